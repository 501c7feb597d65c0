import Derived.Test.YtlldeifbfpmbaaaGreatFlA

