import Derived.Test.YtlldeifbfpmbaaaGreatFbJ

