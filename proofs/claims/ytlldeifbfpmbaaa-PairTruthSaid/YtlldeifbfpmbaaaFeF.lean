import Derived.Test.YtlldeifbfpmbaaaFeA

