import Derived.Test.YtnmnahkkcfghjaaGreatJh

