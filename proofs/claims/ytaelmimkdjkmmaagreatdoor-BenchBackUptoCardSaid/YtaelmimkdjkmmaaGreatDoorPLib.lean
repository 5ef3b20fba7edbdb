import Derived.Test.YtaelmimkdjkmmaaGreatDoorAbYg
namespace Go.Ab
end Go.Ab
