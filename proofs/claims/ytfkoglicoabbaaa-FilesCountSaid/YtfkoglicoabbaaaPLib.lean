import Derived.Test.YtfkoglicoabbaaaAbYm
namespace Go.Ab
end Go.Ab

