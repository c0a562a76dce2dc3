import Derived.Test.YtipdogbeoflkoaaC7
namespace Go.Proofs.Ytipdogbeoflkoaa
open Go.Eng
end Go.Proofs.Ytipdogbeoflkoaa
