import Derived.Test.YtipdogbeoflkoaaC2
namespace Go.Proofs.Ytipdogbeoflkoaa
open Go.Eng
end Go.Proofs.Ytipdogbeoflkoaa
