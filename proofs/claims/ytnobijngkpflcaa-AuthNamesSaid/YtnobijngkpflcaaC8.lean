import Derived.Test.YtnobijngkpflcaaC7
namespace Go.Proofs.Ytnobijngkpflcaa
open Go.Eng
end Go.Proofs.Ytnobijngkpflcaa
