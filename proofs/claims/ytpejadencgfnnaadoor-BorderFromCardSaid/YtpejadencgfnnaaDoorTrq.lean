/- Plain law: turns by the tangents of half their angles: cosines and sines, the sum of two turns, the turn back. -/
import Derived.Test.YtpejadencgfnnaaDoorQ
namespace Go.Proofs.YtpejadencgfnnaaDoor.trq
open q

end Go.Proofs.YtpejadencgfnnaaDoor.trq
