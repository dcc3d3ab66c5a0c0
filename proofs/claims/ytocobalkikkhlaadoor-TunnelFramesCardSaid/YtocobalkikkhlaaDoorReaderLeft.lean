/- What the program's reader has left. -/
import Derived.Test.YtocobalkikkhlaaDoorReader
import Derived.Test.YtocobalkikkhlaaDoorX5
namespace Go.Proofs.YtocobalkikkhlaaDoor.Pure
open Go.RowKit Go.Proofs.YtocobalkikkhlaaDoor.X Go.Proofs.YtocobalkikkhlaaDoorW.PrintWords Go.Proofs.YtocobalkikkhlaaDoorW.PrintLast Go.Proofs.YtocobalkikkhlaaDoorW.PrintMore

theorem left_is (s : ByteArray) (i : Nat) (e : Int) (hs : s.size ≤ 4611686018427387904) (hi : i ≤ s.size) : field_Reader_Left.f s (i : Int) e = some ((s.size : Int) - i, s, (i : Int), e) := by
  unfold field_Reader_Left.f
  rw [w64 (n := (s.size : Int) - i) (by omega) (by omega)]
end Go.Proofs.YtocobalkikkhlaaDoor.Pure
