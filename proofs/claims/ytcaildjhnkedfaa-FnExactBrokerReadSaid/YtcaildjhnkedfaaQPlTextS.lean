/- Encodings of texts: what spec.PutText answers. -/
import Derived.Test.YtcaildjhnkedfaaQx3
import Derived.Test.YtcaildjhnkedfaaQPlNumS
import Derived.Test.YtcaildjhnkedfaaQPlLoops
namespace Go.Proofs.Ytcaildjhnkedfaa.Q
open Go.RowKit Go.Proofs.YtcaildjhnkedfaaW.PrintWords Go.Proofs.YtcaildjhnkedfaaW.PrintLast
set_option linter.unusedVariables false
set_option linter.unusedSimpArgs false

def textT (s : ByteArray) : ByteArray := numT (s.size : Int) ++ s
theorem textT_size {s : ByteArray} (h : s.size ≤ 1000000000) : (textT s).size ≤ s.size + 10 := by
  have := numT_size (n := (s.size : Int)) (by omega) (by omega)
  unfold textT
  rw [ByteArray.size_append]
  omega
theorem spec_text_eq {s : ByteArray} (h : s.size ≤ 20000) {k : Nat} (hk : 30 ≤ k) : spec_PutText.f k s = some (textT s) := by
  have := numT_size (n := (s.size : Int)) (by omega) (by omega)
  unfold spec_PutText.f
  rw [if_neg (by omega), spec_num_eq (by omega) (by omega) hk]
  simp only [Option.bind_some]
  rw [if_pos (by omega)]
  rfl

end Go.Proofs.Ytcaildjhnkedfaa.Q
