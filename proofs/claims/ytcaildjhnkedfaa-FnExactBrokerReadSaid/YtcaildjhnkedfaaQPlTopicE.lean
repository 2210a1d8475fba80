/- Topics compared with themselves. -/
import Derived.Test.YtcaildjhnkedfaaQx11
import Derived.Test.YtcaildjhnkedfaaQPlTopicR
namespace Go.Proofs.Ytcaildjhnkedfaa.Q
open Go.RowKit Go.Proofs.YtcaildjhnkedfaaW.PrintWords Go.Proofs.YtcaildjhnkedfaaW.PrintLast Go.Proofs.Ytcaildjhnkedfaa.HB
set_option linter.unusedVariables false
set_option linter.unusedSimpArgs false

theorem eqStringS_eq {l : List ByteArray} (hl : l.length ≤ 9223372036854775807) {k : Nat} (hk : l.length < k) : laws_eqStringS.f k l l = some true := by
  unfold laws_eqStringS.f
  rw [if_pos rfl]
  refine upLoop (n := l.length) (m := 0) (F := fun k i => laws_eqStringS.l0 k l l i) (fun k => ?_) (fun k i hm hi => ?_) l.length k 0 (by omega) (by omega)
  · simp only [laws_eqStringS.l0]
    rw [if_neg (by omega)]
  · simp only [laws_eqStringS.l0]
    rw [if_pos (by omega), if_pos (by omega), if_pos (by omega), if_pos trivial, w_nat hi hl]
theorem eqGroupS_eq {l : List GT} (hl : l.length ≤ 9223372036854775807) {k : Nat} (hk : l.length < k) : laws_eqGroupS.f k l l = some true := by
  unfold laws_eqGroupS.f
  rw [if_pos rfl]
  refine upLoop (n := l.length) (m := 0) (F := fun k i => laws_eqGroupS.l0 k l l i) (fun k => ?_) (fun k i hm hi => ?_) l.length k 0 (by omega) (by omega)
  · simp only [laws_eqGroupS.l0]
    rw [if_neg (by omega)]
  · simp only [laws_eqGroupS.l0, laws_eqGroup.f]
    rw [if_pos (by omega), if_pos (by omega), if_pos (by omega), if_pos trivial, if_pos trivial, w_nat hi hl]
    simp
theorem eqTopic_eq {nm : ByteArray} {b : Int} {h : List ByteArray} {l : List GT} (hh : h.length ≤ 9223372036854775807) (hl : l.length ≤ 9223372036854775807) {k : Nat} (hk : h.length + l.length < k) : laws_eqTopic.f k nm b h l nm b h l = some true := by
  unfold laws_eqTopic.f
  rw [if_pos rfl, if_pos rfl, eqStringS_eq hh (by omega), eqGroupS_eq hl (by omega)]
  rfl
end Go.Proofs.Ytcaildjhnkedfaa.Q
