/- Brokers compared with themselves. -/
import Derived.Test.YtcaildjhnkedfaaQx12
import Derived.Test.YtcaildjhnkedfaaQPlBrokerR
import Derived.Test.YtcaildjhnkedfaaQPlTopicE
namespace Go.Proofs.Ytcaildjhnkedfaa.Q
open Go.RowKit Go.Proofs.YtcaildjhnkedfaaW.PrintWords Go.Proofs.YtcaildjhnkedfaaW.PrintLast Go.Proofs.Ytcaildjhnkedfaa.HB
set_option linter.unusedVariables false
set_option linter.unusedSimpArgs false

theorem eqTopicS_eq {l : List TI} (hl : l.length ≤ 9223372036854775807) (hM : tmI l ≤ 9223372036854775807) {k : Nat} (hk : l.length + (tmI l + 1) < k) : laws_eqTopicS.f k l l = some true := by
  unfold laws_eqTopicS.f
  rw [if_pos rfl]
  refine upLoop (n := l.length) (m := tmI l + 1) (F := fun k i => laws_eqTopicS.l0 k l l i) (fun k => ?_) (fun k i hm hi => ?_) l.length k 0 (by omega) (by omega)
  · simp only [laws_eqTopicS.l0]
    rw [if_neg (by omega)]
  · have hb := tmIi hi
    simp only [laws_eqTopicS.l0]
    rw [if_pos (by omega), if_pos (by omega), if_pos (by omega), eqTopic_eq (by omega) (by omega) (by omega), w_nat hi hl]
    simp
theorem eqReplyS_eq {l : List RI} (hl : l.length ≤ 9223372036854775807) {k : Nat} (hk : l.length < k) : laws_eqReplyS.f k l l = some true := by
  unfold laws_eqReplyS.f
  rw [if_pos rfl]
  refine upLoop (n := l.length) (m := 0) (F := fun k i => laws_eqReplyS.l0 k l l i) (fun k => ?_) (fun k i hm hi => ?_) l.length k 0 (by omega) (by omega)
  · simp only [laws_eqReplyS.l0]
    rw [if_neg (by omega)]
  · simp only [laws_eqReplyS.l0, laws_eqReply.f]
    rw [if_pos (by omega), if_pos (by omega), if_pos (by omega), if_pos trivial, if_pos trivial, if_pos trivial, w_nat hi hl]
    simp
theorem eqBroker_eq {l : List TI} {r : List RI} (hl : l.length ≤ 9223372036854775807) (hr : r.length ≤ 9223372036854775807) (hM : tmI l ≤ 9223372036854775807) {k : Nat} (hk : l.length + (r.length + (tmI l + 1)) < k) : laws_eqBroker.f k l r l r = some true := by
  unfold laws_eqBroker.f
  rw [eqTopicS_eq hl hM (by omega), eqReplyS_eq hr (by omega)]
  rfl
end Go.Proofs.Ytcaildjhnkedfaa.Q
