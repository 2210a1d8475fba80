/- BrokerRead of the program returns what the reference's BrokerRead returns, for every text; its rows are its own. No condition. -/
import Derived.Test.YtcaildjhnkedfaaQSaidFnExactBrokerRead
import Derived.Test.YtcaildjhnkedfaaQPlBrokerQ
import Derived.Test.YtcaildjhnkedfaaQPlBrokerE
import Derived.Test.YtcaildjhnkedfaaQPlMarkO
import Derived.Test.YtcaildjhnkedfaaQx15
namespace Go.Proofs.Ytcaildjhnkedfaa.Q.PureFnExactBrokerRead
open Go.RowKit Go.Proofs.YtcaildjhnkedfaaW.PrintWords Go.Proofs.YtcaildjhnkedfaaW.PrintLast Go.Proofs.Ytcaildjhnkedfaa.Q Go.Proofs.Ytcaildjhnkedfaa.Q.BB Go.Proofs.Ytcaildjhnkedfaa.HB
set_option linter.unusedVariables false
set_option linter.unusedSimpArgs false

theorem ans_small (t : ByteArray) : (ansB t).1.length ≤ 4 ∧ (ansB t).2.1.length ≤ 9 ∧ (∀ x ∈ (ansB t).1, szT x) := by
  unfold ansB
  split
  · rename_i L R e hp
    obtain ⟨_, _, _, p3, p4, p5⟩ := brok_ok hp
    split
    · exact ⟨p3, p4, p5⟩
    · exact ⟨by simp [badB], by simp [badB], by simp [badB]⟩
  · exact ⟨by simp [badB], by simp [badB], by simp [badB]⟩
theorem proved : SaidFnExactBrokerRead.Pure := by
  intro x hx
  let K := 100000
  refine ⟨K, ?_⟩
  have hK : K = 100000 := rfl
  clear_value K
  unfold laws_FnExactBrokerRead.f
  by_cases c1 : 1048576 < x.size
  · rw [if_pos c1]
  rw [if_neg c1]
  have same : ∃ y : BRO, spec_BrokerRead.f K x = some y ∧ impl_BrokerRead.f K x = some y ∧ y.1.length ≤ 4 ∧ y.2.1.length ≤ 9 ∧ ∀ p ∈ y.1, szT p := by
    by_cases c2 : (x.size : Int) > 20000
    · unfold spec_BrokerRead.f impl_BrokerRead.f
      rw [if_pos c2, if_pos c2]
      exact ⟨_, rfl, rfl, by simp, by simp, by simp⟩
    · exact ⟨ansB x, spec_read (by omega) (by omega), impl_read (by omega) (by omega), ans_small x⟩
  obtain ⟨⟨L, R, s, c⟩, h1, h2, h3, h4, h5⟩ := same
  dsimp only at h3 h4 h5
  rw [h1, tbind, h2, tbind]
  dsimp only
  have h6 := tmI_small h5
  unfold laws_eqBrokerOut.f
  rw [eqBroker_eq (by omega) (by omega) (by omega) (by omega), tbind, if_pos rfl, if_pos rfl, if_pos rfl, tbind]
  obtain ⟨m, o1, o2, m1, m2, m3⟩ := markBrokerOut_ok (l := L) (r := R) h3 h4 (fun p hp => ⟨(h5 p hp).2.1, (h5 p hp).2.2.1⟩) s c (k := K) (by omega)
  rw [m1, tbind]
  dsimp only
  rw [m3, tbind, if_pos ⟨rfl, m2, rfl⟩]
end Go.Proofs.Ytcaildjhnkedfaa.Q.PureFnExactBrokerRead
