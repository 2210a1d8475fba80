/- BrokerTopic of the program returns what the reference's BrokerTopic returns, for every broker and name; its rows are its own. No condition. -/
import Derived.Test.YtokgloeondfkiaaQSaidFnExactBrokerTopic
import Derived.Test.YtokgloeondfkiaaQPlBrokerT
import Derived.Test.YtokgloeondfkiaaQPlMarkB
import Derived.Test.YtokgloeondfkiaaQPlTopicM
import Derived.Test.YtokgloeondfkiaaQx13
namespace Go.Proofs.Ytokgloeondfkiaa.Q.PureFnExactBrokerTopic
open Go.RowKit Go.Proofs.YtokgloeondfkiaaW.PrintWords Go.Proofs.YtokgloeondfkiaaW.PrintLast Go.Proofs.Ytokgloeondfkiaa.Q Go.Proofs.Ytokgloeondfkiaa.HB
set_option linter.unusedVariables false
set_option linter.unusedSimpArgs false

theorem proved : SaidFnExactBrokerTopic.Pure := by
  rintro ⟨l, r⟩ x ⟨⟨hl, hg⟩, hr, hv⟩ _
  have hl : l.length ≤ 9223372036854775807 := le_maxLen hl
  have hr : r.length ≤ 9223372036854775807 := le_maxLen hr
  have hw : ∀ x ∈ l, okT x := fun x hx => ⟨le_maxLen (hg x hx).1, le_maxLen (hg x hx).2.2.1.1, le_maxLen (hg x hx).2.2.2.1, fun y hy => le_maxLen ((hg x hx).2.2.1.2 y hy), fun y hy => le_maxLen ((hg x hx).2.2.2.2 y hy).1⟩
  have hv : ∀ x ∈ r, x.f2.size ≤ 9223372036854775807 := fun x hx => le_maxLen (hv x hx).2.2
  let K := l.length + (r.length + (tmL l + 1)) + 1048576 + 100
  refine ⟨K, ?_⟩
  show laws_FnExactBrokerTopic.f K l r x = some true
  have hK : K = l.length + (r.length + (tmL l + 1)) + 1048576 + 100 := rfl
  clear_value K
  obtain ⟨s, hs, h1, h2, h3⟩ := szBroker_eq (l := l) (r := r) hl hw hr hv (k := K) (by omega)
  unfold laws_FnExactBrokerTopic.f
  by_cases hx : 1048576 < x.size
  · rw [if_pos hx]
  rw [if_neg hx, hs, tbind]
  by_cases h : s < 0
  · rw [if_pos h]
  · obtain ⟨h4, h5, h6⟩ := h3 (by omega)
    have e1 : (l.map topicOf).length = l.length := by simp
    have e3 : (r.map replyOf).length = r.length := by simp
    have e2 := tmI_map l
    have e4 := tmL_le h6
    rw [if_neg h, toBroker_eq (by omega) (fun x hx => ⟨(h6 x hx).2.1, (h6 x hx).2.2.1⟩) (by omega) (by omega), tbind]
    have hsm : ∀ p ∈ l.map topicOf, p.f2.length ≤ 1048576 ∧ p.f3.length ≤ 1048576 := by
      intro p hp
      obtain ⟨q, hq, rfl⟩ := List.mem_map.1 hp
      exact ⟨(h6 q hq).2.1, by have := (h6 q hq).2.2.1; simpa [topicOf] using this⟩
    generalize l.map topicOf = L at e1 e2 hsm
    generalize r.map replyOf = R at e3
    dsimp only
    rw [spec_topicT (by omega) (by omega) (by omega) (by omega), tbind, impl_topicT (by omega) (by omega) (by omega) (by omega), tbind]
    obtain ⟨g1, g2⟩ := ansT_small L R x
    generalize ansT L R x = a at g1 g2
    obtain ⟨a0, a1, a2, a3⟩ := a
    dsimp only at g1 g2 ⊢
    rw [eqTopic_eq (by omega) (by omega) (by omega), tbind, eqBroker_eq (by omega) (by omega) (by omega) (by omega), tbind]
    obtain ⟨m, o1, o2, m1, m2⟩ := markBroker_ok (l := L) (r := R) (B := 1048576) (Nat.le_refl _) (by omega) (by omega) hsm (k := K) (by omega)
    rw [m1, tbind]
    dsimp only
    obtain ⟨p1, p2, q1, q2, q3, q4⟩ := markTopic_eq (nm := a0) (b := a1) (h := a2) (l := a3) (a := 1) (by omega) (by omega) (by omega) (by omega) (k := K) (by omega)
    rw [q1, tbind, q4 a0 a1 K (by omega), tbind, if_pos ⟨rfl, rfl, m2, by omega, rfl⟩]
end Go.Proofs.Ytokgloeondfkiaa.Q.PureFnExactBrokerTopic
