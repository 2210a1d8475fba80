/- NewRight of the program returns what the reference's NewRight returns, for every message. No condition. -/
import Derived.Test.YtlkpjekalidkdaaQSaidFnExactNewRight
import Derived.Test.YtlkpjekalidkdaaQPlSay
import Derived.Test.YtlkpjekalidkdaaQx13
namespace Go.Proofs.Ytlkpjekalidkdaa.Q.PureFnExactNewRight
open Go.RowKit Go.Proofs.YtlkpjekalidkdaaW.PrintWords Go.Proofs.YtlkpjekalidkdaaW.PrintLast Go.Proofs.Ytlkpjekalidkdaa.Q
set_option linter.unusedVariables false
set_option linter.unusedSimpArgs false

theorem proved : SaidFnExactNewRight.Pure := by
  rintro ⟨kd, fr, v, sq, op, l⟩ ⟨_, _, _, _, ho, hl, hg⟩
  have hl : l.length ≤ 9223372036854775807 := le_maxLen hl
  have hw : ∀ x ∈ l, okC x := fun x hx => ⟨le_maxLen (hg x hx).2.2.1, fun p hp => ⟨le_maxLen ((hg x hx).2.2.2 p hp).2.2.1, le_maxLen ((hg x hx).2.2.2 p hp).2.2.2.1⟩⟩
  let K := l.length + (mL l + 4) + 10
  refine ⟨K, ?_⟩
  show laws_FnExactNewRight.f K kd fr v sq op l = some true
  have hK : K = l.length + (mL l + 4) + 10 := rfl
  clear_value K
  obtain ⟨r, hr, h3⟩ := szSay_eq (kd := kd) (fr := fr) (v := v) (sq := sq) (op := op) (l := l) (le_maxLen ho) hl hw (k := K) (by omega)
  unfold laws_FnExactNewRight.f
  rw [hr]
  simp only [Option.bind_some]
  by_cases h : r < 0
  · rw [if_pos h]
  · obtain ⟨h4, h5⟩ := h3 (by omega)
    have e1 : (l.map changeOf).length = l.length := by simp
    have e2 := mI_map l
    rw [if_neg h, toSay_eq (by omega) (by omega) (by omega)]
    simp only [Option.bind_some]
    have e3 : spec_NewRight.f K kd fr v sq op (l.map changeOf) = some (decide (kd = 5) && sayB kd fr v sq op (l.map changeOf)) := by
      unfold spec_NewRight.f
      rw [spec_say_eq (by omega) (by omega) (by omega)]
      by_cases h5 : kd = 5
      · rw [if_pos h5]; simp [h5]
      · rw [if_neg h5]; simp [h5]
    have e4 : impl_NewRight.f K kd fr v sq op (l.map changeOf) = some (decide (kd = 5) && sayB kd fr v sq op (l.map changeOf)) := by
      unfold impl_NewRight.f
      rw [impl_say_eq (by omega) (by omega) (by omega)]
      by_cases h5 : kd = 5
      · rw [if_pos h5]; simp [h5]
      · rw [if_neg h5]; simp [h5]
    rw [e3, e4]
    simp only [Option.bind_some]
    rw [if_neg (by simp), eqSay_eq (by omega) (by omega) (by omega)]
    simp

end Go.Proofs.Ytlkpjekalidkdaa.Q.PureFnExactNewRight
