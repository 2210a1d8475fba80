/- SayBytes of the program returns what the reference's SayBytes returns, for every message. No condition. -/
import Derived.Test.YtlkpjekalidkdaaQSaidFnExactSayBytes
import Derived.Test.YtlkpjekalidkdaaQPlSayText
import Derived.Test.YtlkpjekalidkdaaQx17
namespace Go.Proofs.Ytlkpjekalidkdaa.Q.PureFnExactSayBytes
open Go.RowKit Go.Proofs.YtlkpjekalidkdaaW.PrintWords Go.Proofs.YtlkpjekalidkdaaW.PrintLast Go.Proofs.Ytlkpjekalidkdaa.Q
set_option linter.unusedVariables false
set_option linter.unusedSimpArgs false

theorem proved : SaidFnExactSayBytes.Pure := by
  rintro ⟨kd, fr, v, sq, op, l⟩ ⟨_, _, _, _, ho, hl, hg⟩
  have hl : l.length ≤ 9223372036854775807 := le_maxLen hl
  have hw : ∀ x ∈ l, okC x := fun x hx => ⟨le_maxLen (hg x hx).2.2.1, fun p hp => ⟨le_maxLen ((hg x hx).2.2.2 p hp).2.2.1, le_maxLen ((hg x hx).2.2.2 p hp).2.2.2.1⟩⟩
  have hy : ∀ x ∈ l, ∀ p ∈ x.f2, ∀ y ∈ p.f3, i64b y := fun x hx p hp y hy => wf64 (((hg x hx).2.2.2 p hp).2.2.2.2 y hy)
  let K := l.length + 5 * (mL l + 60) + 10
  refine ⟨K, ?_⟩
  show laws_FnExactSayBytes.f K kd fr v sq op l = some true
  have hK : K = l.length + 5 * (mL l + 60) + 10 := rfl
  clear_value K
  obtain ⟨r, hr, h3⟩ := szSay_eq (kd := kd) (fr := fr) (v := v) (sq := sq) (op := op) (l := l) (le_maxLen ho) hl hw (k := K) (by omega)
  unfold laws_FnExactSayBytes.f
  rw [hr]
  simp only [Option.bind_some]
  by_cases h : r < 0
  · rw [if_pos h]
  · obtain ⟨h4, h5⟩ := h3 (by omega)
    have e1 : (l.map changeOf).length = l.length := by simp
    have e2 := mI_map l
    have hd : ∀ c ∈ l.map changeOf, c.f2.length ≤ 3000000 ∧ ∀ p ∈ c.f2, p.f3.length ≤ 3000000 ∧ ∀ y ∈ p.f3, i64b y := by
      intro c hc
      obtain ⟨x, hx, rfl⟩ := List.mem_map.1 hc
      have hb : x.f2.length + byMaxL x.f2 + 4 ≤ mL l := le_sup (fun c : CL => c.f2.length + byMaxL c.f2 + 4) hx
      refine ⟨by simp [changeOf]; omega, fun p hp => ?_⟩
      obtain ⟨q, hq, rfl⟩ := List.mem_map.1 (show p ∈ x.f2.map proofOf from hp)
      have hb2 : q.f3.length ≤ byMaxL x.f2 := le_sup (fun p : PL => p.f3.length) hq
      exact ⟨by show q.f3.length ≤ 3000000; omega, hy x hx q hq⟩
    rw [if_neg h, toSay_eq (by omega) (by omega) (by omega)]
    simp only [Option.bind_some]
    have e3 : spec_SayBytes.f K kd fr v sq op (l.map changeOf) = some (sayTB kd fr v sq op (l.map changeOf)) := by
      unfold spec_SayBytes.f sayTB
      rw [spec_say_eq (by omega) (by omega) (by omega)]
      simp only [Option.bind_some]
      by_cases hs : sayB kd fr v sq op (l.map changeOf) = true
      · obtain ⟨k0, k1, k2, k3, k4, k5, k6⟩ := sayB_ok hs hd
        rw [if_pos hs, if_pos hs, spec_sayT k0 k1 k2 k3 k4 k5 k6 (by omega)]
        rfl
      · rw [if_neg hs, if_neg hs]
    have e4 : impl_SayBytes.f K kd fr v sq op (l.map changeOf) = some (sayTB kd fr v sq op (l.map changeOf)) := by
      unfold impl_SayBytes.f sayTB
      rw [impl_say_eq (by omega) (by omega) (by omega)]
      simp only [Option.bind_some]
      by_cases hs : sayB kd fr v sq op (l.map changeOf) = true
      · obtain ⟨k0, k1, k2, k3, k4, k5, k6⟩ := sayB_ok hs hd
        rw [if_pos hs, if_pos hs, impl_sayT k0 k1 k2 k3 k4 k5 k6 (by omega)]
        rfl
      · rw [if_neg hs, if_neg hs]
    rw [e3, e4]
    simp only [Option.bind_some]
    rw [if_pos trivial, eqSay_eq (by omega) (by omega) (by omega)]
    simp

end Go.Proofs.Ytlkpjekalidkdaa.Q.PureFnExactSayBytes
