/- A drawn valid command is decoded from its encoding and has a name; names, encodings and decoded texts of the program are those of the reference. No condition. -/
import Derived.Test.YtbediildfabhnaaDoorQSaidFnCommand
import Derived.Test.YtbediildfabhnaaDoorQPlCommandE
import Derived.Test.YtbediildfabhnaaDoorQPlCommandD
import Derived.Test.YtbediildfabhnaaDoorQPlCommand
import Derived.Test.YtbediildfabhnaaDoorQx11
namespace Go.Proofs.YtbediildfabhnaaDoor.Q.PureFnCommand
open Go.RowKit Go.Proofs.YtbediildfabhnaaDoorW.PrintWords Go.Proofs.YtbediildfabhnaaDoorW.PrintLast Go.Proofs.YtbediildfabhnaaDoor.Q Go.Proofs.YtbediildfabhnaaDoor.HB
set_option linter.unusedVariables false
set_option linter.unusedSimpArgs false

theorem name_eq {n : Int} (h : in64 n) : ∃ s, impl_CommandName.f n = some s ∧ spec_CommandName.f n = some s := by
  unfold impl_CommandName.f spec_CommandName.f
  rw [cWithin_eq, cIs_eq]
  simp only [Option.bind_some]
  by_cases c : 1 ≤ n ∧ n ≤ 7
  · rw [if_pos (decide_eq_true c), if_pos (decide_eq_true c), if_pos c.1, if_pos c.2]
    obtain rfl | rfl | rfl | rfl | rfl | rfl | rfl : n = 1 ∨ n = 2 ∨ n = 3 ∨ n = 4 ∨ n = 5 ∨ n = 6 ∨ n = 7 := by omega
    all_goals exact ⟨_, rfl, by simp only [spec_l06Kinds.f, Option.bind_some]; rw [w_id (by omega) (by omega)]; rfl⟩
  · rw [if_neg (by simpa using c), if_neg (by simpa using c)]
    exact ⟨_, rfl, rfl⟩
theorem name_some {n : Int} (h : 1 ≤ n ∧ n ≤ 7) : ∃ s, impl_CommandName.f n = some s ∧ (s.toList == ([] : List UInt8)) = false := by
  unfold impl_CommandName.f
  rw [cWithin_eq]
  simp only [Option.bind_some]
  rw [if_pos (decide_eq_true h), if_pos h.1, if_pos h.2]
  obtain rfl | rfl | rfl | rfl | rfl | rfl | rfl : n = 1 ∨ n = 2 ∨ n = 3 ∨ n = 4 ∨ n = 5 ∨ n = 6 ∨ n = 7 := by omega
  all_goals exact ⟨_, rfl, by rw [Go.ByteArray.toList_eq]; rfl⟩
theorem kind_rng {a b c n : Int} {t p q : ByteArray} (h : commandB a b c t p q n = true) : 1 ≤ c ∧ c ≤ 7 := by
  simp only [commandB, Bool.and_eq_true] at h
  have hb := h.2.2.2
  unfold bodyB at hb
  split at hb
  · omega
  · split at hb
    · omega
    · split at hb
      · omega
      · split at hb
        · omega
        · exact absurd hb (by decide)
theorem last_ok {x1 : List Int} (hl : x1.length ≤ 2000000) {k : Nat} (hk : 60000 ≤ k) : laws_FnCommand.j1 (k + 1) x1 false = some true := by
  obtain ⟨u, e, hu⟩ := drawRead_ok hl (k := k) (by omega)
  simp only [laws_FnCommand.j1]
  rw [if_neg (by decide), e]
  simp only [Option.bind_some]
  rw [impl_Read_eq (by omega) (by omega), spec_Read_eq (by omega) (by omega)]
  simp only [Option.bind_some, beq_self_eq_true, Bool.and_self, if_true]
  by_cases h : cOk u
  · rw [if_pos h, if_pos (show (coRead u).2.2.2.2.2.2.2 = 0 from rfl)]
    obtain ⟨h1, h2⟩ := cText (t := u) (by omega) h.1
    obtain ⟨g0, g1, g2, g3, g4, g5, g6⟩ := cs_rng (t := u) (by omega)
    have z4 := wV_size (t := u) g3.1
    have z5 := wV_size (t := u) g4.1
    have : impl_CommandBytes.f k (coRead u).1 (coRead u).2.1 (coRead u).2.2.1 (coRead u).2.2.2.1 (coRead u).2.2.2.2.1 (coRead u).2.2.2.2.2.1 (coRead u).2.2.2.2.2.2.1 = some u := by
      show impl_CommandBytes.f k (nV u 0) (nV u (c1 u)) (nV u (c2 u)) (wV u (c3 u)) (wV u (c4 u)) (wV u (c5 u)) (nV u (c6 u)) = some u
      rw [impl_CommandBytes_eq (nV_rng g0.1) (nV_rng g1.1) (nV_rng g2.1) (nV_rng g6.1) (by omega) (by omega) (by omega)]
      unfold commandTB
      rw [show commandB (nV u 0) (nV u (c1 u)) (nV u (c2 u)) (wV u (c3 u)) (wV u (c4 u)) (wV u (c5 u)) (nV u (c6 u)) = cRight u from rfl, if_pos h.2.2, h1, h.2.1]
      exact congrArg some ByteArray.extract_zero_size
    rw [this]
    simp only [Option.bind_some, beq_self_eq_true]
  · rw [if_neg h, if_neg (by decide)]
theorem proved : SaidFnCommand.Pure := by
  rintro x0 x1 ⟨h0, _⟩ ⟨h1, _⟩
  have h0 := le_maxLen h0
  have h1 := le_maxLen h1
  refine ⟨60002, ?_⟩
  unfold laws_FnCommand.f
  by_cases c0 : (x0.length : Int) > 1048576
  · rw [if_pos c0]
    simp only [laws_FnCommand.j0, if_true]
  · rw [if_neg c0]
    by_cases c1' : (x1.length : Int) > 1048576
    · rw [decide_eq_true c1']
      simp only [laws_FnCommand.j0, if_true]
    · rw [decide_eq_false c1']
      simp only [laws_FnCommand.j0]
      rw [if_neg (by decide)]
      obtain ⟨a, b, c, t, p, q, n, e, ha, hb, hc, hn, ht, hp, hq⟩ := drawBytes_ok (x0 := x0) (by omega) (k := 60001) (by omega)
      obtain ⟨u, eu, hu⟩ := drawName_ok (x0 := x1) (by omega) (k := 60001) (by omega)
      obtain ⟨s, s1, s2⟩ := name_eq hu
      rw [e]
      simp only [Option.bind_some]
      rw [impl_CommandBytes_eq ha hb hc hn (by omega) (by omega) (by omega), spec_commandBytes_eq ha hb hc hn (by omega) (by omega) (by omega), eu]
      simp only [Option.bind_some, if_true]
      have hr : impl_CommandRight.f 60001 a b c t p q n = some (commandB a b c t p q n) := by
        unfold impl_CommandRight.f
        rw [impl_command_eq (by omega) (by omega) (by omega)]
        rfl
      rw [hr, spec_command_eq (by omega) (by omega) (by omega)]
      simp only [Option.bind_some]
      rw [if_neg (by simp), s1, s2]
      simp only [Option.bind_some, if_true]
      by_cases hT : (commandTB a b c t p q n).toList = ([] : List UInt8)
      · rw [if_pos hT]
        exact last_ok (k := 60000) (by omega) (by omega)
      · rw [if_neg hT]
        have hB : commandB a b c t p q n = true := by
          cases hB : commandB a b c t p q n with
          | true => rfl
          | false =>
            exfalso
            apply hT
            unfold commandTB
            rw [hB, if_neg (by decide), Go.ByteArray.toList_eq]
        obtain ⟨k1, k2, k3, k4⟩ := cmd_enc ha hb hc hn hB
        have hTB : commandTB a b c t p q n = commandT a b c t p q n := by unfold commandTB; rw [if_pos hB]
        rw [hTB, impl_Read_eq (by omega) (by omega), if_pos k1, k2]
        simp only [Option.bind_some, beq_self_eq_true, Bool.not_true, Bool.or_self, Bool.false_eq_true, if_false]
        obtain ⟨v, v1, v2⟩ := name_some (kind_rng hB)
        rw [v1]
        simp only [Option.bind_some]
        rw [v2]
        exact last_ok (k := 60000) (by omega) (by omega)

end Go.Proofs.YtbediildfabhnaaDoor.Q.PureFnCommand
