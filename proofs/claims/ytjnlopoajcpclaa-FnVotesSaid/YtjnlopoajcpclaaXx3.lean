/- Printed by a program of this session (wip/mp.py over the kit's print.py): functions of the translation as plain Lean functions, and that the machine's calls do what these say. -/
import Derived.Test.YtjnlopoajcpclaaXx0
import Derived.Test.YtjnlopoajcpclaaXx2
namespace Go.Proofs.Ytjnlopoajcpclaa.X
open Go.RowKit Go.Proofs.Ytjnlopoajcpclaa.HB Go.Proofs.YtjnlopoajcpclaaW.PrintWords Go.Proofs.YtjnlopoajcpclaaW.PrintLast Go.Proofs.YtjnlopoajcpclaaW.PrintMore
attribute [local go_sem] max2_int min2_int max_two min_two max_three min_three max_four min_four   -- for this text's walks alone
set_option linter.unusedVariables false
set_option linter.unusedSimpArgs false

/-! ### spec_VotesRight: function 68 -/

def spec_VotesRight.l0 : Nat → List (S32) → Int → Option (Bool)
  | 0, _, _ => none
  | k + 1, x0, x3 => if x3 < (x0.length : Int) then (if 0 ≤ x3 then ((spec_l11Vote.f ((rd_T32 x0 x3).f0) ((rd_T32 x0 x3).f1) ((rd_T32 x0 x3).f2) ((rd_T32 x0 x3).f3) ((rd_T32 x0 x3).f4)).bind fun t102 => (if t102 = true then (if x3 ≤ (x0.length : Int) then ((spec_l11Has.f k (x0.take (x3 : Int).toNat) ((rd_T32 x0 x3).f0) ((rd_T32 x0 x3).f1) ((rd_T32 x0 x3).f2) ((rd_T32 x0 x3).f3) ((rd_T32 x0 x3).f4)).bind fun t108 => (if t108 = true then (some false) else (spec_VotesRight.l0 k x0 (wrap64 (x3 + 1))))) else (none)) else (some false))) else (none)) else (some true)
def spec_VotesRight.f (k : Nat) (l0 : List (S32)) : Option (Bool) := if (l0.length : Int) > 400 then (some false) else (spec_VotesRight.l0 k l0 0)
theorem spec_VotesRight.mono_l : ∀ k, (∀ y0 y1, LeO (spec_VotesRight.l0 k y0 y1) (spec_VotesRight.l0 (k + 1) y0 y1))
  | 0 => fun _ _ r h => by simp [spec_VotesRight.l0] at h
  | k + 1 => by
    have ih0 := spec_VotesRight.mono_l k
    · intro y0 y1
      unfold spec_VotesRight.l0
      repeat' first
      | (with_reducible exact ih0 _ _)
      | (with_reducible exact spec_l11Has.mono _ _ _ _ _ _ _)
      | (with_reducible exact LeO.refl _)
      | (with_reducible exact LeO.none _)
      | (with_reducible refine LeO.ite ?_ ?_)
      | (with_reducible refine LeO.bind ?_ (fun _ => ?_))
      | exact ih0 _ _
      | exact spec_l11Has.mono _ _ _ _ _ _ _
      | exact LeO.none _
      | refine LeO.ite ?_ ?_
      | refine LeO.bind ?_ (fun _ => ?_)
theorem spec_VotesRight.mono : ∀ a0 k, LeO (spec_VotesRight.f k a0) (spec_VotesRight.f (k + 1) a0) := by
  intro a0 k
  have ih0 := spec_VotesRight.mono_l k
  unfold spec_VotesRight.f
  repeat' first
      | (with_reducible exact ih0 _ _)
      | (with_reducible exact spec_l11Has.mono _ _ _ _ _ _ _)
      | (with_reducible exact LeO.refl _)
      | (with_reducible exact LeO.none _)
      | (with_reducible refine LeO.ite ?_ ?_)
      | (with_reducible refine LeO.bind ?_ (fun _ => ?_))
      | exact ih0 _ _
      | exact spec_l11Has.mono _ _ _ _ _ _ _
      | exact LeO.none _
      | refine LeO.ite ?_ ?_
      | refine LeO.bind ?_ (fun _ => ?_)
def spec_VotesRight.T6 : Bool × List (List Nat × List Nat) := (true, [([], []), ([], []), ([0, 1], [0, 1]), ([2], [2]), ([3], [3]), ([4], [4]), ([5, 4], [5]), ([6], [6]), ([6], [6]), ([7, 8, 6], [6, 7, 8]), ([6], [6]), ([6], [6]), ([10, 11, 6], [6, 10, 11]), ([12, 6], [6, 12]), ([9, 13, 6, 6], [6, 9, 13]), ([6, 14], [6, 14])])
def spec_VotesRight.B6 : List Nat := [0, 0, 3, 7, 15, 31, 63, 127, 127, 511, 127, 127, 3199, 7295, 16383, 32767]
theorem spec_VotesRight.tab6 : rtab .any (opsOf Try.f68 6) = spec_VotesRight.T6 := by kernel_rfl
theorem spec_VotesRight.bits6 : waitsOk spec_VotesRight.T6.2 spec_VotesRight.B6 = true := by kernel_rfl
set_option maxHeartbeats 60000000 in
set_option maxRecDepth 100000 in
theorem spec_VotesRight.calls (k : Nat) (A0 : Option Addr) (c0 : Nat) (l0 : List (S32)) (r : Bool) (w : World) (hr0 : Kd.C k32 w A0 l0.length l0) (hc0 : l0.length ≤ c0) (h : spec_VotesRight.f k l0 = some r) :
    Calls Try.prog 68 #[.slice A0 l0.length c0] w fun e w' => e = .returned (.bool r) ∧ Below w.heap.size w w' := by
 have hu32 := Try.underlying32
 have HR0 := AM hr0
 have HC0 := AM hc0
 clear hr0 hc0
 have HB := AM (Below.refl w.heap.size w)
 have H : (if (l0.length : Int) > 400 then (some false) else (spec_VotesRight.l0 k l0 0)) = some r := h
 clear h
 by_cases c2 : (l0.length : Int) > 400
 ·
  rw [if_pos c2] at H
  have c2b0 : decide (400 < (l0.length : Int)) = true := decide_eq_true c2
  have c2b1 : decide (400 < l0.length) = true := decide_eq_true (by omega)
  clear c2
  obtain rfl := Option.some.inj H
  go_enter Try.func68, Try.ntmps68
  go_wp2
  go_ret
  exact ⟨by first | rfl | (simp [*, errW_none, errW_some] <;> rfl), by repeat (first | (with_reducible first | exact HB.out | apply bA | apply bN | apply bD) | exact HB.out)⟩
 ·
  rw [if_neg c2] at H
  have c2b0 : decide (400 < (l0.length : Int)) = false := decide_eq_false c2
  have c2b1 : decide (400 < l0.length) = false := decide_eq_false (by omega)
  clear c2
  have H' := AM H
  clear H
  go_enter Try.func68, Try.ntmps68
  go_wp2
  go_loopg [3] k (fun kq v3 w' => ∃ (x3_1 : Int), v3 = .int .i64 x3_1 ∧ Aside0 (spec_VotesRight.l0 kq l0 x3_1 = some r) ∧ Aside0 (kq ≤ k) ∧ Aside0 (Below w.heap.size w w'))
  case atStart => exact ⟨(0), (by first | rfl | (simp; done) | (simp [*]; done)), H', ⟨Nat.le_refl _⟩, ⟨by repeat (first | (with_reducible first | exact HB.out | apply bA | apply bN | apply bD) | exact HB.out)⟩⟩
  case round =>
   clear H'
   try clear c2
   try clear c2b0
   try clear c2b1
   try clear p2
   obtain ⟨x3_1, rfl, HA, HK1, HB⟩ := hrel
   cases gk with
   | zero => exact absurd HA.out (by simp [spec_VotesRight.l0])
   | succ k1 =>
    have H := HA.out
    clear HA
    simp only [spec_VotesRight.l0] at H
    by_cases c3 : x3_1 < (l0.length : Int)
    ·
     rw [if_pos c3] at H
     have c3b0 : decide (x3_1 < (l0.length : Int)) = true := decide_eq_true c3
     clear c3
     by_cases c4 : 0 ≤ x3_1
     ·
      rw [if_pos c4] at H
      have c4b0 : decide (0 ≤ x3_1) = true := decide_eq_true c4
      clear c4
      replace H := Option.bind_eq_some_iff.mp H
      obtain ⟨t102, A50, H⟩ := H
      replace H : (if t102 = true then (if x3_1 ≤ (l0.length : Int) then ((spec_l11Has.f k1 (l0.take (x3_1 : Int).toNat) ((rd_T32 l0 x3_1).f0) ((rd_T32 l0 x3_1).f1) ((rd_T32 l0 x3_1).f2) ((rd_T32 l0 x3_1).f3) ((rd_T32 l0 x3_1).f4)).bind fun t108 => (if t108 = true then (some false) else (spec_VotesRight.l0 k1 l0 (wrap64 (x3_1 + 1))))) else (none)) else (some false)) = some r := H
      have A5 := AM A50
      clear A50
      by_cases c6 : t102 = true
      ·
       subst c6
       have H1 : (if x3_1 ≤ (l0.length : Int) then ((spec_l11Has.f k1 (l0.take (x3_1 : Int).toNat) ((rd_T32 l0 x3_1).f0) ((rd_T32 l0 x3_1).f1) ((rd_T32 l0 x3_1).f2) ((rd_T32 l0 x3_1).f3) ((rd_T32 l0 x3_1).f4)).bind fun t108 => (if t108 = true then (some false) else (spec_VotesRight.l0 k1 l0 (wrap64 (x3_1 + 1))))) else (none)) = some r := by rw [if_pos rfl] at H; exact H
       clear H
       have H := H1
       clear H1
       have c7b0 := eq_true (of_decide_eq_true (by assumption) : 0 ≤ x3_1)
       by_cases c8 : x3_1 ≤ (l0.length : Int)
       ·
        rw [if_pos c8] at H
        have c8b0 := eq_true c8
        have c8b1 : decide (x3_1 ≤ (l0.length : Int)) = true := decide_eq_true c8
        clear c8
        obtain ⟨y103, hy103⟩ : ∃ y_ : List (S32), y_ = (l0.take (x3_1 : Int).toNat) := ⟨_, rfl⟩
        replace H : ((spec_l11Has.f k1 y103 ((rd_T32 l0 x3_1).f0) ((rd_T32 l0 x3_1).f1) ((rd_T32 l0 x3_1).f2) ((rd_T32 l0 x3_1).f3) ((rd_T32 l0 x3_1).f4)).bind fun t108 => (if t108 = true then (some false) else (spec_VotesRight.l0 k1 l0 (wrap64 (x3_1 + 1))))) = some r := by first | (rw [hy103]; with_reducible exact H) | (have H2_ := (Option.bind_some _ _).symm.trans H; rw [hy103]; with_reducible exact H2_) | (have H2_ := (Option.bind_some _ _).symm.trans H; with_reducible exact H2_) | with_reducible exact H | (rw [hy103]; exact H) | exact H
        have Ny103 := AM hy103
        clear hy103
        replace H := Option.bind_eq_some_iff.mp H
        obtain ⟨t108, A90, H⟩ := H
        replace H : (if t108 = true then (some false) else (spec_VotesRight.l0 k1 l0 (wrap64 (x3_1 + 1)))) = some r := H
        have A9 := AM A90
        clear A90
        by_cases c10 : t108 = true
        ·
         subst c10
         have H1 : (some false) = some r := by rw [if_pos rfl] at H; exact H
         clear H
         have H := H1
         clear H1
         obtain rfl := Option.some.inj H
         try go_wp2
         have n0_ := AM (bD HB.out)
         clear HB
         have HB := n0_
         clear n0_
         have p101 : 0 ≤ (x3_1 : Int) := of_decide_eq_true (by assumption)
         have q101 : x3_1 < (l0.length : Int) := of_decide_eq_true (by assumption)
         obtain ⟨ad101, e101, hx101_0, hx101_1, hx101_2, hx101_3, hx101_4⟩ := at_T32 HR0.out x3_1 p101 q101
         have hw101_4 := hx101_4
         have hw101_3 := hx101_3
         have hw101_2 := hx101_2
         have hw101_1 := hx101_1
         have hw101_0 := hx101_0
         cases e101
         replace hx101_0 := pw_cell_below HB.out hx101_0
         replace hx101_1 := pw_cell_below HB.out hx101_1
         replace hx101_2 := pw_cell_below HB.out hx101_2
         replace hx101_3 := pw_cell_below HB.out hx101_3
         replace hx101_4 := pw_cell_below HB.out hx101_4
         replace p101 := eq_true p101
         replace q101 := eq_true q101
         have p107 : 0 ≤ (x3_1 : Int) := of_decide_eq_true (by assumption)
         have q107 : x3_1 < (l0.length : Int) := of_decide_eq_true (by assumption)
         obtain ⟨ad107, e107, hx107_0, hx107_1, hx107_2, hx107_3, hx107_4⟩ := at_T32 HR0.out x3_1 p107 q107
         have hw107_4 := hx107_4
         have hw107_3 := hx107_3
         have hw107_2 := hx107_2
         have hw107_1 := hx107_1
         have hw107_0 := hx107_0
         obtain rfl : ad101 = ad107 := (by injection e107)
         replace hx107_0 := pw_cell_below HB.out hx107_0
         replace hx107_1 := pw_cell_below HB.out hx107_1
         replace hx107_2 := pw_cell_below HB.out hx107_2
         replace hx107_3 := pw_cell_below HB.out hx107_3
         replace hx107_4 := pw_cell_below HB.out hx107_4
         replace p107 := eq_true p107
         replace q107 := eq_true q107
         refine start_ (n := 16) (S := fun w' => w'.cell? (ad101.add ((x3_1).toNat * 5)) = some (.int .i64 ((rd_T32 l0 x3_1).f0)) ∧ w'.cell? ⟨(ad101.add ((x3_1).toNat * 5)).block, (ad101.add ((x3_1).toNat * 5)).off + 1, none⟩ = some (.int .i64 ((rd_T32 l0 x3_1).f1)) ∧ w'.cell? ⟨(ad101.add ((x3_1).toNat * 5)).block, (ad101.add ((x3_1).toNat * 5)).off + 2, none⟩ = some (.int .i64 ((rd_T32 l0 x3_1).f2)) ∧ w'.cell? ⟨(ad101.add ((x3_1).toNat * 5)).block, (ad101.add ((x3_1).toNat * 5)).off + 3, none⟩ = some (.string ((rd_T32 l0 x3_1).f3)) ∧ w'.cell? ⟨(ad101.add ((x3_1).toNat * 5)).block, (ad101.add ((x3_1).toNat * 5)).off + 4, none⟩ = some (.int .i64 ((rd_T32 l0 x3_1).f4)) ∧ w'.cell? (ad101.add ((x3_1).toNat * 5)) = some (.int .i64 ((rd_T32 l0 x3_1).f0)) ∧ w'.cell? ⟨(ad101.add ((x3_1).toNat * 5)).block, (ad101.add ((x3_1).toNat * 5)).off + 1, none⟩ = some (.int .i64 ((rd_T32 l0 x3_1).f1)) ∧ w'.cell? ⟨(ad101.add ((x3_1).toNat * 5)).block, (ad101.add ((x3_1).toNat * 5)).off + 2, none⟩ = some (.int .i64 ((rd_T32 l0 x3_1).f2)) ∧ w'.cell? ⟨(ad101.add ((x3_1).toNat * 5)).block, (ad101.add ((x3_1).toNat * 5)).off + 3, none⟩ = some (.string ((rd_T32 l0 x3_1).f3)) ∧ w'.cell? ⟨(ad101.add ((x3_1).toNat * 5)).block, (ad101.add ((x3_1).toNat * 5)).off + 4, none⟩ = some (.int .i64 ((rd_T32 l0 x3_1).f4))) (ds := []) (upTo 0 16) (by kernel_rfl) rfl rfl ⟨(pw_cell_below HB.out hw101_0), (pw_cell_below HB.out hw101_1), (pw_cell_below HB.out hw101_2), (pw_cell_below HB.out hw101_3), (pw_cell_below HB.out hw101_4), (pw_cell_below HB.out hw107_0), (pw_cell_below HB.out hw107_1), (pw_cell_below HB.out hw107_2), (pw_cell_below HB.out hw107_3), (pw_cell_below HB.out hw107_4)⟩ (fun hHeld => ?_); refine with_tabW spec_VotesRight.tab6 spec_VotesRight.bits6 (fun HT_ HW_ => ?_)
         generalize wr.drew = w11 at HB hx101_0 hx101_1 hx101_2 hx101_3 hx101_4 hx107_0 hx107_1 hx107_2 hx107_3 hx107_4 hHeld ⊢
         refine pF 0 1 16 13 ?_
         refine pF 1 2 16 14 ?_
         refine pF 2 3 16 15 ?_
         refine pT2 3 16 (upTo 4 16) ?_ hHeld
         refine one_ (i := 4) (N := some 17) (upTo 5 16) rfl rfl (one_of HT_.out (by kernel_rfl)) (by decide) (fun K hK => ?_)
         refine goes_ Try.func69 (by kernel_rfl) rfl #[.agg #[.int .i64 ((rd_T32 l0 x3_1).f0), .int .i64 ((rd_T32 l0 x3_1).f1), .int .i64 ((rd_T32 l0 x3_1).f2), .string ((rd_T32 l0 x3_1).f3), .int .i64 ((rd_T32 l0 x3_1).f4)]] (by rfl) rfl rfl (by (try simp only [mA, mB, mC]); first | done | rfl | (simp only [mD, mE]; rfl)) ?_
         with_reducible refine (spec_l11Vote.calls ((rd_T32 l0 x3_1).f0) ((rd_T32 l0 x3_1).f1) ((rd_T32 l0 x3_1).f2) ((rd_T32 l0 x3_1).f3) ((rd_T32 l0 x3_1).f4) true _ A5.out).mono ?_
         rintro e w12 ⟨rfl, hb⟩
         refine ⟨_, rfl, ?_⟩
         have n0_ := AM (below_step (by repeat (first | (with_reducible first | exact HB.out | apply bA | apply bN | apply bD) | exact HB.out)) hb)
         clear HB
         have HB := n0_
         clear n0_
         (try clear hb)
         (try clear hb2)
         (try clear hk)
         (try clear hi)
         have q13 : (x3_1 : Int) ≤ ((l0.length : Int) : Int) := of_decide_eq_true (by assumption)
         obtain ⟨i013, hi013, _, hsz13, _⟩ := info_parts info32
         have hroom13 : l0.length ≤ c0 := HC0.out
         have hC13 : Kd.C k32 _ (some ad101) l0.length l0 := HR0.out
         have hcut13 := cut_to (P := Try.prog) 27 32 .i64 Try.underlying27 hi013 (some ad101) l0.length c0 x3_1 (of_decide_eq_true (by assumption)) q13 hroom13
         have hr13 := Kd.C_take (m := (x3_1 : Int).toNat) hC13 (by omega)
         have hy13 : y103.length = (x3_1 : Int).toNat := (by rw [Ny103.out, mE]; omega)
         rw [← Ny103.out] at hr13
         rw [← hy13] at hcut13
         have HR106 := AM hr13
         have HC106 := AM (show y103.length ≤ c0 from by omega)
         clear hr13 hC13 hroom13 hi013 hsz13
         have KY13 := AM hy13
         clear hy13
         replace q13 := eq_true q13
         refine hK.out _ _ ⟨(pw_cell_below HB.out hw101_0), (pw_cell_below HB.out hw101_1), (pw_cell_below HB.out hw101_2), (pw_cell_below HB.out hw101_3), (pw_cell_below HB.out hw101_4), (pw_cell_below HB.out hw107_0), (pw_cell_below HB.out hw107_1), (pw_cell_below HB.out hw107_2), (pw_cell_below HB.out hw107_3), (pw_cell_below HB.out hw107_4)⟩ (fun hHeld => ?_)
         clear hK K
         refine norm_ (a' := ?_) ?_ ?_
         rotate_left
         ·
          show Act.put _ (some 17) _ = _
          simp only [Act.put, sA, sB, sC, i64_w, i32_w]
          rfl
         refine pF 5 6 16 18 ?_
         refine pF 6 7 16 19 ?_
         refine pF 7 8 16 20 ?_
         refine pF 8 9 16 21 ?_
         refine pF 9 10 16 22 ?_
         refine pF 10 11 16 23 ?_
         refine pF 11 12 16 24 ?_
         refine pF 12 13 16 25 ?_
         refine pT2 13 26 (upTo 14 16) ?_ hHeld
         refine one_ (i := 14) (N := some 27) (upTo 15 16) rfl rfl (one_of HT_.out (by kernel_rfl)) (by decide) (fun K hK => ?_)
         refine goes_ Try.func111 (by kernel_rfl) rfl #[.slice (some ad101) y103.length c0, .agg #[.int .i64 ((rd_T32 l0 x3_1).f0), .int .i64 ((rd_T32 l0 x3_1).f1), .int .i64 ((rd_T32 l0 x3_1).f2), .string ((rd_T32 l0 x3_1).f3), .int .i64 ((rd_T32 l0 x3_1).f4)]] (by rfl) rfl rfl (by (try simp only [mA, mB, mC]); first | done | rfl | (simp only [mD, mE]; rfl)) ?_
         with_reducible refine (spec_l11Has.calls k1 _ _ y103 ((rd_T32 l0 x3_1).f0) ((rd_T32 l0 x3_1).f1) ((rd_T32 l0 x3_1).f2) ((rd_T32 l0 x3_1).f3) ((rd_T32 l0 x3_1).f4) true _ ?side1 ?side2 A9.out).mono ?_
         (case side1 => repeat (first | exact (cB HR106.out HB.out) | (with_reducible refine cA ?_ _) | (with_reducible refine cN ?_ _) | (with_reducible refine cD ?_)))
         (case side2 => exact HC106.out)
         rintro e w14 ⟨rfl, hb⟩
         refine ⟨_, rfl, ?_⟩
         have n0_ := AM (below_step (by repeat (first | (with_reducible first | exact HB.out | apply bA | apply bN | apply bD) | exact HB.out)) hb)
         clear HB
         have HB := n0_
         clear n0_
         (try clear hb)
         (try clear hb2)
         (try clear hk)
         (try clear hi)
         refine hK.out _ _ ⟨(pw_cell_below HB.out hw101_0), (pw_cell_below HB.out hw101_1), (pw_cell_below HB.out hw101_2), (pw_cell_below HB.out hw101_3), (pw_cell_below HB.out hw101_4), (pw_cell_below HB.out hw107_0), (pw_cell_below HB.out hw107_1), (pw_cell_below HB.out hw107_2), (pw_cell_below HB.out hw107_3), (pw_cell_below HB.out hw107_4)⟩ (fun hHeld => ?_)
         clear hK K
         refine norm_ (a' := ?_) ?_ ?_
         rotate_left
         ·
          show Act.put _ (some 27) _ = _
          simp only [Act.put, sA, sB, sC, i64_w, i32_w]
          rfl
         refine pF 15 16 16 28 ?_
         refine done_ (done_of HT_.out (by kernel_rfl)) ?_
         try go_wp2
         go_ret
         exact ⟨by first | rfl | (simp [*, errW_none, errW_some] <;> rfl), by repeat (first | (with_reducible first | exact HB.out | apply bA | apply bN | apply bD) | exact HB.out)⟩
        ·
         replace c10 := Bool.eq_false_iff.mpr c10
         subst c10
         have H1 : (spec_VotesRight.l0 k1 l0 (wrap64 (x3_1 + 1))) = some r := by rw [if_neg (show ¬ (false = true) by decide)] at H; exact H
         clear H
         have H := H1
         clear H1
         have H' := AM H
         clear H
         try go_wp2
         have n0_ := AM (bD HB.out)
         clear HB
         have HB := n0_
         clear n0_
         have p101 : 0 ≤ (x3_1 : Int) := of_decide_eq_true (by assumption)
         have q101 : x3_1 < (l0.length : Int) := of_decide_eq_true (by assumption)
         obtain ⟨ad101, e101, hx101_0, hx101_1, hx101_2, hx101_3, hx101_4⟩ := at_T32 HR0.out x3_1 p101 q101
         have hw101_4 := hx101_4
         have hw101_3 := hx101_3
         have hw101_2 := hx101_2
         have hw101_1 := hx101_1
         have hw101_0 := hx101_0
         cases e101
         replace hx101_0 := pw_cell_below HB.out hx101_0
         replace hx101_1 := pw_cell_below HB.out hx101_1
         replace hx101_2 := pw_cell_below HB.out hx101_2
         replace hx101_3 := pw_cell_below HB.out hx101_3
         replace hx101_4 := pw_cell_below HB.out hx101_4
         replace p101 := eq_true p101
         replace q101 := eq_true q101
         have p107 : 0 ≤ (x3_1 : Int) := of_decide_eq_true (by assumption)
         have q107 : x3_1 < (l0.length : Int) := of_decide_eq_true (by assumption)
         obtain ⟨ad107, e107, hx107_0, hx107_1, hx107_2, hx107_3, hx107_4⟩ := at_T32 HR0.out x3_1 p107 q107
         have hw107_4 := hx107_4
         have hw107_3 := hx107_3
         have hw107_2 := hx107_2
         have hw107_1 := hx107_1
         have hw107_0 := hx107_0
         obtain rfl : ad101 = ad107 := (by injection e107)
         replace hx107_0 := pw_cell_below HB.out hx107_0
         replace hx107_1 := pw_cell_below HB.out hx107_1
         replace hx107_2 := pw_cell_below HB.out hx107_2
         replace hx107_3 := pw_cell_below HB.out hx107_3
         replace hx107_4 := pw_cell_below HB.out hx107_4
         replace p107 := eq_true p107
         replace q107 := eq_true q107
         refine start_ (n := 16) (S := fun w' => w'.cell? (ad101.add ((x3_1).toNat * 5)) = some (.int .i64 ((rd_T32 l0 x3_1).f0)) ∧ w'.cell? ⟨(ad101.add ((x3_1).toNat * 5)).block, (ad101.add ((x3_1).toNat * 5)).off + 1, none⟩ = some (.int .i64 ((rd_T32 l0 x3_1).f1)) ∧ w'.cell? ⟨(ad101.add ((x3_1).toNat * 5)).block, (ad101.add ((x3_1).toNat * 5)).off + 2, none⟩ = some (.int .i64 ((rd_T32 l0 x3_1).f2)) ∧ w'.cell? ⟨(ad101.add ((x3_1).toNat * 5)).block, (ad101.add ((x3_1).toNat * 5)).off + 3, none⟩ = some (.string ((rd_T32 l0 x3_1).f3)) ∧ w'.cell? ⟨(ad101.add ((x3_1).toNat * 5)).block, (ad101.add ((x3_1).toNat * 5)).off + 4, none⟩ = some (.int .i64 ((rd_T32 l0 x3_1).f4)) ∧ w'.cell? (ad101.add ((x3_1).toNat * 5)) = some (.int .i64 ((rd_T32 l0 x3_1).f0)) ∧ w'.cell? ⟨(ad101.add ((x3_1).toNat * 5)).block, (ad101.add ((x3_1).toNat * 5)).off + 1, none⟩ = some (.int .i64 ((rd_T32 l0 x3_1).f1)) ∧ w'.cell? ⟨(ad101.add ((x3_1).toNat * 5)).block, (ad101.add ((x3_1).toNat * 5)).off + 2, none⟩ = some (.int .i64 ((rd_T32 l0 x3_1).f2)) ∧ w'.cell? ⟨(ad101.add ((x3_1).toNat * 5)).block, (ad101.add ((x3_1).toNat * 5)).off + 3, none⟩ = some (.string ((rd_T32 l0 x3_1).f3)) ∧ w'.cell? ⟨(ad101.add ((x3_1).toNat * 5)).block, (ad101.add ((x3_1).toNat * 5)).off + 4, none⟩ = some (.int .i64 ((rd_T32 l0 x3_1).f4))) (ds := []) (upTo 0 16) (by kernel_rfl) rfl rfl ⟨(pw_cell_below HB.out hw101_0), (pw_cell_below HB.out hw101_1), (pw_cell_below HB.out hw101_2), (pw_cell_below HB.out hw101_3), (pw_cell_below HB.out hw101_4), (pw_cell_below HB.out hw107_0), (pw_cell_below HB.out hw107_1), (pw_cell_below HB.out hw107_2), (pw_cell_below HB.out hw107_3), (pw_cell_below HB.out hw107_4)⟩ (fun hHeld => ?_); refine with_tabW spec_VotesRight.tab6 spec_VotesRight.bits6 (fun HT_ HW_ => ?_)
         generalize wr.drew = w15 at HB hx101_0 hx101_1 hx101_2 hx101_3 hx101_4 hx107_0 hx107_1 hx107_2 hx107_3 hx107_4 hHeld ⊢
         refine pF 0 1 16 13 ?_
         refine pF 1 2 16 14 ?_
         refine pF 2 3 16 15 ?_
         refine pT2 3 16 (upTo 4 16) ?_ hHeld
         refine one_ (i := 4) (N := some 17) (upTo 5 16) rfl rfl (one_of HT_.out (by kernel_rfl)) (by decide) (fun K hK => ?_)
         refine goes_ Try.func69 (by kernel_rfl) rfl #[.agg #[.int .i64 ((rd_T32 l0 x3_1).f0), .int .i64 ((rd_T32 l0 x3_1).f1), .int .i64 ((rd_T32 l0 x3_1).f2), .string ((rd_T32 l0 x3_1).f3), .int .i64 ((rd_T32 l0 x3_1).f4)]] (by rfl) rfl rfl (by (try simp only [mA, mB, mC]); first | done | rfl | (simp only [mD, mE]; rfl)) ?_
         with_reducible refine (spec_l11Vote.calls ((rd_T32 l0 x3_1).f0) ((rd_T32 l0 x3_1).f1) ((rd_T32 l0 x3_1).f2) ((rd_T32 l0 x3_1).f3) ((rd_T32 l0 x3_1).f4) true _ A5.out).mono ?_
         rintro e w16 ⟨rfl, hb⟩
         refine ⟨_, rfl, ?_⟩
         have n0_ := AM (below_step (by repeat (first | (with_reducible first | exact HB.out | apply bA | apply bN | apply bD) | exact HB.out)) hb)
         clear HB
         have HB := n0_
         clear n0_
         (try clear hb)
         (try clear hb2)
         (try clear hk)
         (try clear hi)
         have q17 : (x3_1 : Int) ≤ ((l0.length : Int) : Int) := of_decide_eq_true (by assumption)
         obtain ⟨i017, hi017, _, hsz17, _⟩ := info_parts info32
         have hroom17 : l0.length ≤ c0 := HC0.out
         have hC17 : Kd.C k32 _ (some ad101) l0.length l0 := HR0.out
         have hcut17 := cut_to (P := Try.prog) 27 32 .i64 Try.underlying27 hi017 (some ad101) l0.length c0 x3_1 (of_decide_eq_true (by assumption)) q17 hroom17
         have hr17 := Kd.C_take (m := (x3_1 : Int).toNat) hC17 (by omega)
         have hy17 : y103.length = (x3_1 : Int).toNat := (by rw [Ny103.out, mE]; omega)
         rw [← Ny103.out] at hr17
         rw [← hy17] at hcut17
         have HR106 := AM hr17
         have HC106 := AM (show y103.length ≤ c0 from by omega)
         clear hr17 hC17 hroom17 hi017 hsz17
         have KY17 := AM hy17
         clear hy17
         replace q17 := eq_true q17
         refine hK.out _ _ ⟨(pw_cell_below HB.out hw101_0), (pw_cell_below HB.out hw101_1), (pw_cell_below HB.out hw101_2), (pw_cell_below HB.out hw101_3), (pw_cell_below HB.out hw101_4), (pw_cell_below HB.out hw107_0), (pw_cell_below HB.out hw107_1), (pw_cell_below HB.out hw107_2), (pw_cell_below HB.out hw107_3), (pw_cell_below HB.out hw107_4)⟩ (fun hHeld => ?_)
         clear hK K
         refine norm_ (a' := ?_) ?_ ?_
         rotate_left
         ·
          show Act.put _ (some 17) _ = _
          simp only [Act.put, sA, sB, sC, i64_w, i32_w]
          rfl
         refine pF 5 6 16 18 ?_
         refine pF 6 7 16 19 ?_
         refine pF 7 8 16 20 ?_
         refine pF 8 9 16 21 ?_
         refine pF 9 10 16 22 ?_
         refine pF 10 11 16 23 ?_
         refine pF 11 12 16 24 ?_
         refine pF 12 13 16 25 ?_
         refine pT2 13 26 (upTo 14 16) ?_ hHeld
         refine one_ (i := 14) (N := some 27) (upTo 15 16) rfl rfl (one_of HT_.out (by kernel_rfl)) (by decide) (fun K hK => ?_)
         refine goes_ Try.func111 (by kernel_rfl) rfl #[.slice (some ad101) y103.length c0, .agg #[.int .i64 ((rd_T32 l0 x3_1).f0), .int .i64 ((rd_T32 l0 x3_1).f1), .int .i64 ((rd_T32 l0 x3_1).f2), .string ((rd_T32 l0 x3_1).f3), .int .i64 ((rd_T32 l0 x3_1).f4)]] (by rfl) rfl rfl (by (try simp only [mA, mB, mC]); first | done | rfl | (simp only [mD, mE]; rfl)) ?_
         with_reducible refine (spec_l11Has.calls k1 _ _ y103 ((rd_T32 l0 x3_1).f0) ((rd_T32 l0 x3_1).f1) ((rd_T32 l0 x3_1).f2) ((rd_T32 l0 x3_1).f3) ((rd_T32 l0 x3_1).f4) false _ ?side1 ?side2 A9.out).mono ?_
         (case side1 => repeat (first | exact (cB HR106.out HB.out) | (with_reducible refine cA ?_ _) | (with_reducible refine cN ?_ _) | (with_reducible refine cD ?_)))
         (case side2 => exact HC106.out)
         rintro e w18 ⟨rfl, hb⟩
         refine ⟨_, rfl, ?_⟩
         have n0_ := AM (below_step (by repeat (first | (with_reducible first | exact HB.out | apply bA | apply bN | apply bD) | exact HB.out)) hb)
         clear HB
         have HB := n0_
         clear n0_
         (try clear hb)
         (try clear hb2)
         (try clear hk)
         (try clear hi)
         refine hK.out _ _ ⟨(pw_cell_below HB.out hw101_0), (pw_cell_below HB.out hw101_1), (pw_cell_below HB.out hw101_2), (pw_cell_below HB.out hw101_3), (pw_cell_below HB.out hw101_4), (pw_cell_below HB.out hw107_0), (pw_cell_below HB.out hw107_1), (pw_cell_below HB.out hw107_2), (pw_cell_below HB.out hw107_3), (pw_cell_below HB.out hw107_4)⟩ (fun hHeld => ?_)
         clear hK K
         refine norm_ (a' := ?_) ?_ ?_
         rotate_left
         ·
          show Act.put _ (some 27) _ = _
          simp only [Act.put, sA, sB, sC, i64_w, i32_w]
          rfl
         refine pF 15 16 16 28 ?_
         refine done_ (done_of HT_.out (by kernel_rfl)) ?_
         try go_wp2
         go_roundg k1
         case measure => have := HK1.out; omega
         case rel => exact ⟨(wrap64 (x3_1 + 1)), (by first | rfl | (simp; done) | (simp [*]; done)), H', ⟨by have := HK1.out; omega⟩, ⟨by repeat (first | (with_reducible first | exact HB.out | apply bA | apply bN | apply bD) | exact HB.out)⟩⟩
       ·
        rw [if_neg c8] at H
        exact absurd H (by simp)
      ·
       replace c6 := Bool.eq_false_iff.mpr c6
       subst c6
       have H1 : (some false) = some r := by rw [if_neg (show ¬ (false = true) by decide)] at H; exact H
       clear H
       have H := H1
       clear H1
       obtain rfl := Option.some.inj H
       try go_wp2
       have n0_ := AM (bD HB.out)
       clear HB
       have HB := n0_
       clear n0_
       have p101 : 0 ≤ (x3_1 : Int) := of_decide_eq_true (by assumption)
       have q101 : x3_1 < (l0.length : Int) := of_decide_eq_true (by assumption)
       obtain ⟨ad101, e101, hx101_0, hx101_1, hx101_2, hx101_3, hx101_4⟩ := at_T32 HR0.out x3_1 p101 q101
       have hw101_4 := hx101_4
       have hw101_3 := hx101_3
       have hw101_2 := hx101_2
       have hw101_1 := hx101_1
       have hw101_0 := hx101_0
       cases e101
       replace hx101_0 := pw_cell_below HB.out hx101_0
       replace hx101_1 := pw_cell_below HB.out hx101_1
       replace hx101_2 := pw_cell_below HB.out hx101_2
       replace hx101_3 := pw_cell_below HB.out hx101_3
       replace hx101_4 := pw_cell_below HB.out hx101_4
       replace p101 := eq_true p101
       replace q101 := eq_true q101
       refine start_ (n := 16) (S := fun w' => w'.cell? (ad101.add ((x3_1).toNat * 5)) = some (.int .i64 ((rd_T32 l0 x3_1).f0)) ∧ w'.cell? ⟨(ad101.add ((x3_1).toNat * 5)).block, (ad101.add ((x3_1).toNat * 5)).off + 1, none⟩ = some (.int .i64 ((rd_T32 l0 x3_1).f1)) ∧ w'.cell? ⟨(ad101.add ((x3_1).toNat * 5)).block, (ad101.add ((x3_1).toNat * 5)).off + 2, none⟩ = some (.int .i64 ((rd_T32 l0 x3_1).f2)) ∧ w'.cell? ⟨(ad101.add ((x3_1).toNat * 5)).block, (ad101.add ((x3_1).toNat * 5)).off + 3, none⟩ = some (.string ((rd_T32 l0 x3_1).f3)) ∧ w'.cell? ⟨(ad101.add ((x3_1).toNat * 5)).block, (ad101.add ((x3_1).toNat * 5)).off + 4, none⟩ = some (.int .i64 ((rd_T32 l0 x3_1).f4))) (ds := []) (upTo 0 16) (by kernel_rfl) rfl rfl ⟨(pw_cell_below HB.out hw101_0), (pw_cell_below HB.out hw101_1), (pw_cell_below HB.out hw101_2), (pw_cell_below HB.out hw101_3), (pw_cell_below HB.out hw101_4)⟩ (fun hHeld => ?_); refine with_tabW spec_VotesRight.tab6 spec_VotesRight.bits6 (fun HT_ HW_ => ?_)
       generalize wr.drew = w19 at HB hx101_0 hx101_1 hx101_2 hx101_3 hx101_4 hHeld ⊢
       refine pF 0 1 16 13 ?_
       refine pF 1 2 16 14 ?_
       refine pF 2 3 16 15 ?_
       refine pT2 3 16 (upTo 4 16) ?_ hHeld
       refine one_ (i := 4) (N := some 17) (upTo 5 16) rfl rfl (one_of HT_.out (by kernel_rfl)) (by decide) (fun K hK => ?_)
       refine goes_ Try.func69 (by kernel_rfl) rfl #[.agg #[.int .i64 ((rd_T32 l0 x3_1).f0), .int .i64 ((rd_T32 l0 x3_1).f1), .int .i64 ((rd_T32 l0 x3_1).f2), .string ((rd_T32 l0 x3_1).f3), .int .i64 ((rd_T32 l0 x3_1).f4)]] (by rfl) rfl rfl (by (try simp only [mA, mB, mC]); first | done | rfl | (simp only [mD, mE]; rfl)) ?_
       with_reducible refine (spec_l11Vote.calls ((rd_T32 l0 x3_1).f0) ((rd_T32 l0 x3_1).f1) ((rd_T32 l0 x3_1).f2) ((rd_T32 l0 x3_1).f3) ((rd_T32 l0 x3_1).f4) false _ A5.out).mono ?_
       rintro e w20 ⟨rfl, hb⟩
       refine ⟨_, rfl, ?_⟩
       have n0_ := AM (below_step (by repeat (first | (with_reducible first | exact HB.out | apply bA | apply bN | apply bD) | exact HB.out)) hb)
       clear HB
       have HB := n0_
       clear n0_
       (try clear hb)
       (try clear hb2)
       (try clear hk)
       (try clear hi)
       refine hK.out _ _ ⟨(pw_cell_below HB.out hw101_0), (pw_cell_below HB.out hw101_1), (pw_cell_below HB.out hw101_2), (pw_cell_below HB.out hw101_3), (pw_cell_below HB.out hw101_4)⟩ (fun hHeld => ?_)
       clear hK K
       refine norm_ (a' := ?_) ?_ ?_
       rotate_left
       ·
        show Act.put _ (some 17) _ = _
        simp only [Act.put, sA, sB, sC, i64_w, i32_w]
        rfl
       refine pF 5 6 16 18 ?_
       refine pF 6 7 16 19 ?_
       refine pU 7 8 16 20 ?_
       refine pU 8 9 16 21 ?_
       refine pU 9 10 16 22 ?_
       refine pU 10 11 16 23 ?_
       refine pU 11 12 16 24 ?_
       refine pU 12 13 16 25 ?_
       refine pU 13 14 16 26 ?_
       refine pU 14 15 16 27 ?_
       refine pF 15 16 16 28 ?_
       refine done_ (done_of HT_.out (by kernel_rfl)) ?_
       try go_wp2
       go_ret
       exact ⟨by first | rfl | (simp [*, errW_none, errW_some] <;> rfl), by repeat (first | (with_reducible first | exact HB.out | apply bA | apply bN | apply bD) | exact HB.out)⟩
     ·
      rw [if_neg c4] at H
      exact absurd H (by simp)
    ·
     rw [if_neg c3] at H
     have c3b0 : decide (x3_1 < (l0.length : Int)) = false := decide_eq_false c3
     clear c3
     obtain rfl := Option.some.inj H
     go_wp2
     go_ret
     exact ⟨by first | rfl | (simp [*, errW_none, errW_some] <;> rfl), by repeat (first | (with_reducible first | exact HB.out | apply bA | apply bN | apply bD) | exact HB.out)⟩

end Go.Proofs.Ytjnlopoajcpclaa.X
