/- Printed by wip/mp.py: functions as plain Lean functions, and their calls. -/
import Derived.Test.YtmfbkkjlijaabaaQx11
namespace Go.Proofs.Ytmfbkkjlijaabaa.Q
open Go.RowKit Go.Proofs.Ytmfbkkjlijaabaa.HB Go.Proofs.YtmfbkkjlijaabaaW.PrintWords Go.Proofs.YtmfbkkjlijaabaaW.PrintLast Go.Proofs.YtmfbkkjlijaabaaW.PrintMore
attribute [local go_sem] max2_int min2_int max_two min_two max_three min_three max_four min_four   -- for this text's walks alone
set_option linter.unusedVariables false
set_option linter.unusedSimpArgs false

/-! ### slices_insertionSortOrdered_int64: function 88 -/
abbrev slices_insertionSortOrdered_int64.b0 : Array Bool := #[true, true, true, true, true, true, true, false, true, false, false, false, false, false, false]
abbrev slices_insertionSortOrdered_int64.b1 : Array Bool := #[true, true, true, true, true, true, true, false, true, true, false, false, false, false, false]
abbrev slices_insertionSortOrdered_int64.b2 : Array Bool := #[true, true, true, true, true, true, true, false, true, true, true, false, false, false, false]
abbrev slices_insertionSortOrdered_int64.b3 : Array Bool := #[true, true, true, true, true, true, true, false, true, true, true, true, false, false, false]
abbrev slices_insertionSortOrdered_int64.b4 : Array Bool := #[true, true, true, true, true, true, true, true, true, false, true, false, false, false, false, false, false, false]
abbrev slices_insertionSortOrdered_int64.b5 : Array Bool := #[true, true, true, true, true, true, true, true, true, false, true, true, false, false, false, false, false, false]
abbrev slices_insertionSortOrdered_int64.b6 : Array Bool := #[true, true, true, true, true, true, true, true, true, false, true, true, true, false, false, false, false, false]
mutual
def slices_insertionSortOrdered_int64.l0 : Nat → List Int → Int → Int → Int → Option (List Int)
  | 0, _, _, _, _ => none
  | k + 1, x0, x1, x2, x6 => if x6 < x2 then (slices_insertionSortOrdered_int64.l1 k x0 x1 x2 x6 x6) else (some x0)
def slices_insertionSortOrdered_int64.l1 : Nat → List Int → Int → Int → Int → Int → Option (List Int)
  | 0, _, _, _, _, _ => none
  | k + 1, x0, x1, x2, x6, x7 => if x7 > x1 then (if 0 ≤ x7 then (if x7 < (x0.length : Int) then (if 0 ≤ (wrap64 (x7 - 1)) then (if (wrap64 (x7 - 1)) < (x0.length : Int) then ((cmp_Less_int64.f (rd x0 x7) (rd x0 (wrap64 (x7 - 1)))).bind fun t103 => (if t103 = true then (slices_insertionSortOrdered_int64.l1 k ((x0.set (x7 : Int).toNat (rd x0 (wrap64 (x7 - 1)))).set ((wrap64 (x7 - 1)) : Int).toNat (rd x0 x7)) x1 x2 x6 (wrap64 (x7 - 1))) else (slices_insertionSortOrdered_int64.l0 k x0 x1 x2 (wrap64 (x6 + 1))))) else (none)) else (none)) else (none)) else (none)) else (slices_insertionSortOrdered_int64.l0 k x0 x1 x2 (wrap64 (x6 + 1)))
end
def slices_insertionSortOrdered_int64.f (k : Nat) (l0 : List Int) (a1 : Int) (a2 : Int) : Option (List Int) := slices_insertionSortOrdered_int64.l0 k l0 a1 a2 (wrap64 (a1 + 1))
theorem slices_insertionSortOrdered_int64.mono_l : ∀ k, (∀ y0 y1 y2 y3, LeO (slices_insertionSortOrdered_int64.l0 k y0 y1 y2 y3) (slices_insertionSortOrdered_int64.l0 (k + 1) y0 y1 y2 y3)) ∧ (∀ y0 y1 y2 y3 y4, LeO (slices_insertionSortOrdered_int64.l1 k y0 y1 y2 y3 y4) (slices_insertionSortOrdered_int64.l1 (k + 1) y0 y1 y2 y3 y4))
  | 0 => ⟨fun _ _ _ _ r h => by simp [slices_insertionSortOrdered_int64.l0] at h, fun _ _ _ _ _ r h => by simp [slices_insertionSortOrdered_int64.l1] at h⟩
  | k + 1 => by
    obtain ⟨ih0, ih1⟩ := slices_insertionSortOrdered_int64.mono_l k; refine ⟨?_, ?_⟩
    · intro y0 y1 y2 y3
      unfold slices_insertionSortOrdered_int64.l0
      repeat' first | (with_reducible first | exact ih0 _ _ _ _ | exact ih1 _ _ _ _ _ | exact oR _ | exact oN _ | refine oI ?_ ?_ | refine oB ?_ fun _ => ?_) | exact ih0 _ _ _ _ | exact ih1 _ _ _ _ _ | exact oN _ | refine oI ?_ ?_ | refine oB ?_ fun _ => ?_
    · intro y0 y1 y2 y3 y4
      unfold slices_insertionSortOrdered_int64.l1
      repeat' first | (with_reducible first | exact ih0 _ _ _ _ | exact ih1 _ _ _ _ _ | exact oR _ | exact oN _ | refine oI ?_ ?_ | refine oB ?_ fun _ => ?_) | exact ih0 _ _ _ _ | exact ih1 _ _ _ _ _ | exact oN _ | refine oI ?_ ?_ | refine oB ?_ fun _ => ?_
theorem slices_insertionSortOrdered_int64.mono : ∀ a0 a1 a2 k, LeO (slices_insertionSortOrdered_int64.f k a0 a1 a2) (slices_insertionSortOrdered_int64.f (k + 1) a0 a1 a2) := by
  intro a0 a1 a2 k; obtain ⟨ih0, ih1⟩ := slices_insertionSortOrdered_int64.mono_l k; unfold slices_insertionSortOrdered_int64.f
  repeat' first | (with_reducible first | exact ih0 _ _ _ _ | exact ih1 _ _ _ _ _ | exact oR _ | exact oN _ | refine oI ?_ ?_ | refine oB ?_ fun _ => ?_) | exact ih0 _ _ _ _ | exact ih1 _ _ _ _ _ | exact oN _ | refine oI ?_ ?_ | refine oB ?_ fun _ => ?_
def slices_insertionSortOrdered_int64.T4 : Bool × List (List Nat × List Nat) := (true, [([], []), ([], []), ([0, 1], [0, 1]), ([2], [2]), ([3], [3]), ([3], [3]), ([4, 5, 3], [3, 4, 5]), ([6, 3], [3, 6]), ([3], [3]), ([3], [3]), ([9, 3], [3, 9]), ([8, 10, 3], [3, 8, 10]), ([11, 3], [3, 11]), ([7, 12, 3, 3], [3, 7, 12]), ([3, 13], [3, 13])])
def slices_insertionSortOrdered_int64.B4 : List Nat := [0, 0, 3, 7, 15, 15, 63, 127, 15, 15, 527, 1807, 3855, 8191, 16383]
theorem slices_insertionSortOrdered_int64.tab4 : rtab .any (opsOf Try.f88 4) = slices_insertionSortOrdered_int64.T4 := by kernel_rfl
theorem slices_insertionSortOrdered_int64.bits4 : waitsOk slices_insertionSortOrdered_int64.T4.2 slices_insertionSortOrdered_int64.B4 = true := by kernel_rfl
def slices_insertionSortOrdered_int64.T6 : Bool × List (List Nat × List Nat) := (true, [([], []), ([], []), ([], []), ([], []), ([3], [3]), ([], []), ([], []), ([6], [6]), ([5, 7], [5, 7]), ([8], [8]), ([], []), ([], []), ([10, 11], [10, 11]), ([12], [12]), ([0, 1, 0, 1, 5, 6, 7, 8, 9, 13], [0, 1]), ([14, 9, 0, 1, 5, 6, 7, 8, 9, 13], [9, 14]), ([2, 4, 0, 1, 2, 3, 4, 5, 6, 7, 8, 9, 10, 11, 12, 13, 14, 15], [2, 4]), ([16, 13, 15, 0, 1, 2, 3, 4, 5, 6, 7, 8, 9, 10, 11, 12, 13, 14, 15], [13, 16])])
def slices_insertionSortOrdered_int64.B6 : List Nat := [0, 0, 0, 0, 8, 0, 0, 64, 224, 480, 0, 0, 3072, 7168, 16355, 32739, 65535, 131071]
theorem slices_insertionSortOrdered_int64.tab6 : rtab .any (opsOf Try.f88 6) = slices_insertionSortOrdered_int64.T6 := by kernel_rfl
theorem slices_insertionSortOrdered_int64.bits6 : waitsOk slices_insertionSortOrdered_int64.T6.2 slices_insertionSortOrdered_int64.B6 = true := by kernel_rfl
set_option maxHeartbeats 60000000 in
set_option maxRecDepth 100000 in
theorem slices_insertionSortOrdered_int64.calls (k : Nat) (P0_ : Nat → Prop) (u9000_ : Value) (l0 : List Int) (a1 : Int) (a2 : Int) (r : List Int) (w0 w : World) (hB : Below w0.heap.size w0 w) (ho0 : Kd.R (Kd.int .i64) 2 w w0.heap.size P0_ u9000_ l0) (h : slices_insertionSortOrdered_int64.f k l0 a1 a2 = some r) :
    Calls Try.prog 88 #[u9000_, .int .i64 a1, .int .i64 a2] w fun e w' => e = .returned (.tuple #[]) ∧ Kd.R (Kd.int .i64) 2 w' w0.heap.size (fun k_ => (P0_ k_ ∨ w.heap.size ≤ k_)) u9000_ r ∧ Below w0.heap.size w0 w' ∧ Kept w w' (fun k_ => P0_ k_) := by
 have HO0 := AM (show Kd.R (Kd.int .i64) 2 w w0.heap.size (fun k_ => (P0_ k_ ∨ w.heap.size ≤ k_)) u9000_ l0 from Kd.R_mono ho0 (fun k_ hk => (.inl hk))); have HK := AM (Kept.refl w (fun k_ => P0_ k_)); have HW0 := AM hB.size; have HB := AM hB; clear hB; have H : (slices_insertionSortOrdered_int64.l0 k l0 a1 a2 (wrap64 (a1 + 1))) = some r := h; clear h; have H' := AM H; clear H; go_enter Try.func88, Try.ntmps88
 go_wp2
 go_loopg [6] k (fun kq v6 w' => ∃ (x0_1 : List Int) (x6_1 : Int), v6 = .int .i64 x6_1 ∧ Aside0 (slices_insertionSortOrdered_int64.l0 kq x0_1 a1 a2 x6_1 = some r) ∧ Aside0 (kq ≤ k) ∧ Aside0 (Kd.R (Kd.int .i64) 2 w' w0.heap.size (fun k_ => (P0_ k_ ∨ w.heap.size ≤ k_)) u9000_ x0_1) ∧ Aside0 (Kept w w' (fun k_ => P0_ k_)) ∧ Aside0 (Below w0.heap.size w0 w'))
 case atStart => exact ⟨(l0), (wrap64 (a1 + 1)), rR, H', ⟨Nat.le_refl _⟩, ⟨rX HO0.out⟩, ⟨tX HK.out⟩, ⟨bX HB.out⟩⟩
 case round =>
  clear H'; try clear p2
  obtain ⟨x0_1, x6_1, rfl, HA, HK1, HO_0, HK, HB⟩ := hrel
  cases gk with
  | zero => exact absurd HA.out (by simp [slices_insertionSortOrdered_int64.l0])
  | succ k1 =>
   have H := HA.out; clear HA; simp only [slices_insertionSortOrdered_int64.l0] at H
   by_cases c4 : x6_1 < a2
   ·
    rw [if_pos c4] at H; have c4b0 := dY c4; clear c4; have H' := AM H; clear H; go_wp2
    go_loopg [7] k1 (fun kq v7 w' => ∃ (x0_2 : List Int) (x7_2 : Int), v7 = .int .i64 x7_2 ∧ Aside0 (slices_insertionSortOrdered_int64.l1 kq x0_2 a1 a2 x6_1 x7_2 = some r) ∧ Aside0 (kq ≤ k1) ∧ Aside0 (Kd.R (Kd.int .i64) 2 w' w0.heap.size (fun k_ => (P0_ k_ ∨ w.heap.size ≤ k_)) u9000_ x0_2) ∧ Aside0 (Kept w w' (fun k_ => P0_ k_)) ∧ Aside0 (Below w0.heap.size w0 w'))
    case atStart => exact ⟨(x0_1), (x6_1), rR, H', ⟨Nat.le_refl _⟩, ⟨rX HO_0.out⟩, ⟨tX HK.out⟩, ⟨bX HB.out⟩⟩
    case round =>
     clear H'; (try clear p2); (try clear c4); (try clear c4b0); obtain ⟨x0_2, x7_2, rfl, HA, HK2, HO_0, HK, HB⟩ := hrel
     cases gk with
     | zero => exact absurd HA.out (by simp [slices_insertionSortOrdered_int64.l1])
     | succ k2 =>
      have H := HA.out; clear HA; simp only [slices_insertionSortOrdered_int64.l1] at H
      by_cases c5 : x7_2 > a1
      ·
       rw [if_pos c5] at H; have c5b0 : decide (a1 < x7_2) = true := dY c5; clear c5; by_cases c6 : 0 ≤ x7_2
       ·
        rw [if_pos c6] at H; have c6b0 := dY c6; clear c6; by_cases c7 : x7_2 < (x0_2.length : Int)
        ·
         rw [if_pos c7] at H; have c7b0 := dY c7; clear c7; obtain ⟨ji8, hji8⟩ : ∃ j_ : Int, (wrap64 (x7_2 - 1)) = j_ := ⟨_, rfl⟩; replace H : (if 0 ≤ (ji8) then (if (ji8) < (x0_2.length : Int) then ((cmp_Less_int64.f (rd x0_2 x7_2) (rd x0_2 (ji8))).bind fun t103 => (if t103 = true then (slices_insertionSortOrdered_int64.l1 k2 ((x0_2.set (x7_2 : Int).toNat (rd x0_2 (ji8))).set ((ji8) : Int).toNat (rd x0_2 x7_2)) a1 a2 x6_1 ji8) else (slices_insertionSortOrdered_int64.l0 k2 x0_2 a1 a2 (wrap64 (x6_1 + 1))))) else (none)) else (none)) = some r := by first | (rw [hji8] at H; exact H) | (simp only [hji8] at H ⊢; exact H)
         have hji8w : (IntKind.i64.wrap (x7_2 - 1)) = ji8 := (i64_w _).trans hji8; by_cases c9 : 0 ≤ (ji8)
         ·
          rw [if_pos c9] at H; have c9b0 := dY c9; clear c9; by_cases c10 : (ji8) < (x0_2.length : Int)
          ·
           rw [if_pos c10] at H; have c10b0 := dY c10; clear c10; replace H := oM H; obtain ⟨t103, A110, H⟩ := H; have A11 := AM A110; clear A110; by_cases c12 : t103 = true
           ·
            subst c12; rw [if_pos rfl] at H; obtain ⟨y106, hy106⟩ : ∃ y_ : List Int, y_ = (x0_2.set (x7_2 : Int).toNat (rd x0_2 (ji8))) := ⟨_, rfl⟩; replace H : (slices_insertionSortOrdered_int64.l1 k2 (y106.set ((ji8) : Int).toNat (rd x0_2 x7_2)) a1 a2 x6_1 ji8) = some r := hS hy106 H
            have Ny106 := AM hy106; clear hy106; obtain ⟨y107, hy107⟩ : ∃ y_ : List Int, y_ = (y106.set ((ji8) : Int).toNat (rd x0_2 x7_2)) := ⟨_, rfl⟩; replace H : (slices_insertionSortOrdered_int64.l1 k2 y107 a1 a2 x6_1 ji8) = some r := hS hy107 H
            have Ny107 := AM hy107; clear hy107; have H' := AM H; clear H; try go_wp2
            replace HO_0 := rDY HO_0; replace HK := AM (Kept.drew HK.out); replace HB := bDY HB; obtain ⟨Ao16, co16, eo16⟩ := Kd.R_slice HO_0.out
            (first | subst eo16 | (injection eo16 with f1_ f2_ f3_; have f4_ := f1_.symm; have f5_ := f3_.symm; clear f1_ f2_ f3_; subst f4_; subst f5_))
            obtain ⟨p101, q101, ad101, e101, hx101_0⟩ := pQ (Kd.at_int (Kd.R_reads' HO_0.out).2.2 x7_2); cases e101; obtain ⟨p102, q102, ad102, e102, hx102_0⟩ := pQ (Kd.at_int (Kd.R_reads' HO_0.out).2.2 (ji8)); obtain rfl : ad101 = ad102 := (by injection e102); refine start_ (n := 15) (S := fun w' => w'.cell? (ad101.add (x7_2).toNat) = some (.int .i64 (rd x0_2 x7_2)) ∧ w'.cell? (ad101.add ((ji8)).toNat) = some (.int .i64 (rd x0_2 (ji8)))) (ds := []) (upTo 0 15) (by kernel_rfl) rfl rfl ⟨hx101_0, hx102_0⟩ (fun hHeld => ?_); refine with_tabW slices_insertionSortOrdered_int64.tab4 slices_insertionSortOrdered_int64.bits4 (fun HT_ HW_ => ?_); generalize wr.drew = w15 at HO_0 HK HB hx101_0 hx102_0 hHeld ⊢; refine pF 0 1 15 16 ?_; refine pF 1 2 15 17 ?_; refine pF 2 3 15 18 ?_; refine pF 3 4 15 19 ?_; refine pF 4 5 15 20 ?_; refine pF 5 6 15 21 ?_; refine pF 6 7 15 22 ?_; refine pF2 8 24 slices_insertionSortOrdered_int64.b0 ?_; refine pF2 9 25 slices_insertionSortOrdered_int64.b1 ?_; refine pF2 10 26 slices_insertionSortOrdered_int64.b2 ?_; refine pF2 11 27 slices_insertionSortOrdered_int64.b3 ?_; refine pT2 7 23 (upTo 12 15) ?_ hHeld; refine pT2 12 28 (upTo 13 15) ?_ hHeld; refine oU 13 29 (upTo 14 15) HT_.out (fun K hK => ?_); refine goes_ Try.func94 (by kernel_rfl) rfl #[.int .i64 (rd x0_2 x7_2), .int .i64 (rd x0_2 (ji8))] (by rfl) rfl rfl (by (try simp only [mA, mB, mC]); first | done | (simp only [hji8]; rfl) | rfl | (simp only [mD, mE]; rfl)) ?_; with_reducible refine (cmp_Less_int64.calls (rd x0_2 x7_2) (rd x0_2 (ji8)) true _ A11.out).mono ?_
            rintro e w' ⟨rfl, ⟨nd, rfl⟩⟩; refine ⟨_, rfl, ?_⟩; refine hK.out _ _ ⟨hHeld.1, hHeld.2⟩ (fun hHeld => ?_); clear hK K; refine nS 29 ?_
            refine pF 14 15 15 30 ?_; refine done_ (done_of HT_.out (by kernel_rfl)) ?_; try go_wp2
            (try (rw [drewN_self w15]; generalize hq_ : World.drewN w15 _ = w15; have _ : Aside0 (Kd.R (Kd.int .i64) 2 w15 w0.heap.size (fun k_ => (P0_ k_ ∨ w.heap.size ≤ k_)) (.slice (some ad101) x0_2.length co16) x0_2) := ⟨by rw [← hq_]; exact (rX HO_0.out)⟩; have _ : Aside0 (Kept w w15 (fun k_ => P0_ k_)) := ⟨by rw [← hq_]; exact (tX HK.out)⟩; have _ : Aside0 (Below w0.heap.size w0 w15) := ⟨by rw [← hq_]; exact (bX HB.out)⟩; clear HO_0 HK HB hq_; rename_i HO_0 HK HB)); replace HO_0 := rDY HO_0; replace HK := AM (Kept.drew HK.out); replace HB := bDY HB; obtain ⟨p104, q104, ad104, e104, hx104_0⟩ := pQ (Kd.at_int (Kd.R_reads' HO_0.out).2.2 (ji8)); obtain rfl : ad101 = ad104 := (by injection e104); obtain ⟨p105, q105, ad105, e105, hx105_0⟩ := pQ (Kd.at_int (Kd.R_reads' HO_0.out).2.2 x7_2); obtain rfl : ad101 = ad105 := (by injection e105); have p13 : 0 ≤ (x7_2 : Int) := oD ‹_›; have q13 : (x7_2 : Int) < ((x0_2.length : Int) : Int) := oD ‹_›; obtain ⟨go13, co13, eo13, gb13, gl13, cl13, HG13⟩ := Kd.R_form HO_0.out (by omega)
            (first | cases eo13 | (injection eo13 with ea_ en_ ec_; (first | subst ea_ | (injection ea_ with ea_; subst ea_)); subst ec_; clear en_))
            have GB13 := AM gb13; have GG13 := AM HG13; clear gb13 gl13 HG13; have HMgo13 := AM (show (P0_ go13 ∨ w.heap.size ≤ go13) from (HO_0.out.1 _ rfl))
            (first | simp only [add_plain] at hx101_0 | skip)
            (first | simp only [add_plain] at hx102_0 | skip)
            (first | simp only [add_plain] at hx104_0 | skip)
            (first | simp only [add_plain] at hx105_0 | skip)
            obtain ⟨hx13_0, hf13_0⟩ := Kd.R_celln 0 HO_0.out (x7_2 : Int) p13 q13; replace p13 := eq_true p13; replace q13 := eq_true q13; have HP18 := Kd.R_putn HO_0.out (x7_2 : Int) (rd x0_2 (ji8)); rw [← Ny106.out] at HP18; have HQ18 := AM HP18; clear HP18; have p14 : 0 ≤ ((ji8) : Int) := oD ‹_›; have q14 : ((ji8) : Int) < ((x0_2.length : Int) : Int) := oD ‹_›; obtain ⟨hx14_0, hf14_0⟩ := Kd.R_celln 0 HQ18.out ((ji8) : Int) p14 q14; replace p14 := eq_true p14; replace q14 := eq_true q14; have HP19 := Kd.R_putn HQ18.out ((ji8) : Int) (rd x0_2 x7_2); rw [← Ny107.out] at HP19; have HQ19 := AM HP19; clear HP19; refine start_ (n := 18) (S := fun w' => w'.cell? ⟨go13, ((ji8)).toNat, none⟩ = some (.int .i64 (rd x0_2 (ji8))) ∧ w'.cell? ⟨go13, (x7_2).toNat, none⟩ = some (.int .i64 (rd x0_2 x7_2))) (ds := [15, 17]) (upTo 0 18) (by kernel_rfl) rfl rfl ⟨hx104_0, hx105_0⟩ (fun hHeld => ?_); refine with_tabW slices_insertionSortOrdered_int64.tab6 slices_insertionSortOrdered_int64.bits6 (fun HT_ HW_ => ?_); generalize w15.drew = w17 at HO_0 HK HB GG13 HQ18 HQ19 hf13_0 hf14_0 hx101_0 hx102_0 hx104_0 hx105_0 hx13_0 hx14_0 hHeld ⊢; refine pF 0 1 18 33 ?_; refine pF 1 2 18 34 ?_; refine pF 2 3 18 35 ?_; refine pF 3 4 18 36 ?_; refine pF 4 5 18 37 ?_; refine pF 5 6 18 38 ?_; refine pF 6 7 18 39 ?_; refine pF 7 8 18 40 ?_; refine pF 8 9 18 41 ?_; refine pF2 10 43 slices_insertionSortOrdered_int64.b4 ?_; refine pF2 11 44 slices_insertionSortOrdered_int64.b5 ?_; refine pF2 12 45 slices_insertionSortOrdered_int64.b6 ?_; refine pT2 9 42 (upTo 13 18) ?_ hHeld; refine pT2 13 46 (upTo 14 18) ?_ hHeld; refine pF 14 15 18 47 ?_; refine last_ (i := 15) (N := none) (upTo 16 18) rfl rfl (one_of HT_.out (by kernel_rfl)) (by decide) (fun K hK => ?_); refine skip_ (w1 := ?_) (by rfl) rfl ?_ ?_; rotate_left
            ·
             go_simp
             rfl
            refine hK.out _ _ ?_; clear hK K; refine pF 16 17 18 48 ?_; refine last_ (i := 17) (N := none) (upTo 18 18) rfl rfl (one_of HT_.out (by kernel_rfl)) (by decide) (fun K hK => ?_); refine skip_ (w1 := ?_) (by rfl) rfl ?_ ?_; rotate_left
            ·
             go_simp
             rfl
            refine hK.out _ _ ?_; clear hK K; refine done_ (done_of HT_.out (by kernel_rfl)) ?_; try go_wp2
            go_roundg k2
            case measure => have := HK1.out; have := HK2.out; omega
            case rel => exact ⟨(y107), (ji8), (by first | rfl | (simp; done) | (simp only [← hji8] <;> (first | rfl | simp)) | (simp [*]; done)), H', ⟨by have := HK1.out; have := HK2.out; omega⟩, ⟨rX HQ19.out⟩, ⟨by repeat (first | (with_reducible first | exact HK.out | apply Kept.alloc | apply Kept.drewN | apply Kept.drew | refine Kept.setCell ?_ HMgo13.out _ | refine Kept.setCell ?_ HMgo13.out _) | exact HK.out)⟩, ⟨by repeat (first | (with_reducible first | exact HB.out | apply bA | apply bN | apply bD | refine bS ?_ GB13.out | refine bS ?_ GB13.out) | exact HB.out)⟩⟩
           replace c12 := oE c12; subst c12; rw [if_neg nft] at H; have H' := AM H; clear H; try go_wp2
           replace HO_0 := rDY HO_0; replace HK := AM (Kept.drew HK.out); replace HB := bDY HB; obtain ⟨Ao21, co21, eo21⟩ := Kd.R_slice HO_0.out
           (first | subst eo21 | (injection eo21 with f1_ f2_ f3_; have f4_ := f1_.symm; have f5_ := f3_.symm; clear f1_ f2_ f3_; subst f4_; subst f5_))
           obtain ⟨p101, q101, ad101, e101, hx101_0⟩ := pQ (Kd.at_int (Kd.R_reads' HO_0.out).2.2 x7_2); cases e101; obtain ⟨p102, q102, ad102, e102, hx102_0⟩ := pQ (Kd.at_int (Kd.R_reads' HO_0.out).2.2 (ji8)); obtain rfl : ad101 = ad102 := (by injection e102); refine start_ (n := 15) (S := fun w' => w'.cell? (ad101.add (x7_2).toNat) = some (.int .i64 (rd x0_2 x7_2)) ∧ w'.cell? (ad101.add ((ji8)).toNat) = some (.int .i64 (rd x0_2 (ji8)))) (ds := []) (upTo 0 15) (by kernel_rfl) rfl rfl ⟨hx101_0, hx102_0⟩ (fun hHeld => ?_); refine with_tabW slices_insertionSortOrdered_int64.tab4 slices_insertionSortOrdered_int64.bits4 (fun HT_ HW_ => ?_); generalize wr.drew = w20 at HO_0 HK HB hx101_0 hx102_0 hHeld ⊢; refine pF 0 1 15 16 ?_; refine pF 1 2 15 17 ?_; refine pF 2 3 15 18 ?_; refine pF 3 4 15 19 ?_; refine pF 4 5 15 20 ?_; refine pF 5 6 15 21 ?_; refine pF 6 7 15 22 ?_; refine pF2 8 24 slices_insertionSortOrdered_int64.b0 ?_; refine pF2 9 25 slices_insertionSortOrdered_int64.b1 ?_; refine pF2 10 26 slices_insertionSortOrdered_int64.b2 ?_; refine pF2 11 27 slices_insertionSortOrdered_int64.b3 ?_; refine pT2 7 23 (upTo 12 15) ?_ hHeld; refine pT2 12 28 (upTo 13 15) ?_ hHeld; refine oU 13 29 (upTo 14 15) HT_.out (fun K hK => ?_); refine goes_ Try.func94 (by kernel_rfl) rfl #[.int .i64 (rd x0_2 x7_2), .int .i64 (rd x0_2 (ji8))] (by rfl) rfl rfl (by (try simp only [mA, mB, mC]); first | done | (simp only [hji8]; rfl) | rfl | (simp only [mD, mE]; rfl)) ?_; with_reducible refine (cmp_Less_int64.calls (rd x0_2 x7_2) (rd x0_2 (ji8)) false _ A11.out).mono ?_
           rintro e w' ⟨rfl, ⟨nd, rfl⟩⟩; refine ⟨_, rfl, ?_⟩; refine hK.out _ _ ⟨hHeld.1, hHeld.2⟩ (fun hHeld => ?_); clear hK K; refine nS 29 ?_
           refine pF 14 15 15 30 ?_; refine done_ (done_of HT_.out (by kernel_rfl)) ?_; try go_wp2
           go_roundg k2
           case measure => have := HK1.out; have := HK2.out; omega
           case rel => exact ⟨(x0_2), (wrap64 (x6_1 + 1)), rR, H', ⟨by have := HK1.out; have := HK2.out; omega⟩, ⟨rX HO_0.out⟩, ⟨tX HK.out⟩, ⟨bX HB.out⟩⟩
          rw [if_neg c10] at H; exact absurd H (by simp)
         rw [if_neg c9] at H; exact absurd H (by simp)
        rw [if_neg c7] at H; exact absurd H (by simp)
       rw [if_neg c6] at H; exact absurd H (by simp)
      rw [if_neg c5] at H; have c5b0 : decide (a1 < x7_2) = false := dN c5; clear c5; have H' := AM H; clear H; try go_wp2
      replace HO_0 := rDY HO_0; replace HK := AM (Kept.drew HK.out); replace HB := bDY HB; refine start_ (n := 15) (S := fun w' => True) (ds := []) (upTo 0 15) (by kernel_rfl) rfl rfl trivial (fun hHeld => ?_); refine with_tabW slices_insertionSortOrdered_int64.tab4 slices_insertionSortOrdered_int64.bits4 (fun HT_ HW_ => ?_); generalize wr.drew = w22 at HO_0 HK HB hHeld ⊢; refine pF 0 1 15 16 ?_; refine pF 1 2 15 17 ?_; refine pF 2 3 15 18 ?_; refine pF 3 4 15 19 ?_; refine pU 4 5 15 20 ?_; refine pU 5 6 15 21 ?_; refine pU 6 7 15 22 ?_; refine pU 7 8 15 23 ?_; refine pU 8 9 15 24 ?_; refine pU 9 10 15 25 ?_; refine pU 10 11 15 26 ?_; refine pU 11 12 15 27 ?_; refine pU 12 13 15 28 ?_; refine pU 13 14 15 29 ?_; refine pF 14 15 15 30 ?_; refine done_ (done_of HT_.out (by kernel_rfl)) ?_; try go_wp2
      go_roundg k2
      case measure => have := HK1.out; have := HK2.out; omega
      case rel => exact ⟨(x0_2), (wrap64 (x6_1 + 1)), rR, H', ⟨by have := HK1.out; have := HK2.out; omega⟩, ⟨rX HO_0.out⟩, ⟨tX HK.out⟩, ⟨bX HB.out⟩⟩
   rw [if_neg c4] at H; have c4b0 := dN c4; clear c4; obtain rfl := Option.some.inj H; go_wp2
   first | go_end0 | ((try simp only [Exit.inBlock, Exit.then]); refine bodyPost_ret (results_none rfl _ _ _) rfl ?_)
   exact ⟨rE, rX HO_0.out, bX HB.out, tX HK.out⟩

/-! ### slices_pdqsortOrdered_int64: function 81 -/

mutual
def slices_pdqsortOrdered_int64.l0 : Nat → List Int → Int → Int → Int → Bool → Option (List Int)
  | 0, _, _, _, _, _ => none
  | k + 1, x0, x1, x2, x3, x8 => if (wrap64 (x2 - x1)) ≤ 12 then ((slices_insertionSortOrdered_int64.f k x0 x1 x2).bind fun t101 => (some t101)) else (if x3 = 0 then (none) else (if x8 = true then (none) else (none)))
def slices_pdqsortOrdered_int64.f : Nat → List Int → Int → Int → Int → Option (List Int)
  | 0, _, _, _, _ => none
  | k + 1, l0, a1, a2, a3 => slices_pdqsortOrdered_int64.l0 k l0 a1 a2 a3 true
end
theorem slices_pdqsortOrdered_int64.mono_l : ∀ k, (∀ y0 y1 y2 y3, LeO (slices_pdqsortOrdered_int64.f k y0 y1 y2 y3) (slices_pdqsortOrdered_int64.f (k + 1) y0 y1 y2 y3)) ∧ (∀ y0 y1 y2 y3 y4, LeO (slices_pdqsortOrdered_int64.l0 k y0 y1 y2 y3 y4) (slices_pdqsortOrdered_int64.l0 (k + 1) y0 y1 y2 y3 y4))
  | 0 => ⟨fun _ _ _ _ r h => by simp [slices_pdqsortOrdered_int64.f] at h, fun _ _ _ _ _ r h => by simp [slices_pdqsortOrdered_int64.l0] at h⟩
  | k + 1 => by
    obtain ⟨ih0, ih1⟩ := slices_pdqsortOrdered_int64.mono_l k; refine ⟨?_, ?_⟩
    · intro y0 y1 y2 y3
      unfold slices_pdqsortOrdered_int64.f
      repeat' first | (with_reducible first | exact ih0 _ _ _ _ | exact ih1 _ _ _ _ _ | exact slices_insertionSortOrdered_int64.mono _ _ _ _ | exact oR _ | exact oN _ | refine oI ?_ ?_ | refine oB ?_ fun _ => ?_) | exact ih0 _ _ _ _ | exact ih1 _ _ _ _ _ | exact slices_insertionSortOrdered_int64.mono _ _ _ _ | exact oN _ | refine oI ?_ ?_ | refine oB ?_ fun _ => ?_
    · intro y0 y1 y2 y3 y4
      unfold slices_pdqsortOrdered_int64.l0
      repeat' first | (with_reducible first | exact ih0 _ _ _ _ | exact ih1 _ _ _ _ _ | exact slices_insertionSortOrdered_int64.mono _ _ _ _ | exact oR _ | exact oN _ | refine oI ?_ ?_ | refine oB ?_ fun _ => ?_) | exact ih0 _ _ _ _ | exact ih1 _ _ _ _ _ | exact slices_insertionSortOrdered_int64.mono _ _ _ _ | exact oN _ | refine oI ?_ ?_ | refine oB ?_ fun _ => ?_
theorem slices_pdqsortOrdered_int64.mono : ∀ a0 a1 a2 a3 k, LeO (slices_pdqsortOrdered_int64.f k a0 a1 a2 a3) (slices_pdqsortOrdered_int64.f (k + 1) a0 a1 a2 a3) := by
  intro a0 a1 a2 a3 k; obtain ⟨ih0, ih1⟩ := slices_pdqsortOrdered_int64.mono_l k; exact ih0 a0 a1 a2 a3
set_option maxHeartbeats 60000000 in
set_option maxRecDepth 100000 in
theorem slices_pdqsortOrdered_int64.calls (k : Nat) : ∀ (P0_ : Nat → Prop) (u9000_ : Value) (l0 : List Int) (a1 : Int) (a2 : Int) (a3 : Int) (r : List Int) (w0 w : World) (hB : Below w0.heap.size w0 w) (ho0 : Kd.R (Kd.int .i64) 2 w w0.heap.size P0_ u9000_ l0) (h : slices_pdqsortOrdered_int64.f k l0 a1 a2 a3 = some r),
    Calls Try.prog 81 #[u9000_, .int .i64 a1, .int .i64 a2, .int .i64 a3] w fun e w' => e = .returned (.tuple #[]) ∧ Kd.R (Kd.int .i64) 2 w' w0.heap.size (fun k_ => (P0_ k_ ∨ w.heap.size ≤ k_)) u9000_ r ∧ Below w0.heap.size w0 w' ∧ Kept w w' (fun k_ => P0_ k_) := by
 induction k using Nat.strongRecOn with
  | _ k ih =>
 intro P0_ u9000_ l0 a1 a2 a3 r w0 w hB ho0 h
 cases k with
  | zero => exact absurd h (by simp [slices_pdqsortOrdered_int64.f])
  | succ k =>
 simp only [slices_pdqsortOrdered_int64.f] at h
 have HO0 := AM (show Kd.R (Kd.int .i64) 2 w w0.heap.size (fun k_ => (P0_ k_ ∨ w.heap.size ≤ k_)) u9000_ l0 from Kd.R_mono ho0 (fun k_ hk => (.inl hk))); have HK := AM (Kept.refl w (fun k_ => P0_ k_)); have HW0 := AM hB.size; have HB := AM hB; clear hB; have H : (slices_pdqsortOrdered_int64.l0 k l0 a1 a2 a3 true) = some r := h; clear h; have H' := AM H; clear H; go_enter Try.func81, Try.ntmps81
 go_wp2
 repeat (go_quiet (fail); try go_wp2)
 go_loopg [1, 2, 3, 8] k (fun kq v1 v2 v3 v8 w' => ∃ (x0_1 : List Int) (x1_1 : Int) (x2_1 : Int) (x3_1 : Int) (x8_1 : Bool), v1 = .int .i64 x1_1 ∧ v2 = .int .i64 x2_1 ∧ v3 = .int .i64 x3_1 ∧ v8 = .bool x8_1 ∧ Aside0 (slices_pdqsortOrdered_int64.l0 kq x0_1 x1_1 x2_1 x3_1 x8_1 = some r) ∧ Aside0 (kq ≤ k) ∧ Aside0 (Kd.R (Kd.int .i64) 2 w' w0.heap.size (fun k_ => (P0_ k_ ∨ w.heap.size ≤ k_)) u9000_ x0_1) ∧ Aside0 (Kept w w' (fun k_ => P0_ k_)) ∧ Aside0 (Below w0.heap.size w0 w'))
 case atStart => exact ⟨(l0), (a1), (a2), (a3), (true), rR, rR, rR, rR, H', ⟨Nat.le_refl _⟩, ⟨rX HO0.out⟩, ⟨tX HK.out⟩, ⟨bX HB.out⟩⟩
 case round =>
  clear H'; try clear p2
  obtain ⟨x0_1, x1_1, x2_1, x3_1, x8_1, rfl, rfl, rfl, rfl, HA, HK1, HO_0, HK, HB⟩ := hrel
  cases gk with
  | zero => exact absurd HA.out (by simp [slices_pdqsortOrdered_int64.l0])
  | succ k1 =>
   have H := HA.out; clear HA; simp only [slices_pdqsortOrdered_int64.l0] at H
   by_cases c5 : (wrap64 (x2_1 - x1_1)) ≤ 12
   ·
    rw [if_pos c5] at H; have c5b0 := dY c5; clear c5; replace H := oM H; obtain ⟨t101, A60, H⟩ := H; have A6 := AM A60; clear A60; obtain rfl := Option.some.inj H; obtain ⟨Ao7, co7, eo7⟩ := Kd.R_slice HO_0.out; subst eo7; go_wp2_with (first | (go_at_call 88; (with_reducible refine (slices_insertionSortOrdered_int64.calls k1 (fun k_ => some k_ = (.slice Ao7 x0_1.length co7 : Value).ownBlock) (.slice Ao7 x0_1.length co7) x0_1 x1_1 x2_1 t101 w0 _ ?s1 ?s2 A6.out).mono ?_); (case s1 => exact (bX HB.out)); (case s2 => exact Kd.R_tight rfl HO_0.out); rintro e w8 ⟨rfl, hy0, hb, hkp⟩; replace HK := AM (Kept.then_ (S := (fun k_ => P0_ k_)) (tX HK.out) hkp (fun k_ hs_ => (fun e_ => (HO_0.out.1 k_ e_.symm)) hs_)); replace HO_0 := AM (Kd.R_reok rfl hy0 (fun k_ e_ => HO_0.out.1 k_ e_)); replace HB := AM (hb); (try clear hkp); (try clear hy0)))
    repeat (go_quiet (first | (go_at_call 88; (with_reducible refine (slices_insertionSortOrdered_int64.calls k1 (fun k_ => some k_ = (.slice Ao7 x0_1.length co7 : Value).ownBlock) (.slice Ao7 x0_1.length co7) x0_1 x1_1 x2_1 t101 w0 _ ?s1 ?s2 A6.out).mono ?_); (case s1 => exact (bX HB.out)); (case s2 => exact Kd.R_tight rfl HO_0.out); rintro e w8 ⟨rfl, hy0, hb, hkp⟩; replace HK := AM (Kept.then_ (S := (fun k_ => P0_ k_)) (tX HK.out) hkp (fun k_ hs_ => (fun e_ => (HO_0.out.1 k_ e_.symm)) hs_)); replace HO_0 := AM (Kd.R_reok rfl hy0 (fun k_ e_ => HO_0.out.1 k_ e_)); replace HB := AM (hb); (try clear hkp); (try clear hy0))); try go_wp2_with (first | (go_at_call 88; (with_reducible refine (slices_insertionSortOrdered_int64.calls k1 (fun k_ => some k_ = (.slice Ao7 x0_1.length co7 : Value).ownBlock) (.slice Ao7 x0_1.length co7) x0_1 x1_1 x2_1 t101 w0 _ ?s1 ?s2 A6.out).mono ?_); (case s1 => exact (bX HB.out)); (case s2 => exact Kd.R_tight rfl HO_0.out); rintro e w8 ⟨rfl, hy0, hb, hkp⟩; replace HK := AM (Kept.then_ (S := (fun k_ => P0_ k_)) (tX HK.out) hkp (fun k_ hs_ => (fun e_ => (HO_0.out.1 k_ e_.symm)) hs_)); replace HO_0 := AM (Kd.R_reok rfl hy0 (fun k_ e_ => HO_0.out.1 k_ e_)); replace HB := AM (hb); (try clear hkp); (try clear hy0))))
    first | go_end0 | ((try simp only [Exit.inBlock, Exit.then]); refine bodyPost_ret (results_none rfl _ _ _) rfl ?_)
    exact ⟨rE, rX HO_0.out, bX HB.out, tX HK.out⟩
   rw [if_neg c5] at H; have c5b0 := dN c5; clear c5; by_cases c9 : x3_1 = 0
   ·
    rw [if_pos c9] at H; exact absurd H (by simp)
   rw [if_neg c9] at H; have c9b0 : (x3_1 == 0) = false := beq_eq_false_iff_ne.mpr c9; have c9b1 : (x3_1 != 0) = true := bne_iff_ne.mpr c9; by_cases c10 : x8_1 = true
   ·
    subst c10; rw [if_pos rfl] at H; exact absurd H (by simp)
   replace c10 := oE c10; subst c10; rw [if_neg nft] at H; exact absurd H (by simp)

/-! ### slices_Sort_int64_int64: function 69 -/

def slices_Sort_int64_int64.f (k : Nat) (l0 : List Int) : Option (List Int) := (bits_Len.f (IntKind.u64.wrap ((l0.length : Int)))).bind fun t101 => ((slices_pdqsortOrdered_int64.f k l0 0 (l0.length : Int) t101).bind fun t102 => (some t102))
theorem slices_Sort_int64_int64.mono : ∀ a0 k, LeO (slices_Sort_int64_int64.f k a0) (slices_Sort_int64_int64.f (k + 1) a0) := by
  intro a0 k; unfold slices_Sort_int64_int64.f
  repeat' first | (with_reducible first | exact slices_pdqsortOrdered_int64.mono _ _ _ _ _ | exact oR _ | exact oN _ | refine oI ?_ ?_ | refine oB ?_ fun _ => ?_) | exact slices_pdqsortOrdered_int64.mono _ _ _ _ _ | exact oN _ | refine oI ?_ ?_ | refine oB ?_ fun _ => ?_
set_option maxHeartbeats 60000000 in
set_option maxRecDepth 100000 in
theorem slices_Sort_int64_int64.calls (k : Nat) (P0_ : Nat → Prop) (u9000_ : Value) (l0 : List Int) (r : List Int) (w0 w : World) (hB : Below w0.heap.size w0 w) (ho0 : Kd.R (Kd.int .i64) 2 w w0.heap.size P0_ u9000_ l0) (h : slices_Sort_int64_int64.f k l0 = some r) :
    Calls Try.prog 69 #[u9000_] w fun e w' => e = .returned (.tuple #[]) ∧ Kd.R (Kd.int .i64) 2 w' w0.heap.size (fun k_ => (P0_ k_ ∨ w.heap.size ≤ k_)) u9000_ r ∧ Below w0.heap.size w0 w' ∧ Kept w w' (fun k_ => P0_ k_) := by
 have HO0 := AM (show Kd.R (Kd.int .i64) 2 w w0.heap.size (fun k_ => (P0_ k_ ∨ w.heap.size ≤ k_)) u9000_ l0 from Kd.R_mono ho0 (fun k_ hk => (.inl hk))); have HK := AM (Kept.refl w (fun k_ => P0_ k_)); have HW0 := AM hB.size; have HB := AM hB; clear hB; have H : ((bits_Len.f (IntKind.u64.wrap ((l0.length : Int)))).bind fun t101 => ((slices_pdqsortOrdered_int64.f k l0 0 (l0.length : Int) t101).bind fun t102 => (some t102))) = some r := h; clear h; replace H := oM H; obtain ⟨t101, A20, H⟩ := H; have A2 := AM A20; clear A20; replace H := oM H; obtain ⟨t102, A30, H⟩ := H; have A3 := AM A30; clear A30; obtain rfl := Option.some.inj H; obtain ⟨Ao4, co4, eo4⟩ := Kd.R_slice HO0.out; subst eo4; go_enter Try.func69, Try.ntmps69
 go_wp2_with (first | ((with_reducible refine gate_callee (f := 68) rfl ?_); refine gL (some 9) Try.func68 #[.int .u64 (IntKind.u64.wrap ((l0.length : Int)))] ?_; (with_reducible refine (bits_Len.calls _ _ _ A2.out).mono ?_); rintro e w' ⟨rfl, ⟨nd, rfl⟩⟩; refine ⟨_, rfl, ?_⟩) | ((with_reducible refine gate_callee (f := 81) rfl ?_); refine gL (some 10) Try.func81 #[.slice Ao4 l0.length co4, .int .i64 0, .int .i64 (l0.length : Int), .int .i64 t101] ?_; (with_reducible refine (slices_pdqsortOrdered_int64.calls k (fun k_ => some k_ = (.slice Ao4 l0.length co4 : Value).ownBlock) (.slice Ao4 l0.length co4) l0 0 (l0.length : Int) t101 t102 w0 _ ?s1 ?s2 A3.out).mono ?_); (case s1 => exact (bX HB.out)); (case s2 => exact Kd.R_tight rfl HO0.out); rintro e w5 ⟨rfl, hy0, hb, hkp⟩; refine ⟨_, rfl, ?_⟩; replace HK := AM (Kept.then_ (S := (fun k_ => P0_ k_)) (tX HK.out) hkp (fun k_ hs_ => (fun e_ => (HO0.out.1 k_ e_.symm)) hs_)); replace HO0 := AM (Kd.R_reok rfl hy0 (fun k_ e_ => HO0.out.1 k_ e_)); replace HB := AM (hb); (try clear hkp); (try clear hy0)))
 first | go_end0 | ((try simp only [Exit.inBlock, Exit.then]); refine bodyPost_ret (results_none rfl _ _ _) rfl ?_)
 exact ⟨rE, rX HO0.out, bX HB.out, tX HK.out⟩

/-! ### impl_voters: function 66 -/

def impl_voters.l0 : Nat → Int → Int → Int → ByteArray → List Int → List (S67) → Int → Int → Option (List Int)
  | 0, _, _, _, _, _, _, _, _ => none
  | k + 1, x1, x2, x3, x4, x11, x14, x15, x16 => if x16 < x15 then (if 0 ≤ x16 then (if x16 < (x14.length : Int) then (if ((rd_T67 x14 x16).f0) = x1 then (if ((rd_T67 x14 x16).f1) = x2 then (if ((rd_T67 x14 x16).f2) = x3 then (if ((rd_T67 x14 x16).f3).toList = x4.toList then (if x11.length < 17592186044416 then (impl_voters.l0 k x1 x2 x3 x4 (x11 ++ [(rd_T67 x14 x16).f4]) x14 x15 (wrap64 (x16 + 1))) else (none)) else (impl_voters.l0 k x1 x2 x3 x4 x11 x14 x15 (wrap64 (x16 + 1)))) else (impl_voters.l0 k x1 x2 x3 x4 x11 x14 x15 (wrap64 (x16 + 1)))) else (impl_voters.l0 k x1 x2 x3 x4 x11 x14 x15 (wrap64 (x16 + 1)))) else (impl_voters.l0 k x1 x2 x3 x4 x11 x14 x15 (wrap64 (x16 + 1)))) else (none)) else (none)) else ((slices_Sort_int64_int64.f k x11).bind fun t106 => (some t106))
def impl_voters.f (k : Nat) (l0 : List (S67)) (a1 : Int) (a2 : Int) (a3 : Int) (a4 : ByteArray) : Option (List Int) := impl_voters.l0 k a1 a2 a3 a4 ([] : List Int) l0 (l0.length : Int) 0
set_option maxHeartbeats 60000000 in
set_option maxRecDepth 100000 in
theorem impl_voters.calls (k : Nat) (A0 : Option Addr) (c0 : Nat) (l0 : List (S67)) (a1 : Int) (a2 : Int) (a3 : Int) (a4 : ByteArray) (r : List Int) (w : World) (hr0 : Kd.C k67 w A0 l0.length l0) (hc0 : l0.length ≤ c0) (h : impl_voters.f k l0 a1 a2 a3 a4 = some r) :
    Calls Try.prog 66 #[.slice A0 l0.length c0, .int .i64 a1, .int .i64 a2, .int .i64 a3, .string a4] w fun e w' => ∃ v0_ : Value, e = .returned (v0_) ∧ Kd.R (Kd.int .i64) 2 w' w.heap.size (fun _ => True) v0_ r ∧ Below w.heap.size w w' := by
 have hu67 := Try.underlying67; have HR0 := AM hr0; have HC0 := AM hc0; clear hr0 hc0; have HB := AM (Below.refl w.heap.size w); have H : (impl_voters.l0 k a1 a2 a3 a4 ([] : List Int) l0 (l0.length : Int) 0) = some r := h; clear h; have H' := AM H; clear H; go_enter Try.func66, Try.ntmps66
 go_wp2
 go_loopg [11, 16] k (fun kq v11 v16 w' => ∃ (x11_1 : List Int) (x16_1 : Int), v16 = .int .i64 x16_1 ∧ Aside0 (impl_voters.l0 kq a1 a2 a3 a4 x11_1 l0 (l0.length : Int) x16_1 = some r) ∧ Aside0 (kq ≤ k) ∧ Aside0 (Kd.R (Kd.int .i64) 2 w' w.heap.size (fun _ => True) v11 x11_1) ∧ Aside0 (Below w.heap.size w w'))
 case atStart => exact ⟨(([] : List Int)), (0), rR, H', ⟨Nat.le_refl _⟩, ⟨by first | exact Kd.R_nil _ _ _ _ _ | exact Kd.N_nil _ _ _ _ _ | exact Kd.V_nil _ _ _ _ _ | exact Kd.Q_nil _ _ _ _ _ | exact Kd.S_nil _ _ _ _ _⟩, ⟨bX HB.out⟩⟩
 case round =>
  clear H'; try clear p2
  obtain ⟨x11_1, x16_1, rfl, HA, HK1, HO_11, HB⟩ := hrel
  cases gk with
  | zero => exact absurd HA.out (by simp [impl_voters.l0])
  | succ k1 =>
   have H := HA.out; clear HA; simp only [impl_voters.l0] at H
   by_cases c6 : x16_1 < (l0.length : Int)
   ·
    rw [if_pos c6] at H; have c6b0 := dY c6; clear c6; by_cases c7 : 0 ≤ x16_1
    ·
     rw [if_pos c7] at H; have c7b0 := dY c7; clear c7; by_cases c8 : x16_1 < (l0.length : Int)
     ·
      rw [if_pos c8] at H; have c8b0 := dY c8; clear c8; by_cases c9 : ((rd_T67 l0 x16_1).f0) = a1
      ·
       rw [if_pos c9] at H; have c9b0 : (((rd_T67 l0 x16_1).f0) == a1) = true := beq_iff_eq.mpr c9; have c9b1 : (((rd_T67 l0 x16_1).f0) != a1) = false := bne_eq_false_iff_eq.mpr c9; clear c9; by_cases c10 : ((rd_T67 l0 x16_1).f1) = a2
       ·
        rw [if_pos c10] at H; have c10b0 : (((rd_T67 l0 x16_1).f1) == a2) = true := beq_iff_eq.mpr c10; have c10b1 : (((rd_T67 l0 x16_1).f1) != a2) = false := bne_eq_false_iff_eq.mpr c10; clear c10; by_cases c11 : ((rd_T67 l0 x16_1).f2) = a3
        ·
         rw [if_pos c11] at H; have c11b0 : (((rd_T67 l0 x16_1).f2) == a3) = true := beq_iff_eq.mpr c11; have c11b1 : (((rd_T67 l0 x16_1).f2) != a3) = false := bne_eq_false_iff_eq.mpr c11; clear c11; by_cases c12 : ((rd_T67 l0 x16_1).f3).toList = a4.toList
         ·
          rw [if_pos c12] at H; have c12b0 : (((rd_T67 l0 x16_1).f3).toList == a4.toList) = true := beq_iff_eq.mpr c12; have c12b1 : (((rd_T67 l0 x16_1).f3).toList != a4.toList) = false := bne_eq_false_iff_eq.mpr c12; clear c12; by_cases c13 : x11_1.length < 17592186044416
          ·
           rw [if_pos c13] at H; have LMc13 := AM c13; clear c13; obtain ⟨y103, hy103⟩ : ∃ y_ : List Int, y_ = (x11_1 ++ [(rd_T67 l0 x16_1).f4]) := ⟨_, rfl⟩; replace H : (impl_voters.l0 k1 a1 a2 a3 a4 y103 l0 (l0.length : Int) (wrap64 (x16_1 + 1))) = some r := hS hy103 H
           have Ny103 := AM hy103; clear hy103; have H' := AM H; clear H; obtain ⟨p101, q101, ad101, e101, hx101_0, hx101_1, hx101_2, hx101_3, hx101_4⟩ := pQ (at_T67 (cB HR0.out HB.out) x16_1); cases e101; go_wp2_with (first | (refine bE (N := 13) (cs := zz0) (t := 67) ?_; intro gb102 hg w14 hbox hb; have GW102 := gY hg HB; have GE102 := GW102; have BK102 := AM (hbox); replace HO_11 := rY HO_11 hb; replace HB := bY HB hb; clear hb hbox hg; have hcz15 := q5 BK102.out; have hfz15 := fZ BK102.out) | ((with_reducible refine gate_builtin (b := .append) (xs := #[.tmp 42, .tmp 45]) rfl ?_); at_builtin; refine Kd.R_append (Kd.int .i64) (w0 := w) w.heap.size rfl (.tmp 42) (.tmp 45) 30 2 (.int .i64 0) 8 rfl Try.underlying30 info2 rfl (by decide) (by omega) u11 x11_1 ((rd_T67 l0 x16_1).f4) [.int .i64 ((rd_T67 l0 x16_1).f4)] (fun _ => True) (fun _ => False) rfl (by first | (go_simp; done) | (go_simp; rfl)) ?aP (fun _ hk => hk.elim) ?aF ?aO ?aB ?aS ?aL ?_; (case aP => exact rfl); (case aB => exact (bX HB.out)); (case aF => exact (fun _ _ => trivial)); (case aO => exact (by (with_reducible repeat (first | apply rA | apply rN | apply rD)); exact rt5 HO_11.out BK102.out (by decide) (fun _ hk => trivial))); (case aS => exact (bZ (bX HB.out))); (case aL => have := LMc13.out; omega); intro v104 w16 ho hb hg hat; rw [← Ny103.out] at ho; have _ := AM (blk_grown (g := gb102) (o := .cells #[.int .i64 ((rd_T67 l0 x16_1).f0), .int .i64 ((rd_T67 l0 x16_1).f1), .int .i64 ((rd_T67 l0 x16_1).f2), .string ((rd_T67 l0 x16_1).f3), .int .i64 ((rd_T67 l0 x16_1).f4)] 67 (0, 0)) (by refine pk5 zz0 ?_; exact kX BK102.out) hg (Kd.R_ne HO_11.out BK102.out (by decide))); have _ := AM (hb); have _ := AM (ho); clear BK102 HB HO_11; rename_i BK102 HB HO105; clear ho hb hg hat))
           go_roundg k1
           case measure => have := HK1.out; omega
           case rel => exact ⟨(y103), (wrap64 (x16_1 + 1)), rR, H', ⟨by have := HK1.out; omega⟩, ⟨rX HO105.out⟩, ⟨bX HB.out⟩⟩
          rw [if_neg c13] at H; exact absurd H (by simp)
         rw [if_neg c12] at H; have c12b0 : (((rd_T67 l0 x16_1).f3).toList == a4.toList) = false := beq_eq_false_iff_ne.mpr c12; have c12b1 : (((rd_T67 l0 x16_1).f3).toList != a4.toList) = true := bne_iff_ne.mpr c12; have H' := AM H; clear H; obtain ⟨p101, q101, ad101, e101, hx101_0, hx101_1, hx101_2, hx101_3, hx101_4⟩ := pQ (at_T67 (cB HR0.out HB.out) x16_1); cases e101; go_wp2_with (first | (refine bE (N := 13) (cs := zz0) (t := 67) ?_; intro gb102 hg w17 hbox hb; have GW102 := gY hg HB; have GE102 := GW102; have BK102 := AM (hbox); replace HO_11 := rY HO_11 hb; replace HB := bY HB hb; clear hb hbox hg; have hcz18 := q5 BK102.out; have hfz18 := fZ BK102.out))
         go_roundg k1
         case measure => have := HK1.out; omega
         case rel => exact ⟨(x11_1), (wrap64 (x16_1 + 1)), rR, H', ⟨by have := HK1.out; omega⟩, ⟨by (with_reducible repeat (first | apply rA | apply rN | apply rD)); exact rt5 HO_11.out BK102.out (by decide) (fun _ hk => trivial)⟩, ⟨bX HB.out⟩⟩
        rw [if_neg c11] at H; have c11b0 : (((rd_T67 l0 x16_1).f2) == a3) = false := beq_eq_false_iff_ne.mpr c11; have c11b1 : (((rd_T67 l0 x16_1).f2) != a3) = true := bne_iff_ne.mpr c11; have H' := AM H; clear H; obtain ⟨p101, q101, ad101, e101, hx101_0, hx101_1, hx101_2, hx101_3, hx101_4⟩ := pQ (at_T67 (cB HR0.out HB.out) x16_1); cases e101; go_wp2_with (first | (refine bE (N := 13) (cs := zz0) (t := 67) ?_; intro gb102 hg w19 hbox hb; have GW102 := gY hg HB; have GE102 := GW102; have BK102 := AM (hbox); replace HO_11 := rY HO_11 hb; replace HB := bY HB hb; clear hb hbox hg; have hcz20 := q5 BK102.out; have hfz20 := fZ BK102.out))
        go_roundg k1
        case measure => have := HK1.out; omega
        case rel => exact ⟨(x11_1), (wrap64 (x16_1 + 1)), rR, H', ⟨by have := HK1.out; omega⟩, ⟨by (with_reducible repeat (first | apply rA | apply rN | apply rD)); exact rt5 HO_11.out BK102.out (by decide) (fun _ hk => trivial)⟩, ⟨bX HB.out⟩⟩
       rw [if_neg c10] at H; have c10b0 : (((rd_T67 l0 x16_1).f1) == a2) = false := beq_eq_false_iff_ne.mpr c10; have c10b1 : (((rd_T67 l0 x16_1).f1) != a2) = true := bne_iff_ne.mpr c10; have H' := AM H; clear H; obtain ⟨p101, q101, ad101, e101, hx101_0, hx101_1, hx101_2, hx101_3, hx101_4⟩ := pQ (at_T67 (cB HR0.out HB.out) x16_1); cases e101; go_wp2_with (first | (refine bE (N := 13) (cs := zz0) (t := 67) ?_; intro gb102 hg w21 hbox hb; have GW102 := gY hg HB; have GE102 := GW102; have BK102 := AM (hbox); replace HO_11 := rY HO_11 hb; replace HB := bY HB hb; clear hb hbox hg; have hcz22 := q5 BK102.out; have hfz22 := fZ BK102.out))
       go_roundg k1
       case measure => have := HK1.out; omega
       case rel => exact ⟨(x11_1), (wrap64 (x16_1 + 1)), rR, H', ⟨by have := HK1.out; omega⟩, ⟨by (with_reducible repeat (first | apply rA | apply rN | apply rD)); exact rt5 HO_11.out BK102.out (by decide) (fun _ hk => trivial)⟩, ⟨bX HB.out⟩⟩
      rw [if_neg c9] at H; have c9b0 : (((rd_T67 l0 x16_1).f0) == a1) = false := beq_eq_false_iff_ne.mpr c9; have c9b1 : (((rd_T67 l0 x16_1).f0) != a1) = true := bne_iff_ne.mpr c9; have H' := AM H; clear H; obtain ⟨p101, q101, ad101, e101, hx101_0, hx101_1, hx101_2, hx101_3, hx101_4⟩ := pQ (at_T67 (cB HR0.out HB.out) x16_1); cases e101; go_wp2_with (first | (refine bE (N := 13) (cs := zz0) (t := 67) ?_; intro gb102 hg w23 hbox hb; have GW102 := gY hg HB; have GE102 := GW102; have BK102 := AM (hbox); replace HO_11 := rY HO_11 hb; replace HB := bY HB hb; clear hb hbox hg; have hcz24 := q5 BK102.out; have hfz24 := fZ BK102.out))
      go_roundg k1
      case measure => have := HK1.out; omega
      case rel => exact ⟨(x11_1), (wrap64 (x16_1 + 1)), rR, H', ⟨by have := HK1.out; omega⟩, ⟨by (with_reducible repeat (first | apply rA | apply rN | apply rD)); exact rt5 HO_11.out BK102.out (by decide) (fun _ hk => trivial)⟩, ⟨bX HB.out⟩⟩
     rw [if_neg c8] at H; exact absurd H (by simp)
    rw [if_neg c7] at H; exact absurd H (by simp)
   rw [if_neg c6] at H; have c6b0 := dN c6; clear c6; replace H := oM H; obtain ⟨t106, A250, H⟩ := H; have A25 := AM A250; clear A250; obtain rfl := Option.some.inj H; obtain ⟨Ao26, co26, eo26⟩ := Kd.R_slice HO_11.out; subst eo26; go_wp2_with (first | ((with_reducible refine gate_callee (f := 69) rfl ?_); refine gL (some 49) Try.func69 #[.slice Ao26 x11_1.length co26] ?_; (with_reducible refine (slices_Sort_int64_int64.calls k1 (fun k_ => some k_ = (.slice Ao26 x11_1.length co26 : Value).ownBlock) (.slice Ao26 x11_1.length co26) x11_1 t106 w _ ?s1 ?s2 A25.out).mono ?_); (case s1 => exact (bX HB.out)); (case s2 => exact Kd.R_tight rfl HO_11.out); rintro e w27 ⟨rfl, hy0, hb, hkp⟩; refine ⟨_, rfl, ?_⟩; replace HO_11 := AM (Kd.R_reok rfl hy0 (fun k_ e_ => HO_11.out.1 k_ e_)); replace HB := AM (hb); (try clear hkp); (try clear hy0)))
   go_ret
   exact ⟨_, rE, rX HO_11.out, bX HB.out⟩

/-! ### impl_proofOf: function 62 -/

def impl_proofOf.f (k : Nat) (l0 : List (S67)) (a1 : Int) (a2 : Int) (a3 : ByteArray) : Option (Int × Int × ByteArray × List Int) := (impl_voters.f k l0 2 a1 a2 a3).bind fun t102 => (if (t102.length : Int) < 3 then (some (0, 0, (⟨#[]⟩ : ByteArray), ([] : List Int))) else (some (a1, a2, a3, t102)))
set_option maxHeartbeats 60000000 in
set_option maxRecDepth 100000 in
theorem impl_proofOf.calls (k : Nat) (A0 : Option Addr) (c0 : Nat) (l0 : List (S67)) (a1 : Int) (a2 : Int) (a3 : ByteArray) (r1 : Int) (r2 : Int) (r3 : ByteArray) (r4 : List Int) (w : World) (hr0 : Kd.C k67 w A0 l0.length l0) (hc0 : l0.length ≤ c0) (h : impl_proofOf.f k l0 a1 a2 a3 = some (r1, r2, r3, r4)) :
    Calls Try.prog 62 #[.slice A0 l0.length c0, .int .i64 a1, .int .i64 a2, .string a3] w fun e w' => ∃ v3_ : Value, e = .returned (.agg #[.int .i64 r1, .int .i64 r2, .string r3, v3_]) ∧ Kd.R (Kd.int .i64) 2 w' w.heap.size (fun _ => True) v3_ r4 ∧ Below w.heap.size w w' := by
 have hu32 := Try.underlying32; have HR0 := AM hr0; have HC0 := AM hc0; clear hr0 hc0; have HB := AM (Below.refl w.heap.size w); have H : ((impl_voters.f k l0 2 a1 a2 a3).bind fun t102 => (if (t102.length : Int) < 3 then (some (0, 0, (⟨#[]⟩ : ByteArray), ([] : List Int))) else (some (a1, a2, a3, t102)))) = some (r1, r2, r3, r4) := h; clear h; replace H := oM H; obtain ⟨t102, A50, H⟩ := H; have A5 := AM A50; clear A50; by_cases c6 : (t102.length : Int) < 3
 ·
  rw [if_pos c6] at H; have c6b0 := dY c6; have c6b1 : decide (t102.length < 3) = true := dY (by omega); clear c6; simp only [Option.some.injEq, Prod.mk.injEq] at H
  obtain ⟨rfl, rfl, rfl, rfl⟩ := H; go_enter Try.func62, Try.ntmps62
  go_wp2_with (first | (refine bE (N := 8) (cs := zz1) (t := 32) ?_; intro gb101 hg w7 hbox hb; have GW101 := gY hg HB; have GE101 := GW101; have BK101 := AM (hbox); replace HB := bY HB hb; clear hb hbox hg) | ((with_reducible refine gate_callee (f := 66) rfl ?_); refine gL (some 14) Try.func66 #[.slice A0 l0.length c0, .int .i64 2, .int .i64 a1, .int .i64 a2, .string a3] ?_; (with_reducible refine (impl_voters.calls _ _ _ _ _ _ _ _ _ _ ?s1 ?s2 A5.out).mono ?_); (case s1 => exact cY HR0 HB); (case s2 => exact HC0.out); rintro e w8 ⟨v103, rfl, ho0, hb⟩; refine ⟨_, rfl, ?_⟩; have HO104 := AM (Kd.R_lower ho0 (bZ (bX HB.out))); replace BK101 := nY BK101 hb; replace HB := bY HB hb; (try clear ho0); obtain ⟨Ao9, co9, eo9⟩ := Kd.R_slice HO104.out; subst eo9; have hcz10 := q4 BK101.out; have hfz10 := fZ BK101.out))
  refine bodyPost_ret (results_cell_row rfl _ _ gb101 32 #[.int .i64 0, .int .i64 0, .string (⟨#[]⟩ : ByteArray), .slice none 0 0] (0, 0) _ rfl (by refine pk4 zz1 ?_; exact kX BK101.out) Try.underlying32 rfl (by kernel_rfl)) rfl ?_; exact ⟨_, rE, by first | exact Kd.R_nil _ _ _ _ _ | exact Kd.N_nil _ _ _ _ _ | exact Kd.V_nil _ _ _ _ _ | exact Kd.Q_nil _ _ _ _ _ | exact Kd.S_nil _ _ _ _ _, bX HB.out⟩
 rw [if_neg c6] at H; have c6b0 := dN c6; have c6b1 : decide (t102.length < 3) = false := dN (by omega); clear c6; simp only [Option.some.injEq, Prod.mk.injEq] at H
 obtain ⟨rfl, rfl, rfl, rfl⟩ := H; go_enter Try.func62, Try.ntmps62
 go_wp2_with (first | (refine bE (N := 8) (cs := zz1) (t := 32) ?_; intro gb101 hg w11 hbox hb; have GW101 := gY hg HB; have GE101 := GW101; have BK101 := AM (hbox); replace HB := bY HB hb; clear hb hbox hg) | ((with_reducible refine gate_callee (f := 66) rfl ?_); refine gL (some 14) Try.func66 #[.slice A0 l0.length c0, .int .i64 2, .int .i64 a1, .int .i64 a2, .string a3] ?_; (with_reducible refine (impl_voters.calls _ _ _ _ _ _ _ _ _ _ ?s1 ?s2 A5.out).mono ?_); (case s1 => exact cY HR0 HB); (case s2 => exact HC0.out); rintro e w12 ⟨v103, rfl, ho0, hb⟩; refine ⟨_, rfl, ?_⟩; have HO104 := AM (Kd.R_lower ho0 (bZ (bX HB.out))); replace BK101 := nY BK101 hb; replace HB := bY HB hb; (try clear ho0); obtain ⟨Ao13, co13, eo13⟩ := Kd.R_slice HO104.out; subst eo13; have hcz14 := q4 BK101.out; have hfz14 := fZ BK101.out))
 refine bodyPost_ret (results_cell_row rfl _ _ gb101 32 #[.int .i64 a1, .int .i64 a2, .string a3, .slice Ao13 t102.length co13] (0, 0) _ rfl (by refine pk4 zz1 ?_; exact kX BK101.out) Try.underlying32 rfl (by kernel_rfl)) rfl ?_; exact ⟨_, rE, by (with_reducible repeat (first | apply rA | apply rN | apply rD)); exact Rf4 HO104.out BK101.out (by decide) (fun _ hk => trivial), bX HB.out⟩

/-! ### impl_provedIn: function 58 -/

def impl_provedIn.l0 : Nat → List (S67) → Int → Int → List ByteArray → Int → Int → Option (Int × Int × ByteArray × List Int)
  | 0, _, _, _, _, _, _ => none
  | k + 1, x0, x1, x2, x13, x14, x15 => if x15 < x14 then (if 0 ≤ x15 then (if x15 < (x13.length : Int) then ((impl_proofOf.f k x0 x1 x2 (rdOf ByteArray.empty x13 x15)).bind fun bt106 => (if bt106.2.1 = 0 then (impl_provedIn.l0 k x0 x1 x2 x13 x14 (wrap64 (x15 + 1))) else (some (bt106.1, bt106.2.1, bt106.2.2.1, bt106.2.2.2)))) else (none)) else (none)) else (some (0, 0, (⟨#[]⟩ : ByteArray), ([] : List Int)))
def impl_provedIn.f (k : Nat) (l0 : List (S67)) (a1 : Int) (a2 : Int) : Option (Int × Int × ByteArray × List Int) := (impl_opsOf.f k l0 2 a1 a2).bind fun t102 => (impl_provedIn.l0 k l0 a1 a2 t102 (t102.length : Int) 0)
set_option maxHeartbeats 60000000 in
set_option maxRecDepth 100000 in
theorem impl_provedIn.calls (k : Nat) (A0 : Option Addr) (c0 : Nat) (l0 : List (S67)) (a1 : Int) (a2 : Int) (r1 : Int) (r2 : Int) (r3 : ByteArray) (r4 : List Int) (w : World) (hr0 : Kd.C k67 w A0 l0.length l0) (hc0 : l0.length ≤ c0) (h : impl_provedIn.f k l0 a1 a2 = some (r1, r2, r3, r4)) :
    Calls Try.prog 58 #[.slice A0 l0.length c0, .int .i64 a1, .int .i64 a2] w fun e w' => ∃ v3_ : Value, e = .returned (.agg #[.int .i64 r1, .int .i64 r2, .string r3, v3_]) ∧ Kd.R (Kd.int .i64) 2 w' w.heap.size (fun _ => True) v3_ r4 ∧ Below w.heap.size w w' := by
 have hu32 := Try.underlying32; have HR0 := AM hr0; have HC0 := AM hc0; clear hr0 hc0; have HB := AM (Below.refl w.heap.size w); have H : ((impl_opsOf.f k l0 2 a1 a2).bind fun t102 => (impl_provedIn.l0 k l0 a1 a2 t102 (t102.length : Int) 0)) = some (r1, r2, r3, r4) := h; clear h; replace H := oM H; obtain ⟨t102, A40, H⟩ := H; have A4 := AM A40; clear A40; have H' := AM H; clear H; go_enter Try.func58, Try.ntmps58
 go_wp2_with (first | (refine bE (N := 6) (cs := zz1) (t := 32) ?_; intro gb101 hg w5 hbox hb; have GW101 := gY hg HB; have GE101 := GW101; have BK101 := AM (hbox); replace HB := bY HB hb; clear hb hbox hg) | ((with_reducible refine gate_callee (f := 61) rfl ?_); refine gL (some 13) Try.func61 #[.slice A0 l0.length c0, .int .i64 2, .int .i64 a1, .int .i64 a2] ?_; (with_reducible refine (impl_opsOf.calls _ _ _ _ _ _ _ _ _ ?s1 ?s2 A4.out).mono ?_); (case s1 => exact cY HR0 HB); (case s2 => exact HC0.out); rintro e w6 ⟨v103, rfl, ho0, hb⟩; refine ⟨_, rfl, ?_⟩; have HO104 := AM (Kd.R_lower ho0 (bZ (bX HB.out))); replace BK101 := nY BK101 hb; replace HB := bY HB hb; (try clear ho0); obtain ⟨Ao7, co7, eo7⟩ := Kd.R_slice HO104.out; subst eo7))
 go_loopg [15] k (fun kq v15 w' => ∃ (x15_1 : Int) (x102000_1 : Int) (x102001_1 : Int) (x102002_1 : ByteArray), v15 = .int .i64 x15_1 ∧ Aside0 (impl_provedIn.l0 kq l0 a1 a2 t102 (t102.length : Int) x15_1 = some (r1, r2, r3, r4)) ∧ Aside0 (kq ≤ k) ∧ Aside0 (Kd.R Kd.string 9 w' w.heap.size (fun _ => True) (.slice Ao7 t102.length co7) t102) ∧ Aside0 (w'.heap[gb101]? = some (.cells #[.int .i64 x102000_1, .int .i64 x102001_1, .string x102002_1, (.slice none 0 0)] 32 (0, 0))) ∧ Aside0 (Below w.heap.size w w'))
 case atStart => exact ⟨(0), (0), (0), ((⟨#[]⟩ : ByteArray)), rR, H', ⟨Nat.le_refl _⟩, ⟨rX HO104.out⟩, ⟨kX BK101.out⟩, ⟨bX HB.out⟩⟩
 case round =>
  clear H'; (try clear p2); (try clear c5); (try clear c6); obtain ⟨x15_1, x102000_1, x102001_1, x102002_1, rfl, HA, HK1, HO_13, BK101, HB⟩ := hrel
  cases gk with
  | zero => exact absurd HA.out (by simp [impl_provedIn.l0])
  | succ k1 =>
   have H := HA.out; clear HA; simp only [impl_provedIn.l0] at H
   by_cases c8 : x15_1 < (t102.length : Int)
   ·
    rw [if_pos c8] at H; have c8b0 := dY c8; clear c8; by_cases c9 : 0 ≤ x15_1
    ·
     rw [if_pos c9] at H; have c9b0 := dY c9; clear c9; by_cases c10 : x15_1 < (t102.length : Int)
     ·
      rw [if_pos c10] at H; have c10b0 := dY c10; clear c10; replace H := oM H; obtain ⟨⟨t106, t107, t108, t109⟩, A110, H⟩ := H; try dsimp only at H
      have A11 := AM A110; clear A110; by_cases c12 : t107 = 0
      ·
       rw [if_pos c12] at H; have c12b0 : (t107 == 0) = true := beq_iff_eq.mpr c12; have c12b1 : (t107 != 0) = false := bne_eq_false_iff_eq.mpr c12; clear c12; have H' := AM H; clear H; obtain ⟨p105, q105, ad105, e105, hx105_0⟩ := pQ (Kd.at_string (Kd.R_reads' HO_13.out).2.2 x15_1); cases e105; go_wp2_with (first | ((with_reducible refine gate_callee (f := 62) rfl ?_); refine gL (some 23) Try.func62 #[.slice A0 l0.length c0, .int .i64 a1, .int .i64 a2, .string (rdOf ByteArray.empty t102 x15_1)] ?_; (with_reducible refine (impl_proofOf.calls _ _ _ _ _ _ _ _ _ _ _ _ ?s1 ?s2 A11.out).mono ?_); (case s1 => exact cY HR0 HB); (case s2 => exact HC0.out); rintro e w13 ⟨v110, rfl, ho0, hb⟩; refine ⟨_, rfl, ?_⟩; have HO111 := AM (Kd.R_lower ho0 (bZ (bX HB.out))); replace HO_13 := rY HO_13 hb; replace BK101 := nY BK101 hb; replace HB := bY HB hb; (try clear ho0)) | (refine bE (N := 9) (cs := zz1) (t := 32) ?_; intro gb112 hg w14 hbox hb; have GW112 := gY hg HB; have GE112 := GW112; have BK112 := AM (hbox); have NB101_112 := lY hg BK101; have NB112_101 := sY NB101_112; replace HO_13 := rY HO_13 hb; replace HO111 := rY HO111 hb; replace BK101 := nY BK101 hb; replace HB := bY HB hb; clear hb hbox hg; have hnb15 := nP NB112_101; have hcz16 := q4 BK112.out; have hfz16 := fZ BK112.out; obtain ⟨Ao17, co17, eo17⟩ := Kd.R_slice HO111.out; subst eo17))
       go_roundg k1
       case measure => have := HK1.out; omega
       case rel => exact ⟨(wrap64 (x15_1 + 1)), (x102000_1), (x102001_1), (x102002_1), rR, H', ⟨by have := HK1.out; omega⟩, ⟨by (with_reducible repeat (first | apply rA | apply rN | apply rD)); exact Rf4 HO_13.out BK112.out (by decide) (fun _ hk => trivial)⟩, ⟨by (iterate 4 refine kF NB101_112.out ?_); exact kX BK101.out⟩, ⟨bX HB.out⟩⟩
      rw [if_neg c12] at H; have c12b0 : (t107 == 0) = false := beq_eq_false_iff_ne.mpr c12; have c12b1 : (t107 != 0) = true := bne_iff_ne.mpr c12; simp only [Option.some.injEq, Prod.mk.injEq] at H
      obtain ⟨rfl, rfl, rfl, rfl⟩ := H; obtain ⟨p105, q105, ad105, e105, hx105_0⟩ := pQ (Kd.at_string (Kd.R_reads' HO_13.out).2.2 x15_1); cases e105; go_wp2_with (first | ((with_reducible refine gate_callee (f := 62) rfl ?_); refine gL (some 23) Try.func62 #[.slice A0 l0.length c0, .int .i64 a1, .int .i64 a2, .string (rdOf ByteArray.empty t102 x15_1)] ?_; (with_reducible refine (impl_proofOf.calls _ _ _ _ _ _ _ _ _ _ _ _ ?s1 ?s2 A11.out).mono ?_); (case s1 => exact cY HR0 HB); (case s2 => exact HC0.out); rintro e w18 ⟨v110, rfl, ho0, hb⟩; refine ⟨_, rfl, ?_⟩; have HO111 := AM (Kd.R_lower ho0 (bZ (bX HB.out))); replace HO_13 := rY HO_13 hb; replace BK101 := nY BK101 hb; replace HB := bY HB hb; (try clear ho0)) | (refine bE (N := 9) (cs := zz1) (t := 32) ?_; intro gb112 hg w19 hbox hb; have GW112 := gY hg HB; have GE112 := GW112; have BK112 := AM (hbox); have NB101_112 := lY hg BK101; have NB112_101 := sY NB101_112; replace HO_13 := rY HO_13 hb; replace HO111 := rY HO111 hb; replace BK101 := nY BK101 hb; replace HB := bY HB hb; clear hb hbox hg; have hnb20 := nP NB112_101; have hcz21 := q4 BK112.out; have hfz21 := fZ BK112.out; obtain ⟨Ao22, co22, eo22⟩ := Kd.R_slice HO111.out; subst eo22; have hcz23 := q4 BK101.out; have hfz23 := fZ BK101.out))
      refine bodyPost_ret (results_cell_row rfl _ _ gb101 32 #[.int .i64 t106, .int .i64 t107, .string t108, .slice Ao22 t109.length co22] (0, 0) _ rfl (by refine kP (cs := #[.int .i64 t106, .int .i64 t107, .string t108, .slice none 0 0]) 3 ?_; refine kP (cs := #[.int .i64 t106, .int .i64 t107, .string x102002_1, .slice none 0 0]) 2 ?_; refine kP (cs := #[.int .i64 t106, .int .i64 x102001_1, .string x102002_1, .slice none 0 0]) 1 ?_; refine kP (cs := #[.int .i64 x102000_1, .int .i64 x102001_1, .string x102002_1, .slice none 0 0]) 0 ?_; (iterate 4 refine kF NB101_112.out ?_); exact kX BK101.out) Try.underlying32 rfl (by kernel_rfl)) rfl ?_; exact ⟨_, rE, by (with_reducible repeat (first | apply rA | apply rN | apply rD)); exact Kd.R_mono (Kd.R_far (p := ⟨gb101, 3, none⟩) (Kd.R_far (p := ⟨gb101, 2, none⟩) (Kd.R_far (p := ⟨gb101, 1, none⟩) (Kd.R_far (p := ⟨gb101, 0, none⟩) (Kd.R_far (p := ⟨gb112, 3, none⟩) (Kd.R_far (p := ⟨gb112, 2, none⟩) (Kd.R_far (p := ⟨gb112, 1, none⟩) (Kd.R_far (p := ⟨gb112, 0, none⟩) (Kd.R_types (Kd.R_types HO111.out BK112.out (by decide)) BK101.out (by decide)) (fun _ hk => hk.1.2) (.int .i64 t106)) (fun _ hk => hk.1.2) (.int .i64 t107)) (fun _ hk => hk.1.2) (.string t108)) (fun _ hk => hk.1.2) (.slice Ao22 t109.length co22)) (fun _ hk => hk.2) (.int .i64 t106)) (fun _ hk => hk.2) (.int .i64 t107)) (fun _ hk => hk.2) (.string t108)) (fun _ hk => hk.2) (.slice Ao22 t109.length co22)) (fun _ hk => trivial), bX HB.out⟩
     rw [if_neg c10] at H; exact absurd H (by simp)
    rw [if_neg c9] at H; exact absurd H (by simp)
   rw [if_neg c8] at H; have c8b0 := dN c8; clear c8; simp only [Option.some.injEq, Prod.mk.injEq] at H
   obtain ⟨rfl, rfl, rfl, rfl⟩ := H; have hcz24 := q4 BK101.out; have hfz24 := fZ BK101.out; go_wp2
   refine bodyPost_ret (results_cell_row rfl _ _ gb101 32 #[.int .i64 0, .int .i64 0, .string (⟨#[]⟩ : ByteArray), .slice none 0 0] (0, 0) _ rfl (by refine pk4 #[.int .i64 x102000_1, .int .i64 x102001_1, .string x102002_1, .slice none 0 0] ?_; exact kX BK101.out) Try.underlying32 rfl (by kernel_rfl)) rfl ?_; exact ⟨_, rE, by first | exact Kd.R_nil _ _ _ _ _ | exact Kd.N_nil _ _ _ _ _ | exact Kd.V_nil _ _ _ _ _ | exact Kd.Q_nil _ _ _ _ _ | exact Kd.S_nil _ _ _ _ _, bX HB.out⟩

/-! ### impl_prepared: function 41 -/

def impl_prepared.l0 : Nat → List (S67) → Int → Int → Option (Int × Int × ByteArray × List Int)
  | 0, _, _, _ => none
  | k + 1, x0, x1, x7 => if x7 ≥ 0 then ((impl_provedIn.f k x0 x7 x1).bind fun bt102 => (if bt102.2.1 = 0 then (impl_prepared.l0 k x0 x1 (wrap64 (x7 - 1))) else (some (bt102.1, bt102.2.1, bt102.2.2.1, bt102.2.2.2)))) else (some (0, 0, (⟨#[]⟩ : ByteArray), ([] : List Int)))
def impl_prepared.f (k : Nat) (l0 : List (S67)) (a1 : Int) (a2 : Int) : Option (Int × Int × ByteArray × List Int) := impl_prepared.l0 k l0 a1 a2
set_option maxHeartbeats 60000000 in
set_option maxRecDepth 100000 in
theorem impl_prepared.calls (k : Nat) (A0 : Option Addr) (c0 : Nat) (l0 : List (S67)) (a1 : Int) (a2 : Int) (r1 : Int) (r2 : Int) (r3 : ByteArray) (r4 : List Int) (w : World) (hr0 : Kd.C k67 w A0 l0.length l0) (hc0 : l0.length ≤ c0) (h : impl_prepared.f k l0 a1 a2 = some (r1, r2, r3, r4)) :
    Calls Try.prog 41 #[.slice A0 l0.length c0, .int .i64 a1, .int .i64 a2] w fun e w' => ∃ v3_ : Value, e = .returned (.agg #[.int .i64 r1, .int .i64 r2, .string r3, v3_]) ∧ Kd.R (Kd.int .i64) 2 w' w.heap.size (fun _ => True) v3_ r4 ∧ Below w.heap.size w w' := by
 have hu32 := Try.underlying32; have HR0 := AM hr0; have HC0 := AM hc0; clear hr0 hc0; have HB := AM (Below.refl w.heap.size w); have H : (impl_prepared.l0 k l0 a1 a2) = some (r1, r2, r3, r4) := h; clear h; have H' := AM H; clear H; go_enter Try.func41, Try.ntmps41
 go_wp2_with (first | (refine bE (N := 6) (cs := zz1) (t := 32) ?_; intro gb101 hg w4 hbox hb; have GW101 := gY hg HB; have GE101 := GW101; have BK101 := AM (hbox); replace HB := bY HB hb; clear hb hbox hg))
 go_loopg [7] k (fun kq v7 w' => ∃ (x7_1 : Int) (x102000_1 : Int) (x102001_1 : Int) (x102002_1 : ByteArray), v7 = .int .i64 x7_1 ∧ Aside0 (impl_prepared.l0 kq l0 a1 x7_1 = some (r1, r2, r3, r4)) ∧ Aside0 (kq ≤ k) ∧ Aside0 (w'.heap[gb101]? = some (.cells #[.int .i64 x102000_1, .int .i64 x102001_1, .string x102002_1, (.slice none 0 0)] 32 (0, 0))) ∧ Aside0 (Below w.heap.size w w'))
 case atStart => exact ⟨(a2), (0), (0), ((⟨#[]⟩ : ByteArray)), rR, H', ⟨Nat.le_refl _⟩, ⟨kX BK101.out⟩, ⟨bX HB.out⟩⟩
 case round =>
  clear H'; (try clear p2); (try clear c4); obtain ⟨x7_1, x102000_1, x102001_1, x102002_1, rfl, HA, HK1, BK101, HB⟩ := hrel
  cases gk with
  | zero => exact absurd HA.out (by simp [impl_prepared.l0])
  | succ k1 =>
   have H := HA.out; clear HA; simp only [impl_prepared.l0] at H
   by_cases c5 : x7_1 ≥ 0
   ·
    rw [if_pos c5] at H; have c5b0 : decide (0 ≤ x7_1) = true := dY c5; clear c5; replace H := oM H; obtain ⟨⟨t102, t103, t104, t105⟩, A60, H⟩ := H; try dsimp only at H
    have A6 := AM A60; clear A60; by_cases c7 : t103 = 0
    ·
     rw [if_pos c7] at H; have c7b0 : (t103 == 0) = true := beq_iff_eq.mpr c7; have c7b1 : (t103 != 0) = false := bne_eq_false_iff_eq.mpr c7; clear c7; have H' := AM H; clear H; go_wp2_with (first | ((with_reducible refine gate_callee (f := 58) rfl ?_); refine gL (some 17) Try.func58 #[.slice A0 l0.length c0, .int .i64 x7_1, .int .i64 a1] ?_; (with_reducible refine (impl_provedIn.calls _ _ _ _ _ _ _ _ _ _ _ ?s1 ?s2 A6.out).mono ?_); (case s1 => exact cY HR0 HB); (case s2 => exact HC0.out); rintro e w8 ⟨v106, rfl, ho0, hb⟩; refine ⟨_, rfl, ?_⟩; have HO107 := AM (Kd.R_lower ho0 (bZ (bX HB.out))); replace BK101 := nY BK101 hb; replace HB := bY HB hb; (try clear ho0)) | (refine bE (N := 8) (cs := zz1) (t := 32) ?_; intro gb108 hg w9 hbox hb; have GW108 := gY hg HB; have GE108 := GW108; have BK108 := AM (hbox); have NB101_108 := lY hg BK101; have NB108_101 := sY NB101_108; replace HO107 := rY HO107 hb; replace BK101 := nY BK101 hb; replace HB := bY HB hb; clear hb hbox hg; have hnb10 := nP NB108_101; have hcz11 := q4 BK108.out; have hfz11 := fZ BK108.out; obtain ⟨Ao12, co12, eo12⟩ := Kd.R_slice HO107.out; subst eo12))
     go_roundg k1
     case measure => have := HK1.out; omega
     case rel => exact ⟨(wrap64 (x7_1 - 1)), (x102000_1), (x102001_1), (x102002_1), rR, H', ⟨by have := HK1.out; omega⟩, ⟨by (iterate 4 refine kF NB101_108.out ?_); exact kX BK101.out⟩, ⟨bX HB.out⟩⟩
    rw [if_neg c7] at H; have c7b0 : (t103 == 0) = false := beq_eq_false_iff_ne.mpr c7; have c7b1 : (t103 != 0) = true := bne_iff_ne.mpr c7; simp only [Option.some.injEq, Prod.mk.injEq] at H
    obtain ⟨rfl, rfl, rfl, rfl⟩ := H; go_wp2_with (first | ((with_reducible refine gate_callee (f := 58) rfl ?_); refine gL (some 17) Try.func58 #[.slice A0 l0.length c0, .int .i64 x7_1, .int .i64 a1] ?_; (with_reducible refine (impl_provedIn.calls _ _ _ _ _ _ _ _ _ _ _ ?s1 ?s2 A6.out).mono ?_); (case s1 => exact cY HR0 HB); (case s2 => exact HC0.out); rintro e w13 ⟨v106, rfl, ho0, hb⟩; refine ⟨_, rfl, ?_⟩; have HO107 := AM (Kd.R_lower ho0 (bZ (bX HB.out))); replace BK101 := nY BK101 hb; replace HB := bY HB hb; (try clear ho0)) | (refine bE (N := 8) (cs := zz1) (t := 32) ?_; intro gb108 hg w14 hbox hb; have GW108 := gY hg HB; have GE108 := GW108; have BK108 := AM (hbox); have NB101_108 := lY hg BK101; have NB108_101 := sY NB101_108; replace HO107 := rY HO107 hb; replace BK101 := nY BK101 hb; replace HB := bY HB hb; clear hb hbox hg; have hnb15 := nP NB108_101; have hcz16 := q4 BK108.out; have hfz16 := fZ BK108.out; obtain ⟨Ao17, co17, eo17⟩ := Kd.R_slice HO107.out; subst eo17; have hcz18 := q4 BK101.out; have hfz18 := fZ BK101.out))
    refine bodyPost_ret (results_cell_row rfl _ _ gb101 32 #[.int .i64 t102, .int .i64 t103, .string t104, .slice Ao17 t105.length co17] (0, 0) _ rfl (by refine kP (cs := #[.int .i64 t102, .int .i64 t103, .string t104, .slice none 0 0]) 3 ?_; refine kP (cs := #[.int .i64 t102, .int .i64 t103, .string x102002_1, .slice none 0 0]) 2 ?_; refine kP (cs := #[.int .i64 t102, .int .i64 x102001_1, .string x102002_1, .slice none 0 0]) 1 ?_; refine kP (cs := #[.int .i64 x102000_1, .int .i64 x102001_1, .string x102002_1, .slice none 0 0]) 0 ?_; (iterate 4 refine kF NB101_108.out ?_); exact kX BK101.out) Try.underlying32 rfl (by kernel_rfl)) rfl ?_; exact ⟨_, rE, by (with_reducible repeat (first | apply rA | apply rN | apply rD)); exact Kd.R_mono (Kd.R_far (p := ⟨gb101, 3, none⟩) (Kd.R_far (p := ⟨gb101, 2, none⟩) (Kd.R_far (p := ⟨gb101, 1, none⟩) (Kd.R_far (p := ⟨gb101, 0, none⟩) (Kd.R_far (p := ⟨gb108, 3, none⟩) (Kd.R_far (p := ⟨gb108, 2, none⟩) (Kd.R_far (p := ⟨gb108, 1, none⟩) (Kd.R_far (p := ⟨gb108, 0, none⟩) (Kd.R_types (Kd.R_types HO107.out BK108.out (by decide)) BK101.out (by decide)) (fun _ hk => hk.1.2) (.int .i64 t102)) (fun _ hk => hk.1.2) (.int .i64 t103)) (fun _ hk => hk.1.2) (.string t104)) (fun _ hk => hk.1.2) (.slice Ao17 t105.length co17)) (fun _ hk => hk.2) (.int .i64 t102)) (fun _ hk => hk.2) (.int .i64 t103)) (fun _ hk => hk.2) (.string t104)) (fun _ hk => hk.2) (.slice Ao17 t105.length co17)) (fun _ hk => trivial), bX HB.out⟩
   rw [if_neg c5] at H; have c5b0 : decide (0 ≤ x7_1) = false := dN c5; clear c5; simp only [Option.some.injEq, Prod.mk.injEq] at H
   obtain ⟨rfl, rfl, rfl, rfl⟩ := H; have hcz19 := q4 BK101.out; have hfz19 := fZ BK101.out; go_wp2
   refine bodyPost_ret (results_cell_row rfl _ _ gb101 32 #[.int .i64 0, .int .i64 0, .string (⟨#[]⟩ : ByteArray), .slice none 0 0] (0, 0) _ rfl (by refine pk4 #[.int .i64 x102000_1, .int .i64 x102001_1, .string x102002_1, .slice none 0 0] ?_; exact kX BK101.out) Try.underlying32 rfl (by kernel_rfl)) rfl ?_; exact ⟨_, rE, by first | exact Kd.R_nil _ _ _ _ _ | exact Kd.N_nil _ _ _ _ _ | exact Kd.V_nil _ _ _ _ _ | exact Kd.Q_nil _ _ _ _ _ | exact Kd.S_nil _ _ _ _ _, bX HB.out⟩

end Go.Proofs.Ytmfbkkjlijaabaa.Q
