/- Printed by wip/mp.py: functions as plain Lean functions, and their calls. -/
import Derived.Test.YtcaildjhnkedfaaQx0
import Derived.Test.YtcaildjhnkedfaaQx2
namespace Go.Proofs.Ytcaildjhnkedfaa.Q
open Go.RowKit Go.Proofs.Ytcaildjhnkedfaa.HB Go.Proofs.YtcaildjhnkedfaaW.PrintWords Go.Proofs.YtcaildjhnkedfaaW.PrintLast Go.Proofs.YtcaildjhnkedfaaW.PrintMore
attribute [local go_sem] max2_int min2_int max_two min_two max_three min_three max_four min_four   -- for this text's walks alone
set_option linter.unusedVariables false
set_option linter.unusedSimpArgs false

/-! ### spec_PutNum: function 56 -/

def spec_PutNum.l0 : Nat → Int → List Int → Option (ByteArray)
  | 0, _, _ => none
  | k + 1, x3, x4 => if x3 ≥ 128 then (if x4.length < 140737488355328 then (spec_PutNum.l0 k (IntKind.u64.wrap (Int.tdiv x3 128)) (x4 ++ [(IntKind.u64.wrap ((Int.tmod x3 128) + 128)) % 256])) else (none)) else (if x4.length < 140737488355328 then (some (strOfNums (x4 ++ [(x3) % 256]))) else (none))
def spec_PutNum.f (k : Nat) (a0 : Int) : Option (ByteArray) := (spec_l01Fold.f a0).bind fun t101 => (spec_PutNum.l0 k t101 (([] : List Int)))
theorem spec_PutNum.mono_l : ∀ k, (∀ y0 y1, LeO (spec_PutNum.l0 k y0 y1) (spec_PutNum.l0 (k + 1) y0 y1))
  | 0 => fun _ _ r h => by simp [spec_PutNum.l0] at h
  | k + 1 => by
    have ih0 := spec_PutNum.mono_l k
    · intro y0 y1
      unfold spec_PutNum.l0
      repeat' first | (with_reducible first | exact ih0 _ _ | exact oR _ | exact oN _ | refine oI ?_ ?_ | refine oB ?_ fun _ => ?_) | exact ih0 _ _ | exact oN _ | refine oI ?_ ?_ | refine oB ?_ fun _ => ?_
theorem spec_PutNum.mono : ∀ a0 k, LeO (spec_PutNum.f k a0) (spec_PutNum.f (k + 1) a0) := by
  intro a0 k; have ih0 := spec_PutNum.mono_l k; unfold spec_PutNum.f
  repeat' first | (with_reducible first | exact ih0 _ _ | exact oR _ | exact oN _ | refine oI ?_ ?_ | refine oB ?_ fun _ => ?_) | exact ih0 _ _ | exact oN _ | refine oI ?_ ?_ | refine oB ?_ fun _ => ?_
set_option maxHeartbeats 60000000 in
set_option maxRecDepth 100000 in
theorem spec_PutNum.calls (k : Nat) (a0 : Int) (r : ByteArray) (w : World) (h : spec_PutNum.f k a0 = some r) :
    Calls Try.prog 56 #[.int .i64 a0] w fun e w' => e = .returned (.string r) ∧ Below w.heap.size w w' := by
 have HB := AM (Below.refl w.heap.size w); have H : ((spec_l01Fold.f a0).bind fun t101 => (spec_PutNum.l0 k t101 (([] : List Int)))) = some r := h; clear h; replace H := oM H; obtain ⟨t101, A20, H⟩ := H; have A2 := AM A20; clear A20; obtain ⟨y102, hy102⟩ : ∃ y_ : List Int, y_ = (([] : List Int)) := ⟨_, rfl⟩; replace H : (spec_PutNum.l0 k t101 y102) = some r := by first | (rw [hy102]; with_reducible exact H) | (have H2_ := (Option.bind_some _ _).symm.trans H; rw [hy102]; with_reducible exact H2_) | (have H2_ := (Option.bind_some _ _).symm.trans H; with_reducible exact H2_) | with_reducible exact H | (rw [hy102]; exact H) | exact H
 have Ny102 := AM hy102; clear hy102; have H' := AM H; clear H; go_enter Try.func56, Try.ntmps56
 go_wp2_with (first | ((with_reducible refine gate_callee (f := 80) rfl ?_); refine gL (some 6) Try.func80 #[.int .i64 a0] ?_; (with_reducible refine (spec_l01Fold.calls a0 t101 _ A2.out).mono ?_); rintro e w' ⟨rfl, ⟨nd, rfl⟩⟩; refine ⟨_, rfl, ?_⟩) | ((with_reducible refine gate_dst (N := 7) rfl ?_); refine Kd.R_lit (Kd.int .u8) _ 5 ?hg (N := 7) ?hd (xs := ([] : List Int)) (inner := []) (ok := fun _ => True) (okp := fun _ => True) ?hr ?hp (fun _ hk => hk) trivial (Below.refl _ _) (Nat.le_refl _) (by simp) ?_; (case hd => rfl); (case hg => rfl); (case hr => first | (go_simp; done) | (go_simp; rfl)); (case hp => exact (Reps.none _ _)); intro v103 w3 ho4 hb hg_ hnew_; clear hg_ hnew_; (first | rw [← Ny102.out] at ho4 | (simp only [Int.reduceToNat] at ho4; rw [← Ny102.out] at ho4)); have _ := AM (Kd.R_lower ho4 (bZ (bX HB.out))); have _ := AM (below_step (bX HB.out) hb); clear HB; rename_i HO104 HB; clear hb ho4))
 go_loopg [3, 4] k (fun kq v3 v4 w' => ∃ (x3_1 : Int) (x4_1 : List Int), v3 = .int .u64 x3_1 ∧ Aside0 (spec_PutNum.l0 kq x3_1 x4_1 = some r) ∧ Aside0 (kq ≤ k) ∧ Aside0 (Kd.R (Kd.int .u8) 5 w' w.heap.size (fun _ => True) v4 x4_1) ∧ Aside0 (Below w.heap.size w w'))
 case atStart => exact ⟨(t101), (y102), (by first | rfl | (simp; done) | (simp [*]; done)), H', ⟨Nat.le_refl _⟩, ⟨rX HO104.out⟩, ⟨bX HB.out⟩⟩
 case round =>
  clear H'; try clear p2
  obtain ⟨x3_1, x4_1, rfl, HA, HK1, HO_4, HB⟩ := hrel
  cases gk with
  | zero => exact absurd HA.out (by simp [spec_PutNum.l0])
  | succ k1 =>
   have H := HA.out; clear HA; simp only [spec_PutNum.l0] at H
   by_cases c5 : x3_1 ≥ 128
   ·
    rw [if_pos c5] at H; have c5b0 : decide (128 ≤ x3_1) = true := dY c5; clear c5; by_cases c6 : x4_1.length < 140737488355328
    ·
     rw [if_pos c6] at H; have LMc6 := AM c6; clear c6; obtain ⟨y105, hy105⟩ : ∃ y_ : List Int, y_ = (x4_1 ++ [(IntKind.u64.wrap ((Int.tmod x3_1 128) + 128)) % 256]) := ⟨_, rfl⟩; replace H : (spec_PutNum.l0 k1 (IntKind.u64.wrap (Int.tdiv x3_1 128)) y105) = some r := by first | (rw [hy105]; with_reducible exact H) | (have H2_ := (Option.bind_some _ _).symm.trans H; rw [hy105]; with_reducible exact H2_) | (have H2_ := (Option.bind_some _ _).symm.trans H; with_reducible exact H2_) | with_reducible exact H | (rw [hy105]; exact H) | exact H
     have Ny105 := AM hy105; clear hy105; have H' := AM H; clear H; go_wp2_with (first | ((with_reducible refine gate_builtin (b := .append) (xs := #[.tmp 10, .tmp 15]) rfl ?_); at_builtin; refine Kd.R_append (Kd.int .u8) (w0 := w) w.heap.size rfl (.tmp 10) (.tmp 15) 32 5 (.int .u8 0) 1 rfl Try.underlying32 info5 rfl (by decide) (by omega) u4 x4_1 ((IntKind.u64.wrap ((Int.tmod x3_1 128) + 128)) % 256) [.int .u8 ((IntKind.u64.wrap ((Int.tmod x3_1 128) + 128)) % 256)] (fun _ => True) (fun _ => False) rfl rfl ?aP (fun _ hk => hk.elim) ?aF ?aO ?aB ?aS ?aL ?_; (case aP => exact rfl); (case aB => exact (bX HB.out)); (case aF => exact (fun _ _ => trivial)); (case aO => exact (rX HO_4.out)); (case aS => exact (bZ (bX HB.out))); (case aL => have := LMc6.out; omega); intro v106 w7 ho hb hg hat; rw [← Ny105.out] at ho; have _ := AM (hb); have _ := AM (ho); clear HB HO_4; rename_i HB HO107; clear ho hb hg hat))
     go_roundg k1
     case measure => have := HK1.out; omega
     case rel => exact ⟨(IntKind.u64.wrap (Int.tdiv x3_1 128)), (y105), (by first | rfl | (simp; done) | (simp [*]; done)), H', ⟨by have := HK1.out; omega⟩, ⟨rX HO107.out⟩, ⟨bX HB.out⟩⟩
    rw [if_neg c6] at H; exact absurd H (by simp)
   rw [if_neg c5] at H; have c5b0 : decide (128 ≤ x3_1) = false := dN c5; clear c5; by_cases c8 : x4_1.length < 140737488355328
   ·
    rw [if_pos c8] at H; have LMc8 := AM c8; clear c8; obtain ⟨y108, hy108⟩ : ∃ y_ : List Int, y_ = (x4_1 ++ [(x3_1) % 256]) := ⟨_, rfl⟩; replace H : (some (strOfNums y108)) = some r := by first | (rw [hy108]; with_reducible exact H) | (have H2_ := (Option.bind_some _ _).symm.trans H; rw [hy108]; with_reducible exact H2_) | (have H2_ := (Option.bind_some _ _).symm.trans H; with_reducible exact H2_) | with_reducible exact H | (rw [hy108]; exact H) | exact H
    have Ny108 := AM hy108; clear hy108; obtain rfl := Option.some.inj H; go_wp2_with (first | ((with_reducible refine gate_builtin (b := .append) (xs := #[.tmp 19, .tmp 22]) rfl ?_); at_builtin; refine Kd.R_append (Kd.int .u8) (w0 := w) w.heap.size rfl (.tmp 19) (.tmp 22) 32 5 (.int .u8 0) 1 rfl Try.underlying32 info5 rfl (by decide) (by omega) u4 x4_1 ((x3_1) % 256) [.int .u8 ((x3_1) % 256)] (fun _ => True) (fun _ => False) rfl rfl ?aP (fun _ hk => hk.elim) ?aF ?aO ?aB ?aS ?aL ?_; (case aP => exact rfl); (case aB => exact (bX HB.out)); (case aF => exact (fun _ _ => trivial)); (case aO => exact (rX HO_4.out)); (case aS => exact (bZ (bX HB.out))); (case aL => have := LMc8.out; omega); intro v109 w9 ho hb hg hat; rw [← Ny108.out] at ho; have _ := AM (hb); have _ := AM (ho); clear HB HO_4; rename_i HB HO110; clear ho hb hg hat; have hcv10 := own_string (P := Try.prog) Try.underlying32 Try.underlying5 Try.underlying9 (Kd.own_of_R HO110.out)))
    go_ret
    exact ⟨by first | rfl | (simp [*, errW_none, errW_some] <;> rfl), bX HB.out⟩
   rw [if_neg c8] at H; exact absurd H (by simp)

/-! ### spec_PutText: function 57 -/

def spec_PutText.f (k : Nat) (a0 : ByteArray) : Option (ByteArray) := if (a0.size : Int) > 20000 then (some (⟨#[]⟩ : ByteArray)) else ((spec_PutNum.f k (a0.size : Int)).bind fun t101 => (if t101.size + a0.size ≤ 9223372036854775807 then (some (t101 ++ a0)) else (none)))
theorem spec_PutText.mono : ∀ a0 k, LeO (spec_PutText.f k a0) (spec_PutText.f (k + 1) a0) := by
  intro a0 k; unfold spec_PutText.f
  repeat' first | (with_reducible first | exact spec_PutNum.mono _ _ | exact oR _ | exact oN _ | refine oI ?_ ?_ | refine oB ?_ fun _ => ?_) | exact spec_PutNum.mono _ _ | exact oN _ | refine oI ?_ ?_ | refine oB ?_ fun _ => ?_
set_option maxHeartbeats 60000000 in
set_option maxRecDepth 100000 in
theorem spec_PutText.calls (k : Nat) (a0 : ByteArray) (r : ByteArray) (w : World) (h : spec_PutText.f k a0 = some r) :
    Calls Try.prog 57 #[.string a0] w fun e w' => e = .returned (.string r) ∧ Below w.heap.size w w' := by
 have HB := AM (Below.refl w.heap.size w); have H : (if (a0.size : Int) > 20000 then (some (⟨#[]⟩ : ByteArray)) else ((spec_PutNum.f k (a0.size : Int)).bind fun t101 => (if t101.size + a0.size ≤ 9223372036854775807 then (some (t101 ++ a0)) else (none)))) = some r := h; clear h; by_cases c2 : (a0.size : Int) > 20000
 ·
  rw [if_pos c2] at H; have c2b0 : decide (20000 < (a0.size : Int)) = true := dY c2; have c2b1 : decide (20000 < a0.size) = true := dY (by omega); clear c2; obtain rfl := Option.some.inj H; go_enter Try.func57, Try.ntmps57
  go_wp2
  go_ret
  exact ⟨by first | rfl | (simp [*, errW_none, errW_some] <;> rfl), bX HB.out⟩
 rw [if_neg c2] at H; have c2b0 : decide (20000 < (a0.size : Int)) = false := dN c2; have c2b1 : decide (20000 < a0.size) = false := dN (by omega); clear c2; replace H := oM H; obtain ⟨t101, A30, H⟩ := H; have A3 := AM A30; clear A30; by_cases c4 : t101.size + a0.size ≤ 9223372036854775807
 ·
  rw [if_pos c4] at H; have c4b0 := eq_true c4; have c4b1 := dY c4; try have c4b2 : (9223372036854775807 < t101.size + a0.size) = False := eq_false (Nat.not_lt.2 c4)
  obtain rfl := Option.some.inj H; go_enter Try.func57, Try.ntmps57
  go_wp2_with (first | ((with_reducible refine gate_callee (f := 56) rfl ?_); refine gL (some 8) Try.func56 #[.int .i64 (a0.size : Int)] ?_; (with_reducible refine (spec_PutNum.calls k (a0.size : Int) t101 _ A3.out).mono ?_); rintro e w5 ⟨rfl, hb⟩; refine ⟨_, rfl, ?_⟩; have _ := AM (below_step (bX HB.out) hb); clear HB; rename_i HB; (try clear hb); (try clear hk)))
  go_ret
  exact ⟨by first | rfl | (simp [*, errW_none, errW_some] <;> rfl), bX HB.out⟩
 rw [if_neg c4] at H; exact absurd H (by simp)

/-! ### spec_l08Bytes: function 30 -/
abbrev spec_l08Bytes.b0 : Array Bool := #[true, true, false, false, false, true, false, false, false, false, false, false, false, false, false]
abbrev spec_l08Bytes.b1 : Array Bool := #[true, true, false, false, false, true, false, false, false, true, false, false, false, false, false]
abbrev spec_l08Bytes.b2 : Array Bool := #[true, true, true, false, false, true, false, false, false, true, false, false, false, false, false]
abbrev spec_l08Bytes.b3 : Array Bool := #[true, true, true, false, false, true, true, false, false, true, false, false, false, false, false]
abbrev spec_l08Bytes.b4 : Array Bool := #[true, true, true, false, false, true, true, false, false, true, true, false, false, false, false]
abbrev spec_l08Bytes.b5 : Array Bool := #[true, true, true, false, false, true, true, false, false, true, true, true, false, false, false]
abbrev spec_l08Bytes.b6 : Array Bool := #[true, true, true, true, false, true, true, false, false, true, true, true, false, false, false]
abbrev spec_l08Bytes.b7 : Array Bool := #[true, true, true, true, true, true, true, false, false, true, true, true, false, false, false]
abbrev spec_l08Bytes.b8 : Array Bool := #[true, true, true, true, true, true, true, true, false, true, true, true, false, false, false]
abbrev spec_l08Bytes.b9 : Array Bool := #[true, true, false, true, false, false, false, false, false, false, false, false, false, false, false, false, false, false]
abbrev spec_l08Bytes.b10 : Array Bool := #[true, true, false, true, false, false, false, false, false, true, false, false, false, false, false, false, false, false]
abbrev spec_l08Bytes.b11 : Array Bool := #[true, true, false, true, false, false, false, false, false, true, false, true, false, false, false, false, false, false]
abbrev spec_l08Bytes.b12 : Array Bool := #[true, true, true, true, false, false, false, false, false, true, false, true, false, false, false, false, false, false]
abbrev spec_l08Bytes.b13 : Array Bool := #[true, true, true, true, true, false, false, false, false, true, false, true, false, false, false, false, false, false]
abbrev spec_l08Bytes.b14 : Array Bool := #[true, true, true, true, true, true, false, false, false, true, false, true, false, false, false, false, false, false]
abbrev spec_l08Bytes.b15 : Array Bool := #[true, true, true, true, true, true, true, false, false, true, false, true, false, false, false, false, false, false]
abbrev spec_l08Bytes.b16 : Array Bool := #[true, true, true, true, true, true, true, false, false, true, true, true, false, false, false, false, false, false]
abbrev spec_l08Bytes.b17 : Array Bool := #[true, true, true, true, true, true, true, false, false, true, true, true, true, false, false, false, false, false]
abbrev spec_l08Bytes.b18 : Array Bool := #[true, true, true, true, true, true, true, false, false, true, true, true, true, true, false, false, false, false]
abbrev spec_l08Bytes.b19 : Array Bool := #[true, true, true, true, true, true, true, false, false, true, true, true, true, true, true, false, false, false]
abbrev spec_l08Bytes.b20 : Array Bool := #[true, true, true, true, true, true, true, true, false, true, true, true, true, true, true, false, false, false]
abbrev spec_l08Bytes.b21 : Array Bool := #[true, true, false, true, false, false, false, false, false, false, false, false, false, false, false, false, false, false, false, false, false, false, false, false, false, false]
abbrev spec_l08Bytes.b22 : Array Bool := #[true, true, false, true, false, false, false, false, false, true, false, false, false, false, false, false, false, false, false, false, false, false, false, false, false, false]
abbrev spec_l08Bytes.b23 : Array Bool := #[true, true, false, true, false, false, false, false, false, true, false, true, false, false, false, false, false, false, false, false, false, false, false, false, false, false]
abbrev spec_l08Bytes.b24 : Array Bool := #[true, true, false, true, false, false, false, false, false, true, false, true, false, false, false, false, false, true, false, false, false, false, false, false, false, false]
abbrev spec_l08Bytes.b25 : Array Bool := #[true, true, false, true, false, false, false, false, false, true, false, true, false, false, false, false, false, true, false, true, false, false, false, false, false, false]
abbrev spec_l08Bytes.b26 : Array Bool := #[true, true, true, true, false, false, false, false, false, true, false, true, false, false, false, false, false, true, false, true, false, false, false, false, false, false]
abbrev spec_l08Bytes.b27 : Array Bool := #[true, true, true, true, true, false, false, false, false, true, false, true, false, false, false, false, false, true, false, true, false, false, false, false, false, false]
abbrev spec_l08Bytes.b28 : Array Bool := #[true, true, true, true, true, true, false, false, false, true, false, true, false, false, false, false, false, true, false, true, false, false, false, false, false, false]
abbrev spec_l08Bytes.b29 : Array Bool := #[true, true, true, true, true, true, true, false, false, true, false, true, false, false, false, false, false, true, false, true, false, false, false, false, false, false]
abbrev spec_l08Bytes.b30 : Array Bool := #[true, true, true, true, true, true, true, false, false, true, true, true, false, false, false, false, false, true, false, true, false, false, false, false, false, false]
abbrev spec_l08Bytes.b31 : Array Bool := #[true, true, true, true, true, true, true, false, false, true, true, true, true, false, false, false, false, true, false, true, false, false, false, false, false, false]
abbrev spec_l08Bytes.b32 : Array Bool := #[true, true, true, true, true, true, true, false, false, true, true, true, true, true, false, false, false, true, false, true, false, false, false, false, false, false]
abbrev spec_l08Bytes.b33 : Array Bool := #[true, true, true, true, true, true, true, false, false, true, true, true, true, true, true, false, false, true, false, true, false, false, false, false, false, false]
abbrev spec_l08Bytes.b34 : Array Bool := #[true, true, true, true, true, true, true, false, false, true, true, true, true, true, true, false, false, true, true, true, false, false, false, false, false, false]
abbrev spec_l08Bytes.b35 : Array Bool := #[true, true, true, true, true, true, true, false, false, true, true, true, true, true, true, false, false, true, true, true, true, false, false, false, false, false]
abbrev spec_l08Bytes.b36 : Array Bool := #[true, true, true, true, true, true, true, false, false, true, true, true, true, true, true, false, false, true, true, true, true, true, false, false, false, false]
abbrev spec_l08Bytes.b37 : Array Bool := #[true, true, true, true, true, true, true, false, false, true, true, true, true, true, true, false, false, true, true, true, true, true, true, false, false, false]
abbrev spec_l08Bytes.b38 : Array Bool := #[true, true, true, true, true, true, true, true, false, true, true, true, true, true, true, false, false, true, true, true, true, true, true, false, false, false]
abbrev spec_l08Bytes.b39 : Array Bool := #[true, true, true, true, true, true, true, true, true, true, true, true, true, true, true, false, false, true, true, true, true, true, true, false, false, false]
abbrev spec_l08Bytes.b40 : Array Bool := #[true, true, true, true, true, true, true, true, true, true, true, true, true, true, true, true, false, true, true, true, true, true, true, false, false, false]
mutual
def spec_l08Bytes.l0 : Nat → ByteArray → Int → List (S44) → List (S48) → Option (ByteArray)
  | 0, _, _, _, _ => none
  | k + 1, x3, x4, x102000, x102001 => if x4 < (x102000.length : Int) then (if 0 ≤ x4 then ((spec_PutText.f k ((rd_T44 x102000 x4).f0)).bind fun t105 => (if x3.size + t105.size ≤ 9223372036854775807 then ((spec_PutNum.f k ((rd_T44 x102000 x4).f1)).bind fun t106 => (if (x3 ++ t105).size + t106.size ≤ 9223372036854775807 then ((spec_PutNum.f k (((rd_T44 x102000 x4).f2).length : Int)).bind fun t107 => (if ((x3 ++ t105) ++ t106).size + t107.size ≤ 9223372036854775807 then (spec_l08Bytes.l1 k (((x3 ++ t105) ++ t106) ++ t107) x4 0 x102000 x102001 ((rd_T44 x102000 x4).f0) ((rd_T44 x102000 x4).f1) ((rd_T44 x102000 x4).f2) ((rd_T44 x102000 x4).f3)) else (none))) else (none))) else (none))) else (none)) else ((spec_PutNum.f k (x102001.length : Int)).bind fun t115 => (if x3.size + t115.size ≤ 9223372036854775807 then (spec_l08Bytes.l3 k (x3 ++ t115) 0 x102000 x102001) else (none)))
def spec_l08Bytes.l1 : Nat → ByteArray → Int → Int → List (S44) → List (S48) → ByteArray → Int → List ByteArray → List (S61) → Option (ByteArray)
  | 0, _, _, _, _, _, _, _, _, _ => none
  | k + 1, x3, x4, x6, x102000, x102001, x105000, x105001, x105002, x105003 => if x6 < (x105002.length : Int) then (if 0 ≤ x6 then ((spec_PutText.f k (rdOf ByteArray.empty x105002 x6)).bind fun t109 => (if x3.size + t109.size ≤ 9223372036854775807 then (spec_l08Bytes.l1 k (x3 ++ t109) x4 (wrap64 (x6 + 1)) x102000 x102001 x105000 x105001 x105002 x105003) else (none))) else (none)) else ((spec_PutNum.f k (x105003.length : Int)).bind fun t110 => (if x3.size + t110.size ≤ 9223372036854775807 then (spec_l08Bytes.l2 k (x3 ++ t110) x4 0 x102000 x102001 x105000 x105001 x105002 x105003) else (none)))
def spec_l08Bytes.l2 : Nat → ByteArray → Int → Int → List (S44) → List (S48) → ByteArray → Int → List ByteArray → List (S61) → Option (ByteArray)
  | 0, _, _, _, _, _, _, _, _, _ => none
  | k + 1, x3, x4, x7, x102000, x102001, x105000, x105001, x105002, x105003 => if x7 < (x105003.length : Int) then (if 0 ≤ x7 then ((spec_PutText.f k ((rd_T61 x105003 x7).f0)).bind fun t112 => (if x3.size + t112.size ≤ 9223372036854775807 then ((spec_PutNum.f k ((rd_T61 x105003 x7).f1)).bind fun t114 => (if (x3 ++ t112).size + t114.size ≤ 9223372036854775807 then (spec_l08Bytes.l2 k ((x3 ++ t112) ++ t114) x4 (wrap64 (x7 + 1)) x102000 x102001 x105000 x105001 x105002 x105003) else (none))) else (none))) else (none)) else (spec_l08Bytes.l0 k x3 (wrap64 (x4 + 1)) x102000 x102001)
def spec_l08Bytes.l3 : Nat → ByteArray → Int → List (S44) → List (S48) → Option (ByteArray)
  | 0, _, _, _, _ => none
  | k + 1, x3, x8, x102000, x102001 => if x8 < (x102001.length : Int) then (if 0 ≤ x8 then ((spec_PutNum.f k ((rd_T48 x102001 x8).f0)).bind fun t117 => (if x3.size + t117.size ≤ 9223372036854775807 then ((spec_PutNum.f k ((rd_T48 x102001 x8).f1)).bind fun t119 => (if (x3 ++ t117).size + t119.size ≤ 9223372036854775807 then ((spec_PutText.f k ((rd_T48 x102001 x8).f2)).bind fun t121 => (if ((x3 ++ t117) ++ t119).size + t121.size ≤ 9223372036854775807 then (spec_l08Bytes.l3 k (((x3 ++ t117) ++ t119) ++ t121) (wrap64 (x8 + 1)) x102000 x102001) else (none))) else (none))) else (none))) else (none)) else (some x3)
end
def spec_l08Bytes.f (k : Nat) (l0_0 : List (S44)) (l0_1 : List (S48)) : Option (ByteArray) := (spec_PutNum.f k (l0_0.length : Int)).bind fun t102 => (spec_l08Bytes.l0 k t102 0 l0_0 l0_1)
theorem spec_l08Bytes.mono_l : ∀ k, (∀ y0 y1 y2 y3, LeO (spec_l08Bytes.l0 k y0 y1 y2 y3) (spec_l08Bytes.l0 (k + 1) y0 y1 y2 y3)) ∧ (∀ y0 y1 y2 y3 y4 y5 y6 y7 y8, LeO (spec_l08Bytes.l1 k y0 y1 y2 y3 y4 y5 y6 y7 y8) (spec_l08Bytes.l1 (k + 1) y0 y1 y2 y3 y4 y5 y6 y7 y8)) ∧ (∀ y0 y1 y2 y3 y4 y5 y6 y7 y8, LeO (spec_l08Bytes.l2 k y0 y1 y2 y3 y4 y5 y6 y7 y8) (spec_l08Bytes.l2 (k + 1) y0 y1 y2 y3 y4 y5 y6 y7 y8)) ∧ (∀ y0 y1 y2 y3, LeO (spec_l08Bytes.l3 k y0 y1 y2 y3) (spec_l08Bytes.l3 (k + 1) y0 y1 y2 y3))
  | 0 => ⟨fun _ _ _ _ r h => by simp [spec_l08Bytes.l0] at h, fun _ _ _ _ _ _ _ _ _ r h => by simp [spec_l08Bytes.l1] at h, fun _ _ _ _ _ _ _ _ _ r h => by simp [spec_l08Bytes.l2] at h, fun _ _ _ _ r h => by simp [spec_l08Bytes.l3] at h⟩
  | k + 1 => by
    obtain ⟨ih0, ih1, ih2, ih3⟩ := spec_l08Bytes.mono_l k; refine ⟨?_, ?_, ?_, ?_⟩
    · intro y0 y1 y2 y3
      unfold spec_l08Bytes.l0
      repeat' first | (with_reducible first | exact ih0 _ _ _ _ | exact ih1 _ _ _ _ _ _ _ _ _ | exact ih2 _ _ _ _ _ _ _ _ _ | exact ih3 _ _ _ _ | exact spec_PutNum.mono _ _ | exact spec_PutText.mono _ _ | exact oR _ | exact oN _ | refine oI ?_ ?_ | refine oB ?_ fun _ => ?_) | exact ih0 _ _ _ _ | exact ih1 _ _ _ _ _ _ _ _ _ | exact ih2 _ _ _ _ _ _ _ _ _ | exact ih3 _ _ _ _ | exact spec_PutNum.mono _ _ | exact spec_PutText.mono _ _ | exact oN _ | refine oI ?_ ?_ | refine oB ?_ fun _ => ?_
    · intro y0 y1 y2 y3 y4 y5 y6 y7 y8
      unfold spec_l08Bytes.l1
      repeat' first | (with_reducible first | exact ih0 _ _ _ _ | exact ih1 _ _ _ _ _ _ _ _ _ | exact ih2 _ _ _ _ _ _ _ _ _ | exact ih3 _ _ _ _ | exact spec_PutNum.mono _ _ | exact spec_PutText.mono _ _ | exact oR _ | exact oN _ | refine oI ?_ ?_ | refine oB ?_ fun _ => ?_) | exact ih0 _ _ _ _ | exact ih1 _ _ _ _ _ _ _ _ _ | exact ih2 _ _ _ _ _ _ _ _ _ | exact ih3 _ _ _ _ | exact spec_PutNum.mono _ _ | exact spec_PutText.mono _ _ | exact oN _ | refine oI ?_ ?_ | refine oB ?_ fun _ => ?_
    · intro y0 y1 y2 y3 y4 y5 y6 y7 y8
      unfold spec_l08Bytes.l2
      repeat' first | (with_reducible first | exact ih0 _ _ _ _ | exact ih1 _ _ _ _ _ _ _ _ _ | exact ih2 _ _ _ _ _ _ _ _ _ | exact ih3 _ _ _ _ | exact spec_PutNum.mono _ _ | exact spec_PutText.mono _ _ | exact oR _ | exact oN _ | refine oI ?_ ?_ | refine oB ?_ fun _ => ?_) | exact ih0 _ _ _ _ | exact ih1 _ _ _ _ _ _ _ _ _ | exact ih2 _ _ _ _ _ _ _ _ _ | exact ih3 _ _ _ _ | exact spec_PutNum.mono _ _ | exact spec_PutText.mono _ _ | exact oN _ | refine oI ?_ ?_ | refine oB ?_ fun _ => ?_
    · intro y0 y1 y2 y3
      unfold spec_l08Bytes.l3
      repeat' first | (with_reducible first | exact ih0 _ _ _ _ | exact ih1 _ _ _ _ _ _ _ _ _ | exact ih2 _ _ _ _ _ _ _ _ _ | exact ih3 _ _ _ _ | exact spec_PutNum.mono _ _ | exact spec_PutText.mono _ _ | exact oR _ | exact oN _ | refine oI ?_ ?_ | refine oB ?_ fun _ => ?_) | exact ih0 _ _ _ _ | exact ih1 _ _ _ _ _ _ _ _ _ | exact ih2 _ _ _ _ _ _ _ _ _ | exact ih3 _ _ _ _ | exact spec_PutNum.mono _ _ | exact spec_PutText.mono _ _ | exact oN _ | refine oI ?_ ?_ | refine oB ?_ fun _ => ?_
theorem spec_l08Bytes.mono : ∀ a0 a1 k, LeO (spec_l08Bytes.f k a0 a1) (spec_l08Bytes.f (k + 1) a0 a1) := by
  intro a0 a1 k; obtain ⟨ih0, ih1, ih2, ih3⟩ := spec_l08Bytes.mono_l k; unfold spec_l08Bytes.f
  repeat' first | (with_reducible first | exact ih0 _ _ _ _ | exact ih1 _ _ _ _ _ _ _ _ _ | exact ih2 _ _ _ _ _ _ _ _ _ | exact ih3 _ _ _ _ | exact spec_PutNum.mono _ _ | exact spec_PutText.mono _ _ | exact oR _ | exact oN _ | refine oI ?_ ?_ | refine oB ?_ fun _ => ?_) | exact ih0 _ _ _ _ | exact ih1 _ _ _ _ _ _ _ _ _ | exact ih2 _ _ _ _ _ _ _ _ _ | exact ih3 _ _ _ _ | exact spec_PutNum.mono _ _ | exact spec_PutText.mono _ _ | exact oN _ | refine oI ?_ ?_ | refine oB ?_ fun _ => ?_
def spec_l08Bytes.T6 : Bool × List (List Nat × List Nat) := (true, [([], []), ([], []), ([1], [1]), ([2], [2]), ([0, 3], [0, 3]), ([], []), ([5], [5]), ([6, 3], [6]), ([4, 7], [4, 7]), ([], []), ([9], [9]), ([10], [10]), ([11, 7], [11]), ([8, 12], [8, 12]), ([13, 12, 0, 1, 2, 3, 4, 5, 6, 7, 8, 9, 10, 11, 12, 13], [0, 13])])
def spec_l08Bytes.B6 : List Nat := [0, 0, 2, 6, 15, 0, 32, 110, 255, 0, 512, 1536, 3822, 8191, 16383]
theorem spec_l08Bytes.tab6 : rtab .any (opsOf Try.f30 6) = spec_l08Bytes.T6 := by kernel_rfl
theorem spec_l08Bytes.bits6 : waitsOk spec_l08Bytes.T6.2 spec_l08Bytes.B6 = true := by kernel_rfl
def spec_l08Bytes.T15 : Bool × List (List Nat × List Nat) := (true, [([], []), ([], []), ([1], [1]), ([], []), ([2, 3], [2, 3]), ([4], [4]), ([5], [5]), ([6], [6]), ([0, 7], [0, 7]), ([], []), ([9], [9]), ([], []), ([10, 11], [10, 11]), ([12], [12]), ([13], [13]), ([14, 7], [14]), ([8, 15], [8, 15]), ([16, 15, 0, 1, 2, 3, 4, 5, 6, 7, 8, 9, 10, 11, 12, 13, 14, 15, 16], [0, 16])])
def spec_l08Bytes.B15 : List Nat := [0, 0, 2, 0, 14, 30, 62, 126, 255, 0, 512, 0, 3584, 7680, 15872, 32510, 65535, 131071]
theorem spec_l08Bytes.tab15 : rtab .any (opsOf Try.f30 15) = spec_l08Bytes.T15 := by kernel_rfl
theorem spec_l08Bytes.bits15 : waitsOk spec_l08Bytes.T15.2 spec_l08Bytes.B15 = true := by kernel_rfl
def spec_l08Bytes.T20 : Bool × List (List Nat × List Nat) := (true, [([], []), ([], []), ([1], [1]), ([], []), ([2, 3], [2, 3]), ([4], [4]), ([5], [5]), ([6], [6]), ([0, 7], [0, 7]), ([], []), ([9], [9]), ([], []), ([10, 11], [10, 11]), ([12], [12]), ([13], [13]), ([14, 7], [14]), ([8, 15], [8, 15]), ([], []), ([17], [17]), ([], []), ([18, 19], [18, 19]), ([20], [20]), ([21], [21]), ([22, 15], [22]), ([16, 23], [16, 23]), ([24, 23, 0, 1, 2, 3, 4, 5, 6, 7, 8, 9, 10, 11, 12, 13, 14, 15, 16, 17, 18, 19, 20, 21, 22, 23, 24], [0, 24])])
def spec_l08Bytes.B20 : List Nat := [0, 0, 2, 0, 14, 30, 62, 126, 255, 0, 512, 0, 3584, 7680, 15872, 32510, 65535, 0, 131072, 0, 917504, 1966080, 4063232, 8322814, 16777215, 33554431]
theorem spec_l08Bytes.tab20 : rtab .any (opsOf Try.f30 20) = spec_l08Bytes.T20 := by kernel_rfl
theorem spec_l08Bytes.bits20 : waitsOk spec_l08Bytes.T20.2 spec_l08Bytes.B20 = true := by kernel_rfl
set_option maxHeartbeats 60000000 in
set_option maxRecDepth 100000 in
theorem spec_l08Bytes.calls (k : Nat) (A0_0 : Option Addr) (c0_0 : Nat) (l0_0 : List (S44)) (A0_1 : Option Addr) (c0_1 : Nat) (l0_1 : List (S48)) (r : ByteArray) (w : World) (hr0_0 : Kd.C k44 w A0_0 l0_0.length l0_0) (hc0_0 : l0_0.length ≤ c0_0) (hr0_1 : Kd.C k48 w A0_1 l0_1.length l0_1) (hc0_1 : l0_1.length ≤ c0_1) (h : spec_l08Bytes.f k l0_0 l0_1 = some r) :
    Calls Try.prog 30 #[.agg #[.slice A0_0 l0_0.length c0_0, .slice A0_1 l0_1.length c0_1]] w fun e w' => e = .returned (.string r) ∧ Below w.heap.size w w' := by
 have hu25 := Try.underlying25; have hu44 := Try.underlying44; have HR0_0 := AM hr0_0; have HC0_0 := AM hc0_0; clear hr0_0 hc0_0; have HR0_1 := AM hr0_1; have HC0_1 := AM hc0_1; clear hr0_1 hc0_1; have HB := AM (Below.refl w.heap.size w); have H : ((spec_PutNum.f k (l0_0.length : Int)).bind fun t102 => (spec_l08Bytes.l0 k t102 0 l0_0 l0_1)) = some r := h; clear h; replace H := oM H; obtain ⟨t102, A20, H⟩ := H; have A2 := AM A20; clear A20; have H' := AM H; clear H; go_enter Try.func30, Try.ntmps30
 go_wp2_with (first | ((with_reducible refine gate_dst (N := 1) rfl ?_); refine bE (cs := #[.slice A0_0 l0_0.length c0_0, .slice A0_1 l0_1.length c0_1]) (t := 25) ?_; intro gb101 hg w3 hbox hb; have _ := AM (below_step (bX HB.out) hb); have _ := AM (hbox); have n2_ := AM (gZ hg (bZ (bX HB.out))); clear HB; rename_i HB BK101; have GW101 := n2_; have GE101 := n2_; clear n2_; clear hb hbox hg; have hcz4 := q2 BK101.out; have hfz4 := fZ BK101.out) | ((with_reducible refine gate_callee (f := 56) rfl ?_); refine gL (some 12) Try.func56 #[.int .i64 (l0_0.length : Int)] ?_; (with_reducible refine (spec_PutNum.calls k (l0_0.length : Int) t102 _ A2.out).mono ?_); rintro e w5 ⟨rfl, hb⟩; refine ⟨_, rfl, ?_⟩; have _ := AM (nB BK101.out hb); have _ := AM (below_step (bX HB.out) hb); clear BK101 HB; rename_i BK101 HB; (try clear hb); (try clear hk)))
 go_loopg [3, 4] k (fun kq v3 v4 w' => ∃ (x3_1 : ByteArray) (x4_1 : Int), v3 = .string x3_1 ∧ v4 = .int .i64 x4_1 ∧ Aside0 (spec_l08Bytes.l0 kq x3_1 x4_1 l0_0 l0_1 = some r) ∧ Aside0 (kq ≤ k) ∧ Aside0 (w'.heap[gb101]? = some (.cells #[(.slice A0_0 l0_0.length c0_0), (.slice A0_1 l0_1.length c0_1)] 25 (0, 0))) ∧ Aside0 (Below w.heap.size w w'))
 case atStart => exact ⟨(t102), (0), (by first | rfl | (simp; done) | (simp [*]; done)), (by first | rfl | (simp; done) | (simp [*]; done)), H', ⟨Nat.le_refl _⟩, ⟨kX BK101.out⟩, ⟨bX HB.out⟩⟩
 case round =>
  clear H'; (try clear p2); (try clear c3); (try clear c5); (try clear hcz4); (try clear hfz4); obtain ⟨x3_1, x4_1, rfl, rfl, HA, HK1, BK101, HB⟩ := hrel
  cases gk with
  | zero => exact absurd HA.out (by simp [spec_l08Bytes.l0])
  | succ k1 =>
   have H := HA.out; clear HA; simp only [spec_l08Bytes.l0] at H
   by_cases c6 : x4_1 < (l0_0.length : Int)
   ·
    rw [if_pos c6] at H; have c6b0 := dY c6; clear c6; by_cases c7 : 0 ≤ x4_1
    ·
     rw [if_pos c7] at H; have c7b0 := dY c7; clear c7; replace H := oM H; obtain ⟨t105, A80, H⟩ := H; have A8 := AM A80; clear A80; by_cases c9 : x3_1.size + t105.size ≤ 9223372036854775807
     ·
      rw [if_pos c9] at H; have c9b0 := eq_true c9; have c9b1 := dY c9; try have c9b2 : (9223372036854775807 < x3_1.size + t105.size) = False := eq_false (Nat.not_lt.2 c9)
      replace H := oM H; obtain ⟨t106, A100, H⟩ := H; have A10 := AM A100; clear A100; by_cases c11 : (x3_1 ++ t105).size + t106.size ≤ 9223372036854775807
      ·
       rw [if_pos c11] at H; have c11b0 := eq_true c11; have c11b1 := dY c11; try have c11b2 : (9223372036854775807 < (x3_1 ++ t105).size + t106.size) = False := eq_false (Nat.not_lt.2 c11)
       have c11b3 := c11b1; simp only [ByteArray.size_append] at c11b3; try (have c11b4 := c11b2; simp only [ByteArray.size_append] at c11b4)
       replace H := oM H; obtain ⟨t107, A120, H⟩ := H; have A12 := AM A120; clear A120; by_cases c13 : ((x3_1 ++ t105) ++ t106).size + t107.size ≤ 9223372036854775807
       ·
        rw [if_pos c13] at H; have c13b0 := eq_true c13; have c13b1 := dY c13; try have c13b2 : (9223372036854775807 < ((x3_1 ++ t105) ++ t106).size + t107.size) = False := eq_false (Nat.not_lt.2 c13)
        have c13b3 := c13b1; simp only [ByteArray.size_append] at c13b3; try (have c13b4 := c13b2; simp only [ByteArray.size_append] at c13b4)
        have H' := AM H; clear H; have hcz14 := q2 BK101.out; have hfz14 := fZ BK101.out; have p103 : 0 ≤ (x4_1 : Int) := oD ‹_›; have q103 : x4_1 < (l0_0.length : Int) := oD ‹_›; obtain ⟨ad103, A103_2, c103_2, A103_3, c103_3, e103, hx103_0, hx103_1, hx103_2, hx103_3, hl103_2, hi103_2, hl103_3, hi103_3⟩ := at_T44 HR0_0.out x4_1 p103 q103; cases e103; replace hx103_0 := pB HB.out hx103_0; replace hx103_1 := pB HB.out hx103_1; replace hx103_2 := pB HB.out hx103_2; replace hx103_3 := pB HB.out hx103_3; have HR103_2 := AM hi103_2; have HC103_2 := AM hl103_2; clear hi103_2 hl103_2; have HR103_3 := AM hi103_3; have HC103_3 := AM hl103_3; clear hi103_3 hl103_3; replace p103 := eq_true p103; replace q103 := eq_true q103; try go_wp2_with (first | ((with_reducible refine gate_dst (N := 5) rfl ?_); refine bE (cs := #[.string (⟨#[]⟩ : ByteArray), .int .i64 0, .slice none 0 0, .slice none 0 0]) (t := 44) ?_; intro gb104 hg w15 hbox hb; have _ := AM (nB BK101.out hb); have _ := AM (below_step (bX HB.out) hb); have _ := AM (hbox); have n3_ := AM (gZ hg (bZ (bX HB.out))); have _ := AM (lX hg BK101.out); have _ := AM (lX hg BK101.out).symm; clear BK101 HB; rename_i BK101 HB BK104 NB101_104 NB104_101; have GW104 := n3_; have GE104 := n3_; clear n3_; clear hb hbox hg; have hnb16 := NB104_101.out; have hnc16 := NB101_104.out; have hcz17 := q4 BK104.out; have hfz17 := fZ BK104.out))
        generalize hW_ : ((((w15.setCell ⟨gb104, 0, none⟩ (.string ((rd_T44 l0_0 x4_1).f0))).setCell ⟨gb104, 1, none⟩ (.int .i64 ((rd_T44 l0_0 x4_1).f1))).setCell ⟨gb104, 2, none⟩ (.slice A103_2 ((rd_T44 l0_0 x4_1).f2).length c103_2)).setCell ⟨gb104, 3, none⟩ (.slice A103_3 ((rd_T44 l0_0 x4_1).f3).length c103_3)) = w18; have n0_ : Aside0 (w18.heap[gb101]? = some (.cells #[.slice (some ad103) l0_0.length c0_0, .slice A0_1 l0_1.length c0_1] 25 (0, 0))) := by subst hW_; exact ⟨by (iterate 4 refine kF NB101_104.out ?_); exact kX BK101.out⟩
        have n1_ : Aside0 (w18.heap[gb104]? = some (.cells #[.string ((rd_T44 l0_0 x4_1).f0), .int .i64 ((rd_T44 l0_0 x4_1).f1), .slice A103_2 ((rd_T44 l0_0 x4_1).f2).length c103_2, .slice A103_3 ((rd_T44 l0_0 x4_1).f3).length c103_3] 44 (0, 0))) := by subst hW_; exact ⟨by refine kP (cs := #[.string ((rd_T44 l0_0 x4_1).f0), .int .i64 ((rd_T44 l0_0 x4_1).f1), .slice A103_2 ((rd_T44 l0_0 x4_1).f2).length c103_2, .slice none 0 0]) 3 ?_; refine kP (cs := #[.string ((rd_T44 l0_0 x4_1).f0), .int .i64 ((rd_T44 l0_0 x4_1).f1), .slice none 0 0, .slice none 0 0]) 2 ?_; refine kP (cs := #[.string ((rd_T44 l0_0 x4_1).f0), .int .i64 0, .slice none 0 0, .slice none 0 0]) 1 ?_; refine kP (cs := #[.string (⟨#[]⟩ : ByteArray), .int .i64 0, .slice none 0 0, .slice none 0 0]) 0 ?_; exact kX BK104.out⟩
        have n2_ : Aside0 (Below w.heap.size w w18) := by subst hW_; exact ⟨bX HB.out⟩
        (try clear BK101); (try clear BK104); (try clear HB); clear hW_; have BK101 := n0_; have BK104 := n1_; have HB := n2_; clear n0_ n1_ n2_; have _ := AM (kD BK101.out); have _ := AM (kD BK104.out); have _ := AM (bD HB.out); clear BK101 BK104 HB; rename_i BK101 BK104 HB; refine start_ (n := 15) (S := fun w' => w'.cell? ⟨gb104, 0, none⟩ = some (.string ((rd_T44 l0_0 x4_1).f0)) ∧ w'.cell? ⟨gb104, 1, none⟩ = some (.int .i64 ((rd_T44 l0_0 x4_1).f1)) ∧ w'.cell? ⟨gb104, 2, none⟩ = some (.slice A103_2 ((rd_T44 l0_0 x4_1).f2).length c103_2) ∧ w'.cell? ⟨gb104, 3, none⟩ = some (.slice A103_3 ((rd_T44 l0_0 x4_1).f3).length c103_3)) (ds := []) (upTo 0 15) (by kernel_rfl) rfl rfl (q4 BK104.out) (fun hHeld => ?_); refine with_tabW spec_l08Bytes.tab6 spec_l08Bytes.bits6 (fun HT_ HW_ => ?_); generalize w18.drew = w19 at BK101 BK104 HB hHeld ⊢; refine pure_ (i := 0) (N := some 25) (v := ?_) (a' := ?_) (upTo 1 15) rfl rfl (any_of HT_.out (by kernel_rfl)) (fun _ _ _ h => h) (Or.inl ⟨by rfl, ?_⟩) ?_ ?_; rotate_left
        ·
         intro w'
         first
         | (go_simp; with_reducible rfl)
         | (simp only [ByteArray.size_append] at *; go_simp; with_reducible rfl)
        rotate_left
        ·
         simp only [Act.put, sA, sB, sC, i64_w, i32_w]
         rfl
        refine pure_ (i := 1) (N := some 26) (v := ?_) (a' := ?_) (upTo 2 15) rfl rfl (any_of HT_.out (by kernel_rfl)) (fun _ _ _ h => h) (Or.inl ⟨by rfl, ?_⟩) ?_ ?_; rotate_left
        ·
         intro w'
         first
         | (go_simp; with_reducible rfl)
         | (simp only [ByteArray.size_append] at *; go_simp; with_reducible rfl)
        rotate_left
        ·
         simp only [Act.put, sA, sB, sC, i64_w, i32_w]
         rfl
        refine pure_ (i := 5) (N := some 30) (v := ?_) (a' := ?_) spec_l08Bytes.b0 rfl rfl (any_of HT_.out (by kernel_rfl)) (fun _ _ _ h => h) (Or.inl ⟨by rfl, ?_⟩) ?_ ?_; rotate_left
        ·
         intro w'
         first
         | (go_simp; with_reducible rfl)
         | (simp only [ByteArray.size_append] at *; go_simp; with_reducible rfl)
        rotate_left
        ·
         simp only [Act.put, sA, sB, sC, i64_w, i32_w]
         rfl
        refine pure_ (i := 9) (N := some 34) (v := ?_) (a' := ?_) spec_l08Bytes.b1 rfl rfl (any_of HT_.out (by kernel_rfl)) (fun _ _ _ h => h) (Or.inl ⟨by rfl, ?_⟩) ?_ ?_; rotate_left
        ·
         intro w'
         first
         | (go_simp; with_reducible rfl)
         | (simp only [ByteArray.size_append] at *; go_simp; with_reducible rfl)
        rotate_left
        ·
         simp only [Act.put, sA, sB, sC, i64_w, i32_w]
         rfl
        refine pT2 2 27 spec_l08Bytes.b2 ?_ hHeld; refine pT2 6 31 spec_l08Bytes.b3 ?_ hHeld; refine pT2 10 35 spec_l08Bytes.b4 ?_ hHeld; refine pure_ (i := 11) (N := some 36) (v := ?_) (a' := ?_) spec_l08Bytes.b5 rfl rfl (any_of HT_.out (by kernel_rfl)) (fun _ _ _ h => h) (Or.inl ⟨by rfl, ?_⟩) ?_ ?_; rotate_left
        ·
         intro w'
         first
         | (go_simp; with_reducible rfl)
         | (simp only [ByteArray.size_append] at *; go_simp; with_reducible rfl)
        rotate_left
        ·
         simp only [Act.put, sA, sB, sC, i64_w, i32_w]
         rfl
        refine one_ (i := 3) (N := some 28) spec_l08Bytes.b6 rfl rfl (one_of HT_.out (by kernel_rfl)) (by decide) (fun K hK => ?_); refine gs Try.func57 #[.string ((rd_T44 l0_0 x4_1).f0)] ?_; with_reducible refine (spec_PutText.calls k1 ((rd_T44 l0_0 x4_1).f0) t105 _ A8.out).mono ?_
        rintro e w20 ⟨rfl, hb⟩; refine ⟨_, rfl, ?_⟩; have _ := AM (nB BK101.out hb); have _ := AM (nB BK104.out hb); have _ := AM (below_step (bX HB.out) hb); clear BK101 BK104 HB; rename_i BK101 BK104 HB; (try clear hb); (try clear hk); refine hK.out _ _ (q4 BK104.out) (fun hHeld => ?_); clear hK K; refine norm_ (a' := ?_) ?_ ?_; rotate_left
        ·
         show Act.put _ (some 28) _ = _
         simp only [Act.put, sA, sB, sC, i64_w, i32_w]
         rfl
        refine pure_ (i := 4) (N := some 29) (v := ?_) (a' := ?_) spec_l08Bytes.b7 rfl rfl (any_of HT_.out (by kernel_rfl)) (fun _ _ _ h => h) (Or.inl ⟨by rfl, ?_⟩) ?_ ?_; rotate_left
        ·
         intro w'
         first
         | (go_simp; with_reducible rfl)
         | (simp only [ByteArray.size_append] at *; go_simp; with_reducible rfl)
        rotate_left
        ·
         simp only [Act.put, sA, sB, sC, i64_w, i32_w]
         rfl
        refine one_ (i := 7) (N := some 32) spec_l08Bytes.b8 rfl rfl (one_of HT_.out (by kernel_rfl)) (by decide) (fun K hK => ?_); refine gs Try.func56 #[.int .i64 ((rd_T44 l0_0 x4_1).f1)] ?_; with_reducible refine (spec_PutNum.calls k1 ((rd_T44 l0_0 x4_1).f1) t106 _ A10.out).mono ?_
        rintro e w21 ⟨rfl, hb⟩; refine ⟨_, rfl, ?_⟩; have _ := AM (nB BK101.out hb); have _ := AM (nB BK104.out hb); have _ := AM (below_step (bX HB.out) hb); clear BK101 BK104 HB; rename_i BK101 BK104 HB; (try clear hb); (try clear hk); refine hK.out _ _ (q4 BK104.out) (fun hHeld => ?_); clear hK K; refine norm_ (a' := ?_) ?_ ?_; rotate_left
        ·
         show Act.put _ (some 32) _ = _
         simp only [Act.put, sA, sB, sC, i64_w, i32_w]
         rfl
        refine pure_ (i := 8) (N := some 33) (v := ?_) (a' := ?_) (upTo 12 15) rfl rfl (any_of HT_.out (by kernel_rfl)) (fun _ _ _ h => h) (Or.inl ⟨by rfl, ?_⟩) ?_ ?_; rotate_left
        ·
         intro w'
         first
         | (go_simp; with_reducible rfl)
         | (simp only [ByteArray.size_append] at *; go_simp; with_reducible rfl)
        rotate_left
        ·
         simp only [Act.put, sA, sB, sC, i64_w, i32_w]
         rfl
        refine oU 12 37 (upTo 13 15) HT_.out (fun K hK => ?_); refine gs Try.func56 #[.int .i64 (((rd_T44 l0_0 x4_1).f2).length : Int)] ?_; with_reducible refine (spec_PutNum.calls k1 (((rd_T44 l0_0 x4_1).f2).length : Int) t107 _ A12.out).mono ?_
        rintro e w22 ⟨rfl, hb⟩; refine ⟨_, rfl, ?_⟩; have _ := AM (nB BK101.out hb); have _ := AM (nB BK104.out hb); have _ := AM (below_step (bX HB.out) hb); clear BK101 BK104 HB; rename_i BK101 BK104 HB; (try clear hb); (try clear hk); refine hK.out _ _ (q4 BK104.out) (fun hHeld => ?_); clear hK K; refine norm_ (a' := ?_) ?_ ?_; rotate_left
        ·
         show Act.put _ (some 37) _ = _
         simp only [Act.put, sA, sB, sC, i64_w, i32_w]
         rfl
        refine pure_ (i := 13) (N := some 38) (v := ?_) (a' := ?_) (upTo 14 15) rfl rfl (any_of HT_.out (by kernel_rfl)) (fun _ _ _ h => h) (Or.inl ⟨by rfl, ?_⟩) ?_ ?_; rotate_left
        ·
         intro w'
         first
         | (go_simp; with_reducible rfl)
         | (simp only [ByteArray.size_append] at *; go_simp; with_reducible rfl)
        rotate_left
        ·
         simp only [Act.put, sA, sB, sC, i64_w, i32_w]
         rfl
        refine pure_ (i := 14) (N := some 3) (v := ?_) (a' := ?_) (upTo 15 15) rfl rfl (any_of HT_.out (by kernel_rfl)) (fun _ _ _ h => h) (Or.inl ⟨by rfl, ?_⟩) ?_ ?_; rotate_left
        ·
         intro w'
         first
         | (go_simp; with_reducible rfl)
         | (simp only [ByteArray.size_append] at *; go_simp; with_reducible rfl)
        rotate_left
        ·
         simp only [Act.put, sA, sB, sC, i64_w, i32_w]
         rfl
        refine done_ (done_of HT_.out (by kernel_rfl)) ?_; try go_wp2
        go_loopg [3, 6] k1 (fun kq v3 v6 w' => ∃ (x3_2 : ByteArray) (x6_2 : Int), v3 = .string x3_2 ∧ v6 = .int .i64 x6_2 ∧ Aside0 (spec_l08Bytes.l1 kq x3_2 x4_1 x6_2 l0_0 l0_1 ((rd_T44 l0_0 x4_1).f0) ((rd_T44 l0_0 x4_1).f1) ((rd_T44 l0_0 x4_1).f2) ((rd_T44 l0_0 x4_1).f3) = some r) ∧ Aside0 (kq ≤ k1) ∧ Aside0 (w'.heap[gb101]? = some (.cells #[(.slice (some ad103) l0_0.length c0_0), (.slice A0_1 l0_1.length c0_1)] 25 (0, 0))) ∧ Aside0 (w'.heap[gb104]? = some (.cells #[.string ((rd_T44 l0_0 x4_1).f0), .int .i64 ((rd_T44 l0_0 x4_1).f1), (.slice A103_2 ((rd_T44 l0_0 x4_1).f2).length c103_2), (.slice A103_3 ((rd_T44 l0_0 x4_1).f3).length c103_3)] 44 (0, 0))) ∧ Aside0 (Below w.heap.size w w'))
        case atStart => exact ⟨(((x3_1 ++ t105) ++ t106) ++ t107), (0), (by first | rfl | (simp; done) | (simp [*]; done)), (by first | rfl | (simp; done) | (simp [*]; done)), H', ⟨Nat.le_refl _⟩, ⟨kX BK101.out⟩, ⟨kX BK104.out⟩, ⟨bX HB.out⟩⟩
        case round =>
         clear H'; (try clear c1); (try clear p1); (try clear q1); (try clear hx1); (try clear p2); (try clear c3); (try clear c5); (try clear c6); (try clear c6b0); (try clear c7); (try clear c7b0); (try clear c9); (try clear c9b0); (try clear c9b1); (try clear c9b2); (try clear c10); (try clear p10); (try clear q10); (try clear hx10); (try clear c11); (try clear c11b0); (try clear c11b1); (try clear c11b2); (try clear c13); (try clear c13b0); (try clear c13b1); (try clear c13b2); (try clear c16); (try clear hcz14); (try clear hcz17); (try clear hcz4); (try clear hfz14); (try clear hfz17); (try clear hfz4); (try clear hx103_0); (try clear hx103_1); (try clear hx103_2); (try clear hx103_3); (try clear p103); (try clear q103); obtain ⟨x3_2, x6_2, rfl, rfl, HA, HK2, BK101, BK104, HB⟩ := hrel
         cases gk with
         | zero => exact absurd HA.out (by simp [spec_l08Bytes.l1])
         | succ k2 =>
          have H := HA.out; clear HA; simp only [spec_l08Bytes.l1] at H
          by_cases c23 : x6_2 < (((rd_T44 l0_0 x4_1).f2).length : Int)
          ·
           rw [if_pos c23] at H; have c23b0 := dY c23; clear c23; by_cases c24 : 0 ≤ x6_2
           ·
            rw [if_pos c24] at H; have c24b0 := dY c24; clear c24; replace H := oM H; obtain ⟨t109, A250, H⟩ := H; have A25 := AM A250; clear A250; by_cases c26 : x3_2.size + t109.size ≤ 9223372036854775807
            ·
             rw [if_pos c26] at H; have c26b0 := eq_true c26; have c26b1 := dY c26; try have c26b2 : (9223372036854775807 < x3_2.size + t109.size) = False := eq_false (Nat.not_lt.2 c26)
             have H' := AM H; clear H; have hnb27 := NB104_101.out; have hnc27 := NB101_104.out; have hcz28 := q4 BK104.out; have hfz28 := fZ BK104.out; have p108 : 0 ≤ (x6_2 : Int) := oD ‹_›; have q108 : x6_2 < (((rd_T44 l0_0 x4_1).f2).length : Int) := oD ‹_›; obtain ⟨ad108, e108, hx108_0⟩ := Kd.at_string HR103_2.out x6_2 p108 q108; cases e108; replace hx108_0 := pB HB.out hx108_0; replace p108 := eq_true p108; replace q108 := eq_true q108; go_wp2_with (first | ((with_reducible refine gate_callee (f := 57) rfl ?_); refine gL (some 52) Try.func57 #[.string (rdOf ByteArray.empty ((rd_T44 l0_0 x4_1).f2) x6_2)] ?_; (with_reducible refine (spec_PutText.calls k2 (rdOf ByteArray.empty ((rd_T44 l0_0 x4_1).f2) x6_2) t109 _ A25.out).mono ?_); rintro e w29 ⟨rfl, hb⟩; refine ⟨_, rfl, ?_⟩; have _ := AM (nB BK101.out hb); have _ := AM (nB BK104.out hb); have _ := AM (below_step (bX HB.out) hb); clear BK101 BK104 HB; rename_i BK101 BK104 HB; (try clear hb); (try clear hk)))
             go_roundg k2
             case measure => have := HK1.out; have := HK2.out; omega
             case rel => exact ⟨(x3_2 ++ t109), (wrap64 (x6_2 + 1)), (by first | rfl | (simp; done) | (simp [*]; done)), (by first | rfl | (simp; done) | (simp [*]; done)), H', ⟨by have := HK1.out; have := HK2.out; omega⟩, ⟨kX BK101.out⟩, ⟨kX BK104.out⟩, ⟨bX HB.out⟩⟩
            rw [if_neg c26] at H; exact absurd H (by simp)
           rw [if_neg c24] at H; exact absurd H (by simp)
          rw [if_neg c23] at H; have c23b0 := dN c23; clear c23; replace H := oM H; obtain ⟨t110, A300, H⟩ := H; have A30 := AM A300; clear A300; by_cases c31 : x3_2.size + t110.size ≤ 9223372036854775807
          ·
           rw [if_pos c31] at H; have c31b0 := eq_true c31; have c31b1 := dY c31; try have c31b2 : (9223372036854775807 < x3_2.size + t110.size) = False := eq_false (Nat.not_lt.2 c31)
           have H' := AM H; clear H; have hnb32 := NB104_101.out; have hnc32 := NB101_104.out; have hcz33 := q4 BK104.out; have hfz33 := fZ BK104.out; go_wp2_with (first | ((with_reducible refine gate_callee (f := 56) rfl ?_); refine gL (some 58) Try.func56 #[.int .i64 (((rd_T44 l0_0 x4_1).f3).length : Int)] ?_; (with_reducible refine (spec_PutNum.calls k2 (((rd_T44 l0_0 x4_1).f3).length : Int) t110 _ A30.out).mono ?_); rintro e w34 ⟨rfl, hb⟩; refine ⟨_, rfl, ?_⟩; have _ := AM (nB BK101.out hb); have _ := AM (nB BK104.out hb); have _ := AM (below_step (bX HB.out) hb); clear BK101 BK104 HB; rename_i BK101 BK104 HB; (try clear hb); (try clear hk)))
           go_loopg [3, 7] k2 (fun kq v3 v7 w' => ∃ (x3_3 : ByteArray) (x7_3 : Int), v3 = .string x3_3 ∧ v7 = .int .i64 x7_3 ∧ Aside0 (spec_l08Bytes.l2 kq x3_3 x4_1 x7_3 l0_0 l0_1 ((rd_T44 l0_0 x4_1).f0) ((rd_T44 l0_0 x4_1).f1) ((rd_T44 l0_0 x4_1).f2) ((rd_T44 l0_0 x4_1).f3) = some r) ∧ Aside0 (kq ≤ k2) ∧ Aside0 (w'.heap[gb101]? = some (.cells #[(.slice (some ad103) l0_0.length c0_0), (.slice A0_1 l0_1.length c0_1)] 25 (0, 0))) ∧ Aside0 (w'.heap[gb104]? = some (.cells #[.string ((rd_T44 l0_0 x4_1).f0), .int .i64 ((rd_T44 l0_0 x4_1).f1), (.slice A103_2 ((rd_T44 l0_0 x4_1).f2).length c103_2), (.slice A103_3 ((rd_T44 l0_0 x4_1).f3).length c103_3)] 44 (0, 0))) ∧ Aside0 (Below w.heap.size w w'))
           case atStart => exact ⟨(x3_2 ++ t110), (0), (by first | rfl | (simp; done) | (simp [*]; done)), (by first | rfl | (simp; done) | (simp [*]; done)), H', ⟨Nat.le_refl _⟩, ⟨kX BK101.out⟩, ⟨kX BK104.out⟩, ⟨bX HB.out⟩⟩
           case round =>
            clear H'; (try clear c1); (try clear p1); (try clear q1); (try clear hx1); (try clear c2); (try clear p2); (try clear c3); (try clear c5); (try clear c6); (try clear c6b0); (try clear p6); (try clear c7); (try clear c7b0); (try clear c9); (try clear c9b0); (try clear c9b1); (try clear c9b2); (try clear c10); (try clear p10); (try clear q10); (try clear hx10); (try clear c11); (try clear c11b0); (try clear c11b1); (try clear c11b2); (try clear c13); (try clear c13b0); (try clear c13b1); (try clear c13b2); (try clear c16); (try clear c23); (try clear c23b0); (try clear c24); (try clear c24b0); (try clear c26); (try clear c26b0); (try clear c26b1); (try clear c26b2); (try clear c27); (try clear c30); (try clear c31); (try clear c31b0); (try clear c31b1); (try clear c31b2); (try clear c32); (try clear hcz14); (try clear hcz17); (try clear hcz28); (try clear hcz33); (try clear hcz4); (try clear hfz14); (try clear hfz17); (try clear hfz28); (try clear hfz33); (try clear hfz4); (try clear hx103_0); (try clear hx103_1); (try clear hx103_2); (try clear hx103_3); (try clear hx108_0); (try clear p103); (try clear p108); (try clear q103); (try clear q108); obtain ⟨x3_3, x7_3, rfl, rfl, HA, HK3, BK101, BK104, HB⟩ := hrel
            cases gk with
            | zero => exact absurd HA.out (by simp [spec_l08Bytes.l2])
            | succ k3 =>
             have H := HA.out; clear HA; simp only [spec_l08Bytes.l2] at H
             by_cases c35 : x7_3 < (((rd_T44 l0_0 x4_1).f3).length : Int)
             ·
              rw [if_pos c35] at H; have c35b0 := dY c35; clear c35; by_cases c36 : 0 ≤ x7_3
              ·
               rw [if_pos c36] at H; have c36b0 := dY c36; clear c36; replace H := oM H; obtain ⟨t112, A370, H⟩ := H; have A37 := AM A370; clear A370; by_cases c38 : x3_3.size + t112.size ≤ 9223372036854775807
               ·
                rw [if_pos c38] at H; have c38b0 := eq_true c38; have c38b1 := dY c38; try have c38b2 : (9223372036854775807 < x3_3.size + t112.size) = False := eq_false (Nat.not_lt.2 c38)
                replace H := oM H; obtain ⟨t114, A390, H⟩ := H; have A39 := AM A390; clear A390; by_cases c40 : (x3_3 ++ t112).size + t114.size ≤ 9223372036854775807
                ·
                 rw [if_pos c40] at H; have c40b0 := eq_true c40; have c40b1 := dY c40; try have c40b2 : (9223372036854775807 < (x3_3 ++ t112).size + t114.size) = False := eq_false (Nat.not_lt.2 c40)
                 have c40b3 := c40b1; simp only [ByteArray.size_append] at c40b3; try (have c40b4 := c40b2; simp only [ByteArray.size_append] at c40b4)
                 have H' := AM H; clear H; have hnb41 := NB104_101.out; have hnc41 := NB101_104.out; have hcz42 := q4 BK104.out; have hfz42 := fZ BK104.out; try go_wp2
                 have _ := AM (kD BK101.out); have _ := AM (kD BK104.out); have _ := AM (bD HB.out); clear BK101 BK104 HB; rename_i BK101 BK104 HB; have p111 : 0 ≤ (x7_3 : Int) := oD ‹_›; have q111 : x7_3 < (((rd_T44 l0_0 x4_1).f3).length : Int) := oD ‹_›; obtain ⟨ad111, e111, hx111_0, hx111_1⟩ := at_T61 HR103_3.out x7_3 p111 q111; have hw111_1 := hx111_1; have hw111_0 := hx111_0; cases e111; replace hx111_0 := pB HB.out hx111_0; replace hx111_1 := pB HB.out hx111_1; replace p111 := eq_true p111; replace q111 := eq_true q111; have p113 : 0 ≤ (x7_3 : Int) := oD ‹_›; have q113 : x7_3 < (((rd_T44 l0_0 x4_1).f3).length : Int) := oD ‹_›; obtain ⟨ad113, e113, hx113_0, hx113_1⟩ := at_T61 HR103_3.out x7_3 p113 q113; have hw113_1 := hx113_1; have hw113_0 := hx113_0; obtain rfl : ad111 = ad113 := (by injection e113); replace hx113_0 := pB HB.out hx113_0; replace hx113_1 := pB HB.out hx113_1; replace p113 := eq_true p113; replace q113 := eq_true q113; refine start_ (n := 18) (S := fun w' => w'.cell? ⟨gb104, 0, none⟩ = some (.string ((rd_T44 l0_0 x4_1).f0)) ∧ w'.cell? ⟨gb104, 1, none⟩ = some (.int .i64 ((rd_T44 l0_0 x4_1).f1)) ∧ w'.cell? ⟨gb104, 2, none⟩ = some (.slice A103_2 ((rd_T44 l0_0 x4_1).f2).length c103_2) ∧ w'.cell? ⟨gb104, 3, none⟩ = some (.slice (some ad111) ((rd_T44 l0_0 x4_1).f3).length c103_3) ∧ w'.cell? (ad111.add ((x7_3).toNat * 2)) = some (.string ((rd_T61 ((rd_T44 l0_0 x4_1).f3) x7_3).f0)) ∧ w'.cell? ⟨(ad111.add ((x7_3).toNat * 2)).block, (ad111.add ((x7_3).toNat * 2)).off + 1, none⟩ = some (.int .i64 ((rd_T61 ((rd_T44 l0_0 x4_1).f3) x7_3).f1)) ∧ w'.cell? (ad111.add ((x7_3).toNat * 2)) = some (.string ((rd_T61 ((rd_T44 l0_0 x4_1).f3) x7_3).f0)) ∧ w'.cell? ⟨(ad111.add ((x7_3).toNat * 2)).block, (ad111.add ((x7_3).toNat * 2)).off + 1, none⟩ = some (.int .i64 ((rd_T61 ((rd_T44 l0_0 x4_1).f3) x7_3).f1))) (ds := []) (upTo 0 18) (by kernel_rfl) rfl rfl ⟨hC BK104.out 0, hC BK104.out 1, hC BK104.out 2, hC BK104.out 3, (pB HB.out hw111_0), (pB HB.out hw111_1), (pB HB.out hw113_0), (pB HB.out hw113_1)⟩ (fun hHeld => ?_); refine with_tabW spec_l08Bytes.tab15 spec_l08Bytes.bits15 (fun HT_ HW_ => ?_); generalize wr.drew = w43 at BK101 BK104 HB hx111_0 hx111_1 hx113_0 hx113_1 hHeld ⊢; refine pure_ (i := 0) (N := some 67) (v := ?_) (a' := ?_) (upTo 1 18) rfl rfl (any_of HT_.out (by kernel_rfl)) (fun _ _ _ h => h) (Or.inl ⟨by rfl, ?_⟩) ?_ ?_; rotate_left
                 ·
                  intro w'
                  first
                  | (go_simp; with_reducible rfl)
                  | (simp only [ByteArray.size_append] at *; go_simp; with_reducible rfl)
                 rotate_left
                 ·
                  simp only [Act.put, sA, sB, sC, i64_w, i32_w]
                  rfl
                 refine pure_ (i := 1) (N := some 68) (v := ?_) (a' := ?_) (upTo 2 18) rfl rfl (any_of HT_.out (by kernel_rfl)) (fun _ _ _ h => h) (Or.inl ⟨by rfl, ?_⟩) ?_ ?_; rotate_left
                 ·
                  intro w'
                  first
                  | (go_simp; with_reducible rfl)
                  | (simp only [ByteArray.size_append] at *; go_simp; with_reducible rfl)
                 rotate_left
                 ·
                  simp only [Act.put, sA, sB, sC, i64_w, i32_w]
                  rfl
                 refine pure_ (i := 3) (N := some 70) (v := ?_) (a' := ?_) spec_l08Bytes.b9 rfl rfl (any_of HT_.out (by kernel_rfl)) (fun _ _ _ h => h) (Or.inl ⟨by rfl, ?_⟩) ?_ ?_; rotate_left
                 ·
                  intro w'
                  first
                  | (go_simp; with_reducible rfl)
                  | (simp only [ByteArray.size_append] at *; go_simp; with_reducible rfl)
                 rotate_left
                 ·
                  simp only [Act.put, sA, sB, sC, i64_w, i32_w]
                  rfl
                 refine pure_ (i := 9) (N := some 76) (v := ?_) (a' := ?_) spec_l08Bytes.b10 rfl rfl (any_of HT_.out (by kernel_rfl)) (fun _ _ _ h => h) (Or.inl ⟨by rfl, ?_⟩) ?_ ?_; rotate_left
                 ·
                  intro w'
                  first
                  | (go_simp; with_reducible rfl)
                  | (simp only [ByteArray.size_append] at *; go_simp; with_reducible rfl)
                 rotate_left
                 ·
                  simp only [Act.put, sA, sB, sC, i64_w, i32_w]
                  rfl
                 refine pure_ (i := 11) (N := some 78) (v := ?_) (a' := ?_) spec_l08Bytes.b11 rfl rfl (any_of HT_.out (by kernel_rfl)) (fun _ _ _ h => h) (Or.inl ⟨by rfl, ?_⟩) ?_ ?_; rotate_left
                 ·
                  intro w'
                  first
                  | (go_simp; with_reducible rfl)
                  | (simp only [ByteArray.size_append] at *; go_simp; with_reducible rfl)
                 rotate_left
                 ·
                  simp only [Act.put, sA, sB, sC, i64_w, i32_w]
                  rfl
                 refine pT2 2 69 spec_l08Bytes.b12 ?_ hHeld; refine pure_ (i := 4) (N := some 71) (v := ?_) (a' := ?_) spec_l08Bytes.b13 rfl rfl (any_of HT_.out (by kernel_rfl)) (fun _ _ _ h => h) (Or.inl ⟨by rfl, ?_⟩) ?_ ?_; rotate_left
                 ·
                  intro w'
                  first
                  | (go_simp; with_reducible rfl)
                  | (simp only [ByteArray.size_append] at *; go_simp; with_reducible rfl)
                 rotate_left
                 ·
                  simp only [Act.put, sA, sB, sC, i64_w, i32_w]
                  rfl
                 refine pure_ (i := 5) (N := some 72) (v := ?_) (a' := ?_) spec_l08Bytes.b14 rfl rfl (any_of HT_.out (by kernel_rfl)) (fun _ _ _ h => h) (Or.inl ⟨by rfl, ?_⟩) ?_ ?_; rotate_left
                 ·
                  intro w'
                  first
                  | (go_simp; with_reducible rfl)
                  | (simp only [ByteArray.size_append] at *; go_simp; with_reducible rfl)
                 rotate_left
                 ·
                  simp only [Act.put, sA, sB, sC, i64_w, i32_w]
                  rfl
                 refine pT2 6 73 spec_l08Bytes.b15 ?_ hHeld; refine pT2 10 77 spec_l08Bytes.b16 ?_ hHeld; refine pure_ (i := 12) (N := some 79) (v := ?_) (a' := ?_) spec_l08Bytes.b17 rfl rfl (any_of HT_.out (by kernel_rfl)) (fun _ _ _ h => h) (Or.inl ⟨by rfl, ?_⟩) ?_ ?_; rotate_left
                 ·
                  intro w'
                  first
                  | (go_simp; with_reducible rfl)
                  | (simp only [ByteArray.size_append] at *; go_simp; with_reducible rfl)
                 rotate_left
                 ·
                  simp only [Act.put, sA, sB, sC, i64_w, i32_w]
                  rfl
                 refine pure_ (i := 13) (N := some 80) (v := ?_) (a' := ?_) spec_l08Bytes.b18 rfl rfl (any_of HT_.out (by kernel_rfl)) (fun _ _ _ h => h) (Or.inl ⟨by rfl, ?_⟩) ?_ ?_; rotate_left
                 ·
                  intro w'
                  first
                  | (go_simp; with_reducible rfl)
                  | (simp only [ByteArray.size_append] at *; go_simp; with_reducible rfl)
                 rotate_left
                 ·
                  simp only [Act.put, sA, sB, sC, i64_w, i32_w]
                  rfl
                 refine pT2 14 81 spec_l08Bytes.b19 ?_ hHeld; refine one_ (i := 7) (N := some 74) spec_l08Bytes.b20 rfl rfl (one_of HT_.out (by kernel_rfl)) (by decide) (fun K hK => ?_); refine gs Try.func57 #[.string ((rd_T61 ((rd_T44 l0_0 x4_1).f3) x7_3).f0)] ?_; with_reducible refine (spec_PutText.calls k3 ((rd_T61 ((rd_T44 l0_0 x4_1).f3) x7_3).f0) t112 _ A37.out).mono ?_
                 rintro e w44 ⟨rfl, hb⟩; refine ⟨_, rfl, ?_⟩; have _ := AM (nB BK101.out hb); have _ := AM (nB BK104.out hb); have _ := AM (below_step (bX HB.out) hb); clear BK101 BK104 HB; rename_i BK101 BK104 HB; (try clear hb); (try clear hk); refine hK.out _ _ ⟨hC BK104.out 0, hC BK104.out 1, hC BK104.out 2, hC BK104.out 3, (pB HB.out hw111_0), (pB HB.out hw111_1), (pB HB.out hw113_0), (pB HB.out hw113_1)⟩ (fun hHeld => ?_); clear hK K; refine norm_ (a' := ?_) ?_ ?_; rotate_left
                 ·
                  show Act.put _ (some 74) _ = _
                  simp only [Act.put, sA, sB, sC, i64_w, i32_w]
                  rfl
                 refine pure_ (i := 8) (N := some 75) (v := ?_) (a' := ?_) (upTo 15 18) rfl rfl (any_of HT_.out (by kernel_rfl)) (fun _ _ _ h => h) (Or.inl ⟨by rfl, ?_⟩) ?_ ?_; rotate_left
                 ·
                  intro w'
                  first
                  | (go_simp; with_reducible rfl)
                  | (simp only [ByteArray.size_append] at *; go_simp; with_reducible rfl)
                 rotate_left
                 ·
                  simp only [Act.put, sA, sB, sC, i64_w, i32_w]
                  rfl
                 refine oU 15 82 (upTo 16 18) HT_.out (fun K hK => ?_); refine gs Try.func56 #[.int .i64 ((rd_T61 ((rd_T44 l0_0 x4_1).f3) x7_3).f1)] ?_; with_reducible refine (spec_PutNum.calls k3 ((rd_T61 ((rd_T44 l0_0 x4_1).f3) x7_3).f1) t114 _ A39.out).mono ?_
                 rintro e w45 ⟨rfl, hb⟩; refine ⟨_, rfl, ?_⟩; have _ := AM (nB BK101.out hb); have _ := AM (nB BK104.out hb); have _ := AM (below_step (bX HB.out) hb); clear BK101 BK104 HB; rename_i BK101 BK104 HB; (try clear hb); (try clear hk); refine hK.out _ _ ⟨hC BK104.out 0, hC BK104.out 1, hC BK104.out 2, hC BK104.out 3, (pB HB.out hw111_0), (pB HB.out hw111_1), (pB HB.out hw113_0), (pB HB.out hw113_1)⟩ (fun hHeld => ?_); clear hK K; refine norm_ (a' := ?_) ?_ ?_; rotate_left
                 ·
                  show Act.put _ (some 82) _ = _
                  simp only [Act.put, sA, sB, sC, i64_w, i32_w]
                  rfl
                 refine pure_ (i := 16) (N := some 83) (v := ?_) (a' := ?_) (upTo 17 18) rfl rfl (any_of HT_.out (by kernel_rfl)) (fun _ _ _ h => h) (Or.inl ⟨by rfl, ?_⟩) ?_ ?_; rotate_left
                 ·
                  intro w'
                  first
                  | (go_simp; with_reducible rfl)
                  | (simp only [ByteArray.size_append] at *; go_simp; with_reducible rfl)
                 rotate_left
                 ·
                  simp only [Act.put, sA, sB, sC, i64_w, i32_w]
                  rfl
                 refine pure_ (i := 17) (N := some 3) (v := ?_) (a' := ?_) (upTo 18 18) rfl rfl (any_of HT_.out (by kernel_rfl)) (fun _ _ _ h => h) (Or.inl ⟨by rfl, ?_⟩) ?_ ?_; rotate_left
                 ·
                  intro w'
                  first
                  | (go_simp; with_reducible rfl)
                  | (simp only [ByteArray.size_append] at *; go_simp; with_reducible rfl)
                 rotate_left
                 ·
                  simp only [Act.put, sA, sB, sC, i64_w, i32_w]
                  rfl
                 refine done_ (done_of HT_.out (by kernel_rfl)) ?_; try go_wp2
                 go_roundg k3
                 case measure => have := HK1.out; have := HK2.out; have := HK3.out; omega
                 case rel => exact ⟨((x3_3 ++ t112) ++ t114), (wrap64 (x7_3 + 1)), (by first | rfl | (simp; done) | (simp [*]; done)), (by first | rfl | (simp; done) | (simp [*]; done)), H', ⟨by have := HK1.out; have := HK2.out; have := HK3.out; omega⟩, ⟨kX BK101.out⟩, ⟨kX BK104.out⟩, ⟨bX HB.out⟩⟩
                rw [if_neg c40] at H; exact absurd H (by simp)
               rw [if_neg c38] at H; exact absurd H (by simp)
              rw [if_neg c36] at H; exact absurd H (by simp)
             rw [if_neg c35] at H; have c35b0 := dN c35; clear c35; have H' := AM H; clear H; have hnb46 := NB104_101.out; have hnc46 := NB101_104.out; have hcz47 := q4 BK104.out; have hfz47 := fZ BK104.out; go_wp2
             go_roundg k3
             case measure => have := HK1.out; have := HK2.out; have := HK3.out; omega
             case rel => exact ⟨(x3_3), (wrap64 (x4_1 + 1)), (by first | rfl | (simp; done) | (simp [*]; done)), (by first | rfl | (simp; done) | (simp [*]; done)), H', ⟨by have := HK1.out; have := HK2.out; have := HK3.out; omega⟩, ⟨kX BK101.out⟩, ⟨bX HB.out⟩⟩
          rw [if_neg c31] at H; exact absurd H (by simp)
       rw [if_neg c13] at H; exact absurd H (by simp)
      rw [if_neg c11] at H; exact absurd H (by simp)
     rw [if_neg c9] at H; exact absurd H (by simp)
    rw [if_neg c7] at H; exact absurd H (by simp)
   rw [if_neg c6] at H; have c6b0 := dN c6; clear c6; replace H := oM H; obtain ⟨t115, A480, H⟩ := H; have A48 := AM A480; clear A480; by_cases c49 : x3_1.size + t115.size ≤ 9223372036854775807
   ·
    rw [if_pos c49] at H; have c49b0 := eq_true c49; have c49b1 := dY c49; try have c49b2 : (9223372036854775807 < x3_1.size + t115.size) = False := eq_false (Nat.not_lt.2 c49)
    have H' := AM H; clear H; have hcz50 := q2 BK101.out; have hfz50 := fZ BK101.out; go_wp2_with (first | ((with_reducible refine gate_callee (f := 56) rfl ?_); refine gL (some 88) Try.func56 #[.int .i64 (l0_1.length : Int)] ?_; (with_reducible refine (spec_PutNum.calls k1 (l0_1.length : Int) t115 _ A48.out).mono ?_); rintro e w51 ⟨rfl, hb⟩; refine ⟨_, rfl, ?_⟩; have _ := AM (nB BK101.out hb); have _ := AM (below_step (bX HB.out) hb); clear BK101 HB; rename_i BK101 HB; (try clear hb); (try clear hk)))
    go_loopg [3, 8] k1 (fun kq v3 v8 w' => ∃ (x3_2 : ByteArray) (x8_2 : Int), v3 = .string x3_2 ∧ v8 = .int .i64 x8_2 ∧ Aside0 (spec_l08Bytes.l3 kq x3_2 x8_2 l0_0 l0_1 = some r) ∧ Aside0 (kq ≤ k1) ∧ Aside0 (w'.heap[gb101]? = some (.cells #[(.slice A0_0 l0_0.length c0_0), (.slice A0_1 l0_1.length c0_1)] 25 (0, 0))) ∧ Aside0 (Below w.heap.size w w'))
    case atStart => exact ⟨(x3_1 ++ t115), (0), (by first | rfl | (simp; done) | (simp [*]; done)), (by first | rfl | (simp; done) | (simp [*]; done)), H', ⟨Nat.le_refl _⟩, ⟨kX BK101.out⟩, ⟨bX HB.out⟩⟩
    case round =>
     clear H'; (try clear c1); (try clear p1); (try clear q1); (try clear hx1); (try clear c2); (try clear p2); (try clear c3); (try clear c4); (try clear c5); (try clear c6); (try clear c6b0); (try clear p6); (try clear c7); (try clear c7b0); (try clear c9); (try clear c9b0); (try clear c9b1); (try clear c9b2); (try clear c10); (try clear p10); (try clear q10); (try clear hx10); (try clear c11); (try clear c11b0); (try clear c11b1); (try clear c11b2); (try clear p11); (try clear q11); (try clear hx11); (try clear c13); (try clear c13b0); (try clear c13b1); (try clear c13b2); (try clear c16); (try clear c23); (try clear c23b0); (try clear c24); (try clear c24b0); (try clear c26); (try clear c26b0); (try clear c26b1); (try clear c26b2); (try clear c27); (try clear c30); (try clear c31); (try clear c31b0); (try clear c31b1); (try clear c31b2); (try clear c32); (try clear c35); (try clear c35b0); (try clear c36); (try clear c36b0); (try clear c38); (try clear c38b0); (try clear c38b1); (try clear c38b2); (try clear c40); (try clear c40b0); (try clear c40b1); (try clear c40b2); (try clear c41); (try clear c46); (try clear c49); (try clear c49b0); (try clear c49b1); (try clear c49b2); (try clear hcz14); (try clear hcz17); (try clear hcz28); (try clear hcz33); (try clear hcz42); (try clear hcz47); (try clear hcz4); (try clear hcz50); (try clear hfz14); (try clear hfz17); (try clear hfz28); (try clear hfz33); (try clear hfz42); (try clear hfz47); (try clear hfz4); (try clear hfz50); (try clear hx103_0); (try clear hx103_1); (try clear hx103_2); (try clear hx103_3); (try clear hx108_0); (try clear hx111_0); (try clear hx111_1); (try clear hx113_0); (try clear hx113_1); (try clear p103); (try clear p108); (try clear p111); (try clear p113); (try clear q103); (try clear q108); (try clear q111); (try clear q113); obtain ⟨x3_2, x8_2, rfl, rfl, HA, HK2, BK101, HB⟩ := hrel
     cases gk with
     | zero => exact absurd HA.out (by simp [spec_l08Bytes.l3])
     | succ k2 =>
      have H := HA.out; clear HA; simp only [spec_l08Bytes.l3] at H
      by_cases c52 : x8_2 < (l0_1.length : Int)
      ·
       rw [if_pos c52] at H; have c52b0 := dY c52; clear c52; by_cases c53 : 0 ≤ x8_2
       ·
        rw [if_pos c53] at H; have c53b0 := dY c53; clear c53; replace H := oM H; obtain ⟨t117, A540, H⟩ := H; have A54 := AM A540; clear A540; by_cases c55 : x3_2.size + t117.size ≤ 9223372036854775807
        ·
         rw [if_pos c55] at H; have c55b0 := eq_true c55; have c55b1 := dY c55; try have c55b2 : (9223372036854775807 < x3_2.size + t117.size) = False := eq_false (Nat.not_lt.2 c55)
         replace H := oM H; obtain ⟨t119, A560, H⟩ := H; have A56 := AM A560; clear A560; by_cases c57 : (x3_2 ++ t117).size + t119.size ≤ 9223372036854775807
         ·
          rw [if_pos c57] at H; have c57b0 := eq_true c57; have c57b1 := dY c57; try have c57b2 : (9223372036854775807 < (x3_2 ++ t117).size + t119.size) = False := eq_false (Nat.not_lt.2 c57)
          have c57b3 := c57b1; simp only [ByteArray.size_append] at c57b3; try (have c57b4 := c57b2; simp only [ByteArray.size_append] at c57b4)
          replace H := oM H; obtain ⟨t121, A580, H⟩ := H; have A58 := AM A580; clear A580; by_cases c59 : ((x3_2 ++ t117) ++ t119).size + t121.size ≤ 9223372036854775807
          ·
           rw [if_pos c59] at H; have c59b0 := eq_true c59; have c59b1 := dY c59; try have c59b2 : (9223372036854775807 < ((x3_2 ++ t117) ++ t119).size + t121.size) = False := eq_false (Nat.not_lt.2 c59)
           have c59b3 := c59b1; simp only [ByteArray.size_append] at c59b3; try (have c59b4 := c59b2; simp only [ByteArray.size_append] at c59b4)
           have H' := AM H; clear H; have hcz60 := q2 BK101.out; have hfz60 := fZ BK101.out; try go_wp2
           have _ := AM (kD BK101.out); have _ := AM (bD HB.out); clear BK101 HB; rename_i BK101 HB; have p116 : 0 ≤ (x8_2 : Int) := oD ‹_›; have q116 : x8_2 < (l0_1.length : Int) := oD ‹_›; obtain ⟨ad116, e116, hx116_0, hx116_1, hx116_2⟩ := at_T48 HR0_1.out x8_2 p116 q116; have hw116_2 := hx116_2; have hw116_1 := hx116_1; have hw116_0 := hx116_0; cases e116; replace hx116_0 := pB HB.out hx116_0; replace hx116_1 := pB HB.out hx116_1; replace hx116_2 := pB HB.out hx116_2; replace p116 := eq_true p116; replace q116 := eq_true q116; have p118 : 0 ≤ (x8_2 : Int) := oD ‹_›; have q118 : x8_2 < (l0_1.length : Int) := oD ‹_›; obtain ⟨ad118, e118, hx118_0, hx118_1, hx118_2⟩ := at_T48 HR0_1.out x8_2 p118 q118; have hw118_2 := hx118_2; have hw118_1 := hx118_1; have hw118_0 := hx118_0; obtain rfl : ad116 = ad118 := (by injection e118); replace hx118_0 := pB HB.out hx118_0; replace hx118_1 := pB HB.out hx118_1; replace hx118_2 := pB HB.out hx118_2; replace p118 := eq_true p118; replace q118 := eq_true q118; have p120 : 0 ≤ (x8_2 : Int) := oD ‹_›; have q120 : x8_2 < (l0_1.length : Int) := oD ‹_›; obtain ⟨ad120, e120, hx120_0, hx120_1, hx120_2⟩ := at_T48 HR0_1.out x8_2 p120 q120; have hw120_2 := hx120_2; have hw120_1 := hx120_1; have hw120_0 := hx120_0; obtain rfl : ad116 = ad120 := (by injection e120); replace hx120_0 := pB HB.out hx120_0; replace hx120_1 := pB HB.out hx120_1; replace hx120_2 := pB HB.out hx120_2; replace p120 := eq_true p120; replace q120 := eq_true q120; refine start_ (n := 26) (S := fun w' => w'.cell? ⟨gb101, 0, none⟩ = some (.slice A0_0 l0_0.length c0_0) ∧ w'.cell? ⟨gb101, 1, none⟩ = some (.slice (some ad116) l0_1.length c0_1) ∧ w'.cell? (ad116.add ((x8_2).toNat * 3)) = some (.int .i64 ((rd_T48 l0_1 x8_2).f0)) ∧ w'.cell? ⟨(ad116.add ((x8_2).toNat * 3)).block, (ad116.add ((x8_2).toNat * 3)).off + 1, none⟩ = some (.int .i64 ((rd_T48 l0_1 x8_2).f1)) ∧ w'.cell? ⟨(ad116.add ((x8_2).toNat * 3)).block, (ad116.add ((x8_2).toNat * 3)).off + 2, none⟩ = some (.string ((rd_T48 l0_1 x8_2).f2)) ∧ w'.cell? (ad116.add ((x8_2).toNat * 3)) = some (.int .i64 ((rd_T48 l0_1 x8_2).f0)) ∧ w'.cell? ⟨(ad116.add ((x8_2).toNat * 3)).block, (ad116.add ((x8_2).toNat * 3)).off + 1, none⟩ = some (.int .i64 ((rd_T48 l0_1 x8_2).f1)) ∧ w'.cell? ⟨(ad116.add ((x8_2).toNat * 3)).block, (ad116.add ((x8_2).toNat * 3)).off + 2, none⟩ = some (.string ((rd_T48 l0_1 x8_2).f2)) ∧ w'.cell? (ad116.add ((x8_2).toNat * 3)) = some (.int .i64 ((rd_T48 l0_1 x8_2).f0)) ∧ w'.cell? ⟨(ad116.add ((x8_2).toNat * 3)).block, (ad116.add ((x8_2).toNat * 3)).off + 1, none⟩ = some (.int .i64 ((rd_T48 l0_1 x8_2).f1)) ∧ w'.cell? ⟨(ad116.add ((x8_2).toNat * 3)).block, (ad116.add ((x8_2).toNat * 3)).off + 2, none⟩ = some (.string ((rd_T48 l0_1 x8_2).f2))) (ds := []) (upTo 0 26) (by kernel_rfl) rfl rfl ⟨hC BK101.out 0, hC BK101.out 1, (pB HB.out hw116_0), (pB HB.out hw116_1), (pB HB.out hw116_2), (pB HB.out hw118_0), (pB HB.out hw118_1), (pB HB.out hw118_2), (pB HB.out hw120_0), (pB HB.out hw120_1), (pB HB.out hw120_2)⟩ (fun hHeld => ?_); refine with_tabW spec_l08Bytes.tab20 spec_l08Bytes.bits20 (fun HT_ HW_ => ?_); generalize wr.drew = w61 at BK101 HB hx116_0 hx116_1 hx116_2 hx118_0 hx118_1 hx118_2 hx120_0 hx120_1 hx120_2 hHeld ⊢; refine pure_ (i := 0) (N := some 97) (v := ?_) (a' := ?_) (upTo 1 26) rfl rfl (any_of HT_.out (by kernel_rfl)) (fun _ _ _ h => h) (Or.inl ⟨by rfl, ?_⟩) ?_ ?_; rotate_left
           ·
            intro w'
            first
            | (go_simp; with_reducible rfl)
            | (simp only [ByteArray.size_append] at *; go_simp; with_reducible rfl)
           rotate_left
           ·
            simp only [Act.put, sA, sB, sC, i64_w, i32_w]
            rfl
           refine pure_ (i := 1) (N := some 98) (v := ?_) (a' := ?_) (upTo 2 26) rfl rfl (any_of HT_.out (by kernel_rfl)) (fun _ _ _ h => h) (Or.inl ⟨by rfl, ?_⟩) ?_ ?_; rotate_left
           ·
            intro w'
            first
            | (go_simp; with_reducible rfl)
            | (simp only [ByteArray.size_append] at *; go_simp; with_reducible rfl)
           rotate_left
           ·
            simp only [Act.put, sA, sB, sC, i64_w, i32_w]
            rfl
           refine pure_ (i := 3) (N := some 100) (v := ?_) (a' := ?_) spec_l08Bytes.b21 rfl rfl (any_of HT_.out (by kernel_rfl)) (fun _ _ _ h => h) (Or.inl ⟨by rfl, ?_⟩) ?_ ?_; rotate_left
           ·
            intro w'
            first
            | (go_simp; with_reducible rfl)
            | (simp only [ByteArray.size_append] at *; go_simp; with_reducible rfl)
           rotate_left
           ·
            simp only [Act.put, sA, sB, sC, i64_w, i32_w]
            rfl
           refine pure_ (i := 9) (N := some 106) (v := ?_) (a' := ?_) spec_l08Bytes.b22 rfl rfl (any_of HT_.out (by kernel_rfl)) (fun _ _ _ h => h) (Or.inl ⟨by rfl, ?_⟩) ?_ ?_; rotate_left
           ·
            intro w'
            first
            | (go_simp; with_reducible rfl)
            | (simp only [ByteArray.size_append] at *; go_simp; with_reducible rfl)
           rotate_left
           ·
            simp only [Act.put, sA, sB, sC, i64_w, i32_w]
            rfl
           refine pure_ (i := 11) (N := some 108) (v := ?_) (a' := ?_) spec_l08Bytes.b23 rfl rfl (any_of HT_.out (by kernel_rfl)) (fun _ _ _ h => h) (Or.inl ⟨by rfl, ?_⟩) ?_ ?_; rotate_left
           ·
            intro w'
            first
            | (go_simp; with_reducible rfl)
            | (simp only [ByteArray.size_append] at *; go_simp; with_reducible rfl)
           rotate_left
           ·
            simp only [Act.put, sA, sB, sC, i64_w, i32_w]
            rfl
           refine pure_ (i := 17) (N := some 114) (v := ?_) (a' := ?_) spec_l08Bytes.b24 rfl rfl (any_of HT_.out (by kernel_rfl)) (fun _ _ _ h => h) (Or.inl ⟨by rfl, ?_⟩) ?_ ?_; rotate_left
           ·
            intro w'
            first
            | (go_simp; with_reducible rfl)
            | (simp only [ByteArray.size_append] at *; go_simp; with_reducible rfl)
           rotate_left
           ·
            simp only [Act.put, sA, sB, sC, i64_w, i32_w]
            rfl
           refine pure_ (i := 19) (N := some 116) (v := ?_) (a' := ?_) spec_l08Bytes.b25 rfl rfl (any_of HT_.out (by kernel_rfl)) (fun _ _ _ h => h) (Or.inl ⟨by rfl, ?_⟩) ?_ ?_; rotate_left
           ·
            intro w'
            first
            | (go_simp; with_reducible rfl)
            | (simp only [ByteArray.size_append] at *; go_simp; with_reducible rfl)
           rotate_left
           ·
            simp only [Act.put, sA, sB, sC, i64_w, i32_w]
            rfl
           refine pT2 2 99 spec_l08Bytes.b26 ?_ hHeld; refine pure_ (i := 4) (N := some 101) (v := ?_) (a' := ?_) spec_l08Bytes.b27 rfl rfl (any_of HT_.out (by kernel_rfl)) (fun _ _ _ h => h) (Or.inl ⟨by rfl, ?_⟩) ?_ ?_; rotate_left
           ·
            intro w'
            first
            | (go_simp; with_reducible rfl)
            | (simp only [ByteArray.size_append] at *; go_simp; with_reducible rfl)
           rotate_left
           ·
            simp only [Act.put, sA, sB, sC, i64_w, i32_w]
            rfl
           refine pure_ (i := 5) (N := some 102) (v := ?_) (a' := ?_) spec_l08Bytes.b28 rfl rfl (any_of HT_.out (by kernel_rfl)) (fun _ _ _ h => h) (Or.inl ⟨by rfl, ?_⟩) ?_ ?_; rotate_left
           ·
            intro w'
            first
            | (go_simp; with_reducible rfl)
            | (simp only [ByteArray.size_append] at *; go_simp; with_reducible rfl)
           rotate_left
           ·
            simp only [Act.put, sA, sB, sC, i64_w, i32_w]
            rfl
           refine pT2 6 103 spec_l08Bytes.b29 ?_ hHeld; refine pT2 10 107 spec_l08Bytes.b30 ?_ hHeld; refine pure_ (i := 12) (N := some 109) (v := ?_) (a' := ?_) spec_l08Bytes.b31 rfl rfl (any_of HT_.out (by kernel_rfl)) (fun _ _ _ h => h) (Or.inl ⟨by rfl, ?_⟩) ?_ ?_; rotate_left
           ·
            intro w'
            first
            | (go_simp; with_reducible rfl)
            | (simp only [ByteArray.size_append] at *; go_simp; with_reducible rfl)
           rotate_left
           ·
            simp only [Act.put, sA, sB, sC, i64_w, i32_w]
            rfl
           refine pure_ (i := 13) (N := some 110) (v := ?_) (a' := ?_) spec_l08Bytes.b32 rfl rfl (any_of HT_.out (by kernel_rfl)) (fun _ _ _ h => h) (Or.inl ⟨by rfl, ?_⟩) ?_ ?_; rotate_left
           ·
            intro w'
            first
            | (go_simp; with_reducible rfl)
            | (simp only [ByteArray.size_append] at *; go_simp; with_reducible rfl)
           rotate_left
           ·
            simp only [Act.put, sA, sB, sC, i64_w, i32_w]
            rfl
           refine pT2 14 111 spec_l08Bytes.b33 ?_ hHeld; refine pT2 18 115 spec_l08Bytes.b34 ?_ hHeld; refine pure_ (i := 20) (N := some 117) (v := ?_) (a' := ?_) spec_l08Bytes.b35 rfl rfl (any_of HT_.out (by kernel_rfl)) (fun _ _ _ h => h) (Or.inl ⟨by rfl, ?_⟩) ?_ ?_; rotate_left
           ·
            intro w'
            first
            | (go_simp; with_reducible rfl)
            | (simp only [ByteArray.size_append] at *; go_simp; with_reducible rfl)
           rotate_left
           ·
            simp only [Act.put, sA, sB, sC, i64_w, i32_w]
            rfl
           refine pure_ (i := 21) (N := some 118) (v := ?_) (a' := ?_) spec_l08Bytes.b36 rfl rfl (any_of HT_.out (by kernel_rfl)) (fun _ _ _ h => h) (Or.inl ⟨by rfl, ?_⟩) ?_ ?_; rotate_left
           ·
            intro w'
            first
            | (go_simp; with_reducible rfl)
            | (simp only [ByteArray.size_append] at *; go_simp; with_reducible rfl)
           rotate_left
           ·
            simp only [Act.put, sA, sB, sC, i64_w, i32_w]
            rfl
           refine pT2 22 119 spec_l08Bytes.b37 ?_ hHeld; refine one_ (i := 7) (N := some 104) spec_l08Bytes.b38 rfl rfl (one_of HT_.out (by kernel_rfl)) (by decide) (fun K hK => ?_); refine gs Try.func56 #[.int .i64 ((rd_T48 l0_1 x8_2).f0)] ?_; with_reducible refine (spec_PutNum.calls k2 ((rd_T48 l0_1 x8_2).f0) t117 _ A54.out).mono ?_
           rintro e w62 ⟨rfl, hb⟩; refine ⟨_, rfl, ?_⟩; have _ := AM (nB BK101.out hb); have _ := AM (below_step (bX HB.out) hb); clear BK101 HB; rename_i BK101 HB; (try clear hb); (try clear hk); refine hK.out _ _ ⟨hC BK101.out 0, hC BK101.out 1, (pB HB.out hw116_0), (pB HB.out hw116_1), (pB HB.out hw116_2), (pB HB.out hw118_0), (pB HB.out hw118_1), (pB HB.out hw118_2), (pB HB.out hw120_0), (pB HB.out hw120_1), (pB HB.out hw120_2)⟩ (fun hHeld => ?_); clear hK K; refine norm_ (a' := ?_) ?_ ?_; rotate_left
           ·
            show Act.put _ (some 104) _ = _
            simp only [Act.put, sA, sB, sC, i64_w, i32_w]
            rfl
           refine pure_ (i := 8) (N := some 105) (v := ?_) (a' := ?_) spec_l08Bytes.b39 rfl rfl (any_of HT_.out (by kernel_rfl)) (fun _ _ _ h => h) (Or.inl ⟨by rfl, ?_⟩) ?_ ?_; rotate_left
           ·
            intro w'
            first
            | (go_simp; with_reducible rfl)
            | (simp only [ByteArray.size_append] at *; go_simp; with_reducible rfl)
           rotate_left
           ·
            simp only [Act.put, sA, sB, sC, i64_w, i32_w]
            rfl
           refine one_ (i := 15) (N := some 112) spec_l08Bytes.b40 rfl rfl (one_of HT_.out (by kernel_rfl)) (by decide) (fun K hK => ?_); refine gs Try.func56 #[.int .i64 ((rd_T48 l0_1 x8_2).f1)] ?_; with_reducible refine (spec_PutNum.calls k2 ((rd_T48 l0_1 x8_2).f1) t119 _ A56.out).mono ?_
           rintro e w63 ⟨rfl, hb⟩; refine ⟨_, rfl, ?_⟩; have _ := AM (nB BK101.out hb); have _ := AM (below_step (bX HB.out) hb); clear BK101 HB; rename_i BK101 HB; (try clear hb); (try clear hk); refine hK.out _ _ ⟨hC BK101.out 0, hC BK101.out 1, (pB HB.out hw116_0), (pB HB.out hw116_1), (pB HB.out hw116_2), (pB HB.out hw118_0), (pB HB.out hw118_1), (pB HB.out hw118_2), (pB HB.out hw120_0), (pB HB.out hw120_1), (pB HB.out hw120_2)⟩ (fun hHeld => ?_); clear hK K; refine norm_ (a' := ?_) ?_ ?_; rotate_left
           ·
            show Act.put _ (some 112) _ = _
            simp only [Act.put, sA, sB, sC, i64_w, i32_w]
            rfl
           refine pure_ (i := 16) (N := some 113) (v := ?_) (a' := ?_) (upTo 23 26) rfl rfl (any_of HT_.out (by kernel_rfl)) (fun _ _ _ h => h) (Or.inl ⟨by rfl, ?_⟩) ?_ ?_; rotate_left
           ·
            intro w'
            first
            | (go_simp; with_reducible rfl)
            | (simp only [ByteArray.size_append] at *; go_simp; with_reducible rfl)
           rotate_left
           ·
            simp only [Act.put, sA, sB, sC, i64_w, i32_w]
            rfl
           refine oU 23 120 (upTo 24 26) HT_.out (fun K hK => ?_); refine gs Try.func57 #[.string ((rd_T48 l0_1 x8_2).f2)] ?_; with_reducible refine (spec_PutText.calls k2 ((rd_T48 l0_1 x8_2).f2) t121 _ A58.out).mono ?_
           rintro e w64 ⟨rfl, hb⟩; refine ⟨_, rfl, ?_⟩; have _ := AM (nB BK101.out hb); have _ := AM (below_step (bX HB.out) hb); clear BK101 HB; rename_i BK101 HB; (try clear hb); (try clear hk); refine hK.out _ _ ⟨hC BK101.out 0, hC BK101.out 1, (pB HB.out hw116_0), (pB HB.out hw116_1), (pB HB.out hw116_2), (pB HB.out hw118_0), (pB HB.out hw118_1), (pB HB.out hw118_2), (pB HB.out hw120_0), (pB HB.out hw120_1), (pB HB.out hw120_2)⟩ (fun hHeld => ?_); clear hK K; refine norm_ (a' := ?_) ?_ ?_; rotate_left
           ·
            show Act.put _ (some 120) _ = _
            simp only [Act.put, sA, sB, sC, i64_w, i32_w]
            rfl
           refine pure_ (i := 24) (N := some 121) (v := ?_) (a' := ?_) (upTo 25 26) rfl rfl (any_of HT_.out (by kernel_rfl)) (fun _ _ _ h => h) (Or.inl ⟨by rfl, ?_⟩) ?_ ?_; rotate_left
           ·
            intro w'
            first
            | (go_simp; with_reducible rfl)
            | (simp only [ByteArray.size_append] at *; go_simp; with_reducible rfl)
           rotate_left
           ·
            simp only [Act.put, sA, sB, sC, i64_w, i32_w]
            rfl
           refine pure_ (i := 25) (N := some 3) (v := ?_) (a' := ?_) (upTo 26 26) rfl rfl (any_of HT_.out (by kernel_rfl)) (fun _ _ _ h => h) (Or.inl ⟨by rfl, ?_⟩) ?_ ?_; rotate_left
           ·
            intro w'
            first
            | (go_simp; with_reducible rfl)
            | (simp only [ByteArray.size_append] at *; go_simp; with_reducible rfl)
           rotate_left
           ·
            simp only [Act.put, sA, sB, sC, i64_w, i32_w]
            rfl
           refine done_ (done_of HT_.out (by kernel_rfl)) ?_; try go_wp2
           go_roundg k2
           case measure => have := HK1.out; have := HK2.out; omega
           case rel => exact ⟨(((x3_2 ++ t117) ++ t119) ++ t121), (wrap64 (x8_2 + 1)), (by first | rfl | (simp; done) | (simp [*]; done)), (by first | rfl | (simp; done) | (simp [*]; done)), H', ⟨by have := HK1.out; have := HK2.out; omega⟩, ⟨kX BK101.out⟩, ⟨bX HB.out⟩⟩
          rw [if_neg c59] at H; exact absurd H (by simp)
         rw [if_neg c57] at H; exact absurd H (by simp)
        rw [if_neg c55] at H; exact absurd H (by simp)
       rw [if_neg c53] at H; exact absurd H (by simp)
      rw [if_neg c52] at H; have c52b0 := dN c52; clear c52; obtain rfl := Option.some.inj H; have hcz65 := q2 BK101.out; have hfz65 := fZ BK101.out; go_wp2
      go_ret
      exact ⟨by first | rfl | (simp [*, errW_none, errW_some] <;> rfl), bX HB.out⟩
   rw [if_neg c49] at H; exact absurd H (by simp)

/-! ### spec_BrokerBytes: function 13 -/

def spec_BrokerBytes.f (k : Nat) (l0_0 : List (S44)) (l0_1 : List (S48)) : Option (ByteArray) := (spec_BrokerRight.f k l0_0 l0_1).bind fun t102 => (if t102 = true then ((spec_l08Bytes.f k l0_0 l0_1).bind fun t103 => (some t103)) else (some (⟨#[]⟩ : ByteArray)))
theorem spec_BrokerBytes.mono : ∀ a0 a1 k, LeO (spec_BrokerBytes.f k a0 a1) (spec_BrokerBytes.f (k + 1) a0 a1) := by
  intro a0 a1 k; unfold spec_BrokerBytes.f
  repeat' first | (with_reducible first | exact spec_BrokerRight.mono _ _ _ | exact spec_l08Bytes.mono _ _ _ | exact oR _ | exact oN _ | refine oI ?_ ?_ | refine oB ?_ fun _ => ?_) | exact spec_BrokerRight.mono _ _ _ | exact spec_l08Bytes.mono _ _ _ | exact oN _ | refine oI ?_ ?_ | refine oB ?_ fun _ => ?_
set_option maxHeartbeats 60000000 in
set_option maxRecDepth 100000 in
theorem spec_BrokerBytes.calls (k : Nat) (A0_0 : Option Addr) (c0_0 : Nat) (l0_0 : List (S44)) (A0_1 : Option Addr) (c0_1 : Nat) (l0_1 : List (S48)) (r : ByteArray) (w : World) (hr0_0 : Kd.C k44 w A0_0 l0_0.length l0_0) (hc0_0 : l0_0.length ≤ c0_0) (hr0_1 : Kd.C k48 w A0_1 l0_1.length l0_1) (hc0_1 : l0_1.length ≤ c0_1) (h : spec_BrokerBytes.f k l0_0 l0_1 = some r) :
    Calls Try.prog 13 #[.agg #[.slice A0_0 l0_0.length c0_0, .slice A0_1 l0_1.length c0_1]] w fun e w' => e = .returned (.string r) ∧ Below w.heap.size w w' := by
 have hu25 := Try.underlying25; have HR0_0 := AM hr0_0; have HC0_0 := AM hc0_0; clear hr0_0 hc0_0; have HR0_1 := AM hr0_1; have HC0_1 := AM hc0_1; clear hr0_1 hc0_1; have HB := AM (Below.refl w.heap.size w); have H : ((spec_BrokerRight.f k l0_0 l0_1).bind fun t102 => (if t102 = true then ((spec_l08Bytes.f k l0_0 l0_1).bind fun t103 => (some t103)) else (some (⟨#[]⟩ : ByteArray)))) = some r := h; clear h; replace H := oM H; obtain ⟨t102, A20, H⟩ := H; have A2 := AM A20; clear A20; by_cases c3 : t102 = true
 ·
  subst c3; rw [if_pos rfl] at H; replace H := oM H; obtain ⟨t103, A40, H⟩ := H; have A4 := AM A40; clear A40; obtain rfl := Option.some.inj H; go_enter Try.func13, Try.ntmps13
  go_wp2_with (first | ((with_reducible refine gate_dst (N := 1) rfl ?_); refine bE (cs := #[.slice A0_0 l0_0.length c0_0, .slice A0_1 l0_1.length c0_1]) (t := 25) ?_; intro gb101 hg w5 hbox hb; have _ := AM (below_step (bX HB.out) hb); have _ := AM (hbox); have n2_ := AM (gZ hg (bZ (bX HB.out))); clear HB; rename_i HB BK101; have GW101 := n2_; have GE101 := n2_; clear n2_; clear hb hbox hg; have hcz6 := q2 BK101.out; have hfz6 := fZ BK101.out) | ((with_reducible refine gate_callee (f := 29) rfl ?_); refine gL (some 4) Try.func29 #[.agg #[.slice A0_0 l0_0.length c0_0, .slice A0_1 l0_1.length c0_1]] ?_; (with_reducible refine (spec_BrokerRight.calls k _ _ l0_0 _ _ l0_1 true _ ?side1 ?side2 ?side3 ?side4 A2.out).mono ?_); (case side1 => exact cX (cB HR0_0.out HB.out)); (case side2 => exact HC0_0.out); (case side3 => exact cX (cB HR0_1.out HB.out)); (case side4 => exact HC0_1.out); rintro e w7 ⟨rfl, hb⟩; refine ⟨_, rfl, ?_⟩; have _ := AM (nB BK101.out hb); have _ := AM (below_step (bX HB.out) hb); clear BK101 HB; rename_i BK101 HB; (try clear hb); (try clear hk); have hcz8 := q2 BK101.out; have hfz8 := fZ BK101.out) | ((with_reducible refine gate_callee (f := 30) rfl ?_); refine gL (some 7) Try.func30 #[.agg #[.slice A0_0 l0_0.length c0_0, .slice A0_1 l0_1.length c0_1]] ?_; (with_reducible refine (spec_l08Bytes.calls k _ _ l0_0 _ _ l0_1 t103 _ ?side1 ?side2 ?side3 ?side4 A4.out).mono ?_); (case side1 => exact cX (cB HR0_0.out HB.out)); (case side2 => exact HC0_0.out); (case side3 => exact cX (cB HR0_1.out HB.out)); (case side4 => exact HC0_1.out); rintro e w9 ⟨rfl, hb⟩; refine ⟨_, rfl, ?_⟩; have _ := AM (nB BK101.out hb); have _ := AM (below_step (bX HB.out) hb); clear BK101 HB; rename_i BK101 HB; (try clear hb); (try clear hk)))
  go_ret
  exact ⟨by first | rfl | (simp [*, errW_none, errW_some] <;> rfl), bX HB.out⟩
 replace c3 := oE c3; subst c3; rw [if_neg nft] at H; obtain rfl := Option.some.inj H; go_enter Try.func13, Try.ntmps13
 go_wp2_with (first | ((with_reducible refine gate_dst (N := 1) rfl ?_); refine bE (cs := #[.slice A0_0 l0_0.length c0_0, .slice A0_1 l0_1.length c0_1]) (t := 25) ?_; intro gb101 hg w10 hbox hb; have _ := AM (below_step (bX HB.out) hb); have _ := AM (hbox); have n2_ := AM (gZ hg (bZ (bX HB.out))); clear HB; rename_i HB BK101; have GW101 := n2_; have GE101 := n2_; clear n2_; clear hb hbox hg; have hcz11 := q2 BK101.out; have hfz11 := fZ BK101.out) | ((with_reducible refine gate_callee (f := 29) rfl ?_); refine gL (some 4) Try.func29 #[.agg #[.slice A0_0 l0_0.length c0_0, .slice A0_1 l0_1.length c0_1]] ?_; (with_reducible refine (spec_BrokerRight.calls k _ _ l0_0 _ _ l0_1 false _ ?side1 ?side2 ?side3 ?side4 A2.out).mono ?_); (case side1 => exact cX (cB HR0_0.out HB.out)); (case side2 => exact HC0_0.out); (case side3 => exact cX (cB HR0_1.out HB.out)); (case side4 => exact HC0_1.out); rintro e w12 ⟨rfl, hb⟩; refine ⟨_, rfl, ?_⟩; have _ := AM (nB BK101.out hb); have _ := AM (below_step (bX HB.out) hb); clear BK101 HB; rename_i BK101 HB; (try clear hb); (try clear hk)))
 go_ret
 exact ⟨by first | rfl | (simp [*, errW_none, errW_some] <;> rfl), bX HB.out⟩

end Go.Proofs.Ytcaildjhnkedfaa.Q
