/- Printed by a program of this session (wip/mp.py over the kit's print.py): functions of the translation as plain Lean functions, and that the machine's calls do what these say. -/
import Derived.Test.YtgpgamapopnfcaaDoorQx0
import Derived.Test.YtgpgamapopnfcaaDoorQx1
import Derived.Test.YtgpgamapopnfcaaDoorQx12
namespace Go.Proofs.YtgpgamapopnfcaaDoor.Q
open Go.RowKit Go.Proofs.YtgpgamapopnfcaaDoor.HB Go.Proofs.YtgpgamapopnfcaaDoorW.PrintWords Go.Proofs.YtgpgamapopnfcaaDoorW.PrintLast Go.Proofs.YtgpgamapopnfcaaDoorW.PrintMore
attribute [local go_sem] max2_int min2_int max_two min_two max_three min_three max_four min_four   -- for this text's walks alone
set_option linter.unusedVariables false
set_option linter.unusedSimpArgs false

/-! ### impl_Vector: function 10 -/

mutual
def impl_Vector.j0 : Nat → ByteArray → Int → ByteArray → Bool → Option (List ByteArray)
  | 0, _, _, _, _ => none
  | k + 1, x0, x1, x2, x21 => if x21 = true then (some ([] : List ByteArray)) else (if 4 ≤ 17592186044416 then (impl_Vector.l0 k x0 x1 x2 (List.replicate 4 (⟨#[]⟩ : ByteArray)) 0) else (none))
def impl_Vector.l0 : Nat → ByteArray → Int → ByteArray → List ByteArray → Int → Option (List ByteArray)
  | 0, _, _, _, _, _ => none
  | k + 1, x0, x1, x2, x7, x23 => if x23 < 4 then (if x23 = x1 then (impl_Vector.l0 k x0 x1 x2 x7 (wrap64 (x23 + 1))) else ((impl_shortMac.f k x0 x1 x23 x2).bind fun t106 => (if 0 ≤ x23 then (if x23 < (x7.length : Int) then (impl_Vector.l0 k x0 x1 x2 (x7.set (x23 : Int).toNat t106) (wrap64 (x23 + 1))) else (none)) else (none)))) else (some x7)
end
def impl_Vector.f (k : Nat) (a0 : ByteArray) (a1 : Int) (a2 : ByteArray) : Option (List ByteArray) := (impl_isSecret.f a0).bind fun t101 => (if t101 = true then ((impl_isReplica.f a1).bind fun t102 => (if t102 = true then (impl_Vector.j0 k a0 a1 a2 (decide ((a2.size : Int) > 20000))) else (impl_Vector.j0 k a0 a1 a2 true))) else (impl_Vector.j0 k a0 a1 a2 true))
theorem impl_Vector.mono_l : ∀ k, (∀ y0 y1 y2 y3, LeO (impl_Vector.j0 k y0 y1 y2 y3) (impl_Vector.j0 (k + 1) y0 y1 y2 y3)) ∧ (∀ y0 y1 y2 y3 y4, LeO (impl_Vector.l0 k y0 y1 y2 y3 y4) (impl_Vector.l0 (k + 1) y0 y1 y2 y3 y4))
  | 0 => ⟨fun _ _ _ _ r h => by simp [impl_Vector.j0] at h, fun _ _ _ _ _ r h => by simp [impl_Vector.l0] at h⟩
  | k + 1 => by
    obtain ⟨ih0, ih1⟩ := impl_Vector.mono_l k
    refine ⟨?_, ?_⟩
    · intro y0 y1 y2 y3
      unfold impl_Vector.j0
      repeat' first
      | (with_reducible exact ih0 _ _ _ _)
      | (with_reducible exact ih1 _ _ _ _ _)
      | (with_reducible exact impl_shortMac.mono _ _ _ _ _)
      | (with_reducible exact LeO.refl _)
      | (with_reducible exact LeO.none _)
      | (with_reducible refine LeO.ite ?_ ?_)
      | (with_reducible refine LeO.bind ?_ (fun _ => ?_))
      | exact ih0 _ _ _ _
      | exact ih1 _ _ _ _ _
      | exact impl_shortMac.mono _ _ _ _ _
      | exact LeO.none _
      | refine LeO.ite ?_ ?_
      | refine LeO.bind ?_ (fun _ => ?_)
    · intro y0 y1 y2 y3 y4
      unfold impl_Vector.l0
      repeat' first
      | (with_reducible exact ih0 _ _ _ _)
      | (with_reducible exact ih1 _ _ _ _ _)
      | (with_reducible exact impl_shortMac.mono _ _ _ _ _)
      | (with_reducible exact LeO.refl _)
      | (with_reducible exact LeO.none _)
      | (with_reducible refine LeO.ite ?_ ?_)
      | (with_reducible refine LeO.bind ?_ (fun _ => ?_))
      | exact ih0 _ _ _ _
      | exact ih1 _ _ _ _ _
      | exact impl_shortMac.mono _ _ _ _ _
      | exact LeO.none _
      | refine LeO.ite ?_ ?_
      | refine LeO.bind ?_ (fun _ => ?_)
theorem impl_Vector.mono : ∀ a0 a1 a2 k, LeO (impl_Vector.f k a0 a1 a2) (impl_Vector.f (k + 1) a0 a1 a2) := by
  intro a0 a1 a2 k
  obtain ⟨ih0, ih1⟩ := impl_Vector.mono_l k
  unfold impl_Vector.f
  repeat' first
      | (with_reducible exact ih0 _ _ _ _)
      | (with_reducible exact ih1 _ _ _ _ _)
      | (with_reducible exact impl_shortMac.mono _ _ _ _ _)
      | (with_reducible exact LeO.refl _)
      | (with_reducible exact LeO.none _)
      | (with_reducible refine LeO.ite ?_ ?_)
      | (with_reducible refine LeO.bind ?_ (fun _ => ?_))
      | exact ih0 _ _ _ _
      | exact ih1 _ _ _ _ _
      | exact impl_shortMac.mono _ _ _ _ _
      | exact LeO.none _
      | refine LeO.ite ?_ ?_
      | refine LeO.bind ?_ (fun _ => ?_)
set_option maxHeartbeats 60000000 in
set_option maxRecDepth 100000 in
theorem impl_Vector.calls (k : Nat) (a0 : ByteArray) (a1 : Int) (a2 : ByteArray) (r : List ByteArray) (w : World) (hT : Tab w) (h : impl_Vector.f k a0 a1 a2 = some r) :
    Calls Tryd.prog 10 #[.string a0, .int .i64 a1, .string a2] w fun e w' => ∃ v0_ : Value, e = .returned (v0_) ∧ Kd.R Kd.string 9 w' w.heap.size (fun _ => True) v0_ r ∧ Below w.heap.size w w' := by
 have TAB := AM hT
 clear hT
 have HB := AM (Below.refl w.heap.size w)
 have H : ((impl_isSecret.f a0).bind fun t101 => (if t101 = true then ((impl_isReplica.f a1).bind fun t102 => (if t102 = true then (impl_Vector.j0 k a0 a1 a2 (decide ((a2.size : Int) > 20000))) else (impl_Vector.j0 k a0 a1 a2 true))) else (impl_Vector.j0 k a0 a1 a2 true))) = some r := h
 clear h
 have HC4 := AM H
 clear H
 go_enter Tryd.func10, Tryd.ntmps10
 go_upto_region 1 with (fail)
 go_cut [21] (fun v21 wc => ∃ (kq : Nat) (x21_3 : Bool), v21 = .bool x21_3 ∧ Aside0 (impl_Vector.j0 kq a0 a1 a2 x21_3 = some r) ∧ Aside0 (kq ≤ k) ∧ Aside0 (Below w.heap.size w wc))
 case first =>
  have H := HC4.out
  clear HC4
  replace H := Option.bind_eq_some_iff.mp H
  obtain ⟨t101, A50, H⟩ := H
  replace H : (if t101 = true then ((impl_isReplica.f a1).bind fun t102 => (if t102 = true then (impl_Vector.j0 k a0 a1 a2 (decide ((a2.size : Int) > 20000))) else (impl_Vector.j0 k a0 a1 a2 true))) else (impl_Vector.j0 k a0 a1 a2 true)) = some r := H
  have A5 := AM A50
  clear A50
  by_cases c6 : t101 = true
  ·
   subst c6
   have H1 : ((impl_isReplica.f a1).bind fun t102 => (if t102 = true then (impl_Vector.j0 k a0 a1 a2 (decide ((a2.size : Int) > 20000))) else (impl_Vector.j0 k a0 a1 a2 true))) = some r := by rw [if_pos rfl] at H; exact H
   clear H
   have H := H1
   clear H1
   replace H := Option.bind_eq_some_iff.mp H
   obtain ⟨t102, A70, H⟩ := H
   replace H : (if t102 = true then (impl_Vector.j0 k a0 a1 a2 (decide ((a2.size : Int) > 20000))) else (impl_Vector.j0 k a0 a1 a2 true)) = some r := H
   have A7 := AM A70
   clear A70
   by_cases c8 : t102 = true
   ·
    subst c8
    have H1 : (impl_Vector.j0 k a0 a1 a2 (decide ((a2.size : Int) > 20000))) = some r := by rw [if_pos rfl] at H; exact H
    clear H
    have H := H1
    clear H1
    have H' := AM H
    clear H
    go_wp2_with (first | ((with_reducible refine gate_callee (f := 33) rfl ?_); refine goesL_ (some 10) rfl rfl Tryd.func33 (by kernel_rfl) rfl #[.string a0] rfl (by (try simp only [mA, mB, mC]); first | done | rfl | (simp only [mD, mE]; rfl)) ?_; (with_reducible refine (impl_isSecret.calls a0 true _ A5.out).mono ?_); rintro e w' ⟨rfl, ⟨nd, rfl⟩⟩; refine ⟨_, rfl, ?_⟩) | (go_at_call 34; (with_reducible refine (impl_isReplica.calls a1 true _ A7.out).mono ?_); rintro e w' ⟨rfl, ⟨nd, rfl⟩⟩))
    go_meet
    case rel => exact ⟨_, (decide ((a2.size : Int) > 20000)), (by first | rfl | (simp; done) | (simp [*]; done)), H', ⟨by first | omega | exact Nat.le_refl _⟩, ⟨bX HB.out⟩⟩
   replace c8 := Bool.eq_false_iff.mpr c8
   subst c8
   have H1 : (impl_Vector.j0 k a0 a1 a2 true) = some r := by rw [if_neg (show ¬ (false = true) by decide)] at H; exact H
   clear H
   have H := H1
   clear H1
   have H' := AM H
   clear H
   go_wp2_with (first | ((with_reducible refine gate_callee (f := 33) rfl ?_); refine goesL_ (some 10) rfl rfl Tryd.func33 (by kernel_rfl) rfl #[.string a0] rfl (by (try simp only [mA, mB, mC]); first | done | rfl | (simp only [mD, mE]; rfl)) ?_; (with_reducible refine (impl_isSecret.calls a0 true _ A5.out).mono ?_); rintro e w' ⟨rfl, ⟨nd, rfl⟩⟩; refine ⟨_, rfl, ?_⟩) | (go_at_call 34; (with_reducible refine (impl_isReplica.calls a1 false _ A7.out).mono ?_); rintro e w' ⟨rfl, ⟨nd, rfl⟩⟩))
   go_meet
   case rel => exact ⟨_, (true), (by first | rfl | (simp; done) | (simp [*]; done)), H', ⟨by first | omega | exact Nat.le_refl _⟩, ⟨bX HB.out⟩⟩
  replace c6 := Bool.eq_false_iff.mpr c6
  subst c6
  have H1 : (impl_Vector.j0 k a0 a1 a2 true) = some r := by rw [if_neg (show ¬ (false = true) by decide)] at H; exact H
  clear H
  have H := H1
  clear H1
  have H' := AM H
  clear H
  go_wp2_with (first | ((with_reducible refine gate_callee (f := 33) rfl ?_); refine goesL_ (some 10) rfl rfl Tryd.func33 (by kernel_rfl) rfl #[.string a0] rfl (by (try simp only [mA, mB, mC]); first | done | rfl | (simp only [mD, mE]; rfl)) ?_; (with_reducible refine (impl_isSecret.calls a0 false _ A5.out).mono ?_); rintro e w' ⟨rfl, ⟨nd, rfl⟩⟩; refine ⟨_, rfl, ?_⟩))
  go_meet
  case rel => exact ⟨_, (true), (by first | rfl | (simp; done) | (simp [*]; done)), H', ⟨by first | omega | exact Nat.le_refl _⟩, ⟨bX HB.out⟩⟩
 case rest =>
  clear HC4
  (try clear c1); (try clear p2); (try clear c3); (try clear c6); (try clear c8)
  obtain ⟨kq, x21_3, rfl, HA, HJ3, HB⟩ := hcut
  cases kq with
  | zero => exact absurd HA.out (by simp [impl_Vector.j0])
  | succ kj3 =>
   have H := HA.out
   clear HA
   simp only [impl_Vector.j0] at H
   by_cases c9 : x21_3 = true
   ·
    subst c9
    have H1 : (some ([] : List ByteArray)) = some r := by rw [if_pos rfl] at H; exact H
    clear H
    have H := H1
    clear H1
    obtain rfl := Option.some.inj H
    go_wp2
    go_ret
    exact ⟨_, by first | rfl | (simp [*, errW_none, errW_some] <;> rfl), by first | exact Kd.R_nil _ _ _ _ _ | exact Kd.N_nil _ _ _ _ _ | exact Kd.V_nil _ _ _ _ _ | exact Kd.Q_nil _ _ _ _ _ | exact Kd.S_nil _ _ _ _ _, bX HB.out⟩
   replace c9 := Bool.eq_false_iff.mpr c9
   subst c9
   have H1 : (if 4 ≤ 17592186044416 then (impl_Vector.l0 kj3 a0 a1 a2 (List.replicate 4 (⟨#[]⟩ : ByteArray)) 0) else (none)) = some r := by rw [if_neg (show ¬ (false = true) by decide)] at H; exact H
   clear H
   have H := H1
   clear H1
   by_cases c10 : 4 ≤ 17592186044416
   ·
    rw [if_pos c10] at H
    have c10b0 := eq_true c10
    have c10b1 : decide (4 ≤ 17592186044416) = true := decide_eq_true c10
    clear c10
    obtain ⟨y103, hy103⟩ : ∃ y_ : List ByteArray, y_ = (List.replicate 4 (⟨#[]⟩ : ByteArray)) := ⟨_, rfl⟩
    replace H : (impl_Vector.l0 kj3 a0 a1 a2 y103 0) = some r := by first | (rw [hy103]; with_reducible exact H) | (have H2_ := (Option.bind_some _ _).symm.trans H; rw [hy103]; with_reducible exact H2_) | (have H2_ := (Option.bind_some _ _).symm.trans H; with_reducible exact H2_) | with_reducible exact H | (rw [hy103]; exact H) | exact H
    have Ny103 := AM hy103
    clear hy103
    have H' := AM H
    clear H
    go_wp2_with (first | ((with_reducible refine gate_dst (N := 22) rfl ?_); (try (refine gate_guard (by rfl) ?_; dsimp only)); refine Kd.R_make Kd.string _ 9 rfl (N := 22) rfl 24 _ _ rfl 4 rfl rfl Tryd.underlying24 (.string ⟨#[]⟩) 16 info9 rfl (by decide) (by omega) (⟨#[]⟩ : ByteArray) (ok := fun _ => True) (okp := fun _ => True) rfl (fun _ hk => hk) trivial (by omega) (by omega) (Below.refl _ _) (Nat.le_refl _) ?_; intro v104 w11 ho12 hb hg_ hnew_; clear hg_ hnew_; (first | rw [← Ny103.out] at ho12 | (simp only [Int.reduceToNat] at ho12; rw [← Ny103.out] at ho12)); have _ := AM (Kd.R_lower ho12 (bZ (bX HB.out))); have _ := AM (below_step (bX HB.out) hb); clear HB; rename_i HO105 HB; clear hb ho12))
    go_loopg [23] kj3 (fun kq v23 w' => ∃ (x7_2 : List ByteArray) (x23_2 : Int), v23 = .int .i64 x23_2 ∧ Aside0 (impl_Vector.l0 kq a0 a1 a2 x7_2 x23_2 = some r) ∧ Aside0 (kq ≤ kj3) ∧ Aside0 (Kd.R Kd.string 9 w' w.heap.size (fun _ => True) v104 x7_2) ∧ Aside0 (Below w.heap.size w w'))
    case atStart => exact ⟨(y103), (0), (by first | rfl | (simp; done) | (simp [*]; done)), H', ⟨Nat.le_refl _⟩, ⟨rX HO105.out⟩, ⟨bX HB.out⟩⟩
    case round =>
     clear H'
     (try clear c1); (try clear p2); (try clear c3); (try clear c6); (try clear c8); (try clear c9); (try clear c10); (try clear c10b0); (try clear c10b1)
     obtain ⟨x7_2, x23_2, rfl, HA, HK2, HO_7, HB⟩ := hrel
     cases gk with
     | zero => exact absurd HA.out (by simp [impl_Vector.l0])
     | succ k2 =>
      have H := HA.out
      clear HA
      simp only [impl_Vector.l0] at H
      by_cases c13 : x23_2 < 4
      ·
       rw [if_pos c13] at H
       have c13b0 : decide (x23_2 < 4) = true := decide_eq_true c13
       clear c13
       by_cases c14 : x23_2 = a1
       ·
        rw [if_pos c14] at H
        have c14b0 : (x23_2 == a1) = true := beq_iff_eq.mpr c14
        have c14b1 : (x23_2 != a1) = false := bne_eq_false_iff_eq.mpr c14
        clear c14
        have H' := AM H
        clear H
        go_wp2
        go_roundg k2
        case measure => have := HJ3.out; have := HK2.out; omega
        case rel => exact ⟨(x7_2), (wrap64 (x23_2 + 1)), (by first | rfl | (simp; done) | (simp [*]; done)), H', ⟨by have := HJ3.out; have := HK2.out; omega⟩, ⟨rX HO_7.out⟩, ⟨bX HB.out⟩⟩
       rw [if_neg c14] at H
       have c14b0 : (x23_2 == a1) = false := beq_eq_false_iff_ne.mpr c14
       have c14b1 : (x23_2 != a1) = true := bne_iff_ne.mpr c14
       replace H := Option.bind_eq_some_iff.mp H
       obtain ⟨t106, A150, H⟩ := H
       replace H : (if 0 ≤ x23_2 then (if x23_2 < (x7_2.length : Int) then (impl_Vector.l0 k2 a0 a1 a2 (x7_2.set (x23_2 : Int).toNat t106) (wrap64 (x23_2 + 1))) else (none)) else (none)) = some r := H
       have A15 := AM A150
       clear A150
       by_cases c16 : 0 ≤ x23_2
       ·
        rw [if_pos c16] at H
        have c16b0 : decide (0 ≤ x23_2) = true := decide_eq_true c16
        clear c16
        by_cases c17 : x23_2 < (x7_2.length : Int)
        ·
         rw [if_pos c17] at H
         have c17b0 : decide (x23_2 < (x7_2.length : Int)) = true := decide_eq_true c17
         clear c17
         obtain ⟨y107, hy107⟩ : ∃ y_ : List ByteArray, y_ = (x7_2.set (x23_2 : Int).toNat t106) := ⟨_, rfl⟩
         replace H : (impl_Vector.l0 k2 a0 a1 a2 y107 (wrap64 (x23_2 + 1))) = some r := by first | (rw [hy107]; with_reducible exact H) | (have H2_ := (Option.bind_some _ _).symm.trans H; rw [hy107]; with_reducible exact H2_) | (have H2_ := (Option.bind_some _ _).symm.trans H; with_reducible exact H2_) | with_reducible exact H | (rw [hy107]; exact H) | exact H
         have Ny107 := AM hy107
         clear hy107
         have H' := AM H
         clear H
         go_wp2_with (first | ((with_reducible refine gate_callee (f := 37) rfl ?_); refine goesL_ (some 35) rfl rfl Tryd.func37 (by kernel_rfl) rfl #[.string a0, .int .i64 a1, .int .i64 x23_2, .string a2] rfl (by (try simp only [mA, mB, mC]); first | done | rfl | (simp only [mD, mE]; rfl)) ?_; (with_reducible refine (impl_shortMac.calls k2 a0 a1 x23_2 a2 t106 _ ?sideT A15.out).mono ?_); (case sideT => exact tabB TAB.out (bX HB.out)); rintro e w19 ⟨rfl, hb⟩; refine ⟨_, rfl, ?_⟩; have _ := AM (Kd.R_below (rX HO_7.out) hb); have _ := AM (below_step (bX HB.out) hb); clear HO_7 HB; rename_i HO_7 HB; (try clear hb); (try clear hk); have p18 : 0 ≤ (x23_2 : Int) := of_decide_eq_true (by assumption); have q18 : (x23_2 : Int) < ((x7_2.length : Int) : Int) := of_decide_eq_true (by assumption); obtain ⟨go18, co18, eo18, gb18, gl18, cl18, HG18⟩ := Kd.R_form HO_7.out (by omega); (first | cases eo18 | (injection eo18 with ea_ en_ ec_; (first | subst ea_ | (injection ea_ with ea_; subst ea_)); subst ec_; clear en_)); have GB18 := AM gb18; have GG18 := AM HG18; clear gb18 gl18 HG18; obtain ⟨hx18_0, hf18_0⟩ := Kd.R_celln (⟨#[]⟩ : ByteArray) HO_7.out (x23_2 : Int) p18 q18; replace p18 := eq_true p18; replace q18 := eq_true q18; obtain ⟨hy20_, hz20_⟩ := Kd.R_celln (⟨#[]⟩ : ByteArray) HO_7.out (x23_2 : Int) (of_decide_eq_true (by assumption)) (of_decide_eq_true (by assumption)); have HP20 := Kd.R_putg HO_7.out (x23_2 : Int) t106) | ((with_reducible refine gate_store (t := 9) (p := 36) rfl ?_); refine store_event (t := 9) (p := 36) (v := ?vo_w21) (w1 := (w19.setCell ⟨go18, (x23_2 : Int).toNat, none⟩ (.string t106))) ?hg ?ho ?hn ?hr ?_; (case ho => rfl); (case hg => rfl); (case hn => rfl); (case hr => first | (go_simp; done) | (go_simp; rfl)); intro w21 hw; have hg : w19.grownBy w21 (some go18) := (by rw [hw]; exact HP20.2); have hp_ : Kd.R Kd.string 9 w21 w.heap.size (fun _ => True) (.slice (some ⟨go18, 0, none⟩) x7_2.length co18) y107 := (by rw [hw, Ny107.out]; exact HP20.1); clear HP20; have _ := AM (hp_); have _ := AM ((by rw [hw]; exact bS (HB.out) GB18.out : Below w.heap.size w w21)); clear HO_7 HB; rename_i HO_7 HB; clear hg hw hp_))
         go_roundg k2
         case measure => have := HJ3.out; have := HK2.out; omega
         case rel => exact ⟨(y107), (wrap64 (x23_2 + 1)), (by first | rfl | (simp; done) | (simp [*]; done)), H', ⟨by have := HJ3.out; have := HK2.out; omega⟩, ⟨rX HO_7.out⟩, ⟨bX HB.out⟩⟩
        rw [if_neg c17] at H
        exact absurd H (by simp)
       rw [if_neg c16] at H
       exact absurd H (by simp)
      rw [if_neg c13] at H
      have c13b0 : decide (x23_2 < 4) = false := decide_eq_false c13
      clear c13
      obtain rfl := Option.some.inj H
      go_wp2
      go_ret
      exact ⟨_, by first | rfl | (simp [*, errW_none, errW_some] <;> rfl), rX HO_7.out, bX HB.out⟩
   rw [if_neg c10] at H
   exact absurd H (by simp)

end Go.Proofs.YtgpgamapopnfcaaDoor.Q
