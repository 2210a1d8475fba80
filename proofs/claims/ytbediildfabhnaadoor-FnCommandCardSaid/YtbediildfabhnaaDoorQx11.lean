/- Printed by a program of this session (wip/mp.py over the kit's print.py): functions of the translation as plain Lean functions, and that the machine's calls do what these say. -/
import Derived.Test.YtbediildfabhnaaDoorQx0
import Derived.Test.YtbediildfabhnaaDoorQx1
import Derived.Test.YtbediildfabhnaaDoorQx4
import Derived.Test.YtbediildfabhnaaDoorQx5
import Derived.Test.YtbediildfabhnaaDoorQx6
import Derived.Test.YtbediildfabhnaaDoorQx7
import Derived.Test.YtbediildfabhnaaDoorQx8
import Derived.Test.YtbediildfabhnaaDoorQx10
namespace Go.Proofs.YtbediildfabhnaaDoor.Q
open Go.RowKit Go.Proofs.YtbediildfabhnaaDoor.HB Go.Proofs.YtbediildfabhnaaDoorW.PrintWords Go.Proofs.YtbediildfabhnaaDoorW.PrintLast Go.Proofs.YtbediildfabhnaaDoorW.PrintMore
attribute [local go_sem] max2_int min2_int max_two min_two max_three min_three max_four min_four   -- for this text's walks alone
set_option linter.unusedVariables false
set_option linter.unusedSimpArgs false

attribute [local go_sem high] eqA31
/-! ### impl_CommandName: function 10 (by hand) -/
def impl_CommandName_t (a0 : Int) : ByteArray := if a0 = 1 then ⟨#[99, 114, 101, 97, 116, 101]⟩ else if a0 = 2 then ⟨#[100, 101, 108, 101, 116, 101]⟩ else if a0 = 3 then ⟨#[112, 117, 98, 108, 105, 115, 104]⟩ else if a0 = 4 then ⟨#[102, 101, 116, 99, 104]⟩ else if a0 = 5 then ⟨#[97, 99, 107]⟩ else if a0 = 6 then ⟨#[115, 101, 101, 107]⟩ else ⟨#[114, 101, 116, 97, 105, 110]⟩
def impl_CommandName.f (a0 : Int) : Option ByteArray := (impl_within.f a0 1 7).bind fun t1 => if t1 = true then (if 1 ≤ a0 then if a0 ≤ 7 then some (impl_CommandName_t a0) else none else none) else some ⟨#[]⟩
set_option maxHeartbeats 4000000 in
set_option maxRecDepth 100000 in
theorem impl_CommandName.calls (a0 : Int) (r : ByteArray) (w : World) (hT : Tab w) (h : impl_CommandName.f a0 = some r) : Calls Tryd.prog 10 #[.int .i64 a0] w fun e w' => e = .returned (.string r) ∧ Drawn0 w w' := by
  have hu43 := Tryd.underlying43
  obtain ⟨ty, hb⟩ := hT
  have BK := Aside0.mk hb
  have HH := Aside0.mk h
  clear hb h
  obtain ⟨t1, A1, HH⟩ : ∃ t1, Aside0 (impl_within.f a0 1 7 = some t1) ∧ Aside0 ((if t1 = true then (if 1 ≤ a0 then if a0 ≤ 7 then some (impl_CommandName_t a0) else none else none) else some ⟨#[]⟩) = some r) := by
    have := HH.out; unfold impl_CommandName.f at this
    obtain ⟨t1, h1, h2⟩ := Option.bind_eq_some_iff.mp this
    exact ⟨t1, ⟨h1⟩, ⟨h2⟩⟩
  cases t1 with
  | false =>
    have E1 : Aside0 (⟨#[]⟩ = r) := ⟨by have := HH.out; rw [if_neg (by decide)] at this; exact Option.some.inj this⟩
    clear HH
    go_enter Tryd.func10, Tryd.ntmps10
    go_wp2_with (first | (go_at_call 26; (with_reducible refine (impl_within.calls a0 1 7 false _ A1.out).mono ?_); rintro e w' ⟨rfl, ⟨nd, rfl⟩⟩))
    go_ret
    exact ⟨by rw [E1.out]; rfl, _, rfl⟩
  | true =>
    obtain ⟨l0, l1, E1⟩ : 1 ≤ a0 ∧ a0 ≤ 7 ∧ Aside0 (impl_CommandName_t a0 = r) := by
      have := HH.out; rw [if_pos rfl] at this
      by_cases l : 1 ≤ a0
      · rw [if_pos l] at this
        by_cases m : a0 ≤ 7
        · rw [if_pos m] at this
          exact ⟨l, m, ⟨Option.some.inj this⟩⟩
        · rw [if_neg m] at this; cases this
      · rw [if_neg l] at this; cases this
    clear HH
    have hcz_1 : w.cell? ⟨0, 1, none⟩ = some (.string ⟨#[99, 114, 101, 97, 116, 101]⟩) := (blk_cell BK.out 1).trans rfl
    have hcz_2 : w.cell? ⟨0, 2, none⟩ = some (.string ⟨#[100, 101, 108, 101, 116, 101]⟩) := (blk_cell BK.out 2).trans rfl
    have hcz_3 : w.cell? ⟨0, 3, none⟩ = some (.string ⟨#[112, 117, 98, 108, 105, 115, 104]⟩) := (blk_cell BK.out 3).trans rfl
    have hcz_4 : w.cell? ⟨0, 4, none⟩ = some (.string ⟨#[102, 101, 116, 99, 104]⟩) := (blk_cell BK.out 4).trans rfl
    have hcz_5 : w.cell? ⟨0, 5, none⟩ = some (.string ⟨#[97, 99, 107]⟩) := (blk_cell BK.out 5).trans rfl
    have hcz_6 : w.cell? ⟨0, 6, none⟩ = some (.string ⟨#[115, 101, 101, 107]⟩) := (blk_cell BK.out 6).trans rfl
    have hcz_7 : w.cell? ⟨0, 7, none⟩ = some (.string ⟨#[114, 101, 116, 97, 105, 110]⟩) := (blk_cell BK.out 7).trans rfl
    obtain rfl | rfl | rfl | rfl | rfl | rfl | rfl : a0 = 1 ∨ a0 = 2 ∨ a0 = 3 ∨ a0 = 4 ∨ a0 = 5 ∨ a0 = 6 ∨ a0 = 7 := by omega
    all_goals
      clear l0 l1
      go_enter Tryd.func10, Tryd.ntmps10
      go_wp2_with (first | (go_at_call 26; (with_reducible refine (impl_within.calls _ 1 7 true _ A1.out).mono ?_); rintro e w' ⟨rfl, ⟨nd, rfl⟩⟩))
      go_ret
      exact ⟨by rw [← E1.out]; rfl, _, rfl⟩


/-! ### laws_FnCommand: function 3 -/
abbrev laws_FnCommand.b0 : Array Bool := #[true, true, true, true, true, true, false, true, false, false, false, false, false, false, false, false, false, false, false, false, false, false, false, false, false, false, false, false, false, false, false, false, false, false, false]
abbrev laws_FnCommand.b1 : Array Bool := #[true, true, true, true, true, true, true, true, true, true, true, true, true, false, true, false, false, false, false, false, false, false, false, false, false, false, false, false, false, false, false, false, false, false, false]
abbrev laws_FnCommand.b2 : Array Bool := #[true, true, true, true, true, true, true, true, true, true, true, true, true, true, true, true, true, true, true, true, true, true, true, false, true, false, false, false, false, false, false, false, false, false, false]
abbrev laws_FnCommand.b3 : Array Bool := #[true, true, true, true, true, true, true, true, true, true, true, true, true, true, true, true, true, true, true, true, true, true, true, false, true, true, false, false, false, false, false, false, false, false, false]
abbrev laws_FnCommand.b4 : Array Bool := #[false, true, false, false, false, false, false, false, false, false, false, false, false, false, false, false, false]
abbrev laws_FnCommand.b5 : Array Bool := #[true, true, true, true, true, true, true, true, true, true, false, false, true, false, false, false, false]
abbrev laws_FnCommand.b6 : Array Bool := #[true, true, true, true, true, true, true, true, true, true, true, false, true, false, false, false, false]
mutual
def laws_FnCommand.j0 : Nat → List Int → List Int → Bool → Option (Bool)
  | 0, _, _, _ => none
  | k + 1, x0, x1, x17 => if x17 = true then (some true) else ((spec_DrawCommandBytes.f k x0).bind fun bt101 => ((impl_CommandBytes.f k bt101.1 bt101.2.1 bt101.2.2.1 bt101.2.2.2.1 bt101.2.2.2.2.1 bt101.2.2.2.2.2.1 bt101.2.2.2.2.2.2).bind fun t109 => ((spec_DrawCommandName.f k x1).bind fun t110 => ((spec_CommandBytes.f k bt101.1 bt101.2.1 bt101.2.2.1 bt101.2.2.2.1 bt101.2.2.2.2.1 bt101.2.2.2.2.2.1 bt101.2.2.2.2.2.2).bind fun t111 => (if t109.toList = t111.toList then ((impl_CommandRight.f k bt101.1 bt101.2.1 bt101.2.2.1 bt101.2.2.2.1 bt101.2.2.2.2.1 bt101.2.2.2.2.2.1 bt101.2.2.2.2.2.2).bind fun t112 => ((spec_CommandRight.f k bt101.1 bt101.2.1 bt101.2.2.1 bt101.2.2.2.1 bt101.2.2.2.2.1 bt101.2.2.2.2.2.1 bt101.2.2.2.2.2.2).bind fun t113 => (if (t112 != t113) = true then (laws_FnCommand.j1 k x1 true) else ((impl_CommandName.f t110).bind fun t114 => ((spec_CommandName.f t110).bind fun t115 => (if t114.toList = t115.toList then (if t109.toList = ([] : List UInt8) then (laws_FnCommand.j1 k x1 false) else ((impl_CommandRead.f k t109).bind fun bt116 => (if ((!(bt116.1 == bt101.1) || (!(bt116.2.1 == bt101.2.1) || (!(bt116.2.2.1 == bt101.2.2.1) || (!(bt116.2.2.2.1.toList == bt101.2.2.2.1.toList) || (!(bt116.2.2.2.2.1.toList == bt101.2.2.2.2.1.toList) || (!(bt116.2.2.2.2.2.1.toList == bt101.2.2.2.2.2.1.toList) || (!(bt116.2.2.2.2.2.2.1 == bt101.2.2.2.2.2.2)))))))) || (!(bt116.2.2.2.2.2.2.2 == 0))) = true then (laws_FnCommand.j1 k x1 true) else ((impl_CommandName.f bt101.2.2.1).bind fun t124 => (laws_FnCommand.j1 k x1 (t124.toList == ([] : List UInt8))))))) else (laws_FnCommand.j1 k x1 true))))))) else (laws_FnCommand.j1 k x1 true))))))
def laws_FnCommand.j1 : Nat → List Int → Bool → Option (Bool)
  | 0, _, _ => none
  | k + 1, x1, x58 => if x58 = true then (none) else ((spec_DrawCommandRead.f k x1).bind fun t125 => ((impl_CommandRead.f k t125).bind fun bt126 => ((spec_CommandRead.f k t125).bind fun bt135 => (if ((bt126.1 == bt135.1 && (bt126.2.1 == bt135.2.1 && (bt126.2.2.1 == bt135.2.2.1 && (bt126.2.2.2.1.toList == bt135.2.2.2.1.toList && (bt126.2.2.2.2.1.toList == bt135.2.2.2.2.1.toList && (bt126.2.2.2.2.2.1.toList == bt135.2.2.2.2.2.1.toList && (bt126.2.2.2.2.2.2.1 == bt135.2.2.2.2.2.2.1))))))) && (bt126.2.2.2.2.2.2.2 == bt135.2.2.2.2.2.2.2)) = true then (if bt126.2.2.2.2.2.2.2 = 0 then ((impl_CommandBytes.f k bt126.1 bt126.2.1 bt126.2.2.1 bt126.2.2.2.1 bt126.2.2.2.2.1 bt126.2.2.2.2.2.1 bt126.2.2.2.2.2.2.1).bind fun t143 => (some (t143.toList == t125.toList))) else (some true)) else (none)))))
end
def laws_FnCommand.f (k : Nat) (l0 : List Int) (l1 : List Int) : Option (Bool) := if (l0.length : Int) > 1048576 then (laws_FnCommand.j0 k l0 l1 true) else (laws_FnCommand.j0 k l0 l1 (decide ((l1.length : Int) > 1048576)))
theorem laws_FnCommand.mono_l : ∀ k, (∀ y0 y1 y2, LeO (laws_FnCommand.j0 k y0 y1 y2) (laws_FnCommand.j0 (k + 1) y0 y1 y2)) ∧ (∀ y0 y1, LeO (laws_FnCommand.j1 k y0 y1) (laws_FnCommand.j1 (k + 1) y0 y1))
  | 0 => ⟨fun _ _ _ r h => by simp [laws_FnCommand.j0] at h, fun _ _ r h => by simp [laws_FnCommand.j1] at h⟩
  | k + 1 => by
    obtain ⟨ih0, ih1⟩ := laws_FnCommand.mono_l k
    refine ⟨?_, ?_⟩
    · intro y0 y1 y2
      unfold laws_FnCommand.j0
      repeat' first
      | (with_reducible exact ih0 _ _ _)
      | (with_reducible exact ih1 _ _)
      | (with_reducible exact impl_CommandBytes.mono _ _ _ _ _ _ _ _)
      | (with_reducible exact impl_CommandRead.mono _ _)
      | (with_reducible exact impl_CommandRight.mono _ _ _ _ _ _ _ _)
      | (with_reducible exact spec_CommandBytes.mono _ _ _ _ _ _ _ _)
      | (with_reducible exact spec_CommandRead.mono _ _)
      | (with_reducible exact spec_CommandRight.mono _ _ _ _ _ _ _ _)
      | (with_reducible exact spec_DrawCommandBytes.mono _ _)
      | (with_reducible exact spec_DrawCommandName.mono _ _)
      | (with_reducible exact spec_DrawCommandRead.mono _ _)
      | (with_reducible exact LeO.refl _)
      | (with_reducible exact LeO.none _)
      | (with_reducible refine LeO.ite ?_ ?_)
      | (with_reducible refine LeO.bind ?_ (fun _ => ?_))
      | exact ih0 _ _ _
      | exact ih1 _ _
      | exact impl_CommandBytes.mono _ _ _ _ _ _ _ _
      | exact impl_CommandRead.mono _ _
      | exact impl_CommandRight.mono _ _ _ _ _ _ _ _
      | exact spec_CommandBytes.mono _ _ _ _ _ _ _ _
      | exact spec_CommandRead.mono _ _
      | exact spec_CommandRight.mono _ _ _ _ _ _ _ _
      | exact spec_DrawCommandBytes.mono _ _
      | exact spec_DrawCommandName.mono _ _
      | exact spec_DrawCommandRead.mono _ _
      | exact LeO.none _
      | refine LeO.ite ?_ ?_
      | refine LeO.bind ?_ (fun _ => ?_)
    · intro y0 y1
      unfold laws_FnCommand.j1
      repeat' first
      | (with_reducible exact ih0 _ _ _)
      | (with_reducible exact ih1 _ _)
      | (with_reducible exact impl_CommandBytes.mono _ _ _ _ _ _ _ _)
      | (with_reducible exact impl_CommandRead.mono _ _)
      | (with_reducible exact impl_CommandRight.mono _ _ _ _ _ _ _ _)
      | (with_reducible exact spec_CommandBytes.mono _ _ _ _ _ _ _ _)
      | (with_reducible exact spec_CommandRead.mono _ _)
      | (with_reducible exact spec_CommandRight.mono _ _ _ _ _ _ _ _)
      | (with_reducible exact spec_DrawCommandBytes.mono _ _)
      | (with_reducible exact spec_DrawCommandName.mono _ _)
      | (with_reducible exact spec_DrawCommandRead.mono _ _)
      | (with_reducible exact LeO.refl _)
      | (with_reducible exact LeO.none _)
      | (with_reducible refine LeO.ite ?_ ?_)
      | (with_reducible refine LeO.bind ?_ (fun _ => ?_))
      | exact ih0 _ _ _
      | exact ih1 _ _
      | exact impl_CommandBytes.mono _ _ _ _ _ _ _ _
      | exact impl_CommandRead.mono _ _
      | exact impl_CommandRight.mono _ _ _ _ _ _ _ _
      | exact spec_CommandBytes.mono _ _ _ _ _ _ _ _
      | exact spec_CommandRead.mono _ _
      | exact spec_CommandRight.mono _ _ _ _ _ _ _ _
      | exact spec_DrawCommandBytes.mono _ _
      | exact spec_DrawCommandName.mono _ _
      | exact spec_DrawCommandRead.mono _ _
      | exact LeO.none _
      | refine LeO.ite ?_ ?_
      | refine LeO.bind ?_ (fun _ => ?_)
theorem laws_FnCommand.mono : ∀ a0 a1 k, LeO (laws_FnCommand.f k a0 a1) (laws_FnCommand.f (k + 1) a0 a1) := by
  intro a0 a1 k
  obtain ⟨ih0, ih1⟩ := laws_FnCommand.mono_l k
  unfold laws_FnCommand.f
  repeat' first
      | (with_reducible exact ih0 _ _ _)
      | (with_reducible exact ih1 _ _)
      | (with_reducible exact impl_CommandBytes.mono _ _ _ _ _ _ _ _)
      | (with_reducible exact impl_CommandRead.mono _ _)
      | (with_reducible exact impl_CommandRight.mono _ _ _ _ _ _ _ _)
      | (with_reducible exact spec_CommandBytes.mono _ _ _ _ _ _ _ _)
      | (with_reducible exact spec_CommandRead.mono _ _)
      | (with_reducible exact spec_CommandRight.mono _ _ _ _ _ _ _ _)
      | (with_reducible exact spec_DrawCommandBytes.mono _ _)
      | (with_reducible exact spec_DrawCommandName.mono _ _)
      | (with_reducible exact spec_DrawCommandRead.mono _ _)
      | (with_reducible exact LeO.refl _)
      | (with_reducible exact LeO.none _)
      | (with_reducible refine LeO.ite ?_ ?_)
      | (with_reducible refine LeO.bind ?_ (fun _ => ?_))
      | exact ih0 _ _ _
      | exact ih1 _ _
      | exact impl_CommandBytes.mono _ _ _ _ _ _ _ _
      | exact impl_CommandRead.mono _ _
      | exact impl_CommandRight.mono _ _ _ _ _ _ _ _
      | exact spec_CommandBytes.mono _ _ _ _ _ _ _ _
      | exact spec_CommandRead.mono _ _
      | exact spec_CommandRight.mono _ _ _ _ _ _ _ _
      | exact spec_DrawCommandBytes.mono _ _
      | exact spec_DrawCommandName.mono _ _
      | exact spec_DrawCommandRead.mono _ _
      | exact LeO.none _
      | refine LeO.ite ?_ ?_
      | refine LeO.bind ?_ (fun _ => ?_)
def laws_FnCommand.T6 : Bool × List (List Nat × List Nat) := (true, [([], []), ([], []), ([1], [1]), ([0, 2], [0, 2]), ([3, 2], [3]), ([4], [4]), ([5, 4, 4], [4, 5]), ([4], [4]), ([7, 6, 4], [4, 7]), ([6, 8, 4], [4, 6, 8]), ([4, 9], [4, 9]), ([10, 8], [10]), ([11], [11]), ([12, 11, 11], [11, 12]), ([11], [11]), ([14, 13, 11], [11, 14]), ([13, 15, 11], [11, 13, 15]), ([11, 16], [11, 16]), ([17, 15], [17]), ([18], [18]), ([19, 18], [18, 19]), ([20, 18, 18], [18, 20]), ([21], [21]), ([22, 21, 21], [21, 22]), ([21], [21]), ([24, 21], [21, 24]), ([23, 25, 21], [21, 23, 25]), ([26, 23, 21], [21, 26]), ([27], [27]), ([28, 27], [27, 28]), ([29, 27, 27], [27, 29]), ([30, 27], [27, 30]), ([27, 31, 21], [21, 27, 31]), ([21, 32, 18], [18, 21, 32]), ([18, 33], [18, 33])])
def laws_FnCommand.B6 : List Nat := [0, 0, 2, 7, 15, 31, 63, 31, 255, 511, 1023, 2047, 4095, 8191, 4095, 32767, 65535, 131071, 262143, 524287, 1048575, 2097151, 4194303, 8388607, 4194303, 20971519, 67108863, 134217727, 268435455, 536870911, 1073741823, 2147483647, 4294967295, 8589934591, 17179869183]
theorem laws_FnCommand.tab6 : rtab .any (opsOf Tryd.f3 6) = laws_FnCommand.T6 := by kernel_rfl
theorem laws_FnCommand.bits6 : waitsOk laws_FnCommand.T6.2 laws_FnCommand.B6 = true := by kernel_rfl
def laws_FnCommand.T10 : Bool × List (List Nat × List Nat) := (true, [([], []), ([], []), ([1], [1]), ([0, 2], [0, 2]), ([3, 2], [3]), ([4], [4]), ([5, 4], [4, 5]), ([6, 4], [4, 6]), ([7, 4, 4], [4, 7]), ([8], [8]), ([9, 8], [8, 9]), ([10, 8, 8], [8, 10]), ([8], [8]), ([11, 12, 8], [8, 11, 12]), ([8, 13, 4], [4, 8, 13]), ([4, 14], [4, 14]), ([15, 11, 0, 1, 2, 3, 4, 5, 6, 7, 8, 9, 10, 11, 12, 13, 14, 15], [15])])
def laws_FnCommand.B10 : List Nat := [0, 0, 2, 7, 15, 31, 63, 127, 255, 511, 1023, 2047, 511, 8191, 16383, 32767, 65535]
theorem laws_FnCommand.tab10 : rtab .any (opsOf Tryd.f3 10) = laws_FnCommand.T10 := by kernel_rfl
theorem laws_FnCommand.bits10 : waitsOk laws_FnCommand.T10.2 laws_FnCommand.B10 = true := by kernel_rfl
set_option maxHeartbeats 60000000 in
set_option maxRecDepth 100000 in
theorem laws_FnCommand.calls (k : Nat) (A0 : Option Addr) (c0 : Nat) (l0 : List Int) (A1 : Option Addr) (c1 : Nat) (l1 : List Int) (r : Bool) (w : World) (hr0 : Kd.C (Kd.int .u8) w A0 l0.length l0) (hc0 : l0.length ≤ c0) (hr1 : Kd.C (Kd.int .u8) w A1 l1.length l1) (hc1 : l1.length ≤ c1) (hT : Tab w) (h : laws_FnCommand.f k l0 l1 = some r) :
    Calls Tryd.prog 3 #[.slice A0 l0.length c0, .slice A1 l1.length c1] w fun e w' => e = .returned (.bool r) ∧ Below w.heap.size w w' := by
 have TAB := AM hT
 clear hT
 have hu24 := Tryd.underlying24
 have hu31 := Tryd.underlying31
 have HR0 := AM hr0
 have HC0 := AM hc0
 clear hr0 hc0
 have HR1 := AM hr1
 have HC1 := AM hc1
 clear hr1 hc1
 have HB := AM (Below.refl w.heap.size w)
 have H : (if (l0.length : Int) > 1048576 then (laws_FnCommand.j0 k l0 l1 true) else (laws_FnCommand.j0 k l0 l1 (decide ((l1.length : Int) > 1048576)))) = some r := h
 clear h
 have HC3 := AM H
 clear H
 go_enter Tryd.func3, Tryd.ntmps3
 go_upto_region 1 with (fail)
 go_cut [17] (fun v17 wc => ∃ (kq : Nat) (x17_2 : Bool), v17 = .bool x17_2 ∧ Aside0 (laws_FnCommand.j0 kq l0 l1 x17_2 = some r) ∧ Aside0 (kq ≤ k) ∧ Aside0 (Below w.heap.size w wc))
 case first =>
  have H := HC3.out
  clear HC3
  by_cases c4 : (l0.length : Int) > 1048576
  ·
   rw [if_pos c4] at H
   have c4b0 : decide (1048576 < (l0.length : Int)) = true := decide_eq_true c4
   have c4b1 : decide (1048576 < l0.length) = true := decide_eq_true (by omega)
   clear c4
   (first | rw [c4b0] | (simp only [i64_w, i32_w]; rw [c4b0]) | skip)
   have H' := AM H
   clear H
   go_wp2
   go_meet
   case rel => exact ⟨_, (true), (by first | rfl | (simp; done) | (simp [*]; done)), H', ⟨by first | omega | exact Nat.le_refl _⟩, ⟨bX HB.out⟩⟩
  rw [if_neg c4] at H
  have c4b0 : decide (1048576 < (l0.length : Int)) = false := decide_eq_false c4
  have c4b1 : decide (1048576 < l0.length) = false := decide_eq_false (by omega)
  clear c4
  (first | rw [c4b0] | (simp only [i64_w, i32_w]; rw [c4b0]) | skip)
  have H' := AM H
  clear H
  go_wp2
  go_meet
  case rel => exact ⟨_, (decide ((l1.length : Int) > 1048576)), (by first | rfl | (simp; done) | (simp [*]; done)), H', ⟨by first | omega | exact Nat.le_refl _⟩, ⟨bX HB.out⟩⟩
 case rest =>
  clear HC3
  (try clear c1); (try clear p2); (try clear c3); (try clear c4); (try clear c4b0); (try clear c4b1)
  obtain ⟨kq, x17_2, rfl, HA, HJ2, HB⟩ := hcut
  cases kq with
  | zero => exact absurd HA.out (by simp [laws_FnCommand.j0])
  | succ kj2 =>
   have H := HA.out
   clear HA
   simp only [laws_FnCommand.j0] at H
   by_cases c5 : x17_2 = true
   ·
    subst c5
    have H1 : (some true) = some r := by rw [if_pos rfl] at H; exact H
    clear H
    have H := H1
    clear H1
    obtain rfl := Option.some.inj H
    go_wp2
    go_ret
    exact ⟨by first | rfl | (simp [*, errW_none, errW_some] <;> rfl), bX HB.out⟩
   replace c5 := Bool.eq_false_iff.mpr c5
   subst c5
   have H1 : ((spec_DrawCommandBytes.f kj2 l0).bind fun bt101 => ((impl_CommandBytes.f kj2 bt101.1 bt101.2.1 bt101.2.2.1 bt101.2.2.2.1 bt101.2.2.2.2.1 bt101.2.2.2.2.2.1 bt101.2.2.2.2.2.2).bind fun t109 => ((spec_DrawCommandName.f kj2 l1).bind fun t110 => ((spec_CommandBytes.f kj2 bt101.1 bt101.2.1 bt101.2.2.1 bt101.2.2.2.1 bt101.2.2.2.2.1 bt101.2.2.2.2.2.1 bt101.2.2.2.2.2.2).bind fun t111 => (if t109.toList = t111.toList then ((impl_CommandRight.f kj2 bt101.1 bt101.2.1 bt101.2.2.1 bt101.2.2.2.1 bt101.2.2.2.2.1 bt101.2.2.2.2.2.1 bt101.2.2.2.2.2.2).bind fun t112 => ((spec_CommandRight.f kj2 bt101.1 bt101.2.1 bt101.2.2.1 bt101.2.2.2.1 bt101.2.2.2.2.1 bt101.2.2.2.2.2.1 bt101.2.2.2.2.2.2).bind fun t113 => (if (t112 != t113) = true then (laws_FnCommand.j1 kj2 l1 true) else ((impl_CommandName.f t110).bind fun t114 => ((spec_CommandName.f t110).bind fun t115 => (if t114.toList = t115.toList then (if t109.toList = ([] : List UInt8) then (laws_FnCommand.j1 kj2 l1 false) else ((impl_CommandRead.f kj2 t109).bind fun bt116 => (if ((!(bt116.1 == bt101.1) || (!(bt116.2.1 == bt101.2.1) || (!(bt116.2.2.1 == bt101.2.2.1) || (!(bt116.2.2.2.1.toList == bt101.2.2.2.1.toList) || (!(bt116.2.2.2.2.1.toList == bt101.2.2.2.2.1.toList) || (!(bt116.2.2.2.2.2.1.toList == bt101.2.2.2.2.2.1.toList) || (!(bt116.2.2.2.2.2.2.1 == bt101.2.2.2.2.2.2)))))))) || (!(bt116.2.2.2.2.2.2.2 == 0))) = true then (laws_FnCommand.j1 kj2 l1 true) else ((impl_CommandName.f bt101.2.2.1).bind fun t124 => (laws_FnCommand.j1 kj2 l1 (t124.toList == ([] : List UInt8))))))) else (laws_FnCommand.j1 kj2 l1 true))))))) else (laws_FnCommand.j1 kj2 l1 true)))))) = some r := by rw [if_neg (show ¬ (false = true) by decide)] at H; exact H
   clear H
   have H := H1
   clear H1
   replace H := Option.bind_eq_some_iff.mp H
   obtain ⟨⟨t101, t102, t103, t104, t105, t106, t107⟩, A60, H⟩ := H
   try dsimp only at H
   have A6 := AM A60
   clear A60
   replace H := Option.bind_eq_some_iff.mp H
   obtain ⟨t109, A70, H⟩ := H
   replace H : ((spec_DrawCommandName.f kj2 l1).bind fun t110 => ((spec_CommandBytes.f kj2 t101 t102 t103 t104 t105 t106 t107).bind fun t111 => (if t109.toList = t111.toList then ((impl_CommandRight.f kj2 t101 t102 t103 t104 t105 t106 t107).bind fun t112 => ((spec_CommandRight.f kj2 t101 t102 t103 t104 t105 t106 t107).bind fun t113 => (if (t112 != t113) = true then (laws_FnCommand.j1 kj2 l1 true) else ((impl_CommandName.f t110).bind fun t114 => ((spec_CommandName.f t110).bind fun t115 => (if t114.toList = t115.toList then (if t109.toList = ([] : List UInt8) then (laws_FnCommand.j1 kj2 l1 false) else ((impl_CommandRead.f kj2 t109).bind fun bt116 => (if ((!(bt116.1 == t101) || (!(bt116.2.1 == t102) || (!(bt116.2.2.1 == t103) || (!(bt116.2.2.2.1.toList == t104.toList) || (!(bt116.2.2.2.2.1.toList == t105.toList) || (!(bt116.2.2.2.2.2.1.toList == t106.toList) || (!(bt116.2.2.2.2.2.2.1 == t107)))))))) || (!(bt116.2.2.2.2.2.2.2 == 0))) = true then (laws_FnCommand.j1 kj2 l1 true) else ((impl_CommandName.f t103).bind fun t124 => (laws_FnCommand.j1 kj2 l1 (t124.toList == ([] : List UInt8))))))) else (laws_FnCommand.j1 kj2 l1 true))))))) else (laws_FnCommand.j1 kj2 l1 true)))) = some r := H
   have A7 := AM A70
   clear A70
   replace H := Option.bind_eq_some_iff.mp H
   obtain ⟨t110, A80, H⟩ := H
   replace H : ((spec_CommandBytes.f kj2 t101 t102 t103 t104 t105 t106 t107).bind fun t111 => (if t109.toList = t111.toList then ((impl_CommandRight.f kj2 t101 t102 t103 t104 t105 t106 t107).bind fun t112 => ((spec_CommandRight.f kj2 t101 t102 t103 t104 t105 t106 t107).bind fun t113 => (if (t112 != t113) = true then (laws_FnCommand.j1 kj2 l1 true) else ((impl_CommandName.f t110).bind fun t114 => ((spec_CommandName.f t110).bind fun t115 => (if t114.toList = t115.toList then (if t109.toList = ([] : List UInt8) then (laws_FnCommand.j1 kj2 l1 false) else ((impl_CommandRead.f kj2 t109).bind fun bt116 => (if ((!(bt116.1 == t101) || (!(bt116.2.1 == t102) || (!(bt116.2.2.1 == t103) || (!(bt116.2.2.2.1.toList == t104.toList) || (!(bt116.2.2.2.2.1.toList == t105.toList) || (!(bt116.2.2.2.2.2.1.toList == t106.toList) || (!(bt116.2.2.2.2.2.2.1 == t107)))))))) || (!(bt116.2.2.2.2.2.2.2 == 0))) = true then (laws_FnCommand.j1 kj2 l1 true) else ((impl_CommandName.f t103).bind fun t124 => (laws_FnCommand.j1 kj2 l1 (t124.toList == ([] : List UInt8))))))) else (laws_FnCommand.j1 kj2 l1 true))))))) else (laws_FnCommand.j1 kj2 l1 true))) = some r := H
   have A8 := AM A80
   clear A80
   have HC9 := AM H
   clear H
   go_upto_region 6 with (first | ((with_reducible refine gate_callee (f := 4) rfl ?_); refine goesL_ (some 19) rfl rfl Tryd.func4 (by kernel_rfl) rfl #[.slice A0 l0.length c0] rfl (by (try simp only [mA, mB, mC]); first | done | rfl | (simp only [mD, mE]; rfl)) ?_; (with_reducible refine (spec_DrawCommandBytes.calls kj2 _ _ l0 t101 t102 t103 t104 t105 t106 t107 _ ?side1 ?side2 A6.out).mono ?_); (case side1 => repeat (first | exact (cB HR0.out HB.out) | (with_reducible first | apply cA | apply cN | apply cD))); (case side2 => exact HC0.out); rintro e w10 ⟨rfl, hb⟩; refine ⟨_, rfl, ?_⟩; have _ := AM (below_step (bX HB.out) hb); clear HB; rename_i HB; (try clear hb); (try clear hk)) | ((with_reducible refine gate_dst (N := 5) rfl ?_); (try (refine gate_guard (by rfl) ?_; dsimp only)); refine box_event (by rfl) (N := 5) (by rfl) (cs := #[.int .i64 0, .int .i64 0, .int .i64 0, .string (⟨#[]⟩ : ByteArray), .string (⟨#[]⟩ : ByteArray), .string (⟨#[]⟩ : ByteArray), .int .i64 0]) (t := 24) (by first | (go_simp; done) | (go_simp; rfl)) ?_; intro gb108 hg w11 hbox hb; have _ := AM (below_step (bX HB.out) hb); have _ := AM (hbox); have n2_ := AM ((by rw [hg]; exact (bZ (bX HB.out)) : w.heap.size ≤ gb108)); clear HB; rename_i HB BK108; have GW108 := n2_; have GE108 := n2_; clear n2_; clear hb hbox hg; have hcz12 := q7 BK108.out; have hfz12 := fZ BK108.out) | ((with_reducible refine gate_callee (f := 5) rfl ?_); refine goesL_ (some 21) rfl rfl Tryd.func5 (by kernel_rfl) rfl #[.agg #[.int .i64 t101, .int .i64 t102, .int .i64 t103, .string t104, .string t105, .string t106, .int .i64 t107]] rfl (by (try simp only [mA, mB, mC]); first | done | rfl | (simp only [mD, mE]; rfl)) ?_; (with_reducible refine (impl_CommandBytes.calls kj2 t101 t102 t103 t104 t105 t106 t107 t109 _ A7.out).mono ?_); rintro e w13 ⟨rfl, hb⟩; refine ⟨_, rfl, ?_⟩; have _ := AM (blk_below (g := gb108) (o := .cells #[.int .i64 t101, .int .i64 t102, .int .i64 t103, .string t104, .string t105, .string t106, .int .i64 t107] 24 (0, 0)) (by refine kP (cs := #[.int .i64 t101, .int .i64 t102, .int .i64 t103, .string t104, .string t105, .string t106, .int .i64 0]) 6 ?_; refine kP (cs := #[.int .i64 t101, .int .i64 t102, .int .i64 t103, .string t104, .string t105, .string (⟨#[]⟩ : ByteArray), .int .i64 0]) 5 ?_; refine kP (cs := #[.int .i64 t101, .int .i64 t102, .int .i64 t103, .string t104, .string (⟨#[]⟩ : ByteArray), .string (⟨#[]⟩ : ByteArray), .int .i64 0]) 4 ?_; refine kP (cs := #[.int .i64 t101, .int .i64 t102, .int .i64 t103, .string (⟨#[]⟩ : ByteArray), .string (⟨#[]⟩ : ByteArray), .string (⟨#[]⟩ : ByteArray), .int .i64 0]) 3 ?_; refine kP (cs := #[.int .i64 t101, .int .i64 t102, .int .i64 0, .string (⟨#[]⟩ : ByteArray), .string (⟨#[]⟩ : ByteArray), .string (⟨#[]⟩ : ByteArray), .int .i64 0]) 2 ?_; refine kP (cs := #[.int .i64 t101, .int .i64 0, .int .i64 0, .string (⟨#[]⟩ : ByteArray), .string (⟨#[]⟩ : ByteArray), .string (⟨#[]⟩ : ByteArray), .int .i64 0]) 1 ?_; refine kP (cs := #[.int .i64 0, .int .i64 0, .int .i64 0, .string (⟨#[]⟩ : ByteArray), .string (⟨#[]⟩ : ByteArray), .string (⟨#[]⟩ : ByteArray), .int .i64 0]) 0 ?_; (with_reducible repeat (first | apply kN | apply kD | apply kA)); exact BK108.out) hb); have _ := AM (below_step (bX HB.out) hb); clear BK108 HB; rename_i BK108 HB; (try clear hb); (try clear hk)) | ((with_reducible refine gate_callee (f := 6) rfl ?_); refine goesL_ (some 23) rfl rfl Tryd.func6 (by kernel_rfl) rfl #[.slice A1 l1.length c1] rfl (by (try simp only [mA, mB, mC]); first | done | rfl | (simp only [mD, mE]; rfl)) ?_; (with_reducible refine (spec_DrawCommandName.calls kj2 _ _ l1 t110 _ ?side1 ?side2 A8.out).mono ?_); (case side1 => repeat (first | exact (cB HR1.out HB.out) | (with_reducible first | apply cA | apply cN | apply cD))); (case side2 => exact HC1.out); rintro e w14 ⟨rfl, hb⟩; refine ⟨_, rfl, ?_⟩; have _ := AM (nB BK108.out hb); have _ := AM (below_step (bX HB.out) hb); clear BK108 HB; rename_i BK108 HB; (try clear hb); (try clear hk)))
   (try simp only [Act.put, List.setIfInBounds_toArray, List.set_cons_zero, List.set_cons_succ])
   go_cut [58] (fun v58 wc => ∃ (kq : Nat) (x58_8 : Bool), v58 = .bool x58_8 ∧ Aside0 (laws_FnCommand.j1 kq l1 x58_8 = some r) ∧ Aside0 (kq ≤ kj2) ∧ Aside0 (wc.heap[gb108]? = some (.cells #[.int .i64 t101, .int .i64 t102, .int .i64 t103, .string t104, .string t105, .string t106, .int .i64 t107] 24 (0, 0))) ∧ Aside0 (Below w.heap.size w wc))
   case first =>
    have H := HC9.out
    clear HC9
    replace H := Option.bind_eq_some_iff.mp H
    obtain ⟨t111, A150, H⟩ := H
    replace H : (if t109.toList = t111.toList then ((impl_CommandRight.f kj2 t101 t102 t103 t104 t105 t106 t107).bind fun t112 => ((spec_CommandRight.f kj2 t101 t102 t103 t104 t105 t106 t107).bind fun t113 => (if (t112 != t113) = true then (laws_FnCommand.j1 kj2 l1 true) else ((impl_CommandName.f t110).bind fun t114 => ((spec_CommandName.f t110).bind fun t115 => (if t114.toList = t115.toList then (if t109.toList = ([] : List UInt8) then (laws_FnCommand.j1 kj2 l1 false) else ((impl_CommandRead.f kj2 t109).bind fun bt116 => (if ((!(bt116.1 == t101) || (!(bt116.2.1 == t102) || (!(bt116.2.2.1 == t103) || (!(bt116.2.2.2.1.toList == t104.toList) || (!(bt116.2.2.2.2.1.toList == t105.toList) || (!(bt116.2.2.2.2.2.1.toList == t106.toList) || (!(bt116.2.2.2.2.2.2.1 == t107)))))))) || (!(bt116.2.2.2.2.2.2.2 == 0))) = true then (laws_FnCommand.j1 kj2 l1 true) else ((impl_CommandName.f t103).bind fun t124 => (laws_FnCommand.j1 kj2 l1 (t124.toList == ([] : List UInt8))))))) else (laws_FnCommand.j1 kj2 l1 true))))))) else (laws_FnCommand.j1 kj2 l1 true)) = some r := H
    have A15 := AM A150
    clear A150
    by_cases c16 : t109.toList = t111.toList
    ·
     rw [if_pos c16] at H
     have c16b0 : (t109.toList == t111.toList) = true := beq_iff_eq.mpr c16
     have c16b1 : (t109.toList != t111.toList) = false := bne_eq_false_iff_eq.mpr c16
     clear c16
     (first | rw [c16b0] | (simp only [i64_w, i32_w]; rw [c16b0]) | skip)
     replace H := Option.bind_eq_some_iff.mp H
     obtain ⟨t112, A170, H⟩ := H
     replace H : ((spec_CommandRight.f kj2 t101 t102 t103 t104 t105 t106 t107).bind fun t113 => (if (t112 != t113) = true then (laws_FnCommand.j1 kj2 l1 true) else ((impl_CommandName.f t110).bind fun t114 => ((spec_CommandName.f t110).bind fun t115 => (if t114.toList = t115.toList then (if t109.toList = ([] : List UInt8) then (laws_FnCommand.j1 kj2 l1 false) else ((impl_CommandRead.f kj2 t109).bind fun bt116 => (if ((!(bt116.1 == t101) || (!(bt116.2.1 == t102) || (!(bt116.2.2.1 == t103) || (!(bt116.2.2.2.1.toList == t104.toList) || (!(bt116.2.2.2.2.1.toList == t105.toList) || (!(bt116.2.2.2.2.2.1.toList == t106.toList) || (!(bt116.2.2.2.2.2.2.1 == t107)))))))) || (!(bt116.2.2.2.2.2.2.2 == 0))) = true then (laws_FnCommand.j1 kj2 l1 true) else ((impl_CommandName.f t103).bind fun t124 => (laws_FnCommand.j1 kj2 l1 (t124.toList == ([] : List UInt8))))))) else (laws_FnCommand.j1 kj2 l1 true)))))) = some r := H
     have A17 := AM A170
     clear A170
     replace H := Option.bind_eq_some_iff.mp H
     obtain ⟨t113, A180, H⟩ := H
     replace H : (if (t112 != t113) = true then (laws_FnCommand.j1 kj2 l1 true) else ((impl_CommandName.f t110).bind fun t114 => ((spec_CommandName.f t110).bind fun t115 => (if t114.toList = t115.toList then (if t109.toList = ([] : List UInt8) then (laws_FnCommand.j1 kj2 l1 false) else ((impl_CommandRead.f kj2 t109).bind fun bt116 => (if ((!(bt116.1 == t101) || (!(bt116.2.1 == t102) || (!(bt116.2.2.1 == t103) || (!(bt116.2.2.2.1.toList == t104.toList) || (!(bt116.2.2.2.2.1.toList == t105.toList) || (!(bt116.2.2.2.2.2.1.toList == t106.toList) || (!(bt116.2.2.2.2.2.2.1 == t107)))))))) || (!(bt116.2.2.2.2.2.2.2 == 0))) = true then (laws_FnCommand.j1 kj2 l1 true) else ((impl_CommandName.f t103).bind fun t124 => (laws_FnCommand.j1 kj2 l1 (t124.toList == ([] : List UInt8))))))) else (laws_FnCommand.j1 kj2 l1 true))))) = some r := H
     have A18 := AM A180
     clear A180
     by_cases c19 : (t112 != t113) = true
     ·
      rw [if_pos c19] at H
      have c19b0 : (t112 != t113) = true := c19
      (try (have c19b1 : decide (t112 = t113) = false := by simpa using c19))
      (try (have c19b2 : (t112 == t113) = false := by simpa using c19))
      (try (have c19b3 : ¬ (t112 = t113) := by simpa using c19))
      clear c19
      have H' := AM H
      clear H
      try go_wp2
      have _ := AM (kD BK108.out)
      have _ := AM (bD HB.out)
      clear BK108 HB
      rename_i BK108 HB
      refine start_ (n := 35) (S := fun w' => w'.cell? ⟨gb108, 0, none⟩ = some (.int .i64 t101) ∧ w'.cell? ⟨gb108, 1, none⟩ = some (.int .i64 t102) ∧ w'.cell? ⟨gb108, 2, none⟩ = some (.int .i64 t103) ∧ w'.cell? ⟨gb108, 3, none⟩ = some (.string t104) ∧ w'.cell? ⟨gb108, 4, none⟩ = some (.string t105) ∧ w'.cell? ⟨gb108, 5, none⟩ = some (.string t106) ∧ w'.cell? ⟨gb108, 6, none⟩ = some (.int .i64 t107)) (ds := []) (upTo 0 35) (by kernel_rfl) rfl rfl ⟨(kC BK108.out 0).trans rfl, (kC BK108.out 1).trans rfl, (kC BK108.out 2).trans rfl, (kC BK108.out 3).trans rfl, (kC BK108.out 4).trans rfl, (kC BK108.out 5).trans rfl, (kC BK108.out 6).trans rfl⟩ (fun hHeld => ?_); refine with_tabW laws_FnCommand.tab6 laws_FnCommand.bits6 (fun HT_ HW_ => ?_)
      generalize w14.drew = w20 at BK108 HB hHeld ⊢
      refine pF 0 1 35 24 ?_
      refine pT2 1 25 (upTo 2 35) ?_ hHeld
      refine one_ (i := 2) (N := some 26) (upTo 3 35) rfl rfl (one_of HT_.out (by kernel_rfl)) (by decide) (fun K hK => ?_)
      refine goes_ Tryd.func7 (by kernel_rfl) rfl #[.agg #[.int .i64 t101, .int .i64 t102, .int .i64 t103, .string t104, .string t105, .string t106, .int .i64 t107]] (by rfl) rfl rfl (by (try simp only [mA, mB, mC]); first | done | rfl | (simp only [mD, mE]; rfl)) ?_
      with_reducible refine (spec_CommandBytes.calls kj2 t101 t102 t103 t104 t105 t106 t107 t111 _ A15.out).mono ?_
      rintro e w21 ⟨rfl, hb⟩
      refine ⟨_, rfl, ?_⟩
      have _ := AM (nB BK108.out hb)
      have _ := AM (below_step (bX HB.out) hb)
      clear BK108 HB
      rename_i BK108 HB
      (try clear hb)
      (try clear hk)
      refine hK.out _ _ (q7 BK108.out) (fun hHeld => ?_)
      clear hK K
      refine norm_ (a' := ?_) ?_ ?_
      rotate_left
      ·
       show Act.put _ (some 26) _ = _
       simp only [Act.put, sA, sB, sC, i64_w, i32_w]
       rfl
      refine pF 3 4 35 27 ?_
      refine pF 4 5 35 28 ?_
      refine pT2 5 29 (upTo 6 35) ?_ hHeld
      refine pT2 7 31 laws_FnCommand.b0 ?_ hHeld
      refine one_ (i := 6) (N := some 30) (upTo 8 35) rfl rfl (one_of HT_.out (by kernel_rfl)) (by decide) (fun K hK => ?_)
      refine goes_ Tryd.func8 (by kernel_rfl) rfl #[.agg #[.int .i64 t101, .int .i64 t102, .int .i64 t103, .string t104, .string t105, .string t106, .int .i64 t107]] (by rfl) rfl rfl (by (try simp only [mA, mB, mC]); first | done | rfl | (simp only [mD, mE]; rfl)) ?_
      with_reducible refine (impl_CommandRight.calls kj2 t101 t102 t103 t104 t105 t106 t107 t112 _ A17.out).mono ?_
      rintro e w22 ⟨rfl, hb⟩
      refine ⟨_, rfl, ?_⟩
      have _ := AM (nB BK108.out hb)
      have _ := AM (below_step (bX HB.out) hb)
      clear BK108 HB
      rename_i BK108 HB
      (try clear hb)
      (try clear hk)
      refine hK.out _ _ (q7 BK108.out) (fun hHeld => ?_)
      clear hK K
      refine norm_ (a' := ?_) ?_ ?_
      rotate_left
      ·
       show Act.put _ (some 30) _ = _
       simp only [Act.put, sA, sB, sC, i64_w, i32_w]
       rfl
      refine one_ (i := 8) (N := some 32) (upTo 9 35) rfl rfl (one_of HT_.out (by kernel_rfl)) (by decide) (fun K hK => ?_)
      refine goes_ Tryd.func9 (by kernel_rfl) rfl #[.agg #[.int .i64 t101, .int .i64 t102, .int .i64 t103, .string t104, .string t105, .string t106, .int .i64 t107]] (by rfl) rfl rfl (by (try simp only [mA, mB, mC]); first | done | rfl | (simp only [mD, mE]; rfl)) ?_
      with_reducible refine (spec_CommandRight.calls kj2 t101 t102 t103 t104 t105 t106 t107 t113 _ A18.out).mono ?_
      rintro e w23 ⟨rfl, hb⟩
      refine ⟨_, rfl, ?_⟩
      have _ := AM (nB BK108.out hb)
      have _ := AM (below_step (bX HB.out) hb)
      clear BK108 HB
      rename_i BK108 HB
      (try clear hb)
      (try clear hk)
      refine hK.out _ _ (q7 BK108.out) (fun hHeld => ?_)
      clear hK K
      refine norm_ (a' := ?_) ?_ ?_
      rotate_left
      ·
       show Act.put _ (some 32) _ = _
       simp only [Act.put, sA, sB, sC, i64_w, i32_w]
       rfl
      refine pF 9 10 35 33 ?_
      refine pF 10 11 35 34 ?_
      refine pF 11 12 35 35 ?_
      refine pU 12 13 35 36 ?_
      refine pU 13 14 35 37 ?_
      refine pU 14 15 35 38 ?_
      refine pU 15 16 35 39 ?_
      refine pU 16 17 35 40 ?_
      refine pF 17 18 35 41 ?_
      refine pF 18 19 35 42 ?_
      refine pU 19 20 35 43 ?_
      refine pU 20 21 35 44 ?_
      refine pU 21 22 35 45 ?_
      refine pU 22 23 35 46 ?_
      refine pU 23 24 35 47 ?_
      refine pU 24 25 35 48 ?_
      refine pU 25 26 35 49 ?_
      refine pU 26 27 35 50 ?_
      refine pU 27 28 35 51 ?_
      refine pU 28 29 35 52 ?_
      refine pU 29 30 35 53 ?_
      refine pU 30 31 35 54 ?_
      refine pU 31 32 35 55 ?_
      refine pU 32 33 35 56 ?_
      refine pU 33 34 35 57 ?_
      refine pF 34 35 35 58 ?_
      refine done_ (done_of HT_.out (by kernel_rfl)) ?_
      try go_wp2
      go_meet
      case rel => exact ⟨_, (true), (by first | rfl | (simp; done) | (simp [*]; done)), H', ⟨by have := HJ2.out; first | omega | exact Nat.le_refl _⟩, ⟨kX BK108.out⟩, ⟨bX HB.out⟩⟩
     rw [if_neg c19] at H
     have c19b0 : (t112 != t113) = false := by simpa using c19
     (try (have c19b1 : decide (t112 = t113) = true := by simpa using c19))
     (try (have c19b2 : (t112 == t113) = true := by simpa using c19))
     clear c19
     replace H := Option.bind_eq_some_iff.mp H
     obtain ⟨t114, A240, H⟩ := H
     replace H : ((spec_CommandName.f t110).bind fun t115 => (if t114.toList = t115.toList then (if t109.toList = ([] : List UInt8) then (laws_FnCommand.j1 kj2 l1 false) else ((impl_CommandRead.f kj2 t109).bind fun bt116 => (if ((!(bt116.1 == t101) || (!(bt116.2.1 == t102) || (!(bt116.2.2.1 == t103) || (!(bt116.2.2.2.1.toList == t104.toList) || (!(bt116.2.2.2.2.1.toList == t105.toList) || (!(bt116.2.2.2.2.2.1.toList == t106.toList) || (!(bt116.2.2.2.2.2.2.1 == t107)))))))) || (!(bt116.2.2.2.2.2.2.2 == 0))) = true then (laws_FnCommand.j1 kj2 l1 true) else ((impl_CommandName.f t103).bind fun t124 => (laws_FnCommand.j1 kj2 l1 (t124.toList == ([] : List UInt8))))))) else (laws_FnCommand.j1 kj2 l1 true))) = some r := H
     have A24 := AM A240
     clear A240
     replace H := Option.bind_eq_some_iff.mp H
     obtain ⟨t115, A250, H⟩ := H
     replace H : (if t114.toList = t115.toList then (if t109.toList = ([] : List UInt8) then (laws_FnCommand.j1 kj2 l1 false) else ((impl_CommandRead.f kj2 t109).bind fun bt116 => (if ((!(bt116.1 == t101) || (!(bt116.2.1 == t102) || (!(bt116.2.2.1 == t103) || (!(bt116.2.2.2.1.toList == t104.toList) || (!(bt116.2.2.2.2.1.toList == t105.toList) || (!(bt116.2.2.2.2.2.1.toList == t106.toList) || (!(bt116.2.2.2.2.2.2.1 == t107)))))))) || (!(bt116.2.2.2.2.2.2.2 == 0))) = true then (laws_FnCommand.j1 kj2 l1 true) else ((impl_CommandName.f t103).bind fun t124 => (laws_FnCommand.j1 kj2 l1 (t124.toList == ([] : List UInt8))))))) else (laws_FnCommand.j1 kj2 l1 true)) = some r := H
     have A25 := AM A250
     clear A250
     by_cases c26 : t114.toList = t115.toList
     ·
      rw [if_pos c26] at H
      have c26b0 : (t114.toList == t115.toList) = true := beq_iff_eq.mpr c26
      have c26b1 : (t114.toList != t115.toList) = false := bne_eq_false_iff_eq.mpr c26
      clear c26
      by_cases c27 : t109.toList = ([] : List UInt8)
      ·
       rw [if_pos c27] at H
       have c27b0 : (t109.toList == ([] : List UInt8)) = true := beq_iff_eq.mpr c27
       have c27b1 : (t109.toList != ([] : List UInt8)) = false := bne_eq_false_iff_eq.mpr c27
       clear c27
       have H' := AM H
       clear H
       try go_wp2
       have _ := AM (kD BK108.out)
       have _ := AM (bD HB.out)
       clear BK108 HB
       rename_i BK108 HB
       refine start_ (n := 35) (S := fun w' => w'.cell? ⟨gb108, 0, none⟩ = some (.int .i64 t101) ∧ w'.cell? ⟨gb108, 1, none⟩ = some (.int .i64 t102) ∧ w'.cell? ⟨gb108, 2, none⟩ = some (.int .i64 t103) ∧ w'.cell? ⟨gb108, 3, none⟩ = some (.string t104) ∧ w'.cell? ⟨gb108, 4, none⟩ = some (.string t105) ∧ w'.cell? ⟨gb108, 5, none⟩ = some (.string t106) ∧ w'.cell? ⟨gb108, 6, none⟩ = some (.int .i64 t107)) (ds := []) (upTo 0 35) (by kernel_rfl) rfl rfl ⟨(kC BK108.out 0).trans rfl, (kC BK108.out 1).trans rfl, (kC BK108.out 2).trans rfl, (kC BK108.out 3).trans rfl, (kC BK108.out 4).trans rfl, (kC BK108.out 5).trans rfl, (kC BK108.out 6).trans rfl⟩ (fun hHeld => ?_); refine with_tabW laws_FnCommand.tab6 laws_FnCommand.bits6 (fun HT_ HW_ => ?_)
       generalize w14.drew = w28 at BK108 HB hHeld ⊢
       refine pF 0 1 35 24 ?_
       refine pT2 1 25 (upTo 2 35) ?_ hHeld
       refine one_ (i := 2) (N := some 26) (upTo 3 35) rfl rfl (one_of HT_.out (by kernel_rfl)) (by decide) (fun K hK => ?_)
       refine goes_ Tryd.func7 (by kernel_rfl) rfl #[.agg #[.int .i64 t101, .int .i64 t102, .int .i64 t103, .string t104, .string t105, .string t106, .int .i64 t107]] (by rfl) rfl rfl (by (try simp only [mA, mB, mC]); first | done | rfl | (simp only [mD, mE]; rfl)) ?_
       with_reducible refine (spec_CommandBytes.calls kj2 t101 t102 t103 t104 t105 t106 t107 t111 _ A15.out).mono ?_
       rintro e w29 ⟨rfl, hb⟩
       refine ⟨_, rfl, ?_⟩
       have _ := AM (nB BK108.out hb)
       have _ := AM (below_step (bX HB.out) hb)
       clear BK108 HB
       rename_i BK108 HB
       (try clear hb)
       (try clear hk)
       refine hK.out _ _ (q7 BK108.out) (fun hHeld => ?_)
       clear hK K
       refine norm_ (a' := ?_) ?_ ?_
       rotate_left
       ·
        show Act.put _ (some 26) _ = _
        simp only [Act.put, sA, sB, sC, i64_w, i32_w]
        rfl
       refine pF 3 4 35 27 ?_
       refine pF 4 5 35 28 ?_
       refine pT2 5 29 (upTo 6 35) ?_ hHeld
       refine pT2 7 31 laws_FnCommand.b0 ?_ hHeld
       refine one_ (i := 6) (N := some 30) (upTo 8 35) rfl rfl (one_of HT_.out (by kernel_rfl)) (by decide) (fun K hK => ?_)
       refine goes_ Tryd.func8 (by kernel_rfl) rfl #[.agg #[.int .i64 t101, .int .i64 t102, .int .i64 t103, .string t104, .string t105, .string t106, .int .i64 t107]] (by rfl) rfl rfl (by (try simp only [mA, mB, mC]); first | done | rfl | (simp only [mD, mE]; rfl)) ?_
       with_reducible refine (impl_CommandRight.calls kj2 t101 t102 t103 t104 t105 t106 t107 t112 _ A17.out).mono ?_
       rintro e w30 ⟨rfl, hb⟩
       refine ⟨_, rfl, ?_⟩
       have _ := AM (nB BK108.out hb)
       have _ := AM (below_step (bX HB.out) hb)
       clear BK108 HB
       rename_i BK108 HB
       (try clear hb)
       (try clear hk)
       refine hK.out _ _ (q7 BK108.out) (fun hHeld => ?_)
       clear hK K
       refine norm_ (a' := ?_) ?_ ?_
       rotate_left
       ·
        show Act.put _ (some 30) _ = _
        simp only [Act.put, sA, sB, sC, i64_w, i32_w]
        rfl
       refine one_ (i := 8) (N := some 32) (upTo 9 35) rfl rfl (one_of HT_.out (by kernel_rfl)) (by decide) (fun K hK => ?_)
       refine goes_ Tryd.func9 (by kernel_rfl) rfl #[.agg #[.int .i64 t101, .int .i64 t102, .int .i64 t103, .string t104, .string t105, .string t106, .int .i64 t107]] (by rfl) rfl rfl (by (try simp only [mA, mB, mC]); first | done | rfl | (simp only [mD, mE]; rfl)) ?_
       with_reducible refine (spec_CommandRight.calls kj2 t101 t102 t103 t104 t105 t106 t107 t113 _ A18.out).mono ?_
       rintro e w31 ⟨rfl, hb⟩
       refine ⟨_, rfl, ?_⟩
       have _ := AM (nB BK108.out hb)
       have _ := AM (below_step (bX HB.out) hb)
       clear BK108 HB
       rename_i BK108 HB
       (try clear hb)
       (try clear hk)
       refine hK.out _ _ (q7 BK108.out) (fun hHeld => ?_)
       clear hK K
       refine norm_ (a' := ?_) ?_ ?_
       rotate_left
       ·
        show Act.put _ (some 32) _ = _
        simp only [Act.put, sA, sB, sC, i64_w, i32_w]
        rfl
       refine pF 9 10 35 33 ?_
       refine pF 10 11 35 34 ?_
       refine pF 11 12 35 35 ?_
       refine pF 12 13 35 36 ?_
       refine pF2 14 38 laws_FnCommand.b1 ?_
       refine one_ (i := 13) (N := some 37) (upTo 15 35) rfl rfl (one_of HT_.out (by kernel_rfl)) (by decide) (fun K hK => ?_)
       refine goes_ Tryd.func10 (by kernel_rfl) rfl #[.int .i64 t110] (by rfl) rfl rfl (by (try simp only [mA, mB, mC]); first | done | rfl | (simp only [mD, mE]; rfl)) ?_
       with_reducible refine (impl_CommandName.calls t110 t114 _ ?sideT A24.out).mono ?_
       (case sideT => exact tabB TAB.out (bX HB.out))
       rintro e w' ⟨rfl, ⟨nd, rfl⟩⟩
       refine ⟨_, rfl, ?_⟩
       refine hK.out _ _ (q7 BK108.out) (fun hHeld => ?_)
       clear hK K
       refine norm_ (a' := ?_) ?_ ?_
       rotate_left
       ·
        show Act.put _ (some 37) _ = _
        simp only [Act.put, sA, sB, sC, i64_w, i32_w]
        rfl
       refine one_ (i := 15) (N := some 39) (upTo 16 35) rfl rfl (one_of HT_.out (by kernel_rfl)) (by decide) (fun K hK => ?_)
       refine goes_ Tryd.func11 (by kernel_rfl) rfl #[.int .i64 t110] (by rfl) rfl rfl (by (try simp only [mA, mB, mC]); first | done | rfl | (simp only [mD, mE]; rfl)) ?_
       with_reducible refine (spec_CommandName.calls t110 t115 _ A25.out).mono ?_
       rintro e w32 ⟨rfl, hb⟩
       refine ⟨_, rfl, ?_⟩
       have _ := AM (nB BK108.out hb)
       have _ := AM (below_step (bX HB.out) hb)
       clear BK108 HB
       rename_i BK108 HB
       (try clear hb)
       (try clear hk)
       refine hK.out _ _ (q7 BK108.out) (fun hHeld => ?_)
       clear hK K
       refine norm_ (a' := ?_) ?_ ?_
       rotate_left
       ·
        show Act.put _ (some 39) _ = _
        simp only [Act.put, sA, sB, sC, i64_w, i32_w]
        rfl
       refine pF 16 17 35 40 ?_
       refine pF 17 18 35 41 ?_
       refine pF 18 19 35 42 ?_
       refine pF 19 20 35 43 ?_
       refine pF 20 21 35 44 ?_
       refine pF 21 22 35 45 ?_
       refine pU 22 23 35 46 ?_
       refine pU 23 24 35 47 ?_
       refine pU 24 25 35 48 ?_
       refine pU 25 26 35 49 ?_
       refine pU 26 27 35 50 ?_
       refine pU 27 28 35 51 ?_
       refine pU 28 29 35 52 ?_
       refine pU 29 30 35 53 ?_
       refine pU 30 31 35 54 ?_
       refine pU 31 32 35 55 ?_
       refine pU 32 33 35 56 ?_
       refine pF 33 34 35 57 ?_
       refine pF 34 35 35 58 ?_
       refine done_ (done_of HT_.out (by kernel_rfl)) ?_
       try go_wp2
       go_meet
       case rel => exact ⟨_, (false), (by first | rfl | (simp; done) | (simp [*]; done)), H', ⟨by have := HJ2.out; first | omega | exact Nat.le_refl _⟩, ⟨kX BK108.out⟩, ⟨bX HB.out⟩⟩
      rw [if_neg c27] at H
      have c27b0 : (t109.toList == ([] : List UInt8)) = false := beq_eq_false_iff_ne.mpr c27
      have c27b1 : (t109.toList != ([] : List UInt8)) = true := bne_iff_ne.mpr c27
      replace H := Option.bind_eq_some_iff.mp H
      obtain ⟨⟨t116, t117, t118, t119, t120, t121, t122, t123⟩, A330, H⟩ := H
      try dsimp only at H
      have A33 := AM A330
      clear A330
      by_cases c34 : ((!(t116 == t101) || (!(t117 == t102) || (!(t118 == t103) || (!(t119.toList == t104.toList) || (!(t120.toList == t105.toList) || (!(t121.toList == t106.toList) || (!(t122 == t107)))))))) || (!(t123 == 0))) = true
      ·
       rw [if_pos c34] at H
       have c34b0 : ((!(t116 == t101) || (!(t117 == t102) || (!(t118 == t103) || (!(t119.toList == t104.toList) || (!(t120.toList == t105.toList) || (!(t121.toList == t106.toList) || (!(t122 == t107)))))))) || (!(t123 == 0))) = true := c34
       clear c34
       have H' := AM H
       clear H
       try go_wp2
       have _ := AM (kD BK108.out)
       have _ := AM (bD HB.out)
       clear BK108 HB
       rename_i BK108 HB
       refine start_ (n := 35) (S := fun w' => w'.cell? ⟨gb108, 0, none⟩ = some (.int .i64 t101) ∧ w'.cell? ⟨gb108, 1, none⟩ = some (.int .i64 t102) ∧ w'.cell? ⟨gb108, 2, none⟩ = some (.int .i64 t103) ∧ w'.cell? ⟨gb108, 3, none⟩ = some (.string t104) ∧ w'.cell? ⟨gb108, 4, none⟩ = some (.string t105) ∧ w'.cell? ⟨gb108, 5, none⟩ = some (.string t106) ∧ w'.cell? ⟨gb108, 6, none⟩ = some (.int .i64 t107)) (ds := []) (upTo 0 35) (by kernel_rfl) rfl rfl ⟨(kC BK108.out 0).trans rfl, (kC BK108.out 1).trans rfl, (kC BK108.out 2).trans rfl, (kC BK108.out 3).trans rfl, (kC BK108.out 4).trans rfl, (kC BK108.out 5).trans rfl, (kC BK108.out 6).trans rfl⟩ (fun hHeld => ?_); refine with_tabW laws_FnCommand.tab6 laws_FnCommand.bits6 (fun HT_ HW_ => ?_)
       generalize w14.drew = w35 at BK108 HB hHeld ⊢
       refine pF 0 1 35 24 ?_
       refine pT2 1 25 (upTo 2 35) ?_ hHeld
       refine one_ (i := 2) (N := some 26) (upTo 3 35) rfl rfl (one_of HT_.out (by kernel_rfl)) (by decide) (fun K hK => ?_)
       refine goes_ Tryd.func7 (by kernel_rfl) rfl #[.agg #[.int .i64 t101, .int .i64 t102, .int .i64 t103, .string t104, .string t105, .string t106, .int .i64 t107]] (by rfl) rfl rfl (by (try simp only [mA, mB, mC]); first | done | rfl | (simp only [mD, mE]; rfl)) ?_
       with_reducible refine (spec_CommandBytes.calls kj2 t101 t102 t103 t104 t105 t106 t107 t111 _ A15.out).mono ?_
       rintro e w36 ⟨rfl, hb⟩
       refine ⟨_, rfl, ?_⟩
       have _ := AM (nB BK108.out hb)
       have _ := AM (below_step (bX HB.out) hb)
       clear BK108 HB
       rename_i BK108 HB
       (try clear hb)
       (try clear hk)
       refine hK.out _ _ (q7 BK108.out) (fun hHeld => ?_)
       clear hK K
       refine norm_ (a' := ?_) ?_ ?_
       rotate_left
       ·
        show Act.put _ (some 26) _ = _
        simp only [Act.put, sA, sB, sC, i64_w, i32_w]
        rfl
       refine pF 3 4 35 27 ?_
       refine pF 4 5 35 28 ?_
       refine pT2 5 29 (upTo 6 35) ?_ hHeld
       refine pT2 7 31 laws_FnCommand.b0 ?_ hHeld
       refine one_ (i := 6) (N := some 30) (upTo 8 35) rfl rfl (one_of HT_.out (by kernel_rfl)) (by decide) (fun K hK => ?_)
       refine goes_ Tryd.func8 (by kernel_rfl) rfl #[.agg #[.int .i64 t101, .int .i64 t102, .int .i64 t103, .string t104, .string t105, .string t106, .int .i64 t107]] (by rfl) rfl rfl (by (try simp only [mA, mB, mC]); first | done | rfl | (simp only [mD, mE]; rfl)) ?_
       with_reducible refine (impl_CommandRight.calls kj2 t101 t102 t103 t104 t105 t106 t107 t112 _ A17.out).mono ?_
       rintro e w37 ⟨rfl, hb⟩
       refine ⟨_, rfl, ?_⟩
       have _ := AM (nB BK108.out hb)
       have _ := AM (below_step (bX HB.out) hb)
       clear BK108 HB
       rename_i BK108 HB
       (try clear hb)
       (try clear hk)
       refine hK.out _ _ (q7 BK108.out) (fun hHeld => ?_)
       clear hK K
       refine norm_ (a' := ?_) ?_ ?_
       rotate_left
       ·
        show Act.put _ (some 30) _ = _
        simp only [Act.put, sA, sB, sC, i64_w, i32_w]
        rfl
       refine one_ (i := 8) (N := some 32) (upTo 9 35) rfl rfl (one_of HT_.out (by kernel_rfl)) (by decide) (fun K hK => ?_)
       refine goes_ Tryd.func9 (by kernel_rfl) rfl #[.agg #[.int .i64 t101, .int .i64 t102, .int .i64 t103, .string t104, .string t105, .string t106, .int .i64 t107]] (by rfl) rfl rfl (by (try simp only [mA, mB, mC]); first | done | rfl | (simp only [mD, mE]; rfl)) ?_
       with_reducible refine (spec_CommandRight.calls kj2 t101 t102 t103 t104 t105 t106 t107 t113 _ A18.out).mono ?_
       rintro e w38 ⟨rfl, hb⟩
       refine ⟨_, rfl, ?_⟩
       have _ := AM (nB BK108.out hb)
       have _ := AM (below_step (bX HB.out) hb)
       clear BK108 HB
       rename_i BK108 HB
       (try clear hb)
       (try clear hk)
       refine hK.out _ _ (q7 BK108.out) (fun hHeld => ?_)
       clear hK K
       refine norm_ (a' := ?_) ?_ ?_
       rotate_left
       ·
        show Act.put _ (some 32) _ = _
        simp only [Act.put, sA, sB, sC, i64_w, i32_w]
        rfl
       refine pF 9 10 35 33 ?_
       refine pF 10 11 35 34 ?_
       refine pF 11 12 35 35 ?_
       refine pF 12 13 35 36 ?_
       refine pF2 14 38 laws_FnCommand.b1 ?_
       refine one_ (i := 13) (N := some 37) (upTo 15 35) rfl rfl (one_of HT_.out (by kernel_rfl)) (by decide) (fun K hK => ?_)
       refine goes_ Tryd.func10 (by kernel_rfl) rfl #[.int .i64 t110] (by rfl) rfl rfl (by (try simp only [mA, mB, mC]); first | done | rfl | (simp only [mD, mE]; rfl)) ?_
       with_reducible refine (impl_CommandName.calls t110 t114 _ ?sideT A24.out).mono ?_
       (case sideT => exact tabB TAB.out (bX HB.out))
       rintro e w' ⟨rfl, ⟨nd, rfl⟩⟩
       refine ⟨_, rfl, ?_⟩
       refine hK.out _ _ (q7 BK108.out) (fun hHeld => ?_)
       clear hK K
       refine norm_ (a' := ?_) ?_ ?_
       rotate_left
       ·
        show Act.put _ (some 37) _ = _
        simp only [Act.put, sA, sB, sC, i64_w, i32_w]
        rfl
       refine one_ (i := 15) (N := some 39) (upTo 16 35) rfl rfl (one_of HT_.out (by kernel_rfl)) (by decide) (fun K hK => ?_)
       refine goes_ Tryd.func11 (by kernel_rfl) rfl #[.int .i64 t110] (by rfl) rfl rfl (by (try simp only [mA, mB, mC]); first | done | rfl | (simp only [mD, mE]; rfl)) ?_
       with_reducible refine (spec_CommandName.calls t110 t115 _ A25.out).mono ?_
       rintro e w39 ⟨rfl, hb⟩
       refine ⟨_, rfl, ?_⟩
       have _ := AM (nB BK108.out hb)
       have _ := AM (below_step (bX HB.out) hb)
       clear BK108 HB
       rename_i BK108 HB
       (try clear hb)
       (try clear hk)
       refine hK.out _ _ (q7 BK108.out) (fun hHeld => ?_)
       clear hK K
       refine norm_ (a' := ?_) ?_ ?_
       rotate_left
       ·
        show Act.put _ (some 39) _ = _
        simp only [Act.put, sA, sB, sC, i64_w, i32_w]
        rfl
       refine pF 16 17 35 40 ?_
       refine pF 17 18 35 41 ?_
       refine pF 18 19 35 42 ?_
       refine pF 19 20 35 43 ?_
       refine pF 20 21 35 44 ?_
       refine pF 21 22 35 45 ?_
       refine pF 22 23 35 46 ?_
       refine pT2 24 48 laws_FnCommand.b2 ?_ hHeld
       refine pF2 25 49 laws_FnCommand.b3 ?_
       refine one_ (i := 23) (N := some 47) (upTo 26 35) rfl rfl (one_of HT_.out (by kernel_rfl)) (by decide) (fun K hK => ?_)
       refine goes_ Tryd.func12 (by kernel_rfl) rfl #[.string t109] (by rfl) rfl rfl (by (try simp only [mA, mB, mC]); first | done | rfl | (simp only [mD, mE]; rfl)) ?_
       with_reducible refine (impl_CommandRead.calls kj2 t109 t116 t117 t118 t119 t120 t121 t122 t123 _ A33.out).mono ?_
       rintro e w40 ⟨rfl, hb⟩
       refine ⟨_, rfl, ?_⟩
       have _ := AM (nB BK108.out hb)
       have _ := AM (below_step (bX HB.out) hb)
       clear BK108 HB
       rename_i BK108 HB
       (try clear hb)
       (try clear hk)
       refine hK.out _ _ (q7 BK108.out) (fun hHeld => ?_)
       clear hK K
       refine norm_ (a' := ?_) ?_ ?_
       rotate_left
       ·
        show Act.put _ (some 47) _ = _
        simp only [Act.put, sA, sB, sC, i64_w, i32_w]
        rfl
       refine pF 26 27 35 50 ?_
       refine pF 27 28 35 51 ?_
       refine pU 28 29 35 52 ?_
       refine pU 29 30 35 53 ?_
       refine pU 30 31 35 54 ?_
       refine pU 31 32 35 55 ?_
       refine pF 32 33 35 56 ?_
       refine pF 33 34 35 57 ?_
       refine pF 34 35 35 58 ?_
       refine done_ (done_of HT_.out (by kernel_rfl)) ?_
       try go_wp2
       go_meet
       case rel => exact ⟨_, (true), (by first | rfl | (simp; done) | (simp [*]; done)), H', ⟨by have := HJ2.out; first | omega | exact Nat.le_refl _⟩, ⟨kX BK108.out⟩, ⟨bX HB.out⟩⟩
      rw [if_neg c34] at H
      have c34b0 : ((!(t116 == t101) || (!(t117 == t102) || (!(t118 == t103) || (!(t119.toList == t104.toList) || (!(t120.toList == t105.toList) || (!(t121.toList == t106.toList) || (!(t122 == t107)))))))) || (!(t123 == 0))) = false := by simpa using c34
      clear c34
      replace H := Option.bind_eq_some_iff.mp H
      obtain ⟨t124, A410, H⟩ := H
      replace H : (laws_FnCommand.j1 kj2 l1 (t124.toList == ([] : List UInt8))) = some r := H
      have A41 := AM A410
      clear A410
      have H' := AM H
      clear H
      try go_wp2
      have _ := AM (kD BK108.out)
      have _ := AM (bD HB.out)
      clear BK108 HB
      rename_i BK108 HB
      refine start_ (n := 35) (S := fun w' => w'.cell? ⟨gb108, 0, none⟩ = some (.int .i64 t101) ∧ w'.cell? ⟨gb108, 1, none⟩ = some (.int .i64 t102) ∧ w'.cell? ⟨gb108, 2, none⟩ = some (.int .i64 t103) ∧ w'.cell? ⟨gb108, 3, none⟩ = some (.string t104) ∧ w'.cell? ⟨gb108, 4, none⟩ = some (.string t105) ∧ w'.cell? ⟨gb108, 5, none⟩ = some (.string t106) ∧ w'.cell? ⟨gb108, 6, none⟩ = some (.int .i64 t107)) (ds := []) (upTo 0 35) (by kernel_rfl) rfl rfl ⟨(kC BK108.out 0).trans rfl, (kC BK108.out 1).trans rfl, (kC BK108.out 2).trans rfl, (kC BK108.out 3).trans rfl, (kC BK108.out 4).trans rfl, (kC BK108.out 5).trans rfl, (kC BK108.out 6).trans rfl⟩ (fun hHeld => ?_); refine with_tabW laws_FnCommand.tab6 laws_FnCommand.bits6 (fun HT_ HW_ => ?_)
      generalize w14.drew = w42 at BK108 HB hHeld ⊢
      refine pF 0 1 35 24 ?_
      refine pT2 1 25 (upTo 2 35) ?_ hHeld
      refine one_ (i := 2) (N := some 26) (upTo 3 35) rfl rfl (one_of HT_.out (by kernel_rfl)) (by decide) (fun K hK => ?_)
      refine goes_ Tryd.func7 (by kernel_rfl) rfl #[.agg #[.int .i64 t101, .int .i64 t102, .int .i64 t103, .string t104, .string t105, .string t106, .int .i64 t107]] (by rfl) rfl rfl (by (try simp only [mA, mB, mC]); first | done | rfl | (simp only [mD, mE]; rfl)) ?_
      with_reducible refine (spec_CommandBytes.calls kj2 t101 t102 t103 t104 t105 t106 t107 t111 _ A15.out).mono ?_
      rintro e w43 ⟨rfl, hb⟩
      refine ⟨_, rfl, ?_⟩
      have _ := AM (nB BK108.out hb)
      have _ := AM (below_step (bX HB.out) hb)
      clear BK108 HB
      rename_i BK108 HB
      (try clear hb)
      (try clear hk)
      refine hK.out _ _ (q7 BK108.out) (fun hHeld => ?_)
      clear hK K
      refine norm_ (a' := ?_) ?_ ?_
      rotate_left
      ·
       show Act.put _ (some 26) _ = _
       simp only [Act.put, sA, sB, sC, i64_w, i32_w]
       rfl
      refine pF 3 4 35 27 ?_
      refine pF 4 5 35 28 ?_
      refine pT2 5 29 (upTo 6 35) ?_ hHeld
      refine pT2 7 31 laws_FnCommand.b0 ?_ hHeld
      refine one_ (i := 6) (N := some 30) (upTo 8 35) rfl rfl (one_of HT_.out (by kernel_rfl)) (by decide) (fun K hK => ?_)
      refine goes_ Tryd.func8 (by kernel_rfl) rfl #[.agg #[.int .i64 t101, .int .i64 t102, .int .i64 t103, .string t104, .string t105, .string t106, .int .i64 t107]] (by rfl) rfl rfl (by (try simp only [mA, mB, mC]); first | done | rfl | (simp only [mD, mE]; rfl)) ?_
      with_reducible refine (impl_CommandRight.calls kj2 t101 t102 t103 t104 t105 t106 t107 t112 _ A17.out).mono ?_
      rintro e w44 ⟨rfl, hb⟩
      refine ⟨_, rfl, ?_⟩
      have _ := AM (nB BK108.out hb)
      have _ := AM (below_step (bX HB.out) hb)
      clear BK108 HB
      rename_i BK108 HB
      (try clear hb)
      (try clear hk)
      refine hK.out _ _ (q7 BK108.out) (fun hHeld => ?_)
      clear hK K
      refine norm_ (a' := ?_) ?_ ?_
      rotate_left
      ·
       show Act.put _ (some 30) _ = _
       simp only [Act.put, sA, sB, sC, i64_w, i32_w]
       rfl
      refine one_ (i := 8) (N := some 32) (upTo 9 35) rfl rfl (one_of HT_.out (by kernel_rfl)) (by decide) (fun K hK => ?_)
      refine goes_ Tryd.func9 (by kernel_rfl) rfl #[.agg #[.int .i64 t101, .int .i64 t102, .int .i64 t103, .string t104, .string t105, .string t106, .int .i64 t107]] (by rfl) rfl rfl (by (try simp only [mA, mB, mC]); first | done | rfl | (simp only [mD, mE]; rfl)) ?_
      with_reducible refine (spec_CommandRight.calls kj2 t101 t102 t103 t104 t105 t106 t107 t113 _ A18.out).mono ?_
      rintro e w45 ⟨rfl, hb⟩
      refine ⟨_, rfl, ?_⟩
      have _ := AM (nB BK108.out hb)
      have _ := AM (below_step (bX HB.out) hb)
      clear BK108 HB
      rename_i BK108 HB
      (try clear hb)
      (try clear hk)
      refine hK.out _ _ (q7 BK108.out) (fun hHeld => ?_)
      clear hK K
      refine norm_ (a' := ?_) ?_ ?_
      rotate_left
      ·
       show Act.put _ (some 32) _ = _
       simp only [Act.put, sA, sB, sC, i64_w, i32_w]
       rfl
      refine pF 9 10 35 33 ?_
      refine pF 10 11 35 34 ?_
      refine pF 11 12 35 35 ?_
      refine pF 12 13 35 36 ?_
      refine pF2 14 38 laws_FnCommand.b1 ?_
      refine one_ (i := 13) (N := some 37) (upTo 15 35) rfl rfl (one_of HT_.out (by kernel_rfl)) (by decide) (fun K hK => ?_)
      refine goes_ Tryd.func10 (by kernel_rfl) rfl #[.int .i64 t110] (by rfl) rfl rfl (by (try simp only [mA, mB, mC]); first | done | rfl | (simp only [mD, mE]; rfl)) ?_
      with_reducible refine (impl_CommandName.calls t110 t114 _ ?sideT A24.out).mono ?_
      (case sideT => exact tabB TAB.out (bX HB.out))
      rintro e w' ⟨rfl, ⟨nd, rfl⟩⟩
      refine ⟨_, rfl, ?_⟩
      refine hK.out _ _ (q7 BK108.out) (fun hHeld => ?_)
      clear hK K
      refine norm_ (a' := ?_) ?_ ?_
      rotate_left
      ·
       show Act.put _ (some 37) _ = _
       simp only [Act.put, sA, sB, sC, i64_w, i32_w]
       rfl
      refine one_ (i := 15) (N := some 39) (upTo 16 35) rfl rfl (one_of HT_.out (by kernel_rfl)) (by decide) (fun K hK => ?_)
      refine goes_ Tryd.func11 (by kernel_rfl) rfl #[.int .i64 t110] (by rfl) rfl rfl (by (try simp only [mA, mB, mC]); first | done | rfl | (simp only [mD, mE]; rfl)) ?_
      with_reducible refine (spec_CommandName.calls t110 t115 _ A25.out).mono ?_
      rintro e w46 ⟨rfl, hb⟩
      refine ⟨_, rfl, ?_⟩
      have _ := AM (nB BK108.out hb)
      have _ := AM (below_step (bX HB.out) hb)
      clear BK108 HB
      rename_i BK108 HB
      (try clear hb)
      (try clear hk)
      refine hK.out _ _ (q7 BK108.out) (fun hHeld => ?_)
      clear hK K
      refine norm_ (a' := ?_) ?_ ?_
      rotate_left
      ·
       show Act.put _ (some 39) _ = _
       simp only [Act.put, sA, sB, sC, i64_w, i32_w]
       rfl
      refine pF 16 17 35 40 ?_
      refine pF 17 18 35 41 ?_
      refine pF 18 19 35 42 ?_
      refine pF 19 20 35 43 ?_
      refine pF 20 21 35 44 ?_
      refine pF 21 22 35 45 ?_
      refine pF 22 23 35 46 ?_
      refine pT2 24 48 laws_FnCommand.b2 ?_ hHeld
      refine pF2 25 49 laws_FnCommand.b3 ?_
      refine one_ (i := 23) (N := some 47) (upTo 26 35) rfl rfl (one_of HT_.out (by kernel_rfl)) (by decide) (fun K hK => ?_)
      refine goes_ Tryd.func12 (by kernel_rfl) rfl #[.string t109] (by rfl) rfl rfl (by (try simp only [mA, mB, mC]); first | done | rfl | (simp only [mD, mE]; rfl)) ?_
      with_reducible refine (impl_CommandRead.calls kj2 t109 t116 t117 t118 t119 t120 t121 t122 t123 _ A33.out).mono ?_
      rintro e w47 ⟨rfl, hb⟩
      refine ⟨_, rfl, ?_⟩
      have _ := AM (nB BK108.out hb)
      have _ := AM (below_step (bX HB.out) hb)
      clear BK108 HB
      rename_i BK108 HB
      (try clear hb)
      (try clear hk)
      refine hK.out _ _ (q7 BK108.out) (fun hHeld => ?_)
      clear hK K
      refine norm_ (a' := ?_) ?_ ?_
      rotate_left
      ·
       show Act.put _ (some 47) _ = _
       simp only [Act.put, sA, sB, sC, i64_w, i32_w]
       rfl
      refine pF 26 27 35 50 ?_
      refine pF 27 28 35 51 ?_
      refine pF 28 29 35 52 ?_
      refine pT2 29 53 (upTo 30 35) ?_ hHeld
      refine one_ (i := 30) (N := some 54) (upTo 31 35) rfl rfl (one_of HT_.out (by kernel_rfl)) (by decide) (fun K hK => ?_)
      refine goes_ Tryd.func10 (by kernel_rfl) rfl #[.int .i64 t103] (by rfl) rfl rfl (by (try simp only [mA, mB, mC]); first | done | rfl | (simp only [mD, mE]; rfl)) ?_
      with_reducible refine (impl_CommandName.calls t103 t124 _ ?sideT A41.out).mono ?_
      (case sideT => exact tabB TAB.out (bX HB.out))
      rintro e w' ⟨rfl, ⟨nd, rfl⟩⟩
      refine ⟨_, rfl, ?_⟩
      refine hK.out _ _ (q7 BK108.out) (fun hHeld => ?_)
      clear hK K
      refine norm_ (a' := ?_) ?_ ?_
      rotate_left
      ·
       show Act.put _ (some 54) _ = _
       simp only [Act.put, sA, sB, sC, i64_w, i32_w]
       rfl
      refine pF 31 32 35 55 ?_
      refine pF 32 33 35 56 ?_
      refine pF 33 34 35 57 ?_
      refine pF 34 35 35 58 ?_
      refine done_ (done_of HT_.out (by kernel_rfl)) ?_
      try go_wp2
      go_meet
      case rel => exact ⟨_, ((t124.toList == ([] : List UInt8))), (by first | rfl | (simp; done) | (simp [*]; done)), H', ⟨by have := HJ2.out; first | omega | exact Nat.le_refl _⟩, ⟨kX BK108.out⟩, ⟨bX HB.out⟩⟩
     rw [if_neg c26] at H
     have c26b0 : (t114.toList == t115.toList) = false := beq_eq_false_iff_ne.mpr c26
     have c26b1 : (t114.toList != t115.toList) = true := bne_iff_ne.mpr c26
     have H' := AM H
     clear H
     try go_wp2
     have _ := AM (kD BK108.out)
     have _ := AM (bD HB.out)
     clear BK108 HB
     rename_i BK108 HB
     refine start_ (n := 35) (S := fun w' => w'.cell? ⟨gb108, 0, none⟩ = some (.int .i64 t101) ∧ w'.cell? ⟨gb108, 1, none⟩ = some (.int .i64 t102) ∧ w'.cell? ⟨gb108, 2, none⟩ = some (.int .i64 t103) ∧ w'.cell? ⟨gb108, 3, none⟩ = some (.string t104) ∧ w'.cell? ⟨gb108, 4, none⟩ = some (.string t105) ∧ w'.cell? ⟨gb108, 5, none⟩ = some (.string t106) ∧ w'.cell? ⟨gb108, 6, none⟩ = some (.int .i64 t107)) (ds := []) (upTo 0 35) (by kernel_rfl) rfl rfl ⟨(kC BK108.out 0).trans rfl, (kC BK108.out 1).trans rfl, (kC BK108.out 2).trans rfl, (kC BK108.out 3).trans rfl, (kC BK108.out 4).trans rfl, (kC BK108.out 5).trans rfl, (kC BK108.out 6).trans rfl⟩ (fun hHeld => ?_); refine with_tabW laws_FnCommand.tab6 laws_FnCommand.bits6 (fun HT_ HW_ => ?_)
     generalize w14.drew = w48 at BK108 HB hHeld ⊢
     refine pF 0 1 35 24 ?_
     refine pT2 1 25 (upTo 2 35) ?_ hHeld
     refine one_ (i := 2) (N := some 26) (upTo 3 35) rfl rfl (one_of HT_.out (by kernel_rfl)) (by decide) (fun K hK => ?_)
     refine goes_ Tryd.func7 (by kernel_rfl) rfl #[.agg #[.int .i64 t101, .int .i64 t102, .int .i64 t103, .string t104, .string t105, .string t106, .int .i64 t107]] (by rfl) rfl rfl (by (try simp only [mA, mB, mC]); first | done | rfl | (simp only [mD, mE]; rfl)) ?_
     with_reducible refine (spec_CommandBytes.calls kj2 t101 t102 t103 t104 t105 t106 t107 t111 _ A15.out).mono ?_
     rintro e w49 ⟨rfl, hb⟩
     refine ⟨_, rfl, ?_⟩
     have _ := AM (nB BK108.out hb)
     have _ := AM (below_step (bX HB.out) hb)
     clear BK108 HB
     rename_i BK108 HB
     (try clear hb)
     (try clear hk)
     refine hK.out _ _ (q7 BK108.out) (fun hHeld => ?_)
     clear hK K
     refine norm_ (a' := ?_) ?_ ?_
     rotate_left
     ·
      show Act.put _ (some 26) _ = _
      simp only [Act.put, sA, sB, sC, i64_w, i32_w]
      rfl
     refine pF 3 4 35 27 ?_
     refine pF 4 5 35 28 ?_
     refine pT2 5 29 (upTo 6 35) ?_ hHeld
     refine pT2 7 31 laws_FnCommand.b0 ?_ hHeld
     refine one_ (i := 6) (N := some 30) (upTo 8 35) rfl rfl (one_of HT_.out (by kernel_rfl)) (by decide) (fun K hK => ?_)
     refine goes_ Tryd.func8 (by kernel_rfl) rfl #[.agg #[.int .i64 t101, .int .i64 t102, .int .i64 t103, .string t104, .string t105, .string t106, .int .i64 t107]] (by rfl) rfl rfl (by (try simp only [mA, mB, mC]); first | done | rfl | (simp only [mD, mE]; rfl)) ?_
     with_reducible refine (impl_CommandRight.calls kj2 t101 t102 t103 t104 t105 t106 t107 t112 _ A17.out).mono ?_
     rintro e w50 ⟨rfl, hb⟩
     refine ⟨_, rfl, ?_⟩
     have _ := AM (nB BK108.out hb)
     have _ := AM (below_step (bX HB.out) hb)
     clear BK108 HB
     rename_i BK108 HB
     (try clear hb)
     (try clear hk)
     refine hK.out _ _ (q7 BK108.out) (fun hHeld => ?_)
     clear hK K
     refine norm_ (a' := ?_) ?_ ?_
     rotate_left
     ·
      show Act.put _ (some 30) _ = _
      simp only [Act.put, sA, sB, sC, i64_w, i32_w]
      rfl
     refine one_ (i := 8) (N := some 32) (upTo 9 35) rfl rfl (one_of HT_.out (by kernel_rfl)) (by decide) (fun K hK => ?_)
     refine goes_ Tryd.func9 (by kernel_rfl) rfl #[.agg #[.int .i64 t101, .int .i64 t102, .int .i64 t103, .string t104, .string t105, .string t106, .int .i64 t107]] (by rfl) rfl rfl (by (try simp only [mA, mB, mC]); first | done | rfl | (simp only [mD, mE]; rfl)) ?_
     with_reducible refine (spec_CommandRight.calls kj2 t101 t102 t103 t104 t105 t106 t107 t113 _ A18.out).mono ?_
     rintro e w51 ⟨rfl, hb⟩
     refine ⟨_, rfl, ?_⟩
     have _ := AM (nB BK108.out hb)
     have _ := AM (below_step (bX HB.out) hb)
     clear BK108 HB
     rename_i BK108 HB
     (try clear hb)
     (try clear hk)
     refine hK.out _ _ (q7 BK108.out) (fun hHeld => ?_)
     clear hK K
     refine norm_ (a' := ?_) ?_ ?_
     rotate_left
     ·
      show Act.put _ (some 32) _ = _
      simp only [Act.put, sA, sB, sC, i64_w, i32_w]
      rfl
     refine pF 9 10 35 33 ?_
     refine pF 10 11 35 34 ?_
     refine pF 11 12 35 35 ?_
     refine pF 12 13 35 36 ?_
     refine pF2 14 38 laws_FnCommand.b1 ?_
     refine one_ (i := 13) (N := some 37) (upTo 15 35) rfl rfl (one_of HT_.out (by kernel_rfl)) (by decide) (fun K hK => ?_)
     refine goes_ Tryd.func10 (by kernel_rfl) rfl #[.int .i64 t110] (by rfl) rfl rfl (by (try simp only [mA, mB, mC]); first | done | rfl | (simp only [mD, mE]; rfl)) ?_
     with_reducible refine (impl_CommandName.calls t110 t114 _ ?sideT A24.out).mono ?_
     (case sideT => exact tabB TAB.out (bX HB.out))
     rintro e w' ⟨rfl, ⟨nd, rfl⟩⟩
     refine ⟨_, rfl, ?_⟩
     refine hK.out _ _ (q7 BK108.out) (fun hHeld => ?_)
     clear hK K
     refine norm_ (a' := ?_) ?_ ?_
     rotate_left
     ·
      show Act.put _ (some 37) _ = _
      simp only [Act.put, sA, sB, sC, i64_w, i32_w]
      rfl
     refine one_ (i := 15) (N := some 39) (upTo 16 35) rfl rfl (one_of HT_.out (by kernel_rfl)) (by decide) (fun K hK => ?_)
     refine goes_ Tryd.func11 (by kernel_rfl) rfl #[.int .i64 t110] (by rfl) rfl rfl (by (try simp only [mA, mB, mC]); first | done | rfl | (simp only [mD, mE]; rfl)) ?_
     with_reducible refine (spec_CommandName.calls t110 t115 _ A25.out).mono ?_
     rintro e w52 ⟨rfl, hb⟩
     refine ⟨_, rfl, ?_⟩
     have _ := AM (nB BK108.out hb)
     have _ := AM (below_step (bX HB.out) hb)
     clear BK108 HB
     rename_i BK108 HB
     (try clear hb)
     (try clear hk)
     refine hK.out _ _ (q7 BK108.out) (fun hHeld => ?_)
     clear hK K
     refine norm_ (a' := ?_) ?_ ?_
     rotate_left
     ·
      show Act.put _ (some 39) _ = _
      simp only [Act.put, sA, sB, sC, i64_w, i32_w]
      rfl
     refine pF 16 17 35 40 ?_
     refine pF 17 18 35 41 ?_
     refine pF 18 19 35 42 ?_
     refine pU 19 20 35 43 ?_
     refine pU 20 21 35 44 ?_
     refine pU 21 22 35 45 ?_
     refine pU 22 23 35 46 ?_
     refine pU 23 24 35 47 ?_
     refine pU 24 25 35 48 ?_
     refine pU 25 26 35 49 ?_
     refine pU 26 27 35 50 ?_
     refine pU 27 28 35 51 ?_
     refine pU 28 29 35 52 ?_
     refine pU 29 30 35 53 ?_
     refine pU 30 31 35 54 ?_
     refine pU 31 32 35 55 ?_
     refine pU 32 33 35 56 ?_
     refine pU 33 34 35 57 ?_
     refine pF 34 35 35 58 ?_
     refine done_ (done_of HT_.out (by kernel_rfl)) ?_
     try go_wp2
     go_meet
     case rel => exact ⟨_, (true), (by first | rfl | (simp; done) | (simp [*]; done)), H', ⟨by have := HJ2.out; first | omega | exact Nat.le_refl _⟩, ⟨kX BK108.out⟩, ⟨bX HB.out⟩⟩
    rw [if_neg c16] at H
    have c16b0 : (t109.toList == t111.toList) = false := beq_eq_false_iff_ne.mpr c16
    have c16b1 : (t109.toList != t111.toList) = true := bne_iff_ne.mpr c16
    (first | rw [c16b0] | (simp only [i64_w, i32_w]; rw [c16b0]) | skip)
    have H' := AM H
    clear H
    try go_wp2
    have _ := AM (kD BK108.out)
    have _ := AM (bD HB.out)
    clear BK108 HB
    rename_i BK108 HB
    refine start_ (n := 35) (S := fun w' => w'.cell? ⟨gb108, 0, none⟩ = some (.int .i64 t101) ∧ w'.cell? ⟨gb108, 1, none⟩ = some (.int .i64 t102) ∧ w'.cell? ⟨gb108, 2, none⟩ = some (.int .i64 t103) ∧ w'.cell? ⟨gb108, 3, none⟩ = some (.string t104) ∧ w'.cell? ⟨gb108, 4, none⟩ = some (.string t105) ∧ w'.cell? ⟨gb108, 5, none⟩ = some (.string t106) ∧ w'.cell? ⟨gb108, 6, none⟩ = some (.int .i64 t107)) (ds := []) (upTo 0 35) (by kernel_rfl) rfl rfl ⟨(kC BK108.out 0).trans rfl, (kC BK108.out 1).trans rfl, (kC BK108.out 2).trans rfl, (kC BK108.out 3).trans rfl, (kC BK108.out 4).trans rfl, (kC BK108.out 5).trans rfl, (kC BK108.out 6).trans rfl⟩ (fun hHeld => ?_); refine with_tabW laws_FnCommand.tab6 laws_FnCommand.bits6 (fun HT_ HW_ => ?_)
    generalize w14.drew = w53 at BK108 HB hHeld ⊢
    refine pF 0 1 35 24 ?_
    refine pT2 1 25 (upTo 2 35) ?_ hHeld
    refine one_ (i := 2) (N := some 26) (upTo 3 35) rfl rfl (one_of HT_.out (by kernel_rfl)) (by decide) (fun K hK => ?_)
    refine goes_ Tryd.func7 (by kernel_rfl) rfl #[.agg #[.int .i64 t101, .int .i64 t102, .int .i64 t103, .string t104, .string t105, .string t106, .int .i64 t107]] (by rfl) rfl rfl (by (try simp only [mA, mB, mC]); first | done | rfl | (simp only [mD, mE]; rfl)) ?_
    with_reducible refine (spec_CommandBytes.calls kj2 t101 t102 t103 t104 t105 t106 t107 t111 _ A15.out).mono ?_
    rintro e w54 ⟨rfl, hb⟩
    refine ⟨_, rfl, ?_⟩
    have _ := AM (nB BK108.out hb)
    have _ := AM (below_step (bX HB.out) hb)
    clear BK108 HB
    rename_i BK108 HB
    (try clear hb)
    (try clear hk)
    refine hK.out _ _ (q7 BK108.out) (fun hHeld => ?_)
    clear hK K
    refine norm_ (a' := ?_) ?_ ?_
    rotate_left
    ·
     show Act.put _ (some 26) _ = _
     simp only [Act.put, sA, sB, sC, i64_w, i32_w]
     rfl
    refine pF 3 4 35 27 ?_
    refine pF 4 5 35 28 ?_
    refine pU 5 6 35 29 ?_
    refine pU 6 7 35 30 ?_
    refine pU 7 8 35 31 ?_
    refine pU 8 9 35 32 ?_
    refine pU 9 10 35 33 ?_
    refine pF 10 11 35 34 ?_
    refine pF 11 12 35 35 ?_
    refine pU 12 13 35 36 ?_
    refine pU 13 14 35 37 ?_
    refine pU 14 15 35 38 ?_
    refine pU 15 16 35 39 ?_
    refine pU 16 17 35 40 ?_
    refine pF 17 18 35 41 ?_
    refine pF 18 19 35 42 ?_
    refine pU 19 20 35 43 ?_
    refine pU 20 21 35 44 ?_
    refine pU 21 22 35 45 ?_
    refine pU 22 23 35 46 ?_
    refine pU 23 24 35 47 ?_
    refine pU 24 25 35 48 ?_
    refine pU 25 26 35 49 ?_
    refine pU 26 27 35 50 ?_
    refine pU 27 28 35 51 ?_
    refine pU 28 29 35 52 ?_
    refine pU 29 30 35 53 ?_
    refine pU 30 31 35 54 ?_
    refine pU 31 32 35 55 ?_
    refine pU 32 33 35 56 ?_
    refine pU 33 34 35 57 ?_
    refine pF 34 35 35 58 ?_
    refine done_ (done_of HT_.out (by kernel_rfl)) ?_
    try go_wp2
    go_meet
    case rel => exact ⟨_, (true), (by first | rfl | (simp; done) | (simp [*]; done)), H', ⟨by have := HJ2.out; first | omega | exact Nat.le_refl _⟩, ⟨kX BK108.out⟩, ⟨bX HB.out⟩⟩
   case rest =>
    clear HC9
    (try clear c1); (try clear c2); (try clear p2); (try clear c7); (try clear c8); (try clear c9); (try clear c10); (try clear c11); (try clear c16); (try clear c16b0); (try clear c16b1); (try clear c26); (try clear c26b0); (try clear c26b1)
    obtain ⟨kq, x58_8, rfl, HA, HJ8, BK108, HB⟩ := hcut
    cases kq with
    | zero => exact absurd HA.out (by simp [laws_FnCommand.j1])
    | succ kj8 =>
     have H := HA.out
     clear HA
     simp only [laws_FnCommand.j1] at H
     by_cases c55 : x58_8 = true
     ·
      subst c55
      have H1 : (none) = some r := by rw [if_pos rfl] at H; exact H
      clear H
      have H := H1
      clear H1
      exact absurd H (by simp)
     replace c55 := Bool.eq_false_iff.mpr c55
     subst c55
     have H1 : ((spec_DrawCommandRead.f kj8 l1).bind fun t125 => ((impl_CommandRead.f kj8 t125).bind fun bt126 => ((spec_CommandRead.f kj8 t125).bind fun bt135 => (if ((bt126.1 == bt135.1 && (bt126.2.1 == bt135.2.1 && (bt126.2.2.1 == bt135.2.2.1 && (bt126.2.2.2.1.toList == bt135.2.2.2.1.toList && (bt126.2.2.2.2.1.toList == bt135.2.2.2.2.1.toList && (bt126.2.2.2.2.2.1.toList == bt135.2.2.2.2.2.1.toList && (bt126.2.2.2.2.2.2.1 == bt135.2.2.2.2.2.2.1))))))) && (bt126.2.2.2.2.2.2.2 == bt135.2.2.2.2.2.2.2)) = true then (if bt126.2.2.2.2.2.2.2 = 0 then ((impl_CommandBytes.f kj8 bt126.1 bt126.2.1 bt126.2.2.1 bt126.2.2.2.1 bt126.2.2.2.2.1 bt126.2.2.2.2.2.1 bt126.2.2.2.2.2.2.1).bind fun t143 => (some (t143.toList == t125.toList))) else (some true)) else (none))))) = some r := by rw [if_neg (show ¬ (false = true) by decide)] at H; exact H
     clear H
     have H := H1
     clear H1
     replace H := Option.bind_eq_some_iff.mp H
     obtain ⟨t125, A560, H⟩ := H
     replace H : ((impl_CommandRead.f kj8 t125).bind fun bt126 => ((spec_CommandRead.f kj8 t125).bind fun bt135 => (if ((bt126.1 == bt135.1 && (bt126.2.1 == bt135.2.1 && (bt126.2.2.1 == bt135.2.2.1 && (bt126.2.2.2.1.toList == bt135.2.2.2.1.toList && (bt126.2.2.2.2.1.toList == bt135.2.2.2.2.1.toList && (bt126.2.2.2.2.2.1.toList == bt135.2.2.2.2.2.1.toList && (bt126.2.2.2.2.2.2.1 == bt135.2.2.2.2.2.2.1))))))) && (bt126.2.2.2.2.2.2.2 == bt135.2.2.2.2.2.2.2)) = true then (if bt126.2.2.2.2.2.2.2 = 0 then ((impl_CommandBytes.f kj8 bt126.1 bt126.2.1 bt126.2.2.1 bt126.2.2.2.1 bt126.2.2.2.2.1 bt126.2.2.2.2.2.1 bt126.2.2.2.2.2.2.1).bind fun t143 => (some (t143.toList == t125.toList))) else (some true)) else (none)))) = some r := H
     have A56 := AM A560
     clear A560
     replace H := Option.bind_eq_some_iff.mp H
     obtain ⟨⟨t126, t127, t128, t129, t130, t131, t132, t133⟩, A570, H⟩ := H
     try dsimp only at H
     have A57 := AM A570
     clear A570
     replace H := Option.bind_eq_some_iff.mp H
     obtain ⟨⟨t135, t136, t137, t138, t139, t140, t141, t142⟩, A580, H⟩ := H
     try dsimp only at H
     have A58 := AM A580
     clear A580
     by_cases c59 : ((t126 == t135 && (t127 == t136 && (t128 == t137 && (t129.toList == t138.toList && (t130.toList == t139.toList && (t131.toList == t140.toList && (t132 == t141))))))) && (t133 == t142)) = true
     ·
      rw [if_pos c59] at H
      have c59b0 : ((t126 == t135 && (t127 == t136 && (t128 == t137 && (t129.toList == t138.toList && (t130.toList == t139.toList && (t131.toList == t140.toList && (t132 == t141))))))) && (t133 == t142)) = true := c59
      clear c59
      by_cases c60 : t133 = 0
      ·
       rw [if_pos c60] at H
       have c60b0 : (t133 == 0) = true := beq_iff_eq.mpr c60
       have c60b1 : (t133 != 0) = false := bne_eq_false_iff_eq.mpr c60
       clear c60
       replace H := Option.bind_eq_some_iff.mp H
       obtain ⟨t143, A610, H⟩ := H
       replace H : (some (t143.toList == t125.toList)) = some r := H
       have A61 := AM A610
       clear A610
       obtain rfl := Option.some.inj H
       try go_wp2_with (first | ((with_reducible refine gate_callee (f := 13) rfl ?_); refine goesL_ (some 60) rfl rfl Tryd.func13 (by kernel_rfl) rfl #[.slice A1 l1.length c1] rfl (by (try simp only [mA, mB, mC]); first | done | rfl | (simp only [mD, mE]; rfl)) ?_; (with_reducible refine (spec_DrawCommandRead.calls kj8 _ _ l1 t125 _ ?side1 ?side2 A56.out).mono ?_); (case side1 => repeat (first | exact (cB HR1.out HB.out) | (with_reducible first | apply cA | apply cN | apply cD))); (case side2 => exact HC1.out); rintro e w62 ⟨rfl, hb⟩; refine ⟨_, rfl, ?_⟩; have _ := AM (nB BK108.out hb); have _ := AM (below_step (bX HB.out) hb); clear BK108 HB; rename_i BK108 HB; (try clear hb); (try clear hk)) | ((with_reducible refine gate_callee (f := 12) rfl ?_); refine goesL_ (some 62) rfl rfl Tryd.func12 (by kernel_rfl) rfl #[.string t125] rfl (by (try simp only [mA, mB, mC]); first | done | rfl | (simp only [mD, mE]; rfl)) ?_; (with_reducible refine (impl_CommandRead.calls kj8 t125 t126 t127 t128 t129 t130 t131 t132 t133 _ A57.out).mono ?_); rintro e w63 ⟨rfl, hb⟩; refine ⟨_, rfl, ?_⟩; have _ := AM (nB BK108.out hb); have _ := AM (below_step (bX HB.out) hb); clear BK108 HB; rename_i BK108 HB; (try clear hb); (try clear hk)) | ((with_reducible refine gate_dst (N := 9) rfl ?_); (try (refine gate_guard (by rfl) ?_; dsimp only)); refine box_event (by rfl) (N := 9) (by rfl) (cs := #[.int .i64 0, .int .i64 0, .int .i64 0, .string (⟨#[]⟩ : ByteArray), .string (⟨#[]⟩ : ByteArray), .string (⟨#[]⟩ : ByteArray), .int .i64 0, .int .i64 0]) (t := 31) (by first | (go_simp; done) | (go_simp; rfl)) ?_; intro gb134 hg w64 hbox hb; have _ := AM (nB BK108.out hb); have _ := AM (below_step (bX HB.out) hb); have _ := AM (hbox); have n3_ := AM ((by rw [hg]; exact (bZ (bX HB.out)) : w.heap.size ≤ gb134)); have _ := AM (lX hg BK108.out); have _ := AM (lX hg BK108.out).symm; clear BK108 HB; rename_i BK108 HB BK134 NB108_134 NB134_108; have GW134 := n3_; have GE134 := n3_; clear n3_; clear hb hbox hg; have hnb65 := NB134_108.out; have hnc65 := NB108_134.out; have hcz66 := q8 BK134.out; have hfz66 := fZ BK134.out))
       have n0_ : Aside0 (((((((((w64.setCell ⟨gb134, 0, none⟩ (.int .i64 t126)).setCell ⟨gb134, 1, none⟩ (.int .i64 t127)).setCell ⟨gb134, 2, none⟩ (.int .i64 t128)).setCell ⟨gb134, 3, none⟩ (.string t129)).setCell ⟨gb134, 4, none⟩ (.string t130)).setCell ⟨gb134, 5, none⟩ (.string t131)).setCell ⟨gb134, 6, none⟩ (.int .i64 t132)).setCell ⟨gb134, 7, none⟩ (.int .i64 t133)).heap[gb108]? = some (.cells #[.int .i64 t101, .int .i64 t102, .int .i64 t103, .string t104, .string t105, .string t106, .int .i64 t107] 24 (0, 0))) := ⟨by (iterate 8 refine kF NB108_134.out ?_); (with_reducible repeat (first | apply kN | apply kD | apply kA)); exact BK108.out⟩
       have n1_ : Aside0 (((((((((w64.setCell ⟨gb134, 0, none⟩ (.int .i64 t126)).setCell ⟨gb134, 1, none⟩ (.int .i64 t127)).setCell ⟨gb134, 2, none⟩ (.int .i64 t128)).setCell ⟨gb134, 3, none⟩ (.string t129)).setCell ⟨gb134, 4, none⟩ (.string t130)).setCell ⟨gb134, 5, none⟩ (.string t131)).setCell ⟨gb134, 6, none⟩ (.int .i64 t132)).setCell ⟨gb134, 7, none⟩ (.int .i64 t133)).heap[gb134]? = some (.cells #[.int .i64 t126, .int .i64 t127, .int .i64 t128, .string t129, .string t130, .string t131, .int .i64 t132, .int .i64 t133] 31 (0, 0))) := ⟨by refine kP (cs := #[.int .i64 t126, .int .i64 t127, .int .i64 t128, .string t129, .string t130, .string t131, .int .i64 t132, .int .i64 0]) 7 ?_; refine kP (cs := #[.int .i64 t126, .int .i64 t127, .int .i64 t128, .string t129, .string t130, .string t131, .int .i64 0, .int .i64 0]) 6 ?_; refine kP (cs := #[.int .i64 t126, .int .i64 t127, .int .i64 t128, .string t129, .string t130, .string (⟨#[]⟩ : ByteArray), .int .i64 0, .int .i64 0]) 5 ?_; refine kP (cs := #[.int .i64 t126, .int .i64 t127, .int .i64 t128, .string t129, .string (⟨#[]⟩ : ByteArray), .string (⟨#[]⟩ : ByteArray), .int .i64 0, .int .i64 0]) 4 ?_; refine kP (cs := #[.int .i64 t126, .int .i64 t127, .int .i64 t128, .string (⟨#[]⟩ : ByteArray), .string (⟨#[]⟩ : ByteArray), .string (⟨#[]⟩ : ByteArray), .int .i64 0, .int .i64 0]) 3 ?_; refine kP (cs := #[.int .i64 t126, .int .i64 t127, .int .i64 0, .string (⟨#[]⟩ : ByteArray), .string (⟨#[]⟩ : ByteArray), .string (⟨#[]⟩ : ByteArray), .int .i64 0, .int .i64 0]) 2 ?_; refine kP (cs := #[.int .i64 t126, .int .i64 0, .int .i64 0, .string (⟨#[]⟩ : ByteArray), .string (⟨#[]⟩ : ByteArray), .string (⟨#[]⟩ : ByteArray), .int .i64 0, .int .i64 0]) 1 ?_; refine kP (cs := #[.int .i64 0, .int .i64 0, .int .i64 0, .string (⟨#[]⟩ : ByteArray), .string (⟨#[]⟩ : ByteArray), .string (⟨#[]⟩ : ByteArray), .int .i64 0, .int .i64 0]) 0 ?_; (with_reducible repeat (first | apply kN | apply kD | apply kA)); exact BK134.out⟩
       have n2_ : Aside0 (Below w.heap.size w ((((((((w64.setCell ⟨gb134, 0, none⟩ (.int .i64 t126)).setCell ⟨gb134, 1, none⟩ (.int .i64 t127)).setCell ⟨gb134, 2, none⟩ (.int .i64 t128)).setCell ⟨gb134, 3, none⟩ (.string t129)).setCell ⟨gb134, 4, none⟩ (.string t130)).setCell ⟨gb134, 5, none⟩ (.string t131)).setCell ⟨gb134, 6, none⟩ (.int .i64 t132)).setCell ⟨gb134, 7, none⟩ (.int .i64 t133))) := ⟨bX HB.out⟩
       (try clear BK108)
       (try clear BK134)
       (try clear HB)
       generalize ((((((((w64.setCell ⟨gb134, 0, none⟩ (.int .i64 t126)).setCell ⟨gb134, 1, none⟩ (.int .i64 t127)).setCell ⟨gb134, 2, none⟩ (.int .i64 t128)).setCell ⟨gb134, 3, none⟩ (.string t129)).setCell ⟨gb134, 4, none⟩ (.string t130)).setCell ⟨gb134, 5, none⟩ (.string t131)).setCell ⟨gb134, 6, none⟩ (.int .i64 t132)).setCell ⟨gb134, 7, none⟩ (.int .i64 t133)) = w67 at n0_ n1_ n2_ ⊢
       have BK108 := n0_
       have BK134 := n1_
       have HB := n2_
       clear n0_ n1_ n2_
       have _ := AM (kD BK108.out)
       have _ := AM (kD BK134.out)
       have _ := AM (bD HB.out)
       clear BK108 BK134 HB
       rename_i BK108 BK134 HB
       refine start_ (n := 17) (S := fun w' => w'.cell? ⟨gb134, 0, none⟩ = some (.int .i64 t126) ∧ w'.cell? ⟨gb134, 1, none⟩ = some (.int .i64 t127) ∧ w'.cell? ⟨gb134, 2, none⟩ = some (.int .i64 t128) ∧ w'.cell? ⟨gb134, 3, none⟩ = some (.string t129) ∧ w'.cell? ⟨gb134, 4, none⟩ = some (.string t130) ∧ w'.cell? ⟨gb134, 5, none⟩ = some (.string t131) ∧ w'.cell? ⟨gb134, 6, none⟩ = some (.int .i64 t132) ∧ w'.cell? ⟨gb134, 7, none⟩ = some (.int .i64 t133)) (ds := []) (upTo 0 17) (by kernel_rfl) rfl rfl ⟨(kC BK134.out 0).trans rfl, (kC BK134.out 1).trans rfl, (kC BK134.out 2).trans rfl, (kC BK134.out 3).trans rfl, (kC BK134.out 4).trans rfl, (kC BK134.out 5).trans rfl, (kC BK134.out 6).trans rfl, (kC BK134.out 7).trans rfl⟩ (fun hHeld => ?_); refine with_tabW laws_FnCommand.tab10 laws_FnCommand.bits10 (fun HT_ HW_ => ?_)
       generalize w67.drew = w68 at BK108 BK134 HB hHeld ⊢
       refine pF2 1 64 laws_FnCommand.b4 ?_
       refine pT2 0 63 (upTo 2 17) ?_ hHeld
       refine one_ (i := 2) (N := some 65) (upTo 3 17) rfl rfl (one_of HT_.out (by kernel_rfl)) (by decide) (fun K hK => ?_)
       refine goes_ Tryd.func14 (by kernel_rfl) rfl #[.string t125] (by rfl) rfl rfl (by (try simp only [mA, mB, mC]); first | done | rfl | (simp only [mD, mE]; rfl)) ?_
       with_reducible refine (spec_CommandRead.calls kj8 t125 t135 t136 t137 t138 t139 t140 t141 t142 _ A58.out).mono ?_
       rintro e w69 ⟨rfl, hb⟩
       refine ⟨_, rfl, ?_⟩
       have _ := AM (nB BK108.out hb)
       have _ := AM (nB BK134.out hb)
       have _ := AM (below_step (bX HB.out) hb)
       clear BK108 BK134 HB
       rename_i BK108 BK134 HB
       (try clear hb)
       (try clear hk)
       refine hK.out _ _ (q8 BK134.out) (fun hHeld => ?_)
       clear hK K
       refine norm_ (a' := ?_) ?_ ?_
       rotate_left
       ·
        show Act.put _ (some 65) _ = _
        simp only [Act.put, sA, sB, sC, i64_w, i32_w]
        rfl
       refine pF 3 4 17 66 ?_
       refine pF 4 5 17 67 ?_
       refine pF 5 6 17 68 ?_
       refine pT2 6 69 (upTo 7 17) ?_ hHeld
       refine pF 7 8 17 70 ?_
       refine pF 8 9 17 71 ?_
       refine pF 9 10 17 72 ?_
       refine pF2 12 75 laws_FnCommand.b5 ?_
       refine pT2 10 73 laws_FnCommand.b6 ?_ hHeld
       refine one_ (i := 11) (N := some 74) (upTo 13 17) rfl rfl (one_of HT_.out (by kernel_rfl)) (by decide) (fun K hK => ?_)
       refine goes_ Tryd.func5 (by kernel_rfl) rfl #[.agg #[.int .i64 t126, .int .i64 t127, .int .i64 t128, .string t129, .string t130, .string t131, .int .i64 t132]] (by rfl) rfl rfl (by (try simp only [mA, mB, mC]); first | done | rfl | (simp only [mD, mE]; rfl)) ?_
       with_reducible refine (impl_CommandBytes.calls kj8 t126 t127 t128 t129 t130 t131 t132 t143 _ A61.out).mono ?_
       rintro e w70 ⟨rfl, hb⟩
       refine ⟨_, rfl, ?_⟩
       have _ := AM (nB BK108.out hb)
       have _ := AM (nB BK134.out hb)
       have _ := AM (below_step (bX HB.out) hb)
       clear BK108 BK134 HB
       rename_i BK108 BK134 HB
       (try clear hb)
       (try clear hk)
       refine hK.out _ _ (q8 BK134.out) (fun hHeld => ?_)
       clear hK K
       refine norm_ (a' := ?_) ?_ ?_
       rotate_left
       ·
        show Act.put _ (some 74) _ = _
        simp only [Act.put, sA, sB, sC, i64_w, i32_w]
        rfl
       refine pF 13 14 17 76 ?_
       refine pF 14 15 17 77 ?_
       refine pF 15 16 17 78 ?_
       refine pF 16 17 17 4 ?_
       refine done_ (done_of HT_.out (by kernel_rfl)) ?_
       try go_wp2
       go_ret
       exact ⟨by first | rfl | (simp [*, errW_none, errW_some] <;> rfl), bX HB.out⟩
      rw [if_neg c60] at H
      have c60b0 : (t133 == 0) = false := beq_eq_false_iff_ne.mpr c60
      have c60b1 : (t133 != 0) = true := bne_iff_ne.mpr c60
      obtain rfl := Option.some.inj H
      try go_wp2_with (first | ((with_reducible refine gate_callee (f := 13) rfl ?_); refine goesL_ (some 60) rfl rfl Tryd.func13 (by kernel_rfl) rfl #[.slice A1 l1.length c1] rfl (by (try simp only [mA, mB, mC]); first | done | rfl | (simp only [mD, mE]; rfl)) ?_; (with_reducible refine (spec_DrawCommandRead.calls kj8 _ _ l1 t125 _ ?side1 ?side2 A56.out).mono ?_); (case side1 => repeat (first | exact (cB HR1.out HB.out) | (with_reducible first | apply cA | apply cN | apply cD))); (case side2 => exact HC1.out); rintro e w71 ⟨rfl, hb⟩; refine ⟨_, rfl, ?_⟩; have _ := AM (nB BK108.out hb); have _ := AM (below_step (bX HB.out) hb); clear BK108 HB; rename_i BK108 HB; (try clear hb); (try clear hk)) | ((with_reducible refine gate_callee (f := 12) rfl ?_); refine goesL_ (some 62) rfl rfl Tryd.func12 (by kernel_rfl) rfl #[.string t125] rfl (by (try simp only [mA, mB, mC]); first | done | rfl | (simp only [mD, mE]; rfl)) ?_; (with_reducible refine (impl_CommandRead.calls kj8 t125 t126 t127 t128 t129 t130 t131 t132 t133 _ A57.out).mono ?_); rintro e w72 ⟨rfl, hb⟩; refine ⟨_, rfl, ?_⟩; have _ := AM (nB BK108.out hb); have _ := AM (below_step (bX HB.out) hb); clear BK108 HB; rename_i BK108 HB; (try clear hb); (try clear hk)) | ((with_reducible refine gate_dst (N := 9) rfl ?_); (try (refine gate_guard (by rfl) ?_; dsimp only)); refine box_event (by rfl) (N := 9) (by rfl) (cs := #[.int .i64 0, .int .i64 0, .int .i64 0, .string (⟨#[]⟩ : ByteArray), .string (⟨#[]⟩ : ByteArray), .string (⟨#[]⟩ : ByteArray), .int .i64 0, .int .i64 0]) (t := 31) (by first | (go_simp; done) | (go_simp; rfl)) ?_; intro gb134 hg w73 hbox hb; have _ := AM (nB BK108.out hb); have _ := AM (below_step (bX HB.out) hb); have _ := AM (hbox); have n3_ := AM ((by rw [hg]; exact (bZ (bX HB.out)) : w.heap.size ≤ gb134)); have _ := AM (lX hg BK108.out); have _ := AM (lX hg BK108.out).symm; clear BK108 HB; rename_i BK108 HB BK134 NB108_134 NB134_108; have GW134 := n3_; have GE134 := n3_; clear n3_; clear hb hbox hg; have hnb74 := NB134_108.out; have hnc74 := NB108_134.out; have hcz75 := q8 BK134.out; have hfz75 := fZ BK134.out))
      have n0_ : Aside0 (((((((((w73.setCell ⟨gb134, 0, none⟩ (.int .i64 t126)).setCell ⟨gb134, 1, none⟩ (.int .i64 t127)).setCell ⟨gb134, 2, none⟩ (.int .i64 t128)).setCell ⟨gb134, 3, none⟩ (.string t129)).setCell ⟨gb134, 4, none⟩ (.string t130)).setCell ⟨gb134, 5, none⟩ (.string t131)).setCell ⟨gb134, 6, none⟩ (.int .i64 t132)).setCell ⟨gb134, 7, none⟩ (.int .i64 t133)).heap[gb108]? = some (.cells #[.int .i64 t101, .int .i64 t102, .int .i64 t103, .string t104, .string t105, .string t106, .int .i64 t107] 24 (0, 0))) := ⟨by (iterate 8 refine kF NB108_134.out ?_); (with_reducible repeat (first | apply kN | apply kD | apply kA)); exact BK108.out⟩
      have n1_ : Aside0 (((((((((w73.setCell ⟨gb134, 0, none⟩ (.int .i64 t126)).setCell ⟨gb134, 1, none⟩ (.int .i64 t127)).setCell ⟨gb134, 2, none⟩ (.int .i64 t128)).setCell ⟨gb134, 3, none⟩ (.string t129)).setCell ⟨gb134, 4, none⟩ (.string t130)).setCell ⟨gb134, 5, none⟩ (.string t131)).setCell ⟨gb134, 6, none⟩ (.int .i64 t132)).setCell ⟨gb134, 7, none⟩ (.int .i64 t133)).heap[gb134]? = some (.cells #[.int .i64 t126, .int .i64 t127, .int .i64 t128, .string t129, .string t130, .string t131, .int .i64 t132, .int .i64 t133] 31 (0, 0))) := ⟨by refine kP (cs := #[.int .i64 t126, .int .i64 t127, .int .i64 t128, .string t129, .string t130, .string t131, .int .i64 t132, .int .i64 0]) 7 ?_; refine kP (cs := #[.int .i64 t126, .int .i64 t127, .int .i64 t128, .string t129, .string t130, .string t131, .int .i64 0, .int .i64 0]) 6 ?_; refine kP (cs := #[.int .i64 t126, .int .i64 t127, .int .i64 t128, .string t129, .string t130, .string (⟨#[]⟩ : ByteArray), .int .i64 0, .int .i64 0]) 5 ?_; refine kP (cs := #[.int .i64 t126, .int .i64 t127, .int .i64 t128, .string t129, .string (⟨#[]⟩ : ByteArray), .string (⟨#[]⟩ : ByteArray), .int .i64 0, .int .i64 0]) 4 ?_; refine kP (cs := #[.int .i64 t126, .int .i64 t127, .int .i64 t128, .string (⟨#[]⟩ : ByteArray), .string (⟨#[]⟩ : ByteArray), .string (⟨#[]⟩ : ByteArray), .int .i64 0, .int .i64 0]) 3 ?_; refine kP (cs := #[.int .i64 t126, .int .i64 t127, .int .i64 0, .string (⟨#[]⟩ : ByteArray), .string (⟨#[]⟩ : ByteArray), .string (⟨#[]⟩ : ByteArray), .int .i64 0, .int .i64 0]) 2 ?_; refine kP (cs := #[.int .i64 t126, .int .i64 0, .int .i64 0, .string (⟨#[]⟩ : ByteArray), .string (⟨#[]⟩ : ByteArray), .string (⟨#[]⟩ : ByteArray), .int .i64 0, .int .i64 0]) 1 ?_; refine kP (cs := #[.int .i64 0, .int .i64 0, .int .i64 0, .string (⟨#[]⟩ : ByteArray), .string (⟨#[]⟩ : ByteArray), .string (⟨#[]⟩ : ByteArray), .int .i64 0, .int .i64 0]) 0 ?_; (with_reducible repeat (first | apply kN | apply kD | apply kA)); exact BK134.out⟩
      have n2_ : Aside0 (Below w.heap.size w ((((((((w73.setCell ⟨gb134, 0, none⟩ (.int .i64 t126)).setCell ⟨gb134, 1, none⟩ (.int .i64 t127)).setCell ⟨gb134, 2, none⟩ (.int .i64 t128)).setCell ⟨gb134, 3, none⟩ (.string t129)).setCell ⟨gb134, 4, none⟩ (.string t130)).setCell ⟨gb134, 5, none⟩ (.string t131)).setCell ⟨gb134, 6, none⟩ (.int .i64 t132)).setCell ⟨gb134, 7, none⟩ (.int .i64 t133))) := ⟨bX HB.out⟩
      (try clear BK108)
      (try clear BK134)
      (try clear HB)
      generalize ((((((((w73.setCell ⟨gb134, 0, none⟩ (.int .i64 t126)).setCell ⟨gb134, 1, none⟩ (.int .i64 t127)).setCell ⟨gb134, 2, none⟩ (.int .i64 t128)).setCell ⟨gb134, 3, none⟩ (.string t129)).setCell ⟨gb134, 4, none⟩ (.string t130)).setCell ⟨gb134, 5, none⟩ (.string t131)).setCell ⟨gb134, 6, none⟩ (.int .i64 t132)).setCell ⟨gb134, 7, none⟩ (.int .i64 t133)) = w76 at n0_ n1_ n2_ ⊢
      have BK108 := n0_
      have BK134 := n1_
      have HB := n2_
      clear n0_ n1_ n2_
      have _ := AM (kD BK108.out)
      have _ := AM (kD BK134.out)
      have _ := AM (bD HB.out)
      clear BK108 BK134 HB
      rename_i BK108 BK134 HB
      refine start_ (n := 17) (S := fun w' => w'.cell? ⟨gb134, 0, none⟩ = some (.int .i64 t126) ∧ w'.cell? ⟨gb134, 1, none⟩ = some (.int .i64 t127) ∧ w'.cell? ⟨gb134, 2, none⟩ = some (.int .i64 t128) ∧ w'.cell? ⟨gb134, 3, none⟩ = some (.string t129) ∧ w'.cell? ⟨gb134, 4, none⟩ = some (.string t130) ∧ w'.cell? ⟨gb134, 5, none⟩ = some (.string t131) ∧ w'.cell? ⟨gb134, 6, none⟩ = some (.int .i64 t132) ∧ w'.cell? ⟨gb134, 7, none⟩ = some (.int .i64 t133)) (ds := []) (upTo 0 17) (by kernel_rfl) rfl rfl ⟨(kC BK134.out 0).trans rfl, (kC BK134.out 1).trans rfl, (kC BK134.out 2).trans rfl, (kC BK134.out 3).trans rfl, (kC BK134.out 4).trans rfl, (kC BK134.out 5).trans rfl, (kC BK134.out 6).trans rfl, (kC BK134.out 7).trans rfl⟩ (fun hHeld => ?_); refine with_tabW laws_FnCommand.tab10 laws_FnCommand.bits10 (fun HT_ HW_ => ?_)
      generalize w76.drew = w77 at BK108 BK134 HB hHeld ⊢
      refine pF2 1 64 laws_FnCommand.b4 ?_
      refine pT2 0 63 (upTo 2 17) ?_ hHeld
      refine one_ (i := 2) (N := some 65) (upTo 3 17) rfl rfl (one_of HT_.out (by kernel_rfl)) (by decide) (fun K hK => ?_)
      refine goes_ Tryd.func14 (by kernel_rfl) rfl #[.string t125] (by rfl) rfl rfl (by (try simp only [mA, mB, mC]); first | done | rfl | (simp only [mD, mE]; rfl)) ?_
      with_reducible refine (spec_CommandRead.calls kj8 t125 t135 t136 t137 t138 t139 t140 t141 t142 _ A58.out).mono ?_
      rintro e w78 ⟨rfl, hb⟩
      refine ⟨_, rfl, ?_⟩
      have _ := AM (nB BK108.out hb)
      have _ := AM (nB BK134.out hb)
      have _ := AM (below_step (bX HB.out) hb)
      clear BK108 BK134 HB
      rename_i BK108 BK134 HB
      (try clear hb)
      (try clear hk)
      refine hK.out _ _ (q8 BK134.out) (fun hHeld => ?_)
      clear hK K
      refine norm_ (a' := ?_) ?_ ?_
      rotate_left
      ·
       show Act.put _ (some 65) _ = _
       simp only [Act.put, sA, sB, sC, i64_w, i32_w]
       rfl
      refine pF 3 4 17 66 ?_
      refine pF 4 5 17 67 ?_
      refine pF 5 6 17 68 ?_
      refine pT2 6 69 (upTo 7 17) ?_ hHeld
      refine pF 7 8 17 70 ?_
      refine pF 8 9 17 71 ?_
      refine pU 9 10 17 72 ?_
      refine pU 10 11 17 73 ?_
      refine pU 11 12 17 74 ?_
      refine pU 12 13 17 75 ?_
      refine pU 13 14 17 76 ?_
      refine pF 14 15 17 77 ?_
      refine pF 15 16 17 78 ?_
      refine pF 16 17 17 4 ?_
      refine done_ (done_of HT_.out (by kernel_rfl)) ?_
      try go_wp2
      go_ret
      exact ⟨by first | rfl | (simp [*, errW_none, errW_some] <;> rfl), bX HB.out⟩
     rw [if_neg c59] at H
     have c59b0 : ((t126 == t135 && (t127 == t136 && (t128 == t137 && (t129.toList == t138.toList && (t130.toList == t139.toList && (t131.toList == t140.toList && (t132 == t141))))))) && (t133 == t142)) = false := by simpa using c59
     clear c59
     exact absurd H (by simp)

end Go.Proofs.YtbediildfabhnaaDoor.Q
