/- Printed by a program of this session (wip/mp.py over the kit's print.py): functions of the translation as plain Lean functions, and that the machine's calls do what these say. -/
import Derived.Test.YtcnilcipcnjmjaaQx0
import Derived.Test.YtcnilcipcnjmjaaQx2
import Derived.Test.YtcnilcipcnjmjaaQx4
import Derived.Test.YtcnilcipcnjmjaaQx5
import Derived.Test.YtcnilcipcnjmjaaQx9
namespace Go.Proofs.Ytcnilcipcnjmjaa.Q
open Go.RowKit Go.Proofs.Ytcnilcipcnjmjaa.HB Go.Proofs.YtcnilcipcnjmjaaW.PrintWords Go.Proofs.YtcnilcipcnjmjaaW.PrintLast Go.Proofs.YtcnilcipcnjmjaaW.PrintMore
attribute [local go_sem] max2_int min2_int max_two min_two max_three min_three max_four min_four   -- for this text's walks alone
set_option linter.unusedVariables false
set_option linter.unusedSimpArgs false

/-! ### spec_l01Src_l07Topic: function 20 -/
abbrev spec_l01Src_l07Topic.b0 : Array Bool := #[false, true, false, false, false, false, false, false, false, false, false]
abbrev spec_l01Src_l07Topic.b1 : Array Bool := #[false, true, false, false, true, false, false, false, false, false, false]
abbrev spec_l01Src_l07Topic.b2 : Array Bool := #[false, true, false, false, true, false, true, false, false, false, false]
abbrev spec_l01Src_l07Topic.b3 : Array Bool := #[true, true, false, false, true, false, true, false, false, false, false]
abbrev spec_l01Src_l07Topic.b4 : Array Bool := #[true, true, false, false, true, true, true, false, false, false, false]
abbrev spec_l01Src_l07Topic.b5 : Array Bool := #[true, true, true, false, true, true, true, false, false, false, false]
abbrev spec_l01Src_l07Topic.b6 : Array Bool := #[true, false, false, false, false, true, false, false, false, false, false]
abbrev spec_l01Src_l07Topic.b7 : Array Bool := #[true, true, false, false, false, true, false, false, false, false, false]
abbrev spec_l01Src_l07Topic.b8 : Array Bool := #[true, true, true, false, false, true, false, false, false, false, false]
abbrev spec_l01Src_l07Topic.b9 : Array Bool := #[true, true, true, true, false, true, false, false, false, false, false]
abbrev spec_l01Src_l07Topic.b10 : Array Bool := #[true, true, true, true, false, true, true, false, false, false, false]
abbrev spec_l01Src_l07Topic.b11 : Array Bool := #[true, false, true, false, false, false, false, false, false, false, false, false, false]
abbrev spec_l01Src_l07Topic.b12 : Array Bool := #[true, false, true, false, true, false, false, false, false, false, false, false, false]
abbrev spec_l01Src_l07Topic.b13 : Array Bool := #[true, true, true, false, true, false, false, false, false, false, false, false, false]
mutual
def spec_l01Src_l07Topic.l0 : Nat → Int → List Int → Int → Int → Int → ByteArray → Int → List ByteArray → List (S36) → Option (ByteArray × Int × List ByteArray × (List (S36)) × Int × Int × Int)
  | 0, _, _, _, _, _, _, _, _, _ => none
  | k + 1, x4, x1000, x1001, x1002, x1003, x107000, x107001, x107002, x107003 => if x4 > 0 then ((spec_l01Src_pick.f x1000 x1001 x1002 x1003 (([(⟨#[120]⟩ : ByteArray), (⟨#[121, 121]⟩ : ByteArray)] : List ByteArray))).bind fun bt114 => ((spec_TopicPublish.f k x107000 x107001 x107002 x107003 bt114.1).bind fun bt118 => ((spec_l01Src_n.f x1000 bt114.2.1 bt114.2.2.1 bt114.2.2.2 6).bind fun bt132 => (if bt132.1 = 0 then ((spec_l01Src_pick.f x1000 bt132.2.1 bt132.2.2.1 bt132.2.2.2 (([(⟨#[103]⟩ : ByteArray), (⟨#[104]⟩ : ByteArray), (⟨#[105]⟩ : ByteArray)] : List ByteArray))).bind fun bt139 => ((spec_l01Src_n.f x1000 bt139.2.1 bt139.2.2.1 bt139.2.2.2 4).bind fun bt143 => ((spec_TopicAck.f k x107000 x107001 x107002 x107003 bt139.1 (wrap64 (x107001 + bt143.1))).bind fun bt147 => (spec_l01Src_l07Topic.j1 k x4 x1000 bt143.2.1 bt143.2.2.1 bt143.2.2.2 x107000 x107001 x107002 x107003 bt147.1 bt147.2.1 bt147.2.2.1 bt147.2.2.2.1 bt147.2.2.2.2.1 bt147.2.2.2.2.2.1 bt147.2.2.2.2.2.2)))) else (if bt132.1 = 1 then ((spec_l01Src_pick.f x1000 bt132.2.1 bt132.2.2.1 bt132.2.2.2 (([(⟨#[103]⟩ : ByteArray), (⟨#[104]⟩ : ByteArray)] : List ByteArray))).bind fun bt163 => ((spec_l01Src_n.f x1000 bt163.2.1 bt163.2.2.1 bt163.2.2.2 4).bind fun bt167 => ((spec_TopicSeek.f k x107000 x107001 x107002 x107003 bt163.1 (wrap64 (x107001 + bt167.1))).bind fun bt171 => (spec_l01Src_l07Topic.j1 k x4 x1000 bt167.2.1 bt167.2.2.1 bt167.2.2.2 x107000 x107001 x107002 x107003 bt171.1 bt171.2.1 bt171.2.2.1 bt171.2.2.2.1 bt171.2.2.2.2.1 bt171.2.2.2.2.2.1 bt171.2.2.2.2.2.2)))) else (if bt132.1 = 2 then ((spec_l01Src_n.f x1000 bt132.2.1 bt132.2.2.1 bt132.2.2.2 6).bind fun bt184 => ((spec_TopicRetain.f k x107000 x107001 x107002 x107003 bt184.1).bind fun bt188 => (spec_l01Src_l07Topic.j1 k x4 x1000 bt184.2.1 bt184.2.2.1 bt184.2.2.2 x107000 x107001 x107002 x107003 bt188.1 bt188.2.1 bt188.2.2.1 bt188.2.2.2.1 bt188.2.2.2.2.1 bt188.2.2.2.2.2.1 bt188.2.2.2.2.2.2))) else (spec_l01Src_l07Topic.j1 k x4 x1000 bt132.2.1 bt132.2.2.1 bt132.2.2.2 x107000 x107001 x107002 x107003 bt118.1 bt118.2.1 bt118.2.2.1 bt118.2.2.2.1 bt118.2.2.2.2.1 bt118.2.2.2.2.2.1 bt118.2.2.2.2.2.2))))))) else ((spec_l01Src_one.f x1000 x1001 x1002 x1003 15).bind fun bt201 => (if bt201.1 = true then ((spec_l01Src_n.f x1000 bt201.2.1 bt201.2.2.1 bt201.2.2.2 4).bind fun bt205 => (if bt205.1 = 0 then ((some (([(-1), 1000000000, 1000000001, wrap64 (1000000000 - (x107002.length : Int)), 999999998] : List Int) : List Int)).bind fun y209 => ((spec_l01Src_n.f x1000 bt205.2.1 bt205.2.2.1 bt205.2.2.2 5).bind fun bt212 => (if 0 ≤ bt212.1 then (if bt212.1 < (y209.length : Int) then (some (x107000, rd y209 bt212.1, x107002, ([] : List (S36)), bt212.2.1, bt212.2.2.1, bt212.2.2.2)) else (none)) else (none)))) else (if bt205.1 = 1 then ((spec_l01Src_n.f x1000 bt205.2.1 bt205.2.2.1 bt205.2.2.2 30).bind fun bt217 => (if x107003.length < 5864062014805 then (some (x107000, x107001, x107002, (x107003 ++ [(⟨(⟨#[122, 122]⟩ : ByteArray), wrap64 ((wrap64 (x107001 + bt217.1)) - 1)⟩ : S36)]), bt217.2.1, bt217.2.2.1, bt217.2.2.2)) else (none))) else (if bt205.1 = 2 then (spec_l01Src_l07Topic.l1 k x1000 bt205.2.1 bt205.2.2.1 bt205.2.2.2 x107000 x107001 x107002 x107003) else (if x107002.length < 8796093022208 then (some (x107000, x107001, (x107002 ++ [(⟨#[]⟩ : ByteArray)]), x107003, bt205.2.1, bt205.2.2.1, bt205.2.2.2)) else (none)))))) else (some (x107000, x107001, x107002, x107003, bt201.2.1, bt201.2.2.1, bt201.2.2.2))))
def spec_l01Src_l07Topic.j1 : Nat → Int → List Int → Int → Int → Int → ByteArray → Int → List ByteArray → List (S36) → ByteArray → Int → List ByteArray → List (S36) → List ByteArray → Int → Int → Option (ByteArray × Int × List ByteArray × (List (S36)) × Int × Int × Int)
  | 0, _, _, _, _, _, _, _, _, _, _, _, _, _, _, _, _ => none
  | k + 1, x4, x1000, x1001, x1002, x1003, x107000, x107001, x107002, x107003, x132000, x132001, x132002, x132003, x132004, x132005, x132006 => if x132006 = 0 then (spec_l01Src_l07Topic.l0 k (wrap64 (x4 - 1)) x1000 x1001 x1002 x1003 x132000 x132001 x132002 x132003) else (spec_l01Src_l07Topic.l0 k (wrap64 (x4 - 1)) x1000 x1001 x1002 x1003 x107000 x107001 x107002 x107003)
def spec_l01Src_l07Topic.l1 : Nat → List Int → Int → Int → Int → ByteArray → Int → List ByteArray → List (S36) → Option (ByteArray × Int × List ByteArray × (List (S36)) × Int × Int × Int)
  | 0, _, _, _, _, _, _, _, _ => none
  | k + 1, x1000, x1001, x1002, x1003, x107000, x107001, x107002, x107003 => (spec_l01Src_n.f x1000 x1001 x1002 x1003 3).bind fun bt224 => (if (x107002.length : Int) < (wrap64 (19 + bt224.1)) then (if x107002.length < 8796093022208 then (spec_l01Src_l07Topic.l1 k x1000 bt224.2.1 bt224.2.2.1 bt224.2.2.2 x107000 x107001 (x107002 ++ [(⟨#[104]⟩ : ByteArray)]) x107003) else (none)) else (some (x107000, x107001, x107002, x107003, bt224.2.1, bt224.2.2.1, bt224.2.2.2)))
end
def spec_l01Src_l07Topic.f (k : Nat) (s0_0 : List Int) (s0_1 : Int) (s0_2 : Int) (s0_3 : Int) : Option (ByteArray × Int × List ByteArray × (List (S36)) × Int × Int × Int) := (spec_l01Src_n.f s0_0 s0_1 s0_2 s0_3 3).bind fun bt102 => ((spec_l01Src_n.f s0_0 bt102.2.1 bt102.2.2.1 bt102.2.2.2 14).bind fun bt107 => (spec_l01Src_l07Topic.l0 k bt107.1 s0_0 bt107.2.1 bt107.2.2.1 bt107.2.2.2 (⟨#[97]⟩ : ByteArray) bt102.1 ([] : List ByteArray) ([] : List (S36))))
theorem spec_l01Src_l07Topic.mono_l : ∀ k, (∀ y0 y1 y2 y3 y4 y5 y6 y7 y8, LeO (spec_l01Src_l07Topic.l0 k y0 y1 y2 y3 y4 y5 y6 y7 y8) (spec_l01Src_l07Topic.l0 (k + 1) y0 y1 y2 y3 y4 y5 y6 y7 y8)) ∧ (∀ y0 y1 y2 y3 y4 y5 y6 y7 y8 y9 y10 y11 y12 y13 y14 y15, LeO (spec_l01Src_l07Topic.j1 k y0 y1 y2 y3 y4 y5 y6 y7 y8 y9 y10 y11 y12 y13 y14 y15) (spec_l01Src_l07Topic.j1 (k + 1) y0 y1 y2 y3 y4 y5 y6 y7 y8 y9 y10 y11 y12 y13 y14 y15)) ∧ (∀ y0 y1 y2 y3 y4 y5 y6 y7, LeO (spec_l01Src_l07Topic.l1 k y0 y1 y2 y3 y4 y5 y6 y7) (spec_l01Src_l07Topic.l1 (k + 1) y0 y1 y2 y3 y4 y5 y6 y7))
  | 0 => ⟨fun _ _ _ _ _ _ _ _ _ r h => by simp [spec_l01Src_l07Topic.l0] at h, fun _ _ _ _ _ _ _ _ _ _ _ _ _ _ _ _ r h => by simp [spec_l01Src_l07Topic.j1] at h, fun _ _ _ _ _ _ _ _ r h => by simp [spec_l01Src_l07Topic.l1] at h⟩
  | k + 1 => by
    obtain ⟨ih0, ih1, ih2⟩ := spec_l01Src_l07Topic.mono_l k
    refine ⟨?_, ?_, ?_⟩
    · intro y0 y1 y2 y3 y4 y5 y6 y7 y8
      unfold spec_l01Src_l07Topic.l0
      repeat' first
      | (with_reducible exact ih0 _ _ _ _ _ _ _ _ _)
      | (with_reducible exact ih1 _ _ _ _ _ _ _ _ _ _ _ _ _ _ _ _)
      | (with_reducible exact ih2 _ _ _ _ _ _ _ _)
      | (with_reducible exact spec_TopicAck.mono _ _ _ _ _ _ _)
      | (with_reducible exact spec_TopicPublish.mono _ _ _ _ _ _)
      | (with_reducible exact spec_TopicRetain.mono _ _ _ _ _ _)
      | (with_reducible exact spec_TopicSeek.mono _ _ _ _ _ _ _)
      | (with_reducible exact LeO.refl _)
      | (with_reducible exact LeO.none _)
      | (with_reducible refine LeO.ite ?_ ?_)
      | (with_reducible refine LeO.bind ?_ (fun _ => ?_))
      | exact ih0 _ _ _ _ _ _ _ _ _
      | exact ih1 _ _ _ _ _ _ _ _ _ _ _ _ _ _ _ _
      | exact ih2 _ _ _ _ _ _ _ _
      | exact spec_TopicAck.mono _ _ _ _ _ _ _
      | exact spec_TopicPublish.mono _ _ _ _ _ _
      | exact spec_TopicRetain.mono _ _ _ _ _ _
      | exact spec_TopicSeek.mono _ _ _ _ _ _ _
      | exact LeO.none _
      | refine LeO.ite ?_ ?_
      | refine LeO.bind ?_ (fun _ => ?_)
    · intro y0 y1 y2 y3 y4 y5 y6 y7 y8 y9 y10 y11 y12 y13 y14 y15
      unfold spec_l01Src_l07Topic.j1
      repeat' first
      | (with_reducible exact ih0 _ _ _ _ _ _ _ _ _)
      | (with_reducible exact ih1 _ _ _ _ _ _ _ _ _ _ _ _ _ _ _ _)
      | (with_reducible exact ih2 _ _ _ _ _ _ _ _)
      | (with_reducible exact spec_TopicAck.mono _ _ _ _ _ _ _)
      | (with_reducible exact spec_TopicPublish.mono _ _ _ _ _ _)
      | (with_reducible exact spec_TopicRetain.mono _ _ _ _ _ _)
      | (with_reducible exact spec_TopicSeek.mono _ _ _ _ _ _ _)
      | (with_reducible exact LeO.refl _)
      | (with_reducible exact LeO.none _)
      | (with_reducible refine LeO.ite ?_ ?_)
      | (with_reducible refine LeO.bind ?_ (fun _ => ?_))
      | exact ih0 _ _ _ _ _ _ _ _ _
      | exact ih1 _ _ _ _ _ _ _ _ _ _ _ _ _ _ _ _
      | exact ih2 _ _ _ _ _ _ _ _
      | exact spec_TopicAck.mono _ _ _ _ _ _ _
      | exact spec_TopicPublish.mono _ _ _ _ _ _
      | exact spec_TopicRetain.mono _ _ _ _ _ _
      | exact spec_TopicSeek.mono _ _ _ _ _ _ _
      | exact LeO.none _
      | refine LeO.ite ?_ ?_
      | refine LeO.bind ?_ (fun _ => ?_)
    · intro y0 y1 y2 y3 y4 y5 y6 y7
      unfold spec_l01Src_l07Topic.l1
      repeat' first
      | (with_reducible exact ih0 _ _ _ _ _ _ _ _ _)
      | (with_reducible exact ih1 _ _ _ _ _ _ _ _ _ _ _ _ _ _ _ _)
      | (with_reducible exact ih2 _ _ _ _ _ _ _ _)
      | (with_reducible exact spec_TopicAck.mono _ _ _ _ _ _ _)
      | (with_reducible exact spec_TopicPublish.mono _ _ _ _ _ _)
      | (with_reducible exact spec_TopicRetain.mono _ _ _ _ _ _)
      | (with_reducible exact spec_TopicSeek.mono _ _ _ _ _ _ _)
      | (with_reducible exact LeO.refl _)
      | (with_reducible exact LeO.none _)
      | (with_reducible refine LeO.ite ?_ ?_)
      | (with_reducible refine LeO.bind ?_ (fun _ => ?_))
      | exact ih0 _ _ _ _ _ _ _ _ _
      | exact ih1 _ _ _ _ _ _ _ _ _ _ _ _ _ _ _ _
      | exact ih2 _ _ _ _ _ _ _ _
      | exact spec_TopicAck.mono _ _ _ _ _ _ _
      | exact spec_TopicPublish.mono _ _ _ _ _ _
      | exact spec_TopicRetain.mono _ _ _ _ _ _
      | exact spec_TopicSeek.mono _ _ _ _ _ _ _
      | exact LeO.none _
      | refine LeO.ite ?_ ?_
      | refine LeO.bind ?_ (fun _ => ?_)
theorem spec_l01Src_l07Topic.mono : ∀ a0 a1 a2 a3 k, LeO (spec_l01Src_l07Topic.f k a0 a1 a2 a3) (spec_l01Src_l07Topic.f (k + 1) a0 a1 a2 a3) := by
  intro a0 a1 a2 a3 k
  obtain ⟨ih0, ih1, ih2⟩ := spec_l01Src_l07Topic.mono_l k
  unfold spec_l01Src_l07Topic.f
  repeat' first
      | (with_reducible exact ih0 _ _ _ _ _ _ _ _ _)
      | (with_reducible exact ih1 _ _ _ _ _ _ _ _ _ _ _ _ _ _ _ _)
      | (with_reducible exact ih2 _ _ _ _ _ _ _ _)
      | (with_reducible exact spec_TopicAck.mono _ _ _ _ _ _ _)
      | (with_reducible exact spec_TopicPublish.mono _ _ _ _ _ _)
      | (with_reducible exact spec_TopicRetain.mono _ _ _ _ _ _)
      | (with_reducible exact spec_TopicSeek.mono _ _ _ _ _ _ _)
      | (with_reducible exact LeO.refl _)
      | (with_reducible exact LeO.none _)
      | (with_reducible refine LeO.ite ?_ ?_)
      | (with_reducible refine LeO.bind ?_ (fun _ => ?_))
      | exact ih0 _ _ _ _ _ _ _ _ _
      | exact ih1 _ _ _ _ _ _ _ _ _ _ _ _ _ _ _ _
      | exact ih2 _ _ _ _ _ _ _ _
      | exact spec_TopicAck.mono _ _ _ _ _ _ _
      | exact spec_TopicPublish.mono _ _ _ _ _ _
      | exact spec_TopicRetain.mono _ _ _ _ _ _
      | exact spec_TopicSeek.mono _ _ _ _ _ _ _
      | exact LeO.none _
      | refine LeO.ite ?_ ?_
      | refine LeO.bind ?_ (fun _ => ?_)
def spec_l01Src_l07Topic.T8 : Bool × List (List Nat × List Nat) := (true, [([], []), ([], []), ([], []), ([1, 2], [1, 2]), ([], []), ([4], [4]), ([], []), ([6, 3], [6]), ([5, 7], [5, 7]), ([0, 3, 8, 7], [0, 3, 8]), ([9, 9, 0, 1, 2, 3, 4, 5, 6, 7, 8, 9], [9])])
def spec_l01Src_l07Topic.B8 : List Nat := [0, 0, 0, 6, 0, 16, 0, 78, 254, 511, 1023]
theorem spec_l01Src_l07Topic.tab8 : rtab .any (opsOf Try.f20 8) = spec_l01Src_l07Topic.T8 := by kernel_rfl
theorem spec_l01Src_l07Topic.bits8 : waitsOk spec_l01Src_l07Topic.T8.2 spec_l01Src_l07Topic.B8 = true := by kernel_rfl
def spec_l01Src_l07Topic.T10 : Bool × List (List Nat × List Nat) := (true, [([], []), ([], []), ([], []), ([1, 2], [1, 2]), ([], []), ([4], [4]), ([], []), ([6, 3], [6]), ([5, 7], [5, 7]), ([0, 3, 8, 7], [0, 3, 8]), ([9, 9, 0, 1, 2, 3, 4, 5, 6, 7, 8, 9], [9])])
def spec_l01Src_l07Topic.B10 : List Nat := [0, 0, 0, 6, 0, 16, 0, 78, 254, 511, 1023]
theorem spec_l01Src_l07Topic.tab10 : rtab .any (opsOf Try.f20 10) = spec_l01Src_l07Topic.T10 := by kernel_rfl
theorem spec_l01Src_l07Topic.bits10 : waitsOk spec_l01Src_l07Topic.T10.2 spec_l01Src_l07Topic.B10 = true := by kernel_rfl
def spec_l01Src_l07Topic.T19 : Bool × List (List Nat × List Nat) := (true, [([], []), ([0], [0]), ([1], [1]), ([2], [2]), ([3], [3]), ([], []), ([5], [5]), ([4, 6], [4, 6]), ([7], [7]), ([0, 1, 2, 3, 4, 5, 6, 7, 8], []), ([9, 8, 6, 0, 1, 2, 3, 4, 5, 6, 7, 8], [8, 9])])
def spec_l01Src_l07Topic.B19 : List Nat := [0, 1, 3, 7, 15, 0, 32, 127, 255, 511, 1023]
theorem spec_l01Src_l07Topic.tab19 : rtab .any (opsOf Try.f20 19) = spec_l01Src_l07Topic.T19 := by kernel_rfl
theorem spec_l01Src_l07Topic.bits19 : waitsOk spec_l01Src_l07Topic.T19.2 spec_l01Src_l07Topic.B19 = true := by kernel_rfl
def spec_l01Src_l07Topic.T22 : Bool × List (List Nat × List Nat) := (true, [([], []), ([0], [0]), ([], []), ([2], [2]), ([], []), ([4], [4]), ([3, 5], [3, 5]), ([6], [6]), ([7], [7]), ([8], [8]), ([1, 9, 5], [1, 9]), ([0, 1, 2, 3, 4, 5, 6, 7, 8, 9, 10], []), ([11, 10, 10, 0, 1, 2, 3, 4, 5, 6, 7, 8, 9, 10], [10, 11])])
def spec_l01Src_l07Topic.B22 : List Nat := [0, 1, 0, 4, 0, 16, 60, 124, 252, 508, 1023, 2047, 4095]
theorem spec_l01Src_l07Topic.tab22 : rtab .any (opsOf Try.f20 22) = spec_l01Src_l07Topic.T22 := by kernel_rfl
theorem spec_l01Src_l07Topic.bits22 : waitsOk spec_l01Src_l07Topic.T22.2 spec_l01Src_l07Topic.B22 = true := by kernel_rfl
theorem bI63_0_spec_l01Src_l07Topic {n : Nat} {w W W' : World} (h : Below n w W) (f : Below n w W → Below n w W' := by intro h_; repeat (first | (with_reducible first | exact h_ | apply bA | apply bN | apply bD | refine bS ?_ (IsS63.ge HI0.out) | refine bS ?_ (Aside0.out (by assumption))) | exact h_)) : Below n w W' := f h
theorem iX63_6_spec_l01Src_l07Topic {p q : Prop} (h : p) (f : p → q := by intro h_; repeat (first | (with_reducible first | exact h_ | apply IsS63.alloc | apply IsS63.drewN | apply IsS63.drew | apply IsS63.set_1 | apply IsS63.set_2 | apply IsS63.set_3 | refine IsS63.far ?_ (Aside0.out (by assumption)) _) | exact h_)) : q := f h
set_option maxHeartbeats 60000000 in
set_option maxRecDepth 100000 in
theorem spec_l01Src_l07Topic.calls (k : Nat) (g : Nat) (s0_0 : List Int) (s0_1 : Int) (s0_2 : Int) (s0_3 : Int) (r1 : ByteArray) (r2 : Int) (r3 : List ByteArray) (r4 : List (S36)) (r5 : Int) (r6 : Int) (r7 : Int) (w0 w : World) (hI : IsS63 w0 w g s0_0 s0_1 s0_2 s0_3) (hB : Below w0.heap.size w0 w) (h : spec_l01Src_l07Topic.f k s0_0 s0_1 s0_2 s0_3 = some (r1, r2, r3, r4, r5, r6, r7)) :
    Calls Try.prog 20 #[.pointer (some ⟨g, 0, none⟩)] w fun e w' => ∃ v2_ v3_ : Value, e = .returned (.agg #[.string r1, .int .i64 r2, v2_, v3_]) ∧ Kd.Q Kd.string 9 w' w.heap.size (fun _ => True) v2_ r3 ∧ Kd.R k36 36 w' w.heap.size (fun _ => True) v3_ r4 ∧ IsS63 w0 w' g s0_0 r5 r6 r7 ∧ Below w0.heap.size w0 w' ∧ KeepBut w w' g none := by
 have hu26 := Try.underlying26
 have hu30 := Try.underlying30
 have hu36 := Try.underlying36
 have HI0 := AM hI
 have HK := AM (KeepBut.refl w g none)
 have HL := AM hB.size
 clear hI
 have HW0 := AM hB.size
 have HB := AM hB
 clear hB
 have H : ((spec_l01Src_n.f s0_0 s0_1 s0_2 s0_3 3).bind fun bt102 => ((spec_l01Src_n.f s0_0 bt102.2.1 bt102.2.2.1 bt102.2.2.2 14).bind fun bt107 => (spec_l01Src_l07Topic.l0 k bt107.1 s0_0 bt107.2.1 bt107.2.2.1 bt107.2.2.2 (⟨#[97]⟩ : ByteArray) bt102.1 ([] : List ByteArray) ([] : List (S36))))) = some (r1, r2, r3, r4, r5, r6, r7) := h
 clear h
 replace H := Option.bind_eq_some_iff.mp H
 obtain ⟨⟨t102, t103, t104, t105⟩, A20, H⟩ := H
 try dsimp only at H
 have A2 := AM A20
 clear A20
 replace H := Option.bind_eq_some_iff.mp H
 obtain ⟨⟨t107, t108, t109, t110⟩, A30, H⟩ := H
 try dsimp only at H
 have A3 := AM A30
 clear A30
 have H' := AM H
 clear H
 go_enter Try.func20, Try.ntmps20
 go_wp2_with (first | ((with_reducible refine gate_dst (N := 2) rfl ?_); refine box_event (by rfl) (N := 2) (by rfl) (cs := #[.string (⟨#[]⟩ : ByteArray), .int .i64 0, .slice none 0 0, .slice none 0 0]) (t := 26) (by first | (go_simp; done) | (go_simp; rfl)) ?_; intro gb101 hg w4 hbox hb; have _ := AM (IsS63.below (iX63_6_spec_l01Src_l07Topic HI0.out) hb); have _ := AM (KeepBut.trans (hX HK.out) (KeepBut.of_below hb g none) (.inl rfl)); have _ := AM (below_step (bI63_0_spec_l01Src_l07Topic HB.out) hb); have _ := AM (hbox); have _ := AM ((by rw [hg]; exact (keep_size (w := w) (g := g) (row := none) (hX HK.out)) : w.heap.size ≤ gb101)); have _ := AM ((Nat.le_trans HW0.out (by rw [hg]; exact (keep_size (w := w) (g := g) (row := none) (hX HK.out)) : w.heap.size ≤ gb101) : w0.heap.size ≤ gb101)); have _ := AM ((by rw [hg]; exact Nat.ne_of_lt (IsS63.lt (show IsS63 w0 _ g s0_0 s0_1 s0_2 s0_3 from iX63_6_spec_l01Src_l07Topic HI0.out)) : g ≠ gb101)); have _ := AM ((by rw [hg]; exact Nat.ne_of_gt (IsS63.lt (show IsS63 w0 _ g s0_0 s0_1 s0_2 s0_3 from iX63_6_spec_l01Src_l07Topic HI0.out)) : gb101 ≠ g)); clear HI0 HK HB; rename_i HI0 HK HB BK101 GW101 GE101 NB0_101 NB101_0; clear hb hbox hg) | ((with_reducible refine gate_callee (f := 21) rfl ?_); refine goesL_ (some 7) rfl rfl Try.func21 (by kernel_rfl) rfl #[.pointer (some ⟨g, 0, none⟩), .int .i64 3] rfl (by (try simp only [mA, mB, mC]); first | done | rfl | (simp only [mD, mE]; rfl)) ?_; (with_reducible refine (spec_l01Src_n.calls g s0_0 s0_1 s0_2 s0_3 3 t102 t103 t104 t105 w0 _ ?side1 ?side2 A2.out).mono ?_); (case side1 => exact (iX63_6_spec_l01Src_l07Topic HI0.out)); (case side2 => exact (bI63_0_spec_l01Src_l07Topic HB.out)); rintro e w5 ⟨rfl, hi, hb, hk⟩; refine ⟨_, rfl, ?_⟩; have _ := AM (kB hk BK101.out NB101_0.out (by simp)); have _ := AM (KeepBut.trans (hX HK.out) hk (.inl rfl)); have _ := AM (hb); have _ := AM (hi); clear BK101 HK HB HI0; rename_i BK101 HK HB HI0; (try clear hb); (try clear hb2); (try clear hk); (try clear hi)) | ((with_reducible refine gate_dst (N := 3) rfl ?_); refine box_event (by rfl) (N := 3) (by rfl) (cs := #[.string (⟨#[]⟩ : ByteArray), .int .i64 0, .slice none 0 0, .slice none 0 0]) (t := 26) (by first | (go_simp; done) | (go_simp; rfl)) ?_; intro gb106 hg w6 hbox hb; have _ := AM (IsS63.below (iX63_6_spec_l01Src_l07Topic HI0.out) hb); have _ := AM (nB BK101.out hb); have _ := AM (KeepBut.trans (hX HK.out) (KeepBut.of_below hb g none) (.inl rfl)); have _ := AM (below_step (bI63_0_spec_l01Src_l07Topic HB.out) hb); have _ := AM (hbox); have _ := AM ((by rw [hg]; exact (keep_size (w := w) (g := g) (row := none) (hX HK.out)) : w.heap.size ≤ gb106)); have _ := AM ((Nat.le_trans HW0.out (by rw [hg]; exact (keep_size (w := w) (g := g) (row := none) (hX HK.out)) : w.heap.size ≤ gb106) : w0.heap.size ≤ gb106)); have _ := AM (lX hg BK101.out); have _ := AM (lX hg BK101.out).symm; have _ := AM ((by rw [hg]; exact Nat.ne_of_lt (IsS63.lt (show IsS63 w0 _ g s0_0 t103 t104 t105 from iX63_6_spec_l01Src_l07Topic HI0.out)) : g ≠ gb106)); have _ := AM ((by rw [hg]; exact Nat.ne_of_gt (IsS63.lt (show IsS63 w0 _ g s0_0 t103 t104 t105 from iX63_6_spec_l01Src_l07Topic HI0.out)) : gb106 ≠ g)); clear HI0 BK101 HK HB; rename_i HI0 BK101 HK HB BK106 GW106 GE106 NB101_106 NB106_101 NB0_106 NB106_0; clear hb hbox hg; have hnb7 := NB106_101.out; have hnc7 := NB101_106.out; have hnb8 := NB106_0.out; have hnc8 := NB0_106.out; have hcz9 := q4 BK106.out; have hfz9 := fZ BK106.out) | ((with_reducible refine gate_callee (f := 21) rfl ?_); refine goesL_ (some 10) rfl rfl Try.func21 (by kernel_rfl) rfl #[.pointer (some ⟨g, 0, none⟩), .int .i64 14] rfl (by (try simp only [mA, mB, mC]); first | done | rfl | (simp only [mD, mE]; rfl)) ?_; (with_reducible refine (spec_l01Src_n.calls g s0_0 t103 t104 t105 14 t107 t108 t109 t110 w0 _ ?side1 ?side2 A3.out).mono ?_); (case side1 => exact (iX63_6_spec_l01Src_l07Topic HI0.out)); (case side2 => exact (bI63_0_spec_l01Src_l07Topic HB.out)); rintro e w10 ⟨rfl, hi, hb, hk⟩; refine ⟨_, rfl, ?_⟩; have _ := AM (KeepBut.blk hk (g' := gb101) (o := .cells #[.string (⟨#[]⟩ : ByteArray), .int .i64 0, .slice none 0 0, .slice none 0 0] 26 (0, 0)) (by (iterate 4 refine kF NB101_106.out ?_); (with_reducible repeat (first | apply kN | apply kD | apply kA)); exact BK101.out) NB101_0.out (by simp)); have _ := AM (KeepBut.blk hk (g' := gb106) (o := .cells #[.string (⟨#[97]⟩ : ByteArray), .int .i64 t102, .slice none 0 0, .slice none 0 0] 26 (0, 0)) (by refine kP (cs := #[.string (⟨#[97]⟩ : ByteArray), .int .i64 t102, .slice none 0 0, .slice none 0 0]) 3 ?_; refine kP (cs := #[.string (⟨#[97]⟩ : ByteArray), .int .i64 t102, .slice none 0 0, .slice none 0 0]) 2 ?_; refine kP (cs := #[.string (⟨#[97]⟩ : ByteArray), .int .i64 0, .slice none 0 0, .slice none 0 0]) 1 ?_; refine kP (cs := #[.string (⟨#[]⟩ : ByteArray), .int .i64 0, .slice none 0 0, .slice none 0 0]) 0 ?_; (with_reducible repeat (first | apply kN | apply kD | apply kA)); exact BK106.out) NB106_0.out (by simp)); have _ := AM (KeepBut.trans (hX HK.out) hk (.inl rfl)); have _ := AM (hb); have _ := AM (hi); clear BK101 BK106 HK HB HI0; rename_i BK101 BK106 HK HB HI0; (try clear hb); (try clear hb2); (try clear hk); (try clear hi)))
 go_loopg [4] k (fun kq v4 w' => ∃ (x4_1 : Int) (x1001_1 : Int) (x1002_1 : Int) (x1003_1 : Int) (x107000_1 : ByteArray) (x107001_1 : Int) (x107002_1 : List ByteArray) (x107003_1 : List (S36)) (u107002 : Value) (u107003 : Value), v4 = .int .i64 x4_1 ∧ Aside0 (spec_l01Src_l07Topic.l0 kq x4_1 s0_0 x1001_1 x1002_1 x1003_1 x107000_1 x107001_1 x107002_1 x107003_1 = some (r1, r2, r3, r4, r5, r6, r7)) ∧ Aside0 (kq ≤ k) ∧ Aside0 (Kd.Q Kd.string 9 w' w.heap.size (fun _ => True) u107002 x107002_1) ∧ Aside0 (Kd.R k36 36 w' w.heap.size (fun _ => True) u107003 x107003_1) ∧ Aside0 (w'.heap[gb101]? = some (.cells #[.string (⟨#[]⟩ : ByteArray), .int .i64 0, (.slice none 0 0), (.slice none 0 0)] 26 (0, 0))) ∧ Aside0 (w'.heap[gb106]? = some (.cells #[.string x107000_1, .int .i64 x107001_1, u107002, u107003] 26 (0, 0))) ∧ Aside0 (IsS63 w0 w' g s0_0 x1001_1 x1002_1 x1003_1) ∧ Aside0 (KeepBut w w' g none) ∧ Aside0 (Below w0.heap.size w0 w'))
 case atStart => exact ⟨(t107), (t108), (t109), (t110), ((⟨#[97]⟩ : ByteArray)), (t102), (([] : List ByteArray)), (([] : List (S36))), (.slice none 0 0), (.slice none 0 0), (by first | rfl | (simp; done) | (simp [*]; done)), H', ⟨Nat.le_refl _⟩, ⟨Kd.Q_of_R (by first | exact Kd.R_nil _ _ _ _ _ | exact Kd.N_nil _ _ _ _ _ | exact Kd.V_nil _ _ _ _ _ | exact Kd.Q_nil _ _ _ _ _ | exact Kd.S_nil _ _ _ _ _)⟩, ⟨by first | exact Kd.R_nil _ _ _ _ _ | exact Kd.N_nil _ _ _ _ _ | exact Kd.V_nil _ _ _ _ _ | exact Kd.Q_nil _ _ _ _ _ | exact Kd.S_nil _ _ _ _ _⟩, ⟨kX BK101.out⟩, ⟨kX BK106.out⟩, ⟨iX63_6_spec_l01Src_l07Topic HI0.out⟩, ⟨hX HK.out⟩, ⟨bI63_0_spec_l01Src_l07Topic HB.out⟩⟩
 case round =>
  clear H'
  (try clear c2); (try clear p2); (try clear c7); (try clear c8); (try clear hcz9); (try clear hfz9)
  obtain ⟨x4_1, x1001_1, x1002_1, x1003_1, x107000_1, x107001_1, x107002_1, x107003_1, u107002, u107003, rfl, HA, HK1, HO_107002, HO_107003, BK101, BK106, HI0, HK, HB⟩ := hrel
  cases gk with
  | zero => exact absurd HA.out (by simp [spec_l01Src_l07Topic.l0])
  | succ k1 =>
   have H := HA.out
   clear HA
   simp only [spec_l01Src_l07Topic.l0] at H
   by_cases c11 : x4_1 > 0
   ·
    rw [if_pos c11] at H
    have c11b0 : decide (0 < x4_1) = true := decide_eq_true c11
    clear c11
    obtain ⟨y111, hy111⟩ : ∃ y_ : List ByteArray, y_ = (([(⟨#[120]⟩ : ByteArray), (⟨#[121, 121]⟩ : ByteArray)] : List ByteArray)) := ⟨_, rfl⟩
    replace H : ((spec_l01Src_pick.f s0_0 x1001_1 x1002_1 x1003_1 y111).bind fun bt114 => ((spec_TopicPublish.f k1 x107000_1 x107001_1 x107002_1 x107003_1 bt114.1).bind fun bt118 => ((spec_l01Src_n.f s0_0 bt114.2.1 bt114.2.2.1 bt114.2.2.2 6).bind fun bt132 => (if bt132.1 = 0 then ((spec_l01Src_pick.f s0_0 bt132.2.1 bt132.2.2.1 bt132.2.2.2 (([(⟨#[103]⟩ : ByteArray), (⟨#[104]⟩ : ByteArray), (⟨#[105]⟩ : ByteArray)] : List ByteArray))).bind fun bt139 => ((spec_l01Src_n.f s0_0 bt139.2.1 bt139.2.2.1 bt139.2.2.2 4).bind fun bt143 => ((spec_TopicAck.f k1 x107000_1 x107001_1 x107002_1 x107003_1 bt139.1 (wrap64 (x107001_1 + bt143.1))).bind fun bt147 => (spec_l01Src_l07Topic.j1 k1 x4_1 s0_0 bt143.2.1 bt143.2.2.1 bt143.2.2.2 x107000_1 x107001_1 x107002_1 x107003_1 bt147.1 bt147.2.1 bt147.2.2.1 bt147.2.2.2.1 bt147.2.2.2.2.1 bt147.2.2.2.2.2.1 bt147.2.2.2.2.2.2)))) else (if bt132.1 = 1 then ((spec_l01Src_pick.f s0_0 bt132.2.1 bt132.2.2.1 bt132.2.2.2 (([(⟨#[103]⟩ : ByteArray), (⟨#[104]⟩ : ByteArray)] : List ByteArray))).bind fun bt163 => ((spec_l01Src_n.f s0_0 bt163.2.1 bt163.2.2.1 bt163.2.2.2 4).bind fun bt167 => ((spec_TopicSeek.f k1 x107000_1 x107001_1 x107002_1 x107003_1 bt163.1 (wrap64 (x107001_1 + bt167.1))).bind fun bt171 => (spec_l01Src_l07Topic.j1 k1 x4_1 s0_0 bt167.2.1 bt167.2.2.1 bt167.2.2.2 x107000_1 x107001_1 x107002_1 x107003_1 bt171.1 bt171.2.1 bt171.2.2.1 bt171.2.2.2.1 bt171.2.2.2.2.1 bt171.2.2.2.2.2.1 bt171.2.2.2.2.2.2)))) else (if bt132.1 = 2 then ((spec_l01Src_n.f s0_0 bt132.2.1 bt132.2.2.1 bt132.2.2.2 6).bind fun bt184 => ((spec_TopicRetain.f k1 x107000_1 x107001_1 x107002_1 x107003_1 bt184.1).bind fun bt188 => (spec_l01Src_l07Topic.j1 k1 x4_1 s0_0 bt184.2.1 bt184.2.2.1 bt184.2.2.2 x107000_1 x107001_1 x107002_1 x107003_1 bt188.1 bt188.2.1 bt188.2.2.1 bt188.2.2.2.1 bt188.2.2.2.2.1 bt188.2.2.2.2.2.1 bt188.2.2.2.2.2.2))) else (spec_l01Src_l07Topic.j1 k1 x4_1 s0_0 bt132.2.1 bt132.2.2.1 bt132.2.2.2 x107000_1 x107001_1 x107002_1 x107003_1 bt118.1 bt118.2.1 bt118.2.2.1 bt118.2.2.2.1 bt118.2.2.2.2.1 bt118.2.2.2.2.2.1 bt118.2.2.2.2.2.2))))))) = some (r1, r2, r3, r4, r5, r6, r7) := by first | (rw [hy111]; with_reducible exact H) | (have H2_ := (Option.bind_some _ _).symm.trans H; rw [hy111]; with_reducible exact H2_) | (have H2_ := (Option.bind_some _ _).symm.trans H; with_reducible exact H2_) | with_reducible exact H | (rw [hy111]; exact H) | exact H
    have Ny111 := AM hy111
    clear hy111
    replace H := Option.bind_eq_some_iff.mp H
    obtain ⟨⟨t114, t115, t116, t117⟩, A120, H⟩ := H
    try dsimp only at H
    have A12 := AM A120
    clear A120
    replace H := Option.bind_eq_some_iff.mp H
    obtain ⟨⟨t118, t119, t120, t123, t126, t129, t130⟩, A130, H⟩ := H
    try dsimp only at H
    have A13 := AM A130
    clear A130
    replace H := Option.bind_eq_some_iff.mp H
    obtain ⟨⟨t132, t133, t134, t135⟩, A140, H⟩ := H
    try dsimp only at H
    have A14 := AM A140
    clear A140
    have HC15 := AM H
    clear H
    obtain ⟨Ao16, co16, eo16, _⟩ := Kd.Q_slice HO_107002.out
    subst eo16
    obtain ⟨Ao17, co17, eo17⟩ := Kd.R_slice HO_107003.out
    subst eo17
    try go_wp2
    have _ := AM (Kd.Q_drew HO_107002.out)
    have _ := AM (rD HO_107003.out)
    have _ := AM (kD BK101.out)
    have _ := AM (kD BK106.out)
    have _ := AM (IsS63.drew HI0.out)
    have _ := AM (keep_drew HK.out)
    have _ := AM (bD HB.out)
    clear HO_107002 HO_107003 BK101 BK106 HI0 HK HB
    rename_i HO_107002 HO_107003 BK101 BK106 HI0 HK HB
    refine start_ (n := 7) (S := fun w' => w'.cell? ⟨gb106, 0, none⟩ = some (.string x107000_1) ∧ w'.cell? ⟨gb106, 1, none⟩ = some (.int .i64 x107001_1) ∧ w'.cell? ⟨gb106, 2, none⟩ = some (.slice Ao16 x107002_1.length co16) ∧ w'.cell? ⟨gb106, 3, none⟩ = some (.slice Ao17 x107003_1.length co17)) (ds := []) (upTo 0 7) (by kernel_rfl) rfl rfl (q4 BK106.out) (fun hHeld => ?_)
    generalize wr.drew = w18 at HO_107002 HO_107003 BK101 BK106 HI0 HK HB hHeld ⊢
    refine pure_ (i := 1) (N := some 16) (v := ?_) (a' := ?_) #[false, true, false, false, false, false, false] rfl rfl (by kernel_rfl) (fun _ _ _ h => h) (Or.inl ⟨by rfl, ?_⟩) ?_ ?_
    rotate_left
    ·
     intro w'
     go_simp
     with_reducible rfl
    rotate_left
    ·
     simp only [Act.put, sA, sB, sC, i64_w, i32_w]
     rfl
    refine take_ (i := 0) (N := some 15) (v := ?_) (a' := ?_) (upTo 2 7) rfl rfl (by kernel_rfl) (fun _ _ _ h => h) (Or.inl ⟨by rfl, ?_⟩) hHeld ?_ ?_
    rotate_left; (focus (rintro w' ⟨s0, s1, s2, s3⟩; go_simp; with_reducible rfl))
    rotate_left; (focus (simp only [Act.put, sA, sB, sC, i64_w, i32_w]; rfl))
    refine join_ (σ := Value × Value × Value × Value × Nat) 1 (upTo 6 7) (fun s_ => [(17, s_.1), (18, .string t114), (19, .agg #[.string t118, .int .i64 t119, s_.2.1, s_.2.2.1, s_.2.2.2.1, .int .i64 t129, .int .i64 t130]), (5, .pointer (some ⟨s_.2.2.2.2, 0, none⟩))]) (fun s_ w' => (w'.cell? ⟨gb106, 0, none⟩ = some (.string x107000_1) ∧ w'.cell? ⟨gb106, 1, none⟩ = some (.int .i64 x107001_1) ∧ w'.cell? ⟨gb106, 2, none⟩ = some (.slice Ao16 x107002_1.length co16) ∧ w'.cell? ⟨gb106, 3, none⟩ = some (.slice Ao17 x107003_1.length co17)) ∧ (Kd.R Kd.string 9 w' w.heap.size (fun k_ => some k_ ≠ (s_.2.1 : Value).ownBlock ∧ some k_ ≠ (s_.2.2.2.1 : Value).ownBlock ∧ some k_ ≠ (.slice Ao16 x107002_1.length co16 : Value).ownBlock) s_.1 y111) ∧ (Kd.R Kd.string 9 w' w.heap.size (fun k_ => some k_ ≠ (s_.1 : Value).ownBlock ∧ some k_ ≠ (s_.2.2.2.1 : Value).ownBlock ∧ some k_ ≠ (.slice Ao16 x107002_1.length co16 : Value).ownBlock) s_.2.1 t120) ∧ (Kd.R k36 36 w' w.heap.size (fun k_ => some k_ ≠ (.slice Ao17 x107003_1.length co17 : Value).ownBlock) s_.2.2.1 t123) ∧ (Kd.R Kd.string 9 w' w.heap.size (fun k_ => some k_ ≠ (s_.1 : Value).ownBlock ∧ some k_ ≠ (s_.2.1 : Value).ownBlock ∧ some k_ ≠ (.slice Ao16 x107002_1.length co16 : Value).ownBlock) s_.2.2.2.1 t126) ∧ (Kd.Q Kd.string 9 w' w.heap.size (fun k_ => some k_ ≠ (s_.1 : Value).ownBlock ∧ some k_ ≠ (s_.2.1 : Value).ownBlock ∧ some k_ ≠ (s_.2.2.2.1 : Value).ownBlock) (.slice Ao16 x107002_1.length co16) x107002_1) ∧ (Kd.R k36 36 w' w.heap.size (fun k_ => some k_ ≠ (s_.2.2.1 : Value).ownBlock) (.slice Ao17 x107003_1.length co17) x107003_1) ∧ (w'.heap[gb101]? = some (.cells #[.string (⟨#[]⟩ : ByteArray), .int .i64 0, .slice none 0 0, .slice none 0 0] 26 (0, 0))) ∧ (w'.heap[gb106]? = some (.cells #[.string x107000_1, .int .i64 x107001_1, .slice Ao16 x107002_1.length co16, .slice Ao17 x107003_1.length co17] 26 (0, 0))) ∧ (w'.heap[s_.2.2.2.2]? = some (.cells #[.string (⟨#[]⟩ : ByteArray), .int .i64 0, .slice none 0 0, .slice none 0 0, .slice none 0 0, .int .i64 0, .int .i64 0] 30 (0, 0))) ∧ (w.heap.size ≤ s_.2.2.2.2) ∧ (w0.heap.size ≤ s_.2.2.2.2) ∧ (g ≠ s_.2.2.2.2) ∧ (s_.2.2.2.2 ≠ g) ∧ (gb101 ≠ s_.2.2.2.2) ∧ (s_.2.2.2.2 ≠ gb101) ∧ (gb106 ≠ s_.2.2.2.2) ∧ (s_.2.2.2.2 ≠ gb106) ∧ (IsS63 w0 w' g s0_0 t115 t116 t117) ∧ (KeepBut w w' g none) ∧ (Below w0.heap.size w0 w')) ?_ ?_
    rotate_left
    ·
     intro hCont
     refine two_ (i := 2) (j := 5) (Ni := some 17) (Nj := some 5) (upTo 3 7) #[true, true, false, false, false, true, false] rfl rfl rfl rfl (by kernel_rfl) (by decide) (by decide) (fun K hK => ?_) (fun K hK => ?_)
     ·
      skip
      refine Kd.R_lit_step Kd.string _ 9 ?hg (N := 17) ?hd (xs := ([(⟨#[120]⟩ : ByteArray), (⟨#[121, 121]⟩ : ByteArray)] : List ByteArray)) (inner := [.string (⟨#[120]⟩ : ByteArray), .string (⟨#[121, 121]⟩ : ByteArray)]) (ok := fun _ => True) (okp := fun _ => True) ?hr ?hp (fun _ hk => hk) trivial (Below.refl _ _) (Nat.le_refl _) (by simp) ?_; (case hd => rfl); (case hg => rfl); (case hr => first | (go_simp; done) | (go_simp; rfl)); (case hp => exact (Reps.one (show Kd.M Kd.string _ _ _ (⟨#[120]⟩ : ByteArray) [.string (⟨#[120]⟩ : ByteArray)] from rfl) (Reps.one (show Kd.M Kd.string _ _ _ (⟨#[121, 121]⟩ : ByteArray) [.string (⟨#[121, 121]⟩ : ByteArray)] from rfl) (Reps.none _ _))))
      intro v112 w19 ho20 hb hg_ hnew_
      clear hg_ hnew_
      (first | rw [← Ny111.out] at ho20 | (simp only [Int.reduceToNat] at ho20; rw [← Ny111.out] at ho20))
      have _ := AM (Kd.Q_elder' (qX HO_107002.out) (Kd.R_base ho20) hb)
      have _ := AM (Kd.R_below (rX HO_107003.out) hb)
      have _ := AM (Kd.R_lower (Kd.R_new' ho20 (Kd.Q_lt (qX HO_107002.out))) (keep_size (w := w) (g := g) (row := none) (hX HK.out)))
      have _ := AM (nB BK101.out hb)
      have _ := AM (nB BK106.out hb)
      have _ := AM (IsS63.below (iX63_6_spec_l01Src_l07Topic HI0.out) hb)
      have _ := AM (KeepBut.trans (hX HK.out) (KeepBut.of_below hb g none) (.inl rfl))
      have _ := AM (below_step (bI63_0_spec_l01Src_l07Topic HB.out) hb)
      clear HO_107002 HO_107003 BK101 BK106 HI0 HK HB
      rename_i HO_107002 HO_107003 HO113 BK101 BK106 HI0 HK HB
      clear hb ho20
      obtain ⟨Ao21, co21, eo21⟩ := Kd.R_slice HO113.out
      (first | subst eo21 | (injection eo21 with f1_ f2_ f3_; have f4_ := f1_.symm; have f5_ := f3_.symm; clear f1_ f2_ f3_; subst f4_; subst f5_))
      refine hK.out _ _ (q4 BK106.out) (fun hHeld => ?_)
      clear hK K
      refine norm_ (a' := ?_) ?_ ?_
      rotate_left
      ·
       show Act.put _ (some 17) _ = _
       simp only [Act.put, sA, sB, sC, i64_w, i32_w]
       rfl
      refine two_ (i := 3) (j := 5) (Ni := some 18) (Nj := some 5) (upTo 4 7) #[true, true, true, false, false, true, false] rfl rfl rfl rfl (by kernel_rfl) (by decide) (by decide) (fun K hK => ?_) (fun K hK => ?_)
      ·
       skip
       refine goes_ Try.func39 (by kernel_rfl) rfl #[.pointer (some ⟨g, 0, none⟩), .slice Ao21 y111.length co21] (by rfl) rfl rfl (by (try simp only [mA, mB, mC]); first | done | rfl | (simp only [mD, mE]; rfl)) ?_
       with_reducible refine (spec_l01Src_pick.calls g s0_0 x1001_1 x1002_1 x1003_1 _ _ y111 t114 t115 t116 t117 w0 _ ?side1 ?side2 ?side3 ?side4 ?side5 A12.out).mono ?_
       (case side1 => exact (iX63_6_spec_l01Src_l07Topic HI0.out))
       (case side2 => exact (bI63_0_spec_l01Src_l07Topic HB.out))
       (case side3 => repeat (first | exact (Kd.R_reads' HO113.out).2.2 | (with_reducible first | apply cA | apply cN | apply cD)))
       (case side4 => exact (Kd.R_reads' HO113.out).2.1)
       (case side5 => exact far_slice (IsS63.own_ne HI0.out HO113.out (by decide)))
       rintro e w22 ⟨rfl, hi, hb, hk⟩
       refine ⟨_, rfl, ?_⟩
       have _ := AM (Kd.Q_mono (Kd.Q_keep (IsS63.apartQ (show IsS63 w0 _ g s0_0 x1001_1 x1002_1 x1003_1 from iX63_6_spec_l01Src_l07Topic HI0.out) (qX HO_107002.out) (by decide)) hk (fun _ h => h.2)) (fun _ h => h.1))
       have _ := AM (Kd.R_mono (Kd.R_keep (IsS63.apart (show IsS63 w0 _ g s0_0 x1001_1 x1002_1 x1003_1 from iX63_6_spec_l01Src_l07Topic HI0.out) (rX HO_107003.out) (by decide)) hk (fun _ h => h.2)) (fun _ h => h.1))
       have _ := AM (kB hk BK101.out NB101_0.out (by simp))
       have _ := AM (kB hk BK106.out NB106_0.out (by simp))
       have _ := AM (Kd.R_mono (Kd.R_keep (IsS63.apart (show IsS63 w0 _ g s0_0 x1001_1 x1002_1 x1003_1 from iX63_6_spec_l01Src_l07Topic HI0.out) (rX HO113.out) (by decide)) hk (fun _ h => h.2)) (fun _ h => h.1))
       have _ := AM (KeepBut.trans (hX HK.out) hk (.inl rfl))
       have _ := AM (hb)
       have _ := AM (hi)
       clear HO_107002 HO_107003 BK101 BK106 HO113 HK HB HI0
       rename_i HO_107002 HO_107003 BK101 BK106 HO113 HK HB HI0
       (try clear hb)
       (try clear hb2)
       (try clear hk)
       (try clear hi)
       refine hK.out _ _ (q4 BK106.out) (fun hHeld => ?_)
       clear hK K
       refine norm_ (a' := ?_) ?_ ?_
       rotate_left
       ·
        show Act.put _ (some 18) _ = _
        simp only [Act.put, sA, sB, sC, i64_w, i32_w]
        rfl
       refine two_ (i := 4) (j := 5) (Ni := some 19) (Nj := some 5) (upTo 5 7) #[true, true, true, true, false, true, false] rfl rfl rfl rfl (by kernel_rfl) (by decide) (by decide) (fun K hK => ?_) (fun K hK => ?_)
       ·
        skip
        refine goes_ Try.func14 (by kernel_rfl) rfl #[.agg #[.string x107000_1, .int .i64 x107001_1, .slice Ao16 x107002_1.length co16, .slice Ao17 x107003_1.length co17], .string t114] (by rfl) rfl rfl (by (try simp only [mA, mB, mC]); first | done | rfl | (simp only [mD, mE]; rfl)) ?_
        with_reducible refine (spec_TopicPublish.calls k1 x107000_1 x107001_1 _ _ x107002_1 _ _ x107003_1 t114 t118 t119 t120 t123 t126 t129 t130 _ ?side1 ?side2 ?side3 ?side4 A13.out).mono ?_
        (case side1 => repeat (first | exact (Kd.Q_reads' HO_107002.out).2.2 | (with_reducible first | apply cA | apply cN | apply cD)))
        (case side2 => exact (Kd.Q_reads' HO_107002.out).2.1)
        (case side3 => repeat (first | exact (Kd.R_reads' HO_107003.out).2.2 | (with_reducible first | apply cA | apply cN | apply cD)))
        (case side4 => exact (Kd.R_reads' HO_107003.out).2.1)
        rintro e w23 ⟨v121, v124, v127, rfl, ho0, ho1, ho2, hb⟩
        refine ⟨_, rfl, ?_⟩
        have _ := AM (Kd.Q_mono (Kd.Q_told (Kd.Q_told (Kd.Q_old (qX HO_107002.out) hb) (Kd.R_base ho0)) (Kd.R_base ho2)) (fun _ h_ => h_.1))
        have _ := AM (Kd.R_elder' (rX HO_107003.out) (Kd.R_base ho1) hb)
        have _ := AM (Kd.R_mono (Kd.R_told (Kd.R_told (Kd.R_old (rX HO113.out) hb) (Kd.R_base ho0)) (Kd.R_base ho2)) (fun _ h_ => h_.1))
        have _ := AM (Kd.R_lower (Kd.R_new' (Kd.R_new' ho0 (Kd.Q_lt (qX HO_107002.out))) (Kd.R_lt (rX HO113.out))) (keep_size (w := w) (g := g) (row := none) (hX HK.out)))
        have _ := AM (Kd.R_lower (Kd.R_new' ho1 (Kd.R_lt (rX HO_107003.out))) (keep_size (w := w) (g := g) (row := none) (hX HK.out)))
        have _ := AM (Kd.R_lower (Kd.R_new' (Kd.R_new' ho2 (Kd.Q_lt (qX HO_107002.out))) (Kd.R_lt (rX HO113.out))) (keep_size (w := w) (g := g) (row := none) (hX HK.out)))
        have _ := AM (nB BK101.out hb)
        have _ := AM (nB BK106.out hb)
        have _ := AM (IsS63.below (iX63_6_spec_l01Src_l07Topic HI0.out) hb)
        have _ := AM (KeepBut.trans (hX HK.out) (KeepBut.of_below hb g none) (.inl rfl))
        have _ := AM (below_step (bI63_0_spec_l01Src_l07Topic HB.out) hb)
        clear HO_107002 HO_107003 HO113 BK101 BK106 HI0 HK HB
        rename_i HO_107002 HO_107003 HO113 HO122 HO125 HO128 BK101 BK106 HI0 HK HB
        (try clear hb)
        (try clear hb2)
        (try clear hk)
        (try clear hi)
        (try clear ho0)
        (try clear ho1)
        (try clear ho2)
        refine hK.out _ _ (q4 BK106.out) (fun hHeld => ?_)
        clear hK K
        refine norm_ (a' := ?_) ?_ ?_
        rotate_left
        ·
         show Act.put _ (some 19) _ = _
         simp only [Act.put, sA, sB, sC, i64_w, i32_w]
         rfl
        refine one_ (i := 5) (N := some 5) (upTo 6 7) rfl rfl (by kernel_rfl) (by decide) (fun K hK => ?_)
        refine box_step ?hg (N := 5) ?hd (cs := #[.string (⟨#[]⟩ : ByteArray), .int .i64 0, .slice none 0 0, .slice none 0 0, .slice none 0 0, .int .i64 0, .int .i64 0]) (t := 30) ?hr ?_; (case hd => rfl); (case hg => rfl); (case hr => first | (go_simp; done) | (go_simp; rfl))
        intro gb131 hg w24 hbox hb
        have _ := AM (Kd.Q_below (qX HO_107002.out) hb)
        have _ := AM (Kd.R_below (rX HO_107003.out) hb)
        have _ := AM (Kd.R_below (rX HO113.out) hb)
        have _ := AM (Kd.R_below (rX HO122.out) hb)
        have _ := AM (Kd.R_below (rX HO125.out) hb)
        have _ := AM (Kd.R_below (rX HO128.out) hb)
        have _ := AM (nB BK101.out hb)
        have _ := AM (nB BK106.out hb)
        have _ := AM (IsS63.below (iX63_6_spec_l01Src_l07Topic HI0.out) hb)
        have _ := AM (KeepBut.trans (hX HK.out) (KeepBut.of_below hb g none) (.inl rfl))
        have _ := AM (below_step (bI63_0_spec_l01Src_l07Topic HB.out) hb)
        have _ := AM (hbox)
        have _ := AM ((by rw [hg]; exact (keep_size (w := w) (g := g) (row := none) (hX HK.out)) : w.heap.size ≤ gb131))
        have _ := AM ((Nat.le_trans HW0.out (by rw [hg]; exact (keep_size (w := w) (g := g) (row := none) (hX HK.out)) : w.heap.size ≤ gb131) : w0.heap.size ≤ gb131))
        have _ := AM (lX hg BK101.out)
        have _ := AM (lX hg BK101.out).symm
        have _ := AM (lX hg BK106.out)
        have _ := AM (lX hg BK106.out).symm
        have _ := AM ((by rw [hg]; exact Nat.ne_of_lt (IsS63.lt (show IsS63 w0 _ g s0_0 t115 t116 t117 from iX63_6_spec_l01Src_l07Topic HI0.out)) : g ≠ gb131))
        have _ := AM ((by rw [hg]; exact Nat.ne_of_gt (IsS63.lt (show IsS63 w0 _ g s0_0 t115 t116 t117 from iX63_6_spec_l01Src_l07Topic HI0.out)) : gb131 ≠ g))
        clear HO_107002 HO_107003 HO113 HO122 HO125 HO128 BK101 BK106 HI0 HK HB
        rename_i HO_107002 HO_107003 HO113 HO122 HO125 HO128 BK101 BK106 HI0 HK HB BK131 GW131 GE131 NB101_131 NB131_101 NB106_131 NB131_106 NB0_131 NB131_0
        clear hb hbox hg
        refine hK.out _ _ (q4 BK106.out) (fun hHeld => ?_)
        clear hK K
        refine norm_ (a' := ?_) ?_ ?_
        rotate_left
        ·
         show Act.put _ (some 5) _ = _
         simp only [Act.put, sA, sB, sC, i64_w, i32_w]
         rfl
        exact norm_ (by simp only [putAll, Act.put, List.setIfInBounds_toArray, List.set_cons_zero, List.set_cons_succ]) (hCont (.slice Ao21 y111.length co21, v121, v124, v127, gb131) _ ⟨hHeld, (by (with_reducible repeat (first | apply rA | apply rN | apply rD)); exact Kd.R_mono HO113.out (fun _ hk => ⟨hk.1.2, ⟨hk.2, hk.1.1.2⟩⟩)), (by (with_reducible repeat (first | apply rA | apply rN | apply rD)); exact Kd.R_mono HO122.out (fun _ hk => ⟨hk.2, ⟨hk.1.1, hk.1.2⟩⟩)), (by (with_reducible repeat (first | apply rA | apply rN | apply rD)); exact Kd.R_mono HO125.out (fun _ hk => hk.2)), (by (with_reducible repeat (first | apply rA | apply rN | apply rD)); exact Kd.R_mono HO128.out (fun _ hk => ⟨hk.2, ⟨hk.1.1, hk.1.2⟩⟩)), (by (with_reducible repeat (first | apply Kd.Q_alloc | apply Kd.Q_drewN | apply Kd.Q_drew)); exact Kd.Q_mono HO_107002.out (fun _ hk => ⟨hk.1.1.2, ⟨hk.1.2, hk.2⟩⟩)), (by (with_reducible repeat (first | apply rA | apply rN | apply rD)); exact Kd.R_mono HO_107003.out (fun _ hk => hk.2)), (kX BK101.out), (kX BK106.out), (kX BK131.out), GW131.out, GE131.out, NB0_131.out, NB131_0.out, NB101_131.out, NB131_101.out, NB106_131.out, NB131_106.out, (iX63_6_spec_l01Src_l07Topic HI0.out), (hX HK.out), (bI63_0_spec_l01Src_l07Topic HB.out)⟩)
       skip
       refine box_step ?hg (N := 5) ?hd (cs := #[.string (⟨#[]⟩ : ByteArray), .int .i64 0, .slice none 0 0, .slice none 0 0, .slice none 0 0, .int .i64 0, .int .i64 0]) (t := 30) ?hr ?_; (case hd => rfl); (case hg => rfl); (case hr => first | (go_simp; done) | (go_simp; rfl))
       intro gb131 hg w23 hbox hb
       have _ := AM (Kd.Q_below (qX HO_107002.out) hb)
       have _ := AM (Kd.R_below (rX HO_107003.out) hb)
       have _ := AM (Kd.R_below (rX HO113.out) hb)
       have _ := AM (nB BK101.out hb)
       have _ := AM (nB BK106.out hb)
       have _ := AM (IsS63.below (iX63_6_spec_l01Src_l07Topic HI0.out) hb)
       have _ := AM (KeepBut.trans (hX HK.out) (KeepBut.of_below hb g none) (.inl rfl))
       have _ := AM (below_step (bI63_0_spec_l01Src_l07Topic HB.out) hb)
       have _ := AM (hbox)
       have _ := AM ((by rw [hg]; exact (keep_size (w := w) (g := g) (row := none) (hX HK.out)) : w.heap.size ≤ gb131))
       have _ := AM ((Nat.le_trans HW0.out (by rw [hg]; exact (keep_size (w := w) (g := g) (row := none) (hX HK.out)) : w.heap.size ≤ gb131) : w0.heap.size ≤ gb131))
       have _ := AM (lX hg BK101.out)
       have _ := AM (lX hg BK101.out).symm
       have _ := AM (lX hg BK106.out)
       have _ := AM (lX hg BK106.out).symm
       have _ := AM ((by rw [hg]; exact Nat.ne_of_lt (IsS63.lt (show IsS63 w0 _ g s0_0 t115 t116 t117 from iX63_6_spec_l01Src_l07Topic HI0.out)) : g ≠ gb131))
       have _ := AM ((by rw [hg]; exact Nat.ne_of_gt (IsS63.lt (show IsS63 w0 _ g s0_0 t115 t116 t117 from iX63_6_spec_l01Src_l07Topic HI0.out)) : gb131 ≠ g))
       clear HO_107002 HO_107003 HO113 BK101 BK106 HI0 HK HB
       rename_i HO_107002 HO_107003 HO113 BK101 BK106 HI0 HK HB BK131 GW131 GE131 NB101_131 NB131_101 NB106_131 NB131_106 NB0_131 NB131_0
       clear hb hbox hg
       refine hK.out _ _ (q4 BK106.out) (fun hHeld => ?_)
       clear hK K
       refine norm_ (a' := ?_) ?_ ?_
       rotate_left
       ·
        show Act.put _ (some 5) _ = _
        simp only [Act.put, sA, sB, sC, i64_w, i32_w]
        rfl
       refine one_ (i := 4) (N := some 19) (upTo 6 7) rfl rfl (by kernel_rfl) (by decide) (fun K hK => ?_)
       refine goes_ Try.func14 (by kernel_rfl) rfl #[.agg #[.string x107000_1, .int .i64 x107001_1, .slice Ao16 x107002_1.length co16, .slice Ao17 x107003_1.length co17], .string t114] (by rfl) rfl rfl (by (try simp only [mA, mB, mC]); first | done | rfl | (simp only [mD, mE]; rfl)) ?_
       with_reducible refine (spec_TopicPublish.calls k1 x107000_1 x107001_1 _ _ x107002_1 _ _ x107003_1 t114 t118 t119 t120 t123 t126 t129 t130 _ ?side1 ?side2 ?side3 ?side4 A13.out).mono ?_
       (case side1 => repeat (first | exact (Kd.Q_reads' HO_107002.out).2.2 | (with_reducible first | apply cA | apply cN | apply cD)))
       (case side2 => exact (Kd.Q_reads' HO_107002.out).2.1)
       (case side3 => repeat (first | exact (Kd.R_reads' HO_107003.out).2.2 | (with_reducible first | apply cA | apply cN | apply cD)))
       (case side4 => exact (Kd.R_reads' HO_107003.out).2.1)
       rintro e w24 ⟨v121, v124, v127, rfl, ho0, ho1, ho2, hb⟩
       refine ⟨_, rfl, ?_⟩
       have _ := AM (Kd.Q_mono (Kd.Q_told (Kd.Q_told (Kd.Q_old (qX HO_107002.out) hb) (Kd.R_base ho0)) (Kd.R_base ho2)) (fun _ h_ => h_.1))
       have _ := AM (Kd.R_elder' (rX HO_107003.out) (Kd.R_base ho1) hb)
       have _ := AM (Kd.R_mono (Kd.R_told (Kd.R_told (Kd.R_old (rX HO113.out) hb) (Kd.R_base ho0)) (Kd.R_base ho2)) (fun _ h_ => h_.1))
       have _ := AM (Kd.R_lower (Kd.R_new' (Kd.R_new' ho0 (Kd.Q_lt (qX HO_107002.out))) (Kd.R_lt (rX HO113.out))) (keep_size (w := w) (g := g) (row := none) (hX HK.out)))
       have _ := AM (Kd.R_lower (Kd.R_new' ho1 (Kd.R_lt (rX HO_107003.out))) (keep_size (w := w) (g := g) (row := none) (hX HK.out)))
       have _ := AM (Kd.R_lower (Kd.R_new' (Kd.R_new' ho2 (Kd.Q_lt (qX HO_107002.out))) (Kd.R_lt (rX HO113.out))) (keep_size (w := w) (g := g) (row := none) (hX HK.out)))
       have _ := AM (nB BK101.out hb)
       have _ := AM (nB BK106.out hb)
       have _ := AM (IsS63.below (iX63_6_spec_l01Src_l07Topic HI0.out) hb)
       have _ := AM (nB BK131.out hb)
       have _ := AM (KeepBut.trans (hX HK.out) (KeepBut.of_below hb g none) (.inl rfl))
       have _ := AM (below_step (bI63_0_spec_l01Src_l07Topic HB.out) hb)
       clear HO_107002 HO_107003 HO113 BK101 BK106 HI0 BK131 HK HB
       rename_i HO_107002 HO_107003 HO113 HO122 HO125 HO128 BK101 BK106 HI0 BK131 HK HB
       (try clear hb)
       (try clear hb2)
       (try clear hk)
       (try clear hi)
       (try clear ho0)
       (try clear ho1)
       (try clear ho2)
       refine hK.out _ _ (q4 BK106.out) (fun hHeld => ?_)
       clear hK K
       refine norm_ (a' := ?_) ?_ ?_
       rotate_left
       ·
        show Act.put _ (some 19) _ = _
        simp only [Act.put, sA, sB, sC, i64_w, i32_w]
        rfl
       exact norm_ (by simp only [putAll, Act.put, List.setIfInBounds_toArray, List.set_cons_zero, List.set_cons_succ]) (hCont (.slice Ao21 y111.length co21, v121, v124, v127, gb131) _ ⟨hHeld, (by (with_reducible repeat (first | apply rA | apply rN | apply rD)); exact Kd.R_mono HO113.out (fun _ hk => ⟨hk.1.2, ⟨hk.2, hk.1.1.2⟩⟩)), (by (with_reducible repeat (first | apply rA | apply rN | apply rD)); exact Kd.R_mono HO122.out (fun _ hk => ⟨hk.2, ⟨hk.1.1, hk.1.2⟩⟩)), (by (with_reducible repeat (first | apply rA | apply rN | apply rD)); exact Kd.R_mono HO125.out (fun _ hk => hk.2)), (by (with_reducible repeat (first | apply rA | apply rN | apply rD)); exact Kd.R_mono HO128.out (fun _ hk => ⟨hk.2, ⟨hk.1.1, hk.1.2⟩⟩)), (by (with_reducible repeat (first | apply Kd.Q_alloc | apply Kd.Q_drewN | apply Kd.Q_drew)); exact Kd.Q_mono HO_107002.out (fun _ hk => ⟨hk.1.1.2, ⟨hk.1.2, hk.2⟩⟩)), (by (with_reducible repeat (first | apply rA | apply rN | apply rD)); exact Kd.R_mono HO_107003.out (fun _ hk => hk.2)), (kX BK101.out), (kX BK106.out), (kX BK131.out), GW131.out, GE131.out, NB0_131.out, NB131_0.out, NB101_131.out, NB131_101.out, NB106_131.out, NB131_106.out, (iX63_6_spec_l01Src_l07Topic HI0.out), (hX HK.out), (bI63_0_spec_l01Src_l07Topic HB.out)⟩)
      skip
      refine box_step ?hg (N := 5) ?hd (cs := #[.string (⟨#[]⟩ : ByteArray), .int .i64 0, .slice none 0 0, .slice none 0 0, .slice none 0 0, .int .i64 0, .int .i64 0]) (t := 30) ?hr ?_; (case hd => rfl); (case hg => rfl); (case hr => first | (go_simp; done) | (go_simp; rfl))
      intro gb131 hg w21 hbox hb
      have _ := AM (Kd.Q_below (qX HO_107002.out) hb)
      have _ := AM (Kd.R_below (rX HO_107003.out) hb)
      have _ := AM (Kd.R_below (rX HO113.out) hb)
      have _ := AM (nB BK101.out hb)
      have _ := AM (nB BK106.out hb)
      have _ := AM (IsS63.below (iX63_6_spec_l01Src_l07Topic HI0.out) hb)
      have _ := AM (KeepBut.trans (hX HK.out) (KeepBut.of_below hb g none) (.inl rfl))
      have _ := AM (below_step (bI63_0_spec_l01Src_l07Topic HB.out) hb)
      have _ := AM (hbox)
      have _ := AM ((by rw [hg]; exact (keep_size (w := w) (g := g) (row := none) (hX HK.out)) : w.heap.size ≤ gb131))
      have _ := AM ((Nat.le_trans HW0.out (by rw [hg]; exact (keep_size (w := w) (g := g) (row := none) (hX HK.out)) : w.heap.size ≤ gb131) : w0.heap.size ≤ gb131))
      have _ := AM (lX hg BK101.out)
      have _ := AM (lX hg BK101.out).symm
      have _ := AM (lX hg BK106.out)
      have _ := AM (lX hg BK106.out).symm
      have _ := AM ((by rw [hg]; exact Nat.ne_of_lt (IsS63.lt (show IsS63 w0 _ g s0_0 x1001_1 x1002_1 x1003_1 from iX63_6_spec_l01Src_l07Topic HI0.out)) : g ≠ gb131))
      have _ := AM ((by rw [hg]; exact Nat.ne_of_gt (IsS63.lt (show IsS63 w0 _ g s0_0 x1001_1 x1002_1 x1003_1 from iX63_6_spec_l01Src_l07Topic HI0.out)) : gb131 ≠ g))
      clear HO_107002 HO_107003 HO113 BK101 BK106 HI0 HK HB
      rename_i HO_107002 HO_107003 HO113 BK101 BK106 HI0 HK HB BK131 GW131 GE131 NB101_131 NB131_101 NB106_131 NB131_106 NB0_131 NB131_0
      clear hb hbox hg
      obtain ⟨Ao22, co22, eo22⟩ := Kd.R_slice HO113.out
      (first | subst eo22 | (injection eo22 with f1_ f2_ f3_; have f4_ := f1_.symm; have f5_ := f3_.symm; clear f1_ f2_ f3_; subst f4_; subst f5_))
      refine hK.out _ _ (q4 BK106.out) (fun hHeld => ?_)
      clear hK K
      refine norm_ (a' := ?_) ?_ ?_
      rotate_left
      ·
       show Act.put _ (some 5) _ = _
       simp only [Act.put, sA, sB, sC, i64_w, i32_w]
       rfl
      refine one_ (i := 3) (N := some 18) #[true, true, true, true, false, true, false] rfl rfl (by kernel_rfl) (by decide) (fun K hK => ?_)
      refine goes_ Try.func39 (by kernel_rfl) rfl #[.pointer (some ⟨g, 0, none⟩), .slice Ao22 y111.length co22] (by rfl) rfl rfl (by (try simp only [mA, mB, mC]); first | done | rfl | (simp only [mD, mE]; rfl)) ?_
      with_reducible refine (spec_l01Src_pick.calls g s0_0 x1001_1 x1002_1 x1003_1 _ _ y111 t114 t115 t116 t117 w0 _ ?side1 ?side2 ?side3 ?side4 ?side5 A12.out).mono ?_
      (case side1 => exact (iX63_6_spec_l01Src_l07Topic HI0.out))
      (case side2 => exact (bI63_0_spec_l01Src_l07Topic HB.out))
      (case side3 => repeat (first | exact (Kd.R_reads' HO113.out).2.2 | (with_reducible first | apply cA | apply cN | apply cD)))
      (case side4 => exact (Kd.R_reads' HO113.out).2.1)
      (case side5 => exact far_slice (IsS63.own_ne HI0.out HO113.out (by decide)))
      rintro e w23 ⟨rfl, hi, hb, hk⟩
      refine ⟨_, rfl, ?_⟩
      have _ := AM (Kd.Q_mono (Kd.Q_keep (IsS63.apartQ (show IsS63 w0 _ g s0_0 x1001_1 x1002_1 x1003_1 from iX63_6_spec_l01Src_l07Topic HI0.out) (qX HO_107002.out) (by decide)) hk (fun _ h => h.2)) (fun _ h => h.1))
      have _ := AM (Kd.R_mono (Kd.R_keep (IsS63.apart (show IsS63 w0 _ g s0_0 x1001_1 x1002_1 x1003_1 from iX63_6_spec_l01Src_l07Topic HI0.out) (rX HO_107003.out) (by decide)) hk (fun _ h => h.2)) (fun _ h => h.1))
      have _ := AM (kB hk BK101.out NB101_0.out (by simp))
      have _ := AM (kB hk BK106.out NB106_0.out (by simp))
      have _ := AM (Kd.R_mono (Kd.R_keep (IsS63.apart (show IsS63 w0 _ g s0_0 x1001_1 x1002_1 x1003_1 from iX63_6_spec_l01Src_l07Topic HI0.out) (rX HO113.out) (by decide)) hk (fun _ h => h.2)) (fun _ h => h.1))
      have _ := AM (kB hk BK131.out NB131_0.out (by simp))
      have _ := AM (KeepBut.trans (hX HK.out) hk (.inl rfl))
      have _ := AM (hb)
      have _ := AM (hi)
      clear HO_107002 HO_107003 BK101 BK106 HO113 BK131 HK HB HI0
      rename_i HO_107002 HO_107003 BK101 BK106 HO113 BK131 HK HB HI0
      (try clear hb)
      (try clear hb2)
      (try clear hk)
      (try clear hi)
      refine hK.out _ _ (q4 BK106.out) (fun hHeld => ?_)
      clear hK K
      refine norm_ (a' := ?_) ?_ ?_
      rotate_left
      ·
       show Act.put _ (some 18) _ = _
       simp only [Act.put, sA, sB, sC, i64_w, i32_w]
       rfl
      refine one_ (i := 4) (N := some 19) (upTo 6 7) rfl rfl (by kernel_rfl) (by decide) (fun K hK => ?_)
      refine goes_ Try.func14 (by kernel_rfl) rfl #[.agg #[.string x107000_1, .int .i64 x107001_1, .slice Ao16 x107002_1.length co16, .slice Ao17 x107003_1.length co17], .string t114] (by rfl) rfl rfl (by (try simp only [mA, mB, mC]); first | done | rfl | (simp only [mD, mE]; rfl)) ?_
      with_reducible refine (spec_TopicPublish.calls k1 x107000_1 x107001_1 _ _ x107002_1 _ _ x107003_1 t114 t118 t119 t120 t123 t126 t129 t130 _ ?side1 ?side2 ?side3 ?side4 A13.out).mono ?_
      (case side1 => repeat (first | exact (Kd.Q_reads' HO_107002.out).2.2 | (with_reducible first | apply cA | apply cN | apply cD)))
      (case side2 => exact (Kd.Q_reads' HO_107002.out).2.1)
      (case side3 => repeat (first | exact (Kd.R_reads' HO_107003.out).2.2 | (with_reducible first | apply cA | apply cN | apply cD)))
      (case side4 => exact (Kd.R_reads' HO_107003.out).2.1)
      rintro e w24 ⟨v121, v124, v127, rfl, ho0, ho1, ho2, hb⟩
      refine ⟨_, rfl, ?_⟩
      have _ := AM (Kd.Q_mono (Kd.Q_told (Kd.Q_told (Kd.Q_old (qX HO_107002.out) hb) (Kd.R_base ho0)) (Kd.R_base ho2)) (fun _ h_ => h_.1))
      have _ := AM (Kd.R_elder' (rX HO_107003.out) (Kd.R_base ho1) hb)
      have _ := AM (Kd.R_mono (Kd.R_told (Kd.R_told (Kd.R_old (rX HO113.out) hb) (Kd.R_base ho0)) (Kd.R_base ho2)) (fun _ h_ => h_.1))
      have _ := AM (Kd.R_lower (Kd.R_new' (Kd.R_new' ho0 (Kd.Q_lt (qX HO_107002.out))) (Kd.R_lt (rX HO113.out))) (keep_size (w := w) (g := g) (row := none) (hX HK.out)))
      have _ := AM (Kd.R_lower (Kd.R_new' ho1 (Kd.R_lt (rX HO_107003.out))) (keep_size (w := w) (g := g) (row := none) (hX HK.out)))
      have _ := AM (Kd.R_lower (Kd.R_new' (Kd.R_new' ho2 (Kd.Q_lt (qX HO_107002.out))) (Kd.R_lt (rX HO113.out))) (keep_size (w := w) (g := g) (row := none) (hX HK.out)))
      have _ := AM (nB BK101.out hb)
      have _ := AM (nB BK106.out hb)
      have _ := AM (IsS63.below (iX63_6_spec_l01Src_l07Topic HI0.out) hb)
      have _ := AM (nB BK131.out hb)
      have _ := AM (KeepBut.trans (hX HK.out) (KeepBut.of_below hb g none) (.inl rfl))
      have _ := AM (below_step (bI63_0_spec_l01Src_l07Topic HB.out) hb)
      clear HO_107002 HO_107003 HO113 BK101 BK106 HI0 BK131 HK HB
      rename_i HO_107002 HO_107003 HO113 HO122 HO125 HO128 BK101 BK106 HI0 BK131 HK HB
      (try clear hb)
      (try clear hb2)
      (try clear hk)
      (try clear hi)
      (try clear ho0)
      (try clear ho1)
      (try clear ho2)
      refine hK.out _ _ (q4 BK106.out) (fun hHeld => ?_)
      clear hK K
      refine norm_ (a' := ?_) ?_ ?_
      rotate_left
      ·
       show Act.put _ (some 19) _ = _
       simp only [Act.put, sA, sB, sC, i64_w, i32_w]
       rfl
      exact norm_ (by simp only [putAll, Act.put, List.setIfInBounds_toArray, List.set_cons_zero, List.set_cons_succ]) (hCont (.slice Ao22 y111.length co22, v121, v124, v127, gb131) _ ⟨hHeld, (by (with_reducible repeat (first | apply rA | apply rN | apply rD)); exact Kd.R_mono HO113.out (fun _ hk => ⟨hk.1.2, ⟨hk.2, hk.1.1.2⟩⟩)), (by (with_reducible repeat (first | apply rA | apply rN | apply rD)); exact Kd.R_mono HO122.out (fun _ hk => ⟨hk.2, ⟨hk.1.1, hk.1.2⟩⟩)), (by (with_reducible repeat (first | apply rA | apply rN | apply rD)); exact Kd.R_mono HO125.out (fun _ hk => hk.2)), (by (with_reducible repeat (first | apply rA | apply rN | apply rD)); exact Kd.R_mono HO128.out (fun _ hk => ⟨hk.2, ⟨hk.1.1, hk.1.2⟩⟩)), (by (with_reducible repeat (first | apply Kd.Q_alloc | apply Kd.Q_drewN | apply Kd.Q_drew)); exact Kd.Q_mono HO_107002.out (fun _ hk => ⟨hk.1.1.2, ⟨hk.1.2, hk.2⟩⟩)), (by (with_reducible repeat (first | apply rA | apply rN | apply rD)); exact Kd.R_mono HO_107003.out (fun _ hk => hk.2)), (kX BK101.out), (kX BK106.out), (kX BK131.out), GW131.out, GE131.out, NB0_131.out, NB131_0.out, NB101_131.out, NB131_101.out, NB106_131.out, NB131_106.out, (iX63_6_spec_l01Src_l07Topic HI0.out), (hX HK.out), (bI63_0_spec_l01Src_l07Topic HB.out)⟩)
     skip
     refine box_step ?hg (N := 5) ?hd (cs := #[.string (⟨#[]⟩ : ByteArray), .int .i64 0, .slice none 0 0, .slice none 0 0, .slice none 0 0, .int .i64 0, .int .i64 0]) (t := 30) ?hr ?_; (case hd => rfl); (case hg => rfl); (case hr => first | (go_simp; done) | (go_simp; rfl))
     intro gb131 hg w19 hbox hb
     have _ := AM (Kd.Q_below (qX HO_107002.out) hb)
     have _ := AM (Kd.R_below (rX HO_107003.out) hb)
     have _ := AM (nB BK101.out hb)
     have _ := AM (nB BK106.out hb)
     have _ := AM (IsS63.below (iX63_6_spec_l01Src_l07Topic HI0.out) hb)
     have _ := AM (KeepBut.trans (hX HK.out) (KeepBut.of_below hb g none) (.inl rfl))
     have _ := AM (below_step (bI63_0_spec_l01Src_l07Topic HB.out) hb)
     have _ := AM (hbox)
     have _ := AM ((by rw [hg]; exact (keep_size (w := w) (g := g) (row := none) (hX HK.out)) : w.heap.size ≤ gb131))
     have _ := AM ((Nat.le_trans HW0.out (by rw [hg]; exact (keep_size (w := w) (g := g) (row := none) (hX HK.out)) : w.heap.size ≤ gb131) : w0.heap.size ≤ gb131))
     have _ := AM (lX hg BK101.out)
     have _ := AM (lX hg BK101.out).symm
     have _ := AM (lX hg BK106.out)
     have _ := AM (lX hg BK106.out).symm
     have _ := AM ((by rw [hg]; exact Nat.ne_of_lt (IsS63.lt (show IsS63 w0 _ g s0_0 x1001_1 x1002_1 x1003_1 from iX63_6_spec_l01Src_l07Topic HI0.out)) : g ≠ gb131))
     have _ := AM ((by rw [hg]; exact Nat.ne_of_gt (IsS63.lt (show IsS63 w0 _ g s0_0 x1001_1 x1002_1 x1003_1 from iX63_6_spec_l01Src_l07Topic HI0.out)) : gb131 ≠ g))
     clear HO_107002 HO_107003 BK101 BK106 HI0 HK HB
     rename_i HO_107002 HO_107003 BK101 BK106 HI0 HK HB BK131 GW131 GE131 NB101_131 NB131_101 NB106_131 NB131_106 NB0_131 NB131_0
     clear hb hbox hg
     refine hK.out _ _ (q4 BK106.out) (fun hHeld => ?_)
     clear hK K
     refine norm_ (a' := ?_) ?_ ?_
     rotate_left
     ·
      show Act.put _ (some 5) _ = _
      simp only [Act.put, sA, sB, sC, i64_w, i32_w]
      rfl
     refine one_ (i := 2) (N := some 17) #[true, true, true, false, false, true, false] rfl rfl (by kernel_rfl) (by decide) (fun K hK => ?_)
     refine Kd.R_lit_step Kd.string _ 9 ?hg (N := 17) ?hd (xs := ([(⟨#[120]⟩ : ByteArray), (⟨#[121, 121]⟩ : ByteArray)] : List ByteArray)) (inner := [.string (⟨#[120]⟩ : ByteArray), .string (⟨#[121, 121]⟩ : ByteArray)]) (ok := fun _ => True) (okp := fun _ => True) ?hr ?hp (fun _ hk => hk) trivial (Below.refl _ _) (Nat.le_refl _) (by simp) ?_; (case hd => rfl); (case hg => rfl); (case hr => first | (go_simp; done) | (go_simp; rfl)); (case hp => exact (Reps.one (show Kd.M Kd.string _ _ _ (⟨#[120]⟩ : ByteArray) [.string (⟨#[120]⟩ : ByteArray)] from rfl) (Reps.one (show Kd.M Kd.string _ _ _ (⟨#[121, 121]⟩ : ByteArray) [.string (⟨#[121, 121]⟩ : ByteArray)] from rfl) (Reps.none _ _))))
     intro v112 w20 ho21 hb hg_ hnew_
     clear hg_ hnew_
     (first | rw [← Ny111.out] at ho21 | (simp only [Int.reduceToNat] at ho21; rw [← Ny111.out] at ho21))
     have _ := AM (Kd.Q_elder' (qX HO_107002.out) (Kd.R_base ho21) hb)
     have _ := AM (Kd.R_below (rX HO_107003.out) hb)
     have _ := AM (Kd.R_lower (Kd.R_new' ho21 (Kd.Q_lt (qX HO_107002.out))) (keep_size (w := w) (g := g) (row := none) (hX HK.out)))
     have _ := AM (nB BK101.out hb)
     have _ := AM (nB BK106.out hb)
     have _ := AM (IsS63.below (iX63_6_spec_l01Src_l07Topic HI0.out) hb)
     have _ := AM (nB BK131.out hb)
     have _ := AM (KeepBut.trans (hX HK.out) (KeepBut.of_below hb g none) (.inl rfl))
     have _ := AM (below_step (bI63_0_spec_l01Src_l07Topic HB.out) hb)
     clear HO_107002 HO_107003 BK101 BK106 HI0 BK131 HK HB
     rename_i HO_107002 HO_107003 HO113 BK101 BK106 HI0 BK131 HK HB
     clear hb ho21
     obtain ⟨Ao22, co22, eo22⟩ := Kd.R_slice HO113.out
     (first | subst eo22 | (injection eo22 with f1_ f2_ f3_; have f4_ := f1_.symm; have f5_ := f3_.symm; clear f1_ f2_ f3_; subst f4_; subst f5_))
     refine hK.out _ _ (q4 BK106.out) (fun hHeld => ?_)
     clear hK K
     refine norm_ (a' := ?_) ?_ ?_
     rotate_left
     ·
      show Act.put _ (some 17) _ = _
      simp only [Act.put, sA, sB, sC, i64_w, i32_w]
      rfl
     refine one_ (i := 3) (N := some 18) #[true, true, true, true, false, true, false] rfl rfl (by kernel_rfl) (by decide) (fun K hK => ?_)
     refine goes_ Try.func39 (by kernel_rfl) rfl #[.pointer (some ⟨g, 0, none⟩), .slice Ao22 y111.length co22] (by rfl) rfl rfl (by (try simp only [mA, mB, mC]); first | done | rfl | (simp only [mD, mE]; rfl)) ?_
     with_reducible refine (spec_l01Src_pick.calls g s0_0 x1001_1 x1002_1 x1003_1 _ _ y111 t114 t115 t116 t117 w0 _ ?side1 ?side2 ?side3 ?side4 ?side5 A12.out).mono ?_
     (case side1 => exact (iX63_6_spec_l01Src_l07Topic HI0.out))
     (case side2 => exact (bI63_0_spec_l01Src_l07Topic HB.out))
     (case side3 => repeat (first | exact (Kd.R_reads' HO113.out).2.2 | (with_reducible first | apply cA | apply cN | apply cD)))
     (case side4 => exact (Kd.R_reads' HO113.out).2.1)
     (case side5 => exact far_slice (IsS63.own_ne HI0.out HO113.out (by decide)))
     rintro e w23 ⟨rfl, hi, hb, hk⟩
     refine ⟨_, rfl, ?_⟩
     have _ := AM (Kd.Q_mono (Kd.Q_keep (IsS63.apartQ (show IsS63 w0 _ g s0_0 x1001_1 x1002_1 x1003_1 from iX63_6_spec_l01Src_l07Topic HI0.out) (qX HO_107002.out) (by decide)) hk (fun _ h => h.2)) (fun _ h => h.1))
     have _ := AM (Kd.R_mono (Kd.R_keep (IsS63.apart (show IsS63 w0 _ g s0_0 x1001_1 x1002_1 x1003_1 from iX63_6_spec_l01Src_l07Topic HI0.out) (rX HO_107003.out) (by decide)) hk (fun _ h => h.2)) (fun _ h => h.1))
     have _ := AM (kB hk BK101.out NB101_0.out (by simp))
     have _ := AM (kB hk BK106.out NB106_0.out (by simp))
     have _ := AM (kB hk BK131.out NB131_0.out (by simp))
     have _ := AM (Kd.R_mono (Kd.R_keep (IsS63.apart (show IsS63 w0 _ g s0_0 x1001_1 x1002_1 x1003_1 from iX63_6_spec_l01Src_l07Topic HI0.out) (rX HO113.out) (by decide)) hk (fun _ h => h.2)) (fun _ h => h.1))
     have _ := AM (KeepBut.trans (hX HK.out) hk (.inl rfl))
     have _ := AM (hb)
     have _ := AM (hi)
     clear HO_107002 HO_107003 BK101 BK106 BK131 HO113 HK HB HI0
     rename_i HO_107002 HO_107003 BK101 BK106 BK131 HO113 HK HB HI0
     (try clear hb)
     (try clear hb2)
     (try clear hk)
     (try clear hi)
     refine hK.out _ _ (q4 BK106.out) (fun hHeld => ?_)
     clear hK K
     refine norm_ (a' := ?_) ?_ ?_
     rotate_left
     ·
      show Act.put _ (some 18) _ = _
      simp only [Act.put, sA, sB, sC, i64_w, i32_w]
      rfl
     refine one_ (i := 4) (N := some 19) (upTo 6 7) rfl rfl (by kernel_rfl) (by decide) (fun K hK => ?_)
     refine goes_ Try.func14 (by kernel_rfl) rfl #[.agg #[.string x107000_1, .int .i64 x107001_1, .slice Ao16 x107002_1.length co16, .slice Ao17 x107003_1.length co17], .string t114] (by rfl) rfl rfl (by (try simp only [mA, mB, mC]); first | done | rfl | (simp only [mD, mE]; rfl)) ?_
     with_reducible refine (spec_TopicPublish.calls k1 x107000_1 x107001_1 _ _ x107002_1 _ _ x107003_1 t114 t118 t119 t120 t123 t126 t129 t130 _ ?side1 ?side2 ?side3 ?side4 A13.out).mono ?_
     (case side1 => repeat (first | exact (Kd.Q_reads' HO_107002.out).2.2 | (with_reducible first | apply cA | apply cN | apply cD)))
     (case side2 => exact (Kd.Q_reads' HO_107002.out).2.1)
     (case side3 => repeat (first | exact (Kd.R_reads' HO_107003.out).2.2 | (with_reducible first | apply cA | apply cN | apply cD)))
     (case side4 => exact (Kd.R_reads' HO_107003.out).2.1)
     rintro e w24 ⟨v121, v124, v127, rfl, ho0, ho1, ho2, hb⟩
     refine ⟨_, rfl, ?_⟩
     have _ := AM (Kd.Q_mono (Kd.Q_told (Kd.Q_told (Kd.Q_old (qX HO_107002.out) hb) (Kd.R_base ho0)) (Kd.R_base ho2)) (fun _ h_ => h_.1))
     have _ := AM (Kd.R_elder' (rX HO_107003.out) (Kd.R_base ho1) hb)
     have _ := AM (Kd.R_mono (Kd.R_told (Kd.R_told (Kd.R_old (rX HO113.out) hb) (Kd.R_base ho0)) (Kd.R_base ho2)) (fun _ h_ => h_.1))
     have _ := AM (Kd.R_lower (Kd.R_new' (Kd.R_new' ho0 (Kd.Q_lt (qX HO_107002.out))) (Kd.R_lt (rX HO113.out))) (keep_size (w := w) (g := g) (row := none) (hX HK.out)))
     have _ := AM (Kd.R_lower (Kd.R_new' ho1 (Kd.R_lt (rX HO_107003.out))) (keep_size (w := w) (g := g) (row := none) (hX HK.out)))
     have _ := AM (Kd.R_lower (Kd.R_new' (Kd.R_new' ho2 (Kd.Q_lt (qX HO_107002.out))) (Kd.R_lt (rX HO113.out))) (keep_size (w := w) (g := g) (row := none) (hX HK.out)))
     have _ := AM (nB BK101.out hb)
     have _ := AM (nB BK106.out hb)
     have _ := AM (IsS63.below (iX63_6_spec_l01Src_l07Topic HI0.out) hb)
     have _ := AM (nB BK131.out hb)
     have _ := AM (KeepBut.trans (hX HK.out) (KeepBut.of_below hb g none) (.inl rfl))
     have _ := AM (below_step (bI63_0_spec_l01Src_l07Topic HB.out) hb)
     clear HO_107002 HO_107003 HO113 BK101 BK106 HI0 BK131 HK HB
     rename_i HO_107002 HO_107003 HO113 HO122 HO125 HO128 BK101 BK106 HI0 BK131 HK HB
     (try clear hb)
     (try clear hb2)
     (try clear hk)
     (try clear hi)
     (try clear ho0)
     (try clear ho1)
     (try clear ho2)
     refine hK.out _ _ (q4 BK106.out) (fun hHeld => ?_)
     clear hK K
     refine norm_ (a' := ?_) ?_ ?_
     rotate_left
     ·
      show Act.put _ (some 19) _ = _
      simp only [Act.put, sA, sB, sC, i64_w, i32_w]
      rfl
     exact norm_ (by simp only [putAll, Act.put, List.setIfInBounds_toArray, List.set_cons_zero, List.set_cons_succ]) (hCont (.slice Ao22 y111.length co22, v121, v124, v127, gb131) _ ⟨hHeld, (by (with_reducible repeat (first | apply rA | apply rN | apply rD)); exact Kd.R_mono HO113.out (fun _ hk => ⟨hk.1.2, ⟨hk.2, hk.1.1.2⟩⟩)), (by (with_reducible repeat (first | apply rA | apply rN | apply rD)); exact Kd.R_mono HO122.out (fun _ hk => ⟨hk.2, ⟨hk.1.1, hk.1.2⟩⟩)), (by (with_reducible repeat (first | apply rA | apply rN | apply rD)); exact Kd.R_mono HO125.out (fun _ hk => hk.2)), (by (with_reducible repeat (first | apply rA | apply rN | apply rD)); exact Kd.R_mono HO128.out (fun _ hk => ⟨hk.2, ⟨hk.1.1, hk.1.2⟩⟩)), (by (with_reducible repeat (first | apply Kd.Q_alloc | apply Kd.Q_drewN | apply Kd.Q_drew)); exact Kd.Q_mono HO_107002.out (fun _ hk => ⟨hk.1.1.2, ⟨hk.1.2, hk.2⟩⟩)), (by (with_reducible repeat (first | apply rA | apply rN | apply rD)); exact Kd.R_mono HO_107003.out (fun _ hk => hk.2)), (kX BK101.out), (kX BK106.out), (kX BK131.out), GW131.out, GE131.out, NB0_131.out, NB131_0.out, NB101_131.out, NB131_101.out, NB106_131.out, NB131_106.out, (iX63_6_spec_l01Src_l07Topic HI0.out), (hX HK.out), (bI63_0_spec_l01Src_l07Topic HB.out)⟩)
    rintro ⟨v112, v121, v124, v127, gb131⟩ w25 ⟨hS_, h0_, h1_, h2_, h3_, h4_, h5_, h6_, h7_, h8_, h9_, h10_, h11_, h12_, h13_, h14_, h15_, h16_, h17_, h18_, h19_⟩
    have _ : Aside0 (Kd.R Kd.string 9 w25 w.heap.size (fun k_ => some k_ ≠ (v121 : Value).ownBlock ∧ some k_ ≠ (v127 : Value).ownBlock ∧ some k_ ≠ (.slice Ao16 x107002_1.length co16 : Value).ownBlock) v112 y111) := ⟨h0_⟩
    have _ : Aside0 (Kd.R Kd.string 9 w25 w.heap.size (fun k_ => some k_ ≠ (v112 : Value).ownBlock ∧ some k_ ≠ (v127 : Value).ownBlock ∧ some k_ ≠ (.slice Ao16 x107002_1.length co16 : Value).ownBlock) v121 t120) := ⟨h1_⟩
    have _ : Aside0 (Kd.R k36 36 w25 w.heap.size (fun k_ => some k_ ≠ (.slice Ao17 x107003_1.length co17 : Value).ownBlock) v124 t123) := ⟨h2_⟩
    have _ : Aside0 (Kd.R Kd.string 9 w25 w.heap.size (fun k_ => some k_ ≠ (v112 : Value).ownBlock ∧ some k_ ≠ (v121 : Value).ownBlock ∧ some k_ ≠ (.slice Ao16 x107002_1.length co16 : Value).ownBlock) v127 t126) := ⟨h3_⟩
    have _ : Aside0 (Kd.Q Kd.string 9 w25 w.heap.size (fun k_ => some k_ ≠ (v112 : Value).ownBlock ∧ some k_ ≠ (v121 : Value).ownBlock ∧ some k_ ≠ (v127 : Value).ownBlock) (.slice Ao16 x107002_1.length co16) x107002_1) := ⟨h4_⟩
    have _ : Aside0 (Kd.R k36 36 w25 w.heap.size (fun k_ => some k_ ≠ (v124 : Value).ownBlock) (.slice Ao17 x107003_1.length co17) x107003_1) := ⟨h5_⟩
    have _ : Aside0 (w25.heap[gb101]? = some (.cells #[.string (⟨#[]⟩ : ByteArray), .int .i64 0, .slice none 0 0, .slice none 0 0] 26 (0, 0))) := ⟨h6_⟩
    have _ : Aside0 (w25.heap[gb106]? = some (.cells #[.string x107000_1, .int .i64 x107001_1, .slice Ao16 x107002_1.length co16, .slice Ao17 x107003_1.length co17] 26 (0, 0))) := ⟨h7_⟩
    have _ : Aside0 (w25.heap[gb131]? = some (.cells #[.string (⟨#[]⟩ : ByteArray), .int .i64 0, .slice none 0 0, .slice none 0 0, .slice none 0 0, .int .i64 0, .int .i64 0] 30 (0, 0))) := ⟨h8_⟩
    have _ : Aside0 (w.heap.size ≤ gb131) := ⟨h9_⟩
    have _ : Aside0 (w0.heap.size ≤ gb131) := ⟨h10_⟩
    have _ : Aside0 (g ≠ gb131) := ⟨h11_⟩
    have _ : Aside0 (gb131 ≠ g) := ⟨h12_⟩
    have _ : Aside0 (gb101 ≠ gb131) := ⟨h13_⟩
    have _ : Aside0 (gb131 ≠ gb101) := ⟨h14_⟩
    have _ : Aside0 (gb106 ≠ gb131) := ⟨h15_⟩
    have _ : Aside0 (gb131 ≠ gb106) := ⟨h16_⟩
    have _ : Aside0 (IsS63 w0 w25 g s0_0 t115 t116 t117) := ⟨h17_⟩
    have _ : Aside0 (KeepBut w w25 g none) := ⟨h18_⟩
    have _ : Aside0 (Below w0.heap.size w0 w25) := ⟨h19_⟩
    clear HO_107002 HO_107003 BK101 BK106 HI0 HK HB h0_ h1_ h2_ h3_ h4_ h5_ h6_ h7_ h8_ h9_ h10_ h11_ h12_ h13_ h14_ h15_ h16_ h17_ h18_ h19_
    rename_i HO113 HO122 HO125 HO128 HO_107002 HO_107003 BK101 BK106 BK131 GW131 GE131 NB0_131 NB131_0 NB101_131 NB131_101 NB106_131 NB131_106 HI0 HK HB
    have hHeld : w25.cell? ⟨gb106, 0, none⟩ = some (.string x107000_1) ∧ w25.cell? ⟨gb106, 1, none⟩ = some (.int .i64 x107001_1) ∧ w25.cell? ⟨gb106, 2, none⟩ = some (.slice Ao16 x107002_1.length co16) ∧ w25.cell? ⟨gb106, 3, none⟩ = some (.slice Ao17 x107003_1.length co17) := hS_
    obtain ⟨Ao28, co28, eo28⟩ := Kd.R_slice HO122.out
    (first | subst eo28 | (injection eo28 with f1_ f2_ f3_; have f4_ := f1_.symm; have f5_ := f3_.symm; clear f1_ f2_ f3_; subst f4_; subst f5_))
    obtain ⟨Ao30, co30, eo30⟩ := Kd.R_slice HO125.out
    (first | subst eo30 | (injection eo30 with f1_ f2_ f3_; have f4_ := f1_.symm; have f5_ := f3_.symm; clear f1_ f2_ f3_; subst f4_; subst f5_))
    obtain ⟨Ao32, co32, eo32⟩ := Kd.R_slice HO128.out
    (first | subst eo32 | (injection eo32 with f1_ f2_ f3_; have f4_ := f1_.symm; have f5_ := f3_.symm; clear f1_ f2_ f3_; subst f4_; subst f5_))
    refine norm_ (a' := ?_) ?_ ?_
    rotate_left
    ·
     simp only [putAll, Act.put, List.setIfInBounds_toArray, List.set_cons_zero, List.set_cons_succ]
     rfl
    refine one_ (i := 6) (N := none) (upTo 7 7) rfl rfl (by kernel_rfl) (by decide) (fun K hK => ?_)
    have hs26 : w25.cell? ⟨gb131, 0, none⟩ = some (.string (⟨#[]⟩ : ByteArray)) := (kC BK131.out 0).trans rfl
    have hfs26 := fZ BK131.out 0
    have hns26_0 := NB101_131.out
    have hns26_1 := NB106_131.out
    have hms26_0 := NB131_101.out
    have hms26_1 := NB131_106.out
    have hs27 : w25.cell? ⟨gb131, 1, none⟩ = some (.int .i64 0) := (kC BK131.out 1).trans rfl
    have hfs27 := fZ BK131.out 1
    have hns27_0 := NB101_131.out
    have hns27_1 := NB106_131.out
    have hms27_0 := NB131_101.out
    have hms27_1 := NB131_106.out
    have hs29 : w25.cell? ⟨gb131, 2, none⟩ = some (.slice none 0 0) := (kC BK131.out 2).trans rfl
    have hfs29 := fZ BK131.out 2
    have hns29_0 := NB101_131.out
    have hns29_1 := NB106_131.out
    have hms29_0 := NB131_101.out
    have hms29_1 := NB131_106.out
    have hs31 : w25.cell? ⟨gb131, 3, none⟩ = some (.slice none 0 0) := (kC BK131.out 3).trans rfl
    have hfs31 := fZ BK131.out 3
    have hns31_0 := NB101_131.out
    have hns31_1 := NB106_131.out
    have hms31_0 := NB131_101.out
    have hms31_1 := NB131_106.out
    have hs33 : w25.cell? ⟨gb131, 4, none⟩ = some (.slice none 0 0) := (kC BK131.out 4).trans rfl
    have hfs33 := fZ BK131.out 4
    have hns33_0 := NB101_131.out
    have hns33_1 := NB106_131.out
    have hms33_0 := NB131_101.out
    have hms33_1 := NB131_106.out
    have hs34 : w25.cell? ⟨gb131, 5, none⟩ = some (.int .i64 0) := (kC BK131.out 5).trans rfl
    have hfs34 := fZ BK131.out 5
    have hns34_0 := NB101_131.out
    have hns34_1 := NB106_131.out
    have hms34_0 := NB131_101.out
    have hms34_1 := NB131_106.out
    have hs35 : w25.cell? ⟨gb131, 6, none⟩ = some (.int .i64 0) := (kC BK131.out 6).trans rfl
    have hfs35 := fZ BK131.out 6
    have hns35_0 := NB101_131.out
    have hns35_1 := NB106_131.out
    have hms35_0 := NB131_101.out
    have hms35_1 := NB131_106.out
    refine skip_ (w1 := ?_) (by rfl) rfl ?_ ?_
    rotate_left
    ·
     go_simp
     rfl
    refine hK.out _ _ ⟨(cT NB106_131.out ((cT NB106_131.out ((cT NB106_131.out ((cT NB106_131.out ((cT NB106_131.out ((cT NB106_131.out ((cT NB106_131.out (hHeld.1)))))))))))))), (cT NB106_131.out ((cT NB106_131.out ((cT NB106_131.out ((cT NB106_131.out ((cT NB106_131.out ((cT NB106_131.out ((cT NB106_131.out (hHeld.2.1)))))))))))))), (cT NB106_131.out ((cT NB106_131.out ((cT NB106_131.out ((cT NB106_131.out ((cT NB106_131.out ((cT NB106_131.out ((cT NB106_131.out (hHeld.2.2.1)))))))))))))), (cT NB106_131.out ((cT NB106_131.out ((cT NB106_131.out ((cT NB106_131.out ((cT NB106_131.out ((cT NB106_131.out ((cT NB106_131.out (hHeld.2.2.2))))))))))))))⟩ (fun hHeld => ?_)
    clear hK K
    refine done_ (by kernel_rfl) ?_
    go_upto_block 2 with (first | ((with_reducible refine gate_callee (f := 21) rfl ?_); refine goesL_ (some 21) rfl rfl Try.func21 (by kernel_rfl) rfl #[.pointer (some ⟨g, 0, none⟩), .int .i64 6] rfl (by (try simp only [mA, mB, mC]); first | done | rfl | (simp only [mD, mE]; rfl)) ?_; (with_reducible refine (spec_l01Src_n.calls g s0_0 t115 t116 t117 6 t132 t133 t134 t135 w0 _ ?side1 ?side2 A14.out).mono ?_); (case side1 => exact (iX63_6_spec_l01Src_l07Topic HI0.out)); (case side2 => exact (bI63_0_spec_l01Src_l07Topic HB.out)); rintro e w36 ⟨rfl, hi, hb, hk⟩; refine ⟨_, rfl, ?_⟩; have _ := AM (Kd.Q_mono (Kd.Q_keep (IsS63.apartQ (show IsS63 w0 _ g s0_0 t115 t116 t117 from iX63_6_spec_l01Src_l07Topic HI0.out) (by (with_reducible repeat (first | apply Kd.Q_alloc | apply Kd.Q_drewN | apply Kd.Q_drew)); exact (Qf7 HO_107002.out BK131.out (by decide) (fun _ h_ => h_.1))) (by decide)) hk (fun _ h => h.2)) (fun _ h => h.1)); have _ := AM (Kd.R_mono (Kd.R_keep (IsS63.apart (show IsS63 w0 _ g s0_0 t115 t116 t117 from iX63_6_spec_l01Src_l07Topic HI0.out) (by (with_reducible repeat (first | apply rA | apply rN | apply rD)); exact (Rf7 HO_107003.out BK131.out (by decide) (fun _ h_ => h_.1))) (by decide)) hk (fun _ h => h.2)) (fun _ h => h.1)); have _ := AM (KeepBut.blk hk (g' := gb101) (o := .cells #[.string (⟨#[]⟩ : ByteArray), .int .i64 0, .slice none 0 0, .slice none 0 0] 26 (0, 0)) (by (iterate 7 refine kF NB101_131.out ?_); (with_reducible repeat (first | apply kN | apply kD | apply kA)); exact BK101.out) NB101_0.out (by simp)); have _ := AM (KeepBut.blk hk (g' := gb106) (o := .cells #[.string x107000_1, .int .i64 x107001_1, .slice Ao16 x107002_1.length co16, .slice Ao17 x107003_1.length co17] 26 (0, 0)) (by (iterate 7 refine kF NB106_131.out ?_); (with_reducible repeat (first | apply kN | apply kD | apply kA)); exact BK106.out) NB106_0.out (by simp)); have _ := AM (Kd.R_mono (Kd.R_keep (IsS63.apart (show IsS63 w0 _ g s0_0 t115 t116 t117 from iX63_6_spec_l01Src_l07Topic HI0.out) (by (with_reducible repeat (first | apply rA | apply rN | apply rD)); exact (Rf7 HO113.out BK131.out (by decide) (fun _ h_ => h_.1))) (by decide)) hk (fun _ h => h.2)) (fun _ h => h.1)); have _ := AM (Kd.R_mono (Kd.R_keep (IsS63.apart (show IsS63 w0 _ g s0_0 t115 t116 t117 from iX63_6_spec_l01Src_l07Topic HI0.out) (by (with_reducible repeat (first | apply rA | apply rN | apply rD)); exact (Rf7 HO122.out BK131.out (by decide) (fun _ h_ => h_.1))) (by decide)) hk (fun _ h => h.2)) (fun _ h => h.1)); have _ := AM (Kd.R_mono (Kd.R_keep (IsS63.apart (show IsS63 w0 _ g s0_0 t115 t116 t117 from iX63_6_spec_l01Src_l07Topic HI0.out) (by (with_reducible repeat (first | apply rA | apply rN | apply rD)); exact (Rf7 HO125.out BK131.out (by decide) (fun _ h_ => h_.1))) (by decide)) hk (fun _ h => h.2)) (fun _ h => h.1)); have _ := AM (Kd.R_mono (Kd.R_keep (IsS63.apart (show IsS63 w0 _ g s0_0 t115 t116 t117 from iX63_6_spec_l01Src_l07Topic HI0.out) (by (with_reducible repeat (first | apply rA | apply rN | apply rD)); exact (Rf7 HO128.out BK131.out (by decide) (fun _ h_ => h_.1))) (by decide)) hk (fun _ h => h.2)) (fun _ h => h.1)); have _ := AM (KeepBut.blk hk (g' := gb131) (o := .cells #[.string t118, .int .i64 t119, .slice Ao28 t120.length co28, .slice Ao30 t123.length co30, .slice Ao32 t126.length co32, .int .i64 t129, .int .i64 t130] 30 (0, 0)) (by refine kP (cs := #[.string t118, .int .i64 t119, .slice Ao28 t120.length co28, .slice Ao30 t123.length co30, .slice Ao32 t126.length co32, .int .i64 t129, .int .i64 0]) 6 ?_; refine kP (cs := #[.string t118, .int .i64 t119, .slice Ao28 t120.length co28, .slice Ao30 t123.length co30, .slice Ao32 t126.length co32, .int .i64 0, .int .i64 0]) 5 ?_; refine kP (cs := #[.string t118, .int .i64 t119, .slice Ao28 t120.length co28, .slice Ao30 t123.length co30, .slice none 0 0, .int .i64 0, .int .i64 0]) 4 ?_; refine kP (cs := #[.string t118, .int .i64 t119, .slice Ao28 t120.length co28, .slice none 0 0, .slice none 0 0, .int .i64 0, .int .i64 0]) 3 ?_; refine kP (cs := #[.string t118, .int .i64 t119, .slice none 0 0, .slice none 0 0, .slice none 0 0, .int .i64 0, .int .i64 0]) 2 ?_; refine kP (cs := #[.string t118, .int .i64 0, .slice none 0 0, .slice none 0 0, .slice none 0 0, .int .i64 0, .int .i64 0]) 1 ?_; refine kP (cs := #[.string (⟨#[]⟩ : ByteArray), .int .i64 0, .slice none 0 0, .slice none 0 0, .slice none 0 0, .int .i64 0, .int .i64 0]) 0 ?_; (with_reducible repeat (first | apply kN | apply kD | apply kA)); exact BK131.out) NB131_0.out (by simp)); have _ := AM (KeepBut.trans (hX HK.out) hk (.inl rfl)); have _ := AM (hb); have _ := AM (hi); clear HO_107002 HO_107003 BK101 BK106 HO113 HO122 HO125 HO128 BK131 HK HB HI0; rename_i HO_107002 HO_107003 BK101 BK106 HO113 HO122 HO125 HO128 BK131 HK HB HI0; (try clear hb); (try clear hb2); (try clear hk); (try clear hi)))
    (try simp only [Act.put, List.setIfInBounds_toArray, List.set_cons_zero, List.set_cons_succ])
    go_cut [] (fun wc => ∃ (kq : Nat) (x1001_14 : Int) (x1002_14 : Int) (x1003_14 : Int) (x132000_14 : ByteArray) (x132001_14 : Int) (x132002_14 : List ByteArray) (x132003_14 : List (S36)) (x132004_14 : List ByteArray) (x132005_14 : Int) (x132006_14 : Int) (u132002 : Value) (u132003 : Value) (u132004 : Value), Aside0 (spec_l01Src_l07Topic.j1 kq x4_1 s0_0 x1001_14 x1002_14 x1003_14 x107000_1 x107001_1 x107002_1 x107003_1 x132000_14 x132001_14 x132002_14 x132003_14 x132004_14 x132005_14 x132006_14 = some (r1, r2, r3, r4, r5, r6, r7)) ∧ Aside0 (kq ≤ k1) ∧ Aside0 (Kd.Q Kd.string 9 wc w.heap.size (fun k_ => some k_ ≠ (u132002 : Value).ownBlock ∧ some k_ ≠ (u132004 : Value).ownBlock) (.slice Ao16 x107002_1.length co16) x107002_1) ∧ Aside0 (Kd.R k36 36 wc w.heap.size (fun k_ => some k_ ≠ (u132003 : Value).ownBlock) (.slice Ao17 x107003_1.length co17) x107003_1) ∧ Aside0 (Kd.Q Kd.string 9 wc w.heap.size (fun k_ => some k_ ≠ ((.slice Ao16 x107002_1.length co16) : Value).ownBlock ∧ some k_ ≠ (u132004 : Value).ownBlock) u132002 x132002_14) ∧ Aside0 (Kd.R k36 36 wc w.heap.size (fun k_ => some k_ ≠ ((.slice Ao17 x107003_1.length co17) : Value).ownBlock) u132003 x132003_14) ∧ Aside0 (Kd.R Kd.string 9 wc w.heap.size (fun k_ => some k_ ≠ ((.slice Ao16 x107002_1.length co16) : Value).ownBlock ∧ some k_ ≠ (u132002 : Value).ownBlock) u132004 x132004_14) ∧ Aside0 (wc.heap[gb101]? = some (.cells #[.string (⟨#[]⟩ : ByteArray), .int .i64 0, (.slice none 0 0), (.slice none 0 0)] 26 (0, 0))) ∧ Aside0 (wc.heap[gb106]? = some (.cells #[.string x107000_1, .int .i64 x107001_1, (.slice Ao16 x107002_1.length co16), (.slice Ao17 x107003_1.length co17)] 26 (0, 0))) ∧ Aside0 (wc.heap[gb131]? = some (.cells #[.string x132000_14, .int .i64 x132001_14, u132002, u132003, u132004, .int .i64 x132005_14, .int .i64 x132006_14] 30 (0, 0))) ∧ Aside0 (IsS63 w0 wc g s0_0 x1001_14 x1002_14 x1003_14) ∧ Aside0 (KeepBut w wc g none) ∧ Aside0 (Below w0.heap.size w0 wc))
    case first =>
     have H := HC15.out
     clear HC15
     by_cases c37 : t132 = 0
     ·
      rw [if_pos c37] at H
      have c37b0 : (t132 == 0) = true := beq_iff_eq.mpr c37
      have c37b1 : (t132 != 0) = false := bne_eq_false_iff_eq.mpr c37
      clear c37
      (first | rw [c37b0] | (simp only [i64_w, i32_w]; rw [c37b0]) | skip)
      obtain ⟨y136, hy136⟩ : ∃ y_ : List ByteArray, y_ = (([(⟨#[103]⟩ : ByteArray), (⟨#[104]⟩ : ByteArray), (⟨#[105]⟩ : ByteArray)] : List ByteArray)) := ⟨_, rfl⟩
      replace H : ((spec_l01Src_pick.f s0_0 t133 t134 t135 y136).bind fun bt139 => ((spec_l01Src_n.f s0_0 bt139.2.1 bt139.2.2.1 bt139.2.2.2 4).bind fun bt143 => ((spec_TopicAck.f k1 x107000_1 x107001_1 x107002_1 x107003_1 bt139.1 (wrap64 (x107001_1 + bt143.1))).bind fun bt147 => (spec_l01Src_l07Topic.j1 k1 x4_1 s0_0 bt143.2.1 bt143.2.2.1 bt143.2.2.2 x107000_1 x107001_1 x107002_1 x107003_1 bt147.1 bt147.2.1 bt147.2.2.1 bt147.2.2.2.1 bt147.2.2.2.2.1 bt147.2.2.2.2.2.1 bt147.2.2.2.2.2.2)))) = some (r1, r2, r3, r4, r5, r6, r7) := by first | (rw [hy136]; with_reducible exact H) | (have H2_ := (Option.bind_some _ _).symm.trans H; rw [hy136]; with_reducible exact H2_) | (have H2_ := (Option.bind_some _ _).symm.trans H; with_reducible exact H2_) | with_reducible exact H | (rw [hy136]; exact H) | exact H
      have Ny136 := AM hy136
      clear hy136
      replace H := Option.bind_eq_some_iff.mp H
      obtain ⟨⟨t139, t140, t141, t142⟩, A380, H⟩ := H
      try dsimp only at H
      have A38 := AM A380
      clear A380
      replace H := Option.bind_eq_some_iff.mp H
      obtain ⟨⟨t143, t144, t145, t146⟩, A390, H⟩ := H
      try dsimp only at H
      have A39 := AM A390
      clear A390
      replace H := Option.bind_eq_some_iff.mp H
      obtain ⟨⟨t147, t148, t149, t152, t155, t158, t159⟩, A400, H⟩ := H
      try dsimp only at H
      have A40 := AM A400
      clear A400
      have H' := AM H
      clear H
      try go_wp2
      have _ := AM (Kd.Q_drew HO_107002.out)
      have _ := AM (rD HO_107003.out)
      have _ := AM (rD HO113.out)
      have _ := AM (rD HO122.out)
      have _ := AM (rD HO125.out)
      have _ := AM (rD HO128.out)
      have _ := AM (kD BK101.out)
      have _ := AM (kD BK106.out)
      have _ := AM (kD BK131.out)
      have _ := AM (IsS63.drew HI0.out)
      have _ := AM (keep_drew HK.out)
      have _ := AM (bD HB.out)
      clear HO_107002 HO_107003 HO113 HO122 HO125 HO128 BK101 BK106 BK131 HI0 HK HB
      rename_i HO_107002 HO_107003 HO113 HO122 HO125 HO128 BK101 BK106 BK131 HI0 HK HB
      refine start_ (n := 11) (S := fun w' => w'.cell? ⟨gb106, 0, none⟩ = some (.string x107000_1) ∧ w'.cell? ⟨gb106, 1, none⟩ = some (.int .i64 x107001_1) ∧ w'.cell? ⟨gb106, 2, none⟩ = some (.slice Ao16 x107002_1.length co16) ∧ w'.cell? ⟨gb106, 3, none⟩ = some (.slice Ao17 x107003_1.length co17)) (ds := []) (upTo 0 11) (by kernel_rfl) rfl rfl (q4 BK106.out) (fun hHeld => ?_); refine with_tabW spec_l01Src_l07Topic.tab8 spec_l01Src_l07Topic.bits8 (fun HT_ HW_ => ?_)
      generalize w36.drew = w41 at HO_107002 HO_107003 HO113 HO122 HO125 HO128 BK101 BK106 BK131 HI0 HK HB hHeld ⊢
      refine pF2 1 25 spec_l01Src_l07Topic.b0 ?_
      refine pF2 4 28 spec_l01Src_l07Topic.b1 ?_
      refine pF2 6 30 spec_l01Src_l07Topic.b2 ?_
      refine pT2 0 24 spec_l01Src_l07Topic.b3 ?_ hHeld
      refine pT2 5 29 spec_l01Src_l07Topic.b4 ?_ hHeld
      refine one_ (i := 2) (N := some 26) spec_l01Src_l07Topic.b5 rfl rfl (one_of HT_.out (by kernel_rfl)) (by decide) (fun K hK => ?_)
      refine Kd.R_lit_step Kd.string _ 9 ?hg (N := 26) ?hd (xs := ([(⟨#[103]⟩ : ByteArray), (⟨#[104]⟩ : ByteArray), (⟨#[105]⟩ : ByteArray)] : List ByteArray)) (inner := [.string (⟨#[103]⟩ : ByteArray), .string (⟨#[104]⟩ : ByteArray), .string (⟨#[105]⟩ : ByteArray)]) (ok := fun _ => True) (okp := fun _ => True) ?hr ?hp (fun _ hk => hk) trivial (Below.refl _ _) (Nat.le_refl _) (by simp) ?_; (case hd => rfl); (case hg => rfl); (case hr => first | (go_simp; done) | (go_simp; rfl)); (case hp => exact (Reps.one (show Kd.M Kd.string _ _ _ (⟨#[103]⟩ : ByteArray) [.string (⟨#[103]⟩ : ByteArray)] from rfl) (Reps.one (show Kd.M Kd.string _ _ _ (⟨#[104]⟩ : ByteArray) [.string (⟨#[104]⟩ : ByteArray)] from rfl) (Reps.one (show Kd.M Kd.string _ _ _ (⟨#[105]⟩ : ByteArray) [.string (⟨#[105]⟩ : ByteArray)] from rfl) (Reps.none _ _)))))
      intro v137 w42 ho43 hb hg_ hnew_
      clear hg_ hnew_
      (first | rw [← Ny136.out] at ho43 | (simp only [Int.reduceToNat] at ho43; rw [← Ny136.out] at ho43))
      have _ := AM (Kd.Q_elder' (qX HO_107002.out) (Kd.R_base ho43) hb)
      have _ := AM (Kd.R_below (rX HO_107003.out) hb)
      have _ := AM (Kd.R_elder' (rX HO113.out) (Kd.R_base ho43) hb)
      have _ := AM (Kd.R_elder' (rX HO122.out) (Kd.R_base ho43) hb)
      have _ := AM (Kd.R_below (rX HO125.out) hb)
      have _ := AM (Kd.R_elder' (rX HO128.out) (Kd.R_base ho43) hb)
      have _ := AM (Kd.R_lower (Kd.R_new' (Kd.R_new' (Kd.R_new' (Kd.R_new' ho43 (Kd.Q_lt (qX HO_107002.out))) (Kd.R_lt (rX HO113.out))) (Kd.R_lt (rX HO122.out))) (Kd.R_lt (rX HO128.out))) (keep_size (w := w) (g := g) (row := none) (hX HK.out)))
      have _ := AM (nB BK101.out hb)
      have _ := AM (nB BK106.out hb)
      have _ := AM (IsS63.below (iX63_6_spec_l01Src_l07Topic HI0.out) hb)
      have _ := AM (nB BK131.out hb)
      have _ := AM (KeepBut.trans (hX HK.out) (KeepBut.of_below hb g none) (.inl rfl))
      have _ := AM (below_step (bI63_0_spec_l01Src_l07Topic HB.out) hb)
      clear HO_107002 HO_107003 HO113 HO122 HO125 HO128 BK101 BK106 HI0 BK131 HK HB
      rename_i HO_107002 HO_107003 HO113 HO122 HO125 HO128 HO138 BK101 BK106 HI0 BK131 HK HB
      clear hb ho43
      obtain ⟨Ao44, co44, eo44⟩ := Kd.R_slice HO138.out
      (first | subst eo44 | (injection eo44 with f1_ f2_ f3_; have f4_ := f1_.symm; have f5_ := f3_.symm; clear f1_ f2_ f3_; subst f4_; subst f5_))
      refine hK.out _ _ (q4 BK106.out) (fun hHeld => ?_)
      clear hK K
      refine norm_ (a' := ?_) ?_ ?_
      rotate_left
      ·
       show Act.put _ (some 26) _ = _
       simp only [Act.put, sA, sB, sC, i64_w, i32_w]
       rfl
      refine one_ (i := 3) (N := some 27) (upTo 7 11) rfl rfl (one_of HT_.out (by kernel_rfl)) (by decide) (fun K hK => ?_)
      refine goes_ Try.func39 (by kernel_rfl) rfl #[.pointer (some ⟨g, 0, none⟩), .slice Ao44 y136.length co44] (by rfl) rfl rfl (by (try simp only [mA, mB, mC]); first | done | rfl | (simp only [mD, mE]; rfl)) ?_
      with_reducible refine (spec_l01Src_pick.calls g s0_0 t133 t134 t135 _ _ y136 t139 t140 t141 t142 w0 _ ?side1 ?side2 ?side3 ?side4 ?side5 A38.out).mono ?_
      (case side1 => exact (iX63_6_spec_l01Src_l07Topic HI0.out))
      (case side2 => exact (bI63_0_spec_l01Src_l07Topic HB.out))
      (case side3 => repeat (first | exact (Kd.R_reads' HO138.out).2.2 | (with_reducible first | apply cA | apply cN | apply cD)))
      (case side4 => exact (Kd.R_reads' HO138.out).2.1)
      (case side5 => exact far_slice (IsS63.own_ne HI0.out HO138.out (by decide)))
      rintro e w45 ⟨rfl, hi, hb, hk⟩
      refine ⟨_, rfl, ?_⟩
      have _ := AM (Kd.Q_mono (Kd.Q_keep (IsS63.apartQ (show IsS63 w0 _ g s0_0 t133 t134 t135 from iX63_6_spec_l01Src_l07Topic HI0.out) (qX HO_107002.out) (by decide)) hk (fun _ h => h.2)) (fun _ h => h.1))
      have _ := AM (Kd.R_mono (Kd.R_keep (IsS63.apart (show IsS63 w0 _ g s0_0 t133 t134 t135 from iX63_6_spec_l01Src_l07Topic HI0.out) (rX HO_107003.out) (by decide)) hk (fun _ h => h.2)) (fun _ h => h.1))
      have _ := AM (kB hk BK101.out NB101_0.out (by simp))
      have _ := AM (kB hk BK106.out NB106_0.out (by simp))
      have _ := AM (Kd.R_mono (Kd.R_keep (IsS63.apart (show IsS63 w0 _ g s0_0 t133 t134 t135 from iX63_6_spec_l01Src_l07Topic HI0.out) (rX HO113.out) (by decide)) hk (fun _ h => h.2)) (fun _ h => h.1))
      have _ := AM (Kd.R_mono (Kd.R_keep (IsS63.apart (show IsS63 w0 _ g s0_0 t133 t134 t135 from iX63_6_spec_l01Src_l07Topic HI0.out) (rX HO122.out) (by decide)) hk (fun _ h => h.2)) (fun _ h => h.1))
      have _ := AM (Kd.R_mono (Kd.R_keep (IsS63.apart (show IsS63 w0 _ g s0_0 t133 t134 t135 from iX63_6_spec_l01Src_l07Topic HI0.out) (rX HO125.out) (by decide)) hk (fun _ h => h.2)) (fun _ h => h.1))
      have _ := AM (Kd.R_mono (Kd.R_keep (IsS63.apart (show IsS63 w0 _ g s0_0 t133 t134 t135 from iX63_6_spec_l01Src_l07Topic HI0.out) (rX HO128.out) (by decide)) hk (fun _ h => h.2)) (fun _ h => h.1))
      have _ := AM (kB hk BK131.out NB131_0.out (by simp))
      have _ := AM (Kd.R_mono (Kd.R_keep (IsS63.apart (show IsS63 w0 _ g s0_0 t133 t134 t135 from iX63_6_spec_l01Src_l07Topic HI0.out) (rX HO138.out) (by decide)) hk (fun _ h => h.2)) (fun _ h => h.1))
      have _ := AM (KeepBut.trans (hX HK.out) hk (.inl rfl))
      have _ := AM (hb)
      have _ := AM (hi)
      clear HO_107002 HO_107003 BK101 BK106 HO113 HO122 HO125 HO128 BK131 HO138 HK HB HI0
      rename_i HO_107002 HO_107003 BK101 BK106 HO113 HO122 HO125 HO128 BK131 HO138 HK HB HI0
      (try clear hb)
      (try clear hb2)
      (try clear hk)
      (try clear hi)
      refine hK.out _ _ (q4 BK106.out) (fun hHeld => ?_)
      clear hK K
      refine norm_ (a' := ?_) ?_ ?_
      rotate_left
      ·
       show Act.put _ (some 27) _ = _
       simp only [Act.put, sA, sB, sC, i64_w, i32_w]
       rfl
      refine one_ (i := 7) (N := some 31) (upTo 8 11) rfl rfl (one_of HT_.out (by kernel_rfl)) (by decide) (fun K hK => ?_)
      refine goes_ Try.func21 (by kernel_rfl) rfl #[.pointer (some ⟨g, 0, none⟩), .int .i64 4] (by rfl) rfl rfl (by (try simp only [mA, mB, mC]); first | done | rfl | (simp only [mD, mE]; rfl)) ?_
      with_reducible refine (spec_l01Src_n.calls g s0_0 t140 t141 t142 4 t143 t144 t145 t146 w0 _ ?side1 ?side2 A39.out).mono ?_
      (case side1 => exact (iX63_6_spec_l01Src_l07Topic HI0.out))
      (case side2 => exact (bI63_0_spec_l01Src_l07Topic HB.out))
      rintro e w46 ⟨rfl, hi, hb, hk⟩
      refine ⟨_, rfl, ?_⟩
      have _ := AM (Kd.Q_mono (Kd.Q_keep (IsS63.apartQ (show IsS63 w0 _ g s0_0 t140 t141 t142 from iX63_6_spec_l01Src_l07Topic HI0.out) (qX HO_107002.out) (by decide)) hk (fun _ h => h.2)) (fun _ h => h.1))
      have _ := AM (Kd.R_mono (Kd.R_keep (IsS63.apart (show IsS63 w0 _ g s0_0 t140 t141 t142 from iX63_6_spec_l01Src_l07Topic HI0.out) (rX HO_107003.out) (by decide)) hk (fun _ h => h.2)) (fun _ h => h.1))
      have _ := AM (kB hk BK101.out NB101_0.out (by simp))
      have _ := AM (kB hk BK106.out NB106_0.out (by simp))
      have _ := AM (Kd.R_mono (Kd.R_keep (IsS63.apart (show IsS63 w0 _ g s0_0 t140 t141 t142 from iX63_6_spec_l01Src_l07Topic HI0.out) (rX HO113.out) (by decide)) hk (fun _ h => h.2)) (fun _ h => h.1))
      have _ := AM (Kd.R_mono (Kd.R_keep (IsS63.apart (show IsS63 w0 _ g s0_0 t140 t141 t142 from iX63_6_spec_l01Src_l07Topic HI0.out) (rX HO122.out) (by decide)) hk (fun _ h => h.2)) (fun _ h => h.1))
      have _ := AM (Kd.R_mono (Kd.R_keep (IsS63.apart (show IsS63 w0 _ g s0_0 t140 t141 t142 from iX63_6_spec_l01Src_l07Topic HI0.out) (rX HO125.out) (by decide)) hk (fun _ h => h.2)) (fun _ h => h.1))
      have _ := AM (Kd.R_mono (Kd.R_keep (IsS63.apart (show IsS63 w0 _ g s0_0 t140 t141 t142 from iX63_6_spec_l01Src_l07Topic HI0.out) (rX HO128.out) (by decide)) hk (fun _ h => h.2)) (fun _ h => h.1))
      have _ := AM (kB hk BK131.out NB131_0.out (by simp))
      have _ := AM (Kd.R_mono (Kd.R_keep (IsS63.apart (show IsS63 w0 _ g s0_0 t140 t141 t142 from iX63_6_spec_l01Src_l07Topic HI0.out) (rX HO138.out) (by decide)) hk (fun _ h => h.2)) (fun _ h => h.1))
      have _ := AM (KeepBut.trans (hX HK.out) hk (.inl rfl))
      have _ := AM (hb)
      have _ := AM (hi)
      clear HO_107002 HO_107003 BK101 BK106 HO113 HO122 HO125 HO128 BK131 HO138 HK HB HI0
      rename_i HO_107002 HO_107003 BK101 BK106 HO113 HO122 HO125 HO128 BK131 HO138 HK HB HI0
      (try clear hb)
      (try clear hb2)
      (try clear hk)
      (try clear hi)
      refine hK.out _ _ (q4 BK106.out) (fun hHeld => ?_)
      clear hK K
      refine norm_ (a' := ?_) ?_ ?_
      rotate_left
      ·
       show Act.put _ (some 31) _ = _
       simp only [Act.put, sA, sB, sC, i64_w, i32_w]
       rfl
      refine pF 8 9 11 32 ?_
      refine one_ (i := 9) (N := some 33) (upTo 10 11) rfl rfl (one_of HT_.out (by kernel_rfl)) (by decide) (fun K hK => ?_)
      refine goes_ Try.func40 (by kernel_rfl) rfl #[.agg #[.string x107000_1, .int .i64 x107001_1, .slice Ao16 x107002_1.length co16, .slice Ao17 x107003_1.length co17], .string t139, .int .i64 (wrap64 (x107001_1 + t143))] (by rfl) rfl rfl (by (try simp only [mA, mB, mC]); first | done | rfl | (simp only [mD, mE]; rfl)) ?_
      with_reducible refine (spec_TopicAck.calls k1 x107000_1 x107001_1 _ _ x107002_1 _ _ x107003_1 t139 (wrap64 (x107001_1 + t143)) t147 t148 t149 t152 t155 t158 t159 _ ?side1 ?side2 ?side3 ?side4 A40.out).mono ?_
      (case side1 => repeat (first | exact (Kd.Q_reads' HO_107002.out).2.2 | (with_reducible first | apply cA | apply cN | apply cD)))
      (case side2 => exact (Kd.Q_reads' HO_107002.out).2.1)
      (case side3 => repeat (first | exact (Kd.R_reads' HO_107003.out).2.2 | (with_reducible first | apply cA | apply cN | apply cD)))
      (case side4 => exact (Kd.R_reads' HO_107003.out).2.1)
      rintro e w47 ⟨v150, v153, v156, rfl, ho0, ho1, ho2, hb⟩
      refine ⟨_, rfl, ?_⟩
      have _ := AM (Kd.Q_mono (Kd.Q_told (Kd.Q_told (Kd.Q_old (qX HO_107002.out) hb) (Kd.R_base ho0)) (Kd.R_base ho2)) (fun _ h_ => h_.1))
      have _ := AM (Kd.R_elder' (rX HO_107003.out) (Kd.R_base ho1) hb)
      have _ := AM (Kd.R_mono (Kd.R_told (Kd.R_told (Kd.R_old (rX HO113.out) hb) (Kd.R_base ho0)) (Kd.R_base ho2)) (fun _ h_ => h_.1))
      have _ := AM (Kd.R_mono (Kd.R_told (Kd.R_told (Kd.R_old (rX HO122.out) hb) (Kd.R_base ho0)) (Kd.R_base ho2)) (fun _ h_ => h_.1))
      have _ := AM (Kd.R_elder' (rX HO125.out) (Kd.R_base ho1) hb)
      have _ := AM (Kd.R_mono (Kd.R_told (Kd.R_told (Kd.R_old (rX HO128.out) hb) (Kd.R_base ho0)) (Kd.R_base ho2)) (fun _ h_ => h_.1))
      have _ := AM (Kd.R_mono (Kd.R_told (Kd.R_told (Kd.R_old (rX HO138.out) hb) (Kd.R_base ho0)) (Kd.R_base ho2)) (fun _ h_ => h_.1))
      have _ := AM (Kd.R_lower (Kd.R_new' (Kd.R_new' (Kd.R_new' (Kd.R_new' (Kd.R_new' ho0 (Kd.Q_lt (qX HO_107002.out))) (Kd.R_lt (rX HO113.out))) (Kd.R_lt (rX HO122.out))) (Kd.R_lt (rX HO128.out))) (Kd.R_lt (rX HO138.out))) (keep_size (w := w) (g := g) (row := none) (hX HK.out)))
      have _ := AM (Kd.R_lower (Kd.R_new' (Kd.R_new' ho1 (Kd.R_lt (rX HO_107003.out))) (Kd.R_lt (rX HO125.out))) (keep_size (w := w) (g := g) (row := none) (hX HK.out)))
      have _ := AM (Kd.R_lower (Kd.R_new' (Kd.R_new' (Kd.R_new' (Kd.R_new' (Kd.R_new' ho2 (Kd.Q_lt (qX HO_107002.out))) (Kd.R_lt (rX HO113.out))) (Kd.R_lt (rX HO122.out))) (Kd.R_lt (rX HO128.out))) (Kd.R_lt (rX HO138.out))) (keep_size (w := w) (g := g) (row := none) (hX HK.out)))
      have _ := AM (nB BK101.out hb)
      have _ := AM (nB BK106.out hb)
      have _ := AM (IsS63.below (iX63_6_spec_l01Src_l07Topic HI0.out) hb)
      have _ := AM (nB BK131.out hb)
      have _ := AM (KeepBut.trans (hX HK.out) (KeepBut.of_below hb g none) (.inl rfl))
      have _ := AM (below_step (bI63_0_spec_l01Src_l07Topic HB.out) hb)
      clear HO_107002 HO_107003 HO113 HO122 HO125 HO128 HO138 BK101 BK106 HI0 BK131 HK HB
      rename_i HO_107002 HO_107003 HO113 HO122 HO125 HO128 HO138 HO151 HO154 HO157 BK101 BK106 HI0 BK131 HK HB
      (try clear hb)
      (try clear hb2)
      (try clear hk)
      (try clear hi)
      (try clear ho0)
      (try clear ho1)
      (try clear ho2)
      obtain ⟨Ao50, co50, eo50⟩ := Kd.R_slice HO151.out
      (first | subst eo50 | (injection eo50 with f1_ f2_ f3_; have f4_ := f1_.symm; have f5_ := f3_.symm; clear f1_ f2_ f3_; subst f4_; subst f5_))
      obtain ⟨Ao52, co52, eo52⟩ := Kd.R_slice HO154.out
      (first | subst eo52 | (injection eo52 with f1_ f2_ f3_; have f4_ := f1_.symm; have f5_ := f3_.symm; clear f1_ f2_ f3_; subst f4_; subst f5_))
      obtain ⟨Ao54, co54, eo54⟩ := Kd.R_slice HO157.out
      (first | subst eo54 | (injection eo54 with f1_ f2_ f3_; have f4_ := f1_.symm; have f5_ := f3_.symm; clear f1_ f2_ f3_; subst f4_; subst f5_))
      refine hK.out _ _ (q4 BK106.out) (fun hHeld => ?_)
      clear hK K
      refine norm_ (a' := ?_) ?_ ?_
      rotate_left
      ·
       show Act.put _ (some 33) _ = _
       simp only [Act.put, sA, sB, sC, i64_w, i32_w]
       rfl
      refine one_ (i := 10) (N := none) (upTo 11 11) rfl rfl (one_of HT_.out (by kernel_rfl)) (by decide) (fun K hK => ?_)
      have hs48 : w47.cell? ⟨gb131, 0, none⟩ = some (.string t118) := (kC BK131.out 0).trans rfl
      have hfs48 := fZ BK131.out 0
      have hns48_0 := NB101_131.out
      have hns48_1 := NB106_131.out
      have hms48_0 := NB131_101.out
      have hms48_1 := NB131_106.out
      have hs49 : w47.cell? ⟨gb131, 1, none⟩ = some (.int .i64 t119) := (kC BK131.out 1).trans rfl
      have hfs49 := fZ BK131.out 1
      have hns49_0 := NB101_131.out
      have hns49_1 := NB106_131.out
      have hms49_0 := NB131_101.out
      have hms49_1 := NB131_106.out
      have hs51 : w47.cell? ⟨gb131, 2, none⟩ = some (.slice Ao28 t120.length co28) := (kC BK131.out 2).trans rfl
      have hfs51 := fZ BK131.out 2
      have hns51_0 := NB101_131.out
      have hns51_1 := NB106_131.out
      have hms51_0 := NB131_101.out
      have hms51_1 := NB131_106.out
      have hs53 : w47.cell? ⟨gb131, 3, none⟩ = some (.slice Ao30 t123.length co30) := (kC BK131.out 3).trans rfl
      have hfs53 := fZ BK131.out 3
      have hns53_0 := NB101_131.out
      have hns53_1 := NB106_131.out
      have hms53_0 := NB131_101.out
      have hms53_1 := NB131_106.out
      have hs55 : w47.cell? ⟨gb131, 4, none⟩ = some (.slice Ao32 t126.length co32) := (kC BK131.out 4).trans rfl
      have hfs55 := fZ BK131.out 4
      have hns55_0 := NB101_131.out
      have hns55_1 := NB106_131.out
      have hms55_0 := NB131_101.out
      have hms55_1 := NB131_106.out
      have hs56 : w47.cell? ⟨gb131, 5, none⟩ = some (.int .i64 t129) := (kC BK131.out 5).trans rfl
      have hfs56 := fZ BK131.out 5
      have hns56_0 := NB101_131.out
      have hns56_1 := NB106_131.out
      have hms56_0 := NB131_101.out
      have hms56_1 := NB131_106.out
      have hs57 : w47.cell? ⟨gb131, 6, none⟩ = some (.int .i64 t130) := (kC BK131.out 6).trans rfl
      have hfs57 := fZ BK131.out 6
      have hns57_0 := NB101_131.out
      have hns57_1 := NB106_131.out
      have hms57_0 := NB131_101.out
      have hms57_1 := NB131_106.out
      refine skip_ (w1 := ?_) (by rfl) rfl ?_ ?_
      rotate_left
      ·
       go_simp
       rfl
      refine hK.out _ _ ⟨(cT NB106_131.out ((cT NB106_131.out ((cT NB106_131.out ((cT NB106_131.out ((cT NB106_131.out ((cT NB106_131.out ((cT NB106_131.out (hHeld.1)))))))))))))), (cT NB106_131.out ((cT NB106_131.out ((cT NB106_131.out ((cT NB106_131.out ((cT NB106_131.out ((cT NB106_131.out ((cT NB106_131.out (hHeld.2.1)))))))))))))), (cT NB106_131.out ((cT NB106_131.out ((cT NB106_131.out ((cT NB106_131.out ((cT NB106_131.out ((cT NB106_131.out ((cT NB106_131.out (hHeld.2.2.1)))))))))))))), (cT NB106_131.out ((cT NB106_131.out ((cT NB106_131.out ((cT NB106_131.out ((cT NB106_131.out ((cT NB106_131.out ((cT NB106_131.out (hHeld.2.2.2))))))))))))))⟩ (fun hHeld => ?_)
      clear hK K
      refine done_ (done_of HT_.out (by kernel_rfl)) ?_
      try go_wp2
      go_meet
      case rel => exact ⟨_, (t144), (t145), (t146), (t147), (t148), (t149), (t152), (t155), (t158), (t159), (.slice Ao50 t149.length co50), (.slice Ao52 t152.length co52), (.slice Ao54 t155.length co54), H', ⟨by have := HK1.out; first | omega | exact Nat.le_refl _⟩, ⟨by (with_reducible repeat (first | apply Kd.Q_alloc | apply Kd.Q_drewN | apply Kd.Q_drew)); exact Qf7 HO_107002.out BK131.out (by decide) (fun _ hk => ⟨hk.1.1.2, hk.1.2⟩)⟩, ⟨by (with_reducible repeat (first | apply rA | apply rN | apply rD)); exact Rf7 HO_107003.out BK131.out (by decide) (fun _ hk => hk.1.2)⟩, ⟨Kd.Q_of_R (by (with_reducible repeat (first | apply rA | apply rN | apply rD)); exact Rf7 HO151.out BK131.out (by decide) (fun _ hk => ⟨hk.1.1.1.1.1.2, hk.1.1.1.1.1.1⟩))⟩, ⟨by (with_reducible repeat (first | apply rA | apply rN | apply rD)); exact Rf7 HO154.out BK131.out (by decide) (fun _ hk => hk.1.1.2)⟩, ⟨by (with_reducible repeat (first | apply rA | apply rN | apply rD)); exact Rf7 HO157.out BK131.out (by decide) (fun _ hk => ⟨hk.1.1.1.1.1.2, hk.1.1.1.1.1.1⟩)⟩, ⟨by (iterate 7 refine kF NB101_131.out ?_); (with_reducible repeat (first | apply kN | apply kD | apply kA)); exact BK101.out⟩, ⟨by (iterate 7 refine kF NB106_131.out ?_); (with_reducible repeat (first | apply kN | apply kD | apply kA)); exact BK106.out⟩, ⟨by refine kP (cs := #[.string t147, .int .i64 t148, .slice Ao50 t149.length co50, .slice Ao52 t152.length co52, .slice Ao54 t155.length co54, .int .i64 t158, .int .i64 t130]) 6 ?_; refine kP (cs := #[.string t147, .int .i64 t148, .slice Ao50 t149.length co50, .slice Ao52 t152.length co52, .slice Ao54 t155.length co54, .int .i64 t129, .int .i64 t130]) 5 ?_; refine kP (cs := #[.string t147, .int .i64 t148, .slice Ao50 t149.length co50, .slice Ao52 t152.length co52, .slice Ao32 t126.length co32, .int .i64 t129, .int .i64 t130]) 4 ?_; refine kP (cs := #[.string t147, .int .i64 t148, .slice Ao50 t149.length co50, .slice Ao30 t123.length co30, .slice Ao32 t126.length co32, .int .i64 t129, .int .i64 t130]) 3 ?_; refine kP (cs := #[.string t147, .int .i64 t148, .slice Ao28 t120.length co28, .slice Ao30 t123.length co30, .slice Ao32 t126.length co32, .int .i64 t129, .int .i64 t130]) 2 ?_; refine kP (cs := #[.string t147, .int .i64 t119, .slice Ao28 t120.length co28, .slice Ao30 t123.length co30, .slice Ao32 t126.length co32, .int .i64 t129, .int .i64 t130]) 1 ?_; refine kP (cs := #[.string t118, .int .i64 t119, .slice Ao28 t120.length co28, .slice Ao30 t123.length co30, .slice Ao32 t126.length co32, .int .i64 t129, .int .i64 t130]) 0 ?_; (with_reducible repeat (first | apply kN | apply kD | apply kA)); exact BK131.out⟩, ⟨iX63_6_spec_l01Src_l07Topic HI0.out⟩, ⟨hX HK.out⟩, ⟨bI63_0_spec_l01Src_l07Topic HB.out⟩⟩
     rw [if_neg c37] at H
     have c37b0 : (t132 == 0) = false := beq_eq_false_iff_ne.mpr c37
     have c37b1 : (t132 != 0) = true := bne_iff_ne.mpr c37
     (first | rw [c37b0] | (simp only [i64_w, i32_w]; rw [c37b0]) | skip)
     by_cases c58 : t132 = 1
     ·
      rw [if_pos c58] at H
      have c58b0 : (t132 == 1) = true := beq_iff_eq.mpr c58
      have c58b1 : (t132 != 1) = false := bne_eq_false_iff_eq.mpr c58
      clear c58
      obtain ⟨y160, hy160⟩ : ∃ y_ : List ByteArray, y_ = (([(⟨#[103]⟩ : ByteArray), (⟨#[104]⟩ : ByteArray)] : List ByteArray)) := ⟨_, rfl⟩
      replace H : ((spec_l01Src_pick.f s0_0 t133 t134 t135 y160).bind fun bt163 => ((spec_l01Src_n.f s0_0 bt163.2.1 bt163.2.2.1 bt163.2.2.2 4).bind fun bt167 => ((spec_TopicSeek.f k1 x107000_1 x107001_1 x107002_1 x107003_1 bt163.1 (wrap64 (x107001_1 + bt167.1))).bind fun bt171 => (spec_l01Src_l07Topic.j1 k1 x4_1 s0_0 bt167.2.1 bt167.2.2.1 bt167.2.2.2 x107000_1 x107001_1 x107002_1 x107003_1 bt171.1 bt171.2.1 bt171.2.2.1 bt171.2.2.2.1 bt171.2.2.2.2.1 bt171.2.2.2.2.2.1 bt171.2.2.2.2.2.2)))) = some (r1, r2, r3, r4, r5, r6, r7) := by first | (rw [hy160]; with_reducible exact H) | (have H2_ := (Option.bind_some _ _).symm.trans H; rw [hy160]; with_reducible exact H2_) | (have H2_ := (Option.bind_some _ _).symm.trans H; with_reducible exact H2_) | with_reducible exact H | (rw [hy160]; exact H) | exact H
      have Ny160 := AM hy160
      clear hy160
      replace H := Option.bind_eq_some_iff.mp H
      obtain ⟨⟨t163, t164, t165, t166⟩, A590, H⟩ := H
      try dsimp only at H
      have A59 := AM A590
      clear A590
      replace H := Option.bind_eq_some_iff.mp H
      obtain ⟨⟨t167, t168, t169, t170⟩, A600, H⟩ := H
      try dsimp only at H
      have A60 := AM A600
      clear A600
      replace H := Option.bind_eq_some_iff.mp H
      obtain ⟨⟨t171, t172, t173, t176, t179, t182, t183⟩, A610, H⟩ := H
      try dsimp only at H
      have A61 := AM A610
      clear A610
      have H' := AM H
      clear H
      try go_wp2
      have _ := AM (Kd.Q_drew HO_107002.out)
      have _ := AM (rD HO_107003.out)
      have _ := AM (rD HO113.out)
      have _ := AM (rD HO122.out)
      have _ := AM (rD HO125.out)
      have _ := AM (rD HO128.out)
      have _ := AM (kD BK101.out)
      have _ := AM (kD BK106.out)
      have _ := AM (kD BK131.out)
      have _ := AM (IsS63.drew HI0.out)
      have _ := AM (keep_drew HK.out)
      have _ := AM (bD HB.out)
      clear HO_107002 HO_107003 HO113 HO122 HO125 HO128 BK101 BK106 BK131 HI0 HK HB
      rename_i HO_107002 HO_107003 HO113 HO122 HO125 HO128 BK101 BK106 BK131 HI0 HK HB
      refine start_ (n := 11) (S := fun w' => w'.cell? ⟨gb106, 0, none⟩ = some (.string x107000_1) ∧ w'.cell? ⟨gb106, 1, none⟩ = some (.int .i64 x107001_1) ∧ w'.cell? ⟨gb106, 2, none⟩ = some (.slice Ao16 x107002_1.length co16) ∧ w'.cell? ⟨gb106, 3, none⟩ = some (.slice Ao17 x107003_1.length co17)) (ds := []) (upTo 0 11) (by kernel_rfl) rfl rfl (q4 BK106.out) (fun hHeld => ?_); refine with_tabW spec_l01Src_l07Topic.tab10 spec_l01Src_l07Topic.bits10 (fun HT_ HW_ => ?_)
      generalize w36.drew = w62 at HO_107002 HO_107003 HO113 HO122 HO125 HO128 BK101 BK106 BK131 HI0 HK HB hHeld ⊢
      refine pF2 1 37 spec_l01Src_l07Topic.b0 ?_
      refine pF2 4 40 spec_l01Src_l07Topic.b1 ?_
      refine pF2 6 42 spec_l01Src_l07Topic.b2 ?_
      refine pT2 0 36 spec_l01Src_l07Topic.b3 ?_ hHeld
      refine pT2 5 41 spec_l01Src_l07Topic.b4 ?_ hHeld
      refine one_ (i := 2) (N := some 38) spec_l01Src_l07Topic.b5 rfl rfl (one_of HT_.out (by kernel_rfl)) (by decide) (fun K hK => ?_)
      refine Kd.R_lit_step Kd.string _ 9 ?hg (N := 38) ?hd (xs := ([(⟨#[103]⟩ : ByteArray), (⟨#[104]⟩ : ByteArray)] : List ByteArray)) (inner := [.string (⟨#[103]⟩ : ByteArray), .string (⟨#[104]⟩ : ByteArray)]) (ok := fun _ => True) (okp := fun _ => True) ?hr ?hp (fun _ hk => hk) trivial (Below.refl _ _) (Nat.le_refl _) (by simp) ?_; (case hd => rfl); (case hg => rfl); (case hr => first | (go_simp; done) | (go_simp; rfl)); (case hp => exact (Reps.one (show Kd.M Kd.string _ _ _ (⟨#[103]⟩ : ByteArray) [.string (⟨#[103]⟩ : ByteArray)] from rfl) (Reps.one (show Kd.M Kd.string _ _ _ (⟨#[104]⟩ : ByteArray) [.string (⟨#[104]⟩ : ByteArray)] from rfl) (Reps.none _ _))))
      intro v161 w63 ho64 hb hg_ hnew_
      clear hg_ hnew_
      (first | rw [← Ny160.out] at ho64 | (simp only [Int.reduceToNat] at ho64; rw [← Ny160.out] at ho64))
      have _ := AM (Kd.Q_elder' (qX HO_107002.out) (Kd.R_base ho64) hb)
      have _ := AM (Kd.R_below (rX HO_107003.out) hb)
      have _ := AM (Kd.R_elder' (rX HO113.out) (Kd.R_base ho64) hb)
      have _ := AM (Kd.R_elder' (rX HO122.out) (Kd.R_base ho64) hb)
      have _ := AM (Kd.R_below (rX HO125.out) hb)
      have _ := AM (Kd.R_elder' (rX HO128.out) (Kd.R_base ho64) hb)
      have _ := AM (Kd.R_lower (Kd.R_new' (Kd.R_new' (Kd.R_new' (Kd.R_new' ho64 (Kd.Q_lt (qX HO_107002.out))) (Kd.R_lt (rX HO113.out))) (Kd.R_lt (rX HO122.out))) (Kd.R_lt (rX HO128.out))) (keep_size (w := w) (g := g) (row := none) (hX HK.out)))
      have _ := AM (nB BK101.out hb)
      have _ := AM (nB BK106.out hb)
      have _ := AM (IsS63.below (iX63_6_spec_l01Src_l07Topic HI0.out) hb)
      have _ := AM (nB BK131.out hb)
      have _ := AM (KeepBut.trans (hX HK.out) (KeepBut.of_below hb g none) (.inl rfl))
      have _ := AM (below_step (bI63_0_spec_l01Src_l07Topic HB.out) hb)
      clear HO_107002 HO_107003 HO113 HO122 HO125 HO128 BK101 BK106 HI0 BK131 HK HB
      rename_i HO_107002 HO_107003 HO113 HO122 HO125 HO128 HO162 BK101 BK106 HI0 BK131 HK HB
      clear hb ho64
      obtain ⟨Ao65, co65, eo65⟩ := Kd.R_slice HO162.out
      (first | subst eo65 | (injection eo65 with f1_ f2_ f3_; have f4_ := f1_.symm; have f5_ := f3_.symm; clear f1_ f2_ f3_; subst f4_; subst f5_))
      refine hK.out _ _ (q4 BK106.out) (fun hHeld => ?_)
      clear hK K
      refine norm_ (a' := ?_) ?_ ?_
      rotate_left
      ·
       show Act.put _ (some 38) _ = _
       simp only [Act.put, sA, sB, sC, i64_w, i32_w]
       rfl
      refine one_ (i := 3) (N := some 39) (upTo 7 11) rfl rfl (one_of HT_.out (by kernel_rfl)) (by decide) (fun K hK => ?_)
      refine goes_ Try.func39 (by kernel_rfl) rfl #[.pointer (some ⟨g, 0, none⟩), .slice Ao65 y160.length co65] (by rfl) rfl rfl (by (try simp only [mA, mB, mC]); first | done | rfl | (simp only [mD, mE]; rfl)) ?_
      with_reducible refine (spec_l01Src_pick.calls g s0_0 t133 t134 t135 _ _ y160 t163 t164 t165 t166 w0 _ ?side1 ?side2 ?side3 ?side4 ?side5 A59.out).mono ?_
      (case side1 => exact (iX63_6_spec_l01Src_l07Topic HI0.out))
      (case side2 => exact (bI63_0_spec_l01Src_l07Topic HB.out))
      (case side3 => repeat (first | exact (Kd.R_reads' HO162.out).2.2 | (with_reducible first | apply cA | apply cN | apply cD)))
      (case side4 => exact (Kd.R_reads' HO162.out).2.1)
      (case side5 => exact far_slice (IsS63.own_ne HI0.out HO162.out (by decide)))
      rintro e w66 ⟨rfl, hi, hb, hk⟩
      refine ⟨_, rfl, ?_⟩
      have _ := AM (Kd.Q_mono (Kd.Q_keep (IsS63.apartQ (show IsS63 w0 _ g s0_0 t133 t134 t135 from iX63_6_spec_l01Src_l07Topic HI0.out) (qX HO_107002.out) (by decide)) hk (fun _ h => h.2)) (fun _ h => h.1))
      have _ := AM (Kd.R_mono (Kd.R_keep (IsS63.apart (show IsS63 w0 _ g s0_0 t133 t134 t135 from iX63_6_spec_l01Src_l07Topic HI0.out) (rX HO_107003.out) (by decide)) hk (fun _ h => h.2)) (fun _ h => h.1))
      have _ := AM (kB hk BK101.out NB101_0.out (by simp))
      have _ := AM (kB hk BK106.out NB106_0.out (by simp))
      have _ := AM (Kd.R_mono (Kd.R_keep (IsS63.apart (show IsS63 w0 _ g s0_0 t133 t134 t135 from iX63_6_spec_l01Src_l07Topic HI0.out) (rX HO113.out) (by decide)) hk (fun _ h => h.2)) (fun _ h => h.1))
      have _ := AM (Kd.R_mono (Kd.R_keep (IsS63.apart (show IsS63 w0 _ g s0_0 t133 t134 t135 from iX63_6_spec_l01Src_l07Topic HI0.out) (rX HO122.out) (by decide)) hk (fun _ h => h.2)) (fun _ h => h.1))
      have _ := AM (Kd.R_mono (Kd.R_keep (IsS63.apart (show IsS63 w0 _ g s0_0 t133 t134 t135 from iX63_6_spec_l01Src_l07Topic HI0.out) (rX HO125.out) (by decide)) hk (fun _ h => h.2)) (fun _ h => h.1))
      have _ := AM (Kd.R_mono (Kd.R_keep (IsS63.apart (show IsS63 w0 _ g s0_0 t133 t134 t135 from iX63_6_spec_l01Src_l07Topic HI0.out) (rX HO128.out) (by decide)) hk (fun _ h => h.2)) (fun _ h => h.1))
      have _ := AM (kB hk BK131.out NB131_0.out (by simp))
      have _ := AM (Kd.R_mono (Kd.R_keep (IsS63.apart (show IsS63 w0 _ g s0_0 t133 t134 t135 from iX63_6_spec_l01Src_l07Topic HI0.out) (rX HO162.out) (by decide)) hk (fun _ h => h.2)) (fun _ h => h.1))
      have _ := AM (KeepBut.trans (hX HK.out) hk (.inl rfl))
      have _ := AM (hb)
      have _ := AM (hi)
      clear HO_107002 HO_107003 BK101 BK106 HO113 HO122 HO125 HO128 BK131 HO162 HK HB HI0
      rename_i HO_107002 HO_107003 BK101 BK106 HO113 HO122 HO125 HO128 BK131 HO162 HK HB HI0
      (try clear hb)
      (try clear hb2)
      (try clear hk)
      (try clear hi)
      refine hK.out _ _ (q4 BK106.out) (fun hHeld => ?_)
      clear hK K
      refine norm_ (a' := ?_) ?_ ?_
      rotate_left
      ·
       show Act.put _ (some 39) _ = _
       simp only [Act.put, sA, sB, sC, i64_w, i32_w]
       rfl
      refine one_ (i := 7) (N := some 43) (upTo 8 11) rfl rfl (one_of HT_.out (by kernel_rfl)) (by decide) (fun K hK => ?_)
      refine goes_ Try.func21 (by kernel_rfl) rfl #[.pointer (some ⟨g, 0, none⟩), .int .i64 4] (by rfl) rfl rfl (by (try simp only [mA, mB, mC]); first | done | rfl | (simp only [mD, mE]; rfl)) ?_
      with_reducible refine (spec_l01Src_n.calls g s0_0 t164 t165 t166 4 t167 t168 t169 t170 w0 _ ?side1 ?side2 A60.out).mono ?_
      (case side1 => exact (iX63_6_spec_l01Src_l07Topic HI0.out))
      (case side2 => exact (bI63_0_spec_l01Src_l07Topic HB.out))
      rintro e w67 ⟨rfl, hi, hb, hk⟩
      refine ⟨_, rfl, ?_⟩
      have _ := AM (Kd.Q_mono (Kd.Q_keep (IsS63.apartQ (show IsS63 w0 _ g s0_0 t164 t165 t166 from iX63_6_spec_l01Src_l07Topic HI0.out) (qX HO_107002.out) (by decide)) hk (fun _ h => h.2)) (fun _ h => h.1))
      have _ := AM (Kd.R_mono (Kd.R_keep (IsS63.apart (show IsS63 w0 _ g s0_0 t164 t165 t166 from iX63_6_spec_l01Src_l07Topic HI0.out) (rX HO_107003.out) (by decide)) hk (fun _ h => h.2)) (fun _ h => h.1))
      have _ := AM (kB hk BK101.out NB101_0.out (by simp))
      have _ := AM (kB hk BK106.out NB106_0.out (by simp))
      have _ := AM (Kd.R_mono (Kd.R_keep (IsS63.apart (show IsS63 w0 _ g s0_0 t164 t165 t166 from iX63_6_spec_l01Src_l07Topic HI0.out) (rX HO113.out) (by decide)) hk (fun _ h => h.2)) (fun _ h => h.1))
      have _ := AM (Kd.R_mono (Kd.R_keep (IsS63.apart (show IsS63 w0 _ g s0_0 t164 t165 t166 from iX63_6_spec_l01Src_l07Topic HI0.out) (rX HO122.out) (by decide)) hk (fun _ h => h.2)) (fun _ h => h.1))
      have _ := AM (Kd.R_mono (Kd.R_keep (IsS63.apart (show IsS63 w0 _ g s0_0 t164 t165 t166 from iX63_6_spec_l01Src_l07Topic HI0.out) (rX HO125.out) (by decide)) hk (fun _ h => h.2)) (fun _ h => h.1))
      have _ := AM (Kd.R_mono (Kd.R_keep (IsS63.apart (show IsS63 w0 _ g s0_0 t164 t165 t166 from iX63_6_spec_l01Src_l07Topic HI0.out) (rX HO128.out) (by decide)) hk (fun _ h => h.2)) (fun _ h => h.1))
      have _ := AM (kB hk BK131.out NB131_0.out (by simp))
      have _ := AM (Kd.R_mono (Kd.R_keep (IsS63.apart (show IsS63 w0 _ g s0_0 t164 t165 t166 from iX63_6_spec_l01Src_l07Topic HI0.out) (rX HO162.out) (by decide)) hk (fun _ h => h.2)) (fun _ h => h.1))
      have _ := AM (KeepBut.trans (hX HK.out) hk (.inl rfl))
      have _ := AM (hb)
      have _ := AM (hi)
      clear HO_107002 HO_107003 BK101 BK106 HO113 HO122 HO125 HO128 BK131 HO162 HK HB HI0
      rename_i HO_107002 HO_107003 BK101 BK106 HO113 HO122 HO125 HO128 BK131 HO162 HK HB HI0
      (try clear hb)
      (try clear hb2)
      (try clear hk)
      (try clear hi)
      refine hK.out _ _ (q4 BK106.out) (fun hHeld => ?_)
      clear hK K
      refine norm_ (a' := ?_) ?_ ?_
      rotate_left
      ·
       show Act.put _ (some 43) _ = _
       simp only [Act.put, sA, sB, sC, i64_w, i32_w]
       rfl
      refine pF 8 9 11 44 ?_
      refine one_ (i := 9) (N := some 45) (upTo 10 11) rfl rfl (one_of HT_.out (by kernel_rfl)) (by decide) (fun K hK => ?_)
      refine goes_ Try.func41 (by kernel_rfl) rfl #[.agg #[.string x107000_1, .int .i64 x107001_1, .slice Ao16 x107002_1.length co16, .slice Ao17 x107003_1.length co17], .string t163, .int .i64 (wrap64 (x107001_1 + t167))] (by rfl) rfl rfl (by (try simp only [mA, mB, mC]); first | done | rfl | (simp only [mD, mE]; rfl)) ?_
      with_reducible refine (spec_TopicSeek.calls k1 x107000_1 x107001_1 _ _ x107002_1 _ _ x107003_1 t163 (wrap64 (x107001_1 + t167)) t171 t172 t173 t176 t179 t182 t183 _ ?side1 ?side2 ?side3 ?side4 A61.out).mono ?_
      (case side1 => repeat (first | exact (Kd.Q_reads' HO_107002.out).2.2 | (with_reducible first | apply cA | apply cN | apply cD)))
      (case side2 => exact (Kd.Q_reads' HO_107002.out).2.1)
      (case side3 => repeat (first | exact (Kd.R_reads' HO_107003.out).2.2 | (with_reducible first | apply cA | apply cN | apply cD)))
      (case side4 => exact (Kd.R_reads' HO_107003.out).2.1)
      rintro e w68 ⟨v174, v177, v180, rfl, ho0, ho1, ho2, hb⟩
      refine ⟨_, rfl, ?_⟩
      have _ := AM (Kd.Q_mono (Kd.Q_told (Kd.Q_told (Kd.Q_old (qX HO_107002.out) hb) (Kd.R_base ho0)) (Kd.R_base ho2)) (fun _ h_ => h_.1))
      have _ := AM (Kd.R_elder' (rX HO_107003.out) (Kd.R_base ho1) hb)
      have _ := AM (Kd.R_mono (Kd.R_told (Kd.R_told (Kd.R_old (rX HO113.out) hb) (Kd.R_base ho0)) (Kd.R_base ho2)) (fun _ h_ => h_.1))
      have _ := AM (Kd.R_mono (Kd.R_told (Kd.R_told (Kd.R_old (rX HO122.out) hb) (Kd.R_base ho0)) (Kd.R_base ho2)) (fun _ h_ => h_.1))
      have _ := AM (Kd.R_elder' (rX HO125.out) (Kd.R_base ho1) hb)
      have _ := AM (Kd.R_mono (Kd.R_told (Kd.R_told (Kd.R_old (rX HO128.out) hb) (Kd.R_base ho0)) (Kd.R_base ho2)) (fun _ h_ => h_.1))
      have _ := AM (Kd.R_mono (Kd.R_told (Kd.R_told (Kd.R_old (rX HO162.out) hb) (Kd.R_base ho0)) (Kd.R_base ho2)) (fun _ h_ => h_.1))
      have _ := AM (Kd.R_lower (Kd.R_new' (Kd.R_new' (Kd.R_new' (Kd.R_new' (Kd.R_new' ho0 (Kd.Q_lt (qX HO_107002.out))) (Kd.R_lt (rX HO113.out))) (Kd.R_lt (rX HO122.out))) (Kd.R_lt (rX HO128.out))) (Kd.R_lt (rX HO162.out))) (keep_size (w := w) (g := g) (row := none) (hX HK.out)))
      have _ := AM (Kd.R_lower (Kd.R_new' (Kd.R_new' ho1 (Kd.R_lt (rX HO_107003.out))) (Kd.R_lt (rX HO125.out))) (keep_size (w := w) (g := g) (row := none) (hX HK.out)))
      have _ := AM (Kd.R_lower (Kd.R_new' (Kd.R_new' (Kd.R_new' (Kd.R_new' (Kd.R_new' ho2 (Kd.Q_lt (qX HO_107002.out))) (Kd.R_lt (rX HO113.out))) (Kd.R_lt (rX HO122.out))) (Kd.R_lt (rX HO128.out))) (Kd.R_lt (rX HO162.out))) (keep_size (w := w) (g := g) (row := none) (hX HK.out)))
      have _ := AM (nB BK101.out hb)
      have _ := AM (nB BK106.out hb)
      have _ := AM (IsS63.below (iX63_6_spec_l01Src_l07Topic HI0.out) hb)
      have _ := AM (nB BK131.out hb)
      have _ := AM (KeepBut.trans (hX HK.out) (KeepBut.of_below hb g none) (.inl rfl))
      have _ := AM (below_step (bI63_0_spec_l01Src_l07Topic HB.out) hb)
      clear HO_107002 HO_107003 HO113 HO122 HO125 HO128 HO162 BK101 BK106 HI0 BK131 HK HB
      rename_i HO_107002 HO_107003 HO113 HO122 HO125 HO128 HO162 HO175 HO178 HO181 BK101 BK106 HI0 BK131 HK HB
      (try clear hb)
      (try clear hb2)
      (try clear hk)
      (try clear hi)
      (try clear ho0)
      (try clear ho1)
      (try clear ho2)
      obtain ⟨Ao71, co71, eo71⟩ := Kd.R_slice HO175.out
      (first | subst eo71 | (injection eo71 with f1_ f2_ f3_; have f4_ := f1_.symm; have f5_ := f3_.symm; clear f1_ f2_ f3_; subst f4_; subst f5_))
      obtain ⟨Ao73, co73, eo73⟩ := Kd.R_slice HO178.out
      (first | subst eo73 | (injection eo73 with f1_ f2_ f3_; have f4_ := f1_.symm; have f5_ := f3_.symm; clear f1_ f2_ f3_; subst f4_; subst f5_))
      obtain ⟨Ao75, co75, eo75⟩ := Kd.R_slice HO181.out
      (first | subst eo75 | (injection eo75 with f1_ f2_ f3_; have f4_ := f1_.symm; have f5_ := f3_.symm; clear f1_ f2_ f3_; subst f4_; subst f5_))
      refine hK.out _ _ (q4 BK106.out) (fun hHeld => ?_)
      clear hK K
      refine norm_ (a' := ?_) ?_ ?_
      rotate_left
      ·
       show Act.put _ (some 45) _ = _
       simp only [Act.put, sA, sB, sC, i64_w, i32_w]
       rfl
      refine one_ (i := 10) (N := none) (upTo 11 11) rfl rfl (one_of HT_.out (by kernel_rfl)) (by decide) (fun K hK => ?_)
      have hs69 : w68.cell? ⟨gb131, 0, none⟩ = some (.string t118) := (kC BK131.out 0).trans rfl
      have hfs69 := fZ BK131.out 0
      have hns69_0 := NB101_131.out
      have hns69_1 := NB106_131.out
      have hms69_0 := NB131_101.out
      have hms69_1 := NB131_106.out
      have hs70 : w68.cell? ⟨gb131, 1, none⟩ = some (.int .i64 t119) := (kC BK131.out 1).trans rfl
      have hfs70 := fZ BK131.out 1
      have hns70_0 := NB101_131.out
      have hns70_1 := NB106_131.out
      have hms70_0 := NB131_101.out
      have hms70_1 := NB131_106.out
      have hs72 : w68.cell? ⟨gb131, 2, none⟩ = some (.slice Ao28 t120.length co28) := (kC BK131.out 2).trans rfl
      have hfs72 := fZ BK131.out 2
      have hns72_0 := NB101_131.out
      have hns72_1 := NB106_131.out
      have hms72_0 := NB131_101.out
      have hms72_1 := NB131_106.out
      have hs74 : w68.cell? ⟨gb131, 3, none⟩ = some (.slice Ao30 t123.length co30) := (kC BK131.out 3).trans rfl
      have hfs74 := fZ BK131.out 3
      have hns74_0 := NB101_131.out
      have hns74_1 := NB106_131.out
      have hms74_0 := NB131_101.out
      have hms74_1 := NB131_106.out
      have hs76 : w68.cell? ⟨gb131, 4, none⟩ = some (.slice Ao32 t126.length co32) := (kC BK131.out 4).trans rfl
      have hfs76 := fZ BK131.out 4
      have hns76_0 := NB101_131.out
      have hns76_1 := NB106_131.out
      have hms76_0 := NB131_101.out
      have hms76_1 := NB131_106.out
      have hs77 : w68.cell? ⟨gb131, 5, none⟩ = some (.int .i64 t129) := (kC BK131.out 5).trans rfl
      have hfs77 := fZ BK131.out 5
      have hns77_0 := NB101_131.out
      have hns77_1 := NB106_131.out
      have hms77_0 := NB131_101.out
      have hms77_1 := NB131_106.out
      have hs78 : w68.cell? ⟨gb131, 6, none⟩ = some (.int .i64 t130) := (kC BK131.out 6).trans rfl
      have hfs78 := fZ BK131.out 6
      have hns78_0 := NB101_131.out
      have hns78_1 := NB106_131.out
      have hms78_0 := NB131_101.out
      have hms78_1 := NB131_106.out
      refine skip_ (w1 := ?_) (by rfl) rfl ?_ ?_
      rotate_left
      ·
       go_simp
       rfl
      refine hK.out _ _ ⟨(cT NB106_131.out ((cT NB106_131.out ((cT NB106_131.out ((cT NB106_131.out ((cT NB106_131.out ((cT NB106_131.out ((cT NB106_131.out (hHeld.1)))))))))))))), (cT NB106_131.out ((cT NB106_131.out ((cT NB106_131.out ((cT NB106_131.out ((cT NB106_131.out ((cT NB106_131.out ((cT NB106_131.out (hHeld.2.1)))))))))))))), (cT NB106_131.out ((cT NB106_131.out ((cT NB106_131.out ((cT NB106_131.out ((cT NB106_131.out ((cT NB106_131.out ((cT NB106_131.out (hHeld.2.2.1)))))))))))))), (cT NB106_131.out ((cT NB106_131.out ((cT NB106_131.out ((cT NB106_131.out ((cT NB106_131.out ((cT NB106_131.out ((cT NB106_131.out (hHeld.2.2.2))))))))))))))⟩ (fun hHeld => ?_)
      clear hK K
      refine done_ (done_of HT_.out (by kernel_rfl)) ?_
      try go_wp2
      go_meet
      case rel => exact ⟨_, (t168), (t169), (t170), (t171), (t172), (t173), (t176), (t179), (t182), (t183), (.slice Ao71 t173.length co71), (.slice Ao73 t176.length co73), (.slice Ao75 t179.length co75), H', ⟨by have := HK1.out; first | omega | exact Nat.le_refl _⟩, ⟨by (with_reducible repeat (first | apply Kd.Q_alloc | apply Kd.Q_drewN | apply Kd.Q_drew)); exact Qf7 HO_107002.out BK131.out (by decide) (fun _ hk => ⟨hk.1.1.2, hk.1.2⟩)⟩, ⟨by (with_reducible repeat (first | apply rA | apply rN | apply rD)); exact Rf7 HO_107003.out BK131.out (by decide) (fun _ hk => hk.1.2)⟩, ⟨Kd.Q_of_R (by (with_reducible repeat (first | apply rA | apply rN | apply rD)); exact Rf7 HO175.out BK131.out (by decide) (fun _ hk => ⟨hk.1.1.1.1.1.2, hk.1.1.1.1.1.1⟩))⟩, ⟨by (with_reducible repeat (first | apply rA | apply rN | apply rD)); exact Rf7 HO178.out BK131.out (by decide) (fun _ hk => hk.1.1.2)⟩, ⟨by (with_reducible repeat (first | apply rA | apply rN | apply rD)); exact Rf7 HO181.out BK131.out (by decide) (fun _ hk => ⟨hk.1.1.1.1.1.2, hk.1.1.1.1.1.1⟩)⟩, ⟨by (iterate 7 refine kF NB101_131.out ?_); (with_reducible repeat (first | apply kN | apply kD | apply kA)); exact BK101.out⟩, ⟨by (iterate 7 refine kF NB106_131.out ?_); (with_reducible repeat (first | apply kN | apply kD | apply kA)); exact BK106.out⟩, ⟨by refine kP (cs := #[.string t171, .int .i64 t172, .slice Ao71 t173.length co71, .slice Ao73 t176.length co73, .slice Ao75 t179.length co75, .int .i64 t182, .int .i64 t130]) 6 ?_; refine kP (cs := #[.string t171, .int .i64 t172, .slice Ao71 t173.length co71, .slice Ao73 t176.length co73, .slice Ao75 t179.length co75, .int .i64 t129, .int .i64 t130]) 5 ?_; refine kP (cs := #[.string t171, .int .i64 t172, .slice Ao71 t173.length co71, .slice Ao73 t176.length co73, .slice Ao32 t126.length co32, .int .i64 t129, .int .i64 t130]) 4 ?_; refine kP (cs := #[.string t171, .int .i64 t172, .slice Ao71 t173.length co71, .slice Ao30 t123.length co30, .slice Ao32 t126.length co32, .int .i64 t129, .int .i64 t130]) 3 ?_; refine kP (cs := #[.string t171, .int .i64 t172, .slice Ao28 t120.length co28, .slice Ao30 t123.length co30, .slice Ao32 t126.length co32, .int .i64 t129, .int .i64 t130]) 2 ?_; refine kP (cs := #[.string t171, .int .i64 t119, .slice Ao28 t120.length co28, .slice Ao30 t123.length co30, .slice Ao32 t126.length co32, .int .i64 t129, .int .i64 t130]) 1 ?_; refine kP (cs := #[.string t118, .int .i64 t119, .slice Ao28 t120.length co28, .slice Ao30 t123.length co30, .slice Ao32 t126.length co32, .int .i64 t129, .int .i64 t130]) 0 ?_; (with_reducible repeat (first | apply kN | apply kD | apply kA)); exact BK131.out⟩, ⟨iX63_6_spec_l01Src_l07Topic HI0.out⟩, ⟨hX HK.out⟩, ⟨bI63_0_spec_l01Src_l07Topic HB.out⟩⟩
     rw [if_neg c58] at H
     have c58b0 : (t132 == 1) = false := beq_eq_false_iff_ne.mpr c58
     have c58b1 : (t132 != 1) = true := bne_iff_ne.mpr c58
     by_cases c79 : t132 = 2
     ·
      rw [if_pos c79] at H
      have c79b0 : (t132 == 2) = true := beq_iff_eq.mpr c79
      have c79b1 : (t132 != 2) = false := bne_eq_false_iff_eq.mpr c79
      clear c79
      replace H := Option.bind_eq_some_iff.mp H
      obtain ⟨⟨t184, t185, t186, t187⟩, A800, H⟩ := H
      try dsimp only at H
      have A80 := AM A800
      clear A800
      replace H := Option.bind_eq_some_iff.mp H
      obtain ⟨⟨t188, t189, t190, t193, t196, t199, t200⟩, A810, H⟩ := H
      try dsimp only at H
      have A81 := AM A810
      clear A810
      have H' := AM H
      clear H
      try go_wp2
      have _ := AM (Kd.Q_drew HO_107002.out)
      have _ := AM (rD HO_107003.out)
      have _ := AM (rD HO113.out)
      have _ := AM (rD HO122.out)
      have _ := AM (rD HO125.out)
      have _ := AM (rD HO128.out)
      have _ := AM (kD BK101.out)
      have _ := AM (kD BK106.out)
      have _ := AM (kD BK131.out)
      have _ := AM (IsS63.drew HI0.out)
      have _ := AM (keep_drew HK.out)
      have _ := AM (bD HB.out)
      clear HO_107002 HO_107003 HO113 HO122 HO125 HO128 BK101 BK106 BK131 HI0 HK HB
      rename_i HO_107002 HO_107003 HO113 HO122 HO125 HO128 BK101 BK106 BK131 HI0 HK HB
      refine start_ (n := 5) (S := fun w' => w'.cell? ⟨gb106, 0, none⟩ = some (.string x107000_1) ∧ w'.cell? ⟨gb106, 1, none⟩ = some (.int .i64 x107001_1) ∧ w'.cell? ⟨gb106, 2, none⟩ = some (.slice Ao16 x107002_1.length co16) ∧ w'.cell? ⟨gb106, 3, none⟩ = some (.slice Ao17 x107003_1.length co17)) (ds := []) #[false, false, false, false, false] (by kernel_rfl) rfl rfl (q4 BK106.out) (fun hHeld => ?_)
      generalize w36.drew = w82 at HO_107002 HO_107003 HO113 HO122 HO125 HO128 BK101 BK106 BK131 HI0 HK HB hHeld ⊢
      refine pure_ (i := 1) (N := some 49) (v := ?_) (a' := ?_) #[false, true, false, false, false] rfl rfl (by kernel_rfl) (fun _ _ _ h => h) (Or.inl ⟨by rfl, ?_⟩) ?_ ?_
      rotate_left
      ·
       intro w'
       go_simp
       with_reducible rfl
      rotate_left
      ·
       simp only [Act.put, sA, sB, sC, i64_w, i32_w]
       rfl
      refine take_ (i := 0) (N := some 48) (v := ?_) (a' := ?_) #[true, true, false, false, false] rfl rfl (by kernel_rfl) (fun _ _ _ h => h) (Or.inl ⟨by rfl, ?_⟩) hHeld ?_ ?_
      rotate_left; (focus (rintro w' ⟨s0, s1, s2, s3⟩; go_simp; with_reducible rfl))
      rotate_left; (focus (simp only [Act.put, sA, sB, sC, i64_w, i32_w]; rfl))
      refine one_ (i := 2) (N := some 50) #[true, true, true, false, false] rfl rfl (by kernel_rfl) (by decide) (fun K hK => ?_)
      refine goes_ Try.func21 (by kernel_rfl) rfl #[.pointer (some ⟨g, 0, none⟩), .int .i64 6] (by rfl) rfl rfl (by (try simp only [mA, mB, mC]); first | done | rfl | (simp only [mD, mE]; rfl)) ?_
      with_reducible refine (spec_l01Src_n.calls g s0_0 t133 t134 t135 6 t184 t185 t186 t187 w0 _ ?side1 ?side2 A80.out).mono ?_
      (case side1 => exact (iX63_6_spec_l01Src_l07Topic HI0.out))
      (case side2 => exact (bI63_0_spec_l01Src_l07Topic HB.out))
      rintro e w83 ⟨rfl, hi, hb, hk⟩
      refine ⟨_, rfl, ?_⟩
      have _ := AM (Kd.Q_mono (Kd.Q_keep (IsS63.apartQ (show IsS63 w0 _ g s0_0 t133 t134 t135 from iX63_6_spec_l01Src_l07Topic HI0.out) (qX HO_107002.out) (by decide)) hk (fun _ h => h.2)) (fun _ h => h.1))
      have _ := AM (Kd.R_mono (Kd.R_keep (IsS63.apart (show IsS63 w0 _ g s0_0 t133 t134 t135 from iX63_6_spec_l01Src_l07Topic HI0.out) (rX HO_107003.out) (by decide)) hk (fun _ h => h.2)) (fun _ h => h.1))
      have _ := AM (kB hk BK101.out NB101_0.out (by simp))
      have _ := AM (kB hk BK106.out NB106_0.out (by simp))
      have _ := AM (Kd.R_mono (Kd.R_keep (IsS63.apart (show IsS63 w0 _ g s0_0 t133 t134 t135 from iX63_6_spec_l01Src_l07Topic HI0.out) (rX HO113.out) (by decide)) hk (fun _ h => h.2)) (fun _ h => h.1))
      have _ := AM (Kd.R_mono (Kd.R_keep (IsS63.apart (show IsS63 w0 _ g s0_0 t133 t134 t135 from iX63_6_spec_l01Src_l07Topic HI0.out) (rX HO122.out) (by decide)) hk (fun _ h => h.2)) (fun _ h => h.1))
      have _ := AM (Kd.R_mono (Kd.R_keep (IsS63.apart (show IsS63 w0 _ g s0_0 t133 t134 t135 from iX63_6_spec_l01Src_l07Topic HI0.out) (rX HO125.out) (by decide)) hk (fun _ h => h.2)) (fun _ h => h.1))
      have _ := AM (Kd.R_mono (Kd.R_keep (IsS63.apart (show IsS63 w0 _ g s0_0 t133 t134 t135 from iX63_6_spec_l01Src_l07Topic HI0.out) (rX HO128.out) (by decide)) hk (fun _ h => h.2)) (fun _ h => h.1))
      have _ := AM (kB hk BK131.out NB131_0.out (by simp))
      have _ := AM (KeepBut.trans (hX HK.out) hk (.inl rfl))
      have _ := AM (hb)
      have _ := AM (hi)
      clear HO_107002 HO_107003 BK101 BK106 HO113 HO122 HO125 HO128 BK131 HK HB HI0
      rename_i HO_107002 HO_107003 BK101 BK106 HO113 HO122 HO125 HO128 BK131 HK HB HI0
      (try clear hb)
      (try clear hb2)
      (try clear hk)
      (try clear hi)
      refine hK.out _ _ (q4 BK106.out) (fun hHeld => ?_)
      clear hK K
      refine norm_ (a' := ?_) ?_ ?_
      rotate_left
      ·
       show Act.put _ (some 50) _ = _
       simp only [Act.put, sA, sB, sC, i64_w, i32_w]
       rfl
      refine one_ (i := 3) (N := some 51) #[true, true, true, true, false] rfl rfl (by kernel_rfl) (by decide) (fun K hK => ?_)
      refine goes_ Try.func8 (by kernel_rfl) rfl #[.agg #[.string x107000_1, .int .i64 x107001_1, .slice Ao16 x107002_1.length co16, .slice Ao17 x107003_1.length co17], .int .i64 t184] (by rfl) rfl rfl (by (try simp only [mA, mB, mC]); first | done | rfl | (simp only [mD, mE]; rfl)) ?_
      with_reducible refine (spec_TopicRetain.calls k1 x107000_1 x107001_1 _ _ x107002_1 _ _ x107003_1 t184 t188 t189 t190 t193 t196 t199 t200 _ ?side1 ?side2 ?side3 ?side4 A81.out).mono ?_
      (case side1 => repeat (first | exact (Kd.Q_reads' HO_107002.out).2.2 | (with_reducible first | apply cA | apply cN | apply cD)))
      (case side2 => exact (Kd.Q_reads' HO_107002.out).2.1)
      (case side3 => repeat (first | exact (Kd.R_reads' HO_107003.out).2.2 | (with_reducible first | apply cA | apply cN | apply cD)))
      (case side4 => exact (Kd.R_reads' HO_107003.out).2.1)
      rintro e w84 ⟨v191, v194, v197, rfl, ho0, ho1, ho2, hb⟩
      refine ⟨_, rfl, ?_⟩
      have _ := AM (Kd.Q_mono (Kd.Q_told (Kd.Q_told (Kd.Q_old (qX HO_107002.out) hb) (Kd.Q_base ho0)) (Kd.R_base ho2)) (fun _ h_ => h_.1))
      have _ := AM (Kd.R_elder' (rX HO_107003.out) (Kd.R_base ho1) hb)
      have _ := AM (Kd.R_mono (Kd.R_told (Kd.R_told (Kd.R_old (rX HO113.out) hb) (Kd.Q_base ho0)) (Kd.R_base ho2)) (fun _ h_ => h_.1))
      have _ := AM (Kd.R_mono (Kd.R_told (Kd.R_told (Kd.R_old (rX HO122.out) hb) (Kd.Q_base ho0)) (Kd.R_base ho2)) (fun _ h_ => h_.1))
      have _ := AM (Kd.R_elder' (rX HO125.out) (Kd.R_base ho1) hb)
      have _ := AM (Kd.R_mono (Kd.R_told (Kd.R_told (Kd.R_old (rX HO128.out) hb) (Kd.Q_base ho0)) (Kd.R_base ho2)) (fun _ h_ => h_.1))
      have _ := AM (Kd.Q_lower (Kd.Q_new' (Kd.Q_new' (Kd.Q_new' (Kd.Q_new' ho0 (Kd.Q_lt (qX HO_107002.out))) (Kd.R_lt (rX HO113.out))) (Kd.R_lt (rX HO122.out))) (Kd.R_lt (rX HO128.out))) (keep_size (w := w) (g := g) (row := none) (hX HK.out)))
      have _ := AM (Kd.R_lower (Kd.R_new' (Kd.R_new' ho1 (Kd.R_lt (rX HO_107003.out))) (Kd.R_lt (rX HO125.out))) (keep_size (w := w) (g := g) (row := none) (hX HK.out)))
      have _ := AM (Kd.R_lower (Kd.R_new' (Kd.R_new' (Kd.R_new' (Kd.R_new' ho2 (Kd.Q_lt (qX HO_107002.out))) (Kd.R_lt (rX HO113.out))) (Kd.R_lt (rX HO122.out))) (Kd.R_lt (rX HO128.out))) (keep_size (w := w) (g := g) (row := none) (hX HK.out)))
      have _ := AM (nB BK101.out hb)
      have _ := AM (nB BK106.out hb)
      have _ := AM (IsS63.below (iX63_6_spec_l01Src_l07Topic HI0.out) hb)
      have _ := AM (nB BK131.out hb)
      have _ := AM (KeepBut.trans (hX HK.out) (KeepBut.of_below hb g none) (.inl rfl))
      have _ := AM (below_step (bI63_0_spec_l01Src_l07Topic HB.out) hb)
      clear HO_107002 HO_107003 HO113 HO122 HO125 HO128 BK101 BK106 HI0 BK131 HK HB
      rename_i HO_107002 HO_107003 HO113 HO122 HO125 HO128 HO192 HO195 HO198 BK101 BK106 HI0 BK131 HK HB
      (try clear hb)
      (try clear hb2)
      (try clear hk)
      (try clear hi)
      (try clear ho0)
      (try clear ho1)
      (try clear ho2)
      obtain ⟨Ao87, co87, eo87, _⟩ := Kd.Q_slice HO192.out
      (first | subst eo87 | (injection eo87 with f1_ f2_ f3_; have f4_ := f1_.symm; have f5_ := f3_.symm; clear f1_ f2_ f3_; subst f4_; subst f5_))
      obtain ⟨Ao89, co89, eo89⟩ := Kd.R_slice HO195.out
      (first | subst eo89 | (injection eo89 with f1_ f2_ f3_; have f4_ := f1_.symm; have f5_ := f3_.symm; clear f1_ f2_ f3_; subst f4_; subst f5_))
      obtain ⟨Ao91, co91, eo91⟩ := Kd.R_slice HO198.out
      (first | subst eo91 | (injection eo91 with f1_ f2_ f3_; have f4_ := f1_.symm; have f5_ := f3_.symm; clear f1_ f2_ f3_; subst f4_; subst f5_))
      refine hK.out _ _ (q4 BK106.out) (fun hHeld => ?_)
      clear hK K
      refine norm_ (a' := ?_) ?_ ?_
      rotate_left
      ·
       show Act.put _ (some 51) _ = _
       simp only [Act.put, sA, sB, sC, i64_w, i32_w]
       rfl
      refine one_ (i := 4) (N := none) #[true, true, true, true, true] rfl rfl (by kernel_rfl) (by decide) (fun K hK => ?_)
      have hs85 : w84.cell? ⟨gb131, 0, none⟩ = some (.string t118) := (kC BK131.out 0).trans rfl
      have hfs85 := fZ BK131.out 0
      have hns85_0 := NB101_131.out
      have hns85_1 := NB106_131.out
      have hms85_0 := NB131_101.out
      have hms85_1 := NB131_106.out
      have hs86 : w84.cell? ⟨gb131, 1, none⟩ = some (.int .i64 t119) := (kC BK131.out 1).trans rfl
      have hfs86 := fZ BK131.out 1
      have hns86_0 := NB101_131.out
      have hns86_1 := NB106_131.out
      have hms86_0 := NB131_101.out
      have hms86_1 := NB131_106.out
      have hs88 : w84.cell? ⟨gb131, 2, none⟩ = some (.slice Ao28 t120.length co28) := (kC BK131.out 2).trans rfl
      have hfs88 := fZ BK131.out 2
      have hns88_0 := NB101_131.out
      have hns88_1 := NB106_131.out
      have hms88_0 := NB131_101.out
      have hms88_1 := NB131_106.out
      have hs90 : w84.cell? ⟨gb131, 3, none⟩ = some (.slice Ao30 t123.length co30) := (kC BK131.out 3).trans rfl
      have hfs90 := fZ BK131.out 3
      have hns90_0 := NB101_131.out
      have hns90_1 := NB106_131.out
      have hms90_0 := NB131_101.out
      have hms90_1 := NB131_106.out
      have hs92 : w84.cell? ⟨gb131, 4, none⟩ = some (.slice Ao32 t126.length co32) := (kC BK131.out 4).trans rfl
      have hfs92 := fZ BK131.out 4
      have hns92_0 := NB101_131.out
      have hns92_1 := NB106_131.out
      have hms92_0 := NB131_101.out
      have hms92_1 := NB131_106.out
      have hs93 : w84.cell? ⟨gb131, 5, none⟩ = some (.int .i64 t129) := (kC BK131.out 5).trans rfl
      have hfs93 := fZ BK131.out 5
      have hns93_0 := NB101_131.out
      have hns93_1 := NB106_131.out
      have hms93_0 := NB131_101.out
      have hms93_1 := NB131_106.out
      have hs94 : w84.cell? ⟨gb131, 6, none⟩ = some (.int .i64 t130) := (kC BK131.out 6).trans rfl
      have hfs94 := fZ BK131.out 6
      have hns94_0 := NB101_131.out
      have hns94_1 := NB106_131.out
      have hms94_0 := NB131_101.out
      have hms94_1 := NB131_106.out
      refine skip_ (w1 := ?_) (by rfl) rfl ?_ ?_
      rotate_left
      ·
       go_simp
       rfl
      refine hK.out _ _ ⟨(cT NB106_131.out ((cT NB106_131.out ((cT NB106_131.out ((cT NB106_131.out ((cT NB106_131.out ((cT NB106_131.out ((cT NB106_131.out (hHeld.1)))))))))))))), (cT NB106_131.out ((cT NB106_131.out ((cT NB106_131.out ((cT NB106_131.out ((cT NB106_131.out ((cT NB106_131.out ((cT NB106_131.out (hHeld.2.1)))))))))))))), (cT NB106_131.out ((cT NB106_131.out ((cT NB106_131.out ((cT NB106_131.out ((cT NB106_131.out ((cT NB106_131.out ((cT NB106_131.out (hHeld.2.2.1)))))))))))))), (cT NB106_131.out ((cT NB106_131.out ((cT NB106_131.out ((cT NB106_131.out ((cT NB106_131.out ((cT NB106_131.out ((cT NB106_131.out (hHeld.2.2.2))))))))))))))⟩ (fun hHeld => ?_)
      clear hK K
      refine done_ (by kernel_rfl) ?_
      try go_wp2
      go_meet
      case rel => exact ⟨_, (t185), (t186), (t187), (t188), (t189), (t190), (t193), (t196), (t199), (t200), (.slice Ao87 t190.length co87), (.slice Ao89 t193.length co89), (.slice Ao91 t196.length co91), H', ⟨by have := HK1.out; first | omega | exact Nat.le_refl _⟩, ⟨by (with_reducible repeat (first | apply Kd.Q_alloc | apply Kd.Q_drewN | apply Kd.Q_drew)); exact Qf7 HO_107002.out BK131.out (by decide) (fun _ hk => ⟨hk.1.1.2, hk.1.2⟩)⟩, ⟨by (with_reducible repeat (first | apply rA | apply rN | apply rD)); exact Rf7 HO_107003.out BK131.out (by decide) (fun _ hk => hk.1.2)⟩, ⟨by (with_reducible repeat (first | apply Kd.Q_alloc | apply Kd.Q_drewN | apply Kd.Q_drew)); exact Qf7 HO192.out BK131.out (by decide) (fun _ hk => ⟨hk.1.1.1.1.2, hk.1.1.1.1.1⟩)⟩, ⟨by (with_reducible repeat (first | apply rA | apply rN | apply rD)); exact Rf7 HO195.out BK131.out (by decide) (fun _ hk => hk.1.1.2)⟩, ⟨by (with_reducible repeat (first | apply rA | apply rN | apply rD)); exact Rf7 HO198.out BK131.out (by decide) (fun _ hk => ⟨hk.1.1.1.1.2, hk.1.1.1.1.1⟩)⟩, ⟨by (iterate 7 refine kF NB101_131.out ?_); (with_reducible repeat (first | apply kN | apply kD | apply kA)); exact BK101.out⟩, ⟨by (iterate 7 refine kF NB106_131.out ?_); (with_reducible repeat (first | apply kN | apply kD | apply kA)); exact BK106.out⟩, ⟨by refine kP (cs := #[.string t188, .int .i64 t189, .slice Ao87 t190.length co87, .slice Ao89 t193.length co89, .slice Ao91 t196.length co91, .int .i64 t199, .int .i64 t130]) 6 ?_; refine kP (cs := #[.string t188, .int .i64 t189, .slice Ao87 t190.length co87, .slice Ao89 t193.length co89, .slice Ao91 t196.length co91, .int .i64 t129, .int .i64 t130]) 5 ?_; refine kP (cs := #[.string t188, .int .i64 t189, .slice Ao87 t190.length co87, .slice Ao89 t193.length co89, .slice Ao32 t126.length co32, .int .i64 t129, .int .i64 t130]) 4 ?_; refine kP (cs := #[.string t188, .int .i64 t189, .slice Ao87 t190.length co87, .slice Ao30 t123.length co30, .slice Ao32 t126.length co32, .int .i64 t129, .int .i64 t130]) 3 ?_; refine kP (cs := #[.string t188, .int .i64 t189, .slice Ao28 t120.length co28, .slice Ao30 t123.length co30, .slice Ao32 t126.length co32, .int .i64 t129, .int .i64 t130]) 2 ?_; refine kP (cs := #[.string t188, .int .i64 t119, .slice Ao28 t120.length co28, .slice Ao30 t123.length co30, .slice Ao32 t126.length co32, .int .i64 t129, .int .i64 t130]) 1 ?_; refine kP (cs := #[.string t118, .int .i64 t119, .slice Ao28 t120.length co28, .slice Ao30 t123.length co30, .slice Ao32 t126.length co32, .int .i64 t129, .int .i64 t130]) 0 ?_; (with_reducible repeat (first | apply kN | apply kD | apply kA)); exact BK131.out⟩, ⟨iX63_6_spec_l01Src_l07Topic HI0.out⟩, ⟨hX HK.out⟩, ⟨bI63_0_spec_l01Src_l07Topic HB.out⟩⟩
     rw [if_neg c79] at H
     have c79b0 : (t132 == 2) = false := beq_eq_false_iff_ne.mpr c79
     have c79b1 : (t132 != 2) = true := bne_iff_ne.mpr c79
     have H' := AM H
     clear H
     go_wp2
     go_meet
     case rel => exact ⟨_, (t133), (t134), (t135), (t118), (t119), (t120), (t123), (t126), (t129), (t130), (.slice Ao28 t120.length co28), (.slice Ao30 t123.length co30), (.slice Ao32 t126.length co32), H', ⟨by have := HK1.out; first | omega | exact Nat.le_refl _⟩, ⟨by (with_reducible repeat (first | apply Kd.Q_alloc | apply Kd.Q_drewN | apply Kd.Q_drew)); exact Kd.Q_mono HO_107002.out (fun _ hk => ⟨hk.2.1, hk.2.2⟩)⟩, ⟨rX HO_107003.out⟩, ⟨Kd.Q_of_R (by (with_reducible repeat (first | apply rA | apply rN | apply rD)); exact Kd.R_mono HO122.out (fun _ hk => ⟨hk.2.2, hk.2.1⟩))⟩, ⟨rX HO125.out⟩, ⟨by (with_reducible repeat (first | apply rA | apply rN | apply rD)); exact Kd.R_mono HO128.out (fun _ hk => ⟨hk.2.2, hk.2.1⟩)⟩, ⟨kX BK101.out⟩, ⟨kX BK106.out⟩, ⟨kX BK131.out⟩, ⟨iX63_6_spec_l01Src_l07Topic HI0.out⟩, ⟨hX HK.out⟩, ⟨bI63_0_spec_l01Src_l07Topic HB.out⟩⟩
    case rest =>
     clear HC15
     (try clear c2); (try clear p2); (try clear c3); (try clear c4); (try clear c5); (try clear p6); (try clear c7); (try clear c8); (try clear c21); (try clear c39); (try clear c41); (try clear c58); (try clear c58b0); (try clear c58b1); (try clear p64); (try clear c79); (try clear c79b0); (try clear c79b1)
     obtain ⟨kq, x1001_14, x1002_14, x1003_14, x132000_14, x132001_14, x132002_14, x132003_14, x132004_14, x132005_14, x132006_14, u132002, u132003, u132004, HA, HJ14, HO_107002, HO_107003, HO_132002, HO_132003, HO_132004, BK101, BK106, BK131, HI0, HK, HB⟩ := hcut
     cases kq with
     | zero => exact absurd HA.out (by simp [spec_l01Src_l07Topic.j1])
     | succ kj14 =>
      have H := HA.out
      clear HA
      simp only [spec_l01Src_l07Topic.j1] at H
      by_cases c95 : x132006_14 = 0
      ·
       rw [if_pos c95] at H
       have c95b0 : (x132006_14 == 0) = true := beq_iff_eq.mpr c95
       have c95b1 : (x132006_14 != 0) = false := bne_eq_false_iff_eq.mpr c95
       clear c95
       have H' := AM H
       clear H
       have hnb96 := NB131_101.out
       have hnc96 := NB101_131.out
       have hnb97 := NB131_106.out
       have hnc97 := NB106_131.out
       have hnb98 := NB131_0.out
       have hnc98 := NB0_131.out
       have hcz99 := q7 BK131.out
       have hfz99 := fZ BK131.out
       have hnb100 := NB106_101.out
       have hnc100 := NB101_106.out
       have hnb101 := NB106_0.out
       have hnc101 := NB0_106.out
       have hcz102 := q4 BK106.out
       have hfz102 := fZ BK106.out
       obtain ⟨Ao103, co103, eo103, _⟩ := Kd.Q_slice HO_132002.out
       subst eo103
       obtain ⟨Ao104, co104, eo104⟩ := Kd.R_slice HO_132003.out
       subst eo104
       go_wp2
       go_roundg kj14
       case measure => have := HK1.out; have := HJ14.out; omega
       case rel => exact ⟨(wrap64 (x4_1 - 1)), (x1001_14), (x1002_14), (x1003_14), (x132000_14), (x132001_14), (x132002_14), (x132003_14), (.slice Ao103 x132002_14.length co103), (.slice Ao104 x132003_14.length co104), (by first | rfl | (simp; done) | (simp [*]; done)), H', ⟨by have := HK1.out; have := HJ14.out; omega⟩, ⟨by (with_reducible repeat (first | apply Kd.Q_alloc | apply Kd.Q_drewN | apply Kd.Q_drew)); exact Qf4 HO_132002.out BK106.out (by decide) (fun _ hk => trivial)⟩, ⟨by (with_reducible repeat (first | apply rA | apply rN | apply rD)); exact Rf4 HO_132003.out BK106.out (by decide) (fun _ hk => trivial)⟩, ⟨by (iterate 4 refine kF NB101_106.out ?_); (with_reducible repeat (first | apply kN | apply kD | apply kA)); exact BK101.out⟩, ⟨by refine kP (cs := #[.string x132000_14, .int .i64 x132001_14, .slice Ao103 x132002_14.length co103, .slice Ao17 x107003_1.length co17]) 3 ?_; refine kP (cs := #[.string x132000_14, .int .i64 x132001_14, .slice Ao16 x107002_1.length co16, .slice Ao17 x107003_1.length co17]) 2 ?_; refine kP (cs := #[.string x132000_14, .int .i64 x107001_1, .slice Ao16 x107002_1.length co16, .slice Ao17 x107003_1.length co17]) 1 ?_; refine kP (cs := #[.string x107000_1, .int .i64 x107001_1, .slice Ao16 x107002_1.length co16, .slice Ao17 x107003_1.length co17]) 0 ?_; (with_reducible repeat (first | apply kN | apply kD | apply kA)); exact BK106.out⟩, ⟨iX63_6_spec_l01Src_l07Topic HI0.out⟩, ⟨hX HK.out⟩, ⟨bI63_0_spec_l01Src_l07Topic HB.out⟩⟩
      rw [if_neg c95] at H
      have c95b0 : (x132006_14 == 0) = false := beq_eq_false_iff_ne.mpr c95
      have c95b1 : (x132006_14 != 0) = true := bne_iff_ne.mpr c95
      have H' := AM H
      clear H
      have hnb105 := NB131_101.out
      have hnc105 := NB101_131.out
      have hnb106 := NB131_106.out
      have hnc106 := NB106_131.out
      have hnb107 := NB131_0.out
      have hnc107 := NB0_131.out
      have hcz108 := q7 BK131.out
      have hfz108 := fZ BK131.out
      go_wp2
      go_roundg kj14
      case measure => have := HK1.out; have := HJ14.out; omega
      case rel => exact ⟨(wrap64 (x4_1 - 1)), (x1001_14), (x1002_14), (x1003_14), (x107000_1), (x107001_1), (x107002_1), (x107003_1), (.slice Ao16 x107002_1.length co16), (.slice Ao17 x107003_1.length co17), (by first | rfl | (simp; done) | (simp [*]; done)), H', ⟨by have := HK1.out; have := HJ14.out; omega⟩, ⟨by (with_reducible repeat (first | apply Kd.Q_alloc | apply Kd.Q_drewN | apply Kd.Q_drew)); exact Kd.Q_mono HO_107002.out (fun _ hk => trivial)⟩, ⟨by (with_reducible repeat (first | apply rA | apply rN | apply rD)); exact Kd.R_mono HO_107003.out (fun _ hk => trivial)⟩, ⟨kX BK101.out⟩, ⟨kX BK106.out⟩, ⟨iX63_6_spec_l01Src_l07Topic HI0.out⟩, ⟨hX HK.out⟩, ⟨bI63_0_spec_l01Src_l07Topic HB.out⟩⟩
   rw [if_neg c11] at H
   have c11b0 : decide (0 < x4_1) = false := decide_eq_false c11
   clear c11
   replace H := Option.bind_eq_some_iff.mp H
   obtain ⟨⟨t201, t202, t203, t204⟩, A1090, H⟩ := H
   try dsimp only at H
   have A109 := AM A1090
   clear A1090
   by_cases c110 : t201 = true
   ·
    subst c110
    have H1 : ((spec_l01Src_n.f s0_0 t202 t203 t204 4).bind fun bt205 => (if bt205.1 = 0 then ((some (([(-1), 1000000000, 1000000001, wrap64 (1000000000 - (x107002_1.length : Int)), 999999998] : List Int) : List Int)).bind fun y209 => ((spec_l01Src_n.f s0_0 bt205.2.1 bt205.2.2.1 bt205.2.2.2 5).bind fun bt212 => (if 0 ≤ bt212.1 then (if bt212.1 < (y209.length : Int) then (some (x107000_1, rd y209 bt212.1, x107002_1, ([] : List (S36)), bt212.2.1, bt212.2.2.1, bt212.2.2.2)) else (none)) else (none)))) else (if bt205.1 = 1 then ((spec_l01Src_n.f s0_0 bt205.2.1 bt205.2.2.1 bt205.2.2.2 30).bind fun bt217 => (if x107003_1.length < 5864062014805 then (some (x107000_1, x107001_1, x107002_1, (x107003_1 ++ [(⟨(⟨#[122, 122]⟩ : ByteArray), wrap64 ((wrap64 (x107001_1 + bt217.1)) - 1)⟩ : S36)]), bt217.2.1, bt217.2.2.1, bt217.2.2.2)) else (none))) else (if bt205.1 = 2 then (spec_l01Src_l07Topic.l1 k1 s0_0 bt205.2.1 bt205.2.2.1 bt205.2.2.2 x107000_1 x107001_1 x107002_1 x107003_1) else (if x107002_1.length < 8796093022208 then (some (x107000_1, x107001_1, (x107002_1 ++ [(⟨#[]⟩ : ByteArray)]), x107003_1, bt205.2.1, bt205.2.2.1, bt205.2.2.2)) else (none)))))) = some (r1, r2, r3, r4, r5, r6, r7) := by rw [if_pos rfl] at H; exact H
    clear H
    have H := H1
    clear H1
    replace H := Option.bind_eq_some_iff.mp H
    obtain ⟨⟨t205, t206, t207, t208⟩, A1110, H⟩ := H
    try dsimp only at H
    have A111 := AM A1110
    clear A1110
    by_cases c112 : t205 = 0
    ·
     rw [if_pos c112] at H
     have c112b0 : (t205 == 0) = true := beq_iff_eq.mpr c112
     have c112b1 : (t205 != 0) = false := bne_eq_false_iff_eq.mpr c112
     clear c112
     obtain ⟨y209, hy209⟩ : ∃ y_ : List Int, y_ = (([(-1), 1000000000, 1000000001, wrap64 (1000000000 - (x107002_1.length : Int)), 999999998] : List Int)) := ⟨_, rfl⟩
     replace H : ((spec_l01Src_n.f s0_0 t206 t207 t208 5).bind fun bt212 => (if 0 ≤ bt212.1 then (if bt212.1 < (y209.length : Int) then (some (x107000_1, rd y209 bt212.1, x107002_1, ([] : List (S36)), bt212.2.1, bt212.2.2.1, bt212.2.2.2)) else (none)) else (none))) = some (r1, r2, r3, r4, r5, r6, r7) := by first | (rw [hy209]; with_reducible exact H) | (have H2_ := (Option.bind_some _ _).symm.trans H; rw [hy209]; with_reducible exact H2_) | (have H2_ := (Option.bind_some _ _).symm.trans H; with_reducible exact H2_) | with_reducible exact H | (rw [hy209]; exact H) | exact H
     have Ny209 := AM hy209
     clear hy209
     replace H := Option.bind_eq_some_iff.mp H
     obtain ⟨⟨t212, t213, t214, t215⟩, A1130, H⟩ := H
     try dsimp only at H
     have A113 := AM A1130
     clear A1130
     by_cases c114 : 0 ≤ t212
     ·
      rw [if_pos c114] at H
      have c114b0 : decide (0 ≤ t212) = true := decide_eq_true c114
      clear c114
      by_cases c115 : t212 < (y209.length : Int)
      ·
       rw [if_pos c115] at H
       have c115b0 : decide (t212 < (y209.length : Int)) = true := decide_eq_true c115
       clear c115
       simp only [Option.some.injEq, Prod.mk.injEq] at H
       obtain ⟨rfl, rfl, rfl, rfl, rfl, rfl, rfl⟩ := H
       try go_wp2_with (first | ((with_reducible refine gate_callee (f := 32) rfl ?_); refine goesL_ (some 58) rfl rfl Try.func32 (by kernel_rfl) rfl #[.pointer (some ⟨g, 0, none⟩), .int .i64 15] rfl (by (try simp only [mA, mB, mC]); first | done | rfl | (simp only [mD, mE]; rfl)) ?_; (with_reducible refine (spec_l01Src_one.calls g s0_0 x1001_1 x1002_1 x1003_1 15 true t202 t203 t204 w0 _ ?side1 ?side2 A109.out).mono ?_); (case side1 => exact (iX63_6_spec_l01Src_l07Topic HI0.out)); (case side2 => exact (bI63_0_spec_l01Src_l07Topic HB.out)); rintro e w116 ⟨rfl, hi, hb, hk⟩; refine ⟨_, rfl, ?_⟩; have _ := AM (Kd.Q_mono (Kd.Q_keep (IsS63.apartQ (show IsS63 w0 _ g s0_0 x1001_1 x1002_1 x1003_1 from iX63_6_spec_l01Src_l07Topic HI0.out) (qX HO_107002.out) (by decide)) hk (fun _ h => h.2)) (fun _ h => h.1)); have _ := AM (Kd.R_mono (Kd.R_keep (IsS63.apart (show IsS63 w0 _ g s0_0 x1001_1 x1002_1 x1003_1 from iX63_6_spec_l01Src_l07Topic HI0.out) (rX HO_107003.out) (by decide)) hk (fun _ h => h.2)) (fun _ h => h.1)); have _ := AM (kB hk BK101.out NB101_0.out (by simp)); have _ := AM (kB hk BK106.out NB106_0.out (by simp)); have _ := AM (KeepBut.trans (hX HK.out) hk (.inl rfl)); have _ := AM (hb); have _ := AM (hi); clear HO_107002 HO_107003 BK101 BK106 HK HB HI0; rename_i HO_107002 HO_107003 BK101 BK106 HK HB HI0; (try clear hb); (try clear hb2); (try clear hk); (try clear hi)) | ((with_reducible refine gate_callee (f := 21) rfl ?_); refine goesL_ (some 60) rfl rfl Try.func21 (by kernel_rfl) rfl #[.pointer (some ⟨g, 0, none⟩), .int .i64 4] rfl (by (try simp only [mA, mB, mC]); first | done | rfl | (simp only [mD, mE]; rfl)) ?_; (with_reducible refine (spec_l01Src_n.calls g s0_0 t202 t203 t204 4 t205 t206 t207 t208 w0 _ ?side1 ?side2 A111.out).mono ?_); (case side1 => exact (iX63_6_spec_l01Src_l07Topic HI0.out)); (case side2 => exact (bI63_0_spec_l01Src_l07Topic HB.out)); rintro e w117 ⟨rfl, hi, hb, hk⟩; refine ⟨_, rfl, ?_⟩; have _ := AM (Kd.Q_mono (Kd.Q_keep (IsS63.apartQ (show IsS63 w0 _ g s0_0 t202 t203 t204 from iX63_6_spec_l01Src_l07Topic HI0.out) (qX HO_107002.out) (by decide)) hk (fun _ h => h.2)) (fun _ h => h.1)); have _ := AM (Kd.R_mono (Kd.R_keep (IsS63.apart (show IsS63 w0 _ g s0_0 t202 t203 t204 from iX63_6_spec_l01Src_l07Topic HI0.out) (rX HO_107003.out) (by decide)) hk (fun _ h => h.2)) (fun _ h => h.1)); have _ := AM (kB hk BK101.out NB101_0.out (by simp)); have _ := AM (kB hk BK106.out NB106_0.out (by simp)); have _ := AM (KeepBut.trans (hX HK.out) hk (.inl rfl)); have _ := AM (hb); have _ := AM (hi); clear HO_107002 HO_107003 BK101 BK106 HK HB HI0; rename_i HO_107002 HO_107003 BK101 BK106 HK HB HI0; (try clear hb); (try clear hb2); (try clear hk); (try clear hi)))
       have pi216 : (0 ≤ (t212 : Int)) = True := eq_true (of_decide_eq_true (by assumption))
       have qi216 : (t212 < (y209.length : Int)) = True := eq_true (of_decide_eq_true (by assumption))
       have _ := AM (Kd.Q_drew HO_107002.out)
       have _ := AM (rD HO_107003.out)
       have _ := AM (kD BK101.out)
       have _ := AM (kD BK106.out)
       have _ := AM (IsS63.drew HI0.out)
       have _ := AM (keep_drew HK.out)
       have _ := AM (bD HB.out)
       clear HO_107002 HO_107003 BK101 BK106 HI0 HK HB
       rename_i HO_107002 HO_107003 BK101 BK106 HI0 HK HB
       obtain ⟨Ao119, co119, eo119, _⟩ := Kd.Q_slice HO_107002.out
       (first | subst eo119 | (injection eo119 with f1_ f2_ f3_; have f4_ := f1_.symm; have f5_ := f3_.symm; clear f1_ f2_ f3_; subst f4_; subst f5_))
       refine start_ (n := 11) (S := fun w' => w'.cell? ⟨gb106, 0, none⟩ = some (.string x107000_1) ∧ w'.cell? ⟨gb106, 1, none⟩ = some (.int .i64 x107001_1) ∧ w'.cell? ⟨gb106, 2, none⟩ = some (.slice Ao119 x107002_1.length co119) ∧ w'.cell? ⟨gb106, 3, none⟩ = some (u107003)) (ds := [10]) (upTo 0 11) (by kernel_rfl) rfl rfl (q4 BK106.out) (fun hHeld => ?_); refine with_tabW spec_l01Src_l07Topic.tab19 spec_l01Src_l07Topic.bits19 (fun HT_ HW_ => ?_)
       generalize w117.drew = w118 at HO_107002 HO_107003 BK101 BK106 HI0 HK HB hHeld ⊢
       refine pF 0 1 11 68 ?_
       refine pF2 5 73 spec_l01Src_l07Topic.b6 ?_
       refine pT2 1 69 spec_l01Src_l07Topic.b7 ?_ hHeld
       refine pF2 2 70 spec_l01Src_l07Topic.b8 ?_
       refine pF2 3 71 spec_l01Src_l07Topic.b9 ?_
       refine join_ (σ := Value × Addr) 4 (upTo 7 11) (fun s_ => [(72, s_.1), (74, .int .i64 t212)]) (fun s_ w' => (w'.cell? ⟨gb106, 0, none⟩ = some (.string x107000_1) ∧ w'.cell? ⟨gb106, 1, none⟩ = some (.int .i64 x107001_1) ∧ w'.cell? ⟨gb106, 2, none⟩ = some (.slice Ao119 x107002_1.length co119) ∧ w'.cell? ⟨gb106, 3, none⟩ = some (u107003)) ∧ (Kd.R (Kd.int .i64) 2 w' w.heap.size (fun _ => True) s_.1 y209) ∧ (Kd.Q Kd.string 9 w' w.heap.size (fun _ => True) (.slice Ao119 x107002_1.length co119) x107002_1) ∧ (Kd.R k36 36 w' w.heap.size (fun _ => True) u107003 x107003_1) ∧ (∃ c_, (s_.1 : Value) = .slice (some s_.2) y209.length c_) ∧ (w'.heap[gb101]? = some (.cells #[.string (⟨#[]⟩ : ByteArray), .int .i64 0, .slice none 0 0, .slice none 0 0] 26 (0, 0))) ∧ (w'.heap[gb106]? = some (.cells #[.string x107000_1, .int .i64 x107001_1, .slice Ao119 x107002_1.length co119, u107003] 26 (0, 0))) ∧ (IsS63 w0 w' g s0_0 t213 t214 t215) ∧ (KeepBut w w' g none) ∧ (Below w0.heap.size w0 w')) ?_ ?_
       rotate_left
       ·
        intro hCont
        refine two_ (i := 4) (j := 6) (Ni := some 72) (Nj := some 74) (upTo 6 11) spec_l01Src_l07Topic.b10 rfl rfl rfl rfl (two_of HT_.out (by kernel_rfl)) (by decide) (by decide) (fun K hK => ?_) (fun K hK => ?_)
        ·
         skip
         refine Kd.R_lit_step (Kd.int .i64) _ 2 ?hg (N := 72) ?hd (xs := ([(-1), 1000000000, 1000000001, wrap64 (1000000000 - (x107002_1.length : Int)), 999999998] : List Int)) (inner := [.int .i64 (-1), .int .i64 1000000000, .int .i64 1000000001, .int .i64 (wrap64 (1000000000 - (x107002_1.length : Int))), .int .i64 999999998]) (ok := fun _ => True) (okp := fun _ => True) ?hr ?hp (fun _ hk => hk) trivial (Below.refl _ _) (Nat.le_refl _) (by simp) ?_; (case hd => rfl); (case hg => rfl); (case hr => first | (go_simp; done) | (go_simp; rfl)); (case hp => exact (Reps.one (show Kd.M (Kd.int .i64) _ _ _ (-1) [.int .i64 (-1)] from rfl) (Reps.one (show Kd.M (Kd.int .i64) _ _ _ 1000000000 [.int .i64 1000000000] from rfl) (Reps.one (show Kd.M (Kd.int .i64) _ _ _ 1000000001 [.int .i64 1000000001] from rfl) (Reps.one (show Kd.M (Kd.int .i64) _ _ _ (wrap64 (1000000000 - (x107002_1.length : Int))) [.int .i64 (wrap64 (1000000000 - (x107002_1.length : Int)))] from rfl) (Reps.one (show Kd.M (Kd.int .i64) _ _ _ 999999998 [.int .i64 999999998] from rfl) (Reps.none _ _)))))))
         intro v210 w120 ho121 hb hg_ hnew_
         clear hg_ hnew_
         (first | rw [← Ny209.out] at ho121 | (simp only [Int.reduceToNat] at ho121; rw [← Ny209.out] at ho121))
         have _ := AM (Kd.Q_below (qX HO_107002.out) hb)
         have _ := AM (Kd.R_below (rX HO_107003.out) hb)
         have _ := AM (Kd.R_lower ho121 (keep_size (w := w) (g := g) (row := none) (hX HK.out)))
         have _ := AM (nB BK101.out hb)
         have _ := AM (nB BK106.out hb)
         have _ := AM (IsS63.below (iX63_6_spec_l01Src_l07Topic HI0.out) hb)
         have _ := AM (KeepBut.trans (hX HK.out) (KeepBut.of_below hb g none) (.inl rfl))
         have _ := AM (below_step (bI63_0_spec_l01Src_l07Topic HB.out) hb)
         clear HO_107002 HO_107003 BK101 BK106 HI0 HK HB
         rename_i HO_107002 HO_107003 HO211 BK101 BK106 HI0 HK HB
         clear hb ho121
         obtain ⟨Ao122, co122, eo122⟩ := Kd.R_slice HO211.out
         subst eo122
         obtain ⟨ado122, fo122, _⟩ := Kd.at_int (Kd.R_reads' HO211.out).2.2 0 (by decide) (by rw [Ny209.out]; simp)
         cases fo122
         refine hK.out _ _ (q4 BK106.out) (fun hHeld => ?_)
         clear hK K
         refine norm_ (a' := ?_) ?_ ?_
         rotate_left
         ·
          show Act.put _ (some 72) _ = _
          simp only [Act.put, sA, sB, sC, i64_w, i32_w]
          rfl
         refine one_ (i := 6) (N := some 74) (upTo 7 11) rfl rfl (one_of HT_.out (by kernel_rfl)) (by decide) (fun K hK => ?_)
         refine goes_ Try.func21 (by kernel_rfl) rfl #[.pointer (some ⟨g, 0, none⟩), .int .i64 5] (by rfl) rfl rfl (by (try simp only [mA, mB, mC]); first | done | rfl | (simp only [mD, mE]; rfl)) ?_
         with_reducible refine (spec_l01Src_n.calls g s0_0 t206 t207 t208 5 t212 t213 t214 t215 w0 _ ?side1 ?side2 A113.out).mono ?_
         (case side1 => exact (iX63_6_spec_l01Src_l07Topic HI0.out))
         (case side2 => exact (bI63_0_spec_l01Src_l07Topic HB.out))
         rintro e w123 ⟨rfl, hi, hb, hk⟩
         refine ⟨_, rfl, ?_⟩
         have _ := AM (Kd.Q_mono (Kd.Q_keep (IsS63.apartQ (show IsS63 w0 _ g s0_0 t206 t207 t208 from iX63_6_spec_l01Src_l07Topic HI0.out) (qX HO_107002.out) (by decide)) hk (fun _ h => h.2)) (fun _ h => h.1))
         have _ := AM (Kd.R_mono (Kd.R_keep (IsS63.apart (show IsS63 w0 _ g s0_0 t206 t207 t208 from iX63_6_spec_l01Src_l07Topic HI0.out) (rX HO_107003.out) (by decide)) hk (fun _ h => h.2)) (fun _ h => h.1))
         have _ := AM (kB hk BK101.out NB101_0.out (by simp))
         have _ := AM (kB hk BK106.out NB106_0.out (by simp))
         have _ := AM (Kd.R_mono (Kd.R_keep (IsS63.apart (show IsS63 w0 _ g s0_0 t206 t207 t208 from iX63_6_spec_l01Src_l07Topic HI0.out) (rX HO211.out) (by decide)) hk (fun _ h => h.2)) (fun _ h => h.1))
         have _ := AM (KeepBut.trans (hX HK.out) hk (.inl rfl))
         have _ := AM (hb)
         have _ := AM (hi)
         clear HO_107002 HO_107003 BK101 BK106 HO211 HK HB HI0
         rename_i HO_107002 HO_107003 BK101 BK106 HO211 HK HB HI0
         (try clear hb)
         (try clear hb2)
         (try clear hk)
         (try clear hi)
         refine hK.out _ _ (q4 BK106.out) (fun hHeld => ?_)
         clear hK K
         refine norm_ (a' := ?_) ?_ ?_
         rotate_left
         ·
          show Act.put _ (some 74) _ = _
          simp only [Act.put, sA, sB, sC, i64_w, i32_w]
          rfl
         exact norm_ (by simp only [putAll, Act.put, List.setIfInBounds_toArray, List.set_cons_zero, List.set_cons_succ]) (hCont (.slice (some ado122) y209.length co122, ado122) _ ⟨hHeld, (rX HO211.out), (qX HO_107002.out), (rX HO_107003.out), ⟨_, rfl⟩, (kX BK101.out), (kX BK106.out), (iX63_6_spec_l01Src_l07Topic HI0.out), (hX HK.out), (bI63_0_spec_l01Src_l07Topic HB.out)⟩)
        skip
        refine goes_ Try.func21 (by kernel_rfl) rfl #[.pointer (some ⟨g, 0, none⟩), .int .i64 5] (by rfl) rfl rfl (by (try simp only [mA, mB, mC]); first | done | rfl | (simp only [mD, mE]; rfl)) ?_
        with_reducible refine (spec_l01Src_n.calls g s0_0 t206 t207 t208 5 t212 t213 t214 t215 w0 _ ?side1 ?side2 A113.out).mono ?_
        (case side1 => exact (iX63_6_spec_l01Src_l07Topic HI0.out))
        (case side2 => exact (bI63_0_spec_l01Src_l07Topic HB.out))
        rintro e w120 ⟨rfl, hi, hb, hk⟩
        refine ⟨_, rfl, ?_⟩
        have _ := AM (Kd.Q_mono (Kd.Q_keep (IsS63.apartQ (show IsS63 w0 _ g s0_0 t206 t207 t208 from iX63_6_spec_l01Src_l07Topic HI0.out) (qX HO_107002.out) (by decide)) hk (fun _ h => h.2)) (fun _ h => h.1))
        have _ := AM (Kd.R_mono (Kd.R_keep (IsS63.apart (show IsS63 w0 _ g s0_0 t206 t207 t208 from iX63_6_spec_l01Src_l07Topic HI0.out) (rX HO_107003.out) (by decide)) hk (fun _ h => h.2)) (fun _ h => h.1))
        have _ := AM (kB hk BK101.out NB101_0.out (by simp))
        have _ := AM (kB hk BK106.out NB106_0.out (by simp))
        have _ := AM (KeepBut.trans (hX HK.out) hk (.inl rfl))
        have _ := AM (hb)
        have _ := AM (hi)
        clear HO_107002 HO_107003 BK101 BK106 HK HB HI0
        rename_i HO_107002 HO_107003 BK101 BK106 HK HB HI0
        (try clear hb)
        (try clear hb2)
        (try clear hk)
        (try clear hi)
        refine hK.out _ _ (q4 BK106.out) (fun hHeld => ?_)
        clear hK K
        refine norm_ (a' := ?_) ?_ ?_
        rotate_left
        ·
         show Act.put _ (some 74) _ = _
         simp only [Act.put, sA, sB, sC, i64_w, i32_w]
         rfl
        refine one_ (i := 4) (N := some 72) (upTo 7 11) rfl rfl (one_of HT_.out (by kernel_rfl)) (by decide) (fun K hK => ?_)
        refine Kd.R_lit_step (Kd.int .i64) _ 2 ?hg (N := 72) ?hd (xs := ([(-1), 1000000000, 1000000001, wrap64 (1000000000 - (x107002_1.length : Int)), 999999998] : List Int)) (inner := [.int .i64 (-1), .int .i64 1000000000, .int .i64 1000000001, .int .i64 (wrap64 (1000000000 - (x107002_1.length : Int))), .int .i64 999999998]) (ok := fun _ => True) (okp := fun _ => True) ?hr ?hp (fun _ hk => hk) trivial (Below.refl _ _) (Nat.le_refl _) (by simp) ?_; (case hd => rfl); (case hg => rfl); (case hr => first | (go_simp; done) | (go_simp; rfl)); (case hp => exact (Reps.one (show Kd.M (Kd.int .i64) _ _ _ (-1) [.int .i64 (-1)] from rfl) (Reps.one (show Kd.M (Kd.int .i64) _ _ _ 1000000000 [.int .i64 1000000000] from rfl) (Reps.one (show Kd.M (Kd.int .i64) _ _ _ 1000000001 [.int .i64 1000000001] from rfl) (Reps.one (show Kd.M (Kd.int .i64) _ _ _ (wrap64 (1000000000 - (x107002_1.length : Int))) [.int .i64 (wrap64 (1000000000 - (x107002_1.length : Int)))] from rfl) (Reps.one (show Kd.M (Kd.int .i64) _ _ _ 999999998 [.int .i64 999999998] from rfl) (Reps.none _ _)))))))
        intro v210 w121 ho122 hb hg_ hnew_
        clear hg_ hnew_
        (first | rw [← Ny209.out] at ho122 | (simp only [Int.reduceToNat] at ho122; rw [← Ny209.out] at ho122))
        have _ := AM (Kd.Q_below (qX HO_107002.out) hb)
        have _ := AM (Kd.R_below (rX HO_107003.out) hb)
        have _ := AM (Kd.R_lower ho122 (keep_size (w := w) (g := g) (row := none) (hX HK.out)))
        have _ := AM (nB BK101.out hb)
        have _ := AM (nB BK106.out hb)
        have _ := AM (IsS63.below (iX63_6_spec_l01Src_l07Topic HI0.out) hb)
        have _ := AM (KeepBut.trans (hX HK.out) (KeepBut.of_below hb g none) (.inl rfl))
        have _ := AM (below_step (bI63_0_spec_l01Src_l07Topic HB.out) hb)
        clear HO_107002 HO_107003 BK101 BK106 HI0 HK HB
        rename_i HO_107002 HO_107003 HO211 BK101 BK106 HI0 HK HB
        clear hb ho122
        obtain ⟨Ao123, co123, eo123⟩ := Kd.R_slice HO211.out
        subst eo123
        obtain ⟨ado123, fo123, _⟩ := Kd.at_int (Kd.R_reads' HO211.out).2.2 0 (by decide) (by rw [Ny209.out]; simp)
        cases fo123
        refine hK.out _ _ (q4 BK106.out) (fun hHeld => ?_)
        clear hK K
        refine norm_ (a' := ?_) ?_ ?_
        rotate_left
        ·
         show Act.put _ (some 72) _ = _
         simp only [Act.put, sA, sB, sC, i64_w, i32_w]
         rfl
        exact norm_ (by simp only [putAll, Act.put, List.setIfInBounds_toArray, List.set_cons_zero, List.set_cons_succ]) (hCont (.slice (some ado123) y209.length co123, ado123) _ ⟨hHeld, (rX HO211.out), (qX HO_107002.out), (rX HO_107003.out), ⟨_, rfl⟩, (kX BK101.out), (kX BK106.out), (iX63_6_spec_l01Src_l07Topic HI0.out), (hX HK.out), (bI63_0_spec_l01Src_l07Topic HB.out)⟩)
       rintro ⟨v210, adz_v210⟩ w124 ⟨hS_, h0_, h1_, h2_, h3_, h4_, h5_, h6_, h7_, h8_⟩
       have _ : Aside0 (Kd.R (Kd.int .i64) 2 w124 w.heap.size (fun _ => True) v210 y209) := ⟨h0_⟩
       have _ : Aside0 (Kd.Q Kd.string 9 w124 w.heap.size (fun _ => True) (.slice Ao119 x107002_1.length co119) x107002_1) := ⟨h1_⟩
       have _ : Aside0 (Kd.R k36 36 w124 w.heap.size (fun _ => True) u107003 x107003_1) := ⟨h2_⟩
       have _ : Aside0 (∃ c_, (v210 : Value) = .slice (some adz_v210) y209.length c_) := ⟨h3_⟩
       have _ : Aside0 (w124.heap[gb101]? = some (.cells #[.string (⟨#[]⟩ : ByteArray), .int .i64 0, .slice none 0 0, .slice none 0 0] 26 (0, 0))) := ⟨h4_⟩
       have _ : Aside0 (w124.heap[gb106]? = some (.cells #[.string x107000_1, .int .i64 x107001_1, .slice Ao119 x107002_1.length co119, u107003] 26 (0, 0))) := ⟨h5_⟩
       have _ : Aside0 (IsS63 w0 w124 g s0_0 t213 t214 t215) := ⟨h6_⟩
       have _ : Aside0 (KeepBut w w124 g none) := ⟨h7_⟩
       have _ : Aside0 (Below w0.heap.size w0 w124) := ⟨h8_⟩
       clear HO_107002 HO_107003 BK101 BK106 HI0 HK HB h0_ h1_ h2_ h3_ h4_ h5_ h6_ h7_ h8_
       rename_i HO211 HO_107002 HO_107003 HA_HO211 BK101 BK106 HI0 HK HB
       have hHeld : w124.cell? ⟨gb106, 0, none⟩ = some (.string x107000_1) ∧ w124.cell? ⟨gb106, 1, none⟩ = some (.int .i64 x107001_1) ∧ w124.cell? ⟨gb106, 2, none⟩ = some (.slice Ao119 x107002_1.length co119) ∧ w124.cell? ⟨gb106, 3, none⟩ = some (u107003) := hS_
       obtain ⟨co125, eo125⟩ := HA_HO211.out
       clear HA_HO211
       subst eo125
       refine norm_ (a' := ?_) ?_ ?_
       rotate_left
       ·
        simp only [putAll, Act.put, List.setIfInBounds_toArray, List.set_cons_zero, List.set_cons_succ]
        rfl
       refine pF 7 8 11 75 ?_
       refine one_ (i := 8) (N := some 76) (upTo 9 11) rfl rfl (one_of HT_.out (by kernel_rfl)) (by decide) (fun K hK => ?_)
       (have p216 : 0 ≤ (t212 : Int) := of_decide_eq_true (by assumption); have q216 : t212 < (y209.length : Int) := of_decide_eq_true (by assumption); obtain ⟨ad216, e216, hx216_0⟩ := Kd.at_int (Kd.R_reads' HO211.out).2.2 t212 p216 q216; obtain rfl : adz_v210 = ad216 := (by injection e216))
       refine value_ (w1 := ?_) (v := ?_) (by rfl) rfl ?_ ?_
       rotate_left 2
       ·
        go_simp
        constructor
        ·
         rfl
        rfl
       clear hx216_0
       refine hK.out _ _ (q4 BK106.out) (fun hHeld => ?_)
       clear hK K
       refine norm_ (a' := ?_) ?_ ?_
       rotate_left
       ·
        show Act.put _ (some 76) _ = _
        simp only [Act.put, sA, sB, sC, i64_w, i32_w]
        rfl
       refine pF 9 10 11 77 ?_
       refine last_ (i := 10) (N := none) (upTo 11 11) rfl rfl (one_of HT_.out (by kernel_rfl)) (by decide) (fun K hK => ?_)
       have hs126 : w124.cell? ⟨gb106, 1, none⟩ = some (.int .i64 x107001_1) := (kC BK106.out 1).trans rfl
       have hfs126 := fZ BK106.out 1
       have hns126_0 := NB101_106.out
       have hms126_0 := NB106_101.out
       refine skip_ (w1 := ?_) (by rfl) rfl ?_ ?_
       rotate_left
       ·
        go_simp
        rfl
       refine hK.out _ _ ?_
       clear hK K
       refine done_ (done_of HT_.out (by kernel_rfl)) ?_
       have hnb127 := NB106_101.out
       have hnc127 := NB101_106.out
       have hnb128 := NB106_0.out
       have hnc128 := NB0_106.out
       have hcz129 := q4 BK106.out
       have hfz129 := fZ BK106.out
       have hnb130 := NB101_0.out
       have hnc130 := NB0_101.out
       have hcz131 := q4 BK101.out
       have hfz131 := fZ BK101.out
       try go_wp2
       refine bodyPost_ret (results_cell_row rfl _ _ gb101 26 #[.string x107000_1, .int .i64 (rd y209 t212), .slice Ao119 x107002_1.length co119, .slice none 0 0] (0, 0) _ rfl (by refine kP (cs := #[.string x107000_1, .int .i64 (rd y209 t212), .slice Ao119 x107002_1.length co119, .slice none 0 0]) 3 ?_; refine kP (cs := #[.string x107000_1, .int .i64 (rd y209 t212), .slice none 0 0, .slice none 0 0]) 2 ?_; refine kP (cs := #[.string x107000_1, .int .i64 0, .slice none 0 0, .slice none 0 0]) 1 ?_; refine kP (cs := #[.string (⟨#[]⟩ : ByteArray), .int .i64 0, .slice none 0 0, .slice none 0 0]) 0 ?_; refine kF NB101_106.out ?_; refine kF NB101_106.out ?_; (with_reducible repeat (first | apply kN | apply kD | apply kA)); exact BK101.out) Try.underlying26 rfl (by kernel_rfl)) rfl ?_
       exact ⟨_, _, by first | rfl | (simp [*, errW_none, errW_some] <;> rfl), by (with_reducible repeat (first | apply Kd.Q_alloc | apply Kd.Q_drewN | apply Kd.Q_drew)); exact Kd.Q_mono (Kd.Q_far (p := ⟨gb101, 3, none⟩) (Kd.Q_far (p := ⟨gb101, 2, none⟩) (Kd.Q_far (p := ⟨gb101, 1, none⟩) (Kd.Q_far (p := ⟨gb101, 0, none⟩) (Kd.Q_far (p := ⟨gb106, 3, none⟩) (Kd.Q_far (p := ⟨gb106, 1, none⟩) (Kd.Q_types (Kd.Q_types HO_107002.out BK106.out (by decide)) BK101.out (by decide)) (fun _ hk => hk.1.2) (.int .i64 (rd y209 t212))) (fun _ hk => hk.1.2) (.slice none 0 0)) (fun _ hk => hk.2) (.string x107000_1)) (fun _ hk => hk.2) (.int .i64 (rd y209 t212))) (fun _ hk => hk.2) (.slice Ao119 x107002_1.length co119)) (fun _ hk => hk.2) (.slice none 0 0)) (fun _ hk => trivial), by first | exact Kd.R_nil _ _ _ _ _ | exact Kd.N_nil _ _ _ _ _ | exact Kd.V_nil _ _ _ _ _ | exact Kd.Q_nil _ _ _ _ _ | exact Kd.S_nil _ _ _ _ _, iX63_6_spec_l01Src_l07Topic HI0.out, bI63_0_spec_l01Src_l07Topic HB.out, hX HK.out⟩
      rw [if_neg c115] at H
      exact absurd H (by simp)
     rw [if_neg c114] at H
     exact absurd H (by simp)
    rw [if_neg c112] at H
    have c112b0 : (t205 == 0) = false := beq_eq_false_iff_ne.mpr c112
    have c112b1 : (t205 != 0) = true := bne_iff_ne.mpr c112
    by_cases c132 : t205 = 1
    ·
     rw [if_pos c132] at H
     have c132b0 : (t205 == 1) = true := beq_iff_eq.mpr c132
     have c132b1 : (t205 != 1) = false := bne_eq_false_iff_eq.mpr c132
     clear c132
     replace H := Option.bind_eq_some_iff.mp H
     obtain ⟨⟨t217, t218, t219, t220⟩, A1330, H⟩ := H
     try dsimp only at H
     have A133 := AM A1330
     clear A1330
     by_cases c134 : x107003_1.length < 5864062014805
     ·
      rw [if_pos c134] at H
      have LMc134 := AM c134
      clear c134
      obtain ⟨y221, hy221⟩ : ∃ y_ : List (S36), y_ = (x107003_1 ++ [(⟨(⟨#[122, 122]⟩ : ByteArray), wrap64 ((wrap64 (x107001_1 + t217)) - 1)⟩ : S36)]) := ⟨_, rfl⟩
      replace H : (some (x107000_1, x107001_1, x107002_1, y221, t218, t219, t220)) = some (r1, r2, r3, r4, r5, r6, r7) := by first | (rw [hy221]; with_reducible exact H) | (have H2_ := (Option.bind_some _ _).symm.trans H; rw [hy221]; with_reducible exact H2_) | (have H2_ := (Option.bind_some _ _).symm.trans H; with_reducible exact H2_) | with_reducible exact H | (rw [hy221]; exact H) | exact H
      have Ny221 := AM hy221
      clear hy221
      simp only [Option.some.injEq, Prod.mk.injEq] at H
      obtain ⟨rfl, rfl, rfl, rfl, rfl, rfl, rfl⟩ := H
      try go_wp2_with (first | ((with_reducible refine gate_callee (f := 32) rfl ?_); refine goesL_ (some 58) rfl rfl Try.func32 (by kernel_rfl) rfl #[.pointer (some ⟨g, 0, none⟩), .int .i64 15] rfl (by (try simp only [mA, mB, mC]); first | done | rfl | (simp only [mD, mE]; rfl)) ?_; (with_reducible refine (spec_l01Src_one.calls g s0_0 x1001_1 x1002_1 x1003_1 15 true t202 t203 t204 w0 _ ?side1 ?side2 A109.out).mono ?_); (case side1 => exact (iX63_6_spec_l01Src_l07Topic HI0.out)); (case side2 => exact (bI63_0_spec_l01Src_l07Topic HB.out)); rintro e w135 ⟨rfl, hi, hb, hk⟩; refine ⟨_, rfl, ?_⟩; have _ := AM (Kd.Q_mono (Kd.Q_keep (IsS63.apartQ (show IsS63 w0 _ g s0_0 x1001_1 x1002_1 x1003_1 from iX63_6_spec_l01Src_l07Topic HI0.out) (qX HO_107002.out) (by decide)) hk (fun _ h => h.2)) (fun _ h => h.1)); have _ := AM (Kd.R_mono (Kd.R_keep (IsS63.apart (show IsS63 w0 _ g s0_0 x1001_1 x1002_1 x1003_1 from iX63_6_spec_l01Src_l07Topic HI0.out) (rX HO_107003.out) (by decide)) hk (fun _ h => h.2)) (fun _ h => h.1)); have _ := AM (kB hk BK101.out NB101_0.out (by simp)); have _ := AM (kB hk BK106.out NB106_0.out (by simp)); have _ := AM (KeepBut.trans (hX HK.out) hk (.inl rfl)); have _ := AM (hb); have _ := AM (hi); clear HO_107002 HO_107003 BK101 BK106 HK HB HI0; rename_i HO_107002 HO_107003 BK101 BK106 HK HB HI0; (try clear hb); (try clear hb2); (try clear hk); (try clear hi)) | ((with_reducible refine gate_callee (f := 21) rfl ?_); refine goesL_ (some 60) rfl rfl Try.func21 (by kernel_rfl) rfl #[.pointer (some ⟨g, 0, none⟩), .int .i64 4] rfl (by (try simp only [mA, mB, mC]); first | done | rfl | (simp only [mD, mE]; rfl)) ?_; (with_reducible refine (spec_l01Src_n.calls g s0_0 t202 t203 t204 4 t205 t206 t207 t208 w0 _ ?side1 ?side2 A111.out).mono ?_); (case side1 => exact (iX63_6_spec_l01Src_l07Topic HI0.out)); (case side2 => exact (bI63_0_spec_l01Src_l07Topic HB.out)); rintro e w136 ⟨rfl, hi, hb, hk⟩; refine ⟨_, rfl, ?_⟩; have _ := AM (Kd.Q_mono (Kd.Q_keep (IsS63.apartQ (show IsS63 w0 _ g s0_0 t202 t203 t204 from iX63_6_spec_l01Src_l07Topic HI0.out) (qX HO_107002.out) (by decide)) hk (fun _ h => h.2)) (fun _ h => h.1)); have _ := AM (Kd.R_mono (Kd.R_keep (IsS63.apart (show IsS63 w0 _ g s0_0 t202 t203 t204 from iX63_6_spec_l01Src_l07Topic HI0.out) (rX HO_107003.out) (by decide)) hk (fun _ h => h.2)) (fun _ h => h.1)); have _ := AM (kB hk BK101.out NB101_0.out (by simp)); have _ := AM (kB hk BK106.out NB106_0.out (by simp)); have _ := AM (KeepBut.trans (hX HK.out) hk (.inl rfl)); have _ := AM (hb); have _ := AM (hi); clear HO_107002 HO_107003 BK101 BK106 HK HB HI0; rename_i HO_107002 HO_107003 BK101 BK106 HK HB HI0; (try clear hb); (try clear hb2); (try clear hk); (try clear hi)))
      have _ := AM (Kd.Q_drew HO_107002.out)
      have _ := AM (rD HO_107003.out)
      have _ := AM (kD BK101.out)
      have _ := AM (kD BK106.out)
      have _ := AM (IsS63.drew HI0.out)
      have _ := AM (keep_drew HK.out)
      have _ := AM (bD HB.out)
      clear HO_107002 HO_107003 BK101 BK106 HI0 HK HB
      rename_i HO_107002 HO_107003 BK101 BK106 HI0 HK HB
      refine start_ (n := 13) (S := fun w' => w'.cell? ⟨gb106, 0, none⟩ = some (.string x107000_1) ∧ w'.cell? ⟨gb106, 1, none⟩ = some (.int .i64 x107001_1) ∧ w'.cell? ⟨gb106, 2, none⟩ = some (u107002) ∧ w'.cell? ⟨gb106, 3, none⟩ = some (u107003)) (ds := [12]) (upTo 0 13) (by kernel_rfl) rfl rfl (q4 BK106.out) (fun hHeld => ?_); refine with_tabW spec_l01Src_l07Topic.tab22 spec_l01Src_l07Topic.bits22 (fun HT_ HW_ => ?_)
      generalize w136.drew = w137 at HO_107002 HO_107003 BK101 BK106 HI0 HK HB hHeld ⊢
      refine pF 0 1 13 81 ?_
      refine pF2 2 83 spec_l01Src_l07Topic.b11 ?_
      refine pF2 4 85 spec_l01Src_l07Topic.b12 ?_
      refine pT2 1 82 spec_l01Src_l07Topic.b13 ?_ hHeld
      refine pT2 3 84 (upTo 5 13) ?_ hHeld
      refine one_ (i := 5) (N := some 86) (upTo 6 13) rfl rfl (one_of HT_.out (by kernel_rfl)) (by decide) (fun K hK => ?_)
      refine goes_ Try.func21 (by kernel_rfl) rfl #[.pointer (some ⟨g, 0, none⟩), .int .i64 30] (by rfl) rfl rfl (by (try simp only [mA, mB, mC]); first | done | rfl | (simp only [mD, mE]; rfl)) ?_
      with_reducible refine (spec_l01Src_n.calls g s0_0 t206 t207 t208 30 t217 t218 t219 t220 w0 _ ?side1 ?side2 A133.out).mono ?_
      (case side1 => exact (iX63_6_spec_l01Src_l07Topic HI0.out))
      (case side2 => exact (bI63_0_spec_l01Src_l07Topic HB.out))
      rintro e w138 ⟨rfl, hi, hb, hk⟩
      refine ⟨_, rfl, ?_⟩
      have _ := AM (Kd.Q_mono (Kd.Q_keep (IsS63.apartQ (show IsS63 w0 _ g s0_0 t206 t207 t208 from iX63_6_spec_l01Src_l07Topic HI0.out) (qX HO_107002.out) (by decide)) hk (fun _ h => h.2)) (fun _ h => h.1))
      have _ := AM (Kd.R_mono (Kd.R_keep (IsS63.apart (show IsS63 w0 _ g s0_0 t206 t207 t208 from iX63_6_spec_l01Src_l07Topic HI0.out) (rX HO_107003.out) (by decide)) hk (fun _ h => h.2)) (fun _ h => h.1))
      have _ := AM (kB hk BK101.out NB101_0.out (by simp))
      have _ := AM (kB hk BK106.out NB106_0.out (by simp))
      have _ := AM (KeepBut.trans (hX HK.out) hk (.inl rfl))
      have _ := AM (hb)
      have _ := AM (hi)
      clear HO_107002 HO_107003 BK101 BK106 HK HB HI0
      rename_i HO_107002 HO_107003 BK101 BK106 HK HB HI0
      (try clear hb)
      (try clear hb2)
      (try clear hk)
      (try clear hi)
      refine hK.out _ _ (q4 BK106.out) (fun hHeld => ?_)
      clear hK K
      refine norm_ (a' := ?_) ?_ ?_
      rotate_left
      ·
       show Act.put _ (some 86) _ = _
       simp only [Act.put, sA, sB, sC, i64_w, i32_w]
       rfl
      refine pF 6 7 13 87 ?_
      refine pF 7 8 13 88 ?_
      refine pF 8 9 13 89 ?_
      refine one_ (i := 9) (N := some 90) (upTo 10 13) rfl rfl (one_of HT_.out (by kernel_rfl)) (by decide) (fun K hK => ?_)
      refine value_ (w1 := ?_) (v := ?_) (by rfl) rfl ?_ ?_
      rotate_left 2
      ·
       go_simp
       constructor
       ·
        rfl
       rfl
      refine hK.out _ _ ⟨(kC (kA BK106.out _) 0).trans rfl, (kC (kA BK106.out _) 1).trans rfl, (kC (kA BK106.out _) 2).trans rfl, (kC (kA BK106.out _) 3).trans rfl⟩ (fun hHeld => ?_)
      clear hK K
      refine norm_ (a' := ?_) ?_ ?_
      rotate_left
      ·
       show Act.put _ (some 90) _ = _
       simp only [Act.put, sA, sB, sC, i64_w, i32_w]
       rfl
      refine one_ (i := 10) (N := some 91) (upTo 11 13) rfl rfl (one_of HT_.out (by kernel_rfl)) (by decide) (fun K hK => ?_)
      refine Kd.R_append_step k36 w.heap.size (by rfl) (.tmp 82) (.tmp 90) 24 36 (.agg #[(.string ⟨#[]⟩), (.int .i64 0)]) 24 rfl Try.underlying24 info36 rfl (by decide) (by omega) u107003 x107003_1 (⟨(⟨#[122, 122]⟩ : ByteArray), wrap64 ((wrap64 (x107001_1 + t217)) - 1)⟩ : S36) [.string (⟨#[122, 122]⟩ : ByteArray), .int .i64 (wrap64 ((wrap64 (x107001_1 + t217)) - 1))] (fun _ => True) (fun _ => False) rfl rfl ?aP (fun _ hk => hk.elim) ?aF ?aO (Below.refl _ _) ?aS ?aL ?_
      (case aP => exact k36_mkM _ _ _ (⟨(⟨#[122, 122]⟩ : ByteArray), wrap64 ((wrap64 (x107001_1 + t217)) - 1)⟩ : S36))
      (case aF => exact (fun _ _ => trivial))
      (case aO => exact (rX HO_107003.out))
      (case aS => exact (keep_size (w := w) (g := g) (row := none) (hX HK.out)))
      (case aL => have := LMc134.out; omega)
      intro v222 w139 ho hb hg hat
      rw [← Ny221.out] at ho
      have _ := AM (Kd.Q_over' (qX HO_107002.out) (Kd.R_typed (rX HO_107003.out)) (by decide) hg)
      have _ := AM (blk_grown (g := gb101) (o := .cells #[.string (⟨#[]⟩ : ByteArray), .int .i64 0, .slice none 0 0, .slice none 0 0] 26 (0, 0)) (kX BK101.out) hg (Kd.R_ne HO_107003.out BK101.out (by decide)))
      have _ := AM (blk_grown (g := gb106) (o := .cells #[.string x107000_1, .int .i64 x107001_1, u107002, u107003] 26 (0, 0)) (kX BK106.out) hg (Kd.R_ne HO_107003.out BK106.out (by decide)))
      have _ := AM (IsS63.grown (iX63_6_spec_l01Src_l07Topic HI0.out) hg (IsS63.own_ne HI0.out HO_107003.out (by decide)))
      have _ := AM (below_weaken (bI63_0_spec_l01Src_l07Topic HB.out) HL.out hb)
      have _ := AM (KeepBut.trans (hX HK.out) (KeepBut.of_grown hg g) (Kd.R_base2 HO_107003.out))
      have _ := AM (ho)
      clear HO_107002 BK101 BK106 HI0 HB HK HO_107003
      rename_i HO_107002 BK101 BK106 HI0 HB HK HO223
      clear ho hb hg hat
      obtain ⟨Ao140, co140, eo140⟩ := Kd.R_slice HO223.out
      (first | subst eo140 | (injection eo140 with f1_ f2_ f3_; have f4_ := f1_.symm; have f5_ := f3_.symm; clear f1_ f2_ f3_; subst f4_; subst f5_))
      refine hK.out _ _ (q4 BK106.out) (fun hHeld => ?_)
      clear hK K
      refine norm_ (a' := ?_) ?_ ?_
      rotate_left
      ·
       show Act.put _ (some 91) _ = _
       simp only [Act.put, sA, sB, sC, i64_w, i32_w]
       rfl
      refine pF 11 12 13 92 ?_
      refine last_ (i := 12) (N := none) (upTo 13 13) rfl rfl (one_of HT_.out (by kernel_rfl)) (by decide) (fun K hK => ?_)
      have hs141 : w139.cell? ⟨gb106, 3, none⟩ = some (u107003) := (kC BK106.out 3).trans rfl
      have hfs141 := fZ BK106.out 3
      have hns141_0 := NB101_106.out
      have hms141_0 := NB106_101.out
      refine skip_ (w1 := ?_) (by rfl) rfl ?_ ?_
      rotate_left
      ·
       go_simp
       rfl
      refine hK.out _ _ ?_
      clear hK K
      refine done_ (done_of HT_.out (by kernel_rfl)) ?_
      have hnb142 := NB106_101.out
      have hnc142 := NB101_106.out
      have hnb143 := NB106_0.out
      have hnc143 := NB0_106.out
      have hcz144 := q4 BK106.out
      have hfz144 := fZ BK106.out
      have hnb145 := NB101_0.out
      have hnc145 := NB0_101.out
      have hcz146 := q4 BK101.out
      have hfz146 := fZ BK101.out
      obtain ⟨Ao147, co147, eo147, _⟩ := Kd.Q_slice HO_107002.out
      subst eo147
      try go_wp2
      refine bodyPost_ret (results_cell_row rfl _ _ gb101 26 #[.string x107000_1, .int .i64 x107001_1, .slice Ao147 x107002_1.length co147, .slice Ao140 y221.length co140] (0, 0) _ rfl (by refine kP (cs := #[.string x107000_1, .int .i64 x107001_1, .slice Ao147 x107002_1.length co147, .slice none 0 0]) 3 ?_; refine kP (cs := #[.string x107000_1, .int .i64 x107001_1, .slice none 0 0, .slice none 0 0]) 2 ?_; refine kP (cs := #[.string x107000_1, .int .i64 0, .slice none 0 0, .slice none 0 0]) 1 ?_; refine kP (cs := #[.string (⟨#[]⟩ : ByteArray), .int .i64 0, .slice none 0 0, .slice none 0 0]) 0 ?_; refine kF NB101_106.out ?_; (with_reducible repeat (first | apply kN | apply kD | apply kA)); exact BK101.out) Try.underlying26 rfl (by kernel_rfl)) rfl ?_
      exact ⟨_, _, by first | rfl | (simp [*, errW_none, errW_some] <;> rfl), by (with_reducible repeat (first | apply Kd.Q_alloc | apply Kd.Q_drewN | apply Kd.Q_drew)); exact Kd.Q_mono (Kd.Q_far (p := ⟨gb101, 3, none⟩) (Kd.Q_far (p := ⟨gb101, 2, none⟩) (Kd.Q_far (p := ⟨gb101, 1, none⟩) (Kd.Q_far (p := ⟨gb101, 0, none⟩) (Kd.Q_far (p := ⟨gb106, 3, none⟩) (Kd.Q_types (Kd.Q_types HO_107002.out BK106.out (by decide)) BK101.out (by decide)) (fun _ hk => hk.1.2) (.slice Ao140 y221.length co140)) (fun _ hk => hk.2) (.string x107000_1)) (fun _ hk => hk.2) (.int .i64 x107001_1)) (fun _ hk => hk.2) (.slice Ao147 x107002_1.length co147)) (fun _ hk => hk.2) (.slice Ao140 y221.length co140)) (fun _ hk => trivial), by (with_reducible repeat (first | apply rA | apply rN | apply rD)); exact Kd.R_mono (Kd.R_far (p := ⟨gb101, 3, none⟩) (Kd.R_far (p := ⟨gb101, 2, none⟩) (Kd.R_far (p := ⟨gb101, 1, none⟩) (Kd.R_far (p := ⟨gb101, 0, none⟩) (Kd.R_far (p := ⟨gb106, 3, none⟩) (Kd.R_types (Kd.R_types HO223.out BK106.out (by decide)) BK101.out (by decide)) (fun _ hk => hk.1.2) (.slice Ao140 y221.length co140)) (fun _ hk => hk.2) (.string x107000_1)) (fun _ hk => hk.2) (.int .i64 x107001_1)) (fun _ hk => hk.2) (.slice Ao147 x107002_1.length co147)) (fun _ hk => hk.2) (.slice Ao140 y221.length co140)) (fun _ hk => trivial), iX63_6_spec_l01Src_l07Topic HI0.out, bI63_0_spec_l01Src_l07Topic HB.out, hX HK.out⟩
     rw [if_neg c134] at H
     exact absurd H (by simp)
    rw [if_neg c132] at H
    have c132b0 : (t205 == 1) = false := beq_eq_false_iff_ne.mpr c132
    have c132b1 : (t205 != 1) = true := bne_iff_ne.mpr c132
    by_cases c148 : t205 = 2
    ·
     rw [if_pos c148] at H
     have c148b0 : (t205 == 2) = true := beq_iff_eq.mpr c148
     have c148b1 : (t205 != 2) = false := bne_eq_false_iff_eq.mpr c148
     clear c148
     have H' := AM H
     clear H
     go_wp2_with (first | ((with_reducible refine gate_callee (f := 32) rfl ?_); refine goesL_ (some 58) rfl rfl Try.func32 (by kernel_rfl) rfl #[.pointer (some ⟨g, 0, none⟩), .int .i64 15] rfl (by (try simp only [mA, mB, mC]); first | done | rfl | (simp only [mD, mE]; rfl)) ?_; (with_reducible refine (spec_l01Src_one.calls g s0_0 x1001_1 x1002_1 x1003_1 15 true t202 t203 t204 w0 _ ?side1 ?side2 A109.out).mono ?_); (case side1 => exact (iX63_6_spec_l01Src_l07Topic HI0.out)); (case side2 => exact (bI63_0_spec_l01Src_l07Topic HB.out)); rintro e w149 ⟨rfl, hi, hb, hk⟩; refine ⟨_, rfl, ?_⟩; have _ := AM (Kd.Q_mono (Kd.Q_keep (IsS63.apartQ (show IsS63 w0 _ g s0_0 x1001_1 x1002_1 x1003_1 from iX63_6_spec_l01Src_l07Topic HI0.out) (qX HO_107002.out) (by decide)) hk (fun _ h => h.2)) (fun _ h => h.1)); have _ := AM (Kd.R_mono (Kd.R_keep (IsS63.apart (show IsS63 w0 _ g s0_0 x1001_1 x1002_1 x1003_1 from iX63_6_spec_l01Src_l07Topic HI0.out) (rX HO_107003.out) (by decide)) hk (fun _ h => h.2)) (fun _ h => h.1)); have _ := AM (kB hk BK101.out NB101_0.out (by simp)); have _ := AM (kB hk BK106.out NB106_0.out (by simp)); have _ := AM (KeepBut.trans (hX HK.out) hk (.inl rfl)); have _ := AM (hb); have _ := AM (hi); clear HO_107002 HO_107003 BK101 BK106 HK HB HI0; rename_i HO_107002 HO_107003 BK101 BK106 HK HB HI0; (try clear hb); (try clear hb2); (try clear hk); (try clear hi)) | ((with_reducible refine gate_callee (f := 21) rfl ?_); refine goesL_ (some 60) rfl rfl Try.func21 (by kernel_rfl) rfl #[.pointer (some ⟨g, 0, none⟩), .int .i64 4] rfl (by (try simp only [mA, mB, mC]); first | done | rfl | (simp only [mD, mE]; rfl)) ?_; (with_reducible refine (spec_l01Src_n.calls g s0_0 t202 t203 t204 4 t205 t206 t207 t208 w0 _ ?side1 ?side2 A111.out).mono ?_); (case side1 => exact (iX63_6_spec_l01Src_l07Topic HI0.out)); (case side2 => exact (bI63_0_spec_l01Src_l07Topic HB.out)); rintro e w150 ⟨rfl, hi, hb, hk⟩; refine ⟨_, rfl, ?_⟩; have _ := AM (Kd.Q_mono (Kd.Q_keep (IsS63.apartQ (show IsS63 w0 _ g s0_0 t202 t203 t204 from iX63_6_spec_l01Src_l07Topic HI0.out) (qX HO_107002.out) (by decide)) hk (fun _ h => h.2)) (fun _ h => h.1)); have _ := AM (Kd.R_mono (Kd.R_keep (IsS63.apart (show IsS63 w0 _ g s0_0 t202 t203 t204 from iX63_6_spec_l01Src_l07Topic HI0.out) (rX HO_107003.out) (by decide)) hk (fun _ h => h.2)) (fun _ h => h.1)); have _ := AM (kB hk BK101.out NB101_0.out (by simp)); have _ := AM (kB hk BK106.out NB106_0.out (by simp)); have _ := AM (KeepBut.trans (hX HK.out) hk (.inl rfl)); have _ := AM (hb); have _ := AM (hi); clear HO_107002 HO_107003 BK101 BK106 HK HB HI0; rename_i HO_107002 HO_107003 BK101 BK106 HK HB HI0; (try clear hb); (try clear hb2); (try clear hk); (try clear hi)))
     go_loopg [] k1 (fun kq w' => ∃ (x1001_2 : Int) (x1002_2 : Int) (x1003_2 : Int) (x107002_2 : List ByteArray) (u107002 : Value), Aside0 (spec_l01Src_l07Topic.l1 kq s0_0 x1001_2 x1002_2 x1003_2 x107000_1 x107001_1 x107002_2 x107003_1 = some (r1, r2, r3, r4, r5, r6, r7)) ∧ Aside0 (kq ≤ k1) ∧ Aside0 (Kd.Q Kd.string 9 w' w.heap.size (fun _ => True) u107002 x107002_2) ∧ Aside0 (Kd.R k36 36 w' w.heap.size (fun _ => True) u107003 x107003_1) ∧ Aside0 (w'.heap[gb101]? = some (.cells #[.string (⟨#[]⟩ : ByteArray), .int .i64 0, (.slice none 0 0), (.slice none 0 0)] 26 (0, 0))) ∧ Aside0 (w'.heap[gb106]? = some (.cells #[.string x107000_1, .int .i64 x107001_1, u107002, u107003] 26 (0, 0))) ∧ Aside0 (IsS63 w0 w' g s0_0 x1001_2 x1002_2 x1003_2) ∧ Aside0 (KeepBut w w' g none) ∧ Aside0 (Below w0.heap.size w0 w'))
     case atStart => exact ⟨(t206), (t207), (t208), (x107002_1), (u107002), H', ⟨Nat.le_refl _⟩, ⟨qX HO_107002.out⟩, ⟨rX HO_107003.out⟩, ⟨kX BK101.out⟩, ⟨kX BK106.out⟩, ⟨iX63_6_spec_l01Src_l07Topic HI0.out⟩, ⟨hX HK.out⟩, ⟨bI63_0_spec_l01Src_l07Topic HB.out⟩⟩
     case round =>
      clear H'
      (try clear c1); (try clear c2); (try clear p2); (try clear q2); (try clear hx2); (try clear c3); (try clear p6); (try clear c11); (try clear c12); (try clear c13); (try clear c14); (try clear c21); (try clear p21); (try clear q21); (try clear hx21); (try clear c32); (try clear p64); (try clear c112); (try clear c112b0); (try clear c112b1); (try clear c114); (try clear c115); (try clear c127); (try clear c128); (try clear c130); (try clear c132); (try clear c132b0); (try clear c132b1); (try clear c134); (try clear c142); (try clear c143); (try clear c145); (try clear c148); (try clear c148b0); (try clear c148b1); (try clear hcz129); (try clear hcz131); (try clear hcz144); (try clear hcz146); (try clear hfz129); (try clear hfz131); (try clear hfz144); (try clear hfz146); (try clear hx216_0); (try clear p216); (try clear q216)
      obtain ⟨x1001_2, x1002_2, x1003_2, x107002_2, u107002, HA, HK2, HO_107002, HO_107003, BK101, BK106, HI0, HK, HB⟩ := hrel
      cases gk with
      | zero => exact absurd HA.out (by simp [spec_l01Src_l07Topic.l1])
      | succ k2 =>
       have H := HA.out
       clear HA
       simp only [spec_l01Src_l07Topic.l1] at H
       replace H := Option.bind_eq_some_iff.mp H
       obtain ⟨⟨t224, t225, t226, t227⟩, A1510, H⟩ := H
       try dsimp only at H
       have A151 := AM A1510
       clear A1510
       by_cases c152 : (x107002_2.length : Int) < (wrap64 (19 + t224))
       ·
        rw [if_pos c152] at H
        have c152b0 : decide ((x107002_2.length : Int) < (wrap64 (19 + t224))) = true := decide_eq_true c152
        clear c152
        by_cases c153 : x107002_2.length < 8796093022208
        ·
         rw [if_pos c153] at H
         have LMc153 := AM c153
         clear c153
         obtain ⟨y228, hy228⟩ : ∃ y_ : List ByteArray, y_ = (x107002_2 ++ [(⟨#[104]⟩ : ByteArray)]) := ⟨_, rfl⟩
         replace H : (spec_l01Src_l07Topic.l1 k2 s0_0 t225 t226 t227 x107000_1 x107001_1 y228 x107003_1) = some (r1, r2, r3, r4, r5, r6, r7) := by first | (rw [hy228]; with_reducible exact H) | (have H2_ := (Option.bind_some _ _).symm.trans H; rw [hy228]; with_reducible exact H2_) | (have H2_ := (Option.bind_some _ _).symm.trans H; with_reducible exact H2_) | with_reducible exact H | (rw [hy228]; exact H) | exact H
         have Ny228 := AM hy228
         clear hy228
         have H' := AM H
         clear H
         try go_wp2
         have _ := AM (Kd.Q_drew HO_107002.out)
         have _ := AM (rD HO_107003.out)
         have _ := AM (kD BK101.out)
         have _ := AM (kD BK106.out)
         have _ := AM (IsS63.drew HI0.out)
         have _ := AM (keep_drew HK.out)
         have _ := AM (bD HB.out)
         clear HO_107002 HO_107003 BK101 BK106 HI0 HK HB
         rename_i HO_107002 HO_107003 BK101 BK106 HI0 HK HB
         obtain ⟨Ao155, co155, eo155, _⟩ := Kd.Q_slice HO_107002.out
         (first | subst eo155 | (injection eo155 with f1_ f2_ f3_; have f4_ := f1_.symm; have f5_ := f3_.symm; clear f1_ f2_ f3_; subst f4_; subst f5_))
         refine start_ (n := 7) (S := fun w' => w'.cell? ⟨gb106, 0, none⟩ = some (.string x107000_1) ∧ w'.cell? ⟨gb106, 1, none⟩ = some (.int .i64 x107001_1) ∧ w'.cell? ⟨gb106, 2, none⟩ = some (.slice Ao155 x107002_2.length co155) ∧ w'.cell? ⟨gb106, 3, none⟩ = some (u107003)) (ds := []) (upTo 0 7) (by kernel_rfl) rfl rfl (q4 BK106.out) (fun hHeld => ?_)
         generalize wr.drew = w154 at HO_107002 HO_107003 BK101 BK106 HI0 HK HB hHeld ⊢
         refine pure_ (i := 0) (N := some 95) (v := ?_) (a' := ?_) (upTo 1 7) rfl rfl (by kernel_rfl) (fun _ _ _ h => h) (Or.inl ⟨by rfl, ?_⟩) ?_ ?_
         rotate_left
         ·
          intro w'
          go_simp
          with_reducible rfl
         rotate_left
         ·
          simp only [Act.put, sA, sB, sC, i64_w, i32_w]
          rfl
         refine pure_ (i := 3) (N := some 98) (v := ?_) (a' := ?_) #[true, false, false, true, false, false, false] rfl rfl (by kernel_rfl) (fun _ _ _ h => h) (Or.inl ⟨by rfl, ?_⟩) ?_ ?_
         rotate_left
         ·
          intro w'
          go_simp
          with_reducible rfl
         rotate_left
         ·
          simp only [Act.put, sA, sB, sC, i64_w, i32_w]
          rfl
         refine take_ (i := 1) (N := some 96) (v := ?_) (a' := ?_) #[true, true, false, true, false, false, false] rfl rfl (by kernel_rfl) (fun _ _ _ h => h) (Or.inl ⟨by rfl, ?_⟩) hHeld ?_ ?_
         rotate_left; (focus (rintro w' ⟨s0, s1, s2, s3⟩; go_simp; with_reducible rfl))
         rotate_left; (focus (simp only [Act.put, sA, sB, sC, i64_w, i32_w]; rfl))
         refine pure_ (i := 2) (N := some 97) (v := ?_) (a' := ?_) (upTo 4 7) rfl rfl (by kernel_rfl) (fun _ _ _ h => h) (Or.inl ⟨by rfl, ?_⟩) ?_ ?_
         rotate_left
         ·
          intro w'
          go_simp
          with_reducible rfl
         rotate_left
         ·
          simp only [Act.put, sA, sB, sC, i64_w, i32_w]
          rfl
         refine one_ (i := 4) (N := some 99) (upTo 5 7) rfl rfl (by kernel_rfl) (by decide) (fun K hK => ?_)
         refine goes_ Try.func21 (by kernel_rfl) rfl #[.pointer (some ⟨g, 0, none⟩), .int .i64 3] (by rfl) rfl rfl (by (try simp only [mA, mB, mC]); first | done | rfl | (simp only [mD, mE]; rfl)) ?_
         with_reducible refine (spec_l01Src_n.calls g s0_0 x1001_2 x1002_2 x1003_2 3 t224 t225 t226 t227 w0 _ ?side1 ?side2 A151.out).mono ?_
         (case side1 => exact (iX63_6_spec_l01Src_l07Topic HI0.out))
         (case side2 => exact (bI63_0_spec_l01Src_l07Topic HB.out))
         rintro e w156 ⟨rfl, hi, hb, hk⟩
         refine ⟨_, rfl, ?_⟩
         have _ := AM (Kd.Q_mono (Kd.Q_keep (IsS63.apartQ (show IsS63 w0 _ g s0_0 x1001_2 x1002_2 x1003_2 from iX63_6_spec_l01Src_l07Topic HI0.out) (qX HO_107002.out) (by decide)) hk (fun _ h => h.2)) (fun _ h => h.1))
         have _ := AM (Kd.R_mono (Kd.R_keep (IsS63.apart (show IsS63 w0 _ g s0_0 x1001_2 x1002_2 x1003_2 from iX63_6_spec_l01Src_l07Topic HI0.out) (rX HO_107003.out) (by decide)) hk (fun _ h => h.2)) (fun _ h => h.1))
         have _ := AM (kB hk BK101.out NB101_0.out (by simp))
         have _ := AM (kB hk BK106.out NB106_0.out (by simp))
         have _ := AM (KeepBut.trans (hX HK.out) hk (.inl rfl))
         have _ := AM (hb)
         have _ := AM (hi)
         clear HO_107002 HO_107003 BK101 BK106 HK HB HI0
         rename_i HO_107002 HO_107003 BK101 BK106 HK HB HI0
         (try clear hb)
         (try clear hb2)
         (try clear hk)
         (try clear hi)
         refine hK.out _ _ (q4 BK106.out) (fun hHeld => ?_)
         clear hK K
         refine norm_ (a' := ?_) ?_ ?_
         rotate_left
         ·
          show Act.put _ (some 99) _ = _
          simp only [Act.put, sA, sB, sC, i64_w, i32_w]
          rfl
         refine pure_ (i := 5) (N := some 100) (v := ?_) (a' := ?_) (upTo 6 7) rfl rfl (by kernel_rfl) (fun _ _ _ h => h) (Or.inl ⟨by rfl, ?_⟩) ?_ ?_
         rotate_left
         ·
          intro w'
          go_simp
          with_reducible rfl
         rotate_left
         ·
          simp only [Act.put, sA, sB, sC, i64_w, i32_w]
          rfl
         refine pure_ (i := 6) (N := some 101) (v := ?_) (a' := ?_) (upTo 7 7) rfl rfl (by kernel_rfl) (fun _ _ _ h => h) (Or.inl ⟨by rfl, ?_⟩) ?_ ?_
         rotate_left
         ·
          intro w'
          go_simp
          with_reducible rfl
         rotate_left
         ·
          simp only [Act.put, sA, sB, sC, i64_w, i32_w]
          rfl
         refine done_ (by kernel_rfl) ?_
         have hnb157 := NB106_101.out
         have hnc157 := NB101_106.out
         have hnb158 := NB106_0.out
         have hnc158 := NB0_106.out
         have hcz159 := q4 BK106.out
         have hfz159 := fZ BK106.out
         try go_wp2_with (first | ((with_reducible refine gate_builtin (b := .append) (xs := #[.tmp 103, .tmp 104]) rfl ?_); at_builtin; refine Kd.Q_append Kd.string w.heap.size rfl (.tmp 103) (.tmp 104) 23 9 (.string ⟨#[]⟩) 16 rfl Try.underlying23 info9 rfl (by decide) (by omega) (.slice Ao155 x107002_2.length co155) x107002_2 (⟨#[104]⟩ : ByteArray) [.string (⟨#[104]⟩ : ByteArray)] (fun _ => True) (fun _ => False) rfl rfl ?aP (fun _ hk => hk.elim) ?aF ?aO (Below.refl _ _) ?aS ?aL ?_; (case aP => exact rfl); (case aF => exact (fun _ _ => trivial)); (case aO => exact (qX HO_107002.out)); (case aS => exact (keep_size (w := w) (g := g) (row := none) (hX HK.out))); (case aL => have := LMc153.out; omega); intro v229 w160 ho hb hg hat; rw [← Ny228.out] at ho; have _ := AM (Kd.R_over' (rX HO_107003.out) (Kd.Q_typed (qX HO_107002.out)) (by decide) hg); have _ := AM (blk_grown (g := gb101) (o := .cells #[.string (⟨#[]⟩ : ByteArray), .int .i64 0, .slice none 0 0, .slice none 0 0] 26 (0, 0)) (kX BK101.out) hg (Kd.Q_ne HO_107002.out BK101.out (by decide))); have _ := AM (blk_grown (g := gb106) (o := .cells #[.string x107000_1, .int .i64 x107001_1, .slice Ao155 x107002_2.length co155, u107003] 26 (0, 0)) (kX BK106.out) hg (Kd.Q_ne HO_107002.out BK106.out (by decide))); have _ := AM (IsS63.grown (iX63_6_spec_l01Src_l07Topic HI0.out) hg (IsS63.own_neQ HI0.out HO_107002.out (by decide))); have _ := AM (below_weaken (bI63_0_spec_l01Src_l07Topic HB.out) HL.out hb); have _ := AM (KeepBut.trans (hX HK.out) (KeepBut.of_grown hg g) (Kd.Q_base2 HO_107002.out)); have _ := AM (ho); clear HO_107003 BK101 BK106 HI0 HB HK HO_107002; rename_i HO_107003 BK101 BK106 HI0 HB HK HO230; clear ho hb hg hat; obtain ⟨Ao161, co161, eo161, _⟩ := Kd.Q_slice HO230.out; subst eo161; have hcz162 := q4 BK106.out; have hfz162 := fZ BK106.out))
         go_roundg k2
         case measure => have := HK1.out; have := HK2.out; omega
         case rel => exact ⟨(t225), (t226), (t227), (y228), (.slice Ao161 y228.length co161), H', ⟨by have := HK1.out; have := HK2.out; omega⟩, ⟨by (with_reducible repeat (first | apply Kd.Q_alloc | apply Kd.Q_drewN | apply Kd.Q_drew)); exact Kd.Q_mono (Kd.Q_far (p := ⟨gb106, 2, none⟩) (Kd.Q_types HO230.out BK106.out (by decide)) (fun _ hk => hk.2) (.slice Ao161 y228.length co161)) (fun _ hk => trivial)⟩, ⟨by (with_reducible repeat (first | apply rA | apply rN | apply rD)); exact Kd.R_mono (Kd.R_far (p := ⟨gb106, 2, none⟩) (Kd.R_types HO_107003.out BK106.out (by decide)) (fun _ hk => hk.2) (.slice Ao161 y228.length co161)) (fun _ hk => trivial)⟩, ⟨by refine kF NB101_106.out ?_; (with_reducible repeat (first | apply kN | apply kD | apply kA)); exact BK101.out⟩, ⟨by refine kP (cs := #[.string x107000_1, .int .i64 x107001_1, .slice Ao155 x107002_2.length co155, u107003]) 2 ?_; (with_reducible repeat (first | apply kN | apply kD | apply kA)); exact BK106.out⟩, ⟨iX63_6_spec_l01Src_l07Topic HI0.out⟩, ⟨hX HK.out⟩, ⟨bI63_0_spec_l01Src_l07Topic HB.out⟩⟩
        rw [if_neg c153] at H
        exact absurd H (by simp)
       rw [if_neg c152] at H
       have c152b0 : decide ((x107002_2.length : Int) < (wrap64 (19 + t224))) = false := decide_eq_false c152
       clear c152
       simp only [Option.some.injEq, Prod.mk.injEq] at H
       obtain ⟨rfl, rfl, rfl, rfl, rfl, rfl, rfl⟩ := H
       try go_wp2
       have _ := AM (Kd.Q_drew HO_107002.out)
       have _ := AM (rD HO_107003.out)
       have _ := AM (kD BK101.out)
       have _ := AM (kD BK106.out)
       have _ := AM (IsS63.drew HI0.out)
       have _ := AM (keep_drew HK.out)
       have _ := AM (bD HB.out)
       clear HO_107002 HO_107003 BK101 BK106 HI0 HK HB
       rename_i HO_107002 HO_107003 BK101 BK106 HI0 HK HB
       obtain ⟨Ao164, co164, eo164, _⟩ := Kd.Q_slice HO_107002.out
       (first | subst eo164 | (injection eo164 with f1_ f2_ f3_; have f4_ := f1_.symm; have f5_ := f3_.symm; clear f1_ f2_ f3_; subst f4_; subst f5_))
       refine start_ (n := 7) (S := fun w' => w'.cell? ⟨gb106, 0, none⟩ = some (.string x107000_1) ∧ w'.cell? ⟨gb106, 1, none⟩ = some (.int .i64 x107001_1) ∧ w'.cell? ⟨gb106, 2, none⟩ = some (.slice Ao164 x107002_2.length co164) ∧ w'.cell? ⟨gb106, 3, none⟩ = some (u107003)) (ds := []) (upTo 0 7) (by kernel_rfl) rfl rfl (q4 BK106.out) (fun hHeld => ?_)
       generalize wr.drew = w163 at HO_107002 HO_107003 BK101 BK106 HI0 HK HB hHeld ⊢
       refine pure_ (i := 0) (N := some 95) (v := ?_) (a' := ?_) (upTo 1 7) rfl rfl (by kernel_rfl) (fun _ _ _ h => h) (Or.inl ⟨by rfl, ?_⟩) ?_ ?_
       rotate_left
       ·
        intro w'
        go_simp
        with_reducible rfl
       rotate_left
       ·
        simp only [Act.put, sA, sB, sC, i64_w, i32_w]
        rfl
       refine pure_ (i := 3) (N := some 98) (v := ?_) (a' := ?_) #[true, false, false, true, false, false, false] rfl rfl (by kernel_rfl) (fun _ _ _ h => h) (Or.inl ⟨by rfl, ?_⟩) ?_ ?_
       rotate_left
       ·
        intro w'
        go_simp
        with_reducible rfl
       rotate_left
       ·
        simp only [Act.put, sA, sB, sC, i64_w, i32_w]
        rfl
       refine take_ (i := 1) (N := some 96) (v := ?_) (a' := ?_) #[true, true, false, true, false, false, false] rfl rfl (by kernel_rfl) (fun _ _ _ h => h) (Or.inl ⟨by rfl, ?_⟩) hHeld ?_ ?_
       rotate_left; (focus (rintro w' ⟨s0, s1, s2, s3⟩; go_simp; with_reducible rfl))
       rotate_left; (focus (simp only [Act.put, sA, sB, sC, i64_w, i32_w]; rfl))
       refine pure_ (i := 2) (N := some 97) (v := ?_) (a' := ?_) (upTo 4 7) rfl rfl (by kernel_rfl) (fun _ _ _ h => h) (Or.inl ⟨by rfl, ?_⟩) ?_ ?_
       rotate_left
       ·
        intro w'
        go_simp
        with_reducible rfl
       rotate_left
       ·
        simp only [Act.put, sA, sB, sC, i64_w, i32_w]
        rfl
       refine one_ (i := 4) (N := some 99) (upTo 5 7) rfl rfl (by kernel_rfl) (by decide) (fun K hK => ?_)
       refine goes_ Try.func21 (by kernel_rfl) rfl #[.pointer (some ⟨g, 0, none⟩), .int .i64 3] (by rfl) rfl rfl (by (try simp only [mA, mB, mC]); first | done | rfl | (simp only [mD, mE]; rfl)) ?_
       with_reducible refine (spec_l01Src_n.calls g s0_0 x1001_2 x1002_2 x1003_2 3 t224 t225 t226 t227 w0 _ ?side1 ?side2 A151.out).mono ?_
       (case side1 => exact (iX63_6_spec_l01Src_l07Topic HI0.out))
       (case side2 => exact (bI63_0_spec_l01Src_l07Topic HB.out))
       rintro e w165 ⟨rfl, hi, hb, hk⟩
       refine ⟨_, rfl, ?_⟩
       have _ := AM (Kd.Q_mono (Kd.Q_keep (IsS63.apartQ (show IsS63 w0 _ g s0_0 x1001_2 x1002_2 x1003_2 from iX63_6_spec_l01Src_l07Topic HI0.out) (qX HO_107002.out) (by decide)) hk (fun _ h => h.2)) (fun _ h => h.1))
       have _ := AM (Kd.R_mono (Kd.R_keep (IsS63.apart (show IsS63 w0 _ g s0_0 x1001_2 x1002_2 x1003_2 from iX63_6_spec_l01Src_l07Topic HI0.out) (rX HO_107003.out) (by decide)) hk (fun _ h => h.2)) (fun _ h => h.1))
       have _ := AM (kB hk BK101.out NB101_0.out (by simp))
       have _ := AM (kB hk BK106.out NB106_0.out (by simp))
       have _ := AM (KeepBut.trans (hX HK.out) hk (.inl rfl))
       have _ := AM (hb)
       have _ := AM (hi)
       clear HO_107002 HO_107003 BK101 BK106 HK HB HI0
       rename_i HO_107002 HO_107003 BK101 BK106 HK HB HI0
       (try clear hb)
       (try clear hb2)
       (try clear hk)
       (try clear hi)
       refine hK.out _ _ (q4 BK106.out) (fun hHeld => ?_)
       clear hK K
       refine norm_ (a' := ?_) ?_ ?_
       rotate_left
       ·
        show Act.put _ (some 99) _ = _
        simp only [Act.put, sA, sB, sC, i64_w, i32_w]
        rfl
       refine pure_ (i := 5) (N := some 100) (v := ?_) (a' := ?_) (upTo 6 7) rfl rfl (by kernel_rfl) (fun _ _ _ h => h) (Or.inl ⟨by rfl, ?_⟩) ?_ ?_
       rotate_left
       ·
        intro w'
        go_simp
        with_reducible rfl
       rotate_left
       ·
        simp only [Act.put, sA, sB, sC, i64_w, i32_w]
        rfl
       refine pure_ (i := 6) (N := some 101) (v := ?_) (a' := ?_) (upTo 7 7) rfl rfl (by kernel_rfl) (fun _ _ _ h => h) (Or.inl ⟨by rfl, ?_⟩) ?_ ?_
       rotate_left
       ·
        intro w'
        go_simp
        with_reducible rfl
       rotate_left
       ·
        simp only [Act.put, sA, sB, sC, i64_w, i32_w]
        rfl
       refine done_ (by kernel_rfl) ?_
       have hnb166 := NB106_101.out
       have hnc166 := NB101_106.out
       have hnb167 := NB106_0.out
       have hnc167 := NB0_106.out
       have hcz168 := q4 BK106.out
       have hfz168 := fZ BK106.out
       have hnb169 := NB101_0.out
       have hnc169 := NB0_101.out
       have hcz170 := q4 BK101.out
       have hfz170 := fZ BK101.out
       obtain ⟨Ao171, co171, eo171⟩ := Kd.R_slice HO_107003.out
       subst eo171
       try go_wp2
       refine bodyPost_ret (results_cell_row rfl _ _ gb101 26 #[.string x107000_1, .int .i64 x107001_1, .slice Ao164 x107002_2.length co164, .slice Ao171 x107003_1.length co171] (0, 0) _ rfl (by refine kP (cs := #[.string x107000_1, .int .i64 x107001_1, .slice Ao164 x107002_2.length co164, .slice none 0 0]) 3 ?_; refine kP (cs := #[.string x107000_1, .int .i64 x107001_1, .slice none 0 0, .slice none 0 0]) 2 ?_; refine kP (cs := #[.string x107000_1, .int .i64 0, .slice none 0 0, .slice none 0 0]) 1 ?_; refine kP (cs := #[.string (⟨#[]⟩ : ByteArray), .int .i64 0, .slice none 0 0, .slice none 0 0]) 0 ?_; (with_reducible repeat (first | apply kN | apply kD | apply kA)); exact BK101.out) Try.underlying26 rfl (by kernel_rfl)) rfl ?_
       exact ⟨_, _, by first | rfl | (simp [*, errW_none, errW_some] <;> rfl), by (with_reducible repeat (first | apply Kd.Q_alloc | apply Kd.Q_drewN | apply Kd.Q_drew)); exact Qf4 HO_107002.out BK101.out (by decide) (fun _ hk => trivial), by (with_reducible repeat (first | apply rA | apply rN | apply rD)); exact Rf4 HO_107003.out BK101.out (by decide) (fun _ hk => trivial), iX63_6_spec_l01Src_l07Topic HI0.out, bI63_0_spec_l01Src_l07Topic HB.out, hX HK.out⟩
    rw [if_neg c148] at H
    have c148b0 : (t205 == 2) = false := beq_eq_false_iff_ne.mpr c148
    have c148b1 : (t205 != 2) = true := bne_iff_ne.mpr c148
    by_cases c172 : x107002_1.length < 8796093022208
    ·
     rw [if_pos c172] at H
     have LMc172 := AM c172
     clear c172
     obtain ⟨y231, hy231⟩ : ∃ y_ : List ByteArray, y_ = (x107002_1 ++ [(⟨#[]⟩ : ByteArray)]) := ⟨_, rfl⟩
     replace H : (some (x107000_1, x107001_1, y231, x107003_1, t206, t207, t208)) = some (r1, r2, r3, r4, r5, r6, r7) := by first | (rw [hy231]; with_reducible exact H) | (have H2_ := (Option.bind_some _ _).symm.trans H; rw [hy231]; with_reducible exact H2_) | (have H2_ := (Option.bind_some _ _).symm.trans H; with_reducible exact H2_) | with_reducible exact H | (rw [hy231]; exact H) | exact H
     have Ny231 := AM hy231
     clear hy231
     simp only [Option.some.injEq, Prod.mk.injEq] at H
     obtain ⟨rfl, rfl, rfl, rfl, rfl, rfl, rfl⟩ := H
     go_wp2_with (first | ((with_reducible refine gate_callee (f := 32) rfl ?_); refine goesL_ (some 58) rfl rfl Try.func32 (by kernel_rfl) rfl #[.pointer (some ⟨g, 0, none⟩), .int .i64 15] rfl (by (try simp only [mA, mB, mC]); first | done | rfl | (simp only [mD, mE]; rfl)) ?_; (with_reducible refine (spec_l01Src_one.calls g s0_0 x1001_1 x1002_1 x1003_1 15 true t202 t203 t204 w0 _ ?side1 ?side2 A109.out).mono ?_); (case side1 => exact (iX63_6_spec_l01Src_l07Topic HI0.out)); (case side2 => exact (bI63_0_spec_l01Src_l07Topic HB.out)); rintro e w173 ⟨rfl, hi, hb, hk⟩; refine ⟨_, rfl, ?_⟩; have _ := AM (Kd.Q_mono (Kd.Q_keep (IsS63.apartQ (show IsS63 w0 _ g s0_0 x1001_1 x1002_1 x1003_1 from iX63_6_spec_l01Src_l07Topic HI0.out) (qX HO_107002.out) (by decide)) hk (fun _ h => h.2)) (fun _ h => h.1)); have _ := AM (Kd.R_mono (Kd.R_keep (IsS63.apart (show IsS63 w0 _ g s0_0 x1001_1 x1002_1 x1003_1 from iX63_6_spec_l01Src_l07Topic HI0.out) (rX HO_107003.out) (by decide)) hk (fun _ h => h.2)) (fun _ h => h.1)); have _ := AM (kB hk BK101.out NB101_0.out (by simp)); have _ := AM (kB hk BK106.out NB106_0.out (by simp)); have _ := AM (KeepBut.trans (hX HK.out) hk (.inl rfl)); have _ := AM (hb); have _ := AM (hi); clear HO_107002 HO_107003 BK101 BK106 HK HB HI0; rename_i HO_107002 HO_107003 BK101 BK106 HK HB HI0; (try clear hb); (try clear hb2); (try clear hk); (try clear hi)) | ((with_reducible refine gate_callee (f := 21) rfl ?_); refine goesL_ (some 60) rfl rfl Try.func21 (by kernel_rfl) rfl #[.pointer (some ⟨g, 0, none⟩), .int .i64 4] rfl (by (try simp only [mA, mB, mC]); first | done | rfl | (simp only [mD, mE]; rfl)) ?_; (with_reducible refine (spec_l01Src_n.calls g s0_0 t202 t203 t204 4 t205 t206 t207 t208 w0 _ ?side1 ?side2 A111.out).mono ?_); (case side1 => exact (iX63_6_spec_l01Src_l07Topic HI0.out)); (case side2 => exact (bI63_0_spec_l01Src_l07Topic HB.out)); rintro e w174 ⟨rfl, hi, hb, hk⟩; refine ⟨_, rfl, ?_⟩; have _ := AM (Kd.Q_mono (Kd.Q_keep (IsS63.apartQ (show IsS63 w0 _ g s0_0 t202 t203 t204 from iX63_6_spec_l01Src_l07Topic HI0.out) (qX HO_107002.out) (by decide)) hk (fun _ h => h.2)) (fun _ h => h.1)); have _ := AM (Kd.R_mono (Kd.R_keep (IsS63.apart (show IsS63 w0 _ g s0_0 t202 t203 t204 from iX63_6_spec_l01Src_l07Topic HI0.out) (rX HO_107003.out) (by decide)) hk (fun _ h => h.2)) (fun _ h => h.1)); have _ := AM (kB hk BK101.out NB101_0.out (by simp)); have _ := AM (kB hk BK106.out NB106_0.out (by simp)); have _ := AM (KeepBut.trans (hX HK.out) hk (.inl rfl)); have _ := AM (hb); have _ := AM (hi); clear HO_107002 HO_107003 BK101 BK106 HK HB HI0; rename_i HO_107002 HO_107003 BK101 BK106 HK HB HI0; (try clear hb); (try clear hb2); (try clear hk); (try clear hi); have hnb175 := NB106_101.out; have hnc175 := NB101_106.out; have hnb176 := NB106_0.out; have hnc176 := NB0_106.out; have hcz177 := q4 BK106.out; have hfz177 := fZ BK106.out) | ((with_reducible refine gate_builtin (b := .append) (xs := #[.tmp 62, .tmp 63]) rfl ?_); at_builtin; refine Kd.Q_append Kd.string w.heap.size rfl (.tmp 62) (.tmp 63) 23 9 (.string ⟨#[]⟩) 16 rfl Try.underlying23 info9 rfl (by decide) (by omega) u107002 x107002_1 (⟨#[]⟩ : ByteArray) [.string (⟨#[]⟩ : ByteArray)] (fun _ => True) (fun _ => False) rfl rfl ?aP (fun _ hk => hk.elim) ?aF ?aO (Below.refl _ _) ?aS ?aL ?_; (case aP => exact rfl); (case aF => exact (fun _ _ => trivial)); (case aO => exact (qX HO_107002.out)); (case aS => exact (keep_size (w := w) (g := g) (row := none) (hX HK.out))); (case aL => have := LMc172.out; omega); intro v232 w178 ho hb hg hat; rw [← Ny231.out] at ho; have _ := AM (Kd.R_over' (rX HO_107003.out) (Kd.Q_typed (qX HO_107002.out)) (by decide) hg); have _ := AM (blk_grown (g := gb101) (o := .cells #[.string (⟨#[]⟩ : ByteArray), .int .i64 0, .slice none 0 0, .slice none 0 0] 26 (0, 0)) (kX BK101.out) hg (Kd.Q_ne HO_107002.out BK101.out (by decide))); have _ := AM (blk_grown (g := gb106) (o := .cells #[.string x107000_1, .int .i64 x107001_1, u107002, u107003] 26 (0, 0)) (kX BK106.out) hg (Kd.Q_ne HO_107002.out BK106.out (by decide))); have _ := AM (IsS63.grown (iX63_6_spec_l01Src_l07Topic HI0.out) hg (IsS63.own_neQ HI0.out HO_107002.out (by decide))); have _ := AM (below_weaken (bI63_0_spec_l01Src_l07Topic HB.out) HL.out hb); have _ := AM (KeepBut.trans (hX HK.out) (KeepBut.of_grown hg g) (Kd.Q_base2 HO_107002.out)); have _ := AM (ho); clear HO_107003 BK101 BK106 HI0 HB HK HO_107002; rename_i HO_107003 BK101 BK106 HI0 HB HK HO233; clear ho hb hg hat; obtain ⟨Ao179, co179, eo179, _⟩ := Kd.Q_slice HO233.out; subst eo179; have hcz180 := q4 BK106.out; have hfz180 := fZ BK106.out; have hnb181 := NB101_0.out; have hnc181 := NB0_101.out; have hcz182 := q4 BK101.out; have hfz182 := fZ BK101.out; obtain ⟨Ao183, co183, eo183⟩ := Kd.R_slice HO_107003.out; subst eo183))
     refine bodyPost_ret (results_cell_row rfl _ _ gb101 26 #[.string x107000_1, .int .i64 x107001_1, .slice Ao179 y231.length co179, .slice Ao183 x107003_1.length co183] (0, 0) _ rfl (by refine kP (cs := #[.string x107000_1, .int .i64 x107001_1, .slice Ao179 y231.length co179, .slice none 0 0]) 3 ?_; refine kP (cs := #[.string x107000_1, .int .i64 x107001_1, .slice none 0 0, .slice none 0 0]) 2 ?_; refine kP (cs := #[.string x107000_1, .int .i64 0, .slice none 0 0, .slice none 0 0]) 1 ?_; refine kP (cs := #[.string (⟨#[]⟩ : ByteArray), .int .i64 0, .slice none 0 0, .slice none 0 0]) 0 ?_; refine kF NB101_106.out ?_; (with_reducible repeat (first | apply kN | apply kD | apply kA)); exact BK101.out) Try.underlying26 rfl (by kernel_rfl)) rfl ?_
     exact ⟨_, _, by first | rfl | (simp [*, errW_none, errW_some] <;> rfl), by (with_reducible repeat (first | apply Kd.Q_alloc | apply Kd.Q_drewN | apply Kd.Q_drew)); exact Kd.Q_mono (Kd.Q_far (p := ⟨gb101, 3, none⟩) (Kd.Q_far (p := ⟨gb101, 2, none⟩) (Kd.Q_far (p := ⟨gb101, 1, none⟩) (Kd.Q_far (p := ⟨gb101, 0, none⟩) (Kd.Q_far (p := ⟨gb106, 2, none⟩) (Kd.Q_types (Kd.Q_types HO233.out BK106.out (by decide)) BK101.out (by decide)) (fun _ hk => hk.1.2) (.slice Ao179 y231.length co179)) (fun _ hk => hk.2) (.string x107000_1)) (fun _ hk => hk.2) (.int .i64 x107001_1)) (fun _ hk => hk.2) (.slice Ao179 y231.length co179)) (fun _ hk => hk.2) (.slice Ao183 x107003_1.length co183)) (fun _ hk => trivial), by (with_reducible repeat (first | apply rA | apply rN | apply rD)); exact Kd.R_mono (Kd.R_far (p := ⟨gb101, 3, none⟩) (Kd.R_far (p := ⟨gb101, 2, none⟩) (Kd.R_far (p := ⟨gb101, 1, none⟩) (Kd.R_far (p := ⟨gb101, 0, none⟩) (Kd.R_far (p := ⟨gb106, 2, none⟩) (Kd.R_types (Kd.R_types HO_107003.out BK106.out (by decide)) BK101.out (by decide)) (fun _ hk => hk.1.2) (.slice Ao179 y231.length co179)) (fun _ hk => hk.2) (.string x107000_1)) (fun _ hk => hk.2) (.int .i64 x107001_1)) (fun _ hk => hk.2) (.slice Ao179 y231.length co179)) (fun _ hk => hk.2) (.slice Ao183 x107003_1.length co183)) (fun _ hk => trivial), iX63_6_spec_l01Src_l07Topic HI0.out, bI63_0_spec_l01Src_l07Topic HB.out, hX HK.out⟩
    rw [if_neg c172] at H
    exact absurd H (by simp)
   replace c110 := Bool.eq_false_iff.mpr c110
   subst c110
   have H1 : (some (x107000_1, x107001_1, x107002_1, x107003_1, t202, t203, t204)) = some (r1, r2, r3, r4, r5, r6, r7) := by rw [if_neg (show ¬ (false = true) by decide)] at H; exact H
   clear H
   have H := H1
   clear H1
   simp only [Option.some.injEq, Prod.mk.injEq] at H
   obtain ⟨rfl, rfl, rfl, rfl, rfl, rfl, rfl⟩ := H
   go_wp2_with (first | ((with_reducible refine gate_callee (f := 32) rfl ?_); refine goesL_ (some 58) rfl rfl Try.func32 (by kernel_rfl) rfl #[.pointer (some ⟨g, 0, none⟩), .int .i64 15] rfl (by (try simp only [mA, mB, mC]); first | done | rfl | (simp only [mD, mE]; rfl)) ?_; (with_reducible refine (spec_l01Src_one.calls g s0_0 x1001_1 x1002_1 x1003_1 15 false t202 t203 t204 w0 _ ?side1 ?side2 A109.out).mono ?_); (case side1 => exact (iX63_6_spec_l01Src_l07Topic HI0.out)); (case side2 => exact (bI63_0_spec_l01Src_l07Topic HB.out)); rintro e w184 ⟨rfl, hi, hb, hk⟩; refine ⟨_, rfl, ?_⟩; have _ := AM (Kd.Q_mono (Kd.Q_keep (IsS63.apartQ (show IsS63 w0 _ g s0_0 x1001_1 x1002_1 x1003_1 from iX63_6_spec_l01Src_l07Topic HI0.out) (qX HO_107002.out) (by decide)) hk (fun _ h => h.2)) (fun _ h => h.1)); have _ := AM (Kd.R_mono (Kd.R_keep (IsS63.apart (show IsS63 w0 _ g s0_0 x1001_1 x1002_1 x1003_1 from iX63_6_spec_l01Src_l07Topic HI0.out) (rX HO_107003.out) (by decide)) hk (fun _ h => h.2)) (fun _ h => h.1)); have _ := AM (kB hk BK101.out NB101_0.out (by simp)); have _ := AM (kB hk BK106.out NB106_0.out (by simp)); have _ := AM (KeepBut.trans (hX HK.out) hk (.inl rfl)); have _ := AM (hb); have _ := AM (hi); clear HO_107002 HO_107003 BK101 BK106 HK HB HI0; rename_i HO_107002 HO_107003 BK101 BK106 HK HB HI0; (try clear hb); (try clear hb2); (try clear hk); (try clear hi); have hnb185 := NB106_101.out; have hnc185 := NB101_106.out; have hnb186 := NB106_0.out; have hnc186 := NB0_106.out; have hcz187 := q4 BK106.out; have hfz187 := fZ BK106.out; have hnb188 := NB101_0.out; have hnc188 := NB0_101.out; have hcz189 := q4 BK101.out; have hfz189 := fZ BK101.out; obtain ⟨Ao190, co190, eo190, _⟩ := Kd.Q_slice HO_107002.out; subst eo190; obtain ⟨Ao191, co191, eo191⟩ := Kd.R_slice HO_107003.out; subst eo191))
   refine bodyPost_ret (results_cell_row rfl _ _ gb101 26 #[.string x107000_1, .int .i64 x107001_1, .slice Ao190 x107002_1.length co190, .slice Ao191 x107003_1.length co191] (0, 0) _ rfl (by refine kP (cs := #[.string x107000_1, .int .i64 x107001_1, .slice Ao190 x107002_1.length co190, .slice none 0 0]) 3 ?_; refine kP (cs := #[.string x107000_1, .int .i64 x107001_1, .slice none 0 0, .slice none 0 0]) 2 ?_; refine kP (cs := #[.string x107000_1, .int .i64 0, .slice none 0 0, .slice none 0 0]) 1 ?_; refine kP (cs := #[.string (⟨#[]⟩ : ByteArray), .int .i64 0, .slice none 0 0, .slice none 0 0]) 0 ?_; (with_reducible repeat (first | apply kN | apply kD | apply kA)); exact BK101.out) Try.underlying26 rfl (by kernel_rfl)) rfl ?_
   exact ⟨_, _, by first | rfl | (simp [*, errW_none, errW_some] <;> rfl), by (with_reducible repeat (first | apply Kd.Q_alloc | apply Kd.Q_drewN | apply Kd.Q_drew)); exact Qf4 HO_107002.out BK101.out (by decide) (fun _ hk => trivial), by (with_reducible repeat (first | apply rA | apply rN | apply rD)); exact Rf4 HO_107003.out BK101.out (by decide) (fun _ hk => trivial), iX63_6_spec_l01Src_l07Topic HI0.out, bI63_0_spec_l01Src_l07Topic HB.out, hX HK.out⟩

end Go.Proofs.Ytcnilcipcnjmjaa.Q
