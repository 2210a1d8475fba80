/- Printed by a program of this session (wip/mp.py over the kit's print.py): functions of the translation as plain Lean functions, and that the machine's calls do what these say. -/
import Derived.Test.YtgpgamapopnfcaaDoorQx0
import Derived.Test.YtgpgamapopnfcaaDoorQx5
import Derived.Test.YtgpgamapopnfcaaDoorQx6
import Derived.Test.YtgpgamapopnfcaaDoorQx11
import Derived.Test.YtgpgamapopnfcaaDoorQx13
import Derived.Test.YtgpgamapopnfcaaDoorQx14
import Derived.Test.YtgpgamapopnfcaaDoorQx15
import Derived.Test.YtgpgamapopnfcaaDoorQx17
import Derived.Test.YtgpgamapopnfcaaDoorQx19
import Derived.Test.YtgpgamapopnfcaaDoorQx21
namespace Go.Proofs.YtgpgamapopnfcaaDoor.Q
open Go.RowKit Go.Proofs.YtgpgamapopnfcaaDoor.HB Go.Proofs.YtgpgamapopnfcaaDoorW.PrintWords Go.Proofs.YtgpgamapopnfcaaDoorW.PrintLast Go.Proofs.YtgpgamapopnfcaaDoorW.PrintMore
attribute [local go_sem] max2_int min2_int max_two min_two max_three min_three max_four min_four   -- for this text's walks alone
set_option linter.unusedVariables false
set_option linter.unusedSimpArgs false

/-! ### laws_FnAuth: function 6 -/

mutual
def laws_FnAuth.j0 : Nat → List Int → List Int → Bool → Option (Bool)
  | 0, _, _, _ => none
  | k + 1, x0, x1, x31 => if x31 = true then (some true) else ((spec_DrawPairKey.f k x0).bind fun bt101 => ((impl_PairKey.f bt101.1 bt101.2.1 bt101.2.2).bind fun t104 => ((spec_PairKey.f k bt101.1 bt101.2.1 bt101.2.2).bind fun t105 => (if t104.toList = t105.toList then ((impl_PairKey.f bt101.1 bt101.2.1 bt101.2.2).bind fun t106 => ((impl_PairKey.f bt101.1 bt101.2.2 bt101.2.1).bind fun t107 => (laws_FnAuth.j1 k x0 x1 (t106.toList != t107.toList)))) else (laws_FnAuth.j1 k x0 x1 true)))))
def laws_FnAuth.j1 : Nat → List Int → List Int → Bool → Option (Bool)
  | 0, _, _, _ => none
  | k + 1, x0, x1, x57 => if x57 = true then (none) else ((spec_DrawVector.f k x0).bind fun bt108 => ((impl_Vector.f k bt108.1 bt108.2.1 bt108.2.2).bind fun t111 => ((spec_Vector.f k bt108.1 bt108.2.1 bt108.2.2).bind fun t114 => ((laws_lwTexts.f k t111 t114).bind fun t117 => (if t117 = true then (laws_FnAuth.l0 k x0 x1 bt108.1 bt108.2.1 bt108.2.2 t111 0) else (none))))))
def laws_FnAuth.l0 : Nat → List Int → List Int → ByteArray → Int → ByteArray → List ByteArray → Int → Option (Bool)
  | 0, _, _, _, _, _, _, _ => none
  | k + 1, x0, x1, x8, x9, x10, x11, x12 => if x12 < 4 then (laws_FnAuth.j3 k x0 x1 x8 x9 x10 x11 x12 (decide ((x11.length : Int) > 0))) else (laws_FnAuth.j3 k x0 x1 x8 x9 x10 x11 x12 false)
def laws_FnAuth.j3 : Nat → List Int → List Int → ByteArray → Int → ByteArray → List ByteArray → Int → Bool → Option (Bool)
  | 0, _, _, _, _, _, _, _, _ => none
  | k + 1, x0, x1, x8, x9, x10, x11, x12, x81 => if x81 = true then ((impl_VectorGood.f k x8 x9 x12 x10 x11).bind fun t118 => (if (t118 != (x12 != x9)) = true then (none) else (laws_FnAuth.l0 k x0 x1 x8 x9 x10 x11 (wrap64 (x12 + 1))))) else ((spec_DrawVectorGood.f k x1).bind fun bt119 => ((spec_DrawLeader.f k x1).bind fun t126 => ((spec_DrawQuorumRight.f k x0).bind fun t127 => ((spec_DrawQuorumRight.f k x1).bind fun t130 => ((impl_VectorGood.f k bt119.1 bt119.2.1 bt119.2.2.1 bt119.2.2.2.1 bt119.2.2.2.2).bind fun t133 => ((spec_VectorGood.f k bt119.1 bt119.2.1 bt119.2.2.1 bt119.2.2.2.1 bt119.2.2.2.2).bind fun t134 => (if (t133 != t134) = true then (laws_FnAuth.j4 k t127 t130 true) else ((impl_Leader.f t126).bind fun t135 => ((spec_Leader.f t126).bind fun t136 => (if t135 = t136 then ((impl_QuorumRight.f k t127).bind fun t137 => ((spec_QuorumRight.f k t127).bind fun t138 => (laws_FnAuth.j4 k t127 t130 (t137 != t138)))) else (laws_FnAuth.j4 k t127 t130 true)))))))))))
def laws_FnAuth.j4 : Nat → List Int → List Int → Bool → Option (Bool)
  | 0, _, _, _ => none
  | k + 1, x19, x20, x134 => if x134 = true then (none) else (laws_FnAuth.l1 k x19 x20 0 0)
def laws_FnAuth.l1 : Nat → List Int → List Int → Int → Int → Option (Bool)
  | 0, _, _, _, _ => none
  | k + 1, x19, x20, x21, x22 => if x22 < (x19.length : Int) then (laws_FnAuth.l2 k x19 x20 x21 x22 0) else ((impl_QuorumRight.f k x19).bind fun t139 => (if t139 = true then ((impl_QuorumRight.f k x20).bind fun t140 => (if t140 = true then (some (decide (x21 ≥ 2))) else (some true))) else (some true)))
def laws_FnAuth.l2 : Nat → List Int → List Int → Int → Int → Int → Option (Bool)
  | 0, _, _, _, _, _ => none
  | k + 1, x19, x20, x21, x22, x23 => if x23 < (x20.length : Int) then (if 0 ≤ x22 then (if x22 < (x19.length : Int) then (if 0 ≤ x23 then (if (rd x19 x22) = (rd x20 x23) then (laws_FnAuth.l2 k x19 x20 (wrap64 (x21 + 1)) x22 (wrap64 (x23 + 1))) else (laws_FnAuth.l2 k x19 x20 x21 x22 (wrap64 (x23 + 1)))) else (none)) else (none)) else (none)) else (laws_FnAuth.l1 k x19 x20 x21 (wrap64 (x22 + 1)))
end
def laws_FnAuth.f (k : Nat) (l0 : List Int) (l1 : List Int) : Option (Bool) := if (l0.length : Int) > 1048576 then (laws_FnAuth.j0 k l0 l1 true) else (laws_FnAuth.j0 k l0 l1 (decide ((l1.length : Int) > 1048576)))
theorem laws_FnAuth.mono_l : ∀ k, (∀ y0 y1 y2, LeO (laws_FnAuth.j0 k y0 y1 y2) (laws_FnAuth.j0 (k + 1) y0 y1 y2)) ∧ (∀ y0 y1 y2, LeO (laws_FnAuth.j1 k y0 y1 y2) (laws_FnAuth.j1 (k + 1) y0 y1 y2)) ∧ (∀ y0 y1 y2 y3 y4 y5 y6, LeO (laws_FnAuth.l0 k y0 y1 y2 y3 y4 y5 y6) (laws_FnAuth.l0 (k + 1) y0 y1 y2 y3 y4 y5 y6)) ∧ (∀ y0 y1 y2 y3 y4 y5 y6 y7, LeO (laws_FnAuth.j3 k y0 y1 y2 y3 y4 y5 y6 y7) (laws_FnAuth.j3 (k + 1) y0 y1 y2 y3 y4 y5 y6 y7)) ∧ (∀ y0 y1 y2, LeO (laws_FnAuth.j4 k y0 y1 y2) (laws_FnAuth.j4 (k + 1) y0 y1 y2)) ∧ (∀ y0 y1 y2 y3, LeO (laws_FnAuth.l1 k y0 y1 y2 y3) (laws_FnAuth.l1 (k + 1) y0 y1 y2 y3)) ∧ (∀ y0 y1 y2 y3 y4, LeO (laws_FnAuth.l2 k y0 y1 y2 y3 y4) (laws_FnAuth.l2 (k + 1) y0 y1 y2 y3 y4))
  | 0 => ⟨fun _ _ _ r h => by simp [laws_FnAuth.j0] at h, fun _ _ _ r h => by simp [laws_FnAuth.j1] at h, fun _ _ _ _ _ _ _ r h => by simp [laws_FnAuth.l0] at h, fun _ _ _ _ _ _ _ _ r h => by simp [laws_FnAuth.j3] at h, fun _ _ _ r h => by simp [laws_FnAuth.j4] at h, fun _ _ _ _ r h => by simp [laws_FnAuth.l1] at h, fun _ _ _ _ _ r h => by simp [laws_FnAuth.l2] at h⟩
  | k + 1 => by
    obtain ⟨ih0, ih1, ih2, ih3, ih4, ih5, ih6⟩ := laws_FnAuth.mono_l k
    refine ⟨?_, ?_, ?_, ?_, ?_, ?_, ?_⟩
    · intro y0 y1 y2
      unfold laws_FnAuth.j0
      repeat' first
      | (with_reducible exact ih0 _ _ _)
      | (with_reducible exact ih1 _ _ _)
      | (with_reducible exact ih2 _ _ _ _ _ _ _)
      | (with_reducible exact ih3 _ _ _ _ _ _ _ _)
      | (with_reducible exact ih4 _ _ _)
      | (with_reducible exact ih5 _ _ _ _)
      | (with_reducible exact ih6 _ _ _ _ _)
      | (with_reducible exact impl_QuorumRight.mono _ _)
      | (with_reducible exact impl_Vector.mono _ _ _ _)
      | (with_reducible exact impl_VectorGood.mono _ _ _ _ _ _)
      | (with_reducible exact laws_lwTexts.mono _ _ _)
      | (with_reducible exact spec_DrawLeader.mono _ _)
      | (with_reducible exact spec_DrawPairKey.mono _ _)
      | (with_reducible exact spec_DrawQuorumRight.mono _ _)
      | (with_reducible exact spec_DrawVector.mono _ _)
      | (with_reducible exact spec_DrawVectorGood.mono _ _)
      | (with_reducible exact spec_PairKey.mono _ _ _ _)
      | (with_reducible exact spec_QuorumRight.mono _ _)
      | (with_reducible exact spec_Vector.mono _ _ _ _)
      | (with_reducible exact spec_VectorGood.mono _ _ _ _ _ _)
      | (with_reducible exact LeO.refl _)
      | (with_reducible exact LeO.none _)
      | (with_reducible refine LeO.ite ?_ ?_)
      | (with_reducible refine LeO.bind ?_ (fun _ => ?_))
      | exact ih0 _ _ _
      | exact ih1 _ _ _
      | exact ih2 _ _ _ _ _ _ _
      | exact ih3 _ _ _ _ _ _ _ _
      | exact ih4 _ _ _
      | exact ih5 _ _ _ _
      | exact ih6 _ _ _ _ _
      | exact impl_QuorumRight.mono _ _
      | exact impl_Vector.mono _ _ _ _
      | exact impl_VectorGood.mono _ _ _ _ _ _
      | exact laws_lwTexts.mono _ _ _
      | exact spec_DrawLeader.mono _ _
      | exact spec_DrawPairKey.mono _ _
      | exact spec_DrawQuorumRight.mono _ _
      | exact spec_DrawVector.mono _ _
      | exact spec_DrawVectorGood.mono _ _
      | exact spec_PairKey.mono _ _ _ _
      | exact spec_QuorumRight.mono _ _
      | exact spec_Vector.mono _ _ _ _
      | exact spec_VectorGood.mono _ _ _ _ _ _
      | exact LeO.none _
      | refine LeO.ite ?_ ?_
      | refine LeO.bind ?_ (fun _ => ?_)
    · intro y0 y1 y2
      unfold laws_FnAuth.j1
      repeat' first
      | (with_reducible exact ih0 _ _ _)
      | (with_reducible exact ih1 _ _ _)
      | (with_reducible exact ih2 _ _ _ _ _ _ _)
      | (with_reducible exact ih3 _ _ _ _ _ _ _ _)
      | (with_reducible exact ih4 _ _ _)
      | (with_reducible exact ih5 _ _ _ _)
      | (with_reducible exact ih6 _ _ _ _ _)
      | (with_reducible exact impl_QuorumRight.mono _ _)
      | (with_reducible exact impl_Vector.mono _ _ _ _)
      | (with_reducible exact impl_VectorGood.mono _ _ _ _ _ _)
      | (with_reducible exact laws_lwTexts.mono _ _ _)
      | (with_reducible exact spec_DrawLeader.mono _ _)
      | (with_reducible exact spec_DrawPairKey.mono _ _)
      | (with_reducible exact spec_DrawQuorumRight.mono _ _)
      | (with_reducible exact spec_DrawVector.mono _ _)
      | (with_reducible exact spec_DrawVectorGood.mono _ _)
      | (with_reducible exact spec_PairKey.mono _ _ _ _)
      | (with_reducible exact spec_QuorumRight.mono _ _)
      | (with_reducible exact spec_Vector.mono _ _ _ _)
      | (with_reducible exact spec_VectorGood.mono _ _ _ _ _ _)
      | (with_reducible exact LeO.refl _)
      | (with_reducible exact LeO.none _)
      | (with_reducible refine LeO.ite ?_ ?_)
      | (with_reducible refine LeO.bind ?_ (fun _ => ?_))
      | exact ih0 _ _ _
      | exact ih1 _ _ _
      | exact ih2 _ _ _ _ _ _ _
      | exact ih3 _ _ _ _ _ _ _ _
      | exact ih4 _ _ _
      | exact ih5 _ _ _ _
      | exact ih6 _ _ _ _ _
      | exact impl_QuorumRight.mono _ _
      | exact impl_Vector.mono _ _ _ _
      | exact impl_VectorGood.mono _ _ _ _ _ _
      | exact laws_lwTexts.mono _ _ _
      | exact spec_DrawLeader.mono _ _
      | exact spec_DrawPairKey.mono _ _
      | exact spec_DrawQuorumRight.mono _ _
      | exact spec_DrawVector.mono _ _
      | exact spec_DrawVectorGood.mono _ _
      | exact spec_PairKey.mono _ _ _ _
      | exact spec_QuorumRight.mono _ _
      | exact spec_Vector.mono _ _ _ _
      | exact spec_VectorGood.mono _ _ _ _ _ _
      | exact LeO.none _
      | refine LeO.ite ?_ ?_
      | refine LeO.bind ?_ (fun _ => ?_)
    · intro y0 y1 y2 y3 y4 y5 y6
      unfold laws_FnAuth.l0
      repeat' first
      | (with_reducible exact ih0 _ _ _)
      | (with_reducible exact ih1 _ _ _)
      | (with_reducible exact ih2 _ _ _ _ _ _ _)
      | (with_reducible exact ih3 _ _ _ _ _ _ _ _)
      | (with_reducible exact ih4 _ _ _)
      | (with_reducible exact ih5 _ _ _ _)
      | (with_reducible exact ih6 _ _ _ _ _)
      | (with_reducible exact impl_QuorumRight.mono _ _)
      | (with_reducible exact impl_Vector.mono _ _ _ _)
      | (with_reducible exact impl_VectorGood.mono _ _ _ _ _ _)
      | (with_reducible exact laws_lwTexts.mono _ _ _)
      | (with_reducible exact spec_DrawLeader.mono _ _)
      | (with_reducible exact spec_DrawPairKey.mono _ _)
      | (with_reducible exact spec_DrawQuorumRight.mono _ _)
      | (with_reducible exact spec_DrawVector.mono _ _)
      | (with_reducible exact spec_DrawVectorGood.mono _ _)
      | (with_reducible exact spec_PairKey.mono _ _ _ _)
      | (with_reducible exact spec_QuorumRight.mono _ _)
      | (with_reducible exact spec_Vector.mono _ _ _ _)
      | (with_reducible exact spec_VectorGood.mono _ _ _ _ _ _)
      | (with_reducible exact LeO.refl _)
      | (with_reducible exact LeO.none _)
      | (with_reducible refine LeO.ite ?_ ?_)
      | (with_reducible refine LeO.bind ?_ (fun _ => ?_))
      | exact ih0 _ _ _
      | exact ih1 _ _ _
      | exact ih2 _ _ _ _ _ _ _
      | exact ih3 _ _ _ _ _ _ _ _
      | exact ih4 _ _ _
      | exact ih5 _ _ _ _
      | exact ih6 _ _ _ _ _
      | exact impl_QuorumRight.mono _ _
      | exact impl_Vector.mono _ _ _ _
      | exact impl_VectorGood.mono _ _ _ _ _ _
      | exact laws_lwTexts.mono _ _ _
      | exact spec_DrawLeader.mono _ _
      | exact spec_DrawPairKey.mono _ _
      | exact spec_DrawQuorumRight.mono _ _
      | exact spec_DrawVector.mono _ _
      | exact spec_DrawVectorGood.mono _ _
      | exact spec_PairKey.mono _ _ _ _
      | exact spec_QuorumRight.mono _ _
      | exact spec_Vector.mono _ _ _ _
      | exact spec_VectorGood.mono _ _ _ _ _ _
      | exact LeO.none _
      | refine LeO.ite ?_ ?_
      | refine LeO.bind ?_ (fun _ => ?_)
    · intro y0 y1 y2 y3 y4 y5 y6 y7
      unfold laws_FnAuth.j3
      repeat' first
      | (with_reducible exact ih0 _ _ _)
      | (with_reducible exact ih1 _ _ _)
      | (with_reducible exact ih2 _ _ _ _ _ _ _)
      | (with_reducible exact ih3 _ _ _ _ _ _ _ _)
      | (with_reducible exact ih4 _ _ _)
      | (with_reducible exact ih5 _ _ _ _)
      | (with_reducible exact ih6 _ _ _ _ _)
      | (with_reducible exact impl_QuorumRight.mono _ _)
      | (with_reducible exact impl_Vector.mono _ _ _ _)
      | (with_reducible exact impl_VectorGood.mono _ _ _ _ _ _)
      | (with_reducible exact laws_lwTexts.mono _ _ _)
      | (with_reducible exact spec_DrawLeader.mono _ _)
      | (with_reducible exact spec_DrawPairKey.mono _ _)
      | (with_reducible exact spec_DrawQuorumRight.mono _ _)
      | (with_reducible exact spec_DrawVector.mono _ _)
      | (with_reducible exact spec_DrawVectorGood.mono _ _)
      | (with_reducible exact spec_PairKey.mono _ _ _ _)
      | (with_reducible exact spec_QuorumRight.mono _ _)
      | (with_reducible exact spec_Vector.mono _ _ _ _)
      | (with_reducible exact spec_VectorGood.mono _ _ _ _ _ _)
      | (with_reducible exact LeO.refl _)
      | (with_reducible exact LeO.none _)
      | (with_reducible refine LeO.ite ?_ ?_)
      | (with_reducible refine LeO.bind ?_ (fun _ => ?_))
      | exact ih0 _ _ _
      | exact ih1 _ _ _
      | exact ih2 _ _ _ _ _ _ _
      | exact ih3 _ _ _ _ _ _ _ _
      | exact ih4 _ _ _
      | exact ih5 _ _ _ _
      | exact ih6 _ _ _ _ _
      | exact impl_QuorumRight.mono _ _
      | exact impl_Vector.mono _ _ _ _
      | exact impl_VectorGood.mono _ _ _ _ _ _
      | exact laws_lwTexts.mono _ _ _
      | exact spec_DrawLeader.mono _ _
      | exact spec_DrawPairKey.mono _ _
      | exact spec_DrawQuorumRight.mono _ _
      | exact spec_DrawVector.mono _ _
      | exact spec_DrawVectorGood.mono _ _
      | exact spec_PairKey.mono _ _ _ _
      | exact spec_QuorumRight.mono _ _
      | exact spec_Vector.mono _ _ _ _
      | exact spec_VectorGood.mono _ _ _ _ _ _
      | exact LeO.none _
      | refine LeO.ite ?_ ?_
      | refine LeO.bind ?_ (fun _ => ?_)
    · intro y0 y1 y2
      unfold laws_FnAuth.j4
      repeat' first
      | (with_reducible exact ih0 _ _ _)
      | (with_reducible exact ih1 _ _ _)
      | (with_reducible exact ih2 _ _ _ _ _ _ _)
      | (with_reducible exact ih3 _ _ _ _ _ _ _ _)
      | (with_reducible exact ih4 _ _ _)
      | (with_reducible exact ih5 _ _ _ _)
      | (with_reducible exact ih6 _ _ _ _ _)
      | (with_reducible exact impl_QuorumRight.mono _ _)
      | (with_reducible exact impl_Vector.mono _ _ _ _)
      | (with_reducible exact impl_VectorGood.mono _ _ _ _ _ _)
      | (with_reducible exact laws_lwTexts.mono _ _ _)
      | (with_reducible exact spec_DrawLeader.mono _ _)
      | (with_reducible exact spec_DrawPairKey.mono _ _)
      | (with_reducible exact spec_DrawQuorumRight.mono _ _)
      | (with_reducible exact spec_DrawVector.mono _ _)
      | (with_reducible exact spec_DrawVectorGood.mono _ _)
      | (with_reducible exact spec_PairKey.mono _ _ _ _)
      | (with_reducible exact spec_QuorumRight.mono _ _)
      | (with_reducible exact spec_Vector.mono _ _ _ _)
      | (with_reducible exact spec_VectorGood.mono _ _ _ _ _ _)
      | (with_reducible exact LeO.refl _)
      | (with_reducible exact LeO.none _)
      | (with_reducible refine LeO.ite ?_ ?_)
      | (with_reducible refine LeO.bind ?_ (fun _ => ?_))
      | exact ih0 _ _ _
      | exact ih1 _ _ _
      | exact ih2 _ _ _ _ _ _ _
      | exact ih3 _ _ _ _ _ _ _ _
      | exact ih4 _ _ _
      | exact ih5 _ _ _ _
      | exact ih6 _ _ _ _ _
      | exact impl_QuorumRight.mono _ _
      | exact impl_Vector.mono _ _ _ _
      | exact impl_VectorGood.mono _ _ _ _ _ _
      | exact laws_lwTexts.mono _ _ _
      | exact spec_DrawLeader.mono _ _
      | exact spec_DrawPairKey.mono _ _
      | exact spec_DrawQuorumRight.mono _ _
      | exact spec_DrawVector.mono _ _
      | exact spec_DrawVectorGood.mono _ _
      | exact spec_PairKey.mono _ _ _ _
      | exact spec_QuorumRight.mono _ _
      | exact spec_Vector.mono _ _ _ _
      | exact spec_VectorGood.mono _ _ _ _ _ _
      | exact LeO.none _
      | refine LeO.ite ?_ ?_
      | refine LeO.bind ?_ (fun _ => ?_)
    · intro y0 y1 y2 y3
      unfold laws_FnAuth.l1
      repeat' first
      | (with_reducible exact ih0 _ _ _)
      | (with_reducible exact ih1 _ _ _)
      | (with_reducible exact ih2 _ _ _ _ _ _ _)
      | (with_reducible exact ih3 _ _ _ _ _ _ _ _)
      | (with_reducible exact ih4 _ _ _)
      | (with_reducible exact ih5 _ _ _ _)
      | (with_reducible exact ih6 _ _ _ _ _)
      | (with_reducible exact impl_QuorumRight.mono _ _)
      | (with_reducible exact impl_Vector.mono _ _ _ _)
      | (with_reducible exact impl_VectorGood.mono _ _ _ _ _ _)
      | (with_reducible exact laws_lwTexts.mono _ _ _)
      | (with_reducible exact spec_DrawLeader.mono _ _)
      | (with_reducible exact spec_DrawPairKey.mono _ _)
      | (with_reducible exact spec_DrawQuorumRight.mono _ _)
      | (with_reducible exact spec_DrawVector.mono _ _)
      | (with_reducible exact spec_DrawVectorGood.mono _ _)
      | (with_reducible exact spec_PairKey.mono _ _ _ _)
      | (with_reducible exact spec_QuorumRight.mono _ _)
      | (with_reducible exact spec_Vector.mono _ _ _ _)
      | (with_reducible exact spec_VectorGood.mono _ _ _ _ _ _)
      | (with_reducible exact LeO.refl _)
      | (with_reducible exact LeO.none _)
      | (with_reducible refine LeO.ite ?_ ?_)
      | (with_reducible refine LeO.bind ?_ (fun _ => ?_))
      | exact ih0 _ _ _
      | exact ih1 _ _ _
      | exact ih2 _ _ _ _ _ _ _
      | exact ih3 _ _ _ _ _ _ _ _
      | exact ih4 _ _ _
      | exact ih5 _ _ _ _
      | exact ih6 _ _ _ _ _
      | exact impl_QuorumRight.mono _ _
      | exact impl_Vector.mono _ _ _ _
      | exact impl_VectorGood.mono _ _ _ _ _ _
      | exact laws_lwTexts.mono _ _ _
      | exact spec_DrawLeader.mono _ _
      | exact spec_DrawPairKey.mono _ _
      | exact spec_DrawQuorumRight.mono _ _
      | exact spec_DrawVector.mono _ _
      | exact spec_DrawVectorGood.mono _ _
      | exact spec_PairKey.mono _ _ _ _
      | exact spec_QuorumRight.mono _ _
      | exact spec_Vector.mono _ _ _ _
      | exact spec_VectorGood.mono _ _ _ _ _ _
      | exact LeO.none _
      | refine LeO.ite ?_ ?_
      | refine LeO.bind ?_ (fun _ => ?_)
    · intro y0 y1 y2 y3 y4
      unfold laws_FnAuth.l2
      repeat' first
      | (with_reducible exact ih0 _ _ _)
      | (with_reducible exact ih1 _ _ _)
      | (with_reducible exact ih2 _ _ _ _ _ _ _)
      | (with_reducible exact ih3 _ _ _ _ _ _ _ _)
      | (with_reducible exact ih4 _ _ _)
      | (with_reducible exact ih5 _ _ _ _)
      | (with_reducible exact ih6 _ _ _ _ _)
      | (with_reducible exact impl_QuorumRight.mono _ _)
      | (with_reducible exact impl_Vector.mono _ _ _ _)
      | (with_reducible exact impl_VectorGood.mono _ _ _ _ _ _)
      | (with_reducible exact laws_lwTexts.mono _ _ _)
      | (with_reducible exact spec_DrawLeader.mono _ _)
      | (with_reducible exact spec_DrawPairKey.mono _ _)
      | (with_reducible exact spec_DrawQuorumRight.mono _ _)
      | (with_reducible exact spec_DrawVector.mono _ _)
      | (with_reducible exact spec_DrawVectorGood.mono _ _)
      | (with_reducible exact spec_PairKey.mono _ _ _ _)
      | (with_reducible exact spec_QuorumRight.mono _ _)
      | (with_reducible exact spec_Vector.mono _ _ _ _)
      | (with_reducible exact spec_VectorGood.mono _ _ _ _ _ _)
      | (with_reducible exact LeO.refl _)
      | (with_reducible exact LeO.none _)
      | (with_reducible refine LeO.ite ?_ ?_)
      | (with_reducible refine LeO.bind ?_ (fun _ => ?_))
      | exact ih0 _ _ _
      | exact ih1 _ _ _
      | exact ih2 _ _ _ _ _ _ _
      | exact ih3 _ _ _ _ _ _ _ _
      | exact ih4 _ _ _
      | exact ih5 _ _ _ _
      | exact ih6 _ _ _ _ _
      | exact impl_QuorumRight.mono _ _
      | exact impl_Vector.mono _ _ _ _
      | exact impl_VectorGood.mono _ _ _ _ _ _
      | exact laws_lwTexts.mono _ _ _
      | exact spec_DrawLeader.mono _ _
      | exact spec_DrawPairKey.mono _ _
      | exact spec_DrawQuorumRight.mono _ _
      | exact spec_DrawVector.mono _ _
      | exact spec_DrawVectorGood.mono _ _
      | exact spec_PairKey.mono _ _ _ _
      | exact spec_QuorumRight.mono _ _
      | exact spec_Vector.mono _ _ _ _
      | exact spec_VectorGood.mono _ _ _ _ _ _
      | exact LeO.none _
      | refine LeO.ite ?_ ?_
      | refine LeO.bind ?_ (fun _ => ?_)
theorem laws_FnAuth.mono : ∀ a0 a1 k, LeO (laws_FnAuth.f k a0 a1) (laws_FnAuth.f (k + 1) a0 a1) := by
  intro a0 a1 k
  obtain ⟨ih0, ih1, ih2, ih3, ih4, ih5, ih6⟩ := laws_FnAuth.mono_l k
  unfold laws_FnAuth.f
  repeat' first
      | (with_reducible exact ih0 _ _ _)
      | (with_reducible exact ih1 _ _ _)
      | (with_reducible exact ih2 _ _ _ _ _ _ _)
      | (with_reducible exact ih3 _ _ _ _ _ _ _ _)
      | (with_reducible exact ih4 _ _ _)
      | (with_reducible exact ih5 _ _ _ _)
      | (with_reducible exact ih6 _ _ _ _ _)
      | (with_reducible exact impl_QuorumRight.mono _ _)
      | (with_reducible exact impl_Vector.mono _ _ _ _)
      | (with_reducible exact impl_VectorGood.mono _ _ _ _ _ _)
      | (with_reducible exact laws_lwTexts.mono _ _ _)
      | (with_reducible exact spec_DrawLeader.mono _ _)
      | (with_reducible exact spec_DrawPairKey.mono _ _)
      | (with_reducible exact spec_DrawQuorumRight.mono _ _)
      | (with_reducible exact spec_DrawVector.mono _ _)
      | (with_reducible exact spec_DrawVectorGood.mono _ _)
      | (with_reducible exact spec_PairKey.mono _ _ _ _)
      | (with_reducible exact spec_QuorumRight.mono _ _)
      | (with_reducible exact spec_Vector.mono _ _ _ _)
      | (with_reducible exact spec_VectorGood.mono _ _ _ _ _ _)
      | (with_reducible exact LeO.refl _)
      | (with_reducible exact LeO.none _)
      | (with_reducible refine LeO.ite ?_ ?_)
      | (with_reducible refine LeO.bind ?_ (fun _ => ?_))
      | exact ih0 _ _ _
      | exact ih1 _ _ _
      | exact ih2 _ _ _ _ _ _ _
      | exact ih3 _ _ _ _ _ _ _ _
      | exact ih4 _ _ _
      | exact ih5 _ _ _ _
      | exact ih6 _ _ _ _ _
      | exact impl_QuorumRight.mono _ _
      | exact impl_Vector.mono _ _ _ _
      | exact impl_VectorGood.mono _ _ _ _ _ _
      | exact laws_lwTexts.mono _ _ _
      | exact spec_DrawLeader.mono _ _
      | exact spec_DrawPairKey.mono _ _
      | exact spec_DrawQuorumRight.mono _ _
      | exact spec_DrawVector.mono _ _
      | exact spec_DrawVectorGood.mono _ _
      | exact spec_PairKey.mono _ _ _ _
      | exact spec_QuorumRight.mono _ _
      | exact spec_Vector.mono _ _ _ _
      | exact spec_VectorGood.mono _ _ _ _ _ _
      | exact LeO.none _
      | refine LeO.ite ?_ ?_
      | refine LeO.bind ?_ (fun _ => ?_)
set_option maxHeartbeats 60000000 in
set_option maxRecDepth 100000 in
theorem laws_FnAuth.calls (k : Nat) (A0 : Option Addr) (c0 : Nat) (l0 : List Int) (A1 : Option Addr) (c1 : Nat) (l1 : List Int) (r : Bool) (w : World) (hr0 : Kd.C (Kd.int .u8) w A0 l0.length l0) (hc0 : l0.length ≤ c0) (hr1 : Kd.C (Kd.int .u8) w A1 l1.length l1) (hc1 : l1.length ≤ c1) (hT : Tab w) (h : laws_FnAuth.f k l0 l1 = some r) :
    Calls Tryd.prog 6 #[.slice A0 l0.length c0, .slice A1 l1.length c1] w fun e w' => e = .returned (.bool r) ∧ Below w.heap.size w w' := by
 have TAB := AM hT
 clear hT
 have HR0 := AM hr0
 have HC0 := AM hc0
 clear hr0 hc0
 have HR1 := AM hr1
 have HC1 := AM hc1
 clear hr1 hc1
 have HB := AM (Below.refl w.heap.size w)
 have H : (if (l0.length : Int) > 1048576 then (laws_FnAuth.j0 k l0 l1 true) else (laws_FnAuth.j0 k l0 l1 (decide ((l1.length : Int) > 1048576)))) = some r := h
 clear h
 have HC3 := AM H
 clear H
 go_enter Tryd.func6, Tryd.ntmps6
 go_upto_region 1 with (fail)
 repeat (go_quiet (fail); go_upto_region 1 with (fail))
 go_cut [31] (fun v31 wc => ∃ (kq : Nat) (x31_2 : Bool), v31 = .bool x31_2 ∧ Aside0 (laws_FnAuth.j0 kq l0 l1 x31_2 = some r) ∧ Aside0 (kq ≤ k) ∧ Aside0 (Below w.heap.size w wc))
 case first =>
  have H := HC3.out
  clear HC3
  by_cases c4 : (l0.length : Int) > 1048576
  ·
   rw [if_pos c4] at H
   have c4b0 : decide (1048576 < (l0.length : Int)) = true := decide_eq_true c4
   have c4b1 : decide (1048576 < l0.length) = true := decide_eq_true (by omega)
   clear c4
   (first | rw [c4b0] | (simp only [i64_w, i32_w]; rw [c4b0]) | skip)
   have H' := AM H
   clear H
   go_wp2
   repeat (go_quiet (fail); try go_wp2)
   go_meet
   case rel => exact ⟨_, (true), (by first | rfl | (simp; done) | (simp [*]; done) | (simp [*, bne]; done)), H', ⟨by first | omega | exact Nat.le_refl _⟩, ⟨bX HB.out⟩⟩
  rw [if_neg c4] at H
  have c4b0 : decide (1048576 < (l0.length : Int)) = false := decide_eq_false c4
  have c4b1 : decide (1048576 < l0.length) = false := decide_eq_false (by omega)
  clear c4
  (first | rw [c4b0] | (simp only [i64_w, i32_w]; rw [c4b0]) | skip)
  have H' := AM H
  clear H
  go_wp2
  repeat (go_quiet (fail); try go_wp2)
  go_meet
  case rel => exact ⟨_, (decide ((l1.length : Int) > 1048576)), (by first | rfl | (simp; done) | (simp [*]; done) | (simp [*, bne]; done)), H', ⟨by first | omega | exact Nat.le_refl _⟩, ⟨bX HB.out⟩⟩
 case rest =>
  clear HC3
  (try clear c1); (try clear p2); (try clear c4); (try clear c4b0); (try clear c4b1)
  obtain ⟨kq, x31_2, rfl, HA, HJ2, HB⟩ := hcut
  cases kq with
  | zero => exact absurd HA.out (by simp [laws_FnAuth.j0])
  | succ kj2 =>
   have H := HA.out
   clear HA
   simp only [laws_FnAuth.j0] at H
   by_cases c5 : x31_2 = true
   ·
    subst c5
    have H1 : (some true) = some r := by rw [if_pos rfl] at H; exact H
    clear H
    have H := H1
    clear H1
    obtain rfl := Option.some.inj H
    go_wp2
    repeat (go_quiet (fail); try go_wp2)
    go_ret
    exact ⟨by first | rfl | (simp [*, errW_none, errW_some] <;> rfl), bX HB.out⟩
   replace c5 := Bool.eq_false_iff.mpr c5
   subst c5
   have H1 : ((spec_DrawPairKey.f kj2 l0).bind fun bt101 => ((impl_PairKey.f bt101.1 bt101.2.1 bt101.2.2).bind fun t104 => ((spec_PairKey.f kj2 bt101.1 bt101.2.1 bt101.2.2).bind fun t105 => (if t104.toList = t105.toList then ((impl_PairKey.f bt101.1 bt101.2.1 bt101.2.2).bind fun t106 => ((impl_PairKey.f bt101.1 bt101.2.2 bt101.2.1).bind fun t107 => (laws_FnAuth.j1 kj2 l0 l1 (t106.toList != t107.toList)))) else (laws_FnAuth.j1 kj2 l0 l1 true))))) = some r := by rw [if_neg (show ¬ (false = true) by decide)] at H; exact H
   clear H
   have H := H1
   clear H1
   replace H := Option.bind_eq_some_iff.mp H
   obtain ⟨⟨t101, t102, t103⟩, A60, H⟩ := H
   try dsimp only at H
   have A6 := AM A60
   clear A60
   have HC7 := AM H
   clear H
   go_upto_region 4 with (first | (go_at_call 18; (with_reducible refine (spec_DrawPairKey.calls kj2 _ _ l0 t101 t102 t103 _ ?side1 ?side2 A6.out).mono ?_); (case side1 => repeat (first | exact (cB HR0.out HB.out) | (with_reducible first | apply cA | apply cN | apply cD))); (case side2 => exact HC0.out); rintro e w8 ⟨rfl, hb⟩; have _ := AM (below_step (bX HB.out) hb); clear HB; rename_i HB; (try clear hb); (try clear hk)))
   repeat (go_quiet (first | (go_at_call 18; (with_reducible refine (spec_DrawPairKey.calls kj2 _ _ l0 t101 t102 t103 _ ?side1 ?side2 A6.out).mono ?_); (case side1 => repeat (first | exact (cB HR0.out HB.out) | (with_reducible first | apply cA | apply cN | apply cD))); (case side2 => exact HC0.out); rintro e w8 ⟨rfl, hb⟩; have _ := AM (below_step (bX HB.out) hb); clear HB; rename_i HB; (try clear hb); (try clear hk))); go_upto_region 4 with (first | (go_at_call 18; (with_reducible refine (spec_DrawPairKey.calls kj2 _ _ l0 t101 t102 t103 _ ?side1 ?side2 A6.out).mono ?_); (case side1 => repeat (first | exact (cB HR0.out HB.out) | (with_reducible first | apply cA | apply cN | apply cD))); (case side2 => exact HC0.out); rintro e w8 ⟨rfl, hb⟩; have _ := AM (below_step (bX HB.out) hb); clear HB; rename_i HB; (try clear hb); (try clear hk))))
   (try simp only [Act.put, List.setIfInBounds_toArray, List.set_cons_zero, List.set_cons_succ])
   go_cut [57] (fun v57 wc => ∃ (kq : Nat) (x57_6 : Bool), v57 = .bool x57_6 ∧ Aside0 (laws_FnAuth.j1 kq l0 l1 x57_6 = some r) ∧ Aside0 (kq ≤ kj2) ∧ Aside0 (Below w.heap.size w wc))
   case first =>
    have H := HC7.out
    clear HC7
    replace H := Option.bind_eq_some_iff.mp H
    obtain ⟨t104, A90, H⟩ := H
    replace H : ((spec_PairKey.f kj2 t101 t102 t103).bind fun t105 => (if t104.toList = t105.toList then ((impl_PairKey.f t101 t102 t103).bind fun t106 => ((impl_PairKey.f t101 t103 t102).bind fun t107 => (laws_FnAuth.j1 kj2 l0 l1 (t106.toList != t107.toList)))) else (laws_FnAuth.j1 kj2 l0 l1 true))) = some r := H
    have A9 := AM A90
    clear A90
    replace H := Option.bind_eq_some_iff.mp H
    obtain ⟨t105, A100, H⟩ := H
    replace H : (if t104.toList = t105.toList then ((impl_PairKey.f t101 t102 t103).bind fun t106 => ((impl_PairKey.f t101 t103 t102).bind fun t107 => (laws_FnAuth.j1 kj2 l0 l1 (t106.toList != t107.toList)))) else (laws_FnAuth.j1 kj2 l0 l1 true)) = some r := H
    have A10 := AM A100
    clear A100
    by_cases c11 : t104.toList = t105.toList
    ·
     rw [if_pos c11] at H
     have c11b0 : (t104.toList == t105.toList) = true := beq_iff_eq.mpr c11
     have c11b1 : (t104.toList != t105.toList) = false := bne_eq_false_iff_eq.mpr c11
     clear c11
     (first | rw [c11b0] | (simp only [i64_w, i32_w]; rw [c11b0]) | skip)
     replace H := Option.bind_eq_some_iff.mp H
     obtain ⟨t106, A120, H⟩ := H
     replace H : ((impl_PairKey.f t101 t103 t102).bind fun t107 => (laws_FnAuth.j1 kj2 l0 l1 (t106.toList != t107.toList))) = some r := H
     have A12 := AM A120
     clear A120
     replace H := Option.bind_eq_some_iff.mp H
     obtain ⟨t107, A130, H⟩ := H
     replace H : (laws_FnAuth.j1 kj2 l0 l1 (t106.toList != t107.toList)) = some r := H
     have A13 := AM A130
     clear A130
     have H' := AM H
     clear H
     have e106_ : t106 = t104 := (Option.some.inj (A9.out.symm.trans A12.out)).symm
     go_wp2_with (first | (go_at_call 8; (with_reducible refine (impl_PairKey.calls t101 t102 t103 t104 _ ?sideT A9.out).mono ?_); (case sideT => exact tabB TAB.out (bX HB.out)); rintro e w14 ⟨rfl, hb⟩; have _ := AM (below_step (bX HB.out) hb); clear HB; rename_i HB; (try clear hb); (try clear hk)) | (go_at_call 7; (with_reducible refine (spec_PairKey.calls kj2 t101 t102 t103 t105 _ A10.out).mono ?_); rintro e w15 ⟨rfl, hb⟩; have _ := AM (below_step (bX HB.out) hb); clear HB; rename_i HB; (try clear hb); (try clear hk)) | (go_at_call 8; (with_reducible refine (impl_PairKey.calls t101 t102 t103 t106 _ ?sideT A12.out).mono ?_); (case sideT => exact tabB TAB.out (bX HB.out)); rintro e w16 ⟨rfl, hb⟩; have _ := AM (below_step (bX HB.out) hb); clear HB; rename_i HB; (try clear hb); (try clear hk)) | (go_at_call 8; (with_reducible refine (impl_PairKey.calls t101 t103 t102 t107 _ ?sideT A13.out).mono ?_); (case sideT => exact tabB TAB.out (bX HB.out)); rintro e w17 ⟨rfl, hb⟩; have _ := AM (below_step (bX HB.out) hb); clear HB; rename_i HB; (try clear hb); (try clear hk)))
     repeat (go_quiet (first | (go_at_call 8; (with_reducible refine (impl_PairKey.calls t101 t102 t103 t104 _ ?sideT A9.out).mono ?_); (case sideT => exact tabB TAB.out (bX HB.out)); rintro e w14 ⟨rfl, hb⟩; have _ := AM (below_step (bX HB.out) hb); clear HB; rename_i HB; (try clear hb); (try clear hk)) | (go_at_call 7; (with_reducible refine (spec_PairKey.calls kj2 t101 t102 t103 t105 _ A10.out).mono ?_); rintro e w15 ⟨rfl, hb⟩; have _ := AM (below_step (bX HB.out) hb); clear HB; rename_i HB; (try clear hb); (try clear hk)) | (go_at_call 8; (with_reducible refine (impl_PairKey.calls t101 t102 t103 t106 _ ?sideT A12.out).mono ?_); (case sideT => exact tabB TAB.out (bX HB.out)); rintro e w16 ⟨rfl, hb⟩; have _ := AM (below_step (bX HB.out) hb); clear HB; rename_i HB; (try clear hb); (try clear hk)) | (go_at_call 8; (with_reducible refine (impl_PairKey.calls t101 t103 t102 t107 _ ?sideT A13.out).mono ?_); (case sideT => exact tabB TAB.out (bX HB.out)); rintro e w17 ⟨rfl, hb⟩; have _ := AM (below_step (bX HB.out) hb); clear HB; rename_i HB; (try clear hb); (try clear hk))); try go_wp2_with (first | (go_at_call 8; (with_reducible refine (impl_PairKey.calls t101 t102 t103 t104 _ ?sideT A9.out).mono ?_); (case sideT => exact tabB TAB.out (bX HB.out)); rintro e w14 ⟨rfl, hb⟩; have _ := AM (below_step (bX HB.out) hb); clear HB; rename_i HB; (try clear hb); (try clear hk)) | (go_at_call 7; (with_reducible refine (spec_PairKey.calls kj2 t101 t102 t103 t105 _ A10.out).mono ?_); rintro e w15 ⟨rfl, hb⟩; have _ := AM (below_step (bX HB.out) hb); clear HB; rename_i HB; (try clear hb); (try clear hk)) | (go_at_call 8; (with_reducible refine (impl_PairKey.calls t101 t102 t103 t106 _ ?sideT A12.out).mono ?_); (case sideT => exact tabB TAB.out (bX HB.out)); rintro e w16 ⟨rfl, hb⟩; have _ := AM (below_step (bX HB.out) hb); clear HB; rename_i HB; (try clear hb); (try clear hk)) | (go_at_call 8; (with_reducible refine (impl_PairKey.calls t101 t103 t102 t107 _ ?sideT A13.out).mono ?_); (case sideT => exact tabB TAB.out (bX HB.out)); rintro e w17 ⟨rfl, hb⟩; have _ := AM (below_step (bX HB.out) hb); clear HB; rename_i HB; (try clear hb); (try clear hk))))
     go_meet
     case rel => exact ⟨_, ((t106.toList != t107.toList)), (by first | rfl | (simp; done) | (simp [*]; done) | (simp [*, bne]; done)), H', ⟨by have := HJ2.out; first | omega | exact Nat.le_refl _⟩, ⟨bX HB.out⟩⟩
    rw [if_neg c11] at H
    have c11b0 : (t104.toList == t105.toList) = false := beq_eq_false_iff_ne.mpr c11
    have c11b1 : (t104.toList != t105.toList) = true := bne_iff_ne.mpr c11
    (first | rw [c11b0] | (simp only [i64_w, i32_w]; rw [c11b0]) | skip)
    have H' := AM H
    clear H
    go_wp2_with (first | (go_at_call 8; (with_reducible refine (impl_PairKey.calls t101 t102 t103 t104 _ ?sideT A9.out).mono ?_); (case sideT => exact tabB TAB.out (bX HB.out)); rintro e w18 ⟨rfl, hb⟩; have _ := AM (below_step (bX HB.out) hb); clear HB; rename_i HB; (try clear hb); (try clear hk)) | (go_at_call 7; (with_reducible refine (spec_PairKey.calls kj2 t101 t102 t103 t105 _ A10.out).mono ?_); rintro e w19 ⟨rfl, hb⟩; have _ := AM (below_step (bX HB.out) hb); clear HB; rename_i HB; (try clear hb); (try clear hk)))
    repeat (go_quiet (first | (go_at_call 8; (with_reducible refine (impl_PairKey.calls t101 t102 t103 t104 _ ?sideT A9.out).mono ?_); (case sideT => exact tabB TAB.out (bX HB.out)); rintro e w18 ⟨rfl, hb⟩; have _ := AM (below_step (bX HB.out) hb); clear HB; rename_i HB; (try clear hb); (try clear hk)) | (go_at_call 7; (with_reducible refine (spec_PairKey.calls kj2 t101 t102 t103 t105 _ A10.out).mono ?_); rintro e w19 ⟨rfl, hb⟩; have _ := AM (below_step (bX HB.out) hb); clear HB; rename_i HB; (try clear hb); (try clear hk))); try go_wp2_with (first | (go_at_call 8; (with_reducible refine (impl_PairKey.calls t101 t102 t103 t104 _ ?sideT A9.out).mono ?_); (case sideT => exact tabB TAB.out (bX HB.out)); rintro e w18 ⟨rfl, hb⟩; have _ := AM (below_step (bX HB.out) hb); clear HB; rename_i HB; (try clear hb); (try clear hk)) | (go_at_call 7; (with_reducible refine (spec_PairKey.calls kj2 t101 t102 t103 t105 _ A10.out).mono ?_); rintro e w19 ⟨rfl, hb⟩; have _ := AM (below_step (bX HB.out) hb); clear HB; rename_i HB; (try clear hb); (try clear hk))))
    go_meet
    case rel => exact ⟨_, (true), (by first | rfl | (simp; done) | (simp [*]; done) | (simp [*, bne]; done)), H', ⟨by have := HJ2.out; first | omega | exact Nat.le_refl _⟩, ⟨bX HB.out⟩⟩
   case rest =>
    clear HC7
    (try clear c1); (try clear p2); (try clear c4); (try clear c4b0); (try clear c4b1); (try clear c5); (try clear c6); (try clear c11); (try clear c11b0); (try clear c11b1)
    obtain ⟨kq, x57_6, rfl, HA, HJ6, HB⟩ := hcut
    cases kq with
    | zero => exact absurd HA.out (by simp [laws_FnAuth.j1])
    | succ kj6 =>
     have H := HA.out
     clear HA
     simp only [laws_FnAuth.j1] at H
     by_cases c20 : x57_6 = true
     ·
      subst c20
      have H1 : (none) = some r := by rw [if_pos rfl] at H; exact H
      clear H
      have H := H1
      clear H1
      exact absurd H (by simp)
     replace c20 := Bool.eq_false_iff.mpr c20
     subst c20
     have H1 : ((spec_DrawVector.f kj6 l0).bind fun bt108 => ((impl_Vector.f kj6 bt108.1 bt108.2.1 bt108.2.2).bind fun t111 => ((spec_Vector.f kj6 bt108.1 bt108.2.1 bt108.2.2).bind fun t114 => ((laws_lwTexts.f kj6 t111 t114).bind fun t117 => (if t117 = true then (laws_FnAuth.l0 kj6 l0 l1 bt108.1 bt108.2.1 bt108.2.2 t111 0) else (none)))))) = some r := by rw [if_neg (show ¬ (false = true) by decide)] at H; exact H
     clear H
     have H := H1
     clear H1
     replace H := Option.bind_eq_some_iff.mp H
     obtain ⟨⟨t108, t109, t110⟩, A210, H⟩ := H
     try dsimp only at H
     have A21 := AM A210
     clear A210
     replace H := Option.bind_eq_some_iff.mp H
     obtain ⟨t111, A220, H⟩ := H
     replace H : ((spec_Vector.f kj6 t108 t109 t110).bind fun t114 => ((laws_lwTexts.f kj6 t111 t114).bind fun t117 => (if t117 = true then (laws_FnAuth.l0 kj6 l0 l1 t108 t109 t110 t111 0) else (none)))) = some r := H
     have A22 := AM A220
     clear A220
     replace H := Option.bind_eq_some_iff.mp H
     obtain ⟨t114, A230, H⟩ := H
     replace H : ((laws_lwTexts.f kj6 t111 t114).bind fun t117 => (if t117 = true then (laws_FnAuth.l0 kj6 l0 l1 t108 t109 t110 t111 0) else (none))) = some r := H
     have A23 := AM A230
     clear A230
     replace H := Option.bind_eq_some_iff.mp H
     obtain ⟨t117, A240, H⟩ := H
     replace H : (if t117 = true then (laws_FnAuth.l0 kj6 l0 l1 t108 t109 t110 t111 0) else (none)) = some r := H
     have A24 := AM A240
     clear A240
     by_cases c25 : t117 = true
     ·
      subst c25
      have H1 : (laws_FnAuth.l0 kj6 l0 l1 t108 t109 t110 t111 0) = some r := by rw [if_pos rfl] at H; exact H
      clear H
      have H := H1
      clear H1
      have H' := AM H
      clear H
      go_wp2_with (first | (go_at_call 19; (with_reducible refine (spec_DrawVector.calls kj6 _ _ l0 t108 t109 t110 _ ?side1 ?side2 A21.out).mono ?_); (case side1 => repeat (first | exact (cB HR0.out HB.out) | (with_reducible first | apply cA | apply cN | apply cD))); (case side2 => exact HC0.out); rintro e w26 ⟨rfl, hb⟩; have _ := AM (below_step (bX HB.out) hb); clear HB; rename_i HB; (try clear hb); (try clear hk)) | (go_at_call 10; (with_reducible refine (impl_Vector.calls kj6 t108 t109 t110 t111 _ ?sideT A22.out).mono ?_); (case sideT => exact tabB TAB.out (bX HB.out)); rintro e w27 ⟨v112, rfl, ho0, hb⟩; have _ := AM (Kd.R_lower ho0 (bZ (bX HB.out))); have _ := AM (below_step (bX HB.out) hb); clear HB; rename_i HO113 HB; (try clear hb); (try clear hk); (try clear ho0)) | (go_at_call 9; (with_reducible refine (spec_Vector.calls kj6 t108 t109 t110 t114 _ A23.out).mono ?_); rintro e w28 ⟨v115, rfl, ho0, hb⟩; have _ := AM (Kd.R_elder' (rX HO113.out) (Kd.R_base ho0) hb); have _ := AM (Kd.R_lower (Kd.R_new' ho0 (Kd.R_lt (rX HO113.out))) (bZ (bX HB.out))); have _ := AM (below_step (bX HB.out) hb); clear HO113 HB; rename_i HO113 HO116 HB; (try clear hb); (try clear hk); (try clear ho0); obtain ⟨Ao29, co29, eo29⟩ := Kd.R_slice HO113.out; subst eo29; obtain ⟨Ao30, co30, eo30⟩ := Kd.R_slice HO116.out; subst eo30) | (go_at_call 20; (with_reducible refine (laws_lwTexts.calls kj6 _ _ t111 _ _ t114 true _ ?side1 ?side2 ?side3 ?side4 A24.out).mono ?_); (case side1 => repeat (first | exact (Kd.R_reads' HO113.out).2.2 | (with_reducible first | apply cA | apply cN | apply cD))); (case side2 => exact (Kd.R_reads' HO113.out).2.1); (case side3 => repeat (first | exact (Kd.R_reads' HO116.out).2.2 | (with_reducible first | apply cA | apply cN | apply cD))); (case side4 => exact (Kd.R_reads' HO116.out).2.1); rintro e w' ⟨rfl, ⟨nd, rfl⟩⟩; (try first | exact ⟨rfl, _, dD⟩ | exact ⟨rfl, _, dA⟩)))
      repeat (go_quiet (first | (go_at_call 19; (with_reducible refine (spec_DrawVector.calls kj6 _ _ l0 t108 t109 t110 _ ?side1 ?side2 A21.out).mono ?_); (case side1 => repeat (first | exact (cB HR0.out HB.out) | (with_reducible first | apply cA | apply cN | apply cD))); (case side2 => exact HC0.out); rintro e w26 ⟨rfl, hb⟩; have _ := AM (below_step (bX HB.out) hb); clear HB; rename_i HB; (try clear hb); (try clear hk)) | (go_at_call 10; (with_reducible refine (impl_Vector.calls kj6 t108 t109 t110 t111 _ ?sideT A22.out).mono ?_); (case sideT => exact tabB TAB.out (bX HB.out)); rintro e w27 ⟨v112, rfl, ho0, hb⟩; have _ := AM (Kd.R_lower ho0 (bZ (bX HB.out))); have _ := AM (below_step (bX HB.out) hb); clear HB; rename_i HO113 HB; (try clear hb); (try clear hk); (try clear ho0)) | (go_at_call 9; (with_reducible refine (spec_Vector.calls kj6 t108 t109 t110 t114 _ A23.out).mono ?_); rintro e w28 ⟨v115, rfl, ho0, hb⟩; have _ := AM (Kd.R_elder' (rX HO113.out) (Kd.R_base ho0) hb); have _ := AM (Kd.R_lower (Kd.R_new' ho0 (Kd.R_lt (rX HO113.out))) (bZ (bX HB.out))); have _ := AM (below_step (bX HB.out) hb); clear HO113 HB; rename_i HO113 HO116 HB; (try clear hb); (try clear hk); (try clear ho0); obtain ⟨Ao29, co29, eo29⟩ := Kd.R_slice HO113.out; subst eo29; obtain ⟨Ao30, co30, eo30⟩ := Kd.R_slice HO116.out; subst eo30) | (go_at_call 20; (with_reducible refine (laws_lwTexts.calls kj6 _ _ t111 _ _ t114 true _ ?side1 ?side2 ?side3 ?side4 A24.out).mono ?_); (case side1 => repeat (first | exact (Kd.R_reads' HO113.out).2.2 | (with_reducible first | apply cA | apply cN | apply cD))); (case side2 => exact (Kd.R_reads' HO113.out).2.1); (case side3 => repeat (first | exact (Kd.R_reads' HO116.out).2.2 | (with_reducible first | apply cA | apply cN | apply cD))); (case side4 => exact (Kd.R_reads' HO116.out).2.1); rintro e w' ⟨rfl, ⟨nd, rfl⟩⟩; (try first | exact ⟨rfl, _, dD⟩ | exact ⟨rfl, _, dA⟩))); try go_wp2_with (first | (go_at_call 19; (with_reducible refine (spec_DrawVector.calls kj6 _ _ l0 t108 t109 t110 _ ?side1 ?side2 A21.out).mono ?_); (case side1 => repeat (first | exact (cB HR0.out HB.out) | (with_reducible first | apply cA | apply cN | apply cD))); (case side2 => exact HC0.out); rintro e w26 ⟨rfl, hb⟩; have _ := AM (below_step (bX HB.out) hb); clear HB; rename_i HB; (try clear hb); (try clear hk)) | (go_at_call 10; (with_reducible refine (impl_Vector.calls kj6 t108 t109 t110 t111 _ ?sideT A22.out).mono ?_); (case sideT => exact tabB TAB.out (bX HB.out)); rintro e w27 ⟨v112, rfl, ho0, hb⟩; have _ := AM (Kd.R_lower ho0 (bZ (bX HB.out))); have _ := AM (below_step (bX HB.out) hb); clear HB; rename_i HO113 HB; (try clear hb); (try clear hk); (try clear ho0)) | (go_at_call 9; (with_reducible refine (spec_Vector.calls kj6 t108 t109 t110 t114 _ A23.out).mono ?_); rintro e w28 ⟨v115, rfl, ho0, hb⟩; have _ := AM (Kd.R_elder' (rX HO113.out) (Kd.R_base ho0) hb); have _ := AM (Kd.R_lower (Kd.R_new' ho0 (Kd.R_lt (rX HO113.out))) (bZ (bX HB.out))); have _ := AM (below_step (bX HB.out) hb); clear HO113 HB; rename_i HO113 HO116 HB; (try clear hb); (try clear hk); (try clear ho0); obtain ⟨Ao29, co29, eo29⟩ := Kd.R_slice HO113.out; subst eo29; obtain ⟨Ao30, co30, eo30⟩ := Kd.R_slice HO116.out; subst eo30) | (go_at_call 20; (with_reducible refine (laws_lwTexts.calls kj6 _ _ t111 _ _ t114 true _ ?side1 ?side2 ?side3 ?side4 A24.out).mono ?_); (case side1 => repeat (first | exact (Kd.R_reads' HO113.out).2.2 | (with_reducible first | apply cA | apply cN | apply cD))); (case side2 => exact (Kd.R_reads' HO113.out).2.1); (case side3 => repeat (first | exact (Kd.R_reads' HO116.out).2.2 | (with_reducible first | apply cA | apply cN | apply cD))); (case side4 => exact (Kd.R_reads' HO116.out).2.1); rintro e w' ⟨rfl, ⟨nd, rfl⟩⟩; (try first | exact ⟨rfl, _, dD⟩ | exact ⟨rfl, _, dA⟩))))
      go_loopg [12] kj6 (fun kq v12 w' => ∃ (x12_3 : Int), v12 = .int .i64 x12_3 ∧ Aside0 (laws_FnAuth.l0 kq l0 l1 t108 t109 t110 t111 x12_3 = some r) ∧ Aside0 (kq ≤ kj6) ∧ Aside0 (Kd.R Kd.string 9 w' w.heap.size (fun _ => True) (.slice Ao29 t111.length co29) t111) ∧ Aside0 (Below w.heap.size w w'))
      case atStart => exact ⟨(0), (by first | rfl | (simp; done) | (simp [*]; done)), H', ⟨Nat.le_refl _⟩, ⟨by (with_reducible repeat (first | apply rA | apply rN | apply rD)); exact Kd.R_mono HO113.out (fun _ hk => trivial)⟩, ⟨bX HB.out⟩⟩
      case round =>
       clear H'
       (try clear c1); (try clear c2); (try clear p2); (try clear c4); (try clear c4b0); (try clear c4b1); (try clear c5); (try clear c6); (try clear c11); (try clear c11b0); (try clear c11b1); (try clear c20); (try clear c25)
       obtain ⟨x12_3, rfl, HA, HK3, HO_11, HB⟩ := hrel
       cases gk with
       | zero => exact absurd HA.out (by simp [laws_FnAuth.l0])
       | succ k3 =>
        have H := HA.out
        clear HA
        simp only [laws_FnAuth.l0] at H
        have HC31 := AM H
        clear H
        go_upto_region 11 with (fail)
        repeat (go_quiet (fail); go_upto_region 11 with (fail))
        go_cut [81] (fun v81 wc => ∃ (kq : Nat) (x81_30 : Bool), v81 = .bool x81_30 ∧ Aside0 (laws_FnAuth.j3 kq l0 l1 t108 t109 t110 t111 x12_3 x81_30 = some r) ∧ Aside0 (kq ≤ k3) ∧ Aside0 (Kd.R Kd.string 9 wc w.heap.size (fun _ => True) (.slice Ao29 t111.length co29) t111) ∧ Aside0 (Below w.heap.size w wc))
        case first =>
         have H := HC31.out
         clear HC31
         by_cases c32 : x12_3 < 4
         ·
          rw [if_pos c32] at H
          have c32b0 : decide (x12_3 < 4) = true := decide_eq_true c32
          clear c32
          (first | rw [c32b0] | (simp only [i64_w, i32_w]; rw [c32b0]) | skip)
          have H' := AM H
          clear H
          go_wp2
          repeat (go_quiet (fail); try go_wp2)
          go_meet
          case rel => exact ⟨_, (decide ((t111.length : Int) > 0)), (by first | rfl | (simp; done) | (simp [*]; done) | (simp [*, bne]; done)), H', ⟨by have := HJ2.out; have := HJ6.out; have := HK3.out; first | omega | exact Nat.le_refl _⟩, ⟨rX HO_11.out⟩, ⟨bX HB.out⟩⟩
         rw [if_neg c32] at H
         have c32b0 : decide (x12_3 < 4) = false := decide_eq_false c32
         clear c32
         (first | rw [c32b0] | (simp only [i64_w, i32_w]; rw [c32b0]) | skip)
         have H' := AM H
         clear H
         go_wp2
         repeat (go_quiet (fail); try go_wp2)
         go_meet
         case rel => exact ⟨_, (false), (by first | rfl | (simp; done) | (simp [*]; done) | (simp [*, bne]; done)), H', ⟨by have := HJ2.out; have := HJ6.out; have := HK3.out; first | omega | exact Nat.le_refl _⟩, ⟨rX HO_11.out⟩, ⟨bX HB.out⟩⟩
        case rest =>
         clear HC31
         (try clear c1); (try clear c2); (try clear p2); (try clear c3); (try clear c4); (try clear c4b0); (try clear c4b1); (try clear c5); (try clear c6); (try clear c11); (try clear c11b0); (try clear c11b1); (try clear c20); (try clear c25); (try clear c32); (try clear c32b0)
         obtain ⟨kq, x81_30, rfl, HA, HJ30, HO_11, HB⟩ := hcut
         cases kq with
         | zero => exact absurd HA.out (by simp [laws_FnAuth.j3])
         | succ kj30 =>
          have H := HA.out
          clear HA
          simp only [laws_FnAuth.j3] at H
          by_cases c33 : x81_30 = true
          ·
           subst c33
           have H1 : ((impl_VectorGood.f kj30 t108 t109 x12_3 t110 t111).bind fun t118 => (if (t118 != (x12_3 != t109)) = true then (none) else (laws_FnAuth.l0 kj30 l0 l1 t108 t109 t110 t111 (wrap64 (x12_3 + 1))))) = some r := by rw [if_pos rfl] at H; exact H
           clear H
           have H := H1
           clear H1
           replace H := Option.bind_eq_some_iff.mp H
           obtain ⟨t118, A340, H⟩ := H
           replace H : (if (t118 != (x12_3 != t109)) = true then (none) else (laws_FnAuth.l0 kj30 l0 l1 t108 t109 t110 t111 (wrap64 (x12_3 + 1)))) = some r := H
           have A34 := AM A340
           clear A340
           by_cases c35 : (t118 != (x12_3 != t109)) = true
           ·
            rw [if_pos c35] at H
            exact absurd H (by simp)
           rw [if_neg c35] at H
           have c35b0 : (t118 != (x12_3 != t109)) = false := by simpa using c35
           (try (have c35b1 : decide (t118 = (x12_3 != t109)) = true := by simpa using c35))
           (try (have c35b2 : (t118 == (x12_3 != t109)) = true := by simpa using c35))
           clear c35
           have H' := AM H
           clear H
           go_wp2_with (first | (go_at_call 17; (with_reducible refine (impl_VectorGood.calls kj30 t108 t109 x12_3 t110 _ _ t111 t118 _ ?side1 ?side2 ?sideT A34.out).mono ?_); (case sideT => exact tabB TAB.out (bX HB.out)); (case side1 => repeat (first | exact (Kd.R_reads' HO_11.out).2.2 | (with_reducible first | apply cA | apply cN | apply cD))); (case side2 => exact (Kd.R_reads' HO_11.out).2.1); rintro e w36 ⟨rfl, hb⟩; have _ := AM (Kd.R_below (rX HO_11.out) hb); have _ := AM (below_step (bX HB.out) hb); clear HO_11 HB; rename_i HO_11 HB; (try clear hb); (try clear hk)))
           repeat (go_quiet (first | (go_at_call 17; (with_reducible refine (impl_VectorGood.calls kj30 t108 t109 x12_3 t110 _ _ t111 t118 _ ?side1 ?side2 ?sideT A34.out).mono ?_); (case sideT => exact tabB TAB.out (bX HB.out)); (case side1 => repeat (first | exact (Kd.R_reads' HO_11.out).2.2 | (with_reducible first | apply cA | apply cN | apply cD))); (case side2 => exact (Kd.R_reads' HO_11.out).2.1); rintro e w36 ⟨rfl, hb⟩; have _ := AM (Kd.R_below (rX HO_11.out) hb); have _ := AM (below_step (bX HB.out) hb); clear HO_11 HB; rename_i HO_11 HB; (try clear hb); (try clear hk))); try go_wp2_with (first | (go_at_call 17; (with_reducible refine (impl_VectorGood.calls kj30 t108 t109 x12_3 t110 _ _ t111 t118 _ ?side1 ?side2 ?sideT A34.out).mono ?_); (case sideT => exact tabB TAB.out (bX HB.out)); (case side1 => repeat (first | exact (Kd.R_reads' HO_11.out).2.2 | (with_reducible first | apply cA | apply cN | apply cD))); (case side2 => exact (Kd.R_reads' HO_11.out).2.1); rintro e w36 ⟨rfl, hb⟩; have _ := AM (Kd.R_below (rX HO_11.out) hb); have _ := AM (below_step (bX HB.out) hb); clear HO_11 HB; rename_i HO_11 HB; (try clear hb); (try clear hk))))
           go_roundg kj30
           case measure => have := HJ2.out; have := HJ6.out; have := HK3.out; have := HJ30.out; omega
           case rel => exact ⟨(wrap64 (x12_3 + 1)), (by first | rfl | (simp; done) | (simp [*]; done) | (simp [*, bne]; done)), H', ⟨by have := HJ2.out; have := HJ6.out; have := HK3.out; have := HJ30.out; omega⟩, ⟨rX HO_11.out⟩, ⟨bX HB.out⟩⟩
          replace c33 := Bool.eq_false_iff.mpr c33
          subst c33
          have H1 : ((spec_DrawVectorGood.f kj30 l1).bind fun bt119 => ((spec_DrawLeader.f kj30 l1).bind fun t126 => ((spec_DrawQuorumRight.f kj30 l0).bind fun t127 => ((spec_DrawQuorumRight.f kj30 l1).bind fun t130 => ((impl_VectorGood.f kj30 bt119.1 bt119.2.1 bt119.2.2.1 bt119.2.2.2.1 bt119.2.2.2.2).bind fun t133 => ((spec_VectorGood.f kj30 bt119.1 bt119.2.1 bt119.2.2.1 bt119.2.2.2.1 bt119.2.2.2.2).bind fun t134 => (if (t133 != t134) = true then (laws_FnAuth.j4 kj30 t127 t130 true) else ((impl_Leader.f t126).bind fun t135 => ((spec_Leader.f t126).bind fun t136 => (if t135 = t136 then ((impl_QuorumRight.f kj30 t127).bind fun t137 => ((spec_QuorumRight.f kj30 t127).bind fun t138 => (laws_FnAuth.j4 kj30 t127 t130 (t137 != t138)))) else (laws_FnAuth.j4 kj30 t127 t130 true))))))))))) = some r := by rw [if_neg (show ¬ (false = true) by decide)] at H; exact H
          clear H
          have H := H1
          clear H1
          replace H := Option.bind_eq_some_iff.mp H
          obtain ⟨⟨t119, t120, t121, t122, t123⟩, A370, H⟩ := H
          try dsimp only at H
          have A37 := AM A370
          clear A370
          replace H := Option.bind_eq_some_iff.mp H
          obtain ⟨t126, A380, H⟩ := H
          replace H : ((spec_DrawQuorumRight.f kj30 l0).bind fun t127 => ((spec_DrawQuorumRight.f kj30 l1).bind fun t130 => ((impl_VectorGood.f kj30 t119 t120 t121 t122 t123).bind fun t133 => ((spec_VectorGood.f kj30 t119 t120 t121 t122 t123).bind fun t134 => (if (t133 != t134) = true then (laws_FnAuth.j4 kj30 t127 t130 true) else ((impl_Leader.f t126).bind fun t135 => ((spec_Leader.f t126).bind fun t136 => (if t135 = t136 then ((impl_QuorumRight.f kj30 t127).bind fun t137 => ((spec_QuorumRight.f kj30 t127).bind fun t138 => (laws_FnAuth.j4 kj30 t127 t130 (t137 != t138)))) else (laws_FnAuth.j4 kj30 t127 t130 true))))))))) = some r := H
          have A38 := AM A380
          clear A380
          replace H := Option.bind_eq_some_iff.mp H
          obtain ⟨t127, A390, H⟩ := H
          replace H : ((spec_DrawQuorumRight.f kj30 l1).bind fun t130 => ((impl_VectorGood.f kj30 t119 t120 t121 t122 t123).bind fun t133 => ((spec_VectorGood.f kj30 t119 t120 t121 t122 t123).bind fun t134 => (if (t133 != t134) = true then (laws_FnAuth.j4 kj30 t127 t130 true) else ((impl_Leader.f t126).bind fun t135 => ((spec_Leader.f t126).bind fun t136 => (if t135 = t136 then ((impl_QuorumRight.f kj30 t127).bind fun t137 => ((spec_QuorumRight.f kj30 t127).bind fun t138 => (laws_FnAuth.j4 kj30 t127 t130 (t137 != t138)))) else (laws_FnAuth.j4 kj30 t127 t130 true)))))))) = some r := H
          have A39 := AM A390
          clear A390
          replace H := Option.bind_eq_some_iff.mp H
          obtain ⟨t130, A400, H⟩ := H
          replace H : ((impl_VectorGood.f kj30 t119 t120 t121 t122 t123).bind fun t133 => ((spec_VectorGood.f kj30 t119 t120 t121 t122 t123).bind fun t134 => (if (t133 != t134) = true then (laws_FnAuth.j4 kj30 t127 t130 true) else ((impl_Leader.f t126).bind fun t135 => ((spec_Leader.f t126).bind fun t136 => (if t135 = t136 then ((impl_QuorumRight.f kj30 t127).bind fun t137 => ((spec_QuorumRight.f kj30 t127).bind fun t138 => (laws_FnAuth.j4 kj30 t127 t130 (t137 != t138)))) else (laws_FnAuth.j4 kj30 t127 t130 true))))))) = some r := H
          have A40 := AM A400
          clear A400
          have HC41 := AM H
          clear H
          go_upto_region 18 with (first | (go_at_call 21; (with_reducible refine (spec_DrawVectorGood.calls kj30 _ _ l1 t119 t120 t121 t122 t123 _ ?side1 ?side2 A37.out).mono ?_); (case side1 => repeat (first | exact (cB HR1.out HB.out) | (with_reducible first | apply cA | apply cN | apply cD))); (case side2 => exact HC1.out); rintro e w42 ⟨v124, rfl, ho0, hb⟩; have _ := AM (Kd.R_elder' (rX HO_11.out) (Kd.R_base ho0) hb); have _ := AM (Kd.R_lower (Kd.R_new' ho0 (Kd.R_lt (rX HO_11.out))) (bZ (bX HB.out))); have _ := AM (below_step (bX HB.out) hb); clear HO_11 HB; rename_i HO_11 HO125 HB; (try clear hb); (try clear hk); (try clear ho0)) | (go_at_call 22; (with_reducible refine (spec_DrawLeader.calls kj30 _ _ l1 t126 _ ?side1 ?side2 A38.out).mono ?_); (case side1 => repeat (first | exact (cB HR1.out HB.out) | (with_reducible first | apply cA | apply cN | apply cD))); (case side2 => exact HC1.out); rintro e w43 ⟨rfl, hb⟩; have _ := AM (Kd.R_below (rX HO_11.out) hb); have _ := AM (Kd.R_below (rX HO125.out) hb); have _ := AM (below_step (bX HB.out) hb); clear HO_11 HO125 HB; rename_i HO_11 HO125 HB; (try clear hb); (try clear hk)) | (go_at_call 23; (with_reducible refine (spec_DrawQuorumRight.calls kj30 _ _ l0 t127 _ ?side1 ?side2 A39.out).mono ?_); (case side1 => repeat (first | exact (cB HR0.out HB.out) | (with_reducible first | apply cA | apply cN | apply cD))); (case side2 => exact HC0.out); rintro e w44 ⟨v128, rfl, ho0, hb⟩; have _ := AM (Kd.R_below (rX HO_11.out) hb); have _ := AM (Kd.R_below (rX HO125.out) hb); have _ := AM (Kd.R_lower ho0 (bZ (bX HB.out))); have _ := AM (below_step (bX HB.out) hb); clear HO_11 HO125 HB; rename_i HO_11 HO125 HO129 HB; (try clear hb); (try clear hk); (try clear ho0)) | (go_at_call 23; (with_reducible refine (spec_DrawQuorumRight.calls kj30 _ _ l1 t130 _ ?side1 ?side2 A40.out).mono ?_); (case side1 => repeat (first | exact (cB HR1.out HB.out) | (with_reducible first | apply cA | apply cN | apply cD))); (case side2 => exact HC1.out); rintro e w45 ⟨v131, rfl, ho0, hb⟩; have _ := AM (Kd.R_below (rX HO_11.out) hb); have _ := AM (Kd.R_below (rX HO125.out) hb); have _ := AM (Kd.R_elder' (rX HO129.out) (Kd.R_base ho0) hb); have _ := AM (Kd.R_lower (Kd.R_new' ho0 (Kd.R_lt (rX HO129.out))) (bZ (bX HB.out))); have _ := AM (below_step (bX HB.out) hb); clear HO_11 HO125 HO129 HB; rename_i HO_11 HO125 HO129 HO132 HB; (try clear hb); (try clear hk); (try clear ho0)))
          repeat (go_quiet (first | (go_at_call 21; (with_reducible refine (spec_DrawVectorGood.calls kj30 _ _ l1 t119 t120 t121 t122 t123 _ ?side1 ?side2 A37.out).mono ?_); (case side1 => repeat (first | exact (cB HR1.out HB.out) | (with_reducible first | apply cA | apply cN | apply cD))); (case side2 => exact HC1.out); rintro e w42 ⟨v124, rfl, ho0, hb⟩; have _ := AM (Kd.R_elder' (rX HO_11.out) (Kd.R_base ho0) hb); have _ := AM (Kd.R_lower (Kd.R_new' ho0 (Kd.R_lt (rX HO_11.out))) (bZ (bX HB.out))); have _ := AM (below_step (bX HB.out) hb); clear HO_11 HB; rename_i HO_11 HO125 HB; (try clear hb); (try clear hk); (try clear ho0)) | (go_at_call 22; (with_reducible refine (spec_DrawLeader.calls kj30 _ _ l1 t126 _ ?side1 ?side2 A38.out).mono ?_); (case side1 => repeat (first | exact (cB HR1.out HB.out) | (with_reducible first | apply cA | apply cN | apply cD))); (case side2 => exact HC1.out); rintro e w43 ⟨rfl, hb⟩; have _ := AM (Kd.R_below (rX HO_11.out) hb); have _ := AM (Kd.R_below (rX HO125.out) hb); have _ := AM (below_step (bX HB.out) hb); clear HO_11 HO125 HB; rename_i HO_11 HO125 HB; (try clear hb); (try clear hk)) | (go_at_call 23; (with_reducible refine (spec_DrawQuorumRight.calls kj30 _ _ l0 t127 _ ?side1 ?side2 A39.out).mono ?_); (case side1 => repeat (first | exact (cB HR0.out HB.out) | (with_reducible first | apply cA | apply cN | apply cD))); (case side2 => exact HC0.out); rintro e w44 ⟨v128, rfl, ho0, hb⟩; have _ := AM (Kd.R_below (rX HO_11.out) hb); have _ := AM (Kd.R_below (rX HO125.out) hb); have _ := AM (Kd.R_lower ho0 (bZ (bX HB.out))); have _ := AM (below_step (bX HB.out) hb); clear HO_11 HO125 HB; rename_i HO_11 HO125 HO129 HB; (try clear hb); (try clear hk); (try clear ho0)) | (go_at_call 23; (with_reducible refine (spec_DrawQuorumRight.calls kj30 _ _ l1 t130 _ ?side1 ?side2 A40.out).mono ?_); (case side1 => repeat (first | exact (cB HR1.out HB.out) | (with_reducible first | apply cA | apply cN | apply cD))); (case side2 => exact HC1.out); rintro e w45 ⟨v131, rfl, ho0, hb⟩; have _ := AM (Kd.R_below (rX HO_11.out) hb); have _ := AM (Kd.R_below (rX HO125.out) hb); have _ := AM (Kd.R_elder' (rX HO129.out) (Kd.R_base ho0) hb); have _ := AM (Kd.R_lower (Kd.R_new' ho0 (Kd.R_lt (rX HO129.out))) (bZ (bX HB.out))); have _ := AM (below_step (bX HB.out) hb); clear HO_11 HO125 HO129 HB; rename_i HO_11 HO125 HO129 HO132 HB; (try clear hb); (try clear hk); (try clear ho0))); go_upto_region 18 with (first | (go_at_call 21; (with_reducible refine (spec_DrawVectorGood.calls kj30 _ _ l1 t119 t120 t121 t122 t123 _ ?side1 ?side2 A37.out).mono ?_); (case side1 => repeat (first | exact (cB HR1.out HB.out) | (with_reducible first | apply cA | apply cN | apply cD))); (case side2 => exact HC1.out); rintro e w42 ⟨v124, rfl, ho0, hb⟩; have _ := AM (Kd.R_elder' (rX HO_11.out) (Kd.R_base ho0) hb); have _ := AM (Kd.R_lower (Kd.R_new' ho0 (Kd.R_lt (rX HO_11.out))) (bZ (bX HB.out))); have _ := AM (below_step (bX HB.out) hb); clear HO_11 HB; rename_i HO_11 HO125 HB; (try clear hb); (try clear hk); (try clear ho0)) | (go_at_call 22; (with_reducible refine (spec_DrawLeader.calls kj30 _ _ l1 t126 _ ?side1 ?side2 A38.out).mono ?_); (case side1 => repeat (first | exact (cB HR1.out HB.out) | (with_reducible first | apply cA | apply cN | apply cD))); (case side2 => exact HC1.out); rintro e w43 ⟨rfl, hb⟩; have _ := AM (Kd.R_below (rX HO_11.out) hb); have _ := AM (Kd.R_below (rX HO125.out) hb); have _ := AM (below_step (bX HB.out) hb); clear HO_11 HO125 HB; rename_i HO_11 HO125 HB; (try clear hb); (try clear hk)) | (go_at_call 23; (with_reducible refine (spec_DrawQuorumRight.calls kj30 _ _ l0 t127 _ ?side1 ?side2 A39.out).mono ?_); (case side1 => repeat (first | exact (cB HR0.out HB.out) | (with_reducible first | apply cA | apply cN | apply cD))); (case side2 => exact HC0.out); rintro e w44 ⟨v128, rfl, ho0, hb⟩; have _ := AM (Kd.R_below (rX HO_11.out) hb); have _ := AM (Kd.R_below (rX HO125.out) hb); have _ := AM (Kd.R_lower ho0 (bZ (bX HB.out))); have _ := AM (below_step (bX HB.out) hb); clear HO_11 HO125 HB; rename_i HO_11 HO125 HO129 HB; (try clear hb); (try clear hk); (try clear ho0)) | (go_at_call 23; (with_reducible refine (spec_DrawQuorumRight.calls kj30 _ _ l1 t130 _ ?side1 ?side2 A40.out).mono ?_); (case side1 => repeat (first | exact (cB HR1.out HB.out) | (with_reducible first | apply cA | apply cN | apply cD))); (case side2 => exact HC1.out); rintro e w45 ⟨v131, rfl, ho0, hb⟩; have _ := AM (Kd.R_below (rX HO_11.out) hb); have _ := AM (Kd.R_below (rX HO125.out) hb); have _ := AM (Kd.R_elder' (rX HO129.out) (Kd.R_base ho0) hb); have _ := AM (Kd.R_lower (Kd.R_new' ho0 (Kd.R_lt (rX HO129.out))) (bZ (bX HB.out))); have _ := AM (below_step (bX HB.out) hb); clear HO_11 HO125 HO129 HB; rename_i HO_11 HO125 HO129 HO132 HB; (try clear hb); (try clear hk); (try clear ho0))))
          (try simp only [Act.put, List.setIfInBounds_toArray, List.set_cons_zero, List.set_cons_succ])
          go_cut [134] (fun v134 wc => ∃ (kq : Nat) (x134_40 : Bool), v134 = .bool x134_40 ∧ Aside0 (laws_FnAuth.j4 kq t127 t130 x134_40 = some r) ∧ Aside0 (kq ≤ kj30) ∧ Aside0 (Kd.R (Kd.int .i64) 2 wc w.heap.size (fun k_ => some k_ ≠ (v131 : Value).ownBlock) v128 t127) ∧ Aside0 (Kd.R (Kd.int .i64) 2 wc w.heap.size (fun k_ => some k_ ≠ (v128 : Value).ownBlock) v131 t130) ∧ Aside0 (Below w.heap.size w wc))
          case first =>
           have H := HC41.out
           clear HC41
           replace H := Option.bind_eq_some_iff.mp H
           obtain ⟨t133, A460, H⟩ := H
           replace H : ((spec_VectorGood.f kj30 t119 t120 t121 t122 t123).bind fun t134 => (if (t133 != t134) = true then (laws_FnAuth.j4 kj30 t127 t130 true) else ((impl_Leader.f t126).bind fun t135 => ((spec_Leader.f t126).bind fun t136 => (if t135 = t136 then ((impl_QuorumRight.f kj30 t127).bind fun t137 => ((spec_QuorumRight.f kj30 t127).bind fun t138 => (laws_FnAuth.j4 kj30 t127 t130 (t137 != t138)))) else (laws_FnAuth.j4 kj30 t127 t130 true)))))) = some r := H
           have A46 := AM A460
           clear A460
           replace H := Option.bind_eq_some_iff.mp H
           obtain ⟨t134, A470, H⟩ := H
           replace H : (if (t133 != t134) = true then (laws_FnAuth.j4 kj30 t127 t130 true) else ((impl_Leader.f t126).bind fun t135 => ((spec_Leader.f t126).bind fun t136 => (if t135 = t136 then ((impl_QuorumRight.f kj30 t127).bind fun t137 => ((spec_QuorumRight.f kj30 t127).bind fun t138 => (laws_FnAuth.j4 kj30 t127 t130 (t137 != t138)))) else (laws_FnAuth.j4 kj30 t127 t130 true))))) = some r := H
           have A47 := AM A470
           clear A470
           by_cases c48 : (t133 != t134) = true
           ·
            rw [if_pos c48] at H
            have c48b0 : (t133 != t134) = true := c48
            (try (have c48b1 : decide (t133 = t134) = false := by simpa using c48))
            (try (have c48b2 : (t133 == t134) = false := by simpa using c48))
            (try (have c48b3 : ¬ (t133 = t134) := by simpa using c48))
            clear c48
            (first | rw [c48b0] | (simp only [i64_w, i32_w]; rw [c48b0]) | skip)
            have H' := AM H
            clear H
            obtain ⟨Ao49, co49, eo49⟩ := Kd.R_slice HO125.out
            subst eo49
            go_wp2_with (first | (go_at_call 17; (with_reducible refine (impl_VectorGood.calls kj30 t119 t120 t121 t122 _ _ t123 t133 _ ?side1 ?side2 ?sideT A46.out).mono ?_); (case sideT => exact tabB TAB.out (bX HB.out)); (case side1 => repeat (first | exact (Kd.R_reads' HO125.out).2.2 | (with_reducible first | apply cA | apply cN | apply cD))); (case side2 => exact (Kd.R_reads' HO125.out).2.1); rintro e w50 ⟨rfl, hb⟩; have _ := AM (Kd.R_below (rX HO_11.out) hb); have _ := AM (Kd.R_below (rX HO125.out) hb); have _ := AM (Kd.R_below (rX HO129.out) hb); have _ := AM (Kd.R_below (rX HO132.out) hb); have _ := AM (below_step (bX HB.out) hb); clear HO_11 HO125 HO129 HO132 HB; rename_i HO_11 HO125 HO129 HO132 HB; (try clear hb); (try clear hk)) | (go_at_call 15; (with_reducible refine (spec_VectorGood.calls kj30 t119 t120 t121 t122 _ _ t123 t134 _ ?side1 ?side2 A47.out).mono ?_); (case side1 => repeat (first | exact (Kd.R_reads' HO125.out).2.2 | (with_reducible first | apply cA | apply cN | apply cD))); (case side2 => exact (Kd.R_reads' HO125.out).2.1); rintro e w51 ⟨rfl, hb⟩; have _ := AM (Kd.R_below (rX HO_11.out) hb); have _ := AM (Kd.R_below (rX HO125.out) hb); have _ := AM (Kd.R_below (rX HO129.out) hb); have _ := AM (Kd.R_below (rX HO132.out) hb); have _ := AM (below_step (bX HB.out) hb); clear HO_11 HO125 HO129 HO132 HB; rename_i HO_11 HO125 HO129 HO132 HB; (try clear hb); (try clear hk)))
            repeat (go_quiet (first | (go_at_call 17; (with_reducible refine (impl_VectorGood.calls kj30 t119 t120 t121 t122 _ _ t123 t133 _ ?side1 ?side2 ?sideT A46.out).mono ?_); (case sideT => exact tabB TAB.out (bX HB.out)); (case side1 => repeat (first | exact (Kd.R_reads' HO125.out).2.2 | (with_reducible first | apply cA | apply cN | apply cD))); (case side2 => exact (Kd.R_reads' HO125.out).2.1); rintro e w50 ⟨rfl, hb⟩; have _ := AM (Kd.R_below (rX HO_11.out) hb); have _ := AM (Kd.R_below (rX HO125.out) hb); have _ := AM (Kd.R_below (rX HO129.out) hb); have _ := AM (Kd.R_below (rX HO132.out) hb); have _ := AM (below_step (bX HB.out) hb); clear HO_11 HO125 HO129 HO132 HB; rename_i HO_11 HO125 HO129 HO132 HB; (try clear hb); (try clear hk)) | (go_at_call 15; (with_reducible refine (spec_VectorGood.calls kj30 t119 t120 t121 t122 _ _ t123 t134 _ ?side1 ?side2 A47.out).mono ?_); (case side1 => repeat (first | exact (Kd.R_reads' HO125.out).2.2 | (with_reducible first | apply cA | apply cN | apply cD))); (case side2 => exact (Kd.R_reads' HO125.out).2.1); rintro e w51 ⟨rfl, hb⟩; have _ := AM (Kd.R_below (rX HO_11.out) hb); have _ := AM (Kd.R_below (rX HO125.out) hb); have _ := AM (Kd.R_below (rX HO129.out) hb); have _ := AM (Kd.R_below (rX HO132.out) hb); have _ := AM (below_step (bX HB.out) hb); clear HO_11 HO125 HO129 HO132 HB; rename_i HO_11 HO125 HO129 HO132 HB; (try clear hb); (try clear hk))); try go_wp2_with (first | (go_at_call 17; (with_reducible refine (impl_VectorGood.calls kj30 t119 t120 t121 t122 _ _ t123 t133 _ ?side1 ?side2 ?sideT A46.out).mono ?_); (case sideT => exact tabB TAB.out (bX HB.out)); (case side1 => repeat (first | exact (Kd.R_reads' HO125.out).2.2 | (with_reducible first | apply cA | apply cN | apply cD))); (case side2 => exact (Kd.R_reads' HO125.out).2.1); rintro e w50 ⟨rfl, hb⟩; have _ := AM (Kd.R_below (rX HO_11.out) hb); have _ := AM (Kd.R_below (rX HO125.out) hb); have _ := AM (Kd.R_below (rX HO129.out) hb); have _ := AM (Kd.R_below (rX HO132.out) hb); have _ := AM (below_step (bX HB.out) hb); clear HO_11 HO125 HO129 HO132 HB; rename_i HO_11 HO125 HO129 HO132 HB; (try clear hb); (try clear hk)) | (go_at_call 15; (with_reducible refine (spec_VectorGood.calls kj30 t119 t120 t121 t122 _ _ t123 t134 _ ?side1 ?side2 A47.out).mono ?_); (case side1 => repeat (first | exact (Kd.R_reads' HO125.out).2.2 | (with_reducible first | apply cA | apply cN | apply cD))); (case side2 => exact (Kd.R_reads' HO125.out).2.1); rintro e w51 ⟨rfl, hb⟩; have _ := AM (Kd.R_below (rX HO_11.out) hb); have _ := AM (Kd.R_below (rX HO125.out) hb); have _ := AM (Kd.R_below (rX HO129.out) hb); have _ := AM (Kd.R_below (rX HO132.out) hb); have _ := AM (below_step (bX HB.out) hb); clear HO_11 HO125 HO129 HO132 HB; rename_i HO_11 HO125 HO129 HO132 HB; (try clear hb); (try clear hk))))
            go_meet
            case rel => exact ⟨_, (true), (by first | rfl | (simp; done) | (simp [*]; done) | (simp [*, bne]; done)), H', ⟨by have := HJ2.out; have := HJ6.out; have := HK3.out; have := HJ30.out; first | omega | exact Nat.le_refl _⟩, ⟨by (with_reducible repeat (first | apply rA | apply rN | apply rD)); exact Kd.R_mono HO129.out (fun _ hk => hk.2)⟩, ⟨by (with_reducible repeat (first | apply rA | apply rN | apply rD)); exact Kd.R_mono HO132.out (fun _ hk => hk.2)⟩, ⟨bX HB.out⟩⟩
           rw [if_neg c48] at H
           have c48b0 : (t133 != t134) = false := by simpa using c48
           (try (have c48b1 : decide (t133 = t134) = true := by simpa using c48))
           (try (have c48b2 : (t133 == t134) = true := by simpa using c48))
           clear c48
           (first | rw [c48b0] | (simp only [i64_w, i32_w]; rw [c48b0]) | skip)
           replace H := Option.bind_eq_some_iff.mp H
           obtain ⟨t135, A520, H⟩ := H
           replace H : ((spec_Leader.f t126).bind fun t136 => (if t135 = t136 then ((impl_QuorumRight.f kj30 t127).bind fun t137 => ((spec_QuorumRight.f kj30 t127).bind fun t138 => (laws_FnAuth.j4 kj30 t127 t130 (t137 != t138)))) else (laws_FnAuth.j4 kj30 t127 t130 true))) = some r := H
           have A52 := AM A520
           clear A520
           replace H := Option.bind_eq_some_iff.mp H
           obtain ⟨t136, A530, H⟩ := H
           replace H : (if t135 = t136 then ((impl_QuorumRight.f kj30 t127).bind fun t137 => ((spec_QuorumRight.f kj30 t127).bind fun t138 => (laws_FnAuth.j4 kj30 t127 t130 (t137 != t138)))) else (laws_FnAuth.j4 kj30 t127 t130 true)) = some r := H
           have A53 := AM A530
           clear A530
           by_cases c54 : t135 = t136
           ·
            rw [if_pos c54] at H
            have c54b0 : (t135 == t136) = true := beq_iff_eq.mpr c54
            have c54b1 : (t135 != t136) = false := bne_eq_false_iff_eq.mpr c54
            clear c54
            replace H := Option.bind_eq_some_iff.mp H
            obtain ⟨t137, A550, H⟩ := H
            replace H : ((spec_QuorumRight.f kj30 t127).bind fun t138 => (laws_FnAuth.j4 kj30 t127 t130 (t137 != t138))) = some r := H
            have A55 := AM A550
            clear A550
            replace H := Option.bind_eq_some_iff.mp H
            obtain ⟨t138, A560, H⟩ := H
            replace H : (laws_FnAuth.j4 kj30 t127 t130 (t137 != t138)) = some r := H
            have A56 := AM A560
            clear A560
            have H' := AM H
            clear H
            obtain ⟨Ao57, co57, eo57⟩ := Kd.R_slice HO125.out
            subst eo57
            obtain ⟨Ao60, co60, eo60⟩ := Kd.R_slice HO129.out
            subst eo60
            go_wp2_with (first | (go_at_call 17; (with_reducible refine (impl_VectorGood.calls kj30 t119 t120 t121 t122 _ _ t123 t133 _ ?side1 ?side2 ?sideT A46.out).mono ?_); (case sideT => exact tabB TAB.out (bX HB.out)); (case side1 => repeat (first | exact (Kd.R_reads' HO125.out).2.2 | (with_reducible first | apply cA | apply cN | apply cD))); (case side2 => exact (Kd.R_reads' HO125.out).2.1); rintro e w58 ⟨rfl, hb⟩; have _ := AM (Kd.R_below (rX HO_11.out) hb); have _ := AM (Kd.R_below (rX HO125.out) hb); have _ := AM (Kd.R_below (rX HO129.out) hb); have _ := AM (Kd.R_below (rX HO132.out) hb); have _ := AM (below_step (bX HB.out) hb); clear HO_11 HO125 HO129 HO132 HB; rename_i HO_11 HO125 HO129 HO132 HB; (try clear hb); (try clear hk)) | (go_at_call 15; (with_reducible refine (spec_VectorGood.calls kj30 t119 t120 t121 t122 _ _ t123 t134 _ ?side1 ?side2 A47.out).mono ?_); (case side1 => repeat (first | exact (Kd.R_reads' HO125.out).2.2 | (with_reducible first | apply cA | apply cN | apply cD))); (case side2 => exact (Kd.R_reads' HO125.out).2.1); rintro e w59 ⟨rfl, hb⟩; have _ := AM (Kd.R_below (rX HO_11.out) hb); have _ := AM (Kd.R_below (rX HO125.out) hb); have _ := AM (Kd.R_below (rX HO129.out) hb); have _ := AM (Kd.R_below (rX HO132.out) hb); have _ := AM (below_step (bX HB.out) hb); clear HO_11 HO125 HO129 HO132 HB; rename_i HO_11 HO125 HO129 HO132 HB; (try clear hb); (try clear hk)) | (go_at_call 24; (with_reducible refine (impl_Leader.calls t126 t135 _ A52.out).mono ?_); rintro e w' ⟨rfl, ⟨nd, rfl⟩⟩; (try first | exact ⟨rfl, _, dD⟩ | exact ⟨rfl, _, dA⟩)) | (go_at_call 25; (with_reducible refine (spec_Leader.calls t126 t136 _ A53.out).mono ?_); rintro e w' ⟨rfl, ⟨nd, rfl⟩⟩; (try first | exact ⟨rfl, _, dD⟩ | exact ⟨rfl, _, dA⟩)) | (go_at_call 26; (with_reducible refine (impl_QuorumRight.calls kj30 _ _ t127 t137 _ ?side1 ?side2 A55.out).mono ?_); (case side1 => repeat (first | exact (Kd.R_reads' HO129.out).2.2 | (with_reducible first | apply cA | apply cN | apply cD))); (case side2 => exact (Kd.R_reads' HO129.out).2.1); rintro e w' ⟨rfl, ⟨nd, rfl⟩⟩; (try first | exact ⟨rfl, _, dD⟩ | exact ⟨rfl, _, dA⟩)) | (go_at_call 27; (with_reducible refine (spec_QuorumRight.calls kj30 _ _ t127 t138 _ ?side1 ?side2 A56.out).mono ?_); (case side1 => repeat (first | exact (Kd.R_reads' HO129.out).2.2 | (with_reducible first | apply cA | apply cN | apply cD))); (case side2 => exact (Kd.R_reads' HO129.out).2.1); rintro e w' ⟨rfl, ⟨nd, rfl⟩⟩; (try first | exact ⟨rfl, _, dD⟩ | exact ⟨rfl, _, dA⟩)))
            repeat (go_quiet (first | (go_at_call 17; (with_reducible refine (impl_VectorGood.calls kj30 t119 t120 t121 t122 _ _ t123 t133 _ ?side1 ?side2 ?sideT A46.out).mono ?_); (case sideT => exact tabB TAB.out (bX HB.out)); (case side1 => repeat (first | exact (Kd.R_reads' HO125.out).2.2 | (with_reducible first | apply cA | apply cN | apply cD))); (case side2 => exact (Kd.R_reads' HO125.out).2.1); rintro e w58 ⟨rfl, hb⟩; have _ := AM (Kd.R_below (rX HO_11.out) hb); have _ := AM (Kd.R_below (rX HO125.out) hb); have _ := AM (Kd.R_below (rX HO129.out) hb); have _ := AM (Kd.R_below (rX HO132.out) hb); have _ := AM (below_step (bX HB.out) hb); clear HO_11 HO125 HO129 HO132 HB; rename_i HO_11 HO125 HO129 HO132 HB; (try clear hb); (try clear hk)) | (go_at_call 15; (with_reducible refine (spec_VectorGood.calls kj30 t119 t120 t121 t122 _ _ t123 t134 _ ?side1 ?side2 A47.out).mono ?_); (case side1 => repeat (first | exact (Kd.R_reads' HO125.out).2.2 | (with_reducible first | apply cA | apply cN | apply cD))); (case side2 => exact (Kd.R_reads' HO125.out).2.1); rintro e w59 ⟨rfl, hb⟩; have _ := AM (Kd.R_below (rX HO_11.out) hb); have _ := AM (Kd.R_below (rX HO125.out) hb); have _ := AM (Kd.R_below (rX HO129.out) hb); have _ := AM (Kd.R_below (rX HO132.out) hb); have _ := AM (below_step (bX HB.out) hb); clear HO_11 HO125 HO129 HO132 HB; rename_i HO_11 HO125 HO129 HO132 HB; (try clear hb); (try clear hk)) | (go_at_call 24; (with_reducible refine (impl_Leader.calls t126 t135 _ A52.out).mono ?_); rintro e w' ⟨rfl, ⟨nd, rfl⟩⟩; (try first | exact ⟨rfl, _, dD⟩ | exact ⟨rfl, _, dA⟩)) | (go_at_call 25; (with_reducible refine (spec_Leader.calls t126 t136 _ A53.out).mono ?_); rintro e w' ⟨rfl, ⟨nd, rfl⟩⟩; (try first | exact ⟨rfl, _, dD⟩ | exact ⟨rfl, _, dA⟩)) | (go_at_call 26; (with_reducible refine (impl_QuorumRight.calls kj30 _ _ t127 t137 _ ?side1 ?side2 A55.out).mono ?_); (case side1 => repeat (first | exact (Kd.R_reads' HO129.out).2.2 | (with_reducible first | apply cA | apply cN | apply cD))); (case side2 => exact (Kd.R_reads' HO129.out).2.1); rintro e w' ⟨rfl, ⟨nd, rfl⟩⟩; (try first | exact ⟨rfl, _, dD⟩ | exact ⟨rfl, _, dA⟩)) | (go_at_call 27; (with_reducible refine (spec_QuorumRight.calls kj30 _ _ t127 t138 _ ?side1 ?side2 A56.out).mono ?_); (case side1 => repeat (first | exact (Kd.R_reads' HO129.out).2.2 | (with_reducible first | apply cA | apply cN | apply cD))); (case side2 => exact (Kd.R_reads' HO129.out).2.1); rintro e w' ⟨rfl, ⟨nd, rfl⟩⟩; (try first | exact ⟨rfl, _, dD⟩ | exact ⟨rfl, _, dA⟩))); try go_wp2_with (first | (go_at_call 17; (with_reducible refine (impl_VectorGood.calls kj30 t119 t120 t121 t122 _ _ t123 t133 _ ?side1 ?side2 ?sideT A46.out).mono ?_); (case sideT => exact tabB TAB.out (bX HB.out)); (case side1 => repeat (first | exact (Kd.R_reads' HO125.out).2.2 | (with_reducible first | apply cA | apply cN | apply cD))); (case side2 => exact (Kd.R_reads' HO125.out).2.1); rintro e w58 ⟨rfl, hb⟩; have _ := AM (Kd.R_below (rX HO_11.out) hb); have _ := AM (Kd.R_below (rX HO125.out) hb); have _ := AM (Kd.R_below (rX HO129.out) hb); have _ := AM (Kd.R_below (rX HO132.out) hb); have _ := AM (below_step (bX HB.out) hb); clear HO_11 HO125 HO129 HO132 HB; rename_i HO_11 HO125 HO129 HO132 HB; (try clear hb); (try clear hk)) | (go_at_call 15; (with_reducible refine (spec_VectorGood.calls kj30 t119 t120 t121 t122 _ _ t123 t134 _ ?side1 ?side2 A47.out).mono ?_); (case side1 => repeat (first | exact (Kd.R_reads' HO125.out).2.2 | (with_reducible first | apply cA | apply cN | apply cD))); (case side2 => exact (Kd.R_reads' HO125.out).2.1); rintro e w59 ⟨rfl, hb⟩; have _ := AM (Kd.R_below (rX HO_11.out) hb); have _ := AM (Kd.R_below (rX HO125.out) hb); have _ := AM (Kd.R_below (rX HO129.out) hb); have _ := AM (Kd.R_below (rX HO132.out) hb); have _ := AM (below_step (bX HB.out) hb); clear HO_11 HO125 HO129 HO132 HB; rename_i HO_11 HO125 HO129 HO132 HB; (try clear hb); (try clear hk)) | (go_at_call 24; (with_reducible refine (impl_Leader.calls t126 t135 _ A52.out).mono ?_); rintro e w' ⟨rfl, ⟨nd, rfl⟩⟩; (try first | exact ⟨rfl, _, dD⟩ | exact ⟨rfl, _, dA⟩)) | (go_at_call 25; (with_reducible refine (spec_Leader.calls t126 t136 _ A53.out).mono ?_); rintro e w' ⟨rfl, ⟨nd, rfl⟩⟩; (try first | exact ⟨rfl, _, dD⟩ | exact ⟨rfl, _, dA⟩)) | (go_at_call 26; (with_reducible refine (impl_QuorumRight.calls kj30 _ _ t127 t137 _ ?side1 ?side2 A55.out).mono ?_); (case side1 => repeat (first | exact (Kd.R_reads' HO129.out).2.2 | (with_reducible first | apply cA | apply cN | apply cD))); (case side2 => exact (Kd.R_reads' HO129.out).2.1); rintro e w' ⟨rfl, ⟨nd, rfl⟩⟩; (try first | exact ⟨rfl, _, dD⟩ | exact ⟨rfl, _, dA⟩)) | (go_at_call 27; (with_reducible refine (spec_QuorumRight.calls kj30 _ _ t127 t138 _ ?side1 ?side2 A56.out).mono ?_); (case side1 => repeat (first | exact (Kd.R_reads' HO129.out).2.2 | (with_reducible first | apply cA | apply cN | apply cD))); (case side2 => exact (Kd.R_reads' HO129.out).2.1); rintro e w' ⟨rfl, ⟨nd, rfl⟩⟩; (try first | exact ⟨rfl, _, dD⟩ | exact ⟨rfl, _, dA⟩))))
            go_meet
            case rel => exact ⟨_, ((t137 != t138)), (by first | rfl | (simp; done) | (simp [*]; done) | (simp [*, bne]; done)), H', ⟨by have := HJ2.out; have := HJ6.out; have := HK3.out; have := HJ30.out; first | omega | exact Nat.le_refl _⟩, ⟨by (with_reducible repeat (first | apply rA | apply rN | apply rD)); exact Kd.R_mono HO129.out (fun _ hk => hk.2)⟩, ⟨by (with_reducible repeat (first | apply rA | apply rN | apply rD)); exact Kd.R_mono HO132.out (fun _ hk => hk.2)⟩, ⟨bX HB.out⟩⟩
           rw [if_neg c54] at H
           have c54b0 : (t135 == t136) = false := beq_eq_false_iff_ne.mpr c54
           have c54b1 : (t135 != t136) = true := bne_iff_ne.mpr c54
           have H' := AM H
           clear H
           obtain ⟨Ao61, co61, eo61⟩ := Kd.R_slice HO125.out
           subst eo61
           go_wp2_with (first | (go_at_call 17; (with_reducible refine (impl_VectorGood.calls kj30 t119 t120 t121 t122 _ _ t123 t133 _ ?side1 ?side2 ?sideT A46.out).mono ?_); (case sideT => exact tabB TAB.out (bX HB.out)); (case side1 => repeat (first | exact (Kd.R_reads' HO125.out).2.2 | (with_reducible first | apply cA | apply cN | apply cD))); (case side2 => exact (Kd.R_reads' HO125.out).2.1); rintro e w62 ⟨rfl, hb⟩; have _ := AM (Kd.R_below (rX HO_11.out) hb); have _ := AM (Kd.R_below (rX HO125.out) hb); have _ := AM (Kd.R_below (rX HO129.out) hb); have _ := AM (Kd.R_below (rX HO132.out) hb); have _ := AM (below_step (bX HB.out) hb); clear HO_11 HO125 HO129 HO132 HB; rename_i HO_11 HO125 HO129 HO132 HB; (try clear hb); (try clear hk)) | (go_at_call 15; (with_reducible refine (spec_VectorGood.calls kj30 t119 t120 t121 t122 _ _ t123 t134 _ ?side1 ?side2 A47.out).mono ?_); (case side1 => repeat (first | exact (Kd.R_reads' HO125.out).2.2 | (with_reducible first | apply cA | apply cN | apply cD))); (case side2 => exact (Kd.R_reads' HO125.out).2.1); rintro e w63 ⟨rfl, hb⟩; have _ := AM (Kd.R_below (rX HO_11.out) hb); have _ := AM (Kd.R_below (rX HO125.out) hb); have _ := AM (Kd.R_below (rX HO129.out) hb); have _ := AM (Kd.R_below (rX HO132.out) hb); have _ := AM (below_step (bX HB.out) hb); clear HO_11 HO125 HO129 HO132 HB; rename_i HO_11 HO125 HO129 HO132 HB; (try clear hb); (try clear hk)) | (go_at_call 24; (with_reducible refine (impl_Leader.calls t126 t135 _ A52.out).mono ?_); rintro e w' ⟨rfl, ⟨nd, rfl⟩⟩; (try first | exact ⟨rfl, _, dD⟩ | exact ⟨rfl, _, dA⟩)) | (go_at_call 25; (with_reducible refine (spec_Leader.calls t126 t136 _ A53.out).mono ?_); rintro e w' ⟨rfl, ⟨nd, rfl⟩⟩; (try first | exact ⟨rfl, _, dD⟩ | exact ⟨rfl, _, dA⟩)))
           repeat (go_quiet (first | (go_at_call 17; (with_reducible refine (impl_VectorGood.calls kj30 t119 t120 t121 t122 _ _ t123 t133 _ ?side1 ?side2 ?sideT A46.out).mono ?_); (case sideT => exact tabB TAB.out (bX HB.out)); (case side1 => repeat (first | exact (Kd.R_reads' HO125.out).2.2 | (with_reducible first | apply cA | apply cN | apply cD))); (case side2 => exact (Kd.R_reads' HO125.out).2.1); rintro e w62 ⟨rfl, hb⟩; have _ := AM (Kd.R_below (rX HO_11.out) hb); have _ := AM (Kd.R_below (rX HO125.out) hb); have _ := AM (Kd.R_below (rX HO129.out) hb); have _ := AM (Kd.R_below (rX HO132.out) hb); have _ := AM (below_step (bX HB.out) hb); clear HO_11 HO125 HO129 HO132 HB; rename_i HO_11 HO125 HO129 HO132 HB; (try clear hb); (try clear hk)) | (go_at_call 15; (with_reducible refine (spec_VectorGood.calls kj30 t119 t120 t121 t122 _ _ t123 t134 _ ?side1 ?side2 A47.out).mono ?_); (case side1 => repeat (first | exact (Kd.R_reads' HO125.out).2.2 | (with_reducible first | apply cA | apply cN | apply cD))); (case side2 => exact (Kd.R_reads' HO125.out).2.1); rintro e w63 ⟨rfl, hb⟩; have _ := AM (Kd.R_below (rX HO_11.out) hb); have _ := AM (Kd.R_below (rX HO125.out) hb); have _ := AM (Kd.R_below (rX HO129.out) hb); have _ := AM (Kd.R_below (rX HO132.out) hb); have _ := AM (below_step (bX HB.out) hb); clear HO_11 HO125 HO129 HO132 HB; rename_i HO_11 HO125 HO129 HO132 HB; (try clear hb); (try clear hk)) | (go_at_call 24; (with_reducible refine (impl_Leader.calls t126 t135 _ A52.out).mono ?_); rintro e w' ⟨rfl, ⟨nd, rfl⟩⟩; (try first | exact ⟨rfl, _, dD⟩ | exact ⟨rfl, _, dA⟩)) | (go_at_call 25; (with_reducible refine (spec_Leader.calls t126 t136 _ A53.out).mono ?_); rintro e w' ⟨rfl, ⟨nd, rfl⟩⟩; (try first | exact ⟨rfl, _, dD⟩ | exact ⟨rfl, _, dA⟩))); try go_wp2_with (first | (go_at_call 17; (with_reducible refine (impl_VectorGood.calls kj30 t119 t120 t121 t122 _ _ t123 t133 _ ?side1 ?side2 ?sideT A46.out).mono ?_); (case sideT => exact tabB TAB.out (bX HB.out)); (case side1 => repeat (first | exact (Kd.R_reads' HO125.out).2.2 | (with_reducible first | apply cA | apply cN | apply cD))); (case side2 => exact (Kd.R_reads' HO125.out).2.1); rintro e w62 ⟨rfl, hb⟩; have _ := AM (Kd.R_below (rX HO_11.out) hb); have _ := AM (Kd.R_below (rX HO125.out) hb); have _ := AM (Kd.R_below (rX HO129.out) hb); have _ := AM (Kd.R_below (rX HO132.out) hb); have _ := AM (below_step (bX HB.out) hb); clear HO_11 HO125 HO129 HO132 HB; rename_i HO_11 HO125 HO129 HO132 HB; (try clear hb); (try clear hk)) | (go_at_call 15; (with_reducible refine (spec_VectorGood.calls kj30 t119 t120 t121 t122 _ _ t123 t134 _ ?side1 ?side2 A47.out).mono ?_); (case side1 => repeat (first | exact (Kd.R_reads' HO125.out).2.2 | (with_reducible first | apply cA | apply cN | apply cD))); (case side2 => exact (Kd.R_reads' HO125.out).2.1); rintro e w63 ⟨rfl, hb⟩; have _ := AM (Kd.R_below (rX HO_11.out) hb); have _ := AM (Kd.R_below (rX HO125.out) hb); have _ := AM (Kd.R_below (rX HO129.out) hb); have _ := AM (Kd.R_below (rX HO132.out) hb); have _ := AM (below_step (bX HB.out) hb); clear HO_11 HO125 HO129 HO132 HB; rename_i HO_11 HO125 HO129 HO132 HB; (try clear hb); (try clear hk)) | (go_at_call 24; (with_reducible refine (impl_Leader.calls t126 t135 _ A52.out).mono ?_); rintro e w' ⟨rfl, ⟨nd, rfl⟩⟩; (try first | exact ⟨rfl, _, dD⟩ | exact ⟨rfl, _, dA⟩)) | (go_at_call 25; (with_reducible refine (spec_Leader.calls t126 t136 _ A53.out).mono ?_); rintro e w' ⟨rfl, ⟨nd, rfl⟩⟩; (try first | exact ⟨rfl, _, dD⟩ | exact ⟨rfl, _, dA⟩))))
           go_meet
           case rel => exact ⟨_, (true), (by first | rfl | (simp; done) | (simp [*]; done) | (simp [*, bne]; done)), H', ⟨by have := HJ2.out; have := HJ6.out; have := HK3.out; have := HJ30.out; first | omega | exact Nat.le_refl _⟩, ⟨by (with_reducible repeat (first | apply rA | apply rN | apply rD)); exact Kd.R_mono HO129.out (fun _ hk => hk.2)⟩, ⟨by (with_reducible repeat (first | apply rA | apply rN | apply rD)); exact Kd.R_mono HO132.out (fun _ hk => hk.2)⟩, ⟨bX HB.out⟩⟩
          case rest =>
           clear HC41
           (try clear c1); (try clear c2); (try clear p2); (try clear c3); (try clear c4); (try clear c4b0); (try clear c4b1); (try clear c5); (try clear c6); (try clear p6); (try clear c11); (try clear c11b0); (try clear c11b1); (try clear c20); (try clear c25); (try clear c32); (try clear c32b0); (try clear c33); (try clear c35); (try clear c35b0); (try clear c35b1); (try clear c35b2); (try clear c48); (try clear c48b0); (try clear c48b1); (try clear c48b2); (try clear c54); (try clear c54b0); (try clear c54b1)
           obtain ⟨kq, x134_40, rfl, HA, HJ40, HO_19, HO_20, HB⟩ := hcut
           cases kq with
           | zero => exact absurd HA.out (by simp [laws_FnAuth.j4])
           | succ kj40 =>
            have H := HA.out
            clear HA
            simp only [laws_FnAuth.j4] at H
            by_cases c64 : x134_40 = true
            ·
             subst c64
             have H1 : (none) = some r := by rw [if_pos rfl] at H; exact H
             clear H
             have H := H1
             clear H1
             exact absurd H (by simp)
            replace c64 := Bool.eq_false_iff.mpr c64
            subst c64
            have H1 : (laws_FnAuth.l1 kj40 t127 t130 0 0) = some r := by rw [if_neg (show ¬ (false = true) by decide)] at H; exact H
            clear H
            have H := H1
            clear H1
            have H' := AM H
            clear H
            go_wp2
            repeat (go_quiet (fail); try go_wp2)
            go_loopg [21, 22] kj40 (fun kq v21 v22 w' => ∃ (x21_6 : Int) (x22_6 : Int), v21 = .int .i64 x21_6 ∧ v22 = .int .i64 x22_6 ∧ Aside0 (laws_FnAuth.l1 kq t127 t130 x21_6 x22_6 = some r) ∧ Aside0 (kq ≤ kj40) ∧ Aside0 (Kd.R (Kd.int .i64) 2 w' w.heap.size (fun k_ => some k_ ≠ (v131 : Value).ownBlock) v128 t127) ∧ Aside0 (Kd.R (Kd.int .i64) 2 w' w.heap.size (fun k_ => some k_ ≠ (v128 : Value).ownBlock) v131 t130) ∧ Aside0 (Below w.heap.size w w'))
            case atStart => exact ⟨(0), (0), (by first | rfl | (simp; done) | (simp [*]; done)), (by first | rfl | (simp; done) | (simp [*]; done)), H', ⟨Nat.le_refl _⟩, ⟨rX HO_19.out⟩, ⟨rX HO_20.out⟩, ⟨bX HB.out⟩⟩
            case round =>
             clear H'
             (try clear c1); (try clear c2); (try clear p2); (try clear c3); (try clear c4); (try clear c4b0); (try clear c4b1); (try clear c5); (try clear c6); (try clear p6); (try clear c11); (try clear c11b0); (try clear c11b1); (try clear c20); (try clear c25); (try clear c32); (try clear c32b0); (try clear c33); (try clear c35); (try clear c35b0); (try clear c35b1); (try clear c35b2); (try clear c48); (try clear c48b0); (try clear c48b1); (try clear c48b2); (try clear c54); (try clear c54b0); (try clear c54b1); (try clear c64); (try clear p64)
             obtain ⟨x21_6, x22_6, rfl, rfl, HA, HK6, HO_19, HO_20, HB⟩ := hrel
             cases gk with
             | zero => exact absurd HA.out (by simp [laws_FnAuth.l1])
             | succ k6 =>
              have H := HA.out
              clear HA
              simp only [laws_FnAuth.l1] at H
              by_cases c65 : x22_6 < (t127.length : Int)
              ·
               rw [if_pos c65] at H
               have c65b0 : decide (x22_6 < (t127.length : Int)) = true := decide_eq_true c65
               clear c65
               have H' := AM H
               clear H
               obtain ⟨Ao66, co66, eo66⟩ := Kd.R_slice HO_19.out
               subst eo66
               go_wp2
               repeat (go_quiet (fail); try go_wp2)
               go_loopg [21, 23] k6 (fun kq v21 v23 w' => ∃ (x21_7 : Int) (x23_7 : Int), v21 = .int .i64 x21_7 ∧ v23 = .int .i64 x23_7 ∧ Aside0 (laws_FnAuth.l2 kq t127 t130 x21_7 x22_6 x23_7 = some r) ∧ Aside0 (kq ≤ k6) ∧ Aside0 (Kd.R (Kd.int .i64) 2 w' w.heap.size (fun k_ => some k_ ≠ (v131 : Value).ownBlock) (.slice Ao66 t127.length co66) t127) ∧ Aside0 (Kd.R (Kd.int .i64) 2 w' w.heap.size (fun k_ => some k_ ≠ ((.slice Ao66 t127.length co66) : Value).ownBlock) v131 t130) ∧ Aside0 (Below w.heap.size w w'))
               case atStart => exact ⟨(x21_6), (0), (by first | rfl | (simp; done) | (simp [*]; done)), (by first | rfl | (simp; done) | (simp [*]; done)), H', ⟨Nat.le_refl _⟩, ⟨rX HO_19.out⟩, ⟨rX HO_20.out⟩, ⟨bX HB.out⟩⟩
               case round =>
                clear H'
                (try clear c1); (try clear c2); (try clear p2); (try clear c3); (try clear c4); (try clear c4b0); (try clear c4b1); (try clear c5); (try clear c6); (try clear p6); (try clear c11); (try clear c11b0); (try clear c11b1); (try clear c20); (try clear c25); (try clear c32); (try clear c32b0); (try clear c33); (try clear c35); (try clear c35b0); (try clear c35b1); (try clear c35b2); (try clear c48); (try clear c48b0); (try clear c48b1); (try clear c48b2); (try clear c54); (try clear c54b0); (try clear c54b1); (try clear c64); (try clear p64); (try clear c65); (try clear c65b0)
                obtain ⟨x21_7, x23_7, rfl, rfl, HA, HK7, HO_19, HO_20, HB⟩ := hrel
                cases gk with
                | zero => exact absurd HA.out (by simp [laws_FnAuth.l2])
                | succ k7 =>
                 have H := HA.out
                 clear HA
                 simp only [laws_FnAuth.l2] at H
                 by_cases c67 : x23_7 < (t130.length : Int)
                 ·
                  rw [if_pos c67] at H
                  have c67b0 : decide (x23_7 < (t130.length : Int)) = true := decide_eq_true c67
                  clear c67
                  by_cases c68 : 0 ≤ x22_6
                  ·
                   rw [if_pos c68] at H
                   have c68b0 : decide (0 ≤ x22_6) = true := decide_eq_true c68
                   clear c68
                   by_cases c69 : x22_6 < (t127.length : Int)
                   ·
                    rw [if_pos c69] at H
                    have c69b0 : decide (x22_6 < (t127.length : Int)) = true := decide_eq_true c69
                    clear c69
                    by_cases c70 : 0 ≤ x23_7
                    ·
                     rw [if_pos c70] at H
                     have c70b0 : decide (0 ≤ x23_7) = true := decide_eq_true c70
                     clear c70
                     by_cases c71 : (rd t127 x22_6) = (rd t130 x23_7)
                     ·
                      rw [if_pos c71] at H
                      have c71b0 : ((rd t127 x22_6) == (rd t130 x23_7)) = true := beq_iff_eq.mpr c71
                      have c71b1 : ((rd t127 x22_6) != (rd t130 x23_7)) = false := bne_eq_false_iff_eq.mpr c71
                      clear c71
                      have H' := AM H
                      clear H
                      obtain ⟨Ao72, co72, eo72⟩ := Kd.R_slice HO_20.out
                      subst eo72
                      have p141 : 0 ≤ (x22_6 : Int) := of_decide_eq_true (by assumption)
                      have q141 : x22_6 < (t127.length : Int) := of_decide_eq_true (by assumption)
                      obtain ⟨ad141, e141, hx141_0⟩ := Kd.at_int (Kd.R_reads' HO_19.out).2.2 x22_6 p141 q141
                      cases e141
                      replace p141 := eq_true p141
                      replace q141 := eq_true q141
                      have p142 : 0 ≤ (x23_7 : Int) := of_decide_eq_true (by assumption)
                      have q142 : x23_7 < (t130.length : Int) := of_decide_eq_true (by assumption)
                      obtain ⟨ad142, e142, hx142_0⟩ := Kd.at_int (Kd.R_reads' HO_20.out).2.2 x23_7 p142 q142
                      cases e142
                      replace p142 := eq_true p142
                      replace q142 := eq_true q142
                      go_wp2
                      repeat (go_quiet (fail); try go_wp2)
                      go_roundg k7
                      case measure => have := HJ2.out; have := HJ6.out; have := HK3.out; have := HJ30.out; have := HJ40.out; have := HK6.out; have := HK7.out; omega
                      case rel => exact ⟨(wrap64 (x21_7 + 1)), (wrap64 (x23_7 + 1)), (by first | rfl | (simp; done) | (simp [*]; done) | (simp [*, bne]; done)), (by first | rfl | (simp; done) | (simp [*]; done) | (simp [*, bne]; done)), H', ⟨by have := HJ2.out; have := HJ6.out; have := HK3.out; have := HJ30.out; have := HJ40.out; have := HK6.out; have := HK7.out; omega⟩, ⟨rX HO_19.out⟩, ⟨rX HO_20.out⟩, ⟨bX HB.out⟩⟩
                     rw [if_neg c71] at H
                     have c71b0 : ((rd t127 x22_6) == (rd t130 x23_7)) = false := beq_eq_false_iff_ne.mpr c71
                     have c71b1 : ((rd t127 x22_6) != (rd t130 x23_7)) = true := bne_iff_ne.mpr c71
                     have H' := AM H
                     clear H
                     obtain ⟨Ao73, co73, eo73⟩ := Kd.R_slice HO_20.out
                     subst eo73
                     have p141 : 0 ≤ (x22_6 : Int) := of_decide_eq_true (by assumption)
                     have q141 : x22_6 < (t127.length : Int) := of_decide_eq_true (by assumption)
                     obtain ⟨ad141, e141, hx141_0⟩ := Kd.at_int (Kd.R_reads' HO_19.out).2.2 x22_6 p141 q141
                     cases e141
                     replace p141 := eq_true p141
                     replace q141 := eq_true q141
                     have p142 : 0 ≤ (x23_7 : Int) := of_decide_eq_true (by assumption)
                     have q142 : x23_7 < (t130.length : Int) := of_decide_eq_true (by assumption)
                     obtain ⟨ad142, e142, hx142_0⟩ := Kd.at_int (Kd.R_reads' HO_20.out).2.2 x23_7 p142 q142
                     cases e142
                     replace p142 := eq_true p142
                     replace q142 := eq_true q142
                     go_wp2
                     repeat (go_quiet (fail); try go_wp2)
                     go_roundg k7
                     case measure => have := HJ2.out; have := HJ6.out; have := HK3.out; have := HJ30.out; have := HJ40.out; have := HK6.out; have := HK7.out; omega
                     case rel => exact ⟨(x21_7), (wrap64 (x23_7 + 1)), (by first | rfl | (simp; done) | (simp [*]; done) | (simp [*, bne]; done)), (by first | rfl | (simp; done) | (simp [*]; done) | (simp [*, bne]; done)), H', ⟨by have := HJ2.out; have := HJ6.out; have := HK3.out; have := HJ30.out; have := HJ40.out; have := HK6.out; have := HK7.out; omega⟩, ⟨rX HO_19.out⟩, ⟨rX HO_20.out⟩, ⟨bX HB.out⟩⟩
                    rw [if_neg c70] at H
                    exact absurd H (by simp)
                   rw [if_neg c69] at H
                   exact absurd H (by simp)
                  rw [if_neg c68] at H
                  exact absurd H (by simp)
                 rw [if_neg c67] at H
                 have c67b0 : decide (x23_7 < (t130.length : Int)) = false := decide_eq_false c67
                 clear c67
                 have H' := AM H
                 clear H
                 obtain ⟨Ao74, co74, eo74⟩ := Kd.R_slice HO_20.out
                 subst eo74
                 go_wp2
                 repeat (go_quiet (fail); try go_wp2)
                 go_roundg k7
                 case measure => have := HJ2.out; have := HJ6.out; have := HK3.out; have := HJ30.out; have := HJ40.out; have := HK6.out; have := HK7.out; omega
                 case rel => exact ⟨(x21_7), (wrap64 (x22_6 + 1)), (by first | rfl | (simp; done) | (simp [*]; done) | (simp [*, bne]; done)), (by first | rfl | (simp; done) | (simp [*]; done) | (simp [*, bne]; done)), H', ⟨by have := HJ2.out; have := HJ6.out; have := HK3.out; have := HJ30.out; have := HJ40.out; have := HK6.out; have := HK7.out; omega⟩, ⟨rX HO_19.out⟩, ⟨rX HO_20.out⟩, ⟨bX HB.out⟩⟩
              rw [if_neg c65] at H
              have c65b0 : decide (x22_6 < (t127.length : Int)) = false := decide_eq_false c65
              clear c65
              replace H := Option.bind_eq_some_iff.mp H
              obtain ⟨t139, A750, H⟩ := H
              replace H : (if t139 = true then ((impl_QuorumRight.f k6 t130).bind fun t140 => (if t140 = true then (some (decide (x21_6 ≥ 2))) else (some true))) else (some true)) = some r := H
              have A75 := AM A750
              clear A750
              by_cases c76 : t139 = true
              ·
               subst c76
               have H1 : ((impl_QuorumRight.f k6 t130).bind fun t140 => (if t140 = true then (some (decide (x21_6 ≥ 2))) else (some true))) = some r := by rw [if_pos rfl] at H; exact H
               clear H
               have H := H1
               clear H1
               replace H := Option.bind_eq_some_iff.mp H
               obtain ⟨t140, A770, H⟩ := H
               replace H : (if t140 = true then (some (decide (x21_6 ≥ 2))) else (some true)) = some r := H
               have A77 := AM A770
               clear A770
               by_cases c78 : t140 = true
               ·
                subst c78
                have H1 : (some (decide (x21_6 ≥ 2))) = some r := by rw [if_pos rfl] at H; exact H
                clear H
                have H := H1
                clear H1
                obtain rfl := Option.some.inj H
                obtain ⟨Ao79, co79, eo79⟩ := Kd.R_slice HO_19.out
                subst eo79
                obtain ⟨Ao80, co80, eo80⟩ := Kd.R_slice HO_20.out
                subst eo80
                go_wp2_with (first | (go_at_call 26; (with_reducible refine (impl_QuorumRight.calls k6 _ _ t127 true _ ?side1 ?side2 A75.out).mono ?_); (case side1 => repeat (first | exact (Kd.R_reads' HO_19.out).2.2 | (with_reducible first | apply cA | apply cN | apply cD))); (case side2 => exact (Kd.R_reads' HO_19.out).2.1); rintro e w' ⟨rfl, ⟨nd, rfl⟩⟩; (try first | exact ⟨rfl, _, dD⟩ | exact ⟨rfl, _, dA⟩)) | (go_at_call 26; (with_reducible refine (impl_QuorumRight.calls k6 _ _ t130 true _ ?side1 ?side2 A77.out).mono ?_); (case side1 => repeat (first | exact (Kd.R_reads' HO_20.out).2.2 | (with_reducible first | apply cA | apply cN | apply cD))); (case side2 => exact (Kd.R_reads' HO_20.out).2.1); rintro e w' ⟨rfl, ⟨nd, rfl⟩⟩; (try first | exact ⟨rfl, _, dD⟩ | exact ⟨rfl, _, dA⟩)))
                repeat (go_quiet (first | (go_at_call 26; (with_reducible refine (impl_QuorumRight.calls k6 _ _ t127 true _ ?side1 ?side2 A75.out).mono ?_); (case side1 => repeat (first | exact (Kd.R_reads' HO_19.out).2.2 | (with_reducible first | apply cA | apply cN | apply cD))); (case side2 => exact (Kd.R_reads' HO_19.out).2.1); rintro e w' ⟨rfl, ⟨nd, rfl⟩⟩; (try first | exact ⟨rfl, _, dD⟩ | exact ⟨rfl, _, dA⟩)) | (go_at_call 26; (with_reducible refine (impl_QuorumRight.calls k6 _ _ t130 true _ ?side1 ?side2 A77.out).mono ?_); (case side1 => repeat (first | exact (Kd.R_reads' HO_20.out).2.2 | (with_reducible first | apply cA | apply cN | apply cD))); (case side2 => exact (Kd.R_reads' HO_20.out).2.1); rintro e w' ⟨rfl, ⟨nd, rfl⟩⟩; (try first | exact ⟨rfl, _, dD⟩ | exact ⟨rfl, _, dA⟩))); try go_wp2_with (first | (go_at_call 26; (with_reducible refine (impl_QuorumRight.calls k6 _ _ t127 true _ ?side1 ?side2 A75.out).mono ?_); (case side1 => repeat (first | exact (Kd.R_reads' HO_19.out).2.2 | (with_reducible first | apply cA | apply cN | apply cD))); (case side2 => exact (Kd.R_reads' HO_19.out).2.1); rintro e w' ⟨rfl, ⟨nd, rfl⟩⟩; (try first | exact ⟨rfl, _, dD⟩ | exact ⟨rfl, _, dA⟩)) | (go_at_call 26; (with_reducible refine (impl_QuorumRight.calls k6 _ _ t130 true _ ?side1 ?side2 A77.out).mono ?_); (case side1 => repeat (first | exact (Kd.R_reads' HO_20.out).2.2 | (with_reducible first | apply cA | apply cN | apply cD))); (case side2 => exact (Kd.R_reads' HO_20.out).2.1); rintro e w' ⟨rfl, ⟨nd, rfl⟩⟩; (try first | exact ⟨rfl, _, dD⟩ | exact ⟨rfl, _, dA⟩))))
                go_ret
                exact ⟨by first | rfl | (simp [*, errW_none, errW_some] <;> rfl), bX HB.out⟩
               replace c78 := Bool.eq_false_iff.mpr c78
               subst c78
               have H1 : (some true) = some r := by rw [if_neg (show ¬ (false = true) by decide)] at H; exact H
               clear H
               have H := H1
               clear H1
               obtain rfl := Option.some.inj H
               obtain ⟨Ao81, co81, eo81⟩ := Kd.R_slice HO_19.out
               subst eo81
               obtain ⟨Ao82, co82, eo82⟩ := Kd.R_slice HO_20.out
               subst eo82
               go_wp2_with (first | (go_at_call 26; (with_reducible refine (impl_QuorumRight.calls k6 _ _ t127 true _ ?side1 ?side2 A75.out).mono ?_); (case side1 => repeat (first | exact (Kd.R_reads' HO_19.out).2.2 | (with_reducible first | apply cA | apply cN | apply cD))); (case side2 => exact (Kd.R_reads' HO_19.out).2.1); rintro e w' ⟨rfl, ⟨nd, rfl⟩⟩; (try first | exact ⟨rfl, _, dD⟩ | exact ⟨rfl, _, dA⟩)) | (go_at_call 26; (with_reducible refine (impl_QuorumRight.calls k6 _ _ t130 false _ ?side1 ?side2 A77.out).mono ?_); (case side1 => repeat (first | exact (Kd.R_reads' HO_20.out).2.2 | (with_reducible first | apply cA | apply cN | apply cD))); (case side2 => exact (Kd.R_reads' HO_20.out).2.1); rintro e w' ⟨rfl, ⟨nd, rfl⟩⟩; (try first | exact ⟨rfl, _, dD⟩ | exact ⟨rfl, _, dA⟩)))
               repeat (go_quiet (first | (go_at_call 26; (with_reducible refine (impl_QuorumRight.calls k6 _ _ t127 true _ ?side1 ?side2 A75.out).mono ?_); (case side1 => repeat (first | exact (Kd.R_reads' HO_19.out).2.2 | (with_reducible first | apply cA | apply cN | apply cD))); (case side2 => exact (Kd.R_reads' HO_19.out).2.1); rintro e w' ⟨rfl, ⟨nd, rfl⟩⟩; (try first | exact ⟨rfl, _, dD⟩ | exact ⟨rfl, _, dA⟩)) | (go_at_call 26; (with_reducible refine (impl_QuorumRight.calls k6 _ _ t130 false _ ?side1 ?side2 A77.out).mono ?_); (case side1 => repeat (first | exact (Kd.R_reads' HO_20.out).2.2 | (with_reducible first | apply cA | apply cN | apply cD))); (case side2 => exact (Kd.R_reads' HO_20.out).2.1); rintro e w' ⟨rfl, ⟨nd, rfl⟩⟩; (try first | exact ⟨rfl, _, dD⟩ | exact ⟨rfl, _, dA⟩))); try go_wp2_with (first | (go_at_call 26; (with_reducible refine (impl_QuorumRight.calls k6 _ _ t127 true _ ?side1 ?side2 A75.out).mono ?_); (case side1 => repeat (first | exact (Kd.R_reads' HO_19.out).2.2 | (with_reducible first | apply cA | apply cN | apply cD))); (case side2 => exact (Kd.R_reads' HO_19.out).2.1); rintro e w' ⟨rfl, ⟨nd, rfl⟩⟩; (try first | exact ⟨rfl, _, dD⟩ | exact ⟨rfl, _, dA⟩)) | (go_at_call 26; (with_reducible refine (impl_QuorumRight.calls k6 _ _ t130 false _ ?side1 ?side2 A77.out).mono ?_); (case side1 => repeat (first | exact (Kd.R_reads' HO_20.out).2.2 | (with_reducible first | apply cA | apply cN | apply cD))); (case side2 => exact (Kd.R_reads' HO_20.out).2.1); rintro e w' ⟨rfl, ⟨nd, rfl⟩⟩; (try first | exact ⟨rfl, _, dD⟩ | exact ⟨rfl, _, dA⟩))))
               go_ret
               exact ⟨by first | rfl | (simp [*, errW_none, errW_some] <;> rfl), bX HB.out⟩
              replace c76 := Bool.eq_false_iff.mpr c76
              subst c76
              have H1 : (some true) = some r := by rw [if_neg (show ¬ (false = true) by decide)] at H; exact H
              clear H
              have H := H1
              clear H1
              obtain rfl := Option.some.inj H
              obtain ⟨Ao83, co83, eo83⟩ := Kd.R_slice HO_19.out
              subst eo83
              go_wp2_with (first | (go_at_call 26; (with_reducible refine (impl_QuorumRight.calls k6 _ _ t127 false _ ?side1 ?side2 A75.out).mono ?_); (case side1 => repeat (first | exact (Kd.R_reads' HO_19.out).2.2 | (with_reducible first | apply cA | apply cN | apply cD))); (case side2 => exact (Kd.R_reads' HO_19.out).2.1); rintro e w' ⟨rfl, ⟨nd, rfl⟩⟩; (try first | exact ⟨rfl, _, dD⟩ | exact ⟨rfl, _, dA⟩)))
              repeat (go_quiet (first | (go_at_call 26; (with_reducible refine (impl_QuorumRight.calls k6 _ _ t127 false _ ?side1 ?side2 A75.out).mono ?_); (case side1 => repeat (first | exact (Kd.R_reads' HO_19.out).2.2 | (with_reducible first | apply cA | apply cN | apply cD))); (case side2 => exact (Kd.R_reads' HO_19.out).2.1); rintro e w' ⟨rfl, ⟨nd, rfl⟩⟩; (try first | exact ⟨rfl, _, dD⟩ | exact ⟨rfl, _, dA⟩))); try go_wp2_with (first | (go_at_call 26; (with_reducible refine (impl_QuorumRight.calls k6 _ _ t127 false _ ?side1 ?side2 A75.out).mono ?_); (case side1 => repeat (first | exact (Kd.R_reads' HO_19.out).2.2 | (with_reducible first | apply cA | apply cN | apply cD))); (case side2 => exact (Kd.R_reads' HO_19.out).2.1); rintro e w' ⟨rfl, ⟨nd, rfl⟩⟩; (try first | exact ⟨rfl, _, dD⟩ | exact ⟨rfl, _, dA⟩))))
              go_ret
              exact ⟨by first | rfl | (simp [*, errW_none, errW_some] <;> rfl), bX HB.out⟩
     replace c25 := Bool.eq_false_iff.mpr c25
     subst c25
     have H1 : (none) = some r := by rw [if_neg (show ¬ (false = true) by decide)] at H; exact H
     clear H
     have H := H1
     clear H1
     exact absurd H (by simp)

end Go.Proofs.YtgpgamapopnfcaaDoor.Q
