/- Printed by a program of this session (wip/mp.py over the kit's print.py): functions of the translation as plain Lean functions, and that the machine's calls do what these say. -/
import Derived.Test.YtbaacdlocoajeaaQx0
import Derived.Test.YtbaacdlocoajeaaQx4
import Derived.Test.YtbaacdlocoajeaaQx6
import Derived.Test.YtbaacdlocoajeaaQx7
import Derived.Test.YtbaacdlocoajeaaQx9
namespace Go.Proofs.Ytbaacdlocoajeaa.Q
open Go.RowKit Go.Proofs.Ytbaacdlocoajeaa.HB Go.Proofs.YtbaacdlocoajeaaW.PrintWords Go.Proofs.YtbaacdlocoajeaaW.PrintLast Go.Proofs.YtbaacdlocoajeaaW.PrintMore
attribute [local go_sem] max2_int min2_int max_two min_two max_three min_three max_four min_four   -- for this text's walks alone
set_option linter.unusedVariables false
set_option linter.unusedSimpArgs false

/-! ### laws_FnProof: function 3 -/
abbrev laws_FnProof.b0 : Array Bool := #[false, true, false, false, false, false, false, false, false, false, false, false, false, false, false, false, false, false, false, false, false, false, false, false, false, false, false, false, false, false, false, false, false, false, false, false]
abbrev laws_FnProof.b1 : Array Bool := #[false, true, true, false, false, false, false, false, false, false, false, false, false, false, false, false, false, false, false, false, false, false, false, false, false, false, false, false, false, false, false, false, false, false, false, false]
abbrev laws_FnProof.b2 : Array Bool := #[false, true, true, true, false, false, false, false, false, false, false, false, false, false, false, false, false, false, false, false, false, false, false, false, false, false, false, false, false, false, false, false, false, false, false, false]
abbrev laws_FnProof.b3 : Array Bool := #[false, true, true, true, true, false, false, false, false, false, false, false, false, false, false, false, false, false, false, false, false, false, false, false, false, false, false, false, false, false, false, false, false, false, false, false]
abbrev laws_FnProof.b4 : Array Bool := #[true, true, true, true, true, true, true, true, true, true, true, false, true, false, false, false, false, false, false, false, false, false, false, false, false, false, false, false, false, false, false, false, false, false, false, false]
abbrev laws_FnProof.b5 : Array Bool := #[true, true, true, true, true, true, true, true, true, true, true, false, true, true, false, false, false, false, false, false, false, false, false, false, false, false, false, false, false, false, false, false, false, false, false, false]
abbrev laws_FnProof.b6 : Array Bool := #[true, true, true, true, true, true, true, true, true, true, true, true, true, true, true, true, true, true, true, true, true, false, true, false, false, false, false, false, false, false, false, false, false, false, false, false]
abbrev laws_FnProof.b7 : Array Bool := #[true, true, true, true, true, true, true, true, true, true, true, true, true, true, true, true, true, true, true, true, true, false, true, true, false, false, false, false, false, false, false, false, false, false, false, false]
abbrev laws_FnProof.b8 : Array Bool := #[true, true, true, true, true, true, true, true, true, true, true, true, true, true, true, true, true, true, true, true, true, true, true, true, true, true, true, true, true, true, false, true, false, false, false, false]
abbrev laws_FnProof.b9 : Array Bool := #[true, true, true, true, true, true, true, true, true, true, true, true, true, true, true, true, true, true, true, true, true, true, true, true, true, true, true, true, true, true, false, true, true, false, false, false]
abbrev laws_FnProof.b10 : Array Bool := #[true, true, true, true, true, false, true, false, false, false, false, false, false, false, false, false, false, false, false, false, false, false]
abbrev laws_FnProof.b11 : Array Bool := #[true, true, true, true, true, false, true, true, false, false, false, false, false, false, false, false, false, false, false, false, false, false]
abbrev laws_FnProof.b12 : Array Bool := #[true, true, true, true, true, false, true, true, true, false, false, false, false, false, false, false, false, false, false, false, false, false]
abbrev laws_FnProof.b13 : Array Bool := #[true, true, true, true, true, false, true, true, true, true, false, false, false, false, false, false, false, false, false, false, false, false]
abbrev laws_FnProof.b14 : Array Bool := #[true, true, true, true, true, true, true, true, true, true, true, true, true, true, true, true, true, false, false, true, false, false]
abbrev laws_FnProof.b15 : Array Bool := #[true, true, true, true, true, true, true, true, true, true, true, true, true, true, true, true, true, true, false, true, false, false]
mutual
def laws_FnProof.j0 : Nat → List Int → List Int → Bool → Option (Bool)
  | 0, _, _, _ => none
  | k + 1, x0, x1, x23 => if x23 = true then (some true) else ((spec_DrawProofOf.f k x0).bind fun bt101 => ((impl_ProofOf.f k bt101.1 bt101.2.1 bt101.2.2.1 bt101.2.2.2).bind fun bt107 => ((spec_DrawPrepared.f k x1).bind fun bt114 => ((spec_ProofOf.f k bt101.1 bt101.2.1 bt101.2.2.1 bt101.2.2.2).bind fun bt118 => ((laws_lwProof.f k bt107.1 bt107.2.1 bt107.2.2.1 bt107.2.2.2 bt118.1 bt118.2.1 bt118.2.2.1 bt118.2.2.2).bind fun t124 => (if t124 = true then ((impl_Prepared.f k bt114.1 bt114.2).bind fun bt125 => ((spec_Prepared.f k bt114.1 bt114.2).bind fun bt131 => ((laws_lwProof.f k bt125.1 bt125.2.1 bt125.2.2.1 bt125.2.2.2 bt131.1 bt131.2.1 bt131.2.2.1 bt131.2.2.2).bind fun t137 => (if t137 = true then ((impl_Decided.f k bt114.1 bt114.2).bind fun t138 => ((spec_Decided.f k bt114.1 bt114.2).bind fun t139 => (if (t138 != t139) = true then (laws_FnProof.j1 k bt101.1 bt101.2.1 bt101.2.2.1 bt101.2.2.2 bt114.1 bt114.2 true bt107.1 bt107.2.1 bt107.2.2.1 bt107.2.2.2) else ((impl_OpOf.f k bt114.1 bt114.2).bind fun t140 => ((spec_OpOf.f k bt114.1 bt114.2).bind fun t141 => (laws_FnProof.j1 k bt101.1 bt101.2.1 bt101.2.2.1 bt101.2.2.2 bt114.1 bt114.2 (t140.toList != t141.toList) bt107.1 bt107.2.1 bt107.2.2.1 bt107.2.2.2)))))) else (laws_FnProof.j1 k bt101.1 bt101.2.1 bt101.2.2.1 bt101.2.2.2 bt114.1 bt114.2 true bt107.1 bt107.2.1 bt107.2.2.1 bt107.2.2.2))))) else (laws_FnProof.j1 k bt101.1 bt101.2.1 bt101.2.2.1 bt101.2.2.2 bt114.1 bt114.2 true bt107.1 bt107.2.1 bt107.2.2.1 bt107.2.2.2)))))))
def laws_FnProof.j1 : Nat → List (S45) → Int → Int → ByteArray → List (S45) → Int → Bool → Int → Int → ByteArray → List Int → Option (Bool)
  | 0, _, _, _, _, _, _, _, _, _, _, _ => none
  | k + 1, x5, x6, x7, x8, x10, x11, x76, x114000, x114001, x114002, x114003 => if x76 = true then (none) else (if (x114003.length : Int) > 0 then (laws_FnProof.l0 k x5 x6 x7 x8 x10 x11 (([(⟨#[]⟩ : ByteArray), (⟨#[97]⟩ : ByteArray), (⟨#[98]⟩ : ByteArray), (⟨#[99]⟩ : ByteArray), (⟨#[100]⟩ : ByteArray)] : List ByteArray)) 0 x114000 x114001 x114002 x114003) else (laws_FnProof.j3 k x10 x11))
def laws_FnProof.j3 : Nat → List (S45) → Int → Option (Bool)
  | 0, _, _ => none
  | k + 1, x10, x11 => (impl_Decided.f k x10 x11).bind fun t164 => (if t164 = true then (laws_FnProof.l1 k x10 x11 false 0) else ((impl_OpOf.f k x10 x11).bind fun t165 => (some (t165.toList == ([] : List UInt8)))))
def laws_FnProof.l1 : Nat → List (S45) → Int → Bool → Int → Option (Bool)
  | 0, _, _, _, _ => none
  | k + 1, x10, x11, x14, x15 => if x15 ≤ 7 then (if x14 = true then (laws_FnProof.l1 k x10 x11 true (wrap64 (x15 + 1))) else ((impl_OpOf.f k x10 x11).bind fun t166 => ((spec_Voters.f k x10 3 x15 x11 t166).bind fun t167 => (laws_FnProof.l1 k x10 x11 (decide ((t167.length : Int) ≥ 3)) (wrap64 (x15 + 1)))))) else (some x14)
def laws_FnProof.l0 : Nat → List (S45) → Int → Int → ByteArray → List (S45) → Int → List ByteArray → Int → Int → Int → ByteArray → List Int → Option (Bool)
  | 0, _, _, _, _, _, _, _, _, _, _, _, _ => none
  | k + 1, x5, x6, x7, x8, x10, x11, x12, x13, x114000, x114001, x114002, x114003 => if x13 < (x12.length : Int) then (if 0 ≤ x13 then (if (rdOf ByteArray.empty x12 x13).toList = x8.toList then (laws_FnProof.l0 k x5 x6 x7 x8 x10 x11 x12 (wrap64 (x13 + 1)) x114000 x114001 x114002 x114003) else ((impl_ProofOf.f k x5 x6 x7 (rdOf ByteArray.empty x12 x13)).bind fun bt147 => (if (bt147.2.2.2.length : Int) > 0 then (none) else (laws_FnProof.l0 k x5 x6 x7 x8 x10 x11 x12 (wrap64 (x13 + 1)) x114000 x114001 x114002 x114003)))) else (none)) else ((spec_ProofRight.f k x114000 x114001 x114002 x114003).bind fun t153 => (if t153 = true then ((spec_Voters.f k x5 2 x6 x7 x8).bind fun t154 => ((laws_lwNums.f k x114003 t154).bind fun t157 => (if t157 = true then ((impl_Prepared.f k x5 x7).bind fun bt158 => (if bt158.1 < x6 then (none) else (laws_FnProof.j3 k x10 x11))) else (none)))) else (none)))
end
def laws_FnProof.f (k : Nat) (l0 : List Int) (l1 : List Int) : Option (Bool) := if (l0.length : Int) > 1048576 then (laws_FnProof.j0 k l0 l1 true) else (laws_FnProof.j0 k l0 l1 (decide ((l1.length : Int) > 1048576)))
theorem laws_FnProof.mono_l : ∀ k, (∀ y0 y1 y2, LeO (laws_FnProof.j0 k y0 y1 y2) (laws_FnProof.j0 (k + 1) y0 y1 y2)) ∧ (∀ y0 y1 y2 y3 y4 y5 y6 y7 y8 y9 y10, LeO (laws_FnProof.j1 k y0 y1 y2 y3 y4 y5 y6 y7 y8 y9 y10) (laws_FnProof.j1 (k + 1) y0 y1 y2 y3 y4 y5 y6 y7 y8 y9 y10)) ∧ (∀ y0 y1, LeO (laws_FnProof.j3 k y0 y1) (laws_FnProof.j3 (k + 1) y0 y1)) ∧ (∀ y0 y1 y2 y3, LeO (laws_FnProof.l1 k y0 y1 y2 y3) (laws_FnProof.l1 (k + 1) y0 y1 y2 y3)) ∧ (∀ y0 y1 y2 y3 y4 y5 y6 y7 y8 y9 y10 y11, LeO (laws_FnProof.l0 k y0 y1 y2 y3 y4 y5 y6 y7 y8 y9 y10 y11) (laws_FnProof.l0 (k + 1) y0 y1 y2 y3 y4 y5 y6 y7 y8 y9 y10 y11))
  | 0 => ⟨fun _ _ _ r h => by simp [laws_FnProof.j0] at h, fun _ _ _ _ _ _ _ _ _ _ _ r h => by simp [laws_FnProof.j1] at h, fun _ _ r h => by simp [laws_FnProof.j3] at h, fun _ _ _ _ r h => by simp [laws_FnProof.l1] at h, fun _ _ _ _ _ _ _ _ _ _ _ _ r h => by simp [laws_FnProof.l0] at h⟩
  | k + 1 => by
    obtain ⟨ih0, ih1, ih2, ih3, ih4⟩ := laws_FnProof.mono_l k
    refine ⟨?_, ?_, ?_, ?_, ?_⟩
    · intro y0 y1 y2
      unfold laws_FnProof.j0
      repeat' first
      | (with_reducible exact ih0 _ _ _)
      | (with_reducible exact ih1 _ _ _ _ _ _ _ _ _ _ _)
      | (with_reducible exact ih2 _ _)
      | (with_reducible exact ih3 _ _ _ _)
      | (with_reducible exact ih4 _ _ _ _ _ _ _ _ _ _ _ _)
      | (with_reducible exact impl_Decided.mono _ _ _)
      | (with_reducible exact impl_OpOf.mono _ _ _)
      | (with_reducible exact impl_Prepared.mono _ _ _)
      | (with_reducible exact impl_ProofOf.mono _ _ _ _ _)
      | (with_reducible exact laws_lwNums.mono _ _ _)
      | (with_reducible exact laws_lwProof.mono _ _ _ _ _ _ _ _ _)
      | (with_reducible exact spec_Decided.mono _ _ _)
      | (with_reducible exact spec_DrawPrepared.mono _ _)
      | (with_reducible exact spec_DrawProofOf.mono _ _)
      | (with_reducible exact spec_OpOf.mono _ _ _)
      | (with_reducible exact spec_Prepared.mono _ _ _)
      | (with_reducible exact spec_ProofOf.mono _ _ _ _ _)
      | (with_reducible exact spec_ProofRight.mono _ _ _ _ _)
      | (with_reducible exact spec_Voters.mono _ _ _ _ _ _)
      | (with_reducible exact LeO.refl _)
      | (with_reducible exact LeO.none _)
      | (with_reducible refine LeO.ite ?_ ?_)
      | (with_reducible refine LeO.bind ?_ (fun _ => ?_))
      | exact ih0 _ _ _
      | exact ih1 _ _ _ _ _ _ _ _ _ _ _
      | exact ih2 _ _
      | exact ih3 _ _ _ _
      | exact ih4 _ _ _ _ _ _ _ _ _ _ _ _
      | exact impl_Decided.mono _ _ _
      | exact impl_OpOf.mono _ _ _
      | exact impl_Prepared.mono _ _ _
      | exact impl_ProofOf.mono _ _ _ _ _
      | exact laws_lwNums.mono _ _ _
      | exact laws_lwProof.mono _ _ _ _ _ _ _ _ _
      | exact spec_Decided.mono _ _ _
      | exact spec_DrawPrepared.mono _ _
      | exact spec_DrawProofOf.mono _ _
      | exact spec_OpOf.mono _ _ _
      | exact spec_Prepared.mono _ _ _
      | exact spec_ProofOf.mono _ _ _ _ _
      | exact spec_ProofRight.mono _ _ _ _ _
      | exact spec_Voters.mono _ _ _ _ _ _
      | exact LeO.none _
      | refine LeO.ite ?_ ?_
      | refine LeO.bind ?_ (fun _ => ?_)
    · intro y0 y1 y2 y3 y4 y5 y6 y7 y8 y9 y10
      unfold laws_FnProof.j1
      repeat' first
      | (with_reducible exact ih0 _ _ _)
      | (with_reducible exact ih1 _ _ _ _ _ _ _ _ _ _ _)
      | (with_reducible exact ih2 _ _)
      | (with_reducible exact ih3 _ _ _ _)
      | (with_reducible exact ih4 _ _ _ _ _ _ _ _ _ _ _ _)
      | (with_reducible exact impl_Decided.mono _ _ _)
      | (with_reducible exact impl_OpOf.mono _ _ _)
      | (with_reducible exact impl_Prepared.mono _ _ _)
      | (with_reducible exact impl_ProofOf.mono _ _ _ _ _)
      | (with_reducible exact laws_lwNums.mono _ _ _)
      | (with_reducible exact laws_lwProof.mono _ _ _ _ _ _ _ _ _)
      | (with_reducible exact spec_Decided.mono _ _ _)
      | (with_reducible exact spec_DrawPrepared.mono _ _)
      | (with_reducible exact spec_DrawProofOf.mono _ _)
      | (with_reducible exact spec_OpOf.mono _ _ _)
      | (with_reducible exact spec_Prepared.mono _ _ _)
      | (with_reducible exact spec_ProofOf.mono _ _ _ _ _)
      | (with_reducible exact spec_ProofRight.mono _ _ _ _ _)
      | (with_reducible exact spec_Voters.mono _ _ _ _ _ _)
      | (with_reducible exact LeO.refl _)
      | (with_reducible exact LeO.none _)
      | (with_reducible refine LeO.ite ?_ ?_)
      | (with_reducible refine LeO.bind ?_ (fun _ => ?_))
      | exact ih0 _ _ _
      | exact ih1 _ _ _ _ _ _ _ _ _ _ _
      | exact ih2 _ _
      | exact ih3 _ _ _ _
      | exact ih4 _ _ _ _ _ _ _ _ _ _ _ _
      | exact impl_Decided.mono _ _ _
      | exact impl_OpOf.mono _ _ _
      | exact impl_Prepared.mono _ _ _
      | exact impl_ProofOf.mono _ _ _ _ _
      | exact laws_lwNums.mono _ _ _
      | exact laws_lwProof.mono _ _ _ _ _ _ _ _ _
      | exact spec_Decided.mono _ _ _
      | exact spec_DrawPrepared.mono _ _
      | exact spec_DrawProofOf.mono _ _
      | exact spec_OpOf.mono _ _ _
      | exact spec_Prepared.mono _ _ _
      | exact spec_ProofOf.mono _ _ _ _ _
      | exact spec_ProofRight.mono _ _ _ _ _
      | exact spec_Voters.mono _ _ _ _ _ _
      | exact LeO.none _
      | refine LeO.ite ?_ ?_
      | refine LeO.bind ?_ (fun _ => ?_)
    · intro y0 y1
      unfold laws_FnProof.j3
      repeat' first
      | (with_reducible exact ih0 _ _ _)
      | (with_reducible exact ih1 _ _ _ _ _ _ _ _ _ _ _)
      | (with_reducible exact ih2 _ _)
      | (with_reducible exact ih3 _ _ _ _)
      | (with_reducible exact ih4 _ _ _ _ _ _ _ _ _ _ _ _)
      | (with_reducible exact impl_Decided.mono _ _ _)
      | (with_reducible exact impl_OpOf.mono _ _ _)
      | (with_reducible exact impl_Prepared.mono _ _ _)
      | (with_reducible exact impl_ProofOf.mono _ _ _ _ _)
      | (with_reducible exact laws_lwNums.mono _ _ _)
      | (with_reducible exact laws_lwProof.mono _ _ _ _ _ _ _ _ _)
      | (with_reducible exact spec_Decided.mono _ _ _)
      | (with_reducible exact spec_DrawPrepared.mono _ _)
      | (with_reducible exact spec_DrawProofOf.mono _ _)
      | (with_reducible exact spec_OpOf.mono _ _ _)
      | (with_reducible exact spec_Prepared.mono _ _ _)
      | (with_reducible exact spec_ProofOf.mono _ _ _ _ _)
      | (with_reducible exact spec_ProofRight.mono _ _ _ _ _)
      | (with_reducible exact spec_Voters.mono _ _ _ _ _ _)
      | (with_reducible exact LeO.refl _)
      | (with_reducible exact LeO.none _)
      | (with_reducible refine LeO.ite ?_ ?_)
      | (with_reducible refine LeO.bind ?_ (fun _ => ?_))
      | exact ih0 _ _ _
      | exact ih1 _ _ _ _ _ _ _ _ _ _ _
      | exact ih2 _ _
      | exact ih3 _ _ _ _
      | exact ih4 _ _ _ _ _ _ _ _ _ _ _ _
      | exact impl_Decided.mono _ _ _
      | exact impl_OpOf.mono _ _ _
      | exact impl_Prepared.mono _ _ _
      | exact impl_ProofOf.mono _ _ _ _ _
      | exact laws_lwNums.mono _ _ _
      | exact laws_lwProof.mono _ _ _ _ _ _ _ _ _
      | exact spec_Decided.mono _ _ _
      | exact spec_DrawPrepared.mono _ _
      | exact spec_DrawProofOf.mono _ _
      | exact spec_OpOf.mono _ _ _
      | exact spec_Prepared.mono _ _ _
      | exact spec_ProofOf.mono _ _ _ _ _
      | exact spec_ProofRight.mono _ _ _ _ _
      | exact spec_Voters.mono _ _ _ _ _ _
      | exact LeO.none _
      | refine LeO.ite ?_ ?_
      | refine LeO.bind ?_ (fun _ => ?_)
    · intro y0 y1 y2 y3
      unfold laws_FnProof.l1
      repeat' first
      | (with_reducible exact ih0 _ _ _)
      | (with_reducible exact ih1 _ _ _ _ _ _ _ _ _ _ _)
      | (with_reducible exact ih2 _ _)
      | (with_reducible exact ih3 _ _ _ _)
      | (with_reducible exact ih4 _ _ _ _ _ _ _ _ _ _ _ _)
      | (with_reducible exact impl_Decided.mono _ _ _)
      | (with_reducible exact impl_OpOf.mono _ _ _)
      | (with_reducible exact impl_Prepared.mono _ _ _)
      | (with_reducible exact impl_ProofOf.mono _ _ _ _ _)
      | (with_reducible exact laws_lwNums.mono _ _ _)
      | (with_reducible exact laws_lwProof.mono _ _ _ _ _ _ _ _ _)
      | (with_reducible exact spec_Decided.mono _ _ _)
      | (with_reducible exact spec_DrawPrepared.mono _ _)
      | (with_reducible exact spec_DrawProofOf.mono _ _)
      | (with_reducible exact spec_OpOf.mono _ _ _)
      | (with_reducible exact spec_Prepared.mono _ _ _)
      | (with_reducible exact spec_ProofOf.mono _ _ _ _ _)
      | (with_reducible exact spec_ProofRight.mono _ _ _ _ _)
      | (with_reducible exact spec_Voters.mono _ _ _ _ _ _)
      | (with_reducible exact LeO.refl _)
      | (with_reducible exact LeO.none _)
      | (with_reducible refine LeO.ite ?_ ?_)
      | (with_reducible refine LeO.bind ?_ (fun _ => ?_))
      | exact ih0 _ _ _
      | exact ih1 _ _ _ _ _ _ _ _ _ _ _
      | exact ih2 _ _
      | exact ih3 _ _ _ _
      | exact ih4 _ _ _ _ _ _ _ _ _ _ _ _
      | exact impl_Decided.mono _ _ _
      | exact impl_OpOf.mono _ _ _
      | exact impl_Prepared.mono _ _ _
      | exact impl_ProofOf.mono _ _ _ _ _
      | exact laws_lwNums.mono _ _ _
      | exact laws_lwProof.mono _ _ _ _ _ _ _ _ _
      | exact spec_Decided.mono _ _ _
      | exact spec_DrawPrepared.mono _ _
      | exact spec_DrawProofOf.mono _ _
      | exact spec_OpOf.mono _ _ _
      | exact spec_Prepared.mono _ _ _
      | exact spec_ProofOf.mono _ _ _ _ _
      | exact spec_ProofRight.mono _ _ _ _ _
      | exact spec_Voters.mono _ _ _ _ _ _
      | exact LeO.none _
      | refine LeO.ite ?_ ?_
      | refine LeO.bind ?_ (fun _ => ?_)
    · intro y0 y1 y2 y3 y4 y5 y6 y7 y8 y9 y10 y11
      unfold laws_FnProof.l0
      repeat' first
      | (with_reducible exact ih0 _ _ _)
      | (with_reducible exact ih1 _ _ _ _ _ _ _ _ _ _ _)
      | (with_reducible exact ih2 _ _)
      | (with_reducible exact ih3 _ _ _ _)
      | (with_reducible exact ih4 _ _ _ _ _ _ _ _ _ _ _ _)
      | (with_reducible exact impl_Decided.mono _ _ _)
      | (with_reducible exact impl_OpOf.mono _ _ _)
      | (with_reducible exact impl_Prepared.mono _ _ _)
      | (with_reducible exact impl_ProofOf.mono _ _ _ _ _)
      | (with_reducible exact laws_lwNums.mono _ _ _)
      | (with_reducible exact laws_lwProof.mono _ _ _ _ _ _ _ _ _)
      | (with_reducible exact spec_Decided.mono _ _ _)
      | (with_reducible exact spec_DrawPrepared.mono _ _)
      | (with_reducible exact spec_DrawProofOf.mono _ _)
      | (with_reducible exact spec_OpOf.mono _ _ _)
      | (with_reducible exact spec_Prepared.mono _ _ _)
      | (with_reducible exact spec_ProofOf.mono _ _ _ _ _)
      | (with_reducible exact spec_ProofRight.mono _ _ _ _ _)
      | (with_reducible exact spec_Voters.mono _ _ _ _ _ _)
      | (with_reducible exact LeO.refl _)
      | (with_reducible exact LeO.none _)
      | (with_reducible refine LeO.ite ?_ ?_)
      | (with_reducible refine LeO.bind ?_ (fun _ => ?_))
      | exact ih0 _ _ _
      | exact ih1 _ _ _ _ _ _ _ _ _ _ _
      | exact ih2 _ _
      | exact ih3 _ _ _ _
      | exact ih4 _ _ _ _ _ _ _ _ _ _ _ _
      | exact impl_Decided.mono _ _ _
      | exact impl_OpOf.mono _ _ _
      | exact impl_Prepared.mono _ _ _
      | exact impl_ProofOf.mono _ _ _ _ _
      | exact laws_lwNums.mono _ _ _
      | exact laws_lwProof.mono _ _ _ _ _ _ _ _ _
      | exact spec_Decided.mono _ _ _
      | exact spec_DrawPrepared.mono _ _
      | exact spec_DrawProofOf.mono _ _
      | exact spec_OpOf.mono _ _ _
      | exact spec_Prepared.mono _ _ _
      | exact spec_ProofOf.mono _ _ _ _ _
      | exact spec_ProofRight.mono _ _ _ _ _
      | exact spec_Voters.mono _ _ _ _ _ _
      | exact LeO.none _
      | refine LeO.ite ?_ ?_
      | refine LeO.bind ?_ (fun _ => ?_)
theorem laws_FnProof.mono : ∀ a0 a1 k, LeO (laws_FnProof.f k a0 a1) (laws_FnProof.f (k + 1) a0 a1) := by
  intro a0 a1 k
  obtain ⟨ih0, ih1, ih2, ih3, ih4⟩ := laws_FnProof.mono_l k
  unfold laws_FnProof.f
  repeat' first
      | (with_reducible exact ih0 _ _ _)
      | (with_reducible exact ih1 _ _ _ _ _ _ _ _ _ _ _)
      | (with_reducible exact ih2 _ _)
      | (with_reducible exact ih3 _ _ _ _)
      | (with_reducible exact ih4 _ _ _ _ _ _ _ _ _ _ _ _)
      | (with_reducible exact impl_Decided.mono _ _ _)
      | (with_reducible exact impl_OpOf.mono _ _ _)
      | (with_reducible exact impl_Prepared.mono _ _ _)
      | (with_reducible exact impl_ProofOf.mono _ _ _ _ _)
      | (with_reducible exact laws_lwNums.mono _ _ _)
      | (with_reducible exact laws_lwProof.mono _ _ _ _ _ _ _ _ _)
      | (with_reducible exact spec_Decided.mono _ _ _)
      | (with_reducible exact spec_DrawPrepared.mono _ _)
      | (with_reducible exact spec_DrawProofOf.mono _ _)
      | (with_reducible exact spec_OpOf.mono _ _ _)
      | (with_reducible exact spec_Prepared.mono _ _ _)
      | (with_reducible exact spec_ProofOf.mono _ _ _ _ _)
      | (with_reducible exact spec_ProofRight.mono _ _ _ _ _)
      | (with_reducible exact spec_Voters.mono _ _ _ _ _ _)
      | (with_reducible exact LeO.refl _)
      | (with_reducible exact LeO.none _)
      | (with_reducible refine LeO.ite ?_ ?_)
      | (with_reducible refine LeO.bind ?_ (fun _ => ?_))
      | exact ih0 _ _ _
      | exact ih1 _ _ _ _ _ _ _ _ _ _ _
      | exact ih2 _ _
      | exact ih3 _ _ _ _
      | exact ih4 _ _ _ _ _ _ _ _ _ _ _ _
      | exact impl_Decided.mono _ _ _
      | exact impl_OpOf.mono _ _ _
      | exact impl_Prepared.mono _ _ _
      | exact impl_ProofOf.mono _ _ _ _ _
      | exact laws_lwNums.mono _ _ _
      | exact laws_lwProof.mono _ _ _ _ _ _ _ _ _
      | exact spec_Decided.mono _ _ _
      | exact spec_DrawPrepared.mono _ _
      | exact spec_DrawProofOf.mono _ _
      | exact spec_OpOf.mono _ _ _
      | exact spec_Prepared.mono _ _ _
      | exact spec_ProofOf.mono _ _ _ _ _
      | exact spec_ProofRight.mono _ _ _ _ _
      | exact spec_Voters.mono _ _ _ _ _ _
      | exact LeO.none _
      | refine LeO.ite ?_ ?_
      | refine LeO.bind ?_ (fun _ => ?_)
def laws_FnProof.T6 : Bool × List (List Nat × List Nat) := (true, [([], []), ([], []), ([], []), ([], []), ([], []), ([1, 2, 3, 4], [1, 2, 3, 4]), ([0, 5, 5], [0, 5]), ([6], [6]), ([7, 6], [7]), ([8], [8]), ([8], [8]), ([9, 10, 8, 8], [8, 9, 10]), ([8], [8]), ([8], [8]), ([12, 13, 11, 8], [8, 12, 13]), ([11, 14, 14, 8], [8, 11, 14]), ([15, 8], [8, 15]), ([8, 16], [8, 16]), ([17, 15], [17]), ([18], [18]), ([18], [18]), ([19, 20, 18, 18], [18, 19, 20]), ([18], [18]), ([18], [18]), ([22, 23, 21, 18], [18, 22, 23]), ([21, 24, 18], [18, 21, 24]), ([18, 25], [18, 25]), ([26, 24], [26]), ([27], [27]), ([27], [27]), ([28, 29, 27, 27], [27, 28, 29]), ([27], [27]), ([27], [27]), ([31, 32, 30, 27], [27, 31, 32]), ([30, 33, 27], [27, 30, 33]), ([27, 34], [27, 34])])
def laws_FnProof.B6 : List Nat := [0, 0, 0, 0, 0, 30, 63, 127, 255, 511, 511, 2047, 511, 511, 16383, 32767, 65535, 131071, 262143, 524287, 524287, 2097151, 524287, 524287, 16777215, 33554431, 67108863, 134217727, 268435455, 268435455, 1073741823, 268435455, 268435455, 8589934591, 17179869183, 34359738367]
theorem laws_FnProof.tab6 : rtab .any (opsOf Try.f3 6) = laws_FnProof.T6 := by kernel_rfl
theorem laws_FnProof.bits6 : waitsOk laws_FnProof.T6.2 laws_FnProof.B6 = true := by kernel_rfl
def laws_FnProof.T15 : Bool × List (List Nat × List Nat) := (true, [([], []), ([0], [0]), ([1], [1]), ([2, 1], [2]), ([3], [3]), ([4, 3], [3, 4]), ([3], [3]), ([3], [3]), ([3], [3]), ([3], [3]), ([6, 7, 8, 9, 3, 3], [3, 6, 7, 8, 9]), ([5, 10, 10, 3], [3, 5, 10]), ([11, 3], [3, 11]), ([3, 12], [3, 12]), ([13, 11], [13]), ([14], [14]), ([14], [14]), ([15, 16, 14, 14], [14, 15, 16]), ([17, 14], [14, 17]), ([14], [14]), ([18, 19, 14], [14, 18, 19]), ([14, 20], [14, 20])])
def laws_FnProof.B15 : List Nat := [0, 1, 3, 7, 15, 31, 15, 15, 15, 15, 975, 2047, 4095, 8191, 16383, 32767, 32767, 131071, 262143, 32767, 1048575, 2097151]
theorem laws_FnProof.tab15 : rtab .any (opsOf Try.f3 15) = laws_FnProof.T15 := by kernel_rfl
theorem laws_FnProof.bits15 : waitsOk laws_FnProof.T15.2 laws_FnProof.B15 = true := by kernel_rfl
set_option maxHeartbeats 60000000 in
set_option maxRecDepth 100000 in
theorem laws_FnProof.calls (k : Nat) (A0 : Option Addr) (c0 : Nat) (l0 : List Int) (A1 : Option Addr) (c1 : Nat) (l1 : List Int) (r : Bool) (w : World) (hr0 : Kd.C (Kd.int .u8) w A0 l0.length l0) (hc0 : l0.length ≤ c0) (hr1 : Kd.C (Kd.int .u8) w A1 l1.length l1) (hc1 : l1.length ≤ c1) (h : laws_FnProof.f k l0 l1 = some r) :
    Calls Try.prog 3 #[.slice A0 l0.length c0, .slice A1 l1.length c1] w fun e w' => e = .returned (.bool r) ∧ Below w.heap.size w w' := by
 have hu28 := Try.underlying28
 have hfd28_0 : ∀ (a b c d : Value) (w : World), Sem.run Try.prog (Instr.field 28 (.agg #[a, b, c, d]) 0) w = .ok a w := fun _ _ _ _ _ => by kernel_rfl
 have hfd28_3 : ∀ (a b c d : Value) (w : World), Sem.run Try.prog (Instr.field 28 (.agg #[a, b, c, d]) 3) w = .ok d w := fun _ _ _ _ _ => by kernel_rfl
 have HR0 := AM hr0
 have HC0 := AM hc0
 clear hr0 hc0
 have HR1 := AM hr1
 have HC1 := AM hc1
 clear hr1 hc1
 have HB := AM (Below.refl w.heap.size w)
 have H : (if (l0.length : Int) > 1048576 then (laws_FnProof.j0 k l0 l1 true) else (laws_FnProof.j0 k l0 l1 (decide ((l1.length : Int) > 1048576)))) = some r := h
 clear h
 have HC3 := AM H
 clear H
 go_enter Try.func3, Try.ntmps3
 go_upto_region 1 with (fail)
 go_cut [23] (fun v23 wc => ∃ (kq : Nat) (x23_2 : Bool), v23 = .bool x23_2 ∧ Aside0 (laws_FnProof.j0 kq l0 l1 x23_2 = some r) ∧ Aside0 (kq ≤ k) ∧ Aside0 (Below w.heap.size w wc))
 case first =>
  have H := HC3.out
  clear HC3
  by_cases c4 : (l0.length : Int) > 1048576
  ·
   rw [if_pos c4] at H
   have c4b0 : decide (1048576 < (l0.length : Int)) = true := decide_eq_true c4
   have c4b1 : decide (1048576 < l0.length) = true := decide_eq_true (by omega)
   clear c4
   (first | rw [c4b0] | (simp only [i64_w, i32_w]; rw [c4b0]) | skip)
   have H' := AM H
   clear H
   go_wp2
   go_meet
   case rel => exact ⟨_, (true), (by first | rfl | (simp; done) | (simp [*]; done)), H', ⟨by first | omega | exact Nat.le_refl _⟩, ⟨bX HB.out⟩⟩
  rw [if_neg c4] at H
  have c4b0 : decide (1048576 < (l0.length : Int)) = false := decide_eq_false c4
  have c4b1 : decide (1048576 < l0.length) = false := decide_eq_false (by omega)
  clear c4
  (first | rw [c4b0] | (simp only [i64_w, i32_w]; rw [c4b0]) | skip)
  have H' := AM H
  clear H
  go_wp2
  go_meet
  case rel => exact ⟨_, (decide ((l1.length : Int) > 1048576)), (by first | rfl | (simp; done) | (simp [*]; done)), H', ⟨by first | omega | exact Nat.le_refl _⟩, ⟨bX HB.out⟩⟩
 case rest =>
  clear HC3
  (try clear c1); (try clear p2); (try clear c3); (try clear c4); (try clear c4b0); (try clear c4b1)
  obtain ⟨kq, x23_2, rfl, HA, HJ2, HB⟩ := hcut
  cases kq with
  | zero => exact absurd HA.out (by simp [laws_FnProof.j0])
  | succ kj2 =>
   have H := HA.out
   clear HA
   simp only [laws_FnProof.j0] at H
   by_cases c5 : x23_2 = true
   ·
    subst c5
    have H1 : (some true) = some r := by rw [if_pos rfl] at H; exact H
    clear H
    have H := H1
    clear H1
    obtain rfl := Option.some.inj H
    go_wp2
    go_ret
    exact ⟨by first | rfl | (simp [*, errW_none, errW_some] <;> rfl), bX HB.out⟩
   replace c5 := Bool.eq_false_iff.mpr c5
   subst c5
   have H1 : ((spec_DrawProofOf.f kj2 l0).bind fun bt101 => ((impl_ProofOf.f kj2 bt101.1 bt101.2.1 bt101.2.2.1 bt101.2.2.2).bind fun bt107 => ((spec_DrawPrepared.f kj2 l1).bind fun bt114 => ((spec_ProofOf.f kj2 bt101.1 bt101.2.1 bt101.2.2.1 bt101.2.2.2).bind fun bt118 => ((laws_lwProof.f kj2 bt107.1 bt107.2.1 bt107.2.2.1 bt107.2.2.2 bt118.1 bt118.2.1 bt118.2.2.1 bt118.2.2.2).bind fun t124 => (if t124 = true then ((impl_Prepared.f kj2 bt114.1 bt114.2).bind fun bt125 => ((spec_Prepared.f kj2 bt114.1 bt114.2).bind fun bt131 => ((laws_lwProof.f kj2 bt125.1 bt125.2.1 bt125.2.2.1 bt125.2.2.2 bt131.1 bt131.2.1 bt131.2.2.1 bt131.2.2.2).bind fun t137 => (if t137 = true then ((impl_Decided.f kj2 bt114.1 bt114.2).bind fun t138 => ((spec_Decided.f kj2 bt114.1 bt114.2).bind fun t139 => (if (t138 != t139) = true then (laws_FnProof.j1 kj2 bt101.1 bt101.2.1 bt101.2.2.1 bt101.2.2.2 bt114.1 bt114.2 true bt107.1 bt107.2.1 bt107.2.2.1 bt107.2.2.2) else ((impl_OpOf.f kj2 bt114.1 bt114.2).bind fun t140 => ((spec_OpOf.f kj2 bt114.1 bt114.2).bind fun t141 => (laws_FnProof.j1 kj2 bt101.1 bt101.2.1 bt101.2.2.1 bt101.2.2.2 bt114.1 bt114.2 (t140.toList != t141.toList) bt107.1 bt107.2.1 bt107.2.2.1 bt107.2.2.2)))))) else (laws_FnProof.j1 kj2 bt101.1 bt101.2.1 bt101.2.2.1 bt101.2.2.2 bt114.1 bt114.2 true bt107.1 bt107.2.1 bt107.2.2.1 bt107.2.2.2))))) else (laws_FnProof.j1 kj2 bt101.1 bt101.2.1 bt101.2.2.1 bt101.2.2.2 bt114.1 bt114.2 true bt107.1 bt107.2.1 bt107.2.2.1 bt107.2.2.2))))))) = some r := by rw [if_neg (show ¬ (false = true) by decide)] at H; exact H
   clear H
   have H := H1
   clear H1
   replace H := Option.bind_eq_some_iff.mp H
   obtain ⟨⟨t101, t102, t103, t104⟩, A60, H⟩ := H
   try dsimp only at H
   have A6 := AM A60
   clear A60
   replace H := Option.bind_eq_some_iff.mp H
   obtain ⟨⟨t107, t108, t109, t110⟩, A70, H⟩ := H
   try dsimp only at H
   have A7 := AM A70
   clear A70
   replace H := Option.bind_eq_some_iff.mp H
   obtain ⟨⟨t114, t115⟩, A80, H⟩ := H
   try dsimp only at H
   have A8 := AM A80
   clear A80
   have HC9 := AM H
   clear H
   go_upto_region 6 with (first | ((with_reducible refine gate_callee (f := 4) rfl ?_); refine goesL_ (some 26) rfl rfl Try.func4 (by kernel_rfl) rfl #[.slice A0 l0.length c0] rfl (by (try simp only [mA, mB, mC]); first | done | rfl | (simp only [mD, mE]; rfl)) ?_; (with_reducible refine (spec_DrawProofOf.calls kj2 _ _ l0 t101 t102 t103 t104 _ ?side1 ?side2 A6.out).mono ?_); (case side1 => repeat (first | exact (cB HR0.out HB.out) | (with_reducible first | apply cA | apply cN | apply cD))); (case side2 => exact HC0.out); rintro e w10 ⟨v105, rfl, ho0, hb⟩; refine ⟨_, rfl, ?_⟩; have _ := AM (Kd.R_lower ho0 (bZ (bX HB.out))); have _ := AM (below_step (bX HB.out) hb); clear HB; rename_i HO106 HB; (try clear hb); (try clear hk); (try clear ho0); obtain ⟨Ao11, co11, eo11⟩ := Kd.R_slice HO106.out; subst eo11) | ((with_reducible refine gate_callee (f := 5) rfl ?_); refine goesL_ (some 35) rfl rfl Try.func5 (by kernel_rfl) rfl #[.slice Ao11 t101.length co11, .int .i64 t102, .int .i64 t103, .string t104] rfl (by (try simp only [mA, mB, mC]); first | done | rfl | (simp only [mD, mE]; rfl)) ?_; (with_reducible refine (impl_ProofOf.calls kj2 _ _ t101 t102 t103 t104 t107 t108 t109 t110 _ ?side1 ?side2 A7.out).mono ?_); (case side1 => repeat (first | exact (Kd.R_reads' HO106.out).2.2 | (with_reducible first | apply cA | apply cN | apply cD))); (case side2 => exact (Kd.R_reads' HO106.out).2.1); rintro e w12 ⟨v111, rfl, ho0, hb⟩; refine ⟨_, rfl, ?_⟩; have _ := AM (Kd.R_below (rX HO106.out) hb); have _ := AM (Kd.R_lower ho0 (bZ (bX HB.out))); have _ := AM (below_step (bX HB.out) hb); clear HO106 HB; rename_i HO106 HO112 HB; (try clear hb); (try clear hk); (try clear ho0)) | ((with_reducible refine gate_dst (N := 9) rfl ?_); (try (refine gate_guard (by rfl) ?_; dsimp only)); refine box_event (by rfl) (N := 9) (by rfl) (cs := #[.int .i64 0, .int .i64 0, .string (⟨#[]⟩ : ByteArray), .slice none 0 0]) (t := 28) (by first | (go_simp; done) | (go_simp; rfl)) ?_; intro gb113 hg w13 hbox hb; have _ := AM (Kd.R_below (rX HO106.out) hb); have _ := AM (Kd.R_below (rX HO112.out) hb); have _ := AM (below_step (bX HB.out) hb); have _ := AM (hbox); have n4_ := AM ((by rw [hg]; exact (bZ (bX HB.out)) : w.heap.size ≤ gb113)); clear HO106 HO112 HB; rename_i HO106 HO112 HB BK113; have GW113 := n4_; have GE113 := n4_; clear n4_; clear hb hbox hg; have hcz14 := q4 BK113.out; have hfz14 := fZ BK113.out; obtain ⟨Ao15, co15, eo15⟩ := Kd.R_slice HO112.out; subst eo15) | ((with_reducible refine gate_callee (f := 6) rfl ?_); refine goesL_ (some 38) rfl rfl Try.func6 (by kernel_rfl) rfl #[.slice A1 l1.length c1] rfl (by (try simp only [mA, mB, mC]); first | done | rfl | (simp only [mD, mE]; rfl)) ?_; (with_reducible refine (spec_DrawPrepared.calls kj2 _ _ l1 t114 t115 _ ?side1 ?side2 A8.out).mono ?_); (case side1 => exact cB HR1.out (bX HB.out)); (case side2 => exact HC1.out); rintro e w16 ⟨v116, rfl, ho0, hb⟩; refine ⟨_, rfl, ?_⟩; have _ := AM (Kd.R_elder' (by (with_reducible repeat (first | apply rA | apply rN | apply rD)); exact (Rf4 HO106.out BK113.out (by decide) (fun _ h_ => h_.1))) (Kd.R_base ho0) hb); have _ := AM (Kd.R_below (by (with_reducible repeat (first | apply rA | apply rN | apply rD)); exact (Rf4 HO112.out BK113.out (by decide) (fun _ h_ => h_.1))) hb); have _ := AM (Kd.R_lower (Kd.R_new' ho0 (Kd.R_lt (by (with_reducible repeat (first | apply rA | apply rN | apply rD)); exact (Rf4 HO106.out BK113.out (by decide) (fun _ h_ => h_.1))))) (bZ (bX HB.out))); have _ := AM (blk_below (g := gb113) (o := .cells #[.int .i64 t107, .int .i64 t108, .string t109, .slice Ao15 t110.length co15] 28 (0, 0)) (by refine kP (cs := #[.int .i64 t107, .int .i64 t108, .string t109, .slice none 0 0]) 3 ?_; refine kP (cs := #[.int .i64 t107, .int .i64 t108, .string (⟨#[]⟩ : ByteArray), .slice none 0 0]) 2 ?_; refine kP (cs := #[.int .i64 t107, .int .i64 0, .string (⟨#[]⟩ : ByteArray), .slice none 0 0]) 1 ?_; refine kP (cs := #[.int .i64 0, .int .i64 0, .string (⟨#[]⟩ : ByteArray), .slice none 0 0]) 0 ?_; (with_reducible repeat (first | apply kN | apply kD | apply kA)); exact BK113.out) hb); have _ := AM (below_step (bX HB.out) hb); clear HO106 HO112 BK113 HB; rename_i HO106 HO112 HO117 BK113 HB; (try clear hb); (try clear hk); (try clear ho0)))
   (try simp only [Act.put, List.setIfInBounds_toArray, List.set_cons_zero, List.set_cons_succ])
   go_cut [76] (fun v76 wc => ∃ (kq : Nat) (x76_8 : Bool), v76 = .bool x76_8 ∧ Aside0 (laws_FnProof.j1 kq t101 t102 t103 t104 t114 t115 x76_8 t107 t108 t109 t110 = some r) ∧ Aside0 (kq ≤ kj2) ∧ Aside0 (Kd.R k45 45 wc w.heap.size (fun k_ => some k_ ≠ (v116 : Value).ownBlock) (.slice Ao11 t101.length co11) t101) ∧ Aside0 (Kd.R k45 45 wc w.heap.size (fun k_ => some k_ ≠ ((.slice Ao11 t101.length co11) : Value).ownBlock) v116 t114) ∧ Aside0 (Kd.R (Kd.int .i64) 2 wc w.heap.size (fun _ => True) (.slice Ao15 t110.length co15) t110) ∧ Aside0 (wc.heap[gb113]? = some (.cells #[.int .i64 t107, .int .i64 t108, .string t109, (.slice Ao15 t110.length co15)] 28 (0, 0))) ∧ Aside0 (Below w.heap.size w wc))
   case first =>
    have H := HC9.out
    clear HC9
    replace H := Option.bind_eq_some_iff.mp H
    obtain ⟨⟨t118, t119, t120, t121⟩, A170, H⟩ := H
    try dsimp only at H
    have A17 := AM A170
    clear A170
    replace H := Option.bind_eq_some_iff.mp H
    obtain ⟨t124, A180, H⟩ := H
    replace H : (if t124 = true then ((impl_Prepared.f kj2 t114 t115).bind fun bt125 => ((spec_Prepared.f kj2 t114 t115).bind fun bt131 => ((laws_lwProof.f kj2 bt125.1 bt125.2.1 bt125.2.2.1 bt125.2.2.2 bt131.1 bt131.2.1 bt131.2.2.1 bt131.2.2.2).bind fun t137 => (if t137 = true then ((impl_Decided.f kj2 t114 t115).bind fun t138 => ((spec_Decided.f kj2 t114 t115).bind fun t139 => (if (t138 != t139) = true then (laws_FnProof.j1 kj2 t101 t102 t103 t104 t114 t115 true t107 t108 t109 t110) else ((impl_OpOf.f kj2 t114 t115).bind fun t140 => ((spec_OpOf.f kj2 t114 t115).bind fun t141 => (laws_FnProof.j1 kj2 t101 t102 t103 t104 t114 t115 (t140.toList != t141.toList) t107 t108 t109 t110)))))) else (laws_FnProof.j1 kj2 t101 t102 t103 t104 t114 t115 true t107 t108 t109 t110))))) else (laws_FnProof.j1 kj2 t101 t102 t103 t104 t114 t115 true t107 t108 t109 t110)) = some r := H
    have A18 := AM A180
    clear A180
    by_cases c19 : t124 = true
    ·
     subst c19
     have H1 : ((impl_Prepared.f kj2 t114 t115).bind fun bt125 => ((spec_Prepared.f kj2 t114 t115).bind fun bt131 => ((laws_lwProof.f kj2 bt125.1 bt125.2.1 bt125.2.2.1 bt125.2.2.2 bt131.1 bt131.2.1 bt131.2.2.1 bt131.2.2.2).bind fun t137 => (if t137 = true then ((impl_Decided.f kj2 t114 t115).bind fun t138 => ((spec_Decided.f kj2 t114 t115).bind fun t139 => (if (t138 != t139) = true then (laws_FnProof.j1 kj2 t101 t102 t103 t104 t114 t115 true t107 t108 t109 t110) else ((impl_OpOf.f kj2 t114 t115).bind fun t140 => ((spec_OpOf.f kj2 t114 t115).bind fun t141 => (laws_FnProof.j1 kj2 t101 t102 t103 t104 t114 t115 (t140.toList != t141.toList) t107 t108 t109 t110)))))) else (laws_FnProof.j1 kj2 t101 t102 t103 t104 t114 t115 true t107 t108 t109 t110))))) = some r := by rw [if_pos rfl] at H; exact H
     clear H
     have H := H1
     clear H1
     replace H := Option.bind_eq_some_iff.mp H
     obtain ⟨⟨t125, t126, t127, t128⟩, A200, H⟩ := H
     try dsimp only at H
     have A20 := AM A200
     clear A200
     replace H := Option.bind_eq_some_iff.mp H
     obtain ⟨⟨t131, t132, t133, t134⟩, A210, H⟩ := H
     try dsimp only at H
     have A21 := AM A210
     clear A210
     replace H := Option.bind_eq_some_iff.mp H
     obtain ⟨t137, A220, H⟩ := H
     replace H : (if t137 = true then ((impl_Decided.f kj2 t114 t115).bind fun t138 => ((spec_Decided.f kj2 t114 t115).bind fun t139 => (if (t138 != t139) = true then (laws_FnProof.j1 kj2 t101 t102 t103 t104 t114 t115 true t107 t108 t109 t110) else ((impl_OpOf.f kj2 t114 t115).bind fun t140 => ((spec_OpOf.f kj2 t114 t115).bind fun t141 => (laws_FnProof.j1 kj2 t101 t102 t103 t104 t114 t115 (t140.toList != t141.toList) t107 t108 t109 t110)))))) else (laws_FnProof.j1 kj2 t101 t102 t103 t104 t114 t115 true t107 t108 t109 t110)) = some r := H
     have A22 := AM A220
     clear A220
     by_cases c23 : t137 = true
     ·
      subst c23
      have H1 : ((impl_Decided.f kj2 t114 t115).bind fun t138 => ((spec_Decided.f kj2 t114 t115).bind fun t139 => (if (t138 != t139) = true then (laws_FnProof.j1 kj2 t101 t102 t103 t104 t114 t115 true t107 t108 t109 t110) else ((impl_OpOf.f kj2 t114 t115).bind fun t140 => ((spec_OpOf.f kj2 t114 t115).bind fun t141 => (laws_FnProof.j1 kj2 t101 t102 t103 t104 t114 t115 (t140.toList != t141.toList) t107 t108 t109 t110)))))) = some r := by rw [if_pos rfl] at H; exact H
      clear H
      have H := H1
      clear H1
      replace H := Option.bind_eq_some_iff.mp H
      obtain ⟨t138, A240, H⟩ := H
      replace H : ((spec_Decided.f kj2 t114 t115).bind fun t139 => (if (t138 != t139) = true then (laws_FnProof.j1 kj2 t101 t102 t103 t104 t114 t115 true t107 t108 t109 t110) else ((impl_OpOf.f kj2 t114 t115).bind fun t140 => ((spec_OpOf.f kj2 t114 t115).bind fun t141 => (laws_FnProof.j1 kj2 t101 t102 t103 t104 t114 t115 (t140.toList != t141.toList) t107 t108 t109 t110))))) = some r := H
      have A24 := AM A240
      clear A240
      replace H := Option.bind_eq_some_iff.mp H
      obtain ⟨t139, A250, H⟩ := H
      replace H : (if (t138 != t139) = true then (laws_FnProof.j1 kj2 t101 t102 t103 t104 t114 t115 true t107 t108 t109 t110) else ((impl_OpOf.f kj2 t114 t115).bind fun t140 => ((spec_OpOf.f kj2 t114 t115).bind fun t141 => (laws_FnProof.j1 kj2 t101 t102 t103 t104 t114 t115 (t140.toList != t141.toList) t107 t108 t109 t110)))) = some r := H
      have A25 := AM A250
      clear A250
      by_cases c26 : (t138 != t139) = true
      ·
       rw [if_pos c26] at H
       have c26b0 : (t138 != t139) = true := c26
       (try (have c26b1 : decide (t138 = t139) = false := by simpa using c26))
       (try (have c26b2 : (t138 == t139) = false := by simpa using c26))
       (try (have c26b3 : ¬ (t138 = t139) := by simpa using c26))
       clear c26
       (first | rw [c26b0] | (simp only [i64_w, i32_w]; rw [c26b0]) | skip)
       have H' := AM H
       clear H
       try go_wp2
       have _ := AM (rD HO106.out)
       have _ := AM (rD HO112.out)
       have _ := AM (rD HO117.out)
       have _ := AM (kD BK113.out)
       have _ := AM (bD HB.out)
       clear HO106 HO112 HO117 BK113 HB
       rename_i HO106 HO112 HO117 BK113 HB
       refine start_ (n := 36) (S := fun w' => w'.cell? ⟨gb113, 0, none⟩ = some (.int .i64 t107) ∧ w'.cell? ⟨gb113, 1, none⟩ = some (.int .i64 t108) ∧ w'.cell? ⟨gb113, 2, none⟩ = some (.string t109) ∧ w'.cell? ⟨gb113, 3, none⟩ = some (.slice Ao15 t110.length co15)) (ds := []) (upTo 0 36) (by kernel_rfl) rfl rfl (q4 BK113.out) (fun hHeld => ?_); refine with_tabW laws_FnProof.tab6 laws_FnProof.bits6 (fun HT_ HW_ => ?_)
       generalize w16.drew = w27 at HO106 HO112 HO117 BK113 HB hHeld ⊢
       refine pF2 1 42 laws_FnProof.b0 ?_
       refine pF2 2 43 laws_FnProof.b1 ?_
       refine pF2 3 44 laws_FnProof.b2 ?_
       refine pF2 4 45 laws_FnProof.b3 ?_
       refine pT2 0 41 (upTo 5 36) ?_ hHeld
       refine one_ (i := 5) (N := some 46) (upTo 6 36) rfl rfl (one_of HT_.out (by kernel_rfl)) (by decide) (fun K hK => ?_)
       refine goes_ Try.func8 (by kernel_rfl) rfl #[.slice Ao11 t101.length co11, .int .i64 t102, .int .i64 t103, .string t104] (by rfl) rfl rfl (by (try simp only [mA, mB, mC]); first | done | rfl | (simp only [mD, mE]; rfl)) ?_
       with_reducible refine (spec_ProofOf.calls kj2 _ _ t101 t102 t103 t104 t118 t119 t120 t121 _ ?side1 ?side2 A17.out).mono ?_
       (case side1 => repeat (first | exact (Kd.R_reads' HO106.out).2.2 | (with_reducible first | apply cA | apply cN | apply cD)))
       (case side2 => exact (Kd.R_reads' HO106.out).2.1)
       rintro e w28 ⟨v122, rfl, ho0, hb⟩
       refine ⟨_, rfl, ?_⟩
       have _ := AM (Kd.R_below (rX HO106.out) hb)
       have _ := AM (Kd.R_elder' (rX HO112.out) (Kd.R_base ho0) hb)
       have _ := AM (Kd.R_below (rX HO117.out) hb)
       have _ := AM (Kd.R_lower (Kd.R_new' ho0 (Kd.R_lt (rX HO112.out))) (bZ (bX HB.out)))
       have _ := AM (nB BK113.out hb)
       have _ := AM (below_step (bX HB.out) hb)
       clear HO106 HO112 HO117 BK113 HB
       rename_i HO106 HO112 HO117 HO123 BK113 HB
       (try clear hb)
       (try clear hk)
       (try clear ho0)
       obtain ⟨Ao29, co29, eo29⟩ := Kd.R_slice HO123.out
       (first | subst eo29 | (injection eo29 with f1_ f2_ f3_; have f4_ := f1_.symm; have f5_ := f3_.symm; clear f1_ f2_ f3_; subst f4_; subst f5_))
       refine hK.out _ _ (q4 BK113.out) (fun hHeld => ?_)
       clear hK K
       refine norm_ (a' := ?_) ?_ ?_
       rotate_left
       ·
        show Act.put _ (some 46) _ = _
        simp only [Act.put, sA, sB, sC, i64_w, i32_w]
        rfl
       refine one_ (i := 6) (N := some 47) (upTo 7 36) rfl rfl (one_of HT_.out (by kernel_rfl)) (by decide) (fun K hK => ?_)
       refine goes_ Try.func7 (by kernel_rfl) rfl #[.agg #[.int .i64 t107, .int .i64 t108, .string t109, .slice Ao15 t110.length co15], .agg #[.int .i64 t118, .int .i64 t119, .string t120, .slice Ao29 t121.length co29]] (by rfl) rfl rfl (by (try simp only [mA, mB, mC]); first | done | rfl | (simp only [mD, mE]; rfl)) ?_
       with_reducible refine (laws_lwProof.calls kj2 t107 t108 t109 _ _ t110 t118 t119 t120 _ _ t121 true _ ?side1 ?side2 ?side3 ?side4 A18.out).mono ?_
       (case side1 => repeat (first | exact (Kd.R_reads' HO112.out).2.2 | (with_reducible first | apply cA | apply cN | apply cD)))
       (case side2 => exact (Kd.R_reads' HO112.out).2.1)
       (case side3 => repeat (first | exact (Kd.R_reads' HO123.out).2.2 | (with_reducible first | apply cA | apply cN | apply cD)))
       (case side4 => exact (Kd.R_reads' HO123.out).2.1)
       rintro e w30 ⟨rfl, hb⟩
       refine ⟨_, rfl, ?_⟩
       have _ := AM (Kd.R_below (rX HO106.out) hb)
       have _ := AM (Kd.R_below (rX HO112.out) hb)
       have _ := AM (Kd.R_below (rX HO117.out) hb)
       have _ := AM (Kd.R_below (rX HO123.out) hb)
       have _ := AM (nB BK113.out hb)
       have _ := AM (below_step (bX HB.out) hb)
       clear HO106 HO112 HO117 HO123 BK113 HB
       rename_i HO106 HO112 HO117 HO123 BK113 HB
       (try clear hb)
       (try clear hk)
       obtain ⟨Ao31, co31, eo31⟩ := Kd.R_slice HO117.out
       (first | subst eo31 | (injection eo31 with f1_ f2_ f3_; have f4_ := f1_.symm; have f5_ := f3_.symm; clear f1_ f2_ f3_; subst f4_; subst f5_))
       refine hK.out _ _ (q4 BK113.out) (fun hHeld => ?_)
       clear hK K
       refine norm_ (a' := ?_) ?_ ?_
       rotate_left
       ·
        show Act.put _ (some 47) _ = _
        simp only [Act.put, sA, sB, sC, i64_w, i32_w]
        rfl
       refine pF 7 8 36 48 ?_
       refine pF 8 9 36 49 ?_
       refine pF 9 10 36 50 ?_
       refine pF 10 11 36 51 ?_
       refine pF2 12 53 laws_FnProof.b4 ?_
       refine pF2 13 54 laws_FnProof.b5 ?_
       refine one_ (i := 11) (N := some 52) (upTo 14 36) rfl rfl (one_of HT_.out (by kernel_rfl)) (by decide) (fun K hK => ?_)
       refine goes_ Try.func9 (by kernel_rfl) rfl #[.slice Ao31 t114.length co31, .int .i64 t115] (by rfl) rfl rfl (by (try simp only [mA, mB, mC]); first | done | rfl | (simp only [mD, mE]; rfl)) ?_
       with_reducible refine (impl_Prepared.calls kj2 _ _ t114 t115 t125 t126 t127 t128 _ ?side1 ?side2 A20.out).mono ?_
       (case side1 => repeat (first | exact (Kd.R_reads' HO117.out).2.2 | (with_reducible first | apply cA | apply cN | apply cD)))
       (case side2 => exact (Kd.R_reads' HO117.out).2.1)
       rintro e w32 ⟨v129, rfl, ho0, hb⟩
       refine ⟨_, rfl, ?_⟩
       have _ := AM (Kd.R_below (rX HO106.out) hb)
       have _ := AM (Kd.R_elder' (rX HO112.out) (Kd.R_base ho0) hb)
       have _ := AM (Kd.R_below (rX HO117.out) hb)
       have _ := AM (Kd.R_elder' (rX HO123.out) (Kd.R_base ho0) hb)
       have _ := AM (Kd.R_lower (Kd.R_new' (Kd.R_new' ho0 (Kd.R_lt (rX HO112.out))) (Kd.R_lt (rX HO123.out))) (bZ (bX HB.out)))
       have _ := AM (nB BK113.out hb)
       have _ := AM (below_step (bX HB.out) hb)
       clear HO106 HO112 HO117 HO123 BK113 HB
       rename_i HO106 HO112 HO117 HO123 HO130 BK113 HB
       (try clear hb)
       (try clear hk)
       (try clear ho0)
       refine hK.out _ _ (q4 BK113.out) (fun hHeld => ?_)
       clear hK K
       refine norm_ (a' := ?_) ?_ ?_
       rotate_left
       ·
        show Act.put _ (some 52) _ = _
        simp only [Act.put, sA, sB, sC, i64_w, i32_w]
        rfl
       refine one_ (i := 14) (N := some 55) (upTo 15 36) rfl rfl (one_of HT_.out (by kernel_rfl)) (by decide) (fun K hK => ?_)
       refine goes_ Try.func10 (by kernel_rfl) rfl #[.slice Ao31 t114.length co31, .int .i64 t115] (by rfl) rfl rfl (by (try simp only [mA, mB, mC]); first | done | rfl | (simp only [mD, mE]; rfl)) ?_
       with_reducible refine (spec_Prepared.calls kj2 _ _ t114 t115 t131 t132 t133 t134 _ ?side1 ?side2 A21.out).mono ?_
       (case side1 => repeat (first | exact (Kd.R_reads' HO117.out).2.2 | (with_reducible first | apply cA | apply cN | apply cD)))
       (case side2 => exact (Kd.R_reads' HO117.out).2.1)
       rintro e w33 ⟨v135, rfl, ho0, hb⟩
       refine ⟨_, rfl, ?_⟩
       have _ := AM (Kd.R_below (rX HO106.out) hb)
       have _ := AM (Kd.R_elder' (rX HO112.out) (Kd.R_base ho0) hb)
       have _ := AM (Kd.R_below (rX HO117.out) hb)
       have _ := AM (Kd.R_elder' (rX HO123.out) (Kd.R_base ho0) hb)
       have _ := AM (Kd.R_elder' (rX HO130.out) (Kd.R_base ho0) hb)
       have _ := AM (Kd.R_lower (Kd.R_new' (Kd.R_new' (Kd.R_new' ho0 (Kd.R_lt (rX HO112.out))) (Kd.R_lt (rX HO123.out))) (Kd.R_lt (rX HO130.out))) (bZ (bX HB.out)))
       have _ := AM (nB BK113.out hb)
       have _ := AM (below_step (bX HB.out) hb)
       clear HO106 HO112 HO117 HO123 HO130 BK113 HB
       rename_i HO106 HO112 HO117 HO123 HO130 HO136 BK113 HB
       (try clear hb)
       (try clear hk)
       (try clear ho0)
       obtain ⟨Ao34, co34, eo34⟩ := Kd.R_slice HO130.out
       (first | subst eo34 | (injection eo34 with f1_ f2_ f3_; have f4_ := f1_.symm; have f5_ := f3_.symm; clear f1_ f2_ f3_; subst f4_; subst f5_))
       obtain ⟨Ao35, co35, eo35⟩ := Kd.R_slice HO136.out
       (first | subst eo35 | (injection eo35 with f1_ f2_ f3_; have f4_ := f1_.symm; have f5_ := f3_.symm; clear f1_ f2_ f3_; subst f4_; subst f5_))
       refine hK.out _ _ (q4 BK113.out) (fun hHeld => ?_)
       clear hK K
       refine norm_ (a' := ?_) ?_ ?_
       rotate_left
       ·
        show Act.put _ (some 55) _ = _
        simp only [Act.put, sA, sB, sC, i64_w, i32_w]
        rfl
       refine one_ (i := 15) (N := some 56) (upTo 16 36) rfl rfl (one_of HT_.out (by kernel_rfl)) (by decide) (fun K hK => ?_)
       refine goes_ Try.func7 (by kernel_rfl) rfl #[.agg #[.int .i64 t125, .int .i64 t126, .string t127, .slice Ao34 t128.length co34], .agg #[.int .i64 t131, .int .i64 t132, .string t133, .slice Ao35 t134.length co35]] (by rfl) rfl rfl (by (try simp only [mA, mB, mC]); first | done | rfl | (simp only [mD, mE]; rfl)) ?_
       with_reducible refine (laws_lwProof.calls kj2 t125 t126 t127 _ _ t128 t131 t132 t133 _ _ t134 true _ ?side1 ?side2 ?side3 ?side4 A22.out).mono ?_
       (case side1 => repeat (first | exact (Kd.R_reads' HO130.out).2.2 | (with_reducible first | apply cA | apply cN | apply cD)))
       (case side2 => exact (Kd.R_reads' HO130.out).2.1)
       (case side3 => repeat (first | exact (Kd.R_reads' HO136.out).2.2 | (with_reducible first | apply cA | apply cN | apply cD)))
       (case side4 => exact (Kd.R_reads' HO136.out).2.1)
       rintro e w36 ⟨rfl, hb⟩
       refine ⟨_, rfl, ?_⟩
       have _ := AM (Kd.R_below (rX HO106.out) hb)
       have _ := AM (Kd.R_below (rX HO112.out) hb)
       have _ := AM (Kd.R_below (rX HO117.out) hb)
       have _ := AM (Kd.R_below (rX HO123.out) hb)
       have _ := AM (Kd.R_below (rX HO130.out) hb)
       have _ := AM (Kd.R_below (rX HO136.out) hb)
       have _ := AM (nB BK113.out hb)
       have _ := AM (below_step (bX HB.out) hb)
       clear HO106 HO112 HO117 HO123 HO130 HO136 BK113 HB
       rename_i HO106 HO112 HO117 HO123 HO130 HO136 BK113 HB
       (try clear hb)
       (try clear hk)
       refine hK.out _ _ (q4 BK113.out) (fun hHeld => ?_)
       clear hK K
       refine norm_ (a' := ?_) ?_ ?_
       rotate_left
       ·
        show Act.put _ (some 56) _ = _
        simp only [Act.put, sA, sB, sC, i64_w, i32_w]
        rfl
       refine pF 16 17 36 57 ?_
       refine pF 17 18 36 58 ?_
       refine pF 18 19 36 59 ?_
       refine pF 19 20 36 60 ?_
       refine pF 20 21 36 61 ?_
       refine pF2 22 63 laws_FnProof.b6 ?_
       refine pF2 23 64 laws_FnProof.b7 ?_
       refine one_ (i := 21) (N := some 62) (upTo 24 36) rfl rfl (one_of HT_.out (by kernel_rfl)) (by decide) (fun K hK => ?_)
       refine goes_ Try.func11 (by kernel_rfl) rfl #[.slice Ao31 t114.length co31, .int .i64 t115] (by rfl) rfl rfl (by (try simp only [mA, mB, mC]); first | done | rfl | (simp only [mD, mE]; rfl)) ?_
       with_reducible refine (impl_Decided.calls kj2 _ _ t114 t115 t138 _ ?side1 ?side2 A24.out).mono ?_
       (case side1 => repeat (first | exact (Kd.R_reads' HO117.out).2.2 | (with_reducible first | apply cA | apply cN | apply cD)))
       (case side2 => exact (Kd.R_reads' HO117.out).2.1)
       rintro e w37 ⟨rfl, hb⟩
       refine ⟨_, rfl, ?_⟩
       have _ := AM (Kd.R_below (rX HO106.out) hb)
       have _ := AM (Kd.R_below (rX HO112.out) hb)
       have _ := AM (Kd.R_below (rX HO117.out) hb)
       have _ := AM (Kd.R_below (rX HO123.out) hb)
       have _ := AM (Kd.R_below (rX HO130.out) hb)
       have _ := AM (Kd.R_below (rX HO136.out) hb)
       have _ := AM (nB BK113.out hb)
       have _ := AM (below_step (bX HB.out) hb)
       clear HO106 HO112 HO117 HO123 HO130 HO136 BK113 HB
       rename_i HO106 HO112 HO117 HO123 HO130 HO136 BK113 HB
       (try clear hb)
       (try clear hk)
       refine hK.out _ _ (q4 BK113.out) (fun hHeld => ?_)
       clear hK K
       refine norm_ (a' := ?_) ?_ ?_
       rotate_left
       ·
        show Act.put _ (some 62) _ = _
        simp only [Act.put, sA, sB, sC, i64_w, i32_w]
        rfl
       refine one_ (i := 24) (N := some 65) (upTo 25 36) rfl rfl (one_of HT_.out (by kernel_rfl)) (by decide) (fun K hK => ?_)
       refine goes_ Try.func12 (by kernel_rfl) rfl #[.slice Ao31 t114.length co31, .int .i64 t115] (by rfl) rfl rfl (by (try simp only [mA, mB, mC]); first | done | rfl | (simp only [mD, mE]; rfl)) ?_
       with_reducible refine (spec_Decided.calls kj2 _ _ t114 t115 t139 _ ?side1 ?side2 A25.out).mono ?_
       (case side1 => repeat (first | exact (Kd.R_reads' HO117.out).2.2 | (with_reducible first | apply cA | apply cN | apply cD)))
       (case side2 => exact (Kd.R_reads' HO117.out).2.1)
       rintro e w38 ⟨rfl, hb⟩
       refine ⟨_, rfl, ?_⟩
       have _ := AM (Kd.R_below (rX HO106.out) hb)
       have _ := AM (Kd.R_below (rX HO112.out) hb)
       have _ := AM (Kd.R_below (rX HO117.out) hb)
       have _ := AM (Kd.R_below (rX HO123.out) hb)
       have _ := AM (Kd.R_below (rX HO130.out) hb)
       have _ := AM (Kd.R_below (rX HO136.out) hb)
       have _ := AM (nB BK113.out hb)
       have _ := AM (below_step (bX HB.out) hb)
       clear HO106 HO112 HO117 HO123 HO130 HO136 BK113 HB
       rename_i HO106 HO112 HO117 HO123 HO130 HO136 BK113 HB
       (try clear hb)
       (try clear hk)
       refine hK.out _ _ (q4 BK113.out) (fun hHeld => ?_)
       clear hK K
       refine norm_ (a' := ?_) ?_ ?_
       rotate_left
       ·
        show Act.put _ (some 65) _ = _
        simp only [Act.put, sA, sB, sC, i64_w, i32_w]
        rfl
       refine pF 25 26 36 66 ?_
       refine pF 26 27 36 67 ?_
       refine pF 27 28 36 68 ?_
       refine pU 28 29 36 69 ?_
       refine pU 29 30 36 70 ?_
       refine pU 30 31 36 71 ?_
       refine pU 31 32 36 72 ?_
       refine pU 32 33 36 73 ?_
       refine pU 33 34 36 74 ?_
       refine pU 34 35 36 75 ?_
       refine pF 35 36 36 76 ?_
       refine done_ (done_of HT_.out (by kernel_rfl)) ?_
       try go_wp2
       go_meet
       case rel => exact ⟨_, (true), (by first | rfl | (simp; done) | (simp [*]; done)), H', ⟨by have := HJ2.out; first | omega | exact Nat.le_refl _⟩, ⟨by (with_reducible repeat (first | apply rA | apply rN | apply rD)); exact Kd.R_mono HO106.out (fun _ hk => hk.2)⟩, ⟨by (with_reducible repeat (first | apply rA | apply rN | apply rD)); exact Kd.R_mono HO117.out (fun _ hk => hk.2)⟩, ⟨by (with_reducible repeat (first | apply rA | apply rN | apply rD)); exact Kd.R_mono HO112.out (fun _ hk => trivial)⟩, ⟨kX BK113.out⟩, ⟨bX HB.out⟩⟩
      rw [if_neg c26] at H
      have c26b0 : (t138 != t139) = false := by simpa using c26
      (try (have c26b1 : decide (t138 = t139) = true := by simpa using c26))
      (try (have c26b2 : (t138 == t139) = true := by simpa using c26))
      clear c26
      (first | rw [c26b0] | (simp only [i64_w, i32_w]; rw [c26b0]) | skip)
      replace H := Option.bind_eq_some_iff.mp H
      obtain ⟨t140, A390, H⟩ := H
      replace H : ((spec_OpOf.f kj2 t114 t115).bind fun t141 => (laws_FnProof.j1 kj2 t101 t102 t103 t104 t114 t115 (t140.toList != t141.toList) t107 t108 t109 t110)) = some r := H
      have A39 := AM A390
      clear A390
      replace H := Option.bind_eq_some_iff.mp H
      obtain ⟨t141, A400, H⟩ := H
      replace H : (laws_FnProof.j1 kj2 t101 t102 t103 t104 t114 t115 (t140.toList != t141.toList) t107 t108 t109 t110) = some r := H
      have A40 := AM A400
      clear A400
      have H' := AM H
      clear H
      try go_wp2
      have _ := AM (rD HO106.out)
      have _ := AM (rD HO112.out)
      have _ := AM (rD HO117.out)
      have _ := AM (kD BK113.out)
      have _ := AM (bD HB.out)
      clear HO106 HO112 HO117 BK113 HB
      rename_i HO106 HO112 HO117 BK113 HB
      refine start_ (n := 36) (S := fun w' => w'.cell? ⟨gb113, 0, none⟩ = some (.int .i64 t107) ∧ w'.cell? ⟨gb113, 1, none⟩ = some (.int .i64 t108) ∧ w'.cell? ⟨gb113, 2, none⟩ = some (.string t109) ∧ w'.cell? ⟨gb113, 3, none⟩ = some (.slice Ao15 t110.length co15)) (ds := []) (upTo 0 36) (by kernel_rfl) rfl rfl (q4 BK113.out) (fun hHeld => ?_); refine with_tabW laws_FnProof.tab6 laws_FnProof.bits6 (fun HT_ HW_ => ?_)
      generalize w16.drew = w41 at HO106 HO112 HO117 BK113 HB hHeld ⊢
      refine pF2 1 42 laws_FnProof.b0 ?_
      refine pF2 2 43 laws_FnProof.b1 ?_
      refine pF2 3 44 laws_FnProof.b2 ?_
      refine pF2 4 45 laws_FnProof.b3 ?_
      refine pT2 0 41 (upTo 5 36) ?_ hHeld
      refine one_ (i := 5) (N := some 46) (upTo 6 36) rfl rfl (one_of HT_.out (by kernel_rfl)) (by decide) (fun K hK => ?_)
      refine goes_ Try.func8 (by kernel_rfl) rfl #[.slice Ao11 t101.length co11, .int .i64 t102, .int .i64 t103, .string t104] (by rfl) rfl rfl (by (try simp only [mA, mB, mC]); first | done | rfl | (simp only [mD, mE]; rfl)) ?_
      with_reducible refine (spec_ProofOf.calls kj2 _ _ t101 t102 t103 t104 t118 t119 t120 t121 _ ?side1 ?side2 A17.out).mono ?_
      (case side1 => repeat (first | exact (Kd.R_reads' HO106.out).2.2 | (with_reducible first | apply cA | apply cN | apply cD)))
      (case side2 => exact (Kd.R_reads' HO106.out).2.1)
      rintro e w42 ⟨v122, rfl, ho0, hb⟩
      refine ⟨_, rfl, ?_⟩
      have _ := AM (Kd.R_below (rX HO106.out) hb)
      have _ := AM (Kd.R_elder' (rX HO112.out) (Kd.R_base ho0) hb)
      have _ := AM (Kd.R_below (rX HO117.out) hb)
      have _ := AM (Kd.R_lower (Kd.R_new' ho0 (Kd.R_lt (rX HO112.out))) (bZ (bX HB.out)))
      have _ := AM (nB BK113.out hb)
      have _ := AM (below_step (bX HB.out) hb)
      clear HO106 HO112 HO117 BK113 HB
      rename_i HO106 HO112 HO117 HO123 BK113 HB
      (try clear hb)
      (try clear hk)
      (try clear ho0)
      obtain ⟨Ao43, co43, eo43⟩ := Kd.R_slice HO123.out
      (first | subst eo43 | (injection eo43 with f1_ f2_ f3_; have f4_ := f1_.symm; have f5_ := f3_.symm; clear f1_ f2_ f3_; subst f4_; subst f5_))
      refine hK.out _ _ (q4 BK113.out) (fun hHeld => ?_)
      clear hK K
      refine norm_ (a' := ?_) ?_ ?_
      rotate_left
      ·
       show Act.put _ (some 46) _ = _
       simp only [Act.put, sA, sB, sC, i64_w, i32_w]
       rfl
      refine one_ (i := 6) (N := some 47) (upTo 7 36) rfl rfl (one_of HT_.out (by kernel_rfl)) (by decide) (fun K hK => ?_)
      refine goes_ Try.func7 (by kernel_rfl) rfl #[.agg #[.int .i64 t107, .int .i64 t108, .string t109, .slice Ao15 t110.length co15], .agg #[.int .i64 t118, .int .i64 t119, .string t120, .slice Ao43 t121.length co43]] (by rfl) rfl rfl (by (try simp only [mA, mB, mC]); first | done | rfl | (simp only [mD, mE]; rfl)) ?_
      with_reducible refine (laws_lwProof.calls kj2 t107 t108 t109 _ _ t110 t118 t119 t120 _ _ t121 true _ ?side1 ?side2 ?side3 ?side4 A18.out).mono ?_
      (case side1 => repeat (first | exact (Kd.R_reads' HO112.out).2.2 | (with_reducible first | apply cA | apply cN | apply cD)))
      (case side2 => exact (Kd.R_reads' HO112.out).2.1)
      (case side3 => repeat (first | exact (Kd.R_reads' HO123.out).2.2 | (with_reducible first | apply cA | apply cN | apply cD)))
      (case side4 => exact (Kd.R_reads' HO123.out).2.1)
      rintro e w44 ⟨rfl, hb⟩
      refine ⟨_, rfl, ?_⟩
      have _ := AM (Kd.R_below (rX HO106.out) hb)
      have _ := AM (Kd.R_below (rX HO112.out) hb)
      have _ := AM (Kd.R_below (rX HO117.out) hb)
      have _ := AM (Kd.R_below (rX HO123.out) hb)
      have _ := AM (nB BK113.out hb)
      have _ := AM (below_step (bX HB.out) hb)
      clear HO106 HO112 HO117 HO123 BK113 HB
      rename_i HO106 HO112 HO117 HO123 BK113 HB
      (try clear hb)
      (try clear hk)
      obtain ⟨Ao45, co45, eo45⟩ := Kd.R_slice HO117.out
      (first | subst eo45 | (injection eo45 with f1_ f2_ f3_; have f4_ := f1_.symm; have f5_ := f3_.symm; clear f1_ f2_ f3_; subst f4_; subst f5_))
      refine hK.out _ _ (q4 BK113.out) (fun hHeld => ?_)
      clear hK K
      refine norm_ (a' := ?_) ?_ ?_
      rotate_left
      ·
       show Act.put _ (some 47) _ = _
       simp only [Act.put, sA, sB, sC, i64_w, i32_w]
       rfl
      refine pF 7 8 36 48 ?_
      refine pF 8 9 36 49 ?_
      refine pF 9 10 36 50 ?_
      refine pF 10 11 36 51 ?_
      refine pF2 12 53 laws_FnProof.b4 ?_
      refine pF2 13 54 laws_FnProof.b5 ?_
      refine one_ (i := 11) (N := some 52) (upTo 14 36) rfl rfl (one_of HT_.out (by kernel_rfl)) (by decide) (fun K hK => ?_)
      refine goes_ Try.func9 (by kernel_rfl) rfl #[.slice Ao45 t114.length co45, .int .i64 t115] (by rfl) rfl rfl (by (try simp only [mA, mB, mC]); first | done | rfl | (simp only [mD, mE]; rfl)) ?_
      with_reducible refine (impl_Prepared.calls kj2 _ _ t114 t115 t125 t126 t127 t128 _ ?side1 ?side2 A20.out).mono ?_
      (case side1 => repeat (first | exact (Kd.R_reads' HO117.out).2.2 | (with_reducible first | apply cA | apply cN | apply cD)))
      (case side2 => exact (Kd.R_reads' HO117.out).2.1)
      rintro e w46 ⟨v129, rfl, ho0, hb⟩
      refine ⟨_, rfl, ?_⟩
      have _ := AM (Kd.R_below (rX HO106.out) hb)
      have _ := AM (Kd.R_elder' (rX HO112.out) (Kd.R_base ho0) hb)
      have _ := AM (Kd.R_below (rX HO117.out) hb)
      have _ := AM (Kd.R_elder' (rX HO123.out) (Kd.R_base ho0) hb)
      have _ := AM (Kd.R_lower (Kd.R_new' (Kd.R_new' ho0 (Kd.R_lt (rX HO112.out))) (Kd.R_lt (rX HO123.out))) (bZ (bX HB.out)))
      have _ := AM (nB BK113.out hb)
      have _ := AM (below_step (bX HB.out) hb)
      clear HO106 HO112 HO117 HO123 BK113 HB
      rename_i HO106 HO112 HO117 HO123 HO130 BK113 HB
      (try clear hb)
      (try clear hk)
      (try clear ho0)
      refine hK.out _ _ (q4 BK113.out) (fun hHeld => ?_)
      clear hK K
      refine norm_ (a' := ?_) ?_ ?_
      rotate_left
      ·
       show Act.put _ (some 52) _ = _
       simp only [Act.put, sA, sB, sC, i64_w, i32_w]
       rfl
      refine one_ (i := 14) (N := some 55) (upTo 15 36) rfl rfl (one_of HT_.out (by kernel_rfl)) (by decide) (fun K hK => ?_)
      refine goes_ Try.func10 (by kernel_rfl) rfl #[.slice Ao45 t114.length co45, .int .i64 t115] (by rfl) rfl rfl (by (try simp only [mA, mB, mC]); first | done | rfl | (simp only [mD, mE]; rfl)) ?_
      with_reducible refine (spec_Prepared.calls kj2 _ _ t114 t115 t131 t132 t133 t134 _ ?side1 ?side2 A21.out).mono ?_
      (case side1 => repeat (first | exact (Kd.R_reads' HO117.out).2.2 | (with_reducible first | apply cA | apply cN | apply cD)))
      (case side2 => exact (Kd.R_reads' HO117.out).2.1)
      rintro e w47 ⟨v135, rfl, ho0, hb⟩
      refine ⟨_, rfl, ?_⟩
      have _ := AM (Kd.R_below (rX HO106.out) hb)
      have _ := AM (Kd.R_elder' (rX HO112.out) (Kd.R_base ho0) hb)
      have _ := AM (Kd.R_below (rX HO117.out) hb)
      have _ := AM (Kd.R_elder' (rX HO123.out) (Kd.R_base ho0) hb)
      have _ := AM (Kd.R_elder' (rX HO130.out) (Kd.R_base ho0) hb)
      have _ := AM (Kd.R_lower (Kd.R_new' (Kd.R_new' (Kd.R_new' ho0 (Kd.R_lt (rX HO112.out))) (Kd.R_lt (rX HO123.out))) (Kd.R_lt (rX HO130.out))) (bZ (bX HB.out)))
      have _ := AM (nB BK113.out hb)
      have _ := AM (below_step (bX HB.out) hb)
      clear HO106 HO112 HO117 HO123 HO130 BK113 HB
      rename_i HO106 HO112 HO117 HO123 HO130 HO136 BK113 HB
      (try clear hb)
      (try clear hk)
      (try clear ho0)
      obtain ⟨Ao48, co48, eo48⟩ := Kd.R_slice HO130.out
      (first | subst eo48 | (injection eo48 with f1_ f2_ f3_; have f4_ := f1_.symm; have f5_ := f3_.symm; clear f1_ f2_ f3_; subst f4_; subst f5_))
      obtain ⟨Ao49, co49, eo49⟩ := Kd.R_slice HO136.out
      (first | subst eo49 | (injection eo49 with f1_ f2_ f3_; have f4_ := f1_.symm; have f5_ := f3_.symm; clear f1_ f2_ f3_; subst f4_; subst f5_))
      refine hK.out _ _ (q4 BK113.out) (fun hHeld => ?_)
      clear hK K
      refine norm_ (a' := ?_) ?_ ?_
      rotate_left
      ·
       show Act.put _ (some 55) _ = _
       simp only [Act.put, sA, sB, sC, i64_w, i32_w]
       rfl
      refine one_ (i := 15) (N := some 56) (upTo 16 36) rfl rfl (one_of HT_.out (by kernel_rfl)) (by decide) (fun K hK => ?_)
      refine goes_ Try.func7 (by kernel_rfl) rfl #[.agg #[.int .i64 t125, .int .i64 t126, .string t127, .slice Ao48 t128.length co48], .agg #[.int .i64 t131, .int .i64 t132, .string t133, .slice Ao49 t134.length co49]] (by rfl) rfl rfl (by (try simp only [mA, mB, mC]); first | done | rfl | (simp only [mD, mE]; rfl)) ?_
      with_reducible refine (laws_lwProof.calls kj2 t125 t126 t127 _ _ t128 t131 t132 t133 _ _ t134 true _ ?side1 ?side2 ?side3 ?side4 A22.out).mono ?_
      (case side1 => repeat (first | exact (Kd.R_reads' HO130.out).2.2 | (with_reducible first | apply cA | apply cN | apply cD)))
      (case side2 => exact (Kd.R_reads' HO130.out).2.1)
      (case side3 => repeat (first | exact (Kd.R_reads' HO136.out).2.2 | (with_reducible first | apply cA | apply cN | apply cD)))
      (case side4 => exact (Kd.R_reads' HO136.out).2.1)
      rintro e w50 ⟨rfl, hb⟩
      refine ⟨_, rfl, ?_⟩
      have _ := AM (Kd.R_below (rX HO106.out) hb)
      have _ := AM (Kd.R_below (rX HO112.out) hb)
      have _ := AM (Kd.R_below (rX HO117.out) hb)
      have _ := AM (Kd.R_below (rX HO123.out) hb)
      have _ := AM (Kd.R_below (rX HO130.out) hb)
      have _ := AM (Kd.R_below (rX HO136.out) hb)
      have _ := AM (nB BK113.out hb)
      have _ := AM (below_step (bX HB.out) hb)
      clear HO106 HO112 HO117 HO123 HO130 HO136 BK113 HB
      rename_i HO106 HO112 HO117 HO123 HO130 HO136 BK113 HB
      (try clear hb)
      (try clear hk)
      refine hK.out _ _ (q4 BK113.out) (fun hHeld => ?_)
      clear hK K
      refine norm_ (a' := ?_) ?_ ?_
      rotate_left
      ·
       show Act.put _ (some 56) _ = _
       simp only [Act.put, sA, sB, sC, i64_w, i32_w]
       rfl
      refine pF 16 17 36 57 ?_
      refine pF 17 18 36 58 ?_
      refine pF 18 19 36 59 ?_
      refine pF 19 20 36 60 ?_
      refine pF 20 21 36 61 ?_
      refine pF2 22 63 laws_FnProof.b6 ?_
      refine pF2 23 64 laws_FnProof.b7 ?_
      refine one_ (i := 21) (N := some 62) (upTo 24 36) rfl rfl (one_of HT_.out (by kernel_rfl)) (by decide) (fun K hK => ?_)
      refine goes_ Try.func11 (by kernel_rfl) rfl #[.slice Ao45 t114.length co45, .int .i64 t115] (by rfl) rfl rfl (by (try simp only [mA, mB, mC]); first | done | rfl | (simp only [mD, mE]; rfl)) ?_
      with_reducible refine (impl_Decided.calls kj2 _ _ t114 t115 t138 _ ?side1 ?side2 A24.out).mono ?_
      (case side1 => repeat (first | exact (Kd.R_reads' HO117.out).2.2 | (with_reducible first | apply cA | apply cN | apply cD)))
      (case side2 => exact (Kd.R_reads' HO117.out).2.1)
      rintro e w51 ⟨rfl, hb⟩
      refine ⟨_, rfl, ?_⟩
      have _ := AM (Kd.R_below (rX HO106.out) hb)
      have _ := AM (Kd.R_below (rX HO112.out) hb)
      have _ := AM (Kd.R_below (rX HO117.out) hb)
      have _ := AM (Kd.R_below (rX HO123.out) hb)
      have _ := AM (Kd.R_below (rX HO130.out) hb)
      have _ := AM (Kd.R_below (rX HO136.out) hb)
      have _ := AM (nB BK113.out hb)
      have _ := AM (below_step (bX HB.out) hb)
      clear HO106 HO112 HO117 HO123 HO130 HO136 BK113 HB
      rename_i HO106 HO112 HO117 HO123 HO130 HO136 BK113 HB
      (try clear hb)
      (try clear hk)
      refine hK.out _ _ (q4 BK113.out) (fun hHeld => ?_)
      clear hK K
      refine norm_ (a' := ?_) ?_ ?_
      rotate_left
      ·
       show Act.put _ (some 62) _ = _
       simp only [Act.put, sA, sB, sC, i64_w, i32_w]
       rfl
      refine one_ (i := 24) (N := some 65) (upTo 25 36) rfl rfl (one_of HT_.out (by kernel_rfl)) (by decide) (fun K hK => ?_)
      refine goes_ Try.func12 (by kernel_rfl) rfl #[.slice Ao45 t114.length co45, .int .i64 t115] (by rfl) rfl rfl (by (try simp only [mA, mB, mC]); first | done | rfl | (simp only [mD, mE]; rfl)) ?_
      with_reducible refine (spec_Decided.calls kj2 _ _ t114 t115 t139 _ ?side1 ?side2 A25.out).mono ?_
      (case side1 => repeat (first | exact (Kd.R_reads' HO117.out).2.2 | (with_reducible first | apply cA | apply cN | apply cD)))
      (case side2 => exact (Kd.R_reads' HO117.out).2.1)
      rintro e w52 ⟨rfl, hb⟩
      refine ⟨_, rfl, ?_⟩
      have _ := AM (Kd.R_below (rX HO106.out) hb)
      have _ := AM (Kd.R_below (rX HO112.out) hb)
      have _ := AM (Kd.R_below (rX HO117.out) hb)
      have _ := AM (Kd.R_below (rX HO123.out) hb)
      have _ := AM (Kd.R_below (rX HO130.out) hb)
      have _ := AM (Kd.R_below (rX HO136.out) hb)
      have _ := AM (nB BK113.out hb)
      have _ := AM (below_step (bX HB.out) hb)
      clear HO106 HO112 HO117 HO123 HO130 HO136 BK113 HB
      rename_i HO106 HO112 HO117 HO123 HO130 HO136 BK113 HB
      (try clear hb)
      (try clear hk)
      refine hK.out _ _ (q4 BK113.out) (fun hHeld => ?_)
      clear hK K
      refine norm_ (a' := ?_) ?_ ?_
      rotate_left
      ·
       show Act.put _ (some 65) _ = _
       simp only [Act.put, sA, sB, sC, i64_w, i32_w]
       rfl
      refine pF 25 26 36 66 ?_
      refine pF 26 27 36 67 ?_
      refine pF 27 28 36 68 ?_
      refine pF 28 29 36 69 ?_
      refine pF 29 30 36 70 ?_
      refine pF2 31 72 laws_FnProof.b8 ?_
      refine pF2 32 73 laws_FnProof.b9 ?_
      refine one_ (i := 30) (N := some 71) (upTo 33 36) rfl rfl (one_of HT_.out (by kernel_rfl)) (by decide) (fun K hK => ?_)
      refine goes_ Try.func13 (by kernel_rfl) rfl #[.slice Ao45 t114.length co45, .int .i64 t115] (by rfl) rfl rfl (by (try simp only [mA, mB, mC]); first | done | rfl | (simp only [mD, mE]; rfl)) ?_
      with_reducible refine (impl_OpOf.calls kj2 _ _ t114 t115 t140 _ ?side1 ?side2 A39.out).mono ?_
      (case side1 => repeat (first | exact (Kd.R_reads' HO117.out).2.2 | (with_reducible first | apply cA | apply cN | apply cD)))
      (case side2 => exact (Kd.R_reads' HO117.out).2.1)
      rintro e w53 ⟨rfl, hb⟩
      refine ⟨_, rfl, ?_⟩
      have _ := AM (Kd.R_below (rX HO106.out) hb)
      have _ := AM (Kd.R_below (rX HO112.out) hb)
      have _ := AM (Kd.R_below (rX HO117.out) hb)
      have _ := AM (Kd.R_below (rX HO123.out) hb)
      have _ := AM (Kd.R_below (rX HO130.out) hb)
      have _ := AM (Kd.R_below (rX HO136.out) hb)
      have _ := AM (nB BK113.out hb)
      have _ := AM (below_step (bX HB.out) hb)
      clear HO106 HO112 HO117 HO123 HO130 HO136 BK113 HB
      rename_i HO106 HO112 HO117 HO123 HO130 HO136 BK113 HB
      (try clear hb)
      (try clear hk)
      refine hK.out _ _ (q4 BK113.out) (fun hHeld => ?_)
      clear hK K
      refine norm_ (a' := ?_) ?_ ?_
      rotate_left
      ·
       show Act.put _ (some 71) _ = _
       simp only [Act.put, sA, sB, sC, i64_w, i32_w]
       rfl
      refine one_ (i := 33) (N := some 74) (upTo 34 36) rfl rfl (one_of HT_.out (by kernel_rfl)) (by decide) (fun K hK => ?_)
      refine goes_ Try.func14 (by kernel_rfl) rfl #[.slice Ao45 t114.length co45, .int .i64 t115] (by rfl) rfl rfl (by (try simp only [mA, mB, mC]); first | done | rfl | (simp only [mD, mE]; rfl)) ?_
      with_reducible refine (spec_OpOf.calls kj2 _ _ t114 t115 t141 _ ?side1 ?side2 A40.out).mono ?_
      (case side1 => repeat (first | exact (Kd.R_reads' HO117.out).2.2 | (with_reducible first | apply cA | apply cN | apply cD)))
      (case side2 => exact (Kd.R_reads' HO117.out).2.1)
      rintro e w54 ⟨rfl, hb⟩
      refine ⟨_, rfl, ?_⟩
      have _ := AM (Kd.R_below (rX HO106.out) hb)
      have _ := AM (Kd.R_below (rX HO112.out) hb)
      have _ := AM (Kd.R_below (rX HO117.out) hb)
      have _ := AM (Kd.R_below (rX HO123.out) hb)
      have _ := AM (Kd.R_below (rX HO130.out) hb)
      have _ := AM (Kd.R_below (rX HO136.out) hb)
      have _ := AM (nB BK113.out hb)
      have _ := AM (below_step (bX HB.out) hb)
      clear HO106 HO112 HO117 HO123 HO130 HO136 BK113 HB
      rename_i HO106 HO112 HO117 HO123 HO130 HO136 BK113 HB
      (try clear hb)
      (try clear hk)
      refine hK.out _ _ (q4 BK113.out) (fun hHeld => ?_)
      clear hK K
      refine norm_ (a' := ?_) ?_ ?_
      rotate_left
      ·
       show Act.put _ (some 74) _ = _
       simp only [Act.put, sA, sB, sC, i64_w, i32_w]
       rfl
      refine pF 34 35 36 75 ?_
      refine pF 35 36 36 76 ?_
      refine done_ (done_of HT_.out (by kernel_rfl)) ?_
      try go_wp2
      go_meet
      case rel => exact ⟨_, ((t140.toList != t141.toList)), (by first | rfl | (simp; done) | (simp [*]; done)), H', ⟨by have := HJ2.out; first | omega | exact Nat.le_refl _⟩, ⟨by (with_reducible repeat (first | apply rA | apply rN | apply rD)); exact Kd.R_mono HO106.out (fun _ hk => hk.2)⟩, ⟨by (with_reducible repeat (first | apply rA | apply rN | apply rD)); exact Kd.R_mono HO117.out (fun _ hk => hk.2)⟩, ⟨by (with_reducible repeat (first | apply rA | apply rN | apply rD)); exact Kd.R_mono HO112.out (fun _ hk => trivial)⟩, ⟨kX BK113.out⟩, ⟨bX HB.out⟩⟩
     replace c23 := Bool.eq_false_iff.mpr c23
     subst c23
     have H1 : (laws_FnProof.j1 kj2 t101 t102 t103 t104 t114 t115 true t107 t108 t109 t110) = some r := by rw [if_neg (show ¬ (false = true) by decide)] at H; exact H
     clear H
     have H := H1
     clear H1
     have H' := AM H
     clear H
     try go_wp2
     have _ := AM (rD HO106.out)
     have _ := AM (rD HO112.out)
     have _ := AM (rD HO117.out)
     have _ := AM (kD BK113.out)
     have _ := AM (bD HB.out)
     clear HO106 HO112 HO117 BK113 HB
     rename_i HO106 HO112 HO117 BK113 HB
     refine start_ (n := 36) (S := fun w' => w'.cell? ⟨gb113, 0, none⟩ = some (.int .i64 t107) ∧ w'.cell? ⟨gb113, 1, none⟩ = some (.int .i64 t108) ∧ w'.cell? ⟨gb113, 2, none⟩ = some (.string t109) ∧ w'.cell? ⟨gb113, 3, none⟩ = some (.slice Ao15 t110.length co15)) (ds := []) (upTo 0 36) (by kernel_rfl) rfl rfl (q4 BK113.out) (fun hHeld => ?_); refine with_tabW laws_FnProof.tab6 laws_FnProof.bits6 (fun HT_ HW_ => ?_)
     generalize w16.drew = w55 at HO106 HO112 HO117 BK113 HB hHeld ⊢
     refine pF2 1 42 laws_FnProof.b0 ?_
     refine pF2 2 43 laws_FnProof.b1 ?_
     refine pF2 3 44 laws_FnProof.b2 ?_
     refine pF2 4 45 laws_FnProof.b3 ?_
     refine pT2 0 41 (upTo 5 36) ?_ hHeld
     refine one_ (i := 5) (N := some 46) (upTo 6 36) rfl rfl (one_of HT_.out (by kernel_rfl)) (by decide) (fun K hK => ?_)
     refine goes_ Try.func8 (by kernel_rfl) rfl #[.slice Ao11 t101.length co11, .int .i64 t102, .int .i64 t103, .string t104] (by rfl) rfl rfl (by (try simp only [mA, mB, mC]); first | done | rfl | (simp only [mD, mE]; rfl)) ?_
     with_reducible refine (spec_ProofOf.calls kj2 _ _ t101 t102 t103 t104 t118 t119 t120 t121 _ ?side1 ?side2 A17.out).mono ?_
     (case side1 => repeat (first | exact (Kd.R_reads' HO106.out).2.2 | (with_reducible first | apply cA | apply cN | apply cD)))
     (case side2 => exact (Kd.R_reads' HO106.out).2.1)
     rintro e w56 ⟨v122, rfl, ho0, hb⟩
     refine ⟨_, rfl, ?_⟩
     have _ := AM (Kd.R_below (rX HO106.out) hb)
     have _ := AM (Kd.R_elder' (rX HO112.out) (Kd.R_base ho0) hb)
     have _ := AM (Kd.R_below (rX HO117.out) hb)
     have _ := AM (Kd.R_lower (Kd.R_new' ho0 (Kd.R_lt (rX HO112.out))) (bZ (bX HB.out)))
     have _ := AM (nB BK113.out hb)
     have _ := AM (below_step (bX HB.out) hb)
     clear HO106 HO112 HO117 BK113 HB
     rename_i HO106 HO112 HO117 HO123 BK113 HB
     (try clear hb)
     (try clear hk)
     (try clear ho0)
     obtain ⟨Ao57, co57, eo57⟩ := Kd.R_slice HO123.out
     (first | subst eo57 | (injection eo57 with f1_ f2_ f3_; have f4_ := f1_.symm; have f5_ := f3_.symm; clear f1_ f2_ f3_; subst f4_; subst f5_))
     refine hK.out _ _ (q4 BK113.out) (fun hHeld => ?_)
     clear hK K
     refine norm_ (a' := ?_) ?_ ?_
     rotate_left
     ·
      show Act.put _ (some 46) _ = _
      simp only [Act.put, sA, sB, sC, i64_w, i32_w]
      rfl
     refine one_ (i := 6) (N := some 47) (upTo 7 36) rfl rfl (one_of HT_.out (by kernel_rfl)) (by decide) (fun K hK => ?_)
     refine goes_ Try.func7 (by kernel_rfl) rfl #[.agg #[.int .i64 t107, .int .i64 t108, .string t109, .slice Ao15 t110.length co15], .agg #[.int .i64 t118, .int .i64 t119, .string t120, .slice Ao57 t121.length co57]] (by rfl) rfl rfl (by (try simp only [mA, mB, mC]); first | done | rfl | (simp only [mD, mE]; rfl)) ?_
     with_reducible refine (laws_lwProof.calls kj2 t107 t108 t109 _ _ t110 t118 t119 t120 _ _ t121 true _ ?side1 ?side2 ?side3 ?side4 A18.out).mono ?_
     (case side1 => repeat (first | exact (Kd.R_reads' HO112.out).2.2 | (with_reducible first | apply cA | apply cN | apply cD)))
     (case side2 => exact (Kd.R_reads' HO112.out).2.1)
     (case side3 => repeat (first | exact (Kd.R_reads' HO123.out).2.2 | (with_reducible first | apply cA | apply cN | apply cD)))
     (case side4 => exact (Kd.R_reads' HO123.out).2.1)
     rintro e w58 ⟨rfl, hb⟩
     refine ⟨_, rfl, ?_⟩
     have _ := AM (Kd.R_below (rX HO106.out) hb)
     have _ := AM (Kd.R_below (rX HO112.out) hb)
     have _ := AM (Kd.R_below (rX HO117.out) hb)
     have _ := AM (Kd.R_below (rX HO123.out) hb)
     have _ := AM (nB BK113.out hb)
     have _ := AM (below_step (bX HB.out) hb)
     clear HO106 HO112 HO117 HO123 BK113 HB
     rename_i HO106 HO112 HO117 HO123 BK113 HB
     (try clear hb)
     (try clear hk)
     obtain ⟨Ao59, co59, eo59⟩ := Kd.R_slice HO117.out
     (first | subst eo59 | (injection eo59 with f1_ f2_ f3_; have f4_ := f1_.symm; have f5_ := f3_.symm; clear f1_ f2_ f3_; subst f4_; subst f5_))
     refine hK.out _ _ (q4 BK113.out) (fun hHeld => ?_)
     clear hK K
     refine norm_ (a' := ?_) ?_ ?_
     rotate_left
     ·
      show Act.put _ (some 47) _ = _
      simp only [Act.put, sA, sB, sC, i64_w, i32_w]
      rfl
     refine pF 7 8 36 48 ?_
     refine pF 8 9 36 49 ?_
     refine pF 9 10 36 50 ?_
     refine pF 10 11 36 51 ?_
     refine pF2 12 53 laws_FnProof.b4 ?_
     refine pF2 13 54 laws_FnProof.b5 ?_
     refine one_ (i := 11) (N := some 52) (upTo 14 36) rfl rfl (one_of HT_.out (by kernel_rfl)) (by decide) (fun K hK => ?_)
     refine goes_ Try.func9 (by kernel_rfl) rfl #[.slice Ao59 t114.length co59, .int .i64 t115] (by rfl) rfl rfl (by (try simp only [mA, mB, mC]); first | done | rfl | (simp only [mD, mE]; rfl)) ?_
     with_reducible refine (impl_Prepared.calls kj2 _ _ t114 t115 t125 t126 t127 t128 _ ?side1 ?side2 A20.out).mono ?_
     (case side1 => repeat (first | exact (Kd.R_reads' HO117.out).2.2 | (with_reducible first | apply cA | apply cN | apply cD)))
     (case side2 => exact (Kd.R_reads' HO117.out).2.1)
     rintro e w60 ⟨v129, rfl, ho0, hb⟩
     refine ⟨_, rfl, ?_⟩
     have _ := AM (Kd.R_below (rX HO106.out) hb)
     have _ := AM (Kd.R_elder' (rX HO112.out) (Kd.R_base ho0) hb)
     have _ := AM (Kd.R_below (rX HO117.out) hb)
     have _ := AM (Kd.R_elder' (rX HO123.out) (Kd.R_base ho0) hb)
     have _ := AM (Kd.R_lower (Kd.R_new' (Kd.R_new' ho0 (Kd.R_lt (rX HO112.out))) (Kd.R_lt (rX HO123.out))) (bZ (bX HB.out)))
     have _ := AM (nB BK113.out hb)
     have _ := AM (below_step (bX HB.out) hb)
     clear HO106 HO112 HO117 HO123 BK113 HB
     rename_i HO106 HO112 HO117 HO123 HO130 BK113 HB
     (try clear hb)
     (try clear hk)
     (try clear ho0)
     refine hK.out _ _ (q4 BK113.out) (fun hHeld => ?_)
     clear hK K
     refine norm_ (a' := ?_) ?_ ?_
     rotate_left
     ·
      show Act.put _ (some 52) _ = _
      simp only [Act.put, sA, sB, sC, i64_w, i32_w]
      rfl
     refine one_ (i := 14) (N := some 55) (upTo 15 36) rfl rfl (one_of HT_.out (by kernel_rfl)) (by decide) (fun K hK => ?_)
     refine goes_ Try.func10 (by kernel_rfl) rfl #[.slice Ao59 t114.length co59, .int .i64 t115] (by rfl) rfl rfl (by (try simp only [mA, mB, mC]); first | done | rfl | (simp only [mD, mE]; rfl)) ?_
     with_reducible refine (spec_Prepared.calls kj2 _ _ t114 t115 t131 t132 t133 t134 _ ?side1 ?side2 A21.out).mono ?_
     (case side1 => repeat (first | exact (Kd.R_reads' HO117.out).2.2 | (with_reducible first | apply cA | apply cN | apply cD)))
     (case side2 => exact (Kd.R_reads' HO117.out).2.1)
     rintro e w61 ⟨v135, rfl, ho0, hb⟩
     refine ⟨_, rfl, ?_⟩
     have _ := AM (Kd.R_below (rX HO106.out) hb)
     have _ := AM (Kd.R_elder' (rX HO112.out) (Kd.R_base ho0) hb)
     have _ := AM (Kd.R_below (rX HO117.out) hb)
     have _ := AM (Kd.R_elder' (rX HO123.out) (Kd.R_base ho0) hb)
     have _ := AM (Kd.R_elder' (rX HO130.out) (Kd.R_base ho0) hb)
     have _ := AM (Kd.R_lower (Kd.R_new' (Kd.R_new' (Kd.R_new' ho0 (Kd.R_lt (rX HO112.out))) (Kd.R_lt (rX HO123.out))) (Kd.R_lt (rX HO130.out))) (bZ (bX HB.out)))
     have _ := AM (nB BK113.out hb)
     have _ := AM (below_step (bX HB.out) hb)
     clear HO106 HO112 HO117 HO123 HO130 BK113 HB
     rename_i HO106 HO112 HO117 HO123 HO130 HO136 BK113 HB
     (try clear hb)
     (try clear hk)
     (try clear ho0)
     obtain ⟨Ao62, co62, eo62⟩ := Kd.R_slice HO130.out
     (first | subst eo62 | (injection eo62 with f1_ f2_ f3_; have f4_ := f1_.symm; have f5_ := f3_.symm; clear f1_ f2_ f3_; subst f4_; subst f5_))
     obtain ⟨Ao63, co63, eo63⟩ := Kd.R_slice HO136.out
     (first | subst eo63 | (injection eo63 with f1_ f2_ f3_; have f4_ := f1_.symm; have f5_ := f3_.symm; clear f1_ f2_ f3_; subst f4_; subst f5_))
     refine hK.out _ _ (q4 BK113.out) (fun hHeld => ?_)
     clear hK K
     refine norm_ (a' := ?_) ?_ ?_
     rotate_left
     ·
      show Act.put _ (some 55) _ = _
      simp only [Act.put, sA, sB, sC, i64_w, i32_w]
      rfl
     refine one_ (i := 15) (N := some 56) (upTo 16 36) rfl rfl (one_of HT_.out (by kernel_rfl)) (by decide) (fun K hK => ?_)
     refine goes_ Try.func7 (by kernel_rfl) rfl #[.agg #[.int .i64 t125, .int .i64 t126, .string t127, .slice Ao62 t128.length co62], .agg #[.int .i64 t131, .int .i64 t132, .string t133, .slice Ao63 t134.length co63]] (by rfl) rfl rfl (by (try simp only [mA, mB, mC]); first | done | rfl | (simp only [mD, mE]; rfl)) ?_
     with_reducible refine (laws_lwProof.calls kj2 t125 t126 t127 _ _ t128 t131 t132 t133 _ _ t134 false _ ?side1 ?side2 ?side3 ?side4 A22.out).mono ?_
     (case side1 => repeat (first | exact (Kd.R_reads' HO130.out).2.2 | (with_reducible first | apply cA | apply cN | apply cD)))
     (case side2 => exact (Kd.R_reads' HO130.out).2.1)
     (case side3 => repeat (first | exact (Kd.R_reads' HO136.out).2.2 | (with_reducible first | apply cA | apply cN | apply cD)))
     (case side4 => exact (Kd.R_reads' HO136.out).2.1)
     rintro e w64 ⟨rfl, hb⟩
     refine ⟨_, rfl, ?_⟩
     have _ := AM (Kd.R_below (rX HO106.out) hb)
     have _ := AM (Kd.R_below (rX HO112.out) hb)
     have _ := AM (Kd.R_below (rX HO117.out) hb)
     have _ := AM (Kd.R_below (rX HO123.out) hb)
     have _ := AM (Kd.R_below (rX HO130.out) hb)
     have _ := AM (Kd.R_below (rX HO136.out) hb)
     have _ := AM (nB BK113.out hb)
     have _ := AM (below_step (bX HB.out) hb)
     clear HO106 HO112 HO117 HO123 HO130 HO136 BK113 HB
     rename_i HO106 HO112 HO117 HO123 HO130 HO136 BK113 HB
     (try clear hb)
     (try clear hk)
     refine hK.out _ _ (q4 BK113.out) (fun hHeld => ?_)
     clear hK K
     refine norm_ (a' := ?_) ?_ ?_
     rotate_left
     ·
      show Act.put _ (some 56) _ = _
      simp only [Act.put, sA, sB, sC, i64_w, i32_w]
      rfl
     refine pF 16 17 36 57 ?_
     refine pF 17 18 36 58 ?_
     refine pF 18 19 36 59 ?_
     refine pU 19 20 36 60 ?_
     refine pU 20 21 36 61 ?_
     refine pU 21 22 36 62 ?_
     refine pU 22 23 36 63 ?_
     refine pU 23 24 36 64 ?_
     refine pU 24 25 36 65 ?_
     refine pU 25 26 36 66 ?_
     refine pF 26 27 36 67 ?_
     refine pF 27 28 36 68 ?_
     refine pU 28 29 36 69 ?_
     refine pU 29 30 36 70 ?_
     refine pU 30 31 36 71 ?_
     refine pU 31 32 36 72 ?_
     refine pU 32 33 36 73 ?_
     refine pU 33 34 36 74 ?_
     refine pU 34 35 36 75 ?_
     refine pF 35 36 36 76 ?_
     refine done_ (done_of HT_.out (by kernel_rfl)) ?_
     try go_wp2
     go_meet
     case rel => exact ⟨_, (true), (by first | rfl | (simp; done) | (simp [*]; done)), H', ⟨by have := HJ2.out; first | omega | exact Nat.le_refl _⟩, ⟨by (with_reducible repeat (first | apply rA | apply rN | apply rD)); exact Kd.R_mono HO106.out (fun _ hk => hk.2)⟩, ⟨by (with_reducible repeat (first | apply rA | apply rN | apply rD)); exact Kd.R_mono HO117.out (fun _ hk => hk.2)⟩, ⟨by (with_reducible repeat (first | apply rA | apply rN | apply rD)); exact Kd.R_mono HO112.out (fun _ hk => trivial)⟩, ⟨kX BK113.out⟩, ⟨bX HB.out⟩⟩
    replace c19 := Bool.eq_false_iff.mpr c19
    subst c19
    have H1 : (laws_FnProof.j1 kj2 t101 t102 t103 t104 t114 t115 true t107 t108 t109 t110) = some r := by rw [if_neg (show ¬ (false = true) by decide)] at H; exact H
    clear H
    have H := H1
    clear H1
    have H' := AM H
    clear H
    try go_wp2
    have _ := AM (rD HO106.out)
    have _ := AM (rD HO112.out)
    have _ := AM (rD HO117.out)
    have _ := AM (kD BK113.out)
    have _ := AM (bD HB.out)
    clear HO106 HO112 HO117 BK113 HB
    rename_i HO106 HO112 HO117 BK113 HB
    refine start_ (n := 36) (S := fun w' => w'.cell? ⟨gb113, 0, none⟩ = some (.int .i64 t107) ∧ w'.cell? ⟨gb113, 1, none⟩ = some (.int .i64 t108) ∧ w'.cell? ⟨gb113, 2, none⟩ = some (.string t109) ∧ w'.cell? ⟨gb113, 3, none⟩ = some (.slice Ao15 t110.length co15)) (ds := []) (upTo 0 36) (by kernel_rfl) rfl rfl (q4 BK113.out) (fun hHeld => ?_); refine with_tabW laws_FnProof.tab6 laws_FnProof.bits6 (fun HT_ HW_ => ?_)
    generalize w16.drew = w65 at HO106 HO112 HO117 BK113 HB hHeld ⊢
    refine pF2 1 42 laws_FnProof.b0 ?_
    refine pF2 2 43 laws_FnProof.b1 ?_
    refine pF2 3 44 laws_FnProof.b2 ?_
    refine pF2 4 45 laws_FnProof.b3 ?_
    refine pT2 0 41 (upTo 5 36) ?_ hHeld
    refine one_ (i := 5) (N := some 46) (upTo 6 36) rfl rfl (one_of HT_.out (by kernel_rfl)) (by decide) (fun K hK => ?_)
    refine goes_ Try.func8 (by kernel_rfl) rfl #[.slice Ao11 t101.length co11, .int .i64 t102, .int .i64 t103, .string t104] (by rfl) rfl rfl (by (try simp only [mA, mB, mC]); first | done | rfl | (simp only [mD, mE]; rfl)) ?_
    with_reducible refine (spec_ProofOf.calls kj2 _ _ t101 t102 t103 t104 t118 t119 t120 t121 _ ?side1 ?side2 A17.out).mono ?_
    (case side1 => repeat (first | exact (Kd.R_reads' HO106.out).2.2 | (with_reducible first | apply cA | apply cN | apply cD)))
    (case side2 => exact (Kd.R_reads' HO106.out).2.1)
    rintro e w66 ⟨v122, rfl, ho0, hb⟩
    refine ⟨_, rfl, ?_⟩
    have _ := AM (Kd.R_below (rX HO106.out) hb)
    have _ := AM (Kd.R_elder' (rX HO112.out) (Kd.R_base ho0) hb)
    have _ := AM (Kd.R_below (rX HO117.out) hb)
    have _ := AM (Kd.R_lower (Kd.R_new' ho0 (Kd.R_lt (rX HO112.out))) (bZ (bX HB.out)))
    have _ := AM (nB BK113.out hb)
    have _ := AM (below_step (bX HB.out) hb)
    clear HO106 HO112 HO117 BK113 HB
    rename_i HO106 HO112 HO117 HO123 BK113 HB
    (try clear hb)
    (try clear hk)
    (try clear ho0)
    obtain ⟨Ao67, co67, eo67⟩ := Kd.R_slice HO123.out
    (first | subst eo67 | (injection eo67 with f1_ f2_ f3_; have f4_ := f1_.symm; have f5_ := f3_.symm; clear f1_ f2_ f3_; subst f4_; subst f5_))
    refine hK.out _ _ (q4 BK113.out) (fun hHeld => ?_)
    clear hK K
    refine norm_ (a' := ?_) ?_ ?_
    rotate_left
    ·
     show Act.put _ (some 46) _ = _
     simp only [Act.put, sA, sB, sC, i64_w, i32_w]
     rfl
    refine one_ (i := 6) (N := some 47) (upTo 7 36) rfl rfl (one_of HT_.out (by kernel_rfl)) (by decide) (fun K hK => ?_)
    refine goes_ Try.func7 (by kernel_rfl) rfl #[.agg #[.int .i64 t107, .int .i64 t108, .string t109, .slice Ao15 t110.length co15], .agg #[.int .i64 t118, .int .i64 t119, .string t120, .slice Ao67 t121.length co67]] (by rfl) rfl rfl (by (try simp only [mA, mB, mC]); first | done | rfl | (simp only [mD, mE]; rfl)) ?_
    with_reducible refine (laws_lwProof.calls kj2 t107 t108 t109 _ _ t110 t118 t119 t120 _ _ t121 false _ ?side1 ?side2 ?side3 ?side4 A18.out).mono ?_
    (case side1 => repeat (first | exact (Kd.R_reads' HO112.out).2.2 | (with_reducible first | apply cA | apply cN | apply cD)))
    (case side2 => exact (Kd.R_reads' HO112.out).2.1)
    (case side3 => repeat (first | exact (Kd.R_reads' HO123.out).2.2 | (with_reducible first | apply cA | apply cN | apply cD)))
    (case side4 => exact (Kd.R_reads' HO123.out).2.1)
    rintro e w68 ⟨rfl, hb⟩
    refine ⟨_, rfl, ?_⟩
    have _ := AM (Kd.R_below (rX HO106.out) hb)
    have _ := AM (Kd.R_below (rX HO112.out) hb)
    have _ := AM (Kd.R_below (rX HO117.out) hb)
    have _ := AM (Kd.R_below (rX HO123.out) hb)
    have _ := AM (nB BK113.out hb)
    have _ := AM (below_step (bX HB.out) hb)
    clear HO106 HO112 HO117 HO123 BK113 HB
    rename_i HO106 HO112 HO117 HO123 BK113 HB
    (try clear hb)
    (try clear hk)
    refine hK.out _ _ (q4 BK113.out) (fun hHeld => ?_)
    clear hK K
    refine norm_ (a' := ?_) ?_ ?_
    rotate_left
    ·
     show Act.put _ (some 47) _ = _
     simp only [Act.put, sA, sB, sC, i64_w, i32_w]
     rfl
    refine pF 7 8 36 48 ?_
    refine pF 8 9 36 49 ?_
    refine pU 9 10 36 50 ?_
    refine pU 10 11 36 51 ?_
    refine pU 11 12 36 52 ?_
    refine pU 12 13 36 53 ?_
    refine pU 13 14 36 54 ?_
    refine pU 14 15 36 55 ?_
    refine pU 15 16 36 56 ?_
    refine pU 16 17 36 57 ?_
    refine pF 17 18 36 58 ?_
    refine pF 18 19 36 59 ?_
    refine pU 19 20 36 60 ?_
    refine pU 20 21 36 61 ?_
    refine pU 21 22 36 62 ?_
    refine pU 22 23 36 63 ?_
    refine pU 23 24 36 64 ?_
    refine pU 24 25 36 65 ?_
    refine pU 25 26 36 66 ?_
    refine pF 26 27 36 67 ?_
    refine pF 27 28 36 68 ?_
    refine pU 28 29 36 69 ?_
    refine pU 29 30 36 70 ?_
    refine pU 30 31 36 71 ?_
    refine pU 31 32 36 72 ?_
    refine pU 32 33 36 73 ?_
    refine pU 33 34 36 74 ?_
    refine pU 34 35 36 75 ?_
    refine pF 35 36 36 76 ?_
    refine done_ (done_of HT_.out (by kernel_rfl)) ?_
    try go_wp2
    go_meet
    case rel => exact ⟨_, (true), (by first | rfl | (simp; done) | (simp [*]; done)), H', ⟨by have := HJ2.out; first | omega | exact Nat.le_refl _⟩, ⟨by (with_reducible repeat (first | apply rA | apply rN | apply rD)); exact Kd.R_mono HO106.out (fun _ hk => hk.2)⟩, ⟨by (with_reducible repeat (first | apply rA | apply rN | apply rD)); exact Kd.R_mono HO117.out (fun _ hk => hk.2)⟩, ⟨by (with_reducible repeat (first | apply rA | apply rN | apply rD)); exact Kd.R_mono HO112.out (fun _ hk => trivial)⟩, ⟨kX BK113.out⟩, ⟨bX HB.out⟩⟩
   case rest =>
    clear HC9
    (try clear c1); (try clear p2); (try clear c7); (try clear c8); (try clear c9); (try clear c10); (try clear c19)
    obtain ⟨kq, x76_8, rfl, HA, HJ8, HO_5, HO_10, HO_114003, BK113, HB⟩ := hcut
    cases kq with
    | zero => exact absurd HA.out (by simp [laws_FnProof.j1])
    | succ kj8 =>
     have H := HA.out
     clear HA
     simp only [laws_FnProof.j1] at H
     by_cases c69 : x76_8 = true
     ·
      subst c69
      have H1 : (none) = some r := by rw [if_pos rfl] at H; exact H
      clear H
      have H := H1
      clear H1
      exact absurd H (by simp)
     replace c69 := Bool.eq_false_iff.mpr c69
     subst c69
     have H1 : (if (t110.length : Int) > 0 then (laws_FnProof.l0 kj8 t101 t102 t103 t104 t114 t115 (([(⟨#[]⟩ : ByteArray), (⟨#[97]⟩ : ByteArray), (⟨#[98]⟩ : ByteArray), (⟨#[99]⟩ : ByteArray), (⟨#[100]⟩ : ByteArray)] : List ByteArray)) 0 t107 t108 t109 t110) else (laws_FnProof.j3 kj8 t114 t115)) = some r := by rw [if_neg (show ¬ (false = true) by decide)] at H; exact H
     clear H
     have H := H1
     clear H1
     have HC70 := AM H
     clear H
     have hcz71 := q4 BK113.out
     have hfz71 := fZ BK113.out
     go_upto_if 80 with (fail)
     go_cut [] (fun wc => ∃ (kq : Nat), Aside0 (laws_FnProof.j3 kq t114 t115 = some r) ∧ Aside0 (kq ≤ kj8) ∧ Aside0 (Kd.R k45 45 wc w.heap.size (fun _ => True) v116 t114) ∧ Aside0 (Kd.R (Kd.int .i64) 2 wc w.heap.size (fun _ => True) (.slice Ao15 t110.length co15) t110) ∧ Aside0 (wc.heap[gb113]? = some (.cells #[.int .i64 t107, .int .i64 t108, .string t109, (.slice Ao15 t110.length co15)] 28 (0, 0))) ∧ Aside0 (Below w.heap.size w wc))
     case first =>
      have H := HC70.out
      clear HC70
      by_cases c72 : (t110.length : Int) > 0
      ·
       rw [if_pos c72] at H
       have c72b0 : decide (0 < (t110.length : Int)) = true := decide_eq_true c72
       have c72b1 : decide (0 < t110.length) = true := decide_eq_true (by omega)
       clear c72
       (first | rw [c72b0] | (simp only [i64_w, i32_w]; rw [c72b0]) | skip)
       obtain ⟨y142, hy142⟩ : ∃ y_ : List ByteArray, y_ = (([(⟨#[]⟩ : ByteArray), (⟨#[97]⟩ : ByteArray), (⟨#[98]⟩ : ByteArray), (⟨#[99]⟩ : ByteArray), (⟨#[100]⟩ : ByteArray)] : List ByteArray)) := ⟨_, rfl⟩
       replace H : (laws_FnProof.l0 kj8 t101 t102 t103 t104 t114 t115 y142 0 t107 t108 t109 t110) = some r := by first | (rw [hy142]; with_reducible exact H) | (have H2_ := (Option.bind_some _ _).symm.trans H; rw [hy142]; with_reducible exact H2_) | (have H2_ := (Option.bind_some _ _).symm.trans H; with_reducible exact H2_) | with_reducible exact H | (rw [hy142]; exact H) | exact H
       have Ny142 := AM hy142
       clear hy142
       have H' := AM H
       clear H
       go_wp2_with (first | ((with_reducible refine gate_dst (N := 81) rfl ?_); (try (refine gate_guard (by rfl) ?_; dsimp only)); refine Kd.R_lit Kd.string _ 9 ?hg (N := 81) ?hd (xs := ([(⟨#[]⟩ : ByteArray), (⟨#[97]⟩ : ByteArray), (⟨#[98]⟩ : ByteArray), (⟨#[99]⟩ : ByteArray), (⟨#[100]⟩ : ByteArray)] : List ByteArray)) (inner := [.string (⟨#[]⟩ : ByteArray), .string (⟨#[97]⟩ : ByteArray), .string (⟨#[98]⟩ : ByteArray), .string (⟨#[99]⟩ : ByteArray), .string (⟨#[100]⟩ : ByteArray)]) (ok := fun _ => True) (okp := fun _ => True) ?hr ?hp (fun _ hk => hk) trivial (Below.refl _ _) (Nat.le_refl _) (by simp) ?_; (case hd => rfl); (case hg => rfl); (case hr => first | (go_simp; done) | (go_simp; rfl)); (case hp => exact (Reps.one (show Kd.M Kd.string _ _ _ (⟨#[]⟩ : ByteArray) [.string (⟨#[]⟩ : ByteArray)] from rfl) (Reps.one (show Kd.M Kd.string _ _ _ (⟨#[97]⟩ : ByteArray) [.string (⟨#[97]⟩ : ByteArray)] from rfl) (Reps.one (show Kd.M Kd.string _ _ _ (⟨#[98]⟩ : ByteArray) [.string (⟨#[98]⟩ : ByteArray)] from rfl) (Reps.one (show Kd.M Kd.string _ _ _ (⟨#[99]⟩ : ByteArray) [.string (⟨#[99]⟩ : ByteArray)] from rfl) (Reps.one (show Kd.M Kd.string _ _ _ (⟨#[100]⟩ : ByteArray) [.string (⟨#[100]⟩ : ByteArray)] from rfl) (Reps.none _ _))))))); intro v143 w73 ho74 hb hg_ hnew_; clear hg_ hnew_; (first | rw [← Ny142.out] at ho74 | (simp only [Int.reduceToNat] at ho74; rw [← Ny142.out] at ho74)); have _ := AM (Kd.R_below (rX HO_5.out) hb); have _ := AM (Kd.R_below (rX HO_10.out) hb); have _ := AM (Kd.R_below (rX HO_114003.out) hb); have _ := AM (Kd.R_lower ho74 (bZ (bX HB.out))); have _ := AM (nB BK113.out hb); have _ := AM (below_step (bX HB.out) hb); clear HO_5 HO_10 HO_114003 BK113 HB; rename_i HO_5 HO_10 HO_114003 HO144 BK113 HB; clear hb ho74))
       all_goals (try exact absurd (of_decide_eq_true c72b1) (by assumption))
       go_loopg [13] kj8 (fun kq v13 w' => ∃ (x13_3 : Int), v13 = .int .i64 x13_3 ∧ Aside0 (laws_FnProof.l0 kq t101 t102 t103 t104 t114 t115 y142 x13_3 t107 t108 t109 t110 = some r) ∧ Aside0 (kq ≤ kj8) ∧ Aside0 (Kd.R k45 45 w' w.heap.size (fun k_ => some k_ ≠ (v116 : Value).ownBlock) (.slice Ao11 t101.length co11) t101) ∧ Aside0 (Kd.R k45 45 w' w.heap.size (fun k_ => some k_ ≠ ((.slice Ao11 t101.length co11) : Value).ownBlock) v116 t114) ∧ Aside0 (Kd.R Kd.string 9 w' w.heap.size (fun _ => True) v143 y142) ∧ Aside0 (Kd.R (Kd.int .i64) 2 w' w.heap.size (fun _ => True) (.slice Ao15 t110.length co15) t110) ∧ Aside0 (w'.heap[gb113]? = some (.cells #[.int .i64 t107, .int .i64 t108, .string t109, (.slice Ao15 t110.length co15)] 28 (0, 0))) ∧ Aside0 (Below w.heap.size w w'))
       case atStart => exact ⟨(0), (by first | rfl | (simp; done) | (simp [*]; done)), H', ⟨Nat.le_refl _⟩, ⟨rX HO_5.out⟩, ⟨rX HO_10.out⟩, ⟨rX HO144.out⟩, ⟨rX HO_114003.out⟩, ⟨kX BK113.out⟩, ⟨bX HB.out⟩⟩
       case round =>
        clear H'
        (try clear c1); (try clear p2); (try clear c6); (try clear c7); (try clear c8); (try clear c9); (try clear c10); (try clear c19); (try clear c69); (try clear c72); (try clear c72b0); (try clear c72b1); (try clear hcz71); (try clear hfz71)
        obtain ⟨x13_3, rfl, HA, HK3, HO_5, HO_10, HO_12, HO_114003, BK113, HB⟩ := hrel
        cases gk with
        | zero => exact absurd HA.out (by simp [laws_FnProof.l0])
        | succ k3 =>
         have H := HA.out
         clear HA
         simp only [laws_FnProof.l0] at H
         by_cases c75 : x13_3 < (y142.length : Int)
         ·
          rw [if_pos c75] at H
          have c75b0 : decide (x13_3 < (y142.length : Int)) = true := decide_eq_true c75
          clear c75
          by_cases c76 : 0 ≤ x13_3
          ·
           rw [if_pos c76] at H
           have c76b0 : decide (0 ≤ x13_3) = true := decide_eq_true c76
           clear c76
           by_cases c77 : (rdOf ByteArray.empty y142 x13_3).toList = t104.toList
           ·
            rw [if_pos c77] at H
            have c77b0 : ((rdOf ByteArray.empty y142 x13_3).toList == t104.toList) = true := beq_iff_eq.mpr c77
            have c77b1 : ((rdOf ByteArray.empty y142 x13_3).toList != t104.toList) = false := bne_eq_false_iff_eq.mpr c77
            clear c77
            have H' := AM H
            clear H
            obtain ⟨Ao78, co78, eo78⟩ := Kd.R_slice HO_12.out
            subst eo78
            have p145 : 0 ≤ (x13_3 : Int) := of_decide_eq_true (by assumption)
            have q145 : x13_3 < (y142.length : Int) := of_decide_eq_true (by assumption)
            obtain ⟨ad145, e145, hx145_0⟩ := Kd.at_string (Kd.R_reads' HO_12.out).2.2 x13_3 p145 q145
            cases e145
            replace p145 := eq_true p145
            replace q145 := eq_true q145
            go_wp2
            go_roundg k3
            case measure => have := HJ2.out; have := HJ8.out; have := HK3.out; omega
            case rel => exact ⟨(wrap64 (x13_3 + 1)), (by first | rfl | (simp; done) | (simp [*]; done)), H', ⟨by have := HJ2.out; have := HJ8.out; have := HK3.out; omega⟩, ⟨rX HO_5.out⟩, ⟨rX HO_10.out⟩, ⟨rX HO_12.out⟩, ⟨rX HO_114003.out⟩, ⟨kX BK113.out⟩, ⟨bX HB.out⟩⟩
           rw [if_neg c77] at H
           have c77b0 : ((rdOf ByteArray.empty y142 x13_3).toList == t104.toList) = false := beq_eq_false_iff_ne.mpr c77
           have c77b1 : ((rdOf ByteArray.empty y142 x13_3).toList != t104.toList) = true := bne_iff_ne.mpr c77
           replace H := Option.bind_eq_some_iff.mp H
           obtain ⟨⟨t147, t148, t149, t150⟩, A790, H⟩ := H
           try dsimp only at H
           have A79 := AM A790
           clear A790
           by_cases c80 : (t150.length : Int) > 0
           ·
            rw [if_pos c80] at H
            exact absurd H (by simp)
           rw [if_neg c80] at H
           have c80b0 : decide (0 < (t150.length : Int)) = false := decide_eq_false c80
           have c80b1 : decide (0 < t150.length) = false := decide_eq_false (by omega)
           clear c80
           have H' := AM H
           clear H
           obtain ⟨Ao81, co81, eo81⟩ := Kd.R_slice HO_12.out
           subst eo81
           have p145 : 0 ≤ (x13_3 : Int) := of_decide_eq_true (by assumption)
           have q145 : x13_3 < (y142.length : Int) := of_decide_eq_true (by assumption)
           obtain ⟨ad145, e145, hx145_0⟩ := Kd.at_string (Kd.R_reads' HO_12.out).2.2 x13_3 p145 q145
           cases e145
           replace p145 := eq_true p145
           replace q145 := eq_true q145
           have p146 : 0 ≤ (x13_3 : Int) := of_decide_eq_true (by assumption)
           have q146 : x13_3 < (y142.length : Int) := of_decide_eq_true (by assumption)
           obtain ⟨ad146, e146, hx146_0⟩ := Kd.at_string (Kd.R_reads' HO_12.out).2.2 x13_3 p146 q146
           obtain rfl : ad145 = ad146 := (by injection e146)
           replace p146 := eq_true p146
           replace q146 := eq_true q146
           go_wp2_with (first | (go_at_call 5; (with_reducible refine (impl_ProofOf.calls k3 _ _ t101 t102 t103 (rdOf ByteArray.empty y142 x13_3) t147 t148 t149 t150 _ ?side1 ?side2 A79.out).mono ?_); (case side1 => repeat (first | exact (Kd.R_reads' HO_5.out).2.2 | (with_reducible first | apply cA | apply cN | apply cD))); (case side2 => exact (Kd.R_reads' HO_5.out).2.1); rintro e w82 ⟨v151, rfl, ho0, hb⟩; have _ := AM (Kd.R_below (rX HO_5.out) hb); have _ := AM (Kd.R_below (rX HO_10.out) hb); have _ := AM (Kd.R_below (rX HO_12.out) hb); have _ := AM (Kd.R_elder' (rX HO_114003.out) (Kd.R_base ho0) hb); have _ := AM (Kd.R_lower (Kd.R_new' ho0 (Kd.R_lt (rX HO_114003.out))) (bZ (bX HB.out))); have _ := AM (nB BK113.out hb); have _ := AM (below_step (bX HB.out) hb); clear HO_5 HO_10 HO_12 HO_114003 BK113 HB; rename_i HO_5 HO_10 HO_12 HO_114003 HO152 BK113 HB; (try clear hb); (try clear hk); (try clear ho0); obtain ⟨Ao83, co83, eo83⟩ := Kd.R_slice HO152.out; subst eo83))
           all_goals (try exact absurd (by assumption) (of_decide_eq_false c80b1))
           go_roundg k3
           case measure => have := HJ2.out; have := HJ8.out; have := HK3.out; omega
           case rel => exact ⟨(wrap64 (x13_3 + 1)), (by first | rfl | (simp; done) | (simp [*]; done)), H', ⟨by have := HJ2.out; have := HJ8.out; have := HK3.out; omega⟩, ⟨rX HO_5.out⟩, ⟨rX HO_10.out⟩, ⟨rX HO_12.out⟩, ⟨by (with_reducible repeat (first | apply rA | apply rN | apply rD)); exact Kd.R_mono HO_114003.out (fun _ hk => trivial)⟩, ⟨kX BK113.out⟩, ⟨bX HB.out⟩⟩
          rw [if_neg c76] at H
          exact absurd H (by simp)
         rw [if_neg c75] at H
         have c75b0 : decide (x13_3 < (y142.length : Int)) = false := decide_eq_false c75
         clear c75
         replace H := Option.bind_eq_some_iff.mp H
         obtain ⟨t153, A840, H⟩ := H
         replace H : (if t153 = true then ((spec_Voters.f k3 t101 2 t102 t103 t104).bind fun t154 => ((laws_lwNums.f k3 t110 t154).bind fun t157 => (if t157 = true then ((impl_Prepared.f k3 t101 t103).bind fun bt158 => (if bt158.1 < t102 then (none) else (laws_FnProof.j3 k3 t114 t115))) else (none)))) else (none)) = some r := H
         have A84 := AM A840
         clear A840
         by_cases c85 : t153 = true
         ·
          subst c85
          have H1 : ((spec_Voters.f k3 t101 2 t102 t103 t104).bind fun t154 => ((laws_lwNums.f k3 t110 t154).bind fun t157 => (if t157 = true then ((impl_Prepared.f k3 t101 t103).bind fun bt158 => (if bt158.1 < t102 then (none) else (laws_FnProof.j3 k3 t114 t115))) else (none)))) = some r := by rw [if_pos rfl] at H; exact H
          clear H
          have H := H1
          clear H1
          replace H := Option.bind_eq_some_iff.mp H
          obtain ⟨t154, A860, H⟩ := H
          replace H : ((laws_lwNums.f k3 t110 t154).bind fun t157 => (if t157 = true then ((impl_Prepared.f k3 t101 t103).bind fun bt158 => (if bt158.1 < t102 then (none) else (laws_FnProof.j3 k3 t114 t115))) else (none))) = some r := H
          have A86 := AM A860
          clear A860
          replace H := Option.bind_eq_some_iff.mp H
          obtain ⟨t157, A870, H⟩ := H
          replace H : (if t157 = true then ((impl_Prepared.f k3 t101 t103).bind fun bt158 => (if bt158.1 < t102 then (none) else (laws_FnProof.j3 k3 t114 t115))) else (none)) = some r := H
          have A87 := AM A870
          clear A870
          by_cases c88 : t157 = true
          ·
           subst c88
           have H1 : ((impl_Prepared.f k3 t101 t103).bind fun bt158 => (if bt158.1 < t102 then (none) else (laws_FnProof.j3 k3 t114 t115))) = some r := by rw [if_pos rfl] at H; exact H
           clear H
           have H := H1
           clear H1
           replace H := Option.bind_eq_some_iff.mp H
           obtain ⟨⟨t158, t159, t160, t161⟩, A890, H⟩ := H
           try dsimp only at H
           have A89 := AM A890
           clear A890
           by_cases c90 : t158 < t102
           ·
            rw [if_pos c90] at H
            exact absurd H (by simp)
           rw [if_neg c90] at H
           have c90b0 : decide (t158 < t102) = false := decide_eq_false c90
           clear c90
           have H' := AM H
           clear H
           obtain ⟨Ao91, co91, eo91⟩ := Kd.R_slice HO_12.out
           subst eo91
           try go_wp2
           have _ := AM (rD HO_5.out)
           have _ := AM (rD HO_10.out)
           have _ := AM (rD HO_12.out)
           have _ := AM (rD HO_114003.out)
           have _ := AM (kD BK113.out)
           have _ := AM (bD HB.out)
           clear HO_5 HO_10 HO_12 HO_114003 BK113 HB
           rename_i HO_5 HO_10 HO_12 HO_114003 BK113 HB
           refine start_ (n := 22) (S := fun w' => w'.cell? ⟨gb113, 0, none⟩ = some (.int .i64 t107) ∧ w'.cell? ⟨gb113, 1, none⟩ = some (.int .i64 t108) ∧ w'.cell? ⟨gb113, 2, none⟩ = some (.string t109) ∧ w'.cell? ⟨gb113, 3, none⟩ = some (.slice Ao15 t110.length co15)) (ds := []) (upTo 0 22) (by kernel_rfl) rfl rfl (q4 BK113.out) (fun hHeld => ?_); refine with_tabW laws_FnProof.tab15 laws_FnProof.bits15 (fun HT_ HW_ => ?_)
           generalize wr.drew = w92 at HO_5 HO_10 HO_12 HO_114003 BK113 HB hHeld ⊢
           refine pT2 0 107 (upTo 1 22) ?_ hHeld
           refine one_ (i := 1) (N := some 108) (upTo 2 22) rfl rfl (one_of HT_.out (by kernel_rfl)) (by decide) (fun K hK => ?_)
           refine goes_ Try.func15 (by kernel_rfl) rfl #[.agg #[.int .i64 t107, .int .i64 t108, .string t109, .slice Ao15 t110.length co15]] (by rfl) rfl rfl (by (try simp only [mA, mB, mC]); first | done | rfl | (simp only [mD, mE]; rfl)) ?_
           with_reducible refine (spec_ProofRight.calls k3 t107 t108 t109 _ _ t110 true _ ?side1 ?side2 A84.out).mono ?_
           (case side1 => repeat (first | exact (Kd.R_reads' HO_114003.out).2.2 | (with_reducible first | apply cA | apply cN | apply cD)))
           (case side2 => exact (Kd.R_reads' HO_114003.out).2.1)
           rintro e w93 ⟨rfl, hb⟩
           refine ⟨_, rfl, ?_⟩
           have _ := AM (Kd.R_below (rX HO_5.out) hb)
           have _ := AM (Kd.R_below (rX HO_10.out) hb)
           have _ := AM (Kd.R_below (rX HO_12.out) hb)
           have _ := AM (Kd.R_below (rX HO_114003.out) hb)
           have _ := AM (nB BK113.out hb)
           have _ := AM (below_step (bX HB.out) hb)
           clear HO_5 HO_10 HO_12 HO_114003 BK113 HB
           rename_i HO_5 HO_10 HO_12 HO_114003 BK113 HB
           (try clear hb)
           (try clear hk)
           refine hK.out _ _ (q4 BK113.out) (fun hHeld => ?_)
           clear hK K
           refine norm_ (a' := ?_) ?_ ?_
           rotate_left
           ·
            show Act.put _ (some 108) _ = _
            simp only [Act.put, sA, sB, sC, i64_w, i32_w]
            rfl
           refine pF 2 3 22 109 ?_
           refine pF 3 4 22 110 ?_
           refine pF 4 5 22 111 ?_
           refine pF2 6 113 laws_FnProof.b10 ?_
           refine pF2 7 114 laws_FnProof.b11 ?_
           refine pF2 8 115 laws_FnProof.b12 ?_
           refine pF2 9 116 laws_FnProof.b13 ?_
           refine pT2 5 112 (upTo 10 22) ?_ hHeld
           refine one_ (i := 10) (N := some 117) (upTo 11 22) rfl rfl (one_of HT_.out (by kernel_rfl)) (by decide) (fun K hK => ?_)
           refine goes_ Try.func17 (by kernel_rfl) rfl #[.slice Ao11 t101.length co11, .int .i64 2, .int .i64 t102, .int .i64 t103, .string t104] (by rfl) rfl rfl (by (try simp only [mA, mB, mC]); first | done | rfl | (simp only [mD, mE]; rfl)) ?_
           with_reducible refine (spec_Voters.calls k3 _ _ t101 2 t102 t103 t104 t154 _ ?side1 ?side2 A86.out).mono ?_
           (case side1 => repeat (first | exact (Kd.R_reads' HO_5.out).2.2 | (with_reducible first | apply cA | apply cN | apply cD)))
           (case side2 => exact (Kd.R_reads' HO_5.out).2.1)
           rintro e w94 ⟨v155, rfl, ho0, hb⟩
           refine ⟨_, rfl, ?_⟩
           have _ := AM (Kd.R_below (rX HO_5.out) hb)
           have _ := AM (Kd.R_below (rX HO_10.out) hb)
           have _ := AM (Kd.R_below (rX HO_12.out) hb)
           have _ := AM (Kd.R_elder' (rX HO_114003.out) (Kd.R_base ho0) hb)
           have _ := AM (Kd.R_lower (Kd.R_new' ho0 (Kd.R_lt (rX HO_114003.out))) (bZ (bX HB.out)))
           have _ := AM (nB BK113.out hb)
           have _ := AM (below_step (bX HB.out) hb)
           clear HO_5 HO_10 HO_12 HO_114003 BK113 HB
           rename_i HO_5 HO_10 HO_12 HO_114003 HO156 BK113 HB
           (try clear hb)
           (try clear hk)
           (try clear ho0)
           obtain ⟨Ao95, co95, eo95⟩ := Kd.R_slice HO156.out
           (first | subst eo95 | (injection eo95 with f1_ f2_ f3_; have f4_ := f1_.symm; have f5_ := f3_.symm; clear f1_ f2_ f3_; subst f4_; subst f5_))
           refine hK.out _ _ (q4 BK113.out) (fun hHeld => ?_)
           clear hK K
           refine norm_ (a' := ?_) ?_ ?_
           rotate_left
           ·
            show Act.put _ (some 117) _ = _
            simp only [Act.put, sA, sB, sC, i64_w, i32_w]
            rfl
           refine one_ (i := 11) (N := some 118) (upTo 12 22) rfl rfl (one_of HT_.out (by kernel_rfl)) (by decide) (fun K hK => ?_)
           refine goes_ Try.func16 (by kernel_rfl) rfl #[.slice Ao15 t110.length co15, .slice Ao95 t154.length co95] (by rfl) rfl rfl (by (try simp only [mA, mB, mC]); first | done | rfl | (simp only [mD, mE]; rfl)) ?_
           with_reducible refine (laws_lwNums.calls k3 _ _ t110 _ _ t154 true _ ?side1 ?side2 ?side3 ?side4 A87.out).mono ?_
           (case side1 => repeat (first | exact (Kd.R_reads' HO_114003.out).2.2 | (with_reducible first | apply cA | apply cN | apply cD)))
           (case side2 => exact (Kd.R_reads' HO_114003.out).2.1)
           (case side3 => repeat (first | exact (Kd.R_reads' HO156.out).2.2 | (with_reducible first | apply cA | apply cN | apply cD)))
           (case side4 => exact (Kd.R_reads' HO156.out).2.1)
           rintro e w' ⟨rfl, ⟨nd, rfl⟩⟩
           refine ⟨_, rfl, ?_⟩
           refine hK.out _ _ (q4 BK113.out) (fun hHeld => ?_)
           clear hK K
           refine norm_ (a' := ?_) ?_ ?_
           rotate_left
           ·
            show Act.put _ (some 118) _ = _
            simp only [Act.put, sA, sB, sC, i64_w, i32_w]
            rfl
           refine pF 12 13 22 119 ?_
           refine pF 13 14 22 120 ?_
           refine pF 14 15 22 121 ?_
           refine pF 15 16 22 122 ?_
           refine pF 16 17 22 123 ?_
           refine pF2 19 126 laws_FnProof.b14 ?_
           refine one_ (i := 17) (N := some 124) laws_FnProof.b15 rfl rfl (one_of HT_.out (by kernel_rfl)) (by decide) (fun K hK => ?_)
           refine goes_ Try.func9 (by kernel_rfl) rfl #[.slice Ao11 t101.length co11, .int .i64 t103] (by rfl) rfl rfl (by (try simp only [mA, mB, mC]); first | done | rfl | (simp only [mD, mE]; rfl)) ?_
           with_reducible refine (impl_Prepared.calls k3 _ _ t101 t103 t158 t159 t160 t161 _ ?side1 ?side2 A89.out).mono ?_
           (case side1 => repeat (first | exact (Kd.R_reads' HO_5.out).2.2 | (with_reducible first | apply cA | apply cN | apply cD)))
           (case side2 => exact (Kd.R_reads' HO_5.out).2.1)
           rintro e w96 ⟨v162, rfl, ho0, hb⟩
           refine ⟨_, rfl, ?_⟩
           have _ := AM (Kd.R_below (rX HO_5.out) hb)
           have _ := AM (Kd.R_below (rX HO_10.out) hb)
           have _ := AM (Kd.R_below (rX HO_12.out) hb)
           have _ := AM (Kd.R_elder' (rX HO_114003.out) (Kd.R_base ho0) hb)
           have _ := AM (Kd.R_elder' (rX HO156.out) (Kd.R_base ho0) hb)
           have _ := AM (Kd.R_lower (Kd.R_new' (Kd.R_new' ho0 (Kd.R_lt (rX HO_114003.out))) (Kd.R_lt (rX HO156.out))) (bZ (bX HB.out)))
           have _ := AM (nB BK113.out hb)
           have _ := AM (below_step (bX HB.out) hb)
           clear HO_5 HO_10 HO_12 HO_114003 HO156 BK113 HB
           rename_i HO_5 HO_10 HO_12 HO_114003 HO156 HO163 BK113 HB
           (try clear hb)
           (try clear hk)
           (try clear ho0)
           obtain ⟨Ao96, co96, eo96⟩ := Kd.R_slice HO163.out; subst eo96
           refine hK.out _ _ (q4 BK113.out) (fun hHeld => ?_)
           clear hK K
           refine norm_ (a' := ?_) ?_ ?_
           rotate_left
           ·
            show Act.put _ (some 124) _ = _
            simp only [Act.put, sA, sB, sC, i64_w, i32_w]
            rfl
           refine pF2 18 125 (upTo 20 22) ?_
           refine pF 20 21 22 127 ?_
           refine pF 21 22 22 128 ?_
           refine done_ (done_of HT_.out (by kernel_rfl)) ?_
           try go_wp2
           go_meet
           case rel => exact ⟨_, H', ⟨by have := HJ2.out; have := HJ8.out; have := HK3.out; first | omega | exact Nat.le_refl _⟩, ⟨by (with_reducible repeat (first | apply rA | apply rN | apply rD)); exact Kd.R_mono HO_10.out (fun _ hk => trivial)⟩, ⟨by (with_reducible repeat (first | apply rA | apply rN | apply rD)); exact Kd.R_mono HO_114003.out (fun _ hk => trivial)⟩, ⟨kX BK113.out⟩, ⟨bX HB.out⟩⟩
          replace c88 := Bool.eq_false_iff.mpr c88
          subst c88
          have H1 : (none) = some r := by rw [if_neg (show ¬ (false = true) by decide)] at H; exact H
          clear H
          have H := H1
          clear H1
          exact absurd H (by simp)
         replace c85 := Bool.eq_false_iff.mpr c85
         subst c85
         have H1 : (none) = some r := by rw [if_neg (show ¬ (false = true) by decide)] at H; exact H
         clear H
         have H := H1
         clear H1
         exact absurd H (by simp)
      rw [if_neg c72] at H
      have c72b0 : decide (0 < (t110.length : Int)) = false := decide_eq_false c72
      have c72b1 : decide (0 < t110.length) = false := decide_eq_false (by omega)
      clear c72
      (first | rw [c72b0] | (simp only [i64_w, i32_w]; rw [c72b0]) | skip)
      have H' := AM H
      clear H
      go_wp2
      all_goals (try exact absurd (by assumption) (of_decide_eq_false c72b1))
      go_meet
      case rel => exact ⟨_, H', ⟨by have := HJ2.out; have := HJ8.out; first | omega | exact Nat.le_refl _⟩, ⟨by (with_reducible repeat (first | apply rA | apply rN | apply rD)); exact Kd.R_mono HO_10.out (fun _ hk => trivial)⟩, ⟨rX HO_114003.out⟩, ⟨kX BK113.out⟩, ⟨bX HB.out⟩⟩
     case rest =>
      clear HC70
      (try clear c1); (try clear p1); (try clear q1); (try clear hx1); (try clear p2); (try clear c6); (try clear p6); (try clear c7); (try clear c8); (try clear c9); (try clear c10); (try clear p14); (try clear q14); (try clear hx14); (try clear c15); (try clear c16); (try clear c17); (try clear c19); (try clear p64); (try clear c69); (try clear c72); (try clear c72b0); (try clear c72b1); (try clear c75); (try clear c75b0); (try clear c76); (try clear c76b0); (try clear c77); (try clear c77b0); (try clear c77b1); (try clear c80); (try clear c80b0); (try clear c80b1); (try clear c85); (try clear c88); (try clear c90); (try clear c90b0); (try clear hcz71); (try clear hfz71); (try clear hx145_0); (try clear hx146_0); (try clear p145); (try clear p146); (try clear q145); (try clear q146)
      obtain ⟨kq, HA, HJ69, HO_10, HO_114003, BK113, HB⟩ := hcut
      cases kq with
      | zero => exact absurd HA.out (by simp [laws_FnProof.j3])
      | succ kj69 =>
       have H := HA.out
       clear HA
       simp only [laws_FnProof.j3] at H
       replace H := Option.bind_eq_some_iff.mp H
       obtain ⟨t164, A970, H⟩ := H
       replace H : (if t164 = true then (laws_FnProof.l1 kj69 t114 t115 false 0) else ((impl_OpOf.f kj69 t114 t115).bind fun t165 => (some (t165.toList == ([] : List UInt8))))) = some r := H
       have A97 := AM A970
       clear A970
       by_cases c98 : t164 = true
       ·
        subst c98
        have H1 : (laws_FnProof.l1 kj69 t114 t115 false 0) = some r := by rw [if_pos rfl] at H; exact H
        clear H
        have H := H1
        clear H1
        have H' := AM H
        clear H
        obtain ⟨Ao99, co99, eo99⟩ := Kd.R_slice HO_10.out
        subst eo99
        go_wp2_with (first | ((with_reducible refine gate_callee (f := 11) rfl ?_); refine goesL_ (some 131) rfl rfl Try.func11 (by kernel_rfl) rfl #[.slice Ao99 t114.length co99, .int .i64 t115] rfl (by (try simp only [mA, mB, mC]); first | done | rfl | (simp only [mD, mE]; rfl)) ?_; (with_reducible refine (impl_Decided.calls kj69 _ _ t114 t115 true _ ?side1 ?side2 A97.out).mono ?_); (case side1 => repeat (first | exact (Kd.R_reads' HO_10.out).2.2 | (with_reducible first | apply cA | apply cN | apply cD))); (case side2 => exact (Kd.R_reads' HO_10.out).2.1); rintro e w100 ⟨rfl, hb⟩; refine ⟨_, rfl, ?_⟩; have _ := AM (Kd.R_below (rX HO_10.out) hb); have _ := AM (Kd.R_below (rX HO_114003.out) hb); have _ := AM (nB BK113.out hb); have _ := AM (below_step (bX HB.out) hb); clear HO_10 HO_114003 BK113 HB; rename_i HO_10 HO_114003 BK113 HB; (try clear hb); (try clear hk)))
        go_loopg [14, 15] kj69 (fun kq v14 v15 w' => ∃ (x14_4 : Bool) (x15_4 : Int), v14 = .bool x14_4 ∧ v15 = .int .i64 x15_4 ∧ Aside0 (laws_FnProof.l1 kq t114 t115 x14_4 x15_4 = some r) ∧ Aside0 (kq ≤ kj69) ∧ Aside0 (Kd.R k45 45 w' w.heap.size (fun _ => True) (.slice Ao99 t114.length co99) t114) ∧ Aside0 (Kd.R (Kd.int .i64) 2 w' w.heap.size (fun _ => True) (.slice Ao15 t110.length co15) t110) ∧ Aside0 (w'.heap[gb113]? = some (.cells #[.int .i64 t107, .int .i64 t108, .string t109, (.slice Ao15 t110.length co15)] 28 (0, 0))) ∧ Aside0 (Below w.heap.size w w'))
        case atStart => exact ⟨(false), (0), (by first | rfl | (simp; done) | (simp [*]; done)), (by first | rfl | (simp; done) | (simp [*]; done)), H', ⟨Nat.le_refl _⟩, ⟨rX HO_10.out⟩, ⟨rX HO_114003.out⟩, ⟨kX BK113.out⟩, ⟨bX HB.out⟩⟩
        case round =>
         clear H'
         (try clear c1); (try clear p1); (try clear q1); (try clear hx1); (try clear p2); (try clear c6); (try clear p6); (try clear c7); (try clear c8); (try clear c9); (try clear c10); (try clear c11); (try clear p14); (try clear q14); (try clear hx14); (try clear c15); (try clear c16); (try clear c17); (try clear c19); (try clear p64); (try clear c69); (try clear c72); (try clear c72b0); (try clear c72b1); (try clear c75); (try clear c75b0); (try clear c76); (try clear c76b0); (try clear c77); (try clear c77b0); (try clear c77b1); (try clear c80); (try clear c80b0); (try clear c80b1); (try clear c85); (try clear c88); (try clear c90); (try clear c90b0); (try clear c98); (try clear hcz71); (try clear hfz71); (try clear hx145_0); (try clear hx146_0); (try clear p145); (try clear p146); (try clear q145); (try clear q146)
         obtain ⟨x14_4, x15_4, rfl, rfl, HA, HK4, HO_10, HO_114003, BK113, HB⟩ := hrel
         cases gk with
         | zero => exact absurd HA.out (by simp [laws_FnProof.l1])
         | succ k4 =>
          have H := HA.out
          clear HA
          simp only [laws_FnProof.l1] at H
          by_cases c101 : x15_4 ≤ 7
          ·
           rw [if_pos c101] at H
           have c101b0 : decide (x15_4 ≤ 7) = true := decide_eq_true c101
           clear c101
           by_cases c102 : x14_4 = true
           ·
            subst c102
            have H1 : (laws_FnProof.l1 k4 t114 t115 true (wrap64 (x15_4 + 1))) = some r := by rw [if_pos rfl] at H; exact H
            clear H
            have H := H1
            clear H1
            have H' := AM H
            clear H
            go_wp2
            go_roundg k4
            case measure => have := HJ2.out; have := HJ8.out; have := HJ69.out; have := HK4.out; omega
            case rel => exact ⟨(true), (wrap64 (x15_4 + 1)), (by first | rfl | (simp; done) | (simp [*]; done)), (by first | rfl | (simp; done) | (simp [*]; done)), H', ⟨by have := HJ2.out; have := HJ8.out; have := HJ69.out; have := HK4.out; omega⟩, ⟨rX HO_10.out⟩, ⟨rX HO_114003.out⟩, ⟨kX BK113.out⟩, ⟨bX HB.out⟩⟩
           replace c102 := Bool.eq_false_iff.mpr c102
           subst c102
           have H1 : ((impl_OpOf.f k4 t114 t115).bind fun t166 => ((spec_Voters.f k4 t114 3 x15_4 t115 t166).bind fun t167 => (laws_FnProof.l1 k4 t114 t115 (decide ((t167.length : Int) ≥ 3)) (wrap64 (x15_4 + 1))))) = some r := by rw [if_neg (show ¬ (false = true) by decide)] at H; exact H
           clear H
           have H := H1
           clear H1
           replace H := Option.bind_eq_some_iff.mp H
           obtain ⟨t166, A1030, H⟩ := H
           replace H : ((spec_Voters.f k4 t114 3 x15_4 t115 t166).bind fun t167 => (laws_FnProof.l1 k4 t114 t115 (decide ((t167.length : Int) ≥ 3)) (wrap64 (x15_4 + 1)))) = some r := H
           have A103 := AM A1030
           clear A1030
           replace H := Option.bind_eq_some_iff.mp H
           obtain ⟨t167, A1040, H⟩ := H
           replace H : (laws_FnProof.l1 k4 t114 t115 (decide ((t167.length : Int) ≥ 3)) (wrap64 (x15_4 + 1))) = some r := H
           have A104 := AM A1040
           clear A1040
           have H' := AM H
           clear H
           go_wp2_with (first | (go_at_call 13; (with_reducible refine (impl_OpOf.calls k4 _ _ t114 t115 t166 _ ?side1 ?side2 A103.out).mono ?_); (case side1 => repeat (first | exact (Kd.R_reads' HO_10.out).2.2 | (with_reducible first | apply cA | apply cN | apply cD))); (case side2 => exact (Kd.R_reads' HO_10.out).2.1); rintro e w105 ⟨rfl, hb⟩; have _ := AM (Kd.R_below (rX HO_10.out) hb); have _ := AM (Kd.R_below (rX HO_114003.out) hb); have _ := AM (nB BK113.out hb); have _ := AM (below_step (bX HB.out) hb); clear HO_10 HO_114003 BK113 HB; rename_i HO_10 HO_114003 BK113 HB; (try clear hb); (try clear hk)) | (go_at_call 17; (with_reducible refine (spec_Voters.calls k4 _ _ t114 3 x15_4 t115 t166 t167 _ ?side1 ?side2 A104.out).mono ?_); (case side1 => repeat (first | exact (Kd.R_reads' HO_10.out).2.2 | (with_reducible first | apply cA | apply cN | apply cD))); (case side2 => exact (Kd.R_reads' HO_10.out).2.1); rintro e w106 ⟨v168, rfl, ho0, hb⟩; have _ := AM (Kd.R_below (rX HO_10.out) hb); have _ := AM (Kd.R_elder' (rX HO_114003.out) (Kd.R_base ho0) hb); have _ := AM (Kd.R_lower (Kd.R_new' ho0 (Kd.R_lt (rX HO_114003.out))) (bZ (bX HB.out))); have _ := AM (nB BK113.out hb); have _ := AM (below_step (bX HB.out) hb); clear HO_10 HO_114003 BK113 HB; rename_i HO_10 HO_114003 HO169 BK113 HB; (try clear hb); (try clear hk); (try clear ho0); obtain ⟨Ao107, co107, eo107⟩ := Kd.R_slice HO169.out; subst eo107))
           go_roundg k4
           case measure => have := HJ2.out; have := HJ8.out; have := HJ69.out; have := HK4.out; omega
           case rel => exact ⟨(decide ((t167.length : Int) ≥ 3)), (wrap64 (x15_4 + 1)), (by first | rfl | (simp; done) | (simp [*]; done)), (by first | rfl | (simp; done) | (simp [*]; done)), H', ⟨by have := HJ2.out; have := HJ8.out; have := HJ69.out; have := HK4.out; omega⟩, ⟨rX HO_10.out⟩, ⟨by (with_reducible repeat (first | apply rA | apply rN | apply rD)); exact Kd.R_mono HO_114003.out (fun _ hk => trivial)⟩, ⟨kX BK113.out⟩, ⟨bX HB.out⟩⟩
          rw [if_neg c101] at H
          have c101b0 : decide (x15_4 ≤ 7) = false := decide_eq_false c101
          clear c101
          obtain rfl := Option.some.inj H
          go_wp2
          go_ret
          exact ⟨by first | rfl | (simp [*, errW_none, errW_some] <;> rfl), bX HB.out⟩
       replace c98 := Bool.eq_false_iff.mpr c98
       subst c98
       have H1 : ((impl_OpOf.f kj69 t114 t115).bind fun t165 => (some (t165.toList == ([] : List UInt8)))) = some r := by rw [if_neg (show ¬ (false = true) by decide)] at H; exact H
       clear H
       have H := H1
       clear H1
       replace H := Option.bind_eq_some_iff.mp H
       obtain ⟨t165, A1080, H⟩ := H
       replace H : (some (t165.toList == ([] : List UInt8))) = some r := H
       have A108 := AM A1080
       clear A1080
       obtain rfl := Option.some.inj H
       obtain ⟨Ao109, co109, eo109⟩ := Kd.R_slice HO_10.out
       subst eo109
       go_wp2_with (first | ((with_reducible refine gate_callee (f := 11) rfl ?_); refine goesL_ (some 131) rfl rfl Try.func11 (by kernel_rfl) rfl #[.slice Ao109 t114.length co109, .int .i64 t115] rfl (by (try simp only [mA, mB, mC]); first | done | rfl | (simp only [mD, mE]; rfl)) ?_; (with_reducible refine (impl_Decided.calls kj69 _ _ t114 t115 false _ ?side1 ?side2 A97.out).mono ?_); (case side1 => repeat (first | exact (Kd.R_reads' HO_10.out).2.2 | (with_reducible first | apply cA | apply cN | apply cD))); (case side2 => exact (Kd.R_reads' HO_10.out).2.1); rintro e w110 ⟨rfl, hb⟩; refine ⟨_, rfl, ?_⟩; have _ := AM (Kd.R_below (rX HO_10.out) hb); have _ := AM (Kd.R_below (rX HO_114003.out) hb); have _ := AM (nB BK113.out hb); have _ := AM (below_step (bX HB.out) hb); clear HO_10 HO_114003 BK113 HB; rename_i HO_10 HO_114003 BK113 HB; (try clear hb); (try clear hk)) | ((with_reducible refine gate_callee (f := 13) rfl ?_); refine goesL_ (some 135) rfl rfl Try.func13 (by kernel_rfl) rfl #[.slice Ao109 t114.length co109, .int .i64 t115] rfl (by (try simp only [mA, mB, mC]); first | done | rfl | (simp only [mD, mE]; rfl)) ?_; (with_reducible refine (impl_OpOf.calls kj69 _ _ t114 t115 t165 _ ?side1 ?side2 A108.out).mono ?_); (case side1 => repeat (first | exact (Kd.R_reads' HO_10.out).2.2 | (with_reducible first | apply cA | apply cN | apply cD))); (case side2 => exact (Kd.R_reads' HO_10.out).2.1); rintro e w111 ⟨rfl, hb⟩; refine ⟨_, rfl, ?_⟩; have _ := AM (Kd.R_below (rX HO_10.out) hb); have _ := AM (Kd.R_below (rX HO_114003.out) hb); have _ := AM (nB BK113.out hb); have _ := AM (below_step (bX HB.out) hb); clear HO_10 HO_114003 BK113 HB; rename_i HO_10 HO_114003 BK113 HB; (try clear hb); (try clear hk)))
       go_ret
       exact ⟨by first | rfl | (simp [*, errW_none, errW_some] <;> rfl), bX HB.out⟩

end Go.Proofs.Ytbaacdlocoajeaa.Q
