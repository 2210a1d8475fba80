/- Printed by a program of this session (wip/mp.py over the kit's print.py): functions of the translation as plain Lean functions, and that the machine's calls do what these say. -/
import Derived.Test.YtgpgamapopnfcaaDoorQx0
import Derived.Test.YtgpgamapopnfcaaDoorQx1
namespace Go.Proofs.YtgpgamapopnfcaaDoor.Q
open Go.RowKit Go.Proofs.YtgpgamapopnfcaaDoor.HB Go.Proofs.YtgpgamapopnfcaaDoorW.PrintWords Go.Proofs.YtgpgamapopnfcaaDoorW.PrintLast Go.Proofs.YtgpgamapopnfcaaDoorW.PrintMore
attribute [local go_sem] max2_int min2_int max_two min_two max_three min_three max_four min_four   -- for this text's walks alone
set_option linter.unusedVariables false
set_option linter.unusedSimpArgs false

/-! ### spec_l02Block: function 49 -/
abbrev spec_l02Block.b0 : Array Bool := #[true, true, true, true, true, false, false, false, true, false, false, false, false, false, false, false, false, false, false, false, false, false, false, false, false, false, false, false, false, false, false, false, false]
abbrev spec_l02Block.b1 : Array Bool := #[true, true, true, true, true, false, false, false, true, true, false, false, false, false, false, false, false, false, false, false, false, false, false, false, false, false, false, false, false, false, false, false, false]
abbrev spec_l02Block.b2 : Array Bool := #[true, true, true, true, true, false, false, false, true, true, true, false, false, false, false, false, false, false, false, false, false, false, false, false, false, false, false, false, false, false, false, false, false]
abbrev spec_l02Block.b3 : Array Bool := #[true, true, true, true, true, false, false, false, true, true, true, true, false, false, false, false, false, false, false, false, false, false, false, false, false, false, false, false, false, false, false, false, false]
abbrev spec_l02Block.b4 : Array Bool := #[true, true, true, true, true, false, false, false, true, true, true, true, false, false, false, false, true, false, false, false, false, false, false, false, false, false, false, false, false, false, false, false, false]
abbrev spec_l02Block.b5 : Array Bool := #[true, true, true, true, true, false, false, false, true, true, true, true, false, false, false, false, true, true, false, false, false, false, false, false, false, false, false, false, false, false, false, false, false]
abbrev spec_l02Block.b6 : Array Bool := #[true, true, true, true, true, false, false, false, true, true, true, true, false, false, false, false, true, true, true, false, false, false, false, false, false, false, false, false, false, false, false, false, false]
abbrev spec_l02Block.b7 : Array Bool := #[true, true, true, true, true, false, false, false, true, true, true, true, false, false, false, false, true, true, true, true, false, false, false, false, false, false, false, false, false, false, false, false, false]
abbrev spec_l02Block.b8 : Array Bool := #[true, true, true, true, true, false, false, false, true, true, true, true, false, false, false, false, true, true, true, true, false, false, false, false, true, false, false, false, false, false, false, false, false]
abbrev spec_l02Block.b9 : Array Bool := #[true, true, true, true, true, false, false, false, true, true, true, true, false, false, false, false, true, true, true, true, false, false, false, false, true, true, false, false, false, false, false, false, false]
abbrev spec_l02Block.b10 : Array Bool := #[true, true, true, true, true, false, false, false, true, true, true, true, false, false, false, false, true, true, true, true, false, false, false, false, true, true, true, false, false, false, false, false, false]
abbrev spec_l02Block.b11 : Array Bool := #[true, true, true, true, true, false, false, false, true, true, true, true, false, false, false, false, true, true, true, true, false, false, false, false, true, true, true, true, false, false, false, false, false]
abbrev spec_l02Block.b12 : Array Bool := #[true, true, true, true, true, true, false, false, true, true, true, true, false, false, false, false, true, true, true, true, false, false, false, false, true, true, true, true, false, false, false, false, false]
abbrev spec_l02Block.b13 : Array Bool := #[true, true, true, true, true, true, true, false, true, true, true, true, false, false, false, false, true, true, true, true, false, false, false, false, true, true, true, true, false, false, false, false, false]
abbrev spec_l02Block.b14 : Array Bool := #[true, true, true, true, true, true, true, true, true, true, true, true, false, false, false, false, true, true, true, true, false, false, false, false, true, true, true, true, false, false, false, false, false]
abbrev spec_l02Block.b15 : Array Bool := #[true, true, true, true, true, true, true, true, true, true, true, true, true, false, false, false, true, true, true, true, false, false, false, false, true, true, true, true, false, false, false, false, false]
abbrev spec_l02Block.b16 : Array Bool := #[true, true, true, true, true, true, true, true, true, true, true, true, true, true, false, false, true, true, true, true, false, false, false, false, true, true, true, true, false, false, false, false, false]
abbrev spec_l02Block.b17 : Array Bool := #[true, true, true, true, true, true, true, true, true, true, true, true, true, true, true, false, true, true, true, true, false, false, false, false, true, true, true, true, false, false, false, false, false]
abbrev spec_l02Block.b18 : Array Bool := #[true, true, true, true, true, true, true, true, true, true, true, true, true, true, true, true, true, true, true, true, false, false, false, false, true, true, true, true, false, false, false, false, false]
abbrev spec_l02Block.b19 : Array Bool := #[true, true, true, true, true, true, true, true, true, true, true, true, true, true, true, true, true, true, true, true, true, false, false, false, true, true, true, true, false, false, false, false, false]
abbrev spec_l02Block.b20 : Array Bool := #[true, true, true, true, true, true, true, true, true, true, true, true, true, true, true, true, true, true, true, true, true, true, false, false, true, true, true, true, false, false, false, false, false]
abbrev spec_l02Block.b21 : Array Bool := #[true, true, true, true, true, true, true, true, true, true, true, true, true, true, true, true, true, true, true, true, true, true, true, false, true, true, true, true, false, false, false, false, false]
abbrev spec_l02Block.b22 : Array Bool := #[true, true, true, true, true, true, false, true, false, false, false, false, false, false, false, false, false, false, false, false, false, false, false, false, false, false, false, false, false, false, false, false, false]
abbrev spec_l02Block.b23 : Array Bool := #[true, true, true, true, true, true, false, true, false, true, false, false, false, false, false, false, false, false, false, false, false, false, false, false, false, false, false, false, false, false, false, false, false]
abbrev spec_l02Block.b24 : Array Bool := #[true, true, true, true, true, true, false, true, false, true, false, false, true, false, false, false, false, false, false, false, false, false, false, false, false, false, false, false, false, false, false, false, false]
abbrev spec_l02Block.b25 : Array Bool := #[true, true, true, true, true, true, false, true, false, true, false, false, true, true, false, false, false, false, false, false, false, false, false, false, false, false, false, false, false, false, false, false, false]
abbrev spec_l02Block.b26 : Array Bool := #[true, true, true, true, true, true, false, true, false, true, false, false, true, true, false, false, true, false, false, false, false, false, false, false, false, false, false, false, false, false, false, false, false]
abbrev spec_l02Block.b27 : Array Bool := #[true, true, true, true, true, true, false, true, false, true, false, false, true, true, false, false, true, true, false, false, false, false, false, false, false, false, false, false, false, false, false, false, false]
abbrev spec_l02Block.b28 : Array Bool := #[true, true, true, true, true, true, false, true, false, true, false, false, true, true, false, false, true, true, true, false, false, false, false, false, false, false, false, false, false, false, false, false, false]
abbrev spec_l02Block.b29 : Array Bool := #[true, true, true, true, true, true, false, true, false, true, false, false, true, true, false, false, true, true, true, true, false, false, false, false, false, false, false, false, false, false, false, false, false]
abbrev spec_l02Block.b30 : Array Bool := #[true, true, true, true, true, true, false, true, false, true, false, false, true, true, false, false, true, true, true, true, false, false, true, false, false, false, false, false, false, false, false, false, false]
abbrev spec_l02Block.b31 : Array Bool := #[true, true, true, true, true, true, false, true, false, true, false, false, true, true, false, false, true, true, true, true, false, false, true, false, true, false, false, false, false, false, false, false, false]
abbrev spec_l02Block.b32 : Array Bool := #[true, true, true, true, true, true, false, true, false, true, false, false, true, true, false, false, true, true, true, true, false, false, true, false, true, false, false, true, false, false, false, false, false]
abbrev spec_l02Block.b33 : Array Bool := #[true, true, true, true, true, true, false, true, false, true, false, false, true, true, false, false, true, true, true, true, false, false, true, false, true, false, false, true, true, false, false, false, false]
abbrev spec_l02Block.b34 : Array Bool := #[true, true, true, true, true, true, true, true, false, true, false, false, true, true, false, false, true, true, true, true, false, false, true, false, true, false, false, true, true, false, false, false, false]
abbrev spec_l02Block.b35 : Array Bool := #[true, true, true, true, true, true, true, true, false, true, false, false, true, true, false, false, true, true, true, true, true, false, true, false, true, false, false, true, true, false, false, false, false]
abbrev spec_l02Block.b36 : Array Bool := #[true, true, true, true, true, true, true, true, true, true, false, false, true, true, false, false, true, true, true, true, true, false, true, false, true, false, false, true, true, false, false, false, false]
abbrev spec_l02Block.b37 : Array Bool := #[true, true, true, true, true, true, true, true, true, true, true, false, true, true, false, false, true, true, true, true, true, false, true, false, true, false, false, true, true, false, false, false, false]
abbrev spec_l02Block.b38 : Array Bool := #[true, true, true, true, true, true, true, true, true, true, true, true, true, true, false, false, true, true, true, true, true, false, true, false, true, false, false, true, true, false, false, false, false]
abbrev spec_l02Block.b39 : Array Bool := #[true, true, true, true, true, true, true, true, true, true, true, true, true, true, true, false, true, true, true, true, true, false, true, false, true, false, false, true, true, false, false, false, false]
abbrev spec_l02Block.b40 : Array Bool := #[true, true, true, true, true, true, true, true, true, true, true, true, true, true, true, true, true, true, true, true, true, false, true, false, true, false, false, true, true, false, false, false, false]
abbrev spec_l02Block.b41 : Array Bool := #[true, true, true, true, true, true, true, true, true, true, true, true, true, true, true, true, true, true, true, true, true, true, true, false, true, false, false, true, true, false, false, false, false]
abbrev spec_l02Block.b42 : Array Bool := #[true, true, true, true, true, true, true, true, true, true, true, true, true, true, true, true, true, true, true, true, true, true, true, true, true, false, false, true, true, false, false, false, false]
abbrev spec_l02Block.b43 : Array Bool := #[true, true, true, true, true, true, true, true, true, true, true, true, true, true, true, true, true, true, true, true, true, true, true, true, true, true, false, true, true, false, false, false, false]
abbrev spec_l02Block.b44 : Array Bool := #[true, true, false, false, true, false, false, false, false, false, false, false, false, false, false, false, false, false, false, false]
abbrev spec_l02Block.b45 : Array Bool := #[true, true, false, false, true, true, false, false, false, false, false, false, false, false, false, false, false, false, false, false]
abbrev spec_l02Block.b46 : Array Bool := #[true, true, false, false, true, true, false, false, true, false, false, false, false, false, false, false, false, false, false, false]
abbrev spec_l02Block.b47 : Array Bool := #[true, true, false, false, true, true, false, false, true, true, false, false, false, false, false, false, false, false, false, false]
abbrev spec_l02Block.b48 : Array Bool := #[true, true, false, false, true, true, false, false, true, true, false, false, true, false, false, false, false, false, false, false]
abbrev spec_l02Block.b49 : Array Bool := #[true, true, false, false, true, true, false, false, true, true, false, false, true, true, false, false, false, false, false, false]
abbrev spec_l02Block.b50 : Array Bool := #[true, true, true, false, true, true, false, false, true, true, false, false, true, true, false, false, false, false, false, false]
abbrev spec_l02Block.b51 : Array Bool := #[true, true, true, true, true, true, false, false, true, true, false, false, true, true, false, false, false, false, false, false]
abbrev spec_l02Block.b52 : Array Bool := #[true, true, true, true, true, true, false, false, true, true, false, false, true, true, false, false, true, false, false, false]
abbrev spec_l02Block.b53 : Array Bool := #[true, true, true, true, true, true, true, false, true, true, false, false, true, true, false, false, true, false, false, false]
abbrev spec_l02Block.b54 : Array Bool := #[true, true, true, true, true, true, true, true, true, true, false, false, true, true, false, false, true, false, false, false]
abbrev spec_l02Block.b55 : Array Bool := #[true, true, true, true, true, true, true, true, true, true, false, false, true, true, false, false, true, true, false, false]
abbrev spec_l02Block.b56 : Array Bool := #[true, true, true, true, true, true, true, true, true, true, true, false, true, true, false, false, true, true, false, false]
abbrev spec_l02Block.b57 : Array Bool := #[true, true, true, true, true, true, true, true, true, true, true, true, true, true, false, false, true, true, false, false]
abbrev spec_l02Block.b58 : Array Bool := #[true, true, true, true, true, true, true, true, true, true, true, true, true, true, false, false, true, true, true, false]
abbrev spec_l02Block.b59 : Array Bool := #[true, true, true, true, true, true, true, true, true, true, true, true, true, true, true, false, true, true, true, false]
abbrev spec_l02Block.b60 : Array Bool := #[true, true, false, true, false, false, false, false, false, false, false, false, false, false, false, false, false, false, false, false, false, false, false, false, false, false, false, false, false, false]
abbrev spec_l02Block.b61 : Array Bool := #[true, true, false, true, false, false, true, false, false, false, false, false, false, false, false, false, false, false, false, false, false, false, false, false, false, false, false, false, false, false]
abbrev spec_l02Block.b62 : Array Bool := #[true, true, false, true, false, false, true, false, false, false, true, false, false, false, false, false, false, false, false, false, false, false, false, false, false, false, false, false, false, false]
abbrev spec_l02Block.b63 : Array Bool := #[true, true, false, true, false, false, true, false, false, false, true, true, false, false, false, false, false, false, false, false, false, false, false, false, false, false, false, false, false, false]
abbrev spec_l02Block.b64 : Array Bool := #[true, true, false, true, false, false, true, false, false, false, true, true, true, false, false, false, false, false, false, false, false, false, false, false, false, false, false, false, false, false]
abbrev spec_l02Block.b65 : Array Bool := #[true, true, false, true, false, false, true, false, false, false, true, true, true, true, false, false, false, false, false, false, false, false, false, false, false, false, false, false, false, false]
abbrev spec_l02Block.b66 : Array Bool := #[true, true, false, true, false, false, true, false, false, false, true, true, true, true, true, false, false, false, false, false, false, false, false, false, false, false, false, false, false, false]
abbrev spec_l02Block.b67 : Array Bool := #[true, true, false, true, false, false, true, false, false, false, true, true, true, true, true, true, false, false, false, false, false, false, false, false, false, false, false, false, false, false]
abbrev spec_l02Block.b68 : Array Bool := #[true, true, false, true, false, false, true, false, false, false, true, true, true, true, true, true, true, false, false, false, false, false, false, false, false, false, false, false, false, false]
abbrev spec_l02Block.b69 : Array Bool := #[true, true, false, true, false, false, true, false, false, false, true, true, true, true, true, true, true, true, false, false, false, false, false, false, false, false, false, false, false, false]
abbrev spec_l02Block.b70 : Array Bool := #[true, true, false, true, false, false, true, false, false, false, true, true, true, true, true, true, true, true, false, true, false, false, false, false, false, false, false, false, false, false]
abbrev spec_l02Block.b71 : Array Bool := #[true, true, false, true, false, false, true, false, false, false, true, true, true, true, true, true, true, true, false, true, true, false, false, false, false, false, false, false, false, false]
abbrev spec_l02Block.b72 : Array Bool := #[true, true, false, true, false, false, true, false, false, false, true, true, true, true, true, true, true, true, false, true, true, true, false, false, false, false, false, false, false, false]
abbrev spec_l02Block.b73 : Array Bool := #[true, true, false, true, false, false, true, false, false, false, true, true, true, true, true, true, true, true, false, true, true, true, false, false, true, false, false, false, false, false]
abbrev spec_l02Block.b74 : Array Bool := #[true, true, false, true, false, false, true, false, false, false, true, true, true, true, true, true, true, true, false, true, true, true, false, false, true, true, false, false, false, false]
abbrev spec_l02Block.b75 : Array Bool := #[true, true, false, true, false, false, true, false, false, false, true, true, true, true, true, true, true, true, false, true, true, true, false, false, true, true, true, false, false, false]
abbrev spec_l02Block.b76 : Array Bool := #[true, true, false, true, false, false, true, false, false, false, true, true, true, true, true, true, true, true, false, true, true, true, true, false, true, true, true, false, false, false]
abbrev spec_l02Block.b77 : Array Bool := #[true, true, false, true, false, false, true, false, false, false, true, true, true, true, true, true, true, true, false, true, true, true, true, false, true, true, true, true, false, false]
abbrev spec_l02Block.b78 : Array Bool := #[true, true, true, true, false, false, true, false, false, false, true, true, true, true, true, true, true, true, false, true, true, true, true, false, true, true, true, true, false, false]
abbrev spec_l02Block.b79 : Array Bool := #[true, true, true, true, true, false, true, false, false, false, true, true, true, true, true, true, true, true, false, true, true, true, true, false, true, true, true, true, false, false]
abbrev spec_l02Block.b80 : Array Bool := #[true, true, true, true, true, true, true, false, false, false, true, true, true, true, true, true, true, true, false, true, true, true, true, false, true, true, true, true, false, false]
abbrev spec_l02Block.b81 : Array Bool := #[true, true, true, true, true, true, true, true, false, false, true, true, true, true, true, true, true, true, false, true, true, true, true, false, true, true, true, true, false, false]
abbrev spec_l02Block.b82 : Array Bool := #[true, true, true, true, true, true, true, true, true, false, true, true, true, true, true, true, true, true, false, true, true, true, true, false, true, true, true, true, false, false]
abbrev spec_l02Block.b83 : Array Bool := #[true, true, true, true, true, true, true, true, true, true, true, true, true, true, true, true, true, true, false, true, true, true, true, false, true, true, true, true, false, false]
abbrev spec_l02Block.b84 : Array Bool := #[true, true, true, true, true, true, true, true, true, true, true, true, true, true, true, true, true, true, true, true, true, true, true, false, true, true, true, true, false, false]
abbrev spec_l02Block.b85 : Array Bool := #[true, true, true, true, false, false, true, false, false, false, false, false, false, false, false]
abbrev spec_l02Block.b86 : Array Bool := #[true, true, true, true, false, false, true, true, false, false, false, false, false, false, false]
abbrev spec_l02Block.b87 : Array Bool := #[true, true, true, true, false, false, true, true, true, false, false, false, false, false, false]
abbrev spec_l02Block.b88 : Array Bool := #[true, true, true, true, true, false, true, true, true, false, false, false, false, false, false]
mutual
def spec_l02Block.l0 : Nat → List Int → ByteArray → List Int → Int → Option (List Int)
  | 0, _, _, _, _ => none
  | k + 1, x0, x1, x5, x6 => if x6 < 16 then (if 0 ≤ (wrap64 (4 * x6)) then (if (wrap64 (4 * x6)) < (x1.size : Int) then (if 0 ≤ (wrap64 ((wrap64 (4 * x6)) + 1)) then (if (wrap64 ((wrap64 (4 * x6)) + 1)) < (x1.size : Int) then (if 0 ≤ (wrap64 ((wrap64 (4 * x6)) + 2)) then (if (wrap64 ((wrap64 (4 * x6)) + 2)) < (x1.size : Int) then (if 0 ≤ (wrap64 ((wrap64 (4 * x6)) + 3)) then (if (wrap64 ((wrap64 (4 * x6)) + 3)) < (x1.size : Int) then (if 0 ≤ x6 then (if x6 < (x5.length : Int) then (spec_l02Block.l0 k x0 x1 (x5.set (x6 : Int).toNat (Go.bits .or .u32 (Go.bits .or .u32 (Go.bits .or .u32 ((((bt x1 (wrap64 (4 * x6))) % 4294967296) * 16777216) % 4294967296) ((((bt x1 (wrap64 ((wrap64 (4 * x6)) + 1))) % 4294967296) * 65536) % 4294967296)) ((((bt x1 (wrap64 ((wrap64 (4 * x6)) + 2))) % 4294967296) * 256) % 4294967296)) ((bt x1 (wrap64 ((wrap64 (4 * x6)) + 3))) % 4294967296))) (wrap64 (x6 + 1))) else (none)) else (none)) else (none)) else (none)) else (none)) else (none)) else (none)) else (none)) else (none)) else (none)) else (spec_l02Block.l1 k x0 x5 16)
def spec_l02Block.l1 : Nat → List Int → List Int → Int → Option (List Int)
  | 0, _, _, _ => none
  | k + 1, x0, x5, x7 => if x7 < 64 then (if 0 ≤ (wrap64 (x7 - 15)) then (if (wrap64 (x7 - 15)) < (x5.length : Int) then (if 0 ≤ (wrap64 (x7 - 2)) then (if (wrap64 (x7 - 2)) < (x5.length : Int) then (if 0 ≤ (wrap64 (x7 - 16)) then (if (wrap64 (x7 - 16)) < (x5.length : Int) then ((spec_l02Turn.f (rd x5 (wrap64 (x7 - 15))) 7).bind fun t108 => ((spec_l02Turn.f (rd x5 (wrap64 (x7 - 15))) 18).bind fun t109 => (if 0 ≤ (wrap64 (x7 - 7)) then (if (wrap64 (x7 - 7)) < (x5.length : Int) then ((spec_l02Turn.f (rd x5 (wrap64 (x7 - 2))) 17).bind fun t111 => ((spec_l02Turn.f (rd x5 (wrap64 (x7 - 2))) 19).bind fun t112 => (if 0 ≤ x7 then (if x7 < (x5.length : Int) then (spec_l02Block.l1 k x0 (x5.set (x7 : Int).toNat (((((rd x5 (wrap64 (x7 - 16))) + (Go.bits .xor .u32 (Go.bits .xor .u32 t108 t109) ((rd x5 (wrap64 (x7 - 15))) / 8))) + (rd x5 (wrap64 (x7 - 7)))) + (Go.bits .xor .u32 (Go.bits .xor .u32 t111 t112) ((rd x5 (wrap64 (x7 - 2))) / 1024))) % 4294967296)) (wrap64 (x7 + 1))) else (none)) else (none)))) else (none)) else (none)))) else (none)) else (none)) else (none)) else (none)) else (none)) else (none)) else (if 0 < (x0.length : Int) then (if 1 < (x0.length : Int) then (if 2 < (x0.length : Int) then (if 3 < (x0.length : Int) then (if 4 < (x0.length : Int) then (if 5 < (x0.length : Int) then (if 6 < (x0.length : Int) then (if 7 < (x0.length : Int) then ((spec_l02Keys.f).bind fun t122 => (spec_l02Block.l2 k x0 x5 ((rd x0 0) % 4294967296) ((rd x0 1) % 4294967296) ((rd x0 2) % 4294967296) ((rd x0 3) % 4294967296) ((rd x0 4) % 4294967296) ((rd x0 5) % 4294967296) ((rd x0 6) % 4294967296) ((rd x0 7) % 4294967296) t122 0)) else (none)) else (none)) else (none)) else (none)) else (none)) else (none)) else (none)) else (none))
def spec_l02Block.l2 : Nat → List Int → List Int → Int → Int → Int → Int → Int → Int → Int → Int → List Int → Int → Option (List Int)
  | 0, _, _, _, _, _, _, _, _, _, _, _, _ => none
  | k + 1, x0, x5, x10, x11, x12, x13, x14, x15, x16, x17, x18, x19 => if x19 < 64 then ((spec_l02Turn.f x14 6).bind fun t125 => ((spec_l02Turn.f x14 11).bind fun t126 => ((spec_l02Turn.f x14 25).bind fun t127 => (if 0 ≤ x19 then (if x19 < (x18.length : Int) then (if x19 < (x5.length : Int) then ((spec_l02Turn.f x10 2).bind fun t130 => ((spec_l02Turn.f x10 13).bind fun t131 => ((spec_l02Turn.f x10 22).bind fun t132 => (spec_l02Block.l2 k x0 x5 ((((((x17 + (Go.bits .xor .u32 (Go.bits .xor .u32 t125 t126) t127)) + (Go.bits .xor .u32 (Go.bits .and .u32 x14 x15) (Go.bits .and .u32 (Go.bits .xor .u32 4294967295 x14) x16))) + (rd x18 x19)) + (rd x5 x19)) + ((Go.bits .xor .u32 (Go.bits .xor .u32 t130 t131) t132) + (Go.bits .xor .u32 (Go.bits .xor .u32 (Go.bits .and .u32 x10 x11) (Go.bits .and .u32 x10 x12)) (Go.bits .and .u32 x11 x12)))) % 4294967296) x10 x11 x12 ((x13 + ((((x17 + (Go.bits .xor .u32 (Go.bits .xor .u32 t125 t126) t127)) + (Go.bits .xor .u32 (Go.bits .and .u32 x14 x15) (Go.bits .and .u32 (Go.bits .xor .u32 4294967295 x14) x16))) + (rd x18 x19)) + (rd x5 x19))) % 4294967296) x14 x15 x16 x18 (wrap64 (x19 + 1)))))) else (none)) else (none)) else (none))))) else (spec_l02Block.l3 k x0 (([x10, x11, x12, x13, x14, x15, x16, x17] : List Int)) (([] : List Int)) 0)
def spec_l02Block.l3 : Nat → List Int → List Int → List Int → Int → Option (List Int)
  | 0, _, _, _, _ => none
  | k + 1, x0, x22, x23, x24 => if x24 < 8 then (if 0 ≤ x24 then (if x24 < (x0.length : Int) then (if x24 < (x22.length : Int) then (if x23.length < 17592186044416 then (spec_l02Block.l3 k x0 x22 (x23 ++ [((rd x0 x24) + (rd x22 x24)) % 4294967296]) (wrap64 (x24 + 1))) else (none)) else (none)) else (none)) else (none)) else (some x23)
end
def spec_l02Block.f (k : Nat) (l0 : List Int) (a1 : ByteArray) : Option (List Int) := if 64 ≤ 70368744177664 then (spec_l02Block.l0 k l0 a1 (List.replicate 64 0) 0) else (none)
theorem spec_l02Block.mono_l : ∀ k, (∀ y0 y1 y2 y3, LeO (spec_l02Block.l0 k y0 y1 y2 y3) (spec_l02Block.l0 (k + 1) y0 y1 y2 y3)) ∧ (∀ y0 y1 y2, LeO (spec_l02Block.l1 k y0 y1 y2) (spec_l02Block.l1 (k + 1) y0 y1 y2)) ∧ (∀ y0 y1 y2 y3 y4 y5 y6 y7 y8 y9 y10 y11, LeO (spec_l02Block.l2 k y0 y1 y2 y3 y4 y5 y6 y7 y8 y9 y10 y11) (spec_l02Block.l2 (k + 1) y0 y1 y2 y3 y4 y5 y6 y7 y8 y9 y10 y11)) ∧ (∀ y0 y1 y2 y3, LeO (spec_l02Block.l3 k y0 y1 y2 y3) (spec_l02Block.l3 (k + 1) y0 y1 y2 y3))
  | 0 => ⟨fun _ _ _ _ r h => by simp [spec_l02Block.l0] at h, fun _ _ _ r h => by simp [spec_l02Block.l1] at h, fun _ _ _ _ _ _ _ _ _ _ _ _ r h => by simp [spec_l02Block.l2] at h, fun _ _ _ _ r h => by simp [spec_l02Block.l3] at h⟩
  | k + 1 => by
    obtain ⟨ih0, ih1, ih2, ih3⟩ := spec_l02Block.mono_l k
    refine ⟨?_, ?_, ?_, ?_⟩
    · intro y0 y1 y2 y3
      unfold spec_l02Block.l0
      repeat' first
      | (with_reducible exact ih0 _ _ _ _)
      | (with_reducible exact ih1 _ _ _)
      | (with_reducible exact ih2 _ _ _ _ _ _ _ _ _ _ _ _)
      | (with_reducible exact ih3 _ _ _ _)
      | (with_reducible exact LeO.refl _)
      | (with_reducible exact LeO.none _)
      | (with_reducible refine LeO.ite ?_ ?_)
      | (with_reducible refine LeO.bind ?_ (fun _ => ?_))
      | exact ih0 _ _ _ _
      | exact ih1 _ _ _
      | exact ih2 _ _ _ _ _ _ _ _ _ _ _ _
      | exact ih3 _ _ _ _
      | exact LeO.none _
      | refine LeO.ite ?_ ?_
      | refine LeO.bind ?_ (fun _ => ?_)
    · intro y0 y1 y2
      unfold spec_l02Block.l1
      repeat' first
      | (with_reducible exact ih0 _ _ _ _)
      | (with_reducible exact ih1 _ _ _)
      | (with_reducible exact ih2 _ _ _ _ _ _ _ _ _ _ _ _)
      | (with_reducible exact ih3 _ _ _ _)
      | (with_reducible exact LeO.refl _)
      | (with_reducible exact LeO.none _)
      | (with_reducible refine LeO.ite ?_ ?_)
      | (with_reducible refine LeO.bind ?_ (fun _ => ?_))
      | exact ih0 _ _ _ _
      | exact ih1 _ _ _
      | exact ih2 _ _ _ _ _ _ _ _ _ _ _ _
      | exact ih3 _ _ _ _
      | exact LeO.none _
      | refine LeO.ite ?_ ?_
      | refine LeO.bind ?_ (fun _ => ?_)
    · intro y0 y1 y2 y3 y4 y5 y6 y7 y8 y9 y10 y11
      unfold spec_l02Block.l2
      repeat' first
      | (with_reducible exact ih0 _ _ _ _)
      | (with_reducible exact ih1 _ _ _)
      | (with_reducible exact ih2 _ _ _ _ _ _ _ _ _ _ _ _)
      | (with_reducible exact ih3 _ _ _ _)
      | (with_reducible exact LeO.refl _)
      | (with_reducible exact LeO.none _)
      | (with_reducible refine LeO.ite ?_ ?_)
      | (with_reducible refine LeO.bind ?_ (fun _ => ?_))
      | exact ih0 _ _ _ _
      | exact ih1 _ _ _
      | exact ih2 _ _ _ _ _ _ _ _ _ _ _ _
      | exact ih3 _ _ _ _
      | exact LeO.none _
      | refine LeO.ite ?_ ?_
      | refine LeO.bind ?_ (fun _ => ?_)
    · intro y0 y1 y2 y3
      unfold spec_l02Block.l3
      repeat' first
      | (with_reducible exact ih0 _ _ _ _)
      | (with_reducible exact ih1 _ _ _)
      | (with_reducible exact ih2 _ _ _ _ _ _ _ _ _ _ _ _)
      | (with_reducible exact ih3 _ _ _ _)
      | (with_reducible exact LeO.refl _)
      | (with_reducible exact LeO.none _)
      | (with_reducible refine LeO.ite ?_ ?_)
      | (with_reducible refine LeO.bind ?_ (fun _ => ?_))
      | exact ih0 _ _ _ _
      | exact ih1 _ _ _
      | exact ih2 _ _ _ _ _ _ _ _ _ _ _ _
      | exact ih3 _ _ _ _
      | exact LeO.none _
      | refine LeO.ite ?_ ?_
      | refine LeO.bind ?_ (fun _ => ?_)
theorem spec_l02Block.mono : ∀ a0 a1 k, LeO (spec_l02Block.f k a0 a1) (spec_l02Block.f (k + 1) a0 a1) := by
  intro a0 a1 k
  obtain ⟨ih0, ih1, ih2, ih3⟩ := spec_l02Block.mono_l k
  unfold spec_l02Block.f
  repeat' first
      | (with_reducible exact ih0 _ _ _ _)
      | (with_reducible exact ih1 _ _ _)
      | (with_reducible exact ih2 _ _ _ _ _ _ _ _ _ _ _ _)
      | (with_reducible exact ih3 _ _ _ _)
      | (with_reducible exact LeO.refl _)
      | (with_reducible exact LeO.none _)
      | (with_reducible refine LeO.ite ?_ ?_)
      | (with_reducible refine LeO.bind ?_ (fun _ => ?_))
      | exact ih0 _ _ _ _
      | exact ih1 _ _ _
      | exact ih2 _ _ _ _ _ _ _ _ _ _ _ _
      | exact ih3 _ _ _ _
      | exact LeO.none _
      | refine LeO.ite ?_ ?_
      | refine LeO.bind ?_ (fun _ => ?_)
def spec_l02Block.T5 : Bool × List (List Nat × List Nat) := (true, [([], []), ([], []), ([], []), ([], []), ([3], [3]), ([2, 4], [2, 4]), ([5], [5]), ([6], [6]), ([], []), ([], []), ([9], [9]), ([10], [10]), ([8, 11], [8, 11]), ([12], [12]), ([13], [13]), ([7, 14], [7, 14]), ([], []), ([], []), ([17], [17]), ([18], [18]), ([16, 19], [16, 19]), ([20], [20]), ([21], [21]), ([15, 22], [15, 22]), ([], []), ([], []), ([25], [25]), ([26], [26]), ([24, 27], [24, 27]), ([28], [28]), ([23, 29], [23, 29]), ([0, 1, 0, 1, 2, 3, 4, 5, 6, 7, 8, 9, 10, 11, 12, 13, 14, 15, 16, 17, 18, 19, 20, 21, 22, 23, 24, 25, 26, 27, 28, 29, 30], [0, 1]), ([31, 30, 0, 1, 2, 3, 4, 5, 6, 7, 8, 9, 10, 11, 12, 13, 14, 15, 16, 17, 18, 19, 20, 21, 22, 23, 24, 25, 26, 27, 28, 29, 30], [30, 31])])
def spec_l02Block.B5 : List Nat := [0, 0, 0, 0, 8, 28, 60, 124, 0, 0, 512, 1536, 3840, 7936, 16128, 32764, 0, 0, 131072, 393216, 983040, 2031616, 4128768, 8388604, 0, 0, 33554432, 100663296, 251658240, 520093696, 1073741820, 2147483647, 4294967295]
theorem spec_l02Block.tab5 : rtab .any (opsOf Tryd.f49 5) = spec_l02Block.T5 := by kernel_rfl
theorem spec_l02Block.bits5 : waitsOk spec_l02Block.T5.2 spec_l02Block.B5 = true := by kernel_rfl
def spec_l02Block.T11 : Bool × List (List Nat × List Nat) := (true, [([], []), ([], []), ([], []), ([], []), ([3], [3]), ([2, 4], [2, 4]), ([5], [5]), ([], []), ([7], [7]), ([], []), ([9, 8], [9]), ([8, 10], [8, 10]), ([], []), ([12], [12]), ([11, 13], [11, 13]), ([6, 14], [6, 14]), ([], []), ([], []), ([17], [17]), ([16, 18], [16, 18]), ([19], [19]), ([15, 20], [15, 20]), ([], []), ([22, 10], [22]), ([], []), ([24, 23], [24]), ([23, 25], [23, 25]), ([], []), ([27], [27]), ([26, 28], [26, 28]), ([21, 29], [21, 29]), ([0, 1, 0, 1, 2, 3, 4, 5, 6, 7, 8, 9, 10, 11, 12, 13, 14, 15, 16, 17, 18, 19, 20, 21, 22, 23, 24, 25, 26, 27, 28, 29, 30], [0, 1]), ([31, 30, 25, 0, 1, 2, 3, 4, 5, 6, 7, 8, 9, 10, 11, 12, 13, 14, 15, 16, 17, 18, 19, 20, 21, 22, 23, 24, 25, 26, 27, 28, 29, 30], [30, 31])])
def spec_l02Block.B11 : List Nat := [0, 0, 0, 0, 8, 28, 60, 0, 128, 0, 896, 1920, 0, 4096, 16256, 32764, 0, 0, 131072, 458752, 983040, 2097148, 0, 4196224, 0, 29362048, 62916480, 0, 134217728, 532678528, 1073741820, 2147483647, 4294967295]
theorem spec_l02Block.tab11 : rtab .any (opsOf Tryd.f49 11) = spec_l02Block.T11 := by kernel_rfl
theorem spec_l02Block.bits11 : waitsOk spec_l02Block.T11.2 spec_l02Block.B11 = true := by kernel_rfl
def spec_l02Block.T12 : Bool × List (List Nat × List Nat) := (true, [([], []), ([0], [0]), ([1], [1]), ([2], [2]), ([], []), ([4], [4]), ([5], [5]), ([6], [6]), ([], []), ([8], [8]), ([9], [9]), ([10], [10]), ([], []), ([12], [12]), ([13], [13]), ([14], [14]), ([3, 0, 1, 2, 3], [3]), ([7, 16, 0, 1, 2, 3, 4, 5, 6, 7, 16], [7]), ([11, 17, 0, 1, 2, 3, 4, 5, 6, 7, 8, 9, 10, 11, 16, 17], [11]), ([15, 18, 0, 1, 2, 3, 4, 5, 6, 7, 8, 9, 10, 11, 12, 13, 14, 15, 16, 17, 18], [15])])
def spec_l02Block.B12 : List Nat := [0, 1, 3, 7, 0, 16, 48, 112, 0, 256, 768, 1792, 0, 4096, 12288, 28672, 15, 65791, 200703, 524287]
theorem spec_l02Block.tab12 : rtab .any (opsOf Tryd.f49 12) = spec_l02Block.T12 := by kernel_rfl
theorem spec_l02Block.bits12 : waitsOk spec_l02Block.T12.2 spec_l02Block.B12 = true := by kernel_rfl
def spec_l02Block.T13 : Bool × List (List Nat × List Nat) := (true, [([], []), ([0], [0]), ([1], [1]), ([2], [2]), ([], []), ([4], [4]), ([5], [5]), ([6], [6]), ([], []), ([8], [8]), ([9], [9]), ([10], [10]), ([], []), ([12], [12]), ([13], [13]), ([14], [14]), ([3, 0, 1, 2, 3], [3]), ([7, 16, 0, 1, 2, 3, 4, 5, 6, 7, 16], [7]), ([11, 17, 0, 1, 2, 3, 4, 5, 6, 7, 8, 9, 10, 11, 16, 17], [11]), ([15, 18, 0, 1, 2, 3, 4, 5, 6, 7, 8, 9, 10, 11, 12, 13, 14, 15, 16, 17, 18], [15])])
def spec_l02Block.B13 : List Nat := [0, 1, 3, 7, 0, 16, 48, 112, 0, 256, 768, 1792, 0, 4096, 12288, 28672, 15, 65791, 200703, 524287]
theorem spec_l02Block.tab13 : rtab .any (opsOf Tryd.f49 13) = spec_l02Block.T13 := by kernel_rfl
theorem spec_l02Block.bits13 : waitsOk spec_l02Block.T13.2 spec_l02Block.B13 = true := by kernel_rfl
def spec_l02Block.T18 : Bool × List (List Nat × List Nat) := (true, [([], []), ([], []), ([1], [1]), ([], []), ([3, 2], [3]), ([2, 4], [2, 4]), ([], []), ([6, 4], [6]), ([5, 7], [5, 7]), ([0, 8], [0, 8]), ([], []), ([], []), ([10, 11], [10, 11]), ([], []), ([13], [13]), ([], []), ([14, 15], [14, 15]), ([12, 16], [12, 16]), ([9, 17], [9, 17]), ([], []), ([], []), ([19, 20], [19, 20]), ([21], [21]), ([18, 22], [18, 22]), ([], []), ([], []), ([24, 25], [24, 25]), ([26], [26]), ([23, 27], [23, 27]), ([28, 7, 0, 1, 2, 3, 4, 5, 6, 7, 8, 9, 10, 11, 12, 13, 14, 15, 16, 17, 18, 19, 20, 21, 22, 23, 24, 25, 26, 27, 28], [28])])
def spec_l02Block.B18 : List Nat := [0, 0, 2, 0, 14, 30, 0, 94, 254, 511, 0, 0, 3072, 0, 8192, 0, 57344, 130048, 262143, 0, 0, 1572864, 3670016, 8388607, 0, 0, 50331648, 117440512, 268435455, 536870911]
theorem spec_l02Block.tab18 : rtab .any (opsOf Tryd.f49 18) = spec_l02Block.T18 := by kernel_rfl
theorem spec_l02Block.bits18 : waitsOk spec_l02Block.T18.2 spec_l02Block.B18 = true := by kernel_rfl
def spec_l02Block.T33 : Bool × List (List Nat × List Nat) := (true, [([], []), ([], []), ([], []), ([1, 2], [1, 2]), ([3], [3]), ([4], [4]), ([], []), ([], []), ([6, 7], [6, 7]), ([8], [8]), ([5, 9], [5, 9]), ([10], [10]), ([11], [11]), ([0, 12], [0, 12]), ([13, 13, 0, 1, 2, 3, 4, 5, 6, 7, 8, 9, 10, 11, 12, 13], [0, 13])])
def spec_l02Block.B33 : List Nat := [0, 0, 0, 6, 14, 30, 0, 0, 192, 448, 1022, 2046, 4094, 8191, 16383]
theorem spec_l02Block.tab33 : rtab .any (opsOf Tryd.f49 33) = spec_l02Block.T33 := by kernel_rfl
theorem spec_l02Block.bits33 : waitsOk spec_l02Block.T33.2 spec_l02Block.B33 = true := by kernel_rfl
set_option maxHeartbeats 60000000 in
set_option maxRecDepth 100000 in
theorem spec_l02Block.calls (k : Nat) (A0 : Option Addr) (c0 : Nat) (l0 : List Int) (a1 : ByteArray) (r : List Int) (w : World) (hr0 : Kd.C (Kd.int .i64) w A0 l0.length l0) (hc0 : l0.length ≤ c0) (h : spec_l02Block.f k l0 a1 = some r) :
    Calls Tryd.prog 49 #[.slice A0 l0.length c0, .string a1] w fun e w' => ∃ v0_ : Value, e = .returned (v0_) ∧ Kd.R (Kd.int .i64) 2 w' w.heap.size (fun _ => True) v0_ r ∧ Below w.heap.size w w' := by
 have hmx32 : IntKind.u32.max = 4294967295 := by decide
 have HR0 := AM hr0
 have HC0 := AM hc0
 clear hr0 hc0
 have HB := AM (Below.refl w.heap.size w)
 have H : (if 64 ≤ 70368744177664 then (spec_l02Block.l0 k l0 a1 (List.replicate 64 0) 0) else (none)) = some r := h
 clear h
 by_cases c3 : 64 ≤ 70368744177664
 ·
  rw [if_pos c3] at H
  have c3b0 := eq_true c3
  have c3b1 : decide (64 ≤ 70368744177664) = true := decide_eq_true c3
  clear c3
  obtain ⟨y101, hy101⟩ : ∃ y_ : List Int, y_ = (List.replicate 64 0) := ⟨_, rfl⟩
  replace H : (spec_l02Block.l0 k l0 a1 y101 0) = some r := by first | (rw [hy101]; with_reducible exact H) | (have H2_ := (Option.bind_some _ _).symm.trans H; rw [hy101]; with_reducible exact H2_) | (have H2_ := (Option.bind_some _ _).symm.trans H; with_reducible exact H2_) | with_reducible exact H | (rw [hy101]; exact H) | exact H
  have Ny101 := AM hy101
  clear hy101
  have H' := AM H
  clear H
  go_enter Tryd.func49, Tryd.ntmps49
  go_wp2_with (first | ((with_reducible refine gate_dst (N := 25) rfl ?_); refine Kd.R_make (Kd.int .u32) _ 67 rfl (N := 25) rfl 66 _ _ rfl 64 rfl rfl Tryd.underlying66 (.int .u32 0) 4 info67 rfl (by decide) (by omega) 0 (ok := fun _ => True) (okp := fun _ => True) rfl (fun _ hk => hk) trivial (by omega) (by omega) (Below.refl _ _) (Nat.le_refl _) ?_; intro v102 w4 ho5 hb hg_ hnew_; clear hg_ hnew_; (first | rw [← Ny101.out] at ho5 | (simp only [Int.reduceToNat] at ho5; rw [← Ny101.out] at ho5)); have _ := AM (Kd.R_lower ho5 (bZ (bX HB.out))); have _ := AM (below_step (bX HB.out) hb); clear HB; rename_i HO103 HB; clear hb ho5))
  go_loopg [6] k (fun kq v6 w' => ∃ (x5_1 : List Int) (x6_1 : Int), v6 = .int .i64 x6_1 ∧ Aside0 (spec_l02Block.l0 kq l0 a1 x5_1 x6_1 = some r) ∧ Aside0 (kq ≤ k) ∧ Aside0 (Kd.R (Kd.int .u32) 67 w' w.heap.size (fun _ => True) v102 x5_1) ∧ Aside0 (Below w.heap.size w w'))
  case atStart => exact ⟨(y101), (0), (by first | rfl | (simp; done) | (simp [*]; done)), H', ⟨Nat.le_refl _⟩, ⟨rX HO103.out⟩, ⟨bX HB.out⟩⟩
  case round =>
   clear H'
   (try clear p2); (try clear c3); (try clear c3b0); (try clear c3b1); (try clear c4)
   obtain ⟨x5_1, x6_1, rfl, HA, HK1, HO_5, HB⟩ := hrel
   cases gk with
   | zero => exact absurd HA.out (by simp [spec_l02Block.l0])
   | succ k1 =>
    have H := HA.out
    clear HA
    simp only [spec_l02Block.l0] at H
    by_cases c6 : x6_1 < 16
    ·
     rw [if_pos c6] at H
     have c6b0 : decide (x6_1 < 16) = true := decide_eq_true c6
     clear c6
     obtain ⟨ji7, hji7⟩ : ∃ j_ : Int, (wrap64 (4 * x6_1)) = j_ := ⟨_, rfl⟩
     replace H : (if 0 ≤ (ji7) then (if (ji7) < (a1.size : Int) then (if 0 ≤ (wrap64 ((ji7) + 1)) then (if (wrap64 ((ji7) + 1)) < (a1.size : Int) then (if 0 ≤ (wrap64 ((ji7) + 2)) then (if (wrap64 ((ji7) + 2)) < (a1.size : Int) then (if 0 ≤ (wrap64 ((ji7) + 3)) then (if (wrap64 ((ji7) + 3)) < (a1.size : Int) then (if 0 ≤ x6_1 then (if x6_1 < (x5_1.length : Int) then (spec_l02Block.l0 k1 l0 a1 (x5_1.set (x6_1 : Int).toNat (Go.bits .or .u32 (Go.bits .or .u32 (Go.bits .or .u32 ((((bt a1 (ji7)) % 4294967296) * 16777216) % 4294967296) ((((bt a1 (wrap64 ((ji7) + 1))) % 4294967296) * 65536) % 4294967296)) ((((bt a1 (wrap64 ((ji7) + 2))) % 4294967296) * 256) % 4294967296)) ((bt a1 (wrap64 ((ji7) + 3))) % 4294967296))) (wrap64 (x6_1 + 1))) else (none)) else (none)) else (none)) else (none)) else (none)) else (none)) else (none)) else (none)) else (none)) else (none)) = some r := by first | (rw [hji7] at H; exact H) | (simp only [hji7] at H ⊢; exact H)
     have hji7w : (IntKind.i64.wrap (4 * x6_1)) = ji7 := (i64_w _).trans hji7
     by_cases c8 : 0 ≤ (ji7)
     ·
      rw [if_pos c8] at H
      have c8b0 : decide (0 ≤ (ji7)) = true := decide_eq_true c8
      clear c8
      by_cases c9 : (ji7) < (a1.size : Int)
      ·
       rw [if_pos c9] at H
       have c9b0 : decide ((ji7) < (a1.size : Int)) = true := decide_eq_true c9
       clear c9
       obtain ⟨ji11, hji11⟩ : ∃ j_ : Int, (wrap64 ((ji7) + 1)) = j_ := ⟨_, rfl⟩
       replace H : (if 0 ≤ (ji11) then (if (ji11) < (a1.size : Int) then (if 0 ≤ (wrap64 ((ji7) + 2)) then (if (wrap64 ((ji7) + 2)) < (a1.size : Int) then (if 0 ≤ (wrap64 ((ji7) + 3)) then (if (wrap64 ((ji7) + 3)) < (a1.size : Int) then (if 0 ≤ x6_1 then (if x6_1 < (x5_1.length : Int) then (spec_l02Block.l0 k1 l0 a1 (x5_1.set (x6_1 : Int).toNat (Go.bits .or .u32 (Go.bits .or .u32 (Go.bits .or .u32 ((((bt a1 (ji7)) % 4294967296) * 16777216) % 4294967296) ((((bt a1 (ji11)) % 4294967296) * 65536) % 4294967296)) ((((bt a1 (wrap64 ((ji7) + 2))) % 4294967296) * 256) % 4294967296)) ((bt a1 (wrap64 ((ji7) + 3))) % 4294967296))) (wrap64 (x6_1 + 1))) else (none)) else (none)) else (none)) else (none)) else (none)) else (none)) else (none)) else (none)) = some r := by first | (rw [hji11] at H; exact H) | (simp only [hji11] at H ⊢; exact H)
       have hji11w : (IntKind.i64.wrap ((ji7) + 1)) = ji11 := (i64_w _).trans hji11
       by_cases c12 : 0 ≤ (ji11)
       ·
        rw [if_pos c12] at H
        have c12b0 : decide (0 ≤ (ji11)) = true := decide_eq_true c12
        clear c12
        by_cases c13 : (ji11) < (a1.size : Int)
        ·
         rw [if_pos c13] at H
         have c13b0 : decide ((ji11) < (a1.size : Int)) = true := decide_eq_true c13
         clear c13
         obtain ⟨ji15, hji15⟩ : ∃ j_ : Int, (wrap64 ((ji7) + 2)) = j_ := ⟨_, rfl⟩
         replace H : (if 0 ≤ (ji15) then (if (ji15) < (a1.size : Int) then (if 0 ≤ (wrap64 ((ji7) + 3)) then (if (wrap64 ((ji7) + 3)) < (a1.size : Int) then (if 0 ≤ x6_1 then (if x6_1 < (x5_1.length : Int) then (spec_l02Block.l0 k1 l0 a1 (x5_1.set (x6_1 : Int).toNat (Go.bits .or .u32 (Go.bits .or .u32 (Go.bits .or .u32 ((((bt a1 (ji7)) % 4294967296) * 16777216) % 4294967296) ((((bt a1 (ji11)) % 4294967296) * 65536) % 4294967296)) ((((bt a1 (ji15)) % 4294967296) * 256) % 4294967296)) ((bt a1 (wrap64 ((ji7) + 3))) % 4294967296))) (wrap64 (x6_1 + 1))) else (none)) else (none)) else (none)) else (none)) else (none)) else (none)) = some r := by first | (rw [hji15] at H; exact H) | (simp only [hji15] at H ⊢; exact H)
         have hji15w : (IntKind.i64.wrap ((ji7) + 2)) = ji15 := (i64_w _).trans hji15
         by_cases c16 : 0 ≤ (ji15)
         ·
          rw [if_pos c16] at H
          have c16b0 : decide (0 ≤ (ji15)) = true := decide_eq_true c16
          clear c16
          by_cases c17 : (ji15) < (a1.size : Int)
          ·
           rw [if_pos c17] at H
           have c17b0 : decide ((ji15) < (a1.size : Int)) = true := decide_eq_true c17
           clear c17
           obtain ⟨ji19, hji19⟩ : ∃ j_ : Int, (wrap64 ((ji7) + 3)) = j_ := ⟨_, rfl⟩
           replace H : (if 0 ≤ (ji19) then (if (ji19) < (a1.size : Int) then (if 0 ≤ x6_1 then (if x6_1 < (x5_1.length : Int) then (spec_l02Block.l0 k1 l0 a1 (x5_1.set (x6_1 : Int).toNat (Go.bits .or .u32 (Go.bits .or .u32 (Go.bits .or .u32 ((((bt a1 (ji7)) % 4294967296) * 16777216) % 4294967296) ((((bt a1 (ji11)) % 4294967296) * 65536) % 4294967296)) ((((bt a1 (ji15)) % 4294967296) * 256) % 4294967296)) ((bt a1 (ji19)) % 4294967296))) (wrap64 (x6_1 + 1))) else (none)) else (none)) else (none)) else (none)) = some r := by first | (rw [hji19] at H; exact H) | (simp only [hji19] at H ⊢; exact H)
           have hji19w : (IntKind.i64.wrap ((ji7) + 3)) = ji19 := (i64_w _).trans hji19
           by_cases c20 : 0 ≤ (ji19)
           ·
            rw [if_pos c20] at H
            have c20b0 : decide (0 ≤ (ji19)) = true := decide_eq_true c20
            clear c20
            by_cases c21 : (ji19) < (a1.size : Int)
            ·
             rw [if_pos c21] at H
             have c21b0 : decide ((ji19) < (a1.size : Int)) = true := decide_eq_true c21
             clear c21
             by_cases c23 : 0 ≤ x6_1
             ·
              rw [if_pos c23] at H
              have c23b0 : decide (0 ≤ x6_1) = true := decide_eq_true c23
              clear c23
              by_cases c24 : x6_1 < (x5_1.length : Int)
              ·
               rw [if_pos c24] at H
               have c24b0 : decide (x6_1 < (x5_1.length : Int)) = true := decide_eq_true c24
               clear c24
               obtain ⟨y104, hy104⟩ : ∃ y_ : List Int, y_ = (x5_1.set (x6_1 : Int).toNat (Go.bits .or .u32 (Go.bits .or .u32 (Go.bits .or .u32 ((((bt a1 (ji7)) % 4294967296) * 16777216) % 4294967296) ((((bt a1 (ji11)) % 4294967296) * 65536) % 4294967296)) ((((bt a1 (ji15)) % 4294967296) * 256) % 4294967296)) ((bt a1 (ji19)) % 4294967296))) := ⟨_, rfl⟩
               replace H : (spec_l02Block.l0 k1 l0 a1 y104 (wrap64 (x6_1 + 1))) = some r := by first | (rw [hy104]; with_reducible exact H) | (have H2_ := (Option.bind_some _ _).symm.trans H; rw [hy104]; with_reducible exact H2_) | (have H2_ := (Option.bind_some _ _).symm.trans H; with_reducible exact H2_) | with_reducible exact H | (rw [hy104]; exact H) | exact H
               have Ny104 := AM hy104
               clear hy104
               have H' := AM H
               clear H
               try go_wp2
               have _ := AM (rD HO_5.out)
               have _ := AM (bD HB.out)
               clear HO_5 HB
               rename_i HO_5 HB
               have p10 : 0 ≤ ((ji7) : Int) := of_decide_eq_true (by assumption)
               have q10 : (ji7) < (a1.size : Int) := of_decide_eq_true (by assumption)
               have hx10 := bt_at a1 (ji7)
               replace p10 := eq_true p10
               replace q10 := eq_true q10
               have p14 : 0 ≤ ((ji11) : Int) := of_decide_eq_true (by assumption)
               have q14 : (ji11) < (a1.size : Int) := of_decide_eq_true (by assumption)
               have hx14 := bt_at a1 (ji11)
               replace p14 := eq_true p14
               replace q14 := eq_true q14
               have p18 : 0 ≤ ((ji15) : Int) := of_decide_eq_true (by assumption)
               have q18 : (ji15) < (a1.size : Int) := of_decide_eq_true (by assumption)
               have hx18 := bt_at a1 (ji15)
               replace p18 := eq_true p18
               replace q18 := eq_true q18
               have p22 : 0 ≤ ((ji19) : Int) := of_decide_eq_true (by assumption)
               have q22 : (ji19) < (a1.size : Int) := of_decide_eq_true (by assumption)
               have hx22 := bt_at a1 (ji19)
               replace p22 := eq_true p22
               replace q22 := eq_true q22
               have p25 : 0 ≤ (x6_1 : Int) := of_decide_eq_true (by assumption)
               have q25 : (x6_1 : Int) < ((x5_1.length : Int) : Int) := of_decide_eq_true (by assumption)
               obtain ⟨go25, co25, eo25, gb25, gl25, cl25, HG25⟩ := Kd.R_form HO_5.out (by omega)
               (first | cases eo25 | (injection eo25 with ea_ en_ ec_; (first | subst ea_ | (injection ea_ with ea_; subst ea_)); subst ec_; clear en_))
               have GB25 := AM gb25
               have GG25 := AM HG25
               clear gb25 gl25 HG25
               obtain ⟨hx25_0, hf25_0⟩ := Kd.R_celln 0 HO_5.out (x6_1 : Int) p25 q25
               replace p25 := eq_true p25
               replace q25 := eq_true q25
               have HP27 := Kd.R_putn HO_5.out (x6_1 : Int) (Go.bits .or .u32 (Go.bits .or .u32 (Go.bits .or .u32 ((((bt a1 (ji7)) % 4294967296) * 16777216) % 4294967296) ((((bt a1 (ji11)) % 4294967296) * 65536) % 4294967296)) ((((bt a1 (ji15)) % 4294967296) * 256) % 4294967296)) ((bt a1 (ji19)) % 4294967296))
               rw [← Ny104.out] at HP27
               have HQ27 := AM HP27
               clear HP27
               refine start_ (n := 33) (S := fun w' => True) (ds := [32]) (upTo 0 33) (by kernel_rfl) rfl rfl trivial (fun hHeld => ?_); refine with_tabW spec_l02Block.tab5 spec_l02Block.bits5 (fun HT_ HW_ => ?_)
               generalize wr.drew = w26 at HO_5 HB GG25 HQ27 hf25_0 hx25_0 hHeld ⊢
               refine pF 0 1 33 30 ?_
               refine pF 1 2 33 31 ?_
               refine pF 2 3 33 32 ?_
               refine pF 3 4 33 33 ?_
               refine pF 4 5 33 34 ?_
               refine pF2 8 38 spec_l02Block.b0 ?_
               refine pF2 9 39 spec_l02Block.b1 ?_
               refine pF2 10 40 spec_l02Block.b2 ?_
               refine pF2 11 41 spec_l02Block.b3 ?_
               refine pF2 16 46 spec_l02Block.b4 ?_
               refine pF2 17 47 spec_l02Block.b5 ?_
               refine pF2 18 48 spec_l02Block.b6 ?_
               refine pF2 19 49 spec_l02Block.b7 ?_
               refine pF2 24 54 spec_l02Block.b8 ?_
               refine pF2 25 55 spec_l02Block.b9 ?_
               refine pF2 26 56 spec_l02Block.b10 ?_
               refine pF2 27 57 spec_l02Block.b11 ?_
               refine take_ (i := 5) (N := some 35) (v := ?_) (a' := ?_) spec_l02Block.b12 rfl rfl (take_ofW HT_.out HW_.out (by kernel_rfl)) (fun _ _ _ h => h) (Or.inl ⟨by rfl, ?_⟩) hHeld ?_ ?_
               rotate_left
               ·
                intro w' _
                go_simp
                with_reducible rfl
               rotate_left
               ·
                simp only [Act.put, sA, sB, sC, i64_w, i32_w]
                rfl
               refine pF2 6 36 spec_l02Block.b13 ?_
               refine pF2 7 37 spec_l02Block.b14 ?_
               refine take_ (i := 12) (N := some 42) (v := ?_) (a' := ?_) spec_l02Block.b15 rfl rfl (take_ofW HT_.out HW_.out (by kernel_rfl)) (fun _ _ _ h => h) (Or.inl ⟨by rfl, ?_⟩) hHeld ?_ ?_
               rotate_left
               ·
                intro w' _
                go_simp
                with_reducible rfl
               rotate_left
               ·
                simp only [Act.put, sA, sB, sC, i64_w, i32_w]
                rfl
               refine pF2 13 43 spec_l02Block.b16 ?_
               refine pF2 14 44 spec_l02Block.b17 ?_
               refine pF2 15 45 spec_l02Block.b18 ?_
               refine take_ (i := 20) (N := some 50) (v := ?_) (a' := ?_) spec_l02Block.b19 rfl rfl (take_ofW HT_.out HW_.out (by kernel_rfl)) (fun _ _ _ h => h) (Or.inl ⟨by rfl, ?_⟩) hHeld ?_ ?_
               rotate_left
               ·
                intro w' _
                go_simp
                with_reducible rfl
               rotate_left
               ·
                simp only [Act.put, sA, sB, sC, i64_w, i32_w]
                rfl
               refine pF2 21 51 spec_l02Block.b20 ?_
               refine pF2 22 52 spec_l02Block.b21 ?_
               refine pF2 23 53 (upTo 28 33) ?_
               refine take_ (i := 28) (N := some 58) (v := ?_) (a' := ?_) (upTo 29 33) rfl rfl (take_ofW HT_.out HW_.out (by kernel_rfl)) (fun _ _ _ h => h) (Or.inl ⟨by rfl, ?_⟩) hHeld ?_ ?_
               rotate_left
               ·
                intro w' _
                go_simp
                with_reducible rfl
               rotate_left
               ·
                simp only [Act.put, sA, sB, sC, i64_w, i32_w]
                rfl
               refine pF 29 30 33 59 ?_
               refine pF 30 31 33 60 ?_
               refine pF 31 32 33 61 ?_
               refine last_ (i := 32) (N := none) (upTo 33 33) rfl rfl (one_of HT_.out (by kernel_rfl)) (by decide) (fun K hK => ?_)
               refine skip_ (w1 := ?_) (by rfl) rfl ?_ ?_
               rotate_left
               ·
                go_simp
                rfl
               refine hK.out _ _ ?_
               clear hK K
               refine done_ (done_of HT_.out (by kernel_rfl)) ?_
               try go_wp2
               go_roundg k1
               case measure => have := HK1.out; omega
               case rel => exact ⟨(y104), (wrap64 (x6_1 + 1)), (by first | rfl | (simp; done) | (simp [*]; done)), H', ⟨by have := HK1.out; omega⟩, ⟨rX HQ27.out⟩, ⟨by repeat (first | (with_reducible first | exact HB.out | apply bA | apply bN | apply bD | refine bS ?_ GB25.out) | exact HB.out)⟩⟩
              rw [if_neg c24] at H
              exact absurd H (by simp)
             rw [if_neg c23] at H
             exact absurd H (by simp)
            rw [if_neg c21] at H
            exact absurd H (by simp)
           rw [if_neg c20] at H
           exact absurd H (by simp)
          rw [if_neg c17] at H
          exact absurd H (by simp)
         rw [if_neg c16] at H
         exact absurd H (by simp)
        rw [if_neg c13] at H
        exact absurd H (by simp)
       rw [if_neg c12] at H
       exact absurd H (by simp)
      rw [if_neg c9] at H
      exact absurd H (by simp)
     rw [if_neg c8] at H
     exact absurd H (by simp)
    rw [if_neg c6] at H
    have c6b0 : decide (x6_1 < 16) = false := decide_eq_false c6
    clear c6
    have H' := AM H
    clear H
    go_wp2
    go_loopg [7] k1 (fun kq v7 w' => ∃ (x5_2 : List Int) (x7_2 : Int), v7 = .int .i64 x7_2 ∧ Aside0 (spec_l02Block.l1 kq l0 x5_2 x7_2 = some r) ∧ Aside0 (kq ≤ k1) ∧ Aside0 (Kd.R (Kd.int .u32) 67 w' w.heap.size (fun _ => True) v102 x5_2) ∧ Aside0 (Below w.heap.size w w'))
    case atStart => exact ⟨(x5_1), (16), (by first | rfl | (simp; done) | (simp [*]; done)), H', ⟨Nat.le_refl _⟩, ⟨rX HO_5.out⟩, ⟨bX HB.out⟩⟩
    case round =>
     clear H'
     (try clear c1); (try clear p1); (try clear q1); (try clear hx1); (try clear c2); (try clear p2); (try clear q2); (try clear hx2); (try clear hf2); (try clear c3); (try clear c3b0); (try clear c3b1); (try clear c4); (try clear c6); (try clear c6b0); (try clear p6); (try clear c8); (try clear c8b0); (try clear c9); (try clear c9b0); (try clear p10); (try clear q10); (try clear hx10); (try clear c12); (try clear c12b0); (try clear c13); (try clear c13b0); (try clear p14); (try clear q14); (try clear hx14); (try clear c16); (try clear c16b0); (try clear c17); (try clear c17b0); (try clear p18); (try clear q18); (try clear hx18); (try clear c20); (try clear c20b0); (try clear c21); (try clear c21b0); (try clear p22); (try clear q22); (try clear hx22); (try clear c23); (try clear c23b0); (try clear c24); (try clear c24b0); (try clear p25); (try clear q25); (try clear hx25); (try clear hf25); (try clear hx25_0)
     obtain ⟨x5_2, x7_2, rfl, HA, HK2, HO_5, HB⟩ := hrel
     cases gk with
     | zero => exact absurd HA.out (by simp [spec_l02Block.l1])
     | succ k2 =>
      have H := HA.out
      clear HA
      simp only [spec_l02Block.l1] at H
      by_cases c28 : x7_2 < 64
      ·
       rw [if_pos c28] at H
       have c28b0 : decide (x7_2 < 64) = true := decide_eq_true c28
       clear c28
       obtain ⟨ji29, hji29⟩ : ∃ j_ : Int, (wrap64 (x7_2 - 15)) = j_ := ⟨_, rfl⟩
       replace H : (if 0 ≤ (ji29) then (if (ji29) < (x5_2.length : Int) then (if 0 ≤ (wrap64 (x7_2 - 2)) then (if (wrap64 (x7_2 - 2)) < (x5_2.length : Int) then (if 0 ≤ (wrap64 (x7_2 - 16)) then (if (wrap64 (x7_2 - 16)) < (x5_2.length : Int) then ((spec_l02Turn.f (rd x5_2 (ji29)) 7).bind fun t108 => ((spec_l02Turn.f (rd x5_2 (ji29)) 18).bind fun t109 => (if 0 ≤ (wrap64 (x7_2 - 7)) then (if (wrap64 (x7_2 - 7)) < (x5_2.length : Int) then ((spec_l02Turn.f (rd x5_2 (wrap64 (x7_2 - 2))) 17).bind fun t111 => ((spec_l02Turn.f (rd x5_2 (wrap64 (x7_2 - 2))) 19).bind fun t112 => (if 0 ≤ x7_2 then (if x7_2 < (x5_2.length : Int) then (spec_l02Block.l1 k2 l0 (x5_2.set (x7_2 : Int).toNat (((((rd x5_2 (wrap64 (x7_2 - 16))) + (Go.bits .xor .u32 (Go.bits .xor .u32 t108 t109) ((rd x5_2 (ji29)) / 8))) + (rd x5_2 (wrap64 (x7_2 - 7)))) + (Go.bits .xor .u32 (Go.bits .xor .u32 t111 t112) ((rd x5_2 (wrap64 (x7_2 - 2))) / 1024))) % 4294967296)) (wrap64 (x7_2 + 1))) else (none)) else (none)))) else (none)) else (none)))) else (none)) else (none)) else (none)) else (none)) else (none)) else (none)) = some r := by first | (rw [hji29] at H; exact H) | (simp only [hji29] at H ⊢; exact H)
       have hji29w : (IntKind.i64.wrap (x7_2 - 15)) = ji29 := (i64_w _).trans hji29
       by_cases c30 : 0 ≤ (ji29)
       ·
        rw [if_pos c30] at H
        have c30b0 : decide (0 ≤ (ji29)) = true := decide_eq_true c30
        clear c30
        by_cases c31 : (ji29) < (x5_2.length : Int)
        ·
         rw [if_pos c31] at H
         have c31b0 : decide ((ji29) < (x5_2.length : Int)) = true := decide_eq_true c31
         clear c31
         obtain ⟨ji32, hji32⟩ : ∃ j_ : Int, (wrap64 (x7_2 - 2)) = j_ := ⟨_, rfl⟩
         replace H : (if 0 ≤ (ji32) then (if (ji32) < (x5_2.length : Int) then (if 0 ≤ (wrap64 (x7_2 - 16)) then (if (wrap64 (x7_2 - 16)) < (x5_2.length : Int) then ((spec_l02Turn.f (rd x5_2 (ji29)) 7).bind fun t108 => ((spec_l02Turn.f (rd x5_2 (ji29)) 18).bind fun t109 => (if 0 ≤ (wrap64 (x7_2 - 7)) then (if (wrap64 (x7_2 - 7)) < (x5_2.length : Int) then ((spec_l02Turn.f (rd x5_2 (ji32)) 17).bind fun t111 => ((spec_l02Turn.f (rd x5_2 (ji32)) 19).bind fun t112 => (if 0 ≤ x7_2 then (if x7_2 < (x5_2.length : Int) then (spec_l02Block.l1 k2 l0 (x5_2.set (x7_2 : Int).toNat (((((rd x5_2 (wrap64 (x7_2 - 16))) + (Go.bits .xor .u32 (Go.bits .xor .u32 t108 t109) ((rd x5_2 (ji29)) / 8))) + (rd x5_2 (wrap64 (x7_2 - 7)))) + (Go.bits .xor .u32 (Go.bits .xor .u32 t111 t112) ((rd x5_2 (ji32)) / 1024))) % 4294967296)) (wrap64 (x7_2 + 1))) else (none)) else (none)))) else (none)) else (none)))) else (none)) else (none)) else (none)) else (none)) = some r := by first | (rw [hji32] at H; exact H) | (simp only [hji32] at H ⊢; exact H)
         have hji32w : (IntKind.i64.wrap (x7_2 - 2)) = ji32 := (i64_w _).trans hji32
         by_cases c33 : 0 ≤ (ji32)
         ·
          rw [if_pos c33] at H
          have c33b0 : decide (0 ≤ (ji32)) = true := decide_eq_true c33
          clear c33
          by_cases c34 : (ji32) < (x5_2.length : Int)
          ·
           rw [if_pos c34] at H
           have c34b0 : decide ((ji32) < (x5_2.length : Int)) = true := decide_eq_true c34
           clear c34
           obtain ⟨ji35, hji35⟩ : ∃ j_ : Int, (wrap64 (x7_2 - 16)) = j_ := ⟨_, rfl⟩
           replace H : (if 0 ≤ (ji35) then (if (ji35) < (x5_2.length : Int) then ((spec_l02Turn.f (rd x5_2 (ji29)) 7).bind fun t108 => ((spec_l02Turn.f (rd x5_2 (ji29)) 18).bind fun t109 => (if 0 ≤ (wrap64 (x7_2 - 7)) then (if (wrap64 (x7_2 - 7)) < (x5_2.length : Int) then ((spec_l02Turn.f (rd x5_2 (ji32)) 17).bind fun t111 => ((spec_l02Turn.f (rd x5_2 (ji32)) 19).bind fun t112 => (if 0 ≤ x7_2 then (if x7_2 < (x5_2.length : Int) then (spec_l02Block.l1 k2 l0 (x5_2.set (x7_2 : Int).toNat (((((rd x5_2 (ji35)) + (Go.bits .xor .u32 (Go.bits .xor .u32 t108 t109) ((rd x5_2 (ji29)) / 8))) + (rd x5_2 (wrap64 (x7_2 - 7)))) + (Go.bits .xor .u32 (Go.bits .xor .u32 t111 t112) ((rd x5_2 (ji32)) / 1024))) % 4294967296)) (wrap64 (x7_2 + 1))) else (none)) else (none)))) else (none)) else (none)))) else (none)) else (none)) = some r := by first | (rw [hji35] at H; exact H) | (simp only [hji35] at H ⊢; exact H)
           have hji35w : (IntKind.i64.wrap (x7_2 - 16)) = ji35 := (i64_w _).trans hji35
           by_cases c36 : 0 ≤ (ji35)
           ·
            rw [if_pos c36] at H
            have c36b0 : decide (0 ≤ (ji35)) = true := decide_eq_true c36
            clear c36
            by_cases c37 : (ji35) < (x5_2.length : Int)
            ·
             rw [if_pos c37] at H
             have c37b0 : decide ((ji35) < (x5_2.length : Int)) = true := decide_eq_true c37
             clear c37
             replace H := Option.bind_eq_some_iff.mp H
             obtain ⟨t108, A380, H⟩ := H
             replace H : ((spec_l02Turn.f (rd x5_2 (ji29)) 18).bind fun t109 => (if 0 ≤ (wrap64 (x7_2 - 7)) then (if (wrap64 (x7_2 - 7)) < (x5_2.length : Int) then ((spec_l02Turn.f (rd x5_2 (ji32)) 17).bind fun t111 => ((spec_l02Turn.f (rd x5_2 (ji32)) 19).bind fun t112 => (if 0 ≤ x7_2 then (if x7_2 < (x5_2.length : Int) then (spec_l02Block.l1 k2 l0 (x5_2.set (x7_2 : Int).toNat (((((rd x5_2 (ji35)) + (Go.bits .xor .u32 (Go.bits .xor .u32 t108 t109) ((rd x5_2 (ji29)) / 8))) + (rd x5_2 (wrap64 (x7_2 - 7)))) + (Go.bits .xor .u32 (Go.bits .xor .u32 t111 t112) ((rd x5_2 (ji32)) / 1024))) % 4294967296)) (wrap64 (x7_2 + 1))) else (none)) else (none)))) else (none)) else (none))) = some r := H
             have A38 := AM A380
             clear A380
             replace H := Option.bind_eq_some_iff.mp H
             obtain ⟨t109, A390, H⟩ := H
             replace H : (if 0 ≤ (wrap64 (x7_2 - 7)) then (if (wrap64 (x7_2 - 7)) < (x5_2.length : Int) then ((spec_l02Turn.f (rd x5_2 (ji32)) 17).bind fun t111 => ((spec_l02Turn.f (rd x5_2 (ji32)) 19).bind fun t112 => (if 0 ≤ x7_2 then (if x7_2 < (x5_2.length : Int) then (spec_l02Block.l1 k2 l0 (x5_2.set (x7_2 : Int).toNat (((((rd x5_2 (ji35)) + (Go.bits .xor .u32 (Go.bits .xor .u32 t108 t109) ((rd x5_2 (ji29)) / 8))) + (rd x5_2 (wrap64 (x7_2 - 7)))) + (Go.bits .xor .u32 (Go.bits .xor .u32 t111 t112) ((rd x5_2 (ji32)) / 1024))) % 4294967296)) (wrap64 (x7_2 + 1))) else (none)) else (none)))) else (none)) else (none)) = some r := H
             have A39 := AM A390
             clear A390
             obtain ⟨ji40, hji40⟩ : ∃ j_ : Int, (wrap64 (x7_2 - 7)) = j_ := ⟨_, rfl⟩
             replace H : (if 0 ≤ (ji40) then (if (ji40) < (x5_2.length : Int) then ((spec_l02Turn.f (rd x5_2 (ji32)) 17).bind fun t111 => ((spec_l02Turn.f (rd x5_2 (ji32)) 19).bind fun t112 => (if 0 ≤ x7_2 then (if x7_2 < (x5_2.length : Int) then (spec_l02Block.l1 k2 l0 (x5_2.set (x7_2 : Int).toNat (((((rd x5_2 (ji35)) + (Go.bits .xor .u32 (Go.bits .xor .u32 t108 t109) ((rd x5_2 (ji29)) / 8))) + (rd x5_2 (ji40))) + (Go.bits .xor .u32 (Go.bits .xor .u32 t111 t112) ((rd x5_2 (ji32)) / 1024))) % 4294967296)) (wrap64 (x7_2 + 1))) else (none)) else (none)))) else (none)) else (none)) = some r := by first | (rw [hji40] at H; exact H) | (simp only [hji40] at H ⊢; exact H)
             (try rw [hji40] at A38)
             (try rw [hji40] at A39)
             have hji40w : (IntKind.i64.wrap (x7_2 - 7)) = ji40 := (i64_w _).trans hji40
             by_cases c41 : 0 ≤ (ji40)
             ·
              rw [if_pos c41] at H
              have c41b0 : decide (0 ≤ (ji40)) = true := decide_eq_true c41
              clear c41
              by_cases c42 : (ji40) < (x5_2.length : Int)
              ·
               rw [if_pos c42] at H
               have c42b0 : decide ((ji40) < (x5_2.length : Int)) = true := decide_eq_true c42
               clear c42
               replace H := Option.bind_eq_some_iff.mp H
               obtain ⟨t111, A430, H⟩ := H
               replace H : ((spec_l02Turn.f (rd x5_2 (ji32)) 19).bind fun t112 => (if 0 ≤ x7_2 then (if x7_2 < (x5_2.length : Int) then (spec_l02Block.l1 k2 l0 (x5_2.set (x7_2 : Int).toNat (((((rd x5_2 (ji35)) + (Go.bits .xor .u32 (Go.bits .xor .u32 t108 t109) ((rd x5_2 (ji29)) / 8))) + (rd x5_2 (ji40))) + (Go.bits .xor .u32 (Go.bits .xor .u32 t111 t112) ((rd x5_2 (ji32)) / 1024))) % 4294967296)) (wrap64 (x7_2 + 1))) else (none)) else (none))) = some r := H
               have A43 := AM A430
               clear A430
               replace H := Option.bind_eq_some_iff.mp H
               obtain ⟨t112, A440, H⟩ := H
               replace H : (if 0 ≤ x7_2 then (if x7_2 < (x5_2.length : Int) then (spec_l02Block.l1 k2 l0 (x5_2.set (x7_2 : Int).toNat (((((rd x5_2 (ji35)) + (Go.bits .xor .u32 (Go.bits .xor .u32 t108 t109) ((rd x5_2 (ji29)) / 8))) + (rd x5_2 (ji40))) + (Go.bits .xor .u32 (Go.bits .xor .u32 t111 t112) ((rd x5_2 (ji32)) / 1024))) % 4294967296)) (wrap64 (x7_2 + 1))) else (none)) else (none)) = some r := H
               have A44 := AM A440
               clear A440
               by_cases c45 : 0 ≤ x7_2
               ·
                rw [if_pos c45] at H
                have c45b0 : decide (0 ≤ x7_2) = true := decide_eq_true c45
                clear c45
                by_cases c46 : x7_2 < (x5_2.length : Int)
                ·
                 rw [if_pos c46] at H
                 have c46b0 : decide (x7_2 < (x5_2.length : Int)) = true := decide_eq_true c46
                 clear c46
                 obtain ⟨y113, hy113⟩ : ∃ y_ : List Int, y_ = (x5_2.set (x7_2 : Int).toNat (((((rd x5_2 (ji35)) + (Go.bits .xor .u32 (Go.bits .xor .u32 t108 t109) ((rd x5_2 (ji29)) / 8))) + (rd x5_2 (ji40))) + (Go.bits .xor .u32 (Go.bits .xor .u32 t111 t112) ((rd x5_2 (ji32)) / 1024))) % 4294967296)) := ⟨_, rfl⟩
                 replace H : (spec_l02Block.l1 k2 l0 y113 (wrap64 (x7_2 + 1))) = some r := by first | (rw [hy113]; with_reducible exact H) | (have H2_ := (Option.bind_some _ _).symm.trans H; rw [hy113]; with_reducible exact H2_) | (have H2_ := (Option.bind_some _ _).symm.trans H; with_reducible exact H2_) | with_reducible exact H | (rw [hy113]; exact H) | exact H
                 have Ny113 := AM hy113
                 clear hy113
                 have H' := AM H
                 clear H
                 obtain ⟨Ao48, co48, eo48⟩ := Kd.R_slice HO_5.out
                 subst eo48
                 have p105 : 0 ≤ ((ji29) : Int) := of_decide_eq_true (by assumption)
                 have q105 : (ji29) < (x5_2.length : Int) := of_decide_eq_true (by assumption)
                 obtain ⟨ad105, e105, hx105_0⟩ := Kd.at_int (Kd.R_reads' HO_5.out).2.2 (ji29) p105 q105
                 cases e105
                 replace p105 := eq_true p105
                 replace q105 := eq_true q105
                 have p106 : 0 ≤ ((ji32) : Int) := of_decide_eq_true (by assumption)
                 have q106 : (ji32) < (x5_2.length : Int) := of_decide_eq_true (by assumption)
                 obtain ⟨ad106, e106, hx106_0⟩ := Kd.at_int (Kd.R_reads' HO_5.out).2.2 (ji32) p106 q106
                 obtain rfl : ad105 = ad106 := (by injection e106)
                 replace p106 := eq_true p106
                 replace q106 := eq_true q106
                 try go_wp2
                 have _ := AM (rD HO_5.out)
                 have _ := AM (bD HB.out)
                 clear HO_5 HB
                 rename_i HO_5 HB
                 have p107 : 0 ≤ ((ji35) : Int) := of_decide_eq_true (by assumption)
                 have q107 : (ji35) < (x5_2.length : Int) := of_decide_eq_true (by assumption)
                 obtain ⟨ad107, e107, hx107_0⟩ := Kd.at_int (Kd.R_reads' HO_5.out).2.2 (ji35) p107 q107
                 obtain rfl : ad105 = ad107 := (by injection e107)
                 replace p107 := eq_true p107
                 replace q107 := eq_true q107
                 have p110 : 0 ≤ ((ji40) : Int) := of_decide_eq_true (by assumption)
                 have q110 : (ji40) < (x5_2.length : Int) := of_decide_eq_true (by assumption)
                 obtain ⟨ad110, e110, hx110_0⟩ := Kd.at_int (Kd.R_reads' HO_5.out).2.2 (ji40) p110 q110
                 obtain rfl : ad105 = ad110 := (by injection e110)
                 replace p110 := eq_true p110
                 replace q110 := eq_true q110
                 refine start_ (n := 33) (S := fun w' => w'.cell? (ad105.add ((ji35)).toNat) = some (.int .u32 (rd x5_2 (ji35))) ∧ w'.cell? (ad105.add ((ji40)).toNat) = some (.int .u32 (rd x5_2 (ji40)))) (ds := [32]) (upTo 0 33) (by kernel_rfl) rfl rfl ⟨hx107_0, hx110_0⟩ (fun hHeld => ?_); refine with_tabW spec_l02Block.tab11 spec_l02Block.bits11 (fun HT_ HW_ => ?_)
                 generalize wr.drew = w49 at HO_5 HB hx107_0 hx110_0 hHeld ⊢
                 refine pF 0 1 33 76 ?_
                 refine pF 1 2 33 77 ?_
                 refine pF 2 3 33 78 ?_
                 refine pF 3 4 33 79 ?_
                 refine pF 4 5 33 80 ?_
                 refine pF 5 6 33 81 ?_
                 refine pF2 7 83 spec_l02Block.b22 ?_
                 refine pF2 9 85 spec_l02Block.b23 ?_
                 refine pF2 12 88 spec_l02Block.b24 ?_
                 refine pF2 13 89 spec_l02Block.b25 ?_
                 refine pF2 16 92 spec_l02Block.b26 ?_
                 refine pF2 17 93 spec_l02Block.b27 ?_
                 refine pF2 18 94 spec_l02Block.b28 ?_
                 refine pF2 19 95 spec_l02Block.b29 ?_
                 refine pF2 22 98 spec_l02Block.b30 ?_
                 refine pF2 24 100 spec_l02Block.b31 ?_
                 refine pF2 27 103 spec_l02Block.b32 ?_
                 refine pF2 28 104 spec_l02Block.b33 ?_
                 refine pT2 6 82 spec_l02Block.b34 ?_ hHeld
                 refine pT2 20 96 spec_l02Block.b35 ?_ hHeld
                 refine one_ (i := 8) (N := some 84) spec_l02Block.b36 rfl rfl (one_of HT_.out (by kernel_rfl)) (by decide) (fun K hK => ?_)
                 refine goes_ Tryd.func55 (by kernel_rfl) rfl #[.int .u32 (rd x5_2 (ji29)), .int .u64 7] (by rfl) rfl rfl (by (try simp only [mA, mB, mC]); first | done | (simp only [hji29]; rfl) | rfl | (simp only [mD, mE]; rfl)) ?_
                 with_reducible refine (spec_l02Turn.calls (rd x5_2 (ji29)) 7 t108 _ A38.out).mono ?_
                 rintro e w' ⟨rfl, ⟨nd, rfl⟩⟩
                 refine ⟨_, rfl, ?_⟩
                 refine hK.out _ _ ⟨hHeld.1, hHeld.2⟩ (fun hHeld => ?_)
                 clear hK K
                 refine norm_ (a' := ?_) ?_ ?_
                 rotate_left
                 ·
                  show Act.put _ (some 84) _ = _
                  simp only [Act.put, sA, sB, sC, i64_w, i32_w]
                  rfl
                 refine one_ (i := 10) (N := some 86) spec_l02Block.b37 rfl rfl (one_of HT_.out (by kernel_rfl)) (by decide) (fun K hK => ?_)
                 refine goes_ Tryd.func55 (by kernel_rfl) rfl #[.int .u32 (rd x5_2 (ji29)), .int .u64 18] (by rfl) rfl rfl (by (try simp only [mA, mB, mC]); first | done | (simp only [hji29]; rfl) | rfl | (simp only [mD, mE]; rfl)) ?_
                 with_reducible refine (spec_l02Turn.calls (rd x5_2 (ji29)) 18 t109 _ A39.out).mono ?_
                 rintro e w' ⟨rfl, ⟨nd, rfl⟩⟩
                 refine ⟨_, rfl, ?_⟩
                 refine hK.out _ _ ⟨hHeld.1, hHeld.2⟩ (fun hHeld => ?_)
                 clear hK K
                 refine norm_ (a' := ?_) ?_ ?_
                 rotate_left
                 ·
                  show Act.put _ (some 86) _ = _
                  simp only [Act.put, sA, sB, sC, i64_w, i32_w]
                  rfl
                 refine pF2 11 87 spec_l02Block.b38 ?_
                 refine pF2 14 90 spec_l02Block.b39 ?_
                 refine pF2 15 91 spec_l02Block.b40 ?_
                 refine pF2 21 97 spec_l02Block.b41 ?_
                 refine one_ (i := 23) (N := some 99) spec_l02Block.b42 rfl rfl (one_of HT_.out (by kernel_rfl)) (by decide) (fun K hK => ?_)
                 refine goes_ Tryd.func55 (by kernel_rfl) rfl #[.int .u32 (rd x5_2 (ji32)), .int .u64 17] (by rfl) rfl rfl (by (try simp only [mA, mB, mC]); first | done | (simp only [hji32]; rfl) | rfl | (simp only [mD, mE]; rfl)) ?_
                 with_reducible refine (spec_l02Turn.calls (rd x5_2 (ji32)) 17 t111 _ A43.out).mono ?_
                 rintro e w' ⟨rfl, ⟨nd, rfl⟩⟩
                 refine ⟨_, rfl, ?_⟩
                 refine hK.out _ _ ⟨hHeld.1, hHeld.2⟩ (fun hHeld => ?_)
                 clear hK K
                 refine norm_ (a' := ?_) ?_ ?_
                 rotate_left
                 ·
                  show Act.put _ (some 99) _ = _
                  simp only [Act.put, sA, sB, sC, i64_w, i32_w]
                  rfl
                 refine one_ (i := 25) (N := some 101) spec_l02Block.b43 rfl rfl (one_of HT_.out (by kernel_rfl)) (by decide) (fun K hK => ?_)
                 refine goes_ Tryd.func55 (by kernel_rfl) rfl #[.int .u32 (rd x5_2 (ji32)), .int .u64 19] (by rfl) rfl rfl (by (try simp only [mA, mB, mC]); first | done | (simp only [hji32]; rfl) | rfl | (simp only [mD, mE]; rfl)) ?_
                 with_reducible refine (spec_l02Turn.calls (rd x5_2 (ji32)) 19 t112 _ A44.out).mono ?_
                 rintro e w' ⟨rfl, ⟨nd, rfl⟩⟩
                 refine ⟨_, rfl, ?_⟩
                 have p47 : 0 ≤ (x7_2 : Int) := of_decide_eq_true (by assumption)
                 have q47 : (x7_2 : Int) < ((x5_2.length : Int) : Int) := of_decide_eq_true (by assumption)
                 obtain ⟨go47, co47, eo47, gb47, gl47, cl47, HG47⟩ := Kd.R_form HO_5.out (by omega)
                 (first | cases eo47 | (injection eo47 with ea_ en_ ec_; (first | subst ea_ | (injection ea_ with ea_; subst ea_)); subst ec_; clear en_))
                 have GB47 := AM gb47
                 have GG47 := AM HG47
                 clear gb47 gl47 HG47
                 (first | simp only [add_plain] at hx105_0 | skip)
                 (first | simp only [add_plain] at hx106_0 | skip)
                 (first | simp only [add_plain] at hx107_0 | skip)
                 (first | simp only [add_plain] at hx110_0 | skip)
                 obtain ⟨hx47_0, hf47_0⟩ := Kd.R_celln 0 HO_5.out (x7_2 : Int) p47 q47
                 replace p47 := eq_true p47
                 replace q47 := eq_true q47
                 have HP50 := Kd.R_putn HO_5.out (x7_2 : Int) (((((rd x5_2 (ji35)) + (Go.bits .xor .u32 (Go.bits .xor .u32 t108 t109) ((rd x5_2 (ji29)) / 8))) + (rd x5_2 (ji40))) + (Go.bits .xor .u32 (Go.bits .xor .u32 t111 t112) ((rd x5_2 (ji32)) / 1024))) % 4294967296)
                 rw [← Ny113.out] at HP50
                 have HQ50 := AM HP50
                 clear HP50
                 refine hK.out _ _ ⟨hHeld.1, hHeld.2⟩ (fun hHeld => ?_)
                 clear hK K
                 refine norm_ (a' := ?_) ?_ ?_
                 rotate_left
                 ·
                  show Act.put _ (some 101) _ = _
                  simp only [Act.put, sA, sB, sC, i64_w, i32_w]
                  rfl
                 refine pF2 26 102 (upTo 29 33) ?_
                 refine pF 29 30 33 105 ?_
                 refine pF 30 31 33 106 ?_
                 refine pF 31 32 33 107 ?_
                 refine last_ (i := 32) (N := none) (upTo 33 33) rfl rfl (one_of HT_.out (by kernel_rfl)) (by decide) (fun K hK => ?_)
                 refine skip_ (w1 := ?_) (by rfl) rfl ?_ ?_
                 rotate_left
                 ·
                  go_simp
                  rfl
                 refine hK.out _ _ ?_
                 clear hK K
                 refine done_ (done_of HT_.out (by kernel_rfl)) ?_
                 try go_wp2
                 go_roundg k2
                 case measure => have := HK1.out; have := HK2.out; omega
                 case rel => exact ⟨(y113), (wrap64 (x7_2 + 1)), (by first | rfl | (simp; done) | (simp [*]; done)), H', ⟨by have := HK1.out; have := HK2.out; omega⟩, ⟨rX HQ50.out⟩, ⟨by repeat (first | (with_reducible first | exact HB.out | apply bA | apply bN | apply bD | refine bS ?_ GB47.out) | exact HB.out)⟩⟩
                rw [if_neg c46] at H
                exact absurd H (by simp)
               rw [if_neg c45] at H
               exact absurd H (by simp)
              rw [if_neg c42] at H
              exact absurd H (by simp)
             rw [if_neg c41] at H
             exact absurd H (by simp)
            rw [if_neg c37] at H
            exact absurd H (by simp)
           rw [if_neg c36] at H
           exact absurd H (by simp)
          rw [if_neg c34] at H
          exact absurd H (by simp)
         rw [if_neg c33] at H
         exact absurd H (by simp)
        rw [if_neg c31] at H
        exact absurd H (by simp)
       rw [if_neg c30] at H
       exact absurd H (by simp)
      rw [if_neg c28] at H
      have c28b0 : decide (x7_2 < 64) = false := decide_eq_false c28
      clear c28
      by_cases c51 : 0 < (l0.length : Int)
      ·
       rw [if_pos c51] at H
       have c51b0 : decide (0 < (l0.length : Int)) = true := decide_eq_true c51
       have c51b1 : decide (0 < l0.length) = true := decide_eq_true (by omega)
       clear c51
       by_cases c52 : 1 < (l0.length : Int)
       ·
        rw [if_pos c52] at H
        have c52b0 : decide (1 < (l0.length : Int)) = true := decide_eq_true c52
        have c52b1 : decide (1 < l0.length) = true := decide_eq_true (by omega)
        clear c52
        by_cases c53 : 2 < (l0.length : Int)
        ·
         rw [if_pos c53] at H
         have c53b0 : decide (2 < (l0.length : Int)) = true := decide_eq_true c53
         have c53b1 : decide (2 < l0.length) = true := decide_eq_true (by omega)
         clear c53
         by_cases c54 : 3 < (l0.length : Int)
         ·
          rw [if_pos c54] at H
          have c54b0 : decide (3 < (l0.length : Int)) = true := decide_eq_true c54
          have c54b1 : decide (3 < l0.length) = true := decide_eq_true (by omega)
          clear c54
          by_cases c55 : 4 < (l0.length : Int)
          ·
           rw [if_pos c55] at H
           have c55b0 : decide (4 < (l0.length : Int)) = true := decide_eq_true c55
           have c55b1 : decide (4 < l0.length) = true := decide_eq_true (by omega)
           clear c55
           by_cases c56 : 5 < (l0.length : Int)
           ·
            rw [if_pos c56] at H
            have c56b0 : decide (5 < (l0.length : Int)) = true := decide_eq_true c56
            have c56b1 : decide (5 < l0.length) = true := decide_eq_true (by omega)
            clear c56
            by_cases c57 : 6 < (l0.length : Int)
            ·
             rw [if_pos c57] at H
             have c57b0 : decide (6 < (l0.length : Int)) = true := decide_eq_true c57
             have c57b1 : decide (6 < l0.length) = true := decide_eq_true (by omega)
             clear c57
             by_cases c58 : 7 < (l0.length : Int)
             ·
              rw [if_pos c58] at H
              have c58b0 : decide (7 < (l0.length : Int)) = true := decide_eq_true c58
              have c58b1 : decide (7 < l0.length) = true := decide_eq_true (by omega)
              clear c58
              replace H := Option.bind_eq_some_iff.mp H
              obtain ⟨t122, A590, H⟩ := H
              replace H : (spec_l02Block.l2 k2 l0 x5_2 ((rd l0 0) % 4294967296) ((rd l0 1) % 4294967296) ((rd l0 2) % 4294967296) ((rd l0 3) % 4294967296) ((rd l0 4) % 4294967296) ((rd l0 5) % 4294967296) ((rd l0 6) % 4294967296) ((rd l0 7) % 4294967296) t122 0) = some r := H
              have A59 := AM A590
              clear A590
              have H' := AM H
              clear H
              try go_wp2
              have _ := AM (rD HO_5.out)
              have _ := AM (bD HB.out)
              clear HO_5 HB
              rename_i HO_5 HB
              have p114 : 0 ≤ (0 : Int) := (by omega)
              have q114 : 0 < (l0.length : Int) := of_decide_eq_true (by assumption)
              obtain ⟨ad114, e114, hx114_0⟩ := Kd.at_int HR0.out 0 p114 q114
              have hw114_0 := hx114_0
              (try rw [show ((0 : Int)).toNat = 0 from rfl] at hw114_0)
              (try rw [show 0 * 1 = 0 from rfl] at hw114_0)
              (try rw [Addr.add_zero'] at hw114_0)
              cases e114
              have qi114 : (0 < l0.length) = True := eq_true (by omega)
              (try rw [show ((0 : Int)).toNat = 0 from rfl] at hx114_0)
              (try rw [Addr.add_zero'] at hx114_0)
              replace hx114_0 := pw_cell_below HB.out hx114_0
              replace p114 := eq_true p114
              replace q114 := eq_true q114
              have p115 : 0 ≤ (1 : Int) := (by omega)
              have q115 : 1 < (l0.length : Int) := of_decide_eq_true (by assumption)
              obtain ⟨ad115, e115, hx115_0⟩ := Kd.at_int HR0.out 1 p115 q115
              have hw115_0 := hx115_0
              (try rw [show ((1 : Int)).toNat = 1 from rfl] at hw115_0)
              (try rw [show 1 * 1 = 1 from rfl] at hw115_0)
              (try simp only [Nat.reduceMul, Nat.reduceEqDiff, Go.Addr.add, ↓reduceIte] at hw115_0)
              obtain rfl : ad114 = ad115 := (by injection e115)
              (try simp only [show (1 : Int).toNat = 1 from rfl, Nat.reduceMul, Nat.reduceEqDiff, Go.Addr.add, ↓reduceIte] at hx115_0)
              have qi115 : (1 < l0.length) = True := eq_true (by omega)
              (try rw [show ((1 : Int)).toNat = 1 from rfl] at hx115_0)
              replace hx115_0 := pw_cell_below HB.out hx115_0
              replace p115 := eq_true p115
              replace q115 := eq_true q115
              have p116 : 0 ≤ (2 : Int) := (by omega)
              have q116 : 2 < (l0.length : Int) := of_decide_eq_true (by assumption)
              obtain ⟨ad116, e116, hx116_0⟩ := Kd.at_int HR0.out 2 p116 q116
              have hw116_0 := hx116_0
              (try rw [show ((2 : Int)).toNat = 2 from rfl] at hw116_0)
              (try rw [show 2 * 1 = 2 from rfl] at hw116_0)
              (try simp only [Nat.reduceMul, Nat.reduceEqDiff, Go.Addr.add, ↓reduceIte] at hw116_0)
              obtain rfl : ad114 = ad116 := (by injection e116)
              (try simp only [show (2 : Int).toNat = 2 from rfl, Nat.reduceMul, Nat.reduceEqDiff, Go.Addr.add, ↓reduceIte] at hx116_0)
              have qi116 : (2 < l0.length) = True := eq_true (by omega)
              (try rw [show ((2 : Int)).toNat = 2 from rfl] at hx116_0)
              replace hx116_0 := pw_cell_below HB.out hx116_0
              replace p116 := eq_true p116
              replace q116 := eq_true q116
              have p117 : 0 ≤ (3 : Int) := (by omega)
              have q117 : 3 < (l0.length : Int) := of_decide_eq_true (by assumption)
              obtain ⟨ad117, e117, hx117_0⟩ := Kd.at_int HR0.out 3 p117 q117
              have hw117_0 := hx117_0
              (try rw [show ((3 : Int)).toNat = 3 from rfl] at hw117_0)
              (try rw [show 3 * 1 = 3 from rfl] at hw117_0)
              (try simp only [Nat.reduceMul, Nat.reduceEqDiff, Go.Addr.add, ↓reduceIte] at hw117_0)
              obtain rfl : ad114 = ad117 := (by injection e117)
              (try simp only [show (3 : Int).toNat = 3 from rfl, Nat.reduceMul, Nat.reduceEqDiff, Go.Addr.add, ↓reduceIte] at hx117_0)
              have qi117 : (3 < l0.length) = True := eq_true (by omega)
              (try rw [show ((3 : Int)).toNat = 3 from rfl] at hx117_0)
              replace hx117_0 := pw_cell_below HB.out hx117_0
              replace p117 := eq_true p117
              replace q117 := eq_true q117
              refine start_ (n := 20) (S := fun w' => w'.cell? ad114 = some (.int .i64 (rd l0 0)) ∧ w'.cell? ⟨ad114.block, ad114.off + 1, none⟩ = some (.int .i64 (rd l0 1)) ∧ w'.cell? ⟨ad114.block, ad114.off + 2, none⟩ = some (.int .i64 (rd l0 2)) ∧ w'.cell? ⟨ad114.block, ad114.off + 3, none⟩ = some (.int .i64 (rd l0 3))) (ds := []) (upTo 0 20) (by kernel_rfl) rfl rfl ⟨(pw_cell_below HB.out hw114_0), (pw_cell_below HB.out hw115_0), (pw_cell_below HB.out hw116_0), (pw_cell_below HB.out hw117_0)⟩ (fun hHeld => ?_); refine with_tabW spec_l02Block.tab12 spec_l02Block.bits12 (fun HT_ HW_ => ?_)
              generalize wr.drew = w60 at HO_5 HB hx114_0 hx115_0 hx116_0 hx117_0 hHeld ⊢
              refine pF 0 1 20 108 ?_
              refine pF 1 2 20 109 ?_
              refine pF2 4 112 spec_l02Block.b44 ?_
              refine pF2 5 113 spec_l02Block.b45 ?_
              refine pF2 8 116 spec_l02Block.b46 ?_
              refine pF2 9 117 spec_l02Block.b47 ?_
              refine pF2 12 120 spec_l02Block.b48 ?_
              refine pF2 13 121 spec_l02Block.b49 ?_
              refine pT2 2 110 spec_l02Block.b50 ?_ hHeld
              refine pF2 3 111 spec_l02Block.b51 ?_
              refine pF2 16 10 spec_l02Block.b52 ?_
              refine pT2 6 114 spec_l02Block.b53 ?_ hHeld
              refine pF2 7 115 spec_l02Block.b54 ?_
              refine pF2 17 11 spec_l02Block.b55 ?_
              refine pT2 10 118 spec_l02Block.b56 ?_ hHeld
              refine pF2 11 119 spec_l02Block.b57 ?_
              refine pF2 18 12 spec_l02Block.b58 ?_
              refine pT2 14 122 spec_l02Block.b59 ?_ hHeld
              refine pF2 15 123 (upTo 19 20) ?_
              refine pF 19 20 20 13 ?_
              refine done_ (done_of HT_.out (by kernel_rfl)) ?_
              try go_wp2
              have _ := AM (rD HO_5.out)
              have _ := AM (bD HB.out)
              clear HO_5 HB
              rename_i HO_5 HB
              have p118 : 0 ≤ (4 : Int) := (by omega)
              have q118 : 4 < (l0.length : Int) := of_decide_eq_true (by assumption)
              obtain ⟨ad118, e118, hx118_0⟩ := Kd.at_int HR0.out 4 p118 q118
              have hw118_0 := hx118_0
              (try rw [show ((4 : Int)).toNat = 4 from rfl] at hw118_0)
              (try rw [show 4 * 1 = 4 from rfl] at hw118_0)
              (try simp only [Nat.reduceMul, Nat.reduceEqDiff, Go.Addr.add, ↓reduceIte] at hw118_0)
              obtain rfl : ad114 = ad118 := (by injection e118)
              (try simp only [show (4 : Int).toNat = 4 from rfl, Nat.reduceMul, Nat.reduceEqDiff, Go.Addr.add, ↓reduceIte] at hx118_0)
              have qi118 : (4 < l0.length) = True := eq_true (by omega)
              (try rw [show ((4 : Int)).toNat = 4 from rfl] at hx118_0)
              replace hx118_0 := pw_cell_below HB.out hx118_0
              replace p118 := eq_true p118
              replace q118 := eq_true q118
              have p119 : 0 ≤ (5 : Int) := (by omega)
              have q119 : 5 < (l0.length : Int) := of_decide_eq_true (by assumption)
              obtain ⟨ad119, e119, hx119_0⟩ := Kd.at_int HR0.out 5 p119 q119
              have hw119_0 := hx119_0
              (try rw [show ((5 : Int)).toNat = 5 from rfl] at hw119_0)
              (try rw [show 5 * 1 = 5 from rfl] at hw119_0)
              (try simp only [Nat.reduceMul, Nat.reduceEqDiff, Go.Addr.add, ↓reduceIte] at hw119_0)
              obtain rfl : ad114 = ad119 := (by injection e119)
              (try simp only [show (5 : Int).toNat = 5 from rfl, Nat.reduceMul, Nat.reduceEqDiff, Go.Addr.add, ↓reduceIte] at hx119_0)
              have qi119 : (5 < l0.length) = True := eq_true (by omega)
              (try rw [show ((5 : Int)).toNat = 5 from rfl] at hx119_0)
              replace hx119_0 := pw_cell_below HB.out hx119_0
              replace p119 := eq_true p119
              replace q119 := eq_true q119
              have p120 : 0 ≤ (6 : Int) := (by omega)
              have q120 : 6 < (l0.length : Int) := of_decide_eq_true (by assumption)
              obtain ⟨ad120, e120, hx120_0⟩ := Kd.at_int HR0.out 6 p120 q120
              have hw120_0 := hx120_0
              (try rw [show ((6 : Int)).toNat = 6 from rfl] at hw120_0)
              (try rw [show 6 * 1 = 6 from rfl] at hw120_0)
              (try simp only [Nat.reduceMul, Nat.reduceEqDiff, Go.Addr.add, ↓reduceIte] at hw120_0)
              obtain rfl : ad114 = ad120 := (by injection e120)
              (try simp only [show (6 : Int).toNat = 6 from rfl, Nat.reduceMul, Nat.reduceEqDiff, Go.Addr.add, ↓reduceIte] at hx120_0)
              have qi120 : (6 < l0.length) = True := eq_true (by omega)
              (try rw [show ((6 : Int)).toNat = 6 from rfl] at hx120_0)
              replace hx120_0 := pw_cell_below HB.out hx120_0
              replace p120 := eq_true p120
              replace q120 := eq_true q120
              have p121 : 0 ≤ (7 : Int) := (by omega)
              have q121 : 7 < (l0.length : Int) := of_decide_eq_true (by assumption)
              obtain ⟨ad121, e121, hx121_0⟩ := Kd.at_int HR0.out 7 p121 q121
              have hw121_0 := hx121_0
              (try rw [show ((7 : Int)).toNat = 7 from rfl] at hw121_0)
              (try rw [show 7 * 1 = 7 from rfl] at hw121_0)
              (try simp only [Nat.reduceMul, Nat.reduceEqDiff, Go.Addr.add, ↓reduceIte] at hw121_0)
              obtain rfl : ad114 = ad121 := (by injection e121)
              (try simp only [show (7 : Int).toNat = 7 from rfl, Nat.reduceMul, Nat.reduceEqDiff, Go.Addr.add, ↓reduceIte] at hx121_0)
              have qi121 : (7 < l0.length) = True := eq_true (by omega)
              (try rw [show ((7 : Int)).toNat = 7 from rfl] at hx121_0)
              replace hx121_0 := pw_cell_below HB.out hx121_0
              replace p121 := eq_true p121
              replace q121 := eq_true q121
              refine start_ (n := 20) (S := fun w' => w'.cell? ⟨ad114.block, ad114.off + 4, none⟩ = some (.int .i64 (rd l0 4)) ∧ w'.cell? ⟨ad114.block, ad114.off + 5, none⟩ = some (.int .i64 (rd l0 5)) ∧ w'.cell? ⟨ad114.block, ad114.off + 6, none⟩ = some (.int .i64 (rd l0 6)) ∧ w'.cell? ⟨ad114.block, ad114.off + 7, none⟩ = some (.int .i64 (rd l0 7))) (ds := []) (upTo 0 20) (by kernel_rfl) rfl rfl ⟨(pw_cell_below HB.out hw118_0), (pw_cell_below HB.out hw119_0), (pw_cell_below HB.out hw120_0), (pw_cell_below HB.out hw121_0)⟩ (fun hHeld => ?_); refine with_tabW spec_l02Block.tab13 spec_l02Block.bits13 (fun HT_ HW_ => ?_)
              generalize w60.drew = w61 at HO_5 HB hx118_0 hx119_0 hx120_0 hx121_0 hHeld ⊢
              refine pF 0 1 20 124 ?_
              refine pF 1 2 20 125 ?_
              refine pF2 4 128 spec_l02Block.b44 ?_
              refine pF2 5 129 spec_l02Block.b45 ?_
              refine pF2 8 132 spec_l02Block.b46 ?_
              refine pF2 9 133 spec_l02Block.b47 ?_
              refine pF2 12 136 spec_l02Block.b48 ?_
              refine pF2 13 137 spec_l02Block.b49 ?_
              refine pT2 2 126 spec_l02Block.b50 ?_ hHeld
              refine pF2 3 127 spec_l02Block.b51 ?_
              refine pF2 16 14 spec_l02Block.b52 ?_
              refine pT2 6 130 spec_l02Block.b53 ?_ hHeld
              refine pF2 7 131 spec_l02Block.b54 ?_
              refine pF2 17 15 spec_l02Block.b55 ?_
              refine pT2 10 134 spec_l02Block.b56 ?_ hHeld
              refine pF2 11 135 spec_l02Block.b57 ?_
              refine pF2 18 16 spec_l02Block.b58 ?_
              refine pT2 14 138 spec_l02Block.b59 ?_ hHeld
              refine pF2 15 139 (upTo 19 20) ?_
              refine pF 19 20 20 17 ?_
              refine done_ (done_of HT_.out (by kernel_rfl)) ?_
              try go_wp2_with (first | ((with_reducible refine gate_callee (f := 56) rfl ?_); refine goesL_ (some 140) rfl rfl Tryd.func56 (by kernel_rfl) rfl #[] rfl (by (try simp only [mA, mB, mC]); first | done | rfl | (simp only [mD, mE]; rfl)) ?_; (with_reducible refine (spec_l02Keys.calls  t122 _ A59.out).mono ?_); rintro e w62 ⟨v123, rfl, ho0, hb⟩; refine ⟨_, rfl, ?_⟩; have _ := AM (Kd.R_elder' (rX HO_5.out) (Kd.R_base ho0) hb); have _ := AM (Kd.R_lower (Kd.R_new' ho0 (Kd.R_lt (rX HO_5.out))) (bZ (bX HB.out))); have _ := AM (below_step (bX HB.out) hb); clear HO_5 HB; rename_i HO_5 HO124 HB; (try clear hb); (try clear hk); (try clear ho0)))
              go_loopg [10, 11, 12, 13, 14, 15, 16, 17, 19] k2 (fun kq v10 v11 v12 v13 v14 v15 v16 v17 v19 w' => ∃ (x10_3 : Int) (x11_3 : Int) (x12_3 : Int) (x13_3 : Int) (x14_3 : Int) (x15_3 : Int) (x16_3 : Int) (x17_3 : Int) (x19_3 : Int), v10 = .int .u32 x10_3 ∧ v11 = .int .u32 x11_3 ∧ v12 = .int .u32 x12_3 ∧ v13 = .int .u32 x13_3 ∧ v14 = .int .u32 x14_3 ∧ v15 = .int .u32 x15_3 ∧ v16 = .int .u32 x16_3 ∧ v17 = .int .u32 x17_3 ∧ v19 = .int .i64 x19_3 ∧ Aside0 (spec_l02Block.l2 kq l0 x5_2 x10_3 x11_3 x12_3 x13_3 x14_3 x15_3 x16_3 x17_3 t122 x19_3 = some r) ∧ Aside0 (kq ≤ k2) ∧ Aside0 (Kd.R (Kd.int .u32) 67 w' w.heap.size (fun k_ => some k_ ≠ (v123 : Value).ownBlock) v102 x5_2) ∧ Aside0 (Kd.R (Kd.int .u32) 67 w' w.heap.size (fun k_ => some k_ ≠ (v102 : Value).ownBlock) v123 t122) ∧ Aside0 (Below w.heap.size w w'))
              case atStart => exact ⟨((rd l0 0) % 4294967296), ((rd l0 1) % 4294967296), ((rd l0 2) % 4294967296), ((rd l0 3) % 4294967296), ((rd l0 4) % 4294967296), ((rd l0 5) % 4294967296), ((rd l0 6) % 4294967296), ((rd l0 7) % 4294967296), (0), (by first | rfl | (simp; done) | (simp [*]; done)), (by first | rfl | (simp; done) | (simp [*]; done)), (by first | rfl | (simp; done) | (simp [*]; done)), (by first | rfl | (simp; done) | (simp [*]; done)), (by first | rfl | (simp; done) | (simp [*]; done)), (by first | rfl | (simp; done) | (simp [*]; done)), (by first | rfl | (simp; done) | (simp [*]; done)), (by first | rfl | (simp; done) | (simp [*]; done)), (by first | rfl | (simp; done) | (simp [*]; done)), H', ⟨Nat.le_refl _⟩, ⟨by (with_reducible repeat (first | apply rA | apply rN | apply rD)); exact Kd.R_mono HO_5.out (fun _ hk => hk.2)⟩, ⟨by (with_reducible repeat (first | apply rA | apply rN | apply rD)); exact Kd.R_mono HO124.out (fun _ hk => hk.2)⟩, ⟨bX HB.out⟩⟩
              case round =>
               clear H'
               (try clear p1); (try clear q1); (try clear hx1); (try clear qi1); (try clear c2); (try clear p2); (try clear c3); (try clear c4); (try clear p4); (try clear q4); (try clear hx4); (try clear hf4); (try clear c5); (try clear p6); (try clear hx10); (try clear p11); (try clear q11); (try clear hx11); (try clear qi11); (try clear p12); (try clear q12); (try clear hx12); (try clear qi12); (try clear c28); (try clear c28b0); (try clear c30); (try clear c31); (try clear c33); (try clear c34); (try clear c36); (try clear c37); (try clear c41); (try clear c42); (try clear c45); (try clear c46); (try clear p47); (try clear q47); (try clear hx47); (try clear hf47); (try clear c51); (try clear c51b0); (try clear c51b1); (try clear c52); (try clear c52b0); (try clear c52b1); (try clear c53); (try clear c53b0); (try clear c53b1); (try clear c54); (try clear c54b0); (try clear c54b1); (try clear c55); (try clear c55b0); (try clear c55b1); (try clear c56); (try clear c56b0); (try clear c56b1); (try clear c57); (try clear c57b0); (try clear c57b1); (try clear c58); (try clear c58b0); (try clear c58b1); (try clear hx105_0); (try clear hx106_0); (try clear hx107_0); (try clear hx110_0); (try clear hx114_0); (try clear hx115_0); (try clear hx116_0); (try clear hx117_0); (try clear hx118_0); (try clear hx119_0); (try clear hx120_0); (try clear hx121_0); (try clear hx47_0); (try clear p114); (try clear p115); (try clear p116); (try clear p117); (try clear p118); (try clear p119); (try clear p120); (try clear p121); (try clear q114); (try clear q115); (try clear q116); (try clear q117); (try clear q118); (try clear q119); (try clear q120); (try clear q121)
               obtain ⟨x10_3, x11_3, x12_3, x13_3, x14_3, x15_3, x16_3, x17_3, x19_3, rfl, rfl, rfl, rfl, rfl, rfl, rfl, rfl, rfl, HA, HK3, HO_5, HO_18, HB⟩ := hrel
               cases gk with
               | zero => exact absurd HA.out (by simp [spec_l02Block.l2])
               | succ k3 =>
                have H := HA.out
                clear HA
                simp only [spec_l02Block.l2] at H
                by_cases c63 : x19_3 < 64
                ·
                 rw [if_pos c63] at H
                 have c63b0 : decide (x19_3 < 64) = true := decide_eq_true c63
                 clear c63
                 replace H := Option.bind_eq_some_iff.mp H
                 obtain ⟨t125, A640, H⟩ := H
                 replace H : ((spec_l02Turn.f x14_3 11).bind fun t126 => ((spec_l02Turn.f x14_3 25).bind fun t127 => (if 0 ≤ x19_3 then (if x19_3 < (t122.length : Int) then (if x19_3 < (x5_2.length : Int) then ((spec_l02Turn.f x10_3 2).bind fun t130 => ((spec_l02Turn.f x10_3 13).bind fun t131 => ((spec_l02Turn.f x10_3 22).bind fun t132 => (spec_l02Block.l2 k3 l0 x5_2 ((((((x17_3 + (Go.bits .xor .u32 (Go.bits .xor .u32 t125 t126) t127)) + (Go.bits .xor .u32 (Go.bits .and .u32 x14_3 x15_3) (Go.bits .and .u32 (Go.bits .xor .u32 4294967295 x14_3) x16_3))) + (rd t122 x19_3)) + (rd x5_2 x19_3)) + ((Go.bits .xor .u32 (Go.bits .xor .u32 t130 t131) t132) + (Go.bits .xor .u32 (Go.bits .xor .u32 (Go.bits .and .u32 x10_3 x11_3) (Go.bits .and .u32 x10_3 x12_3)) (Go.bits .and .u32 x11_3 x12_3)))) % 4294967296) x10_3 x11_3 x12_3 ((x13_3 + ((((x17_3 + (Go.bits .xor .u32 (Go.bits .xor .u32 t125 t126) t127)) + (Go.bits .xor .u32 (Go.bits .and .u32 x14_3 x15_3) (Go.bits .and .u32 (Go.bits .xor .u32 4294967295 x14_3) x16_3))) + (rd t122 x19_3)) + (rd x5_2 x19_3))) % 4294967296) x14_3 x15_3 x16_3 t122 (wrap64 (x19_3 + 1)))))) else (none)) else (none)) else (none)))) = some r := H
                 have A64 := AM A640
                 clear A640
                 replace H := Option.bind_eq_some_iff.mp H
                 obtain ⟨t126, A650, H⟩ := H
                 replace H : ((spec_l02Turn.f x14_3 25).bind fun t127 => (if 0 ≤ x19_3 then (if x19_3 < (t122.length : Int) then (if x19_3 < (x5_2.length : Int) then ((spec_l02Turn.f x10_3 2).bind fun t130 => ((spec_l02Turn.f x10_3 13).bind fun t131 => ((spec_l02Turn.f x10_3 22).bind fun t132 => (spec_l02Block.l2 k3 l0 x5_2 ((((((x17_3 + (Go.bits .xor .u32 (Go.bits .xor .u32 t125 t126) t127)) + (Go.bits .xor .u32 (Go.bits .and .u32 x14_3 x15_3) (Go.bits .and .u32 (Go.bits .xor .u32 4294967295 x14_3) x16_3))) + (rd t122 x19_3)) + (rd x5_2 x19_3)) + ((Go.bits .xor .u32 (Go.bits .xor .u32 t130 t131) t132) + (Go.bits .xor .u32 (Go.bits .xor .u32 (Go.bits .and .u32 x10_3 x11_3) (Go.bits .and .u32 x10_3 x12_3)) (Go.bits .and .u32 x11_3 x12_3)))) % 4294967296) x10_3 x11_3 x12_3 ((x13_3 + ((((x17_3 + (Go.bits .xor .u32 (Go.bits .xor .u32 t125 t126) t127)) + (Go.bits .xor .u32 (Go.bits .and .u32 x14_3 x15_3) (Go.bits .and .u32 (Go.bits .xor .u32 4294967295 x14_3) x16_3))) + (rd t122 x19_3)) + (rd x5_2 x19_3))) % 4294967296) x14_3 x15_3 x16_3 t122 (wrap64 (x19_3 + 1)))))) else (none)) else (none)) else (none))) = some r := H
                 have A65 := AM A650
                 clear A650
                 replace H := Option.bind_eq_some_iff.mp H
                 obtain ⟨t127, A660, H⟩ := H
                 replace H : (if 0 ≤ x19_3 then (if x19_3 < (t122.length : Int) then (if x19_3 < (x5_2.length : Int) then ((spec_l02Turn.f x10_3 2).bind fun t130 => ((spec_l02Turn.f x10_3 13).bind fun t131 => ((spec_l02Turn.f x10_3 22).bind fun t132 => (spec_l02Block.l2 k3 l0 x5_2 ((((((x17_3 + (Go.bits .xor .u32 (Go.bits .xor .u32 t125 t126) t127)) + (Go.bits .xor .u32 (Go.bits .and .u32 x14_3 x15_3) (Go.bits .and .u32 (Go.bits .xor .u32 4294967295 x14_3) x16_3))) + (rd t122 x19_3)) + (rd x5_2 x19_3)) + ((Go.bits .xor .u32 (Go.bits .xor .u32 t130 t131) t132) + (Go.bits .xor .u32 (Go.bits .xor .u32 (Go.bits .and .u32 x10_3 x11_3) (Go.bits .and .u32 x10_3 x12_3)) (Go.bits .and .u32 x11_3 x12_3)))) % 4294967296) x10_3 x11_3 x12_3 ((x13_3 + ((((x17_3 + (Go.bits .xor .u32 (Go.bits .xor .u32 t125 t126) t127)) + (Go.bits .xor .u32 (Go.bits .and .u32 x14_3 x15_3) (Go.bits .and .u32 (Go.bits .xor .u32 4294967295 x14_3) x16_3))) + (rd t122 x19_3)) + (rd x5_2 x19_3))) % 4294967296) x14_3 x15_3 x16_3 t122 (wrap64 (x19_3 + 1)))))) else (none)) else (none)) else (none)) = some r := H
                 have A66 := AM A660
                 clear A660
                 by_cases c67 : 0 ≤ x19_3
                 ·
                  rw [if_pos c67] at H
                  have c67b0 : decide (0 ≤ x19_3) = true := decide_eq_true c67
                  clear c67
                  by_cases c68 : x19_3 < (t122.length : Int)
                  ·
                   rw [if_pos c68] at H
                   have c68b0 : decide (x19_3 < (t122.length : Int)) = true := decide_eq_true c68
                   clear c68
                   by_cases c69 : x19_3 < (x5_2.length : Int)
                   ·
                    rw [if_pos c69] at H
                    have c69b0 : decide (x19_3 < (x5_2.length : Int)) = true := decide_eq_true c69
                    clear c69
                    replace H := Option.bind_eq_some_iff.mp H
                    obtain ⟨t130, A700, H⟩ := H
                    replace H : ((spec_l02Turn.f x10_3 13).bind fun t131 => ((spec_l02Turn.f x10_3 22).bind fun t132 => (spec_l02Block.l2 k3 l0 x5_2 ((((((x17_3 + (Go.bits .xor .u32 (Go.bits .xor .u32 t125 t126) t127)) + (Go.bits .xor .u32 (Go.bits .and .u32 x14_3 x15_3) (Go.bits .and .u32 (Go.bits .xor .u32 4294967295 x14_3) x16_3))) + (rd t122 x19_3)) + (rd x5_2 x19_3)) + ((Go.bits .xor .u32 (Go.bits .xor .u32 t130 t131) t132) + (Go.bits .xor .u32 (Go.bits .xor .u32 (Go.bits .and .u32 x10_3 x11_3) (Go.bits .and .u32 x10_3 x12_3)) (Go.bits .and .u32 x11_3 x12_3)))) % 4294967296) x10_3 x11_3 x12_3 ((x13_3 + ((((x17_3 + (Go.bits .xor .u32 (Go.bits .xor .u32 t125 t126) t127)) + (Go.bits .xor .u32 (Go.bits .and .u32 x14_3 x15_3) (Go.bits .and .u32 (Go.bits .xor .u32 4294967295 x14_3) x16_3))) + (rd t122 x19_3)) + (rd x5_2 x19_3))) % 4294967296) x14_3 x15_3 x16_3 t122 (wrap64 (x19_3 + 1))))) = some r := H
                    have A70 := AM A700
                    clear A700
                    replace H := Option.bind_eq_some_iff.mp H
                    obtain ⟨t131, A710, H⟩ := H
                    replace H : ((spec_l02Turn.f x10_3 22).bind fun t132 => (spec_l02Block.l2 k3 l0 x5_2 ((((((x17_3 + (Go.bits .xor .u32 (Go.bits .xor .u32 t125 t126) t127)) + (Go.bits .xor .u32 (Go.bits .and .u32 x14_3 x15_3) (Go.bits .and .u32 (Go.bits .xor .u32 4294967295 x14_3) x16_3))) + (rd t122 x19_3)) + (rd x5_2 x19_3)) + ((Go.bits .xor .u32 (Go.bits .xor .u32 t130 t131) t132) + (Go.bits .xor .u32 (Go.bits .xor .u32 (Go.bits .and .u32 x10_3 x11_3) (Go.bits .and .u32 x10_3 x12_3)) (Go.bits .and .u32 x11_3 x12_3)))) % 4294967296) x10_3 x11_3 x12_3 ((x13_3 + ((((x17_3 + (Go.bits .xor .u32 (Go.bits .xor .u32 t125 t126) t127)) + (Go.bits .xor .u32 (Go.bits .and .u32 x14_3 x15_3) (Go.bits .and .u32 (Go.bits .xor .u32 4294967295 x14_3) x16_3))) + (rd t122 x19_3)) + (rd x5_2 x19_3))) % 4294967296) x14_3 x15_3 x16_3 t122 (wrap64 (x19_3 + 1)))) = some r := H
                    have A71 := AM A710
                    clear A710
                    replace H := Option.bind_eq_some_iff.mp H
                    obtain ⟨t132, A720, H⟩ := H
                    replace H : (spec_l02Block.l2 k3 l0 x5_2 ((((((x17_3 + (Go.bits .xor .u32 (Go.bits .xor .u32 t125 t126) t127)) + (Go.bits .xor .u32 (Go.bits .and .u32 x14_3 x15_3) (Go.bits .and .u32 (Go.bits .xor .u32 4294967295 x14_3) x16_3))) + (rd t122 x19_3)) + (rd x5_2 x19_3)) + ((Go.bits .xor .u32 (Go.bits .xor .u32 t130 t131) t132) + (Go.bits .xor .u32 (Go.bits .xor .u32 (Go.bits .and .u32 x10_3 x11_3) (Go.bits .and .u32 x10_3 x12_3)) (Go.bits .and .u32 x11_3 x12_3)))) % 4294967296) x10_3 x11_3 x12_3 ((x13_3 + ((((x17_3 + (Go.bits .xor .u32 (Go.bits .xor .u32 t125 t126) t127)) + (Go.bits .xor .u32 (Go.bits .and .u32 x14_3 x15_3) (Go.bits .and .u32 (Go.bits .xor .u32 4294967295 x14_3) x16_3))) + (rd t122 x19_3)) + (rd x5_2 x19_3))) % 4294967296) x14_3 x15_3 x16_3 t122 (wrap64 (x19_3 + 1))) = some r := H
                    have A72 := AM A720
                    clear A720
                    have H' := AM H
                    clear H
                    try go_wp2
                    have _ := AM (rD HO_5.out)
                    have _ := AM (rD HO_18.out)
                    have _ := AM (bD HB.out)
                    clear HO_5 HO_18 HB
                    rename_i HO_5 HO_18 HB
                    obtain ⟨Ao74, co74, eo74⟩ := Kd.R_slice HO_18.out
                    (first | subst eo74 | (injection eo74 with f1_ f2_ f3_; have f4_ := f1_.symm; have f5_ := f3_.symm; clear f1_ f2_ f3_; subst f4_; subst f5_))
                    have p128 : 0 ≤ (x19_3 : Int) := of_decide_eq_true (by assumption)
                    have q128 : x19_3 < (t122.length : Int) := of_decide_eq_true (by assumption)
                    obtain ⟨ad128, e128, hx128_0⟩ := Kd.at_int (Kd.R_reads' HO_18.out).2.2 x19_3 p128 q128
                    cases e128
                    replace p128 := eq_true p128
                    replace q128 := eq_true q128
                    obtain ⟨Ao75, co75, eo75⟩ := Kd.R_slice HO_5.out
                    (first | subst eo75 | (injection eo75 with f1_ f2_ f3_; have f4_ := f1_.symm; have f5_ := f3_.symm; clear f1_ f2_ f3_; subst f4_; subst f5_))
                    have p129 : 0 ≤ (x19_3 : Int) := of_decide_eq_true (by assumption)
                    have q129 : x19_3 < (x5_2.length : Int) := of_decide_eq_true (by assumption)
                    obtain ⟨ad129, e129, hx129_0⟩ := Kd.at_int (Kd.R_reads' HO_5.out).2.2 x19_3 p129 q129
                    cases e129
                    replace p129 := eq_true p129
                    replace q129 := eq_true q129
                    refine start_ (n := 30) (S := fun w' => w'.cell? (ad128.add (x19_3).toNat) = some (.int .u32 (rd t122 x19_3)) ∧ w'.cell? (ad129.add (x19_3).toNat) = some (.int .u32 (rd x5_2 x19_3))) (ds := []) (upTo 0 30) (by kernel_rfl) rfl rfl ⟨hx128_0, hx129_0⟩ (fun hHeld => ?_); refine with_tabW spec_l02Block.tab18 spec_l02Block.bits18 (fun HT_ HW_ => ?_)
                    generalize wr.drew = w73 at HO_5 HO_18 HB hx128_0 hx129_0 hHeld ⊢
                    refine pF 0 1 30 145 ?_
                    refine pF 1 2 30 146 ?_
                    refine pF2 3 148 spec_l02Block.b60 ?_
                    refine pF2 6 151 spec_l02Block.b61 ?_
                    refine pF2 10 155 spec_l02Block.b62 ?_
                    refine pF2 11 156 spec_l02Block.b63 ?_
                    refine pF2 12 157 spec_l02Block.b64 ?_
                    refine pF2 13 158 spec_l02Block.b65 ?_
                    refine pF2 14 159 spec_l02Block.b66 ?_
                    refine pF2 15 160 spec_l02Block.b67 ?_
                    refine pF2 16 161 spec_l02Block.b68 ?_
                    refine pF2 17 162 spec_l02Block.b69 ?_
                    refine pF2 19 164 spec_l02Block.b70 ?_
                    refine pF2 20 165 spec_l02Block.b71 ?_
                    refine pF2 21 166 spec_l02Block.b72 ?_
                    refine pF2 24 169 spec_l02Block.b73 ?_
                    refine pF2 25 170 spec_l02Block.b74 ?_
                    refine pF2 26 171 spec_l02Block.b75 ?_
                    refine pT2 22 167 spec_l02Block.b76 ?_ hHeld
                    refine pT2 27 172 spec_l02Block.b77 ?_ hHeld
                    refine one_ (i := 2) (N := some 147) spec_l02Block.b78 rfl rfl (one_of HT_.out (by kernel_rfl)) (by decide) (fun K hK => ?_)
                    refine goes_ Tryd.func55 (by kernel_rfl) rfl #[.int .u32 x14_3, .int .u64 6] (by rfl) rfl rfl (by (try simp only [mA, mB, mC]); first | done | rfl | (simp only [mD, mE]; rfl)) ?_
                    with_reducible refine (spec_l02Turn.calls x14_3 6 t125 _ A64.out).mono ?_
                    rintro e w' ⟨rfl, ⟨nd, rfl⟩⟩
                    refine ⟨_, rfl, ?_⟩
                    refine hK.out _ _ ⟨hHeld.1, hHeld.2⟩ (fun hHeld => ?_)
                    clear hK K
                    refine norm_ (a' := ?_) ?_ ?_
                    rotate_left
                    ·
                     show Act.put _ (some 147) _ = _
                     simp only [Act.put, sA, sB, sC, i64_w, i32_w]
                     rfl
                    refine one_ (i := 4) (N := some 149) spec_l02Block.b79 rfl rfl (one_of HT_.out (by kernel_rfl)) (by decide) (fun K hK => ?_)
                    refine goes_ Tryd.func55 (by kernel_rfl) rfl #[.int .u32 x14_3, .int .u64 11] (by rfl) rfl rfl (by (try simp only [mA, mB, mC]); first | done | rfl | (simp only [mD, mE]; rfl)) ?_
                    with_reducible refine (spec_l02Turn.calls x14_3 11 t126 _ A65.out).mono ?_
                    rintro e w' ⟨rfl, ⟨nd, rfl⟩⟩
                    refine ⟨_, rfl, ?_⟩
                    refine hK.out _ _ ⟨hHeld.1, hHeld.2⟩ (fun hHeld => ?_)
                    clear hK K
                    refine norm_ (a' := ?_) ?_ ?_
                    rotate_left
                    ·
                     show Act.put _ (some 149) _ = _
                     simp only [Act.put, sA, sB, sC, i64_w, i32_w]
                     rfl
                    refine pF2 5 150 spec_l02Block.b80 ?_
                    refine one_ (i := 7) (N := some 152) spec_l02Block.b81 rfl rfl (one_of HT_.out (by kernel_rfl)) (by decide) (fun K hK => ?_)
                    refine goes_ Tryd.func55 (by kernel_rfl) rfl #[.int .u32 x14_3, .int .u64 25] (by rfl) rfl rfl (by (try simp only [mA, mB, mC]); first | done | rfl | (simp only [mD, mE]; rfl)) ?_
                    with_reducible refine (spec_l02Turn.calls x14_3 25 t127 _ A66.out).mono ?_
                    rintro e w' ⟨rfl, ⟨nd, rfl⟩⟩
                    refine ⟨_, rfl, ?_⟩
                    refine hK.out _ _ ⟨hHeld.1, hHeld.2⟩ (fun hHeld => ?_)
                    clear hK K
                    refine norm_ (a' := ?_) ?_ ?_
                    rotate_left
                    ·
                     show Act.put _ (some 152) _ = _
                     simp only [Act.put, sA, sB, sC, i64_w, i32_w]
                     rfl
                    refine pF2 8 153 spec_l02Block.b82 ?_
                    refine pF2 9 154 spec_l02Block.b83 ?_
                    refine pF2 18 163 spec_l02Block.b84 ?_
                    refine pF2 23 168 (upTo 28 30) ?_
                    refine pF 28 29 30 173 ?_
                    refine pF 29 30 30 20 ?_
                    refine done_ (done_of HT_.out (by kernel_rfl)) ?_
                    try go_wp2_with (first | ((with_reducible refine gate_callee (f := 55) rfl ?_); refine goesL_ (some 175) rfl rfl Tryd.func55 (by kernel_rfl) rfl #[.int .u32 x10_3, .int .u64 2] rfl (by (try simp only [mA, mB, mC]); first | done | rfl | (simp only [mD, mE]; rfl)) ?_; (with_reducible refine (spec_l02Turn.calls x10_3 2 t130 _ A70.out).mono ?_); rintro e w' ⟨rfl, ⟨nd, rfl⟩⟩; refine ⟨_, rfl, ?_⟩) | ((with_reducible refine gate_callee (f := 55) rfl ?_); refine goesL_ (some 177) rfl rfl Tryd.func55 (by kernel_rfl) rfl #[.int .u32 x10_3, .int .u64 13] rfl (by (try simp only [mA, mB, mC]); first | done | rfl | (simp only [mD, mE]; rfl)) ?_; (with_reducible refine (spec_l02Turn.calls x10_3 13 t131 _ A71.out).mono ?_); rintro e w' ⟨rfl, ⟨nd, rfl⟩⟩; refine ⟨_, rfl, ?_⟩) | ((with_reducible refine gate_callee (f := 55) rfl ?_); refine goesL_ (some 180) rfl rfl Tryd.func55 (by kernel_rfl) rfl #[.int .u32 x10_3, .int .u64 22] rfl (by (try simp only [mA, mB, mC]); first | done | rfl | (simp only [mD, mE]; rfl)) ?_; (with_reducible refine (spec_l02Turn.calls x10_3 22 t132 _ A72.out).mono ?_); rintro e w' ⟨rfl, ⟨nd, rfl⟩⟩; refine ⟨_, rfl, ?_⟩))
                    go_roundg k3
                    case measure => have := HK1.out; have := HK2.out; have := HK3.out; omega
                    case rel => exact ⟨((((((x17_3 + (Go.bits .xor .u32 (Go.bits .xor .u32 t125 t126) t127)) + (Go.bits .xor .u32 (Go.bits .and .u32 x14_3 x15_3) (Go.bits .and .u32 (Go.bits .xor .u32 4294967295 x14_3) x16_3))) + (rd t122 x19_3)) + (rd x5_2 x19_3)) + ((Go.bits .xor .u32 (Go.bits .xor .u32 t130 t131) t132) + (Go.bits .xor .u32 (Go.bits .xor .u32 (Go.bits .and .u32 x10_3 x11_3) (Go.bits .and .u32 x10_3 x12_3)) (Go.bits .and .u32 x11_3 x12_3)))) % 4294967296), (x10_3), (x11_3), (x12_3), ((x13_3 + ((((x17_3 + (Go.bits .xor .u32 (Go.bits .xor .u32 t125 t126) t127)) + (Go.bits .xor .u32 (Go.bits .and .u32 x14_3 x15_3) (Go.bits .and .u32 (Go.bits .xor .u32 4294967295 x14_3) x16_3))) + (rd t122 x19_3)) + (rd x5_2 x19_3))) % 4294967296), (x14_3), (x15_3), (x16_3), (wrap64 (x19_3 + 1)), (by first | rfl | (simp; done) | (simp [*]; done)), (by first | rfl | (simp; done) | (simp [*]; done)), (by first | rfl | (simp; done) | (simp [*]; done)), (by first | rfl | (simp; done) | (simp [*]; done)), (by first | rfl | (simp; done) | (simp [*]; done)), (by first | rfl | (simp; done) | (simp [*]; done)), (by first | rfl | (simp; done) | (simp [*]; done)), (by first | rfl | (simp; done) | (simp [*]; done)), (by first | rfl | (simp; done) | (simp [*]; done)), H', ⟨by have := HK1.out; have := HK2.out; have := HK3.out; omega⟩, ⟨rX HO_5.out⟩, ⟨rX HO_18.out⟩, ⟨bX HB.out⟩⟩
                   rw [if_neg c69] at H
                   exact absurd H (by simp)
                  rw [if_neg c68] at H
                  exact absurd H (by simp)
                 rw [if_neg c67] at H
                 exact absurd H (by simp)
                rw [if_neg c63] at H
                have c63b0 : decide (x19_3 < 64) = false := decide_eq_false c63
                clear c63
                obtain ⟨y133, hy133⟩ : ∃ y_ : List Int, y_ = (([x10_3, x11_3, x12_3, x13_3, x14_3, x15_3, x16_3, x17_3] : List Int)) := ⟨_, rfl⟩
                replace H : (spec_l02Block.l3 k3 l0 y133 (([] : List Int)) 0) = some r := by first | (rw [hy133]; with_reducible exact H) | (have H2_ := (Option.bind_some _ _).symm.trans H; rw [hy133]; with_reducible exact H2_) | (have H2_ := (Option.bind_some _ _).symm.trans H; with_reducible exact H2_) | with_reducible exact H | (rw [hy133]; exact H) | exact H
                have Ny133 := AM hy133
                clear hy133
                obtain ⟨y136, hy136⟩ : ∃ y_ : List Int, y_ = (([] : List Int)) := ⟨_, rfl⟩
                replace H : (spec_l02Block.l3 k3 l0 y133 y136 0) = some r := by first | (rw [hy136]; with_reducible exact H) | (have H2_ := (Option.bind_some _ _).symm.trans H; rw [hy136]; with_reducible exact H2_) | (have H2_ := (Option.bind_some _ _).symm.trans H; with_reducible exact H2_) | with_reducible exact H | (rw [hy136]; exact H) | exact H
                have Ny136 := AM hy136
                clear hy136
                have H' := AM H
                clear H
                go_wp2_with (first | ((with_reducible refine gate_dst (N := 214) rfl ?_); refine Kd.R_lit (Kd.int .u32) _ 67 ?hg (N := 214) ?hd (xs := ([x10_3, x11_3, x12_3, x13_3, x14_3, x15_3, x16_3, x17_3] : List Int)) (inner := [.int .u32 x10_3, .int .u32 x11_3, .int .u32 x12_3, .int .u32 x13_3, .int .u32 x14_3, .int .u32 x15_3, .int .u32 x16_3, .int .u32 x17_3]) (ok := fun _ => True) (okp := fun _ => True) ?hr ?hp (fun _ hk => hk) trivial (Below.refl _ _) (Nat.le_refl _) (by simp) ?_; (case hd => rfl); (case hg => rfl); (case hr => first | (go_simp; done) | (go_simp; rfl)); (case hp => exact (Reps.one (show Kd.M (Kd.int .u32) _ _ _ x10_3 [.int .u32 x10_3] from rfl) (Reps.one (show Kd.M (Kd.int .u32) _ _ _ x11_3 [.int .u32 x11_3] from rfl) (Reps.one (show Kd.M (Kd.int .u32) _ _ _ x12_3 [.int .u32 x12_3] from rfl) (Reps.one (show Kd.M (Kd.int .u32) _ _ _ x13_3 [.int .u32 x13_3] from rfl) (Reps.one (show Kd.M (Kd.int .u32) _ _ _ x14_3 [.int .u32 x14_3] from rfl) (Reps.one (show Kd.M (Kd.int .u32) _ _ _ x15_3 [.int .u32 x15_3] from rfl) (Reps.one (show Kd.M (Kd.int .u32) _ _ _ x16_3 [.int .u32 x16_3] from rfl) (Reps.one (show Kd.M (Kd.int .u32) _ _ _ x17_3 [.int .u32 x17_3] from rfl) (Reps.none _ _)))))))))); intro v134 w76 ho77 hb hg_ hnew_; clear hg_ hnew_; (first | rw [← Ny133.out] at ho77 | (simp only [Int.reduceToNat] at ho77; rw [← Ny133.out] at ho77)); have _ := AM (Kd.R_elder' (rX HO_5.out) (Kd.R_base ho77) hb); have _ := AM (Kd.R_elder' (rX HO_18.out) (Kd.R_base ho77) hb); have _ := AM (Kd.R_lower (Kd.R_new' (Kd.R_new' ho77 (Kd.R_lt (rX HO_5.out))) (Kd.R_lt (rX HO_18.out))) (bZ (bX HB.out))); have _ := AM (below_step (bX HB.out) hb); clear HO_5 HO_18 HB; rename_i HO_5 HO_18 HO135 HB; clear hb ho77) | ((with_reducible refine gate_dst (N := 215) rfl ?_); refine Kd.R_lit (Kd.int .i64) _ 2 ?hg (N := 215) ?hd (xs := ([] : List Int)) (inner := []) (ok := fun _ => True) (okp := fun _ => True) ?hr ?hp (fun _ hk => hk) trivial (Below.refl _ _) (Nat.le_refl _) (by simp) ?_; (case hd => rfl); (case hg => rfl); (case hr => first | (go_simp; done) | (go_simp; rfl)); (case hp => exact (Reps.none _ _)); intro v137 w78 ho79 hb hg_ hnew_; clear hg_ hnew_; (first | rw [← Ny136.out] at ho79 | (simp only [Int.reduceToNat] at ho79; rw [← Ny136.out] at ho79)); have _ := AM (Kd.R_below (rX HO_5.out) hb); have _ := AM (Kd.R_below (rX HO_18.out) hb); have _ := AM (Kd.R_below (rX HO135.out) hb); have _ := AM (Kd.R_lower ho79 (bZ (bX HB.out))); have _ := AM (below_step (bX HB.out) hb); clear HO_5 HO_18 HO135 HB; rename_i HO_5 HO_18 HO135 HO138 HB; clear hb ho79))
                go_loopg [23, 24] k3 (fun kq v23 v24 w' => ∃ (x23_4 : List Int) (x24_4 : Int), v24 = .int .i64 x24_4 ∧ Aside0 (spec_l02Block.l3 kq l0 y133 x23_4 x24_4 = some r) ∧ Aside0 (kq ≤ k3) ∧ Aside0 (Kd.R (Kd.int .u32) 67 w' w.heap.size (fun _ => True) v134 y133) ∧ Aside0 (Kd.R (Kd.int .i64) 2 w' w.heap.size (fun _ => True) v23 x23_4) ∧ Aside0 (Below w.heap.size w w'))
                case atStart => exact ⟨(y136), (0), (by first | rfl | (simp; done) | (simp [*]; done)), H', ⟨Nat.le_refl _⟩, ⟨by (with_reducible repeat (first | apply rA | apply rN | apply rD)); exact Kd.R_mono HO135.out (fun _ hk => trivial)⟩, ⟨rX HO138.out⟩, ⟨bX HB.out⟩⟩
                case round =>
                 clear H'
                 (try clear p1); (try clear q1); (try clear hx1); (try clear qi1); (try clear c2); (try clear p2); (try clear c3); (try clear c4); (try clear p4); (try clear q4); (try clear hx4); (try clear hf4); (try clear c5); (try clear c6); (try clear p6); (try clear hx10); (try clear p11); (try clear q11); (try clear hx11); (try clear qi11); (try clear p12); (try clear q12); (try clear hx12); (try clear qi12); (try clear c28); (try clear c28b0); (try clear c30); (try clear c31); (try clear c33); (try clear c34); (try clear c36); (try clear c37); (try clear c41); (try clear c42); (try clear c45); (try clear c46); (try clear p47); (try clear q47); (try clear hx47); (try clear hf47); (try clear c51); (try clear c51b0); (try clear c51b1); (try clear c52); (try clear c52b0); (try clear c52b1); (try clear c53); (try clear c53b0); (try clear c53b1); (try clear c54); (try clear c54b0); (try clear c54b1); (try clear c55); (try clear c55b0); (try clear c55b1); (try clear c56); (try clear c56b0); (try clear c56b1); (try clear c57); (try clear c57b0); (try clear c57b1); (try clear c58); (try clear c58b0); (try clear c58b1); (try clear c63); (try clear c63b0); (try clear p64); (try clear c67); (try clear c67b0); (try clear c68); (try clear c68b0); (try clear c69); (try clear c69b0); (try clear hx105_0); (try clear hx106_0); (try clear hx107_0); (try clear hx110_0); (try clear hx114_0); (try clear hx115_0); (try clear hx116_0); (try clear hx117_0); (try clear hx118_0); (try clear hx119_0); (try clear hx120_0); (try clear hx121_0); (try clear hx128_0); (try clear hx129_0); (try clear hx47_0); (try clear p114); (try clear p115); (try clear p116); (try clear p117); (try clear p118); (try clear p119); (try clear p120); (try clear p121); (try clear p128); (try clear p129); (try clear q114); (try clear q115); (try clear q116); (try clear q117); (try clear q118); (try clear q119); (try clear q120); (try clear q121); (try clear q128); (try clear q129)
                 obtain ⟨x23_4, x24_4, rfl, HA, HK4, HO_22, HO_23, HB⟩ := hrel
                 cases gk with
                 | zero => exact absurd HA.out (by simp [spec_l02Block.l3])
                 | succ k4 =>
                  have H := HA.out
                  clear HA
                  simp only [spec_l02Block.l3] at H
                  by_cases c80 : x24_4 < 8
                  ·
                   rw [if_pos c80] at H
                   have c80b0 : decide (x24_4 < 8) = true := decide_eq_true c80
                   clear c80
                   by_cases c81 : 0 ≤ x24_4
                   ·
                    rw [if_pos c81] at H
                    have c81b0 : decide (0 ≤ x24_4) = true := decide_eq_true c81
                    clear c81
                    by_cases c82 : x24_4 < (l0.length : Int)
                    ·
                     rw [if_pos c82] at H
                     have c82b0 : decide (x24_4 < (l0.length : Int)) = true := decide_eq_true c82
                     clear c82
                     by_cases c83 : x24_4 < (y133.length : Int)
                     ·
                      rw [if_pos c83] at H
                      have c83b0 : decide (x24_4 < (y133.length : Int)) = true := decide_eq_true c83
                      clear c83
                      by_cases c84 : x23_4.length < 17592186044416
                      ·
                       rw [if_pos c84] at H
                       have LMc84 := AM c84
                       clear c84
                       obtain ⟨y141, hy141⟩ : ∃ y_ : List Int, y_ = (x23_4 ++ [((rd l0 x24_4) + (rd y133 x24_4)) % 4294967296]) := ⟨_, rfl⟩
                       replace H : (spec_l02Block.l3 k4 l0 y133 y141 (wrap64 (x24_4 + 1))) = some r := by first | (rw [hy141]; with_reducible exact H) | (have H2_ := (Option.bind_some _ _).symm.trans H; rw [hy141]; with_reducible exact H2_) | (have H2_ := (Option.bind_some _ _).symm.trans H; with_reducible exact H2_) | with_reducible exact H | (rw [hy141]; exact H) | exact H
                       have Ny141 := AM hy141
                       clear hy141
                       have H' := AM H
                       clear H
                       try go_wp2
                       have _ := AM (rD HO_22.out)
                       have _ := AM (rD HO_23.out)
                       have _ := AM (bD HB.out)
                       clear HO_22 HO_23 HB
                       rename_i HO_22 HO_23 HB
                       have p139 : 0 ≤ (x24_4 : Int) := of_decide_eq_true (by assumption)
                       have q139 : x24_4 < (l0.length : Int) := of_decide_eq_true (by assumption)
                       obtain ⟨ad139, e139, hx139_0⟩ := Kd.at_int HR0.out x24_4 p139 q139
                       have hw139_0 := hx139_0
                       obtain rfl : ad114 = ad139 := (by injection e139)
                       replace hx139_0 := pw_cell_below HB.out hx139_0
                       replace p139 := eq_true p139
                       replace q139 := eq_true q139
                       obtain ⟨Ao86, co86, eo86⟩ := Kd.R_slice HO_22.out
                       (first | subst eo86 | (injection eo86 with f1_ f2_ f3_; have f4_ := f1_.symm; have f5_ := f3_.symm; clear f1_ f2_ f3_; subst f4_; subst f5_))
                       have p140 : 0 ≤ (x24_4 : Int) := of_decide_eq_true (by assumption)
                       have q140 : x24_4 < (y133.length : Int) := of_decide_eq_true (by assumption)
                       obtain ⟨ad140, e140, hx140_0⟩ := Kd.at_int (Kd.R_reads' HO_22.out).2.2 x24_4 p140 q140
                       cases e140
                       replace p140 := eq_true p140
                       replace q140 := eq_true q140
                       refine start_ (n := 15) (S := fun w' => w'.cell? (ad114.add (x24_4).toNat) = some (.int .i64 (rd l0 x24_4)) ∧ w'.cell? (ad140.add (x24_4).toNat) = some (.int .u32 (rd y133 x24_4))) (ds := [12, 13]) (upTo 0 15) (by kernel_rfl) rfl rfl ⟨(pw_cell_below HB.out hw139_0), hx140_0⟩ (fun hHeld => ?_); refine with_tabW spec_l02Block.tab33 spec_l02Block.bits33 (fun HT_ HW_ => ?_)
                       generalize wr.drew = w85 at HO_22 HO_23 HB hx139_0 hx140_0 hHeld ⊢
                       refine pF 0 1 15 220 ?_
                       refine pF 1 2 15 221 ?_
                       refine pF 2 3 15 222 ?_
                       refine pF 3 4 15 223 ?_
                       refine pF2 6 226 spec_l02Block.b85 ?_
                       refine pF2 7 227 spec_l02Block.b86 ?_
                       refine pF2 8 228 spec_l02Block.b87 ?_
                       refine pT2 4 224 spec_l02Block.b88 ?_ hHeld
                       refine pF2 5 225 (upTo 9 15) ?_
                       refine pT2 9 229 (upTo 10 15) ?_ hHeld
                       refine pF 10 11 15 230 ?_
                       refine pF 11 12 15 231 ?_
                       refine last_ (i := 12) (N := some 232) (upTo 13 15) rfl rfl (one_of HT_.out (by kernel_rfl)) (by decide) (fun K hK => ?_)
                       refine value_ (w1 := ?_) (v := ?_) (by rfl) rfl ?_ ?_
                       rotate_left 2
                       ·
                        go_simp
                        constructor
                        ·
                         rfl
                        rfl
                       refine hK.out _ _ ?_
                       clear hK K
                       refine norm_ (a' := ?_) ?_ ?_
                       rotate_left
                       ·
                        show Act.put _ (some 232) _ = _
                        simp only [Act.put, sA, sB, sC, i64_w, i32_w]
                        rfl
                       refine last_ (i := 13) (N := some 233) (upTo 14 15) rfl rfl (one_of HT_.out (by kernel_rfl)) (by decide) (fun K hK => ?_)
                       have hv_ : wrap64 (IntKind.u32.wrap (IntKind.u32.wrap (rd l0 x24_4) + rd y133 x24_4)) = ((rd l0 x24_4) + (rd y133 x24_4)) % 4294967296 := by
                        have hu_ : ∀ z_ : Int, IntKind.u32.wrap z_ = z_ % 4294967296 := fun z_ => by simp [IntKind.wrap, IntKind.signed, IntKind.bits]
                        rw [hu_, hu_, Int.emod_add_emod]; unfold wrap64; omega
                       refine Kd.R_append_step (Kd.int .i64) (w0 := w) w.heap.size (by rfl) (.tmp 220) (.tmp 232) 39 2 (.int .i64 0) 8 rfl Tryd.underlying39 info2 rfl (by decide) (by omega) u23 x23_4 (wrap64 (IntKind.u32.wrap (IntKind.u32.wrap (rd l0 x24_4) + rd y133 x24_4))) [.int .i64 (wrap64 (IntKind.u32.wrap (IntKind.u32.wrap (rd l0 x24_4) + rd y133 x24_4)))] (fun _ => True) (fun _ => False) rfl rfl ?aP (fun _ hk => hk.elim) ?aF ?aO ?aB ?aS ?aL ?_
                       (case aP => exact rfl)
                       (case aB => exact (bX HB.out))
                       (case aF => exact (fun _ _ => trivial))
                       (case aO => exact (rX HO_23.out))
                       (case aS => exact (bZ (bX HB.out)))
                       (case aL => have := LMc84.out; omega)
                       intro v142 w87 ho hb hg hat
                       rw [hv_] at ho
                       rw [← Ny141.out] at ho
                       have _ := AM (Kd.R_over' (rX HO_22.out) (Kd.R_typed (rX HO_23.out)) (by decide) hg)
                       have _ := AM (hb)
                       have _ := AM (ho)
                       clear HO_22 HB HO_23
                       rename_i HO_22 HB HO143
                       clear ho hb hg hat
                       refine hK.out _ _ ?_
                       clear hK K
                       refine norm_ (a' := ?_) ?_ ?_
                       rotate_left
                       ·
                        show Act.put _ (some 233) _ = _
                        simp only [Act.put, sA, sB, sC, i64_w, i32_w]
                        rfl
                       refine pF 14 15 15 23 ?_
                       refine done_ (done_of HT_.out (by kernel_rfl)) ?_
                       try go_wp2
                       go_roundg k4
                       case measure => have := HK1.out; have := HK2.out; have := HK3.out; have := HK4.out; omega
                       case rel => exact ⟨(y141), (wrap64 (x24_4 + 1)), (by first | rfl | (simp; done) | (simp [*]; done)), H', ⟨by have := HK1.out; have := HK2.out; have := HK3.out; have := HK4.out; omega⟩, ⟨rX HO_22.out⟩, ⟨rX HO143.out⟩, ⟨bX HB.out⟩⟩
                      rw [if_neg c84] at H
                      exact absurd H (by simp)
                     rw [if_neg c83] at H
                     exact absurd H (by simp)
                    rw [if_neg c82] at H
                    exact absurd H (by simp)
                   rw [if_neg c81] at H
                   exact absurd H (by simp)
                  rw [if_neg c80] at H
                  have c80b0 : decide (x24_4 < 8) = false := decide_eq_false c80
                  clear c80
                  obtain rfl := Option.some.inj H
                  go_wp2
                  go_ret
                  exact ⟨_, by first | rfl | (simp [*, errW_none, errW_some] <;> rfl), rX HO_23.out, bX HB.out⟩
             rw [if_neg c58] at H
             exact absurd H (by simp)
            rw [if_neg c57] at H
            exact absurd H (by simp)
           rw [if_neg c56] at H
           exact absurd H (by simp)
          rw [if_neg c55] at H
          exact absurd H (by simp)
         rw [if_neg c54] at H
         exact absurd H (by simp)
        rw [if_neg c53] at H
        exact absurd H (by simp)
       rw [if_neg c52] at H
       exact absurd H (by simp)
      rw [if_neg c51] at H
      exact absurd H (by simp)
 rw [if_neg c3] at H
 exact absurd H (by simp)

end Go.Proofs.YtgpgamapopnfcaaDoor.Q
