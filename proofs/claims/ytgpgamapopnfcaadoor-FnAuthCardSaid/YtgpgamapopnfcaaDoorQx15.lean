/- Printed by a program of this session (wip/mp.py over the kit's print.py): functions of the translation as plain Lean functions, and that the machine's calls do what these say. -/
import Derived.Test.YtgpgamapopnfcaaDoorQx0
import Derived.Test.YtgpgamapopnfcaaDoorQx1
import Derived.Test.YtgpgamapopnfcaaDoorQx7
namespace Go.Proofs.YtgpgamapopnfcaaDoor.Q
open Go.RowKit Go.Proofs.YtgpgamapopnfcaaDoor.HB Go.Proofs.YtgpgamapopnfcaaDoorW.PrintWords Go.Proofs.YtgpgamapopnfcaaDoorW.PrintLast Go.Proofs.YtgpgamapopnfcaaDoorW.PrintMore
attribute [local go_sem] max2_int min2_int max_two min_two max_three min_three max_four min_four   -- for this text's walks alone
set_option linter.unusedVariables false
set_option linter.unusedSimpArgs false

/-! ### spec_l02All: function 29 (by hand) -/
def al_pad : Nat → List Int → Option (List Int)
  | 0, _ => none
  | n + 1, L => if L.length % 64 = 56 then some L else al_pad n (L ++ [0])
def al_len (b : Int) : Nat → List Int → List Int
  | 0, L => L
  | n + 1, L => al_len b n (L ++ [b / 2 ^ (8 * n) % 256])
def al_B (B : List Int) : Nat → Nat → List Int → Option (List Int)
  | 0, _, _ => none
  | n + 1, i, S => if i < B.length then (if i + 64 ≤ B.length then (spec_l02Block.f 300 S (strOfNums ((B.drop i).take 64))).bind fun S' => al_B B n (i + 64) S' else none) else some S
def al_O (S : List Int) : Nat → Nat → List Int → List Int
  | 0, _, o => o
  | n + 1, i, o => al_O S n (i + 1) (o ++ [rd S (i : Int) / 16777216 % 256, rd S (i : Int) / 65536 % 256, rd S (i : Int) / 256 % 256, rd S (i : Int) % 256])
def spec_l02All.f (a0 : ByteArray) : Option ByteArray := if a0.size ≤ 1000000 then (al_pad 65 (byt a0 ++ [128])).bind fun L => spec_l02Start.f.bind fun S0 => (al_B (al_len (8 * (a0.size : Int)) 8 L) 20000 0 S0).bind fun S => if S.length = 8 then some (strOfNums (al_O S 8 0 [])) else none else none
theorem al_pad_len : ∀ (n : Nat) (L B : List Int), al_pad n L = some B → B.length ≤ L.length + n
  | 0, _, _, h => by simp [al_pad] at h
  | n + 1, L, B, h => by
    simp only [al_pad] at h
    split at h
    · obtain rfl := Option.some.inj h; omega
    · have := al_pad_len n _ _ h; simp at this; omega
theorem al_len_len (b : Int) : ∀ (n : Nat) (L : List Int), (al_len b n L).length = L.length + n
  | 0, _ => by simp [al_len]
  | n + 1, L => by simp only [al_len]; rw [al_len_len b n]; simp; omega
set_option maxHeartbeats 4000000 in
set_option maxRecDepth 100000 in
theorem spec_l02All.calls (a0 : ByteArray) (r : ByteArray) (w : World) (h : spec_l02All.f a0 = some r) :
    Calls Tryd.prog 29 #[.string a0] w fun e w' => e = .returned (.string r) ∧ Below w.heap.size w w' := by
  obtain ⟨Lp, S0, S, HZ, E1, E2, E3, E4, E5⟩ : ∃ Lp S0 S, Aside0 (a0.size ≤ 1000000) ∧ Aside0 (al_pad 65 (byt a0 ++ [128]) = some Lp) ∧ Aside0 (spec_l02Start.f = some S0) ∧ Aside0 (al_B (al_len (8 * (a0.size : Int)) 8 Lp) 20000 0 S0 = some S) ∧ Aside0 (S.length = 8) ∧ Aside0 (strOfNums (al_O S 8 0 []) = r) := by
    unfold spec_l02All.f at h
    by_cases c : a0.size ≤ 1000000
    · rw [if_pos c] at h
      obtain ⟨Lp, h1, h⟩ := Option.bind_eq_some_iff.mp h
      obtain ⟨S0, h2, h⟩ := Option.bind_eq_some_iff.mp h
      obtain ⟨S, h3, h⟩ := Option.bind_eq_some_iff.mp h
      by_cases c2 : S.length = 8
      · rw [if_pos c2] at h
        exact ⟨Lp, S0, S, ⟨c⟩, ⟨h1⟩, ⟨h2⟩, ⟨h3⟩, ⟨c2⟩, ⟨Option.some.inj h⟩⟩
      · rw [if_neg c2] at h; cases h
    · rw [if_neg c] at h; cases h
  clear h
  have hu31 := Tryd.underlying31
  have hu9 := Tryd.underlying9
  have hu5 := Tryd.underlying5
  have HB := Aside0.mk (Below.refl w.heap.size w)
  have BR0 := Aside0.mk (byt_row w w.heap.size (Nat.le_refl _) a0 (by have := HZ.out; simp only [maxLen]; omega))
  have HB1 := Aside0.mk (byt_below HB.out (Nat.le_refl _) a0)
  have hcs := Go.Lib.run_convert_string_bytes (P := Tryd.prog) w 9 31 5 a0 Tryd.underlying9 Tryd.underlying31 Tryd.underlying5
  obtain ⟨w1, hw1⟩ : ∃ w1, w1 = Go.Lib.bytesWorld w 5 a0 := ⟨_, rfl⟩
  rw [← hw1] at BR0 HB1 hcs
  obtain ⟨v1, hv1⟩ : ∃ v1, v1 = Value.slice (some ⟨w.heap.size, 0, none⟩) a0.size (grownCap w a0.size 0 5) := ⟨_, rfl⟩
  rw [← hv1] at BR0 hcs
  clear hw1 hv1 HB
  go_enter Tryd.func29, Tryd.ntmps29
  go_wp2_with (first | ((with_reducible refine gate_builtin (b := .append) (xs := #[.tmp 12, .tmp 13]) rfl ?_); at_builtin; refine BRow.append (w0 := w) w.heap.size rfl (.tmp 12) (.tmp 13) 31 (.int .u8 0) rfl Tryd.underlying31 info5 rfl v1 (byt a0) [128] rfl rfl BR0.out HB1.out HB1.out.size (by rw [byt_length]; have := HZ.out; simp only [List.length_singleton]; omega) ?_; intro v2 w2 hbr hb hg; have BR := Aside0.mk hbr; have HB := Aside0.mk hb; clear hbr hb hg BR0 HB1))
  clear hcs
  go_loopg [3] 65 (fun kq v3 w' => ∃ (L : List Int), Aside0 (al_pad kq L = some Lp) ∧ Aside0 (L.length + kq ≤ 1000066) ∧ Aside0 (BRow w' w.heap.size v3 L) ∧ Aside0 (Below w.heap.size w w'))
  case atStart => exact ⟨_, E1, ⟨by rw [List.length_append, byt_length]; have := HZ.out; simp; omega⟩, BR, HB⟩
  case round =>
    clear E1 BR HB
    obtain ⟨L, E1, HL, BR, HB⟩ := hrel
    cases gk with
    | zero => exact absurd E1.out (by simp [al_pad])
    | succ k1 =>
    obtain ⟨g, cap, rfl, _, _, _, _, _⟩ := BR.out.cell
    by_cases h56 : L.length % 64 = 56
    · have c1 : ((L.length : Int) % 64 != 56) = false := by simp; omega
      have E2' : Aside0 (L = Lp) := ⟨by have := E1.out; simp only [al_pad] at this; rw [if_pos h56] at this; exact Option.some.inj this⟩
      go_wp2
      have ew : IntKind.u64.wrap (wrap64 (8 * (a0.size : Int))) = 8 * (a0.size : Int) := by
        have := HZ.out
        have e1 : wrap64 (8 * (a0.size : Int)) = 8 * (a0.size : Int) := by unfold wrap64; omega
        rw [e1]
        simp only [IntKind.wrap, IntKind.signed, IntKind.bits]
        simp
        omega
      rw [ew]
      obtain ⟨Bf, hBf⟩ : ∃ B, B = al_len (8 * (a0.size : Int)) 8 Lp := ⟨_, rfl⟩
      have LBf : Aside0 (Bf.length ≤ 1000100) := ⟨by rw [hBf, al_len_len, ← E2'.out]; have := HL.out; omega⟩
      have E3' : Aside0 (al_B Bf 20000 0 S0 = some S) := ⟨by rw [hBf]; exact E3.out⟩
      have E6 : Aside0 (al_len (8 * (a0.size : Int)) 8 L = Bf) := ⟨by rw [hBf, E2'.out]⟩
      clear hBf E3 E1 E2' h56 c1 ew
      go_loopg [3, 5] 9 (fun kq v3 v5 w' => ∃ (m : Nat) (L : List Int), v5 = .int .i64 (8 * (m : Int) - 8) ∧ Aside0 (kq = m + 1) ∧ Aside0 (m ≤ 8) ∧ Aside0 (L.length + m ≤ 1000100) ∧ Aside0 (al_len (8 * (a0.size : Int)) m L = Bf) ∧ Aside0 (BRow w' w.heap.size v3 L) ∧ Aside0 (Below w.heap.size w w'))
      case atStart => exact ⟨8, L, rfl, ⟨rfl⟩, ⟨by decide⟩, ⟨by have := HL.out; omega⟩, E6, BR, HB⟩
      case round =>
        clear E6 BR HB HL
        obtain ⟨m, L, hv, HK, HM, HL, E6, BR, HB⟩ := hrel
        cases gk with
        | zero => exact absurd HK.out (by omega)
        | succ k2 =>
        obtain ⟨g, cap, rfl, _, _, _, _, _⟩ := BR.out.cell
        cases m with
        | zero =>
          obtain rfl := hv
          have c1 : decide (0 ≤ (8 * ((0 : Nat) : Int) - 8)) = false := by decide
          obtain rfl : L = Bf := E6.out
          clear E6
          go_wp2_with (first | ((with_reducible refine gate_callee (f := 48) rfl ?_); refine goesL_ (some 38) rfl rfl Tryd.func48 (by kernel_rfl) rfl #[] rfl (by (try simp only [mA, mB, mC]); first | done | rfl | (simp only [mD, mE]; rfl)) ?_; (with_reducible refine (spec_l02Start.calls S0 _ E2.out).mono ?_); rintro e w62 ⟨v123, rfl, ho0, hb⟩; refine ⟨_, rfl, ?_⟩; have HR := Aside0.mk (Kd.R_lower ho0 HB.out.size); have BR1 := Aside0.mk (BR.out.below hb); have HB1 := Aside0.mk (below_step HB.out hb); clear ho0 hb BR HB))
          clear E2 c1
          go_loopg [6, 7] 20000 (fun kq v6 v7 w' => ∃ (i : Nat) (Sx : List Int), v7 = .int .i64 (i : Int) ∧ Aside0 (i ≤ 1000200) ∧ Aside0 (al_B L kq i Sx = some S) ∧ Aside0 (Kd.R (Kd.int .i64) 2 w' w.heap.size (fun _ => True) v6 Sx) ∧ Aside0 (BRow w' w.heap.size (.slice (some ⟨g, 0, none⟩) L.length cap) L) ∧ Aside0 (Below w.heap.size w w'))
          case atStart => exact ⟨0, S0, rfl, ⟨by decide⟩, E3', HR, BR1, HB1⟩
          case round =>
            clear E3' HR BR1 HB1
            obtain ⟨i, Sx, rfl, HI, E3, HR, BR, HB⟩ := hrel
            cases gk with
            | zero => exact absurd E3.out (by simp [al_B])
            | succ k3 =>
            by_cases hlt : i < L.length
            · obtain ⟨A, c, rfl, hSc, hSC⟩ := Kd.R_reads HR.out
              have c1 : decide ((i : Int) < (L.length : Int)) = true := decide_eq_true (by omega)
              have c2 : decide (i < L.length) = true := decide_eq_true (by omega)
              obtain ⟨S', h64, A1, E4'⟩ : ∃ S', Aside0 (i + 64 ≤ L.length) ∧ Aside0 (spec_l02Block.f 300 Sx (strOfNums ((L.drop i).take 64)) = some S') ∧ Aside0 (al_B L k3 (i + 64) S' = some S) := by
                have := E3.out
                simp only [al_B] at this
                rw [if_pos hlt] at this
                by_cases h64 : i + 64 ≤ L.length
                · rw [if_pos h64] at this
                  obtain ⟨S', h1, h2⟩ := Option.bind_eq_some_iff.mp this
                  exact ⟨S', ⟨h64⟩, ⟨h1⟩, ⟨h2⟩⟩
                · rw [if_neg h64] at this; cases this
              obtain ⟨g', cap', hv', _, _, hcap, _, hcell⟩ := BR.out.cell
              obtain ⟨e1, e2⟩ : g = g' ∧ cap = cap' := by simpa using hv'
              subst e1; subst e2
              have h64' := h64.out
              have hI := HI.out
              obtain ⟨i2, hi2⟩ : ∃ i2 : Nat, i2 = i + 64 := ⟨_, rfl⟩
              have HI2 : Aside0 (i2 ≤ 1000200) := ⟨by have := LBf.out; omega⟩
              have E4'' : Aside0 (al_B L k3 i2 S' = some S) := ⟨by rw [hi2]; exact E4'.out⟩
              have p1 : decide ((i2 : Int) ≤ (cap : Int)) = true := decide_eq_true (by omega)
              have p2 : decide (i2 ≤ cap) = true := decide_eq_true (by omega)
              have p3 : decide (i ≤ i2) = true := decide_eq_true (by omega)
              have p4 : decide (cap = i) = false := decide_eq_false (by omega)
              have p5 : (cap = i) = False := eq_false (by omega)
              have p6 : decide (0 ≤ (i : Int)) = true := decide_eq_true (by omega)
              have p7 : (i2 ≤ cap) = True := eq_true (by omega)
              have p8 : (i ≤ i2) = True := eq_true (by omega)
              have p9 : ((i2 : Int) ≤ (cap : Int)) = True := eq_true (by omega)
              have hcv := run_convert_bytes_arg (P := Tryd.prog) wr 31 5 Tryd.underlying31 Tryd.underlying5 g i (i2 - i) (cap - i) ((L.drop i).take 64) (by rw [List.length_take, List.length_drop]; omega) (fun j hj => by rw [hcell (i + j) (by omega)]; congr 2; simp [List.getD, List.getElem?_take, show j < 64 by omega]) 9 Tryd.underlying9
              have e4 : wrap64 ((i : Int) + 64) = (i2 : Int) := by rw [hi2]; unfold wrap64; omega
              have e5 : IntKind.i64.wrap ((i : Int) + 64) = (i2 : Int) := by rw [i64_w]; exact e4
              clear hi2 E4'
              clear h64' hI hv' hcell E3
              have HC1 := Aside0.mk hSC
              have HC2 := Aside0.mk hSc
              clear hSC hSc
              go_wp2_with (first | ((with_reducible refine gate_callee (f := 49) rfl ?_); refine goesL_ (some 52) rfl rfl Tryd.func49 (by kernel_rfl) rfl #[.slice A Sx.length c, .string (strOfNums (List.take 64 (List.drop i L)))] rfl (by (try simp only [mA, mB, mC]); first | done | rfl | (simp only [mD, mE]; rfl)) ?_; (with_reducible refine (spec_l02Block.calls 300 A c Sx (strOfNums (List.take 64 (List.drop i L))) S' _ HC1.out HC2.out A1.out).mono ?_); rintro e w62 ⟨v123, rfl, ho0, hb⟩; refine ⟨_, rfl, ?_⟩; have HR1 := Aside0.mk (Kd.R_lower ho0 HB.out.size); have BR1 := Aside0.mk (BR.out.below hb); have HB1 := Aside0.mk (below_step HB.out hb); clear ho0 hb BR HB HR HC1 HC2 hcv))
              go_roundg k3
              case measure => omega
              case rel => exact ⟨i2, S', rfl, HI2, E4'', HR1, BR1, HB1⟩
            · have c1 : decide ((i : Int) < (L.length : Int)) = false := decide_eq_false (by omega)
              have c2 : decide (i < L.length) = false := decide_eq_false (by omega)
              obtain rfl : Sx = S := by
                have := E3.out
                simp only [al_B] at this
                rw [if_neg hlt] at this
                exact Option.some.inj this
              obtain ⟨gA, cA, rfl, gb10, gl10, cl10, HG10⟩ := Kd.R_form HR.out (by have := E4.out; omega)
              obtain ⟨W, hW⟩ : ∃ W, W = wr := ⟨_, rfl⟩
              have HQ : Aside0 (∀ j : Nat, j < 8 → W.cell? ⟨gA, j, none⟩ = some (.int .i64 (rd Sx (j : Int)))) := ⟨fun j hj => by
                rw [hW]
                have := (Kd.R_celln 0 HR.out (j : Int) (by omega) (by have := E4.out; omega)).1
                rw [Int.toNat_natCast] at this; exact this⟩
              have E8 : Aside0 (Sx.length = 8) := E4
              have e8 : Sx.length = 8 := E4.out
              have HBW : Aside0 (Below w.heap.size w W) := ⟨by rw [hW]; exact HB.out⟩
              have BE : Aside0 (BRow (wr.alloc (.cells #[] 5)) W.heap.size (.slice (some ⟨wr.heap.size, 0, none⟩) 0 0) []) := ⟨by rw [hW]; exact ⟨wr.heap.size, 0, #[], (0, 0), rfl, Nat.le_refl _, heap_alloc_new wr _, Or.inl rfl, by simp, by simp, rfl, rfl⟩⟩
              have HBE : Aside0 (Below W.heap.size W (wr.alloc (.cells #[] 5))) := ⟨by rw [hW]; exact (Below.refl _ _).alloc (Nat.le_refl _) _⟩
              clear HG10 cl10 gl10 gb10 HR HB BR E3 hlt E4 HI LBf hW
              rw [e8]
              clear e8
              go_wp2
              go_loopg [8, 9] 9 (fun kq v8 v9 w' => ∃ (j : Nat) (o : List Int), v9 = .int .i64 (j : Int) ∧ Aside0 (kq + j = 9) ∧ Aside0 (j ≤ 8) ∧ Aside0 (o.length ≤ 4 * j) ∧ Aside0 (strOfNums (al_O Sx (8 - j) j o) = r) ∧ Aside0 (BRow w' W.heap.size v8 o) ∧ Aside0 (Below W.heap.size W w'))
              case atStart => exact ⟨0, [], rfl, ⟨rfl⟩, ⟨by decide⟩, ⟨by simp⟩, E5, BE, HBE⟩
              case round =>
                clear E5 BE HBE
                obtain ⟨j, o, rfl, HK4, HJ, HO, E5, BO, HBO⟩ := hrel
                cases gk with
                | zero => exact absurd HK4.out (by have := HJ.out; omega)
                | succ k4 =>
                by_cases hlt : j < 8
                · have c1 : decide ((j : Int) < 8) = true := decide_eq_true (by omega)
                  have c2 : decide (j < 8) = true := decide_eq_true (by omega)
                  have G0 : decide (0 ≤ (j : Int)) = true := decide_eq_true (by omega)
                  have G1 : decide ((j : Int) < ((8 : Nat) : Int)) = true := decide_eq_true (by omega)
                  have q1 := pw_cell_below HBO.out (HQ.out j hlt)
                  obtain ⟨n, hn⟩ : ∃ n, 8 - j = n + 1 := ⟨7 - j, by omega⟩
                  have HN := Aside0.mk hn
                  clear hn
                  have E9 : Aside0 (strOfNums (al_O Sx n (j + 1) (o ++ [rd Sx (j : Int) / 16777216 % 256, rd Sx (j : Int) / 65536 % 256, rd Sx (j : Int) / 256 % 256, rd Sx (j : Int) % 256])) = r) := ⟨by have := E5.out; rw [HN.out] at this; exact this⟩
                  clear E5
                  have HO1 : o.length + 4 ≤ 140737488355328 := by have := HO.out; omega
                  have HOL := Aside0.mk HO1
                  clear HO1
                  go_wp2_with (first | ((with_reducible refine gate_builtin (b := .append) (xs := #[.tmp 62, .tmp 74]) rfl ?_); at_builtin; refine BRow.append (w0 := W) W.heap.size rfl (.tmp 62) (.tmp 74) 31 (.int .u8 0) rfl Tryd.underlying31 info5 rfl _ o [rd Sx (j : Int) / 16777216 % 256, rd Sx (j : Int) / 65536 % 256, rd Sx (j : Int) / 256 % 256, rd Sx (j : Int) % 256] rfl rfl BO.out HBO.out HBO.out.size HOL.out ?_; intro v3 w3 hbr hb hg; have BR1 := Aside0.mk hbr; have HB1 := Aside0.mk hb; clear hbr hb hg BO HBO))
                  go_roundg k4
                  case measure => omega
                  case rel => exact ⟨j + 1, _, rfl, ⟨by have := HK4.out; omega⟩, ⟨by omega⟩, ⟨by have := HO.out; simp; omega⟩, ⟨by rw [show 8 - (j + 1) = n by have := HN.out; omega]; exact E9.out⟩, BR1, HB1⟩
                · obtain rfl : j = 8 := by have := HJ.out; omega
                  have c1 : decide ((8 : Int) < 8) = false := by decide
                  have hcv := BRow.string (P := Tryd.prog) (dst := 9) Tryd.underlying31 Tryd.underlying5 Tryd.underlying9 BO.out
                  have E6 : strOfNums o = r := E5.out
                  rw [E6] at hcv
                  go_wp2
                  go_ret
                  exact ⟨rfl, below_step HBW.out HBO.out⟩
        | succ n =>
          have e8 : (8 * ((n + 1 : Nat) : Int) - 8) = 8 * (n : Int) := by omega
          rw [e8] at hv
          obtain rfl := hv
          have c1 : decide (0 ≤ 8 * (n : Int)) = true := decide_eq_true (by omega)
          have hq : 8 * (a0.size : Int) / 2 ^ min (IntKind.u64.wrap (8 * (n : Int))).toNat 64 % 256 = 8 * (a0.size : Int) / 2 ^ (8 * n) % 256 := by
            have := HM.out
            have e1 : IntKind.u64.wrap (8 * (n : Int)) = 8 * (n : Int) := by
              simp only [IntKind.wrap, IntKind.signed, IntKind.bits]
              simp
              omega
            rw [e1, show (8 * (n : Int)).toNat = 8 * n by omega, Nat.min_eq_left (by omega)]
          have E7 : Aside0 (al_len (8 * (a0.size : Int)) n (L ++ [8 * (a0.size : Int) / 2 ^ min (IntKind.u64.wrap (8 * (n : Int))).toNat 64 % 256]) = Bf) := ⟨by rw [hq]; exact E6.out⟩
          clear E6 hq e8
          go_wp2_with (first | ((with_reducible refine gate_builtin (b := .append) (xs := #[.tmp 30, .tmp 36]) rfl ?_); at_builtin; refine BRow.append (w0 := w) w.heap.size rfl (.tmp 30) (.tmp 36) 31 (.int .u8 0) rfl Tryd.underlying31 info5 rfl (.slice (some ⟨g, 0, none⟩) L.length cap) L [8 * (a0.size : Int) / 2 ^ min (IntKind.u64.wrap (8 * (n : Int))).toNat 64 % 256] rfl rfl BR.out HB.out HB.out.size (by have := HL.out; simp only [List.length_singleton]; omega) ?_; intro v3 w3 hbr hb hg; have BR1 := Aside0.mk hbr; have HB1 := Aside0.mk hb; clear hbr hb hg BR HB))
          go_roundg k2
          case measure => omega
          case rel => exact ⟨n, _, by congr 1; unfold wrap64; have := HM.out; omega, ⟨by have := HK.out; omega⟩, ⟨by have := HM.out; omega⟩, ⟨by have := HL.out; simp; omega⟩, E7, BR1, HB1⟩
    · have c1 : ((L.length : Int) % 64 != 56) = true := by simp; omega
      have E2 : Aside0 (al_pad k1 (L ++ [0]) = some Lp) := ⟨by have := E1.out; simp only [al_pad] at this; rw [if_neg h56] at this; exact this⟩
      go_wp2_with (first | ((with_reducible refine gate_builtin (b := .append) (xs := #[.tmp 19, .tmp 20]) rfl ?_); at_builtin; refine BRow.append (w0 := w) w.heap.size rfl (.tmp 19) (.tmp 20) 31 (.int .u8 0) rfl Tryd.underlying31 info5 rfl (.slice (some ⟨g, 0, none⟩) L.length cap) L [0] rfl rfl BR.out HB.out HB.out.size (by have := HL.out; simp only [List.length_singleton]; omega) ?_; intro v3 w3 hbr hb hg; have BR1 := Aside0.mk hbr; have HB1 := Aside0.mk hb; clear hbr hb hg BR HB))
      go_roundg k1
      case measure => omega
      case rel => exact ⟨L ++ [0], E2, ⟨by have := HL.out; simp; omega⟩, BR1, HB1⟩


/-! ### spec_PairKey: function 7 -/

def spec_PairKey.j0 : Nat → ByteArray → Int → Int → Bool → Option (ByteArray)
  | 0, _, _, _, _ => none
  | k + 1, x0, x1, x2, x29 => if x29 = true then (some (⟨#[]⟩ : ByteArray)) else ((spec_l01Min.f x1 x2).bind fun t103 => ((spec_l01Dec.f k t103).bind fun t104 => (if x0.size + t104.size ≤ 9223372036854775807 then ((spec_l01Max.f x1 x2).bind fun t105 => ((spec_l01Dec.f k t105).bind fun t106 => (if (x0 ++ t104).size + t106.size ≤ 9223372036854775807 then ((spec_l02All.f ((x0 ++ t104) ++ t106)).bind fun t107 => (some t107)) else (none)))) else (none))))
def spec_PairKey.f (k : Nat) (a0 : ByteArray) (a1 : Int) (a2 : Int) : Option (ByteArray) := if (a0.size : Int) < 1 then (spec_PairKey.j0 k a0 a1 a2 true) else (if (a0.size : Int) > 60 then (spec_PairKey.j0 k a0 a1 a2 true) else ((spec_l09Who.f a1).bind fun t101 => (if t101 = true then ((spec_l09Who.f a2).bind fun t102 => (if t102 = true then (spec_PairKey.j0 k a0 a1 a2 (a1 == a2)) else (spec_PairKey.j0 k a0 a1 a2 true))) else (spec_PairKey.j0 k a0 a1 a2 true))))
theorem spec_PairKey.mono_l : ∀ k, (∀ y0 y1 y2 y3, LeO (spec_PairKey.j0 k y0 y1 y2 y3) (spec_PairKey.j0 (k + 1) y0 y1 y2 y3))
  | 0 => fun _ _ _ _ r h => by simp [spec_PairKey.j0] at h
  | k + 1 => by
    have ih0 := spec_PairKey.mono_l k
    · intro y0 y1 y2 y3
      unfold spec_PairKey.j0
      repeat' first
      | (with_reducible exact ih0 _ _ _ _)
      | (with_reducible exact spec_l01Dec.mono _ _)
      | (with_reducible exact LeO.refl _)
      | (with_reducible exact LeO.none _)
      | (with_reducible refine LeO.ite ?_ ?_)
      | (with_reducible refine LeO.bind ?_ (fun _ => ?_))
      | exact ih0 _ _ _ _
      | exact spec_l01Dec.mono _ _
      | exact LeO.none _
      | refine LeO.ite ?_ ?_
      | refine LeO.bind ?_ (fun _ => ?_)
theorem spec_PairKey.mono : ∀ a0 a1 a2 k, LeO (spec_PairKey.f k a0 a1 a2) (spec_PairKey.f (k + 1) a0 a1 a2) := by
  intro a0 a1 a2 k
  have ih0 := spec_PairKey.mono_l k
  unfold spec_PairKey.f
  repeat' first
      | (with_reducible exact ih0 _ _ _ _)
      | (with_reducible exact spec_l01Dec.mono _ _)
      | (with_reducible exact LeO.refl _)
      | (with_reducible exact LeO.none _)
      | (with_reducible refine LeO.ite ?_ ?_)
      | (with_reducible refine LeO.bind ?_ (fun _ => ?_))
      | exact ih0 _ _ _ _
      | exact spec_l01Dec.mono _ _
      | exact LeO.none _
      | refine LeO.ite ?_ ?_
      | refine LeO.bind ?_ (fun _ => ?_)
set_option maxHeartbeats 60000000 in
set_option maxRecDepth 100000 in
theorem spec_PairKey.calls (k : Nat) (a0 : ByteArray) (a1 : Int) (a2 : Int) (r : ByteArray) (w : World) (h : spec_PairKey.f k a0 a1 a2 = some r) :
    Calls Tryd.prog 7 #[.string a0, .int .i64 a1, .int .i64 a2] w fun e w' => e = .returned (.string r) ∧ Below w.heap.size w w' := by
 have HB := AM (Below.refl w.heap.size w)
 have H : (if (a0.size : Int) < 1 then (spec_PairKey.j0 k a0 a1 a2 true) else (if (a0.size : Int) > 60 then (spec_PairKey.j0 k a0 a1 a2 true) else ((spec_l09Who.f a1).bind fun t101 => (if t101 = true then ((spec_l09Who.f a2).bind fun t102 => (if t102 = true then (spec_PairKey.j0 k a0 a1 a2 (a1 == a2)) else (spec_PairKey.j0 k a0 a1 a2 true))) else (spec_PairKey.j0 k a0 a1 a2 true))))) = some r := h
 clear h
 have HC4 := AM H
 clear H
 go_enter Tryd.func7, Tryd.ntmps7
 go_upto_region 1 with (fail)
 go_cut [29] (fun v29 wc => ∃ (kq : Nat) (x29_3 : Bool), v29 = .bool x29_3 ∧ Aside0 (spec_PairKey.j0 kq a0 a1 a2 x29_3 = some r) ∧ Aside0 (kq ≤ k) ∧ Aside0 (Below w.heap.size w wc))
 case first =>
  have H := HC4.out
  clear HC4
  by_cases c5 : (a0.size : Int) < 1
  ·
   rw [if_pos c5] at H
   have c5b0 : decide ((a0.size : Int) < 1) = true := decide_eq_true c5
   have c5b1 : decide (a0.size < 1) = true := decide_eq_true (by omega)
   clear c5
   (first | rw [c5b0] | (simp only [i64_w, i32_w]; rw [c5b0]) | skip)
   have H' := AM H
   clear H
   go_wp2
   go_meet
   case rel => exact ⟨_, (true), (by first | rfl | (simp; done) | (simp [*]; done)), H', ⟨by first | omega | exact Nat.le_refl _⟩, ⟨bX HB.out⟩⟩
  rw [if_neg c5] at H
  have c5b0 : decide ((a0.size : Int) < 1) = false := decide_eq_false c5
  have c5b1 : decide (a0.size < 1) = false := decide_eq_false (by omega)
  clear c5
  (first | rw [c5b0] | (simp only [i64_w, i32_w]; rw [c5b0]) | skip)
  by_cases c6 : (a0.size : Int) > 60
  ·
   rw [if_pos c6] at H
   have c6b0 : decide (60 < (a0.size : Int)) = true := decide_eq_true c6
   have c6b1 : decide (60 < a0.size) = true := decide_eq_true (by omega)
   clear c6
   have H' := AM H
   clear H
   go_wp2
   go_meet
   case rel => exact ⟨_, (true), (by first | rfl | (simp; done) | (simp [*]; done)), H', ⟨by first | omega | exact Nat.le_refl _⟩, ⟨bX HB.out⟩⟩
  rw [if_neg c6] at H
  have c6b0 : decide (60 < (a0.size : Int)) = false := decide_eq_false c6
  have c6b1 : decide (60 < a0.size) = false := decide_eq_false (by omega)
  clear c6
  replace H := Option.bind_eq_some_iff.mp H
  obtain ⟨t101, A70, H⟩ := H
  replace H : (if t101 = true then ((spec_l09Who.f a2).bind fun t102 => (if t102 = true then (spec_PairKey.j0 k a0 a1 a2 (a1 == a2)) else (spec_PairKey.j0 k a0 a1 a2 true))) else (spec_PairKey.j0 k a0 a1 a2 true)) = some r := H
  have A7 := AM A70
  clear A70
  by_cases c8 : t101 = true
  ·
   subst c8
   have H1 : ((spec_l09Who.f a2).bind fun t102 => (if t102 = true then (spec_PairKey.j0 k a0 a1 a2 (a1 == a2)) else (spec_PairKey.j0 k a0 a1 a2 true))) = some r := by rw [if_pos rfl] at H; exact H
   clear H
   have H := H1
   clear H1
   replace H := Option.bind_eq_some_iff.mp H
   obtain ⟨t102, A90, H⟩ := H
   replace H : (if t102 = true then (spec_PairKey.j0 k a0 a1 a2 (a1 == a2)) else (spec_PairKey.j0 k a0 a1 a2 true)) = some r := H
   have A9 := AM A90
   clear A90
   by_cases c10 : t102 = true
   ·
    subst c10
    have H1 : (spec_PairKey.j0 k a0 a1 a2 (a1 == a2)) = some r := by rw [if_pos rfl] at H; exact H
    clear H
    have H := H1
    clear H1
    have H' := AM H
    clear H
    go_wp2_with (first | (go_at_call 28; (with_reducible refine (spec_l09Who.calls a1 true _ A7.out).mono ?_); rintro e w' ⟨rfl, ⟨nd, rfl⟩⟩) | (go_at_call 28; (with_reducible refine (spec_l09Who.calls a2 true _ A9.out).mono ?_); rintro e w' ⟨rfl, ⟨nd, rfl⟩⟩))
    go_meet
    case rel => exact ⟨_, ((a1 == a2)), (by first | rfl | (simp; done) | (simp [*]; done)), H', ⟨by first | omega | exact Nat.le_refl _⟩, ⟨bX HB.out⟩⟩
   replace c10 := Bool.eq_false_iff.mpr c10
   subst c10
   have H1 : (spec_PairKey.j0 k a0 a1 a2 true) = some r := by rw [if_neg (show ¬ (false = true) by decide)] at H; exact H
   clear H
   have H := H1
   clear H1
   have H' := AM H
   clear H
   go_wp2_with (first | (go_at_call 28; (with_reducible refine (spec_l09Who.calls a1 true _ A7.out).mono ?_); rintro e w' ⟨rfl, ⟨nd, rfl⟩⟩) | (go_at_call 28; (with_reducible refine (spec_l09Who.calls a2 false _ A9.out).mono ?_); rintro e w' ⟨rfl, ⟨nd, rfl⟩⟩))
   go_meet
   case rel => exact ⟨_, (true), (by first | rfl | (simp; done) | (simp [*]; done)), H', ⟨by first | omega | exact Nat.le_refl _⟩, ⟨bX HB.out⟩⟩
  replace c8 := Bool.eq_false_iff.mpr c8
  subst c8
  have H1 : (spec_PairKey.j0 k a0 a1 a2 true) = some r := by rw [if_neg (show ¬ (false = true) by decide)] at H; exact H
  clear H
  have H := H1
  clear H1
  have H' := AM H
  clear H
  go_wp2_with (first | (go_at_call 28; (with_reducible refine (spec_l09Who.calls a1 false _ A7.out).mono ?_); rintro e w' ⟨rfl, ⟨nd, rfl⟩⟩))
  go_meet
  case rel => exact ⟨_, (true), (by first | rfl | (simp; done) | (simp [*]; done)), H', ⟨by first | omega | exact Nat.le_refl _⟩, ⟨bX HB.out⟩⟩
 case rest =>
  clear HC4
  (try clear c1); (try clear p2); (try clear c5); (try clear c5b0); (try clear c5b1); (try clear c6); (try clear c6b0); (try clear c6b1); (try clear c7); (try clear c8); (try clear c10)
  obtain ⟨kq, x29_3, rfl, HA, HJ3, HB⟩ := hcut
  cases kq with
  | zero => exact absurd HA.out (by simp [spec_PairKey.j0])
  | succ kj3 =>
   have H := HA.out
   clear HA
   simp only [spec_PairKey.j0] at H
   by_cases c11 : x29_3 = true
   ·
    subst c11
    have H1 : (some (⟨#[]⟩ : ByteArray)) = some r := by rw [if_pos rfl] at H; exact H
    clear H
    have H := H1
    clear H1
    obtain rfl := Option.some.inj H
    go_wp2
    go_ret
    exact ⟨by first | rfl | (simp [*, errW_none, errW_some] <;> rfl), bX HB.out⟩
   replace c11 := Bool.eq_false_iff.mpr c11
   subst c11
   have H1 : ((spec_l01Min.f a1 a2).bind fun t103 => ((spec_l01Dec.f kj3 t103).bind fun t104 => (if a0.size + t104.size ≤ 9223372036854775807 then ((spec_l01Max.f a1 a2).bind fun t105 => ((spec_l01Dec.f kj3 t105).bind fun t106 => (if (a0 ++ t104).size + t106.size ≤ 9223372036854775807 then ((spec_l02All.f ((a0 ++ t104) ++ t106)).bind fun t107 => (some t107)) else (none)))) else (none)))) = some r := by rw [if_neg (show ¬ (false = true) by decide)] at H; exact H
   clear H
   have H := H1
   clear H1
   replace H := Option.bind_eq_some_iff.mp H
   obtain ⟨t103, A120, H⟩ := H
   replace H : ((spec_l01Dec.f kj3 t103).bind fun t104 => (if a0.size + t104.size ≤ 9223372036854775807 then ((spec_l01Max.f a1 a2).bind fun t105 => ((spec_l01Dec.f kj3 t105).bind fun t106 => (if (a0 ++ t104).size + t106.size ≤ 9223372036854775807 then ((spec_l02All.f ((a0 ++ t104) ++ t106)).bind fun t107 => (some t107)) else (none)))) else (none))) = some r := H
   have A12 := AM A120
   clear A120
   replace H := Option.bind_eq_some_iff.mp H
   obtain ⟨t104, A130, H⟩ := H
   replace H : (if a0.size + t104.size ≤ 9223372036854775807 then ((spec_l01Max.f a1 a2).bind fun t105 => ((spec_l01Dec.f kj3 t105).bind fun t106 => (if (a0 ++ t104).size + t106.size ≤ 9223372036854775807 then ((spec_l02All.f ((a0 ++ t104) ++ t106)).bind fun t107 => (some t107)) else (none)))) else (none)) = some r := H
   have A13 := AM A130
   clear A130
   by_cases c14 : a0.size + t104.size ≤ 9223372036854775807
   ·
    rw [if_pos c14] at H
    have c14b0 := eq_true c14
    have c14b1 : decide (a0.size + t104.size ≤ 9223372036854775807) = true := decide_eq_true c14
    try have c14b2 : (9223372036854775807 < a0.size + t104.size) = False := eq_false (Nat.not_lt.2 c14)
    replace H := Option.bind_eq_some_iff.mp H
    obtain ⟨t105, A150, H⟩ := H
    replace H : ((spec_l01Dec.f kj3 t105).bind fun t106 => (if (a0 ++ t104).size + t106.size ≤ 9223372036854775807 then ((spec_l02All.f ((a0 ++ t104) ++ t106)).bind fun t107 => (some t107)) else (none))) = some r := H
    have A15 := AM A150
    clear A150
    replace H := Option.bind_eq_some_iff.mp H
    obtain ⟨t106, A160, H⟩ := H
    replace H : (if (a0 ++ t104).size + t106.size ≤ 9223372036854775807 then ((spec_l02All.f ((a0 ++ t104) ++ t106)).bind fun t107 => (some t107)) else (none)) = some r := H
    have A16 := AM A160
    clear A160
    by_cases c17 : (a0 ++ t104).size + t106.size ≤ 9223372036854775807
    ·
     rw [if_pos c17] at H
     have c17b0 := eq_true c17
     have c17b1 : decide ((a0 ++ t104).size + t106.size ≤ 9223372036854775807) = true := decide_eq_true c17
     try have c17b2 : (9223372036854775807 < (a0 ++ t104).size + t106.size) = False := eq_false (Nat.not_lt.2 c17)
     have c17b3 := c17b1; simp only [ByteArray.size_append] at c17b3
     try (have c17b4 := c17b2; simp only [ByteArray.size_append] at c17b4)
     replace H := Option.bind_eq_some_iff.mp H
     obtain ⟨t107, A180, H⟩ := H
     replace H : (some t107) = some r := H
     have A18 := AM A180
     clear A180
     obtain rfl := Option.some.inj H
     go_wp2_with (first | ((with_reducible refine gate_callee (f := 31) rfl ?_); refine goesL_ (some 33) rfl rfl Tryd.func31 (by kernel_rfl) rfl #[.int .i64 a1, .int .i64 a2] rfl (by (try simp only [mA, mB, mC]); first | done | rfl | (simp only [mD, mE]; rfl)) ?_; (with_reducible refine (spec_l01Min.calls a1 a2 t103 _ A12.out).mono ?_); rintro e w' ⟨rfl, ⟨nd, rfl⟩⟩; refine ⟨_, rfl, ?_⟩) | ((with_reducible refine gate_callee (f := 30) rfl ?_); refine goesL_ (some 34) rfl rfl Tryd.func30 (by kernel_rfl) rfl #[.int .i64 t103] rfl (by (try simp only [mA, mB, mC]); first | done | rfl | (simp only [mD, mE]; rfl)) ?_; (with_reducible refine (spec_l01Dec.calls kj3 t103 t104 _ A13.out).mono ?_); rintro e w19 ⟨rfl, hb⟩; refine ⟨_, rfl, ?_⟩; have _ := AM (below_step (bX HB.out) hb); clear HB; rename_i HB; (try clear hb); (try clear hk)) | ((with_reducible refine gate_callee (f := 32) rfl ?_); refine goesL_ (some 38) rfl rfl Tryd.func32 (by kernel_rfl) rfl #[.int .i64 a1, .int .i64 a2] rfl (by (try simp only [mA, mB, mC]); first | done | rfl | (simp only [mD, mE]; rfl)) ?_; (with_reducible refine (spec_l01Max.calls a1 a2 t105 _ A15.out).mono ?_); rintro e w' ⟨rfl, ⟨nd, rfl⟩⟩; refine ⟨_, rfl, ?_⟩) | ((with_reducible refine gate_callee (f := 30) rfl ?_); refine goesL_ (some 39) rfl rfl Tryd.func30 (by kernel_rfl) rfl #[.int .i64 t105] rfl (by (try simp only [mA, mB, mC]); first | done | rfl | (simp only [mD, mE]; rfl)) ?_; (with_reducible refine (spec_l01Dec.calls kj3 t105 t106 _ A16.out).mono ?_); rintro e w20 ⟨rfl, hb⟩; refine ⟨_, rfl, ?_⟩; have _ := AM (below_step (bX HB.out) hb); clear HB; rename_i HB; (try clear hb); (try clear hk)) | ((with_reducible refine gate_callee (f := 29) rfl ?_); refine goesL_ (some 41) rfl rfl Tryd.func29 (by kernel_rfl) rfl #[.string ((a0 ++ t104) ++ t106)] rfl (by (try simp only [mA, mB, mC]); first | done | rfl | (simp only [mD, mE]; rfl)) ?_; (with_reducible refine (spec_l02All.calls ((a0 ++ t104) ++ t106) t107 _ A18.out).mono ?_); rintro e w21 ⟨rfl, hb⟩; refine ⟨_, rfl, ?_⟩; have _ := AM (below_step (bX HB.out) hb); clear HB; rename_i HB; (try clear hb); (try clear hk)))
     go_ret
     exact ⟨by first | rfl | (simp [*, errW_none, errW_some] <;> rfl), bX HB.out⟩
    rw [if_neg c17] at H
    exact absurd H (by simp)
   rw [if_neg c14] at H
   exact absurd H (by simp)

end Go.Proofs.YtgpgamapopnfcaaDoor.Q
