/- The row of FnAuth: for every input that reads, the call answers true and its arguments read as before; out of its pure statement. Printed by a program of this session (wip/mphand.py). -/
import Derived.Test.YtgpgamapopnfcaaDoorRows
import Derived.Test.YtgpgamapopnfcaaDoorQSaidFnAuth
import Derived.Test.YtgpgamapopnfcaaDoorQPureFnAuth
import Derived.WalkKit
import Derived.ProofKit
import Derived.OpenShut
import Derived.ShutString
import Derived.ChangeOld
import Derived.Below
import Derived.SizedLaws
import Derived.Test.YtgpgamapopnfcaaDoorTie
import Derived.Test.YtgpgamapopnfcaaDoorCards
import Derived.Test.YtgpgamapopnfcaaDoorCardBase
namespace Go.Proofs.YtgpgamapopnfcaaDoor.fnAuth
open Go.ChangeShapes Go.WideShapes Go.ChangeAt Go.RowKit Go.Proofs.YtgpgamapopnfcaaDoorW.PrintWords Go.Proofs.YtgpgamapopnfcaaDoorW.PrintLast Go.Proofs.YtgpgamapopnfcaaDoor.Opn Go.Proofs.YtgpgamapopnfcaaDoor.Q Go.Proofs.YtgpgamapopnfcaaDoor.Q.SaidFnAuth
open Go.ChangeMaps (open_string shut_string)
set_option linter.unusedVariables false
theorem own : ownKnob Tryd.prog.godebug = none := by kernel_rfl
theorem tab_of_laid {W : World} (h : laidMetH Tryd.prog Rows.fnAuthRow.laid W) : Go.Proofs.YtgpgamapopnfcaaDoor.HB.Tab W := by
  rw [MakeChecks.laidMetH_plain _ _ _ (by kernel_rfl)] at h
  obtain ⟨ps, ⟨g0, t0, cs0, f0, p0, q0, hg0, ht0, hv0, hd0, ⟨g1, t1, cs1, f1, p1, q1, hg1, ht1, hv1, hd1, hl, hq1⟩, hq0⟩, _, hm⟩ := h
  obtain rfl := Option.some.inj ((show Tryd.prog.globalNamed "loop.example/g00386/impl.digestStart" = some 0 by kernel_rfl).symm.trans hg0)
  obtain rfl := Option.some.inj ((show (Tryd.prog.globals[0]?).map (·.type) = some 70 by kernel_rfl).symm.trans ht0)
  have e0 := CardB.arr_cells Tryd.underlying70 (by kernel_rfl) (by kernel_rfl) (fun z => Value.int .u32 z) (fun z => .lit (.int .u32 z)) [1779033703, 3144134277, 1013904242, 2773480762, 1359893119, 2600822924, 528734635, 1541459225] (CardB.el_int Tryd.underlying67) hd0
  obtain rfl : cs0 = #[.int .u32 1779033703, .int .u32 3144134277, .int .u32 1013904242, .int .u32 2773480762, .int .u32 1359893119, .int .u32 2600822924, .int .u32 528734635, .int .u32 1541459225] := by obtain ⟨l⟩ := cs0; exact congrArg Array.mk e0
  obtain rfl := Option.some.inj ((show Tryd.prog.globalNamed "loop.example/g00386/impl.digestRounds" = some 1 by kernel_rfl).symm.trans hg1)
  obtain rfl := Option.some.inj ((show (Tryd.prog.globals[1]?).map (·.type) = some 87 by kernel_rfl).symm.trans ht1)
  have e1 := CardB.arr_cells Tryd.underlying87 (by kernel_rfl) (by kernel_rfl) (fun z => Value.int .u32 z) (fun z => .lit (.int .u32 z)) [1116352408, 1899447441, 3049323471, 3921009573, 961987163, 1508970993, 2453635748, 2870763221, 3624381080, 310598401, 607225278, 1426881987, 1925078388, 2162078206, 2614888103, 3248222580, 3835390401, 4022224774, 264347078, 604807628, 770255983, 1249150122, 1555081692, 1996064986, 2554220882, 2821834349, 2952996808, 3210313671, 3336571891, 3584528711, 113926993, 338241895, 666307205, 773529912, 1294757372, 1396182291, 1695183700, 1986661051, 2177026350, 2456956037, 2730485921, 2820302411, 3259730800, 3345764771, 3516065817, 3600352804, 4094571909, 275423344, 430227734, 506948616, 659060556, 883997877, 958139571, 1322822218, 1537002063, 1747873779, 1955562222, 2024104815, 2227730452, 2361852424, 2428436474, 2756734187, 3204031479, 3329325298] (CardB.el_int Tryd.underlying67) hd1
  obtain rfl : cs1 = #[.int .u32 1116352408, .int .u32 1899447441, .int .u32 3049323471, .int .u32 3921009573, .int .u32 961987163, .int .u32 1508970993, .int .u32 2453635748, .int .u32 2870763221, .int .u32 3624381080, .int .u32 310598401, .int .u32 607225278, .int .u32 1426881987, .int .u32 1925078388, .int .u32 2162078206, .int .u32 2614888103, .int .u32 3248222580, .int .u32 3835390401, .int .u32 4022224774, .int .u32 264347078, .int .u32 604807628, .int .u32 770255983, .int .u32 1249150122, .int .u32 1555081692, .int .u32 1996064986, .int .u32 2554220882, .int .u32 2821834349, .int .u32 2952996808, .int .u32 3210313671, .int .u32 3336571891, .int .u32 3584528711, .int .u32 113926993, .int .u32 338241895, .int .u32 666307205, .int .u32 773529912, .int .u32 1294757372, .int .u32 1396182291, .int .u32 1695183700, .int .u32 1986661051, .int .u32 2177026350, .int .u32 2456956037, .int .u32 2730485921, .int .u32 2820302411, .int .u32 3259730800, .int .u32 3345764771, .int .u32 3516065817, .int .u32 3600352804, .int .u32 4094571909, .int .u32 275423344, .int .u32 430227734, .int .u32 506948616, .int .u32 659060556, .int .u32 883997877, .int .u32 958139571, .int .u32 1322822218, .int .u32 1537002063, .int .u32 1747873779, .int .u32 1955562222, .int .u32 2024104815, .int .u32 2227730452, .int .u32 2361852424, .int .u32 2428436474, .int .u32 2756734187, .int .u32 3204031479, .int .u32 3329325298] := by obtain ⟨l⟩ := cs1; exact congrArg Array.mk e1
  exact ⟨CardB.var_block hg0 hv0 (hm 0 0 (by rw [hq0]; exact List.mem_append_left _ (List.mem_append_left _ (CardB.cell_row (by decide))))).1, CardB.var_block hg1 hv1 (hm 1 0 (by rw [hq0]; exact List.mem_append_right _ (by rw [hq1]; exact List.mem_append_left _ (List.mem_append_left _ (CardB.cell_row (by decide)))))).1⟩
/-- The door's own heap meets the condition. -/
theorem door_met (os : Os) (args : Array Value) : laidMetH Tryd.prog Rows.fnAuthRow.laid ((World.doorLaid Tryd.prog 400 os).forCall (fun _ _ => 0) ⟨#[], args, []⟩).memory :=
  laidMetH_of_parts3 (fuel := 8) (laidMet_of_run' 8 (by kernel_rfl) (by kernel_rfl)) (by kernel_rfl) (by kernel_rfl)
theorem laidOut : laidOutB Tryd.prog = true := by kernel_rfl
set_option maxRecDepth 100000 in
theorem lifted (os : Os) (started : os.Started) (H : Type) (enc : TypeId × Value → H) :
    ReturnsInHanded {} Tryd.checked os 6 .any (fun w args => (Rows.fnAuthSpec.pre enc Tryd.prog Tryd.f6 Rows.fnAuthRow.domain false w args ∧ laidMetH Tryd.prog Rows.fnAuthRow.laid w) ∧ sizedMet enc Tryd.prog Tryd.f6 (OpenSpec.ofChange Rows.fnAuthSpec) false w args) (Rows.fnAuthSpec.post enc Tryd.prog Tryd.f6 false true false false) := by
  refine returnsInHanded_of_change_and (C := Tryd.checked) (X := fun w _ => laidMetH Tryd.prog Rows.fnAuthRow.laid w) (fun _ _ _ hh h => h.of_heap hh) own started (by kernel_rfl) Tryd.func6
    (ChangeSpec.witness_shaped (enc := enc) (C := Tryd.checked) (os := os) (X := fun w _ => laidMetH Tryd.prog Rows.fnAuthRow.laid w) false (World.doorLaid Tryd.prog 400 os) #[.slice none 0 0, .slice none 0 0] 8 rfl (World.shaped_of_RefB (by kernel_rfl) (by kernel_rfl)) (by kernel_rfl) (by kernel_rfl) (by kernel_rfl) (door_met os _)) ?_
  intro W base args ds gs before hval0 hW hcnd hsz0 hL _
  have hval : ∀ (j : Nat) t v, Tryd.f6.params[j]? = some t → args[j]? = some v → Value.okWide Tryd.prog W .any base t v := hval0
  have hW' := hW
  obtain ⟨p, q, hA0, hV, rfl, hfz, hnd⟩ := hW
  have hA : DataW.TrodAll enc Tryd.prog W 0 (fun _ => true) true Tryd.f6.params.toList args.toList ds p := hA0
  rw [Tryd.params6] at hA hval
  obtain ⟨v0, vs0, d0, ds0, p0, q0, hargs, rfl, rfl, h0, r0⟩ := trodAll_cons hA
  obtain ⟨v1, vs1, d1, ds1, p1, q1, rfl, rfl, rfl, h1, r1⟩ := trodAll_cons r0
  obtain ⟨rfl, rfl, rfl⟩ := trodAll_nil r1
  obtain rfl : args = #[v0, v1] := by cases args; simp_all
  have TAB := tab_of_laid hL
  have hV1 : DataW.TrodVars enc Tryd.prog W (fun _ => true) ["loop.example/g00386/impl.digestStart", "loop.example/g00386/impl.digestRounds"] gs q := hV
  obtain ⟨dd0, gz0, rfl⟩ : ∃ d r, gs = d :: r := by cases gs with | nil => simp [DataW.TrodVars] at hV1 | cons d r => exact ⟨d, r, rfl⟩
  obtain ⟨gv0, tv0, cv0, fv0, pv0, qv0, hgv0, htv0, hvv0, hdv0, hV2, eqv0⟩ := hV1
  obtain rfl := Option.some.inj ((show Tryd.prog.globalNamed "loop.example/g00386/impl.digestStart" = some 0 by kernel_rfl).symm.trans hgv0)
  obtain rfl := Option.some.inj ((show (Tryd.prog.globals[0]?).map (·.type) = some 70 by kernel_rfl).symm.trans htv0)
  have ltv0 : ∀ x ∈ pv0, x.block < W.heap.size := DataW.trod_lt fv0 _ _ _ hdv0
  obtain ⟨dd1, gz1, rfl⟩ : ∃ d r, gz0 = d :: r := by cases gz0 with | nil => simp [DataW.TrodVars] at hV2 | cons d r => exact ⟨d, r, rfl⟩
  obtain ⟨gv1, tv1, cv1, fv1, pv1, qv1, hgv1, htv1, hvv1, hdv1, hV3, eqv1⟩ := hV2
  obtain rfl := Option.some.inj ((show Tryd.prog.globalNamed "loop.example/g00386/impl.digestRounds" = some 1 by kernel_rfl).symm.trans hgv1)
  obtain rfl := Option.some.inj ((show (Tryd.prog.globals[1]?).map (·.type) = some 87 by kernel_rfl).symm.trans htv1)
  have ltv1 : ∀ x ∈ pv1, x.block < W.heap.size := DataW.trod_lt fv1 _ _ _ hdv1
  obtain ⟨rfl, hz⟩ := trodVars_none hV3
  have k0 := h0
  have lt0 : ∀ x ∈ p0, x.block < W.heap.size := by obtain ⟨m, hm⟩ := k0; exact DataW.trod_lt m _ _ _ hm
  obtain ⟨fu0, hf0⟩ := h0
  obtain ⟨a0, len0, cap0, rfl⟩ := okWide_slice Tryd.underlying31 (hval 0 31 v0 rfl rfl)
  obtain ⟨x0, ⟨A0, c0, e0, hl0, hC0⟩, g0⟩ := (opens_slice Tryd.underlying31 (by kernel_rfl) (opens_int Tryd.underlying5)).out H enc W fu0 _ _ hf0
  simp only [Value.cells, List.cons.injEq, and_true, Value.slice.injEq] at e0
  obtain ⟨rfl, rfl, rfl⟩ := e0
  have k1 := h1
  have lt1 : ∀ x ∈ p1, x.block < W.heap.size := by obtain ⟨m, hm⟩ := k1; exact DataW.trod_lt m _ _ _ hm
  obtain ⟨fu1, hf1⟩ := h1
  obtain ⟨a1, len1, cap1, rfl⟩ := okWide_slice Tryd.underlying31 (hval 1 31 v1 rfl rfl)
  obtain ⟨x1, ⟨A1, c1, e1, hl1, hC1⟩, g1⟩ := (opens_slice Tryd.underlying31 (by kernel_rfl) (opens_int Tryd.underlying5)).out H enc W fu1 _ _ hf1
  simp only [Value.cells, List.cons.injEq, and_true, Value.slice.injEq] at e1
  obtain ⟨rfl, rfl, rfl⟩ := e1
  clear hA0 hval0 hsz0
  obtain ⟨k, hk⟩ := PureFnAuth.proved x0 x1 g0 g1
  refine (laws_FnAuth.calls k _ _ x0 _ _ x1 true W hC0 hl0 hC1 hl1 TAB hk).mono fun e W' he => ?_
  obtain ⟨rfl, bel0⟩ := he
  have bel : Below W.heap.size W W' := bel0
  have vlt0 : 0 < W.heap.size := by obtain ⟨_, h_⟩ := TAB.1; exact (Array.getElem?_eq_some_iff.1 h_).1
  obtain ⟨wf0, wd0⟩ := Below.trod laidOut (t := 70) (v := .agg cv0) (by kernel_rfl) (of_decide_eq_true (by kernel_rfl)) ⟨fv0, hdv0⟩ bel ltv0
  have vlt1 : 1 < W.heap.size := by obtain ⟨_, h_⟩ := TAB.2; exact (Array.getElem?_eq_some_iff.1 h_).1
  obtain ⟨wf1, wd1⟩ := Below.trod laidOut (t := 87) (v := .agg cv1) (by kernel_rfl) (of_decide_eq_true (by kernel_rfl)) ⟨fv1, hdv1⟩ bel ltv1
  exact ⟨_, rfl, _, _, _, [], _, _, hW', trodAll_mk1 (shut_bool Tryd.underlying4 _), (trodAll_cons_mk (Below.trod laidOut (by kernel_rfl) (of_decide_eq_true (by kernel_rfl)) k0 bel lt0) (trodAll_cons_mk (Below.trod laidOut (by kernel_rfl) (of_decide_eq_true (by kernel_rfl)) k1 bel lt1) trodAll_mk0)), ⟨0, 70, cv0, wf0, pv0, _, hgv0, htv0, var?_below bel hgv0 (vlt0) hvv0, wd0, ⟨1, 87, cv1, wf1, pv1, _, hgv1, htv1, var?_below bel hgv1 (vlt1) hvv1, wd1, rfl, rfl⟩, rfl⟩, bel.frame _, fun h => by cases h⟩
theorem over : Rows.fnAuthRow.holds Tryd.pinned (OpenSpec.ofChange Rows.fnAuthSpec) :=
  OpenClaim.holds_of_wide 6 Tryd.f6 rfl rfl rfl rfl rfl rfl rfl ⟨rfl, rfl, rfl, rfl, rfl⟩ rfl rfl rfl rfl rfl (by kernel_rfl) Tryd.func6 (by kernel_rfl)
    (of_decide_eq_true (by kernel_rfl)) (by unfold Func.isWrapper; first | (rw [if_pos (by decide +kernel)]; kernel_rfl) | (rw [if_neg (by decide +kernel)]; exact ⟨rfl, rfl⟩))
    (fun os started H enc _ => lifted os started H enc)
theorem said : Rows.FnAuthSaid := over
theorem proved : Rows.FnAuthCardSaid :=
  Claim7.holds_tied_plain_at .later [] [.data, .data] true (true, "dd7085f5b3d2c20b33d30065794d11da5930c158d22952d753d2c49816e5d771") false
    said (fun _ h => by cases h) (by kernel_rfl) (fun _ h => by cases h) fnAuth_row_tie rfl ⟨rfl, rfl⟩ (by kernel_rfl) rfl
    (fun f fn hf hfn => by
      obtain rfl : f = 6 := Option.some.inj ((show Tryd.prog.funcNamed "loop.example/g00386/laws.FnAuth" = some 6 by kernel_rfl).symm.trans hf) |>.symm
      obtain rfl : fn = Tryd.f6 := (Option.some.inj (Tryd.func6.symm.trans hfn)).symm
      exact ⟨by kernel_rfl, fun j t ht => by
        rw [Tryd.params6] at ht
        have hm : t ∈ [31, 31] := by simpa using Array.mem_of_getElem? ht
        have hall : ([31, 31].all fun u => !Tryd.prog.wantsStandIn u) = true := by kernel_rfl
        exact (show Tryd.prog.wantsStandIn t = false by simpa using List.all_eq_true.1 hall t hm)⟩)
    (by kernel_rfl)
#print axioms proved
end Go.Proofs.YtgpgamapopnfcaaDoor.fnAuth
namespace Go.Proofs.YtgpgamapopnfcaaDoor
/-- The card, under a short name, for the claim. -/
theorem fnAuth_holds : Rows.FnAuthCardSaid := fnAuth.proved
end Go.Proofs.YtgpgamapopnfcaaDoor
