/- The row of FnCommand: for every input that reads, the call answers true and its arguments read as before; out of its pure statement. Printed by a program of this session (wip/mphand.py). -/
import Derived.Test.YtbediildfabhnaaDoorRows
import Derived.Test.YtbediildfabhnaaDoorQSaidFnCommand
import Derived.Test.YtbediildfabhnaaDoorQPureFnCommand
import Derived.WalkKit
import Derived.ProofKit
import Derived.OpenShut
import Derived.ShutString
import Derived.ChangeOld
import Derived.Below
import Derived.SizedLaws
import Derived.Test.YtbediildfabhnaaDoorTie
import Derived.Test.YtbediildfabhnaaDoorCards
import Derived.Test.YtbediildfabhnaaDoorCardBase
namespace Go.Proofs.YtbediildfabhnaaDoor.fnCommand
open Go.ChangeShapes Go.WideShapes Go.ChangeAt Go.RowKit Go.Proofs.YtbediildfabhnaaDoorW.PrintWords Go.Proofs.YtbediildfabhnaaDoorW.PrintLast Go.Proofs.YtbediildfabhnaaDoor.Opn Go.Proofs.YtbediildfabhnaaDoor.Q Go.Proofs.YtbediildfabhnaaDoor.Q.SaidFnCommand
open Go.ChangeMaps (open_string shut_string)
set_option linter.unusedVariables false
theorem own : ownKnob Tryd.prog.godebug = none := by kernel_rfl
theorem tab_of_laid {W : World} (h : laidMetH Tryd.prog Rows.fnCommandRow.laid W) : Go.Proofs.YtbediildfabhnaaDoor.HB.Tab W := by
  rw [MakeChecks.laidMetH_plain _ _ _ (by kernel_rfl)] at h
  obtain ⟨ps, ⟨g0, t0, cs0, f0, p0, q0, hg0, ht0, hv0, hd0, hl, hq0⟩, _, hm⟩ := h
  obtain rfl := Option.some.inj ((show Tryd.prog.globalNamed "loop.example/g00386/impl.commandNames" = some 0 by kernel_rfl).symm.trans hg0)
  obtain rfl := Option.some.inj ((show (Tryd.prog.globals[0]?).map (·.type) = some 43 by kernel_rfl).symm.trans ht0)
  have e0 := CardB.arr_cells Tryd.underlying43 (by kernel_rfl) (by kernel_rfl) (fun b => Value.string ⟨b.toArray⟩) (fun b => .lit (.string b)) [[], [99, 114, 101, 97, 116, 101], [100, 101, 108, 101, 116, 101], [112, 117, 98, 108, 105, 115, 104], [102, 101, 116, 99, 104], [97, 99, 107], [115, 101, 101, 107], [114, 101, 116, 97, 105, 110]] (CardB.el_string Tryd.underlying9) hd0
  obtain rfl : cs0 = #[.string ⟨#[]⟩, .string ⟨#[99, 114, 101, 97, 116, 101]⟩, .string ⟨#[100, 101, 108, 101, 116, 101]⟩, .string ⟨#[112, 117, 98, 108, 105, 115, 104]⟩, .string ⟨#[102, 101, 116, 99, 104]⟩, .string ⟨#[97, 99, 107]⟩, .string ⟨#[115, 101, 101, 107]⟩, .string ⟨#[114, 101, 116, 97, 105, 110]⟩] := by obtain ⟨l⟩ := cs0; exact congrArg Array.mk e0
  exact CardB.var_block hg0 hv0 (hm 0 0 (by rw [hq0]; exact List.mem_append_left _ (List.mem_append_left _ (CardB.cell_row (by decide))))).1
/-- The door's own heap meets the condition. -/
theorem door_met (os : Os) (args : Array Value) : laidMetH Tryd.prog Rows.fnCommandRow.laid ((World.doorLaid Tryd.prog 400 os).forCall (fun _ _ => 0) ⟨#[], args, []⟩).memory :=
  laidMetH_of_parts3 (fuel := 8) (laidMet_of_run' 8 (by kernel_rfl) (by kernel_rfl)) (by kernel_rfl) (by kernel_rfl)
theorem laidOut : laidOutB Tryd.prog = true := by kernel_rfl
set_option maxRecDepth 100000 in
theorem lifted (os : Os) (started : os.Started) (H : Type) (enc : TypeId × Value → H) :
    ReturnsInHanded {} Tryd.checked os 3 .any (fun w args => (Rows.fnCommandSpec.pre enc Tryd.prog Tryd.f3 Rows.fnCommandRow.domain false w args ∧ laidMetH Tryd.prog Rows.fnCommandRow.laid w) ∧ sizedMet enc Tryd.prog Tryd.f3 (OpenSpec.ofChange Rows.fnCommandSpec) false w args) (Rows.fnCommandSpec.post enc Tryd.prog Tryd.f3 false true false false) := by
  refine returnsInHanded_of_change_and (C := Tryd.checked) (X := fun w _ => laidMetH Tryd.prog Rows.fnCommandRow.laid w) (fun _ _ _ hh h => h.of_heap hh) own started (by kernel_rfl) Tryd.func3
    (ChangeSpec.witness_shaped (enc := enc) (C := Tryd.checked) (os := os) (X := fun w _ => laidMetH Tryd.prog Rows.fnCommandRow.laid w) false (World.doorLaid Tryd.prog 400 os) #[.slice none 0 0, .slice none 0 0] 8 rfl (World.shaped_of_RefB (by kernel_rfl) (by kernel_rfl)) (by kernel_rfl) (by kernel_rfl) (by kernel_rfl) (door_met os _)) ?_
  intro W base args ds gs before hval0 hW hcnd hsz0 hL _
  have hval : ∀ (j : Nat) t v, Tryd.f3.params[j]? = some t → args[j]? = some v → Value.okWide Tryd.prog W .any base t v := hval0
  have hW' := hW
  obtain ⟨p, q, hA0, hV, rfl, hfz, hnd⟩ := hW
  have hA : DataW.TrodAll enc Tryd.prog W 0 (fun _ => true) true Tryd.f3.params.toList args.toList ds p := hA0
  rw [Tryd.params3] at hA hval
  obtain ⟨v0, vs0, d0, ds0, p0, q0, hargs, rfl, rfl, h0, r0⟩ := trodAll_cons hA
  obtain ⟨v1, vs1, d1, ds1, p1, q1, rfl, rfl, rfl, h1, r1⟩ := trodAll_cons r0
  obtain ⟨rfl, rfl, rfl⟩ := trodAll_nil r1
  obtain rfl : args = #[v0, v1] := by cases args; simp_all
  have TAB := tab_of_laid hL
  have hV1 : DataW.TrodVars enc Tryd.prog W (fun _ => true) ["loop.example/g00386/impl.commandNames"] gs q := hV
  obtain ⟨dd0, gz0, rfl⟩ : ∃ d r, gs = d :: r := by cases gs with | nil => simp [DataW.TrodVars] at hV1 | cons d r => exact ⟨d, r, rfl⟩
  obtain ⟨gv0, tv0, cv0, fv0, pv0, qv0, hgv0, htv0, hvv0, hdv0, hV2, eqv0⟩ := hV1
  obtain rfl := Option.some.inj ((show Tryd.prog.globalNamed "loop.example/g00386/impl.commandNames" = some 0 by kernel_rfl).symm.trans hgv0)
  obtain rfl := Option.some.inj ((show (Tryd.prog.globals[0]?).map (·.type) = some 43 by kernel_rfl).symm.trans htv0)
  have ltv0 : ∀ x ∈ pv0, x.block < W.heap.size := DataW.trod_lt fv0 _ _ _ hdv0
  obtain ⟨rfl, hz⟩ := trodVars_none hV2
  have k0 := h0
  have lt0 : ∀ x ∈ p0, x.block < W.heap.size := by obtain ⟨m, hm⟩ := k0; exact DataW.trod_lt m _ _ _ hm
  obtain ⟨fu0, hf0⟩ := h0
  obtain ⟨a0, len0, cap0, rfl⟩ := okWide_slice Tryd.underlying22 (hval 0 22 v0 rfl rfl)
  obtain ⟨x0, ⟨A0, c0, e0, hl0, hC0⟩, g0⟩ := (opens_slice Tryd.underlying22 (by kernel_rfl) (opens_int Tryd.underlying5)).out H enc W fu0 _ _ hf0
  simp only [Value.cells, List.cons.injEq, and_true, Value.slice.injEq] at e0
  obtain ⟨rfl, rfl, rfl⟩ := e0
  have k1 := h1
  have lt1 : ∀ x ∈ p1, x.block < W.heap.size := by obtain ⟨m, hm⟩ := k1; exact DataW.trod_lt m _ _ _ hm
  obtain ⟨fu1, hf1⟩ := h1
  obtain ⟨a1, len1, cap1, rfl⟩ := okWide_slice Tryd.underlying22 (hval 1 22 v1 rfl rfl)
  obtain ⟨x1, ⟨A1, c1, e1, hl1, hC1⟩, g1⟩ := (opens_slice Tryd.underlying22 (by kernel_rfl) (opens_int Tryd.underlying5)).out H enc W fu1 _ _ hf1
  simp only [Value.cells, List.cons.injEq, and_true, Value.slice.injEq] at e1
  obtain ⟨rfl, rfl, rfl⟩ := e1
  clear hA0 hval0 hsz0
  obtain ⟨k, hk⟩ := PureFnCommand.proved x0 x1 g0 g1
  refine (laws_FnCommand.calls k _ _ x0 _ _ x1 true W hC0 hl0 hC1 hl1 TAB hk).mono fun e W' he => ?_
  obtain ⟨rfl, bel0⟩ := he
  have bel : Below W.heap.size W W' := bel0
  have vlt0 : 0 < W.heap.size := by obtain ⟨_, h_⟩ := TAB; exact (Array.getElem?_eq_some_iff.1 h_).1
  obtain ⟨wf0, wd0⟩ := Below.trod laidOut (t := 43) (v := .agg cv0) (by kernel_rfl) (of_decide_eq_true (by kernel_rfl)) ⟨fv0, hdv0⟩ bel ltv0
  exact ⟨_, rfl, _, _, _, [], _, _, hW', trodAll_mk1 (shut_bool Tryd.underlying4 _), (trodAll_cons_mk (Below.trod laidOut (by kernel_rfl) (of_decide_eq_true (by kernel_rfl)) k0 bel lt0) (trodAll_cons_mk (Below.trod laidOut (by kernel_rfl) (of_decide_eq_true (by kernel_rfl)) k1 bel lt1) trodAll_mk0)), ⟨0, 43, cv0, wf0, pv0, _, hgv0, htv0, var?_below bel hgv0 (vlt0) hvv0, wd0, rfl, rfl⟩, bel.frame _, fun h => by cases h⟩
theorem over : Rows.fnCommandRow.holds Tryd.pinned (OpenSpec.ofChange Rows.fnCommandSpec) :=
  OpenClaim.holds_of_wide 3 Tryd.f3 rfl rfl rfl rfl rfl rfl rfl ⟨rfl, rfl, rfl, rfl, rfl⟩ rfl rfl rfl rfl rfl (by kernel_rfl) Tryd.func3 (by kernel_rfl)
    (of_decide_eq_true (by kernel_rfl)) (by unfold Func.isWrapper; first | (rw [if_pos (by decide +kernel)]; kernel_rfl) | (rw [if_neg (by decide +kernel)]; exact ⟨rfl, rfl⟩))
    (fun os started H enc _ => lifted os started H enc)
theorem said : Rows.FnCommandSaid := over
theorem proved : Rows.FnCommandCardSaid :=
  Claim7.holds_tied_plain_at .later [] [.data] true (true, "1c294457c99f83da498725757e3d806127d40de2a55ee44bc8c80befed78e514") false
    said (fun _ h => by cases h) (by kernel_rfl) (fun _ h => by cases h) fnCommand_row_tie rfl ⟨rfl, rfl⟩ (by kernel_rfl) rfl
    (fun f fn hf hfn => by
      obtain rfl : f = 3 := Option.some.inj ((show Tryd.prog.funcNamed "loop.example/g00386/laws.FnCommand" = some 3 by kernel_rfl).symm.trans hf) |>.symm
      obtain rfl : fn = Tryd.f3 := (Option.some.inj (Tryd.func3.symm.trans hfn)).symm
      exact ⟨by kernel_rfl, fun j t ht => by
        rw [Tryd.params3] at ht
        have hm : t ∈ [22, 22] := by simpa using Array.mem_of_getElem? ht
        have hall : ([22, 22].all fun u => !Tryd.prog.wantsStandIn u) = true := by kernel_rfl
        exact (show Tryd.prog.wantsStandIn t = false by simpa using List.all_eq_true.1 hall t hm)⟩)
    (by kernel_rfl)
#print axioms proved
end Go.Proofs.YtbediildfabhnaaDoor.fnCommand
namespace Go.Proofs.YtbediildfabhnaaDoor
/-- The card, under a short name, for the claim. -/
theorem fnCommand_holds : Rows.FnCommandCardSaid := fnCommand.proved
end Go.Proofs.YtbediildfabhnaaDoor
