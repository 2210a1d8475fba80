/- Printed by wip/mp.py: functions as plain Lean functions, and their calls. -/
import Derived.Test.YtnjnjffjblgldaaQx5
namespace Go.Proofs.Ytnjnjffjblgldaa.Q
open Go.RowKit Go.Proofs.Ytnjnjffjblgldaa.HB Go.Proofs.YtnjnjffjblgldaaW.PrintWords Go.Proofs.YtnjnjffjblgldaaW.PrintLast Go.Proofs.YtnjnjffjblgldaaW.PrintMore
attribute [local go_sem] max2_int min2_int max_two min_two max_three min_three max_four min_four   -- for this text's walks alone
set_option linter.unusedVariables false
set_option linter.unusedSimpArgs false

/-! ### impl_Topic_group: function 72 (by hand) -/
def cmpB (a b : ByteArray) : Int := Lib.compareBytes a.data.toList b.data.toList
set_option maxRecDepth 100000 in
theorem cmp89 (a b : ByteArray) (w : World) : Calls Try.prog 89 #[.string a, .string b] w fun e w' => e = .returned (.int .i64 (cmpB a b)) ∧ w' = w := by
  go_enter Try.func89, Try.ntmps89
  go_wp2
  rw [run_callFunc_extern Try.func92 (by kernel_rfl) (by kernel_rfl) (by kernel_rfl) (e := Extern.BytealgCompare.compare) (by kernel_rfl), Lib.run_compareString]; simp only [Result.andThen]
  rw [Oper.upon_value]; go_wp2
  go_ret
  exact ⟨rfl, rfl⟩
set_option maxRecDepth 100000 in
theorem cmp86 (a b : ByteArray) (w : World) : Calls Try.prog 86 #[.string a, .string b] w fun e w' => e = .returned (.int .i64 (cmpB a b)) ∧ w' = w := by
  go_enter Try.func86, Try.ntmps86
  go_wp2_with (first | (go_at_call 89; (with_reducible refine (cmp89 a b _).mono ?_); rintro e w' ⟨rfl, rfl⟩))
  go_ret
  exact ⟨rfl, rfl⟩
set_option maxRecDepth 100000 in
theorem cmp85 (a b : ByteArray) (n : Int) (w : World) : Calls Try.prog 85 #[.agg #[.string a, .int .i64 n], .string b] w fun e w' => e = .returned (.int .i64 (cmpB a b)) ∧ Below w.heap.size w w' := by
  go_enter Try.func85, Try.ntmps85
  go_wp2_with (first | (go_at_call 86; (with_reducible refine (cmp86 a b _).mono ?_); rintro e w' ⟨rfl, rfl⟩))
  go_ret
  exact ⟨rfl, below_alloc (Below.refl _ _) _⟩
/-- The search among sorted groups, round by round. -/
def bsG (l : List S55) (x : ByteArray) : Nat → Nat → Nat → Nat
  | 0, lo, _ => lo
  | k + 1, lo, hi => if lo < hi then (if cmpB (rd_T55 l (((lo + hi) / 2 : Nat) : Int)).f0 x < 0 then bsG l x k ((lo + hi) / 2 + 1) hi else bsG l x k lo ((lo + hi) / 2)) else lo
def bsI (l : List S55) (x : ByteArray) : Nat := bsG l x l.length 0 l.length
def bsF (l : List S55) (x : ByteArray) : Bool := decide (bsI l x < l.length) && (cmpB (rd_T55 l (bsI l x)).f0 x == 0)
theorem bsG_step {l : List S55} {x : ByteArray} {k lo hi : Nat} (h : lo < hi) : bsG l x (k + 1) lo hi = if cmpB (rd_T55 l (((lo + hi) / 2 : Nat) : Int)).f0 x < 0 then bsG l x k ((lo + hi) / 2 + 1) hi else bsG l x k lo ((lo + hi) / 2) := by
  rw [bsG, if_pos h]
theorem bsG_end {l : List S55} {x : ByteArray} {k lo hi : Nat} (h : ¬ lo < hi) : bsG l x k lo hi = lo := by
  cases k with
  | zero => rfl
  | succ k => rw [bsG, if_neg h]
set_option maxHeartbeats 4000000 in
set_option maxRecDepth 100000 in
theorem bs84 (A : Option Addr) (c : Nat) (l : List S55) (x : ByteArray) (w : World) (hr : Kd.C k55 w A l.length l) (hl : l.length ≤ 1000) :
    Calls Try.prog 84 #[.slice A l.length c, .string x, .func (.func 85) #[] #[]] w fun e w' => e = .returned (.tuple #[.int .i64 (bsI l x), .bool (bsF l x)]) ∧ Below w.heap.size w w' := by
  have HR := Aside0.mk hr; have HL := Aside0.mk hl; clear hr hl; go_enter Try.func84, Try.ntmps84
  go_wp2
  go_loopg [9, 10] l.length (fun kq v9 v10 w' => ∃ lo hi : Nat, v9 = .int .i64 lo ∧ v10 = .int .i64 hi ∧ Aside0 (lo ≤ hi ∧ hi ≤ l.length ∧ hi - lo ≤ kq ∧ bsI l x = bsG l x kq lo hi) ∧ Aside0 (Below w.heap.size w w'))
  case atStart => exact ⟨0, l.length, rfl, rfl, ⟨by omega, by omega, by omega, rfl⟩, ⟨Below.refl _ _⟩⟩
  case round =>
    obtain ⟨lo, hi, rfl, rfl, HK, HB⟩ := hrel; by_cases hlt : lo < hi
    · obtain ⟨md, hmd⟩ : ∃ md, md = (lo + hi) / 2 := ⟨_, rfl⟩
      have hm : md < l.length := by have := HK.out; have := HL.out; omega
      cases gk with
      | zero => exact absurd HK.out (by omega)
      | succ gk =>
      have HKK : Aside0 (lo ≤ md ∧ md < hi ∧ hi ≤ l.length ∧ hi - lo ≤ gk + 1 ∧ bsI l x = if cmpB (rd_T55 l md).f0 x < 0 then bsG l x gk (md + 1) hi else bsG l x gk lo md) := ⟨by
        have h := HK.out; rw [bsG_step hlt, ← hmd] at h; exact ⟨by omega, by omega, h.2.1, h.2.2.1, h.2.2.2⟩⟩
      have hsum : (wrap64 ((lo : Int) + (hi : Int))) = ((lo + hi : Nat) : Int) := by have := HK.out; have := HL.out; unfold wrap64; omega
      obtain ⟨ad, e, hx0, hx1⟩ := at_T55 HR.out md (by omega) (by omega)
      cases e
      rw [Int.toNat_natCast] at hx0 hx1; replace hx0 := pB HB.out hx0; replace hx1 := pB HB.out hx1; have c1 : decide ((lo : Int) < (hi : Int)) = true := dY (by omega); have c1n := dY hlt; have c3n : md < l.length := hm; have c2 : (0 : Int) ≤ (md : Int) := by omega
      have c3 : (md : Int) < (l.length : Int) := by omega
      have hs0 : wrap64 ((lo : Int) + (hi : Int)) = (lo : Int) + (hi : Int) := by rw [hsum]; omega
      have hs1 : IntKind.u64.wrap ((lo : Int) + (hi : Int)) = (lo : Int) + (hi : Int) := by rw [IntKind.wrap_u64]; have := HK.out; have := HL.out; omega
      have hs2 : ((lo : Int) + (hi : Int)) / 2 = (md : Int) := by omega
      have hs3 : wrap64 (md : Int) = (md : Int) := by have := HL.out; unfold wrap64; omega
      clear hlt hm hsum hmd; by_cases hc : cmpB (rd_T55 l md).f0 x < 0
      · have c4 : decide (cmpB (rd_T55 l md).f0 x < 0) = true := dY hc
        have hs4 : wrap64 ((md : Int) + 1) = (md : Int) + 1 := by have := HL.out; unfold wrap64; omega
        go_wp2_with (first | (go_at_call 85; (with_reducible refine (cmp85 _ _ _ _).mono ?_); rintro e w1 ⟨rfl, hb⟩; replace HB := Aside0.mk (below_step HB.out hb); clear hb))
        go_roundg gk
        case measure => omega
        case rel => exact ⟨md + 1, hi, by rw [hs4]; rfl, rfl, ⟨by have := HKK.out; omega, by have := HKK.out; omega, by have := HKK.out; omega, by rw [HKK.out.2.2.2.2, if_pos hc]⟩, HB⟩
      · have c4 : decide (cmpB (rd_T55 l md).f0 x < 0) = false := dN hc
        go_wp2_with (first | (go_at_call 85; (with_reducible refine (cmp85 _ _ _ _).mono ?_); rintro e w1 ⟨rfl, hb⟩; replace HB := Aside0.mk (below_step HB.out hb); clear hb))
        go_roundg gk
        case measure => omega
        case rel => exact ⟨lo, md, rfl, rfl, ⟨by have := HKK.out; omega, by have := HKK.out; omega, by have := HKK.out; omega, by rw [HKK.out.2.2.2.2, if_neg (by omega)]⟩, HB⟩
    · have hE : Aside0 (bsI l x = lo) := ⟨by rw [HK.out.2.2.2, bsG_end hlt]⟩
      have c1 : decide ((lo : Int) < (hi : Int)) = false := dN (by omega); have c1n := dN hlt; by_cases hn : lo < l.length
      · obtain ⟨ad, e, hx0, hx1⟩ := at_T55 HR.out lo (by omega) (by omega)
        cases e
        rw [Int.toNat_natCast] at hx0 hx1; replace hx0 := pB HB.out hx0; replace hx1 := pB HB.out hx1; have c2 : (0 : Int) ≤ (lo : Int) := by omega
        have c3 : (lo : Int) < (l.length : Int) := by omega
        have c5 : decide ((lo : Int) < (l.length : Int)) = true := dY (by omega); have c5n := dY hn; have c3n : lo < l.length := hn; clear hlt hn; go_wp2_with (first | (go_at_call 85; (with_reducible refine (cmp85 _ _ _ _).mono ?_); rintro e w1 ⟨rfl, hb⟩; replace HB := Aside0.mk (below_step HB.out hb); clear hb))
        go_ret2
        refine ⟨?_, HB.out⟩
        simp [bsF, hE.out, c5n]
      · have c5 : decide ((lo : Int) < (l.length : Int)) = false := dN (by omega)
        have c5n := dN hn; clear hlt hn; go_wp2
        go_ret2
        refine ⟨?_, HB.out⟩
        simp [bsF, hE.out, c5n]
/-- The cells of a row of groups. -/
def flG (l : List S55) : List Value := l.flatMap fun x => [.string x.f0, .int .i64 x.f1]
theorem flG_len : ∀ l : List S55, (flG l).length = l.length * 2
  | [] => rfl
  | x :: l => by have := flG_len l; simp only [flG, List.flatMap_cons, List.length_append, List.length_cons, List.length_nil] at this ⊢; omega
theorem flG_app (l m : List S55) : flG (l ++ m) = flG l ++ flG m := by simp [flG]
theorem flG_take : ∀ (l : List S55) (i : Nat), (flG l).take (i * 2) = flG (l.take i)
  | [], i => by simp [flG]
  | x :: l, 0 => by simp [flG]
  | x :: l, i + 1 => by
    have := flG_take l i; rw [show flG (x :: l) = .string x.f0 :: .int .i64 x.f1 :: flG l from rfl, show (i + 1) * 2 = i * 2 + 2 by omega, List.take_succ_cons, List.take_succ_cons, this]
    rfl
theorem flG_drop : ∀ (l : List S55) (i : Nat), (flG l).drop (i * 2) = flG (l.drop i)
  | [], i => by simp [flG]
  | x :: l, 0 => by simp [flG]
  | x :: l, i + 1 => by
    have := flG_drop l i; rw [show flG (x :: l) = .string x.f0 :: .int .i64 x.f1 :: flG l from rfl, show (i + 1) * 2 = i * 2 + 2 by omega, List.drop_succ_cons, List.drop_succ_cons, this]
    rfl
theorem flG_one (l : List S55) : ∀ v ∈ flG l, v.oneCell' = true := by
  intro v hv; simp only [flG, List.mem_flatMap, List.mem_cons, List.not_mem_nil, or_false] at hv
  obtain ⟨x, _, rfl | rfl⟩ := hv <;> rfl
theorem reps_flG {w : World} {base : Nat} {ok : Nat → Prop} : ∀ {l : List S55} {cs : List Value}, Reps (k55.M w base ok) 2 l cs → cs = flG l
  | [], cs, h => by have := h.1; simp at this; simp [this, flG]
  | x :: l, cs, h => by
    have h0 := k55_openM (h.2 0 x rfl); have ht : Reps (k55.M w base ok) 2 l (cs.drop 2) := ⟨by have := h.1; simp at this ⊢; omega, fun j p hj => by
      have := h.2 (j + 1) p (by simpa using hj)
      rwa [show (j + 1) * 2 = 2 + j * 2 by omega, ← List.drop_drop] at this⟩
    have := reps_flG ht; rw [Nat.zero_mul, List.drop_zero] at h0; rw [show flG (x :: l) = [.string x.f0, .int .i64 x.f1] ++ flG l from rfl, ← h0, ← this, List.take_append_drop]
theorem flG_reps (w : World) (base : Nat) (ok : Nat → Prop) : ∀ l : List S55, Reps (k55.M w base ok) 2 l (flG l)
  | l => ⟨flG_len l, fun j p hj => by
    rw [flG_drop]; have hl : j < l.length := (List.getElem?_eq_some_iff.1 hj).1; have hp : l[j] = p := (List.getElem?_eq_some_iff.1 hj).2; rw [List.drop_eq_getElem_cons hl, hp]; exact k55_mkM w base ok p⟩
/-- A row of groups of one's own, by its block. -/
theorem own_flG {w : World} {base : Nat} {ok : Nat → Prop} {g n cap : Nat} {l : List S55} (h : Kd.R k55 55 w base ok (.slice (some ⟨g, 0, none⟩) n cap) l) :
    ok g ∧ base ≤ g ∧ n = l.length ∧ n ≤ cap ∧ cap ≤ maxLen ∧ ∃ cur, w.heap[g]? = some (.cells cur 55 (0, 0)) ∧ cur.size = cap * 2 ∧ cur.toList.take (l.length * 2) = flG l := by
  obtain ⟨h0, inner, ⟨h1, h2⟩, hr⟩ := h
  rcases h2 with ⟨h2, _⟩ | ⟨g', cap', cur, h2, h3, h4, h5, h6, h7, h8⟩
  · cases h2
  · injection h2 with e1 e2 e3
    injection e1 with e1
    injection e1 with e1
    subst e1; subst e2; subst e3; rw [reps_flG hr] at h8; exact ⟨h0 g rfl, h3, rfl, h5, h6, cur, h4, h7, h8⟩
theorem flG_own {w : World} {base : Nat} {ok : Nat → Prop} {g cap : Nat} {l : List S55} {cur : Array Value} (ho : ok g) (hb : base ≤ g) (hn : l.length ≤ cap) (hm : cap ≤ maxLen) (hg : w.heap[g]? = some (.cells cur 55 (0, 0))) (hs : cur.size = cap * 2) (ht : cur.toList.take (l.length * 2) = flG l) :
    Kd.R k55 55 w base ok (.slice (some ⟨g, 0, none⟩) l.length cap) l :=
  ⟨fun k hk => by simp [Value.ownBlock] at hk; exact hk ▸ ho, flG l, ⟨flG_len l, .inr ⟨g, cap, cur, rfl, hb, hg, hn, hm, hs, ht⟩⟩, flG_reps _ _ _ l⟩
theorem run_copy_row2 {P : Program} (w : World) (dT sT ty elem : TypeId) (g o dLen dCap : Nat) (a : Addr) (sLen sCap : Nat) (cur : Array Value) (t : TypeId) (cs : List Value)
    (hu : P.underlying dT = some (.slice elem)) (hs : (P.info? elem).map (·.size) = some 2)
    (hg : w.heap[g]? = some (.cells cur t (0, 0))) (hn : cs.length = Nat.min sLen dLen * 2)
    (hsrc : ∀ j v, cs[j]? = some v → w.cell? (a.add j) = some v) (hfit : o + cs.length ≤ cur.size) (h1 : ∀ v ∈ cs, v.oneCell' = true) :
    (Builtin.copy_ #[dT, sT] ty #[.slice (some ⟨g, o, none⟩) dLen dCap, .slice (some a) sLen sCap]).run P w =
      .ok (goInt (Nat.min sLen dLen)) (w.setRow g (cur.toList.take o ++ cs ++ cur.toList.drop (o + cs.length)).toArray) := by
  have hl := run_loadCells_list (P := P) w a cs hsrc; have hst := run_storeCells_at P g o t cs 0 cur w hg (by simpa using hfit) h1
  cases hq : P.info? elem with
  | none => simp [hq] at hs
  | some i =>
    have hi : i.size = 2 := by simpa [hq] using hs
    simp [Builtin.copy_, run_underlying hu, Builtin.lenOf, Builtin.firstCells, sizeOf, typeInfo, hq, hi, ← hn, hl, hst]
section
variable {P : Program} {ops : Array Oper} {rest : List Oper} {o : Oper} {a : Act} {Q : Exit → Act → World → Prop}
theorem copy_plainG (w : World) (hgd : o.guard = none) (d s : Operand) (t t' : TypeId)
    (ho : o.op = .call { callee := .builtin .copy, args := #[d, s], argTypes := #[t, t'] }) (v u : Value) (hd : a.eval d = v) (hs : a.eval s = u) {v' : Value} {w' : World}
    (hr : (Builtin.copy_ #[t, t'] o.type #[v, u]).run P w = .ok v' w') (h : wpList P ops Q rest (a.put o.dst v') w') : wpList P ops Q (o :: rest) a w :=
  wpList_plain hgd fun K hK => by
    unfold Oper.wp execOp; simp only [ho, resolve, invoke, builtin, Sem.run_bind, Sem.run_pure, Result.andThen_ok, List.map_toArray, List.map_cons, List.map_nil, hd, hs, hr]
    exact hK _ _ h
theorem append_plainG (w : World) (hgd : o.guard = none) (d s : Operand) (t t' : TypeId)
    (ho : o.op = .call { callee := .builtin .append, args := #[d, s], argTypes := #[t, t'] }) (v u : Value) (hd : a.eval d = v) (hs : a.eval s = u) {v' : Value} {w' : World}
    (hr : (Builtin.append_ #[t, t'] o.type #[v, u]).run P w = .ok v' w') (h : wpList P ops Q rest (a.put o.dst v') w') : wpList P ops Q (o :: rest) a w :=
  wpList_plain hgd fun K hK => by
    unfold Oper.wp execOp; simp only [ho, resolve, invoke, builtin, Sem.run_bind, Sem.run_pure, Result.andThen_ok, List.map_toArray, List.map_cons, List.map_nil, hd, hs, hr]
    exact hK _ _ h
theorem copy_stepG {w : World} {K : Act → World → Prop} {E : Prop} (hg : o.guard = none) (d x : Operand) (dT sT : TypeId) (hop : o.op = Op.call { callee := Callee.builtin Builtin.copy, args := #[d, x], argTypes := #[dT, sT] })
    (v u : Value) (hd : a.eval d = v) (hx : a.eval x = u) {v' : Value} {w' : World} (hr : (Builtin.copy_ #[dT, sT] o.type #[v, u]).run P w = .ok v' w') (hK : K (a.put o.dst v') w') :
    if Region.wanted o (yielded ops a.tmps) = true then Oper.wp P o a w K Q else E := by
  have hw : Region.wanted o (yielded ops a.tmps) = true := by simp [Region.wanted, hg]
  rw [if_pos hw]; unfold Oper.wp
  simp [execOp, hop, resolve, invoke, builtin, hd, hx, hr, Result.andThen]
  exact hK
end
theorem wid {n : Int} (h0 : 0 ≤ n) (h1 : n ≤ 1000000) : wrap64 n = n := by unfold wrap64; omega
theorem wid' {n : Int} (h0 : 0 ≤ n) (h1 : n ≤ 1000000) : IntKind.i64.wrap n = n := by rw [IntKind.wrap_i64]; omega
theorem size55 (w : World) : (Go.sizeOf 55).run Try.prog w = .ok 2 w := by
  obtain ⟨i0, hi, _, hs, _⟩ := info_parts info55
  simp [sizeOf, typeInfo, hi, hs]
theorem isz55 : (Try.prog.info? 55).map (·.size) = some 2 := by
  obtain ⟨i0, hi, _, hs, _⟩ := info_parts info55; rw [hi, ← hs]; rfl
set_option maxHeartbeats 4000000 in
set_option maxRecDepth 100000 in
/-- slices.Insert of one group where there is room, ahead of the end. -/
theorem ins_room (g cap vb : Nat) (cur : Array Value) (l : List S55) (i : Nat) (x : S55) (w : World) (hg : w.heap[g]? = some (.cells cur 55 (0, 0))) (hv : w.heap[vb]? = some (.cells #[.string x.f0, .int .i64 x.f1] 55 (0, 0))) (hne : vb ≠ g) (hi : i < l.length) (hl : l.length ≤ 1000) (hc : l.length + 1 ≤ cap) (hcap : cap ≤ maxLen) (hs : cur.size = cap * 2) (ht : cur.toList.take (l.length * 2) = flG l) :
    Calls Try.prog 87 #[.slice (some ⟨g, 0, none⟩) l.length cap, .int .i64 i, .slice (some ⟨vb, 0, none⟩) 1 1] w fun e w' => e = .returned (.slice (some ⟨g, 0, none⟩) (l.length + 1) cap) ∧
      (∃ cur', w'.heap[g]? = some (.cells cur' 55 (0, 0)) ∧ cur'.size = cap * 2 ∧ cur'.toList.take ((l.length + 1) * 2) = flG (l.take i ++ x :: l.drop i)) ∧ w.grownBy w' (some g) := by
  have hov : ∀ lb cb (W : World), W.heap = w.heap → (callFunc 90 #[.slice (some ⟨vb, 0, none⟩) 1 1, .slice (some ⟨g, (i + 1) * 2, none⟩) lb cb]).run Try.prog W = .ok (.value (.bool false)) W := fun lb cb W hW => by
    rw [run_callFunc_extern Try.func90 (by kernel_rfl) (by kernel_rfl) (by kernel_rfl) (e := Extern.SlicesOverlaps.overlaps #[27, 27] #[4]) (by kernel_rfl)]; rw [Lib.run_overlaps_apart W 27 4 55 Try.underlying27 2 size55 _ _ _ _ _ _ hne 55 55 2 (cap * 2) (by simp [World.shape?, hW, hv]) (by simp [World.shape?, hW, hg, hs]) (by omega) (by simp [World.frozen?, hW, hv]) (by simp [World.frozen?, hW, hv])]
    rfl
  have hcl : ∀ j, j < cap * 2 → cur.toList[j]? = cur[j]? := fun j hj => by simp
  have hfl : (flG (l.drop i)).length = (l.length - i) * 2 := by rw [flG_len, List.length_drop]
  obtain ⟨cur1, hcur1⟩ : ∃ c : Array Value, c = (cur.toList.take ((i + 1) * 2) ++ flG (l.drop i) ++ cur.toList.drop ((i + 1) * 2 + (flG (l.drop i)).length)).toArray := ⟨_, rfl⟩; have hs1 : cur1.size = cap * 2 := by
    rw [hcur1]; simp only [List.size_toArray, List.length_append, List.length_take, List.length_drop, Array.length_toList, hfl, hs]; omega
  obtain ⟨cur2, hcur2⟩ : ∃ c : Array Value, c = (cur1.toList.take (i * 2) ++ [Value.string x.f0, .int .i64 x.f1] ++ cur1.toList.drop (i * 2 + 2)).toArray := ⟨_, rfl⟩; have hcp1 : ∀ (W : World) (ty dl dc sl sc : Nat), W.heap = w.heap → Nat.min sl dl = l.length - i → (Builtin.copy_ #[27, 27] ty #[.slice (some ⟨g, (i + 1) * 2, none⟩) dl dc, .slice (some ⟨g, i * 2, none⟩) sl sc]).run Try.prog W = .ok (goInt (Nat.min sl dl)) (W.setRow g cur1) := fun W ty dl dc sl sc hW hm => by
    rw [hcur1]; refine run_copy_row2 W 27 27 ty 55 g _ dl dc _ sl sc cur 55 _ Try.underlying27 isz55 (by rw [hW]; exact hg) (by rw [hfl, hm]) (fun j v hj => ?_) (by rw [hfl, hs]; omega) (flG_one _); have hjl : j < (l.length - i) * 2 := by rw [← hfl]; exact (List.getElem?_eq_some_iff.1 hj).1
    rw [Addr.add_lit, Go.cell_of_row W g _ cur 55 (0, 0) (by rw [hW]; exact hg), ← hj, ← flG_drop, ← ht, List.getElem?_drop, List.getElem?_take, if_pos (by omega)]
    simp
  have hcp2 : ∀ (W : World) (ty dl dc : Nat), W.heap[g]? = some (.cells cur1 55 (0, 0)) → W.heap[vb]? = w.heap[vb]? → 0 < dl → (Builtin.copy_ #[27, 27] ty #[.slice (some ⟨g, i * 2, none⟩) dl dc, .slice (some ⟨vb, 0, none⟩) 1 1]).run Try.prog W = .ok (goInt (Nat.min 1 dl)) (W.setRow g cur2) := fun W ty dl dc hW hW2 hm => by
    rw [hcur2]; refine run_copy_row2 W 27 27 ty 55 g _ dl dc _ 1 1 cur1 55 [.string x.f0, .int .i64 x.f1] Try.underlying27 isz55 hW (by simp only [Nat.min_def, List.length_cons, List.length_nil]; split <;> omega) (fun j v hj => ?_) (by rw [hs1]; show i * 2 + 2 ≤ cap * 2; omega) (fun v hv => by simp at hv; rcases hv with rfl | rfl <;> rfl); rw [Addr.add_lit, Go.cell_of_row W vb _ _ 55 (0, 0) (by rw [hW2]; exact hv), ← hj]
    simp
  have hfin : cur2.size = cap * 2 ∧ cur2.toList.take ((l.length + 1) * 2) = flG (l.take i ++ x :: l.drop i) := by
    refine ⟨by rw [hcur2]; simp only [List.size_toArray, List.length_append, List.length_take, List.length_drop, Array.length_toList, hs1, List.length_cons, List.length_nil]; omega, ?_⟩; have e0 : cur.toList.take (i * 2) = flG (l.take i) := by rw [← flG_take, ← ht, List.take_take]; congr 1; omega
    have e1 : cur1.toList.take (i * 2) = flG (l.take i) := by
      rw [hcur1, ← e0]; simp only [List.append_assoc]; rw [List.take_append_of_le_length (by simp; omega), List.take_take]; congr 1; omega
    have e2 : cur1.toList.drop (i * 2 + 2) = flG (l.drop i) ++ cur.toList.drop ((i + 1) * 2 + (flG (l.drop i)).length) := by
      rw [hcur1]; simp only [List.append_assoc]; rw [List.drop_append_of_le_length (by simp; omega), List.drop_of_length_le (by simp; omega), List.nil_append]
    rw [hcur2, e1, e2]; simp only [List.append_assoc]
    rw [show flG (l.take i ++ x :: l.drop i) = flG (l.take i) ++ ([.string x.f0, .int .i64 x.f1] ++ flG (l.drop i)) by rw [flG_app]; rfl]; rw [← List.append_assoc [Value.string x.f0, _], ← List.append_assoc (flG (l.take i))]; refine List.take_left' ?_; simp only [List.length_append, flG_len, List.length_take, List.length_drop, List.length_cons, List.length_nil]; omega
  clear hcl hcur1 hcur2 ht; have HF := Aside0.mk hfin; have HG := Aside0.mk hg; have NE := Aside0.mk hne; have HV := Aside0.mk hv; have HL := Aside0.mk hl; have HI := Aside0.mk hi; have OV := Aside0.mk hov; have CP1 := Aside0.mk hcp1; have CP2 := Aside0.mk hcp2; have d0 : ((i : Int) == (l.length : Int)) = false := beq_eq_false_iff_ne.2 (by omega); have d2 : decide ((cap : Int) < (l.length : Int) + 1) = false := dN (by omega); have d4 : (0 : Int) ≤ (i : Int) := by omega
  have d5 : (i : Int) ≤ (l.length : Int) := by omega
  have d6 : (l.length : Int) + 1 ≤ (cap : Int) := by omega
  have d7 : ¬ (cap = i) := by omega
  have d8 : ¬ (cap = i + 1) := by omega
  have hb1 : (0 : Int) ≤ (i : Int) + 1 := by omega
  have hb2 : (i : Int) ≤ (l.length : Int) + 1 := by omega
  have htn : ((i : Int) + 1).toNat = i + 1 := by omega
  have e1 : (0 : Int) ≤ (i : Int) + 1 ∧ (i : Int) + 1 ≤ 1000000 := by omega
  have e2 : (0 : Int) ≤ (l.length : Int) + 1 ∧ (l.length : Int) + 1 ≤ 1000000 := by omega
  have m1 : Nat.min (l.length + 1 - i) (l.length - i) = l.length - i := by simp only [Nat.min_def]; split <;> omega
  have m2 : 0 < l.length + 1 - i := by omega
  have mixed : Try.prog.follows Departure.mixedOrders = true := by kernel_rfl
  have d1 := wid e2.1 e2.2; have d3 := wid e1.1 e1.2; have hw1 := wid' e1.1 e1.2; clear e1 e2; clear hfin hg hv hne hl hi hov hcp1 hcp2 hfl hs1 hs; go_enter Try.func87, Try.ntmps87
  go_wp2_with (simp only [OV.out _ _ w rfl])
  have hr1 := CP1.out w.drew 3 (l.length - i) (cap - (i + 1)) (l.length + 1 - i) (cap - i) rfl m1; have hr2 := CP2.out (w.drew.setRow g cur1) 3 (l.length + 1 - i) (cap - i) (setRow_heap w.drew g cur cur1 55 (0, 0) HG.out) (setRow_other w.drew g vb cur1 NE.out) m2; go_region
  go_wp2
  go_ret
  refine ⟨rfl, ⟨cur2, setRow_heap (w.drew.setRow g cur1) g cur1 cur2 55 (0, 0) (setRow_heap w.drew g cur cur1 55 (0, 0) HG.out), HF.out⟩, rfl, rfl, rfl, by simp, fun k _ hk => ?_⟩; have hk' : k ≠ g := fun e => hk (by rw [e])
  rw [setRow_other _ g k cur2 hk', setRow_other _ g k cur1 hk']
  rfl
set_option maxHeartbeats 4000000 in
set_option maxRecDepth 100000 in
/-- .. where there is none: a row of its own. -/
theorem ins_grow (g cap vb : Nat) (cur : Array Value) (l : List S55) (i : Nat) (x : S55) (w : World) (hg : w.heap[g]? = some (.cells cur 55 (0, 0))) (hv : w.heap[vb]? = some (.cells #[.string x.f0, .int .i64 x.f1] 55 (0, 0))) (hi : i < l.length) (hl : l.length ≤ 1000) (hc0 : l.length ≤ cap) (hc : cap < l.length + 1) (hs : cur.size = cap * 2) (ht : cur.toList.take (l.length * 2) = flG l) :
    Calls Try.prog 87 #[.slice (some ⟨g, 0, none⟩) l.length cap, .int .i64 i, .slice (some ⟨vb, 0, none⟩) 1 1] w fun e w' => ∃ G, e = .returned (.slice (some ⟨w.heap.size, 0, none⟩) (l.length + 1) G) ∧ l.length + 1 ≤ G ∧ G ≤ maxLen ∧
      (∃ cur', w'.heap[w.heap.size]? = some (.cells cur' 55 (0, 0)) ∧ cur'.size = G * 2 ∧ cur'.toList.take ((l.length + 1) * 2) = flG (l.take i ++ x :: l.drop i)) ∧ w.grownBy w' none := by
  obtain rfl : cap = l.length := by omega
  obtain ⟨i0, hi0, hz0, hzs, hzb⟩ := info_parts info55; have hgw : g < w.heap.size := (Array.getElem?_eq_some_iff.1 hg).1; have hvw : vb < w.heap.size := (Array.getElem?_eq_some_iff.1 hv).1; have hki : (l.length : Int) + 1 - (i : Int) = ((l.length + 1 - i : Nat) : Int) := by omega
  have hik : i + (l.length + 1 - i) = l.length + 1 := by omega
  have hcell : ∀ (W : World), W.heap[g]? = w.heap[g]? → ∀ j u, (flG l)[j]? = some u → W.cell? ⟨g, j, none⟩ = some u := fun W hW j u hj => by
    have hjl : j < l.length * 2 := by rw [← flG_len]; exact (List.getElem?_eq_some_iff.1 hj).1
    rw [Go.cell_of_row W g _ cur 55 (0, 0) (by rw [hW]; exact hg), ← hj, ← ht, List.getElem?_take, if_pos (by omega)]
    simp
  have hold : (Builtin.firstCells i0.size i (.slice (some ⟨g, 0, none⟩) i l.length)).run Try.prog w.drew = .ok (flG (l.take i)).toArray w.drew := by
    rw [hzs]; exact run_firstCells_some w.drew 2 i ⟨g, 0, none⟩ i l.length (flG (l.take i)) (by rw [flG_len, List.length_take]; omega) (fun j v hj => by
      rw [Addr.add_lit, Nat.zero_add]; rw [← flG_take, List.getElem?_take] at hj
      split at hj
      · exact hcell _ rfl j v hj
      · cases hj)
  obtain ⟨G, hG⟩ : ∃ G, G = grownCap w (l.length + 1) l.length 55 := ⟨_, rfl⟩; obtain ⟨ROW, hROW⟩ : ∃ ROW : Array Value, ROW = (flG (l.take i)).toArray ++ Builtin.zeroCells (Value.agg #[(.string ⟨#[]⟩), (.int .i64 0)]).cells (l.length + 1 - i) ++ Builtin.zeroCells (Value.agg #[(.string ⟨#[]⟩), (.int .i64 0)]).cells (G - (l.length + 1)) := ⟨_, rfl⟩; have hGn : l.length + 1 ≤ G := by rw [hG]; exact grownCap_ge w _ _ _
  have hGm : G ≤ maxLen := by rw [hG]; exact grownCap_le_maxLen w _ _ _ (by simp only [maxLen]; omega)
  have hRs : ROW.size = G * 2 := by
    rw [hROW]; simp only [Array.size_append, List.size_toArray, size_zeroCells, flG_len, List.length_take, show (Value.agg #[(.string ⟨#[]⟩), (.int .i64 0)]).cells.size = 2 from rfl]
    omega
  have hRt : ROW.toList.take (i * 2) = flG (l.take i) := by
    rw [hROW]; simp only [Array.toList_append, List.append_assoc]
    exact List.take_left' (by rw [flG_len, List.length_take]; omega)
  have hrz : ∀ ty, (Builtin.append_ #[27, 3] ty #[.slice (some ⟨g, 0, none⟩) i l.length, .int .i64 ((l.length + 1 - i : Nat) : Int)]).run Try.prog w = .ok (.slice (some ⟨w.heap.size, 0, none⟩) (l.length + 1) G) (w.drew.alloc (.cells ROW 55)) := fun ty => by
    have h := Lib.run_append_grow_zeros w 27 3 ty 55 i0 _ .i64 .i64 Try.underlying27 Try.underlying3 hi0 hz0 (some ⟨g, 0, none⟩) i l.length (flG (l.take i)) hold (l.length + 1 - i) (by omega) (by omega) (by omega) (by omega) (by rw [hzb]; omega) (by rw [hzb, hik]; exact growslice_fits hc (by omega)); rw [hik, ← hG, ← hROW] at h; exact h
  have hfl : (flG (l.drop i)).length = (l.length - i) * 2 := by rw [flG_len, List.length_drop]
  obtain ⟨cur1, hcur1⟩ : ∃ c : Array Value, c = (ROW.toList.take (i * 2) ++ [Value.string x.f0, .int .i64 x.f1] ++ ROW.toList.drop (i * 2 + 2)).toArray := ⟨_, rfl⟩; have hs1 : cur1.size = G * 2 := by
    rw [hcur1]; simp only [List.size_toArray, List.length_append, List.length_take, List.length_drop, Array.length_toList, hRs, List.length_cons, List.length_nil]; omega
  obtain ⟨cur2, hcur2⟩ : ∃ c : Array Value, c = (cur1.toList.take ((i + 1) * 2) ++ flG (l.drop i) ++ cur1.toList.drop ((i + 1) * 2 + (flG (l.drop i)).length)).toArray := ⟨_, rfl⟩; have hcp1 : ∀ (W : World) (ty dl dc : Nat), W.heap[w.heap.size]? = some (.cells ROW 55 (0, 0)) → W.heap[vb]? = w.heap[vb]? → 0 < dl → (Builtin.copy_ #[27, 27] ty #[.slice (some ⟨w.heap.size, i * 2, none⟩) dl dc, .slice (some ⟨vb, 0, none⟩) 1 1]).run Try.prog W = .ok (goInt (Nat.min 1 dl)) (W.setRow w.heap.size cur1) := fun W ty dl dc hW hW2 hm => by
    rw [hcur1]; refine run_copy_row2 W 27 27 ty 55 _ _ dl dc _ 1 1 ROW 55 [.string x.f0, .int .i64 x.f1] Try.underlying27 isz55 hW (by simp only [Nat.min_def, List.length_cons, List.length_nil]; split <;> omega) (fun j v hj => ?_) (by rw [hRs]; show i * 2 + 2 ≤ G * 2; omega) (fun v hv => by simp at hv; rcases hv with rfl | rfl <;> rfl); rw [Addr.add_lit, Go.cell_of_row W vb _ _ 55 (0, 0) (by rw [hW2]; exact hv), ← hj]
    simp
  have hcp2 : ∀ (W : World) (ty dl dc sl sc : Nat), W.heap[w.heap.size]? = some (.cells cur1 55 (0, 0)) → W.heap[g]? = w.heap[g]? → Nat.min sl dl = l.length - i → (Builtin.copy_ #[27, 27] ty #[.slice (some ⟨w.heap.size, (i + 1) * 2, none⟩) dl dc, .slice (some ⟨g, i * 2, none⟩) sl sc]).run Try.prog W = .ok (goInt (Nat.min sl dl)) (W.setRow w.heap.size cur2) := fun W ty dl dc sl sc hW hW2 hm => by
    rw [hcur2]; refine run_copy_row2 W 27 27 ty 55 _ _ dl dc _ sl sc cur1 55 _ Try.underlying27 isz55 hW (by rw [hfl, hm]) (fun j v hj => ?_) (by rw [hfl, hs1]; omega) (flG_one _); have hjl : j < (l.length - i) * 2 := by rw [← hfl]; exact (List.getElem?_eq_some_iff.1 hj).1
    rw [← flG_drop, List.getElem?_drop] at hj; rw [Addr.add_lit]; exact hcell W hW2 _ _ hj
  have hfin : cur2.size = G * 2 ∧ cur2.toList.take ((l.length + 1) * 2) = flG (l.take i ++ x :: l.drop i) := by
    refine ⟨by rw [hcur2]; simp only [List.size_toArray, List.length_append, List.length_take, List.length_drop, Array.length_toList, hs1, hfl]; omega, ?_⟩; have e1 : cur1.toList.take ((i + 1) * 2) = flG (l.take i) ++ [Value.string x.f0, .int .i64 x.f1] := by
      rw [hcur1, hRt]; exact List.take_left' (by simp only [List.length_append, flG_len, List.length_take, List.length_cons, List.length_nil]; omega)
    rw [hcur2, e1]; simp only [List.append_assoc]
    rw [show flG (l.take i ++ x :: l.drop i) = flG (l.take i) ++ ([.string x.f0, .int .i64 x.f1] ++ flG (l.drop i)) by rw [flG_app]; rfl]; rw [← List.append_assoc [Value.string x.f0, _], ← List.append_assoc (flG (l.take i))]; refine List.take_left' ?_; simp only [List.length_append, flG_len, List.length_take, List.length_drop, List.length_cons, List.length_nil]; omega
  clear hcell hold hz0 hzs hzb hi0 hRs hRt hROW hG hcur1 hcur2 ht hs hfl hs1; have HF := Aside0.mk hfin; have HGN := Aside0.mk hGn; have HGM := Aside0.mk hGm; have hr1 := hcp1 (w.alloc (.cells ROW 55)).drew 3 (l.length + 1 - i) (G - i) (heap_alloc_new w.drew _) (heap_alloc_old w.drew _ hvw) (by omega); have hn1 : ((w.alloc (.cells ROW 55)).drew.setRow w.heap.size cur1).heap[w.heap.size]? = some (.cells cur1 55 (0, 0)) := setRow_heap _ _ ROW cur1 55 (0, 0) (heap_alloc_new w.drew _); have m1 : Nat.min (l.length - i) (l.length + 1 - (i + 1)) = l.length - i := by simp only [Nat.min_def]; split <;> omega
  have hr2 := hcp2 ((w.alloc (.cells ROW 55)).drew.setRow w.heap.size cur1).drew 3 (l.length + 1 - (i + 1)) (G - (i + 1)) (l.length - i) (l.length - i) hn1 (((setRow_other _ w.heap.size g cur1 (by omega)).trans (heap_alloc_old w.drew _ hgw))) m1; have hn2 : (((w.alloc (.cells ROW 55)).drew.setRow w.heap.size cur1).drew.setRow w.heap.size cur2).heap[w.heap.size]? = some (.cells cur2 55 (0, 0)) := setRow_heap _ _ cur1 cur2 55 (0, 0) hn1; have hgr : w.grownBy (((w.alloc (.cells ROW 55)).drew.setRow w.heap.size cur1).drew.setRow w.heap.size cur2) none := by
    refine ⟨rfl, rfl, rfl, by simp, fun k hk _ => ?_⟩; rw [setRow_other _ _ k cur2 (by omega)]; exact (setRow_other _ _ k cur1 (by omega)).trans (heap_alloc_old w.drew _ hk)
  rw [show l.length + 1 - (i + 1) = l.length - i by omega] at hr2; have HN2 := Aside0.mk hn2; have HGR := Aside0.mk hgr; have HR := Aside0.mk hrz; have d0 : ((i : Int) == (l.length : Int)) = false := beq_eq_false_iff_ne.2 (by omega); have d2 : decide ((l.length : Int) < (l.length : Int) + 1) = true := dY (by omega); have d4 : (0 : Int) ≤ (i : Int) := by omega
  have d5 : (i : Int) ≤ (l.length : Int) := by omega
  have d6 : (i : Int) ≤ (l.length : Int) + 1 := by omega
  have d6b : (i : Int) + 1 ≤ (l.length : Int) + 1 := by omega
  have d7 : ¬ (G = i) := by omega
  have d8 : ¬ (G = i + 1) := by omega
  have d9 : ¬ (l.length = i) := by omega
  have hb1 : (0 : Int) ≤ (i : Int) + 1 := by omega
  have htn : ((i : Int) + 1).toNat = i + 1 := by omega
  have e1 : (0 : Int) ≤ (i : Int) + 1 ∧ (i : Int) + 1 ≤ 1000000 := by omega
  have e2 : (0 : Int) ≤ (l.length : Int) + 1 ∧ (l.length : Int) + 1 ≤ 1000000 := by omega
  have e3 : (0 : Int) ≤ ((l.length + 1 - i : Nat) : Int) ∧ ((l.length + 1 - i : Nat) : Int) ≤ 1000000 := by omega
  have mixed : Try.prog.follows Departure.mixedOrders = true := by kernel_rfl
  clear hfin hg hv hi hl hcp1 hcp2 hgw hvw hik hGn hGm hc0 hc m1 hn1 hn2 hgr hrz; have d1 := wid e2.1 e2.2; have d3 := wid e1.1 e1.2; have hw1 := wid' e1.1 e1.2; have hw2 := wid e3.1 e3.2; clear e1 e2 e3; go_enter Try.func87, Try.ntmps87
  go_wp2_with (first | ((with_reducible refine gate_builtin (b := .append) (xs := #[.tmp 34, .tmp 39]) rfl ?_); at_builtin; refine append_plainG w rfl (.tmp 34) (.tmp 39) 27 3 rfl (.slice (some ⟨g, 0, none⟩) i l.length) (.int .i64 ((l.length + 1 - i : Nat) : Int)) (by first | rfl | (go_simp; done) | (go_simp; rfl)) (by first | rfl | (go_simp; done) | (go_simp; rfl)) (HR.out 27) ?_))
  go_region
  go_wp2
  go_ret
  exact ⟨G, rfl, HGN.out, HGM.out, ⟨cur2, HN2.out, HF.out⟩, HGR.out⟩
set_option maxHeartbeats 4000000 in
set_option maxRecDepth 100000 in
/-- slices.Insert of one group into a row of one's own. -/
theorem ins87 (v : Value) (l : List S55) (i : Nat) (x : S55) (vb : Nat) (w0 w : World) (HO : Kd.R k55 55 w w0.heap.size (fun _ => True) v l) (hv : w.heap[vb]? = some (.cells #[.string x.f0, .int .i64 x.f1] 55 (0, 0))) (hne : some vb ≠ v.ownBlock) (HB : Below w0.heap.size w0 w) (hi : i ≤ l.length) (hl : l.length ≤ 1000) :
    Calls Try.prog 87 #[v, .int .i64 i, .slice (some ⟨vb, 0, none⟩) 1 1] w fun e w' => ∃ v', e = .returned v' ∧ Kd.R k55 55 w' w0.heap.size (fun _ => True) v' (l.take i ++ x :: l.drop i) ∧ Below w0.heap.size w0 w' ∧ w.grownBy w' v.ownBlock ∧ (v'.ownBlock = v.ownBlock ∨ ∃ b, v'.ownBlock = some b ∧ w.heap.size ≤ b) := by
  by_cases he : i = l.length
  · subst he
    have hbase : w0.heap.size ≤ w.heap.size := below_size HB; have hR : ReadsRow (fun (y : S55) cs => cs = [.string y.f0, .int .i64 y.f1]) k55.sz w (some ⟨vb, 0, none⟩) 1 [x] := ⟨rfl, by omega, fun _ => ⟨_, rfl, fun j p hj => by
      cases j with
      | zero =>
        simp only [List.getElem?_cons_zero, Option.some.injEq] at hj
        subst hj; refine ⟨_, rfl, rfl, fun k u hu => ?_⟩; rw [Addr.add_lit, Go.cell_of_row w vb _ _ 55 (0, 0) hv, ← hu]
        simp
      | succ j => simp at hj⟩⟩
    rw [List.take_length, List.drop_length]; obtain ⟨A, c, rfl⟩ := Kd.R_slice HO; have HOO := Aside0.mk HO; have HBB := Aside0.mk HB; have HRR := Aside0.mk hR; have HL := Aside0.mk hl; have HBS := Aside0.mk hbase; have hc := (Kd.R_reads' HO).2.1; clear HO HB hR hv hne hl hbase; by_cases hcc : c = l.length
    · subst hcc
      go_enter Try.func87, Try.ntmps87
      go_wp2_with (first | ((with_reducible refine gate_builtin (b := .append) (xs := #[.tmp 23, .tmp 24]) rfl ?_); at_builtin; refine Kd.R_append_rows k55 (w0 := w0) w0.heap.size rfl (.tmp 23) (.tmp 24) 27 55 (.agg #[(.string ⟨#[]⟩), (.int .i64 0)]) 24 rfl Try.underlying27 info55 rfl (by decide) (by omega) (.slice A l.length _) l [x] (some ⟨vb, 0, none⟩) 1 1 (fun _ => True) (fun _ => False) (by first | rfl | (go_simp; done) | (go_simp; rfl)) (by first | rfl | (go_simp; done) | (go_simp; rfl)) HOO.out HRR.out (fun y cs hy => by subst hy; exact k55_mkM _ _ _ y) (fun _ hk => hk.elim) (fun _ _ => trivial) HBB.out HBS.out (by have := HL.out; omega) ?_; intro v4 w4 ho hb hgr hat; have HN := Aside0.mk (And.intro ho (And.intro hb (And.intro hgr hat))); clear ho hb hgr hat))
      go_ret
      exact ⟨_, rfl, HN.out.1, HN.out.2.1, HN.out.2.2.1, HN.out.2.2.2⟩
    · have hcc' : ¬ (c = l.length) := hcc
      clear hcc; go_enter Try.func87, Try.ntmps87
      go_wp2_with (first | ((with_reducible refine gate_builtin (b := .append) (xs := #[.tmp 23, .tmp 24]) rfl ?_); at_builtin; refine Kd.R_append_rows k55 (w0 := w0) w0.heap.size rfl (.tmp 23) (.tmp 24) 27 55 (.agg #[(.string ⟨#[]⟩), (.int .i64 0)]) 24 rfl Try.underlying27 info55 rfl (by decide) (by omega) (.slice A l.length _) l [x] (some ⟨vb, 0, none⟩) 1 1 (fun _ => True) (fun _ => False) (by first | rfl | (go_simp; done) | (go_simp; rfl)) (by first | rfl | (go_simp; done) | (go_simp; rfl)) HOO.out HRR.out (fun y cs hy => by subst hy; exact k55_mkM _ _ _ y) (fun _ hk => hk.elim) (fun _ _ => trivial) HBB.out HBS.out (by have := HL.out; omega) ?_; intro v4 w4 ho hb hgr hat; have HN := Aside0.mk (And.intro ho (And.intro hb (And.intro hgr hat))); clear ho hb hgr hat))
      go_ret
      exact ⟨_, rfl, HN.out.1, HN.out.2.1, HN.out.2.2.1, HN.out.2.2.2⟩
  · have hlt : i < l.length := by omega
    obtain ⟨A, c, rfl⟩ := Kd.R_slice HO; obtain ⟨g, hA⟩ : ∃ g, A = some ⟨g, 0, none⟩ := by
      obtain ⟨_, inner, ⟨_, h2⟩, _⟩ := HO
      rcases h2 with ⟨h2, h3⟩ | ⟨g', cap', cur, h2, _⟩
      · omega
      · injection h2 with e1 _ _
        exact ⟨g', e1⟩
    subst hA; obtain ⟨_, hbg, _, hnc, hcm, cur, hg, hs, ht⟩ := own_flG HO; have hgw : g < w.heap.size := (Array.getElem?_eq_some_iff.1 hg).1; have hlen : (l.take i ++ x :: l.drop i).length = l.length + 1 := by simp; omega
    by_cases hroom : l.length + 1 ≤ c
    · refine (ins_room g c vb cur l i x w hg hv (fun e => hne (by rw [e]; rfl)) hlt hl hroom hcm hs ht).mono ?_
      rintro e w' ⟨rfl, ⟨cur', h1, h2, h3⟩, hgr⟩; refine ⟨_, rfl, ?_, HB.grown hgr (below_size HB) (fun k hk => by simp [Value.ownBlock] at hk; omega), hgr, .inl rfl⟩; have := flG_own (ok := fun _ => True) trivial hbg (by rw [hlen]; exact hroom) hcm h1 h2 (by rw [hlen]; exact h3); rw [hlen] at this; exact this
    · refine (ins_grow g c vb cur l i x w hg hv hlt hl hnc (by omega) hs ht).mono ?_
      rintro e w' ⟨G, rfl, hG, hGm, ⟨cur', h1, h2, h3⟩, hgr⟩; refine ⟨_, rfl, ?_, HB.grown hgr (below_size HB) (fun k hk => by simp at hk), ⟨hgr.os, hgr.tape, hgr.output, hgr.size, fun k hk h => hgr.block k hk (by simp)⟩, .inr ⟨_, rfl, Nat.le_refl _⟩⟩; have := flG_own (ok := fun _ => True) trivial (below_size HB) (by rw [hlen]; exact hG) hGm h1 h2 (by rw [hlen]; exact h3); rw [hlen] at this; exact this
theorem bsG_le (l : List S55) (x : ByteArray) : ∀ k lo hi : Nat, lo ≤ hi → lo ≤ bsG l x k lo hi ∧ bsG l x k lo hi ≤ hi
  | 0, lo, hi, h => ⟨Nat.le_refl _, h⟩
  | k + 1, lo, hi, h => by
    rw [bsG]
    split
    · split
      · have := bsG_le l x k ((lo + hi) / 2 + 1) hi (by omega); omega
      · have := bsG_le l x k lo ((lo + hi) / 2) (by omega); omega
    · exact ⟨Nat.le_refl _, h⟩
theorem bsI_le (l : List S55) (x : ByteArray) : bsI l x ≤ l.length := (bsG_le l x _ 0 _ (Nat.zero_le _)).2
theorem bsF_lt {l : List S55} {x : ByteArray} (h : bsF l x = true) : bsI l x < l.length := by
  simp only [bsF, Bool.and_eq_true, decide_eq_true_eq] at h
  exact h.1
set_option maxHeartbeats 4000000 in
set_option maxRecDepth 100000 in
/-- A group that is there: where it lies. -/
theorem grp_found (g gb c : Nat) (s0 : ByteArray) (s1 : Int) (v2 : Value) (l : List S55) (x : ByteArray) (w : World) (hG : w.heap[g]? = some (.cells #[.string s0, .int .i64 s1, v2, .slice (some ⟨gb, 0, none⟩) l.length c] 29 (0, 0))) (hr : Kd.C k55 w (some ⟨gb, 0, none⟩) l.length l) (hl : l.length ≤ 1000) (h : bsF l x = true) :
    Calls Try.prog 72 #[.pointer (some ⟨g, 0, none⟩), .string x] w fun e w' => e = .returned (.pointer (some ⟨gb, bsI l x * 2, none⟩)) ∧ Below w.heap.size w w' := by
  have BK := Aside0.mk hG; have HR := Aside0.mk hr; have HL := Aside0.mk hl; have HI := Aside0.mk (bsF_lt h); have hcz_3 : w.cell? ⟨g, 3, none⟩ = some (.slice (some ⟨gb, 0, none⟩) l.length c) := (blk_cell BK.out 3).trans rfl; have d1 : (0 : Int) ≤ (bsI l x : Int) := by omega
  have d2 : (bsI l x : Int) < (l.length : Int) := by have := HI.out; omega
  have d3 : bsI l x < l.length := HI.out; clear hG hr hl; go_enter Try.func72, Try.ntmps72
  go_wp2_with (first | (go_at_call 84; (with_reducible refine (bs84 _ _ l x _ HR.out HL.out).mono ?_); rintro e w1 ⟨rfl, hb⟩; have HB := Aside0.mk hb; have hcz_4 := pB hb hcz_3; clear hb))
  go_ret
  exact ⟨by simp, HB.out⟩
set_option maxHeartbeats 4000000 in
set_option maxRecDepth 100000 in
/-- No room for one more. -/
theorem grp_full (g c : Nat) (A : Option Addr) (s0 : ByteArray) (s1 : Int) (v2 : Value) (l : List S55) (x : ByteArray) (w : World) (hG : w.heap[g]? = some (.cells #[.string s0, .int .i64 s1, v2, .slice A l.length c] 29 (0, 0))) (hr : Kd.C k55 w A l.length l) (hl : l.length = 4) (h : bsF l x = false) :
    Calls Try.prog 72 #[.pointer (some ⟨g, 0, none⟩), .string x] w fun e w' => e = .returned (.pointer none) ∧ Below w.heap.size w w' := by
  have BK := Aside0.mk hG; have HR := Aside0.mk hr; have HL := Aside0.mk (show l.length ≤ 1000 by omega); have hcz_3 : w.cell? ⟨g, 3, none⟩ = some (.slice A l.length c) := (blk_cell BK.out 3).trans rfl; have d1 : ((l.length : Int) == 4) = true := by rw [hl]; rfl
  clear hG hr hl; go_enter Try.func72, Try.ntmps72
  go_wp2_with (first | (go_at_call 84; (with_reducible refine (bs84 _ _ l x _ HR.out HL.out).mono ?_); rintro e w1 ⟨rfl, hb⟩; have HB := Aside0.mk hb; have hcz_4 := pB hb hcz_3; clear hb))
  go_ret
  exact ⟨by simp, HB.out⟩
theorem at_later {w w1 : World} {g gb n c : Nat} {row row1 : Option Nat} {o : Obj} (hk : KeepBut w w1 g row1) (hat : (Value.slice (some ⟨gb, 0, none⟩) n c).ownBlock = row ∨ ∃ b, (Value.slice (some ⟨gb, 0, none⟩) n c).ownBlock = some b ∧ (w1.alloc o).drew.heap.size ≤ b) : some gb = row ∨ w.heap.size ≤ gb := by
  rcases hat with h | ⟨b, h1, h2⟩
  · exact .inl h
  · have e : gb = b := Option.some.inj h1
    have h3 : (w1.alloc o).drew.heap.size = w1.heap.size + 1 := by simp
    have := hk.1; exact .inr (by omega)
set_option maxHeartbeats 4000000 in
set_option maxRecDepth 100000 in
theorem grp_new (g : Nat) (s0 : ByteArray) (s1 : Int) (v2 v3 : Value) (l : List S55) (x : ByteArray) (w0 w : World) (hG : w.heap[g]? = some (.cells #[.string s0, .int .i64 s1, v2, v3] 29 (0, 0))) (hg : w0.heap.size ≤ g) (hB : Below w0.heap.size w0 w) (h3 : Kd.R k55 55 w w0.heap.size (fun _ => True) v3 l) (hl : l.length ≤ 1000) (hl4 : l.length ≠ 4) (h : bsF l x = false) :
    Calls Try.prog 72 #[.pointer (some ⟨g, 0, none⟩), .string x] w fun e w' => ∃ gb c, e = .returned (.pointer (some ⟨gb, bsI l x * 2, none⟩)) ∧ w'.heap[g]? = some (.cells #[.string s0, .int .i64 s1, v2, .slice (some ⟨gb, 0, none⟩) (l.length + 1) c] 29 (0, 0)) ∧
      Kd.R k55 55 w' w0.heap.size (fun _ => True) (.slice (some ⟨gb, 0, none⟩) (l.length + 1) c) (l.take (bsI l x) ++ ⟨x, s1⟩ :: l.drop (bsI l x)) ∧ Below w0.heap.size w0 w' ∧ KeepBut w w' g v3.ownBlock ∧ (some gb = v3.ownBlock ∨ w.heap.size ≤ gb) := by
  obtain ⟨A, c, rfl⟩ := Kd.R_slice h3; have BK := Aside0.mk hG; have HO := Aside0.mk h3; have HB := Aside0.mk hB; have GE := Aside0.mk hg; have HR := Aside0.mk (Kd.R_reads' h3).2.2; have HL := Aside0.mk hl; have HI := Aside0.mk (bsI_le l x); have hcz_1 : w.cell? ⟨g, 1, none⟩ = some (.int .i64 s1) := (blk_cell BK.out 1).trans rfl; have hcz_3 : w.cell? ⟨g, 3, none⟩ = some (.slice A l.length c) := (blk_cell BK.out 3).trans rfl; have hfz_3 := blk_frozen BK.out 3; have d1 : ((l.length : Int) == 4) = false := beq_eq_false_iff_ne.2 (by omega); clear hG h3 hB hg hl hl4; go_enter Try.func72, Try.ntmps72
  go_wp2_with (first | (go_at_call 84; (with_reducible refine (bs84 _ _ l x _ HR.out HL.out).mono ?_); rintro e w1 ⟨rfl, hb⟩; have n1_ := Aside0.mk (below_step HB.out hb); have n2_ := Aside0.mk (blk_below BK.out hb); have n3_ := Aside0.mk (Kd.R_below HO.out hb); have HK := Aside0.mk (KeepBut.of_below hb g (.slice A l.length c : Value).ownBlock); have hcx_1 := pB hb hcz_1; have hcx_3 := pB hb hcz_3; clear hb HB BK HO hcz_1 hcz_3 hfz_3; have HB := n1_; have BK := n2_; have HO := n3_; clear n1_ n2_ n3_; have hfz_3 := blk_frozen BK.out 3))
  have mixed : Try.prog.follows Departure.mixedOrders = true := by kernel_rfl
  have hng : g < w1.heap.size := blk_lt BK.out; have hng2 : ¬ (g = w1.heap.size) := Nat.ne_of_lt hng; have hng3 : ¬ (w1.heap.size = g) := fun e => hng2 e.symm
  have hay_3 : (w1.alloc (.cells #[.string x, .int .i64 s1] 55)).drew.cell? ⟨g, 3, none⟩ = some (.slice A l.length c) := pB (below_drew1 (below_alloc (Below.refl _ _) _)) hcx_3; go_region_with_o (
    go_at_call 87
    refine (ins87 (.slice A l.length c) l (bsI l x) ⟨x, s1⟩ w1.heap.size w0 _ (Kd.R_drew (Kd.R_alloc HO.out _)) (heap_alloc_new w1 _) (fun e => Nat.lt_irrefl _ (Kd.R_lt HO.out _ e.symm)) (below_drew1 (below_alloc HB.out _)) HI.out HL.out).mono ?_; rintro e w2 ⟨v', rfl, ho, hb, hgr, hat⟩; have hlen : (l.take (bsI l x) ++ (⟨x, s1⟩ : S55) :: l.drop (bsI l x)).length = l.length + 1 := by have := HI.out; simp; omega
    obtain ⟨gb, c2, rfl⟩ : ∃ gb c2, v' = .slice (some ⟨gb, 0, none⟩) (l.length + 1) c2 := by
      obtain ⟨gb, c2, e, _⟩ := Kd.R_form ho (by rw [hlen]; omega); exact ⟨gb, c2, by rw [e, hlen]⟩
    clear hlen; have HAT := Aside0.mk (at_later HK.out hat); clear hat; have hgr2 : w1.grownBy w2 (.slice A l.length c : Value).ownBlock := (World.grownBy_alloc w1 (.cells #[.string x, .int .i64 s1] 55) _).trans ⟨hgr.os, hgr.tape, hgr.output, hgr.size, hgr.block⟩; have BK2 := Aside0.mk (blk_grown BK.out hgr2 (Kd.R_ne HO.out BK.out (by decide))); have HB2 := Aside0.mk hb; have HO2 := Aside0.mk ho; have HK2 := Aside0.mk (KeepBut.trans HK.out (KeepBut.of_grown hgr2 g) (.inl rfl)); clear hb ho hgr hgr2; have dcz_1 : w2.cell? ⟨g, 1, none⟩ = some (.int .i64 s1) := (blk_cell BK2.out 1).trans rfl; have dcz_3 : w2.cell? ⟨g, 3, none⟩ = some (.slice A l.length c) := (blk_cell BK2.out 3).trans rfl; have dfz_3 := blk_frozen BK2.out 3)
  all_goals (
    have d4 : (0 : Int) ≤ (bsI l x : Int) := by omega
    have d5 : (bsI l x : Int) < (l.length : Int) + 1 := by have := HI.out; omega
    have d5n : bsI l x < l.length + 1 := by have := HI.out; omega
    go_wp2
    go_ret
    exact ⟨gb, c2, by simp, blk_put BK2.out 3 _ rfl, Kd.R_mono (Kd.R_far (p := ⟨g, 3, none⟩) (Kd.R_types HO2.out BK2.out (by decide)) (fun _ hk => hk.2) _) (fun _ _ => trivial), below_set HB2.out GE.out, KeepBut.set_ HK2.out 3 _, HAT.out⟩)
/-- The groups with a group of that name, and where it stands. -/
def grpL (b : Int) (l : List S55) (x : ByteArray) : List S55 := if bsF l x = true then l else l.take (bsI l x) ++ ⟨x, b⟩ :: l.drop (bsI l x)
theorem grpL_lt (b : Int) (l : List S55) (x : ByteArray) : bsI l x < (grpL b l x).length := by
  unfold grpL
  split
  · rename_i h; exact bsF_lt h
  · have := bsI_le l x; simp; omega
theorem grpL_le (b : Int) (l : List S55) (x : ByteArray) : (grpL b l x).length ≤ l.length + 1 := by
  unfold grpL
  split
  · omega
  · have := bsI_le l x; simp; omega
set_option maxHeartbeats 4000000 in
theorem grp_some (g : Nat) (s0 : ByteArray) (s1 : Int) (v2 v3 : Value) (l : List S55) (x : ByteArray) (w0 w : World) (hG : w.heap[g]? = some (.cells #[.string s0, .int .i64 s1, v2, v3] 29 (0, 0))) (hg : w0.heap.size ≤ g) (hB : Below w0.heap.size w0 w) (h3 : Kd.R k55 55 w w0.heap.size (fun _ => True) v3 l) (hl : l.length ≤ 1000) (h : bsF l x = true ∨ l.length ≠ 4) :
    Calls Try.prog 72 #[.pointer (some ⟨g, 0, none⟩), .string x] w fun e w' => ∃ gb c, e = .returned (.pointer (some ⟨gb, bsI l x * 2, none⟩)) ∧ w'.heap[g]? = some (.cells #[.string s0, .int .i64 s1, v2, .slice (some ⟨gb, 0, none⟩) (grpL s1 l x).length c] 29 (0, 0)) ∧
      Kd.R k55 55 w' w0.heap.size (fun _ => True) (.slice (some ⟨gb, 0, none⟩) (grpL s1 l x).length c) (grpL s1 l x) ∧ Below w0.heap.size w0 w' ∧ KeepBut w w' g v3.ownBlock ∧ (some gb = v3.ownBlock ∨ w.heap.size ≤ gb) := by
  by_cases hf : bsF l x = true
  · have hlt := bsF_lt hf
    obtain ⟨gb, c, rfl, _⟩ := Kd.R_form h3 (by omega); refine (grp_found g gb c s0 s1 v2 l x w hG (Kd.R_reads' h3).2.2 hl hf).mono ?_; rintro e w' ⟨rfl, hb⟩; rw [show grpL s1 l x = l from if_pos hf]; exact ⟨gb, c, rfl, blk_below hG hb, Kd.R_below h3 hb, below_step hB hb, KeepBut.of_below hb _ _, .inl rfl⟩
  · have hf' : bsF l x = false := by simpa using hf
    refine (grp_new g s0 s1 v2 v3 l x w0 w hG hg hB h3 hl (h.resolve_left hf) hf').mono ?_; rintro e w' ⟨gb, c, rfl, h1, h2, h3, h4, h5⟩; have hlen : (grpL s1 l x).length = l.length + 1 := by
      have := bsI_le l x; rw [show grpL s1 l x = l.take (bsI l x) ++ ⟨x, s1⟩ :: l.drop (bsI l x) from if_neg hf]; simp; omega
    rw [hlen, show grpL s1 l x = l.take (bsI l x) ++ ⟨x, s1⟩ :: l.drop (bsI l x) from if_neg hf]; exact ⟨gb, c, rfl, h1, h2, h3, h4, h5⟩
/-- What the group's place is. -/
def impl_Topic_group.f (s1 : Int) (s3 : List S55) (x : ByteArray) : Option (List S55) := some (grpL s1 s3 x)
theorem impl_Topic_group.calls : True := trivial


/-! ### impl_Topic_fetch: function 42 (by hand) -/
theorem R_keepmv {α β : Type} {d : Kd α} {d' : Kd β} {e e' base b : Nat} {ok ok' : Nat → Prop} {W w1 : World} {u v : Value} {xs : List α} {ys : List β} {g t : Nat} {cs : Array Value} (h : d.R e W base ok u xs) (hv : d'.R e' W b ok' v ys) (hb : W.heap[g]? = some (.cells cs t (0, 0))) (ht : ∀ q, q ∈ e :: d.E → q ≠ e') (ht2 : ∀ q, q ∈ e :: d.E → q ≠ t) (hk : KeepBut W w1 g v.ownBlock) : d.R e w1 base ok u xs := by
  refine Kd.R_mono (Kd.R_move (Kd.R_bound h) (fun k hk' => hk.2 k hk'.2.2.1 (fun hgk => ?_) (fun he => ?_))) (fun _ hk => hk.1)
  · obtain ⟨_, _, _, q, hq, cells, hc⟩ := hk'
    subst hgk; rw [hb] at hc
    injection hc with hc
    injection hc with _ hc
    exact ht2 q hq hc.symm
  · obtain ⟨_, _, _, q, hq, cells, hc⟩ := hk'
    obtain ⟨cells', hc'⟩ := Kd.R_typed hv k he.symm; rw [hc] at hc'
    injection hc' with hc'
    injection hc' with _ hc'
    exact ht q hq hc'
theorem addr_D (g D : Nat) : Option.map (fun x => x.add (D * Kd.string.sz)) (some (⟨g, 0, none⟩ : Addr)) = some ⟨g, D, none⟩ := by rw [Option.map_some, Addr.add_lit, show Kd.string.sz = 1 from rfl, Nat.mul_one, Nat.zero_add]
def impl_Topic_fetch.f (s0 : ByteArray) (s1 : Int) (s2 : List ByteArray) (s3 : List S55) (x : ByteArray) (most : Int) : Option (List ByteArray × Int × Int × List S55) :=
  if s3.length ≤ 1000 then (if bsF s3 x = true ∨ s3.length ≠ 4 then (if 0 ≤ wrap64 ((rd_T55 (grpL s1 s3 x) (bsI s3 x)).f1 - s1) ∧ wrap64 ((rd_T55 (grpL s1 s3 x) (bsI s3 x)).f1 - s1) ≤ (s2.length : Int) ∧ 0 ≤ most ∧ s2.length ≤ 1000 then
    some ((s2.drop (wrap64 ((rd_T55 (grpL s1 s3 x) (bsI s3 x)).f1 - s1)).toNat).take most.toNat, (rd_T55 (grpL s1 s3 x) (bsI s3 x)).f1, 0, grpL s1 s3 x) else none) else some ([], 0, 9, s3)) else none
theorem size73 (A : Option Addr) (n c : Nat) (w : World) : Calls Try.prog 73 #[.slice A n c] w fun e w' => e = .returned (.int .i64 n) ∧ Drawn0 w w' := by
  have := impl_size_string.calls A c (List.replicate n ByteArray.empty) n w (by simp [impl_size_string.f])
  rwa [List.length_replicate] at this
theorem clone70 (A : Option Addr) (n c : Nat) (l : List ByteArray) (w : World) (hn : l.length = n) (hr : Kd.C Kd.string w A l.length l) (hc : n ≤ c) (hl : n ≤ 1000) : Calls Try.prog 70 #[.slice A n c] w fun e w' => ∃ v0_ : Value, e = .returned (v0_) ∧ Kd.R Kd.string 9 w' w.heap.size (fun _ => True) v0_ l ∧ Below w.heap.size w w' := by
  subst hn; exact slices_Clone_string_string.calls A c l l w hr hc (by unfold slices_Clone_string_string.f; simp; omega)
set_option maxHeartbeats 4000000 in
set_option maxRecDepth 100000 in
theorem impl_Topic_fetch.calls (g : Nat) (s0 : ByteArray) (s1 : Int) (v2 v3 : Value) (s2 : List ByteArray) (s3 : List S55) (x : ByteArray) (most : Int) (r0 : List ByteArray) (r1 r2 : Int) (s3' : List S55) (w0 w : World)
    (hG : w.heap[g]? = some (.cells #[.string s0, .int .i64 s1, v2, v3] 29 (0, 0))) (hg : w0.heap.size ≤ g) (hB : Below w0.heap.size w0 w)
    (h2 : Kd.R Kd.string 9 w w0.heap.size (fun _ => True) v2 s2) (h3 : Kd.R k55 55 w w0.heap.size (fun _ => True) v3 s3) (h : impl_Topic_fetch.f s0 s1 s2 s3 x most = some (r0, r1, r2, s3')) :
    Calls Try.prog 42 #[.pointer (some ⟨g, 0, none⟩), .string x, .int .i64 most] w fun e w' => ∃ N u v3', N = w.heap.size ∧ e = .returned (.tuple #[u, .int .i64 r1, .int .i64 r2]) ∧ Kd.R Kd.string 9 w' N (fun _ => True) u r0 ∧ w'.heap[g]? = some (.cells #[.string s0, .int .i64 s1, v2, v3'] 29 (0, 0)) ∧ Kd.R k55 55 w' w0.heap.size (fun _ => True) v3' s3' ∧ Below w0.heap.size w0 w' ∧ KeepBut w w' g v3.ownBlock := by
  unfold impl_Topic_fetch.f at h; by_cases hl : s3.length ≤ 1000
  rotate_left
  · rw [if_neg hl] at h; cases h
  rw [if_pos hl] at h; have BK := Aside0.mk hG; have HB := Aside0.mk hB; have HO := Aside0.mk h3; have HH := Aside0.mk h2; have GE := Aside0.mk hg; have HL := Aside0.mk hl; by_cases hs : bsF s3 x = true ∨ s3.length ≠ 4
  rotate_left
  · rw [if_neg hs] at h
    obtain ⟨rfl, rfl, rfl, rfl⟩ : [] = r0 ∧ 0 = r1 ∧ 9 = r2 ∧ s3 = s3' := by simpa using h
    obtain ⟨A3, c3, rfl⟩ := Kd.R_slice h3; have HF := Aside0.mk (show bsF s3 x = false by have := fun e => hs (.inl e); simpa using this); have H4 := Aside0.mk (show s3.length = 4 by have := fun e => hs (.inr e); simpa using this); have HR := Aside0.mk (Kd.R_reads' h3).2.2; clear hG hB h3 hg hl hs h h2; go_enter Try.func42, Try.ntmps42
    go_wp2_with (first | (go_at_call 72; (with_reducible refine (grp_full g c3 A3 s0 s1 _ s3 x _ BK.out HR.out H4.out HF.out).mono ?_); rintro e w1 ⟨rfl, hb⟩; have HX := Aside0.mk hb; clear hb))
    refine bodyPost_ret (results_tmp3 rfl _ _ _) rfl ?_; exact ⟨_, _, _, rfl, rfl, Kd.R_nil _ _ _ _ _, blk_below BK.out HX.out, Kd.R_below HO.out HX.out, below_step HB.out HX.out, KeepBut.of_below HX.out _ _⟩
  · rw [if_pos hs] at h
    obtain ⟨ak, hak⟩ : ∃ a, a = (rd_T55 (grpL s1 s3 x) (bsI s3 x)).f1 := ⟨_, rfl⟩; rw [← hak] at h; by_cases hd : 0 ≤ wrap64 (ak - s1) ∧ wrap64 (ak - s1) ≤ (s2.length : Int) ∧ 0 ≤ most ∧ s2.length ≤ 1000
    rotate_left
    · rw [if_neg hd] at h; cases h
    rw [if_pos hd] at h; obtain ⟨rfl, rfl, rfl, rfl⟩ : (s2.drop (wrap64 (ak - s1)).toNat).take most.toNat = r0 ∧ ak = r1 ∧ 0 = r2 ∧ grpL s1 s3 x = s3' := by simpa using h
    obtain ⟨D, hD⟩ : ∃ D : Nat, wrap64 (ak - s1) = (D : Int) := ⟨(wrap64 (ak - s1)).toNat, by omega⟩; obtain ⟨M, rfl⟩ : ∃ M : Nat, most = (M : Int) := ⟨most.toNat, by omega⟩; rw [hD] at hd; have hDl : D ≤ s2.length := by omega
    have HLS := Aside0.mk hd.2.2.2; have HAK := Aside0.mk hak; have HS := Aside0.mk hs; have HI := Aside0.mk (grpL_lt s1 s3 x); obtain ⟨A2, c2, rfl⟩ := Kd.R_slice h2; have hc2 := (Kd.R_reads' h2).2.1; have HC := Aside0.mk (Kd.R_reads' h2).2.2; have e0 : (s2.drop (wrap64 (ak - s1)).toNat).take (M : Int).toNat = (s2.drop D).take M := by rw [hD, Int.toNat_natCast, Int.toNat_natCast]
    rw [e0]; clear hG hB hg hl hs h hd e0 hak h3 h2; have hD0 : (0 : Int) ≤ (D : Int) := by omega
    have hD1 : (D : Int) ≤ (s2.length : Int) := by omega
    have hDn : D ≤ s2.length := hDl; by_cases hcd : c2 = D
    · obtain rfl : D = s2.length := by omega
      subst hcd; have hnil : (s2.drop s2.length).take M = [] := by simp
      rw [hnil]; have HC2 := fun (W : World) => Aside0.mk (show Kd.C Kd.string W A2 ([] : List ByteArray).length [] from ⟨rfl, by simp, fun h => absurd h (by simp)⟩)
      have mixed : Try.prog.follows Departure.mixedOrders = true := by kernel_rfl
      have hq1 : s2.length - s2.length = 0 := Nat.sub_self _; have hq2 : ((s2.length : Int)).toNat = s2.length := Int.toNat_natCast _; clear hDl hc2 hnil hD1 hDn; by_cases hm : 0 < M
      · have c1 : decide ((0 : Int) < (M : Int)) = true := dY (by omega)
        have c1n := dY hm; have c1p : 0 < M := hm; clear hm; go_enter Try.func42, Try.ntmps42
        go_wp2_with (first | (go_at_call 72; (with_reducible refine (grp_some g s0 s1 _ _ s3 x w0 _ BK.out GE.out HB.out HO.out HL.out HS.out).mono ?_); rintro e w1 ⟨gb, cb, rfl, hbk, ho, hb, hk, hat⟩; clear BK HO HB; have BK := Aside0.mk hbk; have HO := Aside0.mk ho; have HB := Aside0.mk hb; have HK0 := Aside0.mk hk; have hcz_1 : w1.cell? ⟨g, 1, none⟩ = some (.int .i64 s1) := (blk_cell BK.out 1).trans rfl; have hcz_2 : w1.cell? ⟨g, 2, none⟩ = some (.slice A2 s2.length s2.length) := (blk_cell BK.out 2).trans rfl; obtain ⟨ce, hcl, hM, hcc, hfr⟩ := Kd.R_elem HO.out z55 (bsI s3 x : Int) (by omega) (by have := HI.out; omega); obtain rfl := k55_openM hM; rw [Int.toNat_natCast] at hcc hfr; have hy1 : w1.cell? ⟨gb, bsI s3 x * 2 + 1, none⟩ = some (.int .i64 ak) := (hcc 1 _ rfl).trans (by rw [HAK.out]; rfl); clear hM hcl hcc hfr hbk ho hb hk hat))
        have hw : IntKind.i64.wrap (ak - s1) = (s2.length : Int) := (Go.Proofs.YtnjnjffjblgldaaW.PrintLast.i64_w _).trans hD; go_quiet (fail)
        go_wp2
        go_region_with_o (first
          | (go_at_call 73; (with_reducible refine (size73 _ _ _ _).mono ?_); rintro e w' ⟨rfl, ⟨nd, rfl⟩⟩)
          | (go_at_call 70; (with_reducible refine (clone70 A2 0 0 [] _ rfl ?k1 (Nat.le_refl _) (Nat.zero_le _)).mono ?_); (case k1 => (with_reducible repeat (first | apply Kd.C_drewN | apply Kd.C_drew)); exact (HC2 _).out); rintro e w2 ⟨u, rfl, ho, hb⟩; have HU := Aside0.mk ho; have HB2 := Aside0.mk hb; have hy2 := pB hb hy1; clear ho hb))
        all_goals (
          go_wp2
          go_ret3
          exact ⟨_, u, _, rfl, by first | rfl | (simp [Act.put]; done), Kd.R_lower HU.out (by have := HK0.out.1; simpa using this), blk_below (blk_drewN BK.out _) HB2.out, Kd.R_below (Kd.R_drewN HO.out _) HB2.out, below_step (pw_below_drewN HB.out _) HB2.out, KeepBut.trans (keep_drewN HK0.out _) (KeepBut.of_below HB2.out g _) (.inl rfl)⟩)
      · obtain rfl : M = 0 := by omega
        clear hm; go_enter Try.func42, Try.ntmps42
        go_wp2_with (first | (go_at_call 72; (with_reducible refine (grp_some g s0 s1 _ _ s3 x w0 _ BK.out GE.out HB.out HO.out HL.out HS.out).mono ?_); rintro e w1 ⟨gb, cb, rfl, hbk, ho, hb, hk, hat⟩; clear BK HO HB; have BK := Aside0.mk hbk; have HO := Aside0.mk ho; have HB := Aside0.mk hb; have HK0 := Aside0.mk hk; have hcz_1 : w1.cell? ⟨g, 1, none⟩ = some (.int .i64 s1) := (blk_cell BK.out 1).trans rfl; have hcz_2 : w1.cell? ⟨g, 2, none⟩ = some (.slice A2 s2.length s2.length) := (blk_cell BK.out 2).trans rfl; obtain ⟨ce, hcl, hM, hcc, hfr⟩ := Kd.R_elem HO.out z55 (bsI s3 x : Int) (by omega) (by have := HI.out; omega); obtain rfl := k55_openM hM; rw [Int.toNat_natCast] at hcc hfr; have hy1 : w1.cell? ⟨gb, bsI s3 x * 2 + 1, none⟩ = some (.int .i64 ak) := (hcc 1 _ rfl).trans (by rw [HAK.out]; rfl); clear hM hcl hcc hfr hbk ho hb hk hat))
        have hw : IntKind.i64.wrap (ak - s1) = (s2.length : Int) := (Go.Proofs.YtnjnjffjblgldaaW.PrintLast.i64_w _).trans hD; go_quiet (fail)
        go_wp2
        go_region_with_o (first
          | (go_at_call 73; (with_reducible refine (size73 _ _ _ _).mono ?_); rintro e w' ⟨rfl, ⟨nd, rfl⟩⟩)
          | (go_at_call 70; (with_reducible refine (clone70 A2 0 0 [] _ rfl ?k1 (Nat.le_refl _) (Nat.zero_le _)).mono ?_); (case k1 => (with_reducible repeat (first | apply Kd.C_drewN | apply Kd.C_drew)); exact (HC2 _).out); rintro e w2 ⟨u, rfl, ho, hb⟩; have HU := Aside0.mk ho; have HB2 := Aside0.mk hb; have hy2 := pB hb hy1; clear ho hb))
        all_goals (
          go_wp2
          go_ret3
          exact ⟨_, u, _, rfl, by first | rfl | (simp [Act.put]; done), Kd.R_lower HU.out (by have := HK0.out.1; simpa using this), blk_below (blk_drewN BK.out _) HB2.out, Kd.R_below (Kd.R_drewN HO.out _) HB2.out, below_step (pw_below_drewN HB.out _) HB2.out, KeepBut.trans (keep_drewN HK0.out _) (KeepBut.of_below HB2.out g _) (.inl rfl)⟩)
    · obtain ⟨g2, rfl⟩ : ∃ g2, A2 = some ⟨g2, 0, none⟩ := by
        obtain ⟨_, inner, ⟨_, h2⟩, _⟩ := HH.out
        rcases h2 with ⟨h2, h3⟩ | ⟨g', cap', cur, h2, _⟩
        · injection h2 with e1 e2 e3
          omega
        · injection h2 with e1 _ _
          exact ⟨g', e1⟩
      by_cases hm : ((s2.length - D : Nat) : Int) < (M : Int)
      · have hN : (s2.drop D).take M = (s2.drop D).take (s2.length - D) := by rw [List.take_of_length_le (by simp; omega), List.take_of_length_le (by simp)]
        rw [hN]; have hm1 : s2.length - D ≤ (s2.drop D).length := by simp
        have hml : ((s2.drop D).take (s2.length - D)).length = s2.length - D := by simp
        have c1 := dY hm; have c1n : decide (s2.length - D < M) = true := dY (by omega); have c1p : s2.length - D < M := by omega
        have c2n : s2.length - D ≤ c2 - D := by omega
        have c2i : ((s2.length - D : Nat) : Int) ≤ ((c2 - D : Nat) : Int) := by omega
        have HM1 := Aside0.mk hm1; have HDL := Aside0.mk hDl; have HCD := Aside0.mk hcd; have HC0 := Aside0.mk hc2; have mixed : Try.prog.follows Departure.mixedOrders = true := by kernel_rfl
        clear hm1 hm hDl hN; go_enter Try.func42, Try.ntmps42
        go_wp2_with (first | (go_at_call 72; (with_reducible refine (grp_some g s0 s1 _ _ s3 x w0 _ BK.out GE.out HB.out HO.out HL.out HS.out).mono ?_); rintro e w1 ⟨gb, cb, rfl, hbk, ho, hb, hk, hat⟩; have HH1 := Aside0.mk (R_keepmv HH.out HO.out BK.out (by decide) (by decide) hk); clear BK HO HB; have BK := Aside0.mk hbk; have HO := Aside0.mk ho; have HB := Aside0.mk hb; have HK0 := Aside0.mk hk; have hcz_1 : w1.cell? ⟨g, 1, none⟩ = some (.int .i64 s1) := (blk_cell BK.out 1).trans rfl; have hcz_2 : w1.cell? ⟨g, 2, none⟩ = some (.slice (some ⟨g2, 0, none⟩) s2.length c2) := (blk_cell BK.out 2).trans rfl; obtain ⟨ce, hcl, hM, hcc, hfr⟩ := Kd.R_elem HO.out z55 (bsI s3 x : Int) (by omega) (by have := HI.out; omega); obtain rfl := k55_openM hM; rw [Int.toNat_natCast] at hcc hfr; have hy1 : w1.cell? ⟨gb, bsI s3 x * 2 + 1, none⟩ = some (.int .i64 ak) := (hcc 1 _ rfl).trans (by rw [HAK.out]; rfl); clear hM hcl hcc hfr hbk ho hb hk hat; have HC1 := Kd.C_drop (Kd.R_reads' HH1.out).2.2 HDL.out HC0.out; rw [if_neg HCD.out, addr_D] at HC1; have HC2 := Aside0.mk (Kd.C_take HC1 HM1.out); clear HC1))
        have hw : IntKind.i64.wrap (ak - s1) = (D : Int) := (Go.Proofs.YtnjnjffjblgldaaW.PrintLast.i64_w _).trans hD; go_quiet (fail)
        go_wp2
        go_region_with_o (first
          | (go_at_call 73; (with_reducible refine (size73 _ _ _ _).mono ?_); rintro e w' ⟨rfl, ⟨nd, rfl⟩⟩)
          | (go_at_call 70; (with_reducible refine (clone70 _ _ _ ((s2.drop D).take (s2.length - D)) _ hml ?k1 c2n ?k3).mono ?_); (case k1 => (with_reducible repeat (first | apply Kd.C_drewN | apply Kd.C_drew)); exact HC2.out); (case k3 => have := HLS.out; omega); rintro e w2 ⟨u, rfl, ho, hb⟩; have HU := Aside0.mk ho; have HB2 := Aside0.mk hb; have hy2 := pB hb hy1; clear ho hb))
        all_goals (
          go_wp2
          go_ret3
          exact ⟨_, u, _, rfl, by first | rfl | (simp [Act.put]; done), Kd.R_lower HU.out (by have := HK0.out.1; simpa using this), blk_below (blk_drewN BK.out _) HB2.out, Kd.R_below (Kd.R_drewN HO.out _) HB2.out, below_step (pw_below_drewN HB.out _) HB2.out, KeepBut.trans (keep_drewN HK0.out _) (KeepBut.of_below HB2.out g _) (.inl rfl)⟩)
      · have hm1 : M ≤ (s2.drop D).length := by simp; omega
        have hml : ((s2.drop D).take M).length = M := by simp; omega
        have c1 := dN hm; have c1n : decide (s2.length - D < M) = false := dN (by omega); have c1p : ¬ (s2.length - D < M) := by omega
        have c1q : M ≤ s2.length - D := by omega
        have c2n : M ≤ c2 - D := by omega
        have c2i : (M : Int) ≤ ((c2 - D : Nat) : Int) := by omega
        have c2z : (0 : Int) ≤ (M : Int) := by omega
        have HM1 := Aside0.mk hm1; have HDL := Aside0.mk hDl; have HCD := Aside0.mk hcd; have HC0 := Aside0.mk hc2; have mixed : Try.prog.follows Departure.mixedOrders = true := by kernel_rfl
        clear hm1 hm hDl; go_enter Try.func42, Try.ntmps42
        go_wp2_with (first | (go_at_call 72; (with_reducible refine (grp_some g s0 s1 _ _ s3 x w0 _ BK.out GE.out HB.out HO.out HL.out HS.out).mono ?_); rintro e w1 ⟨gb, cb, rfl, hbk, ho, hb, hk, hat⟩; have HH1 := Aside0.mk (R_keepmv HH.out HO.out BK.out (by decide) (by decide) hk); clear BK HO HB; have BK := Aside0.mk hbk; have HO := Aside0.mk ho; have HB := Aside0.mk hb; have HK0 := Aside0.mk hk; have hcz_1 : w1.cell? ⟨g, 1, none⟩ = some (.int .i64 s1) := (blk_cell BK.out 1).trans rfl; have hcz_2 : w1.cell? ⟨g, 2, none⟩ = some (.slice (some ⟨g2, 0, none⟩) s2.length c2) := (blk_cell BK.out 2).trans rfl; obtain ⟨ce, hcl, hM, hcc, hfr⟩ := Kd.R_elem HO.out z55 (bsI s3 x : Int) (by omega) (by have := HI.out; omega); obtain rfl := k55_openM hM; rw [Int.toNat_natCast] at hcc hfr; have hy1 : w1.cell? ⟨gb, bsI s3 x * 2 + 1, none⟩ = some (.int .i64 ak) := (hcc 1 _ rfl).trans (by rw [HAK.out]; rfl); clear hM hcl hcc hfr hbk ho hb hk hat; have HC1 := Kd.C_drop (Kd.R_reads' HH1.out).2.2 HDL.out HC0.out; rw [if_neg HCD.out, addr_D] at HC1; have HC2 := Aside0.mk (Kd.C_take HC1 HM1.out); clear HC1))
        have hw : IntKind.i64.wrap (ak - s1) = (D : Int) := (Go.Proofs.YtnjnjffjblgldaaW.PrintLast.i64_w _).trans hD; go_quiet (fail)
        go_wp2
        go_region_with_o (first
          | (go_at_call 73; (with_reducible refine (size73 _ _ _ _).mono ?_); rintro e w' ⟨rfl, ⟨nd, rfl⟩⟩)
          | (go_at_call 70; (with_reducible refine (clone70 _ _ _ ((s2.drop D).take M) _ hml ?k1 c2n ?k3).mono ?_); (case k1 => (with_reducible repeat (first | apply Kd.C_drewN | apply Kd.C_drew)); exact HC2.out); (case k3 => have := HLS.out; omega); rintro e w2 ⟨u, rfl, ho, hb⟩; have HU := Aside0.mk ho; have HB2 := Aside0.mk hb; have hy2 := pB hb hy1; clear ho hb))
        all_goals (
          go_wp2
          go_ret3
          exact ⟨_, u, _, rfl, by first | rfl | (simp [Act.put]; done), Kd.R_lower HU.out (by have := HK0.out.1; simpa using this), blk_below (blk_drewN BK.out _) HB2.out, Kd.R_below (Kd.R_drewN HO.out _) HB2.out, below_step (pw_below_drewN HB.out _) HB2.out, KeepBut.trans (keep_drewN HK0.out _) (KeepBut.of_below HB2.out g _) (.inl rfl)⟩)


/-! ### impl_topicOut: function 43 -/

def impl_topicOut.f (a0_0 : ByteArray) (a0_1 : Int) (l0_2 : List ByteArray) (l0_3 : List (S55)) (l1 : List ByteArray) (a2 : Int) (a3 : Int) : Option (ByteArray × Int × List ByteArray × (List (S55)) × List ByteArray × Int × Int) := if a3 = 0 then (some (a0_0, a0_1, l0_2, l0_3, l1, a2, 0)) else (some ((⟨#[]⟩ : ByteArray), 0, ([] : List ByteArray), ([] : List (S55)), ([] : List ByteArray), 0, a3))
set_option maxHeartbeats 60000000 in
set_option maxRecDepth 100000 in
theorem impl_topicOut.calls (a0_0 : ByteArray) (a0_1 : Int) (P0_2_ : Nat → Prop) (u9000_ : Value) (l0_2 : List ByteArray) (P0_3_ : Nat → Prop) (u9001_ : Value) (l0_3 : List (S55)) (P1_ : Nat → Prop) (u9002_ : Value) (l1 : List ByteArray) (a2 : Int) (a3 : Int) (r1 : ByteArray) (r2 : Int) (r3 : List ByteArray) (r4 : List (S55)) (r5 : List ByteArray) (r6 : Int) (r7 : Int) (w0 w : World) (hB : Below w0.heap.size w0 w) (ho0_2 : Kd.R Kd.string 9 w w0.heap.size P0_2_ u9000_ l0_2) (hp0_2_1 : ∀ k_, P0_2_ k_ → ¬ P1_ k_) (ho0_3 : Kd.R k55 55 w w0.heap.size P0_3_ u9001_ l0_3) (ho1 : Kd.R Kd.string 9 w w0.heap.size P1_ u9002_ l1) (hp1_0_2 : ∀ k_, P1_ k_ → ¬ P0_2_ k_) (h : impl_topicOut.f a0_0 a0_1 l0_2 l0_3 l1 a2 a3 = some (r1, r2, r3, r4, r5, r6, r7)) :
    Calls Try.prog 43 #[.agg #[.string a0_0, .int .i64 a0_1, u9000_, u9001_], u9002_, .int .i64 a2, .int .i64 a3] w fun e w' => ∃ v2_ v3_ v4_ : Value, e = .returned (.agg #[.string r1, .int .i64 r2, v2_, v3_, v4_, .int .i64 r6, .int .i64 r7]) ∧ Kd.R Kd.string 9 w' w0.heap.size (fun k_ => ((P0_2_ k_ ∨ P0_3_ k_ ∨ P1_ k_) ∨ w.heap.size ≤ k_) ∧ some k_ ≠ (v4_ : Value).ownBlock) v2_ r3 ∧ Kd.R k55 55 w' w0.heap.size (fun k_ => ((P0_2_ k_ ∨ P0_3_ k_ ∨ P1_ k_) ∨ w.heap.size ≤ k_)) v3_ r4 ∧ Kd.R Kd.string 9 w' w0.heap.size (fun k_ => ((P0_2_ k_ ∨ P0_3_ k_ ∨ P1_ k_) ∨ w.heap.size ≤ k_) ∧ some k_ ≠ (v2_ : Value).ownBlock) v4_ r5 ∧ Below w0.heap.size w0 w' ∧ Kept w w' (fun k_ => P0_2_ k_ ∨ P0_3_ k_ ∨ P1_ k_) := by
 have hu29 := Try.underlying29; have hu31 := Try.underlying31; have HO0_2 := AM (show Kd.R Kd.string 9 w w0.heap.size (fun k_ => ((P0_2_ k_ ∨ P0_3_ k_ ∨ P1_ k_) ∨ w.heap.size ≤ k_) ∧ some k_ ≠ (u9002_ : Value).ownBlock) u9000_ l0_2 from Kd.R_mono ho0_2 (fun k_ hk => ⟨(.inl (.inl hk)), fun e_ => hp0_2_1 k_ hk (ho1.1 k_ e_.symm)⟩)); have HO0_3 := AM (show Kd.R k55 55 w w0.heap.size (fun k_ => ((P0_2_ k_ ∨ P0_3_ k_ ∨ P1_ k_) ∨ w.heap.size ≤ k_)) u9001_ l0_3 from Kd.R_mono ho0_3 (fun k_ hk => (.inl (.inr (.inl hk))))); have HO1 := AM (show Kd.R Kd.string 9 w w0.heap.size (fun k_ => ((P0_2_ k_ ∨ P0_3_ k_ ∨ P1_ k_) ∨ w.heap.size ≤ k_) ∧ some k_ ≠ (u9000_ : Value).ownBlock) u9002_ l1 from Kd.R_mono ho1 (fun k_ hk => ⟨(.inl (.inr (.inr hk))), fun e_ => hp1_0_2 k_ hk (ho0_2.1 k_ e_.symm)⟩)); have HK := AM (Kept.refl w (fun k_ => P0_2_ k_ ∨ P0_3_ k_ ∨ P1_ k_)); have HW0 := AM hB.size; have HB := AM hB; clear hB; have H : (if a3 = 0 then (some (a0_0, a0_1, l0_2, l0_3, l1, a2, 0)) else (some ((⟨#[]⟩ : ByteArray), 0, ([] : List ByteArray), ([] : List (S55)), ([] : List ByteArray), 0, a3))) = some (r1, r2, r3, r4, r5, r6, r7) := h; clear h; by_cases c5 : a3 = 0
 ·
  rw [if_pos c5] at H; have c5b0 : (a3 == 0) = true := beq_iff_eq.mpr c5; have c5b1 : (a3 != 0) = false := bne_eq_false_iff_eq.mpr c5; clear c5; simp only [Option.some.injEq, Prod.mk.injEq] at H
  obtain ⟨rfl, rfl, rfl, rfl, rfl, rfl, rfl⟩ := H; obtain ⟨Ao6, co6, eo6⟩ := Kd.R_slice HO0_2.out; subst eo6; obtain ⟨Ao7, co7, eo7⟩ := Kd.R_slice HO0_3.out; subst eo7; go_enter Try.func43, Try.ntmps43
  go_wp2_with (first | (refine bE (N := 4) (cs := #[.string a0_0, .int .i64 a0_1, .slice Ao6 l0_2.length co6, .slice Ao7 l0_3.length co7]) (t := 29) ?_; intro gb101 hg w8 hbox hb; have _ := rY HO0_2 hb; have _ := rY HO0_3 hb; have _ := rY HO1 hb; have _ := AM (Kept.below (S := (fun k_ => P0_2_ k_ ∨ P0_3_ k_ ∨ P1_ k_)) (tX HK.out) hb); have _ := bY HB hb; have _ := AM (hbox); have _ := AM ((by rw [hg]; exact (by first | exact HK.out.1 | exact (show Kept w _ (fun k_ => P0_2_ k_ ∨ P0_3_ k_ ∨ P1_ k_) from tX HK.out).1) : w.heap.size ≤ gb101)); have _ := AM ((by rw [hg]; exact (bZ (bX HB.out)) : w0.heap.size ≤ gb101)); clear HO0_2 HO0_3 HO1 HK HB; rename_i HO0_2 HO0_3 HO1 HK HB BK101 GW101 GE101; clear hb hbox hg) | (refine bE (N := 8) (cs := zz0) (t := 31) ?_; intro gb102 hg w9 hbox hb; have _ := rY HO0_2 hb; have _ := rY HO0_3 hb; have _ := rY HO1 hb; have _ := nY BK101 hb; have _ := AM (Kept.below (S := (fun k_ => P0_2_ k_ ∨ P0_3_ k_ ∨ P1_ k_)) (tX HK.out) hb); have _ := bY HB hb; have _ := AM (hbox); have _ := AM ((by rw [hg]; exact (by first | exact HK.out.1 | exact (show Kept w _ (fun k_ => P0_2_ k_ ∨ P0_3_ k_ ∨ P1_ k_) from tX HK.out).1) : w.heap.size ≤ gb102)); have _ := AM ((by rw [hg]; exact (bZ (bX HB.out)) : w0.heap.size ≤ gb102)); have _ := AM (lX hg BK101.out); have _ := AM (lX hg BK101.out).symm; clear HO0_2 HO0_3 HO1 BK101 HK HB; rename_i HO0_2 HO0_3 HO1 BK101 HK HB BK102 GW102 GE102 NB101_102 NB102_101; clear hb hbox hg; have hnb10 := nP NB101_102; have hcz11 := q4 BK101.out; have hfz11 := fZ BK101.out; obtain ⟨Ao12, co12, eo12⟩ := Kd.R_slice HO1.out; subst eo12; have hcz13 := q7 BK102.out; have hfz13 := fZ BK102.out))
  refine bodyPost_ret (results_cell_row rfl _ _ gb102 31 #[.string a0_0, .int .i64 a0_1, .slice Ao6 l0_2.length co6, .slice Ao7 l0_3.length co7, .slice Ao12 l1.length co12, .int .i64 a2, .int .i64 0] (0, 0) _ rfl (by refine pk7 zz0 ?_; exact kX BK102.out) Try.underlying31 rfl (by kernel_rfl)) rfl ?_; exact ⟨_, _, _, rE, by (with_reducible repeat (first | apply rA | apply rN | apply rD)); exact Rf7 HO0_2.out BK102.out (by decide) (fun _ hk => ⟨hk.1.1, hk.1.2⟩), by (with_reducible repeat (first | apply rA | apply rN | apply rD)); exact Rf7 HO0_3.out BK102.out (by decide) (fun _ hk => hk.1), by (with_reducible repeat (first | apply rA | apply rN | apply rD)); exact Rf7 HO1.out BK102.out (by decide) (fun _ hk => ⟨hk.1.1, hk.1.2⟩), bX HB.out, tX HK.out⟩
 rw [if_neg c5] at H; have c5b0 : (a3 == 0) = false := beq_eq_false_iff_ne.mpr c5; have c5b1 : (a3 != 0) = true := bne_iff_ne.mpr c5; simp only [Option.some.injEq, Prod.mk.injEq] at H
 obtain ⟨rfl, rfl, rfl, rfl, rfl, rfl, rfl⟩ := H; obtain ⟨Ao14, co14, eo14⟩ := Kd.R_slice HO0_2.out; subst eo14; obtain ⟨Ao15, co15, eo15⟩ := Kd.R_slice HO0_3.out; subst eo15; go_enter Try.func43, Try.ntmps43
 go_wp2_with (first | (refine bE (N := 4) (cs := #[.string a0_0, .int .i64 a0_1, .slice Ao14 l0_2.length co14, .slice Ao15 l0_3.length co15]) (t := 29) ?_; intro gb101 hg w16 hbox hb; have _ := rY HO0_2 hb; have _ := rY HO0_3 hb; have _ := rY HO1 hb; have _ := AM (Kept.below (S := (fun k_ => P0_2_ k_ ∨ P0_3_ k_ ∨ P1_ k_)) (tX HK.out) hb); have _ := bY HB hb; have _ := AM (hbox); have _ := AM ((by rw [hg]; exact (by first | exact HK.out.1 | exact (show Kept w _ (fun k_ => P0_2_ k_ ∨ P0_3_ k_ ∨ P1_ k_) from tX HK.out).1) : w.heap.size ≤ gb101)); have _ := AM ((by rw [hg]; exact (bZ (bX HB.out)) : w0.heap.size ≤ gb101)); clear HO0_2 HO0_3 HO1 HK HB; rename_i HO0_2 HO0_3 HO1 HK HB BK101 GW101 GE101; clear hb hbox hg) | (refine bE (N := 8) (cs := zz0) (t := 31) ?_; intro gb102 hg w17 hbox hb; have _ := rY HO0_2 hb; have _ := rY HO0_3 hb; have _ := rY HO1 hb; have _ := nY BK101 hb; have _ := AM (Kept.below (S := (fun k_ => P0_2_ k_ ∨ P0_3_ k_ ∨ P1_ k_)) (tX HK.out) hb); have _ := bY HB hb; have _ := AM (hbox); have _ := AM ((by rw [hg]; exact (by first | exact HK.out.1 | exact (show Kept w _ (fun k_ => P0_2_ k_ ∨ P0_3_ k_ ∨ P1_ k_) from tX HK.out).1) : w.heap.size ≤ gb102)); have _ := AM ((by rw [hg]; exact (bZ (bX HB.out)) : w0.heap.size ≤ gb102)); have _ := AM (lX hg BK101.out); have _ := AM (lX hg BK101.out).symm; clear HO0_2 HO0_3 HO1 BK101 HK HB; rename_i HO0_2 HO0_3 HO1 BK101 HK HB BK102 GW102 GE102 NB101_102 NB102_101; clear hb hbox hg; have hnb18 := nP NB102_101; have hcz19 := q7 BK102.out; have hfz19 := fZ BK102.out))
 refine bodyPost_ret (results_cell_row rfl _ _ gb102 31 #[.string (⟨#[]⟩ : ByteArray), .int .i64 0, .slice none 0 0, .slice none 0 0, .slice none 0 0, .int .i64 0, .int .i64 a3] (0, 0) _ rfl (by refine pk7 zz0 ?_; exact kX BK102.out) Try.underlying31 rfl (by kernel_rfl)) rfl ?_; exact ⟨_, _, _, rE, by first | exact Kd.R_nil _ _ _ _ _ | exact Kd.N_nil _ _ _ _ _ | exact Kd.V_nil _ _ _ _ _ | exact Kd.Q_nil _ _ _ _ _ | exact Kd.S_nil _ _ _ _ _, by first | exact Kd.R_nil _ _ _ _ _ | exact Kd.N_nil _ _ _ _ _ | exact Kd.V_nil _ _ _ _ _ | exact Kd.Q_nil _ _ _ _ _ | exact Kd.S_nil _ _ _ _ _, by first | exact Kd.R_nil _ _ _ _ _ | exact Kd.N_nil _ _ _ _ _ | exact Kd.V_nil _ _ _ _ _ | exact Kd.Q_nil _ _ _ _ _ | exact Kd.S_nil _ _ _ _ _, bX HB.out, tX HK.out⟩

/-! ### impl_TopicFetch: function 11 (by hand) -/
def impl_TopicFetch.f (k : Nat) (a0_0 : ByteArray) (a0_1 : Int) (l0_2 : List ByteArray) (l0_3 : List S55) (a1 : ByteArray) (a2 : Int) : Option (ByteArray × Int × List ByteArray × List S55 × List ByteArray × Int × Int) :=
  if (a1.size : Int) > 20000 then some (⟨#[]⟩, 0, [], [], [], 0, 2) else (impl_isTopic.f k a0_0 a0_1 l0_2 l0_3).bind fun t => if t = true then (impl_isName.f k a1).bind fun m => if m = true then (impl_within.f a2 0 20).bind fun o => if o = true then (impl_cloneTopic.f a0_0 a0_1 l0_2 l0_3).bind fun c => (impl_Topic_fetch.f c.1 c.2.1 c.2.2.1 c.2.2.2 a1 a2).bind fun p => impl_topicOut.f c.1 c.2.1 c.2.2.1 p.2.2.2 p.1 p.2.1 p.2.2.1 else some (⟨#[]⟩, 0, [], [], [], 0, 1) else some (⟨#[]⟩, 0, [], [], [], 0, 1) else some (⟨#[]⟩, 0, [], [], [], 0, 1)
set_option maxHeartbeats 4000000 in
set_option maxRecDepth 100000 in
theorem impl_TopicFetch.calls (k : Nat) (a0_0 : ByteArray) (a0_1 : Int) (A0_2 : Option Addr) (c0_2 : Nat) (l0_2 : List ByteArray) (A0_3 : Option Addr) (c0_3 : Nat) (l0_3 : List (S55)) (a1 : ByteArray) (a2 : Int) (r1 : ByteArray) (r2 : Int) (r3 : List ByteArray) (r4 : List (S55)) (r5 : List ByteArray) (r6 : Int) (r7 : Int) (w : World) (hr0_2 : Kd.C Kd.string w A0_2 l0_2.length l0_2) (hc0_2 : l0_2.length ≤ c0_2) (hr0_3 : Kd.C k55 w A0_3 l0_3.length l0_3) (hc0_3 : l0_3.length ≤ c0_3) (h : impl_TopicFetch.f k a0_0 a0_1 l0_2 l0_3 a1 a2 = some (r1, r2, r3, r4, r5, r6, r7)) :
    Calls Try.prog 11 #[.agg #[.string a0_0, .int .i64 a0_1, .slice A0_2 l0_2.length c0_2, .slice A0_3 l0_3.length c0_3], .string a1, .int .i64 a2] w fun e w' => ∃ v2_ v3_ v4_ : Value, e = .returned (.agg #[.string r1, .int .i64 r2, v2_, v3_, v4_, .int .i64 r6, .int .i64 r7]) ∧ Kd.R Kd.string 9 w' w.heap.size (fun k_ => some k_ ≠ (v4_ : Value).ownBlock) v2_ r3 ∧ Kd.R k55 55 w' w.heap.size (fun _ => True) v3_ r4 ∧ Kd.R Kd.string 9 w' w.heap.size (fun k_ => some k_ ≠ (v2_ : Value).ownBlock) v4_ r5 ∧ Below w.heap.size w w' := by
  have hu30 := Try.underlying29; have hu38 := Try.underlying31; have HR0_2 := AM hr0_2; have HC0_2 := AM hc0_2; have HR0_3 := AM hr0_3; have HC0_3 := AM hc0_3; have HH := AM h; clear hr0_2 hc0_2 hr0_3 hc0_3 h; have HB := AM (Below.refl w.heap.size w); by_cases c1 : (a1.size : Int) > 20000
  · have E1 : Aside0 ((⟨#[]⟩, 0, [], [], [], 0, 2) = (r1, r2, r3, r4, r5, r6, r7)) := ⟨by have := HH.out; unfold impl_TopicFetch.f at this; rw [if_pos c1] at this; exact Option.some.inj this⟩
    have c1b : decide (20000 < (a1.size : Int)) = true := dY c1; have c1c : decide (20000 < a1.size) = true := dY (by omega); clear c1; go_enter Try.func11, Try.ntmps11
    go_wp2_with (first | (refine bE (N := 3) (cs := #[.string a0_0, .int .i64 a0_1, .slice A0_2 l0_2.length c0_2, .slice A0_3 l0_3.length c0_3]) (t := 29) ?_; intro gb101 hg w5 hbox hb; have BK101 := AM (hbox); have GE101 := gY hg HB; replace HB := bY HB hb; clear hb hbox hg) | (refine bE (N := 6) (cs := zz0) (t := 31) ?_; intro gb102 hg w6 hbox hb; have BK102 := AM (hbox); have GE102 := gY hg HB; replace BK101 := nY BK101 hb; replace HB := bY HB hb; clear hb hbox hg; have hcz2 := q7 BK102.out; have hfz2 := fZ BK102.out; have hcz1 := q4 BK101.out; have hfz1 := fZ BK101.out))
    refine bodyPost_ret (results_cell_row rfl _ _ gb102 31 #[.string (⟨#[]⟩ : ByteArray), .int .i64 0, .slice none 0 0, .slice none 0 0, .slice none 0 0, .int .i64 0, .int .i64 2] (0, 0) _ rfl (by refine pk7 zz0 ?_; exact kX BK102.out) Try.underlying31 rfl (by kernel_rfl)) rfl ?_; obtain ⟨rfl, rfl, rfl, rfl, rfl, rfl, rfl⟩ : (⟨#[]⟩ : ByteArray) = r1 ∧ 0 = r2 ∧ [] = r3 ∧ [] = r4 ∧ [] = r5 ∧ 0 = r6 ∧ 2 = r7 := by simpa using E1.out
    exact ⟨_, _, _, rfl, Kd.R_nil _ _ _ _ _, Kd.R_nil _ _ _ _ _, Kd.R_nil _ _ _ _ _, bX HB.out⟩
  · have HX : Aside0 (∃ t, impl_isTopic.f k a0_0 a0_1 l0_2 l0_3 = some t ∧ (if t = true then (impl_isName.f k a1).bind fun m => if m = true then (impl_within.f a2 0 20).bind fun o => if o = true then (impl_cloneTopic.f a0_0 a0_1 l0_2 l0_3).bind fun c => (impl_Topic_fetch.f c.1 c.2.1 c.2.2.1 c.2.2.2 a1 a2).bind fun p => impl_topicOut.f c.1 c.2.1 c.2.2.1 p.2.2.2 p.1 p.2.1 p.2.2.1 else some (⟨#[]⟩, 0, [], [], [], 0, 1) else some (⟨#[]⟩, 0, [], [], [], 0, 1) else some (⟨#[]⟩, 0, [], [], [], 0, 1)) = some (r1, r2, r3, r4, r5, r6, r7)) := ⟨by have := HH.out; unfold impl_TopicFetch.f at this; rw [if_neg c1] at this; exact oM this⟩
    clear HH; have c1b : decide (20000 < (a1.size : Int)) = false := dN c1; have c1c : decide (20000 < a1.size) = false := dN (by omega); clear c1; obtain ⟨t, h1, h2⟩ := HX.out; have A1 := AM h1; have HH := AM h2; clear HX h1 h2
    cases t with
    | false =>
      have E1 : Aside0 ((⟨#[]⟩, 0, [], [], [], 0, 1) = (r1, r2, r3, r4, r5, r6, r7)) := ⟨by have := HH.out; rw [if_neg (by decide)] at this; exact Option.some.inj this⟩; clear HH; go_enter Try.func11, Try.ntmps11
      go_wp2_with (first | (refine bE (N := 3) (cs := #[.string a0_0, .int .i64 a0_1, .slice A0_2 l0_2.length c0_2, .slice A0_3 l0_3.length c0_3]) (t := 29) ?_; intro gb101 hg w5 hbox hb; have BK101 := AM (hbox); have GE101 := gY hg HB; replace HB := bY HB hb; clear hb hbox hg) | (refine bE (N := 6) (cs := zz0) (t := 31) ?_; intro gb102 hg w6 hbox hb; have BK102 := AM (hbox); have GE102 := gY hg HB; replace BK101 := nY BK101 hb; replace HB := bY HB hb; clear hb hbox hg; have hcz2 := q7 BK102.out; have hfz2 := fZ BK102.out; have hcz1 := q4 BK101.out; have hfz1 := fZ BK101.out) | (go_at_call 38; (with_reducible refine (impl_isTopic.calls _ _ _ A0_2 c0_2 _ A0_3 c0_3 _ _ _ ?s1 ?s2 ?s3 ?s4 A1.out).mono ?_); (case s1 => exact cY HR0_2 HB); (case s2 => exact HC0_2.out); (case s3 => exact cY HR0_3 HB); (case s4 => exact HC0_3.out); rintro e w7 ⟨rfl, hb⟩; have n_ := nY BK101 hb; clear BK101; have BK101 := n_; clear n_; have n_ := nY BK102 hb; clear BK102; have BK102 := n_; clear n_; have n_ := bY HB hb; clear HB; have HB := n_; clear n_ hb; have hcz4 := q7 BK102.out; have hfz4 := fZ BK102.out; have hcz3 := q4 BK101.out; have hfz3 := fZ BK101.out))
      refine bodyPost_ret (results_cell_row rfl _ _ gb102 31 #[.string (⟨#[]⟩ : ByteArray), .int .i64 0, .slice none 0 0, .slice none 0 0, .slice none 0 0, .int .i64 0, .int .i64 1] (0, 0) _ rfl (by refine pk7 zz0 ?_; exact kX BK102.out) Try.underlying31 rfl (by kernel_rfl)) rfl ?_; obtain ⟨rfl, rfl, rfl, rfl, rfl, rfl, rfl⟩ : (⟨#[]⟩ : ByteArray) = r1 ∧ 0 = r2 ∧ [] = r3 ∧ [] = r4 ∧ [] = r5 ∧ 0 = r6 ∧ 1 = r7 := by simpa using E1.out
      exact ⟨_, _, _, rfl, Kd.R_nil _ _ _ _ _, Kd.R_nil _ _ _ _ _, Kd.R_nil _ _ _ _ _, bX HB.out⟩
    | true =>
      have HX : Aside0 (∃ m_, impl_isName.f k a1 = some m_ ∧ (if m_ = true then (impl_within.f a2 0 20).bind fun o => if o = true then (impl_cloneTopic.f a0_0 a0_1 l0_2 l0_3).bind fun c => (impl_Topic_fetch.f c.1 c.2.1 c.2.2.1 c.2.2.2 a1 a2).bind fun p => impl_topicOut.f c.1 c.2.1 c.2.2.1 p.2.2.2 p.1 p.2.1 p.2.2.1 else some (⟨#[]⟩, 0, [], [], [], 0, 1) else some (⟨#[]⟩, 0, [], [], [], 0, 1)) = some (r1, r2, r3, r4, r5, r6, r7)) := ⟨by have := HH.out; rw [if_pos rfl] at this; exact oM this⟩; clear HH; obtain ⟨m_, h1, h2⟩ := HX.out; have A2 := AM h1; have HH := AM h2; clear HX h1 h2
      cases m_ with
      | false =>
        have E1 : Aside0 ((⟨#[]⟩, 0, [], [], [], 0, 1) = (r1, r2, r3, r4, r5, r6, r7)) := ⟨by have := HH.out; rw [if_neg (by decide)] at this; exact Option.some.inj this⟩; clear HH; go_enter Try.func11, Try.ntmps11
        go_wp2_with (first | (refine bE (N := 3) (cs := #[.string a0_0, .int .i64 a0_1, .slice A0_2 l0_2.length c0_2, .slice A0_3 l0_3.length c0_3]) (t := 29) ?_; intro gb101 hg w5 hbox hb; have BK101 := AM (hbox); have GE101 := gY hg HB; replace HB := bY HB hb; clear hb hbox hg) | (refine bE (N := 6) (cs := zz0) (t := 31) ?_; intro gb102 hg w6 hbox hb; have BK102 := AM (hbox); have GE102 := gY hg HB; replace BK101 := nY BK101 hb; replace HB := bY HB hb; clear hb hbox hg; have hcz2 := q7 BK102.out; have hfz2 := fZ BK102.out; have hcz1 := q4 BK101.out; have hfz1 := fZ BK101.out) | (go_at_call 38; (with_reducible refine (impl_isTopic.calls _ _ _ A0_2 c0_2 _ A0_3 c0_3 _ _ _ ?s1 ?s2 ?s3 ?s4 A1.out).mono ?_); (case s1 => exact cY HR0_2 HB); (case s2 => exact HC0_2.out); (case s3 => exact cY HR0_3 HB); (case s4 => exact HC0_3.out); rintro e w7 ⟨rfl, hb⟩; have n_ := nY BK101 hb; clear BK101; have BK101 := n_; clear n_; have n_ := nY BK102 hb; clear BK102; have BK102 := n_; clear n_; have n_ := bY HB hb; clear HB; have HB := n_; clear n_ hb; have hcz4 := q7 BK102.out; have hfz4 := fZ BK102.out; have hcz3 := q4 BK101.out; have hfz3 := fZ BK101.out) | (go_at_call 39; (with_reducible refine (impl_isName.calls _ _ _ _ A2.out).mono ?_); rintro e w' ⟨rfl, ⟨nd, rfl⟩⟩))
        refine bodyPost_ret (results_cell_row rfl _ _ gb102 31 #[.string (⟨#[]⟩ : ByteArray), .int .i64 0, .slice none 0 0, .slice none 0 0, .slice none 0 0, .int .i64 0, .int .i64 1] (0, 0) _ rfl (by refine pk7 zz0 ?_; exact kX BK102.out) Try.underlying31 rfl (by kernel_rfl)) rfl ?_; obtain ⟨rfl, rfl, rfl, rfl, rfl, rfl, rfl⟩ : (⟨#[]⟩ : ByteArray) = r1 ∧ 0 = r2 ∧ [] = r3 ∧ [] = r4 ∧ [] = r5 ∧ 0 = r6 ∧ 1 = r7 := by simpa using E1.out
        exact ⟨_, _, _, rfl, Kd.R_nil _ _ _ _ _, Kd.R_nil _ _ _ _ _, Kd.R_nil _ _ _ _ _, bX HB.out⟩
      | true =>
        have HX : Aside0 (∃ o_, impl_within.f a2 0 20 = some o_ ∧ (if o_ = true then (impl_cloneTopic.f a0_0 a0_1 l0_2 l0_3).bind fun c => (impl_Topic_fetch.f c.1 c.2.1 c.2.2.1 c.2.2.2 a1 a2).bind fun p => impl_topicOut.f c.1 c.2.1 c.2.2.1 p.2.2.2 p.1 p.2.1 p.2.2.1 else some (⟨#[]⟩, 0, [], [], [], 0, 1)) = some (r1, r2, r3, r4, r5, r6, r7)) := ⟨by have := HH.out; rw [if_pos rfl] at this; exact oM this⟩; clear HH; obtain ⟨o_, h1, h2⟩ := HX.out; have A6 := AM h1; have HH := AM h2; clear HX h1 h2
        cases o_ with
        | false =>
          have E1 : Aside0 ((⟨#[]⟩, 0, [], [], [], 0, 1) = (r1, r2, r3, r4, r5, r6, r7)) := ⟨by have := HH.out; rw [if_neg (by decide)] at this; exact Option.some.inj this⟩; clear HH; go_enter Try.func11, Try.ntmps11
          go_wp2_with (first | (refine bE (N := 3) (cs := #[.string a0_0, .int .i64 a0_1, .slice A0_2 l0_2.length c0_2, .slice A0_3 l0_3.length c0_3]) (t := 29) ?_; intro gb101 hg w5 hbox hb; have BK101 := AM (hbox); have GE101 := gY hg HB; replace HB := bY HB hb; clear hb hbox hg) | (refine bE (N := 6) (cs := zz0) (t := 31) ?_; intro gb102 hg w6 hbox hb; have BK102 := AM (hbox); have GE102 := gY hg HB; replace BK101 := nY BK101 hb; replace HB := bY HB hb; clear hb hbox hg; have hcz2 := q7 BK102.out; have hfz2 := fZ BK102.out; have hcz1 := q4 BK101.out; have hfz1 := fZ BK101.out) | (go_at_call 38; (with_reducible refine (impl_isTopic.calls _ _ _ A0_2 c0_2 _ A0_3 c0_3 _ _ _ ?s1 ?s2 ?s3 ?s4 A1.out).mono ?_); (case s1 => exact cY HR0_2 HB); (case s2 => exact HC0_2.out); (case s3 => exact cY HR0_3 HB); (case s4 => exact HC0_3.out); rintro e w7 ⟨rfl, hb⟩; have n_ := nY BK101 hb; clear BK101; have BK101 := n_; clear n_; have n_ := nY BK102 hb; clear BK102; have BK102 := n_; clear n_; have n_ := bY HB hb; clear HB; have HB := n_; clear n_ hb; have hcz4 := q7 BK102.out; have hfz4 := fZ BK102.out; have hcz3 := q4 BK101.out; have hfz3 := fZ BK101.out) | (go_at_call 39; (with_reducible refine (impl_isName.calls _ _ _ _ A2.out).mono ?_); rintro e w' ⟨rfl, ⟨nd, rfl⟩⟩) | (go_at_call 40; (with_reducible refine (impl_within.calls _ _ _ _ _ A6.out).mono ?_); rintro e w' ⟨rfl, ⟨nd, rfl⟩⟩))
          refine bodyPost_ret (results_cell_row rfl _ _ gb102 31 #[.string (⟨#[]⟩ : ByteArray), .int .i64 0, .slice none 0 0, .slice none 0 0, .slice none 0 0, .int .i64 0, .int .i64 1] (0, 0) _ rfl (by refine pk7 zz0 ?_; exact kX BK102.out) Try.underlying31 rfl (by kernel_rfl)) rfl ?_; obtain ⟨rfl, rfl, rfl, rfl, rfl, rfl, rfl⟩ : (⟨#[]⟩ : ByteArray) = r1 ∧ 0 = r2 ∧ [] = r3 ∧ [] = r4 ∧ [] = r5 ∧ 0 = r6 ∧ 1 = r7 := by simpa using E1.out
          exact ⟨_, _, _, rfl, Kd.R_nil _ _ _ _ _, Kd.R_nil _ _ _ _ _, Kd.R_nil _ _ _ _ _, bX HB.out⟩
        | true =>
          have HX : Aside0 (∃ c0 d1 e2 e3 q0 p0 q2 p1, impl_cloneTopic.f a0_0 a0_1 l0_2 l0_3 = some (c0, d1, e2, e3) ∧ impl_Topic_fetch.f c0 d1 e2 e3 a1 a2 = some (q0, p0, q2, p1) ∧ impl_topicOut.f c0 d1 e2 p1 q0 p0 q2 = some (r1, r2, r3, r4, r5, r6, r7)) := ⟨by
            have := HH.out; rw [if_pos rfl] at this; obtain ⟨⟨c0, d1, e2, e3⟩, h1, h2⟩ := oM this; obtain ⟨⟨q0, p0, q2, p1⟩, h3, h4⟩ := oM h2; exact ⟨c0, d1, e2, e3, q0, p0, q2, p1, h1, h3, h4⟩⟩
          clear HH; obtain ⟨c0, d1, e2, e3, q0, p0, q2, p1, h1, h2, h3⟩ := HX.out; have A3 := AM h1; have A4 := AM h2; have A5 := AM h3; clear HX h1 h2 h3; go_enter Try.func11, Try.ntmps11
          go_wp2_with (first | (refine bE (N := 3) (cs := #[.string a0_0, .int .i64 a0_1, .slice A0_2 l0_2.length c0_2, .slice A0_3 l0_3.length c0_3]) (t := 29) ?_; intro gb101 hg w5 hbox hb; have BK101 := AM (hbox); have GE101 := gY hg HB; replace HB := bY HB hb; clear hb hbox hg) | (refine bE (N := 6) (cs := zz0) (t := 31) ?_; intro gb102 hg w6 hbox hb; have BK102 := AM (hbox); have GE102 := gY hg HB; replace BK101 := nY BK101 hb; replace HB := bY HB hb; clear hb hbox hg; have hcz2 := q7 BK102.out; have hfz2 := fZ BK102.out; have hcz1 := q4 BK101.out; have hfz1 := fZ BK101.out) | (go_at_call 38; (with_reducible refine (impl_isTopic.calls _ _ _ A0_2 c0_2 _ A0_3 c0_3 _ _ _ ?s1 ?s2 ?s3 ?s4 A1.out).mono ?_); (case s1 => exact cY HR0_2 HB); (case s2 => exact HC0_2.out); (case s3 => exact cY HR0_3 HB); (case s4 => exact HC0_3.out); rintro e w7 ⟨rfl, hb⟩; have n_ := nY BK101 hb; clear BK101; have BK101 := n_; clear n_; have n_ := nY BK102 hb; clear BK102; have BK102 := n_; clear n_; have n_ := bY HB hb; clear HB; have HB := n_; clear n_ hb; have hcz4 := q7 BK102.out; have hfz4 := fZ BK102.out; have hcz3 := q4 BK101.out; have hfz3 := fZ BK101.out) | (go_at_call 39; (with_reducible refine (impl_isName.calls _ _ _ _ A2.out).mono ?_); rintro e w' ⟨rfl, ⟨nd, rfl⟩⟩) | (go_at_call 40; (with_reducible refine (impl_within.calls _ _ _ _ _ A6.out).mono ?_); rintro e w' ⟨rfl, ⟨nd, rfl⟩⟩) | (go_at_call 41; (with_reducible refine (impl_cloneTopic.calls _ _ A0_2 c0_2 _ A0_3 c0_3 _ c0 _ _ _ _ ?s1 ?s2 ?s3 ?s4 A3.out).mono ?_); (case s1 => exact cY HR0_2 HB); (case s2 => exact HC0_2.out); (case s3 => exact cY HR0_3 HB); (case s4 => exact HC0_3.out); rintro e w8 ⟨v8, v9, rfl, ho2, ho3, hb⟩; obtain ⟨A8, c8, rfl⟩ := Kd.R_slice ho2; obtain ⟨A9, c9, rfl⟩ := Kd.R_slice ho3; have HO2 := AM (Kd.R_lower ho2 (bZ (bX HB.out))); have HO3 := AM (Kd.R_lower ho3 (bZ (bX HB.out))); clear ho2 ho3; have n_ := nY BK101 hb; clear BK101; have BK101 := n_; clear n_; have n_ := nY BK102 hb; clear BK102; have BK102 := n_; clear n_; have n_ := bY HB hb; clear HB; have HB := n_; clear n_ hb; have hcz6 := q7 BK102.out; have hfz6 := fZ BK102.out; have hcz5 := q4 BK101.out; have hfz5 := fZ BK101.out) | (refine bE (N := 7) (cs := zz1) (t := 29) ?_; intro gb103 hg w9 hbox hb; have n_ := nY BK101 hb; clear BK101; have BK101 := n_; clear n_; have n_ := nY BK102 hb; clear BK102; have BK102 := n_; clear n_; have n2_ := rY HO2 hb; have n3_ := rY HO3 hb; clear HO2 HO3; have HO2 := n2_; have HO3 := n3_; clear n2_ n3_; have n1_ := bY HB hb; have n2_ := AM hbox; have n3_ := AM ((by rw [hg]; exact (bZ (bX HB.out))) : w.heap.size ≤ gb103); have NB : Aside0 (gb102 ≠ gb103) := ⟨fun e_ => by have h_ := BK102.out; rw [e_, hbox] at h_; injection h_ with h_; injection h_ with _ h_; exact absurd h_ (by decide)⟩; clear HB; have HB := n1_; have BK103 := n2_; have GE103 := n3_; clear n1_ n2_ n3_ hb hbox hg; have hcz7 := q7 BK102.out; have hfz7 := fZ BK102.out; have hcz8 := q4 BK103.out; have hfz8 := fZ BK103.out) | (go_at_call 42; (with_reducible refine (impl_Topic_fetch.calls gb103 c0 d1 (.slice A8 e2.length c8) (.slice A9 e3.length c9) e2 e3 a1 a2 q0 p0 q2 p1 w _ ?s1 GE103.out ?s2 ?s4 ?s3 A4.out).mono ?_); (case s1 => refine pk4 zz1 ?_; exact kX BK103.out); (case s2 => exact (bX HB.out)); (case s3 => (with_reducible repeat (first | apply rA | apply rN | apply rD)); exact Rf4 HO3.out BK103.out (by decide) (fun _ _ => trivial)); (case s4 => (with_reducible repeat (first | apply rA | apply rN | apply rD)); exact Rf4 HO2.out BK103.out (by decide) (fun _ _ => trivial)); rintro e w10 ⟨N, u, v10, hN, rfl, hU, hG, hR, hb, hk⟩; obtain ⟨A10, c10, rfl⟩ := Kd.R_slice hR; obtain ⟨AU, cU, rfl⟩ := Kd.R_slice hU; have n1_ : Aside0 (Kd.R Kd.string 9 w10 w.heap.size (fun k_ => k_ < N) (.slice A8 e2.length c8) e2) := ⟨R_keepmv (d := Kd.string) (d' := k55) (e := 9) (e' := 55) (base := w.heap.size) (b := w.heap.size) (ok := fun k_ => k_ < N) (ok' := fun _ => True) (u := .slice A8 e2.length c8) (v := .slice A9 e3.length c9) (xs := e2) (ys := e3) (g := gb103) (t := 29) (cs := #[.string c0, .int .i64 d1, .slice A8 e2.length c8, .slice A9 e3.length c9]) (by (with_reducible repeat (first | apply rA | apply rN | apply rD)); exact Kd.R_mono (Kd.R_bound (e := 9) (Kd.R_far (p := ⟨gb103, 3, none⟩) (Kd.R_far (p := ⟨gb103, 2, none⟩) (Kd.R_far (p := ⟨gb103, 1, none⟩) (Kd.R_far (p := ⟨gb103, 0, none⟩) (Kd.R_types HO2.out BK103.out (by decide)) (fun _ hk => hk.2) (.string c0)) (fun _ hk => hk.2) (.int .i64 d1)) (fun _ hk => hk.2) (.slice A8 e2.length c8)) (fun _ hk => hk.2) (.slice A9 e3.length c9))) (fun k_ hk_ => by have h_ := hk_.2.2.1; have h2_ : k_ < N := (by rw [hN]; simpa using h_); exact h2_)) (by (with_reducible repeat (first | apply rA | apply rN | apply rD)); exact Rf4 HO3.out BK103.out (by decide) (fun _ _ => trivial)) (by refine pk4 zz1 ?_; exact kX BK103.out) (by decide) (by decide) hk⟩; have hw_ := blk_far (p := ⟨gb103, 3, none⟩) (blk_far (p := ⟨gb103, 2, none⟩) (blk_far (p := ⟨gb103, 1, none⟩) (blk_far (p := ⟨gb103, 0, none⟩) BK102.out NB.out (.string c0)) NB.out (.int .i64 d1)) NB.out (.slice A8 e2.length c8)) NB.out (.slice A9 e3.length c9); have n2_ := AM ((hk.2 gb102 (blk_lt hw_) NB.out (Kd.R_ne HO3.out BK102.out (by decide))).trans hw_); have n3_ : Aside0 (Kd.R Kd.string 9 w10 w.heap.size (fun k_ => N ≤ k_) (.slice AU q0.length cU) q0) := ⟨Kd.R_lower (Kd.R_mono (Kd.R_bound hU) (fun k_ hk_ => hk_.2.1)) (by rw [hN]; exact bZ (bX HB.out))⟩; clear hw_ hk BK101 BK102 BK103 HO2 HO3 HB hN; have BK102 := n2_; have BK103 := AM hG; have HO2 := n1_; have HO3 := AM hR; have HO5 := n3_; have HB := AM hb; clear n1_ n2_ n3_ hG hR hb hU; have hcz9 := q4 BK103.out; have hfz9 := fZ BK103.out; have hcz10 := q7 BK102.out; have hfz10 := fZ BK102.out) | (go_at_call 43; (with_reducible refine (impl_topicOut.calls c0 d1 (fun k_ => k_ < N ∧ k_ ≠ gb102) (.slice A8 e2.length c8) e2 (fun k_ => True ∧ k_ ≠ gb102) (.slice A10 p1.length c10) p1 (fun k_ => N ≤ k_ ∧ k_ ≠ gb102) (.slice AU q0.length cU) q0 p0 q2 r1 r2 r3 r4 r5 r6 r7 w _ ?s1 ?s2 ?s3 ?s4 ?s5 ?s6 A5.out).mono ?_); (case s1 => exact (bX HB.out)); (case s2 => (with_reducible repeat (first | apply rA | apply rN | apply rD)); exact Kd.R_types HO2.out BK102.out (by decide)); (case s3 => exact fun k_ h h2 => absurd h.1 (Nat.not_lt.2 h2.1)); (case s4 => (with_reducible repeat (first | apply rA | apply rN | apply rD)); exact Kd.R_types HO3.out BK102.out (by decide)); (case s5 => (with_reducible repeat (first | apply rA | apply rN | apply rD)); exact Kd.R_types HO5.out BK102.out (by decide)); (case s6 => exact fun k_ h h2 => absurd h2.1 (Nat.not_lt.2 h.1)); rintro e w11 ⟨v11, v12, v13, rfl, ho2, ho3, ho5, hb, hk⟩; obtain ⟨A11, c11, rfl⟩ := Kd.R_slice ho2; obtain ⟨A12, c12, rfl⟩ := Kd.R_slice ho3; obtain ⟨A13, c13, rfl⟩ := Kd.R_slice ho5; have n_ := AM ((hk.2 gb102 (blk_lt BK102.out) (by rintro (⟨_, h⟩ | ⟨_, h⟩ | ⟨_, h⟩) <;> exact h rfl)).trans BK102.out); clear hk BK102 BK103 HO2 HO3 HO5 HB; have BK102 := n_; have HO2 := AM ho2; have HO3 := AM ho3; have HO5 := AM ho5; have HB := AM hb; clear n_ ho2 ho3 ho5 hb; have hcz11 := q7 BK102.out; have hfz11 := fZ BK102.out))
          refine bodyPost_ret (results_cell_row rfl _ _ gb102 31 #[.string r1, .int .i64 r2, .slice A11 r3.length c11, .slice A12 r4.length c12, .slice A13 r5.length c13, .int .i64 r6, .int .i64 r7] (0, 0) _ rfl (by refine pk7 zz0 ?_; exact kX BK102.out) Try.underlying31 rfl (by kernel_rfl)) rfl ?_; exact ⟨_, _, _, rfl, by (with_reducible repeat (first | apply rA | apply rN | apply rD)); exact Rf7 HO2.out BK102.out (by decide) (fun _ hk => hk.1.2), by (with_reducible repeat (first | apply rA | apply rN | apply rD)); exact Rf7 HO3.out BK102.out (by decide) (fun _ _ => trivial), by (with_reducible repeat (first | apply rA | apply rN | apply rD)); exact Rf7 HO5.out BK102.out (by decide) (fun _ hk => hk.1.2), bX HB.out⟩


end Go.Proofs.Ytnjnjffjblgldaa.Q
