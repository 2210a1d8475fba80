/- A row of bytes of one's own whose block may bear a mark behind its room (what `[]byte(s)` leaves): read, written, appended to. No condition. -/
import Derived.Test.YtgpgamapopnfcaaDoorV
import Derived.Lib.BufferWrite
import Derived.Lib.ConvBytes
import Derived.Lib.FrozenHead2
namespace Go.Proofs.YtgpgamapopnfcaaDoor.HB
open Go Go.RowKit Go.Proofs.YtgpgamapopnfcaaDoorW.PrintWords Go.Proofs.YtgpgamapopnfcaaDoorW.PrintLast Go.Proofs.YtgpgamapopnfcaaDoorW.PrintMore
set_option linter.unusedVariables false
set_option linter.unusedSimpArgs false
/-- A row of bytes of one's own; what is frozen in its block lies behind its room. -/
def BRow (w : World) (base : Nat) (v : Value) (xs : List Int) : Prop :=
  ∃ g cap cur fz, v = .slice (some ⟨g, 0, none⟩) xs.length cap ∧ base ≤ g ∧ w.heap[g]? = some (.cells cur 5 fz) ∧ (fz.2 = 0 ∨ cap ≤ fz.1) ∧ xs.length ≤ cap ∧ cap ≤ maxLen ∧ cur.size = cap ∧ cur.toList.take xs.length = nums .u8 xs
section
variable {w w1 : World} {base : Nat} {v : Value} {xs : List Int}
theorem BRow.kept {row : Option Nat} (h : BRow w base v xs) (hg : w.grownBy w1 row) (hne : v.ownBlock = none ∨ v.ownBlock ≠ row) : BRow w1 base v xs := by
  obtain ⟨g, cap, cur, fz, rfl, hb, hgg, rest⟩ := h
  refine ⟨g, cap, cur, fz, rfl, hb, ?_, rest⟩
  rw [hg.block g (Array.getElem?_eq_some_iff.1 hgg).1 (by simpa [Value.ownBlock] using hne)]
  exact hgg
theorem BRow.below (h : BRow w base v xs) (hb : Below w.heap.size w w1) : BRow w1 base v xs := h.kept (grown_of_below hb none) (by cases hv : v.ownBlock <;> simp)
theorem BRow.alloc (h : BRow w base v xs) (o : Obj) : BRow (w.alloc o) base v xs := h.kept (World.grownBy_alloc w o none) (by cases hv : v.ownBlock <;> simp)
theorem BRow.cell (h : BRow w base v xs) : ∃ g cap, v = .slice (some ⟨g, 0, none⟩) xs.length cap ∧ base ≤ g ∧ g < w.heap.size ∧ xs.length ≤ cap ∧ cap ≤ maxLen ∧ ∀ j, j < xs.length → w.cell? ⟨g, j, none⟩ = some (.int .u8 (xs.getD j 0)) := by
  obtain ⟨g, cap, cur, fz, rfl, hb, hgg, hz, hle, hm, hs, ht⟩ := h
  refine ⟨g, cap, rfl, hb, (Array.getElem?_eq_some_iff.1 hgg).1, hle, hm, fun j hj => ?_⟩
  rw [Go.cell_of_row w g j cur 5 fz hgg]
  have h1 : (nums .u8 xs)[j]? = some (.int .u8 (xs.getD j 0)) := by simp [nums, List.getD, hj]
  rw [← ht, List.getElem?_take, if_pos hj] at h1
  simpa using h1
end
theorem run_storeCells_T (P : Program) (g o : Nat) (t : TypeId) (fz : Nat × Nat) : ∀ (vs : List Value) (i : Nat) (cur : Array Value) (w : World), w.heap[g]? = some (.cells cur t fz) → (fz.2 = 0 ∨ cur.size ≤ fz.1) → o + i + vs.length ≤ cur.size → (∀ v ∈ vs, v.oneCell' = true) →
    (storeCells ⟨g, o, none⟩ vs i).run P w = .ok () (w.setRow g (cur.toList.take (o + i) ++ vs ++ cur.toList.drop (o + i + vs.length)).toArray)
  | [], i, cur, w, hg, _, _, _ => by
    simp only [storeCells, List.append_nil, List.length_nil, Nat.add_zero, List.take_append_drop, Array.toArray_toList]
    rw [setRow_self w g cur t fz hg]
    rfl
  | v :: rest, i, cur, w, hg, hfz, hl, h1 => by
    have hi : o + i < cur.size := by simp at hl; omega
    have hadd : (⟨g, o, none⟩ : Addr).add i = ⟨g, o + i, none⟩ := by unfold Addr.add; split <;> simp_all
    have hcell : w.cell? ⟨g, o + i, none⟩ = some cur[o + i] := by simp [World.cell?, hg, hi]
    have hfro : w.frozen? ⟨g, o + i, none⟩ = false := by
      obtain ⟨lo, hi'⟩ := fz
      simp only [World.frozen?, hg, Bool.and_eq_false_iff, decide_eq_false_iff_not]
      simp only at hfz
      omega
    have hst : (store ((⟨g, o, none⟩ : Addr).add i) v).run P w = .ok () (w.setRow g (cur.setIfInBounds (o + i) v)) := by
      rw [hadd, run_store P w _ v _ (h1 v (by simp)), hcell]
      simp [hfro, setCell_eq_setRow w g (o + i) cur t fz v hg]
    have ih := run_storeCells_T P g o t fz rest (i + 1) (cur.setIfInBounds (o + i) v) (w.setRow g (cur.setIfInBounds (o + i) v)) (setRow_heap w g cur _ t _ hg) (by simpa using hfz) (by simp at hl ⊢; omega) (fun x hx => h1 x (by simp [hx]))
    simp only [storeCells, Sem.run_bind, hst, Result.andThen_ok, ih, setRow_setRow]
    congr 3
    have e := list_seg_step cur.toList (o + i) v rest (by simp at hl ⊢; omega)
    simpa [Array.toList_setIfInBounds, Nat.add_assoc] using e
theorem nums_one (k : IntKind) (ys : List Int) : ∀ u ∈ nums k ys, u.oneCell' = true := by
  intro u hu
  simp only [nums, List.mem_map] at hu
  obtain ⟨x, _, rfl⟩ := hu
  rfl
theorem run_append_T {P : Program} (w : World) (base : Nat) (t ty : TypeId) (i : TypeInfo) (z : Value) (ht : P.underlying t = some (.slice 5)) (hi : P.info? 5 = some i) (hz : i.zero = some z)
    (hsize : i.size = 1) (hby : i.bytes = 1) (hzs : z.cells.size = 1)
    (v : Value) (xs ys : List Int) (hown : BRow w base v xs)
    (a : Addr) (c : Nat) (hnews : ∀ j u, (nums .u8 ys)[j]? = some u → w.cell? (a.add j) = some u)
    (hl : xs.length + ys.length ≤ 140737488355328) (hbase : base ≤ w.heap.size) :
    ∃ v' w', (Builtin.append_ #[t, t] ty #[v, .slice (some a) ys.length c]).run P w = .ok v' w' ∧ BRow w' base v' (xs ++ ys) ∧ w.grownBy w' v.ownBlock := by
  have hbr := hown
  obtain ⟨g, cap, cur, fz, rfl, hbg, hg, hfz, hnc, hcm, hcs, htake⟩ := hown
  have hyl : (nums .u8 ys).length = ys.length := by simp [nums]
  have hxl : (nums .u8 xs).length = xs.length := by simp [nums]
  have happ : nums .u8 (xs ++ ys) = nums .u8 xs ++ nums .u8 ys := by simp [nums]
  by_cases hroom : xs.length + ys.length ≤ cap
  · have hfit : xs.length + (nums .u8 ys).length ≤ cur.size := by rw [hyl, hcs]; exact hroom
    have hf := run_firstCells_some (P := P) w i.size ys.length a ys.length c (nums .u8 ys) (by rw [hyl, hsize, Nat.mul_one]) hnews
    have hst := run_storeCells_T P g (xs.length) 5 fz (nums .u8 ys) 0 cur w hg (by rw [hcs]; exact hfz) (by simpa using hfit) (nums_one _ _)
    simp only [Nat.add_zero] at hst
    have hr : (Builtin.append_ #[t, t] ty #[.slice (some ⟨g, 0, none⟩) xs.length cap, .slice (some a) ys.length c]).run P w =
      .ok (.slice (some ⟨g, 0, none⟩) (xs.length + ys.length) cap) (w.setRow g (cur.toList.take (xs.length) ++ nums .u8 ys ++ cur.toList.drop (xs.length + (nums .u8 ys).length)).toArray) := by
      simp [hsize] at hf
      simp [Builtin.append_, run_underlying ht, sizeOf, typeInfo, hi, hsize, Builtin.lenOf, hroom, hf, Addr.add_lit, hst]
    refine ⟨_, _, hr, ⟨g, cap, _, fz, by simp, hbg, setRow_heap w g cur _ 5 _ hg, hfz, by simpa using hroom, hcm, ?_, ?_⟩, ⟨rfl, rfl, rfl, by simp, fun k _ hk => setRow_other w g k _ (fun e => hk (by simp [Value.ownBlock, e]))⟩⟩
    · simp only [List.size_toArray, List.length_append, List.length_take, List.length_drop, Array.length_toList]
      omega
    · rw [htake, happ, show (xs ++ ys).length = (nums .u8 xs ++ nums .u8 ys).length by simp [nums]]
      exact List.take_left
  · obtain ⟨g', cap', hv', _, _, _, _, hc⟩ := hbr.cell
    obtain ⟨hgg, hcc⟩ : g = g' ∧ cap = cap' := by simpa using hv'
    subst hgg; subst hcc
    have holds : ∀ j u, (nums .u8 xs)[j]? = some u → w.cell? ((⟨g, 0, none⟩ : Addr).add j) = some u := by
      intro j u hu
      have hj : j < xs.length := by have := (List.getElem?_eq_some_iff.1 hu).1; simpa [nums] using this
      rw [add_plain, hc j hj, ← hu]
      simp [nums, List.getD, hj]
    have hr := run_append_grow (P := P) w t ty 5 i z ht hi hz ⟨g, 0, none⟩ xs.length cap (nums .u8 xs) (by rw [hxl, hsize, Nat.mul_one]) holds a ys.length c (nums .u8 ys) (by rw [hyl, hsize, Nat.mul_one]) hnews (by omega) (by omega) (by rw [hby]; exact growslice_fits (by omega) (by omega))
    have hge := grownCap_ge w (xs.length + ys.length) cap 5
    have hcm2 : grownCap w (xs.length + ys.length) cap 5 ≤ maxLen := grownCap_le_maxLen w (xs.length + ys.length) cap 5 (by simp only [maxLen]; omega)
    refine ⟨_, _, hr, ⟨w.heap.size, grownCap w (xs.length + ys.length) cap 5, _, (0, 0), by simp, hbase, heap_alloc_new w.drew _, Or.inl rfl, by simpa using hge, hcm2, ?_, ?_⟩, ⟨rfl, rfl, rfl, by simp, fun k hk _ => heap_alloc_old w.drew _ hk⟩⟩
    · simp only [Array.size_append, List.size_toArray, size_zeroCells, hzs, hxl, hyl]
      omega
    · simp only [Array.toList_append, List.append_assoc]
      rw [← List.append_assoc, happ, show (xs ++ ys).length = (nums .u8 xs ++ nums .u8 ys).length by simp [nums]]
      exact List.take_left
section
variable {P : Program} {ops : Array Oper} {rest : List Oper} {o : Oper} {a : Act} {Q : Exit → Act → World → Prop}
theorem BRow.append {w0 W : World} (base : Nat) (hgd : o.guard = none) (s x : Operand) (t : TypeId) (z : Value)
    (ho : o.op = .call { callee := .builtin .append, args := #[s, x], argTypes := #[t, t] })
    (ht : P.underlying t = some (.slice 5)) (hinfo : (P.info? 5).map (fun i => (i.zero, i.size, i.bytes)) = some (some z, 1, 1)) (hz : z.cells.size = 1)
    (v : Value) (xs ys : List Int) (hs : a.eval s = v) (hx : a.eval x = .slice (some ⟨W.heap.size, 0, none⟩) ys.length ys.length)
    (HO : BRow W base v xs) (HB : Below base w0 W) (hbase : base ≤ W.heap.size) (hl : xs.length + ys.length ≤ 140737488355328)
    (h : ∀ v1 w1, BRow w1 base v1 (xs ++ ys) → Below base w0 w1 → W.grownBy w1 v.ownBlock → wpList P ops Q rest (a.put o.dst v1) w1) :
    wpList P ops Q (o :: rest) a (W.alloc (.cells (nums .u8 ys).toArray 5)) := by
  obtain ⟨i0, hi, hzz⟩ := Option.map_eq_some_iff.1 hinfo
  simp only [Prod.mk.injEq] at hzz
  obtain ⟨hz0, hz1, hz2⟩ := hzz
  refine wpList_plain hgd fun K hK => ?_
  obtain ⟨v', w', hr, h2, h3⟩ := run_append_T (P := P) (W.alloc (.cells (nums .u8 ys).toArray 5)) base t o.type i0 z ht hi hz0 hz1 hz2 hz v xs ys (HO.alloc _) ⟨W.heap.size, 0, none⟩ ys.length
    (by simpa using World.news_of_block (cs := (nums .u8 ys).toArray) (t := 5) (fr := (0, 0)) (heap_alloc_new W (.cells (nums .u8 ys).toArray 5))) hl (by simp; omega)
  unfold Oper.wp execOp
  simp only [ho, resolve, invoke, builtin, Sem.run_bind, Sem.run_pure, Result.andThen_ok, List.map_toArray, List.map_cons, List.map_nil, hs, hx, hr]
  have hbase' : ∀ k, v.ownBlock = some k → base ≤ k := by
    obtain ⟨g, cap, hv, hb, _⟩ := HO.cell
    intro k hk; subst hv
    have : g = k := by simpa [Value.ownBlock] using hk
    omega
  exact hK _ _ (h v' w' h2 ((HB.alloc hbase _).grown h3 (by simp; omega) hbase') (World.grownBy.trans (World.grownBy_alloc W _ _) h3))
end
/-- The bytes of a text. -/
def byt (s : ByteArray) : List Int := s.data.toList.map (fun b => (b.toNat : Int))
theorem byt_length (s : ByteArray) : (byt s).length = s.size := by simp [byt]
theorem byt_row (w : World) (base : Nat) (hb : base ≤ w.heap.size) (s : ByteArray) (hs : s.size ≤ maxLen) : BRow (Lib.bytesWorld w 5 s) base (.slice (some ⟨w.heap.size, 0, none⟩) s.size (grownCap w s.size 0 5)) (byt s) := by
  have hsz : (Lib.bytesCells w 5 s).size = grownCap w s.size 0 5 := by
    have := grownCap_ge w s.size 0 5
    have h2 : s.data.size = s.size := rfl
    simp [Lib.bytesCells, h2]; omega
  refine ⟨w.heap.size, grownCap w s.size 0 5, Lib.bytesCells w 5 s, _, by rw [byt_length], hb, Lib.bytesWorld_at_new w 5 s, Or.inr (by rw [hsz]; exact Nat.le_refl _), by rw [byt_length]; exact grownCap_ge w s.size 0 5, grownCap_le_maxLen w s.size 0 5 hs, hsz, ?_⟩
  have h2 : s.data.size = s.size := rfl
  simp [Lib.bytesCells, byt, nums, List.map_map, Function.comp_def, byt_length, h2, List.take_append_of_le_length]
theorem byt_below {base : Nat} {w0 w : World} (h : Below base w0 w) (hb : base ≤ w.heap.size) (s : ByteArray) : Below base w0 (Lib.bytesWorld w 5 s) := by
  have hg : w.grownBy (Lib.bytesWorld w 5 s) none := ⟨rfl, rfl, rfl, by rw [Lib.bytesWorld_size]; omega, fun k hk _ => Lib.bytesWorld_at_old w 5 s k hk⟩
  exact h.grown hg hb (by simp)

section
variable {w w1 : World} {base : Nat} {v : Value} {xs : List Int}
theorem BRow.lower {base' : Nat} (h : BRow w base v xs) (hb : base' ≤ base) : BRow w base' v xs := by
  obtain ⟨g, cap, cur, fz, rfl, hg, r⟩ := h
  exact ⟨g, cap, cur, fz, rfl, Nat.le_trans hb hg, r⟩
theorem BRow.of_own (h : w.ownsRow base 5 1 v xs.length (nums .u8 xs)) (hv : v ≠ .slice none 0 0) : BRow w base v xs := by
  rcases h.2 with ⟨rfl, _⟩ | ⟨g, cap, cur, rfl, hb, hg, hnc, hcm, hcs, ht⟩
  · exact absurd rfl hv
  · exact ⟨g, cap, cur, (0, 0), rfl, hb, hg, Or.inl rfl, hnc, hcm, by rw [hcs, Nat.mul_one], by rw [Nat.mul_one] at ht; exact ht⟩
theorem BRow.string {P : Program} {src dst : TypeId} (hs : P.underlying src = some (.slice 5)) (he : P.underlying 5 = some (.int .u8)) (hd : P.underlying dst = some .string) (h : BRow w base v xs) : (convert src dst v).run P w = .ok (.string (strOfNums xs)) w := by
  obtain ⟨g, cap, rfl, _, _, _, _, hc⟩ := h.cell
  exact run_convert_bytes_arg w src 5 hs he g 0 xs.length cap xs rfl (fun i hi => by rw [Nat.zero_add]; exact hc i hi) dst hd
theorem BRow.put {g cap : Nat} (h : BRow w base (.slice (some ⟨g, 0, none⟩) xs.length cap) xs) (i : Nat) (hi : i < xs.length) (x : Int) : BRow (w.setCell ⟨g, i, none⟩ (.int .u8 x)) base (.slice (some ⟨g, 0, none⟩) xs.length cap) (xs.set i x) := by
  obtain ⟨g', cap', cur, fz, hv, hb, hg, hz, hnc, hcm, hcs, ht⟩ := h
  obtain ⟨hgg, hcc⟩ : g = g' ∧ cap = cap' := by simpa using hv
  subst hgg; subst hcc
  have hi' : i < cur.size := by omega
  refine ⟨g, cap, cur.setIfInBounds i (.int .u8 x), fz, by simp, hb, ?_, hz, by simpa using hnc, hcm, by simpa using hcs, ?_⟩
  · rw [setCell_eq_setRow w g i cur 5 fz _ hg]
    exact setRow_heap w g cur _ 5 _ hg
  · rw [List.length_set, Array.toList_setIfInBounds, List.take_set, ht]
    simp [nums, List.map_set]
theorem BRow.notfrozen {g cap : Nat} (h : BRow w base (.slice (some ⟨g, 0, none⟩) xs.length cap) xs) (i : Nat) (hi : i < xs.length) : w.frozen? ⟨g, i, none⟩ = false := by
  obtain ⟨g', cap', cur, fz, hv, hb, hg, hz, hnc, hcm, hcs, ht⟩ := h
  obtain ⟨hgg, hcc⟩ : g = g' ∧ cap = cap' := by simpa using hv
  subst hgg; subst hcc
  obtain ⟨lo, hi'⟩ := fz
  simp only [World.frozen?, hg, Bool.and_eq_false_iff, decide_eq_false_iff_not]
  simp only at hz
  omega
theorem byt_cells (s : ByteArray) : nums .u8 (byt s) = Go.Lib.byteCells s.data.toList := by simp [nums, byt, Go.Lib.byteCells, List.map_map, Function.comp_def]
/-- A text copied to the front of a row. -/
theorem BRow.copied {P : Program} {g cap : Nat} (s : ByteArray) (h : w.ownsRow base 5 1 (.slice (some ⟨g, 0, none⟩) xs.length cap) xs.length (nums .u8 xs)) (hle : s.size ≤ xs.length) (hs1 : (P.info? 5).map (·.size) = some 1) (dT sT ty : TypeId) (hu : P.underlying dT = some (.slice 5)) :
    ∃ w1, (Builtin.copy_ #[dT, sT] ty #[.slice (some ⟨g, 0, none⟩) xs.length cap, .string s]).run P w = .ok (goInt s.size) w1 ∧ BRow w1 base (.slice (some ⟨g, 0, none⟩) xs.length cap) (byt s ++ xs.drop s.size) ∧ w.grownBy w1 (some g) := by
  rcases h.2 with ⟨hv, _⟩ | ⟨g', cap', cur, hv, hb, hg, hnc, hcm, hcs, ht⟩
  · cases hv
  · obtain ⟨hgg, hcc⟩ : g = g' ∧ cap = cap' := by simpa using hv
    subst hgg; subst hcc
    rw [Nat.mul_one] at ht hcs
    have hl : (byt s ++ xs.drop s.size).length = xs.length := by rw [List.length_append, byt_length, List.length_drop]; omega
    refine ⟨_, Go.Lib.run_copy_row_string (P := P) w dT sT ty 5 g 0 xs.length cap s cur 5 hu hs1 hg hle (by omega), ⟨g, cap, _, (0, 0), by rw [hl], hb, setRow_heap w g cur _ 5 _ hg, Or.inl rfl, by omega, hcm, ?_, ?_⟩, ⟨rfl, rfl, rfl, by simp, fun k _ hk => setRow_other w g k _ (fun e => hk (by simp [e]))⟩⟩
    · have := byt_length s
      have h2 : (Go.Lib.byteCells s.data.toList).length = s.size := by rw [← byt_cells]; simp [nums, byt_length]
      simp only [List.size_toArray, List.length_append, List.length_take, List.length_drop, Array.length_toList, h2, Nat.zero_add]
      omega
    · have h2 : (Go.Lib.byteCells s.data.toList).length = s.size := by rw [← byt_cells]; simp [nums, byt_length]
      have h3 : nums .u8 (byt s ++ xs.drop s.size) = Go.Lib.byteCells s.data.toList ++ (nums .u8 xs).drop s.size := by rw [← byt_cells]; simp [nums]
      rw [h3, ← ht, hl]
      simp only [List.take_zero, List.nil_append, Nat.zero_add]
      rw [List.take_append, h2, List.take_of_length_le (by rw [h2]; exact hle), List.drop_take]
end
theorem own_slice {w : World} {base n b : Nat} {v : Value} {xs : List Value} (h : w.ownsRow base 5 1 v n xs) (hb : v.ownBlock = some b) : ∃ cap, v = .slice (some ⟨b, 0, none⟩) n cap := by
  rcases h.2 with ⟨rfl, _⟩ | ⟨g, cap, cur, rfl, _⟩
  · cases hb
  · have : g = b := by simpa [Value.ownBlock] using hb
    exact ⟨cap, by rw [this]⟩
end Go.Proofs.YtgpgamapopnfcaaDoor.HB
