/- Printed by wip/mp.py: functions as plain Lean functions, and their calls. -/
import Derived.Test.YtcaildjhnkedfaaQx0
import Derived.Test.YtcaildjhnkedfaaQx12
namespace Go.Proofs.Ytcaildjhnkedfaa.Q
open Go.RowKit Go.Proofs.Ytcaildjhnkedfaa.HB Go.Proofs.YtcaildjhnkedfaaW.PrintWords Go.Proofs.YtcaildjhnkedfaaW.PrintLast Go.Proofs.YtcaildjhnkedfaaW.PrintMore
attribute [local go_sem] max2_int min2_int max_two min_two max_three min_three max_four min_four   -- for this text's walks alone
set_option linter.unusedVariables false
set_option linter.unusedSimpArgs false

/-! ### laws_markTopicS: function 38 (by hand) -/
/-! Rows whose elements have rows of their own, told with the owner of each block. -/
theorem zip_set {α : Type} (xs : List α) (i : Nat) (x : α) : xs.zipIdx.set i (x, i) = (xs.set i x).zipIdx := by
  apply List.ext_getElem?
  intro j; rw [List.getElem?_set, List.getElem?_zipIdx, List.getElem?_zipIdx, List.getElem?_set]; by_cases h : i = j
  · subst h
    simp
  · simp [h]
theorem tg_elem {α : Type} {d : Kd α} {f : Nat → Nat} {e : Nat} {W : World} {base : Nat} {ok : Nat → Prop} {g n cap : Nat} {xs : List α} (h : (Kd.tag f d).R e W base ok (.slice (some ⟨g, 0, none⟩) n cap) xs.zipIdx) (z : α) (i : Nat) (hi : i < xs.length) :
    n = xs.length ∧ ∃ c, c.length = d.sz ∧ d.M W base (fun k => (ok k ∧ k ≠ g) ∧ f k = i) (xs.getD i z) c ∧ (∀ j u, c[j]? = some u → W.cell? ⟨g, i * d.sz + j, none⟩ = some u) ∧ ∀ j, W.frozen? ⟨g, i * d.sz + j, none⟩ = false := by
  have hn : n = xs.length := by have := (Kd.R_reads' h).1; simpa using this
  obtain ⟨c, h1, h2, h3, h4⟩ := Kd.R_elem h (z, i) (i : Int) (by omega) (by omega); have e : xs.zipIdx.getD (i : Int).toNat (z, i) = (xs.getD i z, i) := by
    rw [Int.toNat_natCast, List.getD_eq_getElem?_getD, List.getElem?_zipIdx, List.getD_eq_getElem?_getD, List.getElem?_eq_getElem hi]
    simp
  rw [e] at h2; rw [Int.toNat_natCast] at h3 h4; exact ⟨hn, c, h1, h2, h3, h4⟩
theorem tg_seg {α : Type} {d : Kd α} {f : Nat → Nat} {e : Nat} {W : World} {base : Nat} {ok : Nat → Prop} {g n cap : Nat} {xs : List α} (h : (Kd.tag f d).R e W base ok (.slice (some ⟨g, 0, none⟩) n cap) xs.zipIdx) (i : Nat) (hi : i < xs.length) {c seg : List Value} {j : Nat} (hcl : c.length = d.sz) (hcc : ∀ j u, c[j]? = some u → W.cell? ⟨g, i * d.sz + j, none⟩ = some u)
    (hj : j + seg.length ≤ d.sz) {x' : α} (hM : d.M W base (fun k => (ok k ∧ k ≠ g) ∧ f k = i) x' (c.take j ++ seg ++ c.drop (j + seg.length))) :
    (Kd.tag f d).R e (W.setCells g (i * d.sz + j) seg) base ok (.slice (some ⟨g, 0, none⟩) n cap) (xs.set i x').zipIdx := by
  have hn : n = xs.length := by have := (Kd.R_reads' h).1; simpa using this
  have := (Kd.R_seg h (i : Int) (by omega) (by omega) (c := c) (seg := seg) (j := j) (okp := fun k => ok k ∧ k ≠ g) hcl (by rw [Int.toNat_natCast]; exact hcc) hj (x' := (x', i)) hM (fun _ hk => hk)).1; rw [Int.toNat_natCast, zip_set] at this; exact this
theorem tg_inner {α : Type} {d : Kd α} {f : Nat → Nat} {e : Nat} {W w1 : World} {base : Nat} {ok : Nat → Prop} {g n cap : Nat} {xs : List α} (h : (Kd.tag f d).R e W base ok (.slice (some ⟨g, 0, none⟩) n cap) xs.zipIdx) (i : Nat) (hi : i < xs.length) {c : List Value} (hcl : c.length = d.sz) (hcc : ∀ j u, c[j]? = some u → W.cell? ⟨g, i * d.sz + j, none⟩ = some u)
    (hk : ∀ k, k < W.heap.size → ok k → (f k ≠ i ∨ k = g) → w1.heap[k]? = W.heap[k]?) {x' : α} (hM : d.M w1 base (fun k => (ok k ∧ k ≠ g) ∧ f k = i) x' c) :
    (Kd.tag f d).R e w1 base ok (.slice (some ⟨g, 0, none⟩) n cap) (xs.set i x').zipIdx := by
  have hrd := Kd.R_reads' h; obtain ⟨hok, inner, ho, hr⟩ := h; have hlen : (xs.set i x').zipIdx.length = xs.zipIdx.length := by simp
  have hg0 : ok g := hok g rfl; have ho2 := ho; obtain ⟨hil, ho'⟩ := ho2
  rcases ho' with ⟨hv, _⟩ | ⟨g', cap', cur, hv, hb, hh, hnc', hcm, hcs, ht⟩
  · cases hv
  injection hv with ha _ hc
  injection ha with ha
  injection ha with hg
  subst hg; subst hc; have hgs : g < W.heap.size := (Array.getElem?_eq_some_iff.1 hh).1; have hseg : (inner.drop (i * d.sz)).take d.sz = c := by
    have hle : i * d.sz + d.sz ≤ inner.length := by
      rw [hil, ← Nat.succ_mul]; exact Nat.mul_le_mul_right _ (by rw [List.length_zipIdx]; exact hi)
    apply List.ext_getElem?
    intro j; by_cases hj : j < d.sz
    · have h1 := hcc j (c[j]'(by omega)) (List.getElem?_eq_getElem (by omega))
      rw [Go.cell_of_row W g _ cur e (0, 0) hh] at h1; rw [List.getElem?_take, if_pos hj, List.getElem?_drop, List.getElem?_eq_getElem (l := c) (by omega), ← h1, ← ht, List.getElem?_take, if_pos (by rw [← hil]; omega)]
      simp
    · rw [List.getElem?_eq_none (by simp; omega), List.getElem?_eq_none (by omega)]
  refine ⟨hok, inner, ?_, ?_⟩
  · rw [hlen]
    exact own_move ho (fun k hk' => by simp [Value.ownBlock] at hk'; subst hk'; exact hk g hgs hg0 (.inr rfl))
  · refine ⟨by rw [hlen]; exact hr.1, fun j p hj => ?_⟩
    by_cases hij : i = j
    · subst hij
      rw [List.getElem?_zipIdx, List.getElem?_set, if_pos rfl, if_pos hi] at hj
      simp at hj
      subst hj; rw [show (Kd.tag f d).sz = d.sz from rfl, hseg]; exact d.M_mono (fun k hk' => ⟨⟨hk'.1.1, fun e_ => hk'.1.2 (by simpa [Value.ownBlock] using e_)⟩, hk'.2⟩) hM
    · rw [List.getElem?_zipIdx, List.getElem?_set, if_neg hij] at hj
      rw [← List.getElem?_zipIdx] at hj; have hj0 := hr.2 j p hj; have hp2 : p.2 = j := by
        rw [List.getElem?_zipIdx] at hj
        cases hx : xs[j]? with
        | none => rw [hx] at hj; simp at hj
        | some y => rw [hx] at hj; simp at hj; rw [← hj]
      exact Kd.M_step (d := d) hj0 (fun k hk' hlt => hk k hlt hk'.1.1 (.inl (by rw [hk'.2, hp2]; exact fun e_ => hij e_.symm)))
theorem str_only {e : Nat} {w : World} {base : Nat} {ok ok' : Nat → Prop} {v : Value} {xs : List ByteArray} (h : Kd.string.R e w base ok v xs) (hv : ∀ k, v.ownBlock = some k → ok' k) : Kd.string.R e w base ok' v xs := ⟨hv, h.2⟩
theorem grp_only {e : Nat} {w : World} {base : Nat} {ok ok' : Nat → Prop} {v : Value} {xs : List S61} (h : k61.R e w base ok v xs) (hv : ∀ k, v.ownBlock = some k → ok' k) : k61.R e w base ok' v xs := ⟨hv, h.2⟩
theorem own_typesne {α β : Type} {d : Kd α} {d' : Kd β} {e e' : Nat} {w : World} {base b : Nat} {ok ok' : Nat → Prop} {u v : Value} {xs : List α} {ys : List β} (h : d.R e w base ok u xs) (h' : d'.R e' w b ok' v ys) (hne : e ≠ e') : ∀ k, u.ownBlock = some k → ¬ v.ownBlock = some k := fun k hk hk' => by
  obtain ⟨c1, h1⟩ := Kd.R_typed h k hk; obtain ⟨c2, h2⟩ := Kd.R_typed h' k hk'; rw [h1] at h2
  injection h2 with h2
  injection h2 with _ h2
  exact hne h2
/-- Marks over a row of topics. -/
def laws_markTopicS.l0 : Nat → List S44 → Int → Int → Option (Int × List S44)
  | 0, _, _, _ => none
  | k + 1, l, m, i => if i < (l.length : Int) then (if 0 ≤ i then (laws_markText.f k m).bind fun t => (laws_markStringS.f k (rd_T44 l i).f2 (wrap64 (wrap64 (m + 1) + 1))).bind fun p => (laws_markGroupS.f k (rd_T44 l i).f3 p.1).bind fun q => laws_markTopicS.l0 k (l.set i.toNat ⟨t, wrap64 (m + 1), p.2, q.2⟩) q.1 (wrap64 (i + 1)) else none) else some (m, l)
def laws_markTopicS.f (k : Nat) (l0 : List S44) (a1 : Int) : Option (Int × List S44) := laws_markTopicS.l0 k l0 a1 0
theorem laws_markTopicS.mono_l : ∀ k, (∀ y0 y1 y2, LeO (laws_markTopicS.l0 k y0 y1 y2) (laws_markTopicS.l0 (k + 1) y0 y1 y2))
  | 0 => fun _ _ _ r h => by simp [laws_markTopicS.l0] at h
  | k + 1 => by
    have ih0 := laws_markTopicS.mono_l k; intro y0 y1 y2; unfold laws_markTopicS.l0
    repeat' first | (with_reducible first | exact laws_markText.mono _ _ | exact laws_markStringS.mono _ _ _ | exact laws_markGroupS.mono _ _ _ | exact ih0 _ _ _ | exact oR _ | exact oN _ | refine oI ?_ ?_ | refine oB ?_ fun _ => ?_)
theorem laws_markTopicS.mono : ∀ a0 a1 k, LeO (laws_markTopicS.f k a0 a1) (laws_markTopicS.f (k + 1) a0 a1) := fun a0 a1 k => laws_markTopicS.mono_l k a0 a1 0
theorem laws_markTopicS.upto {k k' : Nat} (h : k ≤ k') {l : List ByteArray} {m : Int} {r : Int × List ByteArray} (e : laws_markStringS.f k l m = some r) : laws_markStringS.f k' l m = some r := by
  obtain ⟨d, rfl⟩ := Nat.exists_eq_add_of_le h
  induction d with
  | zero => exact e
  | succ d ih => exact laws_markStringS.mono _ _ _ _ (ih (by omega))
theorem laws_markTopicS.uptoG {k k' : Nat} (h : k ≤ k') {l : List S61} {m : Int} {r : Int × List S61} (e : laws_markGroupS.f k l m = some r) : laws_markGroupS.f k' l m = some r := by
  obtain ⟨d, rfl⟩ := Nat.exists_eq_add_of_le h
  induction d with
  | zero => exact e
  | succ d ih => exact laws_markGroupS.mono _ _ _ _ (ih (by omega))
/-- Topic i, marked: its own cells. -/
theorem topic_cells {f : Nat → Nat} {W : World} {base : Nat} {ok : Nat → Prop} {g n cap : Nat} {xs : List S44} (h : (Kd.tag f k44).R 44 W base ok (.slice (some ⟨g, 0, none⟩) n cap) xs.zipIdx) (i : Nat) (hi : i < xs.length) :
    n = xs.length ∧ ∃ v2 v3, (Kd.string.R 9 W base (fun k => (ok k ∧ k ≠ g) ∧ f k = i) v2 (rd_T44 xs i).f2 ∧ k61.R 61 W base (fun k => (ok k ∧ k ≠ g) ∧ f k = i) v3 (rd_T44 xs i).f3) ∧
      (W.cell? ⟨g, i * 4, none⟩ = some (.string (rd_T44 xs i).f0) ∧ W.cell? ⟨g, i * 4 + 1, none⟩ = some (.int .i64 (rd_T44 xs i).f1) ∧ W.cell? ⟨g, i * 4 + 2, none⟩ = some v2 ∧ W.cell? ⟨g, i * 4 + 3, none⟩ = some v3) ∧ ∀ j, W.frozen? ⟨g, i * 4 + j, none⟩ = false := by
  obtain ⟨hn, c, hcl, hM, hcc, hfr⟩ := tg_elem h z44 i hi; obtain ⟨v2, v3, rfl, h2, h3⟩ := k44_openM hM; exact ⟨hn, v2, v3, ⟨h2, h3⟩, ⟨hcc 0 _ rfl, hcc 1 _ rfl, hcc 2 _ rfl, hcc 3 _ rfl⟩, hfr⟩
theorem cells4 {g i : Nat} {W : World} {a b c d : Value} (h0 : W.cell? ⟨g, i * 4, none⟩ = some a) (h1 : W.cell? ⟨g, i * 4 + 1, none⟩ = some b) (h2 : W.cell? ⟨g, i * 4 + 2, none⟩ = some c) (h3 : W.cell? ⟨g, i * 4 + 3, none⟩ = some d) :
    ∀ j u, ([a, b, c, d] : List Value)[j]? = some u → W.cell? ⟨g, i * k44.sz + j, none⟩ = some u := by
  intro j u hu
  match j, hu with
  | 0, hu => injection hu with hu; subst hu; exact h0
  | 1, hu => injection hu with hu; subst hu; exact h1
  | 2, hu => injection hu with hu; subst hu; exact h2
  | 3, hu => injection hu with hu; subst hu; exact h3
  | j + 4, hu => simp at hu
theorem topic_put0 {f : Nat → Nat} {W : World} {base : Nat} {ok : Nat → Prop} {g n cap : Nat} {xs : List S44} (h : (Kd.tag f k44).R 44 W base ok (.slice (some ⟨g, 0, none⟩) n cap) xs.zipIdx) (i : Nat) (hi : i < xs.length) (t : ByteArray) :
    (Kd.tag f k44).R 44 (W.setCell ⟨g, i * 4, none⟩ (.string t)) base ok (.slice (some ⟨g, 0, none⟩) n cap) (xs.set i ⟨t, (rd_T44 xs i).f1, (rd_T44 xs i).f2, (rd_T44 xs i).f3⟩).zipIdx := by
  obtain ⟨hn, v2, v3, ⟨h2, h3⟩, ⟨c0, c1, c2, c3⟩, hfr⟩ := topic_cells h i hi; exact tg_seg h i hi (c := [.string (rd_T44 xs i).f0, .int .i64 (rd_T44 xs i).f1, v2, v3]) (seg := [.string t]) (j := 0) rfl (cells4 c0 c1 c2 c3) (show 1 ≤ 4 from by decide) (k44_mkM _ _ _ (⟨t, (rd_T44 xs i).f1, (rd_T44 xs i).f2, (rd_T44 xs i).f3⟩ : S44) h2 h3)
theorem topic_put1 {f : Nat → Nat} {W : World} {base : Nat} {ok : Nat → Prop} {g n cap : Nat} {xs : List S44} (h : (Kd.tag f k44).R 44 W base ok (.slice (some ⟨g, 0, none⟩) n cap) xs.zipIdx) (i : Nat) (hi : i < xs.length) (b : Int) :
    (Kd.tag f k44).R 44 (W.setCell ⟨g, i * 4 + 1, none⟩ (.int .i64 b)) base ok (.slice (some ⟨g, 0, none⟩) n cap) (xs.set i ⟨(rd_T44 xs i).f0, b, (rd_T44 xs i).f2, (rd_T44 xs i).f3⟩).zipIdx := by
  obtain ⟨hn, v2, v3, ⟨h2, h3⟩, ⟨c0, c1, c2, c3⟩, hfr⟩ := topic_cells h i hi; exact tg_seg h i hi (c := [.string (rd_T44 xs i).f0, .int .i64 (rd_T44 xs i).f1, v2, v3]) (seg := [.int .i64 b]) (j := 1) rfl (cells4 c0 c1 c2 c3) (show 2 ≤ 4 from by decide) (k44_mkM _ _ _ (⟨(rd_T44 xs i).f0, b, (rd_T44 xs i).f2, (rd_T44 xs i).f3⟩ : S44) h2 h3)
theorem rd_set {xs : List S44} {i : Nat} (hi : i < xs.length) (x : S44) : rd_T44 (xs.set i x) (i : Int) = x := by
  unfold rd_T44; rw [Int.toNat_natCast, List.getD_eq_getElem?_getD, List.getElem?_set, if_pos rfl, if_pos hi]
  rfl
/-- The texts of topic i have been written. -/
theorem topic_in2 {f : Nat → Nat} {W w1 w0 : World} {ok : Nat → Prop} {g n cap : Nat} {xs : List S44} (h : (Kd.tag f k44).R 44 W w0.heap.size ok (.slice (some ⟨g, 0, none⟩) n cap) xs.zipIdx) (i : Nat) (hi : i < xs.length) {v2 : Value} (hc2 : W.cell? ⟨g, i * 4 + 2, none⟩ = some v2) {P : Nat → Prop} {l2 : List ByteArray}
    (hR : Kd.string.R 9 w1 w0.heap.size P v2 l2) (hk : Kept W w1 (fun k => v2.ownBlock = some k)) :
    (Kd.tag f k44).R 44 w1 w0.heap.size ok (.slice (some ⟨g, 0, none⟩) n cap) (xs.set i ⟨(rd_T44 xs i).f0, (rd_T44 xs i).f1, l2, (rd_T44 xs i).f3⟩).zipIdx := by
  obtain ⟨hn, u2, v3, ⟨h2, h3⟩, ⟨c0, c1, c2, c3⟩, hfr⟩ := topic_cells h i hi; obtain rfl : u2 = v2 := by rw [c2] at hc2; exact Option.some.inj hc2
  have ho2 := fun k hk' => (h2.1 k hk' : (ok k ∧ k ≠ g) ∧ f k = i)
  have hne := own_typesne h2 h3 (by decide); have h3' : k61.R 61 w1 w0.heap.size (fun k => (ok k ∧ k ≠ g) ∧ f k = i) v3 (rd_T44 xs i).f3 := by
    refine grp_only (Kd.R_step (grp_only h3 (ok' := fun k => v3.ownBlock = some k) (fun k hk' => hk')) (fun k hk' hlt => hk.2 k hlt (fun e_ => hne k e_ hk'))) (fun k hk' => h3.1 k hk')
  refine tg_inner h i hi (c := [.string (rd_T44 xs i).f0, .int .i64 (rd_T44 xs i).f1, u2, v3]) rfl (cells4 c0 c1 c2 c3) (fun k hlt hok hor => hk.2 k hlt (fun e_ => ?_)) (k44_mkM _ _ _ (⟨(rd_T44 xs i).f0, (rd_T44 xs i).f1, l2, (rd_T44 xs i).f3⟩ : S44) (str_only hR (fun k hk' => ho2 k hk')) h3'); have := ho2 k e_
  rcases hor with h | h
  · exact h this.2
  · exact this.1.2 h
theorem topic_in3 {f : Nat → Nat} {W w1 w0 : World} {ok : Nat → Prop} {g n cap : Nat} {xs : List S44} (h : (Kd.tag f k44).R 44 W w0.heap.size ok (.slice (some ⟨g, 0, none⟩) n cap) xs.zipIdx) (i : Nat) (hi : i < xs.length) {v3 : Value} (hc3 : W.cell? ⟨g, i * 4 + 3, none⟩ = some v3) {P : Nat → Prop} {l3 : List S61}
    (hR : k61.R 61 w1 w0.heap.size P v3 l3) (hk : Kept W w1 (fun k => v3.ownBlock = some k)) :
    (Kd.tag f k44).R 44 w1 w0.heap.size ok (.slice (some ⟨g, 0, none⟩) n cap) (xs.set i ⟨(rd_T44 xs i).f0, (rd_T44 xs i).f1, (rd_T44 xs i).f2, l3⟩).zipIdx := by
  obtain ⟨hn, v2, u3, ⟨h2, h3⟩, ⟨c0, c1, c2, c3⟩, hfr⟩ := topic_cells h i hi; obtain rfl : u3 = v3 := by rw [c3] at hc3; exact Option.some.inj hc3
  have ho3 := fun k hk' => (h3.1 k hk' : (ok k ∧ k ≠ g) ∧ f k = i)
  have hne := own_typesne h2 h3 (by decide); have h2' : Kd.string.R 9 w1 w0.heap.size (fun k => (ok k ∧ k ≠ g) ∧ f k = i) v2 (rd_T44 xs i).f2 := by
    refine str_only (Kd.R_step (str_only h2 (ok' := fun k => v2.ownBlock = some k) (fun k hk' => hk')) (fun k hk' hlt => hk.2 k hlt (fun e_ => hne k hk' e_))) (fun k hk' => h2.1 k hk')
  refine tg_inner h i hi (c := [.string (rd_T44 xs i).f0, .int .i64 (rd_T44 xs i).f1, v2, u3]) rfl (cells4 c0 c1 c2 c3) (fun k hlt hok hor => hk.2 k hlt (fun e_ => ?_)) (k44_mkM _ _ _ (⟨(rd_T44 xs i).f0, (rd_T44 xs i).f1, (rd_T44 xs i).f2, l3⟩ : S44) h2' (grp_only hR (fun k hk' => ho3 k hk'))); have := ho3 k e_
  rcases hor with h | h
  · exact h this.2
  · exact this.1.2 h
/-- A topic's own cells and its texts have been written. -/
theorem topic_w2 {f : Nat → Nat} {W w4 w0 : World} {ok : Nat → Prop} {g n cap : Nat} {l : List S44} (h : (Kd.tag f k44).R 44 W w0.heap.size ok (.slice (some ⟨g, 0, none⟩) n cap) l.zipIdx) (j : Nat) (hj : j < l.length) {v2 : Value} (hc2 : W.cell? ⟨g, j * 4 + 2, none⟩ = some v2) (t : ByteArray) (b : Int) {P : Nat → Prop} {p2 : List ByteArray}
    (hR : Kd.string.R 9 w4 w0.heap.size P v2 p2) (hk : Kept ((W.setCell ⟨g, j * 4, none⟩ (.string t)).setCell ⟨g, j * 4 + 1, none⟩ (.int .i64 b)) w4 (fun k => v2.ownBlock = some k)) :
    (Kd.tag f k44).R 44 w4 w0.heap.size ok (.slice (some ⟨g, 0, none⟩) n cap) (l.set j ⟨t, b, p2, (rd_T44 l j).f3⟩).zipIdx := by
  have T0 := topic_put0 h j hj t; have hj1 : j < (l.set j ⟨t, (rd_T44 l j).f1, (rd_T44 l j).f2, (rd_T44 l j).f3⟩).length := by rw [List.length_set]; exact hj
  have T1 := topic_put1 T0 j hj1 b; rw [rd_set hj, List.set_set] at T1; have hj2 : j < (l.set j ⟨t, b, (rd_T44 l j).f2, (rd_T44 l j).f3⟩).length := by rw [List.length_set]; exact hj
  have T2 := topic_in2 T1 j hj2 (v2 := v2) ((World.cell?_setCell_other _ _ _ _ (by simp)).trans ((World.cell?_setCell_other _ _ _ _ (by simp)).trans hc2)) hR hk; rw [rd_set hj, List.set_set] at T2; exact T2
set_option maxHeartbeats 4000000 in
set_option maxRecDepth 100000 in
theorem laws_markTopicS.calls (k : Nat) (P0_ : Nat → Prop) (u9000_ : Value) (l0 : List S44) (a1 : Int) (r1 : Int) (r2 : List S44) (w0 w : World) (hB : Below w0.heap.size w0 w) (ho0 : Kd.S k44 44 w w0.heap.size P0_ u9000_ l0) (h : laws_markTopicS.f k l0 a1 = some (r1, r2)) :
    Calls Try.prog 38 #[u9000_, .int .i64 a1] w fun e w' => e = .returned (.int .i64 r1) ∧ Kd.S k44 44 w' w0.heap.size (fun k_ => (P0_ k_ ∨ w.heap.size ≤ k_)) u9000_ r2 ∧ Below w0.heap.size w0 w' ∧ Kept w w' (fun k_ => P0_ k_) := by
  obtain ⟨A, c, rfl⟩ := Kd.S_slice ho0; obtain ⟨f, hT⟩ := ho0; have HT := Aside0.mk hT; have HB := Aside0.mk hB; have HK := Aside0.mk (Kept.refl w (fun k_ => P0_ k_)); have HF := Aside0.mk (show laws_markTopicS.l0 k l0 a1 0 = some (r1, r2) from h); clear hT hB h; go_enter Try.func38, Try.ntmps38
  go_wp2
  go_loopg [1, 5] k (fun kq v1 v5 w' => ∃ (m i : Int) (l : List S44), v1 = .int .i64 m ∧ v5 = .int .i64 i ∧ Aside0 (laws_markTopicS.l0 kq l m i = some (r1, r2)) ∧ Aside0 ((Kd.tag f k44).R 44 w' w0.heap.size P0_ (.slice A l0.length c) l.zipIdx) ∧ Aside0 (Below w0.heap.size w0 w') ∧ Aside0 (Kept w w' (fun k_ => P0_ k_)))
  case atStart => exact ⟨a1, 0, l0, rfl, rfl, HF, HT, HB, HK⟩
  case round =>
    obtain ⟨m, i, l, rfl, rfl, HF, HT, HB, HK⟩ := hrel; have hlen := Aside0.mk (show l0.length = l.length by have := (Kd.R_reads' HT.out).1; simpa using this)
    cases gk with
    | zero => exact absurd HF.out (by simp [laws_markTopicS.l0])
    | succ gk =>
    by_cases hlt : i < (l.length : Int)
    · by_cases h0 : 0 ≤ i
      rotate_left
      · exact absurd HF.out (by rw [laws_markTopicS.l0, if_pos hlt, if_neg h0]; simp)
      obtain ⟨j, rfl⟩ : ∃ j : Nat, i = (j : Int) := ⟨i.toNat, by omega⟩; have hj : j < l.length := by omega
      obtain ⟨t, p, q, h1, h2, h3, h4⟩ : ∃ t p q, laws_markText.f gk m = some t ∧ laws_markStringS.f gk (rd_T44 l (j : Int)).f2 (wrap64 (wrap64 (m + 1) + 1)) = some p ∧ laws_markGroupS.f gk (rd_T44 l (j : Int)).f3 p.1 = some q ∧ laws_markTopicS.l0 gk (l.set j ⟨t, wrap64 (m + 1), p.2, q.2⟩) q.1 (wrap64 ((j : Int) + 1)) = some (r1, r2) := by
        have e := HF.out; rw [laws_markTopicS.l0, if_pos hlt, if_pos h0] at e; obtain ⟨t, h1, e⟩ := oM e; obtain ⟨p, h2, e⟩ := oM e; obtain ⟨q, h3, e⟩ := oM e; rw [Int.toNat_natCast] at e; exact ⟨t, p, q, h1, h2, h3, e⟩
      obtain ⟨p1, p2⟩ := p; obtain ⟨q1, q2⟩ := q; obtain ⟨g, cap, e, hbg, hgw, _⟩ := Kd.R_form HT.out (by simp; omega)
      injection e with e1 e2 e3
      subst e1; subst e3; clear e2; have HG := Aside0.mk (HT.out.1 g rfl); have HBG := Aside0.mk hbg; have H1 := Aside0.mk h1; have H2 := Aside0.mk h2; have H3 := Aside0.mk h3; have HF2 := Aside0.mk h4; have HJ := Aside0.mk hj; have d0 : (0 : Int) ≤ (j : Int) := by omega
      have d1 : (j : Int) < (l0.length : Int) := by have := hlen.out; omega
      have d1n : j < l0.length := by have := hlen.out; omega
      have d2 : decide ((j : Int) < (l0.length : Int)) = true := dY d1; have d2n : decide (j < l0.length) = true := dY d1n; clear hlt h0 hj h1 h2 h3 h4 hbg hgw HF; go_wp2_with (first
        | (go_at_call 64; (with_reducible refine (laws_markText.calls gk m t _ H1.out).mono ?_); rintro e w1 ⟨rfl, hb⟩; have HB1 := Aside0.mk (below_step HB.out hb); have HT1 := Aside0.mk (Kd.R_below HT.out hb); have HK1 := Aside0.mk (Kept.below HK.out hb); obtain ⟨hn, v2, v3, ⟨hv2, hv3⟩, ⟨c0, c1, c2, c3⟩, hfr⟩ := topic_cells HT1.out j HJ.out; have z0 : w1.frozen? ⟨g, j * 4, none⟩ = false := hfr 0; have z1 : w1.frozen? ⟨g, j * 4 + 1, none⟩ = false := hfr 1; have HV2 := Aside0.mk hv2; have HC2 := Aside0.mk c2; clear hv2 hv3 hn hb hfr)
        | (go_at_call 65; (with_reducible refine (laws_markStringS.calls gk (fun k_ => v2.ownBlock = some k_) v2 (rd_T44 l (j : Int)).f2 _ p1 p2 w0 _ ?s1 ?s2 H2.out).mono ?_); (case s1 => exact below_set (below_set HB1.out HBG.out) HBG.out); (case s2 => exact str_only (Kd.R_far (p := ⟨g, j * 4 + 1, none⟩) (Kd.R_far (p := ⟨g, j * 4, none⟩) HV2.out (fun k hk => hk.1.2) _) (fun k hk => hk.1.2) _) (fun k hk => hk)); rintro e w4 ⟨rfl, ho, hb, hk⟩; have HB4 := Aside0.mk hb; have HT4 := Aside0.mk (topic_w2 HT1.out j HJ.out HC2.out t _ ho hk); have HK4 := Aside0.mk (Kept.then_ (Kept.setCell (Kept.setCell HK1.out (p := ⟨g, j * 4, none⟩) (.inl HG.out) _) (p := ⟨g, j * 4 + 1, none⟩) (.inl HG.out) _) hk (fun k hk' => .inl (HV2.out.1 k hk').1.1)); have HJ4 := Aside0.mk ((by rw [List.length_set]; exact HJ.out) : j < (l.set j ⟨t, wrap64 (m + 1), p2, (rd_T44 l (j : Int)).f3⟩).length); clear ho hb hk; obtain ⟨hn, u2, u3, ⟨hv2, hv3⟩, ⟨e0, e1, e2, e3⟩, hfr⟩ := topic_cells HT4.out j HJ4.out; rw [rd_set HJ.out] at hv3; have HV3 := Aside0.mk hv3; have HC3 := Aside0.mk e3; clear hv2 hv3 hn hfr e0 e1 e2)
        | (go_at_call 66; (with_reducible refine (laws_markGroupS.calls gk (fun k_ => u3.ownBlock = some k_) u3 (rd_T44 l (j : Int)).f3 _ q1 q2 w0 _ ?s1 ?s2 H3.out).mono ?_); (case s1 => exact HB4.out); (case s2 => exact grp_only HV3.out (fun k hk => hk)); rintro e w5 ⟨rfl, ho, hb, hk⟩; have HB5 := Aside0.mk hb; have HK5 := Aside0.mk (Kept.then_ HK4.out hk (fun k hk' => .inl (HV3.out.1 k hk').1.1)); have hT5 := topic_in3 HT4.out j HJ4.out HC3.out ho hk; rw [rd_set HJ.out, List.set_set] at hT5; have HT5 := Aside0.mk hT5; clear hT5 ho hb hk))
      go_roundg gk
      case measure => omega
      case rel => exact ⟨q1, _, _, rfl, rfl, HF2, HT5, HB5, HK5⟩
    · have e : some (m, l) = some (r1, r2) := by have e := HF.out; rw [laws_markTopicS.l0, if_neg hlt] at e; exact e
      have E := Aside0.mk e; have d1 : decide (i < (l0.length : Int)) = false := dN (by have := hlen.out; omega); clear hlt e HF; go_wp2
      go_ret
      obtain ⟨rfl, rfl⟩ : m = r1 ∧ l = r2 := by simpa using E.out
      exact ⟨rfl, ⟨f, Kd.R_mono HT.out (fun _ hk => .inl hk)⟩, HB.out, HK.out⟩


/-! ### laws_markReplyS: function 39 -/

def laws_markReplyS.l0 : Nat → List (S48) → Int → Int → Option (Int × (List (S48)))
  | 0, _, _, _ => none
  | k + 1, x0, x1, x5 => if x5 < (x0.length : Int) then (if 0 ≤ x5 then ((some (x0.set (x5 : Int).toNat (⟨x1, (rd_T48 x0 x5).f1, (rd_T48 x0 x5).f2⟩ : S48) : List (S48))).bind fun y101 => ((some (y101.set (x5 : Int).toNat (⟨(rd_T48 y101 x5).f0, wrap64 (x1 + 1), (rd_T48 y101 x5).f2⟩ : S48) : List (S48))).bind fun y102 => ((laws_markText.f k (wrap64 ((wrap64 (x1 + 1)) + 1))).bind fun t103 => (laws_markReplyS.l0 k (y102.set (x5 : Int).toNat (⟨(rd_T48 y102 x5).f0, (rd_T48 y102 x5).f1, t103⟩ : S48)) (wrap64 ((wrap64 ((wrap64 (x1 + 1)) + 1)) + 1)) (wrap64 (x5 + 1)))))) else (none)) else (some (x1, x0))
def laws_markReplyS.f (k : Nat) (l0 : List (S48)) (a1 : Int) : Option (Int × (List (S48))) := laws_markReplyS.l0 k l0 a1 0
theorem laws_markReplyS.mono_l : ∀ k, (∀ y0 y1 y2, LeO (laws_markReplyS.l0 k y0 y1 y2) (laws_markReplyS.l0 (k + 1) y0 y1 y2))
  | 0 => fun _ _ _ r h => by simp [laws_markReplyS.l0] at h
  | k + 1 => by
    have ih0 := laws_markReplyS.mono_l k
    · intro y0 y1 y2
      unfold laws_markReplyS.l0
      repeat' first | (with_reducible first | exact ih0 _ _ _ | exact laws_markText.mono _ _ | exact oR _ | exact oN _ | refine oI ?_ ?_ | refine oB ?_ fun _ => ?_) | exact ih0 _ _ _ | exact laws_markText.mono _ _ | exact oN _ | refine oI ?_ ?_ | refine oB ?_ fun _ => ?_
theorem laws_markReplyS.mono : ∀ a0 a1 k, LeO (laws_markReplyS.f k a0 a1) (laws_markReplyS.f (k + 1) a0 a1) := by
  intro a0 a1 k; have ih0 := laws_markReplyS.mono_l k; unfold laws_markReplyS.f
  repeat' first | (with_reducible first | exact ih0 _ _ _ | exact laws_markText.mono _ _ | exact oR _ | exact oN _ | refine oI ?_ ?_ | refine oB ?_ fun _ => ?_) | exact ih0 _ _ _ | exact laws_markText.mono _ _ | exact oN _ | refine oI ?_ ?_ | refine oB ?_ fun _ => ?_
set_option maxHeartbeats 60000000 in
set_option maxRecDepth 100000 in
theorem laws_markReplyS.calls (k : Nat) (P0_ : Nat → Prop) (u9000_ : Value) (l0 : List (S48)) (a1 : Int) (r1 : Int) (r2 : List (S48)) (w0 w : World) (hB : Below w0.heap.size w0 w) (ho0 : Kd.R k48 48 w w0.heap.size P0_ u9000_ l0) (h : laws_markReplyS.f k l0 a1 = some (r1, r2)) :
    Calls Try.prog 39 #[u9000_, .int .i64 a1] w fun e w' => e = .returned (.int .i64 r1) ∧ Kd.R k48 48 w' w0.heap.size (fun k_ => (P0_ k_ ∨ w.heap.size ≤ k_)) u9000_ r2 ∧ Below w0.heap.size w0 w' ∧ Kept w w' (fun k_ => P0_ k_) := by
 have HO0 := AM (show Kd.R k48 48 w w0.heap.size (fun k_ => (P0_ k_ ∨ w.heap.size ≤ k_)) u9000_ l0 from Kd.R_mono ho0 (fun k_ hk => (.inl hk))); have HK := AM (Kept.refl w (fun k_ => P0_ k_)); have HW0 := AM hB.size; have HB := AM hB; clear hB; have H : (laws_markReplyS.l0 k l0 a1 0) = some (r1, r2) := h; clear h; have H' := AM H; clear H; go_enter Try.func39, Try.ntmps39
 go_wp2
 go_loopg [1, 5] k (fun kq v1 v5 w' => ∃ (x0_1 : List (S48)) (x1_1 : Int) (x5_1 : Int), v1 = .int .i64 x1_1 ∧ v5 = .int .i64 x5_1 ∧ Aside0 (laws_markReplyS.l0 kq x0_1 x1_1 x5_1 = some (r1, r2)) ∧ Aside0 (kq ≤ k) ∧ Aside0 (Kd.R k48 48 w' w0.heap.size (fun k_ => (P0_ k_ ∨ w.heap.size ≤ k_)) u9000_ x0_1) ∧ Aside0 (Kept w w' (fun k_ => P0_ k_)) ∧ Aside0 (Below w0.heap.size w0 w'))
 case atStart => exact ⟨(l0), (a1), (0), (by first | rfl | (simp; done) | (simp [*]; done)), (by first | rfl | (simp; done) | (simp [*]; done)), H', ⟨Nat.le_refl _⟩, ⟨rX HO0.out⟩, ⟨tX HK.out⟩, ⟨bX HB.out⟩⟩
 case round =>
  clear H'; try clear p2
  obtain ⟨x0_1, x1_1, x5_1, rfl, rfl, HA, HK1, HO_0, HK, HB⟩ := hrel
  cases gk with
  | zero => exact absurd HA.out (by simp [laws_markReplyS.l0])
  | succ k1 =>
   have H := HA.out; clear HA; simp only [laws_markReplyS.l0] at H
   by_cases c3 : x5_1 < (x0_1.length : Int)
   ·
    rw [if_pos c3] at H; have c3b0 := dY c3; clear c3; by_cases c4 : 0 ≤ x5_1
    ·
     rw [if_pos c4] at H; have c4b0 := dY c4; clear c4; obtain ⟨y101, hy101⟩ : ∃ y_ : List (S48), y_ = (x0_1.set (x5_1 : Int).toNat (⟨x1_1, (rd_T48 x0_1 x5_1).f1, (rd_T48 x0_1 x5_1).f2⟩ : S48)) := ⟨_, rfl⟩; replace H : ((some (y101.set (x5_1 : Int).toNat (⟨(rd_T48 y101 x5_1).f0, wrap64 (x1_1 + 1), (rd_T48 y101 x5_1).f2⟩ : S48) : List (S48))).bind fun y102 => ((laws_markText.f k1 (wrap64 ((wrap64 (x1_1 + 1)) + 1))).bind fun t103 => (laws_markReplyS.l0 k1 (y102.set (x5_1 : Int).toNat (⟨(rd_T48 y102 x5_1).f0, (rd_T48 y102 x5_1).f1, t103⟩ : S48)) (wrap64 ((wrap64 ((wrap64 (x1_1 + 1)) + 1)) + 1)) (wrap64 (x5_1 + 1))))) = some (r1, r2) := by first | (rw [hy101]; with_reducible exact H) | (have H2_ := (Option.bind_some _ _).symm.trans H; rw [hy101]; with_reducible exact H2_) | (have H2_ := (Option.bind_some _ _).symm.trans H; with_reducible exact H2_) | with_reducible exact H | (rw [hy101]; exact H) | exact H
     have Ny101 := AM hy101; clear hy101; obtain ⟨y102, hy102⟩ : ∃ y_ : List (S48), y_ = (y101.set (x5_1 : Int).toNat (⟨(rd_T48 y101 x5_1).f0, wrap64 (x1_1 + 1), (rd_T48 y101 x5_1).f2⟩ : S48)) := ⟨_, rfl⟩; replace H : ((laws_markText.f k1 (wrap64 ((wrap64 (x1_1 + 1)) + 1))).bind fun t103 => (laws_markReplyS.l0 k1 (y102.set (x5_1 : Int).toNat (⟨(rd_T48 y102 x5_1).f0, (rd_T48 y102 x5_1).f1, t103⟩ : S48)) (wrap64 ((wrap64 ((wrap64 (x1_1 + 1)) + 1)) + 1)) (wrap64 (x5_1 + 1)))) = some (r1, r2) := by first | (rw [hy102]; with_reducible exact H) | (have H2_ := (Option.bind_some _ _).symm.trans H; rw [hy102]; with_reducible exact H2_) | (have H2_ := (Option.bind_some _ _).symm.trans H; with_reducible exact H2_) | with_reducible exact H | (rw [hy102]; exact H) | exact H
     have Ny102 := AM hy102; clear hy102; replace H := oM H; obtain ⟨t103, A70, H⟩ := H; have A7 := AM A70; clear A70; obtain ⟨y104, hy104⟩ : ∃ y_ : List (S48), y_ = (y102.set (x5_1 : Int).toNat (⟨(rd_T48 y102 x5_1).f0, (rd_T48 y102 x5_1).f1, t103⟩ : S48)) := ⟨_, rfl⟩; replace H : (laws_markReplyS.l0 k1 y104 (wrap64 ((wrap64 ((wrap64 (x1_1 + 1)) + 1)) + 1)) (wrap64 (x5_1 + 1))) = some (r1, r2) := by first | (rw [hy104]; with_reducible exact H) | (have H2_ := (Option.bind_some _ _).symm.trans H; rw [hy104]; with_reducible exact H2_) | (have H2_ := (Option.bind_some _ _).symm.trans H; with_reducible exact H2_) | with_reducible exact H | (rw [hy104]; exact H) | exact H
     have Ny104 := AM hy104; clear hy104; have H' := AM H; clear H; obtain ⟨Ao9, co9, eo9⟩ := Kd.R_slice HO_0.out; subst eo9; have p5 : 0 ≤ (x5_1 : Int) := oD ‹_›; have q5 : (x5_1 : Int) < ((x0_1.length : Int) : Int) := oD ‹_›; obtain ⟨go5, co5, eo5, gb5, gl5, cl5, HG5⟩ := Kd.R_form HO_0.out (by omega)
     (first | cases eo5 | (injection eo5 with ea_ en_ ec_; (first | subst ea_ | (injection ea_ with ea_; subst ea_)); subst ec_; clear en_))
     have GB5 := AM gb5; have GG5 := AM HG5; clear gb5 gl5 HG5; have HMgo5 := AM (show (P0_ go5 ∨ w.heap.size ≤ go5) from (HO_0.out.1 _ rfl)); obtain ⟨ce5, hcl5, hM5, hcc5, hfr5⟩ := Kd.R_elem HO_0.out z48 (x5_1 : Int) p5 q5; obtain rfl := k48_openM hM5; have hx5_0 : wr.cell? ⟨go5, (x5_1 : Int).toNat * 3, none⟩ = some (.int .i64 ((rd_T48 x0_1 x5_1).f0)) := hcc5 0 _ rfl; have hx5_1 : wr.cell? ⟨go5, (x5_1 : Int).toNat * 3 + 1, none⟩ = some (.int .i64 ((rd_T48 x0_1 x5_1).f1)) := hcc5 1 _ rfl; have hx5_2 : wr.cell? ⟨go5, (x5_1 : Int).toNat * 3 + 2, none⟩ = some (.string ((rd_T48 x0_1 x5_1).f2)) := hcc5 2 _ rfl; have hf5_0 : wr.frozen? ⟨go5, (x5_1 : Int).toNat * 3, none⟩ = false := hfr5 0; have hf5_1 : wr.frozen? ⟨go5, (x5_1 : Int).toNat * 3 + 1, none⟩ = false := hfr5 1; have hf5_2 : wr.frozen? ⟨go5, (x5_1 : Int).toNat * 3 + 2, none⟩ = false := hfr5 2; clear hcl5 hcc5 hfr5 hM5; replace p5 := eq_true p5; replace q5 := eq_true q5; have HX10 := AM (show Kd.R k48 48 wr w0.heap.size (fun k_ => (P0_ k_ ∨ w.heap.size ≤ k_)) (.slice (some ⟨go5, 0, none⟩) x0_1.length co9) x0_1 from (rX HO_0.out)); obtain ⟨ce10, hcl10, hM10, hcc10, hfr10⟩ := Kd.R_elem HX10.out z48 (x5_1 : Int) (oD ‹_›) (by have h_ : (x5_1 : Int) < ((x0_1.length : Int) : Int) := oD ‹_›; first | exact h_ | (have e_ := (Kd.R_reads' HO_0.out).1; omega) | simpa using h_); obtain rfl := k48_openM hM10; have HP10 := Kd.R_seg HX10.out (x5_1 : Int) (oD ‹_›) (by have h_ : (x5_1 : Int) < ((x0_1.length : Int) : Int) := oD ‹_›; first | exact h_ | (have e_ := (Kd.R_reads' HO_0.out).1; omega) | simpa using h_) (seg := [.int .i64 x1_1]) (j := 0) hcl10 hcc10 (show 1 ≤ 3 from by decide) (x' := (⟨x1_1, (rd_T48 x0_1 x5_1).f1, (rd_T48 x0_1 x5_1).f2⟩ : S48)) (k48_mkM _ _ _ (⟨x1_1, (rd_T48 x0_1 x5_1).f1, (rd_T48 x0_1 x5_1).f2⟩ : S48) ) (fun _ hk => hk); have hx10_0 := hcc10 0 _ rfl; (try simp only [show (k48).sz = 3 from rfl, Nat.mul_one, Nat.add_zero] at hx10_0); have hf10_0 := hfr10 0; (try simp only [show (k48).sz = 3 from rfl, Nat.mul_one, Nat.add_zero] at hf10_0); clear hcl10 hcc10 hfr10 hM10
     go_wp2_with (first | ((with_reducible refine gate_store (t := 2) (p := 16) rfl ?_); refine store_event (t := 2) (p := 16) (v := ?vo_w11) (w1 := (wr.setCell ⟨go5, (x5_1 : Int).toNat * 3, none⟩ (.int .i64 x1_1))) ?hg ?ho ?hn ?hr ?_; (case ho => rfl); (case hg => rfl); (case hn => rfl); (case hr => first | (go_simp; done) | (go_simp; rfl)); intro w11 hw; have hg : wr.grownBy w11 (some go5) := (by rw [hw]; exact HP10.2); have hp_ : Kd.R k48 48 w11 w0.heap.size (fun k_ => (P0_ k_ ∨ w.heap.size ≤ k_)) (.slice (some ⟨go5, 0, none⟩) x0_1.length co9) y101 := (by rw [hw, Ny101.out]; exact HP10.1); clear HP10; have _ := AM (hp_); have _ := AM ((by rw [hw]; exact bS (HB.out) GB5.out : Below w0.heap.size w0 w11)); have _ := AM (Kept.of_grown (S := (fun k_ => P0_ k_)) hg (tX HK.out) (fun k_ e_ => (HO_0.out.1 k_ e_))); clear HO_0 HB HK; rename_i HO_0 HB HK; clear hg hw hp_; have p6 : 0 ≤ (x5_1 : Int) := oD ‹_›; have q6 : (x5_1 : Int) < ((x0_1.length : Int) : Int) := oD ‹_›; obtain ⟨ce6, hcl6, hM6, hcc6, hfr6⟩ := Kd.R_elem HO_0.out z48 (x5_1 : Int) p6 q6; obtain rfl := k48_openM hM6; have hx6_0 : w11.cell? ⟨go5, (x5_1 : Int).toNat * 3, none⟩ = some (.int .i64 ((rd_T48 y101 x5_1).f0)) := hcc6 0 _ rfl; have hx6_1 : w11.cell? ⟨go5, (x5_1 : Int).toNat * 3 + 1, none⟩ = some (.int .i64 ((rd_T48 y101 x5_1).f1)) := hcc6 1 _ rfl; have hx6_2 : w11.cell? ⟨go5, (x5_1 : Int).toNat * 3 + 2, none⟩ = some (.string ((rd_T48 y101 x5_1).f2)) := hcc6 2 _ rfl; have hf6_0 : w11.frozen? ⟨go5, (x5_1 : Int).toNat * 3, none⟩ = false := hfr6 0; have hf6_1 : w11.frozen? ⟨go5, (x5_1 : Int).toNat * 3 + 1, none⟩ = false := hfr6 1; have hf6_2 : w11.frozen? ⟨go5, (x5_1 : Int).toNat * 3 + 2, none⟩ = false := hfr6 2; clear hcl6 hcc6 hfr6 hM6; replace p6 := eq_true p6; replace q6 := eq_true q6; have HX12 := AM (show Kd.R k48 48 w11 w0.heap.size (fun k_ => (P0_ k_ ∨ w.heap.size ≤ k_)) (.slice (some ⟨go5, 0, none⟩) x0_1.length co9) y101 from (rX HO_0.out)); obtain ⟨ce12, hcl12, hM12, hcc12, hfr12⟩ := Kd.R_elem HX12.out z48 (x5_1 : Int) (oD ‹_›) (by have h_ : (x5_1 : Int) < ((x0_1.length : Int) : Int) := oD ‹_›; first | exact h_ | (have e_ := (Kd.R_reads' HO_0.out).1; omega) | simpa using h_); obtain rfl := k48_openM hM12; have HP12 := Kd.R_seg HX12.out (x5_1 : Int) (oD ‹_›) (by have h_ : (x5_1 : Int) < ((x0_1.length : Int) : Int) := oD ‹_›; first | exact h_ | (have e_ := (Kd.R_reads' HO_0.out).1; omega) | simpa using h_) (seg := [.int .i64 (wrap64 (x1_1 + 1))]) (j := 1) hcl12 hcc12 (show 2 ≤ 3 from by decide) (x' := (⟨(rd_T48 y101 x5_1).f0, wrap64 (x1_1 + 1), (rd_T48 y101 x5_1).f2⟩ : S48)) (k48_mkM _ _ _ (⟨(rd_T48 y101 x5_1).f0, wrap64 (x1_1 + 1), (rd_T48 y101 x5_1).f2⟩ : S48) ) (fun _ hk => hk); have hx12_1 := hcc12 1 _ rfl; (try simp only [show (k48).sz = 3 from rfl, Nat.mul_one, Nat.add_zero] at hx12_1); have hf12_1 := hfr12 1; (try simp only [show (k48).sz = 3 from rfl, Nat.mul_one, Nat.add_zero] at hf12_1); clear hcl12 hcc12 hfr12 hM12) | ((with_reducible refine gate_store (t := 2) (p := 23) rfl ?_); refine store_event (t := 2) (p := 23) (v := ?vo_w13) (w1 := (w11.setCell ⟨go5, (x5_1 : Int).toNat * 3 + 1, none⟩ (.int .i64 (wrap64 (x1_1 + 1))))) ?hg ?ho ?hn ?hr ?_; (case ho => rfl); (case hg => rfl); (case hn => rfl); (case hr => first | (go_simp; done) | (go_simp; rfl)); intro w13 hw; have hg : w11.grownBy w13 (some go5) := (by rw [hw]; exact HP12.2); have hp_ : Kd.R k48 48 w13 w0.heap.size (fun k_ => (P0_ k_ ∨ w.heap.size ≤ k_)) (.slice (some ⟨go5, 0, none⟩) x0_1.length co9) y102 := (by rw [hw, Ny102.out]; exact HP12.1); clear HP12; have _ := AM (hp_); have _ := AM ((by rw [hw]; exact bS (HB.out) GB5.out : Below w0.heap.size w0 w13)); have _ := AM (Kept.of_grown (S := (fun k_ => P0_ k_)) hg (tX HK.out) (fun k_ e_ => (HO_0.out.1 k_ e_))); clear HO_0 HB HK; rename_i HO_0 HB HK; clear hg hw hp_) | ((with_reducible refine gate_callee (f := 64) rfl ?_); refine gL (some 29) Try.func64 #[.int .i64 (wrap64 ((wrap64 (x1_1 + 1)) + 1))] ?_; (with_reducible refine (laws_markText.calls k1 (wrap64 ((wrap64 (x1_1 + 1)) + 1)) t103 _ A7.out).mono ?_); rintro e w14 ⟨rfl, hb⟩; refine ⟨_, rfl, ?_⟩; have _ := AM (Kd.R_below (rX HO_0.out) hb); have _ := AM (Kept.below (S := (fun k_ => P0_ k_)) (tX HK.out) hb); have _ := AM (below_step (bX HB.out) hb); clear HO_0 HK HB; rename_i HO_0 HK HB; (try clear hb); (try clear hk); have p8 : 0 ≤ (x5_1 : Int) := oD ‹_›; have q8 : (x5_1 : Int) < ((x0_1.length : Int) : Int) := oD ‹_›; obtain ⟨ce8, hcl8, hM8, hcc8, hfr8⟩ := Kd.R_elem HO_0.out z48 (x5_1 : Int) p8 q8; obtain rfl := k48_openM hM8; have hx8_0 : w14.cell? ⟨go5, (x5_1 : Int).toNat * 3, none⟩ = some (.int .i64 ((rd_T48 y102 x5_1).f0)) := hcc8 0 _ rfl; have hx8_1 : w14.cell? ⟨go5, (x5_1 : Int).toNat * 3 + 1, none⟩ = some (.int .i64 ((rd_T48 y102 x5_1).f1)) := hcc8 1 _ rfl; have hx8_2 : w14.cell? ⟨go5, (x5_1 : Int).toNat * 3 + 2, none⟩ = some (.string ((rd_T48 y102 x5_1).f2)) := hcc8 2 _ rfl; have hf8_0 : w14.frozen? ⟨go5, (x5_1 : Int).toNat * 3, none⟩ = false := hfr8 0; have hf8_1 : w14.frozen? ⟨go5, (x5_1 : Int).toNat * 3 + 1, none⟩ = false := hfr8 1; have hf8_2 : w14.frozen? ⟨go5, (x5_1 : Int).toNat * 3 + 2, none⟩ = false := hfr8 2; clear hcl8 hcc8 hfr8 hM8; replace p8 := eq_true p8; replace q8 := eq_true q8; have HX15 := AM (show Kd.R k48 48 w14 w0.heap.size (fun k_ => (P0_ k_ ∨ w.heap.size ≤ k_)) (.slice (some ⟨go5, 0, none⟩) x0_1.length co9) y102 from (rX HO_0.out)); obtain ⟨ce15, hcl15, hM15, hcc15, hfr15⟩ := Kd.R_elem HX15.out z48 (x5_1 : Int) (oD ‹_›) (by have h_ : (x5_1 : Int) < ((x0_1.length : Int) : Int) := oD ‹_›; first | exact h_ | (have e_ := (Kd.R_reads' HO_0.out).1; omega) | simpa using h_); obtain rfl := k48_openM hM15; have HP15 := Kd.R_seg HX15.out (x5_1 : Int) (oD ‹_›) (by have h_ : (x5_1 : Int) < ((x0_1.length : Int) : Int) := oD ‹_›; first | exact h_ | (have e_ := (Kd.R_reads' HO_0.out).1; omega) | simpa using h_) (seg := [.string t103]) (j := 2) hcl15 hcc15 (show 3 ≤ 3 from by decide) (x' := (⟨(rd_T48 y102 x5_1).f0, (rd_T48 y102 x5_1).f1, t103⟩ : S48)) (k48_mkM _ _ _ (⟨(rd_T48 y102 x5_1).f0, (rd_T48 y102 x5_1).f1, t103⟩ : S48) ) (fun _ hk => hk); have hx15_2 := hcc15 2 _ rfl; (try simp only [show (k48).sz = 3 from rfl, Nat.mul_one, Nat.add_zero] at hx15_2); have hf15_2 := hfr15 2; (try simp only [show (k48).sz = 3 from rfl, Nat.mul_one, Nat.add_zero] at hf15_2); clear hcl15 hcc15 hfr15 hM15) | ((with_reducible refine gate_store (t := 9) (p := 31) rfl ?_); refine store_event (t := 9) (p := 31) (v := ?vo_w16) (w1 := (w14.setCell ⟨go5, (x5_1 : Int).toNat * 3 + 2, none⟩ (.string t103))) ?hg ?ho ?hn ?hr ?_; (case ho => rfl); (case hg => rfl); (case hn => rfl); (case hr => first | (go_simp; done) | (go_simp; rfl)); intro w16 hw; have hg : w14.grownBy w16 (some go5) := (by rw [hw]; exact HP15.2); have hp_ : Kd.R k48 48 w16 w0.heap.size (fun k_ => (P0_ k_ ∨ w.heap.size ≤ k_)) (.slice (some ⟨go5, 0, none⟩) x0_1.length co9) y104 := (by rw [hw, Ny104.out]; exact HP15.1); clear HP15; have _ := AM (hp_); have _ := AM ((by rw [hw]; exact bS (HB.out) GB5.out : Below w0.heap.size w0 w16)); have _ := AM (Kept.of_grown (S := (fun k_ => P0_ k_)) hg (tX HK.out) (fun k_ e_ => (HO_0.out.1 k_ e_))); clear HO_0 HB HK; rename_i HO_0 HB HK; clear hg hw hp_))
     go_roundg k1
     case measure => have := HK1.out; omega
     case rel => exact ⟨(y104), (wrap64 ((wrap64 ((wrap64 (x1_1 + 1)) + 1)) + 1)), (wrap64 (x5_1 + 1)), (by first | rfl | (simp; done) | (simp [*]; done)), (by first | rfl | (simp; done) | (simp [*]; done)), H', ⟨by have := HK1.out; omega⟩, ⟨rX HO_0.out⟩, ⟨tX HK.out⟩, ⟨bX HB.out⟩⟩
    rw [if_neg c4] at H; exact absurd H (by simp)
   rw [if_neg c3] at H; have c3b0 := dN c3; clear c3; simp only [Option.some.injEq, Prod.mk.injEq] at H
   obtain ⟨rfl, rfl⟩ := H; obtain ⟨Ao17, co17, eo17⟩ := Kd.R_slice HO_0.out; subst eo17; go_wp2
   go_ret
   exact ⟨by first | rfl | (simp [*, errW_none, errW_some] <;> rfl), rX HO_0.out, bX HB.out, tX HK.out⟩

/-! ### laws_markBroker: function 21 (by hand) -/
/-- A row told apart stays where a plain row of another kind is written. -/
theorem S_keptB {α β : Type} {d : Kd α} {d' : Kd β} {e e' base b : Nat} {ok ok' : Nat → Prop} {W W2 : World} {v u : Value} {xs : List α} {ys : List β} (h : Kd.S d e W base ok v xs) (h' : d'.R e' W b ok' u ys) (ht : ∀ q, q ∈ e :: d.E → q ≠ e') (hk : Kept W W2 (fun k => u.ownBlock = some k)) : Kd.S d e W2 base ok v xs :=
  Kd.S_mono (Kd.S_step (Kd.S_bound h) (fun k hk' hlt => hk.2 k hlt (fun e_ => by
    obtain ⟨_, _, _, q, hq, cells, hc⟩ := hk'; obtain ⟨c2, h2⟩ := Kd.R_typed h' k e_; rw [hc] at h2
    injection h2 with h2
    injection h2 with _ h2
    exact ht q hq h2))) (fun _ h => h.1)
theorem rep_only {e : Nat} {w : World} {base : Nat} {ok ok' : Nat → Prop} {v : Value} {xs : List S48} (h : k48.R e w base ok v xs) (hv : ∀ k, v.ownBlock = some k → ok' k) : k48.R e w base ok' v xs := ⟨hv, h.2⟩
theorem brk_apart {W : World} {b1 b2 : Nat} {ok1 ok2 : Nat → Prop} {k : Nat} (h1 : ok1 k ∧ b1 ≤ k ∧ k < W.heap.size ∧ ∃ q, q ∈ 48 :: k48.E ∧ ∃ cells, W.heap[k]? = some (.cells cells q (0, 0))) (h2 : ok2 k ∧ b2 ≤ k ∧ k < W.heap.size ∧ ∃ q, q ∈ 44 :: k44.E ∧ ∃ cells, W.heap[k]? = some (.cells cells q (0, 0))) : False := by
  obtain ⟨_, _, _, q, hq, c, hc⟩ := h1; obtain ⟨_, _, _, q2, hq2, c2, hc2⟩ := h2; rw [hc] at hc2
  injection hc2 with hc2
  injection hc2 with _ hc2
  exact (show ∀ q, q ∈ 48 :: k48.E → ∀ q2, q2 ∈ 44 :: k44.E → q ≠ q2 by decide) q hq q2 hq2 hc2
def laws_markBroker.f (k : Nat) (l0 : List S44) (l1 : List S48) (a1 : Int) : Option (Int × List S44 × List S48) :=
  (laws_markTopicS.f k l0 a1).bind fun p => (laws_markReplyS.f k l1 p.1).bind fun q => some (q.1, p.2, q.2)
theorem laws_markBroker.mono : ∀ a0 a1 a2 k, LeO (laws_markBroker.f k a0 a1 a2) (laws_markBroker.f (k + 1) a0 a1 a2) := by
  intro a0 a1 a2 k; unfold laws_markBroker.f; exact LeO.bind (laws_markTopicS.mono _ _ _) (fun _ => LeO.bind (laws_markReplyS.mono _ _ _) (fun _ => LeO.refl _))
set_option maxHeartbeats 4000000 in
set_option maxRecDepth 100000 in
theorem laws_markBroker.calls (k : Nat) (P0_ P1_ : Nat → Prop) (u0_ u1_ : Value) (l0 : List S44) (l1 : List S48) (a1 : Int) (r1 : Int) (r2 : List S44) (r3 : List S48) (w0 w : World) (hB : Below w0.heap.size w0 w) (ho0 : Kd.S k44 44 w w0.heap.size P0_ u0_ l0) (ho1 : Kd.R k48 48 w w0.heap.size P1_ u1_ l1) (h : laws_markBroker.f k l0 l1 a1 = some (r1, r2, r3)) :
    Calls Try.prog 21 #[.agg #[u0_, u1_], .int .i64 a1] w fun e w' => e = .returned (.int .i64 r1) ∧ Kd.S k44 44 w' w0.heap.size (fun k_ => (P0_ k_ ∨ P1_ k_) ∨ w.heap.size ≤ k_) u0_ r2 ∧ Kd.R k48 48 w' w0.heap.size (fun k_ => (P0_ k_ ∨ P1_ k_) ∨ w.heap.size ≤ k_) u1_ r3 ∧ Below w0.heap.size w0 w' ∧ Kept w w' (fun k_ => P0_ k_ ∨ P1_ k_) := by
  have hu1 := Try.underlying25; obtain ⟨A0, c0, rfl⟩ := Kd.S_slice ho0; obtain ⟨A1, c1, rfl⟩ := Kd.R_slice ho1; unfold laws_markBroker.f at h; obtain ⟨⟨m, p⟩, h1, h⟩ := oM h; obtain ⟨⟨n, q⟩, h2, h⟩ := oM h; obtain ⟨rfl, rfl, rfl⟩ : n = r1 ∧ p = r2 ∧ q = r3 := by simpa using h
  have H1 := AM h1; have H2 := AM h2; have HS := AM (Kd.S_bound ho0); have HR := AM (Kd.R_bound ho1); have HB := AM hB; have HK := AM (Kept.refl w (fun k_ => P0_ k_ ∨ P1_ k_)); clear h h1 h2 ho0 ho1 hB; go_enter Try.func21, Try.ntmps21
  go_wp2_with (first
    | ((with_reducible refine gate_dst (N := 2) rfl ?_); refine bE (cs := #[.slice A0 l0.length c0, .slice A1 l1.length c1]) (t := 25) ?_; intro g2 hg w2 hbox hb; have GE2 := AM ((by rw [hg]; exact Nat.le_refl _) : w.heap.size ≤ g2); have n1_ := AM (below_step HB.out hb); have n2_ := AM (Kd.S_below HS.out hb); have n3_ := AM (Kd.R_below HR.out hb); have n4_ := AM (Kept.below HK.out hb); have B2 := AM hbox; have hz2_0 := (kC hbox 0).trans rfl; have hz2_1 := (kC hbox 1).trans rfl; clear HB HS HR HK hbox hg hb; have HB := n1_; have HS := n2_; have HR := n3_; have HK := n4_; clear n1_ n2_ n3_ n4_)
    | (go_at_call 38; (with_reducible refine (laws_markTopicS.calls k (fun k_ => P0_ k_ ∧ w0.heap.size ≤ k_ ∧ k_ < w.heap.size ∧ ∃ q, q ∈ 44 :: k44.E ∧ ∃ cells, w.heap[k_]? = some (.cells cells q (0, 0))) (.slice A0 l0.length c0) l0 a1 m p w0 _ ?s1 ?s2 H1.out).mono ?_); (case s1 => exact HB.out); (case s2 => exact HS.out); rintro e w3 ⟨rfl, ho, hb, hk⟩; have n1_ := AM hb; have n2_ := AM ((hk.2 g2 (blk_lt B2.out) (fun h_ => absurd h_.2.2.1 (Nat.not_lt.2 GE2.out))).trans B2.out); have n3_ := AM (Kd.R_step HR.out (fun k_ ho_ hlt_ => hk.2 k_ hlt_ (fun h_ => brk_apart ho_ h_))); have n4_ := AM (Kept.then_ HK.out hk (fun k_ h_ => .inl (.inl h_.1))); have n5_ := AM (Kd.S_mono (ok' := fun k_ => P0_ k_ ∨ w.heap.size ≤ k_) ho (fun k_ h_ => h_.elim (fun h_ => .inl h_.1) (fun h_ => .inr (Nat.le_trans GE2.out (Nat.le_trans (Nat.le_of_lt (blk_lt B2.out)) h_))))); clear HB B2 HS HR HK hz2_0 hz2_1 ho hb hk; have HB := n1_; have B2 := n2_; have HR := n3_; have HK := n4_; have HS := n5_; clear n1_ n2_ n3_ n4_ n5_; have hz2_0 := hC B2.out 0; have hz2_1 := hC B2.out 1)
    | (go_at_call 39; (with_reducible refine (laws_markReplyS.calls k (fun k_ => (Value.slice A1 l1.length c1).ownBlock = some k_) (.slice A1 l1.length c1) l1 m n q w0 _ ?s1 ?s2 H2.out).mono ?_); (case s1 => exact HB.out); (case s2 => exact rep_only HR.out (fun _ h_ => h_)); rintro e w4 ⟨rfl, ho, hb, hk⟩; have n1_ := AM hb; have n4_ := AM (Kept.then_ HK.out hk (fun k_ h_ => .inl (.inr (HR.out.1 k_ h_).1))); have n5_ := AM (S_keptB HS.out HR.out (by decide) hk); have n3_ := AM (rep_only ho (ok' := fun k_ => (P0_ k_ ∨ P1_ k_) ∨ w.heap.size ≤ k_) (fun k_ h_ => .inl (.inr (HR.out.1 k_ h_).1))); clear HB B2 HS HR HK hz2_0 hz2_1 ho hb hk; have HB := n1_; have HR := n3_; have HK := n4_; have HS := n5_; clear n1_ n3_ n4_ n5_))
  go_ret
  exact ⟨rfl, Kd.S_mono HS.out (fun k_ h_ => h_.elim (fun h_ => .inl (.inl h_)) .inr), HR.out, HB.out, HK.out⟩


/-! ### laws_heldStringS: function 67 -/

def laws_heldStringS.l0 : Nat → List ByteArray → Int → Int → Option (Int)
  | 0, _, _, _ => none
  | k + 1, x0, x1, x5 => if x5 < (x0.length : Int) then (if 0 ≤ x5 then ((laws_markText.f k x1).bind fun t102 => (if (rdOf ByteArray.empty x0 x5).toList = t102.toList then (laws_heldStringS.l0 k x0 (wrap64 (x1 + 1)) (wrap64 (x5 + 1))) else (some (-1)))) else (none)) else (some x1)
def laws_heldStringS.f (k : Nat) (l0 : List ByteArray) (a1 : Int) : Option (Int) := laws_heldStringS.l0 k l0 a1 0
theorem laws_heldStringS.mono_l : ∀ k, (∀ y0 y1 y2, LeO (laws_heldStringS.l0 k y0 y1 y2) (laws_heldStringS.l0 (k + 1) y0 y1 y2))
  | 0 => fun _ _ _ r h => by simp [laws_heldStringS.l0] at h
  | k + 1 => by
    have ih0 := laws_heldStringS.mono_l k
    · intro y0 y1 y2
      unfold laws_heldStringS.l0
      repeat' first | (with_reducible first | exact ih0 _ _ _ | exact laws_markText.mono _ _ | exact oR _ | exact oN _ | refine oI ?_ ?_ | refine oB ?_ fun _ => ?_) | exact ih0 _ _ _ | exact laws_markText.mono _ _ | exact oN _ | refine oI ?_ ?_ | refine oB ?_ fun _ => ?_
theorem laws_heldStringS.mono : ∀ a0 a1 k, LeO (laws_heldStringS.f k a0 a1) (laws_heldStringS.f (k + 1) a0 a1) := by
  intro a0 a1 k; have ih0 := laws_heldStringS.mono_l k; unfold laws_heldStringS.f
  repeat' first | (with_reducible first | exact ih0 _ _ _ | exact laws_markText.mono _ _ | exact oR _ | exact oN _ | refine oI ?_ ?_ | refine oB ?_ fun _ => ?_) | exact ih0 _ _ _ | exact laws_markText.mono _ _ | exact oN _ | refine oI ?_ ?_ | refine oB ?_ fun _ => ?_
set_option maxHeartbeats 60000000 in
set_option maxRecDepth 100000 in
theorem laws_heldStringS.calls (k : Nat) (A0 : Option Addr) (c0 : Nat) (l0 : List ByteArray) (a1 : Int) (r : Int) (w : World) (hr0 : Kd.C Kd.string w A0 l0.length l0) (hc0 : l0.length ≤ c0) (h : laws_heldStringS.f k l0 a1 = some r) :
    Calls Try.prog 67 #[.slice A0 l0.length c0, .int .i64 a1] w fun e w' => e = .returned (.int .i64 r) ∧ Below w.heap.size w w' := by
 have HR0 := AM hr0; have HC0 := AM hc0; clear hr0 hc0; have HB := AM (Below.refl w.heap.size w); have H : (laws_heldStringS.l0 k l0 a1 0) = some r := h; clear h; have H' := AM H; clear H; go_enter Try.func67, Try.ntmps67
 go_wp2
 go_loopg [1, 5] k (fun kq v1 v5 w' => ∃ (x1_1 : Int) (x5_1 : Int), v1 = .int .i64 x1_1 ∧ v5 = .int .i64 x5_1 ∧ Aside0 (laws_heldStringS.l0 kq l0 x1_1 x5_1 = some r) ∧ Aside0 (kq ≤ k) ∧ Aside0 (Below w.heap.size w w'))
 case atStart => exact ⟨(a1), (0), (by first | rfl | (simp; done) | (simp [*]; done)), (by first | rfl | (simp; done) | (simp [*]; done)), H', ⟨Nat.le_refl _⟩, ⟨bX HB.out⟩⟩
 case round =>
  clear H'; try clear p2
  obtain ⟨x1_1, x5_1, rfl, rfl, HA, HK1, HB⟩ := hrel
  cases gk with
  | zero => exact absurd HA.out (by simp [laws_heldStringS.l0])
  | succ k1 =>
   have H := HA.out; clear HA; simp only [laws_heldStringS.l0] at H
   by_cases c3 : x5_1 < (l0.length : Int)
   ·
    rw [if_pos c3] at H; have c3b0 := dY c3; clear c3; by_cases c4 : 0 ≤ x5_1
    ·
     rw [if_pos c4] at H; have c4b0 := dY c4; clear c4; replace H := oM H; obtain ⟨t102, A50, H⟩ := H; have A5 := AM A50; clear A50; by_cases c6 : (rdOf ByteArray.empty l0 x5_1).toList = t102.toList
     ·
      rw [if_pos c6] at H; have c6b0 : ((rdOf ByteArray.empty l0 x5_1).toList == t102.toList) = true := beq_iff_eq.mpr c6; have c6b1 : ((rdOf ByteArray.empty l0 x5_1).toList != t102.toList) = false := bne_eq_false_iff_eq.mpr c6; clear c6; have H' := AM H; clear H; try go_wp2
      have _ := AM (bD HB.out); clear HB; rename_i HB; have p101 : 0 ≤ (x5_1 : Int) := oD ‹_›; have q101 : x5_1 < (l0.length : Int) := oD ‹_›; obtain ⟨ad101, e101, hx101_0⟩ := Kd.at_string HR0.out x5_1 p101 q101; have hw101_0 := hx101_0; cases e101; replace hx101_0 := pB HB.out hx101_0; replace p101 := eq_true p101; replace q101 := eq_true q101; refine start_ (n := 7) (S := fun w' => w'.cell? (ad101.add (x5_1).toNat) = some (.string (rdOf ByteArray.empty l0 x5_1))) (ds := []) (upTo 0 7) (by kernel_rfl) rfl rfl ((pB HB.out hw101_0)) (fun hHeld => ?_); generalize wr.drew = w7 at HB hx101_0 hHeld ⊢; refine pure_ (i := 0) (N := some 12) (v := ?_) (a' := ?_) (upTo 1 7) rfl rfl (by kernel_rfl) (fun _ _ _ h => h) (Or.inl ⟨by rfl, ?_⟩) ?_ ?_; rotate_left
      ·
       intro w'; go_simp
       with_reducible rfl
      rotate_left
      ·
       simp only [Act.put, sA, sB, sC, i64_w, i32_w]
       rfl
      refine pure_ (i := 1) (N := some 13) (v := ?_) (a' := ?_) (upTo 2 7) rfl rfl (by kernel_rfl) (fun _ _ _ h => h) (Or.inl ⟨by rfl, ?_⟩) ?_ ?_; rotate_left
      ·
       intro w'; go_simp
       with_reducible rfl
      rotate_left
      ·
       simp only [Act.put, sA, sB, sC, i64_w, i32_w]
       rfl
      refine pure_ (i := 2) (N := some 14) (v := ?_) (a' := ?_) (upTo 3 7) rfl rfl (by kernel_rfl) (fun _ _ _ h => h) (Or.inl ⟨by rfl, ?_⟩) ?_ ?_; rotate_left
      ·
       intro w'; go_simp
       with_reducible rfl
      rotate_left
      ·
       simp only [Act.put, sA, sB, sC, i64_w, i32_w]
       rfl
      refine pure_ (i := 4) (N := some 16) (v := ?_) (a' := ?_) #[true, true, true, false, true, false, false] rfl rfl (by kernel_rfl) (fun _ _ _ h => h) (Or.inl ⟨by rfl, ?_⟩) ?_ ?_; rotate_left
      ·
       intro w'; go_simp
       with_reducible rfl
      rotate_left
      ·
       simp only [Act.put, sA, sB, sC, i64_w, i32_w]
       rfl
      refine take_ (i := 3) (N := some 15) (v := ?_) (a' := ?_) (upTo 5 7) rfl rfl (by kernel_rfl) (fun _ _ _ h => h) (Or.inl ⟨by rfl, ?_⟩) hHeld ?_ ?_; rotate_left
      ·
       intro w' s0; go_simp
       with_reducible rfl
      rotate_left
      ·
       simp only [Act.put, sA, sB, sC, i64_w, i32_w]
       rfl
      refine one_ (i := 5) (N := some 17) (upTo 6 7) rfl rfl (by kernel_rfl) (by decide) (fun K hK => ?_); refine gs Try.func64 #[.int .i64 x1_1] ?_; with_reducible refine (laws_markText.calls k1 x1_1 t102 _ A5.out).mono ?_
      rintro e w8 ⟨rfl, hb⟩; refine ⟨_, rfl, ?_⟩; have _ := AM (below_step (bX HB.out) hb); clear HB; rename_i HB; (try clear hb); (try clear hk); refine hK.out _ _ ((pB HB.out hw101_0)) (fun hHeld => ?_); clear hK K; refine norm_ (a' := ?_) ?_ ?_; rotate_left
      ·
       show Act.put _ (some 17) _ = _
       simp only [Act.put, sA, sB, sC, i64_w, i32_w]
       rfl
      refine pure_ (i := 6) (N := some 18) (v := ?_) (a' := ?_) (upTo 7 7) rfl rfl (by kernel_rfl) (fun _ _ _ h => h) (Or.inl ⟨by rfl, ?_⟩) ?_ ?_; rotate_left
      ·
       intro w'; go_simp
       with_reducible rfl
      rotate_left
      ·
       simp only [Act.put, sA, sB, sC, i64_w, i32_w]
       rfl
      refine done_ (by kernel_rfl) ?_; try go_wp2
      go_roundg k1
      case measure => have := HK1.out; omega
      case rel => exact ⟨(wrap64 (x1_1 + 1)), (wrap64 (x5_1 + 1)), (by first | rfl | (simp; done) | (simp [*]; done)), (by first | rfl | (simp; done) | (simp [*]; done)), H', ⟨by have := HK1.out; omega⟩, ⟨bX HB.out⟩⟩
     rw [if_neg c6] at H; have c6b0 : ((rdOf ByteArray.empty l0 x5_1).toList == t102.toList) = false := beq_eq_false_iff_ne.mpr c6; have c6b1 : ((rdOf ByteArray.empty l0 x5_1).toList != t102.toList) = true := bne_iff_ne.mpr c6; obtain rfl := Option.some.inj H; try go_wp2
     have _ := AM (bD HB.out); clear HB; rename_i HB; have p101 : 0 ≤ (x5_1 : Int) := oD ‹_›; have q101 : x5_1 < (l0.length : Int) := oD ‹_›; obtain ⟨ad101, e101, hx101_0⟩ := Kd.at_string HR0.out x5_1 p101 q101; have hw101_0 := hx101_0; cases e101; replace hx101_0 := pB HB.out hx101_0; replace p101 := eq_true p101; replace q101 := eq_true q101; refine start_ (n := 7) (S := fun w' => w'.cell? (ad101.add (x5_1).toNat) = some (.string (rdOf ByteArray.empty l0 x5_1))) (ds := []) (upTo 0 7) (by kernel_rfl) rfl rfl ((pB HB.out hw101_0)) (fun hHeld => ?_); generalize wr.drew = w9 at HB hx101_0 hHeld ⊢; refine pure_ (i := 0) (N := some 12) (v := ?_) (a' := ?_) (upTo 1 7) rfl rfl (by kernel_rfl) (fun _ _ _ h => h) (Or.inl ⟨by rfl, ?_⟩) ?_ ?_; rotate_left
     ·
      intro w'; go_simp
      with_reducible rfl
     rotate_left
     ·
      simp only [Act.put, sA, sB, sC, i64_w, i32_w]
      rfl
     refine pure_ (i := 1) (N := some 13) (v := ?_) (a' := ?_) (upTo 2 7) rfl rfl (by kernel_rfl) (fun _ _ _ h => h) (Or.inl ⟨by rfl, ?_⟩) ?_ ?_; rotate_left
     ·
      intro w'; go_simp
      with_reducible rfl
     rotate_left
     ·
      simp only [Act.put, sA, sB, sC, i64_w, i32_w]
      rfl
     refine pure_ (i := 2) (N := some 14) (v := ?_) (a' := ?_) (upTo 3 7) rfl rfl (by kernel_rfl) (fun _ _ _ h => h) (Or.inl ⟨by rfl, ?_⟩) ?_ ?_; rotate_left
     ·
      intro w'; go_simp
      with_reducible rfl
     rotate_left
     ·
      simp only [Act.put, sA, sB, sC, i64_w, i32_w]
      rfl
     refine pure_ (i := 4) (N := some 16) (v := ?_) (a' := ?_) #[true, true, true, false, true, false, false] rfl rfl (by kernel_rfl) (fun _ _ _ h => h) (Or.inl ⟨by rfl, ?_⟩) ?_ ?_; rotate_left
     ·
      intro w'; go_simp
      with_reducible rfl
     rotate_left
     ·
      simp only [Act.put, sA, sB, sC, i64_w, i32_w]
      rfl
     refine take_ (i := 3) (N := some 15) (v := ?_) (a' := ?_) (upTo 5 7) rfl rfl (by kernel_rfl) (fun _ _ _ h => h) (Or.inl ⟨by rfl, ?_⟩) hHeld ?_ ?_; rotate_left
     ·
      intro w' s0; go_simp
      with_reducible rfl
     rotate_left
     ·
      simp only [Act.put, sA, sB, sC, i64_w, i32_w]
      rfl
     refine one_ (i := 5) (N := some 17) (upTo 6 7) rfl rfl (by kernel_rfl) (by decide) (fun K hK => ?_); refine gs Try.func64 #[.int .i64 x1_1] ?_; with_reducible refine (laws_markText.calls k1 x1_1 t102 _ A5.out).mono ?_
     rintro e w10 ⟨rfl, hb⟩; refine ⟨_, rfl, ?_⟩; have _ := AM (below_step (bX HB.out) hb); clear HB; rename_i HB; (try clear hb); (try clear hk); refine hK.out _ _ ((pB HB.out hw101_0)) (fun hHeld => ?_); clear hK K; refine norm_ (a' := ?_) ?_ ?_; rotate_left
     ·
      show Act.put _ (some 17) _ = _
      simp only [Act.put, sA, sB, sC, i64_w, i32_w]
      rfl
     refine pure_ (i := 6) (N := some 18) (v := ?_) (a' := ?_) (upTo 7 7) rfl rfl (by kernel_rfl) (fun _ _ _ h => h) (Or.inl ⟨by rfl, ?_⟩) ?_ ?_; rotate_left
     ·
      intro w'; go_simp
      with_reducible rfl
     rotate_left
     ·
      simp only [Act.put, sA, sB, sC, i64_w, i32_w]
      rfl
     refine done_ (by kernel_rfl) ?_; try go_wp2
     go_ret
     exact ⟨by first | rfl | (simp [*, errW_none, errW_some] <;> rfl), bX HB.out⟩
    rw [if_neg c4] at H; exact absurd H (by simp)
   rw [if_neg c3] at H; have c3b0 := dN c3; clear c3; obtain rfl := Option.some.inj H; go_wp2
   go_ret
   exact ⟨by first | rfl | (simp [*, errW_none, errW_some] <;> rfl), bX HB.out⟩

/-! ### laws_heldGroupS: function 68 -/
abbrev laws_heldGroupS.b0 : Array Bool := #[true, true, true, true, false, true, false, false]
def laws_heldGroupS.l0 : Nat → List (S61) → Int → Int → Option (Int)
  | 0, _, _, _ => none
  | k + 1, x0, x1, x5 => if x5 < (x0.length : Int) then (if 0 ≤ x5 then ((laws_markText.f k x1).bind fun t102 => (if ((rd_T61 x0 x5).f0).toList = t102.toList then (if ((rd_T61 x0 x5).f1) = (wrap64 (x1 + 1)) then (laws_heldGroupS.l0 k x0 (wrap64 ((wrap64 (x1 + 1)) + 1)) (wrap64 (x5 + 1))) else (some (-1))) else (some (-1)))) else (none)) else (some x1)
def laws_heldGroupS.f (k : Nat) (l0 : List (S61)) (a1 : Int) : Option (Int) := laws_heldGroupS.l0 k l0 a1 0
theorem laws_heldGroupS.mono_l : ∀ k, (∀ y0 y1 y2, LeO (laws_heldGroupS.l0 k y0 y1 y2) (laws_heldGroupS.l0 (k + 1) y0 y1 y2))
  | 0 => fun _ _ _ r h => by simp [laws_heldGroupS.l0] at h
  | k + 1 => by
    have ih0 := laws_heldGroupS.mono_l k
    · intro y0 y1 y2
      unfold laws_heldGroupS.l0
      repeat' first | (with_reducible first | exact ih0 _ _ _ | exact laws_markText.mono _ _ | exact oR _ | exact oN _ | refine oI ?_ ?_ | refine oB ?_ fun _ => ?_) | exact ih0 _ _ _ | exact laws_markText.mono _ _ | exact oN _ | refine oI ?_ ?_ | refine oB ?_ fun _ => ?_
theorem laws_heldGroupS.mono : ∀ a0 a1 k, LeO (laws_heldGroupS.f k a0 a1) (laws_heldGroupS.f (k + 1) a0 a1) := by
  intro a0 a1 k; have ih0 := laws_heldGroupS.mono_l k; unfold laws_heldGroupS.f
  repeat' first | (with_reducible first | exact ih0 _ _ _ | exact laws_markText.mono _ _ | exact oR _ | exact oN _ | refine oI ?_ ?_ | refine oB ?_ fun _ => ?_) | exact ih0 _ _ _ | exact laws_markText.mono _ _ | exact oN _ | refine oI ?_ ?_ | refine oB ?_ fun _ => ?_
def laws_heldGroupS.T4 : Bool × List (List Nat × List Nat) := (true, [([], []), ([], []), ([0, 1], [0, 1]), ([2], [2]), ([3], [3]), ([], []), ([5], [5]), ([4, 6], [4, 6])])
def laws_heldGroupS.B4 : List Nat := [0, 0, 3, 7, 15, 0, 32, 127]
theorem laws_heldGroupS.tab4 : rtab .any (opsOf Try.f68 4) = laws_heldGroupS.T4 := by kernel_rfl
theorem laws_heldGroupS.bits4 : waitsOk laws_heldGroupS.T4.2 laws_heldGroupS.B4 = true := by kernel_rfl
set_option maxHeartbeats 60000000 in
set_option maxRecDepth 100000 in
theorem laws_heldGroupS.calls (k : Nat) (A0 : Option Addr) (c0 : Nat) (l0 : List (S61)) (a1 : Int) (r : Int) (w : World) (hr0 : Kd.C k61 w A0 l0.length l0) (hc0 : l0.length ≤ c0) (h : laws_heldGroupS.f k l0 a1 = some r) :
    Calls Try.prog 68 #[.slice A0 l0.length c0, .int .i64 a1] w fun e w' => e = .returned (.int .i64 r) ∧ Below w.heap.size w w' := by
 have HR0 := AM hr0; have HC0 := AM hc0; clear hr0 hc0; have HB := AM (Below.refl w.heap.size w); have H : (laws_heldGroupS.l0 k l0 a1 0) = some r := h; clear h; have H' := AM H; clear H; go_enter Try.func68, Try.ntmps68
 go_wp2
 go_loopg [1, 5] k (fun kq v1 v5 w' => ∃ (x1_1 : Int) (x5_1 : Int), v1 = .int .i64 x1_1 ∧ v5 = .int .i64 x5_1 ∧ Aside0 (laws_heldGroupS.l0 kq l0 x1_1 x5_1 = some r) ∧ Aside0 (kq ≤ k) ∧ Aside0 (Below w.heap.size w w'))
 case atStart => exact ⟨(a1), (0), (by first | rfl | (simp; done) | (simp [*]; done)), (by first | rfl | (simp; done) | (simp [*]; done)), H', ⟨Nat.le_refl _⟩, ⟨bX HB.out⟩⟩
 case round =>
  clear H'; try clear p2
  obtain ⟨x1_1, x5_1, rfl, rfl, HA, HK1, HB⟩ := hrel
  cases gk with
  | zero => exact absurd HA.out (by simp [laws_heldGroupS.l0])
  | succ k1 =>
   have H := HA.out; clear HA; simp only [laws_heldGroupS.l0] at H
   by_cases c3 : x5_1 < (l0.length : Int)
   ·
    rw [if_pos c3] at H; have c3b0 := dY c3; clear c3; by_cases c4 : 0 ≤ x5_1
    ·
     rw [if_pos c4] at H; have c4b0 := dY c4; clear c4; replace H := oM H; obtain ⟨t102, A50, H⟩ := H; have A5 := AM A50; clear A50; by_cases c6 : ((rd_T61 l0 x5_1).f0).toList = t102.toList
     ·
      rw [if_pos c6] at H; have c6b0 : (((rd_T61 l0 x5_1).f0).toList == t102.toList) = true := beq_iff_eq.mpr c6; have c6b1 : (((rd_T61 l0 x5_1).f0).toList != t102.toList) = false := bne_eq_false_iff_eq.mpr c6; clear c6; by_cases c7 : ((rd_T61 l0 x5_1).f1) = (wrap64 (x1_1 + 1))
      ·
       rw [if_pos c7] at H; have c7b0 : (((rd_T61 l0 x5_1).f1) == (wrap64 (x1_1 + 1))) = true := beq_iff_eq.mpr c7; have c7b1 : (((rd_T61 l0 x5_1).f1) != (wrap64 (x1_1 + 1))) = false := bne_eq_false_iff_eq.mpr c7; clear c7; have H' := AM H; clear H; try go_wp2
       have _ := AM (bD HB.out); clear HB; rename_i HB; have p101 : 0 ≤ (x5_1 : Int) := oD ‹_›; have q101 : x5_1 < (l0.length : Int) := oD ‹_›; obtain ⟨ad101, e101, hx101_0, hx101_1⟩ := at_T61 HR0.out x5_1 p101 q101; have hw101_1 := hx101_1; have hw101_0 := hx101_0; cases e101; replace hx101_0 := pB HB.out hx101_0; replace hx101_1 := pB HB.out hx101_1; replace p101 := eq_true p101; replace q101 := eq_true q101; refine start_ (n := 8) (S := fun w' => w'.cell? (ad101.add ((x5_1).toNat * 2)) = some (.string ((rd_T61 l0 x5_1).f0)) ∧ w'.cell? ⟨(ad101.add ((x5_1).toNat * 2)).block, (ad101.add ((x5_1).toNat * 2)).off + 1, none⟩ = some (.int .i64 ((rd_T61 l0 x5_1).f1))) (ds := []) (upTo 0 8) (by kernel_rfl) rfl rfl ⟨(pB HB.out hw101_0), (pB HB.out hw101_1)⟩ (fun hHeld => ?_); refine with_tabW laws_heldGroupS.tab4 laws_heldGroupS.bits4 (fun HT_ HW_ => ?_); generalize wr.drew = w8 at HB hx101_0 hx101_1 hHeld ⊢; refine pF 0 1 8 12 ?_; refine pF 1 2 8 13 ?_; refine pF 2 3 8 14 ?_; refine pF 3 4 8 15 ?_; refine pF2 5 17 laws_heldGroupS.b0 ?_; refine pT2 4 16 (upTo 6 8) ?_ hHeld; refine oU 6 18 (upTo 7 8) HT_.out (fun K hK => ?_); refine gs Try.func64 #[.int .i64 x1_1] ?_; with_reducible refine (laws_markText.calls k1 x1_1 t102 _ A5.out).mono ?_
       rintro e w9 ⟨rfl, hb⟩; refine ⟨_, rfl, ?_⟩; have _ := AM (below_step (bX HB.out) hb); clear HB; rename_i HB; (try clear hb); (try clear hk); refine hK.out _ _ ⟨(pB HB.out hw101_0), (pB HB.out hw101_1)⟩ (fun hHeld => ?_); clear hK K; refine norm_ (a' := ?_) ?_ ?_; rotate_left
       ·
        show Act.put _ (some 18) _ = _
        simp only [Act.put, sA, sB, sC, i64_w, i32_w]
        rfl
       refine pF 7 8 8 19 ?_; refine done_ (done_of HT_.out (by kernel_rfl)) ?_; have p103 : 0 ≤ (x5_1 : Int) := oD ‹_›; have q103 : x5_1 < (l0.length : Int) := oD ‹_›; obtain ⟨ad103, e103, hx103_0, hx103_1⟩ := at_T61 HR0.out x5_1 p103 q103; obtain rfl : ad101 = ad103 := (by injection e103); replace hx103_0 := pB HB.out hx103_0; replace hx103_1 := pB HB.out hx103_1; replace p103 := eq_true p103; replace q103 := eq_true q103; try go_wp2
       go_roundg k1
       case measure => have := HK1.out; omega
       case rel => exact ⟨(wrap64 ((wrap64 (x1_1 + 1)) + 1)), (wrap64 (x5_1 + 1)), (by first | rfl | (simp; done) | (simp [*]; done)), (by first | rfl | (simp; done) | (simp [*]; done)), H', ⟨by have := HK1.out; omega⟩, ⟨bX HB.out⟩⟩
      rw [if_neg c7] at H; have c7b0 : (((rd_T61 l0 x5_1).f1) == (wrap64 (x1_1 + 1))) = false := beq_eq_false_iff_ne.mpr c7; have c7b1 : (((rd_T61 l0 x5_1).f1) != (wrap64 (x1_1 + 1))) = true := bne_iff_ne.mpr c7; obtain rfl := Option.some.inj H; try go_wp2
      have _ := AM (bD HB.out); clear HB; rename_i HB; have p101 : 0 ≤ (x5_1 : Int) := oD ‹_›; have q101 : x5_1 < (l0.length : Int) := oD ‹_›; obtain ⟨ad101, e101, hx101_0, hx101_1⟩ := at_T61 HR0.out x5_1 p101 q101; have hw101_1 := hx101_1; have hw101_0 := hx101_0; cases e101; replace hx101_0 := pB HB.out hx101_0; replace hx101_1 := pB HB.out hx101_1; replace p101 := eq_true p101; replace q101 := eq_true q101; refine start_ (n := 8) (S := fun w' => w'.cell? (ad101.add ((x5_1).toNat * 2)) = some (.string ((rd_T61 l0 x5_1).f0)) ∧ w'.cell? ⟨(ad101.add ((x5_1).toNat * 2)).block, (ad101.add ((x5_1).toNat * 2)).off + 1, none⟩ = some (.int .i64 ((rd_T61 l0 x5_1).f1))) (ds := []) (upTo 0 8) (by kernel_rfl) rfl rfl ⟨(pB HB.out hw101_0), (pB HB.out hw101_1)⟩ (fun hHeld => ?_); refine with_tabW laws_heldGroupS.tab4 laws_heldGroupS.bits4 (fun HT_ HW_ => ?_); generalize wr.drew = w10 at HB hx101_0 hx101_1 hHeld ⊢; refine pF 0 1 8 12 ?_; refine pF 1 2 8 13 ?_; refine pF 2 3 8 14 ?_; refine pF 3 4 8 15 ?_; refine pF2 5 17 laws_heldGroupS.b0 ?_; refine pT2 4 16 (upTo 6 8) ?_ hHeld; refine oU 6 18 (upTo 7 8) HT_.out (fun K hK => ?_); refine gs Try.func64 #[.int .i64 x1_1] ?_; with_reducible refine (laws_markText.calls k1 x1_1 t102 _ A5.out).mono ?_
      rintro e w11 ⟨rfl, hb⟩; refine ⟨_, rfl, ?_⟩; have _ := AM (below_step (bX HB.out) hb); clear HB; rename_i HB; (try clear hb); (try clear hk); refine hK.out _ _ ⟨(pB HB.out hw101_0), (pB HB.out hw101_1)⟩ (fun hHeld => ?_); clear hK K; refine norm_ (a' := ?_) ?_ ?_; rotate_left
      ·
       show Act.put _ (some 18) _ = _
       simp only [Act.put, sA, sB, sC, i64_w, i32_w]
       rfl
      refine pF 7 8 8 19 ?_; refine done_ (done_of HT_.out (by kernel_rfl)) ?_; have p103 : 0 ≤ (x5_1 : Int) := oD ‹_›; have q103 : x5_1 < (l0.length : Int) := oD ‹_›; obtain ⟨ad103, e103, hx103_0, hx103_1⟩ := at_T61 HR0.out x5_1 p103 q103; obtain rfl : ad101 = ad103 := (by injection e103); replace hx103_0 := pB HB.out hx103_0; replace hx103_1 := pB HB.out hx103_1; replace p103 := eq_true p103; replace q103 := eq_true q103; try go_wp2
      go_ret
      exact ⟨by first | rfl | (simp [*, errW_none, errW_some] <;> rfl), bX HB.out⟩
     rw [if_neg c6] at H; have c6b0 : (((rd_T61 l0 x5_1).f0).toList == t102.toList) = false := beq_eq_false_iff_ne.mpr c6; have c6b1 : (((rd_T61 l0 x5_1).f0).toList != t102.toList) = true := bne_iff_ne.mpr c6; obtain rfl := Option.some.inj H; try go_wp2
     have _ := AM (bD HB.out); clear HB; rename_i HB; have p101 : 0 ≤ (x5_1 : Int) := oD ‹_›; have q101 : x5_1 < (l0.length : Int) := oD ‹_›; obtain ⟨ad101, e101, hx101_0, hx101_1⟩ := at_T61 HR0.out x5_1 p101 q101; have hw101_1 := hx101_1; have hw101_0 := hx101_0; cases e101; replace hx101_0 := pB HB.out hx101_0; replace hx101_1 := pB HB.out hx101_1; replace p101 := eq_true p101; replace q101 := eq_true q101; refine start_ (n := 8) (S := fun w' => w'.cell? (ad101.add ((x5_1).toNat * 2)) = some (.string ((rd_T61 l0 x5_1).f0)) ∧ w'.cell? ⟨(ad101.add ((x5_1).toNat * 2)).block, (ad101.add ((x5_1).toNat * 2)).off + 1, none⟩ = some (.int .i64 ((rd_T61 l0 x5_1).f1))) (ds := []) (upTo 0 8) (by kernel_rfl) rfl rfl ⟨(pB HB.out hw101_0), (pB HB.out hw101_1)⟩ (fun hHeld => ?_); refine with_tabW laws_heldGroupS.tab4 laws_heldGroupS.bits4 (fun HT_ HW_ => ?_); generalize wr.drew = w12 at HB hx101_0 hx101_1 hHeld ⊢; refine pF 0 1 8 12 ?_; refine pF 1 2 8 13 ?_; refine pF 2 3 8 14 ?_; refine pF 3 4 8 15 ?_; refine pF2 5 17 laws_heldGroupS.b0 ?_; refine pT2 4 16 (upTo 6 8) ?_ hHeld; refine oU 6 18 (upTo 7 8) HT_.out (fun K hK => ?_); refine gs Try.func64 #[.int .i64 x1_1] ?_; with_reducible refine (laws_markText.calls k1 x1_1 t102 _ A5.out).mono ?_
     rintro e w13 ⟨rfl, hb⟩; refine ⟨_, rfl, ?_⟩; have _ := AM (below_step (bX HB.out) hb); clear HB; rename_i HB; (try clear hb); (try clear hk); refine hK.out _ _ ⟨(pB HB.out hw101_0), (pB HB.out hw101_1)⟩ (fun hHeld => ?_); clear hK K; refine norm_ (a' := ?_) ?_ ?_; rotate_left
     ·
      show Act.put _ (some 18) _ = _
      simp only [Act.put, sA, sB, sC, i64_w, i32_w]
      rfl
     refine pF 7 8 8 19 ?_; refine done_ (done_of HT_.out (by kernel_rfl)) ?_; try go_wp2
     go_ret
     exact ⟨by first | rfl | (simp [*, errW_none, errW_some] <;> rfl), bX HB.out⟩
    rw [if_neg c4] at H; exact absurd H (by simp)
   rw [if_neg c3] at H; have c3b0 := dN c3; clear c3; obtain rfl := Option.some.inj H; go_wp2
   go_ret
   exact ⟨by first | rfl | (simp [*, errW_none, errW_some] <;> rfl), bX HB.out⟩

/-! ### laws_heldTopicS: function 40 -/
abbrev laws_heldTopicS.b0 : Array Bool := #[true, true, true, true, false, true, false, false]
def laws_heldTopicS.l0 : Nat → List (S44) → Int → Int → Option (Int)
  | 0, _, _, _ => none
  | k + 1, x0, x1, x5 => if x5 < (x0.length : Int) then (if 0 ≤ x5 then ((laws_markText.f k x1).bind fun t102 => (if ((rd_T44 x0 x5).f0).toList = t102.toList then (if ((rd_T44 x0 x5).f1) = (wrap64 (x1 + 1)) then ((laws_heldStringS.f k ((rd_T44 x0 x5).f2) (wrap64 ((wrap64 (x1 + 1)) + 1))).bind fun t105 => (if t105 < 0 then (some (-1)) else ((laws_heldGroupS.f k ((rd_T44 x0 x5).f3) t105).bind fun t107 => (if t107 < 0 then (some (-1)) else (laws_heldTopicS.l0 k x0 t107 (wrap64 (x5 + 1))))))) else (some (-1))) else (some (-1)))) else (none)) else (some x1)
def laws_heldTopicS.f (k : Nat) (l0 : List (S44)) (a1 : Int) : Option (Int) := laws_heldTopicS.l0 k l0 a1 0
theorem laws_heldTopicS.mono_l : ∀ k, (∀ y0 y1 y2, LeO (laws_heldTopicS.l0 k y0 y1 y2) (laws_heldTopicS.l0 (k + 1) y0 y1 y2))
  | 0 => fun _ _ _ r h => by simp [laws_heldTopicS.l0] at h
  | k + 1 => by
    have ih0 := laws_heldTopicS.mono_l k
    · intro y0 y1 y2
      unfold laws_heldTopicS.l0
      repeat' first | (with_reducible first | exact ih0 _ _ _ | exact laws_heldGroupS.mono _ _ _ | exact laws_heldStringS.mono _ _ _ | exact laws_markText.mono _ _ | exact oR _ | exact oN _ | refine oI ?_ ?_ | refine oB ?_ fun _ => ?_) | exact ih0 _ _ _ | exact laws_heldGroupS.mono _ _ _ | exact laws_heldStringS.mono _ _ _ | exact laws_markText.mono _ _ | exact oN _ | refine oI ?_ ?_ | refine oB ?_ fun _ => ?_
theorem laws_heldTopicS.mono : ∀ a0 a1 k, LeO (laws_heldTopicS.f k a0 a1) (laws_heldTopicS.f (k + 1) a0 a1) := by
  intro a0 a1 k; have ih0 := laws_heldTopicS.mono_l k; unfold laws_heldTopicS.f
  repeat' first | (with_reducible first | exact ih0 _ _ _ | exact laws_heldGroupS.mono _ _ _ | exact laws_heldStringS.mono _ _ _ | exact laws_markText.mono _ _ | exact oR _ | exact oN _ | refine oI ?_ ?_ | refine oB ?_ fun _ => ?_) | exact ih0 _ _ _ | exact laws_heldGroupS.mono _ _ _ | exact laws_heldStringS.mono _ _ _ | exact laws_markText.mono _ _ | exact oN _ | refine oI ?_ ?_ | refine oB ?_ fun _ => ?_
def laws_heldTopicS.T4 : Bool × List (List Nat × List Nat) := (true, [([], []), ([], []), ([0, 1], [0, 1]), ([2], [2]), ([3], [3]), ([], []), ([5], [5]), ([4, 6], [4, 6])])
def laws_heldTopicS.B4 : List Nat := [0, 0, 3, 7, 15, 0, 32, 127]
theorem laws_heldTopicS.tab4 : rtab .any (opsOf Try.f40 4) = laws_heldTopicS.T4 := by kernel_rfl
theorem laws_heldTopicS.bits4 : waitsOk laws_heldTopicS.T4.2 laws_heldTopicS.B4 = true := by kernel_rfl
set_option maxHeartbeats 60000000 in
set_option maxRecDepth 100000 in
theorem laws_heldTopicS.calls (k : Nat) (A0 : Option Addr) (c0 : Nat) (l0 : List (S44)) (a1 : Int) (r : Int) (w : World) (hr0 : Kd.C k44 w A0 l0.length l0) (hc0 : l0.length ≤ c0) (h : laws_heldTopicS.f k l0 a1 = some r) :
    Calls Try.prog 40 #[.slice A0 l0.length c0, .int .i64 a1] w fun e w' => e = .returned (.int .i64 r) ∧ Below w.heap.size w w' := by
 have HR0 := AM hr0; have HC0 := AM hc0; clear hr0 hc0; have HB := AM (Below.refl w.heap.size w); have H : (laws_heldTopicS.l0 k l0 a1 0) = some r := h; clear h; have H' := AM H; clear H; go_enter Try.func40, Try.ntmps40
 go_wp2
 go_loopg [1, 5] k (fun kq v1 v5 w' => ∃ (x1_1 : Int) (x5_1 : Int), v1 = .int .i64 x1_1 ∧ v5 = .int .i64 x5_1 ∧ Aside0 (laws_heldTopicS.l0 kq l0 x1_1 x5_1 = some r) ∧ Aside0 (kq ≤ k) ∧ Aside0 (Below w.heap.size w w'))
 case atStart => exact ⟨(a1), (0), (by first | rfl | (simp; done) | (simp [*]; done)), (by first | rfl | (simp; done) | (simp [*]; done)), H', ⟨Nat.le_refl _⟩, ⟨bX HB.out⟩⟩
 case round =>
  clear H'; try clear p2
  obtain ⟨x1_1, x5_1, rfl, rfl, HA, HK1, HB⟩ := hrel
  cases gk with
  | zero => exact absurd HA.out (by simp [laws_heldTopicS.l0])
  | succ k1 =>
   have H := HA.out; clear HA; simp only [laws_heldTopicS.l0] at H
   by_cases c3 : x5_1 < (l0.length : Int)
   ·
    rw [if_pos c3] at H; have c3b0 := dY c3; clear c3; by_cases c4 : 0 ≤ x5_1
    ·
     rw [if_pos c4] at H; have c4b0 := dY c4; clear c4; replace H := oM H; obtain ⟨t102, A50, H⟩ := H; have A5 := AM A50; clear A50; by_cases c6 : ((rd_T44 l0 x5_1).f0).toList = t102.toList
     ·
      rw [if_pos c6] at H; have c6b0 : (((rd_T44 l0 x5_1).f0).toList == t102.toList) = true := beq_iff_eq.mpr c6; have c6b1 : (((rd_T44 l0 x5_1).f0).toList != t102.toList) = false := bne_eq_false_iff_eq.mpr c6; clear c6; by_cases c7 : ((rd_T44 l0 x5_1).f1) = (wrap64 (x1_1 + 1))
      ·
       rw [if_pos c7] at H; have c7b0 : (((rd_T44 l0 x5_1).f1) == (wrap64 (x1_1 + 1))) = true := beq_iff_eq.mpr c7; have c7b1 : (((rd_T44 l0 x5_1).f1) != (wrap64 (x1_1 + 1))) = false := bne_eq_false_iff_eq.mpr c7; clear c7; replace H := oM H; obtain ⟨t105, A80, H⟩ := H; have A8 := AM A80; clear A80; by_cases c9 : t105 < 0
       ·
        rw [if_pos c9] at H; have c9b0 := dY c9; clear c9; obtain rfl := Option.some.inj H; try go_wp2
        have _ := AM (bD HB.out); clear HB; rename_i HB; have p101 : 0 ≤ (x5_1 : Int) := oD ‹_›; have q101 : x5_1 < (l0.length : Int) := oD ‹_›; obtain ⟨ad101, A101_2, c101_2, A101_3, c101_3, e101, hx101_0, hx101_1, hx101_2, hx101_3, hl101_2, hi101_2, hl101_3, hi101_3⟩ := at_T44 HR0.out x5_1 p101 q101; have hw101_3 := hx101_3; have hw101_2 := hx101_2; have hw101_1 := hx101_1; have hw101_0 := hx101_0; cases e101; replace hx101_0 := pB HB.out hx101_0; replace hx101_1 := pB HB.out hx101_1; replace hx101_2 := pB HB.out hx101_2; replace hx101_3 := pB HB.out hx101_3; have HR101_2 := AM hi101_2; have HC101_2 := AM hl101_2; clear hi101_2 hl101_2; have HR101_3 := AM hi101_3; have HC101_3 := AM hl101_3; clear hi101_3 hl101_3; replace p101 := eq_true p101; replace q101 := eq_true q101; refine start_ (n := 8) (S := fun w' => w'.cell? (ad101.add ((x5_1).toNat * 4)) = some (.string ((rd_T44 l0 x5_1).f0)) ∧ w'.cell? ⟨(ad101.add ((x5_1).toNat * 4)).block, (ad101.add ((x5_1).toNat * 4)).off + 1, none⟩ = some (.int .i64 ((rd_T44 l0 x5_1).f1)) ∧ w'.cell? ⟨(ad101.add ((x5_1).toNat * 4)).block, (ad101.add ((x5_1).toNat * 4)).off + 2, none⟩ = some (.slice A101_2 ((rd_T44 l0 x5_1).f2).length c101_2) ∧ w'.cell? ⟨(ad101.add ((x5_1).toNat * 4)).block, (ad101.add ((x5_1).toNat * 4)).off + 3, none⟩ = some (.slice A101_3 ((rd_T44 l0 x5_1).f3).length c101_3)) (ds := []) (upTo 0 8) (by kernel_rfl) rfl rfl ⟨(pB HB.out hw101_0), (pB HB.out hw101_1), (pB HB.out hw101_2), (pB HB.out hw101_3)⟩ (fun hHeld => ?_); refine with_tabW laws_heldTopicS.tab4 laws_heldTopicS.bits4 (fun HT_ HW_ => ?_); generalize wr.drew = w10 at HB HR101_2 HR101_3 hx101_0 hx101_1 hx101_2 hx101_3 hHeld ⊢; refine pF 0 1 8 12 ?_; refine pF 1 2 8 13 ?_; refine pF 2 3 8 14 ?_; refine pF 3 4 8 15 ?_; refine pF2 5 17 laws_heldTopicS.b0 ?_; refine pT2 4 16 (upTo 6 8) ?_ hHeld; refine oU 6 18 (upTo 7 8) HT_.out (fun K hK => ?_); refine gs Try.func64 #[.int .i64 x1_1] ?_; with_reducible refine (laws_markText.calls k1 x1_1 t102 _ A5.out).mono ?_
        rintro e w11 ⟨rfl, hb⟩; refine ⟨_, rfl, ?_⟩; have _ := AM (below_step (bX HB.out) hb); clear HB; rename_i HB; (try clear hb); (try clear hk); refine hK.out _ _ ⟨(pB HB.out hw101_0), (pB HB.out hw101_1), (pB HB.out hw101_2), (pB HB.out hw101_3)⟩ (fun hHeld => ?_); clear hK K; refine norm_ (a' := ?_) ?_ ?_; rotate_left
        ·
         show Act.put _ (some 18) _ = _
         simp only [Act.put, sA, sB, sC, i64_w, i32_w]
         rfl
        refine pF 7 8 8 19 ?_; refine done_ (done_of HT_.out (by kernel_rfl)) ?_; have p103 : 0 ≤ (x5_1 : Int) := oD ‹_›; have q103 : x5_1 < (l0.length : Int) := oD ‹_›; obtain ⟨ad103, A103_2, c103_2, A103_3, c103_3, e103, hx103_0, hx103_1, hx103_2, hx103_3, hl103_2, hi103_2, hl103_3, hi103_3⟩ := at_T44 HR0.out x5_1 p103 q103; obtain rfl : ad101 = ad103 := (by injection e103); have ea_ := Option.some.inj (hx103_2.symm.trans hw101_2)
        injection ea_ with ea_ en_ ec_
        subst ea_; subst ec_; clear en_; have ea_ := Option.some.inj (hx103_3.symm.trans hw101_3)
        injection ea_ with ea_ en_ ec_
        subst ea_; subst ec_; clear en_; replace hx103_0 := pB HB.out hx103_0; replace hx103_1 := pB HB.out hx103_1; replace hx103_2 := pB HB.out hx103_2; replace hx103_3 := pB HB.out hx103_3; have HR103_2 := AM hi103_2; have HC103_2 := AM hl103_2; clear hi103_2 hl103_2; have HR103_3 := AM hi103_3; have HC103_3 := AM hl103_3; clear hi103_3 hl103_3; replace p103 := eq_true p103; replace q103 := eq_true q103; have p104 : 0 ≤ (x5_1 : Int) := oD ‹_›; have q104 : x5_1 < (l0.length : Int) := oD ‹_›; obtain ⟨ad104, A104_2, c104_2, A104_3, c104_3, e104, hx104_0, hx104_1, hx104_2, hx104_3, hl104_2, hi104_2, hl104_3, hi104_3⟩ := at_T44 HR0.out x5_1 p104 q104; obtain rfl : ad101 = ad104 := (by injection e104); replace hx104_0 := pB HB.out hx104_0; replace hx104_1 := pB HB.out hx104_1; replace hx104_2 := pB HB.out hx104_2; replace hx104_3 := pB HB.out hx104_3; have HR104_2 := AM hi104_2; have HC104_2 := AM hl104_2; clear hi104_2 hl104_2; have HR104_3 := AM hi104_3; have HC104_3 := AM hl104_3; clear hi104_3 hl104_3; replace p104 := eq_true p104; replace q104 := eq_true q104; have ea_ := Option.some.inj (hx103_2.symm.trans hx104_2)
        injection ea_ with ea_ en_ ec_
        subst ea_; subst ec_; clear en_; have ea_ := Option.some.inj (hx103_3.symm.trans hx104_3)
        injection ea_ with ea_ en_ ec_
        subst ea_; subst ec_; clear en_; try go_wp2_with (first | ((with_reducible refine gate_callee (f := 67) rfl ?_); refine gL (some 37) Try.func67 #[.slice A103_2 ((rd_T44 l0 x5_1).f2).length c103_2, .int .i64 (wrap64 ((wrap64 (x1_1 + 1)) + 1))] ?_; (with_reducible refine (laws_heldStringS.calls k1 _ _ ((rd_T44 l0 x5_1).f2) (wrap64 ((wrap64 (x1_1 + 1)) + 1)) t105 _ ?side1 ?side2 A8.out).mono ?_); (case side1 => exact cX (cB HR104_2.out HB.out)); (case side2 => exact HC104_2.out); rintro e w12 ⟨rfl, hb⟩; refine ⟨_, rfl, ?_⟩; have _ := AM (below_step (bX HB.out) hb); clear HB; rename_i HB; (try clear hb); (try clear hk)))
        go_ret
        exact ⟨by first | rfl | (simp [*, errW_none, errW_some] <;> rfl), bX HB.out⟩
       rw [if_neg c9] at H; have c9b0 := dN c9; clear c9; replace H := oM H; obtain ⟨t107, A130, H⟩ := H; have A13 := AM A130; clear A130; by_cases c14 : t107 < 0
       ·
        rw [if_pos c14] at H; have c14b0 := dY c14; clear c14; obtain rfl := Option.some.inj H; try go_wp2
        have _ := AM (bD HB.out); clear HB; rename_i HB; have p101 : 0 ≤ (x5_1 : Int) := oD ‹_›; have q101 : x5_1 < (l0.length : Int) := oD ‹_›; obtain ⟨ad101, A101_2, c101_2, A101_3, c101_3, e101, hx101_0, hx101_1, hx101_2, hx101_3, hl101_2, hi101_2, hl101_3, hi101_3⟩ := at_T44 HR0.out x5_1 p101 q101; have hw101_3 := hx101_3; have hw101_2 := hx101_2; have hw101_1 := hx101_1; have hw101_0 := hx101_0; cases e101; replace hx101_0 := pB HB.out hx101_0; replace hx101_1 := pB HB.out hx101_1; replace hx101_2 := pB HB.out hx101_2; replace hx101_3 := pB HB.out hx101_3; have HR101_2 := AM hi101_2; have HC101_2 := AM hl101_2; clear hi101_2 hl101_2; have HR101_3 := AM hi101_3; have HC101_3 := AM hl101_3; clear hi101_3 hl101_3; replace p101 := eq_true p101; replace q101 := eq_true q101; refine start_ (n := 8) (S := fun w' => w'.cell? (ad101.add ((x5_1).toNat * 4)) = some (.string ((rd_T44 l0 x5_1).f0)) ∧ w'.cell? ⟨(ad101.add ((x5_1).toNat * 4)).block, (ad101.add ((x5_1).toNat * 4)).off + 1, none⟩ = some (.int .i64 ((rd_T44 l0 x5_1).f1)) ∧ w'.cell? ⟨(ad101.add ((x5_1).toNat * 4)).block, (ad101.add ((x5_1).toNat * 4)).off + 2, none⟩ = some (.slice A101_2 ((rd_T44 l0 x5_1).f2).length c101_2) ∧ w'.cell? ⟨(ad101.add ((x5_1).toNat * 4)).block, (ad101.add ((x5_1).toNat * 4)).off + 3, none⟩ = some (.slice A101_3 ((rd_T44 l0 x5_1).f3).length c101_3)) (ds := []) (upTo 0 8) (by kernel_rfl) rfl rfl ⟨(pB HB.out hw101_0), (pB HB.out hw101_1), (pB HB.out hw101_2), (pB HB.out hw101_3)⟩ (fun hHeld => ?_); refine with_tabW laws_heldTopicS.tab4 laws_heldTopicS.bits4 (fun HT_ HW_ => ?_); generalize wr.drew = w15 at HB HR101_2 HR101_3 hx101_0 hx101_1 hx101_2 hx101_3 hHeld ⊢; refine pF 0 1 8 12 ?_; refine pF 1 2 8 13 ?_; refine pF 2 3 8 14 ?_; refine pF 3 4 8 15 ?_; refine pF2 5 17 laws_heldTopicS.b0 ?_; refine pT2 4 16 (upTo 6 8) ?_ hHeld; refine oU 6 18 (upTo 7 8) HT_.out (fun K hK => ?_); refine gs Try.func64 #[.int .i64 x1_1] ?_; with_reducible refine (laws_markText.calls k1 x1_1 t102 _ A5.out).mono ?_
        rintro e w16 ⟨rfl, hb⟩; refine ⟨_, rfl, ?_⟩; have _ := AM (below_step (bX HB.out) hb); clear HB; rename_i HB; (try clear hb); (try clear hk); refine hK.out _ _ ⟨(pB HB.out hw101_0), (pB HB.out hw101_1), (pB HB.out hw101_2), (pB HB.out hw101_3)⟩ (fun hHeld => ?_); clear hK K; refine norm_ (a' := ?_) ?_ ?_; rotate_left
        ·
         show Act.put _ (some 18) _ = _
         simp only [Act.put, sA, sB, sC, i64_w, i32_w]
         rfl
        refine pF 7 8 8 19 ?_; refine done_ (done_of HT_.out (by kernel_rfl)) ?_; have p103 : 0 ≤ (x5_1 : Int) := oD ‹_›; have q103 : x5_1 < (l0.length : Int) := oD ‹_›; obtain ⟨ad103, A103_2, c103_2, A103_3, c103_3, e103, hx103_0, hx103_1, hx103_2, hx103_3, hl103_2, hi103_2, hl103_3, hi103_3⟩ := at_T44 HR0.out x5_1 p103 q103; obtain rfl : ad101 = ad103 := (by injection e103); have ea_ := Option.some.inj (hx103_2.symm.trans hw101_2)
        injection ea_ with ea_ en_ ec_
        subst ea_; subst ec_; clear en_; have ea_ := Option.some.inj (hx103_3.symm.trans hw101_3)
        injection ea_ with ea_ en_ ec_
        subst ea_; subst ec_; clear en_; replace hx103_0 := pB HB.out hx103_0; replace hx103_1 := pB HB.out hx103_1; replace hx103_2 := pB HB.out hx103_2; replace hx103_3 := pB HB.out hx103_3; have HR103_2 := AM hi103_2; have HC103_2 := AM hl103_2; clear hi103_2 hl103_2; have HR103_3 := AM hi103_3; have HC103_3 := AM hl103_3; clear hi103_3 hl103_3; replace p103 := eq_true p103; replace q103 := eq_true q103; have p104 : 0 ≤ (x5_1 : Int) := oD ‹_›; have q104 : x5_1 < (l0.length : Int) := oD ‹_›; obtain ⟨ad104, A104_2, c104_2, A104_3, c104_3, e104, hx104_0, hx104_1, hx104_2, hx104_3, hl104_2, hi104_2, hl104_3, hi104_3⟩ := at_T44 HR0.out x5_1 p104 q104; obtain rfl : ad101 = ad104 := (by injection e104); replace hx104_0 := pB HB.out hx104_0; replace hx104_1 := pB HB.out hx104_1; replace hx104_2 := pB HB.out hx104_2; replace hx104_3 := pB HB.out hx104_3; have HR104_2 := AM hi104_2; have HC104_2 := AM hl104_2; clear hi104_2 hl104_2; have HR104_3 := AM hi104_3; have HC104_3 := AM hl104_3; clear hi104_3 hl104_3; replace p104 := eq_true p104; replace q104 := eq_true q104; have ea_ := Option.some.inj (hx103_2.symm.trans hx104_2)
        injection ea_ with ea_ en_ ec_
        subst ea_; subst ec_; clear en_; have ea_ := Option.some.inj (hx103_3.symm.trans hx104_3)
        injection ea_ with ea_ en_ ec_
        subst ea_; subst ec_; clear en_; try go_wp2_with (first | ((with_reducible refine gate_callee (f := 67) rfl ?_); refine gL (some 37) Try.func67 #[.slice A103_2 ((rd_T44 l0 x5_1).f2).length c103_2, .int .i64 (wrap64 ((wrap64 (x1_1 + 1)) + 1))] ?_; (with_reducible refine (laws_heldStringS.calls k1 _ _ ((rd_T44 l0 x5_1).f2) (wrap64 ((wrap64 (x1_1 + 1)) + 1)) t105 _ ?side1 ?side2 A8.out).mono ?_); (case side1 => exact cX (cB HR104_2.out HB.out)); (case side2 => exact HC104_2.out); rintro e w17 ⟨rfl, hb⟩; refine ⟨_, rfl, ?_⟩; have _ := AM (below_step (bX HB.out) hb); clear HB; rename_i HB; (try clear hb); (try clear hk); have p106 : 0 ≤ (x5_1 : Int) := oD ‹_›; have q106 : x5_1 < (l0.length : Int) := oD ‹_›; obtain ⟨ad106, A106_2, c106_2, A106_3, c106_3, e106, hx106_0, hx106_1, hx106_2, hx106_3, hl106_2, hi106_2, hl106_3, hi106_3⟩ := at_T44 HR0.out x5_1 p106 q106; obtain rfl : ad101 = ad106 := (by injection e106); replace hx106_0 := (HB.out.cell (World.block_lt_of_cell? w _ hx106_0)).trans hx106_0; replace hx106_1 := (HB.out.cell (World.block_lt_of_cell? w _ hx106_1)).trans hx106_1; replace hx106_2 := (HB.out.cell (World.block_lt_of_cell? w _ hx106_2)).trans hx106_2; replace hx106_3 := (HB.out.cell (World.block_lt_of_cell? w _ hx106_3)).trans hx106_3; have HR106_2 := AM hi106_2; have HC106_2 := AM hl106_2; clear hi106_2 hl106_2; have HR106_3 := AM hi106_3; have HC106_3 := AM hl106_3; clear hi106_3 hl106_3; replace p106 := eq_true p106; replace q106 := eq_true q106) | ((with_reducible refine gate_callee (f := 68) rfl ?_); refine gL (some 46) Try.func68 #[.slice A106_3 ((rd_T44 l0 x5_1).f3).length c106_3, .int .i64 t105] ?_; (with_reducible refine (laws_heldGroupS.calls k1 _ _ ((rd_T44 l0 x5_1).f3) t105 t107 _ ?side1 ?side2 A13.out).mono ?_); (case side1 => exact cX (cB HR106_3.out HB.out)); (case side2 => exact HC106_3.out); rintro e w18 ⟨rfl, hb⟩; refine ⟨_, rfl, ?_⟩; have _ := AM (below_step (bX HB.out) hb); clear HB; rename_i HB; (try clear hb); (try clear hk)))
        go_ret
        exact ⟨by first | rfl | (simp [*, errW_none, errW_some] <;> rfl), bX HB.out⟩
       rw [if_neg c14] at H; have c14b0 := dN c14; clear c14; have H' := AM H; clear H; try go_wp2
       have _ := AM (bD HB.out); clear HB; rename_i HB; have p101 : 0 ≤ (x5_1 : Int) := oD ‹_›; have q101 : x5_1 < (l0.length : Int) := oD ‹_›; obtain ⟨ad101, A101_2, c101_2, A101_3, c101_3, e101, hx101_0, hx101_1, hx101_2, hx101_3, hl101_2, hi101_2, hl101_3, hi101_3⟩ := at_T44 HR0.out x5_1 p101 q101; have hw101_3 := hx101_3; have hw101_2 := hx101_2; have hw101_1 := hx101_1; have hw101_0 := hx101_0; cases e101; replace hx101_0 := pB HB.out hx101_0; replace hx101_1 := pB HB.out hx101_1; replace hx101_2 := pB HB.out hx101_2; replace hx101_3 := pB HB.out hx101_3; have HR101_2 := AM hi101_2; have HC101_2 := AM hl101_2; clear hi101_2 hl101_2; have HR101_3 := AM hi101_3; have HC101_3 := AM hl101_3; clear hi101_3 hl101_3; replace p101 := eq_true p101; replace q101 := eq_true q101; refine start_ (n := 8) (S := fun w' => w'.cell? (ad101.add ((x5_1).toNat * 4)) = some (.string ((rd_T44 l0 x5_1).f0)) ∧ w'.cell? ⟨(ad101.add ((x5_1).toNat * 4)).block, (ad101.add ((x5_1).toNat * 4)).off + 1, none⟩ = some (.int .i64 ((rd_T44 l0 x5_1).f1)) ∧ w'.cell? ⟨(ad101.add ((x5_1).toNat * 4)).block, (ad101.add ((x5_1).toNat * 4)).off + 2, none⟩ = some (.slice A101_2 ((rd_T44 l0 x5_1).f2).length c101_2) ∧ w'.cell? ⟨(ad101.add ((x5_1).toNat * 4)).block, (ad101.add ((x5_1).toNat * 4)).off + 3, none⟩ = some (.slice A101_3 ((rd_T44 l0 x5_1).f3).length c101_3)) (ds := []) (upTo 0 8) (by kernel_rfl) rfl rfl ⟨(pB HB.out hw101_0), (pB HB.out hw101_1), (pB HB.out hw101_2), (pB HB.out hw101_3)⟩ (fun hHeld => ?_); refine with_tabW laws_heldTopicS.tab4 laws_heldTopicS.bits4 (fun HT_ HW_ => ?_); generalize wr.drew = w19 at HB HR101_2 HR101_3 hx101_0 hx101_1 hx101_2 hx101_3 hHeld ⊢; refine pF 0 1 8 12 ?_; refine pF 1 2 8 13 ?_; refine pF 2 3 8 14 ?_; refine pF 3 4 8 15 ?_; refine pF2 5 17 laws_heldTopicS.b0 ?_; refine pT2 4 16 (upTo 6 8) ?_ hHeld; refine oU 6 18 (upTo 7 8) HT_.out (fun K hK => ?_); refine gs Try.func64 #[.int .i64 x1_1] ?_; with_reducible refine (laws_markText.calls k1 x1_1 t102 _ A5.out).mono ?_
       rintro e w20 ⟨rfl, hb⟩; refine ⟨_, rfl, ?_⟩; have _ := AM (below_step (bX HB.out) hb); clear HB; rename_i HB; (try clear hb); (try clear hk); refine hK.out _ _ ⟨(pB HB.out hw101_0), (pB HB.out hw101_1), (pB HB.out hw101_2), (pB HB.out hw101_3)⟩ (fun hHeld => ?_); clear hK K; refine norm_ (a' := ?_) ?_ ?_; rotate_left
       ·
        show Act.put _ (some 18) _ = _
        simp only [Act.put, sA, sB, sC, i64_w, i32_w]
        rfl
       refine pF 7 8 8 19 ?_; refine done_ (done_of HT_.out (by kernel_rfl)) ?_; have p103 : 0 ≤ (x5_1 : Int) := oD ‹_›; have q103 : x5_1 < (l0.length : Int) := oD ‹_›; obtain ⟨ad103, A103_2, c103_2, A103_3, c103_3, e103, hx103_0, hx103_1, hx103_2, hx103_3, hl103_2, hi103_2, hl103_3, hi103_3⟩ := at_T44 HR0.out x5_1 p103 q103; obtain rfl : ad101 = ad103 := (by injection e103); have ea_ := Option.some.inj (hx103_2.symm.trans hw101_2)
       injection ea_ with ea_ en_ ec_
       subst ea_; subst ec_; clear en_; have ea_ := Option.some.inj (hx103_3.symm.trans hw101_3)
       injection ea_ with ea_ en_ ec_
       subst ea_; subst ec_; clear en_; replace hx103_0 := pB HB.out hx103_0; replace hx103_1 := pB HB.out hx103_1; replace hx103_2 := pB HB.out hx103_2; replace hx103_3 := pB HB.out hx103_3; have HR103_2 := AM hi103_2; have HC103_2 := AM hl103_2; clear hi103_2 hl103_2; have HR103_3 := AM hi103_3; have HC103_3 := AM hl103_3; clear hi103_3 hl103_3; replace p103 := eq_true p103; replace q103 := eq_true q103; have p104 : 0 ≤ (x5_1 : Int) := oD ‹_›; have q104 : x5_1 < (l0.length : Int) := oD ‹_›; obtain ⟨ad104, A104_2, c104_2, A104_3, c104_3, e104, hx104_0, hx104_1, hx104_2, hx104_3, hl104_2, hi104_2, hl104_3, hi104_3⟩ := at_T44 HR0.out x5_1 p104 q104; obtain rfl : ad101 = ad104 := (by injection e104); replace hx104_0 := pB HB.out hx104_0; replace hx104_1 := pB HB.out hx104_1; replace hx104_2 := pB HB.out hx104_2; replace hx104_3 := pB HB.out hx104_3; have HR104_2 := AM hi104_2; have HC104_2 := AM hl104_2; clear hi104_2 hl104_2; have HR104_3 := AM hi104_3; have HC104_3 := AM hl104_3; clear hi104_3 hl104_3; replace p104 := eq_true p104; replace q104 := eq_true q104; have ea_ := Option.some.inj (hx103_2.symm.trans hx104_2)
       injection ea_ with ea_ en_ ec_
       subst ea_; subst ec_; clear en_; have ea_ := Option.some.inj (hx103_3.symm.trans hx104_3)
       injection ea_ with ea_ en_ ec_
       subst ea_; subst ec_; clear en_; try go_wp2_with (first | ((with_reducible refine gate_callee (f := 67) rfl ?_); refine gL (some 37) Try.func67 #[.slice A103_2 ((rd_T44 l0 x5_1).f2).length c103_2, .int .i64 (wrap64 ((wrap64 (x1_1 + 1)) + 1))] ?_; (with_reducible refine (laws_heldStringS.calls k1 _ _ ((rd_T44 l0 x5_1).f2) (wrap64 ((wrap64 (x1_1 + 1)) + 1)) t105 _ ?side1 ?side2 A8.out).mono ?_); (case side1 => exact cX (cB HR104_2.out HB.out)); (case side2 => exact HC104_2.out); rintro e w21 ⟨rfl, hb⟩; refine ⟨_, rfl, ?_⟩; have _ := AM (below_step (bX HB.out) hb); clear HB; rename_i HB; (try clear hb); (try clear hk); have p106 : 0 ≤ (x5_1 : Int) := oD ‹_›; have q106 : x5_1 < (l0.length : Int) := oD ‹_›; obtain ⟨ad106, A106_2, c106_2, A106_3, c106_3, e106, hx106_0, hx106_1, hx106_2, hx106_3, hl106_2, hi106_2, hl106_3, hi106_3⟩ := at_T44 HR0.out x5_1 p106 q106; obtain rfl : ad101 = ad106 := (by injection e106); replace hx106_0 := (HB.out.cell (World.block_lt_of_cell? w _ hx106_0)).trans hx106_0; replace hx106_1 := (HB.out.cell (World.block_lt_of_cell? w _ hx106_1)).trans hx106_1; replace hx106_2 := (HB.out.cell (World.block_lt_of_cell? w _ hx106_2)).trans hx106_2; replace hx106_3 := (HB.out.cell (World.block_lt_of_cell? w _ hx106_3)).trans hx106_3; have HR106_2 := AM hi106_2; have HC106_2 := AM hl106_2; clear hi106_2 hl106_2; have HR106_3 := AM hi106_3; have HC106_3 := AM hl106_3; clear hi106_3 hl106_3; replace p106 := eq_true p106; replace q106 := eq_true q106) | ((with_reducible refine gate_callee (f := 68) rfl ?_); refine gL (some 46) Try.func68 #[.slice A106_3 ((rd_T44 l0 x5_1).f3).length c106_3, .int .i64 t105] ?_; (with_reducible refine (laws_heldGroupS.calls k1 _ _ ((rd_T44 l0 x5_1).f3) t105 t107 _ ?side1 ?side2 A13.out).mono ?_); (case side1 => exact cX (cB HR106_3.out HB.out)); (case side2 => exact HC106_3.out); rintro e w22 ⟨rfl, hb⟩; refine ⟨_, rfl, ?_⟩; have _ := AM (below_step (bX HB.out) hb); clear HB; rename_i HB; (try clear hb); (try clear hk)))
       go_roundg k1
       case measure => have := HK1.out; omega
       case rel => exact ⟨(t107), (wrap64 (x5_1 + 1)), (by first | rfl | (simp; done) | (simp [*]; done)), (by first | rfl | (simp; done) | (simp [*]; done)), H', ⟨by have := HK1.out; omega⟩, ⟨bX HB.out⟩⟩
      rw [if_neg c7] at H; have c7b0 : (((rd_T44 l0 x5_1).f1) == (wrap64 (x1_1 + 1))) = false := beq_eq_false_iff_ne.mpr c7; have c7b1 : (((rd_T44 l0 x5_1).f1) != (wrap64 (x1_1 + 1))) = true := bne_iff_ne.mpr c7; obtain rfl := Option.some.inj H; try go_wp2
      have _ := AM (bD HB.out); clear HB; rename_i HB; have p101 : 0 ≤ (x5_1 : Int) := oD ‹_›; have q101 : x5_1 < (l0.length : Int) := oD ‹_›; obtain ⟨ad101, A101_2, c101_2, A101_3, c101_3, e101, hx101_0, hx101_1, hx101_2, hx101_3, hl101_2, hi101_2, hl101_3, hi101_3⟩ := at_T44 HR0.out x5_1 p101 q101; have hw101_3 := hx101_3; have hw101_2 := hx101_2; have hw101_1 := hx101_1; have hw101_0 := hx101_0; cases e101; replace hx101_0 := pB HB.out hx101_0; replace hx101_1 := pB HB.out hx101_1; replace hx101_2 := pB HB.out hx101_2; replace hx101_3 := pB HB.out hx101_3; have HR101_2 := AM hi101_2; have HC101_2 := AM hl101_2; clear hi101_2 hl101_2; have HR101_3 := AM hi101_3; have HC101_3 := AM hl101_3; clear hi101_3 hl101_3; replace p101 := eq_true p101; replace q101 := eq_true q101; refine start_ (n := 8) (S := fun w' => w'.cell? (ad101.add ((x5_1).toNat * 4)) = some (.string ((rd_T44 l0 x5_1).f0)) ∧ w'.cell? ⟨(ad101.add ((x5_1).toNat * 4)).block, (ad101.add ((x5_1).toNat * 4)).off + 1, none⟩ = some (.int .i64 ((rd_T44 l0 x5_1).f1)) ∧ w'.cell? ⟨(ad101.add ((x5_1).toNat * 4)).block, (ad101.add ((x5_1).toNat * 4)).off + 2, none⟩ = some (.slice A101_2 ((rd_T44 l0 x5_1).f2).length c101_2) ∧ w'.cell? ⟨(ad101.add ((x5_1).toNat * 4)).block, (ad101.add ((x5_1).toNat * 4)).off + 3, none⟩ = some (.slice A101_3 ((rd_T44 l0 x5_1).f3).length c101_3)) (ds := []) (upTo 0 8) (by kernel_rfl) rfl rfl ⟨(pB HB.out hw101_0), (pB HB.out hw101_1), (pB HB.out hw101_2), (pB HB.out hw101_3)⟩ (fun hHeld => ?_); refine with_tabW laws_heldTopicS.tab4 laws_heldTopicS.bits4 (fun HT_ HW_ => ?_); generalize wr.drew = w23 at HB HR101_2 HR101_3 hx101_0 hx101_1 hx101_2 hx101_3 hHeld ⊢; refine pF 0 1 8 12 ?_; refine pF 1 2 8 13 ?_; refine pF 2 3 8 14 ?_; refine pF 3 4 8 15 ?_; refine pF2 5 17 laws_heldTopicS.b0 ?_; refine pT2 4 16 (upTo 6 8) ?_ hHeld; refine oU 6 18 (upTo 7 8) HT_.out (fun K hK => ?_); refine gs Try.func64 #[.int .i64 x1_1] ?_; with_reducible refine (laws_markText.calls k1 x1_1 t102 _ A5.out).mono ?_
      rintro e w24 ⟨rfl, hb⟩; refine ⟨_, rfl, ?_⟩; have _ := AM (below_step (bX HB.out) hb); clear HB; rename_i HB; (try clear hb); (try clear hk); refine hK.out _ _ ⟨(pB HB.out hw101_0), (pB HB.out hw101_1), (pB HB.out hw101_2), (pB HB.out hw101_3)⟩ (fun hHeld => ?_); clear hK K; refine norm_ (a' := ?_) ?_ ?_; rotate_left
      ·
       show Act.put _ (some 18) _ = _
       simp only [Act.put, sA, sB, sC, i64_w, i32_w]
       rfl
      refine pF 7 8 8 19 ?_; refine done_ (done_of HT_.out (by kernel_rfl)) ?_; have p103 : 0 ≤ (x5_1 : Int) := oD ‹_›; have q103 : x5_1 < (l0.length : Int) := oD ‹_›; obtain ⟨ad103, A103_2, c103_2, A103_3, c103_3, e103, hx103_0, hx103_1, hx103_2, hx103_3, hl103_2, hi103_2, hl103_3, hi103_3⟩ := at_T44 HR0.out x5_1 p103 q103; obtain rfl : ad101 = ad103 := (by injection e103); have ea_ := Option.some.inj (hx103_2.symm.trans hw101_2)
      injection ea_ with ea_ en_ ec_
      subst ea_; subst ec_; clear en_; have ea_ := Option.some.inj (hx103_3.symm.trans hw101_3)
      injection ea_ with ea_ en_ ec_
      subst ea_; subst ec_; clear en_; replace hx103_0 := pB HB.out hx103_0; replace hx103_1 := pB HB.out hx103_1; replace hx103_2 := pB HB.out hx103_2; replace hx103_3 := pB HB.out hx103_3; have HR103_2 := AM hi103_2; have HC103_2 := AM hl103_2; clear hi103_2 hl103_2; have HR103_3 := AM hi103_3; have HC103_3 := AM hl103_3; clear hi103_3 hl103_3; replace p103 := eq_true p103; replace q103 := eq_true q103; try go_wp2
      go_ret
      exact ⟨by first | rfl | (simp [*, errW_none, errW_some] <;> rfl), bX HB.out⟩
     rw [if_neg c6] at H; have c6b0 : (((rd_T44 l0 x5_1).f0).toList == t102.toList) = false := beq_eq_false_iff_ne.mpr c6; have c6b1 : (((rd_T44 l0 x5_1).f0).toList != t102.toList) = true := bne_iff_ne.mpr c6; obtain rfl := Option.some.inj H; try go_wp2
     have _ := AM (bD HB.out); clear HB; rename_i HB; have p101 : 0 ≤ (x5_1 : Int) := oD ‹_›; have q101 : x5_1 < (l0.length : Int) := oD ‹_›; obtain ⟨ad101, A101_2, c101_2, A101_3, c101_3, e101, hx101_0, hx101_1, hx101_2, hx101_3, hl101_2, hi101_2, hl101_3, hi101_3⟩ := at_T44 HR0.out x5_1 p101 q101; have hw101_3 := hx101_3; have hw101_2 := hx101_2; have hw101_1 := hx101_1; have hw101_0 := hx101_0; cases e101; replace hx101_0 := pB HB.out hx101_0; replace hx101_1 := pB HB.out hx101_1; replace hx101_2 := pB HB.out hx101_2; replace hx101_3 := pB HB.out hx101_3; have HR101_2 := AM hi101_2; have HC101_2 := AM hl101_2; clear hi101_2 hl101_2; have HR101_3 := AM hi101_3; have HC101_3 := AM hl101_3; clear hi101_3 hl101_3; replace p101 := eq_true p101; replace q101 := eq_true q101; refine start_ (n := 8) (S := fun w' => w'.cell? (ad101.add ((x5_1).toNat * 4)) = some (.string ((rd_T44 l0 x5_1).f0)) ∧ w'.cell? ⟨(ad101.add ((x5_1).toNat * 4)).block, (ad101.add ((x5_1).toNat * 4)).off + 1, none⟩ = some (.int .i64 ((rd_T44 l0 x5_1).f1)) ∧ w'.cell? ⟨(ad101.add ((x5_1).toNat * 4)).block, (ad101.add ((x5_1).toNat * 4)).off + 2, none⟩ = some (.slice A101_2 ((rd_T44 l0 x5_1).f2).length c101_2) ∧ w'.cell? ⟨(ad101.add ((x5_1).toNat * 4)).block, (ad101.add ((x5_1).toNat * 4)).off + 3, none⟩ = some (.slice A101_3 ((rd_T44 l0 x5_1).f3).length c101_3)) (ds := []) (upTo 0 8) (by kernel_rfl) rfl rfl ⟨(pB HB.out hw101_0), (pB HB.out hw101_1), (pB HB.out hw101_2), (pB HB.out hw101_3)⟩ (fun hHeld => ?_); refine with_tabW laws_heldTopicS.tab4 laws_heldTopicS.bits4 (fun HT_ HW_ => ?_); generalize wr.drew = w25 at HB HR101_2 HR101_3 hx101_0 hx101_1 hx101_2 hx101_3 hHeld ⊢; refine pF 0 1 8 12 ?_; refine pF 1 2 8 13 ?_; refine pF 2 3 8 14 ?_; refine pF 3 4 8 15 ?_; refine pF2 5 17 laws_heldTopicS.b0 ?_; refine pT2 4 16 (upTo 6 8) ?_ hHeld; refine oU 6 18 (upTo 7 8) HT_.out (fun K hK => ?_); refine gs Try.func64 #[.int .i64 x1_1] ?_; with_reducible refine (laws_markText.calls k1 x1_1 t102 _ A5.out).mono ?_
     rintro e w26 ⟨rfl, hb⟩; refine ⟨_, rfl, ?_⟩; have _ := AM (below_step (bX HB.out) hb); clear HB; rename_i HB; (try clear hb); (try clear hk); refine hK.out _ _ ⟨(pB HB.out hw101_0), (pB HB.out hw101_1), (pB HB.out hw101_2), (pB HB.out hw101_3)⟩ (fun hHeld => ?_); clear hK K; refine norm_ (a' := ?_) ?_ ?_; rotate_left
     ·
      show Act.put _ (some 18) _ = _
      simp only [Act.put, sA, sB, sC, i64_w, i32_w]
      rfl
     refine pF 7 8 8 19 ?_; refine done_ (done_of HT_.out (by kernel_rfl)) ?_; try go_wp2
     go_ret
     exact ⟨by first | rfl | (simp [*, errW_none, errW_some] <;> rfl), bX HB.out⟩
    rw [if_neg c4] at H; exact absurd H (by simp)
   rw [if_neg c3] at H; have c3b0 := dN c3; clear c3; obtain rfl := Option.some.inj H; go_wp2
   go_ret
   exact ⟨by first | rfl | (simp [*, errW_none, errW_some] <;> rfl), bX HB.out⟩

end Go.Proofs.Ytcaildjhnkedfaa.Q
