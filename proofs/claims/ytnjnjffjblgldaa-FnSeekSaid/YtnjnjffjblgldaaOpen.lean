/- A reading of a type gives an element of its kind: whole numbers, bools, strings, slices, structs. No condition. -/
import Derived.Test.YtnjnjffjblgldaaV
import Derived.Deep.Slices
import Derived.Lib.SmallJoins
namespace Go.Proofs.Ytnjnjffjblgldaa.Opn
open Go.ChangeShapes Go.WideShapes Go.Proofs.YtnjnjffjblgldaaW.PrintWords

/-- What reads at type t is of kind d, and G holds of it. -/
structure Opens {α : Type} (P : Program) (t : TypeId) (d : Kd α) (G : α → Prop) : Prop where
  mk :: (out : ∀ (H : Type) (enc : TypeId × Value → H) (w : World) (fuel : Nat) (cs : List Value) (x : DataW H × List MemPlace),
    DataW.trod enc P w 0 (fun _ => true) true fuel t cs = some x → ∃ y, d.K w y cs ∧ G y)

theorem opens_int {P : Program} {t : TypeId} {k : IntKind} (h : P.underlying t = some (.int k)) : Opens P t (Kd.int k) (fun y => (Lit.int k y).wf = true) := by
  refine ⟨fun H enc w fuel cs x hx => ?_⟩
  obtain ⟨m, rfl, _, hw⟩ := DataW.trod_int h hx
  exact ⟨m, rfl, hw⟩

theorem opens_bool {P : Program} {t : TypeId} (h : P.underlying t = some .bool) : Opens P t Kd.bool (fun _ => True) := by
  refine ⟨fun H enc w fuel cs x hx => ?_⟩
  obtain ⟨m, rfl, _⟩ := DataW.trod_bool h hx
  exact ⟨m, rfl, trivial⟩

theorem opens_string {P : Program} {t : TypeId} (h : P.underlying t = some .string) : Opens P t Kd.string (fun y => y.size ≤ maxLen) := by
  refine ⟨fun H enc w fuel cs x hx => ?_⟩
  obtain ⟨m, rfl, _, hm⟩ := DataW.trod_string h hx
  exact ⟨m, rfl, hm⟩

theorem cells_each {w : World} {a : Addr} {n : Nat} {cs : List Value} (h : w.cells? 0 a n = some cs) : cs.length = n ∧ ∀ i u, cs[i]? = some u → w.cell? (a.add i) = some u := by
  obtain ⟨_, hl, hc⟩ := World.cells?_some h
  refine ⟨hl, fun i u hu => ?_⟩
  have hi : i < cs.length := (List.getElem?_eq_some_iff.1 hu).1
  have := hc i (by omega)
  rw [hu] at this
  exact this

theorem opens_slice {α : Type} {P : Program} {t e : TypeId} {d : Kd α} {G : α → Prop} (h : P.underlying t = some (.slice e)) (hs : P.cellsOf e = d.sz) (he : Opens P e d G) :
    Opens P t (Kd.slice e d) (fun ys => ys.length ≤ maxLen ∧ ∀ y ∈ ys, G y) := by
  refine ⟨fun H enc w fuel cs x hx => ?_⟩
  rcases Go.Deep.open_slice h hx with ⟨rfl, _⟩ | ⟨a, len, cap, m, n, D, Pl, rfl, _, hl, hm, rfl, _, hE⟩
  · exact ⟨[], ⟨none, 0, rfl, Nat.le_refl _, Kd.C_nil d w⟩, by simp, by simp⟩
  · have hE2 : ∀ i, i < len → ∃ p : α × List Value, w.cells? 0 (a.add (i * P.cellsOf e)) (P.cellsOf e) = some p.2 ∧ d.K w p.1 p.2 ∧ G p.1 := by
      intro i hi
      obtain ⟨cs', h1, h2⟩ := hE i (by omega)
      obtain ⟨y, hy, hg⟩ := he.out H enc w n cs' _ h2
      exact ⟨(y, cs'), h1, hy, hg⟩
    classical
    have hf : ∀ i : Fin len, ∃ p : α × List Value, w.cells? 0 (a.add (i.1 * P.cellsOf e)) (P.cellsOf e) = some p.2 ∧ d.K w p.1 p.2 ∧ G p.1 := fun i => hE2 i.1 i.2
    let f : Fin len → α × List Value := fun i => Classical.choose (hf i)
    have hF : ∀ i, w.cells? 0 (a.add (i.1 * P.cellsOf e)) (P.cellsOf e) = some (f i).2 ∧ d.K w (f i).1 (f i).2 ∧ G (f i).1 := fun i => Classical.choose_spec (hf i)
    have hlen : (List.ofFn fun i => (f i).1).length = len := by simp
    refine ⟨List.ofFn fun i => (f i).1, ⟨some a, m, by rw [hlen], by rw [hlen]; exact hl, ?_⟩, by rw [hlen]; omega, ?_⟩
    · refine ⟨rfl, by rw [hlen]; unfold maxLen at hm; omega, fun _ => ⟨a, rfl, fun j p hp => ?_⟩⟩
      obtain ⟨hj, rfl⟩ := List.getElem?_eq_some_iff.1 hp
      rw [hlen] at hj
      obtain ⟨h1, h2, h3⟩ := hF ⟨j, hj⟩
      refine ⟨(f ⟨j, hj⟩).2, d.K_len h2, by simpa using h2, fun i u hu => ?_⟩
      obtain ⟨_, hc⟩ := cells_each h1
      have := hc i u hu
      rw [Go.Deep.add_add, hs] at this
      exact this
    · intro y hy
      obtain ⟨i, rfl⟩ := (List.mem_ofFn).1 hy
      exact (hF i).2.2

/-- Fields from an offset on. -/
structure OpensFs {β : Type} (P : Program) (fs : List Field) (off : Nat) (d : Kd β) (G : β → Prop) : Prop where
  mk :: (out : ∀ (H : Type) (enc : TypeId × Value → H) (w : World) (fuel : Nat) (cs : List Value) (xs : List (DataW H × List MemPlace)),
    cs.length = off + d.sz → fs.mapM (fun f => DataW.trod enc P w 0 (fun _ => true) true fuel f.type ((cs.drop f.offset).take (P.cellsOf f.type))) = some xs → ∃ y, d.K w y (cs.drop off) ∧ G y)

theorem opensFs_last {α : Type} {P : Program} {f : Field} {off : Nat} {d : Kd α} {G : α → Prop} (ho : f.offset = off) (hs : P.cellsOf f.type = d.sz) (h : Opens P f.type d G) : OpensFs P [f] off d G := by
  refine ⟨fun H enc w fuel cs xs hl hx => ?_⟩
  simp only [List.mapM_cons, List.mapM_nil, Option.pure_def, Option.bind_eq_bind] at hx
  obtain ⟨y, hy, _⟩ := Option.bind_eq_some_iff.1 hx
  rw [ho, hs, List.take_of_length_le (by rw [List.length_drop, hl]; omega)] at hy
  exact h.out H enc w fuel _ _ hy

theorem opensFs_cons {α β : Type} {P : Program} {f : Field} {fs : List Field} {off : Nat} {d : Kd α} {b : Kd β} {G : α → Prop} {Gb : β → Prop} (ho : f.offset = off) (hs : P.cellsOf f.type = d.sz) (h : Opens P f.type d G) (hb : OpensFs P fs (off + d.sz) b Gb) :
    OpensFs P (f :: fs) off (Kd.pair d b) (fun y => G y.1 ∧ Gb y.2) := by
  refine ⟨fun H enc w fuel cs xs hl hx => ?_⟩
  have hl2 : cs.length = off + d.sz + b.sz := by rw [hl]; show off + (d.sz + b.sz) = _; omega
  rw [List.mapM_cons] at hx
  simp only [Option.pure_def, Option.bind_eq_bind] at hx
  obtain ⟨y, hy, hx2⟩ := Option.bind_eq_some_iff.1 hx
  obtain ⟨ys, hys, _⟩ := Option.bind_eq_some_iff.1 hx2
  rw [ho, hs] at hy
  obtain ⟨u, hu, hg⟩ := h.out H enc w fuel _ _ hy
  obtain ⟨v, hv, hgb⟩ := hb.out H enc w fuel cs ys hl2 hys
  refine ⟨(u, v), ⟨_, _, ?_, hu, hv⟩, hg, hgb⟩
  rw [← List.drop_drop, List.take_append_drop]

theorem opens_struct {α β : Type} {P : Program} {t : TypeId} {fs : Array Field} {d : Kd β} {D : Kd α} {G : β → Prop} {G' : α → Prop} {f : α → β} (g : β → α) (hfg : ∀ y, f (g y) = y) (h : P.underlying t = some (.struct fs)) (hs : P.cellsOf t = d.sz) (hf : OpensFs P fs.toList 0 d G)
    (hD : Kd.iso d f = D) (hG : ∀ y, G (f y) → G' y) : Opens P t D G' := by
  refine ⟨fun H enc w fuel cs x hx => ?_⟩
  subst hD
  cases fuel with
  | zero => simp [DataW.trod] at hx
  | succ fuel =>
    rw [DataW.trod_step] at hx
    unfold DataW.trodStep at hx
    simp only [h] at hx
    split at hx
    · rename_i hl
      obtain ⟨xs, hxs, _⟩ := Option.map_eq_some_iff.1 hx
      obtain ⟨y, hy, hg⟩ := hf.out H enc w fuel cs xs (by rw [hl, hs]; omega) hxs
      refine ⟨g y, ?_, hG _ (by rw [hfg]; exact hg)⟩
      show d.K w (f (g y)) cs
      rw [hfg]
      exact hy
    · exact absurd hx (by simp)

end Go.Proofs.Ytnjnjffjblgldaa.Opn
