/- A row of strings of one's own that the library writes anew: sorted, or without equal neighbours. No condition. -/
import Derived.Test.YtmfbkkjlijaabaaV
import Derived.Test.YtmfbkkjlijaabaaShelf
import Derived.Sort.Grow
import Derived.RegionTactic
import Derived.BigRegion
namespace Go.Proofs.Ytmfbkkjlijaabaa.HB
open Go.RowKit Go.Proofs.YtmfbkkjlijaabaaW.PrintWords Go.Proofs.YtmfbkkjlijaabaaW.PrintLast Go.Proofs.YtmfbkkjlijaabaaW.PrintMore

theorem strs_written {w : World} {base g cap q e : Nat} {os : Array Obj} {ok : Nat → Prop} {l r ys : List ByteArray}
    (h : Kd.R Kd.string e w base ok (.slice (some ⟨g, 0, none⟩) l.length cap) l) (hy : ys.length = l.length) (hr : ys.take r.length = r) (hrl : r.length ≤ l.length) :
    Kd.R Kd.string e (Sort.grow ((w.drewN q).setCells g 0 (ys.map Value.string)) os) base ok (.slice (some ⟨g, 0, none⟩) r.length cap) r ∧ w.grownBy (Sort.grow ((w.drewN q).setCells g 0 (ys.map Value.string)) os) (some g) ∧ base ≤ g := by
  have ho := Kd.own_of_R h
  rcases ho.2 with ⟨he, _⟩ | ⟨g', cap', cur, he, hg, hh, hn, hm, hs, ht⟩
  · cases he
  · cases he
    have hlt : g < w.heap.size := blk_lt hh
    obtain ⟨cur', h3, h4, h5⟩ := setCells_row (ys.map Value.string) 0 (w.drewN q) cur hh (by simp; omega)
    obtain ⟨s1, s2, s3, s4⟩ := setCells_same g (ys.map Value.string) 0 (w.drewN q)
    have s4' : ((w.drewN q).setCells g 0 (ys.map Value.string)).heap.size = w.heap.size := s4
    refine ⟨Kd.R_of_own ⟨by simp [encs], .inr ⟨g, cap, cur', rfl, hg, ?_, by omega, hm, by rw [h4, hs], ?_⟩⟩ (fun k hk => h.1 k (by simpa [Value.ownBlock] using hk)), ⟨?_, ?_, ?_, ?_, ?_⟩, hg⟩
    · rw [Sort.heap_grow_old _ _ (by rw [s4']; exact hlt)]
      exact h3
    · rw [h5]
      simp only [List.take_zero, List.nil_append, Nat.mul_one, encs]
      rw [List.take_append_of_le_length (by simp; omega), ← List.map_take, hr]
    · exact s1
    · exact s2
    · exact s3
    · simp [s4']
    · intro k hk hne
      rw [Sort.heap_grow_old _ _ (by rw [s4']; exact hk), setCells_far _ _ k (fun e => hne (by rw [e]))]
      rfl
/-- What the cells of such a row hold. -/
theorem strs_cells {w : World} {base g cap e : Nat} {ok : Nat → Prop} {l : List ByteArray} (h : Kd.R Kd.string e w base ok (.slice (some ⟨g, 0, none⟩) l.length cap) l) :
    l.length ≤ cap ∧ cap ≤ maxLen ∧ g < w.heap.size ∧ (∀ i, i < l.length → w.cell? ⟨g, 0 + i, none⟩ = some (.string (l.getD i ⟨#[]⟩))) ∧ (∀ i, w.frozen? ⟨g, 0 + i, none⟩ = false) := by
  have ho := Kd.own_of_R h
  rcases ho.2 with ⟨he, _⟩ | ⟨g', cap', cur, he, hg, hh, hn, hm, hs, ht⟩
  · cases he
  · cases he
    refine ⟨hn, hm, blk_lt hh, fun i hi => ?_, fun i => blk_frozen hh _⟩
    rw [cell_of_row w g _ cur e (0, 0) hh, Nat.zero_add]
    have : (cur.toList.take (l.length * 1))[i]? = (encs Value.string l)[i]? := by rw [ht]
    rw [List.getElem?_take, if_pos (by omega)] at this
    rw [← Array.getElem?_toList, this]
    simp [encs, List.getD, hi]
theorem strs_of {l : List ByteArray} : Lib.strsOf (fun i => l.getD i ⟨#[]⟩) l.length = l.map (·.data.toList) := by
  refine List.ext_getElem (by simp [Lib.strsOf]) fun i h1 h2 => ?_
  have : i < l.length := by simpa [Lib.strsOf] using h1
  simp [Lib.strsOf, List.getD, this]
/-- Without equal neighbours. -/
def compactS (l : List ByteArray) : List ByteArray := (Lib.compact (l.map (·.data.toList))).map (fun x => ⟨x.toArray⟩)
/-- In order. -/
def sortS (l : List ByteArray) : List ByteArray := ((l.map (·.data.toList)).mergeSort fun x y => decide (x ≤ y)).map (fun x => ⟨x.toArray⟩)
theorem compactS_len (l : List ByteArray) : (compactS l).length ≤ l.length := by
  have := Lib.compact_length_le (l.map (·.data.toList))
  simpa [compactS] using this
theorem sortS_len (l : List ByteArray) : (sortS l).length = l.length := by simp [sortS, List.length_mergeSort]
end Go.Proofs.Ytmfbkkjlijaabaa.HB
