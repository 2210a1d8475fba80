/- Comparisons and marks of rows of fresh operations. -/
import Derived.Test.YtmaliehmbodioaaQx6
import Derived.Test.YtmaliehmbodioaaQx7
import Derived.Test.YtmaliehmbodioaaQPlMarkText
import Derived.Test.YtmaliehmbodioaaQPlLoops
namespace Go.Proofs.Ytmaliehmbodioaa.Q
open Go.RowKit Go.Proofs.YtmaliehmbodioaaW.PrintWords Go.Proofs.YtmaliehmbodioaaW.PrintLast Go.Proofs.Ytmaliehmbodioaa.HB
set_option linter.unusedVariables false
set_option linter.unusedSimpArgs false

abbrev FR := S67
theorem fbind {α β : Type} (a : α) (f : α → Option β) : (some a).bind f = f a := of_eq_true (eq_self _)
theorem eqFreshS_eq {l : List FR} (hl : l.length ≤ 9223372036854775807) {k : Nat} (hk : l.length < k) : laws_eqFreshS.f k l l = some true := by
  unfold laws_eqFreshS.f
  rw [if_pos rfl]
  refine upLoop (n := l.length) (m := 0) (F := fun k i => laws_eqFreshS.l0 k l l i) (fun k => ?_) (fun k i hm hi => ?_) l.length k 0 (by omega) (by omega)
  · simp only [laws_eqFreshS.l0]
    rw [if_neg (by omega)]
  · simp only [laws_eqFreshS.l0]
    rw [if_pos (by omega), if_pos (by omega), if_pos (by omega), w_nat hi hl]
    simp [laws_eqFresh.f]
theorem rd_midF (a : List FR) (x : FR) (b : List FR) : rd_T67 (a ++ x :: b) (a.length : Int) = x := by
  show (a ++ x :: b).getD a.length _ = x
  rw [List.getD_eq_getElem?_getD, List.getElem?_append_right (Nat.le_refl _), Nat.sub_self]
  rfl
theorem set_midF (a : List FR) (x y : FR) (b : List FR) : (a ++ x :: b).set a.length y = a ++ y :: b := by
  rw [List.set_append_right _ _ (Nat.le_refl _), Nat.sub_self, List.set_cons_zero]
theorem fwrap {n : Int} (h0 : 0 ≤ n) (h1 : n ≤ 1000000000) : wrap64 (n + 1) = n + 1 := w_id (by omega) (by omega)
theorem markFresh : ∀ (rest done : List FR) (m : Int) (k : Nat), 0 ≤ m → m + 2 * (rest.length : Int) ≤ 100000 → done.length + rest.length ≤ 1000 → rest.length + 40 < k →
    ∃ rest', laws_markFreshS.l0 k (done ++ rest) m (done.length : Int) = some (m + 2 * (rest.length : Int), done ++ rest') ∧ rest'.length = rest.length ∧
      ∀ (done2 : List FR) (k2 : Nat), done2.length = done.length → rest.length + 40 < k2 → laws_heldFreshS.l0 k2 (done2 ++ rest') m (done2.length : Int) = some (m + 2 * (rest.length : Int))
  | [], done, m, k, h0, h1, hn, hk => by
    obtain ⟨k, rfl⟩ : ∃ q, k = q + 1 := ⟨k - 1, by omega⟩
    refine ⟨[], ?_, rfl, fun done2 k2 h2 hk2 => ?_⟩
    · simp only [laws_markFreshS.l0]
      rw [if_neg (by simp)]
      simp
    · obtain ⟨k2, rfl⟩ : ∃ q, k2 = q + 1 := ⟨k2 - 1, by omega⟩
      simp only [laws_heldFreshS.l0]
      rw [if_neg (by simp)]
      simp
  | p :: rest, done, m, k, h0, h1, hn, hk => by
    obtain ⟨k, rfl⟩ : ∃ q, k = q + 1 := ⟨k - 1, by omega⟩
    simp only [List.length_cons] at h1 hn hk
    obtain ⟨rest', r1, r2, r5⟩ := markFresh rest (done ++ [(⟨m, mt (m + 1)⟩ : FR)]) (m + 1 + 1) k (by omega) (by omega) (by simp; omega) (by omega)
    have w1 := fwrap (n := m) (by omega) (by omega)
    have w2 := fwrap (n := m + 1) (by omega) (by omega)
    have w4 : ∀ d : List FR, d.length = done.length → wrap64 ((d.length : Int) + 1) = ((d.length + 1 : Nat) : Int) := fun d hd => by rw [w_id (by omega) (by omega)]; omega
    have em : m + 1 + 1 + 2 * (rest.length : Int) = m + 2 * (((p :: rest).length : Nat) : Int) := by simp only [List.length_cons]; omega
    refine ⟨(⟨m, mt (m + 1)⟩ : FR) :: rest', ?_, by simp [r2], fun done2 k2 h2 hk2 => ?_⟩
    · simp only [laws_markFreshS.l0]
      rw [if_pos (by simp; omega), if_pos (by omega), fbind, Int.toNat_natCast, set_midF, w1, markText_eq (by omega) (by omega) (by omega), fbind, rd_midF, set_midF, rd_midF, w2, w4 done rfl]
      have e := r1
      simp only [List.append_assoc, List.singleton_append, List.length_append, List.length_singleton] at e
      rw [← em]
      exact e
    · simp only [List.length_cons] at hk2
      obtain ⟨k2, rfl⟩ : ∃ q, k2 = q + 1 := ⟨k2 - 1, by omega⟩
      simp only [laws_heldFreshS.l0]
      rw [if_pos (by simp; omega), if_pos (by omega), rd_midF, w1, w2, if_pos rfl, markText_eq (by omega) (by omega) (by omega), fbind, if_pos rfl, w4 done2 h2]
      have e := r5 (done2 ++ [(⟨m, mt (m + 1)⟩ : FR)]) k2 (by simp [h2]) (by omega)
      simp only [List.append_assoc, List.singleton_append, List.length_append, List.length_singleton] at e
      rw [← em]
      exact e
theorem markFreshS_1 {l : List FR} (hl : l.length ≤ 1000) {k : Nat} (hk : l.length + 40 < k) :
    ∃ m o, laws_markFreshS.f k l 1 = some (m, o) ∧ 0 ≤ m ∧ laws_heldFreshS.f k o 1 = some m := by
  obtain ⟨o, h1, h2, h5⟩ := markFresh l [] 1 k (by omega) (by omega) (by simpa using hl) hk
  exact ⟨_, o, h1, by omega, h5 [] k rfl hk⟩

end Go.Proofs.Ytmaliehmbodioaa.Q
