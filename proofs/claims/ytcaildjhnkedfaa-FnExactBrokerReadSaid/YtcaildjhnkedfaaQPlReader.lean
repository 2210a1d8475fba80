/- The readers' steps: a number and a text, by the program and by the reference. Texts of at most 20000 bytes. -/
import Derived.Test.YtcaildjhnkedfaaQx4
import Derived.Test.YtcaildjhnkedfaaQx5
import Derived.Test.YtcaildjhnkedfaaQx9
import Derived.Test.YtcaildjhnkedfaaQPlGet
namespace Go.Proofs.Ytcaildjhnkedfaa.Q
open Go.RowKit Go.Proofs.YtcaildjhnkedfaaW.PrintWords Go.Proofs.YtcaildjhnkedfaaW.PrintLast
set_option linter.unusedVariables false
set_option linter.unusedSimpArgs false

/-- A number that is read: its value, where it ends, whether it is ill. -/
def nV (t : ByteArray) (a : Int) : Int := if (getN t a).2.2 = 0 then (getN t a).1 else 0
def nA (t : ByteArray) (a : Int) : Int := if (getN t a).2.2 = 0 then (getN t a).2.1 else a
def nB (t : ByteArray) (a : Int) : Bool := decide ((getN t a).2.2 ≠ 0)
def wV (t : ByteArray) (a : Int) : ByteArray := if (getT t a).2.2 = 0 then (getT t a).1 else (⟨#[]⟩ : ByteArray)
def wA (t : ByteArray) (a : Int) : Int := if (getT t a).2.2 = 0 then (getT t a).2.1 else a
def wB (t : ByteArray) (a : Int) : Bool := decide ((getT t a).2.2 ≠ 0)
theorem nA_rng {t : ByteArray} (ht : t.size ≤ 20000) {a : Int} (ha : 0 ≤ a ∧ a ≤ 20000) : 0 ≤ nA t a ∧ nA t a ≤ 20000 := by
  unfold nA
  split
  · rename_i h
    have := getN_rng (t := t) ha.1 h
    omega
  · exact ha
theorem wA_rng {t : ByteArray} (ht : t.size ≤ 20000) {a : Int} (ha : 0 ≤ a ∧ a ≤ 20000) : 0 ≤ wA t a ∧ wA t a ≤ 20000 := by
  unfold wA
  split
  · rename_i h
    have := getT_rng (t := t) ha.1 h
    omega
  · exact ha
theorem nB_ok {t : ByteArray} {a : Int} (ha : 0 ≤ a) (h : nB t a = false) : a < nA t a ∧ nA t a ≤ t.size ∧ (-9223372036854775808 ≤ nV t a ∧ nV t a ≤ 9223372036854775807) ∧ numT (nV t a) = t.extract a.toNat (nA t a).toNat := by
  have h0 : (getN t a).2.2 = 0 := by simpa [nB] using h
  unfold nA nV
  rw [if_pos h0, if_pos h0]
  exact getN_ok ha (by rw [← h0])
theorem wB_ok {t : ByteArray} {a : Int} (ha : 0 ≤ a) (h : wB t a = false) : a < wA t a ∧ wA t a ≤ t.size ∧ (wV t a).size ≤ 20000 ∧ textT (wV t a) = t.extract a.toNat (wA t a).toNat := by
  have h0 : (getT t a).2.2 = 0 := by simpa [wB] using h
  unfold wA wV
  rw [if_pos h0, if_pos h0]
  exact getT_ok ha (by rw [← h0])
theorem impl_rnum {t : ByteArray} (ht : t.size ≤ 20000) {a : Int} (ha : 0 ≤ a ∧ a ≤ 20000) (b : Bool) {k : Nat} (hk : 40 ≤ k) : impl_reader_num.f k t a b = some (nV t a, t, nA t a, b || nB t a) := by
  unfold impl_reader_num.f nV nA nB
  rw [impl_getN ht ha.1 ha.2 hk]
  simp only [Option.bind_some]
  by_cases h : (getN t a).2.2 = 0
  · simp [h]
  · simp [h]
theorem impl_rword {t : ByteArray} (ht : t.size ≤ 20000) {a : Int} (ha : 0 ≤ a ∧ a ≤ 20000) (b : Bool) {k : Nat} (hk : 40 ≤ k) : impl_reader_word.f k t a b = some (wV t a, t, wA t a, b || wB t a) := by
  unfold impl_reader_word.f wV wA wB
  rw [impl_getT ht ha.1 ha.2 hk]
  simp only [Option.bind_some]
  by_cases h : (getT t a).2.2 = 0
  · simp [h]
  · simp [h]
theorem spec_rnum {t : ByteArray} (ht : t.size ≤ 20000) {a : Int} (ha : 0 ≤ a ∧ a ≤ 20000) {k : Nat} (hk : 40 ≤ k) : spec_l06Reader_num.f k t a false = some (nV t a, t, nA t a, nB t a) := by
  unfold spec_l06Reader_num.f nV nA nB
  rw [spec_getN ht ha.1 ha.2 hk]
  simp only [Option.bind_some]
  by_cases h : (getN t a).2.2 = 0
  · simp [h]
  · simp [h]
theorem spec_rtext {t : ByteArray} (ht : t.size ≤ 20000) {a : Int} (ha : 0 ≤ a ∧ a ≤ 20000) {k : Nat} (hk : 40 ≤ k) : spec_l06Reader_text.f k t a false = some (wV t a, t, wA t a, wB t a) := by
  unfold spec_l06Reader_text.f wV wA wB
  rw [spec_getT ht ha.1 ha.2 hk]
  simp only [Option.bind_some]
  by_cases h : (getT t a).2.2 = 0
  · simp [h]
  · simp [h]
theorem spec_rnum_bad {t : ByteArray} (ht : t.size ≤ 20000) {a : Int} (ha : 0 ≤ a ∧ a ≤ 20000) {k : Nat} (hk : 40 ≤ k) : spec_l06Reader_num.f k t a true = some (0, t, a, true) := by
  unfold spec_l06Reader_num.f
  rw [spec_getN ht ha.1 ha.2 hk]
  simp
theorem spec_rtext_bad {t : ByteArray} (ht : t.size ≤ 20000) {a : Int} (ha : 0 ≤ a ∧ a ≤ 20000) {k : Nat} (hk : 40 ≤ k) : spec_l06Reader_text.f k t a true = some ((⟨#[]⟩ : ByteArray), t, a, true) := by
  unfold spec_l06Reader_text.f
  rw [spec_getT ht ha.1 ha.2 hk]
  simp
theorem toList_eq {a b : ByteArray} : a.toList = b.toList ↔ a = b := by
  rw [Go.ByteArray.toList_eq, Go.ByteArray.toList_eq]
  constructor
  · intro h
    exact ByteArray.ext (Array.toList_inj.1 h)
  · intro h
    rw [h]

end Go.Proofs.Ytcaildjhnkedfaa.Q
