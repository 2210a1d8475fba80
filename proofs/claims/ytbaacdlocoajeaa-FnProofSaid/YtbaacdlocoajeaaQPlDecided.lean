/- What is decided of a number: the reference and the program answer the same operation, and the same whether there is one. -/
import Derived.Test.YtbaacdlocoajeaaQx7
import Derived.Test.YtbaacdlocoajeaaQx8
import Derived.Test.YtbaacdlocoajeaaQx9
import Derived.Test.YtbaacdlocoajeaaQPlOps
namespace Go.Proofs.Ytbaacdlocoajeaa.Q
open Go.RowKit Go.Proofs.YtbaacdlocoajeaaW.PrintWords Go.Proofs.YtbaacdlocoajeaaW.PrintLast Go.Proofs.Ytbaacdlocoajeaa.HB
set_option linter.unusedVariables false
set_option linter.unusedSimpArgs false

def found (o : Option ByteArray) (r0 : ByteArray × Bool) : ByteArray × Bool := match o with | some op => (op, true) | none => r0
/-- From view v on, d views being left. -/
def decFrom (l : List VT) (s : Int) : Nat → Int → ByteArray × Bool
  | 0, _ => ((⟨#[]⟩ : ByteArray), false)
  | d + 1, v => found ((opsB 3 v s l).find? (enough 3 v s l)) (decFrom l s d (v + 1))

theorem spec_dec_l1 {l : List VT} {s v : Int} {ops : List ByteArray} {r0 : ByteArray × Bool} {m : Nat} (hl : l.length ≤ 1000) (ho : ops.length ≤ 1000) (hm : 4 * l.length + 10 ≤ m)
    (hnext : ∀ k', m ≤ k' → spec_l11Decided.l0 k' l s (wrap64 (v + 1)) = some r0) (d : Nat) : ∀ k i : Nat, i + d = ops.length → d + m < k →
    spec_l11Decided.l1 k l s v ops (i : Int) = some (found ((ops.drop i).find? (enough 3 v s l)) r0) := by
  induction d with
  | zero =>
    intro k i hi hk
    obtain ⟨k, rfl⟩ := k_succ hk
    simp only [spec_l11Decided.l1]
    rw [if_neg (by omega), hnext k (by omega), List.drop_of_length_le (by omega)]
    rfl
  | succ d ih =>
    intro k i hi hk
    obtain ⟨k, rfl⟩ := k_succ hk
    have hlt : i < ops.length := by omega
    simp only [spec_l11Decided.l1]
    rw [if_pos (by omega), if_pos (by omega), spec_voters_f hl (by omega), w_nat hlt (by omega), find_drop hlt]
    simp only [Option.bind_some]
    have ih' := ih k (i + 1) (by omega) (by omega)
    by_cases h : enough 3 v s l (rdOf ByteArray.empty ops (i : Int)) = true
    · rw [if_pos (by have := of_decide_eq_true h; omega), if_pos h]
      rfl
    · rw [if_neg (by intro h2; exact h (decide_eq_true (by omega))), if_neg h]
      exact ih'
theorem spec_dec_l0 {l : List VT} {s : Int} (hl : l.length ≤ 1000) {R : Nat} (hR1 : l.length * 1010 + 1 ≤ R) (hR2 : 4 * l.length + 110 ≤ R) (d : Nat) : ∀ (k : Nat) (v : Int), v + d = 8 → 0 ≤ v → rnd R d < k → spec_l11Decided.l0 k l s v = some (decFrom l s d v) := by
  induction d with
  | zero =>
    intro k v hv h0 hk
    obtain ⟨k, rfl⟩ := k_succ hk
    simp only [spec_l11Decided.l0]
    rw [if_neg (by omega)]
    rfl
  | succ d ih =>
    intro k v hv h0 hk
    obtain ⟨k, rfl⟩ := k_succ hk
    have hge := rnd_ge R d
    have hsd : rnd R (d + 1) = rnd R d + 1010 := rfl
    have ho : (opsB 3 v s l).length ≤ 1000 := Nat.le_trans (opsB_len _ _ _ _) hl
    simp only [spec_l11Decided.l0]
    rw [if_pos (by omega), spec_ops_eq hl (Nat.le_trans hR1 (by omega))]
    simp only [Option.bind_some]
    have := spec_dec_l1 (l := l) (s := s) (v := v) (ops := opsB 3 v s l) (r0 := decFrom l s d (v + 1)) (m := rnd R d + 1) hl ho (by omega) (fun k' hk' => by
      rw [w_id (by omega) (by omega)]
      exact ih k' (v + 1) (by omega) (by omega) (by omega)) (opsB 3 v s l).length k 0 (by omega) (by omega)
    simp only [List.drop_zero] at this
    exact this
def decR (l : List VT) : Nat := rnd (l.length * 1010 + 1 + (4 * l.length + 110)) 8
theorem decR_ge (l : List VT) : 4 * l.length + 200 ≤ decR l := by
  have h : l.length * 1010 + 1 + (4 * l.length + 110) ≤ rnd (l.length * 1010 + 1 + (4 * l.length + 110)) 7 := rnd_ge _ 7
  have e : decR l = rnd (l.length * 1010 + 1 + (4 * l.length + 110)) 7 + 1010 := rfl
  generalize rnd (l.length * 1010 + 1 + (4 * l.length + 110)) 7 = z at h e
  omega
theorem spec_dec_eq {l : List VT} {s : Int} (hl : l.length ≤ 1000) {k : Nat} (hk : decR l < k) : spec_l11Decided.f k l s = some (decFrom l s 8 0) := by
  unfold spec_l11Decided.f
  exact spec_dec_l0 hl (Nat.le_add_right _ _) (Nat.le_add_left _ _) 8 k 0 (by omega) (by omega) hk

theorem impl_dec_l1 {l : List VT} {s v : Int} {ops : List ByteArray} {r0 : ByteArray × Bool} {m : Nat} (hv : votesB l = true) (ho : ops.length ≤ 1000) (hm : l.length + 100 ≤ m)
    (hnext : ∀ k', m ≤ k' → impl_decided.l0 k' l s (wrap64 (v + 1)) = some r0) (d : Nat) : ∀ k i : Nat, i + d = ops.length → d + m < k →
    impl_decided.l1 k l s v v ops (ops.length : Int) (i : Int) = some (found ((ops.drop i).find? (enough 3 v s l)) r0) := by
  induction d with
  | zero =>
    intro k i hi hk
    obtain ⟨k, rfl⟩ := k_succ hk
    simp only [impl_decided.l1]
    rw [if_neg (by omega), hnext k (by omega), List.drop_of_length_le (by omega)]
    rfl
  | succ d ih =>
    intro k i hi hk
    obtain ⟨k, rfl⟩ := k_succ hk
    have hlt : i < ops.length := by omega
    simp only [impl_decided.l1]
    rw [if_pos (by omega), if_pos (by omega), if_pos (by omega), impl_voters_f hv (by omega), w_nat hlt (by omega), find_drop hlt]
    simp only [Option.bind_some]
    have ih' := ih k (i + 1) (by omega) (by omega)
    by_cases h : enough 3 v s l (rdOf ByteArray.empty ops (i : Int)) = true
    · have h2 : 3 ≤ (cntSort (castF 3 v s (rdOf ByteArray.empty ops (i : Int)) l)).length := of_decide_eq_true h
      rw [if_pos (by omega), if_pos h]
      rfl
    · have h2 : ¬ 3 ≤ (cntSort (castF 3 v s (rdOf ByteArray.empty ops (i : Int)) l)).length := fun h2 => h (decide_eq_true h2)
      rw [if_neg (by omega), if_neg h]
      exact ih'
theorem impl_dec_l0 {l : List VT} {s : Int} (hv : votesB l = true) {R : Nat} (hR1 : l.length * 1010 + 1 ≤ R) (hR2 : 4 * l.length + 110 ≤ R) (d : Nat) : ∀ (k : Nat) (v : Int), v + d = 8 → 0 ≤ v → rnd R d < k → impl_decided.l0 k l s v = some (decFrom l s d v) := by
  have hl := (votesB_step hv).1
  induction d with
  | zero =>
    intro k v hv h0 hk
    obtain ⟨k, rfl⟩ := k_succ hk
    simp only [impl_decided.l0]
    rw [if_neg (by omega)]
    rfl
  | succ d ih =>
    intro k v hv2 h0 hk
    obtain ⟨k, rfl⟩ := k_succ hk
    have hge := rnd_ge R d
    have hsd : rnd R (d + 1) = rnd R d + 1010 := rfl
    have ho : (opsB 3 v s l).length ≤ 1000 := Nat.le_trans (opsB_len _ _ _ _) (by omega)
    simp only [impl_decided.l0]
    rw [if_pos (by omega), impl_ops_eq (by omega) (by omega)]
    simp only [Option.bind_some]
    have := impl_dec_l1 (l := l) (s := s) (v := v) (ops := opsB 3 v s l) (r0 := decFrom l s d (v + 1)) (m := rnd R d + 1) hv ho (by omega) (fun k' hk' => by
      rw [w_id (by omega) (by omega)]
      exact ih k' (v + 1) (by omega) (by omega) (by omega)) (opsB 3 v s l).length k 0 (by omega) (by omega)
    simp only [List.drop_zero] at this
    exact this
theorem impl_dec_eq {l : List VT} {s : Int} (hv : votesB l = true) {k : Nat} (hk : decR l < k) : impl_decided.f k l s = some (decFrom l s 8 0) := by
  unfold impl_decided.f
  exact impl_dec_l0 hv (Nat.le_add_right _ _) (Nat.le_add_left _ _) 8 k 0 (by omega) (by omega) hk
/-- What Decided and OpOf are made of. -/
def decB (l : List VT) (s : Int) : ByteArray × Bool := if votesB l = true then decFrom l s 8 0 else ((⟨#[]⟩ : ByteArray), false)

end Go.Proofs.Ytbaacdlocoajeaa.Q
