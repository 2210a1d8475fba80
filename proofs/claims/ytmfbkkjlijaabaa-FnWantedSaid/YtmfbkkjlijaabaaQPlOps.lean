/- The operations of votes of equal kind, view and number, in order: the reference and the program make the same list. -/
import Derived.Test.YtmfbkkjlijaabaaQx11
import Derived.Test.YtmfbkkjlijaabaaQx15
import Derived.Test.YtmfbkkjlijaabaaQPlVoterF
import Derived.Test.YtmfbkkjlijaabaaQPlOrder
namespace Go.Proofs.Ytmfbkkjlijaabaa.Q
open Go.RowKit Go.Proofs.YtmfbkkjlijaabaaW.PrintWords Go.Proofs.YtmfbkkjlijaabaaW.PrintLast Go.Proofs.Ytmfbkkjlijaabaa.HB
set_option linter.unusedVariables false
set_option linter.unusedSimpArgs false

def opP (a b c : Int) (v : VT) : Bool := decide (v.f0 = a) && (decide (v.f1 = b) && decide (v.f2 = c))
def opF (a b c : Int) (l : List VT) : List ByteArray := (l.filter (opP a b c)).map (·.f3)
def opsB (a b c : Int) (l : List VT) : List ByteArray := insSAll [] (opF a b c l)
theorem opF_len (a b c : Int) (l : List VT) : (opF a b c l).length ≤ l.length := by
  unfold opF
  rw [List.length_map]
  exact List.length_filter_le _ _
theorem opF_drop (a b c : Int) (l : List VT) (i : Nat) (h : i < l.length) :
    opF a b c (l.drop i) = (if opP a b c (rd_T67 l (i : Int)) = true then [(rd_T67 l (i : Int)).f3] else []) ++ opF a b c (l.drop (i + 1)) := by
  have e : rd_T67 l (i : Int) = l[i] := by simp [rd_T67, List.getD, h]
  rw [e, List.drop_eq_getElem_cons h]
  unfold opF
  rw [List.filter_cons]
  split <;> simp
theorem insS_len (x : ByteArray) (l : List ByteArray) : (insS x l).length ≤ l.length + 1 := by
  induction l with
  | nil => simp [insS]
  | cons y ys ih =>
    unfold insS
    split
    · simp only [List.length_cons]; omega
    · split <;> simp
theorem insSAll_len (l : List ByteArray) : ∀ acc : List ByteArray, (insSAll acc l).length ≤ acc.length + l.length := by
  induction l with
  | nil => intro acc; simp [insSAll]
  | cons x xs ih =>
    intro acc
    have h1 := ih (insS x acc)
    have h2 := insS_len x acc
    simp only [insSAll, List.length_cons]
    omega
theorem opsB_len (a b c : Int) (l : List VT) : (opsB a b c l).length ≤ l.length := by
  have h1 := insSAll_len (opF a b c l) []
  have h2 := opF_len a b c l
  simp only [List.length_nil] at h1
  unfold opsB
  omega
theorem insS_pre {x : ByteArray} {post : List ByteArray} : ∀ {pre : List ByteArray}, (∀ y ∈ pre, dl y < dl x) → insS x (pre ++ post) = pre ++ insS x post := by
  intro pre
  induction pre with
  | nil => intro _; rfl
  | cons y ys ih =>
    intro h
    simp only [List.cons_append, insS]
    rw [if_pos (h y (by simp)), ih (fun z hz => h z (by simp [hz]))]
theorem rdOf_pre {pre post : List ByteArray} {y : ByteArray} : rdOf ByteArray.empty (pre ++ y :: post) (pre.length : Int) = y := by
  simp [rdOf]

theorem spec_ops_l1 {l : List VT} {a b c i p0 p1 p2 p4 : Int} {x : ByteArray} {acc : List ByteArray} {r : Option (List ByteArray)} {m : Nat} (hacc : acc.length ≤ 100000)
    (hnext : ∀ k', m ≤ k' → spec_l11Ops.l0 k' l a b c (insS x acc) (wrap64 (i + 1)) = r) :
    ∀ (post pre : List ByteArray) (k : Nat), acc = pre ++ post → (∀ y ∈ pre, dl y < dl x) → post.length + m < k → spec_l11Ops.l1 k l a b c acc i (pre.length : Int) p0 p1 p2 x p4 = r := by
  intro post
  induction post with
  | nil =>
    intro pre k he hp hk
    obtain ⟨k, rfl⟩ := k_succ hk
    rw [List.append_nil] at he
    have e : insS x acc = acc ++ [x] := by
      have := insS_pre (x := x) (post := []) hp
      rw [List.append_nil] at this
      rw [he, this]
      rfl
    have hl : pre.length = acc.length := by rw [he]
    rw [hl]
    simp only [spec_l11Ops.l1]
    rw [if_neg (by omega)]
    simp only [Option.bind_some]
    rw [if_pos (by omega), if_pos (by omega), if_pos (by simp; omega), if_pos (by simp; omega), if_pos (by simp; omega)]
    have h2 := hnext k (by simp at hk; omega)
    rw [e] at h2
    simpa using h2
  | cons y ys ih =>
    intro pre k he hp hk
    obtain ⟨k, rfl⟩ := k_succ hk
    have hl : acc.length = pre.length + (ys.length + 1) := by rw [he]; simp
    have hr : rdOf ByteArray.empty acc (pre.length : Int) = y := by rw [he]; exact rdOf_pre
    simp only [List.length_cons] at hk
    simp only [spec_l11Ops.l1]
    rw [if_pos (by omega), if_pos (by omega), hr, less_dl]
    by_cases h : dl y < dl x
    · rw [if_pos (by simpa using h), w_id (by omega) (by omega)]
      have := ih (pre ++ [y]) k (by rw [he]; simp) (fun z hz => by
        rcases List.mem_append.1 hz with hz | hz
        · exact hp z hz
        · rw [List.mem_singleton.1 hz]; exact h) (by omega)
      simpa using this
    · rw [if_neg (by simpa using h)]
      have e := insS_pre (x := x) (post := y :: ys) hp
      rw [← he] at e
      simp only [insS] at e
      rw [if_neg h] at e
      have h2 := hnext k (by omega)
      by_cases hy : y = x
      · rw [if_pos hy, ← he] at e
        rw [if_pos ((toList_eq_iff _ _).2 hy)]
        rw [e] at h2
        exact h2
      · rw [if_neg hy] at e
        rw [if_neg (fun h => hy ((toList_eq_iff _ _).1 h))]
        simp only [Option.bind_some]
        rw [if_pos (by omega), if_pos (by simp; omega), if_pos (by simp; omega), if_pos (by simp; omega)]
        rw [e] at h2
        have e1 : acc.take pre.length = pre := by rw [he]; simp
        have e2 : acc.drop pre.length = y :: ys := by rw [he]; simp
        simp only [Int.toNat_natCast, e1, e2, List.nil_append]
        simpa using h2
theorem spec_ops_l0 (l : List VT) (a b c : Int) (hl : l.length ≤ 1000) (d : Nat) : ∀ (k i : Nat) (acc : List ByteArray), i + d = l.length → acc.length + d ≤ 1000 → d * 1010 + 1 ≤ k →
    spec_l11Ops.l0 k l a b c acc (i : Int) = some (insSAll acc (opF a b c (l.drop i))) := by
  induction d with
  | zero =>
    intro k i acc hi _ hk
    obtain ⟨k, rfl⟩ : ∃ m, k = m + 1 := ⟨k - 1, by omega⟩
    simp only [spec_l11Ops.l0]
    rw [if_neg (by omega), List.drop_of_length_le (by omega)]
    simp [opF, insSAll]
  | succ d ih =>
    intro k i acc hi ha hk
    obtain ⟨k, rfl⟩ : ∃ m, k = m + 1 + 1 := ⟨k - 2, by omega⟩
    have hlt : i < l.length := by omega
    obtain ⟨m, hm⟩ : ∃ m, m = d * 1010 + 1 := ⟨_, rfl⟩
    have ih' := fun k acc ha (hk : m ≤ k) => ih k (i + 1) acc (by omega) ha (hm ▸ hk)
    have hk2 : m + 1000 < k := by clear hl hi ha ih ih'; omega
    clear ih hk hm
    rw [opF_drop a b c l i hlt]
    rw [spec_l11Ops.l0]
    rw [if_pos (by omega), if_pos (by omega)]
    generalize rd_T67 l (i : Int) = v
    have skip : opP a b c v = false → spec_l11Ops.j1 (k + 1) l a b c acc (i : Int) true v.f0 v.f1 v.f2 v.f3 v.f4 = some (insSAll acc ((if opP a b c v = true then [v.f3] else []) ++ opF a b c (l.drop (i + 1)))) := by
      intro hp
      simp only [spec_l11Ops.j1]
      rw [if_pos trivial, w_nat hlt (by omega), ih' k acc (by omega) (by omega), hp]
      simp
    by_cases h0 : v.f0 = a
    · rw [if_pos h0]
      by_cases h1 : v.f1 = b
      · rw [if_pos h1]
        by_cases h2 : v.f2 = c
        · have e : (v.f2 != c) = false := by simp [h2]
          have hp : opP a b c v = true := by simp [opP, h0, h1, h2]
          rw [e, hp]
          simp only [spec_l11Ops.j1]
          rw [if_neg (by simp), if_pos trivial]
          have hi2 := insS_len v.f3 acc
          exact spec_ops_l1 (m := m) (by omega) (fun k' hk' => by rw [w_nat hlt (by omega), ih' k' _ (by omega) hk']; rfl) acc [] k (by simp) (by simp) (by omega)
        · have e : (v.f2 != c) = true := by simp [h2]
          rw [e]
          exact skip (by simp [opP, h2])
      · rw [if_neg h1]
        exact skip (by simp [opP, h1])
    · rw [if_neg h0]
      exact skip (by simp [opP, h0])
theorem spec_ops_eq {l : List VT} {a b c : Int} (hl : l.length ≤ 1000) {k : Nat} (hk : l.length * 1010 + 1 ≤ k) : spec_l11Ops.f k l a b c = some (opsB a b c l) := by
  unfold spec_l11Ops.f opsB
  have := spec_ops_l0 l a b c hl l.length k 0 [] (by omega) (by simpa using hl) hk
  simpa using this

theorem impl_ops_l0 (l : List VT) (a b c : Int) (hl : l.length ≤ 1000) (d : Nat) : ∀ (k i : Nat) (acc : List ByteArray), i + d = l.length → acc.length + d ≤ 1000 → d < k →
    impl_opsOf.l0 k a b c acc l (l.length : Int) (i : Int) = some (compactS (sortS (acc ++ opF a b c (l.drop i)))) := by
  induction d with
  | zero =>
    intro k i acc hi ha hk
    obtain ⟨k, rfl⟩ := k_succ hk
    simp only [impl_opsOf.l0]
    rw [if_neg (by omega), List.drop_of_length_le (by omega)]
    unfold slices_Sort_string_string.f
    rw [if_pos (by omega)]
    simp [opF, slices_Compact_string_string.f]
  | succ d ih =>
    intro k i acc hi ha hk
    obtain ⟨k, rfl⟩ := k_succ hk
    have hlt : i < l.length := by omega
    have ih' := fun acc ha => ih k (i + 1) acc (by omega) ha (by omega)
    clear ih
    rw [opF_drop a b c l i hlt]
    simp only [impl_opsOf.l0]
    rw [if_pos (by omega), if_pos (by omega), if_pos (by omega), w_nat hlt (by omega)]
    generalize rd_T67 l (i : Int) = v
    rw [ih' acc (by omega)]
    by_cases h0 : v.f0 = a
    · rw [if_pos h0]
      by_cases h1 : v.f1 = b
      · rw [if_pos h1]
        by_cases h2 : v.f2 = c
        · rw [if_pos h2, if_pos (by omega), ih' (acc ++ [v.f3]) (by simp; omega)]
          simp [opP, h0, h1, h2]
        · rw [if_neg h2]; simp [opP, h2]
      · rw [if_neg h1]; simp [opP, h1]
    · rw [if_neg h0]; simp [opP, h0]
theorem impl_ops_eq {l : List VT} {a b c : Int} (hl : l.length ≤ 1000) {k : Nat} (hk : l.length < k) : impl_opsOf.f k l a b c = some (opsB a b c l) := by
  unfold impl_opsOf.f opsB
  have := impl_ops_l0 l a b c hl l.length k 0 [] (by omega) (by simpa using hl) hk
  rw [insSAll_eq]
  simpa using this
theorem impl_voters_f {l : List VT} (h : votesB l = true) {a b c : Int} {op : ByteArray} {k : Nat} (hk : l.length + 100 ≤ k) : impl_voters.f k l a b c op = some (cntSort (castF a b c op l)) := by
  have hl := (votesB_step h).1
  have hc := castF_ok h a b c op
  unfold impl_voters.f
  obtain ⟨m, rfl⟩ : ∃ m, k = m + l.length + 1 := ⟨k - (l.length + 1), by omega⟩
  have := impl_voters_l0 l a b c op (by omega) l.length m 0 [] (by omega) (by simp; omega)
  simp only [List.drop_zero, List.nil_append] at this
  rw [sort_eq hc.1 (length_le4 hc.1 hc.2) (by omega)] at this
  rw [show ((0 : Int)) = ((0 : Nat) : Int) from rfl, this]
  rfl
/-- The voters for an operation, and whether they are enough. -/
def vs (a b c : Int) (l : List VT) (op : ByteArray) : List Int := cntSort (castF a b c op l)
def enough (a b c : Int) (l : List VT) (op : ByteArray) : Bool := decide (3 ≤ (vs a b c l op).length)
theorem spec_voters_f {l : List VT} {a b c : Int} {op : ByteArray} (hl : l.length ≤ 1000) {k : Nat} (hk : 4 * l.length + 10 ≤ k) : spec_l11Voters.f k l a b c op = some (vs a b c l op) := spec_l11_eq hl hk
/-- Rounds for d turns. -/
def rnd (R : Nat) : Nat → Nat
  | 0 => R
  | d + 1 => rnd R d + 1010
theorem rnd_ge (R : Nat) : ∀ d, R ≤ rnd R d
  | 0 => Nat.le_refl _
  | d + 1 => Nat.le_trans (rnd_ge R d) (Nat.le_add_right _ _)
theorem find_drop {l : List ByteArray} {p : ByteArray → Bool} {i : Nat} (h : i < l.length) : (l.drop i).find? p = if p (rdOf ByteArray.empty l (i : Int)) = true then some (rdOf ByteArray.empty l (i : Int)) else (l.drop (i + 1)).find? p := by
  have e : rdOf ByteArray.empty l (i : Int) = l[i] := by simp [rdOf, List.getD, h]
  rw [e, List.drop_eq_getElem_cons h, List.find?_cons]
  cases p l[i] <;> simp

end Go.Proofs.Ytmfbkkjlijaabaa.Q
