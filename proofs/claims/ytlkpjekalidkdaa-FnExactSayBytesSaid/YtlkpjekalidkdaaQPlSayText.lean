/- The encoding of a message: the reference and the program make the same text. -/
import Derived.Test.YtlkpjekalidkdaaQx15
import Derived.Test.YtlkpjekalidkdaaQx16
import Derived.Test.YtlkpjekalidkdaaQPlTexts
import Derived.Test.YtlkpjekalidkdaaQPlSay
namespace Go.Proofs.Ytlkpjekalidkdaa.Q
open Go.RowKit Go.Proofs.YtlkpjekalidkdaaW.PrintWords Go.Proofs.YtlkpjekalidkdaaW.PrintLast
set_option linter.unusedVariables false
set_option linter.unusedSimpArgs false

theorem emptyA (s : ByteArray) : (⟨#[]⟩ : ByteArray) ++ s = s := ByteArray.empty_append
theorem Aempty (s : ByteArray) : s ++ (⟨#[]⟩ : ByteArray) = s := ByteArray.append_empty
def foldT {α : Type} (f : α → ByteArray) (s : ByteArray) (l : List α) : ByteArray := l.foldl (fun s x => s ++ f x) s
theorem foldT_pre {α : Type} (f : α → ByteArray) (s : ByteArray) : ∀ (l : List α) (t : ByteArray), foldT f (s ++ t) l = s ++ foldT f t l := by
  intro l
  induction l with
  | nil => intro t; rfl
  | cons x xs ih =>
    intro t
    show foldT f ((s ++ t) ++ f x) xs = s ++ foldT f (t ++ f x) xs
    rw [ByteArray.append_assoc]
    exact ih (t ++ f x)
theorem foldT_size {α : Type} {f : α → ByteArray} {B : Nat} : ∀ (l : List α) (s : ByteArray), (∀ x ∈ l, (f x).size ≤ B) → (foldT f s l).size ≤ s.size + l.length * B := by
  intro l
  induction l with
  | nil => intro s _; simp [foldT]
  | cons x xs ih =>
    intro s h
    have h1 := ih (s ++ f x) (fun y hy => h y (by simp [hy]))
    have h2 := h x (by simp)
    rw [ByteArray.size_append] at h1
    show (foldT f (s ++ f x) xs).size ≤ s.size + (xs.length + 1) * B
    rw [Nat.succ_mul]
    omega
theorem numsT_fold (l : List Int) (s : ByteArray) : numsT l s = foldT numT s l := rfl
/-- A loop that puts one element's text behind the other. -/
theorem fold_loop {α : Type} {f : α → ByteArray} {l : List α} (z : α) {m B S : Nat} {F : Nat → ByteArray → Int → Option ByteArray} {g : ByteArray → ByteArray} (hB : ∀ x ∈ l, (f x).size ≤ B)
    (hend : ∀ k s, m ≤ k → s.size ≤ S → F (k + 1) s (l.length : Int) = some (g s))
    (hstep : ∀ k s (i : Nat), m ≤ k → i < l.length → s.size + B ≤ S → F (k + 1) s (i : Int) = F k (s ++ f (l.getD i z)) ((i + 1 : Nat) : Int)) :
    ∀ (d k i : Nat) (s : ByteArray), i + d = l.length → d + m < k → s.size + d * B ≤ S → F k s (i : Int) = some (g (foldT f s (l.drop i))) := by
  intro d
  induction d with
  | zero =>
    intro k i s hi hk hs
    obtain ⟨k, rfl⟩ := k_succ hk
    obtain rfl : i = l.length := by omega
    rw [hend k s (by omega) (by omega), List.drop_of_length_le (by omega)]
    rfl
  | succ d ih =>
    intro k i s hi hk hs
    obtain ⟨k, rfl⟩ := k_succ hk
    rw [Nat.succ_mul] at hs
    have hlt : i < l.length := by omega
    have e : l.getD i z = l[i] := by simp [List.getD, hlt]
    have hx := hB l[i] (List.getElem_mem hlt)
    rw [hstep k s i (by omega) hlt (by omega), e, ih k (i + 1) (s ++ f l[i]) (by omega) (by omega) (by rw [ByteArray.size_append]; omega), List.drop_eq_getElem_cons hlt]
    rfl

def i64b (x : Int) : Prop := -9223372036854775808 ≤ x ∧ x ≤ 9223372036854775807
def okP2 (p : PI) : Prop := i64b p.f0 ∧ i64b p.f1 ∧ p.f2.size ≤ 120 ∧ p.f3.length ≤ 3000000 ∧ ∀ y ∈ p.f3, i64b y
def okC2 (c : CI) : Prop := i64b c.f0 ∧ i64b c.f1 ∧ c.f2.length ≤ 3000000 ∧ ∀ p ∈ c.f2, okP2 p
def proofH (p : PI) : ByteArray := ((numT p.f0 ++ numT p.f1) ++ textT p.f2) ++ numT (p.f3.length : Int)
def proofT (p : PI) : ByteArray := foldT numT (proofH p) p.f3
def changeH (c : CI) : ByteArray := (numT c.f0 ++ numT c.f1) ++ numT (c.f2.length : Int)
def changeT (c : CI) : ByteArray := foldT proofT (changeH c) c.f2
def sayH (kd fr v sq : Int) (op : ByteArray) (l : List CI) : ByteArray := ((((numT kd ++ numT fr) ++ numT v) ++ numT sq) ++ textT op) ++ numT (l.length : Int)
def sayT (kd fr v sq : Int) (op : ByteArray) (l : List CI) : ByteArray := foldT changeT (sayH kd fr v sq op l) l
theorem len64 {n : Nat} (h : n ≤ 3000000) : i64b (n : Int) := ⟨by omega, by omega⟩
theorem proofH_size {p : PI} (h : okP2 p) : (proofH p).size ≤ 160 := by
  have s0 := numT_size h.1.1 h.1.2
  have s1 := numT_size h.2.1.1 h.2.1.2
  have s2 := textT_size (s := p.f2) (by have := h.2.2.1; omega)
  have hl := len64 h.2.2.2.1
  have s3 := numT_size hl.1 hl.2
  have := h.2.2.1
  unfold proofH
  simp only [ByteArray.size_append]
  omega
theorem numT_sizes {l : List Int} (h : ∀ y ∈ l, i64b y) : ∀ y ∈ l, (numT y).size ≤ 10 := fun y hy => numT_size (h y hy).1 (h y hy).2
theorem proofT_size {p : PI} (h : okP2 p) : (proofT p).size ≤ 31000000 := by
  have h1 := foldT_size p.f3 (proofH p) (numT_sizes h.2.2.2.2)
  have h2 := proofH_size h
  have h3 := h.2.2.2.1
  unfold proofT
  omega
theorem changeH_size {c : CI} (h : okC2 c) : (changeH c).size ≤ 30 := by
  have s0 := numT_size h.1.1 h.1.2
  have s1 := numT_size h.2.1.1 h.2.1.2
  have hl := len64 h.2.2.1
  have s3 := numT_size hl.1 hl.2
  unfold changeH
  simp only [ByteArray.size_append]
  omega
theorem changeT_size {c : CI} (h : okC2 c) : (changeT c).size ≤ 93000000000030 := by
  have h1 := foldT_size (f := proofT) c.f2 (changeH c) (fun p hp => proofT_size (h.2.2.2 p hp))
  have h2 := changeH_size h
  have h3 := h.2.2.1
  unfold changeT
  omega

theorem spec_proofT {p : PI} (h : okP2 p) {k : Nat} (hk : p.f3.length + 40 < k) : spec_l10Proof.f k p.f0 p.f1 p.f2 p.f3 = some (proofT p) := by
  have s0 := numT_size h.1.1 h.1.2
  have s1 := numT_size h.2.1.1 h.2.1.2
  have s2 := textT_size (s := p.f2) (by have := h.2.2.1; omega)
  have hl := len64 h.2.2.2.1
  have s3 := numT_size hl.1 hl.2
  have h2 := h.2.2.1
  have h3 := h.2.2.2.1
  have hH := proofH_size h
  unfold spec_l10Proof.f
  rw [spec_num_eq h.1.1 h.1.2 (by omega), spec_num_eq h.2.1.1 h.2.1.2 (by omega), spec_text_eq (by omega) (by omega), spec_num_eq hl.1 hl.2 (by omega)]
  simp only [Option.bind_some]
  rw [if_pos (by omega), if_pos (by simp only [ByteArray.size_append]; omega), if_pos (by simp only [ByteArray.size_append]; omega)]
  have := fold_loop (f := numT) (l := p.f3) (0 : Int) (m := 40) (B := 10) (S := 100000000) (g := fun s => s) (F := fun k s i => spec_l10Proof.l0 k s i p.f0 p.f1 p.f2 p.f3) (numT_sizes h.2.2.2.2) (fun k s _ _ => by
    simp only [spec_l10Proof.l0]
    rw [if_neg (by omega)]) (fun k s i hm hi hs => by
    have hx := h.2.2.2.2 _ (mem_getD (0 : Int) hi)
    have e : rd p.f3 (i : Int) = p.f3.getD i 0 := by simp [rd]
    have hz := numT_size hx.1 hx.2
    simp only [spec_l10Proof.l0]
    rw [if_pos (by omega), if_pos (by omega), e, spec_num_eq hx.1 hx.2 (by omega), w_nat hi (by omega)]
    simp only [Option.bind_some]
    rw [if_pos (by omega)]) p.f3.length k 0 (proofH p) (by omega) (by omega) (by omega)
  simp only [List.drop_zero] at this
  exact this
theorem spec_changeT {c : CI} (h : okC2 c) {k : Nat} (hk : c.f2.length + (byMax c.f2 + 41) < k) : spec_l10Change.f k c.f0 c.f1 c.f2 = some (changeT c) := by
  have s0 := numT_size h.1.1 h.1.2
  have s1 := numT_size h.2.1.1 h.2.1.2
  have hl := len64 h.2.2.1
  have s3 := numT_size hl.1 hl.2
  have h3 := h.2.2.1
  have hH := changeH_size h
  unfold spec_l10Change.f
  rw [spec_num_eq h.1.1 h.1.2 (by omega), spec_num_eq h.2.1.1 h.2.1.2 (by omega), spec_num_eq hl.1 hl.2 (by omega)]
  simp only [Option.bind_some]
  rw [if_pos (by omega), if_pos (by simp only [ByteArray.size_append]; omega)]
  have := fold_loop (f := proofT) (l := c.f2) z52 (m := byMax c.f2 + 41) (B := 31000000) (S := 100000000000000) (g := fun s => s) (F := fun k s i => spec_l10Change.l0 k s i c.f0 c.f1 c.f2) (fun p hp => proofT_size (h.2.2.2 p hp)) (fun k s _ _ => by
    simp only [spec_l10Change.l0]
    rw [if_neg (by omega)]) (fun k s i hm hi hs => by
    have hb := byI hi
    have hx := h.2.2.2 _ (rdPI hi)
    have e : c.f2.getD i z52 = rd_T52 c.f2 (i : Int) := by simp [rd_T52]
    have hz := proofT_size hx
    simp only [spec_l10Change.l0]
    rw [if_pos (by omega), if_pos (by omega), spec_proofT hx (by omega), w_nat hi (by omega), e]
    simp only [Option.bind_some]
    rw [if_pos (by omega)]) c.f2.length k 0 (changeH c) (by omega) (by omega) (by omega)
  simp only [List.drop_zero] at this
  exact this
theorem spec_sayT {kd fr v sq : Int} {op : ByteArray} {l : List CI} (h0 : i64b kd) (h1 : i64b fr) (h2 : i64b v) (h3 : i64b sq) (ho : op.size ≤ 120) (hl : l.length ≤ 4) (h : ∀ c ∈ l, okC2 c) {k : Nat} (hk : l.length + (mI l + 45) < k) :
    spec_l10Bytes.f k kd fr v sq op l = some (sayT kd fr v sq op l) := by
  have s0 := numT_size h0.1 h0.2
  have s1 := numT_size h1.1 h1.2
  have s2 := numT_size h2.1 h2.2
  have s3 := numT_size h3.1 h3.2
  have s4 := textT_size (s := op) (by omega)
  have hl2 : i64b (l.length : Int) := len64 (by omega)
  have s5 := numT_size hl2.1 hl2.2
  unfold spec_l10Bytes.f
  rw [spec_num_eq h0.1 h0.2 (by omega), spec_num_eq h1.1 h1.2 (by omega), spec_num_eq h2.1 h2.2 (by omega), spec_num_eq h3.1 h3.2 (by omega), spec_text_eq (by omega) (by omega), spec_num_eq hl2.1 hl2.2 (by omega)]
  simp only [Option.bind_some]
  rw [if_pos (by omega), if_pos (by simp only [ByteArray.size_append]; omega), if_pos (by simp only [ByteArray.size_append]; omega), if_pos (by simp only [ByteArray.size_append]; omega), if_pos (by simp only [ByteArray.size_append]; omega)]
  have := fold_loop (f := changeT) (l := l) z41 (m := mI l + 45) (B := 93000000000030) (S := 1000000000000000) (g := fun s => s) (F := fun k s i => spec_l10Bytes.l0 k s i kd fr v sq op l) (fun c hc => changeT_size (h c hc)) (fun k s _ _ => by
    simp only [spec_l10Bytes.l0]
    rw [if_neg (by omega)]) (fun k s i hm hi hs => by
    have hb := mIi hi
    have hx := h _ (rdCI hi)
    have e : l.getD i z41 = rd_T41 l (i : Int) := by simp [rd_T41]
    have hz := changeT_size hx
    simp only [spec_l10Bytes.l0]
    rw [if_pos (by omega), if_pos (by omega), spec_changeT hx (by omega), w_nat hi (by omega), e]
    simp only [Option.bind_some]
    rw [if_pos (by omega)]) l.length k 0 (sayH kd fr v sq op l) (by omega) (by omega) (by unfold sayH; simp only [ByteArray.size_append]; omega)
  simp only [List.drop_zero] at this
  exact this

theorem impl_say_l1 {l : List CI} {i : Nat} {ps : List PI} {n3 : Int} {m S : Nat} {g : ByteArray → ByteArray} (hp : ∀ p ∈ ps, okP2 p) (hps : ps.length ≤ 3000000) (hm : byMax ps + 45 ≤ m) (hS : S ≤ 9000000000000000000)
    (hend : ∀ k s, m ≤ k → s.size ≤ S → impl_sayBytes.l0 k s l n3 (wrap64 ((i : Int) + 1)) = some (g s)) (s : ByteArray) {k : Nat} (hk : ps.length + m < k) (hs : s.size + ps.length * 31000000 ≤ S) :
    impl_sayBytes.l1 k s l n3 (i : Int) ps (ps.length : Int) 0 = some (g (foldT proofT s ps)) := by
  have := fold_loop (f := proofT) (l := ps) z52 (m := m) (B := 31000000) (S := S) (g := g) (F := fun k s j => impl_sayBytes.l1 k s l n3 (i : Int) ps (ps.length : Int) j) (fun p hq => proofT_size (hp p hq)) (fun k s h1 h2 => by
    simp only [impl_sayBytes.l1]
    rw [if_neg (by omega)]
    exact hend k s h1 h2) (fun k s j h1 hj h2 => by
    have hb := byI hj
    have hx := hp _ (rdPI hj)
    have e : ps.getD j z52 = rd_T52 ps (j : Int) := by simp [rd_T52]
    have hz := proofT_size hx
    have hH := proofH_size hx
    simp only [impl_sayBytes.l1, impl_size_int64.f]
    rw [if_pos (by omega), if_pos (by omega), if_pos (by omega), e, w_nat hj (by omega)]
    generalize rd_T52 ps (j : Int) = p at hb hx hz hH ⊢
    have s0 := numT_size hx.1.1 hx.1.2
    have s1 := numT_size hx.2.1.1 hx.2.1.2
    have s2 := textT_size (s := p.f2) (by have := hx.2.2.1; omega)
    have hl := len64 hx.2.2.2.1
    have s3 := numT_size hl.1 hl.2
    have q2 := hx.2.2.1
    have q3 := hx.2.2.2.1
    have e2 : numsT [p.f0, p.f1] ⟨#[]⟩ = numT p.f0 ++ numT p.f1 := by
      simp only [numsT, List.foldl, emptyA]
    have s4 : (numsT p.f3 ⟨#[]⟩).size ≤ 30000000 := by
      have := foldT_size p.f3 (⟨#[]⟩ : ByteArray) (numT_sizes hx.2.2.2.2)
      rw [numsT_fold]
      have z0 : (⟨#[]⟩ : ByteArray).size = 0 := rfl
      omega
    have e3 : (((numT p.f0 ++ numT p.f1) ++ textT p.f2) ++ numT (p.f3.length : Int)) ++ numsT p.f3 ⟨#[]⟩ = proofT p := by
      unfold proofT
      rw [numsT_fold, ← foldT_pre, Aempty]
      rfl
    rw [putNums_eq (l := [p.f0, p.f1]) (by simp) (by simp; exact ⟨hx.1, hx.2.1⟩) (by simp; omega), e2, impl_text_eq (by omega) (by omega)]
    simp only [Option.bind_some]
    rw [if_pos (by simp only [ByteArray.size_append]; omega), impl_num_eq hl.1 hl.2 (by omega)]
    simp only [Option.bind_some]
    rw [if_pos (by simp only [ByteArray.size_append]; omega), putNums_eq (by omega) hx.2.2.2.2 (by omega)]
    simp only [Option.bind_some]
    rw [if_pos (by simp only [ByteArray.size_append]; omega), e3, if_pos (by omega)]) ps.length k 0 s (by omega) hk hs
  simpa using this
theorem impl_say_l0 {l : List CI} (hl : l.length ≤ 4) (h : ∀ c ∈ l, okC2 c) {M : Nat} (hM : mI l + 60 ≤ M) (d : Nat) : ∀ (k i : Nat) (s : ByteArray), i + d = l.length → d * M + M ≤ k → s.size + d * 93000000000030 ≤ 1000000000000000 →
    impl_sayBytes.l0 k s l (l.length : Int) (i : Int) = some (foldT changeT s (l.drop i)) := by
  induction d with
  | zero =>
    intro k i s hi hk hs
    obtain ⟨k, rfl⟩ : ∃ m, k = m + 1 := ⟨k - 1, by omega⟩
    simp only [impl_sayBytes.l0]
    rw [if_neg (by omega), List.drop_of_length_le (by omega)]
    rfl
  | succ d ih =>
    intro k i s hi hk hs
    rw [Nat.succ_mul] at hk
    obtain ⟨k, rfl⟩ : ∃ m, k = m + 1 := ⟨k - 1, by omega⟩
    have hlt : i < l.length := by omega
    have hb := mIi hlt
    have hx := h _ (rdCI hlt)
    have e : rd_T41 l (i : Int) = l[i] := by simp [rd_T41, List.getD, hlt]
    simp only [impl_sayBytes.l0, impl_Proof.f]
    rw [if_pos (by omega), if_pos (by omega), if_pos (by omega), List.drop_eq_getElem_cons hlt, ← e]
    simp only [Option.bind_some]
    generalize rd_T41 l (i : Int) = c at hb hx ⊢
    have hH := changeH_size hx
    have q2 := hx.2.2.1
    have hl2 := len64 hx.2.2.1
    have e2 : numsT [c.f0, c.f1, (c.f2.length : Int)] ⟨#[]⟩ = changeH c := by
      simp only [numsT, List.foldl, emptyA, changeH]
    rw [putNums_eq (l := [c.f0, c.f1, (c.f2.length : Int)]) (by simp) (fun y hy => by rcases List.mem_cons.1 hy with rfl | hy; exact hx.1; rcases List.mem_cons.1 hy with rfl | hy; exact hx.2.1; rcases List.mem_cons.1 hy with rfl | hy; exact hl2; exact absurd hy (by simp)) (by simp; omega), e2]
    simp only [Option.bind_some]
    rw [if_pos (by omega)]
    have h1 := impl_say_l1 (l := l) (i := i) (ps := c.f2) (n3 := (l.length : Int)) (m := d * M + M) (S := 1000000000000000 - d * 93000000000030) (g := fun s => foldT changeT s (l.drop (i + 1))) hx.2.2.2 q2 (by omega) (by omega) (fun k' s' hk' hs' => by
      rw [w_nat hlt (by omega)]
      exact ih k' (i + 1) s' (by omega) hk' (by omega)) (s ++ changeH c) (k := k) (by omega) (by rw [ByteArray.size_append]; omega)
    rw [h1, foldT_pre]
    rfl
theorem impl_sayT {kd fr v sq : Int} {op : ByteArray} {l : List CI} (h0 : i64b kd) (h1 : i64b fr) (h2 : i64b v) (h3 : i64b sq) (ho : op.size ≤ 120) (hl : l.length ≤ 4) (h : ∀ c ∈ l, okC2 c) {k : Nat} (hk : 5 * (mI l + 60) ≤ k) :
    impl_sayBytes.f k kd fr v sq op l = some (sayT kd fr v sq op l) := by
  have s0 := numT_size h0.1 h0.2
  have s1 := numT_size h1.1 h1.2
  have s2 := numT_size h2.1 h2.2
  have s3 := numT_size h3.1 h3.2
  have s4 := textT_size (s := op) (by omega)
  have hl2 : i64b (l.length : Int) := len64 (by omega)
  have s5 := numT_size hl2.1 hl2.2
  have e2 : numsT [kd, fr, v, sq] ⟨#[]⟩ = ((numT kd ++ numT fr) ++ numT v) ++ numT sq := by
    simp only [numsT, List.foldl, emptyA]
  unfold impl_sayBytes.f impl_Change.f
  rw [putNums_eq (l := [kd, fr, v, sq]) (by simp) (by simp; exact ⟨h0, h1, h2, h3⟩) (by simp; omega), e2, impl_text_eq (by omega) (by omega)]
  simp only [Option.bind_some]
  rw [if_pos (by simp only [ByteArray.size_append]; omega), impl_num_eq hl2.1 hl2.2 (by omega)]
  simp only [Option.bind_some]
  rw [if_pos (by simp only [ByteArray.size_append]; omega)]
  have hd : l.length * (mI l + 60) + (mI l + 60) ≤ k := by
    have : (l.length + 1) * (mI l + 60) ≤ 5 * (mI l + 60) := Nat.mul_le_mul_right _ (by omega)
    rw [Nat.succ_mul] at this
    omega
  have := impl_say_l0 hl h (Nat.le_refl _) l.length k 0 (sayH kd fr v sq op l) (by omega) hd (by unfold sayH; simp only [ByteArray.size_append]; omega)
  simp only [List.drop_zero] at this
  exact this

theorem chStep_ne (v : Int) (l : List PI) (j : Nat) : chStep v l j ≠ some true := by
  simp only [chStep]
  split
  · split
    · simp
    · split
      · simp
      · split <;> simp
  · simp
theorem changeB_proof {f v : Int} {l : List PI} (h : changeB f v l = true) : ∀ p ∈ l, proofB p.f0 p.f1 p.f2 p.f3 = true := by
  intro p hp
  simp only [changeB, Bool.and_eq_true] at h
  obtain ⟨j, hj, rfl⟩ := List.getElem_of_mem hp
  have := scan_none (chStep_ne v l) _ _ h.2.2 j (by omega) (by omega)
  have e : rd_T52 l (j : Int) = l[j] := by simp [rd_T52, List.getD, hj]
  simp only [chStep, e] at this
  split at this
  · assumption
  · exact absurd this (by simp)
theorem empty_size2 {s : ByteArray} (h : s.toList = []) : s.size = 0 := by
  rw [Go.ByteArray.toList_eq] at h
  show s.data.size = 0
  rw [← Array.length_toList, h]
  rfl
theorem sayB_ok {kd fr v sq : Int} {op : ByteArray} {l : List CI} (h : sayB kd fr v sq op l = true) (hw : ∀ c ∈ l, c.f2.length ≤ 3000000 ∧ ∀ p ∈ c.f2, p.f3.length ≤ 3000000 ∧ ∀ y ∈ p.f3, i64b y) :
    i64b kd ∧ i64b fr ∧ i64b v ∧ i64b sq ∧ op.size ≤ 120 ∧ l.length ≤ 4 ∧ ∀ c ∈ l, okC2 c := by
  simp only [sayB, Bool.and_eq_true] at h
  obtain ⟨h1, h2, h3⟩ := h
  simp only [whoB, decide_eq_true_eq] at h1
  have hz : op.toList = [] → op.size ≤ 120 := fun e => by rw [empty_size2 e]; exact Nat.zero_le _
  have ht : (kd = 1 ∨ kd = 2 ∨ kd = 3 ∨ kd = 4 ∨ kd = 5) ∧ (0 ≤ v ∧ v ≤ 7) ∧ (0 ≤ sq ∧ sq ≤ 6) ∧ op.size ≤ 120 := by
    unfold tailB at h3
    split at h3
    · rename_i hk
      simp only [Bool.and_eq_true, decide_eq_true_eq] at h3
      exact ⟨by omega, by omega, by omega, h3.2.2.1⟩
    · split at h3
      · rename_i hk
        simp only [Bool.and_eq_true, decide_eq_true_eq] at h3
        exact ⟨by omega, by omega, by omega, hz h3.2.2.1⟩
      · split at h3
        · rename_i hk
          simp only [Bool.and_eq_true, decide_eq_true_eq] at h3
          exact ⟨by omega, by omega, by omega, hz h3.2.2.2.1⟩
        · exact absurd h3 (by simp)
  refine ⟨⟨by omega, by omega⟩, ⟨by omega, by omega⟩, ⟨by omega, by omega⟩, ⟨by omega, by omega⟩, ht.2.2.2, chsB_le h2, fun c hc => ?_⟩
  obtain ⟨j, hj, rfl⟩ := List.getElem_of_mem hc
  have hs := chsB_step h2 hj
  have e : rd_T41 l (j : Int) = l[j] := by simp [rd_T41, List.getD, hj]
  rw [e] at hs
  have hcb := hs.1
  have hw2 := hw _ hc
  have hpr := changeB_proof hcb
  simp only [changeB, Bool.and_eq_true, whoB, decide_eq_true_eq] at hcb
  refine ⟨⟨by omega, by omega⟩, ⟨by omega, by omega⟩, hw2.1, fun p hp => ?_⟩
  have := hpr p hp
  simp only [proofB, Bool.and_eq_true, decide_eq_true_eq] at this
  exact ⟨⟨by omega, by omega⟩, ⟨by omega, by omega⟩, this.2.2.1, (hw2.2 p hp).1, (hw2.2 p hp).2⟩
/-- What SayBytes answers. -/
def sayTB (kd fr v sq : Int) (op : ByteArray) (l : List CI) : ByteArray := if sayB kd fr v sq op l = true then sayT kd fr v sq op l else ⟨#[]⟩

end Go.Proofs.Ytlkpjekalidkdaa.Q
