/- Commands: CommandRead of the program and of the reference answer the same for every text of at most 20000 bytes, and the encoding of a valid command is accepted. -/
import Derived.Test.YtbediildfabhnaaDoorQx7
import Derived.Test.YtbediildfabhnaaDoorQx10
import Derived.Test.YtbediildfabhnaaDoorQPlCommandR
import Derived.Test.YtbediildfabhnaaDoorQPlEnc
namespace Go.Proofs.YtbediildfabhnaaDoor.Q
open Go.RowKit Go.Proofs.YtbediildfabhnaaDoorW.PrintWords Go.Proofs.YtbediildfabhnaaDoorW.PrintLast
set_option linter.unusedVariables false
set_option linter.unusedSimpArgs false

abbrev CO := Int × Int × Int × ByteArray × ByteArray × ByteArray × Int × Int
def coRead (t : ByteArray) : CO := (nV t 0, nV t (c1 t), nV t (c2 t), wV t (c3 t), wV t (c4 t), wV t (c5 t), nV t (c6 t), 0)
def coNone : CO := (0, 0, 0, (⟨#[]⟩ : ByteArray), (⟨#[]⟩ : ByteArray), (⟨#[]⟩ : ByteArray), 0, 3)
def cOk (t : ByteArray) : Prop := cBad t = false ∧ c7 t = t.size ∧ cRight t = true
instance (t : ByteArray) : Decidable (cOk t) := by unfold cOk; infer_instance
theorem impl_Read_eq {t : ByteArray} (ht : t.size ≤ 20000) {k : Nat} (hk : 50000 ≤ k) : impl_CommandRead.f k t = some (if cOk t then coRead t else coNone) := by
  unfold impl_CommandRead.f
  rw [if_neg (by omega), impl_commandRead_eq ht hk]
  simp only [Option.bind_some]
  by_cases h : cOk t
  · rw [if_pos (show cBad t = false ∧ c7 t = t.size ∧ cRight t = true from h), if_pos h]
    rfl
  · rw [if_neg (show ¬ (cBad t = false ∧ c7 t = t.size ∧ cRight t = true) from h), if_neg h]
    rfl
theorem spec_Read_eq {t : ByteArray} (ht : t.size ≤ 20000) {k : Nat} (hk : 50000 ≤ k) : spec_CommandRead.f k t = some (if cOk t then coRead t else coNone) := by
  unfold spec_CommandRead.f
  rw [if_neg (by omega)]
  obtain ⟨z, hz, h1, h2⟩ := spec_l06Read_eq ht hk
  rw [hz]
  simp only [Option.bind_some]
  by_cases h : cOk t
  · rw [decide_eq_true (p := cBad t = false ∧ c7 t = t.size ∧ cRight t = true) h] at h1
    rw [h2 h1, if_pos h]
    rfl
  · rw [decide_eq_false (p := cBad t = false ∧ c7 t = t.size ∧ cRight t = true) h] at h1
    rw [h1, if_neg h]
    rfl
theorem nP_enc {t : ByteArray} {n : Int} {a : Nat} (hn : in64 n) (hs : a + (numT n).size ≤ t.size) (h : t.extract a (a + (numT n).size) = numT n) : nV t (a : Int) = n ∧ nA t (a : Int) = ((a + (numT n).size : Nat) : Int) ∧ nB t (a : Int) = false := by
  have := getN_enc hn.1 hn.2 hs h
  unfold nV nA nB
  rw [this]
  simp
theorem wP_enc {t s : ByteArray} {a : Nat} (hz : s.size ≤ 20000) (hs : a + (textT s).size ≤ t.size) (h : t.extract a (a + (textT s).size) = textT s) : wV t (a : Int) = s ∧ wA t (a : Int) = ((a + (textT s).size : Nat) : Int) ∧ wB t (a : Int) = false := by
  have := getT_enc hz hs h
  unfold wV wA wB
  rw [this]
  simp
/-- What stands ahead of a text's end stands there still with more behind it. -/
theorem pre_ext {x y t : ByteArray} {b : Nat} (h : t.extract 0 (x ++ y).size = x ++ y) (hs : (x ++ y).size ≤ t.size) : t.extract 0 x.size = x ∧ t.extract x.size (x.size + y.size) = y ∧ x.size ≤ t.size ∧ x.size + y.size ≤ t.size := by
  rw [ByteArray.size_append] at h hs
  refine ⟨?_, ?_, by omega, hs⟩
  · have := congrArg (fun z => z.extract 0 x.size) h
    rw [ext_ext (by omega) hs (by omega), Nat.zero_add, Nat.zero_add, app_ext0] at this
    exact this
  · have := congrArg (fun z => z.extract x.size (x.size + y.size)) h
    rw [ext_ext (by omega) hs (by omega), Nat.zero_add, Nat.zero_add, app_ext1] at this
    exact this
/-- The encoding of a valid command reads as that command. -/
theorem cmd_enc {a b c n : Int} {t p q : ByteArray} (ha : in64 a) (hb : in64 b) (hc : in64 c) (hn : in64 n) (h : commandB a b c t p q n = true) :
    cOk (commandT a b c t p q n) ∧ coRead (commandT a b c t p q n) = (a, b, c, t, p, q, n, 0) ∧ (commandT a b c t p q n).size ≤ 1000 ∧ 0 < (commandT a b c t p q n).size := by
  obtain ⟨st, sp, sq⟩ := commandB_sizes h
  have za := numT_size ha.1 ha.2
  have zb := numT_size hb.1 hb.2
  have zc := numT_size hc.1 hc.2
  have zn := numT_size hn.1 hn.2
  have zt := textT_size (s := t) (by omega)
  have zp := textT_size (s := p) (by omega)
  have zq := textT_size (s := q) (by omega)
  generalize hT : commandT a b c t p q n = T
  have hTs : T.size = (numT a).size + (numT b).size + (numT c).size + (textT t).size + (textT p).size + (textT q).size + (numT n).size := by
    rw [← hT]; unfold commandT; simp only [ByteArray.size_append]
  have hT7 : T.extract 0 (((((((numT a ++ numT b) ++ numT c) ++ textT t) ++ textT p) ++ textT q) ++ numT n)).size = ((((((numT a ++ numT b) ++ numT c) ++ textT t) ++ textT p) ++ textT q) ++ numT n) := by
    rw [show ((((((numT a ++ numT b) ++ numT c) ++ textT t) ++ textT p) ++ textT q) ++ numT n) = T from hT]
    exact ByteArray.extract_zero_size
  have hs7 : (((((((numT a ++ numT b) ++ numT c) ++ textT t) ++ textT p) ++ textT q) ++ numT n)).size ≤ T.size := by
    rw [show ((((((numT a ++ numT b) ++ numT c) ++ textT t) ++ textT p) ++ textT q) ++ numT n) = T from hT]
    exact Nat.le_refl _
  obtain ⟨hT6, x7, hs6, _⟩ := pre_ext (b := 0) hT7 hs7
  obtain ⟨hT5, x6, hs5, _⟩ := pre_ext (b := 0) hT6 hs6
  obtain ⟨hT4, x5, hs4, _⟩ := pre_ext (b := 0) hT5 hs5
  obtain ⟨hT3, x4, hs3, _⟩ := pre_ext (b := 0) hT4 hs4
  obtain ⟨hT2, x3, hs2, _⟩ := pre_ext (b := 0) hT3 hs3
  obtain ⟨x1, x2, hs1, _⟩ := pre_ext (b := 0) hT2 hs2
  simp only [ByteArray.size_append] at x2 x3 x4 x5 x6 x7
  obtain ⟨v1, a1, b1⟩ := nP_enc (t := T) (n := a) (a := 0) ha (by omega) (by rw [Nat.zero_add]; exact x1)
  obtain ⟨v2, a2, b2⟩ := nP_enc (t := T) (n := b) (a := (numT a).size) hb (by omega) x2
  obtain ⟨v3, a3, b3⟩ := nP_enc (t := T) (n := c) (a := (numT a).size + (numT b).size) hc (by omega) x3
  obtain ⟨v4, a4, b4⟩ := wP_enc (t := T) (s := t) (a := (numT a).size + (numT b).size + (numT c).size) (by omega) (by omega) x4
  obtain ⟨v5, a5, b5⟩ := wP_enc (t := T) (s := p) (a := (numT a).size + (numT b).size + (numT c).size + (textT t).size) (by omega) (by omega) x5
  obtain ⟨v6, a6, b6⟩ := wP_enc (t := T) (s := q) (a := (numT a).size + (numT b).size + (numT c).size + (textT t).size + (textT p).size) (by omega) (by omega) x6
  obtain ⟨v7, a7, b7⟩ := nP_enc (t := T) (n := n) (a := (numT a).size + (numT b).size + (numT c).size + (textT t).size + (textT p).size + (textT q).size) hn (by omega) x7
  have e1 : c1 T = (((numT a).size : Nat) : Int) := by unfold c1; rw [show (0 : Int) = ((0 : Nat) : Int) from rfl, a1, Nat.zero_add]
  have e2 : c2 T = (((numT a).size + (numT b).size : Nat) : Int) := by unfold c2; rw [e1, a2]
  have e3 : c3 T = (((numT a).size + (numT b).size + (numT c).size : Nat) : Int) := by unfold c3; rw [e2, a3]
  have e4 : c4 T = (((numT a).size + (numT b).size + (numT c).size + (textT t).size : Nat) : Int) := by unfold c4; rw [e3, a4]
  have e5 : c5 T = (((numT a).size + (numT b).size + (numT c).size + (textT t).size + (textT p).size : Nat) : Int) := by unfold c5; rw [e4, a5]
  have e6 : c6 T = (((numT a).size + (numT b).size + (numT c).size + (textT t).size + (textT p).size + (textT q).size : Nat) : Int) := by unfold c6; rw [e5, a6]
  have e7 : c7 T = ((T.size : Nat) : Int) := by unfold c7; rw [e6, a7, hTs]
  have v1' : nV T 0 = a := v1
  have b1' : nB T 0 = false := b1
  refine ⟨⟨?_, e7, ?_⟩, ?_, by omega, ?_⟩
  · unfold cBad
    rw [e1, e2, e3, e4, e5, e6, b1', b2, b3, b4, b5, b6, b7]
    rfl
  · unfold cRight
    rw [e1, e2, e3, e4, e5, e6, v1', v2, v3, v4, v5, v6, v7]
    exact h
  · unfold coRead
    rw [e1, e2, e3, e4, e5, e6, v1', v2, v3, v4, v5, v6, v7]
  · have hq : 1 ≤ (numT a).size := by
      rw [numT_digs ha.1 ha.2, strOfNums_len]
      exact (digs_len 9 _).1
    omega

end Go.Proofs.YtbediildfabhnaaDoor.Q
