/- Commands that are read: impl.commandRead and spec.l06Read accept the same texts and answer the same command. Texts of at most 20000 bytes. -/
import Derived.Test.YtbediildfabhnaaDoorQx7
import Derived.Test.YtbediildfabhnaaDoorQx10
import Derived.Test.YtbediildfabhnaaDoorQPlReader
import Derived.Test.YtbediildfabhnaaDoorQPlCommandS
namespace Go.Proofs.YtbediildfabhnaaDoor.Q
open Go.RowKit Go.Proofs.YtbediildfabhnaaDoorW.PrintWords Go.Proofs.YtbediildfabhnaaDoorW.PrintLast
set_option linter.unusedVariables false
set_option linter.unusedSimpArgs false

/-- Where the parts of a command end. -/
def c1 (t : ByteArray) : Int := nA t 0
def c2 (t : ByteArray) : Int := nA t (c1 t)
def c3 (t : ByteArray) : Int := nA t (c2 t)
def c4 (t : ByteArray) : Int := wA t (c3 t)
def c5 (t : ByteArray) : Int := wA t (c4 t)
def c6 (t : ByteArray) : Int := wA t (c5 t)
def c7 (t : ByteArray) : Int := nA t (c6 t)
theorem cs_rng {t : ByteArray} (ht : t.size ≤ 20000) : (0 ≤ (0 : Int) ∧ (0 : Int) ≤ 20000) ∧ (0 ≤ c1 t ∧ c1 t ≤ 20000) ∧ (0 ≤ c2 t ∧ c2 t ≤ 20000) ∧ (0 ≤ c3 t ∧ c3 t ≤ 20000) ∧ (0 ≤ c4 t ∧ c4 t ≤ 20000) ∧ (0 ≤ c5 t ∧ c5 t ≤ 20000) ∧ (0 ≤ c6 t ∧ c6 t ≤ 20000) := by
  have h0 : 0 ≤ (0 : Int) ∧ (0 : Int) ≤ 20000 := by omega
  have h1 : 0 ≤ c1 t ∧ c1 t ≤ 20000 := nA_rng ht h0
  have h2 : 0 ≤ c2 t ∧ c2 t ≤ 20000 := nA_rng ht h1
  have h3 : 0 ≤ c3 t ∧ c3 t ≤ 20000 := nA_rng ht h2
  have h4 : 0 ≤ c4 t ∧ c4 t ≤ 20000 := wA_rng ht h3
  have h5 : 0 ≤ c5 t ∧ c5 t ≤ 20000 := wA_rng ht h4
  have h6 : 0 ≤ c6 t ∧ c6 t ≤ 20000 := wA_rng ht h5
  exact ⟨h0, h1, h2, h3, h4, h5, h6⟩
/-- Is a part of the text ill? -/
def cBad (t : ByteArray) : Bool := nB t 0 || nB t (c1 t) || nB t (c2 t) || wB t (c3 t) || wB t (c4 t) || wB t (c5 t) || nB t (c6 t)
def cRight (t : ByteArray) : Bool := commandB (nV t 0) (nV t (c1 t)) (nV t (c2 t)) (wV t (c3 t)) (wV t (c4 t)) (wV t (c5 t)) (nV t (c6 t))
theorem wV_size {t : ByteArray} {a : Int} (ha : 0 ≤ a) : (wV t a).size ≤ 20000 := by
  unfold wV
  split
  · rename_i h
    exact (getT_ok (t := t) (a := a) (s := (getT t a).1) (e := (getT t a).2.1) ha (by rw [← h])).2.2.1
  · decide
theorem nV_rng {t : ByteArray} {a : Int} (ha : 0 ≤ a) : -9223372036854775808 ≤ nV t a ∧ nV t a ≤ 9223372036854775807 := by
  unfold nV
  split
  · rename_i h
    exact (getN_ok (t := t) (a := a) (n := (getN t a).1) (e := (getN t a).2.1) ha (by rw [← h])).2.2.1
  · omega
abbrev CR := Int × Int × Int × ByteArray × ByteArray × ByteArray × Int × Bool
def cNone : CR := (0, 0, 0, (⟨#[]⟩ : ByteArray), (⟨#[]⟩ : ByteArray), (⟨#[]⟩ : ByteArray), 0, false)
def cRead (t : ByteArray) (b : Bool) : CR := (nV t 0, nV t (c1 t), nV t (c2 t), wV t (c3 t), wV t (c4 t), wV t (c5 t), nV t (c6 t), b)
theorem impl_commandRead_eq {t : ByteArray} (ht : t.size ≤ 20000) {k : Nat} (hk : 50000 ≤ k) : impl_commandRead.f k t = some (if cBad t = false ∧ c7 t = t.size ∧ cRight t = true then cRead t true else cNone) := by
  obtain ⟨h0, h1, h2, h3, h4, h5, h6⟩ := cs_rng ht
  unfold impl_commandRead.f
  rw [impl_rnum ht h0 _ (by omega)]
  simp only [Option.bind_some]
  rw [show nA t 0 = c1 t from rfl, impl_rnum ht h1 _ (by omega)]
  simp only [Option.bind_some]
  rw [show nA t (c1 t) = c2 t from rfl, impl_rnum ht h2 _ (by omega)]
  simp only [Option.bind_some]
  rw [show nA t (c2 t) = c3 t from rfl, impl_rword ht h3 _ (by omega)]
  simp only [Option.bind_some]
  rw [show wA t (c3 t) = c4 t from rfl, impl_rword ht h4 _ (by omega)]
  simp only [Option.bind_some]
  rw [show wA t (c4 t) = c5 t from rfl, impl_rword ht h5 _ (by omega)]
  simp only [Option.bind_some]
  rw [show wA t (c5 t) = c6 t from rfl, impl_rnum ht h6 _ (by omega)]
  simp only [Option.bind_some, Bool.false_or]
  rw [show nA t (c6 t) = c7 t from rfl, show (nB t 0 || nB t (c1 t) || nB t (c2 t) || wB t (c3 t) || wB t (c4 t) || wB t (c5 t) || nB t (c6 t)) = cBad t from rfl]
  have s4 := wV_size (t := t) h3.1
  have s5 := wV_size (t := t) h4.1
  rw [impl_command_eq (by omega) (by omega) (by omega), show commandB (nV t 0) (nV t (c1 t)) (nV t (c2 t)) (wV t (c3 t)) (wV t (c4 t)) (wV t (c5 t)) (nV t (c6 t)) = cRight t from rfl]
  simp only [Option.bind_some]
  by_cases e1 : cBad t = true
  · rw [if_pos e1, if_neg (by rw [e1]; simp)]
    rfl
  · have e1' : cBad t = false := by simpa using e1
    rw [if_neg e1]
    by_cases e2 : c7 t = t.size
    · rw [if_pos e2]
      by_cases e3 : cRight t = true
      · rw [if_pos e3, if_pos ⟨e1', e2, e3⟩]
        rfl
      · rw [if_neg e3, if_neg (fun h => e3 h.2.2)]
        rfl
    · rw [if_neg e2, if_neg (fun h => e2 h.2.1)]
      rfl
/-- If all parts are well, they are the text up to the last one's end. -/
theorem cText {t : ByteArray} (ht : t.size ≤ 20000) (h : cBad t = false) : commandT (nV t 0) (nV t (c1 t)) (nV t (c2 t)) (wV t (c3 t)) (wV t (c4 t)) (wV t (c5 t)) (nV t (c6 t)) = t.extract 0 (c7 t).toNat ∧ c7 t ≤ t.size := by
  obtain ⟨h0, h1, h2, h3, h4, h5, h6⟩ := cs_rng ht
  simp only [cBad, Bool.or_eq_false_iff] at h
  obtain ⟨⟨⟨⟨⟨⟨b0, b1⟩, b2⟩, b3⟩, b4⟩, b5⟩, b6⟩ := h
  obtain ⟨q0, _, _, p0⟩ := nB_ok h0.1 b0
  obtain ⟨q1, _, _, p1⟩ := nB_ok h1.1 b1
  obtain ⟨q2, _, _, p2⟩ := nB_ok h2.1 b2
  obtain ⟨q3, _, _, p3⟩ := wB_ok h3.1 b3
  obtain ⟨q4, _, _, p4⟩ := wB_ok h4.1 b4
  obtain ⟨q5, _, _, p5⟩ := wB_ok h5.1 b5
  obtain ⟨q6, l6, _, p6⟩ := nB_ok h6.1 b6
  rw [show nA t 0 = c1 t from rfl] at q0 p0
  rw [show nA t (c1 t) = c2 t from rfl] at q1 p1
  rw [show nA t (c2 t) = c3 t from rfl] at q2 p2
  rw [show wA t (c3 t) = c4 t from rfl] at q3 p3
  rw [show wA t (c4 t) = c5 t from rfl] at q4 p4
  rw [show wA t (c5 t) = c6 t from rfl] at q5 p5
  rw [show nA t (c6 t) = c7 t from rfl] at q6 p6 l6
  refine ⟨?_, l6⟩
  unfold commandT
  rw [p0, p1, p2, p3, p4, p5, p6, show (0 : Int).toNat = 0 from rfl, ext_app (by omega) (by omega), ext_app (by omega) (by omega), ext_app (by omega) (by omega), ext_app (by omega) (by omega), ext_app (by omega) (by omega), ext_app (by omega) (by omega)]
theorem spec_l06Read_eq {t : ByteArray} (ht : t.size ≤ 20000) {k : Nat} (hk : 50000 ≤ k) : ∃ x : CR, spec_l06Read.f k t = some x ∧ x.2.2.2.2.2.2.2 = decide (cBad t = false ∧ c7 t = t.size ∧ cRight t = true) ∧ (x.2.2.2.2.2.2.2 = true → x = cRead t true) := by
  obtain ⟨h0, h1, h2, h3, h4, h5, h6⟩ := cs_rng ht
  have hk' : 40 ≤ k := by omega
  unfold spec_l06Read.f
  rw [spec_rnum ht h0 hk']
  simp only [Option.bind_some]
  rw [show nA t 0 = c1 t from rfl]
  cases b0 : nB t 0 with
  | true =>
    rw [spec_rnum_bad ht h1 hk']; simp only [Option.bind_some]
    rw [spec_rnum_bad ht h1 hk']; simp only [Option.bind_some]
    rw [spec_rtext_bad ht h1 hk']; simp only [Option.bind_some]
    rw [spec_rtext_bad ht h1 hk']; simp only [Option.bind_some]
    rw [spec_rtext_bad ht h1 hk']; simp only [Option.bind_some]
    rw [spec_rnum_bad ht h1 hk']; simp only [Option.bind_some, if_true]
    exact ⟨_, rfl, (decide_eq_false (by simp [cBad, b0])).symm, fun h => by simp at h⟩
  | false =>
  rw [spec_rnum ht h1 hk']
  simp only [Option.bind_some]
  rw [show nA t (c1 t) = c2 t from rfl]
  cases b1 : nB t (c1 t) with
  | true =>
    rw [spec_rnum_bad ht h2 hk']; simp only [Option.bind_some]
    rw [spec_rtext_bad ht h2 hk']; simp only [Option.bind_some]
    rw [spec_rtext_bad ht h2 hk']; simp only [Option.bind_some]
    rw [spec_rtext_bad ht h2 hk']; simp only [Option.bind_some]
    rw [spec_rnum_bad ht h2 hk']; simp only [Option.bind_some, if_true]
    exact ⟨_, rfl, (decide_eq_false (by simp [cBad, b1])).symm, fun h => by simp at h⟩
  | false =>
  rw [spec_rnum ht h2 hk']
  simp only [Option.bind_some]
  rw [show nA t (c2 t) = c3 t from rfl]
  cases b2 : nB t (c2 t) with
  | true =>
    rw [spec_rtext_bad ht h3 hk']; simp only [Option.bind_some]
    rw [spec_rtext_bad ht h3 hk']; simp only [Option.bind_some]
    rw [spec_rtext_bad ht h3 hk']; simp only [Option.bind_some]
    rw [spec_rnum_bad ht h3 hk']; simp only [Option.bind_some, if_true]
    exact ⟨_, rfl, (decide_eq_false (by simp [cBad, b2])).symm, fun h => by simp at h⟩
  | false =>
  rw [spec_rtext ht h3 hk']
  simp only [Option.bind_some]
  rw [show wA t (c3 t) = c4 t from rfl]
  cases b3 : wB t (c3 t) with
  | true =>
    rw [spec_rtext_bad ht h4 hk']; simp only [Option.bind_some]
    rw [spec_rtext_bad ht h4 hk']; simp only [Option.bind_some]
    rw [spec_rnum_bad ht h4 hk']; simp only [Option.bind_some, if_true]
    exact ⟨_, rfl, (decide_eq_false (by simp [cBad, b3])).symm, fun h => by simp at h⟩
  | false =>
  rw [spec_rtext ht h4 hk']
  simp only [Option.bind_some]
  rw [show wA t (c4 t) = c5 t from rfl]
  cases b4 : wB t (c4 t) with
  | true =>
    rw [spec_rtext_bad ht h5 hk']; simp only [Option.bind_some]
    rw [spec_rnum_bad ht h5 hk']; simp only [Option.bind_some, if_true]
    exact ⟨_, rfl, (decide_eq_false (by simp [cBad, b4])).symm, fun h => by simp at h⟩
  | false =>
  rw [spec_rtext ht h5 hk']
  simp only [Option.bind_some]
  rw [show wA t (c5 t) = c6 t from rfl]
  cases b5 : wB t (c5 t) with
  | true =>
    rw [spec_rnum_bad ht h6 hk']; simp only [Option.bind_some, if_true]
    exact ⟨_, rfl, (decide_eq_false (by simp [cBad, b5])).symm, fun h => by simp at h⟩
  | false =>
  rw [spec_rnum ht h6 hk']
  simp only [Option.bind_some]
  cases b6 : nB t (c6 t) with
  | true =>
    simp only [if_true]
    exact ⟨_, rfl, (decide_eq_false (by simp [cBad, b6])).symm, fun h => by simp at h⟩
  | false =>
  have hb : cBad t = false := by simp [cBad, b0, b1, b2, b3, b4, b5, b6]
  obtain ⟨ht1, ht2⟩ := cText ht hb
  have hp := (nB_ok h6.1 b6).1
  rw [show nA t (c6 t) = c7 t from rfl] at hp
  rw [if_neg (by decide)]
  by_cases e0 : t.toList = ([] : List UInt8)
  · have := empty_size e0
    omega
  · rw [if_neg e0]
    have s4 := wV_size (t := t) h3.1
    have s5 := wV_size (t := t) h4.1
    rw [spec_commandBytes_eq (nV_rng h0.1) (nV_rng h1.1) (nV_rng h2.1) (nV_rng h6.1) (by omega) (by omega) (by omega)]
    simp only [Option.bind_some]
    have hd : ((commandTB (nV t 0) (nV t (c1 t)) (nV t (c2 t)) (wV t (c3 t)) (wV t (c4 t)) (wV t (c5 t)) (nV t (c6 t))).toList == t.toList) = decide (cBad t = false ∧ c7 t = t.size ∧ cRight t = true) := by
      rw [Bool.eq_iff_iff, beq_iff_eq, decide_eq_true_iff, toList_eq]
      unfold commandTB
      rw [show commandB (nV t 0) (nV t (c1 t)) (nV t (c2 t)) (wV t (c3 t)) (wV t (c4 t)) (wV t (c5 t)) (nV t (c6 t)) = cRight t from rfl]
      by_cases e3 : cRight t = true
      · rw [if_pos e3, ht1]
        constructor
        · intro h
          refine ⟨hb, ?_, e3⟩
          have := congrArg ByteArray.size h
          rw [ByteArray.size_extract] at this
          omega
        · intro h
          rw [h.2.1]
          exact ByteArray.extract_zero_size
      · rw [if_neg e3]
        constructor
        · intro h
          exact absurd (by rw [← h, Go.ByteArray.toList_eq]) e0
        · intro h
          exact absurd h.2.2 e3
    refine ⟨_, rfl, hd, fun h => ?_⟩
    simp only at h
    rw [h]
    rfl

end Go.Proofs.YtbediildfabhnaaDoor.Q
