/- What CommandRight and isCommand answer, and the encodings of a command by the reference. -/
import Derived.Test.YtbediildfabhnaaDoorQx4
import Derived.Test.YtbediildfabhnaaDoorQx6
import Derived.Test.YtbediildfabhnaaDoorQPlName
import Derived.Test.YtbediildfabhnaaDoorQPlTextS
namespace Go.Proofs.YtbediildfabhnaaDoor.Q
open Go.RowKit Go.Proofs.YtbediildfabhnaaDoorW.PrintWords Go.Proofs.YtbediildfabhnaaDoorW.PrintLast
set_option linter.unusedVariables false
set_option linter.unusedSimpArgs false

theorem beq_dec (n : Int) : (n == 0) = decide (n = 0) := by by_cases h : n = 0 <;> simp [h]
theorem cIs_eq (a b c : Int) : spec_l03Is.f a b c = some (decide (b ≤ a ∧ a ≤ c)) := by
  unfold spec_l03Is.f
  by_cases h : a ≥ b
  · rw [if_pos h]; simp [show b ≤ a from h]
  · rw [if_neg h]; simp [show ¬ b ≤ a from h]
theorem cWithin_eq (a b c : Int) : impl_within.f a b c = some (decide (b ≤ a ∧ a ≤ c)) := by
  unfold impl_within.f
  by_cases h : a ≥ b
  · rw [if_pos h]; simp [show b ≤ a from h]
  · rw [if_neg h]; simp [show ¬ b ≤ a from h]
def messageB (s : ByteArray) : Bool := decide (1 ≤ s.size ∧ s.size ≤ 40)
theorem l07Text_eq (s : ByteArray) : spec_l07Text.f s = some (messageB s) := by
  unfold spec_l07Text.f messageB
  by_cases h : (s.size : Int) ≥ 1
  · rw [if_pos h]; congr 1; exact decide_eq_decide.2 (by omega)
  · rw [if_neg h]; congr 1; exact (decide_eq_false (by omega)).symm
theorem isMessage_eq (s : ByteArray) : impl_isMessage.f s = some (messageB s) := by
  unfold impl_isMessage.f messageB
  by_cases h : (s.size : Int) ≥ 1
  · rw [if_pos h]; congr 1; exact decide_eq_decide.2 (by omega)
  · rw [if_neg h]; congr 1; exact (decide_eq_false (by omega)).symm
/-- What is asked of a command's kind, group, payload and number. -/
def bodyB (c : Int) (p q : ByteArray) (n : Int) : Bool :=
  if c = 1 ∨ c = 2 then decide (p.toList = []) && (decide (q.toList = []) && decide (n = 0))
  else if c = 3 then decide (p.toList = []) && (messageB q && decide (n = 0))
  else if c = 4 ∨ c = 5 ∨ c = 6 then nameB p && (decide (q.toList = []) && decide (0 ≤ n ∧ n ≤ 1000000000))
  else if c = 7 then decide (p.toList = []) && (decide (q.toList = []) && decide (0 ≤ n ∧ n ≤ 20)) else false
def commandB (a b c : Int) (t p q : ByteArray) (n : Int) : Bool := decide (1 ≤ a ∧ a ≤ 9) && (decide (1 ≤ b ∧ b ≤ 1000000000) && (nameB t && bodyB c p q n))
theorem spec_command_eq {a b c n : Int} {t p q : ByteArray} (ht : t.size ≤ 1000000000) (hp : p.size ≤ 1000000000) {k : Nat} (hk : t.size + p.size + 10 < k) : spec_CommandRight.f k a b c t p q n = some (commandB a b c t p q n) := by
  obtain ⟨k, rfl⟩ : ∃ m, k = m + 3 := ⟨k - 3, by omega⟩
  unfold spec_CommandRight.f commandB
  rw [cIs_eq, cIs_eq, spec_name_eq (by omega) (by omega)]
  have hb : spec_CommandRight.j0 (k + 3) false a b c t p q n = some (bodyB c p q n) := by
    simp only [spec_CommandRight.j0, spec_CommandRight.j1, spec_CommandRight.j2, cIs_eq, l07Text_eq, Option.bind_some]
    rw [spec_name_eq (s := p) (by omega) (by omega)]
    unfold bodyB
    by_cases h1 : c = 1
    · subst h1
      by_cases e1 : p.toList = [] <;> by_cases e2 : q.toList = [] <;> simp [e1, e2] <;> exact beq_dec n
    by_cases h2 : c = 2
    · subst h2
      by_cases e1 : p.toList = [] <;> by_cases e2 : q.toList = [] <;> simp [e1, e2] <;> exact beq_dec n
    by_cases h3 : c = 3
    · subst h3
      by_cases e1 : p.toList = [] <;> cases e2 : messageB q <;> simp [e1] <;> exact beq_dec n
    by_cases h4 : c = 4
    · subst h4
      cases e1 : nameB p <;> by_cases e2 : q.toList = [] <;> simp [e2]
    by_cases h5 : c = 5
    · subst h5
      cases e1 : nameB p <;> by_cases e2 : q.toList = [] <;> simp [e2]
    by_cases h6 : c = 6
    · subst h6
      cases e1 : nameB p <;> by_cases e2 : q.toList = [] <;> simp [e2]
    by_cases h7 : c = 7
    · subst h7
      by_cases e1 : p.toList = [] <;> by_cases e2 : q.toList = [] <;> simp [e1, e2] <;> exact beq_dec n
    simp [h1, h2, h3, h4, h5, h6, h7]
  have hn : spec_CommandRight.j0 (k + 3) true a b c t p q n = some false := by simp [spec_CommandRight.j0]
  simp only [Option.bind_some]
  rw [hn]
  cases decide (1 ≤ a ∧ a ≤ 9) <;> cases decide (1 ≤ b ∧ b ≤ 1000000000) <;> cases nameB t <;> simp [hb, hn]
theorem impl_command_eq {a b c n : Int} {t p q : ByteArray} (ht : t.size ≤ 1000000000) (hp : p.size ≤ 1000000000) {k : Nat} (hk : t.size + p.size + 10 < k) : impl_isCommand.f k a b c t p q n = some (commandB a b c t p q n) := by
  obtain ⟨k, rfl⟩ : ∃ m, k = m + 3 := ⟨k - 3, by omega⟩
  unfold impl_isCommand.f commandB
  rw [cWithin_eq, cWithin_eq, impl_name_eq (by omega) (by omega)]
  have hb : impl_isCommand.j0 (k + 3) false a b c t p q n = some (bodyB c p q n) := by
    simp only [impl_isCommand.j0, impl_isCommand.j1, impl_isCommand.j2, impl_isTime.f, cWithin_eq, isMessage_eq, Option.bind_some]
    rw [impl_name_eq (s := p) (by omega) (by omega)]
    unfold bodyB
    by_cases h1 : c = 1
    · subst h1
      by_cases e1 : p.toList = [] <;> by_cases e2 : q.toList = [] <;> simp [e1, e2] <;> exact beq_dec n
    by_cases h2 : c = 2
    · subst h2
      by_cases e1 : p.toList = [] <;> by_cases e2 : q.toList = [] <;> simp [e1, e2] <;> exact beq_dec n
    by_cases h3 : c = 3
    · subst h3
      by_cases e1 : p.toList = [] <;> cases e2 : messageB q <;> simp [e1] <;> exact beq_dec n
    by_cases h4 : c = 4
    · subst h4
      cases e1 : nameB p <;> by_cases e2 : q.toList = [] <;> simp [e2]
    by_cases h5 : c = 5
    · subst h5
      cases e1 : nameB p <;> by_cases e2 : q.toList = [] <;> simp [e2]
    by_cases h6 : c = 6
    · subst h6
      cases e1 : nameB p <;> by_cases e2 : q.toList = [] <;> simp [e2]
    by_cases h7 : c = 7
    · subst h7
      by_cases e1 : p.toList = [] <;> by_cases e2 : q.toList = [] <;> simp [e1, e2] <;> exact beq_dec n
    simp [h1, h2, h3, h4, h5, h6, h7]
  have hn : impl_isCommand.j0 (k + 3) true a b c t p q n = some false := by simp [impl_isCommand.j0]
  simp only [Option.bind_some]
  rw [hn]
  cases decide (1 ≤ a ∧ a ≤ 9) <;> cases decide (1 ≤ b ∧ b ≤ 1000000000) <;> cases nameB t <;> simp [hb, hn]
theorem empty_size {s : ByteArray} (h : s.toList = []) : s.size = 0 := by
  rw [Go.ByteArray.toList_eq] at h
  show s.data.size = 0
  rw [← Array.length_toList, h]
  rfl
theorem commandB_sizes {a b c n : Int} {t p q : ByteArray} (h : commandB a b c t p q n = true) : t.size ≤ 40 ∧ p.size ≤ 40 ∧ q.size ≤ 40 := by
  simp only [commandB, Bool.and_eq_true] at h
  obtain ⟨_, _, ht, hb⟩ := h
  have h1 := nameB_size ht
  unfold bodyB at hb
  split at hb
  · simp only [Bool.and_eq_true, decide_eq_true_eq] at hb
    have := empty_size hb.1
    have := empty_size hb.2.1
    omega
  · split at hb
    · simp only [Bool.and_eq_true, decide_eq_true_eq, messageB] at hb
      have := empty_size hb.1
      have := hb.2.1
      omega
    · split at hb
      · simp only [Bool.and_eq_true, decide_eq_true_eq] at hb
        have := nameB_size hb.1
        have := empty_size hb.2.1
        omega
      · split at hb
        · simp only [Bool.and_eq_true, decide_eq_true_eq] at hb
          have := empty_size hb.1
          have := empty_size hb.2.1
          omega
        · exact absurd hb (by decide)
abbrev in64 (x : Int) : Prop := -9223372036854775808 ≤ x ∧ x ≤ 9223372036854775807
/-- The text of a command. -/
def commandT (a b c : Int) (t p q : ByteArray) (n : Int) : ByteArray := (((((numT a ++ numT b) ++ numT c) ++ textT t) ++ textT p) ++ textT q) ++ numT n
theorem spec_l06Bytes_eq {a b c n : Int} {t p q : ByteArray} (ha : in64 a) (hb : in64 b) (hc : in64 c) (hn : in64 n) (ht : t.size ≤ 40) (hp : p.size ≤ 40) (hq : q.size ≤ 40) {k : Nat} (hk : 30 ≤ k) :
    spec_l06Bytes.f k a b c t p q n = some (commandT a b c t p q n) := by
  have sa := numT_size ha.1 ha.2
  have sb := numT_size hb.1 hb.2
  have sc := numT_size hc.1 hc.2
  have sn := numT_size hn.1 hn.2
  have st := textT_size (s := t) (by omega)
  have sp := textT_size (s := p) (by omega)
  have sq := textT_size (s := q) (by omega)
  unfold spec_l06Bytes.f commandT
  rw [spec_num_eq ha.1 ha.2 hk, spec_num_eq hb.1 hb.2 hk, spec_num_eq hc.1 hc.2 hk, spec_num_eq hn.1 hn.2 hk, spec_text_eq (by omega) hk, spec_text_eq (by omega) hk, spec_text_eq (by omega) hk]
  simp only [Option.bind_some]
  rw [if_pos (by omega), if_pos (by simp only [ByteArray.size_append]; omega), if_pos (by simp only [ByteArray.size_append]; omega), if_pos (by simp only [ByteArray.size_append]; omega),
    if_pos (by simp only [ByteArray.size_append]; omega), if_pos (by simp only [ByteArray.size_append]; omega)]
/-- What CommandBytes answers. -/
def commandTB (a b c : Int) (t p q : ByteArray) (n : Int) : ByteArray := if commandB a b c t p q n = true then commandT a b c t p q n else ⟨#[]⟩
theorem spec_commandBytes_eq {a b c n : Int} {t p q : ByteArray} (ha : in64 a) (hb : in64 b) (hc : in64 c) (hn : in64 n) (ht : t.size ≤ 1000000000) (hp : p.size ≤ 1000000000) {k : Nat} (hk : t.size + p.size + 40 < k) :
    spec_CommandBytes.f k a b c t p q n = some (commandTB a b c t p q n) := by
  unfold spec_CommandBytes.f commandTB
  rw [spec_command_eq ht hp (by omega)]
  simp only [Option.bind_some]
  by_cases h : commandB a b c t p q n = true
  · obtain ⟨h1, h2, h3⟩ := commandB_sizes h
    rw [if_pos h, if_pos h, spec_l06Bytes_eq ha hb hc hn h1 h2 h3 (by omega)]
    rfl
  · rw [if_neg h, if_neg h]

end Go.Proofs.YtbediildfabhnaaDoor.Q
