/- What TopicAck and TopicSeek answer, the program's and the reference's: one and the same function. -/
import Derived.Test.YtnjnjffjblgldaaQx5
import Derived.Test.YtnjnjffjblgldaaQx6
import Derived.Test.YtnjnjffjblgldaaQx7
import Derived.Test.YtnjnjffjblgldaaQPlTopicGroup
namespace Go.Proofs.Ytnjnjffjblgldaa.Q
open Go.RowKit Go.Proofs.YtnjnjffjblgldaaW.PrintWords Go.Proofs.YtnjnjffjblgldaaW.PrintLast Go.Proofs.Ytnjnjffjblgldaa.HB
set_option linter.unusedVariables false
set_option linter.unusedSimpArgs false

abbrev OutT := ByteArray × Int × List ByteArray × List GT × List ByteArray × Int × Int
def illT (c : Int) : OutT := (⟨#[]⟩, 0, [], [], [], 0, c)
theorem topicB_all {nm : ByteArray} {b : Int} {h : List ByteArray} {l : List GT} (ht : topicB nm b h l = true) : 0 ≤ b ∧ b ≤ 1000000000 ∧ h.length ≤ 20 ∧ l.length ≤ 4 ∧ endB b h ≤ 1000000000 ∧ grB b (endB b h) l = true := by
  unfold topicB at ht
  simp only [Bool.and_eq_true, decide_eq_true_eq] at ht
  exact ⟨by omega, by omega, by omega, by omega, by omega, ht.2.2.2.2.2.2⟩
theorem endB_sum {b : Int} {h : List ByteArray} (h0 : 0 ≤ b) (h1 : b ≤ 1000000000) (h2 : h.length ≤ 21) : endB b h = b + (h.length : Int) := by
  unfold endB
  rw [w_id (by omega) (by omega)]
/-- The code of a change of a topic's group. -/
def codeB (nm : ByteArray) (b : Int) (h : List ByteArray) (l : List GT) (x : ByteArray) (ok : Bool) : Int :=
  if x.size > 20000 then 2 else if topicB nm b h l = true ∧ nameB x = true ∧ ok = true then (if bsF l x = true ∨ l.length ≠ 4 then 0 else 9) else 1
theorem code2 {nm x : ByteArray} {b : Int} {h : List ByteArray} {l : List GT} {ok : Bool} (h20 : x.size > 20000) : codeB nm b h l x ok = 2 := if_pos h20
theorem code1 {nm x : ByteArray} {b : Int} {h : List ByteArray} {l : List GT} {ok : Bool} (h20 : ¬ x.size > 20000) (ht : ¬ (topicB nm b h l = true ∧ nameB x = true ∧ ok = true)) : codeB nm b h l x ok = 1 := by
  unfold codeB; rw [if_neg h20, if_neg ht]
theorem code9 {nm x : ByteArray} {b : Int} {h : List ByteArray} {l : List GT} {ok : Bool} (h20 : ¬ x.size > 20000) (ht : topicB nm b h l = true ∧ nameB x = true ∧ ok = true) (hf : ¬ (bsF l x = true ∨ l.length ≠ 4)) : codeB nm b h l x ok = 9 := by
  unfold codeB; rw [if_neg h20, if_pos ht, if_neg hf]
theorem code0 {nm x : ByteArray} {b : Int} {h : List ByteArray} {l : List GT} {ok : Bool} (h20 : ¬ x.size > 20000) (ht : topicB nm b h l = true ∧ nameB x = true ∧ ok = true) (hf : bsF l x = true ∨ l.length ≠ 4) : codeB nm b h l x ok = 0 := by
  unfold codeB; rw [if_neg h20, if_pos ht, if_pos hf]
theorem code_zero {nm x : ByteArray} {b : Int} {h : List ByteArray} {l : List GT} {ok : Bool} (hc : codeB nm b h l x ok = 0) : ¬ x.size > 20000 ∧ topicB nm b h l = true ∧ nameB x = true ∧ ok = true ∧ (bsF l x = true ∨ l.length ≠ 4) := by
  unfold codeB at hc
  split at hc
  · omega
  · rename_i h1
    split at hc
    · rename_i h2
      split at hc
      · rename_i h3; exact ⟨h1, h2.1, h2.2.1, h2.2.2, h3⟩
      · omega
    · omega
theorem code_kinds (nm x : ByteArray) (b : Int) (h : List ByteArray) (l : List GT) (ok : Bool) : codeB nm b h l x ok = 0 ∨ codeB nm b h l x ok = 1 ∨ codeB nm b h l x ok = 2 ∨ codeB nm b h l x ok = 9 := by
  unfold codeB
  repeat' split
  all_goals omega
theorem spec_begin {nm x : ByteArray} {b : Int} {h : List ByteArray} {l : List GT} {ok : Bool} (hn : nm.size ≤ 9223372036854775807) (hh : h.length ≤ 9223372036854775807) (hl : l.length ≤ 9223372036854775807) (hM : nmI l ≤ 9223372036854775807) {k : Nat}
    (hk : nm.size + (h.length + (l.length + (nmI l + 20010))) < k) : spec_l07Begin.f k nm b h l x ok = some (nm, b, h, (if codeB nm b h l x ok = 0 then grpL b l x else l), (if codeB nm b h l x ok = 0 then (bsI l x : Int) else 0), codeB nm b h l x ok) := by
  unfold spec_l07Begin.f
  by_cases h20 : x.size > 20000
  · rw [if_pos (by omega), code2 h20, if_neg (by decide), if_neg (by decide)]
  · rw [if_neg (by omega), spec_topic_eq hn hh hl hM (by omega), tbind]
    by_cases ht : topicB nm b h l = true
    · obtain ⟨b0, b1, hh20, hl4, he, hg⟩ := topicB_all ht
      rw [if_pos ht, spec_name_eq (by omega) (by omega), tbind]
      by_cases hm : nameB x = true
      · rw [if_pos hm]
        cases ok with
        | false =>
          rw [if_neg (by decide), code1 h20 (fun e => by cases e.2.2), if_neg (by decide), if_neg (by decide)]
        | true =>
          rw [if_pos rfl, spec_place hg (by omega) hl4 (by omega), tbind]
          unfold placeS
          by_cases hf : bsF l x = true
          · rw [if_pos hf, code0 h20 ⟨ht, hm, rfl⟩ (.inl hf), if_pos rfl, if_pos rfl, if_neg (by simp), show grpL b l x = l from if_pos hf]
          · rw [if_neg hf]
            by_cases h4 : l.length = 4
            · rw [if_pos h4, code9 h20 ⟨ht, hm, rfl⟩ (by simp [hf, h4])]
              show (if (-1 : Int) < 0 then some (nm, b, h, l, (0 : Int), (9 : Int)) else _) = _
              rw [if_pos (by decide), if_neg (by decide), if_neg (by decide)]
            · rw [if_neg h4, code0 h20 ⟨ht, hm, rfl⟩ (.inr h4), if_pos rfl, if_pos rfl, if_neg (by simp)]
      · rw [if_neg hm, code1 h20 (fun e => hm e.2.1), if_neg (by decide), if_neg (by decide)]
    · rw [if_neg ht, code1 h20 (fun e => ht e.1), if_neg (by decide), if_neg (by decide)]
/-- What TopicAck (back = false) and TopicSeek (true) answer. -/
def setT (nm : ByteArray) (b : Int) (h : List ByteArray) (l : List GT) (x : ByteArray) (n : Int) (back : Bool) : OutT :=
  if codeB nm b h l x true = 0 then (if (if back = true then b else (rd_T55 (grpL b l x) (bsI l x : Int)).f1) ≤ n ∧ n ≤ endB b h then
    (nm, b, h, (grpL b l x).set (bsI l x) ⟨(rd_T55 (grpL b l x) (bsI l x : Int)).f0, n⟩, [], 0, 0) else illT 8) else illT (codeB nm b h l x true)
theorem spec_set {nm x : ByteArray} {b n : Int} {h : List ByteArray} {l : List GT} {back : Bool} (hn : nm.size ≤ 9223372036854775807) (hh : h.length ≤ 9223372036854775807) (hl : l.length ≤ 9223372036854775807) (hM : nmI l ≤ 9223372036854775807) {k : Nat}
    (hk : nm.size + (h.length + (l.length + (nmI l + 20010))) < k) : spec_l07Set.f k nm b h l x n back = some (setT nm b h l x n back) := by
  unfold spec_l07Set.f
  rw [spec_begin hn hh hl hM hk, tbind]
  unfold spec_l07Set.g setT
  dsimp only
  by_cases hc : codeB nm b h l x true = 0
  · have hlt := grpL_lt b l x
    simp only [if_pos hc]
    rw [if_pos (by omega), if_pos (by omega), show spec_l07End.f nm b h l = some (endB b h) from rfl, tbind, tIs_eq, tbind, tNat]
    generalize (if back = true then b else (rd_T55 (grpL b l x) (bsI l x : Int)).f1) = low
    by_cases hs : low ≤ n ∧ n ≤ endB b h
    · rw [if_pos (decide_eq_true hs), if_pos hs]
    · rw [if_neg (by simpa using hs), if_neg hs]
      rfl
  · simp only [if_neg hc]
    rfl
theorem clone_ok {nm : ByteArray} {b : Int} {h : List ByteArray} {l : List GT} (h20 : h.length ≤ 20) (h4 : l.length ≤ 4) : impl_cloneTopic.f nm b h l = some (nm, b, h, l) := by
  unfold impl_cloneTopic.f slices_Clone_string_string.f impl_Group.f
  rw [tbind, if_pos (by simp; omega), tbind, tbind, if_pos (by simp; omega), tbind]
  simp
theorem impl_move {nm x : ByteArray} {b n : Int} {h : List ByteArray} {l : List GT} {back : Bool} (h4 : l.length ≤ 4) :
    impl_Topic_move.f nm b h l x n back = some (if bsF l x = true ∨ l.length ≠ 4 then (if (if back = true then b else (rd_T55 (grpL b l x) (bsI l x : Int)).f1) ≤ n ∧ n ≤ endB b h then (0, (grpL b l x).set (bsI l x) ⟨(rd_T55 (grpL b l x) (bsI l x : Int)).f0, n⟩) else (8, grpL b l x)) else (9, l)) := by
  unfold impl_Topic_move.f
  rw [if_pos (by omega)]
  by_cases hf : bsF l x = true ∨ l.length ≠ 4
  · rw [if_pos hf, if_pos hf, show impl_Topic_end.f nm b h l = some (endB b h) from rfl, tbind, tWithin_eq, tbind]
    generalize (if back = true then b else (rd_T55 (grpL b l x) (bsI l x : Int)).f1) = low
    by_cases hs : low ≤ n ∧ n ≤ endB b h
    · rw [if_pos (decide_eq_true hs), if_pos hs]
    · rw [if_neg (by simpa using hs), if_neg hs]
  · rw [if_neg hf, if_neg hf]
theorem setT_len {nm x : ByteArray} {b n : Int} {h : List ByteArray} {l : List GT} {back : Bool} : (setT nm b h l x n back).2.2.1.length ≤ 21 ∧ (setT nm b h l x n back).2.2.2.1.length ≤ 4 ∧ (setT nm b h l x n back).2.2.2.2.1.length ≤ 21 := by
  unfold setT
  split
  · next hc =>
    obtain ⟨_, ht, _, _, hf⟩ := code_zero hc
    obtain ⟨b0, b1, hh20, hl4, he, hg⟩ := topicB_all ht
    have h4 := grpL_len4 b hl4 hf
    generalize (if back = true then b else (rd_T55 (grpL b l x) (bsI l x : Int)).f1) = low
    split
    · show h.length ≤ 21 ∧ ((grpL b l x).set _ _).length ≤ 4 ∧ ([] : List ByteArray).length ≤ 21
      rw [List.length_set]
      exact ⟨by omega, h4, by simp⟩
    · exact ⟨Nat.zero_le _, Nat.zero_le _, Nat.zero_le _⟩
  · exact ⟨Nat.zero_le _, Nat.zero_le _, Nat.zero_le _⟩

end Go.Proofs.Ytnjnjffjblgldaa.Q
