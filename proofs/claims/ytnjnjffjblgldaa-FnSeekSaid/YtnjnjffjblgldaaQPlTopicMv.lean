/- TopicSeek and TopicAck, of the program and of the reference: what PlTopicSetT's function says. -/
import Derived.Test.YtnjnjffjblgldaaQx7
import Derived.Test.YtnjnjffjblgldaaQx8
import Derived.Test.YtnjnjffjblgldaaQx9
import Derived.Test.YtnjnjffjblgldaaQPlTopicSetT
namespace Go.Proofs.Ytnjnjffjblgldaa.Q
open Go.RowKit Go.Proofs.YtnjnjffjblgldaaW.PrintWords Go.Proofs.YtnjnjffjblgldaaW.PrintLast Go.Proofs.Ytnjnjffjblgldaa.HB
set_option linter.unusedVariables false
set_option linter.unusedSimpArgs false

theorem spec_seekT {nm x : ByteArray} {b n : Int} {h : List ByteArray} {l : List GT} (hn : nm.size ≤ 9223372036854775807) (hh : h.length ≤ 9223372036854775807) (hl : l.length ≤ 9223372036854775807) (hM : nmI l ≤ 9223372036854775807) {k : Nat}
    (hk : nm.size + (h.length + (l.length + (nmI l + 20010))) < k) : spec_TopicSeek.f k nm b h l x n = some (setT nm b h l x n true) := by
  unfold spec_TopicSeek.f
  rw [spec_set hn hh hl hM hk, tbind]
theorem impl_seekT {nm x : ByteArray} {b n : Int} {h : List ByteArray} {l : List GT} (hn : nm.size ≤ 9223372036854775807) (hh : h.length ≤ 9223372036854775807) (hl : l.length ≤ 9223372036854775807) (hM : nmI l ≤ 9223372036854775807) {k : Nat}
    (hk : nm.size + (h.length + (l.length + (nmI l + 20010))) < k) : impl_TopicSeek.f k nm b h l x n = some (setT nm b h l x n true) := by
  unfold impl_TopicSeek.f setT
  by_cases h20 : x.size > 20000
  · rw [if_pos (by omega), code2 h20, if_neg (by decide)]
    rfl
  · rw [if_neg (by omega), impl_topic_eq hn hh hl hM (by omega), tbind]
    by_cases ht : topicB nm b h l = true
    · obtain ⟨b0, b1, hh20, hl4, he, hg⟩ := topicB_all ht
      rw [if_pos ht, impl_name_eq (by omega) (by omega), tbind]
      by_cases hm : nameB x = true
      · rw [if_pos hm, clone_ok hh20 hl4, tbind]
        show (impl_Topic_move.f nm b h l x n true).bind _ = _
        rw [impl_move hl4, tbind]
        generalize (if true = true then b else (rd_T55 (grpL b l x) (bsI l x : Int)).f1) = low
        by_cases hf : bsF l x = true ∨ l.length ≠ 4
        · rw [if_pos hf, code0 h20 ⟨ht, hm, rfl⟩ hf, if_pos rfl]
          by_cases hs : low ≤ n ∧ n ≤ endB b h
          · rw [if_pos hs, if_pos hs]
            rfl
          · rw [if_neg hs, if_neg hs]
            rfl
        · rw [if_neg hf, code9 h20 ⟨ht, hm, rfl⟩ hf, if_neg (by decide)]
          rfl
      · rw [if_neg hm, code1 h20 (fun e => hm e.2.1), if_neg (by decide)]
        rfl
    · rw [if_neg ht, code1 h20 (fun e => ht e.1), if_neg (by decide)]
      rfl

theorem spec_ackT {nm x : ByteArray} {b n : Int} {h : List ByteArray} {l : List GT} (hn : nm.size ≤ 9223372036854775807) (hh : h.length ≤ 9223372036854775807) (hl : l.length ≤ 9223372036854775807) (hM : nmI l ≤ 9223372036854775807) {k : Nat}
    (hk : nm.size + (h.length + (l.length + (nmI l + 20010))) < k) : spec_TopicAck.f k nm b h l x n = some (setT nm b h l x n false) := by
  unfold spec_TopicAck.f
  rw [spec_set hn hh hl hM hk, tbind]
theorem impl_ackT {nm x : ByteArray} {b n : Int} {h : List ByteArray} {l : List GT} (hn : nm.size ≤ 9223372036854775807) (hh : h.length ≤ 9223372036854775807) (hl : l.length ≤ 9223372036854775807) (hM : nmI l ≤ 9223372036854775807) {k : Nat}
    (hk : nm.size + (h.length + (l.length + (nmI l + 20010))) < k) : impl_TopicAck.f k nm b h l x n = some (setT nm b h l x n false) := by
  unfold impl_TopicAck.f setT
  by_cases h20 : x.size > 20000
  · rw [if_pos (by omega), code2 h20, if_neg (by decide)]
    rfl
  · rw [if_neg (by omega), impl_topic_eq hn hh hl hM (by omega), tbind]
    by_cases ht : topicB nm b h l = true
    · obtain ⟨b0, b1, hh20, hl4, he, hg⟩ := topicB_all ht
      rw [if_pos ht, impl_name_eq (by omega) (by omega), tbind]
      by_cases hm : nameB x = true
      · rw [if_pos hm, clone_ok hh20 hl4, tbind]
        show (impl_Topic_move.f nm b h l x n false).bind _ = _
        rw [impl_move hl4, tbind]
        generalize (if false = true then b else (rd_T55 (grpL b l x) (bsI l x : Int)).f1) = low
        by_cases hf : bsF l x = true ∨ l.length ≠ 4
        · rw [if_pos hf, code0 h20 ⟨ht, hm, rfl⟩ hf, if_pos rfl]
          by_cases hs : low ≤ n ∧ n ≤ endB b h
          · rw [if_pos hs, if_pos hs]
            rfl
          · rw [if_neg hs, if_neg hs]
            rfl
        · rw [if_neg hf, code9 h20 ⟨ht, hm, rfl⟩ hf, if_neg (by decide)]
          rfl
      · rw [if_neg hm, code1 h20 (fun e => hm e.2.1), if_neg (by decide)]
        rfl
    · rw [if_neg ht, code1 h20 (fun e => ht e.1), if_neg (by decide)]
      rfl
end Go.Proofs.Ytnjnjffjblgldaa.Q
