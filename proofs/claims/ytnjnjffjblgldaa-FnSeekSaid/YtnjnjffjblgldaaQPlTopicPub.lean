/- What the reference's TopicPublish answers. -/
import Derived.Test.YtnjnjffjblgldaaQx8
import Derived.Test.YtnjnjffjblgldaaQPlTopicR
namespace Go.Proofs.Ytnjnjffjblgldaa.Q
open Go.RowKit Go.Proofs.YtnjnjffjblgldaaW.PrintWords Go.Proofs.YtnjnjffjblgldaaW.PrintLast Go.Proofs.Ytnjnjffjblgldaa.HB
set_option linter.unusedVariables false
set_option linter.unusedSimpArgs false

abbrev Out := ByteArray × Int × List ByteArray × List GT × List ByteArray × Int × Int
def ill (c : Int) : Out := (⟨#[]⟩, 0, [], [], [], 0, c)
/-- What TopicPublish answers. -/
def pubT (nm : ByteArray) (b : Int) (h : List ByteArray) (l : List GT) (x : ByteArray) : Out :=
  if x.size > 20000 then ill 2 else if topicB nm b h l = true ∧ msgB x = true then (if h.length = 20 ∨ endB b h = 1000000000 then ill 9 else (nm, b, h ++ [x], l, [], endB b h, 0)) else ill 1
theorem topicB_bounds {nm : ByteArray} {b : Int} {h : List ByteArray} {l : List GT} (ht : topicB nm b h l = true) : 0 ≤ b ∧ b ≤ 1000000000 ∧ h.length ≤ 20 ∧ l.length ≤ 4 ∧ endB b h ≤ 1000000000 := by
  unfold topicB at ht
  simp only [Bool.and_eq_true, decide_eq_true_eq] at ht
  omega
theorem endB_eq {b : Int} {h : List ByteArray} (h0 : 0 ≤ b) (h1 : b ≤ 1000000000) (h2 : h.length ≤ 21) : endB b h = b + (h.length : Int) := by
  unfold endB
  rw [w_id (by omega) (by omega)]
theorem pub2 {nm : ByteArray} {b : Int} {h : List ByteArray} {l : List GT} {x : ByteArray} (h20 : x.size > 20000) : pubT nm b h l x = ill 2 := if_pos h20
theorem pub1 {nm : ByteArray} {b : Int} {h : List ByteArray} {l : List GT} {x : ByteArray} (h20 : ¬ x.size > 20000) (ht : ¬ (topicB nm b h l = true ∧ msgB x = true)) : pubT nm b h l x = ill 1 := by
  unfold pubT
  rw [if_neg h20, if_neg ht]
theorem pub9 {nm : ByteArray} {b : Int} {h : List ByteArray} {l : List GT} {x : ByteArray} (h20 : ¬ x.size > 20000) (ht : topicB nm b h l = true ∧ msgB x = true) (hf : h.length = 20 ∨ endB b h = 1000000000) : pubT nm b h l x = ill 9 := by
  unfold pubT
  rw [if_neg h20, if_pos ht, if_pos hf]
theorem pub0 {nm : ByteArray} {b : Int} {h : List ByteArray} {l : List GT} {x : ByteArray} (h20 : ¬ x.size > 20000) (ht : topicB nm b h l = true ∧ msgB x = true) (hf : ¬ (h.length = 20 ∨ endB b h = 1000000000)) : pubT nm b h l x = (nm, b, h ++ [x], l, [], endB b h, 0) := by
  unfold pubT
  rw [if_neg h20, if_pos ht, if_neg hf]
theorem spec_pub {nm : ByteArray} {b : Int} {h : List ByteArray} {l : List GT} {x : ByteArray} (hn : nm.size ≤ 9223372036854775807) (hh : h.length ≤ 9223372036854775807) (hl : l.length ≤ 9223372036854775807) (hM : nmI l ≤ 9223372036854775807) {k : Nat}
    (hk : nm.size + (h.length + (l.length + (nmI l + 10))) < k) : spec_TopicPublish.f k nm b h l x = some (pubT nm b h l x) := by
  obtain ⟨k, rfl⟩ : ∃ m, k = m + 1 + 1 := ⟨k - 2, by omega⟩
  unfold spec_TopicPublish.f
  by_cases h20 : x.size > 20000
  · rw [if_pos (by omega), pub2 h20]
    rfl
  · rw [if_neg (by omega), spec_topic_eq hn hh hl hM hk, tbind]
    by_cases ht : topicB nm b h l = true
    · obtain ⟨b0, b1, hh20, hl4, he⟩ := topicB_bounds ht
      rw [if_pos ht, text_eq, tbind, spec_TopicPublish.j0]
      by_cases hm : msgB x = true
      · rw [if_neg (by simp [hm])]
        have he2 : spec_l07End.f nm b h l = some (endB b h) := rfl
        have hc : spec_l07Copy.f nm b h l = some (nm, b, h, l) := by
          unfold spec_l07Copy.f
          rw [tbind, if_pos (by simp; omega), tbind, if_pos (by simp; omega)]
          simp
        by_cases hf : h.length = 20
        · rw [pub9 h20 ⟨ht, hm⟩ (Or.inl hf), if_pos (by omega), spec_TopicPublish.j1, if_pos rfl]
          rfl
        · rw [if_neg (by omega), he2, tbind, spec_TopicPublish.j1]
          by_cases hg : endB b h = 1000000000
          · rw [pub9 h20 ⟨ht, hm⟩ (Or.inr hg), if_pos (by simp [hg])]
            rfl
          · rw [pub0 h20 ⟨ht, hm⟩ (by omega), if_neg (by simp; omega), hc, tbind, if_pos (by show h.length < 8796093022208; omega), he2, tbind]
      · rw [pub1 h20 (fun e => hm e.2), if_pos (by simp [hm])]
        rfl
    · rw [pub1 h20 (fun e => ht e.1), if_neg ht, spec_TopicPublish.j0, if_pos rfl]
      rfl

end Go.Proofs.Ytnjnjffjblgldaa.Q
