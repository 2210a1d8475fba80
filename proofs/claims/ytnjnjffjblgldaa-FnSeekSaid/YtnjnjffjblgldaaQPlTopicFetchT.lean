/- What TopicFetch answers, the program's and the reference's: one and the same function. -/
import Derived.Test.YtnjnjffjblgldaaQx4
import Derived.Test.YtnjnjffjblgldaaQx6
import Derived.Test.YtnjnjffjblgldaaQPlTopicSetT
namespace Go.Proofs.Ytnjnjffjblgldaa.Q
open Go.RowKit Go.Proofs.YtnjnjffjblgldaaW.PrintWords Go.Proofs.YtnjnjffjblgldaaW.PrintLast Go.Proofs.Ytnjnjffjblgldaa.HB
set_option linter.unusedVariables false
set_option linter.unusedSimpArgs false

/-- Where a group stands: the number of the message that it fetches next. -/
def atG (b : Int) (l : List GT) (x : ByteArray) : Int := (rd_T55 (grpL b l x) (bsI l x : Int)).f1
/-- What TopicFetch answers. -/
def fetchT (nm : ByteArray) (b : Int) (h : List ByteArray) (l : List GT) (x : ByteArray) (a : Int) : OutT :=
  if codeB nm b h l x (decide (0 ≤ a ∧ a ≤ 20)) = 0 then (nm, b, h, grpL b l x, (h.drop (atG b l x - b).toNat).take a.toNat, atG b l x, 0) else illT (codeB nm b h l x (decide (0 ≤ a ∧ a ≤ 20)))
theorem at_bounds {nm : ByteArray} {b : Int} {h : List ByteArray} {l : List GT} (x : ByteArray) (ht : topicB nm b h l = true) : b ≤ atG b l x ∧ atG b l x ≤ b + (h.length : Int) := by
  obtain ⟨b0, b1, hh20, hl4, he, hg⟩ := topicB_all ht
  have e := endB_sum b0 b1 (by omega : h.length ≤ 21)
  have := rd_grp hg (by omega) x
  unfold atG
  omega
theorem spec_fetch {nm x : ByteArray} {b a : Int} {h : List ByteArray} {l : List GT} (hn : nm.size ≤ 9223372036854775807) (hh : h.length ≤ 9223372036854775807) (hl : l.length ≤ 9223372036854775807) (hM : nmI l ≤ 9223372036854775807) {k : Nat}
    (hk : nm.size + (h.length + (l.length + (nmI l + 20010))) < k) : spec_TopicFetch.f k nm b h l x a = some (fetchT nm b h l x a) := by
  unfold spec_TopicFetch.f
  rw [tIs_eq, tbind, spec_begin hn hh hl hM hk, tbind]
  unfold fetchT
  by_cases hc : codeB nm b h l x (decide (0 ≤ a ∧ a ≤ 20)) = 0
  · obtain ⟨_, ht, _, ha, hf⟩ := code_zero hc
    obtain ⟨b0, b1, hh20, hl4, he, hg⟩ := topicB_all ht
    have ha := of_decide_eq_true ha
    have hlt := grpL_lt b l x
    have hat := at_bounds x ht
    simp only [if_pos hc]
    rw [if_pos (by omega), if_pos (by omega)]
    change (spec_l01Min.f (h.length : Int) (wrap64 (wrap64 (atG b l x - b) + a))).bind _ = _
    show (spec_l01Min.f (h.length : Int) (wrap64 (wrap64 (atG b l x - b) + a))).bind (fun t116 => (some (([] : List ByteArray) : List ByteArray)).bind fun y117 => (if 0 ≤ (wrap64 (atG b l x - b)) then (if (wrap64 (atG b l x - b)) ≤ t116 then (if t116 ≤ (h.length : Int) then (if y117.length + ((h.take (t116 : Int).toNat).drop ((wrap64 (atG b l x - b)) : Int).toNat).length < 8796093022208 then (some (nm, b, h, grpL b l x, (y117 ++ ((h.take (t116 : Int).toNat).drop ((wrap64 (atG b l x - b)) : Int).toNat)), atG b l x, 0)) else (none)) else (none)) else (none)) else (none))) = _
    rw [w_id (i := atG b l x - b) (by omega) (by omega)]
    rw [w_id (i := atG b l x - b + a) (by omega) (by omega)]
    obtain ⟨d, hd⟩ : ∃ d : Nat, atG b l x - b = (d : Int) := ⟨(atG b l x - b).toNat, by omega⟩
    obtain ⟨m, rfl⟩ : ∃ m : Nat, a = (m : Int) := ⟨a.toNat, by omega⟩
    have hdl : d ≤ h.length := by omega
    rw [hd]
    unfold spec_l01Min.f
    by_cases hlt2 : (h.length : Int) < (d : Int) + (m : Int)
    · rw [if_pos hlt2, tbind, tbind, if_pos (by omega), if_pos (by omega), if_pos (by omega), if_pos (by simp; omega)]
      simp only [tNat, List.nil_append, List.take_length]
      rw [List.take_of_length_le (l := h.drop d) (by simp; omega)]
    · rw [if_neg hlt2, tbind, tbind, if_pos (by omega), if_pos (by omega), if_pos (by omega), if_pos (by simp; omega)]
      rw [show ((d : Int) + (m : Int)) = ((d + m : Nat) : Int) by omega]
      simp only [tNat, List.nil_append]
      rw [List.drop_take, show d + m - d = m by omega]
  · simp only [if_neg hc]
    rfl
theorem impl_fetch {nm x : ByteArray} {b a : Int} {h : List ByteArray} {l : List GT} (hn : nm.size ≤ 9223372036854775807) (hh : h.length ≤ 9223372036854775807) (hl : l.length ≤ 9223372036854775807) (hM : nmI l ≤ 9223372036854775807) {k : Nat}
    (hk : nm.size + (h.length + (l.length + (nmI l + 20010))) < k) : impl_TopicFetch.f k nm b h l x a = some (fetchT nm b h l x a) := by
  unfold impl_TopicFetch.f fetchT
  by_cases h20 : x.size > 20000
  · rw [if_pos (by omega), code2 h20, if_neg (by decide)]
    rfl
  · rw [if_neg (by omega), impl_topic_eq hn hh hl hM (by omega), tbind]
    by_cases ht : topicB nm b h l = true
    · obtain ⟨b0, b1, hh20, hl4, he, hg⟩ := topicB_all ht
      rw [if_pos ht, impl_name_eq (by omega) (by omega), tbind]
      by_cases hm : nameB x = true
      · rw [if_pos hm, tWithin_eq, tbind]
        by_cases ha : 0 ≤ a ∧ a ≤ 20
        · have hat := at_bounds x ht
          rw [decide_eq_true ha, if_pos rfl, clone_ok hh20 hl4, tbind]
          show (impl_Topic_fetch.f nm b h l x a).bind _ = _
          unfold impl_Topic_fetch.f
          rw [if_pos (by omega)]
          by_cases hf : bsF l x = true ∨ l.length ≠ 4
          · rw [if_pos hf, code0 h20 ⟨ht, hm, rfl⟩ hf, if_pos rfl]
            change (if 0 ≤ wrap64 (atG b l x - b) ∧ wrap64 (atG b l x - b) ≤ (h.length : Int) ∧ 0 ≤ a ∧ h.length ≤ 1000 then some ((h.drop (wrap64 (atG b l x - b)).toNat).take a.toNat, atG b l x, (0 : Int), grpL b l x) else none).bind _ = _
            rw [w_id (i := atG b l x - b) (by omega) (by omega), if_pos (by omega), tbind]
            rfl
          · rw [if_neg hf, code9 h20 ⟨ht, hm, rfl⟩ hf, if_neg (by decide), tbind]
            rfl
        · rw [decide_eq_false ha, if_neg (by decide), code1 h20 (fun e => by cases e.2.2), if_neg (by decide)]
          rfl
      · rw [if_neg hm, code1 h20 (fun e => hm e.2.1), if_neg (by decide)]
        rfl
    · rw [if_neg ht, code1 h20 (fun e => ht e.1), if_neg (by decide)]
      rfl
theorem fetchT_len {nm x : ByteArray} {b a : Int} {h : List ByteArray} {l : List GT} : (fetchT nm b h l x a).2.2.1.length ≤ 21 ∧ (fetchT nm b h l x a).2.2.2.1.length ≤ 4 ∧ (fetchT nm b h l x a).2.2.2.2.1.length ≤ 21 := by
  unfold fetchT
  split
  · next hc =>
    obtain ⟨_, ht, _, _, hf⟩ := code_zero hc
    obtain ⟨b0, b1, hh20, hl4, he, hg⟩ := topicB_all ht
    have h4 := grpL_len4 b hl4 hf
    show h.length ≤ 21 ∧ (grpL b l x).length ≤ 4 ∧ ((h.drop _).take _).length ≤ 21
    refine ⟨by omega, h4, ?_⟩
    simp
    omega
  · exact ⟨Nat.zero_le _, Nat.zero_le _, Nat.zero_le _⟩

end Go.Proofs.Ytnjnjffjblgldaa.Q
