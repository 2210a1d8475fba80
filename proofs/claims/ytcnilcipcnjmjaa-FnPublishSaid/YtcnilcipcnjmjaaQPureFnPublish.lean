/- A message published to a drawn topic has the number that was its end, and is its last message; nothing else changes. No condition. -/
import Derived.Test.YtcnilcipcnjmjaaQSaidFnPublish
import Derived.Test.YtcnilcipcnjmjaaQPlTopicDraw
import Derived.Test.YtcnilcipcnjmjaaQPlTopicLw
import Derived.Test.YtcnilcipcnjmjaaQx13
import Derived.Test.YtcnilcipcnjmjaaQx14
import Derived.Test.YtcnilcipcnjmjaaQx18
import Derived.Test.YtcnilcipcnjmjaaQx19
import Derived.Test.YtcnilcipcnjmjaaQx20
namespace Go.Proofs.Ytcnilcipcnjmjaa.Q.PureFnPublish
open Go.RowKit Go.Proofs.YtcnilcipcnjmjaaW.PrintWords Go.Proofs.YtcnilcipcnjmjaaW.PrintLast Go.Proofs.Ytcnilcipcnjmjaa.Q Go.Proofs.Ytcnilcipcnjmjaa.HB
set_option linter.unusedVariables false
set_option linter.unusedSimpArgs false

theorem impl_pub {nm : ByteArray} {b : Int} {h : List ByteArray} {l : List GT} {x : ByteArray} (hn : nm.size ≤ 9223372036854775807) (hh : h.length ≤ 9223372036854775807) (hl : l.length ≤ 9223372036854775807) (hM : nmI l ≤ 9223372036854775807) {k : Nat}
    (hk : nm.size + (h.length + (l.length + (nmI l + 10))) < k) : impl_TopicPublish.f k nm b h l x = some (pubT nm b h l x) := by
  unfold impl_TopicPublish.f
  by_cases h20 : x.size > 20000
  · rw [if_pos (by omega), pub2 h20]
    rfl
  · rw [if_neg (by omega), impl_topic_eq hn hh hl hM hk, tbind]
    by_cases ht : topicB nm b h l = true
    · obtain ⟨b0, b1, hh20, hl4, he⟩ := topicB_bounds ht
      rw [if_pos ht, message_eq, tbind]
      by_cases hm : msgB x = true
      · rw [if_pos hm]
        have hc : impl_cloneTopic.f nm b h l = some (nm, b, h, l) := by
          unfold impl_cloneTopic.f slices_Clone_string_string.f impl_Group.f
          rw [tbind, if_pos (by simp; omega), tbind, tbind, if_pos (by simp; omega), tbind]
          simp
        have he2 : ∀ y : List ByteArray, impl_Topic_end.f nm b y l = some (endB b y) := fun _ => rfl
        rw [hc, tbind]
        show (impl_Topic_publish.f nm b h l x).bind _ = _
        unfold impl_Topic_publish.f
        by_cases hf : h.length = 20
        · rw [pub9 h20 ⟨ht, hm⟩ (Or.inl hf), if_pos (by omega), tbind]
          rfl
        · rw [if_neg (by omega), he2, tbind]
          by_cases hg : endB b h = 1000000000
          · rw [pub9 h20 ⟨ht, hm⟩ (Or.inr hg), if_pos hg, tbind]
            rfl
          · rw [pub0 h20 ⟨ht, hm⟩ (by omega), if_neg hg, if_pos (by omega), he2, tbind, tbind]
            have e1 : endB b h = b + (h.length : Int) := endB_eq b0 b1 (by omega)
            have e2 : endB b (h ++ [x]) = b + (h.length : Int) + 1 := by
              rw [endB_eq b0 b1 (by simp; omega)]
              simp
              omega
            have e3 : wrap64 (endB b (h ++ [x]) - 1) = endB b h := by
              rw [e2, e1, w_id (by omega) (by omega)]
              omega
            rw [e3]
            rfl
      · rw [pub1 h20 (fun e => hm e.2), if_neg hm]
        rfl
    · rw [pub1 h20 (fun e => ht e.1), if_neg ht]
      rfl
theorem pub_right {nm x : ByteArray} {b : Int} {h : List ByteArray} {l : List GT} (ht : topicB nm b h l = true) (hx : msgB x = true) (hf : ¬ (h.length = 20 ∨ endB b h = 1000000000)) : topicB nm b (h ++ [x]) l = true := by
  obtain ⟨b0, b1, h20, l4, he⟩ := topicB_bounds ht
  obtain ⟨p1, p2, p3⟩ := topicB_parts ht
  have e0 : endB b h = b + (h.length : Int) := endB_eq b0 b1 (by omega)
  have e1 : endB b (h ++ [x]) = b + (h.length : Int) + 1 := by
    rw [endB_eq b0 b1 (by simp; omega)]
    simp
    omega
  unfold topicB
  rw [e1]
  simp only [Bool.and_eq_true, decide_eq_true_eq]
  refine ⟨p1, by omega, by simp; omega, l4, by omega, ?_, ?_⟩
  · unfold heldB at p2 ⊢
    rw [List.all_append, p2]
    simpa using hx
  · unfold grB
    refine scan_none _ _ fun j _ hj => ?_
    have hj : j < l.length := by omega
    have := scan_all l.length 0 p3 (grStep_ne _ _ _) j (by omega) (by omega)
    simp only [grStep] at this ⊢
    rw [e0] at this
    by_cases hn : nameB (rd_T36 l (j : Int)).f0 = true
    · rw [if_pos hn] at this ⊢
      by_cases hd : decide (b ≤ (rd_T36 l (j : Int)).f1 ∧ (rd_T36 l (j : Int)).f1 ≤ b + (h.length : Int)) = true
      · have hd1 := of_decide_eq_true hd
        have hd2 : decide (b ≤ (rd_T36 l (j : Int)).f1 ∧ (rd_T36 l (j : Int)).f1 ≤ b + (h.length : Int) + 1) = true := decide_eq_true (by omega)
        by_cases h0 : j = 0
        · rw [if_pos h0, if_pos hd2]
        · rw [if_neg h0] at this ⊢
          by_cases hs : Op.bytesLess (rd_T36 l ((j : Int) - 1)).f0.toList (rd_T36 l (j : Int)).f0.toList = true
          · rw [if_pos hs, if_pos hd2]
          · rw [if_neg hs] at this
            cases this
      · rw [if_neg hd] at this
        split at this
        · cases this
        · split at this <;> cases this
    · rw [if_neg hn] at this
      cases this
theorem drawPub_ok {x0 : List Int} (hl : x0.length ≤ 2000000) {k : Nat} (hk : 40000 ≤ k) : ∃ nm b h l x, spec_DrawTopicPublish.f k x0 = some (nm, b, h, l, x) ∧ smallT 30 10 nm h l := by
  obtain ⟨m, z, e⟩ := source_ok hl (k := k) (by omega)
  obtain ⟨nm, b, h, l, t1, t2, e2, hs, g⟩ := topic_ok (s0 := x0) (s1 := 0) (s2 := m) (s3 := z) hl (by omega) hk
  obtain ⟨r, a1, a2, e3, g3⟩ := one_ok (s2 := t2) (s3 := z) (a := 10) g hl (by omega)
  unfold spec_DrawTopicPublish.f
  rw [e, tbind]
  dsimp only
  rw [e2, tbind]
  dsimp only
  rw [e3, tbind]
  dsimp only
  by_cases c : r = true
  · rw [if_pos c, tbind]
    obtain ⟨r2, c1, c2, e4, g4, p, q⟩ := n_ok (s2 := a2) (s3 := z) (a := 3) g3 hl (by omega)
    rw [e4, tbind]
    dsimp only
    have hr : 0 ≤ rd [(0 : Int), 40, 41] r2 ∧ (rd [(0 : Int), 40, 41] r2).toNat ≤ 281474976710656 := by
      rcases (by omega : r2 = 0 ∨ r2 = 1 ∨ r2 = 2) with rfl | rfl | rfl <;> simp [rd]
    rw [if_pos p, if_pos (by simpa using q), if_pos hr.1, if_pos hr.2]
    exact ⟨nm, b, h, l, _, rfl, hs⟩
  · rw [if_neg c]
    exact ⟨nm, b, h, l, _, rfl, hs⟩
theorem drawEnd_ok {x0 : List Int} (hl : x0.length ≤ 2000000) {k : Nat} (hk : 40000 ≤ k) : ∃ nm b h l, spec_DrawTopicEnd.f k x0 = some (nm, b, h, l) ∧ smallT 30 10 nm h l := by
  obtain ⟨m, z, e⟩ := source_ok hl (k := k) (by omega)
  obtain ⟨nm, b, h, l, t1, t2, e2, hs, g⟩ := topic_ok (s0 := x0) (s1 := 0) (s2 := m) (s3 := z) hl (by omega) hk
  unfold spec_DrawTopicEnd.f
  rw [e, tbind]
  dsimp only
  rw [e2, tbind]
  exact ⟨nm, b, h, l, rfl, hs⟩
def endT (nm : ByteArray) (b : Int) (h : List ByteArray) (l : List GT) : Int := if topicB nm b h l = true then endB b h else 0
theorem specEnd {nm : ByteArray} {b : Int} {h : List ByteArray} {l : List GT} {u v : Nat} (hs : smallT u v nm h l) {k : Nat} (hk : 200 ≤ k) : spec_TopicEnd.f k nm b h l = some (endT nm b h l) := by
  unfold spec_TopicEnd.f endT
  rw [small_right hs hk, tbind]
  split <;> rfl
theorem implRight {nm : ByteArray} {b : Int} {h : List ByteArray} {l : List GT} {u v : Nat} (hs : smallT u v nm h l) {k : Nat} (hk : 200 ≤ k) : impl_isTopic.f k nm b h l = some (topicB nm b h l) := by
  have := small_nm hs
  obtain ⟨⟨u0, u1, v0, v1⟩, h1, h2, h3, h4⟩ := hs
  exact impl_topic_eq (by omega) (by omega) (by omega) (by omega) (by omega)
theorem implEnd {nm : ByteArray} {b : Int} {h : List ByteArray} {l : List GT} {u v : Nat} (hs : smallT u v nm h l) {k : Nat} (hk : 200 ≤ k) : impl_TopicEnd.f k nm b h l = some (endT nm b h l) := by
  unfold impl_TopicEnd.f endT
  rw [implRight hs hk, tbind]
  split <;> rfl
theorem law_j0 {x0 x1 : List Int} (hl : x0.length ≤ 1048576) (hl1 : x1.length ≤ 1048576) {K : Nat} (hK : 40000 ≤ K) : laws_FnPublish.j0 (K + 1 + 1) x0 x1 false = some true := by
  obtain ⟨nm, b, h, l, x, e, hs⟩ := drawPub_ok (x0 := x0) (by omega) (k := K + 1) (by omega)
  obtain ⟨nm', b', h', l', e', hs'⟩ := drawEnd_ok (x0 := x1) (by omega) (k := K + 1) (by omega)
  have hn := small_nm hs
  have hs0 := hs
  obtain ⟨_, h1, h2, h3, h4⟩ := hs
  have q1 : spec_TopicPublish.f (K + 1) nm b h l x = some (pubT nm b h l x) := spec_pub (by omega) (by omega) (by omega) (by omega) (by omega)
  have q2 : impl_TopicPublish.f (K + 1) nm b h l x = some (pubT nm b h l x) := impl_pub (by omega) (by omega) (by omega) (by omega) (by omega)
  have hill : ∀ (c : Int), c ≠ 0 → ∀ k, 2000 < k → laws_lwTopics.f k (⟨#[]⟩ : ByteArray) 0 [] [] [] 0 c ⟨#[]⟩ 0 [] [] [] 0 c = some true := fun c hc k hk => lwTopics_eq (by simp) (by simp) (by simp) hk (fun e => absurd e hc)
  have tail : ∀ (r1 : ByteArray) (r2 : Int) (r3 : List ByteArray) (r4 : List GT) (r5 : List ByteArray) (r6 r7 : Int), pubT nm b h l x = (r1, r2, r3, r4, r5, r6, r7) → laws_lwTopics.f (K + 1) r1 r2 r3 r4 r5 r6 r7 r1 r2 r3 r4 r5 r6 r7 = some true →
      laws_FnPublish.j1 (K + 1) x false nm b h l r1 r2 r3 r4 r5 r6 r7 = some true → laws_FnPublish.j0 (K + 1 + 1) x0 x1 false = some true := by
    intro r1 r2 r3 r4 r5 r6 r7 ep el ej
    rw [laws_FnPublish.j0, if_neg (by decide), e, tbind]
    dsimp only
    rw [q2, ep, tbind, e', tbind]
    dsimp only
    rw [q1, ep, tbind]
    dsimp only
    rw [el, tbind, if_pos rfl, implEnd hs' (by omega), tbind, specEnd hs' (by omega), tbind, if_pos rfl]
    unfold impl_TopicRight.f
    rw [implRight hs' (by omega), tbind, tbind, small_right hs' (by omega), tbind]
    simpa using ej
  by_cases h20 : x.size > 20000
  · refine tail _ _ _ _ _ _ _ (pub2 h20) (hill 2 (by decide) _ (by omega)) ?_
    rw [laws_FnPublish.j1, if_neg (by decide), if_neg (by decide)]
  · by_cases ht : topicB nm b h l = true ∧ msgB x = true
    · by_cases hf : h.length = 20 ∨ endB b h = 1000000000
      · refine tail _ _ _ _ _ _ _ (pub9 h20 ht hf) (hill 9 (by decide) _ (by omega)) ?_
        rw [laws_FnPublish.j1, if_neg (by decide), if_neg (by decide)]
      · obtain ⟨b0, b1, g20, l4, he⟩ := topicB_bounds ht.1
        have hr := pub_right ht.1 ht.2 hf
        have hsm : smallT 30 10 nm (h ++ [x]) l := ⟨by omega, h1, by simp; omega, h3, h4⟩
        refine tail _ _ _ _ _ _ _ (pub0 h20 ht hf) (lwTopics_eq (by simp; omega) (by omega) (by simp) (by omega) (fun _ => by rw [small_right hsm (by omega), hr])) ?_
        rw [laws_FnPublish.j1, if_neg (by decide), if_pos rfl, specEnd hs0 (by omega), tbind]
        have ee : endT nm b h l = endB b h := if_pos ht.1
        rw [ee, if_pos rfl, tbind, if_pos (by simp; omega), tbind, tbind, if_pos (by simp; omega), List.nil_append, lwTexts_eq (by simp; omega) (by simp; omega), tbind, if_pos rfl, lwGroups_eq (by omega) (by omega), tbind, if_pos rfl]
        simp
    · refine tail _ _ _ _ _ _ _ (pub1 h20 ht) (hill 1 (by decide) _ (by omega)) ?_
      rw [laws_FnPublish.j1, if_neg (by decide), if_neg (by decide)]
theorem proved : SaidFnPublish.Pure := by
  intro x0 x1 hx hy
  refine ⟨50002, ?_⟩
  obtain ⟨K, hK⟩ : ∃ m : Nat, m = 50000 := ⟨_, rfl⟩
  rw [show (50002 : Nat) = K + 1 + 1 by omega]
  unfold laws_FnPublish.f
  by_cases h0 : (x0.length : Int) > 1048576
  · rw [if_pos h0, laws_FnPublish.j0, if_pos rfl]
  · rw [if_neg h0]
    by_cases h1 : (x1.length : Int) > 1048576
    · rw [decide_eq_true h1, laws_FnPublish.j0, if_pos rfl]
    · rw [decide_eq_false h1]
      exact law_j0 (by omega) (by omega) (by omega)

end Go.Proofs.Ytcnilcipcnjmjaa.Q.PureFnPublish
