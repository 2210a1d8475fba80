/- The last messages of a drawn topic are retained with their numbers; groups behind are moved to the first one. No condition. -/
import Derived.Test.YtcnilcipcnjmjaaQSaidFnRetain
import Derived.Test.YtcnilcipcnjmjaaQPlTopicDraw
import Derived.Test.YtcnilcipcnjmjaaQPlTopicLw
import Derived.Test.YtcnilcipcnjmjaaQx12
import Derived.Test.YtcnilcipcnjmjaaQx13
import Derived.Test.YtcnilcipcnjmjaaQx16
import Derived.Test.YtcnilcipcnjmjaaQx17
namespace Go.Proofs.Ytcnilcipcnjmjaa.Q.PureFnRetain
open Go.RowKit Go.Proofs.YtcnilcipcnjmjaaW.PrintWords Go.Proofs.YtcnilcipcnjmjaaW.PrintLast Go.Proofs.Ytcnilcipcnjmjaa.Q Go.Proofs.Ytcnilcipcnjmjaa.HB
set_option linter.unusedVariables false
set_option linter.unusedSimpArgs false

theorem impl_l {b : Int} {l : List GT} (hl : l.length ≤ 9223372036854775807) {k : Nat} (hk : l.length < k) :
    impl_Topic_retain.l0 k b l (l.length : Int) 0 = some (l.map (upG b)) := by
  have := mapLoop (l := l) (c := upG b) z36 (m := 0) (F := fun k o i => impl_Topic_retain.l0 k b o (l.length : Int) i) (fin := fun o => o) (fun k o ho => by
    simp only [impl_Topic_retain.l0]
    rw [if_neg (by omega)]) (fun k o i hm hi ho => by
    simp only [impl_Topic_retain.l0]
    rw [if_pos (by omega), if_pos (by omega), if_pos (by omega), w_nat hi hl, tNat]
    rfl) l.length k 0 (by omega) (by omega)
  simpa using this
theorem impl_ret {nm : ByteArray} {b : Int} {h : List ByteArray} {l : List GT} {a : Int} (hn : nm.size ≤ 9223372036854775807) (hh : h.length ≤ 9223372036854775807) (hl : l.length ≤ 9223372036854775807) (hM : nmI l ≤ 9223372036854775807) {k : Nat}
    (hk : nm.size + (h.length + (l.length + (nmI l + 10))) < k) : impl_TopicRetain.f k nm b h l a = some (retT nm b h l a) := by
  unfold impl_TopicRetain.f
  rw [impl_topic_eq hn hh hl hM hk, tbind]
  by_cases ht : topicB nm b h l = true
  · obtain ⟨b0, b1, hh20, hl4, he⟩ := topicB_bounds ht
    rw [if_pos ht, tWithin_eq, tbind]
    by_cases hm : 0 ≤ a ∧ a ≤ 20
    · have hgb := gone_bounds hh20 hm.1 hm.2
      have hc : impl_cloneTopic.f nm b h l = some (nm, b, h, l) := by
        unfold impl_cloneTopic.f slices_Clone_string_string.f impl_Group.f
        rw [tbind, if_pos (by simp; omega), tbind, tbind, if_pos (by simp; omega), tbind]
        simp
      have hg : impl_Topic_retain.n h a = goneB h a := by
        unfold impl_Topic_retain.n goneB
        rw [w_id (by omega) (by omega)]
      rw [ret0 ⟨ht, hm⟩, if_pos (by simp [hm]), hc, tbind]
      show (impl_Topic_retain.f k nm b h l a).bind _ = _
      unfold impl_Topic_retain.f
      rw [hg, if_pos hgb.1, if_pos hgb.2, w_id (by omega) (by omega), impl_l hl (by omega), tbind, tbind]
    · rw [ret1 (fun e => hm e.2), if_neg (by simp; omega)]
      rfl
  · rw [ret1 (fun e => ht e.1), if_neg ht]
    rfl
theorem draw_ok {x0 : List Int} (hl : x0.length ≤ 2000000) {k : Nat} (hk : 40000 ≤ k) : ∃ nm b h l a, spec_DrawTopicRetain.f k x0 = some (nm, b, h, l, a) ∧ smallT 30 10 nm h l := by
  obtain ⟨m, z, e⟩ := source_ok hl (k := k) (by omega)
  obtain ⟨nm, b, h, l, t1, t2, e2, hs, g⟩ := topic_ok (s0 := x0) (s1 := 0) (s2 := m) (s3 := z) hl (by omega) hk
  obtain ⟨r, a1, a2, e3, _, _, _⟩ := n_ok (s2 := t2) (s3 := z) (a := 24) g hl (by omega)
  unfold spec_DrawTopicRetain.f
  rw [e, tbind]
  dsimp only
  rw [e2, tbind]
  dsimp only
  rw [e3, tbind]
  exact ⟨nm, b, h, l, _, rfl, hs⟩
theorem end_ok {nm : ByteArray} {b : Int} {h : List ByteArray} {l : List GT} {k : Nat} (hs : spec_TopicRight.f k nm b h l = some true) : spec_TopicEnd.f k nm b h l = some (endB b h) := by
  unfold spec_TopicEnd.f
  rw [hs, tbind, if_pos rfl]
  rfl
theorem law_l0 {nm : ByteArray} {b c n q : Int} {h h' t : List ByteArray} {l : List GT} (hl : l.length ≤ 10) : ∀ d k i : Nat, i + d = l.length → d < k →
    laws_FnRetain.l0 k (i : Int) nm b h l nm c h' (l.map (upG c)) t n q = some true := by
  intro d
  induction d with
  | zero =>
    intro k i hi hk
    obtain ⟨k, rfl⟩ := k_succ hk
    rw [laws_FnRetain.l0, if_neg (by omega)]
  | succ d ih =>
    intro k i hi hk
    obtain ⟨k, rfl⟩ := k_succ hk
    have hlt : i < l.length := by omega
    have hn := ih k (i + 1) (by omega) (by omega)
    rw [laws_FnRetain.l0, if_pos (by omega), if_pos (by omega), if_pos (by simpa using hlt), rd_up _ hlt, w_nat hlt (by omega)]
    by_cases hc : (rd_T36 l (i : Int)).f1 < c
    · have e : (upG c (rd_T36 l (i : Int))).f1 = c := if_pos hc
      rw [e, if_neg (by omega), if_pos (by omega), if_pos rfl]
      exact hn
    · have e : (upG c (rd_T36 l (i : Int))).f1 = (rd_T36 l (i : Int)).f1 := if_neg hc
      rw [e, if_neg (by omega), if_neg (by omega)]
      exact hn
theorem proved : SaidFnRetain.Pure := by
  intro x0 hx
  refine ⟨50000, ?_⟩
  obtain ⟨K, hK⟩ : ∃ m : Nat, m = 49998 := ⟨_, rfl⟩
  rw [show (50000 : Nat) = K + 1 + 1 by omega]
  unfold laws_FnRetain.f
  by_cases h0 : (x0.length : Int) > 1048576
  · rw [if_pos h0]
  rw [if_neg h0]
  obtain ⟨nm, b, h, l, a, e, hs⟩ := draw_ok (x0 := x0) (by omega) (k := K + 1 + 1) (by omega)
  have hn := small_nm hs
  have hs' := hs
  obtain ⟨_, h1, h2, h3, h4⟩ := hs
  have q1 : ∀ k, 200 ≤ k → spec_TopicRetain.f k nm b h l a = some (retT nm b h l a) := fun k hk => spec_ret (by omega) (by omega) (by omega) (by omega) (by omega)
  have q2 : impl_TopicRetain.f (K + 1 + 1) nm b h l a = some (retT nm b h l a) := impl_ret (by omega) (by omega) (by omega) (by omega) (by omega)
  rw [e, tbind]
  dsimp only
  rw [q2, tbind, q1 _ (by omega), tbind]
  by_cases ht : topicB nm b h l = true ∧ (0 ≤ a ∧ a ≤ 20)
  · obtain ⟨b0, b1, h20, l4, he⟩ := topicB_bounds ht.1
    obtain ⟨g0, g1⟩ := gone_bounds h20 ht.2.1 ht.2.2
    have hr := ret_right ht.1 ht.2.1 ht.2.2
    have hsm : smallT 30 10 nm (h.drop (goneB h a).toNat) (l.map (upG (b + goneB h a))) := ⟨by omega, h1, by simp; omega, by simpa using h3, fun g hg => by obtain ⟨x, hx, rfl⟩ := List.mem_map.1 hg; exact h4 x hx⟩
    have hR : ∀ k, 200 ≤ k → spec_TopicRight.f k nm (b + goneB h a) (h.drop (goneB h a).toNat) (l.map (upG (b + goneB h a))) = some true := fun k hk => by rw [small_right hsm hk, hr]
    have hR0 : ∀ k, 200 ≤ k → spec_TopicRight.f k nm b h l = some true := fun k hk => by rw [small_right hs' hk, ht.1]
    rw [ret0 ht]
    dsimp only
    rw [lwTopics_eq (by simp; omega) (by simp; omega) (by simp) (by omega) (fun _ => hR _ (by omega)), tbind, if_pos rfl, laws_FnRetain.j0, if_neg (by decide)]
    have w1 : wrap64 (b + goneB h a - b) = goneB h a := by rw [w_id (by omega) (by omega)]; omega
    rw [w1, if_pos rfl, end_ok (hR _ (by omega)), tbind, end_ok (hR0 _ (by omega)), tbind, ret_end b0 b1 h20 ht.2.1 ht.2.2, endB_eq b0 b1 (by omega), if_pos rfl, if_pos g0, if_pos g1, lwTexts_eq (by simp; omega) (by simp; omega), tbind, if_pos rfl]
    have hlen : ((h.drop (goneB h a).toNat).length : Int) = (h.length : Int) - goneB h a := by rw [List.length_drop]; omega
    have hle : ¬ ((h.drop (goneB h a).toNat).length : Int) > a := by
      rw [hlen]
      unfold goneB
      split <;> omega
    rw [if_neg hle]
    obtain ⟨k, rfl⟩ : ∃ m, K = m + 1 := ⟨K - 1, by omega⟩
    have j1 : laws_FnRetain.j1 (k + 1 + 1) false nm b h l nm (b + goneB h a) (h.drop (goneB h a).toNat) (l.map (upG (b + goneB h a))) [] (goneB h a) 0 = some true := by
      rw [laws_FnRetain.j1, if_neg (by decide)]
      exact law_l0 (by omega) l.length (k + 1) 0 (by omega) (by omega)
    by_cases hp : goneB h a > 0
    · have hq : ((h.drop (goneB h a).toNat).length : Int) = a := by
        rw [hlen]
        unfold goneB at hp ⊢
        split at hp
        · rw [if_pos (by assumption)]
          omega
        · omega
      rw [if_pos hp, hq]
      simpa using j1
    · rw [if_neg hp]
      exact j1
  · have hi : ∀ k, 2000 < k → laws_lwTopics.f k (⟨#[]⟩ : ByteArray) 0 [] [] [] 0 1 ⟨#[]⟩ 0 [] [] [] 0 1 = some true := fun k hk => lwTopics_eq (by simp) (by simp) (by simp) hk (fun e => absurd e (by decide))
    rw [ret1 ht]
    unfold ill
    dsimp only
    rw [hi _ (by omega), tbind, if_pos rfl, laws_FnRetain.j0, if_pos (by decide), q1 _ (by omega), ret1 ht, tbind]
    unfold ill
    dsimp only
    rw [hi _ (by omega), tbind]

end Go.Proofs.Ytcnilcipcnjmjaa.Q.PureFnRetain
