/- A group of a drawn right topic that seeks a number fetches from that on; it never acks less than it has. No condition. -/
import Derived.Test.YtnjnjffjblgldaaQSaidFnSeek
import Derived.Test.YtnjnjffjblgldaaQPlTopicDraw
import Derived.Test.YtnjnjffjblgldaaQPlTopicMv
import Derived.Test.YtnjnjffjblgldaaQPlTopicAgain
import Derived.Test.YtnjnjffjblgldaaQx9
import Derived.Test.YtnjnjffjblgldaaQx12
import Derived.Test.YtnjnjffjblgldaaQx13
namespace Go.Proofs.Ytnjnjffjblgldaa.Q.PureFnSeek
open Go.RowKit Go.Proofs.YtnjnjffjblgldaaW.PrintWords Go.Proofs.YtnjnjffjblgldaaW.PrintLast Go.Proofs.Ytnjnjffjblgldaa.Q Go.Proofs.Ytnjnjffjblgldaa.HB
set_option linter.unusedVariables false
set_option linter.unusedSimpArgs false

theorem edge_ok {s0 : List Int} {s1 s2 s3 : Int} (h0 : 0 ≤ s1) (hl : s0.length ≤ 2000000) : ∃ r t1 t2, spec_l01Src_edge.f s0 s1 s2 s3 = some (r, t1, t2, s3) := by
  obtain ⟨r, a1, a2, e, _, r0, r1⟩ := n_ok (s2 := s2) (s3 := s3) (a := 14) h0 hl (by omega)
  unfold spec_l01Src_edge.f
  rw [tbind, e, tbind]
  dsimp only
  rw [if_pos r0, if_pos (by simpa using r1)]
  exact ⟨_, _, _, rfl⟩
theorem who_ok {s0 : List Int} {s1 s2 s3 : Int} (h0 : 0 ≤ s1) (hl : s0.length ≤ 2000000) : ∃ r t1 t2, spec_l01Src_l07Who.f s0 s1 s2 s3 = some (r, t1, t2, s3) ∧ 0 ≤ t1 := by
  obtain ⟨c, a1, a2, e, g⟩ := one_ok (s2 := s2) (s3 := s3) (a := 20) h0 hl (by omega)
  unfold spec_l01Src_l07Who.f
  rw [e, tbind]
  dsimp only
  split
  · exact ⟨_, _, _, rfl, g⟩
  · obtain ⟨x, b1, b2, e1, g1⟩ := pick_ok (s2 := a2) (s3 := s3) (l := [(⟨#[103]⟩ : ByteArray), (⟨#[104]⟩ : ByteArray), (⟨#[105]⟩ : ByteArray), (⟨#[106]⟩ : ByteArray), (⟨#[107]⟩ : ByteArray)]) g hl (by simp)
    rw [e1, tbind]
    exact ⟨_, _, _, rfl, g1⟩
theorem draw_ok {x0 : List Int} (hl : x0.length ≤ 2000000) {k : Nat} (hk : 40000 ≤ k) : ∃ nm b h l x n, spec_DrawTopicAck.f k x0 = some (nm, b, h, l, x, n) ∧ smallT 30 10 nm h l := by
  obtain ⟨m, z, e⟩ := source_ok hl (k := k) (by omega)
  obtain ⟨nm, b, h, l, t1, t2, e2, hs, g⟩ := topic_ok (s0 := x0) (s1 := 0) (s2 := m) (s3 := z) hl (by omega) hk
  obtain ⟨x, a1, a2, e3, g3⟩ := who_ok (s2 := t2) (s3 := z) g hl
  obtain ⟨c, b1, b2, e4, g4⟩ := one_ok (s2 := a2) (s3 := z) (a := 10) g3 hl (by omega)
  unfold spec_DrawTopicAck.f
  rw [e, tbind]
  dsimp only
  rw [e2, tbind]
  dsimp only
  rw [e3, tbind]
  dsimp only
  rw [e4, tbind]
  dsimp only
  split
  · obtain ⟨r, c1, c2, e5⟩ := edge_ok (s2 := b2) (s3 := z) g4 hl
    rw [e5, tbind]
    exact ⟨_, _, _, _, _, _, rfl, hs⟩
  · obtain ⟨r, c1, c2, e5, _, _, _⟩ := n_ok (s2 := b2) (s3 := z) (a := 9) g4 hl (by omega)
    rw [e5, tbind]
    exact ⟨_, _, _, _, _, _, rfl, hs⟩
theorem proved : SaidFnSeek.Pure := by
  intro x0 x1 hx hy
  obtain ⟨K, hK⟩ : ∃ K, K = 60000 := ⟨_, rfl⟩
  refine ⟨K + 2, ?_⟩
  unfold laws_FnSeek.f
  by_cases h0 : (x0.length : Int) > 1048576
  · rw [if_pos h0, laws_FnSeek.j0, if_pos rfl]
  rw [if_neg h0, laws_FnSeek.j0]
  by_cases h1 : (x1.length : Int) > 1048576
  · rw [if_pos (decide_eq_true h1)]
  rw [if_neg (by rw [decide_eq_false h1]; decide)]
  obtain ⟨nm, b, h, l, x, n, e, hs⟩ := draw_ok (x0 := x0) (by omega) (k := K + 1) (by omega)
  obtain ⟨nm', b', h', l', x', n', e', hs'⟩ := draw_ok (x0 := x1) (by omega) (k := K + 1) (by omega)
  have hn := small_nm hs
  have hn' := small_nm hs'
  obtain ⟨_, s1, s2, s3, s4⟩ := hs
  obtain ⟨_, s1', s2', s3', s4'⟩ := hs'
  have eS : spec_DrawTopicSeek.f (K + 1) x0 = some (nm, b, h, l, x, n) := by
    unfold spec_DrawTopicSeek.f
    rw [e, tbind]
  have q1 : impl_TopicSeek.f (K + 1) nm b h l x n = some (setT nm b h l x n true) := impl_seekT (by omega) (by omega) (by omega) (by omega) (by omega)
  have q2 : spec_TopicSeek.f (K + 1) nm b h l x n = some (setT nm b h l x n true) := spec_seekT (by omega) (by omega) (by omega) (by omega) (by omega)
  have q3 : impl_TopicAck.f (K + 1) nm' b' h' l' x' n' = some (setT nm' b' h' l' x' n' false) := impl_ackT (by omega) (by omega) (by omega) (by omega) (by omega)
  have q4 : spec_TopicAck.f (K + 1) nm' b' h' l' x' n' = some (setT nm' b' h' l' x' n' false) := spec_ackT (by omega) (by omega) (by omega) (by omega) (by omega)
  have q5 : spec_TopicFetch.f K nm' b' h' l' x' 0 = some (fetchT nm' b' h' l' x' 0) := spec_fetch (by omega) (by omega) (by omega) (by omega) (by omega)
  rw [eS, tbind]
  dsimp only
  rw [q1, tbind, e', tbind]
  dsimp only
  rw [q3, tbind, q2, tbind]
  have fin : laws_FnSeek.j1 (K + 1) x' n' ((setT nm' b' h' l' x' n' false).2.2.2.2.2.2 != (setT nm' b' h' l' x' n' false).2.2.2.2.2.2) nm' b' h' l' (setT nm' b' h' l' x' n' false).1 (setT nm' b' h' l' x' n' false).2.1 (setT nm' b' h' l' x' n' false).2.2.1 (setT nm' b' h' l' x' n' false).2.2.2.1 (setT nm' b' h' l' x' n' false).2.2.2.2.1 (setT nm' b' h' l' x' n' false).2.2.2.2.2.1 (setT nm' b' h' l' x' n' false).2.2.2.2.2.2 = some true := by
    rw [laws_FnSeek.j1, bne_self_eq_false, if_neg (by decide)]
    split
    · rename_i hc
      rw [q5, tbind]
      unfold setT at hc
      by_cases c0 : codeB nm' b' h' l' x' true = 0
      · rw [if_pos c0] at hc
        rw [show (if false = true then b' else (rd_T55 (grpL b' l' x') (bsI l' x' : Int)).f1) = (rd_T55 (grpL b' l' x') (bsI l' x' : Int)).f1 from if_neg (by decide)] at hc
        have c1 : codeB nm' b' h' l' x' (decide ((0 : Int) ≤ 0 ∧ (0 : Int) ≤ 20)) = 0 := c0
        unfold fetchT
        rw [if_pos c1]
        by_cases hr : (rd_T55 (grpL b' l' x') (bsI l' x' : Int)).f1 ≤ n' ∧ n' ≤ endB b' h'
        · show some (decide (n' ≥ atG b' l' x')) = some true
          unfold atG
          rw [decide_eq_true hr.1]
        · rw [if_neg hr] at hc
          exact absurd hc (by decide)
      · rw [if_neg c0] at hc
        exact absurd hc c0
    · rfl
  have hlen := setT_len (nm := nm) (b := b) (h := h) (l := l) (x := x) (n := n) (back := true)
  by_cases hc : (setT nm b h l x n true).2.2.2.2.2.2 = 0
  · have hc' := hc
    unfold setT at hc
    by_cases c0 : codeB nm b h l x true = 0
    · rw [if_pos c0, if_pos rfl] at hc
      by_cases hr : b ≤ n ∧ n ≤ endB b h
      · obtain ⟨h20, ht, hm, _, hf⟩ := code_zero c0
        obtain ⟨a1, a2, a3⟩ := set_again ht hm hf hr
        have eT : setT nm b h l x n true = (nm, b, h, (grpL b l x).set (bsI l x) ⟨(rd_T55 (grpL b l x) (bsI l x : Int)).f0, n⟩, [], 0, 0) := by
          unfold setT
          rw [if_pos c0, if_pos rfl, if_pos hr]
        rw [eT] at hlen ⊢
        generalize (grpL b l x).set (bsI l x) ⟨(rd_T55 (grpL b l x) (bsI l x : Int)).f0, n⟩ = L at a1 a2 a3 hlen
        dsimp only at hlen ⊢
        obtain ⟨_, _, _, l4, _, hg⟩ := topicB_all a1
        have hnL : nmI L ≤ 20 := nmI_le (fun g hg' => by
          obtain ⟨j, hj, rfl⟩ := List.getElem_of_mem hg'
          have := (okG_of hg j hj).1
          rw [rdg, List.getD_eq_getElem?_getD, List.getElem?_eq_getElem hj] at this
          exact nameB_size this)
        have hR : ∀ k, 2000 < k → spec_TopicRight.f k nm b h L = some true := fun k hk => by rw [spec_topic_eq (by omega) (by omega) (by omega) (by omega) (by omega), a1]
        rw [lwTopics_eq (by omega) (by omega) (by simp) (by omega) (fun _ => hR _ (by omega)), tbind, if_pos rfl, if_pos rfl, impl_fetch (by omega) (by omega) (by omega) (by omega) (by omega), tbind]
        have c1 : codeB nm b h L x (decide ((0 : Int) ≤ 1 ∧ (1 : Int) ≤ 20)) = 0 := code0 h20 ⟨a1, hm, by decide⟩ (.inl a2)
        have eF : (fetchT nm b h L x 1).2.2.2.2.2.1 = n := by
          unfold fetchT
          rw [if_pos c1]
          exact a3
        rw [if_pos eF, q4, tbind]
        exact fin
      · rw [if_neg hr] at hc
        exact absurd hc (by decide)
    · rw [if_neg c0] at hc
      exact absurd hc c0
  · have eT : ∃ c, c ≠ 0 ∧ setT nm b h l x n true = illT c := by
      unfold setT at hc ⊢
      by_cases c0 : codeB nm b h l x true = 0
      · rw [if_pos c0] at hc ⊢
        by_cases hr : (if true = true then b else (rd_T55 (grpL b l x) (bsI l x : Int)).f1) ≤ n ∧ n ≤ endB b h
        · rw [if_pos hr] at hc
          exact absurd rfl hc
        · rw [if_neg hr]
          exact ⟨8, by decide, rfl⟩
      · rw [if_neg c0]
        exact ⟨_, c0, rfl⟩
    obtain ⟨c, c0, eT⟩ := eT
    rw [eT]
    unfold illT
    dsimp only
    rw [lwTopics_eq (by simp) (by simp) (by simp) (by omega) (fun e => absurd e c0), tbind, if_pos rfl, if_neg c0, q4, tbind]
    exact fin
end Go.Proofs.Ytnjnjffjblgldaa.Q.PureFnSeek
