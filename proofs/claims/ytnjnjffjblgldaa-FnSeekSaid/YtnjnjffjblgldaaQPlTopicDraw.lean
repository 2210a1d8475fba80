/- Draws of topics always come to an end, with small topics. -/
import Derived.Test.YtnjnjffjblgldaaQx11
import Derived.Test.YtnjnjffjblgldaaQPlSrc
import Derived.Test.YtnjnjffjblgldaaQPlTopicRet
import Derived.Test.YtnjnjffjblgldaaQPlTopicSet
namespace Go.Proofs.Ytnjnjffjblgldaa.Q
open Go.RowKit Go.Proofs.YtnjnjffjblgldaaW.PrintWords Go.Proofs.YtnjnjffjblgldaaW.PrintLast Go.Proofs.Ytnjnjffjblgldaa.HB
set_option linter.unusedVariables false
set_option linter.unusedSimpArgs false

theorem pub_ok {nm x : ByteArray} {b : Int} {h : List ByteArray} {l : List GT} {u v : Nat} (hs : smallT u v nm h l) {k : Nat} (hk : 200 ≤ k) :
    ∃ r1 r2 r3 r4 r5 r6 r7, spec_TopicPublish.f k nm b h l x = some (r1, r2, r3, r4, r5, r6, r7) ∧ (r7 = 0 → smallT u v r1 r3 r4) := by
  have := small_nm hs
  have hs' := hs
  obtain ⟨⟨u0, u1, v0, v1⟩, h1, h2, h3, h4⟩ := hs
  rw [spec_pub (by omega) (by omega) (by omega) (by omega) (by omega)]
  unfold pubT
  split
  · exact ⟨_, _, _, _, _, _, _, rfl, fun e => absurd e (by decide)⟩
  · split
    · next ht =>
      obtain ⟨b0, b1, h20, l4, he⟩ := topicB_bounds ht.1
      split
      · exact ⟨_, _, _, _, _, _, _, rfl, fun e => absurd e (by decide)⟩
      · exact ⟨_, _, _, _, _, _, _, rfl, fun _ => ⟨⟨u0, u1, v0, v1⟩, h1, by simp; omega, h3, h4⟩⟩
    · exact ⟨_, _, _, _, _, _, _, rfl, fun e => absurd e (by decide)⟩
theorem ret_ok {nm : ByteArray} {b a : Int} {h : List ByteArray} {l : List GT} {u v : Nat} (hs : smallT u v nm h l) {k : Nat} (hk : 200 ≤ k) :
    ∃ r1 r2 r3 r4 r5 r6 r7, spec_TopicRetain.f k nm b h l a = some (r1, r2, r3, r4, r5, r6, r7) ∧ (r7 = 0 → smallT u v r1 r3 r4) := by
  have := small_nm hs
  obtain ⟨⟨u0, u1, v0, v1⟩, h1, h2, h3, h4⟩ := hs
  rw [spec_ret (by omega) (by omega) (by omega) (by omega) (by omega)]
  unfold retT
  split
  · refine ⟨_, _, _, _, _, _, _, rfl, fun _ => ⟨⟨u0, u1, v0, v1⟩, h1, by simp; omega, by simpa using h3, fun g hg => ?_⟩⟩
    obtain ⟨x, hx, rfl⟩ := List.mem_map.1 hg
    exact h4 x hx
  · exact ⟨_, _, _, _, _, _, _, rfl, fun e => absurd e (by decide)⟩
/-- What is drawn in the end. -/
def drawn (o : Option (ByteArray × Int × List ByteArray × (List GT) × Int × Int × Int)) (s3 : Int) : Prop := ∃ nm b h l t1 t2, o = some (nm, b, h, l, t1, t2, s3) ∧ smallT 30 10 nm h l ∧ 0 ≤ t1
theorem held_l1 {s0 : List Int} {s3 : Int} (hl : s0.length ≤ 2000000) (nm : ByteArray) (b : Int) (l : List GT) : ∀ (d k : Nat) (s1 s2 : Int) (h : List ByteArray), 22 ≤ h.length + d → smallT 30 10 nm h l → h.length ≤ 22 → 0 ≤ s1 → d < k →
    drawn (spec_l01Src_l07Topic.l1 k s0 s1 s2 s3 nm b h l) s3 := by
  intro d
  induction d with
  | zero =>
    intro k s1 s2 h hd hs hh h0 hk
    obtain ⟨k, rfl⟩ := k_succ hk
    obtain ⟨r, a1, a2, e, g, p, q⟩ := n_ok (s2 := s2) (s3 := s3) (a := 3) h0 hl (by omega)
    rw [spec_l01Src_l07Topic.l1, e, tbind]
    dsimp only
    rw [w_id (by omega) (by omega), if_neg (by omega)]
    exact ⟨_, _, _, _, _, _, rfl, hs, g⟩
  | succ d ih =>
    intro k s1 s2 h hd hs hh h0 hk
    obtain ⟨k, rfl⟩ := k_succ hk
    obtain ⟨r, a1, a2, e, g, p, q⟩ := n_ok (s2 := s2) (s3 := s3) (a := 3) h0 hl (by omega)
    rw [spec_l01Src_l07Topic.l1, e, tbind]
    dsimp only
    rw [w_id (by omega) (by omega)]
    by_cases c : (h.length : Int) < 19 + r
    · rw [if_pos c, if_pos (by omega)]
      exact ih k a1 a2 _ (by simp; omega) ⟨hs.1, hs.2.1, by simp; omega, hs.2.2.2⟩ (by simp; omega) g (by omega)
    · rw [if_neg c]
      exact ⟨_, _, _, _, _, _, rfl, hs, g⟩
theorem topic_l0 {s0 : List Int} {s3 : Int} (hl : s0.length ≤ 2000000) : ∀ (d k : Nat) (s1 s2 : Int) (nm : ByteArray) (b : Int) (h : List ByteArray) (l : List GT), d ≤ 100 → smallT 20 5 nm h l → 0 ≤ s1 → 2 * d + 30010 ≤ k →
    drawn (spec_l01Src_l07Topic.l0 k (d : Int) s0 s1 s2 s3 nm b h l) s3 := by
  intro d
  induction d with
  | zero =>
    intro k s1 s2 nm b h l hd hs h0 hk
    obtain ⟨k, rfl⟩ : ∃ m, k = m + 1 := ⟨k - 1, by omega⟩
    obtain ⟨⟨u0, u1, v0, v1⟩, p1, p2, p3, p4⟩ := hs
    have hbig : smallT 30 10 nm h l := ⟨by omega, p1, by omega, by omega, p4⟩
    rw [spec_l01Src_l07Topic.l0, if_neg (by omega)]
    obtain ⟨r, a1, a2, e, g⟩ := one_ok (s2 := s2) (s3 := s3) (a := 15) h0 hl (by omega)
    rw [e, tbind]
    dsimp only
    by_cases c : r = true
    · rw [if_pos c]
      obtain ⟨r2, b1, b2, e2, g2, p, q⟩ := n_ok (s2 := a2) (s3 := s3) (a := 4) g hl (by omega)
      rw [e2, tbind]
      dsimp only
      by_cases z0 : r2 = 0
      · rw [if_pos z0, tbind]
        obtain ⟨r3, c1, c2, e3, g3, p', q'⟩ := n_ok (s2 := b2) (s3 := s3) (a := 5) g2 hl (by omega)
        rw [e3, tbind]
        dsimp only
        rw [if_pos p', if_pos (by simpa using q')]
        exact ⟨_, _, _, _, _, _, rfl, ⟨by omega, p1, by omega, by simp, fun g hg => by simp at hg⟩, g3⟩
      · rw [if_neg z0]
        by_cases z1 : r2 = 1
        · rw [if_pos z1]
          obtain ⟨r3, c1, c2, e3, g3, p', q'⟩ := n_ok (s2 := b2) (s3 := s3) (a := 30) g2 hl (by omega)
          rw [e3, tbind]
          dsimp only
          rw [if_pos (by omega)]
          refine ⟨_, _, _, _, _, _, rfl, ⟨by omega, p1, by omega, by simp; omega, fun g hg => ?_⟩, g3⟩
          rcases List.mem_append.1 hg with hg | hg
          · exact p4 g hg
          · rw [List.mem_singleton.1 hg]
            show 2 ≤ 20
            omega
        · rw [if_neg z1]
          by_cases z2 : r2 = 2
          · rw [if_pos z2]
            exact held_l1 hl nm b l 22 k b1 b2 h (by omega) hbig (by omega) g2 (by omega)
          · rw [if_neg z2, if_pos (by omega)]
            exact ⟨_, _, _, _, _, _, rfl, ⟨by omega, p1, by simp; omega, by omega, p4⟩, g2⟩
    · rw [if_neg c]
      exact ⟨_, _, _, _, _, _, rfl, hbig, g⟩
  | succ d ih =>
    intro k s1 s2 nm b h l hd hs h0 hk
    obtain ⟨k, rfl⟩ : ∃ m, k = m + 1 + 1 := ⟨k - 2, by omega⟩
    have hw : wrap64 (((d + 1 : Nat) : Int) - 1) = (d : Int) := by rw [w_id (by omega) (by omega)]; omega
    have fin : ∀ (a1 a2 : Int) (r1 : ByteArray) (r2 : Int) (r3 : List ByteArray) (r4 : List GT) (r5 : List ByteArray) (r6 r7 : Int), 0 ≤ a1 → (r7 = 0 → smallT 20 5 r1 r3 r4) → drawn (spec_l01Src_l07Topic.j1 (k + 1) ((d + 1 : Nat) : Int) s0 a1 a2 s3 nm b h l r1 r2 r3 r4 r5 r6 r7) s3 := by
      intro a1 a2 r1 r2 r3 r4 r5 r6 r7 g hr
      rw [spec_l01Src_l07Topic.j1, hw]
      split
      · next e => exact ih k a1 a2 r1 r2 r3 r4 (by omega) (hr e) g (by omega)
      · exact ih k a1 a2 nm b h l (by omega) hs g (by omega)
    rw [spec_l01Src_l07Topic.l0, if_pos (by omega)]
    obtain ⟨x, a1, a2, e1, g1⟩ := pick_ok (s2 := s2) (s3 := s3) (l := [(⟨#[120]⟩ : ByteArray), (⟨#[121, 121]⟩ : ByteArray)]) h0 hl (by simp)
    rw [e1, tbind]
    dsimp only
    obtain ⟨r1, r2, r3, r4, r5, r6, r7, e2, hp⟩ := pub_ok (x := x) (b := b) hs (k := k + 1) (by omega)
    rw [e2, tbind]
    obtain ⟨y, b1, b2, e3, g3, p, q⟩ := n_ok (s2 := a2) (s3 := s3) (a := 6) g1 hl (by omega)
    dsimp only
    rw [e3, tbind]
    dsimp only
    by_cases z0 : y = 0
    · rw [if_pos z0]
      obtain ⟨x2, c1, c2, e4, g4⟩ := pick_ok (s2 := b2) (s3 := s3) (l := [(⟨#[103]⟩ : ByteArray), (⟨#[104]⟩ : ByteArray), (⟨#[105]⟩ : ByteArray)]) g3 hl (by simp)
      rw [e4, tbind]
      dsimp only
      obtain ⟨y2, d1, d2, e5, g5, _, _⟩ := n_ok (s2 := c2) (s3 := s3) (a := 4) g4 hl (by omega)
      rw [e5, tbind]
      dsimp only
      obtain ⟨q1, q2, q3, q4, q5, q6, q7, e6, hq⟩ := ack_ok (x := x2) (b := b) (n := wrap64 (b + y2)) hs (k := k + 1) (by omega)
      rw [e6, tbind]
      exact fin _ _ _ _ _ _ _ _ _ g5 hq
    · rw [if_neg z0]
      by_cases z1 : y = 1
      · rw [if_pos z1]
        obtain ⟨x2, c1, c2, e4, g4⟩ := pick_ok (s2 := b2) (s3 := s3) (l := [(⟨#[103]⟩ : ByteArray), (⟨#[104]⟩ : ByteArray)]) g3 hl (by simp)
        rw [e4, tbind]
        dsimp only
        obtain ⟨y2, d1, d2, e5, g5, _, _⟩ := n_ok (s2 := c2) (s3 := s3) (a := 4) g4 hl (by omega)
        rw [e5, tbind]
        dsimp only
        obtain ⟨q1, q2, q3, q4, q5, q6, q7, e6, hq⟩ := seek_ok (x := x2) (b := b) (n := wrap64 (b + y2)) hs (k := k + 1) (by omega)
        rw [e6, tbind]
        exact fin _ _ _ _ _ _ _ _ _ g5 hq
      · rw [if_neg z1]
        by_cases z2 : y = 2
        · rw [if_pos z2]
          obtain ⟨y2, d1, d2, e5, g5, _, _⟩ := n_ok (s2 := b2) (s3 := s3) (a := 6) g3 hl (by omega)
          rw [e5, tbind]
          dsimp only
          obtain ⟨q1, q2, q3, q4, q5, q6, q7, e6, hq⟩ := ret_ok (b := b) (a := y2) hs (k := k + 1) (by omega)
          rw [e6, tbind]
          exact fin _ _ _ _ _ _ _ _ _ g5 hq
        · rw [if_neg z2]
          exact fin _ _ _ _ _ _ _ _ _ g3 hp
theorem topic_ok {s0 : List Int} {s1 s2 s3 : Int} (hl : s0.length ≤ 2000000) (h0 : 0 ≤ s1) {k : Nat} (hk : 40000 ≤ k) : drawn (spec_l01Src_l07Topic.f k s0 s1 s2 s3) s3 := by
  obtain ⟨r, a1, a2, e, g, p, q⟩ := n_ok (s2 := s2) (s3 := s3) (a := 3) h0 hl (by omega)
  obtain ⟨r2, b1, b2, e2, g2, p2, q2⟩ := n_ok (s2 := a2) (s3 := s3) (a := 14) g hl (by omega)
  unfold spec_l01Src_l07Topic.f
  rw [e, tbind]
  dsimp only
  rw [e2, tbind]
  dsimp only
  obtain ⟨d, rfl⟩ : ∃ d : Nat, r2 = (d : Int) := ⟨r2.toNat, by omega⟩
  exact topic_l0 hl d k b1 b2 _ _ _ _ (by omega) ⟨by omega, by show 1 ≤ 20; omega, by simp, by simp, fun g hg => by simp at hg⟩ g2 (by omega)

end Go.Proofs.Ytnjnjffjblgldaa.Q
