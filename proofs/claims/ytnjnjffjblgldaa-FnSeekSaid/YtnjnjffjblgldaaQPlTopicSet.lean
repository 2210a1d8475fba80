/- What the reference's TopicAck and TopicSeek answer is a topic that is no greater than it may be, or a code. -/
import Derived.Test.YtnjnjffjblgldaaQx7
import Derived.Test.YtnjnjffjblgldaaQx8
import Derived.Test.YtnjnjffjblgldaaQPlTopicPub
namespace Go.Proofs.Ytnjnjffjblgldaa.Q
open Go.RowKit Go.Proofs.YtnjnjffjblgldaaW.PrintWords Go.Proofs.YtnjnjffjblgldaaW.PrintLast Go.Proofs.Ytnjnjffjblgldaa.HB
set_option linter.unusedVariables false
set_option linter.unusedSimpArgs false

/-- A topic that is not great. -/
def smallT (u v : Nat) (nm : ByteArray) (h : List ByteArray) (l : List GT) : Prop := (20 ≤ u ∧ u ≤ 30 ∧ 4 ≤ v ∧ v ≤ 10) ∧ nm.size ≤ 20 ∧ h.length ≤ u ∧ l.length ≤ v ∧ ∀ g ∈ l, g.f0.size ≤ 20
theorem small_nm {nm : ByteArray} {h : List ByteArray} {l : List GT} {u v : Nat} (hs : smallT u v nm h l) : nmI l ≤ 20 := sup_le' hs.2.2.2.2
theorem small_right {nm : ByteArray} {b : Int} {h : List ByteArray} {l : List GT} {u v : Nat} (hs : smallT u v nm h l) {k : Nat} (hk : 200 ≤ k) : spec_TopicRight.f k nm b h l = some (topicB nm b h l) := by
  have := small_nm hs
  obtain ⟨⟨u0, u1, v0, v1⟩, h1, h2, h3, h4⟩ := hs
  exact spec_topic_eq (by omega) (by omega) (by omega) (by omega) (by omega)
theorem copy_ok {nm : ByteArray} {b : Int} {h : List ByteArray} {l : List GT} (h2 : h.length ≤ 30) (h3 : l.length ≤ 10) : spec_l07Copy.f nm b h l = some (nm, b, h, l) := by
  unfold spec_l07Copy.f
  rw [tbind, if_pos (by simp; omega), tbind, if_pos (by simp; omega)]
  simp
/-- A group's place: the groups then, and the number; -1: there is no room. -/
def placed (v : Nat) (l' : List GT) (k' : Int) : Prop := k' < 0 ∨ (0 ≤ k' ∧ k' < (l'.length : Int) ∧ l'.length ≤ v ∧ ∀ g ∈ l', g.f0.size ≤ 20)
theorem group_j1 {nm x : ByteArray} {b : Int} {h : List ByteArray} {l : List GT} {u v : Nat} (hs : smallT u v nm h l) (hx : x.size ≤ 20) {i : Nat} (hi : i ≤ l.length) {k : Nat} (hk : 2 ≤ k) :
    ∃ l' k', spec_l07Group.j1 k x (i : Int) nm b h l = some (nm, b, h, l', k') ∧ placed v l' k' := by
  obtain ⟨⟨u0, u1, v0, v1⟩, h1, h2, h3, h4⟩ := hs
  obtain ⟨k, rfl⟩ : ∃ m, k = m + 1 + 1 := ⟨k - 2, by omega⟩
  have key : ∀ c : Bool, (c = true → i < l.length) → ∃ l' k', spec_l07Group.j2 (k + 1) x (i : Int) c nm b h l nm b h l = some (nm, b, h, l', k') ∧ placed v l' k' := by
    intro c hc
    rw [spec_l07Group.j2]
    by_cases e : c = true
    · rw [if_pos e]
      have := hc e
      exact ⟨l, i, rfl, .inr ⟨by omega, by omega, h3, h4⟩⟩
    · rw [if_neg e]
      by_cases e4 : (l.length : Int) ≥ 4
      · rw [if_pos e4]
        exact ⟨l, -1, rfl, .inl (by omega)⟩
      · rw [if_neg e4, tbind, if_pos (by omega), if_pos (by omega), tbind, if_pos (by simp; omega), tbind, if_pos (by simp; omega), tbind, tbind, if_pos (by simp; omega)]
        refine ⟨_, _, rfl, .inr ⟨by omega, by simp; omega, by simp; omega, fun g hg => ?_⟩⟩
        simp only [List.nil_append, List.mem_append, List.mem_singleton] at hg
        rcases hg with (hg | rfl) | hg
        · exact h4 g (List.mem_of_mem_take hg)
        · exact hx
        · exact h4 g (List.mem_of_mem_drop hg)
  rw [spec_l07Group.j1, copy_ok (by omega) (by omega), tbind]
  by_cases e : (i : Int) < (l.length : Int)
  · rw [if_pos e, if_pos (by omega)]
    exact key _ (fun _ => by omega)
  · rw [if_neg e]
    exact key false (fun e => by cases e)
theorem group_l0 {nm x : ByteArray} {b : Int} {h : List ByteArray} {l : List GT} {u v : Nat} (hs : smallT u v nm h l) (hx : x.size ≤ 20) : ∀ d i k : Nat, i + d = l.length → d + 2 < k →
    ∃ l' k', spec_l07Group.l0 k x (i : Int) nm b h l = some (nm, b, h, l', k') ∧ placed v l' k' := by
  intro d
  induction d with
  | zero =>
    intro i k hi hk
    obtain ⟨k, rfl⟩ : ∃ m, k = m + 1 := ⟨k - 1, by omega⟩
    rw [spec_l07Group.l0, if_neg (by omega)]
    exact group_j1 hs hx (by omega) (by omega)
  | succ d ih =>
    intro i k hi hk
    obtain ⟨k, rfl⟩ : ∃ m, k = m + 1 := ⟨k - 1, by omega⟩
    have h3 := hs.2.2.2.1
    have h5 := hs.1
    rw [spec_l07Group.l0, if_pos (by omega), if_pos (by omega)]
    by_cases e : Op.bytesLess (rd_T55 l (i : Int)).f0.toList x.toList = true
    · rw [if_pos e, w_nat (n := l.length) (by omega) (by omega)]
      exact ih (i + 1) k (by omega) (by omega)
    · rw [if_neg e]
      exact group_j1 hs hx (by omega) (by omega)
theorem begin_ok {nm x : ByteArray} {b : Int} {h : List ByteArray} {l : List GT} {u v : Nat} (hs : smallT u v nm h l) {ok : Bool} {k : Nat} (hk : 30000 ≤ k) :
    ∃ l' k' c, spec_l07Begin.f k nm b h l x ok = some (nm, b, h, l', k', c) ∧ (c = 0 → 0 ≤ k' ∧ k' < (l'.length : Int) ∧ l'.length ≤ v ∧ ∀ g ∈ l', g.f0.size ≤ 20) := by
  have h3 := hs.2.2.2.1
  have h5 := hs.1
  unfold spec_l07Begin.f
  by_cases h20 : (x.size : Int) > 20000
  · rw [if_pos h20]
    exact ⟨l, 0, 2, rfl, fun e => absurd e (by omega)⟩
  · rw [if_neg h20, small_right hs (by omega), tbind]
    by_cases ht : topicB nm b h l = true
    · rw [if_pos ht, spec_name_eq (by omega) (by omega), tbind]
      by_cases hn : nameB x = true
      · rw [if_pos hn]
        cases ok with
        | false =>
          rw [if_neg (by decide)]
          exact ⟨l, 0, 1, rfl, fun e => absurd e (by omega)⟩
        | true =>
          obtain ⟨l', k', e, hp⟩ := group_l0 (b := b) hs (nameB_size hn) l.length 0 k (by omega) (by omega)
          rw [if_pos rfl, spec_l07Group.f]
          rw [show ((0 : Int)) = ((0 : Nat) : Int) from rfl, e, tbind]
          by_cases hk0 : k' < 0
          · rw [if_pos (by exact hk0)]
            exact ⟨l, 0, 9, rfl, fun e => absurd e (by omega)⟩
          · rw [if_neg (by exact hk0)]
            rcases hp with hp | hp
            · exact absurd hp hk0
            · exact ⟨l', k', 0, rfl, fun _ => hp⟩
      · rw [if_neg hn]
        exact ⟨l, 0, 1, rfl, fun e => absurd e (by omega)⟩
    · rw [if_neg ht]
      exact ⟨l, 0, 1, rfl, fun e => absurd e (by omega)⟩
theorem set_ok {nm x : ByteArray} {b n : Int} {h : List ByteArray} {l : List GT} {u v : Nat} (hs : smallT u v nm h l) {back : Bool} {k : Nat} (hk : 30000 ≤ k) :
    ∃ r1 r2 r3 r4 r5 r6 r7, spec_l07Set.f k nm b h l x n back = some (r1, r2, r3, r4, r5, r6, r7) ∧ (r7 = 0 → smallT u v r1 r3 r4) := by
  obtain ⟨l', k', c, e, hp⟩ := begin_ok (b := b) (x := x) hs (ok := true) hk
  have hill : ∀ c : Int, c ≠ 0 → ∃ r1 r2 r3 r4 r5 r6 r7, spec_l07Ill.f c = some (r1, r2, r3, r4, r5, r6, r7) ∧ (r7 = 0 → smallT u v r1 r3 r4) := fun c hc => ⟨_, _, _, _, _, _, _, rfl, fun e => absurd e hc⟩
  unfold spec_l07Set.f
  rw [e, tbind]
  unfold spec_l07Set.g
  dsimp only
  by_cases hc : c = 0
  · obtain ⟨p1, p2, p3, p4⟩ := hp hc
    rw [if_pos hc, if_pos p1, if_pos p2]
    unfold spec_l07End.f
    rw [tbind, tIs_eq, tbind]
    generalize (if back = true then b else (rd_T55 l' k').f1) = low
    split
    · refine ⟨_, _, _, _, _, _, _, rfl, fun _ => ⟨hs.1, hs.2.1, hs.2.2.1, by simpa using p3, fun g hg => ?_⟩⟩
      rcases List.mem_or_eq_of_mem_set hg with hg | rfl
      · exact p4 g hg
      · show (rd_T55 l' k').f0.size ≤ 20
        obtain ⟨j, rfl⟩ : ∃ j : Nat, k' = (j : Int) := ⟨k'.toNat, by omega⟩
        exact p4 _ (rdGT (by omega))
    · exact hill 8 (by omega)
  · rw [if_neg hc]
    exact hill c hc
theorem ack_ok {nm x : ByteArray} {b n : Int} {h : List ByteArray} {l : List GT} {u v : Nat} (hs : smallT u v nm h l) {k : Nat} (hk : 30000 ≤ k) :
    ∃ r1 r2 r3 r4 r5 r6 r7, spec_TopicAck.f k nm b h l x n = some (r1, r2, r3, r4, r5, r6, r7) ∧ (r7 = 0 → smallT u v r1 r3 r4) := by
  obtain ⟨r1, r2, r3, r4, r5, r6, r7, e, hp⟩ := set_ok (b := b) (x := x) (n := n) hs (back := false) hk
  unfold spec_TopicAck.f
  rw [e]
  exact ⟨_, _, _, _, _, _, _, rfl, hp⟩
theorem seek_ok {nm x : ByteArray} {b n : Int} {h : List ByteArray} {l : List GT} {u v : Nat} (hs : smallT u v nm h l) {k : Nat} (hk : 30000 ≤ k) :
    ∃ r1 r2 r3 r4 r5 r6 r7, spec_TopicSeek.f k nm b h l x n = some (r1, r2, r3, r4, r5, r6, r7) ∧ (r7 = 0 → smallT u v r1 r3 r4) := by
  obtain ⟨r1, r2, r3, r4, r5, r6, r7, e, hp⟩ := set_ok (b := b) (x := x) (n := n) hs (back := true) hk
  unfold spec_TopicSeek.f
  rw [e]
  exact ⟨_, _, _, _, _, _, _, rfl, hp⟩

end Go.Proofs.Ytnjnjffjblgldaa.Q
