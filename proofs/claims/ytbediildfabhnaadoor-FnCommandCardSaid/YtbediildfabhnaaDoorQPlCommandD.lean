/- Draws of commands, of their kinds and of their texts always come to an end, with short texts. -/
import Derived.Test.YtbediildfabhnaaDoorQx3
import Derived.Test.YtbediildfabhnaaDoorQx4
import Derived.Test.YtbediildfabhnaaDoorQx5
import Derived.Test.YtbediildfabhnaaDoorQx8
import Derived.Test.YtbediildfabhnaaDoorQPlSrc
import Derived.Test.YtbediildfabhnaaDoorQPlCommandS
namespace Go.Proofs.YtbediildfabhnaaDoor.Q
open Go.RowKit Go.Proofs.YtbediildfabhnaaDoorW.PrintWords Go.Proofs.YtbediildfabhnaaDoorW.PrintLast Go.Proofs.YtbediildfabhnaaDoor.HB
set_option linter.unusedVariables false
set_option linter.unusedSimpArgs false

theorem n_ok1 {s0 : List Int} {s1 s2 s3 a : Int} (h0 : 0 ≤ s1) (hl : s0.length ≤ 2000000) (ha : 1 ≤ a ∧ a ≤ 1000) : ∃ r t1 t2, spec_l01Src_n.f s0 s1 s2 s3 a = some (r, t1, t2, s3) ∧ 0 ≤ t1 ∧ 0 ≤ r ∧ r < a := by
  by_cases h : a = 1
  · subst h
    unfold spec_l01Src_n.f
    rw [if_pos (by omega)]
    exact ⟨0, s1, s2, rfl, h0, by omega, by omega⟩
  · exact n_ok h0 hl (by omega)
theorem pick_mem {s0 : List Int} {s1 s2 s3 : Int} {l : List ByteArray} (h0 : 0 ≤ s1) (hl : s0.length ≤ 2000000) (ha : 2 ≤ l.length ∧ l.length ≤ 1000) : ∃ b t1 t2, spec_l01Src_pick.f s0 s1 s2 s3 l = some (b, t1, t2, s3) ∧ 0 ≤ t1 ∧ b ∈ l := by
  obtain ⟨r, t1, t2, e, h1, h2, h3⟩ := n_ok (s2 := s2) (s3 := s3) (a := (l.length : Int)) h0 hl (by omega)
  unfold spec_l01Src_pick.f
  rw [e]
  simp only [Option.bind_some]
  rw [if_pos h2, if_pos h3]
  refine ⟨_, t1, t2, rfl, h1, ?_⟩
  have : r.toNat < l.length := by omega
  simp [rdOf, List.getD, this]
/-- What is known of a drawn command. -/
def CD (a b c : Int) (t p q : ByteArray) (n : Int) : Prop := in64 a ∧ in64 b ∧ in64 c ∧ in64 n ∧ t.size ≤ 50 ∧ p.size ≤ 50 ∧ q.size ≤ 50
theorem rd_mem {l : List Int} {r : Int} (h0 : 0 ≤ r) (h1 : r < (l.length : Int)) : rd l r ∈ l := by
  have : r.toNat < l.length := by omega
  simp [rd, List.getD, this]
theorem cmd_j1 {s0 : List Int} {s1 s2 s3 : Int} (h0 : 0 ≤ s1) (hl : s0.length ≤ 2000000) {a b c n : Int} {t p q : ByteArray} (H : CD a b c t p q n) (k : Nat) :
    ∃ (a' b' c' : Int) (t' p' q' : ByteArray) (n' t1 t2 : Int), spec_l01Src_l06Command.j1 (k + 1) s0 s1 s2 s3 a b c t p q n = some (a', b', c', t', p', q', n', t1, t2, s3) ∧ 0 ≤ t1 ∧ CD a' b' c' t' p' q' n' := by
  obtain ⟨r6, j1, j2, e6, g6⟩ := one_ok (s2 := s2) (s3 := s3) (a := 20) h0 hl (by omega)
  simp only [spec_l01Src_l06Command.j1]
  rw [e6]
  simp only [Option.bind_some]
  by_cases h : r6 = true
  · rw [if_pos h]
    obtain ⟨r7, k1, k2, e7, g7, p7, q7⟩ := n_ok (s2 := j2) (s3 := s3) (a := 5) g6 hl (by omega)
    obtain ⟨r3, l1, l2, e3, g3, p3, q3⟩ := n_ok (s2 := k2) (s3 := s3) (a := 3) g7 hl (by omega)
    obtain ⟨r2, m1, m2, e2, g2, p2, q2⟩ := n_ok (s2 := k2) (s3 := s3) (a := 2) g7 hl (by omega)
    obtain ⟨r4, n1, n2, e4, g4, p4, q4⟩ := n_ok (s2 := k2) (s3 := s3) (a := 4) g7 hl (by omega)
    obtain ⟨ha, hb, hc, hn, ht, hp, hq⟩ := H
    rw [e7]
    simp only [Option.bind_some]
    by_cases z0 : r7 = 0
    · rw [if_pos z0, e3]
      simp only [Option.bind_some]
      rw [if_pos p3, if_pos (by simp; omega)]
      refine ⟨_, _, _, _, _, _, _, l1, l2, rfl, g3, ?_, hb, hc, hn, ht, hp, hq⟩
      have := rd_mem (l := [0, 9, 10]) p3 (by simp; omega)
      simp only [List.mem_cons, List.not_mem_nil, or_false] at this
      unfold in64
      omega
    · rw [if_neg z0]
      by_cases z1 : r7 = 1
      · rw [if_pos z1, e3]
        simp only [Option.bind_some]
        rw [if_pos p3, if_pos (by simp; omega)]
        refine ⟨_, _, _, _, _, _, _, l1, l2, rfl, g3, ha, ?_, hc, hn, ht, hp, hq⟩
        have := rd_mem (l := [0, 1000000000, 1000000001]) p3 (by simp; omega)
        simp only [List.mem_cons, List.not_mem_nil, or_false] at this
        unfold in64
        omega
      · rw [if_neg z1]
        by_cases z2 : r7 = 2
        · rw [if_pos z2, e2]
          simp only [Option.bind_some]
          rw [if_pos p2, if_pos (by simp; omega)]
          refine ⟨_, _, _, _, _, _, _, m1, m2, rfl, g2, ha, hb, ?_, hn, ht, hp, hq⟩
          have := rd_mem (l := [0, 8]) p2 (by simp; omega)
          simp only [List.mem_cons, List.not_mem_nil, or_false] at this
          unfold in64
          omega
        · rw [if_neg z2]
          by_cases z3 : r7 = 3
          · rw [if_pos z3, e2]
            simp only [Option.bind_some]
            rw [w_id (i := 40 + r2) (by omega) (by omega), if_pos (by omega), if_pos (by omega)]
            refine ⟨_, _, _, _, _, _, _, m1, m2, rfl, g2, ha, hb, hc, hn, ht, hp, ?_⟩
            rw [strOfNums_len, List.length_replicate]
            omega
          · rw [if_neg z3, e4]
            simp only [Option.bind_some]
            rw [if_pos p4, if_pos (by simp; omega)]
            refine ⟨_, _, _, _, _, _, _, n1, n2, rfl, g4, ha, hb, hc, ?_, ht, hp, hq⟩
            have := rd_mem (l := [(-1), 20, 21, 1000000001]) p4 (by simp; omega)
            simp only [List.mem_cons, List.not_mem_nil, or_false] at this
            unfold in64
            omega
  · rw [if_neg h]
    exact ⟨a, b, c, t, p, q, n, j1, j2, rfl, g6, H⟩
theorem sz0 : (⟨#[]⟩ : ByteArray).size = 0 := rfl
theorem cmd_j0 {s0 : List Int} {s1 s2 s3 : Int} (h0 : 0 ≤ s1) (hl : s0.length ≤ 2000000) {a b c n x : Int} {t p q : ByteArray} (H : CD a b c t p q n) (y : Bool) (k : Nat) :
    ∃ (a' b' c' : Int) (t' p' q' : ByteArray) (n' t1 t2 : Int), spec_l01Src_l06Command.j0 (k + 2) x y s0 s1 s2 s3 a b c t p q n = some (a', b', c', t', p', q', n', t1, t2, s3) ∧ 0 ≤ t1 ∧ CD a' b' c' t' p' q' n' := by
  obtain ⟨ha, hb, hc, hn, ht, hp, hq⟩ := H
  simp only [spec_l01Src_l06Command.j0]
  by_cases h : y = true
  · rw [if_pos h]
    obtain ⟨w, d1, d2, e4, g4, hw⟩ := pick_mem (s2 := s2) (s3 := s3) (l := [(⟨#[103]⟩ : ByteArray), (⟨#[104]⟩ : ByteArray)]) h0 hl (by simp)
    obtain ⟨r, i1, i2, e5, g5, p5, q5⟩ := n_ok (s2 := d2) (s3 := s3) (a := 6) g4 hl (by omega)
    rw [e4]
    simp only [Option.bind_some]
    rw [e5]
    simp only [Option.bind_some]
    refine cmd_j1 g5 hl ⟨ha, hb, hc, by unfold in64; omega, ht, ?_, hq⟩ k
    simp only [List.mem_cons, List.not_mem_nil, or_false] at hw
    rcases hw with rfl | rfl <;> decide
  · rw [if_neg h]
    by_cases h7 : x = 7
    · rw [if_pos h7]
      obtain ⟨r, i1, i2, e5, g5, p5, q5⟩ := n_ok (s2 := s2) (s3 := s3) (a := 4) h0 hl (by omega)
      rw [e5]
      simp only [Option.bind_some]
      exact cmd_j1 g5 hl ⟨ha, hb, hc, by unfold in64; omega, ht, hp, hq⟩ k
    · rw [if_neg h7]
      exact cmd_j1 h0 hl ⟨ha, hb, hc, hn, ht, hp, hq⟩ k
theorem cmd_ok {s0 : List Int} {s1 s2 s3 : Int} (h0 : 0 ≤ s1) (hl : s0.length ≤ 2000000) {k : Nat} (hk : 2 ≤ k) :
    ∃ (a b c : Int) (t p q : ByteArray) (n t1 t2 : Int), spec_l01Src_l06Command.f k s0 s1 s2 s3 = some (a, b, c, t, p, q, n, t1, t2, s3) ∧ 0 ≤ t1 ∧ CD a b c t p q n := by
  obtain ⟨k, rfl⟩ : ∃ m, k = m + 2 := ⟨k - 2, by omega⟩
  obtain ⟨r1, a1, a2, e1, g1, p1, q1⟩ := n_ok (s2 := s2) (s3 := s3) (a := 3) h0 hl (by omega)
  obtain ⟨r2, b1, b2, e2, g2, p2, q2⟩ := n_ok (s2 := a2) (s3 := s3) (a := 9) g1 hl (by omega)
  obtain ⟨r3, c1, c2, e3, g3, p3, q3⟩ := n_ok (s2 := b2) (s3 := s3) (a := 7) g2 hl (by omega)
  obtain ⟨t, d1, d2, e4, g4, ht⟩ := pick_mem (s2 := c2) (s3 := s3) (l := [(⟨#[97]⟩ : ByteArray), (⟨#[98]⟩ : ByteArray), (⟨#[99]⟩ : ByteArray)]) g3 hl (by simp)
  have hts : t.size ≤ 50 := by
    simp only [List.mem_cons, List.not_mem_nil, or_false] at ht
    rcases ht with rfl | rfl | rfl <;> decide
  unfold spec_l01Src_l06Command.f
  rw [e1]
  simp only [Option.bind_some]
  rw [e2]
  simp only [Option.bind_some]
  rw [e3]
  simp only [Option.bind_some]
  rw [e4]
  simp only [Option.bind_some]
  rw [w_id (i := 1 + r1) (by omega) (by omega), w_id (i := 1 + r2) (by omega) (by omega), w_id (i := 1 + r3) (by omega) (by omega)]
  have H0 : CD (1 + r1) (1 + r2) (1 + r3) t (⟨#[]⟩ : ByteArray) (⟨#[]⟩ : ByteArray) 0 := ⟨by unfold in64; omega, by unfold in64; omega, by unfold in64; omega, by unfold in64; omega, hts, by rw [sz0]; omega, by rw [sz0]; omega⟩
  by_cases h3 : 1 + r3 = 3
  · rw [if_pos h3]
    obtain ⟨u, i1, i2, e5, g5, hu⟩ := pick_mem (s2 := d2) (s3 := s3) (l := [(⟨#[120]⟩ : ByteArray), (⟨#[121, 121]⟩ : ByteArray), (⟨#[122, 122, 122]⟩ : ByteArray)]) g4 hl (by simp)
    rw [e5]
    simp only [Option.bind_some]
    refine cmd_j1 g5 hl ⟨H0.1, H0.2.1, H0.2.2.1, H0.2.2.2.1, hts, by rw [sz0]; omega, ?_⟩ (k + 1)
    simp only [List.mem_cons, List.not_mem_nil, or_false] at hu
    rcases hu with rfl | rfl | rfl <;> decide
  · rw [if_neg h3]
    by_cases h4 : 1 + r3 = 4
    · rw [if_pos h4]
      exact cmd_j0 g4 hl H0 _ k
    · rw [if_neg h4]
      by_cases h5 : 1 + r3 = 5
      · rw [if_pos h5]
        exact cmd_j0 g4 hl H0 _ k
      · rw [if_neg h5]
        exact cmd_j0 g4 hl H0 _ k
theorem ext_size {t : ByteArray} {a b : Nat} : (t.extract a b).size ≤ t.size := by rw [ByteArray.size_extract]; omega
theorem spoil_j0 {s0 : List Int} {s1 s2 s3 : Int} (h0 : 0 ≤ s1) (hl : s0.length ≤ 2000000) {t c : ByteArray} (ht : t.size ≤ 900) (hc : c.size = 1) {r : Int} (hr : 0 ≤ r ∧ r ≤ t.size) {y : Bool} (hy : y = false → r < t.size) (k : Nat) :
    ∃ u t1 t2, spec_l01Src_spoil.j0 (k + 1) t r c y s0 s1 s2 s3 = some (u, t1, t2, s3) ∧ u.size ≤ 2000 := by
  have x1 := ext_size (t := t) (a := 0) (b := r.toNat)
  have x2 := ext_size (t := t) (a := r.toNat) (b := t.size)
  have x3 := ext_size (t := t) (a := (r + 1).toNat) (b := t.size)
  simp only [spec_l01Src_spoil.j0]
  by_cases h : y = true
  · rw [if_pos h, if_pos hr.1, if_pos hr.2, if_pos (by omega), if_pos (by simp only [ByteArray.size_append]; omega)]
    exact ⟨_, s1, s2, rfl, by simp only [ByteArray.size_append]; omega⟩
  · have hlt := hy (by simpa using h)
    obtain ⟨r6, j1, j2, e6, g6⟩ := one_ok (s2 := s2) (s3 := s3) (a := 2) h0 hl (by omega)
    rw [if_neg h, e6]
    simp only [Option.bind_some]
    rw [w_id (i := r + 1) (by omega) (by omega)]
    split
    · rw [if_pos hr.1, if_pos hr.2, if_pos (by omega), if_pos (by omega), if_pos (by omega)]
      exact ⟨_, j1, j2, rfl, by simp only [ByteArray.size_append]; omega⟩
    · rw [if_pos hr.1, if_pos hr.2, if_pos (by omega), if_pos (by omega), if_pos (by omega), if_pos (by simp only [ByteArray.size_append]; omega)]
      exact ⟨_, j1, j2, rfl, by simp only [ByteArray.size_append]; omega⟩
theorem spoil_ok {s0 : List Int} {s1 s2 s3 : Int} (h0 : 0 ≤ s1) (hl : s0.length ≤ 2000000) {t : ByteArray} (ht : t.size ≤ 900) {k : Nat} (hk : 1 ≤ k) :
    ∃ u t1 t2, spec_l01Src_spoil.f k s0 s1 s2 s3 t = some (u, t1, t2, s3) ∧ u.size ≤ 2000 := by
  obtain ⟨k, rfl⟩ : ∃ m, k = m + 1 := ⟨k - 1, by omega⟩
  obtain ⟨r1, a1, a2, e1, g1, p1, q1⟩ := n_ok1 (s2 := s2) (s3 := s3) (a := (t.size : Int) + 1) h0 hl (by omega)
  obtain ⟨r2, b1, b2, e2, g2, p2, q2⟩ := n_ok (s2 := a2) (s3 := s3) (a := 17) g1 hl (by omega)
  obtain ⟨r3, d1, d2, e3, g3⟩ := one_ok (s2 := b2) (s3 := s3) (a := 3) g2 hl (by omega)
  unfold spec_l01Src_spoil.f
  rw [w_id (i := (t.size : Int) + 1) (by omega) (by omega), e1]
  simp only [Option.bind_some]
  rw [e2]
  simp only [Option.bind_some]
  rw [if_pos p2, if_pos q2]
  have hc : ∀ x : Int, (strOfNums [x]).size = 1 := fun x => by rw [strOfNums_len]; rfl
  by_cases h : r1 = (t.size : Int)
  · rw [if_pos h]
    exact spoil_j0 g2 hl ht (hc _) ⟨p1, by omega⟩ (fun h => by cases h) k
  · rw [if_neg h, e3]
    simp only [Option.bind_some]
    exact spoil_j0 g3 hl ht (hc _) ⟨p1, by omega⟩ (fun _ => by omega) k
theorem cmdT_size {a b c n : Int} {t p q : ByteArray} (ha : in64 a) (hb : in64 b) (hc : in64 c) (hn : in64 n) : (commandTB a b c t p q n).size ≤ 500 := by
  unfold commandTB
  split
  · rename_i h
    obtain ⟨st, sp, sq⟩ := commandB_sizes h
    have za := numT_size ha.1 ha.2
    have zb := numT_size hb.1 hb.2
    have zc := numT_size hc.1 hc.2
    have zn := numT_size hn.1 hn.2
    have zt := textT_size (s := t) (by omega)
    have zp := textT_size (s := p) (by omega)
    have zq := textT_size (s := q) (by omega)
    unfold commandT
    simp only [ByteArray.size_append]
    omega
  · decide
theorem drawRead_ok {x0 : List Int} (hl : x0.length ≤ 2000000) {k : Nat} (hk : 2000 ≤ k) : ∃ u, spec_DrawCommandRead.f k x0 = some u ∧ u.size ≤ 2000 := by
  obtain ⟨m, z, e⟩ := source_ok hl (k := k) (by omega)
  obtain ⟨a, b, c, t, p, q, n, t1, t2, e2, g, ha, hb, hc, hn, ht, hp, hq⟩ := cmd_ok (s1 := 0) (s2 := m) (s3 := z) (by omega) hl (k := k) (by omega)
  obtain ⟨r1, a1, a2, e3, g3, p3, q3⟩ := n_ok (s2 := t2) (s3 := z) (a := 4) g hl (by omega)
  have hz := cmdT_size (t := t) (p := p) (q := q) ha hb hc hn
  unfold spec_DrawCommandRead.f
  rw [e]
  simp only [Option.bind_some]
  rw [e2]
  simp only [Option.bind_some]
  rw [spec_commandBytes_eq ha hb hc hn (by omega) (by omega) (by omega)]
  simp only [Option.bind_some]
  rw [e3]
  simp only [Option.bind_some]
  by_cases z0 : r1 = 0
  · rw [if_pos z0]
    obtain ⟨u, v1, v2, e4, hu⟩ := spoil_ok (s2 := a2) (s3 := z) g3 hl (t := commandTB a b c t p q n) (by omega) (k := k) (by omega)
    rw [e4]
    exact ⟨u, rfl, hu⟩
  · rw [if_neg z0]
    by_cases z1 : r1 = 1
    · rw [if_pos z1]
      obtain ⟨r5, i1, i2, e5, g5, p5, q5⟩ := n_ok1 (s2 := a2) (s3 := z) (a := ((commandTB a b c t p q n).size : Int) + 1) g3 hl (by omega)
      rw [w_id (i := ((commandTB a b c t p q n).size : Int) + 1) (by omega) (by omega), e5]
      simp only [Option.bind_some]
      rw [if_pos p5, if_pos (by omega)]
      have := ext_size (t := commandTB a b c t p q n) (a := 0) (b := r5.toNat)
      exact ⟨_, rfl, by omega⟩
    · rw [if_neg z1]
      exact ⟨_, rfl, by omega⟩
theorem drawName_ok {x0 : List Int} (hl : x0.length ≤ 2000000) {k : Nat} (hk : 2000 ≤ k) : ∃ u, spec_DrawCommandName.f k x0 = some u ∧ in64 u := by
  obtain ⟨m, z, e⟩ := source_ok hl (k := k) (by omega)
  obtain ⟨r3, d1, d2, e3, g3⟩ := one_ok (s1 := 0) (s2 := m) (s3 := z) (a := 4) (by omega) hl (by omega)
  obtain ⟨r4, n1, n2, e4, g4, p4, q4⟩ := n_ok (s2 := d2) (s3 := z) (a := 14) g3 hl (by omega)
  obtain ⟨r5, m1, m2, e5, g5, p5, q5⟩ := n_ok (s2 := d2) (s3 := z) (a := 9) g3 hl (by omega)
  unfold spec_DrawCommandName.f spec_l01Src_edge.f
  rw [e]
  simp only [Option.bind_some]
  rw [e3]
  simp only [Option.bind_some]
  split
  · rw [e4]
    simp only [Option.bind_some]
    rw [if_pos p4, if_pos (by simp; omega)]
    refine ⟨_, rfl, ?_⟩
    have := rd_mem (l := [0, 1, (-1), 2, 1000, 1001, 2147483648, 2147483647, (-2147483648), 4611686018427387904, 9223372036854775807, (-9223372036854775808), 1000000, 1000001]) p4 (by simp; omega)
    simp only [List.mem_cons, List.not_mem_nil, or_false] at this
    unfold in64
    omega
  · rw [e5]
    exact ⟨_, rfl, by unfold in64; omega⟩
theorem drawBytes_ok {x0 : List Int} (hl : x0.length ≤ 2000000) {k : Nat} (hk : 2000 ≤ k) : ∃ (a b c : Int) (t p q : ByteArray) (n : Int), spec_DrawCommandBytes.f k x0 = some (a, b, c, t, p, q, n) ∧ CD a b c t p q n := by
  obtain ⟨m, z, e⟩ := source_ok hl (k := k) (by omega)
  obtain ⟨a, b, c, t, p, q, n, t1, t2, e2, g, H⟩ := cmd_ok (s1 := 0) (s2 := m) (s3 := z) (by omega) hl (k := k) (by omega)
  unfold spec_DrawCommandBytes.f
  rw [e]
  simp only [Option.bind_some]
  rw [e2]
  exact ⟨a, b, c, t, p, q, n, rfl, H⟩

end Go.Proofs.YtbediildfabhnaaDoor.Q
