/- Printed by a program of this session (wip/mp.py over the kit's print.py): functions of the translation as plain Lean functions, and that the machine's calls do what these say. -/
import Derived.Test.YtokgloeondfkiaaQx0
import Derived.Test.YtokgloeondfkiaaQx9
namespace Go.Proofs.Ytokgloeondfkiaa.Q
open Go.RowKit Go.Proofs.Ytokgloeondfkiaa.HB Go.Proofs.YtokgloeondfkiaaW.PrintWords Go.Proofs.YtokgloeondfkiaaW.PrintLast Go.Proofs.YtokgloeondfkiaaW.PrintMore
attribute [local go_sem] max2_int min2_int max_two min_two max_three min_three max_four min_four   -- for this text's walks alone
set_option linter.unusedVariables false
set_option linter.unusedSimpArgs false

/-! ### laws_markBroker: function 10 (by hand) -/
/-- A row told apart stays where a plain row of another kind is written. -/
theorem S_keptB {α β : Type} {d : Kd α} {d' : Kd β} {e e' base b : Nat} {ok ok' : Nat → Prop} {W W2 : World} {v u : Value} {xs : List α} {ys : List β} (h : Kd.S d e W base ok v xs) (h' : d'.R e' W b ok' u ys) (ht : ∀ q, q ∈ e :: d.E → q ≠ e') (hk : Kept W W2 (fun k => u.ownBlock = some k)) : Kd.S d e W2 base ok v xs :=
  Kd.S_mono (Kd.S_step (Kd.S_bound h) (fun k hk' hlt => hk.2 k hlt (fun e_ => by
    obtain ⟨_, _, _, q, hq, cells, hc⟩ := hk'
    obtain ⟨c2, h2⟩ := Kd.R_typed h' k e_
    rw [hc] at h2
    injection h2 with h2
    injection h2 with _ h2
    exact ht q hq h2))) (fun _ h => h.1)
theorem rep_only {e : Nat} {w : World} {base : Nat} {ok ok' : Nat → Prop} {v : Value} {xs : List S67} (h : k67.R e w base ok v xs) (hv : ∀ k, v.ownBlock = some k → ok' k) : k67.R e w base ok' v xs := ⟨hv, h.2⟩
theorem brk_apart {W : World} {b1 b2 : Nat} {ok1 ok2 : Nat → Prop} {k : Nat} (h1 : ok1 k ∧ b1 ≤ k ∧ k < W.heap.size ∧ ∃ q, q ∈ 67 :: k67.E ∧ ∃ cells, W.heap[k]? = some (.cells cells q (0, 0))) (h2 : ok2 k ∧ b2 ≤ k ∧ k < W.heap.size ∧ ∃ q, q ∈ 30 :: k30.E ∧ ∃ cells, W.heap[k]? = some (.cells cells q (0, 0))) : False := by
  obtain ⟨_, _, _, q, hq, c, hc⟩ := h1
  obtain ⟨_, _, _, q2, hq2, c2, hc2⟩ := h2
  rw [hc] at hc2
  injection hc2 with hc2
  injection hc2 with _ hc2
  exact (show ∀ q, q ∈ 67 :: k67.E → ∀ q2, q2 ∈ 30 :: k30.E → q ≠ q2 by decide) q hq q2 hq2 hc2
def laws_markBroker.f (k : Nat) (l0 : List S30) (l1 : List S67) (a1 : Int) : Option (Int × List S30 × List S67) :=
  (laws_markTopicS.f k l0 a1).bind fun p => (laws_markReplyS.f k l1 p.1).bind fun q => some (q.1, p.2, q.2)
theorem laws_markBroker.mono : ∀ a0 a1 a2 k, LeO (laws_markBroker.f k a0 a1 a2) (laws_markBroker.f (k + 1) a0 a1 a2) := by
  intro a0 a1 a2 k
  unfold laws_markBroker.f
  exact LeO.bind (laws_markTopicS.mono _ _ _) (fun _ => LeO.bind (laws_markReplyS.mono _ _ _) (fun _ => LeO.refl _))
set_option maxHeartbeats 4000000 in
set_option maxRecDepth 100000 in
theorem laws_markBroker.calls (k : Nat) (P0_ P1_ : Nat → Prop) (u0_ u1_ : Value) (l0 : List S30) (l1 : List S67) (a1 : Int) (r1 : Int) (r2 : List S30) (r3 : List S67) (w0 w : World) (hB : Below w0.heap.size w0 w) (ho0 : Kd.S k30 30 w w0.heap.size P0_ u0_ l0) (ho1 : Kd.R k67 67 w w0.heap.size P1_ u1_ l1) (h : laws_markBroker.f k l0 l1 a1 = some (r1, r2, r3)) :
    Calls Try.prog 10 #[.agg #[u0_, u1_], .int .i64 a1] w fun e w' => e = .returned (.int .i64 r1) ∧ Kd.S k30 30 w' w0.heap.size (fun k_ => (P0_ k_ ∨ P1_ k_) ∨ w.heap.size ≤ k_) u0_ r2 ∧ Kd.R k67 67 w' w0.heap.size (fun k_ => (P0_ k_ ∨ P1_ k_) ∨ w.heap.size ≤ k_) u1_ r3 ∧ Below w0.heap.size w0 w' ∧ Kept w w' (fun k_ => P0_ k_ ∨ P1_ k_) := by
  have hu1 := Try.underlying35
  obtain ⟨A0, c0, rfl⟩ := Kd.S_slice ho0
  obtain ⟨A1, c1, rfl⟩ := Kd.R_slice ho1
  unfold laws_markBroker.f at h
  obtain ⟨⟨m, p⟩, h1, h⟩ := Option.bind_eq_some_iff.mp h
  obtain ⟨⟨n, q⟩, h2, h⟩ := Option.bind_eq_some_iff.mp h
  obtain ⟨rfl, rfl, rfl⟩ : n = r1 ∧ p = r2 ∧ q = r3 := by simpa using h
  have H1 := Aside0.mk h1
  have H2 := Aside0.mk h2
  have HS := Aside0.mk (Kd.S_bound ho0)
  have HR := Aside0.mk (Kd.R_bound ho1)
  have HB := Aside0.mk hB
  have HK := Aside0.mk (Kept.refl w (fun k_ => P0_ k_ ∨ P1_ k_))
  clear h h1 h2 ho0 ho1 hB
  go_enter Try.func10, Try.ntmps10
  go_wp2_with (first
    | ((with_reducible refine gate_dst (N := 2) rfl ?_); refine box_event (by rfl) (N := 2) (by rfl) (cs := #[.slice A0 l0.length c0, .slice A1 l1.length c1]) (t := 35) (by first | (go_simp; done) | (go_simp; rfl)) ?_; intro g2 hg w2 hbox hb; have GE2 := Aside0.mk ((by rw [hg]; exact Nat.le_refl _) : w.heap.size ≤ g2); have n1_ := Aside0.mk (below_step HB.out hb); have n2_ := Aside0.mk (Kd.S_below HS.out hb); have n3_ := Aside0.mk (Kd.R_below HR.out hb); have n4_ := Aside0.mk (Kept.below HK.out hb); have B2 := Aside0.mk hbox; have hz2_0 := (blk_cell hbox 0).trans rfl; have hz2_1 := (blk_cell hbox 1).trans rfl; clear HB HS HR HK hbox hg hb; have HB := n1_; have HS := n2_; have HR := n3_; have HK := n4_; clear n1_ n2_ n3_ n4_)
    | (go_at_call 27; (with_reducible refine (laws_markTopicS.calls k (fun k_ => P0_ k_ ∧ w0.heap.size ≤ k_ ∧ k_ < w.heap.size ∧ ∃ q, q ∈ 30 :: k30.E ∧ ∃ cells, w.heap[k_]? = some (.cells cells q (0, 0))) (.slice A0 l0.length c0) l0 a1 m p w0 _ ?s1 ?s2 H1.out).mono ?_); (case s1 => exact HB.out); (case s2 => exact HS.out); rintro e w3 ⟨rfl, ho, hb, hk⟩; have n1_ := Aside0.mk hb; have n2_ := Aside0.mk ((hk.2 g2 (blk_lt B2.out) (fun h_ => absurd h_.2.2.1 (Nat.not_lt.2 GE2.out))).trans B2.out); have n3_ := Aside0.mk (Kd.R_step HR.out (fun k_ ho_ hlt_ => hk.2 k_ hlt_ (fun h_ => brk_apart ho_ h_))); have n4_ := Aside0.mk (Kept.then_ HK.out hk (fun k_ h_ => .inl (.inl h_.1))); have n5_ := Aside0.mk (Kd.S_mono (ok' := fun k_ => P0_ k_ ∨ w.heap.size ≤ k_) ho (fun k_ h_ => h_.elim (fun h_ => .inl h_.1) (fun h_ => .inr (Nat.le_trans GE2.out (Nat.le_trans (Nat.le_of_lt (blk_lt B2.out)) h_))))); clear HB B2 HS HR HK hz2_0 hz2_1 ho hb hk; have HB := n1_; have B2 := n2_; have HR := n3_; have HK := n4_; have HS := n5_; clear n1_ n2_ n3_ n4_ n5_; have hz2_0 := (blk_cell B2.out 0).trans rfl; have hz2_1 := (blk_cell B2.out 1).trans rfl)
    | (go_at_call 28; (with_reducible refine (laws_markReplyS.calls k (fun k_ => (Value.slice A1 l1.length c1).ownBlock = some k_) (.slice A1 l1.length c1) l1 m n q w0 _ ?s1 ?s2 H2.out).mono ?_); (case s1 => exact HB.out); (case s2 => exact rep_only HR.out (fun _ h_ => h_)); rintro e w4 ⟨rfl, ho, hb, hk⟩; have n1_ := Aside0.mk hb; have n4_ := Aside0.mk (Kept.then_ HK.out hk (fun k_ h_ => .inl (.inr (HR.out.1 k_ h_).1))); have n5_ := Aside0.mk (S_keptB HS.out HR.out (by decide) hk); have n3_ := Aside0.mk (rep_only ho (ok' := fun k_ => (P0_ k_ ∨ P1_ k_) ∨ w.heap.size ≤ k_) (fun k_ h_ => .inl (.inr (HR.out.1 k_ h_).1))); clear HB B2 HS HR HK hz2_0 hz2_1 ho hb hk; have HB := n1_; have HR := n3_; have HK := n4_; have HS := n5_; clear n1_ n3_ n4_ n5_))
  go_ret
  exact ⟨rfl, Kd.S_mono HS.out (fun k_ h_ => h_.elim (fun h_ => .inl (.inl h_)) .inr), HR.out, HB.out, HK.out⟩


end Go.Proofs.Ytokgloeondfkiaa.Q
