/- FnProof: of drawn right votes there is one proof of a view and a number, it is right, and what is decided has enough voters. No condition. -/
import Derived.Test.YtbaacdlocoajeaaQSaidFnProof
import Derived.Test.YtbaacdlocoajeaaQPlProofLaw
import Derived.Test.YtbaacdlocoajeaaQPlDrawA
import Derived.Test.YtbaacdlocoajeaaQx10
namespace Go.Proofs.Ytbaacdlocoajeaa.Q.PureFnProof
open Go.RowKit Go.Proofs.YtbaacdlocoajeaaW.PrintWords Go.Proofs.YtbaacdlocoajeaaW.PrintLast Go.Proofs.Ytbaacdlocoajeaa.Q Go.Proofs.Ytbaacdlocoajeaa.HB
set_option linter.unusedVariables false
set_option linter.unusedSimpArgs false

theorem up {α : Type} {f : Nat → Option α} (h : ∀ k, LeO (f k) (f (k + 1))) {k : Nat} {r : α} (hk : f k = some r) : ∀ {m : Nat}, k ≤ m → f m = some r := by
  intro m hm
  obtain ⟨j, rfl⟩ : ∃ j, m = k + j := ⟨m - k, by omega⟩
  induction j with
  | zero => exact hk
  | succ j ih => exact h _ r (ih (by omega))
/-- The voters of right votes. -/
def votersB (l : List VT) (a b c : Int) (op : ByteArray) : List Int := if op.size > 20000 then [] else if votesB l = true then vs a b c l op else []
theorem spec_voters_eq {l : List VT} {a b c : Int} {op : ByteArray} {k : Nat} (hk : 4 * l.length + 10 ≤ k) : spec_Voters.f k l a b c op = some (votersB l a b c op) := by
  unfold spec_Voters.f votersB
  by_cases h : l.length > 400
  · rw [if_pos (by omega)]
    have : votesB l ≠ true := fun hv => by have := (votesB_step hv).1; omega
    rw [if_neg this]
    split <;> rfl
  · rw [if_neg (by omega)]
    by_cases ho : (op.size : Int) > 20000
    · rw [if_pos ho, if_pos (by omega)]
    · rw [if_neg ho, if_neg (by omega), spec_votes_eq (by omega)]
      simp only [Option.bind_some]
      by_cases h2 : votesB l = true
      · rw [if_pos h2, if_pos h2, spec_voters_f (by omega) hk]
        rfl
      · rw [if_neg h2, if_neg h2]
def pOf (l : List VT) (a b : Int) (op : ByteArray) : Int × Int × ByteArray × List Int :=
  if (votersB l 2 a b op).length < 3 then (0, 0, ⟨#[]⟩, []) else (a, b, op, votersB l 2 a b op)
theorem votersB_len (l : List VT) (a b c : Int) (op : ByteArray) : (votersB l a b c op).length ≤ 16 := by
  unfold votersB
  split
  · simp
  · split
    · rename_i h
      exact vs_len h a b c op
    · simp
theorem spec_proofOf_eq {l : List VT} {a b : Int} {op : ByteArray} {k : Nat} (hk : 4 * l.length + 10 ≤ k) : spec_ProofOf.f k l a b op = some (pOf l a b op) := by
  unfold spec_ProofOf.f pOf
  rw [spec_voters_eq hk]
  simp only [Option.bind_some]
  by_cases h : (votersB l 2 a b op).length < 3
  · rw [if_pos (by omega), if_pos h]
  · rw [if_neg (by omega), if_neg h]
theorem impl_proofOf_eq {l : List VT} {a b : Int} {op : ByteArray} {k : Nat} (hk : l.length + 100 ≤ k) : impl_ProofOf.f k l a b op = some (pOf l a b op) := by
  unfold impl_ProofOf.f pOf votersB
  by_cases ho : (op.size : Int) > 20000
  · rw [if_pos ho, if_pos (show op.size > 20000 by omega), if_pos (by simp)]
  · rw [if_neg ho, if_neg (show ¬ op.size > 20000 by omega), impl_votes_eq (by omega)]
    simp only [Option.bind_some]
    by_cases h : votesB l = true
    · rw [if_pos h, if_pos h]
      unfold impl_proofOf.f
      rw [impl_voters_f h hk]
      simp only [Option.bind_some]
      unfold vs
      by_cases h3 : (cntSort (castF 2 a b op l)).length < 3
      · rw [if_pos (by omega), if_pos h3]
        rfl
      · rw [if_neg (by omega), if_neg h3]
        rfl
    · rw [if_neg h, if_neg h, if_pos (by simp)]
theorem lwNums_eq {l : List Int} (hl : l.length ≤ 2000000) {k : Nat} (hk : l.length < k) : laws_lwNums.f k l l = some true := by
  unfold laws_lwNums.f
  rw [if_pos rfl]
  refine upLoop (n := l.length) (m := 0) (F := fun k i => laws_lwNums.l0 k l l i) (fun k => ?_) (fun k i hm hi => ?_) l.length k 0 (by omega) (by omega)
  · simp only [laws_lwNums.l0]
    rw [if_neg (by omega)]
  · simp only [laws_lwNums.l0]
    rw [if_pos (by omega), if_pos (by omega), if_pos (by omega), if_pos trivial, w_nat hi (by omega)]
theorem lwProof_eq {v s : Int} {op : ByteArray} {l : List Int} (hl : l.length ≤ 16) {k : Nat} (hk : 16 < k) : laws_lwProof.f k v s op l v s op l = some true := by
  unfold laws_lwProof.f
  rw [if_pos rfl, if_pos rfl, if_pos rfl, lwNums_eq (by omega) (by omega)]
  rfl
theorem spec_prepared_eq {l : List VT} {s : Int} {k : Nat} (hk : prepR l < k) : spec_Prepared.f k l s = some (prepB l s) := by
  have hge := prepR_ge l
  unfold spec_Prepared.f prepB
  by_cases h : l.length > 400
  · rw [if_pos (by omega)]
    have : votesB l ≠ true := fun hv => by have := (votesB_step hv).1; omega
    rw [if_neg this]
  · rw [if_neg (by omega), spec_votes_eq (by omega)]
    simp only [Option.bind_some]
    rw [spec_best_eq (by omega) hk]
    simp only [Option.bind_some]
    split <;> rfl
theorem impl_prepared_eq {l : List VT} {s : Int} {k : Nat} (hk : prepR l < k) : impl_Prepared.f k l s = some (prepB l s) := by
  have hge := prepR_ge l
  unfold impl_Prepared.f prepB
  rw [impl_votes_eq (by omega)]
  simp only [Option.bind_some]
  by_cases h : votesB l = true
  · rw [if_pos h, if_pos h, impl_prep_eq h hk]
    rfl
  · rw [if_neg h, if_neg h]
theorem spec_decided_eq {l : List VT} {s : Int} {k : Nat} (hk : decR l < k) : spec_Decided.f k l s = some (decB l s).2 := by
  unfold spec_Decided.f decB
  have hge := decR_ge l
  by_cases h : l.length > 400
  · rw [if_pos (by omega)]
    have : votesB l ≠ true := fun hv => by have := (votesB_step hv).1; omega
    rw [if_neg this]
  · rw [if_neg (by omega), spec_votes_eq (by omega)]
    simp only [Option.bind_some]
    rw [spec_dec_eq (by omega) hk]
    split <;> rfl
theorem impl_decided_eq {l : List VT} {s : Int} {k : Nat} (hk : decR l < k) : impl_Decided.f k l s = some (decB l s).2 := by
  unfold impl_Decided.f decB
  have hge := decR_ge l
  rw [impl_votes_eq (by omega)]
  simp only [Option.bind_some]
  by_cases h : votesB l = true
  · rw [if_pos h, if_pos h, impl_dec_eq h hk]
    rfl
  · rw [if_neg h, if_neg h]
theorem spec_op_eq {l : List VT} {s : Int} {k : Nat} (hk : decR l < k) : spec_OpOf.f k l s = some (decB l s).1 := by
  unfold spec_OpOf.f decB
  have hge := decR_ge l
  by_cases h : l.length > 400
  · rw [if_pos (by omega)]
    have : votesB l ≠ true := fun hv => by have := (votesB_step hv).1; omega
    rw [if_neg this]
  · rw [if_neg (by omega), spec_votes_eq (by omega)]
    simp only [Option.bind_some]
    rw [spec_dec_eq (by omega) hk]
    split <;> rfl
theorem impl_op_eq {l : List VT} {s : Int} {k : Nat} (hk : decR l < k) : impl_OpOf.f k l s = some (decB l s).1 := by
  unfold impl_OpOf.f decB
  have hge := decR_ge l
  rw [impl_votes_eq (by omega)]
  simp only [Option.bind_some]
  by_cases h : votesB l = true
  · rw [if_pos h, if_pos h, impl_dec_eq h hk]
    rfl
  · rw [if_neg h, if_neg h]
theorem drawProofOf_ok {x0 : List Int} (hl : x0.length ≤ 2000000) {k : Nat} (hk : 2000 < k) : ∃ (l : List VT) (a b : Int) (op : ByteArray), spec_DrawProofOf.f k x0 = some (l, a, b, op) ∧ l.length ≤ 402 := by
  obtain ⟨m, z, e⟩ := source_ok hl (k := k) (by omega)
  obtain ⟨l, t1, t2, e2, h1, h2⟩ := votes_ok (s0 := x0) (s1 := 0) (s2 := m) (s3 := z) (by omega) hl hk
  obtain ⟨v, b1, b2, e3, _⟩ := some_ok (s2 := t2) (s3 := z) h2 hl
  unfold spec_DrawProofOf.f
  rw [e]
  simp only [Option.bind_some]
  rw [e2]
  simp only [Option.bind_some]
  rw [e3]
  exact ⟨l, _, _, _, rfl, h1⟩
theorem drawPrepared_ok {x0 : List Int} (hl : x0.length ≤ 2000000) {k : Nat} (hk : 2000 < k) : ∃ (l : List VT) (a : Int), spec_DrawPrepared.f k x0 = some (l, a) ∧ l.length ≤ 402 := by
  obtain ⟨m, z, e⟩ := source_ok hl (k := k) (by omega)
  obtain ⟨l, t1, t2, e2, h1, h2⟩ := votes_ok (s0 := x0) (s1 := 0) (s2 := m) (s3 := z) (by omega) hl hk
  obtain ⟨b, u1, u2, e3, h3⟩ := one_ok (s2 := t2) (s3 := z) (a := 12) h2 hl (by omega)
  unfold spec_DrawPrepared.f
  rw [e]
  simp only [Option.bind_some]
  rw [e2]
  simp only [Option.bind_some]
  rw [e3]
  simp only [Option.bind_some]
  cases b with
  | true =>
    obtain ⟨r, a1, a2, e4, h4, h5, h6⟩ := n_ok (s2 := u2) (s3 := z) (a := 14) h3 hl (by omega)
    rw [if_pos rfl]
    unfold spec_l01Src_edge.f
    simp only [Option.bind_some]
    rw [e4]
    simp only [Option.bind_some]
    rw [if_pos h5, if_pos (by simp; omega)]
    exact ⟨l, _, rfl, h1⟩
  | false =>
    obtain ⟨r, a1, a2, e4, h4, h5, h6⟩ := n_ok (s2 := u2) (s3 := z) (a := 4) h3 hl (by omega)
    rw [if_neg (by decide), e4]
    exact ⟨l, _, rfl, h1⟩
/-- The last loop: some view has enough voters. -/
theorem law_l1 {m : List VT} {n w : Int} (hw : 3 ≤ (votersB m 3 w n (decB m n).1).length) {R : Nat} (hR : decR m + 4 * m.length + 100 ≤ R) : ∀ (d k : Nat) (v : Int) (b : Bool), v + d = 8 → 0 ≤ v → R + d < k → (b = true ∨ v ≤ w ∧ w ≤ 7) →
    laws_FnProof.l1 k m n b v = some true := by
  intro d
  induction d with
  | zero =>
    intro k v b hv h0 hk hb
    obtain ⟨k, rfl⟩ := k_succ hk
    simp only [laws_FnProof.l1]
    rw [if_neg (by omega)]
    rcases hb with hb | hb
    · rw [hb]
    · omega
  | succ d ih =>
    intro k v b hv h0 hk hb
    obtain ⟨k, rfl⟩ := k_succ hk
    simp only [laws_FnProof.l1]
    rw [if_pos (by omega), w_id (i := v + 1) (by omega) (by omega)]
    cases b with
    | true =>
      rw [if_pos rfl]
      exact ih k (v + 1) true (by omega) (by omega) (by omega) (.inl rfl)
    | false =>
      rw [if_neg (by decide), impl_op_eq (by omega)]
      simp only [Option.bind_some]
      rw [spec_voters_eq (by omega)]
      simp only [Option.bind_some]
      refine ih k (v + 1) _ (by omega) (by omega) (by omega) ?_
      by_cases e : v = w
      · subst e
        exact .inl (decide_eq_true (by omega))
      · rcases hb with hb | hb
        · exact absurd hb (by decide)
        · exact .inr (by omega)
theorem emp : ((⟨#[]⟩ : ByteArray).toList == ([] : List UInt8)) = true := by rw [toList_dl]; rfl
theorem law_j3 {m : List VT} {n : Int} (k : Nat) (hk : decR m + 4 * m.length + 300 < k) : laws_FnProof.j3 k m n = some true := by
  obtain ⟨k, rfl⟩ := k_succ hk
  simp only [laws_FnProof.j3]
  rw [impl_decided_eq (by omega)]
  simp only [Option.bind_some]
  by_cases hv : votesB m = true
  · have eB : decB m n = decFrom m n 8 0 := by unfold decB; rw [if_pos hv]
    cases e : (decB m n).2 with
    | true =>
      rw [if_pos rfl]
      rw [eB] at e
      obtain ⟨w, h1, h2, h3⟩ := dec_some m n 8 0 e
      rw [← eB] at h3
      obtain ⟨x, _, _, _, hx⟩ := a_vote hv h3
      simp only [voteB, Bool.and_eq_true, decide_eq_true_eq] at hx
      refine law_l1 (w := w) ?_ (R := decR m + 4 * m.length + 100) (Nat.le_refl _) 8 k 0 false (by omega) (by omega) (by omega) (.inr (by omega))
      unfold votersB
      rw [if_neg (by omega), if_pos hv]
      exact h3
    | false =>
      rw [if_neg (by decide), impl_op_eq (by omega)]
      rw [eB] at e
      rw [eB, dec_none m n 8 0 e]
      simp only [Option.bind_some]
      rw [emp]
  · have eB : decB m n = ((⟨#[]⟩ : ByteArray), false) := by unfold decB; rw [if_neg hv]
    rw [eB, if_neg (by simp), impl_op_eq (by omega), eB]
    simp only [Option.bind_some]
    rw [emp]
/-- The loop over other operations. -/
theorem law_l0 {l m : List VT} {v s n : Int} {op : ByteArray} (hv : votesB l = true) (h3 : 3 ≤ (vs 2 v s l op).length) (ho : op.size ≤ 20000) {R : Nat} (hR : decR m + 4 * m.length + 300 + prepR l + 4 * l.length + 200 ≤ R) (os : List ByteArray) (hos : os.length ≤ 100) :
    ∀ (d k i : Nat), i + d = os.length → R + d < k → laws_FnProof.l0 k l v s op m n os (i : Int) v s op (vs 2 v s l op) = some true := by
  intro d
  induction d with
  | zero =>
    intro k i hi hk
    obtain ⟨k, rfl⟩ := k_succ hk
    have hlen := vs_len hv 2 v s op
    have hV : votersB l 2 v s op = vs 2 v s l op := by unfold votersB; rw [if_neg (by omega), if_pos hv]
    obtain ⟨x, _, _, _, hx⟩ := a_vote hv h3
    simp only [voteB, Bool.and_eq_true, decide_eq_true_eq] at hx
    have hb := best_ge hv (s := s) (v := v) (op := op) hx.2.1.1 h3 8 (by omega)
    simp only [laws_FnProof.l0]
    rw [if_neg (by omega), spec_proof_eq (by omega) (by omega), proof_right hv h3]
    simp only [Option.bind_some, if_true]
    rw [spec_voters_eq (by omega), hV]
    simp only [Option.bind_some]
    rw [lwNums_eq (by omega) (by omega)]
    simp only [Option.bind_some, if_true]
    rw [impl_prepared_eq (by omega)]
    simp only [Option.bind_some]
    have hP : prepB l s = (bestD l s 8).1 := by unfold prepB; rw [if_pos hv]
    rw [hP, if_neg (by omega)]
    exact law_j3 k (by omega)
  | succ d ih =>
    intro k i hi hk
    obtain ⟨k, rfl⟩ := k_succ hk
    have hlt : i < os.length := by omega
    have ih' := ih k (i + 1) (by omega) (by omega)
    simp only [laws_FnProof.l0]
    rw [if_pos (by omega), if_pos (by omega), w_nat hlt (by omega)]
    by_cases e : (rdOf ByteArray.empty os (i : Int)).toList = op.toList
    · rw [if_pos e]
      exact ih'
    · rw [if_neg e, impl_proofOf_eq (by omega)]
      simp only [Option.bind_some]
      have hne : op ≠ rdOf ByteArray.empty os (i : Int) := fun h => e (by rw [← h])
      have h1 := one_op hv (a := 2) (b := v) (c := s) hne h3
      have h4 : (votersB l 2 v s (rdOf ByteArray.empty os (i : Int))).length < 3 := by
        unfold votersB
        split
        · simp
        · exact h1
      have h2 : (pOf l v s (rdOf ByteArray.empty os (i : Int))).2.2.2 = [] := by
        unfold pOf
        rw [if_pos h4]
      rw [h2, if_neg (by simp)]
      exact ih'

theorem proved : SaidFnProof.Pure := by
  intro x0 x1 _ _
  by_cases hx : x0.length ≤ 2000000 ∧ x1.length ≤ 2000000
  · obtain ⟨l, v, s, op, e1, hl⟩ := drawProofOf_ok hx.1 (k := 3000) (by omega)
    obtain ⟨m, n, e2, hm⟩ := drawPrepared_ok hx.2 (k := 3000) (by omega)
    obtain ⟨K, hK⟩ : ∃ K : Nat, K = decR m + 4 * m.length + 300 + prepR l + 4 * l.length + 200 + prepR m + 6000 := ⟨_, rfl⟩
    refine ⟨K + 1 + 1, ?_⟩
    have fin : ∀ b : Bool, laws_FnProof.j0 (K + 1 + 1) x0 x1 b = some true := by
      intro b
      rw [laws_FnProof.j0]
      cases b with
      | true => rw [if_pos rfl]
      | false =>
        rw [if_neg (by decide), up (f := fun k => spec_DrawProofOf.f k x0) (fun k => spec_DrawProofOf.mono x0 k) e1 (show 3000 ≤ K + 1 by omega)]
        simp only [Option.bind_some]
        rw [impl_proofOf_eq (by omega)]
        simp only [Option.bind_some]
        rw [up (f := fun k => spec_DrawPrepared.f k x1) (fun k => spec_DrawPrepared.mono x1 k) e2 (show 3000 ≤ K + 1 by omega)]
        simp only [Option.bind_some]
        rw [spec_proofOf_eq (by omega)]
        simp only [Option.bind_some]
        have hp : (pOf l v s op).2.2.2.length ≤ 16 := by
          unfold pOf
          split
          · simp
          · exact votersB_len ..
        rw [lwProof_eq hp (by omega)]
        simp only [Option.bind_some, if_true]
        rw [impl_prepared_eq (by omega)]
        simp only [Option.bind_some]
        rw [spec_prepared_eq (by omega)]
        simp only [Option.bind_some]
        rw [lwProof_eq (prepB_len m n) (by omega)]
        simp only [Option.bind_some, if_true]
        rw [impl_decided_eq (by omega), spec_decided_eq (by omega)]
        simp only [Option.bind_some]
        rw [if_neg (by simp), impl_op_eq (by omega)]
        simp only [Option.bind_some]
        rw [spec_op_eq (by omega)]
        simp only [Option.bind_some]
        rw [show ((decB m n).1.toList != (decB m n).1.toList) = false by simp]
        simp only [laws_FnProof.j1]
        rw [if_neg (by decide)]
        by_cases h3 : (votersB l 2 v s op).length < 3
        · have eP : pOf l v s op = (0, 0, ⟨#[]⟩, []) := by unfold pOf; rw [if_pos h3]
          rw [eP, if_neg (by simp)]
          exact law_j3 K (by omega)
        · have eP : pOf l v s op = (v, s, op, votersB l 2 v s op) := by unfold pOf; rw [if_neg h3]
          rw [eP, if_pos (by simp only; omega)]
          have ho : op.size ≤ 20000 := by
            by_cases h : op.size > 20000
            · exfalso; apply h3; unfold votersB; rw [if_pos h]; simp
            · omega
          have hv : votesB l = true := by
            by_cases h : votesB l = true
            · exact h
            · exfalso; apply h3; unfold votersB; rw [if_neg (by omega), if_neg h]; simp
          have hV : votersB l 2 v s op = vs 2 v s l op := by unfold votersB; rw [if_neg (by omega), if_pos hv]
          rw [hV] at h3 ⊢
          exact law_l0 hv (by omega) ho (R := decR m + 4 * m.length + 300 + prepR l + 4 * l.length + 200) (Nat.le_refl _) _ (by simp) 5 K 0 (by simp) (by omega)
    unfold laws_FnProof.f
    split
    · exact fin _
    · exact fin _
  · refine ⟨2, ?_⟩
    unfold laws_FnProof.f
    by_cases h0 : (x0.length : Int) > 1048576
    · rw [if_pos h0]
      rw [laws_FnProof.j0, if_pos rfl]
    · rw [if_neg h0, decide_eq_true (show (x1.length : Int) > 1048576 by omega), laws_FnProof.j0, if_pos rfl]

end Go.Proofs.Ytbaacdlocoajeaa.Q.PureFnProof
