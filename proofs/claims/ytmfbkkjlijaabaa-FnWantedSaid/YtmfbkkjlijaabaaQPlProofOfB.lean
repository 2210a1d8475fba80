/- The proof of a view, a number and an operation, by the reference; comparisons of proofs with themselves. -/
import Derived.Test.YtmfbkkjlijaabaaQx13
import Derived.Test.YtmfbkkjlijaabaaQx16
import Derived.Test.YtmfbkkjlijaabaaQPlPrepared
import Derived.Test.YtmfbkkjlijaabaaQPlVotesA
import Derived.Test.YtmfbkkjlijaabaaQPlLoops
namespace Go.Proofs.Ytmfbkkjlijaabaa.Q.PB
open Go.RowKit Go.Proofs.YtmfbkkjlijaabaaW.PrintWords Go.Proofs.YtmfbkkjlijaabaaW.PrintLast Go.Proofs.Ytmfbkkjlijaabaa.Q Go.Proofs.Ytmfbkkjlijaabaa.HB
set_option linter.unusedVariables false
set_option linter.unusedSimpArgs false

/-- The voters of right votes. -/
def votersB (l : List VT) (a b c : Int) (op : ByteArray) : List Int := if op.size > 20000 then [] else if votesB l = true then vs a b c l op else []
theorem spec_voters_eq {l : List VT} {a b c : Int} {op : ByteArray} {k : Nat} (hk : 4 * l.length + 10 ≤ k) : spec_Voters.f k l a b c op = some (votersB l a b c op) := by
  unfold spec_Voters.f votersB
  by_cases h : l.length > 400
  · rw [if_pos (by omega)]
    have : votesB l ≠ true := fun hv => by have := (votesB_step hv).1; omega
    rw [if_neg this]
    split <;> rfl
  · rw [if_neg (by omega)]
    by_cases ho : (op.size : Int) > 20000
    · rw [if_pos ho, if_pos (by omega)]
    · rw [if_neg ho, if_neg (by omega), spec_votes_eq (by omega)]
      simp only [Option.bind_some]
      by_cases h2 : votesB l = true
      · rw [if_pos h2, if_pos h2, spec_voters_f (by omega) hk]
        rfl
      · rw [if_neg h2, if_neg h2]
def pOf (l : List VT) (a b : Int) (op : ByteArray) : Int × Int × ByteArray × List Int :=
  if (votersB l 2 a b op).length < 3 then (0, 0, ⟨#[]⟩, []) else (a, b, op, votersB l 2 a b op)
theorem votersB_len (l : List VT) (a b c : Int) (op : ByteArray) : (votersB l a b c op).length ≤ 16 := by
  unfold votersB
  split
  · simp
  · split
    · rename_i h
      exact vs_len h a b c op
    · simp
theorem spec_proofOf_eq {l : List VT} {a b : Int} {op : ByteArray} {k : Nat} (hk : 4 * l.length + 10 ≤ k) : spec_ProofOf.f k l a b op = some (pOf l a b op) := by
  unfold spec_ProofOf.f pOf
  rw [spec_voters_eq hk]
  simp only [Option.bind_some]
  by_cases h : (votersB l 2 a b op).length < 3
  · rw [if_pos (by omega), if_pos h]
  · rw [if_neg (by omega), if_neg h]
theorem lwNums_eq {l : List Int} (hl : l.length ≤ 2000000) {k : Nat} (hk : l.length < k) : laws_lwNums.f k l l = some true := by
  unfold laws_lwNums.f
  rw [if_pos rfl]
  refine upLoop (n := l.length) (m := 0) (F := fun k i => laws_lwNums.l0 k l l i) (fun k => ?_) (fun k i hm hi => ?_) l.length k 0 (by omega) (by omega)
  · simp only [laws_lwNums.l0]
    rw [if_neg (by omega)]
  · simp only [laws_lwNums.l0]
    rw [if_pos (by omega), if_pos (by omega), if_pos (by omega), if_pos trivial, w_nat hi (by omega)]
theorem lwProof_eq {v s : Int} {op : ByteArray} {l : List Int} (hl : l.length ≤ 16) {k : Nat} (hk : 16 < k) : laws_lwProof.f k v s op l v s op l = some true := by
  unfold laws_lwProof.f
  rw [if_pos rfl, if_pos rfl, if_pos rfl, lwNums_eq (by omega) (by omega)]
  rfl
end Go.Proofs.Ytmfbkkjlijaabaa.Q.PB
