/- What Voters answers, in the reference and in the program. -/
import Derived.Test.YtjnlopoajcpclaaXx6
import Derived.Test.YtjnlopoajcpclaaXx7
import Derived.Test.YtjnlopoajcpclaaXPlVoterF
namespace Go.Proofs.Ytjnlopoajcpclaa.X
open Go.RowKit Go.Proofs.YtjnlopoajcpclaaW.PrintWords Go.Proofs.YtjnlopoajcpclaaW.PrintLast Go.Proofs.Ytjnlopoajcpclaa.HB
set_option linter.unusedVariables false
set_option linter.unusedSimpArgs false

def votersB (l : List VT) (a b c : Int) (op : ByteArray) : List Int := if op.size > 20000 then [] else if votesB l = true then cntSort (castF a b c op l) else []
theorem votersB_len (l : List VT) (a b c : Int) (op : ByteArray) : (votersB l a b c op).length ≤ 16 := by
  unfold votersB
  split
  · simp
  · split
    · rename_i h
      have h1 := cntSort_len (castF a b c op l)
      have h2 := length_le4 (castF_ok h a b c op).1 (castF_ok h a b c op).2
      omega
    · simp
theorem spec_voters_eq {l : List VT} {a b c : Int} {op : ByteArray} {k : Nat} (hk : 4 * l.length + 10 ≤ k) : spec_Voters.f k l a b c op = some (votersB l a b c op) := by
  unfold spec_Voters.f votersB
  by_cases h : l.length > 400
  · rw [if_pos (by omega)]
    have : votesB l ≠ true := fun hv => by have := (votesB_step hv).1; omega
    rw [if_neg this]
    simp
  · rw [if_neg (by omega)]
    by_cases ho : op.size > 20000
    · rw [if_pos (by omega), if_pos ho]
    · rw [if_neg (by omega), if_neg ho, spec_votes_eq (by omega)]
      simp only [Option.bind_some]
      rw [spec_l11_eq (by omega) hk]
      split <;> simp
theorem impl_voters_eq {l : List VT} {a b c : Int} {op : ByteArray} {k : Nat} (hk : l.length + 100 ≤ k) : impl_Voters.f k l a b c op = some (votersB l a b c op) := by
  unfold impl_Voters.f votersB
  by_cases ho : op.size > 20000
  · rw [if_pos (by omega), if_pos ho]
  · rw [if_neg (by omega), if_neg ho, impl_votes_eq (by omega)]
    simp only [Option.bind_some]
    by_cases h : votesB l = true
    · have hl := (votesB_step h).1
      have hc := castF_ok h a b c op
      rw [if_pos h, if_pos h]
      unfold impl_voters.f
      obtain ⟨m, rfl⟩ : ∃ m, k = m + l.length + 1 := ⟨k - (l.length + 1), by omega⟩
      have := impl_voters_l0 l a b c op (by omega) l.length m 0 [] (by omega) (by simp; omega)
      simp only [List.drop_zero, List.nil_append] at this
      rw [sort_eq hc.1 (length_le4 hc.1 hc.2) (by omega)] at this
      rw [show ((0 : Int)) = ((0 : Nat) : Int) from rfl, this]
      rfl
    · rw [if_neg h, if_neg h]

end Go.Proofs.Ytjnlopoajcpclaa.X
