/- Copies, sizes and comparisons of votes, and what VotesRight and areVotes answer: one and the same function. -/
import Derived.Test.YtmaliehmbodioaaQx1
import Derived.Test.YtmaliehmbodioaaQx3
import Derived.Test.YtmaliehmbodioaaQx4
import Derived.Test.YtmaliehmbodioaaQx6
import Derived.Test.YtmaliehmbodioaaQPlVotesA
namespace Go.Proofs.Ytmaliehmbodioaa.Q
open Go.RowKit Go.Proofs.YtmaliehmbodioaaW.PrintWords Go.Proofs.YtmaliehmbodioaaW.PrintLast Go.Proofs.Ytmaliehmbodioaa.HB
set_option linter.unusedVariables false
set_option linter.unusedSimpArgs false

def voteOf (x : S48) : S52 := ⟨x.f0, x.f1, x.f2, x.f3, x.f4⟩
theorem toVoteS_eq {l : List S48} (hl : l.length ≤ 5864062014805) {k : Nat} (hk : l.length < k) : laws_toVoteS.f k l = some (l.map voteOf) := by
  unfold laws_toVoteS.f
  rw [if_pos (by omega), if_pos (by omega)]
  refine copyLoop (l := l) (c := voteOf) z48 (m := 0) (F := fun k o i => laws_toVoteS.l0 k l o i) (fun k o => ?_) (fun k o i _ hi ho => ?_) l.length k 0 _ (by omega) (by omega) (by simp) (by simp)
  · simp only [laws_toVoteS.l0]
    rw [if_neg (by omega)]
  · simp only [laws_toVoteS.l0, laws_toVote.f, Option.bind_some]
    rw [if_pos (by omega), if_pos (by omega), if_pos (by omega), w_nat hi (by omega)]
    rfl
theorem eqVoteS_eq {l : List S52} (hl : l.length ≤ 9223372036854775807) {k : Nat} (hk : l.length < k) : laws_eqVoteS.f k l l = some true := by
  unfold laws_eqVoteS.f
  rw [if_pos rfl]
  refine upLoop (n := l.length) (m := 0) (F := fun k i => laws_eqVoteS.l0 k l l i) (fun k => ?_) (fun k i _ hi => ?_) l.length k 0 (by omega) (by omega)
  · simp only [laws_eqVoteS.l0]
    rw [if_neg (by omega)]
  · simp only [laws_eqVoteS.l0, laws_eqVote.f]
    rw [if_pos (by omega), if_pos (by omega), if_pos (by omega), w_nat hi hl]
    simp
theorem szVote_eq (a b c : Int) (op : ByteArray) (e n : Int) (ho : op.size ≤ 9223372036854775807) (h0 : 0 ≤ n) (hn : n ≤ 1048576) :
    ∃ r, laws_szVote.f a b c op e n = some r ∧ r ≤ n ∧ -1 ≤ r ∧ (0 ≤ r → (op.size : Int) + r ≤ n) := by
  unfold laws_szVote.f
  rw [w_id (by omega) (by omega)]
  split
  · exact ⟨-1, rfl, by omega, by omega, fun h => by omega⟩
  · exact ⟨_, rfl, by omega, by omega, fun h => by omega⟩
theorem szVoteS_l0 (l : List S48) (hl : l.length ≤ 9223372036854775807) (hw : ∀ x ∈ l, x.f3.size ≤ 9223372036854775807) (d : Nat) : ∀ (k i : Nat) (n : Int), i + d = l.length → d < k → 0 ≤ n → n ≤ 1048576 →
    ∃ r, laws_szVoteS.l0 k l n (i : Int) = some r ∧ r ≤ n ∧ -1 ≤ r := by
  induction d with
  | zero =>
    intro k i n hi hk h0 hn
    obtain ⟨k, rfl⟩ := k_succ hk
    simp only [laws_szVoteS.l0]
    rw [if_neg (by omega)]
    exact ⟨n, rfl, by omega, by omega⟩
  | succ d ih =>
    intro k i n hi hk h0 hn
    obtain ⟨k, rfl⟩ := k_succ hk
    simp only [laws_szVoteS.l0]
    obtain ⟨r, hr, h1, h2, _⟩ := szVote_eq (rd_T48 l i).f0 (rd_T48 l i).f1 (rd_T48 l i).f2 (rd_T48 l i).f3 (rd_T48 l i).f4 n (hw _ (mem_getD _ (by simpa using (by omega : i < l.length)))) h0 hn
    rw [if_pos (by omega), if_pos (by omega), hr, w_nat (n := l.length) (by omega) hl]
    simp only [Option.bind_some]
    split
    · exact ⟨-1, rfl, by omega, by omega⟩
    · obtain ⟨r', hr', h3, h4⟩ := ih k (i + 1) r (by omega) (by omega) (by omega) (by omega)
      exact ⟨r', hr', by omega, h4⟩
/-- What the size's count says: where it is not below zero, there are no more than 2^20 votes. -/
theorem szVoteS_eq {l : List S48} {n : Int} (hl : l.length ≤ 9223372036854775807) (hw : ∀ x ∈ l, x.f3.size ≤ 9223372036854775807) (h0 : 0 ≤ n) (hn : n ≤ 1048576) {k : Nat} (hk : l.length < k) :
    ∃ r, laws_szVoteS.f k l n = some r ∧ r ≤ 1048576 ∧ -1 ≤ r ∧ (0 ≤ r → (l.length : Int) + r ≤ n) := by
  unfold laws_szVoteS.f
  rw [w_id (by omega) (by omega)]
  split
  · exact ⟨-1, rfl, by omega, by omega, fun h => by omega⟩
  · obtain ⟨r, hr, h1, h2⟩ := szVoteS_l0 l hl hw l.length k 0 (n - l.length) (by omega) hk (by omega) (by omega)
    exact ⟨r, hr, by omega, h2, fun h => by omega⟩

end Go.Proofs.Ytmaliehmbodioaa.Q
