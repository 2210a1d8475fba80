/- Rows of texts: copies, comparison with itself, sizes. (The same lemmas as in PlTopic, for seats without topics.) -/
import Derived.Test.YtgpgamapopnfcaaDoorQx2
import Derived.Test.YtgpgamapopnfcaaDoorQx4
import Derived.Test.YtgpgamapopnfcaaDoorQPlBase
import Derived.Test.YtgpgamapopnfcaaDoorQPlLoops
namespace Go.Proofs.YtgpgamapopnfcaaDoor.Q
open Go.RowKit Go.Proofs.YtgpgamapopnfcaaDoorW.PrintWords Go.Proofs.YtgpgamapopnfcaaDoorW.PrintLast Go.Proofs.YtgpgamapopnfcaaDoor.HB
set_option linter.unusedVariables false
set_option linter.unusedSimpArgs false

theorem toStringS_eq {l : List ByteArray} (hl : l.length ≤ 17592186044416) {k : Nat} (hk : l.length < k) : laws_toStringS.f k l = some l := by
  unfold laws_toStringS.f
  rw [if_pos (by omega), if_pos (by omega)]
  have := copyLoop (l := l) (c := fun x => x) ByteArray.empty (m := 0) (F := fun k o i => laws_toStringS.l0 k l o i) (fun k o => by
    simp only [laws_toStringS.l0]
    rw [if_neg (by omega)]) (fun k o i hm hi ho => by
    simp only [laws_toStringS.l0]
    rw [if_pos (by omega), if_pos (by omega), if_pos (by omega), w_nat hi (by omega)]
    rfl) l.length k 0 (List.replicate ((l.length : Int)).toNat (⟨#[]⟩ : ByteArray)) (by omega) (by omega) (by simp) (by simp)
  simpa using this
theorem eqStringS_eq {l : List ByteArray} (hl : l.length ≤ 9223372036854775807) {k : Nat} (hk : l.length < k) : laws_eqStringS.f k l l = some true := by
  unfold laws_eqStringS.f
  rw [if_pos rfl]
  refine upLoop (n := l.length) (m := 0) (F := fun k i => laws_eqStringS.l0 k l l i) (fun k => ?_) (fun k i hm hi => ?_) l.length k 0 (by omega) (by omega)
  · simp only [laws_eqStringS.l0]
    rw [if_neg (by omega)]
  · simp only [laws_eqStringS.l0]
    rw [if_pos (by omega), if_pos (by omega), if_pos (by omega), if_pos trivial, w_nat hi hl]
theorem szStringS_l0 (l : List ByteArray) (hl : l.length ≤ 9223372036854775807) (hw : ∀ x ∈ l, x.size ≤ 9223372036854775807) (d : Nat) : ∀ (k i : Nat) (n : Int), i + d = l.length → d < k → 0 ≤ n → n ≤ 1048576 →
    ∃ r, laws_szStringS.l0 k l n (i : Int) = some r ∧ r ≤ n ∧ -1 ≤ r := by
  induction d with
  | zero =>
    intro k i n hi hk h0 hn
    obtain ⟨k, rfl⟩ := k_succ hk
    simp only [laws_szStringS.l0]
    rw [if_neg (by omega)]
    exact ⟨n, rfl, by omega, by omega⟩
  | succ d ih =>
    intro k i n hi hk h0 hn
    obtain ⟨k, rfl⟩ := k_succ hk
    have hlt : i < l.length := by omega
    simp only [laws_szStringS.l0]
    have hm : rdOf ByteArray.empty l (i : Int) ∈ l := by simp [rdOf, List.getD, hlt]
    have ho := hw _ hm
    rw [if_pos (by omega), if_pos (by omega), w_id (by omega) (by omega), w_nat hlt hl]
    split
    · exact ⟨-1, rfl, by omega, by omega⟩
    · obtain ⟨r', hr', h5, h6⟩ := ih k (i + 1) (n - (rdOf ByteArray.empty l (i : Int)).size) (by omega) (by omega) (by omega) (by omega)
      exact ⟨r', hr', by omega, h6⟩
end Go.Proofs.YtgpgamapopnfcaaDoor.Q
