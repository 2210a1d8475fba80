/- Copies, sizes and comparisons of topics. -/
import Derived.Test.YtokgloeondfkiaaQx1
import Derived.Test.YtokgloeondfkiaaQx4
import Derived.Test.YtokgloeondfkiaaQx8
import Derived.Test.YtokgloeondfkiaaQPlTopicR
namespace Go.Proofs.Ytokgloeondfkiaa.Q
open Go.RowKit Go.Proofs.YtokgloeondfkiaaW.PrintWords Go.Proofs.YtokgloeondfkiaaW.PrintLast Go.Proofs.Ytokgloeondfkiaa.HB
set_option linter.unusedVariables false
set_option linter.unusedSimpArgs false

abbrev GL := S92
def groupOf (x : GL) : GT := ⟨x.f0, x.f1⟩
def nmL (l : List GL) : Nat := sup (fun g => g.f0.size) l
theorem nmI_map (l : List GL) : nmI (l.map groupOf) = nmL l := by
  unfold nmI nmL
  rw [sup_map]
  rfl
theorem rdGL {l : List GL} {i : Nat} (h : i < l.length) : rd_T92 l (i : Int) ∈ l := mem_getD _ (by simpa using h)
theorem toStringS_eq {l : List ByteArray} (hl : l.length ≤ 17592186044416) {k : Nat} (hk : l.length < k) : laws_toStringS.f k l = some l := by
  unfold laws_toStringS.f
  rw [if_pos (by omega), if_pos (by omega)]
  have := copyLoop (l := l) (c := fun x => x) ByteArray.empty (m := 0) (F := fun k o i => laws_toStringS.l0 k l o i) (fun k o => by
    simp only [laws_toStringS.l0]
    rw [if_neg (by omega)]) (fun k o i hm hi ho => by
    simp only [laws_toStringS.l0]
    rw [if_pos (by omega), if_pos (by omega), if_pos (by omega), w_nat hi (by omega)]
    rfl) l.length k 0 (List.replicate ((l.length : Int)).toNat (⟨#[]⟩ : ByteArray)) (by omega) (by omega) (by simp) (by simp)
  simpa using this
theorem toGroupS_eq {l : List GL} (hl : l.length ≤ 11728124029610) {k : Nat} (hk : l.length < k) : laws_toGroupS.f k l = some (l.map groupOf) := by
  unfold laws_toGroupS.f
  rw [if_pos (by omega), if_pos (by omega)]
  refine copyLoop (l := l) (c := groupOf) z92 (m := 0) (F := fun k o i => laws_toGroupS.l0 k l o i) (fun k o => ?_) (fun k o i hm hi ho => ?_) l.length k 0 _ (by omega) (by omega) (by simp) (by simp)
  · simp only [laws_toGroupS.l0]
    rw [if_neg (by omega)]
  · simp only [laws_toGroupS.l0, laws_toGroup.f, Option.bind_some]
    rw [if_pos (by omega), if_pos (by omega), if_pos (by omega), w_nat hi (by omega)]
    rfl
theorem toTopic_eq {nm : ByteArray} {b : Int} {h : List ByteArray} {l : List GL} (hh : h.length ≤ 1048576) (hl : l.length ≤ 1048576) {k : Nat} (hk : h.length + l.length < k) : laws_toTopic.f k nm b h l = some (nm, b, h, l.map groupOf) := by
  unfold laws_toTopic.f
  rw [toStringS_eq (by omega) (by omega), toGroupS_eq (by omega) (by omega)]
  rfl
theorem eqStringS_eq {l : List ByteArray} (hl : l.length ≤ 9223372036854775807) {k : Nat} (hk : l.length < k) : laws_eqStringS.f k l l = some true := by
  unfold laws_eqStringS.f
  rw [if_pos rfl]
  refine upLoop (n := l.length) (m := 0) (F := fun k i => laws_eqStringS.l0 k l l i) (fun k => ?_) (fun k i hm hi => ?_) l.length k 0 (by omega) (by omega)
  · simp only [laws_eqStringS.l0]
    rw [if_neg (by omega)]
  · simp only [laws_eqStringS.l0]
    rw [if_pos (by omega), if_pos (by omega), if_pos (by omega), if_pos trivial, w_nat hi hl]
theorem eqGroupS_eq {l : List GT} (hl : l.length ≤ 9223372036854775807) {k : Nat} (hk : l.length < k) : laws_eqGroupS.f k l l = some true := by
  unfold laws_eqGroupS.f
  rw [if_pos rfl]
  refine upLoop (n := l.length) (m := 0) (F := fun k i => laws_eqGroupS.l0 k l l i) (fun k => ?_) (fun k i hm hi => ?_) l.length k 0 (by omega) (by omega)
  · simp only [laws_eqGroupS.l0]
    rw [if_neg (by omega)]
  · simp only [laws_eqGroupS.l0, laws_eqGroup.f]
    rw [if_pos (by omega), if_pos (by omega), if_pos (by omega), if_pos trivial, if_pos trivial, w_nat hi hl]
    simp
theorem eqTopic_eq {nm : ByteArray} {b : Int} {h : List ByteArray} {l : List GT} (hh : h.length ≤ 9223372036854775807) (hl : l.length ≤ 9223372036854775807) {k : Nat} (hk : h.length + l.length < k) : laws_eqTopic.f k nm b h l nm b h l = some true := by
  unfold laws_eqTopic.f
  rw [if_pos rfl, if_pos rfl, eqStringS_eq hh (by omega), eqGroupS_eq hl (by omega)]
  rfl
theorem szStringS_l0 (l : List ByteArray) (hl : l.length ≤ 9223372036854775807) (hw : ∀ x ∈ l, x.size ≤ 9223372036854775807) (d : Nat) : ∀ (k i : Nat) (n : Int), i + d = l.length → d < k → 0 ≤ n → n ≤ 1048576 →
    ∃ r, laws_szStringS.l0 k l n (i : Int) = some r ∧ r ≤ n ∧ -1 ≤ r := by
  induction d with
  | zero =>
    intro k i n hi hk h0 hn
    obtain ⟨k, rfl⟩ := k_succ hk
    simp only [laws_szStringS.l0]
    rw [if_neg (by omega)]
    exact ⟨n, rfl, by omega, by omega⟩
  | succ d ih =>
    intro k i n hi hk h0 hn
    obtain ⟨k, rfl⟩ := k_succ hk
    have hlt : i < l.length := by omega
    simp only [laws_szStringS.l0]
    have hm : rdOf ByteArray.empty l (i : Int) ∈ l := by simp [rdOf, List.getD, hlt]
    have ho := hw _ hm
    rw [if_pos (by omega), if_pos (by omega), w_id (by omega) (by omega), w_nat hlt hl]
    split
    · exact ⟨-1, rfl, by omega, by omega⟩
    · obtain ⟨r', hr', h5, h6⟩ := ih k (i + 1) (n - (rdOf ByteArray.empty l (i : Int)).size) (by omega) (by omega) (by omega) (by omega)
      exact ⟨r', hr', by omega, h6⟩
theorem szGroupS_l0 (l : List GL) (hl : l.length ≤ 9223372036854775807) (hw : ∀ x ∈ l, x.f0.size ≤ 9223372036854775807) (d : Nat) : ∀ (k i : Nat) (n : Int), i + d = l.length → d < k → 0 ≤ n → n ≤ 1048576 →
    ∃ r, laws_szGroupS.l0 k l n (i : Int) = some r ∧ r ≤ n ∧ -1 ≤ r ∧ (0 ≤ r → ∀ x ∈ l.drop i, x.f0.size ≤ 1048576) := by
  induction d with
  | zero =>
    intro k i n hi hk h0 hn
    obtain ⟨k, rfl⟩ := k_succ hk
    simp only [laws_szGroupS.l0]
    rw [if_neg (by omega)]
    exact ⟨n, rfl, by omega, by omega, fun _ x hx => by rw [List.drop_of_length_le (by omega)] at hx; simp at hx⟩
  | succ d ih =>
    intro k i n hi hk h0 hn
    obtain ⟨k, rfl⟩ := k_succ hk
    have hlt : i < l.length := by omega
    simp only [laws_szGroupS.l0, laws_szGroup.f]
    have ho := hw _ (rdGL hlt)
    rw [if_pos (by omega), if_pos (by omega), w_id (by omega) (by omega), w_nat hlt hl]
    by_cases hneg : n - ((rd_T92 l (i : Int)).f0.size : Int) < 0
    · rw [if_pos hneg]
      simp only [Option.bind_some]
      rw [if_pos (by omega)]
      exact ⟨-1, rfl, by omega, by omega, fun h => by omega⟩
    · rw [if_neg hneg]
      simp only [Option.bind_some]
      rw [if_neg hneg]
      obtain ⟨r', hr', h5, h6, h7⟩ := ih k (i + 1) (n - (rd_T92 l (i : Int)).f0.size) (by omega) (by omega) (by omega) (by omega)
      refine ⟨r', hr', by omega, h6, fun h x hx => ?_⟩
      rw [List.drop_eq_getElem_cons hlt] at hx
      rcases List.mem_cons.1 hx with rfl | hx
      · have e : rd_T92 l (i : Int) = l[i] := by simp [rd_T92, List.getD, hlt]
        rw [e] at hneg
        omega
      · exact h7 h x hx
theorem szTopic_eq {nm : ByteArray} {b : Int} {h : List ByteArray} {l : List GL} (hn : nm.size ≤ 9223372036854775807) (hh : h.length ≤ 9223372036854775807) (hl : l.length ≤ 9223372036854775807)
    (hw : ∀ x ∈ h, x.size ≤ 9223372036854775807) (hg : ∀ x ∈ l, x.f0.size ≤ 9223372036854775807) {k : Nat} (hk : h.length + l.length < k) :
    ∃ r, laws_szTopic.f k nm b h l 1048576 = some r ∧ (0 ≤ r → nm.size ≤ 1048576 ∧ h.length ≤ 1048576 ∧ l.length ≤ 1048576 ∧ nmL l ≤ 1048576) := by
  unfold laws_szTopic.f laws_szStringS.f
  rw [w_id (by omega) (by omega)]
  split
  · exact ⟨-1, rfl, fun h => by omega⟩
  · rw [w_id (by omega) (by omega)]
    split
    · exact ⟨-1, rfl, fun h => by omega⟩
    · obtain ⟨r, hr, h1, h2⟩ := szStringS_l0 h hh hw h.length k 0 (1048576 - nm.size - h.length) (by omega) (by omega) (by omega) (by omega)
      rw [show ((0 : Int)) = ((0 : Nat) : Int) from rfl, hr]
      simp only [Option.bind_some]
      split
      · exact ⟨-1, rfl, fun h => by omega⟩
      · unfold laws_szGroupS.f
        rw [w_id (by omega) (by omega)]
        split
        · exact ⟨-1, rfl, fun h => by omega⟩
        · obtain ⟨r2, hr2, g1, g2, g3⟩ := szGroupS_l0 l hl hg l.length k 0 (r - l.length) (by omega) (by omega) (by omega) (by omega)
          rw [show ((0 : Int)) = ((0 : Nat) : Int) from rfl, hr2]
          simp only [Option.bind_some]
          split
          · exact ⟨-1, rfl, fun h => by omega⟩
          · exact ⟨r2, rfl, fun h => ⟨by omega, by omega, by omega, sup_le' fun x hx => g3 h x (by simpa using hx)⟩⟩

end Go.Proofs.Ytokgloeondfkiaa.Q
