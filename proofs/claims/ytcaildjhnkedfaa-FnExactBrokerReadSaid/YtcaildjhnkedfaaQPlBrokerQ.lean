/- Brokers that are read: the program's reader and the reference's read what PlBrokerP's functions say. Texts of at most 20000 bytes. -/
import Derived.Test.YtcaildjhnkedfaaQx6
import Derived.Test.YtcaildjhnkedfaaQx11
import Derived.Test.YtcaildjhnkedfaaQPlBrokerP
namespace Go.Proofs.Ytcaildjhnkedfaa.Q
open Go.RowKit Go.Proofs.YtcaildjhnkedfaaW.PrintWords Go.Proofs.YtcaildjhnkedfaaW.PrintLast Go.Proofs.Ytcaildjhnkedfaa.Q Go.Proofs.Ytcaildjhnkedfaa.Q.BB Go.Proofs.Ytcaildjhnkedfaa.HB
set_option linter.unusedVariables false
set_option linter.unusedSimpArgs false

/-- What BrokerRead answers. -/
abbrev BRO := List TI × List RI × ByteArray × Int
def badB : BRO := ([], [], ⟨#[]⟩, 3)
def ansB (t : ByteArray) : BRO :=
  match brokP t with
  | some (L, R, e) => if brokerB L R = true ∧ e = (t.size : Int) then (L, R, ⟨#[]⟩, 0) else badB
  | none => badB
theorem ans_some {t : ByteArray} {L : List TI} {R : List RI} {e : Int} (h : brokP t = some (L, R, e)) : ansB t = if brokerB L R = true ∧ e = (t.size : Int) then (L, R, ⟨#[]⟩, 0) else badB := by
  unfold ansB
  rw [h]
theorem ans_none {t : ByteArray} (h : brokP t = none) : ansB t = badB := by
  unfold ansB
  rw [h]
section
variable {t : ByteArray} (ht : t.size ≤ 20000) {β : Type} {P : Option β → Prop}
include ht
theorem sNum {a : Int} (ha : At a) {k : Nat} (hk : 40 ≤ k) {f : Int × ByteArray × Int × Bool → Option β} (g : nB t a = false → At (nA t a) → P (f (nV t a, t, nA t a, false))) (b : nB t a = true → ∀ v a', At a' → P (f (v, t, a', true))) : P ((spec_l06Reader_num.f k t a false).bind f) := by
  rw [spec_rnum ht ha hk, tbind]
  cases h : nB t a with
  | false => exact g h (nA_rng ht ha)
  | true => exact b h _ _ (nA_rng ht ha)
theorem sNumB {a : Int} (ha : At a) {k : Nat} (hk : 40 ≤ k) {f : Int × ByteArray × Int × Bool → Option β} (b : ∀ v a', At a' → P (f (v, t, a', true))) : P ((spec_l06Reader_num.f k t a true).bind f) := by
  rw [spec_rnum_bad ht ha hk, tbind]
  exact b _ _ ha
theorem sText {a : Int} (ha : At a) {k : Nat} (hk : 40 ≤ k) {f : ByteArray × ByteArray × Int × Bool → Option β} (g : wB t a = false → At (wA t a) → P (f (wV t a, t, wA t a, false))) (b : wB t a = true → ∀ v a', At a' → P (f (v, t, a', true))) : P ((spec_l06Reader_text.f k t a false).bind f) := by
  rw [spec_rtext ht ha hk, tbind]
  cases h : wB t a with
  | false => exact g h (wA_rng ht ha)
  | true => exact b h _ _ (wA_rng ht ha)
theorem sTextB {a : Int} (ha : At a) {k : Nat} (hk : 40 ≤ k) {f : ByteArray × ByteArray × Int × Bool → Option β} (b : ∀ v a', At a' → P (f (v, t, a', true))) : P ((spec_l06Reader_text.f k t a true).bind f) := by
  rw [spec_rtext_bad ht ha hk, tbind]
  exact b _ _ ha
theorem sMany {a m : Int} (ha : At a) {k : Nat} (hk : 40 ≤ k) {f : Int × ByteArray × Int × Bool → Option β} (g : ∀ (n : Nat) a', manyP t a m = some (n, a') → At a' → (n : Int) ≤ m → P (f ((n : Int), t, a', false))) (b : manyP t a m = none → ∀ v a', At a' → P (f (v, t, a', true))) : P ((spec_l06Reader_many.f k t a false m).bind f) := by
  unfold spec_l06Reader_many.f
  rw [Option.bind_assoc]
  refine sNum ht ha hk (fun h ha' => ?_) (fun h v a' ha' => ?_)
  · rw [tIs_eq, tbind]
    by_cases hr : 0 ≤ nV t a ∧ nV t a ≤ m
    · rw [if_pos (decide_eq_true hr), tbind]
      have := g (nV t a).toNat (nA t a) (by unfold manyP; rw [if_neg (by rw [h]; decide), if_pos hr]) ha' (by omega)
      rw [Int.toNat_of_nonneg hr.1] at this
      exact this
    · rw [if_neg (by rw [decide_eq_false hr]; decide), tbind]
      exact b (by unfold manyP; rw [if_neg (by rw [h]; decide), if_neg hr]) _ _ ha'
  · rw [tIs_eq, tbind]
    have hn : manyP t a m = none := by unfold manyP; rw [if_pos h]
    split
    · rw [tbind]; exact b hn _ _ ha'
    · rw [tbind]; exact b hn _ _ ha'
theorem sManyB {a m : Int} (ha : At a) {k : Nat} (hk : 40 ≤ k) {f : Int × ByteArray × Int × Bool → Option β} (b : ∀ v a', At a' → P (f (v, t, a', true))) : P ((spec_l06Reader_many.f k t a true m).bind f) := by
  unfold spec_l06Reader_many.f
  rw [Option.bind_assoc]
  refine sNumB ht ha hk (fun v a' ha' => ?_)
  rw [tIs_eq, tbind]
  split
  · rw [tbind]; exact b _ _ ha'
  · rw [tbind]; exact b _ _ ha'
theorem iNum {a : Int} (ha : At a) {k : Nat} (hk : 40 ≤ k) {f : Int × ByteArray × Int × Bool → Option β} (g : nB t a = false → At (nA t a) → P (f (nV t a, t, nA t a, false))) (b : nB t a = true → ∀ v a', At a' → P (f (v, t, a', true))) : P ((impl_reader_num.f k t a false).bind f) := by
  rw [impl_rnum ht ha false hk, tbind, Bool.false_or]
  cases h : nB t a with
  | false => exact g h (nA_rng ht ha)
  | true => exact b h _ _ (nA_rng ht ha)
theorem iNumB {a : Int} (ha : At a) {k : Nat} (hk : 40 ≤ k) {f : Int × ByteArray × Int × Bool → Option β} (b : ∀ v a', At a' → P (f (v, t, a', true))) : P ((impl_reader_num.f k t a true).bind f) := by
  rw [impl_rnum ht ha true hk, tbind, Bool.true_or]
  exact b _ _ (nA_rng ht ha)
theorem iWord {a : Int} (ha : At a) {k : Nat} (hk : 40 ≤ k) {f : ByteArray × ByteArray × Int × Bool → Option β} (g : wB t a = false → At (wA t a) → P (f (wV t a, t, wA t a, false))) (b : wB t a = true → ∀ v a', At a' → P (f (v, t, a', true))) : P ((impl_reader_word.f k t a false).bind f) := by
  rw [impl_rword ht ha false hk, tbind, Bool.false_or]
  cases h : wB t a with
  | false => exact g h (wA_rng ht ha)
  | true => exact b h _ _ (wA_rng ht ha)
theorem iWordB {a : Int} (ha : At a) {k : Nat} (hk : 40 ≤ k) {f : ByteArray × ByteArray × Int × Bool → Option β} (b : ∀ v a', At a' → P (f (v, t, a', true))) : P ((impl_reader_word.f k t a true).bind f) := by
  rw [impl_rword ht ha true hk, tbind, Bool.true_or]
  exact b _ _ (wA_rng ht ha)
theorem iMany {a m : Int} (ha : At a) {k : Nat} (hk : 40 ≤ k) {f : Int × ByteArray × Int × Bool → Option β} (g : ∀ (n : Nat) a', manyP t a m = some (n, a') → At a' → (n : Int) ≤ m → P (f ((n : Int), t, a', false))) (b : manyP t a m = none → ∀ v a', At a' → P (f (v, t, a', true))) : P ((impl_reader_many.f k t a false m).bind f) := by
  unfold impl_reader_many.f
  rw [Option.bind_assoc]
  refine iNum ht ha hk (fun h ha' => ?_) (fun h v a' ha' => ?_)
  · rw [tWithin_eq, tbind]
    by_cases hr : 0 ≤ nV t a ∧ nV t a ≤ m
    · rw [if_pos (decide_eq_true hr), if_neg (show ¬ (nV t a, t, nA t a, false).2.2.2 = true from by simp), tbind]
      have := g (nV t a).toNat (nA t a) (by unfold manyP; rw [if_neg (by rw [h]; decide), if_pos hr]) ha' (by omega)
      rw [Int.toNat_of_nonneg hr.1] at this
      exact this
    · rw [if_neg (by rw [decide_eq_false hr]; decide), tbind]
      exact b (by unfold manyP; rw [if_neg (by rw [h]; decide), if_neg hr]) _ _ ha'
  · rw [tWithin_eq, tbind]
    have hn : manyP t a m = none := by unfold manyP; rw [if_pos h]
    split
    · rw [if_pos rfl, tbind]; exact b hn _ _ ha'
    · rw [tbind]; exact b hn _ _ ha'
theorem iManyB {a m : Int} (ha : At a) {k : Nat} (hk : 40 ≤ k) {f : Int × ByteArray × Int × Bool → Option β} (b : ∀ v a', At a' → P (f (v, t, a', true))) : P ((impl_reader_many.f k t a true m).bind f) := by
  unfold impl_reader_many.f
  rw [Option.bind_assoc]
  refine iNumB ht ha hk (fun v a' ha' => ?_)
  rw [tWithin_eq, tbind]
  split
  · rw [if_pos rfl, tbind]; exact b _ _ ha'
  · rw [tbind]; exact b _ _ ha'
end
theorem wdown {n : Nat} (h : n ≤ 1000) : wrap64 (((n + 1 : Nat) : Int) - 1) = (n : Int) := by rw [w_id (by omega) (by omega)]; omega
theorem fl {k m : Nat} (h : m < k) : ∃ q, k = q + 1 := ⟨k - 1, by omega⟩
/-! The reference. -/
theorem s_l0_bad {k : Nat} {v a : Int} {t nm : ByteArray} {b : Int} {H : List ByteArray} : spec_l06Reader_topic.l0 (k + 1) v t a true nm b H = spec_l06Reader_topic.j1 k t a true nm b H := by
  simp only [spec_l06Reader_topic.l0, if_true]
  split <;> rfl
theorem s_l1_bad {k : Nat} {v a : Int} {t nm : ByteArray} {b : Int} {H : List ByteArray} {G : List GT} : spec_l06Reader_topic.l1 (k + 2) v t a true nm b H G = some (nm, b, H, G, t, a, true) := by
  simp only [spec_l06Reader_topic.l1, spec_l06Reader_topic.j3, Bool.not_true]
  split <;> rfl
theorem s_held {t nm : ByteArray} {b : Int} (ht : t.size ≤ 20000) {P : Option (ByteArray × Int × List ByteArray × List GT × ByteArray × Int × Bool) → Prop} {K : Nat} (hK : 40 ≤ K) : ∀ (n : Nat) (a : Int) (H : List ByteArray) (k : Nat), At a → n ≤ 100 → H.length + n ≤ 1000 → K + n < k →
    (∀ H' a' k', heldP t n a H = some (H', a') → At a' → K ≤ k' → P (spec_l06Reader_topic.j1 k' t a' false nm b H')) →
    (heldP t n a H = none → ∀ H' a' k', At a' → K ≤ k' → P (spec_l06Reader_topic.j1 k' t a' true nm b H')) →
    P (spec_l06Reader_topic.l0 k (n : Int) t a false nm b H)
  | 0, a, H, k, ha, hn, hl, hk, g, bad => by
    obtain ⟨k, rfl⟩ := fl hk
    simp only [spec_l06Reader_topic.l0]
    rw [if_neg (by simp)]
    exact g H a k rfl ha (by omega)
  | n + 1, a, H, k, ha, hn, hl, hk, g, bad => by
    obtain ⟨k, rfl⟩ := fl hk
    simp only [spec_l06Reader_topic.l0]
    rw [if_pos (by omega), if_neg (by decide)]
    simp only [heldP] at g bad
    refine sText ht ha (by omega) (fun h ha' => ?_) (fun h v a' ha' => ?_)
    · rw [if_neg (by rw [h]; decide)] at g bad
      try dsimp only
      rw [if_pos (by omega), wdown (by omega)]
      exact s_held ht hK n _ _ k ha' (by omega) (by simp; omega) (by omega) g bad
    · rw [if_pos h] at bad
      try dsimp only
      rw [if_pos (by omega)]
      obtain ⟨k, rfl⟩ := fl (k := k) (m := 0) (by omega)
      rw [s_l0_bad]
      exact bad rfl _ _ _ ha' (by omega)
theorem s_grp {t nm : ByteArray} {b : Int} {H : List ByteArray} (ht : t.size ≤ 20000) {P : Option (ByteArray × Int × List ByteArray × List GT × ByteArray × Int × Bool) → Prop} : ∀ (n : Nat) (a : Int) (G : List GT) (k : Nat), At a → n ≤ 100 → G.length + n ≤ 1000 → 50 + 2 * n < k →
    (∀ G' a', grpP t n a G = some (G', a') → At a' → P (some (nm, b, H, G', t, a', false))) →
    (grpP t n a G = none → ∀ G' a', At a' → P (some (nm, b, H, G', t, a', true))) →
    P (spec_l06Reader_topic.l1 k (n : Int) t a false nm b H G)
  | 0, a, G, k, ha, hn, hl, hk, g, bad => by
    obtain ⟨k, rfl⟩ : ∃ q, k = q + 2 := ⟨k - 2, by omega⟩
    simp only [spec_l06Reader_topic.l1, spec_l06Reader_topic.j3]
    rw [if_neg (by simp), if_neg (by decide)]
    exact g G a rfl ha
  | n + 1, a, G, k, ha, hn, hl, hk, g, bad => by
    obtain ⟨k, rfl⟩ : ∃ q, k = q + 2 := ⟨k - 2, by omega⟩
    rw [spec_l06Reader_topic.l1, if_pos (by omega), spec_l06Reader_topic.j3, if_pos (by decide)]
    simp only [grpP] at g bad
    refine sText ht ha (by omega) (fun h ha' => ?_) (fun h v a' ha' => ?_)
    · rw [if_neg (by rw [h]; decide)] at g bad
      try dsimp only
      refine sNum ht ha' (by omega) (fun h2 ha2 => ?_) (fun h2 v a2 ha2 => ?_)
      · rw [if_neg (by rw [h2]; decide)] at g bad
        try dsimp only
        rw [if_pos (by omega), wdown (by omega)]
        exact s_grp ht n _ _ k ha2 (by omega) (by simp; omega) (by omega) g bad
      · rw [if_pos h2] at bad
        try dsimp only
        rw [if_pos (by omega)]
        obtain ⟨k, rfl⟩ : ∃ q, k = q + 2 := ⟨k - 2, by omega⟩
        rw [s_l1_bad]
        exact bad rfl _ _ ha2
    · rw [if_pos h] at bad
      try dsimp only
      refine sNumB ht ha' (by omega) (fun v2 a2 ha2 => ?_)
      try dsimp only
      rw [if_pos (by omega)]
      obtain ⟨k, rfl⟩ : ∃ q, k = q + 2 := ⟨k - 2, by omega⟩
      rw [s_l1_bad]
      exact bad rfl _ _ ha2
theorem s_j1_bad {t nm : ByteArray} {b a : Int} {H : List ByteArray} (ht : t.size ≤ 20000) (ha : At a) {P : Option (ByteArray × Int × List ByteArray × List GT × ByteArray × Int × Bool) → Prop} {k : Nat} (hk : 60 ≤ k) (bad : ∀ G' a', At a' → P (some (nm, b, H, G', t, a', true))) : P (spec_l06Reader_topic.j1 k t a true nm b H) := by
  obtain ⟨k, rfl⟩ := fl (k := k) (m := 0) (by omega)
  rw [spec_l06Reader_topic.j1]
  refine sManyB ht ha (by omega) (fun v a' ha' => ?_)
  try dsimp only
  obtain ⟨k, rfl⟩ : ∃ q, k = q + 2 := ⟨k - 2, by omega⟩
  rw [s_l1_bad]
  exact bad _ _ ha'
theorem s_topic {t : ByteArray} (ht : t.size ≤ 20000) {β : Type} {P : Option β → Prop} {a : Int} (ha : At a) {k : Nat} (hk : 200 < k) {f : ByteArray × Int × List ByteArray × List GT × ByteArray × Int × Bool → Option β}
    (g : ∀ (T : TI) e, topicP t a = some (T, e) → At e → P (f (T.f0, T.f1, T.f2, T.f3, t, e, false))) (b : topicP t a = none → ∀ nm x H G a', At a' → P (f (nm, x, H, G, t, a', true))) : P ((spec_l06Reader_topic.f k t a false).bind f) := by
  unfold topicP at g b
  suffices h : (fun o => P (o.bind f)) (spec_l06Reader_topic.f k t a false) from h
  unfold spec_l06Reader_topic.f
  refine sText (P := fun o => P (o.bind f)) ht ha (by omega) (fun h ha' => ?_) (fun h v a' ha' => ?_)
  · rw [if_neg (by rw [h]; decide)] at g b
    try dsimp only
    refine sNum (P := fun o => P (o.bind f)) ht ha' (by omega) (fun h2 ha2 => ?_) (fun h2 v a2 ha2 => ?_)
    · rw [if_neg (by rw [h2]; decide)] at g b
      try dsimp only
      refine sMany (P := fun o => P (o.bind f)) ht ha2 (by omega) (fun n a3 h3 ha3 hn => ?_) (fun h3 v a3 ha3 => ?_)
      · rw [h3, tbind] at g b
        dsimp only at g b ⊢
        refine s_held (P := fun o => P (o.bind f)) (K := 100) ht (by omega) n a3 [] k ha3 (by omega) (by simp; omega) (by omega) (fun H' a4 k' h4 ha4 hk' => ?_) (fun h4 H' a4 k' ha4 hk' => ?_)
        · rw [h4, tbind] at g b
          dsimp only at g b ⊢
          obtain ⟨k', rfl⟩ := fl (k := k') (m := 0) (by omega)
          rw [spec_l06Reader_topic.j1]
          refine sMany (P := fun o => P (o.bind f)) ht ha4 (by omega) (fun m a5 h5 ha5 hm => ?_) (fun h5 v a5 ha5 => ?_)
          · rw [h5, tbind] at g b
            dsimp only at g b ⊢
            refine s_grp (P := fun o => P (o.bind f)) ht m a5 [] k' ha5 (by omega) (by simp; omega) (by omega) (fun G' a6 h6 ha6 => ?_) (fun h6 G' a6 ha6 => ?_)
            · rw [h6, tbind] at g
              try dsimp only
              rw [tbind]
              exact g ⟨_, _, H', G'⟩ a6 rfl ha6
            · rw [h6] at b
              try dsimp only
              rw [tbind]
              exact b rfl _ _ _ _ _ ha6
          · rw [h5] at b
            try dsimp only
            obtain ⟨k', rfl⟩ : ∃ q, k' = q + 2 := ⟨k' - 2, by omega⟩
            rw [s_l1_bad, tbind]
            exact b rfl _ _ _ _ _ ha5
        · rw [h4] at b
          try dsimp only
          exact s_j1_bad (P := fun o => P (o.bind f)) ht ha4 (by omega) (fun G' a' ha' => by
            try dsimp only
            rw [tbind]
            exact b rfl _ _ _ _ _ ha')
      · rw [h3] at b
        try dsimp only
        obtain ⟨k, rfl⟩ := fl (k := k) (m := 0) (by omega)
        rw [s_l0_bad]
        exact s_j1_bad (P := fun o => P (o.bind f)) ht ha3 (by omega) (fun G' a' ha' => by
          try dsimp only
          rw [tbind]
          exact b rfl _ _ _ _ _ ha')
    · rw [if_pos h2] at b
      try dsimp only
      refine sManyB (P := fun o => P (o.bind f)) ht ha2 (by omega) (fun v3 a3 ha3 => ?_)
      try dsimp only
      obtain ⟨k, rfl⟩ := fl (k := k) (m := 0) (by omega)
      rw [s_l0_bad]
      exact s_j1_bad (P := fun o => P (o.bind f)) ht ha3 (by omega) (fun G' a' ha' => by
        try dsimp only
        rw [tbind]
        exact b rfl _ _ _ _ _ ha')
  · rw [if_pos h] at b
    try dsimp only
    refine sNumB (P := fun o => P (o.bind f)) ht ha' (by omega) (fun v2 a2 ha2 => ?_)
    try dsimp only
    refine sManyB (P := fun o => P (o.bind f)) ht ha2 (by omega) (fun v3 a3 ha3 => ?_)
    try dsimp only
    obtain ⟨k, rfl⟩ := fl (k := k) (m := 0) (by omega)
    rw [s_l0_bad]
    exact s_j1_bad (P := fun o => P (o.bind f)) ht ha3 (by omega) (fun G' a' ha' => by
      try dsimp only
      rw [tbind]
      exact b rfl _ _ _ _ _ ha')
theorem s_b0_bad {k : Nat} {v a : Int} {x t : ByteArray} {L : List TI} : spec_BrokerRead.l0 (k + 1) x v t a true L = spec_BrokerRead.j1 k x t a true L := by
  simp only [spec_BrokerRead.l0, if_true]
  split <;> rfl
theorem s_b1_bad {k : Nat} {v a : Int} {x t : ByteArray} {L : List TI} {R : List RI} : spec_BrokerRead.l1 (k + 2) x v t a true L R = some badB := by
  simp only [spec_BrokerRead.l1, spec_BrokerRead.j3, Bool.not_true]
  split <;> rfl
theorem s_bj_bad {k : Nat} {a : Int} {x t : ByteArray} {L : List TI} (ht : t.size ≤ 20000) (ha : At a) (hk : 50 ≤ k) : spec_BrokerRead.j1 k x t a true L = some badB := by
  obtain ⟨k, rfl⟩ := fl (k := k) (m := 0) (by omega)
  rw [spec_BrokerRead.j1]
  refine sManyB (P := fun o => o = some badB) ht ha (by omega) (fun v a' ha' => ?_)
  try dsimp only
  obtain ⟨k, rfl⟩ : ∃ q, k = q + 2 := ⟨k - 2, by omega⟩
  exact s_b1_bad
theorem s_tops {x t : ByteArray} (ht : t.size ≤ 20000) {P : Option BRO → Prop} {K : Nat} (hK : 300 ≤ K) : ∀ (n : Nat) (a : Int) (L : List TI) (k : Nat), At a → n ≤ 100 → L.length + n ≤ 1000 → K + n < k →
    (∀ L' a' k', topsP t n a L = some (L', a') → At a' → K ≤ k' → P (spec_BrokerRead.j1 k' x t a' false L')) →
    (topsP t n a L = none → P (some badB)) →
    P (spec_BrokerRead.l0 k x (n : Int) t a false L)
  | 0, a, L, k, ha, hn, hl, hk, g, bad => by
    obtain ⟨k, rfl⟩ := fl hk
    simp only [spec_BrokerRead.l0]
    rw [if_neg (by simp)]
    exact g L a k rfl ha (by omega)
  | n + 1, a, L, k, ha, hn, hl, hk, g, bad => by
    obtain ⟨k, rfl⟩ := fl hk
    simp only [spec_BrokerRead.l0]
    rw [if_pos (by omega), if_neg (by decide)]
    simp only [topsP] at g bad
    refine s_topic ht ha (by omega) (fun T e h he => ?_) (fun h nm b H G a' ha' => ?_)
    · rw [h, tbind] at g bad
      dsimp only at g bad ⊢
      rw [if_pos (by omega), wdown (by omega)]
      exact s_tops ht hK n _ _ k he (by omega) (by simp; omega) (by omega) g bad
    · rw [h] at bad
      try dsimp only
      rw [if_pos (by omega)]
      obtain ⟨k, rfl⟩ := fl (k := k) (m := 0) (by omega)
      rw [s_b0_bad, s_bj_bad ht ha' (by omega)]
      exact bad rfl
theorem s_reps {x t : ByteArray} {L : List TI} (ht : t.size ≤ 20000) {P : Option BRO → Prop} {K : Nat} (hK : 300 ≤ K) : ∀ (n : Nat) (a : Int) (R : List RI) (k : Nat), At a → n ≤ 100 → R.length + n ≤ 1000 → K + 2 * n + 1 < k →
    (∀ R' a' k', repsP t n a R = some (R', a') → At a' → K ≤ k' → P (spec_BrokerRead.j3 (k' + 1) x 0 false t a' false L R')) →
    (repsP t n a R = none → P (some badB)) →
    P (spec_BrokerRead.l1 k x (n : Int) t a false L R)
  | 0, a, R, k, ha, hn, hl, hk, g, bad => by
    obtain ⟨k, rfl⟩ : ∃ q, k = q + 2 := ⟨k - 2, by omega⟩
    rw [spec_BrokerRead.l1, if_neg (by simp)]
    exact g R a k rfl ha (by omega)
  | n + 1, a, R, k, ha, hn, hl, hk, g, bad => by
    obtain ⟨k, rfl⟩ : ∃ q, k = q + 2 := ⟨k - 2, by omega⟩
    rw [spec_BrokerRead.l1, if_pos (by omega), spec_BrokerRead.j3, if_pos (by decide)]
    simp only [repsP] at g bad
    have ends : ∀ (v : Int) (a' : Int) (R' : List RI), spec_BrokerRead.l1 k x v t a' true L R' = some badB := fun v a' R' => by
      obtain ⟨k, rfl⟩ : ∃ q, k = q + 2 := ⟨k - 2, by omega⟩
      exact s_b1_bad
    refine sNum ht ha (by omega) (fun h1 a1 => ?_) (fun h1 v1 e1 a1 => ?_)
    · rw [if_neg (by rw [h1]; decide)] at g bad
      try dsimp only
      refine sNum ht a1 (by omega) (fun h2 a2 => ?_) (fun h2 v2 e2 a2 => ?_)
      · rw [if_neg (by rw [h2]; decide)] at g bad
        try dsimp only
        refine sText ht a2 (by omega) (fun h3 a3 => ?_) (fun h3 v3 e3 a3 => ?_)
        · rw [if_neg (by rw [h3]; decide)] at g bad
          try dsimp only
          rw [if_pos (by omega), wdown (by omega)]
          exact s_reps ht hK n _ _ k a3 (by omega) (by simp; omega) (by omega) g bad
        · rw [if_pos h3] at bad
          try dsimp only
          rw [if_pos (by omega), ends]
          exact bad rfl
      · rw [if_pos h2] at bad
        try dsimp only
        refine sTextB ht a2 (by omega) (fun v3 e3 a3 => ?_)
        try dsimp only
        rw [if_pos (by omega), ends]
        exact bad rfl
    · rw [if_pos h1] at bad
      try dsimp only
      refine sNumB ht a1 (by omega) (fun v2 e2 a2 => ?_)
      try dsimp only
      refine sTextB ht a2 (by omega) (fun v3 e3 a3 => ?_)
      try dsimp only
      rw [if_pos (by omega), ends]
      exact bad rfl
/-- What BrokerRead answers, by the reference. -/
theorem spec_read {t : ByteArray} (ht : t.size ≤ 20000) {k : Nat} (hk : 60000 ≤ k) : spec_BrokerRead.f k t = some (ansB t) := by
  obtain ⟨q, rfl⟩ : ∃ q, k = q + 60000 := ⟨k - 60000, by omega⟩
  generalize hK : q + 60000 = k
  replace hK : 60000 ≤ k := by omega
  unfold spec_BrokerRead.f
  rw [if_neg (by omega)]
  refine sMany (P := fun o => o = some (ansB t)) ht (show At 0 from ⟨Int.le_refl _, by omega⟩) (by omega) (fun n a h ha hn => ?_) (fun h v a ha => ?_)
  · dsimp only
    refine s_tops (P := fun o => o = some (ansB t)) (K := k - 100) ht (by omega) n a [] k ha (by omega) (by simp; omega) (by omega) (fun L a2 k2 h2 ha2 hk2 => ?_) (fun h2 => ?_)
    · obtain ⟨k2, rfl⟩ := fl (k := k2) (m := 0) (by omega)
      rw [spec_BrokerRead.j1]
      refine sMany (P := fun o => o = some (ansB t)) ht ha2 (by omega) (fun m a3 h3 ha3 hm => ?_) (fun h3 v a3 ha3 => ?_)
      · dsimp only
        refine s_reps (P := fun o => o = some (ansB t)) (K := k - 300) ht (by omega) m a3 [] k2 ha3 (by omega) (by simp; omega) (by omega) (fun R a4 k4 h4 ha4 hk4 => ?_) (fun h4 => ?_)
        · have hp : brokP t = some (L, R, a4) := by unfold brokP; rw [h, tbind, h2, tbind, h3, tbind, h4, tbind]
          obtain ⟨p0, p1, p2, p3, p4, p5⟩ := brok_ok hp
          have hs := tmI_small p5
          rw [spec_BrokerRead.j3, if_neg (by decide), if_neg (by decide), if_neg (fun e0 => by
            have h1 : t = (⟨#[]⟩ : ByteArray) := toList_eq.1 (e0.trans (by rw [Go.ByteArray.toList_eq]))
            have h2 := congrArg ByteArray.size h1
            have h3 : (⟨#[]⟩ : ByteArray).size = 0 := rfl
            omega), spec_bytes (by omega) (by omega) (by omega) (by omega), tbind, ans_some hp]
          unfold bytesT
          by_cases hb : brokerB L R = true
          · rw [if_pos hb, p2]
            by_cases he : a4 = (t.size : Int)
            · rw [if_pos (by rw [he]; exact toList_eq.2 ByteArray.extract_zero_size), if_pos ⟨hb, he⟩]
            · rw [if_neg (fun e0 => he (by
                have := congrArg ByteArray.size (toList_eq.1 e0)
                rw [ByteArray.size_extract] at this
                omega)), if_neg (fun e0 => he e0.2)]
              rfl
          · rw [if_neg hb, if_neg (fun e0 => by
              have := congrArg ByteArray.size (toList_eq.1 e0)
              have h0 : (⟨#[]⟩ : ByteArray).size = 0 := rfl
              omega), if_neg (fun e0 => hb e0.1)]
            rfl
        · have hp : brokP t = none := by unfold brokP; rw [h, tbind, h2, tbind, h3, tbind, h4]; rfl
          rw [ans_none hp]
      · have hp : brokP t = none := by unfold brokP; rw [h, tbind, h2, tbind, h3]; rfl
        try dsimp only
        rw [ans_none hp]
        obtain ⟨k2, rfl⟩ : ∃ q, k2 = q + 2 := ⟨k2 - 2, by omega⟩
        exact s_b1_bad
    · have hp : brokP t = none := by unfold brokP; rw [h, tbind, h2]; rfl
      rw [ans_none hp]
  · have hp : brokP t = none := by unfold brokP; rw [h]; rfl
    try dsimp only
    rw [ans_none hp]
    obtain ⟨k, rfl⟩ := fl (k := k) (m := 0) (by omega)
    rw [s_b0_bad, s_bj_bad ht ha (by omega)]
/-! The program. -/
abbrev IBR := List TI × List RI × ByteArray × Int × Bool
theorem i_l0_bad {k : Nat} {v a : Int} {t : ByteArray} {L : List TI} : impl_reader_broker.l0 (k + 1) v t a true L = impl_reader_broker.j1 k v false t a true L := by
  simp only [impl_reader_broker.l0, Bool.not_true]
  split <;> rfl
theorem i_l3_bad {k : Nat} {v a : Int} {t : ByteArray} {L : List TI} {R : List RI} : impl_reader_broker.l3 (k + 2) v t a true L R = some (L, R, t, a, true) := by
  simp only [impl_reader_broker.l3, impl_reader_broker.j7, Bool.not_true]
  split <;> rfl
theorem i_l1_bad {k : Nat} {x v a b : Int} {t nm : ByteArray} {L : List TI} {H : List ByteArray} : impl_reader_broker.l1 (k + 1) x v t a true L nm b H = impl_reader_broker.j3 k x t a true L nm b H := by
  simp only [impl_reader_broker.l1, if_true]
  split <;> rfl
theorem i_l2_bad {k : Nat} {x v a b : Int} {t nm : ByteArray} {L : List TI} {H : List ByteArray} {G : List GT} (hl : L.length ≤ 1000) : impl_reader_broker.l2 (k + 2) x v t a true L nm b H G = impl_reader_broker.l0 k (wrap64 (x - 1)) t a true (L ++ [⟨nm, b, H, G⟩]) := by
  simp only [impl_reader_broker.l2, impl_reader_broker.j5, Bool.not_true]
  split
  · rw [if_neg (by decide), if_pos (by omega)]
  · rw [if_neg (by decide), if_pos (by omega)]
section
variable {t : ByteArray} (ht : t.size ≤ 20000) {P : Option IBR → Prop}
include ht
theorem i_j1_bad {L : List TI} {v a : Int} (ha : At a) {k : Nat} (hk : 60 ≤ k) (bad : ∀ L' R' a', P (some (L', R', t, a', true))) : P (impl_reader_broker.j1 k v false t a true L) := by
  obtain ⟨k, rfl⟩ := fl (k := k) (m := 0) (by omega)
  rw [impl_reader_broker.j1, if_neg (by decide)]
  refine iManyB ht ha (by omega) (fun v a' ha' => ?_)
  try dsimp only
  obtain ⟨k, rfl⟩ : ∃ q, k = q + 2 := ⟨k - 2, by omega⟩
  rw [i_l3_bad]
  exact bad _ _ _
theorem i_l2_end {L : List TI} {x v a b : Int} {nm : ByteArray} {H : List ByteArray} {G : List GT} (hl : L.length ≤ 1000) (ha : At a) {k : Nat} (hk : 70 ≤ k) (bad : ∀ L' R' a', P (some (L', R', t, a', true))) : P (impl_reader_broker.l2 k x v t a true L nm b H G) := by
  obtain ⟨k, rfl⟩ : ∃ q, k = q + 3 := ⟨k - 3, by omega⟩
  rw [i_l2_bad hl, i_l0_bad]
  exact i_j1_bad ht ha (by omega) bad
theorem i_j3_end {L : List TI} {x a b : Int} {nm : ByteArray} {H : List ByteArray} (hl : L.length ≤ 1000) (ha : At a) {k : Nat} (hk : 80 ≤ k) (bad : ∀ L' R' a', P (some (L', R', t, a', true))) : P (impl_reader_broker.j3 k x t a true L nm b H) := by
  obtain ⟨k, rfl⟩ := fl (k := k) (m := 0) (by omega)
  rw [impl_reader_broker.j3]
  refine iManyB ht ha (by omega) (fun v a' ha' => ?_)
  exact i_l2_end ht hl ha' (by omega) bad
theorem i_l1_end {L : List TI} {x v a b : Int} {nm : ByteArray} {H : List ByteArray} (hl : L.length ≤ 1000) (ha : At a) {k : Nat} (hk : 90 ≤ k) (bad : ∀ L' R' a', P (some (L', R', t, a', true))) : P (impl_reader_broker.l1 k x v t a true L nm b H) := by
  obtain ⟨k, rfl⟩ := fl (k := k) (m := 0) (by omega)
  rw [i_l1_bad]
  exact i_j3_end ht hl ha (by omega) bad
theorem i_held {x b : Int} {nm : ByteArray} {L : List TI} (hL : L.length ≤ 1000) {K : Nat} (hK : 100 ≤ K) (bad : ∀ L' R' a', P (some (L', R', t, a', true)) ∨ True) : ∀ (n : Nat) (a : Int) (H : List ByteArray) (k : Nat), At a → n ≤ 100 → H.length + n ≤ 1000 → K + n < k →
    (∀ H' a' k', heldP t n a H = some (H', a') → At a' → K ≤ k' → P (impl_reader_broker.j3 k' x t a' false L nm b H')) →
    (heldP t n a H = none → ∀ L' R' a', P (some (L', R', t, a', true))) →
    P (impl_reader_broker.l1 k x (n : Int) t a false L nm b H)
  | 0, a, H, k, ha, hn, hl, hk, g, bd => by
    obtain ⟨k, rfl⟩ := fl hk
    simp only [impl_reader_broker.l1]
    rw [if_neg (by simp)]
    exact g H a k rfl ha (by omega)
  | n + 1, a, H, k, ha, hn, hl, hk, g, bd => by
    obtain ⟨k, rfl⟩ := fl hk
    simp only [impl_reader_broker.l1]
    rw [if_pos (by omega), if_neg (by decide)]
    simp only [heldP] at g bd
    refine iWord ht ha (by omega) (fun h ha' => ?_) (fun h v a' ha' => ?_)
    · rw [if_neg (by rw [h]; decide)] at g bd
      try dsimp only
      rw [if_pos (by omega), wdown (by omega)]
      exact i_held hL hK bad n _ _ k ha' (by omega) (by simp; omega) (by omega) g bd
    · rw [if_pos h] at bd
      try dsimp only
      rw [if_pos (by omega)]
      exact i_l1_end ht hL ha' (by omega) (bd rfl)
theorem i_grp {x b : Int} {nm : ByteArray} {L : List TI} {H : List ByteArray} (hL : L.length ≤ 1000) {K : Nat} (hK : 100 ≤ K) : ∀ (n : Nat) (a : Int) (G : List GT) (k : Nat), At a → n ≤ 100 → G.length + n ≤ 1000 → K + 2 * n + 2 < k →
    (∀ G' a' k', grpP t n a G = some (G', a') → At a' → K ≤ k' → P (impl_reader_broker.l0 k' (wrap64 (x - 1)) t a' false (L ++ [⟨nm, b, H, G'⟩]))) →
    (grpP t n a G = none → ∀ L' R' a', P (some (L', R', t, a', true))) →
    P (impl_reader_broker.l2 k x (n : Int) t a false L nm b H G)
  | 0, a, G, k, ha, hn, hl, hk, g, bd => by
    obtain ⟨k, rfl⟩ : ∃ q, k = q + 2 := ⟨k - 2, by omega⟩
    rw [impl_reader_broker.l2, if_neg (by simp), impl_reader_broker.j5, if_neg (by decide), if_pos (by omega)]
    exact g G a k rfl ha (by omega)
  | n + 1, a, G, k, ha, hn, hl, hk, g, bd => by
    obtain ⟨k, rfl⟩ : ∃ q, k = q + 2 := ⟨k - 2, by omega⟩
    rw [impl_reader_broker.l2, if_pos (by omega), impl_reader_broker.j5, if_pos (by decide)]
    simp only [grpP] at g bd
    refine iWord ht ha (by omega) (fun h ha' => ?_) (fun h v a' ha' => ?_)
    · rw [if_neg (by rw [h]; decide)] at g bd
      try dsimp only
      refine iNum ht ha' (by omega) (fun h2 ha2 => ?_) (fun h2 v a2 ha2 => ?_)
      · rw [if_neg (by rw [h2]; decide)] at g bd
        try dsimp only
        rw [if_pos (by omega), wdown (by omega)]
        exact i_grp hL hK n _ _ k ha2 (by omega) (by simp; omega) (by omega) g bd
      · rw [if_pos h2] at bd
        try dsimp only
        rw [if_pos (by omega)]
        exact i_l2_end ht hL ha2 (by omega) (bd rfl)
    · rw [if_pos h] at bd
      try dsimp only
      refine iNumB ht ha' (by omega) (fun v2 a2 ha2 => ?_)
      try dsimp only
      rw [if_pos (by omega)]
      exact i_l2_end ht hL ha2 (by omega) (bd rfl)
theorem i_tops {K : Nat} (hK : 1000 ≤ K) : ∀ (n : Nat) (a : Int) (L : List TI) (k : Nat), At a → n ≤ 100 → L.length + n ≤ 1000 → K + 300 * n + 2 < k →
    (∀ L' a' k', topsP t n a L = some (L', a') → At a' → K ≤ k' → P (impl_reader_broker.j1 k' 0 false t a' false L')) →
    (topsP t n a L = none → ∀ L' R' a', P (some (L', R', t, a', true))) →
    P (impl_reader_broker.l0 k (n : Int) t a false L)
  | 0, a, L, k, ha, hn, hl, hk, g, bd => by
    obtain ⟨k, rfl⟩ := fl hk
    rw [impl_reader_broker.l0, if_neg (by simp)]
    exact g L a k rfl ha (by omega)
  | n + 1, a, L, k, ha, hn, hl, hk, g, bd => by
    obtain ⟨k, rfl⟩ : ∃ q, k = q + 2 := ⟨k - 2, by omega⟩
    rw [impl_reader_broker.l0, if_pos (by omega), impl_reader_broker.j1, if_pos (by decide)]
    simp only [topsP] at g bd
    unfold topicP at g bd
    have hL : L.length ≤ 1000 := by omega
    refine iWord ht ha (by omega) (fun h ha' => ?_) (fun h v a' ha' => ?_)
    · rw [if_neg (by rw [h]; decide)] at g bd
      try dsimp only
      refine iNum ht ha' (by omega) (fun h2 ha2 => ?_) (fun h2 v a2 ha2 => ?_)
      · rw [if_neg (by rw [h2]; decide)] at g bd
        try dsimp only
        refine iMany ht ha2 (by omega) (fun m a3 h3 ha3 hm => ?_) (fun h3 v a3 ha3 => ?_)
        · rw [h3, tbind] at g bd
          dsimp only at g bd ⊢
          refine i_held ht hL (K := K + 300 * n + 150) (by omega) (fun _ _ _ => .inr trivial) m a3 [] k ha3 (by omega) (by simp; omega) (by omega) (fun H' a4 k' h4 ha4 hk' => ?_) (fun h4 => ?_)
          · rw [h4, tbind] at g bd
            dsimp only at g bd
            obtain ⟨k', rfl⟩ := fl (k := k') (m := 0) (by omega)
            rw [impl_reader_broker.j3]
            refine iMany ht ha4 (by omega) (fun q a5 h5 ha5 hq => ?_) (fun h5 v a5 ha5 => ?_)
            · rw [h5, tbind] at g bd
              dsimp only at g bd ⊢
              refine i_grp ht hL (K := K + 300 * n + 100) (by omega) q a5 [] k' ha5 (by omega) (by simp; omega) (by omega) (fun G' a6 k6 h6 ha6 hk6 => ?_) (fun h6 => ?_)
              · rw [h6, tbind, tbind] at g bd
                dsimp only at g bd
                rw [wdown (by omega)]
                exact i_tops hK n _ _ k6 ha6 (by omega) (by simp; omega) (by omega) g bd
              · rw [h6] at bd
                exact bd rfl
            · rw [h5] at bd
              try dsimp only
              exact i_l2_end ht hL ha5 (by omega) (bd rfl)
          · rw [h4] at bd
            exact bd rfl
        · rw [h3] at bd
          try dsimp only
          exact i_l1_end ht hL ha3 (by omega) (bd rfl)
      · rw [if_pos h2] at bd
        try dsimp only
        refine iManyB ht ha2 (by omega) (fun v3 a3 ha3 => ?_)
        exact i_l1_end ht hL ha3 (by omega) (bd rfl)
    · rw [if_pos h] at bd
      try dsimp only
      refine iNumB ht ha' (by omega) (fun v2 a2 ha2 => ?_)
      try dsimp only
      refine iManyB ht ha2 (by omega) (fun v3 a3 ha3 => ?_)
      exact i_l1_end ht hL ha3 (by omega) (bd rfl)
theorem i_reps {L : List TI} : ∀ (n : Nat) (a : Int) (R : List RI) (k : Nat), At a → n ≤ 100 → R.length + n ≤ 1000 → 60 + 2 * n + 1 < k →
    (∀ R' a', repsP t n a R = some (R', a') → At a' → P (some (L, R', t, a', false))) →
    (repsP t n a R = none → ∀ R' a', P (some (L, R', t, a', true))) →
    P (impl_reader_broker.l3 k (n : Int) t a false L R)
  | 0, a, R, k, ha, hn, hl, hk, g, bd => by
    obtain ⟨k, rfl⟩ : ∃ q, k = q + 2 := ⟨k - 2, by omega⟩
    rw [impl_reader_broker.l3, if_neg (by simp), impl_reader_broker.j7, if_neg (by decide)]
    exact g R a rfl ha
  | n + 1, a, R, k, ha, hn, hl, hk, g, bd => by
    obtain ⟨k, rfl⟩ : ∃ q, k = q + 2 := ⟨k - 2, by omega⟩
    rw [impl_reader_broker.l3, if_pos (by omega), impl_reader_broker.j7, if_pos (by decide)]
    simp only [repsP] at g bd
    have ends : ∀ (v : Int) (a' : Int) (R' : List RI), impl_reader_broker.l3 k v t a' true L R' = some (L, R', t, a', true) := fun v a' R' => by
      obtain ⟨k, rfl⟩ : ∃ q, k = q + 2 := ⟨k - 2, by omega⟩
      exact i_l3_bad
    refine iNum ht ha (by omega) (fun h1 a1 => ?_) (fun h1 v1 e1 a1 => ?_)
    · rw [if_neg (by rw [h1]; decide)] at g bd
      try dsimp only
      refine iNum ht a1 (by omega) (fun h2 a2 => ?_) (fun h2 v2 e2 a2 => ?_)
      · rw [if_neg (by rw [h2]; decide)] at g bd
        try dsimp only
        refine iWord ht a2 (by omega) (fun h3 a3 => ?_) (fun h3 v3 e3 a3 => ?_)
        · rw [if_neg (by rw [h3]; decide)] at g bd
          try dsimp only
          rw [if_pos (by omega), wdown (by omega)]
          exact i_reps n _ _ k a3 (by omega) (by simp; omega) (by omega) g bd
        · rw [if_pos h3] at bd
          try dsimp only
          rw [if_pos (by omega), ends]
          exact bd rfl _ _
      · rw [if_pos h2] at bd
        try dsimp only
        refine iWordB ht a2 (by omega) (fun v3 e3 a3 => ?_)
        try dsimp only
        rw [if_pos (by omega), ends]
        exact bd rfl _ _
    · rw [if_pos h1] at bd
      try dsimp only
      refine iNumB ht a1 (by omega) (fun v2 e2 a2 => ?_)
      try dsimp only
      refine iWordB ht a2 (by omega) (fun v3 e3 a3 => ?_)
      try dsimp only
      rw [if_pos (by omega), ends]
      exact bd rfl _ _
theorem i_broker {k : Nat} (hk : 5000 ≤ k) (g : ∀ L R e, brokP t = some (L, R, e) → P (some (L, R, t, e, false))) (bd : brokP t = none → ∀ L' R' a', P (some (L', R', t, a', true))) : P (impl_reader_broker.f k t 0 false) := by
  unfold impl_reader_broker.f
  unfold brokP at g bd
  refine iMany ht (show At 0 from ⟨Int.le_refl _, by omega⟩) (by omega) (fun n a h ha hn => ?_) (fun h v a ha => ?_)
  · rw [h, tbind] at g bd
    dsimp only at g bd ⊢
    refine i_tops ht (K := 1000) (by omega) n a [] k ha (by omega) (by simp; omega) (by omega) (fun L a2 k2 h2 ha2 hk2 => ?_) (fun h2 => ?_)
    · rw [h2, tbind] at g bd
      dsimp only at g bd
      obtain ⟨k2, rfl⟩ := fl (k := k2) (m := 0) (by omega)
      rw [impl_reader_broker.j1, if_neg (by decide)]
      refine iMany ht ha2 (by omega) (fun m a3 h3 ha3 hm => ?_) (fun h3 v a3 ha3 => ?_)
      · rw [h3, tbind] at g bd
        dsimp only at g bd ⊢
        refine i_reps ht m a3 [] k2 ha3 (by omega) (by simp; omega) (by omega) (fun R a4 h4 ha4 => ?_) (fun h4 R a4 => ?_)
        · rw [h4, tbind] at g
          exact g _ _ _ rfl
        · rw [h4] at bd
          exact bd rfl _ _ _
      · rw [h3] at bd
        try dsimp only
        obtain ⟨k2, rfl⟩ : ∃ q, k2 = q + 2 := ⟨k2 - 2, by omega⟩
        rw [i_l3_bad]
        exact bd rfl _ _ _
    · rw [h2] at bd
      exact bd rfl
  · rw [h] at bd
    try dsimp only
    obtain ⟨k, rfl⟩ := fl (k := k) (m := 0) (by omega)
    rw [i_l0_bad]
    exact i_j1_bad ht ha (by omega) (bd rfl)
end
/-- What BrokerRead answers, by the program. -/
theorem impl_read {t : ByteArray} (ht : t.size ≤ 20000) {k : Nat} (hk : 60000 ≤ k) : impl_BrokerRead.f k t = some (ansB t) := by
  obtain ⟨q, rfl⟩ : ∃ q, k = q + 60000 := ⟨k - 60000, by omega⟩
  generalize hK : q + 60000 = k
  replace hK : 60000 ≤ k := by omega
  unfold impl_BrokerRead.f
  rw [if_neg (by omega)]
  unfold impl_brokerRead.f
  have key : ∃ o : IBR, impl_reader_broker.f k t 0 false = some o ∧ (∀ L R e, brokP t = some (L, R, e) → o = (L, R, t, e, false)) ∧ (brokP t = none → o.2.2.2.2 = true) :=
    i_broker (P := fun r => ∃ o : IBR, r = some o ∧ (∀ L R e, brokP t = some (L, R, e) → o = (L, R, t, e, false)) ∧ (brokP t = none → o.2.2.2.2 = true)) ht (by omega)
      (fun L R e hp => ⟨_, rfl, fun L' R' e' h => by
        rw [hp] at h
        injection h with h
        injection h with h1 h
        injection h with h2 h3
        rw [h1, h2, h3], fun h => by rw [hp] at h; cases h⟩)
      (fun hp L R a => ⟨_, rfl, fun L' R' e' h => (by rw [hp] at h; cases h), fun _ => rfl⟩)
  obtain ⟨o, ho, g, b⟩ := key
  rw [ho, tbind]
  cases hp : brokP t with
  | none =>
    rw [if_pos (b hp), tbind, ans_none hp, if_neg (by decide)]
    rfl
  | some y =>
    obtain ⟨L, R, e⟩ := y
    obtain ⟨p0, p1, p2, p3, p4, p5⟩ := brok_ok hp
    have hs := tmI_small p5
    rw [g L R e hp, ans_some hp]
    try dsimp only
    rw [if_neg (show ¬ (false = true) by decide)]
    by_cases he : e = (t.size : Int)
    · rw [if_pos he, impl_broker_eq (by omega) (by omega) (by omega) (by omega), tbind]
      by_cases hb : brokerB L R = true
      · rw [if_pos hb, tbind, if_pos rfl, if_pos ⟨hb, he⟩]
      · rw [if_neg hb, tbind, if_neg (by decide), if_neg (fun e0 => hb e0.1)]
        rfl
    · rw [if_neg he, tbind, if_neg (by decide), if_neg (fun e0 => he e0.2)]
      rfl
end Go.Proofs.Ytcaildjhnkedfaa.Q
