/- Loops that count up, as plain recursion: copies, walks that end with one answer, searches that stop at the first answer. No condition. -/
import Derived.Test.YtnjnjffjblgldaaQPlBase
namespace Go.Proofs.Ytnjnjffjblgldaa.Q
open Go.RowKit Go.Proofs.YtnjnjffjblgldaaW.PrintWords Go.Proofs.YtnjnjffjblgldaaW.PrintLast
set_option linter.unusedVariables false
set_option linter.unusedSimpArgs false

/-- A loop that goes on from every index below n, and answers r behind the last. -/
theorem upLoop {β : Type} {n m : Nat} {F : Nat → Int → Option β} {r : β} (hend : ∀ k, F (k + 1) (n : Int) = some r)
    (hstep : ∀ k (i : Nat), m ≤ k → i < n → F (k + 1) (i : Int) = F k ((i + 1 : Nat) : Int)) : ∀ d k i : Nat, i + d = n → d + m < k → F k (i : Int) = some r := by
  intro d
  induction d with
  | zero =>
    intro k i hi hk
    obtain ⟨k, rfl⟩ := k_succ hk
    obtain rfl : i = n := by omega
    exact hend k
  | succ d ih =>
    intro k i hi hk
    obtain ⟨k, rfl⟩ := k_succ hk
    rw [hstep k i (by omega) (by omega)]
    exact ih k (i + 1) (by omega) (by omega)

/-- The first answer from index i on (d indexes being left), or the last word. -/
def scanFrom {β : Type} (step : Nat → Option β) (fin : β) : Nat → Nat → β
  | 0, _ => fin
  | d + 1, i => match step i with | some r => r | none => scanFrom step fin d (i + 1)
theorem scanLoop {β : Type} {n m : Nat} {F : Nat → Int → Option β} {step : Nat → Option β} {fin : β} (hend : ∀ k, F (k + 1) (n : Int) = some fin)
    (hstep : ∀ k (i : Nat), m ≤ k → i < n → F (k + 1) (i : Int) = match step i with | some r => some r | none => F k ((i + 1 : Nat) : Int)) :
    ∀ d k i : Nat, i + d = n → d + m < k → F k (i : Int) = some (scanFrom step fin d i) := by
  intro d
  induction d with
  | zero =>
    intro k i hi hk
    obtain ⟨k, rfl⟩ := k_succ hk
    obtain rfl : i = n := by omega
    exact hend k
  | succ d ih =>
    intro k i hi hk
    obtain ⟨k, rfl⟩ := k_succ hk
    rw [hstep k i (by omega) (by omega)]
    unfold scanFrom
    cases step i with
    | some r => rfl
    | none => exact ih k (i + 1) (by omega) (by omega)
theorem scanFrom_congr {β : Type} {s t : Nat → Option β} {fin : β} : ∀ d i : Nat, (∀ j, i ≤ j → j < i + d → s j = t j) → scanFrom s fin d i = scanFrom t fin d i := by
  intro d
  induction d with
  | zero => intro i _; rfl
  | succ d ih =>
    intro i h
    unfold scanFrom
    rw [h i (by omega) (by omega)]
    cases t i with
    | some r => rfl
    | none => exact ih (i + 1) (fun j h1 h2 => h j (by omega) (by omega))

theorem set_take_map {α β : Type} (l : List α) (c : α → β) (z : α) (o : List β) (i : Nat) (hi : i < l.length) (ho : o.length = l.length) (h : o.take i = (l.take i).map c) :
    (o.set i (c (l.getD i z))).take (i + 1) = (l.take (i + 1)).map c := by
  rw [List.take_succ_eq_append_getElem (by simp; omega), List.take_succ_eq_append_getElem hi, List.take_set, List.set_eq_of_length_le (by simp; omega), h, List.map_append, List.getElem_set_self]
  simp only [List.map_cons, List.map_nil, List.getD_eq_getElem?_getD, List.getElem?_eq_getElem hi, Option.getD_some]
/-- A loop that writes the image of each element into a list of the same length. -/
theorem copyLoop {α β : Type} {l : List α} {c : α → β} (z : α) {m : Nat} {F : Nat → List β → Int → Option (List β)} (hend : ∀ k o, F (k + 1) o (l.length : Int) = some o)
    (hstep : ∀ k o (i : Nat), m ≤ k → i < l.length → o.length = l.length → F (k + 1) o (i : Int) = F k (o.set i (c (l.getD i z))) ((i + 1 : Nat) : Int)) :
    ∀ (d k i : Nat) (o : List β), i + d = l.length → d + m < k → o.length = l.length → o.take i = (l.take i).map c → F k o (i : Int) = some (l.map c) := by
  intro d
  induction d with
  | zero =>
    intro k i o hi hk ho ht
    obtain ⟨k, rfl⟩ := k_succ hk
    obtain rfl : i = l.length := by omega
    rw [hend]
    rw [List.take_of_length_le (by omega), List.take_of_length_le (by omega)] at ht
    rw [ht]
  | succ d ih =>
    intro k i o hi hk ho ht
    obtain ⟨k, rfl⟩ := k_succ hk
    rw [hstep k o i (by omega) (by omega) ho]
    exact ih k (i + 1) _ (by omega) (by omega) (by simpa using ho) (set_take_map l c z o i (by omega) ho ht)
theorem w_nat {i n : Nat} (h : i < n) (hn : n ≤ 9223372036854775807) : wrap64 ((i : Int) + 1) = ((i + 1 : Nat) : Int) := by unfold wrap64; omega
theorem mem_getD {α : Type} {l : List α} {i : Nat} (z : α) (h : i < l.length) : l.getD i z ∈ l := by
  rw [List.getD_eq_getElem?_getD, List.getElem?_eq_getElem h]; simp

/-- The greatest of some numbers of a list's elements. -/
def sup {α : Type} (f : α → Nat) : List α → Nat
  | [] => 0
  | x :: xs => max (f x) (sup f xs)
theorem le_sup {α : Type} (f : α → Nat) {l : List α} {x : α} (h : x ∈ l) : f x ≤ sup f l := by
  induction l with
  | nil => simp at h
  | cons y ys ih =>
    rcases List.mem_cons.1 h with rfl | h
    · exact Nat.le_max_left _ _
    · exact Nat.le_trans (ih h) (Nat.le_max_right _ _)
theorem sup_map {α β : Type} (f : β → Nat) (g : α → β) (l : List α) : sup f (l.map g) = sup (fun x => f (g x)) l := by
  induction l with
  | nil => rfl
  | cons x xs ih => simp [sup, ih]

end Go.Proofs.Ytnjnjffjblgldaa.Q
