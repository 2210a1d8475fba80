/- Printed by a program of this session (wip/mp.py over the kit's print.py): functions of the translation as plain Lean functions, and that the machine's calls do what these say. -/
import Derived.Test.YtokgloeondfkiaaQx0
import Derived.Test.YtokgloeondfkiaaQx7
import Derived.Test.YtokgloeondfkiaaQx8
namespace Go.Proofs.Ytokgloeondfkiaa.Q
open Go.RowKit Go.Proofs.Ytokgloeondfkiaa.HB Go.Proofs.YtokgloeondfkiaaW.PrintWords Go.Proofs.YtokgloeondfkiaaW.PrintLast Go.Proofs.YtokgloeondfkiaaW.PrintMore
attribute [local go_sem] max2_int min2_int max_two min_two max_three min_three max_four min_four   -- for this text's walks alone
set_option linter.unusedVariables false
set_option linter.unusedSimpArgs false

/-! ### impl_Broker_topic: function 21 (by hand) -/
def cmpB (a b : ByteArray) : Int := Lib.compareBytes a.data.toList b.data.toList
set_option maxRecDepth 100000 in
theorem cmpC (a b : ByteArray) (w : World) : Calls Try.prog 62 #[.string a, .string b] w fun e w' => e = .returned (.int .i64 (cmpB a b)) ∧ w' = w := by
  go_enter Try.func62, Try.ntmps62
  go_wp2
  rw [run_callFunc_extern Try.func67 (by kernel_rfl) (by kernel_rfl) (by kernel_rfl) (e := Extern.BytealgCompare.compare) (by kernel_rfl), Lib.run_compareString]
  simp only [Result.andThen]
  rw [Oper.upon_value]
  go_wp2
  go_ret
  exact ⟨rfl, rfl⟩
set_option maxRecDepth 100000 in
theorem cmpS (a b : ByteArray) (w : World) : Calls Try.prog 43 #[.string a, .string b] w fun e w' => e = .returned (.int .i64 (cmpB a b)) ∧ w' = w := by
  go_enter Try.func43, Try.ntmps43
  go_wp2_with (first | (go_at_call 62; (with_reducible refine (cmpC a b _).mono ?_); rintro e w' ⟨rfl, rfl⟩))
  go_ret
  exact ⟨rfl, rfl⟩
set_option maxRecDepth 100000 in
theorem cmpT (a b : ByteArray) (n : Int) (v2 v3 : Value) (w : World) : Calls Try.prog 42 #[.agg #[.string a, .int .i64 n, v2, v3], .string b] w fun e w' => e = .returned (.int .i64 (cmpB a b)) ∧ Below w.heap.size w w' := by
  go_enter Try.func42, Try.ntmps42
  go_wp2_with (first | (go_at_call 43; (with_reducible refine (cmpS a b _).mono ?_); rintro e w' ⟨rfl, rfl⟩))
  go_ret
  exact ⟨rfl, below_alloc (Below.refl _ _) _⟩
/-- The search among sorted topics, round by round. -/
def bsU (l : List S30) (x : ByteArray) : Nat → Nat → Nat → Nat
  | 0, lo, _ => lo
  | k + 1, lo, hi => if lo < hi then (if cmpB (rd_T30 l (((lo + hi) / 2 : Nat) : Int)).f0 x < 0 then bsU l x k ((lo + hi) / 2 + 1) hi else bsU l x k lo ((lo + hi) / 2)) else lo
def bsT (l : List S30) (x : ByteArray) : Nat := bsU l x l.length 0 l.length
def bsTF (l : List S30) (x : ByteArray) : Bool := decide (bsT l x < l.length) && (cmpB (rd_T30 l (bsT l x)).f0 x == 0)
theorem bsU_step {l : List S30} {x : ByteArray} {k lo hi : Nat} (h : lo < hi) : bsU l x (k + 1) lo hi = if cmpB (rd_T30 l (((lo + hi) / 2 : Nat) : Int)).f0 x < 0 then bsU l x k ((lo + hi) / 2 + 1) hi else bsU l x k lo ((lo + hi) / 2) := by
  rw [bsU, if_pos h]
theorem bsU_end {l : List S30} {x : ByteArray} {k lo hi : Nat} (h : ¬ lo < hi) : bsU l x k lo hi = lo := by
  cases k with
  | zero => rfl
  | succ k => rw [bsU, if_neg h]
set_option maxHeartbeats 4000000 in
set_option maxRecDepth 100000 in
theorem bsTs (A : Option Addr) (c : Nat) (l : List S30) (x : ByteArray) (w : World) (hr : Kd.C k30 w A l.length l) (hl : l.length ≤ 1000) :
    Calls Try.prog 41 #[.slice A l.length c, .string x, .func (.func 42) #[] #[]] w fun e w' => e = .returned (.tuple #[.int .i64 (bsT l x), .bool (bsTF l x)]) ∧ Below w.heap.size w w' := by
  have HR := Aside0.mk hr
  have HL := Aside0.mk hl
  clear hr hl
  go_enter Try.func41, Try.ntmps41
  go_wp2
  go_loopg [9, 10] l.length (fun kq v9 v10 w' => ∃ lo hi : Nat, v9 = .int .i64 lo ∧ v10 = .int .i64 hi ∧ Aside0 (lo ≤ hi ∧ hi ≤ l.length ∧ hi - lo ≤ kq ∧ bsT l x = bsU l x kq lo hi) ∧ Aside0 (Below w.heap.size w w'))
  case atStart => exact ⟨0, l.length, rfl, rfl, ⟨by omega, by omega, by omega, rfl⟩, ⟨Below.refl _ _⟩⟩
  case round =>
    obtain ⟨lo, hi, rfl, rfl, HK, HB⟩ := hrel
    by_cases hlt : lo < hi
    · obtain ⟨md, hmd⟩ : ∃ md, md = (lo + hi) / 2 := ⟨_, rfl⟩
      have hm : md < l.length := by have := HK.out; have := HL.out; omega
      cases gk with
      | zero => exact absurd HK.out (by omega)
      | succ gk =>
      have HKK : Aside0 (lo ≤ md ∧ md < hi ∧ hi ≤ l.length ∧ hi - lo ≤ gk + 1 ∧ bsT l x = if cmpB (rd_T30 l md).f0 x < 0 then bsU l x gk (md + 1) hi else bsU l x gk lo md) := ⟨by
        have h := HK.out; rw [bsU_step hlt, ← hmd] at h; exact ⟨by omega, by omega, h.2.1, h.2.2.1, h.2.2.2⟩⟩
      have hsum : (wrap64 ((lo : Int) + (hi : Int))) = ((lo + hi : Nat) : Int) := by have := HK.out; have := HL.out; unfold wrap64; omega
      obtain ⟨ad, A2, c2_, A3, c3_, e, hx0, hx1, hx2, hx3, u1_, u2_, u3_, u4_⟩ := at_T30 HR.out md (by omega) (by omega)
      clear u1_ u2_ u3_ u4_
      obtain ⟨n2_, e2_⟩ : ∃ n_, n_ = (rd_T30 l (md : Int)).f2.length := ⟨_, rfl⟩
      obtain ⟨n3_, e3_⟩ : ∃ n_, n_ = (rd_T30 l (md : Int)).f3.length := ⟨_, rfl⟩
      obtain ⟨b1_, e1_⟩ : ∃ n_, n_ = (rd_T30 l (md : Int)).f1 := ⟨_, rfl⟩
      rw [← e1_] at hx1
      rw [← e2_] at hx2
      rw [← e3_] at hx3
      clear e1_ e2_ e3_
      cases e
      rw [Int.toNat_natCast] at hx0 hx1 hx2 hx3
      replace hx0 := pw_cell_below HB.out hx0
      replace hx1 := pw_cell_below HB.out hx1
      replace hx2 := pw_cell_below HB.out hx2
      replace hx3 := pw_cell_below HB.out hx3
      have c1 : decide ((lo : Int) < (hi : Int)) = true := decide_eq_true (by omega)
      have c1n : decide (lo < hi) = true := decide_eq_true hlt
      have c3n : md < l.length := hm
      have c2 : (0 : Int) ≤ (md : Int) := by omega
      have c3 : (md : Int) < (l.length : Int) := by omega
      have hs0 : wrap64 ((lo : Int) + (hi : Int)) = (lo : Int) + (hi : Int) := by rw [hsum]; omega
      have hs1 : IntKind.u64.wrap ((lo : Int) + (hi : Int)) = (lo : Int) + (hi : Int) := by rw [IntKind.wrap_u64]; have := HK.out; have := HL.out; omega
      have hs2 : ((lo : Int) + (hi : Int)) / 2 = (md : Int) := by omega
      have hs3 : wrap64 (md : Int) = (md : Int) := by have := HL.out; unfold wrap64; omega
      clear hlt hm hsum hmd
      by_cases hc : cmpB (rd_T30 l md).f0 x < 0
      · have c4 : decide (cmpB (rd_T30 l md).f0 x < 0) = true := decide_eq_true hc
        have hs4 : wrap64 ((md : Int) + 1) = (md : Int) + 1 := by have := HL.out; unfold wrap64; omega
        go_wp2_with (first | (go_at_call 42; (with_reducible refine (cmpT _ _ _ _ _ _).mono ?_); rintro e w1 ⟨rfl, hb⟩; replace HB := Aside0.mk (below_step HB.out hb); clear hb))
        go_roundg gk
        case measure => omega
        case rel => exact ⟨md + 1, hi, by rw [hs4]; rfl, rfl, ⟨by have := HKK.out; omega, by have := HKK.out; omega, by have := HKK.out; omega, by rw [HKK.out.2.2.2.2, if_pos hc]⟩, HB⟩
      · have c4 : decide (cmpB (rd_T30 l md).f0 x < 0) = false := decide_eq_false hc
        go_wp2_with (first | (go_at_call 42; (with_reducible refine (cmpT _ _ _ _ _ _).mono ?_); rintro e w1 ⟨rfl, hb⟩; replace HB := Aside0.mk (below_step HB.out hb); clear hb))
        go_roundg gk
        case measure => omega
        case rel => exact ⟨lo, md, rfl, rfl, ⟨by have := HKK.out; omega, by have := HKK.out; omega, by have := HKK.out; omega, by rw [HKK.out.2.2.2.2, if_neg (by omega)]⟩, HB⟩
    · have hE : Aside0 (bsT l x = lo) := ⟨by rw [HK.out.2.2.2, bsU_end hlt]⟩
      have c1 : decide ((lo : Int) < (hi : Int)) = false := decide_eq_false (by omega)
      have c1n : decide (lo < hi) = false := decide_eq_false hlt
      by_cases hn : lo < l.length
      · obtain ⟨ad, A2, c2_, A3, c3_, e, hx0, hx1, hx2, hx3, u1_, u2_, u3_, u4_⟩ := at_T30 HR.out lo (by omega) (by omega)
        clear u1_ u2_ u3_ u4_
        obtain ⟨n2_, e2_⟩ : ∃ n_, n_ = (rd_T30 l (lo : Int)).f2.length := ⟨_, rfl⟩
        obtain ⟨n3_, e3_⟩ : ∃ n_, n_ = (rd_T30 l (lo : Int)).f3.length := ⟨_, rfl⟩
        obtain ⟨b1_, e1_⟩ : ∃ n_, n_ = (rd_T30 l (lo : Int)).f1 := ⟨_, rfl⟩
        rw [← e1_] at hx1
        rw [← e2_] at hx2
        rw [← e3_] at hx3
        clear e1_ e2_ e3_
        cases e
        rw [Int.toNat_natCast] at hx0 hx1 hx2 hx3
        replace hx0 := pw_cell_below HB.out hx0
        replace hx1 := pw_cell_below HB.out hx1
        replace hx2 := pw_cell_below HB.out hx2
        replace hx3 := pw_cell_below HB.out hx3
        have c2 : (0 : Int) ≤ (lo : Int) := by omega
        have c3 : (lo : Int) < (l.length : Int) := by omega
        have c5 : decide ((lo : Int) < (l.length : Int)) = true := decide_eq_true (by omega)
        have c5n : decide (lo < l.length) = true := decide_eq_true hn
        have c3n : lo < l.length := hn
        clear hlt hn
        go_wp2_with (first | (go_at_call 42; (with_reducible refine (cmpT _ _ _ _ _ _).mono ?_); rintro e w1 ⟨rfl, hb⟩; replace HB := Aside0.mk (below_step HB.out hb); clear hb))
        go_ret2
        refine ⟨?_, HB.out⟩
        simp [bsTF, hE.out, c5n]
      · have c5 : decide ((lo : Int) < (l.length : Int)) = false := decide_eq_false (by omega)
        have c5n : decide (lo < l.length) = false := decide_eq_false hn
        clear hlt hn
        go_wp2
        go_ret2
        refine ⟨?_, HB.out⟩
        simp [bsTF, hE.out, c5n]
theorem bsU_le (l : List S30) (x : ByteArray) : ∀ k lo hi : Nat, lo ≤ hi → lo ≤ bsU l x k lo hi ∧ bsU l x k lo hi ≤ hi
  | 0, lo, hi, h => ⟨Nat.le_refl _, h⟩
  | k + 1, lo, hi, h => by
    rw [bsU]
    split
    · split
      · have := bsU_le l x k ((lo + hi) / 2 + 1) hi (by omega); omega
      · have := bsU_le l x k lo ((lo + hi) / 2) (by omega); omega
    · exact ⟨Nat.le_refl _, h⟩
theorem bsT_le (l : List S30) (x : ByteArray) : bsT l x ≤ l.length := (bsU_le l x _ 0 _ (Nat.zero_le _)).2
theorem bsTF_lt {l : List S30} {x : ByteArray} (h : bsTF l x = true) : bsT l x < l.length := by
  unfold bsTF at h
  simp only [Bool.and_eq_true, decide_eq_true_eq] at h
  exact h.1
set_option maxHeartbeats 4000000 in
set_option maxRecDepth 100000 in
theorem impl_Broker_topic.calls (g : Nat) (A : Option Addr) (c : Nat) (v1 : Value) (l : List S30) (x : ByteArray) (w : World) (hG : w.heap[g]? = some (.cells #[.slice A l.length c, v1] 35 (0, 0))) (hr : Kd.C k30 w A l.length l) (hl : l.length ≤ 1000) :
    Calls Try.prog 21 #[.pointer (some ⟨g, 0, none⟩), .string x] w fun e w' => e = .returned (.tuple #[.int .i64 (bsT l x), .bool (bsTF l x)]) ∧ Below w.heap.size w w' := by
  have hu := Try.underlying35
  have BK := Aside0.mk hG
  have HR := Aside0.mk hr
  have HL := Aside0.mk hl
  have hz0 := (blk_cell hG 0).trans rfl
  clear hG hr hl
  go_enter Try.func21, Try.ntmps21
  go_wp2_with (first | (go_at_call 41; (with_reducible refine (bsTs A c l x _ HR.out HL.out).mono ?_); rintro e w1 ⟨rfl, hb⟩; have HX := Aside0.mk hb; clear hb))
  go_ret2
  exact ⟨rfl, HX.out⟩


/-! ### impl_BrokerTopic: function 7 (by hand) -/
theorem zput {w : World} {g t : Nat} (h : w.heap[g]? = some (.cells #[.string (⟨#[]⟩ : ByteArray), .int .i64 0, .slice none 0 0, .slice none 0 0] t (0, 0))) :
    ((((w.setCell ⟨g, 0, none⟩ (.string (⟨#[]⟩ : ByteArray))).setCell ⟨g, 1, none⟩ (.int .i64 0)).setCell ⟨g, 2, none⟩ (.slice none 0 0)).setCell ⟨g, 3, none⟩ (.slice none 0 0)).heap[g]? = some (.cells #[.string (⟨#[]⟩ : ByteArray), .int .i64 0, .slice none 0 0, .slice none 0 0] t (0, 0)) :=
  blk_put (blk_put (blk_put (blk_put h 0 _ rfl) 1 _ rfl) 2 _ rfl) 3 _ rfl
def impl_BrokerTopic.f (k : Nat) (l0 : List S30) (l1 : List S67) (x : ByteArray) : Option (ByteArray × Int × List ByteArray × List S78) :=
  if x.size ≤ 20000 then (impl_isBroker.f k l0 l1).bind fun b => if b = true then (if l0.length ≤ 1000 then (if bsTF l0 x = true then impl_cloneTopic.f (rd_T30 l0 (bsT l0 x)).f0 (rd_T30 l0 (bsT l0 x)).f1 (rd_T30 l0 (bsT l0 x)).f2 (rd_T30 l0 (bsT l0 x)).f3 else some (⟨#[]⟩, 0, [], [])) else none) else some (⟨#[]⟩, 0, [], []) else some (⟨#[]⟩, 0, [], [])
theorem impl_BrokerTopic.mono : ∀ a0 a1 a2 k, LeO (impl_BrokerTopic.f k a0 a1 a2) (impl_BrokerTopic.f (k + 1) a0 a1 a2) := by
  intro a0 a1 a2 k
  unfold impl_BrokerTopic.f
  exact LeO.ite (LeO.bind (impl_isBroker.mono _ _ _) (fun _ => LeO.refl _)) (LeO.refl _)
set_option maxHeartbeats 4000000 in
set_option maxRecDepth 100000 in
theorem impl_BrokerTopic.calls (k : Nat) (A0 : Option Addr) (c0 : Nat) (l0 : List S30) (A1 : Option Addr) (c1 : Nat) (l1 : List S67) (x : ByteArray) (r1 : ByteArray) (r2 : Int) (r3 : List ByteArray) (r4 : List S78) (w : World) (hr0 : Kd.C k30 w A0 l0.length l0) (hc0 : l0.length ≤ c0) (hr1 : Kd.C k67 w A1 l1.length l1) (hc1 : l1.length ≤ c1) (h : impl_BrokerTopic.f k l0 l1 x = some (r1, r2, r3, r4)) :
    Calls Try.prog 7 #[.agg #[.slice A0 l0.length c0, .slice A1 l1.length c1], .string x] w fun e w' => ∃ v2_ v3_ : Value, e = .returned (.agg #[.string r1, .int .i64 r2, v2_, v3_]) ∧ Kd.R Kd.string 9 w' w.heap.size (fun _ => True) v2_ r3 ∧ Kd.R k78 78 w' w.heap.size (fun _ => True) v3_ r4 ∧ Below w.heap.size w w' := by
  have hu1 := Try.underlying35
  have hu2 := Try.underlying30
  have HR0 := Aside0.mk hr0
  have HC0 := Aside0.mk hc0
  have HR1 := Aside0.mk hr1
  have HC1 := Aside0.mk hc1
  have HB0 := Aside0.mk (Below.refl w.heap.size w)
  unfold impl_BrokerTopic.f at h
  clear hr0 hc0 hr1 hc1
  by_cases hx : x.size ≤ 20000
  rotate_left
  · rw [if_neg hx] at h
    have d0 : decide (20000 < (x.size : Int)) = true := decide_eq_true (by omega)
    have HE := Aside0.mk (show (⟨#[]⟩ : ByteArray) = r1 ∧ (0 : Int) = r2 ∧ ([] : List ByteArray) = r3 ∧ ([] : List S78) = r4 from by simpa using h)
    clear h hx
    go_enter Try.func7, Try.ntmps7
    go_wp2_with (first | ((with_reducible refine gate_dst (N := 2) rfl ?_); refine box_event (by rfl) (N := 2) (by rfl) (cs := #[.slice A0 l0.length c0, .slice A1 l1.length c1]) (t := 35) (by first | (go_simp; done) | (go_simp; rfl)) ?_; intro g2 hg w2 hbox hb; have GE2 := Aside0.mk ((by rw [hg]; exact HB0.out.size) : w.heap.size ≤ g2); have HB1 := Aside0.mk (below_step HB0.out hb); have B2 := Aside0.mk hbox; clear hbox hg hb HB0) | ((with_reducible refine gate_dst (N := 4) rfl ?_); refine box_event (by rfl) (N := 4) (by rfl) (cs := #[.string (⟨#[]⟩ : ByteArray), .int .i64 0, .slice none 0 0, .slice none 0 0]) (t := 30) (by first | (go_simp; done) | (go_simp; rfl)) ?_; intro g4 hg w4 hbox hb; have NB := Aside0.mk ((by rw [hg]; exact Nat.ne_of_lt (blk_lt B2.out)) : g2 ≠ g4); have GE4 := Aside0.mk ((by rw [hg]; exact HB1.out.size) : w.heap.size ≤ g4); have HB := Aside0.mk (below_step HB1.out hb); have BK2 := Aside0.mk (blk_below B2.out hb); have BK4 := Aside0.mk hbox; have hz2_0 := (blk_cell BK2.out 0).trans rfl; have hz2_1 := (blk_cell BK2.out 1).trans rfl; have hz4_0 := (blk_cell hbox 0).trans rfl; have hz4_1 := (blk_cell hbox 1).trans rfl; have hz4_2 := (blk_cell hbox 2).trans rfl; have hz4_3 := (blk_cell hbox 3).trans rfl; have hf4_0 := blk_frozen hbox 0; have hf4_1 := blk_frozen hbox 1; have hf4_2 := blk_frozen hbox 2; have hf4_3 := blk_frozen hbox 3; clear hbox hg hb HB1 B2))
    refine bodyPost_ret (results_cell_row rfl _ _ g4 30 #[.string (⟨#[]⟩ : ByteArray), .int .i64 0, .slice none 0 0, .slice none 0 0] (0, 0) _ rfl (by (with_reducible repeat (first | refine blk_drewN ?_ _ | refine blk_drew ?_ | refine blk_alloc ?_ _)); exact zput BK4.out) Try.underlying30 rfl (by kernel_rfl)) rfl ?_
    obtain ⟨rfl, rfl, rfl, rfl⟩ := HE.out
    exact ⟨_, _, rfl, Kd.R_nil _ _ _ _ _, Kd.R_nil _ _ _ _ _, (by repeat (first | (with_reducible first | exact HB.out | apply below_alloc | apply pw_below_drewN | apply below_drew1 | refine below_set ?_ GE4.out) | exact HB.out))⟩
  rw [if_pos hx] at h
  have d0 : decide (20000 < (x.size : Int)) = false := decide_eq_false (by omega)
  obtain ⟨b, hb0, h⟩ := Option.bind_eq_some_iff.mp h
  have HIB := Aside0.mk hb0
  clear hb0 hx
  cases b with
  | false =>
    rw [if_neg (by decide)] at h
    have HE := Aside0.mk (show (⟨#[]⟩ : ByteArray) = r1 ∧ (0 : Int) = r2 ∧ ([] : List ByteArray) = r3 ∧ ([] : List S78) = r4 from by simpa using h)
    clear h
    go_enter Try.func7, Try.ntmps7
    go_wp2_with (first | ((with_reducible refine gate_dst (N := 2) rfl ?_); refine box_event (by rfl) (N := 2) (by rfl) (cs := #[.slice A0 l0.length c0, .slice A1 l1.length c1]) (t := 35) (by first | (go_simp; done) | (go_simp; rfl)) ?_; intro g2 hg w2 hbox hb; have GE2 := Aside0.mk ((by rw [hg]; exact HB0.out.size) : w.heap.size ≤ g2); have HB1 := Aside0.mk (below_step HB0.out hb); have B2 := Aside0.mk hbox; clear hbox hg hb HB0) | ((with_reducible refine gate_dst (N := 4) rfl ?_); refine box_event (by rfl) (N := 4) (by rfl) (cs := #[.string (⟨#[]⟩ : ByteArray), .int .i64 0, .slice none 0 0, .slice none 0 0]) (t := 30) (by first | (go_simp; done) | (go_simp; rfl)) ?_; intro g4 hg w4 hbox hb; have NB := Aside0.mk ((by rw [hg]; exact Nat.ne_of_lt (blk_lt B2.out)) : g2 ≠ g4); have GE4 := Aside0.mk ((by rw [hg]; exact HB1.out.size) : w.heap.size ≤ g4); have HB := Aside0.mk (below_step HB1.out hb); have BK2 := Aside0.mk (blk_below B2.out hb); have BK4 := Aside0.mk hbox; have hz2_0 := (blk_cell BK2.out 0).trans rfl; have hz2_1 := (blk_cell BK2.out 1).trans rfl; have hz4_0 := (blk_cell hbox 0).trans rfl; have hz4_1 := (blk_cell hbox 1).trans rfl; have hz4_2 := (blk_cell hbox 2).trans rfl; have hz4_3 := (blk_cell hbox 3).trans rfl; have hf4_0 := blk_frozen hbox 0; have hf4_1 := blk_frozen hbox 1; have hf4_2 := blk_frozen hbox 2; have hf4_3 := blk_frozen hbox 3; clear hbox hg hb HB1 B2) | (go_at_call 20; (with_reducible refine (impl_isBroker.calls k A0 c0 l0 A1 c1 l1 false _ (Kd.C_below HR0.out HB.out) HC0.out (Kd.C_below HR1.out HB.out) HC1.out HIB.out).mono ?_); rintro e w5 ⟨rfl, hb⟩; have n1_ := Aside0.mk (blk_below BK2.out hb); have n2_ := Aside0.mk (blk_below BK4.out hb); have n3_ := Aside0.mk (below_step HB.out hb); clear BK2 BK4 HB hz2_0 hz2_1 hz4_0 hz4_1 hz4_2 hz4_3 hf4_0 hf4_1 hf4_2 hf4_3; have BK2 := n1_; have BK4 := n2_; have HB := n3_; clear n1_ n2_ n3_ hb; have hz2_0 := (blk_cell BK2.out 0).trans rfl; have hz2_1 := (blk_cell BK2.out 1).trans rfl; have hz4_0 := (blk_cell BK4.out 0).trans rfl; have hz4_1 := (blk_cell BK4.out 1).trans rfl; have hz4_2 := (blk_cell BK4.out 2).trans rfl; have hz4_3 := (blk_cell BK4.out 3).trans rfl; have hf4_0 := blk_frozen BK4.out 0; have hf4_1 := blk_frozen BK4.out 1; have hf4_2 := blk_frozen BK4.out 2; have hf4_3 := blk_frozen BK4.out 3))
    refine bodyPost_ret (results_cell_row rfl _ _ g4 30 #[.string (⟨#[]⟩ : ByteArray), .int .i64 0, .slice none 0 0, .slice none 0 0] (0, 0) _ rfl (by (with_reducible repeat (first | refine blk_drewN ?_ _ | refine blk_drew ?_ | refine blk_alloc ?_ _)); exact zput BK4.out) Try.underlying30 rfl (by kernel_rfl)) rfl ?_
    obtain ⟨rfl, rfl, rfl, rfl⟩ := HE.out
    exact ⟨_, _, rfl, Kd.R_nil _ _ _ _ _, Kd.R_nil _ _ _ _ _, (by repeat (first | (with_reducible first | exact HB.out | apply below_alloc | apply pw_below_drewN | apply below_drew1 | refine below_set ?_ GE4.out) | exact HB.out))⟩
  | true =>
    rw [if_pos rfl] at h
    by_cases hl : l0.length ≤ 1000
    rotate_left
    · rw [if_neg hl] at h; cases h
    rw [if_pos hl] at h
    have HL := Aside0.mk hl
    clear hl
    obtain ⟨f, hf⟩ : ∃ f, f = bsTF l0 x := ⟨_, rfl⟩
    rw [← hf] at h
    have HF := Aside0.mk hf
    clear hf
    cases f with
    | false =>
      rw [if_neg (by decide)] at h
      have HE := Aside0.mk (show (⟨#[]⟩ : ByteArray) = r1 ∧ (0 : Int) = r2 ∧ ([] : List ByteArray) = r3 ∧ ([] : List S78) = r4 from by simpa using h)
      clear h
      go_enter Try.func7, Try.ntmps7
      go_wp2_with (first | ((with_reducible refine gate_dst (N := 2) rfl ?_); refine box_event (by rfl) (N := 2) (by rfl) (cs := #[.slice A0 l0.length c0, .slice A1 l1.length c1]) (t := 35) (by first | (go_simp; done) | (go_simp; rfl)) ?_; intro g2 hg w2 hbox hb; have GE2 := Aside0.mk ((by rw [hg]; exact HB0.out.size) : w.heap.size ≤ g2); have HB1 := Aside0.mk (below_step HB0.out hb); have B2 := Aside0.mk hbox; clear hbox hg hb HB0) | ((with_reducible refine gate_dst (N := 4) rfl ?_); refine box_event (by rfl) (N := 4) (by rfl) (cs := #[.string (⟨#[]⟩ : ByteArray), .int .i64 0, .slice none 0 0, .slice none 0 0]) (t := 30) (by first | (go_simp; done) | (go_simp; rfl)) ?_; intro g4 hg w4 hbox hb; have NB := Aside0.mk ((by rw [hg]; exact Nat.ne_of_lt (blk_lt B2.out)) : g2 ≠ g4); have GE4 := Aside0.mk ((by rw [hg]; exact HB1.out.size) : w.heap.size ≤ g4); have HB := Aside0.mk (below_step HB1.out hb); have BK2 := Aside0.mk (blk_below B2.out hb); have BK4 := Aside0.mk hbox; have hz2_0 := (blk_cell BK2.out 0).trans rfl; have hz2_1 := (blk_cell BK2.out 1).trans rfl; have hz4_0 := (blk_cell hbox 0).trans rfl; have hz4_1 := (blk_cell hbox 1).trans rfl; have hz4_2 := (blk_cell hbox 2).trans rfl; have hz4_3 := (blk_cell hbox 3).trans rfl; have hf4_0 := blk_frozen hbox 0; have hf4_1 := blk_frozen hbox 1; have hf4_2 := blk_frozen hbox 2; have hf4_3 := blk_frozen hbox 3; clear hbox hg hb HB1 B2) | (go_at_call 20; (with_reducible refine (impl_isBroker.calls k A0 c0 l0 A1 c1 l1 true _ (Kd.C_below HR0.out HB.out) HC0.out (Kd.C_below HR1.out HB.out) HC1.out HIB.out).mono ?_); rintro e w5 ⟨rfl, hb⟩; have n1_ := Aside0.mk (blk_below BK2.out hb); have n2_ := Aside0.mk (blk_below BK4.out hb); have n3_ := Aside0.mk (below_step HB.out hb); clear BK2 BK4 HB hz2_0 hz2_1 hz4_0 hz4_1 hz4_2 hz4_3 hf4_0 hf4_1 hf4_2 hf4_3; have BK2 := n1_; have BK4 := n2_; have HB := n3_; clear n1_ n2_ n3_ hb; have hz2_0 := (blk_cell BK2.out 0).trans rfl; have hz2_1 := (blk_cell BK2.out 1).trans rfl; have hz4_0 := (blk_cell BK4.out 0).trans rfl; have hz4_1 := (blk_cell BK4.out 1).trans rfl; have hz4_2 := (blk_cell BK4.out 2).trans rfl; have hz4_3 := (blk_cell BK4.out 3).trans rfl; have hf4_0 := blk_frozen BK4.out 0; have hf4_1 := blk_frozen BK4.out 1; have hf4_2 := blk_frozen BK4.out 2; have hf4_3 := blk_frozen BK4.out 3) | (go_at_call 21; (with_reducible refine (impl_Broker_topic.calls g2 A0 c0 _ l0 x _ BK2.out (Kd.C_below HR0.out HB.out) HL.out).mono ?_); rintro e w6 ⟨rfl, hb⟩; rw [← HF.out]; have n1_ := Aside0.mk (blk_below BK2.out hb); have n2_ := Aside0.mk (blk_below BK4.out hb); have n3_ := Aside0.mk (below_step HB.out hb); clear BK2 BK4 HB hz2_0 hz2_1 hz4_0 hz4_1 hz4_2 hz4_3 hf4_0 hf4_1 hf4_2 hf4_3; have BK2 := n1_; have BK4 := n2_; have HB := n3_; clear n1_ n2_ n3_ hb; have hz2_0 := (blk_cell BK2.out 0).trans rfl; have hz2_1 := (blk_cell BK2.out 1).trans rfl; have hz4_0 := (blk_cell BK4.out 0).trans rfl; have hz4_1 := (blk_cell BK4.out 1).trans rfl; have hz4_2 := (blk_cell BK4.out 2).trans rfl; have hz4_3 := (blk_cell BK4.out 3).trans rfl; have hf4_0 := blk_frozen BK4.out 0; have hf4_1 := blk_frozen BK4.out 1; have hf4_2 := blk_frozen BK4.out 2; have hf4_3 := blk_frozen BK4.out 3))
      refine bodyPost_ret (results_cell_row rfl _ _ g4 30 #[.string (⟨#[]⟩ : ByteArray), .int .i64 0, .slice none 0 0, .slice none 0 0] (0, 0) _ rfl (by (with_reducible repeat (first | refine blk_drewN ?_ _ | refine blk_drew ?_ | refine blk_alloc ?_ _)); exact zput BK4.out) Try.underlying30 rfl (by kernel_rfl)) rfl ?_
      obtain ⟨rfl, rfl, rfl, rfl⟩ := HE.out
      exact ⟨_, _, rfl, Kd.R_nil _ _ _ _ _, Kd.R_nil _ _ _ _ _, (by repeat (first | (with_reducible first | exact HB.out | apply below_alloc | apply pw_below_drewN | apply below_drew1 | refine below_set ?_ GE4.out) | exact HB.out))⟩
    | true =>
      rw [if_pos rfl] at h
      have HT := Aside0.mk (bsTF_lt HF.out.symm)
      obtain ⟨i, hi⟩ : ∃ i, i = bsT l0 x := ⟨_, rfl⟩
      rw [← hi] at h HT
      have HI := Aside0.mk hi
      have HC := Aside0.mk h
      have p0 : (0 : Int) ≤ (i : Int) := by omega
      have p1 : (i : Int) < (l0.length : Int) := by have := HT.out; omega
      have p2 : i < l0.length := HT.out
      obtain ⟨ad, A2, c2, A3, c3, e, hx0, hx1, hx2, hx3, hl2, hi2, hl3, hi3⟩ := at_T30 HR0.out (i : Int) p0 p1
      cases e
      simp only [Int.toNat_natCast] at hx0 hx1 hx2 hx3
      obtain ⟨⟨t0, t1, t2, t3⟩, ht⟩ : ∃ t, t = rd_T30 l0 (i : Int) := ⟨_, rfl⟩
      rw [← ht] at hx0 hx1 hx2 hx3 hl2 hi2 hl3 hi3 h
      have HC := Aside0.mk h
      have HX0 := Aside0.mk hx0
      have HX1 := Aside0.mk hx1
      have HX2 := Aside0.mk hx2
      have HX3 := Aside0.mk hx3
      have HL2 := Aside0.mk hl2
      have HI2 := Aside0.mk hi2
      have HL3 := Aside0.mk hl3
      have HI3 := Aside0.mk hi3
      clear h hi ht hl2 hi2 hl3 hi3 hx0 hx1 hx2 hx3
      go_enter Try.func7, Try.ntmps7
      go_wp2_with (first | ((with_reducible refine gate_dst (N := 2) rfl ?_); refine box_event (by rfl) (N := 2) (by rfl) (cs := #[.slice (some ad) l0.length c0, .slice A1 l1.length c1]) (t := 35) (by first | (go_simp; done) | (go_simp; rfl)) ?_; intro g2 hg w2 hbox hb; have GE2 := Aside0.mk ((by rw [hg]; exact HB0.out.size) : w.heap.size ≤ g2); have HB1 := Aside0.mk (below_step HB0.out hb); have B2 := Aside0.mk hbox; clear hbox hg hb HB0) | ((with_reducible refine gate_dst (N := 4) rfl ?_); refine box_event (by rfl) (N := 4) (by rfl) (cs := #[.string (⟨#[]⟩ : ByteArray), .int .i64 0, .slice none 0 0, .slice none 0 0]) (t := 30) (by first | (go_simp; done) | (go_simp; rfl)) ?_; intro g4 hg w4 hbox hb; have NB := Aside0.mk ((by rw [hg]; exact Nat.ne_of_lt (blk_lt B2.out)) : g2 ≠ g4); have GE4 := Aside0.mk ((by rw [hg]; exact HB1.out.size) : w.heap.size ≤ g4); have HB := Aside0.mk (below_step HB1.out hb); have BK2 := Aside0.mk (blk_below B2.out hb); have BK4 := Aside0.mk hbox; have hz2_0 := (blk_cell BK2.out 0).trans rfl; have hz2_1 := (blk_cell BK2.out 1).trans rfl; have hz4_0 := (blk_cell hbox 0).trans rfl; have hz4_1 := (blk_cell hbox 1).trans rfl; have hz4_2 := (blk_cell hbox 2).trans rfl; have hz4_3 := (blk_cell hbox 3).trans rfl; have hf4_0 := blk_frozen hbox 0; have hf4_1 := blk_frozen hbox 1; have hf4_2 := blk_frozen hbox 2; have hf4_3 := blk_frozen hbox 3; clear hbox hg hb HB1 B2) | (go_at_call 20; (with_reducible refine (impl_isBroker.calls k (some ad) c0 l0 A1 c1 l1 true _ (Kd.C_below HR0.out HB.out) HC0.out (Kd.C_below HR1.out HB.out) HC1.out HIB.out).mono ?_); rintro e w5 ⟨rfl, hb⟩; have n1_ := Aside0.mk (blk_below BK2.out hb); have n2_ := Aside0.mk (blk_below BK4.out hb); have n3_ := Aside0.mk (below_step HB.out hb); clear BK2 BK4 HB hz2_0 hz2_1 hz4_0 hz4_1 hz4_2 hz4_3 hf4_0 hf4_1 hf4_2 hf4_3; have BK2 := n1_; have BK4 := n2_; have HB := n3_; clear n1_ n2_ n3_ hb; have hz2_0 := (blk_cell BK2.out 0).trans rfl; have hz2_1 := (blk_cell BK2.out 1).trans rfl; have hz4_0 := (blk_cell BK4.out 0).trans rfl; have hz4_1 := (blk_cell BK4.out 1).trans rfl; have hz4_2 := (blk_cell BK4.out 2).trans rfl; have hz4_3 := (blk_cell BK4.out 3).trans rfl; have hf4_0 := blk_frozen BK4.out 0; have hf4_1 := blk_frozen BK4.out 1; have hf4_2 := blk_frozen BK4.out 2; have hf4_3 := blk_frozen BK4.out 3) | (go_at_call 21; (with_reducible refine (impl_Broker_topic.calls g2 (some ad) c0 _ l0 x _ BK2.out (Kd.C_below HR0.out HB.out) HL.out).mono ?_); rintro e w6 ⟨rfl, hb⟩; rw [← HF.out, ← HI.out]; have n1_ := Aside0.mk (blk_below BK2.out hb); have n2_ := Aside0.mk (blk_below BK4.out hb); have n3_ := Aside0.mk (below_step HB.out hb); clear BK2 BK4 HB hz2_0 hz2_1 hz4_0 hz4_1 hz4_2 hz4_3 hf4_0 hf4_1 hf4_2 hf4_3; have BK2 := n1_; have BK4 := n2_; have HB := n3_; clear n1_ n2_ n3_ hb; have hz2_0 := (blk_cell BK2.out 0).trans rfl; have hz2_1 := (blk_cell BK2.out 1).trans rfl; have hz4_0 := (blk_cell BK4.out 0).trans rfl; have hz4_1 := (blk_cell BK4.out 1).trans rfl; have hz4_2 := (blk_cell BK4.out 2).trans rfl; have hz4_3 := (blk_cell BK4.out 3).trans rfl; have hf4_0 := blk_frozen BK4.out 0; have hf4_1 := blk_frozen BK4.out 1; have hf4_2 := blk_frozen BK4.out 2; have hf4_3 := blk_frozen BK4.out 3; have hx0 := pw_cell_below HB.out HX0.out; have hx1 := pw_cell_below HB.out HX1.out; have hx2 := pw_cell_below HB.out HX2.out; have hx3 := pw_cell_below HB.out HX3.out) | (go_at_call 22; (with_reducible refine (impl_cloneTopic.calls t0 t1 A2 c2 t2 A3 c3 t3 r1 r2 r3 r4 _ (Kd.C_below HI2.out HB.out) HL2.out (Kd.C_below HI3.out HB.out) HL3.out HC.out).mono ?_); rintro e w7 ⟨v2, v3, rfl, h2_, h3_, hb⟩; obtain ⟨A5, c5, rfl⟩ := Kd.R_slice h2_; obtain ⟨A6, c6, rfl⟩ := Kd.R_slice h3_; have H2 := Aside0.mk (Kd.R_lower h2_ HB.out.size); have H3 := Aside0.mk (Kd.R_lower h3_ HB.out.size); clear h2_ h3_; have n1_ := Aside0.mk (blk_below BK2.out hb); have n2_ := Aside0.mk (blk_below BK4.out hb); have n3_ := Aside0.mk (below_step HB.out hb); clear BK2 BK4 HB hz2_0 hz2_1 hz4_0 hz4_1 hz4_2 hz4_3 hf4_0 hf4_1 hf4_2 hf4_3; have BK2 := n1_; have BK4 := n2_; have HB := n3_; clear n1_ n2_ n3_ hb; have hz2_0 := (blk_cell BK2.out 0).trans rfl; have hz2_1 := (blk_cell BK2.out 1).trans rfl; have hz4_0 := (blk_cell BK4.out 0).trans rfl; have hz4_1 := (blk_cell BK4.out 1).trans rfl; have hz4_2 := (blk_cell BK4.out 2).trans rfl; have hz4_3 := (blk_cell BK4.out 3).trans rfl; have hf4_0 := blk_frozen BK4.out 0; have hf4_1 := blk_frozen BK4.out 1; have hf4_2 := blk_frozen BK4.out 2; have hf4_3 := blk_frozen BK4.out 3))
      refine bodyPost_ret (results_cell_row rfl _ _ g4 30 #[.string r1, .int .i64 r2, .slice A5 r3.length c5, .slice A6 r4.length c6] (0, 0) _ rfl (by (with_reducible repeat (first | refine blk_drewN ?_ _ | refine blk_drew ?_ | refine blk_alloc ?_ _)); exact (blk_put (cs := #[.string r1, .int .i64 r2, .slice A5 r3.length c5, .slice none 0 0]) (blk_put (cs := #[.string r1, .int .i64 r2, .slice none 0 0, .slice none 0 0]) (blk_put (cs := #[.string r1, .int .i64 0, .slice none 0 0, .slice none 0 0]) (blk_put (cs := #[.string (⟨#[]⟩ : ByteArray), .int .i64 0, .slice none 0 0, .slice none 0 0]) BK4.out 0 (.string r1) rfl) 1 (.int .i64 r2) rfl) 2 (.slice A5 r3.length c5) rfl) 3 (.slice A6 r4.length c6) rfl)) Try.underlying30 rfl (by kernel_rfl)) rfl ?_
      exact ⟨_, _, rfl, (by (with_reducible repeat (first | apply Kd.R_alloc | apply Kd.R_drewN | apply Kd.R_drew)); exact Rf4 H2.out BK4.out (by decide) (fun _ hk => hk.1)), (by (with_reducible repeat (first | apply Kd.R_alloc | apply Kd.R_drewN | apply Kd.R_drew)); exact Rf4 H3.out BK4.out (by decide) (fun _ hk => hk.1)), (by repeat (first | (with_reducible first | exact HB.out | apply below_alloc | apply pw_below_drewN | apply below_drew1 | refine below_set ?_ GE4.out) | exact HB.out))⟩


end Go.Proofs.Ytokgloeondfkiaa.Q
