/- BrokerReply of the program returns what the reference's BrokerReply returns, for every broker and client. No condition. -/
import Derived.Test.YtjjdakpnjiocjaaQSaidFnExactBrokerReply
import Derived.Test.YtjjdakpnjiocjaaQPlBroker
import Derived.Test.YtjjdakpnjiocjaaQx11
import Derived.Test.YtjjdakpnjiocjaaQx19
namespace Go.Proofs.Ytjjdakpnjiocjaa.Q.PureFnExactBrokerReply
open Go.RowKit Go.Proofs.YtjjdakpnjiocjaaW.PrintWords Go.Proofs.YtjjdakpnjiocjaaW.PrintLast Go.Proofs.Ytjjdakpnjiocjaa.Q Go.Proofs.Ytjjdakpnjiocjaa.HB
set_option linter.unusedVariables false
set_option linter.unusedSimpArgs false

def atS (r : List RI) (a : Int) (i : Nat) : Option Int := if (rd_T36 r (i : Int)).f0 = a then some (i : Int) else none
def fieldsR (r : List RI) (i : Nat) : Int × Int × ByteArray := ((rd_T36 r (i : Int)).f0, (rd_T36 r (i : Int)).f1, (rd_T36 r (i : Int)).f2)
def atI (r : List RI) (a : Int) (i : Nat) : Option (Int × Int × ByteArray) := if (rd_T36 r (i : Int)).f0 = a then some (fieldsR r i) else none
def ansR (r : List RI) (a : Int) : Int × Int × ByteArray := scanFrom (atI r a) (0, 0, ⟨#[]⟩) r.length 0
theorem at_both (r : List RI) (a : Int) : ∀ d i : Nat, i + d = r.length → (scanFrom (atS r a) (-1) d i = -1 ∧ scanFrom (atI r a) (0, 0, ⟨#[]⟩) d i = (0, 0, ⟨#[]⟩)) ∨ ∃ j : Nat, j < r.length ∧ scanFrom (atS r a) (-1) d i = (j : Int) ∧ scanFrom (atI r a) (0, 0, ⟨#[]⟩) d i = fieldsR r j := by
  intro d
  induction d with
  | zero => intro i _; exact .inl ⟨rfl, rfl⟩
  | succ d ih =>
    intro i hi
    by_cases h : (rd_T36 r (i : Int)).f0 = a
    · refine .inr ⟨i, by omega, ?_, ?_⟩
      · simp only [scanFrom, atS, if_pos h]
      · simp only [scanFrom, atI, if_pos h]
    · have e1 : scanFrom (atS r a) (-1) (d + 1) i = scanFrom (atS r a) (-1) d (i + 1) := by simp only [scanFrom, atS, if_neg h]
      have e2 : scanFrom (atI r a) (0, 0, ⟨#[]⟩) (d + 1) i = scanFrom (atI r a) (0, 0, ⟨#[]⟩) d (i + 1) := by simp only [scanFrom, atI, if_neg h]
      rw [e1, e2]
      exact ih (i + 1) (by omega)
theorem spec_at {l : List TI} {r : List RI} {a : Int} (hr : r.length ≤ 9223372036854775807) {k : Nat} (hk : r.length < k) : spec_l08Reply.f k l r a = some (scanFrom (atS r a) (-1) r.length 0) := by
  unfold spec_l08Reply.f
  refine scanLoop (n := r.length) (m := 0) (F := fun k i => spec_l08Reply.l0 k a i l r) (fun k => ?_) (fun k i hm hi => ?_) r.length k 0 (by omega) (by omega)
  · simp only [spec_l08Reply.l0]
    rw [if_neg (by omega)]
  · simp only [spec_l08Reply.l0, atS]
    rw [if_pos (by omega), if_pos (by omega), w_nat hi hr]
    split <;> rfl
theorem impl_at {r : List RI} {a : Int} (hr : r.length ≤ 9223372036854775807) {k : Nat} (hk : r.length < k) : impl_Broker_reply.f k r a = some (ansR r a) := by
  unfold impl_Broker_reply.f ansR
  refine scanLoop (n := r.length) (m := 0) (F := fun k i => impl_Broker_reply.l0 k r (r.length : Int) i a) (fun k => ?_) (fun k i hm hi => ?_) r.length k 0 (by omega) (by omega)
  · simp only [impl_Broker_reply.l0]
    rw [if_neg (by omega)]
  · simp only [impl_Broker_reply.l0, atI, fieldsR]
    rw [if_pos (by omega), if_pos (by omega), if_pos (by omega), w_nat hi hr]
    split <;> rfl
/-- What BrokerReply answers. -/
def repT (l : List TI) (r : List RI) (a : Int) : Int × Int × ByteArray := if brokerB l r = true then ansR r a else (0, 0, ⟨#[]⟩)
theorem spec_reply {l : List TI} {r : List RI} {a : Int} (hl : l.length ≤ 9223372036854775807) (hr : r.length ≤ 9223372036854775807) (hM : tmI l ≤ 9223372036854775807) {k : Nat} (hk : l.length + (r.length + (tmI l + 1)) + 1 < k) :
    spec_BrokerReply.f k l r a = some (repT l r a) := by
  unfold spec_BrokerReply.f repT
  rw [spec_at hr (by omega)]
  simp only [Option.bind_some]
  rcases at_both r a r.length 0 (by omega) with ⟨h1, h2⟩ | ⟨j, hj, h1, h2⟩
  · have e : ansR r a = (0, 0, ⟨#[]⟩) := h2
    rw [h1, if_pos (by omega), e]
    split <;> rfl
  · have e : ansR r a = fieldsR r j := h2
    rw [h1, if_neg (by omega), spec_broker_eq hl hr hM hk, e]
    simp only [Option.bind_some]
    split
    · rw [if_pos (by omega), if_pos (by omega)]
      rfl
    · rfl
theorem impl_reply {l : List TI} {r : List RI} {a : Int} (hl : l.length ≤ 9223372036854775807) (hr : r.length ≤ 9223372036854775807) (hM : tmI l ≤ 9223372036854775807) {k : Nat} (hk : l.length + (r.length + (tmI l + 1)) + 1 < k) :
    impl_BrokerReply.f k l r a = some (repT l r a) := by
  unfold impl_BrokerReply.f repT
  rw [impl_broker_eq hl hr hM (by omega)]
  simp only [Option.bind_some]
  rw [impl_at hr (by omega)]
  split <;> rfl

theorem proved : SaidFnExactBrokerReply.Pure := by
  rintro ⟨l, r⟩ a ⟨⟨hl, hg⟩, hr, hv⟩ _
  have hl : l.length ≤ 9223372036854775807 := le_maxLen hl
  have hr : r.length ≤ 9223372036854775807 := le_maxLen hr
  have hw : ∀ x ∈ l, okT x := fun x hx => ⟨le_maxLen (hg x hx).1, le_maxLen (hg x hx).2.2.1.1, le_maxLen (hg x hx).2.2.2.1, fun y hy => le_maxLen ((hg x hx).2.2.1.2 y hy), fun y hy => le_maxLen ((hg x hx).2.2.2.2 y hy).1⟩
  have hv : ∀ x ∈ r, x.f2.size ≤ 9223372036854775807 := fun x hx => le_maxLen (hv x hx).2.2
  let K := l.length + (r.length + (tmL l + 1)) + 5
  refine ⟨K, ?_⟩
  show laws_FnExactBrokerReply.f K l r a = some true
  have hK : K = l.length + (r.length + (tmL l + 1)) + 5 := rfl
  clear_value K
  obtain ⟨s, hs, h1, h2, h3⟩ := szBroker_eq (l := l) (r := r) hl hw hr hv (k := K) (by omega)
  unfold laws_FnExactBrokerReply.f
  rw [hs]
  simp only [Option.bind_some]
  by_cases h : s < 0
  · rw [if_pos h]
  · obtain ⟨h4, h5, h6⟩ := h3 (by omega)
    have e1 : (l.map topicOf).length = l.length := by simp
    have e3 : (r.map replyOf).length = r.length := by simp
    have e2 := tmI_map l
    have e4 := tmL_le h6
    rw [if_neg h, toBroker_eq (by omega) (fun x hx => ⟨(h6 x hx).2.1, (h6 x hx).2.2.1⟩) (by omega) (by omega)]
    simp only [Option.bind_some]
    rw [spec_reply (by omega) (by omega) (by omega) (by omega)]
    simp only [Option.bind_some]
    rw [impl_reply (by omega) (by omega) (by omega) (by omega)]
    simp only [Option.bind_some]
    have e5 : ∀ x y : Int, ∀ z : ByteArray, laws_eqReply.f x y z x y z = some true := fun x y z => by
      unfold laws_eqReply.f
      rw [if_pos rfl, if_pos rfl, if_pos rfl]
    rw [e5]
    simp only [Option.bind_some, if_true]
    rw [eqBroker_eq (by omega) (by omega) (by omega) (by omega)]
    simp

end Go.Proofs.Ytjjdakpnjiocjaa.Q.PureFnExactBrokerReply
