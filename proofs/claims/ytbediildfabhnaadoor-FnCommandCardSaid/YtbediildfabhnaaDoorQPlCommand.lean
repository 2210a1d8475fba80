/- The encodings of a command by the program. -/
import Derived.Test.YtbediildfabhnaaDoorQx4
import Derived.Test.YtbediildfabhnaaDoorQx6
import Derived.Test.YtbediildfabhnaaDoorQPlCommandS
import Derived.Test.YtbediildfabhnaaDoorQPlTexts
namespace Go.Proofs.YtbediildfabhnaaDoor.Q
open Go.RowKit Go.Proofs.YtbediildfabhnaaDoorW.PrintWords Go.Proofs.YtbediildfabhnaaDoorW.PrintLast
set_option linter.unusedVariables false
set_option linter.unusedSimpArgs false

theorem impl_commandBytes_eq {a b c n : Int} {t p q : ByteArray} (ha : in64 a) (hb : in64 b) (hc : in64 c) (hn : in64 n) (ht : t.size ≤ 40) (hp : p.size ≤ 40) (hq : q.size ≤ 40) {k : Nat} (hk : 40 ≤ k) :
    impl_commandBytes.f k a b c t p q n = some (commandT a b c t p q n) := by
  have sa := numT_size ha.1 ha.2
  have sb := numT_size hb.1 hb.2
  have sc := numT_size hc.1 hc.2
  have sn := numT_size hn.1 hn.2
  have st := textT_size (s := t) (by omega)
  have sp := textT_size (s := p) (by omega)
  have sq := textT_size (s := q) (by omega)
  have e : numsT [a, b, c] ⟨#[]⟩ = (numT a ++ numT b) ++ numT c := by
    have : (⟨#[]⟩ : ByteArray) ++ numT a = numT a := ByteArray.empty_append
    simp only [numsT, List.foldl, this]
  unfold impl_commandBytes.f commandT
  rw [putNums_eq (l := [a, b, c]) (by simp) (by simp; exact ⟨ha, hb, hc⟩) (by simp; omega), e, impl_num_eq hn.1 hn.2 (by omega), impl_text_eq (s := t) (by omega) (by omega), impl_text_eq (s := p) (by omega) (by omega), impl_text_eq (s := q) (by omega) (by omega)]
  simp only [Option.bind_some]
  rw [if_pos (by simp only [ByteArray.size_append]; omega), if_pos (by simp only [ByteArray.size_append]; omega),
    if_pos (by simp only [ByteArray.size_append]; omega), if_pos (by simp only [ByteArray.size_append]; omega)]
theorem impl_CommandBytes_eq {a b c n : Int} {t p q : ByteArray} (ha : in64 a) (hb : in64 b) (hc : in64 c) (hn : in64 n) (ht : t.size ≤ 1000000000) (hp : p.size ≤ 1000000000) {k : Nat} (hk : t.size + p.size + 40 < k) :
    impl_CommandBytes.f k a b c t p q n = some (commandTB a b c t p q n) := by
  unfold impl_CommandBytes.f commandTB
  rw [impl_command_eq ht hp (by omega)]
  simp only [Option.bind_some]
  by_cases h : commandB a b c t p q n = true
  · obtain ⟨h1, h2, h3⟩ := commandB_sizes h
    rw [if_pos h, if_pos h, impl_commandBytes_eq ha hb hc hn h1 h2 h3 (by omega)]
    rfl
  · rw [if_neg h, if_neg h]

end Go.Proofs.YtbediildfabhnaaDoor.Q
