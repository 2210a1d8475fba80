/- CommandBytes of the program returns what the reference's CommandBytes returns, for every command. No condition. -/
import Derived.Test.YtpeddcmoekecpaaQSaidFnExactCommandBytes
import Derived.Test.YtpeddcmoekecpaaQPlCommand
import Derived.Test.YtpeddcmoekecpaaQx40
namespace Go.Proofs.Ytpeddcmoekecpaa.Q.PureFnExactCommandBytes
open Go.RowKit Go.Proofs.YtpeddcmoekecpaaW.PrintWords Go.Proofs.YtpeddcmoekecpaaW.PrintLast Go.Proofs.Ytpeddcmoekecpaa.Q Go.Proofs.Ytpeddcmoekecpaa.HB

theorem proved : SaidFnExactCommandBytes.Pure := by
  rintro x ⟨h0, h1, h2, h3, h4, h5, h6⟩
  have h0 := wf64 h0
  have h1 := wf64 h1
  have h2 := wf64 h2
  have h6 := wf64 h6
  have h3 := le_maxLen h3
  have h4 := le_maxLen h4
  have h5 := le_maxLen h5
  refine ⟨x.f3.size + x.f4.size + 50, ?_⟩
  unfold laws_FnExactCommandBytes.f laws_szCommand.f
  rw [w_id (i := 1048576 - (x.f3.size : Int)) (by omega) (by omega)]
  by_cases c1 : 1048576 - (x.f3.size : Int) < 0
  · rw [if_pos c1]
    rfl
  · rw [if_neg c1, w_id (i := 1048576 - (x.f3.size : Int) - (x.f4.size : Int)) (by omega) (by omega)]
    by_cases c2 : 1048576 - (x.f3.size : Int) - (x.f4.size : Int) < 0
    · rw [if_pos c2]
      rfl
    · rw [if_neg c2, w_id (i := 1048576 - (x.f3.size : Int) - (x.f4.size : Int) - (x.f5.size : Int)) (by omega) (by omega)]
      by_cases c3 : 1048576 - (x.f3.size : Int) - (x.f4.size : Int) - (x.f5.size : Int) < 0
      · rw [if_pos c3]
        rfl
      · rw [if_neg c3]
        simp only [Option.bind_some, laws_toCommand.f]
        rw [if_neg c3, spec_commandBytes_eq h0 h1 h2 h6 (by omega) (by omega) (by omega), impl_CommandBytes_eq h0 h1 h2 h6 (by omega) (by omega) (by omega)]
        simp only [Option.bind_some, if_true]

end Go.Proofs.Ytpeddcmoekecpaa.Q.PureFnExactCommandBytes
