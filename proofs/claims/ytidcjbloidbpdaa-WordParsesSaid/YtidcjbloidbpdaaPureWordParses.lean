/- WordParses: any text is a word, a number, or none, as the reference tells it; no condition but that the text is one. -/
import Derived.Test.YtidcjbloidbpdaaPArrx7
import Derived.Test.YtidcjbloidbpdaaVw
import Derived.Test.YtidcjbloidbpdaaS2
namespace Go.Proofs.Ytidcjbloidbpdaa.PureWordParses
open Go.RowKit Go.Proofs.Ytidcjbloidbpdaa.PArr Go.Proofs.YtidcjbloidbpdaaW.PrintWords Go.Proofs.YtidcjbloidbpdaaW.PrintLast
open Go.Proofs.Ytidcjbloidbpdaa.Vw Go.Proofs.Ytidcjbloidbpdaa.Pure
set_option linter.unusedVariables false
set_option linter.unusedSimpArgs false

theorem awake_is (k : Nat) (hk : 300 ≤ k) : vireolaw01_awake.f k = some true := by
  have h : ∀ k, vireolaw01_awake.f (k + 1) = vireolaw01_awake.f 1 := fun _ => rfl
  obtain ⟨j, rfl⟩ : ∃ j, k = j + 1 := ⟨k - 1, by omega⟩
  rw [h]; decide +kernel
theorem fin (r s : Int × Bool) (hr : r.2 = false → r.1 = 0) (hs : s.2 = false → s.1 = 0) :
    (if (r.2 == r.2) = true then (if (s.2 == s.2) = true then (if r.2 = true then (if r.1 = r.1 then (if s.2 = true then (some (s.1 == s.1)) else (if s.1 = 0 then (some true) else (some false))) else (some false)) else (if r.1 = 0 then (if s.2 = true then (some (s.1 == s.1)) else (if s.1 = 0 then (some true) else (some false))) else (some false))) else (some false)) else (some false)) = some true := by
  obtain ⟨v, a⟩ := r
  obtain ⟨w, b⟩ := s
  cases a <;> cases b <;> simp_all
theorem WordParses : vireolaw01_WordParses.Pure := by
  intro x hx
  refine ⟨x.size + 300, ?_⟩
  unfold vireolaw01_WordParses.f
  rw [awake_is _ (by omega), Option.bind_some, if_pos rfl, word_Parse_is x hx _ (by omega), Option.bind_some, word_ParseInt_is x hx _ (by omega), Option.bind_some, vireoref01_Parse_is x hx _ (by omega), Option.bind_some, vireoref01_ParseInt_is x hx _ (by omega), Option.bind_some]
  exact fin (p x) (q x) (p_range x).2.2 (q_zero x)
end Go.Proofs.Ytidcjbloidbpdaa.PureWordParses
namespace Go.Proofs.Ytidcjbloidbpdaa.Pure
theorem WordParses : PArr.vireolaw01_WordParses.Pure := PureWordParses.WordParses
end Go.Proofs.Ytidcjbloidbpdaa.Pure
