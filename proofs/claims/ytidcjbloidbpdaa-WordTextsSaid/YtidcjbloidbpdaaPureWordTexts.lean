/- WordTexts: any word and any number is written by its digits as the reference writes it, and read again; no condition. -/
import Derived.Test.YtidcjbloidbpdaaPArrx8
import Derived.Test.YtidcjbloidbpdaaVw
import Derived.Test.YtidcjbloidbpdaaS3
namespace Go.Proofs.Ytidcjbloidbpdaa.PureWordTexts
open Go.RowKit Go.Proofs.Ytidcjbloidbpdaa.PArr Go.Proofs.YtidcjbloidbpdaaW.PrintWords Go.Proofs.YtidcjbloidbpdaaW.PrintLast
open Go.Proofs.Ytidcjbloidbpdaa.Vw Go.Proofs.Ytidcjbloidbpdaa.Pure
set_option linter.unusedVariables false
set_option linter.unusedSimpArgs false

theorem awake_is (k : Nat) (hk : 300 ≤ k) : vireolaw01_awake.f k = some true := by
  have h : ∀ k, vireolaw01_awake.f (k + 1) = vireolaw01_awake.f 1 := fun _ => rfl
  obtain ⟨j, rfl⟩ : ∃ j, k = j + 1 := ⟨k - 1, by omega⟩
  rw [h]; decide +kernel
theorem WordTexts : vireolaw01_WordTexts.Pure := by
  intro a0 n h0 h1
  obtain ⟨w, rfl, hw⟩ := u64_of_wf h0
  obtain ⟨l, u⟩ := i64_of_wf h1
  have s1 : ((⟨#[48, 120]⟩ : ByteArray) ++ tx 16 16 w).size ≤ 18 := by
    have := tx_size 16 (by omega) (by omega) 16 w
    have h2 : (⟨#[48, 120]⟩ : ByteArray).size = 2 := rfl
    rw [ByteArray.size_append, h2]; omega
  have s2 : (decOf n).size ≤ 21 := by
    have h2 : (⟨#[45]⟩ : ByteArray).size = 1 := rfl
    unfold decOf
    split
    · have := tx_size 10 (by omega) (by omega) 20 (-n).toNat
      rw [ByteArray.size_append, h2]; omega
    · have := tx_size 10 (by omega) (by omega) 20 n.toNat
      omega
  refine ⟨400, ?_⟩
  unfold vireolaw01_WordTexts.f
  rw [awake_is _ (by omega), Option.bind_some, if_pos rfl, word_Hex_is _ (by omega) w hw, Option.bind_some, word_Parse_is _ (by omega) _ (by omega), Option.bind_some, word_Dec_is _ (by omega) n l u, Option.bind_some, word_ParseInt_is _ (by omega) _ (by omega), Option.bind_some, Option.bind_some, vireoref01_Hex_is _ (by omega) w hw, Option.bind_some, if_pos rfl, Option.bind_some, vireoref01_Dec_is _ (by omega) n l u, Option.bind_some, if_pos rfl, p_hex w hw, q_dec n l u, if_pos rfl, if_pos rfl, if_pos rfl, beq_self_eq_true]
end Go.Proofs.Ytidcjbloidbpdaa.PureWordTexts
namespace Go.Proofs.Ytidcjbloidbpdaa.Pure
theorem WordTexts : PArr.vireolaw01_WordTexts.Pure := PureWordTexts.WordTexts
end Go.Proofs.Ytidcjbloidbpdaa.Pure
