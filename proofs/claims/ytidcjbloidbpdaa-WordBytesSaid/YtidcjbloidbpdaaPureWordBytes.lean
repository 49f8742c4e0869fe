/- WordBytes: bytes are a word, and a word is bytes, as the reference tells them; no condition but the kinds of the arguments. -/
import Derived.Test.YtidcjbloidbpdaaPByx2
import Derived.Test.YtidcjbloidbpdaaVw
import Derived.Test.YtidcjbloidbpdaaS4
namespace Go.Proofs.Ytidcjbloidbpdaa.PureWordBytes
open Go.RowKit Go.Proofs.Ytidcjbloidbpdaa.PBy Go.Proofs.YtidcjbloidbpdaaW.PrintWords Go.Proofs.YtidcjbloidbpdaaW.PrintLast
open Go.Proofs.Ytidcjbloidbpdaa.Vw Go.Proofs.Ytidcjbloidbpdaa.Pure
set_option linter.unusedVariables false
set_option linter.unusedSimpArgs false

theorem awake_is (k : Nat) (hk : 300 ≤ k) : vireolaw01_awake.f k = some true := by
  have h : ∀ k, vireolaw01_awake.f (k + 1) = vireolaw01_awake.f 1 := fun _ => rfl
  obtain ⟨j, rfl⟩ : ∃ j, k = j + 1 := ⟨k - 1, by omega⟩
  rw [h]; decide +kernel
theorem loop (l : List Int) (hl : octets l) (hn : l.length ≤ 100) (w : Nat) (hw : w < 18446744073709551616) (t : List Int) (ht : t.length ≤ 4096) : ∀ (m k i : Nat), i + m = t.length → vireolaw01_WordBytes.l0 (m + k + 6001) l (w : Int) t t (i : Int) = some true
  | 0, k, i, h => by
    have e : 0 + k + 6001 = (k + 6000) + 1 := by omega
    have c8 : bcn 8 = 8 := by decide
    have hb : lov (bys w 8) (min (bys w 8).length 8) = w := by
      rw [bys_length, lov_bys w 8 _ (by omega)]
      exact Nat.mod_eq_of_lt (by simpa using hw)
    rw [e, vireolaw01_WordBytes.l0, if_neg (by omega), word_Of_is _ (by omega) l hl (by omega), Option.bind_some, vireoref01_Of_is _ (by omega) l hl (by omega), Option.bind_some, if_pos rfl, word_Bytes_is _ (by omega), Option.bind_some, c8, word_Of_is _ (by omega) _ (octets_bys w 8) (by rw [bys_length]; omega), Option.bind_some, hb, beq_self_eq_true]
  | m + 1, k, i, h => by
    have e : m + 1 + k + 6001 = (m + k + 6001) + 1 := by omega
    have e3 : wrap64 ((i : Int) + 1) = ((i + 1 : Nat) : Int) := by rw [w64_id _ (by omega) (by omega)]; omega
    rw [e, vireolaw01_WordBytes.l0, if_pos (by omega), if_pos (by omega), if_pos (by omega), if_pos rfl, e3]
    exact loop l hl hn w hw t ht m k (i + 1) (by omega)
theorem octets_of {l : List Int} (h : ∀ x ∈ l, (Lit.int .u8 x).wf = true) : octets l := by
  intro i
  unfold rd
  rw [Int.toNat_natCast, List.getD_eq_getElem?_getD]
  by_cases c : i < l.length
  · rw [List.getElem?_eq_getElem c, Option.getD_some]
    have := bounds_u8 (h _ (List.getElem_mem c))
    omega
  · rw [List.getElem?_eq_none (by omega), Option.getD_none]; omega
theorem WordBytes : vireolaw01_WordBytes.Pure := by
  intro l a1 n h0 h1 h2 h3 h4
  obtain ⟨w, rfl, hw⟩ := u64_of_wf h3
  refine ⟨20000, ?_⟩
  unfold vireolaw01_WordBytes.f
  rw [awake_is _ (by omega), Option.bind_some, if_pos rfl]
  by_cases c : (l.length : Int) > 100
  · rw [if_pos c]
  · rw [if_neg c, word_Bytes_is _ (by omega), Option.bind_some, vireoref01_Bytes_is _ (by omega) w hw, Option.bind_some, if_pos rfl]
    have hc := bcn_le n
    obtain ⟨j, hj⟩ : ∃ j, 20000 = bcn n + j + 6001 := ⟨20000 - bcn n - 6001, by omega⟩
    rw [hj]
    exact loop l (octets_of h2) (by omega) w hw _ (by rw [bys_length]; exact hc) (bcn n) j 0 (by rw [bys_length]; omega)
end Go.Proofs.Ytidcjbloidbpdaa.PureWordBytes
namespace Go.Proofs.Ytidcjbloidbpdaa.Pure
theorem WordBytes : PBy.vireolaw01_WordBytes.Pure := PureWordBytes.WordBytes
end Go.Proofs.Ytidcjbloidbpdaa.Pure
