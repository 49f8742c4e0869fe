/- Plain: the law FdtWords. -/
import Derived.Test.YtmhlellhfepkkaaHq
import Derived.Test.YtmhlellhfepkkaaLb
namespace Go.Proofs.Ytmhlellhfepkkaa.B
open Go.RowKit Go.Proofs.YtmhlellhfepkkaaW.PrintWords Go.Proofs.YtmhlellhfepkkaaW.PrintLast Go.Proofs.YtmhlellhfepkkaaW.PrintMore Go.Proofs.Ytmhlellhfepkkaa.PAl
set_option linter.unusedVariables false
set_option linter.unusedSimpArgs false
theorem Ev.true_of {g : Nat → Option Bool} {b : Bool} (h : Ev g b) (e : b = true) : Ev g true := by subst e; exact h
theorem flat_len : ∀ l : List Int, (l.flatMap w32).length = 4 * l.length
  | [] => rfl
  | a :: l => by have := flat_len l; simp only [List.flatMap_cons, List.length_append, w32_len, List.length_cons] at this ⊢; omega
theorem words_end (k0 : Nat) (b0 : List Int) (b1 : List ByteArray) (b2 : Int) (h0 : b0.length < 1000) (ht : (textsOf b1).length < 140737488355328) (hb : 0 ≤ b2) (hb' : b2 < 18446744073709551616) :
    Ev (fun k => vireolaw26_FdtWords.l1 (k + 1) b0 b1 b2 (b0.flatMap w32) (textsOf b1) (b1.length : Int)) true := by
  have e1 : wrap64 (b2 / 4294967296) = b2 / 4294967296 := w64 (by omega) (by omega)
  have e2 : wrap64 (Int.tmod b2 4294967296) = b2 % 4294967296 := by rw [Int.tmod_eq_emod_of_nonneg hb]; exact w64 (by omega) (by omega)
  have e3 : fdt_Word64.f b2 = some (w32 (b2 / 4294967296) ++ w32 (b2 % 4294967296)) := by
    unfold fdt_Word64.f
    have : (b2 / 4294967296) % 4294967296 = b2 / 4294967296 := by omega
    rw [this, word32_is, word32_is, Option.bind_some, Option.bind_some, if_pos (by simp [w32_len])]
  have hf := flat_len b0
  have e4 : (4 : Int) ≤ ((w32 (b2 / 4294967296) ++ w32 (b2 % 4294967296)).length : Int) := by simp [w32_len]
  refine Ev.congr (g := _) (f := fun k => (fdt_Cells.f k b0).bind fun t319 => ((vireoref02_Bytes.f k t319 (b0.flatMap w32)).bind fun t322 => (if t322 = true then ((fdt_Texts.f k b1).bind fun t323 => ((vireoref02_Bytes.f k t323 (textsOf b1)).bind fun t326 => (if t326 = true then ((some (w32 (b2 / 4294967296) ++ w32 (b2 % 4294967296)) : Option (List Int)).bind fun t327 => ((vireoref02_Bytes.f k t327 (w32 (b2 / 4294967296) ++ w32 (b2 % 4294967296))).bind fun t330 => (if t330 = true then ((vireoref02_Bytes.f k (w32 (b2 % 4294967296)) (w32 (b2 % 4294967296))).bind fun t338 => (some t338)) else (some false)))) else (some false)))) else (some false)))) (fun k => ?_) ?_
  · simp only [vireolaw26_FdtWords.l1]
    rw [if_neg (by omega), e1, e2, wordR_is _ (by omega) (by omega), wordR_is _ (by omega) (by omega), Option.bind_some, Option.bind_some, if_pos (by simp [w32_len]), Option.bind_some, e3, word32_is]
    have ed : List.drop 4 (w32 (b2 / 4294967296) ++ w32 (b2 % 4294967296)) = w32 (b2 % 4294967296) := rfl
    simp only [Option.bind_some, if_pos e4, ed]
  · refine Ev.bind (cells_is b0 (by omega)) (Ev.bind (Ev.true_of (bytes_is _ _ (by omega)) (by simp)) ?_)
    simp only [if_true]
    refine Ev.bind (texts_is b1 ht) (Ev.bind (Ev.true_of (bytes_is _ _ ht) (by simp)) ?_)
    simp only [if_true]
    refine Ev.bind (Ev.now _) (Ev.bind (Ev.true_of (bytes_is _ _ (by simp [w32_len])) (by simp)) ?_)
    simp only [if_true]
    exact Ev.bind (Ev.true_of (bytes_is _ _ (by simp [w32_len])) (by simp)) (Ev.now _)
theorem words_l1 (b0 : List Int) (b1 : List ByteArray) (b2 : Int) (h0 : b0.length < 1000) (h1 : b1.length < 1000) (ht : (textsOf b1).length < 140737488355328) (hb : 0 ≤ b2) (hb' : b2 < 18446744073709551616) :
    ∀ (suf pre : List ByteArray) (acc : List Int), b1 = pre ++ suf → acc = textsOf pre → Ev (fun k => vireolaw26_FdtWords.l1 k b0 b1 b2 (b0.flatMap w32) acc (pre.length : Int)) true
  | [], pre, acc, h, ha => by
    have h' : b1 = pre := by simpa using h
    subst h' ha
    exact Ev.step (f := fun k => vireolaw26_FdtWords.l1 (k + 1) b0 b1 b2 (b0.flatMap w32) (textsOf b1) (b1.length : Int)) (fun k => rfl) (words_end 0 b0 b1 b2 h0 ht hb hb')
  | x :: suf, pre, acc, h, ha => by
    have ih := words_l1 b0 b1 b2 h0 h1 ht hb hb' suf (pre ++ [x]) (acc ++ (bytesOf x ++ [0])) (by simp [h]) (by rw [textsOf_snoc, ha])
    have hlen : b1.length = pre.length + (suf.length + 1) := by rw [h]; simp
    have hta : (textsOf b1).length = acc.length + (x.size + 1 + (textsOf suf).length) := by
      have key : ∀ (a b : List ByteArray), textsOf (a ++ b) = textsOf a ++ textsOf b := by
        intro a b; induction a with
        | nil => rfl
        | cons c a ih => simp [textsOf, ih]
      rw [h, key, ha]; simp [textsOf, bytesOf_length]; omega
    refine Ev.step (f := fun k => vireolaw26_FdtWords.l1 k b0 b1 b2 (b0.flatMap w32) (acc ++ (bytesOf x ++ [0])) ((pre ++ [x]).length : Int)) (fun k => ?_) ih
    have hr : rdOf ByteArray.empty b1 (pre.length : Int) = x := by rw [h]; exact rdOf_mid _ _ _ _
    have hbl : (bytesOf x).length = x.size := bytesOf_length x
    rw [vireolaw26_FdtWords.l1, if_pos (by omega), if_pos (by omega), hr, if_pos (by omega), Option.bind_some, if_pos (by rw [List.length_append]; omega), w64 (by omega) (by omega)]
    simp
theorem words_l0 (b0 : List Int) (b1 : List ByteArray) (b2 : Int) (hz : ∀ z ∈ b0, 0 ≤ z ∧ z < 4294967296) (h0 : b0.length < 1000) (h1 : b1.length < 1000) (ht : (textsOf b1).length < 140737488355328) (hb : 0 ≤ b2) (hb' : b2 < 18446744073709551616) :
    ∀ (suf pre acc : List Int), b0 = pre ++ suf → acc = pre.flatMap w32 → Ev (fun k => vireolaw26_FdtWords.l0 k b0 b1 b2 acc (pre.length : Int)) true
  | [], pre, acc, h, ha => by
    have h' : b0 = pre := by simpa using h
    subst h' ha
    refine Ev.step (f := fun k => vireolaw26_FdtWords.l1 k b0 b1 b2 (b0.flatMap w32) [] (([] : List ByteArray).length : Int)) (fun k => ?_) (words_l1 b0 b1 b2 h0 h1 ht hb hb' b1 [] [] rfl rfl)
    rw [vireolaw26_FdtWords.l0, if_neg (by omega)]
    rfl
  | x :: suf, pre, acc, h, ha => by
    have ih := words_l0 b0 b1 b2 hz h0 h1 ht hb hb' suf (pre ++ [x]) (acc ++ w32 x) (by simp [h]) (by simp [ha])
    have hlen : b0.length = pre.length + (suf.length + 1) := by rw [h]; simp
    have hx := hz x (by rw [h]; simp)
    have hla : acc.length = 4 * pre.length := by rw [ha]; exact flat_len pre
    refine Ev.step (f := fun k => vireolaw26_FdtWords.l0 k b0 b1 b2 (acc ++ w32 x) ((pre ++ [x]).length : Int)) (fun k => ?_) ih
    have hr : rd b0 (pre.length : Int) = x := by rw [h]; exact rd_mid _ _ _
    rw [vireolaw26_FdtWords.l0, if_pos (by omega), if_pos (by omega), hr, w64 (x := x) (by omega) (by omega), wordR_is x hx.1 (by omega), Option.bind_some, if_pos (by rw [w32_len]; omega), w64 (by omega) (by omega)]
    simp
theorem words_plain (b0 : List Int) (b1 : List ByteArray) (b2 : Int) (hz : ∀ z ∈ b0, 0 ≤ z ∧ z < 4294967296) (ht : (textsOf b1).length < 140737488355328) (hb : 0 ≤ b2) (hb' : b2 < 18446744073709551616) : ∃ k, vireolaw26_FdtWords.f k b0 b1 b2 = some true := by
  refine Ev.rounds (Ev.bind awake_is ?_)
  simp only [if_true]
  by_cases c0 : (b0.length : Int) > 50
  · simp only [if_pos c0]
    exact Ev.step (f := fun _ => some true) (fun k => by simp [vireolaw26_FdtWords.j0]) (Ev.now _)
  · simp only [if_neg c0]
    by_cases c1 : (b1.length : Int) > 50
    · have : decide ((b1.length : Int) > 50) = true := by simpa using c1
      simp only [this]
      exact Ev.step (f := fun _ => some true) (fun k => by simp [vireolaw26_FdtWords.j0]) (Ev.now _)
    · have : decide ((b1.length : Int) > 50) = false := by simpa using c1
      simp only [this]
      refine Ev.step (f := fun k => vireolaw26_FdtWords.l0 k b0 b1 b2 [] (([] : List Int).length : Int)) (fun k => by simp [vireolaw26_FdtWords.j0]) (words_l0 b0 b1 b2 hz (by omega) (by omega) ht hb hb' b0 [] [] rfl rfl)
end Go.Proofs.Ytmhlellhfepkkaa.B
