/- Plain: words, texts, bytes that are alike. -/
import Derived.Test.YtmhlellhfepkkaaLa
namespace Go.Proofs.Ytmhlellhfepkkaa.B
open Go.RowKit Go.Proofs.YtmhlellhfepkkaaW.PrintWords Go.Proofs.YtmhlellhfepkkaaW.PrintLast Go.Proofs.YtmhlellhfepkkaaW.PrintMore Go.Proofs.Ytmhlellhfepkkaa.PAl
set_option linter.unusedVariables false
set_option linter.unusedSimpArgs false
theorem w64 {x : Int} (h0 : -9223372036854775808 ≤ x) (h1 : x < 9223372036854775808) : wrap64 x = x := by unfold wrap64; omega
theorem rd_mid (pre suf : List Int) (x : Int) : rd (pre ++ x :: suf) (pre.length : Int) = x := by
  unfold rd; rw [Int.toNat_natCast]; simp [List.getD, List.getElem?_append_right]
theorem rdOf_mid {α : Type} (d : α) (pre suf : List α) (x : α) : rdOf d (pre ++ x :: suf) (pre.length : Int) = x := by
  unfold rdOf; rw [Int.toNat_natCast]; simp [List.getD, List.getElem?_append_right]
theorem w32_len (x : Int) : (w32 x).length = 4 := rfl
theorem word32_is (x : Int) : fdt_Word32.f x = some (w32 x) := rfl
/-- A word as the page writes it. -/
theorem wordR_is (x : Int) (h0 : 0 ≤ x) (h1 : x < 4611686018427387904) : vireoref26_Word.f x = some (w32 x) := by
  unfold vireoref26_Word.f w32
  have e1 : wrap64 (Int.tdiv x 16777216) = x / 16777216 := by rw [Int.tdiv_eq_ediv_of_nonneg h0]; exact w64 (by omega) (by omega)
  have e2 : wrap64 (Int.tdiv x 65536) = x / 65536 := by rw [Int.tdiv_eq_ediv_of_nonneg h0]; exact w64 (by omega) (by omega)
  have e3 : wrap64 (Int.tdiv x 256) = x / 256 := by rw [Int.tdiv_eq_ediv_of_nonneg h0]; exact w64 (by omega) (by omega)
  rw [e1, e2, e3, Int.tmod_eq_emod_of_nonneg (by omega), Int.tmod_eq_emod_of_nonneg (by omega), Int.tmod_eq_emod_of_nonneg (by omega), Int.tmod_eq_emod_of_nonneg h0]
  simp only [Int.emod_emod_of_dvd, Int.emod_emod]
theorem bytes_loop : ∀ (s1 s2 p1 p2 : List Int), p1.length = p2.length → s1.length = s2.length → p1.length + s1.length < 140737488355328 → Ev (fun k => vireoref02_Bytes.l0 k (p1 ++ s1) (p2 ++ s2) (p1.length : Int)) (decide (s1 = s2))
  | [], [], p1, p2, h1, h2, h3 => Ev.step (f := fun _ => some true) (fun k => by simp only [vireoref02_Bytes.l0]; rw [if_neg (by simp)]) (Ev.now _)
  | x :: s1, y :: s2, p1, p2, h1, h2, h3 => by
    have hc1 : (p1.length : Int) < ((p1 ++ x :: s1).length : Int) := by simp; omega
    have hc2 : (p1.length : Int) < ((p2 ++ y :: s2).length : Int) := by simp; omega
    have hx : rd (p1 ++ x :: s1) (p1.length : Int) = x := rd_mid _ _ _
    have hy : rd (p2 ++ y :: s2) (p1.length : Int) = y := by rw [h1]; exact rd_mid _ _ _
    by_cases e : x = y
    · subst e
      have ih := bytes_loop s1 s2 (p1 ++ [x]) (p2 ++ [x]) (by simp [h1]) (by simpa using h2) (by simp at h3 ⊢; omega)
      have ed : decide (x :: s1 = x :: s2) = decide (s1 = s2) := by simp
      rw [ed]
      refine Ev.step (f := fun k => vireoref02_Bytes.l0 k (p1 ++ [x] ++ s1) (p2 ++ [x] ++ s2) ((p1 ++ [x]).length : Int)) (fun k => ?_) ih
      simp only [vireoref02_Bytes.l0]
      rw [if_pos hc1, if_pos (by omega), if_pos hc2, hx, hy, if_pos rfl, w64 (by omega) (by simp at h3; omega)]
      simp
    · have ed : decide (x :: s1 = y :: s2) = false := by simp [e]
      rw [ed]
      refine Ev.step (f := fun _ => some false) (fun k => ?_) (Ev.now _)
      simp only [vireoref02_Bytes.l0]
      rw [if_pos hc1, if_pos (by omega), if_pos hc2, hx, hy, if_neg e]
/-- Two rows of bytes. -/
theorem bytes_is (a b : List Int) (h : a.length < 140737488355328) : Ev (fun k => vireoref02_Bytes.f k a b) (decide (a = b)) := by
  unfold vireoref02_Bytes.f
  by_cases e : a.length = b.length
  · have := bytes_loop a b [] [] rfl e (by simpa using h)
    refine Ev.congr (f := fun k => vireoref02_Bytes.l0 k a b 0) (fun k => ?_) this
    rw [if_pos (by omega)]
  · have ed : decide (a = b) = false := by simp; rintro rfl; exact e rfl
    rw [ed]
    refine Ev.congr (f := fun _ => some false) (fun k => ?_) (Ev.now _)
    rw [if_neg (by omega)]
theorem cells_loop (l : List Int) (hl : l.length < 35184372088832) : ∀ (suf pre acc : List Int), l = pre ++ suf → acc.length = 4 * pre.length → Ev (fun k => fdt_Cells.l0 k acc l (l.length : Int) (pre.length : Int)) (acc ++ suf.flatMap w32)
  | [], pre, acc, h, ha => by
    subst h
    refine Ev.step (f := fun _ => some (acc ++ List.flatMap w32 [])) (fun k => ?_) (Ev.now _)
    simp only [fdt_Cells.l0]
    rw [if_neg (by simp)]
    simp
  | x :: suf, pre, acc, h, ha => by
    have ih := cells_loop l hl suf (pre ++ [x]) (acc ++ w32 x) (by simp [h]) (by simp [ha, w32_len]; omega)
    have hlen : l.length = pre.length + (suf.length + 1) := by rw [h]; simp
    refine Ev.step (f := fun k => fdt_Cells.l0 k (acc ++ w32 x) l (l.length : Int) ((pre ++ [x]).length : Int)) (fun k => ?_) (by simpa [List.append_assoc] using ih)
    simp only [fdt_Cells.l0]
    have hr : rd l (pre.length : Int) = x := by rw [h]; exact rd_mid _ _ _
    rw [if_pos (by omega), if_pos (by omega), if_pos (by omega), hr, word32_is, Option.bind_some, if_pos (by rw [w32_len]; omega), w64 (by omega) (by omega)]
    simp
theorem cells_is (l : List Int) (hl : l.length < 35184372088832) : Ev (fun k => fdt_Cells.f k l) (l.flatMap w32) := cells_loop l hl l [] [] rfl rfl
theorem texts_loop (l : List ByteArray) (hl : (textsOf l).length < 140737488355328) : ∀ (suf pre : List ByteArray) (acc : List Int), l = pre ++ suf → acc = textsOf pre → Ev (fun k => fdt_Texts.l0 k acc l (l.length : Int) (pre.length : Int)) (textsOf l)
  | [], pre, acc, h, ha => by
    have h' : l = pre := by simpa using h
    subst h' ha
    refine Ev.step (f := fun _ => some (textsOf l)) (fun k => ?_) (Ev.now _)
    simp only [fdt_Texts.l0]
    rw [if_neg (by omega)]
  | x :: suf, pre, acc, h, ha => by
    have ih := texts_loop l hl suf (pre ++ [x]) (acc ++ (bytesOf x ++ [0])) (by simp [h]) (by rw [textsOf_snoc, ha])
    have hlen : l.length = pre.length + (suf.length + 1) := by rw [h]; simp
    have hll := textsOf_len l
    have hta : (textsOf l).length = acc.length + (x.size + 1 + (textsOf suf).length) := by
      have key : ∀ (a b : List ByteArray), textsOf (a ++ b) = textsOf a ++ textsOf b := by
        intro a b; induction a with
        | nil => rfl
        | cons c a ih => simp [textsOf, ih]
      rw [h, key, ha]; simp [textsOf, bytesOf_length]; omega
    refine Ev.step (f := fun k => fdt_Texts.l0 k (acc ++ (bytesOf x ++ [0])) l (l.length : Int) ((pre ++ [x]).length : Int)) (fun k => ?_) ih
    simp only [fdt_Texts.l0]
    have hr : rdOf ByteArray.empty l (pre.length : Int) = x := by rw [h]; exact rdOf_mid _ _ _ _
    have hbl : (bytesOf x).length = x.size := bytesOf_length x
    rw [if_pos (by omega), if_pos (by omega), if_pos (by omega), hr, if_pos (by omega), Option.bind_some, if_pos (by rw [List.length_append]; omega), w64 (by omega) (by omega)]
    simp
theorem texts_is (l : List ByteArray) (hl : (textsOf l).length < 140737488355328) : Ev (fun k => fdt_Texts.f k l) (textsOf l) := texts_loop l hl l [] [] rfl rfl
theorem awake_is : Ev (fun k => vireolaw26_awake.f k) true := Ev.of vireolaw26_awake.mono (k := 20) (by kernel_rfl)
end Go.Proofs.Ytmhlellhfepkkaa.B
