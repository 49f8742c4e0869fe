/- The reference's memory (package vireoref02): what a word that is written adds to the list of bytes; what is read there. Plain, no walk. -/
import Derived.Test.YtlhdildnekllhaaTb
import Derived.Test.YtlhdildnekllhaaLx
import Derived.Test.YtlhdildnekllhaaS2
namespace Go.Proofs.Ytlhdildnekllhaa.H
open Go.RowKit Go.Proofs.YtlhdildnekllhaaW.PrintWords Go.Proofs.YtlhdildnekllhaaW.PrintLast Go.Proofs.Ytlhdildnekllhaa.PAl Go.Proofs.Ytlhdildnekllhaa.Pure Go.Proofs.Ytlhdildnekllhaa.Vw
set_option linter.unusedVariables false
set_option linter.unusedSimpArgs false
abbrev BY := S131
/-- The k-th byte of a word at an address. -/
def byA (a x k : Nat) : BY := ⟨((a + k : Nat) : Int), ((x / 256 ^ k % 256 : Nat) : Int)⟩
def byL (a x n : Nat) : List BY := (List.range n).map (byA a x)
theorem byL_length (a x n : Nat) : (byL a x n).length = n := by simp [byL]
theorem byL_succ (a x n : Nat) : byL a x (n + 1) = byL a x n ++ [byA a x n] := by simp [byL, List.range_succ]
theorem set_mid {α : Type} (a b : List α) (z v : α) (n : Nat) (h : a.length = n) : (a ++ z :: b).set n v = a ++ v :: b := by
  subst h; simp
theorem repl_succ {α : Type} (n : Nat) (z : α) : List.replicate (n + 1) z = z :: List.replicate n z := rfl
theorem w64i (i : Nat) (h : i < 4000000) : wrap64 ((i : Int) + 1) = ((i + 1 : Nat) : Int) := by rw [w64_id _ (by omega) (by omega)]; omega
theorem rw_l0 (a : Int) (d : List Int) (size : Int) (l : List BY) (hl : l.length ≤ 2000) (n : Nat) : ∀ (m k j : Nat), j + m = l.length →
    vireoref02_Write.l0 (m + k + 1) a d (l.take j ++ List.replicate (m + n) z131) (j : Int) size l = vireoref02_Write.l1 k a d (l ++ List.replicate n z131) 0 size l
  | 0, k, j, h => by
    rw [show 0 + k + 1 = k + 1 by omega, vireoref02_Write.l0, if_neg (by omega), show j = l.length by omega, List.take_length, show 0 + n = n by omega]
  | m + 1, k, j, h => by
    have hj : j < l.length := by omega
    rw [show m + 1 + k + 1 = (m + k + 1) + 1 by omega, vireoref02_Write.l0, if_pos (by omega), if_pos (by omega), if_pos (by simp only [List.length_append, List.length_take, List.length_replicate]; omega)]
    rw [show m + 1 + n = (m + n) + 1 by omega, repl_succ, Int.toNat_natCast, set_mid _ _ _ _ _ (by simp only [List.length_take]; omega), w64i j (by omega)]
    have e : (⟨(rd_T131 l (j : Int)).f0, (rd_T131 l (j : Int)).f1⟩ : BY) = l[j] := by
      unfold rd_T131; rw [Int.toNat_natCast, List.getD_eq_getElem?_getD, List.getElem?_eq_getElem hj]; rfl
    rw [e]
    have e2 : l.take j ++ l[j] :: List.replicate (m + n) z131 = l.take (j + 1) ++ List.replicate (m + n) z131 := by
      rw [List.take_succ_eq_append_getElem hj, List.append_assoc]; rfl
    rw [e2]
    exact rw_l0 a d size l hl n m k (j + 1) (by omega)
theorem rw_l1 (a x n : Nat) (hn : n ≤ 8) (ha : a + 8 < 18446744073709551616) (size : Int) (l : List BY) (hl : l.length ≤ 2000) : ∀ (m k j : Nat), j + m = n →
    vireoref02_Write.l1 (m + k + 1) (a : Int) (bys x n) (l ++ byL a x j ++ List.replicate m z131) (j : Int) size l = some (size, l ++ byL a x n, true)
  | 0, k, j, h => by
    rw [show 0 + k + 1 = k + 1 by omega, vireoref02_Write.l1, if_neg (by rw [bys_length]; omega), show j = n by omega]; simp
  | m + 1, k, j, h => by
    have e0 : wrap64 ((l.length : Int) + (j : Int)) = ((l.length + j : Nat) : Int) := by rw [w64_id _ (by omega) (by omega)]; omega
    have e1 : IntKind.u64.wrap ((a : Int) + IntKind.u64.wrap (j : Int)) = ((a + j : Nat) : Int) := by
      rw [u64_nat j (by omega), show (a : Int) + (j : Int) = ((a + j : Nat) : Int) by omega]
      exact u64_nat _ (by omega)
    rw [show m + 1 + k + 1 = (m + k + 1) + 1 by omega, vireoref02_Write.l1, e0, e1, if_pos (by rw [bys_length]; omega), if_pos (by omega), if_pos (by omega), if_pos (by simp only [List.length_append, byL_length, List.length_replicate]; omega)]
    rw [repl_succ, Int.toNat_natCast, set_mid _ _ _ _ _ (by simp only [List.length_append, byL_length]), bys_rd x n j (by omega), w64i j (by omega)]
    have e2 : l ++ byL a x j ++ (⟨((a + j : Nat) : Int), ((x / 256 ^ j % 256 : Nat) : Int)⟩ : BY) :: List.replicate m z131 = l ++ byL a x (j + 1) ++ List.replicate m z131 := by
      rw [byL_succ]; simp [byA]
    rw [e2]
    exact rw_l1 a x n hn ha size l hl m k (j + 1) (by omega)
/-- The bytes then. -/
def stL (l : List BY) (a x : Nat) : List BY := l ++ byL a x 8
theorem rstore_yes (size : Nat) (l : List BY) (a x : Nat) (ha : U a) (hx : U x) (hs : size ≤ 268435456) (hl : l.length ≤ 1000) (h : hasB size a 8 = true) :
    vireoref02_Store.f 6000 (size : Int) l (a : Int) 8 (x : Int) = some ((size : Int), stL l a x, true) := by
  have hb : 2147483648 ≤ a ∧ a + 8 ≤ 2147483648 + size := of_decide_eq_true h
  have hsz : vireoref02_sized.f 8 = some true := by decide +kernel
  have hw : vireoref02_Has.f (size : Int) l (a : Int) 8 = some true := by
    unfold vireoref02_Has.f
    have := within_ref a 8 2147483648 size ha.lt (by decide) (by decide) (by omega)
    rw [show ((8 : Nat) : Int) = 8 from rfl, show ((2147483648 : Nat) : Int) = 2147483648 from rfl] at this
    rw [this, Option.bind_some, decide_eq_true hb]
  have hn : bcn 8 = 8 := by decide +kernel
  unfold vireoref02_Store.f
  rw [hsz, Option.bind_some, if_pos rfl, vireoref01_Bytes_is 6000 (by decide) x hx.lt 8, Option.bind_some, hn]
  have e0 : wrap64 ((l.length : Int) + (8 : Int)) = ((l.length + 8 : Nat) : Int) := by rw [w64_id _ (by omega) (by omega)]; omega
  have e8 : (((bys x 8).length : Nat) : Int) = 8 := by rw [bys_length]; rfl
  have hW : vireoref02_Write.f 6000 (size : Int) l (a : Int) (bys x 8) = some ((size : Int), stL l a x, true) := by
    unfold vireoref02_Write.f
    rw [e8, show IntKind.u64.wrap (8 : Int) = 8 from rfl, hw, Option.bind_some, if_pos rfl, e0, if_pos (by omega), if_pos (by omega), Int.toNat_natCast]
    obtain ⟨k, hk⟩ : ∃ k, 6000 = l.length + (8 + k + 1) + 1 := ⟨6000 - l.length - 10, by omega⟩
    rw [hk]
    have h0 := rw_l0 (a : Int) (bys x 8) (size : Int) l (by omega) 8 l.length (8 + k + 1) 0 (by omega)
    rw [List.take_zero, List.nil_append] at h0
    refine Eq.trans h0 ?_
    have h1 := rw_l1 a x 8 (by decide) (by omega) (size : Int) l (by omega) 8 k 0 (by omega)
    rw [show byL a x 0 = [] from rfl, List.append_nil] at h1
    exact h1
  rw [hW]; rfl
theorem rstore_no (size : Nat) (l : List BY) (a x : Nat) (ha : U a) (hx : U x) (hs : size ≤ 268435456) (h : hasB size a 8 = false) :
    vireoref02_Store.f 6000 (size : Int) l (a : Int) 8 (x : Int) = some ((size : Int), l, false) := by
  have hb : ¬ (2147483648 ≤ a ∧ a + 8 ≤ 2147483648 + size) := of_decide_eq_false h
  have hsz : vireoref02_sized.f 8 = some true := by decide +kernel
  have hw : vireoref02_Has.f (size : Int) l (a : Int) 8 = some false := by
    unfold vireoref02_Has.f
    have := within_ref a 8 2147483648 size ha.lt (by decide) (by decide) (by omega)
    rw [show ((8 : Nat) : Int) = 8 from rfl, show ((2147483648 : Nat) : Int) = 2147483648 from rfl] at this
    rw [this, Option.bind_some, decide_eq_false hb]
  have hn : bcn 8 = 8 := by decide +kernel
  have e8 : (((bys x 8).length : Nat) : Int) = 8 := by rw [bys_length]; rfl
  unfold vireoref02_Store.f
  rw [hsz, Option.bind_some, if_pos rfl, vireoref01_Bytes_is 6000 (by decide) x hx.lt 8, Option.bind_some, hn]
  have hW : vireoref02_Write.f 6000 (size : Int) l (a : Int) (bys x 8) = some ((size : Int), l, false) := by
    unfold vireoref02_Write.f
    rw [e8, show IntKind.u64.wrap (8 : Int) = 8 from rfl, hw, Option.bind_some, if_neg (by decide)]
  rw [hW]; rfl
/-! what is read: the last byte written there, or 0 -/
/-- The byte at an address, after a list of bytes. -/
def lastB (l : List BY) (a : Nat) : Nat := ((l.reverse.find? fun y => decide (y.f0 = (a : Int))).map fun y => y.f1.toNat).getD 0
end Go.Proofs.Ytlhdildnekllhaa.H
