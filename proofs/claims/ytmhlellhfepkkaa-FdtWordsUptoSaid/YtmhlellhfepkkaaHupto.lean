/- Rows of texts read as data: how long they are together. -/
import Derived.Test.YtmhlellhfepkkaaVo
import Derived.Test.YtmhlellhfepkkaaRows
namespace Go.Proofs.Ytmhlellhfepkkaa.Vu
open Go.ChangeShapes Go.WideShapes Go.RowKit Go.Deep
open Go.Proofs.YtmhlellhfepkkaaW.PrintWords Go.Proofs.Ytmhlellhfepkkaa.Vo
set_option linter.unusedVariables false
theorem all_append {H : Type} (l r : List (DataW H)) : Rows.uptoBulkAll (l ++ r) = Rows.uptoBulkAll l + Rows.uptoBulkAll r := by
  induction l with
  | nil => simp [Rows.uptoBulkAll]
  | cons x l ih => simp only [List.cons_append, Rows.uptoBulkAll, ih]; omega
def sumOf : List ByteArray → Nat
  | [] => 0
  | s :: l => s.size + 1 + sumOf l
theorem sumOf_snoc (s : ByteArray) : ∀ l, sumOf (l ++ [s]) = sumOf l + (s.size + 1)
  | [] => by simp [sumOf]
  | a :: l => by simp only [List.cons_append, sumOf, sumOf_snoc s l]; omega
theorem opens_strs {P : Program} {t e : TypeId} (ht : P.underlying t = some (.slice e)) (he : P.underlying e = some .string) (hs : P.cellsOf e = 1)
    (H : Type) (enc : TypeId × Value → H) (w : World) (base : Nat) (spare : Nat → Bool) (held : Bool) (fuel : Nat) (cs : List Value) (x : DataW H × List MemPlace) (h : DataW.trod enc P w base spare held fuel t cs = some x) :
    ∃ ys : List ByteArray, (Kd.slice e Kd.string).K w ys cs ∧ sumOf ys ≤ Rows.uptoBulk x.1 := by
  rcases open_slice ht h with ⟨rfl, _⟩ | ⟨a, len, cap, m, n, D, Pl, rfl, hb, hl, hm, hmm, hx, hi⟩
  · exact ⟨[], ⟨none, 0, rfl, Nat.le_refl _, Kd.C_nil _ w⟩, Nat.zero_le _⟩
  · have hlm : len ≤ m := by rw [hmm]; split <;> omega
    have step : ∀ k, k ≤ len → ∃ xs : List ByteArray, xs.length = k ∧ sumOf xs = Rows.uptoBulkAll ((List.range k).map D) ∧ ∀ j p, xs[j]? = some p → ∃ c : List Value, c.length = Kd.string.sz ∧ Kd.string.K w p c ∧ ∀ i u, c[i]? = some u → w.cell? (a.add (j * Kd.string.sz + i)) = some u := by
      intro k
      induction k with
      | zero => intro _; exact ⟨[], rfl, by simp [sumOf, Rows.uptoBulkAll], fun j p h => (by simp at h)⟩
      | succ k ih =>
        intro hk
        obtain ⟨xs, hxl, hg, hc⟩ := ih (by omega)
        obtain ⟨cs', h1, h2⟩ := hi k (by omega)
        obtain ⟨y, rfl, hy, _⟩ := DataW.trod_string he h2
        obtain ⟨hcl, hcc⟩ := at_cells h1
        rw [hs] at h1 hcl hcc
        refine ⟨xs ++ [y], by simp [hxl], ?_, ?_⟩
        · have hD : D k = .lit (.string y.data.toList) := (Prod.mk.inj hy).1
          have hb : y.data.toList.length = y.size := by rw [Array.length_toList]; rfl
          rw [List.range_succ, List.map_append, all_append, sumOf_snoc, hg, List.map_cons, List.map_nil, hD]
          simp only [Rows.uptoBulkAll, Rows.uptoBulk, hb]
        · intro j p hj
          by_cases hjk : j < k
          · rw [List.getElem?_append_left (by omega)] at hj
            exact hc j p hj
          · rw [List.getElem?_append_right (by omega)] at hj
            have hj0 : j - xs.length = 0 := by
              rcases Nat.eq_zero_or_pos (j - xs.length) with h | h
              · exact h
              · rw [List.getElem?_eq_none (by simp; omega)] at hj; cases hj
            rw [hj0] at hj
            obtain rfl : y = p := by simpa using hj
            obtain rfl : j = k := by omega
            refine ⟨[.string y], rfl, rfl, fun i u hu => ?_⟩
            have := hcc i u hu
            rw [← Go.Deep.add_add]
            exact this
    obtain ⟨xs, hxl, hg, hc⟩ := step len (Nat.le_refl _)
    subst hxl
    unfold maxLen at hm
    refine ⟨xs, ⟨some a, cap, rfl, hl, rfl, by omega, fun _ => ⟨a, rfl, hc⟩⟩, ?_⟩
    rw [hx, hg]
    simp only [Rows.uptoBulk]
    omega
end Go.Proofs.Ytmhlellhfepkkaa.Vu
