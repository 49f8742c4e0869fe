/- What the row's data are, with their sizes. -/
import Derived.Test.YtnompdckpenfgaaTopWalk
import Derived.Test.YtnompdckpenfgaaVo
import Derived.SizedLaws
import Derived.WalkKit
import Derived.KernelRfl
/- What the row's data are, with their sizes. -/
namespace Go.Proofs.Ytnompdckpenfgaa.OpTw
open Go.RowKit Go.Deep Go.Proofs.Ytnompdckpenfgaa.PAl Go.Proofs.YtnompdckpenfgaaW.PrintWords Go.Proofs.Ytnompdckpenfgaa.Vo
set_option linter.unusedVariables false
set_option linter.unusedSimpArgs false
/-- Whatever is read as data of this type, of sizes that may be reached, is a value of this kind, and good. -/
def OpensW {α : Type} (P : Program) (t : TypeId) (d : Kd α) (g : α → Prop) : Prop :=
  ∀ (H : Type) (enc : TypeId × Value → H) (w : World) (base : Nat) (spare : Nat → Bool) (held : Bool) (fuel : Nat) (cs : List Value) (x : DataW H × List MemPlace),
    DataW.trod enc P w base spare held fuel t cs = some x → (∀ n ∈ x.1.weights P t, n ≤ reachBytes) → ∃ y : α, d.K w y cs ∧ g y
theorem OpensW.of {α : Type} {P : Program} {t : TypeId} {d : Kd α} {g : α → Prop} (h : Opens P t d g) : OpensW P t d g := fun H enc w base spare held fuel cs x hx _ => h H enc w base spare held fuel cs x hx
theorem weights_mem_all {H : Type} {P : Program} {e : TypeId} : ∀ {ds : List (DataW H)} {d : DataW H}, d ∈ ds → ∀ n ∈ d.weights P e, n ∈ DataW.weightsAll P e ds
  | d0 :: ds, d, hd, n, hn => by
    simp only [DataW.weightsAll, List.mem_append]
    rcases List.mem_cons.1 hd with rfl | hd
    · exact .inl hn
    · exact .inr (weights_mem_all hd n hn)
theorem opensW_slice {α : Type} {P : Program} {t e : TypeId} {d : Kd α} {g : α → Prop} (ht : P.underlying t = some (.slice e)) (hs : P.cellsOf e = d.sz) (he : OpensW P e d g) : OpensW P t (Kd.slice e d) (fun xs => xs.length * P.bytesOf e ≤ reachBytes ∧ ∀ y ∈ xs, g y) := by
  intro H enc w base spare held fuel cs x h hw
  rcases open_slice ht h with ⟨rfl, _⟩ | ⟨a, len, cap, m, n, D, Pl, rfl, hb, hl, hm, hmm, hx, hi⟩
  · exact ⟨[], ⟨none, 0, rfl, Nat.le_refl _, Kd.C_nil d w⟩, by simp, fun _ h => by cases h⟩
  · have hlm : len ≤ m := by rw [hmm]; split <;> omega
    rw [hx] at hw
    simp only [DataW.weights, ht] at hw
    have hw0 : len * P.bytesOf e ≤ reachBytes := by
      have := hw _ (List.mem_cons_self ..)
      rw [List.length_map, List.length_range] at this
      exact Nat.le_trans (Nat.mul_le_mul_right _ (Nat.le_add_right _ _)) this
    have hwi : ∀ k, k < len → ∀ n ∈ (D k).weights P e, n ≤ reachBytes := fun k hk n hn =>
      hw n (List.mem_cons_of_mem _ (List.mem_append.2 (.inl (weights_mem_all (List.mem_map.2 ⟨k, List.mem_range.2 hk, rfl⟩) n hn))))
    have step : ∀ k, k ≤ len → ∃ xs : List α, xs.length = k ∧ (∀ y ∈ xs, g y) ∧ ∀ j p, xs[j]? = some p → ∃ c, c.length = d.sz ∧ d.K w p c ∧ ∀ i u, c[i]? = some u → w.cell? (a.add (j * d.sz + i)) = some u := by
      intro k
      induction k with
      | zero => intro _; exact ⟨[], rfl, ⟨fun _ h => (by cases h), fun j p h => (by simp at h)⟩⟩
      | succ k ih =>
        intro hk
        obtain ⟨xs, hxl, hg, hc⟩ := ih (by omega)
        obtain ⟨cs', h1, h2⟩ := hi k (by omega)
        obtain ⟨y, hy, hgy⟩ := he H enc w base spare held n cs' _ h2 (hwi k (by omega))
        obtain ⟨hcl, hcc⟩ := at_cells h1
        rw [hs] at h1 hcl hcc
        refine ⟨xs ++ [y], by simp [hxl], ?_, ?_⟩
        · intro z hz
          rcases List.mem_append.1 hz with hz | hz
          · exact hg z hz
          · rw [List.mem_singleton.1 hz]; exact hgy
        · intro j p hj
          by_cases hjk : j < k
          · rw [List.getElem?_append_left (by omega)] at hj
            exact hc j p hj
          · rw [List.getElem?_append_right (by omega)] at hj
            have hj0 : j - xs.length = 0 := by
              rcases Nat.eq_zero_or_pos (j - xs.length) with h | h
              · exact h
              · rw [List.getElem?_eq_none (by simp; omega)] at hj; cases hj
            rw [hj0] at hj
            obtain rfl : y = p := by simpa using hj
            obtain rfl : j = k := by omega
            refine ⟨cs', hcl, hy, fun i u hu => ?_⟩
            have := hcc i u hu
            rw [← Go.Deep.add_add]
            exact this
    obtain ⟨xs, hxl, hg, hc⟩ := step len (Nat.le_refl _)
    subst hxl
    unfold maxLen at hm
    exact ⟨xs, ⟨some a, cap, rfl, hl, rfl, by omega, fun _ => ⟨a, rfl, hc⟩⟩, hw0, hg⟩
theorem each_of {H : Type} {P : Program} {t : TypeId} {fs : Array Field} {xs : List (DataW H × List MemPlace)} (ht : P.underlying t = some (.struct fs)) (hw : ∀ n ∈ (DataW.agg (xs.map (·.1))).weights P t, n ≤ reachBytes) (j : Nat) (u : TypeId) (hj : (fs.toList.map (·.type))[j]? = some u) (hl : j < xs.length) : ∀ n ∈ (xs[j]).1.weights P u, n ≤ reachBytes := by
  intro n hn
  simp only [DataW.weights, ht] at hw
  exact hw n (DataW.weights_mem_each hj (by rw [List.getElem?_map, List.getElem?_eq_getElem hl]; rfl) n hn)
def good22 (y : Int) : Prop := (Lit.int .u64 y).wf = true
theorem opens22 : OpensW Try.prog 22 (Kd.int .u64) good22 := .of (opens_int Try.underlying22)
def good5 (y : Int) : Prop := (Lit.int .u8 y).wf = true
theorem opens5 : OpensW Try.prog 5 (Kd.int .u8) good5 := .of (opens_int Try.underlying5)
def good27 (y : (List Int)) : Prop := (y.length * Try.prog.bytesOf 5 ≤ reachBytes ∧ ∀ z ∈ y, good5 z)
theorem opens27 : OpensW Try.prog 27 (Kd.slice 5 (Kd.int .u8)) good27 := opensW_slice Try.underlying27 (by kernel_rfl) opens5
def good29 (y : S29) : Prop := good22 y.f0 ∧ good27 y.f1 ∧ good22 y.f2
theorem opens29 : OpensW Try.prog 29 k29 good29 := by
  intro H enc w base spare held fuel cs x h hw
  obtain ⟨xs, n, rfl, hx_, hlen, hxl, hf⟩ := DataW.trod_struct Try.underlying29 h
  rw [hx_] at hw
  dsimp only at hw
  have hC : Try.prog.cellsOf 29 = 3 := by kernel_rfl
  have hc22 : Try.prog.cellsOf 22 = 1 := by kernel_rfl
  have hc27 : Try.prog.cellsOf 27 = 1 := by kernel_rfl
  rw [hC] at hlen
  obtain ⟨c0, c1, c2, rfl⟩ := len3 hlen
  have hxl2 : xs.length = 3 := hxl
  have h0 : DataW.trod enc Try.prog w base spare held n 22 [c0] = xs[0]? := by
    have q := hf 0 _ rfl
    simpa [hc22] using q
  rw [List.getElem?_eq_getElem (show 0 < xs.length by omega)] at h0
  obtain ⟨y0, k0_, g0⟩ := opens22 H enc w base spare held n [c0] _ h0 (each_of Try.underlying29 hw 0 22 (by rfl) (by omega))
  have e0 : [c0] = [.int .u64 y0] := k0_
  obtain rfl : c0 = _ := (List.cons.inj e0).1
  have h1 : DataW.trod enc Try.prog w base spare held n 27 [c1] = xs[1]? := by
    have q := hf 1 _ rfl
    simpa [hc27] using q
  rw [List.getElem?_eq_getElem (show 1 < xs.length by omega)] at h1
  obtain ⟨y1, k1_, g1⟩ := opens27 H enc w base spare held n [c1] _ h1 (each_of Try.underlying29 hw 1 27 (by rfl) (by omega))
  obtain ⟨A1, a1, e1, l1, r1⟩ := k1_
  obtain rfl : c1 = _ := (List.cons.inj e1).1
  have h2 : DataW.trod enc Try.prog w base spare held n 22 [c2] = xs[2]? := by
    have q := hf 2 _ rfl
    simpa [hc22] using q
  rw [List.getElem?_eq_getElem (show 2 < xs.length by omega)] at h2
  obtain ⟨y2, k2_, g2⟩ := opens22 H enc w base spare held n [c2] _ h2 (each_of Try.underlying29 hw 2 22 (by rfl) (by omega))
  have e2 : [c2] = [.int .u64 y2] := k2_
  obtain rfl : c2 = _ := (List.cons.inj e2).1
  exact ⟨⟨y0, y1, y2⟩, k29_mk w ⟨y0, y1, y2⟩ l1 r1, ⟨g0, g1, g2⟩⟩
def good23 (y : (List S29)) : Prop := (y.length * Try.prog.bytesOf 29 ≤ reachBytes ∧ ∀ z ∈ y, good29 z)
theorem opens23 : OpensW Try.prog 23 (Kd.slice 29 k29) good23 := opensW_slice Try.underlying23 (by kernel_rfl) opens29
/-! #### struct type 25 -/
structure S25 where
  f0 : Int
  f1 : (List S29)
def z25 : S25 := ⟨(0 : Int), ([] : List S29)⟩
def k25 : Kd S25 := Kd.iso (Kd.pair (Kd.int .u64) (Kd.slice 29 k29)) (fun x : S25 => (x.f0, x.f1))
theorem k25_open {w : World} {x : S25} {cs : List Value} (h : k25.K w x cs) : ∃ A1 c1, cs = [.int .u64 x.f0, .slice A1 x.f1.length c1] ∧ x.f1.length ≤ c1 ∧ k29.C w A1 x.f1.length x.f1 := by
  obtain ⟨_, _, rfl, rfl, ⟨A1, c1, rfl, l1, g1⟩⟩ := h
  exact ⟨A1, c1, rfl, l1, g1⟩
theorem k25_openM {w : World} {base : Nat} {ok : Nat → Prop} {x : S25} {cs : List Value} (h : k25.M w base ok x cs) : ∃ v1, cs = [.int .u64 x.f0, v1] ∧ k29.R 29 w base ok v1 x.f1 := by
  obtain ⟨_, _, rfl, rfl, ⟨v1, rfl, g1⟩⟩ := h
  exact ⟨v1, rfl, g1⟩
theorem k25_mk (w : World) (x : S25) {A1 : Option Addr} {c1 : Nat} (l1 : x.f1.length ≤ c1) (g1 : k29.C w A1 x.f1.length x.f1) : k25.K w x [.int .u64 x.f0, .slice A1 x.f1.length c1] := ⟨[.int .u64 x.f0], [.slice A1 x.f1.length c1], rfl, rfl, ⟨A1, c1, rfl, l1, g1⟩⟩
theorem k25_mkM (w : World) (base : Nat) (ok : Nat → Prop) (x : S25) {v1 : Value} (g1 : k29.R 29 w base ok v1 x.f1) : k25.M w base ok x [.int .u64 x.f0, v1] := ⟨[.int .u64 x.f0], [v1], rfl, rfl, ⟨v1, rfl, g1⟩⟩
def rd_T25 (xs : List S25) (i : Int) : S25 := xs.getD i.toNat z25
theorem at_T25 {w : World} {A : Option Addr} {n : Nat} {xs : List S25} (h : Kd.C k25 w A n xs) (i : Int) (h0 : 0 ≤ i) (h1 : i < n) : ∃ ad A1 c1, A = some ad ∧ w.cell? (ad.add (i.toNat * 2)) = some (.int .u64 (rd_T25 xs i).f0) ∧ w.cell? ⟨(ad.add (i.toNat * 2)).block, (ad.add (i.toNat * 2)).off + 1, none⟩ = some (.slice A1 (rd_T25 xs i).f1.length c1) ∧ (rd_T25 xs i).f1.length ≤ c1 ∧ k29.C w A1 (rd_T25 xs i).f1.length (rd_T25 xs i).f1 := by
  obtain ⟨ad, c, e, _, hK, hc0⟩ := Kd.C_get h z25 i h0 h1
  have hc : ∀ j u, c[j]? = some u → w.cell? (ad.add (i.toNat * 2 + j)) = some u := hc0
  obtain ⟨A1, c1, rfl, l1, g1⟩ := k25_open hK
  exact ⟨ad, A1, c1, e, hc 0 _ rfl, by rw [← add_field _ _ 1 (by omega)]; exact hc 1 _ rfl, l1, g1⟩

def good25 (y : S25) : Prop := good22 y.f0 ∧ good23 y.f1
theorem opens25 : OpensW Try.prog 25 k25 good25 := by
  intro H enc w base spare held fuel cs x h hw
  obtain ⟨xs, n, rfl, hx_, hlen, hxl, hf⟩ := DataW.trod_struct Try.underlying25 h
  rw [hx_] at hw
  dsimp only at hw
  have hC : Try.prog.cellsOf 25 = 2 := by kernel_rfl
  have hc22 : Try.prog.cellsOf 22 = 1 := by kernel_rfl
  have hc23 : Try.prog.cellsOf 23 = 1 := by kernel_rfl
  rw [hC] at hlen
  obtain ⟨c0, c1, rfl⟩ := len2 hlen
  have hxl2 : xs.length = 2 := hxl
  have h0 : DataW.trod enc Try.prog w base spare held n 22 [c0] = xs[0]? := by
    have q := hf 0 _ rfl
    simpa [hc22] using q
  rw [List.getElem?_eq_getElem (show 0 < xs.length by omega)] at h0
  obtain ⟨y0, k0_, g0⟩ := opens22 H enc w base spare held n [c0] _ h0 (each_of Try.underlying25 hw 0 22 (by rfl) (by omega))
  have e0 : [c0] = [.int .u64 y0] := k0_
  obtain rfl : c0 = _ := (List.cons.inj e0).1
  have h1 : DataW.trod enc Try.prog w base spare held n 23 [c1] = xs[1]? := by
    have q := hf 1 _ rfl
    simpa [hc23] using q
  rw [List.getElem?_eq_getElem (show 1 < xs.length by omega)] at h1
  obtain ⟨y1, k1_, g1⟩ := opens23 H enc w base spare held n [c1] _ h1 (each_of Try.underlying25 hw 1 23 (by rfl) (by omega))
  obtain ⟨A1, a1, e1, l1, r1⟩ := k1_
  obtain rfl : c1 = _ := (List.cons.inj e1).1
  exact ⟨⟨y0, y1⟩, k25_mk w ⟨y0, y1⟩ l1 r1, ⟨g0, g1⟩⟩
theorem good_top {E s : Int} {l : List S29} (h0 : good25 ⟨E, l⟩) (h1 : good22 s) : TopGood E l s := by
  have u64 : ∀ {x : Int}, (Lit.int .u64 x).wf = true → 0 ≤ x ∧ x < 18446744073709551616 := fun {x} h => by
    simp [Lit.wf] at h
    have e1 : IntKind.u64.min = 0 := rfl
    have e2 : IntKind.u64.max = 18446744073709551615 := rfl
    omega
  have u8 : ∀ {x : Int}, (Lit.int .u8 x).wf = true → 0 ≤ x ∧ x < 256 := fun {x} h => by
    simp [Lit.wf] at h
    have e1 : IntKind.u8.min = 0 := rfl
    have e2 : IntKind.u8.max = 255 := rfl
    omega
  refine ⟨u64 h0.1, fun x hx => ?_, u64 h1⟩
  obtain ⟨a, ⟨b, b'⟩, c⟩ := h0.2.2 x hx
  have hb : Try.prog.bytesOf 5 = 1 := by kernel_rfl
  rw [hb, Nat.mul_one] at b
  refine ⟨⟨(u64 a).1, (u64 a).2, (u64 c).1, (u64 c).2, (Pure.octets_iff _).2 fun y hy => u8 (b' y hy)⟩, Nat.le_trans b (by decide)⟩
end Go.Proofs.Ytnompdckpenfgaa.OpTw
