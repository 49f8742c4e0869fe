/- fdt.reader: take. -/
import Derived.Test.YtmhlellhfepkkaaHrd
import Derived.StillTailTactics
namespace Go.Proofs.Ytmhlellhfepkkaa.B
open Go.RowKit Go.Proofs.YtmhlellhfepkkaaW.PrintWords Go.Proofs.YtmhlellhfepkkaaW.PrintLast Go.Proofs.YtmhlellhfepkkaaW.PrintMore Go.Proofs.Ytmhlellhfepkkaa.PAl Go.Proofs.Ytmhlellhfepkkaa.H
attribute [local go_sem ↓] Go.wp_at_zero Go.wp_at_succ
set_option linter.unusedVariables false
set_option linter.unusedSimpArgs false
def tbad (t : List Int) (n : Int) (bad : Bool) : Bool := if n < 0 ∨ (t.length : Int) < n then true else bad
def tgot (t : List Int) (n : Int) : List Int := if n < 0 ∨ (t.length : Int) < n then [] else t.take n.toNat
def trest (t : List Int) (n : Int) : List Int := if n < 0 ∨ (t.length : Int) < n then t else t.drop (min ((n.toNat + 3) / 4 * 4) t.length)
theorem wr64 {n : Int} (h0 : 0 ≤ n) (h1 : n < 9223372036854775808) : IntKind.i64.wrap n = n := by rw [IntKind.wrap_i64]; omega
set_option maxHeartbeats 400000 in
set_option maxRecDepth 100000 in
theorem rtake_c (w0 w : World) (g : Nat) (t nm : List Int) (bad : Bool) (left n : Int) (At : Option Addr) (ct : Nat) (An : Option Addr) (cn : Nat) (h : Rs w0 w g t nm bad left At ct An cn) (hl : t.length < 1099511627776) (hn : n < 1099511627776) :
    Calls Try.prog 47 #[.pointer (some ⟨g, 0, none⟩), .int .i64 n] w fun e w' => ∃ Ao co At' ct', e = .returned (.slice Ao (tgot t n).length co) ∧ Kd.C U8 w0 Ao (tgot t n).length (tgot t n) ∧ (tgot t n).length ≤ co ∧ Rs w0 w' g (trest t n) nm (tbad t n bad) left At' ct' An cn ∧ Kp w w' (fun i => i = g) := by
  have HS := Aside0.mk h
  have HL := Aside0.mk hl
  have hu87 := Try.underlying87
  have c0 : w.cell? ⟨g, 0, none⟩ = some (.slice At t.length ct) := blk_cell h.b 0
  have c2 : w.cell? ⟨g, 2, none⟩ = some (.bool bad) := blk_cell h.b 2
  have f2 : w.frozen? ⟨g, 2, none⟩ = false := blk_frozen h.b 2
  have f0 : w.frozen? ⟨g, 0, none⟩ = false := blk_frozen h.b 0
  have bads : ∀ w', (w'.heap[g]? = some (.cells #[.slice At t.length ct, .slice An nm.length cn, .bool true, .int .i64 left] 87 (0, 0))) → Kp w w' (fun i => i = g) → Rs w0 w' g t nm true left At ct An cn := fun w' p1 p2 => ⟨p1, HS.out.tC, HS.out.tl, HS.out.nC, HS.out.nl, HS.out.ge, HS.out.be.trans (p2.below (fun k _ e => by have := HS.out.ge; omega) HS.out.be.size)⟩
  obtain ⟨p1, p2⟩ := put_at h.b 2 (.bool true) (#[.slice At t.length ct, .slice An nm.length cn, .bool true, .int .i64 left]) rfl
  have PB := Aside0.mk (bads _ p1 p2); have P2 := Aside0.mk p2
  clear bads p1 p2
  by_cases k0 : n < 0
  · have b0 : decide (n < 0) = true := decide_eq_true k0
    have e1 : tgot t n = [] := if_pos (.inl k0)
    have e2 : trest t n = t := if_pos (.inl k0)
    have e3 : tbad t n bad = true := if_pos (.inl k0)
    rw [e1, e2, e3]
    clear h hl hn k0 e1 e2 e3
    go_enter Try.func47, Try.ntmps47
    go_wp2
    refine bodyPost_ret (results_tmp rfl _ _ _) rfl ?_
    exact ⟨none, 0, _, _, rfl, Kd.C_nil _ _, Nat.le_refl _, PB.out, P2.out⟩
  · have b0 : decide (n < 0) = false := decide_eq_false k0
    by_cases k1 : (t.length : Int) < n
    · have b1 : decide ((t.length : Int) < n) = true := decide_eq_true k1
      have b1' : decide (n > (t.length : Int)) = true := decide_eq_true k1
      have e1 : tgot t n = [] := if_pos (.inr k1)
      have e2 : trest t n = t := if_pos (.inr k1)
      have e3 : tbad t n bad = true := if_pos (.inr k1)
      rw [e1, e2, e3]
      clear h hl hn k0 k1 e1 e2 e3
      go_enter Try.func47, Try.ntmps47
      go_wp2
      refine bodyPost_ret (results_tmp rfl _ _ _) rfl ?_
      exact ⟨none, 0, _, _, rfl, Kd.C_nil _ _, Nat.le_refl _, PB.out, P2.out⟩
    · have b1 : decide ((t.length : Int) < n) = false := decide_eq_false k1
      have b1' : decide (n > (t.length : Int)) = false := decide_eq_false k1
      obtain ⟨m, rfl⟩ : ∃ m : Nat, n = (m : Int) := ⟨n.toNat, by omega⟩
      have hm : m ≤ t.length := by omega
      have e1 : tgot t (m : Int) = t.take m := by unfold tgot; rw [if_neg (by omega)]; simp
      have e2 : trest t (m : Int) = t.drop (min ((m + 3) / 4 * 4) t.length) := by unfold trest; rw [if_neg (by omega)]; simp
      have e3 : tbad t (m : Int) bad = bad := if_neg (by omega)
      rw [e1, e2, e3]
      have d1 := eq_true (show (0 : Int) ≤ (m : Int) by omega)
      have d2 := eq_true (show (m : Int) ≤ (ct : Int) by have := h.tl; omega)
      have d3 := eq_true (show m ≤ ct by have := h.tl; omega)
      have d4 := eq_false (show ¬ t.length < m by omega)
      have d5 : decide (t.length < m) = false := decide_eq_false (by omega)
      obtain ⟨q, hq⟩ : ∃ q : Nat, q = (m + 3) / 4 := ⟨_, rfl⟩
      obtain ⟨p, hp⟩ : ∃ p : Nat, p = q * 4 := ⟨_, rfl⟩
      obtain ⟨x, hx⟩ : ∃ x : Nat, x = min p t.length := ⟨_, rfl⟩
      have s1 : IntKind.i64.wrap ((m : Int) + 3) = (m : Int) + 3 := by rw [wr64 (by omega) (by omega)]
      have s2 : IntKind.i64.wrap (((m : Int) + 3).tdiv 4) = (q : Int) := by
        have e : ((m : Int) + 3).tdiv 4 = (q : Int) := by rw [Int.tdiv_eq_ediv_of_nonneg (by omega)]; omega
        rw [e, wr64 (by omega) (by omega)]
      have s3 : IntKind.i64.wrap ((q : Int) * 4) = (p : Int) := by rw [wr64 (by omega) (by omega)]; omega
      have s4 : (if (t.length : Int) < (p : Int) then (t.length : Int) else (p : Int)) = (x : Int) := by split <;> omega
      have s4' : (if t.length < p then (t.length : Int) else (p : Int)) = (x : Int) := by split <;> omega
      have hxl : x ≤ t.length ∧ x ≤ ct := by have := h.tl; omega
      have g1 := eq_true (show (0 : Int) ≤ (x : Int) by omega)
      have g2 := eq_true (show (x : Int) ≤ (t.length : Int) by omega)
      have g3 := eq_true hxl.1
      have HX := Aside0.mk hxl; have HM := Aside0.mk hm
      rw [show min ((m + 3) / 4 * 4) t.length = x from by rw [hx, hp, hq]]
      have HT := Aside0.mk (Kd.C_take h.tC hm)
      have HD := Aside0.mk (Kd.C_drop (m := x) (c := ct) h.tC hxl.1 h.tl)
      clear h hl hn k0 k1 e1 e2 e3 hq hp hx hxl hm
      by_cases c4 : ct = x
      · subst c4
        go_enter Try.func47, Try.ntmps47
        go_wp2
        go_still_tail 16, (by kernel_rfl)
        change wpList _ _ _ _ _ w.drew
        go_wp2
        have hlt : (t.take m).length = m := by rw [List.length_take]; have := HM.out; omega
        have hld : (t.drop ct).length = t.length - ct := List.length_drop ..
        have ht := HT.out
        have hd := HD.out
        rw [hlt] at ht ⊢
        rw [hld] at hd
        rw [if_pos trivial] at hd
        obtain ⟨p1, _⟩ := put_at HS.out.b 0 (.slice (At) (t.length - ct) (0)) (#[.slice (At) (t.length - ct) (0), .slice An nm.length cn, .bool bad, .int .i64 left]) rfl
        have p2 : Kp w ((w.setCell ⟨g, 0, none⟩ (.slice (At) (t.length - ct) (0))).drew) (fun i => i = g) := ((Kp.refl w (fun i => i = g)).setCell (p := ⟨g, 0, none⟩) (.inl rfl) _).drew
        refine bodyPost_ret (results_tmp rfl _ _ _) rfl ?_
        exact ⟨_, _, _, _, rfl, ht, by have := HX.out; have := HM.out; have := HS.out.tl; omega, ⟨by rw [hld]; exact p1, by rw [hld]; exact hd, by rw [hld]; have := HS.out.tl; omega, HS.out.nC, HS.out.nl, HS.out.ge, HS.out.be.trans (p2.below (fun k _ e => by have := HS.out.ge; omega) HS.out.be.size)⟩, p2⟩
      · have cc := eq_false c4
        go_enter Try.func47, Try.ntmps47
        go_wp2
        go_still_tail 16, (by kernel_rfl)
        change wpList _ _ _ _ _ w.drew
        go_wp2
        have hlt : (t.take m).length = m := by rw [List.length_take]; have := HM.out; omega
        have hld : (t.drop x).length = t.length - x := List.length_drop ..
        have ht := HT.out
        have hd := HD.out
        rw [hlt] at ht ⊢
        rw [hld] at hd
        rw [if_neg c4, show x * U8.sz = x from Nat.mul_one x] at hd
        obtain ⟨p1, _⟩ := put_at HS.out.b 0 (.slice (Option.map (fun y => y.add x) At) (t.length - x) (ct - x)) (#[.slice (Option.map (fun y => y.add x) At) (t.length - x) (ct - x), .slice An nm.length cn, .bool bad, .int .i64 left]) rfl
        have p2 : Kp w ((w.setCell ⟨g, 0, none⟩ (.slice (Option.map (fun y => y.add x) At) (t.length - x) (ct - x))).drew) (fun i => i = g) := ((Kp.refl w (fun i => i = g)).setCell (p := ⟨g, 0, none⟩) (.inl rfl) _).drew
        refine bodyPost_ret (results_tmp rfl _ _ _) rfl ?_
        exact ⟨_, _, _, _, rfl, ht, by have := HX.out; have := HM.out; have := HS.out.tl; omega, ⟨by rw [hld]; exact p1, by rw [hld]; exact hd, by rw [hld]; have := HS.out.tl; omega, HS.out.nC, HS.out.nl, HS.out.ge, HS.out.be.trans (p2.below (fun k _ e => by have := HS.out.ge; omega) HS.out.be.size)⟩, p2⟩
end Go.Proofs.Ytmhlellhfepkkaa.B
