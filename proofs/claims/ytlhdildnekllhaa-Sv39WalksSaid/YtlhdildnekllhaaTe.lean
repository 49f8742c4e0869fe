/- Sv39Walks: the reference’s memory and tables, and the law, walked by hand. -/
import Derived.Test.YtlhdildnekllhaaTc
import Derived.Test.YtlhdildnekllhaaTb
/- The reference's memory (package vireoref02): what is read is the memory's own bytes. Plain, no walk. -/
namespace Go.Proofs.Ytlhdildnekllhaa.H
open Go.RowKit Go.Proofs.YtlhdildnekllhaaW.PrintWords Go.Proofs.YtlhdildnekllhaaW.PrintLast Go.Proofs.Ytlhdildnekllhaa.PAl Go.Proofs.Ytlhdildnekllhaa.Pure Go.Proofs.Ytlhdildnekllhaa.Vw
set_option linter.unusedVariables false
set_option linter.unusedSimpArgs false
/-- The byte at an address: the last one written there. -/
def lastN (l : List BY) (a : Nat) : Nat → Nat
  | 0 => 0
  | m + 1 => if (l.getD m z131).f0 = (a : Int) then (l.getD m z131).f1.toNat else lastN l a m
def okL (l : List BY) : Prop := ∀ j, j < l.length → 0 ≤ (l.getD j z131).f1
theorem lastN_app (l l' : List BY) (a : Nat) : ∀ m, m ≤ l.length → lastN (l ++ l') a m = lastN l a m
  | 0, _ => rfl
  | m + 1, h => by
    unfold lastN
    rw [lastN_app l l' a m (by omega)]
    simp only [List.getD_eq_getElem?_getD, List.getElem?_append_left (show m < l.length by omega)]
theorem okL_app {l l' : List BY} (h : okL l) (h' : okL l') : okL (l ++ l') := fun j hj => by
  simp only [List.getD_eq_getElem?_getD]
  by_cases e : j < l.length
  · rw [List.getElem?_append_left e]; have := h j e; rwa [List.getD_eq_getElem?_getD] at this
  · rw [List.length_append] at hj
    rw [List.getElem?_append_right (by omega)]; have := h' (j - l.length) (by omega); rwa [List.getD_eq_getElem?_getD] at this
theorem byL_getD (a x n j : Nat) (h : j < n) : (byL a x n).getD j z131 = byA a x j := by
  unfold byL; rw [List.getD_eq_getElem?_getD]; simp [h]
theorem okL_byL (a x n : Nat) : okL (byL a x n) := fun j hj => by
  rw [byL_length] at hj; rw [byL_getD a x n j hj]; show (0 : Int) ≤ ((x / 256 ^ j % 256 : Nat) : Int); omega
theorem lastN_byL (l : List BY) (a x b : Nat) : ∀ n, n ≤ 8 → lastN (l ++ byL a x 8) b (l.length + n) = if a ≤ b ∧ b < a + n then x / 256 ^ (b - a) % 256 else lastN l b l.length
  | 0, _ => by
    rw [if_neg (by omega), Nat.add_zero]; exact lastN_app l _ b _ (Nat.le_refl _)
  | n + 1, h => by
    have ih := lastN_byL l a x b n (by omega)
    have e : (l ++ byL a x 8).getD (l.length + n) z131 = byA a x n := by
      rw [List.getD_eq_getElem?_getD, List.getElem?_append_right (by omega), show l.length + n - l.length = n by omega, ← List.getD_eq_getElem?_getD]
      exact byL_getD a x 8 n (by omega)
    rw [show l.length + (n + 1) = (l.length + n) + 1 by omega, lastN, e, ih]
    have e0 : (byA a x n).f0 = ((a + n : Nat) : Int) := rfl
    have e1 : (byA a x n).f1 = ((x / 256 ^ n % 256 : Nat) : Int) := rfl
    rw [e0, e1, Int.toNat_natCast]
    by_cases c : a + n = b
    · subst c
      rw [if_pos rfl, if_pos (by omega), show a + n - a = n by omega]
    · rw [if_neg (by omega)]
      by_cases c2 : a ≤ b ∧ b < a + n
      · rw [if_pos c2, if_pos (by omega)]
      · rw [if_neg c2, if_neg (by omega)]
theorem stN_at (M : Nat → Nat) (off x b : Nat) : ∀ n, stN M off x n b = if off ≤ b ∧ b < off + n then x / 256 ^ (b - off) % 256 else M b
  | 0 => by rw [if_neg (by omega)]; rfl
  | n + 1 => by
    unfold stN putB
    rw [stN_at M off x b n]
    by_cases c : b = off + n
    · subst c
      rw [if_pos rfl, if_pos (by omega), show off + n - off = n by omega]
    · rw [if_neg c]
      by_cases c2 : off ≤ b ∧ b < off + n
      · rw [if_pos c2, if_pos (by omega)]
      · rw [if_neg c2, if_neg (by omega)]
theorem memL_ok (xs : List PW) : ∀ k, okL (memL xs k)
  | 0 => fun j hj => by cases hj
  | k + 1 => by
    unfold memL stepL
    split
    · exact okL_app (memL_ok xs k) (okL_byL _ _ _)
    · exact memL_ok xs k
/-- The two memories hold the same bytes. -/
theorem mem_same (xs : List PW) (o : Nat) : ∀ k, lastN (memL xs k) (2147483648 + o) (memL xs k).length = memM xs k o
  | 0 => rfl
  | k + 1 => by
    have ih := mem_same xs o k
    unfold memL memM stepL stepM
    generalize (xs.getD k z72).f0.toNat = a
    generalize (xs.getD k z72).f1.toNat = x
    by_cases h : hasB 32768 a 8 = true
    · rw [if_pos h, if_pos h]
      have hb : 2147483648 ≤ a ∧ a + 8 ≤ 2147483648 + 32768 := of_decide_eq_true h
      unfold stL
      rw [List.length_append, byL_length, lastN_byL _ _ _ _ 8 (Nat.le_refl _), stN_at, ih]
      by_cases c : a ≤ 2147483648 + o ∧ 2147483648 + o < a + 8
      · rw [if_pos c, if_pos (by omega), show 2147483648 + o - a = o - (a - 2147483648) by omega]
      · rw [if_neg c, if_neg (by omega)]
    · rw [if_neg h, if_neg h]; exact ih
theorem rget_l0 (a : Nat) (size : Int) (l : List BY) (hl : l.length ≤ 2000) (ho : okL l) : ∀ (m k : Nat), m ≤ l.length → vireoref02_Get.l0 (m + k + 1) (a : Int) ((m : Int) - 1) size l = some ((lastN l a m : Nat) : Int)
  | 0, k, _ => by rw [show 0 + k + 1 = k + 1 by omega, vireoref02_Get.l0, if_neg (by omega)]; rfl
  | m + 1, k, h => by
    have e : ((m + 1 : Nat) : Int) - 1 = (m : Int) := by omega
    rw [show m + 1 + k + 1 = (m + k + 1) + 1 by omega, vireoref02_Get.l0, e, if_pos (by omega), if_pos (by omega), if_pos (by omega)]
    unfold rd_T131
    rw [Int.toNat_natCast]
    unfold lastN
    by_cases c : (l.getD m z131).f0 = (a : Int)
    · rw [if_pos c, if_pos c, Int.toNat_of_nonneg (ho m (by omega))]
    · rw [if_neg c, if_neg c, show wrap64 ((m : Int) - 1) = (m : Int) - 1 from w64_id _ (by omega) (by omega)]
      exact rget_l0 a size l hl ho m k (by omega)
theorem rget_is (a : Nat) (size : Int) (l : List BY) (hl : l.length ≤ 1000) (ho : okL l) : vireoref02_Get.f 2000 size l (a : Int) = some ((lastN l a l.length : Nat) : Int) := by
  unfold vireoref02_Get.f
  rw [show wrap64 ((l.length : Int) - 1) = (l.length : Int) - 1 from w64_id _ (by omega) (by omega)]
  obtain ⟨k, hk⟩ : ∃ k, 2000 = l.length + k + 1 := ⟨2000 - l.length - 1, by omega⟩
  rw [hk]
  exact rget_l0 a size l (by omega) ho l.length k (Nat.le_refl _)
/-- A reference's memory that reads as M. -/
structure Rl (w : World) (A : Option Addr) (n c : Nat) (M : Nat → Nat) : Prop where
  ex : ∃ l : List BY, n = l.length ∧ n ≤ c ∧ Kd.C k131 w A n l ∧ l.length ≤ 1000 ∧ okL l ∧ ∀ o, lastN l (2147483648 + o) l.length = M o
theorem Rl.kpN {w w' : World} {A : Option Addr} {n c : Nat} {M : Nat → Nat} (h : Rl w A n c M) (q : KpN w w') : Rl w' A n c M := by
  obtain ⟨l, h1, h2, h3, h4, h5, h6⟩ := h.ex
  exact ⟨l, h1, h2, Kd.C_below h3 (q.below (fun _ _ h => h.elim) (Nat.le_refl _)), h4, h5, h6⟩
theorem rget_c (A : Option Addr) (n c : Nat) (M : Nat → Nat) (off : Nat) (w : World) (h : Rl w A n c M) :
    Calls Try.prog 89 #[.agg (ramC (.slice A n c)), .int .u64 ((2147483648 + off : Nat) : Int)] w fun e w' => e = .returned (.int .u8 (M off : Int)) ∧ KpN w w' := by
  obtain ⟨l, rfl, h2, h3, h4, h5, h6⟩ := h.ex
  have hf := rget_is (2147483648 + off) 32768 l h4 h5
  rw [h6 off] at hf
  exact (vireoref02_Get.calls 2000 32768 A c l _ _ w h3 h2 hf).mono fun e w' q => ⟨q.1, Kp.of_below q.2 _⟩
theorem rhas_c (A : Option Addr) (n c : Nat) (M : Nat → Nat) (a : Nat) (w : World) (h : Rl w A n c M) (ha : U a) :
    Calls Try.prog 74 #[.agg (ramC (.slice A n c)), .int .u64 (a : Int), .int .u64 8] w fun e w' => e = .returned (.bool (hasB 32768 a 8)) ∧ KpN w w' := by
  obtain ⟨l, rfl, h2, h3, h4, h5, h6⟩ := h.ex
  have hf : vireoref02_Has.f 32768 l (a : Int) 8 = some (hasB 32768 a 8) := by
    unfold vireoref02_Has.f
    have := within_ref a 8 2147483648 32768 ha.lt (by decide) (by decide) (by decide)
    rw [show ((8 : Nat) : Int) = 8 from rfl, show ((2147483648 : Nat) : Int) = 2147483648 from rfl, show ((32768 : Nat) : Int) = 32768 from rfl] at this
    rw [this, Option.bind_some]; rfl
  exact (vireoref02_Has.calls 32768 A c l _ _ _ w h3 h2 hf).mono fun e w' q => ⟨q.1, Kp.of_below q.2 _⟩
end Go.Proofs.Ytlhdildnekllhaa.H
/- The reference's memory (package vireoref02), walked by hand: eight bytes are read, and their word. -/
namespace Go.Proofs.Ytlhdildnekllhaa.H
open Go.RowKit Go.Proofs.YtlhdildnekllhaaW.PrintWords Go.Proofs.YtlhdildnekllhaaW.PrintLast Go.Proofs.Ytlhdildnekllhaa.PAl Go.Proofs.Ytlhdildnekllhaa.Pure Go.Proofs.Ytlhdildnekllhaa.Vw
set_option linter.unusedVariables false
set_option linter.unusedSimpArgs false
def octs (M : Nat → Nat) (off k : Nat) : List Int := (List.range k).map fun i => ((M (off + i) : Nat) : Int)
def octC (M : Nat → Nat) (off k : Nat) : Array Value := (Array.range 8).map fun i => .int .u8 (if i < k then ((M (off + i) : Nat) : Int) else 0)
theorem octC_put (M : Nat → Nat) (off k : Nat) (h : k < 8) : (octC M off k).setIfInBounds k (.int .u8 ((M (off + k) : Nat) : Int)) = octC M off (k + 1) := by
  apply Array.ext (by simp [octC])
  intro i h1 h2
  have h3 : i < (octC M off k).size := by simpa using h1
  rw [Array.getElem_setIfInBounds h3]
  simp only [octC, Array.getElem_map, Array.getElem_range]
  by_cases e : k = i
  · subst e; rw [if_pos rfl, if_pos (by omega)]
  · rw [if_neg e]
    by_cases c : i < k
    · rw [if_pos c, if_pos (by omega)]
    · rw [if_neg c, if_neg (by omega)]
theorem octC_at (M : Nat → Nat) (off k : Nat) (h : k < 8) : (octC M off k)[k]? = some (.int .u8 0) := by
  simp [octC, h]
theorem octC_one (M : Nat → Nat) (off k : Nat) : (octC M off k).all (·.oneCell') = true := by
  rw [Array.all_eq_true]; intro i hi; simp [octC, Value.oneCell']
abbrev BT : TypeId := 5
theorem octC_0 (M : Nat → Nat) (off : Nat) : octC M off 0 = #[.int .u8 0, .int .u8 0, .int .u8 0, .int .u8 0, .int .u8 0, .int .u8 0, .int .u8 0, .int .u8 0] := by
  unfold octC
  rw [show Array.range 8 = #[0, 1, 2, 3, 4, 5, 6, 7] from by decide]
  simp
theorem make8 (W : World) : (Instr.makeSlice 106 (.int .u64 8) (.int .u64 8)).run Try.prog W = .ok (.slice (some ⟨W.heap.size, 0, none⟩) 8 8) (W.alloc (.cells #[.int .u8 0, .int .u8 0, .int .u8 0, .int .u8 0, .int .u8 0, .int .u8 0, .int .u8 0, .int .u8 0] BT)) := by kernel_rfl
theorem ms_ev {P : Program} {ops : Array Oper} {rest : List Oper} {o : Oper} {a : Act} {Q : Exit → Act → World → Prop} {W : World} (hgd : o.guard = none) {t : TypeId} {x y : Operand} (ho : o.op = .makeSlice t x y) {N : Tmp} (_hd : o.dst = some N) (vx vy v : Value) (w1 : World) (hx : a.eval x = vx) (hy : a.eval y = vy)
    (hrun : (Instr.makeSlice t vx vy).run P W = .ok v w1) (h : wpList P ops Q rest (a.put o.dst v) w1) : wpList P ops Q (o :: rest) a W := by
  refine wpList_plain hgd fun K hK => ?_
  have hr : (execOp a.eval o).run P W = .ok (.value v) w1 := by
    unfold execOp
    simp only [ho, hx, hy, Sem.run_bind, hrun, Result.andThen_ok]
    rfl
  unfold Oper.wp
  rw [hr]
  exact hK _ _ h
set_option maxHeartbeats 8000000 in
set_option maxRecDepth 100000 in
theorem rread_yes (A : Option Addr) (n c : Nat) (M : Nat → Nat) (off : Nat) (w : World) (h : Rl w A n c M) (ho : off + 8 ≤ 32768) :
    Calls Try.prog 75 #[.agg (ramC (.slice A n c)), .int .u64 ((2147483648 + off : Nat) : Int), .int .u64 8] w fun e w' => ∃ b, e = .returned (.tuple #[.slice (some ⟨b, 0, none⟩) 8 8, .bool true]) ∧ w'.heap[b]? = some (.cells (octC M off 8) 5 (0, 0)) ∧ KpN w w' := by
  have HA : Aside0 (∀ W, KpN w W → Calls Try.prog 74 #[.agg (ramC (.slice A n c)), .int .u64 ((2147483648 + off : Nat) : Int), .int .u64 8] W fun e w' => e = .returned (.bool true) ∧ KpN W w') := ⟨fun W hW => by
    have := rhas_c A n c M (2147483648 + off) W (h.kpN hW) ⟨by omega⟩
    rw [show hasB 32768 (2147483648 + off) 8 = true from decide_eq_true (by omega)] at this; exact this⟩
  have GE : Aside0 (∀ k W, KpN w W → Calls Try.prog 89 #[.agg (ramC (.slice A n c)), .int .u64 ((2147483648 + (off + k) : Nat) : Int)] W fun e w' => e = .returned (.int .u8 (M (off + k) : Int)) ∧ KpN W w') := ⟨fun k W hW => rget_c A n c M (off + k) W (h.kpN hW)⟩
  obtain ⟨at_, hat⟩ : ∃ at_ : Int, ((2147483648 + off : Nat) : Int) = at_ := ⟨_, rfl⟩
  have HW : Aside0 (∀ k : Nat, k < 8 → IntKind.u64.wrap (at_ + (k : Int)) = ((2147483648 + (off + k) : Nat) : Int)) := ⟨fun k hk => by rw [IntKind.wrap_u64]; omega⟩
  rw [hat] at HA
  rw [hat]
  clear hat ho h
  go_enter Try.func75, Try.ntmps75
  go_wp2_with (first
    | ((with_reducible refine gate_dst (N := 3) rfl ?_); refine bx_ev rfl rfl (N := 3) rfl (ramC (.slice A n c)) rfl ?_; intro q hg_q w1 hb_q hk_q; have Hg_q := Aside0.mk hg_q; clear hg_q)
    | ((with_reducible refine gate_dst (N := 10) rfl ?_); refine wpList_load_row rfl 30 _ rfl q rfl _ (ramC (.slice A n c)) (0, 0) _ (hb_q) Try.underlying30 rfl infoM ?_)
    | (go_at_call 74; refine (HA.out _ hk_q).mono ?_; rintro e w2 ⟨rfl, hk2⟩)
    | ((with_reducible refine gate_dst (N := 16) rfl ?_); refine ms_ev rfl rfl (N := 16) rfl (.int .u64 8) (.int .u64 8) _ _ rfl rfl (make8 _) ?_))
  have N2 : KpN w w2 := hk_q.trans hk2
  have Q2 : Bk w2 q (ramC (.slice A n c)) RT2 := (Bk.mk hb_q).kp hk2 (fun h => h)
  clear hb_q hk_q hk2 Hg_q
  have hnew := heap_alloc_new w2 (.cells #[.int .u8 0, .int .u8 0, .int .u8 0, .int .u8 0, .int .u8 0, .int .u8 0, .int .u8 0, .int .u8 0] BT)
  have k3 : KpN w2 (w2.alloc (.cells #[.int .u8 0, .int .u8 0, .int .u8 0, .int .u8 0, .int .u8 0, .int .u8 0, .int .u8 0, .int .u8 0] BT)) := (Kp.refl _ _).alloc _
  obtain ⟨b, hb⟩ : ∃ b, b = w2.heap.size := ⟨_, rfl⟩
  rw [← hb] at hnew ⊢
  have Hb := Aside0.mk hb
  clear hb
  generalize w2.alloc (.cells #[.int .u8 0, .int .u8 0, .int .u8 0, .int .u8 0, .int .u8 0, .int .u8 0, .int .u8 0, .int .u8 0] BT) = w3 at hnew k3 ⊢
  have Q3 := Q2.kp k3 (fun h => h)
  have hqb : q ≠ b := by have := Hb.out; have := blk_lt Q2.blk; omega
  have hwb : w.heap.size ≤ b := by have := Hb.out; have := N2.size; omega
  have N3 := N2.trans k3
  clear Q2 N2 k3 Hb
  go_loopw [9] (fun i W => ∃ (k : Nat) (z : Int), z = k ∧ k ≤ 8 ∧ i = .int .i64 z ∧ Aside0 (Bk W q (ramC (.slice A n c)) RT2 ∧ W.heap[b]? = some (.cells (octC M off k) BT (0, 0)) ∧ KpN w W)) (fun i _ => 8 - (intOf i).toNat)
  case atStart => exact ⟨0, 0, rfl, by omega, rfl, Q3, by rw [octC_0]; exact hnew, N3⟩
  case round =>
    obtain ⟨k, z, hz, hk, rfl, Inv⟩ := hrel
    clear hnew Q3 N3
    by_cases hk8 : k < 8
    · have e0 : IntKind.u64.wrap (at_ + z) = ((2147483648 + (off + k) : Nat) : Int) := by rw [hz]; exact HW.out k hk8
      have e1 : IntKind.u64.wrap z = z := by rw [hz]; exact u64_nat k (by omega)
      have e2 : z.toNat = k := by omega
      obtain ⟨a1, ha1⟩ : ∃ a1 : Int, ((2147483648 + (off + k) : Nat) : Int) = a1 := ⟨_, rfl⟩
      obtain ⟨v1, hv1⟩ : ∃ v1 : Nat, M (off + k) = v1 := ⟨_, rfl⟩
      have G : Aside0 (∀ W, KpN w W → Calls Try.prog 89 #[.agg (ramC (.slice A n c)), .int .u64 a1] W fun e w' => e = .returned (.int .u8 (v1 : Int)) ∧ KpN W w') := ⟨by rw [← ha1, ← hv1]; exact GE.out k⟩
      have HP : Aside0 ((octC M off k).setIfInBounds k (.int .u8 (v1 : Int)) = octC M off (k + 1)) := ⟨by rw [← hv1]; exact octC_put M off k hk8⟩
      have z0 : 0 ≤ z := by omega
      have z1 : z < 8 := by omega
      rw [ha1] at e0
      clear ha1 hv1 GE HW HA
      have Hz := Aside0.mk hz
      have Hk8 := Aside0.mk hk8
      clear hz hk hk8
      go_wp2_with (first
        | ((with_reducible refine gate_dst (N := 25) rfl ?_); refine wpList_load_row rfl 30 _ rfl q rfl _ (ramC (.slice A n c)) (0, 0) _ (Inv.out.1.blk) Try.underlying30 rfl infoM ?_)
        | (go_at_call 89; refine (G.out _ Inv.out.2.2).mono ?_; rintro e w4 ⟨rfl, hk4⟩; have hb4 := (hk4.block b (blk_lt Inv.out.2.1) (fun h => h)).trans Inv.out.2.1; have fb := blk_frozen hb4 k; have cb := blk_cell hb4 k; rw [octC_at M off k Hk8.out] at cb))
      have REL : Aside0 (Bk (w4.setCell ⟨b, k, none⟩ (.int .u8 (v1 : Int))) q (ramC (.slice A n c)) RT2 ∧ (w4.setCell ⟨b, k, none⟩ (.int .u8 (v1 : Int))).heap[b]? = some (.cells (octC M off (k + 1)) BT (0, 0)) ∧ KpN w (w4.setCell ⟨b, k, none⟩ (.int .u8 (v1 : Int)))) := by
        refine ⟨⟨(Below.heap_setCell _ _ _ _ hqb).trans (Inv.out.1.kp hk4 (fun h => h)).blk⟩, ?_, (Inv.out.2.2.trans hk4).setCell (p := ⟨b, k, none⟩) (.inr hwb) _⟩
        rw [← HP.out]
        exact blk_set hb4 k _
      have hz' := Hz.out
      have hk' := Hk8.out
      clear hb4 fb cb hk4 Inv G e0 e1 e2
      go_roundw
      case rel => exact ⟨k + 1, z + 1, by omega, by omega, rfl, REL⟩
      case measure => simp [intOf]; omega
    · obtain rfl : k = 8 := by omega
      obtain rfl : z = 8 := by omega
      clear hk8 hk hz
      go_wp2
      go_ret2
      exact ⟨b, rfl, Inv.out.2.1, Inv.out.2.2⟩
theorem octs_length (M : Nat → Nat) (off k : Nat) : (octs M off k).length = k := by simp [octs]
theorem octs_rd (M : Nat → Nat) (off k i : Nat) (h : i < k) : rd (octs M off k) (i : Int) = ((M (off + i) : Nat) : Int) := by
  unfold rd octs
  rw [Int.toNat_natCast]
  simp [List.getD_eq_getElem?_getD, h]
theorem octs_lov (M : Nat → Nat) (off : Nat) : ∀ m, m ≤ 8 → lov (octs M off 8) m = ldN M off m
  | 0, _ => rfl
  | m + 1, h => by
    unfold lov ldN
    rw [octs_lov M off m (by omega), octs_rd M off 8 m (by omega), Int.toNat_natCast]
theorem octs_ok {M : Nat → Nat} (h : ∀ o, M o < 256) (off : Nat) : octets (octs M off 8) := fun i => by
  by_cases c : i < 8
  · rw [octs_rd M off 8 i c]; have := h (off + i); omega
  · unfold rd; rw [Int.toNat_natCast, List.getD_eq_getElem?_getD, List.getElem?_eq_none (by rw [octs_length]; omega)]; exact ⟨by decide, by decide⟩
theorem octs_C (M : Nat → Nat) (off b : Nat) (w : World) (h : w.heap[b]? = some (.cells (octC M off 8) BT (0, 0))) : Kd.C (Kd.int .u8) w (some ⟨b, 0, none⟩) 8 (octs M off 8) := by
  refine ⟨octs_length M off 8, by decide, fun _ => ⟨_, rfl, fun j p hp => ?_⟩⟩
  have hj : j < 8 := by
    have := (List.getElem?_eq_some_iff.1 hp).1
    rwa [octs_length] at this
  have hpv : p = ((M (off + j) : Nat) : Int) := by
    simp [octs, hj] at hp; exact hp.symm
  refine ⟨[.int .u8 p], rfl, rfl, fun i u hu => ?_⟩
  rcases i with _ | i
  · have e : (Addr.add ⟨b, 0, none⟩ (j * (Kd.int .u8).sz + 0)) = ⟨b, j, none⟩ := by
      simp [Addr.add, show (Kd.int .u8).sz = 1 from rfl]
      intro h0; exact h0.symm
    rw [e]
    refine (blk_cell h j).trans ?_
    have : u = .int .u8 p := (Option.some.inj hu).symm
    rw [this, hpv]
    simp [octC, hj]
  · cases hu
set_option maxHeartbeats 8000000 in
set_option maxRecDepth 100000 in
theorem rread_no (A : Option Addr) (n c : Nat) (M : Nat → Nat) (a : Nat) (w : World) (h : Rl w A n c M) (ha : U a) (hh : hasB 32768 a 8 = false) :
    Calls Try.prog 75 #[.agg (ramC (.slice A n c)), .int .u64 (a : Int), .int .u64 8] w fun e w' => e = .returned (.tuple #[.slice none 0 0, .bool false]) ∧ KpN w w' := by
  have HA : Aside0 (∀ W, KpN w W → Calls Try.prog 74 #[.agg (ramC (.slice A n c)), .int .u64 (a : Int), .int .u64 8] W fun e w' => e = .returned (.bool false) ∧ KpN W w') := ⟨fun W hW => by
    have := rhas_c A n c M a W (h.kpN hW) ha
    rw [hh] at this; exact this⟩
  clear h hh
  go_enter Try.func75, Try.ntmps75
  go_wp2_with (first
    | ((with_reducible refine gate_dst (N := 3) rfl ?_); refine bx_ev rfl rfl (N := 3) rfl (ramC (.slice A n c)) rfl ?_; intro q hg_q w1 hb_q hk_q; have Hg_q := Aside0.mk hg_q; clear hg_q)
    | ((with_reducible refine gate_dst (N := 10) rfl ?_); refine wpList_load_row rfl 30 _ rfl q rfl _ (ramC (.slice A n c)) (0, 0) _ (hb_q) Try.underlying30 rfl infoM ?_)
    | (go_at_call 74; refine (HA.out _ hk_q).mono ?_; rintro e w2 ⟨rfl, hk2⟩))
  go_ret2
  exact ⟨rfl, hk_q.trans hk2⟩
theorem sized_r8 (w : World) : Calls Try.prog 57 #[.int .i64 8] w fun e w' => e = .returned (.bool true) ∧ ∃ m, w' = w.drewN m :=
  (vireoref02_sized.calls 8 true w (by decide +kernel)).mono fun e w' h => ⟨h.1, h.2.out⟩
def rldV (M : Nat → Nat) (a : Nat) : Nat := if hasB 32768 a 8 = true then ldN M (a - 2147483648) 8 else 0
set_option maxHeartbeats 8000000 in
set_option maxRecDepth 100000 in
theorem rload_c (A : Option Addr) (n c : Nat) (M : Nat → Nat) (a : Nat) (w : World) (h : Rl w A n c M) (hM : ∀ o, M o < 256) (ha : U a) :
    Calls Try.prog 63 #[.agg (ramC (.slice A n c)), .int .u64 (a : Int), .int .i64 8] w fun e w' => e = .returned (.tuple #[.int .u64 (rldV M a : Int), .bool (hasB 32768 a 8)]) ∧ KpN w w' := by
  by_cases hh : hasB 32768 a 8 = true
  · have hb : 2147483648 ≤ a ∧ a + 8 ≤ 2147483648 + 32768 := of_decide_eq_true hh
    obtain ⟨off, rfl⟩ : ∃ off, a = 2147483648 + off := ⟨a - 2147483648, by omega⟩
    have RE : Aside0 (∀ W, KpN w W → Calls Try.prog 75 #[.agg (ramC (.slice A n c)), .int .u64 ((2147483648 + off : Nat) : Int), .int .u64 8] W fun e w' => ∃ b, e = .returned (.tuple #[.slice (some ⟨b, 0, none⟩) 8 8, .bool true]) ∧ w'.heap[b]? = some (.cells (octC M off 8) BT (0, 0)) ∧ KpN W w') := ⟨fun W hW => rread_yes A n c M off W (h.kpN hW) (by omega)⟩
    have HV : Aside0 (rldV M (2147483648 + off) = ldN M off 8) := ⟨by unfold rldV; rw [if_pos hh, show 2147483648 + off - 2147483648 = off by omega]⟩
    have OF : Aside0 (∀ b W, W.heap[b]? = some (.cells (octC M off 8) BT (0, 0)) → Calls Try.prog 76 #[.slice (some ⟨b, 0, none⟩) 8 8] W fun e w' => e = .returned (.int .u64 ((ldN M off 8 : Nat) : Int)) ∧ KpN W w') := ⟨fun b W hW => by
      have hf := vireoref01_Of_is 20 (by decide) (octs M off 8) (octs_ok hM off) (by rw [octs_length]; decide)
      rw [octs_length, show min 8 8 = 8 from rfl, octs_lov M off 8 (Nat.le_refl _)] at hf
      have := vireoref01_Of.calls 20 (some ⟨b, 0, none⟩) 8 (octs M off 8) _ W (by rw [octs_length]; exact octs_C M off b W hW) (by rw [octs_length]; decide) hf
      rw [octs_length] at this
      exact this.mono fun e w' q => ⟨q.1, Kp.of_below q.2 _⟩⟩
    rw [HV.out, hh]
    obtain ⟨at_, hat⟩ : ∃ at_ : Int, ((2147483648 + off : Nat) : Int) = at_ := ⟨_, rfl⟩
    rw [hat] at RE
    rw [hat]
    clear hat h hM ha hh hb HV
    go_enter Try.func63, Try.ntmps63
    go_wp2_with (first
      | ((with_reducible refine gate_dst (N := 3) rfl ?_); refine bx_ev rfl rfl (N := 3) rfl (ramC (.slice A n c)) rfl ?_; intro q hg_q w1 hb_q hk_q; have Hg_q := Aside0.mk hg_q; clear hg_q)
      | (go_at_call 57; refine (sized_r8 _).mono ?_; rintro e w2 ⟨rfl, m2, rfl⟩; have hb2 : (w1.drewN m2).heap[q]? = some (.cells (ramC (.slice A n c)) RT2 (0, 0)) := hb_q)
      | ((with_reducible refine gate_dst (N := 14) rfl ?_); refine wpList_load_row rfl 30 _ rfl q rfl _ (ramC (.slice A n c)) (0, 0) _ (hb2) Try.underlying30 rfl infoM ?_)
      | (go_at_call 75; refine (RE.out _ (hk_q.drewN m2)).mono ?_; rintro e w3 ⟨b, rfl, hb3, hk3⟩)
      | (go_at_call 76; refine (OF.out b _ hb3).mono ?_; rintro e w4 ⟨rfl, hk4⟩))
    go_ret2
    exact ⟨rfl, ((hk_q.drewN m2).trans hk3).trans hk4⟩
  · have hh' : hasB 32768 a 8 = false := by simpa using hh
    have RE : Aside0 (∀ W, KpN w W → Calls Try.prog 75 #[.agg (ramC (.slice A n c)), .int .u64 (a : Int), .int .u64 8] W fun e w' => e = .returned (.tuple #[.slice none 0 0, .bool false]) ∧ KpN W w') := ⟨fun W hW => rread_no A n c M a W (h.kpN hW) ha hh'⟩
    have HV : Aside0 (rldV M a = 0) := ⟨by unfold rldV; rw [if_neg hh]⟩
    have OF : Aside0 (∀ W, Calls Try.prog 76 #[.slice none 0 0] W fun e w' => e = .returned (.int .u64 0) ∧ KpN W w') := ⟨fun W => (vireoref01_Of.calls 20 none 0 [] 0 W ⟨rfl, by decide, fun h => absurd h (by decide)⟩ (Nat.le_refl _) (by decide +kernel)).mono fun e w' q => ⟨q.1, Kp.of_below q.2 _⟩⟩
    rw [HV.out, hh']
    clear h hM ha hh hh' HV
    go_enter Try.func63, Try.ntmps63
    go_wp2_with (first
      | ((with_reducible refine gate_dst (N := 3) rfl ?_); refine bx_ev rfl rfl (N := 3) rfl (ramC (.slice A n c)) rfl ?_; intro q hg_q w1 hb_q hk_q; have Hg_q := Aside0.mk hg_q; clear hg_q)
      | (go_at_call 57; refine (sized_r8 _).mono ?_; rintro e w2 ⟨rfl, m2, rfl⟩; have hb2 : (w1.drewN m2).heap[q]? = some (.cells (ramC (.slice A n c)) RT2 (0, 0)) := hb_q)
      | ((with_reducible refine gate_dst (N := 14) rfl ?_); refine wpList_load_row rfl 30 _ rfl q rfl _ (ramC (.slice A n c)) (0, 0) _ (hb2) Try.underlying30 rfl infoM ?_)
      | (go_at_call 75; refine (RE.out _ (hk_q.drewN m2)).mono ?_; rintro e w3 ⟨rfl, hk3⟩)
      | (go_at_call 76; refine (OF.out _).mono ?_; rintro e w4 ⟨rfl, hk4⟩))
    go_ret2
    exact ⟨rfl, ((hk_q.drewN m2).trans hk3).trans hk4⟩
end Go.Proofs.Ytlhdildnekllhaa.H
/- Regions that draw their order, where each value of the head is known. -/
namespace Go.Proofs.Ytlhdildnekllhaa.H
open Go.RowKit Go.Proofs.YtlhdildnekllhaaW.PrintWords Go.Proofs.YtlhdildnekllhaaW.PrintLast Go.Proofs.Ytlhdildnekllhaa.PAl
set_option linter.unusedVariables false
set_option linter.unusedSimpArgs false
section
variable {P : Program} {ops : Array Oper} {Q : Exit → Act → World → Prop} {o : Oper} {F : Value → World → Prop} {a : Act} {w : World}
theorem sS_bin (hg : o.guard = none) {b : BinOp} {t t2 : TypeId} {x y : Operand} (ho : o.op = .binOp b t x y t2) (vx vy v : Value) (hx : a.eval x = vx) (hy : a.eval y = vy)
    (hrun : (do eqGuard b t x y vx vy; binOp b t vx vy : Sem Value).run P w = .ok v w) (hF : F v w) : stepS P ops Q o F a w := by
  refine sS_in (wanted_none hg _) ?_
  have hr : (execOp a.eval o).run P w = .ok (.value v) w := by
    unfold execOp
    simp only [ho, hx, hy]
    rw [Sem.run_bind, hrun]; rfl
  unfold Oper.wp
  rw [hr]
  exact ⟨v, rfl, hF⟩
theorem sS_load (hg : o.guard = none) {ty : TypeId} {x : Operand} (ho : o.op = .load ty x) (vx v : Value) (hx : a.eval x = vx) (hrun : (Instr.loadAt ty vx).run P w = .ok v w) (hF : F v w) : stepS P ops Q o F a w := by
  refine sS_in (wanted_none hg _) ?_
  have hr : (execOp a.eval o).run P w = .ok (.value v) w := by
    unfold execOp
    simp only [ho, hx, Sem.run_bind, hrun, Result.andThen_ok]
    rfl
  unfold Oper.wp
  rw [hr]
  exact ⟨v, rfl, hF⟩
theorem sS_fa (hg : o.guard = none) {s : TypeId} {x : Operand} {f : Nat} (ho : o.op = .fieldAddr s x f) (vx v : Value) (hx : a.eval x = vx) (hrun : (Instr.fieldAt s vx f).run P w = .ok v w) (hF : F v w) : stepS P ops Q o F a w := by
  refine sS_in (wanted_none hg _) ?_
  have hr : (execOp a.eval o).run P w = .ok (.value v) w := by
    unfold execOp
    simp only [ho, hx, Sem.run_bind, hrun, Result.andThen_ok]
    rfl
  unfold Oper.wp
  rw [hr]
  exact ⟨v, rfl, hF⟩
theorem sS_run (hg : o.guard = none) (v : Value) (w1 : World) (hrun : (execOp a.eval o).run P w = .ok (.value v) w1) (hF : F v w1) : stepS P ops Q o F a w := by
  refine sS_in (wanted_none hg _) ?_
  unfold Oper.wp
  rw [hrun]
  exact ⟨v, rfl, hF⟩
theorem sS_as (hg : o.guard = none) {x : Operand} (ho : o.op = .assign x) (hF : F (a.eval x) w) : stepS P ops Q o F a w := sS_in (wanted_none hg _) (wp_as ho ⟨_, rfl, hF⟩)
theorem sS_ex (hg : o.guard = none) {x : Operand} {j : Nat} (ho : o.op = .extract x j) (vs : Array Value) (v : Value) (hx : a.eval x = .tuple vs) (hj : vs[j]? = some v) (hF : F v w) : stepS P ops Q o F a w :=
  sS_in (wanted_none hg _) (wp_ex ho vs v hx hj ⟨_, rfl, hF⟩)
theorem putN_congr (a0 : Act) (d : Nat → Tmp) (u v : Nat → Value) : ∀ n, (∀ i, i < n → u i = v i) → putN a0 d u n = putN a0 d v n
  | 0, _ => rfl
  | n + 1, h => by unfold putN; rw [putN_congr a0 d u v n (fun i hi => h i (by omega)), h n (by omega)]
/-- The same where each value is known. -/
theorem wp_region_vals {id : Nat} {a0 : Act} (n g : Nat) (L0 : Array Bool) (d : Nat → Tmp) (V : Nat → Value) (hm : P.follows .mixedOrders = true) (hB : slotsR ops n L0 = true) (hg : n + g = ops.size)
    (hdst : ∀ i o, i < n → ops[i]? = some o → o.dst = some (d i)) (hd : ∀ i, i < n → d i < a0.tmps.size) (hinj : ∀ i j, i < n → j < n → d i = d j → i = j)
    (hstep : ∀ i o, i < n → ops[i]? = some o → ∀ a w', KpN w w' → Ag n d a0 a → (∀ j, j < n → Region.waitsFor .any ops i j = true → a.tmps.getD (d j) undef = V j) → stepS P ops Q o (fun v w'' => KpN w' w'' ∧ v = V i) a w')
    (hend : ∀ w', KpN w w' → wpAny P .any ops Q g L0 (putN a0 d V n) w') : (Code.region id ops true).wp P Q a0 w := by
  refine wp_region_slots n g L0 d (fun i v _ => v = V i) (fun _ => false) hm hB hg hdst hd hinj (fun _ _ _ _ _ h _ => h) ?_ ?_
  · intro i o hi ho a w' hk hA hdep
    have h := hstep i o hi ho a w' hk hA hdep
    unfold stepS at h ⊢
    split
    · next hw => rw [if_pos hw] at h; exact Oper.wp_mono (fun a' w'' h => by obtain ⟨v, e, h1, h2⟩ := h; exact ⟨v, e, h1, h2, fun h => by cases h⟩) h
    · next hw => rw [if_neg hw] at h; exact ⟨h.1, h.2, fun h => by cases h⟩
  · intro v w' hk hv _
    rw [putN_congr a0 d v V n hv]
    exact hend w' hk
end
end Go.Proofs.Ytlhdildnekllhaa.H
/- The reference's walk (vireoref10.down), walked by hand: from a table at a level on. Printed by wip/tools/walkdown.py. -/
namespace Go.Proofs.Ytlhdildnekllhaa.H
open Go.RowKit Go.Proofs.YtlhdildnekllhaaW.PrintWords Go.Proofs.YtlhdildnekllhaaW.PrintLast Go.Proofs.Ytlhdildnekllhaa.PAl Go.Proofs.Ytlhdildnekllhaa.Pure Go.Proofs.Ytlhdildnekllhaa.Vw
set_option linter.unusedVariables false
set_option linter.unusedSimpArgs false
abbrev Y2 : TypeId := 25
abbrev T2 : TypeId := 42
theorem infoT2 : (Try.prog.info? T2).map (·.size) = some 4 := by kernel_rfl
theorem zeroT2 (w : World) : (zeroValue T2).run Try.prog w = .ok (.agg (RS.mk 0 false false 0).cells) w := by kernel_rfl
theorem infoY2 : (Try.prog.info? Y2).map (·.size) = some 5 := by kernel_rfl
theorem getr_k (x : Nat) (a n : Int) (w : World) (hx : U x) : Calls Try.prog 22 #[.int .u64 (x : Int), .int .i64 a, .int .i64 n] w fun e w' => e = .returned (.int .u64 ((getW x a n : Nat) : Int)) ∧ KpN w w' :=
  (vireoref01_Get.calls 140 _ _ _ _ w (vireoref01_Get_is x hx.lt a n 140 (by decide))).mono fun e w' h => ⟨h.1, Kp.of_below h.2 _⟩
theorem rodd_c (e : Nat) (w : World) (he : U e) : Calls Try.prog 64 #[.int .u64 (e : Int)] w fun e' w' => e' = .returned (.bool (oddW e)) ∧ KpN w w' :=
  (vireoref10_Odd.calls 150 _ _ w (rodd_is he 150 (by decide))).mono fun _ _ q => ⟨q.1, Kp.of_below q.2 _⟩
theorem rleads_c (e : Nat) (w : World) (he : U e) : Calls Try.prog 65 #[.int .u64 (e : Int)] w fun e' w' => e' = .returned (.bool (leafW e)) ∧ KpN w w' :=
  (vireoref10_Leads.calls 140 _ _ w (rleaf_is he 140 (by decide))).mono fun _ _ q => ⟨q.1, Kp.of_below q.2 _⟩
theorem rallow_c (sp : Nat) (kd md : Int) (sum mxr : Bool) (e : Nat) (w : World) (he : U e) : Calls Try.prog 66 #[.agg (wayC sp kd md sum mxr), .int .u64 (e : Int)] w fun e' w' => e' = .returned (.bool (allowW kd md sum mxr e)) ∧ KpN w w' :=
  (vireoref10_Allowed.calls 150 _ _ _ _ _ _ _ w (rallow_is he _ _ _ _ _ 150 (by decide))).mono fun _ _ q => ⟨q.1, Kp.of_below q.2 _⟩
theorem getlow (x l : Nat) (hl : l ≤ 2) : getW x 0 (12 + 9 * (l : Int)) = x % 2 ^ (12 + 9 * l) := by
  have : l = 0 ∨ l = 1 ∨ l = 2 := by omega
  rcases this with rfl | rfl | rfl
  all_goals
    unfold getW
    rw [if_pos (by decide)]
    simp [show cnt 12 = 12 from rfl, show cnt 21 = 21 from rfl, show cnt 30 = 30 from rfl]
theorem getlow_lt (x l : Nat) (hl : l ≤ 2) : getW x 0 (12 + 9 * (l : Int)) < 1073741824 := by
  rw [getlow x l hl]
  have : l = 0 ∨ l = 1 ∨ l = 2 := by omega
  rcases this with rfl | rfl | rfl
  all_goals omega
theorem or_low (p va l : Nat) (hl : l ≤ 2) (h : getW p 0 (12 + 9 * (l : Int)) = 0) : p ||| getW va 0 (12 + 9 * (l : Int)) = p + getW va 0 (12 + 9 * (l : Int)) := by
  rw [getlow va l hl]
  rw [getlow p l hl] at h
  have hlt : va % 2 ^ (12 + 9 * l) < 2 ^ (12 + 9 * l) := Nat.mod_lt _ (Nat.two_pow_pos _)
  have e : p = 2 ^ (12 + 9 * l) * (p / 2 ^ (12 + 9 * l)) := by
    have := Nat.div_add_mod p (2 ^ (12 + 9 * l)); omega
  rw [e]
  exact (Nat.two_pow_add_eq_or_of_lt hlt _).symm
theorem get9 (x : Nat) (a : Int) : getW x a 9 < 512 := by
  unfold getW; split
  · exact Nat.mod_lt _ (by decide)
  · decide
theorem run_mul9 (l : Int) (w : World) (x y : Operand) : (do eqGuard .mul 3 x y (.int .i64 9) (.int .i64 l); binOp .mul 3 (.int .i64 9) (.int .i64 l) : Sem Value).run Try.prog w = .ok (.int .i64 (IntKind.i64.wrap (9 * l))) w := by kernel_rfl
theorem run_add12 (l : Int) (w : World) (x y : Operand) : (do eqGuard .add 3 x y (.int .i64 12) (.int .i64 l); binOp .add 3 (.int .i64 12) (.int .i64 l) : Sem Value).run Try.prog w = .ok (.int .i64 (IntKind.i64.wrap (12 + l))) w := by kernel_rfl
theorem run_mul8 (l : Int) (w : World) (x y : Operand) : (do eqGuard .mul 23 x y (.int .u64 8) (.int .u64 l); binOp .mul 23 (.int .u64 8) (.int .u64 l) : Sem Value).run Try.prog w = .ok (.int .u64 (IntKind.u64.wrap (8 * l))) w := by kernel_rfl
theorem run_addu (k l : Int) (w : World) (x y : Operand) : (do eqGuard .add 23 x y (.int .u64 k) (.int .u64 l); binOp .add 23 (.int .u64 k) (.int .u64 l) : Sem Value).run Try.prog w = .ok (.int .u64 (IntKind.u64.wrap (k + l))) w := by kernel_rfl
def dD (i : Nat) : Tmp := match i with | 0 => 16 | 1 => 17 | 2 => 18 | 3 => 19 | 4 => 20 | 5 => 21 | 6 => 22 | 7 => 23 | 8 => 24 | 9 => 25 | 10 => 15 | 11 => 26 | 12 => 27 | _ => 11
def vD (A : Option Addr) (n c T va l gw a ld : Nat) (hs : Bool) (i : Nat) : Value := match i with
  | 0 => .agg (ramC (.slice A n c)) | 1 => .int .u64 (T : Int) | 2 => .int .u64 (va : Int) | 3 => .int .i64 (l : Int) | 4 => .int .i64 (9 * (l : Int)) | 5 => .int .i64 (12 + 9 * (l : Int)) | 6 => .int .u64 (gw : Int) | 7 => .int .u64 ((8 * gw : Nat) : Int) | 8 => .int .u64 (a : Int)
  | 9 => .tuple #[.int .u64 (ld : Int), .bool hs] | 10 => .tuple #[.int .u64 (ld : Int), .bool hs] | 11 => .int .u64 (ld : Int) | 12 => .bool hs | _ => .int .u64 (ld : Int)
set_option maxHeartbeats 8000000 in
set_option maxRecDepth 100000 in
theorem down_far (A : Option Addr) (n c : Nat) (M : Nat → Nat) (sp : Nat) (kd md : Int) (sum mxr : Bool) (va T l : Nat) (w : World) (h : Rl w A n c M) (hM : ∀ o, M o < 256) (hv : U va) (hT : U T) (hl : l ≤ 2) (hh : hasB 32768 (entA va T l) 8 = false) :
    Calls Try.prog 38 #[.agg (ramC (.slice A n c)), .agg (wayC sp kd md sum mxr), .int .u64 (va : Int), .int .u64 (T : Int), .int .i64 (l : Int)] w (wPost w (walkL M 32768 kd md sum mxr va (l + 1) T)) := by
  obtain ⟨gw, hgw⟩ : ∃ g, getW va (12 + 9 * (l : Int)) 9 = g := ⟨_, rfl⟩
  obtain ⟨a, ha⟩ : ∃ a, entA va T l = a := ⟨_, rfl⟩
  obtain ⟨ld, hld⟩ : ∃ x, rldV M a = x := ⟨_, rfl⟩
  have hg9 : gw < 512 := by rw [← hgw]; exact get9 _ _
  have ha' : a = (T + 8 * gw) % 18446744073709551616 := by rw [← ha, ← hgw]; rfl
  have haU : U a := ⟨by rw [ha']; exact Nat.mod_lt _ (by decide)⟩
  have E9 : Aside0 (IntKind.i64.wrap (9 * (l : Int)) = 9 * (l : Int)) := ⟨by rw [IntKind.wrap_i64]; omega⟩
  have E12 : Aside0 (IntKind.i64.wrap (12 + 9 * (l : Int)) = 12 + 9 * (l : Int)) := ⟨by rw [IntKind.wrap_i64]; omega⟩
  have EM : Aside0 (IntKind.u64.wrap (8 * (gw : Int)) = ((8 * gw : Nat) : Int)) := ⟨by rw [IntKind.wrap_u64]; omega⟩
  have EA : Aside0 (IntKind.u64.wrap ((T : Int) + ((8 * gw : Nat) : Int)) = (a : Int)) := ⟨by rw [IntKind.wrap_u64, ha']; omega⟩
  have G1 : Aside0 (∀ W, Calls Try.prog 22 #[.int .u64 (va : Int), .int .i64 (12 + 9 * (l : Int)), .int .i64 9] W fun e w' => e = .returned (.int .u64 (gw : Int)) ∧ KpN W w') := ⟨fun W => by rw [← hgw]; exact getr_k va _ _ W hv⟩
  rw [ha] at hh
  obtain ⟨hs, hhs⟩ : ∃ b, hasB 32768 a 8 = b := ⟨_, rfl⟩
  have hsf : hs = false := hhs.symm.trans hh
  have HW : Aside0 (walkL M 32768 kd md sum mxr va (l + 1) T = ⟨0, true, false, 2 - (l : Int)⟩) := ⟨walkL_fault _ _ _ _ _ _ _ _ _ _ ha hh⟩
  have LO : Aside0 (∀ W, KpN w W → Calls Try.prog 63 #[.agg (ramC (.slice A n c)), .int .u64 (a : Int), .int .i64 8] W fun e w' => e = .returned (.tuple #[.int .u64 (ld : Int), .bool hs]) ∧ KpN W w') := ⟨fun W hW => by rw [← hld, ← hhs]; exact rload_c A n c M a W (h.kpN hW) hM haU⟩
  subst hsf
  clear hhs hh hld ha ha' hgw hg9 h hM hT hv haU
  have l0 : (0 : Int) ≤ (l : Int) := by omega
  have l2 : (l : Int) ≤ 2 := by omega
  go_enter Try.func38, Try.ntmps38
  go_wp2_with (first
    | ((with_reducible refine gate_dst (N := 5) rfl ?_); refine bx_ev rfl rfl (N := 5) rfl (ramC (.slice A n c)) rfl ?_; intro q hg_q w1 hb_q hk_q; have Hg_q := Aside0.mk hg_q; clear hg_q)
    | ((with_reducible refine gate_dst (N := 6) rfl ?_); refine bx_ev rfl rfl (N := 6) rfl (wayC sp kd md sum mxr) rfl ?_; intro y hg_y w2 hb_y hk_y; have Hg_y := Aside0.mk hg_y; clear hg_y)
    | ((with_reducible refine gate_dst (N := 10) rfl ?_); refine al_ev rfl rfl (N := 10) rfl _ (zeroT2 _) ?_; intro r hg_r w3 hb_r hk_r; have Hg_r := Aside0.mk hg_r; clear hg_r))
  have Q3 : Bk w3 q (ramC (.slice A n c)) RT2 := ((Bk.mk hb_q).kp hk_y (fun h => h)).kp hk_r (fun h => h)
  have Y3 : Bk w3 y (wayC sp kd md sum mxr) Y2 := (Bk.mk hb_y).kp hk_r (fun h => h)
  have Z3 : Bk w3 r (RS.mk 0 false false 0).cells T2 := ⟨hb_r⟩
  have N3 : KpN w w3 := (hk_q.trans hk_y).trans hk_r
  have hwr : Aside0 (w.heap.size ≤ r) := ⟨by have := Hg_r.out; have := (hk_q.trans hk_y).size; omega⟩
  have hrq : Aside0 (q < r ∧ y < r) := ⟨by have := Hg_r.out; have := blk_lt hb_q; have := blk_lt hb_y; have := hk_y.size; omega⟩
  clear hb_q hb_y hb_r hk_q hk_y hk_r Hg_q Hg_y Hg_r
  have EV : ∀ x y : Operand, True := fun _ _ => trivial
  clear EV
  refine wp_region_vals 14 1 #[true, true, true, true, true, true, true, true, true, true, true, true, true, true, false] dD (vD A n c T va l gw a ld false) (by kernel_rfl) (by kernel_rfl) rfl ?_ ?_ ?_ ?_ ?_
  · intro i o hi ho
    rcases i with _ | _ | _ | _ | _ | _ | _ | _ | _ | _ | _ | _ | _ | _ | i
    all_goals first | (cases ho; rfl) | omega
  · intro i hi
    rcases i with _ | _ | _ | _ | _ | _ | _ | _ | _ | _ | _ | _ | _ | _ | i
    all_goals first | (show (_ : Nat) < 84; decide) | omega
  · intro i j hi hj h
    rcases i with _ | _ | _ | _ | _ | _ | _ | _ | _ | _ | _ | _ | _ | _ | i
    all_goals rcases j with _ | _ | _ | _ | _ | _ | _ | _ | _ | _ | _ | _ | _ | _ | j
    all_goals first | rfl | omega | (exact absurd h (by decide))
  · intro i o hi ho a' W hW hA hdep
    rcases i with _ | _ | _ | _ | _ | _ | _ | _ | _ | _ | _ | _ | _ | _ | i
    · cases ho
      exact sS_ld rfl rfl q (hA.old 5 (by decide)) RT2 (ramC (.slice A n c)) _ (Q3.kp hW (fun h => h)).blk Try.underlying30 rfl infoM ⟨Kp.refl _ _, rfl⟩
    · cases ho; exact sS_mv rfl rfl ⟨Kp.refl _ _, hA.old 3 (by decide)⟩
    · cases ho; exact sS_mv rfl rfl ⟨Kp.refl _ _, hA.old 2 (by decide)⟩
    · cases ho; exact sS_mv rfl rfl ⟨Kp.refl _ _, hA.old 4 (by decide)⟩
    · cases ho
      have h0 : a'.eval (.tmp 19) = _ := hdep 3 (by decide) (by kernel_rfl)
      exact sS_bin rfl rfl (.int .i64 9) (.int .i64 (l : Int)) _ rfl h0 (run_mul9 (l : Int) W _ _) ⟨Kp.refl _ _, by rw [E9.out]; rfl⟩
    · cases ho
      have h0 : a'.eval (.tmp 20) = _ := hdep 4 (by decide) (by kernel_rfl)
      exact sS_bin rfl rfl (.int .i64 12) (.int .i64 (9 * (l : Int))) _ rfl h0 (run_add12 (9 * (l : Int)) W _ _) ⟨Kp.refl _ _, by rw [E12.out]; rfl⟩
    · cases ho
      have h0 : a'.eval (.tmp 18) = _ := hdep 2 (by decide) (by kernel_rfl)
      have h1 : a'.eval (.tmp 21) = _ := hdep 5 (by decide) (by kernel_rfl)
      refine sS_ca rfl rfl Try.func22 (by kernel_rfl) rfl #[.int .u64 (va : Int), .int .i64 (12 + 9 * (l : Int)), .int .i64 9] (by simp only [List.map_toArray, List.map_cons, List.map_nil]; rw [h0, h1]; rfl) ?_
      exact (G1.out W).mono fun e w' h => ⟨_, h.1, h.2, rfl⟩
    · cases ho
      have h0 : a'.eval (.tmp 22) = _ := hdep 6 (by decide) (by kernel_rfl)
      exact sS_bin rfl rfl (.int .u64 8) (.int .u64 (gw : Int)) _ rfl h0 (run_mul8 (gw : Int) W _ _) ⟨Kp.refl _ _, by rw [EM.out]; rfl⟩
    · cases ho
      have h0 : a'.eval (.tmp 17) = _ := hdep 1 (by decide) (by kernel_rfl)
      have h1 : a'.eval (.tmp 23) = _ := hdep 7 (by decide) (by kernel_rfl)
      exact sS_bin rfl rfl (.int .u64 (T : Int)) (.int .u64 ((8 * gw : Nat) : Int)) _ h0 h1 (run_addu (T : Int) ((8 * gw : Nat) : Int) W _ _) ⟨Kp.refl _ _, by rw [EA.out]; rfl⟩
    · cases ho
      have h0 : a'.eval (.tmp 16) = _ := hdep 0 (by decide) (by kernel_rfl)
      have h1 : a'.eval (.tmp 24) = _ := hdep 8 (by decide) (by kernel_rfl)
      refine sS_ca rfl rfl Try.func63 (by kernel_rfl) rfl #[.agg (ramC (.slice A n c)), .int .u64 (a : Int), .int .i64 8] (by simp only [List.map_toArray, List.map_cons, List.map_nil]; rw [h0, h1]; rfl) ?_
      exact (LO.out W (N3.trans hW)).mono fun e w' h => ⟨_, h.1, h.2, rfl⟩
    · cases ho
      exact sS_mv rfl rfl ⟨Kp.refl _ _, hdep 9 (by decide) (by kernel_rfl)⟩
    · cases ho
      exact sS_ex rfl rfl #[.int .u64 (ld : Int), .bool false] (.int .u64 (ld : Int)) (hdep 10 (by decide) (by kernel_rfl)) rfl ⟨Kp.refl _ _, rfl⟩
    · cases ho
      exact sS_ex rfl rfl #[.int .u64 (ld : Int), .bool false] (.bool false) (hdep 10 (by decide) (by kernel_rfl)) rfl ⟨Kp.refl _ _, rfl⟩
    · cases ho
      exact sS_as rfl rfl ⟨Kp.refl _ _, hdep 11 (by decide) (by kernel_rfl)⟩
    · omega
  intro w4 hk4
  refine any_1 (i := 14) (by kernel_rfl) rfl rfl (wp_as rfl ?_)
  refine wpAny_done (by kernel_rfl) ?_ _
  simp only [putN, dD, vD, Act.put, Act.eval, List.setIfInBounds_toArray, List.set_cons_zero, List.set_cons_succ]
  have Q4 := Q3.kp hk4 (fun h => h)
  have Y4 := Y3.kp hk4 (fun h => h)
  have Z4 := Z3.kp hk4 (fun h => h)
  have N4 := N3.trans hk4
  clear Q3 Y3 Z3 N3 hk4 E9 E12 EM EA G1 LO
  go_wp2_with (first
    | ((with_reducible refine gate_store (t := 42) (p := 10) rfl ?_); refine st_ev rfl rfl rfl r ((RS.mk 0 true false (2 - (l : Int))).cells) _ _ rfl rfl (Z4.blk) infoT2 rfl (RS.one _) ?_; intro w5 hs_w5 ks_w5))
  refine bodyPost_ret (results_cell_row rfl _ _ r 42 ((RS.mk 0 true false (2 - (l : Int))).cells) (0, 0) _ rfl (hs_w5) Try.underlying42 rfl infoT2) rfl ?_
  rw [HW.out]
  exact ⟨rfl, N4.then ks_w5 fun i hi (e : i = r) => by have := hwr.out; omega⟩
set_option maxHeartbeats 8000000 in
set_option maxRecDepth 100000 in
theorem down_odd (A : Option Addr) (n c : Nat) (M : Nat → Nat) (sp : Nat) (kd md : Int) (sum mxr : Bool) (va T l : Nat) (w : World) (h : Rl w A n c M) (hM : ∀ o, M o < 256) (hv : U va) (hT : U T) (hl : l ≤ 2) (hh : hasB 32768 (entA va T l) 8 = true) (ho : oddW (rldV M (entA va T l)) = true) :
    Calls Try.prog 38 #[.agg (ramC (.slice A n c)), .agg (wayC sp kd md sum mxr), .int .u64 (va : Int), .int .u64 (T : Int), .int .i64 (l : Int)] w (wPost w (walkL M 32768 kd md sum mxr va (l + 1) T)) := by
  obtain ⟨gw, hgw⟩ : ∃ g, getW va (12 + 9 * (l : Int)) 9 = g := ⟨_, rfl⟩
  obtain ⟨a, ha⟩ : ∃ a, entA va T l = a := ⟨_, rfl⟩
  obtain ⟨ld, hld⟩ : ∃ x, rldV M a = x := ⟨_, rfl⟩
  have hg9 : gw < 512 := by rw [← hgw]; exact get9 _ _
  have ha' : a = (T + 8 * gw) % 18446744073709551616 := by rw [← ha, ← hgw]; rfl
  have haU : U a := ⟨by rw [ha']; exact Nat.mod_lt _ (by decide)⟩
  have E9 : Aside0 (IntKind.i64.wrap (9 * (l : Int)) = 9 * (l : Int)) := ⟨by rw [IntKind.wrap_i64]; omega⟩
  have E12 : Aside0 (IntKind.i64.wrap (12 + 9 * (l : Int)) = 12 + 9 * (l : Int)) := ⟨by rw [IntKind.wrap_i64]; omega⟩
  have EM : Aside0 (IntKind.u64.wrap (8 * (gw : Int)) = ((8 * gw : Nat) : Int)) := ⟨by rw [IntKind.wrap_u64]; omega⟩
  have EA : Aside0 (IntKind.u64.wrap ((T : Int) + ((8 * gw : Nat) : Int)) = (a : Int)) := ⟨by rw [IntKind.wrap_u64, ha']; omega⟩
  have G1 : Aside0 (∀ W, Calls Try.prog 22 #[.int .u64 (va : Int), .int .i64 (12 + 9 * (l : Int)), .int .i64 9] W fun e w' => e = .returned (.int .u64 (gw : Int)) ∧ KpN W w') := ⟨fun W => by rw [← hgw]; exact getr_k va _ _ W hv⟩
  rw [ha] at hh
  obtain ⟨hs, hhs⟩ : ∃ b, hasB 32768 a 8 = b := ⟨_, rfl⟩
  have hsf : hs = true := hhs.symm.trans hh
  have hle : ldN M (a - 2147483648) 8 = ld := by rw [← hld]; unfold rldV; rw [if_pos hh]
  have hlU : U ld := ⟨by rw [← hle]; exact ldN_lt hM _ 8⟩
  obtain ⟨pw, hpw⟩ : ∃ p, pageW ld = p := ⟨_, rfl⟩
  have hpU : U pw := hpw ▸ pageW_ok ld
  obtain ⟨gl, hgl⟩ : ∃ x, getW pw 0 (12 + 9 * (l : Int)) = x := ⟨_, rfl⟩
  obtain ⟨gv, hgv⟩ : ∃ x, getW va 0 (12 + 9 * (l : Int)) = x := ⟨_, rfl⟩
  have HW0 := walkL_has M 32768 kd md sum mxr va l T a ld pw gl gv ha (by rw [hh]; decide) hle hpw hgl hgv
  rw [ha, hld] at ho
  have HW : Aside0 (walkL M 32768 kd md sum mxr va (l + 1) T = badR l) := ⟨by rw [HW0, if_pos ho]⟩
  have LO : Aside0 (∀ W, KpN w W → Calls Try.prog 63 #[.agg (ramC (.slice A n c)), .int .u64 (a : Int), .int .i64 8] W fun e w' => e = .returned (.tuple #[.int .u64 (ld : Int), .bool hs]) ∧ KpN W w') := ⟨fun W hW => by rw [← hld, ← hhs]; exact rload_c A n c M a W (h.kpN hW) hM haU⟩
  have GP : Aside0 (∀ W, Calls Try.prog 22 #[.int .u64 (ld : Int), .int .i64 10, .int .i64 44] W fun e w' => e = .returned (.int .u64 ((getW ld 10 44 : Nat) : Int)) ∧ KpN W w') := ⟨fun W => getr_k ld _ _ W hlU⟩
  have g44 := get44 ld 10
  have HP : Aside0 (IntKind.u64.wrap (((getW ld 10 44 : Nat) : Int) * 4096) = (pw : Int)) := ⟨by rw [IntKind.wrap_u64, ← hpw]; unfold pageW; omega⟩
  generalize getW ld 10 44 = g44v at GP HP
  have GL : Aside0 (∀ W, Calls Try.prog 22 #[.int .u64 (pw : Int), .int .i64 0, .int .i64 (12 + 9 * (l : Int))] W fun e w' => e = .returned (.int .u64 (gl : Int)) ∧ KpN W w') := ⟨fun W => by rw [← hgl]; exact getr_k pw _ _ W hpU⟩
  have GV : Aside0 (∀ W, Calls Try.prog 22 #[.int .u64 (va : Int), .int .i64 0, .int .i64 (12 + 9 * (l : Int))] W fun e w' => e = .returned (.int .u64 (gv : Int)) ∧ KpN W w') := ⟨fun W => by rw [← hgv]; exact getr_k va _ _ W hv⟩
  have OD : Aside0 (∀ W, Calls Try.prog 64 #[.int .u64 (ld : Int)] W fun e w' => e = .returned (.bool (oddW ld)) ∧ KpN W w') := ⟨fun W => rodd_c ld W hlU⟩
  have LE : Aside0 (∀ W, Calls Try.prog 65 #[.int .u64 (ld : Int)] W fun e w' => e = .returned (.bool (leafW ld)) ∧ KpN W w') := ⟨fun W => rleads_c ld W hlU⟩
  have AL : Aside0 (∀ W, Calls Try.prog 66 #[.agg (wayC sp kd md sum mxr), .int .u64 (ld : Int)] W fun e w' => e = .returned (.bool (allowW kd md sum mxr ld)) ∧ KpN W w') := ⟨fun W => rallow_c sp kd md sum mxr ld W hlU⟩
  rw [ho] at OD
  clear ho HW0
  subst hsf
  have eP := HP.out
  have l0 : (0 : Int) ≤ (l : Int) := by omega
  have l2 : (l : Int) ≤ 2 := by omega
  clear hhs hh hld ha ha' hgw hg9 h hM hT hv haU hle hlU hpw hgl hgv hpU g44 HP
  go_enter Try.func38, Try.ntmps38
  go_wp2_with (first
    | ((with_reducible refine gate_dst (N := 5) rfl ?_); refine bx_ev rfl rfl (N := 5) rfl (ramC (.slice A n c)) rfl ?_; intro q hg_q w1 hb_q hk_q; have Hg_q := Aside0.mk hg_q; clear hg_q)
    | ((with_reducible refine gate_dst (N := 6) rfl ?_); refine bx_ev rfl rfl (N := 6) rfl (wayC sp kd md sum mxr) rfl ?_; intro y hg_y w2 hb_y hk_y; have Hg_y := Aside0.mk hg_y; clear hg_y)
    | ((with_reducible refine gate_dst (N := 10) rfl ?_); refine al_ev rfl rfl (N := 10) rfl _ (zeroT2 _) ?_; intro r hg_r w3 hb_r hk_r; have Hg_r := Aside0.mk hg_r; clear hg_r))
  have Q3 : Bk w3 q (ramC (.slice A n c)) RT2 := ((Bk.mk hb_q).kp hk_y (fun h => h)).kp hk_r (fun h => h)
  have Y3 : Bk w3 y (wayC sp kd md sum mxr) Y2 := (Bk.mk hb_y).kp hk_r (fun h => h)
  have Z3 : Bk w3 r (RS.mk 0 false false 0).cells T2 := ⟨hb_r⟩
  have N3 : KpN w w3 := (hk_q.trans hk_y).trans hk_r
  have hwr : Aside0 (w.heap.size ≤ r) := ⟨by have := Hg_r.out; have := (hk_q.trans hk_y).size; omega⟩
  have hrq : Aside0 (q < r ∧ y < r) := ⟨by have := Hg_r.out; have := blk_lt hb_q; have := blk_lt hb_y; have := hk_y.size; omega⟩
  clear hb_q hb_y hb_r hk_q hk_y hk_r Hg_q Hg_y Hg_r
  have EV : ∀ x y : Operand, True := fun _ _ => trivial
  clear EV
  refine wp_region_vals 14 1 #[true, true, true, true, true, true, true, true, true, true, true, true, true, true, false] dD (vD A n c T va l gw a ld true) (by kernel_rfl) (by kernel_rfl) rfl ?_ ?_ ?_ ?_ ?_
  · intro i o hi ho
    rcases i with _ | _ | _ | _ | _ | _ | _ | _ | _ | _ | _ | _ | _ | _ | i
    all_goals first | (cases ho; rfl) | omega
  · intro i hi
    rcases i with _ | _ | _ | _ | _ | _ | _ | _ | _ | _ | _ | _ | _ | _ | i
    all_goals first | (show (_ : Nat) < 84; decide) | omega
  · intro i j hi hj h
    rcases i with _ | _ | _ | _ | _ | _ | _ | _ | _ | _ | _ | _ | _ | _ | i
    all_goals rcases j with _ | _ | _ | _ | _ | _ | _ | _ | _ | _ | _ | _ | _ | _ | j
    all_goals first | rfl | omega | (exact absurd h (by decide))
  · intro i o hi ho a' W hW hA hdep
    rcases i with _ | _ | _ | _ | _ | _ | _ | _ | _ | _ | _ | _ | _ | _ | i
    · cases ho
      exact sS_ld rfl rfl q (hA.old 5 (by decide)) RT2 (ramC (.slice A n c)) _ (Q3.kp hW (fun h => h)).blk Try.underlying30 rfl infoM ⟨Kp.refl _ _, rfl⟩
    · cases ho; exact sS_mv rfl rfl ⟨Kp.refl _ _, hA.old 3 (by decide)⟩
    · cases ho; exact sS_mv rfl rfl ⟨Kp.refl _ _, hA.old 2 (by decide)⟩
    · cases ho; exact sS_mv rfl rfl ⟨Kp.refl _ _, hA.old 4 (by decide)⟩
    · cases ho
      have h0 : a'.eval (.tmp 19) = _ := hdep 3 (by decide) (by kernel_rfl)
      exact sS_bin rfl rfl (.int .i64 9) (.int .i64 (l : Int)) _ rfl h0 (run_mul9 (l : Int) W _ _) ⟨Kp.refl _ _, by rw [E9.out]; rfl⟩
    · cases ho
      have h0 : a'.eval (.tmp 20) = _ := hdep 4 (by decide) (by kernel_rfl)
      exact sS_bin rfl rfl (.int .i64 12) (.int .i64 (9 * (l : Int))) _ rfl h0 (run_add12 (9 * (l : Int)) W _ _) ⟨Kp.refl _ _, by rw [E12.out]; rfl⟩
    · cases ho
      have h0 : a'.eval (.tmp 18) = _ := hdep 2 (by decide) (by kernel_rfl)
      have h1 : a'.eval (.tmp 21) = _ := hdep 5 (by decide) (by kernel_rfl)
      refine sS_ca rfl rfl Try.func22 (by kernel_rfl) rfl #[.int .u64 (va : Int), .int .i64 (12 + 9 * (l : Int)), .int .i64 9] (by simp only [List.map_toArray, List.map_cons, List.map_nil]; rw [h0, h1]; rfl) ?_
      exact (G1.out W).mono fun e w' h => ⟨_, h.1, h.2, rfl⟩
    · cases ho
      have h0 : a'.eval (.tmp 22) = _ := hdep 6 (by decide) (by kernel_rfl)
      exact sS_bin rfl rfl (.int .u64 8) (.int .u64 (gw : Int)) _ rfl h0 (run_mul8 (gw : Int) W _ _) ⟨Kp.refl _ _, by rw [EM.out]; rfl⟩
    · cases ho
      have h0 : a'.eval (.tmp 17) = _ := hdep 1 (by decide) (by kernel_rfl)
      have h1 : a'.eval (.tmp 23) = _ := hdep 7 (by decide) (by kernel_rfl)
      exact sS_bin rfl rfl (.int .u64 (T : Int)) (.int .u64 ((8 * gw : Nat) : Int)) _ h0 h1 (run_addu (T : Int) ((8 * gw : Nat) : Int) W _ _) ⟨Kp.refl _ _, by rw [EA.out]; rfl⟩
    · cases ho
      have h0 : a'.eval (.tmp 16) = _ := hdep 0 (by decide) (by kernel_rfl)
      have h1 : a'.eval (.tmp 24) = _ := hdep 8 (by decide) (by kernel_rfl)
      refine sS_ca rfl rfl Try.func63 (by kernel_rfl) rfl #[.agg (ramC (.slice A n c)), .int .u64 (a : Int), .int .i64 8] (by simp only [List.map_toArray, List.map_cons, List.map_nil]; rw [h0, h1]; rfl) ?_
      exact (LO.out W (N3.trans hW)).mono fun e w' h => ⟨_, h.1, h.2, rfl⟩
    · cases ho
      exact sS_mv rfl rfl ⟨Kp.refl _ _, hdep 9 (by decide) (by kernel_rfl)⟩
    · cases ho
      exact sS_ex rfl rfl #[.int .u64 (ld : Int), .bool true] (.int .u64 (ld : Int)) (hdep 10 (by decide) (by kernel_rfl)) rfl ⟨Kp.refl _ _, rfl⟩
    · cases ho
      exact sS_ex rfl rfl #[.int .u64 (ld : Int), .bool true] (.bool true) (hdep 10 (by decide) (by kernel_rfl)) rfl ⟨Kp.refl _ _, rfl⟩
    · cases ho
      exact sS_as rfl rfl ⟨Kp.refl _ _, hdep 11 (by decide) (by kernel_rfl)⟩
    · omega
  intro w4 hk4
  refine any_1 (i := 14) (by kernel_rfl) rfl rfl (wp_as rfl ?_)
  refine wpAny_done (by kernel_rfl) ?_ _
  simp only [putN, dD, vD, Act.put, Act.eval, List.setIfInBounds_toArray, List.set_cons_zero, List.set_cons_succ]
  have Q4 := Q3.kp hk4 (fun h => h)
  have Y4 := Y3.kp hk4 (fun h => h)
  have Z4 := Z3.kp hk4 (fun h => h)
  have N4 := N3.trans hk4
  clear Q3 Y3 Z3 N3 hk4 E9 E12 EM EA G1 LO
  go_wp2_with (first
    | ((with_reducible refine gate_dst (N := 13) rfl ?_); refine al_ev rfl rfl (N := 13) rfl _ (zeroT2 _) ?_; intro b hg_b w5 hb_b hk_b; have Hg_b := Aside0.mk hg_b; clear hg_b)
    | (((with_reducible refine gate_store (t := 42) (p := 13) rfl ?_); refine st_ev rfl rfl rfl b ((badR l).cells) _ _ rfl rfl (hb_b) infoT2 rfl (RS.one _) ?_; intro w6 hs_w6 ks_w6); have hbr : r ≠ b := (by have := Hg_b.out; have := blk_lt Z4.blk; omega); have hqb : q ≠ b := (by have := Hg_b.out; have := blk_lt Z4.blk; have := hrq.out; omega); have hyb : y ≠ b := (by have := Hg_b.out; have := blk_lt Z4.blk; have := hrq.out; omega); have Q6 := (Q4.kp hk_b (fun h => h)).kp ks_w6 hqb; have Y6 := (Y4.kp hk_b (fun h => h)).kp ks_w6 hyb; have Z6 := (Z4.kp hk_b (fun h => h)).kp ks_w6 hbr; have B6 : Bk w6 b (badR l).cells T2 := ⟨hs_w6⟩; have N6 : KpN w w6 := (N4.trans hk_b).then ks_w6 fun i hi (e : i = b) => by have := hwr.out; have := Hg_b.out; have := blk_lt Z4.blk; omega)
    | (go_at_call 22; refine (GP.out _).mono ?_; rintro e w7 ⟨rfl, hk7⟩; have Q7 := Q6.kp hk7 (fun h => h); have Y7 := Y6.kp hk7 (fun h => h); have Z7 := Z6.kp hk7 (fun h => h); have B7 := B6.kp hk7 (fun h => h); have N7 := N6.trans hk7)
    | (go_at_call 64; refine (OD.out _).mono ?_; rintro e w8 ⟨rfl, hk8⟩; have Q8 := Q7.kp hk8 (fun h => h); have Y8 := Y7.kp hk8 (fun h => h); have Z8 := Z7.kp hk8 (fun h => h); have B8 := B7.kp hk8 (fun h => h); have N8 := N7.trans hk8)
    | ((with_reducible refine gate_dst (N := 50) rfl ?_); refine wpList_load_row rfl 42 _ rfl b rfl _ ((badR l).cells) (0, 0) _ (B8.blk) Try.underlying42 rfl infoT2 ?_)
    | ((with_reducible refine gate_store (t := 42) (p := 10) rfl ?_); refine st_ev rfl rfl rfl r ((badR l).cells) _ _ rfl rfl (Z8.blk) infoT2 rfl (RS.one _) ?_; intro w9 hs_w9 ks_w9))
  refine bodyPost_ret (results_cell_row rfl _ _ r 42 ((badR l).cells) (0, 0) _ rfl (hs_w9) Try.underlying42 rfl infoT2) rfl ?_
  rw [HW.out]
  exact ⟨rfl, N8.then ks_w9 fun i hi (e : i = r) => by have := hwr.out; omega⟩
set_option maxHeartbeats 8000000 in
set_option maxRecDepth 100000 in
theorem down_low (A : Option Addr) (n c : Nat) (M : Nat → Nat) (sp : Nat) (kd md : Int) (sum mxr : Bool) (va T l : Nat) (w : World) (h : Rl w A n c M) (hM : ∀ o, M o < 256) (hv : U va) (hT : U T) (hl : l ≤ 2) (hh : hasB 32768 (entA va T l) 8 = true) (ho : oddW (rldV M (entA va T l)) = false) (hlf : leafW (rldV M (entA va T l)) = false) (h0 : l = 0) :
    Calls Try.prog 38 #[.agg (ramC (.slice A n c)), .agg (wayC sp kd md sum mxr), .int .u64 (va : Int), .int .u64 (T : Int), .int .i64 (l : Int)] w (wPost w (walkL M 32768 kd md sum mxr va (l + 1) T)) := by
  obtain ⟨gw, hgw⟩ : ∃ g, getW va (12 + 9 * (l : Int)) 9 = g := ⟨_, rfl⟩
  obtain ⟨a, ha⟩ : ∃ a, entA va T l = a := ⟨_, rfl⟩
  obtain ⟨ld, hld⟩ : ∃ x, rldV M a = x := ⟨_, rfl⟩
  have hg9 : gw < 512 := by rw [← hgw]; exact get9 _ _
  have ha' : a = (T + 8 * gw) % 18446744073709551616 := by rw [← ha, ← hgw]; rfl
  have haU : U a := ⟨by rw [ha']; exact Nat.mod_lt _ (by decide)⟩
  have E9 : Aside0 (IntKind.i64.wrap (9 * (l : Int)) = 9 * (l : Int)) := ⟨by rw [IntKind.wrap_i64]; omega⟩
  have E12 : Aside0 (IntKind.i64.wrap (12 + 9 * (l : Int)) = 12 + 9 * (l : Int)) := ⟨by rw [IntKind.wrap_i64]; omega⟩
  have EM : Aside0 (IntKind.u64.wrap (8 * (gw : Int)) = ((8 * gw : Nat) : Int)) := ⟨by rw [IntKind.wrap_u64]; omega⟩
  have EA : Aside0 (IntKind.u64.wrap ((T : Int) + ((8 * gw : Nat) : Int)) = (a : Int)) := ⟨by rw [IntKind.wrap_u64, ha']; omega⟩
  have G1 : Aside0 (∀ W, Calls Try.prog 22 #[.int .u64 (va : Int), .int .i64 (12 + 9 * (l : Int)), .int .i64 9] W fun e w' => e = .returned (.int .u64 (gw : Int)) ∧ KpN W w') := ⟨fun W => by rw [← hgw]; exact getr_k va _ _ W hv⟩
  rw [ha] at hh
  obtain ⟨hs, hhs⟩ : ∃ b, hasB 32768 a 8 = b := ⟨_, rfl⟩
  have hsf : hs = true := hhs.symm.trans hh
  have hle : ldN M (a - 2147483648) 8 = ld := by rw [← hld]; unfold rldV; rw [if_pos hh]
  have hlU : U ld := ⟨by rw [← hle]; exact ldN_lt hM _ 8⟩
  obtain ⟨pw, hpw⟩ : ∃ p, pageW ld = p := ⟨_, rfl⟩
  have hpU : U pw := hpw ▸ pageW_ok ld
  obtain ⟨gl, hgl⟩ : ∃ x, getW pw 0 (12 + 9 * (l : Int)) = x := ⟨_, rfl⟩
  obtain ⟨gv, hgv⟩ : ∃ x, getW va 0 (12 + 9 * (l : Int)) = x := ⟨_, rfl⟩
  have HW0 := walkL_has M 32768 kd md sum mxr va l T a ld pw gl gv ha (by rw [hh]; decide) hle hpw hgl hgv
  rw [ha, hld] at ho hlf
  have HW : Aside0 (walkL M 32768 kd md sum mxr va (l + 1) T = badR l) := ⟨by rw [HW0, if_neg (by rw [ho]; decide), if_pos hlf, h0]; rfl⟩
  have LO : Aside0 (∀ W, KpN w W → Calls Try.prog 63 #[.agg (ramC (.slice A n c)), .int .u64 (a : Int), .int .i64 8] W fun e w' => e = .returned (.tuple #[.int .u64 (ld : Int), .bool hs]) ∧ KpN W w') := ⟨fun W hW => by rw [← hld, ← hhs]; exact rload_c A n c M a W (h.kpN hW) hM haU⟩
  have GP : Aside0 (∀ W, Calls Try.prog 22 #[.int .u64 (ld : Int), .int .i64 10, .int .i64 44] W fun e w' => e = .returned (.int .u64 ((getW ld 10 44 : Nat) : Int)) ∧ KpN W w') := ⟨fun W => getr_k ld _ _ W hlU⟩
  have g44 := get44 ld 10
  have HP : Aside0 (IntKind.u64.wrap (((getW ld 10 44 : Nat) : Int) * 4096) = (pw : Int)) := ⟨by rw [IntKind.wrap_u64, ← hpw]; unfold pageW; omega⟩
  generalize getW ld 10 44 = g44v at GP HP
  have GL : Aside0 (∀ W, Calls Try.prog 22 #[.int .u64 (pw : Int), .int .i64 0, .int .i64 (12 + 9 * (l : Int))] W fun e w' => e = .returned (.int .u64 (gl : Int)) ∧ KpN W w') := ⟨fun W => by rw [← hgl]; exact getr_k pw _ _ W hpU⟩
  have GV : Aside0 (∀ W, Calls Try.prog 22 #[.int .u64 (va : Int), .int .i64 0, .int .i64 (12 + 9 * (l : Int))] W fun e w' => e = .returned (.int .u64 (gv : Int)) ∧ KpN W w') := ⟨fun W => by rw [← hgv]; exact getr_k va _ _ W hv⟩
  have OD : Aside0 (∀ W, Calls Try.prog 64 #[.int .u64 (ld : Int)] W fun e w' => e = .returned (.bool (oddW ld)) ∧ KpN W w') := ⟨fun W => rodd_c ld W hlU⟩
  have LE : Aside0 (∀ W, Calls Try.prog 65 #[.int .u64 (ld : Int)] W fun e w' => e = .returned (.bool (leafW ld)) ∧ KpN W w') := ⟨fun W => rleads_c ld W hlU⟩
  have AL : Aside0 (∀ W, Calls Try.prog 66 #[.agg (wayC sp kd md sum mxr), .int .u64 (ld : Int)] W fun e w' => e = .returned (.bool (allowW kd md sum mxr ld)) ∧ KpN W w') := ⟨fun W => rallow_c sp kd md sum mxr ld W hlU⟩
  rw [ho] at OD
  rw [hlf] at LE
  have t0 : ((l : Int) == 0) = true := by rw [h0]; rfl
  clear ho hlf HW0 h0
  subst hsf
  have eP := HP.out
  have l0 : (0 : Int) ≤ (l : Int) := by omega
  have l2 : (l : Int) ≤ 2 := by omega
  clear hhs hh hld ha ha' hgw hg9 h hM hT hv haU hle hlU hpw hgl hgv hpU g44 HP
  go_enter Try.func38, Try.ntmps38
  go_wp2_with (first
    | ((with_reducible refine gate_dst (N := 5) rfl ?_); refine bx_ev rfl rfl (N := 5) rfl (ramC (.slice A n c)) rfl ?_; intro q hg_q w1 hb_q hk_q; have Hg_q := Aside0.mk hg_q; clear hg_q)
    | ((with_reducible refine gate_dst (N := 6) rfl ?_); refine bx_ev rfl rfl (N := 6) rfl (wayC sp kd md sum mxr) rfl ?_; intro y hg_y w2 hb_y hk_y; have Hg_y := Aside0.mk hg_y; clear hg_y)
    | ((with_reducible refine gate_dst (N := 10) rfl ?_); refine al_ev rfl rfl (N := 10) rfl _ (zeroT2 _) ?_; intro r hg_r w3 hb_r hk_r; have Hg_r := Aside0.mk hg_r; clear hg_r))
  have Q3 : Bk w3 q (ramC (.slice A n c)) RT2 := ((Bk.mk hb_q).kp hk_y (fun h => h)).kp hk_r (fun h => h)
  have Y3 : Bk w3 y (wayC sp kd md sum mxr) Y2 := (Bk.mk hb_y).kp hk_r (fun h => h)
  have Z3 : Bk w3 r (RS.mk 0 false false 0).cells T2 := ⟨hb_r⟩
  have N3 : KpN w w3 := (hk_q.trans hk_y).trans hk_r
  have hwr : Aside0 (w.heap.size ≤ r) := ⟨by have := Hg_r.out; have := (hk_q.trans hk_y).size; omega⟩
  have hrq : Aside0 (q < r ∧ y < r) := ⟨by have := Hg_r.out; have := blk_lt hb_q; have := blk_lt hb_y; have := hk_y.size; omega⟩
  clear hb_q hb_y hb_r hk_q hk_y hk_r Hg_q Hg_y Hg_r
  have EV : ∀ x y : Operand, True := fun _ _ => trivial
  clear EV
  refine wp_region_vals 14 1 #[true, true, true, true, true, true, true, true, true, true, true, true, true, true, false] dD (vD A n c T va l gw a ld true) (by kernel_rfl) (by kernel_rfl) rfl ?_ ?_ ?_ ?_ ?_
  · intro i o hi ho
    rcases i with _ | _ | _ | _ | _ | _ | _ | _ | _ | _ | _ | _ | _ | _ | i
    all_goals first | (cases ho; rfl) | omega
  · intro i hi
    rcases i with _ | _ | _ | _ | _ | _ | _ | _ | _ | _ | _ | _ | _ | _ | i
    all_goals first | (show (_ : Nat) < 84; decide) | omega
  · intro i j hi hj h
    rcases i with _ | _ | _ | _ | _ | _ | _ | _ | _ | _ | _ | _ | _ | _ | i
    all_goals rcases j with _ | _ | _ | _ | _ | _ | _ | _ | _ | _ | _ | _ | _ | _ | j
    all_goals first | rfl | omega | (exact absurd h (by decide))
  · intro i o hi ho a' W hW hA hdep
    rcases i with _ | _ | _ | _ | _ | _ | _ | _ | _ | _ | _ | _ | _ | _ | i
    · cases ho
      exact sS_ld rfl rfl q (hA.old 5 (by decide)) RT2 (ramC (.slice A n c)) _ (Q3.kp hW (fun h => h)).blk Try.underlying30 rfl infoM ⟨Kp.refl _ _, rfl⟩
    · cases ho; exact sS_mv rfl rfl ⟨Kp.refl _ _, hA.old 3 (by decide)⟩
    · cases ho; exact sS_mv rfl rfl ⟨Kp.refl _ _, hA.old 2 (by decide)⟩
    · cases ho; exact sS_mv rfl rfl ⟨Kp.refl _ _, hA.old 4 (by decide)⟩
    · cases ho
      have h0 : a'.eval (.tmp 19) = _ := hdep 3 (by decide) (by kernel_rfl)
      exact sS_bin rfl rfl (.int .i64 9) (.int .i64 (l : Int)) _ rfl h0 (run_mul9 (l : Int) W _ _) ⟨Kp.refl _ _, by rw [E9.out]; rfl⟩
    · cases ho
      have h0 : a'.eval (.tmp 20) = _ := hdep 4 (by decide) (by kernel_rfl)
      exact sS_bin rfl rfl (.int .i64 12) (.int .i64 (9 * (l : Int))) _ rfl h0 (run_add12 (9 * (l : Int)) W _ _) ⟨Kp.refl _ _, by rw [E12.out]; rfl⟩
    · cases ho
      have h0 : a'.eval (.tmp 18) = _ := hdep 2 (by decide) (by kernel_rfl)
      have h1 : a'.eval (.tmp 21) = _ := hdep 5 (by decide) (by kernel_rfl)
      refine sS_ca rfl rfl Try.func22 (by kernel_rfl) rfl #[.int .u64 (va : Int), .int .i64 (12 + 9 * (l : Int)), .int .i64 9] (by simp only [List.map_toArray, List.map_cons, List.map_nil]; rw [h0, h1]; rfl) ?_
      exact (G1.out W).mono fun e w' h => ⟨_, h.1, h.2, rfl⟩
    · cases ho
      have h0 : a'.eval (.tmp 22) = _ := hdep 6 (by decide) (by kernel_rfl)
      exact sS_bin rfl rfl (.int .u64 8) (.int .u64 (gw : Int)) _ rfl h0 (run_mul8 (gw : Int) W _ _) ⟨Kp.refl _ _, by rw [EM.out]; rfl⟩
    · cases ho
      have h0 : a'.eval (.tmp 17) = _ := hdep 1 (by decide) (by kernel_rfl)
      have h1 : a'.eval (.tmp 23) = _ := hdep 7 (by decide) (by kernel_rfl)
      exact sS_bin rfl rfl (.int .u64 (T : Int)) (.int .u64 ((8 * gw : Nat) : Int)) _ h0 h1 (run_addu (T : Int) ((8 * gw : Nat) : Int) W _ _) ⟨Kp.refl _ _, by rw [EA.out]; rfl⟩
    · cases ho
      have h0 : a'.eval (.tmp 16) = _ := hdep 0 (by decide) (by kernel_rfl)
      have h1 : a'.eval (.tmp 24) = _ := hdep 8 (by decide) (by kernel_rfl)
      refine sS_ca rfl rfl Try.func63 (by kernel_rfl) rfl #[.agg (ramC (.slice A n c)), .int .u64 (a : Int), .int .i64 8] (by simp only [List.map_toArray, List.map_cons, List.map_nil]; rw [h0, h1]; rfl) ?_
      exact (LO.out W (N3.trans hW)).mono fun e w' h => ⟨_, h.1, h.2, rfl⟩
    · cases ho
      exact sS_mv rfl rfl ⟨Kp.refl _ _, hdep 9 (by decide) (by kernel_rfl)⟩
    · cases ho
      exact sS_ex rfl rfl #[.int .u64 (ld : Int), .bool true] (.int .u64 (ld : Int)) (hdep 10 (by decide) (by kernel_rfl)) rfl ⟨Kp.refl _ _, rfl⟩
    · cases ho
      exact sS_ex rfl rfl #[.int .u64 (ld : Int), .bool true] (.bool true) (hdep 10 (by decide) (by kernel_rfl)) rfl ⟨Kp.refl _ _, rfl⟩
    · cases ho
      exact sS_as rfl rfl ⟨Kp.refl _ _, hdep 11 (by decide) (by kernel_rfl)⟩
    · omega
  intro w4 hk4
  refine any_1 (i := 14) (by kernel_rfl) rfl rfl (wp_as rfl ?_)
  refine wpAny_done (by kernel_rfl) ?_ _
  simp only [putN, dD, vD, Act.put, Act.eval, List.setIfInBounds_toArray, List.set_cons_zero, List.set_cons_succ]
  have Q4 := Q3.kp hk4 (fun h => h)
  have Y4 := Y3.kp hk4 (fun h => h)
  have Z4 := Z3.kp hk4 (fun h => h)
  have N4 := N3.trans hk4
  clear Q3 Y3 Z3 N3 hk4 E9 E12 EM EA G1 LO
  go_wp2_with (first
    | ((with_reducible refine gate_dst (N := 13) rfl ?_); refine al_ev rfl rfl (N := 13) rfl _ (zeroT2 _) ?_; intro b hg_b w5 hb_b hk_b; have Hg_b := Aside0.mk hg_b; clear hg_b)
    | (((with_reducible refine gate_store (t := 42) (p := 13) rfl ?_); refine st_ev rfl rfl rfl b ((badR l).cells) _ _ rfl rfl (hb_b) infoT2 rfl (RS.one _) ?_; intro w6 hs_w6 ks_w6); have hbr : r ≠ b := (by have := Hg_b.out; have := blk_lt Z4.blk; omega); have hqb : q ≠ b := (by have := Hg_b.out; have := blk_lt Z4.blk; have := hrq.out; omega); have hyb : y ≠ b := (by have := Hg_b.out; have := blk_lt Z4.blk; have := hrq.out; omega); have Q6 := (Q4.kp hk_b (fun h => h)).kp ks_w6 hqb; have Y6 := (Y4.kp hk_b (fun h => h)).kp ks_w6 hyb; have Z6 := (Z4.kp hk_b (fun h => h)).kp ks_w6 hbr; have B6 : Bk w6 b (badR l).cells T2 := ⟨hs_w6⟩; have N6 : KpN w w6 := (N4.trans hk_b).then ks_w6 fun i hi (e : i = b) => by have := hwr.out; have := Hg_b.out; have := blk_lt Z4.blk; omega)
    | (go_at_call 22; (with_reducible refine (GP.out _).mono ?_); rintro e w7 ⟨rfl, hk7⟩; have Q7 := Q6.kp hk7 (fun h => h); have Y7 := Y6.kp hk7 (fun h => h); have Z7 := Z6.kp hk7 (fun h => h); have B7 := B6.kp hk7 (fun h => h); have N7 := N6.trans hk7)
    | (go_at_call 64; refine (OD.out _).mono ?_; rintro e w8 ⟨rfl, hk8⟩; have Q8 := Q7.kp hk8 (fun h => h); have Y8 := Y7.kp hk8 (fun h => h); have Z8 := Z7.kp hk8 (fun h => h); have B8 := B7.kp hk8 (fun h => h); have N8 := N7.trans hk8)
    | (go_at_call 65; (with_reducible refine (LE.out _).mono ?_); rintro e w9 ⟨rfl, hk9⟩; have Q9 := Q8.kp hk9 (fun h => h); have Y9 := Y8.kp hk9 (fun h => h); have Z9 := Z8.kp hk9 (fun h => h); have B9 := B8.kp hk9 (fun h => h); have N9 := N8.trans hk9)
    | ((with_reducible refine gate_dst (N := 50) rfl ?_); refine wpList_load_row rfl 42 _ rfl b rfl _ ((badR l).cells) (0, 0) _ (B9.blk) Try.underlying42 rfl infoT2 ?_)
    | ((with_reducible refine gate_store (t := 42) (p := 10) rfl ?_); refine st_ev rfl rfl rfl r ((badR l).cells) _ _ rfl rfl (Z9.blk) infoT2 rfl (RS.one _) ?_; intro w20 hs_w20 ks_w20))
  refine bodyPost_ret (results_cell_row rfl _ _ r 42 ((badR l).cells) (0, 0) _ rfl (hs_w20) Try.underlying42 rfl infoT2) rfl ?_
  rw [HW.out]
  exact ⟨rfl, N9.then ks_w20 fun i hi (e : i = r) => by have := hwr.out; omega⟩
set_option maxHeartbeats 8000000 in
set_option maxRecDepth 100000 in
theorem down_deep (A : Option Addr) (n c : Nat) (M : Nat → Nat) (sp : Nat) (kd md : Int) (sum mxr : Bool) (va T l : Nat) (w : World) (h : Rl w A n c M) (hM : ∀ o, M o < 256) (hv : U va) (hT : U T) (hl : l ≤ 2) (hh : hasB 32768 (entA va T l) 8 = true) (ho : oddW (rldV M (entA va T l)) = false) (hlf : leafW (rldV M (entA va T l)) = false) (l' : Nat) (h0 : l = l' + 1) (ih : ∀ T W, U T → KpN w W → Calls Try.prog 38 #[.agg (ramC (.slice A n c)), .agg (wayC sp kd md sum mxr), .int .u64 (va : Int), .int .u64 (T : Int), .int .i64 (l' : Int)] W (wPost W (walkL M 32768 kd md sum mxr va (l' + 1) T))) :
    Calls Try.prog 38 #[.agg (ramC (.slice A n c)), .agg (wayC sp kd md sum mxr), .int .u64 (va : Int), .int .u64 (T : Int), .int .i64 (l : Int)] w (wPost w (walkL M 32768 kd md sum mxr va (l + 1) T)) := by
  obtain ⟨gw, hgw⟩ : ∃ g, getW va (12 + 9 * (l : Int)) 9 = g := ⟨_, rfl⟩
  obtain ⟨a, ha⟩ : ∃ a, entA va T l = a := ⟨_, rfl⟩
  obtain ⟨ld, hld⟩ : ∃ x, rldV M a = x := ⟨_, rfl⟩
  have hg9 : gw < 512 := by rw [← hgw]; exact get9 _ _
  have ha' : a = (T + 8 * gw) % 18446744073709551616 := by rw [← ha, ← hgw]; rfl
  have haU : U a := ⟨by rw [ha']; exact Nat.mod_lt _ (by decide)⟩
  have E9 : Aside0 (IntKind.i64.wrap (9 * (l : Int)) = 9 * (l : Int)) := ⟨by rw [IntKind.wrap_i64]; omega⟩
  have E12 : Aside0 (IntKind.i64.wrap (12 + 9 * (l : Int)) = 12 + 9 * (l : Int)) := ⟨by rw [IntKind.wrap_i64]; omega⟩
  have EM : Aside0 (IntKind.u64.wrap (8 * (gw : Int)) = ((8 * gw : Nat) : Int)) := ⟨by rw [IntKind.wrap_u64]; omega⟩
  have EA : Aside0 (IntKind.u64.wrap ((T : Int) + ((8 * gw : Nat) : Int)) = (a : Int)) := ⟨by rw [IntKind.wrap_u64, ha']; omega⟩
  have G1 : Aside0 (∀ W, Calls Try.prog 22 #[.int .u64 (va : Int), .int .i64 (12 + 9 * (l : Int)), .int .i64 9] W fun e w' => e = .returned (.int .u64 (gw : Int)) ∧ KpN W w') := ⟨fun W => by rw [← hgw]; exact getr_k va _ _ W hv⟩
  rw [ha] at hh
  obtain ⟨hs, hhs⟩ : ∃ b, hasB 32768 a 8 = b := ⟨_, rfl⟩
  have hsf : hs = true := hhs.symm.trans hh
  have hle : ldN M (a - 2147483648) 8 = ld := by rw [← hld]; unfold rldV; rw [if_pos hh]
  have hlU : U ld := ⟨by rw [← hle]; exact ldN_lt hM _ 8⟩
  obtain ⟨pw, hpw⟩ : ∃ p, pageW ld = p := ⟨_, rfl⟩
  have hpU : U pw := hpw ▸ pageW_ok ld
  obtain ⟨gl, hgl⟩ : ∃ x, getW pw 0 (12 + 9 * (l : Int)) = x := ⟨_, rfl⟩
  obtain ⟨gv, hgv⟩ : ∃ x, getW va 0 (12 + 9 * (l : Int)) = x := ⟨_, rfl⟩
  have HW0 := walkL_has M 32768 kd md sum mxr va l T a ld pw gl gv ha (by rw [hh]; decide) hle hpw hgl hgv
  rw [ha, hld] at ho hlf
  obtain ⟨RR, hRR⟩ : ∃ R, walkL M 32768 kd md sum mxr va (l' + 1) pw = R := ⟨_, rfl⟩
  have HW : Aside0 (walkL M 32768 kd md sum mxr va (l + 1) T = RR) := ⟨by rw [HW0, if_neg (by rw [ho]; decide), if_pos hlf, h0, hRR]⟩
  have IH : Aside0 (∀ W, KpN w W → Calls Try.prog 38 #[.agg (ramC (.slice A n c)), .agg (wayC sp kd md sum mxr), .int .u64 (va : Int), .int .u64 (pw : Int), .int .i64 ((l : Int) - 1)] W fun e w' => e = .returned (.agg RR.cells) ∧ KpN W w') := ⟨fun W hW => by
    have := ih pw W hpU hW
    rw [hRR] at this
    rw [show (l : Int) - 1 = (l' : Int) by omega]
    exact this⟩
  have LO : Aside0 (∀ W, KpN w W → Calls Try.prog 63 #[.agg (ramC (.slice A n c)), .int .u64 (a : Int), .int .i64 8] W fun e w' => e = .returned (.tuple #[.int .u64 (ld : Int), .bool hs]) ∧ KpN W w') := ⟨fun W hW => by rw [← hld, ← hhs]; exact rload_c A n c M a W (h.kpN hW) hM haU⟩
  have GP : Aside0 (∀ W, Calls Try.prog 22 #[.int .u64 (ld : Int), .int .i64 10, .int .i64 44] W fun e w' => e = .returned (.int .u64 ((getW ld 10 44 : Nat) : Int)) ∧ KpN W w') := ⟨fun W => getr_k ld _ _ W hlU⟩
  have g44 := get44 ld 10
  have HP : Aside0 (IntKind.u64.wrap (((getW ld 10 44 : Nat) : Int) * 4096) = (pw : Int)) := ⟨by rw [IntKind.wrap_u64, ← hpw]; unfold pageW; omega⟩
  generalize getW ld 10 44 = g44v at GP HP
  have GL : Aside0 (∀ W, Calls Try.prog 22 #[.int .u64 (pw : Int), .int .i64 0, .int .i64 (12 + 9 * (l : Int))] W fun e w' => e = .returned (.int .u64 (gl : Int)) ∧ KpN W w') := ⟨fun W => by rw [← hgl]; exact getr_k pw _ _ W hpU⟩
  have GV : Aside0 (∀ W, Calls Try.prog 22 #[.int .u64 (va : Int), .int .i64 0, .int .i64 (12 + 9 * (l : Int))] W fun e w' => e = .returned (.int .u64 (gv : Int)) ∧ KpN W w') := ⟨fun W => by rw [← hgv]; exact getr_k va _ _ W hv⟩
  have OD : Aside0 (∀ W, Calls Try.prog 64 #[.int .u64 (ld : Int)] W fun e w' => e = .returned (.bool (oddW ld)) ∧ KpN W w') := ⟨fun W => rodd_c ld W hlU⟩
  have LE : Aside0 (∀ W, Calls Try.prog 65 #[.int .u64 (ld : Int)] W fun e w' => e = .returned (.bool (leafW ld)) ∧ KpN W w') := ⟨fun W => rleads_c ld W hlU⟩
  have AL : Aside0 (∀ W, Calls Try.prog 66 #[.agg (wayC sp kd md sum mxr), .int .u64 (ld : Int)] W fun e w' => e = .returned (.bool (allowW kd md sum mxr ld)) ∧ KpN W w') := ⟨fun W => rallow_c sp kd md sum mxr ld W hlU⟩
  rw [ho] at OD
  rw [hlf] at LE
  have t0 : ((l : Int) == 0) = false := beq_eq_false_iff_ne.2 (by omega)
  have l1 : 1 ≤ (l : Int) := by omega
  clear ho hlf HW0 h0 ih hRR
  subst hsf
  have eP := HP.out
  have l0 : (0 : Int) ≤ (l : Int) := by omega
  have l2 : (l : Int) ≤ 2 := by omega
  clear hhs hh hld ha ha' hgw hg9 h hM hT hv haU hle hlU hpw hgl hgv hpU g44 HP
  go_enter Try.func38, Try.ntmps38
  go_wp2_with (first
    | ((with_reducible refine gate_dst (N := 5) rfl ?_); refine bx_ev rfl rfl (N := 5) rfl (ramC (.slice A n c)) rfl ?_; intro q hg_q w1 hb_q hk_q; have Hg_q := Aside0.mk hg_q; clear hg_q)
    | ((with_reducible refine gate_dst (N := 6) rfl ?_); refine bx_ev rfl rfl (N := 6) rfl (wayC sp kd md sum mxr) rfl ?_; intro y hg_y w2 hb_y hk_y; have Hg_y := Aside0.mk hg_y; clear hg_y)
    | ((with_reducible refine gate_dst (N := 10) rfl ?_); refine al_ev rfl rfl (N := 10) rfl _ (zeroT2 _) ?_; intro r hg_r w3 hb_r hk_r; have Hg_r := Aside0.mk hg_r; clear hg_r))
  have Q3 : Bk w3 q (ramC (.slice A n c)) RT2 := ((Bk.mk hb_q).kp hk_y (fun h => h)).kp hk_r (fun h => h)
  have Y3 : Bk w3 y (wayC sp kd md sum mxr) Y2 := (Bk.mk hb_y).kp hk_r (fun h => h)
  have Z3 : Bk w3 r (RS.mk 0 false false 0).cells T2 := ⟨hb_r⟩
  have N3 : KpN w w3 := (hk_q.trans hk_y).trans hk_r
  have hwr : Aside0 (w.heap.size ≤ r) := ⟨by have := Hg_r.out; have := (hk_q.trans hk_y).size; omega⟩
  have hrq : Aside0 (q < r ∧ y < r) := ⟨by have := Hg_r.out; have := blk_lt hb_q; have := blk_lt hb_y; have := hk_y.size; omega⟩
  clear hb_q hb_y hb_r hk_q hk_y hk_r Hg_q Hg_y Hg_r
  have EV : ∀ x y : Operand, True := fun _ _ => trivial
  clear EV
  refine wp_region_vals 14 1 #[true, true, true, true, true, true, true, true, true, true, true, true, true, true, false] dD (vD A n c T va l gw a ld true) (by kernel_rfl) (by kernel_rfl) rfl ?_ ?_ ?_ ?_ ?_
  · intro i o hi ho
    rcases i with _ | _ | _ | _ | _ | _ | _ | _ | _ | _ | _ | _ | _ | _ | i
    all_goals first | (cases ho; rfl) | omega
  · intro i hi
    rcases i with _ | _ | _ | _ | _ | _ | _ | _ | _ | _ | _ | _ | _ | _ | i
    all_goals first | (show (_ : Nat) < 84; decide) | omega
  · intro i j hi hj h
    rcases i with _ | _ | _ | _ | _ | _ | _ | _ | _ | _ | _ | _ | _ | _ | i
    all_goals rcases j with _ | _ | _ | _ | _ | _ | _ | _ | _ | _ | _ | _ | _ | _ | j
    all_goals first | rfl | omega | (exact absurd h (by decide))
  · intro i o hi ho a' W hW hA hdep
    rcases i with _ | _ | _ | _ | _ | _ | _ | _ | _ | _ | _ | _ | _ | _ | i
    · cases ho
      exact sS_ld rfl rfl q (hA.old 5 (by decide)) RT2 (ramC (.slice A n c)) _ (Q3.kp hW (fun h => h)).blk Try.underlying30 rfl infoM ⟨Kp.refl _ _, rfl⟩
    · cases ho; exact sS_mv rfl rfl ⟨Kp.refl _ _, hA.old 3 (by decide)⟩
    · cases ho; exact sS_mv rfl rfl ⟨Kp.refl _ _, hA.old 2 (by decide)⟩
    · cases ho; exact sS_mv rfl rfl ⟨Kp.refl _ _, hA.old 4 (by decide)⟩
    · cases ho
      have h0 : a'.eval (.tmp 19) = _ := hdep 3 (by decide) (by kernel_rfl)
      exact sS_bin rfl rfl (.int .i64 9) (.int .i64 (l : Int)) _ rfl h0 (run_mul9 (l : Int) W _ _) ⟨Kp.refl _ _, by rw [E9.out]; rfl⟩
    · cases ho
      have h0 : a'.eval (.tmp 20) = _ := hdep 4 (by decide) (by kernel_rfl)
      exact sS_bin rfl rfl (.int .i64 12) (.int .i64 (9 * (l : Int))) _ rfl h0 (run_add12 (9 * (l : Int)) W _ _) ⟨Kp.refl _ _, by rw [E12.out]; rfl⟩
    · cases ho
      have h0 : a'.eval (.tmp 18) = _ := hdep 2 (by decide) (by kernel_rfl)
      have h1 : a'.eval (.tmp 21) = _ := hdep 5 (by decide) (by kernel_rfl)
      refine sS_ca rfl rfl Try.func22 (by kernel_rfl) rfl #[.int .u64 (va : Int), .int .i64 (12 + 9 * (l : Int)), .int .i64 9] (by simp only [List.map_toArray, List.map_cons, List.map_nil]; rw [h0, h1]; rfl) ?_
      exact (G1.out W).mono fun e w' h => ⟨_, h.1, h.2, rfl⟩
    · cases ho
      have h0 : a'.eval (.tmp 22) = _ := hdep 6 (by decide) (by kernel_rfl)
      exact sS_bin rfl rfl (.int .u64 8) (.int .u64 (gw : Int)) _ rfl h0 (run_mul8 (gw : Int) W _ _) ⟨Kp.refl _ _, by rw [EM.out]; rfl⟩
    · cases ho
      have h0 : a'.eval (.tmp 17) = _ := hdep 1 (by decide) (by kernel_rfl)
      have h1 : a'.eval (.tmp 23) = _ := hdep 7 (by decide) (by kernel_rfl)
      exact sS_bin rfl rfl (.int .u64 (T : Int)) (.int .u64 ((8 * gw : Nat) : Int)) _ h0 h1 (run_addu (T : Int) ((8 * gw : Nat) : Int) W _ _) ⟨Kp.refl _ _, by rw [EA.out]; rfl⟩
    · cases ho
      have h0 : a'.eval (.tmp 16) = _ := hdep 0 (by decide) (by kernel_rfl)
      have h1 : a'.eval (.tmp 24) = _ := hdep 8 (by decide) (by kernel_rfl)
      refine sS_ca rfl rfl Try.func63 (by kernel_rfl) rfl #[.agg (ramC (.slice A n c)), .int .u64 (a : Int), .int .i64 8] (by simp only [List.map_toArray, List.map_cons, List.map_nil]; rw [h0, h1]; rfl) ?_
      exact (LO.out W (N3.trans hW)).mono fun e w' h => ⟨_, h.1, h.2, rfl⟩
    · cases ho
      exact sS_mv rfl rfl ⟨Kp.refl _ _, hdep 9 (by decide) (by kernel_rfl)⟩
    · cases ho
      exact sS_ex rfl rfl #[.int .u64 (ld : Int), .bool true] (.int .u64 (ld : Int)) (hdep 10 (by decide) (by kernel_rfl)) rfl ⟨Kp.refl _ _, rfl⟩
    · cases ho
      exact sS_ex rfl rfl #[.int .u64 (ld : Int), .bool true] (.bool true) (hdep 10 (by decide) (by kernel_rfl)) rfl ⟨Kp.refl _ _, rfl⟩
    · cases ho
      exact sS_as rfl rfl ⟨Kp.refl _ _, hdep 11 (by decide) (by kernel_rfl)⟩
    · omega
  intro w4 hk4
  refine any_1 (i := 14) (by kernel_rfl) rfl rfl (wp_as rfl ?_)
  refine wpAny_done (by kernel_rfl) ?_ _
  simp only [putN, dD, vD, Act.put, Act.eval, List.setIfInBounds_toArray, List.set_cons_zero, List.set_cons_succ]
  have Q4 := Q3.kp hk4 (fun h => h)
  have Y4 := Y3.kp hk4 (fun h => h)
  have Z4 := Z3.kp hk4 (fun h => h)
  have N4 := N3.trans hk4
  clear Q3 Y3 Z3 N3 hk4 E9 E12 EM EA G1 LO
  go_wp2_with (first
    | ((with_reducible refine gate_dst (N := 13) rfl ?_); refine al_ev rfl rfl (N := 13) rfl _ (zeroT2 _) ?_; intro b hg_b w5 hb_b hk_b; have Hg_b := Aside0.mk hg_b; clear hg_b)
    | (((with_reducible refine gate_store (t := 42) (p := 13) rfl ?_); refine st_ev rfl rfl rfl b ((badR l).cells) _ _ rfl rfl (hb_b) infoT2 rfl (RS.one _) ?_; intro w6 hs_w6 ks_w6); have hbr : r ≠ b := (by have := Hg_b.out; have := blk_lt Z4.blk; omega); have hqb : q ≠ b := (by have := Hg_b.out; have := blk_lt Z4.blk; have := hrq.out; omega); have hyb : y ≠ b := (by have := Hg_b.out; have := blk_lt Z4.blk; have := hrq.out; omega); have Q6 := (Q4.kp hk_b (fun h => h)).kp ks_w6 hqb; have Y6 := (Y4.kp hk_b (fun h => h)).kp ks_w6 hyb; have Z6 := (Z4.kp hk_b (fun h => h)).kp ks_w6 hbr; have B6 : Bk w6 b (badR l).cells T2 := ⟨hs_w6⟩; have N6 : KpN w w6 := (N4.trans hk_b).then ks_w6 fun i hi (e : i = b) => by have := hwr.out; have := Hg_b.out; have := blk_lt Z4.blk; omega)
    | (go_at_call 22; (with_reducible refine (GP.out _).mono ?_); rintro e w7 ⟨rfl, hk7⟩; have Q7 := Q6.kp hk7 (fun h => h); have Y7 := Y6.kp hk7 (fun h => h); have Z7 := Z6.kp hk7 (fun h => h); have B7 := B6.kp hk7 (fun h => h); have N7 := N6.trans hk7)
    | (go_at_call 64; refine (OD.out _).mono ?_; rintro e w8 ⟨rfl, hk8⟩; have Q8 := Q7.kp hk8 (fun h => h); have Y8 := Y7.kp hk8 (fun h => h); have Z8 := Z7.kp hk8 (fun h => h); have B8 := B7.kp hk8 (fun h => h); have N8 := N7.trans hk8)
    | (go_at_call 65; (with_reducible refine (LE.out _).mono ?_); rintro e w9 ⟨rfl, hk9⟩; have Q9 := Q8.kp hk9 (fun h => h); have Y9 := Y8.kp hk9 (fun h => h); have Z9 := Z8.kp hk9 (fun h => h); have B9 := B8.kp hk9 (fun h => h); have N9 := N8.trans hk9)
    | (go_at_call 65; (with_reducible refine (LE.out _).mono ?_); rintro e w10 ⟨rfl, hk10⟩; have Q10 := Q9.kp hk10 (fun h => h); have Y10 := Y9.kp hk10 (fun h => h); have Z10 := Z9.kp hk10 (fun h => h); have B10 := B9.kp hk10 (fun h => h); have N10 := N9.trans hk10)
    | ((with_reducible refine gate_dst (N := 54) rfl ?_); refine wpList_load_row rfl 30 _ rfl q rfl _ (ramC (.slice A n c)) (0, 0) _ (Q10.blk) Try.underlying30 rfl infoM ?_)
    | ((with_reducible refine gate_dst (N := 55) rfl ?_); refine wpList_load_row rfl 25 _ rfl y rfl _ (wayC sp kd md sum mxr) (0, 0) _ (Y10.blk) Try.underlying25 rfl infoY2 ?_)
    | (go_at_call 38; (with_reducible refine (IH.out _ N10).mono ?_); rintro e w11 ⟨rfl, hk11⟩; have Q11 := Q10.kp hk11 (fun h => h); have Y11 := Y10.kp hk11 (fun h => h); have Z11 := Z10.kp hk11 (fun h => h); have B11 := B10.kp hk11 (fun h => h); have N11 := N10.trans hk11)
    | ((with_reducible refine gate_store (t := 42) (p := 10) rfl ?_); refine st_ev rfl rfl rfl r (RR.cells) _ _ rfl rfl (Z11.blk) infoT2 rfl (RS.one _) ?_; intro w20 hs_w20 ks_w20))
  refine bodyPost_ret (results_cell_row rfl _ _ r 42 (RR.cells) (0, 0) _ rfl (hs_w20) Try.underlying42 rfl infoT2) rfl ?_
  rw [HW.out]
  exact ⟨rfl, N11.then ks_w20 fun i hi (e : i = r) => by have := hwr.out; omega⟩
set_option maxHeartbeats 8000000 in
set_option maxRecDepth 100000 in
theorem down_not (A : Option Addr) (n c : Nat) (M : Nat → Nat) (sp : Nat) (kd md : Int) (sum mxr : Bool) (va T l : Nat) (w : World) (h : Rl w A n c M) (hM : ∀ o, M o < 256) (hv : U va) (hT : U T) (hl : l ≤ 2) (hh : hasB 32768 (entA va T l) 8 = true) (ho : oddW (rldV M (entA va T l)) = false) (hlf : leafW (rldV M (entA va T l)) = true) (hal : allowW kd md sum mxr (rldV M (entA va T l)) = false) :
    Calls Try.prog 38 #[.agg (ramC (.slice A n c)), .agg (wayC sp kd md sum mxr), .int .u64 (va : Int), .int .u64 (T : Int), .int .i64 (l : Int)] w (wPost w (walkL M 32768 kd md sum mxr va (l + 1) T)) := by
  obtain ⟨gw, hgw⟩ : ∃ g, getW va (12 + 9 * (l : Int)) 9 = g := ⟨_, rfl⟩
  obtain ⟨a, ha⟩ : ∃ a, entA va T l = a := ⟨_, rfl⟩
  obtain ⟨ld, hld⟩ : ∃ x, rldV M a = x := ⟨_, rfl⟩
  have hg9 : gw < 512 := by rw [← hgw]; exact get9 _ _
  have ha' : a = (T + 8 * gw) % 18446744073709551616 := by rw [← ha, ← hgw]; rfl
  have haU : U a := ⟨by rw [ha']; exact Nat.mod_lt _ (by decide)⟩
  have E9 : Aside0 (IntKind.i64.wrap (9 * (l : Int)) = 9 * (l : Int)) := ⟨by rw [IntKind.wrap_i64]; omega⟩
  have E12 : Aside0 (IntKind.i64.wrap (12 + 9 * (l : Int)) = 12 + 9 * (l : Int)) := ⟨by rw [IntKind.wrap_i64]; omega⟩
  have EM : Aside0 (IntKind.u64.wrap (8 * (gw : Int)) = ((8 * gw : Nat) : Int)) := ⟨by rw [IntKind.wrap_u64]; omega⟩
  have EA : Aside0 (IntKind.u64.wrap ((T : Int) + ((8 * gw : Nat) : Int)) = (a : Int)) := ⟨by rw [IntKind.wrap_u64, ha']; omega⟩
  have G1 : Aside0 (∀ W, Calls Try.prog 22 #[.int .u64 (va : Int), .int .i64 (12 + 9 * (l : Int)), .int .i64 9] W fun e w' => e = .returned (.int .u64 (gw : Int)) ∧ KpN W w') := ⟨fun W => by rw [← hgw]; exact getr_k va _ _ W hv⟩
  rw [ha] at hh
  obtain ⟨hs, hhs⟩ : ∃ b, hasB 32768 a 8 = b := ⟨_, rfl⟩
  have hsf : hs = true := hhs.symm.trans hh
  have hle : ldN M (a - 2147483648) 8 = ld := by rw [← hld]; unfold rldV; rw [if_pos hh]
  have hlU : U ld := ⟨by rw [← hle]; exact ldN_lt hM _ 8⟩
  obtain ⟨pw, hpw⟩ : ∃ p, pageW ld = p := ⟨_, rfl⟩
  have hpU : U pw := hpw ▸ pageW_ok ld
  obtain ⟨gl, hgl⟩ : ∃ x, getW pw 0 (12 + 9 * (l : Int)) = x := ⟨_, rfl⟩
  obtain ⟨gv, hgv⟩ : ∃ x, getW va 0 (12 + 9 * (l : Int)) = x := ⟨_, rfl⟩
  have HW0 := walkL_has M 32768 kd md sum mxr va l T a ld pw gl gv ha (by rw [hh]; decide) hle hpw hgl hgv
  rw [ha, hld] at ho hlf hal
  have HW : Aside0 (walkL M 32768 kd md sum mxr va (l + 1) T = badR l) := ⟨by rw [HW0, if_neg (by rw [ho]; decide), if_neg (by rw [hlf]; decide), if_pos (.inl hal)]⟩
  have LO : Aside0 (∀ W, KpN w W → Calls Try.prog 63 #[.agg (ramC (.slice A n c)), .int .u64 (a : Int), .int .i64 8] W fun e w' => e = .returned (.tuple #[.int .u64 (ld : Int), .bool hs]) ∧ KpN W w') := ⟨fun W hW => by rw [← hld, ← hhs]; exact rload_c A n c M a W (h.kpN hW) hM haU⟩
  have GP : Aside0 (∀ W, Calls Try.prog 22 #[.int .u64 (ld : Int), .int .i64 10, .int .i64 44] W fun e w' => e = .returned (.int .u64 ((getW ld 10 44 : Nat) : Int)) ∧ KpN W w') := ⟨fun W => getr_k ld _ _ W hlU⟩
  have g44 := get44 ld 10
  have HP : Aside0 (IntKind.u64.wrap (((getW ld 10 44 : Nat) : Int) * 4096) = (pw : Int)) := ⟨by rw [IntKind.wrap_u64, ← hpw]; unfold pageW; omega⟩
  generalize getW ld 10 44 = g44v at GP HP
  have GL : Aside0 (∀ W, Calls Try.prog 22 #[.int .u64 (pw : Int), .int .i64 0, .int .i64 (12 + 9 * (l : Int))] W fun e w' => e = .returned (.int .u64 (gl : Int)) ∧ KpN W w') := ⟨fun W => by rw [← hgl]; exact getr_k pw _ _ W hpU⟩
  have GV : Aside0 (∀ W, Calls Try.prog 22 #[.int .u64 (va : Int), .int .i64 0, .int .i64 (12 + 9 * (l : Int))] W fun e w' => e = .returned (.int .u64 (gv : Int)) ∧ KpN W w') := ⟨fun W => by rw [← hgv]; exact getr_k va _ _ W hv⟩
  have OD : Aside0 (∀ W, Calls Try.prog 64 #[.int .u64 (ld : Int)] W fun e w' => e = .returned (.bool (oddW ld)) ∧ KpN W w') := ⟨fun W => rodd_c ld W hlU⟩
  have LE : Aside0 (∀ W, Calls Try.prog 65 #[.int .u64 (ld : Int)] W fun e w' => e = .returned (.bool (leafW ld)) ∧ KpN W w') := ⟨fun W => rleads_c ld W hlU⟩
  have AL : Aside0 (∀ W, Calls Try.prog 66 #[.agg (wayC sp kd md sum mxr), .int .u64 (ld : Int)] W fun e w' => e = .returned (.bool (allowW kd md sum mxr ld)) ∧ KpN W w') := ⟨fun W => rallow_c sp kd md sum mxr ld W hlU⟩
  rw [ho] at OD
  rw [hlf] at LE
  rw [hal] at AL
  clear ho hlf hal HW0
  subst hsf
  have eP := HP.out
  have l0 : (0 : Int) ≤ (l : Int) := by omega
  have l2 : (l : Int) ≤ 2 := by omega
  clear hhs hh hld ha ha' hgw hg9 h hM hT hv haU hle hlU hpw hgl hgv hpU g44 HP
  go_enter Try.func38, Try.ntmps38
  go_wp2_with (first
    | ((with_reducible refine gate_dst (N := 5) rfl ?_); refine bx_ev rfl rfl (N := 5) rfl (ramC (.slice A n c)) rfl ?_; intro q hg_q w1 hb_q hk_q; have Hg_q := Aside0.mk hg_q; clear hg_q)
    | ((with_reducible refine gate_dst (N := 6) rfl ?_); refine bx_ev rfl rfl (N := 6) rfl (wayC sp kd md sum mxr) rfl ?_; intro y hg_y w2 hb_y hk_y; have Hg_y := Aside0.mk hg_y; clear hg_y)
    | ((with_reducible refine gate_dst (N := 10) rfl ?_); refine al_ev rfl rfl (N := 10) rfl _ (zeroT2 _) ?_; intro r hg_r w3 hb_r hk_r; have Hg_r := Aside0.mk hg_r; clear hg_r))
  have Q3 : Bk w3 q (ramC (.slice A n c)) RT2 := ((Bk.mk hb_q).kp hk_y (fun h => h)).kp hk_r (fun h => h)
  have Y3 : Bk w3 y (wayC sp kd md sum mxr) Y2 := (Bk.mk hb_y).kp hk_r (fun h => h)
  have Z3 : Bk w3 r (RS.mk 0 false false 0).cells T2 := ⟨hb_r⟩
  have N3 : KpN w w3 := (hk_q.trans hk_y).trans hk_r
  have hwr : Aside0 (w.heap.size ≤ r) := ⟨by have := Hg_r.out; have := (hk_q.trans hk_y).size; omega⟩
  have hrq : Aside0 (q < r ∧ y < r) := ⟨by have := Hg_r.out; have := blk_lt hb_q; have := blk_lt hb_y; have := hk_y.size; omega⟩
  clear hb_q hb_y hb_r hk_q hk_y hk_r Hg_q Hg_y Hg_r
  have EV : ∀ x y : Operand, True := fun _ _ => trivial
  clear EV
  refine wp_region_vals 14 1 #[true, true, true, true, true, true, true, true, true, true, true, true, true, true, false] dD (vD A n c T va l gw a ld true) (by kernel_rfl) (by kernel_rfl) rfl ?_ ?_ ?_ ?_ ?_
  · intro i o hi ho
    rcases i with _ | _ | _ | _ | _ | _ | _ | _ | _ | _ | _ | _ | _ | _ | i
    all_goals first | (cases ho; rfl) | omega
  · intro i hi
    rcases i with _ | _ | _ | _ | _ | _ | _ | _ | _ | _ | _ | _ | _ | _ | i
    all_goals first | (show (_ : Nat) < 84; decide) | omega
  · intro i j hi hj h
    rcases i with _ | _ | _ | _ | _ | _ | _ | _ | _ | _ | _ | _ | _ | _ | i
    all_goals rcases j with _ | _ | _ | _ | _ | _ | _ | _ | _ | _ | _ | _ | _ | _ | j
    all_goals first | rfl | omega | (exact absurd h (by decide))
  · intro i o hi ho a' W hW hA hdep
    rcases i with _ | _ | _ | _ | _ | _ | _ | _ | _ | _ | _ | _ | _ | _ | i
    · cases ho
      exact sS_ld rfl rfl q (hA.old 5 (by decide)) RT2 (ramC (.slice A n c)) _ (Q3.kp hW (fun h => h)).blk Try.underlying30 rfl infoM ⟨Kp.refl _ _, rfl⟩
    · cases ho; exact sS_mv rfl rfl ⟨Kp.refl _ _, hA.old 3 (by decide)⟩
    · cases ho; exact sS_mv rfl rfl ⟨Kp.refl _ _, hA.old 2 (by decide)⟩
    · cases ho; exact sS_mv rfl rfl ⟨Kp.refl _ _, hA.old 4 (by decide)⟩
    · cases ho
      have h0 : a'.eval (.tmp 19) = _ := hdep 3 (by decide) (by kernel_rfl)
      exact sS_bin rfl rfl (.int .i64 9) (.int .i64 (l : Int)) _ rfl h0 (run_mul9 (l : Int) W _ _) ⟨Kp.refl _ _, by rw [E9.out]; rfl⟩
    · cases ho
      have h0 : a'.eval (.tmp 20) = _ := hdep 4 (by decide) (by kernel_rfl)
      exact sS_bin rfl rfl (.int .i64 12) (.int .i64 (9 * (l : Int))) _ rfl h0 (run_add12 (9 * (l : Int)) W _ _) ⟨Kp.refl _ _, by rw [E12.out]; rfl⟩
    · cases ho
      have h0 : a'.eval (.tmp 18) = _ := hdep 2 (by decide) (by kernel_rfl)
      have h1 : a'.eval (.tmp 21) = _ := hdep 5 (by decide) (by kernel_rfl)
      refine sS_ca rfl rfl Try.func22 (by kernel_rfl) rfl #[.int .u64 (va : Int), .int .i64 (12 + 9 * (l : Int)), .int .i64 9] (by simp only [List.map_toArray, List.map_cons, List.map_nil]; rw [h0, h1]; rfl) ?_
      exact (G1.out W).mono fun e w' h => ⟨_, h.1, h.2, rfl⟩
    · cases ho
      have h0 : a'.eval (.tmp 22) = _ := hdep 6 (by decide) (by kernel_rfl)
      exact sS_bin rfl rfl (.int .u64 8) (.int .u64 (gw : Int)) _ rfl h0 (run_mul8 (gw : Int) W _ _) ⟨Kp.refl _ _, by rw [EM.out]; rfl⟩
    · cases ho
      have h0 : a'.eval (.tmp 17) = _ := hdep 1 (by decide) (by kernel_rfl)
      have h1 : a'.eval (.tmp 23) = _ := hdep 7 (by decide) (by kernel_rfl)
      exact sS_bin rfl rfl (.int .u64 (T : Int)) (.int .u64 ((8 * gw : Nat) : Int)) _ h0 h1 (run_addu (T : Int) ((8 * gw : Nat) : Int) W _ _) ⟨Kp.refl _ _, by rw [EA.out]; rfl⟩
    · cases ho
      have h0 : a'.eval (.tmp 16) = _ := hdep 0 (by decide) (by kernel_rfl)
      have h1 : a'.eval (.tmp 24) = _ := hdep 8 (by decide) (by kernel_rfl)
      refine sS_ca rfl rfl Try.func63 (by kernel_rfl) rfl #[.agg (ramC (.slice A n c)), .int .u64 (a : Int), .int .i64 8] (by simp only [List.map_toArray, List.map_cons, List.map_nil]; rw [h0, h1]; rfl) ?_
      exact (LO.out W (N3.trans hW)).mono fun e w' h => ⟨_, h.1, h.2, rfl⟩
    · cases ho
      exact sS_mv rfl rfl ⟨Kp.refl _ _, hdep 9 (by decide) (by kernel_rfl)⟩
    · cases ho
      exact sS_ex rfl rfl #[.int .u64 (ld : Int), .bool true] (.int .u64 (ld : Int)) (hdep 10 (by decide) (by kernel_rfl)) rfl ⟨Kp.refl _ _, rfl⟩
    · cases ho
      exact sS_ex rfl rfl #[.int .u64 (ld : Int), .bool true] (.bool true) (hdep 10 (by decide) (by kernel_rfl)) rfl ⟨Kp.refl _ _, rfl⟩
    · cases ho
      exact sS_as rfl rfl ⟨Kp.refl _ _, hdep 11 (by decide) (by kernel_rfl)⟩
    · omega
  intro w4 hk4
  refine any_1 (i := 14) (by kernel_rfl) rfl rfl (wp_as rfl ?_)
  refine wpAny_done (by kernel_rfl) ?_ _
  simp only [putN, dD, vD, Act.put, Act.eval, List.setIfInBounds_toArray, List.set_cons_zero, List.set_cons_succ]
  have Q4 := Q3.kp hk4 (fun h => h)
  have Y4 := Y3.kp hk4 (fun h => h)
  have Z4 := Z3.kp hk4 (fun h => h)
  have N4 := N3.trans hk4
  clear Q3 Y3 Z3 N3 hk4 E9 E12 EM EA G1 LO
  go_wp2_with (first
    | ((with_reducible refine gate_dst (N := 13) rfl ?_); refine al_ev rfl rfl (N := 13) rfl _ (zeroT2 _) ?_; intro b hg_b w5 hb_b hk_b; have Hg_b := Aside0.mk hg_b; clear hg_b)
    | (((with_reducible refine gate_store (t := 42) (p := 13) rfl ?_); refine st_ev rfl rfl rfl b ((badR l).cells) _ _ rfl rfl (hb_b) infoT2 rfl (RS.one _) ?_; intro w6 hs_w6 ks_w6); have hbr : r ≠ b := (by have := Hg_b.out; have := blk_lt Z4.blk; omega); have hqb : q ≠ b := (by have := Hg_b.out; have := blk_lt Z4.blk; have := hrq.out; omega); have hyb : y ≠ b := (by have := Hg_b.out; have := blk_lt Z4.blk; have := hrq.out; omega); have Q6 := (Q4.kp hk_b (fun h => h)).kp ks_w6 hqb; have Y6 := (Y4.kp hk_b (fun h => h)).kp ks_w6 hyb; have Z6 := (Z4.kp hk_b (fun h => h)).kp ks_w6 hbr; have B6 : Bk w6 b (badR l).cells T2 := ⟨hs_w6⟩; have N6 : KpN w w6 := (N4.trans hk_b).then ks_w6 fun i hi (e : i = b) => by have := hwr.out; have := Hg_b.out; have := blk_lt Z4.blk; omega)
    | (go_at_call 22; (with_reducible refine (GP.out _).mono ?_); rintro e w7 ⟨rfl, hk7⟩; have Q7 := Q6.kp hk7 (fun h => h); have Y7 := Y6.kp hk7 (fun h => h); have Z7 := Z6.kp hk7 (fun h => h); have B7 := B6.kp hk7 (fun h => h); have N7 := N6.trans hk7)
    | (go_at_call 64; refine (OD.out _).mono ?_; rintro e w8 ⟨rfl, hk8⟩; have Q8 := Q7.kp hk8 (fun h => h); have Y8 := Y7.kp hk8 (fun h => h); have Z8 := Z7.kp hk8 (fun h => h); have B8 := B7.kp hk8 (fun h => h); have N8 := N7.trans hk8)
    | (go_at_call 65; (with_reducible refine (LE.out _).mono ?_); rintro e w9 ⟨rfl, hk9⟩; have Q9 := Q8.kp hk9 (fun h => h); have Y9 := Y8.kp hk9 (fun h => h); have Z9 := Z8.kp hk9 (fun h => h); have B9 := B8.kp hk9 (fun h => h); have N9 := N8.trans hk9)
    | (go_at_call 65; (with_reducible refine (LE.out _).mono ?_); rintro e w10 ⟨rfl, hk10⟩; have Q10 := Q9.kp hk10 (fun h => h); have Y10 := Y9.kp hk10 (fun h => h); have Z10 := Z9.kp hk10 (fun h => h); have B10 := B9.kp hk10 (fun h => h); have N10 := N9.trans hk10)
    | ((with_reducible refine gate_dst (N := 61) rfl ?_); refine wpList_load_row rfl 25 _ rfl y rfl _ (wayC sp kd md sum mxr) (0, 0) _ (Y10.blk) Try.underlying25 rfl infoY2 ?_)
    | (go_at_call 66; (with_reducible refine (AL.out _).mono ?_); rintro e w11 ⟨rfl, hk11⟩; have Q11 := Q10.kp hk11 (fun h => h); have Y11 := Y10.kp hk11 (fun h => h); have Z11 := Z10.kp hk11 (fun h => h); have B11 := B10.kp hk11 (fun h => h); have N11 := N10.trans hk11)
    | ((with_reducible refine gate_dst (N := 73) rfl ?_); refine wpList_load_row rfl 42 _ rfl b rfl _ ((badR l).cells) (0, 0) _ (B11.blk) Try.underlying42 rfl infoT2 ?_)
    | ((with_reducible refine gate_store (t := 42) (p := 10) rfl ?_); refine st_ev rfl rfl rfl r ((badR l).cells) _ _ rfl rfl (Z11.blk) infoT2 rfl (RS.one _) ?_; intro w20 hs_w20 ks_w20))
  refine bodyPost_ret (results_cell_row rfl _ _ r 42 ((badR l).cells) (0, 0) _ rfl (hs_w20) Try.underlying42 rfl infoT2) rfl ?_
  rw [HW.out]
  exact ⟨rfl, N11.then ks_w20 fun i hi (e : i = r) => by have := hwr.out; omega⟩
set_option maxHeartbeats 8000000 in
set_option maxRecDepth 100000 in
theorem down_skew (A : Option Addr) (n c : Nat) (M : Nat → Nat) (sp : Nat) (kd md : Int) (sum mxr : Bool) (va T l : Nat) (w : World) (h : Rl w A n c M) (hM : ∀ o, M o < 256) (hv : U va) (hT : U T) (hl : l ≤ 2) (hh : hasB 32768 (entA va T l) 8 = true) (ho : oddW (rldV M (entA va T l)) = false) (hlf : leafW (rldV M (entA va T l)) = true) (hal : allowW kd md sum mxr (rldV M (entA va T l)) = true) (hg0 : getW (pageW (rldV M (entA va T l))) 0 (12 + 9 * (l : Int)) ≠ 0) :
    Calls Try.prog 38 #[.agg (ramC (.slice A n c)), .agg (wayC sp kd md sum mxr), .int .u64 (va : Int), .int .u64 (T : Int), .int .i64 (l : Int)] w (wPost w (walkL M 32768 kd md sum mxr va (l + 1) T)) := by
  obtain ⟨gw, hgw⟩ : ∃ g, getW va (12 + 9 * (l : Int)) 9 = g := ⟨_, rfl⟩
  obtain ⟨a, ha⟩ : ∃ a, entA va T l = a := ⟨_, rfl⟩
  obtain ⟨ld, hld⟩ : ∃ x, rldV M a = x := ⟨_, rfl⟩
  have hg9 : gw < 512 := by rw [← hgw]; exact get9 _ _
  have ha' : a = (T + 8 * gw) % 18446744073709551616 := by rw [← ha, ← hgw]; rfl
  have haU : U a := ⟨by rw [ha']; exact Nat.mod_lt _ (by decide)⟩
  have E9 : Aside0 (IntKind.i64.wrap (9 * (l : Int)) = 9 * (l : Int)) := ⟨by rw [IntKind.wrap_i64]; omega⟩
  have E12 : Aside0 (IntKind.i64.wrap (12 + 9 * (l : Int)) = 12 + 9 * (l : Int)) := ⟨by rw [IntKind.wrap_i64]; omega⟩
  have EM : Aside0 (IntKind.u64.wrap (8 * (gw : Int)) = ((8 * gw : Nat) : Int)) := ⟨by rw [IntKind.wrap_u64]; omega⟩
  have EA : Aside0 (IntKind.u64.wrap ((T : Int) + ((8 * gw : Nat) : Int)) = (a : Int)) := ⟨by rw [IntKind.wrap_u64, ha']; omega⟩
  have G1 : Aside0 (∀ W, Calls Try.prog 22 #[.int .u64 (va : Int), .int .i64 (12 + 9 * (l : Int)), .int .i64 9] W fun e w' => e = .returned (.int .u64 (gw : Int)) ∧ KpN W w') := ⟨fun W => by rw [← hgw]; exact getr_k va _ _ W hv⟩
  rw [ha] at hh
  obtain ⟨hs, hhs⟩ : ∃ b, hasB 32768 a 8 = b := ⟨_, rfl⟩
  have hsf : hs = true := hhs.symm.trans hh
  have hle : ldN M (a - 2147483648) 8 = ld := by rw [← hld]; unfold rldV; rw [if_pos hh]
  have hlU : U ld := ⟨by rw [← hle]; exact ldN_lt hM _ 8⟩
  obtain ⟨pw, hpw⟩ : ∃ p, pageW ld = p := ⟨_, rfl⟩
  have hpU : U pw := hpw ▸ pageW_ok ld
  obtain ⟨gl, hgl⟩ : ∃ x, getW pw 0 (12 + 9 * (l : Int)) = x := ⟨_, rfl⟩
  obtain ⟨gv, hgv⟩ : ∃ x, getW va 0 (12 + 9 * (l : Int)) = x := ⟨_, rfl⟩
  have HW0 := walkL_has M 32768 kd md sum mxr va l T a ld pw gl gv ha (by rw [hh]; decide) hle hpw hgl hgv
  rw [ha, hld] at ho hlf hal hg0
  rw [hpw, hgl] at hg0
  have HW : Aside0 (walkL M 32768 kd md sum mxr va (l + 1) T = badR l) := ⟨by rw [HW0, if_neg (by rw [ho]; decide), if_neg (by rw [hlf]; decide), if_pos (.inr hg0)]⟩
  have LO : Aside0 (∀ W, KpN w W → Calls Try.prog 63 #[.agg (ramC (.slice A n c)), .int .u64 (a : Int), .int .i64 8] W fun e w' => e = .returned (.tuple #[.int .u64 (ld : Int), .bool hs]) ∧ KpN W w') := ⟨fun W hW => by rw [← hld, ← hhs]; exact rload_c A n c M a W (h.kpN hW) hM haU⟩
  have GP : Aside0 (∀ W, Calls Try.prog 22 #[.int .u64 (ld : Int), .int .i64 10, .int .i64 44] W fun e w' => e = .returned (.int .u64 ((getW ld 10 44 : Nat) : Int)) ∧ KpN W w') := ⟨fun W => getr_k ld _ _ W hlU⟩
  have g44 := get44 ld 10
  have HP : Aside0 (IntKind.u64.wrap (((getW ld 10 44 : Nat) : Int) * 4096) = (pw : Int)) := ⟨by rw [IntKind.wrap_u64, ← hpw]; unfold pageW; omega⟩
  generalize getW ld 10 44 = g44v at GP HP
  have GL : Aside0 (∀ W, Calls Try.prog 22 #[.int .u64 (pw : Int), .int .i64 0, .int .i64 (12 + 9 * (l : Int))] W fun e w' => e = .returned (.int .u64 (gl : Int)) ∧ KpN W w') := ⟨fun W => by rw [← hgl]; exact getr_k pw _ _ W hpU⟩
  have GV : Aside0 (∀ W, Calls Try.prog 22 #[.int .u64 (va : Int), .int .i64 0, .int .i64 (12 + 9 * (l : Int))] W fun e w' => e = .returned (.int .u64 (gv : Int)) ∧ KpN W w') := ⟨fun W => by rw [← hgv]; exact getr_k va _ _ W hv⟩
  have OD : Aside0 (∀ W, Calls Try.prog 64 #[.int .u64 (ld : Int)] W fun e w' => e = .returned (.bool (oddW ld)) ∧ KpN W w') := ⟨fun W => rodd_c ld W hlU⟩
  have LE : Aside0 (∀ W, Calls Try.prog 65 #[.int .u64 (ld : Int)] W fun e w' => e = .returned (.bool (leafW ld)) ∧ KpN W w') := ⟨fun W => rleads_c ld W hlU⟩
  have AL : Aside0 (∀ W, Calls Try.prog 66 #[.agg (wayC sp kd md sum mxr), .int .u64 (ld : Int)] W fun e w' => e = .returned (.bool (allowW kd md sum mxr ld)) ∧ KpN W w') := ⟨fun W => rallow_c sp kd md sum mxr ld W hlU⟩
  rw [ho] at OD
  rw [hlf] at LE
  rw [hal] at AL
  have t0 : ((gl : Int) == 0) = false := beq_eq_false_iff_ne.2 (by omega)
  have t1 : ((gl : Int) != 0) = true := by rw [bne, t0]; rfl
  clear ho hlf hal hg0 HW0
  subst hsf
  have eP := HP.out
  have l0 : (0 : Int) ≤ (l : Int) := by omega
  have l2 : (l : Int) ≤ 2 := by omega
  clear hhs hh hld ha ha' hgw hg9 h hM hT hv haU hle hlU hpw hgl hgv hpU g44 HP
  go_enter Try.func38, Try.ntmps38
  go_wp2_with (first
    | ((with_reducible refine gate_dst (N := 5) rfl ?_); refine bx_ev rfl rfl (N := 5) rfl (ramC (.slice A n c)) rfl ?_; intro q hg_q w1 hb_q hk_q; have Hg_q := Aside0.mk hg_q; clear hg_q)
    | ((with_reducible refine gate_dst (N := 6) rfl ?_); refine bx_ev rfl rfl (N := 6) rfl (wayC sp kd md sum mxr) rfl ?_; intro y hg_y w2 hb_y hk_y; have Hg_y := Aside0.mk hg_y; clear hg_y)
    | ((with_reducible refine gate_dst (N := 10) rfl ?_); refine al_ev rfl rfl (N := 10) rfl _ (zeroT2 _) ?_; intro r hg_r w3 hb_r hk_r; have Hg_r := Aside0.mk hg_r; clear hg_r))
  have Q3 : Bk w3 q (ramC (.slice A n c)) RT2 := ((Bk.mk hb_q).kp hk_y (fun h => h)).kp hk_r (fun h => h)
  have Y3 : Bk w3 y (wayC sp kd md sum mxr) Y2 := (Bk.mk hb_y).kp hk_r (fun h => h)
  have Z3 : Bk w3 r (RS.mk 0 false false 0).cells T2 := ⟨hb_r⟩
  have N3 : KpN w w3 := (hk_q.trans hk_y).trans hk_r
  have hwr : Aside0 (w.heap.size ≤ r) := ⟨by have := Hg_r.out; have := (hk_q.trans hk_y).size; omega⟩
  have hrq : Aside0 (q < r ∧ y < r) := ⟨by have := Hg_r.out; have := blk_lt hb_q; have := blk_lt hb_y; have := hk_y.size; omega⟩
  clear hb_q hb_y hb_r hk_q hk_y hk_r Hg_q Hg_y Hg_r
  have EV : ∀ x y : Operand, True := fun _ _ => trivial
  clear EV
  refine wp_region_vals 14 1 #[true, true, true, true, true, true, true, true, true, true, true, true, true, true, false] dD (vD A n c T va l gw a ld true) (by kernel_rfl) (by kernel_rfl) rfl ?_ ?_ ?_ ?_ ?_
  · intro i o hi ho
    rcases i with _ | _ | _ | _ | _ | _ | _ | _ | _ | _ | _ | _ | _ | _ | i
    all_goals first | (cases ho; rfl) | omega
  · intro i hi
    rcases i with _ | _ | _ | _ | _ | _ | _ | _ | _ | _ | _ | _ | _ | _ | i
    all_goals first | (show (_ : Nat) < 84; decide) | omega
  · intro i j hi hj h
    rcases i with _ | _ | _ | _ | _ | _ | _ | _ | _ | _ | _ | _ | _ | _ | i
    all_goals rcases j with _ | _ | _ | _ | _ | _ | _ | _ | _ | _ | _ | _ | _ | _ | j
    all_goals first | rfl | omega | (exact absurd h (by decide))
  · intro i o hi ho a' W hW hA hdep
    rcases i with _ | _ | _ | _ | _ | _ | _ | _ | _ | _ | _ | _ | _ | _ | i
    · cases ho
      exact sS_ld rfl rfl q (hA.old 5 (by decide)) RT2 (ramC (.slice A n c)) _ (Q3.kp hW (fun h => h)).blk Try.underlying30 rfl infoM ⟨Kp.refl _ _, rfl⟩
    · cases ho; exact sS_mv rfl rfl ⟨Kp.refl _ _, hA.old 3 (by decide)⟩
    · cases ho; exact sS_mv rfl rfl ⟨Kp.refl _ _, hA.old 2 (by decide)⟩
    · cases ho; exact sS_mv rfl rfl ⟨Kp.refl _ _, hA.old 4 (by decide)⟩
    · cases ho
      have h0 : a'.eval (.tmp 19) = _ := hdep 3 (by decide) (by kernel_rfl)
      exact sS_bin rfl rfl (.int .i64 9) (.int .i64 (l : Int)) _ rfl h0 (run_mul9 (l : Int) W _ _) ⟨Kp.refl _ _, by rw [E9.out]; rfl⟩
    · cases ho
      have h0 : a'.eval (.tmp 20) = _ := hdep 4 (by decide) (by kernel_rfl)
      exact sS_bin rfl rfl (.int .i64 12) (.int .i64 (9 * (l : Int))) _ rfl h0 (run_add12 (9 * (l : Int)) W _ _) ⟨Kp.refl _ _, by rw [E12.out]; rfl⟩
    · cases ho
      have h0 : a'.eval (.tmp 18) = _ := hdep 2 (by decide) (by kernel_rfl)
      have h1 : a'.eval (.tmp 21) = _ := hdep 5 (by decide) (by kernel_rfl)
      refine sS_ca rfl rfl Try.func22 (by kernel_rfl) rfl #[.int .u64 (va : Int), .int .i64 (12 + 9 * (l : Int)), .int .i64 9] (by simp only [List.map_toArray, List.map_cons, List.map_nil]; rw [h0, h1]; rfl) ?_
      exact (G1.out W).mono fun e w' h => ⟨_, h.1, h.2, rfl⟩
    · cases ho
      have h0 : a'.eval (.tmp 22) = _ := hdep 6 (by decide) (by kernel_rfl)
      exact sS_bin rfl rfl (.int .u64 8) (.int .u64 (gw : Int)) _ rfl h0 (run_mul8 (gw : Int) W _ _) ⟨Kp.refl _ _, by rw [EM.out]; rfl⟩
    · cases ho
      have h0 : a'.eval (.tmp 17) = _ := hdep 1 (by decide) (by kernel_rfl)
      have h1 : a'.eval (.tmp 23) = _ := hdep 7 (by decide) (by kernel_rfl)
      exact sS_bin rfl rfl (.int .u64 (T : Int)) (.int .u64 ((8 * gw : Nat) : Int)) _ h0 h1 (run_addu (T : Int) ((8 * gw : Nat) : Int) W _ _) ⟨Kp.refl _ _, by rw [EA.out]; rfl⟩
    · cases ho
      have h0 : a'.eval (.tmp 16) = _ := hdep 0 (by decide) (by kernel_rfl)
      have h1 : a'.eval (.tmp 24) = _ := hdep 8 (by decide) (by kernel_rfl)
      refine sS_ca rfl rfl Try.func63 (by kernel_rfl) rfl #[.agg (ramC (.slice A n c)), .int .u64 (a : Int), .int .i64 8] (by simp only [List.map_toArray, List.map_cons, List.map_nil]; rw [h0, h1]; rfl) ?_
      exact (LO.out W (N3.trans hW)).mono fun e w' h => ⟨_, h.1, h.2, rfl⟩
    · cases ho
      exact sS_mv rfl rfl ⟨Kp.refl _ _, hdep 9 (by decide) (by kernel_rfl)⟩
    · cases ho
      exact sS_ex rfl rfl #[.int .u64 (ld : Int), .bool true] (.int .u64 (ld : Int)) (hdep 10 (by decide) (by kernel_rfl)) rfl ⟨Kp.refl _ _, rfl⟩
    · cases ho
      exact sS_ex rfl rfl #[.int .u64 (ld : Int), .bool true] (.bool true) (hdep 10 (by decide) (by kernel_rfl)) rfl ⟨Kp.refl _ _, rfl⟩
    · cases ho
      exact sS_as rfl rfl ⟨Kp.refl _ _, hdep 11 (by decide) (by kernel_rfl)⟩
    · omega
  intro w4 hk4
  refine any_1 (i := 14) (by kernel_rfl) rfl rfl (wp_as rfl ?_)
  refine wpAny_done (by kernel_rfl) ?_ _
  simp only [putN, dD, vD, Act.put, Act.eval, List.setIfInBounds_toArray, List.set_cons_zero, List.set_cons_succ]
  have Q4 := Q3.kp hk4 (fun h => h)
  have Y4 := Y3.kp hk4 (fun h => h)
  have Z4 := Z3.kp hk4 (fun h => h)
  have N4 := N3.trans hk4
  clear Q3 Y3 Z3 N3 hk4 E9 E12 EM EA G1 LO
  go_wp2_with (first
    | ((with_reducible refine gate_dst (N := 13) rfl ?_); refine al_ev rfl rfl (N := 13) rfl _ (zeroT2 _) ?_; intro b hg_b w5 hb_b hk_b; have Hg_b := Aside0.mk hg_b; clear hg_b)
    | (((with_reducible refine gate_store (t := 42) (p := 13) rfl ?_); refine st_ev rfl rfl rfl b ((badR l).cells) _ _ rfl rfl (hb_b) infoT2 rfl (RS.one _) ?_; intro w6 hs_w6 ks_w6); have hbr : r ≠ b := (by have := Hg_b.out; have := blk_lt Z4.blk; omega); have hqb : q ≠ b := (by have := Hg_b.out; have := blk_lt Z4.blk; have := hrq.out; omega); have hyb : y ≠ b := (by have := Hg_b.out; have := blk_lt Z4.blk; have := hrq.out; omega); have Q6 := (Q4.kp hk_b (fun h => h)).kp ks_w6 hqb; have Y6 := (Y4.kp hk_b (fun h => h)).kp ks_w6 hyb; have Z6 := (Z4.kp hk_b (fun h => h)).kp ks_w6 hbr; have B6 : Bk w6 b (badR l).cells T2 := ⟨hs_w6⟩; have N6 : KpN w w6 := (N4.trans hk_b).then ks_w6 fun i hi (e : i = b) => by have := hwr.out; have := Hg_b.out; have := blk_lt Z4.blk; omega)
    | (go_at_call 22; (with_reducible refine (GP.out _).mono ?_); rintro e w7 ⟨rfl, hk7⟩; have Q7 := Q6.kp hk7 (fun h => h); have Y7 := Y6.kp hk7 (fun h => h); have Z7 := Z6.kp hk7 (fun h => h); have B7 := B6.kp hk7 (fun h => h); have N7 := N6.trans hk7)
    | (go_at_call 64; refine (OD.out _).mono ?_; rintro e w8 ⟨rfl, hk8⟩; have Q8 := Q7.kp hk8 (fun h => h); have Y8 := Y7.kp hk8 (fun h => h); have Z8 := Z7.kp hk8 (fun h => h); have B8 := B7.kp hk8 (fun h => h); have N8 := N7.trans hk8)
    | (go_at_call 65; (with_reducible refine (LE.out _).mono ?_); rintro e w9 ⟨rfl, hk9⟩; have Q9 := Q8.kp hk9 (fun h => h); have Y9 := Y8.kp hk9 (fun h => h); have Z9 := Z8.kp hk9 (fun h => h); have B9 := B8.kp hk9 (fun h => h); have N9 := N8.trans hk9)
    | (go_at_call 65; (with_reducible refine (LE.out _).mono ?_); rintro e w10 ⟨rfl, hk10⟩; have Q10 := Q9.kp hk10 (fun h => h); have Y10 := Y9.kp hk10 (fun h => h); have Z10 := Z9.kp hk10 (fun h => h); have B10 := B9.kp hk10 (fun h => h); have N10 := N9.trans hk10)
    | ((with_reducible refine gate_dst (N := 61) rfl ?_); refine wpList_load_row rfl 25 _ rfl y rfl _ (wayC sp kd md sum mxr) (0, 0) _ (Y10.blk) Try.underlying25 rfl infoY2 ?_)
    | (go_at_call 66; (with_reducible refine (AL.out _).mono ?_); rintro e w11 ⟨rfl, hk11⟩; have Q11 := Q10.kp hk11 (fun h => h); have Y11 := Y10.kp hk11 (fun h => h); have Z11 := Z10.kp hk11 (fun h => h); have B11 := B10.kp hk11 (fun h => h); have N11 := N10.trans hk11)
    | (go_at_call 22; (with_reducible refine (GL.out _).mono ?_); rintro e w12 ⟨rfl, hk12⟩; have Q12 := Q11.kp hk12 (fun h => h); have Y12 := Y11.kp hk12 (fun h => h); have Z12 := Z11.kp hk12 (fun h => h); have B12 := B11.kp hk12 (fun h => h); have N12 := N11.trans hk12)
    | ((with_reducible refine gate_dst (N := 73) rfl ?_); refine wpList_load_row rfl 42 _ rfl b rfl _ ((badR l).cells) (0, 0) _ (B12.blk) Try.underlying42 rfl infoT2 ?_)
    | ((with_reducible refine gate_store (t := 42) (p := 10) rfl ?_); refine st_ev rfl rfl rfl r ((badR l).cells) _ _ rfl rfl (Z12.blk) infoT2 rfl (RS.one _) ?_; intro w20 hs_w20 ks_w20))
  refine bodyPost_ret (results_cell_row rfl _ _ r 42 ((badR l).cells) (0, 0) _ rfl (hs_w20) Try.underlying42 rfl infoT2) rfl ?_
  rw [HW.out]
  exact ⟨rfl, N12.then ks_w20 fun i hi (e : i = r) => by have := hwr.out; omega⟩
set_option maxHeartbeats 8000000 in
set_option maxRecDepth 100000 in
theorem down_there (A : Option Addr) (n c : Nat) (M : Nat → Nat) (sp : Nat) (kd md : Int) (sum mxr : Bool) (va T l : Nat) (w : World) (h : Rl w A n c M) (hM : ∀ o, M o < 256) (hv : U va) (hT : U T) (hl : l ≤ 2) (hh : hasB 32768 (entA va T l) 8 = true) (ho : oddW (rldV M (entA va T l)) = false) (hlf : leafW (rldV M (entA va T l)) = true) (hal : allowW kd md sum mxr (rldV M (entA va T l)) = true) (hg0 : getW (pageW (rldV M (entA va T l))) 0 (12 + 9 * (l : Int)) = 0) :
    Calls Try.prog 38 #[.agg (ramC (.slice A n c)), .agg (wayC sp kd md sum mxr), .int .u64 (va : Int), .int .u64 (T : Int), .int .i64 (l : Int)] w (wPost w (walkL M 32768 kd md sum mxr va (l + 1) T)) := by
  obtain ⟨gw, hgw⟩ : ∃ g, getW va (12 + 9 * (l : Int)) 9 = g := ⟨_, rfl⟩
  obtain ⟨a, ha⟩ : ∃ a, entA va T l = a := ⟨_, rfl⟩
  obtain ⟨ld, hld⟩ : ∃ x, rldV M a = x := ⟨_, rfl⟩
  have hg9 : gw < 512 := by rw [← hgw]; exact get9 _ _
  have ha' : a = (T + 8 * gw) % 18446744073709551616 := by rw [← ha, ← hgw]; rfl
  have haU : U a := ⟨by rw [ha']; exact Nat.mod_lt _ (by decide)⟩
  have E9 : Aside0 (IntKind.i64.wrap (9 * (l : Int)) = 9 * (l : Int)) := ⟨by rw [IntKind.wrap_i64]; omega⟩
  have E12 : Aside0 (IntKind.i64.wrap (12 + 9 * (l : Int)) = 12 + 9 * (l : Int)) := ⟨by rw [IntKind.wrap_i64]; omega⟩
  have EM : Aside0 (IntKind.u64.wrap (8 * (gw : Int)) = ((8 * gw : Nat) : Int)) := ⟨by rw [IntKind.wrap_u64]; omega⟩
  have EA : Aside0 (IntKind.u64.wrap ((T : Int) + ((8 * gw : Nat) : Int)) = (a : Int)) := ⟨by rw [IntKind.wrap_u64, ha']; omega⟩
  have G1 : Aside0 (∀ W, Calls Try.prog 22 #[.int .u64 (va : Int), .int .i64 (12 + 9 * (l : Int)), .int .i64 9] W fun e w' => e = .returned (.int .u64 (gw : Int)) ∧ KpN W w') := ⟨fun W => by rw [← hgw]; exact getr_k va _ _ W hv⟩
  rw [ha] at hh
  obtain ⟨hs, hhs⟩ : ∃ b, hasB 32768 a 8 = b := ⟨_, rfl⟩
  have hsf : hs = true := hhs.symm.trans hh
  have hle : ldN M (a - 2147483648) 8 = ld := by rw [← hld]; unfold rldV; rw [if_pos hh]
  have hlU : U ld := ⟨by rw [← hle]; exact ldN_lt hM _ 8⟩
  obtain ⟨pw, hpw⟩ : ∃ p, pageW ld = p := ⟨_, rfl⟩
  have hpU : U pw := hpw ▸ pageW_ok ld
  obtain ⟨gl, hgl⟩ : ∃ x, getW pw 0 (12 + 9 * (l : Int)) = x := ⟨_, rfl⟩
  obtain ⟨gv, hgv⟩ : ∃ x, getW va 0 (12 + 9 * (l : Int)) = x := ⟨_, rfl⟩
  have HW0 := walkL_has M 32768 kd md sum mxr va l T a ld pw gl gv ha (by rw [hh]; decide) hle hpw hgl hgv
  rw [ha, hld] at ho hlf hal hg0
  rw [hpw] at hg0
  have hor := or_low pw va l hl hg0
  rw [hgv] at hor
  rw [hgl] at hg0
  have hsum : pw + gv < 18446744073709551616 := by
    have h1 : pw < 72057594037927936 := hpw ▸ pageW_lt ld
    have h2 := hgv ▸ getlow_lt va l hl
    omega
  have HS : Aside0 (IntKind.u64.wrap ((pw : Int) + (gv : Int)) = ((pw ||| gv : Nat) : Int)) := ⟨by rw [hor, IntKind.wrap_u64]; omega⟩
  have HW : Aside0 (walkL M 32768 kd md sum mxr va (l + 1) T = ⟨pw ||| gv, false, false, 3 - (l : Int)⟩) := ⟨by rw [HW0, if_neg (by rw [ho]; decide), if_neg (by rw [hlf]; decide), if_neg (by rintro (h | h); rw [hal] at h; cases h; exact h hg0)]⟩
  obtain ⟨ov, hov⟩ : ∃ x, pw ||| gv = x := ⟨_, rfl⟩
  rw [hov] at HS HW
  clear hor hsum hov
  have LO : Aside0 (∀ W, KpN w W → Calls Try.prog 63 #[.agg (ramC (.slice A n c)), .int .u64 (a : Int), .int .i64 8] W fun e w' => e = .returned (.tuple #[.int .u64 (ld : Int), .bool hs]) ∧ KpN W w') := ⟨fun W hW => by rw [← hld, ← hhs]; exact rload_c A n c M a W (h.kpN hW) hM haU⟩
  have GP : Aside0 (∀ W, Calls Try.prog 22 #[.int .u64 (ld : Int), .int .i64 10, .int .i64 44] W fun e w' => e = .returned (.int .u64 ((getW ld 10 44 : Nat) : Int)) ∧ KpN W w') := ⟨fun W => getr_k ld _ _ W hlU⟩
  have g44 := get44 ld 10
  have HP : Aside0 (IntKind.u64.wrap (((getW ld 10 44 : Nat) : Int) * 4096) = (pw : Int)) := ⟨by rw [IntKind.wrap_u64, ← hpw]; unfold pageW; omega⟩
  generalize getW ld 10 44 = g44v at GP HP
  have GL : Aside0 (∀ W, Calls Try.prog 22 #[.int .u64 (pw : Int), .int .i64 0, .int .i64 (12 + 9 * (l : Int))] W fun e w' => e = .returned (.int .u64 (gl : Int)) ∧ KpN W w') := ⟨fun W => by rw [← hgl]; exact getr_k pw _ _ W hpU⟩
  have GV : Aside0 (∀ W, Calls Try.prog 22 #[.int .u64 (va : Int), .int .i64 0, .int .i64 (12 + 9 * (l : Int))] W fun e w' => e = .returned (.int .u64 (gv : Int)) ∧ KpN W w') := ⟨fun W => by rw [← hgv]; exact getr_k va _ _ W hv⟩
  have OD : Aside0 (∀ W, Calls Try.prog 64 #[.int .u64 (ld : Int)] W fun e w' => e = .returned (.bool (oddW ld)) ∧ KpN W w') := ⟨fun W => rodd_c ld W hlU⟩
  have LE : Aside0 (∀ W, Calls Try.prog 65 #[.int .u64 (ld : Int)] W fun e w' => e = .returned (.bool (leafW ld)) ∧ KpN W w') := ⟨fun W => rleads_c ld W hlU⟩
  have AL : Aside0 (∀ W, Calls Try.prog 66 #[.agg (wayC sp kd md sum mxr), .int .u64 (ld : Int)] W fun e w' => e = .returned (.bool (allowW kd md sum mxr ld)) ∧ KpN W w') := ⟨fun W => rallow_c sp kd md sum mxr ld W hlU⟩
  rw [ho] at OD
  rw [hlf] at LE
  rw [hal] at AL
  subst hg0
  have eS := HS.out
  clear ho hlf hal HW0 HS
  subst hsf
  have eP := HP.out
  have l0 : (0 : Int) ≤ (l : Int) := by omega
  have l2 : (l : Int) ≤ 2 := by omega
  clear hhs hh hld ha ha' hgw hg9 h hM hT hv haU hle hlU hpw hgl hgv hpU g44 HP
  go_enter Try.func38, Try.ntmps38
  go_wp2_with (first
    | ((with_reducible refine gate_dst (N := 5) rfl ?_); refine bx_ev rfl rfl (N := 5) rfl (ramC (.slice A n c)) rfl ?_; intro q hg_q w1 hb_q hk_q; have Hg_q := Aside0.mk hg_q; clear hg_q)
    | ((with_reducible refine gate_dst (N := 6) rfl ?_); refine bx_ev rfl rfl (N := 6) rfl (wayC sp kd md sum mxr) rfl ?_; intro y hg_y w2 hb_y hk_y; have Hg_y := Aside0.mk hg_y; clear hg_y)
    | ((with_reducible refine gate_dst (N := 10) rfl ?_); refine al_ev rfl rfl (N := 10) rfl _ (zeroT2 _) ?_; intro r hg_r w3 hb_r hk_r; have Hg_r := Aside0.mk hg_r; clear hg_r))
  have Q3 : Bk w3 q (ramC (.slice A n c)) RT2 := ((Bk.mk hb_q).kp hk_y (fun h => h)).kp hk_r (fun h => h)
  have Y3 : Bk w3 y (wayC sp kd md sum mxr) Y2 := (Bk.mk hb_y).kp hk_r (fun h => h)
  have Z3 : Bk w3 r (RS.mk 0 false false 0).cells T2 := ⟨hb_r⟩
  have N3 : KpN w w3 := (hk_q.trans hk_y).trans hk_r
  have hwr : Aside0 (w.heap.size ≤ r) := ⟨by have := Hg_r.out; have := (hk_q.trans hk_y).size; omega⟩
  have hrq : Aside0 (q < r ∧ y < r) := ⟨by have := Hg_r.out; have := blk_lt hb_q; have := blk_lt hb_y; have := hk_y.size; omega⟩
  clear hb_q hb_y hb_r hk_q hk_y hk_r Hg_q Hg_y Hg_r
  have EV : ∀ x y : Operand, True := fun _ _ => trivial
  clear EV
  refine wp_region_vals 14 1 #[true, true, true, true, true, true, true, true, true, true, true, true, true, true, false] dD (vD A n c T va l gw a ld true) (by kernel_rfl) (by kernel_rfl) rfl ?_ ?_ ?_ ?_ ?_
  · intro i o hi ho
    rcases i with _ | _ | _ | _ | _ | _ | _ | _ | _ | _ | _ | _ | _ | _ | i
    all_goals first | (cases ho; rfl) | omega
  · intro i hi
    rcases i with _ | _ | _ | _ | _ | _ | _ | _ | _ | _ | _ | _ | _ | _ | i
    all_goals first | (show (_ : Nat) < 84; decide) | omega
  · intro i j hi hj h
    rcases i with _ | _ | _ | _ | _ | _ | _ | _ | _ | _ | _ | _ | _ | _ | i
    all_goals rcases j with _ | _ | _ | _ | _ | _ | _ | _ | _ | _ | _ | _ | _ | _ | j
    all_goals first | rfl | omega | (exact absurd h (by decide))
  · intro i o hi ho a' W hW hA hdep
    rcases i with _ | _ | _ | _ | _ | _ | _ | _ | _ | _ | _ | _ | _ | _ | i
    · cases ho
      exact sS_ld rfl rfl q (hA.old 5 (by decide)) RT2 (ramC (.slice A n c)) _ (Q3.kp hW (fun h => h)).blk Try.underlying30 rfl infoM ⟨Kp.refl _ _, rfl⟩
    · cases ho; exact sS_mv rfl rfl ⟨Kp.refl _ _, hA.old 3 (by decide)⟩
    · cases ho; exact sS_mv rfl rfl ⟨Kp.refl _ _, hA.old 2 (by decide)⟩
    · cases ho; exact sS_mv rfl rfl ⟨Kp.refl _ _, hA.old 4 (by decide)⟩
    · cases ho
      have h0 : a'.eval (.tmp 19) = _ := hdep 3 (by decide) (by kernel_rfl)
      exact sS_bin rfl rfl (.int .i64 9) (.int .i64 (l : Int)) _ rfl h0 (run_mul9 (l : Int) W _ _) ⟨Kp.refl _ _, by rw [E9.out]; rfl⟩
    · cases ho
      have h0 : a'.eval (.tmp 20) = _ := hdep 4 (by decide) (by kernel_rfl)
      exact sS_bin rfl rfl (.int .i64 12) (.int .i64 (9 * (l : Int))) _ rfl h0 (run_add12 (9 * (l : Int)) W _ _) ⟨Kp.refl _ _, by rw [E12.out]; rfl⟩
    · cases ho
      have h0 : a'.eval (.tmp 18) = _ := hdep 2 (by decide) (by kernel_rfl)
      have h1 : a'.eval (.tmp 21) = _ := hdep 5 (by decide) (by kernel_rfl)
      refine sS_ca rfl rfl Try.func22 (by kernel_rfl) rfl #[.int .u64 (va : Int), .int .i64 (12 + 9 * (l : Int)), .int .i64 9] (by simp only [List.map_toArray, List.map_cons, List.map_nil]; rw [h0, h1]; rfl) ?_
      exact (G1.out W).mono fun e w' h => ⟨_, h.1, h.2, rfl⟩
    · cases ho
      have h0 : a'.eval (.tmp 22) = _ := hdep 6 (by decide) (by kernel_rfl)
      exact sS_bin rfl rfl (.int .u64 8) (.int .u64 (gw : Int)) _ rfl h0 (run_mul8 (gw : Int) W _ _) ⟨Kp.refl _ _, by rw [EM.out]; rfl⟩
    · cases ho
      have h0 : a'.eval (.tmp 17) = _ := hdep 1 (by decide) (by kernel_rfl)
      have h1 : a'.eval (.tmp 23) = _ := hdep 7 (by decide) (by kernel_rfl)
      exact sS_bin rfl rfl (.int .u64 (T : Int)) (.int .u64 ((8 * gw : Nat) : Int)) _ h0 h1 (run_addu (T : Int) ((8 * gw : Nat) : Int) W _ _) ⟨Kp.refl _ _, by rw [EA.out]; rfl⟩
    · cases ho
      have h0 : a'.eval (.tmp 16) = _ := hdep 0 (by decide) (by kernel_rfl)
      have h1 : a'.eval (.tmp 24) = _ := hdep 8 (by decide) (by kernel_rfl)
      refine sS_ca rfl rfl Try.func63 (by kernel_rfl) rfl #[.agg (ramC (.slice A n c)), .int .u64 (a : Int), .int .i64 8] (by simp only [List.map_toArray, List.map_cons, List.map_nil]; rw [h0, h1]; rfl) ?_
      exact (LO.out W (N3.trans hW)).mono fun e w' h => ⟨_, h.1, h.2, rfl⟩
    · cases ho
      exact sS_mv rfl rfl ⟨Kp.refl _ _, hdep 9 (by decide) (by kernel_rfl)⟩
    · cases ho
      exact sS_ex rfl rfl #[.int .u64 (ld : Int), .bool true] (.int .u64 (ld : Int)) (hdep 10 (by decide) (by kernel_rfl)) rfl ⟨Kp.refl _ _, rfl⟩
    · cases ho
      exact sS_ex rfl rfl #[.int .u64 (ld : Int), .bool true] (.bool true) (hdep 10 (by decide) (by kernel_rfl)) rfl ⟨Kp.refl _ _, rfl⟩
    · cases ho
      exact sS_as rfl rfl ⟨Kp.refl _ _, hdep 11 (by decide) (by kernel_rfl)⟩
    · omega
  intro w4 hk4
  refine any_1 (i := 14) (by kernel_rfl) rfl rfl (wp_as rfl ?_)
  refine wpAny_done (by kernel_rfl) ?_ _
  simp only [putN, dD, vD, Act.put, Act.eval, List.setIfInBounds_toArray, List.set_cons_zero, List.set_cons_succ]
  have Q4 := Q3.kp hk4 (fun h => h)
  have Y4 := Y3.kp hk4 (fun h => h)
  have Z4 := Z3.kp hk4 (fun h => h)
  have N4 := N3.trans hk4
  clear Q3 Y3 Z3 N3 hk4 E9 E12 EM EA G1 LO
  go_wp2_with (first
    | ((with_reducible refine gate_dst (N := 13) rfl ?_); refine al_ev rfl rfl (N := 13) rfl _ (zeroT2 _) ?_; intro b hg_b w5 hb_b hk_b; have Hg_b := Aside0.mk hg_b; clear hg_b)
    | (((with_reducible refine gate_store (t := 42) (p := 13) rfl ?_); refine st_ev rfl rfl rfl b ((badR l).cells) _ _ rfl rfl (hb_b) infoT2 rfl (RS.one _) ?_; intro w6 hs_w6 ks_w6); have hbr : r ≠ b := (by have := Hg_b.out; have := blk_lt Z4.blk; omega); have hqb : q ≠ b := (by have := Hg_b.out; have := blk_lt Z4.blk; have := hrq.out; omega); have hyb : y ≠ b := (by have := Hg_b.out; have := blk_lt Z4.blk; have := hrq.out; omega); have Q6 := (Q4.kp hk_b (fun h => h)).kp ks_w6 hqb; have Y6 := (Y4.kp hk_b (fun h => h)).kp ks_w6 hyb; have Z6 := (Z4.kp hk_b (fun h => h)).kp ks_w6 hbr; have B6 : Bk w6 b (badR l).cells T2 := ⟨hs_w6⟩; have N6 : KpN w w6 := (N4.trans hk_b).then ks_w6 fun i hi (e : i = b) => by have := hwr.out; have := Hg_b.out; have := blk_lt Z4.blk; omega)
    | (go_at_call 22; (with_reducible refine (GP.out _).mono ?_); rintro e w7 ⟨rfl, hk7⟩; have Q7 := Q6.kp hk7 (fun h => h); have Y7 := Y6.kp hk7 (fun h => h); have Z7 := Z6.kp hk7 (fun h => h); have B7 := B6.kp hk7 (fun h => h); have N7 := N6.trans hk7)
    | (go_at_call 64; refine (OD.out _).mono ?_; rintro e w8 ⟨rfl, hk8⟩; have Q8 := Q7.kp hk8 (fun h => h); have Y8 := Y7.kp hk8 (fun h => h); have Z8 := Z7.kp hk8 (fun h => h); have B8 := B7.kp hk8 (fun h => h); have N8 := N7.trans hk8)
    | (go_at_call 65; (with_reducible refine (LE.out _).mono ?_); rintro e w9 ⟨rfl, hk9⟩; have Q9 := Q8.kp hk9 (fun h => h); have Y9 := Y8.kp hk9 (fun h => h); have Z9 := Z8.kp hk9 (fun h => h); have B9 := B8.kp hk9 (fun h => h); have N9 := N8.trans hk9)
    | (go_at_call 65; (with_reducible refine (LE.out _).mono ?_); rintro e w10 ⟨rfl, hk10⟩; have Q10 := Q9.kp hk10 (fun h => h); have Y10 := Y9.kp hk10 (fun h => h); have Z10 := Z9.kp hk10 (fun h => h); have B10 := B9.kp hk10 (fun h => h); have N10 := N9.trans hk10)
    | ((with_reducible refine gate_dst (N := 61) rfl ?_); refine wpList_load_row rfl 25 _ rfl y rfl _ (wayC sp kd md sum mxr) (0, 0) _ (Y10.blk) Try.underlying25 rfl infoY2 ?_)
    | (go_at_call 66; (with_reducible refine (AL.out _).mono ?_); rintro e w11 ⟨rfl, hk11⟩; have Q11 := Q10.kp hk11 (fun h => h); have Y11 := Y10.kp hk11 (fun h => h); have Z11 := Z10.kp hk11 (fun h => h); have B11 := B10.kp hk11 (fun h => h); have N11 := N10.trans hk11)
    | (go_at_call 22; (with_reducible refine (GL.out _).mono ?_); rintro e w12 ⟨rfl, hk12⟩; have Q12 := Q11.kp hk12 (fun h => h); have Y12 := Y11.kp hk12 (fun h => h); have Z12 := Z11.kp hk12 (fun h => h); have B12 := B11.kp hk12 (fun h => h); have N12 := N11.trans hk12)
    | (go_at_call 22; (with_reducible refine (GV.out _).mono ?_); rintro e w13 ⟨rfl, hk13⟩; have Q13 := Q12.kp hk13 (fun h => h); have Y13 := Y12.kp hk13 (fun h => h); have Z13 := Z12.kp hk13 (fun h => h); have B13 := B12.kp hk13 (fun h => h); have N13 := N12.trans hk13)
    | ((with_reducible refine gate_store (t := 42) (p := 10) rfl ?_); refine st_ev rfl rfl rfl r ((RS.mk ov false false (3 - (l : Int))).cells) _ _ rfl rfl (Z13.blk) infoT2 rfl (RS.one _) ?_; intro w20 hs_w20 ks_w20))
  refine bodyPost_ret (results_cell_row rfl _ _ r 42 ((RS.mk ov false false (3 - (l : Int))).cells) (0, 0) _ rfl (hs_w20) Try.underlying42 rfl infoT2) rfl ?_
  rw [HW.out]
  exact ⟨rfl, N13.then ks_w20 fun i hi (e : i = r) => by have := hwr.out; omega⟩
end Go.Proofs.Ytlhdildnekllhaa.H
/- Sv39Walks, walked by hand: any access to any address through any memory's tables. -/
namespace Go.Proofs.Ytlhdildnekllhaa.H
open Go.RowKit Go.Proofs.YtlhdildnekllhaaW.PrintWords Go.Proofs.YtlhdildnekllhaaW.PrintLast Go.Proofs.Ytlhdildnekllhaa.PAl Go.Proofs.Ytlhdildnekllhaa.Pure Go.Proofs.Ytlhdildnekllhaa.Vw
set_option linter.unusedVariables false
set_option linter.unusedSimpArgs false
theorem down_c (A : Option Addr) (n c : Nat) (M : Nat → Nat) (sp : Nat) (kd md : Int) (sum mxr : Bool) (va : Nat) (w : World) (h : Rl w A n c M) (hM : ∀ o, M o < 256) (hv : U va) : ∀ (l : Nat), l ≤ 2 → ∀ (T : Nat) (W : World), U T → KpN w W →
    Calls Try.prog 38 #[.agg (ramC (.slice A n c)), .agg (wayC sp kd md sum mxr), .int .u64 (va : Int), .int .u64 (T : Int), .int .i64 (l : Int)] W (wPost W (walkL M 32768 kd md sum mxr va (l + 1) T)) := by
  intro l
  induction l with
  | zero =>
    intro hl T W hT hW
    have hr := h.kpN hW
    by_cases hh : hasB 32768 (entA va T 0) 8 = false
    · exact down_far A n c M sp kd md sum mxr va T 0 W hr hM hv hT hl hh
    have hh' : hasB 32768 (entA va T 0) 8 = true := by simpa using hh
    by_cases ho : oddW (rldV M (entA va T 0)) = true
    · exact down_odd A n c M sp kd md sum mxr va T 0 W hr hM hv hT hl hh' ho
    have ho' : oddW (rldV M (entA va T 0)) = false := by simpa using ho
    by_cases hlf : leafW (rldV M (entA va T 0)) = false
    · exact down_low A n c M sp kd md sum mxr va T 0 W hr hM hv hT hl hh' ho' hlf rfl
    have hlf' : leafW (rldV M (entA va T 0)) = true := by simpa using hlf
    by_cases hal : allowW kd md sum mxr (rldV M (entA va T 0)) = false
    · exact down_not A n c M sp kd md sum mxr va T 0 W hr hM hv hT hl hh' ho' hlf' hal
    have hal' : allowW kd md sum mxr (rldV M (entA va T 0)) = true := by simpa using hal
    by_cases hg : getW (pageW (rldV M (entA va T 0))) 0 (12 + 9 * ((0 : Nat) : Int)) = 0
    · exact down_there A n c M sp kd md sum mxr va T 0 W hr hM hv hT hl hh' ho' hlf' hal' hg
    · exact down_skew A n c M sp kd md sum mxr va T 0 W hr hM hv hT hl hh' ho' hlf' hal' hg
  | succ l ih =>
    intro hl T W hT hW
    have hr := h.kpN hW
    by_cases hh : hasB 32768 (entA va T (l + 1)) 8 = false
    · exact down_far A n c M sp kd md sum mxr va T (l + 1) W hr hM hv hT hl hh
    have hh' : hasB 32768 (entA va T (l + 1)) 8 = true := by simpa using hh
    by_cases ho : oddW (rldV M (entA va T (l + 1))) = true
    · exact down_odd A n c M sp kd md sum mxr va T (l + 1) W hr hM hv hT hl hh' ho
    have ho' : oddW (rldV M (entA va T (l + 1))) = false := by simpa using ho
    by_cases hlf : leafW (rldV M (entA va T (l + 1))) = false
    · exact down_deep A n c M sp kd md sum mxr va T (l + 1) W hr hM hv hT hl hh' ho' hlf l rfl (fun T' W' hT' hW' => ih (by omega) T' W' hT' (hW.trans hW'))
    have hlf' : leafW (rldV M (entA va T (l + 1))) = true := by simpa using hlf
    by_cases hal : allowW kd md sum mxr (rldV M (entA va T (l + 1))) = false
    · exact down_not A n c M sp kd md sum mxr va T (l + 1) W hr hM hv hT hl hh' ho' hlf' hal
    have hal' : allowW kd md sum mxr (rldV M (entA va T (l + 1))) = true := by simpa using hal
    by_cases hg : getW (pageW (rldV M (entA va T (l + 1)))) 0 (12 + 9 * ((l + 1 : Nat) : Int)) = 0
    · exact down_there A n c M sp kd md sum mxr va T (l + 1) W hr hM hv hT hl hh' ho' hlf' hal' hg
    · exact down_skew A n c M sp kd md sum mxr va T (l + 1) W hr hM hv hT hl hh' ho' hlf' hal' hg
theorem rbare_c (sp : Nat) (kd md : Int) (sum mxr : Bool) (w : World) (hs : U sp) : Calls Try.prog 25 #[.agg (wayC sp kd md sum mxr)] w fun e' w' => e' = .returned (.bool (bareW sp md)) ∧ KpN w w' :=
  (vireoref10_Bare.calls 140 _ _ _ _ _ _ w (rbare_is hs kd md sum mxr 140 (by decide))).mono fun _ _ q => ⟨q.1, Kp.of_below q.2 _⟩
theorem rproper_c (va : Nat) (w : World) (hv : U va) : Calls Try.prog 27 #[.int .u64 (va : Int)] w fun e' w' => e' = .returned (.bool (properW va)) ∧ KpN w w' :=
  (vireoref10_Proper.calls 140 _ _ w (rproper_is hv 140 (by decide))).mono fun _ _ q => ⟨q.1, Kp.of_below q.2 _⟩
def dW (i : Nat) : Tmp := match i with | 0 => 15 | 1 => 16 | 2 => 17 | 3 => 18 | 4 => 19 | 5 => 20 | 6 => 21 | _ => 22
def vW (A : Option Addr) (n c sp : Nat) (kd md : Int) (sum mxr : Bool) (va y gs T : Nat) (R : RS) (i : Nat) : Value := match i with
  | 0 => .agg (ramC (.slice A n c)) | 1 => .agg (wayC sp kd md sum mxr) | 2 => .int .u64 (va : Int) | 3 => .pointer (some ⟨y, 0, none⟩) | 4 => .int .u64 (sp : Int) | 5 => .int .u64 (gs : Int) | 6 => .int .u64 (T : Int) | _ => .agg R.cells
theorem run_mul4096 (l : Int) (w : World) (x y : Operand) : (do eqGuard .mul 23 x y (.int .u64 l) (.int .u64 4096); binOp .mul 23 (.int .u64 l) (.int .u64 4096) : Sem Value).run Try.prog w = .ok (.int .u64 (IntKind.u64.wrap (l * 4096))) w := by kernel_rfl
theorem fa25 (y : Nat) (w : World) : (Instr.fieldAt 25 (.pointer (some ⟨y, 0, none⟩)) 0).run Try.prog w = .ok (.pointer (some ⟨y, 0, none⟩)) w := by kernel_rfl
theorem ld23 (p : Addr) (v : Value) (w : World) (h : w.cell? p = some v) : (Instr.loadAt 23 (.pointer (some p))).run Try.prog w = .ok v w := by
  go_simp
set_option maxHeartbeats 8000000 in
set_option maxRecDepth 100000 in
theorem rwalk_bare (A : Option Addr) (n c : Nat) (M : Nat → Nat) (sp : Nat) (kd md : Int) (sum mxr : Bool) (va : Nat) (w : World) (hp : U sp) (hb : bareW sp md = true) :
    Calls Try.prog 14 #[.agg (ramC (.slice A n c)), .agg (wayC sp kd md sum mxr), .int .u64 (va : Int)] w (wPost w (walkW M 32768 sp kd md sum mxr va)) := by
  have HW : Aside0 (walkW M 32768 sp kd md sum mxr va = ⟨va, false, false, 0⟩) := ⟨by unfold walkW; rw [if_pos hb]⟩
  have BR : Aside0 (∀ W, Calls Try.prog 25 #[.agg (wayC sp kd md sum mxr)] W fun e' w' => e' = .returned (.bool true) ∧ KpN W w') := ⟨fun W => by have := rbare_c sp kd md sum mxr W hp; rw [hb] at this; exact this⟩
  clear hb
  go_enter Try.func14, Try.ntmps14
  go_wp2_with (first
    | ((with_reducible refine gate_dst (N := 3) rfl ?_); refine bx_ev rfl rfl (N := 3) rfl (ramC (.slice A n c)) rfl ?_; intro q hg_q w1 hb_q hk_q; have Hg_q := Aside0.mk hg_q; clear hg_q)
    | (((with_reducible refine gate_dst (N := 4) rfl ?_); refine bx_ev rfl rfl (N := 4) rfl (wayC sp kd md sum mxr) rfl ?_; intro y hg_y w2 hb_y hk_y; have Hg_y := Aside0.mk hg_y; clear hg_y); have hY2 := Bk.mk hb_y)
    | ((with_reducible refine gate_dst (N := 6) rfl ?_); refine al_ev rfl rfl (N := 6) rfl _ (zeroT2 _) ?_; intro r hg_r w3 hb_r hk_r; have Hg_r := Aside0.mk hg_r; clear hg_r)
    | ((with_reducible refine gate_dst (N := 7) rfl ?_); refine wpList_load_row rfl 25 _ rfl y rfl _ (wayC sp kd md sum mxr) (0, 0) _ ((hY2.kp hk_r (fun h => h)).blk) Try.underlying25 rfl infoY2 ?_)
    | (go_at_call 25; refine (BR.out _).mono ?_; rintro e w4 ⟨rfl, k4⟩; have hZ4 := (Bk.mk hb_r).kp k4 (fun h => h))
    | ((with_reducible refine gate_store (t := 42) (p := 6) rfl ?_); refine st_ev rfl rfl rfl r ((RS.mk va false false 0).cells) _ _ rfl rfl (hZ4.blk) infoT2 rfl (RS.one _) ?_; intro w5 hs_w5 ks_w5))
  refine bodyPost_ret (results_cell_row rfl _ _ r 42 ((RS.mk va false false 0).cells) (0, 0) _ rfl (hs_w5) Try.underlying42 rfl infoT2) rfl ?_
  rw [HW.out]
  exact ⟨rfl, (((hk_q.trans hk_y).trans hk_r).trans k4).then ks_w5 fun i hi (e : i = r) => by have := Hg_r.out; have := (hk_q.trans hk_y).size; omega⟩
set_option maxHeartbeats 8000000 in
set_option maxRecDepth 100000 in
theorem rwalk_notp (A : Option Addr) (n c : Nat) (M : Nat → Nat) (sp : Nat) (kd md : Int) (sum mxr : Bool) (va : Nat) (w : World) (hp : U sp) (hv : U va) (hb : bareW sp md = false) (hq : properW va = false) :
    Calls Try.prog 14 #[.agg (ramC (.slice A n c)), .agg (wayC sp kd md sum mxr), .int .u64 (va : Int)] w (wPost w (walkW M 32768 sp kd md sum mxr va)) := by
  have HW : Aside0 (walkW M 32768 sp kd md sum mxr va = ⟨0, true, true, 0⟩) := ⟨by unfold walkW; rw [if_neg (by rw [hb]; decide), if_pos hq]⟩
  have BR : Aside0 (∀ W, Calls Try.prog 25 #[.agg (wayC sp kd md sum mxr)] W fun e' w' => e' = .returned (.bool false) ∧ KpN W w') := ⟨fun W => by have := rbare_c sp kd md sum mxr W hp; rw [hb] at this; exact this⟩
  have PR : Aside0 (∀ W, Calls Try.prog 27 #[.int .u64 (va : Int)] W fun e' w' => e' = .returned (.bool false) ∧ KpN W w') := ⟨fun W => by have := rproper_c va W hv; rw [hq] at this; exact this⟩
  clear hb hq
  go_enter Try.func14, Try.ntmps14
  go_wp2_with (first
    | ((with_reducible refine gate_dst (N := 3) rfl ?_); refine bx_ev rfl rfl (N := 3) rfl (ramC (.slice A n c)) rfl ?_; intro q hg_q w1 hb_q hk_q; have Hg_q := Aside0.mk hg_q; clear hg_q)
    | (((with_reducible refine gate_dst (N := 4) rfl ?_); refine bx_ev rfl rfl (N := 4) rfl (wayC sp kd md sum mxr) rfl ?_; intro y hg_y w2 hb_y hk_y; have Hg_y := Aside0.mk hg_y; clear hg_y); have hY2 := Bk.mk hb_y)
    | ((with_reducible refine gate_dst (N := 6) rfl ?_); refine al_ev rfl rfl (N := 6) rfl _ (zeroT2 _) ?_; intro r hg_r w3 hb_r hk_r; have Hg_r := Aside0.mk hg_r; clear hg_r)
    | ((with_reducible refine gate_dst (N := 7) rfl ?_); refine wpList_load_row rfl 25 _ rfl y rfl _ (wayC sp kd md sum mxr) (0, 0) _ ((hY2.kp hk_r (fun h => h)).blk) Try.underlying25 rfl infoY2 ?_)
    | (go_at_call 25; refine (BR.out _).mono ?_; rintro e w4 ⟨rfl, k4⟩)
    | (go_at_call 27; refine (PR.out _).mono ?_; rintro e w4' ⟨rfl, k4'⟩; have hZ4 := ((Bk.mk hb_r).kp k4 (fun h => h)).kp k4' (fun h => h))
    | ((with_reducible refine gate_store (t := 42) (p := 6) rfl ?_); refine st_ev rfl rfl rfl r ((RS.mk 0 true true 0).cells) _ _ rfl rfl (hZ4.blk) infoT2 rfl (RS.one _) ?_; intro w5 hs_w5 ks_w5))
  refine bodyPost_ret (results_cell_row rfl _ _ r 42 ((RS.mk 0 true true 0).cells) (0, 0) _ rfl (hs_w5) Try.underlying42 rfl infoT2) rfl ?_
  rw [HW.out]
  exact ⟨rfl, ((((hk_q.trans hk_y).trans hk_r).trans k4).trans k4').then ks_w5 fun i hi (e : i = r) => by have := Hg_r.out; have := (hk_q.trans hk_y).size; omega⟩
set_option maxHeartbeats 8000000 in
set_option maxRecDepth 100000 in
theorem rwalk_tables (A : Option Addr) (n c : Nat) (M : Nat → Nat) (sp : Nat) (kd md : Int) (sum mxr : Bool) (va : Nat) (w : World) (h : Rl w A n c M) (hM : ∀ o, M o < 256) (hp : U sp) (hv : U va) (hb : bareW sp md = false) (hq : properW va = true) :
    Calls Try.prog 14 #[.agg (ramC (.slice A n c)), .agg (wayC sp kd md sum mxr), .int .u64 (va : Int)] w (wPost w (walkW M 32768 sp kd md sum mxr va)) := by
  obtain ⟨R, hR⟩ : ∃ R, walkL M 32768 kd md sum mxr va 3 (getW sp 0 44 * 4096) = R := ⟨_, rfl⟩
  have HW : Aside0 (walkW M 32768 sp kd md sum mxr va = R) := ⟨by unfold walkW; rw [if_neg (by rw [hb]; decide), if_neg (by rw [hq]; decide), hR]⟩
  have BR : Aside0 (∀ W, Calls Try.prog 25 #[.agg (wayC sp kd md sum mxr)] W fun e' w' => e' = .returned (.bool false) ∧ KpN W w') := ⟨fun W => by have := rbare_c sp kd md sum mxr W hp; rw [hb] at this; exact this⟩
  have PR : Aside0 (∀ W, Calls Try.prog 27 #[.int .u64 (va : Int)] W fun e' w' => e' = .returned (.bool true) ∧ KpN W w') := ⟨fun W => by have := rproper_c va W hv; rw [hq] at this; exact this⟩
  have g44 := get44 sp 0
  obtain ⟨gs, hgs⟩ : ∃ g, getW sp 0 44 = g := ⟨_, rfl⟩
  rw [hgs] at g44
  obtain ⟨T, hT⟩ : ∃ T, gs * 4096 = T := ⟨_, rfl⟩
  have GS : Aside0 (∀ W, Calls Try.prog 22 #[.int .u64 (sp : Int), .int .i64 0, .int .i64 44] W fun e w' => e = .returned (.int .u64 (gs : Int)) ∧ KpN W w') := ⟨fun W => by rw [← hgs]; exact getr_k sp _ _ W hp⟩
  have ET : Aside0 (IntKind.u64.wrap ((gs : Int) * 4096) = (T : Int)) := ⟨by rw [IntKind.wrap_u64]; omega⟩
  have DN : Aside0 (∀ W, KpN w W → Calls Try.prog 38 #[.agg (ramC (.slice A n c)), .agg (wayC sp kd md sum mxr), .int .u64 (va : Int), .int .u64 (T : Int), .int .i64 2] W fun e w' => e = .returned (.agg R.cells) ∧ KpN W w') := ⟨fun W hW => by
    have := down_c A n c M sp kd md sum mxr va w h hM hv 2 (Nat.le_refl _) T W ⟨by omega⟩ hW
    rw [← hT, ← hgs, show (2 + 1) = 3 from rfl, hR, hgs, hT] at this
    exact this⟩
  clear hb hq hR g44 hgs hT h hM
  go_enter Try.func14, Try.ntmps14
  go_wp2_with (first
    | ((with_reducible refine gate_dst (N := 3) rfl ?_); refine bx_ev rfl rfl (N := 3) rfl (ramC (.slice A n c)) rfl ?_; intro q hg_q w1 hb_q hk_q; have Hg_q := Aside0.mk hg_q; clear hg_q)
    | (((with_reducible refine gate_dst (N := 4) rfl ?_); refine bx_ev rfl rfl (N := 4) rfl (wayC sp kd md sum mxr) rfl ?_; intro y hg_y w2 hb_y hk_y; have Hg_y := Aside0.mk hg_y; clear hg_y); have hY2 := Bk.mk hb_y)
    | ((with_reducible refine gate_dst (N := 6) rfl ?_); refine al_ev rfl rfl (N := 6) rfl _ (zeroT2 _) ?_; intro r hg_r w3 hb_r hk_r; have Hg_r := Aside0.mk hg_r; clear hg_r)
    | ((with_reducible refine gate_dst (N := 7) rfl ?_); refine wpList_load_row rfl 25 _ rfl y rfl _ (wayC sp kd md sum mxr) (0, 0) _ ((hY2.kp hk_r (fun h => h)).blk) Try.underlying25 rfl infoY2 ?_)
    | (go_at_call 25; refine (BR.out _).mono ?_; rintro e w4 ⟨rfl, k4⟩)
    | (go_at_call 27; refine (PR.out _).mono ?_; rintro e w5 ⟨rfl, k5⟩))
  have Q5 : Bk w5 q (ramC (.slice A n c)) RT2 := ((((Bk.mk hb_q).kp hk_y (fun h => h)).kp hk_r (fun h => h)).kp k4 (fun h => h)).kp k5 (fun h => h)
  have Y5 : Bk w5 y (wayC sp kd md sum mxr) Y2 := ((hY2.kp hk_r (fun h => h)).kp k4 (fun h => h)).kp k5 (fun h => h)
  have Z5 : Bk w5 r (RS.mk 0 false false 0).cells T2 := ((Bk.mk hb_r).kp k4 (fun h => h)).kp k5 (fun h => h)
  have N5 : KpN w w5 := (((hk_q.trans hk_y).trans hk_r).trans k4).trans k5
  have hwr : Aside0 (w.heap.size ≤ r) := ⟨by have := Hg_r.out; have := (hk_q.trans hk_y).size; omega⟩
  clear hb_q hb_y hb_r hk_q hk_y hk_r Hg_q Hg_y Hg_r hY2 k4 k5
  refine wp_region_vals 8 1 #[true, true, true, true, true, true, true, true, false] dW (vW A n c sp kd md sum mxr va y gs T R) (by kernel_rfl) (by kernel_rfl) rfl ?_ ?_ ?_ ?_ ?_
  · intro i o hi ho
    rcases i with _ | _ | _ | _ | _ | _ | _ | _ | i
    all_goals first | (cases ho; rfl) | omega
  · intro i hi
    rcases i with _ | _ | _ | _ | _ | _ | _ | _ | i
    all_goals first | (show (_ : Nat) < 23; decide) | omega
  · intro i j hi hj h
    rcases i with _ | _ | _ | _ | _ | _ | _ | _ | i
    all_goals rcases j with _ | _ | _ | _ | _ | _ | _ | _ | j
    all_goals first | rfl | omega | (exact absurd h (by decide))
  · intro i o hi ho a' W hW hA hdep
    rcases i with _ | _ | _ | _ | _ | _ | _ | _ | i
    · cases ho
      exact sS_ld rfl rfl q (hA.old 3 (by decide)) RT2 (ramC (.slice A n c)) _ (Q5.kp hW (fun h => h)).blk Try.underlying30 rfl infoM ⟨Kp.refl _ _, rfl⟩
    · cases ho
      exact sS_ld rfl rfl y (hA.old 4 (by decide)) Y2 (wayC sp kd md sum mxr) _ (Y5.kp hW (fun h => h)).blk Try.underlying25 rfl infoY2 ⟨Kp.refl _ _, rfl⟩
    · cases ho; exact sS_mv rfl rfl ⟨Kp.refl _ _, hA.old 2 (by decide)⟩
    · cases ho
      have h0 : a'.eval (.tmp 4) = .pointer (some ⟨y, 0, none⟩) := hA.old 4 (by decide)
      exact sS_fa rfl rfl _ _ h0 (fa25 y W) ⟨Kp.refl _ _, rfl⟩
    · cases ho
      have h0 : a'.eval (.tmp 18) = .pointer (some ⟨y, 0, none⟩) := hdep 3 (by decide) (by kernel_rfl)
      have c0 : W.cell? ⟨y, 0, none⟩ = some (.int .u64 (sp : Int)) := (Y5.kp hW (fun h => h)).c 0
      exact sS_load rfl rfl _ (.int .u64 (sp : Int)) h0 (ld23 _ _ W c0) ⟨Kp.refl _ _, rfl⟩
    · cases ho
      have h0 : a'.eval (.tmp 19) = _ := hdep 4 (by decide) (by kernel_rfl)
      refine sS_ca rfl rfl Try.func22 (by kernel_rfl) rfl #[.int .u64 (sp : Int), .int .i64 0, .int .i64 44] (by simp only [List.map_toArray, List.map_cons, List.map_nil]; rw [h0]; rfl) ?_
      exact (GS.out W).mono fun e w' h => ⟨_, h.1, h.2, rfl⟩
    · cases ho
      have h0 : a'.eval (.tmp 20) = _ := hdep 5 (by decide) (by kernel_rfl)
      exact sS_bin rfl rfl (.int .u64 (gs : Int)) (.int .u64 4096) _ h0 rfl (run_mul4096 (gs : Int) W _ _) ⟨Kp.refl _ _, by rw [ET.out]; rfl⟩
    · cases ho
      have h0 : a'.eval (.tmp 15) = _ := hdep 0 (by decide) (by kernel_rfl)
      have h1 : a'.eval (.tmp 16) = _ := hdep 1 (by decide) (by kernel_rfl)
      have h2 : a'.eval (.tmp 17) = _ := hdep 2 (by decide) (by kernel_rfl)
      have h3 : a'.eval (.tmp 21) = _ := hdep 6 (by decide) (by kernel_rfl)
      refine sS_ca rfl rfl Try.func38 (by kernel_rfl) rfl #[.agg (ramC (.slice A n c)), .agg (wayC sp kd md sum mxr), .int .u64 (va : Int), .int .u64 (T : Int), .int .i64 2] (by simp only [List.map_toArray, List.map_cons, List.map_nil]; rw [h0, h1, h2, h3]; rfl) ?_
      exact (DN.out W (N5.trans hW)).mono fun e w' h => ⟨_, h.1, h.2, rfl⟩
    · omega
  intro w6 hk6
  have Z6 := Z5.kp hk6 (fun h => h)
  have N6 := N5.trans hk6
  simp only [putN, dW, vW, Act.put, List.setIfInBounds_toArray, List.set_cons_zero, List.set_cons_succ]
  refine any_1 (i := 8) (by kernel_rfl) rfl rfl (wp_st rfl rfl r R.cells (RS.mk 0 false false 0).cells T2 rfl rfl Z6.blk infoT2 rfl (RS.one _) fun w7 h7 k7 => ?_)
  refine wpAny_done (by kernel_rfl) ?_ _
  go_wp2
  refine bodyPost_ret (results_cell_row rfl _ _ r 42 (R.cells) (0, 0) _ rfl (h7) Try.underlying42 rfl infoT2) rfl ?_
  rw [HW.out]
  exact ⟨rfl, N6.then k7 fun i hi (e : i = r) => by have := hwr.out; omega⟩
theorem rwalk_c (A : Option Addr) (n c : Nat) (M : Nat → Nat) (sp : Nat) (kd md : Int) (sum mxr : Bool) (va : Nat) (w : World) (h : Rl w A n c M) (hM : ∀ o, M o < 256) (hp : U sp) (hv : U va) :
    Calls Try.prog 14 #[.agg (ramC (.slice A n c)), .agg (wayC sp kd md sum mxr), .int .u64 (va : Int)] w (wPost w (walkW M 32768 sp kd md sum mxr va)) := by
  by_cases hb : bareW sp md = true
  · exact rwalk_bare A n c M sp kd md sum mxr va w hp hb
  have hb' : bareW sp md = false := by simpa using hb
  by_cases hq : properW va = false
  · exact rwalk_notp A n c M sp kd md sum mxr va w hp hv hb' hq
  · exact rwalk_tables A n c M sp kd md sum mxr va w h hM hp hv hb' (by simpa using hq)
end Go.Proofs.Ytlhdildnekllhaa.H
/- Sv39Walks, walked by hand: the law. -/
namespace Go.Proofs.Ytlhdildnekllhaa.H
open Go.RowKit Go.Proofs.YtlhdildnekllhaaW.PrintWords Go.Proofs.YtlhdildnekllhaaW.PrintLast Go.Proofs.Ytlhdildnekllhaa.PAl Go.Proofs.Ytlhdildnekllhaa.Pure Go.Proofs.Ytlhdildnekllhaa.Vw
set_option linter.unusedVariables false
set_option linter.unusedSimpArgs false
theorem wayC_one (sp : Nat) (kd md : Int) (sum mxr : Bool) : (wayC sp kd md sum mxr).all (·.oneCell') = true := by simp [Value.oneCell']
theorem way_c (sp : Nat) (kd md : Int) (sum mxr : Bool) (w : World) : Calls Try.prog 13 #[.agg (wayC sp kd md sum mxr)] w fun e w' => e = .returned (.agg (wayC sp kd md sum mxr)) ∧ KpN w w' :=
  (vireolaw10_way.calls (sp : Int) kd md sum mxr _ _ _ _ _ w rfl).mono fun _ _ q => ⟨q.1, Kp.of_below q.2 _⟩
def rightW (md : Int) : Bool := decide (md = 0 ∨ md = 1 ∨ md = 3)
theorem right_c (sp : Nat) (kd md : Int) (sum mxr : Bool) (w : World) : Calls Try.prog 10 #[.agg (wayC sp kd md sum mxr)] w fun e w' => e = .returned (.bool (rightW md)) ∧ KpN w w' := by
  have h : vireolaw10_right.f (sp : Int) kd md sum mxr = some (rightW md) := by
    unfold vireolaw10_right.f rightW
    by_cases h0 : md = 0
    · rw [if_pos h0, decide_eq_true (.inl h0)]
    rw [if_neg h0]
    by_cases h1 : md = 1
    · rw [if_pos h1, decide_eq_true (.inr (.inl h1))]
    rw [if_neg h1]
    by_cases h3 : md = 3
    · rw [decide_eq_true (.inr (.inr h3)), h3]; rfl
    · rw [decide_eq_false (by rintro (h | h | h); exact h0 h; exact h1 h; exact h3 h), beq_eq_false_iff_ne.2 h3]
  exact (vireolaw10_right.calls (sp : Int) kd md sum mxr _ w h).mono fun _ _ q => ⟨q.1, Kp.of_below q.2 _⟩
theorem is_c (R : RS) (w : World) : Calls Try.prog 11 #[.agg R.cells, .agg R.cells] w fun e w' => e = .returned (.bool true) ∧ KpN w w' := by
  have h : vireolaw10_is.f (R.addr : Int) R.fault R.page R.reads (R.addr : Int) R.fault R.page R.reads = some true := by
    unfold vireolaw10_is.f
    rw [if_pos rfl, if_pos (beq_self_eq_true _), if_pos (beq_self_eq_true _), beq_self_eq_true]
  exact (vireolaw10_is.calls _ _ _ _ _ _ _ _ _ w h).mono fun _ _ q => ⟨q.1, Kp.of_below q.2 _⟩
set_option maxHeartbeats 8000000 in
set_option maxRecDepth 100000 in
theorem walks_big (A : Option Addr) (c : Nat) (xs : List PW) (sp : Nat) (kd md : Int) (sum mxr : Bool) (va : Nat) (w : World) (hn : 60 < xs.length) :
    Calls Try.prog 3 #[.slice A xs.length c, .agg (wayC sp kd md sum mxr), .int .u64 (va : Int)] w fun e w' => e = .returned (.bool true) ∧ Below w.heap.size w w' := by
  have AW := Aside0.mk awake10_c
  have ME : Aside0 (∀ W, Calls Try.prog 9 #[.slice A xs.length c] W fun e w' => e = .returned (.tuple #[.pointer none, .agg (ramC (.slice none 0 0))]) ∧ KpN W w') := ⟨fun W => memory_no A c xs W hn⟩
  clear hn
  go_enter Try.func3, Try.ntmps3
  go_wp2_with (first
    | ((with_reducible refine gate_dst (N := 4) rfl ?_); refine bx_ev rfl rfl (N := 4) rfl (wayC sp kd md sum mxr) rfl ?_; intro k hg_k w1 hb_k hk_k; have Hg_k := Aside0.mk hg_k; clear hg_k)
    | (go_at_call 8; refine (AW.out _).mono ?_; rintro e w2 ⟨rfl, hk2⟩)
    | (go_at_call 9; refine (ME.out _).mono ?_; rintro e w3 ⟨rfl, hk3⟩)
    | ((with_reducible refine gate_dst (N := 8) rfl ?_); refine al_ev rfl rfl (N := 8) rfl _ (zeroM _) ?_; intro x hg_x w4 hb_x hk_x; have Hg_x := Aside0.mk hg_x; clear hg_x)
    | ((with_reducible refine gate_store (t := 30) (p := 8) rfl ?_); refine st_ev rfl rfl rfl x (ramC (.slice none 0 0)) _ _ rfl rfl (hb_x) infoM rfl ((by simp [Value.oneCell'])) ?_; intro w5 hs_w5 ks_w5))
  go_ret
  exact ⟨rfl, ((((hk_k.trans hk2).trans hk3).trans hk_x).then ks_w5 fun i hi (e : i = x) => by have := Hg_x.out; have := ((hk_k.trans hk2).trans hk3).size; omega).below (fun _ _ h => h.elim) (Nat.le_refl _)⟩
set_option maxHeartbeats 8000000 in
set_option maxRecDepth 100000 in
theorem walks_md (A : Option Addr) (c : Nat) (xs : List PW) (sp : Nat) (kd md : Int) (sum mxr : Bool) (va : Nat) (w : World) (hn : xs.length ≤ 60) (hC : Kd.C k72 w A xs.length xs) (hx : putOk xs) (hm : rightW md = false) :
    Calls Try.prog 3 #[.slice A xs.length c, .agg (wayC sp kd md sum mxr), .int .u64 (va : Int)] w fun e w' => e = .returned (.bool true) ∧ Below w.heap.size w w' := by
  have AW := Aside0.mk awake10_c
  have ME : Aside0 (∀ W, KpN w W → Calls Try.prog 9 #[.slice A xs.length c] W (memPost xs W)) := ⟨fun W hW => memory_yes A c xs W hn (Kd.C_below hC (hW.below (fun _ _ h => h.elim) (Nat.le_refl _))) hx⟩
  have RI : Aside0 (∀ W, Calls Try.prog 10 #[.agg (wayC sp kd md sum mxr)] W fun e w' => e = .returned (.bool false) ∧ KpN W w') := ⟨fun W => by rw [← hm]; exact right_c sp kd md sum mxr W⟩
  clear hn hC hx hm
  go_enter Try.func3, Try.ntmps3
  go_wp2_with (first
    | ((with_reducible refine gate_dst (N := 4) rfl ?_); refine bx_ev rfl rfl (N := 4) rfl (wayC sp kd md sum mxr) rfl ?_; intro k hg_k w1 hb_k hk_k; have Hg_k := Aside0.mk hg_k; clear hg_k)
    | (go_at_call 8; refine (AW.out _).mono ?_; rintro e w2 ⟨rfl, hk2⟩)
    | (go_at_call 9; refine (ME.out _ (hk_k.trans hk2)).mono ?_; rintro e w3 ⟨g, B, pg, A1, c1, n1, rfl, hR3, hL3, hk3, hlo⟩; have hY3 := ((Bk.mk hb_k).kp hk2 (fun h => h)).kp hk3 (fun h => h); clear hR3 hL3 hlo)
    | ((with_reducible refine gate_dst (N := 8) rfl ?_); refine al_ev rfl rfl (N := 8) rfl _ (zeroM _) ?_; intro x hg_x w4 hb_x hk_x; have Hg_x := Aside0.mk hg_x; clear hg_x)
    | (((with_reducible refine gate_store (t := 30) (p := 8) rfl ?_); refine st_ev rfl rfl rfl x (ramC (.slice A1 n1 c1)) _ _ rfl rfl (hb_x) infoM rfl ((by simp [Value.oneCell'])) ?_; intro w5 hs_w5 ks_w5); have hkx : k ≠ x := (by have := Hg_x.out; have := blk_lt hY3.blk; omega); have hY5 := (hY3.kp hk_x (fun h => h)).kp ks_w5 hkx; have c0 : w5.cell? ⟨k, 0, none⟩ = some (.int .u64 (sp : Int)) := hY5.c 0; have c1_ : w5.cell? ⟨k, 1, none⟩ = some (.int .i64 kd) := hY5.c 1; have c2 : w5.cell? ⟨k, 2, none⟩ = some (.int .i64 md) := hY5.c 2; have c3 : w5.cell? ⟨k, 3, none⟩ = some (.bool sum) := hY5.c 3; have c4 : w5.cell? ⟨k, 4, none⟩ = some (.bool mxr) := hY5.c 4)
    | (go_at_call 10; refine (RI.out _).mono ?_; rintro e w6 ⟨rfl, hk6⟩))
  go_ret
  exact ⟨rfl, (((((hk_k.trans hk2).trans hk3).trans hk_x).then ks_w5 fun i hi (e : i = x) => by have := Hg_x.out; have := ((hk_k.trans hk2).trans hk3).size; omega).trans hk6).below (fun _ _ h => h.elim) (Nat.le_refl _)⟩
theorem wp_asv {P : Program} {Q : Exit → Act → World → Prop} {o : Oper} {a : Act} {w : World} {K : Act → World → Prop} {x : Operand} (ho : o.op = .assign x) (N : Tmp) (hd : o.dst = some N) (v : Value) (hx : a.eval x = v) (h : K (a.put (some N) v) w) : o.wp P a w K Q := wp_as ho (by rw [hx, hd]; exact h)
def dL (i : Nat) : Tmp := match i with | 0 => 23 | 1 => 24 | 2 => 25 | 3 => 26 | 4 => 27 | 5 => 28 | 6 => 29 | 7 => 30 | 8 => 31 | _ => 32
def vL (A : Option Addr) (n c sp : Nat) (kd md : Int) (sum mxr : Bool) (va g : Nat) (R : RS) (i : Nat) : Value := match i with
  | 0 => .pointer (some ⟨g, 0, none⟩) | 1 => .agg (wayC sp kd md sum mxr) | 2 => .agg (wayC sp kd md sum mxr) | 3 => .int .u64 (va : Int) | 4 => .agg R.cells | 5 => .agg (ramC (.slice A n c)) | 6 => .agg (wayC sp kd md sum mxr) | 7 => .int .u64 (va : Int) | 8 => .agg R.cells | _ => .bool true
theorem Rl.of_R {w : World} {base : Nat} {ok : Nat → Prop} {A : Option Addr} {n c : Nat} {xs : List PW} (hn : xs.length ≤ 60) (h : Kd.R k131 131 w base ok (.slice A n c) (memL xs xs.length)) : Rl w A n c (memM xs xs.length) := by
  obtain ⟨h1, h2, h3⟩ := Kd.R_reads' h
  have hl := memL_len xs xs.length
  exact ⟨memL xs xs.length, h1, h2, by rw [h1]; exact h3, by omega, memL_ok xs _, fun o => mem_same xs o _⟩
set_option maxHeartbeats 8000000 in
set_option maxRecDepth 100000 in
theorem walks_yes (A : Option Addr) (c : Nat) (xs : List PW) (sp : Nat) (kd md : Int) (sum mxr : Bool) (va : Nat) (w : World) (hn : xs.length ≤ 60) (hC : Kd.C k72 w A xs.length xs) (hx : putOk xs) (hp : U sp) (hv : U va) (hm : rightW md = true) :
    Calls Try.prog 3 #[.slice A xs.length c, .agg (wayC sp kd md sum mxr), .int .u64 (va : Int)] w fun e w' => e = .returned (.bool true) ∧ Below w.heap.size w w' := by
  have AW := Aside0.mk awake10_c
  have ME : Aside0 (∀ W, KpN w W → Calls Try.prog 9 #[.slice A xs.length c] W (memPost xs W)) := ⟨fun W hW => memory_yes A c xs W hn (Kd.C_below hC (hW.below (fun _ _ h => h.elim) (Nat.le_refl _))) hx⟩
  have RI : Aside0 (∀ W, Calls Try.prog 10 #[.agg (wayC sp kd md sum mxr)] W fun e w' => e = .returned (.bool true) ∧ KpN W w') := ⟨fun W => by rw [← hm]; exact right_c sp kd md sum mxr W⟩
  have WY : Aside0 (∀ W, Calls Try.prog 13 #[.agg (wayC sp kd md sum mxr)] W fun e w' => e = .returned (.agg (wayC sp kd md sum mxr)) ∧ KpN W w') := ⟨way_c sp kd md sum mxr⟩
  obtain ⟨R, hR⟩ : ∃ R, walkW (memM xs xs.length) 32768 sp kd md sum mxr va = R := ⟨_, rfl⟩
  have WK : Aside0 (∀ (g B n : Nat) (pg : Nat → Option Nat) W, Rm W g B n 32768 pg (memM xs xs.length) → Calls Try.prog 12 #[.pointer (some ⟨g, 0, none⟩), .agg (wayC sp kd md sum mxr), .int .u64 (va : Int)] W fun e w' => e = .returned (.agg R.cells) ∧ KpN W w') := ⟨fun g B n pg W h => by rw [← hR]; exact walk_c g B n 32768 pg _ sp kd md sum mxr va W h (by decide) hp hv⟩
  have RW : Aside0 (∀ (A : Option Addr) (n c : Nat) W, Rl W A n c (memM xs xs.length) → (∀ o, memM xs xs.length o < 256) → Calls Try.prog 14 #[.agg (ramC (.slice A n c)), .agg (wayC sp kd md sum mxr), .int .u64 (va : Int)] W fun e w' => e = .returned (.agg R.cells) ∧ KpN W w') := ⟨fun A n c W h hM => by rw [← hR]; exact rwalk_c A n c _ sp kd md sum mxr va W h hM hp hv⟩
  have OF : Aside0 (∀ (W : World) base (ok : Nat → Prop) (A : Option Addr) (n c : Nat), Kd.R k131 131 W base ok (.slice A n c) (memL xs xs.length) → Rl W A n c (memM xs xs.length)) := ⟨fun W base ok A n c h => Rl.of_R hn h⟩
  clear hn hC hx hm hR
  go_enter Try.func3, Try.ntmps3
  go_wp2_with (first
    | ((with_reducible refine gate_dst (N := 4) rfl ?_); refine bx_ev rfl rfl (N := 4) rfl (wayC sp kd md sum mxr) rfl ?_; intro k hg_k w1 hb_k hk_k; have Hg_k := Aside0.mk hg_k; clear hg_k)
    | (go_at_call 8; refine (AW.out _).mono ?_; rintro e w2 ⟨rfl, hk2⟩)
    | (go_at_call 9; refine (ME.out _ (hk_k.trans hk2)).mono ?_; rintro e w3 ⟨g, B, pg, A1, c1, n1, rfl, hR3, hL3, hk3, hlo⟩; have hY3 := ((Bk.mk hb_k).kp hk2 (fun h => h)).kp hk3 (fun h => h); have hRl3 := OF.out _ _ _ _ _ _ hL3; clear hL3 hlo)
    | ((with_reducible refine gate_dst (N := 8) rfl ?_); refine al_ev rfl rfl (N := 8) rfl _ (zeroM _) ?_; intro x hg_x w4 hb_x hk_x; have Hg_x := Aside0.mk hg_x; clear hg_x)
    | (((with_reducible refine gate_store (t := 30) (p := 8) rfl ?_); refine st_ev rfl rfl rfl x (ramC (.slice A1 n1 c1)) _ _ rfl rfl (hb_x) infoM rfl ((by simp [Value.oneCell'])) ?_; intro w5 hs_w5 ks_w5); have hkx : k ≠ x := (by have := Hg_x.out; have := blk_lt hY3.blk; omega); have hY5 := (hY3.kp hk_x (fun h => h)).kp ks_w5 hkx; have c0 : w5.cell? ⟨k, 0, none⟩ = some (.int .u64 (sp : Int)) := hY5.c 0; have c1_ : w5.cell? ⟨k, 1, none⟩ = some (.int .i64 kd) := hY5.c 1; have c2 : w5.cell? ⟨k, 2, none⟩ = some (.int .i64 md) := hY5.c 2; have c3 : w5.cell? ⟨k, 3, none⟩ = some (.bool sum) := hY5.c 3; have c4 : w5.cell? ⟨k, 4, none⟩ = some (.bool mxr) := hY5.c 4; have hwx : w.heap.size ≤ x := (by have := Hg_x.out; have := ((hk_k.trans hk2).trans hk3).size; omega))
    | (go_at_call 10; refine (RI.out _).mono ?_; rintro e w6 ⟨rfl, hk6⟩))
  have X5 : Bk w5 x (ramC (.slice A1 n1 c1)) RT2 := ⟨hs_w5⟩
  have Y6 := hY5.kp hk6 (fun h => h)
  have X6 := X5.kp hk6 (fun h => h)
  have R4 := hR3.kpN hk_x
  have R5 := R4.kp ks_w5 fun i hi (e : i = x) => R4.off hb_x (by decide) (by decide) (e ▸ hi)
  have R6 := Aside0.mk (R5.kpN hk6)
  have N3 : KpN w w3 := (hk_k.trans hk2).trans hk3
  have N6 : KpN w w6 := ((N3.trans hk_x).then ks_w5 fun i hi (e : i = x) => by omega).trans hk6
  have L6 : Aside0 (∀ W, KpN w6 W → Rl W A1 n1 c1 (memM xs xs.length)) := ⟨fun W hW => by
    obtain ⟨l, h1, h2, h3, h4, h5, h6⟩ := hRl3.ex
    have hb3 : Below w3.heap.size w3 W := (((hk_x.then ks_w5 (S := fun _ => False) (fun i hi (e : i = x) => by have := Hg_x.out; omega)).trans hk6).trans hW).below (fun _ _ h => h.elim) (Nat.le_refl _)
    exact ⟨l, h1, h2, Kd.C_below h3 hb3, h4, h5, h6⟩⟩
  clear c0 c1_ c2 c3 c4 hb_k hk_k Hg_k hk2 hk3 hY3 hRl3 hb_x hk_x Hg_x hs_w5 ks_w5 hR3 R4 R5 hY5 X5 hk6 N3
  refine wp_region_vals 10 1 #[true, true, true, true, true, true, true, true, true, true, false] dL (vL A1 n1 c1 sp kd md sum mxr va g R) (by kernel_rfl) (by kernel_rfl) rfl ?_ ?_ ?_ ?_ ?_
  · intro i o hi ho
    rcases i with _ | _ | _ | _ | _ | _ | _ | _ | _ | _ | i
    all_goals first | (cases ho; rfl) | omega
  · intro i hi
    rcases i with _ | _ | _ | _ | _ | _ | _ | _ | _ | _ | i
    all_goals first | (show (_ : Nat) < 33; decide) | omega
  · intro i j hi hj h
    rcases i with _ | _ | _ | _ | _ | _ | _ | _ | _ | _ | i
    all_goals rcases j with _ | _ | _ | _ | _ | _ | _ | _ | _ | _ | j
    all_goals first | rfl | omega | (exact absurd h (by decide))
  · intro i o hi ho a' W hW hA hdep
    rcases i with _ | _ | _ | _ | _ | _ | _ | _ | _ | _ | i
    · cases ho; exact sS_mv rfl rfl ⟨Kp.refl _ _, hA.old 7 (by decide)⟩
    · cases ho
      exact sS_ld rfl rfl k (hA.old 4 (by decide)) Y2 (wayC sp kd md sum mxr) _ (Y6.kp hW (fun h => h)).blk Try.underlying25 rfl infoY2 ⟨Kp.refl _ _, rfl⟩
    · cases ho
      have h0 : a'.eval (.tmp 24) = _ := hdep 1 (by decide) (by kernel_rfl)
      refine sS_ca rfl rfl Try.func13 (by kernel_rfl) rfl #[.agg (wayC sp kd md sum mxr)] (by simp only [List.map_toArray, List.map_cons, List.map_nil]; rw [h0]; rfl) ?_
      exact (WY.out W).mono fun e w' h => ⟨_, h.1, h.2, rfl⟩
    · cases ho; exact sS_mv rfl rfl ⟨Kp.refl _ _, hA.old 2 (by decide)⟩
    · cases ho
      have h0 : a'.eval (.tmp 23) = _ := hdep 0 (by decide) (by kernel_rfl)
      have h1 : a'.eval (.tmp 25) = _ := hdep 2 (by decide) (by kernel_rfl)
      have h2 : a'.eval (.tmp 26) = _ := hdep 3 (by decide) (by kernel_rfl)
      refine sS_ca rfl rfl Try.func12 (by kernel_rfl) rfl #[.pointer (some ⟨g, 0, none⟩), .agg (wayC sp kd md sum mxr), .int .u64 (va : Int)] (by simp only [List.map_toArray, List.map_cons, List.map_nil]; rw [h0, h1, h2]; rfl) ?_
      exact (WK.out g B _ pg W (R6.out.kpN hW)).mono fun e w' h => ⟨_, h.1, h.2, rfl⟩
    · cases ho
      exact sS_ld rfl rfl x (hA.old 8 (by decide)) RT2 (ramC (.slice A1 n1 c1)) _ (X6.kp hW (fun h => h)).blk Try.underlying30 rfl infoM ⟨Kp.refl _ _, rfl⟩
    · cases ho
      exact sS_ld rfl rfl k (hA.old 4 (by decide)) Y2 (wayC sp kd md sum mxr) _ (Y6.kp hW (fun h => h)).blk Try.underlying25 rfl infoY2 ⟨Kp.refl _ _, rfl⟩
    · cases ho; exact sS_mv rfl rfl ⟨Kp.refl _ _, hA.old 2 (by decide)⟩
    · cases ho
      have h0 : a'.eval (.tmp 28) = _ := hdep 5 (by decide) (by kernel_rfl)
      have h1 : a'.eval (.tmp 29) = _ := hdep 6 (by decide) (by kernel_rfl)
      have h2 : a'.eval (.tmp 30) = _ := hdep 7 (by decide) (by kernel_rfl)
      refine sS_ca rfl rfl Try.func14 (by kernel_rfl) rfl #[.agg (ramC (.slice A1 n1 c1)), .agg (wayC sp kd md sum mxr), .int .u64 (va : Int)] (by simp only [List.map_toArray, List.map_cons, List.map_nil]; rw [h0, h1, h2]; rfl) ?_
      exact (RW.out A1 n1 c1 W (L6.out W hW) R6.out.byt).mono fun e w' h => ⟨_, h.1, h.2, rfl⟩
    · cases ho
      have h0 : a'.eval (.tmp 27) = _ := hdep 4 (by decide) (by kernel_rfl)
      have h1 : a'.eval (.tmp 31) = _ := hdep 8 (by decide) (by kernel_rfl)
      refine sS_ca rfl rfl Try.func11 (by kernel_rfl) rfl #[.agg R.cells, .agg R.cells] (by simp only [List.map_toArray, List.map_cons, List.map_nil]; rw [h0, h1]; rfl) ?_
      exact (is_c R W).mono fun e w' h => ⟨_, h.1, h.2, rfl⟩
    · omega
  intro w7 hk7
  simp only [putN, dL, vL, Act.put, List.setIfInBounds_toArray, List.set_cons_zero, List.set_cons_succ]
  refine any_1 (i := 10) (by kernel_rfl) rfl rfl (wp_asv rfl 6 rfl (.bool true) rfl ?_)
  refine wpAny_done (by kernel_rfl) ?_ _
  simp only [Act.put, List.setIfInBounds_toArray, List.set_cons_zero, List.set_cons_succ]
  go_wp2
  go_ret
  exact ⟨rfl, (N6.trans hk7).below (fun _ _ h => h.elim) (Nat.le_refl _)⟩
end Go.Proofs.Ytlhdildnekllhaa.H
