/- A bus works, a hart and a machine are made, memory is written and read. -/
import Derived.Test.YtnompdckpenfgaaTopParts
/- A bus works ('awake'); a hart is made. -/
namespace Go.Proofs.Ytnompdckpenfgaa.H
open Go.RowKit Go.Proofs.YtnompdckpenfgaaW.PrintWords Go.Proofs.YtnompdckpenfgaaW.PrintLast Go.Proofs.Ytnompdckpenfgaa.PAl Go.Proofs.Ytnompdckpenfgaa.Pure Go.Proofs.Ytnompdckpenfgaa.Vw
set_option linter.unusedVariables false
set_option linter.unusedSimpArgs false
set_option maxHeartbeats 8000000 in
set_option maxRecDepth 100000 in
theorem awake_m (w : World) : Calls Try.prog 4 #[] w fun e w' => e = .returned (.bool true) ∧ KpN w w' := by
  go_enter Try.func4, Try.ntmps4
  go_wp2_with (first
    | (go_at_call 11; refine (new_m 4096 w (by decide) (by decide) (by kernel_rfl)).mono ?_; rintro e w1 ⟨m, B, rfl, hR, hk, _, _⟩; have HR := Aside0.mk hR; have HK := Aside0.mk hk; clear hR hk)
    | (go_at_call 12; refine (dnew_m w1).mono ?_; rintro e w2 ⟨d, Bd, rfl, hD, hk2, _⟩; have HD := Aside0.mk hD; have HK2 := Aside0.mk hk2; clear hD hk2)
    | (go_at_call 13; refine (busnew_m m d Bd w2 HD.out).mono ?_; rintro e w3 ⟨g, rfl, hk3, hS⟩; obtain ⟨cs, b, d', t, rg, off, qb, A, n2, c, h1, h2, h3, h4, h5, h6⟩ := hS.ex; have HS := Aside0.mk hS; have HK3 := Aside0.mk hk3; have c0 : w3.cell? ⟨g, 0, none⟩ = some (.pointer (some ⟨m, 0, none⟩)) := (h1.c 0).trans h2; have c3 : w3.cell? ⟨g, 43, none⟩ = some (.pointer (some ⟨b, 0, none⟩)) := (h1.c 43).trans h3; have c5 : w3.cell? ⟨b, 0, none⟩ = some (.pointer (some ⟨rg, 0, none⟩)) := h5.c 0; clear h1 h2 h3 h4 h5 h6 hS hk3)
    | (go_at_call 14; refine (bload_m g m B 0 4096 _ _ w3 HS.out ((HR.out.kpN HK2.out).kpN HK3.out) (by decide)).mono ?_; rintro e w4 ⟨rfl, hk4⟩; have HK4 := Aside0.mk hk4; clear hk4))
  go_ret
  exact ⟨rfl, ((HK.out.trans HK2.out).trans HK3.out).trans HK4.out⟩
/-- A hart over a bus. -/
def HartS (w : World) (h m : Nat) : Prop := ∃ g cs, Bk w h cs 56 ∧ cs[0]? = some (.pointer (some ⟨g, 0, none⟩)) ∧ BusS w g m
theorem HartS.kp {w w' : World} {h m : Nat} (H : HartS w h m) (k : KpN w w') : HartS w' h m := by
  obtain ⟨g, cs, h1, h2, h3⟩ := H
  exact ⟨g, cs, h1.kp k (fun h => h), h2, h3.kp k⟩
def csr0 : Array Value := #[.int .i64 3, .int .u64 0, .int .u64 0, .int .u64 0, .int .u64 0, .int .u64 0, .int .u64 0, .int .u64 0, .int .u64 0, .int .u64 0, .int .u64 0, .int .u64 0, .int .u64 0, .int .u64 0, .int .u64 0, .int .u64 0, .int .u64 0, .int .u64 0, .int .u64 0, .int .u64 0, .int .u64 0, .int .u64 0, .int .u64 0]
def csrZ : Array Value := #[.int .i64 0, .int .u64 0, .int .u64 0, .int .u64 0, .int .u64 0, .int .u64 0, .int .u64 0, .int .u64 0, .int .u64 0, .int .u64 0, .int .u64 0, .int .u64 0, .int .u64 0, .int .u64 0, .int .u64 0, .int .u64 0, .int .u64 0, .int .u64 0, .int .u64 0, .int .u64 0, .int .u64 0, .int .u64 0, .int .u64 0]
theorem zcsr (w : World) : (zeroValue 52).run Try.prog w = .ok (.agg csrZ) w := by kernel_rfl
set_option maxHeartbeats 8000000 in
set_option maxRecDepth 100000 in
theorem csrb_m (w : World) : Calls Try.prog 37 #[] w fun e w' => e = .returned (.agg csr0) ∧ KpN w w' := by
  go_enter Try.func37, Try.ntmps37
  refine wp_seq (reg_al rfl rfl csrZ zcsr ?_)
  intro g hg w1 hb hk
  refine wp_seq (wp_region_list ?_)
  refine list_step (F := fun v w'' => v = .agg csr0 ∧ w'' = w1) rfl ?_ ?_
  · exact gS_bd (wanted_none rfl _) rfl #[(0, .int .i64 3)] _ (by simp only [List.map_toArray, List.map_cons, List.map_nil] <;> rfl) (show (Instr.build 52 #[(0, .int .i64 3)]).run Try.prog w1 = .ok (.agg csr0) w1 by kernel_rfl) ⟨rfl, rfl⟩
  rintro v w2 ⟨rfl, rfl⟩
  refine wpList_plain rfl fun K hK => wp_st rfl rfl g csr0 csrZ 52 rfl rfl hb (by kernel_rfl) rfl (by kernel_rfl) fun w3 hb3 hk3 => hK _ _ ?_
  show (Code.ret).wp _ _ _ _
  go_wp2
  refine bodyPost_ret (results_cell_row rfl _ _ g 52 csr0 (0, 0) _ (by rw [hg]; rfl) hb3 Try.underlying52 rfl (by kernel_rfl)) rfl ?_
  exact ⟨rfl, hk.then hk3 fun i hi e => by omega⟩
def hartC (g : Nat) : Array Value := #[.pointer (some ⟨g, 0, none⟩), .int .u64 0, .int .u64 0, .int .u64 0, .int .u64 0, .int .u64 0, .int .u64 0, .int .u64 0, .int .u64 0, .int .u64 0, .int .u64 0, .int .u64 0, .int .u64 0, .int .u64 0, .int .u64 0, .int .u64 0, .int .u64 0, .int .u64 0, .int .u64 0, .int .u64 0, .int .u64 0, .int .u64 0, .int .u64 0, .int .u64 0, .int .u64 0, .int .u64 0, .int .u64 0, .int .u64 0, .int .u64 0, .int .u64 0, .int .u64 0, .int .u64 0, .int .u64 0, .int .u64 2147483648, .int .i64 3, .int .u64 0, .int .u64 0, .int .u64 0, .int .u64 0, .int .u64 0, .int .u64 0, .int .u64 0, .int .u64 0, .int .u64 0, .int .u64 0, .int .u64 0, .int .u64 0, .int .u64 0, .int .u64 0, .int .u64 0, .int .u64 0, .int .u64 0, .int .u64 0, .int .u64 0, .int .u64 0, .int .u64 0, .int .u64 0, .int .u64 0, .int .u64 0, .bool false]
theorem bdhart (g : Nat) (w : World) : (Instr.build 56 #[(0, .pointer (some ⟨g, 0, none⟩)), (2, .int .u64 2147483648), (3, .agg csr0)]).run Try.prog w = .ok (.agg (hartC g)) w := by kernel_rfl
set_option maxHeartbeats 8000000 in
set_option maxRecDepth 100000 in
theorem corenew_m (g m : Nat) (w : World) (hI : BusS w g m) : Calls Try.prog 22 #[.pointer (some ⟨g, 0, none⟩)] w fun e w' => ∃ h, e = .returned (.pointer (some ⟨h, 0, none⟩)) ∧ KpN w w' ∧ HartS w' h m := by
  go_enter Try.func22, Try.ntmps22
  refine wp_seq (reg_as rfl rfl ?_)
  refine wp_seq (wp_region_list ?_)
  refine list_step (F := fun v w'' => v = .pointer (some ⟨g, 0, none⟩) ∧ w'' = w) rfl (gS_mv (wanted_none rfl _) rfl _ rfl ⟨rfl, rfl⟩) ?_
  rintro v w1 ⟨rfl, rfl⟩
  refine list_step (F := fun v w'' => v = .agg csr0 ∧ KpN w1 w'') rfl (gS_ca (wanted_none rfl _) rfl Try.func37 (by kernel_rfl) rfl #[] (by simp only [List.map_toArray, List.map_cons, List.map_nil]) ((csrb_m w1).mono fun e w' h => ⟨_, h.1, rfl, h.2⟩)) ?_
  rintro v w2 ⟨rfl, k2⟩
  refine list_step (F := fun v w'' => v = .agg (hartC g) ∧ w'' = w2) rfl (gS_bd (wanted_none rfl _) rfl #[(0, .pointer (some ⟨g, 0, none⟩)), (2, .int .u64 2147483648), (3, .agg csr0)] _ (by simp only [List.map_toArray, List.map_cons, List.map_nil] <;> rfl) (bdhart g w2) ⟨rfl, rfl⟩) ?_
  rintro v w3 ⟨rfl, rfl⟩
  refine bx_ev rfl rfl (N := 6) rfl (hartC g) rfl fun h hh w4 hb k4 => ?_
  refine wpList_plain rfl fun K hK => wp_as rfl (hK _ _ ?_)
  show (Code.ret).wp _ _ _ _
  go_wp2
  refine bodyPost_ret (results_tmp rfl _ _ _) rfl ?_
  subst hh
  exact ⟨w3.heap.size, rfl, k2.trans k4, g, hartC g, ⟨hb⟩, rfl, (hI.kp k2).kp k4⟩
end Go.Proofs.Ytnompdckpenfgaa.H
/- A memory's beginning is written, and read. -/
namespace Go.Proofs.Ytnompdckpenfgaa.H
open Go.RowKit Go.Proofs.YtnompdckpenfgaaW.PrintWords Go.Proofs.YtnompdckpenfgaaW.PrintLast Go.Proofs.Ytnompdckpenfgaa.PAl Go.Proofs.Ytnompdckpenfgaa.Pure Go.Proofs.Ytnompdckpenfgaa.Vw
set_option linter.unusedVariables false
set_option linter.unusedSimpArgs false
/-- The first i bytes are those of l. -/
def putT (M : Nat → Nat) (l : List Int) (i : Nat) : Nat → Nat := fun x => if x < i then (l.getD x 0).toNat else M x
theorem putT_zero (M : Nat → Nat) (l : List Int) : putT M l 0 = M := by funext x; unfold putT; rw [if_neg (by omega)]
theorem putT_step (M : Nat → Nat) (l : List Int) (i : Nat) : putB (putT M l i) i (l.getD i 0).toNat = putT M l (i + 1) := by
  funext x
  unfold putB putT
  by_cases e : x = i
  · rw [if_pos e, if_pos (by omega), e]
  · rw [if_neg e]
    by_cases h : x < i
    · rw [if_pos h, if_pos (by omega)]
    · rw [if_neg h, if_neg (by omega)]
structure WrS (w : World) (g B n size : Nat) (pg : Nat → Option Nat) (M : Nat → Nat) (l : List Int) (i : Nat) (w' : World) : Prop where
  ex : ∃ pg', Rm w' g B (n + i) size pg' (putT M l i) ∧ Kp w w' (memB g B pg) ∧ memTo w g B pg pg'
set_option maxHeartbeats 8000000 in
set_option maxRecDepth 100000 in
theorem write_m (g B n size b0 : Nat) (pg : Nat → Option Nat) (M : Nat → Nat) (A : Option Addr) (c : Nat) (l : List Int) (w : World) (hI : Rm w g B n size pg M) (h8 : ∀ x ∈ l, 0 ≤ x ∧ x < 256)
    (hC : ∀ w', Below b0 w w' → Kd.C (Kd.int .u8) w' A l.length l) (hb : ∀ i, memB g B pg i → b0 ≤ i) (hb1 : b0 ≤ w.heap.size) (hfit : l.length ≤ size) (hs : size ≤ 268435456) (hn : n + l.length ≤ 1000000) :
    Calls Try.prog 20 #[.pointer (some ⟨g, 0, none⟩), .int .u64 2147483648, .slice A l.length c] w fun e w' => e = .returned (.bool true) ∧ WrS w g B n size pg M l l.length w' := by
  have hh : hasB size 2147483648 l.length = true := decide_eq_true (by omega)
  have HH : Aside0 (Calls Try.prog 23 #[.pointer (some ⟨g, 0, none⟩), .int .u64 2147483648, .int .u64 (l.length : Int)] w fun e w' => e = .returned (.bool true) ∧ ∃ m, w' = w.drewN m) := ⟨by
    have := has_m g B n size pg M 2147483648 l.length w hI ⟨by decide⟩ ⟨by omega⟩ ⟨by omega⟩
    rw [hh] at this
    exact this⟩
  have HS : Aside0 (WrS w g B n size pg M l 0 w) := ⟨⟨pg, by rw [putT_zero]; exact hI, Kp.refl _ _, memTo.refl _ _ _ _⟩⟩
  have HC := Aside0.mk hC; have HB := Aside0.mk hb; have HB1 := Aside0.mk hb1; have H8 := Aside0.mk h8; have HF := Aside0.mk hfit; have HZ := Aside0.mk hs; have HN := Aside0.mk hn
  have cv : IntKind.u64.wrap (l.length : Int) = (l.length : Int) := u64_nat _ (by omega)
  clear hh hI hC hb hb1 h8 hfit hs hn
  go_enter Try.func20, Try.ntmps20
  go_wp2_with (go_at_call 23; refine HH.out.mono ?_; rintro e w1 ⟨rfl, m, rfl⟩)
  have HS1 : Aside0 (WrS w g B n size pg M l 0 (w.drewN m)) := ⟨by
    obtain ⟨p, h1, h2, h3⟩ := HS.out.ex
    exact ⟨⟨p, h1.drewN m, h2.drewN m, h3⟩⟩⟩
  clear HS
  go_loopg [18] l.length (fun kq v18 w' => ∃ (i : Nat), v18 = .int .i64 (i : Int) ∧ Aside0 (kq + i = l.length) ∧ Aside0 (WrS w g B n size pg M l i w'))
  case atStart => exact ⟨0, rfl, ⟨by omega⟩, HS1⟩
  case round =>
    clear HS1
    obtain ⟨i, rfl, HI, HW⟩ := hrel
    cases gk with
    | zero =>
      obtain rfl : i = l.length := by have := HI.out; omega
      have HWR : Aside0 (Calls Try.prog 36 #[.pointer (some ⟨g, 0, none⟩), .int .u64 2147483648, .int .u64 (l.length : Int)] wr fun e w' => e = .returned (.tuple #[]) ∧ w' = wr) := ⟨by obtain ⟨p, h1, _, _⟩ := HW.out.ex; exact wrote_m g B _ size p _ _ _ wr h1⟩
      go_wp2_with (go_at_call 36; refine HWR.out.mono ?_; rintro e w2 ⟨rfl, rfl⟩)
      go_ret
      exact ⟨rfl, HW.out⟩
    | succ k1 =>
      have hi := HI.out
      have hlt : i < l.length := by omega
      obtain ⟨pg', h1, h2, h3⟩ := HW.out.ex
      have hbel : Below b0 w wr := h2.below (fun k _ hk => HB.out k hk) HB1.out
      obtain ⟨ad, rfl, x0⟩ := Kd.at_int (HC.out wr hbel) (i : Int) (by omega) (by omega)
      rw [Int.toNat_natCast] at x0
      have hx : 0 ≤ l.getD i 0 ∧ l.getD i 0 < 256 := by rw [List.getD_eq_getElem?_getD, List.getElem?_eq_getElem hlt]; exact H8.out _ (List.getElem_mem hlt)
      have hrd : rd l (i : Int) = ((l.getD i 0).toNat : Int) := by unfold rd; rw [Int.toNat_natCast]; omega
      rw [hrd] at x0
      have HSET := Aside0.mk (set_m g B (n + i) size pg' (putT M l i) i (l.getD i 0).toNat wr h1 (by have := HF.out; have := HZ.out; omega) (by omega) (by have := HN.out; omega))
      have K2 := Aside0.mk h2; have K3 := Aside0.mk h3
      have b0' : decide ((i : Int) < (l.length : Int)) = true := decide_eq_true (by omega)
      have b1 : decide (i < l.length) = true := decide_eq_true hlt
      have b2 := eq_true (show (0 : Int) ≤ (i : Int) by omega)
      have b3 := eq_true (show (i : Int) < (l.length : Int) by omega)
      have ci : IntKind.u64.wrap (i : Int) = (i : Int) := u64_nat _ (by have := HF.out; have := HZ.out; omega)
      have ca : IntKind.u64.wrap (2147483648 + (i : Int)) = ((2147483648 + i : Nat) : Int) := by rw [u64_id _ (by omega) (by have := HF.out; have := HZ.out; omega)]; omega
      have b6 : (i : Int) < 268435456 := by have := HF.out; have := HZ.out; omega
      generalize hvv : (l.getD i 0).toNat = vv at *
      clear hi hlt h1 h2 h3 hbel hx hrd
      go_wp2_with (go_at_call 35; refine HSET.out.mono ?_; rintro e w2 ⟨rfl, pg2, q1, q2, q3⟩)
      have HW2 : Aside0 (WrS w g B n size pg M l (i + 1) w2) := ⟨⟨pg2, by rw [← putT_step, hvv]; exact q1, K2.out.then q2 (fun k hk hm => (K3.out k hm).elim id (fun h => by omega)), fun k hk => (q3 k hk).elim (fun h => K3.out k h) (fun h => .inr (Nat.le_trans K2.out.size h))⟩⟩
      clear q1 q2 q3
      go_roundg k1
      case measure => omega
      case rel => exact ⟨i + 1, by go_num, ⟨by have := HI.out; omega⟩, HW2⟩
end Go.Proofs.Ytnompdckpenfgaa.H
/- A memory's beginning is read. -/
namespace Go.Proofs.Ytnompdckpenfgaa.H
open Go.RowKit Go.Proofs.YtnompdckpenfgaaW.PrintWords Go.Proofs.YtnompdckpenfgaaW.PrintLast Go.Proofs.Ytnompdckpenfgaa.PAl Go.Proofs.Ytnompdckpenfgaa.Pure Go.Proofs.Ytnompdckpenfgaa.Vw
set_option linter.unusedVariables false
set_option linter.unusedSimpArgs false
def mkC (M : Nat → Nat) (k i : Nat) : Array Value := (Array.range k).map fun j => .int .u8 (if j < i then (M j : Int) else 0)
theorem mkC_size (M : Nat → Nat) (k i : Nat) : (mkC M k i).size = k := by simp [mkC]
theorem mkC_at (M : Nat → Nat) (k i j : Nat) (h : j < k) : (mkC M k i)[j]? = some (.int .u8 (if j < i then (M j : Int) else 0)) := by simp [mkC, h]
theorem mkC_put (M : Nat → Nat) (k i : Nat) : (mkC M k i).setIfInBounds i (.int .u8 (M i : Int)) = mkC M k (i + 1) := by
  refine Array.ext (by simp [mkC]) fun j h1 h2 => ?_
  have hj : j < k := by simpa [mkC] using h2
  rw [Array.getElem_setIfInBounds (by simpa [mkC] using hj)]
  by_cases e : i = j
  · subst e
    rw [if_pos rfl]
    simp [mkC]
  · rw [if_neg e]
    simp only [mkC, Array.getElem_map, Array.getElem_range]
    by_cases h : j < i
    · rw [if_pos h, if_pos (by omega)]
    · rw [if_neg h, if_neg (by omega)]
theorem mk27 (M : Nat → Nat) (k : Nat) (hk : k ≤ 268435456) (w : World) : (Instr.makeSlice 27 (.int .u64 (k : Int)) (.int .u64 (k : Int))).run Try.prog w = .ok (.slice (some ⟨w.heap.size, 0, none⟩) k k) (w.alloc (.cells (mkC M k 0) 5)) := by
  obtain ⟨i, hi, hii⟩ := Option.map_eq_some_iff.1 (show (Try.prog.info? 5).map (fun i => (i.zero, i.size, i.bytes)) = some (some (.int .u8 0), 1, 1) by kernel_rfl)
  obtain ⟨hz, hsize, hby⟩ : i.zero = some (.int .u8 0) ∧ i.size = 1 ∧ i.bytes = 1 := by injection hii with q1 q2; injection q2 with q2 q3; exact ⟨q1, q2, q3⟩
  have h := Go.run_make (P := Try.prog) w 27 5 i (.int .u8 0) Try.underlying27 hi hz .u64 .u64 (k : Int) (k : Int) (by omega) (by omega) (by rw [hby]; omega) (by omega)
  rw [hsize, Int.toNat_natCast, Nat.mul_one] at h
  rw [h]
  have e : madeCells (Value.int .u8 0).cells k = mkC M k 0 := by
    refine Array.ext (by simp [mkC, madeCells]) fun j h1 h2 => ?_
    simp [mkC, madeCells, Value.cells, Nat.mod_one]
  rw [e]
structure RdS (w : World) (q k i : Nat) (M : Nat → Nat) (w' : World) : Prop where
  blk : Bk w' q (mkC M k i) 5
  kp : KpN w w'
  ge : w.heap.size ≤ q
theorem RdS.next {w w' : World} {q k i : Nat} {M : Nat → Nat} (h : RdS w q k i M w') : RdS w q k (i + 1) M (w'.setCell ⟨q, i, none⟩ (.int .u8 (M i : Int))) :=
  ⟨⟨blk_put h.blk.blk i _ (mkC_put M k i)⟩, h.kp.setCell (p := ⟨q, i, none⟩) (.inr h.ge) _, h.ge⟩
set_option maxHeartbeats 8000000 in
set_option maxRecDepth 100000 in
theorem mread_m (g B n size : Nat) (pg : Nat → Option Nat) (M : Nat → Nat) (k : Nat) (w : World) (hI : Rm w g B n size pg M) (hk : k ≤ size) (hs : size ≤ 268435456) :
    Calls Try.prog 10 #[.pointer (some ⟨g, 0, none⟩), .int .u64 2147483648, .int .u64 (k : Int)] w fun e w' => ∃ q, e = .returned (.tuple #[.slice (some ⟨q, 0, none⟩) k k, .bool true]) ∧ RdS w q k k M w' := by
  have hh : hasB size 2147483648 k = true := decide_eq_true (by omega)
  have HH : Aside0 (Calls Try.prog 23 #[.pointer (some ⟨g, 0, none⟩), .int .u64 2147483648, .int .u64 (k : Int)] w fun e w' => e = .returned (.bool true) ∧ ∃ m, w' = w.drewN m) := ⟨by
    have := has_m g B n size pg M 2147483648 k w hI ⟨by decide⟩ ⟨by omega⟩ ⟨by omega⟩
    rw [hh] at this
    exact this⟩
  have hmk := mk27 M k (by omega)
  have HM := Aside0.mk hI; have HK := Aside0.mk hk; have HZ := Aside0.mk hs
  clear hh hI hk hs
  go_enter Try.func10, Try.ntmps10
  go_wp2_with (go_at_call 23; refine HH.out.mono ?_; rintro e w1 ⟨rfl, m, rfl⟩)
  have HS : Aside0 (RdS w (w.drewN m).heap.size k 0 M ((w.drewN m).alloc (.cells (mkC M k 0) 5))) := ⟨⟨⟨heap_alloc_new _ _⟩, ((Kp.refl _ _).drewN m).alloc _, Nat.le_refl _⟩⟩
  have eq1 : (w.drewN m).heap.size = w.heap.size := rfl
  rw [eq1] at HS
  go_loopg [19] k (fun kq v19 w' => ∃ (i : Nat), v19 = .int .i64 (i : Int) ∧ Aside0 (kq + i = k) ∧ Aside0 (RdS w w.heap.size k i M w'))
  case atStart => exact ⟨0, rfl, ⟨by omega⟩, HS⟩
  case round =>
    clear HS
    obtain ⟨i, rfl, HI, HW⟩ := hrel
    have HR := Aside0.mk (HM.out.kpN HW.out.kp)
    cases gk with
    | zero =>
      obtain rfl : i = k := by have := HI.out; omega
      have c2 := HR.out.c2
      have HX := Aside0.mk HW.out
      clear HW HI
      go_wp2
      go_ret2
      exact ⟨_, rfl, HX.out⟩
    | succ k1 =>
      have hi := HI.out
      have hlt : i < k := by omega
      have HG := Aside0.mk (get_m g B n size pg M i wr HR.out (by have := HK.out; have := HZ.out; omega))
      have b0' : decide ((i : Int) < (k : Int)) = true := decide_eq_true (by omega)
      have b1 : decide (i < k) = true := decide_eq_true hlt
      have b2 := eq_true (show (0 : Int) ≤ (i : Int) by omega)
      have b3 := eq_true (show (i : Int) < (k : Int) by omega)
      have ci : IntKind.u64.wrap (i : Int) = (i : Int) := u64_nat _ (by have := HK.out; have := HZ.out; omega)
      have ca : IntKind.u64.wrap (2147483648 + (i : Int)) = ((2147483648 + i : Nat) : Int) := by rw [u64_id _ (by omega) (by have := HK.out; have := HZ.out; omega)]; omega
      have b6 : (i : Int) < 268435456 := by have := HK.out; have := HZ.out; omega
      have cz : wr.cell? ⟨w.heap.size, i, none⟩ = some (.int .u8 0) := by rw [HW.out.blk.c i, mkC_at _ _ _ _ hlt, if_neg (by omega)]
      have fz : wr.frozen? ⟨w.heap.size, i, none⟩ = false := blk_frozen HW.out.blk.blk i
      have HW2 := Aside0.mk HW.out.next
      clear hi hlt HW
      go_wp2_with (go_at_call 24; refine HG.out.mono ?_; rintro e w2 ⟨rfl, rfl⟩)
      go_roundg k1
      case measure => omega
      case rel => exact ⟨i + 1, by go_num, ⟨by have := HI.out; omega⟩, HW2⟩
end Go.Proofs.Ytnompdckpenfgaa.H
/- A machine is made. -/
namespace Go.Proofs.Ytnompdckpenfgaa.H
open Go.RowKit Go.Proofs.YtnompdckpenfgaaW.PrintWords Go.Proofs.YtnompdckpenfgaaW.PrintLast Go.Proofs.Ytnompdckpenfgaa.PAl Go.Proofs.Ytnompdckpenfgaa.Pure Go.Proofs.Ytnompdckpenfgaa.Vw
set_option linter.unusedVariables false
set_option linter.unusedSimpArgs false
set_option maxHeartbeats 8000000 in
set_option maxRecDepth 100000 in
theorem fill_m (d B : Nat) (w : World) (hI : Bk w d (diskC B) 103) : Calls Try.prog 21 #[.pointer (some ⟨d, 0, none⟩), .slice none 0 0] w fun e w' => e = .returned (.tuple #[]) ∧ w' = w := by
  have c0 : w.cell? ⟨d, 0, none⟩ = some (.int .u64 1) := hI.c 0
  clear hI
  go_enter Try.func21, Try.ntmps21
  go_wp2
  refine wp_loop_once ?_
  go_wp2
  first | go_end0 | ((try simp only [Exit.inBlock, Exit.then]); refine bodyPost_ret (results_none rfl _ _ _) rfl ?_)
  exact ⟨rfl, rfl⟩
def cfgC (size : Nat) (A : Option Addr) (n c : Nat) : Array Value := #[.int .u64 (size : Int), .int .u64 1, .bool false, .slice none 0 0, .slice A n c, .string ⟨#[]⟩]
/-- A machine at block q, whose memory begins with l. -/
structure MachS (w : World) (q size : Nat) (l : List Int) : Prop where
  ex : ∃ h d g m B n pg hcs cs, Bk w q #[.pointer (some ⟨h, 0, none⟩), .pointer (some ⟨d, 0, none⟩), .int .u64 0] 47 ∧ Bk w h hcs 56 ∧ hcs[0]? = some (.pointer (some ⟨g, 0, none⟩)) ∧ Bk w g cs 68 ∧ cs[0]? = some (.pointer (some ⟨m, 0, none⟩)) ∧ Rm w m B n size pg (putT (fun _ => 0) l l.length)
set_option maxHeartbeats 8000000 in
set_option maxRecDepth 100000 in
theorem mnew_m (size : Nat) (A : Option Addr) (c : Nat) (l : List Int) (w : World) (h8 : ∀ x ∈ l, 0 ≤ x ∧ x < 256) (hC : Kd.C (Kd.int .u8) w A l.length l) (hfit : l.length ≤ size) (h0 : 4096 ≤ size) (hs : size ≤ 1000000) (hal : word_Aligned.f (size : Int) 4096 = some true) :
    Calls Try.prog 9 #[.agg (cfgC size A l.length c)] w fun e w' => ∃ q, e = .returned (.tuple #[.pointer (some ⟨q, 0, none⟩), .int .i64 0]) ∧ MachS w' q size l ∧ KpN w w' := by
  have H8 := Aside0.mk h8; have HC := Aside0.mk hC; have HF := Aside0.mk hfit; have HZ := Aside0.mk hs; have H0 := Aside0.mk h0; have HAL := Aside0.mk hal
  clear h8 hC hfit hs h0 hal
  go_enter Try.func9, Try.ntmps9
  go_wp2_with (first
    | (((with_reducible refine gate_dst (N := 1) rfl ?_); refine bx_ev rfl rfl (N := 1) rfl (cfgC size A l.length c) rfl ?_; intro cg hg_cg w1 hb_cg hk_cg; have Hg_cg := Aside0.mk hg_cg; clear hg_cg); have HG := Aside0.mk (Bk.mk hb_cg); have HK1 := Aside0.mk hk_cg; clear hb_cg hk_cg; have z0 : w1.cell? ⟨cg, 0, none⟩ = some (.int .u64 (size : Int)) := HG.out.c 0)
    | (go_at_call 11; refine (new_m size w1 H0.out (by have := HZ.out; omega) HAL.out).mono ?_; rintro e w2 ⟨m, B, rfl, hR, hk, hg, hB⟩; have HR := Aside0.mk hR; have HK2 := Aside0.mk hk; have HGM := Aside0.mk hg; have HBM := Aside0.mk hB; clear z0 hR hk hg hB; have z1 : w2.cell? ⟨cg, 1, none⟩ = some (.int .u64 1) := (HG.out.kp HK2.out (fun h => h)).c 1; have z2 : w2.cell? ⟨cg, 2, none⟩ = some (.bool false) := (HG.out.kp HK2.out (fun h => h)).c 2)
    | (go_at_call 12; refine (dnew_m w2).mono ?_; rintro e w3 ⟨d, Bd, rfl, hD, hk, hd⟩; have HD := Aside0.mk hD; have HK3 := Aside0.mk hk; have HDM := Aside0.mk hd; clear z1 z2 hD hk hd; have z4 : w3.cell? ⟨cg, 4, none⟩ = some (.slice A l.length c) := ((HG.out.kp HK2.out (fun h => h)).kp HK3.out (fun h => h)).c 4)
    | (go_at_call 20; refine (write_m m B 0 size w.heap.size _ _ A c l w3 (HR.out.kpN HK3.out) H8.out (fun w' hw => Kd.C_below HC.out ((((HK1.out.trans HK2.out).trans HK3.out).below (fun _ _ h => h.elim) (Nat.le_refl _)).trans hw)) (fun i hi => by
        have e1 := HK1.out.size; have e2 := HGM.out; have e3 := HBM.out
        rcases hi with rfl | rfl | ⟨k, hk⟩
        · omega
        · omega
        · cases hk) (Nat.le_trans HK1.out.size (Nat.le_trans HK2.out.size HK3.out.size)) HF.out (by have := HZ.out; omega) (by have := HF.out; have := HZ.out; omega)).mono ?_; rintro e w4 ⟨rfl, hW⟩; obtain ⟨pg4, R4, K4, _⟩ := hW.ex; have HR4 := Aside0.mk R4; have HK4 := Aside0.mk K4
       have hcg : ¬ memB m B (fun _ => none) cg := (by
        have e1 := blk_lt HG.out.blk; have e2 := HGM.out; have e3 := HBM.out
        rintro (h | h | ⟨k, hk⟩)
        · omega
        · omega
        · cases hk)
       have hdd : ¬ memB m B (fun _ => none) d := (fun h => by have e1 := HR.out.lt d h; have e2 := HDM.out; omega)
       have HD4 := Aside0.mk (HD.out.kp K4 hdd)
       have HG4 := Aside0.mk (((HG.out.kp HK2.out (fun h => h)).kp HK3.out (fun h => h)).kp K4 hcg)
       clear z4 hW R4 K4 hcg hdd
       have z3 : w4.cell? ⟨cg, 3, none⟩ = some (.slice none 0 0) := HG4.out.c 3
       have z5 : w4.cell? ⟨cg, 5, none⟩ = some (.string ⟨#[]⟩) := HG4.out.c 5)
    | (go_at_call 21; refine (fill_m d Bd w4 HD4.out).mono ?_; rintro e w5 ⟨rfl, rfl⟩)
    | (go_at_call 13; refine (busnew_m m d Bd _ HD4.out).mono ?_; rintro e w6 ⟨g, rfl, hk6, hS6⟩; have HK6 := Aside0.mk hk6; have HS6 := Aside0.mk hS6; clear hk6 hS6 z3 z5)
    | (go_at_call 22; refine (corenew_m g m _ HS6.out).mono ?_; rintro e w7 ⟨h, rfl, hk7, hS7⟩; have HK7 := Aside0.mk hk7; have HS7 := Aside0.mk hS7; clear hk7 hS7)
    )
  go_ret2
  obtain ⟨g', hcs, q1, q2, q3⟩ := HS7.out
  obtain ⟨cs, b, d', t, rg, off, qb, A', n2, c', h1, h2, h3, h4, h5, h6⟩ := q3.ex
  have kb : KpN w7 (w7.alloc (.cells #[.pointer (some ⟨h, 0, none⟩), .pointer (some ⟨d, 0, none⟩), .int .u64 0] 47)) := (Kp.refl _ _).alloc _
  refine ⟨w7.heap.size, rfl, ⟨h, d, g', m, B, _, _, hcs, cs, ⟨heap_alloc_new w7 _⟩, q1.kp kb (fun h => h), q2, h1.kp kb (fun h => h), h2, ((HR4.out.kpN HK6.out).kpN HK7.out).kpN kb⟩, ?_⟩
  have k3 : KpN w w3 := (HK1.out.trans HK2.out).trans HK3.out
  exact (((k3.then HK4.out (fun i hi hm => by
    have e1 := HK1.out.size; have e2 := HGM.out; have e3 := HBM.out
    rcases hm with rfl | rfl | ⟨k, hk⟩
    · omega
    · omega
    · cases hk)).trans HK6.out).trans HK7.out).trans kb
end Go.Proofs.Ytnompdckpenfgaa.H
