/- A machine's memory (package ram), walked by hand: bytes are read and written. -/
import Derived.Test.YtnompdckpenfgaaHmap
namespace Go.Proofs.Ytnompdckpenfgaa.H
open Go.RowKit Go.Proofs.YtnompdckpenfgaaW.PrintWords Go.Proofs.YtnompdckpenfgaaW.PrintLast Go.Proofs.Ytnompdckpenfgaa.PAl Go.Proofs.Ytnompdckpenfgaa.Pure Go.Proofs.Ytnompdckpenfgaa.Vw
set_option linter.unusedVariables false
set_option linter.unusedSimpArgs false
open Go.Maps (Keyed)
abbrev QT : TypeId := 96
abbrev GT : TypeId := 139
theorem keyed64 : Keyed Try.prog 22 := Go.Maps.int_keyed Try.underlying22
theorem zeroPP (w : World) : (zeroValue 121).run Try.prog w = .ok (.pointer none) w := by kernel_rfl
def zPage : Array Value := Array.replicate 4096 (.int .u8 0)
theorem zeroG (w : World) : (zeroValue GT).run Try.prog w = .ok (.agg zPage) w := by kernel_rfl
theorem infoG : (Try.prog.info? GT).map (·.size) = some 4096 := by kernel_rfl
theorem buildG (w : World) : (Instr.build GT #[]).run Try.prog w = .ok (.agg zPage) w := by
  unfold Instr.build
  simp only [Sem.run_bind, zeroG, Result.andThen_ok, run_underlying Try.underlying139 w]
  have hs : (sizeOf 5).run Try.prog w = .ok 1 w := by kernel_rfl
  simp only [Sem.run_bind, hs, Result.andThen_ok]
  rfl
theorem bd_ev {P : Program} {ops : Array Oper} {rest : List Oper} {o : Oper} {a : Act} {Q : Exit → Act → World → Prop} {w : World} (hgd : o.guard = none) {t : TypeId} (ho : o.op = .build t #[]) (Z : Array Value) (hz : ∀ W, (Instr.build t #[]).run P W = .ok (.agg Z) W)
    (h : wpList P ops Q rest (a.put o.dst (.agg Z)) w) : wpList P ops Q (o :: rest) a w := by
  refine wpList_plain hgd fun K hK => ?_
  have hrun : (execOp a.eval o).run P w = .ok (.value (.agg Z)) w := by
    unfold execOp
    simp only [ho, Array.map_empty, Sem.run_bind, hz, Result.andThen_ok]
    rfl
  unfold Oper.wp
  rw [hrun]
  exact hK _ _ h
/-- The cells of page k. -/
def pageC (M : Nat → Nat) (k : Nat) : Array Value := (Array.range 4096).map fun j => .int .u8 ((M (k * 4096 + j) : Nat) : Int)
theorem pageC_size (M : Nat → Nat) (k : Nat) : (pageC M k).size = 4096 := by simp [pageC]
theorem pageC_at (M : Nat → Nat) (k j : Nat) (h : j < 4096) : (pageC M k)[j]? = some (.int .u8 ((M (k * 4096 + j) : Nat) : Int)) := by
  simp [pageC, h]
theorem zPage_eq (M : Nat → Nat) (k : Nat) (h : ∀ j, j < 4096 → M (k * 4096 + j) = 0) : zPage = pageC M k := by
  apply Array.ext_getElem?
  intro j
  by_cases hj : j < 4096
  · rw [pageC_at M k j hj, h j hj]; simp [zPage, hj]
  · rw [Array.getElem?_eq_none (by simp [zPage]; omega), Array.getElem?_eq_none (by rw [pageC_size]; omega)]
theorem zPage_one : zPage.all (·.oneCell') = true := by
  rw [Array.all_eq_true]
  intro i hi
  simp [zPage, Value.oneCell']
/-- Memory with another byte. -/
def putB (M : Nat → Nat) (o v : Nat) : Nat → Nat := fun x => if x = o then v else M x
theorem pageC_put (M : Nat → Nat) (k j v : Nat) (h : j < 4096) : (pageC M k).setIfInBounds j (.int .u8 (v : Int)) = pageC (putB M (k * 4096 + j) v) k := by
  apply Array.ext_getElem?
  intro i
  rw [Array.getElem?_setIfInBounds]
  by_cases hi : i < 4096
  · rw [pageC_at M k i hi, pageC_at (putB M (k * 4096 + j) v) k i hi, pageC_size]
    by_cases e : j = i
    · subst e; rw [if_pos rfl, if_pos h]; simp [putB]
    · rw [if_neg e]
      have : ¬ k * 4096 + i = k * 4096 + j := by omega
      unfold putB; rw [if_neg this]
  · rw [Array.getElem?_eq_none (show (pageC M k).size ≤ i by rw [pageC_size]; omega), Array.getElem?_eq_none (show (pageC (putB M (k * 4096 + j) v) k).size ≤ i by rw [pageC_size]; omega)]
    rw [if_neg (show ¬ j = i by omega)]
theorem pageC_other (M : Nat → Nat) (k k' j v : Nat) (h : j < 4096) (hk : k' ≠ k) : pageC (putB M (k * 4096 + j) v) k' = pageC M k' := by
  apply Array.ext_getElem?
  intro i
  by_cases hi : i < 4096
  · rw [pageC_at (putB M (k * 4096 + j) v) k' i hi, pageC_at M k' i hi]
    have : ¬ k' * 4096 + i = k * 4096 + j := by omega
    simp [putB, this]
  · rw [Array.getElem?_eq_none (by rw [pageC_size]; omega), Array.getElem?_eq_none (by rw [pageC_size]; omega)]
/-- Block g is a memory of so many bytes; M: its bytes. -/
structure Rm (w : World) (g B n size : Nat) (pg : Nat → Option Nat) (M : Nat → Nat) : Prop where
  blk : Bk w g #[.int .u64 (size : Int), .map (some B), .pointer none] QT
  map : PMap Try.prog 22 w B n pg
  pag : ∀ k b, pg k = some b → w.heap[b]? = some (.cells (pageC M k) GT (0, 0))
  non : ∀ k, pg k = none → ∀ j, j < 4096 → M (k * 4096 + j) = 0
  byt : ∀ o, M o < 256
  gB : g ≠ B
  ga : ∀ k b, pg k = some b → b ≠ g ∧ b ≠ B
  inj : ∀ k k' b, pg k = some b → pg k' = some b → k = k'
/-- Such blocks. -/
def memB (g B : Nat) (pg : Nat → Option Nat) (i : Nat) : Prop := i = g ∨ i = B ∨ ∃ k, pg k = some i
theorem Rm.kp {w w' : World} {g B n size pg M} {S : Nat → Prop} (h : Rm w g B n size pg M) (q : Kp w w' S) (hS : ∀ i, memB g B pg i → ¬ S i) : Rm w' g B n size pg M :=
  ⟨h.blk.kp q (hS g (.inl rfl)), h.map.kp q (hS B (.inr (.inl rfl))), fun k b hb => (q.block b (blk_lt (h.pag k b hb)) (hS b (.inr (.inr ⟨k, hb⟩)))).trans (h.pag k b hb), h.non, h.byt, h.gB, h.ga, h.inj⟩
theorem Rm.kpN {w w' : World} {g B n size pg M} (h : Rm w g B n size pg M) (q : KpN w w') : Rm w' g B n size pg M := h.kp q fun _ _ h => h
theorem Rm.drewN {w : World} {g B n size pg M} (h : Rm w g B n size pg M) (m : Nat) : Rm (w.drewN m) g B n size pg M := h.kpN ((Kp.refl _ _).drewN m)
theorem Rm.mono {w : World} {g B n n' size pg M} (h : Rm w g B n size pg M) (hn : n ≤ n') : Rm w g B n' size pg M := ⟨h.blk, h.map.mono hn, h.pag, h.non, h.byt, h.gB, h.ga, h.inj⟩
theorem Rm.lt {w : World} {g B n size pg M} (h : Rm w g B n size pg M) : ∀ i, memB g B pg i → i < w.heap.size := by
  rintro i (rfl | rfl | ⟨k, hk⟩)
  · exact blk_lt h.blk.blk
  · exact h.map.lt
  · exact blk_lt (h.pag k i hk)
theorem Rm.c0 {w : World} {g B n size pg M} (h : Rm w g B n size pg M) : w.cell? ⟨g, 0, none⟩ = some (.int .u64 (size : Int)) := h.blk.c 0
theorem Rm.c1 {w : World} {g B n size pg M} (h : Rm w g B n size pg M) : w.cell? ⟨g, 1, none⟩ = some (.map (some B)) := h.blk.c 1
theorem Rm.c2 {w : World} {g B n size pg M} (h : Rm w g B n size pg M) : w.cell? ⟨g, 2, none⟩ = some (.pointer none) := h.blk.c 2
set_option maxHeartbeats 8000000 in
set_option maxRecDepth 100000 in
theorem get_m (g B n size : Nat) (pg : Nat → Option Nat) (M : Nat → Nat) (off : Nat) (w : World) (hI : Rm w g B n size pg M) (ho : off < 268435456) :
    Calls Try.prog 24 #[.pointer (some ⟨g, 0, none⟩), .int .u64 ((2147483648 + off : Nat) : Int)] w fun e w' => e = .returned (.int .u8 (M off : Int)) ∧ w' = w := by
  obtain ⟨K, J, rfl, hJ⟩ : ∃ K J, off = K * 4096 + J ∧ J < 4096 := ⟨off / 4096, off % 4096, by omega, by omega⟩
  obtain ⟨at_, hat⟩ : ∃ at_ : Int, ((2147483648 + (K * 4096 + J) : Nat) : Int) = at_ := ⟨_, rfl⟩
  obtain ⟨of_, hof⟩ : ∃ of_ : Int, ((K * 4096 + J : Nat) : Int) = of_ := ⟨_, rfl⟩
  have e0 : IntKind.u64.wrap (at_ - 2147483648) = of_ := by rw [IntKind.wrap_u64]; omega
  have e1 : of_ / 4096 = (K : Int) := by omega
  have e2 : of_ % 4096 = (J : Int) := by omega
  have e1t : of_.tdiv 4096 = (K : Int) := by rw [Int.tdiv_eq_ediv_of_nonneg (by omega)]; exact e1
  have e2t : of_.tmod 4096 = (J : Int) := by rw [Int.tmod_eq_emod_of_nonneg (by omega)]; exact e2
  have eK : IntKind.u64.wrap (K : Int) = (K : Int) := u64_nat K (by omega)
  have eJ : IntKind.u64.wrap (J : Int) = (J : Int) := u64_nat J (by omega)
  have c1 := hI.c1
  rw [hat]
  clear hat
  have j0 : (0 : Int) ≤ (J : Int) := by omega
  have j1 : (J : Int) < 4096 := by omega
  have HK : Aside0 (K < 18446744073709551616) := ⟨by omega⟩
  have hM := Aside0.mk hI
  clear hof ho hJ hI
  cases hp : pg K with
  | none =>
    have HV : Aside0 (M (K * 4096 + J) = 0) := ⟨hM.out.non K hp J (by omega)⟩
    have HP := Aside0.mk hp
    clear hp
    rw [HV.out]
    go_enter Try.func24, Try.ntmps24
    go_wp2_with ((with_reducible refine gate_dst (N := 16) rfl ?_); refine lk_ev rfl _ _ _ 22 121 rfl B n pg K rfl rfl hM.out.map keyed64 Try.underlying22 Try.underlying93 (zeroPP _) HK.out (.tuple #[.pointer none, .bool false]) (by rw [HP.out]) ?_)
    go_ret
    exact ⟨rfl, rfl⟩
  | some b =>
    have cb : w.cell? ⟨b, J, none⟩ = some (.int .u8 ((M (K * 4096 + J) : Nat) : Int)) := (blk_cell (hM.out.pag K b hp) J).trans (pageC_at M K J (by omega))
    have HP := Aside0.mk hp
    clear hp
    go_enter Try.func24, Try.ntmps24
    go_wp2_with ((with_reducible refine gate_dst (N := 16) rfl ?_); refine lk_ev rfl _ _ _ 22 121 rfl B n pg K rfl rfl hM.out.map keyed64 Try.underlying22 Try.underlying93 (zeroPP _) HK.out (.tuple #[.pointer (some ⟨b, 0, none⟩), .bool true]) (by rw [HP.out]) ?_)
    go_ret
    exact ⟨rfl, rfl⟩
end Go.Proofs.Ytnompdckpenfgaa.H
