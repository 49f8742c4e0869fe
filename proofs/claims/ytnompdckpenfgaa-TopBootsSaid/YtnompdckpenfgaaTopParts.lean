/- The machine's devices and the bus are made, as the code makes them. -/
import Derived.Test.YtnompdckpenfgaaHmem2
import Derived.Carry
import Derived.Laws.Rows
/- Memory of a machine: has, wrote, new (of chapter 10's texts). -/
namespace Go.Proofs.Ytnompdckpenfgaa.H
open Go.RowKit Go.Proofs.YtnompdckpenfgaaW.PrintWords Go.Proofs.YtnompdckpenfgaaW.PrintLast Go.Proofs.Ytnompdckpenfgaa.PAl Go.Proofs.Ytnompdckpenfgaa.Pure Go.Proofs.Ytnompdckpenfgaa.Vw
set_option linter.unusedVariables false
set_option linter.unusedSimpArgs false
open Go.Maps (Keyed)
def hasB (size a n : Nat) : Bool := decide (2147483648 ≤ a ∧ a + n ≤ 2147483648 + size)
set_option maxHeartbeats 8000000 in
set_option maxRecDepth 100000 in
theorem has_m (g B n size : Nat) (pg : Nat → Option Nat) (M : Nat → Nat) (a k : Nat) (w : World) (hI : Rm w g B n size pg M) (ha : U a) (hk : U k) (hs : U size) :
    Calls Try.prog 23 #[.pointer (some ⟨g, 0, none⟩), .int .u64 (a : Int), .int .u64 (k : Int)] w fun e w' => e = .returned (.bool (hasB size a k)) ∧ ∃ m, w' = w.drewN m := by
  have c0 := hI.c0
  have W : Aside0 (∀ W, Calls Try.prog 18 #[.int .u64 (a : Int), .int .u64 (k : Int), .int .u64 2147483648, .int .u64 (size : Int)] W fun e w' => e = .returned (.bool (hasB size a k)) ∧ ∃ m, w' = W.drewN m) := ⟨fun W => (word_Within.calls _ _ _ _ _ W (within_word a k 2147483648 size ha.lt hk.lt (by decide) hs.lt)).mono fun e w' h => ⟨h.1, h.2.out⟩⟩
  go_enter Try.func23, Try.ntmps23
  go_wp2_with (go_at_call 18; refine (W.out _).mono ?_; rintro e w' ⟨rfl, m, rfl⟩)
  go_ret
  exact ⟨rfl, m, rfl⟩
set_option maxHeartbeats 8000000 in
set_option maxRecDepth 100000 in
theorem wrote_m (g B n size : Nat) (pg : Nat → Option Nat) (M : Nat → Nat) (a k : Int) (w : World) (hI : Rm w g B n size pg M) :
    Calls Try.prog 36 #[.pointer (some ⟨g, 0, none⟩), .int .u64 a, .int .u64 k] w fun e w' => e = .returned (.tuple #[]) ∧ w' = w := by
  have c2 := hI.c2
  go_enter Try.func36, Try.ntmps36
  go_wp2
  first | go_end0 | ((try simp only [Exit.inBlock, Exit.then]); refine bodyPost_ret (results_none rfl _ _ _) rfl ?_)
  exact ⟨rfl, rfl⟩
set_option maxHeartbeats 8000000 in
set_option maxRecDepth 100000 in
theorem new_m (size : Nat) (w : World) (h0 : 4096 ≤ size) (h1 : size ≤ 268435456) (hal : word_Aligned.f (size : Int) 4096 = some true) :
    Calls Try.prog 11 #[.int .u64 (size : Int)] w fun e w' => ∃ g B, e = .returned (.tuple #[.pointer (some ⟨g, 0, none⟩), .int .i64 0]) ∧ Rm w' g B 0 size (fun _ => none) (fun _ => 0) ∧ KpN w w' ∧ w.heap.size ≤ g ∧ w.heap.size ≤ B := by
  have AL : Aside0 (∀ W, Calls Try.prog 25 #[.int .u64 (size : Int), .int .u64 4096] W fun e w' => e = .returned (.bool true) ∧ ∃ m, w' = W.drewN m) := ⟨fun W => (word_Aligned.calls _ _ _ W hal).mono fun e w' h => ⟨h.1, h.2.out⟩⟩
  have t1 : decide ((size : Int) < 4096) = false := decide_eq_false (by omega)
  have t2 : decide (268435456 < (size : Int)) = false := decide_eq_false (by omega)
  have t1b : decide (size < 4096) = false := decide_eq_false (by omega)
  have t2b : decide (268435456 < size) = false := decide_eq_false (by omega)
  have hmm := @Go.RowKit.run_makeMap Try.prog
  clear hal h0 h1
  go_enter Try.func11, Try.ntmps11
  go_wp2_with (go_at_call 25; refine (AL.out _).mono ?_; rintro e w1 ⟨rfl, m, rfl⟩)
  go_ret2
  have hb : (((w.drewN m).alloc (.map #[] 0)).alloc (.cells #[.int .u64 (size : Int), .map (some w.heap.size), .pointer none] QT)).heap[w.heap.size + 1]? = some (.cells #[.int .u64 (size : Int), .map (some w.heap.size), .pointer none] QT (0, 0)) := by
    have := heap_alloc_new ((w.drewN m).alloc (.map #[] 0)) (.cells #[.int .u64 (size : Int), .map (some w.heap.size), .pointer none] QT)
    rw [show ((w.drewN m).alloc (.map #[] 0)).heap.size = w.heap.size + 1 by simp [World.drewN]] at this
    exact this
  have hm : PMap Try.prog 22 (((w.drewN m).alloc (.map #[] 0)).alloc (.cells #[.int .u64 (size : Int), .map (some w.heap.size), .pointer none] QT)) w.heap.size 0 (fun _ => none) :=
    (PMap.made (w.drewN m)).kp ((Kp.refl _ (fun _ => False)).alloc _) (fun h => h)
  refine ⟨w.heap.size + 1, w.heap.size, rfl, ⟨⟨hb⟩, hm, fun _ _ h => (by cases h), fun _ _ _ _ => rfl, fun _ => (by show 0 < 256; decide), by omega, fun _ _ h => (by cases h), fun _ _ _ h => (by cases h)⟩, (((Kp.refl _ _).drewN m).alloc _).alloc _, by omega, Nat.le_refl _⟩
end Go.Proofs.Ytnompdckpenfgaa.H
/- What a machine is made of: disk, fifo, registers of devices. -/
namespace Go.Proofs.Ytnompdckpenfgaa.H
open Go.RowKit Go.Proofs.YtnompdckpenfgaaW.PrintWords Go.Proofs.YtnompdckpenfgaaW.PrintLast Go.Proofs.Ytnompdckpenfgaa.PAl Go.Proofs.Ytnompdckpenfgaa.Pure Go.Proofs.Ytnompdckpenfgaa.Vw
set_option linter.unusedVariables false
set_option linter.unusedSimpArgs false
open Go.Maps (Keyed)
def diskC (B : Nat) : Array Value := #[.int .u64 1, .bool false, .map (some B), .int .u64 0, .int .u64 0, .int .u64 0]
set_option maxHeartbeats 8000000 in
set_option maxRecDepth 100000 in
theorem dnew_m (w : World) : Calls Try.prog 12 #[.int .u64 1, .bool false] w fun e w' => ∃ g B, e = .returned (.tuple #[.pointer (some ⟨g, 0, none⟩), .int .i64 0]) ∧ Bk w' g (diskC B) 103 ∧ KpN w w' ∧ w.heap.size ≤ g := by
  have hmm := @Go.RowKit.run_makeMap Try.prog
  go_enter Try.func12, Try.ntmps12
  go_wp2
  go_ret2
  have hb := heap_alloc_new (w.alloc (.map #[] 0)) (.cells (diskC w.heap.size) 103)
  rw [show (w.alloc (.map #[] 0)).heap.size = w.heap.size + 1 by simp] at hb
  exact ⟨w.heap.size + 1, w.heap.size, rfl, ⟨hb⟩, ((Kp.refl _ _).alloc _).alloc _, by simp⟩
set_option maxHeartbeats 8000000 in
set_option maxRecDepth 100000 in
theorem dlock_m (g B : Nat) (w : World) (hI : Bk w g (diskC B) 103) : Calls Try.prog 38 #[.pointer (some ⟨g, 0, none⟩)] w fun e w' => e = .returned (.bool false) ∧ w' = w := by
  have c1 : w.cell? ⟨g, 1, none⟩ = some (.bool false) := hI.c 1
  go_enter Try.func38, Try.ntmps38
  go_wp2
  go_ret
  exact ⟨rfl, rfl⟩
set_option maxHeartbeats 8000000 in
set_option maxRecDepth 100000 in
theorem dcount_m (g B : Nat) (w : World) (hI : Bk w g (diskC B) 103) : Calls Try.prog 40 #[.pointer (some ⟨g, 0, none⟩)] w fun e w' => e = .returned (.int .u64 1) ∧ w' = w := by
  have c0 : w.cell? ⟨g, 0, none⟩ = some (.int .u64 1) := hI.c 0
  go_enter Try.func40, Try.ntmps40
  go_wp2
  go_ret
  exact ⟨rfl, rfl⟩
set_option maxHeartbeats 8000000 in
set_option maxRecDepth 100000 in
theorem fnew_m (w : World) : Calls Try.prog 41 #[.int .i64 4096] w fun e w' => ∃ g, e = .returned (.tuple #[.pointer (some ⟨g, 0, none⟩), .int .i64 0]) ∧ KpN w w' := by
  go_enter Try.func41, Try.ntmps41
  go_wp2
  go_ret2
  exact ⟨_, rfl, (Kp.refl _ _).alloc _⟩
section
variable {P : Program} {ops : Array Oper} {Q : Exit → Act → World → Prop} {o : Oper} {a : Act} {w : World} {rest : List Oper}
theorem run_app0 (ty : TypeId) (b : Nat) (w : World) : (Builtin.append_ #[27, 27] ty #[.slice (some ⟨b, 0, none⟩) 0 0, .slice none 0 0]).run Try.prog w = .ok (.slice (some ⟨b, 0, none⟩) 0 0) w := by kernel_rfl
theorem app_nil (hgd : o.guard = none) {s x : Operand} (ho : o.op = .call { callee := .builtin .append, args := #[s, x], argTypes := #[27, 27] }) (b : Nat) (hs : a.eval s = .slice (some ⟨b, 0, none⟩) 0 0) (hx : a.eval x = .slice none 0 0)
    (h : wpList Try.prog ops Q rest (a.put o.dst (.slice (some ⟨b, 0, none⟩) 0 0)) w) : wpList Try.prog ops Q (o :: rest) a w := by
  refine wpList_plain hgd fun K hK => ?_
  unfold Oper.wp execOp
  simp only [ho, resolve, invoke, builtin, Sem.run_bind, Sem.run_pure, Result.andThen_ok, List.map_toArray, List.map_cons, List.map_nil, hs, hx, run_app0]
  exact hK _ _ h
theorem app_some (hgd : o.guard = none) {s x : Operand} (ho : o.op = .call { callee := .builtin .append, args := #[s, x], argTypes := #[27, 27] }) (b : Nat) (hs : a.eval s = .slice (some ⟨b, 0, none⟩) 0 0) (A : Option Addr) (n c : Nat) (l : List Int) (hx : a.eval x = .slice A n c) (hC : Kd.C (Kd.int .u8) w A n l) (h0 : 0 < n) (h1 : n ≤ 1000)
    (h : ∀ A' n' c' w', KpN w w' → wpList Try.prog ops Q rest (a.put o.dst (.slice A' n' c')) w') : wpList Try.prog ops Q (o :: rest) a w := by
  obtain ⟨i, hi, hii⟩ := Option.map_eq_some_iff.1 (show (Try.prog.info? 5).map (fun i => (i.zero, i.size, i.bytes)) = some (some (.int .u8 0), 1, 1) by kernel_rfl)
  obtain ⟨hz, hsize, hby⟩ : i.zero = some (.int .u8 0) ∧ i.size = 1 ∧ i.bytes = 1 := by injection hii with q1 q2; injection q2 with q2 q3; exact ⟨q1, q2, q3⟩
  obtain ⟨hl, hm, hc⟩ := hC
  obtain ⟨ad, rfl, hcc⟩ := hc h0
  obtain ⟨v', w', hrun, hown, hgr⟩ := run_append_arg_grows (P := Try.prog) w 27 o.type 5 i (.int .u8 0) 1 1 Try.underlying27 hi hz hsize hby rfl (by decide) ⟨b, 0, none⟩ 0 0 [] rfl (fun j u h => by cases h) ad n c (l.map (Value.int .u8)) (by simp [hl]) (fun j u hj => by
    rw [List.getElem?_map] at hj
    obtain ⟨p, hp, rfl⟩ := Option.map_eq_some_iff.1 hj
    obtain ⟨cs, c1, c2, c3⟩ := hcc j p hp
    have e1 : (Kd.int .u8).sz = 1 := rfl
    have e2 : cs = [.int .u8 p] := c2
    subst e2
    have := c3 0 _ rfl
    rwa [e1, Nat.mul_one, Nat.add_zero] at this) (by omega) (by simp only [maxLen]; omega) (by omega)
  have hk : KpN w w' := ⟨hgr.os, hgr.tape, hgr.output, hgr.size, fun k hk _ => hgr.block k hk (by simp)⟩
  have h1 : ∃ A' n' c', v' = .slice A' n' c' := by
    rcases hown.2 with ⟨rfl, _⟩ | ⟨g, cap, cur, rfl, _⟩ <;> exact ⟨_, _, _, rfl⟩
  obtain ⟨A', n', c', rfl⟩ := h1
  refine wpList_plain hgd fun K hK => ?_
  unfold Oper.wp execOp
  simp only [ho, resolve, invoke, builtin, Sem.run_bind, Sem.run_pure, Result.andThen_ok, List.map_toArray, List.map_cons, List.map_nil, hs, hx, hrun]
  exact hK _ _ (h _ _ _ w' hk)
end
def regsC (id off : Int) (qb n : Nat) (u : Value) : Array Value := #[.int .u32 id, .int .u64 off, .int .u64 0, .int .u32 0, .int .u32 0, .int .u32 0, .slice (some ⟨qb, 0, none⟩) n n, .int .u32 0, .int .u32 0, .int .u32 0, u]
theorem zq : ∃ i z, Try.prog.info? 153 = some i ∧ i.zero = some z ∧ i.size ≤ 100 ∧ i.bytes ≤ 1000 := by
  have h : ((Try.prog.info? 153).bind fun i => i.zero.bind fun z => if i.size ≤ 100 then (if i.bytes ≤ 1000 then some true else none) else none) = some true := by kernel_rfl
  obtain ⟨i, hi, h⟩ := Option.bind_eq_some_iff.1 h
  obtain ⟨z, hz, h⟩ := Option.bind_eq_some_iff.1 h
  split at h
  · split at h
    · exact ⟨i, z, hi, hz, by assumption, by assumption⟩
    · cases h
  · cases h
theorem mkq (n : Nat) (hn : n ≤ 2) : ∃ C, ∀ w : World, (Instr.makeSlice 140 (.int .i64 (n : Int)) (.int .i64 (n : Int))).run Try.prog w = .ok (.slice (some ⟨w.heap.size, 0, none⟩) n n) (w.alloc (.cells C 153)) := by
  obtain ⟨i, z, hi, hz, h1, h2⟩ := zq
  refine ⟨madeCells z.cells (n * i.size), fun w => ?_⟩
  have e1 : n * i.size ≤ 2 * 100 := Nat.mul_le_mul hn h1
  have e2 : (i.bytes : Int) * (n : Int) ≤ 2000 := by
    have : i.bytes * n ≤ 1000 * 2 := Nat.mul_le_mul h2 hn
    have e : (i.bytes : Int) * (n : Int) = ((i.bytes * n : Nat) : Int) := (Int.natCast_mul _ _).symm
    rw [e]; omega
  have := Go.run_makeSlice (P := Try.prog) w 140 153 i z Try.underlying140 hi hz .i64 .i64 (n : Int) (n : Int) (by omega) (by omega) (by simp only [Int.toNat_natCast]; omega) (by omega) (by omega)
  simpa using this
set_option maxHeartbeats 8000000 in
set_option maxRecDepth 100000 in
theorem vnew_t (w : World) : Calls Try.prog 39 #[.int .u32 3, .int .u64 805306368, .int .i64 2, .slice none 0 0] w fun e w' => ∃ g, e = .returned (.pointer (some ⟨g, 0, none⟩)) ∧ KpN w w' := by
  obtain ⟨CQ, hmk⟩ := mkq 2 (by decide)
  have hmk : ∀ w : World, (Instr.makeSlice 140 (.int .i64 2) (.int .i64 2)).run Try.prog w = .ok (.slice (some ⟨w.heap.size, 0, none⟩) 2 2) (w.alloc (.cells CQ 153)) := hmk
  go_enter Try.func39, Try.ntmps39
  go_wp2_with (at_builtin; refine app_nil rfl rfl _ rfl rfl ?_)
  go_ret
  exact ⟨_, rfl, (((Kp.refl _ _).alloc _).alloc _).alloc _⟩
set_option maxHeartbeats 8000000 in
set_option maxRecDepth 100000 in
theorem vnew_b (w : World) (A : Option Addr) (c : Nat) (l : List Int) (hC : Kd.C (Kd.int .u8) w A 8 l) : Calls Try.prog 39 #[.int .u32 2, .int .u64 805306880, .int .i64 1, .slice A 8 c] w fun e w' => ∃ g off qb A' n' c', e = .returned (.pointer (some ⟨g, 0, none⟩)) ∧ KpN w w' ∧ w.heap.size ≤ g ∧ Bk w' g (regsC 2 off qb 1 (.slice A' n' c')) 142 := by
  obtain ⟨CQ, hmk⟩ := mkq 1 (by decide)
  have hmk : ∀ w : World, (Instr.makeSlice 140 (.int .i64 1) (.int .i64 1)).run Try.prog w = .ok (.slice (some ⟨w.heap.size, 0, none⟩) 1 1) (w.alloc (.cells CQ 153)) := hmk
  have HC := Aside0.mk hC
  clear hC
  go_enter Try.func39, Try.ntmps39
  go_wp2_with (at_builtin; refine app_some rfl rfl _ rfl _ _ _ _ rfl (Kd.C_below HC.out (((Kp.refl _ (fun _ => False)).alloc _).below (fun _ _ h => h.elim) (Nat.le_refl _))) (by decide) (by decide) ?_; intro A' n' c' w1 hk)
  go_ret
  have hb := heap_alloc_new w1 (.cells (regsC 2 (bits .or .u64 805306880 4294967296) (w1.heap.size + 1) 1 (.slice A' n' c')) 142)
  have k2 : KpN (w1.alloc (.cells (regsC 2 (bits .or .u64 805306880 4294967296) (w1.heap.size + 1) 1 (.slice A' n' c')) 142)) ((w1.alloc (.cells (regsC 2 (bits .or .u64 805306880 4294967296) (w1.heap.size + 1) 1 (.slice A' n' c')) 142)).alloc (.cells CQ 153)) := (Kp.refl _ _).alloc _
  exact ⟨w1.heap.size, _, _, _, _, _, rfl, ((((Kp.refl _ _).alloc _).trans hk).alloc _).alloc _, Nat.le_trans (by simp) hk.size, ⟨(k2.block _ (blk_lt hb) (fun h => h)).trans hb⟩⟩
end Go.Proofs.Ytnompdckpenfgaa.H
/- What a machine is made of: the devices, the bus. -/
namespace Go.Proofs.Ytnompdckpenfgaa.H
open Go.RowKit Go.Proofs.YtnompdckpenfgaaW.PrintWords Go.Proofs.YtnompdckpenfgaaW.PrintLast Go.Proofs.Ytnompdckpenfgaa.PAl Go.Proofs.Ytnompdckpenfgaa.Pure Go.Proofs.Ytnompdckpenfgaa.Vw
set_option linter.unusedVariables false
set_option linter.unusedSimpArgs false
def blkC (rg d m : Nat) : Array Value := #[.pointer (some ⟨rg, 0, none⟩), .pointer (some ⟨d, 0, none⟩), .pointer (some ⟨m, 0, none⟩), .int .u8 0, .int .u8 0, .int .u8 0, .int .u8 0, .int .u8 0, .int .u8 0, .int .u8 0, .int .u8 0, .int .u8 0, .int .u8 0, .int .u8 0, .int .u8 0, .int .u8 0, .int .u8 0, .int .u8 0, .int .u8 0, .int .u8 0, .int .u8 0, .int .u8 0, .int .u8 0, .slice none 0 0]
theorem R_sl {w : World} {base : Nat} {ok : Nat → Prop} {v : Value} {l : List Int} (h : Kd.R (Kd.int .u8) 5 w base ok v l) : ∃ A c, v = .slice A l.length c ∧ Kd.C (Kd.int .u8) w A l.length l := by
  obtain ⟨_, inner, ho, hr⟩ := h
  exact own_reads_row ho (hr.imp_ fun p c hp => (Kd.int .u8).K_of_M hp) rfl
theorem cp0 (ty : TypeId) (g : Nat) (w : World) : (Builtin.copy_ #[27, 9] ty #[.slice (some ⟨g, 3, none⟩) 20 20, .string ⟨#[]⟩]).run Try.prog w = .ok (.int .i64 0) w := by kernel_rfl
set_option maxHeartbeats 8000000 in
set_option maxRecDepth 100000 in
theorem bnew_m (m d B : Nat) (w : World) (hI : Bk w d (diskC B) 103) : Calls Try.prog 27 #[.pointer (some ⟨m, 0, none⟩), .pointer (some ⟨d, 0, none⟩), .string ⟨#[]⟩] w fun e w' => ∃ g rg off qb A n c, e = .returned (.pointer (some ⟨g, 0, none⟩)) ∧ KpN w w' ∧ Bk w' g (blkC rg d m) 79 ∧ Bk w' rg (regsC 2 off qb 1 (.slice A n c)) 142 := by
  have HI := Aside0.mk hI
  have hcp := cp0
  clear hI
  go_enter Try.func27, Try.ntmps27
  go_wp2_with (first
    | (go_at_call 38; refine (dlock_m d B _ HI.out).mono ?_; rintro e w1 ⟨rfl, rfl⟩)
    | (go_at_call 40; refine (dcount_m d B _ HI.out).mono ?_; rintro e w1 ⟨rfl, rfl⟩)
    | (go_at_call 15; refine (word_Bytes.calls 20 1 8 [1, 0, 0, 0, 0, 0, 0, 0] _ (by kernel_rfl)).mono ?_; rintro e w2 ⟨v, rfl, hR, hB⟩; obtain ⟨A2, c2, rfl, hC⟩ := R_sl hR; have HC := Aside0.mk hC; have HB := Aside0.mk hB; clear hR hB hC)
    | (go_at_call 39; refine (vnew_b w2 A2 c2 _ HC.out).mono ?_; rintro e w3 ⟨rg, off, qb, A', n', c', rfl, hk3, hge, hb3⟩; have HK3 := Aside0.mk hk3; have HG3 := Aside0.mk hge; have HB3 := Aside0.mk hb3; clear hk3 hge hb3))
  go_ret
  have hb := heap_alloc_new w3 (.cells (blkC rg d m) 79)
  have k0 : KpN w1 w2 := Kp.of_below HB.out _
  have k3 : KpN w3 (w3.alloc (.cells (blkC rg d m) 79)) := (Kp.refl _ _).alloc _
  exact ⟨w3.heap.size, rg, _, _, _, _, _, rfl, (k0.trans HK3.out).trans k3, ⟨hb⟩, HB3.out.kp k3 (fun h => h)⟩
set_option maxHeartbeats 8000000 in
set_option maxRecDepth 100000 in
theorem tnew_m (m : Nat) (w : World) : Calls Try.prog 28 #[.pointer (some ⟨m, 0, none⟩)] w fun e w' => ∃ g, e = .returned (.pointer (some ⟨g, 0, none⟩)) ∧ KpN w w' := by
  go_enter Try.func28, Try.ntmps28
  go_wp2_with (first
    | (go_at_call 41; refine (fnew_m _).mono ?_; rintro e w1 ⟨f, rfl, hk1⟩; have HK1 := Aside0.mk hk1; clear hk1)
    | (go_at_call 39; refine (vnew_t _).mono ?_; rintro e w2 ⟨r, rfl, hk2⟩; have HK2 := Aside0.mk hk2; clear hk2))
  go_ret
  exact ⟨_, rfl, (HK1.out.trans HK2.out).alloc _⟩
end Go.Proofs.Ytnompdckpenfgaa.H
/- The bus: made; asked at the disk's place. -/
namespace Go.Proofs.Ytnompdckpenfgaa.H
open Go.RowKit Go.Proofs.YtnompdckpenfgaaW.PrintWords Go.Proofs.YtnompdckpenfgaaW.PrintLast Go.Proofs.Ytnompdckpenfgaa.PAl Go.Proofs.Ytnompdckpenfgaa.Pure Go.Proofs.Ytnompdckpenfgaa.Vw
set_option linter.unusedVariables false
set_option linter.unusedSimpArgs false
/-- A bus at block g: over the memory at m, with the disk's registers at rg. -/
structure BusS (w : World) (g m : Nat) : Prop where
  ex : ∃ cs b d t rg off qb A n c, Bk w g cs 68 ∧ cs[0]? = some (.pointer (some ⟨m, 0, none⟩)) ∧ cs[43]? = some (.pointer (some ⟨b, 0, none⟩)) ∧ cs[44]? = some (.pointer (some ⟨t, 0, none⟩)) ∧ Bk w b (blkC rg d m) 79 ∧ Bk w rg (regsC 2 off qb 1 (.slice A n c)) 142
theorem BusS.kp {w w' : World} {g m : Nat} (h : BusS w g m) (k : KpN w w') : BusS w' g m := by
  obtain ⟨cs, b, d, t, rg, off, qb, A, n, c, h1, h2, h3, h4, h5, h6⟩ := h.ex
  exact ⟨cs, b, d, t, rg, off, qb, A, n, c, h1.kp k (fun h => h), h2, h3, h4, h5.kp k (fun h => h), h6.kp k (fun h => h)⟩
set_option maxHeartbeats 8000000 in
set_option maxRecDepth 100000 in
theorem busnew_m (m d B : Nat) (w : World) (hI : Bk w d (diskC B) 103) : Calls Try.prog 13 #[.pointer (some ⟨m, 0, none⟩), .pointer (some ⟨d, 0, none⟩), .string ⟨#[]⟩] w fun e w' => ∃ g, e = .returned (.pointer (some ⟨g, 0, none⟩)) ∧ KpN w w' ∧ BusS w' g m := by
  have HI := Aside0.mk hI
  clear hI
  go_enter Try.func13, Try.ntmps13
  go_wp2_with (first
    | (go_at_call 26; refine (clint_Begin.calls false 18446744073709551615 0 _ rfl).mono ?_; rintro e w1 ⟨rfl, hB⟩; have HB := Aside0.mk hB; clear hB)
    | (go_at_call 27; refine (bnew_m m d B w1 (HI.out.kp (Kp.of_below HB.out (fun _ => False)) (fun h => h))).mono ?_; rintro e w2 ⟨b, rg, off, qb, A, n, c, rfl, hk2, h5, h6⟩; have HK2 := Aside0.mk hk2; have H5 := Aside0.mk h5; have H6 := Aside0.mk h6; clear hk2 h5 h6)
    | (go_at_call 28; refine (tnew_m m _).mono ?_; rintro e w3 ⟨t, rfl, hk3⟩; have HK3 := Aside0.mk hk3; clear hk3))
  go_ret
  have kk : KpN w w3 := ((Kp.of_below HB.out (fun _ => False)).trans HK2.out).trans HK3.out
  refine ⟨w3.heap.size, rfl, kk.alloc _, ⟨_, b, d, t, rg, off, qb, A, n, c, ⟨heap_alloc_new w3 _⟩, rfl, rfl, rfl, (H5.out.kp HK3.out (fun h => h)).kp ((Kp.refl _ (fun _ => False)).alloc _) (fun h => h), (H6.out.kp HK3.out (fun h => h)).kp ((Kp.refl _ (fun _ => False)).alloc _) (fun h => h)⟩⟩
set_option maxHeartbeats 8000000 in
set_option maxRecDepth 100000 in
theorem queue_m (rg qb : Nat) (off : Int) (u : Value) (w : World) (hI : Bk w rg (regsC 2 off qb 1 u) 142) : Calls Try.prog 53 #[.pointer (some ⟨rg, 0, none⟩)] w fun e w' => e = .returned (.pointer (some ⟨qb, 0, none⟩)) ∧ KpN w w' := by
  have c5 : w.cell? ⟨rg, 5, none⟩ = some (.int .u32 0) := hI.c 5
  have c6 : w.cell? ⟨rg, 6, none⟩ = some (.slice (some ⟨qb, 0, none⟩) 1 1) := hI.c 6
  go_enter Try.func53, Try.ntmps53
  go_wp2
  go_quiet (fail)
  go_wp2
  go_quiet (fail)
  go_wp2
  go_ret
  exact ⟨rfl, by repeat (first | exact Kp.refl _ _ | apply Kp.drewN | apply Kp.drew)⟩
set_option maxHeartbeats 8000000 in
set_option maxRecDepth 100000 in
theorem read_m (rg qb : Nat) (off : Int) (u : Value) (w : World) (hI : Bk w rg (regsC 2 off qb 1 u) 142) : Calls Try.prog 50 #[.pointer (some ⟨rg, 0, none⟩), .int .u64 0] w fun e w' => e = .returned (.int .u32 1953655158) ∧ KpN w w' := by
  have HI := Aside0.mk hI
  clear hI
  go_enter Try.func50, Try.ntmps50
  go_wp2_with (go_at_call 53; refine (queue_m rg qb off u _ HI.out).mono ?_; rintro e w1 ⟨rfl, hk⟩; have HK := Aside0.mk hk; clear hk)
  go_ret
  exact ⟨rfl, HK.out⟩
end Go.Proofs.Ytnompdckpenfgaa.H
/- The bus, asked at the disk's place; a bus works ('awake'). -/
namespace Go.Proofs.Ytnompdckpenfgaa.H
open Go.RowKit Go.Proofs.YtnompdckpenfgaaW.PrintWords Go.Proofs.YtnompdckpenfgaaW.PrintLast Go.Proofs.Ytnompdckpenfgaa.PAl Go.Proofs.Ytnompdckpenfgaa.Pure Go.Proofs.Ytnompdckpenfgaa.Vw
set_option linter.unusedVariables false
set_option linter.unusedSimpArgs false
set_option maxHeartbeats 8000000 in
set_option maxRecDepth 100000 in
theorem rload_m (rg qb : Nat) (off : Int) (u : Value) (w : World) (hI : Bk w rg (regsC 2 off qb 1 u) 142) : Calls Try.prog 33 #[.pointer (some ⟨rg, 0, none⟩), .int .u64 0, .int .i64 4] w fun e w' => e = .returned (.tuple #[.int .u64 1953655158, .bool true]) ∧ KpN w w' := by
  have HI := Aside0.mk hI
  clear hI
  go_enter Try.func33, Try.ntmps33
  go_wp2_with (first
    | (go_at_call 25; refine (word_Aligned.calls 0 4 true _ (by kernel_rfl)).mono ?_; rintro e w1 ⟨rfl, hd⟩; obtain ⟨m1, rfl⟩ := hd.out)
    | (go_at_call 50; refine (read_m rg qb off u _ (HI.out.kp ((Kp.refl _ (fun _ => False)).drewN _) (fun h => h))).mono ?_; rintro e w2 ⟨rfl, hk⟩; have HK := Aside0.mk hk; clear hk))
  go_ret2
  exact ⟨rfl, ((Kp.refl _ (fun _ => False)).drewN _).trans HK.out⟩
set_option maxHeartbeats 8000000 in
set_option maxRecDepth 100000 in
theorem part_m (g m B n size : Nat) (pg : Nat → Option Nat) (M : Nat → Nat) (w : World) (hI : BusS w g m) (hR : Rm w m B n size pg M) (hs : size ≤ 268435456) : Calls Try.prog 29 #[.pointer (some ⟨g, 0, none⟩), .int .u64 268439552, .int .i64 4] w fun e w' => e = .returned (.tuple #[.int .i64 4, .int .u64 0]) ∧ KpN w w' := by
  obtain ⟨cs, b, d, t, rg, off, qb, A, n2, c, h1, h2, h3, h4, h5, h6⟩ := hI.ex
  have c0 : w.cell? ⟨g, 0, none⟩ = some (.pointer (some ⟨m, 0, none⟩)) := (h1.c 0).trans h2
  have hh : hasB size 268439552 4 = false := decide_eq_false (by omega)
  have H1 : Aside0 (Calls Try.prog 23 #[.pointer (some ⟨m, 0, none⟩), .int .u64 268439552, .int .u64 4] w fun e w' => e = .returned (.bool false) ∧ ∃ k, w' = w.drewN k) := ⟨by
    have := has_m m B n size pg M 268439552 4 w hR ⟨by decide⟩ ⟨by decide⟩ ⟨by omega⟩
    rw [hh] at this
    exact this⟩
  clear h1 h2 h3 h4 h5 h6 hR hI hs hh
  go_enter Try.func29, Try.ntmps29
  go_wp2_with (first
    | (go_at_call 23; refine H1.out.mono ?_; rintro e w1 ⟨rfl, k1, rfl⟩)
    | (go_at_call 18; with_reducible refine (word_Within.calls 268439552 4 33554432 65536 false _ (by kernel_rfl)).mono ?_; rintro e w2 ⟨rfl, hd2⟩; obtain ⟨k2, rfl⟩ := hd2.out)
    | (go_at_call 18; with_reducible refine (word_Within.calls 268439552 4 201326592 4194304 false _ (by kernel_rfl)).mono ?_; rintro e w3 ⟨rfl, hd3⟩; obtain ⟨k3, rfl⟩ := hd3.out)
    | (go_at_call 18; with_reducible refine (word_Within.calls 268439552 4 268439552 4096 true _ (by kernel_rfl)).mono ?_; rintro e w4 ⟨rfl, hd4⟩; obtain ⟨k4, rfl⟩ := hd4.out))
  go_ret2
  exact ⟨rfl, (Kp.refl _ (fun _ => False)).drewN _⟩
set_option maxHeartbeats 8000000 in
set_option maxRecDepth 100000 in
theorem bload_m (g m B n size : Nat) (pg : Nat → Option Nat) (M : Nat → Nat) (w : World) (hI : BusS w g m) (hR : Rm w m B n size pg M) (hs : size ≤ 268435456) : Calls Try.prog 14 #[.pointer (some ⟨g, 0, none⟩), .int .u64 268439552, .int .i64 4] w fun e w' => e = .returned (.tuple #[.int .u64 1953655158, .bool true]) ∧ KpN w w' := by
  have HP := Aside0.mk (part_m g m B n size pg M w hI hR hs)
  obtain ⟨cs, b, d, t, rg, off, qb, A, n2, c, h1, h2, h3, h4, h5, h6⟩ := hI.ex
  have H1 := Aside0.mk h1; have H3 := Aside0.mk h3; have H5 := Aside0.mk h5; have H6 := Aside0.mk h6
  clear h1 h2 h3 h4 h5 h6 hR hI hs
  go_enter Try.func14, Try.ntmps14
  go_wp2_with (first
    | (go_at_call 29; refine HP.out.mono ?_; rintro e w1 ⟨rfl, hk⟩; have HK := Aside0.mk hk; have c3 : w1.cell? ⟨g, 43, none⟩ = some (.pointer (some ⟨b, 0, none⟩)) := ((H1.out.kp hk (fun h => h)).c 43).trans H3.out; have c0 : w1.cell? ⟨b, 0, none⟩ = some (.pointer (some ⟨rg, 0, none⟩)) := (H5.out.kp hk (fun h => h)).c 0; clear hk)
    | (go_at_call 33; refine (rload_m rg qb off _ _ (H6.out.kp HK.out (fun h => h))).mono ?_; rintro e w2 ⟨rfl, hk2⟩; have HK2 := Aside0.mk hk2; clear hk2))
  go_ret2
  exact ⟨rfl, HK.out.trans HK2.out⟩
end Go.Proofs.Ytnompdckpenfgaa.H
