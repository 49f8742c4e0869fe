/- Memories compared (ram.under, ram.Same). -/
import Derived.Test.YtlhdildnekllhaaHran
import Derived.Test.YtlhdildnekllhaaHslots3
namespace Go.Proofs.Ytlhdildnekllhaa.H
open Go.RowKit Go.Proofs.YtlhdildnekllhaaW.PrintWords Go.Proofs.YtlhdildnekllhaaW.PrintLast Go.Proofs.Ytlhdildnekllhaa.PAl Go.Proofs.Ytlhdildnekllhaa.Pure Go.Proofs.Ytlhdildnekllhaa.Vw
set_option linter.unusedVariables false
set_option linter.unusedSimpArgs false
open Go.Maps (Keyed)
/-- A memory as far as its map is asked. -/
structure Rc (w : World) (g B n size : Nat) (pg : Nat → Option Nat) (M : Nat → Nat) : Prop where
  blk : Bk w g #[.int .u64 (size : Int), .map (some B), .pointer none] QT
  map : PMap Try.prog 23 w B n pg
  pag : ∀ k b, k < 18446744073709551616 → pg k = some b → w.heap[b]? = some (.cells (pageC M k) GT (0, 0))
theorem Rm.rc {w : World} {g B n size pg M} (h : Rm w g B n size pg M) : Rc w g B n size pg M := ⟨h.blk, h.map, fun k b _ hb => h.pag k b hb⟩
theorem Rc.kpN {w w' : World} {g B n size pg M} (h : Rc w g B n size pg M) (q : KpN w w') : Rc w' g B n size pg M :=
  ⟨h.blk.kp q (fun h => h), h.map.kp q (fun h => h), fun k b hk hb => (q.block b (blk_lt (h.pag k b hk hb)) (fun h => h)).trans (h.pag k b hk hb)⟩
theorem guardG : Try.prog.eqGuardType Try.prog.depth GT = false := by kernel_rfl
theorem eqPage (M : Nat → Nat) (k : Nat) (W : World) : (Op.equalIn 10000 GT (.agg (pageC M k)) (.agg (pageC M k))).run Try.prog W = .ok true W :=
  eqSelf8 W 9998 Try.underlying87 Try.underlying5 (by kernel_rfl) _ _ (fun i hi => pageC_at M k i hi)
theorem nq_of {P : Program} {T : TypeId} {W : World} {c : Array Value} (hg : P.eqGuardType P.depth T = false) (h : (Op.equal T (.agg c) (.agg c)).run P W = .ok true W) (x y : Operand) :
    (do eqGuard .neq T x y (.agg c) (.agg c); binOp .neq T (.agg c) (.agg c) : Sem Value).run P W = .ok (.bool false) W := by
  have e1 : (eqGuard .neq T x y (.agg c) (.agg c)).run P W = .ok () W := by
    simp [eqGuard, hg]
  have e2 : binOp .neq T (.agg c) (.agg c) = (do pure (.bool (!(← Op.equal T (.agg c) (.agg c)))) : Sem Value) := rfl
  rw [Sem.run_bind, e1, Result.andThen_ok, e2, Sem.run_bind, h, Result.andThen_ok]
  rfl
theorem nqPage (M : Nat → Nat) (k : Nat) (W : World) (x y : Operand) : (do eqGuard .neq GT x y (.agg (pageC M k)) (.agg (pageC M k)); binOp .neq GT (.agg (pageC M k)) (.agg (pageC M k)) : Sem Value).run Try.prog W = .ok (.bool false) W :=
  nq_of guardG (eqPage M k W) x y
theorem sS_nil {P : Program} {ops : Array Oper} {Q : Exit → Act → World → Prop} {o : Oper} {F : Value → World → Prop} {a : Act} {w : World} (hg : o.guard = none) {x : Operand} (ho : o.op = .nilCheck x) (p : Addr) (hx : a.eval x = .pointer (some p)) (hF : F (.pointer (some p)) w) : stepS P ops Q o F a w :=
  sS_run hg _ w (by unfold execOp; simp only [ho, hx]; rfl) hF
theorem wp_bin {P : Program} {Q : Exit → Act → World → Prop} {o : Oper} {a : Act} {w : World} {K : Act → World → Prop} {b : BinOp} {t t2 : TypeId} {x y : Operand} (ho : o.op = .binOp b t x y t2) (N : Tmp) (hd : o.dst = some N) (vx vy v : Value) (hx : a.eval x = vx) (hy : a.eval y = vy)
    (hrun : (do eqGuard b t x y vx vy; binOp b t vx vy : Sem Value).run P w = .ok v w) (h : K (a.put (some N) v) w) : o.wp P a w K Q := by
  have hr : (execOp a.eval o).run P w = .ok (.value v) w := by
    unfold execOp
    simp only [ho, hx, hy]
    rw [Sem.run_bind, hrun]; rfl
  unfold Oper.wp
  rw [hr]
  rw [← hd] at h
  exact h
def dU (i : Nat) : Tmp := match i with | 0 => 32 | 1 => 33 | 2 => 34 | 3 => 35 | 4 => 36 | 5 => 37 | _ => 38
def vU (b b' : Nat) (c : Array Value) (i : Nat) : Value := match i with | 0 => .pointer (some ⟨b, 0, none⟩) | 1 => .pointer (some ⟨b, 0, none⟩) | 2 => .agg c | 3 => .pointer (some ⟨b', 0, none⟩) | 4 => .pointer (some ⟨b', 0, none⟩) | 5 => .agg c | _ => .bool false
set_option maxHeartbeats 8000000 in
set_option maxRecDepth 100000 in
theorem under_c (g B n size : Nat) (pg : Nat → Option Nat) (M : Nat → Nat) (g' B' n' : Nat) (pg' : Nat → Option Nat) (w : World) (hI : Rc w g B n size pg M) (hI' : Rc w g' B' n' size pg' M)
    (hsub : ∀ k b, k < 18446744073709551616 → pg k = some b → ∃ b', pg' k = some b') :
    Calls Try.prog 40 #[.pointer (some ⟨g, 0, none⟩), .pointer (some ⟨g', 0, none⟩)] w fun e w' => e = .returned (.bool true) ∧ KpN w w' := by
  have c1 : w.cell? ⟨g, 1, none⟩ = some (.map (some B)) := hI.blk.c 1
  have HI := Aside0.mk hI
  have HI' := Aside0.mk hI'
  have HS := Aside0.mk hsub
  clear hI hI' hsub
  go_enter Try.func40, Try.ntmps40
  go_wp2_with ((with_reducible refine gate_dst (N := 13) rfl ?_); refine rg_ev rfl _ _ _ rfl B n pg rfl HI.out.map keyed64 Try.underlying81 ?_; intro r hr w1 left0 cnt0 hran0 hk0 hc0 hl0; have Hr := Aside0.mk hr; clear hr hc0 hl0)
  go_frame
  go_loopw [5] (fun _ W => ∃ left cnt, Aside0 (PRan Try.prog 23 W B r n pg left cnt ∧ KpN w W)) (fun _ W => W.rangeLeft B r)
  case atStart => exact ⟨_, _, ⟨hran0, hk0⟩⟩
  case round =>
    obtain ⟨left, cnt, hRW⟩ := hrel
    go_wp2_with ((with_reducible refine gate_dst (N := 14) rfl ?_); refine nx_ev rfl _ rfl keyed64 Try.underlying23 B r n pg left cnt rfl hRW.out.1 ?_ ?_)
    · intro hc hl
      go_wp2
      go_ret
      exact ⟨rfl, hRW.out.2⟩
    · intro i b w2 cnt2 hi hpg hlf hran2 hlt hk2 hsz hen
      obtain ⟨b', hb'⟩ := HS.out i b hi hpg
      have K2 : KpN w w2 := hRW.out.2.then hk2 fun j hj (e : j = r) => by have := Hr.out; omega
      have c2 : w2.cell? ⟨g', 1, none⟩ = some (.map (some B')) := (HI'.out.kpN K2).blk.c 1
      have R2 := Aside0.mk hran2
      have X := Aside0.mk ((HI.out.kpN K2).pag i b hi hpg)
      have X' := Aside0.mk ((HI'.out.kpN K2).pag i b' hi hb')
      have HP := Aside0.mk hb'
      have Hi := Aside0.mk hi
      have LT := Aside0.mk hlt
      clear hb' hi hlt hran2 hpg hlf hk2
      go_wp2_with ((with_reducible refine gate_dst (N := 25) rfl ?_); refine lk_ev rfl _ _ _ 23 85 rfl B' n' pg' i rfl rfl (HI'.out.kpN K2).map keyed64 Try.underlying23 Try.underlying81 (zeroPP _) Hi.out (.tuple #[.pointer (some ⟨b', 0, none⟩), .bool true]) (by rw [HP.out]) ?_)
      refine wp_region_vals 6 1 #[true, true, true, true, true, true, false] dU (vU b b' (pageC M i)) (by kernel_rfl) (by kernel_rfl) rfl ?_ ?_ ?_ ?_ ?_
      · intro i o hi ho
        rcases i with _ | _ | _ | _ | _ | _ | i
        all_goals first | (cases ho; rfl) | omega
      · intro i hi
        rcases i with _ | _ | _ | _ | _ | _ | i
        all_goals first | (show (_ : Nat) < 39; decide) | omega
      · intro i j hi hj h
        rcases i with _ | _ | _ | _ | _ | _ | i
        all_goals rcases j with _ | _ | _ | _ | _ | _ | j
        all_goals first | rfl | omega | (exact absurd h (by decide))
      · intro i o hi ho a' W hW hA hdep
        rcases i with _ | _ | _ | _ | _ | _ | i
        · cases ho; exact sS_mv rfl rfl ⟨Kp.refl _ _, hA.old 6 (by decide)⟩
        · cases ho
          have h0 : a'.eval (.tmp 32) = .pointer (some ⟨b, 0, none⟩) := hdep 0 (by decide) (by kernel_rfl)
          exact sS_nil rfl rfl _ h0 ⟨Kp.refl _ _, rfl⟩
        · cases ho
          have h0 : a'.eval (.tmp 33) = .pointer (some ⟨b, 0, none⟩) := hdep 1 (by decide) (by kernel_rfl)
          exact sS_ld rfl rfl b h0 GT _ _ ((hW.block b (blk_lt X.out) (fun h => h)).trans X.out) Try.underlying87 rfl (by rw [pageC_size]; exact infoG) ⟨Kp.refl _ _, rfl⟩
        · cases ho; exact sS_mv rfl rfl ⟨Kp.refl _ _, hA.old 7 (by decide)⟩
        · cases ho
          have h0 : a'.eval (.tmp 35) = .pointer (some ⟨b', 0, none⟩) := hdep 3 (by decide) (by kernel_rfl)
          exact sS_nil rfl rfl _ h0 ⟨Kp.refl _ _, rfl⟩
        · cases ho
          have h0 : a'.eval (.tmp 36) = .pointer (some ⟨b', 0, none⟩) := hdep 4 (by decide) (by kernel_rfl)
          exact sS_ld rfl rfl b' h0 GT _ _ ((hW.block b' (blk_lt X'.out) (fun h => h)).trans X'.out) Try.underlying87 rfl (by rw [pageC_size]; exact infoG) ⟨Kp.refl _ _, rfl⟩
        · omega
      intro w3 hk3
      simp only [putN, dU, vU, Act.put, List.setIfInBounds_toArray, List.set_cons_zero, List.set_cons_succ]
      refine any_1 (i := 6) (by kernel_rfl) rfl rfl (wp_bin rfl 38 rfl (.agg (pageC M i)) (.agg (pageC M i)) (.bool false) rfl rfl (nqPage M i w3 _ _) ?_)
      go_frame
      refine wpAny_done (by kernel_rfl) ?_ _
      have R3 := Aside0.mk (R2.out.kp hk3 (fun h => h) (fun h => h))
      have L3 := R3.out.left_eq
      go_wp2
      go_roundw
      case rel => exact ⟨_, _, ⟨R3.out, K2.trans hk3⟩⟩
      case measure => rw [R3.out.left_eq, hRW.out.1.left_eq]; exact LT.out
def dS (i : Nat) : Tmp := match i with | 0 => 5 | 1 => 6 | 2 => 7 | 3 => 8 | 4 => 9 | 5 => 10 | 6 => 11 | _ => 12
def vS (g g' : Nat) (s : Value) (i : Nat) : Value := match i with | 0 => .pointer (some ⟨g, 0, none⟩) | 1 => .pointer (some ⟨g, 0, none⟩) | 2 => .pointer (some ⟨g, 0, none⟩) | 3 => s | 4 => .pointer (some ⟨g', 0, none⟩) | 5 => .pointer (some ⟨g', 0, none⟩) | 6 => .pointer (some ⟨g', 0, none⟩) | _ => s
theorem faQ (y : Nat) (w : World) : (Instr.fieldAt QT (.pointer (some ⟨y, 0, none⟩)) 0).run Try.prog w = .ok (.pointer (some ⟨y, 0, none⟩)) w := by kernel_rfl
theorem ldQ (p : Addr) (v : Value) (w : World) (h : w.cell? p = some v) : (Instr.loadAt 23 (.pointer (some p))).run Try.prog w = .ok v w := by
  go_simp
theorem nqQ (k : Int) (w : World) (x y : Operand) : (do eqGuard .neq 23 x y (.int .u64 k) (.int .u64 k); binOp .neq 23 (.int .u64 k) (.int .u64 k) : Sem Value).run Try.prog w = .ok (.bool false) w := by
  rw [show (do eqGuard .neq 23 x y (.int .u64 k) (.int .u64 k); binOp .neq 23 (.int .u64 k) (.int .u64 k) : Sem Value).run Try.prog w = .ok (.bool (!(k == k))) w from by kernel_rfl, beq_self_eq_true]
  rfl
set_option maxHeartbeats 8000000 in
set_option maxRecDepth 100000 in
theorem same_m (g B n size : Nat) (pg : Nat → Option Nat) (M : Nat → Nat) (g' B' n' : Nat) (pg' : Nat → Option Nat) (w : World) (hI : Rc w g B n size pg M) (hI' : Rc w g' B' n' size pg' M)
    (h1 : ∀ k b, k < 18446744073709551616 → pg k = some b → ∃ b', pg' k = some b') (h2 : ∀ k b, k < 18446744073709551616 → pg' k = some b → ∃ b', pg k = some b') :
    Calls Try.prog 19 #[.pointer (some ⟨g, 0, none⟩), .pointer (some ⟨g', 0, none⟩)] w fun e w' => e = .returned (.bool true) ∧ KpN w w' := by
  have c0 : w.cell? ⟨g, 0, none⟩ = some (.int .u64 (size : Int)) := hI.blk.c 0
  have c0' : w.cell? ⟨g', 0, none⟩ = some (.int .u64 (size : Int)) := hI'.blk.c 0
  have A : Aside0 (∀ W p q, (p = g ∧ q = g' ∨ p = g' ∧ q = g) → KpN w W → Calls Try.prog 40 #[.pointer (some ⟨p, 0, none⟩), .pointer (some ⟨q, 0, none⟩)] W fun e w' => e = .returned (.bool true) ∧ KpN W w') :=
    ⟨fun W p q hpq hW => by
      rcases hpq with ⟨rfl, rfl⟩ | ⟨rfl, rfl⟩
      · exact under_c p B n size pg M q B' n' pg' W (hI.kpN hW) (hI'.kpN hW) h1
      · exact under_c p B' n' size pg' M q B n pg W (hI'.kpN hW) (hI.kpN hW) h2⟩
  have HI := Aside0.mk hI
  have HI' := Aside0.mk hI'
  clear hI hI' h1 h2 c0 c0'
  go_enter Try.func19, Try.ntmps19
  go_wp2
  refine wp_region_vals 8 1 #[true, true, true, true, true, true, true, true, false] dS (vS g g' (.int .u64 (size : Int))) (by kernel_rfl) (by kernel_rfl) rfl ?_ ?_ ?_ ?_ ?_
  · intro i o hi ho
    rcases i with _ | _ | _ | _ | _ | _ | _ | _ | i
    all_goals first | (cases ho; rfl) | omega
  · intro i hi
    rcases i with _ | _ | _ | _ | _ | _ | _ | _ | i
    all_goals first | (show (_ : Nat) < 22; decide) | omega
  · intro i j hi hj h
    rcases i with _ | _ | _ | _ | _ | _ | _ | _ | i
    all_goals rcases j with _ | _ | _ | _ | _ | _ | _ | _ | j
    all_goals first | rfl | omega | (exact absurd h (by decide))
  · intro i o hi ho a' W hW hA hdep
    rcases i with _ | _ | _ | _ | _ | _ | _ | _ | i
    · cases ho; exact sS_mv rfl rfl ⟨Kp.refl _ _, hA.old 0 (by decide)⟩
    · cases ho
      have h0 : a'.eval (.tmp 5) = .pointer (some ⟨g, 0, none⟩) := hdep 0 (by decide) (by kernel_rfl)
      exact sS_nil rfl rfl _ h0 ⟨Kp.refl _ _, rfl⟩
    · cases ho
      have h0 : a'.eval (.tmp 6) = .pointer (some ⟨g, 0, none⟩) := hdep 1 (by decide) (by kernel_rfl)
      exact sS_fa rfl rfl _ _ h0 (faQ g W) ⟨Kp.refl _ _, rfl⟩
    · cases ho
      have h0 : a'.eval (.tmp 7) = .pointer (some ⟨g, 0, none⟩) := hdep 2 (by decide) (by kernel_rfl)
      exact sS_load rfl rfl _ _ h0 (ldQ _ _ W ((HI.out.kpN hW).blk.c 0)) ⟨Kp.refl _ _, rfl⟩
    · cases ho; exact sS_mv rfl rfl ⟨Kp.refl _ _, hA.old 1 (by decide)⟩
    · cases ho
      have h0 : a'.eval (.tmp 9) = .pointer (some ⟨g', 0, none⟩) := hdep 4 (by decide) (by kernel_rfl)
      exact sS_nil rfl rfl _ h0 ⟨Kp.refl _ _, rfl⟩
    · cases ho
      have h0 : a'.eval (.tmp 10) = .pointer (some ⟨g', 0, none⟩) := hdep 5 (by decide) (by kernel_rfl)
      exact sS_fa rfl rfl _ _ h0 (faQ g' W) ⟨Kp.refl _ _, rfl⟩
    · cases ho
      have h0 : a'.eval (.tmp 11) = .pointer (some ⟨g', 0, none⟩) := hdep 6 (by decide) (by kernel_rfl)
      exact sS_load rfl rfl _ _ h0 (ldQ _ _ W ((HI'.out.kpN hW).blk.c 0)) ⟨Kp.refl _ _, rfl⟩
    · omega
  intro w1 hk1
  simp only [putN, dS, vS, Act.put, List.setIfInBounds_toArray, List.set_cons_zero, List.set_cons_succ]
  refine any_1 (i := 8) (by kernel_rfl) rfl rfl (wp_bin rfl 13 rfl (.int .u64 (size : Int)) (.int .u64 (size : Int)) (.bool false) rfl rfl (nqQ _ w1 _ _) ?_)
  go_frame
  refine wpAny_done (by kernel_rfl) ?_ _
  go_wp2_with (go_at_call 40; refine (A.out _ _ _ (by first | exact .inl ⟨rfl, rfl⟩ | exact .inr ⟨rfl, rfl⟩) hk1).mono ?_; rintro e w2 ⟨rfl, hk2⟩; replace hk1 := Kp.trans hk1 hk2)
  go_ret
  exact ⟨rfl, hk1⟩
end Go.Proofs.Ytlhdildnekllhaa.H
