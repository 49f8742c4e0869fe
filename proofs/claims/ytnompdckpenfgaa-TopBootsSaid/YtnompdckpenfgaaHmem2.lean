/- A machine's memory (package ram), walked by hand: a byte is written. -/
import Derived.Test.YtnompdckpenfgaaHmem
namespace Go.Proofs.Ytnompdckpenfgaa.H
open Go.RowKit Go.Proofs.YtnompdckpenfgaaW.PrintWords Go.Proofs.YtnompdckpenfgaaW.PrintLast Go.Proofs.Ytnompdckpenfgaa.PAl Go.Proofs.Ytnompdckpenfgaa.Pure Go.Proofs.Ytnompdckpenfgaa.Vw
set_option linter.unusedVariables false
set_option linter.unusedSimpArgs false
open Go.Maps (Keyed)
theorem zPage_at {j : Nat} (h : j < 4096) : zPage[j]? = some (.int .u8 0) := by simp [zPage, h]
theorem putB_same {M : Nat → Nat} {o v : Nat} (h : M o = v) : putB M o v = M := funext fun x => by
  unfold putB; split
  · next e => rw [e, h]
  · rfl
theorem putB_byt {M : Nat → Nat} (h : ∀ o, M o < 256) (o : Nat) {v : Nat} (hv : v < 256) : ∀ x, putB M o v x < 256 := fun x => by
  unfold putB; split
  · exact hv
  · exact h x
/-- Where memory may lie then. -/
def memTo (w : World) (g B : Nat) (pg pg' : Nat → Option Nat) : Prop := ∀ i, memB g B pg' i → memB g B pg i ∨ w.heap.size ≤ i
theorem memTo.refl (w : World) (g B : Nat) (pg : Nat → Option Nat) : memTo w g B pg pg := fun _ h => .inl h
theorem Rm.store {w : World} {g B n size pg M} (h : Rm w g B n size pg M) {K b J v : Nat} (hp : pg K = some b) (hJ : J < 4096) (hv : v < 256) :
    Rm (w.setCell ⟨b, J, none⟩ (.int .u8 (v : Int))) g B n size pg (putB M (K * 4096 + J) v) := by
  have k : Kp w (w.setCell ⟨b, J, none⟩ (.int .u8 (v : Int))) (fun i => i = b) := (Kp.refl w (fun i => i = b)).setCell (p := ⟨b, J, none⟩) (.inl rfl) _
  have hga := h.ga K b hp
  refine ⟨h.blk.kp k (fun e : g = b => hga.1 e.symm), h.map.kp k (fun e : B = b => hga.2 e.symm), fun k' b' hb => ?_, fun k' hk' j hj => ?_, putB_byt h.byt _ hv, h.gB, h.ga, h.inj⟩
  · by_cases e : k' = K
    · subst e
      obtain rfl : b = b' := Option.some.inj (hp.symm.trans hb)
      rw [← pageC_put M k' J v hJ]
      exact blk_set (h.pag k' b hp) J _
    · rw [pageC_other M K k' J v hJ e]
      exact (k.block b' (blk_lt (h.pag k' b' hb)) (fun q : b' = b => e (h.inj k' K b (q ▸ hb) hp))).trans (h.pag k' b' hb)
  · have : ¬ k' * 4096 + j = K * 4096 + J := fun e => by
      have : k' = K := by omega
      rw [this, hp] at hk'; cases hk'
    unfold putB; rw [if_neg this]; exact h.non k' hk' j hj
/-- A new page. -/
theorem Rm.page {w w1 : World} {g B n size pg M} (h : Rm w g B n size pg M) {K q : Nat} (hp : pg K = none) (hq : w1.heap[q]? = some (.cells zPage GT (0, 0))) (hB : PMap Try.prog 22 w1 B (n + 1) (fun j => if j = K then some q else pg j)) (k : Kp w w1 (fun i => i = B)) (hnew : ∀ i, memB g B pg i → q ≠ i) :
    Rm w1 g B (n + 1) size (fun j => if j = K then some q else pg j) M := by
  refine ⟨h.blk.kp k h.gB, hB, fun k' b' hb => ?_, fun k' hk' j hj => ?_, h.byt, h.gB, fun k' b' hb => ?_, fun k1 k2 b' h1 h2 => ?_⟩
  · split at hb
    · next e => subst e; cases hb; rw [← zPage_eq M k' (h.non k' hp)]; exact hq
    · exact (k.block b' (blk_lt (h.pag k' b' hb)) (fun q : b' = B => (h.ga k' b' hb).2 q)).trans (h.pag k' b' hb)
  · split at hk'
    · cases hk'
    · exact h.non k' hk' j hj
  · split at hb
    · cases hb
      exact ⟨hnew g (.inl rfl), hnew B (.inr (.inl rfl))⟩
    · exact h.ga k' b' hb
  · split at h1
    · next e1 =>
      split at h2
      · next e2 => rw [e1, e2]
      · cases h1; exact absurd rfl (hnew _ (.inr (.inr ⟨k2, h2⟩)))
    · split at h2
      · cases h2; exact absurd rfl (hnew _ (.inr (.inr ⟨k1, h1⟩)))
      · exact h.inj k1 k2 b' h1 h2
def setPost (g B n size : Nat) (pg : Nat → Option Nat) (M : Nat → Nat) (off v : Nat) (w : World) (e : Ending) (w' : World) : Prop :=
  e = .returned (.tuple #[]) ∧ ∃ pg', Rm w' g B (n + 1) size pg' (putB M off v) ∧ Kp w w' (memB g B pg) ∧ memTo w g B pg pg'
set_option maxHeartbeats 8000000 in
set_option maxRecDepth 100000 in
theorem set_m (g B n size : Nat) (pg : Nat → Option Nat) (M : Nat → Nat) (off v : Nat) (w : World) (hI : Rm w g B n size pg M) (ho : off < 268435456) (hv : v < 256) (hn : n ≤ 1000000) :
    Calls Try.prog 35 #[.pointer (some ⟨g, 0, none⟩), .int .u64 ((2147483648 + off : Nat) : Int), .int .u8 (v : Int)] w (setPost g B n size pg M off v w) := by
  obtain ⟨K, J, rfl, hJ⟩ : ∃ K J, off = K * 4096 + J ∧ J < 4096 := ⟨off / 4096, off % 4096, by omega, by omega⟩
  obtain ⟨at_, hat⟩ : ∃ at_ : Int, ((2147483648 + (K * 4096 + J) : Nat) : Int) = at_ := ⟨_, rfl⟩
  obtain ⟨of_, hof⟩ : ∃ of_ : Int, ((K * 4096 + J : Nat) : Int) = of_ := ⟨_, rfl⟩
  have e0 : IntKind.u64.wrap (at_ - 2147483648) = of_ := by rw [IntKind.wrap_u64]; omega
  have e1 : of_ / 4096 = (K : Int) := by omega
  have e2 : of_ % 4096 = (J : Int) := by omega
  have e1t : of_.tdiv 4096 = (K : Int) := by rw [Int.tdiv_eq_ediv_of_nonneg (by omega)]; exact e1
  have e2t : of_.tmod 4096 = (J : Int) := by rw [Int.tmod_eq_emod_of_nonneg (by omega)]; exact e2
  have eK : IntKind.u64.wrap (K : Int) = (K : Int) := u64_nat K (by omega)
  have eJ : IntKind.u64.wrap (J : Int) = (J : Int) := u64_nat J (by omega)
  have c1 := hI.c1
  rw [hat]
  clear hat
  have j0 : (0 : Int) ≤ (J : Int) := by omega
  have j1 : (J : Int) < 4096 := by omega
  have HK : Aside0 (K < 18446744073709551616) := ⟨by omega⟩
  have HN : Aside0 (n < maxLen) := ⟨by unfold maxLen; omega⟩
  have hM := Aside0.mk hI
  have HJ := Aside0.mk hJ
  have HV := Aside0.mk hv
  have hlt := Aside0.mk (hI.lt)
  clear hof ho hJ hI hv hn
  cases hp : pg K with
  | some b =>
    have cb := blk_cell (hM.out.pag K b hp) J
    rw [pageC_at M K J (by omega)] at cb
    have fb : w.frozen? ⟨b, J, none⟩ = false := blk_frozen (hM.out.pag K b hp) J
    have HP := Aside0.mk hp
    clear hp
    go_enter Try.func35, Try.ntmps35
    go_wp2_with ((with_reducible refine gate_dst (N := 17) rfl ?_); refine lk_ev rfl _ _ _ 22 121 rfl B n pg K rfl rfl hM.out.map keyed64 Try.underlying22 Try.underlying93 (zeroPP _) HK.out (.tuple #[.pointer (some ⟨b, 0, none⟩), .bool true]) (by rw [HP.out]) ?_)
    first | go_end0 | ((try simp only [Exit.inBlock, Exit.then]); refine bodyPost_ret (results_none rfl _ _ _) rfl ?_)
    exact ⟨rfl, pg, (hM.out.store HP.out HJ.out HV.out).mono (by omega), (Kp.refl _ _).setCell (p := ⟨b, J, none⟩) (.inl (.inr (.inr ⟨K, HP.out⟩))) _, memTo.refl _ _ _ _⟩
  | none =>
    have HP := Aside0.mk hp
    have H0 : Aside0 (M (K * 4096 + J) = 0) := ⟨hM.out.non K hp J (by omega)⟩
    clear hp
    by_cases h0 : v = 0
    · subst h0
      go_enter Try.func35, Try.ntmps35
      go_wp2_with ((with_reducible refine gate_dst (N := 17) rfl ?_); refine lk_ev rfl _ _ _ 22 121 rfl B n pg K rfl rfl hM.out.map keyed64 Try.underlying22 Try.underlying93 (zeroPP _) HK.out (.tuple #[.pointer none, .bool false]) (by rw [HP.out]) ?_)
      first | go_end0 | ((try simp only [Exit.inBlock, Exit.then]); refine bodyPost_ret (results_none rfl _ _ _) rfl ?_)
      refine ⟨rfl, pg, ?_, Kp.refl _ _, memTo.refl _ _ _ _⟩
      rw [putB_same H0.out]
      exact hM.out.mono (by omega)
    · have t0 : ((v : Int) == 0) = false := beq_eq_false_iff_ne.2 (by omega)
      clear h0
      go_enter Try.func35, Try.ntmps35
      go_wp2_with (first
        | ((with_reducible refine gate_dst (N := 17) rfl ?_); refine lk_ev rfl _ _ _ 22 121 rfl B n pg K rfl rfl hM.out.map keyed64 Try.underlying22 Try.underlying93 (zeroPP _) HK.out (.tuple #[.pointer none, .bool false]) (by rw [HP.out]) ?_)
        | ((with_reducible refine gate_dst (N := 24) rfl ?_); refine bd_ev rfl rfl zPage buildG ?_)
        | (((with_reducible refine gate_dst (N := 25) rfl ?_); refine bx_ev rfl rfl (N := 25) rfl (zPage) rfl ?_; intro q hg_q w1 hb_q hk_q; have Hg_q := Aside0.mk hg_q; clear hg_q); have hM1 := hM.out.kpN hk_q; have d1 := hM1.c1)
        | (at_mapUpdate; refine up_ev rfl _ _ _ 93 22 121 rfl rfl B n pg K q rfl rfl rfl hM1.map keyed64 Try.underlying22 Try.underlying93 HN.out HK.out ?_; intro w2 hB2 k2; have hqB : q ≠ B := (by have := Hg_q.out; have := hM.out.map.lt; omega); have hq2 := (k2.block q (blk_lt hb_q) hqB).trans hb_q; have hM2 := hM1.page HP.out hq2 hB2 k2 (fun i hi => by have := Hg_q.out; have := hlt.out i hi; omega); have cq : w2.cell? ⟨q, J, none⟩ = some (.int .u8 0) := (blk_cell hq2 J).trans (zPage_at HJ.out); have fq := blk_frozen hq2 J))
      first | go_end0 | ((try simp only [Exit.inBlock, Exit.then]); refine bodyPost_ret (results_none rfl _ _ _) rfl ?_)
      have hqw : w.heap.size ≤ q := by have := Hg_q.out; omega
      refine ⟨rfl, _, hM2.store (b := q) (if_pos rfl) HJ.out HV.out, ?_, ?_⟩
      · exact ((hk_q.mono fun _ _ h => h.elim).then k2 fun i hi (e : i = B) => .inr (.inl e)).setCell (p := ⟨q, J, none⟩) (.inr hqw) _
      · rintro i (e | e | ⟨k, hk⟩)
        · exact .inl (.inl e)
        · exact .inl (.inr (.inl e))
        · have hk' : (if k = K then some q else pg k) = some i := hk
          split at hk'
          · cases hk'; exact .inr hqw
          · exact .inl (.inr (.inr ⟨k, hk'⟩))
end Go.Proofs.Ytnompdckpenfgaa.H
