/- Memories copied (ram.Copy). -/
import Derived.Test.YtlhdildnekllhaaHram
namespace Go.Proofs.Ytlhdildnekllhaa.H
open Go.RowKit Go.Proofs.YtlhdildnekllhaaW.PrintWords Go.Proofs.YtlhdildnekllhaaW.PrintLast Go.Proofs.Ytlhdildnekllhaa.PAl Go.Proofs.Ytlhdildnekllhaa.Pure Go.Proofs.Ytlhdildnekllhaa.Vw
set_option linter.unusedVariables false
set_option linter.unusedSimpArgs false
open Go.Maps (Keyed)
theorem pageC_one (M : Nat → Nat) (k : Nat) : (pageC M k).all (·.oneCell') = true := by
  have gen : ∀ n : Nat, ((Array.range n).map fun j => (Value.int .u8 ((M (k * 4096 + j) : Nat) : Int))).all (·.oneCell') = true := fun n => by
    rw [Array.all_eq_true]
    intro i hi
    rw [Array.getElem_map]; rfl
  exact gen 4096
theorem Rc.kpS {w w' : World} {g B n size pg M} {S : Nat → Prop} (h : Rc w g B n size pg M) (q : Kp w w' S) (hg : ¬ S g) (hB : ¬ S B) (hp : ∀ k b, k < 18446744073709551616 → pg k = some b → ¬ S b) : Rc w' g B n size pg M :=
  ⟨h.blk.kp q hg, h.map.kp q hB, fun k b hk hb => (q.block b (blk_lt (h.pag k b hk hb)) (hp k b hk hb)).trans (h.pag k b hk hb)⟩
theorem Rc.mono {w : World} {g B n n' size pg M} (h : Rc w g B n size pg M) (hn : n ≤ n') : Rc w g B n' size pg M := ⟨h.blk, h.map.mono hn, h.pag⟩
/-- The copy under way: at world W, begun at w. -/
structure CI (w W : World) (h B2 r B n N size : Nat) (pg pg2 : Nat → Option Nat) (M : Nat → Nat) (left : Lit → Bool) (cnt : Nat) : Prop where
  kp : KpN w W
  ran : PRan Try.prog 23 W B r n pg left cnt
  le : cnt ≤ N
  rc : Rc W h B2 (N - cnt) size pg2 M
  w2 : w.heap.size ≤ B2
  b2 : B2 < h
  hr : h < r
  pn : ∀ k b, k < 18446744073709551616 → pg2 k = some b → r < b
  cov : ∀ k b, k < 18446744073709551616 → pg k = some b → left (.int .u64 (k : Int)) = true ∨ ∃ b', pg2 k = some b'
  sub : ∀ k b, k < 18446744073709551616 → pg2 k = some b → ∃ b', pg k = some b'
/-- What Copy answers. -/
def copyPost (g B n size : Nat) (pg : Nat → Option Nat) (M : Nat → Nat) (w : World) : Ending → World → Prop := fun e w' => ∃ g2 B2 n2 pg2, e = .returned (.pointer (some ⟨g2, 0, none⟩)) ∧ Rc w' g2 B2 n2 size pg2 M ∧ KpN w w' ∧
  (∀ k b, k < 18446744073709551616 → pg k = some b → ∃ b', pg2 k = some b') ∧ (∀ k b, k < 18446744073709551616 → pg2 k = some b → ∃ b', pg k = some b')
theorem CI.done {w W h B2 r B n N size pg pg2 M left} {g : Nat} (q : CI w W h B2 r B n N size pg pg2 M left 0) (hl : ∀ kl, left kl = false) : copyPost g B n size pg M w (.returned (.pointer (some ⟨h, 0, none⟩))) W :=
  ⟨h, B2, _, pg2, rfl, q.rc, q.kp, fun k b hk hb => by
    rcases q.cov k b hk hb with e | e
    · rw [hl] at e; cases e
    · exact e, q.sub⟩
theorem CI.step {w W W2 W3 W4 W5 : World} {h B2 r B n N size pg pg2 M left cnt} (q : CI w W h B2 r B n N size pg pg2 M left cnt) (hB : B < w.heap.size) {i b cnt2 p : Nat} (hi : i < 18446744073709551616) (hp : pg i = some b)
    (ran2 : PRan Try.prog 23 W2 B r n pg (fun z => left z && !z.sameKey (.int .u64 (i : Int))) cnt2) (lt : cnt2 < cnt) (k2 : Kp W W2 (fun j => j = r)) (s2 : W2.heap.size = W.heap.size)
    (k3 : KpN W2 W3) (hpW : W2.heap.size ≤ p) (k4 : Kp W3 W4 (fun j => j = p)) (h4 : W4.heap[p]? = some (.cells (pageC M i) GT (0, 0)))
    (m5 : PMap Try.prog 23 W5 B2 (N - cnt + 1) (fun j => if j = i then some p else pg2 j)) (k5 : Kp W4 W5 (fun j => j = B2)) :
    CI w W5 h B2 r B n N size pg (fun j => if j = i then some p else pg2 j) M (fun z => left z && !z.sameKey (.int .u64 (i : Int))) cnt2 := by
  have hrW := q.ran.lt
  have h1 := q.w2
  have h2 := q.b2
  have h3 := q.hr
  have s3 := k3.size
  have s4 := k4.size
  have le := q.le
  have kw := q.kp.size
  have A2 : KpN w W2 := q.kp.then k2 fun j hj (e : j = r) => by omega
  have A3 := A2.trans k3
  have A4 : KpN w W4 := A3.then k4 fun j hj (e : j = p) => by omega
  have A5 : KpN w W5 := A4.then k5 fun j hj (e : j = B2) => by omega
  have r3 := ran2.kp k3 (fun h => h) (fun h => h)
  have r4 := r3.kp k4 (fun e : B = p => by omega) (fun e : r = p => by omega)
  have r5 := r4.kp k5 (fun e : B = B2 => by omega) (fun e : r = B2 => by omega)
  have rc2 := q.rc.kpS k2 (fun e : h = r => by omega) (fun e : B2 = r => by omega) (fun k b hk hb (e : b = r) => by have := q.pn k b hk hb; omega)
  have old : ∀ k b, k < 18446744073709551616 → pg2 k = some b → b < W2.heap.size := fun k b hk hb => blk_lt (rc2.pag k b hk hb)
  have rc3 := rc2.kpN k3
  have rc4 := rc3.kpS k4 (fun e : h = p => by omega) (fun e : B2 = p => by omega) (fun k b hk hb (e : b = p) => by have := old k b hk hb; omega)
  refine ⟨A5, r5, by omega, ⟨rc4.blk.kp k5 (fun e : h = B2 => by omega), m5.mono (by omega), fun k b' hk hb => ?_⟩, h1, h2, h3, fun k b' hk hb => ?_, fun k b' hk hb => ?_, fun k b' hk hb => ?_⟩
  · split at hb
    · next e =>
      subst e; cases hb
      exact (k5.block p (blk_lt h4) (fun e : p = B2 => by omega)).trans h4
    · have := q.pn k b' hk hb
      have hb4 := rc4.pag k b' hk hb
      exact (k5.block b' (blk_lt hb4) (fun e : b' = B2 => by omega)).trans hb4
  · split at hb
    · cases hb; omega
    · exact q.pn k b' hk hb
  · by_cases e : k = i
    · subst e; exact .inr ⟨p, if_pos rfl⟩
    · rcases q.cov k b' hk hb with l | l
      · refine .inl ?_
        have : (Lit.int .u64 (k : Int)).sameKey (.int .u64 (i : Int)) = false := Go.Maps.sameKey_ne (by intro x; injection x with x1 x2; omega)
        rw [l, this]; rfl
      · exact .inr ⟨l.choose, by rw [if_neg e]; exact l.choose_spec⟩
  · split at hb
    · next e => subst e; exact ⟨b, hp⟩
    · exact q.sub k b' hk hb
set_option maxHeartbeats 8000000 in
set_option maxRecDepth 100000 in
theorem copy_c (g B n size : Nat) (pg : Nat → Option Nat) (M : Nat → Nat) (w : World) (hI : Rc w g B n size pg M) (hn : n < maxLen) :
    Calls Try.prog 18 #[.pointer (some ⟨g, 0, none⟩)] w (copyPost g B n size pg M w) := by
  have hmm := @Go.RowKit.run_makeMap Try.prog
  have c0 : w.cell? ⟨g, 0, none⟩ = some (.int .u64 (size : Int)) := hI.blk.c 0
  have HI := Aside0.mk hI
  have HB := Aside0.mk hI.map.lt
  have Hn := Aside0.mk hn
  clear hI hn
  go_enter Try.func18, Try.ntmps18
  go_wp2_with (first
    | (((with_reducible refine gate_dst (N := 13) rfl ?_); refine bx_ev rfl rfl (N := 13) rfl (#[.int .u64 (size : Int), .map (some w.heap.size), .pointer none]) rfl ?_; intro h hg_h w2 hb_h hk_h; have Hg_h := Aside0.mk hg_h; clear hg_h); have K2 : KpN w w2 := ((Kp.refl w (fun _ => False)).alloc _).trans hk_h; have d1 : w2.cell? ⟨g, 1, none⟩ = some (.map (some B)) := (HI.out.kpN K2).blk.c 1)
    | ((with_reducible refine gate_dst (N := 18) rfl ?_); refine rg_ev rfl _ _ _ rfl B n pg rfl (HI.out.kpN K2).map keyed64 Try.underlying81 ?_; intro r hr w3 left0 N hran0 hk0 hc0 hl0; have Hr := Aside0.mk hr; have Hc := Aside0.mk hc0; have Hl := Aside0.mk hl0; clear hr hc0 hl0))
  go_frame
  have HK := Aside0.mk hk_h
  have hBh : Aside0 (w.heap.size < h) := ⟨by have := Hg_h.out; have e : (w.alloc (.map #[] 0)).heap.size = w.heap.size + 1 := (by simp); omega⟩
  have hhr : Aside0 (h < r) := ⟨by have := Hr.out; have := blk_lt hb_h; omega⟩
  have mp : PMap Try.prog 23 w3 w.heap.size 0 (fun _ => none) := ((PMap.made w).kp HK.out (fun h => h)).kp hk0 (fun h => h)
  have I0 : CI w w3 h w.heap.size r B n N size pg (fun _ => none) M left0 N := ⟨K2.trans hk0, hran0, Nat.le_refl _, ⟨⟨(hk0.block h (blk_lt hb_h) (fun h => h)).trans hb_h⟩, mp.mono (by omega), fun _ _ _ h => (by cases h)⟩, Nat.le_refl _, hBh.out, hhr.out, fun _ _ _ h => (by cases h), fun k b hk hb => .inl (Hl.out k hk (by rw [hb]; intro e; cases e)), fun _ _ _ h => (by cases h)⟩
  have I00 := Aside0.mk I0
  clear hb_h hk_h d1 K2 hran0 hk0 mp I0 c0
  go_loopw [4] (fun _ W => ∃ left cnt pg2, Aside0 (CI w W h w.heap.size r B n N size pg pg2 M left cnt)) (fun _ W => W.rangeLeft B r)
  case atStart => exact ⟨_, _, _, I00⟩
  case round =>
    obtain ⟨left, cnt, pg2, q⟩ := hrel
    have cntN : Aside0 (N - cnt < maxLen) := ⟨by have := Hc.out; have := Hn.out; omega⟩
    go_wp2_with ((with_reducible refine gate_dst (N := 19) rfl ?_); refine nx_ev rfl _ rfl keyed64 Try.underlying23 B r n pg left cnt rfl q.out.ran ?_ ?_)
    · intro hc hl
      subst hc
      have qd := Aside0.mk (q.out.done (g := g) hl)
      go_wp2
      go_ret
      exact qd.out
    · intro i b w4 cnt2 hi hpg hlf hran2 hlt hk2 hsz hen
      have A2 : KpN w w4 := q.out.kp.then hk2 fun j hj (e : j = r) => by have := hhr.out; have := hBh.out; omega
      have X := (HI.out.kpN A2).pag i b hi hpg
      have rc2 := q.out.rc.kpS hk2 (fun e : h = r => by have := hhr.out; omega) (fun e : w.heap.size = r => by have := hhr.out; have := hBh.out; omega) (fun k b hk hb (e : b = r) => by have := q.out.pn k b hk hb; omega)
      have c1 : w4.cell? ⟨h, 1, none⟩ = some (.map (some w.heap.size)) := rc2.blk.c 1
      have RC := Aside0.mk rc2
      have Hi := Aside0.mk hi
      have Hp := Aside0.mk hpg
      have R2 := Aside0.mk hran2
      have LT := Aside0.mk hlt
      have KK := Aside0.mk hk2
      have SZ := Aside0.mk hsz
      clear hi hpg hlf hran2 hlt hk2 hsz rc2 A2
      go_wp2_with (first
        | ((with_reducible refine gate_dst (N := 26) rfl ?_); refine wpList_load_row rfl GT _ rfl b rfl _ (pageC M i) (0, 0) _ X Try.underlying87 rfl (by rw [pageC_size]; exact infoG) ?_)
        | (((with_reducible refine gate_dst (N := 6) rfl ?_); refine al_ev rfl rfl (N := 6) rfl _ (zeroG _) ?_; intro p hg_p w5 hb_p hk_p; have Hg_p := Aside0.mk hg_p; clear hg_p); have l5 := blk_lt hb_p)
        | ((with_reducible refine gate_store (t := GT) (p := 6) rfl ?_); refine st_ev rfl rfl rfl p (pageC M i) _ _ rfl rfl hb_p (by rw [pageC_size]; exact infoG) (by rw [pageC_size]; rfl) (pageC_one M i) ?_; intro w6 hs6 ks6; have RC6 : Rc w6 h w.heap.size (N - cnt) size pg2 M := (RC.out.kpN hk_p).kpS ks6 (fun e : h = p => by have := Hg_p.out; have := blk_lt RC.out.blk.blk; omega) (fun e : w.heap.size = p => by have := Hg_p.out; have := RC.out.map.lt; omega) (fun k b hk hb (e : b = p) => by have := Hg_p.out; have := blk_lt (RC.out.pag k b hk hb); omega); have c2 : w6.cell? ⟨h, 1, none⟩ = some (.map (some w.heap.size)) := RC6.blk.c 1)
        | (at_mapUpdate; refine up_ev rfl _ _ _ 81 23 85 rfl rfl w.heap.size (N - cnt) pg2 i p rfl rfl rfl RC6.map keyed64 Try.underlying23 Try.underlying81 cntN.out Hi.out ?_; intro w7 hB7 k7))
      have fin := q.out.step HB.out Hi.out Hp.out R2.out LT.out KK.out SZ.out hk_p (Nat.le_of_eq Hg_p.out.symm) ks6 hs6 hB7 k7
      go_roundw
      case rel => exact ⟨_, _, _, ⟨fin⟩⟩
      case measure => rw [fin.ran.left_eq, q.out.ran.left_eq]; exact LT.out
end Go.Proofs.Ytlhdildnekllhaa.H
