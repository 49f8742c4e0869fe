/- fdt.Find. -/
import Derived.Test.YtmhlellhfepkkaaHfnode
import Derived.WalkMore
namespace Go.Proofs.Ytmhlellhfepkkaa.PAl
open Go.RowKit Go.Proofs.YtmhlellhfepkkaaW.PrintWords Go.Proofs.YtmhlellhfepkkaaW.PrintLast Go.Proofs.YtmhlellhfepkkaaW.PrintMore Go.Proofs.Ytmhlellhfepkkaa.H Go.Proofs.Ytmhlellhfepkkaa.B
attribute [local go_sem ↓] Go.wp_at_zero Go.wp_at_succ
set_option linter.unusedVariables false
set_option linter.unusedSimpArgs false
def nodeNil : S32 := ⟨⟨#[]⟩, [], []⟩
def findIn (s : ByteArray) : List S32 → Option S32
  | [] => none
  | x :: xs => if x.f0.toList = s.toList then some x else findIn s xs
def findP : List ByteArray → S32 → Option (S32 × Bool)
  | [], n => some (n, true)
  | s :: ss, n => if n.f2.length < 65536 then (match findIn s n.f2 with | some x => findP ss x | none => some (nodeNil, false)) else none
def fdt_Find.f (a0_0 : ByteArray) (l0_1 : List (S74)) (l0_2 : List (S32)) (l1 : List ByteArray) : Option (ByteArray × (List (S74)) × (List (S32)) × Bool) :=
  if l1.length < 65536 then (findP l1 ⟨a0_0, l0_1, l0_2⟩).bind fun q => some (q.1.f0, q.1.f1, q.1.f2, q.2) else none
theorem drop_str {l : List ByteArray} {i : Nat} (h : i < l.length) : l.drop i = rdOf ByteArray.empty l (i : Int) :: l.drop (i + 1) := by
  rw [List.drop_eq_getElem_cons h]; congr 1; simp [rdOf, List.getD, h]
theorem info32n : (Try.prog.info? 32).map (·.size) = some 3 := by kernel_rfl
/-- On the way: the part that the path led to, so far. -/
structure FS (w w' : World) (P : Nat → Prop) (gn gr : Nat) (n : S32) (A1 : Option Addr) (c1 : Nat) (A2 : Option Addr) (c2 : Nat) : Prop where
  v1 : Kd.V k74 74 w w.heap.size P (.slice A1 n.f1.length c1) n.f1
  v2 : Kd.V k32 32 w w.heap.size P (.slice A2 n.f2.length c2) n.f2
  be : Below w.heap.size w w'
  bn : w'.heap[gn]? = some (.cells #[.string n.f0, .slice A1 n.f1.length c1, .slice A2 n.f2.length c2] 32 (0, 0))
  br : w'.heap[gr]? = some (.cells #[.string ⟨#[]⟩, .slice none 0 0, .slice none 0 0] 32 (0, 0))
  ge : w.heap.size ≤ gn ∧ w.heap.size ≤ gr ∧ gn ≠ gr
theorem FS.alloc {w w' : World} {P : Nat → Prop} {gn gr : Nat} {n : S32} {A1 : Option Addr} {c1 : Nat} {A2 : Option Addr} {c2 : Nat} (h : FS w w' P gn gr n A1 c1 A2 c2) (o : Obj) : FS w (w'.alloc o) P gn gr n A1 c1 A2 c2 :=
  ⟨h.v1, h.v2, below_alloc h.be o, blk_alloc h.bn o, blk_alloc h.br o, h.ge⟩
theorem FS.below_set {w w' w3 : World} {P : Nat → Prop} {gn gr : Nat} {n : S32} {A1 : Option Addr} {c1 : Nat} {A2 : Option Addr} {c2 : Nat} (h : FS w w' P gn gr n A1 c1 A2 c2) {g : Nat} (hg : g = gn ∨ g = gr) (hk : Kp w' w3 (fun i => i = g)) : Below w.heap.size w w3 :=
  h.be.trans (hk.below (fun k _ e => by have := h.ge; rcases hg with q | q <;> omega) h.be.size)
theorem put3 {W : World} {g : Nat} {x0 x1 x2 : Value} (h : W.heap[g]? = some (.cells #[x0, x1, x2] 32 (0, 0))) (a b c : Value) :
    (((W.setCell ⟨g, 0, none⟩ a).setCell ⟨g, 1, none⟩ b).setCell ⟨g, 2, none⟩ c).heap[g]? = some (.cells #[a, b, c] 32 (0, 0)) ∧ Kp W (((W.setCell ⟨g, 0, none⟩ a).setCell ⟨g, 1, none⟩ b).setCell ⟨g, 2, none⟩ c) (fun i => i = g) :=
  ⟨blk_put (cs := #[a, b, x2]) (blk_put (cs := #[a, x1, x2]) (blk_put (cs := #[x0, x1, x2]) h 0 _ rfl) 1 _ rfl) 2 _ rfl, (((Kp.refl W (fun i => i = g)).setCell (p := ⟨g, 0, none⟩) (.inl rfl) a).setCell (p := ⟨g, 1, none⟩) (.inl rfl) b).setCell (p := ⟨g, 2, none⟩) (.inl rfl) c⟩
theorem V_kid {w : World} {P : Nat → Prop} {n : S32} {A2 : Option Addr} {c2 : Nat} (h : Kd.V k32 32 w w.heap.size P (.slice A2 n.f2.length c2) n.f2) (i : Nat) (hi : i < n.f2.length) :
    ∃ ad A1' c1' A2' c2', A2 = some ad ∧ w.cell? (ad.add (i * 3)) = some (.string (rd_T32 n.f2 (i : Int)).f0) ∧ w.cell? ⟨(ad.add (i * 3)).block, (ad.add (i * 3)).off + 1, none⟩ = some (.slice A1' (rd_T32 n.f2 (i : Int)).f1.length c1') ∧
      w.cell? ⟨(ad.add (i * 3)).block, (ad.add (i * 3)).off + 2, none⟩ = some (.slice A2' (rd_T32 n.f2 (i : Int)).f2.length c2') ∧
      Kd.V k74 74 w w.heap.size P (.slice A1' (rd_T32 n.f2 (i : Int)).f1.length c1') (rd_T32 n.f2 (i : Int)).f1 ∧ Kd.V k32 32 w w.heap.size P (.slice A2' (rd_T32 n.f2 (i : Int)).f2.length c2') (rd_T32 n.f2 (i : Int)).f2 := by
  obtain ⟨ad, _, _, _, _, e, _⟩ := at_T32 (Kd.V_reads' h).2.2 (i : Int) (by omega) (by omega)
  subst e
  obtain ⟨cs, hcl, hF, hcc⟩ := Kd.V_get h z32 (i : Int) (by omega) (by omega)
  rw [Int.toNat_natCast] at hcc
  obtain ⟨A1', c1', A2', c2', rfl, l1, g1, l2, g2⟩ := k32_openF hF
  refine ⟨ad, A1', c1', A2', c2', rfl, hcc 0 _ rfl, ?_, ?_, Kd.V_mk l1 g1, Kd.V_mk l2 g2⟩
  · have h1 := hcc 1 _ rfl
    rw [add_field _ _ 1 (by omega)] at h1
    exact h1
  · have h2 := hcc 2 _ rfl
    rw [add_field _ _ 2 (by omega)] at h2
    exact h2
set_option maxHeartbeats 400000 in
set_option maxRecDepth 100000 in
theorem fdt_Find.calls (a0_0 : ByteArray) (P0_1_ : Nat → Prop) (A0_1 : Option Addr) (c0_1 : Nat) (l0_1 : List (S74)) (P0_2_ : Nat → Prop) (A0_2 : Option Addr) (c0_2 : Nat) (l0_2 : List (S32)) (A1 : Option Addr) (c1 : Nat) (l1 : List ByteArray) (r1 : ByteArray) (r2 : List (S74)) (r3 : List (S32)) (r4 : Bool) (w : World) (hs0_1 : Kd.V k74 74 w w.heap.size (fun k_ => P0_1_ k_) (.slice A0_1 l0_1.length c0_1) l0_1) (hs0_2 : Kd.V k32 32 w w.heap.size (fun k_ => P0_2_ k_) (.slice A0_2 l0_2.length c0_2) l0_2) (hr1 : Kd.C Kd.string w A1 l1.length l1) (hc1 : l1.length ≤ c1) (h : fdt_Find.f a0_0 l0_1 l0_2 l1 = some (r1, r2, r3, r4)) :
    Calls Try.prog 22 #[.agg #[.string a0_0, .slice A0_1 l0_1.length c0_1, .slice A0_2 l0_2.length c0_2], .slice A1 l1.length c1] w fun e w' => ∃ v1_ v2_ : Value, e = .returned (.tuple #[.agg #[.string r1, v1_, v2_], .bool r4]) ∧ Kd.V k74 74 w' w.heap.size (fun k_ => ((P0_1_ k_ ∨ P0_2_ k_) ∨ w.heap.size ≤ k_)) v1_ r2 ∧ Kd.V k32 32 w' w.heap.size (fun k_ => ((P0_1_ k_ ∨ P0_2_ k_) ∨ w.heap.size ≤ k_)) v2_ r3 ∧ Below w.heap.size w w' := by
  unfold fdt_Find.f at h
  split at h
  · rename_i hlen
    obtain ⟨⟨rn, rb⟩, h1, h2⟩ := Option.bind_eq_some_iff.mp h
    obtain ⟨rfl, rfl, rfl, rfl⟩ : rn.f0 = r1 ∧ rn.f1 = r2 ∧ rn.f2 = r3 ∧ rb = r4 := by simpa using Option.some.inj h2
    obtain ⟨OK, hOK⟩ : ∃ OK : Nat → Prop, OK = fun k_ => ((P0_1_ k_ ∨ P0_2_ k_) ∨ w.heap.size ≤ k_) := ⟨_, rfl⟩
    have V1 := Aside0.mk (show Kd.V k74 74 w w.heap.size OK (.slice A0_1 l0_1.length c0_1) l0_1 from by rw [hOK]; exact Kd.V_mono hs0_1 (fun k_ hk => .inl (.inl hk)))
    have V2 := Aside0.mk (show Kd.V k32 32 w w.heap.size OK (.slice A0_2 l0_2.length c0_2) l0_2 from by rw [hOK]; exact Kd.V_mono hs0_2 (fun k_ hk => .inl (.inr hk)))
    rw [← hOK]
    have HR := Aside0.mk hr1; have HC := Aside0.mk hc1; have H1 := Aside0.mk h1; have HL := Aside0.mk hlen
    clear hOK h h1 h2 hs0_1 hs0_2 hr1 hc1 hlen
    have hu32 := Try.underlying32
    go_enter Try.func22, Try.ntmps22
    go_wp2_with (first | (((with_reducible refine gate_dst (N := 2) rfl ?_); refine bx_ev rfl rfl (N := 2) rfl (#[.string a0_0, .slice A0_1 l0_1.length c0_1, .slice A0_2 l0_2.length c0_2]) rfl ?_; intro gn hg_gn w1 hb_gn hk_gn; have Hg_gn := Aside0.mk hg_gn; clear hg_gn)) | (((with_reducible refine gate_dst (N := 4) rfl ?_); refine al_ev rfl rfl (N := 4) rfl _ (zero32 _) ?_; intro gr hg_gr w2 hb_gr hk_gr; have Hg_gr := Aside0.mk hg_gr; clear hg_gr); have HF := Aside0.mk (show FS w w2 OK gn gr ⟨a0_0, l0_1, l0_2⟩ A0_1 c0_1 A0_2 c0_2 from ⟨V1.out, V2.out, (hk_gn.trans hk_gr).below (fun _ _ q => q.elim) (Nat.le_refl _), (hk_gr.block gn (blk_lt hb_gn) id).trans hb_gn, hb_gr, by have := Hg_gn.out; have := Hg_gr.out; have := hk_gn.size; have := blk_lt hb_gn; exact ⟨by omega, by omega, by omega⟩⟩); clear hb_gn hk_gn hb_gr hk_gr) | fail)
    refine wp_scope_straight ?_
    refine wp_seq (wp_label ?_)
    show Code.wp _ _ _ _ _

    go_wp2
    go_loopg [12] l1.length (fun kq v12 w' => ∃ (i : Nat) (n : S32) (A1_ : Option Addr) (c1_ : Nat) (A2_ : Option Addr) (c2_ : Nat), v12 = .int .i64 (i : Int) ∧ Aside0 (kq + i = l1.length) ∧ Aside0 (findP (l1.drop i) n = some (rn, rb)) ∧ Aside0 (FS w w' OK gn gr n A1_ c1_ A2_ c2_))
    case atStart => exact ⟨0, ⟨a0_0, l0_1, l0_2⟩, A0_1, c0_1, A0_2, c0_2, rfl, ⟨by omega⟩, ⟨by rw [List.drop_zero]; exact H1.out⟩, HF⟩
    case round =>
      clear HF H1 V1 V2
      obtain ⟨i, n, A1_, c1_, A2_, c2_, rfl, HI, HP, HF⟩ := hrel
      cases gk with
      | zero =>
        obtain rfl : i = l1.length := by have := HI.out; omega
        have hP := HP.out
        rw [List.drop_length] at hP
        obtain ⟨rfl, rfl⟩ := Prod.mk.inj (Option.some.inj (show some (n, true) = some (rn, rb) from hP))
        clear hP HP HI
        have e0 : (wr).cell? ⟨gn, 0, none⟩ = some (.string n.f0) := blk_cell HF.out.bn 0; have e1 : (wr).cell? ⟨gn, 1, none⟩ = some (.slice A1_ n.f1.length c1_) := blk_cell HF.out.bn 1; have e2 : (wr).cell? ⟨gn, 2, none⟩ = some (.slice A2_ n.f2.length c2_) := blk_cell HF.out.bn 2; have z0 : (wr).cell? ⟨gr, 0, none⟩ = some (.string ⟨#[]⟩) := blk_cell HF.out.br 0; have z1 : (wr).cell? ⟨gr, 1, none⟩ = some (.slice none 0 0) := blk_cell HF.out.br 1; have z2 : (wr).cell? ⟨gr, 2, none⟩ = some (.slice none 0 0) := blk_cell HF.out.br 2; have f0 : (wr).frozen? ⟨gr, 0, none⟩ = false := blk_frozen HF.out.br 0; have f1 : (wr).frozen? ⟨gr, 1, none⟩ = false := blk_frozen HF.out.br 1; have f2 : (wr).frozen? ⟨gr, 2, none⟩ = false := blk_frozen HF.out.br 2; 
        go_wp2
        obtain ⟨p1, p2⟩ := put3 HF.out.br (.string n.f0) (.slice A1_ n.f1.length c1_) (.slice A2_ n.f2.length c2_)
        have HB5 := HF.out.below_set (.inr rfl) p2
        rw [Exit.noGoto_ret]
        refine bodyPost_ret (results_ct rfl _ _ gr 32 #[.string n.f0, .slice A1_ n.f1.length c1_, .slice A2_ n.f2.length c2_] (0, 0) _ rfl p1 Try.underlying32 rfl (by kernel_rfl)) rfl ?_
        exact ⟨_, _, rfl, Kd.V_below HF.out.v1 HB5, Kd.V_below HF.out.v2 HB5, HB5⟩
      | succ k1 =>
        have hi := HI.out
        have hlt : i < l1.length := by omega
        have hP := HP.out
        rw [drop_str hlt] at hP
        simp only [findP] at hP
        split at hP
        · rename_i hn2
          obtain ⟨ad, rfl, x0⟩ := Kd.at_string HR.out (i : Int) (by omega) (by omega)
          rw [Int.toNat_natCast] at x0
          generalize rdOf ByteArray.empty l1 (i : Int) = s at *
          replace x0 := (HF.out.be.cell (World.block_lt_of_cell? w _ x0)).trans x0
          have cn2 : wr.cell? ⟨gn, 2, none⟩ = some (.slice A2_ n.f2.length c2_) := blk_cell HF.out.bn 2
          have HP1 := Aside0.mk hP; have HN2 := Aside0.mk hn2
          have b0 : decide ((i : Int) < (l1.length : Int)) = true := decide_eq_true (by omega)
          have b1 : decide (i < l1.length) = true := decide_eq_true hlt
          have b2 := eq_true (show (0 : Int) ≤ (i : Int) by omega)
          have b3 := eq_true (show (i : Int) < (l1.length : Int) by omega)
          have b6 : (i : Int) < 65536 := by have := HL.out; omega
          clear hP HP hi hlt hn2
          go_wp2
          go_loopg [19] n.f2.length (fun kq v19 w' => ∃ (j : Nat), v19 = .int .i64 (j : Int) ∧ Aside0 (kq + j = n.f2.length) ∧ Aside0 ((match findIn s (n.f2.drop j) with | some x => findP (l1.drop (i + 1)) x | none => some (nodeNil, false)) = some (rn, rb)) ∧ Aside0 (FS w w' OK gn gr n A1_ c1_ A2_ c2_))
          case atStart => exact ⟨0, rfl, ⟨by omega⟩, ⟨by rw [List.drop_zero]; exact HP1.out⟩, HF⟩
          case round =>
            clear HF HP1 x0 cn2
            obtain ⟨j, rfl, HJ, HP, HF⟩ := hrel
            cases gk with
            | zero =>
              obtain rfl : j = n.f2.length := by have := HJ.out; omega
              have hP := HP.out
              rw [List.drop_length] at hP
              obtain ⟨rfl, rfl⟩ := Prod.mk.inj (Option.some.inj (show some (nodeNil, false) = some (rn, rb) from hP))
              clear hP HP HJ
              have z0 : (wr).cell? ⟨gr, 0, none⟩ = some (.string ⟨#[]⟩) := blk_cell HF.out.br 0; have z1 : (wr).cell? ⟨gr, 1, none⟩ = some (.slice none 0 0) := blk_cell HF.out.br 1; have z2 : (wr).cell? ⟨gr, 2, none⟩ = some (.slice none 0 0) := blk_cell HF.out.br 2; have f0 : (wr).frozen? ⟨gr, 0, none⟩ = false := blk_frozen HF.out.br 0; have f1 : (wr).frozen? ⟨gr, 1, none⟩ = false := blk_frozen HF.out.br 1; have f2 : (wr).frozen? ⟨gr, 2, none⟩ = false := blk_frozen HF.out.br 2; 
              go_wp2
              obtain ⟨p1, p2⟩ := put3 HF.out.br (.string ⟨#[]⟩) (.slice none 0 0) (.slice none 0 0)
              have HB5 := HF.out.below_set (.inr rfl) p2
              rw [Exit.noGoto_ret]
              refine bodyPost_ret (results_ct rfl _ _ gr 32 #[.string ⟨#[]⟩, .slice none 0 0, .slice none 0 0] (0, 0) _ rfl p1 Try.underlying32 rfl (by kernel_rfl)) rfl ?_
              exact ⟨_, _, rfl, Kd.V_nil _ _ _ _ _, Kd.V_nil _ _ _ _ _, HB5⟩
            | succ k2 =>
              have hj := HJ.out
              have hjl : j < n.f2.length := by omega
              have hP := HP.out
              rw [drop_T32 hjl] at hP
              obtain ⟨ad2, A1', c1', A2', c2', rfl, x0, x1, x2, v1, v2⟩ := V_kid HF.out.v2 j hjl
              generalize hnn : rd_T32 n.f2 (j : Int) = nn at *
              clear hnn
              replace x0 := (HF.out.be.cell (World.block_lt_of_cell? w _ x0)).trans x0
              replace x1 := (HF.out.be.cell (World.block_lt_of_cell? w _ x1)).trans x1
              replace x2 := (HF.out.be.cell (World.block_lt_of_cell? w _ x2)).trans x2
              have d0 : decide ((j : Int) < (n.f2.length : Int)) = true := decide_eq_true (by omega)
              have d1 : decide (j < n.f2.length) = true := decide_eq_true hjl
              have d2 := eq_true (show (0 : Int) ≤ (j : Int) by omega)
              have d3 := eq_true (show (j : Int) < (n.f2.length : Int) by omega)
              have d6 : (j : Int) < 65536 := by have := HN2.out; omega
              have X1 := Aside0.mk v1; have X2 := Aside0.mk v2
              have HF6 := Aside0.mk (HF.out.alloc (.cells #[.string nn.f0, .slice A1' nn.f1.length c1', .slice A2' nn.f2.length c2'] 32))
              have hx6 : (wr.alloc (.cells #[.string nn.f0, .slice A1' nn.f1.length c1', .slice A2' nn.f2.length c2'] 32)).heap[wr.heap.size]? = some (.cells #[.string nn.f0, .slice A1' nn.f1.length c1', .slice A2' nn.f2.length c2'] 32 (0, 0)) := by simpa using heap_alloc_new wr _
              have HX6 := Aside0.mk hx6
              simp only [findIn] at hP
              by_cases c : nn.f0.toList = s.toList
              · rw [if_pos c] at hP
                have HQ := Aside0.mk (show findP (l1.drop (i + 1)) nn = some (rn, rb) from hP)
                have cb : (nn.f0.toList == s.toList) = true := beq_iff_eq.mpr c
                clear hj hjl hP c v1 v2 hx6
                have y0 : (wr.alloc (.cells #[.string nn.f0, .slice A1' nn.f1.length c1', .slice A2' nn.f2.length c2'] 32)).cell? ⟨wr.heap.size, 0, none⟩ = some (.string nn.f0) := blk_cell HX6.out 0; have y1 : (wr.alloc (.cells #[.string nn.f0, .slice A1' nn.f1.length c1', .slice A2' nn.f2.length c2'] 32)).cell? ⟨wr.heap.size, 1, none⟩ = some (.slice A1' nn.f1.length c1') := blk_cell HX6.out 1; have y2 : (wr.alloc (.cells #[.string nn.f0, .slice A1' nn.f1.length c1', .slice A2' nn.f2.length c2'] 32)).cell? ⟨wr.heap.size, 2, none⟩ = some (.slice A2' nn.f2.length c2') := blk_cell HX6.out 2; have z0 : (wr.alloc (.cells #[.string nn.f0, .slice A1' nn.f1.length c1', .slice A2' nn.f2.length c2'] 32)).cell? ⟨gn, 0, none⟩ = some (.string n.f0) := blk_cell HF6.out.bn 0; have z1 : (wr.alloc (.cells #[.string nn.f0, .slice A1' nn.f1.length c1', .slice A2' nn.f2.length c2'] 32)).cell? ⟨gn, 1, none⟩ = some (.slice A1_ n.f1.length c1_) := blk_cell HF6.out.bn 1; have z2 : (wr.alloc (.cells #[.string nn.f0, .slice A1' nn.f1.length c1', .slice A2' nn.f2.length c2'] 32)).cell? ⟨gn, 2, none⟩ = some (.slice (some ad2) n.f2.length c2_) := blk_cell HF6.out.bn 2; have f0 : (wr.alloc (.cells #[.string nn.f0, .slice A1' nn.f1.length c1', .slice A2' nn.f2.length c2'] 32)).frozen? ⟨gn, 0, none⟩ = false := blk_frozen HF6.out.bn 0; have f1 : (wr.alloc (.cells #[.string nn.f0, .slice A1' nn.f1.length c1', .slice A2' nn.f2.length c2'] 32)).frozen? ⟨gn, 1, none⟩ = false := blk_frozen HF6.out.bn 1; have f2 : (wr.alloc (.cells #[.string nn.f0, .slice A1' nn.f1.length c1', .slice A2' nn.f2.length c2'] 32)).frozen? ⟨gn, 2, none⟩ = false := blk_frozen HF6.out.bn 2; 
                go_wp2
                obtain ⟨p1, p2⟩ := put3 HF6.out.bn (.string nn.f0) (.slice A1' nn.f1.length c1') (.slice A2' nn.f2.length c2')
                have HF7 := Aside0.mk (show FS w _ OK gn gr nn A1' c1' A2' c2' from ⟨X1.out, X2.out, HF6.out.below_set (.inl rfl) p2, p1, (p2.block gr (blk_lt HF6.out.br) (fun e => HF6.out.ge.2.2 e.symm)).trans HF6.out.br, HF6.out.ge⟩)
                clear p1 p2 y0 y1 y2 z0 z1 z2 f0 f1 f2
                go_roundg k1
                case measure => omega
                case rel => exact ⟨i + 1, nn, A1', c1', A2', c2', by go_num, ⟨by have := HI.out; omega⟩, HQ, HF7⟩
              · rw [if_neg c] at hP
                have HQ := Aside0.mk hP
                have cb : (nn.f0.toList == s.toList) = false := beq_eq_false_iff_ne.mpr c
                clear hj hjl hP c v1 v2 hx6
                go_wp2
                go_roundg k2
                case measure => omega
                case rel => exact ⟨j + 1, by go_num, ⟨by have := HJ.out; omega⟩, HQ, HF6⟩
        · cases hP
  · cases h
end Go.Proofs.Ytmhlellhfepkkaa.PAl
