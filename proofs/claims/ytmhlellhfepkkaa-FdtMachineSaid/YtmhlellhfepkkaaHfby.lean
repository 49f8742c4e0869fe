/- fdt.Bytes. -/
import Derived.Test.YtmhlellhfepkkaaHfnode
namespace Go.Proofs.Ytmhlellhfepkkaa.B
open Go.RowKit Go.Proofs.YtmhlellhfepkkaaW.PrintWords Go.Proofs.YtmhlellhfepkkaaW.PrintLast Go.Proofs.YtmhlellhfepkkaaW.PrintMore Go.Proofs.Ytmhlellhfepkkaa.PAl Go.Proofs.Ytmhlellhfepkkaa.H
attribute [local go_sem ↓] Go.wp_at_zero Go.wp_at_succ
set_option linter.unusedVariables false
set_option linter.unusedSimpArgs false
def headOf (t n : Nat) : List Int := [3490578157, 56 + (t : Int) + (n : Int), 56, 56 + (t : Int), 40, 17, 16, 0, (n : Int), (t : Int)]
def bytesOK (k : Nat) (n : S32) : Option (List Int) :=
  (bnode k n [] []).bind fun q => (bput q.1 (w32 9)).bind fun tr =>
    if tr.length + (textsOf q.2).length < 1073741824 then
      (fdt_Cells.f 11 (headOf tr.length (textsOf q.2).length)).bind fun hd => (bput hd (List.replicate 16 0)).bind fun o1 => (bput o1 tr).bind fun o2 => bput o2 (textsOf q.2)
    else none
theorem bnodes_mono {F G : S32 → List Int → List ByteArray → Option (List Int × List ByteArray)} (h : ∀ x tr all, LeO (F x tr all) (G x tr all)) : ∀ l tr all, LeO (bnodes F l tr all) (bnodes G l tr all)
  | [], tr, all => LeO.refl _
  | x :: xs, tr, all => by
    simp only [bnodes]
    exact LeO.bind (h x tr all) (fun q => bnodes_mono h xs q.1 q.2)
theorem bnode_mono : ∀ k n tr all, LeO (bnode k n tr all) (bnode (k + 1) n tr all)
  | 0, n, tr, all => fun r h => by cases h
  | k + 1, n, tr, all => by
    simp only [bnode]
    refine LeO.ite ?_ (LeO.refl _)
    refine LeO.bind (LeO.refl _) (fun _ => LeO.bind (LeO.refl _) (fun _ => LeO.bind (LeO.refl _) (fun _ => LeO.bind (LeO.refl _) (fun q => LeO.bind (bnodes_mono (fun x tr all => bnode_mono k x tr all) _ _ _) (fun _ => LeO.refl _)))))
theorem bytesOK_mono (k : Nat) (n : S32) : LeO (bytesOK k n) (bytesOK (k + 1) n) := by
  unfold bytesOK
  exact LeO.bind (bnode_mono k n [] []) (fun _ => LeO.refl _)
end Go.Proofs.Ytmhlellhfepkkaa.B
namespace Go.Proofs.Ytmhlellhfepkkaa.PAl
open Go.RowKit Go.Proofs.YtmhlellhfepkkaaW.PrintWords Go.Proofs.YtmhlellhfepkkaaW.PrintLast Go.Proofs.YtmhlellhfepkkaaW.PrintMore Go.Proofs.Ytmhlellhfepkkaa.H Go.Proofs.Ytmhlellhfepkkaa.B
set_option linter.unusedVariables false
set_option linter.unusedSimpArgs false
def fdt_Bytes.f (k : Nat) (a0_0 : ByteArray) (l0_1 : List (S74)) (l0_2 : List (S32)) : Option (List Int × Int) :=
  (fdt_Right.f k a0_0 l0_1 l0_2).bind fun e => if e = 0 then (bytesOK k ⟨a0_0, l0_1, l0_2⟩).bind fun b => some (b, 0) else some (([] : List Int), e)
theorem fdt_Bytes.mono : ∀ a0 a1 a2 k, LeO (fdt_Bytes.f k a0 a1 a2) (fdt_Bytes.f (k + 1) a0 a1 a2) := by
  intro a0 a1 a2 k
  unfold fdt_Bytes.f
  exact LeO.bind (fdt_Right.mono _ _ _ k) (fun _ => LeO.ite (LeO.bind (bytesOK_mono k _) (fun _ => LeO.refl _)) (LeO.refl _))
theorem head_c (t n : Nat) (hd : List Int) (h : fdt_Cells.f 11 (headOf t n) = some hd) (W : World) :
    Calls Try.prog 18 #[.slice (some ⟨W.heap.size, 0, none⟩) 10 10] (W.alloc (.cells #[.int .u32 (3490578157), .int .u32 (56 + (t : Int) + (n : Int)), .int .u32 (56), .int .u32 (56 + (t : Int)), .int .u32 (40), .int .u32 (17), .int .u32 (16), .int .u32 (0), .int .u32 ((n : Int)), .int .u32 ((t : Int))] 41)) fun e w' => ∃ v, e = .returned v ∧ U8.R 5 w' W.heap.size (fun _ => True) v hd ∧ Below W.heap.size W w' := by
  have hw := World.ownsRow_lit (base := 0) (e := 41) (size := 1) W #[.int .u32 (3490578157), .int .u32 (56 + (t : Int) + (n : Int)), .int .u32 (56), .int .u32 (56 + (t : Int)), .int .u32 (40), .int .u32 (17), .int .u32 (16), .int .u32 (0), .int .u32 ((n : Int)), .int .u32 ((t : Int))] 10 (Nat.zero_le _) (by decide) (by rfl)
  have hR : (Kd.int .u32).R 41 (W.alloc (.cells #[.int .u32 (3490578157), .int .u32 (56 + (t : Int) + (n : Int)), .int .u32 (56), .int .u32 (56 + (t : Int)), .int .u32 (40), .int .u32 (17), .int .u32 (16), .int .u32 (0), .int .u32 ((n : Int)), .int .u32 ((t : Int))] 41)) 0 (fun _ => True) (.slice (some ⟨W.heap.size, 0, none⟩) 10 10) (headOf t n) := Kd.R_of_own hw (fun _ _ => trivial)
  refine (fdt_Cells.calls 11 (some ⟨W.heap.size, 0, none⟩) 10 (headOf t n) _ (W.alloc (.cells #[.int .u32 (3490578157), .int .u32 (56 + (t : Int) + (n : Int)), .int .u32 (56), .int .u32 (56 + (t : Int)), .int .u32 (40), .int .u32 (17), .int .u32 (16), .int .u32 (0), .int .u32 ((n : Int)), .int .u32 ((t : Int))] 41)) (Kd.R_reads' hR).2.2 (Nat.le_refl _) h).mono ?_
  rintro e w' ⟨v, rfl, h1, h2⟩
  exact ⟨v, rfl, Kd.R_lower h1 (by simp), below_step (below_alloc (Below.refl _ _) _) h2⟩
/-- A builder as Bytes begins with it. -/
theorem new_b {w0 w2 : World} (hB : Below w0.heap.size w0 w2) : Bs ((w2.alloc (.map #[] 0)).alloc (.cells #[.slice none 0 0, .slice none 0 0, .map (some w2.heap.size)] 71)) w0.heap.size (fun k => w2.heap.size ≤ k) (w2.heap.size + 1) [] [] := by
  refine Bs.shut (u := .slice none 0 0) (v := .slice none 0 0) (B := w2.heap.size) ?_ (Kd.R_nil _ _ _ _ _) (Kd.R_nil _ _ _ _ _) (fun k hk => by simp [Value.ownBlock] at hk) ?_ (by have := hB.size; omega) (by show _ ≤ _; omega) hB.size (Nat.le_refl _)
  · have := heap_alloc_new (w2.alloc (.map #[] 0)) (.cells #[.slice none 0 0, .slice none 0 0, .map (some w2.heap.size)] 71)
    simpa using this
  · have hm := SMap.made (P := Try.prog) (k := 9) w2
    exact hm.of_heap (Below.heap_alloc _ _ _ hm.lt)
set_option maxHeartbeats 4000000 in
set_option maxRecDepth 100000 in
theorem fdt_Bytes.calls (k : Nat) (a0_0 : ByteArray) (A0_1 : Option Addr) (c0_1 : Nat) (l0_1 : List (S74)) (A0_2 : Option Addr) (c0_2 : Nat) (l0_2 : List (S32)) (r1 : List Int) (r2 : Int) (w : World) (hr0_1 : Kd.C k74 w A0_1 l0_1.length l0_1) (hc0_1 : l0_1.length ≤ c0_1) (hr0_2 : Kd.C k32 w A0_2 l0_2.length l0_2) (hc0_2 : l0_2.length ≤ c0_2) (h : fdt_Bytes.f k a0_0 l0_1 l0_2 = some (r1, r2)) :
    Calls Try.prog 11 #[.agg #[.string a0_0, .slice A0_1 l0_1.length c0_1, .slice A0_2 l0_2.length c0_2]] w fun e w' => ∃ v0_ : Value, e = .returned (.tuple #[v0_, .int .i64 r2]) ∧ Kd.R (Kd.int .u8) 5 w' w.heap.size (fun _ => True) v0_ r1 ∧ Below w.heap.size w w' := by
  unfold fdt_Bytes.f at h
  obtain ⟨e, e0, h⟩ := Option.bind_eq_some_iff.mp h
  have E0 := Aside0.mk e0
  have HR1 := Aside0.mk hr0_1; have HC1 := Aside0.mk hc0_1; have HR2 := Aside0.mk hr0_2; have HC2 := Aside0.mk hc0_2
  have HH := Aside0.mk h
  have hu32 := Try.underlying32
  have hmm := @Go.RowKit.run_makeMap Try.prog
  clear e0 hr0_1 hc0_1 hr0_2 hc0_2 h
  by_cases c : e = 0
  · have ce : (e == 0) = true := beq_iff_eq.mpr c
    have ce' : (e != 0) = false := bne_eq_false_iff_eq.mpr c
    have h := HH.out
    rw [if_pos c] at h
    obtain ⟨b, f0, h⟩ := Option.bind_eq_some_iff.mp h
    obtain ⟨rfl, rfl⟩ := Prod.mk.inj (Option.some.inj h)
    unfold bytesOK at f0
    obtain ⟨⟨t0, all⟩, f1, f0⟩ := Option.bind_eq_some_iff.mp f0
    obtain ⟨tr, f2, f0⟩ := Option.bind_eq_some_iff.mp f0
    split at f0
    · rename_i hlen
      obtain ⟨hd, f3, f0⟩ := Option.bind_eq_some_iff.mp f0
      obtain ⟨o1, f4, f0⟩ := Option.bind_eq_some_iff.mp f0
      obtain ⟨o2, f5, f0⟩ := Option.bind_eq_some_iff.mp f0
      have F1 := Aside0.mk f1; have F2 := Aside0.mk f2; have F3 := Aside0.mk f3; have F4 := Aside0.mk (bput_open f4); have F5 := Aside0.mk (bput_open f5); have F6 := Aside0.mk (bput_open f0); have HL := Aside0.mk hlen
      clear f1 f2 f3 f4 f5 f0 hlen h HH c
      go_enter Try.func11, Try.ntmps11
      go_wp2_with (first | ((with_reducible refine gate_dst (N := 1) rfl ?_); refine bx_ev rfl rfl (N := 1) rfl (#[.string a0_0, .slice A0_1 l0_1.length c0_1, .slice A0_2 l0_2.length c0_2]) rfl ?_; intro gn hgn w1 hbn hkn; have HBN := Aside0.mk hbn; have HB1 := Aside0.mk (hkn.below (B := w.heap.size) (fun _ _ q => q.elim) (Nat.le_refl _)); have cn0 : w1.cell? ⟨gn, 0, none⟩ = some (.string a0_0) := blk_cell hbn 0; have cn1 : w1.cell? ⟨gn, 1, none⟩ = some (.slice A0_1 l0_1.length c0_1) := blk_cell hbn 1; have cn2 : w1.cell? ⟨gn, 2, none⟩ = some (.slice A0_2 l0_2.length c0_2) := blk_cell hbn 2; clear hgn hbn hkn) | ((with_reducible refine gate_callee (f := 14) rfl ?_); refine goesL_ (some 10) rfl rfl Try.func14 (by kernel_rfl) rfl #[.agg #[.string a0_0, .slice A0_1 l0_1.length c0_1, .slice A0_2 l0_2.length c0_2]] rfl (by simp only [List.map_toArray, List.map_cons, List.map_nil]; rfl) ?_; (with_reducible refine (fdt_Right.calls k a0_0 _ _ l0_1 _ _ l0_2 e _ (Kd.C_below HR1.out HB1.out) HC1.out (Kd.C_below HR2.out HB1.out) HC2.out E0.out).mono ?_); rintro e' w2 ⟨rfl, hb2⟩; refine ⟨_, rfl, ?_⟩; have HB2 := Aside0.mk (below_step HB1.out hb2); have hbn2 := blk_below HBN.out hb2; have HBN2 := Aside0.mk hbn2; have dn0 : w2.cell? ⟨gn, 0, none⟩ = some (.string a0_0) := blk_cell hbn2 0; have dn1 : w2.cell? ⟨gn, 1, none⟩ = some (.slice A0_1 l0_1.length c0_1) := blk_cell hbn2 1; have dn2 : w2.cell? ⟨gn, 2, none⟩ = some (.slice A0_2 l0_2.length c0_2) := blk_cell hbn2 2; have hbb : Below w.heap.size w ((w2.alloc (.map #[] 0)).alloc (.cells #[.slice none 0 0, .slice none 0 0, .map (some w2.heap.size)] 71)) := below_alloc (below_alloc HB2.out _) _; have HBB := Aside0.mk hbb; have HBS := Aside0.mk (new_b HB2.out); have en0 : ((w2.alloc (.map #[] 0)).alloc (.cells #[.slice none 0 0, .slice none 0 0, .map (some w2.heap.size)] 71)).cell? ⟨gn, 0, none⟩ = some (.string a0_0) := blk_cell (blk_alloc (blk_alloc hbn2 _) _) 0; have en1 : ((w2.alloc (.map #[] 0)).alloc (.cells #[.slice none 0 0, .slice none 0 0, .map (some w2.heap.size)] 71)).cell? ⟨gn, 1, none⟩ = some (.slice A0_1 l0_1.length c0_1) := blk_cell (blk_alloc (blk_alloc hbn2 _) _) 1; have en2 : ((w2.alloc (.map #[] 0)).alloc (.cells #[.slice none 0 0, .slice none 0 0, .map (some w2.heap.size)] 71)).cell? ⟨gn, 2, none⟩ = some (.slice A0_2 l0_2.length c0_2) := blk_cell (blk_alloc (blk_alloc hbn2 _) _) 2; clear hb2 hbn2 hbb HB1 HBN cn0 cn1 cn2) | ((with_reducible refine gate_callee (f := 29) rfl ?_); refine goesL_ (some 19) rfl rfl Try.func29 (by kernel_rfl) rfl #[.pointer (some ⟨w2.heap.size + 1, 0, none⟩), .agg #[.string a0_0, .slice A0_1 l0_1.length c0_1, .slice A0_2 l0_2.length c0_2]] rfl (by simp only [List.map_toArray, List.map_cons, List.map_nil]; rfl) ?_; (with_reducible refine (node_c w k a0_0 _ _ l0_1 _ _ l0_2 _ _ [] t0 [] all _ HBB.out HBS.out HR1.out HC1.out HR2.out HC2.out F1.out).mono ?_); rintro e' w3 ⟨rfl, hs3, hb3, hk3⟩; refine ⟨_, rfl, ?_⟩; have HS3 := Aside0.mk (hs3.mono (ok' := fun k => w2.heap.size ≤ k) (fun k hk _ _ => hk.elim id (fun hk => Nat.le_trans (by simp; omega) hk))); have HB3 := Aside0.mk hb3; clear hs3 hb3 hk3 HBB HBS en0 en1 en2 dn0 dn1 dn2 HBN2) | ((with_reducible refine gate_callee (f := 30) rfl ?_); refine goesL_ (some 21) rfl rfl Try.func30 (by kernel_rfl) rfl #[.pointer (some ⟨w2.heap.size + 1, 0, none⟩), .int .u32 9] rfl (by simp only [List.map_toArray, List.map_cons, List.map_nil]; rfl) ?_; (with_reducible refine (word_c 9 (w32 9) t0 all _ _ w _ HB3.out HS3.out rfl (bput_open F2.out).1).mono ?_); rintro e' w4 ⟨rfl, hs4, hb4, hk4⟩; refine ⟨_, rfl, ?_⟩; rw [← (bput_open F2.out).2] at hs4; have HS4 := Aside0.mk (hs4.mono (ok' := fun k => w2.heap.size ≤ k) (fun k hk _ _ => hk.elim id (fun hk => Nat.le_trans (by have := HS3.out.lt; omega) hk))); have HB4 := Aside0.mk hb4; clear hs4 hb4 hk4 HS3 HB3) | fail)
      obtain ⟨u, v, B, hb, hu, hv, hm, q1, q2, q8, q9, qBg⟩ := HS4.out.open_
      obtain ⟨A, c, rfl⟩ := Kd.R_slice hu
      obtain ⟨A', c', rfl⟩ := Kd.R_slice hv
      have c0 : w4.cell? ⟨w2.heap.size + 1, 0, none⟩ = some (.slice A tr.length c) := blk_cell hb 0
      have c1 : w4.cell? ⟨w2.heap.size + 1, 1, none⟩ = some (.slice A' (textsOf all).length c') := blk_cell hb 1
      have b1 : (tr.length : Int) < 1073741824 := by have := HL.out; omega
      have b2 : ((textsOf all).length : Int) < 1073741824 := by have := HL.out; omega
      have b3 : (tr.length : Int) + ((textsOf all).length : Int) < 1073741824 := by have := HL.out; omega
      have b4 : (0 : Int) ≤ (tr.length : Int) := by omega
      have b5 : (0 : Int) ≤ ((textsOf all).length : Int) := by omega
      have Hb := Aside0.mk hb; have Hu := Aside0.mk (Kd.R_reads' hu).2.2; have Hv := Aside0.mk (Kd.R_reads' hv).2.2
      clear hb hu hv hm q1 q2 q8 q9 qBg
      go_quiet (fail)
      go_wp2_with (first | ((with_reducible refine gate_callee (f := 18) rfl ?_); refine goesL_ (some 43) rfl rfl Try.func18 (by kernel_rfl) rfl #[.slice (some ⟨w4.heap.size, 0, none⟩) 10 10] rfl (by simp only [List.map_toArray, List.map_cons, List.map_nil]; rfl) ?_; (refine (head_c tr.length (textsOf all).length hd F3.out (w4.drewN nq)).mono ?_); rintro e' w6 ⟨v6, rfl, ho6, hb6⟩; refine ⟨_, rfl, ?_⟩; obtain ⟨A6, c6, rfl⟩ := Kd.R_slice ho6; have HB6 := Aside0.mk (below_step (pw_below_drewN (Below.refl _ w4) nq) hb6); have HO6 := Aside0.mk (show U8.R 5 w6 w4.heap.size (fun _ => True) (.slice A6 hd.length c6) hd from ho6); clear ho6 hb6) | ((with_reducible refine gate_builtin (b := .append) (xs := #[.tmp 44, .const (.int .i64 16)]) rfl ?_); at_builtin; refine Kd.R_append_zeros U8 (w0 := w4) w4.heap.size rfl (.tmp 44) (.const (.int .i64 16)) 25 3 5 (.int .u8 0) 1 rfl Try.underlying25 Try.underlying3 info5 rfl (by decide) (by omega) (.slice A6 hd.length c6) hd 0 16 (fun _ => True) rfl rfl rfl (fun _ _ => trivial) ?aO (by decide) ?aB ?aS ?aL ?_; (case aB => exact HB6.out); (case aO => exact HO6.out); (case aS => exact HB6.out.size); (case aL => have := F4.out.1; simp at this ⊢; omega); intro v7 w7 ho7 hb7 hg7 hat7; rw [show hd ++ List.replicate (16 : Int).toNat 0 = o1 from F4.out.2.symm] at ho7; obtain ⟨A7, c7, rfl⟩ := Kd.R_slice ho7; have d0 : w7.cell? ⟨w2.heap.size + 1, 0, none⟩ = some (.slice A tr.length c) := (hb7.cell (World.block_lt_of_cell? w4 _ c0)).trans c0; have HO7 := Aside0.mk ho7; have HB7 := Aside0.mk hb7; clear ho7 hb7 hg7 hat7) | ((with_reducible refine gate_builtin (b := .append) (xs := #[.tmp 46, .tmp 50]) rfl ?_); at_builtin; refine Kd.R_append_rows U8 (w0 := w4) w4.heap.size rfl (.tmp 46) (.tmp 50) 25 5 (.int .u8 0) 1 rfl Try.underlying25 info5 rfl (by decide) (by omega) (.slice A7 o1.length c7) o1 tr A tr.length c (fun _ => True) (fun _ => False) rfl rfl ?aO ?aR (fun _ _ h => h) (fun _ h => h.elim) (fun _ _ => trivial) ?aB ?aS ?aL ?_; (case aB => exact HB7.out); (case aO => exact HO7.out); (case aR => exact Kd.C_below Hu.out HB7.out); (case aS => exact HB7.out.size); (case aL => have := F5.out.1; omega); intro v8 w8 ho8 hb8 hg8 hat8; rw [← F5.out.2] at ho8; obtain ⟨A8, c8, rfl⟩ := Kd.R_slice ho8; have d1 : w8.cell? ⟨w2.heap.size + 1, 1, none⟩ = some (.slice A' (textsOf all).length c') := (hb8.cell (World.block_lt_of_cell? w4 _ c1)).trans c1; have HO8 := Aside0.mk ho8; have HB8 := Aside0.mk hb8; clear ho8 hb8 hg8 hat8) | ((with_reducible refine gate_builtin (b := .append) (xs := #[.tmp 52, .tmp 56]) rfl ?_); at_builtin; refine Kd.R_append_rows U8 (w0 := w4) w4.heap.size rfl (.tmp 52) (.tmp 56) 25 5 (.int .u8 0) 1 rfl Try.underlying25 info5 rfl (by decide) (by omega) (.slice A8 o2.length c8) o2 (textsOf all) A' (textsOf all).length c' (fun _ => True) (fun _ => False) rfl rfl ?aO ?aR (fun _ _ h => h) (fun _ h => h.elim) (fun _ _ => trivial) ?aB ?aS ?aL ?_; (case aB => exact HB8.out); (case aO => exact HO8.out); (case aR => exact Kd.C_below Hv.out HB8.out); (case aS => exact HB8.out.size); (case aL => have := F6.out.1; omega); intro v9 w9 ho9 hb9 hg9 hat9; rw [← F6.out.2] at ho9; obtain ⟨A9, c9, rfl⟩ := Kd.R_slice ho9; have HO9 := Aside0.mk ho9; have HB9 := Aside0.mk hb9; clear ho9 hb9 hg9 hat9) | fail)
      go_ret2
      exact ⟨_, rfl, Kd.R_lower HO9.out HB4.out.size, below_step HB4.out HB9.out⟩
    · cases f0
  · have ce : (e == 0) = false := beq_eq_false_iff_ne.mpr c
    have ce' : (e != 0) = true := bne_iff_ne.mpr c
    have h := HH.out
    rw [if_neg c] at h
    obtain ⟨rfl, rfl⟩ := Prod.mk.inj (Option.some.inj h)
    clear h HH c
    go_enter Try.func11, Try.ntmps11
    go_wp2_with (first | ((with_reducible refine gate_dst (N := 1) rfl ?_); refine bx_ev rfl rfl (N := 1) rfl (#[.string a0_0, .slice A0_1 l0_1.length c0_1, .slice A0_2 l0_2.length c0_2]) rfl ?_; intro gn hgn w1 hbn hkn; have HBN := Aside0.mk hbn; have HB1 := Aside0.mk (hkn.below (B := w.heap.size) (fun _ _ q => q.elim) (Nat.le_refl _)); have cn0 : w1.cell? ⟨gn, 0, none⟩ = some (.string a0_0) := blk_cell hbn 0; have cn1 : w1.cell? ⟨gn, 1, none⟩ = some (.slice A0_1 l0_1.length c0_1) := blk_cell hbn 1; have cn2 : w1.cell? ⟨gn, 2, none⟩ = some (.slice A0_2 l0_2.length c0_2) := blk_cell hbn 2; clear hgn hbn hkn) | ((with_reducible refine gate_callee (f := 14) rfl ?_); refine goesL_ (some 10) rfl rfl Try.func14 (by kernel_rfl) rfl #[.agg #[.string a0_0, .slice A0_1 l0_1.length c0_1, .slice A0_2 l0_2.length c0_2]] rfl (by simp only [List.map_toArray, List.map_cons, List.map_nil]; rfl) ?_; (with_reducible refine (fdt_Right.calls k a0_0 _ _ l0_1 _ _ l0_2 e _ (Kd.C_below HR1.out HB1.out) HC1.out (Kd.C_below HR2.out HB1.out) HC2.out E0.out).mono ?_); rintro e' w2 ⟨rfl, hb2⟩; refine ⟨_, rfl, ?_⟩; have HB2 := Aside0.mk (below_step HB1.out hb2); clear hb2) | fail)
    go_ret2
    exact ⟨_, rfl, Kd.R_nil _ _ _ _ _, HB2.out⟩
end Go.Proofs.Ytmhlellhfepkkaa.PAl
