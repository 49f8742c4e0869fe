/- builder.node. -/
import Derived.Test.YtmhlellhfepkkaaHfno
namespace Go.Proofs.Ytmhlellhfepkkaa.B
open Go.RowKit Go.Proofs.YtmhlellhfepkkaaW.PrintWords Go.Proofs.YtmhlellhfepkkaaW.PrintLast Go.Proofs.YtmhlellhfepkkaaW.PrintMore Go.Proofs.Ytmhlellhfepkkaa.PAl Go.Proofs.Ytmhlellhfepkkaa.H
attribute [local go_sem ↓] Go.wp_at_zero Go.wp_at_succ
set_option linter.unusedVariables false
set_option linter.unusedSimpArgs false
theorem drop_T74 {l : List S74} {i : Nat} (h : i < l.length) : l.drop i = rd_T74 l (i : Int) :: l.drop (i + 1) := by
  rw [List.drop_eq_getElem_cons h]; congr 1; simp [rd_T74, List.getD, h]
theorem drop_T32 {l : List S32} {i : Nat} (h : i < l.length) : l.drop i = rd_T32 l (i : Int) :: l.drop (i + 1) := by
  rw [List.drop_eq_getElem_cons h]; congr 1; simp [rd_T32, List.getD, h]
theorem zero74 (w : World) : (zeroValue 74).run Try.prog w = .ok (.agg #[.string ⟨#[]⟩, .slice none 0 0]) w := by kernel_rfl
theorem zero32 (w : World) : (zeroValue 32).run Try.prog w = .ok (.agg #[.string ⟨#[]⟩, .slice none 0 0, .slice none 0 0]) w := by kernel_rfl
theorem bnode_open {k : Nat} {n : S32} {tr tr' : List Int} {all all' : List ByteArray} (h : bnode (k + 1) n tr all = some (tr', all')) :
    (n.f0.size < 2147483648 ∧ n.f1.length < 65536 ∧ n.f2.length < 65536) ∧ ∃ t1 t2 t3 p1 p2 z1 z2, bput tr (w32 1) = some t1 ∧ bput t1 (bytesOf n.f0 ++ [0]) = some t2 ∧ vireoref26_pad.f 5 t2 = some t3 ∧ bprops n.f1 t3 all = some (p1, p2) ∧ bnodes (bnode k) n.f2 p1 p2 = some (z1, z2) ∧ bput z1 (w32 2) = some tr' ∧ all' = z2 := by
  simp only [bnode] at h
  split at h
  · rename_i hg
    obtain ⟨t1, e1, h⟩ := Option.bind_eq_some_iff.mp h
    obtain ⟨t2, e2, h⟩ := Option.bind_eq_some_iff.mp h
    obtain ⟨t3, e3, h⟩ := Option.bind_eq_some_iff.mp h
    obtain ⟨⟨p1, p2⟩, e4, h⟩ := Option.bind_eq_some_iff.mp h
    obtain ⟨⟨z1, z2⟩, e5, h⟩ := Option.bind_eq_some_iff.mp h
    obtain ⟨t6, e6, h⟩ := Option.bind_eq_some_iff.mp h
    obtain ⟨rfl, rfl⟩ := Prod.mk.inj (Option.some.inj h)
    exact ⟨hg, t1, t2, t3, p1, p2, z1, _, e1, e2, e3, e4, e5, e6, rfl⟩
  · cases h
theorem bprops_open {p : S74} {ps : List S74} {tr tr' : List Int} {all all' : List ByteArray} (h : bprops (p :: ps) tr all = some (tr', all')) :
    p.f1.length < 2147483648 ∧ ∃ t1 t2 n all1 t3 t4 t5, bput tr (w32 3) = some t1 ∧ bput t1 (w32 p.f1.length) = some t2 ∧ bname all p.f0 = some (n, all1) ∧ bput t2 (w32 n) = some t3 ∧ bput t3 p.f1 = some t4 ∧ vireoref26_pad.f 5 t4 = some t5 ∧ bprops ps t5 all1 = some (tr', all') := by
  simp only [bprops] at h
  split at h
  · rename_i hg
    obtain ⟨t1, e1, h⟩ := Option.bind_eq_some_iff.mp h
    obtain ⟨t2, e2, h⟩ := Option.bind_eq_some_iff.mp h
    obtain ⟨⟨n, all1⟩, e3, h⟩ := Option.bind_eq_some_iff.mp h
    obtain ⟨t3, e4, h⟩ := Option.bind_eq_some_iff.mp h
    obtain ⟨t4, e5, h⟩ := Option.bind_eq_some_iff.mp h
    obtain ⟨t5, e6, h⟩ := Option.bind_eq_some_iff.mp h
    exact ⟨hg, t1, t2, n, all1, t3, t4, t5, e1, e2, e3, e4, e5, e6, h⟩
  · cases h
theorem bput_open {tr ys t : List Int} (h : bput tr ys = some t) : tr.length + ys.length < 140737488355328 ∧ t = tr ++ ys := by
  unfold bput at h
  split at h
  · rename_i hl; exact ⟨hl, (Option.some.inj h).symm⟩
  · cases h
set_option maxHeartbeats 4000000 in
set_option maxRecDepth 100000 in
theorem node_c (w0 : World) (k : Nat) : ∀ (a0 : ByteArray) (A1 : Option Addr) (c1 : Nat) (l1 : List S74) (A2 : Option Addr) (c2 : Nat) (l2 : List S32) (g : Nat) (ok : Nat → Prop) (tr tr' : List Int) (all all' : List ByteArray) (w : World)
    (hB : Below w0.heap.size w0 w) (hs : Bs w w0.heap.size ok g tr all) (hr1 : Kd.C k74 w0 A1 l1.length l1) (hc1 : l1.length ≤ c1) (hr2 : Kd.C k32 w0 A2 l2.length l2) (hc2 : l2.length ≤ c2) (h : bnode k ⟨a0, l1, l2⟩ tr all = some (tr', all')),
    Calls Try.prog 29 #[.pointer (some ⟨g, 0, none⟩), .agg #[.string a0, .slice A1 l1.length c1, .slice A2 l2.length c2]] w fun e w' => e = .returned (.tuple #[]) ∧ Bs w' w0.heap.size (fun k => ok k ∨ w.heap.size ≤ k) g tr' all' ∧ Below w0.heap.size w0 w' ∧ Kept w w' ok := by
  induction k with
  | zero => intro a0 A1 c1 l1 A2 c2 l2 g ok tr tr' all all' w hB hs hr1 hc1 hr2 hc2 h; cases h
  | succ k ih =>
  intro a0 A1 c1 l1 A2 c2 l2 g ok tr tr' all all' w hB hs hr1 hc1 hr2 hc2 h
  obtain ⟨⟨g0, g1, g2⟩, t1, t2, t3, p1, p2, z1, z2, e1, e2, e3, e4, e5, e6, rfl⟩ := bnode_open h
  have E1 := Aside0.mk e1; have E2 := Aside0.mk e2; have E3 := Aside0.mk e3; have E4 := Aside0.mk e4; have E5 := Aside0.mk e5; have E6 := Aside0.mk e6
  have HN := Aside0.mk (NS.begin_ hB hs)
  have HR1 := Aside0.mk hr1; have HC1 := Aside0.mk hc1; have HR2 := Aside0.mk hr2; have HC2 := Aside0.mk hc2; have G0 := Aside0.mk g0; have G1 := Aside0.mk g1; have G2 := Aside0.mk g2
  have IH := Aside0.mk ih
  clear h e1 e2 e3 e4 e5 e6 hB hs hr1 hc1 hr2 hc2 g0 g1 g2 ih
  have hu32 := Try.underlying32
  have hu74 := Try.underlying74
  go_enter Try.func29, Try.ntmps29
  go_wp2_with (first | (((with_reducible refine gate_dst (N := 3) rfl ?_); refine bx_ev rfl rfl (N := 3) rfl (#[.string a0, .slice A1 l1.length c1, .slice A2 l2.length c2]) rfl ?_; intro gn hg_gn w1 hb_gn hk_gn; have Hg_gn := Aside0.mk hg_gn; clear hg_gn); have HN1 := Aside0.mk (HN.out.make (pr' := fun k => k = gn) hk_gn Hg_gn.out (blk_lt hb_gn) (fun k hk => .inr hk)); have HBN := Aside0.mk hb_gn; clear hb_gn hk_gn HN) | ((with_reducible refine gate_callee (f := 30) rfl ?_); refine goesL_ (some 9) rfl rfl Try.func30 (by kernel_rfl) rfl #[.pointer (some ⟨g, 0, none⟩), .int .u32 1] rfl (by simp only [List.map_toArray, List.map_cons, List.map_nil]; rfl) ?_; (with_reducible refine (word_b E1.out HN1.out).mono ?_); rintro e w2 ⟨rfl, hn, hk⟩; refine ⟨_, rfl, ?_⟩; have HN2 := Aside0.mk hn; have HBN2 := Aside0.mk (blk_kept HBN.out hk (fun q => q.2 rfl)); clear hn hk HN1 HBN) | fail)
  go_cut [] (fun wc => Aside0 (NS w0 w wc ok (fun k => k = gn) g t2 all) ∧ Aside0 (wc.heap[gn]? = some (.cells #[.string a0, .slice A1 l1.length c1, .slice A2 l2.length c2] 32 (0, 0))))
  case first =>
   obtain ⟨u, v, B, hb, hu, hv, hm, q1, q2, q8, q9, qBg⟩ := HN2.out.bs.open_
   obtain ⟨A, c, rfl⟩ := Kd.R_slice hu
   have c0 : w2.cell? ⟨g, 0, none⟩ = some (.slice A t1.length c) := blk_cell hb 0
   have cn : w2.cell? ⟨gn, 0, none⟩ = some (.string a0) := blk_cell HBN2.out 0
   have c0a : (w2.alloc (Obj.cells #[Value.string a0] 9)).cell? ⟨g, 0, none⟩ = some (.slice A t1.length c) := blk_cell (blk_alloc hb _) 0
   have Hb := Aside0.mk hb; have Hu := Aside0.mk hu; have Hv := Aside0.mk hv; have Hm := Aside0.mk hm; have Q1 := Aside0.mk q1; have Q2 := Aside0.mk q2; have Q8 := Aside0.mk q8; have Q9 := Aside0.mk q9; have QBg := Aside0.mk qBg
   obtain ⟨ys, hys⟩ : ∃ ys, ys = bytesOf a0 ++ [0] := ⟨_, rfl⟩
   have HYS := Aside0.mk hys
   have HE2 := Aside0.mk (show t1.length + ys.length < 140737488355328 ∧ t2 = t1 ++ ys from by rw [hys]; exact bput_open E2.out)
   have HSL := Aside0.mk (show a0.size < 140737488355320 from by have := G0.out; omega)
   clear hb hu hv hm q1 q2 q8 q9 qBg hys
   go_region_law (first | (refine goes_ (N := some 18) Try.func19 (by kernel_rfl) rfl #[.slice (some ⟨w2.heap.size, 0, none⟩) 1 1] (by rfl) rfl (by rfl) (by simp only [List.map_toArray, List.map_cons, List.map_nil]; rfl) ?_; (refine (text1_c a0 ys HYS.out HSL.out w2.drew).mono ?_); rintro e w7 ⟨v10, rfl, ho, hb7⟩; refine ⟨_, rfl, ?_⟩; obtain ⟨A7, c7, rfl⟩ := Kd.R_slice ho; have k7 : w7.cell? ⟨g, 0, none⟩ = some (.slice A t1.length c) := (hb7.cell (World.block_lt_of_cell? w2 _ c0)).trans c0; have HB7 := Aside0.mk (below_step (below_drew1 (Below.refl _ w2)) hb7); have HO7 := Aside0.mk ho; clear hb7 ho) | (refine Kd.R_append_rows_step U8 (w0 := w0) w0.heap.size (by rfl) (.tmp 14) (.tmp 18) 25 5 (.int .u8 0) 1 (by rfl) Try.underlying25 info5 rfl (by decide) (by omega) (.slice A t1.length c) t1 ys A7 ys.length c7 (fun _ => True) (fun _ => False) (by rfl) (by rfl) ?aO ?aR (fun _ _ h => h) (fun _ h => h.elim) (fun _ _ => trivial) ?aB ?aS ?aL ?_; (case aO => exact Kd.R_mono (Kd.R_below Hu.out HB7.out) (fun _ _ => trivial)); (case aR => exact (Kd.R_reads' HO7.out).2.2); (case aB => exact below_step HN2.out.be HB7.out); (case aS => exact (below_step HN2.out.be HB7.out).size); (case aL => have := HE2.out.1; omega); intro v8 w8 ho8 hb8 hg8 hat8; obtain ⟨A8, c8, rfl⟩ := Kd.R_slice ho8; have k8 : w8.cell? ⟨g, 0, none⟩ = some (.slice A t1.length c) := hg8.cell k7 (fun q => (Hu.out.1 g q.symm).2.1 rfl); have z8 : w8.frozen? ⟨g, 0, none⟩ = false := blk_frozen (blk_grown (blk_below Hb.out HB7.out) hg8 (fun q => (Hu.out.1 g q.symm).2.1 rfl)) 0; have HO8 := Aside0.mk ho8; have HB8 := Aside0.mk hb8; have HG8 := Aside0.mk hg8; have HA8 := Aside0.mk hat8; clear ho8 hb8 hg8 hat8) | fail)
   all_goals
    go_wp2
    have hl8 : (t1 ++ ys).length = t1.length + ys.length := List.length_append
    have ho8 := HO8.out; have ha8 := HA8.out
    rw [hl8] at ho8 ha8
    rw [← HE2.out.2] at ho8
    obtain ⟨q1, q2, q3⟩ := Bs.tree2 Hb.out Hu.out Hv.out Hm.out Q1.out Q2.out Q8.out Q9.out QBg.out HB7.out HB8.out ho8 HG8.out ha8
    have R1 := Aside0.mk (HN2.out.step q1 q2 q3)
    have R2 := Aside0.mk (blk_kept HBN2.out q3 (fun q => q.2 rfl))
    clear q1 q2 q3 ho8 ha8 hl8
    go_meet
    case rel => exact ⟨R1, R2⟩
  case rest =>
   obtain ⟨HN3, HBN3⟩ := hcut
   clear HN2 HBN2
   go_wp2_with (first | ((with_reducible refine gate_callee (f := 41) rfl ?_); refine goesL_ (some 23) rfl rfl Try.func41 (by kernel_rfl) rfl #[.pointer (some ⟨g, 0, none⟩)] rfl (by simp only [List.map_toArray, List.map_cons, List.map_nil]; rfl) ?_; (with_reducible refine (padded_b E3.out HN3.out).mono ?_); rintro e w4 ⟨rfl, hn, hk⟩; refine ⟨_, rfl, ?_⟩; have HN4 := Aside0.mk hn; have hbn4 := blk_kept HBN3.out hk (fun q => q.2 rfl); have HBN4 := Aside0.mk hbn4; have cn1 : w4.cell? ⟨gn, 1, none⟩ = some (.slice A1 l1.length c1) := blk_cell hbn4 1; clear hn hk HN3 HBN3 hbn4) | fail)
   go_loopg [27] l1.length (fun kq v27 w' => ∃ (i : Nat) (tri : List Int) (alli : List ByteArray), v27 = .int .i64 (i : Int) ∧ Aside0 (kq + i = l1.length) ∧ Aside0 (bprops (l1.drop i) tri alli = some (p1, p2)) ∧ Aside0 (NS w0 w w' ok (fun k => k = gn) g tri alli) ∧ Aside0 (w'.heap[gn]? = some (.cells #[.string a0, .slice A1 l1.length c1, .slice A2 l2.length c2] 32 (0, 0))))
   case atStart => exact ⟨0, t3, all, rfl, ⟨by omega⟩, ⟨by rw [List.drop_zero]; exact E4.out⟩, HN4, HBN4⟩
   case round =>
    clear HN4 HBN4 cn1
    obtain ⟨i, tri, alli, rfl, HI, HP, HN, HBN⟩ := hrel
    cases gk with
    | zero =>
      obtain rfl : i = l1.length := by have := HI.out; omega
      have hP := HP.out
      rw [List.drop_length] at hP
      obtain ⟨rfl, rfl⟩ := Prod.mk.inj (Option.some.inj (show some (tri, alli) = some (p1, p2) from hP))
      have cn2 : wr.cell? ⟨gn, 2, none⟩ = some (.slice A2 l2.length c2) := blk_cell HBN.out 2
      clear hP HP HI
      go_wp2
      go_loopg [61] l2.length (fun kq v61 w' => ∃ (i : Nat) (tri : List Int) (alli : List ByteArray), v61 = .int .i64 (i : Int) ∧ Aside0 (kq + i = l2.length) ∧ Aside0 (bnodes (bnode k) (l2.drop i) tri alli = some (z1, all')) ∧ Aside0 (NS w0 w w' ok (fun k => k = gn) g tri alli))
      case atStart => exact ⟨0, tri, alli, rfl, ⟨by omega⟩, ⟨by rw [List.drop_zero]; exact E5.out⟩, HN⟩
      case round =>
        clear HN HBN cn2
        obtain ⟨i, tri, alli, rfl, HI, HP, HN⟩ := hrel
        cases gk with
        | zero =>
          obtain rfl : i = l2.length := by have := HI.out; omega
          have hP := HP.out
          rw [List.drop_length] at hP
          obtain ⟨rfl, rfl⟩ := Prod.mk.inj (Option.some.inj (show some (tri, alli) = some (z1, all') from hP))
          clear hP HP HI
          go_wp2_with (first | ((with_reducible refine gate_callee (f := 30) rfl ?_); refine goesL_ (some 70) rfl rfl Try.func30 (by kernel_rfl) rfl #[.pointer (some ⟨g, 0, none⟩), .int .u32 2] rfl (by simp only [List.map_toArray, List.map_cons, List.map_nil]; rfl) ?_; (with_reducible refine (word_b E6.out HN.out).mono ?_); rintro e w7 ⟨rfl, hn, hk⟩; refine ⟨_, rfl, ?_⟩; have HN7 := Aside0.mk hn; clear hn hk HN) | fail)
          first | go_end0 | ((try simp only [Exit.inBlock, Exit.then]); refine bodyPost_ret (results_none rfl _ _ _) rfl ?_)
          exact ⟨rfl, HN7.out.bs.mono (fun k hk _ _ => hk.1), HN7.out.be, HN7.out.kp⟩
        | succ k1 =>
          have hi := HI.out
          have hlt : i < l2.length := by omega
          have hP := HP.out
          rw [drop_T32 hlt] at hP
          obtain ⟨ad, A1', c1', A2', c2', e, x0, x1, x2, xl1, xc1, xl2, xc2⟩ := at_T32 HR2.out (i : Int) (by omega) (by omega)
          rw [Int.toNat_natCast] at x0 x1 x2
          generalize hnn : rd_T32 l2 (i : Int) = nn at *
          clear hnn
          simp only [bnodes] at hP
          obtain ⟨⟨t1', all1'⟩, f1, f2⟩ := Option.bind_eq_some_iff.mp hP
          cases e
          replace x0 := (HN.out.be.cell (World.block_lt_of_cell? w0 _ x0)).trans x0
          replace x1 := (HN.out.be.cell (World.block_lt_of_cell? w0 _ x1)).trans x1
          replace x2 := (HN.out.be.cell (World.block_lt_of_cell? w0 _ x2)).trans x2
          have F1 := Aside0.mk (show bnode k ⟨nn.f0, nn.f1, nn.f2⟩ tri alli = some (t1', all1') from by cases nn; exact f1); have F2 := Aside0.mk f2; have XL1 := Aside0.mk xl1; have XC1 := Aside0.mk xc1; have XL2 := Aside0.mk xl2; have XC2 := Aside0.mk xc2
          have b0 : decide ((i : Int) < (l2.length : Int)) = true := decide_eq_true (by omega)
          have b1 : decide (i < l2.length) = true := decide_eq_true hlt
          have b2 := eq_true (show (0 : Int) ≤ (i : Int) by omega)
          have b3 := eq_true (show (i : Int) < (l2.length : Int) by omega)
          have b6 : (i : Int) < 65536 := by have := G2.out; omega
          clear hi hlt hP f1 f2 xl1 xc1 xl2 xc2 HP
          have HN6 := Aside0.mk (HN.out.below (below_alloc (Below.refl _ _) (.cells #[.string nn.f0, .slice A1' nn.f1.length c1', .slice A2' nn.f2.length c2'] 32)))
          go_wp2_with (first | ((with_reducible refine gate_callee (f := 29) rfl ?_); refine goesL_ (some 67) rfl rfl Try.func29 (by kernel_rfl) rfl #[.pointer (some ⟨g, 0, none⟩), .agg #[.string nn.f0, .slice A1' nn.f1.length c1', .slice A2' nn.f2.length c2']] rfl (by simp only [List.map_toArray, List.map_cons, List.map_nil]; rfl) ?_; (with_reducible refine (IH.out nn.f0 A1' c1' nn.f1 A2' c2' nn.f2 g _ tri t1' alli all1' _ HN6.out.be HN6.out.bs XC1.out XL1.out XC2.out XL2.out F1.out).mono ?_); rintro e w7 ⟨rfl, q1, q2, q3⟩; refine ⟨_, rfl, ?_⟩; have HN7 := Aside0.mk (HN6.out.step q1 q2 q3); clear q1 q2 q3 HN6) | fail)
          go_roundg k1
          case measure => omega
          case rel => exact ⟨i + 1, t1', all1', by go_num, ⟨by have := HI.out; omega⟩, F2, HN7⟩
    | succ k1 =>
      have hi := HI.out
      have hlt : i < l1.length := by omega
      have hP := HP.out
      rw [drop_T74 hlt] at hP
      obtain ⟨ad, A', c', e, x0, x1, xl, xc⟩ := at_T74 HR1.out (i : Int) (by omega) (by omega)
      rw [Int.toNat_natCast] at x0 x1
      generalize rd_T74 l1 (i : Int) = pp at *
      obtain ⟨y0, t1', t2', n', all1', t3', t4', t5', f1, f2, f3, f4, f5, f6, f7⟩ := bprops_open hP
      cases e
      replace x0 := (HN.out.be.cell (World.block_lt_of_cell? w0 _ x0)).trans x0
      replace x1 := (HN.out.be.cell (World.block_lt_of_cell? w0 _ x1)).trans x1
      have F1 := Aside0.mk f1; have F2 := Aside0.mk f2; have F3 := Aside0.mk f3; have F4 := Aside0.mk f4; have F5 := Aside0.mk f5; have F6 := Aside0.mk f6; have F7 := Aside0.mk f7; have XL := Aside0.mk xl; have XC := Aside0.mk xc
      have b0 : decide ((i : Int) < (l1.length : Int)) = true := decide_eq_true (by omega)
      have b1 : decide (i < l1.length) = true := decide_eq_true hlt
      have b2 := eq_true (show (0 : Int) ≤ (i : Int) by omega)
      have b3 := eq_true (show (i : Int) < (l1.length : Int) by omega)
      have b4 : (0 : Int) ≤ (pp.f1.length : Int) := by omega
      have b5 : (pp.f1.length : Int) < 2147483648 := by omega
      have b6 : (i : Int) < 65536 := by have := G1.out; omega
      clear hi hlt hP f1 f2 f3 f4 f5 f6 f7 xl xc y0 HP
      have hgp5 : (wr.alloc (.cells #[.string pp.f0, .slice A' pp.f1.length c'] 74)).heap[wr.heap.size]? = some (.cells #[.string pp.f0, .slice A' pp.f1.length c'] 74 (0, 0)) := by simpa using heap_alloc_new wr _
      have HGP6 := Aside0.mk hgp5
      have HN6 := Aside0.mk (HN.out.make (w3 := wr.alloc (.cells #[.string pp.f0, .slice A' pp.f1.length c'] 74)) (pr' := fun k => k = gn ∨ k = wr.heap.size) ((Kp.refl _ _).alloc _) rfl (blk_lt hgp5) (fun k hk => hk))
      have HBN6 := Aside0.mk (blk_alloc HBN.out (.cells #[.string pp.f0, .slice A' pp.f1.length c'] 74))
      clear hgp5
      go_wp2_with (first | ((with_reducible refine gate_callee (f := 30) rfl ?_); refine goesL_ (some 32) rfl rfl Try.func30 (by kernel_rfl) rfl #[.pointer (some ⟨g, 0, none⟩), .int .u32 3] rfl (by simp only [List.map_toArray, List.map_cons, List.map_nil]; rfl) ?_; (with_reducible refine (word_b F1.out HN6.out).mono ?_); rintro e w7 ⟨rfl, hn, hk⟩; refine ⟨_, rfl, ?_⟩; have HN7 := Aside0.mk hn; have HBN7 := Aside0.mk (blk_kept HBN6.out hk (fun q => q.2 (.inl rfl))); have hgp7 := blk_kept HGP6.out hk (fun q => q.2 (.inr rfl)); have HGP7 := Aside0.mk hgp7; have cp7 : w7.cell? ⟨wr.heap.size, 1, none⟩ = some (.slice A' pp.f1.length c') := blk_cell hgp7 1; clear hn hk hgp7 HN6 HBN6 HGP6) | ((with_reducible refine gate_callee (f := 30) rfl ?_); refine goesL_ (some 38) rfl rfl Try.func30 (by kernel_rfl) rfl #[.pointer (some ⟨g, 0, none⟩), .int .u32 (pp.f1.length : Int)] rfl (by simp only [List.map_toArray, List.map_cons, List.map_nil]; rfl) ?_; (with_reducible refine (word_b F2.out HN7.out).mono ?_); rintro e w8 ⟨rfl, hn, hk⟩; refine ⟨_, rfl, ?_⟩; have HN8 := Aside0.mk hn; have HBN8 := Aside0.mk (blk_kept HBN7.out hk (fun q => q.2 (.inl rfl))); have hgp8 := blk_kept HGP7.out hk (fun q => q.2 (.inr rfl)); have HGP8 := Aside0.mk hgp8; have cp8 : w8.cell? ⟨wr.heap.size, 0, none⟩ = some (.string pp.f0) := blk_cell hgp8 0; clear hn hk hgp8 HN7 HBN7 HGP7) | ((with_reducible refine gate_callee (f := 42) rfl ?_); refine goesL_ (some 43) rfl rfl Try.func42 (by kernel_rfl) rfl #[.pointer (some ⟨g, 0, none⟩), .string pp.f0] rfl (by simp only [List.map_toArray, List.map_cons, List.map_nil]; rfl) ?_; (with_reducible refine (name_b F3.out HN8.out).mono ?_); rintro e w9 ⟨rfl, hn, hk⟩; refine ⟨_, rfl, ?_⟩; have HN9 := Aside0.mk hn; have HBN9 := Aside0.mk (blk_kept HBN8.out hk (fun q => q.2 (.inl rfl))); have HGP9 := Aside0.mk (blk_kept HGP8.out hk (fun q => q.2 (.inr rfl))); clear hn hk HN8 HBN8 HGP8) | ((with_reducible refine gate_callee (f := 30) rfl ?_); refine goesL_ (some 44) rfl rfl Try.func30 (by kernel_rfl) rfl #[.pointer (some ⟨g, 0, none⟩), .int .u32 n'] rfl (by simp only [List.map_toArray, List.map_cons, List.map_nil]; rfl) ?_; (with_reducible refine (word_b F4.out HN9.out).mono ?_); rintro e w10 ⟨rfl, hn, hk⟩; refine ⟨_, rfl, ?_⟩; have HN10 := Aside0.mk hn; have HBN10 := Aside0.mk (blk_kept HBN9.out hk (fun q => q.2 (.inl rfl))); have HGP10 := Aside0.mk (blk_kept HGP9.out hk (fun q => q.2 (.inr rfl))); clear hn hk HN9 HBN9 HGP9) | fail)
      obtain ⟨u, v, B, hb, hu, hv, hm, q1, q2, q8, q9, qBg⟩ := HN10.out.bs.open_
      obtain ⟨A, c, rfl⟩ := Kd.R_slice hu
      have c0 : w10.cell? ⟨g, 0, none⟩ = some (.slice A t3'.length c) := blk_cell hb 0
      have cp : w10.cell? ⟨wr.heap.size, 1, none⟩ = some (.slice A' pp.f1.length c') := blk_cell HGP10.out 1
      have Hb := Aside0.mk hb; have Hu := Aside0.mk hu; have Hv := Aside0.mk hv; have Hm := Aside0.mk hm; have Q1 := Aside0.mk q1; have Q2 := Aside0.mk q2; have Q8 := Aside0.mk q8; have Q9 := Aside0.mk q9; have QBg := Aside0.mk qBg
      have HE5 := Aside0.mk (bput_open F5.out)
      clear hb hu hv hm q1 q2 q8 q9 qBg
      go_region_law (first | (refine Kd.R_append_rows_step U8 (w0 := w0) w0.heap.size (by rfl) (.tmp 49) (.tmp 51) 25 5 (.int .u8 0) 1 (by rfl) Try.underlying25 info5 rfl (by decide) (by omega) (.slice A t3'.length c) t3' pp.f1 A' pp.f1.length c' (fun _ => True) (fun _ => False) (by rfl) (by rfl) ?aO ?aR (fun _ _ h => h) (fun _ h => h.elim) (fun _ _ => trivial) ?aB ?aS ?aL ?_; (case aO => exact Kd.R_mono (Kd.R_drew Hu.out) (fun _ _ => trivial)); (case aR => exact Kd.C_below XC.out (below_drew1 HN10.out.be)); (case aB => exact below_drew1 HN10.out.be); (case aS => exact HN10.out.be.size); (case aL => have := HE5.out.1; omega); intro v8 w8 ho8 hb8 hg8 hat8; obtain ⟨A8, c8, rfl⟩ := Kd.R_slice ho8; have k8 : w8.cell? ⟨g, 0, none⟩ = some (.slice A t3'.length c) := hg8.cell (w := w10.drew) c0 (fun q => (Hu.out.1 g q.symm).2.1 rfl); have z8 : w8.frozen? ⟨g, 0, none⟩ = false := blk_frozen (blk_grown (blk_drew Hb.out) hg8 (fun q => (Hu.out.1 g q.symm).2.1 rfl)) 0; have HO8 := Aside0.mk ho8; have HB8 := Aside0.mk hb8; have HG8 := Aside0.mk hg8; have HA8 := Aside0.mk hat8; clear ho8 hb8 hg8 hat8) | fail)
      all_goals
        have hl8 : (t3' ++ pp.f1).length = t3'.length + pp.f1.length := List.length_append
        have ho8 := HO8.out; have ha8 := HA8.out
        rw [hl8] at ho8 ha8
        rw [← HE5.out.2] at ho8
        obtain ⟨q1, q2, q3⟩ := Bs.tree2 Hb.out Hu.out Hv.out Hm.out Q1.out Q2.out Q8.out Q9.out QBg.out (below_drew1 (Below.refl _ _)) HB8.out ho8 HG8.out ha8
        have HN11 := Aside0.mk (HN10.out.step q1 q2 q3)
        have HBN11 := Aside0.mk (blk_kept HBN10.out q3 (fun q => q.2 (.inl rfl)))
        clear q1 q2 q3 ho8 ha8 hl8
        go_wp2_with (first | ((with_reducible refine gate_callee (f := 41) rfl ?_); refine goesL_ (some 56) rfl rfl Try.func41 (by kernel_rfl) rfl #[.pointer (some ⟨g, 0, none⟩)] rfl (by simp only [List.map_toArray, List.map_cons, List.map_nil]; rfl) ?_; (with_reducible refine (padded_b F6.out HN11.out).mono ?_); rintro e w12 ⟨rfl, hn, hk⟩; refine ⟨_, rfl, ?_⟩; have HN12 := Aside0.mk (NS.weak (pr := fun k => k = gn) hn (fun k hk => .inl hk)); have HBN12 := Aside0.mk (blk_kept HBN11.out hk (fun q => q.2 (.inl rfl))); clear hn hk HN11 HBN11) | fail)
        go_roundg k1
        case measure => omega
        case rel => exact ⟨i + 1, t5', all1', by go_num, ⟨by have := HI.out; omega⟩, F7, HN12, HBN12⟩
end Go.Proofs.Ytmhlellhfepkkaa.B
