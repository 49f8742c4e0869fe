/- vireoref26.tree. -/
import Derived.Test.YtmhlellhfepkkaaHtr
namespace Go.Proofs.Ytmhlellhfepkkaa.PAl
open Go.RowKit Go.Proofs.YtmhlellhfepkkaaW.PrintWords Go.Proofs.YtmhlellhfepkkaaW.PrintLast Go.Proofs.YtmhlellhfepkkaaW.PrintMore Go.Proofs.Ytmhlellhfepkkaa.H Go.Proofs.Ytmhlellhfepkkaa.B
set_option linter.unusedVariables false
set_option linter.unusedSimpArgs false
theorem drop_T50 {l : List S50} {i : Nat} (h : i < l.length) : l.drop i = rd_T50 l (i : Int) :: l.drop (i + 1) := by
  rw [List.drop_eq_getElem_cons h]; congr 1; simp [rd_T50, List.getD, h]
theorem drop_T55 {l : List S55} {i : Nat} (h : i < l.length) : l.drop i = rd_T55 l (i : Int) :: l.drop (i + 1) := by
  rw [List.drop_eq_getElem_cons h]; congr 1; simp [rd_T55, List.getD, h]
set_option maxHeartbeats 4000000 in
set_option maxRecDepth 100000 in
theorem vireoref26_tree.calls (k : Nat) : ∀ (A0 : Option Addr) (c0 : Nat) (l0 : List (S50)) (a1 : Int) (P2_ : Nat → Prop) (u9000_ : Value) (l2 : List ByteArray) (r1 : List Int) (r2 : List ByteArray) (w0 w : World) (hB : Below w0.heap.size w0 w) (hr0 : ∀ W_, Kept w W_ (fun k_ => P2_ k_) → Kd.C k50 W_ A0 l0.length l0) (hc0 : l0.length ≤ c0) (ho2 : Kd.R Kd.string 9 w w0.heap.size P2_ u9000_ l2) (h : vireoref26_tree.f k l0 a1 l2 = some (r1, r2)),
    Calls Try.prog 33 #[.slice A0 l0.length c0, .int .i64 a1, u9000_] w fun e w' => ∃ v0_ v1_ : Value, e = .returned (.tuple #[v0_, v1_]) ∧ Kd.R (Kd.int .u8) 5 w' w0.heap.size (fun k_ => (P2_ k_ ∨ w.heap.size ≤ k_)) v0_ r1 ∧ Kd.R Kd.string 9 w' w0.heap.size (fun k_ => (P2_ k_ ∨ w.heap.size ≤ k_)) v1_ r2 ∧ Below w0.heap.size w0 w' ∧ Kept w w' (fun k_ => P2_ k_) := by
  induction k with
  | zero => intro A0 c0 l0 a1 P2_ u9000_ l2 r1 r2 w0 w hB hr0 hc0 ho2 h; cases h
  | succ k ih =>
  intro A0 c0 l0 a1 P2_ u9000_ l2 r1 r2 w0 w hB hr0 hc0 ho2 h
  obtain ⟨⟨g0, g1, g2, g3, g4⟩, t1, o1, o2, o3, q1, q2, z1, t2, e1, e2, e3, e4, e5, e6, e7, e8⟩ := tree_open h
  obtain ⟨ad, _, _, ea, _⟩ := at_T50 (hr0 w (Kept.refl _ _)) a1 g0 g1
  subst ea
  obtain ⟨A2, c2, hxx, _, hyy⟩ := at50k hr0 a1 g0 g1
  have HX := Aside0.mk hxx; have HY := Aside0.mk hyy
  clear hxx hyy
  have E1 := Aside0.mk e1; have E2 := Aside0.mk (bput_open e2); have E3 := Aside0.mk (bput_open e3); have E4 := Aside0.mk e4; have E5 := Aside0.mk e5; have E6 := Aside0.mk e6; have E7 := Aside0.mk e7; have E8 := Aside0.mk (bput_open e8)
  have HB := Aside0.mk hB; have HR := Aside0.mk hr0; have HC := Aside0.mk hc0; have HO2 := Aside0.mk ho2; have IH := Aside0.mk ih; have G0 := Aside0.mk g0; have G1 := Aside0.mk g1; have G2 := Aside0.mk g2; have G3 := Aside0.mk g3; have G4 := Aside0.mk g4
  have p0 := eq_true g0
  have p1 := eq_true g1
  have hu55 := Try.underlying55
  have hu50 := Try.underlying50
  clear h e1 e2 e3 e4 e5 e6 e7 e8 hB hr0 hc0 ho2 ih g0 g1 g2 g3 g4
  go_enter Try.func33, Try.ntmps33
  go_wp2_with (first | ((with_reducible refine gate_callee (f := 17) rfl ?_); refine goesL_ (some 14) rfl rfl Try.func17 (by kernel_rfl) rfl #[.int .i64 1] rfl (by simp only [List.map_toArray, List.map_cons, List.map_nil]; rfl) ?_; (with_reducible refine (vireoref26_Word.calls 1 t1 _ E1.out).mono ?_); rintro e w1 ⟨v8, rfl, ho, hb⟩; refine ⟨_, rfl, ?_⟩; have T1 := Aside0.mk (TS.start HB.out HO2.out ho hb); obtain ⟨x0, x1, x2⟩ := HX.out w1 T1.out.kp; clear ho hb) | ((with_reducible refine gate_builtin (b := .append) (xs := #[.tmp 15, .tmp 20]) rfl ?_); refine Vs.R_append_str (w0 := w0) w0.heap.size rfl (.tmp 15) (.tmp 20) 25 9 5 rfl Try.underlying25 Try.underlying9 info5 v8 t1 (rd_T50 l0 a1).f1 (fun _ => True) rfl rfl (fun _ _ => trivial) ?aO ?aB ?aS ?aL ?_; (case aO => exact Kd.R_mono T1.out.o (fun _ _ => trivial)); (case aB => exact T1.out.be); (case aS => exact T1.out.be.size); (case aL => have := E2.out.1; have := bytesOf_length (rd_T50 l0 a1).f1; omega); intro v21 w2 ho hb hg hat; rw [← E2.out.2] at ho; have T2 := Aside0.mk (T1.out.app ho hb hg hat); clear ho hb hg hat T1) | ((with_reducible refine gate_builtin (b := .append) (xs := #[.tmp 21, .tmp 22]) rfl ?_); refine Kd.R_append U8 (w0 := w0) w0.heap.size rfl (.tmp 21) (.tmp 22) 25 5 (.int .u8 0) 1 rfl Try.underlying25 info5 rfl (by decide) (by omega) v21 o1 0 [.int .u8 0] (fun _ => True) (fun _ => False) rfl rfl ?aP (fun _ hk => hk.elim) (fun _ _ => trivial) ?aO ?aB ?aS ?aL ?_; (case aP => exact rfl); (case aO => exact Kd.R_mono T2.out.o (fun _ _ => trivial)); (case aB => exact T2.out.be); (case aS => exact T2.out.be.size); (case aL => have := E3.out.1; simp at this; omega); intro v23 w3 ho hb hg hat; rw [← E3.out.2] at ho; have T3 := Aside0.mk (T2.out.app ho hb hg hat); clear ho hb hg hat T2) | ((with_reducible refine gate_callee (f := 44) rfl ?_); refine goesL_ (some 24) rfl rfl Try.func44 (by kernel_rfl) rfl #[v23] rfl (by simp only [List.map_toArray, List.map_cons, List.map_nil]; rfl) ?_; (with_reducible refine (vireoref26_pad.calls 5 _ v23 o2 o3 w0 _ T3.out.be T3.out.ot E4.out).mono ?_); rintro e w4 ⟨v24, rfl, ho, hb, hk⟩; refine ⟨_, rfl, ?_⟩; have T4 := Aside0.mk (T3.out.put ho (fun k q => ho.1 k q) hb hk); clear ho hb hk T3) | fail)
  have b9 : a1 < 65536 := by have := G1.out; have := G2.out; omega
  go_loopg [2, 8, 9] (rd_T50 l0 a1).f2.length (fun kq v2 v8 v9 w' => ∃ (i : Nat) (out : List Int) (all : List ByteArray), v9 = .int .i64 (i : Int) ∧ Aside0 (kq + i = (rd_T50 l0 a1).f2.length) ∧ Aside0 (rprops ((rd_T50 l0 a1).f2.drop i) out all = some (q1, q2)) ∧ Aside0 (TS w0 w w' P2_ v8 v2 out all))
  case atStart => exact ⟨0, o3, l2, rfl, ⟨by omega⟩, ⟨by rw [List.drop_zero]; exact E5.out⟩, T4⟩
  case round =>
    clear T4 x0 x1 x2
    obtain ⟨i, out, all, rfl, HI, HP, HT⟩ := hrel
    obtain ⟨x0, x1, x2⟩ := HX.out _ HT.out.kp
    cases gk with
    | zero =>
      obtain rfl : i = (rd_T50 l0 a1).f2.length := by have := HI.out; omega
      have hP := HP.out
      rw [List.drop_length] at hP
      obtain ⟨rfl, rfl⟩ := Prod.mk.inj (Option.some.inj (show some (out, all) = some (q1, q2) from hP))
      have E6' := Aside0.mk (show rkids (fun j a => vireoref26_tree.f k l0 j a) a1 (l0.drop (a1.toNat + 1)) ((a1.toNat + 1 : Nat) : Int) out all = some (z1, r2) from by have := E6.out; rwa [show a1 + 1 = ((a1.toNat + 1 : Nat) : Int) by have := G0.out; omega] at this)
      clear hP HP HI
      go_wp2
      go_loopg [2, 8, 12] (l0.length - (a1.toNat + 1)) (fun kq v2 v8 v12 w' => ∃ (j : Nat) (out : List Int) (all : List ByteArray), v12 = .int .i64 (j : Int) ∧ Aside0 (kq + j = l0.length) ∧ Aside0 (rkids (fun j a => vireoref26_tree.f k l0 j a) a1 (l0.drop j) (j : Int) out all = some (z1, r2)) ∧ Aside0 (TS w0 w w' P2_ v8 v2 out all))
      case atStart => exact ⟨a1.toNat + 1, out, all, congrArg (Value.int .i64) (by have := G0.out; have := G1.out; have := G2.out; first | omega | (unfold wrap64; omega)), ⟨by have := G0.out; have := G1.out; omega⟩, E6', HT⟩
      case round =>
        clear HT E6' x0 x1 x2
        obtain ⟨j, out, all, rfl, HI, HP, HT⟩ := hrel
        cases gk with
        | zero =>
          obtain rfl : j = l0.length := by have := HI.out; omega
          have hP := HP.out
          rw [List.drop_length] at hP
          obtain ⟨rfl, rfl⟩ := Prod.mk.inj (Option.some.inj (show some (out, all) = some (z1, r2) from hP))
          clear hP HP HI
          go_wp2_with (first | ((with_reducible refine gate_callee (f := 17) rfl ?_); refine goesL_ (some 94) rfl rfl Try.func17 (by kernel_rfl) rfl #[.int .i64 2] rfl (by simp only [List.map_toArray, List.map_cons, List.map_nil]; rfl) ?_; (with_reducible refine (vireoref26_Word.calls 2 t2 _ E7.out).mono ?_); rintro e w6 ⟨vw, rfl, ho, hb⟩; refine ⟨_, rfl, ?_⟩; obtain ⟨Aw, cw, rfl⟩ := Kd.R_slice ho; have RW := Aside0.mk ho; have HT1 := Aside0.mk (HT.out.below hb); clear ho hb HT) | ((with_reducible refine gate_builtin (b := .append) (xs := #[.tmp 93, .tmp 94]) rfl ?_); refine Kd.R_append_rows U8 (w0 := w0) w0.heap.size rfl (.tmp 93) (.tmp 94) 25 5 (.int .u8 0) 1 rfl Try.underlying25 info5 rfl (by decide) (by omega) u8 out t2 Aw t2.length cw (fun _ => True) (fun _ => False) rfl rfl ?aO ?aR (fun _ _ h => h) (fun _ h => h.elim) (fun _ _ => trivial) ?aB ?aS ?aL ?_; (case aO => exact Kd.R_mono HT1.out.o (fun _ _ => trivial)); (case aR => exact (Kd.R_reads' RW.out).2.2); (case aB => exact HT1.out.be); (case aS => exact HT1.out.be.size); (case aL => have := E8.out.1; omega); intro v95 w7 ho hb hg hat; rw [← E8.out.2] at ho; have HT2 := Aside0.mk (HT1.out.app ho hb hg hat); clear ho hb hg hat HT1) | fail)
          go_ret2
          exact ⟨_, _, rfl, HT2.out.o, HT2.out.a, HT2.out.be, HT2.out.kp⟩
        | succ k1 =>
          have hi := HI.out
          have hlt : j < l0.length := by omega
          have hP := HP.out
          rw [drop_T50 hlt] at hP
          simp only [rkids] at hP
          obtain ⟨_, _, y0, _⟩ := at50 (HR.out _ HT.out.kp) (j : Int) (by omega) (by omega)
          rw [Int.toNat_natCast] at y0
          generalize hpp : rd_T50 l0 (j : Int) = pp at *
          clear hpp
          have b0 : decide ((j : Int) < (l0.length : Int)) = true := decide_eq_true (by omega)
          have b1 : decide (j < l0.length) = true := decide_eq_true hlt
          have b2 := eq_true (show (0 : Int) ≤ (j : Int) by omega)
          have b3 := eq_true (show (j : Int) < (l0.length : Int) by omega)
          have b6 : (j : Int) < 65536 := by have := G2.out; omega
          by_cases cc : pp.f0 = a1
          · rw [if_pos cc] at hP
            have cb : (pp.f0 == a1) = true := beq_iff_eq.mpr cc
            obtain ⟨⟨m1, all1⟩, f1, hP⟩ := Option.bind_eq_some_iff.mp hP
            obtain ⟨m2, f2, hP⟩ := Option.bind_eq_some_iff.mp hP
            have F1 := Aside0.mk (show vireoref26_tree.f k l0 (j : Int) all = some (m1, all1) from f1); have F2 := Aside0.mk (bput_open f2); have F3 := Aside0.mk (show rkids (fun j a => vireoref26_tree.f k l0 j a) a1 (l0.drop (j + 1)) ((j + 1 : Nat) : Int) m2 all1 = some (z1, r2) from hP)
            clear hi hlt hP f1 f2 HP cc
            go_wp2_with (fail)
            refine (IH.out (some ad) c0 l0 (j : Int) (fun k => some k = (u2 : Value).ownBlock) u2 all m1 all1 w0 _ HT.out.be (fun W_ hk' => HR.out W_ (HT.out.kp.then_ hk' (fun k e => HT.out.a.1 k e.symm))) HC.out HT.out.at_ F1.out).mono ?_
            rintro e w6 ⟨vm, va, rfl, ho, ha, hb, hk⟩
            obtain ⟨Am, cm, rfl⟩ := Kd.R_slice ho
            have RM := Aside0.mk ho
            have HT1 := Aside0.mk (HT.out.names ha hb hk)
            clear ho ha hb hk HT IH
            dsimp only
            go_wp2_with (first | ((with_reducible refine gate_builtin (b := .append) (xs := #[.tmp 90, .tmp 91]) rfl ?_); refine Kd.R_append_rows U8 (w0 := w0) w0.heap.size rfl (.tmp 90) (.tmp 91) 25 5 (.int .u8 0) 1 rfl Try.underlying25 info5 rfl (by decide) (by omega) u8 out m1 Am m1.length cm (fun _ => True) (fun _ => False) rfl rfl ?aO ?aR (fun _ _ h => h) (fun _ h => h.elim) (fun _ _ => trivial) ?aB ?aS ?aL ?_; (case aO => exact Kd.R_mono HT1.out.o (fun _ _ => trivial)); (case aR => exact (Kd.R_reads' RM.out).2.2); (case aB => exact HT1.out.be); (case aS => exact HT1.out.be.size); (case aL => have := F2.out.1; omega); intro v92 w7 ho hb hg hat; rw [← F2.out.2] at ho; have HT2 := Aside0.mk (HT1.out.app ho hb hg hat); clear ho hb hg hat HT1) | fail)
            go_roundg k1
            case measure => omega
            case rel => exact ⟨j + 1, m2, all1, by go_num, ⟨by have := HI.out; omega⟩, F3, HT2⟩
          · rw [if_neg cc] at hP
            have cb : (pp.f0 == a1) = false := beq_eq_false_iff_ne.mpr cc
            have F3 := Aside0.mk (show rkids (fun j a => vireoref26_tree.f k l0 j a) a1 (l0.drop (j + 1)) ((j + 1 : Nat) : Int) out all = some (z1, r2) from hP)
            clear hi hlt hP HP cc
            go_wp2
            go_roundg k1
            case measure => omega
            case rel => exact ⟨j + 1, out, all, by go_num, ⟨by have := HI.out; omega⟩, F3, HT⟩
    | succ k1 =>
      have hi := HI.out
      have hlt : i < (rd_T50 l0 a1).f2.length := by omega
      have hP := HP.out
      rw [drop_T55 hlt] at hP
      obtain ⟨ad2, A', c', e, hy, yl, yc⟩ := at55k HY.out i hlt
      obtain ⟨y0, y1⟩ := hy _ HT.out.kp
      clear hy
      generalize hpp : rd_T55 (rd_T50 l0 a1).f2 (i : Int) = pp at *
      clear hpp
      obtain ⟨z0, n', all1', s3, m1, sl, m2, sa, m3, m4, m5, f1, f2, f3, f4, f5, f6, f7, f8, f9, f10⟩ := rprops_open hP
      subst e
      have F1 := Aside0.mk f1; have F2 := Aside0.mk f2; have F3 := Aside0.mk (bput_open f3); have F4 := Aside0.mk f4; have F5 := Aside0.mk (bput_open f5); have F6 := Aside0.mk f6; have F7 := Aside0.mk (bput_open f7); have F8 := Aside0.mk (bput_open f8); have F9 := Aside0.mk f9; have F10 := Aside0.mk f10; have YC := Aside0.mk yc
      have b0 : decide ((i : Int) < ((rd_T50 l0 a1).f2.length : Int)) = true := decide_eq_true (by omega)
      have b1 : decide (i < (rd_T50 l0 a1).f2.length) = true := decide_eq_true hlt
      have b2 := eq_true (show (0 : Int) ≤ (i : Int) by omega)
      have b3 := eq_true (show (i : Int) < ((rd_T50 l0 a1).f2.length : Int) by omega)
      have b4 : (0 : Int) ≤ (pp.f1.length : Int) := by omega
      have b5 : (pp.f1.length : Int) < 2147483648 := by omega
      have b6 : (i : Int) < 65536 := by have := G4.out; omega
      have hgp5 : (wr.alloc (.cells #[.string pp.f0, .slice A' pp.f1.length c'] 55)).heap[wr.heap.size]? = some (.cells #[.string pp.f0, .slice A' pp.f1.length c'] 55 (0, 0)) := by simpa using heap_alloc_new wr _
      have HG0 := Aside0.mk hgp5
      have HT0 := Aside0.mk (HT.out.below (below_alloc (Below.refl _ _) (.cells #[.string pp.f0, .slice A' pp.f1.length c'] 55)))
      have cp0 : (wr.alloc (.cells #[.string pp.f0, .slice A' pp.f1.length c'] 55)).cell? ⟨wr.heap.size, 0, none⟩ = some (.string pp.f0) := blk_cell hgp5 0
      clear hi hlt hP f1 f2 f3 f4 f5 f6 f7 f8 f9 f10 yc yl z0 HP hgp5 HT
      go_wp2_with (first | ((with_reducible refine gate_callee (f := 45) rfl ?_); refine goesL_ (some 47) rfl rfl Try.func45 (by kernel_rfl) rfl #[u2, .string pp.f0] rfl (by simp only [List.map_toArray, List.map_cons, List.map_nil]; rfl) ?_; (with_reducible refine (vireoref26_names.calls (all.length + 2) _ u2 all pp.f0 n' all1' w0 _ HT0.out.be HT0.out.at_ F1.out).mono ?_); rintro e w5 ⟨v47, rfl, ho, hb, hk⟩; refine ⟨_, rfl, ?_⟩; have HT1 := Aside0.mk (HT0.out.names ho hb hk); have hg5 := blk_kept HG0.out hk (fun q => Kd.R_ne HT0.out.a HG0.out (by decide) q); have HG1 := Aside0.mk hg5; clear ho hb hk hg5 HT0 HG0 cp0) | ((with_reducible refine gate_callee (f := 17) rfl ?_); refine goesL_ (some 51) rfl rfl Try.func17 (by kernel_rfl) rfl #[.int .i64 3] rfl (by simp only [List.map_toArray, List.map_cons, List.map_nil]; rfl) ?_; (with_reducible refine (vireoref26_Word.calls 3 s3 _ F2.out).mono ?_); rintro e w6 ⟨vw51, rfl, ho, hb⟩; refine ⟨_, rfl, ?_⟩; obtain ⟨Aw51, cw51, rfl⟩ := Kd.R_slice ho; have RW51 := Aside0.mk ho; have HT2 := Aside0.mk (HT1.out.below hb); have hgw6 := blk_below HG1.out hb; have HG2 := Aside0.mk hgw6; clear hgw6; clear ho hb HT1 HG1) | ((with_reducible refine gate_builtin (b := .append) (xs := #[.tmp 50, .tmp 51]) rfl ?_); refine Kd.R_append_rows U8 (w0 := w0) w0.heap.size rfl (.tmp 50) (.tmp 51) 25 5 (.int .u8 0) 1 rfl Try.underlying25 info5 rfl (by decide) (by omega) u8 out s3 Aw51 s3.length cw51 (fun _ => True) (fun _ => False) rfl rfl ?aO ?aR (fun _ _ h => h) (fun _ h => h.elim) (fun _ _ => trivial) ?aB ?aS ?aL ?_; (case aO => exact Kd.R_mono HT2.out.o (fun _ _ => trivial)); (case aR => exact (Kd.R_reads' RW51.out).2.2); (case aB => exact HT2.out.be); (case aS => exact HT2.out.be.size); (case aL => have := F3.out.1; omega); intro v52 w7 ho hb hg hat; rw [← F3.out.2] at ho; have HT3 := Aside0.mk (HT2.out.app ho hb hg hat); have hgw7 := blk_grown HG2.out hg (Kd.R_ne HT2.out.o HG2.out (by decide)); have HG3 := Aside0.mk hgw7; have cp1 : w7.cell? ⟨wr.heap.size, 1, none⟩ = some (.slice A' pp.f1.length c') := blk_cell hgw7 1; clear ho hb hg hat HT2 HG2 hgw7) | ((with_reducible refine gate_callee (f := 17) rfl ?_); refine goesL_ (some 57) rfl rfl Try.func17 (by kernel_rfl) rfl #[.int .i64 (pp.f1.length : Int)] rfl (by simp only [List.map_toArray, List.map_cons, List.map_nil]; rfl) ?_; (with_reducible refine (vireoref26_Word.calls (pp.f1.length : Int) sl _ F4.out).mono ?_); rintro e w8 ⟨vw57, rfl, ho, hb⟩; refine ⟨_, rfl, ?_⟩; obtain ⟨Aw57, cw57, rfl⟩ := Kd.R_slice ho; have RW57 := Aside0.mk ho; have HT4 := Aside0.mk (HT3.out.below hb); have hgw8 := blk_below HG3.out hb; have HG4 := Aside0.mk hgw8; clear hgw8; clear ho hb HT3 HG3) | ((with_reducible refine gate_builtin (b := .append) (xs := #[.tmp 53, .tmp 57]) rfl ?_); refine Kd.R_append_rows U8 (w0 := w0) w0.heap.size rfl (.tmp 53) (.tmp 57) 25 5 (.int .u8 0) 1 rfl Try.underlying25 info5 rfl (by decide) (by omega) v52 m1 sl Aw57 sl.length cw57 (fun _ => True) (fun _ => False) rfl rfl ?aO ?aR (fun _ _ h => h) (fun _ h => h.elim) (fun _ _ => trivial) ?aB ?aS ?aL ?_; (case aO => exact Kd.R_mono HT4.out.o (fun _ _ => trivial)); (case aR => exact (Kd.R_reads' RW57.out).2.2); (case aB => exact HT4.out.be); (case aS => exact HT4.out.be.size); (case aL => have := F5.out.1; omega); intro v58 w9 ho hb hg hat; rw [← F5.out.2] at ho; have HT5 := Aside0.mk (HT4.out.app ho hb hg hat); have hgw9 := blk_grown HG4.out hg (Kd.R_ne HT4.out.o HG4.out (by decide)); have HG5 := Aside0.mk hgw9;  clear ho hb hg hat HT4 HG4 hgw9) | ((with_reducible refine gate_callee (f := 17) rfl ?_); refine goesL_ (some 61) rfl rfl Try.func17 (by kernel_rfl) rfl #[.int .i64 n'] rfl (by simp only [List.map_toArray, List.map_cons, List.map_nil]; rfl) ?_; (with_reducible refine (vireoref26_Word.calls n' sa _ F6.out).mono ?_); rintro e w10 ⟨vw61, rfl, ho, hb⟩; refine ⟨_, rfl, ?_⟩; obtain ⟨Aw61, cw61, rfl⟩ := Kd.R_slice ho; have RW61 := Aside0.mk ho; have HT6 := Aside0.mk (HT5.out.below hb); have hgw10 := blk_below HG5.out hb; have HG6 := Aside0.mk hgw10; clear hgw10; clear ho hb HT5 HG5) | ((with_reducible refine gate_builtin (b := .append) (xs := #[.tmp 59, .tmp 61]) rfl ?_); refine Kd.R_append_rows U8 (w0 := w0) w0.heap.size rfl (.tmp 59) (.tmp 61) 25 5 (.int .u8 0) 1 rfl Try.underlying25 info5 rfl (by decide) (by omega) v58 m2 sa Aw61 sa.length cw61 (fun _ => True) (fun _ => False) rfl rfl ?aO ?aR (fun _ _ h => h) (fun _ h => h.elim) (fun _ _ => trivial) ?aB ?aS ?aL ?_; (case aO => exact Kd.R_mono HT6.out.o (fun _ _ => trivial)); (case aR => exact (Kd.R_reads' RW61.out).2.2); (case aB => exact HT6.out.be); (case aS => exact HT6.out.be.size); (case aL => have := F7.out.1; omega); intro v62 w11 ho hb hg hat; rw [← F7.out.2] at ho; have HT7 := Aside0.mk (HT6.out.app ho hb hg hat); have hgw11 := blk_grown HG6.out hg (Kd.R_ne HT6.out.o HG6.out (by decide)); have HG7 := Aside0.mk hgw11; have cp2 : w11.cell? ⟨wr.heap.size, 1, none⟩ = some (.slice A' pp.f1.length c') := blk_cell hgw11 1; clear ho hb hg hat HT6 HG6 hgw11) | ((with_reducible refine gate_builtin (b := .append) (xs := #[.tmp 63, .tmp 65]) rfl ?_); refine Kd.R_append_rows U8 (w0 := w0) w0.heap.size rfl (.tmp 63) (.tmp 65) 25 5 (.int .u8 0) 1 rfl Try.underlying25 info5 rfl (by decide) (by omega) v62 m3 pp.f1 A' pp.f1.length c' (fun _ => True) (fun _ => False) rfl rfl ?aO ?aR (fun _ _ h => h) (fun _ h => h.elim) (fun _ _ => trivial) ?aB ?aS ?aL ?_; (case aO => exact Kd.R_mono HT7.out.o (fun _ _ => trivial)); (case aR => exact YC.out _ HT7.out.kp); (case aB => exact HT7.out.be); (case aS => exact HT7.out.be.size); (case aL => have := F8.out.1; omega); intro v66 w12 ho hb hg hat; rw [← F8.out.2] at ho; have HT8 := Aside0.mk (HT7.out.app ho hb hg hat);   clear ho hb hg hat HT7) | ((with_reducible refine gate_callee (f := 44) rfl ?_); refine goesL_ (some 67) rfl rfl Try.func44 (by kernel_rfl) rfl #[v66] rfl (by simp only [List.map_toArray, List.map_cons, List.map_nil]; rfl) ?_; (with_reducible refine (vireoref26_pad.calls 5 _ v66 m4 m5 w0 _ HT8.out.be HT8.out.ot F9.out).mono ?_); rintro e w13 ⟨v67, rfl, ho, hb, hk⟩; refine ⟨_, rfl, ?_⟩; have HT9 := Aside0.mk (HT8.out.put ho (fun k q => ho.1 k q) hb hk); clear ho hb hk HT8) | fail)
      go_roundg k1
      case measure => omega
      case rel => exact ⟨i + 1, m5, all1', by go_num, ⟨by have := HI.out; omega⟩, F10, HT9⟩
end Go.Proofs.Ytmhlellhfepkkaa.PAl
