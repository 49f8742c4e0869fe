/- CsrBeside, walked by hand. -/
import Derived.Test.YtkbnoeebnmphbaaHnumbers
namespace Go.Proofs.Ytkbnoeebnmphbaa.H
open Go.RowKit Go.Proofs.YtkbnoeebnmphbaaW.PrintWords Go.Proofs.YtkbnoeebnmphbaaW.PrintLast Go.Proofs.Ytkbnoeebnmphbaa.PAl Go.Proofs.Ytkbnoeebnmphbaa.Pure Go.Proofs.Ytkbnoeebnmphbaa.Vw
set_option linter.unusedVariables false
set_option linter.unusedSimpArgs false
open Go.Sort
theorem bgF_okB {xs : List WR} (hx : wrOk xs) {l : Nat} (hl : U l) (m : Int) : (bgF m xs l).ok := VS.set_ok (foldF_ok hx _) 6 hl.and
def aloneL : List Int := [773, 261, 774, 262, 832, 320, 834, 322, 835, 323, 833, 321, 384, 770]
theorem alone_place : ∀ a ∈ aloneL, ∀ n ∈ nums, n ≠ a → placeW n ≠ placeW a := by decide +kernel
theorem alone_apart : ∀ a ∈ aloneL, placeW a ≠ 0 ∧ placeW a ≠ 1 ∧ placeW a ≠ 3 ∧ placeW a ≠ 4 ∧ placeW a ≠ 5 ∧ placeW a ≠ 6 ∧ a ≠ 768 ∧ a ≠ 256 ∧ a ≠ 836 ∧ a ≠ 324 ∧ a ≠ 260 ∧ ¬ (a = 3072 ∨ a = 3073 ∨ a = 3074) := by decide +kernel
theorem set_far (s : VS) {p i : Nat} (x : Nat) (h : p ≠ i) : (s.set p x).r i = s.r i := by
  show (if i = p then x else s.r i) = s.r i
  rw [if_neg (fun e => h e.symm)]
theorem read_beside (s : VS) {a n : Int} (v : Nat) (ha : a ∈ aloneL) (hn : n ∈ nums) (hne : n ≠ a) : readW (writeW s a v) n = readW s n := by
  obtain ⟨p0, p1, p3, p4, p5, p6, a1, a2, a3, a4, a5, a6⟩ := alone_apart a ha
  have hp := alone_place a ha n hn hne
  have e : writeW s a v = s.set (placeW a) (legalW a (s.r (placeW a)) v) := by
    unfold writeW
    rw [if_neg a1, if_neg a2, if_neg a3, if_neg a4, if_neg a5, if_neg a6, if_neg p0]
  rw [e]
  unfold readW pendW
  rw [set_far s _ p1, set_far s _ p3, set_far s _ p4, set_far s _ (fun e => hp e.symm), set_far s _ p5, set_far s _ p6]
def aloneC : Array Value := #[.int .i64 773, .int .i64 261, .int .i64 774, .int .i64 262, .int .i64 832, .int .i64 320, .int .i64 834, .int .i64 322, .int .i64 835, .int .i64 323, .int .i64 833, .int .i64 321, .int .i64 384, .int .i64 770]
theorem aloneC_at (i : Int) (h0 : 0 ≤ i) (h1 : i < 14) : ∃ a ∈ aloneL, aloneC[i.toNat]? = some (.int .i64 a) := by
  have e : aloneC = (aloneL.map (Value.int .i64)).toArray := rfl
  have l : aloneL.length = 14 := rfl
  have hi : i.toNat < aloneL.length := by omega
  exact ⟨aloneL[i.toNat], List.getElem_mem hi, by rw [e, List.getElem?_toArray, List.getElem?_map, List.getElem?_eq_getElem hi]; rfl⟩
theorem rows_mem (j : Int) (h0 : 0 ≤ j) (h1 : j < 31) : (rd_T28 rowsL j).f0 ∈ nums := by
  rw [rows_at j h0 h1, List.getD_eq_getElem?_getD, List.getElem?_eq_getElem (show j.toNat < nums.length by show j.toNat < 31; omega)]
  exact List.getElem_mem _
set_option maxHeartbeats 8000000 in
set_option maxRecDepth 100000 in
theorem beside_no (m : Int) (A : Option Addr) (c : Nat) (l : Nat) (xs : List WR) (i j : Int) (v : Nat) (w : World) (hC : Kd.C k62 w A xs.length xs) (hb : ¬ bgOk m xs.length) :
    Calls Try.prog 14 #[.agg (startC m A xs.length c (l : Int)), .int .i64 i, .int .i64 j, .int .u64 (v : Int)] w fun e w' => e = .returned (.bool true) ∧ KpN w w' := by
  have Hb := Aside0.mk hb
  clear hb
  go_enter Try.func14, Try.ntmps14
  go_wp2_with (first
    | ((with_reducible refine gate_dst (N := 4) rfl ?_); refine bx_ev rfl rfl (N := 4) rfl (startC m A xs.length c (l : Int)) rfl ?_; intro g hg_g w1 hb_g hk_g; have Hg_g := Aside0.mk hg_g; clear hg_g)
    | (go_at_call 11; refine (rows_c _).mono ?_; rintro e w2 ⟨b, cc, rfl, hCr, hkr⟩; have hk2 : KpN w1 w2 := ((Kp.refl _ _).alloc _).trans hkr; have hG2 := (Bk.mk hb_g).kp hk2 (fun h => h); have hC2 : Kd.C k62 w2 A xs.length xs := Kd.C_below hC ((hk_g.trans hk2).below (fun _ _ h => h.elim) (Nat.le_refl _)))
    | ((with_reducible refine gate_dst (N := 18) rfl ?_); refine wpList_load_row rfl 32 _ rfl g rfl _ (startC m A xs.length c (l : Int)) (0, 0) _ (hG2.blk) Try.underlying32 rfl infoS ?_)
    | (go_at_call 12; refine ((begun_no m A c l xs _ Hb.out)).mono ?_; rintro e w3 ⟨rfl, hk3⟩)
    | ((with_reducible refine gate_dst (N := 11) rfl ?_); refine al_ev rfl rfl (N := 11) rfl _ (zeroF _) ?_; intro f hg_f w4 hb_f hk_f; have Hg_f := Aside0.mk hg_f; clear hg_f)
    | ((with_reducible refine gate_dst (N := 12) rfl ?_); refine al_ev rfl rfl (N := 12) rfl _ (zeroR _) ?_; intro p hg_p w5 hb_p hk_p; have Hg_p := Aside0.mk hg_p; clear hg_p)
    | (((with_reducible refine gate_store (t := 35) (p := 11) rfl ?_); refine st_ev rfl rfl rfl f (vs0.cells) _ _ rfl rfl (((Bk.mk hb_f).kp hk_p (fun h => h)).blk) infoF rfl (VS.one _) ?_; intro w6 hs_w6 ks_w6); have hpf : p ≠ f := (by have := Hg_p.out; have := blk_lt hb_f; omega); have hP6 := (Bk.mk hb_p).kp ks_w6 hpf)
    | (((with_reducible refine gate_store (t := 38) (p := 12) rfl ?_); refine st_ev rfl rfl rfl p (vs0.cells) _ _ rfl rfl (hP6.blk) infoR rfl (VS.one _) ?_; intro w7 hs_w7 ks_w7); have hfw : w.heap.size ≤ f := (by have := Hg_f.out; have := ((hk_g.trans hk2).trans hk3).size; omega); have hpw : w.heap.size ≤ p := (by have := Hg_p.out; have := (((hk_g.trans hk2).trans hk3).trans hk_f).size; omega); have K7 : KpN w w7 := ((((((hk_g.trans hk2).trans hk3).trans hk_f).trans hk_p).then ks_w6 fun i hi (e : i = f) => by omega).then ks_w7 fun i hi (e : i = p) => by omega)))
  go_quiet (fail)
  go_wp2
  go_ret
  exact ⟨rfl, K7.drewN _⟩
set_option maxHeartbeats 8000000 in
set_option maxRecDepth 100000 in
theorem beside_yes (m : Int) (A : Option Addr) (c : Nat) (l : Nat) (xs : List WR) (i j : Int) (v : Nat) (w : World) (hv : U v) (hC : Kd.C k62 w A xs.length xs) (hx : wrOk xs) (hl : U l) (hb : bgOk m xs.length) :
    Calls Try.prog 14 #[.agg (startC m A xs.length c (l : Int)), .int .i64 i, .int .i64 j, .int .u64 (v : Int)] w fun e w' => e = .returned (.bool true) ∧ KpN w w' := by
  have Hb := Aside0.mk hb
  have hF : (bgF m xs l).ok := bgF_okB hx hl m
  obtain ⟨S, hS⟩ : ∃ S, bgF m xs l = S := ⟨_, rfl⟩
  obtain ⟨R, hRR⟩ : ∃ R, bgR m xs l = R := ⟨_, rfl⟩
  rw [hS] at hF
  have by_ := fun w hC => begun_yes m A c l xs w Hb.out hC hx hl
  rw [hS, hRR] at by_
  have By := Aside0.mk by_
  clear by_ hS hRR hb
  go_enter Try.func14, Try.ntmps14
  go_wp2_with (first
    | ((with_reducible refine gate_dst (N := 4) rfl ?_); refine bx_ev rfl rfl (N := 4) rfl (startC m A xs.length c (l : Int)) rfl ?_; intro g hg_g w1 hb_g hk_g; have Hg_g := Aside0.mk hg_g; clear hg_g)
    | (go_at_call 11; refine (rows_c _).mono ?_; rintro e w2 ⟨b, cc, rfl, hCr, hkr⟩; have hk2 : KpN w1 w2 := ((Kp.refl _ _).alloc _).trans hkr; have hG2 := (Bk.mk hb_g).kp hk2 (fun h => h); have hC2 : Kd.C k62 w2 A xs.length xs := Kd.C_below hC ((hk_g.trans hk2).below (fun _ _ h => h.elim) (Nat.le_refl _)); have Ba : Bk w2 w1.heap.size aloneC 3 := (Bk.mk (heap_alloc_new w1 _)).kp hkr (fun h => h); have hga : w1.heap.size < w2.heap.size := (by have := blk_lt Ba.blk; omega); have Hga := Aside0.mk hga; clear hga hkr; have HCr := Aside0.mk hCr; clear hCr)
    | ((with_reducible refine gate_dst (N := 18) rfl ?_); refine wpList_load_row rfl 32 _ rfl g rfl _ (startC m A xs.length c (l : Int)) (0, 0) _ (hG2.blk) Try.underlying32 rfl infoS ?_)
    | (go_at_call 12; refine ((By.out _ hC2)).mono ?_; rintro e w3 ⟨rfl, hk3⟩)
    | ((with_reducible refine gate_dst (N := 11) rfl ?_); refine al_ev rfl rfl (N := 11) rfl _ (zeroF _) ?_; intro f hg_f w4 hb_f hk_f; have Hg_f := Aside0.mk hg_f; clear hg_f)
    | ((with_reducible refine gate_dst (N := 12) rfl ?_); refine al_ev rfl rfl (N := 12) rfl _ (zeroR _) ?_; intro p hg_p w5 hb_p hk_p; have Hg_p := Aside0.mk hg_p; clear hg_p)
    | (((with_reducible refine gate_store (t := 35) (p := 11) rfl ?_); refine st_ev rfl rfl rfl f (S.cells) _ _ rfl rfl (((Bk.mk hb_f).kp hk_p (fun h => h)).blk) infoF rfl (VS.one _) ?_; intro w6 hs_w6 ks_w6); have hpf : p ≠ f := (by have := Hg_p.out; have := blk_lt hb_f; omega); have hP6 := (Bk.mk hb_p).kp ks_w6 hpf)
    | ((with_reducible refine gate_store (t := 38) (p := 12) rfl ?_); refine st_ev rfl rfl rfl p (R.cells) _ _ rfl rfl (hP6.blk) infoR rfl (VS.one _) ?_; intro w7 hs_w7 ks_w7))
  have hI : St FT w7 f S := (St.mk hs_w6).kp ks_w7 (fun e : f = p => hpf e.symm)
  have hf2 : w2.heap.size ≤ f := (by have := Hg_f.out; have := hk3.size; omega)
  have hp2 : w2.heap.size ≤ p := (by have := Hg_p.out; have := (hk3.trans hk_f).size; omega)
  have K27 : KpN w2 w7 := ((((hk3).trans hk_f).trans hk_p).then ks_w6 fun i hi (e : i = f) => by omega).then ks_w7 fun i hi (e : i = p) => by omega
  have K02 : KpN w w2 := hk_g.trans hk2
  have K7 : KpN w w7 := K02.trans K27
  have Ba7 := Aside0.mk (Ba.kp K27 (fun h => h))
  have HCr7 := Aside0.mk (Kd.C_below HCr.out (K27.below (fun _ _ h => h.elim) (Nat.le_refl _)))
  have hfw : w.heap.size ≤ f := (by have := K02.size; omega)
  have hbf : b ≠ f := by
    obtain ⟨ad0, e0, c0, _⟩ := at_T28 HCr.out 0 (by decide) (by decide)
    obtain rfl := Option.some.inj e0
    rw [addr_at] at c0
    have hb2 : b < w2.heap.size := block_lt_of_cell c0
    omega
  clear hb_g hk_g Hg_g hk2 hG2 hC2 hk3 hb_f hk_f Hg_f hb_p hk_p Hg_p hs_w6 ks_w6 hP6 hs_w7 ks_w7 HCr Ba K27 K02 hp2 hf2 hpf
  by_cases hr : 0 ≤ i ∧ i < 14 ∧ 0 ≤ j ∧ j < 31
  case neg =>
    have hcase : (decide (i < 0) = true) ∨ (decide (i < 0) = false ∧ decide (14 ≤ i) = true) ∨ (decide (i < 0) = false ∧ decide (14 ≤ i) = false ∧ decide (j < 0) = true) ∨ (decide (i < 0) = false ∧ decide (14 ≤ i) = false ∧ decide (j < 0) = false ∧ decide (31 ≤ j) = true) := by
      by_cases h1 : i < 0
      · exact .inl (decide_eq_true h1)
      by_cases h2 : 14 ≤ i
      · exact .inr (.inl ⟨decide_eq_false h1, decide_eq_true h2⟩)
      by_cases h3 : j < 0
      · exact .inr (.inr (.inl ⟨decide_eq_false h1, decide_eq_false h2, decide_eq_true h3⟩))
      · exact .inr (.inr (.inr ⟨decide_eq_false h1, decide_eq_false h2, decide_eq_false h3, decide_eq_true (by omega)⟩))
    clear hr
    rcases hcase with t1 | ⟨t1, t2⟩ | ⟨t1, t2, t3⟩ | ⟨t1, t2, t3, t4⟩
    all_goals
      go_quiet (fail)
      go_wp2
      go_ret
      exact ⟨rfl, K7.drewN _⟩
  obtain ⟨i0, i1, j0, j1⟩ := hr
  obtain ⟨a, ha, hca⟩ := aloneC_at i i0 i1
  obtain ⟨n, hn⟩ : ∃ n, (rd_T28 rowsL j).f0 = n := ⟨_, rfl⟩
  have hmem : n ∈ nums := by rw [← hn]; exact rows_mem j j0 j1
  obtain ⟨ad, ea, cr, _⟩ := at_T28 HCr7.out j j0 j1
  obtain rfl := Option.some.inj ea
  rw [hn, addr_at] at cr
  have ca : w7.cell? ⟨w1.heap.size, i.toNat, none⟩ = some (.int .i64 a) := (blk_cell Ba7.out.blk _).trans hca
  have KB := Aside0.mk Ba7.out.blk
  obtain ⟨ga, hgg⟩ : ∃ ga, w1.heap.size = ga := ⟨_, rfl⟩
  rw [hgg] at ca
  rw [hgg]
  have t1 : decide (i < 0) = false := decide_eq_false (by omega)
  have t2 : decide (14 ≤ i) = false := decide_eq_false (by omega)
  have t3 : decide (j < 0) = false := decide_eq_false (by omega)
  have t4 : decide (31 ≤ j) = false := decide_eq_false (by omega)
  have p0 := eq_true i0
  have p1 := eq_true i1
  have p2 := eq_true j0
  have p3 := eq_true j1
  clear hca hn ea KB Ba7 hgg i0 i1 j0 j1 Hga
  by_cases hna : n = a
  · have t5 : (n == a) = true := beq_iff_eq.2 hna
    clear hna
    go_quiet (fail)
    go_wp2
    go_ret
    exact ⟨rfl, K7.drewN _⟩
  have t5 : (n == a) = false := beq_eq_false_iff_ne.2 hna
  have HB : Aside0 (readW (writeW S a v) n = readW S n) := ⟨read_beside S v ha hmem hna⟩
  clear hna ha hmem
  go_quiet (fail)
  go_wp2_with (go_at_call 16; refine (read_c f S n _ (hI.drewN _) hF).mono ?_; rintro e w8 ⟨rfl, m8, rfl⟩)
  refine (write_c f S a v _ (hI.drewN _) hF hv).mono ?_
  rintro e w9 ⟨rfl, hI9, k9⟩
  have hF9 := writeW_ok hF a hv
  have cr9 : w9.cell? ⟨b, j.toNat * 4, none⟩ = some (.int .i64 n) := (World.cell?_of_block (w := w7.drewN (nq + m8)) (k9.block b (block_lt_of_cell cr) hbf)).trans cr
  have R9 : Aside0 (Calls Try.prog 16 #[.pointer (some ⟨f, 0, none⟩), .int .i64 n] w9 fun e w' => e = .returned (.int .u64 ((readW S n : Nat) : Int)) ∧ ∃ m, w' = w9.drewN m) := ⟨by
    have := read_c f (writeW S a v) n w9 hI9 hF9
    rw [HB.out] at this
    exact this⟩
  have K9 : KpN w w9 := (K7.drewN _).then k9 fun i hi (e : i = f) => by omega
  clear cr ca k9 hI hF9 hI9 HB
  go_wp2_with (go_at_call 16; refine R9.out.mono ?_; rintro e wa ⟨rfl, ma, rfl⟩)
  go_ret
  exact ⟨rfl, K9.drewN _⟩
set_option maxHeartbeats 8000000 in
set_option maxRecDepth 100000 in
theorem besideL (m : Int) (A : Option Addr) (c : Nat) (l : Nat) (xs : List WR) (i j : Int) (v : Nat) (w : World) (hC : Kd.C k62 w A xs.length xs)
    (hB : ∀ w1, Kd.C k62 w1 A xs.length xs → Calls Try.prog 14 #[.agg (startC m A xs.length c (l : Int)), .int .i64 i, .int .i64 j, .int .u64 (v : Int)] w1 fun e w' => e = .returned (.bool true) ∧ KpN w1 w') :
    Calls Try.prog 5 #[.agg (startC m A xs.length c (l : Int)), .agg #[.int .i64 i, .int .i64 j], .int .u64 (v : Int)] w fun e w' => e = .returned (.bool true) ∧ Below w.heap.size w w' := by
  have HB := Aside0.mk hB
  clear hB
  go_enter Try.func5, Try.ntmps5
  go_wp2_with (first
    | (go_at_call 10; refine (awake_c _).mono ?_; rintro e w1 ⟨rfl, k1⟩; have B0 := (Bk.mk (blk_alloc (heap_alloc_new w (.cells (startC m A xs.length c (l : Int)) 32)) (.cells #[.int .i64 i, .int .i64 j] 43))).kp k1 (fun h => h); have B1 := (Bk.mk (heap_alloc_new (w.alloc (.cells (startC m A xs.length c (l : Int)) 32)) (.cells #[.int .i64 i, .int .i64 j] 43))).kp k1 (fun h => h); rw [show (w.alloc (.cells (startC m A xs.length c (l : Int)) 32)).heap.size = w.heap.size + 1 from by simp only [World.alloc, Array.size_push]] at B1; have c0 := (blk_cell B0.blk 0).trans (show (startC m A xs.length c (l : Int))[0]? = some (.int .i64 m) from rfl); have c1 := (blk_cell B0.blk 1).trans (show (startC m A xs.length c (l : Int))[1]? = some (.slice A xs.length c) from rfl); have c2 := (blk_cell B0.blk 2).trans (show (startC m A xs.length c (l : Int))[2]? = some (.int .u64 (l : Int)) from rfl); have d0 := (blk_cell B1.blk 0).trans (show (#[.int .i64 i, .int .i64 j] : Array Value)[0]? = some (.int .i64 i) from rfl); have d1 := (blk_cell B1.blk 1).trans (show (#[.int .i64 i, .int .i64 j] : Array Value)[1]? = some (.int .i64 j) from rfl); have K1 : KpN w w1 := (((Kp.refl _ _).alloc _).alloc _).trans k1; have hC1 := Aside0.mk (Kd.C_below hC (K1.below (fun _ _ h => h.elim) (Nat.le_refl _))); clear B0 B1 k1)
    | (go_at_call 14; refine (HB.out _ hC1.out).mono ?_; rintro e w2 ⟨rfl, k2⟩))
  go_ret
  exact ⟨rfl, (K1.trans k2).below (fun _ _ h => h.elim) (Nat.le_refl _)⟩
theorem besideL_no (m : Int) (A : Option Addr) (c : Nat) (l : Nat) (xs : List WR) (i j : Int) (v : Nat) (w : World) (hC : Kd.C k62 w A xs.length xs) (hb : ¬ bgOk m xs.length) :
    Calls Try.prog 5 #[.agg (startC m A xs.length c (l : Int)), .agg #[.int .i64 i, .int .i64 j], .int .u64 (v : Int)] w fun e w' => e = .returned (.bool true) ∧ Below w.heap.size w w' :=
  besideL m A c l xs i j v w hC fun w1 h => beside_no m A c l xs i j v w1 h hb
theorem besideL_yes (m : Int) (A : Option Addr) (c : Nat) (l : Nat) (xs : List WR) (i j : Int) (v : Nat) (w : World) (hC : Kd.C k62 w A xs.length xs) (hx : wrOk xs) (hl : U l) (hb : bgOk m xs.length) (hv : U v) :
    Calls Try.prog 5 #[.agg (startC m A xs.length c (l : Int)), .agg #[.int .i64 i, .int .i64 j], .int .u64 (v : Int)] w fun e w' => e = .returned (.bool true) ∧ Below w.heap.size w w' :=
  besideL m A c l xs i j v w hC fun w1 h => beside_yes m A c l xs i j v w1 hv h hx hl hb
end Go.Proofs.Ytkbnoeebnmphbaa.H
