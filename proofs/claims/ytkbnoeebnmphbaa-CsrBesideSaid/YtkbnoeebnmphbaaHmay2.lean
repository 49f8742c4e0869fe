/- Which registers a program may read and write: the document's answer (vireoref08.May), walked by hand. -/
import Derived.Test.YtkbnoeebnmphbaaHmay
namespace Go.Proofs.Ytkbnoeebnmphbaa.H
open Go.RowKit Go.Proofs.YtkbnoeebnmphbaaW.PrintWords Go.Proofs.YtkbnoeebnmphbaaW.PrintLast Go.Proofs.Ytkbnoeebnmphbaa.PAl Go.Proofs.Ytkbnoeebnmphbaa.Pure Go.Proofs.Ytkbnoeebnmphbaa.Vw
set_option linter.unusedVariables false
set_option linter.unusedSimpArgs false
theorem known_of (n : Int) : (ofR n).2.2.2.2 = knownW n := by
  by_cases hi : n ∈ nums
  · have : ∀ n ∈ nums, (ofR n).2.2.2.2 = knownW n := by decide +kernel
    exact this n hi
  · rw [ofR_no hi]
    cases hk : knownW n with
    | false => rfl
    | true => exact absurd (known_nums hk) hi
theorem rem_nums : ∀ n ∈ nums, Int.tmod (Int.tdiv n 1024) 4 = n / 1024 ∧ Int.tmod (Int.tdiv n 256) 4 = n / 256 % 4 := by decide +kernel
set_option maxHeartbeats 8000000 in
set_option maxRecDepth 100000 in
theorem rmay_A (s : VS) (n : Int) (w : World) (hs : s.ok) (q0 : Int) (nm : ByteArray) (q2 q3 : Int) (hof : ofR n = (q0, nm, q2, q3, true)) (n0 : 0 ≤ n) (e4 : n / 1024 % 4 = n / 1024) (h10 : (n / 1024 == 3) = true) :
    Calls Try.prog 24 #[.agg s.cells, .int .i64 n, .bool true] w fun e w' => e = .returned (.bool false) ∧ KpN w w' := by
  have ofc : Aside0 (∀ w, Calls Try.prog 25 #[.int .i64 n] w fun e w' => e = .returned (.tuple #[.agg (rowC q0 nm q2 q3), .bool true]) ∧ KpN w w') := ⟨fun w => by
    have := of_c n w; rw [hof] at this; exact this⟩
  clear hof
  go_enter Try.func24, Try.ntmps24
  go_wp2_with (first
    | ((with_reducible refine gate_dst (N := 3) rfl ?_); refine bx_ev rfl rfl (N := 3) rfl (s.cells) rfl ?_; intro g hg_g w1 hb_g hk_g; have Hg_g := Aside0.mk hg_g; clear hg_g)
    | (go_at_call 25; refine (ofc.out _).mono ?_; rintro e w2 ⟨rfl, k2⟩)
    | (((with_reducible refine gate_dst (N := 7) rfl ?_); refine al_ev rfl rfl (N := 7) rfl _ (zeroRow _) ?_; intro r hg_r w3 hb_r hk_r; have Hg_r := Aside0.mk hg_r; clear hg_r); have hI3 : St RT w3 g s := ((St.mk hb_g).kp k2 (fun h => h)).kp hk_r (fun h => h); have hgr : g ≠ r := (by have := Hg_r.out; have := ((St.mk (T := RT) hb_g).kp k2 (fun h => h)).lt; omega); have hwr : w.heap.size ≤ r := (by have := Hg_r.out; have := (hk_g.trans k2).size; omega))
    | ((with_reducible refine gate_store (t := 28) (p := 7) rfl ?_); refine st_ev rfl rfl rfl r (rowC q0 nm q2 q3) _ _ rfl rfl hb_r infoRow rfl (rowC_one _ _ _ _) ?_; intro w5 hs5 ks5; have HI : Aside0 (St RT w5 g s) := ⟨hI3.kp ks5 hgr⟩; have K5 : KpN w w5 := ((hk_g.trans k2).trans hk_r).then ks5 (fun i hi (e : i = r) => by omega); have c0 := HI.out.c0)
    | ((with_reducible refine gate_dst (N := 40) rfl ?_); refine wpList_in (by rfl) (wp_load_row RT _ rfl g rfl _ s.cells (0, 0) _ HI.out.blk Try.underlying38 rfl infoR ?_))
    | ((with_reducible refine gate_dst (N := 54) rfl ?_); refine wpList_in (by rfl) (wp_load_row RT _ rfl g rfl _ s.cells (0, 0) _ HI.out.blk Try.underlying38 rfl infoR ?_))
    | ((with_reducible refine gate_dst (N := 64) rfl ?_); refine wpList_in (by rfl) (wp_load_row RT _ rfl g rfl _ s.cells (0, 0) _ HI.out.blk Try.underlying38 rfl infoR ?_))
    | (go_at_call_of 42 (Value.int IntKind.i64 0); refine (B20.out _).mono ?_; rintro e w6 ⟨rfl, k6⟩; have HI2 : Aside0 (St RT w6 g s) := ⟨HI.out.kp k6 (fun h => h)⟩; clear HI; have HI := HI2; clear HI2; have K5b := K5.trans k6; clear K5; have K5 := K5b; clear K5b; have c0b := HI.out.c0)
    | (go_at_call_of 42 (Value.int IntKind.i64 7); refine (B8.out _).mono ?_; rintro e w7 ⟨rfl, k7⟩; have HI2 : Aside0 (St RT w7 g s) := ⟨HI.out.kp k7 (fun h => h)⟩; clear HI; have HI := HI2; clear HI2; have K5b := K5.trans k7; clear K5; have K5 := K5b; clear K5b; have c0c := HI.out.c0)
    | (go_at_call_of 42 (Value.int IntKind.i64 13); refine (B14.out _).mono ?_; rintro e w8 ⟨rfl, k8⟩; have K5b := K5.trans k8; clear K5; have K5 := K5b; clear K5b))
  go_ret
  exact ⟨rfl, K5⟩
set_option maxHeartbeats 8000000 in
set_option maxRecDepth 100000 in
theorem rmay_B0 (s : VS) (n : Int) (w : World) (hs : s.ok) (q0 : Int) (nm : ByteArray) (q2 q3 : Int) (hof : ofR n = (q0, nm, q2, q3, true)) (n0 : 0 ≤ n) (e4 : n / 1024 % 4 = n / 1024) (hq : decide (s.m < n / 256 % 4) = true) :
    Calls Try.prog 24 #[.agg s.cells, .int .i64 n, .bool false] w fun e w' => e = .returned (.bool false) ∧ KpN w w' := by
  have ofc : Aside0 (∀ w, Calls Try.prog 25 #[.int .i64 n] w fun e w' => e = .returned (.tuple #[.agg (rowC q0 nm q2 q3), .bool true]) ∧ KpN w w') := ⟨fun w => by
    have := of_c n w; rw [hof] at this; exact this⟩
  clear hof
  go_enter Try.func24, Try.ntmps24
  go_wp2_with (first
    | ((with_reducible refine gate_dst (N := 3) rfl ?_); refine bx_ev rfl rfl (N := 3) rfl (s.cells) rfl ?_; intro g hg_g w1 hb_g hk_g; have Hg_g := Aside0.mk hg_g; clear hg_g)
    | (go_at_call 25; refine (ofc.out _).mono ?_; rintro e w2 ⟨rfl, k2⟩)
    | (((with_reducible refine gate_dst (N := 7) rfl ?_); refine al_ev rfl rfl (N := 7) rfl _ (zeroRow _) ?_; intro r hg_r w3 hb_r hk_r; have Hg_r := Aside0.mk hg_r; clear hg_r); have hI3 : St RT w3 g s := ((St.mk hb_g).kp k2 (fun h => h)).kp hk_r (fun h => h); have hgr : g ≠ r := (by have := Hg_r.out; have := ((St.mk (T := RT) hb_g).kp k2 (fun h => h)).lt; omega); have hwr : w.heap.size ≤ r := (by have := Hg_r.out; have := (hk_g.trans k2).size; omega))
    | ((with_reducible refine gate_store (t := 28) (p := 7) rfl ?_); refine st_ev rfl rfl rfl r (rowC q0 nm q2 q3) _ _ rfl rfl hb_r infoRow rfl (rowC_one _ _ _ _) ?_; intro w5 hs5 ks5; have HI : Aside0 (St RT w5 g s) := ⟨hI3.kp ks5 hgr⟩; have K5 : KpN w w5 := ((hk_g.trans k2).trans hk_r).then ks5 (fun i hi (e : i = r) => by omega); have c0 := HI.out.c0)
    | ((with_reducible refine gate_dst (N := 40) rfl ?_); refine wpList_in (by rfl) (wp_load_row RT _ rfl g rfl _ s.cells (0, 0) _ HI.out.blk Try.underlying38 rfl infoR ?_))
    | ((with_reducible refine gate_dst (N := 54) rfl ?_); refine wpList_in (by rfl) (wp_load_row RT _ rfl g rfl _ s.cells (0, 0) _ HI.out.blk Try.underlying38 rfl infoR ?_))
    | ((with_reducible refine gate_dst (N := 64) rfl ?_); refine wpList_in (by rfl) (wp_load_row RT _ rfl g rfl _ s.cells (0, 0) _ HI.out.blk Try.underlying38 rfl infoR ?_))
    | (go_at_call_of 42 (Value.int IntKind.i64 0); refine (B20.out _).mono ?_; rintro e w6 ⟨rfl, k6⟩; have HI2 : Aside0 (St RT w6 g s) := ⟨HI.out.kp k6 (fun h => h)⟩; clear HI; have HI := HI2; clear HI2; have K5b := K5.trans k6; clear K5; have K5 := K5b; clear K5b; have c0b := HI.out.c0)
    | (go_at_call_of 42 (Value.int IntKind.i64 7); refine (B8.out _).mono ?_; rintro e w7 ⟨rfl, k7⟩; have HI2 : Aside0 (St RT w7 g s) := ⟨HI.out.kp k7 (fun h => h)⟩; clear HI; have HI := HI2; clear HI2; have K5b := K5.trans k7; clear K5; have K5 := K5b; clear K5b; have c0c := HI.out.c0)
    | (go_at_call_of 42 (Value.int IntKind.i64 13); refine (B14.out _).mono ?_; rintro e w8 ⟨rfl, k8⟩; have K5b := K5.trans k8; clear K5; have K5 := K5b; clear K5b))
  go_ret
  exact ⟨rfl, K5⟩
set_option maxHeartbeats 8000000 in
set_option maxRecDepth 100000 in
theorem rmay_B1 (s : VS) (n : Int) (w : World) (hs : s.ok) (q0 : Int) (nm : ByteArray) (q2 q3 : Int) (hof : ofR n = (q0, nm, q2, q3, true)) (n0 : 0 ≤ n) (e4 : n / 1024 % 4 = n / 1024) (h10 : (n / 1024 == 3) = false) (hq : decide (s.m < n / 256 % 4) = true) :
    Calls Try.prog 24 #[.agg s.cells, .int .i64 n, .bool true] w fun e w' => e = .returned (.bool false) ∧ KpN w w' := by
  have ofc : Aside0 (∀ w, Calls Try.prog 25 #[.int .i64 n] w fun e w' => e = .returned (.tuple #[.agg (rowC q0 nm q2 q3), .bool true]) ∧ KpN w w') := ⟨fun w => by
    have := of_c n w; rw [hof] at this; exact this⟩
  clear hof
  go_enter Try.func24, Try.ntmps24
  go_wp2_with (first
    | ((with_reducible refine gate_dst (N := 3) rfl ?_); refine bx_ev rfl rfl (N := 3) rfl (s.cells) rfl ?_; intro g hg_g w1 hb_g hk_g; have Hg_g := Aside0.mk hg_g; clear hg_g)
    | (go_at_call 25; refine (ofc.out _).mono ?_; rintro e w2 ⟨rfl, k2⟩)
    | (((with_reducible refine gate_dst (N := 7) rfl ?_); refine al_ev rfl rfl (N := 7) rfl _ (zeroRow _) ?_; intro r hg_r w3 hb_r hk_r; have Hg_r := Aside0.mk hg_r; clear hg_r); have hI3 : St RT w3 g s := ((St.mk hb_g).kp k2 (fun h => h)).kp hk_r (fun h => h); have hgr : g ≠ r := (by have := Hg_r.out; have := ((St.mk (T := RT) hb_g).kp k2 (fun h => h)).lt; omega); have hwr : w.heap.size ≤ r := (by have := Hg_r.out; have := (hk_g.trans k2).size; omega))
    | ((with_reducible refine gate_store (t := 28) (p := 7) rfl ?_); refine st_ev rfl rfl rfl r (rowC q0 nm q2 q3) _ _ rfl rfl hb_r infoRow rfl (rowC_one _ _ _ _) ?_; intro w5 hs5 ks5; have HI : Aside0 (St RT w5 g s) := ⟨hI3.kp ks5 hgr⟩; have K5 : KpN w w5 := ((hk_g.trans k2).trans hk_r).then ks5 (fun i hi (e : i = r) => by omega); have c0 := HI.out.c0)
    | ((with_reducible refine gate_dst (N := 40) rfl ?_); refine wpList_in (by rfl) (wp_load_row RT _ rfl g rfl _ s.cells (0, 0) _ HI.out.blk Try.underlying38 rfl infoR ?_))
    | ((with_reducible refine gate_dst (N := 54) rfl ?_); refine wpList_in (by rfl) (wp_load_row RT _ rfl g rfl _ s.cells (0, 0) _ HI.out.blk Try.underlying38 rfl infoR ?_))
    | ((with_reducible refine gate_dst (N := 64) rfl ?_); refine wpList_in (by rfl) (wp_load_row RT _ rfl g rfl _ s.cells (0, 0) _ HI.out.blk Try.underlying38 rfl infoR ?_))
    | (go_at_call_of 42 (Value.int IntKind.i64 0); refine (B20.out _).mono ?_; rintro e w6 ⟨rfl, k6⟩; have HI2 : Aside0 (St RT w6 g s) := ⟨HI.out.kp k6 (fun h => h)⟩; clear HI; have HI := HI2; clear HI2; have K5b := K5.trans k6; clear K5; have K5 := K5b; clear K5b; have c0b := HI.out.c0)
    | (go_at_call_of 42 (Value.int IntKind.i64 7); refine (B8.out _).mono ?_; rintro e w7 ⟨rfl, k7⟩; have HI2 : Aside0 (St RT w7 g s) := ⟨HI.out.kp k7 (fun h => h)⟩; clear HI; have HI := HI2; clear HI2; have K5b := K5.trans k7; clear K5; have K5 := K5b; clear K5b; have c0c := HI.out.c0)
    | (go_at_call_of 42 (Value.int IntKind.i64 13); refine (B14.out _).mono ?_; rintro e w8 ⟨rfl, k8⟩; have K5b := K5.trans k8; clear K5; have K5 := K5b; clear K5b))
  go_ret
  exact ⟨rfl, K5⟩
set_option maxHeartbeats 8000000 in
set_option maxRecDepth 100000 in
theorem rmay_C0 (s : VS) (n : Int) (w : World) (hs : s.ok) (q0 : Int) (nm : ByteArray) (q2 q3 : Int) (hof : ofR n = (q0, nm, q2, q3, true)) (n0 : 0 ≤ n) (e4 : n / 1024 % 4 = n / 1024) (hq : decide (s.m < n / 256 % 4) = false) (hs4 : (n == 384) = true) (hm1 : (s.m == 1) = true) (hb : bitW (s.r 1) 20 = true) :
    Calls Try.prog 24 #[.agg s.cells, .int .i64 n, .bool false] w fun e w' => e = .returned (.bool false) ∧ KpN w w' := by
  have ofc : Aside0 (∀ w, Calls Try.prog 25 #[.int .i64 n] w fun e w' => e = .returned (.tuple #[.agg (rowC q0 nm q2 q3), .bool true]) ∧ KpN w w') := ⟨fun w => by
    have := of_c n w; rw [hof] at this; exact this⟩
  clear hof
  have B20 : Aside0 (∀ w, Calls Try.prog 42 #[.agg s.cells, .int .i64 0, .int .i64 20] w fun e w' => e = .returned (.bool true) ∧ KpN w w') := ⟨fun w => by have := rbit_l s 0 20 w hs (by decide); rw [hb] at this; exact this⟩
  clear hb
  go_enter Try.func24, Try.ntmps24
  go_wp2_with (first
    | ((with_reducible refine gate_dst (N := 3) rfl ?_); refine bx_ev rfl rfl (N := 3) rfl (s.cells) rfl ?_; intro g hg_g w1 hb_g hk_g; have Hg_g := Aside0.mk hg_g; clear hg_g)
    | (go_at_call 25; refine (ofc.out _).mono ?_; rintro e w2 ⟨rfl, k2⟩)
    | (((with_reducible refine gate_dst (N := 7) rfl ?_); refine al_ev rfl rfl (N := 7) rfl _ (zeroRow _) ?_; intro r hg_r w3 hb_r hk_r; have Hg_r := Aside0.mk hg_r; clear hg_r); have hI3 : St RT w3 g s := ((St.mk hb_g).kp k2 (fun h => h)).kp hk_r (fun h => h); have hgr : g ≠ r := (by have := Hg_r.out; have := ((St.mk (T := RT) hb_g).kp k2 (fun h => h)).lt; omega); have hwr : w.heap.size ≤ r := (by have := Hg_r.out; have := (hk_g.trans k2).size; omega))
    | ((with_reducible refine gate_store (t := 28) (p := 7) rfl ?_); refine st_ev rfl rfl rfl r (rowC q0 nm q2 q3) _ _ rfl rfl hb_r infoRow rfl (rowC_one _ _ _ _) ?_; intro w5 hs5 ks5; have HI : Aside0 (St RT w5 g s) := ⟨hI3.kp ks5 hgr⟩; have K5 : KpN w w5 := ((hk_g.trans k2).trans hk_r).then ks5 (fun i hi (e : i = r) => by omega); have c0 := HI.out.c0)
    | ((with_reducible refine gate_dst (N := 40) rfl ?_); refine wpList_in (by rfl) (wp_load_row RT _ rfl g rfl _ s.cells (0, 0) _ HI.out.blk Try.underlying38 rfl infoR ?_))
    | ((with_reducible refine gate_dst (N := 54) rfl ?_); refine wpList_in (by rfl) (wp_load_row RT _ rfl g rfl _ s.cells (0, 0) _ HI.out.blk Try.underlying38 rfl infoR ?_))
    | ((with_reducible refine gate_dst (N := 64) rfl ?_); refine wpList_in (by rfl) (wp_load_row RT _ rfl g rfl _ s.cells (0, 0) _ HI.out.blk Try.underlying38 rfl infoR ?_))
    | (go_at_call_of 42 (Value.int IntKind.i64 0); refine (B20.out _).mono ?_; rintro e w6 ⟨rfl, k6⟩; have HI2 : Aside0 (St RT w6 g s) := ⟨HI.out.kp k6 (fun h => h)⟩; clear HI; have HI := HI2; clear HI2; have K5b := K5.trans k6; clear K5; have K5 := K5b; clear K5b; have c0b := HI.out.c0)
    | (go_at_call_of 42 (Value.int IntKind.i64 7); refine (B8.out _).mono ?_; rintro e w7 ⟨rfl, k7⟩; have HI2 : Aside0 (St RT w7 g s) := ⟨HI.out.kp k7 (fun h => h)⟩; clear HI; have HI := HI2; clear HI2; have K5b := K5.trans k7; clear K5; have K5 := K5b; clear K5b; have c0c := HI.out.c0)
    | (go_at_call_of 42 (Value.int IntKind.i64 13); refine (B14.out _).mono ?_; rintro e w8 ⟨rfl, k8⟩; have K5b := K5.trans k8; clear K5; have K5 := K5b; clear K5b))
  go_ret
  exact ⟨rfl, K5⟩
set_option maxHeartbeats 8000000 in
set_option maxRecDepth 100000 in
theorem rmay_C1 (s : VS) (n : Int) (w : World) (hs : s.ok) (q0 : Int) (nm : ByteArray) (q2 q3 : Int) (hof : ofR n = (q0, nm, q2, q3, true)) (n0 : 0 ≤ n) (e4 : n / 1024 % 4 = n / 1024) (h10 : (n / 1024 == 3) = false) (hq : decide (s.m < n / 256 % 4) = false) (hs4 : (n == 384) = true) (hm1 : (s.m == 1) = true) (hb : bitW (s.r 1) 20 = true) :
    Calls Try.prog 24 #[.agg s.cells, .int .i64 n, .bool true] w fun e w' => e = .returned (.bool false) ∧ KpN w w' := by
  have ofc : Aside0 (∀ w, Calls Try.prog 25 #[.int .i64 n] w fun e w' => e = .returned (.tuple #[.agg (rowC q0 nm q2 q3), .bool true]) ∧ KpN w w') := ⟨fun w => by
    have := of_c n w; rw [hof] at this; exact this⟩
  clear hof
  have B20 : Aside0 (∀ w, Calls Try.prog 42 #[.agg s.cells, .int .i64 0, .int .i64 20] w fun e w' => e = .returned (.bool true) ∧ KpN w w') := ⟨fun w => by have := rbit_l s 0 20 w hs (by decide); rw [hb] at this; exact this⟩
  clear hb
  go_enter Try.func24, Try.ntmps24
  go_wp2_with (first
    | ((with_reducible refine gate_dst (N := 3) rfl ?_); refine bx_ev rfl rfl (N := 3) rfl (s.cells) rfl ?_; intro g hg_g w1 hb_g hk_g; have Hg_g := Aside0.mk hg_g; clear hg_g)
    | (go_at_call 25; refine (ofc.out _).mono ?_; rintro e w2 ⟨rfl, k2⟩)
    | (((with_reducible refine gate_dst (N := 7) rfl ?_); refine al_ev rfl rfl (N := 7) rfl _ (zeroRow _) ?_; intro r hg_r w3 hb_r hk_r; have Hg_r := Aside0.mk hg_r; clear hg_r); have hI3 : St RT w3 g s := ((St.mk hb_g).kp k2 (fun h => h)).kp hk_r (fun h => h); have hgr : g ≠ r := (by have := Hg_r.out; have := ((St.mk (T := RT) hb_g).kp k2 (fun h => h)).lt; omega); have hwr : w.heap.size ≤ r := (by have := Hg_r.out; have := (hk_g.trans k2).size; omega))
    | ((with_reducible refine gate_store (t := 28) (p := 7) rfl ?_); refine st_ev rfl rfl rfl r (rowC q0 nm q2 q3) _ _ rfl rfl hb_r infoRow rfl (rowC_one _ _ _ _) ?_; intro w5 hs5 ks5; have HI : Aside0 (St RT w5 g s) := ⟨hI3.kp ks5 hgr⟩; have K5 : KpN w w5 := ((hk_g.trans k2).trans hk_r).then ks5 (fun i hi (e : i = r) => by omega); have c0 := HI.out.c0)
    | ((with_reducible refine gate_dst (N := 40) rfl ?_); refine wpList_in (by rfl) (wp_load_row RT _ rfl g rfl _ s.cells (0, 0) _ HI.out.blk Try.underlying38 rfl infoR ?_))
    | ((with_reducible refine gate_dst (N := 54) rfl ?_); refine wpList_in (by rfl) (wp_load_row RT _ rfl g rfl _ s.cells (0, 0) _ HI.out.blk Try.underlying38 rfl infoR ?_))
    | ((with_reducible refine gate_dst (N := 64) rfl ?_); refine wpList_in (by rfl) (wp_load_row RT _ rfl g rfl _ s.cells (0, 0) _ HI.out.blk Try.underlying38 rfl infoR ?_))
    | (go_at_call_of 42 (Value.int IntKind.i64 0); refine (B20.out _).mono ?_; rintro e w6 ⟨rfl, k6⟩; have HI2 : Aside0 (St RT w6 g s) := ⟨HI.out.kp k6 (fun h => h)⟩; clear HI; have HI := HI2; clear HI2; have K5b := K5.trans k6; clear K5; have K5 := K5b; clear K5b; have c0b := HI.out.c0)
    | (go_at_call_of 42 (Value.int IntKind.i64 7); refine (B8.out _).mono ?_; rintro e w7 ⟨rfl, k7⟩; have HI2 : Aside0 (St RT w7 g s) := ⟨HI.out.kp k7 (fun h => h)⟩; clear HI; have HI := HI2; clear HI2; have K5b := K5.trans k7; clear K5; have K5 := K5b; clear K5b; have c0c := HI.out.c0)
    | (go_at_call_of 42 (Value.int IntKind.i64 13); refine (B14.out _).mono ?_; rintro e w8 ⟨rfl, k8⟩; have K5b := K5.trans k8; clear K5; have K5 := K5b; clear K5b))
  go_ret
  exact ⟨rfl, K5⟩
set_option maxHeartbeats 8000000 in
set_option maxRecDepth 100000 in
theorem rmay_D0 (s : VS) (n : Int) (w : World) (hs : s.ok) (q0 : Int) (nm : ByteArray) (q2 q3 : Int) (hof : ofR n = (q0, nm, q2, q3, true)) (n0 : 0 ≤ n) (e4 : n / 1024 % 4 = n / 1024) (hq : decide (s.m < n / 256 % 4) = false) (hs4 : (n == 384) = true) (hm1 : (s.m == 1) = true) (hb : bitW (s.r 1) 20 = false) (hlo : decide (n < 3072) = true) :
    Calls Try.prog 24 #[.agg s.cells, .int .i64 n, .bool false] w fun e w' => e = .returned (.bool true) ∧ KpN w w' := by
  have ofc : Aside0 (∀ w, Calls Try.prog 25 #[.int .i64 n] w fun e w' => e = .returned (.tuple #[.agg (rowC q0 nm q2 q3), .bool true]) ∧ KpN w w') := ⟨fun w => by
    have := of_c n w; rw [hof] at this; exact this⟩
  clear hof
  have B20 : Aside0 (∀ w, Calls Try.prog 42 #[.agg s.cells, .int .i64 0, .int .i64 20] w fun e w' => e = .returned (.bool false) ∧ KpN w w') := ⟨fun w => by have := rbit_l s 0 20 w hs (by decide); rw [hb] at this; exact this⟩
  clear hb
  go_enter Try.func24, Try.ntmps24
  go_wp2_with (first
    | ((with_reducible refine gate_dst (N := 3) rfl ?_); refine bx_ev rfl rfl (N := 3) rfl (s.cells) rfl ?_; intro g hg_g w1 hb_g hk_g; have Hg_g := Aside0.mk hg_g; clear hg_g)
    | (go_at_call 25; refine (ofc.out _).mono ?_; rintro e w2 ⟨rfl, k2⟩)
    | (((with_reducible refine gate_dst (N := 7) rfl ?_); refine al_ev rfl rfl (N := 7) rfl _ (zeroRow _) ?_; intro r hg_r w3 hb_r hk_r; have Hg_r := Aside0.mk hg_r; clear hg_r); have hI3 : St RT w3 g s := ((St.mk hb_g).kp k2 (fun h => h)).kp hk_r (fun h => h); have hgr : g ≠ r := (by have := Hg_r.out; have := ((St.mk (T := RT) hb_g).kp k2 (fun h => h)).lt; omega); have hwr : w.heap.size ≤ r := (by have := Hg_r.out; have := (hk_g.trans k2).size; omega))
    | ((with_reducible refine gate_store (t := 28) (p := 7) rfl ?_); refine st_ev rfl rfl rfl r (rowC q0 nm q2 q3) _ _ rfl rfl hb_r infoRow rfl (rowC_one _ _ _ _) ?_; intro w5 hs5 ks5; have HI : Aside0 (St RT w5 g s) := ⟨hI3.kp ks5 hgr⟩; have K5 : KpN w w5 := ((hk_g.trans k2).trans hk_r).then ks5 (fun i hi (e : i = r) => by omega); have c0 := HI.out.c0)
    | ((with_reducible refine gate_dst (N := 40) rfl ?_); refine wpList_in (by rfl) (wp_load_row RT _ rfl g rfl _ s.cells (0, 0) _ HI.out.blk Try.underlying38 rfl infoR ?_))
    | ((with_reducible refine gate_dst (N := 54) rfl ?_); refine wpList_in (by rfl) (wp_load_row RT _ rfl g rfl _ s.cells (0, 0) _ HI.out.blk Try.underlying38 rfl infoR ?_))
    | ((with_reducible refine gate_dst (N := 64) rfl ?_); refine wpList_in (by rfl) (wp_load_row RT _ rfl g rfl _ s.cells (0, 0) _ HI.out.blk Try.underlying38 rfl infoR ?_))
    | (go_at_call_of 42 (Value.int IntKind.i64 0); refine (B20.out _).mono ?_; rintro e w6 ⟨rfl, k6⟩; have HI2 : Aside0 (St RT w6 g s) := ⟨HI.out.kp k6 (fun h => h)⟩; clear HI; have HI := HI2; clear HI2; have K5b := K5.trans k6; clear K5; have K5 := K5b; clear K5b; have c0b := HI.out.c0)
    | (go_at_call_of 42 (Value.int IntKind.i64 7); refine (B8.out _).mono ?_; rintro e w7 ⟨rfl, k7⟩; have HI2 : Aside0 (St RT w7 g s) := ⟨HI.out.kp k7 (fun h => h)⟩; clear HI; have HI := HI2; clear HI2; have K5b := K5.trans k7; clear K5; have K5 := K5b; clear K5b; have c0c := HI.out.c0)
    | (go_at_call_of 42 (Value.int IntKind.i64 13); refine (B14.out _).mono ?_; rintro e w8 ⟨rfl, k8⟩; have K5b := K5.trans k8; clear K5; have K5 := K5b; clear K5b))
  go_ret
  exact ⟨rfl, K5⟩
set_option maxHeartbeats 8000000 in
set_option maxRecDepth 100000 in
theorem rmay_D1 (s : VS) (n : Int) (w : World) (hs : s.ok) (q0 : Int) (nm : ByteArray) (q2 q3 : Int) (hof : ofR n = (q0, nm, q2, q3, true)) (n0 : 0 ≤ n) (e4 : n / 1024 % 4 = n / 1024) (h10 : (n / 1024 == 3) = false) (hq : decide (s.m < n / 256 % 4) = false) (hs4 : (n == 384) = true) (hm1 : (s.m == 1) = true) (hb : bitW (s.r 1) 20 = false) (hlo : decide (n < 3072) = true) :
    Calls Try.prog 24 #[.agg s.cells, .int .i64 n, .bool true] w fun e w' => e = .returned (.bool true) ∧ KpN w w' := by
  have ofc : Aside0 (∀ w, Calls Try.prog 25 #[.int .i64 n] w fun e w' => e = .returned (.tuple #[.agg (rowC q0 nm q2 q3), .bool true]) ∧ KpN w w') := ⟨fun w => by
    have := of_c n w; rw [hof] at this; exact this⟩
  clear hof
  have B20 : Aside0 (∀ w, Calls Try.prog 42 #[.agg s.cells, .int .i64 0, .int .i64 20] w fun e w' => e = .returned (.bool false) ∧ KpN w w') := ⟨fun w => by have := rbit_l s 0 20 w hs (by decide); rw [hb] at this; exact this⟩
  clear hb
  go_enter Try.func24, Try.ntmps24
  go_wp2_with (first
    | ((with_reducible refine gate_dst (N := 3) rfl ?_); refine bx_ev rfl rfl (N := 3) rfl (s.cells) rfl ?_; intro g hg_g w1 hb_g hk_g; have Hg_g := Aside0.mk hg_g; clear hg_g)
    | (go_at_call 25; refine (ofc.out _).mono ?_; rintro e w2 ⟨rfl, k2⟩)
    | (((with_reducible refine gate_dst (N := 7) rfl ?_); refine al_ev rfl rfl (N := 7) rfl _ (zeroRow _) ?_; intro r hg_r w3 hb_r hk_r; have Hg_r := Aside0.mk hg_r; clear hg_r); have hI3 : St RT w3 g s := ((St.mk hb_g).kp k2 (fun h => h)).kp hk_r (fun h => h); have hgr : g ≠ r := (by have := Hg_r.out; have := ((St.mk (T := RT) hb_g).kp k2 (fun h => h)).lt; omega); have hwr : w.heap.size ≤ r := (by have := Hg_r.out; have := (hk_g.trans k2).size; omega))
    | ((with_reducible refine gate_store (t := 28) (p := 7) rfl ?_); refine st_ev rfl rfl rfl r (rowC q0 nm q2 q3) _ _ rfl rfl hb_r infoRow rfl (rowC_one _ _ _ _) ?_; intro w5 hs5 ks5; have HI : Aside0 (St RT w5 g s) := ⟨hI3.kp ks5 hgr⟩; have K5 : KpN w w5 := ((hk_g.trans k2).trans hk_r).then ks5 (fun i hi (e : i = r) => by omega); have c0 := HI.out.c0)
    | ((with_reducible refine gate_dst (N := 40) rfl ?_); refine wpList_in (by rfl) (wp_load_row RT _ rfl g rfl _ s.cells (0, 0) _ HI.out.blk Try.underlying38 rfl infoR ?_))
    | ((with_reducible refine gate_dst (N := 54) rfl ?_); refine wpList_in (by rfl) (wp_load_row RT _ rfl g rfl _ s.cells (0, 0) _ HI.out.blk Try.underlying38 rfl infoR ?_))
    | ((with_reducible refine gate_dst (N := 64) rfl ?_); refine wpList_in (by rfl) (wp_load_row RT _ rfl g rfl _ s.cells (0, 0) _ HI.out.blk Try.underlying38 rfl infoR ?_))
    | (go_at_call_of 42 (Value.int IntKind.i64 0); refine (B20.out _).mono ?_; rintro e w6 ⟨rfl, k6⟩; have HI2 : Aside0 (St RT w6 g s) := ⟨HI.out.kp k6 (fun h => h)⟩; clear HI; have HI := HI2; clear HI2; have K5b := K5.trans k6; clear K5; have K5 := K5b; clear K5b; have c0b := HI.out.c0)
    | (go_at_call_of 42 (Value.int IntKind.i64 7); refine (B8.out _).mono ?_; rintro e w7 ⟨rfl, k7⟩; have HI2 : Aside0 (St RT w7 g s) := ⟨HI.out.kp k7 (fun h => h)⟩; clear HI; have HI := HI2; clear HI2; have K5b := K5.trans k7; clear K5; have K5 := K5b; clear K5b; have c0c := HI.out.c0)
    | (go_at_call_of 42 (Value.int IntKind.i64 13); refine (B14.out _).mono ?_; rintro e w8 ⟨rfl, k8⟩; have K5b := K5.trans k8; clear K5; have K5 := K5b; clear K5b))
  go_ret
  exact ⟨rfl, K5⟩
set_option maxHeartbeats 8000000 in
set_option maxRecDepth 100000 in
theorem rmay_E0 (s : VS) (n : Int) (w : World) (hs : s.ok) (q0 : Int) (nm : ByteArray) (q2 q3 : Int) (hof : ofR n = (q0, nm, q2, q3, true)) (n0 : 0 ≤ n) (e4 : n / 1024 % 4 = n / 1024) (hq : decide (s.m < n / 256 % 4) = false) (hs4 : (n == 384) = true) (hm1 : (s.m == 1) = false) (hlo : decide (n < 3072) = true) :
    Calls Try.prog 24 #[.agg s.cells, .int .i64 n, .bool false] w fun e w' => e = .returned (.bool true) ∧ KpN w w' := by
  have ofc : Aside0 (∀ w, Calls Try.prog 25 #[.int .i64 n] w fun e w' => e = .returned (.tuple #[.agg (rowC q0 nm q2 q3), .bool true]) ∧ KpN w w') := ⟨fun w => by
    have := of_c n w; rw [hof] at this; exact this⟩
  clear hof
  go_enter Try.func24, Try.ntmps24
  go_wp2_with (first
    | ((with_reducible refine gate_dst (N := 3) rfl ?_); refine bx_ev rfl rfl (N := 3) rfl (s.cells) rfl ?_; intro g hg_g w1 hb_g hk_g; have Hg_g := Aside0.mk hg_g; clear hg_g)
    | (go_at_call 25; refine (ofc.out _).mono ?_; rintro e w2 ⟨rfl, k2⟩)
    | (((with_reducible refine gate_dst (N := 7) rfl ?_); refine al_ev rfl rfl (N := 7) rfl _ (zeroRow _) ?_; intro r hg_r w3 hb_r hk_r; have Hg_r := Aside0.mk hg_r; clear hg_r); have hI3 : St RT w3 g s := ((St.mk hb_g).kp k2 (fun h => h)).kp hk_r (fun h => h); have hgr : g ≠ r := (by have := Hg_r.out; have := ((St.mk (T := RT) hb_g).kp k2 (fun h => h)).lt; omega); have hwr : w.heap.size ≤ r := (by have := Hg_r.out; have := (hk_g.trans k2).size; omega))
    | ((with_reducible refine gate_store (t := 28) (p := 7) rfl ?_); refine st_ev rfl rfl rfl r (rowC q0 nm q2 q3) _ _ rfl rfl hb_r infoRow rfl (rowC_one _ _ _ _) ?_; intro w5 hs5 ks5; have HI : Aside0 (St RT w5 g s) := ⟨hI3.kp ks5 hgr⟩; have K5 : KpN w w5 := ((hk_g.trans k2).trans hk_r).then ks5 (fun i hi (e : i = r) => by omega); have c0 := HI.out.c0)
    | ((with_reducible refine gate_dst (N := 40) rfl ?_); refine wpList_in (by rfl) (wp_load_row RT _ rfl g rfl _ s.cells (0, 0) _ HI.out.blk Try.underlying38 rfl infoR ?_))
    | ((with_reducible refine gate_dst (N := 54) rfl ?_); refine wpList_in (by rfl) (wp_load_row RT _ rfl g rfl _ s.cells (0, 0) _ HI.out.blk Try.underlying38 rfl infoR ?_))
    | ((with_reducible refine gate_dst (N := 64) rfl ?_); refine wpList_in (by rfl) (wp_load_row RT _ rfl g rfl _ s.cells (0, 0) _ HI.out.blk Try.underlying38 rfl infoR ?_))
    | (go_at_call_of 42 (Value.int IntKind.i64 0); refine (B20.out _).mono ?_; rintro e w6 ⟨rfl, k6⟩; have HI2 : Aside0 (St RT w6 g s) := ⟨HI.out.kp k6 (fun h => h)⟩; clear HI; have HI := HI2; clear HI2; have K5b := K5.trans k6; clear K5; have K5 := K5b; clear K5b; have c0b := HI.out.c0)
    | (go_at_call_of 42 (Value.int IntKind.i64 7); refine (B8.out _).mono ?_; rintro e w7 ⟨rfl, k7⟩; have HI2 : Aside0 (St RT w7 g s) := ⟨HI.out.kp k7 (fun h => h)⟩; clear HI; have HI := HI2; clear HI2; have K5b := K5.trans k7; clear K5; have K5 := K5b; clear K5b; have c0c := HI.out.c0)
    | (go_at_call_of 42 (Value.int IntKind.i64 13); refine (B14.out _).mono ?_; rintro e w8 ⟨rfl, k8⟩; have K5b := K5.trans k8; clear K5; have K5 := K5b; clear K5b))
  go_ret
  exact ⟨rfl, K5⟩
set_option maxHeartbeats 8000000 in
set_option maxRecDepth 100000 in
theorem rmay_E1 (s : VS) (n : Int) (w : World) (hs : s.ok) (q0 : Int) (nm : ByteArray) (q2 q3 : Int) (hof : ofR n = (q0, nm, q2, q3, true)) (n0 : 0 ≤ n) (e4 : n / 1024 % 4 = n / 1024) (h10 : (n / 1024 == 3) = false) (hq : decide (s.m < n / 256 % 4) = false) (hs4 : (n == 384) = true) (hm1 : (s.m == 1) = false) (hlo : decide (n < 3072) = true) :
    Calls Try.prog 24 #[.agg s.cells, .int .i64 n, .bool true] w fun e w' => e = .returned (.bool true) ∧ KpN w w' := by
  have ofc : Aside0 (∀ w, Calls Try.prog 25 #[.int .i64 n] w fun e w' => e = .returned (.tuple #[.agg (rowC q0 nm q2 q3), .bool true]) ∧ KpN w w') := ⟨fun w => by
    have := of_c n w; rw [hof] at this; exact this⟩
  clear hof
  go_enter Try.func24, Try.ntmps24
  go_wp2_with (first
    | ((with_reducible refine gate_dst (N := 3) rfl ?_); refine bx_ev rfl rfl (N := 3) rfl (s.cells) rfl ?_; intro g hg_g w1 hb_g hk_g; have Hg_g := Aside0.mk hg_g; clear hg_g)
    | (go_at_call 25; refine (ofc.out _).mono ?_; rintro e w2 ⟨rfl, k2⟩)
    | (((with_reducible refine gate_dst (N := 7) rfl ?_); refine al_ev rfl rfl (N := 7) rfl _ (zeroRow _) ?_; intro r hg_r w3 hb_r hk_r; have Hg_r := Aside0.mk hg_r; clear hg_r); have hI3 : St RT w3 g s := ((St.mk hb_g).kp k2 (fun h => h)).kp hk_r (fun h => h); have hgr : g ≠ r := (by have := Hg_r.out; have := ((St.mk (T := RT) hb_g).kp k2 (fun h => h)).lt; omega); have hwr : w.heap.size ≤ r := (by have := Hg_r.out; have := (hk_g.trans k2).size; omega))
    | ((with_reducible refine gate_store (t := 28) (p := 7) rfl ?_); refine st_ev rfl rfl rfl r (rowC q0 nm q2 q3) _ _ rfl rfl hb_r infoRow rfl (rowC_one _ _ _ _) ?_; intro w5 hs5 ks5; have HI : Aside0 (St RT w5 g s) := ⟨hI3.kp ks5 hgr⟩; have K5 : KpN w w5 := ((hk_g.trans k2).trans hk_r).then ks5 (fun i hi (e : i = r) => by omega); have c0 := HI.out.c0)
    | ((with_reducible refine gate_dst (N := 40) rfl ?_); refine wpList_in (by rfl) (wp_load_row RT _ rfl g rfl _ s.cells (0, 0) _ HI.out.blk Try.underlying38 rfl infoR ?_))
    | ((with_reducible refine gate_dst (N := 54) rfl ?_); refine wpList_in (by rfl) (wp_load_row RT _ rfl g rfl _ s.cells (0, 0) _ HI.out.blk Try.underlying38 rfl infoR ?_))
    | ((with_reducible refine gate_dst (N := 64) rfl ?_); refine wpList_in (by rfl) (wp_load_row RT _ rfl g rfl _ s.cells (0, 0) _ HI.out.blk Try.underlying38 rfl infoR ?_))
    | (go_at_call_of 42 (Value.int IntKind.i64 0); refine (B20.out _).mono ?_; rintro e w6 ⟨rfl, k6⟩; have HI2 : Aside0 (St RT w6 g s) := ⟨HI.out.kp k6 (fun h => h)⟩; clear HI; have HI := HI2; clear HI2; have K5b := K5.trans k6; clear K5; have K5 := K5b; clear K5b; have c0b := HI.out.c0)
    | (go_at_call_of 42 (Value.int IntKind.i64 7); refine (B8.out _).mono ?_; rintro e w7 ⟨rfl, k7⟩; have HI2 : Aside0 (St RT w7 g s) := ⟨HI.out.kp k7 (fun h => h)⟩; clear HI; have HI := HI2; clear HI2; have K5b := K5.trans k7; clear K5; have K5 := K5b; clear K5b; have c0c := HI.out.c0)
    | (go_at_call_of 42 (Value.int IntKind.i64 13); refine (B14.out _).mono ?_; rintro e w8 ⟨rfl, k8⟩; have K5b := K5.trans k8; clear K5; have K5 := K5b; clear K5b))
  go_ret
  exact ⟨rfl, K5⟩
set_option maxHeartbeats 8000000 in
set_option maxRecDepth 100000 in
theorem rmay_F0 (s : VS) (n : Int) (w : World) (hs : s.ok) (q0 : Int) (nm : ByteArray) (q2 q3 : Int) (hof : ofR n = (q0, nm, q2, q3, true)) (n0 : 0 ≤ n) (e4 : n / 1024 % 4 = n / 1024) (hq : decide (s.m < n / 256 % 4) = false) (hs4 : (n == 384) = false) (hlo : decide (n < 3072) = true) :
    Calls Try.prog 24 #[.agg s.cells, .int .i64 n, .bool false] w fun e w' => e = .returned (.bool true) ∧ KpN w w' := by
  have ofc : Aside0 (∀ w, Calls Try.prog 25 #[.int .i64 n] w fun e w' => e = .returned (.tuple #[.agg (rowC q0 nm q2 q3), .bool true]) ∧ KpN w w') := ⟨fun w => by
    have := of_c n w; rw [hof] at this; exact this⟩
  clear hof
  go_enter Try.func24, Try.ntmps24
  go_wp2_with (first
    | ((with_reducible refine gate_dst (N := 3) rfl ?_); refine bx_ev rfl rfl (N := 3) rfl (s.cells) rfl ?_; intro g hg_g w1 hb_g hk_g; have Hg_g := Aside0.mk hg_g; clear hg_g)
    | (go_at_call 25; refine (ofc.out _).mono ?_; rintro e w2 ⟨rfl, k2⟩)
    | (((with_reducible refine gate_dst (N := 7) rfl ?_); refine al_ev rfl rfl (N := 7) rfl _ (zeroRow _) ?_; intro r hg_r w3 hb_r hk_r; have Hg_r := Aside0.mk hg_r; clear hg_r); have hI3 : St RT w3 g s := ((St.mk hb_g).kp k2 (fun h => h)).kp hk_r (fun h => h); have hgr : g ≠ r := (by have := Hg_r.out; have := ((St.mk (T := RT) hb_g).kp k2 (fun h => h)).lt; omega); have hwr : w.heap.size ≤ r := (by have := Hg_r.out; have := (hk_g.trans k2).size; omega))
    | ((with_reducible refine gate_store (t := 28) (p := 7) rfl ?_); refine st_ev rfl rfl rfl r (rowC q0 nm q2 q3) _ _ rfl rfl hb_r infoRow rfl (rowC_one _ _ _ _) ?_; intro w5 hs5 ks5; have HI : Aside0 (St RT w5 g s) := ⟨hI3.kp ks5 hgr⟩; have K5 : KpN w w5 := ((hk_g.trans k2).trans hk_r).then ks5 (fun i hi (e : i = r) => by omega); have c0 := HI.out.c0)
    | ((with_reducible refine gate_dst (N := 40) rfl ?_); refine wpList_in (by rfl) (wp_load_row RT _ rfl g rfl _ s.cells (0, 0) _ HI.out.blk Try.underlying38 rfl infoR ?_))
    | ((with_reducible refine gate_dst (N := 54) rfl ?_); refine wpList_in (by rfl) (wp_load_row RT _ rfl g rfl _ s.cells (0, 0) _ HI.out.blk Try.underlying38 rfl infoR ?_))
    | ((with_reducible refine gate_dst (N := 64) rfl ?_); refine wpList_in (by rfl) (wp_load_row RT _ rfl g rfl _ s.cells (0, 0) _ HI.out.blk Try.underlying38 rfl infoR ?_))
    | (go_at_call_of 42 (Value.int IntKind.i64 0); refine (B20.out _).mono ?_; rintro e w6 ⟨rfl, k6⟩; have HI2 : Aside0 (St RT w6 g s) := ⟨HI.out.kp k6 (fun h => h)⟩; clear HI; have HI := HI2; clear HI2; have K5b := K5.trans k6; clear K5; have K5 := K5b; clear K5b; have c0b := HI.out.c0)
    | (go_at_call_of 42 (Value.int IntKind.i64 7); refine (B8.out _).mono ?_; rintro e w7 ⟨rfl, k7⟩; have HI2 : Aside0 (St RT w7 g s) := ⟨HI.out.kp k7 (fun h => h)⟩; clear HI; have HI := HI2; clear HI2; have K5b := K5.trans k7; clear K5; have K5 := K5b; clear K5b; have c0c := HI.out.c0)
    | (go_at_call_of 42 (Value.int IntKind.i64 13); refine (B14.out _).mono ?_; rintro e w8 ⟨rfl, k8⟩; have K5b := K5.trans k8; clear K5; have K5 := K5b; clear K5b))
  go_ret
  exact ⟨rfl, K5⟩
set_option maxHeartbeats 8000000 in
set_option maxRecDepth 100000 in
theorem rmay_F1 (s : VS) (n : Int) (w : World) (hs : s.ok) (q0 : Int) (nm : ByteArray) (q2 q3 : Int) (hof : ofR n = (q0, nm, q2, q3, true)) (n0 : 0 ≤ n) (e4 : n / 1024 % 4 = n / 1024) (h10 : (n / 1024 == 3) = false) (hq : decide (s.m < n / 256 % 4) = false) (hs4 : (n == 384) = false) (hlo : decide (n < 3072) = true) :
    Calls Try.prog 24 #[.agg s.cells, .int .i64 n, .bool true] w fun e w' => e = .returned (.bool true) ∧ KpN w w' := by
  have ofc : Aside0 (∀ w, Calls Try.prog 25 #[.int .i64 n] w fun e w' => e = .returned (.tuple #[.agg (rowC q0 nm q2 q3), .bool true]) ∧ KpN w w') := ⟨fun w => by
    have := of_c n w; rw [hof] at this; exact this⟩
  clear hof
  go_enter Try.func24, Try.ntmps24
  go_wp2_with (first
    | ((with_reducible refine gate_dst (N := 3) rfl ?_); refine bx_ev rfl rfl (N := 3) rfl (s.cells) rfl ?_; intro g hg_g w1 hb_g hk_g; have Hg_g := Aside0.mk hg_g; clear hg_g)
    | (go_at_call 25; refine (ofc.out _).mono ?_; rintro e w2 ⟨rfl, k2⟩)
    | (((with_reducible refine gate_dst (N := 7) rfl ?_); refine al_ev rfl rfl (N := 7) rfl _ (zeroRow _) ?_; intro r hg_r w3 hb_r hk_r; have Hg_r := Aside0.mk hg_r; clear hg_r); have hI3 : St RT w3 g s := ((St.mk hb_g).kp k2 (fun h => h)).kp hk_r (fun h => h); have hgr : g ≠ r := (by have := Hg_r.out; have := ((St.mk (T := RT) hb_g).kp k2 (fun h => h)).lt; omega); have hwr : w.heap.size ≤ r := (by have := Hg_r.out; have := (hk_g.trans k2).size; omega))
    | ((with_reducible refine gate_store (t := 28) (p := 7) rfl ?_); refine st_ev rfl rfl rfl r (rowC q0 nm q2 q3) _ _ rfl rfl hb_r infoRow rfl (rowC_one _ _ _ _) ?_; intro w5 hs5 ks5; have HI : Aside0 (St RT w5 g s) := ⟨hI3.kp ks5 hgr⟩; have K5 : KpN w w5 := ((hk_g.trans k2).trans hk_r).then ks5 (fun i hi (e : i = r) => by omega); have c0 := HI.out.c0)
    | ((with_reducible refine gate_dst (N := 40) rfl ?_); refine wpList_in (by rfl) (wp_load_row RT _ rfl g rfl _ s.cells (0, 0) _ HI.out.blk Try.underlying38 rfl infoR ?_))
    | ((with_reducible refine gate_dst (N := 54) rfl ?_); refine wpList_in (by rfl) (wp_load_row RT _ rfl g rfl _ s.cells (0, 0) _ HI.out.blk Try.underlying38 rfl infoR ?_))
    | ((with_reducible refine gate_dst (N := 64) rfl ?_); refine wpList_in (by rfl) (wp_load_row RT _ rfl g rfl _ s.cells (0, 0) _ HI.out.blk Try.underlying38 rfl infoR ?_))
    | (go_at_call_of 42 (Value.int IntKind.i64 0); refine (B20.out _).mono ?_; rintro e w6 ⟨rfl, k6⟩; have HI2 : Aside0 (St RT w6 g s) := ⟨HI.out.kp k6 (fun h => h)⟩; clear HI; have HI := HI2; clear HI2; have K5b := K5.trans k6; clear K5; have K5 := K5b; clear K5b; have c0b := HI.out.c0)
    | (go_at_call_of 42 (Value.int IntKind.i64 7); refine (B8.out _).mono ?_; rintro e w7 ⟨rfl, k7⟩; have HI2 : Aside0 (St RT w7 g s) := ⟨HI.out.kp k7 (fun h => h)⟩; clear HI; have HI := HI2; clear HI2; have K5b := K5.trans k7; clear K5; have K5 := K5b; clear K5b; have c0c := HI.out.c0)
    | (go_at_call_of 42 (Value.int IntKind.i64 13); refine (B14.out _).mono ?_; rintro e w8 ⟨rfl, k8⟩; have K5b := K5.trans k8; clear K5; have K5 := K5b; clear K5b))
  go_ret
  exact ⟨rfl, K5⟩
set_option maxHeartbeats 8000000 in
set_option maxRecDepth 100000 in
theorem rmay_G0 (s : VS) (n : Int) (w : World) (hs : s.ok) (q0 : Int) (nm : ByteArray) (q2 q3 : Int) (hof : ofR n = (q0, nm, q2, q3, true)) (n0 : 0 ≤ n) (e4 : n / 1024 % 4 = n / 1024) (hq : decide (s.m < n / 256 % 4) = false) (hs4 : (n == 384) = false) (hlo : decide (n < 3072) = false) (hhi : decide (3074 < n) = true) :
    Calls Try.prog 24 #[.agg s.cells, .int .i64 n, .bool false] w fun e w' => e = .returned (.bool true) ∧ KpN w w' := by
  have ofc : Aside0 (∀ w, Calls Try.prog 25 #[.int .i64 n] w fun e w' => e = .returned (.tuple #[.agg (rowC q0 nm q2 q3), .bool true]) ∧ KpN w w') := ⟨fun w => by
    have := of_c n w; rw [hof] at this; exact this⟩
  clear hof
  go_enter Try.func24, Try.ntmps24
  go_wp2_with (first
    | ((with_reducible refine gate_dst (N := 3) rfl ?_); refine bx_ev rfl rfl (N := 3) rfl (s.cells) rfl ?_; intro g hg_g w1 hb_g hk_g; have Hg_g := Aside0.mk hg_g; clear hg_g)
    | (go_at_call 25; refine (ofc.out _).mono ?_; rintro e w2 ⟨rfl, k2⟩)
    | (((with_reducible refine gate_dst (N := 7) rfl ?_); refine al_ev rfl rfl (N := 7) rfl _ (zeroRow _) ?_; intro r hg_r w3 hb_r hk_r; have Hg_r := Aside0.mk hg_r; clear hg_r); have hI3 : St RT w3 g s := ((St.mk hb_g).kp k2 (fun h => h)).kp hk_r (fun h => h); have hgr : g ≠ r := (by have := Hg_r.out; have := ((St.mk (T := RT) hb_g).kp k2 (fun h => h)).lt; omega); have hwr : w.heap.size ≤ r := (by have := Hg_r.out; have := (hk_g.trans k2).size; omega))
    | ((with_reducible refine gate_store (t := 28) (p := 7) rfl ?_); refine st_ev rfl rfl rfl r (rowC q0 nm q2 q3) _ _ rfl rfl hb_r infoRow rfl (rowC_one _ _ _ _) ?_; intro w5 hs5 ks5; have HI : Aside0 (St RT w5 g s) := ⟨hI3.kp ks5 hgr⟩; have K5 : KpN w w5 := ((hk_g.trans k2).trans hk_r).then ks5 (fun i hi (e : i = r) => by omega); have c0 := HI.out.c0)
    | ((with_reducible refine gate_dst (N := 40) rfl ?_); refine wpList_in (by rfl) (wp_load_row RT _ rfl g rfl _ s.cells (0, 0) _ HI.out.blk Try.underlying38 rfl infoR ?_))
    | ((with_reducible refine gate_dst (N := 54) rfl ?_); refine wpList_in (by rfl) (wp_load_row RT _ rfl g rfl _ s.cells (0, 0) _ HI.out.blk Try.underlying38 rfl infoR ?_))
    | ((with_reducible refine gate_dst (N := 64) rfl ?_); refine wpList_in (by rfl) (wp_load_row RT _ rfl g rfl _ s.cells (0, 0) _ HI.out.blk Try.underlying38 rfl infoR ?_))
    | (go_at_call_of 42 (Value.int IntKind.i64 0); refine (B20.out _).mono ?_; rintro e w6 ⟨rfl, k6⟩; have HI2 : Aside0 (St RT w6 g s) := ⟨HI.out.kp k6 (fun h => h)⟩; clear HI; have HI := HI2; clear HI2; have K5b := K5.trans k6; clear K5; have K5 := K5b; clear K5b; have c0b := HI.out.c0)
    | (go_at_call_of 42 (Value.int IntKind.i64 7); refine (B8.out _).mono ?_; rintro e w7 ⟨rfl, k7⟩; have HI2 : Aside0 (St RT w7 g s) := ⟨HI.out.kp k7 (fun h => h)⟩; clear HI; have HI := HI2; clear HI2; have K5b := K5.trans k7; clear K5; have K5 := K5b; clear K5b; have c0c := HI.out.c0)
    | (go_at_call_of 42 (Value.int IntKind.i64 13); refine (B14.out _).mono ?_; rintro e w8 ⟨rfl, k8⟩; have K5b := K5.trans k8; clear K5; have K5 := K5b; clear K5b))
  go_ret
  exact ⟨rfl, K5⟩
set_option maxHeartbeats 8000000 in
set_option maxRecDepth 100000 in
theorem rmay_G1 (s : VS) (n : Int) (w : World) (hs : s.ok) (q0 : Int) (nm : ByteArray) (q2 q3 : Int) (hof : ofR n = (q0, nm, q2, q3, true)) (n0 : 0 ≤ n) (e4 : n / 1024 % 4 = n / 1024) (h10 : (n / 1024 == 3) = false) (hq : decide (s.m < n / 256 % 4) = false) (hs4 : (n == 384) = false) (hlo : decide (n < 3072) = false) (hhi : decide (3074 < n) = true) :
    Calls Try.prog 24 #[.agg s.cells, .int .i64 n, .bool true] w fun e w' => e = .returned (.bool true) ∧ KpN w w' := by
  have ofc : Aside0 (∀ w, Calls Try.prog 25 #[.int .i64 n] w fun e w' => e = .returned (.tuple #[.agg (rowC q0 nm q2 q3), .bool true]) ∧ KpN w w') := ⟨fun w => by
    have := of_c n w; rw [hof] at this; exact this⟩
  clear hof
  go_enter Try.func24, Try.ntmps24
  go_wp2_with (first
    | ((with_reducible refine gate_dst (N := 3) rfl ?_); refine bx_ev rfl rfl (N := 3) rfl (s.cells) rfl ?_; intro g hg_g w1 hb_g hk_g; have Hg_g := Aside0.mk hg_g; clear hg_g)
    | (go_at_call 25; refine (ofc.out _).mono ?_; rintro e w2 ⟨rfl, k2⟩)
    | (((with_reducible refine gate_dst (N := 7) rfl ?_); refine al_ev rfl rfl (N := 7) rfl _ (zeroRow _) ?_; intro r hg_r w3 hb_r hk_r; have Hg_r := Aside0.mk hg_r; clear hg_r); have hI3 : St RT w3 g s := ((St.mk hb_g).kp k2 (fun h => h)).kp hk_r (fun h => h); have hgr : g ≠ r := (by have := Hg_r.out; have := ((St.mk (T := RT) hb_g).kp k2 (fun h => h)).lt; omega); have hwr : w.heap.size ≤ r := (by have := Hg_r.out; have := (hk_g.trans k2).size; omega))
    | ((with_reducible refine gate_store (t := 28) (p := 7) rfl ?_); refine st_ev rfl rfl rfl r (rowC q0 nm q2 q3) _ _ rfl rfl hb_r infoRow rfl (rowC_one _ _ _ _) ?_; intro w5 hs5 ks5; have HI : Aside0 (St RT w5 g s) := ⟨hI3.kp ks5 hgr⟩; have K5 : KpN w w5 := ((hk_g.trans k2).trans hk_r).then ks5 (fun i hi (e : i = r) => by omega); have c0 := HI.out.c0)
    | ((with_reducible refine gate_dst (N := 40) rfl ?_); refine wpList_in (by rfl) (wp_load_row RT _ rfl g rfl _ s.cells (0, 0) _ HI.out.blk Try.underlying38 rfl infoR ?_))
    | ((with_reducible refine gate_dst (N := 54) rfl ?_); refine wpList_in (by rfl) (wp_load_row RT _ rfl g rfl _ s.cells (0, 0) _ HI.out.blk Try.underlying38 rfl infoR ?_))
    | ((with_reducible refine gate_dst (N := 64) rfl ?_); refine wpList_in (by rfl) (wp_load_row RT _ rfl g rfl _ s.cells (0, 0) _ HI.out.blk Try.underlying38 rfl infoR ?_))
    | (go_at_call_of 42 (Value.int IntKind.i64 0); refine (B20.out _).mono ?_; rintro e w6 ⟨rfl, k6⟩; have HI2 : Aside0 (St RT w6 g s) := ⟨HI.out.kp k6 (fun h => h)⟩; clear HI; have HI := HI2; clear HI2; have K5b := K5.trans k6; clear K5; have K5 := K5b; clear K5b; have c0b := HI.out.c0)
    | (go_at_call_of 42 (Value.int IntKind.i64 7); refine (B8.out _).mono ?_; rintro e w7 ⟨rfl, k7⟩; have HI2 : Aside0 (St RT w7 g s) := ⟨HI.out.kp k7 (fun h => h)⟩; clear HI; have HI := HI2; clear HI2; have K5b := K5.trans k7; clear K5; have K5 := K5b; clear K5b; have c0c := HI.out.c0)
    | (go_at_call_of 42 (Value.int IntKind.i64 13); refine (B14.out _).mono ?_; rintro e w8 ⟨rfl, k8⟩; have K5b := K5.trans k8; clear K5; have K5 := K5b; clear K5b))
  go_ret
  exact ⟨rfl, K5⟩
set_option maxHeartbeats 8000000 in
set_option maxRecDepth 100000 in
theorem rmay_H0 (s : VS) (n : Int) (w : World) (hs : s.ok) (q0 : Int) (nm : ByteArray) (q2 q3 : Int) (hof : ofR n = (q0, nm, q2, q3, true)) (n0 : 0 ≤ n) (e4 : n / 1024 % 4 = n / 1024) (hq : decide (s.m < n / 256 % 4) = false) (hs4 : (n == 384) = false) (hlo : decide (n < 3072) = false) (hhi : decide (3074 < n) = false) (h3 : decide (s.m < 3) = true) (h8 : bitW (s.r 8) (n % 4) = false) :
    Calls Try.prog 24 #[.agg s.cells, .int .i64 n, .bool false] w fun e w' => e = .returned (.bool false) ∧ KpN w w' := by
  have ofc : Aside0 (∀ w, Calls Try.prog 25 #[.int .i64 n] w fun e w' => e = .returned (.tuple #[.agg (rowC q0 nm q2 q3), .bool true]) ∧ KpN w w') := ⟨fun w => by
    have := of_c n w; rw [hof] at this; exact this⟩
  clear hof
  have B8 : Aside0 (∀ w, Calls Try.prog 42 #[.agg s.cells, .int .i64 7, .int .i64 (n % 4)] w fun e w' => e = .returned (.bool false) ∧ KpN w w') := ⟨fun w => by have := rbit_l s 7 (n % 4) w hs (by decide); rw [h8] at this; exact this⟩
  clear h8
  go_enter Try.func24, Try.ntmps24
  go_wp2_with (first
    | ((with_reducible refine gate_dst (N := 3) rfl ?_); refine bx_ev rfl rfl (N := 3) rfl (s.cells) rfl ?_; intro g hg_g w1 hb_g hk_g; have Hg_g := Aside0.mk hg_g; clear hg_g)
    | (go_at_call 25; refine (ofc.out _).mono ?_; rintro e w2 ⟨rfl, k2⟩)
    | (((with_reducible refine gate_dst (N := 7) rfl ?_); refine al_ev rfl rfl (N := 7) rfl _ (zeroRow _) ?_; intro r hg_r w3 hb_r hk_r; have Hg_r := Aside0.mk hg_r; clear hg_r); have hI3 : St RT w3 g s := ((St.mk hb_g).kp k2 (fun h => h)).kp hk_r (fun h => h); have hgr : g ≠ r := (by have := Hg_r.out; have := ((St.mk (T := RT) hb_g).kp k2 (fun h => h)).lt; omega); have hwr : w.heap.size ≤ r := (by have := Hg_r.out; have := (hk_g.trans k2).size; omega))
    | ((with_reducible refine gate_store (t := 28) (p := 7) rfl ?_); refine st_ev rfl rfl rfl r (rowC q0 nm q2 q3) _ _ rfl rfl hb_r infoRow rfl (rowC_one _ _ _ _) ?_; intro w5 hs5 ks5; have HI : Aside0 (St RT w5 g s) := ⟨hI3.kp ks5 hgr⟩; have K5 : KpN w w5 := ((hk_g.trans k2).trans hk_r).then ks5 (fun i hi (e : i = r) => by omega); have c0 := HI.out.c0)
    | ((with_reducible refine gate_dst (N := 40) rfl ?_); refine wpList_in (by rfl) (wp_load_row RT _ rfl g rfl _ s.cells (0, 0) _ HI.out.blk Try.underlying38 rfl infoR ?_))
    | ((with_reducible refine gate_dst (N := 54) rfl ?_); refine wpList_in (by rfl) (wp_load_row RT _ rfl g rfl _ s.cells (0, 0) _ HI.out.blk Try.underlying38 rfl infoR ?_))
    | ((with_reducible refine gate_dst (N := 64) rfl ?_); refine wpList_in (by rfl) (wp_load_row RT _ rfl g rfl _ s.cells (0, 0) _ HI.out.blk Try.underlying38 rfl infoR ?_))
    | (go_at_call_of 42 (Value.int IntKind.i64 0); refine (B20.out _).mono ?_; rintro e w6 ⟨rfl, k6⟩; have HI2 : Aside0 (St RT w6 g s) := ⟨HI.out.kp k6 (fun h => h)⟩; clear HI; have HI := HI2; clear HI2; have K5b := K5.trans k6; clear K5; have K5 := K5b; clear K5b; have c0b := HI.out.c0)
    | (go_at_call_of 42 (Value.int IntKind.i64 7); refine (B8.out _).mono ?_; rintro e w7 ⟨rfl, k7⟩; have HI2 : Aside0 (St RT w7 g s) := ⟨HI.out.kp k7 (fun h => h)⟩; clear HI; have HI := HI2; clear HI2; have K5b := K5.trans k7; clear K5; have K5 := K5b; clear K5b; have c0c := HI.out.c0)
    | (go_at_call_of 42 (Value.int IntKind.i64 13); refine (B14.out _).mono ?_; rintro e w8 ⟨rfl, k8⟩; have K5b := K5.trans k8; clear K5; have K5 := K5b; clear K5b))
  go_ret
  exact ⟨rfl, K5⟩
set_option maxHeartbeats 8000000 in
set_option maxRecDepth 100000 in
theorem rmay_H1 (s : VS) (n : Int) (w : World) (hs : s.ok) (q0 : Int) (nm : ByteArray) (q2 q3 : Int) (hof : ofR n = (q0, nm, q2, q3, true)) (n0 : 0 ≤ n) (e4 : n / 1024 % 4 = n / 1024) (h10 : (n / 1024 == 3) = false) (hq : decide (s.m < n / 256 % 4) = false) (hs4 : (n == 384) = false) (hlo : decide (n < 3072) = false) (hhi : decide (3074 < n) = false) (h3 : decide (s.m < 3) = true) (h8 : bitW (s.r 8) (n % 4) = false) :
    Calls Try.prog 24 #[.agg s.cells, .int .i64 n, .bool true] w fun e w' => e = .returned (.bool false) ∧ KpN w w' := by
  have ofc : Aside0 (∀ w, Calls Try.prog 25 #[.int .i64 n] w fun e w' => e = .returned (.tuple #[.agg (rowC q0 nm q2 q3), .bool true]) ∧ KpN w w') := ⟨fun w => by
    have := of_c n w; rw [hof] at this; exact this⟩
  clear hof
  have B8 : Aside0 (∀ w, Calls Try.prog 42 #[.agg s.cells, .int .i64 7, .int .i64 (n % 4)] w fun e w' => e = .returned (.bool false) ∧ KpN w w') := ⟨fun w => by have := rbit_l s 7 (n % 4) w hs (by decide); rw [h8] at this; exact this⟩
  clear h8
  go_enter Try.func24, Try.ntmps24
  go_wp2_with (first
    | ((with_reducible refine gate_dst (N := 3) rfl ?_); refine bx_ev rfl rfl (N := 3) rfl (s.cells) rfl ?_; intro g hg_g w1 hb_g hk_g; have Hg_g := Aside0.mk hg_g; clear hg_g)
    | (go_at_call 25; refine (ofc.out _).mono ?_; rintro e w2 ⟨rfl, k2⟩)
    | (((with_reducible refine gate_dst (N := 7) rfl ?_); refine al_ev rfl rfl (N := 7) rfl _ (zeroRow _) ?_; intro r hg_r w3 hb_r hk_r; have Hg_r := Aside0.mk hg_r; clear hg_r); have hI3 : St RT w3 g s := ((St.mk hb_g).kp k2 (fun h => h)).kp hk_r (fun h => h); have hgr : g ≠ r := (by have := Hg_r.out; have := ((St.mk (T := RT) hb_g).kp k2 (fun h => h)).lt; omega); have hwr : w.heap.size ≤ r := (by have := Hg_r.out; have := (hk_g.trans k2).size; omega))
    | ((with_reducible refine gate_store (t := 28) (p := 7) rfl ?_); refine st_ev rfl rfl rfl r (rowC q0 nm q2 q3) _ _ rfl rfl hb_r infoRow rfl (rowC_one _ _ _ _) ?_; intro w5 hs5 ks5; have HI : Aside0 (St RT w5 g s) := ⟨hI3.kp ks5 hgr⟩; have K5 : KpN w w5 := ((hk_g.trans k2).trans hk_r).then ks5 (fun i hi (e : i = r) => by omega); have c0 := HI.out.c0)
    | ((with_reducible refine gate_dst (N := 40) rfl ?_); refine wpList_in (by rfl) (wp_load_row RT _ rfl g rfl _ s.cells (0, 0) _ HI.out.blk Try.underlying38 rfl infoR ?_))
    | ((with_reducible refine gate_dst (N := 54) rfl ?_); refine wpList_in (by rfl) (wp_load_row RT _ rfl g rfl _ s.cells (0, 0) _ HI.out.blk Try.underlying38 rfl infoR ?_))
    | ((with_reducible refine gate_dst (N := 64) rfl ?_); refine wpList_in (by rfl) (wp_load_row RT _ rfl g rfl _ s.cells (0, 0) _ HI.out.blk Try.underlying38 rfl infoR ?_))
    | (go_at_call_of 42 (Value.int IntKind.i64 0); refine (B20.out _).mono ?_; rintro e w6 ⟨rfl, k6⟩; have HI2 : Aside0 (St RT w6 g s) := ⟨HI.out.kp k6 (fun h => h)⟩; clear HI; have HI := HI2; clear HI2; have K5b := K5.trans k6; clear K5; have K5 := K5b; clear K5b; have c0b := HI.out.c0)
    | (go_at_call_of 42 (Value.int IntKind.i64 7); refine (B8.out _).mono ?_; rintro e w7 ⟨rfl, k7⟩; have HI2 : Aside0 (St RT w7 g s) := ⟨HI.out.kp k7 (fun h => h)⟩; clear HI; have HI := HI2; clear HI2; have K5b := K5.trans k7; clear K5; have K5 := K5b; clear K5b; have c0c := HI.out.c0)
    | (go_at_call_of 42 (Value.int IntKind.i64 13); refine (B14.out _).mono ?_; rintro e w8 ⟨rfl, k8⟩; have K5b := K5.trans k8; clear K5; have K5 := K5b; clear K5b))
  go_ret
  exact ⟨rfl, K5⟩
set_option maxHeartbeats 8000000 in
set_option maxRecDepth 100000 in
theorem rmay_I0 (s : VS) (n : Int) (w : World) (hs : s.ok) (q0 : Int) (nm : ByteArray) (q2 q3 : Int) (hof : ofR n = (q0, nm, q2, q3, true)) (n0 : 0 ≤ n) (e4 : n / 1024 % 4 = n / 1024) (hq : decide (s.m < n / 256 % 4) = false) (hs4 : (n == 384) = false) (hlo : decide (n < 3072) = false) (hhi : decide (3074 < n) = false) (h3 : decide (s.m < 3) = true) (h8 : bitW (s.r 8) (n % 4) = true) (hz : (s.m != 0) = true) :
    Calls Try.prog 24 #[.agg s.cells, .int .i64 n, .bool false] w fun e w' => e = .returned (.bool true) ∧ KpN w w' := by
  have ofc : Aside0 (∀ w, Calls Try.prog 25 #[.int .i64 n] w fun e w' => e = .returned (.tuple #[.agg (rowC q0 nm q2 q3), .bool true]) ∧ KpN w w') := ⟨fun w => by
    have := of_c n w; rw [hof] at this; exact this⟩
  clear hof
  have B8 : Aside0 (∀ w, Calls Try.prog 42 #[.agg s.cells, .int .i64 7, .int .i64 (n % 4)] w fun e w' => e = .returned (.bool true) ∧ KpN w w') := ⟨fun w => by have := rbit_l s 7 (n % 4) w hs (by decide); rw [h8] at this; exact this⟩
  clear h8
  go_enter Try.func24, Try.ntmps24
  go_wp2_with (first
    | ((with_reducible refine gate_dst (N := 3) rfl ?_); refine bx_ev rfl rfl (N := 3) rfl (s.cells) rfl ?_; intro g hg_g w1 hb_g hk_g; have Hg_g := Aside0.mk hg_g; clear hg_g)
    | (go_at_call 25; refine (ofc.out _).mono ?_; rintro e w2 ⟨rfl, k2⟩)
    | (((with_reducible refine gate_dst (N := 7) rfl ?_); refine al_ev rfl rfl (N := 7) rfl _ (zeroRow _) ?_; intro r hg_r w3 hb_r hk_r; have Hg_r := Aside0.mk hg_r; clear hg_r); have hI3 : St RT w3 g s := ((St.mk hb_g).kp k2 (fun h => h)).kp hk_r (fun h => h); have hgr : g ≠ r := (by have := Hg_r.out; have := ((St.mk (T := RT) hb_g).kp k2 (fun h => h)).lt; omega); have hwr : w.heap.size ≤ r := (by have := Hg_r.out; have := (hk_g.trans k2).size; omega))
    | ((with_reducible refine gate_store (t := 28) (p := 7) rfl ?_); refine st_ev rfl rfl rfl r (rowC q0 nm q2 q3) _ _ rfl rfl hb_r infoRow rfl (rowC_one _ _ _ _) ?_; intro w5 hs5 ks5; have HI : Aside0 (St RT w5 g s) := ⟨hI3.kp ks5 hgr⟩; have K5 : KpN w w5 := ((hk_g.trans k2).trans hk_r).then ks5 (fun i hi (e : i = r) => by omega); have c0 := HI.out.c0)
    | ((with_reducible refine gate_dst (N := 40) rfl ?_); refine wpList_in (by rfl) (wp_load_row RT _ rfl g rfl _ s.cells (0, 0) _ HI.out.blk Try.underlying38 rfl infoR ?_))
    | ((with_reducible refine gate_dst (N := 54) rfl ?_); refine wpList_in (by rfl) (wp_load_row RT _ rfl g rfl _ s.cells (0, 0) _ HI.out.blk Try.underlying38 rfl infoR ?_))
    | ((with_reducible refine gate_dst (N := 64) rfl ?_); refine wpList_in (by rfl) (wp_load_row RT _ rfl g rfl _ s.cells (0, 0) _ HI.out.blk Try.underlying38 rfl infoR ?_))
    | (go_at_call_of 42 (Value.int IntKind.i64 0); refine (B20.out _).mono ?_; rintro e w6 ⟨rfl, k6⟩; have HI2 : Aside0 (St RT w6 g s) := ⟨HI.out.kp k6 (fun h => h)⟩; clear HI; have HI := HI2; clear HI2; have K5b := K5.trans k6; clear K5; have K5 := K5b; clear K5b; have c0b := HI.out.c0)
    | (go_at_call_of 42 (Value.int IntKind.i64 7); refine (B8.out _).mono ?_; rintro e w7 ⟨rfl, k7⟩; have HI2 : Aside0 (St RT w7 g s) := ⟨HI.out.kp k7 (fun h => h)⟩; clear HI; have HI := HI2; clear HI2; have K5b := K5.trans k7; clear K5; have K5 := K5b; clear K5b; have c0c := HI.out.c0)
    | (go_at_call_of 42 (Value.int IntKind.i64 13); refine (B14.out _).mono ?_; rintro e w8 ⟨rfl, k8⟩; have K5b := K5.trans k8; clear K5; have K5 := K5b; clear K5b))
  go_ret
  exact ⟨rfl, K5⟩
set_option maxHeartbeats 8000000 in
set_option maxRecDepth 100000 in
theorem rmay_I1 (s : VS) (n : Int) (w : World) (hs : s.ok) (q0 : Int) (nm : ByteArray) (q2 q3 : Int) (hof : ofR n = (q0, nm, q2, q3, true)) (n0 : 0 ≤ n) (e4 : n / 1024 % 4 = n / 1024) (h10 : (n / 1024 == 3) = false) (hq : decide (s.m < n / 256 % 4) = false) (hs4 : (n == 384) = false) (hlo : decide (n < 3072) = false) (hhi : decide (3074 < n) = false) (h3 : decide (s.m < 3) = true) (h8 : bitW (s.r 8) (n % 4) = true) (hz : (s.m != 0) = true) :
    Calls Try.prog 24 #[.agg s.cells, .int .i64 n, .bool true] w fun e w' => e = .returned (.bool true) ∧ KpN w w' := by
  have ofc : Aside0 (∀ w, Calls Try.prog 25 #[.int .i64 n] w fun e w' => e = .returned (.tuple #[.agg (rowC q0 nm q2 q3), .bool true]) ∧ KpN w w') := ⟨fun w => by
    have := of_c n w; rw [hof] at this; exact this⟩
  clear hof
  have B8 : Aside0 (∀ w, Calls Try.prog 42 #[.agg s.cells, .int .i64 7, .int .i64 (n % 4)] w fun e w' => e = .returned (.bool true) ∧ KpN w w') := ⟨fun w => by have := rbit_l s 7 (n % 4) w hs (by decide); rw [h8] at this; exact this⟩
  clear h8
  go_enter Try.func24, Try.ntmps24
  go_wp2_with (first
    | ((with_reducible refine gate_dst (N := 3) rfl ?_); refine bx_ev rfl rfl (N := 3) rfl (s.cells) rfl ?_; intro g hg_g w1 hb_g hk_g; have Hg_g := Aside0.mk hg_g; clear hg_g)
    | (go_at_call 25; refine (ofc.out _).mono ?_; rintro e w2 ⟨rfl, k2⟩)
    | (((with_reducible refine gate_dst (N := 7) rfl ?_); refine al_ev rfl rfl (N := 7) rfl _ (zeroRow _) ?_; intro r hg_r w3 hb_r hk_r; have Hg_r := Aside0.mk hg_r; clear hg_r); have hI3 : St RT w3 g s := ((St.mk hb_g).kp k2 (fun h => h)).kp hk_r (fun h => h); have hgr : g ≠ r := (by have := Hg_r.out; have := ((St.mk (T := RT) hb_g).kp k2 (fun h => h)).lt; omega); have hwr : w.heap.size ≤ r := (by have := Hg_r.out; have := (hk_g.trans k2).size; omega))
    | ((with_reducible refine gate_store (t := 28) (p := 7) rfl ?_); refine st_ev rfl rfl rfl r (rowC q0 nm q2 q3) _ _ rfl rfl hb_r infoRow rfl (rowC_one _ _ _ _) ?_; intro w5 hs5 ks5; have HI : Aside0 (St RT w5 g s) := ⟨hI3.kp ks5 hgr⟩; have K5 : KpN w w5 := ((hk_g.trans k2).trans hk_r).then ks5 (fun i hi (e : i = r) => by omega); have c0 := HI.out.c0)
    | ((with_reducible refine gate_dst (N := 40) rfl ?_); refine wpList_in (by rfl) (wp_load_row RT _ rfl g rfl _ s.cells (0, 0) _ HI.out.blk Try.underlying38 rfl infoR ?_))
    | ((with_reducible refine gate_dst (N := 54) rfl ?_); refine wpList_in (by rfl) (wp_load_row RT _ rfl g rfl _ s.cells (0, 0) _ HI.out.blk Try.underlying38 rfl infoR ?_))
    | ((with_reducible refine gate_dst (N := 64) rfl ?_); refine wpList_in (by rfl) (wp_load_row RT _ rfl g rfl _ s.cells (0, 0) _ HI.out.blk Try.underlying38 rfl infoR ?_))
    | (go_at_call_of 42 (Value.int IntKind.i64 0); refine (B20.out _).mono ?_; rintro e w6 ⟨rfl, k6⟩; have HI2 : Aside0 (St RT w6 g s) := ⟨HI.out.kp k6 (fun h => h)⟩; clear HI; have HI := HI2; clear HI2; have K5b := K5.trans k6; clear K5; have K5 := K5b; clear K5b; have c0b := HI.out.c0)
    | (go_at_call_of 42 (Value.int IntKind.i64 7); refine (B8.out _).mono ?_; rintro e w7 ⟨rfl, k7⟩; have HI2 : Aside0 (St RT w7 g s) := ⟨HI.out.kp k7 (fun h => h)⟩; clear HI; have HI := HI2; clear HI2; have K5b := K5.trans k7; clear K5; have K5 := K5b; clear K5b; have c0c := HI.out.c0)
    | (go_at_call_of 42 (Value.int IntKind.i64 13); refine (B14.out _).mono ?_; rintro e w8 ⟨rfl, k8⟩; have K5b := K5.trans k8; clear K5; have K5 := K5b; clear K5b))
  go_ret
  exact ⟨rfl, K5⟩
set_option maxHeartbeats 8000000 in
set_option maxRecDepth 100000 in
theorem rmay_J0 (s : VS) (n : Int) (w : World) (hs : s.ok) (q0 : Int) (nm : ByteArray) (q2 q3 : Int) (hof : ofR n = (q0, nm, q2, q3, true)) (n0 : 0 ≤ n) (e4 : n / 1024 % 4 = n / 1024) (hq : decide (s.m < n / 256 % 4) = false) (hs4 : (n == 384) = false) (hlo : decide (n < 3072) = false) (hhi : decide (3074 < n) = false) (h3 : decide (s.m < 3) = true) (h8 : bitW (s.r 8) (n % 4) = true) (hz : (s.m != 0) = false) :
    Calls Try.prog 24 #[.agg s.cells, .int .i64 n, .bool false] w fun e w' => e = .returned (.bool (bitW (s.r 14) (n % 4))) ∧ KpN w w' := by
  have ofc : Aside0 (∀ w, Calls Try.prog 25 #[.int .i64 n] w fun e w' => e = .returned (.tuple #[.agg (rowC q0 nm q2 q3), .bool true]) ∧ KpN w w') := ⟨fun w => by
    have := of_c n w; rw [hof] at this; exact this⟩
  clear hof
  have B8 : Aside0 (∀ w, Calls Try.prog 42 #[.agg s.cells, .int .i64 7, .int .i64 (n % 4)] w fun e w' => e = .returned (.bool true) ∧ KpN w w') := ⟨fun w => by have := rbit_l s 7 (n % 4) w hs (by decide); rw [h8] at this; exact this⟩
  clear h8
  have B14 : Aside0 (∀ w, Calls Try.prog 42 #[.agg s.cells, .int .i64 13, .int .i64 (n % 4)] w fun e w' => e = .returned (.bool (bitW (s.r 14) (n % 4))) ∧ KpN w w') := ⟨fun w => rbit_l s 13 (n % 4) w hs (by decide)⟩
  go_enter Try.func24, Try.ntmps24
  go_wp2_with (first
    | ((with_reducible refine gate_dst (N := 3) rfl ?_); refine bx_ev rfl rfl (N := 3) rfl (s.cells) rfl ?_; intro g hg_g w1 hb_g hk_g; have Hg_g := Aside0.mk hg_g; clear hg_g)
    | (go_at_call 25; refine (ofc.out _).mono ?_; rintro e w2 ⟨rfl, k2⟩)
    | (((with_reducible refine gate_dst (N := 7) rfl ?_); refine al_ev rfl rfl (N := 7) rfl _ (zeroRow _) ?_; intro r hg_r w3 hb_r hk_r; have Hg_r := Aside0.mk hg_r; clear hg_r); have hI3 : St RT w3 g s := ((St.mk hb_g).kp k2 (fun h => h)).kp hk_r (fun h => h); have hgr : g ≠ r := (by have := Hg_r.out; have := ((St.mk (T := RT) hb_g).kp k2 (fun h => h)).lt; omega); have hwr : w.heap.size ≤ r := (by have := Hg_r.out; have := (hk_g.trans k2).size; omega))
    | ((with_reducible refine gate_store (t := 28) (p := 7) rfl ?_); refine st_ev rfl rfl rfl r (rowC q0 nm q2 q3) _ _ rfl rfl hb_r infoRow rfl (rowC_one _ _ _ _) ?_; intro w5 hs5 ks5; have HI : Aside0 (St RT w5 g s) := ⟨hI3.kp ks5 hgr⟩; have K5 : KpN w w5 := ((hk_g.trans k2).trans hk_r).then ks5 (fun i hi (e : i = r) => by omega); have c0 := HI.out.c0)
    | ((with_reducible refine gate_dst (N := 40) rfl ?_); refine wpList_in (by rfl) (wp_load_row RT _ rfl g rfl _ s.cells (0, 0) _ HI.out.blk Try.underlying38 rfl infoR ?_))
    | ((with_reducible refine gate_dst (N := 54) rfl ?_); refine wpList_in (by rfl) (wp_load_row RT _ rfl g rfl _ s.cells (0, 0) _ HI.out.blk Try.underlying38 rfl infoR ?_))
    | ((with_reducible refine gate_dst (N := 64) rfl ?_); refine wpList_in (by rfl) (wp_load_row RT _ rfl g rfl _ s.cells (0, 0) _ HI.out.blk Try.underlying38 rfl infoR ?_))
    | (go_at_call_of 42 (Value.int IntKind.i64 0); refine (B20.out _).mono ?_; rintro e w6 ⟨rfl, k6⟩; have HI2 : Aside0 (St RT w6 g s) := ⟨HI.out.kp k6 (fun h => h)⟩; clear HI; have HI := HI2; clear HI2; have K5b := K5.trans k6; clear K5; have K5 := K5b; clear K5b; have c0b := HI.out.c0)
    | (go_at_call_of 42 (Value.int IntKind.i64 7); refine (B8.out _).mono ?_; rintro e w7 ⟨rfl, k7⟩; have HI2 : Aside0 (St RT w7 g s) := ⟨HI.out.kp k7 (fun h => h)⟩; clear HI; have HI := HI2; clear HI2; have K5b := K5.trans k7; clear K5; have K5 := K5b; clear K5b; have c0c := HI.out.c0)
    | (go_at_call_of 42 (Value.int IntKind.i64 13); refine (B14.out _).mono ?_; rintro e w8 ⟨rfl, k8⟩; have K5b := K5.trans k8; clear K5; have K5 := K5b; clear K5b))
  go_ret
  exact ⟨rfl, K5⟩
set_option maxHeartbeats 8000000 in
set_option maxRecDepth 100000 in
theorem rmay_J1 (s : VS) (n : Int) (w : World) (hs : s.ok) (q0 : Int) (nm : ByteArray) (q2 q3 : Int) (hof : ofR n = (q0, nm, q2, q3, true)) (n0 : 0 ≤ n) (e4 : n / 1024 % 4 = n / 1024) (h10 : (n / 1024 == 3) = false) (hq : decide (s.m < n / 256 % 4) = false) (hs4 : (n == 384) = false) (hlo : decide (n < 3072) = false) (hhi : decide (3074 < n) = false) (h3 : decide (s.m < 3) = true) (h8 : bitW (s.r 8) (n % 4) = true) (hz : (s.m != 0) = false) :
    Calls Try.prog 24 #[.agg s.cells, .int .i64 n, .bool true] w fun e w' => e = .returned (.bool (bitW (s.r 14) (n % 4))) ∧ KpN w w' := by
  have ofc : Aside0 (∀ w, Calls Try.prog 25 #[.int .i64 n] w fun e w' => e = .returned (.tuple #[.agg (rowC q0 nm q2 q3), .bool true]) ∧ KpN w w') := ⟨fun w => by
    have := of_c n w; rw [hof] at this; exact this⟩
  clear hof
  have B8 : Aside0 (∀ w, Calls Try.prog 42 #[.agg s.cells, .int .i64 7, .int .i64 (n % 4)] w fun e w' => e = .returned (.bool true) ∧ KpN w w') := ⟨fun w => by have := rbit_l s 7 (n % 4) w hs (by decide); rw [h8] at this; exact this⟩
  clear h8
  have B14 : Aside0 (∀ w, Calls Try.prog 42 #[.agg s.cells, .int .i64 13, .int .i64 (n % 4)] w fun e w' => e = .returned (.bool (bitW (s.r 14) (n % 4))) ∧ KpN w w') := ⟨fun w => rbit_l s 13 (n % 4) w hs (by decide)⟩
  go_enter Try.func24, Try.ntmps24
  go_wp2_with (first
    | ((with_reducible refine gate_dst (N := 3) rfl ?_); refine bx_ev rfl rfl (N := 3) rfl (s.cells) rfl ?_; intro g hg_g w1 hb_g hk_g; have Hg_g := Aside0.mk hg_g; clear hg_g)
    | (go_at_call 25; refine (ofc.out _).mono ?_; rintro e w2 ⟨rfl, k2⟩)
    | (((with_reducible refine gate_dst (N := 7) rfl ?_); refine al_ev rfl rfl (N := 7) rfl _ (zeroRow _) ?_; intro r hg_r w3 hb_r hk_r; have Hg_r := Aside0.mk hg_r; clear hg_r); have hI3 : St RT w3 g s := ((St.mk hb_g).kp k2 (fun h => h)).kp hk_r (fun h => h); have hgr : g ≠ r := (by have := Hg_r.out; have := ((St.mk (T := RT) hb_g).kp k2 (fun h => h)).lt; omega); have hwr : w.heap.size ≤ r := (by have := Hg_r.out; have := (hk_g.trans k2).size; omega))
    | ((with_reducible refine gate_store (t := 28) (p := 7) rfl ?_); refine st_ev rfl rfl rfl r (rowC q0 nm q2 q3) _ _ rfl rfl hb_r infoRow rfl (rowC_one _ _ _ _) ?_; intro w5 hs5 ks5; have HI : Aside0 (St RT w5 g s) := ⟨hI3.kp ks5 hgr⟩; have K5 : KpN w w5 := ((hk_g.trans k2).trans hk_r).then ks5 (fun i hi (e : i = r) => by omega); have c0 := HI.out.c0)
    | ((with_reducible refine gate_dst (N := 40) rfl ?_); refine wpList_in (by rfl) (wp_load_row RT _ rfl g rfl _ s.cells (0, 0) _ HI.out.blk Try.underlying38 rfl infoR ?_))
    | ((with_reducible refine gate_dst (N := 54) rfl ?_); refine wpList_in (by rfl) (wp_load_row RT _ rfl g rfl _ s.cells (0, 0) _ HI.out.blk Try.underlying38 rfl infoR ?_))
    | ((with_reducible refine gate_dst (N := 64) rfl ?_); refine wpList_in (by rfl) (wp_load_row RT _ rfl g rfl _ s.cells (0, 0) _ HI.out.blk Try.underlying38 rfl infoR ?_))
    | (go_at_call_of 42 (Value.int IntKind.i64 0); refine (B20.out _).mono ?_; rintro e w6 ⟨rfl, k6⟩; have HI2 : Aside0 (St RT w6 g s) := ⟨HI.out.kp k6 (fun h => h)⟩; clear HI; have HI := HI2; clear HI2; have K5b := K5.trans k6; clear K5; have K5 := K5b; clear K5b; have c0b := HI.out.c0)
    | (go_at_call_of 42 (Value.int IntKind.i64 7); refine (B8.out _).mono ?_; rintro e w7 ⟨rfl, k7⟩; have HI2 : Aside0 (St RT w7 g s) := ⟨HI.out.kp k7 (fun h => h)⟩; clear HI; have HI := HI2; clear HI2; have K5b := K5.trans k7; clear K5; have K5 := K5b; clear K5b; have c0c := HI.out.c0)
    | (go_at_call_of 42 (Value.int IntKind.i64 13); refine (B14.out _).mono ?_; rintro e w8 ⟨rfl, k8⟩; have K5b := K5.trans k8; clear K5; have K5 := K5b; clear K5b))
  go_ret
  exact ⟨rfl, K5⟩
set_option maxHeartbeats 8000000 in
set_option maxRecDepth 100000 in
theorem rmay_K0 (s : VS) (n : Int) (w : World) (hs : s.ok) (q0 : Int) (nm : ByteArray) (q2 q3 : Int) (hof : ofR n = (q0, nm, q2, q3, true)) (n0 : 0 ≤ n) (e4 : n / 1024 % 4 = n / 1024) (hq : decide (s.m < n / 256 % 4) = false) (hs4 : (n == 384) = false) (hlo : decide (n < 3072) = false) (hhi : decide (3074 < n) = false) (h3 : decide (s.m < 3) = false) (hz : (s.m != 0) = true) :
    Calls Try.prog 24 #[.agg s.cells, .int .i64 n, .bool false] w fun e w' => e = .returned (.bool true) ∧ KpN w w' := by
  have ofc : Aside0 (∀ w, Calls Try.prog 25 #[.int .i64 n] w fun e w' => e = .returned (.tuple #[.agg (rowC q0 nm q2 q3), .bool true]) ∧ KpN w w') := ⟨fun w => by
    have := of_c n w; rw [hof] at this; exact this⟩
  clear hof
  go_enter Try.func24, Try.ntmps24
  go_wp2_with (first
    | ((with_reducible refine gate_dst (N := 3) rfl ?_); refine bx_ev rfl rfl (N := 3) rfl (s.cells) rfl ?_; intro g hg_g w1 hb_g hk_g; have Hg_g := Aside0.mk hg_g; clear hg_g)
    | (go_at_call 25; refine (ofc.out _).mono ?_; rintro e w2 ⟨rfl, k2⟩)
    | (((with_reducible refine gate_dst (N := 7) rfl ?_); refine al_ev rfl rfl (N := 7) rfl _ (zeroRow _) ?_; intro r hg_r w3 hb_r hk_r; have Hg_r := Aside0.mk hg_r; clear hg_r); have hI3 : St RT w3 g s := ((St.mk hb_g).kp k2 (fun h => h)).kp hk_r (fun h => h); have hgr : g ≠ r := (by have := Hg_r.out; have := ((St.mk (T := RT) hb_g).kp k2 (fun h => h)).lt; omega); have hwr : w.heap.size ≤ r := (by have := Hg_r.out; have := (hk_g.trans k2).size; omega))
    | ((with_reducible refine gate_store (t := 28) (p := 7) rfl ?_); refine st_ev rfl rfl rfl r (rowC q0 nm q2 q3) _ _ rfl rfl hb_r infoRow rfl (rowC_one _ _ _ _) ?_; intro w5 hs5 ks5; have HI : Aside0 (St RT w5 g s) := ⟨hI3.kp ks5 hgr⟩; have K5 : KpN w w5 := ((hk_g.trans k2).trans hk_r).then ks5 (fun i hi (e : i = r) => by omega); have c0 := HI.out.c0)
    | ((with_reducible refine gate_dst (N := 40) rfl ?_); refine wpList_in (by rfl) (wp_load_row RT _ rfl g rfl _ s.cells (0, 0) _ HI.out.blk Try.underlying38 rfl infoR ?_))
    | ((with_reducible refine gate_dst (N := 54) rfl ?_); refine wpList_in (by rfl) (wp_load_row RT _ rfl g rfl _ s.cells (0, 0) _ HI.out.blk Try.underlying38 rfl infoR ?_))
    | ((with_reducible refine gate_dst (N := 64) rfl ?_); refine wpList_in (by rfl) (wp_load_row RT _ rfl g rfl _ s.cells (0, 0) _ HI.out.blk Try.underlying38 rfl infoR ?_))
    | (go_at_call_of 42 (Value.int IntKind.i64 0); refine (B20.out _).mono ?_; rintro e w6 ⟨rfl, k6⟩; have HI2 : Aside0 (St RT w6 g s) := ⟨HI.out.kp k6 (fun h => h)⟩; clear HI; have HI := HI2; clear HI2; have K5b := K5.trans k6; clear K5; have K5 := K5b; clear K5b; have c0b := HI.out.c0)
    | (go_at_call_of 42 (Value.int IntKind.i64 7); refine (B8.out _).mono ?_; rintro e w7 ⟨rfl, k7⟩; have HI2 : Aside0 (St RT w7 g s) := ⟨HI.out.kp k7 (fun h => h)⟩; clear HI; have HI := HI2; clear HI2; have K5b := K5.trans k7; clear K5; have K5 := K5b; clear K5b; have c0c := HI.out.c0)
    | (go_at_call_of 42 (Value.int IntKind.i64 13); refine (B14.out _).mono ?_; rintro e w8 ⟨rfl, k8⟩; have K5b := K5.trans k8; clear K5; have K5 := K5b; clear K5b))
  go_ret
  exact ⟨rfl, K5⟩
set_option maxHeartbeats 8000000 in
set_option maxRecDepth 100000 in
theorem rmay_K1 (s : VS) (n : Int) (w : World) (hs : s.ok) (q0 : Int) (nm : ByteArray) (q2 q3 : Int) (hof : ofR n = (q0, nm, q2, q3, true)) (n0 : 0 ≤ n) (e4 : n / 1024 % 4 = n / 1024) (h10 : (n / 1024 == 3) = false) (hq : decide (s.m < n / 256 % 4) = false) (hs4 : (n == 384) = false) (hlo : decide (n < 3072) = false) (hhi : decide (3074 < n) = false) (h3 : decide (s.m < 3) = false) (hz : (s.m != 0) = true) :
    Calls Try.prog 24 #[.agg s.cells, .int .i64 n, .bool true] w fun e w' => e = .returned (.bool true) ∧ KpN w w' := by
  have ofc : Aside0 (∀ w, Calls Try.prog 25 #[.int .i64 n] w fun e w' => e = .returned (.tuple #[.agg (rowC q0 nm q2 q3), .bool true]) ∧ KpN w w') := ⟨fun w => by
    have := of_c n w; rw [hof] at this; exact this⟩
  clear hof
  go_enter Try.func24, Try.ntmps24
  go_wp2_with (first
    | ((with_reducible refine gate_dst (N := 3) rfl ?_); refine bx_ev rfl rfl (N := 3) rfl (s.cells) rfl ?_; intro g hg_g w1 hb_g hk_g; have Hg_g := Aside0.mk hg_g; clear hg_g)
    | (go_at_call 25; refine (ofc.out _).mono ?_; rintro e w2 ⟨rfl, k2⟩)
    | (((with_reducible refine gate_dst (N := 7) rfl ?_); refine al_ev rfl rfl (N := 7) rfl _ (zeroRow _) ?_; intro r hg_r w3 hb_r hk_r; have Hg_r := Aside0.mk hg_r; clear hg_r); have hI3 : St RT w3 g s := ((St.mk hb_g).kp k2 (fun h => h)).kp hk_r (fun h => h); have hgr : g ≠ r := (by have := Hg_r.out; have := ((St.mk (T := RT) hb_g).kp k2 (fun h => h)).lt; omega); have hwr : w.heap.size ≤ r := (by have := Hg_r.out; have := (hk_g.trans k2).size; omega))
    | ((with_reducible refine gate_store (t := 28) (p := 7) rfl ?_); refine st_ev rfl rfl rfl r (rowC q0 nm q2 q3) _ _ rfl rfl hb_r infoRow rfl (rowC_one _ _ _ _) ?_; intro w5 hs5 ks5; have HI : Aside0 (St RT w5 g s) := ⟨hI3.kp ks5 hgr⟩; have K5 : KpN w w5 := ((hk_g.trans k2).trans hk_r).then ks5 (fun i hi (e : i = r) => by omega); have c0 := HI.out.c0)
    | ((with_reducible refine gate_dst (N := 40) rfl ?_); refine wpList_in (by rfl) (wp_load_row RT _ rfl g rfl _ s.cells (0, 0) _ HI.out.blk Try.underlying38 rfl infoR ?_))
    | ((with_reducible refine gate_dst (N := 54) rfl ?_); refine wpList_in (by rfl) (wp_load_row RT _ rfl g rfl _ s.cells (0, 0) _ HI.out.blk Try.underlying38 rfl infoR ?_))
    | ((with_reducible refine gate_dst (N := 64) rfl ?_); refine wpList_in (by rfl) (wp_load_row RT _ rfl g rfl _ s.cells (0, 0) _ HI.out.blk Try.underlying38 rfl infoR ?_))
    | (go_at_call_of 42 (Value.int IntKind.i64 0); refine (B20.out _).mono ?_; rintro e w6 ⟨rfl, k6⟩; have HI2 : Aside0 (St RT w6 g s) := ⟨HI.out.kp k6 (fun h => h)⟩; clear HI; have HI := HI2; clear HI2; have K5b := K5.trans k6; clear K5; have K5 := K5b; clear K5b; have c0b := HI.out.c0)
    | (go_at_call_of 42 (Value.int IntKind.i64 7); refine (B8.out _).mono ?_; rintro e w7 ⟨rfl, k7⟩; have HI2 : Aside0 (St RT w7 g s) := ⟨HI.out.kp k7 (fun h => h)⟩; clear HI; have HI := HI2; clear HI2; have K5b := K5.trans k7; clear K5; have K5 := K5b; clear K5b; have c0c := HI.out.c0)
    | (go_at_call_of 42 (Value.int IntKind.i64 13); refine (B14.out _).mono ?_; rintro e w8 ⟨rfl, k8⟩; have K5b := K5.trans k8; clear K5; have K5 := K5b; clear K5b))
  go_ret
  exact ⟨rfl, K5⟩
set_option maxHeartbeats 8000000 in
set_option maxRecDepth 100000 in
theorem rmay_N (s : VS) (n : Int) (wr : Bool) (w : World) (q0 : Int) (nm : ByteArray) (q2 q3 : Int) (hof : ofR n = (q0, nm, q2, q3, false)) :
    Calls Try.prog 24 #[.agg s.cells, .int .i64 n, .bool wr] w fun e w' => e = .returned (.bool false) ∧ KpN w w' := by
  have ofc : Aside0 (∀ w, Calls Try.prog 25 #[.int .i64 n] w fun e w' => e = .returned (.tuple #[.agg (rowC q0 nm q2 q3), .bool false]) ∧ KpN w w') := ⟨fun w => by
    have := of_c n w; rw [hof] at this; exact this⟩
  clear hof
  go_enter Try.func24, Try.ntmps24
  go_wp2_with (first
    | ((with_reducible refine gate_dst (N := 3) rfl ?_); refine bx_ev rfl rfl (N := 3) rfl (s.cells) rfl ?_; intro g hg_g w1 hb_g hk_g; have Hg_g := Aside0.mk hg_g; clear hg_g)
    | (go_at_call 25; refine (ofc.out _).mono ?_; rintro e w2 ⟨rfl, k2⟩)
    | (((with_reducible refine gate_dst (N := 7) rfl ?_); refine al_ev rfl rfl (N := 7) rfl _ (zeroRow _) ?_; intro r hg_r w3 hb_r hk_r; have Hg_r := Aside0.mk hg_r; clear hg_r); have hI3 : St RT w3 g s := ((St.mk hb_g).kp k2 (fun h => h)).kp hk_r (fun h => h); have hgr : g ≠ r := (by have := Hg_r.out; have := ((St.mk (T := RT) hb_g).kp k2 (fun h => h)).lt; omega); have hwr : w.heap.size ≤ r := (by have := Hg_r.out; have := (hk_g.trans k2).size; omega))
    | ((with_reducible refine gate_store (t := 28) (p := 7) rfl ?_); refine st_ev rfl rfl rfl r (rowC q0 nm q2 q3) _ _ rfl rfl hb_r infoRow rfl (rowC_one _ _ _ _) ?_; intro w5 hs5 ks5; have HI : Aside0 (St RT w5 g s) := ⟨hI3.kp ks5 hgr⟩; have K5 : KpN w w5 := ((hk_g.trans k2).trans hk_r).then ks5 (fun i hi (e : i = r) => by omega); have c0 := HI.out.c0))
  go_ret
  exact ⟨rfl, K5⟩
end Go.Proofs.Ytkbnoeebnmphbaa.H
