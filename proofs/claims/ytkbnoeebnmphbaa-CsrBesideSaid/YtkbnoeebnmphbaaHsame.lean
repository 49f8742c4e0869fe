/- Is a file as the document's (vireolaw08.Same)? Walked by hand. -/
import Derived.Test.YtkbnoeebnmphbaaHbegun2
import Derived.Test.YtkbnoeebnmphbaaHeqarr
namespace Go.Proofs.Ytkbnoeebnmphbaa.H
open Go.RowKit Go.Proofs.YtkbnoeebnmphbaaW.PrintWords Go.Proofs.YtkbnoeebnmphbaaW.PrintLast Go.Proofs.Ytkbnoeebnmphbaa.PAl Go.Proofs.Ytkbnoeebnmphbaa.Pure Go.Proofs.Ytkbnoeebnmphbaa.Vw
set_option linter.unusedVariables false
set_option linter.unusedSimpArgs false
theorem wpList_in {P : Program} {ops : Array Oper} {Q : Exit → Act → World → Prop} {a : Act} {w : World} {rest : List Oper} {o : Oper} (hw : Region.wanted o (yielded ops a.tmps) = true) (h : o.wp P a w (wpList P ops Q rest) Q) : wpList P ops Q (o :: rest) a w := by
  unfold wpList; rw [if_pos hw]; exact .inl h
/-- Where the document's k-th place is in a file. -/
def perm (i : Nat) : Nat := if i = 0 then 1 else if i = 1 then 5 else if i = 2 then 6 else if i = 3 then 2 else if i = 4 then 3 else if i = 5 then 4 else i + 1
def permC (s : VS) : Array Value := #[.int .u64 (s.r 1 : Int), .int .u64 (s.r 5 : Int), .int .u64 (s.r 6 : Int), .int .u64 (s.r 2 : Int), .int .u64 (s.r 3 : Int), .int .u64 (s.r 4 : Int), .int .u64 (s.r 7 : Int), .int .u64 (s.r 8 : Int), .int .u64 (s.r 9 : Int), .int .u64 (s.r 10 : Int), .int .u64 (s.r 11 : Int), .int .u64 (s.r 12 : Int), .int .u64 (s.r 13 : Int), .int .u64 (s.r 14 : Int), .int .u64 (s.r 15 : Int), .int .u64 (s.r 16 : Int), .int .u64 (s.r 17 : Int), .int .u64 (s.r 18 : Int), .int .u64 (s.r 19 : Int), .int .u64 (s.r 20 : Int), .int .u64 (s.r 21 : Int), .int .u64 (s.r 22 : Int)]
def kC (s : VS) : Array Value := #[.int .u64 (s.r 1 : Int), .int .u64 (s.r 2 : Int), .int .u64 (s.r 3 : Int), .int .u64 (s.r 4 : Int), .int .u64 (s.r 5 : Int), .int .u64 (s.r 6 : Int), .int .u64 (s.r 7 : Int), .int .u64 (s.r 8 : Int), .int .u64 (s.r 9 : Int), .int .u64 (s.r 10 : Int), .int .u64 (s.r 11 : Int), .int .u64 (s.r 12 : Int), .int .u64 (s.r 13 : Int), .int .u64 (s.r 14 : Int), .int .u64 (s.r 15 : Int), .int .u64 (s.r 16 : Int), .int .u64 (s.r 17 : Int), .int .u64 (s.r 18 : Int), .int .u64 (s.r 19 : Int), .int .u64 (s.r 20 : Int), .int .u64 (s.r 21 : Int), .int .u64 (s.r 22 : Int)]
theorem permC_at (s : VS) (i : Nat) (h : i < 22) : (permC s)[i]? = some (.int .u64 (s.r (perm i) : Int)) := by
  rcases i with _ | _ | _ | _ | _ | _ | _ | _ | _ | _ | _ | _ | _ | _ | _ | _ | _ | _ | _ | _ | _ | _ | i
  all_goals first | rfl | omega
theorem kC_at (s : VS) (i : Nat) (h : i < 22) : (kC s)[i]? = some (.int .u64 (s.r (i + 1) : Int)) := by
  rcases i with _ | _ | _ | _ | _ | _ | _ | _ | _ | _ | _ | _ | _ | _ | _ | _ | _ | _ | _ | _ | _ | _ | i
  all_goals first | rfl | omega
theorem permC_one (s : VS) : (permC s).all (·.oneCell') = true := by unfold permC; simp [Value.oneCell']
abbrev AT : TypeId := 36
theorem zeroA (W : World) : (zeroValue AT).run Try.prog W = .ok (.agg (kC (VS.mk 0 fun _ => 0))) W := by kernel_rfl
theorem infoA : (Try.prog.info? AT).map (·.size) = some 22 := by kernel_rfl
theorem guardA : Try.prog.eqGuardType Try.prog.depth AT = false := by kernel_rfl
def sameK (f w : VS) : Bool := (List.range 22).all fun i => (f.r (perm i) : Int) == (w.r (i + 1) : Int)
def sameB (f w : VS) : Bool := (f.m == w.m) && sameK f w
theorem eqA (f w : VS) (W : World) : (Op.equalIn 10000 AT (.agg (permC f)) (.agg (kC w))).run Try.prog W = .ok (sameK f w) W :=
  eqArr W 9998 Try.underlying36 Try.underlying26 (by kernel_rfl) (permC f) (kC w) _ _ (permC_at f) (kC_at w)
theorem kC_range {W : World} {g : Nat} {s : VS} (h : St RT W g s) : W.rangeAt g 1 (kC s).toList := fun j v hv => by
  have hj : j < 22 := by
    have := (List.getElem?_eq_some_iff.1 hv).1
    simpa [kC] using this
  rw [h.c (1 + j) (by omega) (by omega)]
  rw [Array.getElem?_toList, kC_at s j hj] at hv
  rw [Nat.add_comm 1 j]; exact hv
set_option maxHeartbeats 8000000 in
set_option maxRecDepth 100000 in
theorem same_c (f w : VS) (W : World) :
    Calls Try.prog 13 #[.agg f.cells, .agg w.cells] W fun e W' => e = .returned (.bool (sameB f w)) ∧ KpN W W' := by
  have hEq := eqA f w
  have hgd := guardA
  by_cases hm : f.m = w.m
  · have hmb : (f.m == w.m) = true := beq_iff_eq.2 hm
    have hsame : sameB f w = sameK f w := by unfold sameB; rw [hmb, Bool.true_and]
    have Hs := Aside0.mk hsame
    clear hsame hm
    go_enter Try.func13, Try.ntmps13
    go_wp2_with (first
      | ((with_reducible refine gate_dst (N := 2) rfl ?_); refine bx_ev rfl rfl (N := 2) rfl (f.cells) rfl ?_; intro g hg_g w1 hb_g hk_g; have Hg_g := Aside0.mk hg_g; clear hg_g)
      | (((with_reducible refine gate_dst (N := 3) rfl ?_); refine bx_ev rfl rfl (N := 3) rfl (w.cells) rfl ?_; intro p hg_p w2 hb_p hk_p; have Hg_p := Aside0.mk hg_p; clear hg_p); have hI := (St.mk (T := FT) hb_g).kp hk_p (fun h => h); have c1 := hI.c 1; have c2 := hI.c 2; have c3 := hI.c 3; have c4 := hI.c 4; have c5 := hI.c 5; have c6 := hI.c 6; have c7 := hI.c 7; have c8 := hI.c 8; have c9 := hI.c 9; have c10 := hI.c 10; have c11 := hI.c 11; have c12 := hI.c 12; have c13 := hI.c 13; have c14 := hI.c 14; have c15 := hI.c 15; have c16 := hI.c 16; have c17 := hI.c 17; have c18 := hI.c 18; have c19 := hI.c 19; have c20 := hI.c 20; have c21 := hI.c 21; have c22 := hI.c 22)
      | ((with_reducible refine gate_dst (N := 5) rfl ?_); refine al_ev rfl rfl (N := 5) rfl _ (zeroA _) ?_; intro k hg_k w3 hb_k hk_k; have Hg_k := Aside0.mk hg_k; clear hg_k)
      | ((with_reducible refine gate_store (t := AT) (p := 5) rfl ?_); refine st_ev rfl rfl rfl k (permC f) _ _ rfl rfl hb_k infoA rfl (permC_one _) ?_; intro w4 hs4 ks4; have hgk : g ≠ k := (by have := Hg_k.out; have := hI.lt; omega); have hpk : p ≠ k := (by have := Hg_k.out; have := blk_lt hb_p; omega); have hI4 := (hI.kp hk_k (fun h => h)).kp ks4 hgk; have hP4 : St RT w4 p w := ((St.mk (T := RT) hb_p).kp hk_k (fun h => h)).kp ks4 hpk; have d0 := hI4.c0; have d1 := hP4.c0)
      | ((with_reducible refine gate_dst (N := 57) rfl ?_); refine wpList_in (by rfl) (wp_load_row AT _ rfl k rfl _ (permC f) (0, 0) _ hs4 Try.underlying36 rfl infoA ?_))
      | ((with_reducible refine gate_dst (N := 59) rfl ?_); refine wpList_in (by rfl) (wp_load_mid AT _ rfl p 1 rfl (kC w).toList _ (kC_range hP4) Try.underlying36 rfl infoA ?_)))
    go_ret
    rw [Hs.out]
    exact ⟨rfl, ((hk_g.trans hk_p).trans hk_k).then ks4 fun i hi (e : i = k) => by have := Hg_k.out; have := (hk_g.trans hk_p).size; omega⟩
  · have hmb : (f.m == w.m) = false := beq_eq_false_iff_ne.2 hm
    have hsame : sameB f w = false := by unfold sameB; rw [hmb, Bool.false_and]
    have Hs := Aside0.mk hsame
    clear hsame hm
    go_enter Try.func13, Try.ntmps13
    go_wp2_with (first
      | ((with_reducible refine gate_dst (N := 2) rfl ?_); refine bx_ev rfl rfl (N := 2) rfl (f.cells) rfl ?_; intro g hg_g w1 hb_g hk_g; have Hg_g := Aside0.mk hg_g; clear hg_g)
      | (((with_reducible refine gate_dst (N := 3) rfl ?_); refine bx_ev rfl rfl (N := 3) rfl (w.cells) rfl ?_; intro p hg_p w2 hb_p hk_p; have Hg_p := Aside0.mk hg_p; clear hg_p); have hI := (St.mk (T := FT) hb_g).kp hk_p (fun h => h); have c1 := hI.c 1; have c2 := hI.c 2; have c3 := hI.c 3; have c4 := hI.c 4; have c5 := hI.c 5; have c6 := hI.c 6; have c7 := hI.c 7; have c8 := hI.c 8; have c9 := hI.c 9; have c10 := hI.c 10; have c11 := hI.c 11; have c12 := hI.c 12; have c13 := hI.c 13; have c14 := hI.c 14; have c15 := hI.c 15; have c16 := hI.c 16; have c17 := hI.c 17; have c18 := hI.c 18; have c19 := hI.c 19; have c20 := hI.c 20; have c21 := hI.c 21; have c22 := hI.c 22)
      | ((with_reducible refine gate_dst (N := 5) rfl ?_); refine al_ev rfl rfl (N := 5) rfl _ (zeroA _) ?_; intro k hg_k w3 hb_k hk_k; have Hg_k := Aside0.mk hg_k; clear hg_k)
      | ((with_reducible refine gate_store (t := AT) (p := 5) rfl ?_); refine st_ev rfl rfl rfl k (permC f) _ _ rfl rfl hb_k infoA rfl (permC_one _) ?_; intro w4 hs4 ks4; have hgk : g ≠ k := (by have := Hg_k.out; have := hI.lt; omega); have hpk : p ≠ k := (by have := Hg_k.out; have := blk_lt hb_p; omega); have hI4 := (hI.kp hk_k (fun h => h)).kp ks4 hgk; have hP4 : St RT w4 p w := ((St.mk (T := RT) hb_p).kp hk_k (fun h => h)).kp ks4 hpk; have d0 := hI4.c0; have d1 := hP4.c0))
    go_ret
    rw [Hs.out]
    exact ⟨rfl, ((hk_g.trans hk_p).trans hk_k).then ks4 fun i hi (e : i = k) => by have := Hg_k.out; have := (hk_g.trans hk_p).size; omega⟩
end Go.Proofs.Ytkbnoeebnmphbaa.H
