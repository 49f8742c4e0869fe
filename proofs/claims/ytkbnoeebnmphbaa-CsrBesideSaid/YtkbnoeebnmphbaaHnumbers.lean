/- CsrNumbers, walked by hand. -/
import Derived.Test.YtkbnoeebnmphbaaHname
namespace Go.Proofs.Ytkbnoeebnmphbaa.H
open Go.RowKit Go.Proofs.YtkbnoeebnmphbaaW.PrintWords Go.Proofs.YtkbnoeebnmphbaaW.PrintLast Go.Proofs.Ytkbnoeebnmphbaa.PAl Go.Proofs.Ytkbnoeebnmphbaa.Pure Go.Proofs.Ytkbnoeebnmphbaa.Vw
set_option linter.unusedVariables false
set_option linter.unusedSimpArgs false
open Go.Sort
theorem addr_at (b n : Nat) : (⟨b, 0, none⟩ : Addr).add n = ⟨b, n, none⟩ := by rcases n with _ | n <;> simp [Addr.add]
def numsC : Array Value := #[.int .i64 768, .int .i64 256, .int .i64 769, .int .i64 770, .int .i64 771, .int .i64 772, .int .i64 260, .int .i64 836, .int .i64 324, .int .i64 773, .int .i64 261, .int .i64 774, .int .i64 262, .int .i64 832, .int .i64 320, .int .i64 834, .int .i64 322, .int .i64 835, .int .i64 323, .int .i64 2816, .int .i64 2818, .int .i64 833, .int .i64 321, .int .i64 384, .int .i64 3072, .int .i64 3073, .int .i64 3074, .int .i64 3857, .int .i64 3858, .int .i64 3859, .int .i64 3860]
theorem numsC_at (i : Int) (h0 : 0 ≤ i) (h1 : i < 31) : numsC[i.toNat]? = some (.int .i64 (nums.getD i.toNat 0)) := by
  have : ∀ k : Nat, k < 31 → numsC[k]? = some (.int .i64 (nums.getD k 0)) := by
    intro k hk
    have e : numsC = (nums.map (Value.int .i64)).toArray := rfl
    have l : nums.length = 31 := rfl
    rw [e, List.getElem?_toArray, List.getElem?_map, List.getD_eq_getElem?_getD, List.getElem?_eq_getElem (by omega)]; rfl
  exact this _ (by omega)
def bitsC : Array Value := #[.int .i64 1, .int .i64 3, .int .i64 5, .int .i64 7, .int .i64 8, .int .i64 11, .int .i64 17, .int .i64 18, .int .i64 19, .int .i64 20, .int .i64 21, .int .i64 22]
theorem bitsC_at (i : Int) (h0 : 0 ≤ i) (h1 : i < 12) : ∃ z : Int, bitsC[i.toNat]? = some (.int .i64 z) := by
  have : ∀ k : Nat, k < 12 → ∃ z : Int, bitsC[k]? = some (.int .i64 z) := by
    intro k hk
    have e : bitsC = (([1, 3, 5, 7, 8, 11, 17, 18, 19, 20, 21, 22] : List Int).map (Value.int .i64)).toArray := rfl
    exact ⟨([1, 3, 5, 7, 8, 11, 17, 18, 19, 20, 21, 22] : List Int).getD k 0, by rw [e, List.getElem?_toArray, List.getElem?_map, List.getD_eq_getElem?_getD, List.getElem?_eq_getElem (by simpa using hk)]; rfl⟩
  exact this _ (by omega)
theorem rows_at (i : Int) (h0 : 0 ≤ i) (h1 : i < 31) : (rd_T28 rowsL i).f0 = nums.getD i.toNat 0 := by
  unfold rd_T28
  have l : rowsL.length = 31 := by have := congrArg List.length rows_nums; rw [List.length_map] at this; exact this
  rw [← rows_nums, List.getD_eq_getElem?_getD, List.getD_eq_getElem?_getD, List.getElem?_map, List.getElem?_eq_getElem (by omega)]; rfl
set_option maxHeartbeats 8000000 in
set_option maxRecDepth 100000 in
theorem rows_c (w : World) :
    Calls Try.prog 11 #[] w fun e w' => ∃ b c, e = .returned (.slice (some ⟨b, 0, none⟩) 31 c) ∧ Kd.C k28 w' (some ⟨b, 0, none⟩) 31 rowsL ∧ KpN w w' := by
  refine (vireoref08_Rows.calls rowsL w rfl).mono ?_
  rintro e w' ⟨v, rfl, hR, hb⟩
  obtain ⟨g, c, rfl, _, _, _⟩ := Kd.R_form hR (by decide)
  exact ⟨g, c, rfl, (Kd.R_reads' hR).2.2, Kp.of_below hb _⟩
set_option maxHeartbeats 8000000 in
set_option maxRecDepth 100000 in
theorem numbers_c (i : Int) (w : World) :
    Calls Try.prog 3 #[.int .i64 i] w fun e w' => e = .returned (.bool true) ∧ Below w.heap.size w w' := by
  by_cases hi : 0 ≤ i ∧ i < 31
  case neg =>
    have hcase : (decide (i < 0) = true) ∨ (decide (i < 0) = false ∧ decide (31 ≤ i) = true) := by
      by_cases h1 : i < 0
      · exact .inl (decide_eq_true h1)
      · exact .inr ⟨decide_eq_false h1, decide_eq_true (by omega)⟩
    clear hi
    rcases hcase with t1 | ⟨t1, t2⟩
    all_goals
      go_enter Try.func3, Try.ntmps3
      go_wp2_with (first
        | (go_at_call 10; refine (awake_c _).mono ?_; rintro e w1 ⟨rfl, k1⟩)
        | (go_at_call 11; refine (rows_c _).mono ?_; rintro e w3 ⟨b, c, rfl, hC, k3⟩))
      go_ret
      exact ⟨rfl, ((k1.trans ((Kp.refl _ _).alloc _)).trans k3).below (fun _ _ h => h.elim) (Nat.le_refl _)⟩
  obtain ⟨h0, h1⟩ := hi
  have t1 : decide (i < 0) = false := decide_eq_false (by omega)
  have t2 : decide (31 ≤ i) = false := decide_eq_false (by omega)
  have N1 := Aside0.mk (numsC_at i h0 h1)
  have N2 := Aside0.mk (rows_at i h0 h1)
  have HI := Aside0.mk (And.intro h0 h1)
  have p0 := eq_true h0
  have p1 := eq_true h1
  clear h0 h1
  obtain ⟨y, hy⟩ : ∃ y, nums.getD i.toNat 0 = y := ⟨_, rfl⟩
  rw [hy] at N1 N2
  clear hy
  go_enter Try.func3, Try.ntmps3
  go_wp2_with (first
    | (go_at_call 10; refine (awake_c _).mono ?_; rintro e w1 ⟨rfl, k1⟩)
    | (go_at_call 11; refine (rows_c _).mono ?_; rintro e w3 ⟨b, c, rfl, hC, k3⟩))
  obtain ⟨wz, hwz⟩ : ∃ wz, (w3.alloc (.cells bitsC 3)).alloc (.cells bitsC 3) = wz := ⟨_, rfl⟩
  have Bn : w3.heap[w1.heap.size]? = some (.cells numsC 3 (0, 0)) := (k3.block _ (blk_lt (heap_alloc_new w1 _)) (fun h => h)).trans (heap_alloc_new w1 _)
  have Bz : wz.heap[w1.heap.size]? = some (.cells numsC 3 (0, 0)) := by rw [← hwz]; exact blk_alloc (blk_alloc Bn _) _
  have B5 : wz.heap[w3.heap.size]? = some (.cells bitsC 3 (0, 0)) := by rw [← hwz]; exact blk_alloc (heap_alloc_new w3 _) _
  have B6 : wz.heap[w3.heap.size + 1]? = some (.cells bitsC 3 (0, 0)) := by
    have := heap_alloc_new (w3.alloc (.cells bitsC 3)) (.cells bitsC 3)
    rw [hwz] at this
    rwa [show (w3.alloc (.cells bitsC 3)).heap.size = w3.heap.size + 1 from by simp only [World.alloc, Array.size_push]] at this
  have hCz : Kd.C k28 wz (some ⟨b, 0, none⟩) 31 rowsL := by rw [← hwz]; exact Kd.C_alloc (Kd.C_alloc hC _) _
  have Kz : KpN w wz := by rw [← hwz]; exact (((k1.trans ((Kp.refl _ _).alloc _)).trans k3).alloc _).alloc _
  obtain ⟨ad, ea, cr, _⟩ := at_T28 hCz i HI.out.1 HI.out.2
  obtain rfl := Option.some.inj ea
  rw [N2.out, addr_at] at cr
  have cn : wz.cell? ⟨w1.heap.size, i.toNat, none⟩ = some (.int .i64 y) := (blk_cell Bz _).trans N1.out
  change Code.wp _ _ _ _ ((w3.alloc (.cells bitsC 3)).alloc (.cells bitsC 3))
  rw [hwz]
  obtain ⟨g1, hg1⟩ : ∃ g1, w1.heap.size = g1 := ⟨_, rfl⟩
  obtain ⟨g3, hg3⟩ : ∃ g3, w3.heap.size = g3 := ⟨_, rfl⟩
  obtain ⟨g4, hg4⟩ : ∃ g4, w3.heap.size + 1 = g4 := ⟨_, rfl⟩
  rw [hg4] at B6
  rw [hg3] at B5
  rw [hg1] at cn
  rw [hg4, hg3, hg1]
  clear hg4 hg3 hg1 Bn Bz hC hCz hwz ea k1 k3
  by_cases hb : i < 12
  · obtain ⟨z, hz⟩ := bitsC_at i HI.out.1 hb
    have c5 : wz.cell? ⟨g3, i.toNat, none⟩ = some (.int .i64 z) := (blk_cell B5 _).trans hz
    have c6 : wz.cell? ⟨g4, i.toNat, none⟩ = some (.int .i64 z) := (blk_cell B6 _).trans hz
    have t3 : decide (12 ≤ i) = false := decide_eq_false (by omega)
    have p2 := eq_true hb
    clear B5 B6 hz hb N1 N2
    go_quiet (fail)
    go_wp2
    go_ret
    exact ⟨rfl, (Kz.drewN _).below (fun _ _ h => h.elim) (Nat.le_refl _)⟩
  · have t3 : decide (12 ≤ i) = true := decide_eq_true (by omega)
    clear B5 B6 hb N1 N2
    go_quiet (fail)
    go_wp2
    go_ret
    exact ⟨rfl, (Kz.drewN _).below (fun _ _ h => h.elim) (Nat.le_refl _)⟩
end Go.Proofs.Ytkbnoeebnmphbaa.H
