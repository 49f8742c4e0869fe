-- Laid by this seat's own program (wip/tools/pp.sh, a turned copy of the kit's print). Lean checks it.
import Derived.Test.YtnompdckpenfgaaPAlx0
import Derived.Test.YtnompdckpenfgaaPAlx1
namespace Go.Proofs.Ytnompdckpenfgaa.PAl
open Go.RowKit Go.Proofs.YtnompdckpenfgaaW.PrintWords Go.Proofs.YtnompdckpenfgaaW.PrintLast Go.Proofs.YtnompdckpenfgaaW.PrintMore
attribute [local go_sem] max2_int min2_int max_two min_two max_three min_three max_four min_four   -- for this text's walks alone
set_option linter.unusedVariables false
set_option linter.unusedSimpArgs false

/-! ### image_Lay: function 7 -/
mutual
def image_Lay.l0 : Nat → Int → List Int → List (S29) → Int → Int → Option (List Int × Int)
  | 0, _, _, _, _, _ => none
  | k + 1, x1, x6, x14, x15, x16 => if x16 < x15 then (if 0 ≤ x16 then (if x16 < (x14.length : Int) then ((word_Within.f ((rd_T29 x14 x16).f0) ((rd_T29 x14 x16).f2) 2147483648 x1).bind fun t224 => (if t224 = true then (image_Lay.j1 k x1 x6 x14 x15 x16 (decide ((IntKind.u64.wrap ((((rd_T29 x14 x16).f1).length : Int))) > ((rd_T29 x14 x16).f2))) ((rd_T29 x14 x16).f0) ((rd_T29 x14 x16).f1) ((rd_T29 x14 x16).f2)) else (image_Lay.j1 k x1 x6 x14 x15 x16 true ((rd_T29 x14 x16).f0) ((rd_T29 x14 x16).f1) ((rd_T29 x14 x16).f2)))) else (none)) else (none)) else (some (x6, 0))
def image_Lay.j1 : Nat → Int → List Int → List (S29) → Int → Int → Bool → Int → List Int → Int → Option (List Int × Int)
  | 0, _, _, _, _, _, _, _, _, _ => none
  | k + 1, x1, x6, x14, x15, x16, x35, x224000, x224001, x224002 => if x35 = true then (some (([] : List Int), 21)) else (image_Lay.l1 k x1 x6 (IntKind.u64.wrap (x224000 - 2147483648)) x14 x15 x16 x224000 x224001 x224002)
def image_Lay.l1 : Nat → Int → List Int → Int → List (S29) → Int → Int → Int → List Int → Int → Option (List Int × Int)
  | 0, _, _, _, _, _, _, _, _, _ => none
  | k + 1, x1, x6, x9, x14, x15, x16, x224000, x224001, x224002 => if (IntKind.u64.wrap ((x6.length : Int))) < (IntKind.u64.wrap (x9 + x224002)) then (if x6.length < 140737488355328 then (image_Lay.l1 k x1 (x6 ++ [0]) x9 x14 x15 x16 x224000 x224001 x224002) else (none)) else (image_Lay.l2 k x1 x6 x9 0 x14 x15 x16 x224000 x224001 x224002)
def image_Lay.l2 : Nat → Int → List Int → Int → Int → List (S29) → Int → Int → Int → List Int → Int → Option (List Int × Int)
  | 0, _, _, _, _, _, _, _, _, _, _ => none
  | k + 1, x1, x6, x9, x10, x14, x15, x16, x224000, x224001, x224002 => if x10 < x224002 then (if 0 ≤ (IntKind.u64.wrap (x9 + x10)) then (if (IntKind.u64.wrap (x9 + x10)) < (x6.length : Int) then ((some (x6.set ((IntKind.u64.wrap (x9 + x10)) : Int).toNat 0 : List Int)).bind fun y228 => (if x10 < (IntKind.u64.wrap ((x224001.length : Int))) then (if 0 ≤ x10 then (if x10 < (x224001.length : Int) then (image_Lay.l2 k x1 (y228.set ((IntKind.u64.wrap (x9 + x10)) : Int).toNat (rd x224001 x10)) x9 (IntKind.u64.wrap (x10 + 1)) x14 x15 x16 x224000 x224001 x224002) else (none)) else (none)) else (image_Lay.l2 k x1 y228 x9 (IntKind.u64.wrap (x10 + 1)) x14 x15 x16 x224000 x224001 x224002))) else (none)) else (none)) else (image_Lay.l0 k x1 x6 x14 x15 (wrap64 (x16 + 1)))
end
def image_Lay.f (k : Nat) (a0_0 : Int) (l0_1 : List (S29)) (a1 : Int) : Option (List Int × Int) := if a1 > 268435456 then (some (([] : List Int), 20)) else (image_Lay.l0 k a1 ([] : List Int) l0_1 (l0_1.length : Int) 0)
theorem image_Lay.mono_l : ∀ k, (∀ y0 y1 y2 y3 y4, LeO (image_Lay.l0 k y0 y1 y2 y3 y4) (image_Lay.l0 (k + 1) y0 y1 y2 y3 y4)) ∧ (∀ y0 y1 y2 y3 y4 y5 y6 y7 y8, LeO (image_Lay.j1 k y0 y1 y2 y3 y4 y5 y6 y7 y8) (image_Lay.j1 (k + 1) y0 y1 y2 y3 y4 y5 y6 y7 y8)) ∧ (∀ y0 y1 y2 y3 y4 y5 y6 y7 y8, LeO (image_Lay.l1 k y0 y1 y2 y3 y4 y5 y6 y7 y8) (image_Lay.l1 (k + 1) y0 y1 y2 y3 y4 y5 y6 y7 y8)) ∧ (∀ y0 y1 y2 y3 y4 y5 y6 y7 y8 y9, LeO (image_Lay.l2 k y0 y1 y2 y3 y4 y5 y6 y7 y8 y9) (image_Lay.l2 (k + 1) y0 y1 y2 y3 y4 y5 y6 y7 y8 y9))
  | 0 => ⟨fun _ _ _ _ _ r h => by simp [image_Lay.l0] at h, fun _ _ _ _ _ _ _ _ _ r h => by simp [image_Lay.j1] at h, fun _ _ _ _ _ _ _ _ _ r h => by simp [image_Lay.l1] at h, fun _ _ _ _ _ _ _ _ _ _ r h => by simp [image_Lay.l2] at h⟩
  | k + 1 => by
    obtain ⟨ih0, ih1, ih2, ih3⟩ := image_Lay.mono_l k
    refine ⟨?_, ?_, ?_, ?_⟩
    · intro y0 y1 y2 y3 y4
      unfold image_Lay.l0
      repeat' first
      | (with_reducible exact ih0 _ _ _ _ _)
      | (with_reducible exact ih1 _ _ _ _ _ _ _ _ _)
      | (with_reducible exact ih2 _ _ _ _ _ _ _ _ _)
      | (with_reducible exact ih3 _ _ _ _ _ _ _ _ _ _)
      | (with_reducible exact LeO.refl _)
      | (with_reducible exact LeO.none _)
      | (with_reducible refine LeO.ite ?_ ?_)
      | (with_reducible refine LeO.bind ?_ (fun _ => ?_))
      | exact ih0 _ _ _ _ _
      | exact ih1 _ _ _ _ _ _ _ _ _
      | exact ih2 _ _ _ _ _ _ _ _ _
      | exact ih3 _ _ _ _ _ _ _ _ _ _
      | exact LeO.none _
      | refine LeO.ite ?_ ?_
      | refine LeO.bind ?_ (fun _ => ?_)
    · intro y0 y1 y2 y3 y4 y5 y6 y7 y8
      unfold image_Lay.j1
      repeat' first
      | (with_reducible exact ih0 _ _ _ _ _)
      | (with_reducible exact ih1 _ _ _ _ _ _ _ _ _)
      | (with_reducible exact ih2 _ _ _ _ _ _ _ _ _)
      | (with_reducible exact ih3 _ _ _ _ _ _ _ _ _ _)
      | (with_reducible exact LeO.refl _)
      | (with_reducible exact LeO.none _)
      | (with_reducible refine LeO.ite ?_ ?_)
      | (with_reducible refine LeO.bind ?_ (fun _ => ?_))
      | exact ih0 _ _ _ _ _
      | exact ih1 _ _ _ _ _ _ _ _ _
      | exact ih2 _ _ _ _ _ _ _ _ _
      | exact ih3 _ _ _ _ _ _ _ _ _ _
      | exact LeO.none _
      | refine LeO.ite ?_ ?_
      | refine LeO.bind ?_ (fun _ => ?_)
    · intro y0 y1 y2 y3 y4 y5 y6 y7 y8
      unfold image_Lay.l1
      repeat' first
      | (with_reducible exact ih0 _ _ _ _ _)
      | (with_reducible exact ih1 _ _ _ _ _ _ _ _ _)
      | (with_reducible exact ih2 _ _ _ _ _ _ _ _ _)
      | (with_reducible exact ih3 _ _ _ _ _ _ _ _ _ _)
      | (with_reducible exact LeO.refl _)
      | (with_reducible exact LeO.none _)
      | (with_reducible refine LeO.ite ?_ ?_)
      | (with_reducible refine LeO.bind ?_ (fun _ => ?_))
      | exact ih0 _ _ _ _ _
      | exact ih1 _ _ _ _ _ _ _ _ _
      | exact ih2 _ _ _ _ _ _ _ _ _
      | exact ih3 _ _ _ _ _ _ _ _ _ _
      | exact LeO.none _
      | refine LeO.ite ?_ ?_
      | refine LeO.bind ?_ (fun _ => ?_)
    · intro y0 y1 y2 y3 y4 y5 y6 y7 y8 y9
      unfold image_Lay.l2
      repeat' first
      | (with_reducible exact ih0 _ _ _ _ _)
      | (with_reducible exact ih1 _ _ _ _ _ _ _ _ _)
      | (with_reducible exact ih2 _ _ _ _ _ _ _ _ _)
      | (with_reducible exact ih3 _ _ _ _ _ _ _ _ _ _)
      | (with_reducible exact LeO.refl _)
      | (with_reducible exact LeO.none _)
      | (with_reducible refine LeO.ite ?_ ?_)
      | (with_reducible refine LeO.bind ?_ (fun _ => ?_))
      | exact ih0 _ _ _ _ _
      | exact ih1 _ _ _ _ _ _ _ _ _
      | exact ih2 _ _ _ _ _ _ _ _ _
      | exact ih3 _ _ _ _ _ _ _ _ _ _
      | exact LeO.none _
      | refine LeO.ite ?_ ?_
      | refine LeO.bind ?_ (fun _ => ?_)
theorem image_Lay.mono : ∀ a0 a1 a2 k, LeO (image_Lay.f k a0 a1 a2) (image_Lay.f (k + 1) a0 a1 a2) := by
  intro a0 a1 a2 k
  obtain ⟨ih0, ih1, ih2, ih3⟩ := image_Lay.mono_l k
  unfold image_Lay.f
  repeat' first
      | (with_reducible exact ih0 _ _ _ _ _)
      | (with_reducible exact ih1 _ _ _ _ _ _ _ _ _)
      | (with_reducible exact ih2 _ _ _ _ _ _ _ _ _)
      | (with_reducible exact ih3 _ _ _ _ _ _ _ _ _ _)
      | (with_reducible exact LeO.refl _)
      | (with_reducible exact LeO.none _)
      | (with_reducible refine LeO.ite ?_ ?_)
      | (with_reducible refine LeO.bind ?_ (fun _ => ?_))
      | exact ih0 _ _ _ _ _
      | exact ih1 _ _ _ _ _ _ _ _ _
      | exact ih2 _ _ _ _ _ _ _ _ _
      | exact ih3 _ _ _ _ _ _ _ _ _ _
      | exact LeO.none _
      | refine LeO.ite ?_ ?_
      | refine LeO.bind ?_ (fun _ => ?_)
set_option maxHeartbeats 8000000 in
set_option maxRecDepth 100000 in
theorem image_Lay.calls (k : Nat) (a0_0 : Int) (A0_1 : Option Addr) (c0_1 : Nat) (l0_1 : List (S29)) (a1 : Int) (r1 : List Int) (r2 : Int) (w : World) (hr0_1 : Kd.C k29 w A0_1 l0_1.length l0_1) (hc0_1 : l0_1.length ≤ c0_1) (h : image_Lay.f k a0_0 l0_1 a1 = some (r1, r2)) :
    Calls Try.prog 7 #[.agg #[.int .u64 a0_0, .slice A0_1 l0_1.length c0_1], .int .u64 a1] w fun e w' => ∃ v0_ : Value, e = .returned (.tuple #[v0_, .int .i64 r2]) ∧ Kd.R (Kd.int .u8) 5 w' w.heap.size (fun _ => True) v0_ r1 ∧ Below w.heap.size w w' := by
  have hu25 := Try.underlying25
  have hu29 := Try.underlying29
  have HR0_1 := Aside0.mk hr0_1
  have HC0_1 := Aside0.mk hc0_1
  clear hr0_1 hc0_1
  have HB := Aside0.mk (Below.refl w.heap.size w)
  have H : (if a1 > 268435456 then (some (([] : List Int), 20)) else (image_Lay.l0 k a1 ([] : List Int) l0_1 (l0_1.length : Int) 0)) = some (r1, r2) := h
  clear h
  by_cases c3 : a1 > 268435456
  · rw [if_pos c3] at H
    have c3b0 : decide (268435456 < a1) = true := decide_eq_true c3
    clear c3
    simp only [Option.some.injEq, Prod.mk.injEq] at H
    obtain ⟨rfl, rfl⟩ := H
    go_enter Try.func7, Try.ntmps7
    go_wp2_with (first | ((with_reducible refine gate_dst (N := 2) rfl ?_); (try (refine gate_guard (by rfl) ?_; dsimp only)); refine box_event ?hg (N := 2) ?hd (cs := #[.int .u64 a0_0, .slice A0_1 l0_1.length c0_1]) (t := 25) ?hr ?_; (case hd => rfl); (case hg => rfl); (case hr => first | (go_simp; done) | (go_simp; rfl)); intro gb221 hg w4 hbox hb; have n0_ := Aside0.mk (below_step (by repeat (first | (with_reducible first | exact HB.out | apply below_alloc | apply pw_below_drewN | apply below_drew1) | exact HB.out)) hb); have n1_ := Aside0.mk (hbox); have n2_ := Aside0.mk ((by rw [hg]; exact (below_size (by repeat (first | (with_reducible first | exact HB.out | apply below_alloc | apply pw_below_drewN | apply below_drew1) | exact HB.out))) : w.heap.size ≤ gb221)); have n3_ := Aside0.mk ((by rw [hg]; exact (below_size (by repeat (first | (with_reducible first | exact HB.out | apply below_alloc | apply pw_below_drewN | apply below_drew1) | exact HB.out))) : w.heap.size ≤ gb221)); clear HB; have HB := n0_; have BK221 := n1_; have GW221 := n2_; have GE221 := n3_; clear n0_ n1_ n2_ n3_; clear hb hbox hg))
    go_ret2
    exact ⟨_, by first | rfl | (simp [errW_none, errW_some] <;> rfl) | (simp [*, errW_none, errW_some] <;> rfl) | (exfalso; simp_all; done), by first | exact Kd.R_nil _ _ _ _ _ | exact Kd.N_nil _ _ _ _ _ | exact Kd.V_nil _ _ _ _ _ | exact Kd.Q_nil _ _ _ _ _ | exact Kd.S_nil _ _ _ _ _, by repeat (first | (with_reducible first | exact HB.out | apply below_alloc | apply pw_below_drewN | apply below_drew1 | refine below_set ?_ GE221.out) | exact HB.out)⟩
  · rw [if_neg c3] at H
    have c3b0 : decide (268435456 < a1) = false := decide_eq_false c3
    clear c3
    have H' := Aside0.mk H
    clear H
    go_enter Try.func7, Try.ntmps7
    go_wp2_with (first | ((with_reducible refine gate_dst (N := 2) rfl ?_); (try (refine gate_guard (by rfl) ?_; dsimp only)); refine box_event ?hg (N := 2) ?hd (cs := #[.int .u64 a0_0, .slice A0_1 l0_1.length c0_1]) (t := 25) ?hr ?_; (case hd => rfl); (case hg => rfl); (case hr => first | (go_simp; done) | (go_simp; rfl)); intro gb221 hg w5 hbox hb; have n0_ := Aside0.mk (below_step (by repeat (first | (with_reducible first | exact HB.out | apply below_alloc | apply pw_below_drewN | apply below_drew1) | exact HB.out)) hb); have n1_ := Aside0.mk (hbox); have n2_ := Aside0.mk ((by rw [hg]; exact (below_size (by repeat (first | (with_reducible first | exact HB.out | apply below_alloc | apply pw_below_drewN | apply below_drew1) | exact HB.out))) : w.heap.size ≤ gb221)); have n3_ := Aside0.mk ((by rw [hg]; exact (below_size (by repeat (first | (with_reducible first | exact HB.out | apply below_alloc | apply pw_below_drewN | apply below_drew1) | exact HB.out))) : w.heap.size ≤ gb221)); clear HB; have HB := n0_; have BK221 := n1_; have GW221 := n2_; have GE221 := n3_; clear n0_ n1_ n2_ n3_; clear hb hbox hg; have hcz6_0 : w5.cell? ⟨gb221, 0, none⟩ = some (.int .u64 a0_0) := (blk_cell BK221.out 0).trans rfl; have hcz6_1 : w5.cell? ⟨gb221, 1, none⟩ = some (.slice A0_1 l0_1.length c0_1) := (blk_cell BK221.out 1).trans rfl; have hfz6_0 := blk_frozen BK221.out 0; have hfz6_1 := blk_frozen BK221.out 1))
    go_loopg [6, 16] k (fun kq v6 v16 w' => ∃ (x6_1 : List Int) (x16_1 : Int), v16 = .int .i64 x16_1 ∧ Aside0 (image_Lay.l0 kq a1 x6_1 l0_1 (l0_1.length : Int) x16_1 = some (r1, r2)) ∧ Aside0 (kq ≤ k) ∧ Aside0 (Kd.R (Kd.int .u8) 5 w' w.heap.size (fun _ => True) v6 x6_1) ∧ Aside0 (w'.heap[gb221]? = some (.cells #[.int .u64 a0_0, (.slice A0_1 l0_1.length c0_1)] 25 (0, 0))) ∧ Aside0 (Below w.heap.size w w'))
    case atStart => exact ⟨(([] : List Int)), (0), (by first | rfl | (simp; done) | (simp [*]; done) | (exfalso; simp_all; done)), H', ⟨Nat.le_refl _⟩, ⟨by first | exact Kd.R_nil _ _ _ _ _ | exact Kd.N_nil _ _ _ _ _ | exact Kd.V_nil _ _ _ _ _ | exact Kd.Q_nil _ _ _ _ _ | exact Kd.S_nil _ _ _ _ _⟩, ⟨by (with_reducible repeat (first | refine blk_drewN ?_ _ | refine blk_drew ?_ | refine blk_alloc ?_ _)); exact BK221.out⟩, ⟨by repeat (first | (with_reducible first | exact HB.out | apply below_alloc | apply pw_below_drewN | apply below_drew1 | refine below_set ?_ GE221.out) | exact HB.out)⟩⟩
    case round =>
      clear H'
      try clear p2
      try clear c3
      try clear c3b0
      try clear hcz6_0
      try clear hcz6_1
      try clear hfz6_0
      try clear hfz6_1
      obtain ⟨x6_1, x16_1, rfl, HA, HK1, HO_6, BK221, HB⟩ := hrel
      cases gk with
      | zero => exact absurd HA.out (by simp [image_Lay.l0])
      | succ k1 =>
        have H := HA.out
        clear HA
        simp only [image_Lay.l0] at H
        by_cases c7 : x16_1 < (l0_1.length : Int)
        · rw [if_pos c7] at H
          have c7b0 : decide (x16_1 < (l0_1.length : Int)) = true := decide_eq_true c7
          clear c7
          by_cases c8 : 0 ≤ x16_1
          · rw [if_pos c8] at H
            have c8b0 : decide (0 ≤ x16_1) = true := decide_eq_true c8
            clear c8
            by_cases c9 : x16_1 < (l0_1.length : Int)
            · rw [if_pos c9] at H
              have c9b0 : decide (x16_1 < (l0_1.length : Int)) = true := decide_eq_true c9
              clear c9
              have HC10 := Aside0.mk H
              clear H
              have p222 : 0 ≤ (x16_1 : Int) := of_decide_eq_true (by first | (with_reducible assumption) | assumption)
              have q222 : x16_1 < (l0_1.length : Int) := of_decide_eq_true (by first | (with_reducible assumption) | assumption)
              obtain ⟨ad222, A222_1, c222_1, e222, hx222_0, hx222_1, hx222_2, hl222_1, hi222_1⟩ := at_T29 HR0_1.out x16_1 p222 q222
              cases e222
              replace hx222_0 := (HB.out.cell (World.block_lt_of_cell? w _ hx222_0)).trans hx222_0
              replace hx222_1 := (HB.out.cell (World.block_lt_of_cell? w _ hx222_1)).trans hx222_1
              replace hx222_2 := (HB.out.cell (World.block_lt_of_cell? w _ hx222_2)).trans hx222_2
              have HR222_1 := Aside0.mk hi222_1
              have HC222_1 := Aside0.mk hl222_1
              clear hi222_1 hl222_1
              replace p222 := eq_true p222
              replace q222 := eq_true q222
              go_upto_region 7 with (first | ((with_reducible refine gate_dst (N := 8) rfl ?_); (try (refine gate_guard (by rfl) ?_; dsimp only)); refine box_event ?hg (N := 8) ?hd (cs := #[.int .u64 0, .slice none 0 0, .int .u64 0]) (t := 29) ?hr ?_; (case hd => rfl); (case hg => rfl); (case hr => first | (go_simp; done) | (go_simp; rfl)); intro gb223 hg w11 hbox hb; have n0_ := Aside0.mk (Kd.R_below (by (with_reducible repeat (first | apply Kd.R_alloc | apply Kd.R_drewN | apply Kd.R_drew)); exact HO_6.out) hb); have n1_ := Aside0.mk (blk_below (g := gb221) (o := .cells #[.int .u64 a0_0, .slice (some ad222) l0_1.length c0_1] 25 (0, 0)) (by (with_reducible repeat (first | refine blk_drewN ?_ _ | refine blk_drew ?_ | refine blk_alloc ?_ _)); exact BK221.out) hb); have n2_ := Aside0.mk (below_step (by repeat (first | (with_reducible first | exact HB.out | apply below_alloc | apply pw_below_drewN | apply below_drew1 | refine below_set ?_ GE221.out) | exact HB.out)) hb); have n3_ := Aside0.mk (hbox); have n4_ := Aside0.mk ((by rw [hg]; exact (below_size (by repeat (first | (with_reducible first | exact HB.out | apply below_alloc | apply pw_below_drewN | apply below_drew1 | refine below_set ?_ GE221.out) | exact HB.out))) : w.heap.size ≤ gb223)); have n5_ := Aside0.mk ((by rw [hg]; exact (below_size (by repeat (first | (with_reducible first | exact HB.out | apply below_alloc | apply pw_below_drewN | apply below_drew1 | refine below_set ?_ GE221.out) | exact HB.out))) : w.heap.size ≤ gb223)); have n6_ := Aside0.mk ((by rw [hg]; exact Nat.ne_of_lt (blk_lt (g := gb221) (o := .cells #[.int .u64 a0_0, .slice (some ad222) l0_1.length c0_1] 25 (0, 0)) (by (with_reducible repeat (first | refine blk_drewN ?_ _ | refine blk_drew ?_ | refine blk_alloc ?_ _)); exact BK221.out)) : gb221 ≠ gb223)); have n7_ := Aside0.mk ((by rw [hg]; exact Nat.ne_of_gt (blk_lt (g := gb221) (o := .cells #[.int .u64 a0_0, .slice (some ad222) l0_1.length c0_1] 25 (0, 0)) (by (with_reducible repeat (first | refine blk_drewN ?_ _ | refine blk_drew ?_ | refine blk_alloc ?_ _)); exact BK221.out)) : gb223 ≠ gb221)); clear HO_6; clear BK221; clear HB; have HO_6 := n0_; have BK221 := n1_; have HB := n2_; have BK223 := n3_; have GW223 := n4_; have GE223 := n5_; have NB221_223 := n6_; have NB223_221 := n7_; clear n0_ n1_ n2_ n3_ n4_ n5_ n6_ n7_; clear hb hbox hg; have hnb12 := NB223_221.out; have hnc12 := NB221_223.out; have hcz13_0 : w11.cell? ⟨gb223, 0, none⟩ = some (.int .u64 0) := (blk_cell BK223.out 0).trans rfl; have hcz13_1 : w11.cell? ⟨gb223, 1, none⟩ = some (.slice none 0 0) := (blk_cell BK223.out 1).trans rfl; have hcz13_2 : w11.cell? ⟨gb223, 2, none⟩ = some (.int .u64 0) := (blk_cell BK223.out 2).trans rfl; have hfz13_0 := blk_frozen BK223.out 0; have hfz13_1 := blk_frozen BK223.out 1; have hfz13_2 := blk_frozen BK223.out 2))
              (try simp only [Act.put, List.setIfInBounds_toArray, List.set_cons_zero, List.set_cons_succ])
              go_cut [35] (fun v35 wc => ∃ (kq : Nat) (x35_9 : Bool), v35 = .bool x35_9 ∧ Aside0 (image_Lay.j1 kq a1 x6_1 l0_1 (l0_1.length : Int) x16_1 x35_9 ((rd_T29 l0_1 x16_1).f0) ((rd_T29 l0_1 x16_1).f1) ((rd_T29 l0_1 x16_1).f2) = some (r1, r2)) ∧ Aside0 (kq ≤ k1) ∧ Aside0 (Kd.R (Kd.int .u8) 5 wc w.heap.size (fun _ => True) u6 x6_1) ∧ Aside0 (wc.heap[gb221]? = some (.cells #[.int .u64 a0_0, (.slice (some ad222) l0_1.length c0_1)] 25 (0, 0))) ∧ Aside0 (wc.heap[gb223]? = some (.cells #[.int .u64 ((rd_T29 l0_1 x16_1).f0), (.slice A222_1 ((rd_T29 l0_1 x16_1).f1).length c222_1), .int .u64 ((rd_T29 l0_1 x16_1).f2)] 29 (0, 0))) ∧ Aside0 (Below w.heap.size w wc))
              case first =>
                have H := HC10.out
                clear HC10
                replace H := Option.bind_eq_some_iff.mp H
                obtain ⟨t224, A140, H⟩ := H
                replace H : (if t224 = true then (image_Lay.j1 k1 a1 x6_1 l0_1 (l0_1.length : Int) x16_1 (decide ((IntKind.u64.wrap ((((rd_T29 l0_1 x16_1).f1).length : Int))) > ((rd_T29 l0_1 x16_1).f2))) ((rd_T29 l0_1 x16_1).f0) ((rd_T29 l0_1 x16_1).f1) ((rd_T29 l0_1 x16_1).f2)) else (image_Lay.j1 k1 a1 x6_1 l0_1 (l0_1.length : Int) x16_1 true ((rd_T29 l0_1 x16_1).f0) ((rd_T29 l0_1 x16_1).f1) ((rd_T29 l0_1 x16_1).f2))) = some (r1, r2) := H
                have A14 := Aside0.mk A140
                clear A140
                by_cases c15 : t224 = true
                · subst c15
                  have H1 : (image_Lay.j1 k1 a1 x6_1 l0_1 (l0_1.length : Int) x16_1 (decide ((IntKind.u64.wrap ((((rd_T29 l0_1 x16_1).f1).length : Int))) > ((rd_T29 l0_1 x16_1).f2))) ((rd_T29 l0_1 x16_1).f0) ((rd_T29 l0_1 x16_1).f1) ((rd_T29 l0_1 x16_1).f2)) = some (r1, r2) := by rw [if_pos rfl] at H; exact H
                  clear H
                  have H := H1
                  clear H1
                  have H' := Aside0.mk H
                  clear H
                  have hnb16 := NB223_221.out
                  have hnc16 := NB221_223.out
                  have hcz17_0 : w11.cell? ⟨gb223, 0, none⟩ = some (.int .u64 0) := (blk_cell BK223.out 0).trans rfl
                  have hcz17_1 : w11.cell? ⟨gb223, 1, none⟩ = some (.slice none 0 0) := (blk_cell BK223.out 1).trans rfl
                  have hcz17_2 : w11.cell? ⟨gb223, 2, none⟩ = some (.int .u64 0) := (blk_cell BK223.out 2).trans rfl
                  have hfz17_0 := blk_frozen BK223.out 0
                  have hfz17_1 := blk_frozen BK223.out 1
                  have hfz17_2 := blk_frozen BK223.out 2
                  go_wp2_with (first | ((with_reducible refine gate_callee (f := 18) rfl ?_); refine goesL_ (some 25) rfl rfl Try.func18 (by kernel_rfl) rfl #[.int .u64 ((rd_T29 l0_1 x16_1).f0), .int .u64 ((rd_T29 l0_1 x16_1).f2), .int .u64 2147483648, .int .u64 a1] rfl (by (try simp only [List.map_toArray, List.map_cons, List.map_nil]); first | done | rfl | (simp only [List.length_drop, List.length_take]; rfl)) ?_; (with_reducible refine (word_Within.calls ((rd_T29 l0_1 x16_1).f0) ((rd_T29 l0_1 x16_1).f2) 2147483648 a1 true _ A14.out).mono ?_); rintro e w' ⟨rfl, ⟨nd, rfl⟩⟩; refine ⟨_, rfl, ?_⟩))
                  go_meet
                  case rel => exact ⟨_, (decide ((IntKind.u64.wrap ((((rd_T29 l0_1 x16_1).f1).length : Int))) > ((rd_T29 l0_1 x16_1).f2))), (by first | rfl | (simp; done) | (simp [*]; done) | (exfalso; simp_all; done)), H', ⟨by have := HK1.out; first | omega | exact Nat.le_refl _⟩, ⟨by (with_reducible repeat (first | apply Kd.R_alloc | apply Kd.R_drewN | apply Kd.R_drew)); exact Kd.R_mono (Kd.R_far (p := ⟨gb223, 2, none⟩) (Kd.R_far (p := ⟨gb223, 1, none⟩) (Kd.R_far (p := ⟨gb223, 0, none⟩) (Kd.R_types HO_6.out BK223.out (by decide)) (fun _ hk => hk.2) (.int .u64 ((rd_T29 l0_1 x16_1).f0))) (fun _ hk => hk.2) (.slice A222_1 ((rd_T29 l0_1 x16_1).f1).length c222_1)) (fun _ hk => hk.2) (.int .u64 ((rd_T29 l0_1 x16_1).f2))) (fun _ hk => trivial)⟩, ⟨by (with_reducible repeat (first | refine blk_drewN ?_ _ | refine blk_drew ?_ | refine blk_alloc ?_ _)); refine blk_far ?_ NB221_223.out _; (with_reducible repeat (first | refine blk_drewN ?_ _ | refine blk_drew ?_ | refine blk_alloc ?_ _)); refine blk_far ?_ NB221_223.out _; (with_reducible repeat (first | refine blk_drewN ?_ _ | refine blk_drew ?_ | refine blk_alloc ?_ _)); refine blk_far ?_ NB221_223.out _; (with_reducible repeat (first | refine blk_drewN ?_ _ | refine blk_drew ?_ | refine blk_alloc ?_ _)); exact BK221.out⟩, ⟨by (with_reducible repeat (first | refine blk_drewN ?_ _ | refine blk_drew ?_ | refine blk_alloc ?_ _)); refine blk_put (cs := #[.int .u64 ((rd_T29 l0_1 x16_1).f0), .slice A222_1 ((rd_T29 l0_1 x16_1).f1).length c222_1, .int .u64 0]) ?_ 2 _ rfl; (with_reducible repeat (first | refine blk_drewN ?_ _ | refine blk_drew ?_ | refine blk_alloc ?_ _)); refine blk_put (cs := #[.int .u64 ((rd_T29 l0_1 x16_1).f0), .slice none 0 0, .int .u64 0]) ?_ 1 _ rfl; (with_reducible repeat (first | refine blk_drewN ?_ _ | refine blk_drew ?_ | refine blk_alloc ?_ _)); refine blk_put (cs := #[.int .u64 0, .slice none 0 0, .int .u64 0]) ?_ 0 _ rfl; (with_reducible repeat (first | refine blk_drewN ?_ _ | refine blk_drew ?_ | refine blk_alloc ?_ _)); exact BK223.out⟩, ⟨by repeat (first | (with_reducible first | exact HB.out | apply below_alloc | apply pw_below_drewN | apply below_drew1 | refine below_set ?_ GE221.out | refine below_set ?_ GE223.out) | exact HB.out)⟩⟩
                · replace c15 := Bool.eq_false_iff.mpr c15
                  subst c15
                  have H1 : (image_Lay.j1 k1 a1 x6_1 l0_1 (l0_1.length : Int) x16_1 true ((rd_T29 l0_1 x16_1).f0) ((rd_T29 l0_1 x16_1).f1) ((rd_T29 l0_1 x16_1).f2)) = some (r1, r2) := by rw [if_neg (show ¬ (false = true) by decide)] at H; exact H
                  clear H
                  have H := H1
                  clear H1
                  have H' := Aside0.mk H
                  clear H
                  have hnb18 := NB223_221.out
                  have hnc18 := NB221_223.out
                  have hcz19_0 : w11.cell? ⟨gb223, 0, none⟩ = some (.int .u64 0) := (blk_cell BK223.out 0).trans rfl
                  have hcz19_1 : w11.cell? ⟨gb223, 1, none⟩ = some (.slice none 0 0) := (blk_cell BK223.out 1).trans rfl
                  have hcz19_2 : w11.cell? ⟨gb223, 2, none⟩ = some (.int .u64 0) := (blk_cell BK223.out 2).trans rfl
                  have hfz19_0 := blk_frozen BK223.out 0
                  have hfz19_1 := blk_frozen BK223.out 1
                  have hfz19_2 := blk_frozen BK223.out 2
                  go_wp2_with (first | ((with_reducible refine gate_callee (f := 18) rfl ?_); refine goesL_ (some 25) rfl rfl Try.func18 (by kernel_rfl) rfl #[.int .u64 ((rd_T29 l0_1 x16_1).f0), .int .u64 ((rd_T29 l0_1 x16_1).f2), .int .u64 2147483648, .int .u64 a1] rfl (by (try simp only [List.map_toArray, List.map_cons, List.map_nil]); first | done | rfl | (simp only [List.length_drop, List.length_take]; rfl)) ?_; (with_reducible refine (word_Within.calls ((rd_T29 l0_1 x16_1).f0) ((rd_T29 l0_1 x16_1).f2) 2147483648 a1 false _ A14.out).mono ?_); rintro e w' ⟨rfl, ⟨nd, rfl⟩⟩; refine ⟨_, rfl, ?_⟩))
                  go_meet
                  case rel => exact ⟨_, (true), (by first | rfl | (simp; done) | (simp [*]; done) | (exfalso; simp_all; done)), H', ⟨by have := HK1.out; first | omega | exact Nat.le_refl _⟩, ⟨by (with_reducible repeat (first | apply Kd.R_alloc | apply Kd.R_drewN | apply Kd.R_drew)); exact Kd.R_mono (Kd.R_far (p := ⟨gb223, 2, none⟩) (Kd.R_far (p := ⟨gb223, 1, none⟩) (Kd.R_far (p := ⟨gb223, 0, none⟩) (Kd.R_types HO_6.out BK223.out (by decide)) (fun _ hk => hk.2) (.int .u64 ((rd_T29 l0_1 x16_1).f0))) (fun _ hk => hk.2) (.slice A222_1 ((rd_T29 l0_1 x16_1).f1).length c222_1)) (fun _ hk => hk.2) (.int .u64 ((rd_T29 l0_1 x16_1).f2))) (fun _ hk => trivial)⟩, ⟨by (with_reducible repeat (first | refine blk_drewN ?_ _ | refine blk_drew ?_ | refine blk_alloc ?_ _)); refine blk_far ?_ NB221_223.out _; (with_reducible repeat (first | refine blk_drewN ?_ _ | refine blk_drew ?_ | refine blk_alloc ?_ _)); refine blk_far ?_ NB221_223.out _; (with_reducible repeat (first | refine blk_drewN ?_ _ | refine blk_drew ?_ | refine blk_alloc ?_ _)); refine blk_far ?_ NB221_223.out _; (with_reducible repeat (first | refine blk_drewN ?_ _ | refine blk_drew ?_ | refine blk_alloc ?_ _)); exact BK221.out⟩, ⟨by (with_reducible repeat (first | refine blk_drewN ?_ _ | refine blk_drew ?_ | refine blk_alloc ?_ _)); refine blk_put (cs := #[.int .u64 ((rd_T29 l0_1 x16_1).f0), .slice A222_1 ((rd_T29 l0_1 x16_1).f1).length c222_1, .int .u64 0]) ?_ 2 _ rfl; (with_reducible repeat (first | refine blk_drewN ?_ _ | refine blk_drew ?_ | refine blk_alloc ?_ _)); refine blk_put (cs := #[.int .u64 ((rd_T29 l0_1 x16_1).f0), .slice none 0 0, .int .u64 0]) ?_ 1 _ rfl; (with_reducible repeat (first | refine blk_drewN ?_ _ | refine blk_drew ?_ | refine blk_alloc ?_ _)); refine blk_put (cs := #[.int .u64 0, .slice none 0 0, .int .u64 0]) ?_ 0 _ rfl; (with_reducible repeat (first | refine blk_drewN ?_ _ | refine blk_drew ?_ | refine blk_alloc ?_ _)); exact BK223.out⟩, ⟨by repeat (first | (with_reducible first | exact HB.out | apply below_alloc | apply pw_below_drewN | apply below_drew1 | refine below_set ?_ GE221.out | refine below_set ?_ GE223.out) | exact HB.out)⟩⟩
              case rest =>
                clear HC10
                try clear c1
                try clear c2
                try clear p2
                try clear q2
                try clear hx2
                try clear c3
                try clear c3b0
                try clear c7
                try clear c7b0
                try clear c8
                try clear c8b0
                try clear c9
                try clear c9b0
                try clear c12
                try clear c15
                try clear c16
                try clear c18
                try clear hcz13_0
                try clear hcz13_1
                try clear hcz13_2
                try clear hcz17_0
                try clear hcz17_1
                try clear hcz17_2
                try clear hcz19_0
                try clear hcz19_1
                try clear hcz19_2
                try clear hcz6_0
                try clear hcz6_1
                try clear hfz13_0
                try clear hfz13_1
                try clear hfz13_2
                try clear hfz17_0
                try clear hfz17_1
                try clear hfz17_2
                try clear hfz19_0
                try clear hfz19_1
                try clear hfz19_2
                try clear hfz6_0
                try clear hfz6_1
                try clear hx222_0
                try clear hx222_1
                try clear hx222_2
                try clear p2
                try clear p222
                try clear q222
                obtain ⟨kq, x35_9, rfl, HA, HJ9, HO_6, BK221, BK223, HB⟩ := hcut
                cases kq with
                | zero => exact absurd HA.out (by simp [image_Lay.j1])
                | succ kj9 =>
                  have H := HA.out
                  clear HA
                  simp only [image_Lay.j1] at H
                  by_cases c20 : x35_9 = true
                  · subst c20
                    have H1 : (some (([] : List Int), 21)) = some (r1, r2) := by rw [if_pos rfl] at H; exact H
                    clear H
                    have H := H1
                    clear H1
                    simp only [Option.some.injEq, Prod.mk.injEq] at H
                    obtain ⟨rfl, rfl⟩ := H
                    go_wp2
                    go_ret2
                    exact ⟨_, by first | rfl | (simp [errW_none, errW_some] <;> rfl) | (simp [*, errW_none, errW_some] <;> rfl) | (exfalso; simp_all; done), by first | exact Kd.R_nil _ _ _ _ _ | exact Kd.N_nil _ _ _ _ _ | exact Kd.V_nil _ _ _ _ _ | exact Kd.Q_nil _ _ _ _ _ | exact Kd.S_nil _ _ _ _ _, by repeat (first | (with_reducible first | exact HB.out | apply below_alloc | apply pw_below_drewN | apply below_drew1 | refine below_set ?_ GE221.out | refine below_set ?_ GE223.out) | exact HB.out)⟩
                  · replace c20 := Bool.eq_false_iff.mpr c20
                    subst c20
                    have H1 : (image_Lay.l1 kj9 a1 x6_1 (IntKind.u64.wrap (((rd_T29 l0_1 x16_1).f0) - 2147483648)) l0_1 (l0_1.length : Int) x16_1 ((rd_T29 l0_1 x16_1).f0) ((rd_T29 l0_1 x16_1).f1) ((rd_T29 l0_1 x16_1).f2)) = some (r1, r2) := by rw [if_neg (show ¬ (false = true) by decide)] at H; exact H
                    clear H
                    have H := H1
                    clear H1
                    have H' := Aside0.mk H
                    clear H
                    have hnb21 := NB223_221.out
                    have hnc21 := NB221_223.out
                    have hcz22_0 : wc.cell? ⟨gb223, 0, none⟩ = some (.int .u64 ((rd_T29 l0_1 x16_1).f0)) := (blk_cell BK223.out 0).trans rfl
                    have hcz22_1 : wc.cell? ⟨gb223, 1, none⟩ = some (.slice A222_1 ((rd_T29 l0_1 x16_1).f1).length c222_1) := (blk_cell BK223.out 1).trans rfl
                    have hcz22_2 : wc.cell? ⟨gb223, 2, none⟩ = some (.int .u64 ((rd_T29 l0_1 x16_1).f2)) := (blk_cell BK223.out 2).trans rfl
                    have hfz22_0 := blk_frozen BK223.out 0
                    have hfz22_1 := blk_frozen BK223.out 1
                    have hfz22_2 := blk_frozen BK223.out 2
                    go_wp2
                    go_loopg [6] kj9 (fun kq v6 w' => ∃ (x6_3 : List Int), Aside0 (image_Lay.l1 kq a1 x6_3 (IntKind.u64.wrap (((rd_T29 l0_1 x16_1).f0) - 2147483648)) l0_1 (l0_1.length : Int) x16_1 ((rd_T29 l0_1 x16_1).f0) ((rd_T29 l0_1 x16_1).f1) ((rd_T29 l0_1 x16_1).f2) = some (r1, r2)) ∧ Aside0 (kq ≤ kj9) ∧ Aside0 (Kd.R (Kd.int .u8) 5 w' w.heap.size (fun _ => True) v6 x6_3) ∧ Aside0 (w'.heap[gb221]? = some (.cells #[.int .u64 a0_0, (.slice (some ad222) l0_1.length c0_1)] 25 (0, 0))) ∧ Aside0 (w'.heap[gb223]? = some (.cells #[.int .u64 ((rd_T29 l0_1 x16_1).f0), (.slice A222_1 ((rd_T29 l0_1 x16_1).f1).length c222_1), .int .u64 ((rd_T29 l0_1 x16_1).f2)] 29 (0, 0))) ∧ Aside0 (Below w.heap.size w w'))
                    case atStart => exact ⟨(x6_1), H', ⟨Nat.le_refl _⟩, ⟨by (with_reducible repeat (first | apply Kd.R_alloc | apply Kd.R_drewN | apply Kd.R_drew)); exact HO_6.out⟩, ⟨by (with_reducible repeat (first | refine blk_drewN ?_ _ | refine blk_drew ?_ | refine blk_alloc ?_ _)); exact BK221.out⟩, ⟨by (with_reducible repeat (first | refine blk_drewN ?_ _ | refine blk_drew ?_ | refine blk_alloc ?_ _)); exact BK223.out⟩, ⟨by repeat (first | (with_reducible first | exact HB.out | apply below_alloc | apply pw_below_drewN | apply below_drew1 | refine below_set ?_ GE221.out | refine below_set ?_ GE223.out) | exact HB.out)⟩⟩
                    case round =>
                      clear H'
                      try clear c1
                      try clear c2
                      try clear p2
                      try clear q2
                      try clear hx2
                      try clear c3
                      try clear c3b0
                      try clear c7
                      try clear c7b0
                      try clear c8
                      try clear c8b0
                      try clear c9
                      try clear c9b0
                      try clear c12
                      try clear c15
                      try clear c16
                      try clear c18
                      try clear c20
                      try clear c21
                      try clear c22
                      try clear p22
                      try clear q22
                      try clear hx22
                      try clear hcz13_0
                      try clear hcz13_1
                      try clear hcz13_2
                      try clear hcz17_0
                      try clear hcz17_1
                      try clear hcz17_2
                      try clear hcz19_0
                      try clear hcz19_1
                      try clear hcz19_2
                      try clear hcz22_0
                      try clear hcz22_1
                      try clear hcz22_2
                      try clear hcz6_0
                      try clear hcz6_1
                      try clear hfz13_0
                      try clear hfz13_1
                      try clear hfz13_2
                      try clear hfz17_0
                      try clear hfz17_1
                      try clear hfz17_2
                      try clear hfz19_0
                      try clear hfz19_1
                      try clear hfz19_2
                      try clear hfz22_0
                      try clear hfz22_1
                      try clear hfz22_2
                      try clear hfz6_0
                      try clear hfz6_1
                      try clear hx222_0
                      try clear hx222_1
                      try clear hx222_2
                      try clear p2
                      try clear p222
                      try clear q2
                      try clear q222
                      obtain ⟨x6_3, HA, HK3, HO_6, BK221, BK223, HB⟩ := hrel
                      cases gk with
                      | zero => exact absurd HA.out (by simp [image_Lay.l1])
                      | succ k3 =>
                        have H := HA.out
                        clear HA
                        simp only [image_Lay.l1] at H
                        by_cases c23 : (IntKind.u64.wrap ((x6_3.length : Int))) < (IntKind.u64.wrap ((IntKind.u64.wrap (((rd_T29 l0_1 x16_1).f0) - 2147483648)) + ((rd_T29 l0_1 x16_1).f2)))
                        · rw [if_pos c23] at H
                          have c23b0 : decide ((IntKind.u64.wrap ((x6_3.length : Int))) < (IntKind.u64.wrap ((IntKind.u64.wrap (((rd_T29 l0_1 x16_1).f0) - 2147483648)) + ((rd_T29 l0_1 x16_1).f2)))) = true := decide_eq_true c23
                          clear c23
                          by_cases c24 : x6_3.length < 140737488355328
                          · rw [if_pos c24] at H
                            have LMc24 := Aside0.mk c24
                            clear c24
                            obtain ⟨y225, hy225⟩ : ∃ y_ : List Int, y_ = (x6_3 ++ [0]) := ⟨_, rfl⟩
                            replace H : (image_Lay.l1 k3 a1 y225 (IntKind.u64.wrap (((rd_T29 l0_1 x16_1).f0) - 2147483648)) l0_1 (l0_1.length : Int) x16_1 ((rd_T29 l0_1 x16_1).f0) ((rd_T29 l0_1 x16_1).f1) ((rd_T29 l0_1 x16_1).f2)) = some (r1, r2) := by first | (rw [hy225]; with_reducible exact H) | (have H2_ := (Option.bind_some _ _).symm.trans H; rw [hy225]; with_reducible exact H2_) | (have H2_ := (Option.bind_some _ _).symm.trans H; with_reducible exact H2_) | with_reducible exact H | (rw [hy225]; exact H) | exact H
                            have Ny225 := Aside0.mk hy225
                            clear hy225
                            have H' := Aside0.mk H
                            clear H
                            obtain ⟨Ao25, co25, eo25⟩ := Kd.R_slice HO_6.out
                            subst eo25
                            have hnb26 := NB223_221.out
                            have hnc26 := NB221_223.out
                            have hcz27_0 : wr.cell? ⟨gb223, 0, none⟩ = some (.int .u64 ((rd_T29 l0_1 x16_1).f0)) := (blk_cell BK223.out 0).trans rfl
                            have hcz27_1 : wr.cell? ⟨gb223, 1, none⟩ = some (.slice A222_1 ((rd_T29 l0_1 x16_1).f1).length c222_1) := (blk_cell BK223.out 1).trans rfl
                            have hcz27_2 : wr.cell? ⟨gb223, 2, none⟩ = some (.int .u64 ((rd_T29 l0_1 x16_1).f2)) := (blk_cell BK223.out 2).trans rfl
                            have hfz27_0 := blk_frozen BK223.out 0
                            have hfz27_1 := blk_frozen BK223.out 1
                            have hfz27_2 := blk_frozen BK223.out 2
                            go_wp2_with (first | ((with_reducible refine gate_builtin (b := .append) (xs := #[.tmp 47, .tmp 48]) rfl ?_); (try (refine gate_guard (by rfl) ?_; dsimp only)); at_builtin; refine Kd.R_append (Kd.int .u8) (w0 := w) w.heap.size rfl (.tmp 47) (.tmp 48) 27 5 (.int .u8 0) 1 rfl Try.underlying27 info5 rfl (by decide) (by omega) (.slice Ao25 x6_3.length co25) x6_3 0 [.int .u8 0] (fun _ => True) (fun _ => False) rfl rfl ?aP (fun _ hk => hk.elim) ?aF ?aO ?aB ?aS ?aL ?_; (case aP => exact rfl); (case aB => exact (by repeat (first | (with_reducible first | exact HB.out | apply below_alloc | apply pw_below_drewN | apply below_drew1 | refine below_set ?_ GE221.out | refine below_set ?_ GE223.out) | exact HB.out))); (case aF => exact (fun _ _ => trivial)); (case aO => exact (by (with_reducible repeat (first | apply Kd.R_alloc | apply Kd.R_drewN | apply Kd.R_drew)); exact HO_6.out)); (case aS => exact (below_size (by repeat (first | (with_reducible first | exact HB.out | apply below_alloc | apply pw_below_drewN | apply below_drew1 | refine below_set ?_ GE221.out | refine below_set ?_ GE223.out) | exact HB.out)))); (case aL => have := LMc24.out; omega); intro v226 w28 ho hb hg hat; rw [← Ny225.out] at ho; have n0_ := Aside0.mk (blk_grown (g := gb221) (o := .cells #[.int .u64 a0_0, .slice (some ad222) l0_1.length c0_1] 25 (0, 0)) (by (with_reducible repeat (first | refine blk_drewN ?_ _ | refine blk_drew ?_ | refine blk_alloc ?_ _)); exact BK221.out) hg (Kd.R_ne HO_6.out BK221.out (by decide))); have n1_ := Aside0.mk (blk_grown (g := gb223) (o := .cells #[.int .u64 ((rd_T29 l0_1 x16_1).f0), .slice A222_1 ((rd_T29 l0_1 x16_1).f1).length c222_1, .int .u64 ((rd_T29 l0_1 x16_1).f2)] 29 (0, 0)) (by (with_reducible repeat (first | refine blk_drewN ?_ _ | refine blk_drew ?_ | refine blk_alloc ?_ _)); exact BK223.out) hg (Kd.R_ne HO_6.out BK223.out (by decide))); have n2_ := Aside0.mk (hb); have n3_ := Aside0.mk (ho); clear BK221; clear BK223; clear HB; clear HO_6; have BK221 := n0_; have BK223 := n1_; have HB := n2_; have HO227 := n3_; clear n0_ n1_ n2_ n3_; clear ho hb hg hat))
                            go_roundg k3
                            case measure => have := HK1.out; have := HJ9.out; have := HK3.out; omega
                            case rel => exact ⟨(y225), H', ⟨by have := HK1.out; have := HJ9.out; have := HK3.out; omega⟩, ⟨by (with_reducible repeat (first | apply Kd.R_alloc | apply Kd.R_drewN | apply Kd.R_drew)); exact HO227.out⟩, ⟨by (with_reducible repeat (first | refine blk_drewN ?_ _ | refine blk_drew ?_ | refine blk_alloc ?_ _)); exact BK221.out⟩, ⟨by (with_reducible repeat (first | refine blk_drewN ?_ _ | refine blk_drew ?_ | refine blk_alloc ?_ _)); exact BK223.out⟩, ⟨by repeat (first | (with_reducible first | exact HB.out | apply below_alloc | apply pw_below_drewN | apply below_drew1 | refine below_set ?_ GE221.out | refine below_set ?_ GE223.out) | exact HB.out)⟩⟩
                          · rw [if_neg c24] at H
                            exact absurd H (by simp)
                        · rw [if_neg c23] at H
                          have c23b0 : decide ((IntKind.u64.wrap ((x6_3.length : Int))) < (IntKind.u64.wrap ((IntKind.u64.wrap (((rd_T29 l0_1 x16_1).f0) - 2147483648)) + ((rd_T29 l0_1 x16_1).f2)))) = false := decide_eq_false c23
                          clear c23
                          have H' := Aside0.mk H
                          clear H
                          obtain ⟨Ao29, co29, eo29⟩ := Kd.R_slice HO_6.out
                          subst eo29
                          have hnb30 := NB223_221.out
                          have hnc30 := NB221_223.out
                          have hcz31_0 : wr.cell? ⟨gb223, 0, none⟩ = some (.int .u64 ((rd_T29 l0_1 x16_1).f0)) := (blk_cell BK223.out 0).trans rfl
                          have hcz31_1 : wr.cell? ⟨gb223, 1, none⟩ = some (.slice A222_1 ((rd_T29 l0_1 x16_1).f1).length c222_1) := (blk_cell BK223.out 1).trans rfl
                          have hcz31_2 : wr.cell? ⟨gb223, 2, none⟩ = some (.int .u64 ((rd_T29 l0_1 x16_1).f2)) := (blk_cell BK223.out 2).trans rfl
                          have hfz31_0 := blk_frozen BK223.out 0
                          have hfz31_1 := blk_frozen BK223.out 1
                          have hfz31_2 := blk_frozen BK223.out 2
                          go_wp2
                          go_loopg [10] k3 (fun kq v10 w' => ∃ (x6_4 : List Int) (x10_4 : Int), v10 = .int .u64 x10_4 ∧ Aside0 (image_Lay.l2 kq a1 x6_4 (IntKind.u64.wrap (((rd_T29 l0_1 x16_1).f0) - 2147483648)) x10_4 l0_1 (l0_1.length : Int) x16_1 ((rd_T29 l0_1 x16_1).f0) ((rd_T29 l0_1 x16_1).f1) ((rd_T29 l0_1 x16_1).f2) = some (r1, r2)) ∧ Aside0 (kq ≤ k3) ∧ Aside0 (Kd.R (Kd.int .u8) 5 w' w.heap.size (fun _ => True) (.slice Ao29 x6_3.length co29) x6_4) ∧ Aside0 (w'.heap[gb221]? = some (.cells #[.int .u64 a0_0, (.slice (some ad222) l0_1.length c0_1)] 25 (0, 0))) ∧ Aside0 (w'.heap[gb223]? = some (.cells #[.int .u64 ((rd_T29 l0_1 x16_1).f0), (.slice A222_1 ((rd_T29 l0_1 x16_1).f1).length c222_1), .int .u64 ((rd_T29 l0_1 x16_1).f2)] 29 (0, 0))) ∧ Aside0 (Below w.heap.size w w'))
                          case atStart => exact ⟨(x6_3), (0), (by first | rfl | (simp; done) | (simp [*]; done) | (exfalso; simp_all; done)), H', ⟨Nat.le_refl _⟩, ⟨by (with_reducible repeat (first | apply Kd.R_alloc | apply Kd.R_drewN | apply Kd.R_drew)); exact HO_6.out⟩, ⟨by (with_reducible repeat (first | refine blk_drewN ?_ _ | refine blk_drew ?_ | refine blk_alloc ?_ _)); exact BK221.out⟩, ⟨by (with_reducible repeat (first | refine blk_drewN ?_ _ | refine blk_drew ?_ | refine blk_alloc ?_ _)); exact BK223.out⟩, ⟨by repeat (first | (with_reducible first | exact HB.out | apply below_alloc | apply pw_below_drewN | apply below_drew1 | refine below_set ?_ GE221.out | refine below_set ?_ GE223.out) | exact HB.out)⟩⟩
                          case round =>
                            clear H'
                            try clear c1
                            try clear c2
                            try clear p2
                            try clear q2
                            try clear hx2
                            try clear c3
                            try clear c3b0
                            try clear c7
                            try clear c7b0
                            try clear c8
                            try clear c8b0
                            try clear c9
                            try clear c9b0
                            try clear c12
                            try clear c15
                            try clear c16
                            try clear c18
                            try clear c20
                            try clear c21
                            try clear c22
                            try clear p22
                            try clear q22
                            try clear hx22
                            try clear c23
                            try clear c23b0
                            try clear c24
                            try clear c26
                            try clear c30
                            try clear hcz13_0
                            try clear hcz13_1
                            try clear hcz13_2
                            try clear hcz17_0
                            try clear hcz17_1
                            try clear hcz17_2
                            try clear hcz19_0
                            try clear hcz19_1
                            try clear hcz19_2
                            try clear hcz22_0
                            try clear hcz22_1
                            try clear hcz22_2
                            try clear hcz27_0
                            try clear hcz27_1
                            try clear hcz27_2
                            try clear hcz31_0
                            try clear hcz31_1
                            try clear hcz31_2
                            try clear hcz6_0
                            try clear hcz6_1
                            try clear hfz13_0
                            try clear hfz13_1
                            try clear hfz13_2
                            try clear hfz17_0
                            try clear hfz17_1
                            try clear hfz17_2
                            try clear hfz19_0
                            try clear hfz19_1
                            try clear hfz19_2
                            try clear hfz22_0
                            try clear hfz22_1
                            try clear hfz22_2
                            try clear hfz27_0
                            try clear hfz27_1
                            try clear hfz27_2
                            try clear hfz31_0
                            try clear hfz31_1
                            try clear hfz31_2
                            try clear hfz6_0
                            try clear hfz6_1
                            try clear hx222_0
                            try clear hx222_1
                            try clear hx222_2
                            try clear p2
                            try clear p22
                            try clear p222
                            try clear q2
                            try clear q22
                            try clear q222
                            obtain ⟨x6_4, x10_4, rfl, HA, HK4, HO_6, BK221, BK223, HB⟩ := hrel
                            have hl6_4 := (Kd.R_reads' HO_6.out).1
                            rw [hl6_4] at HO_6
                            (try simp only [hl6_4])
                            (try simp only [hl6_4] at BK221)
                            (try simp only [hl6_4] at BK223)
                            cases gk with
                            | zero => exact absurd HA.out (by simp [image_Lay.l2])
                            | succ k4 =>
                              have H := HA.out
                              clear HA
                              simp only [image_Lay.l2] at H
                              by_cases c32 : x10_4 < ((rd_T29 l0_1 x16_1).f2)
                              · rw [if_pos c32] at H
                                have c32b0 : decide (x10_4 < ((rd_T29 l0_1 x16_1).f2)) = true := decide_eq_true c32
                                clear c32
                                obtain ⟨ji33, hji33⟩ : ∃ j_ : Int, (IntKind.u64.wrap ((IntKind.u64.wrap (((rd_T29 l0_1 x16_1).f0) - 2147483648)) + x10_4)) = j_ := ⟨_, rfl⟩
                                replace H : (if 0 ≤ (ji33) then (if (ji33) < (x6_4.length : Int) then ((some (x6_4.set ((ji33) : Int).toNat 0 : List Int)).bind fun y228 => (if x10_4 < (IntKind.u64.wrap ((((rd_T29 l0_1 x16_1).f1).length : Int))) then (if 0 ≤ x10_4 then (if x10_4 < (((rd_T29 l0_1 x16_1).f1).length : Int) then (image_Lay.l2 k4 a1 (y228.set ((ji33) : Int).toNat (rd ((rd_T29 l0_1 x16_1).f1) x10_4)) (IntKind.u64.wrap (((rd_T29 l0_1 x16_1).f0) - 2147483648)) (IntKind.u64.wrap (x10_4 + 1)) l0_1 (l0_1.length : Int) x16_1 ((rd_T29 l0_1 x16_1).f0) ((rd_T29 l0_1 x16_1).f1) ((rd_T29 l0_1 x16_1).f2)) else (none)) else (none)) else (image_Lay.l2 k4 a1 y228 (IntKind.u64.wrap (((rd_T29 l0_1 x16_1).f0) - 2147483648)) (IntKind.u64.wrap (x10_4 + 1)) l0_1 (l0_1.length : Int) x16_1 ((rd_T29 l0_1 x16_1).f0) ((rd_T29 l0_1 x16_1).f1) ((rd_T29 l0_1 x16_1).f2)))) else (none)) else (none)) = some (r1, r2) := by first | (rw [hji33] at H; exact H) | (simp only [hji33] at H ⊢; exact H)
                                by_cases c34 : 0 ≤ (ji33)
                                · rw [if_pos c34] at H
                                  have c34b0 : decide (0 ≤ (ji33)) = true := decide_eq_true c34
                                  clear c34
                                  by_cases c35 : (ji33) < (x6_4.length : Int)
                                  · rw [if_pos c35] at H
                                    have c35b0 : decide ((ji33) < (x6_4.length : Int)) = true := decide_eq_true c35
                                    clear c35
                                    obtain ⟨y228, hy228⟩ : ∃ y_ : List Int, y_ = (x6_4.set ((ji33) : Int).toNat 0) := ⟨_, rfl⟩
                                    replace H : (if x10_4 < (IntKind.u64.wrap ((((rd_T29 l0_1 x16_1).f1).length : Int))) then (if 0 ≤ x10_4 then (if x10_4 < (((rd_T29 l0_1 x16_1).f1).length : Int) then (image_Lay.l2 k4 a1 (y228.set ((ji33) : Int).toNat (rd ((rd_T29 l0_1 x16_1).f1) x10_4)) (IntKind.u64.wrap (((rd_T29 l0_1 x16_1).f0) - 2147483648)) (IntKind.u64.wrap (x10_4 + 1)) l0_1 (l0_1.length : Int) x16_1 ((rd_T29 l0_1 x16_1).f0) ((rd_T29 l0_1 x16_1).f1) ((rd_T29 l0_1 x16_1).f2)) else (none)) else (none)) else (image_Lay.l2 k4 a1 y228 (IntKind.u64.wrap (((rd_T29 l0_1 x16_1).f0) - 2147483648)) (IntKind.u64.wrap (x10_4 + 1)) l0_1 (l0_1.length : Int) x16_1 ((rd_T29 l0_1 x16_1).f0) ((rd_T29 l0_1 x16_1).f1) ((rd_T29 l0_1 x16_1).f2))) = some (r1, r2) := by first | (rw [hy228]; with_reducible exact H) | (have H2_ := (Option.bind_some _ _).symm.trans H; rw [hy228]; with_reducible exact H2_) | (have H2_ := (Option.bind_some _ _).symm.trans H; with_reducible exact H2_) | with_reducible exact H | (rw [hy228]; exact H) | exact H
                                    have Ny228 := Aside0.mk hy228
                                    clear hy228
                                    by_cases c37 : x10_4 < (IntKind.u64.wrap ((((rd_T29 l0_1 x16_1).f1).length : Int)))
                                    · rw [if_pos c37] at H
                                      have c37b0 : decide (x10_4 < (IntKind.u64.wrap ((((rd_T29 l0_1 x16_1).f1).length : Int)))) = true := decide_eq_true c37
                                      clear c37
                                      by_cases c38 : 0 ≤ x10_4
                                      · rw [if_pos c38] at H
                                        have c38b0 : decide (0 ≤ x10_4) = true := decide_eq_true c38
                                        clear c38
                                        by_cases c39 : x10_4 < (((rd_T29 l0_1 x16_1).f1).length : Int)
                                        · rw [if_pos c39] at H
                                          have c39b0 : decide (x10_4 < (((rd_T29 l0_1 x16_1).f1).length : Int)) = true := decide_eq_true c39
                                          clear c39
                                          obtain ⟨y230, hy230⟩ : ∃ y_ : List Int, y_ = (y228.set ((ji33) : Int).toNat (rd ((rd_T29 l0_1 x16_1).f1) x10_4)) := ⟨_, rfl⟩
                                          replace H : (image_Lay.l2 k4 a1 y230 (IntKind.u64.wrap (((rd_T29 l0_1 x16_1).f0) - 2147483648)) (IntKind.u64.wrap (x10_4 + 1)) l0_1 (l0_1.length : Int) x16_1 ((rd_T29 l0_1 x16_1).f0) ((rd_T29 l0_1 x16_1).f1) ((rd_T29 l0_1 x16_1).f2)) = some (r1, r2) := by first | (rw [hy230]; with_reducible exact H) | (have H2_ := (Option.bind_some _ _).symm.trans H; rw [hy230]; with_reducible exact H2_) | (have H2_ := (Option.bind_some _ _).symm.trans H; with_reducible exact H2_) | with_reducible exact H | (rw [hy230]; exact H) | exact H
                                          have Ny230 := Aside0.mk hy230
                                          clear hy230
                                          have H' := Aside0.mk H
                                          clear H
                                          have hnb41 := NB223_221.out
                                          have hnc41 := NB221_223.out
                                          have hcz42_0 : wr.cell? ⟨gb223, 0, none⟩ = some (.int .u64 ((rd_T29 l0_1 x16_1).f0)) := (blk_cell BK223.out 0).trans rfl
                                          have hcz42_1 : wr.cell? ⟨gb223, 1, none⟩ = some (.slice A222_1 ((rd_T29 l0_1 x16_1).f1).length c222_1) := (blk_cell BK223.out 1).trans rfl
                                          have hcz42_2 : wr.cell? ⟨gb223, 2, none⟩ = some (.int .u64 ((rd_T29 l0_1 x16_1).f2)) := (blk_cell BK223.out 2).trans rfl
                                          have hfz42_0 := blk_frozen BK223.out 0
                                          have hfz42_1 := blk_frozen BK223.out 1
                                          have hfz42_2 := blk_frozen BK223.out 2
                                          have p36 : 0 ≤ ((ji33) : Int) := of_decide_eq_true (by first | (with_reducible assumption) | assumption)
                                          have q36 : ((ji33) : Int) < ((x6_4.length : Int) : Int) := of_decide_eq_true (by first | (with_reducible assumption) | assumption)
                                          obtain ⟨go36, co36, eo36, gb36, gl36, cl36, HG36⟩ := Kd.R_form HO_6.out (by omega)
                                          (first | cases eo36 | (injection eo36 with ea_ en_ ec_; (first | subst ea_ | (injection ea_ with ea_; subst ea_)); subst ec_; clear en_))
                                          have GB36 := Aside0.mk gb36
                                          have GG36 := Aside0.mk HG36
                                          clear gb36 gl36 HG36
                                          obtain ⟨hx36_0, hf36_0⟩ := Kd.R_celln 0 HO_6.out ((ji33) : Int) p36 q36
                                          replace p36 := eq_true p36
                                          replace q36 := eq_true q36
                                          have HP43 := Kd.R_putg HO_6.out ((ji33) : Int) 0
                                          go_wp2_with (first | ((with_reducible refine gate_store (t := 5) (p := 60) rfl ?_); refine store_event (t := 5) (p := 60) (v := ?vo_w44) (w1 := (wr.setCell ⟨go36, ((ji33) : Int).toNat, none⟩ (.int .u8 0))) ?hg ?ho ?hn ?hr ?_; (case ho => rfl); (case hg => rfl); (case hn => rfl); (case hr => first | (go_simp; done) | (go_simp; rfl)); intro w44 hw; have hg : wr.grownBy w44 (some go36) := (by rw [hw]; exact HP43.2); have hp_ : Kd.R (Kd.int .u8) 5 w44 w.heap.size (fun _ => True) (.slice (some ⟨go36, 0, none⟩) x6_4.length co29) y228 := (by rw [hw, Ny228.out]; exact HP43.1); clear HP43; have n0_ := Aside0.mk (hp_); have n1_ := Aside0.mk (blk_grown (g := gb221) (o := .cells #[.int .u64 a0_0, .slice (some ad222) l0_1.length c0_1] 25 (0, 0)) (by (with_reducible repeat (first | refine blk_drewN ?_ _ | refine blk_drew ?_ | refine blk_alloc ?_ _)); exact BK221.out) hg (Kd.R_ne HO_6.out BK221.out (by decide))); have n2_ := Aside0.mk (blk_grown (g := gb223) (o := .cells #[.int .u64 ((rd_T29 l0_1 x16_1).f0), .slice A222_1 ((rd_T29 l0_1 x16_1).f1).length c222_1, .int .u64 ((rd_T29 l0_1 x16_1).f2)] 29 (0, 0)) (by (with_reducible repeat (first | refine blk_drewN ?_ _ | refine blk_drew ?_ | refine blk_alloc ?_ _)); exact BK223.out) hg (Kd.R_ne HO_6.out BK223.out (by decide))); have n3_ := Aside0.mk ((by rw [hw]; exact below_set (HB.out) GB36.out : Below w.heap.size w w44)); clear HO_6; clear BK221; clear BK223; clear HB; have HO_6 := n0_; have BK221 := n1_; have BK223 := n2_; have HB := n3_; clear n0_ n1_ n2_ n3_; clear hg hw hp_; have hcz45_0 : w44.cell? ⟨gb223, 0, none⟩ = some (.int .u64 ((rd_T29 l0_1 x16_1).f0)) := (blk_cell BK223.out 0).trans rfl; have hcz45_1 : w44.cell? ⟨gb223, 1, none⟩ = some (.slice A222_1 ((rd_T29 l0_1 x16_1).f1).length c222_1) := (blk_cell BK223.out 1).trans rfl; have hcz45_2 : w44.cell? ⟨gb223, 2, none⟩ = some (.int .u64 ((rd_T29 l0_1 x16_1).f2)) := (blk_cell BK223.out 2).trans rfl; have hfz45_0 := blk_frozen BK223.out 0; have hfz45_1 := blk_frozen BK223.out 1; have hfz45_2 := blk_frozen BK223.out 2; have p229 : 0 ≤ (x10_4 : Int) := of_decide_eq_true (by first | (with_reducible assumption) | assumption); have q229 : x10_4 < (((rd_T29 l0_1 x16_1).f1).length : Int) := of_decide_eq_true (by first | (with_reducible assumption) | assumption); obtain ⟨ad229, e229, hx229_0⟩ := Kd.at_int HR222_1.out x10_4 p229 q229; cases e229; replace hx229_0 := (HB.out.cell (World.block_lt_of_cell? w _ hx229_0)).trans hx229_0; replace p229 := eq_true p229; replace q229 := eq_true q229; have p40 : 0 ≤ ((ji33) : Int) := of_decide_eq_true (by first | (with_reducible assumption) | assumption); have q40 : ((ji33) : Int) < ((x6_4.length : Int) : Int) := of_decide_eq_true (by first | (with_reducible assumption) | assumption); obtain ⟨hx40_0, hf40_0⟩ := Kd.R_celln 0 HO_6.out ((ji33) : Int) p40 q40; replace p40 := eq_true p40; replace q40 := eq_true q40; obtain ⟨hy46_, hz46_⟩ := Kd.R_celln 0 HO_6.out ((ji33) : Int) (of_decide_eq_true (by first | (with_reducible assumption) | assumption)) (of_decide_eq_true (by first | (with_reducible assumption) | assumption)); have HP46 := Kd.R_putg HO_6.out ((ji33) : Int) (rd ((rd_T29 l0_1 x16_1).f1) x10_4)) | ((with_reducible refine gate_store (t := 5) (p := 76) rfl ?_); refine store_event (t := 5) (p := 76) (v := ?vo_w47) (w1 := (w44.setCell ⟨go36, ((ji33) : Int).toNat, none⟩ (.int .u8 (rd ((rd_T29 l0_1 x16_1).f1) x10_4)))) ?hg ?ho ?hn ?hr ?_; (case ho => rfl); (case hg => rfl); (case hn => rfl); (case hr => first | (go_simp; done) | (go_simp; rfl)); intro w47 hw; have hg : w44.grownBy w47 (some go36) := (by rw [hw]; exact HP46.2); have hp_ : Kd.R (Kd.int .u8) 5 w47 w.heap.size (fun _ => True) (.slice (some ⟨go36, 0, none⟩) x6_4.length co29) y230 := (by rw [hw, Ny230.out]; exact HP46.1); clear HP46; have n0_ := Aside0.mk (hp_); have n1_ := Aside0.mk (blk_grown (g := gb221) (o := .cells #[.int .u64 a0_0, .slice (some ad222) l0_1.length c0_1] 25 (0, 0)) (by (with_reducible repeat (first | refine blk_drewN ?_ _ | refine blk_drew ?_ | refine blk_alloc ?_ _)); exact BK221.out) hg (Kd.R_ne HO_6.out BK221.out (by decide))); have n2_ := Aside0.mk (blk_grown (g := gb223) (o := .cells #[.int .u64 ((rd_T29 l0_1 x16_1).f0), .slice (some ad229) ((rd_T29 l0_1 x16_1).f1).length c222_1, .int .u64 ((rd_T29 l0_1 x16_1).f2)] 29 (0, 0)) (by (with_reducible repeat (first | refine blk_drewN ?_ _ | refine blk_drew ?_ | refine blk_alloc ?_ _)); exact BK223.out) hg (Kd.R_ne HO_6.out BK223.out (by decide))); have n3_ := Aside0.mk ((by rw [hw]; exact below_set (HB.out) GB36.out : Below w.heap.size w w47)); clear HO_6; clear BK221; clear BK223; clear HB; have HO_6 := n0_; have BK221 := n1_; have BK223 := n2_; have HB := n3_; clear n0_ n1_ n2_ n3_; clear hg hw hp_))
                                          (try simp only [← hl6_4])
                                          go_roundg k4
                                          case measure => have := HK1.out; have := HJ9.out; have := HK3.out; have := HK4.out; omega
                                          case rel => exact ⟨(y230), (IntKind.u64.wrap (x10_4 + 1)), (by first | rfl | (simp; done) | (simp [*]; done) | (exfalso; simp_all; done)), H', ⟨by have := HK1.out; have := HJ9.out; have := HK3.out; have := HK4.out; omega⟩, ⟨by (try simp only [hl6_4]); (with_reducible repeat (first | apply Kd.R_alloc | apply Kd.R_drewN | apply Kd.R_drew)); exact HO_6.out⟩, ⟨by (try simp only [hl6_4]); (with_reducible repeat (first | refine blk_drewN ?_ _ | refine blk_drew ?_ | refine blk_alloc ?_ _)); exact BK221.out⟩, ⟨by (try simp only [hl6_4]); (with_reducible repeat (first | refine blk_drewN ?_ _ | refine blk_drew ?_ | refine blk_alloc ?_ _)); exact BK223.out⟩, ⟨by repeat (first | (with_reducible first | exact HB.out | apply below_alloc | apply pw_below_drewN | apply below_drew1 | refine below_set ?_ GE221.out | refine below_set ?_ GE223.out) | exact HB.out)⟩⟩
                                        · rw [if_neg c39] at H
                                          exact absurd H (by simp)
                                      · rw [if_neg c38] at H
                                        exact absurd H (by simp)
                                    · rw [if_neg c37] at H
                                      have c37b0 : decide (x10_4 < (IntKind.u64.wrap ((((rd_T29 l0_1 x16_1).f1).length : Int)))) = false := decide_eq_false c37
                                      clear c37
                                      have H' := Aside0.mk H
                                      clear H
                                      have hnb48 := NB223_221.out
                                      have hnc48 := NB221_223.out
                                      have hcz49_0 : wr.cell? ⟨gb223, 0, none⟩ = some (.int .u64 ((rd_T29 l0_1 x16_1).f0)) := (blk_cell BK223.out 0).trans rfl
                                      have hcz49_1 : wr.cell? ⟨gb223, 1, none⟩ = some (.slice A222_1 ((rd_T29 l0_1 x16_1).f1).length c222_1) := (blk_cell BK223.out 1).trans rfl
                                      have hcz49_2 : wr.cell? ⟨gb223, 2, none⟩ = some (.int .u64 ((rd_T29 l0_1 x16_1).f2)) := (blk_cell BK223.out 2).trans rfl
                                      have hfz49_0 := blk_frozen BK223.out 0
                                      have hfz49_1 := blk_frozen BK223.out 1
                                      have hfz49_2 := blk_frozen BK223.out 2
                                      have p36 : 0 ≤ ((ji33) : Int) := of_decide_eq_true (by first | (with_reducible assumption) | assumption)
                                      have q36 : ((ji33) : Int) < ((x6_4.length : Int) : Int) := of_decide_eq_true (by first | (with_reducible assumption) | assumption)
                                      obtain ⟨go36, co36, eo36, gb36, gl36, cl36, HG36⟩ := Kd.R_form HO_6.out (by omega)
                                      (first | cases eo36 | (injection eo36 with ea_ en_ ec_; (first | subst ea_ | (injection ea_ with ea_; subst ea_)); subst ec_; clear en_))
                                      have GB36 := Aside0.mk gb36
                                      have GG36 := Aside0.mk HG36
                                      clear gb36 gl36 HG36
                                      obtain ⟨hx36_0, hf36_0⟩ := Kd.R_celln 0 HO_6.out ((ji33) : Int) p36 q36
                                      replace p36 := eq_true p36
                                      replace q36 := eq_true q36
                                      have HP50 := Kd.R_putg HO_6.out ((ji33) : Int) 0
                                      go_wp2_with (first | ((with_reducible refine gate_store (t := 5) (p := 60) rfl ?_); refine store_event (t := 5) (p := 60) (v := ?vo_w51) (w1 := (wr.setCell ⟨go36, ((ji33) : Int).toNat, none⟩ (.int .u8 0))) ?hg ?ho ?hn ?hr ?_; (case ho => rfl); (case hg => rfl); (case hn => rfl); (case hr => first | (go_simp; done) | (go_simp; rfl)); intro w51 hw; have hg : wr.grownBy w51 (some go36) := (by rw [hw]; exact HP50.2); have hp_ : Kd.R (Kd.int .u8) 5 w51 w.heap.size (fun _ => True) (.slice (some ⟨go36, 0, none⟩) x6_4.length co29) y228 := (by rw [hw, Ny228.out]; exact HP50.1); clear HP50; have n0_ := Aside0.mk (hp_); have n1_ := Aside0.mk (blk_grown (g := gb221) (o := .cells #[.int .u64 a0_0, .slice (some ad222) l0_1.length c0_1] 25 (0, 0)) (by (with_reducible repeat (first | refine blk_drewN ?_ _ | refine blk_drew ?_ | refine blk_alloc ?_ _)); exact BK221.out) hg (Kd.R_ne HO_6.out BK221.out (by decide))); have n2_ := Aside0.mk (blk_grown (g := gb223) (o := .cells #[.int .u64 ((rd_T29 l0_1 x16_1).f0), .slice A222_1 ((rd_T29 l0_1 x16_1).f1).length c222_1, .int .u64 ((rd_T29 l0_1 x16_1).f2)] 29 (0, 0)) (by (with_reducible repeat (first | refine blk_drewN ?_ _ | refine blk_drew ?_ | refine blk_alloc ?_ _)); exact BK223.out) hg (Kd.R_ne HO_6.out BK223.out (by decide))); have n3_ := Aside0.mk ((by rw [hw]; exact below_set (HB.out) GB36.out : Below w.heap.size w w51)); clear HO_6; clear BK221; clear BK223; clear HB; have HO_6 := n0_; have BK221 := n1_; have BK223 := n2_; have HB := n3_; clear n0_ n1_ n2_ n3_; clear hg hw hp_; have hcz52_0 : w51.cell? ⟨gb223, 0, none⟩ = some (.int .u64 ((rd_T29 l0_1 x16_1).f0)) := (blk_cell BK223.out 0).trans rfl; have hcz52_1 : w51.cell? ⟨gb223, 1, none⟩ = some (.slice A222_1 ((rd_T29 l0_1 x16_1).f1).length c222_1) := (blk_cell BK223.out 1).trans rfl; have hcz52_2 : w51.cell? ⟨gb223, 2, none⟩ = some (.int .u64 ((rd_T29 l0_1 x16_1).f2)) := (blk_cell BK223.out 2).trans rfl; have hfz52_0 := blk_frozen BK223.out 0; have hfz52_1 := blk_frozen BK223.out 1; have hfz52_2 := blk_frozen BK223.out 2))
                                      (try simp only [← hl6_4])
                                      go_roundg k4
                                      case measure => have := HK1.out; have := HJ9.out; have := HK3.out; have := HK4.out; omega
                                      case rel => exact ⟨(y228), (IntKind.u64.wrap (x10_4 + 1)), (by first | rfl | (simp; done) | (simp [*]; done) | (exfalso; simp_all; done)), H', ⟨by have := HK1.out; have := HJ9.out; have := HK3.out; have := HK4.out; omega⟩, ⟨by (try simp only [hl6_4]); (with_reducible repeat (first | apply Kd.R_alloc | apply Kd.R_drewN | apply Kd.R_drew)); exact HO_6.out⟩, ⟨by (try simp only [hl6_4]); (with_reducible repeat (first | refine blk_drewN ?_ _ | refine blk_drew ?_ | refine blk_alloc ?_ _)); exact BK221.out⟩, ⟨by (try simp only [hl6_4]); (with_reducible repeat (first | refine blk_drewN ?_ _ | refine blk_drew ?_ | refine blk_alloc ?_ _)); exact BK223.out⟩, ⟨by repeat (first | (with_reducible first | exact HB.out | apply below_alloc | apply pw_below_drewN | apply below_drew1 | refine below_set ?_ GE221.out | refine below_set ?_ GE223.out) | exact HB.out)⟩⟩
                                  · rw [if_neg c35] at H
                                    exact absurd H (by simp)
                                · rw [if_neg c34] at H
                                  exact absurd H (by simp)
                              · rw [if_neg c32] at H
                                have c32b0 : decide (x10_4 < ((rd_T29 l0_1 x16_1).f2)) = false := decide_eq_false c32
                                clear c32
                                have H' := Aside0.mk H
                                clear H
                                have hnb53 := NB223_221.out
                                have hnc53 := NB221_223.out
                                have hcz54_0 : wr.cell? ⟨gb223, 0, none⟩ = some (.int .u64 ((rd_T29 l0_1 x16_1).f0)) := (blk_cell BK223.out 0).trans rfl
                                have hcz54_1 : wr.cell? ⟨gb223, 1, none⟩ = some (.slice A222_1 ((rd_T29 l0_1 x16_1).f1).length c222_1) := (blk_cell BK223.out 1).trans rfl
                                have hcz54_2 : wr.cell? ⟨gb223, 2, none⟩ = some (.int .u64 ((rd_T29 l0_1 x16_1).f2)) := (blk_cell BK223.out 2).trans rfl
                                have hfz54_0 := blk_frozen BK223.out 0
                                have hfz54_1 := blk_frozen BK223.out 1
                                have hfz54_2 := blk_frozen BK223.out 2
                                go_wp2
                                (try simp only [← hl6_4])
                                go_roundg k4
                                case measure => have := HK1.out; have := HJ9.out; have := HK3.out; have := HK4.out; omega
                                case rel => exact ⟨(x6_4), (wrap64 (x16_1 + 1)), (by first | rfl | (simp; done) | (simp [*]; done) | (exfalso; simp_all; done)), H', ⟨by have := HK1.out; have := HJ9.out; have := HK3.out; have := HK4.out; omega⟩, ⟨by (try simp only [hl6_4]); (with_reducible repeat (first | apply Kd.R_alloc | apply Kd.R_drewN | apply Kd.R_drew)); exact HO_6.out⟩, ⟨by (try simp only [hl6_4]); (with_reducible repeat (first | refine blk_drewN ?_ _ | refine blk_drew ?_ | refine blk_alloc ?_ _)); exact BK221.out⟩, ⟨by repeat (first | (with_reducible first | exact HB.out | apply below_alloc | apply pw_below_drewN | apply below_drew1 | refine below_set ?_ GE221.out | refine below_set ?_ GE223.out) | exact HB.out)⟩⟩
            · rw [if_neg c9] at H
              exact absurd H (by simp)
          · rw [if_neg c8] at H
            exact absurd H (by simp)
        · rw [if_neg c7] at H
          have c7b0 : decide (x16_1 < (l0_1.length : Int)) = false := decide_eq_false c7
          clear c7
          simp only [Option.some.injEq, Prod.mk.injEq] at H
          obtain ⟨rfl, rfl⟩ := H
          go_wp2
          go_ret2
          exact ⟨_, by first | rfl | (simp [errW_none, errW_some] <;> rfl) | (simp [*, errW_none, errW_some] <;> rfl) | (exfalso; simp_all; done), by (with_reducible repeat (first | apply Kd.R_alloc | apply Kd.R_drewN | apply Kd.R_drew)); exact HO_6.out, by repeat (first | (with_reducible first | exact HB.out | apply below_alloc | apply pw_below_drewN | apply below_drew1 | refine below_set ?_ GE221.out) | exact HB.out)⟩

/-! ### vireoref02_Bytes: function 8 -/
def vireoref02_Bytes.l0 : Nat → List Int → List Int → Int → Option (Bool)
  | 0, _, _, _ => none
  | k + 1, x0, x1, x5 => if x5 < (x0.length : Int) then (if 0 ≤ x5 then (if x5 < (x1.length : Int) then (if (rd x0 x5) = (rd x1 x5) then (vireoref02_Bytes.l0 k x0 x1 (wrap64 (x5 + 1))) else (some false)) else (none)) else (none)) else (some true)
def vireoref02_Bytes.f (k : Nat) (l0 : List Int) (l1 : List Int) : Option (Bool) := if (l0.length : Int) = (l1.length : Int) then (vireoref02_Bytes.l0 k l0 l1 0) else (some false)
theorem vireoref02_Bytes.mono_l : ∀ k, (∀ y0 y1 y2, LeO (vireoref02_Bytes.l0 k y0 y1 y2) (vireoref02_Bytes.l0 (k + 1) y0 y1 y2))
  | 0 => fun _ _ _ r h => by simp [vireoref02_Bytes.l0] at h
  | k + 1 => by
    have ih0 := vireoref02_Bytes.mono_l k
    · intro y0 y1 y2
      unfold vireoref02_Bytes.l0
      repeat' first
      | (with_reducible exact ih0 _ _ _)
      | (with_reducible exact LeO.refl _)
      | (with_reducible exact LeO.none _)
      | (with_reducible refine LeO.ite ?_ ?_)
      | (with_reducible refine LeO.bind ?_ (fun _ => ?_))
      | exact ih0 _ _ _
      | exact LeO.none _
      | refine LeO.ite ?_ ?_
      | refine LeO.bind ?_ (fun _ => ?_)
theorem vireoref02_Bytes.mono : ∀ a0 a1 k, LeO (vireoref02_Bytes.f k a0 a1) (vireoref02_Bytes.f (k + 1) a0 a1) := by
  intro a0 a1 k
  have ih0 := vireoref02_Bytes.mono_l k
  unfold vireoref02_Bytes.f
  repeat' first
      | (with_reducible exact ih0 _ _ _)
      | (with_reducible exact LeO.refl _)
      | (with_reducible exact LeO.none _)
      | (with_reducible refine LeO.ite ?_ ?_)
      | (with_reducible refine LeO.bind ?_ (fun _ => ?_))
      | exact ih0 _ _ _
      | exact LeO.none _
      | refine LeO.ite ?_ ?_
      | refine LeO.bind ?_ (fun _ => ?_)
set_option maxHeartbeats 8000000 in
set_option maxRecDepth 100000 in
theorem vireoref02_Bytes.calls (k : Nat) (A0 : Option Addr) (c0 : Nat) (l0 : List Int) (A1 : Option Addr) (c1 : Nat) (l1 : List Int) (r : Bool) (w : World) (hr0 : Kd.C (Kd.int .u8) w A0 l0.length l0) (hc0 : l0.length ≤ c0) (hr1 : Kd.C (Kd.int .u8) w A1 l1.length l1) (hc1 : l1.length ≤ c1) (h : vireoref02_Bytes.f k l0 l1 = some r) :
    Calls Try.prog 8 #[.slice A0 l0.length c0, .slice A1 l1.length c1] w fun e w' => e = .returned (.bool r) ∧ Drawn0 w w' := by
  have HR0 := Aside0.mk hr0
  have HC0 := Aside0.mk hc0
  clear hr0 hc0
  have HR1 := Aside0.mk hr1
  have HC1 := Aside0.mk hc1
  clear hr1 hc1
  have H : (if (l0.length : Int) = (l1.length : Int) then (vireoref02_Bytes.l0 k l0 l1 0) else (some false)) = some r := h
  clear h
  by_cases c3 : (l0.length : Int) = (l1.length : Int)
  · rw [if_pos c3] at H
    have c3b0 : ((l0.length : Int) == (l1.length : Int)) = true := beq_iff_eq.mpr c3
    have c3b1 : ((l0.length : Int) != (l1.length : Int)) = false := bne_eq_false_iff_eq.mpr c3
    have c3b2 : (l0.length == l1.length) = true := by first | simpa using c3 | (simp at c3 ⊢; omega)
    clear c3
    have H' := Aside0.mk H
    clear H
    go_enter Try.func8, Try.ntmps8
    go_wp2
    repeat (go_quiet (fail); try go_wp2)
    go_loopg [5] k (fun kq v5 w' => ∃ (x5_1 : Int), v5 = .int .i64 x5_1 ∧ Aside0 (vireoref02_Bytes.l0 kq l0 l1 x5_1 = some r) ∧ Aside0 (kq ≤ k) ∧ Drawn0 w w')
    case atStart => exact ⟨(0), (by first | rfl | (simp; done) | (simp [*]; done) | (exfalso; simp_all; done)), H', ⟨Nat.le_refl _⟩, by repeat (first | exact Drawn0.refl _ | apply Drawn0.step)⟩
    case round =>
      clear H'
      try clear c1
      try clear p2
      try clear c3
      try clear c3b0
      try clear c3b1
      try clear c3b2
      obtain ⟨x5_1, rfl, HA, HK1, ⟨m1, rfl⟩⟩ := hrel
      cases gk with
      | zero => exact absurd HA.out (by simp [vireoref02_Bytes.l0])
      | succ k1 =>
        have H := HA.out
        clear HA
        simp only [vireoref02_Bytes.l0] at H
        by_cases c4 : x5_1 < (l0.length : Int)
        · rw [if_pos c4] at H
          have c4b0 : decide (x5_1 < (l0.length : Int)) = true := decide_eq_true c4
          clear c4
          by_cases c5 : 0 ≤ x5_1
          · rw [if_pos c5] at H
            have c5b0 : decide (0 ≤ x5_1) = true := decide_eq_true c5
            clear c5
            by_cases c6 : x5_1 < (l1.length : Int)
            · rw [if_pos c6] at H
              have c6b0 : decide (x5_1 < (l1.length : Int)) = true := decide_eq_true c6
              clear c6
              by_cases c7 : (rd l0 x5_1) = (rd l1 x5_1)
              · rw [if_pos c7] at H
                have c7b0 : ((rd l0 x5_1) == (rd l1 x5_1)) = true := beq_iff_eq.mpr c7
                have c7b1 : ((rd l0 x5_1) != (rd l1 x5_1)) = false := bne_eq_false_iff_eq.mpr c7
                clear c7
                have H' := Aside0.mk H
                clear H
                have p231 : 0 ≤ (x5_1 : Int) := of_decide_eq_true (by first | (with_reducible assumption) | assumption)
                have q231 : x5_1 < (l0.length : Int) := of_decide_eq_true (by first | (with_reducible assumption) | assumption)
                obtain ⟨ad231, e231, hx231_0⟩ := Kd.at_int HR0.out x5_1 p231 q231
                cases e231
                replace p231 := eq_true p231
                replace q231 := eq_true q231
                have p232 : 0 ≤ (x5_1 : Int) := of_decide_eq_true (by first | (with_reducible assumption) | assumption)
                have q232 : x5_1 < (l1.length : Int) := of_decide_eq_true (by first | (with_reducible assumption) | assumption)
                obtain ⟨ad232, e232, hx232_0⟩ := Kd.at_int HR1.out x5_1 p232 q232
                cases e232
                replace p232 := eq_true p232
                replace q232 := eq_true q232
                go_wp2
                repeat (go_quiet (fail); try go_wp2)
                go_roundg k1
                case measure => have := HK1.out; omega
                case rel => exact ⟨(wrap64 (x5_1 + 1)), (by first | rfl | (simp; done) | (simp [*]; done) | (exfalso; simp_all; done)), H', ⟨by have := HK1.out; omega⟩, by repeat (first | exact Drawn0.refl _ | apply Drawn0.step)⟩
              · rw [if_neg c7] at H
                have c7b0 : ((rd l0 x5_1) == (rd l1 x5_1)) = false := beq_eq_false_iff_ne.mpr c7
                have c7b1 : ((rd l0 x5_1) != (rd l1 x5_1)) = true := bne_iff_ne.mpr c7
                obtain rfl := Option.some.inj H
                have p231 : 0 ≤ (x5_1 : Int) := of_decide_eq_true (by first | (with_reducible assumption) | assumption)
                have q231 : x5_1 < (l0.length : Int) := of_decide_eq_true (by first | (with_reducible assumption) | assumption)
                obtain ⟨ad231, e231, hx231_0⟩ := Kd.at_int HR0.out x5_1 p231 q231
                cases e231
                replace p231 := eq_true p231
                replace q231 := eq_true q231
                have p232 : 0 ≤ (x5_1 : Int) := of_decide_eq_true (by first | (with_reducible assumption) | assumption)
                have q232 : x5_1 < (l1.length : Int) := of_decide_eq_true (by first | (with_reducible assumption) | assumption)
                obtain ⟨ad232, e232, hx232_0⟩ := Kd.at_int HR1.out x5_1 p232 q232
                cases e232
                replace p232 := eq_true p232
                replace q232 := eq_true q232
                go_wp2
                repeat (go_quiet (fail); try go_wp2)
                go_ret
                exact ⟨by first | rfl | (simp; done) | (simp [*]; done) | (exfalso; simp_all; done), by repeat (first | exact Drawn0.refl _ | apply Drawn0.step)⟩
            · rw [if_neg c6] at H
              exact absurd H (by simp)
          · rw [if_neg c5] at H
            exact absurd H (by simp)
        · rw [if_neg c4] at H
          have c4b0 : decide (x5_1 < (l0.length : Int)) = false := decide_eq_false c4
          clear c4
          obtain rfl := Option.some.inj H
          go_wp2
          repeat (go_quiet (fail); try go_wp2)
          go_ret
          exact ⟨by first | rfl | (simp; done) | (simp [*]; done) | (exfalso; simp_all; done), by repeat (first | exact Drawn0.refl _ | apply Drawn0.step)⟩
  · rw [if_neg c3] at H
    have c3b0 : ((l0.length : Int) == (l1.length : Int)) = false := beq_eq_false_iff_ne.mpr c3
    have c3b1 : ((l0.length : Int) != (l1.length : Int)) = true := bne_iff_ne.mpr c3
    have c3b2 : (l0.length == l1.length) = false := by first | simpa using c3 | (simp at c3 ⊢; omega)
    obtain rfl := Option.some.inj H
    go_enter Try.func8, Try.ntmps8
    go_wp2
    repeat (go_quiet (fail); try go_wp2)
    go_ret
    exact ⟨by first | rfl | (simp; done) | (simp [*]; done) | (exfalso; simp_all; done), by repeat (first | exact Drawn0.refl _ | apply Drawn0.step)⟩

-- NOT PRINTED: function 35 (ram_RAM_set)

-- NOT PRINTED: function 36 (ram_RAM_wrote)

-- NOT PRINTED: function 20 (ram_RAM_Write)

-- NOT PRINTED: function 21 (disk_Disk_Fill)
end Go.Proofs.Ytnompdckpenfgaa.PAl
