-- Laid by this seat's own program (wip/tools/pp.sh, a turned copy of the kit's print). Lean checks it.
import Derived.Test.YtpodgoceheoogaaPFix0
import Derived.Test.YtpodgoceheoogaaPFix1
import Derived.Test.YtpodgoceheoogaaPFix2
import Derived.Test.YtpodgoceheoogaaPFix7
namespace Go.Proofs.Ytpodgoceheoogaa.PFi
open Go.RowKit Go.Proofs.YtpodgoceheoogaaW.PrintWords Go.Proofs.YtpodgoceheoogaaW.PrintLast Go.Proofs.YtpodgoceheoogaaW.PrintMore
attribute [local go_sem] max2_int min2_int max_two min_two max_three min_three max_four min_four   -- for this text's walks alone
set_option linter.unusedVariables false
set_option linter.unusedSimpArgs false

/-! ### vireolaw11_ClintBack: function 5 -/
def vireolaw11_ClintBack.j0 : Nat → Int → Int → Bool → Bool → Int → Int → Option (Bool)
  | 0, _, _, _, _, _, _ => none
  | k + 1, x0, x1, x28, x237000, x237001, x237002 => if x28 = true then (some false) else ((clint_Clint_Load.f x237000 x237001 x237002 16384 8).bind fun bt249 => ((clint_Clint_Load.f x237000 x237001 x237002 49144 4).bind fun bt251 => ((clint_Clint_Load.f x237000 x237001 x237002 49148 4).bind fun bt253 => (if bt249.1 = x1 then (if (Go.bits .or .u64 bt251.1 (IntKind.u64.wrap (bt253.1 * 4294967296))) = x0 then ((clint_Clint_Lines.f x237000 x237001 x237002).bind fun t255 => ((vireolaw11_flag.f (decide (x0 ≥ x1))).bind fun t256 => (some ((t255 / 128) == t256)))) else (some false)) else (some false)))))
def vireolaw11_ClintBack.f (k : Nat) (a0 : Int) (a1 : Int) : Option (Bool) := (vireolaw11_awake.f).bind fun t232 => (if t232 = true then ((clint_Begin.f).bind fun bt233 => ((clint_Clint_Store.f bt233.1 bt233.2.1 bt233.2.2 49144 8 a0).bind fun bt237 => (if bt237.1 = true then ((clint_Clint_Store.f bt237.2.1 bt237.2.2.1 bt237.2.2.2 16384 4 a1).bind fun bt241 => (if bt241.1 = true then ((clint_Clint_Store.f bt241.2.1 bt241.2.2.1 bt241.2.2.2 16388 4 (a1 / 4294967296)).bind fun bt245 => (vireolaw11_ClintBack.j0 k a0 a1 (!bt245.1) bt245.2.1 bt245.2.2.1 bt245.2.2.2)) else (vireolaw11_ClintBack.j0 k a0 a1 true bt241.2.1 bt241.2.2.1 bt241.2.2.2))) else (vireolaw11_ClintBack.j0 k a0 a1 true bt237.2.1 bt237.2.2.1 bt237.2.2.2)))) else (some false))
theorem vireolaw11_ClintBack.mono_l : ∀ k, (∀ y0 y1 y2 y3 y4 y5, LeO (vireolaw11_ClintBack.j0 k y0 y1 y2 y3 y4 y5) (vireolaw11_ClintBack.j0 (k + 1) y0 y1 y2 y3 y4 y5))
  | 0 => fun _ _ _ _ _ _ r h => by simp [vireolaw11_ClintBack.j0] at h
  | k + 1 => by
    have ih0 := vireolaw11_ClintBack.mono_l k
    · intro y0 y1 y2 y3 y4 y5
      unfold vireolaw11_ClintBack.j0
      repeat' first
      | (with_reducible exact ih0 _ _ _ _ _ _)
      | (with_reducible exact LeO.refl _)
      | (with_reducible exact LeO.none _)
      | (with_reducible refine LeO.ite ?_ ?_)
      | (with_reducible refine LeO.bind ?_ (fun _ => ?_))
      | exact ih0 _ _ _ _ _ _
      | exact LeO.none _
      | refine LeO.ite ?_ ?_
      | refine LeO.bind ?_ (fun _ => ?_)
theorem vireolaw11_ClintBack.mono : ∀ a0 a1 k, LeO (vireolaw11_ClintBack.f k a0 a1) (vireolaw11_ClintBack.f (k + 1) a0 a1) := by
  intro a0 a1 k
  have ih0 := vireolaw11_ClintBack.mono_l k
  unfold vireolaw11_ClintBack.f
  repeat' first
      | (with_reducible exact ih0 _ _ _ _ _ _)
      | (with_reducible exact LeO.refl _)
      | (with_reducible exact LeO.none _)
      | (with_reducible refine LeO.ite ?_ ?_)
      | (with_reducible refine LeO.bind ?_ (fun _ => ?_))
      | exact ih0 _ _ _ _ _ _
      | exact LeO.none _
      | refine LeO.ite ?_ ?_
      | refine LeO.bind ?_ (fun _ => ?_)
set_option maxHeartbeats 8000000 in
set_option maxRecDepth 100000 in
theorem vireolaw11_ClintBack.calls (k : Nat) (a0 : Int) (a1 : Int) (r : Bool) (w : World) (h : vireolaw11_ClintBack.f k a0 a1 = some r) :
    Calls Try.prog 5 #[.int .u64 a0, .int .u64 a1] w fun e w' => e = .returned (.bool r) ∧ Below w.heap.size w w' := by
  have hu26 := Try.underlying26
  have HB := Aside0.mk (Below.refl w.heap.size w)
  have H : ((vireolaw11_awake.f).bind fun t232 => (if t232 = true then ((clint_Begin.f).bind fun bt233 => ((clint_Clint_Store.f bt233.1 bt233.2.1 bt233.2.2 49144 8 a0).bind fun bt237 => (if bt237.1 = true then ((clint_Clint_Store.f bt237.2.1 bt237.2.2.1 bt237.2.2.2 16384 4 a1).bind fun bt241 => (if bt241.1 = true then ((clint_Clint_Store.f bt241.2.1 bt241.2.2.1 bt241.2.2.2 16388 4 (a1 / 4294967296)).bind fun bt245 => (vireolaw11_ClintBack.j0 k a0 a1 (!bt245.1) bt245.2.1 bt245.2.2.1 bt245.2.2.2)) else (vireolaw11_ClintBack.j0 k a0 a1 true bt241.2.1 bt241.2.2.1 bt241.2.2.2))) else (vireolaw11_ClintBack.j0 k a0 a1 true bt237.2.1 bt237.2.2.1 bt237.2.2.2)))) else (some false))) = some r := h
  clear h
  replace H := Option.bind_eq_some_iff.mp H
  obtain ⟨t232, A30, H⟩ := H
  replace H : (if t232 = true then ((clint_Begin.f).bind fun bt233 => ((clint_Clint_Store.f bt233.1 bt233.2.1 bt233.2.2 49144 8 a0).bind fun bt237 => (if bt237.1 = true then ((clint_Clint_Store.f bt237.2.1 bt237.2.2.1 bt237.2.2.2 16384 4 a1).bind fun bt241 => (if bt241.1 = true then ((clint_Clint_Store.f bt241.2.1 bt241.2.2.1 bt241.2.2.2 16388 4 (a1 / 4294967296)).bind fun bt245 => (vireolaw11_ClintBack.j0 k a0 a1 (!bt245.1) bt245.2.1 bt245.2.2.1 bt245.2.2.2)) else (vireolaw11_ClintBack.j0 k a0 a1 true bt241.2.1 bt241.2.2.1 bt241.2.2.2))) else (vireolaw11_ClintBack.j0 k a0 a1 true bt237.2.1 bt237.2.2.1 bt237.2.2.2)))) else (some false)) = some r := H
  have A3 := Aside0.mk A30
  clear A30
  by_cases c4 : t232 = true
  · subst c4
    have H1 : ((clint_Begin.f).bind fun bt233 => ((clint_Clint_Store.f bt233.1 bt233.2.1 bt233.2.2 49144 8 a0).bind fun bt237 => (if bt237.1 = true then ((clint_Clint_Store.f bt237.2.1 bt237.2.2.1 bt237.2.2.2 16384 4 a1).bind fun bt241 => (if bt241.1 = true then ((clint_Clint_Store.f bt241.2.1 bt241.2.2.1 bt241.2.2.2 16388 4 (a1 / 4294967296)).bind fun bt245 => (vireolaw11_ClintBack.j0 k a0 a1 (!bt245.1) bt245.2.1 bt245.2.2.1 bt245.2.2.2)) else (vireolaw11_ClintBack.j0 k a0 a1 true bt241.2.1 bt241.2.2.1 bt241.2.2.2))) else (vireolaw11_ClintBack.j0 k a0 a1 true bt237.2.1 bt237.2.2.1 bt237.2.2.2)))) = some r := by rw [if_pos rfl] at H; exact H
    clear H
    have H := H1
    clear H1
    replace H := Option.bind_eq_some_iff.mp H
    obtain ⟨⟨t233, t234, t235⟩, A50, H⟩ := H
    replace H : ((clint_Clint_Store.f t233 t234 t235 49144 8 a0).bind fun bt237 => (if bt237.1 = true then ((clint_Clint_Store.f bt237.2.1 bt237.2.2.1 bt237.2.2.2 16384 4 a1).bind fun bt241 => (if bt241.1 = true then ((clint_Clint_Store.f bt241.2.1 bt241.2.2.1 bt241.2.2.2 16388 4 (a1 / 4294967296)).bind fun bt245 => (vireolaw11_ClintBack.j0 k a0 a1 (!bt245.1) bt245.2.1 bt245.2.2.1 bt245.2.2.2)) else (vireolaw11_ClintBack.j0 k a0 a1 true bt241.2.1 bt241.2.2.1 bt241.2.2.2))) else (vireolaw11_ClintBack.j0 k a0 a1 true bt237.2.1 bt237.2.2.1 bt237.2.2.2))) = some r := H
    have A5 := Aside0.mk A50
    clear A50
    have HC6 := Aside0.mk H
    clear H
    go_enter Try.func5, Try.ntmps5
    go_upto_region 4 with (first | ((with_reducible refine gate_callee (f := 7) rfl ?_); refine goesL_ (some 12) rfl rfl Try.func7 (by kernel_rfl) rfl #[] rfl (by (try simp only [List.map_toArray, List.map_cons, List.map_nil]); first | done | rfl | (simp only [List.length_drop, List.length_take]; rfl)) ?_; (with_reducible refine (vireolaw11_awake.calls  true _ A3.out).mono ?_); rintro e w7 ⟨rfl, hb⟩; refine ⟨_, rfl, ?_⟩; have n0_ := Aside0.mk (below_step (by repeat (first | (with_reducible first | exact HB.out | apply below_alloc | apply pw_below_drewN | apply below_drew1) | exact HB.out)) hb); clear HB; have HB := n0_; clear n0_; (try clear hb); (try clear hb2); (try clear hk); (try clear hi)) | ((with_reducible refine gate_callee (f := 8) rfl ?_); refine goesL_ (some 14) rfl rfl Try.func8 (by kernel_rfl) rfl #[] rfl (by (try simp only [List.map_toArray, List.map_cons, List.map_nil]); first | done | rfl | (simp only [List.length_drop, List.length_take]; rfl)) ?_; (with_reducible refine (clint_Begin.calls  t233 t234 t235 _ A5.out).mono ?_); rintro e w8 ⟨rfl, hb⟩; refine ⟨_, rfl, ?_⟩; have n0_ := Aside0.mk (below_step (by repeat (first | (with_reducible first | exact HB.out | apply below_alloc | apply pw_below_drewN | apply below_drew1) | exact HB.out)) hb); clear HB; have HB := n0_; clear n0_; (try clear hb); (try clear hb2); (try clear hk); (try clear hi)) | ((with_reducible refine gate_dst (N := 5) rfl ?_); refine box_event ?hg (N := 5) ?hd (cs := #[.bool false, .int .u64 0, .int .u64 0]) (t := 26) ?hr ?_; (case hd => rfl); (case hg => rfl); (case hr => first | (go_simp; done) | (go_simp; rfl)); intro gb236 hg w9 hbox hb; have n0_ := Aside0.mk (below_step (by repeat (first | (with_reducible first | exact HB.out | apply below_alloc | apply pw_below_drewN | apply below_drew1) | exact HB.out)) hb); have n1_ := Aside0.mk (hbox); have n2_ := Aside0.mk ((by rw [hg]; exact (below_size (by repeat (first | (with_reducible first | exact HB.out | apply below_alloc | apply pw_below_drewN | apply below_drew1) | exact HB.out))) : w.heap.size ≤ gb236)); have n3_ := Aside0.mk ((by rw [hg]; exact (below_size (by repeat (first | (with_reducible first | exact HB.out | apply below_alloc | apply pw_below_drewN | apply below_drew1) | exact HB.out))) : w.heap.size ≤ gb236)); clear HB; have HB := n0_; have BK236 := n1_; have GW236 := n2_; have GE236 := n3_; clear n0_ n1_ n2_ n3_; clear hb hbox hg; have hcz10_0 : w9.cell? ⟨gb236, 0, none⟩ = some (.bool false) := (blk_cell BK236.out 0).trans rfl; have hcz10_1 : w9.cell? ⟨gb236, 1, none⟩ = some (.int .u64 0) := (blk_cell BK236.out 1).trans rfl; have hcz10_2 : w9.cell? ⟨gb236, 2, none⟩ = some (.int .u64 0) := (blk_cell BK236.out 2).trans rfl; have hfz10_0 := blk_frozen BK236.out 0; have hfz10_1 := blk_frozen BK236.out 1; have hfz10_2 := blk_frozen BK236.out 2))
    (try simp only [Act.put, List.setIfInBounds_toArray, List.set_cons_zero, List.set_cons_succ])
    go_cut [28] (fun v28 wc => ∃ (kq : Nat) (x28_5 : Bool) (x237000_5 : Bool) (x237001_5 : Int) (x237002_5 : Int), v28 = .bool x28_5 ∧ Aside0 (vireolaw11_ClintBack.j0 kq a0 a1 x28_5 x237000_5 x237001_5 x237002_5 = some r) ∧ Aside0 (kq ≤ k) ∧ Aside0 (wc.heap[gb236]? = some (.cells #[.bool x237000_5, .int .u64 x237001_5, .int .u64 x237002_5] 26 (0, 0))) ∧ Aside0 (Below w.heap.size w wc))
    case first =>
      have H := HC6.out
      clear HC6
      replace H := Option.bind_eq_some_iff.mp H
      obtain ⟨⟨t237, t238, t239, t240⟩, A110, H⟩ := H
      replace H : (if t237 = true then ((clint_Clint_Store.f t238 t239 t240 16384 4 a1).bind fun bt241 => (if bt241.1 = true then ((clint_Clint_Store.f bt241.2.1 bt241.2.2.1 bt241.2.2.2 16388 4 (a1 / 4294967296)).bind fun bt245 => (vireolaw11_ClintBack.j0 k a0 a1 (!bt245.1) bt245.2.1 bt245.2.2.1 bt245.2.2.2)) else (vireolaw11_ClintBack.j0 k a0 a1 true bt241.2.1 bt241.2.2.1 bt241.2.2.2))) else (vireolaw11_ClintBack.j0 k a0 a1 true t238 t239 t240)) = some r := H
      have A11 := Aside0.mk A110
      clear A110
      by_cases c12 : t237 = true
      · subst c12
        have H1 : ((clint_Clint_Store.f t238 t239 t240 16384 4 a1).bind fun bt241 => (if bt241.1 = true then ((clint_Clint_Store.f bt241.2.1 bt241.2.2.1 bt241.2.2.2 16388 4 (a1 / 4294967296)).bind fun bt245 => (vireolaw11_ClintBack.j0 k a0 a1 (!bt245.1) bt245.2.1 bt245.2.2.1 bt245.2.2.2)) else (vireolaw11_ClintBack.j0 k a0 a1 true bt241.2.1 bt241.2.2.1 bt241.2.2.2))) = some r := by rw [if_pos rfl] at H; exact H
        clear H
        have H := H1
        clear H1
        replace H := Option.bind_eq_some_iff.mp H
        obtain ⟨⟨t241, t242, t243, t244⟩, A130, H⟩ := H
        replace H : (if t241 = true then ((clint_Clint_Store.f t242 t243 t244 16388 4 (a1 / 4294967296)).bind fun bt245 => (vireolaw11_ClintBack.j0 k a0 a1 (!bt245.1) bt245.2.1 bt245.2.2.1 bt245.2.2.2)) else (vireolaw11_ClintBack.j0 k a0 a1 true t242 t243 t244)) = some r := H
        have A13 := Aside0.mk A130
        clear A130
        by_cases c14 : t241 = true
        · subst c14
          have H1 : ((clint_Clint_Store.f t242 t243 t244 16388 4 (a1 / 4294967296)).bind fun bt245 => (vireolaw11_ClintBack.j0 k a0 a1 (!bt245.1) bt245.2.1 bt245.2.2.1 bt245.2.2.2)) = some r := by rw [if_pos rfl] at H; exact H
          clear H
          have H := H1
          clear H1
          replace H := Option.bind_eq_some_iff.mp H
          obtain ⟨⟨t245, t246, t247, t248⟩, A150, H⟩ := H
          replace H : (vireolaw11_ClintBack.j0 k a0 a1 (!t245) t246 t247 t248) = some r := H
          have A15 := Aside0.mk A150
          clear A150
          have H' := Aside0.mk H
          clear H
          go_wp2_with (first | ((with_reducible refine gate_callee (f := 9) rfl ?_); refine goesL_ (some 16) rfl rfl Try.func9 (by kernel_rfl) rfl #[.pointer (some ⟨gb236, 0, none⟩), .int .u64 49144, .int .i64 8, .int .u64 a0] rfl (by (try simp only [List.map_toArray, List.map_cons, List.map_nil]); first | done | rfl | (simp only [List.length_drop, List.length_take]; rfl)) ?_; (with_reducible refine (clint_Clint_Store.calls gb236 t233 t234 t235 49144 8 a0 true t238 t239 t240 w _ ?side1 ?side2 A11.out).mono ?_); (case side1 => exact ⟨(by (with_reducible repeat (first | refine blk_drewN ?_ _ | refine blk_drew ?_ | refine blk_alloc ?_ _)); refine blk_put (cs := #[.bool t233, .int .u64 t234, .int .u64 0]) ?_ 2 _ rfl; (with_reducible repeat (first | refine blk_drewN ?_ _ | refine blk_drew ?_ | refine blk_alloc ?_ _)); refine blk_put (cs := #[.bool t233, .int .u64 0, .int .u64 0]) ?_ 1 _ rfl; (with_reducible repeat (first | refine blk_drewN ?_ _ | refine blk_drew ?_ | refine blk_alloc ?_ _)); refine blk_put (cs := #[.bool false, .int .u64 0, .int .u64 0]) ?_ 0 _ rfl; (with_reducible repeat (first | refine blk_drewN ?_ _ | refine blk_drew ?_ | refine blk_alloc ?_ _)); exact BK236.out), GE236.out⟩); (case side2 => repeat (first | (with_reducible first | exact HB.out | apply below_alloc | apply pw_below_drewN | apply below_drew1 | refine below_set ?_ GE236.out) | exact HB.out)); rintro e w16 ⟨rfl, hi, hb, hk⟩; refine ⟨_, rfl, ?_⟩; have n0_ := Aside0.mk (hb); have n1_ := Aside0.mk (hi.1); clear HB; clear BK236; have HB := n0_; have BK236 := n1_; clear n0_ n1_; (try clear hb); (try clear hb2); (try clear hk); (try clear hi)) | (go_at_call 9; (with_reducible refine (clint_Clint_Store.calls gb236 t238 t239 t240 16384 4 a1 true t242 t243 t244 w _ ?side1 ?side2 A13.out).mono ?_); (case side1 => exact ⟨(by (with_reducible repeat (first | refine blk_drewN ?_ _ | refine blk_drew ?_ | refine blk_alloc ?_ _)); exact BK236.out), GE236.out⟩); (case side2 => repeat (first | (with_reducible first | exact HB.out | apply below_alloc | apply pw_below_drewN | apply below_drew1 | refine below_set ?_ GE236.out) | exact HB.out)); rintro e w17 ⟨rfl, hi, hb, hk⟩; have n0_ := Aside0.mk (hb); have n1_ := Aside0.mk (hi.1); clear HB; clear BK236; have HB := n0_; have BK236 := n1_; clear n0_ n1_; (try clear hb); (try clear hb2); (try clear hk); (try clear hi)) | (go_at_call 9; (with_reducible refine (clint_Clint_Store.calls gb236 t242 t243 t244 16388 4 (a1 / 4294967296) t245 t246 t247 t248 w _ ?side1 ?side2 A15.out).mono ?_); (case side1 => exact ⟨(by (with_reducible repeat (first | refine blk_drewN ?_ _ | refine blk_drew ?_ | refine blk_alloc ?_ _)); exact BK236.out), GE236.out⟩); (case side2 => repeat (first | (with_reducible first | exact HB.out | apply below_alloc | apply pw_below_drewN | apply below_drew1 | refine below_set ?_ GE236.out) | exact HB.out)); rintro e w18 ⟨rfl, hi, hb, hk⟩; have n0_ := Aside0.mk (hb); have n1_ := Aside0.mk (hi.1); clear HB; clear BK236; have HB := n0_; have BK236 := n1_; clear n0_ n1_; (try clear hb); (try clear hb2); (try clear hk); (try clear hi)))
          go_meet
          case rel => exact ⟨_, (!t245), (t246), (t247), (t248), (by first | rfl | (simp; done) | (simp [*]; done) | (exfalso; simp_all; done)), H', ⟨by first | omega | exact Nat.le_refl _⟩, ⟨by (with_reducible repeat (first | refine blk_drewN ?_ _ | refine blk_drew ?_ | refine blk_alloc ?_ _)); exact BK236.out⟩, ⟨by repeat (first | (with_reducible first | exact HB.out | apply below_alloc | apply pw_below_drewN | apply below_drew1 | refine below_set ?_ GE236.out) | exact HB.out)⟩⟩
        · replace c14 := Bool.eq_false_iff.mpr c14
          subst c14
          have H1 : (vireolaw11_ClintBack.j0 k a0 a1 true t242 t243 t244) = some r := by rw [if_neg (show ¬ (false = true) by decide)] at H; exact H
          clear H
          have H := H1
          clear H1
          have H' := Aside0.mk H
          clear H
          go_wp2_with (first | ((with_reducible refine gate_callee (f := 9) rfl ?_); refine goesL_ (some 16) rfl rfl Try.func9 (by kernel_rfl) rfl #[.pointer (some ⟨gb236, 0, none⟩), .int .u64 49144, .int .i64 8, .int .u64 a0] rfl (by (try simp only [List.map_toArray, List.map_cons, List.map_nil]); first | done | rfl | (simp only [List.length_drop, List.length_take]; rfl)) ?_; (with_reducible refine (clint_Clint_Store.calls gb236 t233 t234 t235 49144 8 a0 true t238 t239 t240 w _ ?side1 ?side2 A11.out).mono ?_); (case side1 => exact ⟨(by (with_reducible repeat (first | refine blk_drewN ?_ _ | refine blk_drew ?_ | refine blk_alloc ?_ _)); refine blk_put (cs := #[.bool t233, .int .u64 t234, .int .u64 0]) ?_ 2 _ rfl; (with_reducible repeat (first | refine blk_drewN ?_ _ | refine blk_drew ?_ | refine blk_alloc ?_ _)); refine blk_put (cs := #[.bool t233, .int .u64 0, .int .u64 0]) ?_ 1 _ rfl; (with_reducible repeat (first | refine blk_drewN ?_ _ | refine blk_drew ?_ | refine blk_alloc ?_ _)); refine blk_put (cs := #[.bool false, .int .u64 0, .int .u64 0]) ?_ 0 _ rfl; (with_reducible repeat (first | refine blk_drewN ?_ _ | refine blk_drew ?_ | refine blk_alloc ?_ _)); exact BK236.out), GE236.out⟩); (case side2 => repeat (first | (with_reducible first | exact HB.out | apply below_alloc | apply pw_below_drewN | apply below_drew1 | refine below_set ?_ GE236.out) | exact HB.out)); rintro e w19 ⟨rfl, hi, hb, hk⟩; refine ⟨_, rfl, ?_⟩; have n0_ := Aside0.mk (hb); have n1_ := Aside0.mk (hi.1); clear HB; clear BK236; have HB := n0_; have BK236 := n1_; clear n0_ n1_; (try clear hb); (try clear hb2); (try clear hk); (try clear hi)) | (go_at_call 9; (with_reducible refine (clint_Clint_Store.calls gb236 t238 t239 t240 16384 4 a1 false t242 t243 t244 w _ ?side1 ?side2 A13.out).mono ?_); (case side1 => exact ⟨(by (with_reducible repeat (first | refine blk_drewN ?_ _ | refine blk_drew ?_ | refine blk_alloc ?_ _)); exact BK236.out), GE236.out⟩); (case side2 => repeat (first | (with_reducible first | exact HB.out | apply below_alloc | apply pw_below_drewN | apply below_drew1 | refine below_set ?_ GE236.out) | exact HB.out)); rintro e w20 ⟨rfl, hi, hb, hk⟩; have n0_ := Aside0.mk (hb); have n1_ := Aside0.mk (hi.1); clear HB; clear BK236; have HB := n0_; have BK236 := n1_; clear n0_ n1_; (try clear hb); (try clear hb2); (try clear hk); (try clear hi)))
          go_meet
          case rel => exact ⟨_, (true), (t242), (t243), (t244), (by first | rfl | (simp; done) | (simp [*]; done) | (exfalso; simp_all; done)), H', ⟨by first | omega | exact Nat.le_refl _⟩, ⟨by (with_reducible repeat (first | refine blk_drewN ?_ _ | refine blk_drew ?_ | refine blk_alloc ?_ _)); exact BK236.out⟩, ⟨by repeat (first | (with_reducible first | exact HB.out | apply below_alloc | apply pw_below_drewN | apply below_drew1 | refine below_set ?_ GE236.out) | exact HB.out)⟩⟩
      · replace c12 := Bool.eq_false_iff.mpr c12
        subst c12
        have H1 : (vireolaw11_ClintBack.j0 k a0 a1 true t238 t239 t240) = some r := by rw [if_neg (show ¬ (false = true) by decide)] at H; exact H
        clear H
        have H := H1
        clear H1
        have H' := Aside0.mk H
        clear H
        go_wp2_with (first | ((with_reducible refine gate_callee (f := 9) rfl ?_); refine goesL_ (some 16) rfl rfl Try.func9 (by kernel_rfl) rfl #[.pointer (some ⟨gb236, 0, none⟩), .int .u64 49144, .int .i64 8, .int .u64 a0] rfl (by (try simp only [List.map_toArray, List.map_cons, List.map_nil]); first | done | rfl | (simp only [List.length_drop, List.length_take]; rfl)) ?_; (with_reducible refine (clint_Clint_Store.calls gb236 t233 t234 t235 49144 8 a0 false t238 t239 t240 w _ ?side1 ?side2 A11.out).mono ?_); (case side1 => exact ⟨(by (with_reducible repeat (first | refine blk_drewN ?_ _ | refine blk_drew ?_ | refine blk_alloc ?_ _)); refine blk_put (cs := #[.bool t233, .int .u64 t234, .int .u64 0]) ?_ 2 _ rfl; (with_reducible repeat (first | refine blk_drewN ?_ _ | refine blk_drew ?_ | refine blk_alloc ?_ _)); refine blk_put (cs := #[.bool t233, .int .u64 0, .int .u64 0]) ?_ 1 _ rfl; (with_reducible repeat (first | refine blk_drewN ?_ _ | refine blk_drew ?_ | refine blk_alloc ?_ _)); refine blk_put (cs := #[.bool false, .int .u64 0, .int .u64 0]) ?_ 0 _ rfl; (with_reducible repeat (first | refine blk_drewN ?_ _ | refine blk_drew ?_ | refine blk_alloc ?_ _)); exact BK236.out), GE236.out⟩); (case side2 => repeat (first | (with_reducible first | exact HB.out | apply below_alloc | apply pw_below_drewN | apply below_drew1 | refine below_set ?_ GE236.out) | exact HB.out)); rintro e w21 ⟨rfl, hi, hb, hk⟩; refine ⟨_, rfl, ?_⟩; have n0_ := Aside0.mk (hb); have n1_ := Aside0.mk (hi.1); clear HB; clear BK236; have HB := n0_; have BK236 := n1_; clear n0_ n1_; (try clear hb); (try clear hb2); (try clear hk); (try clear hi)))
        go_meet
        case rel => exact ⟨_, (true), (t238), (t239), (t240), (by first | rfl | (simp; done) | (simp [*]; done) | (exfalso; simp_all; done)), H', ⟨by first | omega | exact Nat.le_refl _⟩, ⟨by (with_reducible repeat (first | refine blk_drewN ?_ _ | refine blk_drew ?_ | refine blk_alloc ?_ _)); exact BK236.out⟩, ⟨by repeat (first | (with_reducible first | exact HB.out | apply below_alloc | apply pw_below_drewN | apply below_drew1 | refine below_set ?_ GE236.out) | exact HB.out)⟩⟩
    case rest =>
      clear HC6
      try clear c1
      try clear p2
      try clear c4
      try clear c5
      try clear c7
      try clear c8
      try clear c9
      try clear c12
      try clear c14
      try clear hcz10_0
      try clear hcz10_1
      try clear hcz10_2
      try clear hfz10_0
      try clear hfz10_1
      try clear hfz10_2
      obtain ⟨kq, x28_5, x237000_5, x237001_5, x237002_5, rfl, HA, HJ5, BK236, HB⟩ := hcut
      cases kq with
      | zero => exact absurd HA.out (by simp [vireolaw11_ClintBack.j0])
      | succ kj5 =>
        have H := HA.out
        clear HA
        simp only [vireolaw11_ClintBack.j0] at H
        by_cases c22 : x28_5 = true
        · subst c22
          have H1 : (some false) = some r := by rw [if_pos rfl] at H; exact H
          clear H
          have H := H1
          clear H1
          obtain rfl := Option.some.inj H
          go_wp2
          go_ret
          exact ⟨by first | rfl | (simp [errW_none, errW_some] <;> rfl) | (simp [*, errW_none, errW_some] <;> rfl) | (exfalso; simp_all; done), by repeat (first | (with_reducible first | exact HB.out | apply below_alloc | apply pw_below_drewN | apply below_drew1 | refine below_set ?_ GE236.out) | exact HB.out)⟩
        · replace c22 := Bool.eq_false_iff.mpr c22
          subst c22
          have H1 : ((clint_Clint_Load.f x237000_5 x237001_5 x237002_5 16384 8).bind fun bt249 => ((clint_Clint_Load.f x237000_5 x237001_5 x237002_5 49144 4).bind fun bt251 => ((clint_Clint_Load.f x237000_5 x237001_5 x237002_5 49148 4).bind fun bt253 => (if bt249.1 = a1 then (if (Go.bits .or .u64 bt251.1 (IntKind.u64.wrap (bt253.1 * 4294967296))) = a0 then ((clint_Clint_Lines.f x237000_5 x237001_5 x237002_5).bind fun t255 => ((vireolaw11_flag.f (decide (a0 ≥ a1))).bind fun t256 => (some ((t255 / 128) == t256)))) else (some false)) else (some false))))) = some r := by rw [if_neg (show ¬ (false = true) by decide)] at H; exact H
          clear H
          have H := H1
          clear H1
          replace H := Option.bind_eq_some_iff.mp H
          obtain ⟨⟨t249, t250⟩, A230, H⟩ := H
          replace H : ((clint_Clint_Load.f x237000_5 x237001_5 x237002_5 49144 4).bind fun bt251 => ((clint_Clint_Load.f x237000_5 x237001_5 x237002_5 49148 4).bind fun bt253 => (if t249 = a1 then (if (Go.bits .or .u64 bt251.1 (IntKind.u64.wrap (bt253.1 * 4294967296))) = a0 then ((clint_Clint_Lines.f x237000_5 x237001_5 x237002_5).bind fun t255 => ((vireolaw11_flag.f (decide (a0 ≥ a1))).bind fun t256 => (some ((t255 / 128) == t256)))) else (some false)) else (some false)))) = some r := H
          have A23 := Aside0.mk A230
          clear A230
          replace H := Option.bind_eq_some_iff.mp H
          obtain ⟨⟨t251, t252⟩, A240, H⟩ := H
          replace H : ((clint_Clint_Load.f x237000_5 x237001_5 x237002_5 49148 4).bind fun bt253 => (if t249 = a1 then (if (Go.bits .or .u64 t251 (IntKind.u64.wrap (bt253.1 * 4294967296))) = a0 then ((clint_Clint_Lines.f x237000_5 x237001_5 x237002_5).bind fun t255 => ((vireolaw11_flag.f (decide (a0 ≥ a1))).bind fun t256 => (some ((t255 / 128) == t256)))) else (some false)) else (some false))) = some r := H
          have A24 := Aside0.mk A240
          clear A240
          replace H := Option.bind_eq_some_iff.mp H
          obtain ⟨⟨t253, t254⟩, A250, H⟩ := H
          replace H : (if t249 = a1 then (if (Go.bits .or .u64 t251 (IntKind.u64.wrap (t253 * 4294967296))) = a0 then ((clint_Clint_Lines.f x237000_5 x237001_5 x237002_5).bind fun t255 => ((vireolaw11_flag.f (decide (a0 ≥ a1))).bind fun t256 => (some ((t255 / 128) == t256)))) else (some false)) else (some false)) = some r := H
          have A25 := Aside0.mk A250
          clear A250
          by_cases c26 : t249 = a1
          · rw [if_pos c26] at H
            have c26b0 : (t249 == a1) = true := beq_iff_eq.mpr c26
            have c26b1 : (t249 != a1) = false := bne_eq_false_iff_eq.mpr c26
            clear c26
            by_cases c27 : (Go.bits .or .u64 t251 (IntKind.u64.wrap (t253 * 4294967296))) = a0
            · rw [if_pos c27] at H
              have c27b0 : ((Go.bits .or .u64 t251 (IntKind.u64.wrap (t253 * 4294967296))) == a0) = true := beq_iff_eq.mpr c27
              have c27b1 : ((Go.bits .or .u64 t251 (IntKind.u64.wrap (t253 * 4294967296))) != a0) = false := bne_eq_false_iff_eq.mpr c27
              clear c27
              replace H := Option.bind_eq_some_iff.mp H
              obtain ⟨t255, A280, H⟩ := H
              replace H : ((vireolaw11_flag.f (decide (a0 ≥ a1))).bind fun t256 => (some ((t255 / 128) == t256))) = some r := H
              have A28 := Aside0.mk A280
              clear A280
              replace H := Option.bind_eq_some_iff.mp H
              obtain ⟨t256, A290, H⟩ := H
              replace H : (some ((t255 / 128) == t256)) = some r := H
              have A29 := Aside0.mk A290
              clear A290
              obtain rfl := Option.some.inj H
              go_wp2_with (first | ((with_reducible refine gate_callee (f := 13) rfl ?_); refine goesL_ (some 30) rfl rfl Try.func13 (by kernel_rfl) rfl #[.pointer (some ⟨gb236, 0, none⟩), .int .u64 16384, .int .i64 8] rfl (by (try simp only [List.map_toArray, List.map_cons, List.map_nil]); first | done | rfl | (simp only [List.length_drop, List.length_take]; rfl)) ?_; (with_reducible refine (clint_Clint_Load.calls gb236 x237000_5 x237001_5 x237002_5 16384 8 t249 t250 w _ ?side1 ?side2 A23.out).mono ?_); (case side1 => exact ⟨(by (with_reducible repeat (first | refine blk_drewN ?_ _ | refine blk_drew ?_ | refine blk_alloc ?_ _)); exact BK236.out), GE236.out⟩); (case side2 => repeat (first | (with_reducible first | exact HB.out | apply below_alloc | apply pw_below_drewN | apply below_drew1 | refine below_set ?_ GE236.out) | exact HB.out)); rintro e w30 ⟨rfl, hi, hb, hk⟩; refine ⟨_, rfl, ?_⟩; have n0_ := Aside0.mk (hb); have n1_ := Aside0.mk (hi.1); clear HB; clear BK236; have HB := n0_; have BK236 := n1_; clear n0_ n1_; (try clear hb); (try clear hb2); (try clear hk); (try clear hi)) | ((with_reducible refine gate_callee (f := 13) rfl ?_); refine goesL_ (some 34) rfl rfl Try.func13 (by kernel_rfl) rfl #[.pointer (some ⟨gb236, 0, none⟩), .int .u64 49144, .int .i64 4] rfl (by (try simp only [List.map_toArray, List.map_cons, List.map_nil]); first | done | rfl | (simp only [List.length_drop, List.length_take]; rfl)) ?_; (with_reducible refine (clint_Clint_Load.calls gb236 x237000_5 x237001_5 x237002_5 49144 4 t251 t252 w _ ?side1 ?side2 A24.out).mono ?_); (case side1 => exact ⟨(by (with_reducible repeat (first | refine blk_drewN ?_ _ | refine blk_drew ?_ | refine blk_alloc ?_ _)); exact BK236.out), GE236.out⟩); (case side2 => repeat (first | (with_reducible first | exact HB.out | apply below_alloc | apply pw_below_drewN | apply below_drew1 | refine below_set ?_ GE236.out) | exact HB.out)); rintro e w31 ⟨rfl, hi, hb, hk⟩; refine ⟨_, rfl, ?_⟩; have n0_ := Aside0.mk (hb); have n1_ := Aside0.mk (hi.1); clear HB; clear BK236; have HB := n0_; have BK236 := n1_; clear n0_ n1_; (try clear hb); (try clear hb2); (try clear hk); (try clear hi)) | ((with_reducible refine gate_callee (f := 13) rfl ?_); refine goesL_ (some 38) rfl rfl Try.func13 (by kernel_rfl) rfl #[.pointer (some ⟨gb236, 0, none⟩), .int .u64 49148, .int .i64 4] rfl (by (try simp only [List.map_toArray, List.map_cons, List.map_nil]); first | done | rfl | (simp only [List.length_drop, List.length_take]; rfl)) ?_; (with_reducible refine (clint_Clint_Load.calls gb236 x237000_5 x237001_5 x237002_5 49148 4 t253 t254 w _ ?side1 ?side2 A25.out).mono ?_); (case side1 => exact ⟨(by (with_reducible repeat (first | refine blk_drewN ?_ _ | refine blk_drew ?_ | refine blk_alloc ?_ _)); exact BK236.out), GE236.out⟩); (case side2 => repeat (first | (with_reducible first | exact HB.out | apply below_alloc | apply pw_below_drewN | apply below_drew1 | refine below_set ?_ GE236.out) | exact HB.out)); rintro e w32 ⟨rfl, hi, hb, hk⟩; refine ⟨_, rfl, ?_⟩; have n0_ := Aside0.mk (hb); have n1_ := Aside0.mk (hi.1); clear HB; clear BK236; have HB := n0_; have BK236 := n1_; clear n0_ n1_; (try clear hb); (try clear hb2); (try clear hk); (try clear hi)) | (go_at_call 11; (with_reducible refine (clint_Clint_Lines.calls gb236 x237000_5 x237001_5 x237002_5 t255 w _ ?side1 ?side2 A28.out).mono ?_); (case side1 => exact ⟨(by (with_reducible repeat (first | refine blk_drewN ?_ _ | refine blk_drew ?_ | refine blk_alloc ?_ _)); exact BK236.out), GE236.out⟩); (case side2 => repeat (first | (with_reducible first | exact HB.out | apply below_alloc | apply pw_below_drewN | apply below_drew1 | refine below_set ?_ GE236.out) | exact HB.out)); rintro e w33 ⟨rfl, hi, hb, hk⟩; have n0_ := Aside0.mk (hb); have n1_ := Aside0.mk (hi.1); clear HB; clear BK236; have HB := n0_; have BK236 := n1_; clear n0_ n1_; (try clear hb); (try clear hb2); (try clear hk); (try clear hi)) | (go_at_call 12; (with_reducible refine (vireolaw11_flag.calls (decide (a0 ≥ a1)) t256 _ A29.out).mono ?_); rintro e w' ⟨rfl, ⟨nd, rfl⟩⟩))
              go_ret
              exact ⟨by first | rfl | (simp [errW_none, errW_some] <;> rfl) | (simp [*, errW_none, errW_some] <;> rfl) | (exfalso; simp_all; done), by repeat (first | (with_reducible first | exact HB.out | apply below_alloc | apply pw_below_drewN | apply below_drew1 | refine below_set ?_ GE236.out) | exact HB.out)⟩
            · rw [if_neg c27] at H
              have c27b0 : ((Go.bits .or .u64 t251 (IntKind.u64.wrap (t253 * 4294967296))) == a0) = false := beq_eq_false_iff_ne.mpr c27
              have c27b1 : ((Go.bits .or .u64 t251 (IntKind.u64.wrap (t253 * 4294967296))) != a0) = true := bne_iff_ne.mpr c27
              obtain rfl := Option.some.inj H
              go_wp2_with (first | ((with_reducible refine gate_callee (f := 13) rfl ?_); refine goesL_ (some 30) rfl rfl Try.func13 (by kernel_rfl) rfl #[.pointer (some ⟨gb236, 0, none⟩), .int .u64 16384, .int .i64 8] rfl (by (try simp only [List.map_toArray, List.map_cons, List.map_nil]); first | done | rfl | (simp only [List.length_drop, List.length_take]; rfl)) ?_; (with_reducible refine (clint_Clint_Load.calls gb236 x237000_5 x237001_5 x237002_5 16384 8 t249 t250 w _ ?side1 ?side2 A23.out).mono ?_); (case side1 => exact ⟨(by (with_reducible repeat (first | refine blk_drewN ?_ _ | refine blk_drew ?_ | refine blk_alloc ?_ _)); exact BK236.out), GE236.out⟩); (case side2 => repeat (first | (with_reducible first | exact HB.out | apply below_alloc | apply pw_below_drewN | apply below_drew1 | refine below_set ?_ GE236.out) | exact HB.out)); rintro e w34 ⟨rfl, hi, hb, hk⟩; refine ⟨_, rfl, ?_⟩; have n0_ := Aside0.mk (hb); have n1_ := Aside0.mk (hi.1); clear HB; clear BK236; have HB := n0_; have BK236 := n1_; clear n0_ n1_; (try clear hb); (try clear hb2); (try clear hk); (try clear hi)) | ((with_reducible refine gate_callee (f := 13) rfl ?_); refine goesL_ (some 34) rfl rfl Try.func13 (by kernel_rfl) rfl #[.pointer (some ⟨gb236, 0, none⟩), .int .u64 49144, .int .i64 4] rfl (by (try simp only [List.map_toArray, List.map_cons, List.map_nil]); first | done | rfl | (simp only [List.length_drop, List.length_take]; rfl)) ?_; (with_reducible refine (clint_Clint_Load.calls gb236 x237000_5 x237001_5 x237002_5 49144 4 t251 t252 w _ ?side1 ?side2 A24.out).mono ?_); (case side1 => exact ⟨(by (with_reducible repeat (first | refine blk_drewN ?_ _ | refine blk_drew ?_ | refine blk_alloc ?_ _)); exact BK236.out), GE236.out⟩); (case side2 => repeat (first | (with_reducible first | exact HB.out | apply below_alloc | apply pw_below_drewN | apply below_drew1 | refine below_set ?_ GE236.out) | exact HB.out)); rintro e w35 ⟨rfl, hi, hb, hk⟩; refine ⟨_, rfl, ?_⟩; have n0_ := Aside0.mk (hb); have n1_ := Aside0.mk (hi.1); clear HB; clear BK236; have HB := n0_; have BK236 := n1_; clear n0_ n1_; (try clear hb); (try clear hb2); (try clear hk); (try clear hi)) | ((with_reducible refine gate_callee (f := 13) rfl ?_); refine goesL_ (some 38) rfl rfl Try.func13 (by kernel_rfl) rfl #[.pointer (some ⟨gb236, 0, none⟩), .int .u64 49148, .int .i64 4] rfl (by (try simp only [List.map_toArray, List.map_cons, List.map_nil]); first | done | rfl | (simp only [List.length_drop, List.length_take]; rfl)) ?_; (with_reducible refine (clint_Clint_Load.calls gb236 x237000_5 x237001_5 x237002_5 49148 4 t253 t254 w _ ?side1 ?side2 A25.out).mono ?_); (case side1 => exact ⟨(by (with_reducible repeat (first | refine blk_drewN ?_ _ | refine blk_drew ?_ | refine blk_alloc ?_ _)); exact BK236.out), GE236.out⟩); (case side2 => repeat (first | (with_reducible first | exact HB.out | apply below_alloc | apply pw_below_drewN | apply below_drew1 | refine below_set ?_ GE236.out) | exact HB.out)); rintro e w36 ⟨rfl, hi, hb, hk⟩; refine ⟨_, rfl, ?_⟩; have n0_ := Aside0.mk (hb); have n1_ := Aside0.mk (hi.1); clear HB; clear BK236; have HB := n0_; have BK236 := n1_; clear n0_ n1_; (try clear hb); (try clear hb2); (try clear hk); (try clear hi)))
              go_ret
              exact ⟨by first | rfl | (simp [errW_none, errW_some] <;> rfl) | (simp [*, errW_none, errW_some] <;> rfl) | (exfalso; simp_all; done), by repeat (first | (with_reducible first | exact HB.out | apply below_alloc | apply pw_below_drewN | apply below_drew1 | refine below_set ?_ GE236.out) | exact HB.out)⟩
          · rw [if_neg c26] at H
            have c26b0 : (t249 == a1) = false := beq_eq_false_iff_ne.mpr c26
            have c26b1 : (t249 != a1) = true := bne_iff_ne.mpr c26
            obtain rfl := Option.some.inj H
            go_wp2_with (first | ((with_reducible refine gate_callee (f := 13) rfl ?_); refine goesL_ (some 30) rfl rfl Try.func13 (by kernel_rfl) rfl #[.pointer (some ⟨gb236, 0, none⟩), .int .u64 16384, .int .i64 8] rfl (by (try simp only [List.map_toArray, List.map_cons, List.map_nil]); first | done | rfl | (simp only [List.length_drop, List.length_take]; rfl)) ?_; (with_reducible refine (clint_Clint_Load.calls gb236 x237000_5 x237001_5 x237002_5 16384 8 t249 t250 w _ ?side1 ?side2 A23.out).mono ?_); (case side1 => exact ⟨(by (with_reducible repeat (first | refine blk_drewN ?_ _ | refine blk_drew ?_ | refine blk_alloc ?_ _)); exact BK236.out), GE236.out⟩); (case side2 => repeat (first | (with_reducible first | exact HB.out | apply below_alloc | apply pw_below_drewN | apply below_drew1 | refine below_set ?_ GE236.out) | exact HB.out)); rintro e w37 ⟨rfl, hi, hb, hk⟩; refine ⟨_, rfl, ?_⟩; have n0_ := Aside0.mk (hb); have n1_ := Aside0.mk (hi.1); clear HB; clear BK236; have HB := n0_; have BK236 := n1_; clear n0_ n1_; (try clear hb); (try clear hb2); (try clear hk); (try clear hi)) | ((with_reducible refine gate_callee (f := 13) rfl ?_); refine goesL_ (some 34) rfl rfl Try.func13 (by kernel_rfl) rfl #[.pointer (some ⟨gb236, 0, none⟩), .int .u64 49144, .int .i64 4] rfl (by (try simp only [List.map_toArray, List.map_cons, List.map_nil]); first | done | rfl | (simp only [List.length_drop, List.length_take]; rfl)) ?_; (with_reducible refine (clint_Clint_Load.calls gb236 x237000_5 x237001_5 x237002_5 49144 4 t251 t252 w _ ?side1 ?side2 A24.out).mono ?_); (case side1 => exact ⟨(by (with_reducible repeat (first | refine blk_drewN ?_ _ | refine blk_drew ?_ | refine blk_alloc ?_ _)); exact BK236.out), GE236.out⟩); (case side2 => repeat (first | (with_reducible first | exact HB.out | apply below_alloc | apply pw_below_drewN | apply below_drew1 | refine below_set ?_ GE236.out) | exact HB.out)); rintro e w38 ⟨rfl, hi, hb, hk⟩; refine ⟨_, rfl, ?_⟩; have n0_ := Aside0.mk (hb); have n1_ := Aside0.mk (hi.1); clear HB; clear BK236; have HB := n0_; have BK236 := n1_; clear n0_ n1_; (try clear hb); (try clear hb2); (try clear hk); (try clear hi)) | ((with_reducible refine gate_callee (f := 13) rfl ?_); refine goesL_ (some 38) rfl rfl Try.func13 (by kernel_rfl) rfl #[.pointer (some ⟨gb236, 0, none⟩), .int .u64 49148, .int .i64 4] rfl (by (try simp only [List.map_toArray, List.map_cons, List.map_nil]); first | done | rfl | (simp only [List.length_drop, List.length_take]; rfl)) ?_; (with_reducible refine (clint_Clint_Load.calls gb236 x237000_5 x237001_5 x237002_5 49148 4 t253 t254 w _ ?side1 ?side2 A25.out).mono ?_); (case side1 => exact ⟨(by (with_reducible repeat (first | refine blk_drewN ?_ _ | refine blk_drew ?_ | refine blk_alloc ?_ _)); exact BK236.out), GE236.out⟩); (case side2 => repeat (first | (with_reducible first | exact HB.out | apply below_alloc | apply pw_below_drewN | apply below_drew1 | refine below_set ?_ GE236.out) | exact HB.out)); rintro e w39 ⟨rfl, hi, hb, hk⟩; refine ⟨_, rfl, ?_⟩; have n0_ := Aside0.mk (hb); have n1_ := Aside0.mk (hi.1); clear HB; clear BK236; have HB := n0_; have BK236 := n1_; clear n0_ n1_; (try clear hb); (try clear hb2); (try clear hk); (try clear hi)))
            go_ret
            exact ⟨by first | rfl | (simp [errW_none, errW_some] <;> rfl) | (simp [*, errW_none, errW_some] <;> rfl) | (exfalso; simp_all; done), by repeat (first | (with_reducible first | exact HB.out | apply below_alloc | apply pw_below_drewN | apply below_drew1 | refine below_set ?_ GE236.out) | exact HB.out)⟩
  · replace c4 := Bool.eq_false_iff.mpr c4
    subst c4
    have H1 : (some false) = some r := by rw [if_neg (show ¬ (false = true) by decide)] at H; exact H
    clear H
    have H := H1
    clear H1
    obtain rfl := Option.some.inj H
    go_enter Try.func5, Try.ntmps5
    go_wp2_with (first | ((with_reducible refine gate_callee (f := 7) rfl ?_); refine goesL_ (some 12) rfl rfl Try.func7 (by kernel_rfl) rfl #[] rfl (by (try simp only [List.map_toArray, List.map_cons, List.map_nil]); first | done | rfl | (simp only [List.length_drop, List.length_take]; rfl)) ?_; (with_reducible refine (vireolaw11_awake.calls  false _ A3.out).mono ?_); rintro e w40 ⟨rfl, hb⟩; refine ⟨_, rfl, ?_⟩; have n0_ := Aside0.mk (below_step (by repeat (first | (with_reducible first | exact HB.out | apply below_alloc | apply pw_below_drewN | apply below_drew1) | exact HB.out)) hb); clear HB; have HB := n0_; clear n0_; (try clear hb); (try clear hb2); (try clear hk); (try clear hi)))
    go_ret
    exact ⟨by first | rfl | (simp [errW_none, errW_some] <;> rfl) | (simp [*, errW_none, errW_some] <;> rfl) | (exfalso; simp_all; done), by repeat (first | (with_reducible first | exact HB.out | apply below_alloc | apply pw_below_drewN | apply below_drew1) | exact HB.out)⟩

/-- THE ONE PURE STATEMENT of vireolaw11_ClintBack: yours. -/
def vireolaw11_ClintBack.Pure : Prop := ∀ (a0 : Int) (a1 : Int), (Lit.int .u64 a0).wf = true → (Lit.int .u64 a1).wf = true → ∃ k, vireolaw11_ClintBack.f k a0 a1 = some true
theorem vireolaw11_ClintBack.walk (P : vireolaw11_ClintBack.Pure) (a0 : Int) (a1 : Int) (w : World) (w0 : (Lit.int .u64 a0).wf = true) (w1 : (Lit.int .u64 a1).wf = true) :
    Calls Try.prog 5 #[.int .u64 a0, .int .u64 a1] w fun e w' => e = .returned (.bool true) ∧ Below w.heap.size w w' := by
  obtain ⟨k, h⟩ := P a0 a1 w0 w1
  refine (vireolaw11_ClintBack.calls k a0 a1 true w h).mono ?_
  rintro e w' ⟨rfl, hd⟩
  exact ⟨rfl, hd⟩

/-! ### vireolaw11_ClintTicks: function 3 -/
mutual
def vireolaw11_ClintTicks.l0 : Nat → Int → List Int → Int → Int → Bool → Int → Int → Option (Bool)
  | 0, _, _, _, _, _, _, _ => none
  | k + 1, x0, x1, x6, x7, x262000, x262001, x262002 => if x7 < (x1.length : Int) then (vireolaw11_ClintTicks.j1 k x0 x1 x6 x7 (decide (x7 < 60)) x262000 x262001 x262002) else (vireolaw11_ClintTicks.j1 k x0 x1 x6 x7 false x262000 x262001 x262002)
def vireolaw11_ClintTicks.j1 : Nat → Int → List Int → Int → Int → Bool → Bool → Int → Int → Option (Bool)
  | 0, _, _, _, _, _, _, _, _ => none
  | k + 1, x0, x1, x6, x7, x20, x262000, x262001, x262002 => if x20 = true then (if 0 ≤ x7 then (if x7 < (x1.length : Int) then ((clint_Clint_Tick.f x262000 x262001 x262002 (rd x1 x7)).bind fun bt267 => (if bt267.2.2 = (IntKind.u64.wrap (x6 + (rd x1 x7))) then ((clint_Clint_Lines.f bt267.1 bt267.2.1 bt267.2.2).bind fun t271 => ((vireolaw11_flag.f (decide ((IntKind.u64.wrap (x6 + (rd x1 x7))) ≥ x0))).bind fun t272 => (if t271 = (IntKind.u64.wrap (t272 * 128)) then (vireolaw11_ClintTicks.l0 k x0 x1 (IntKind.u64.wrap (x6 + (rd x1 x7))) (wrap64 (x7 + 1)) bt267.1 bt267.2.1 bt267.2.2) else (some false)))) else (some false))) else (none)) else (none)) else (some true)
end
def vireolaw11_ClintTicks.f (k : Nat) (a0 : Int) (l1 : List Int) : Option (Bool) := (vireolaw11_awake.f).bind fun t257 => (if t257 = true then ((clint_Begin.f).bind fun bt258 => ((clint_Clint_Store.f bt258.1 bt258.2.1 bt258.2.2 16384 8 a0).bind fun bt262 => (vireolaw11_ClintTicks.l0 k a0 l1 0 0 bt262.2.1 bt262.2.2.1 bt262.2.2.2))) else (some false))
theorem vireolaw11_ClintTicks.mono_l : ∀ k, (∀ y0 y1 y2 y3 y4 y5 y6, LeO (vireolaw11_ClintTicks.l0 k y0 y1 y2 y3 y4 y5 y6) (vireolaw11_ClintTicks.l0 (k + 1) y0 y1 y2 y3 y4 y5 y6)) ∧ (∀ y0 y1 y2 y3 y4 y5 y6 y7, LeO (vireolaw11_ClintTicks.j1 k y0 y1 y2 y3 y4 y5 y6 y7) (vireolaw11_ClintTicks.j1 (k + 1) y0 y1 y2 y3 y4 y5 y6 y7))
  | 0 => ⟨fun _ _ _ _ _ _ _ r h => by simp [vireolaw11_ClintTicks.l0] at h, fun _ _ _ _ _ _ _ _ r h => by simp [vireolaw11_ClintTicks.j1] at h⟩
  | k + 1 => by
    obtain ⟨ih0, ih1⟩ := vireolaw11_ClintTicks.mono_l k
    refine ⟨?_, ?_⟩
    · intro y0 y1 y2 y3 y4 y5 y6
      unfold vireolaw11_ClintTicks.l0
      repeat' first
      | (with_reducible exact ih0 _ _ _ _ _ _ _)
      | (with_reducible exact ih1 _ _ _ _ _ _ _ _)
      | (with_reducible exact LeO.refl _)
      | (with_reducible exact LeO.none _)
      | (with_reducible refine LeO.ite ?_ ?_)
      | (with_reducible refine LeO.bind ?_ (fun _ => ?_))
      | exact ih0 _ _ _ _ _ _ _
      | exact ih1 _ _ _ _ _ _ _ _
      | exact LeO.none _
      | refine LeO.ite ?_ ?_
      | refine LeO.bind ?_ (fun _ => ?_)
    · intro y0 y1 y2 y3 y4 y5 y6 y7
      unfold vireolaw11_ClintTicks.j1
      repeat' first
      | (with_reducible exact ih0 _ _ _ _ _ _ _)
      | (with_reducible exact ih1 _ _ _ _ _ _ _ _)
      | (with_reducible exact LeO.refl _)
      | (with_reducible exact LeO.none _)
      | (with_reducible refine LeO.ite ?_ ?_)
      | (with_reducible refine LeO.bind ?_ (fun _ => ?_))
      | exact ih0 _ _ _ _ _ _ _
      | exact ih1 _ _ _ _ _ _ _ _
      | exact LeO.none _
      | refine LeO.ite ?_ ?_
      | refine LeO.bind ?_ (fun _ => ?_)
theorem vireolaw11_ClintTicks.mono : ∀ a0 a1 k, LeO (vireolaw11_ClintTicks.f k a0 a1) (vireolaw11_ClintTicks.f (k + 1) a0 a1) := by
  intro a0 a1 k
  obtain ⟨ih0, ih1⟩ := vireolaw11_ClintTicks.mono_l k
  unfold vireolaw11_ClintTicks.f
  repeat' first
      | (with_reducible exact ih0 _ _ _ _ _ _ _)
      | (with_reducible exact ih1 _ _ _ _ _ _ _ _)
      | (with_reducible exact LeO.refl _)
      | (with_reducible exact LeO.none _)
      | (with_reducible refine LeO.ite ?_ ?_)
      | (with_reducible refine LeO.bind ?_ (fun _ => ?_))
      | exact ih0 _ _ _ _ _ _ _
      | exact ih1 _ _ _ _ _ _ _ _
      | exact LeO.none _
      | refine LeO.ite ?_ ?_
      | refine LeO.bind ?_ (fun _ => ?_)
set_option maxHeartbeats 8000000 in
set_option maxRecDepth 100000 in
theorem vireolaw11_ClintTicks.calls (k : Nat) (a0 : Int) (A1 : Option Addr) (c1 : Nat) (l1 : List Int) (r : Bool) (w : World) (hr1 : Kd.C (Kd.int .u64) w A1 l1.length l1) (hc1 : l1.length ≤ c1) (h : vireolaw11_ClintTicks.f k a0 l1 = some r) :
    Calls Try.prog 3 #[.int .u64 a0, .slice A1 l1.length c1] w fun e w' => e = .returned (.bool r) ∧ Below w.heap.size w w' := by
  have hu26 := Try.underlying26
  have HR1 := Aside0.mk hr1
  have HC1 := Aside0.mk hc1
  clear hr1 hc1
  have HB := Aside0.mk (Below.refl w.heap.size w)
  have H : ((vireolaw11_awake.f).bind fun t257 => (if t257 = true then ((clint_Begin.f).bind fun bt258 => ((clint_Clint_Store.f bt258.1 bt258.2.1 bt258.2.2 16384 8 a0).bind fun bt262 => (vireolaw11_ClintTicks.l0 k a0 l1 0 0 bt262.2.1 bt262.2.2.1 bt262.2.2.2))) else (some false))) = some r := h
  clear h
  replace H := Option.bind_eq_some_iff.mp H
  obtain ⟨t257, A30, H⟩ := H
  replace H : (if t257 = true then ((clint_Begin.f).bind fun bt258 => ((clint_Clint_Store.f bt258.1 bt258.2.1 bt258.2.2 16384 8 a0).bind fun bt262 => (vireolaw11_ClintTicks.l0 k a0 l1 0 0 bt262.2.1 bt262.2.2.1 bt262.2.2.2))) else (some false)) = some r := H
  have A3 := Aside0.mk A30
  clear A30
  by_cases c4 : t257 = true
  · subst c4
    have H1 : ((clint_Begin.f).bind fun bt258 => ((clint_Clint_Store.f bt258.1 bt258.2.1 bt258.2.2 16384 8 a0).bind fun bt262 => (vireolaw11_ClintTicks.l0 k a0 l1 0 0 bt262.2.1 bt262.2.2.1 bt262.2.2.2))) = some r := by rw [if_pos rfl] at H; exact H
    clear H
    have H := H1
    clear H1
    replace H := Option.bind_eq_some_iff.mp H
    obtain ⟨⟨t258, t259, t260⟩, A50, H⟩ := H
    replace H : ((clint_Clint_Store.f t258 t259 t260 16384 8 a0).bind fun bt262 => (vireolaw11_ClintTicks.l0 k a0 l1 0 0 bt262.2.1 bt262.2.2.1 bt262.2.2.2)) = some r := H
    have A5 := Aside0.mk A50
    clear A50
    replace H := Option.bind_eq_some_iff.mp H
    obtain ⟨⟨t262, t263, t264, t265⟩, A60, H⟩ := H
    replace H : (vireolaw11_ClintTicks.l0 k a0 l1 0 0 t263 t264 t265) = some r := H
    have A6 := Aside0.mk A60
    clear A60
    have H' := Aside0.mk H
    clear H
    go_enter Try.func3, Try.ntmps3
    go_wp2_with (first | ((with_reducible refine gate_callee (f := 7) rfl ?_); refine goesL_ (some 8) rfl rfl Try.func7 (by kernel_rfl) rfl #[] rfl (by (try simp only [List.map_toArray, List.map_cons, List.map_nil]); first | done | rfl | (simp only [List.length_drop, List.length_take]; rfl)) ?_; (with_reducible refine (vireolaw11_awake.calls  true _ A3.out).mono ?_); rintro e w7 ⟨rfl, hb⟩; refine ⟨_, rfl, ?_⟩; have n0_ := Aside0.mk (below_step (by repeat (first | (with_reducible first | exact HB.out | apply below_alloc | apply pw_below_drewN | apply below_drew1) | exact HB.out)) hb); clear HB; have HB := n0_; clear n0_; (try clear hb); (try clear hb2); (try clear hk); (try clear hi)) | ((with_reducible refine gate_callee (f := 8) rfl ?_); refine goesL_ (some 10) rfl rfl Try.func8 (by kernel_rfl) rfl #[] rfl (by (try simp only [List.map_toArray, List.map_cons, List.map_nil]); first | done | rfl | (simp only [List.length_drop, List.length_take]; rfl)) ?_; (with_reducible refine (clint_Begin.calls  t258 t259 t260 _ A5.out).mono ?_); rintro e w8 ⟨rfl, hb⟩; refine ⟨_, rfl, ?_⟩; have n0_ := Aside0.mk (below_step (by repeat (first | (with_reducible first | exact HB.out | apply below_alloc | apply pw_below_drewN | apply below_drew1) | exact HB.out)) hb); clear HB; have HB := n0_; clear n0_; (try clear hb); (try clear hb2); (try clear hk); (try clear hi)) | ((with_reducible refine gate_dst (N := 5) rfl ?_); refine box_event ?hg (N := 5) ?hd (cs := #[.bool false, .int .u64 0, .int .u64 0]) (t := 26) ?hr ?_; (case hd => rfl); (case hg => rfl); (case hr => first | (go_simp; done) | (go_simp; rfl)); intro gb261 hg w9 hbox hb; have n0_ := Aside0.mk (below_step (by repeat (first | (with_reducible first | exact HB.out | apply below_alloc | apply pw_below_drewN | apply below_drew1) | exact HB.out)) hb); have n1_ := Aside0.mk (hbox); have n2_ := Aside0.mk ((by rw [hg]; exact (below_size (by repeat (first | (with_reducible first | exact HB.out | apply below_alloc | apply pw_below_drewN | apply below_drew1) | exact HB.out))) : w.heap.size ≤ gb261)); have n3_ := Aside0.mk ((by rw [hg]; exact (below_size (by repeat (first | (with_reducible first | exact HB.out | apply below_alloc | apply pw_below_drewN | apply below_drew1) | exact HB.out))) : w.heap.size ≤ gb261)); clear HB; have HB := n0_; have BK261 := n1_; have GW261 := n2_; have GE261 := n3_; clear n0_ n1_ n2_ n3_; clear hb hbox hg; have hcz10_0 : w9.cell? ⟨gb261, 0, none⟩ = some (.bool false) := (blk_cell BK261.out 0).trans rfl; have hcz10_1 : w9.cell? ⟨gb261, 1, none⟩ = some (.int .u64 0) := (blk_cell BK261.out 1).trans rfl; have hcz10_2 : w9.cell? ⟨gb261, 2, none⟩ = some (.int .u64 0) := (blk_cell BK261.out 2).trans rfl; have hfz10_0 := blk_frozen BK261.out 0; have hfz10_1 := blk_frozen BK261.out 1; have hfz10_2 := blk_frozen BK261.out 2) | ((with_reducible refine gate_callee (f := 9) rfl ?_); refine goesL_ (some 12) rfl rfl Try.func9 (by kernel_rfl) rfl #[.pointer (some ⟨gb261, 0, none⟩), .int .u64 16384, .int .i64 8, .int .u64 a0] rfl (by (try simp only [List.map_toArray, List.map_cons, List.map_nil]); first | done | rfl | (simp only [List.length_drop, List.length_take]; rfl)) ?_; (with_reducible refine (clint_Clint_Store.calls gb261 t258 t259 t260 16384 8 a0 t262 t263 t264 t265 w _ ?side1 ?side2 A6.out).mono ?_); (case side1 => exact ⟨(by (with_reducible repeat (first | refine blk_drewN ?_ _ | refine blk_drew ?_ | refine blk_alloc ?_ _)); refine blk_put (cs := #[.bool t258, .int .u64 t259, .int .u64 0]) ?_ 2 _ rfl; (with_reducible repeat (first | refine blk_drewN ?_ _ | refine blk_drew ?_ | refine blk_alloc ?_ _)); refine blk_put (cs := #[.bool t258, .int .u64 0, .int .u64 0]) ?_ 1 _ rfl; (with_reducible repeat (first | refine blk_drewN ?_ _ | refine blk_drew ?_ | refine blk_alloc ?_ _)); refine blk_put (cs := #[.bool false, .int .u64 0, .int .u64 0]) ?_ 0 _ rfl; (with_reducible repeat (first | refine blk_drewN ?_ _ | refine blk_drew ?_ | refine blk_alloc ?_ _)); exact BK261.out), GE261.out⟩); (case side2 => repeat (first | (with_reducible first | exact HB.out | apply below_alloc | apply pw_below_drewN | apply below_drew1 | refine below_set ?_ GE261.out) | exact HB.out)); rintro e w11 ⟨rfl, hi, hb, hk⟩; refine ⟨_, rfl, ?_⟩; have n0_ := Aside0.mk (hb); have n1_ := Aside0.mk (hi.1); clear HB; clear BK261; have HB := n0_; have BK261 := n1_; clear n0_ n1_; (try clear hb); (try clear hb2); (try clear hk); (try clear hi)))
    go_loopg [6, 7] k (fun kq v6 v7 w' => ∃ (x6_1 : Int) (x7_1 : Int) (x262000_1 : Bool) (x262001_1 : Int) (x262002_1 : Int), v6 = .int .u64 x6_1 ∧ v7 = .int .i64 x7_1 ∧ Aside0 (vireolaw11_ClintTicks.l0 kq a0 l1 x6_1 x7_1 x262000_1 x262001_1 x262002_1 = some r) ∧ Aside0 (kq ≤ k) ∧ Aside0 (w'.heap[gb261]? = some (.cells #[.bool x262000_1, .int .u64 x262001_1, .int .u64 x262002_1] 26 (0, 0))) ∧ Aside0 (Below w.heap.size w w'))
    case atStart => exact ⟨(0), (0), (t263), (t264), (t265), (by first | rfl | (simp; done) | (simp [*]; done) | (exfalso; simp_all; done)), (by first | rfl | (simp; done) | (simp [*]; done) | (exfalso; simp_all; done)), H', ⟨Nat.le_refl _⟩, ⟨by (with_reducible repeat (first | refine blk_drewN ?_ _ | refine blk_drew ?_ | refine blk_alloc ?_ _)); exact BK261.out⟩, ⟨by repeat (first | (with_reducible first | exact HB.out | apply below_alloc | apply pw_below_drewN | apply below_drew1 | refine below_set ?_ GE261.out) | exact HB.out)⟩⟩
    case round =>
      clear H'
      try clear c1
      try clear p2
      try clear c3
      try clear c4
      try clear c7
      try clear c8
      try clear c9
      try clear hcz10_0
      try clear hcz10_1
      try clear hcz10_2
      try clear hfz10_0
      try clear hfz10_1
      try clear hfz10_2
      obtain ⟨x6_1, x7_1, x262000_1, x262001_1, x262002_1, rfl, rfl, HA, HK1, BK261, HB⟩ := hrel
      cases gk with
      | zero => exact absurd HA.out (by simp [vireolaw11_ClintTicks.l0])
      | succ k1 =>
        have H := HA.out
        clear HA
        simp only [vireolaw11_ClintTicks.l0] at H
        have HC12 := Aside0.mk H
        clear H
        go_upto_region 7 with (fail)
        go_cut [20] (fun v20 wc => ∃ (kq : Nat) (x20_11 : Bool), v20 = .bool x20_11 ∧ Aside0 (vireolaw11_ClintTicks.j1 kq a0 l1 x6_1 x7_1 x20_11 x262000_1 x262001_1 x262002_1 = some r) ∧ Aside0 (kq ≤ k1) ∧ Aside0 (wc.heap[gb261]? = some (.cells #[.bool x262000_1, .int .u64 x262001_1, .int .u64 x262002_1] 26 (0, 0))) ∧ Aside0 (Below w.heap.size w wc))
        case first =>
          have H := HC12.out
          clear HC12
          by_cases c13 : x7_1 < (l1.length : Int)
          · rw [if_pos c13] at H
            have c13b0 : decide (x7_1 < (l1.length : Int)) = true := decide_eq_true c13
            clear c13
            (first | rw [c13b0] | (simp only [i64_w, i32_w]; rw [c13b0]) | skip)
            have H' := Aside0.mk H
            clear H
            go_wp2
            go_meet
            case rel => exact ⟨_, (decide (x7_1 < 60)), (by first | rfl | (simp; done) | (simp [*]; done) | (exfalso; simp_all; done)), H', ⟨by have := HK1.out; first | omega | exact Nat.le_refl _⟩, ⟨by (with_reducible repeat (first | refine blk_drewN ?_ _ | refine blk_drew ?_ | refine blk_alloc ?_ _)); exact BK261.out⟩, ⟨by repeat (first | (with_reducible first | exact HB.out | apply below_alloc | apply pw_below_drewN | apply below_drew1 | refine below_set ?_ GE261.out) | exact HB.out)⟩⟩
          · rw [if_neg c13] at H
            have c13b0 : decide (x7_1 < (l1.length : Int)) = false := decide_eq_false c13
            clear c13
            (first | rw [c13b0] | (simp only [i64_w, i32_w]; rw [c13b0]) | skip)
            have H' := Aside0.mk H
            clear H
            go_wp2
            go_meet
            case rel => exact ⟨_, (false), (by first | rfl | (simp; done) | (simp [*]; done) | (exfalso; simp_all; done)), H', ⟨by have := HK1.out; first | omega | exact Nat.le_refl _⟩, ⟨by (with_reducible repeat (first | refine blk_drewN ?_ _ | refine blk_drew ?_ | refine blk_alloc ?_ _)); exact BK261.out⟩, ⟨by repeat (first | (with_reducible first | exact HB.out | apply below_alloc | apply pw_below_drewN | apply below_drew1 | refine below_set ?_ GE261.out) | exact HB.out)⟩⟩
        case rest =>
          clear HC12
          try clear c1
          try clear p2
          try clear c3
          try clear c4
          try clear c7
          try clear c8
          try clear c9
          try clear c13
          try clear c13b0
          try clear hcz10_0
          try clear hcz10_1
          try clear hcz10_2
          try clear hfz10_0
          try clear hfz10_1
          try clear hfz10_2
          try clear p2
          obtain ⟨kq, x20_11, rfl, HA, HJ11, BK261, HB⟩ := hcut
          cases kq with
          | zero => exact absurd HA.out (by simp [vireolaw11_ClintTicks.j1])
          | succ kj11 =>
            have H := HA.out
            clear HA
            simp only [vireolaw11_ClintTicks.j1] at H
            by_cases c14 : x20_11 = true
            · subst c14
              have H1 : (if 0 ≤ x7_1 then (if x7_1 < (l1.length : Int) then ((clint_Clint_Tick.f x262000_1 x262001_1 x262002_1 (rd l1 x7_1)).bind fun bt267 => (if bt267.2.2 = (IntKind.u64.wrap (x6_1 + (rd l1 x7_1))) then ((clint_Clint_Lines.f bt267.1 bt267.2.1 bt267.2.2).bind fun t271 => ((vireolaw11_flag.f (decide ((IntKind.u64.wrap (x6_1 + (rd l1 x7_1))) ≥ a0))).bind fun t272 => (if t271 = (IntKind.u64.wrap (t272 * 128)) then (vireolaw11_ClintTicks.l0 kj11 a0 l1 (IntKind.u64.wrap (x6_1 + (rd l1 x7_1))) (wrap64 (x7_1 + 1)) bt267.1 bt267.2.1 bt267.2.2) else (some false)))) else (some false))) else (none)) else (none)) = some r := by rw [if_pos rfl] at H; exact H
              clear H
              have H := H1
              clear H1
              by_cases c15 : 0 ≤ x7_1
              · rw [if_pos c15] at H
                have c15b0 : decide (0 ≤ x7_1) = true := decide_eq_true c15
                clear c15
                by_cases c16 : x7_1 < (l1.length : Int)
                · rw [if_pos c16] at H
                  have c16b0 : decide (x7_1 < (l1.length : Int)) = true := decide_eq_true c16
                  clear c16
                  replace H := Option.bind_eq_some_iff.mp H
                  obtain ⟨⟨t267, t268, t269⟩, A170, H⟩ := H
                  replace H : (if t269 = (IntKind.u64.wrap (x6_1 + (rd l1 x7_1))) then ((clint_Clint_Lines.f t267 t268 t269).bind fun t271 => ((vireolaw11_flag.f (decide ((IntKind.u64.wrap (x6_1 + (rd l1 x7_1))) ≥ a0))).bind fun t272 => (if t271 = (IntKind.u64.wrap (t272 * 128)) then (vireolaw11_ClintTicks.l0 kj11 a0 l1 (IntKind.u64.wrap (x6_1 + (rd l1 x7_1))) (wrap64 (x7_1 + 1)) t267 t268 t269) else (some false)))) else (some false)) = some r := H
                  have A17 := Aside0.mk A170
                  clear A170
                  by_cases c18 : t269 = (IntKind.u64.wrap (x6_1 + (rd l1 x7_1)))
                  · rw [if_pos c18] at H
                    have c18b0 : (t269 == (IntKind.u64.wrap (x6_1 + (rd l1 x7_1)))) = true := beq_iff_eq.mpr c18
                    have c18b1 : (t269 != (IntKind.u64.wrap (x6_1 + (rd l1 x7_1)))) = false := bne_eq_false_iff_eq.mpr c18
                    clear c18
                    replace H := Option.bind_eq_some_iff.mp H
                    obtain ⟨t271, A190, H⟩ := H
                    replace H : ((vireolaw11_flag.f (decide ((IntKind.u64.wrap (x6_1 + (rd l1 x7_1))) ≥ a0))).bind fun t272 => (if t271 = (IntKind.u64.wrap (t272 * 128)) then (vireolaw11_ClintTicks.l0 kj11 a0 l1 (IntKind.u64.wrap (x6_1 + (rd l1 x7_1))) (wrap64 (x7_1 + 1)) t267 t268 t269) else (some false))) = some r := H
                    have A19 := Aside0.mk A190
                    clear A190
                    replace H := Option.bind_eq_some_iff.mp H
                    obtain ⟨t272, A200, H⟩ := H
                    replace H : (if t271 = (IntKind.u64.wrap (t272 * 128)) then (vireolaw11_ClintTicks.l0 kj11 a0 l1 (IntKind.u64.wrap (x6_1 + (rd l1 x7_1))) (wrap64 (x7_1 + 1)) t267 t268 t269) else (some false)) = some r := H
                    have A20 := Aside0.mk A200
                    clear A200
                    by_cases c21 : t271 = (IntKind.u64.wrap (t272 * 128))
                    · rw [if_pos c21] at H
                      have c21b0 : (t271 == (IntKind.u64.wrap (t272 * 128))) = true := beq_iff_eq.mpr c21
                      have c21b1 : (t271 != (IntKind.u64.wrap (t272 * 128))) = false := bne_eq_false_iff_eq.mpr c21
                      clear c21
                      have H' := Aside0.mk H
                      clear H
                      have p266 : 0 ≤ (x7_1 : Int) := of_decide_eq_true (by first | (with_reducible assumption) | assumption)
                      have q266 : x7_1 < (l1.length : Int) := of_decide_eq_true (by first | (with_reducible assumption) | assumption)
                      obtain ⟨ad266, e266, hx266_0⟩ := Kd.at_int HR1.out x7_1 p266 q266
                      cases e266
                      replace hx266_0 := (HB.out.cell (World.block_lt_of_cell? w _ hx266_0)).trans hx266_0
                      replace p266 := eq_true p266
                      replace q266 := eq_true q266
                      go_wp2_with (first | ((with_reducible refine gate_callee (f := 10) rfl ?_); refine goesL_ (some 27) rfl rfl Try.func10 (by kernel_rfl) rfl #[.pointer (some ⟨gb261, 0, none⟩), .int .u64 (rd l1 x7_1)] rfl (by (try simp only [List.map_toArray, List.map_cons, List.map_nil]); first | done | rfl | (simp only [List.length_drop, List.length_take]; rfl)) ?_; (with_reducible refine (clint_Clint_Tick.calls gb261 x262000_1 x262001_1 x262002_1 (rd l1 x7_1) t267 t268 t269 w _ ?side1 ?side2 A17.out).mono ?_); (case side1 => exact ⟨(by (with_reducible repeat (first | refine blk_drewN ?_ _ | refine blk_drew ?_ | refine blk_alloc ?_ _)); exact BK261.out), GE261.out⟩); (case side2 => repeat (first | (with_reducible first | exact HB.out | apply below_alloc | apply pw_below_drewN | apply below_drew1 | refine below_set ?_ GE261.out) | exact HB.out)); rintro e w22 ⟨rfl, hi, hb, hk⟩; refine ⟨_, rfl, ?_⟩; have n0_ := Aside0.mk (hb); have n1_ := Aside0.mk (hi.1); clear HB; clear BK261; have HB := n0_; have BK261 := n1_; clear n0_ n1_; (try clear hb); (try clear hb2); (try clear hk); (try clear hi); have p270 : 0 ≤ (x7_1 : Int) := of_decide_eq_true (by first | (with_reducible assumption) | assumption); have q270 : x7_1 < (l1.length : Int) := of_decide_eq_true (by first | (with_reducible assumption) | assumption); obtain ⟨ad270, e270, hx270_0⟩ := Kd.at_int HR1.out x7_1 p270 q270; obtain rfl : ad266 = ad270 := (by injection e270); replace hx270_0 := (HB.out.cell (World.block_lt_of_cell? w _ hx270_0)).trans hx270_0; replace p270 := eq_true p270; replace q270 := eq_true q270; have hcz23_0 : w22.cell? ⟨gb261, 0, none⟩ = some (.bool t267) := (blk_cell BK261.out 0).trans rfl; have hcz23_1 : w22.cell? ⟨gb261, 1, none⟩ = some (.int .u64 t268) := (blk_cell BK261.out 1).trans rfl; have hcz23_2 : w22.cell? ⟨gb261, 2, none⟩ = some (.int .u64 t269) := (blk_cell BK261.out 2).trans rfl; have hfz23_0 := blk_frozen BK261.out 0; have hfz23_1 := blk_frozen BK261.out 1; have hfz23_2 := blk_frozen BK261.out 2) | (go_at_call 11; (with_reducible refine (clint_Clint_Lines.calls gb261 t267 t268 t269 t271 w _ ?side1 ?side2 A19.out).mono ?_); (case side1 => exact ⟨(by (with_reducible repeat (first | refine blk_drewN ?_ _ | refine blk_drew ?_ | refine blk_alloc ?_ _)); exact BK261.out), GE261.out⟩); (case side2 => repeat (first | (with_reducible first | exact HB.out | apply below_alloc | apply pw_below_drewN | apply below_drew1 | refine below_set ?_ GE261.out) | exact HB.out)); rintro e w24 ⟨rfl, hi, hb, hk⟩; have n0_ := Aside0.mk (hb); have n1_ := Aside0.mk (hi.1); clear HB; clear BK261; have HB := n0_; have BK261 := n1_; clear n0_ n1_; (try clear hb); (try clear hb2); (try clear hk); (try clear hi)) | (go_at_call 12; (with_reducible refine (vireolaw11_flag.calls (decide ((IntKind.u64.wrap (x6_1 + (rd l1 x7_1))) ≥ a0)) t272 _ A20.out).mono ?_); rintro e w' ⟨rfl, ⟨nd, rfl⟩⟩))
                      go_roundg kj11
                      case measure => have := HK1.out; have := HJ11.out; omega
                      case rel => exact ⟨(IntKind.u64.wrap (x6_1 + (rd l1 x7_1))), (wrap64 (x7_1 + 1)), (t267), (t268), (t269), (by first | rfl | (simp; done) | (simp [*]; done) | (exfalso; simp_all; done)), (by first | rfl | (simp; done) | (simp [*]; done) | (exfalso; simp_all; done)), H', ⟨by have := HK1.out; have := HJ11.out; omega⟩, ⟨by (with_reducible repeat (first | refine blk_drewN ?_ _ | refine blk_drew ?_ | refine blk_alloc ?_ _)); exact BK261.out⟩, ⟨by repeat (first | (with_reducible first | exact HB.out | apply below_alloc | apply pw_below_drewN | apply below_drew1 | refine below_set ?_ GE261.out) | exact HB.out)⟩⟩
                    · rw [if_neg c21] at H
                      have c21b0 : (t271 == (IntKind.u64.wrap (t272 * 128))) = false := beq_eq_false_iff_ne.mpr c21
                      have c21b1 : (t271 != (IntKind.u64.wrap (t272 * 128))) = true := bne_iff_ne.mpr c21
                      obtain rfl := Option.some.inj H
                      have p266 : 0 ≤ (x7_1 : Int) := of_decide_eq_true (by first | (with_reducible assumption) | assumption)
                      have q266 : x7_1 < (l1.length : Int) := of_decide_eq_true (by first | (with_reducible assumption) | assumption)
                      obtain ⟨ad266, e266, hx266_0⟩ := Kd.at_int HR1.out x7_1 p266 q266
                      cases e266
                      replace hx266_0 := (HB.out.cell (World.block_lt_of_cell? w _ hx266_0)).trans hx266_0
                      replace p266 := eq_true p266
                      replace q266 := eq_true q266
                      go_wp2_with (first | ((with_reducible refine gate_callee (f := 10) rfl ?_); refine goesL_ (some 27) rfl rfl Try.func10 (by kernel_rfl) rfl #[.pointer (some ⟨gb261, 0, none⟩), .int .u64 (rd l1 x7_1)] rfl (by (try simp only [List.map_toArray, List.map_cons, List.map_nil]); first | done | rfl | (simp only [List.length_drop, List.length_take]; rfl)) ?_; (with_reducible refine (clint_Clint_Tick.calls gb261 x262000_1 x262001_1 x262002_1 (rd l1 x7_1) t267 t268 t269 w _ ?side1 ?side2 A17.out).mono ?_); (case side1 => exact ⟨(by (with_reducible repeat (first | refine blk_drewN ?_ _ | refine blk_drew ?_ | refine blk_alloc ?_ _)); exact BK261.out), GE261.out⟩); (case side2 => repeat (first | (with_reducible first | exact HB.out | apply below_alloc | apply pw_below_drewN | apply below_drew1 | refine below_set ?_ GE261.out) | exact HB.out)); rintro e w25 ⟨rfl, hi, hb, hk⟩; refine ⟨_, rfl, ?_⟩; have n0_ := Aside0.mk (hb); have n1_ := Aside0.mk (hi.1); clear HB; clear BK261; have HB := n0_; have BK261 := n1_; clear n0_ n1_; (try clear hb); (try clear hb2); (try clear hk); (try clear hi); have p270 : 0 ≤ (x7_1 : Int) := of_decide_eq_true (by first | (with_reducible assumption) | assumption); have q270 : x7_1 < (l1.length : Int) := of_decide_eq_true (by first | (with_reducible assumption) | assumption); obtain ⟨ad270, e270, hx270_0⟩ := Kd.at_int HR1.out x7_1 p270 q270; obtain rfl : ad266 = ad270 := (by injection e270); replace hx270_0 := (HB.out.cell (World.block_lt_of_cell? w _ hx270_0)).trans hx270_0; replace p270 := eq_true p270; replace q270 := eq_true q270; have hcz26_0 : w25.cell? ⟨gb261, 0, none⟩ = some (.bool t267) := (blk_cell BK261.out 0).trans rfl; have hcz26_1 : w25.cell? ⟨gb261, 1, none⟩ = some (.int .u64 t268) := (blk_cell BK261.out 1).trans rfl; have hcz26_2 : w25.cell? ⟨gb261, 2, none⟩ = some (.int .u64 t269) := (blk_cell BK261.out 2).trans rfl; have hfz26_0 := blk_frozen BK261.out 0; have hfz26_1 := blk_frozen BK261.out 1; have hfz26_2 := blk_frozen BK261.out 2) | (go_at_call 11; (with_reducible refine (clint_Clint_Lines.calls gb261 t267 t268 t269 t271 w _ ?side1 ?side2 A19.out).mono ?_); (case side1 => exact ⟨(by (with_reducible repeat (first | refine blk_drewN ?_ _ | refine blk_drew ?_ | refine blk_alloc ?_ _)); exact BK261.out), GE261.out⟩); (case side2 => repeat (first | (with_reducible first | exact HB.out | apply below_alloc | apply pw_below_drewN | apply below_drew1 | refine below_set ?_ GE261.out) | exact HB.out)); rintro e w27 ⟨rfl, hi, hb, hk⟩; have n0_ := Aside0.mk (hb); have n1_ := Aside0.mk (hi.1); clear HB; clear BK261; have HB := n0_; have BK261 := n1_; clear n0_ n1_; (try clear hb); (try clear hb2); (try clear hk); (try clear hi)) | (go_at_call 12; (with_reducible refine (vireolaw11_flag.calls (decide ((IntKind.u64.wrap (x6_1 + (rd l1 x7_1))) ≥ a0)) t272 _ A20.out).mono ?_); rintro e w' ⟨rfl, ⟨nd, rfl⟩⟩))
                      go_ret
                      exact ⟨by first | rfl | (simp [errW_none, errW_some] <;> rfl) | (simp [*, errW_none, errW_some] <;> rfl) | (exfalso; simp_all; done), by repeat (first | (with_reducible first | exact HB.out | apply below_alloc | apply pw_below_drewN | apply below_drew1 | refine below_set ?_ GE261.out) | exact HB.out)⟩
                  · rw [if_neg c18] at H
                    have c18b0 : (t269 == (IntKind.u64.wrap (x6_1 + (rd l1 x7_1)))) = false := beq_eq_false_iff_ne.mpr c18
                    have c18b1 : (t269 != (IntKind.u64.wrap (x6_1 + (rd l1 x7_1)))) = true := bne_iff_ne.mpr c18
                    obtain rfl := Option.some.inj H
                    have p266 : 0 ≤ (x7_1 : Int) := of_decide_eq_true (by first | (with_reducible assumption) | assumption)
                    have q266 : x7_1 < (l1.length : Int) := of_decide_eq_true (by first | (with_reducible assumption) | assumption)
                    obtain ⟨ad266, e266, hx266_0⟩ := Kd.at_int HR1.out x7_1 p266 q266
                    cases e266
                    replace hx266_0 := (HB.out.cell (World.block_lt_of_cell? w _ hx266_0)).trans hx266_0
                    replace p266 := eq_true p266
                    replace q266 := eq_true q266
                    go_wp2_with (first | ((with_reducible refine gate_callee (f := 10) rfl ?_); refine goesL_ (some 27) rfl rfl Try.func10 (by kernel_rfl) rfl #[.pointer (some ⟨gb261, 0, none⟩), .int .u64 (rd l1 x7_1)] rfl (by (try simp only [List.map_toArray, List.map_cons, List.map_nil]); first | done | rfl | (simp only [List.length_drop, List.length_take]; rfl)) ?_; (with_reducible refine (clint_Clint_Tick.calls gb261 x262000_1 x262001_1 x262002_1 (rd l1 x7_1) t267 t268 t269 w _ ?side1 ?side2 A17.out).mono ?_); (case side1 => exact ⟨(by (with_reducible repeat (first | refine blk_drewN ?_ _ | refine blk_drew ?_ | refine blk_alloc ?_ _)); exact BK261.out), GE261.out⟩); (case side2 => repeat (first | (with_reducible first | exact HB.out | apply below_alloc | apply pw_below_drewN | apply below_drew1 | refine below_set ?_ GE261.out) | exact HB.out)); rintro e w28 ⟨rfl, hi, hb, hk⟩; refine ⟨_, rfl, ?_⟩; have n0_ := Aside0.mk (hb); have n1_ := Aside0.mk (hi.1); clear HB; clear BK261; have HB := n0_; have BK261 := n1_; clear n0_ n1_; (try clear hb); (try clear hb2); (try clear hk); (try clear hi); have p270 : 0 ≤ (x7_1 : Int) := of_decide_eq_true (by first | (with_reducible assumption) | assumption); have q270 : x7_1 < (l1.length : Int) := of_decide_eq_true (by first | (with_reducible assumption) | assumption); obtain ⟨ad270, e270, hx270_0⟩ := Kd.at_int HR1.out x7_1 p270 q270; obtain rfl : ad266 = ad270 := (by injection e270); replace hx270_0 := (HB.out.cell (World.block_lt_of_cell? w _ hx270_0)).trans hx270_0; replace p270 := eq_true p270; replace q270 := eq_true q270; have hcz29_0 : w28.cell? ⟨gb261, 0, none⟩ = some (.bool t267) := (blk_cell BK261.out 0).trans rfl; have hcz29_1 : w28.cell? ⟨gb261, 1, none⟩ = some (.int .u64 t268) := (blk_cell BK261.out 1).trans rfl; have hcz29_2 : w28.cell? ⟨gb261, 2, none⟩ = some (.int .u64 t269) := (blk_cell BK261.out 2).trans rfl; have hfz29_0 := blk_frozen BK261.out 0; have hfz29_1 := blk_frozen BK261.out 1; have hfz29_2 := blk_frozen BK261.out 2))
                    go_ret
                    exact ⟨by first | rfl | (simp [errW_none, errW_some] <;> rfl) | (simp [*, errW_none, errW_some] <;> rfl) | (exfalso; simp_all; done), by repeat (first | (with_reducible first | exact HB.out | apply below_alloc | apply pw_below_drewN | apply below_drew1 | refine below_set ?_ GE261.out) | exact HB.out)⟩
                · rw [if_neg c16] at H
                  exact absurd H (by simp)
              · rw [if_neg c15] at H
                exact absurd H (by simp)
            · replace c14 := Bool.eq_false_iff.mpr c14
              subst c14
              have H1 : (some true) = some r := by rw [if_neg (show ¬ (false = true) by decide)] at H; exact H
              clear H
              have H := H1
              clear H1
              obtain rfl := Option.some.inj H
              go_wp2
              go_ret
              exact ⟨by first | rfl | (simp [errW_none, errW_some] <;> rfl) | (simp [*, errW_none, errW_some] <;> rfl) | (exfalso; simp_all; done), by repeat (first | (with_reducible first | exact HB.out | apply below_alloc | apply pw_below_drewN | apply below_drew1 | refine below_set ?_ GE261.out) | exact HB.out)⟩
  · replace c4 := Bool.eq_false_iff.mpr c4
    subst c4
    have H1 : (some false) = some r := by rw [if_neg (show ¬ (false = true) by decide)] at H; exact H
    clear H
    have H := H1
    clear H1
    obtain rfl := Option.some.inj H
    go_enter Try.func3, Try.ntmps3
    go_wp2_with (first | ((with_reducible refine gate_callee (f := 7) rfl ?_); refine goesL_ (some 8) rfl rfl Try.func7 (by kernel_rfl) rfl #[] rfl (by (try simp only [List.map_toArray, List.map_cons, List.map_nil]); first | done | rfl | (simp only [List.length_drop, List.length_take]; rfl)) ?_; (with_reducible refine (vireolaw11_awake.calls  false _ A3.out).mono ?_); rintro e w30 ⟨rfl, hb⟩; refine ⟨_, rfl, ?_⟩; have n0_ := Aside0.mk (below_step (by repeat (first | (with_reducible first | exact HB.out | apply below_alloc | apply pw_below_drewN | apply below_drew1) | exact HB.out)) hb); clear HB; have HB := n0_; clear n0_; (try clear hb); (try clear hb2); (try clear hk); (try clear hi)))
    go_ret
    exact ⟨by first | rfl | (simp [errW_none, errW_some] <;> rfl) | (simp [*, errW_none, errW_some] <;> rfl) | (exfalso; simp_all; done), by repeat (first | (with_reducible first | exact HB.out | apply below_alloc | apply pw_below_drewN | apply below_drew1) | exact HB.out)⟩

/-- THE ONE PURE STATEMENT of vireolaw11_ClintTicks: yours. -/
def vireolaw11_ClintTicks.Pure : Prop := ∀ (a0 : Int) (l1 : List Int), (Lit.int .u64 a0).wf = true → l1.length ≤ maxLen → l1.length * 8 ≤ 140737488351232 → (∀ x ∈ l1, (Lit.int .u64 x).wf = true) → ∃ k, vireolaw11_ClintTicks.f k a0 l1 = some true
theorem vireolaw11_ClintTicks.walk (P : vireolaw11_ClintTicks.Pure) (a0 : Int) (a1 : Option Addr) (len1 cap1 : Nat) (z1 : List Int) (w : World) (w0 : (Lit.int .u64 a0).wf = true) (w1 : (a1 = none ∧ len1 = 0 ∧ cap1 = 0 ∧ z1 = []) ∨ ∃ x, a1 = some x ∧ len1 ≤ cap1 ∧ cap1 ≤ maxLen ∧ z1.length = cap1 ∧ (∀ i, i < z1.length → w.cell? (x.add i) = some (.int .u64 (z1.getD i 0))) ∧ ∀ n ∈ z1, (Lit.int .u64 n).wf = true) (y1 : len1 * 8 ≤ 140737488351232) :
    Calls Try.prog 3 #[.int .u64 a0, .slice a1 len1 cap1] w fun e w' => e = .returned (.bool true) ∧ Below w.heap.size w w' := by
  obtain ⟨l1, rfl, hr1, hm1, hw1, hc1⟩ := ReadsInt.ofRowC w1
  obtain ⟨k, h⟩ := P a0 l1 w0 hm1 y1 hw1
  refine (vireolaw11_ClintTicks.calls k a0 _ _ l1 true w (Kd.C_of_reads (d := (0 : Int)) (h1 := fun _ => rfl) hr1) hc1 h).mono ?_
  rintro e w' ⟨rfl, hd⟩
  exact ⟨rfl, hd⟩

end Go.Proofs.Ytpodgoceheoogaa.PFi
