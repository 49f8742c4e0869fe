-- Laid by this seat's own program (wip/tools/pp.sh, a turned copy of the kit's print). Lean checks it.
import Derived.Test.YtomomaldkliofaaPAllx0
import Derived.Test.YtomomaldkliofaaPAllx1
import Derived.Test.YtomomaldkliofaaPAllx2
import Derived.Test.YtomomaldkliofaaPAllx3
namespace Go.Proofs.Ytomomaldkliofaa.PAll
open Go.RowKit Go.Proofs.YtomomaldkliofaaW.PrintWords Go.Proofs.YtomomaldkliofaaW.PrintLast Go.Proofs.YtomomaldkliofaaW.PrintMore
attribute [local go_sem] max2_int min2_int max_two min_two max_three min_three max_four min_four   -- for this text's walks alone
set_option linter.unusedVariables false
set_option linter.unusedSimpArgs false

/-! ### vireoref06_Do: function 10 -/
mutual
def vireoref06_Do.j0 : Nat → Int → Int → Int → Int → Int → Int → Int → Int → Bool → Option (Int × Bool)
  | 0, _, _, _, _, _, _, _, _, _ => none
  | k + 1, x0, x1, x2, x8, x9, x10, x11, x28, x60 => if x60 = true then ((vireoref06_SignedQuotient.f k x1 x2).bind fun bt200 => ((vireoref06_choose.f (x0 == 64) bt200.1 bt200.2).bind fun t202 => (some (t202, true)))) else (if x28 = 65 then (vireoref06_Do.j1 k x0 x1 x2 x8 x9 x10 x11 x28 (x28 == 65)) else (vireoref06_Do.j1 k x0 x1 x2 x8 x9 x10 x11 x28 (x28 == 67)))
def vireoref06_Do.j1 : Nat → Int → Int → Int → Int → Int → Int → Int → Int → Bool → Option (Int × Bool)
  | 0, _, _, _, _, _, _, _, _, _ => none
  | k + 1, x0, x1, x2, x8, x9, x10, x11, x28, x74 => if x74 = true then ((vireoref06_Unsigned.f k x1 x2).bind fun bt203 => ((vireoref06_choose.f (x0 == 65) bt203.1 bt203.2).bind fun t205 => (some (t205, true)))) else (if x28 = 69 then (vireoref06_Do.j2 k x0 x8 x9 x10 x11 x28 (x28 == 69)) else (vireoref06_Do.j2 k x0 x8 x9 x10 x11 x28 (x28 == 71)))
def vireoref06_Do.j2 : Nat → Int → Int → Int → Int → Int → Int → Bool → Option (Int × Bool)
  | 0, _, _, _, _, _, _, _ => none
  | k + 1, x0, x8, x9, x10, x11, x28, x88 => if x88 = true then ((vireoref06_SignedQuotient.f k x10 x11).bind fun bt206 => ((vireoref06_choose.f (x0 == 69) bt206.1 bt206.2).bind fun t208 => ((vireoref01_Sext.f k t208 32).bind fun t209 => (some (t209, true))))) else (if x28 = 70 then (vireoref06_Do.j3 k x0 x8 x9 (x28 == 70)) else (vireoref06_Do.j3 k x0 x8 x9 (x28 == 72)))
def vireoref06_Do.j3 : Nat → Int → Int → Int → Bool → Option (Int × Bool)
  | 0, _, _, _, _ => none
  | k + 1, x0, x8, x9, x103 => if x103 = true then ((vireoref06_Unsigned.f k x8 x9).bind fun bt210 => ((vireoref06_choose.f (x0 == 70) bt210.1 bt210.2).bind fun t212 => ((vireoref01_Sext.f k t212 32).bind fun t213 => (some (t213, true))))) else (some (0, false))
end
def vireoref06_Do.f (k : Nat) (a0 : Int) (a1 : Int) (a2 : Int) : Option (Int × Bool) := (vireoref01_Sext.f k a1 32).bind fun t187 => ((vireoref01_Sext.f k a2 32).bind fun t188 => (if a0 = 60 then ((vireoref06_Product.f k a1 a2).bind fun bt189 => (some (bt189.2, true))) else (if a0 = 61 then ((vireoref06_Signed.f k a1 a2 true).bind fun bt191 => (some (bt191.1, true))) else (if a0 = 62 then ((vireoref06_Signed.f k a1 a2 false).bind fun bt193 => (some (bt193.1, true))) else (if a0 = 63 then ((vireoref06_Product.f k a1 a2).bind fun bt195 => (some (bt195.1, true))) else (if a0 = 68 then ((vireoref06_Product.f k (Int.tmod a1 4294967296) (Int.tmod a2 4294967296)).bind fun bt197 => ((vireoref01_Sext.f k bt197.2 32).bind fun t199 => (some (t199, true)))) else (if a0 = 64 then (vireoref06_Do.j0 k a0 a1 a2 (Int.tmod a1 4294967296) (Int.tmod a2 4294967296) t187 t188 a0 (a0 == 64)) else (vireoref06_Do.j0 k a0 a1 a2 (Int.tmod a1 4294967296) (Int.tmod a2 4294967296) t187 t188 a0 (a0 == 66)))))))))
theorem vireoref06_Do.mono_l : ∀ k, (∀ y0 y1 y2 y3 y4 y5 y6 y7 y8, LeO (vireoref06_Do.j0 k y0 y1 y2 y3 y4 y5 y6 y7 y8) (vireoref06_Do.j0 (k + 1) y0 y1 y2 y3 y4 y5 y6 y7 y8)) ∧ (∀ y0 y1 y2 y3 y4 y5 y6 y7 y8, LeO (vireoref06_Do.j1 k y0 y1 y2 y3 y4 y5 y6 y7 y8) (vireoref06_Do.j1 (k + 1) y0 y1 y2 y3 y4 y5 y6 y7 y8)) ∧ (∀ y0 y1 y2 y3 y4 y5 y6, LeO (vireoref06_Do.j2 k y0 y1 y2 y3 y4 y5 y6) (vireoref06_Do.j2 (k + 1) y0 y1 y2 y3 y4 y5 y6)) ∧ (∀ y0 y1 y2 y3, LeO (vireoref06_Do.j3 k y0 y1 y2 y3) (vireoref06_Do.j3 (k + 1) y0 y1 y2 y3))
  | 0 => ⟨fun _ _ _ _ _ _ _ _ _ r h => by simp [vireoref06_Do.j0] at h, fun _ _ _ _ _ _ _ _ _ r h => by simp [vireoref06_Do.j1] at h, fun _ _ _ _ _ _ _ r h => by simp [vireoref06_Do.j2] at h, fun _ _ _ _ r h => by simp [vireoref06_Do.j3] at h⟩
  | k + 1 => by
    obtain ⟨ih0, ih1, ih2, ih3⟩ := vireoref06_Do.mono_l k
    refine ⟨?_, ?_, ?_, ?_⟩
    · intro y0 y1 y2 y3 y4 y5 y6 y7 y8
      unfold vireoref06_Do.j0
      repeat' first
      | (with_reducible exact ih0 _ _ _ _ _ _ _ _ _)
      | (with_reducible exact ih1 _ _ _ _ _ _ _ _ _)
      | (with_reducible exact ih2 _ _ _ _ _ _ _)
      | (with_reducible exact ih3 _ _ _ _)
      | (with_reducible exact vireoref01_Sext.mono _ _ _)
      | (with_reducible exact vireoref06_Product.mono _ _ _)
      | (with_reducible exact vireoref06_Signed.mono _ _ _ _)
      | (with_reducible exact vireoref06_SignedQuotient.mono _ _ _)
      | (with_reducible exact vireoref06_Unsigned.mono _ _ _)
      | (with_reducible exact LeO.refl _)
      | (with_reducible exact LeO.none _)
      | (with_reducible refine LeO.ite ?_ ?_)
      | (with_reducible refine LeO.bind ?_ (fun _ => ?_))
      | exact ih0 _ _ _ _ _ _ _ _ _
      | exact ih1 _ _ _ _ _ _ _ _ _
      | exact ih2 _ _ _ _ _ _ _
      | exact ih3 _ _ _ _
      | exact vireoref01_Sext.mono _ _ _
      | exact vireoref06_Product.mono _ _ _
      | exact vireoref06_Signed.mono _ _ _ _
      | exact vireoref06_SignedQuotient.mono _ _ _
      | exact vireoref06_Unsigned.mono _ _ _
      | exact LeO.none _
      | refine LeO.ite ?_ ?_
      | refine LeO.bind ?_ (fun _ => ?_)
    · intro y0 y1 y2 y3 y4 y5 y6 y7 y8
      unfold vireoref06_Do.j1
      repeat' first
      | (with_reducible exact ih0 _ _ _ _ _ _ _ _ _)
      | (with_reducible exact ih1 _ _ _ _ _ _ _ _ _)
      | (with_reducible exact ih2 _ _ _ _ _ _ _)
      | (with_reducible exact ih3 _ _ _ _)
      | (with_reducible exact vireoref01_Sext.mono _ _ _)
      | (with_reducible exact vireoref06_Product.mono _ _ _)
      | (with_reducible exact vireoref06_Signed.mono _ _ _ _)
      | (with_reducible exact vireoref06_SignedQuotient.mono _ _ _)
      | (with_reducible exact vireoref06_Unsigned.mono _ _ _)
      | (with_reducible exact LeO.refl _)
      | (with_reducible exact LeO.none _)
      | (with_reducible refine LeO.ite ?_ ?_)
      | (with_reducible refine LeO.bind ?_ (fun _ => ?_))
      | exact ih0 _ _ _ _ _ _ _ _ _
      | exact ih1 _ _ _ _ _ _ _ _ _
      | exact ih2 _ _ _ _ _ _ _
      | exact ih3 _ _ _ _
      | exact vireoref01_Sext.mono _ _ _
      | exact vireoref06_Product.mono _ _ _
      | exact vireoref06_Signed.mono _ _ _ _
      | exact vireoref06_SignedQuotient.mono _ _ _
      | exact vireoref06_Unsigned.mono _ _ _
      | exact LeO.none _
      | refine LeO.ite ?_ ?_
      | refine LeO.bind ?_ (fun _ => ?_)
    · intro y0 y1 y2 y3 y4 y5 y6
      unfold vireoref06_Do.j2
      repeat' first
      | (with_reducible exact ih0 _ _ _ _ _ _ _ _ _)
      | (with_reducible exact ih1 _ _ _ _ _ _ _ _ _)
      | (with_reducible exact ih2 _ _ _ _ _ _ _)
      | (with_reducible exact ih3 _ _ _ _)
      | (with_reducible exact vireoref01_Sext.mono _ _ _)
      | (with_reducible exact vireoref06_Product.mono _ _ _)
      | (with_reducible exact vireoref06_Signed.mono _ _ _ _)
      | (with_reducible exact vireoref06_SignedQuotient.mono _ _ _)
      | (with_reducible exact vireoref06_Unsigned.mono _ _ _)
      | (with_reducible exact LeO.refl _)
      | (with_reducible exact LeO.none _)
      | (with_reducible refine LeO.ite ?_ ?_)
      | (with_reducible refine LeO.bind ?_ (fun _ => ?_))
      | exact ih0 _ _ _ _ _ _ _ _ _
      | exact ih1 _ _ _ _ _ _ _ _ _
      | exact ih2 _ _ _ _ _ _ _
      | exact ih3 _ _ _ _
      | exact vireoref01_Sext.mono _ _ _
      | exact vireoref06_Product.mono _ _ _
      | exact vireoref06_Signed.mono _ _ _ _
      | exact vireoref06_SignedQuotient.mono _ _ _
      | exact vireoref06_Unsigned.mono _ _ _
      | exact LeO.none _
      | refine LeO.ite ?_ ?_
      | refine LeO.bind ?_ (fun _ => ?_)
    · intro y0 y1 y2 y3
      unfold vireoref06_Do.j3
      repeat' first
      | (with_reducible exact ih0 _ _ _ _ _ _ _ _ _)
      | (with_reducible exact ih1 _ _ _ _ _ _ _ _ _)
      | (with_reducible exact ih2 _ _ _ _ _ _ _)
      | (with_reducible exact ih3 _ _ _ _)
      | (with_reducible exact vireoref01_Sext.mono _ _ _)
      | (with_reducible exact vireoref06_Product.mono _ _ _)
      | (with_reducible exact vireoref06_Signed.mono _ _ _ _)
      | (with_reducible exact vireoref06_SignedQuotient.mono _ _ _)
      | (with_reducible exact vireoref06_Unsigned.mono _ _ _)
      | (with_reducible exact LeO.refl _)
      | (with_reducible exact LeO.none _)
      | (with_reducible refine LeO.ite ?_ ?_)
      | (with_reducible refine LeO.bind ?_ (fun _ => ?_))
      | exact ih0 _ _ _ _ _ _ _ _ _
      | exact ih1 _ _ _ _ _ _ _ _ _
      | exact ih2 _ _ _ _ _ _ _
      | exact ih3 _ _ _ _
      | exact vireoref01_Sext.mono _ _ _
      | exact vireoref06_Product.mono _ _ _
      | exact vireoref06_Signed.mono _ _ _ _
      | exact vireoref06_SignedQuotient.mono _ _ _
      | exact vireoref06_Unsigned.mono _ _ _
      | exact LeO.none _
      | refine LeO.ite ?_ ?_
      | refine LeO.bind ?_ (fun _ => ?_)
theorem vireoref06_Do.mono : ∀ a0 a1 a2 k, LeO (vireoref06_Do.f k a0 a1 a2) (vireoref06_Do.f (k + 1) a0 a1 a2) := by
  intro a0 a1 a2 k
  obtain ⟨ih0, ih1, ih2, ih3⟩ := vireoref06_Do.mono_l k
  unfold vireoref06_Do.f
  repeat' first
      | (with_reducible exact ih0 _ _ _ _ _ _ _ _ _)
      | (with_reducible exact ih1 _ _ _ _ _ _ _ _ _)
      | (with_reducible exact ih2 _ _ _ _ _ _ _)
      | (with_reducible exact ih3 _ _ _ _)
      | (with_reducible exact vireoref01_Sext.mono _ _ _)
      | (with_reducible exact vireoref06_Product.mono _ _ _)
      | (with_reducible exact vireoref06_Signed.mono _ _ _ _)
      | (with_reducible exact vireoref06_SignedQuotient.mono _ _ _)
      | (with_reducible exact vireoref06_Unsigned.mono _ _ _)
      | (with_reducible exact LeO.refl _)
      | (with_reducible exact LeO.none _)
      | (with_reducible refine LeO.ite ?_ ?_)
      | (with_reducible refine LeO.bind ?_ (fun _ => ?_))
      | exact ih0 _ _ _ _ _ _ _ _ _
      | exact ih1 _ _ _ _ _ _ _ _ _
      | exact ih2 _ _ _ _ _ _ _
      | exact ih3 _ _ _ _
      | exact vireoref01_Sext.mono _ _ _
      | exact vireoref06_Product.mono _ _ _
      | exact vireoref06_Signed.mono _ _ _ _
      | exact vireoref06_SignedQuotient.mono _ _ _
      | exact vireoref06_Unsigned.mono _ _ _
      | exact LeO.none _
      | refine LeO.ite ?_ ?_
      | refine LeO.bind ?_ (fun _ => ?_)
set_option maxHeartbeats 8000000 in
set_option maxRecDepth 100000 in
theorem vireoref06_Do.calls (k : Nat) (a0 : Int) (a1 : Int) (a2 : Int) (r1 : Int) (r2 : Bool) (w : World) (h : vireoref06_Do.f k a0 a1 a2 = some (r1, r2)) :
    Calls Try.prog 10 #[.int .i64 a0, .int .u64 a1, .int .u64 a2] w fun e w' => e = .returned (.tuple #[.int .u64 r1, .bool r2]) ∧ Below w.heap.size w w' := by
  have hf29_1 : ∀ (x0_ x1_ : Value) (W : World), (Instr.field 29 (.agg #[x0_, x1_]) 1).run Try.prog W = .ok (x1_) W := fun _ _ _ => by kernel_rfl
  have hf29_0 : ∀ (x0_ x1_ : Value) (W : World), (Instr.field 29 (.agg #[x0_, x1_]) 0).run Try.prog W = .ok (x0_) W := fun _ _ _ => by kernel_rfl
  have HB := Aside0.mk (Below.refl w.heap.size w)
  have H : ((vireoref01_Sext.f k a1 32).bind fun t187 => ((vireoref01_Sext.f k a2 32).bind fun t188 => (if a0 = 60 then ((vireoref06_Product.f k a1 a2).bind fun bt189 => (some (bt189.2, true))) else (if a0 = 61 then ((vireoref06_Signed.f k a1 a2 true).bind fun bt191 => (some (bt191.1, true))) else (if a0 = 62 then ((vireoref06_Signed.f k a1 a2 false).bind fun bt193 => (some (bt193.1, true))) else (if a0 = 63 then ((vireoref06_Product.f k a1 a2).bind fun bt195 => (some (bt195.1, true))) else (if a0 = 68 then ((vireoref06_Product.f k (Int.tmod a1 4294967296) (Int.tmod a2 4294967296)).bind fun bt197 => ((vireoref01_Sext.f k bt197.2 32).bind fun t199 => (some (t199, true)))) else (if a0 = 64 then (vireoref06_Do.j0 k a0 a1 a2 (Int.tmod a1 4294967296) (Int.tmod a2 4294967296) t187 t188 a0 (a0 == 64)) else (vireoref06_Do.j0 k a0 a1 a2 (Int.tmod a1 4294967296) (Int.tmod a2 4294967296) t187 t188 a0 (a0 == 66)))))))))) = some (r1, r2) := h
  clear h
  replace H := Option.bind_eq_some_iff.mp H
  obtain ⟨t187, A40, H⟩ := H
  replace H : ((vireoref01_Sext.f k a2 32).bind fun t188 => (if a0 = 60 then ((vireoref06_Product.f k a1 a2).bind fun bt189 => (some (bt189.2, true))) else (if a0 = 61 then ((vireoref06_Signed.f k a1 a2 true).bind fun bt191 => (some (bt191.1, true))) else (if a0 = 62 then ((vireoref06_Signed.f k a1 a2 false).bind fun bt193 => (some (bt193.1, true))) else (if a0 = 63 then ((vireoref06_Product.f k a1 a2).bind fun bt195 => (some (bt195.1, true))) else (if a0 = 68 then ((vireoref06_Product.f k (Int.tmod a1 4294967296) (Int.tmod a2 4294967296)).bind fun bt197 => ((vireoref01_Sext.f k bt197.2 32).bind fun t199 => (some (t199, true)))) else (if a0 = 64 then (vireoref06_Do.j0 k a0 a1 a2 (Int.tmod a1 4294967296) (Int.tmod a2 4294967296) t187 t188 a0 (a0 == 64)) else (vireoref06_Do.j0 k a0 a1 a2 (Int.tmod a1 4294967296) (Int.tmod a2 4294967296) t187 t188 a0 (a0 == 66))))))))) = some (r1, r2) := H
  have A4 := Aside0.mk A40
  clear A40
  replace H := Option.bind_eq_some_iff.mp H
  obtain ⟨t188, A50, H⟩ := H
  replace H : (if a0 = 60 then ((vireoref06_Product.f k a1 a2).bind fun bt189 => (some (bt189.2, true))) else (if a0 = 61 then ((vireoref06_Signed.f k a1 a2 true).bind fun bt191 => (some (bt191.1, true))) else (if a0 = 62 then ((vireoref06_Signed.f k a1 a2 false).bind fun bt193 => (some (bt193.1, true))) else (if a0 = 63 then ((vireoref06_Product.f k a1 a2).bind fun bt195 => (some (bt195.1, true))) else (if a0 = 68 then ((vireoref06_Product.f k (Int.tmod a1 4294967296) (Int.tmod a2 4294967296)).bind fun bt197 => ((vireoref01_Sext.f k bt197.2 32).bind fun t199 => (some (t199, true)))) else (if a0 = 64 then (vireoref06_Do.j0 k a0 a1 a2 (Int.tmod a1 4294967296) (Int.tmod a2 4294967296) t187 t188 a0 (a0 == 64)) else (vireoref06_Do.j0 k a0 a1 a2 (Int.tmod a1 4294967296) (Int.tmod a2 4294967296) t187 t188 a0 (a0 == 66)))))))) = some (r1, r2) := H
  have A5 := Aside0.mk A50
  clear A50
  by_cases c6 : a0 = 60
  · rw [if_pos c6] at H
    have c6b0 : (a0 == 60) = true := beq_iff_eq.mpr c6
    have c6b1 : (a0 != 60) = false := bne_eq_false_iff_eq.mpr c6
    clear c6
    replace H := Option.bind_eq_some_iff.mp H
    obtain ⟨⟨t189, t190⟩, A70, H⟩ := H
    replace H : (some (t190, true)) = some (r1, r2) := H
    have A7 := Aside0.mk A70
    clear A70
    simp only [Option.some.injEq, Prod.mk.injEq] at H
    obtain ⟨rfl, rfl⟩ := H
    go_enter Try.func10, Try.ntmps10
    go_wp2_with (first | ((with_reducible refine gate_callee (f := 15) rfl ?_); refine goesL_ (some 25) rfl rfl Try.func15 (by kernel_rfl) rfl #[.int .u64 a1, .int .i64 32] rfl (by (try simp only [List.map_toArray, List.map_cons, List.map_nil]); first | done | rfl | (simp only [List.length_drop, List.length_take]; rfl)) ?_; (with_reducible refine (vireoref01_Sext.calls k a1 32 t187 _ A4.out).mono ?_); rintro e w8 ⟨rfl, hb⟩; refine ⟨_, rfl, ?_⟩; have n0_ := Aside0.mk (below_step (by repeat (first | (with_reducible first | exact HB.out | apply below_alloc | apply pw_below_drewN | apply below_drew1) | exact HB.out)) hb); clear HB; have HB := n0_; clear n0_; (try clear hb); (try clear hb2); (try clear hk); (try clear hi)) | ((with_reducible refine gate_callee (f := 15) rfl ?_); refine goesL_ (some 27) rfl rfl Try.func15 (by kernel_rfl) rfl #[.int .u64 a2, .int .i64 32] rfl (by (try simp only [List.map_toArray, List.map_cons, List.map_nil]); first | done | rfl | (simp only [List.length_drop, List.length_take]; rfl)) ?_; (with_reducible refine (vireoref01_Sext.calls k a2 32 t188 _ A5.out).mono ?_); rintro e w9 ⟨rfl, hb⟩; refine ⟨_, rfl, ?_⟩; have n0_ := Aside0.mk (below_step (by repeat (first | (with_reducible first | exact HB.out | apply below_alloc | apply pw_below_drewN | apply below_drew1) | exact HB.out)) hb); clear HB; have HB := n0_; clear n0_; (try clear hb); (try clear hb2); (try clear hk); (try clear hi)) | ((with_reducible refine gate_callee (f := 12) rfl ?_); refine goesL_ (some 33) rfl rfl Try.func12 (by kernel_rfl) rfl #[.int .u64 a1, .int .u64 a2] rfl (by (try simp only [List.map_toArray, List.map_cons, List.map_nil]); first | done | rfl | (simp only [List.length_drop, List.length_take]; rfl)) ?_; (with_reducible refine (vireoref06_Product.calls k a1 a2 t189 t190 _ A7.out).mono ?_); rintro e w10 ⟨rfl, hb⟩; refine ⟨_, rfl, ?_⟩; have n0_ := Aside0.mk (below_step (by repeat (first | (with_reducible first | exact HB.out | apply below_alloc | apply pw_below_drewN | apply below_drew1) | exact HB.out)) hb); clear HB; have HB := n0_; clear n0_; (try clear hb); (try clear hb2); (try clear hk); (try clear hi)))
    go_ret2
    exact ⟨by first | rfl | (simp [errW_none, errW_some] <;> rfl) | (simp [*, errW_none, errW_some] <;> rfl), by repeat (first | (with_reducible first | exact HB.out | apply below_alloc | apply pw_below_drewN | apply below_drew1) | exact HB.out)⟩
  · rw [if_neg c6] at H
    have c6b0 : (a0 == 60) = false := beq_eq_false_iff_ne.mpr c6
    have c6b1 : (a0 != 60) = true := bne_iff_ne.mpr c6
    by_cases c11 : a0 = 61
    · rw [if_pos c11] at H
      have c11b0 : (a0 == 61) = true := beq_iff_eq.mpr c11
      have c11b1 : (a0 != 61) = false := bne_eq_false_iff_eq.mpr c11
      clear c11
      replace H := Option.bind_eq_some_iff.mp H
      obtain ⟨⟨t191, t192⟩, A120, H⟩ := H
      replace H : (some (t191, true)) = some (r1, r2) := H
      have A12 := Aside0.mk A120
      clear A120
      simp only [Option.some.injEq, Prod.mk.injEq] at H
      obtain ⟨rfl, rfl⟩ := H
      go_enter Try.func10, Try.ntmps10
      go_wp2_with (first | ((with_reducible refine gate_callee (f := 15) rfl ?_); refine goesL_ (some 25) rfl rfl Try.func15 (by kernel_rfl) rfl #[.int .u64 a1, .int .i64 32] rfl (by (try simp only [List.map_toArray, List.map_cons, List.map_nil]); first | done | rfl | (simp only [List.length_drop, List.length_take]; rfl)) ?_; (with_reducible refine (vireoref01_Sext.calls k a1 32 t187 _ A4.out).mono ?_); rintro e w13 ⟨rfl, hb⟩; refine ⟨_, rfl, ?_⟩; have n0_ := Aside0.mk (below_step (by repeat (first | (with_reducible first | exact HB.out | apply below_alloc | apply pw_below_drewN | apply below_drew1) | exact HB.out)) hb); clear HB; have HB := n0_; clear n0_; (try clear hb); (try clear hb2); (try clear hk); (try clear hi)) | ((with_reducible refine gate_callee (f := 15) rfl ?_); refine goesL_ (some 27) rfl rfl Try.func15 (by kernel_rfl) rfl #[.int .u64 a2, .int .i64 32] rfl (by (try simp only [List.map_toArray, List.map_cons, List.map_nil]); first | done | rfl | (simp only [List.length_drop, List.length_take]; rfl)) ?_; (with_reducible refine (vireoref01_Sext.calls k a2 32 t188 _ A5.out).mono ?_); rintro e w14 ⟨rfl, hb⟩; refine ⟨_, rfl, ?_⟩; have n0_ := Aside0.mk (below_step (by repeat (first | (with_reducible first | exact HB.out | apply below_alloc | apply pw_below_drewN | apply below_drew1) | exact HB.out)) hb); clear HB; have HB := n0_; clear n0_; (try clear hb); (try clear hb2); (try clear hk); (try clear hi)) | ((with_reducible refine gate_callee (f := 14) rfl ?_); refine goesL_ (some 39) rfl rfl Try.func14 (by kernel_rfl) rfl #[.int .u64 a1, .int .u64 a2, .bool true] rfl (by (try simp only [List.map_toArray, List.map_cons, List.map_nil]); first | done | rfl | (simp only [List.length_drop, List.length_take]; rfl)) ?_; (with_reducible refine (vireoref06_Signed.calls k a1 a2 true t191 t192 _ A12.out).mono ?_); rintro e w15 ⟨rfl, hb⟩; refine ⟨_, rfl, ?_⟩; have n0_ := Aside0.mk (below_step (by repeat (first | (with_reducible first | exact HB.out | apply below_alloc | apply pw_below_drewN | apply below_drew1) | exact HB.out)) hb); clear HB; have HB := n0_; clear n0_; (try clear hb); (try clear hb2); (try clear hk); (try clear hi)))
      go_ret2
      exact ⟨by first | rfl | (simp [errW_none, errW_some] <;> rfl) | (simp [*, errW_none, errW_some] <;> rfl), by repeat (first | (with_reducible first | exact HB.out | apply below_alloc | apply pw_below_drewN | apply below_drew1) | exact HB.out)⟩
    · rw [if_neg c11] at H
      have c11b0 : (a0 == 61) = false := beq_eq_false_iff_ne.mpr c11
      have c11b1 : (a0 != 61) = true := bne_iff_ne.mpr c11
      by_cases c16 : a0 = 62
      · rw [if_pos c16] at H
        have c16b0 : (a0 == 62) = true := beq_iff_eq.mpr c16
        have c16b1 : (a0 != 62) = false := bne_eq_false_iff_eq.mpr c16
        clear c16
        replace H := Option.bind_eq_some_iff.mp H
        obtain ⟨⟨t193, t194⟩, A170, H⟩ := H
        replace H : (some (t193, true)) = some (r1, r2) := H
        have A17 := Aside0.mk A170
        clear A170
        simp only [Option.some.injEq, Prod.mk.injEq] at H
        obtain ⟨rfl, rfl⟩ := H
        go_enter Try.func10, Try.ntmps10
        go_wp2_with (first | ((with_reducible refine gate_callee (f := 15) rfl ?_); refine goesL_ (some 25) rfl rfl Try.func15 (by kernel_rfl) rfl #[.int .u64 a1, .int .i64 32] rfl (by (try simp only [List.map_toArray, List.map_cons, List.map_nil]); first | done | rfl | (simp only [List.length_drop, List.length_take]; rfl)) ?_; (with_reducible refine (vireoref01_Sext.calls k a1 32 t187 _ A4.out).mono ?_); rintro e w18 ⟨rfl, hb⟩; refine ⟨_, rfl, ?_⟩; have n0_ := Aside0.mk (below_step (by repeat (first | (with_reducible first | exact HB.out | apply below_alloc | apply pw_below_drewN | apply below_drew1) | exact HB.out)) hb); clear HB; have HB := n0_; clear n0_; (try clear hb); (try clear hb2); (try clear hk); (try clear hi)) | ((with_reducible refine gate_callee (f := 15) rfl ?_); refine goesL_ (some 27) rfl rfl Try.func15 (by kernel_rfl) rfl #[.int .u64 a2, .int .i64 32] rfl (by (try simp only [List.map_toArray, List.map_cons, List.map_nil]); first | done | rfl | (simp only [List.length_drop, List.length_take]; rfl)) ?_; (with_reducible refine (vireoref01_Sext.calls k a2 32 t188 _ A5.out).mono ?_); rintro e w19 ⟨rfl, hb⟩; refine ⟨_, rfl, ?_⟩; have n0_ := Aside0.mk (below_step (by repeat (first | (with_reducible first | exact HB.out | apply below_alloc | apply pw_below_drewN | apply below_drew1) | exact HB.out)) hb); clear HB; have HB := n0_; clear n0_; (try clear hb); (try clear hb2); (try clear hk); (try clear hi)) | ((with_reducible refine gate_callee (f := 14) rfl ?_); refine goesL_ (some 45) rfl rfl Try.func14 (by kernel_rfl) rfl #[.int .u64 a1, .int .u64 a2, .bool false] rfl (by (try simp only [List.map_toArray, List.map_cons, List.map_nil]); first | done | rfl | (simp only [List.length_drop, List.length_take]; rfl)) ?_; (with_reducible refine (vireoref06_Signed.calls k a1 a2 false t193 t194 _ A17.out).mono ?_); rintro e w20 ⟨rfl, hb⟩; refine ⟨_, rfl, ?_⟩; have n0_ := Aside0.mk (below_step (by repeat (first | (with_reducible first | exact HB.out | apply below_alloc | apply pw_below_drewN | apply below_drew1) | exact HB.out)) hb); clear HB; have HB := n0_; clear n0_; (try clear hb); (try clear hb2); (try clear hk); (try clear hi)))
        go_ret2
        exact ⟨by first | rfl | (simp [errW_none, errW_some] <;> rfl) | (simp [*, errW_none, errW_some] <;> rfl), by repeat (first | (with_reducible first | exact HB.out | apply below_alloc | apply pw_below_drewN | apply below_drew1) | exact HB.out)⟩
      · rw [if_neg c16] at H
        have c16b0 : (a0 == 62) = false := beq_eq_false_iff_ne.mpr c16
        have c16b1 : (a0 != 62) = true := bne_iff_ne.mpr c16
        by_cases c21 : a0 = 63
        · rw [if_pos c21] at H
          have c21b0 : (a0 == 63) = true := beq_iff_eq.mpr c21
          have c21b1 : (a0 != 63) = false := bne_eq_false_iff_eq.mpr c21
          clear c21
          replace H := Option.bind_eq_some_iff.mp H
          obtain ⟨⟨t195, t196⟩, A220, H⟩ := H
          replace H : (some (t195, true)) = some (r1, r2) := H
          have A22 := Aside0.mk A220
          clear A220
          simp only [Option.some.injEq, Prod.mk.injEq] at H
          obtain ⟨rfl, rfl⟩ := H
          go_enter Try.func10, Try.ntmps10
          go_wp2_with (first | ((with_reducible refine gate_callee (f := 15) rfl ?_); refine goesL_ (some 25) rfl rfl Try.func15 (by kernel_rfl) rfl #[.int .u64 a1, .int .i64 32] rfl (by (try simp only [List.map_toArray, List.map_cons, List.map_nil]); first | done | rfl | (simp only [List.length_drop, List.length_take]; rfl)) ?_; (with_reducible refine (vireoref01_Sext.calls k a1 32 t187 _ A4.out).mono ?_); rintro e w23 ⟨rfl, hb⟩; refine ⟨_, rfl, ?_⟩; have n0_ := Aside0.mk (below_step (by repeat (first | (with_reducible first | exact HB.out | apply below_alloc | apply pw_below_drewN | apply below_drew1) | exact HB.out)) hb); clear HB; have HB := n0_; clear n0_; (try clear hb); (try clear hb2); (try clear hk); (try clear hi)) | ((with_reducible refine gate_callee (f := 15) rfl ?_); refine goesL_ (some 27) rfl rfl Try.func15 (by kernel_rfl) rfl #[.int .u64 a2, .int .i64 32] rfl (by (try simp only [List.map_toArray, List.map_cons, List.map_nil]); first | done | rfl | (simp only [List.length_drop, List.length_take]; rfl)) ?_; (with_reducible refine (vireoref01_Sext.calls k a2 32 t188 _ A5.out).mono ?_); rintro e w24 ⟨rfl, hb⟩; refine ⟨_, rfl, ?_⟩; have n0_ := Aside0.mk (below_step (by repeat (first | (with_reducible first | exact HB.out | apply below_alloc | apply pw_below_drewN | apply below_drew1) | exact HB.out)) hb); clear HB; have HB := n0_; clear n0_; (try clear hb); (try clear hb2); (try clear hk); (try clear hi)) | ((with_reducible refine gate_callee (f := 12) rfl ?_); refine goesL_ (some 51) rfl rfl Try.func12 (by kernel_rfl) rfl #[.int .u64 a1, .int .u64 a2] rfl (by (try simp only [List.map_toArray, List.map_cons, List.map_nil]); first | done | rfl | (simp only [List.length_drop, List.length_take]; rfl)) ?_; (with_reducible refine (vireoref06_Product.calls k a1 a2 t195 t196 _ A22.out).mono ?_); rintro e w25 ⟨rfl, hb⟩; refine ⟨_, rfl, ?_⟩; have n0_ := Aside0.mk (below_step (by repeat (first | (with_reducible first | exact HB.out | apply below_alloc | apply pw_below_drewN | apply below_drew1) | exact HB.out)) hb); clear HB; have HB := n0_; clear n0_; (try clear hb); (try clear hb2); (try clear hk); (try clear hi)))
          go_ret2
          exact ⟨by first | rfl | (simp [errW_none, errW_some] <;> rfl) | (simp [*, errW_none, errW_some] <;> rfl), by repeat (first | (with_reducible first | exact HB.out | apply below_alloc | apply pw_below_drewN | apply below_drew1) | exact HB.out)⟩
        · rw [if_neg c21] at H
          have c21b0 : (a0 == 63) = false := beq_eq_false_iff_ne.mpr c21
          have c21b1 : (a0 != 63) = true := bne_iff_ne.mpr c21
          by_cases c26 : a0 = 68
          · rw [if_pos c26] at H
            have c26b0 : (a0 == 68) = true := beq_iff_eq.mpr c26
            have c26b1 : (a0 != 68) = false := bne_eq_false_iff_eq.mpr c26
            clear c26
            replace H := Option.bind_eq_some_iff.mp H
            obtain ⟨⟨t197, t198⟩, A270, H⟩ := H
            replace H : ((vireoref01_Sext.f k t198 32).bind fun t199 => (some (t199, true))) = some (r1, r2) := H
            have A27 := Aside0.mk A270
            clear A270
            replace H := Option.bind_eq_some_iff.mp H
            obtain ⟨t199, A280, H⟩ := H
            replace H : (some (t199, true)) = some (r1, r2) := H
            have A28 := Aside0.mk A280
            clear A280
            simp only [Option.some.injEq, Prod.mk.injEq] at H
            obtain ⟨rfl, rfl⟩ := H
            go_enter Try.func10, Try.ntmps10
            go_wp2_with (first | ((with_reducible refine gate_callee (f := 15) rfl ?_); refine goesL_ (some 25) rfl rfl Try.func15 (by kernel_rfl) rfl #[.int .u64 a1, .int .i64 32] rfl (by (try simp only [List.map_toArray, List.map_cons, List.map_nil]); first | done | rfl | (simp only [List.length_drop, List.length_take]; rfl)) ?_; (with_reducible refine (vireoref01_Sext.calls k a1 32 t187 _ A4.out).mono ?_); rintro e w29 ⟨rfl, hb⟩; refine ⟨_, rfl, ?_⟩; have n0_ := Aside0.mk (below_step (by repeat (first | (with_reducible first | exact HB.out | apply below_alloc | apply pw_below_drewN | apply below_drew1) | exact HB.out)) hb); clear HB; have HB := n0_; clear n0_; (try clear hb); (try clear hb2); (try clear hk); (try clear hi)) | ((with_reducible refine gate_callee (f := 15) rfl ?_); refine goesL_ (some 27) rfl rfl Try.func15 (by kernel_rfl) rfl #[.int .u64 a2, .int .i64 32] rfl (by (try simp only [List.map_toArray, List.map_cons, List.map_nil]); first | done | rfl | (simp only [List.length_drop, List.length_take]; rfl)) ?_; (with_reducible refine (vireoref01_Sext.calls k a2 32 t188 _ A5.out).mono ?_); rintro e w30 ⟨rfl, hb⟩; refine ⟨_, rfl, ?_⟩; have n0_ := Aside0.mk (below_step (by repeat (first | (with_reducible first | exact HB.out | apply below_alloc | apply pw_below_drewN | apply below_drew1) | exact HB.out)) hb); clear HB; have HB := n0_; clear n0_; (try clear hb); (try clear hb2); (try clear hk); (try clear hi)) | ((with_reducible refine gate_callee (f := 12) rfl ?_); refine goesL_ (some 57) rfl rfl Try.func12 (by kernel_rfl) rfl #[.int .u64 (Int.tmod a1 4294967296), .int .u64 (Int.tmod a2 4294967296)] rfl (by (try simp only [List.map_toArray, List.map_cons, List.map_nil]); first | done | rfl | (simp only [List.length_drop, List.length_take]; rfl)) ?_; (with_reducible refine (vireoref06_Product.calls k (Int.tmod a1 4294967296) (Int.tmod a2 4294967296) t197 t198 _ A27.out).mono ?_); rintro e w31 ⟨rfl, hb⟩; refine ⟨_, rfl, ?_⟩; have n0_ := Aside0.mk (below_step (by repeat (first | (with_reducible first | exact HB.out | apply below_alloc | apply pw_below_drewN | apply below_drew1) | exact HB.out)) hb); clear HB; have HB := n0_; clear n0_; (try clear hb); (try clear hb2); (try clear hk); (try clear hi)) | ((with_reducible refine gate_callee (f := 15) rfl ?_); refine goesL_ (some 59) rfl rfl Try.func15 (by kernel_rfl) rfl #[.int .u64 t198, .int .i64 32] rfl (by (try simp only [List.map_toArray, List.map_cons, List.map_nil]); first | done | rfl | (simp only [List.length_drop, List.length_take]; rfl)) ?_; (with_reducible refine (vireoref01_Sext.calls k t198 32 t199 _ A28.out).mono ?_); rintro e w32 ⟨rfl, hb⟩; refine ⟨_, rfl, ?_⟩; have n0_ := Aside0.mk (below_step (by repeat (first | (with_reducible first | exact HB.out | apply below_alloc | apply pw_below_drewN | apply below_drew1) | exact HB.out)) hb); clear HB; have HB := n0_; clear n0_; (try clear hb); (try clear hb2); (try clear hk); (try clear hi)))
            go_ret2
            exact ⟨by first | rfl | (simp [errW_none, errW_some] <;> rfl) | (simp [*, errW_none, errW_some] <;> rfl), by repeat (first | (with_reducible first | exact HB.out | apply below_alloc | apply pw_below_drewN | apply below_drew1) | exact HB.out)⟩
          · rw [if_neg c26] at H
            have c26b0 : (a0 == 68) = false := beq_eq_false_iff_ne.mpr c26
            have c26b1 : (a0 != 68) = true := bne_iff_ne.mpr c26
            have HC33 := Aside0.mk H
            clear H
            go_enter Try.func10, Try.ntmps10
            go_upto_if 60 with (first | ((with_reducible refine gate_callee (f := 15) rfl ?_); refine goesL_ (some 25) rfl rfl Try.func15 (by kernel_rfl) rfl #[.int .u64 a1, .int .i64 32] rfl (by (try simp only [List.map_toArray, List.map_cons, List.map_nil]); first | done | rfl | (simp only [List.length_drop, List.length_take]; rfl)) ?_; (with_reducible refine (vireoref01_Sext.calls k a1 32 t187 _ A4.out).mono ?_); rintro e w34 ⟨rfl, hb⟩; refine ⟨_, rfl, ?_⟩; have n0_ := Aside0.mk (below_step (by repeat (first | (with_reducible first | exact HB.out | apply below_alloc | apply pw_below_drewN | apply below_drew1) | exact HB.out)) hb); clear HB; have HB := n0_; clear n0_; (try clear hb); (try clear hb2); (try clear hk); (try clear hi)) | ((with_reducible refine gate_callee (f := 15) rfl ?_); refine goesL_ (some 27) rfl rfl Try.func15 (by kernel_rfl) rfl #[.int .u64 a2, .int .i64 32] rfl (by (try simp only [List.map_toArray, List.map_cons, List.map_nil]); first | done | rfl | (simp only [List.length_drop, List.length_take]; rfl)) ?_; (with_reducible refine (vireoref01_Sext.calls k a2 32 t188 _ A5.out).mono ?_); rintro e w35 ⟨rfl, hb⟩; refine ⟨_, rfl, ?_⟩; have n0_ := Aside0.mk (below_step (by repeat (first | (with_reducible first | exact HB.out | apply below_alloc | apply pw_below_drewN | apply below_drew1) | exact HB.out)) hb); clear HB; have HB := n0_; clear n0_; (try clear hb); (try clear hb2); (try clear hk); (try clear hi)))
            (try simp only [Act.put, List.setIfInBounds_toArray, List.set_cons_zero, List.set_cons_succ])
            go_cut [60] (fun v60 wc => ∃ (kq : Nat) (x60_32 : Bool), v60 = .bool x60_32 ∧ Aside0 (vireoref06_Do.j0 kq a0 a1 a2 (Int.tmod a1 4294967296) (Int.tmod a2 4294967296) t187 t188 a0 x60_32 = some (r1, r2)) ∧ Aside0 (kq ≤ k) ∧ Aside0 (Below w.heap.size w wc))
            case first =>
              have H := HC33.out
              clear HC33
              by_cases c36 : a0 = 64
              · rw [if_pos c36] at H
                have c36b0 : (a0 == 64) = true := beq_iff_eq.mpr c36
                have c36b1 : (a0 != 64) = false := bne_eq_false_iff_eq.mpr c36
                clear c36
                (first | rw [c36b0] | (simp only [i64_w, i32_w]; rw [c36b0]) | skip)
                have H' := Aside0.mk H
                clear H
                go_wp2
                go_meet
                case rel => exact ⟨_, ((a0 == 64)), (by first | rfl | (simp; done) | (simp [*]; done)), H', ⟨by first | omega | exact Nat.le_refl _⟩, ⟨by repeat (first | (with_reducible first | exact HB.out | apply below_alloc | apply pw_below_drewN | apply below_drew1) | exact HB.out)⟩⟩
              · rw [if_neg c36] at H
                have c36b0 : (a0 == 64) = false := beq_eq_false_iff_ne.mpr c36
                have c36b1 : (a0 != 64) = true := bne_iff_ne.mpr c36
                (first | rw [c36b0] | (simp only [i64_w, i32_w]; rw [c36b0]) | skip)
                have H' := Aside0.mk H
                clear H
                go_wp2
                go_meet
                case rel => exact ⟨_, ((a0 == 66)), (by first | rfl | (simp; done) | (simp [*]; done)), H', ⟨by first | omega | exact Nat.le_refl _⟩, ⟨by repeat (first | (with_reducible first | exact HB.out | apply below_alloc | apply pw_below_drewN | apply below_drew1) | exact HB.out)⟩⟩
            case rest =>
              clear HC33
              try clear c1
              try clear c2
              try clear p2
              try clear c3
              try clear c6
              try clear c6b0
              try clear c6b1
              try clear c10
              try clear c11
              try clear c11b0
              try clear c11b1
              try clear c12
              try clear c14
              try clear c15
              try clear c16
              try clear c16b0
              try clear c16b1
              try clear c21
              try clear c21b0
              try clear c21b1
              try clear c26
              try clear c26b0
              try clear c26b1
              try clear c36
              try clear c36b0
              try clear c36b1
              obtain ⟨kq, x60_32, rfl, HA, HJ32, HB⟩ := hcut
              cases kq with
              | zero => exact absurd HA.out (by simp [vireoref06_Do.j0])
              | succ kj32 =>
                have H := HA.out
                clear HA
                simp only [vireoref06_Do.j0] at H
                by_cases c37 : x60_32 = true
                · subst c37
                  have H1 : ((vireoref06_SignedQuotient.f kj32 a1 a2).bind fun bt200 => ((vireoref06_choose.f (a0 == 64) bt200.1 bt200.2).bind fun t202 => (some (t202, true)))) = some (r1, r2) := by rw [if_pos rfl] at H; exact H
                  clear H
                  have H := H1
                  clear H1
                  replace H := Option.bind_eq_some_iff.mp H
                  obtain ⟨⟨t200, t201⟩, A380, H⟩ := H
                  replace H : ((vireoref06_choose.f (a0 == 64) t200 t201).bind fun t202 => (some (t202, true))) = some (r1, r2) := H
                  have A38 := Aside0.mk A380
                  clear A380
                  replace H := Option.bind_eq_some_iff.mp H
                  obtain ⟨t202, A390, H⟩ := H
                  replace H : (some (t202, true)) = some (r1, r2) := H
                  have A39 := Aside0.mk A390
                  clear A390
                  simp only [Option.some.injEq, Prod.mk.injEq] at H
                  obtain ⟨rfl, rfl⟩ := H
                  go_wp2_with (first | ((with_reducible refine gate_callee (f := 20) rfl ?_); refine goesL_ (some 66) rfl rfl Try.func20 (by kernel_rfl) rfl #[.int .u64 a1, .int .u64 a2] rfl (by (try simp only [List.map_toArray, List.map_cons, List.map_nil]); first | done | rfl | (simp only [List.length_drop, List.length_take]; rfl)) ?_; (with_reducible refine (vireoref06_SignedQuotient.calls kj32 a1 a2 t200 t201 _ A38.out).mono ?_); rintro e w40 ⟨rfl, hb⟩; refine ⟨_, rfl, ?_⟩; have n0_ := Aside0.mk (below_step (by repeat (first | (with_reducible first | exact HB.out | apply below_alloc | apply pw_below_drewN | apply below_drew1) | exact HB.out)) hb); clear HB; have HB := n0_; clear n0_; (try clear hb); (try clear hb2); (try clear hk); (try clear hi)) | ((with_reducible refine gate_callee (f := 21) rfl ?_); refine goesL_ (some 73) rfl rfl Try.func21 (by kernel_rfl) rfl #[.bool (a0 == 64), .int .u64 t200, .int .u64 t201] rfl (by (try simp only [List.map_toArray, List.map_cons, List.map_nil]); first | done | rfl | (simp only [List.length_drop, List.length_take]; rfl)) ?_; (with_reducible refine (vireoref06_choose.calls (a0 == 64) t200 t201 t202 _ A39.out).mono ?_); rintro e w' ⟨rfl, ⟨nd, rfl⟩⟩; refine ⟨_, rfl, ?_⟩))
                  go_ret2
                  exact ⟨by first | rfl | (simp [errW_none, errW_some] <;> rfl) | (simp [*, errW_none, errW_some] <;> rfl), by repeat (first | (with_reducible first | exact HB.out | apply below_alloc | apply pw_below_drewN | apply below_drew1) | exact HB.out)⟩
                · replace c37 := Bool.eq_false_iff.mpr c37
                  subst c37
                  have H1 : (if a0 = 65 then (vireoref06_Do.j1 kj32 a0 a1 a2 (Int.tmod a1 4294967296) (Int.tmod a2 4294967296) t187 t188 a0 (a0 == 65)) else (vireoref06_Do.j1 kj32 a0 a1 a2 (Int.tmod a1 4294967296) (Int.tmod a2 4294967296) t187 t188 a0 (a0 == 67))) = some (r1, r2) := by rw [if_neg (show ¬ (false = true) by decide)] at H; exact H
                  clear H
                  have H := H1
                  clear H1
                  have HC41 := Aside0.mk H
                  clear H
                  go_upto_if 74 with (fail)
                  go_cut [74] (fun v74 wc => ∃ (kq : Nat) (x74_40 : Bool), v74 = .bool x74_40 ∧ Aside0 (vireoref06_Do.j1 kq a0 a1 a2 (Int.tmod a1 4294967296) (Int.tmod a2 4294967296) t187 t188 a0 x74_40 = some (r1, r2)) ∧ Aside0 (kq ≤ kj32) ∧ Aside0 (Below w.heap.size w wc))
                  case first =>
                    have H := HC41.out
                    clear HC41
                    by_cases c42 : a0 = 65
                    · rw [if_pos c42] at H
                      have c42b0 : (a0 == 65) = true := beq_iff_eq.mpr c42
                      have c42b1 : (a0 != 65) = false := bne_eq_false_iff_eq.mpr c42
                      clear c42
                      (first | rw [c42b0] | (simp only [i64_w, i32_w]; rw [c42b0]) | skip)
                      have H' := Aside0.mk H
                      clear H
                      go_wp2
                      go_meet
                      case rel => exact ⟨_, ((a0 == 65)), (by first | rfl | (simp; done) | (simp [*]; done)), H', ⟨by have := HJ32.out; first | omega | exact Nat.le_refl _⟩, ⟨by repeat (first | (with_reducible first | exact HB.out | apply below_alloc | apply pw_below_drewN | apply below_drew1) | exact HB.out)⟩⟩
                    · rw [if_neg c42] at H
                      have c42b0 : (a0 == 65) = false := beq_eq_false_iff_ne.mpr c42
                      have c42b1 : (a0 != 65) = true := bne_iff_ne.mpr c42
                      (first | rw [c42b0] | (simp only [i64_w, i32_w]; rw [c42b0]) | skip)
                      have H' := Aside0.mk H
                      clear H
                      go_wp2
                      go_meet
                      case rel => exact ⟨_, ((a0 == 67)), (by first | rfl | (simp; done) | (simp [*]; done)), H', ⟨by have := HJ32.out; first | omega | exact Nat.le_refl _⟩, ⟨by repeat (first | (with_reducible first | exact HB.out | apply below_alloc | apply pw_below_drewN | apply below_drew1) | exact HB.out)⟩⟩
                  case rest =>
                    clear HC41
                    try clear c1
                    try clear c2
                    try clear p2
                    try clear c3
                    try clear c4
                    try clear c6
                    try clear c6b0
                    try clear c6b1
                    try clear c10
                    try clear c11
                    try clear c11b0
                    try clear c11b1
                    try clear c12
                    try clear c14
                    try clear c15
                    try clear c16
                    try clear c16b0
                    try clear c16b1
                    try clear c20
                    try clear c21
                    try clear c21b0
                    try clear c21b1
                    try clear c26
                    try clear c26b0
                    try clear c26b1
                    try clear c36
                    try clear c36b0
                    try clear c36b1
                    try clear c37
                    try clear c42
                    try clear c42b0
                    try clear c42b1
                    try clear p2
                    obtain ⟨kq, x74_40, rfl, HA, HJ40, HB⟩ := hcut
                    cases kq with
                    | zero => exact absurd HA.out (by simp [vireoref06_Do.j1])
                    | succ kj40 =>
                      have H := HA.out
                      clear HA
                      simp only [vireoref06_Do.j1] at H
                      by_cases c43 : x74_40 = true
                      · subst c43
                        have H1 : ((vireoref06_Unsigned.f kj40 a1 a2).bind fun bt203 => ((vireoref06_choose.f (a0 == 65) bt203.1 bt203.2).bind fun t205 => (some (t205, true)))) = some (r1, r2) := by rw [if_pos rfl] at H; exact H
                        clear H
                        have H := H1
                        clear H1
                        replace H := Option.bind_eq_some_iff.mp H
                        obtain ⟨⟨t203, t204⟩, A440, H⟩ := H
                        replace H : ((vireoref06_choose.f (a0 == 65) t203 t204).bind fun t205 => (some (t205, true))) = some (r1, r2) := H
                        have A44 := Aside0.mk A440
                        clear A440
                        replace H := Option.bind_eq_some_iff.mp H
                        obtain ⟨t205, A450, H⟩ := H
                        replace H : (some (t205, true)) = some (r1, r2) := H
                        have A45 := Aside0.mk A450
                        clear A450
                        simp only [Option.some.injEq, Prod.mk.injEq] at H
                        obtain ⟨rfl, rfl⟩ := H
                        go_wp2_with (first | ((with_reducible refine gate_callee (f := 22) rfl ?_); refine goesL_ (some 80) rfl rfl Try.func22 (by kernel_rfl) rfl #[.int .u64 a1, .int .u64 a2] rfl (by (try simp only [List.map_toArray, List.map_cons, List.map_nil]); first | done | rfl | (simp only [List.length_drop, List.length_take]; rfl)) ?_; (with_reducible refine (vireoref06_Unsigned.calls kj40 a1 a2 t203 t204 _ A44.out).mono ?_); rintro e w46 ⟨rfl, hb⟩; refine ⟨_, rfl, ?_⟩; have n0_ := Aside0.mk (below_step (by repeat (first | (with_reducible first | exact HB.out | apply below_alloc | apply pw_below_drewN | apply below_drew1) | exact HB.out)) hb); clear HB; have HB := n0_; clear n0_; (try clear hb); (try clear hb2); (try clear hk); (try clear hi)) | ((with_reducible refine gate_callee (f := 21) rfl ?_); refine goesL_ (some 87) rfl rfl Try.func21 (by kernel_rfl) rfl #[.bool (a0 == 65), .int .u64 t203, .int .u64 t204] rfl (by (try simp only [List.map_toArray, List.map_cons, List.map_nil]); first | done | rfl | (simp only [List.length_drop, List.length_take]; rfl)) ?_; (with_reducible refine (vireoref06_choose.calls (a0 == 65) t203 t204 t205 _ A45.out).mono ?_); rintro e w' ⟨rfl, ⟨nd, rfl⟩⟩; refine ⟨_, rfl, ?_⟩))
                        go_ret2
                        exact ⟨by first | rfl | (simp [errW_none, errW_some] <;> rfl) | (simp [*, errW_none, errW_some] <;> rfl), by repeat (first | (with_reducible first | exact HB.out | apply below_alloc | apply pw_below_drewN | apply below_drew1) | exact HB.out)⟩
                      · replace c43 := Bool.eq_false_iff.mpr c43
                        subst c43
                        have H1 : (if a0 = 69 then (vireoref06_Do.j2 kj40 a0 (Int.tmod a1 4294967296) (Int.tmod a2 4294967296) t187 t188 a0 (a0 == 69)) else (vireoref06_Do.j2 kj40 a0 (Int.tmod a1 4294967296) (Int.tmod a2 4294967296) t187 t188 a0 (a0 == 71))) = some (r1, r2) := by rw [if_neg (show ¬ (false = true) by decide)] at H; exact H
                        clear H
                        have H := H1
                        clear H1
                        have HC47 := Aside0.mk H
                        clear H
                        go_upto_if 88 with (fail)
                        go_cut [88] (fun v88 wc => ∃ (kq : Nat) (x88_46 : Bool), v88 = .bool x88_46 ∧ Aside0 (vireoref06_Do.j2 kq a0 (Int.tmod a1 4294967296) (Int.tmod a2 4294967296) t187 t188 a0 x88_46 = some (r1, r2)) ∧ Aside0 (kq ≤ kj40) ∧ Aside0 (Below w.heap.size w wc))
                        case first =>
                          have H := HC47.out
                          clear HC47
                          by_cases c48 : a0 = 69
                          · rw [if_pos c48] at H
                            have c48b0 : (a0 == 69) = true := beq_iff_eq.mpr c48
                            have c48b1 : (a0 != 69) = false := bne_eq_false_iff_eq.mpr c48
                            clear c48
                            (first | rw [c48b0] | (simp only [i64_w, i32_w]; rw [c48b0]) | skip)
                            have H' := Aside0.mk H
                            clear H
                            go_wp2
                            go_meet
                            case rel => exact ⟨_, ((a0 == 69)), (by first | rfl | (simp; done) | (simp [*]; done)), H', ⟨by have := HJ32.out; have := HJ40.out; first | omega | exact Nat.le_refl _⟩, ⟨by repeat (first | (with_reducible first | exact HB.out | apply below_alloc | apply pw_below_drewN | apply below_drew1) | exact HB.out)⟩⟩
                          · rw [if_neg c48] at H
                            have c48b0 : (a0 == 69) = false := beq_eq_false_iff_ne.mpr c48
                            have c48b1 : (a0 != 69) = true := bne_iff_ne.mpr c48
                            (first | rw [c48b0] | (simp only [i64_w, i32_w]; rw [c48b0]) | skip)
                            have H' := Aside0.mk H
                            clear H
                            go_wp2
                            go_meet
                            case rel => exact ⟨_, ((a0 == 71)), (by first | rfl | (simp; done) | (simp [*]; done)), H', ⟨by have := HJ32.out; have := HJ40.out; first | omega | exact Nat.le_refl _⟩, ⟨by repeat (first | (with_reducible first | exact HB.out | apply below_alloc | apply pw_below_drewN | apply below_drew1) | exact HB.out)⟩⟩
                        case rest =>
                          clear HC47
                          try clear c1
                          try clear c2
                          try clear p2
                          try clear c3
                          try clear c4
                          try clear c6
                          try clear c6b0
                          try clear c6b1
                          try clear c10
                          try clear c11
                          try clear c11b0
                          try clear c11b1
                          try clear c12
                          try clear c14
                          try clear c15
                          try clear c16
                          try clear c16b0
                          try clear c16b1
                          try clear c20
                          try clear c21
                          try clear c21b0
                          try clear c21b1
                          try clear c22
                          try clear c26
                          try clear c26b0
                          try clear c26b1
                          try clear c36
                          try clear c36b0
                          try clear c36b1
                          try clear c37
                          try clear c42
                          try clear c42b0
                          try clear c42b1
                          try clear c43
                          try clear c48
                          try clear c48b0
                          try clear c48b1
                          try clear p2
                          obtain ⟨kq, x88_46, rfl, HA, HJ46, HB⟩ := hcut
                          cases kq with
                          | zero => exact absurd HA.out (by simp [vireoref06_Do.j2])
                          | succ kj46 =>
                            have H := HA.out
                            clear HA
                            simp only [vireoref06_Do.j2] at H
                            by_cases c49 : x88_46 = true
                            · subst c49
                              have H1 : ((vireoref06_SignedQuotient.f kj46 t187 t188).bind fun bt206 => ((vireoref06_choose.f (a0 == 69) bt206.1 bt206.2).bind fun t208 => ((vireoref01_Sext.f kj46 t208 32).bind fun t209 => (some (t209, true))))) = some (r1, r2) := by rw [if_pos rfl] at H; exact H
                              clear H
                              have H := H1
                              clear H1
                              replace H := Option.bind_eq_some_iff.mp H
                              obtain ⟨⟨t206, t207⟩, A500, H⟩ := H
                              replace H : ((vireoref06_choose.f (a0 == 69) t206 t207).bind fun t208 => ((vireoref01_Sext.f kj46 t208 32).bind fun t209 => (some (t209, true)))) = some (r1, r2) := H
                              have A50 := Aside0.mk A500
                              clear A500
                              replace H := Option.bind_eq_some_iff.mp H
                              obtain ⟨t208, A510, H⟩ := H
                              replace H : ((vireoref01_Sext.f kj46 t208 32).bind fun t209 => (some (t209, true))) = some (r1, r2) := H
                              have A51 := Aside0.mk A510
                              clear A510
                              replace H := Option.bind_eq_some_iff.mp H
                              obtain ⟨t209, A520, H⟩ := H
                              replace H : (some (t209, true)) = some (r1, r2) := H
                              have A52 := Aside0.mk A520
                              clear A520
                              simp only [Option.some.injEq, Prod.mk.injEq] at H
                              obtain ⟨rfl, rfl⟩ := H
                              go_wp2_with (first | ((with_reducible refine gate_callee (f := 20) rfl ?_); refine goesL_ (some 94) rfl rfl Try.func20 (by kernel_rfl) rfl #[.int .u64 t187, .int .u64 t188] rfl (by (try simp only [List.map_toArray, List.map_cons, List.map_nil]); first | done | rfl | (simp only [List.length_drop, List.length_take]; rfl)) ?_; (with_reducible refine (vireoref06_SignedQuotient.calls kj46 t187 t188 t206 t207 _ A50.out).mono ?_); rintro e w53 ⟨rfl, hb⟩; refine ⟨_, rfl, ?_⟩; have n0_ := Aside0.mk (below_step (by repeat (first | (with_reducible first | exact HB.out | apply below_alloc | apply pw_below_drewN | apply below_drew1) | exact HB.out)) hb); clear HB; have HB := n0_; clear n0_; (try clear hb); (try clear hb2); (try clear hk); (try clear hi)) | ((with_reducible refine gate_callee (f := 21) rfl ?_); refine goesL_ (some 101) rfl rfl Try.func21 (by kernel_rfl) rfl #[.bool (a0 == 69), .int .u64 t206, .int .u64 t207] rfl (by (try simp only [List.map_toArray, List.map_cons, List.map_nil]); first | done | rfl | (simp only [List.length_drop, List.length_take]; rfl)) ?_; (with_reducible refine (vireoref06_choose.calls (a0 == 69) t206 t207 t208 _ A51.out).mono ?_); rintro e w' ⟨rfl, ⟨nd, rfl⟩⟩; refine ⟨_, rfl, ?_⟩) | ((with_reducible refine gate_callee (f := 15) rfl ?_); refine goesL_ (some 102) rfl rfl Try.func15 (by kernel_rfl) rfl #[.int .u64 t208, .int .i64 32] rfl (by (try simp only [List.map_toArray, List.map_cons, List.map_nil]); first | done | rfl | (simp only [List.length_drop, List.length_take]; rfl)) ?_; (with_reducible refine (vireoref01_Sext.calls kj46 t208 32 t209 _ A52.out).mono ?_); rintro e w54 ⟨rfl, hb⟩; refine ⟨_, rfl, ?_⟩; have n0_ := Aside0.mk (below_step (by repeat (first | (with_reducible first | exact HB.out | apply below_alloc | apply pw_below_drewN | apply below_drew1) | exact HB.out)) hb); clear HB; have HB := n0_; clear n0_; (try clear hb); (try clear hb2); (try clear hk); (try clear hi)))
                              go_ret2
                              exact ⟨by first | rfl | (simp [errW_none, errW_some] <;> rfl) | (simp [*, errW_none, errW_some] <;> rfl), by repeat (first | (with_reducible first | exact HB.out | apply below_alloc | apply pw_below_drewN | apply below_drew1) | exact HB.out)⟩
                            · replace c49 := Bool.eq_false_iff.mpr c49
                              subst c49
                              have H1 : (if a0 = 70 then (vireoref06_Do.j3 kj46 a0 (Int.tmod a1 4294967296) (Int.tmod a2 4294967296) (a0 == 70)) else (vireoref06_Do.j3 kj46 a0 (Int.tmod a1 4294967296) (Int.tmod a2 4294967296) (a0 == 72))) = some (r1, r2) := by rw [if_neg (show ¬ (false = true) by decide)] at H; exact H
                              clear H
                              have H := H1
                              clear H1
                              have HC55 := Aside0.mk H
                              clear H
                              go_upto_if 103 with (fail)
                              go_cut [103] (fun v103 wc => ∃ (kq : Nat) (x103_54 : Bool), v103 = .bool x103_54 ∧ Aside0 (vireoref06_Do.j3 kq a0 (Int.tmod a1 4294967296) (Int.tmod a2 4294967296) x103_54 = some (r1, r2)) ∧ Aside0 (kq ≤ kj46) ∧ Aside0 (Below w.heap.size w wc))
                              case first =>
                                have H := HC55.out
                                clear HC55
                                by_cases c56 : a0 = 70
                                · rw [if_pos c56] at H
                                  have c56b0 : (a0 == 70) = true := beq_iff_eq.mpr c56
                                  have c56b1 : (a0 != 70) = false := bne_eq_false_iff_eq.mpr c56
                                  clear c56
                                  (first | rw [c56b0] | (simp only [i64_w, i32_w]; rw [c56b0]) | skip)
                                  have H' := Aside0.mk H
                                  clear H
                                  go_wp2
                                  go_meet
                                  case rel => exact ⟨_, ((a0 == 70)), (by first | rfl | (simp; done) | (simp [*]; done)), H', ⟨by have := HJ32.out; have := HJ40.out; have := HJ46.out; first | omega | exact Nat.le_refl _⟩, ⟨by repeat (first | (with_reducible first | exact HB.out | apply below_alloc | apply pw_below_drewN | apply below_drew1) | exact HB.out)⟩⟩
                                · rw [if_neg c56] at H
                                  have c56b0 : (a0 == 70) = false := beq_eq_false_iff_ne.mpr c56
                                  have c56b1 : (a0 != 70) = true := bne_iff_ne.mpr c56
                                  (first | rw [c56b0] | (simp only [i64_w, i32_w]; rw [c56b0]) | skip)
                                  have H' := Aside0.mk H
                                  clear H
                                  go_wp2
                                  go_meet
                                  case rel => exact ⟨_, ((a0 == 72)), (by first | rfl | (simp; done) | (simp [*]; done)), H', ⟨by have := HJ32.out; have := HJ40.out; have := HJ46.out; first | omega | exact Nat.le_refl _⟩, ⟨by repeat (first | (with_reducible first | exact HB.out | apply below_alloc | apply pw_below_drewN | apply below_drew1) | exact HB.out)⟩⟩
                              case rest =>
                                clear HC55
                                try clear c1
                                try clear c2
                                try clear p2
                                try clear c3
                                try clear c4
                                try clear c5
                                try clear c6
                                try clear c6b0
                                try clear c6b1
                                try clear c10
                                try clear c11
                                try clear c11b0
                                try clear c11b1
                                try clear c12
                                try clear c14
                                try clear c15
                                try clear c16
                                try clear c16b0
                                try clear c16b1
                                try clear c20
                                try clear c21
                                try clear c21b0
                                try clear c21b1
                                try clear c22
                                try clear c26
                                try clear c26b0
                                try clear c26b1
                                try clear c36
                                try clear c36b0
                                try clear c36b1
                                try clear c37
                                try clear c42
                                try clear c42b0
                                try clear c42b1
                                try clear c43
                                try clear c48
                                try clear c48b0
                                try clear c48b1
                                try clear c49
                                try clear c56
                                try clear c56b0
                                try clear c56b1
                                try clear p2
                                obtain ⟨kq, x103_54, rfl, HA, HJ54, HB⟩ := hcut
                                cases kq with
                                | zero => exact absurd HA.out (by simp [vireoref06_Do.j3])
                                | succ kj54 =>
                                  have H := HA.out
                                  clear HA
                                  simp only [vireoref06_Do.j3] at H
                                  by_cases c57 : x103_54 = true
                                  · subst c57
                                    have H1 : ((vireoref06_Unsigned.f kj54 (Int.tmod a1 4294967296) (Int.tmod a2 4294967296)).bind fun bt210 => ((vireoref06_choose.f (a0 == 70) bt210.1 bt210.2).bind fun t212 => ((vireoref01_Sext.f kj54 t212 32).bind fun t213 => (some (t213, true))))) = some (r1, r2) := by rw [if_pos rfl] at H; exact H
                                    clear H
                                    have H := H1
                                    clear H1
                                    replace H := Option.bind_eq_some_iff.mp H
                                    obtain ⟨⟨t210, t211⟩, A580, H⟩ := H
                                    replace H : ((vireoref06_choose.f (a0 == 70) t210 t211).bind fun t212 => ((vireoref01_Sext.f kj54 t212 32).bind fun t213 => (some (t213, true)))) = some (r1, r2) := H
                                    have A58 := Aside0.mk A580
                                    clear A580
                                    replace H := Option.bind_eq_some_iff.mp H
                                    obtain ⟨t212, A590, H⟩ := H
                                    replace H : ((vireoref01_Sext.f kj54 t212 32).bind fun t213 => (some (t213, true))) = some (r1, r2) := H
                                    have A59 := Aside0.mk A590
                                    clear A590
                                    replace H := Option.bind_eq_some_iff.mp H
                                    obtain ⟨t213, A600, H⟩ := H
                                    replace H : (some (t213, true)) = some (r1, r2) := H
                                    have A60 := Aside0.mk A600
                                    clear A600
                                    simp only [Option.some.injEq, Prod.mk.injEq] at H
                                    obtain ⟨rfl, rfl⟩ := H
                                    go_wp2_with (first | ((with_reducible refine gate_callee (f := 22) rfl ?_); refine goesL_ (some 109) rfl rfl Try.func22 (by kernel_rfl) rfl #[.int .u64 (Int.tmod a1 4294967296), .int .u64 (Int.tmod a2 4294967296)] rfl (by (try simp only [List.map_toArray, List.map_cons, List.map_nil]); first | done | rfl | (simp only [List.length_drop, List.length_take]; rfl)) ?_; (with_reducible refine (vireoref06_Unsigned.calls kj54 (Int.tmod a1 4294967296) (Int.tmod a2 4294967296) t210 t211 _ A58.out).mono ?_); rintro e w61 ⟨rfl, hb⟩; refine ⟨_, rfl, ?_⟩; have n0_ := Aside0.mk (below_step (by repeat (first | (with_reducible first | exact HB.out | apply below_alloc | apply pw_below_drewN | apply below_drew1) | exact HB.out)) hb); clear HB; have HB := n0_; clear n0_; (try clear hb); (try clear hb2); (try clear hk); (try clear hi)) | ((with_reducible refine gate_callee (f := 21) rfl ?_); refine goesL_ (some 116) rfl rfl Try.func21 (by kernel_rfl) rfl #[.bool (a0 == 70), .int .u64 t210, .int .u64 t211] rfl (by (try simp only [List.map_toArray, List.map_cons, List.map_nil]); first | done | rfl | (simp only [List.length_drop, List.length_take]; rfl)) ?_; (with_reducible refine (vireoref06_choose.calls (a0 == 70) t210 t211 t212 _ A59.out).mono ?_); rintro e w' ⟨rfl, ⟨nd, rfl⟩⟩; refine ⟨_, rfl, ?_⟩) | ((with_reducible refine gate_callee (f := 15) rfl ?_); refine goesL_ (some 117) rfl rfl Try.func15 (by kernel_rfl) rfl #[.int .u64 t212, .int .i64 32] rfl (by (try simp only [List.map_toArray, List.map_cons, List.map_nil]); first | done | rfl | (simp only [List.length_drop, List.length_take]; rfl)) ?_; (with_reducible refine (vireoref01_Sext.calls kj54 t212 32 t213 _ A60.out).mono ?_); rintro e w62 ⟨rfl, hb⟩; refine ⟨_, rfl, ?_⟩; have n0_ := Aside0.mk (below_step (by repeat (first | (with_reducible first | exact HB.out | apply below_alloc | apply pw_below_drewN | apply below_drew1) | exact HB.out)) hb); clear HB; have HB := n0_; clear n0_; (try clear hb); (try clear hb2); (try clear hk); (try clear hi)))
                                    go_ret2
                                    exact ⟨by first | rfl | (simp [errW_none, errW_some] <;> rfl) | (simp [*, errW_none, errW_some] <;> rfl), by repeat (first | (with_reducible first | exact HB.out | apply below_alloc | apply pw_below_drewN | apply below_drew1) | exact HB.out)⟩
                                  · replace c57 := Bool.eq_false_iff.mpr c57
                                    subst c57
                                    have H1 : (some (0, false)) = some (r1, r2) := by rw [if_neg (show ¬ (false = true) by decide)] at H; exact H
                                    clear H
                                    have H := H1
                                    clear H1
                                    simp only [Option.some.injEq, Prod.mk.injEq] at H
                                    obtain ⟨rfl, rfl⟩ := H
                                    go_wp2
                                    go_ret2
                                    exact ⟨by first | rfl | (simp [errW_none, errW_some] <;> rfl) | (simp [*, errW_none, errW_some] <;> rfl), by repeat (first | (with_reducible first | exact HB.out | apply below_alloc | apply pw_below_drewN | apply below_drew1) | exact HB.out)⟩

/-! ### vireolaw06_MulDoes: function 3 -/
def vireolaw06_MulDoes.f (k : Nat) (a0 : Int) (a1 : Int) (a2 : Int) : Option (Bool) := (vireolaw06_awake.f k).bind fun t214 => (if t214 = true then ((mul_Do.f k a0 a1 a2).bind fun bt215 => ((vireoref06_Do.f k a0 a1 a2).bind fun bt217 => (if bt215.1 = bt217.1 then (some (bt215.2 == bt217.2)) else (some false)))) else (some false))
theorem vireolaw06_MulDoes.mono : ∀ a0 a1 a2 k, LeO (vireolaw06_MulDoes.f k a0 a1 a2) (vireolaw06_MulDoes.f (k + 1) a0 a1 a2) := by
  intro a0 a1 a2 k
  unfold vireolaw06_MulDoes.f
  repeat' first
      | (with_reducible exact mul_Do.mono _ _ _ _)
      | (with_reducible exact vireolaw06_awake.mono _)
      | (with_reducible exact vireoref06_Do.mono _ _ _ _)
      | (with_reducible exact LeO.refl _)
      | (with_reducible exact LeO.none _)
      | (with_reducible refine LeO.ite ?_ ?_)
      | (with_reducible refine LeO.bind ?_ (fun _ => ?_))
      | exact mul_Do.mono _ _ _ _
      | exact vireolaw06_awake.mono _
      | exact vireoref06_Do.mono _ _ _ _
      | exact LeO.none _
      | refine LeO.ite ?_ ?_
      | refine LeO.bind ?_ (fun _ => ?_)
set_option maxHeartbeats 8000000 in
set_option maxRecDepth 100000 in
theorem vireolaw06_MulDoes.calls (k : Nat) (a0 : Int) (a1 : Int) (a2 : Int) (r : Bool) (w : World) (h : vireolaw06_MulDoes.f k a0 a1 a2 = some r) :
    Calls Try.prog 3 #[.int .i64 a0, .int .u64 a1, .int .u64 a2] w fun e w' => e = .returned (.bool r) ∧ Below w.heap.size w w' := by
  have HB := Aside0.mk (Below.refl w.heap.size w)
  have H : ((vireolaw06_awake.f k).bind fun t214 => (if t214 = true then ((mul_Do.f k a0 a1 a2).bind fun bt215 => ((vireoref06_Do.f k a0 a1 a2).bind fun bt217 => (if bt215.1 = bt217.1 then (some (bt215.2 == bt217.2)) else (some false)))) else (some false))) = some r := h
  clear h
  replace H := Option.bind_eq_some_iff.mp H
  obtain ⟨t214, A40, H⟩ := H
  replace H : (if t214 = true then ((mul_Do.f k a0 a1 a2).bind fun bt215 => ((vireoref06_Do.f k a0 a1 a2).bind fun bt217 => (if bt215.1 = bt217.1 then (some (bt215.2 == bt217.2)) else (some false)))) else (some false)) = some r := H
  have A4 := Aside0.mk A40
  clear A40
  by_cases c5 : t214 = true
  · subst c5
    have H1 : ((mul_Do.f k a0 a1 a2).bind fun bt215 => ((vireoref06_Do.f k a0 a1 a2).bind fun bt217 => (if bt215.1 = bt217.1 then (some (bt215.2 == bt217.2)) else (some false)))) = some r := by rw [if_pos rfl] at H; exact H
    clear H
    have H := H1
    clear H1
    replace H := Option.bind_eq_some_iff.mp H
    obtain ⟨⟨t215, t216⟩, A60, H⟩ := H
    replace H : ((vireoref06_Do.f k a0 a1 a2).bind fun bt217 => (if t215 = bt217.1 then (some (t216 == bt217.2)) else (some false))) = some r := H
    have A6 := Aside0.mk A60
    clear A60
    replace H := Option.bind_eq_some_iff.mp H
    obtain ⟨⟨t217, t218⟩, A70, H⟩ := H
    replace H : (if t215 = t217 then (some (t216 == t218)) else (some false)) = some r := H
    have A7 := Aside0.mk A70
    clear A70
    by_cases c8 : t215 = t217
    · rw [if_pos c8] at H
      have c8b0 : (t215 == t217) = true := beq_iff_eq.mpr c8
      have c8b1 : (t215 != t217) = false := bne_eq_false_iff_eq.mpr c8
      clear c8
      obtain rfl := Option.some.inj H
      go_enter Try.func3, Try.ntmps3
      go_wp2_with (first | ((with_reducible refine gate_callee (f := 8) rfl ?_); refine goesL_ (some 11) rfl rfl Try.func8 (by kernel_rfl) rfl #[] rfl (by (try simp only [List.map_toArray, List.map_cons, List.map_nil]); first | done | rfl | (simp only [List.length_drop, List.length_take]; rfl)) ?_; (with_reducible refine (vireolaw06_awake.calls k  true _ A4.out).mono ?_); rintro e w' ⟨rfl, ⟨nd, rfl⟩⟩; refine ⟨_, rfl, ?_⟩) | ((with_reducible refine gate_callee (f := 9) rfl ?_); refine goesL_ (some 17) rfl rfl Try.func9 (by kernel_rfl) rfl #[.int .i64 a0, .int .u64 a1, .int .u64 a2] rfl (by (try simp only [List.map_toArray, List.map_cons, List.map_nil]); first | done | rfl | (simp only [List.length_drop, List.length_take]; rfl)) ?_; (with_reducible refine (mul_Do.calls k a0 a1 a2 t215 t216 _ A6.out).mono ?_); rintro e w' ⟨rfl, ⟨nd, rfl⟩⟩; refine ⟨_, rfl, ?_⟩) | ((with_reducible refine gate_callee (f := 10) rfl ?_); refine goesL_ (some 24) rfl rfl Try.func10 (by kernel_rfl) rfl #[.int .i64 a0, .int .u64 a1, .int .u64 a2] rfl (by (try simp only [List.map_toArray, List.map_cons, List.map_nil]); first | done | rfl | (simp only [List.length_drop, List.length_take]; rfl)) ?_; (with_reducible refine (vireoref06_Do.calls k a0 a1 a2 t217 t218 _ A7.out).mono ?_); rintro e w9 ⟨rfl, hb⟩; refine ⟨_, rfl, ?_⟩; have n0_ := Aside0.mk (below_step (by repeat (first | (with_reducible first | exact HB.out | apply below_alloc | apply pw_below_drewN | apply below_drew1) | exact HB.out)) hb); clear HB; have HB := n0_; clear n0_; (try clear hb); (try clear hb2); (try clear hk); (try clear hi)))
      go_ret
      exact ⟨by first | rfl | (simp [errW_none, errW_some] <;> rfl) | (simp [*, errW_none, errW_some] <;> rfl), by repeat (first | (with_reducible first | exact HB.out | apply below_alloc | apply pw_below_drewN | apply below_drew1) | exact HB.out)⟩
    · rw [if_neg c8] at H
      have c8b0 : (t215 == t217) = false := beq_eq_false_iff_ne.mpr c8
      have c8b1 : (t215 != t217) = true := bne_iff_ne.mpr c8
      obtain rfl := Option.some.inj H
      go_enter Try.func3, Try.ntmps3
      go_wp2_with (first | ((with_reducible refine gate_callee (f := 8) rfl ?_); refine goesL_ (some 11) rfl rfl Try.func8 (by kernel_rfl) rfl #[] rfl (by (try simp only [List.map_toArray, List.map_cons, List.map_nil]); first | done | rfl | (simp only [List.length_drop, List.length_take]; rfl)) ?_; (with_reducible refine (vireolaw06_awake.calls k  true _ A4.out).mono ?_); rintro e w' ⟨rfl, ⟨nd, rfl⟩⟩; refine ⟨_, rfl, ?_⟩) | ((with_reducible refine gate_callee (f := 9) rfl ?_); refine goesL_ (some 17) rfl rfl Try.func9 (by kernel_rfl) rfl #[.int .i64 a0, .int .u64 a1, .int .u64 a2] rfl (by (try simp only [List.map_toArray, List.map_cons, List.map_nil]); first | done | rfl | (simp only [List.length_drop, List.length_take]; rfl)) ?_; (with_reducible refine (mul_Do.calls k a0 a1 a2 t215 t216 _ A6.out).mono ?_); rintro e w' ⟨rfl, ⟨nd, rfl⟩⟩; refine ⟨_, rfl, ?_⟩) | ((with_reducible refine gate_callee (f := 10) rfl ?_); refine goesL_ (some 24) rfl rfl Try.func10 (by kernel_rfl) rfl #[.int .i64 a0, .int .u64 a1, .int .u64 a2] rfl (by (try simp only [List.map_toArray, List.map_cons, List.map_nil]); first | done | rfl | (simp only [List.length_drop, List.length_take]; rfl)) ?_; (with_reducible refine (vireoref06_Do.calls k a0 a1 a2 t217 t218 _ A7.out).mono ?_); rintro e w10 ⟨rfl, hb⟩; refine ⟨_, rfl, ?_⟩; have n0_ := Aside0.mk (below_step (by repeat (first | (with_reducible first | exact HB.out | apply below_alloc | apply pw_below_drewN | apply below_drew1) | exact HB.out)) hb); clear HB; have HB := n0_; clear n0_; (try clear hb); (try clear hb2); (try clear hk); (try clear hi)))
      go_ret
      exact ⟨by first | rfl | (simp [errW_none, errW_some] <;> rfl) | (simp [*, errW_none, errW_some] <;> rfl), by repeat (first | (with_reducible first | exact HB.out | apply below_alloc | apply pw_below_drewN | apply below_drew1) | exact HB.out)⟩
  · replace c5 := Bool.eq_false_iff.mpr c5
    subst c5
    have H1 : (some false) = some r := by rw [if_neg (show ¬ (false = true) by decide)] at H; exact H
    clear H
    have H := H1
    clear H1
    obtain rfl := Option.some.inj H
    go_enter Try.func3, Try.ntmps3
    go_wp2_with (first | ((with_reducible refine gate_callee (f := 8) rfl ?_); refine goesL_ (some 11) rfl rfl Try.func8 (by kernel_rfl) rfl #[] rfl (by (try simp only [List.map_toArray, List.map_cons, List.map_nil]); first | done | rfl | (simp only [List.length_drop, List.length_take]; rfl)) ?_; (with_reducible refine (vireolaw06_awake.calls k  false _ A4.out).mono ?_); rintro e w' ⟨rfl, ⟨nd, rfl⟩⟩; refine ⟨_, rfl, ?_⟩))
    go_ret
    exact ⟨by first | rfl | (simp [errW_none, errW_some] <;> rfl) | (simp [*, errW_none, errW_some] <;> rfl), by repeat (first | (with_reducible first | exact HB.out | apply below_alloc | apply pw_below_drewN | apply below_drew1) | exact HB.out)⟩

/-- THE ONE PURE STATEMENT of vireolaw06_MulDoes: yours. -/
def vireolaw06_MulDoes.Pure : Prop := ∀ (a0 : Int) (a1 : Int) (a2 : Int), (Lit.int .i64 a0).wf = true → (Lit.int .u64 a1).wf = true → (Lit.int .u64 a2).wf = true → ∃ k, vireolaw06_MulDoes.f k a0 a1 a2 = some true
theorem vireolaw06_MulDoes.walk (P : vireolaw06_MulDoes.Pure) (a0 : Int) (a1 : Int) (a2 : Int) (w : World) (w0 : (Lit.int .i64 a0).wf = true) (w1 : (Lit.int .u64 a1).wf = true) (w2 : (Lit.int .u64 a2).wf = true) :
    Calls Try.prog 3 #[.int .i64 a0, .int .u64 a1, .int .u64 a2] w fun e w' => e = .returned (.bool true) ∧ Below w.heap.size w w' := by
  obtain ⟨k, h⟩ := P a0 a1 a2 w0 w1 w2
  refine (vireolaw06_MulDoes.calls k a0 a1 a2 true w h).mono ?_
  rintro e w' ⟨rfl, hd⟩
  exact ⟨rfl, hd⟩

/-! ### vireolaw06_MulHighs: function 4 -/
def vireolaw06_MulHighs.f (k : Nat) (a0 : Int) (a1 : Int) (a2 : Bool) : Option (Bool) := (vireolaw06_awake.f k).bind fun t219 => (if t219 = true then ((mul_High.f a0 a1).bind fun t220 => ((vireoref06_Product.f k a0 a1).bind fun bt221 => (if t220 = bt221.1 then ((mul_HighSigned.f a0 a1 a2).bind fun t223 => ((vireoref06_Signed.f k a0 a1 a2).bind fun bt224 => (some (t223 == bt224.1)))) else (some false)))) else (some false))
theorem vireolaw06_MulHighs.mono : ∀ a0 a1 a2 k, LeO (vireolaw06_MulHighs.f k a0 a1 a2) (vireolaw06_MulHighs.f (k + 1) a0 a1 a2) := by
  intro a0 a1 a2 k
  unfold vireolaw06_MulHighs.f
  repeat' first
      | (with_reducible exact vireolaw06_awake.mono _)
      | (with_reducible exact vireoref06_Product.mono _ _ _)
      | (with_reducible exact vireoref06_Signed.mono _ _ _ _)
      | (with_reducible exact LeO.refl _)
      | (with_reducible exact LeO.none _)
      | (with_reducible refine LeO.ite ?_ ?_)
      | (with_reducible refine LeO.bind ?_ (fun _ => ?_))
      | exact vireolaw06_awake.mono _
      | exact vireoref06_Product.mono _ _ _
      | exact vireoref06_Signed.mono _ _ _ _
      | exact LeO.none _
      | refine LeO.ite ?_ ?_
      | refine LeO.bind ?_ (fun _ => ?_)
set_option maxHeartbeats 8000000 in
set_option maxRecDepth 100000 in
theorem vireolaw06_MulHighs.calls (k : Nat) (a0 : Int) (a1 : Int) (a2 : Bool) (r : Bool) (w : World) (h : vireolaw06_MulHighs.f k a0 a1 a2 = some r) :
    Calls Try.prog 4 #[.int .u64 a0, .int .u64 a1, .bool a2] w fun e w' => e = .returned (.bool r) ∧ Below w.heap.size w w' := by
  have hf29_0 : ∀ (x0_ x1_ : Value) (W : World), (Instr.field 29 (.agg #[x0_, x1_]) 0).run Try.prog W = .ok (x0_) W := fun _ _ _ => by kernel_rfl
  have HB := Aside0.mk (Below.refl w.heap.size w)
  have H : ((vireolaw06_awake.f k).bind fun t219 => (if t219 = true then ((mul_High.f a0 a1).bind fun t220 => ((vireoref06_Product.f k a0 a1).bind fun bt221 => (if t220 = bt221.1 then ((mul_HighSigned.f a0 a1 a2).bind fun t223 => ((vireoref06_Signed.f k a0 a1 a2).bind fun bt224 => (some (t223 == bt224.1)))) else (some false)))) else (some false))) = some r := h
  clear h
  replace H := Option.bind_eq_some_iff.mp H
  obtain ⟨t219, A40, H⟩ := H
  replace H : (if t219 = true then ((mul_High.f a0 a1).bind fun t220 => ((vireoref06_Product.f k a0 a1).bind fun bt221 => (if t220 = bt221.1 then ((mul_HighSigned.f a0 a1 a2).bind fun t223 => ((vireoref06_Signed.f k a0 a1 a2).bind fun bt224 => (some (t223 == bt224.1)))) else (some false)))) else (some false)) = some r := H
  have A4 := Aside0.mk A40
  clear A40
  by_cases c5 : t219 = true
  · subst c5
    have H1 : ((mul_High.f a0 a1).bind fun t220 => ((vireoref06_Product.f k a0 a1).bind fun bt221 => (if t220 = bt221.1 then ((mul_HighSigned.f a0 a1 a2).bind fun t223 => ((vireoref06_Signed.f k a0 a1 a2).bind fun bt224 => (some (t223 == bt224.1)))) else (some false)))) = some r := by rw [if_pos rfl] at H; exact H
    clear H
    have H := H1
    clear H1
    replace H := Option.bind_eq_some_iff.mp H
    obtain ⟨t220, A60, H⟩ := H
    replace H : ((vireoref06_Product.f k a0 a1).bind fun bt221 => (if t220 = bt221.1 then ((mul_HighSigned.f a0 a1 a2).bind fun t223 => ((vireoref06_Signed.f k a0 a1 a2).bind fun bt224 => (some (t223 == bt224.1)))) else (some false))) = some r := H
    have A6 := Aside0.mk A60
    clear A60
    replace H := Option.bind_eq_some_iff.mp H
    obtain ⟨⟨t221, t222⟩, A70, H⟩ := H
    replace H : (if t220 = t221 then ((mul_HighSigned.f a0 a1 a2).bind fun t223 => ((vireoref06_Signed.f k a0 a1 a2).bind fun bt224 => (some (t223 == bt224.1)))) else (some false)) = some r := H
    have A7 := Aside0.mk A70
    clear A70
    by_cases c8 : t220 = t221
    · rw [if_pos c8] at H
      have c8b0 : (t220 == t221) = true := beq_iff_eq.mpr c8
      have c8b1 : (t220 != t221) = false := bne_eq_false_iff_eq.mpr c8
      clear c8
      replace H := Option.bind_eq_some_iff.mp H
      obtain ⟨t223, A90, H⟩ := H
      replace H : ((vireoref06_Signed.f k a0 a1 a2).bind fun bt224 => (some (t223 == bt224.1))) = some r := H
      have A9 := Aside0.mk A90
      clear A90
      replace H := Option.bind_eq_some_iff.mp H
      obtain ⟨⟨t224, t225⟩, A100, H⟩ := H
      replace H : (some (t223 == t224)) = some r := H
      have A10 := Aside0.mk A100
      clear A100
      obtain rfl := Option.some.inj H
      go_enter Try.func4, Try.ntmps4
      go_wp2_with (first | ((with_reducible refine gate_callee (f := 8) rfl ?_); refine goesL_ (some 7) rfl rfl Try.func8 (by kernel_rfl) rfl #[] rfl (by (try simp only [List.map_toArray, List.map_cons, List.map_nil]); first | done | rfl | (simp only [List.length_drop, List.length_take]; rfl)) ?_; (with_reducible refine (vireolaw06_awake.calls k  true _ A4.out).mono ?_); rintro e w' ⟨rfl, ⟨nd, rfl⟩⟩; refine ⟨_, rfl, ?_⟩) | ((with_reducible refine gate_callee (f := 11) rfl ?_); refine goesL_ (some 11) rfl rfl Try.func11 (by kernel_rfl) rfl #[.int .u64 a0, .int .u64 a1] rfl (by (try simp only [List.map_toArray, List.map_cons, List.map_nil]); first | done | rfl | (simp only [List.length_drop, List.length_take]; rfl)) ?_; (with_reducible refine (mul_High.calls a0 a1 t220 _ A6.out).mono ?_); rintro e w' ⟨rfl, ⟨nd, rfl⟩⟩; refine ⟨_, rfl, ?_⟩) | ((with_reducible refine gate_callee (f := 12) rfl ?_); refine goesL_ (some 14) rfl rfl Try.func12 (by kernel_rfl) rfl #[.int .u64 a0, .int .u64 a1] rfl (by (try simp only [List.map_toArray, List.map_cons, List.map_nil]); first | done | rfl | (simp only [List.length_drop, List.length_take]; rfl)) ?_; (with_reducible refine (vireoref06_Product.calls k a0 a1 t221 t222 _ A7.out).mono ?_); rintro e w11 ⟨rfl, hb⟩; refine ⟨_, rfl, ?_⟩; have n0_ := Aside0.mk (below_step (by repeat (first | (with_reducible first | exact HB.out | apply below_alloc | apply pw_below_drewN | apply below_drew1) | exact HB.out)) hb); clear HB; have HB := n0_; clear n0_; (try clear hb); (try clear hb2); (try clear hk); (try clear hi)) | (go_at_call 13; (with_reducible refine (mul_HighSigned.calls a0 a1 a2 t223 _ A9.out).mono ?_); rintro e w' ⟨rfl, ⟨nd, rfl⟩⟩) | (go_at_call 14; (with_reducible refine (vireoref06_Signed.calls k a0 a1 a2 t224 t225 _ A10.out).mono ?_); rintro e w12 ⟨rfl, hb⟩; have n0_ := Aside0.mk (below_step (by repeat (first | (with_reducible first | exact HB.out | apply below_alloc | apply pw_below_drewN | apply below_drew1) | exact HB.out)) hb); clear HB; have HB := n0_; clear n0_; (try clear hb); (try clear hb2); (try clear hk); (try clear hi)))
      go_ret
      exact ⟨by first | rfl | (simp [errW_none, errW_some] <;> rfl) | (simp [*, errW_none, errW_some] <;> rfl), by repeat (first | (with_reducible first | exact HB.out | apply below_alloc | apply pw_below_drewN | apply below_drew1) | exact HB.out)⟩
    · rw [if_neg c8] at H
      have c8b0 : (t220 == t221) = false := beq_eq_false_iff_ne.mpr c8
      have c8b1 : (t220 != t221) = true := bne_iff_ne.mpr c8
      obtain rfl := Option.some.inj H
      go_enter Try.func4, Try.ntmps4
      go_wp2_with (first | ((with_reducible refine gate_callee (f := 8) rfl ?_); refine goesL_ (some 7) rfl rfl Try.func8 (by kernel_rfl) rfl #[] rfl (by (try simp only [List.map_toArray, List.map_cons, List.map_nil]); first | done | rfl | (simp only [List.length_drop, List.length_take]; rfl)) ?_; (with_reducible refine (vireolaw06_awake.calls k  true _ A4.out).mono ?_); rintro e w' ⟨rfl, ⟨nd, rfl⟩⟩; refine ⟨_, rfl, ?_⟩) | ((with_reducible refine gate_callee (f := 11) rfl ?_); refine goesL_ (some 11) rfl rfl Try.func11 (by kernel_rfl) rfl #[.int .u64 a0, .int .u64 a1] rfl (by (try simp only [List.map_toArray, List.map_cons, List.map_nil]); first | done | rfl | (simp only [List.length_drop, List.length_take]; rfl)) ?_; (with_reducible refine (mul_High.calls a0 a1 t220 _ A6.out).mono ?_); rintro e w' ⟨rfl, ⟨nd, rfl⟩⟩; refine ⟨_, rfl, ?_⟩) | ((with_reducible refine gate_callee (f := 12) rfl ?_); refine goesL_ (some 14) rfl rfl Try.func12 (by kernel_rfl) rfl #[.int .u64 a0, .int .u64 a1] rfl (by (try simp only [List.map_toArray, List.map_cons, List.map_nil]); first | done | rfl | (simp only [List.length_drop, List.length_take]; rfl)) ?_; (with_reducible refine (vireoref06_Product.calls k a0 a1 t221 t222 _ A7.out).mono ?_); rintro e w13 ⟨rfl, hb⟩; refine ⟨_, rfl, ?_⟩; have n0_ := Aside0.mk (below_step (by repeat (first | (with_reducible first | exact HB.out | apply below_alloc | apply pw_below_drewN | apply below_drew1) | exact HB.out)) hb); clear HB; have HB := n0_; clear n0_; (try clear hb); (try clear hb2); (try clear hk); (try clear hi)))
      go_ret
      exact ⟨by first | rfl | (simp [errW_none, errW_some] <;> rfl) | (simp [*, errW_none, errW_some] <;> rfl), by repeat (first | (with_reducible first | exact HB.out | apply below_alloc | apply pw_below_drewN | apply below_drew1) | exact HB.out)⟩
  · replace c5 := Bool.eq_false_iff.mpr c5
    subst c5
    have H1 : (some false) = some r := by rw [if_neg (show ¬ (false = true) by decide)] at H; exact H
    clear H
    have H := H1
    clear H1
    obtain rfl := Option.some.inj H
    go_enter Try.func4, Try.ntmps4
    go_wp2_with (first | ((with_reducible refine gate_callee (f := 8) rfl ?_); refine goesL_ (some 7) rfl rfl Try.func8 (by kernel_rfl) rfl #[] rfl (by (try simp only [List.map_toArray, List.map_cons, List.map_nil]); first | done | rfl | (simp only [List.length_drop, List.length_take]; rfl)) ?_; (with_reducible refine (vireolaw06_awake.calls k  false _ A4.out).mono ?_); rintro e w' ⟨rfl, ⟨nd, rfl⟩⟩; refine ⟨_, rfl, ?_⟩))
    go_ret
    exact ⟨by first | rfl | (simp [errW_none, errW_some] <;> rfl) | (simp [*, errW_none, errW_some] <;> rfl), by repeat (first | (with_reducible first | exact HB.out | apply below_alloc | apply pw_below_drewN | apply below_drew1) | exact HB.out)⟩

/-- THE ONE PURE STATEMENT of vireolaw06_MulHighs: yours. -/
def vireolaw06_MulHighs.Pure : Prop := ∀ (a0 : Int) (a1 : Int) (a2 : Bool), (Lit.int .u64 a0).wf = true → (Lit.int .u64 a1).wf = true → ∃ k, vireolaw06_MulHighs.f k a0 a1 a2 = some true
theorem vireolaw06_MulHighs.walk (P : vireolaw06_MulHighs.Pure) (a0 : Int) (a1 : Int) (a2 : Bool) (w : World) (w0 : (Lit.int .u64 a0).wf = true) (w1 : (Lit.int .u64 a1).wf = true) :
    Calls Try.prog 4 #[.int .u64 a0, .int .u64 a1, .bool a2] w fun e w' => e = .returned (.bool true) ∧ Below w.heap.size w w' := by
  obtain ⟨k, h⟩ := P a0 a1 a2 w0 w1
  refine (vireolaw06_MulHighs.calls k a0 a1 a2 true w h).mono ?_
  rintro e w' ⟨rfl, hd⟩
  exact ⟨rfl, hd⟩

end Go.Proofs.Ytomomaldkliofaa.PAll
