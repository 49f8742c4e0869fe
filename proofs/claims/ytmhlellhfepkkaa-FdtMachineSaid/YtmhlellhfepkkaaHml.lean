/- The law FdtMachine: its regions. -/
import Derived.Test.YtmhlellhfepkkaaHmt
namespace Go.Proofs.Ytmhlellhfepkkaa.H
open Go.RowKit Go.Proofs.YtmhlellhfepkkaaW.PrintWords Go.Proofs.YtmhlellhfepkkaaW.PrintLast Go.Proofs.YtmhlellhfepkkaaW.PrintMore Go.Proofs.Ytmhlellhfepkkaa.PAl Go.Proofs.Ytmhlellhfepkkaa.B
set_option linter.unusedVariables false
set_option linter.unusedSimpArgs false
set_option maxHeartbeats 4000000 in
set_option maxRecDepth 100000 in
theorem m6r1 (sz : Int) (ops : Array Oper) (hops : ops = opsOf Try.f6 1) (a0 : Act) (w : World) (Q : Exit → Act → World → Prop) (hs0 : a0.tmps.size = 73)
    (hQ : ∀ a w', KpN w w' → a.defers = a0.defers → a.tmps.size = a0.tmps.size → (∀ s, s ∉ [7, 8] → a.tmps.getD s undef = a0.tmps.getD s undef) → (Stb.val (.bool false)).p (a.tmps.getD 8 undef) w' → Q .normal a w') : (Code.region 1 ops false).wp Try.prog Q a0 w := by
  subst hops
  refine wp_slots false [7] [Stb.val (.bool true)] ((opsOf Try.f6 1).getD 1 default) (by kernel_rfl) (by rw [hs0]; kernel_rfl) (by kernel_rfl) (by kernel_rfl) ?_ ?_
  · intro i o hi ho a W hW hA hdep
    rcases i with _ | i
    · obtain rfl := at_get ho
      refine gS_ca (wanted_none (by kernel_rfl) _) rfl Try.func9 (by kernel_rfl) rfl #[] (by simp only [List.map_toArray, List.map_cons, List.map_nil] <;> rfl) ?_
      exact awake_m W
    · exact absurd hi (by simp only [List.length_cons, List.length_nil]; omega)
  · intro a W hW hdef hsz hold hR
    have hst : stepS Try.prog (opsOf Try.f6 1) Q ((opsOf Try.f6 1).getD 1 default) (fun v w'' => KpN W w'' ∧ (Stb.val (.bool false)).p v w'') a W := by
      have e0 : a.eval (.tmp 7) = .bool true := hR 0 (by decide)
      exact gS_un (wanted_none (by kernel_rfl) _) rfl (.bool true) (.bool false) e0 (by kernel_rfl) ⟨Kp.refl _ _, rfl⟩
    refine last_step (by kernel_rfl) hst fun v w' hv => ?_
    rw [show ((opsOf Try.f6 1).getD 1 default).dst = some 8 by kernel_rfl]
    refine hQ _ w' (hW.trans hv.1) hdef ((put_size _ _ _).trans hsz) (fun s hs => ?_) (by rw [put_same _ _ _ (by rw [hsz, hs0]; decide)]; exact hv.2)
    rw [put_other _ _ _ _ (fun e => hs (by rw [← e]; decide))]
    exact hold s (fun h => hs (List.mem_append_left [8] h))
set_option maxHeartbeats 4000000 in
set_option maxRecDepth 100000 in
theorem m6r3 (sz : Int) (ops : Array Oper) (hops : ops = opsOf Try.f6 3) (a0 : Act) (w : World) (Q : Exit → Act → World → Prop) (hs0 : a0.tmps.size = 73) (h0 : a0.tmps.getD 0 undef = .int .u64 sz)
    (hQ : ∀ a w', KpN w w' → a.defers = a0.defers → a.tmps.size = a0.tmps.size → (∀ s, s ∉ [9, 10, 3] → a.tmps.getD s undef = a0.tmps.getD s undef) → (∃ g_, (a.tmps.getD 3 undef = .pointer (some ⟨g_, 0, none⟩)) ∧ NodeB w' g_ (n25_5 sz)) → Q .normal a w') : (Code.region 3 ops false).wp Try.prog Q a0 w := by
  subst hops
  refine wp_slots false [9, 10, 3] [Stb.val (.int .u64 sz), Stb.node (n25_5 sz), Stb.box w.heap.size] ((opsOf Try.f6 3).getD 3 default) (by kernel_rfl) (by rw [hs0]; kernel_rfl) (by kernel_rfl) (by kernel_rfl) ?_ ?_
  · intro i o hi ho a W hW hA hdep
    rcases i with _ | _ | _ | i
    · obtain rfl := at_get ho
      exact gS_mv (wanted_none (by kernel_rfl) _) rfl _ ((ag_old hA (by decide)).trans h0) ⟨Kp.refl _ _, rfl⟩
    · obtain rfl := at_get ho
      have e0 : a.eval (.tmp 9) = .int .u64 sz := hdep 0 (by decide) (by kernel_rfl)
      refine gS_ca (wanted_none (by kernel_rfl) _) rfl Try.func25 (by kernel_rfl) rfl #[.int .u64 sz] (by simp only [List.map_toArray, List.map_cons, List.map_nil]; rw [e0] <;> rfl) ?_
      exact machine_m W sz
    · obtain rfl := at_get ho
      exact gS_al (wanted_none (by kernel_rfl) _) rfl z32c (zero32c W) (fun g hg w1 hb hk => ⟨hk, g, rfl, by have := hW.size; omega, hb⟩)
    · exact absurd hi (by simp only [List.length_cons, List.length_nil]; omega)
  · intro a W hW hdef hsz hold hR
    obtain ⟨g_, p_, hge, hb⟩ : (Stb.box w.heap.size).p (a.eval (.tmp 3)) W := hR 2 (by decide)
    obtain ⟨u1, u2, e_, s1, s2⟩ : NodeV W (a.eval (.tmp 10)) (n25_5 sz) := hR 1 (by decide)
    refine wp_st rfl (by kernel_rfl) g_ #[.string (n25_5 sz).f0, u1, u2] z32c 32 p_ e_ hb (by kernel_rfl) rfl (one3 _ s1.one s2.one) fun w1 hb1 hk1 => ?_
    have hM := Mv.store hk1 hb
    exact hQ a w1 (hW.then hk1 fun i hi e => by subst e; exact absurd hi (by omega)) hdef hsz (fun s hs => hold s hs) ⟨g_, p_, u1, u2, hb1, s1.mv hM, s2.mv hM⟩
set_option maxHeartbeats 4000000 in
set_option maxRecDepth 100000 in
theorem m6r4 (sz : Int) (hz : 0 ≤ sz ∧ sz < 18446744073709551616) (ops : Array Oper) (hops : ops = opsOf Try.f6 4) (a0 : Act) (w : World) (Q : Exit → Act → World → Prop) (hs0 : a0.tmps.size = 73) (h0 : a0.tmps.getD 0 undef = .int .u64 sz) (h3 : ∃ g_, a0.tmps.getD 3 undef = .pointer (some ⟨g_, 0, none⟩) ∧ NodeB w g_ (n25_5 sz))
    (hQ : ∀ a w', KpN w w' → a.defers = a0.defers → a.tmps.size = a0.tmps.size → (∀ s, s ∉ [11, 12, 13, 14, 15, 16, 17, 18, 19, 20, 21] → a.tmps.getD s undef = a0.tmps.getD s undef) → (Stb.val (.bool false)).p (a.tmps.getD 21 undef) w' → Q .normal a w') : (Code.region 4 ops true).wp Try.prog Q a0 w := by
  subst hops
  refine wp_slots true [11, 12, 13, 14, 15, 16, 17, 18, 19, 20] [Stb.node (n25_5 sz), Stb.val (.int .i64 0), Stb.val (.bool false), Stb.val (.bool false), Stb.node (n25_5 sz), Stb.slF Kd.string [(⟨#[109, 101, 109, 111, 114, 121, 64, 56, 48, 48, 48, 48, 48, 48, 48]⟩ : ByteArray)], Stb.val (.int .u64 sz), Stb.sl (Kd.int .u8) (w64b 2147483648 ++ w64b sz), Stb.val (.bool true), Stb.val (.bool false)] ((opsOf Try.f6 4).getD 10 default) (by kernel_rfl) (by rw [hs0]; kernel_rfl) (by kernel_rfl) (by kernel_rfl) ?_ ?_
  · intro i o hi ho a W hW hA hdep
    rcases i with _ | _ | _ | _ | _ | _ | _ | _ | _ | _ | i
    · obtain rfl := at_get ho
      obtain ⟨g_, p_, n_⟩ := h3
      obtain ⟨u1, u2, hb, s1, s2⟩ := n_.kp hW
      exact gS_ld (wanted_none (by kernel_rfl) _) rfl g_ ((ag_old hA (by decide)).trans p_) 32 _ _ hb Try.underlying32 rfl (by kernel_rfl) ⟨Kp.refl _ _, _, _, rfl, s1, s2⟩
    · obtain rfl := at_get ho
      obtain ⟨_, _, e0, ⟨A0, c0, rfl, l0, q0⟩, ⟨B0, d0, rfl, m0, r0⟩⟩ : NodeV W (a.eval (.tmp 11)) (n25_5 sz) := hdep 0 (by decide) (by kernel_rfl)
      refine gS_ca (wanted_none (by kernel_rfl) _) rfl Try.func14 (by kernel_rfl) rfl #[.agg #[.string (n25_5 sz).f0, .slice A0 (n25_5 sz).f1.length c0, .slice B0 (n25_5 sz).f2.length d0]] (by simp only [List.map_toArray, List.map_cons, List.map_nil]; rw [e0] <;> rfl) ?_
      exact right_m W sz q0 l0 r0 m0
    · obtain rfl := at_get ho
      have e0 : a.eval (.tmp 12) = .int .i64 0 := hdep 1 (by decide) (by kernel_rfl)
      exact gS_bin (wanted_none (by kernel_rfl) _) rfl (.int .i64 0) (.int .i64 0) (.bool false) e0 rfl (by kernel_rfl) ⟨Kp.refl _ _, rfl⟩
    · obtain rfl := at_get ho
      have e0 : a.eval (.tmp 13) = .bool false := hdep 2 (by decide) (by kernel_rfl)
      exact gS_mv (wanted_none (by kernel_rfl) _) rfl _ e0 ⟨Kp.refl _ _, rfl⟩
    · obtain rfl := at_get ho
      have hg : a.tmps.getD 14 undef = .bool false := hdep 3 (by decide) (by kernel_rfl)
      obtain ⟨g_, p_, n_⟩ := h3
      obtain ⟨u1, u2, hb, s1, s2⟩ := n_.kp hW
      exact gS_ld (wanted_y (j := 3) (b := false) (by kernel_rfl) (by kernel_rfl) hg) rfl g_ ((ag_old hA (by decide)).trans p_) 32 _ _ hb Try.underlying32 rfl (by kernel_rfl) ⟨Kp.refl _ _, _, _, rfl, s1, s2⟩
    · obtain rfl := at_get ho
      have hg : a.tmps.getD 14 undef = .bool false := hdep 3 (by decide) (by kernel_rfl)
      exact gS_bs (wanted_y (j := 3) (b := false) (by kernel_rfl) (by kernel_rfl) hg) rfl #[(0, .string ⟨#[109, 101, 109, 111, 114, 121, 64, 56, 48, 48, 48, 48, 48, 48, 48]⟩)] _ _ (by simp only [List.map_toArray, List.map_cons, List.map_nil] <;> rfl) (bs38_1 W _) ⟨(Kp.refl _ _).alloc _, SlF.lit (d := Kd.string) (l := [(⟨#[109, 101, 109, 111, 114, 121, 64, 56, 48, 48, 48, 48, 48, 48, 48]⟩ : ByteArray)]) (inner := [.string ⟨#[109, 101, 109, 111, 114, 121, 64, 56, 48, 48, 48, 48, 48, 48, 48]⟩]) (reps_cons str_sl rfl (Reps.none _ _)) (show (1 : Nat) ≤ 9223372036854775807 by decide) (.inl (by decide))⟩
    · obtain rfl := at_get ho
      have hg : a.tmps.getD 14 undef = .bool false := hdep 3 (by decide) (by kernel_rfl)
      exact gS_mv (wanted_y (j := 3) (b := false) (by kernel_rfl) (by kernel_rfl) hg) rfl _ ((ag_old hA (by decide)).trans h0) ⟨Kp.refl _ _, rfl⟩
    · obtain rfl := at_get ho
      have hg : a.tmps.getD 14 undef = .bool false := hdep 3 (by decide) (by kernel_rfl)
      have e1 : a.eval (.tmp 17) = .int .u64 sz := hdep 6 (by decide) (by kernel_rfl)
      refine gS_ca (wanted_y (j := 3) (b := false) (by kernel_rfl) (by kernel_rfl) hg) rfl Try.func27 (by kernel_rfl) rfl #[.int .u64 2147483648, .int .u64 sz] (by simp only [List.map_toArray, List.map_cons, List.map_nil]; rw [e1] <;> rfl) ?_
      exact place_m W 2147483648 sz (by decide) (by decide) hz.1 hz.2
    · obtain rfl := at_get ho
      have hg : a.tmps.getD 14 undef = .bool false := hdep 3 (by decide) (by kernel_rfl)
      obtain ⟨_, _, e0, ⟨A0, c0, rfl, l0, q0⟩, ⟨B0, d0, rfl, m0, r0⟩⟩ : NodeV W (a.eval (.tmp 15)) (n25_5 sz) := hdep 4 (by decide) (by kernel_rfl)
      obtain ⟨b1, e1, q1⟩ : SlF Kd.string W (a.eval (.tmp 16)) [(⟨#[109, 101, 109, 111, 114, 121, 64, 56, 48, 48, 48, 48, 48, 48, 48]⟩ : ByteArray)] := hdep 5 (by decide) (by kernel_rfl)
      obtain ⟨A3, c3, e3, l3, q3⟩ : Sl (Kd.int .u8) W (a.eval (.tmp 18)) (w64b 2147483648 ++ w64b sz) := hdep 7 (by decide) (by kernel_rfl)
      refine gS_ca (wanted_y (j := 3) (b := false) (by kernel_rfl) (by kernel_rfl) hg) rfl Try.func26 (by kernel_rfl) rfl #[.agg #[.string (n25_5 sz).f0, .slice A0 (n25_5 sz).f1.length c0, .slice B0 (n25_5 sz).f2.length d0], .slice (some b1) 1 1, .string ⟨#[114, 101, 103]⟩, .slice A3 ((w64b 2147483648 ++ w64b sz) : List Int).length c3] (by simp only [List.map_toArray, List.map_cons, List.map_nil]; rw [e0, e1, e3] <;> rfl) ?_
      exact told_m W (sz := sz) (A1 := some b1) (c1 := 1) (path := [(⟨#[109, 101, 109, 111, 114, 121, 64, 56, 48, 48, 48, 48, 48, 48, 48]⟩ : ByteArray)]) (name := ⟨#[114, 101, 103]⟩) (want := (w64b 2147483648 ++ w64b sz)) (A3 := A3) (c3 := c3) q0 l0 r0 m0 q1 (Nat.le_refl _) q3 l3 (told_mem sz)
    · obtain rfl := at_get ho
      have hg : a.tmps.getD 14 undef = .bool false := hdep 3 (by decide) (by kernel_rfl)
      have e0 : a.eval (.tmp 19) = .bool true := hdep 8 (by decide) (by kernel_rfl)
      exact gS_un (wanted_y (j := 3) (b := false) (by kernel_rfl) (by kernel_rfl) hg) rfl (.bool true) (.bool false) e0 (by kernel_rfl) ⟨Kp.refl _ _, rfl⟩
    · exact absurd hi (by simp only [List.length_cons, List.length_nil]; omega)
  · intro a W hW hdef hsz hold hR
    have hst : stepS Try.prog (opsOf Try.f6 4) Q ((opsOf Try.f6 4).getD 10 default) (fun v w'' => KpN W w'' ∧ (Stb.val (.bool false)).p v w'') a W := by
      have e0 : a.eval (.tmp 14) = .bool false := hR 3 (by decide)
      have e1 : a.eval (.tmp 20) = .bool false := hR 9 (by decide)
      exact gS_pick (wanted_none (by kernel_rfl) _) rfl false (.bool false) e0 e1 ⟨Kp.refl _ _, rfl⟩
    refine last_step (by kernel_rfl) hst fun v w' hv => ?_
    rw [show ((opsOf Try.f6 4).getD 10 default).dst = some 21 by kernel_rfl]
    refine hQ _ w' (hW.trans hv.1) hdef ((put_size _ _ _).trans hsz) (fun s hs => ?_) (by rw [put_same _ _ _ (by rw [hsz, hs0]; decide)]; exact hv.2)
    rw [put_other _ _ _ _ (fun e => hs (by rw [← e]; decide))]
    exact hold s (fun h => hs (List.mem_append_left [21] h))
set_option maxHeartbeats 4000000 in
set_option maxRecDepth 100000 in
theorem m6r6 (sz : Int) (ops : Array Oper) (hops : ops = opsOf Try.f6 6) (a0 : Act) (w : World) (Q : Exit → Act → World → Prop) (hs0 : a0.tmps.size = 73)
    (hQ : ∀ a w', KpN w w' → a.defers = a0.defers → a.tmps.size = a0.tmps.size → (∀ s, s ∉ [22, 4] → a.tmps.getD s undef = a0.tmps.getD s undef) → (Stb.blk namesC 9 4).p (a.tmps.getD 4 undef) w' → Q .normal a w') : (Code.region 6 ops false).wp Try.prog Q a0 w := by
  subst hops
  refine wp_slots false [22] [Stb.blk namesC 9 4] ((opsOf Try.f6 6).getD 1 default) (by kernel_rfl) (by rw [hs0]; kernel_rfl) (by kernel_rfl) (by kernel_rfl) ?_ ?_
  · intro i o hi ho a W hW hA hdep
    rcases i with _ | i
    · obtain rfl := at_get ho
      exact gS_bs (wanted_none (by kernel_rfl) _) rfl #[(0, .string ⟨#[112, 108, 105, 99, 64, 99, 48, 48, 48, 48, 48, 48]⟩), (1, .string ⟨#[99, 108, 105, 110, 116, 64, 50, 48, 48, 48, 48, 48, 48]⟩), (2, .string ⟨#[118, 105, 114, 116, 105, 111, 64, 49, 48, 48, 48, 49, 48, 48, 48]⟩), (3, .string ⟨#[118, 105, 114, 116, 105, 111, 64, 49, 48, 48, 48, 50, 48, 48, 48]⟩)] _ _ (by simp only [List.map_toArray, List.map_cons, List.map_nil] <;> rfl) (bs38_4 W _ _ _ _) ⟨(Kp.refl _ _).alloc _, _, rfl, heap_alloc_new W _⟩
    · exact absurd hi (by simp only [List.length_cons, List.length_nil]; omega)
  · intro a W hW hdef hsz hold hR
    have hst : stepS Try.prog (opsOf Try.f6 6) Q ((opsOf Try.f6 6).getD 1 default) (fun v w'' => KpN W w'' ∧ (Stb.blk namesC 9 4).p v w'') a W := by
      obtain ⟨b0, e0, q0⟩ : (Stb.blk namesC 9 4).p (a.eval (.tmp 22)) W := hR 0 (by decide)
      exact gS_as (wanted_none (by kernel_rfl) _) rfl _ e0 ⟨Kp.refl _ _, _, rfl, q0⟩
    refine last_step (by kernel_rfl) hst fun v w' hv => ?_
    rw [show ((opsOf Try.f6 6).getD 1 default).dst = some 4 by kernel_rfl]
    refine hQ _ w' (hW.trans hv.1) hdef ((put_size _ _ _).trans hsz) (fun s hs => ?_) (by rw [put_same _ _ _ (by rw [hsz, hs0]; decide)]; exact hv.2)
    rw [put_other _ _ _ _ (fun e => hs (by rw [← e]; decide))]
    exact hold s (fun h => hs (List.mem_append_left [4] h))
set_option maxHeartbeats 4000000 in
set_option maxRecDepth 100000 in
theorem m6r7 (sz : Int) (ops : Array Oper) (hops : ops = opsOf Try.f6 7) (a0 : Act) (w : World) (Q : Exit → Act → World → Prop) (hs0 : a0.tmps.size = 73)
    (hQ : ∀ a w', KpN w w' → a.defers = a0.defers → a.tmps.size = a0.tmps.size → (∀ s, s ∉ [23, 24, 25, 26, 27, 5] → a.tmps.getD s undef = a0.tmps.getD s undef) → (Stb.blk placesC 62 4).p (a.tmps.getD 5 undef) w' → Q .normal a w') : (Code.region 7 ops false).wp Try.prog Q a0 w := by
  subst hops
  refine wp_slots false [23, 24, 25, 26, 27] [Stb.val (.agg #[.int .u64 201326592, .int .u64 4194304]), Stb.val (.agg #[.int .u64 33554432, .int .u64 65536]), Stb.val (.agg #[.int .u64 268439552, .int .u64 4096]), Stb.val (.agg #[.int .u64 268443648, .int .u64 4096]), Stb.blk placesC 62 4] ((opsOf Try.f6 7).getD 5 default) (by kernel_rfl) (by rw [hs0]; kernel_rfl) (by kernel_rfl) (by kernel_rfl) ?_ ?_
  · intro i o hi ho a W hW hA hdep
    rcases i with _ | _ | _ | _ | _ | i
    · obtain rfl := at_get ho
      exact gS_bd (wanted_none (by kernel_rfl) _) rfl #[(0, .int .u64 201326592), (1, .int .u64 4194304)] _ (by simp only [List.map_toArray, List.map_cons, List.map_nil] <;> rfl) (bd62 W _ _) ⟨Kp.refl _ _, rfl⟩
    · obtain rfl := at_get ho
      exact gS_bd (wanted_none (by kernel_rfl) _) rfl #[(0, .int .u64 33554432), (1, .int .u64 65536)] _ (by simp only [List.map_toArray, List.map_cons, List.map_nil] <;> rfl) (bd62 W _ _) ⟨Kp.refl _ _, rfl⟩
    · obtain rfl := at_get ho
      exact gS_bd (wanted_none (by kernel_rfl) _) rfl #[(0, .int .u64 268439552), (1, .int .u64 4096)] _ (by simp only [List.map_toArray, List.map_cons, List.map_nil] <;> rfl) (bd62 W _ _) ⟨Kp.refl _ _, rfl⟩
    · obtain rfl := at_get ho
      exact gS_bd (wanted_none (by kernel_rfl) _) rfl #[(0, .int .u64 268443648), (1, .int .u64 4096)] _ (by simp only [List.map_toArray, List.map_cons, List.map_nil] <;> rfl) (bd62 W _ _) ⟨Kp.refl _ _, rfl⟩
    · obtain rfl := at_get ho
      have e0 : a.eval (.tmp 23) = .agg #[.int .u64 201326592, .int .u64 4194304] := hdep 0 (by decide) (by kernel_rfl)
      have e1 : a.eval (.tmp 24) = .agg #[.int .u64 33554432, .int .u64 65536] := hdep 1 (by decide) (by kernel_rfl)
      have e2 : a.eval (.tmp 25) = .agg #[.int .u64 268439552, .int .u64 4096] := hdep 2 (by decide) (by kernel_rfl)
      have e3 : a.eval (.tmp 26) = .agg #[.int .u64 268443648, .int .u64 4096] := hdep 3 (by decide) (by kernel_rfl)
      exact gS_bs (wanted_none (by kernel_rfl) _) rfl #[(0, .agg #[.int .u64 201326592, .int .u64 4194304]), (1, .agg #[.int .u64 33554432, .int .u64 65536]), (2, .agg #[.int .u64 268439552, .int .u64 4096]), (3, .agg #[.int .u64 268443648, .int .u64 4096])] _ _ (by simp only [List.map_toArray, List.map_cons, List.map_nil]; rw [e0, e1, e2, e3] <;> rfl) (bs63_4 W _ _ _ _ _ _ _ _) ⟨(Kp.refl _ _).alloc _, _, rfl, heap_alloc_new W _⟩
    · exact absurd hi (by simp only [List.length_cons, List.length_nil]; omega)
  · intro a W hW hdef hsz hold hR
    have hst : stepS Try.prog (opsOf Try.f6 7) Q ((opsOf Try.f6 7).getD 5 default) (fun v w'' => KpN W w'' ∧ (Stb.blk placesC 62 4).p v w'') a W := by
      obtain ⟨b0, e0, q0⟩ : (Stb.blk placesC 62 4).p (a.eval (.tmp 27)) W := hR 4 (by decide)
      exact gS_as (wanted_none (by kernel_rfl) _) rfl _ e0 ⟨Kp.refl _ _, _, rfl, q0⟩
    refine last_step (by kernel_rfl) hst fun v w' hv => ?_
    rw [show ((opsOf Try.f6 7).getD 5 default).dst = some 5 by kernel_rfl]
    refine hQ _ w' (hW.trans hv.1) hdef ((put_size _ _ _).trans hsz) (fun s hs => ?_) (by rw [put_same _ _ _ (by rw [hsz, hs0]; decide)]; exact hv.2)
    rw [put_other _ _ _ _ (fun e => hs (by rw [← e]; decide))]
    exact hold s (fun h => hs (List.mem_append_left [5] h))
set_option maxHeartbeats 4000000 in
set_option maxRecDepth 100000 in
theorem m6r9_0 (sz : Int) (ops : Array Oper) (hops : ops = opsOf Try.f6 9) (a0 : Act) (w : World) (Q : Exit → Act → World → Prop) (hs0 : a0.tmps.size = 73) (h4 : (Stb.blk namesC 9 4).p (a0.tmps.getD 4 undef) w) (h6 : a0.tmps.getD 6 undef = .int .i64 0)
    (hQ : ∀ a w', KpN w w' → a.defers = a0.defers → a.tmps.size = a0.tmps.size → (∀ s, s ∉ [28, 29, 30, 31] → a.tmps.getD s undef = a0.tmps.getD s undef) → (Stb.val (.bool true)).p (a.tmps.getD 31 undef) w' → Q .normal a w') : (Code.region 9 ops false).wp Try.prog Q a0 w := by
  subst hops
  refine wp_slots false [28, 29, 30] [Stb.val (.int .i64 0), Stb.blk namesC 9 4, Stb.val (.int .i64 4)] ((opsOf Try.f6 9).getD 3 default) (by kernel_rfl) (by rw [hs0]; kernel_rfl) (by kernel_rfl) (by kernel_rfl) ?_ ?_
  · intro i o hi ho a W hW hA hdep
    rcases i with _ | _ | _ | i
    · obtain rfl := at_get ho
      exact gS_mv (wanted_none (by kernel_rfl) _) rfl _ ((ag_old hA (by decide)).trans h6) ⟨Kp.refl _ _, rfl⟩
    · obtain rfl := at_get ho
      obtain ⟨b_, e_, q_⟩ := (Stb.blk namesC 9 4).st _ _ _ h4 hW
      exact gS_mv (wanted_none (by kernel_rfl) _) rfl _ ((ag_old hA (by decide)).trans e_) ⟨Kp.refl _ _, b_, rfl, q_⟩
    · obtain rfl := at_get ho
      obtain ⟨b0, e0, q0⟩ : (Stb.blk namesC 9 4).p (a.eval (.tmp 29)) W := hdep 1 (by decide) (by kernel_rfl)
      exact gS_len (wanted_none (by kernel_rfl) _) rfl _ _ e0 ⟨Kp.refl _ _, rfl⟩
    · exact absurd hi (by simp only [List.length_cons, List.length_nil]; omega)
  · intro a W hW hdef hsz hold hR
    have hst : stepS Try.prog (opsOf Try.f6 9) Q ((opsOf Try.f6 9).getD 3 default) (fun v w'' => KpN W w'' ∧ (Stb.val (.bool true)).p v w'') a W := by
      have e0 : a.eval (.tmp 28) = .int .i64 0 := hR 0 (by decide)
      have e1 : a.eval (.tmp 30) = .int .i64 4 := hR 2 (by decide)
      exact gS_bin (wanted_none (by kernel_rfl) _) rfl (.int .i64 0) (.int .i64 4) (.bool true) e0 e1 (by kernel_rfl) ⟨Kp.refl _ _, rfl⟩
    refine last_step (by kernel_rfl) hst fun v w' hv => ?_
    rw [show ((opsOf Try.f6 9).getD 3 default).dst = some 31 by kernel_rfl]
    refine hQ _ w' (hW.trans hv.1) hdef ((put_size _ _ _).trans hsz) (fun s hs => ?_) (by rw [put_same _ _ _ (by rw [hsz, hs0]; decide)]; exact hv.2)
    rw [put_other _ _ _ _ (fun e => hs (by rw [← e]; decide))]
    exact hold s (fun h => hs (List.mem_append_left [31] h))
set_option maxHeartbeats 4000000 in
set_option maxRecDepth 100000 in
theorem m6r11_0 (sz : Int) (ops : Array Oper) (hops : ops = opsOf Try.f6 11) (a0 : Act) (w : World) (Q : Exit → Act → World → Prop) (hs0 : a0.tmps.size = 73) (h3 : ∃ g_, a0.tmps.getD 3 undef = .pointer (some ⟨g_, 0, none⟩) ∧ NodeB w g_ (n25_5 sz)) (h4 : (Stb.blk namesC 9 4).p (a0.tmps.getD 4 undef) w) (h5 : (Stb.blk placesC 62 4).p (a0.tmps.getD 5 undef) w) (h6 : a0.tmps.getD 6 undef = .int .i64 0)
    (hQ : ∀ a w', KpN w w' → a.defers = a0.defers → a.tmps.size = a0.tmps.size → (∀ s, s ∉ [34, 35, 36, 37, 38, 39, 40, 41, 42, 43, 44, 45, 46, 47, 48, 49, 50, 51, 52] → a.tmps.getD s undef = a0.tmps.getD s undef) → (Stb.val (.bool false)).p (a.tmps.getD 52 undef) w' → Q .normal a w') : (Code.region 11 ops true).wp Try.prog Q a0 w := by
  subst hops
  refine wp_slots true [34, 35, 36, 37, 38, 39, 40, 41, 42, 43, 44, 45, 46, 47, 48, 49, 50, 51] [Stb.node (n25_5 sz), Stb.blk namesC 9 4, Stb.val (.int .i64 0), Stb.at namesC 9 0, Stb.val (.string ⟨#[112, 108, 105, 99, 64, 99, 48, 48, 48, 48, 48, 48]⟩), Stb.slF Kd.string [(⟨#[115, 111, 99]⟩ : ByteArray), (⟨#[112, 108, 105, 99, 64, 99, 48, 48, 48, 48, 48, 48]⟩ : ByteArray)], Stb.blk placesC 62 4, Stb.val (.int .i64 0), Stb.at placesC 62 0, Stb.at placesC 62 0, Stb.val (.int .u64 201326592), Stb.blk placesC 62 4, Stb.val (.int .i64 0), Stb.at placesC 62 0, Stb.at placesC 62 1, Stb.val (.int .u64 4194304), Stb.sl (Kd.int .u8) (w64b 201326592 ++ w64b 4194304), Stb.val (.bool true)] ((opsOf Try.f6 11).getD 18 default) (by kernel_rfl) (by rw [hs0]; kernel_rfl) (by kernel_rfl) (by kernel_rfl) ?_ ?_
  · intro i o hi ho a W hW hA hdep
    rcases i with _ | _ | _ | _ | _ | _ | _ | _ | _ | _ | _ | _ | _ | _ | _ | _ | _ | _ | i
    · obtain rfl := at_get ho
      obtain ⟨g_, p_, n_⟩ := h3
      obtain ⟨u1, u2, hb, s1, s2⟩ := n_.kp hW
      exact gS_ld (wanted_none (by kernel_rfl) _) rfl g_ ((ag_old hA (by decide)).trans p_) 32 _ _ hb Try.underlying32 rfl (by kernel_rfl) ⟨Kp.refl _ _, _, _, rfl, s1, s2⟩
    · obtain rfl := at_get ho
      obtain ⟨b_, e_, q_⟩ := (Stb.blk namesC 9 4).st _ _ _ h4 hW
      exact gS_mv (wanted_none (by kernel_rfl) _) rfl _ ((ag_old hA (by decide)).trans e_) ⟨Kp.refl _ _, b_, rfl, q_⟩
    · obtain rfl := at_get ho
      exact gS_mv (wanted_none (by kernel_rfl) _) rfl _ ((ag_old hA (by decide)).trans h6) ⟨Kp.refl _ _, rfl⟩
    · obtain rfl := at_get ho
      obtain ⟨b0, e0, q0⟩ : (Stb.blk namesC 9 4).p (a.eval (.tmp 35)) W := hdep 1 (by decide) (by kernel_rfl)
      have e1 : a.eval (.tmp 36) = .int .i64 0 := hdep 2 (by decide) (by kernel_rfl)
      exact gS_ia (wanted_none (by kernel_rfl) _) rfl _ _ (.pointer (some ⟨b0, 0, none⟩)) e0 e1 (by kernel_rfl) ⟨Kp.refl _ _, b0, rfl, q0⟩
    · obtain rfl := at_get ho
      obtain ⟨b0, e0, q0⟩ : (Stb.at namesC 9 0).p (a.eval (.tmp 37)) W := hdep 3 (by decide) (by kernel_rfl)
      exact gS_load (wanted_none (by kernel_rfl) _) rfl _ (.string ⟨#[112, 108, 105, 99, 64, 99, 48, 48, 48, 48, 48, 48]⟩) e0 (ldc9 _ _ W (by rw [blk_cell q0]; rfl)) ⟨Kp.refl _ _, rfl⟩
    · obtain rfl := at_get ho
      have e1 : a.eval (.tmp 38) = .string ⟨#[112, 108, 105, 99, 64, 99, 48, 48, 48, 48, 48, 48]⟩ := hdep 4 (by decide) (by kernel_rfl)
      exact gS_bs (wanted_none (by kernel_rfl) _) rfl #[(0, .string ⟨#[115, 111, 99]⟩), (1, .string ⟨#[112, 108, 105, 99, 64, 99, 48, 48, 48, 48, 48, 48]⟩)] _ _ (by simp only [List.map_toArray, List.map_cons, List.map_nil]; rw [e1] <;> rfl) (bs38_2 W _ _) ⟨(Kp.refl _ _).alloc _, SlF.lit (d := Kd.string) (l := [(⟨#[115, 111, 99]⟩ : ByteArray), (⟨#[112, 108, 105, 99, 64, 99, 48, 48, 48, 48, 48, 48]⟩ : ByteArray)]) (inner := [.string ⟨#[115, 111, 99]⟩, .string ⟨#[112, 108, 105, 99, 64, 99, 48, 48, 48, 48, 48, 48]⟩]) (reps_cons str_sl rfl (reps_cons str_sl rfl (Reps.none _ _))) (show (2 : Nat) ≤ 9223372036854775807 by decide) (.inl (by decide))⟩
    · obtain rfl := at_get ho
      obtain ⟨b_, e_, q_⟩ := (Stb.blk placesC 62 4).st _ _ _ h5 hW
      exact gS_mv (wanted_none (by kernel_rfl) _) rfl _ ((ag_old hA (by decide)).trans e_) ⟨Kp.refl _ _, b_, rfl, q_⟩
    · obtain rfl := at_get ho
      exact gS_mv (wanted_none (by kernel_rfl) _) rfl _ ((ag_old hA (by decide)).trans h6) ⟨Kp.refl _ _, rfl⟩
    · obtain rfl := at_get ho
      obtain ⟨b0, e0, q0⟩ : (Stb.blk placesC 62 4).p (a.eval (.tmp 40)) W := hdep 6 (by decide) (by kernel_rfl)
      have e1 : a.eval (.tmp 41) = .int .i64 0 := hdep 7 (by decide) (by kernel_rfl)
      exact gS_ia (wanted_none (by kernel_rfl) _) rfl _ _ (.pointer (some ⟨b0, 0, none⟩)) e0 e1 (by kernel_rfl) ⟨Kp.refl _ _, b0, rfl, q0⟩
    · obtain rfl := at_get ho
      obtain ⟨b0, e0, q0⟩ : (Stb.at placesC 62 0).p (a.eval (.tmp 42)) W := hdep 8 (by decide) (by kernel_rfl)
      exact gS_ia (wanted_none (by kernel_rfl) _) rfl _ _ (.pointer (some ⟨b0, 0, none⟩)) e0 rfl (by kernel_rfl) ⟨Kp.refl _ _, b0, rfl, q0⟩
    · obtain rfl := at_get ho
      obtain ⟨b0, e0, q0⟩ : (Stb.at placesC 62 0).p (a.eval (.tmp 43)) W := hdep 9 (by decide) (by kernel_rfl)
      exact gS_load (wanted_none (by kernel_rfl) _) rfl _ (.int .u64 201326592) e0 (ldc39 _ _ W (by rw [blk_cell q0]; rfl)) ⟨Kp.refl _ _, rfl⟩
    · obtain rfl := at_get ho
      obtain ⟨b_, e_, q_⟩ := (Stb.blk placesC 62 4).st _ _ _ h5 hW
      exact gS_mv (wanted_none (by kernel_rfl) _) rfl _ ((ag_old hA (by decide)).trans e_) ⟨Kp.refl _ _, b_, rfl, q_⟩
    · obtain rfl := at_get ho
      exact gS_mv (wanted_none (by kernel_rfl) _) rfl _ ((ag_old hA (by decide)).trans h6) ⟨Kp.refl _ _, rfl⟩
    · obtain rfl := at_get ho
      obtain ⟨b0, e0, q0⟩ : (Stb.blk placesC 62 4).p (a.eval (.tmp 45)) W := hdep 11 (by decide) (by kernel_rfl)
      have e1 : a.eval (.tmp 46) = .int .i64 0 := hdep 12 (by decide) (by kernel_rfl)
      exact gS_ia (wanted_none (by kernel_rfl) _) rfl _ _ (.pointer (some ⟨b0, 0, none⟩)) e0 e1 (by kernel_rfl) ⟨Kp.refl _ _, b0, rfl, q0⟩
    · obtain rfl := at_get ho
      obtain ⟨b0, e0, q0⟩ : (Stb.at placesC 62 0).p (a.eval (.tmp 47)) W := hdep 13 (by decide) (by kernel_rfl)
      exact gS_ia (wanted_none (by kernel_rfl) _) rfl _ _ (.pointer (some ⟨b0, 1, none⟩)) e0 rfl (by kernel_rfl) ⟨Kp.refl _ _, b0, rfl, q0⟩
    · obtain rfl := at_get ho
      obtain ⟨b0, e0, q0⟩ : (Stb.at placesC 62 1).p (a.eval (.tmp 48)) W := hdep 14 (by decide) (by kernel_rfl)
      exact gS_load (wanted_none (by kernel_rfl) _) rfl _ (.int .u64 4194304) e0 (ldc39 _ _ W (by rw [blk_cell q0]; rfl)) ⟨Kp.refl _ _, rfl⟩
    · obtain rfl := at_get ho
      have e0 : a.eval (.tmp 44) = .int .u64 201326592 := hdep 10 (by decide) (by kernel_rfl)
      have e1 : a.eval (.tmp 49) = .int .u64 4194304 := hdep 15 (by decide) (by kernel_rfl)
      refine gS_ca (wanted_none (by kernel_rfl) _) rfl Try.func27 (by kernel_rfl) rfl #[.int .u64 201326592, .int .u64 4194304] (by simp only [List.map_toArray, List.map_cons, List.map_nil]; rw [e0, e1] <;> rfl) ?_
      exact place_m W 201326592 4194304 (by decide) (by decide) (by decide) (by decide)
    · obtain rfl := at_get ho
      obtain ⟨_, _, e0, ⟨A0, c0, rfl, l0, q0⟩, ⟨B0, d0, rfl, m0, r0⟩⟩ : NodeV W (a.eval (.tmp 34)) (n25_5 sz) := hdep 0 (by decide) (by kernel_rfl)
      obtain ⟨b1, e1, q1⟩ : SlF Kd.string W (a.eval (.tmp 39)) [(⟨#[115, 111, 99]⟩ : ByteArray), (⟨#[112, 108, 105, 99, 64, 99, 48, 48, 48, 48, 48, 48]⟩ : ByteArray)] := hdep 5 (by decide) (by kernel_rfl)
      obtain ⟨A3, c3, e3, l3, q3⟩ : Sl (Kd.int .u8) W (a.eval (.tmp 50)) (w64b 201326592 ++ w64b 4194304) := hdep 16 (by decide) (by kernel_rfl)
      refine gS_ca (wanted_none (by kernel_rfl) _) rfl Try.func26 (by kernel_rfl) rfl #[.agg #[.string (n25_5 sz).f0, .slice A0 (n25_5 sz).f1.length c0, .slice B0 (n25_5 sz).f2.length d0], .slice (some b1) 2 2, .string ⟨#[114, 101, 103]⟩, .slice A3 ((w64b 201326592 ++ w64b 4194304) : List Int).length c3] (by simp only [List.map_toArray, List.map_cons, List.map_nil]; rw [e0, e1, e3] <;> rfl) ?_
      exact told_m W (sz := sz) (A1 := some b1) (c1 := 2) (path := [(⟨#[115, 111, 99]⟩ : ByteArray), (⟨#[112, 108, 105, 99, 64, 99, 48, 48, 48, 48, 48, 48]⟩ : ByteArray)]) (name := ⟨#[114, 101, 103]⟩) (want := (w64b 201326592 ++ w64b 4194304)) (A3 := A3) (c3 := c3) q0 l0 r0 m0 q1 (Nat.le_refl _) q3 l3 (told_reg0 sz)
    · exact absurd hi (by simp only [List.length_cons, List.length_nil]; omega)
  · intro a W hW hdef hsz hold hR
    have hst : stepS Try.prog (opsOf Try.f6 11) Q ((opsOf Try.f6 11).getD 18 default) (fun v w'' => KpN W w'' ∧ (Stb.val (.bool false)).p v w'') a W := by
      have e0 : a.eval (.tmp 51) = .bool true := hR 17 (by decide)
      exact gS_un (wanted_none (by kernel_rfl) _) rfl (.bool true) (.bool false) e0 (by kernel_rfl) ⟨Kp.refl _ _, rfl⟩
    refine last_step (by kernel_rfl) hst fun v w' hv => ?_
    rw [show ((opsOf Try.f6 11).getD 18 default).dst = some 52 by kernel_rfl]
    refine hQ _ w' (hW.trans hv.1) hdef ((put_size _ _ _).trans hsz) (fun s hs => ?_) (by rw [put_same _ _ _ (by rw [hsz, hs0]; decide)]; exact hv.2)
    rw [put_other _ _ _ _ (fun e => hs (by rw [← e]; decide))]
    exact hold s (fun h => hs (List.mem_append_left [52] h))
set_option maxHeartbeats 4000000 in
set_option maxRecDepth 100000 in
theorem m6r13_0 (sz : Int) (ops : Array Oper) (hops : ops = opsOf Try.f6 13) (a0 : Act) (w : World) (Q : Exit → Act → World → Prop) (hs0 : a0.tmps.size = 73) (h3 : ∃ g_, a0.tmps.getD 3 undef = .pointer (some ⟨g_, 0, none⟩) ∧ NodeB w g_ (n25_5 sz)) (h4 : (Stb.blk namesC 9 4).p (a0.tmps.getD 4 undef) w) (h6 : a0.tmps.getD 6 undef = .int .i64 0)
    (hQ : ∀ a w', KpN w w' → a.defers = a0.defers → a.tmps.size = a0.tmps.size → (∀ s, s ∉ [53, 54, 55, 56, 57, 58, 59, 60, 61, 62, 63, 64, 65, 66, 67] → a.tmps.getD s undef = a0.tmps.getD s undef) → (Stb.val (.bool false)).p (a.tmps.getD 67 undef) w' → Q .normal a w') : (Code.region 13 ops true).wp Try.prog Q a0 w := by
  subst hops
  refine wp_slots true [53, 54, 55, 56, 57, 58, 59, 60, 61, 62, 63, 64, 65, 66] [Stb.val (.int .i64 0), Stb.val (.bool false), Stb.val (.bool false), Stb.val (undef), Stb.val (undef), Stb.val (undef), Stb.val (undef), Stb.val (undef), Stb.val (undef), Stb.val (undef), Stb.val (undef), Stb.val (undef), Stb.val (undef), Stb.val (undef)] ((opsOf Try.f6 13).getD 14 default) (by kernel_rfl) (by rw [hs0]; kernel_rfl) (by kernel_rfl) (by kernel_rfl) ?_ ?_
  · intro i o hi ho a W hW hA hdep
    rcases i with _ | _ | _ | _ | _ | _ | _ | _ | _ | _ | _ | _ | _ | _ | i
    · obtain rfl := at_get ho
      exact gS_mv (wanted_none (by kernel_rfl) _) rfl _ ((ag_old hA (by decide)).trans h6) ⟨Kp.refl _ _, rfl⟩
    · obtain rfl := at_get ho
      have e0 : a.eval (.tmp 53) = .int .i64 0 := hdep 0 (by decide) (by kernel_rfl)
      exact gS_bin (wanted_none (by kernel_rfl) _) rfl (.int .i64 0) (.int .i64 2) (.bool false) e0 rfl (by kernel_rfl) ⟨Kp.refl _ _, rfl⟩
    · obtain rfl := at_get ho
      have e0 : a.eval (.tmp 54) = .bool false := hdep 1 (by decide) (by kernel_rfl)
      exact gS_mv (wanted_none (by kernel_rfl) _) rfl _ e0 ⟨Kp.refl _ _, rfl⟩
    · obtain rfl := at_get ho
      have hg : a.tmps.getD 55 undef = .bool false := hdep 2 (by decide) (by kernel_rfl)
      exact sS_no (wanted_n (j := 2) (b := true) (by kernel_rfl) (by kernel_rfl) hg (by decide)) ⟨Kp.refl _ _, rfl⟩
    · obtain rfl := at_get ho
      have hg : a.tmps.getD 55 undef = .bool false := hdep 2 (by decide) (by kernel_rfl)
      exact sS_no (wanted_n (j := 2) (b := true) (by kernel_rfl) (by kernel_rfl) hg (by decide)) ⟨Kp.refl _ _, rfl⟩
    · obtain rfl := at_get ho
      have hg : a.tmps.getD 55 undef = .bool false := hdep 2 (by decide) (by kernel_rfl)
      exact sS_no (wanted_n (j := 2) (b := true) (by kernel_rfl) (by kernel_rfl) hg (by decide)) ⟨Kp.refl _ _, rfl⟩
    · obtain rfl := at_get ho
      have hg : a.tmps.getD 55 undef = .bool false := hdep 2 (by decide) (by kernel_rfl)
      exact sS_no (wanted_n (j := 2) (b := true) (by kernel_rfl) (by kernel_rfl) hg (by decide)) ⟨Kp.refl _ _, rfl⟩
    · obtain rfl := at_get ho
      have hg : a.tmps.getD 55 undef = .bool false := hdep 2 (by decide) (by kernel_rfl)
      exact sS_no (wanted_n (j := 2) (b := true) (by kernel_rfl) (by kernel_rfl) hg (by decide)) ⟨Kp.refl _ _, rfl⟩
    · obtain rfl := at_get ho
      have hg : a.tmps.getD 55 undef = .bool false := hdep 2 (by decide) (by kernel_rfl)
      exact sS_no (wanted_n (j := 2) (b := true) (by kernel_rfl) (by kernel_rfl) hg (by decide)) ⟨Kp.refl _ _, rfl⟩
    · obtain rfl := at_get ho
      have hg : a.tmps.getD 55 undef = .bool false := hdep 2 (by decide) (by kernel_rfl)
      exact sS_no (wanted_n (j := 2) (b := true) (by kernel_rfl) (by kernel_rfl) hg (by decide)) ⟨Kp.refl _ _, rfl⟩
    · obtain rfl := at_get ho
      have hg : a.tmps.getD 55 undef = .bool false := hdep 2 (by decide) (by kernel_rfl)
      exact sS_no (wanted_n (j := 2) (b := true) (by kernel_rfl) (by kernel_rfl) hg (by decide)) ⟨Kp.refl _ _, rfl⟩
    · obtain rfl := at_get ho
      have hg : a.tmps.getD 55 undef = .bool false := hdep 2 (by decide) (by kernel_rfl)
      exact sS_no (wanted_n (j := 2) (b := true) (by kernel_rfl) (by kernel_rfl) hg (by decide)) ⟨Kp.refl _ _, rfl⟩
    · obtain rfl := at_get ho
      have hg : a.tmps.getD 55 undef = .bool false := hdep 2 (by decide) (by kernel_rfl)
      exact sS_no (wanted_n (j := 2) (b := true) (by kernel_rfl) (by kernel_rfl) hg (by decide)) ⟨Kp.refl _ _, rfl⟩
    · obtain rfl := at_get ho
      have hg : a.tmps.getD 55 undef = .bool false := hdep 2 (by decide) (by kernel_rfl)
      exact sS_no (wanted_n (j := 2) (b := true) (by kernel_rfl) (by kernel_rfl) hg (by decide)) ⟨Kp.refl _ _, rfl⟩
    · exact absurd hi (by simp only [List.length_cons, List.length_nil]; omega)
  · intro a W hW hdef hsz hold hR
    have hst : stepS Try.prog (opsOf Try.f6 13) Q ((opsOf Try.f6 13).getD 14 default) (fun v w'' => KpN W w'' ∧ (Stb.val (.bool false)).p v w'') a W := by
      have e0 : a.eval (.tmp 55) = .bool false := hR 2 (by decide)
      exact gS_pick (wanted_none (by kernel_rfl) _) rfl false (.bool false) e0 rfl ⟨Kp.refl _ _, rfl⟩
    refine last_step (by kernel_rfl) hst fun v w' hv => ?_
    rw [show ((opsOf Try.f6 13).getD 14 default).dst = some 67 by kernel_rfl]
    refine hQ _ w' (hW.trans hv.1) hdef ((put_size _ _ _).trans hsz) (fun s hs => ?_) (by rw [put_same _ _ _ (by rw [hsz, hs0]; decide)]; exact hv.2)
    rw [put_other _ _ _ _ (fun e => hs (by rw [← e]; decide))]
    exact hold s (fun h => hs (List.mem_append_left [67] h))
set_option maxHeartbeats 4000000 in
set_option maxRecDepth 100000 in
theorem m6r10_0 (sz : Int) (ops : Array Oper) (hops : ops = opsOf Try.f6 10) (a0 : Act) (w : World) (Q : Exit → Act → World → Prop) (hs0 : a0.tmps.size = 73) (h6 : a0.tmps.getD 6 undef = .int .i64 0)
    (hQ : ∀ a w', KpN w w' → a.defers = a0.defers → a.tmps.size = a0.tmps.size → (∀ s, s ∉ [32, 33, 6] → a.tmps.getD s undef = a0.tmps.getD s undef) → (Stb.val (.int .i64 1)).p (a.tmps.getD 6 undef) w' → Q .normal a w') : (Code.region 10 ops false).wp Try.prog Q a0 w := by
  subst hops
  refine wp_slots false [32, 33] [Stb.val (.int .i64 0), Stb.val (.int .i64 1)] ((opsOf Try.f6 10).getD 2 default) (by kernel_rfl) (by rw [hs0]; kernel_rfl) (by kernel_rfl) (by kernel_rfl) ?_ ?_
  · intro i o hi ho a W hW hA hdep
    rcases i with _ | _ | i
    · obtain rfl := at_get ho
      exact gS_mv (wanted_none (by kernel_rfl) _) rfl _ ((ag_old hA (by decide)).trans h6) ⟨Kp.refl _ _, rfl⟩
    · obtain rfl := at_get ho
      have e0 : a.eval (.tmp 32) = .int .i64 0 := hdep 0 (by decide) (by kernel_rfl)
      exact gS_bin (wanted_none (by kernel_rfl) _) rfl (.int .i64 0) (.int .i64 1) (.int .i64 1) e0 rfl (by kernel_rfl) ⟨Kp.refl _ _, rfl⟩
    · exact absurd hi (by simp only [List.length_cons, List.length_nil]; omega)
  · intro a W hW hdef hsz hold hR
    have hst : stepS Try.prog (opsOf Try.f6 10) Q ((opsOf Try.f6 10).getD 2 default) (fun v w'' => KpN W w'' ∧ (Stb.val (.int .i64 1)).p v w'') a W := by
      have e0 : a.eval (.tmp 33) = .int .i64 1 := hR 1 (by decide)
      exact gS_as (wanted_none (by kernel_rfl) _) rfl _ e0 ⟨Kp.refl _ _, rfl⟩
    refine last_step (by kernel_rfl) hst fun v w' hv => ?_
    rw [show ((opsOf Try.f6 10).getD 2 default).dst = some 6 by kernel_rfl]
    refine hQ _ w' (hW.trans hv.1) hdef ((put_size _ _ _).trans hsz) (fun s hs => ?_) (by rw [put_same _ _ _ (by rw [hsz, hs0]; decide)]; exact hv.2)
    rw [put_other _ _ _ _ (fun e => hs (by rw [← e]; decide))]
    exact hold s (fun h => hs (List.mem_append_left [6] h))
set_option maxHeartbeats 4000000 in
set_option maxRecDepth 100000 in
theorem m6r9_1 (sz : Int) (ops : Array Oper) (hops : ops = opsOf Try.f6 9) (a0 : Act) (w : World) (Q : Exit → Act → World → Prop) (hs0 : a0.tmps.size = 73) (h4 : (Stb.blk namesC 9 4).p (a0.tmps.getD 4 undef) w) (h6 : a0.tmps.getD 6 undef = .int .i64 1)
    (hQ : ∀ a w', KpN w w' → a.defers = a0.defers → a.tmps.size = a0.tmps.size → (∀ s, s ∉ [28, 29, 30, 31] → a.tmps.getD s undef = a0.tmps.getD s undef) → (Stb.val (.bool true)).p (a.tmps.getD 31 undef) w' → Q .normal a w') : (Code.region 9 ops false).wp Try.prog Q a0 w := by
  subst hops
  refine wp_slots false [28, 29, 30] [Stb.val (.int .i64 1), Stb.blk namesC 9 4, Stb.val (.int .i64 4)] ((opsOf Try.f6 9).getD 3 default) (by kernel_rfl) (by rw [hs0]; kernel_rfl) (by kernel_rfl) (by kernel_rfl) ?_ ?_
  · intro i o hi ho a W hW hA hdep
    rcases i with _ | _ | _ | i
    · obtain rfl := at_get ho
      exact gS_mv (wanted_none (by kernel_rfl) _) rfl _ ((ag_old hA (by decide)).trans h6) ⟨Kp.refl _ _, rfl⟩
    · obtain rfl := at_get ho
      obtain ⟨b_, e_, q_⟩ := (Stb.blk namesC 9 4).st _ _ _ h4 hW
      exact gS_mv (wanted_none (by kernel_rfl) _) rfl _ ((ag_old hA (by decide)).trans e_) ⟨Kp.refl _ _, b_, rfl, q_⟩
    · obtain rfl := at_get ho
      obtain ⟨b0, e0, q0⟩ : (Stb.blk namesC 9 4).p (a.eval (.tmp 29)) W := hdep 1 (by decide) (by kernel_rfl)
      exact gS_len (wanted_none (by kernel_rfl) _) rfl _ _ e0 ⟨Kp.refl _ _, rfl⟩
    · exact absurd hi (by simp only [List.length_cons, List.length_nil]; omega)
  · intro a W hW hdef hsz hold hR
    have hst : stepS Try.prog (opsOf Try.f6 9) Q ((opsOf Try.f6 9).getD 3 default) (fun v w'' => KpN W w'' ∧ (Stb.val (.bool true)).p v w'') a W := by
      have e0 : a.eval (.tmp 28) = .int .i64 1 := hR 0 (by decide)
      have e1 : a.eval (.tmp 30) = .int .i64 4 := hR 2 (by decide)
      exact gS_bin (wanted_none (by kernel_rfl) _) rfl (.int .i64 1) (.int .i64 4) (.bool true) e0 e1 (by kernel_rfl) ⟨Kp.refl _ _, rfl⟩
    refine last_step (by kernel_rfl) hst fun v w' hv => ?_
    rw [show ((opsOf Try.f6 9).getD 3 default).dst = some 31 by kernel_rfl]
    refine hQ _ w' (hW.trans hv.1) hdef ((put_size _ _ _).trans hsz) (fun s hs => ?_) (by rw [put_same _ _ _ (by rw [hsz, hs0]; decide)]; exact hv.2)
    rw [put_other _ _ _ _ (fun e => hs (by rw [← e]; decide))]
    exact hold s (fun h => hs (List.mem_append_left [31] h))
set_option maxHeartbeats 4000000 in
set_option maxRecDepth 100000 in
theorem m6r11_1 (sz : Int) (ops : Array Oper) (hops : ops = opsOf Try.f6 11) (a0 : Act) (w : World) (Q : Exit → Act → World → Prop) (hs0 : a0.tmps.size = 73) (h3 : ∃ g_, a0.tmps.getD 3 undef = .pointer (some ⟨g_, 0, none⟩) ∧ NodeB w g_ (n25_5 sz)) (h4 : (Stb.blk namesC 9 4).p (a0.tmps.getD 4 undef) w) (h5 : (Stb.blk placesC 62 4).p (a0.tmps.getD 5 undef) w) (h6 : a0.tmps.getD 6 undef = .int .i64 1)
    (hQ : ∀ a w', KpN w w' → a.defers = a0.defers → a.tmps.size = a0.tmps.size → (∀ s, s ∉ [34, 35, 36, 37, 38, 39, 40, 41, 42, 43, 44, 45, 46, 47, 48, 49, 50, 51, 52] → a.tmps.getD s undef = a0.tmps.getD s undef) → (Stb.val (.bool false)).p (a.tmps.getD 52 undef) w' → Q .normal a w') : (Code.region 11 ops true).wp Try.prog Q a0 w := by
  subst hops
  refine wp_slots true [34, 35, 36, 37, 38, 39, 40, 41, 42, 43, 44, 45, 46, 47, 48, 49, 50, 51] [Stb.node (n25_5 sz), Stb.blk namesC 9 4, Stb.val (.int .i64 1), Stb.at namesC 9 1, Stb.val (.string ⟨#[99, 108, 105, 110, 116, 64, 50, 48, 48, 48, 48, 48, 48]⟩), Stb.slF Kd.string [(⟨#[115, 111, 99]⟩ : ByteArray), (⟨#[99, 108, 105, 110, 116, 64, 50, 48, 48, 48, 48, 48, 48]⟩ : ByteArray)], Stb.blk placesC 62 4, Stb.val (.int .i64 1), Stb.at placesC 62 2, Stb.at placesC 62 2, Stb.val (.int .u64 33554432), Stb.blk placesC 62 4, Stb.val (.int .i64 1), Stb.at placesC 62 2, Stb.at placesC 62 3, Stb.val (.int .u64 65536), Stb.sl (Kd.int .u8) (w64b 33554432 ++ w64b 65536), Stb.val (.bool true)] ((opsOf Try.f6 11).getD 18 default) (by kernel_rfl) (by rw [hs0]; kernel_rfl) (by kernel_rfl) (by kernel_rfl) ?_ ?_
  · intro i o hi ho a W hW hA hdep
    rcases i with _ | _ | _ | _ | _ | _ | _ | _ | _ | _ | _ | _ | _ | _ | _ | _ | _ | _ | i
    · obtain rfl := at_get ho
      obtain ⟨g_, p_, n_⟩ := h3
      obtain ⟨u1, u2, hb, s1, s2⟩ := n_.kp hW
      exact gS_ld (wanted_none (by kernel_rfl) _) rfl g_ ((ag_old hA (by decide)).trans p_) 32 _ _ hb Try.underlying32 rfl (by kernel_rfl) ⟨Kp.refl _ _, _, _, rfl, s1, s2⟩
    · obtain rfl := at_get ho
      obtain ⟨b_, e_, q_⟩ := (Stb.blk namesC 9 4).st _ _ _ h4 hW
      exact gS_mv (wanted_none (by kernel_rfl) _) rfl _ ((ag_old hA (by decide)).trans e_) ⟨Kp.refl _ _, b_, rfl, q_⟩
    · obtain rfl := at_get ho
      exact gS_mv (wanted_none (by kernel_rfl) _) rfl _ ((ag_old hA (by decide)).trans h6) ⟨Kp.refl _ _, rfl⟩
    · obtain rfl := at_get ho
      obtain ⟨b0, e0, q0⟩ : (Stb.blk namesC 9 4).p (a.eval (.tmp 35)) W := hdep 1 (by decide) (by kernel_rfl)
      have e1 : a.eval (.tmp 36) = .int .i64 1 := hdep 2 (by decide) (by kernel_rfl)
      exact gS_ia (wanted_none (by kernel_rfl) _) rfl _ _ (.pointer (some ⟨b0, 1, none⟩)) e0 e1 (by kernel_rfl) ⟨Kp.refl _ _, b0, rfl, q0⟩
    · obtain rfl := at_get ho
      obtain ⟨b0, e0, q0⟩ : (Stb.at namesC 9 1).p (a.eval (.tmp 37)) W := hdep 3 (by decide) (by kernel_rfl)
      exact gS_load (wanted_none (by kernel_rfl) _) rfl _ (.string ⟨#[99, 108, 105, 110, 116, 64, 50, 48, 48, 48, 48, 48, 48]⟩) e0 (ldc9 _ _ W (by rw [blk_cell q0]; rfl)) ⟨Kp.refl _ _, rfl⟩
    · obtain rfl := at_get ho
      have e1 : a.eval (.tmp 38) = .string ⟨#[99, 108, 105, 110, 116, 64, 50, 48, 48, 48, 48, 48, 48]⟩ := hdep 4 (by decide) (by kernel_rfl)
      exact gS_bs (wanted_none (by kernel_rfl) _) rfl #[(0, .string ⟨#[115, 111, 99]⟩), (1, .string ⟨#[99, 108, 105, 110, 116, 64, 50, 48, 48, 48, 48, 48, 48]⟩)] _ _ (by simp only [List.map_toArray, List.map_cons, List.map_nil]; rw [e1] <;> rfl) (bs38_2 W _ _) ⟨(Kp.refl _ _).alloc _, SlF.lit (d := Kd.string) (l := [(⟨#[115, 111, 99]⟩ : ByteArray), (⟨#[99, 108, 105, 110, 116, 64, 50, 48, 48, 48, 48, 48, 48]⟩ : ByteArray)]) (inner := [.string ⟨#[115, 111, 99]⟩, .string ⟨#[99, 108, 105, 110, 116, 64, 50, 48, 48, 48, 48, 48, 48]⟩]) (reps_cons str_sl rfl (reps_cons str_sl rfl (Reps.none _ _))) (show (2 : Nat) ≤ 9223372036854775807 by decide) (.inl (by decide))⟩
    · obtain rfl := at_get ho
      obtain ⟨b_, e_, q_⟩ := (Stb.blk placesC 62 4).st _ _ _ h5 hW
      exact gS_mv (wanted_none (by kernel_rfl) _) rfl _ ((ag_old hA (by decide)).trans e_) ⟨Kp.refl _ _, b_, rfl, q_⟩
    · obtain rfl := at_get ho
      exact gS_mv (wanted_none (by kernel_rfl) _) rfl _ ((ag_old hA (by decide)).trans h6) ⟨Kp.refl _ _, rfl⟩
    · obtain rfl := at_get ho
      obtain ⟨b0, e0, q0⟩ : (Stb.blk placesC 62 4).p (a.eval (.tmp 40)) W := hdep 6 (by decide) (by kernel_rfl)
      have e1 : a.eval (.tmp 41) = .int .i64 1 := hdep 7 (by decide) (by kernel_rfl)
      exact gS_ia (wanted_none (by kernel_rfl) _) rfl _ _ (.pointer (some ⟨b0, 2, none⟩)) e0 e1 (by kernel_rfl) ⟨Kp.refl _ _, b0, rfl, q0⟩
    · obtain rfl := at_get ho
      obtain ⟨b0, e0, q0⟩ : (Stb.at placesC 62 2).p (a.eval (.tmp 42)) W := hdep 8 (by decide) (by kernel_rfl)
      exact gS_ia (wanted_none (by kernel_rfl) _) rfl _ _ (.pointer (some ⟨b0, 2, none⟩)) e0 rfl (by kernel_rfl) ⟨Kp.refl _ _, b0, rfl, q0⟩
    · obtain rfl := at_get ho
      obtain ⟨b0, e0, q0⟩ : (Stb.at placesC 62 2).p (a.eval (.tmp 43)) W := hdep 9 (by decide) (by kernel_rfl)
      exact gS_load (wanted_none (by kernel_rfl) _) rfl _ (.int .u64 33554432) e0 (ldc39 _ _ W (by rw [blk_cell q0]; rfl)) ⟨Kp.refl _ _, rfl⟩
    · obtain rfl := at_get ho
      obtain ⟨b_, e_, q_⟩ := (Stb.blk placesC 62 4).st _ _ _ h5 hW
      exact gS_mv (wanted_none (by kernel_rfl) _) rfl _ ((ag_old hA (by decide)).trans e_) ⟨Kp.refl _ _, b_, rfl, q_⟩
    · obtain rfl := at_get ho
      exact gS_mv (wanted_none (by kernel_rfl) _) rfl _ ((ag_old hA (by decide)).trans h6) ⟨Kp.refl _ _, rfl⟩
    · obtain rfl := at_get ho
      obtain ⟨b0, e0, q0⟩ : (Stb.blk placesC 62 4).p (a.eval (.tmp 45)) W := hdep 11 (by decide) (by kernel_rfl)
      have e1 : a.eval (.tmp 46) = .int .i64 1 := hdep 12 (by decide) (by kernel_rfl)
      exact gS_ia (wanted_none (by kernel_rfl) _) rfl _ _ (.pointer (some ⟨b0, 2, none⟩)) e0 e1 (by kernel_rfl) ⟨Kp.refl _ _, b0, rfl, q0⟩
    · obtain rfl := at_get ho
      obtain ⟨b0, e0, q0⟩ : (Stb.at placesC 62 2).p (a.eval (.tmp 47)) W := hdep 13 (by decide) (by kernel_rfl)
      exact gS_ia (wanted_none (by kernel_rfl) _) rfl _ _ (.pointer (some ⟨b0, 3, none⟩)) e0 rfl (by kernel_rfl) ⟨Kp.refl _ _, b0, rfl, q0⟩
    · obtain rfl := at_get ho
      obtain ⟨b0, e0, q0⟩ : (Stb.at placesC 62 3).p (a.eval (.tmp 48)) W := hdep 14 (by decide) (by kernel_rfl)
      exact gS_load (wanted_none (by kernel_rfl) _) rfl _ (.int .u64 65536) e0 (ldc39 _ _ W (by rw [blk_cell q0]; rfl)) ⟨Kp.refl _ _, rfl⟩
    · obtain rfl := at_get ho
      have e0 : a.eval (.tmp 44) = .int .u64 33554432 := hdep 10 (by decide) (by kernel_rfl)
      have e1 : a.eval (.tmp 49) = .int .u64 65536 := hdep 15 (by decide) (by kernel_rfl)
      refine gS_ca (wanted_none (by kernel_rfl) _) rfl Try.func27 (by kernel_rfl) rfl #[.int .u64 33554432, .int .u64 65536] (by simp only [List.map_toArray, List.map_cons, List.map_nil]; rw [e0, e1] <;> rfl) ?_
      exact place_m W 33554432 65536 (by decide) (by decide) (by decide) (by decide)
    · obtain rfl := at_get ho
      obtain ⟨_, _, e0, ⟨A0, c0, rfl, l0, q0⟩, ⟨B0, d0, rfl, m0, r0⟩⟩ : NodeV W (a.eval (.tmp 34)) (n25_5 sz) := hdep 0 (by decide) (by kernel_rfl)
      obtain ⟨b1, e1, q1⟩ : SlF Kd.string W (a.eval (.tmp 39)) [(⟨#[115, 111, 99]⟩ : ByteArray), (⟨#[99, 108, 105, 110, 116, 64, 50, 48, 48, 48, 48, 48, 48]⟩ : ByteArray)] := hdep 5 (by decide) (by kernel_rfl)
      obtain ⟨A3, c3, e3, l3, q3⟩ : Sl (Kd.int .u8) W (a.eval (.tmp 50)) (w64b 33554432 ++ w64b 65536) := hdep 16 (by decide) (by kernel_rfl)
      refine gS_ca (wanted_none (by kernel_rfl) _) rfl Try.func26 (by kernel_rfl) rfl #[.agg #[.string (n25_5 sz).f0, .slice A0 (n25_5 sz).f1.length c0, .slice B0 (n25_5 sz).f2.length d0], .slice (some b1) 2 2, .string ⟨#[114, 101, 103]⟩, .slice A3 ((w64b 33554432 ++ w64b 65536) : List Int).length c3] (by simp only [List.map_toArray, List.map_cons, List.map_nil]; rw [e0, e1, e3] <;> rfl) ?_
      exact told_m W (sz := sz) (A1 := some b1) (c1 := 2) (path := [(⟨#[115, 111, 99]⟩ : ByteArray), (⟨#[99, 108, 105, 110, 116, 64, 50, 48, 48, 48, 48, 48, 48]⟩ : ByteArray)]) (name := ⟨#[114, 101, 103]⟩) (want := (w64b 33554432 ++ w64b 65536)) (A3 := A3) (c3 := c3) q0 l0 r0 m0 q1 (Nat.le_refl _) q3 l3 (told_reg1 sz)
    · exact absurd hi (by simp only [List.length_cons, List.length_nil]; omega)
  · intro a W hW hdef hsz hold hR
    have hst : stepS Try.prog (opsOf Try.f6 11) Q ((opsOf Try.f6 11).getD 18 default) (fun v w'' => KpN W w'' ∧ (Stb.val (.bool false)).p v w'') a W := by
      have e0 : a.eval (.tmp 51) = .bool true := hR 17 (by decide)
      exact gS_un (wanted_none (by kernel_rfl) _) rfl (.bool true) (.bool false) e0 (by kernel_rfl) ⟨Kp.refl _ _, rfl⟩
    refine last_step (by kernel_rfl) hst fun v w' hv => ?_
    rw [show ((opsOf Try.f6 11).getD 18 default).dst = some 52 by kernel_rfl]
    refine hQ _ w' (hW.trans hv.1) hdef ((put_size _ _ _).trans hsz) (fun s hs => ?_) (by rw [put_same _ _ _ (by rw [hsz, hs0]; decide)]; exact hv.2)
    rw [put_other _ _ _ _ (fun e => hs (by rw [← e]; decide))]
    exact hold s (fun h => hs (List.mem_append_left [52] h))
set_option maxHeartbeats 4000000 in
set_option maxRecDepth 100000 in
theorem m6r13_1 (sz : Int) (ops : Array Oper) (hops : ops = opsOf Try.f6 13) (a0 : Act) (w : World) (Q : Exit → Act → World → Prop) (hs0 : a0.tmps.size = 73) (h3 : ∃ g_, a0.tmps.getD 3 undef = .pointer (some ⟨g_, 0, none⟩) ∧ NodeB w g_ (n25_5 sz)) (h4 : (Stb.blk namesC 9 4).p (a0.tmps.getD 4 undef) w) (h6 : a0.tmps.getD 6 undef = .int .i64 1)
    (hQ : ∀ a w', KpN w w' → a.defers = a0.defers → a.tmps.size = a0.tmps.size → (∀ s, s ∉ [53, 54, 55, 56, 57, 58, 59, 60, 61, 62, 63, 64, 65, 66, 67] → a.tmps.getD s undef = a0.tmps.getD s undef) → (Stb.val (.bool false)).p (a.tmps.getD 67 undef) w' → Q .normal a w') : (Code.region 13 ops true).wp Try.prog Q a0 w := by
  subst hops
  refine wp_slots true [53, 54, 55, 56, 57, 58, 59, 60, 61, 62, 63, 64, 65, 66] [Stb.val (.int .i64 1), Stb.val (.bool false), Stb.val (.bool false), Stb.val (undef), Stb.val (undef), Stb.val (undef), Stb.val (undef), Stb.val (undef), Stb.val (undef), Stb.val (undef), Stb.val (undef), Stb.val (undef), Stb.val (undef), Stb.val (undef)] ((opsOf Try.f6 13).getD 14 default) (by kernel_rfl) (by rw [hs0]; kernel_rfl) (by kernel_rfl) (by kernel_rfl) ?_ ?_
  · intro i o hi ho a W hW hA hdep
    rcases i with _ | _ | _ | _ | _ | _ | _ | _ | _ | _ | _ | _ | _ | _ | i
    · obtain rfl := at_get ho
      exact gS_mv (wanted_none (by kernel_rfl) _) rfl _ ((ag_old hA (by decide)).trans h6) ⟨Kp.refl _ _, rfl⟩
    · obtain rfl := at_get ho
      have e0 : a.eval (.tmp 53) = .int .i64 1 := hdep 0 (by decide) (by kernel_rfl)
      exact gS_bin (wanted_none (by kernel_rfl) _) rfl (.int .i64 1) (.int .i64 2) (.bool false) e0 rfl (by kernel_rfl) ⟨Kp.refl _ _, rfl⟩
    · obtain rfl := at_get ho
      have e0 : a.eval (.tmp 54) = .bool false := hdep 1 (by decide) (by kernel_rfl)
      exact gS_mv (wanted_none (by kernel_rfl) _) rfl _ e0 ⟨Kp.refl _ _, rfl⟩
    · obtain rfl := at_get ho
      have hg : a.tmps.getD 55 undef = .bool false := hdep 2 (by decide) (by kernel_rfl)
      exact sS_no (wanted_n (j := 2) (b := true) (by kernel_rfl) (by kernel_rfl) hg (by decide)) ⟨Kp.refl _ _, rfl⟩
    · obtain rfl := at_get ho
      have hg : a.tmps.getD 55 undef = .bool false := hdep 2 (by decide) (by kernel_rfl)
      exact sS_no (wanted_n (j := 2) (b := true) (by kernel_rfl) (by kernel_rfl) hg (by decide)) ⟨Kp.refl _ _, rfl⟩
    · obtain rfl := at_get ho
      have hg : a.tmps.getD 55 undef = .bool false := hdep 2 (by decide) (by kernel_rfl)
      exact sS_no (wanted_n (j := 2) (b := true) (by kernel_rfl) (by kernel_rfl) hg (by decide)) ⟨Kp.refl _ _, rfl⟩
    · obtain rfl := at_get ho
      have hg : a.tmps.getD 55 undef = .bool false := hdep 2 (by decide) (by kernel_rfl)
      exact sS_no (wanted_n (j := 2) (b := true) (by kernel_rfl) (by kernel_rfl) hg (by decide)) ⟨Kp.refl _ _, rfl⟩
    · obtain rfl := at_get ho
      have hg : a.tmps.getD 55 undef = .bool false := hdep 2 (by decide) (by kernel_rfl)
      exact sS_no (wanted_n (j := 2) (b := true) (by kernel_rfl) (by kernel_rfl) hg (by decide)) ⟨Kp.refl _ _, rfl⟩
    · obtain rfl := at_get ho
      have hg : a.tmps.getD 55 undef = .bool false := hdep 2 (by decide) (by kernel_rfl)
      exact sS_no (wanted_n (j := 2) (b := true) (by kernel_rfl) (by kernel_rfl) hg (by decide)) ⟨Kp.refl _ _, rfl⟩
    · obtain rfl := at_get ho
      have hg : a.tmps.getD 55 undef = .bool false := hdep 2 (by decide) (by kernel_rfl)
      exact sS_no (wanted_n (j := 2) (b := true) (by kernel_rfl) (by kernel_rfl) hg (by decide)) ⟨Kp.refl _ _, rfl⟩
    · obtain rfl := at_get ho
      have hg : a.tmps.getD 55 undef = .bool false := hdep 2 (by decide) (by kernel_rfl)
      exact sS_no (wanted_n (j := 2) (b := true) (by kernel_rfl) (by kernel_rfl) hg (by decide)) ⟨Kp.refl _ _, rfl⟩
    · obtain rfl := at_get ho
      have hg : a.tmps.getD 55 undef = .bool false := hdep 2 (by decide) (by kernel_rfl)
      exact sS_no (wanted_n (j := 2) (b := true) (by kernel_rfl) (by kernel_rfl) hg (by decide)) ⟨Kp.refl _ _, rfl⟩
    · obtain rfl := at_get ho
      have hg : a.tmps.getD 55 undef = .bool false := hdep 2 (by decide) (by kernel_rfl)
      exact sS_no (wanted_n (j := 2) (b := true) (by kernel_rfl) (by kernel_rfl) hg (by decide)) ⟨Kp.refl _ _, rfl⟩
    · obtain rfl := at_get ho
      have hg : a.tmps.getD 55 undef = .bool false := hdep 2 (by decide) (by kernel_rfl)
      exact sS_no (wanted_n (j := 2) (b := true) (by kernel_rfl) (by kernel_rfl) hg (by decide)) ⟨Kp.refl _ _, rfl⟩
    · exact absurd hi (by simp only [List.length_cons, List.length_nil]; omega)
  · intro a W hW hdef hsz hold hR
    have hst : stepS Try.prog (opsOf Try.f6 13) Q ((opsOf Try.f6 13).getD 14 default) (fun v w'' => KpN W w'' ∧ (Stb.val (.bool false)).p v w'') a W := by
      have e0 : a.eval (.tmp 55) = .bool false := hR 2 (by decide)
      exact gS_pick (wanted_none (by kernel_rfl) _) rfl false (.bool false) e0 rfl ⟨Kp.refl _ _, rfl⟩
    refine last_step (by kernel_rfl) hst fun v w' hv => ?_
    rw [show ((opsOf Try.f6 13).getD 14 default).dst = some 67 by kernel_rfl]
    refine hQ _ w' (hW.trans hv.1) hdef ((put_size _ _ _).trans hsz) (fun s hs => ?_) (by rw [put_same _ _ _ (by rw [hsz, hs0]; decide)]; exact hv.2)
    rw [put_other _ _ _ _ (fun e => hs (by rw [← e]; decide))]
    exact hold s (fun h => hs (List.mem_append_left [67] h))
set_option maxHeartbeats 4000000 in
set_option maxRecDepth 100000 in
theorem m6r10_1 (sz : Int) (ops : Array Oper) (hops : ops = opsOf Try.f6 10) (a0 : Act) (w : World) (Q : Exit → Act → World → Prop) (hs0 : a0.tmps.size = 73) (h6 : a0.tmps.getD 6 undef = .int .i64 1)
    (hQ : ∀ a w', KpN w w' → a.defers = a0.defers → a.tmps.size = a0.tmps.size → (∀ s, s ∉ [32, 33, 6] → a.tmps.getD s undef = a0.tmps.getD s undef) → (Stb.val (.int .i64 2)).p (a.tmps.getD 6 undef) w' → Q .normal a w') : (Code.region 10 ops false).wp Try.prog Q a0 w := by
  subst hops
  refine wp_slots false [32, 33] [Stb.val (.int .i64 1), Stb.val (.int .i64 2)] ((opsOf Try.f6 10).getD 2 default) (by kernel_rfl) (by rw [hs0]; kernel_rfl) (by kernel_rfl) (by kernel_rfl) ?_ ?_
  · intro i o hi ho a W hW hA hdep
    rcases i with _ | _ | i
    · obtain rfl := at_get ho
      exact gS_mv (wanted_none (by kernel_rfl) _) rfl _ ((ag_old hA (by decide)).trans h6) ⟨Kp.refl _ _, rfl⟩
    · obtain rfl := at_get ho
      have e0 : a.eval (.tmp 32) = .int .i64 1 := hdep 0 (by decide) (by kernel_rfl)
      exact gS_bin (wanted_none (by kernel_rfl) _) rfl (.int .i64 1) (.int .i64 1) (.int .i64 2) e0 rfl (by kernel_rfl) ⟨Kp.refl _ _, rfl⟩
    · exact absurd hi (by simp only [List.length_cons, List.length_nil]; omega)
  · intro a W hW hdef hsz hold hR
    have hst : stepS Try.prog (opsOf Try.f6 10) Q ((opsOf Try.f6 10).getD 2 default) (fun v w'' => KpN W w'' ∧ (Stb.val (.int .i64 2)).p v w'') a W := by
      have e0 : a.eval (.tmp 33) = .int .i64 2 := hR 1 (by decide)
      exact gS_as (wanted_none (by kernel_rfl) _) rfl _ e0 ⟨Kp.refl _ _, rfl⟩
    refine last_step (by kernel_rfl) hst fun v w' hv => ?_
    rw [show ((opsOf Try.f6 10).getD 2 default).dst = some 6 by kernel_rfl]
    refine hQ _ w' (hW.trans hv.1) hdef ((put_size _ _ _).trans hsz) (fun s hs => ?_) (by rw [put_same _ _ _ (by rw [hsz, hs0]; decide)]; exact hv.2)
    rw [put_other _ _ _ _ (fun e => hs (by rw [← e]; decide))]
    exact hold s (fun h => hs (List.mem_append_left [6] h))
set_option maxHeartbeats 4000000 in
set_option maxRecDepth 100000 in
theorem m6r9_2 (sz : Int) (ops : Array Oper) (hops : ops = opsOf Try.f6 9) (a0 : Act) (w : World) (Q : Exit → Act → World → Prop) (hs0 : a0.tmps.size = 73) (h4 : (Stb.blk namesC 9 4).p (a0.tmps.getD 4 undef) w) (h6 : a0.tmps.getD 6 undef = .int .i64 2)
    (hQ : ∀ a w', KpN w w' → a.defers = a0.defers → a.tmps.size = a0.tmps.size → (∀ s, s ∉ [28, 29, 30, 31] → a.tmps.getD s undef = a0.tmps.getD s undef) → (Stb.val (.bool true)).p (a.tmps.getD 31 undef) w' → Q .normal a w') : (Code.region 9 ops false).wp Try.prog Q a0 w := by
  subst hops
  refine wp_slots false [28, 29, 30] [Stb.val (.int .i64 2), Stb.blk namesC 9 4, Stb.val (.int .i64 4)] ((opsOf Try.f6 9).getD 3 default) (by kernel_rfl) (by rw [hs0]; kernel_rfl) (by kernel_rfl) (by kernel_rfl) ?_ ?_
  · intro i o hi ho a W hW hA hdep
    rcases i with _ | _ | _ | i
    · obtain rfl := at_get ho
      exact gS_mv (wanted_none (by kernel_rfl) _) rfl _ ((ag_old hA (by decide)).trans h6) ⟨Kp.refl _ _, rfl⟩
    · obtain rfl := at_get ho
      obtain ⟨b_, e_, q_⟩ := (Stb.blk namesC 9 4).st _ _ _ h4 hW
      exact gS_mv (wanted_none (by kernel_rfl) _) rfl _ ((ag_old hA (by decide)).trans e_) ⟨Kp.refl _ _, b_, rfl, q_⟩
    · obtain rfl := at_get ho
      obtain ⟨b0, e0, q0⟩ : (Stb.blk namesC 9 4).p (a.eval (.tmp 29)) W := hdep 1 (by decide) (by kernel_rfl)
      exact gS_len (wanted_none (by kernel_rfl) _) rfl _ _ e0 ⟨Kp.refl _ _, rfl⟩
    · exact absurd hi (by simp only [List.length_cons, List.length_nil]; omega)
  · intro a W hW hdef hsz hold hR
    have hst : stepS Try.prog (opsOf Try.f6 9) Q ((opsOf Try.f6 9).getD 3 default) (fun v w'' => KpN W w'' ∧ (Stb.val (.bool true)).p v w'') a W := by
      have e0 : a.eval (.tmp 28) = .int .i64 2 := hR 0 (by decide)
      have e1 : a.eval (.tmp 30) = .int .i64 4 := hR 2 (by decide)
      exact gS_bin (wanted_none (by kernel_rfl) _) rfl (.int .i64 2) (.int .i64 4) (.bool true) e0 e1 (by kernel_rfl) ⟨Kp.refl _ _, rfl⟩
    refine last_step (by kernel_rfl) hst fun v w' hv => ?_
    rw [show ((opsOf Try.f6 9).getD 3 default).dst = some 31 by kernel_rfl]
    refine hQ _ w' (hW.trans hv.1) hdef ((put_size _ _ _).trans hsz) (fun s hs => ?_) (by rw [put_same _ _ _ (by rw [hsz, hs0]; decide)]; exact hv.2)
    rw [put_other _ _ _ _ (fun e => hs (by rw [← e]; decide))]
    exact hold s (fun h => hs (List.mem_append_left [31] h))
set_option maxHeartbeats 4000000 in
set_option maxRecDepth 100000 in
theorem m6r11_2 (sz : Int) (ops : Array Oper) (hops : ops = opsOf Try.f6 11) (a0 : Act) (w : World) (Q : Exit → Act → World → Prop) (hs0 : a0.tmps.size = 73) (h3 : ∃ g_, a0.tmps.getD 3 undef = .pointer (some ⟨g_, 0, none⟩) ∧ NodeB w g_ (n25_5 sz)) (h4 : (Stb.blk namesC 9 4).p (a0.tmps.getD 4 undef) w) (h5 : (Stb.blk placesC 62 4).p (a0.tmps.getD 5 undef) w) (h6 : a0.tmps.getD 6 undef = .int .i64 2)
    (hQ : ∀ a w', KpN w w' → a.defers = a0.defers → a.tmps.size = a0.tmps.size → (∀ s, s ∉ [34, 35, 36, 37, 38, 39, 40, 41, 42, 43, 44, 45, 46, 47, 48, 49, 50, 51, 52] → a.tmps.getD s undef = a0.tmps.getD s undef) → (Stb.val (.bool false)).p (a.tmps.getD 52 undef) w' → Q .normal a w') : (Code.region 11 ops true).wp Try.prog Q a0 w := by
  subst hops
  refine wp_slots true [34, 35, 36, 37, 38, 39, 40, 41, 42, 43, 44, 45, 46, 47, 48, 49, 50, 51] [Stb.node (n25_5 sz), Stb.blk namesC 9 4, Stb.val (.int .i64 2), Stb.at namesC 9 2, Stb.val (.string ⟨#[118, 105, 114, 116, 105, 111, 64, 49, 48, 48, 48, 49, 48, 48, 48]⟩), Stb.slF Kd.string [(⟨#[115, 111, 99]⟩ : ByteArray), (⟨#[118, 105, 114, 116, 105, 111, 64, 49, 48, 48, 48, 49, 48, 48, 48]⟩ : ByteArray)], Stb.blk placesC 62 4, Stb.val (.int .i64 2), Stb.at placesC 62 4, Stb.at placesC 62 4, Stb.val (.int .u64 268439552), Stb.blk placesC 62 4, Stb.val (.int .i64 2), Stb.at placesC 62 4, Stb.at placesC 62 5, Stb.val (.int .u64 4096), Stb.sl (Kd.int .u8) (w64b 268439552 ++ w64b 4096), Stb.val (.bool true)] ((opsOf Try.f6 11).getD 18 default) (by kernel_rfl) (by rw [hs0]; kernel_rfl) (by kernel_rfl) (by kernel_rfl) ?_ ?_
  · intro i o hi ho a W hW hA hdep
    rcases i with _ | _ | _ | _ | _ | _ | _ | _ | _ | _ | _ | _ | _ | _ | _ | _ | _ | _ | i
    · obtain rfl := at_get ho
      obtain ⟨g_, p_, n_⟩ := h3
      obtain ⟨u1, u2, hb, s1, s2⟩ := n_.kp hW
      exact gS_ld (wanted_none (by kernel_rfl) _) rfl g_ ((ag_old hA (by decide)).trans p_) 32 _ _ hb Try.underlying32 rfl (by kernel_rfl) ⟨Kp.refl _ _, _, _, rfl, s1, s2⟩
    · obtain rfl := at_get ho
      obtain ⟨b_, e_, q_⟩ := (Stb.blk namesC 9 4).st _ _ _ h4 hW
      exact gS_mv (wanted_none (by kernel_rfl) _) rfl _ ((ag_old hA (by decide)).trans e_) ⟨Kp.refl _ _, b_, rfl, q_⟩
    · obtain rfl := at_get ho
      exact gS_mv (wanted_none (by kernel_rfl) _) rfl _ ((ag_old hA (by decide)).trans h6) ⟨Kp.refl _ _, rfl⟩
    · obtain rfl := at_get ho
      obtain ⟨b0, e0, q0⟩ : (Stb.blk namesC 9 4).p (a.eval (.tmp 35)) W := hdep 1 (by decide) (by kernel_rfl)
      have e1 : a.eval (.tmp 36) = .int .i64 2 := hdep 2 (by decide) (by kernel_rfl)
      exact gS_ia (wanted_none (by kernel_rfl) _) rfl _ _ (.pointer (some ⟨b0, 2, none⟩)) e0 e1 (by kernel_rfl) ⟨Kp.refl _ _, b0, rfl, q0⟩
    · obtain rfl := at_get ho
      obtain ⟨b0, e0, q0⟩ : (Stb.at namesC 9 2).p (a.eval (.tmp 37)) W := hdep 3 (by decide) (by kernel_rfl)
      exact gS_load (wanted_none (by kernel_rfl) _) rfl _ (.string ⟨#[118, 105, 114, 116, 105, 111, 64, 49, 48, 48, 48, 49, 48, 48, 48]⟩) e0 (ldc9 _ _ W (by rw [blk_cell q0]; rfl)) ⟨Kp.refl _ _, rfl⟩
    · obtain rfl := at_get ho
      have e1 : a.eval (.tmp 38) = .string ⟨#[118, 105, 114, 116, 105, 111, 64, 49, 48, 48, 48, 49, 48, 48, 48]⟩ := hdep 4 (by decide) (by kernel_rfl)
      exact gS_bs (wanted_none (by kernel_rfl) _) rfl #[(0, .string ⟨#[115, 111, 99]⟩), (1, .string ⟨#[118, 105, 114, 116, 105, 111, 64, 49, 48, 48, 48, 49, 48, 48, 48]⟩)] _ _ (by simp only [List.map_toArray, List.map_cons, List.map_nil]; rw [e1] <;> rfl) (bs38_2 W _ _) ⟨(Kp.refl _ _).alloc _, SlF.lit (d := Kd.string) (l := [(⟨#[115, 111, 99]⟩ : ByteArray), (⟨#[118, 105, 114, 116, 105, 111, 64, 49, 48, 48, 48, 49, 48, 48, 48]⟩ : ByteArray)]) (inner := [.string ⟨#[115, 111, 99]⟩, .string ⟨#[118, 105, 114, 116, 105, 111, 64, 49, 48, 48, 48, 49, 48, 48, 48]⟩]) (reps_cons str_sl rfl (reps_cons str_sl rfl (Reps.none _ _))) (show (2 : Nat) ≤ 9223372036854775807 by decide) (.inl (by decide))⟩
    · obtain rfl := at_get ho
      obtain ⟨b_, e_, q_⟩ := (Stb.blk placesC 62 4).st _ _ _ h5 hW
      exact gS_mv (wanted_none (by kernel_rfl) _) rfl _ ((ag_old hA (by decide)).trans e_) ⟨Kp.refl _ _, b_, rfl, q_⟩
    · obtain rfl := at_get ho
      exact gS_mv (wanted_none (by kernel_rfl) _) rfl _ ((ag_old hA (by decide)).trans h6) ⟨Kp.refl _ _, rfl⟩
    · obtain rfl := at_get ho
      obtain ⟨b0, e0, q0⟩ : (Stb.blk placesC 62 4).p (a.eval (.tmp 40)) W := hdep 6 (by decide) (by kernel_rfl)
      have e1 : a.eval (.tmp 41) = .int .i64 2 := hdep 7 (by decide) (by kernel_rfl)
      exact gS_ia (wanted_none (by kernel_rfl) _) rfl _ _ (.pointer (some ⟨b0, 4, none⟩)) e0 e1 (by kernel_rfl) ⟨Kp.refl _ _, b0, rfl, q0⟩
    · obtain rfl := at_get ho
      obtain ⟨b0, e0, q0⟩ : (Stb.at placesC 62 4).p (a.eval (.tmp 42)) W := hdep 8 (by decide) (by kernel_rfl)
      exact gS_ia (wanted_none (by kernel_rfl) _) rfl _ _ (.pointer (some ⟨b0, 4, none⟩)) e0 rfl (by kernel_rfl) ⟨Kp.refl _ _, b0, rfl, q0⟩
    · obtain rfl := at_get ho
      obtain ⟨b0, e0, q0⟩ : (Stb.at placesC 62 4).p (a.eval (.tmp 43)) W := hdep 9 (by decide) (by kernel_rfl)
      exact gS_load (wanted_none (by kernel_rfl) _) rfl _ (.int .u64 268439552) e0 (ldc39 _ _ W (by rw [blk_cell q0]; rfl)) ⟨Kp.refl _ _, rfl⟩
    · obtain rfl := at_get ho
      obtain ⟨b_, e_, q_⟩ := (Stb.blk placesC 62 4).st _ _ _ h5 hW
      exact gS_mv (wanted_none (by kernel_rfl) _) rfl _ ((ag_old hA (by decide)).trans e_) ⟨Kp.refl _ _, b_, rfl, q_⟩
    · obtain rfl := at_get ho
      exact gS_mv (wanted_none (by kernel_rfl) _) rfl _ ((ag_old hA (by decide)).trans h6) ⟨Kp.refl _ _, rfl⟩
    · obtain rfl := at_get ho
      obtain ⟨b0, e0, q0⟩ : (Stb.blk placesC 62 4).p (a.eval (.tmp 45)) W := hdep 11 (by decide) (by kernel_rfl)
      have e1 : a.eval (.tmp 46) = .int .i64 2 := hdep 12 (by decide) (by kernel_rfl)
      exact gS_ia (wanted_none (by kernel_rfl) _) rfl _ _ (.pointer (some ⟨b0, 4, none⟩)) e0 e1 (by kernel_rfl) ⟨Kp.refl _ _, b0, rfl, q0⟩
    · obtain rfl := at_get ho
      obtain ⟨b0, e0, q0⟩ : (Stb.at placesC 62 4).p (a.eval (.tmp 47)) W := hdep 13 (by decide) (by kernel_rfl)
      exact gS_ia (wanted_none (by kernel_rfl) _) rfl _ _ (.pointer (some ⟨b0, 5, none⟩)) e0 rfl (by kernel_rfl) ⟨Kp.refl _ _, b0, rfl, q0⟩
    · obtain rfl := at_get ho
      obtain ⟨b0, e0, q0⟩ : (Stb.at placesC 62 5).p (a.eval (.tmp 48)) W := hdep 14 (by decide) (by kernel_rfl)
      exact gS_load (wanted_none (by kernel_rfl) _) rfl _ (.int .u64 4096) e0 (ldc39 _ _ W (by rw [blk_cell q0]; rfl)) ⟨Kp.refl _ _, rfl⟩
    · obtain rfl := at_get ho
      have e0 : a.eval (.tmp 44) = .int .u64 268439552 := hdep 10 (by decide) (by kernel_rfl)
      have e1 : a.eval (.tmp 49) = .int .u64 4096 := hdep 15 (by decide) (by kernel_rfl)
      refine gS_ca (wanted_none (by kernel_rfl) _) rfl Try.func27 (by kernel_rfl) rfl #[.int .u64 268439552, .int .u64 4096] (by simp only [List.map_toArray, List.map_cons, List.map_nil]; rw [e0, e1] <;> rfl) ?_
      exact place_m W 268439552 4096 (by decide) (by decide) (by decide) (by decide)
    · obtain rfl := at_get ho
      obtain ⟨_, _, e0, ⟨A0, c0, rfl, l0, q0⟩, ⟨B0, d0, rfl, m0, r0⟩⟩ : NodeV W (a.eval (.tmp 34)) (n25_5 sz) := hdep 0 (by decide) (by kernel_rfl)
      obtain ⟨b1, e1, q1⟩ : SlF Kd.string W (a.eval (.tmp 39)) [(⟨#[115, 111, 99]⟩ : ByteArray), (⟨#[118, 105, 114, 116, 105, 111, 64, 49, 48, 48, 48, 49, 48, 48, 48]⟩ : ByteArray)] := hdep 5 (by decide) (by kernel_rfl)
      obtain ⟨A3, c3, e3, l3, q3⟩ : Sl (Kd.int .u8) W (a.eval (.tmp 50)) (w64b 268439552 ++ w64b 4096) := hdep 16 (by decide) (by kernel_rfl)
      refine gS_ca (wanted_none (by kernel_rfl) _) rfl Try.func26 (by kernel_rfl) rfl #[.agg #[.string (n25_5 sz).f0, .slice A0 (n25_5 sz).f1.length c0, .slice B0 (n25_5 sz).f2.length d0], .slice (some b1) 2 2, .string ⟨#[114, 101, 103]⟩, .slice A3 ((w64b 268439552 ++ w64b 4096) : List Int).length c3] (by simp only [List.map_toArray, List.map_cons, List.map_nil]; rw [e0, e1, e3] <;> rfl) ?_
      exact told_m W (sz := sz) (A1 := some b1) (c1 := 2) (path := [(⟨#[115, 111, 99]⟩ : ByteArray), (⟨#[118, 105, 114, 116, 105, 111, 64, 49, 48, 48, 48, 49, 48, 48, 48]⟩ : ByteArray)]) (name := ⟨#[114, 101, 103]⟩) (want := (w64b 268439552 ++ w64b 4096)) (A3 := A3) (c3 := c3) q0 l0 r0 m0 q1 (Nat.le_refl _) q3 l3 (told_reg2 sz)
    · exact absurd hi (by simp only [List.length_cons, List.length_nil]; omega)
  · intro a W hW hdef hsz hold hR
    have hst : stepS Try.prog (opsOf Try.f6 11) Q ((opsOf Try.f6 11).getD 18 default) (fun v w'' => KpN W w'' ∧ (Stb.val (.bool false)).p v w'') a W := by
      have e0 : a.eval (.tmp 51) = .bool true := hR 17 (by decide)
      exact gS_un (wanted_none (by kernel_rfl) _) rfl (.bool true) (.bool false) e0 (by kernel_rfl) ⟨Kp.refl _ _, rfl⟩
    refine last_step (by kernel_rfl) hst fun v w' hv => ?_
    rw [show ((opsOf Try.f6 11).getD 18 default).dst = some 52 by kernel_rfl]
    refine hQ _ w' (hW.trans hv.1) hdef ((put_size _ _ _).trans hsz) (fun s hs => ?_) (by rw [put_same _ _ _ (by rw [hsz, hs0]; decide)]; exact hv.2)
    rw [put_other _ _ _ _ (fun e => hs (by rw [← e]; decide))]
    exact hold s (fun h => hs (List.mem_append_left [52] h))
set_option maxHeartbeats 4000000 in
set_option maxRecDepth 100000 in
theorem m6r13_2 (sz : Int) (ops : Array Oper) (hops : ops = opsOf Try.f6 13) (a0 : Act) (w : World) (Q : Exit → Act → World → Prop) (hs0 : a0.tmps.size = 73) (h3 : ∃ g_, a0.tmps.getD 3 undef = .pointer (some ⟨g_, 0, none⟩) ∧ NodeB w g_ (n25_5 sz)) (h4 : (Stb.blk namesC 9 4).p (a0.tmps.getD 4 undef) w) (h6 : a0.tmps.getD 6 undef = .int .i64 2)
    (hQ : ∀ a w', KpN w w' → a.defers = a0.defers → a.tmps.size = a0.tmps.size → (∀ s, s ∉ [53, 54, 55, 56, 57, 58, 59, 60, 61, 62, 63, 64, 65, 66, 67] → a.tmps.getD s undef = a0.tmps.getD s undef) → (Stb.val (.bool false)).p (a.tmps.getD 67 undef) w' → Q .normal a w') : (Code.region 13 ops true).wp Try.prog Q a0 w := by
  subst hops
  refine wp_slots true [53, 54, 55, 56, 57, 58, 59, 60, 61, 62, 63, 64, 65, 66] [Stb.val (.int .i64 2), Stb.val (.bool true), Stb.val (.bool true), Stb.node (n25_5 sz), Stb.blk namesC 9 4, Stb.val (.int .i64 2), Stb.at namesC 9 2, Stb.val (.string ⟨#[118, 105, 114, 116, 105, 111, 64, 49, 48, 48, 48, 49, 48, 48, 48]⟩), Stb.slF Kd.string [(⟨#[115, 111, 99]⟩ : ByteArray), (⟨#[118, 105, 114, 116, 105, 111, 64, 49, 48, 48, 48, 49, 48, 48, 48]⟩ : ByteArray)], Stb.val (.int .i64 2), Stb.val (.int .i64 1), Stb.sl (Kd.int .u8) (w32 1), Stb.val (.bool true), Stb.val (.bool false)] ((opsOf Try.f6 13).getD 14 default) (by kernel_rfl) (by rw [hs0]; kernel_rfl) (by kernel_rfl) (by kernel_rfl) ?_ ?_
  · intro i o hi ho a W hW hA hdep
    rcases i with _ | _ | _ | _ | _ | _ | _ | _ | _ | _ | _ | _ | _ | _ | i
    · obtain rfl := at_get ho
      exact gS_mv (wanted_none (by kernel_rfl) _) rfl _ ((ag_old hA (by decide)).trans h6) ⟨Kp.refl _ _, rfl⟩
    · obtain rfl := at_get ho
      have e0 : a.eval (.tmp 53) = .int .i64 2 := hdep 0 (by decide) (by kernel_rfl)
      exact gS_bin (wanted_none (by kernel_rfl) _) rfl (.int .i64 2) (.int .i64 2) (.bool true) e0 rfl (by kernel_rfl) ⟨Kp.refl _ _, rfl⟩
    · obtain rfl := at_get ho
      have e0 : a.eval (.tmp 54) = .bool true := hdep 1 (by decide) (by kernel_rfl)
      exact gS_mv (wanted_none (by kernel_rfl) _) rfl _ e0 ⟨Kp.refl _ _, rfl⟩
    · obtain rfl := at_get ho
      have hg : a.tmps.getD 55 undef = .bool true := hdep 2 (by decide) (by kernel_rfl)
      obtain ⟨g_, p_, n_⟩ := h3
      obtain ⟨u1, u2, hb, s1, s2⟩ := n_.kp hW
      exact gS_ld (wanted_y (j := 2) (b := true) (by kernel_rfl) (by kernel_rfl) hg) rfl g_ ((ag_old hA (by decide)).trans p_) 32 _ _ hb Try.underlying32 rfl (by kernel_rfl) ⟨Kp.refl _ _, _, _, rfl, s1, s2⟩
    · obtain rfl := at_get ho
      have hg : a.tmps.getD 55 undef = .bool true := hdep 2 (by decide) (by kernel_rfl)
      obtain ⟨b_, e_, q_⟩ := (Stb.blk namesC 9 4).st _ _ _ h4 hW
      exact gS_mv (wanted_y (j := 2) (b := true) (by kernel_rfl) (by kernel_rfl) hg) rfl _ ((ag_old hA (by decide)).trans e_) ⟨Kp.refl _ _, b_, rfl, q_⟩
    · obtain rfl := at_get ho
      have hg : a.tmps.getD 55 undef = .bool true := hdep 2 (by decide) (by kernel_rfl)
      exact gS_mv (wanted_y (j := 2) (b := true) (by kernel_rfl) (by kernel_rfl) hg) rfl _ ((ag_old hA (by decide)).trans h6) ⟨Kp.refl _ _, rfl⟩
    · obtain rfl := at_get ho
      have hg : a.tmps.getD 55 undef = .bool true := hdep 2 (by decide) (by kernel_rfl)
      obtain ⟨b0, e0, q0⟩ : (Stb.blk namesC 9 4).p (a.eval (.tmp 57)) W := hdep 4 (by decide) (by kernel_rfl)
      have e1 : a.eval (.tmp 58) = .int .i64 2 := hdep 5 (by decide) (by kernel_rfl)
      exact gS_ia (wanted_y (j := 2) (b := true) (by kernel_rfl) (by kernel_rfl) hg) rfl _ _ (.pointer (some ⟨b0, 2, none⟩)) e0 e1 (by kernel_rfl) ⟨Kp.refl _ _, b0, rfl, q0⟩
    · obtain rfl := at_get ho
      have hg : a.tmps.getD 55 undef = .bool true := hdep 2 (by decide) (by kernel_rfl)
      obtain ⟨b0, e0, q0⟩ : (Stb.at namesC 9 2).p (a.eval (.tmp 59)) W := hdep 6 (by decide) (by kernel_rfl)
      exact gS_load (wanted_y (j := 2) (b := true) (by kernel_rfl) (by kernel_rfl) hg) rfl _ (.string ⟨#[118, 105, 114, 116, 105, 111, 64, 49, 48, 48, 48, 49, 48, 48, 48]⟩) e0 (ldc9 _ _ W (by rw [blk_cell q0]; rfl)) ⟨Kp.refl _ _, rfl⟩
    · obtain rfl := at_get ho
      have hg : a.tmps.getD 55 undef = .bool true := hdep 2 (by decide) (by kernel_rfl)
      have e1 : a.eval (.tmp 60) = .string ⟨#[118, 105, 114, 116, 105, 111, 64, 49, 48, 48, 48, 49, 48, 48, 48]⟩ := hdep 7 (by decide) (by kernel_rfl)
      exact gS_bs (wanted_y (j := 2) (b := true) (by kernel_rfl) (by kernel_rfl) hg) rfl #[(0, .string ⟨#[115, 111, 99]⟩), (1, .string ⟨#[118, 105, 114, 116, 105, 111, 64, 49, 48, 48, 48, 49, 48, 48, 48]⟩)] _ _ (by simp only [List.map_toArray, List.map_cons, List.map_nil]; rw [e1] <;> rfl) (bs38_2 W _ _) ⟨(Kp.refl _ _).alloc _, SlF.lit (d := Kd.string) (l := [(⟨#[115, 111, 99]⟩ : ByteArray), (⟨#[118, 105, 114, 116, 105, 111, 64, 49, 48, 48, 48, 49, 48, 48, 48]⟩ : ByteArray)]) (inner := [.string ⟨#[115, 111, 99]⟩, .string ⟨#[118, 105, 114, 116, 105, 111, 64, 49, 48, 48, 48, 49, 48, 48, 48]⟩]) (reps_cons str_sl rfl (reps_cons str_sl rfl (Reps.none _ _))) (show (2 : Nat) ≤ 9223372036854775807 by decide) (.inl (by decide))⟩
    · obtain rfl := at_get ho
      have hg : a.tmps.getD 55 undef = .bool true := hdep 2 (by decide) (by kernel_rfl)
      exact gS_mv (wanted_y (j := 2) (b := true) (by kernel_rfl) (by kernel_rfl) hg) rfl _ ((ag_old hA (by decide)).trans h6) ⟨Kp.refl _ _, rfl⟩
    · obtain rfl := at_get ho
      have hg : a.tmps.getD 55 undef = .bool true := hdep 2 (by decide) (by kernel_rfl)
      have e0 : a.eval (.tmp 62) = .int .i64 2 := hdep 9 (by decide) (by kernel_rfl)
      exact gS_bin (wanted_y (j := 2) (b := true) (by kernel_rfl) (by kernel_rfl) hg) rfl (.int .i64 2) (.int .i64 1) (.int .i64 1) e0 rfl (by kernel_rfl) ⟨Kp.refl _ _, rfl⟩
    · obtain rfl := at_get ho
      have hg : a.tmps.getD 55 undef = .bool true := hdep 2 (by decide) (by kernel_rfl)
      have e0 : a.eval (.tmp 63) = .int .i64 1 := hdep 10 (by decide) (by kernel_rfl)
      refine gS_ca (wanted_y (j := 2) (b := true) (by kernel_rfl) (by kernel_rfl) hg) rfl Try.func17 (by kernel_rfl) rfl #[.int .i64 1] (by simp only [List.map_toArray, List.map_cons, List.map_nil]; rw [e0] <;> rfl) ?_
      exact word_m W 1 (by decide) (by decide)
    · obtain rfl := at_get ho
      have hg : a.tmps.getD 55 undef = .bool true := hdep 2 (by decide) (by kernel_rfl)
      obtain ⟨_, _, e0, ⟨A0, c0, rfl, l0, q0⟩, ⟨B0, d0, rfl, m0, r0⟩⟩ : NodeV W (a.eval (.tmp 56)) (n25_5 sz) := hdep 3 (by decide) (by kernel_rfl)
      obtain ⟨b1, e1, q1⟩ : SlF Kd.string W (a.eval (.tmp 61)) [(⟨#[115, 111, 99]⟩ : ByteArray), (⟨#[118, 105, 114, 116, 105, 111, 64, 49, 48, 48, 48, 49, 48, 48, 48]⟩ : ByteArray)] := hdep 8 (by decide) (by kernel_rfl)
      obtain ⟨A3, c3, e3, l3, q3⟩ : Sl (Kd.int .u8) W (a.eval (.tmp 64)) (w32 1) := hdep 11 (by decide) (by kernel_rfl)
      refine gS_ca (wanted_y (j := 2) (b := true) (by kernel_rfl) (by kernel_rfl) hg) rfl Try.func26 (by kernel_rfl) rfl #[.agg #[.string (n25_5 sz).f0, .slice A0 (n25_5 sz).f1.length c0, .slice B0 (n25_5 sz).f2.length d0], .slice (some b1) 2 2, .string ⟨#[105, 110, 116, 101, 114, 114, 117, 112, 116, 115]⟩, .slice A3 ((w32 1) : List Int).length c3] (by simp only [List.map_toArray, List.map_cons, List.map_nil]; rw [e0, e1, e3] <;> rfl) ?_
      exact told_m W (sz := sz) (A1 := some b1) (c1 := 2) (path := [(⟨#[115, 111, 99]⟩ : ByteArray), (⟨#[118, 105, 114, 116, 105, 111, 64, 49, 48, 48, 48, 49, 48, 48, 48]⟩ : ByteArray)]) (name := ⟨#[105, 110, 116, 101, 114, 114, 117, 112, 116, 115]⟩) (want := (w32 1)) (A3 := A3) (c3 := c3) q0 l0 r0 m0 q1 (Nat.le_refl _) q3 l3 (told_int2 sz)
    · obtain rfl := at_get ho
      have hg : a.tmps.getD 55 undef = .bool true := hdep 2 (by decide) (by kernel_rfl)
      have e0 : a.eval (.tmp 65) = .bool true := hdep 12 (by decide) (by kernel_rfl)
      exact gS_un (wanted_y (j := 2) (b := true) (by kernel_rfl) (by kernel_rfl) hg) rfl (.bool true) (.bool false) e0 (by kernel_rfl) ⟨Kp.refl _ _, rfl⟩
    · exact absurd hi (by simp only [List.length_cons, List.length_nil]; omega)
  · intro a W hW hdef hsz hold hR
    have hst : stepS Try.prog (opsOf Try.f6 13) Q ((opsOf Try.f6 13).getD 14 default) (fun v w'' => KpN W w'' ∧ (Stb.val (.bool false)).p v w'') a W := by
      have e0 : a.eval (.tmp 55) = .bool true := hR 2 (by decide)
      have e1 : a.eval (.tmp 66) = .bool false := hR 13 (by decide)
      exact gS_pick (wanted_none (by kernel_rfl) _) rfl true (.bool false) e0 e1 ⟨Kp.refl _ _, rfl⟩
    refine last_step (by kernel_rfl) hst fun v w' hv => ?_
    rw [show ((opsOf Try.f6 13).getD 14 default).dst = some 67 by kernel_rfl]
    refine hQ _ w' (hW.trans hv.1) hdef ((put_size _ _ _).trans hsz) (fun s hs => ?_) (by rw [put_same _ _ _ (by rw [hsz, hs0]; decide)]; exact hv.2)
    rw [put_other _ _ _ _ (fun e => hs (by rw [← e]; decide))]
    exact hold s (fun h => hs (List.mem_append_left [67] h))
set_option maxHeartbeats 4000000 in
set_option maxRecDepth 100000 in
theorem m6r10_2 (sz : Int) (ops : Array Oper) (hops : ops = opsOf Try.f6 10) (a0 : Act) (w : World) (Q : Exit → Act → World → Prop) (hs0 : a0.tmps.size = 73) (h6 : a0.tmps.getD 6 undef = .int .i64 2)
    (hQ : ∀ a w', KpN w w' → a.defers = a0.defers → a.tmps.size = a0.tmps.size → (∀ s, s ∉ [32, 33, 6] → a.tmps.getD s undef = a0.tmps.getD s undef) → (Stb.val (.int .i64 3)).p (a.tmps.getD 6 undef) w' → Q .normal a w') : (Code.region 10 ops false).wp Try.prog Q a0 w := by
  subst hops
  refine wp_slots false [32, 33] [Stb.val (.int .i64 2), Stb.val (.int .i64 3)] ((opsOf Try.f6 10).getD 2 default) (by kernel_rfl) (by rw [hs0]; kernel_rfl) (by kernel_rfl) (by kernel_rfl) ?_ ?_
  · intro i o hi ho a W hW hA hdep
    rcases i with _ | _ | i
    · obtain rfl := at_get ho
      exact gS_mv (wanted_none (by kernel_rfl) _) rfl _ ((ag_old hA (by decide)).trans h6) ⟨Kp.refl _ _, rfl⟩
    · obtain rfl := at_get ho
      have e0 : a.eval (.tmp 32) = .int .i64 2 := hdep 0 (by decide) (by kernel_rfl)
      exact gS_bin (wanted_none (by kernel_rfl) _) rfl (.int .i64 2) (.int .i64 1) (.int .i64 3) e0 rfl (by kernel_rfl) ⟨Kp.refl _ _, rfl⟩
    · exact absurd hi (by simp only [List.length_cons, List.length_nil]; omega)
  · intro a W hW hdef hsz hold hR
    have hst : stepS Try.prog (opsOf Try.f6 10) Q ((opsOf Try.f6 10).getD 2 default) (fun v w'' => KpN W w'' ∧ (Stb.val (.int .i64 3)).p v w'') a W := by
      have e0 : a.eval (.tmp 33) = .int .i64 3 := hR 1 (by decide)
      exact gS_as (wanted_none (by kernel_rfl) _) rfl _ e0 ⟨Kp.refl _ _, rfl⟩
    refine last_step (by kernel_rfl) hst fun v w' hv => ?_
    rw [show ((opsOf Try.f6 10).getD 2 default).dst = some 6 by kernel_rfl]
    refine hQ _ w' (hW.trans hv.1) hdef ((put_size _ _ _).trans hsz) (fun s hs => ?_) (by rw [put_same _ _ _ (by rw [hsz, hs0]; decide)]; exact hv.2)
    rw [put_other _ _ _ _ (fun e => hs (by rw [← e]; decide))]
    exact hold s (fun h => hs (List.mem_append_left [6] h))
set_option maxHeartbeats 4000000 in
set_option maxRecDepth 100000 in
theorem m6r9_3 (sz : Int) (ops : Array Oper) (hops : ops = opsOf Try.f6 9) (a0 : Act) (w : World) (Q : Exit → Act → World → Prop) (hs0 : a0.tmps.size = 73) (h4 : (Stb.blk namesC 9 4).p (a0.tmps.getD 4 undef) w) (h6 : a0.tmps.getD 6 undef = .int .i64 3)
    (hQ : ∀ a w', KpN w w' → a.defers = a0.defers → a.tmps.size = a0.tmps.size → (∀ s, s ∉ [28, 29, 30, 31] → a.tmps.getD s undef = a0.tmps.getD s undef) → (Stb.val (.bool true)).p (a.tmps.getD 31 undef) w' → Q .normal a w') : (Code.region 9 ops false).wp Try.prog Q a0 w := by
  subst hops
  refine wp_slots false [28, 29, 30] [Stb.val (.int .i64 3), Stb.blk namesC 9 4, Stb.val (.int .i64 4)] ((opsOf Try.f6 9).getD 3 default) (by kernel_rfl) (by rw [hs0]; kernel_rfl) (by kernel_rfl) (by kernel_rfl) ?_ ?_
  · intro i o hi ho a W hW hA hdep
    rcases i with _ | _ | _ | i
    · obtain rfl := at_get ho
      exact gS_mv (wanted_none (by kernel_rfl) _) rfl _ ((ag_old hA (by decide)).trans h6) ⟨Kp.refl _ _, rfl⟩
    · obtain rfl := at_get ho
      obtain ⟨b_, e_, q_⟩ := (Stb.blk namesC 9 4).st _ _ _ h4 hW
      exact gS_mv (wanted_none (by kernel_rfl) _) rfl _ ((ag_old hA (by decide)).trans e_) ⟨Kp.refl _ _, b_, rfl, q_⟩
    · obtain rfl := at_get ho
      obtain ⟨b0, e0, q0⟩ : (Stb.blk namesC 9 4).p (a.eval (.tmp 29)) W := hdep 1 (by decide) (by kernel_rfl)
      exact gS_len (wanted_none (by kernel_rfl) _) rfl _ _ e0 ⟨Kp.refl _ _, rfl⟩
    · exact absurd hi (by simp only [List.length_cons, List.length_nil]; omega)
  · intro a W hW hdef hsz hold hR
    have hst : stepS Try.prog (opsOf Try.f6 9) Q ((opsOf Try.f6 9).getD 3 default) (fun v w'' => KpN W w'' ∧ (Stb.val (.bool true)).p v w'') a W := by
      have e0 : a.eval (.tmp 28) = .int .i64 3 := hR 0 (by decide)
      have e1 : a.eval (.tmp 30) = .int .i64 4 := hR 2 (by decide)
      exact gS_bin (wanted_none (by kernel_rfl) _) rfl (.int .i64 3) (.int .i64 4) (.bool true) e0 e1 (by kernel_rfl) ⟨Kp.refl _ _, rfl⟩
    refine last_step (by kernel_rfl) hst fun v w' hv => ?_
    rw [show ((opsOf Try.f6 9).getD 3 default).dst = some 31 by kernel_rfl]
    refine hQ _ w' (hW.trans hv.1) hdef ((put_size _ _ _).trans hsz) (fun s hs => ?_) (by rw [put_same _ _ _ (by rw [hsz, hs0]; decide)]; exact hv.2)
    rw [put_other _ _ _ _ (fun e => hs (by rw [← e]; decide))]
    exact hold s (fun h => hs (List.mem_append_left [31] h))
set_option maxHeartbeats 4000000 in
set_option maxRecDepth 100000 in
theorem m6r11_3 (sz : Int) (ops : Array Oper) (hops : ops = opsOf Try.f6 11) (a0 : Act) (w : World) (Q : Exit → Act → World → Prop) (hs0 : a0.tmps.size = 73) (h3 : ∃ g_, a0.tmps.getD 3 undef = .pointer (some ⟨g_, 0, none⟩) ∧ NodeB w g_ (n25_5 sz)) (h4 : (Stb.blk namesC 9 4).p (a0.tmps.getD 4 undef) w) (h5 : (Stb.blk placesC 62 4).p (a0.tmps.getD 5 undef) w) (h6 : a0.tmps.getD 6 undef = .int .i64 3)
    (hQ : ∀ a w', KpN w w' → a.defers = a0.defers → a.tmps.size = a0.tmps.size → (∀ s, s ∉ [34, 35, 36, 37, 38, 39, 40, 41, 42, 43, 44, 45, 46, 47, 48, 49, 50, 51, 52] → a.tmps.getD s undef = a0.tmps.getD s undef) → (Stb.val (.bool false)).p (a.tmps.getD 52 undef) w' → Q .normal a w') : (Code.region 11 ops true).wp Try.prog Q a0 w := by
  subst hops
  refine wp_slots true [34, 35, 36, 37, 38, 39, 40, 41, 42, 43, 44, 45, 46, 47, 48, 49, 50, 51] [Stb.node (n25_5 sz), Stb.blk namesC 9 4, Stb.val (.int .i64 3), Stb.at namesC 9 3, Stb.val (.string ⟨#[118, 105, 114, 116, 105, 111, 64, 49, 48, 48, 48, 50, 48, 48, 48]⟩), Stb.slF Kd.string [(⟨#[115, 111, 99]⟩ : ByteArray), (⟨#[118, 105, 114, 116, 105, 111, 64, 49, 48, 48, 48, 50, 48, 48, 48]⟩ : ByteArray)], Stb.blk placesC 62 4, Stb.val (.int .i64 3), Stb.at placesC 62 6, Stb.at placesC 62 6, Stb.val (.int .u64 268443648), Stb.blk placesC 62 4, Stb.val (.int .i64 3), Stb.at placesC 62 6, Stb.at placesC 62 7, Stb.val (.int .u64 4096), Stb.sl (Kd.int .u8) (w64b 268443648 ++ w64b 4096), Stb.val (.bool true)] ((opsOf Try.f6 11).getD 18 default) (by kernel_rfl) (by rw [hs0]; kernel_rfl) (by kernel_rfl) (by kernel_rfl) ?_ ?_
  · intro i o hi ho a W hW hA hdep
    rcases i with _ | _ | _ | _ | _ | _ | _ | _ | _ | _ | _ | _ | _ | _ | _ | _ | _ | _ | i
    · obtain rfl := at_get ho
      obtain ⟨g_, p_, n_⟩ := h3
      obtain ⟨u1, u2, hb, s1, s2⟩ := n_.kp hW
      exact gS_ld (wanted_none (by kernel_rfl) _) rfl g_ ((ag_old hA (by decide)).trans p_) 32 _ _ hb Try.underlying32 rfl (by kernel_rfl) ⟨Kp.refl _ _, _, _, rfl, s1, s2⟩
    · obtain rfl := at_get ho
      obtain ⟨b_, e_, q_⟩ := (Stb.blk namesC 9 4).st _ _ _ h4 hW
      exact gS_mv (wanted_none (by kernel_rfl) _) rfl _ ((ag_old hA (by decide)).trans e_) ⟨Kp.refl _ _, b_, rfl, q_⟩
    · obtain rfl := at_get ho
      exact gS_mv (wanted_none (by kernel_rfl) _) rfl _ ((ag_old hA (by decide)).trans h6) ⟨Kp.refl _ _, rfl⟩
    · obtain rfl := at_get ho
      obtain ⟨b0, e0, q0⟩ : (Stb.blk namesC 9 4).p (a.eval (.tmp 35)) W := hdep 1 (by decide) (by kernel_rfl)
      have e1 : a.eval (.tmp 36) = .int .i64 3 := hdep 2 (by decide) (by kernel_rfl)
      exact gS_ia (wanted_none (by kernel_rfl) _) rfl _ _ (.pointer (some ⟨b0, 3, none⟩)) e0 e1 (by kernel_rfl) ⟨Kp.refl _ _, b0, rfl, q0⟩
    · obtain rfl := at_get ho
      obtain ⟨b0, e0, q0⟩ : (Stb.at namesC 9 3).p (a.eval (.tmp 37)) W := hdep 3 (by decide) (by kernel_rfl)
      exact gS_load (wanted_none (by kernel_rfl) _) rfl _ (.string ⟨#[118, 105, 114, 116, 105, 111, 64, 49, 48, 48, 48, 50, 48, 48, 48]⟩) e0 (ldc9 _ _ W (by rw [blk_cell q0]; rfl)) ⟨Kp.refl _ _, rfl⟩
    · obtain rfl := at_get ho
      have e1 : a.eval (.tmp 38) = .string ⟨#[118, 105, 114, 116, 105, 111, 64, 49, 48, 48, 48, 50, 48, 48, 48]⟩ := hdep 4 (by decide) (by kernel_rfl)
      exact gS_bs (wanted_none (by kernel_rfl) _) rfl #[(0, .string ⟨#[115, 111, 99]⟩), (1, .string ⟨#[118, 105, 114, 116, 105, 111, 64, 49, 48, 48, 48, 50, 48, 48, 48]⟩)] _ _ (by simp only [List.map_toArray, List.map_cons, List.map_nil]; rw [e1] <;> rfl) (bs38_2 W _ _) ⟨(Kp.refl _ _).alloc _, SlF.lit (d := Kd.string) (l := [(⟨#[115, 111, 99]⟩ : ByteArray), (⟨#[118, 105, 114, 116, 105, 111, 64, 49, 48, 48, 48, 50, 48, 48, 48]⟩ : ByteArray)]) (inner := [.string ⟨#[115, 111, 99]⟩, .string ⟨#[118, 105, 114, 116, 105, 111, 64, 49, 48, 48, 48, 50, 48, 48, 48]⟩]) (reps_cons str_sl rfl (reps_cons str_sl rfl (Reps.none _ _))) (show (2 : Nat) ≤ 9223372036854775807 by decide) (.inl (by decide))⟩
    · obtain rfl := at_get ho
      obtain ⟨b_, e_, q_⟩ := (Stb.blk placesC 62 4).st _ _ _ h5 hW
      exact gS_mv (wanted_none (by kernel_rfl) _) rfl _ ((ag_old hA (by decide)).trans e_) ⟨Kp.refl _ _, b_, rfl, q_⟩
    · obtain rfl := at_get ho
      exact gS_mv (wanted_none (by kernel_rfl) _) rfl _ ((ag_old hA (by decide)).trans h6) ⟨Kp.refl _ _, rfl⟩
    · obtain rfl := at_get ho
      obtain ⟨b0, e0, q0⟩ : (Stb.blk placesC 62 4).p (a.eval (.tmp 40)) W := hdep 6 (by decide) (by kernel_rfl)
      have e1 : a.eval (.tmp 41) = .int .i64 3 := hdep 7 (by decide) (by kernel_rfl)
      exact gS_ia (wanted_none (by kernel_rfl) _) rfl _ _ (.pointer (some ⟨b0, 6, none⟩)) e0 e1 (by kernel_rfl) ⟨Kp.refl _ _, b0, rfl, q0⟩
    · obtain rfl := at_get ho
      obtain ⟨b0, e0, q0⟩ : (Stb.at placesC 62 6).p (a.eval (.tmp 42)) W := hdep 8 (by decide) (by kernel_rfl)
      exact gS_ia (wanted_none (by kernel_rfl) _) rfl _ _ (.pointer (some ⟨b0, 6, none⟩)) e0 rfl (by kernel_rfl) ⟨Kp.refl _ _, b0, rfl, q0⟩
    · obtain rfl := at_get ho
      obtain ⟨b0, e0, q0⟩ : (Stb.at placesC 62 6).p (a.eval (.tmp 43)) W := hdep 9 (by decide) (by kernel_rfl)
      exact gS_load (wanted_none (by kernel_rfl) _) rfl _ (.int .u64 268443648) e0 (ldc39 _ _ W (by rw [blk_cell q0]; rfl)) ⟨Kp.refl _ _, rfl⟩
    · obtain rfl := at_get ho
      obtain ⟨b_, e_, q_⟩ := (Stb.blk placesC 62 4).st _ _ _ h5 hW
      exact gS_mv (wanted_none (by kernel_rfl) _) rfl _ ((ag_old hA (by decide)).trans e_) ⟨Kp.refl _ _, b_, rfl, q_⟩
    · obtain rfl := at_get ho
      exact gS_mv (wanted_none (by kernel_rfl) _) rfl _ ((ag_old hA (by decide)).trans h6) ⟨Kp.refl _ _, rfl⟩
    · obtain rfl := at_get ho
      obtain ⟨b0, e0, q0⟩ : (Stb.blk placesC 62 4).p (a.eval (.tmp 45)) W := hdep 11 (by decide) (by kernel_rfl)
      have e1 : a.eval (.tmp 46) = .int .i64 3 := hdep 12 (by decide) (by kernel_rfl)
      exact gS_ia (wanted_none (by kernel_rfl) _) rfl _ _ (.pointer (some ⟨b0, 6, none⟩)) e0 e1 (by kernel_rfl) ⟨Kp.refl _ _, b0, rfl, q0⟩
    · obtain rfl := at_get ho
      obtain ⟨b0, e0, q0⟩ : (Stb.at placesC 62 6).p (a.eval (.tmp 47)) W := hdep 13 (by decide) (by kernel_rfl)
      exact gS_ia (wanted_none (by kernel_rfl) _) rfl _ _ (.pointer (some ⟨b0, 7, none⟩)) e0 rfl (by kernel_rfl) ⟨Kp.refl _ _, b0, rfl, q0⟩
    · obtain rfl := at_get ho
      obtain ⟨b0, e0, q0⟩ : (Stb.at placesC 62 7).p (a.eval (.tmp 48)) W := hdep 14 (by decide) (by kernel_rfl)
      exact gS_load (wanted_none (by kernel_rfl) _) rfl _ (.int .u64 4096) e0 (ldc39 _ _ W (by rw [blk_cell q0]; rfl)) ⟨Kp.refl _ _, rfl⟩
    · obtain rfl := at_get ho
      have e0 : a.eval (.tmp 44) = .int .u64 268443648 := hdep 10 (by decide) (by kernel_rfl)
      have e1 : a.eval (.tmp 49) = .int .u64 4096 := hdep 15 (by decide) (by kernel_rfl)
      refine gS_ca (wanted_none (by kernel_rfl) _) rfl Try.func27 (by kernel_rfl) rfl #[.int .u64 268443648, .int .u64 4096] (by simp only [List.map_toArray, List.map_cons, List.map_nil]; rw [e0, e1] <;> rfl) ?_
      exact place_m W 268443648 4096 (by decide) (by decide) (by decide) (by decide)
    · obtain rfl := at_get ho
      obtain ⟨_, _, e0, ⟨A0, c0, rfl, l0, q0⟩, ⟨B0, d0, rfl, m0, r0⟩⟩ : NodeV W (a.eval (.tmp 34)) (n25_5 sz) := hdep 0 (by decide) (by kernel_rfl)
      obtain ⟨b1, e1, q1⟩ : SlF Kd.string W (a.eval (.tmp 39)) [(⟨#[115, 111, 99]⟩ : ByteArray), (⟨#[118, 105, 114, 116, 105, 111, 64, 49, 48, 48, 48, 50, 48, 48, 48]⟩ : ByteArray)] := hdep 5 (by decide) (by kernel_rfl)
      obtain ⟨A3, c3, e3, l3, q3⟩ : Sl (Kd.int .u8) W (a.eval (.tmp 50)) (w64b 268443648 ++ w64b 4096) := hdep 16 (by decide) (by kernel_rfl)
      refine gS_ca (wanted_none (by kernel_rfl) _) rfl Try.func26 (by kernel_rfl) rfl #[.agg #[.string (n25_5 sz).f0, .slice A0 (n25_5 sz).f1.length c0, .slice B0 (n25_5 sz).f2.length d0], .slice (some b1) 2 2, .string ⟨#[114, 101, 103]⟩, .slice A3 ((w64b 268443648 ++ w64b 4096) : List Int).length c3] (by simp only [List.map_toArray, List.map_cons, List.map_nil]; rw [e0, e1, e3] <;> rfl) ?_
      exact told_m W (sz := sz) (A1 := some b1) (c1 := 2) (path := [(⟨#[115, 111, 99]⟩ : ByteArray), (⟨#[118, 105, 114, 116, 105, 111, 64, 49, 48, 48, 48, 50, 48, 48, 48]⟩ : ByteArray)]) (name := ⟨#[114, 101, 103]⟩) (want := (w64b 268443648 ++ w64b 4096)) (A3 := A3) (c3 := c3) q0 l0 r0 m0 q1 (Nat.le_refl _) q3 l3 (told_reg3 sz)
    · exact absurd hi (by simp only [List.length_cons, List.length_nil]; omega)
  · intro a W hW hdef hsz hold hR
    have hst : stepS Try.prog (opsOf Try.f6 11) Q ((opsOf Try.f6 11).getD 18 default) (fun v w'' => KpN W w'' ∧ (Stb.val (.bool false)).p v w'') a W := by
      have e0 : a.eval (.tmp 51) = .bool true := hR 17 (by decide)
      exact gS_un (wanted_none (by kernel_rfl) _) rfl (.bool true) (.bool false) e0 (by kernel_rfl) ⟨Kp.refl _ _, rfl⟩
    refine last_step (by kernel_rfl) hst fun v w' hv => ?_
    rw [show ((opsOf Try.f6 11).getD 18 default).dst = some 52 by kernel_rfl]
    refine hQ _ w' (hW.trans hv.1) hdef ((put_size _ _ _).trans hsz) (fun s hs => ?_) (by rw [put_same _ _ _ (by rw [hsz, hs0]; decide)]; exact hv.2)
    rw [put_other _ _ _ _ (fun e => hs (by rw [← e]; decide))]
    exact hold s (fun h => hs (List.mem_append_left [52] h))
set_option maxHeartbeats 4000000 in
set_option maxRecDepth 100000 in
theorem m6r13_3 (sz : Int) (ops : Array Oper) (hops : ops = opsOf Try.f6 13) (a0 : Act) (w : World) (Q : Exit → Act → World → Prop) (hs0 : a0.tmps.size = 73) (h3 : ∃ g_, a0.tmps.getD 3 undef = .pointer (some ⟨g_, 0, none⟩) ∧ NodeB w g_ (n25_5 sz)) (h4 : (Stb.blk namesC 9 4).p (a0.tmps.getD 4 undef) w) (h6 : a0.tmps.getD 6 undef = .int .i64 3)
    (hQ : ∀ a w', KpN w w' → a.defers = a0.defers → a.tmps.size = a0.tmps.size → (∀ s, s ∉ [53, 54, 55, 56, 57, 58, 59, 60, 61, 62, 63, 64, 65, 66, 67] → a.tmps.getD s undef = a0.tmps.getD s undef) → (Stb.val (.bool false)).p (a.tmps.getD 67 undef) w' → Q .normal a w') : (Code.region 13 ops true).wp Try.prog Q a0 w := by
  subst hops
  refine wp_slots true [53, 54, 55, 56, 57, 58, 59, 60, 61, 62, 63, 64, 65, 66] [Stb.val (.int .i64 3), Stb.val (.bool true), Stb.val (.bool true), Stb.node (n25_5 sz), Stb.blk namesC 9 4, Stb.val (.int .i64 3), Stb.at namesC 9 3, Stb.val (.string ⟨#[118, 105, 114, 116, 105, 111, 64, 49, 48, 48, 48, 50, 48, 48, 48]⟩), Stb.slF Kd.string [(⟨#[115, 111, 99]⟩ : ByteArray), (⟨#[118, 105, 114, 116, 105, 111, 64, 49, 48, 48, 48, 50, 48, 48, 48]⟩ : ByteArray)], Stb.val (.int .i64 3), Stb.val (.int .i64 2), Stb.sl (Kd.int .u8) (w32 2), Stb.val (.bool true), Stb.val (.bool false)] ((opsOf Try.f6 13).getD 14 default) (by kernel_rfl) (by rw [hs0]; kernel_rfl) (by kernel_rfl) (by kernel_rfl) ?_ ?_
  · intro i o hi ho a W hW hA hdep
    rcases i with _ | _ | _ | _ | _ | _ | _ | _ | _ | _ | _ | _ | _ | _ | i
    · obtain rfl := at_get ho
      exact gS_mv (wanted_none (by kernel_rfl) _) rfl _ ((ag_old hA (by decide)).trans h6) ⟨Kp.refl _ _, rfl⟩
    · obtain rfl := at_get ho
      have e0 : a.eval (.tmp 53) = .int .i64 3 := hdep 0 (by decide) (by kernel_rfl)
      exact gS_bin (wanted_none (by kernel_rfl) _) rfl (.int .i64 3) (.int .i64 2) (.bool true) e0 rfl (by kernel_rfl) ⟨Kp.refl _ _, rfl⟩
    · obtain rfl := at_get ho
      have e0 : a.eval (.tmp 54) = .bool true := hdep 1 (by decide) (by kernel_rfl)
      exact gS_mv (wanted_none (by kernel_rfl) _) rfl _ e0 ⟨Kp.refl _ _, rfl⟩
    · obtain rfl := at_get ho
      have hg : a.tmps.getD 55 undef = .bool true := hdep 2 (by decide) (by kernel_rfl)
      obtain ⟨g_, p_, n_⟩ := h3
      obtain ⟨u1, u2, hb, s1, s2⟩ := n_.kp hW
      exact gS_ld (wanted_y (j := 2) (b := true) (by kernel_rfl) (by kernel_rfl) hg) rfl g_ ((ag_old hA (by decide)).trans p_) 32 _ _ hb Try.underlying32 rfl (by kernel_rfl) ⟨Kp.refl _ _, _, _, rfl, s1, s2⟩
    · obtain rfl := at_get ho
      have hg : a.tmps.getD 55 undef = .bool true := hdep 2 (by decide) (by kernel_rfl)
      obtain ⟨b_, e_, q_⟩ := (Stb.blk namesC 9 4).st _ _ _ h4 hW
      exact gS_mv (wanted_y (j := 2) (b := true) (by kernel_rfl) (by kernel_rfl) hg) rfl _ ((ag_old hA (by decide)).trans e_) ⟨Kp.refl _ _, b_, rfl, q_⟩
    · obtain rfl := at_get ho
      have hg : a.tmps.getD 55 undef = .bool true := hdep 2 (by decide) (by kernel_rfl)
      exact gS_mv (wanted_y (j := 2) (b := true) (by kernel_rfl) (by kernel_rfl) hg) rfl _ ((ag_old hA (by decide)).trans h6) ⟨Kp.refl _ _, rfl⟩
    · obtain rfl := at_get ho
      have hg : a.tmps.getD 55 undef = .bool true := hdep 2 (by decide) (by kernel_rfl)
      obtain ⟨b0, e0, q0⟩ : (Stb.blk namesC 9 4).p (a.eval (.tmp 57)) W := hdep 4 (by decide) (by kernel_rfl)
      have e1 : a.eval (.tmp 58) = .int .i64 3 := hdep 5 (by decide) (by kernel_rfl)
      exact gS_ia (wanted_y (j := 2) (b := true) (by kernel_rfl) (by kernel_rfl) hg) rfl _ _ (.pointer (some ⟨b0, 3, none⟩)) e0 e1 (by kernel_rfl) ⟨Kp.refl _ _, b0, rfl, q0⟩
    · obtain rfl := at_get ho
      have hg : a.tmps.getD 55 undef = .bool true := hdep 2 (by decide) (by kernel_rfl)
      obtain ⟨b0, e0, q0⟩ : (Stb.at namesC 9 3).p (a.eval (.tmp 59)) W := hdep 6 (by decide) (by kernel_rfl)
      exact gS_load (wanted_y (j := 2) (b := true) (by kernel_rfl) (by kernel_rfl) hg) rfl _ (.string ⟨#[118, 105, 114, 116, 105, 111, 64, 49, 48, 48, 48, 50, 48, 48, 48]⟩) e0 (ldc9 _ _ W (by rw [blk_cell q0]; rfl)) ⟨Kp.refl _ _, rfl⟩
    · obtain rfl := at_get ho
      have hg : a.tmps.getD 55 undef = .bool true := hdep 2 (by decide) (by kernel_rfl)
      have e1 : a.eval (.tmp 60) = .string ⟨#[118, 105, 114, 116, 105, 111, 64, 49, 48, 48, 48, 50, 48, 48, 48]⟩ := hdep 7 (by decide) (by kernel_rfl)
      exact gS_bs (wanted_y (j := 2) (b := true) (by kernel_rfl) (by kernel_rfl) hg) rfl #[(0, .string ⟨#[115, 111, 99]⟩), (1, .string ⟨#[118, 105, 114, 116, 105, 111, 64, 49, 48, 48, 48, 50, 48, 48, 48]⟩)] _ _ (by simp only [List.map_toArray, List.map_cons, List.map_nil]; rw [e1] <;> rfl) (bs38_2 W _ _) ⟨(Kp.refl _ _).alloc _, SlF.lit (d := Kd.string) (l := [(⟨#[115, 111, 99]⟩ : ByteArray), (⟨#[118, 105, 114, 116, 105, 111, 64, 49, 48, 48, 48, 50, 48, 48, 48]⟩ : ByteArray)]) (inner := [.string ⟨#[115, 111, 99]⟩, .string ⟨#[118, 105, 114, 116, 105, 111, 64, 49, 48, 48, 48, 50, 48, 48, 48]⟩]) (reps_cons str_sl rfl (reps_cons str_sl rfl (Reps.none _ _))) (show (2 : Nat) ≤ 9223372036854775807 by decide) (.inl (by decide))⟩
    · obtain rfl := at_get ho
      have hg : a.tmps.getD 55 undef = .bool true := hdep 2 (by decide) (by kernel_rfl)
      exact gS_mv (wanted_y (j := 2) (b := true) (by kernel_rfl) (by kernel_rfl) hg) rfl _ ((ag_old hA (by decide)).trans h6) ⟨Kp.refl _ _, rfl⟩
    · obtain rfl := at_get ho
      have hg : a.tmps.getD 55 undef = .bool true := hdep 2 (by decide) (by kernel_rfl)
      have e0 : a.eval (.tmp 62) = .int .i64 3 := hdep 9 (by decide) (by kernel_rfl)
      exact gS_bin (wanted_y (j := 2) (b := true) (by kernel_rfl) (by kernel_rfl) hg) rfl (.int .i64 3) (.int .i64 1) (.int .i64 2) e0 rfl (by kernel_rfl) ⟨Kp.refl _ _, rfl⟩
    · obtain rfl := at_get ho
      have hg : a.tmps.getD 55 undef = .bool true := hdep 2 (by decide) (by kernel_rfl)
      have e0 : a.eval (.tmp 63) = .int .i64 2 := hdep 10 (by decide) (by kernel_rfl)
      refine gS_ca (wanted_y (j := 2) (b := true) (by kernel_rfl) (by kernel_rfl) hg) rfl Try.func17 (by kernel_rfl) rfl #[.int .i64 2] (by simp only [List.map_toArray, List.map_cons, List.map_nil]; rw [e0] <;> rfl) ?_
      exact word_m W 2 (by decide) (by decide)
    · obtain rfl := at_get ho
      have hg : a.tmps.getD 55 undef = .bool true := hdep 2 (by decide) (by kernel_rfl)
      obtain ⟨_, _, e0, ⟨A0, c0, rfl, l0, q0⟩, ⟨B0, d0, rfl, m0, r0⟩⟩ : NodeV W (a.eval (.tmp 56)) (n25_5 sz) := hdep 3 (by decide) (by kernel_rfl)
      obtain ⟨b1, e1, q1⟩ : SlF Kd.string W (a.eval (.tmp 61)) [(⟨#[115, 111, 99]⟩ : ByteArray), (⟨#[118, 105, 114, 116, 105, 111, 64, 49, 48, 48, 48, 50, 48, 48, 48]⟩ : ByteArray)] := hdep 8 (by decide) (by kernel_rfl)
      obtain ⟨A3, c3, e3, l3, q3⟩ : Sl (Kd.int .u8) W (a.eval (.tmp 64)) (w32 2) := hdep 11 (by decide) (by kernel_rfl)
      refine gS_ca (wanted_y (j := 2) (b := true) (by kernel_rfl) (by kernel_rfl) hg) rfl Try.func26 (by kernel_rfl) rfl #[.agg #[.string (n25_5 sz).f0, .slice A0 (n25_5 sz).f1.length c0, .slice B0 (n25_5 sz).f2.length d0], .slice (some b1) 2 2, .string ⟨#[105, 110, 116, 101, 114, 114, 117, 112, 116, 115]⟩, .slice A3 ((w32 2) : List Int).length c3] (by simp only [List.map_toArray, List.map_cons, List.map_nil]; rw [e0, e1, e3] <;> rfl) ?_
      exact told_m W (sz := sz) (A1 := some b1) (c1 := 2) (path := [(⟨#[115, 111, 99]⟩ : ByteArray), (⟨#[118, 105, 114, 116, 105, 111, 64, 49, 48, 48, 48, 50, 48, 48, 48]⟩ : ByteArray)]) (name := ⟨#[105, 110, 116, 101, 114, 114, 117, 112, 116, 115]⟩) (want := (w32 2)) (A3 := A3) (c3 := c3) q0 l0 r0 m0 q1 (Nat.le_refl _) q3 l3 (told_int3 sz)
    · obtain rfl := at_get ho
      have hg : a.tmps.getD 55 undef = .bool true := hdep 2 (by decide) (by kernel_rfl)
      have e0 : a.eval (.tmp 65) = .bool true := hdep 12 (by decide) (by kernel_rfl)
      exact gS_un (wanted_y (j := 2) (b := true) (by kernel_rfl) (by kernel_rfl) hg) rfl (.bool true) (.bool false) e0 (by kernel_rfl) ⟨Kp.refl _ _, rfl⟩
    · exact absurd hi (by simp only [List.length_cons, List.length_nil]; omega)
  · intro a W hW hdef hsz hold hR
    have hst : stepS Try.prog (opsOf Try.f6 13) Q ((opsOf Try.f6 13).getD 14 default) (fun v w'' => KpN W w'' ∧ (Stb.val (.bool false)).p v w'') a W := by
      have e0 : a.eval (.tmp 55) = .bool true := hR 2 (by decide)
      have e1 : a.eval (.tmp 66) = .bool false := hR 13 (by decide)
      exact gS_pick (wanted_none (by kernel_rfl) _) rfl true (.bool false) e0 e1 ⟨Kp.refl _ _, rfl⟩
    refine last_step (by kernel_rfl) hst fun v w' hv => ?_
    rw [show ((opsOf Try.f6 13).getD 14 default).dst = some 67 by kernel_rfl]
    refine hQ _ w' (hW.trans hv.1) hdef ((put_size _ _ _).trans hsz) (fun s hs => ?_) (by rw [put_same _ _ _ (by rw [hsz, hs0]; decide)]; exact hv.2)
    rw [put_other _ _ _ _ (fun e => hs (by rw [← e]; decide))]
    exact hold s (fun h => hs (List.mem_append_left [67] h))
set_option maxHeartbeats 4000000 in
set_option maxRecDepth 100000 in
theorem m6r10_3 (sz : Int) (ops : Array Oper) (hops : ops = opsOf Try.f6 10) (a0 : Act) (w : World) (Q : Exit → Act → World → Prop) (hs0 : a0.tmps.size = 73) (h6 : a0.tmps.getD 6 undef = .int .i64 3)
    (hQ : ∀ a w', KpN w w' → a.defers = a0.defers → a.tmps.size = a0.tmps.size → (∀ s, s ∉ [32, 33, 6] → a.tmps.getD s undef = a0.tmps.getD s undef) → (Stb.val (.int .i64 4)).p (a.tmps.getD 6 undef) w' → Q .normal a w') : (Code.region 10 ops false).wp Try.prog Q a0 w := by
  subst hops
  refine wp_slots false [32, 33] [Stb.val (.int .i64 3), Stb.val (.int .i64 4)] ((opsOf Try.f6 10).getD 2 default) (by kernel_rfl) (by rw [hs0]; kernel_rfl) (by kernel_rfl) (by kernel_rfl) ?_ ?_
  · intro i o hi ho a W hW hA hdep
    rcases i with _ | _ | i
    · obtain rfl := at_get ho
      exact gS_mv (wanted_none (by kernel_rfl) _) rfl _ ((ag_old hA (by decide)).trans h6) ⟨Kp.refl _ _, rfl⟩
    · obtain rfl := at_get ho
      have e0 : a.eval (.tmp 32) = .int .i64 3 := hdep 0 (by decide) (by kernel_rfl)
      exact gS_bin (wanted_none (by kernel_rfl) _) rfl (.int .i64 3) (.int .i64 1) (.int .i64 4) e0 rfl (by kernel_rfl) ⟨Kp.refl _ _, rfl⟩
    · exact absurd hi (by simp only [List.length_cons, List.length_nil]; omega)
  · intro a W hW hdef hsz hold hR
    have hst : stepS Try.prog (opsOf Try.f6 10) Q ((opsOf Try.f6 10).getD 2 default) (fun v w'' => KpN W w'' ∧ (Stb.val (.int .i64 4)).p v w'') a W := by
      have e0 : a.eval (.tmp 33) = .int .i64 4 := hR 1 (by decide)
      exact gS_as (wanted_none (by kernel_rfl) _) rfl _ e0 ⟨Kp.refl _ _, rfl⟩
    refine last_step (by kernel_rfl) hst fun v w' hv => ?_
    rw [show ((opsOf Try.f6 10).getD 2 default).dst = some 6 by kernel_rfl]
    refine hQ _ w' (hW.trans hv.1) hdef ((put_size _ _ _).trans hsz) (fun s hs => ?_) (by rw [put_same _ _ _ (by rw [hsz, hs0]; decide)]; exact hv.2)
    rw [put_other _ _ _ _ (fun e => hs (by rw [← e]; decide))]
    exact hold s (fun h => hs (List.mem_append_left [6] h))
set_option maxHeartbeats 4000000 in
set_option maxRecDepth 100000 in
theorem m6r9_4 (sz : Int) (ops : Array Oper) (hops : ops = opsOf Try.f6 9) (a0 : Act) (w : World) (Q : Exit → Act → World → Prop) (hs0 : a0.tmps.size = 73) (h4 : (Stb.blk namesC 9 4).p (a0.tmps.getD 4 undef) w) (h6 : a0.tmps.getD 6 undef = .int .i64 4)
    (hQ : ∀ a w', KpN w w' → a.defers = a0.defers → a.tmps.size = a0.tmps.size → (∀ s, s ∉ [28, 29, 30, 31] → a.tmps.getD s undef = a0.tmps.getD s undef) → (Stb.val (.bool false)).p (a.tmps.getD 31 undef) w' → Q .normal a w') : (Code.region 9 ops false).wp Try.prog Q a0 w := by
  subst hops
  refine wp_slots false [28, 29, 30] [Stb.val (.int .i64 4), Stb.blk namesC 9 4, Stb.val (.int .i64 4)] ((opsOf Try.f6 9).getD 3 default) (by kernel_rfl) (by rw [hs0]; kernel_rfl) (by kernel_rfl) (by kernel_rfl) ?_ ?_
  · intro i o hi ho a W hW hA hdep
    rcases i with _ | _ | _ | i
    · obtain rfl := at_get ho
      exact gS_mv (wanted_none (by kernel_rfl) _) rfl _ ((ag_old hA (by decide)).trans h6) ⟨Kp.refl _ _, rfl⟩
    · obtain rfl := at_get ho
      obtain ⟨b_, e_, q_⟩ := (Stb.blk namesC 9 4).st _ _ _ h4 hW
      exact gS_mv (wanted_none (by kernel_rfl) _) rfl _ ((ag_old hA (by decide)).trans e_) ⟨Kp.refl _ _, b_, rfl, q_⟩
    · obtain rfl := at_get ho
      obtain ⟨b0, e0, q0⟩ : (Stb.blk namesC 9 4).p (a.eval (.tmp 29)) W := hdep 1 (by decide) (by kernel_rfl)
      exact gS_len (wanted_none (by kernel_rfl) _) rfl _ _ e0 ⟨Kp.refl _ _, rfl⟩
    · exact absurd hi (by simp only [List.length_cons, List.length_nil]; omega)
  · intro a W hW hdef hsz hold hR
    have hst : stepS Try.prog (opsOf Try.f6 9) Q ((opsOf Try.f6 9).getD 3 default) (fun v w'' => KpN W w'' ∧ (Stb.val (.bool false)).p v w'') a W := by
      have e0 : a.eval (.tmp 28) = .int .i64 4 := hR 0 (by decide)
      have e1 : a.eval (.tmp 30) = .int .i64 4 := hR 2 (by decide)
      exact gS_bin (wanted_none (by kernel_rfl) _) rfl (.int .i64 4) (.int .i64 4) (.bool false) e0 e1 (by kernel_rfl) ⟨Kp.refl _ _, rfl⟩
    refine last_step (by kernel_rfl) hst fun v w' hv => ?_
    rw [show ((opsOf Try.f6 9).getD 3 default).dst = some 31 by kernel_rfl]
    refine hQ _ w' (hW.trans hv.1) hdef ((put_size _ _ _).trans hsz) (fun s hs => ?_) (by rw [put_same _ _ _ (by rw [hsz, hs0]; decide)]; exact hv.2)
    rw [put_other _ _ _ _ (fun e => hs (by rw [← e]; decide))]
    exact hold s (fun h => hs (List.mem_append_left [31] h))
end Go.Proofs.Ytmhlellhfepkkaa.H
