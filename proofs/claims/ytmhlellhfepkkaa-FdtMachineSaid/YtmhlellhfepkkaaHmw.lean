/- The law FdtMachine: walked. -/
import Derived.Test.YtmhlellhfepkkaaHml
import Derived.Lib.SlBytesConst
import Derived.LoopN
namespace Go.Proofs.Ytmhlellhfepkkaa.H
open Go.RowKit Go.Proofs.YtmhlellhfepkkaaW.PrintWords Go.Proofs.YtmhlellhfepkkaaW.PrintLast Go.Proofs.YtmhlellhfepkkaaW.PrintMore Go.Proofs.Ytmhlellhfepkkaa.PAl Go.Proofs.Ytmhlellhfepkkaa.B
set_option linter.unusedVariables false
set_option linter.unusedSimpArgs false
theorem toList6 {ops : Array Oper} (h : ops.size = 6) : ops.toList = [ops.getD 0 default, ops.getD 1 default, ops.getD 2 default, ops.getD 3 default, ops.getD 4 default, ops.getD 5 default] := by
  obtain ⟨l⟩ := ops
  have hl : l.length = 6 := by simpa using h
  rcases l with _ | ⟨x0, _ | ⟨x1, _ | ⟨x2, _ | ⟨x3, _ | ⟨x4, _ | ⟨x5, _ | ⟨x6, l⟩⟩⟩⟩⟩⟩⟩ <;> first | rfl | (simp only [List.length_cons, List.length_nil] at hl; omega)
theorem list_step {P : Program} {ops : Array Oper} {Q : Exit → Act → World → Prop} {o : Oper} {rest : List Oper} {F : Value → World → Prop} {a : Act} {w : World} (hg : o.guard = none) (h : stepS P ops Q o F a w) (hK : ∀ v w', F v w' → wpList P ops Q rest (a.put o.dst v) w') : wpList P ops Q (o :: rest) a w := by
  unfold stepS at h
  rw [if_pos (wanted_none hg _)] at h
  unfold wpList
  rw [if_pos (wanted_none hg _)]
  exact .inl (Oper.wp_mono (fun a' w' h => by obtain ⟨v, rfl, hF⟩ := h; exact hK v w' hF) h)
theorem keepS {S : Stb} {v v' : Value} {w w' : World} (h : S.p v w) (k : KpN w w') (e : v' = v) : S.p v' w' := by rw [e]; exact S.st _ _ _ h k
/-- A row of bytes in a block, whatever mark it bears. -/
theorem u8_row {w : World} {g : Nat} {l : List Int} {e : TypeId} {fr : Nat × Nat} (h : w.heap[g]? = some (.cells (l.map (Value.int .u8)).toArray e fr)) (hm : l.length ≤ 9223372036854775807) : Kd.C (Kd.int .u8) w (some ⟨g, 0, none⟩) l.length l := by
  refine ⟨rfl, hm, fun _ => ⟨_, rfl, fun j p hj => ⟨[.int .u8 p], rfl, rfl, fun i u hu => ?_⟩⟩⟩
  have hi : i = 0 := by have := (List.getElem?_eq_some_iff.1 hu).1; simp only [List.length_cons, List.length_nil] at this; omega
  subst hi
  have hu' : Value.int .u8 p = u := by simpa using hu
  subst hu'
  rw [add_plain]
  have e1 : (Kd.int .u8).sz = 1 := rfl
  rw [e1, Nat.mul_one, Nat.add_zero]
  simp [World.cell?, h, hj]
set_option maxHeartbeats 1000000 in
set_option maxRecDepth 100000 in
theorem m6r15 (sz : Int) (ops : Array Oper) (hops : ops = opsOf Try.f6 15) (a0 : Act) (w : World) (Q : Exit → Act → World → Prop) (hs0 : a0.tmps.size = 73) (h3 : ∃ g_, a0.tmps.getD 3 undef = .pointer (some ⟨g_, 0, none⟩) ∧ NodeB w g_ (n25_5 sz))
    (hQ : ∀ a w', KpN w w' → a.defers = a0.defers → a.tmps.getD 2 undef = .bool true → Q .normal a w') : (Code.region 15 ops false).wp Try.prog Q a0 w := by
  subst hops
  refine wp_region_list ?_
  rw [toList6 (by kernel_rfl)]
  refine list_step (F := fun v w'' => KpN w w'' ∧ NodeV w'' v (n25_5 sz)) (by kernel_rfl) ?_ ?_
  · obtain ⟨g_, p_, u1, u2, hb, s1, s2⟩ := h3
    exact gS_ld (wanted_none (by kernel_rfl) _) rfl g_ p_ 32 _ _ hb Try.underlying32 rfl (by kernel_rfl) ⟨Kp.refl _ _, _, _, rfl, s1, s2⟩
  rintro v0 w0 ⟨k0, n0⟩
  rw [show ((opsOf Try.f6 15).getD 0 default).dst = some 68 by kernel_rfl]
  refine list_step (F := fun v w'' => KpN w0 w'' ∧ SlF Kd.string w'' v [(⟨#[99, 112, 117, 115]⟩ : ByteArray), (⟨#[99, 112, 117, 64, 48]⟩ : ByteArray)]) (by kernel_rfl) ?_ ?_
  · exact gS_bs (wanted_none (by kernel_rfl) _) rfl #[(0, .string ⟨#[99, 112, 117, 115]⟩), (1, .string ⟨#[99, 112, 117, 64, 48]⟩)] _ _ (by simp only [List.map_toArray, List.map_cons, List.map_nil] <;> rfl) (bs38_2 w0 _ _) ⟨(Kp.refl _ _).alloc _, SlF.lit (d := Kd.string) (l := [(⟨#[99, 112, 117, 115]⟩ : ByteArray), (⟨#[99, 112, 117, 64, 48]⟩ : ByteArray)]) (inner := [.string ⟨#[99, 112, 117, 115]⟩, .string ⟨#[99, 112, 117, 64, 48]⟩]) (reps_cons str_sl rfl (reps_cons str_sl rfl (Reps.none _ _))) (show (2 : Nat) ≤ 9223372036854775807 by decide) (.inl (by decide))⟩
  rintro v1 w1 ⟨k1, n1⟩
  rw [show ((opsOf Try.f6 15).getD 1 default).dst = some 69 by kernel_rfl]
  refine list_step (F := fun v w'' => v = .slice (some ⟨w1.heap.size, 0, none⟩) 11 11 ∧ w'' = w1.alloc (.cells (([114, 105, 115, 99, 118, 44, 115, 118, 51, 57, 0] : List Int).map (Value.int .u8)).toArray 5)) (by kernel_rfl) ?_ ?_
  · exact gS_bs (wanted_none (by kernel_rfl) _) rfl #[(0, .int .u8 114), (1, .int .u8 105), (2, .int .u8 115), (3, .int .u8 99), (4, .int .u8 118), (5, .int .u8 44), (6, .int .u8 115), (7, .int .u8 118), (8, .int .u8 51), (9, .int .u8 57), (10, .int .u8 0)] _ _ (by simp only [List.map_toArray, List.map_cons, List.map_nil] <;> rfl) (bs25_11 w1 _ _ _ _ _ _ _ _ _ _ _) ⟨rfl, rfl⟩
  rintro v2 w2 ⟨rfl, rfl⟩
  rw [show ((opsOf Try.f6 15).getD 2 default).dst = some 70 by kernel_rfl]
  refine list_step (F := fun v w'' => v = .slice (some ⟨w1.heap.size, 0, none⟩) 11 11 ∧ w'' = w1.alloc (.cells (([114, 105, 115, 99, 118, 44, 115, 118, 51, 57, 0] : List Int).map (Value.int .u8)).toArray 5 (11, 12))) (by kernel_rfl) ?_ ?_
  · have hx : (((a0.put (some 68) v0).put (some 69) v1).put (some 70) (.slice (some ⟨w1.heap.size, 0, none⟩) 11 11)).eval (.tmp 70) = .slice (some ⟨w1.heap.size, 0, none⟩) 11 11 := put_same _ _ _ (by rw [put_size, put_size, hs0]; decide)
    have ho : ((opsOf Try.f6 15).getD 3 default).op = .convert 25 25 (.tmp 70) := by kernel_rfl
    refine gS_run (wanted_none (by kernel_rfl) _) _ _ ?_ ⟨rfl, rfl⟩
    unfold execOp
    simp only [ho, hx]
    rw [Sem.run_bind, Lib.run_convert_bytes_const w1 25 5 _ 11 11 Try.underlying25 Try.underlying5]
    rfl
  rintro v3 w3 ⟨rfl, rfl⟩
  rw [show ((opsOf Try.f6 15).getD 3 default).dst = some 71 by kernel_rfl]
  have k3 : KpN w1 (w1.alloc (.cells (([114, 105, 115, 99, 118, 44, 115, 118, 51, 57, 0] : List Int).map (Value.int .u8)).toArray 5 (11, 12))) := (Kp.refl _ _).alloc _
  have hnew := heap_alloc_new w1 (.cells (([114, 105, 115, 99, 118, 44, 115, 118, 51, 57, 0] : List Int).map (Value.int .u8)).toArray 5 (11, 12))
  have hC := u8_row hnew (show (11 : Nat) ≤ 9223372036854775807 by decide)
  generalize w1.alloc (.cells (([114, 105, 115, 99, 118, 44, 115, 118, 51, 57, 0] : List Int).map (Value.int .u8)).toArray 5 (11, 12)) = w4 at k3 hC ⊢
  clear hnew
  obtain ⟨ac, hac⟩ : ∃ ac : Act, ac = ((((a0.put (some 68) v0).put (some 69) v1).put (some 70) (.slice (some ⟨w1.heap.size, 0, none⟩) 11 11)).put (some 71) (.slice (some ⟨w1.heap.size, 0, none⟩) 11 11)) := ⟨_, rfl⟩
  have h68 : ac.eval (.tmp 68) = v0 := by rw [hac]; exact (put_other _ _ _ _ (by decide)).trans ((put_other _ _ _ _ (by decide)).trans ((put_other _ _ _ _ (by decide)).trans (put_same _ _ _ (by rw [hs0]; decide))))
  have h69 : ac.eval (.tmp 69) = v1 := by rw [hac]; exact (put_other _ _ _ _ (by decide)).trans ((put_other _ _ _ _ (by decide)).trans (put_same _ _ _ (by rw [put_size, hs0]; decide)))
  have h71 : ac.eval (.tmp 71) = .slice (some ⟨w1.heap.size, 0, none⟩) 11 11 := by rw [hac]; exact put_same _ _ _ (by rw [put_size, put_size, put_size, hs0]; decide)
  have hsz : ac.tmps.size = 73 := by rw [hac, put_size, put_size, put_size, put_size, hs0]
  have hdf : ac.defers = a0.defers := by rw [hac]; rfl
  rw [← hac]
  clear hac
  refine list_step (F := fun v w'' => KpN w4 w'' ∧ v = .bool true) (by kernel_rfl) ?_ ?_
  · obtain ⟨_, _, rfl, ⟨A0, c0, rfl, l0, q0⟩, ⟨B0, d0, rfl, m0, r0⟩⟩ := n0.kp (k1.trans k3)
    obtain ⟨b1, rfl, q1⟩ := n1.kp k3
    refine gS_ca (wanted_none (by kernel_rfl) _) rfl Try.func26 (by kernel_rfl) rfl #[.agg #[.string (n25_5 sz).f0, .slice A0 (n25_5 sz).f1.length c0, .slice B0 (n25_5 sz).f2.length d0], .slice (some b1) 2 2, .string ⟨#[109, 109, 117, 45, 116, 121, 112, 101]⟩, .slice (some ⟨w1.heap.size, 0, none⟩) 11 11] (by simp only [List.map_toArray, List.map_cons, List.map_nil]; rw [h68, h69, h71] <;> rfl) ?_
    obtain ⟨k, hk⟩ := told_mmu sz
    exact (vireolaw26_told.calls k _ _ _ _ _ _ _ _ 2 [(⟨#[99, 112, 117, 115]⟩ : ByteArray), (⟨#[99, 112, 117, 64, 48]⟩ : ByteArray)] _ _ 11 ([114, 105, 115, 99, 118, 44, 115, 118, 51, 57, 0] : List Int) true w4 (Kd.F_now q0) l0 (Kd.F_now r0) m0 (Kd.F_now q1) (Nat.le_refl _) hC (Nat.le_refl _) hk).mono fun e w' h => ⟨_, h.1, kpn_of h.2, rfl⟩
  rintro v4 w5 ⟨k4, rfl⟩
  rw [show ((opsOf Try.f6 15).getD 4 default).dst = some 72 by kernel_rfl]
  refine list_step (F := fun v w'' => w'' = w5 ∧ v = .bool true) (by kernel_rfl) ?_ ?_
  · exact gS_as (wanted_none (by kernel_rfl) _) rfl _ (put_same _ _ _ (by rw [hsz]; decide)) ⟨rfl, rfl⟩
  rintro v5 w6 ⟨rfl, rfl⟩
  rw [show ((opsOf Try.f6 15).getD 5 default).dst = some 2 by kernel_rfl]
  have kk := ((k0.trans k1).trans k3).trans k4
  have hsz2 : (ac.put (some 72) (.bool true)).tmps.size = 73 := (put_size _ _ _).trans hsz
  have hdf2 : (ac.put (some 72) (.bool true)).defers = a0.defers := hdf
  clear n0 n1 hC k0 k1 k3 k4 h68 h69 h71 hsz hdf
  generalize ac.put (some 72) (.bool true) = ad at *
  unfold wpList
  refine hQ _ _ kk ?_ ?_
  · exact hdf2
  · exact put_same _ _ _ (by rw [hsz2]; decide)
set_option maxHeartbeats 4000000 in
set_option maxRecDepth 100000 in
theorem law6 (w : World) (sz : Int) (hz : 0 ≤ sz ∧ sz < 18446744073709551616) : Calls Try.prog 6 #[.int .u64 sz] w fun e w' => e = .returned (.bool true) ∧ Below w.heap.size w w' := by
  go_enter Try.func6, Try.ntmps6
  refine wp_seq (reg_as rfl rfl ?_)
  refine wp_seq (wp_seq (m6r1 sz _ (by kernel_rfl) _ _ _ (by kernel_rfl) ?_))
  intro a1 w1 k1 d1 s1 o1 v1
  have Z1 : a1.tmps.size = 73 := s1
  have e0 : a1.tmps.getD 0 undef = .int .u64 sz := (o1 0 (by decide)).trans rfl
  refine wp_cond_false v1 (wp_skip ?_)
  refine wp_seq (m6r3 sz _ (by kernel_rfl) _ _ _ Z1 e0 ?_)
  intro a2 w2 k2 d2 s2 o2 H3
  have Z2 := s2.trans Z1
  have f0 := (o2 0 (by decide)).trans e0
  refine wp_seq (wp_seq (m6r4 sz hz _ (by kernel_rfl) _ _ _ Z2 f0 H3 ?_))
  intro a3 w3 k3 d3 s3 o3 v3
  refine wp_cond_false v3 (wp_skip ?_)
  have Z3 := s3.trans Z2
  have H3 := keepB H3 k3 (o3 3 (by decide))
  refine wp_seq (m6r6 sz _ (by kernel_rfl) _ _ _ Z3 ?_)
  intro a4 w4 k4 d4 s4 o4 H4
  have Z4 := s4.trans Z3
  have H3 := keepB H3 k4 (o4 3 (by decide))
  refine wp_seq (m6r7 sz _ (by kernel_rfl) _ _ _ Z4 ?_)
  intro a5 w5 k5 d5 s5 o5 H5
  have Z5 := s5.trans Z4
  have H3 := keepB H3 k5 (o5 3 (by decide))
  have H4 := keepS H4 k5 (o5 4 (by decide))
  have K : KpN w w5 := (((k1.trans k2).trans k3).trans k4).trans k5
  have D : a5.defers = [] := d5.trans (d4.trans (d3.trans (d2.trans d1)))
  clear k1 k2 k3 k4 k5 d1 d2 d3 d4 d5 s1 s2 s3 s4 s5 o1 o2 o3 o4 o5 v1 v3 e0 f0 Z1 Z2 Z3 Z4
  refine wp_seq (wp_seq (reg_as rfl rfl ?_))
  have Z : (a5.put (some 6) (.int .i64 0)).tmps.size = 73 := (put_size _ _ _).trans Z5
  have H6 : (a5.put (some 6) (.int .i64 0)).tmps.getD 6 undef = .int .i64 0 := put_same _ _ _ (by rw [Z5]; decide)
  have H3 := keepB (a' := a5.put (some 6) (.int .i64 0)) H3 (Kp.refl _ _) (put_other _ _ _ _ (by decide))
  have H4 := keepS (v' := (a5.put (some 6) (.int .i64 0)).tmps.getD 4 undef) H4 (Kp.refl _ _) (put_other _ _ _ _ (by decide))
  have H5 := keepS (v' := (a5.put (some 6) (.int .i64 0)).tmps.getD 5 undef) H5 (Kp.refl _ _) (put_other _ _ _ _ (by decide))
  have D : (a5.put (some 6) (.int .i64 0)).defers = [] := D
  show (Code.block 0 _).wp _ _ (a5.put (some 6) (.int .i64 0)) w5
  generalize a5.put (some 6) (.int .i64 0) = b0 at *
  clear Z5
  have K0 := K; have D0 := D; have Z0 := Z; have G3 := H3; have G4 := H4; have G5 := H5; have G6 := H6
  clear K D Z H3 H4 H5 H6
  refine wp_block (wp_loop_rounds 5 ?_)
  -- round 0
  refine wp_seq (wp_seq (m6r9_0 sz _ (by kernel_rfl) _ _ _ Z0 G4 G6 ?_))
  intro p1 x1 k1 d1 s1 o1 v1
  refine wp_cond_true v1 (wp_skip ?_)
  have Z1 := s1.trans Z0
  have A3 := keepB G3 k1 (o1 3 (by decide)); have A4 := keepS G4 k1 (o1 4 (by decide)); have A5 := keepS G5 k1 (o1 5 (by decide)); have A6 := (o1 6 (by decide)).trans G6
  refine wp_seq (wp_block (wp_seq (wp_seq (m6r11_0 sz _ (by kernel_rfl) _ _ _ Z1 A3 A4 A5 A6 ?_))))
  intro p2 x2 k2 d2 s2 o2 v2
  refine wp_cond_false v2 (wp_skip ?_)
  have Z2 := s2.trans Z1
  have B3 := keepB A3 k2 (o2 3 (by decide)); have B4 := keepS A4 k2 (o2 4 (by decide)); have B5 := keepS A5 k2 (o2 5 (by decide)); have B6 := (o2 6 (by decide)).trans A6
  refine wp_seq (m6r13_0 sz _ (by kernel_rfl) _ _ _ Z2 B3 B4 B6 ?_)
  intro p3 x3 k3 d3 s3 o3 v3
  refine wp_cond_false v3 (wp_skip ?_)
  have Z3 := s3.trans Z2
  have C3 := keepB B3 k3 (o3 3 (by decide)); have C4 := keepS B4 k3 (o3 4 (by decide)); have C5 := keepS B5 k3 (o3 5 (by decide)); have C6 := (o3 6 (by decide)).trans B6
  refine m6r10_0 sz _ (by kernel_rfl) _ _ _ Z3 C6 ?_
  intro b1 y1 k4 d4 s4 o4 v4
  have K1 : KpN w y1 := (((K0.trans k1).trans k2).trans k3).trans k4
  have D1 : b1.defers = [] := d4.trans (d3.trans (d2.trans (d1.trans D0)))
  have Y := s4.trans Z3
  have E3 := keepB C3 k4 (o4 3 (by decide)); have E4 := keepS C4 k4 (o4 4 (by decide)); have E5 := keepS C5 k4 (o4 5 (by decide)); have E6 : b1.tmps.getD 6 undef = .int .i64 1 := v4
  clear K0 D0 Z0 Z1 Z2 Z3 G3 G4 G5 G6 A3 A4 A5 A6 B3 B4 B5 B6 C3 C4 C5 C6 k1 k2 k3 k4 d1 d2 d3 d4 s1 s2 s3 s4 o1 o2 o3 o4 v1 v2 v3 v4
  have K0 := K1; have D0 := D1; have Z0 := Y; have G3 := E3; have G4 := E4; have G5 := E5; have G6 := E6
  clear K1 D1 Y E3 E4 E5 E6
  -- round 1
  refine wp_seq (wp_seq (m6r9_1 sz _ (by kernel_rfl) _ _ _ Z0 G4 G6 ?_))
  intro p1 x1 k1 d1 s1 o1 v1
  refine wp_cond_true v1 (wp_skip ?_)
  have Z1 := s1.trans Z0
  have A3 := keepB G3 k1 (o1 3 (by decide)); have A4 := keepS G4 k1 (o1 4 (by decide)); have A5 := keepS G5 k1 (o1 5 (by decide)); have A6 := (o1 6 (by decide)).trans G6
  refine wp_seq (wp_block (wp_seq (wp_seq (m6r11_1 sz _ (by kernel_rfl) _ _ _ Z1 A3 A4 A5 A6 ?_))))
  intro p2 x2 k2 d2 s2 o2 v2
  refine wp_cond_false v2 (wp_skip ?_)
  have Z2 := s2.trans Z1
  have B3 := keepB A3 k2 (o2 3 (by decide)); have B4 := keepS A4 k2 (o2 4 (by decide)); have B5 := keepS A5 k2 (o2 5 (by decide)); have B6 := (o2 6 (by decide)).trans A6
  refine wp_seq (m6r13_1 sz _ (by kernel_rfl) _ _ _ Z2 B3 B4 B6 ?_)
  intro p3 x3 k3 d3 s3 o3 v3
  refine wp_cond_false v3 (wp_skip ?_)
  have Z3 := s3.trans Z2
  have C3 := keepB B3 k3 (o3 3 (by decide)); have C4 := keepS B4 k3 (o3 4 (by decide)); have C5 := keepS B5 k3 (o3 5 (by decide)); have C6 := (o3 6 (by decide)).trans B6
  refine m6r10_1 sz _ (by kernel_rfl) _ _ _ Z3 C6 ?_
  intro b2 y2 k4 d4 s4 o4 v4
  have K2 : KpN w y2 := (((K0.trans k1).trans k2).trans k3).trans k4
  have D2 : b2.defers = [] := d4.trans (d3.trans (d2.trans (d1.trans D0)))
  have Y := s4.trans Z3
  have E3 := keepB C3 k4 (o4 3 (by decide)); have E4 := keepS C4 k4 (o4 4 (by decide)); have E5 := keepS C5 k4 (o4 5 (by decide)); have E6 : b2.tmps.getD 6 undef = .int .i64 2 := v4
  clear K0 D0 Z0 Z1 Z2 Z3 G3 G4 G5 G6 A3 A4 A5 A6 B3 B4 B5 B6 C3 C4 C5 C6 k1 k2 k3 k4 d1 d2 d3 d4 s1 s2 s3 s4 o1 o2 o3 o4 v1 v2 v3 v4
  have K0 := K2; have D0 := D2; have Z0 := Y; have G3 := E3; have G4 := E4; have G5 := E5; have G6 := E6
  clear K2 D2 Y E3 E4 E5 E6
  -- round 2
  refine wp_seq (wp_seq (m6r9_2 sz _ (by kernel_rfl) _ _ _ Z0 G4 G6 ?_))
  intro p1 x1 k1 d1 s1 o1 v1
  refine wp_cond_true v1 (wp_skip ?_)
  have Z1 := s1.trans Z0
  have A3 := keepB G3 k1 (o1 3 (by decide)); have A4 := keepS G4 k1 (o1 4 (by decide)); have A5 := keepS G5 k1 (o1 5 (by decide)); have A6 := (o1 6 (by decide)).trans G6
  refine wp_seq (wp_block (wp_seq (wp_seq (m6r11_2 sz _ (by kernel_rfl) _ _ _ Z1 A3 A4 A5 A6 ?_))))
  intro p2 x2 k2 d2 s2 o2 v2
  refine wp_cond_false v2 (wp_skip ?_)
  have Z2 := s2.trans Z1
  have B3 := keepB A3 k2 (o2 3 (by decide)); have B4 := keepS A4 k2 (o2 4 (by decide)); have B5 := keepS A5 k2 (o2 5 (by decide)); have B6 := (o2 6 (by decide)).trans A6
  refine wp_seq (m6r13_2 sz _ (by kernel_rfl) _ _ _ Z2 B3 B4 B6 ?_)
  intro p3 x3 k3 d3 s3 o3 v3
  refine wp_cond_false v3 (wp_skip ?_)
  have Z3 := s3.trans Z2
  have C3 := keepB B3 k3 (o3 3 (by decide)); have C4 := keepS B4 k3 (o3 4 (by decide)); have C5 := keepS B5 k3 (o3 5 (by decide)); have C6 := (o3 6 (by decide)).trans B6
  refine m6r10_2 sz _ (by kernel_rfl) _ _ _ Z3 C6 ?_
  intro b3 y3 k4 d4 s4 o4 v4
  have K3 : KpN w y3 := (((K0.trans k1).trans k2).trans k3).trans k4
  have D3 : b3.defers = [] := d4.trans (d3.trans (d2.trans (d1.trans D0)))
  have Y := s4.trans Z3
  have E3 := keepB C3 k4 (o4 3 (by decide)); have E4 := keepS C4 k4 (o4 4 (by decide)); have E5 := keepS C5 k4 (o4 5 (by decide)); have E6 : b3.tmps.getD 6 undef = .int .i64 3 := v4
  clear K0 D0 Z0 Z1 Z2 Z3 G3 G4 G5 G6 A3 A4 A5 A6 B3 B4 B5 B6 C3 C4 C5 C6 k1 k2 k3 k4 d1 d2 d3 d4 s1 s2 s3 s4 o1 o2 o3 o4 v1 v2 v3 v4
  have K0 := K3; have D0 := D3; have Z0 := Y; have G3 := E3; have G4 := E4; have G5 := E5; have G6 := E6
  clear K3 D3 Y E3 E4 E5 E6
  -- round 3
  refine wp_seq (wp_seq (m6r9_3 sz _ (by kernel_rfl) _ _ _ Z0 G4 G6 ?_))
  intro p1 x1 k1 d1 s1 o1 v1
  refine wp_cond_true v1 (wp_skip ?_)
  have Z1 := s1.trans Z0
  have A3 := keepB G3 k1 (o1 3 (by decide)); have A4 := keepS G4 k1 (o1 4 (by decide)); have A5 := keepS G5 k1 (o1 5 (by decide)); have A6 := (o1 6 (by decide)).trans G6
  refine wp_seq (wp_block (wp_seq (wp_seq (m6r11_3 sz _ (by kernel_rfl) _ _ _ Z1 A3 A4 A5 A6 ?_))))
  intro p2 x2 k2 d2 s2 o2 v2
  refine wp_cond_false v2 (wp_skip ?_)
  have Z2 := s2.trans Z1
  have B3 := keepB A3 k2 (o2 3 (by decide)); have B4 := keepS A4 k2 (o2 4 (by decide)); have B5 := keepS A5 k2 (o2 5 (by decide)); have B6 := (o2 6 (by decide)).trans A6
  refine wp_seq (m6r13_3 sz _ (by kernel_rfl) _ _ _ Z2 B3 B4 B6 ?_)
  intro p3 x3 k3 d3 s3 o3 v3
  refine wp_cond_false v3 (wp_skip ?_)
  have Z3 := s3.trans Z2
  have C3 := keepB B3 k3 (o3 3 (by decide)); have C4 := keepS B4 k3 (o3 4 (by decide)); have C5 := keepS B5 k3 (o3 5 (by decide)); have C6 := (o3 6 (by decide)).trans B6
  refine m6r10_3 sz _ (by kernel_rfl) _ _ _ Z3 C6 ?_
  intro b4 y4 k4 d4 s4 o4 v4
  have K4 : KpN w y4 := (((K0.trans k1).trans k2).trans k3).trans k4
  have D4 : b4.defers = [] := d4.trans (d3.trans (d2.trans (d1.trans D0)))
  have Y := s4.trans Z3
  have E3 := keepB C3 k4 (o4 3 (by decide)); have E4 := keepS C4 k4 (o4 4 (by decide)); have E5 := keepS C5 k4 (o4 5 (by decide)); have E6 : b4.tmps.getD 6 undef = .int .i64 4 := v4
  clear K0 D0 Z0 Z1 Z2 Z3 G3 G4 G5 G6 A3 A4 A5 A6 B3 B4 B5 B6 C3 C4 C5 C6 k1 k2 k3 k4 d1 d2 d3 d4 s1 s2 s3 s4 o1 o2 o3 o4 v1 v2 v3 v4
  have K0 := K4; have D0 := D4; have Z0 := Y; have G3 := E3; have G4 := E4; have G5 := E5; have G6 := E6
  clear K4 D4 Y E3 E4 E5 E6
  refine wp_seq (wp_seq (m6r9_4 sz _ (by kernel_rfl) _ _ _ Z0 G4 G6 ?_))
  intro p1 x1 k1 d1 s1 o1 v1
  refine wp_cond_false v1 (wp_exit ?_)
  have Z1 := s1.trans Z0
  have A3 := keepB G3 k1 (o1 3 (by decide))
  show (Code.seq _ _).wp _ _ p1 x1
  refine wp_seq (m6r15 sz _ (by kernel_rfl) _ _ _ Z1 A3 ?_)
  intro a z k dd v
  have hd : a.defers = [] := dd.trans (d1.trans D0)
  have hK : KpN w z := (K0.trans k1).trans k
  clear K0 D0 Z0 Z1 G3 G4 G5 G6 A3 k1 d1 s1 o1 v1 k dd
  show (Code.ret).wp _ _ _ _
  go_wp2
  refine bodyPost_ret (results_tmp rfl _ _ _) (by rw [hd]) ?_
  refine ⟨?_, hK.below⟩
  rw [v]
end Go.Proofs.Ytmhlellhfepkkaa.H
