/- fdt.cells: its region. -/
import Derived.Test.YtmhlellhfepkkaaHmc1
namespace Go.Proofs.Ytmhlellhfepkkaa.H
open Go.RowKit Go.Proofs.YtmhlellhfepkkaaW.PrintWords Go.Proofs.YtmhlellhfepkkaaW.PrintLast Go.Proofs.YtmhlellhfepkkaaW.PrintMore Go.Proofs.Ytmhlellhfepkkaa.PAl Go.Proofs.Ytmhlellhfepkkaa.B
set_option linter.unusedVariables false
set_option linter.unusedSimpArgs false
def cellsP (x y : Int) : List S74 := [⟨⟨#[35, 97, 100, 100, 114, 101, 115, 115, 45, 99, 101, 108, 108, 115]⟩, [x].flatMap w32⟩, ⟨⟨#[35, 115, 105, 122, 101, 45, 99, 101, 108, 108, 115]⟩, [y].flatMap w32⟩]
set_option maxHeartbeats 4000000 in
set_option maxRecDepth 100000 in
theorem m36r1 (x y : Int) (ops : Array Oper) (hops : ops = opsOf Try.f36 1) (a0 : Act) (w : World) (Q : Exit → Act → World → Prop) (hs : a0.tmps.size = 14) (h0 : a0.tmps.getD 0 undef = .int .u32 x) (h1 : a0.tmps.getD 1 undef = .int .u32 y)
    (hQ : ∀ a w', KpN w w' → a.defers = a0.defers → a.tmps.size = a0.tmps.size → SlF k74 w' (a.tmps.getD 4 undef) [⟨⟨#[35, 97, 100, 100, 114, 101, 115, 115, 45, 99, 101, 108, 108, 115]⟩, ([(x : Int)].flatMap w32)⟩, ⟨⟨#[35, 115, 105, 122, 101, 45, 99, 101, 108, 108, 115]⟩, ([(y : Int)].flatMap w32)⟩] → Q .normal a w') : (Code.region 1 ops false).wp Try.prog Q a0 w := by
  subst hops
  refine wp_slots false [5, 6, 7, 8, 9, 10, 11, 12, 13] [Stb.val (.int .u32 x), Stb.slF (Kd.int .u32) [(x : Int)], Stb.sl (Kd.int .u8) ([(x : Int)].flatMap w32), Stb.prop ⟨⟨#[35, 97, 100, 100, 114, 101, 115, 115, 45, 99, 101, 108, 108, 115]⟩, ([(x : Int)].flatMap w32)⟩, Stb.val (.int .u32 y), Stb.slF (Kd.int .u32) [(y : Int)], Stb.sl (Kd.int .u8) ([(y : Int)].flatMap w32), Stb.prop ⟨⟨#[35, 115, 105, 122, 101, 45, 99, 101, 108, 108, 115]⟩, ([(y : Int)].flatMap w32)⟩, Stb.slF k74 [⟨⟨#[35, 97, 100, 100, 114, 101, 115, 115, 45, 99, 101, 108, 108, 115]⟩, ([(x : Int)].flatMap w32)⟩, ⟨⟨#[35, 115, 105, 122, 101, 45, 99, 101, 108, 108, 115]⟩, ([(y : Int)].flatMap w32)⟩]] ((opsOf Try.f36 1).getD 9 default) (by kernel_rfl) (by rw [hs]; kernel_rfl) (by kernel_rfl) (by kernel_rfl) ?_ ?_
  · intro i o hi ho a W hW hA hdep
    rcases i with _ | _ | _ | _ | _ | _ | _ | _ | _ | i
    · obtain rfl := at_get ho
      exact gS_mv (wanted_none (by kernel_rfl) _) rfl _ ((ag_old hA (by decide)).trans h0) ⟨Kp.refl _ _, rfl⟩
    · obtain rfl := at_get ho
      have e0 : a.eval (.tmp 5) = .int .u32 x := hdep 0 (by decide) (by kernel_rfl)
      exact gS_bs (wanted_none (by kernel_rfl) _) rfl #[(0, .int .u32 x)] _ _ (by simp only [List.map_toArray, List.map_cons, List.map_nil]; rw [e0] <;> rfl) (bs37_1 W _) ⟨(Kp.refl _ _).alloc _, SlF.lit (d := Kd.int .u32) (l := [(x : Int)]) (inner := [.int .u32 x]) (reps_cons u32_sl rfl (Reps.none _ _)) (show (1 : Nat) ≤ 9223372036854775807 by decide) (.inl (by decide))⟩
    · obtain rfl := at_get ho
      obtain ⟨b0, e0, q0⟩ : SlF (Kd.int .u32) W (a.eval (.tmp 6)) [(x : Int)] := hdep 1 (by decide) (by kernel_rfl)
      refine gS_ca (wanted_none (by kernel_rfl) _) rfl Try.func18 (by kernel_rfl) rfl #[.slice (some b0) 1 1] (by simp only [List.map_toArray, List.map_cons, List.map_nil]; rw [e0] <;> rfl) ?_
      exact cells_m (l := [(x : Int)]) q0 (Nat.le_refl _) (show (1 : Nat) < 35184372088832 by decide)
    · obtain rfl := at_get ho
      obtain ⟨A0, c0, e0, l0, q0⟩ : Sl (Kd.int .u8) W (a.eval (.tmp 7)) ([(x : Int)].flatMap w32) := hdep 2 (by decide) (by kernel_rfl)
      exact gS_bd (wanted_none (by kernel_rfl) _) rfl #[(0, .string ⟨#[35, 97, 100, 100, 114, 101, 115, 115, 45, 99, 101, 108, 108, 115]⟩), (1, .slice A0 (([(x : Int)].flatMap w32)).length c0)] _ (by simp only [List.map_toArray, List.map_cons, List.map_nil]; rw [e0] <;> rfl) (bd74_2 W _ _ _ _) ⟨Kp.refl _ _, _, rfl, ⟨_, _, rfl, l0, q0⟩⟩
    · obtain rfl := at_get ho
      exact gS_mv (wanted_none (by kernel_rfl) _) rfl _ ((ag_old hA (by decide)).trans h1) ⟨Kp.refl _ _, rfl⟩
    · obtain rfl := at_get ho
      have e0 : a.eval (.tmp 9) = .int .u32 y := hdep 4 (by decide) (by kernel_rfl)
      exact gS_bs (wanted_none (by kernel_rfl) _) rfl #[(0, .int .u32 y)] _ _ (by simp only [List.map_toArray, List.map_cons, List.map_nil]; rw [e0] <;> rfl) (bs37_1 W _) ⟨(Kp.refl _ _).alloc _, SlF.lit (d := Kd.int .u32) (l := [(y : Int)]) (inner := [.int .u32 y]) (reps_cons u32_sl rfl (Reps.none _ _)) (show (1 : Nat) ≤ 9223372036854775807 by decide) (.inl (by decide))⟩
    · obtain rfl := at_get ho
      obtain ⟨b0, e0, q0⟩ : SlF (Kd.int .u32) W (a.eval (.tmp 10)) [(y : Int)] := hdep 5 (by decide) (by kernel_rfl)
      refine gS_ca (wanted_none (by kernel_rfl) _) rfl Try.func18 (by kernel_rfl) rfl #[.slice (some b0) 1 1] (by simp only [List.map_toArray, List.map_cons, List.map_nil]; rw [e0] <;> rfl) ?_
      exact cells_m (l := [(y : Int)]) q0 (Nat.le_refl _) (show (1 : Nat) < 35184372088832 by decide)
    · obtain rfl := at_get ho
      obtain ⟨A0, c0, e0, l0, q0⟩ : Sl (Kd.int .u8) W (a.eval (.tmp 11)) ([(y : Int)].flatMap w32) := hdep 6 (by decide) (by kernel_rfl)
      exact gS_bd (wanted_none (by kernel_rfl) _) rfl #[(0, .string ⟨#[35, 115, 105, 122, 101, 45, 99, 101, 108, 108, 115]⟩), (1, .slice A0 (([(y : Int)].flatMap w32)).length c0)] _ (by simp only [List.map_toArray, List.map_cons, List.map_nil]; rw [e0] <;> rfl) (bd74_2 W _ _ _ _) ⟨Kp.refl _ _, _, rfl, ⟨_, _, rfl, l0, q0⟩⟩
    · obtain rfl := at_get ho
      obtain ⟨_, e0, A0, c0, rfl, l0, q0⟩ : (Stb.prop ⟨⟨#[35, 97, 100, 100, 114, 101, 115, 115, 45, 99, 101, 108, 108, 115]⟩, ([(x : Int)].flatMap w32)⟩).p (a.eval (.tmp 8)) W := hdep 3 (by decide) (by kernel_rfl)
      obtain ⟨_, e1, A1, c1, rfl, l1, q1⟩ : (Stb.prop ⟨⟨#[35, 115, 105, 122, 101, 45, 99, 101, 108, 108, 115]⟩, ([(y : Int)].flatMap w32)⟩).p (a.eval (.tmp 12)) W := hdep 7 (by decide) (by kernel_rfl)
      exact gS_bs (wanted_none (by kernel_rfl) _) rfl #[(0, .agg #[.string (⟨⟨#[35, 97, 100, 100, 114, 101, 115, 115, 45, 99, 101, 108, 108, 115]⟩, ([(x : Int)].flatMap w32)⟩ : S74).f0, .slice A0 (⟨⟨#[35, 97, 100, 100, 114, 101, 115, 115, 45, 99, 101, 108, 108, 115]⟩, ([(x : Int)].flatMap w32)⟩ : S74).f1.length c0]), (1, .agg #[.string (⟨⟨#[35, 115, 105, 122, 101, 45, 99, 101, 108, 108, 115]⟩, ([(y : Int)].flatMap w32)⟩ : S74).f0, .slice A1 (⟨⟨#[35, 115, 105, 122, 101, 45, 99, 101, 108, 108, 115]⟩, ([(y : Int)].flatMap w32)⟩ : S74).f1.length c1])] _ _ (by simp only [List.map_toArray, List.map_cons, List.map_nil]; rw [e0, e1] <;> rfl) (bs29_2 W _ _ _ _ _ _ _ _) ⟨(Kp.refl _ _).alloc _, SlF.lit (d := k74) (l := [⟨⟨#[35, 97, 100, 100, 114, 101, 115, 115, 45, 99, 101, 108, 108, 115]⟩, ([(x : Int)].flatMap w32)⟩, ⟨⟨#[35, 115, 105, 122, 101, 45, 99, 101, 108, 108, 115]⟩, ([(y : Int)].flatMap w32)⟩]) (inner := [.string (⟨⟨#[35, 97, 100, 100, 114, 101, 115, 115, 45, 99, 101, 108, 108, 115]⟩, ([(x : Int)].flatMap w32)⟩ : S74).f0, .slice A0 (⟨⟨#[35, 97, 100, 100, 114, 101, 115, 115, 45, 99, 101, 108, 108, 115]⟩, ([(x : Int)].flatMap w32)⟩ : S74).f1.length c0, .string (⟨⟨#[35, 115, 105, 122, 101, 45, 99, 101, 108, 108, 115]⟩, ([(y : Int)].flatMap w32)⟩ : S74).f0, .slice A1 (⟨⟨#[35, 115, 105, 122, 101, 45, 99, 101, 108, 108, 115]⟩, ([(y : Int)].flatMap w32)⟩ : S74).f1.length c1]) (reps_cons (k74_sl ⟨_, _, rfl, l0, q0⟩) rfl (reps_cons (k74_sl ⟨_, _, rfl, l1, q1⟩) rfl (Reps.none _ _))) (show (2 : Nat) ≤ 9223372036854775807 by decide) (.inl (by decide))⟩
    · exact absurd hi (by simp only [List.length_cons, List.length_nil]; omega)
  · intro a W hW hdef hsz hold hR
    have hS : SlF k74 W (a.eval (.tmp 13)) [⟨⟨#[35, 97, 100, 100, 114, 101, 115, 115, 45, 99, 101, 108, 108, 115]⟩, ([(x : Int)].flatMap w32)⟩, ⟨⟨#[35, 115, 105, 122, 101, 45, 99, 101, 108, 108, 115]⟩, ([(y : Int)].flatMap w32)⟩] := hR 8 (by decide)
    refine wp_as rfl ?_
    refine hQ _ W hW hdef ((put_size _ _ _).trans hsz) ?_
    rw [show ((opsOf Try.f36 1).getD 9 default).dst = some 4 by kernel_rfl, put_same _ _ _ (by rw [hsz, hs]; decide)]
    exact hS
section
variable {P : Program} {Q : Exit → Act → World → Prop} {o : Oper} {a : Act} {w : World}
theorem reg_as {id : Nat} {x : Operand} (hg : o.guard = none) (ho : o.op = .assign x) (h : Q .normal (a.put o.dst (a.eval x)) w) : (Code.region id #[o] false).wp P Q a w :=
  wp_region_list (wpList_plain hg fun K hK => wp_as ho (hK _ _ h))
theorem reg_al {id : Nat} {t : TypeId} (hg : o.guard = none) (ho : o.op = .alloc t) (cs : Array Value) (hz : ∀ W, (zeroValue t).run P W = .ok (.agg cs) W) (h : ∀ g, g = w.heap.size → ∀ w1, w1.heap[g]? = some (.cells cs t (0, 0)) → KpN w w1 → Q .normal (a.put o.dst (.pointer (some ⟨g, 0, none⟩))) w1) : (Code.region id #[o] false).wp P Q a w :=
  wp_region_list (wpList_plain hg fun K hK => wp_al ho cs hz fun g hg w1 hb hk => hK _ _ (h g hg w1 hb hk))
end
set_option maxHeartbeats 1000000 in
set_option maxRecDepth 100000 in
theorem cells36_m (w : World) (x y : Int) : Calls Try.prog 36 #[.int .u32 x, .int .u32 y] w fun e w' => ∃ v, e = .returned v ∧ KpN w w' ∧ SlF k74 w' v (cellsP x y) := by
  go_enter Try.func36, Try.ntmps36
  refine wp_seq (reg_as rfl rfl ?_)
  refine wp_seq (m36r1 x y _ (by kernel_rfl) _ _ _ (by kernel_rfl) rfl rfl ?_)
  intro a w1 hk hdf hs hS
  have hd : a.defers = [] := hdf
  show (Code.ret).wp _ _ _ _
  go_wp2
  refine bodyPost_ret (results_tmp rfl _ _ _) (by rw [hd]) ?_
  exact ⟨_, rfl, hk, hS⟩
def n371_1 : S32 := ⟨⟨#[118, 105, 114, 116, 105, 111, 64, 49, 48, 48, 48, 49, 48, 48, 48]⟩, [⟨⟨#[99, 111, 109, 112, 97, 116, 105, 98, 108, 101]⟩, (textsOf [(⟨#[118, 105, 114, 116, 105, 111, 44, 109, 109, 105, 111]⟩ : ByteArray)])⟩, (regP 268439552 4096), ⟨⟨#[105, 110, 116, 101, 114, 114, 117, 112, 116, 45, 112, 97, 114, 101, 110, 116]⟩, ([(2 : Int)].flatMap w32)⟩, ⟨⟨#[105, 110, 116, 101, 114, 114, 117, 112, 116, 115]⟩, ([(1 : Int)].flatMap w32)⟩], []⟩

set_option maxHeartbeats 4000000 in
set_option maxRecDepth 100000 in
theorem m371r1 (ops : Array Oper) (hops : ops = opsOf Try.f37 1) (a0 : Act) (w : World) (Q : Exit → Act → World → Prop) (hs : a0.tmps.size = 23) (h0 : a0.tmps.getD 0 undef = .int .u64 268439552) (h1 : a0.tmps.getD 1 undef = .int .u32 1) (h4 : ∃ g_, a0.tmps.getD 4 undef = .pointer (some ⟨g_, 0, none⟩) ∧ True ∧ w.heap[g_]? = some (.cells z32c 32 (0, 0)))
    (hQ : ∀ a w' g_, a0.tmps.getD 4 undef = .pointer (some ⟨g_, 0, none⟩) → Kp w w' (fun i => i = g_) → a.defers = a0.defers → a.tmps.size = a0.tmps.size → (∀ s, s ∉ [5, 6, 7, 8, 9, 10, 11, 12, 13, 14, 15, 16, 17, 18, 19, 20, 21, 22] → a.tmps.getD s undef = a0.tmps.getD s undef) → ((a.tmps.getD 4 undef = .pointer (some ⟨g_, 0, none⟩)) ∧ NodeB w' g_ (n371_1)) → Q .normal a w') : (Code.region 1 ops true).wp Try.prog Q a0 w := by
  subst hops
  refine wp_slots true [5, 6, 7, 8, 9, 10, 11, 12, 13, 14, 15, 16, 17, 18, 19, 20, 21, 22] [Stb.val (.int .u64 268439552), Stb.val (.string ⟨#[48, 120, 49, 48, 48, 48, 49, 48, 48, 48]⟩), Stb.val (.string ⟨#[49, 48, 48, 48, 49, 48, 48, 48]⟩), Stb.val (.string ⟨#[118, 105, 114, 116, 105, 111, 64, 49, 48, 48, 48, 49, 48, 48, 48]⟩), Stb.slF Kd.string [(⟨#[118, 105, 114, 116, 105, 111, 44, 109, 109, 105, 111]⟩ : ByteArray)], Stb.sl (Kd.int .u8) (textsOf [(⟨#[118, 105, 114, 116, 105, 111, 44, 109, 109, 105, 111]⟩ : ByteArray)]), Stb.prop ⟨⟨#[99, 111, 109, 112, 97, 116, 105, 98, 108, 101]⟩, (textsOf [(⟨#[118, 105, 114, 116, 105, 111, 44, 109, 109, 105, 111]⟩ : ByteArray)])⟩, Stb.val (.int .u64 268439552), Stb.prop (regP 268439552 4096), Stb.slF (Kd.int .u32) [(2 : Int)], Stb.sl (Kd.int .u8) ([(2 : Int)].flatMap w32), Stb.prop ⟨⟨#[105, 110, 116, 101, 114, 114, 117, 112, 116, 45, 112, 97, 114, 101, 110, 116]⟩, ([(2 : Int)].flatMap w32)⟩, Stb.val (.int .u32 1), Stb.slF (Kd.int .u32) [(1 : Int)], Stb.sl (Kd.int .u8) ([(1 : Int)].flatMap w32), Stb.prop ⟨⟨#[105, 110, 116, 101, 114, 114, 117, 112, 116, 115]⟩, ([(1 : Int)].flatMap w32)⟩, Stb.slF k74 [⟨⟨#[99, 111, 109, 112, 97, 116, 105, 98, 108, 101]⟩, (textsOf [(⟨#[118, 105, 114, 116, 105, 111, 44, 109, 109, 105, 111]⟩ : ByteArray)])⟩, (regP 268439552 4096), ⟨⟨#[105, 110, 116, 101, 114, 114, 117, 112, 116, 45, 112, 97, 114, 101, 110, 116]⟩, ([(2 : Int)].flatMap w32)⟩, ⟨⟨#[105, 110, 116, 101, 114, 114, 117, 112, 116, 115]⟩, ([(1 : Int)].flatMap w32)⟩], Stb.node ⟨⟨#[118, 105, 114, 116, 105, 111, 64, 49, 48, 48, 48, 49, 48, 48, 48]⟩, [⟨⟨#[99, 111, 109, 112, 97, 116, 105, 98, 108, 101]⟩, (textsOf [(⟨#[118, 105, 114, 116, 105, 111, 44, 109, 109, 105, 111]⟩ : ByteArray)])⟩, (regP 268439552 4096), ⟨⟨#[105, 110, 116, 101, 114, 114, 117, 112, 116, 45, 112, 97, 114, 101, 110, 116]⟩, ([(2 : Int)].flatMap w32)⟩, ⟨⟨#[105, 110, 116, 101, 114, 114, 117, 112, 116, 115]⟩, ([(1 : Int)].flatMap w32)⟩], []⟩] ((opsOf Try.f37 1).getD 18 default) (by kernel_rfl) (by rw [hs]; kernel_rfl) (by kernel_rfl) (by kernel_rfl) ?_ ?_
  · intro i o hi ho a W hW hA hdep
    rcases i with _ | _ | _ | _ | _ | _ | _ | _ | _ | _ | _ | _ | _ | _ | _ | _ | _ | _ | i
    · obtain rfl := at_get ho
      exact gS_mv (wanted_none (by kernel_rfl) _) rfl _ ((ag_old hA (by decide)).trans h0) ⟨Kp.refl _ _, rfl⟩
    · obtain rfl := at_get ho
      have e0 : a.eval (.tmp 5) = .int .u64 268439552 := hdep 0 (by decide) (by kernel_rfl)
      refine gS_ca (wanted_none (by kernel_rfl) _) rfl Try.func34 (by kernel_rfl) rfl #[.int .u64 268439552] (by simp only [List.map_toArray, List.map_cons, List.map_nil]; rw [e0] <;> rfl) ?_
      exact hex_m W 30 268439552 (⟨#[48, 120, 49, 48, 48, 48, 49, 48, 48, 48]⟩ : ByteArray) (by kernel_rfl)
    · obtain rfl := at_get ho
      have e0 : a.eval (.tmp 6) = .string ⟨#[48, 120, 49, 48, 48, 48, 49, 48, 48, 48]⟩ := hdep 1 (by decide) (by kernel_rfl)
      exact gS_s2 (wanted_none (by kernel_rfl) _) rfl _ e0 (by decide) ⟨Kp.refl _ _, (by kernel_rfl : Value.string _ = _)⟩
    · obtain rfl := at_get ho
      have e0 : a.eval (.tmp 7) = .string ⟨#[49, 48, 48, 48, 49, 48, 48, 48]⟩ := hdep 2 (by decide) (by kernel_rfl)
      exact gS_bin (wanted_none (by kernel_rfl) _) rfl (.string ⟨#[118, 105, 114, 116, 105, 111, 64]⟩) _ (.string ⟨#[118, 105, 114, 116, 105, 111, 64, 49, 48, 48, 48, 49, 48, 48, 48]⟩) rfl e0 (by kernel_rfl) ⟨Kp.refl _ _, rfl⟩
    · obtain rfl := at_get ho
      exact gS_bs (wanted_none (by kernel_rfl) _) rfl #[(0, .string ⟨#[118, 105, 114, 116, 105, 111, 44, 109, 109, 105, 111]⟩)] _ _ (by simp only [List.map_toArray, List.map_cons, List.map_nil] <;> rfl) (bs38_1 W _) ⟨(Kp.refl _ _).alloc _, SlF.lit (d := Kd.string) (l := [(⟨#[118, 105, 114, 116, 105, 111, 44, 109, 109, 105, 111]⟩ : ByteArray)]) (inner := [.string ⟨#[118, 105, 114, 116, 105, 111, 44, 109, 109, 105, 111]⟩]) (reps_cons str_sl rfl (Reps.none _ _)) (show (1 : Nat) ≤ 9223372036854775807 by decide) (.inl (by decide))⟩
    · obtain rfl := at_get ho
      obtain ⟨b0, e0, q0⟩ : SlF Kd.string W (a.eval (.tmp 9)) [(⟨#[118, 105, 114, 116, 105, 111, 44, 109, 109, 105, 111]⟩ : ByteArray)] := hdep 4 (by decide) (by kernel_rfl)
      refine gS_ca (wanted_none (by kernel_rfl) _) rfl Try.func19 (by kernel_rfl) rfl #[.slice (some b0) 1 1] (by simp only [List.map_toArray, List.map_cons, List.map_nil]; rw [e0] <;> rfl) ?_
      exact texts_m (l := [(⟨#[118, 105, 114, 116, 105, 111, 44, 109, 109, 105, 111]⟩ : ByteArray)]) q0 (Nat.le_refl _) (of_decide_eq_true (by kernel_rfl))
    · obtain rfl := at_get ho
      obtain ⟨A0, c0, e0, l0, q0⟩ : Sl (Kd.int .u8) W (a.eval (.tmp 10)) (textsOf [(⟨#[118, 105, 114, 116, 105, 111, 44, 109, 109, 105, 111]⟩ : ByteArray)]) := hdep 5 (by decide) (by kernel_rfl)
      exact gS_bd (wanted_none (by kernel_rfl) _) rfl #[(0, .string ⟨#[99, 111, 109, 112, 97, 116, 105, 98, 108, 101]⟩), (1, .slice A0 ((textsOf [(⟨#[118, 105, 114, 116, 105, 111, 44, 109, 109, 105, 111]⟩ : ByteArray)])).length c0)] _ (by simp only [List.map_toArray, List.map_cons, List.map_nil]; rw [e0] <;> rfl) (bd74_2 W _ _ _ _) ⟨Kp.refl _ _, _, rfl, ⟨_, _, rfl, l0, q0⟩⟩
    · obtain rfl := at_get ho
      exact gS_mv (wanted_none (by kernel_rfl) _) rfl _ ((ag_old hA (by decide)).trans h0) ⟨Kp.refl _ _, rfl⟩
    · obtain rfl := at_get ho
      have e0 : a.eval (.tmp 12) = .int .u64 268439552 := hdep 7 (by decide) (by kernel_rfl)
      refine gS_ca (wanted_none (by kernel_rfl) _) rfl Try.func35 (by kernel_rfl) rfl #[.int .u64 268439552, .int .u64 4096] (by simp only [List.map_toArray, List.map_cons, List.map_nil]; rw [e0] <;> rfl) ?_
      exact reg_m W 268439552 4096
    · obtain rfl := at_get ho
      exact gS_bs (wanted_none (by kernel_rfl) _) rfl #[(0, .int .u32 2)] _ _ (by simp only [List.map_toArray, List.map_cons, List.map_nil] <;> rfl) (bs37_1 W _) ⟨(Kp.refl _ _).alloc _, SlF.lit (d := Kd.int .u32) (l := [(2 : Int)]) (inner := [.int .u32 2]) (reps_cons u32_sl rfl (Reps.none _ _)) (show (1 : Nat) ≤ 9223372036854775807 by decide) (.inl (by decide))⟩
    · obtain rfl := at_get ho
      obtain ⟨b0, e0, q0⟩ : SlF (Kd.int .u32) W (a.eval (.tmp 14)) [(2 : Int)] := hdep 9 (by decide) (by kernel_rfl)
      refine gS_ca (wanted_none (by kernel_rfl) _) rfl Try.func18 (by kernel_rfl) rfl #[.slice (some b0) 1 1] (by simp only [List.map_toArray, List.map_cons, List.map_nil]; rw [e0] <;> rfl) ?_
      exact cells_m (l := [(2 : Int)]) q0 (Nat.le_refl _) (show (1 : Nat) < 35184372088832 by decide)
    · obtain rfl := at_get ho
      obtain ⟨A0, c0, e0, l0, q0⟩ : Sl (Kd.int .u8) W (a.eval (.tmp 15)) ([(2 : Int)].flatMap w32) := hdep 10 (by decide) (by kernel_rfl)
      exact gS_bd (wanted_none (by kernel_rfl) _) rfl #[(0, .string ⟨#[105, 110, 116, 101, 114, 114, 117, 112, 116, 45, 112, 97, 114, 101, 110, 116]⟩), (1, .slice A0 (([(2 : Int)].flatMap w32)).length c0)] _ (by simp only [List.map_toArray, List.map_cons, List.map_nil]; rw [e0] <;> rfl) (bd74_2 W _ _ _ _) ⟨Kp.refl _ _, _, rfl, ⟨_, _, rfl, l0, q0⟩⟩
    · obtain rfl := at_get ho
      exact gS_mv (wanted_none (by kernel_rfl) _) rfl _ ((ag_old hA (by decide)).trans h1) ⟨Kp.refl _ _, rfl⟩
    · obtain rfl := at_get ho
      have e0 : a.eval (.tmp 17) = .int .u32 1 := hdep 12 (by decide) (by kernel_rfl)
      exact gS_bs (wanted_none (by kernel_rfl) _) rfl #[(0, .int .u32 1)] _ _ (by simp only [List.map_toArray, List.map_cons, List.map_nil]; rw [e0] <;> rfl) (bs37_1 W _) ⟨(Kp.refl _ _).alloc _, SlF.lit (d := Kd.int .u32) (l := [(1 : Int)]) (inner := [.int .u32 1]) (reps_cons u32_sl rfl (Reps.none _ _)) (show (1 : Nat) ≤ 9223372036854775807 by decide) (.inl (by decide))⟩
    · obtain rfl := at_get ho
      obtain ⟨b0, e0, q0⟩ : SlF (Kd.int .u32) W (a.eval (.tmp 18)) [(1 : Int)] := hdep 13 (by decide) (by kernel_rfl)
      refine gS_ca (wanted_none (by kernel_rfl) _) rfl Try.func18 (by kernel_rfl) rfl #[.slice (some b0) 1 1] (by simp only [List.map_toArray, List.map_cons, List.map_nil]; rw [e0] <;> rfl) ?_
      exact cells_m (l := [(1 : Int)]) q0 (Nat.le_refl _) (show (1 : Nat) < 35184372088832 by decide)
    · obtain rfl := at_get ho
      obtain ⟨A0, c0, e0, l0, q0⟩ : Sl (Kd.int .u8) W (a.eval (.tmp 19)) ([(1 : Int)].flatMap w32) := hdep 14 (by decide) (by kernel_rfl)
      exact gS_bd (wanted_none (by kernel_rfl) _) rfl #[(0, .string ⟨#[105, 110, 116, 101, 114, 114, 117, 112, 116, 115]⟩), (1, .slice A0 (([(1 : Int)].flatMap w32)).length c0)] _ (by simp only [List.map_toArray, List.map_cons, List.map_nil]; rw [e0] <;> rfl) (bd74_2 W _ _ _ _) ⟨Kp.refl _ _, _, rfl, ⟨_, _, rfl, l0, q0⟩⟩
    · obtain rfl := at_get ho
      obtain ⟨_, e0, A0, c0, rfl, l0, q0⟩ : (Stb.prop ⟨⟨#[99, 111, 109, 112, 97, 116, 105, 98, 108, 101]⟩, (textsOf [(⟨#[118, 105, 114, 116, 105, 111, 44, 109, 109, 105, 111]⟩ : ByteArray)])⟩).p (a.eval (.tmp 11)) W := hdep 6 (by decide) (by kernel_rfl)
      obtain ⟨_, e1, A1, c1, rfl, l1, q1⟩ : (Stb.prop (regP 268439552 4096)).p (a.eval (.tmp 13)) W := hdep 8 (by decide) (by kernel_rfl)
      obtain ⟨_, e2, A2, c2, rfl, l2, q2⟩ : (Stb.prop ⟨⟨#[105, 110, 116, 101, 114, 114, 117, 112, 116, 45, 112, 97, 114, 101, 110, 116]⟩, ([(2 : Int)].flatMap w32)⟩).p (a.eval (.tmp 16)) W := hdep 11 (by decide) (by kernel_rfl)
      obtain ⟨_, e3, A3, c3, rfl, l3, q3⟩ : (Stb.prop ⟨⟨#[105, 110, 116, 101, 114, 114, 117, 112, 116, 115]⟩, ([(1 : Int)].flatMap w32)⟩).p (a.eval (.tmp 20)) W := hdep 15 (by decide) (by kernel_rfl)
      exact gS_bs (wanted_none (by kernel_rfl) _) rfl #[(0, .agg #[.string (⟨⟨#[99, 111, 109, 112, 97, 116, 105, 98, 108, 101]⟩, (textsOf [(⟨#[118, 105, 114, 116, 105, 111, 44, 109, 109, 105, 111]⟩ : ByteArray)])⟩ : S74).f0, .slice A0 (⟨⟨#[99, 111, 109, 112, 97, 116, 105, 98, 108, 101]⟩, (textsOf [(⟨#[118, 105, 114, 116, 105, 111, 44, 109, 109, 105, 111]⟩ : ByteArray)])⟩ : S74).f1.length c0]), (1, .agg #[.string ((regP 268439552 4096) : S74).f0, .slice A1 ((regP 268439552 4096) : S74).f1.length c1]), (2, .agg #[.string (⟨⟨#[105, 110, 116, 101, 114, 114, 117, 112, 116, 45, 112, 97, 114, 101, 110, 116]⟩, ([(2 : Int)].flatMap w32)⟩ : S74).f0, .slice A2 (⟨⟨#[105, 110, 116, 101, 114, 114, 117, 112, 116, 45, 112, 97, 114, 101, 110, 116]⟩, ([(2 : Int)].flatMap w32)⟩ : S74).f1.length c2]), (3, .agg #[.string (⟨⟨#[105, 110, 116, 101, 114, 114, 117, 112, 116, 115]⟩, ([(1 : Int)].flatMap w32)⟩ : S74).f0, .slice A3 (⟨⟨#[105, 110, 116, 101, 114, 114, 117, 112, 116, 115]⟩, ([(1 : Int)].flatMap w32)⟩ : S74).f1.length c3])] _ _ (by simp only [List.map_toArray, List.map_cons, List.map_nil]; rw [e0, e1, e2, e3] <;> rfl) (bs29_4 W _ _ _ _ _ _ _ _ _ _ _ _ _ _ _ _) ⟨(Kp.refl _ _).alloc _, SlF.lit (d := k74) (l := [⟨⟨#[99, 111, 109, 112, 97, 116, 105, 98, 108, 101]⟩, (textsOf [(⟨#[118, 105, 114, 116, 105, 111, 44, 109, 109, 105, 111]⟩ : ByteArray)])⟩, (regP 268439552 4096), ⟨⟨#[105, 110, 116, 101, 114, 114, 117, 112, 116, 45, 112, 97, 114, 101, 110, 116]⟩, ([(2 : Int)].flatMap w32)⟩, ⟨⟨#[105, 110, 116, 101, 114, 114, 117, 112, 116, 115]⟩, ([(1 : Int)].flatMap w32)⟩]) (inner := [.string (⟨⟨#[99, 111, 109, 112, 97, 116, 105, 98, 108, 101]⟩, (textsOf [(⟨#[118, 105, 114, 116, 105, 111, 44, 109, 109, 105, 111]⟩ : ByteArray)])⟩ : S74).f0, .slice A0 (⟨⟨#[99, 111, 109, 112, 97, 116, 105, 98, 108, 101]⟩, (textsOf [(⟨#[118, 105, 114, 116, 105, 111, 44, 109, 109, 105, 111]⟩ : ByteArray)])⟩ : S74).f1.length c0, .string ((regP 268439552 4096) : S74).f0, .slice A1 ((regP 268439552 4096) : S74).f1.length c1, .string (⟨⟨#[105, 110, 116, 101, 114, 114, 117, 112, 116, 45, 112, 97, 114, 101, 110, 116]⟩, ([(2 : Int)].flatMap w32)⟩ : S74).f0, .slice A2 (⟨⟨#[105, 110, 116, 101, 114, 114, 117, 112, 116, 45, 112, 97, 114, 101, 110, 116]⟩, ([(2 : Int)].flatMap w32)⟩ : S74).f1.length c2, .string (⟨⟨#[105, 110, 116, 101, 114, 114, 117, 112, 116, 115]⟩, ([(1 : Int)].flatMap w32)⟩ : S74).f0, .slice A3 (⟨⟨#[105, 110, 116, 101, 114, 114, 117, 112, 116, 115]⟩, ([(1 : Int)].flatMap w32)⟩ : S74).f1.length c3]) (reps_cons (k74_sl ⟨_, _, rfl, l0, q0⟩) rfl (reps_cons (k74_sl ⟨_, _, rfl, l1, q1⟩) rfl (reps_cons (k74_sl ⟨_, _, rfl, l2, q2⟩) rfl (reps_cons (k74_sl ⟨_, _, rfl, l3, q3⟩) rfl (Reps.none _ _))))) (show (4 : Nat) ≤ 9223372036854775807 by decide) (.inl (by decide))⟩
    · obtain rfl := at_get ho
      have e0 : a.eval (.tmp 8) = .string ⟨#[118, 105, 114, 116, 105, 111, 64, 49, 48, 48, 48, 49, 48, 48, 48]⟩ := hdep 3 (by decide) (by kernel_rfl)
      obtain ⟨b1, e1, q1⟩ : SlF k74 W (a.eval (.tmp 21)) [⟨⟨#[99, 111, 109, 112, 97, 116, 105, 98, 108, 101]⟩, (textsOf [(⟨#[118, 105, 114, 116, 105, 111, 44, 109, 109, 105, 111]⟩ : ByteArray)])⟩, (regP 268439552 4096), ⟨⟨#[105, 110, 116, 101, 114, 114, 117, 112, 116, 45, 112, 97, 114, 101, 110, 116]⟩, ([(2 : Int)].flatMap w32)⟩, ⟨⟨#[105, 110, 116, 101, 114, 114, 117, 112, 116, 115]⟩, ([(1 : Int)].flatMap w32)⟩] := hdep 16 (by decide) (by kernel_rfl)
      exact gS_bd (wanted_none (by kernel_rfl) _) rfl #[(0, .string ⟨#[118, 105, 114, 116, 105, 111, 64, 49, 48, 48, 48, 49, 48, 48, 48]⟩), (1, .slice (some b1) 4 4)] _ (by simp only [List.map_toArray, List.map_cons, List.map_nil]; rw [e0, e1] <;> rfl) (bd32_01 W _ _ _ _) ⟨Kp.refl _ _, _, _, rfl, ⟨_, _, rfl, Nat.le_refl _, q1⟩, Sl.nil⟩
    · exact absurd hi (by simp only [List.length_cons, List.length_nil]; omega)
  · intro a W hW hdef hsz hold hR
    obtain ⟨g_, p0_, hge0, hb0⟩ := h4
    have p_ : a.eval (.tmp 4) = .pointer (some ⟨g_, 0, none⟩) := (hold 4 (by decide)).trans p0_
    have hb := (hW.block g_ (blk_lt hb0) (fun h => h)).trans hb0
    obtain ⟨u1, u2, e_, s1, s2⟩ : NodeV W (a.eval (.tmp 22)) (n371_1) := hR 17 (by decide)
    refine wp_st rfl (by kernel_rfl) g_ #[.string (n371_1).f0, u1, u2] z32c 32 p_ e_ hb (by kernel_rfl) rfl (one3 _ s1.one s2.one) fun w1 hb1 hk1 => ?_
    have hM := Mv.store hk1 hb
    exact hQ a w1 g_ p0_ ((hW.mono fun _ _ h => h.elim).trans hk1) hdef hsz (fun s hs => hold s hs) ⟨p_, u1, u2, hb1, s1.mv hM, s2.mv hM⟩
set_option maxHeartbeats 1000000 in
set_option maxRecDepth 100000 in
theorem dev1_m (w : World) : Calls Try.prog 37 #[.int .u64 268439552, .int .u32 1] w fun e w' => ∃ v, e = .returned v ∧ KpN w w' ∧ NodeV w' v n371_1 := by
  go_enter Try.func37, Try.ntmps37
  refine wp_seq (reg_al rfl rfl z32c zero32c ?_)
  intro g hg w1 hb hk
  refine wp_seq (m371r1 _ (by kernel_rfl) _ _ _ (by kernel_rfl) rfl rfl ⟨g, rfl, trivial, hb⟩ ?_)
  intro a w2 g2 e2 hk2 hdf hs hold h
  obtain ⟨p, u1, u2, hb2, s1, s2⟩ := h
  have eg : g = g2 := by injection e2 with e2; injection e2 with e2; injection e2
  have hd : a.defers = [] := hdf
  show (Code.ret).wp _ _ _ _
  go_wp2
  refine bodyPost_ret (results_cell_row rfl _ _ g2 32 _ (0, 0) _ p hb2 Try.underlying32 rfl (by kernel_rfl)) (by rw [hd]) ?_
  exact ⟨_, rfl, hk.then hk2 (fun i hi e => by omega), _, _, rfl, s1, s2⟩
def n372_1 : S32 := ⟨⟨#[118, 105, 114, 116, 105, 111, 64, 49, 48, 48, 48, 50, 48, 48, 48]⟩, [⟨⟨#[99, 111, 109, 112, 97, 116, 105, 98, 108, 101]⟩, (textsOf [(⟨#[118, 105, 114, 116, 105, 111, 44, 109, 109, 105, 111]⟩ : ByteArray)])⟩, (regP 268443648 4096), ⟨⟨#[105, 110, 116, 101, 114, 114, 117, 112, 116, 45, 112, 97, 114, 101, 110, 116]⟩, ([(2 : Int)].flatMap w32)⟩, ⟨⟨#[105, 110, 116, 101, 114, 114, 117, 112, 116, 115]⟩, ([(2 : Int)].flatMap w32)⟩], []⟩

set_option maxHeartbeats 4000000 in
set_option maxRecDepth 100000 in
theorem m372r1 (ops : Array Oper) (hops : ops = opsOf Try.f37 1) (a0 : Act) (w : World) (Q : Exit → Act → World → Prop) (hs : a0.tmps.size = 23) (h0 : a0.tmps.getD 0 undef = .int .u64 268443648) (h1 : a0.tmps.getD 1 undef = .int .u32 2) (h4 : ∃ g_, a0.tmps.getD 4 undef = .pointer (some ⟨g_, 0, none⟩) ∧ True ∧ w.heap[g_]? = some (.cells z32c 32 (0, 0)))
    (hQ : ∀ a w' g_, a0.tmps.getD 4 undef = .pointer (some ⟨g_, 0, none⟩) → Kp w w' (fun i => i = g_) → a.defers = a0.defers → a.tmps.size = a0.tmps.size → (∀ s, s ∉ [5, 6, 7, 8, 9, 10, 11, 12, 13, 14, 15, 16, 17, 18, 19, 20, 21, 22] → a.tmps.getD s undef = a0.tmps.getD s undef) → ((a.tmps.getD 4 undef = .pointer (some ⟨g_, 0, none⟩)) ∧ NodeB w' g_ (n372_1)) → Q .normal a w') : (Code.region 1 ops true).wp Try.prog Q a0 w := by
  subst hops
  refine wp_slots true [5, 6, 7, 8, 9, 10, 11, 12, 13, 14, 15, 16, 17, 18, 19, 20, 21, 22] [Stb.val (.int .u64 268443648), Stb.val (.string ⟨#[48, 120, 49, 48, 48, 48, 50, 48, 48, 48]⟩), Stb.val (.string ⟨#[49, 48, 48, 48, 50, 48, 48, 48]⟩), Stb.val (.string ⟨#[118, 105, 114, 116, 105, 111, 64, 49, 48, 48, 48, 50, 48, 48, 48]⟩), Stb.slF Kd.string [(⟨#[118, 105, 114, 116, 105, 111, 44, 109, 109, 105, 111]⟩ : ByteArray)], Stb.sl (Kd.int .u8) (textsOf [(⟨#[118, 105, 114, 116, 105, 111, 44, 109, 109, 105, 111]⟩ : ByteArray)]), Stb.prop ⟨⟨#[99, 111, 109, 112, 97, 116, 105, 98, 108, 101]⟩, (textsOf [(⟨#[118, 105, 114, 116, 105, 111, 44, 109, 109, 105, 111]⟩ : ByteArray)])⟩, Stb.val (.int .u64 268443648), Stb.prop (regP 268443648 4096), Stb.slF (Kd.int .u32) [(2 : Int)], Stb.sl (Kd.int .u8) ([(2 : Int)].flatMap w32), Stb.prop ⟨⟨#[105, 110, 116, 101, 114, 114, 117, 112, 116, 45, 112, 97, 114, 101, 110, 116]⟩, ([(2 : Int)].flatMap w32)⟩, Stb.val (.int .u32 2), Stb.slF (Kd.int .u32) [(2 : Int)], Stb.sl (Kd.int .u8) ([(2 : Int)].flatMap w32), Stb.prop ⟨⟨#[105, 110, 116, 101, 114, 114, 117, 112, 116, 115]⟩, ([(2 : Int)].flatMap w32)⟩, Stb.slF k74 [⟨⟨#[99, 111, 109, 112, 97, 116, 105, 98, 108, 101]⟩, (textsOf [(⟨#[118, 105, 114, 116, 105, 111, 44, 109, 109, 105, 111]⟩ : ByteArray)])⟩, (regP 268443648 4096), ⟨⟨#[105, 110, 116, 101, 114, 114, 117, 112, 116, 45, 112, 97, 114, 101, 110, 116]⟩, ([(2 : Int)].flatMap w32)⟩, ⟨⟨#[105, 110, 116, 101, 114, 114, 117, 112, 116, 115]⟩, ([(2 : Int)].flatMap w32)⟩], Stb.node ⟨⟨#[118, 105, 114, 116, 105, 111, 64, 49, 48, 48, 48, 50, 48, 48, 48]⟩, [⟨⟨#[99, 111, 109, 112, 97, 116, 105, 98, 108, 101]⟩, (textsOf [(⟨#[118, 105, 114, 116, 105, 111, 44, 109, 109, 105, 111]⟩ : ByteArray)])⟩, (regP 268443648 4096), ⟨⟨#[105, 110, 116, 101, 114, 114, 117, 112, 116, 45, 112, 97, 114, 101, 110, 116]⟩, ([(2 : Int)].flatMap w32)⟩, ⟨⟨#[105, 110, 116, 101, 114, 114, 117, 112, 116, 115]⟩, ([(2 : Int)].flatMap w32)⟩], []⟩] ((opsOf Try.f37 1).getD 18 default) (by kernel_rfl) (by rw [hs]; kernel_rfl) (by kernel_rfl) (by kernel_rfl) ?_ ?_
  · intro i o hi ho a W hW hA hdep
    rcases i with _ | _ | _ | _ | _ | _ | _ | _ | _ | _ | _ | _ | _ | _ | _ | _ | _ | _ | i
    · obtain rfl := at_get ho
      exact gS_mv (wanted_none (by kernel_rfl) _) rfl _ ((ag_old hA (by decide)).trans h0) ⟨Kp.refl _ _, rfl⟩
    · obtain rfl := at_get ho
      have e0 : a.eval (.tmp 5) = .int .u64 268443648 := hdep 0 (by decide) (by kernel_rfl)
      refine gS_ca (wanted_none (by kernel_rfl) _) rfl Try.func34 (by kernel_rfl) rfl #[.int .u64 268443648] (by simp only [List.map_toArray, List.map_cons, List.map_nil]; rw [e0] <;> rfl) ?_
      exact hex_m W 30 268443648 (⟨#[48, 120, 49, 48, 48, 48, 50, 48, 48, 48]⟩ : ByteArray) (by kernel_rfl)
    · obtain rfl := at_get ho
      have e0 : a.eval (.tmp 6) = .string ⟨#[48, 120, 49, 48, 48, 48, 50, 48, 48, 48]⟩ := hdep 1 (by decide) (by kernel_rfl)
      exact gS_s2 (wanted_none (by kernel_rfl) _) rfl _ e0 (by decide) ⟨Kp.refl _ _, (by kernel_rfl : Value.string _ = _)⟩
    · obtain rfl := at_get ho
      have e0 : a.eval (.tmp 7) = .string ⟨#[49, 48, 48, 48, 50, 48, 48, 48]⟩ := hdep 2 (by decide) (by kernel_rfl)
      exact gS_bin (wanted_none (by kernel_rfl) _) rfl (.string ⟨#[118, 105, 114, 116, 105, 111, 64]⟩) _ (.string ⟨#[118, 105, 114, 116, 105, 111, 64, 49, 48, 48, 48, 50, 48, 48, 48]⟩) rfl e0 (by kernel_rfl) ⟨Kp.refl _ _, rfl⟩
    · obtain rfl := at_get ho
      exact gS_bs (wanted_none (by kernel_rfl) _) rfl #[(0, .string ⟨#[118, 105, 114, 116, 105, 111, 44, 109, 109, 105, 111]⟩)] _ _ (by simp only [List.map_toArray, List.map_cons, List.map_nil] <;> rfl) (bs38_1 W _) ⟨(Kp.refl _ _).alloc _, SlF.lit (d := Kd.string) (l := [(⟨#[118, 105, 114, 116, 105, 111, 44, 109, 109, 105, 111]⟩ : ByteArray)]) (inner := [.string ⟨#[118, 105, 114, 116, 105, 111, 44, 109, 109, 105, 111]⟩]) (reps_cons str_sl rfl (Reps.none _ _)) (show (1 : Nat) ≤ 9223372036854775807 by decide) (.inl (by decide))⟩
    · obtain rfl := at_get ho
      obtain ⟨b0, e0, q0⟩ : SlF Kd.string W (a.eval (.tmp 9)) [(⟨#[118, 105, 114, 116, 105, 111, 44, 109, 109, 105, 111]⟩ : ByteArray)] := hdep 4 (by decide) (by kernel_rfl)
      refine gS_ca (wanted_none (by kernel_rfl) _) rfl Try.func19 (by kernel_rfl) rfl #[.slice (some b0) 1 1] (by simp only [List.map_toArray, List.map_cons, List.map_nil]; rw [e0] <;> rfl) ?_
      exact texts_m (l := [(⟨#[118, 105, 114, 116, 105, 111, 44, 109, 109, 105, 111]⟩ : ByteArray)]) q0 (Nat.le_refl _) (of_decide_eq_true (by kernel_rfl))
    · obtain rfl := at_get ho
      obtain ⟨A0, c0, e0, l0, q0⟩ : Sl (Kd.int .u8) W (a.eval (.tmp 10)) (textsOf [(⟨#[118, 105, 114, 116, 105, 111, 44, 109, 109, 105, 111]⟩ : ByteArray)]) := hdep 5 (by decide) (by kernel_rfl)
      exact gS_bd (wanted_none (by kernel_rfl) _) rfl #[(0, .string ⟨#[99, 111, 109, 112, 97, 116, 105, 98, 108, 101]⟩), (1, .slice A0 ((textsOf [(⟨#[118, 105, 114, 116, 105, 111, 44, 109, 109, 105, 111]⟩ : ByteArray)])).length c0)] _ (by simp only [List.map_toArray, List.map_cons, List.map_nil]; rw [e0] <;> rfl) (bd74_2 W _ _ _ _) ⟨Kp.refl _ _, _, rfl, ⟨_, _, rfl, l0, q0⟩⟩
    · obtain rfl := at_get ho
      exact gS_mv (wanted_none (by kernel_rfl) _) rfl _ ((ag_old hA (by decide)).trans h0) ⟨Kp.refl _ _, rfl⟩
    · obtain rfl := at_get ho
      have e0 : a.eval (.tmp 12) = .int .u64 268443648 := hdep 7 (by decide) (by kernel_rfl)
      refine gS_ca (wanted_none (by kernel_rfl) _) rfl Try.func35 (by kernel_rfl) rfl #[.int .u64 268443648, .int .u64 4096] (by simp only [List.map_toArray, List.map_cons, List.map_nil]; rw [e0] <;> rfl) ?_
      exact reg_m W 268443648 4096
    · obtain rfl := at_get ho
      exact gS_bs (wanted_none (by kernel_rfl) _) rfl #[(0, .int .u32 2)] _ _ (by simp only [List.map_toArray, List.map_cons, List.map_nil] <;> rfl) (bs37_1 W _) ⟨(Kp.refl _ _).alloc _, SlF.lit (d := Kd.int .u32) (l := [(2 : Int)]) (inner := [.int .u32 2]) (reps_cons u32_sl rfl (Reps.none _ _)) (show (1 : Nat) ≤ 9223372036854775807 by decide) (.inl (by decide))⟩
    · obtain rfl := at_get ho
      obtain ⟨b0, e0, q0⟩ : SlF (Kd.int .u32) W (a.eval (.tmp 14)) [(2 : Int)] := hdep 9 (by decide) (by kernel_rfl)
      refine gS_ca (wanted_none (by kernel_rfl) _) rfl Try.func18 (by kernel_rfl) rfl #[.slice (some b0) 1 1] (by simp only [List.map_toArray, List.map_cons, List.map_nil]; rw [e0] <;> rfl) ?_
      exact cells_m (l := [(2 : Int)]) q0 (Nat.le_refl _) (show (1 : Nat) < 35184372088832 by decide)
    · obtain rfl := at_get ho
      obtain ⟨A0, c0, e0, l0, q0⟩ : Sl (Kd.int .u8) W (a.eval (.tmp 15)) ([(2 : Int)].flatMap w32) := hdep 10 (by decide) (by kernel_rfl)
      exact gS_bd (wanted_none (by kernel_rfl) _) rfl #[(0, .string ⟨#[105, 110, 116, 101, 114, 114, 117, 112, 116, 45, 112, 97, 114, 101, 110, 116]⟩), (1, .slice A0 (([(2 : Int)].flatMap w32)).length c0)] _ (by simp only [List.map_toArray, List.map_cons, List.map_nil]; rw [e0] <;> rfl) (bd74_2 W _ _ _ _) ⟨Kp.refl _ _, _, rfl, ⟨_, _, rfl, l0, q0⟩⟩
    · obtain rfl := at_get ho
      exact gS_mv (wanted_none (by kernel_rfl) _) rfl _ ((ag_old hA (by decide)).trans h1) ⟨Kp.refl _ _, rfl⟩
    · obtain rfl := at_get ho
      have e0 : a.eval (.tmp 17) = .int .u32 2 := hdep 12 (by decide) (by kernel_rfl)
      exact gS_bs (wanted_none (by kernel_rfl) _) rfl #[(0, .int .u32 2)] _ _ (by simp only [List.map_toArray, List.map_cons, List.map_nil]; rw [e0] <;> rfl) (bs37_1 W _) ⟨(Kp.refl _ _).alloc _, SlF.lit (d := Kd.int .u32) (l := [(2 : Int)]) (inner := [.int .u32 2]) (reps_cons u32_sl rfl (Reps.none _ _)) (show (1 : Nat) ≤ 9223372036854775807 by decide) (.inl (by decide))⟩
    · obtain rfl := at_get ho
      obtain ⟨b0, e0, q0⟩ : SlF (Kd.int .u32) W (a.eval (.tmp 18)) [(2 : Int)] := hdep 13 (by decide) (by kernel_rfl)
      refine gS_ca (wanted_none (by kernel_rfl) _) rfl Try.func18 (by kernel_rfl) rfl #[.slice (some b0) 1 1] (by simp only [List.map_toArray, List.map_cons, List.map_nil]; rw [e0] <;> rfl) ?_
      exact cells_m (l := [(2 : Int)]) q0 (Nat.le_refl _) (show (1 : Nat) < 35184372088832 by decide)
    · obtain rfl := at_get ho
      obtain ⟨A0, c0, e0, l0, q0⟩ : Sl (Kd.int .u8) W (a.eval (.tmp 19)) ([(2 : Int)].flatMap w32) := hdep 14 (by decide) (by kernel_rfl)
      exact gS_bd (wanted_none (by kernel_rfl) _) rfl #[(0, .string ⟨#[105, 110, 116, 101, 114, 114, 117, 112, 116, 115]⟩), (1, .slice A0 (([(2 : Int)].flatMap w32)).length c0)] _ (by simp only [List.map_toArray, List.map_cons, List.map_nil]; rw [e0] <;> rfl) (bd74_2 W _ _ _ _) ⟨Kp.refl _ _, _, rfl, ⟨_, _, rfl, l0, q0⟩⟩
    · obtain rfl := at_get ho
      obtain ⟨_, e0, A0, c0, rfl, l0, q0⟩ : (Stb.prop ⟨⟨#[99, 111, 109, 112, 97, 116, 105, 98, 108, 101]⟩, (textsOf [(⟨#[118, 105, 114, 116, 105, 111, 44, 109, 109, 105, 111]⟩ : ByteArray)])⟩).p (a.eval (.tmp 11)) W := hdep 6 (by decide) (by kernel_rfl)
      obtain ⟨_, e1, A1, c1, rfl, l1, q1⟩ : (Stb.prop (regP 268443648 4096)).p (a.eval (.tmp 13)) W := hdep 8 (by decide) (by kernel_rfl)
      obtain ⟨_, e2, A2, c2, rfl, l2, q2⟩ : (Stb.prop ⟨⟨#[105, 110, 116, 101, 114, 114, 117, 112, 116, 45, 112, 97, 114, 101, 110, 116]⟩, ([(2 : Int)].flatMap w32)⟩).p (a.eval (.tmp 16)) W := hdep 11 (by decide) (by kernel_rfl)
      obtain ⟨_, e3, A3, c3, rfl, l3, q3⟩ : (Stb.prop ⟨⟨#[105, 110, 116, 101, 114, 114, 117, 112, 116, 115]⟩, ([(2 : Int)].flatMap w32)⟩).p (a.eval (.tmp 20)) W := hdep 15 (by decide) (by kernel_rfl)
      exact gS_bs (wanted_none (by kernel_rfl) _) rfl #[(0, .agg #[.string (⟨⟨#[99, 111, 109, 112, 97, 116, 105, 98, 108, 101]⟩, (textsOf [(⟨#[118, 105, 114, 116, 105, 111, 44, 109, 109, 105, 111]⟩ : ByteArray)])⟩ : S74).f0, .slice A0 (⟨⟨#[99, 111, 109, 112, 97, 116, 105, 98, 108, 101]⟩, (textsOf [(⟨#[118, 105, 114, 116, 105, 111, 44, 109, 109, 105, 111]⟩ : ByteArray)])⟩ : S74).f1.length c0]), (1, .agg #[.string ((regP 268443648 4096) : S74).f0, .slice A1 ((regP 268443648 4096) : S74).f1.length c1]), (2, .agg #[.string (⟨⟨#[105, 110, 116, 101, 114, 114, 117, 112, 116, 45, 112, 97, 114, 101, 110, 116]⟩, ([(2 : Int)].flatMap w32)⟩ : S74).f0, .slice A2 (⟨⟨#[105, 110, 116, 101, 114, 114, 117, 112, 116, 45, 112, 97, 114, 101, 110, 116]⟩, ([(2 : Int)].flatMap w32)⟩ : S74).f1.length c2]), (3, .agg #[.string (⟨⟨#[105, 110, 116, 101, 114, 114, 117, 112, 116, 115]⟩, ([(2 : Int)].flatMap w32)⟩ : S74).f0, .slice A3 (⟨⟨#[105, 110, 116, 101, 114, 114, 117, 112, 116, 115]⟩, ([(2 : Int)].flatMap w32)⟩ : S74).f1.length c3])] _ _ (by simp only [List.map_toArray, List.map_cons, List.map_nil]; rw [e0, e1, e2, e3] <;> rfl) (bs29_4 W _ _ _ _ _ _ _ _ _ _ _ _ _ _ _ _) ⟨(Kp.refl _ _).alloc _, SlF.lit (d := k74) (l := [⟨⟨#[99, 111, 109, 112, 97, 116, 105, 98, 108, 101]⟩, (textsOf [(⟨#[118, 105, 114, 116, 105, 111, 44, 109, 109, 105, 111]⟩ : ByteArray)])⟩, (regP 268443648 4096), ⟨⟨#[105, 110, 116, 101, 114, 114, 117, 112, 116, 45, 112, 97, 114, 101, 110, 116]⟩, ([(2 : Int)].flatMap w32)⟩, ⟨⟨#[105, 110, 116, 101, 114, 114, 117, 112, 116, 115]⟩, ([(2 : Int)].flatMap w32)⟩]) (inner := [.string (⟨⟨#[99, 111, 109, 112, 97, 116, 105, 98, 108, 101]⟩, (textsOf [(⟨#[118, 105, 114, 116, 105, 111, 44, 109, 109, 105, 111]⟩ : ByteArray)])⟩ : S74).f0, .slice A0 (⟨⟨#[99, 111, 109, 112, 97, 116, 105, 98, 108, 101]⟩, (textsOf [(⟨#[118, 105, 114, 116, 105, 111, 44, 109, 109, 105, 111]⟩ : ByteArray)])⟩ : S74).f1.length c0, .string ((regP 268443648 4096) : S74).f0, .slice A1 ((regP 268443648 4096) : S74).f1.length c1, .string (⟨⟨#[105, 110, 116, 101, 114, 114, 117, 112, 116, 45, 112, 97, 114, 101, 110, 116]⟩, ([(2 : Int)].flatMap w32)⟩ : S74).f0, .slice A2 (⟨⟨#[105, 110, 116, 101, 114, 114, 117, 112, 116, 45, 112, 97, 114, 101, 110, 116]⟩, ([(2 : Int)].flatMap w32)⟩ : S74).f1.length c2, .string (⟨⟨#[105, 110, 116, 101, 114, 114, 117, 112, 116, 115]⟩, ([(2 : Int)].flatMap w32)⟩ : S74).f0, .slice A3 (⟨⟨#[105, 110, 116, 101, 114, 114, 117, 112, 116, 115]⟩, ([(2 : Int)].flatMap w32)⟩ : S74).f1.length c3]) (reps_cons (k74_sl ⟨_, _, rfl, l0, q0⟩) rfl (reps_cons (k74_sl ⟨_, _, rfl, l1, q1⟩) rfl (reps_cons (k74_sl ⟨_, _, rfl, l2, q2⟩) rfl (reps_cons (k74_sl ⟨_, _, rfl, l3, q3⟩) rfl (Reps.none _ _))))) (show (4 : Nat) ≤ 9223372036854775807 by decide) (.inl (by decide))⟩
    · obtain rfl := at_get ho
      have e0 : a.eval (.tmp 8) = .string ⟨#[118, 105, 114, 116, 105, 111, 64, 49, 48, 48, 48, 50, 48, 48, 48]⟩ := hdep 3 (by decide) (by kernel_rfl)
      obtain ⟨b1, e1, q1⟩ : SlF k74 W (a.eval (.tmp 21)) [⟨⟨#[99, 111, 109, 112, 97, 116, 105, 98, 108, 101]⟩, (textsOf [(⟨#[118, 105, 114, 116, 105, 111, 44, 109, 109, 105, 111]⟩ : ByteArray)])⟩, (regP 268443648 4096), ⟨⟨#[105, 110, 116, 101, 114, 114, 117, 112, 116, 45, 112, 97, 114, 101, 110, 116]⟩, ([(2 : Int)].flatMap w32)⟩, ⟨⟨#[105, 110, 116, 101, 114, 114, 117, 112, 116, 115]⟩, ([(2 : Int)].flatMap w32)⟩] := hdep 16 (by decide) (by kernel_rfl)
      exact gS_bd (wanted_none (by kernel_rfl) _) rfl #[(0, .string ⟨#[118, 105, 114, 116, 105, 111, 64, 49, 48, 48, 48, 50, 48, 48, 48]⟩), (1, .slice (some b1) 4 4)] _ (by simp only [List.map_toArray, List.map_cons, List.map_nil]; rw [e0, e1] <;> rfl) (bd32_01 W _ _ _ _) ⟨Kp.refl _ _, _, _, rfl, ⟨_, _, rfl, Nat.le_refl _, q1⟩, Sl.nil⟩
    · exact absurd hi (by simp only [List.length_cons, List.length_nil]; omega)
  · intro a W hW hdef hsz hold hR
    obtain ⟨g_, p0_, hge0, hb0⟩ := h4
    have p_ : a.eval (.tmp 4) = .pointer (some ⟨g_, 0, none⟩) := (hold 4 (by decide)).trans p0_
    have hb := (hW.block g_ (blk_lt hb0) (fun h => h)).trans hb0
    obtain ⟨u1, u2, e_, s1, s2⟩ : NodeV W (a.eval (.tmp 22)) (n372_1) := hR 17 (by decide)
    refine wp_st rfl (by kernel_rfl) g_ #[.string (n372_1).f0, u1, u2] z32c 32 p_ e_ hb (by kernel_rfl) rfl (one3 _ s1.one s2.one) fun w1 hb1 hk1 => ?_
    have hM := Mv.store hk1 hb
    exact hQ a w1 g_ p0_ ((hW.mono fun _ _ h => h.elim).trans hk1) hdef hsz (fun s hs => hold s hs) ⟨p_, u1, u2, hb1, s1.mv hM, s2.mv hM⟩
set_option maxHeartbeats 1000000 in
set_option maxRecDepth 100000 in
theorem dev2_m (w : World) : Calls Try.prog 37 #[.int .u64 268443648, .int .u32 2] w fun e w' => ∃ v, e = .returned v ∧ KpN w w' ∧ NodeV w' v n372_1 := by
  go_enter Try.func37, Try.ntmps37
  refine wp_seq (reg_al rfl rfl z32c zero32c ?_)
  intro g hg w1 hb hk
  refine wp_seq (m372r1 _ (by kernel_rfl) _ _ _ (by kernel_rfl) rfl rfl ⟨g, rfl, trivial, hb⟩ ?_)
  intro a w2 g2 e2 hk2 hdf hs hold h
  obtain ⟨p, u1, u2, hb2, s1, s2⟩ := h
  have eg : g = g2 := by injection e2 with e2; injection e2 with e2; injection e2
  have hd : a.defers = [] := hdf
  show (Code.ret).wp _ _ _ _
  go_wp2
  refine bodyPost_ret (results_cell_row rfl _ _ g2 32 _ (0, 0) _ p hb2 Try.underlying32 rfl (by kernel_rfl)) (by rw [hd]) ?_
  exact ⟨_, rfl, hk.then hk2 (fun i hi e => by omega), _, _, rfl, s1, s2⟩
end Go.Proofs.Ytmhlellhfepkkaa.H
