/- builder.name. -/
import Derived.Test.YtmhlellhfepkkaaHfw
namespace Go.Proofs.Ytmhlellhfepkkaa.B
open Go.RowKit Go.Proofs.YtmhlellhfepkkaaW.PrintWords Go.Proofs.YtmhlellhfepkkaaW.PrintLast Go.Proofs.YtmhlellhfepkkaaW.PrintMore Go.Proofs.Ytmhlellhfepkkaa.PAl
open Go.Maps (Keyed string_keyed)
attribute [local go_sem ↓] Go.wp_at_zero Go.wp_at_succ
set_option linter.unusedVariables false
set_option linter.unusedSimpArgs false
theorem C_str1 (w : World) (s : ByteArray) : Kd.C Kd.string (w.alloc (.cells #[.string s] 9)) (some ⟨w.heap.size, 0, none⟩) 1 [s] := by
  have h := World.ownsRow_lit (base := 0) (e := 9) (size := 1) w #[.string s] 1 (Nat.zero_le _) (by decide) (by rfl)
  have hR : Kd.string.R 9 (w.alloc (.cells #[.string s] 9)) 0 (fun _ => True) (.slice (some ⟨w.heap.size, 0, none⟩) 1 1) [s] := Kd.R_of_own h (fun _ _ => trivial)
  exact (Kd.R_reads' hR).2.2
theorem texts1 (s : ByteArray) (h : s.size < 140737488355320) : fdt_Texts.f 2 [s] = some (bytesOf s ++ [0]) := by
  have hr : rdOf ByteArray.empty [s] 0 = s := rfl
  have hl : (bytesOf s).length = s.size := bytesOf_length s
  unfold fdt_Texts.f
  simp only [fdt_Texts.l0]
  rw [if_pos (by simp), if_pos (by decide), if_pos (by simp), hr, if_pos (by simpa using (by omega : s.size < 140737488355328))]
  simp only [Option.bind_some, List.nil_append]
  rw [if_pos (by omega), if_neg (by simp [wrap64])]
theorem text1_c (s : ByteArray) (ys : List Int) (hys : ys = bytesOf s ++ [0]) (h : s.size < 140737488355320) (w : World) :
    Calls Try.prog 19 #[.slice (some ⟨w.heap.size, 0, none⟩) 1 1] (w.alloc (.cells #[.string s] 9)) fun e w' => ∃ v, e = .returned v ∧ U8.R 5 w' w.heap.size (fun _ => True) v ys ∧ Below w.heap.size w w' := by
  subst hys
  refine (fdt_Texts.calls 2 (some ⟨w.heap.size, 0, none⟩) 1 [s] _ (w.alloc (.cells #[.string s] 9)) (C_str1 w s) (Nat.le_refl _) (texts1 s h)).mono ?_
  rintro e w' ⟨v, rfl, h1, h2⟩
  exact ⟨v, rfl, Kd.R_lower h1 (by simp), below_step (below_alloc (Below.refl _ _) _) h2⟩
def bname (all : List ByteArray) (s : ByteArray) : Option (Int × List ByteArray) :=
  if (textsOf all).length + s.size + 1 < 2147483648 then
    (match posOf all s with
    | some n => some (n, all)
    | none => some (((textsOf all).length : Int), all ++ [s]))
  else none
theorem textsOf_len : ∀ l : List ByteArray, l.length ≤ (textsOf l).length
  | [] => Nat.le_refl _
  | a :: l => by have := textsOf_len l; simp [textsOf]; omega
theorem keyedS : Keyed Try.prog 9 := string_keyed Try.underlying9
theorem zeroU (w : World) : (zeroValue 41).run Try.prog w = .ok (.int .u32 0) w := by kernel_rfl
set_option maxHeartbeats 1000000 in
set_option maxRecDepth 100000 in
theorem name_c (s : ByteArray) (n : Int) (tr : List Int) (all all' : List ByteArray) (g : Nat) (ok : Nat → Prop) (w0 w : World) (hB : Below w0.heap.size w0 w) (hs : Bs w w0.heap.size ok g tr all) (hx : bname all s = some (n, all')) :
    Calls Try.prog 42 #[.pointer (some ⟨g, 0, none⟩), .string s] w fun e w' => e = .returned (.int .u32 n) ∧ Bs w' w0.heap.size (fun k => ok k ∨ w.heap.size ≤ k) g tr all' ∧ Below w0.heap.size w0 w' ∧ Kept w w' ok := by
  obtain ⟨u, v, B, hb, hu, hv, hm, h1, h2, h8, h9, hBg⟩ := hs.open_
  obtain ⟨A, c, rfl⟩ := Kd.R_slice hv
  have c1 : w.cell? ⟨g, 1, none⟩ = some (.slice A (textsOf all).length c) := blk_cell hb 1
  have c2 : w.cell? ⟨g, 2, none⟩ = some (.map (some B)) := blk_cell hb 2
  have HS := Aside0.mk hs; have HB := Aside0.mk hB; have Hb := Aside0.mk hb; have Hu := Aside0.mk hu; have Hv := Aside0.mk hv; have Hm := Aside0.mk hm; have H1 := Aside0.mk h1; have H2 := Aside0.mk h2; have H8 := Aside0.mk h8; have H9 := Aside0.mk h9; have HBg := Aside0.mk hBg
  unfold bname at hx
  split at hx
  · rename_i hlen
    have hss : s.size ≤ maxLen := by unfold maxLen; omega
    have HL := Aside0.mk hlen; have HSS := Aside0.mk hss
    clear hB hs hb hu hv hm h1 h2 h8 h9 hBg hlen hss
    cases hp : posOf all s with
    | some n' =>
      rw [hp] at hx
      obtain ⟨rfl, rfl⟩ := Prod.mk.inj (Option.some.inj hx)
      have HP := Aside0.mk hp
      clear hx hp
      go_enter Try.func42, Try.ntmps42
      go_wp2_with (first | ((with_reducible refine gate_dst (N := 14) rfl ?_); refine slk_ev rfl _ _ _ 9 41 rfl B all.length (posOf all) s rfl rfl Hm.out keyedS Try.underlying9 Try.underlying69 (zeroU _) HSS.out (.tuple #[.int .u32 n', .bool true]) (by rw [HP.out]) ?_) | fail)
      go_ret
      exact ⟨rfl, HS.out.mono (fun k hk _ _ => .inl hk), HB.out, Kept.refl _ _⟩
    | none =>
      rw [hp] at hx
      obtain ⟨rfl, rfl⟩ := Prod.mk.inj (Option.some.inj hx)
      have HP := Aside0.mk hp
      have hb32 : ((textsOf all).length : Int) < 2147483648 := by have := HL.out; omega
      have hb0 : (0 : Int) ≤ ((textsOf all).length : Int) := by omega
      have HN := Aside0.mk (show all.length < maxLen from by have := textsOf_len all; have := HL.out; unfold maxLen; omega)
      clear hx hp
      go_enter Try.func42, Try.ntmps42
      go_wp2_with (first | ((with_reducible refine gate_dst (N := 14) rfl ?_); refine slk_ev rfl _ _ _ 9 41 rfl B all.length (posOf all) s rfl rfl Hm.out keyedS Try.underlying9 Try.underlying69 (zeroU _) HSS.out (.tuple #[.int .u32 0, .bool false]) (by rw [HP.out]) ?_) | (at_mapUpdate; refine sup_ev rfl _ _ _ 69 9 41 rfl rfl B all.length (posOf all) s ((textsOf all).length : Int) rfl rfl rfl Hm.out keyedS Try.underlying9 Try.underlying69 HN.out HSS.out ?_; intro w2 hm2 hg2; have hgB : some g ≠ some B := (fun q => HBg.out (Option.some.inj q).symm); have hb2 := blk_grown Hb.out hg2 hgB; have c1' : w2.cell? ⟨g, 1, none⟩ = some (.slice A (textsOf all).length c) := blk_cell hb2 1; have z1' : w2.frozen? ⟨g, 1, none⟩ = false := blk_frozen hb2 1; have HM2 := Aside0.mk hm2; have HG2 := Aside0.mk hg2; have HB2 := Aside0.mk hb2; clear hm2 hg2 hb2 hgB) | fail)
      have hB2' : Below w0.heap.size w0 w2 := HB.out.grown HG2.out HB.out.size (fun k hk => by injection hk with hk; subst hk; exact H8.out)
      have hu2 : U8.R 5 w2 w0.heap.size (fun k => ok k ∧ k ≠ g ∧ k ≠ B ∧ some k ≠ (Value.slice A (textsOf all).length c).ownBlock) u tr := U8_move Hu.out (fun k hk hl => HG2.out.block k hl (fun q => (Hu.out.1 k hk).2.2.1 (Option.some.inj q)))
      have hv2 : U8.R 5 w2 w0.heap.size (fun k => ok k ∧ k ≠ g ∧ k ≠ B ∧ some k ≠ u.ownBlock) (Value.slice A (textsOf all).length c) (textsOf all) := U8_move Hv.out (fun k hk hl => HG2.out.block k hl (fun q => (Hv.out.1 k hk).2.2.1 (Option.some.inj q)))
      have hm2 : SMap Try.prog 9 w2 B (all ++ [s]).length (posOf (all ++ [s])) := by
        rw [posOf_new HP.out, List.length_append]; exact HM2.out
      have HB2' := Aside0.mk hB2'; have HU2 := Aside0.mk hu2; have HV2 := Aside0.mk hv2; have HMM := Aside0.mk hm2; have HK2 := Aside0.mk (show Kept w w2 ok from Kept.of_grown HG2.out (Kept.refl w ok) (fun k hk => by injection hk with hk; subst hk; exact .inl H9.out))
      have HSL := Aside0.mk (show s.size < 140737488355320 from by have := HL.out; omega)
      obtain ⟨ys, hys⟩ : ∃ ys, ys = bytesOf s ++ [0] := ⟨_, rfl⟩
      have HYS := Aside0.mk hys
      have HTL := Aside0.mk (show ys.length = s.size + 1 from by rw [hys, List.length_append, bytesOf_length]; rfl)
      clear hys
      clear hB2' hu2 hv2 hm2
      have n1' : (w2.alloc (Obj.cells #[Value.string s] 9)).cell? ⟨g, 1, none⟩ = some (.slice A (textsOf all).length c) := blk_cell (blk_alloc HB2.out _) 1
      go_region_law (first | (refine goes_ (N := some 38) Try.func19 (by kernel_rfl) rfl #[.slice (some ⟨w2.heap.size, 0, none⟩) 1 1] (by rfl) rfl (by rfl) (by simp only [List.map_toArray, List.map_cons, List.map_nil]; rfl) ?_; (refine (text1_c s ys HYS.out HSL.out w2.drew).mono ?_); rintro e w7 ⟨v10, rfl, ho, hb7⟩; refine ⟨_, rfl, ?_⟩; obtain ⟨A7, c7, rfl⟩ := Kd.R_slice ho; have k7 : w7.cell? ⟨g, 1, none⟩ = some (.slice A (textsOf all).length c) := (hb7.cell (World.block_lt_of_cell? w2 _ c1')).trans c1'; have HB7 := Aside0.mk (below_step (below_drew1 (Below.refl _ w2)) hb7); have HO7 := Aside0.mk ho; clear hb7 ho) | (refine Kd.R_append_rows_step U8 (w0 := w0) w0.heap.size (by rfl) (.tmp 35) (.tmp 38) 25 5 (.int .u8 0) 1 (by rfl) Try.underlying25 info5 rfl (by decide) (by omega) (.slice A (textsOf all).length c) (textsOf all) ys A7 ys.length c7 (fun _ => True) (fun _ => False) (by rfl) (by rfl) ?aO ?aR (fun _ _ h => h) (fun _ h => h.elim) (fun _ _ => trivial) ?aB ?aS ?aL ?_; (case aO => exact Kd.R_mono (Kd.R_below HV2.out HB7.out) (fun _ _ => trivial)); (case aR => exact (Kd.R_reads' HO7.out).2.2); (case aB => exact below_step HB2'.out HB7.out); (case aS => exact (below_step HB2'.out HB7.out).size); (case aL => have := HL.out; have := HTL.out; omega); intro v8 w8 ho8 hb8 hg8 hat8; obtain ⟨A8, c8, rfl⟩ := Kd.R_slice ho8; have k8 : w8.cell? ⟨g, 1, none⟩ = some (.slice A (textsOf all).length c) := hg8.cell k7 (fun q => (Hv.out.1 g q.symm).2.1 rfl); have z8 : w8.frozen? ⟨g, 1, none⟩ = false := blk_frozen (blk_grown (blk_below HB2.out HB7.out) hg8 (fun q => (Hv.out.1 g q.symm).2.1 rfl)) 1; have HO8 := Aside0.mk ho8; have HB8 := Aside0.mk hb8; have HG8 := Aside0.mk hg8; have HA8 := Aside0.mk hat8; clear ho8 hb8 hg8 hat8) | fail)
      all_goals
        go_wp2
        go_ret
        have hl8 : (textsOf all ++ ys).length = (textsOf all).length + ys.length := List.length_append
        have ho8 := HO8.out; have ha8 := HA8.out
        have he8 : textsOf all ++ ys = textsOf (all ++ [s]) := by rw [HYS.out, textsOf_snoc]
        rw [hl8] at ho8 ha8
        rw [he8] at ho8
        obtain ⟨q1, q2, q3⟩ := Bs.names2 HB2.out HU2.out HV2.out HMM.out H1.out H2.out H8.out H9.out HBg.out HB7.out HB8.out ho8 HG8.out ha8
        exact ⟨rfl, q1.mono (fun k hk _ _ => hk.elim .inl (fun hk => .inr (Nat.le_trans HK2.out.1 hk))), q2, HK2.out.then_ q3 (fun k hk => .inl hk)⟩
  · cases hx
end Go.Proofs.Ytmhlellhfepkkaa.B
