/- builder.word, builder.padded. -/
import Derived.Test.YtmhlellhfepkkaaHfb
namespace Go.Proofs.Ytmhlellhfepkkaa.B
open Go.RowKit Go.Proofs.YtmhlellhfepkkaaW.PrintWords Go.Proofs.YtmhlellhfepkkaaW.PrintLast Go.Proofs.YtmhlellhfepkkaaW.PrintMore Go.Proofs.Ytmhlellhfepkkaa.PAl
attribute [local go_sem ↓] Go.wp_at_zero Go.wp_at_succ
set_option linter.unusedVariables false
set_option linter.unusedSimpArgs false
set_option maxHeartbeats 1000000 in
set_option maxRecDepth 100000 in
theorem word_c (x : Int) (r tr : List Int) (all : List ByteArray) (g : Nat) (ok : Nat → Prop) (w0 w : World) (hB : Below w0.heap.size w0 w) (hs : Bs w w0.heap.size ok g tr all) (hx : fdt_Word32.f x = some r) (hl : tr.length + r.length < 140737488355328) :
    Calls Try.prog 30 #[.pointer (some ⟨g, 0, none⟩), .int .u32 x] w fun e w' => e = .returned (.tuple #[]) ∧ Bs w' w0.heap.size (fun k => ok k ∨ w.heap.size ≤ k) g (tr ++ r) all ∧ Below w0.heap.size w0 w' ∧ Kept w w' ok := by
  obtain ⟨u, v, B, hb, hu, hv, hm, h1, h2, h8, h9, hBg⟩ := hs.open_
  clear hs
  obtain ⟨A, c, rfl⟩ := Kd.R_slice hu
  have c0 : w.cell? ⟨g, 0, none⟩ = some (.slice A tr.length c) := blk_cell hb 0
  have HX := Aside0.mk hx; have HB := Aside0.mk hB; have Hb := Aside0.mk hb; have Hu := Aside0.mk hu; have Hv := Aside0.mk hv; have Hm := Aside0.mk hm; have HL := Aside0.mk hl; have H1 := Aside0.mk h1; have H2 := Aside0.mk h2; have H8 := Aside0.mk h8; have H9 := Aside0.mk h9; have HBg := Aside0.mk hBg
  clear hx hB hb hu hv hm hl h1 h2 h8 h9 hBg
  go_enter Try.func30, Try.ntmps30
  go_wp2
  go_region_law (first | (refine goes_ (N := some 10) Try.func21 (by kernel_rfl) rfl #[.int .u32 x] (by rfl) rfl (by rfl) (by simp only [List.map_toArray, List.map_cons, List.map_nil]; rfl) ?_; (with_reducible refine (fdt_Word32.calls _ _ _ HX.out).mono ?_); rintro e w7 ⟨v10, rfl, ho, hb7⟩; refine ⟨_, rfl, ?_⟩; obtain ⟨A7, c7, rfl⟩ := Kd.R_slice ho; have k7 : w7.cell? ⟨g, 0, none⟩ = some (.slice A tr.length c) := (hb7.cell (World.block_lt_of_cell? w _ c0)).trans c0; have HB7 := Aside0.mk (below_step (below_drew1 (Below.refl _ w)) hb7); have HO7 := Aside0.mk ho; clear hb7 ho) | (refine Kd.R_append_rows_step U8 (w0 := w0) w0.heap.size (by rfl) (.tmp 8) (.tmp 10) 25 5 (.int .u8 0) 1 (by rfl) Try.underlying25 info5 rfl (by decide) (by omega) (.slice A tr.length c) tr r A7 r.length c7 (fun _ => True) (fun _ => False) (by rfl) (by rfl) ?aO ?aR (fun _ _ h => h) (fun _ h => h.elim) (fun _ _ => trivial) ?aB ?aS ?aL ?_; (case aO => exact Kd.R_mono (Kd.R_below Hu.out HB7.out) (fun _ _ => trivial)); (case aR => exact (Kd.R_reads' HO7.out).2.2); (case aB => exact below_step HB.out HB7.out); (case aS => exact (below_step HB.out HB7.out).size); (case aL => have := HL.out; omega); intro v8 w8 ho8 hb8 hg8 hat8; obtain ⟨A8, c8, rfl⟩ := Kd.R_slice ho8; have k8 : w8.cell? ⟨g, 0, none⟩ = some (.slice A tr.length c) := hg8.cell k7 (fun q => (Hu.out.1 g q.symm).2.1 rfl); have z8 : w8.frozen? ⟨g, 0, none⟩ = false := blk_frozen (blk_grown (blk_below Hb.out HB7.out) hg8 (fun q => (Hu.out.1 g q.symm).2.1 rfl)) 0; have HO8 := Aside0.mk ho8; have HB8 := Aside0.mk hb8; have HG8 := Aside0.mk hg8; have HA8 := Aside0.mk hat8; clear ho8 hb8 hg8 hat8) | fail)
  all_goals
    first | go_end0 | ((try simp only [Exit.inBlock, Exit.then]); refine bodyPost_ret (results_none rfl _ _ _) rfl ?_)
    have hl8 : (tr ++ r).length = tr.length + r.length := List.length_append
    have ho8 := HO8.out; have ha8 := HA8.out
    rw [hl8] at ho8 ha8
    exact ⟨rfl, Bs.tree2 Hb.out Hu.out Hv.out Hm.out H1.out H2.out H8.out H9.out HBg.out HB7.out HB8.out ho8 HG8.out ha8⟩
end Go.Proofs.Ytmhlellhfepkkaa.B
