/- builder.padded. -/
import Derived.Test.YtmhlellhfepkkaaHfw
import Derived.Test.YtmhlellhfepkkaaPAlx7
namespace Go.Proofs.Ytmhlellhfepkkaa.B
open Go.RowKit Go.Proofs.YtmhlellhfepkkaaW.PrintWords Go.Proofs.YtmhlellhfepkkaaW.PrintLast Go.Proofs.YtmhlellhfepkkaaW.PrintMore Go.Proofs.Ytmhlellhfepkkaa.PAl
set_option linter.unusedVariables false
set_option linter.unusedSimpArgs false
set_option maxHeartbeats 1000000 in
set_option maxRecDepth 100000 in
theorem padded_c (k : Nat) (r tr : List Int) (all : List ByteArray) (g : Nat) (ok : Nat → Prop) (w0 w : World) (hB : Below w0.heap.size w0 w) (hs : Bs w w0.heap.size ok g tr all) (h : vireoref26_pad.f k tr = some r) :
    Calls Try.prog 41 #[.pointer (some ⟨g, 0, none⟩)] w fun e w' => e = .returned (.tuple #[]) ∧ Bs w' w0.heap.size (fun k => ok k ∨ w.heap.size ≤ k) g r all ∧ Below w0.heap.size w0 w' ∧ Kept w w' ok := by
  have H' := Aside0.mk (show vireoref26_pad.l0 k tr = some r from h)
  have HS := Aside0.mk (hs.mono (ok' := fun k => ok k ∨ w.heap.size ≤ k) (fun k hk _ _ => .inl hk))
  have HB := Aside0.mk hB
  have HK := Aside0.mk (Kept.refl w ok)
  clear hs hB h
  go_enter Try.func41, Try.ntmps41
  go_wp2
  go_loopg [] k (fun kq w' => ∃ tr1 : List Int, Aside0 (vireoref26_pad.l0 kq tr1 = some r) ∧ Aside0 (kq ≤ k) ∧ Aside0 (Bs w' w0.heap.size (fun k => ok k ∨ w.heap.size ≤ k) g tr1 all) ∧ Aside0 (Below w0.heap.size w0 w') ∧ Aside0 (Kept w w' ok))
  case atStart => exact ⟨tr, H', ⟨Nat.le_refl _⟩, HS, HB, HK⟩
  case round =>
    clear H' HS HB HK
    obtain ⟨tr1, HA, HK1, HS, HB, HK⟩ := hrel
    cases gk with
    | zero => exact absurd HA.out (by simp [vireoref26_pad.l0])
    | succ k1 =>
      have H := HA.out
      clear HA
      simp only [vireoref26_pad.l0] at H
      obtain ⟨u, v, B, hb, hu, hv, hm, h1, h2, h8, h9, hBg⟩ := HS.out.open_
      obtain ⟨A, c, rfl⟩ := Kd.R_slice hu
      have c0 : World.cell? _ ⟨g, 0, none⟩ = some (Value.slice A tr1.length c) := blk_cell hb 0
      have Hb := Aside0.mk hb; have Hu := Aside0.mk hu; have Hv := Aside0.mk hv; have Hm := Aside0.mk hm; have H1 := Aside0.mk h1; have H2 := Aside0.mk h2; have H8 := Aside0.mk h8; have H9 := Aside0.mk h9; have HBg := Aside0.mk hBg
      clear hb hu hv hm h1 h2 h8 h9 hBg
      by_cases c2 : ((tr1.length : Int) % 4) = 0
      · rw [if_pos c2] at H
        have c2b0 : (((tr1.length : Int) % 4) == 0) = true := beq_iff_eq.mpr c2
        have c2b1 : (((tr1.length : Int) % 4) != 0) = false := bne_eq_false_iff_eq.mpr c2
        clear c2
        obtain rfl := Option.some.inj H
        clear H
        go_wp2
        first | go_end0 | ((try simp only [Exit.inBlock, Exit.then]); refine bodyPost_ret (results_none rfl _ _ _) rfl ?_)
        exact ⟨rfl, HS.out, HB.out, HK.out⟩
      · rw [if_neg c2] at H
        have c2b0 : (((tr1.length : Int) % 4) == 0) = false := beq_eq_false_iff_ne.mpr c2
        have c2b1 : (((tr1.length : Int) % 4) != 0) = true := bne_iff_ne.mpr c2
        by_cases c4 : tr1.length < 140737488355328
        · rw [if_pos c4] at H
          have LM := Aside0.mk c4
          have H' := Aside0.mk H
          clear H c4
          go_wp2_with (first | ((with_reducible refine gate_builtin (b := .append) (xs := #[.tmp 13, .tmp 14]) rfl ?_); at_builtin; refine Kd.R_append U8 (w0 := w0) w0.heap.size rfl (.tmp 13) (.tmp 14) 25 5 (.int .u8 0) 1 rfl Try.underlying25 info5 rfl (by decide) (by omega) (.slice A tr1.length c) tr1 0 [.int .u8 0] (fun _ => True) (fun _ => False) rfl rfl ?aP (fun _ hk => hk.elim) (fun _ _ => trivial) ?aO ?aB ?aS ?aL ?_; (case aP => exact rfl); (case aB => exact HB.out); (case aO => exact Kd.R_mono Hu.out (fun _ _ => trivial)); (case aS => exact HB.out.size); (case aL => have := LM.out; omega); intro v8 w8 ho8 hb8 hg8 hat8; obtain ⟨A8, c8, rfl⟩ := Kd.R_slice ho8; have k8 : w8.cell? ⟨g, 0, none⟩ = some (.slice A tr1.length c) := hg8.cell c0 (fun q => (Hu.out.1 g q.symm).2.1 rfl); have z8 : w8.frozen? ⟨g, 0, none⟩ = false := blk_frozen (blk_grown Hb.out hg8 (fun q => (Hu.out.1 g q.symm).2.1 rfl)) 0; have HO8 := Aside0.mk ho8; have HB8 := Aside0.mk hb8; have HG8 := Aside0.mk hg8; have HA8 := Aside0.mk hat8; clear ho8 hb8 hg8 hat8) | fail)
          have hl8 : (tr1 ++ [0]).length = tr1.length + 1 := by simp
          have ho8 := HO8.out; have ha8 := HA8.out
          rw [hl8] at ho8 ha8
          obtain ⟨q1, q2, q3⟩ := Bs.tree2 Hb.out Hu.out Hv.out Hm.out H1.out H2.out H8.out H9.out HBg.out (Below.refl _ _) HB8.out ho8 HG8.out ha8
          have HS' := Aside0.mk (q1.mono (ok' := fun k => ok k ∨ w.heap.size ≤ k) (fun k hk _ _ => hk.elim id (fun hk => .inr (Nat.le_trans HK.out.1 hk))))
          have HB' := Aside0.mk q2
          have HK' := Aside0.mk (HK.out.then_ q3 (fun k hk => hk))
          clear q1 q2 q3 ho8 ha8 hl8
          go_roundg k1
          case measure => have := HK1.out; omega
          case rel => exact ⟨tr1 ++ [0], H', ⟨by have := HK1.out; omega⟩, HS', HB', HK'⟩
        · rw [if_neg c4] at H
          exact absurd H (by simp)
end Go.Proofs.Ytmhlellhfepkkaa.B
