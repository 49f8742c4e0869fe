/- fdt.Parse. -/
import Derived.Test.YtmhlellhfepkkaaHrn
import Derived.Test.YtmhlellhfepkkaaLj
import Derived.Deep.RegionHeld3
namespace Go.Proofs.Ytmhlellhfepkkaa.B
open Go.RowKit Go.Proofs.YtmhlellhfepkkaaW.PrintWords Go.Proofs.YtmhlellhfepkkaaW.PrintLast Go.Proofs.YtmhlellhfepkkaaW.PrintMore Go.Proofs.Ytmhlellhfepkkaa.PAl Go.Proofs.Ytmhlellhfepkkaa.H
attribute [local go_sem ↓] Go.wp_at_zero Go.wp_at_succ
set_option linter.unusedVariables false
set_option linter.unusedSimpArgs false
/-- The first words. -/
def rhead : Nat → List Int → Bool → List Int × List Int × Bool
  | 0, t, b => ([], t, b)
  | m + 1, t, b => (wv t :: (rhead m (rw4 t) (rbad t b)).1, (rhead m (rw4 t) (rbad t b)).2)
theorem rhead_len : ∀ m t b, (rhead m t b).1.length = m
  | 0, t, b => rfl
  | m + 1, t, b => by simp only [rhead, List.length_cons, rhead_len m]
theorem rhead_range : ∀ m t b, ∀ x ∈ (rhead m t b).1, 0 ≤ x ∧ x < 4294967296
  | 0, t, b, x, hx => by cases hx
  | m + 1, t, b, x, hx => by
    simp only [rhead, List.mem_cons] at hx
    rcases hx with rfl | hx
    · exact wv_range t
    · exact rhead_range m _ _ x hx
theorem zero88 (W : World) : (zeroValue 88).run Try.prog W = .ok (.agg #[.int .u64 0, .int .u64 0, .int .u64 0, .int .u64 0, .int .u64 0, .int .u64 0, .int .u64 0, .int .u64 0, .int .u64 0, .int .u64 0]) W := by kernel_rfl
def c64 (l : List Int) : Array Value := (l.map fun x => Value.int .u64 x).toArray
theorem c64_get {l : List Int} {i : Nat} (h : i < l.length) : (c64 l)[i]? = some (.int .u64 (rd l (i : Int))) := by
  simp [c64, rd, h]
theorem c64_set (l : List Int) (i : Nat) (v : Int) : (c64 l).setIfInBounds i (.int .u64 v) = c64 (l.set i v) := by
  unfold c64
  rw [List.setIfInBounds_toArray, List.map_set]
theorem set_mid (hs : List Int) (m : Nat) (v : Int) : (hs ++ List.replicate (m + 1) 0).set hs.length v = (hs ++ [v]) ++ List.replicate m 0 := by
  rw [List.replicate_succ]; simp
def pfail : ByteArray × List S74 × List S32 × Int := (⟨#[]⟩, [], [], 250)
end Go.Proofs.Ytmhlellhfepkkaa.B
namespace Go.Proofs.Ytmhlellhfepkkaa.PAl
open Go.RowKit Go.Proofs.YtmhlellhfepkkaaW.PrintWords Go.Proofs.YtmhlellhfepkkaaW.PrintLast Go.Proofs.YtmhlellhfepkkaaW.PrintMore Go.Proofs.Ytmhlellhfepkkaa.H Go.Proofs.Ytmhlellhfepkkaa.B
attribute [local go_sem ↓] Go.wp_at_zero Go.wp_at_succ
set_option linter.unusedVariables false
set_option linter.unusedSimpArgs false
theorem rs_two {w w1 : World} {g : Nat} {t0 nm0 t nm : List Int} {b : Bool} {left : Int} {At : Option Addr} {ct : Nat} {An : Option Addr} {cn : Nat} (A1 A2 : Option Addr) (n1 c1 n2 c2 : Nat) (h : Rs w w1 g t0 nm0 b left At ct An cn) (e1 : n1 = t.length) (e2 : n2 = nm.length) (h1 : Kd.C U8 w A1 t.length t) (l1 : t.length ≤ c1) (h2 : Kd.C U8 w A2 nm.length nm) (l2 : nm.length ≤ c2) :
    Rs w ((w1.setCell ⟨g, 0, none⟩ (.slice A1 n1 c1)).setCell ⟨g, 1, none⟩ (.slice A2 n2 c2)) g t nm b left A1 c1 A2 c2 ∧ Kp w1 ((w1.setCell ⟨g, 0, none⟩ (.slice A1 n1 c1)).setCell ⟨g, 1, none⟩ (.slice A2 n2 c2)) (fun i => i = g) := by
  subst e1; subst e2
  obtain ⟨p1, p2⟩ := put_at h.b 0 (.slice A1 t.length c1) (#[.slice A1 t.length c1, .slice An nm0.length cn, .bool b, .int .i64 left]) rfl
  obtain ⟨p3, p4⟩ := put_at p1 1 (.slice A2 nm.length c2) (#[.slice A1 t.length c1, .slice A2 nm.length c2, .bool b, .int .i64 left]) rfl
  have hk := p2.trans p4
  exact ⟨⟨p3, h1, l1, h2, l2, h.ge, h.be.trans (hk.below (fun k _ e => by have := h.ge; omega) h.be.size)⟩, hk⟩
theorem within_ok {a b n : Int} (h : word_Within.f a b 0 n = some true) (ha : 0 ≤ a ∧ a < 4294967296) (hb : 0 ≤ b ∧ b < 4294967296) (hn : 0 ≤ n ∧ n < 1000000000000) : a + b ≤ n := by
  unfold word_Within.f at h
  rw [if_neg (by omega)] at h
  split at h
  · cases h
  · rename_i hc
    have h2 := of_decide_eq_true (Option.some.inj h)
    have e1 : IntKind.u64.wrap (a - 0) = a := by unfold IntKind.wrap; simp only [IntKind.signed, IntKind.bits]; simp; omega
    have e2 : IntKind.u64.wrap (n - b) = n - b := by unfold IntKind.wrap; simp only [IntKind.signed, IntKind.bits]; simp; omega
    rw [e1, e2] at h2
    omega
def fdt_Parse.g (k : Nat) (l0 : List Int) (H : List Int) : Option (ByteArray × List S74 × List S32 × Int) :=
  (word_Within.f (rd H 2) (rd H 9) 0 (l0.length : Int)).bind fun x => if x = true then
    (word_Within.f (rd H 3) (rd H 8) 0 (l0.length : Int)).bind fun y => if y = true then
      if wv ((l0.take (rd H 2 + rd H 9).toNat).drop (rd H 2).toNat) = 1 then
        (rnode k ((l0.take (rd H 3 + rd H 8).toNat).drop (rd H 3).toNat) 1 (rw4 ((l0.take (rd H 2 + rd H 9).toNat).drop (rd H 2).toNat)) (rbad ((l0.take (rd H 2 + rd H 9).toNat).drop (rd H 2).toNat) false) 64).bind fun q =>
          if q.2.2.1 = true then some pfail
          else (fdt_Bytes.f k q.1.f0 q.1.f1 q.1.f2).bind fun b => if b.2 = 0 then (if (strOfNums b.1).toList = (strOfNums l0).toList then some (q.1.f0, q.1.f1, q.1.f2, 0) else some pfail) else some pfail
      else some pfail
    else some pfail
  else some pfail
def fdt_Parse.f (k : Nat) (l0 : List Int) : Option (ByteArray × List S74 × List S32 × Int) :=
  if l0.length < 1000000000000 then if (rhead 10 l0 false).2.2 = true then some pfail else fdt_Parse.g k l0 (rhead 10 l0 false).1 else none
/-- What Parse hands back. -/
def ParsePost (w : World) (r : ByteArray × List S74 × List S32 × Int) (e : Ending) (w' : World) : Prop :=
  ∃ v1 v2, e = .returned (.tuple #[.agg #[.string r.1, v1, v2], .int .i64 r.2.2.2]) ∧ Kd.N k74 74 w' w.heap.size (fun k => w.heap.size ≤ k ∧ some k ≠ v2.ownBlock) v1 r.2.1 ∧ Kd.N k32 32 w' w.heap.size (fun k => w.heap.size ≤ k ∧ some k ≠ v1.ownBlock) v2 r.2.2.1 ∧ Below w.heap.size w w'
set_option maxHeartbeats 1000000 in
set_option maxRecDepth 100000 in
theorem fdt_Parse.calls0 (k : Nat) (A0 : Option Addr) (c0 : Nat) (l0 : List Int) (r : ByteArray × List S74 × List S32 × Int) (w : World) (hr0 : Kd.C (Kd.int .u8) w A0 l0.length l0) (hc0 : l0.length ≤ c0) (h : fdt_Parse.f k l0 = some r) :
    Calls Try.prog 28 #[.slice A0 l0.length c0] w (ParsePost w r) := by
  unfold fdt_Parse.f at h
  split at h
  · rename_i hl
    have hu32 := Try.underlying32
    have hu87 := Try.underlying87
    have hu88 := Try.underlying88
    have HC := Aside0.mk hr0; have HL := Aside0.mk hc0; have HLL := Aside0.mk hl; have HR := Aside0.mk h
    clear hr0 hc0 hl h
    go_enter Try.func28, Try.ntmps28
    go_wp2_with (first | (((with_reducible refine gate_dst (N := 2) rfl ?_); refine al_ev rfl rfl (N := 2) rfl _ (zero32 _) ?_; intro gr hg_gr w1 hb_gr hk_gr; have Hg_gr := Aside0.mk hg_gr; clear hg_gr)) | (((with_reducible refine gate_dst (N := 12) rfl ?_); refine bx_ev rfl rfl (N := 12) rfl (#[.slice A0 l0.length c0, .slice none 0 0, .bool false, .int .i64 64]) rfl ?_; intro g hg_g w2 hb_g hk_g; have Hg_g := Aside0.mk hg_g; clear hg_g)) | (((with_reducible refine gate_dst (N := 5) rfl ?_); refine al_ev rfl rfl (N := 5) rfl _ (zero88 _) ?_; intro gh hg_gh w3 hb_gh hk_gh; have Hg_gh := Aside0.mk hg_gh; clear hg_gh); have HK3 := Aside0.mk ((hk_gr.trans hk_g).trans hk_gh); have HZ3 := Aside0.mk ((hk_gh.block gr (by have := blk_lt hb_gr; have := hk_g.size; omega) id).trans ((hk_g.block gr (blk_lt hb_gr) id).trans hb_gr)); have HB3 := Aside0.mk (show w3.heap[gh]? = some (.cells (c64 ([] ++ List.replicate 10 0)) 88 (0, 0)) from hb_gh); have HS3 := Aside0.mk (show Rs w w3 g l0 [] false 64 A0 c0 none 0 from ⟨(hk_gh.block g (blk_lt hb_g) id).trans hb_g, HC.out, HL.out, Kd.C_nil _ _, Nat.le_refl _, by have := Hg_g.out; have := hk_gr.size; omega, HK3.out.below (fun _ _ q => q.elim) (Nat.le_refl _)⟩); have HNE := Aside0.mk (show (gr ≠ g ∧ gh ≠ g ∧ gr ≠ gh) ∧ w.heap.size ≤ gr ∧ w.heap.size ≤ gh from ⟨⟨by have := blk_lt hb_gr; have := Hg_g.out; omega, by have := blk_lt hb_g; have := Hg_gh.out; omega, by have := blk_lt hb_gr; have := hk_g.size; have := Hg_gh.out; omega⟩, by have := Hg_gr.out; omega, by have := Hg_gh.out; have := hk_gr.size; have := hk_g.size; omega⟩); clear hb_gr hb_g hb_gh hk_gr hk_g hk_gh) | fail)
    go_loopg [13] 10 (fun kq v13 w' => ∃ (i : Nat) (hs t : List Int) (b : Bool) (At : Option Addr) (ct : Nat), v13 = .int .i64 (i : Int) ∧ Aside0 (kq + i = 10) ∧ Aside0 (hs.length = i) ∧ Aside0 (hs ++ (rhead (10 - i) t b).1 = (rhead 10 l0 false).1 ∧ (rhead (10 - i) t b).2 = (rhead 10 l0 false).2 ∧ t.length < 1099511627776) ∧ Aside0 (Rs w w' g t [] b 64 At ct none 0) ∧ Aside0 (w'.heap[gh]? = some (.cells (c64 (hs ++ List.replicate (10 - i) 0)) 88 (0, 0))) ∧ Aside0 (w'.heap[gr]? = some (.cells #[.string ⟨#[]⟩, .slice none 0 0, .slice none 0 0] 32 (0, 0))))
    case atStart => exact ⟨0, [], l0, false, A0, c0, rfl, ⟨rfl⟩, ⟨rfl⟩, ⟨rfl, rfl, by have := HLL.out; omega⟩, HS3, HB3, HZ3⟩
    case round =>
      clear HK3 HZ3 HB3 HS3
      obtain ⟨i, hs, t, b, At, ct, rfl, HI, HH, HE, HS, HB, HZ⟩ := hrel
      cases gk with
      | succ k1 =>
        have hi := HI.out
        have hlt : i < 10 := by omega
        have e10 : 10 - i = (10 - (i + 1)) + 1 := by omega
        have hE := HE.out
        have hB := HB.out
        rw [e10] at hE hB
        simp only [rhead] at hE
        have D6 : ∃ v t6 b6, v = wv t ∧ t6 = rw4 t ∧ b6 = rbad t b ∧ Aside0 (Calls Try.prog 38 #[.pointer (some ⟨g, 0, none⟩)] wr fun e w2 => ∃ At' ct', e = .returned (.int .u32 v) ∧ Rs w w2 g t6 [] b6 64 At' ct' none 0 ∧ Kp wr w2 (fun i => i = g)) := ⟨_, _, _, rfl, rfl, rfl, ⟨rword_c w wr g t [] b 64 At ct none 0 HS.out HE.out.2.2⟩⟩
        obtain ⟨v, t6, b6, hv, ht6, hb6, D6⟩ := D6
        rw [← hv, ← ht6, ← hb6] at hE
        have hv0 : 0 ≤ v ∧ v < 4294967296 := by rw [hv]; exact wv_range t
        have HE6 := Aside0.mk (show (hs ++ [v]) ++ (rhead (10 - (i + 1)) t6 b6).1 = (rhead 10 l0 false).1 ∧ (rhead (10 - (i + 1)) t6 b6).2 = (rhead 10 l0 false).2 ∧ t6.length < 1099511627776 from ⟨by rw [List.append_assoc]; exact hE.1, hE.2.1, by rw [ht6]; have := rw4_len t; omega⟩)
        have s1 : IntKind.u64.wrap v = v := by unfold IntKind.wrap; simp only [IntKind.signed, IntKind.bits]; simp; omega
        have d0 : decide ((i : Int) < 10) = true := decide_eq_true (by omega)
        have d1 : decide (i < 10) = true := decide_eq_true hlt
        have d2 := eq_true (show (0 : Int) ≤ (i : Int) by omega)
        have d3 := eq_true (show (i : Int) < 10 by omega)
        have d4 := eq_true hlt
        have d5 : (i : Int) < 65536 := by omega
        have hil : i < (hs ++ List.replicate ((10 - (i + 1)) + 1) (0 : Int)).length := by rw [List.length_append, List.length_replicate, HH.out]; omega
        have HBB := Aside0.mk hB
        have HIL := Aside0.mk hil
        have HLT := Aside0.mk hlt
        clear hi hE hB hv ht6 hb6 HE hv0 hil e10 hlt
        go_wp2_with (first | ((with_reducible refine gate_callee (f := 38) rfl ?_); refine goesL_ (some 18) rfl rfl Try.func38 (by kernel_rfl) rfl #[.pointer (some ⟨g, 0, none⟩)] rfl (by simp only [List.map_toArray, List.map_cons, List.map_nil]; rfl) ?_; (with_reducible refine D6.out.mono ?_); rintro e w6 ⟨At6, ct6, rfl, hr6, hk6⟩; refine ⟨_, rfl, ?_⟩; have hb6 := (hk6.block gh (blk_lt HB.out) HNE.out.1.2.1).trans HBB.out; have hz6 := (hk6.block gr (blk_lt HZ.out) HNE.out.1.1).trans HZ.out; have q6 : w6.cell? ⟨gh, i, none⟩ = some (.int .u64 (rd (hs ++ List.replicate ((10 - (i + 1)) + 1) (0 : Int)) (i : Int))) := (blk_cell hb6 i).trans (c64_get HIL.out); have f6 : w6.frozen? ⟨gh, i, none⟩ = false := blk_frozen hb6 i; have HS6 := Aside0.mk hr6; have HB6 := Aside0.mk hb6; have HZ6 := Aside0.mk hz6; clear hr6 hk6 hb6 hz6 HS HB HZ HBB) | fail)
        obtain ⟨m1, m2⟩ := put_at HB6.out i (.int .u64 v) (c64 ((hs ++ [v]) ++ List.replicate (10 - (i + 1)) 0)) (by rw [c64_set]; congr 1; rw [← set_mid, HH.out])
        have HB7 := Aside0.mk m1
        have HS7 := Aside0.mk (HS6.out.kp m2 (fun e => HNE.out.1.2.1 e.symm) (fun k hk e => by have := HNE.out.2.2; omega))
        have HZ7 := Aside0.mk ((m2.block gr (blk_lt HZ6.out) HNE.out.1.2.2).trans HZ6.out)
        clear m1 m2
        go_roundg k1
        case measure => omega
        case rel => exact ⟨i + 1, hs ++ [v], t6, b6, At6, ct6, by go_num, ⟨by have := HI.out; omega⟩, ⟨by rw [List.length_append, HH.out]; rfl⟩, HE6, HS7, HB7, HZ7⟩
      | zero =>
        obtain rfl : i = 10 := by have := HI.out; omega
        have hE := HE.out
        have e1 : hs = (rhead 10 l0 false).1 := by have := hE.1; simpa [rhead] using this
        have e2 : b = (rhead 10 l0 false).2.2 := congrArg Prod.snd hE.2.1
        have hR := HR.out
        rw [← e2, ← e1] at hR
        have hrng : ∀ x ∈ hs, 0 ≤ x ∧ x < 4294967296 := by rw [e1]; exact rhead_range 10 l0 false
        have hrd : ∀ j : Nat, j < 10 → 0 ≤ rd hs (j : Int) ∧ rd hs (j : Int) < 4294967296 := by
          intro j hj
          have hj' : j < hs.length := by rw [HH.out]; exact hj
          have : rd hs (j : Int) = hs[j] := by simp [rd, hj']
          rw [this]
          exact hrng _ (List.getElem_mem hj')
        have hB := HB.out
        rw [show (10 - 10 : Nat) = 0 from rfl, List.replicate_zero, List.append_nil] at hB
        have hq : ∀ j : Nat, j < 10 → wr.cell? ⟨gh, j, none⟩ = some (.int .u64 (rd hs (j : Int))) := fun j hj => (blk_cell hB j).trans (c64_get (by rw [HH.out]; exact hj))
        have a2 : wr.cell? ⟨gh, 2, none⟩ = some (.int .u64 (rd hs 2)) := hq 2 (by omega)
        have a3 : wr.cell? ⟨gh, 3, none⟩ = some (.int .u64 (rd hs 3)) := hq 3 (by omega)
        have a8 : wr.cell? ⟨gh, 8, none⟩ = some (.int .u64 (rd hs 8)) := hq 8 (by omega)
        have a9 : wr.cell? ⟨gh, 9, none⟩ = some (.int .u64 (rd hs 9)) := hq 9 (by omega)
        have i2 : 0 ≤ rd hs 2 ∧ rd hs 2 < 4294967296 := hrd 2 (by omega)
        have i3 : 0 ≤ rd hs 3 ∧ rd hs 3 < 4294967296 := hrd 3 (by omega)
        have i8 : 0 ≤ rd hs 8 ∧ rd hs 8 < 4294967296 := hrd 8 (by omega)
        have i9 : 0 ≤ rd hs 9 ∧ rd hs 9 < 4294967296 := hrd 9 (by omega)
        have c2 : wr.cell? ⟨g, 2, none⟩ = some (.bool b) := blk_cell HS.out.b 2
        have s2 : IntKind.u64.wrap (l0.length : Int) = (l0.length : Int) := by have := HLL.out; unfold IntKind.wrap; simp only [IntKind.signed, IntKind.bits]; simp; omega
        have z0 : (wr).cell? ⟨gr, 0, none⟩ = some (.string ⟨#[]⟩) := blk_cell HZ.out 0; have z1 : (wr).cell? ⟨gr, 1, none⟩ = some (.slice none 0 0) := blk_cell HZ.out 1; have z2 : (wr).cell? ⟨gr, 2, none⟩ = some (.slice none 0 0) := blk_cell HZ.out 2; have y0 : (wr).frozen? ⟨gr, 0, none⟩ = false := blk_frozen HZ.out 0; have y1 : (wr).frozen? ⟨gr, 1, none⟩ = false := blk_frozen HZ.out 1; have y2 : (wr).frozen? ⟨gr, 2, none⟩ = false := blk_frozen HZ.out 2; 
        unfold fdt_Parse.g at hR
        generalize rd hs 2 = x2 at *
        generalize rd hs 3 = x3 at *
        generalize rd hs 8 = x8 at *
        generalize rd hs 9 = x9 at *
        have II := Aside0.mk (And.intro i2 (And.intro i3 (And.intro i8 i9)))
        clear hE e1 e2 hrng hrd hB hq HE HR i2 i3 i8 i9
        cases b with
        | true =>
          rw [if_pos rfl] at hR
          obtain rfl := Option.some.inj hR
          clear hR
          go_wp2
          obtain ⟨p1, p2⟩ := put3r HZ.out (.string ⟨#[]⟩) (.slice none 0 0) (.slice none 0 0)
          have hbel := HS.out.be.trans (p2.below (fun k hk e => by have := HNE.out.2.1; omega) HS.out.be.size)
          refine bodyPost_ret (results_ct rfl _ _ gr 32 (#[.string ⟨#[]⟩, .slice none 0 0, .slice none 0 0]) (0, 0) _ rfl p1 Try.underlying32 rfl (by kernel_rfl)) rfl ?_
          exact ⟨_, _, rfl, Kd.N_nil _ _ _ _ _, Kd.N_nil _ _ _ _ _, hbel⟩
        | false =>
          rw [if_neg (by decide)] at hR
          obtain ⟨w1, hx1, hR⟩ := Option.bind_eq_some_iff.mp hR
          have HX1 := Aside0.mk hx1
          cases w1 with
          | false =>
            rw [if_neg (by decide)] at hR
            obtain rfl := Option.some.inj hR
            clear hR hx1
            go_wp2_with (first | (go_at_call 39; (with_reducible refine (word_Within.calls x2 x9 0 (l0.length : Int) false _ HX1.out).mono ?_); rintro e wa ⟨rfl, hw⟩; obtain ⟨n1, rfl⟩ := hw.out; clear hw) | fail)
            obtain ⟨p1, p2⟩ := put3r (show (wr.drewN n1).heap[gr]? = _ from HZ.out) (.string ⟨#[]⟩) (.slice none 0 0) (.slice none 0 0)
            have hbel := (HS.out.kp ((Kp.refl wr (fun _ => False)).drewN n1) id (fun _ _ q => q.elim)).be.trans (p2.below (fun k hk e => by have := HNE.out.2.1; omega) (HS.out.kp ((Kp.refl wr (fun _ => False)).drewN n1) id (fun _ _ q => q.elim)).be.size)
            refine bodyPost_ret (results_ct rfl _ _ gr 32 (#[.string ⟨#[]⟩, .slice none 0 0, .slice none 0 0]) (0, 0) _ rfl p1 Try.underlying32 rfl (by kernel_rfl)) rfl ?_
            exact ⟨_, _, rfl, Kd.N_nil _ _ _ _ _, Kd.N_nil _ _ _ _ _, hbel⟩
          | true =>
            rw [if_pos rfl] at hR
            obtain ⟨w2, hx2, hR⟩ := Option.bind_eq_some_iff.mp hR
            have HX2 := Aside0.mk hx2
            cases w2 with
            | false =>
              rw [if_neg (by decide)] at hR
              obtain rfl := Option.some.inj hR
              clear hR hx1 hx2
              go_wp2_with (first | (go_at_call 39; (with_reducible refine (word_Within.calls x2 x9 0 (l0.length : Int) true _ HX1.out).mono ?_); rintro e wa ⟨rfl, hw⟩; obtain ⟨n1, rfl⟩ := hw.out; clear hw) | (go_at_call 39; (with_reducible refine (word_Within.calls x3 x8 0 (l0.length : Int) false _ HX2.out).mono ?_); rintro e wa ⟨rfl, hw⟩; obtain ⟨n2, rfl⟩ := hw.out; clear hw) | fail)
              obtain ⟨p1, p2⟩ := put3r (show (wr.drewN (n1 + n2)).heap[gr]? = _ from HZ.out) (.string ⟨#[]⟩) (.slice none 0 0) (.slice none 0 0)
              have hbel := (HS.out.kp ((Kp.refl wr (fun _ => False)).drewN (n1 + n2)) id (fun _ _ q => q.elim)).be.trans (p2.below (fun k hk e => by have := HNE.out.2.1; omega) (HS.out.kp ((Kp.refl wr (fun _ => False)).drewN (n1 + n2)) id (fun _ _ q => q.elim)).be.size)
              refine bodyPost_ret (results_ct rfl _ _ gr 32 (#[.string ⟨#[]⟩, .slice none 0 0, .slice none 0 0]) (0, 0) _ rfl p1 Try.underlying32 rfl (by kernel_rfl)) rfl ?_
              exact ⟨_, _, rfl, Kd.N_nil _ _ _ _ _, Kd.N_nil _ _ _ _ _, hbel⟩
            | true =>
              rw [if_pos rfl] at hR
              have HRR := Aside0.mk hR
              clear hR hx1 hx2
              go_wp2_with (first | (go_at_call 39; (with_reducible refine (word_Within.calls x2 x9 0 (l0.length : Int) true _ HX1.out).mono ?_); rintro e wa ⟨rfl, hw⟩; obtain ⟨n1, rfl⟩ := hw.out; clear hw) | (go_at_call 39; (with_reducible refine (word_Within.calls x3 x8 0 (l0.length : Int) true _ HX2.out).mono ?_); rintro e wa ⟨rfl, hw⟩; obtain ⟨n2, rfl⟩ := hw.out; clear hw) | fail)
              have o1 := within_ok HX1.out II.out.1 II.out.2.2.2 (by have := HLL.out; omega)
              have o2 := within_ok HX2.out II.out.2.1 II.out.2.2.1 (by have := HLL.out; omega)
              obtain ⟨m2, rfl⟩ : ∃ m : Nat, x2 = (m : Int) := ⟨x2.toNat, by have := II.out.1; omega⟩
              obtain ⟨m3, rfl⟩ : ∃ m : Nat, x3 = (m : Int) := ⟨x3.toNat, by have := II.out.2.1; omega⟩
              obtain ⟨m8, rfl⟩ : ∃ m : Nat, x8 = (m : Int) := ⟨x8.toNat, by have := II.out.2.2.1; omega⟩
              obtain ⟨m9, rfl⟩ : ∃ m : Nat, x9 = (m : Int) := ⟨x9.toNat, by have := II.out.2.2.2; omega⟩
              obtain ⟨p2, hp2⟩ : ∃ p : Nat, p = m2 + m9 := ⟨_, rfl⟩
              obtain ⟨p3, hp3⟩ : ∃ p : Nat, p = m3 + m8 := ⟨_, rfl⟩
              have s3 : IntKind.u64.wrap ((m2 : Int) + (m9 : Int)) = (p2 : Int) := by have := HLL.out; unfold IntKind.wrap; simp only [IntKind.signed, IntKind.bits]; simp; omega
              have s4 : IntKind.u64.wrap ((m3 : Int) + (m8 : Int)) = (p3 : Int) := by have := HLL.out; unfold IntKind.wrap; simp only [IntKind.signed, IntKind.bits]; simp; omega
              have OO := Aside0.mk (show m2 ≤ p2 ∧ p2 ≤ l0.length ∧ m3 ≤ p3 ∧ p3 ≤ l0.length from ⟨by omega, by omega, by omega, by omega⟩)
              have hR := HRR.out
              rw [show ((m2 : Int) + (m9 : Int)).toNat = p2 by omega, show ((m3 : Int) + (m8 : Int)).toNat = p3 by omega, Int.toNat_natCast, Int.toNat_natCast] at hR
              obtain ⟨t, ht⟩ : ∃ t, t = (l0.take p2).drop m2 := ⟨_, rfl⟩
              obtain ⟨nm, hnm⟩ : ∃ t, t = (l0.take p3).drop m3 := ⟨_, rfl⟩
              rw [← ht, ← hnm] at hR
              have HC1 := Aside0.mk (show Kd.C U8 w (if c0 = m2 then A0 else A0.map (·.add m2)) t.length t ∧ t.length = p2 - m2 from ⟨by rw [ht]; have := Kd.C_mid (lo := m2) (hi := p2) (c := c0) HC.out OO.out.1 OO.out.2.1 HL.out; rw [show m2 * U8.sz = m2 from Nat.mul_one m2] at this; exact this, by rw [ht, List.length_drop, List.length_take]; have := OO.out; omega⟩)
              have HC2 := Aside0.mk (show Kd.C U8 w (if c0 = m3 then A0 else A0.map (·.add m3)) nm.length nm ∧ nm.length = p3 - m3 from ⟨by rw [hnm]; have := Kd.C_mid (lo := m3) (hi := p3) (c := c0) HC.out OO.out.2.2.1 OO.out.2.2.2 HL.out; rw [show m3 * U8.sz = m3 from Nat.mul_one m3] at this; exact this, by rw [hnm, List.length_drop, List.length_take]; have := OO.out; omega⟩)
              have HR2 := Aside0.mk hR
              have r0 := eq_true (show (0 : Int) ≤ (m2 : Int) by omega)
              have r1 := eq_true (show (0 : Int) ≤ (m3 : Int) by omega)
              have r2 := eq_true (show (m2 : Int) ≤ (p2 : Int) by have := OO.out; omega)
              have r3 := eq_true (show (m3 : Int) ≤ (p3 : Int) by have := OO.out; omega)
              have r4 := eq_true (show (p2 : Int) ≤ (c0 : Int) by have := OO.out; have := HL.out; omega)
              have r5 := eq_true (show (p3 : Int) ≤ (c0 : Int) by have := OO.out; have := HL.out; omega)
              have r6 := eq_true (show m2 ≤ p2 by have := OO.out; omega)
              have r7 := eq_true (show m3 ≤ p3 by have := OO.out; omega)
              have r8 := eq_true (show p2 ≤ c0 by have := OO.out; have := HL.out; omega)
              have r9 := eq_true (show p3 ≤ c0 by have := OO.out; have := HL.out; omega)
              have cg0 : wr.cell? ⟨g, 0, none⟩ = some (.slice At _ ct) := blk_cell HS.out.b 0
              have cg1 : wr.cell? ⟨g, 1, none⟩ = some (.slice none 0 0) := blk_cell HS.out.b 1
              have fg0 : wr.frozen? ⟨g, 0, none⟩ = false := blk_frozen HS.out.b 0
              have fg1 : wr.frozen? ⟨g, 1, none⟩ = false := blk_frozen HS.out.b 1
              clear hR HRR o1 o2 hp2 hp3 ht hnm
              go_cut [] (fun wc => ∃ (At' : Option Addr) (ct' : Nat) (An' : Option Addr) (cn' : Nat), Aside0 (Rs w wc g t nm false 64 At' ct' An' cn') ∧ Aside0 (wc.heap[gr]? = some (.cells #[.string ⟨#[]⟩, .slice none 0 0, .slice none 0 0] 32 (0, 0))))
              case first =>
                have hgg : gh ≠ g := HNE.out.1.2.1
                have hc1 := HC1.out.1
                have hc2 := HC2.out.1
                have l1 := HC1.out.2
                have l2 := HC2.out.2
                have HSn : Rs w (wr.drewN (n1 + n2 + 1)) g _ _ false 64 At ct none 0 := HS.out.kp ((Kp.refl wr (fun _ => False)).drewN (n1 + n2 + 1)) id (fun _ _ q => q.elim)
                have HZn : (wr.drewN (n1 + n2 + 1)).heap[gr]? = some (.cells #[.string ⟨#[]⟩, .slice none 0 0, .slice none 0 0] 32 (0, 0)) := HZ.out
                have HX3 := Aside0.mk (And.intro hc1 (And.intro hc2 (And.intro l1 (And.intro l2 (And.intro HSn HZn)))))
                clear hc1 hc2 l1 l2 HSn HZn
                by_cases q2 : c0 = m2
                · subst q2
                  by_cases q3 : c0 = m3
                  · subst q3
                    go_region_held3 (fun W => W.cell? ⟨gh, 2, none⟩ = some (.int .u64 (c0 : Int)) ∧ W.cell? ⟨gh, 3, none⟩ = some (.int .u64 (c0 : Int)) ∧ W.cell? ⟨gh, 8, none⟩ = some (.int .u64 (m8 : Int)) ∧ W.cell? ⟨gh, 9, none⟩ = some (.int .u64 (m9 : Int))) (first | exact ⟨a2, a3, a8, a9⟩ | simp [World.cell?_setCell_far, hgg, hgg.symm, a2, a3, a8, a9]) (fail)
                    go_wp2
                    obtain ⟨hc1, hc2, l1, l2, HSn, HZn⟩ := HX3.out
                    rw [if_pos trivial] at hc1
                    rw [if_pos trivial] at hc2
                    have oo := OO.out; have ll := HL.out
                    have R2 := Aside0.mk (rs_two A0 A0 0 0 0 0 HSn (by omega) (by omega) hc1 (by omega) hc2 (by omega))
                    have Z2 := Aside0.mk ((R2.out.2.block gr (blk_lt HZn) HNE.out.1.1).trans HZn)
                    clear hc1 hc2 l1 l2 HSn HZn oo ll
                    go_meet
                    case rel => exact ⟨_, _, _, _, ⟨R2.out.1⟩, Z2⟩
                  · have u3 := eq_false q3
                    go_region_held3 (fun W => W.cell? ⟨gh, 2, none⟩ = some (.int .u64 (c0 : Int)) ∧ W.cell? ⟨gh, 3, none⟩ = some (.int .u64 (m3 : Int)) ∧ W.cell? ⟨gh, 8, none⟩ = some (.int .u64 (m8 : Int)) ∧ W.cell? ⟨gh, 9, none⟩ = some (.int .u64 (m9 : Int))) (first | exact ⟨a2, a3, a8, a9⟩ | simp [World.cell?_setCell_far, hgg, hgg.symm, a2, a3, a8, a9]) (fail)
                    go_wp2
                    obtain ⟨hc1, hc2, l1, l2, HSn, HZn⟩ := HX3.out
                    rw [if_pos trivial] at hc1
                    rw [if_neg q3] at hc2
                    have oo := OO.out; have ll := HL.out
                    have R2 := Aside0.mk (rs_two A0 (Option.map (fun x => x.add m3) A0) 0 0 (p3 - m3) (c0 - m3) HSn (by omega) (by omega) hc1 (by omega) hc2 (by omega))
                    have Z2 := Aside0.mk ((R2.out.2.block gr (blk_lt HZn) HNE.out.1.1).trans HZn)
                    clear hc1 hc2 l1 l2 HSn HZn oo ll
                    go_meet
                    case rel => exact ⟨_, _, _, _, ⟨R2.out.1⟩, Z2⟩
                · have u2 := eq_false q2
                  by_cases q3 : c0 = m3
                  · subst q3
                    go_region_held3 (fun W => W.cell? ⟨gh, 2, none⟩ = some (.int .u64 (m2 : Int)) ∧ W.cell? ⟨gh, 3, none⟩ = some (.int .u64 (c0 : Int)) ∧ W.cell? ⟨gh, 8, none⟩ = some (.int .u64 (m8 : Int)) ∧ W.cell? ⟨gh, 9, none⟩ = some (.int .u64 (m9 : Int))) (first | exact ⟨a2, a3, a8, a9⟩ | simp [World.cell?_setCell_far, hgg, hgg.symm, a2, a3, a8, a9]) (fail)
                    go_wp2
                    obtain ⟨hc1, hc2, l1, l2, HSn, HZn⟩ := HX3.out
                    rw [if_neg q2] at hc1
                    rw [if_pos trivial] at hc2
                    have oo := OO.out; have ll := HL.out
                    have R2 := Aside0.mk (rs_two (Option.map (fun x => x.add m2) A0) A0 (p2 - m2) (c0 - m2) 0 0 HSn (by omega) (by omega) hc1 (by omega) hc2 (by omega))
                    have Z2 := Aside0.mk ((R2.out.2.block gr (blk_lt HZn) HNE.out.1.1).trans HZn)
                    clear hc1 hc2 l1 l2 HSn HZn oo ll
                    go_meet
                    case rel => exact ⟨_, _, _, _, ⟨R2.out.1⟩, Z2⟩
                  · have u3 := eq_false q3
                    go_region_held3 (fun W => W.cell? ⟨gh, 2, none⟩ = some (.int .u64 (m2 : Int)) ∧ W.cell? ⟨gh, 3, none⟩ = some (.int .u64 (m3 : Int)) ∧ W.cell? ⟨gh, 8, none⟩ = some (.int .u64 (m8 : Int)) ∧ W.cell? ⟨gh, 9, none⟩ = some (.int .u64 (m9 : Int))) (first | exact ⟨a2, a3, a8, a9⟩ | simp [World.cell?_setCell_far, hgg, hgg.symm, a2, a3, a8, a9]) (fail)
                    go_wp2
                    obtain ⟨hc1, hc2, l1, l2, HSn, HZn⟩ := HX3.out
                    rw [if_neg q2] at hc1
                    rw [if_neg q3] at hc2
                    have oo := OO.out; have ll := HL.out
                    have R2 := Aside0.mk (rs_two (Option.map (fun x => x.add m2) A0) (Option.map (fun x => x.add m3) A0) (p2 - m2) (c0 - m2) (p3 - m3) (c0 - m3) HSn (by omega) (by omega) hc1 (by omega) hc2 (by omega))
                    have Z2 := Aside0.mk ((R2.out.2.block gr (blk_lt HZn) HNE.out.1.1).trans HZn)
                    clear hc1 hc2 l1 l2 HSn HZn oo ll
                    go_meet
                    case rel => exact ⟨_, _, _, _, ⟨R2.out.1⟩, Z2⟩
              case rest =>
                obtain ⟨At2, ct2, An2, cn2, HS2, HZ2⟩ := hcut
                have hR := HR2.out
                have D6 : ∃ v t6 b6, v = wv t ∧ t6 = rw4 t ∧ b6 = rbad t false ∧ Aside0 (Calls Try.prog 38 #[.pointer (some ⟨g, 0, none⟩)] wc fun e w2 => ∃ At' ct', e = .returned (.int .u32 v) ∧ Rs w w2 g t6 nm b6 64 At' ct' An2 cn2 ∧ Kp wc w2 (fun i => i = g)) := ⟨_, _, _, rfl, rfl, rfl, ⟨rword_c w wc g t nm false 64 At2 ct2 An2 cn2 HS2.out (by have := HC1.out.2; have := OO.out; have := HLL.out; omega)⟩⟩
                obtain ⟨v, t6, b6, hv, ht6, hb6, D6⟩ := D6
                have HT6 := Aside0.mk (show t6.length < 1099511627776 from by rw [ht6]; have := rw4_len t; have := HC1.out.2; have := OO.out; have := HLL.out; omega)
                have HNM := Aside0.mk (show nm.length < 1099511627776 from by have := HC2.out.2; have := OO.out; have := HLL.out; omega)
                rw [← hv, ← ht6, ← hb6] at hR
                clear hv ht6 hb6 HR2 II a2 a3 a8 a9 s3 s4 r0 r1 r2 r3 r4 r5 r6 r7 r8 r9 cg0 cg1 fg0 fg1 c2 z0 z1 z2 y0 y1 y2
                by_cases v1_ : v = 1
                · subst v1_
                  rw [if_pos rfl] at hR
                  obtain ⟨⟨nn, t7, b7, l7⟩, hnd, hR⟩ := Option.bind_eq_some_iff.mp hR
                  have HND := Aside0.mk hnd
                  cases b7 with
                  | true =>
                    rw [if_pos rfl] at hR
                    obtain rfl := Option.some.inj hR
                    clear hR hnd
                    go_wp2_with (first | ((with_reducible refine gate_callee (f := 38) rfl ?_); refine goesL_ (some 74) rfl rfl Try.func38 (by kernel_rfl) rfl #[.pointer (some ⟨g, 0, none⟩)] rfl (by simp only [List.map_toArray, List.map_cons, List.map_nil]; rfl) ?_; (with_reducible refine D6.out.mono ?_); rintro e w6 ⟨At6, ct6, rfl, hr6, hk6⟩; refine ⟨_, rfl, ?_⟩; have hz6 := (hk6.block gr (blk_lt HZ2.out) HNE.out.1.1).trans HZ2.out; have HS6 := Aside0.mk hr6; have HZ6 := Aside0.mk hz6; clear hr6 hk6 hz6 HS2 HZ2) | ((with_reducible refine gate_callee (f := 40) rfl ?_); refine goesL_ (some 78) rfl rfl Try.func40 (by kernel_rfl) rfl #[.pointer (some ⟨g, 0, none⟩), .int .i64 1] rfl (by simp only [List.map_toArray, List.map_cons, List.map_nil]; rfl) ?_; (with_reducible refine (rnode_c w k _ g t6 nm b6 64 1 _ _ _ _ HS6.out HT6.out HNM.out nn t7 true l7 HND.out).mono ?_); rintro e w7 ⟨va, vb, At7, ct7, rfl, hna, hnb, hr7, hk7⟩; refine ⟨_, rfl, ?_⟩; obtain ⟨Aa, ca, rfl⟩ := Kd.N_slice hna; obtain ⟨Ab, cb, rfl⟩ := Kd.N_slice hnb; have hz7 := (hk7.block gr (blk_lt HZ6.out) HNE.out.1.1).trans HZ6.out; have HN8 := Aside0.mk (show (Kd.N k74 74 (w7.alloc (.cells #[.string nn.f0, .slice Aa nn.f1.length ca, .slice Ab nn.f2.length cb] 32)) w.heap.size (fun k => w.heap.size ≤ k ∧ k ≠ gr ∧ some k ≠ (Value.slice Ab nn.f2.length cb).ownBlock) (.slice Aa nn.f1.length ca) nn.f1 ∧ Kd.N k32 32 (w7.alloc (.cells #[.string nn.f0, .slice Aa nn.f1.length ca, .slice Ab nn.f2.length cb] 32)) w.heap.size (fun k => w.heap.size ≤ k ∧ k ≠ gr ∧ some k ≠ (Value.slice Aa nn.f1.length ca).ownBlock) (.slice Ab nn.f2.length cb) nn.f2) from ⟨Kd.N_alloc (Kd.N_mono hna (fun k q => ⟨Nat.le_trans HS6.out.be.size q.1, fun e => by have := blk_lt HZ6.out; have := q.1; omega, q.2⟩)) _, Kd.N_alloc (Kd.N_mono hnb (fun k q => ⟨Nat.le_trans HS6.out.be.size q.1, fun e => by have := blk_lt HZ6.out; have := q.1; omega, q.2⟩)) _⟩); have hs8 := hr7.kp (w' := (w7.alloc (.cells #[.string nn.f0, .slice Aa nn.f1.length ca, .slice Ab nn.f2.length cb] 32))) ((Kp.refl w7 (fun _ => False)).alloc _) id (fun _ _ q => q.elim); have hz8 := blk_alloc hz7 (.cells #[.string nn.f0, .slice Aa nn.f1.length ca, .slice Ab nn.f2.length cb] 32); have hb8 : (w7.alloc (.cells #[.string nn.f0, .slice Aa nn.f1.length ca, .slice Ab nn.f2.length cb] 32)).heap[w7.heap.size]? = some (.cells #[.string nn.f0, .slice Aa nn.f1.length ca, .slice Ab nn.f2.length cb] 32 (0, 0)) := (by simpa using heap_alloc_new w7 _); have HS8 := Aside0.mk hs8; have HZ8 := Aside0.mk hz8; have HB8 := Aside0.mk hb8; have cb8 : (w7.alloc (.cells #[.string nn.f0, .slice Aa nn.f1.length ca, .slice Ab nn.f2.length cb] 32)).cell? ⟨g, 2, none⟩ = some (.bool true) := blk_cell hs8.b 2; have n80 : ((w7.alloc (.cells #[.string nn.f0, .slice Aa nn.f1.length ca, .slice Ab nn.f2.length cb] 32))).cell? ⟨w7.heap.size, 0, none⟩ = some (.string nn.f0) := blk_cell hb8 0; have n81 : ((w7.alloc (.cells #[.string nn.f0, .slice Aa nn.f1.length ca, .slice Ab nn.f2.length cb] 32))).cell? ⟨w7.heap.size, 1, none⟩ = some (.slice Aa nn.f1.length ca) := blk_cell hb8 1; have n82 : ((w7.alloc (.cells #[.string nn.f0, .slice Aa nn.f1.length ca, .slice Ab nn.f2.length cb] 32))).cell? ⟨w7.heap.size, 2, none⟩ = some (.slice Ab nn.f2.length cb) := blk_cell hb8 2; have z0 : ((w7.alloc (.cells #[.string nn.f0, .slice Aa nn.f1.length ca, .slice Ab nn.f2.length cb] 32))).cell? ⟨gr, 0, none⟩ = some (.string ⟨#[]⟩) := blk_cell hz8 0; have z1 : ((w7.alloc (.cells #[.string nn.f0, .slice Aa nn.f1.length ca, .slice Ab nn.f2.length cb] 32))).cell? ⟨gr, 1, none⟩ = some (.slice none 0 0) := blk_cell hz8 1; have z2 : ((w7.alloc (.cells #[.string nn.f0, .slice Aa nn.f1.length ca, .slice Ab nn.f2.length cb] 32))).cell? ⟨gr, 2, none⟩ = some (.slice none 0 0) := blk_cell hz8 2; have y0 : ((w7.alloc (.cells #[.string nn.f0, .slice Aa nn.f1.length ca, .slice Ab nn.f2.length cb] 32))).frozen? ⟨gr, 0, none⟩ = false := blk_frozen hz8 0; have y1 : ((w7.alloc (.cells #[.string nn.f0, .slice Aa nn.f1.length ca, .slice Ab nn.f2.length cb] 32))).frozen? ⟨gr, 1, none⟩ = false := blk_frozen hz8 1; have y2 : ((w7.alloc (.cells #[.string nn.f0, .slice Aa nn.f1.length ca, .slice Ab nn.f2.length cb] 32))).frozen? ⟨gr, 2, none⟩ = false := blk_frozen hz8 2; clear hna hnb hr7 hk7 hz7 hs8 hz8 hb8 HS6 HZ6) | fail)
                    obtain ⟨p1, p2⟩ := put3r HZ8.out (.string ⟨#[]⟩) (.slice none 0 0) (.slice none 0 0)
                    have hbel := HS8.out.be.trans (p2.below (fun k hk e => by have := HNE.out.2.1; omega) HS8.out.be.size)
                    refine bodyPost_ret (results_ct rfl _ _ gr 32 (#[.string ⟨#[]⟩, .slice none 0 0, .slice none 0 0]) (0, 0) _ rfl p1 Try.underlying32 rfl (by kernel_rfl)) rfl ?_
                    exact ⟨_, _, rfl, Kd.N_nil _ _ _ _ _, Kd.N_nil _ _ _ _ _, hbel⟩
                  | false =>
                    rw [if_neg (by simp)] at hR
                    obtain ⟨⟨bb, be⟩, hby, hR⟩ := Option.bind_eq_some_iff.mp hR
                    have HBY := Aside0.mk (show fdt_Bytes.f k nn.f0 nn.f1 nn.f2 = some (bb, be) from hby)
                    by_cases e0 : be = 0
                    · subst e0
                      rw [if_pos rfl] at hR
                      by_cases es : (strOfNums bb).toList = (strOfNums l0).toList
                      · rw [if_pos es] at hR
                        obtain rfl := Option.some.inj hR
                        have q1 : ((strOfNums bb).toList == (strOfNums l0).toList) = true := beq_iff_eq.mpr es
                        have q2 : ((strOfNums bb).toList != (strOfNums l0).toList) = false := bne_eq_false_iff_eq.mpr es
                        clear hR hnd hby es
                        go_wp2_with (first | ((with_reducible refine gate_callee (f := 38) rfl ?_); refine goesL_ (some 74) rfl rfl Try.func38 (by kernel_rfl) rfl #[.pointer (some ⟨g, 0, none⟩)] rfl (by simp only [List.map_toArray, List.map_cons, List.map_nil]; rfl) ?_; (with_reducible refine D6.out.mono ?_); rintro e w6 ⟨At6, ct6, rfl, hr6, hk6⟩; refine ⟨_, rfl, ?_⟩; have hz6 := (hk6.block gr (blk_lt HZ2.out) HNE.out.1.1).trans HZ2.out; have HS6 := Aside0.mk hr6; have HZ6 := Aside0.mk hz6; clear hr6 hk6 hz6 HS2 HZ2) | ((with_reducible refine gate_callee (f := 40) rfl ?_); refine goesL_ (some 78) rfl rfl Try.func40 (by kernel_rfl) rfl #[.pointer (some ⟨g, 0, none⟩), .int .i64 1] rfl (by simp only [List.map_toArray, List.map_cons, List.map_nil]; rfl) ?_; (with_reducible refine (rnode_c w k _ g t6 nm b6 64 1 _ _ _ _ HS6.out HT6.out HNM.out nn t7 false l7 HND.out).mono ?_); rintro e w7 ⟨va, vb, At7, ct7, rfl, hna, hnb, hr7, hk7⟩; refine ⟨_, rfl, ?_⟩; obtain ⟨Aa, ca, rfl⟩ := Kd.N_slice hna; obtain ⟨Ab, cb, rfl⟩ := Kd.N_slice hnb; have hz7 := (hk7.block gr (blk_lt HZ6.out) HNE.out.1.1).trans HZ6.out; have HN8 := Aside0.mk (show (Kd.N k74 74 (w7.alloc (.cells #[.string nn.f0, .slice Aa nn.f1.length ca, .slice Ab nn.f2.length cb] 32)) w.heap.size (fun k => w.heap.size ≤ k ∧ k ≠ gr ∧ some k ≠ (Value.slice Ab nn.f2.length cb).ownBlock) (.slice Aa nn.f1.length ca) nn.f1 ∧ Kd.N k32 32 (w7.alloc (.cells #[.string nn.f0, .slice Aa nn.f1.length ca, .slice Ab nn.f2.length cb] 32)) w.heap.size (fun k => w.heap.size ≤ k ∧ k ≠ gr ∧ some k ≠ (Value.slice Aa nn.f1.length ca).ownBlock) (.slice Ab nn.f2.length cb) nn.f2) from ⟨Kd.N_alloc (Kd.N_mono hna (fun k q => ⟨Nat.le_trans HS6.out.be.size q.1, fun e => by have := blk_lt HZ6.out; have := q.1; omega, q.2⟩)) _, Kd.N_alloc (Kd.N_mono hnb (fun k q => ⟨Nat.le_trans HS6.out.be.size q.1, fun e => by have := blk_lt HZ6.out; have := q.1; omega, q.2⟩)) _⟩); have hs8 := hr7.kp (w' := (w7.alloc (.cells #[.string nn.f0, .slice Aa nn.f1.length ca, .slice Ab nn.f2.length cb] 32))) ((Kp.refl w7 (fun _ => False)).alloc _) id (fun _ _ q => q.elim); have hz8 := blk_alloc hz7 (.cells #[.string nn.f0, .slice Aa nn.f1.length ca, .slice Ab nn.f2.length cb] 32); have hb8 : (w7.alloc (.cells #[.string nn.f0, .slice Aa nn.f1.length ca, .slice Ab nn.f2.length cb] 32)).heap[w7.heap.size]? = some (.cells #[.string nn.f0, .slice Aa nn.f1.length ca, .slice Ab nn.f2.length cb] 32 (0, 0)) := (by simpa using heap_alloc_new w7 _); have HS8 := Aside0.mk hs8; have HZ8 := Aside0.mk hz8; have HB8 := Aside0.mk hb8; have cb8 : (w7.alloc (.cells #[.string nn.f0, .slice Aa nn.f1.length ca, .slice Ab nn.f2.length cb] 32)).cell? ⟨g, 2, none⟩ = some (.bool false) := blk_cell hs8.b 2; have n80 : ((w7.alloc (.cells #[.string nn.f0, .slice Aa nn.f1.length ca, .slice Ab nn.f2.length cb] 32))).cell? ⟨w7.heap.size, 0, none⟩ = some (.string nn.f0) := blk_cell hb8 0; have n81 : ((w7.alloc (.cells #[.string nn.f0, .slice Aa nn.f1.length ca, .slice Ab nn.f2.length cb] 32))).cell? ⟨w7.heap.size, 1, none⟩ = some (.slice Aa nn.f1.length ca) := blk_cell hb8 1; have n82 : ((w7.alloc (.cells #[.string nn.f0, .slice Aa nn.f1.length ca, .slice Ab nn.f2.length cb] 32))).cell? ⟨w7.heap.size, 2, none⟩ = some (.slice Ab nn.f2.length cb) := blk_cell hb8 2; clear hna hnb hr7 hk7 hz7 hs8 hz8 hb8 HS6 HZ6) | ((with_reducible refine gate_callee (f := 11) rfl ?_); refine goesL_ (some 86) rfl rfl Try.func11 (by kernel_rfl) rfl #[.agg #[.string nn.f0, .slice Aa nn.f1.length ca, .slice Ab nn.f2.length cb]] rfl (by simp only [List.map_toArray, List.map_cons, List.map_nil]; rfl) ?_; (with_reducible refine (fdt_Bytes.calls k nn.f0 Aa ca nn.f1 Ab cb nn.f2 bb 0 _ (Kd.N_reads' HN8.out.1).2.2 (Kd.N_reads' HN8.out.1).2.1 (Kd.N_reads' HN8.out.2).2.2 (Kd.N_reads' HN8.out.2).2.1 HBY.out).mono ?_); rintro e w9 ⟨vo, rfl, ho9, hb9⟩; refine ⟨_, rfl, ?_⟩; obtain ⟨Ao, co, rfl⟩ := Kd.R_slice ho9; have HN9 := Aside0.mk (And.intro (Kd.N_below HN8.out.1 hb9) (Kd.N_below HN8.out.2 hb9)); have hz9 := blk_below HZ8.out hb9; have HZ9 := Aside0.mk hz9; have HBE9 := Aside0.mk (below_step HS8.out.be hb9); have HB9 := Aside0.mk (blk_below HB8.out hb9); have HO9 := Aside0.mk (Kd.R_reads' ho9).2.2; have z0 : (w9).cell? ⟨gr, 0, none⟩ = some (.string ⟨#[]⟩) := blk_cell hz9 0; have z1 : (w9).cell? ⟨gr, 1, none⟩ = some (.slice none 0 0) := blk_cell hz9 1; have z2 : (w9).cell? ⟨gr, 2, none⟩ = some (.slice none 0 0) := blk_cell hz9 2; have y0 : (w9).frozen? ⟨gr, 0, none⟩ = false := blk_frozen hz9 0; have y1 : (w9).frozen? ⟨gr, 1, none⟩ = false := blk_frozen hz9 1; have y2 : (w9).frozen? ⟨gr, 2, none⟩ = false := blk_frozen hz9 2; have hcv1 : Sem.run Try.prog (convert 25 9 (Value.slice Ao bb.length co)) w9 = Result.ok (Value.string (strOfNums bb)) w9 := Kd.C_string (P := Try.prog) (A := Ao) (c := co) Try.underlying25 Try.underlying5 Try.underlying9 HO9.out; have hcv2 : Sem.run Try.prog (convert 25 9 (Value.slice A0 l0.length c0)) w9 = Result.ok (Value.string (strOfNums l0)) w9 := Kd.C_string (P := Try.prog) (A := A0) (c := c0) Try.underlying25 Try.underlying5 Try.underlying9 (Kd.C_below HC.out HBE9.out);have m90 : (w9).cell? ⟨w7.heap.size, 0, none⟩ = some (.string nn.f0) := blk_cell HB9.out 0; have m91 : (w9).cell? ⟨w7.heap.size, 1, none⟩ = some (.slice Aa nn.f1.length ca) := blk_cell HB9.out 1; have m92 : (w9).cell? ⟨w7.heap.size, 2, none⟩ = some (.slice Ab nn.f2.length cb) := blk_cell HB9.out 2; clear ho9 hb9 hz9 HN8 HZ8 HB8 HS8) | fail)
                        obtain ⟨p1, p2⟩ := put3r HZ9.out (.string nn.f0) (.slice Aa nn.f1.length ca) (.slice Ab nn.f2.length cb)
                        have hbel := HBE9.out.trans (p2.below (fun k hk e => by have := HNE.out.2.1; omega) HBE9.out.size)
                        refine bodyPost_ret (results_ct rfl _ _ gr 32 (#[.string nn.f0, .slice Aa nn.f1.length ca, .slice Ab nn.f2.length cb]) (0, 0) _ rfl p1 Try.underlying32 rfl (by kernel_rfl)) rfl ?_
                        exact ⟨_, _, rfl, Kd.N_mono (Kd.N_kept HN9.out.1 (S := fun i => i = gr) ⟨p2.size, p2.block⟩ (fun k q e => q.2.1 e)) (fun k q => ⟨q.1, q.2.2⟩), Kd.N_mono (Kd.N_kept HN9.out.2 (S := fun i => i = gr) ⟨p2.size, p2.block⟩ (fun k q e => q.2.1 e)) (fun k q => ⟨q.1, q.2.2⟩), hbel⟩
                      · rw [if_neg es] at hR
                        obtain rfl := Option.some.inj hR
                        have q1 : ((strOfNums bb).toList == (strOfNums l0).toList) = false := beq_eq_false_iff_ne.mpr es
                        have q2 : ((strOfNums bb).toList != (strOfNums l0).toList) = true := bne_iff_ne.mpr es
                        clear hR hnd hby es
                        go_wp2_with (first | ((with_reducible refine gate_callee (f := 38) rfl ?_); refine goesL_ (some 74) rfl rfl Try.func38 (by kernel_rfl) rfl #[.pointer (some ⟨g, 0, none⟩)] rfl (by simp only [List.map_toArray, List.map_cons, List.map_nil]; rfl) ?_; (with_reducible refine D6.out.mono ?_); rintro e w6 ⟨At6, ct6, rfl, hr6, hk6⟩; refine ⟨_, rfl, ?_⟩; have hz6 := (hk6.block gr (blk_lt HZ2.out) HNE.out.1.1).trans HZ2.out; have HS6 := Aside0.mk hr6; have HZ6 := Aside0.mk hz6; clear hr6 hk6 hz6 HS2 HZ2) | ((with_reducible refine gate_callee (f := 40) rfl ?_); refine goesL_ (some 78) rfl rfl Try.func40 (by kernel_rfl) rfl #[.pointer (some ⟨g, 0, none⟩), .int .i64 1] rfl (by simp only [List.map_toArray, List.map_cons, List.map_nil]; rfl) ?_; (with_reducible refine (rnode_c w k _ g t6 nm b6 64 1 _ _ _ _ HS6.out HT6.out HNM.out nn t7 false l7 HND.out).mono ?_); rintro e w7 ⟨va, vb, At7, ct7, rfl, hna, hnb, hr7, hk7⟩; refine ⟨_, rfl, ?_⟩; obtain ⟨Aa, ca, rfl⟩ := Kd.N_slice hna; obtain ⟨Ab, cb, rfl⟩ := Kd.N_slice hnb; have hz7 := (hk7.block gr (blk_lt HZ6.out) HNE.out.1.1).trans HZ6.out; have HN8 := Aside0.mk (show (Kd.N k74 74 (w7.alloc (.cells #[.string nn.f0, .slice Aa nn.f1.length ca, .slice Ab nn.f2.length cb] 32)) w.heap.size (fun k => w.heap.size ≤ k ∧ k ≠ gr ∧ some k ≠ (Value.slice Ab nn.f2.length cb).ownBlock) (.slice Aa nn.f1.length ca) nn.f1 ∧ Kd.N k32 32 (w7.alloc (.cells #[.string nn.f0, .slice Aa nn.f1.length ca, .slice Ab nn.f2.length cb] 32)) w.heap.size (fun k => w.heap.size ≤ k ∧ k ≠ gr ∧ some k ≠ (Value.slice Aa nn.f1.length ca).ownBlock) (.slice Ab nn.f2.length cb) nn.f2) from ⟨Kd.N_alloc (Kd.N_mono hna (fun k q => ⟨Nat.le_trans HS6.out.be.size q.1, fun e => by have := blk_lt HZ6.out; have := q.1; omega, q.2⟩)) _, Kd.N_alloc (Kd.N_mono hnb (fun k q => ⟨Nat.le_trans HS6.out.be.size q.1, fun e => by have := blk_lt HZ6.out; have := q.1; omega, q.2⟩)) _⟩); have hs8 := hr7.kp (w' := (w7.alloc (.cells #[.string nn.f0, .slice Aa nn.f1.length ca, .slice Ab nn.f2.length cb] 32))) ((Kp.refl w7 (fun _ => False)).alloc _) id (fun _ _ q => q.elim); have hz8 := blk_alloc hz7 (.cells #[.string nn.f0, .slice Aa nn.f1.length ca, .slice Ab nn.f2.length cb] 32); have hb8 : (w7.alloc (.cells #[.string nn.f0, .slice Aa nn.f1.length ca, .slice Ab nn.f2.length cb] 32)).heap[w7.heap.size]? = some (.cells #[.string nn.f0, .slice Aa nn.f1.length ca, .slice Ab nn.f2.length cb] 32 (0, 0)) := (by simpa using heap_alloc_new w7 _); have HS8 := Aside0.mk hs8; have HZ8 := Aside0.mk hz8; have HB8 := Aside0.mk hb8; have cb8 : (w7.alloc (.cells #[.string nn.f0, .slice Aa nn.f1.length ca, .slice Ab nn.f2.length cb] 32)).cell? ⟨g, 2, none⟩ = some (.bool false) := blk_cell hs8.b 2; have n80 : ((w7.alloc (.cells #[.string nn.f0, .slice Aa nn.f1.length ca, .slice Ab nn.f2.length cb] 32))).cell? ⟨w7.heap.size, 0, none⟩ = some (.string nn.f0) := blk_cell hb8 0; have n81 : ((w7.alloc (.cells #[.string nn.f0, .slice Aa nn.f1.length ca, .slice Ab nn.f2.length cb] 32))).cell? ⟨w7.heap.size, 1, none⟩ = some (.slice Aa nn.f1.length ca) := blk_cell hb8 1; have n82 : ((w7.alloc (.cells #[.string nn.f0, .slice Aa nn.f1.length ca, .slice Ab nn.f2.length cb] 32))).cell? ⟨w7.heap.size, 2, none⟩ = some (.slice Ab nn.f2.length cb) := blk_cell hb8 2; clear hna hnb hr7 hk7 hz7 hs8 hz8 hb8 HS6 HZ6) | ((with_reducible refine gate_callee (f := 11) rfl ?_); refine goesL_ (some 86) rfl rfl Try.func11 (by kernel_rfl) rfl #[.agg #[.string nn.f0, .slice Aa nn.f1.length ca, .slice Ab nn.f2.length cb]] rfl (by simp only [List.map_toArray, List.map_cons, List.map_nil]; rfl) ?_; (with_reducible refine (fdt_Bytes.calls k nn.f0 Aa ca nn.f1 Ab cb nn.f2 bb 0 _ (Kd.N_reads' HN8.out.1).2.2 (Kd.N_reads' HN8.out.1).2.1 (Kd.N_reads' HN8.out.2).2.2 (Kd.N_reads' HN8.out.2).2.1 HBY.out).mono ?_); rintro e w9 ⟨vo, rfl, ho9, hb9⟩; refine ⟨_, rfl, ?_⟩; obtain ⟨Ao, co, rfl⟩ := Kd.R_slice ho9; have HN9 := Aside0.mk (And.intro (Kd.N_below HN8.out.1 hb9) (Kd.N_below HN8.out.2 hb9)); have hz9 := blk_below HZ8.out hb9; have HZ9 := Aside0.mk hz9; have HBE9 := Aside0.mk (below_step HS8.out.be hb9); have HB9 := Aside0.mk (blk_below HB8.out hb9); have HO9 := Aside0.mk (Kd.R_reads' ho9).2.2; have z0 : (w9).cell? ⟨gr, 0, none⟩ = some (.string ⟨#[]⟩) := blk_cell hz9 0; have z1 : (w9).cell? ⟨gr, 1, none⟩ = some (.slice none 0 0) := blk_cell hz9 1; have z2 : (w9).cell? ⟨gr, 2, none⟩ = some (.slice none 0 0) := blk_cell hz9 2; have y0 : (w9).frozen? ⟨gr, 0, none⟩ = false := blk_frozen hz9 0; have y1 : (w9).frozen? ⟨gr, 1, none⟩ = false := blk_frozen hz9 1; have y2 : (w9).frozen? ⟨gr, 2, none⟩ = false := blk_frozen hz9 2; have hcv1 : Sem.run Try.prog (convert 25 9 (Value.slice Ao bb.length co)) w9 = Result.ok (Value.string (strOfNums bb)) w9 := Kd.C_string (P := Try.prog) (A := Ao) (c := co) Try.underlying25 Try.underlying5 Try.underlying9 HO9.out; have hcv2 : Sem.run Try.prog (convert 25 9 (Value.slice A0 l0.length c0)) w9 = Result.ok (Value.string (strOfNums l0)) w9 := Kd.C_string (P := Try.prog) (A := A0) (c := c0) Try.underlying25 Try.underlying5 Try.underlying9 (Kd.C_below HC.out HBE9.out); clear ho9 hb9 hz9 HN8 HZ8 HB8 HS8) | fail)
                        obtain ⟨p1, p2⟩ := put3r HZ9.out (.string ⟨#[]⟩) (.slice none 0 0) (.slice none 0 0)
                        have hbel := HBE9.out.trans (p2.below (fun k hk e => by have := HNE.out.2.1; omega) HBE9.out.size)
                        refine bodyPost_ret (results_ct rfl _ _ gr 32 (#[.string ⟨#[]⟩, .slice none 0 0, .slice none 0 0]) (0, 0) _ rfl p1 Try.underlying32 rfl (by kernel_rfl)) rfl ?_
                        exact ⟨_, _, rfl, Kd.N_nil _ _ _ _ _, Kd.N_nil _ _ _ _ _, hbel⟩
                    · rw [if_neg e0] at hR
                      obtain rfl := Option.some.inj hR
                      have q1 : (be == 0) = false := beq_eq_false_iff_ne.mpr e0
                      have q2 : (be != 0) = true := bne_iff_ne.mpr e0
                      clear hR hnd hby e0
                      go_wp2_with (first | ((with_reducible refine gate_callee (f := 38) rfl ?_); refine goesL_ (some 74) rfl rfl Try.func38 (by kernel_rfl) rfl #[.pointer (some ⟨g, 0, none⟩)] rfl (by simp only [List.map_toArray, List.map_cons, List.map_nil]; rfl) ?_; (with_reducible refine D6.out.mono ?_); rintro e w6 ⟨At6, ct6, rfl, hr6, hk6⟩; refine ⟨_, rfl, ?_⟩; have hz6 := (hk6.block gr (blk_lt HZ2.out) HNE.out.1.1).trans HZ2.out; have HS6 := Aside0.mk hr6; have HZ6 := Aside0.mk hz6; clear hr6 hk6 hz6 HS2 HZ2) | ((with_reducible refine gate_callee (f := 40) rfl ?_); refine goesL_ (some 78) rfl rfl Try.func40 (by kernel_rfl) rfl #[.pointer (some ⟨g, 0, none⟩), .int .i64 1] rfl (by simp only [List.map_toArray, List.map_cons, List.map_nil]; rfl) ?_; (with_reducible refine (rnode_c w k _ g t6 nm b6 64 1 _ _ _ _ HS6.out HT6.out HNM.out nn t7 false l7 HND.out).mono ?_); rintro e w7 ⟨va, vb, At7, ct7, rfl, hna, hnb, hr7, hk7⟩; refine ⟨_, rfl, ?_⟩; obtain ⟨Aa, ca, rfl⟩ := Kd.N_slice hna; obtain ⟨Ab, cb, rfl⟩ := Kd.N_slice hnb; have hz7 := (hk7.block gr (blk_lt HZ6.out) HNE.out.1.1).trans HZ6.out; have HN8 := Aside0.mk (show (Kd.N k74 74 (w7.alloc (.cells #[.string nn.f0, .slice Aa nn.f1.length ca, .slice Ab nn.f2.length cb] 32)) w.heap.size (fun k => w.heap.size ≤ k ∧ k ≠ gr ∧ some k ≠ (Value.slice Ab nn.f2.length cb).ownBlock) (.slice Aa nn.f1.length ca) nn.f1 ∧ Kd.N k32 32 (w7.alloc (.cells #[.string nn.f0, .slice Aa nn.f1.length ca, .slice Ab nn.f2.length cb] 32)) w.heap.size (fun k => w.heap.size ≤ k ∧ k ≠ gr ∧ some k ≠ (Value.slice Aa nn.f1.length ca).ownBlock) (.slice Ab nn.f2.length cb) nn.f2) from ⟨Kd.N_alloc (Kd.N_mono hna (fun k q => ⟨Nat.le_trans HS6.out.be.size q.1, fun e => by have := blk_lt HZ6.out; have := q.1; omega, q.2⟩)) _, Kd.N_alloc (Kd.N_mono hnb (fun k q => ⟨Nat.le_trans HS6.out.be.size q.1, fun e => by have := blk_lt HZ6.out; have := q.1; omega, q.2⟩)) _⟩); have hs8 := hr7.kp (w' := (w7.alloc (.cells #[.string nn.f0, .slice Aa nn.f1.length ca, .slice Ab nn.f2.length cb] 32))) ((Kp.refl w7 (fun _ => False)).alloc _) id (fun _ _ q => q.elim); have hz8 := blk_alloc hz7 (.cells #[.string nn.f0, .slice Aa nn.f1.length ca, .slice Ab nn.f2.length cb] 32); have hb8 : (w7.alloc (.cells #[.string nn.f0, .slice Aa nn.f1.length ca, .slice Ab nn.f2.length cb] 32)).heap[w7.heap.size]? = some (.cells #[.string nn.f0, .slice Aa nn.f1.length ca, .slice Ab nn.f2.length cb] 32 (0, 0)) := (by simpa using heap_alloc_new w7 _); have HS8 := Aside0.mk hs8; have HZ8 := Aside0.mk hz8; have HB8 := Aside0.mk hb8; have cb8 : (w7.alloc (.cells #[.string nn.f0, .slice Aa nn.f1.length ca, .slice Ab nn.f2.length cb] 32)).cell? ⟨g, 2, none⟩ = some (.bool false) := blk_cell hs8.b 2; have n80 : ((w7.alloc (.cells #[.string nn.f0, .slice Aa nn.f1.length ca, .slice Ab nn.f2.length cb] 32))).cell? ⟨w7.heap.size, 0, none⟩ = some (.string nn.f0) := blk_cell hb8 0; have n81 : ((w7.alloc (.cells #[.string nn.f0, .slice Aa nn.f1.length ca, .slice Ab nn.f2.length cb] 32))).cell? ⟨w7.heap.size, 1, none⟩ = some (.slice Aa nn.f1.length ca) := blk_cell hb8 1; have n82 : ((w7.alloc (.cells #[.string nn.f0, .slice Aa nn.f1.length ca, .slice Ab nn.f2.length cb] 32))).cell? ⟨w7.heap.size, 2, none⟩ = some (.slice Ab nn.f2.length cb) := blk_cell hb8 2; clear hna hnb hr7 hk7 hz7 hs8 hz8 hb8 HS6 HZ6) | ((with_reducible refine gate_callee (f := 11) rfl ?_); refine goesL_ (some 86) rfl rfl Try.func11 (by kernel_rfl) rfl #[.agg #[.string nn.f0, .slice Aa nn.f1.length ca, .slice Ab nn.f2.length cb]] rfl (by simp only [List.map_toArray, List.map_cons, List.map_nil]; rfl) ?_; (with_reducible refine (fdt_Bytes.calls k nn.f0 Aa ca nn.f1 Ab cb nn.f2 bb be _ (Kd.N_reads' HN8.out.1).2.2 (Kd.N_reads' HN8.out.1).2.1 (Kd.N_reads' HN8.out.2).2.2 (Kd.N_reads' HN8.out.2).2.1 HBY.out).mono ?_); rintro e w9 ⟨vo, rfl, ho9, hb9⟩; refine ⟨_, rfl, ?_⟩; obtain ⟨Ao, co, rfl⟩ := Kd.R_slice ho9; have HN9 := Aside0.mk (And.intro (Kd.N_below HN8.out.1 hb9) (Kd.N_below HN8.out.2 hb9)); have hz9 := blk_below HZ8.out hb9; have HZ9 := Aside0.mk hz9; have HBE9 := Aside0.mk (below_step HS8.out.be hb9); have HB9 := Aside0.mk (blk_below HB8.out hb9); have HO9 := Aside0.mk (Kd.R_reads' ho9).2.2; have z0 : (w9).cell? ⟨gr, 0, none⟩ = some (.string ⟨#[]⟩) := blk_cell hz9 0; have z1 : (w9).cell? ⟨gr, 1, none⟩ = some (.slice none 0 0) := blk_cell hz9 1; have z2 : (w9).cell? ⟨gr, 2, none⟩ = some (.slice none 0 0) := blk_cell hz9 2; have y0 : (w9).frozen? ⟨gr, 0, none⟩ = false := blk_frozen hz9 0; have y1 : (w9).frozen? ⟨gr, 1, none⟩ = false := blk_frozen hz9 1; have y2 : (w9).frozen? ⟨gr, 2, none⟩ = false := blk_frozen hz9 2; clear ho9 hb9 hz9 HN8 HZ8 HB8 HS8) | fail)
                      obtain ⟨p1, p2⟩ := put3r HZ9.out (.string ⟨#[]⟩) (.slice none 0 0) (.slice none 0 0)
                      have hbel := HBE9.out.trans (p2.below (fun k hk e => by have := HNE.out.2.1; omega) HBE9.out.size)
                      refine bodyPost_ret (results_ct rfl _ _ gr 32 (#[.string ⟨#[]⟩, .slice none 0 0, .slice none 0 0]) (0, 0) _ rfl p1 Try.underlying32 rfl (by kernel_rfl)) rfl ?_
                      exact ⟨_, _, rfl, Kd.N_nil _ _ _ _ _, Kd.N_nil _ _ _ _ _, hbel⟩
                · rw [if_neg v1_] at hR
                  obtain rfl := Option.some.inj hR
                  have q1 : (v == 1) = false := beq_eq_false_iff_ne.mpr v1_
                  have q2 : (v != 1) = true := bne_iff_ne.mpr v1_
                  clear hR v1_
                  go_wp2_with (first | ((with_reducible refine gate_callee (f := 38) rfl ?_); refine goesL_ (some 74) rfl rfl Try.func38 (by kernel_rfl) rfl #[.pointer (some ⟨g, 0, none⟩)] rfl (by simp only [List.map_toArray, List.map_cons, List.map_nil]; rfl) ?_; (with_reducible refine D6.out.mono ?_); rintro e w6 ⟨At6, ct6, rfl, hr6, hk6⟩; refine ⟨_, rfl, ?_⟩; have hz6 := (hk6.block gr (blk_lt HZ2.out) HNE.out.1.1).trans HZ2.out; have HS6 := Aside0.mk hr6; have HZ6 := Aside0.mk hz6; have z0 : (w6).cell? ⟨gr, 0, none⟩ = some (.string ⟨#[]⟩) := blk_cell hz6 0; have z1 : (w6).cell? ⟨gr, 1, none⟩ = some (.slice none 0 0) := blk_cell hz6 1; have z2 : (w6).cell? ⟨gr, 2, none⟩ = some (.slice none 0 0) := blk_cell hz6 2; have y0 : (w6).frozen? ⟨gr, 0, none⟩ = false := blk_frozen hz6 0; have y1 : (w6).frozen? ⟨gr, 1, none⟩ = false := blk_frozen hz6 1; have y2 : (w6).frozen? ⟨gr, 2, none⟩ = false := blk_frozen hz6 2; clear hr6 hk6 hz6 HS2 HZ2) | fail)
                  obtain ⟨p1, p2⟩ := put3r HZ6.out (.string ⟨#[]⟩) (.slice none 0 0) (.slice none 0 0)
                  have hbel := HS6.out.be.trans (p2.below (fun k hk e => by have := HNE.out.2.1; omega) HS6.out.be.size)
                  refine bodyPost_ret (results_ct rfl _ _ gr 32 (#[.string ⟨#[]⟩, .slice none 0 0, .slice none 0 0]) (0, 0) _ rfl p1 Try.underlying32 rfl (by kernel_rfl)) rfl ?_
                  exact ⟨_, _, rfl, Kd.N_nil _ _ _ _ _, Kd.N_nil _ _ _ _ _, hbel⟩
  · cases h
end Go.Proofs.Ytmhlellhfepkkaa.PAl
