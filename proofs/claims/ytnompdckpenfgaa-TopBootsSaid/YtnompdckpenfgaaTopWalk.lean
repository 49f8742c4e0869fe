/- The law TopBoots is walked: it returns true, for what it may be given. -/
import Derived.Test.YtnompdckpenfgaaTopMore
import Derived.Test.YtnompdckpenfgaaTopPlain
/- The law TopBoots: walked. -/
namespace Go.Proofs.Ytnompdckpenfgaa.H
open Go.RowKit Go.Proofs.YtnompdckpenfgaaW.PrintWords Go.Proofs.YtnompdckpenfgaaW.PrintLast Go.Proofs.Ytnompdckpenfgaa.PAl Go.Proofs.Ytnompdckpenfgaa.Pure Go.Proofs.Ytnompdckpenfgaa.Vw
set_option linter.unusedVariables false
set_option linter.unusedSimpArgs false
open Go.Proofs.Ytnompdckpenfgaa.Pure
theorem len_dat_take (l : List S29) (i : Nat) (h : i < l.length) : (dat (l.take (i + 1))).length = (dat (l.take i)).length + (rd_T29 l (i : Int)).f1.length := by
  rw [List.take_add_one, dat_append, List.length_append]
  unfold rd_T29
  rw [Int.toNat_natCast, List.getD_eq_getElem?_getD, List.getElem?_eq_getElem h]
  simp [dat]
theorem len_dat_le (l : List S29) (h : ∀ x ∈ l, Pure.Good x ∧ x.f1.length ≤ 140737488355328) (i : Nat) (hi : i ≤ l.length) : (dat (l.take i)).length ≤ i * 140737488355328 := by
  induction i with
  | zero => simp [dat]
  | succ i ih =>
    have h1 := ih (by omega)
    have h2 : (rd_T29 l (i : Int)).f1.length ≤ 140737488355328 := by
      unfold rd_T29
      rw [Int.toNat_natCast, List.getD_eq_getElem?_getD, List.getElem?_eq_getElem (show i < l.length by omega)]
      exact (h _ (List.getElem_mem _)).2
    rw [len_dat_take l i (by omega), Nat.succ_mul]
    exact Nat.add_le_add h1 h2
theorem dat_le (l : List S29) (x : S29) (hx : x ∈ l) : x.f1.length ≤ (dat l).length := by
  induction l with
  | nil => cases hx
  | cons y l ih =>
    rw [dat, List.length_append]
    cases hx with
    | head => omega
    | tail _ h => have := ih h; omega
theorem aligned4096 (z : Nat) (hz : z < 18446744073709551616) (h : z % 4096 = 0) : word_Aligned.f (z : Int) 4096 = some true := by
  unfold word_Aligned.f
  rw [if_neg (by decide)]
  have e : IntKind.u64.wrap (4096 - 1) = ((4095 : Nat) : Int) := by decide
  rw [e, and_nat z 4095 hz (by decide)]
  have h2 : z &&& 4095 = 0 := by
    have := Nat.and_two_pow_sub_one_eq_mod z 12
    have e1 : (2 : Nat) ^ 12 = 4096 := by decide
    rw [e1] at this
    exact this.trans h
  rw [h2]
  rfl
/-- A row of bytes that is a block's. -/
theorem u8_row {w : World} {g : Nat} {l : List Int} {e : TypeId} {fr : Nat × Nat} (h : w.heap[g]? = some (.cells (l.map (Value.int .u8)).toArray e fr)) (hm : l.length ≤ 9223372036854775807) : Kd.C (Kd.int .u8) w (some ⟨g, 0, none⟩) l.length l := by
  refine ⟨rfl, hm, fun _ => ⟨_, rfl, fun j p hj => ⟨[.int .u8 p], rfl, rfl, fun i u hu => ?_⟩⟩⟩
  have hi : i = 0 := by have := (List.getElem?_eq_some_iff.1 hu).1; simp only [List.length_cons, List.length_nil] at this; omega
  subst hi
  have hu' : Value.int .u8 p = u := by simpa using hu
  subst hu'
  have e0 : ((⟨g, 0, none⟩ : Addr).add (j * (Kd.int .u8).sz + 0)) = ⟨g, j, none⟩ := by
    have e1 : (Kd.int .u8).sz = 1 := rfl
    rw [e1, Nat.mul_one, Nat.add_zero, Go.Addr.add]
    simp
    omega
  rw [e0]
  simp [World.cell?, h, hj]
theorem mkC_row (l : List Int) (h : ∀ x ∈ l, 0 ≤ x ∧ x < 256) : mkC (putT (fun _ => 0) l l.length) l.length l.length = (l.map (Value.int .u8)).toArray := by
  refine Array.ext (by simp [mkC]) fun j h1 h2 => ?_
  have hj : j < l.length := by simpa [mkC] using h1
  have h0 := (h _ (List.getElem_mem hj)).1
  simp only [mkC, putT, Array.getElem_map, Array.getElem_range, List.getElem_toArray, List.getElem_map, if_pos hj]
  rw [List.getD_eq_getElem?_getD, List.getElem?_eq_getElem hj]
  simp only [Option.getD_some]
  rw [Int.toNat_of_nonneg h0]
theorem read_row (l : List Int) (w : World) (q : Nat) (h : ∀ x ∈ l, 0 ≤ x ∧ x < 256) (hm : l.length ≤ 9223372036854775807) (hb : Bk w q (mkC (putT (fun _ => 0) l l.length) l.length l.length) 5) : Kd.C (Kd.int .u8) w (some ⟨q, 0, none⟩) l.length l := by
  have := hb.blk
  rw [mkC_row l h] at this
  exact u8_row this hm
/-- the law's guard -/
def Gd (l : List S29) (s : Int) : Prop := (dat l).length ≤ 2000 ∧ l.length ≤ 40 ∧ s ≤ 16384 ∧ 4096 ≤ s ∧ s % 4096 = 0
set_option maxHeartbeats 8000000 in
set_option maxRecDepth 100000 in
theorem law_m (E : Int) (A : Option Addr) (c : Nat) (l : List S29) (s : Int) (w : World) (hE : 0 ≤ E ∧ E < 18446744073709551616) (hg : ∀ x ∈ l, Pure.Good x ∧ x.f1.length ≤ 140737488355328) (hs : 0 ≤ s ∧ s < 18446744073709551616) (hC : Kd.C k29 w A l.length l) (hc : l.length ≤ c) :
    Calls Try.prog 3 #[.agg #[.int .u64 E, .slice A l.length c], .int .u64 s] w fun e w' => e = .returned (.bool true) ∧ KpN w w' := by
  have HE := Aside0.mk hE; have HG := Aside0.mk hg; have HS := Aside0.mk hs; have HC := Aside0.mk hC; have Hc := Aside0.mk hc
  clear hE hg hs hC hc
  go_enter Try.func3, Try.ntmps3
  go_wp2_with (first
    | (((with_reducible refine gate_dst (N := 2) rfl ?_); refine bx_ev rfl rfl (N := 2) rfl (#[.int .u64 E, .slice A l.length c]) rfl ?_; intro pb hg_pb w1 hb_pb hk_pb; have Hg_pb := Aside0.mk hg_pb; clear hg_pb); have HP := Aside0.mk (Bk.mk hb_pb); have HK1 := Aside0.mk hk_pb; clear hb_pb hk_pb)
    | (go_at_call 4; refine (awake_m w1).mono ?_; rintro e w2 ⟨rfl, hk⟩; have HK2 := Aside0.mk (HK1.out.trans hk); have HP2 := Aside0.mk (HP.out.kp hk (fun h => h)); clear hk))
  obtain ⟨m, hm⟩ : ∃ m, m = min l.length 40 := ⟨_, rfl⟩
  have HM := Aside0.mk hm
  clear hm
  go_loopg [5, 6] m (fun kq v5 v6 w' => ∃ (i : Nat), v6 = .int .i64 (i : Int) ∧ v5 = .int .i64 ((dat (l.take i)).length : Int) ∧ Aside0 (kq + i = m) ∧ Aside0 (KpN w2 w'))
  case atStart => exact ⟨0, rfl, rfl, ⟨by omega⟩, ⟨Kp.refl _ _⟩⟩
  case round =>
    obtain ⟨i, rfl, rfl, HI, HW⟩ := hrel
    have HP3 := Aside0.mk (HP2.out.kp HW.out (fun h => h))
    have HC3 := Aside0.mk (Kd.C_below HC.out ((HK2.out.trans HW.out).below (fun _ _ h => h.elim) (Nat.le_refl _)))
    have z1 : wr.cell? ⟨pb, 1, none⟩ = some (.slice A l.length c) := HP3.out.c 1
    cases gk with
    | zero =>
      have hi := HI.out
      have hm := HM.out
      have HK3 := Aside0.mk (HK2.out.trans HW.out)
      clear HW HK1 HK2 HP2 HI HM
      by_cases c40 : 40 < l.length
      · have b0' : decide ((i : Int) < (l.length : Int)) = true := decide_eq_true (by omega)
        have b1 : decide (i < l.length) = true := decide_eq_true (by omega)
        have b2 : decide ((i : Int) < 40) = false := decide_eq_false (by omega)
        have b3 : decide ((40 : Int) < (l.length : Int)) = true := decide_eq_true (by omega)
        have b4 : decide (40 < l.length) = true := decide_eq_true (by omega)
        have b5 : ¬ ((i : Int) < 40) := by omega
        have hx : ∃ n : Nat, n = (dat (l.take i)).length := ⟨_, rfl⟩
        obtain ⟨n, hn⟩ := hx
        rw [← hn]
        clear hi hm hn c40
        by_cases c2 : 2000 < n
        · have b6 : decide ((2000 : Int) < (n : Int)) = true := decide_eq_true (by omega)
          clear c2
          go_wp2
          go_ret
          exact ⟨rfl, HK3.out⟩
        · have b6 : decide ((2000 : Int) < (n : Int)) = false := decide_eq_false (by omega)
          clear c2
          go_wp2
          go_ret
          exact ⟨rfl, HK3.out⟩
      · obtain rfl : i = l.length := by omega
        rw [List.take_length]
        have b0' : decide ((l.length : Int) < (l.length : Int)) = false := decide_eq_false (by omega)
        have b1 : ¬ ((l.length : Int) < (l.length : Int)) := by omega
        have b3 : decide ((40 : Int) < (l.length : Int)) = false := decide_eq_false (by omega)
        have b4 : ¬ ((40 : Int) < (l.length : Int)) := by omega
        have hx : ∃ n : Nat, n = (dat l).length := ⟨_, rfl⟩
        obtain ⟨n, hn⟩ := hx
        have HN := Aside0.mk hn
        rw [← hn]
        have H40 := Aside0.mk c40
        clear hi hm hn c40
        by_cases c2 : 2000 < n
        · have b6 : decide ((2000 : Int) < (n : Int)) = true := decide_eq_true (by omega)
          clear c2
          go_wp2
          go_ret
          exact ⟨rfl, HK3.out⟩
        have H2 := Aside0.mk c2
        have b6 : decide ((2000 : Int) < (n : Int)) = false := decide_eq_false (by omega)
        clear c2
        by_cases c3 : 16384 < s
        · have b7 : decide ((16384 : Int) < s) = true := decide_eq_true c3
          clear c3
          go_wp2
          go_ret
          exact ⟨rfl, HK3.out⟩
        have H3 := Aside0.mk c3
        have b7 : decide ((16384 : Int) < s) = false := decide_eq_false c3
        clear c3
        by_cases c4 : s < 4096
        · have b8 : decide (s < 4096) = true := decide_eq_true c4
          clear c4
          go_wp2
          go_ret
          exact ⟨rfl, HK3.out⟩
        have H4 := Aside0.mk c4
        have b8 : decide (s < 4096) = false := decide_eq_false c4
        clear c4
        obtain ⟨z, rfl⟩ : ∃ z : Nat, s = (z : Int) := ⟨s.toNat, by have := HS.out; omega⟩
        by_cases c5 : z % 4096 = 0
        rotate_left
        · have b9 : (((z : Int) % 4096) != 0) = true := by rw [bne_iff_ne]; omega
          clear c5
          go_wp2
          go_ret
          exact ⟨rfl, HK3.out⟩
        have H5 := Aside0.mk c5
        have b9 : (((z : Int) % 4096) != 0) = false := by rw [bne_eq_false_iff_eq]; omega
        clear c5
        obtain ⟨En, rfl⟩ : ∃ En : Nat, E = (En : Int) := ⟨E.toNat, by have := HE.out; omega⟩
        have z0 : wr.cell? ⟨pb, 0, none⟩ = some (.int .u64 (En : Int)) := HP3.out.c 0
        have hB := Pure.image_Bytes_is 10000 (Nat.le_refl _) En l (by have := HN.out; have := H2.out; omega) (fun x hx => (HG.out x hx).1)
        by_cases cB : l.length ≤ 16 ∧ ∀ x ∈ l, Pure.Fits x
        rotate_left
        · rw [if_neg cB] at hB
          have HB := Aside0.mk hB
          clear hB cB
          go_wp2_with (go_at_call 5; refine (image_Bytes.calls 10000 (En : Int) A c l [] 250 wr HC3.out Hc.out HB.out).mono ?_; rintro e w3 ⟨v, rfl, hR, hb⟩; have HK4 := Aside0.mk (HK3.out.trans (Kp.of_below hb _)); clear hR hb)
          go_ret
          exact ⟨rfl, HK4.out⟩
        rw [if_pos cB] at hB
        have HB := Aside0.mk hB
        have HF := Aside0.mk cB
        clear hB cB
        have HPa := Aside0.mk (Pure.image_Parse_is 100 (Nat.le_refl _) En (by have := HE.out; omega) l HF.out.1 (by have := HN.out; have := H2.out; omega) (fun x hx => (HG.out x hx).1) HF.out.2)
        obtain ⟨⟨wl, g⟩, hL1, hL2⟩ := Pure.image_Lay_ends 6000000 (Nat.le_refl _) (En : Int) z (by have := H3.out; omega) l (by have := HF.out.1; omega) (fun x hx => ⟨(HG.out x hx).1, by
          have := HN.out; have := H2.out
          exact Nat.lt_of_le_of_lt (dat_le l x hx) (by omega)⟩)
        have HLa := Aside0.mk hL1
        clear hL1
        rcases hL2 with ⟨h0, h1, h2⟩ | h0
        rotate_left
        · obtain ⟨rfl, rfl⟩ : wl = [] ∧ g = 21 := by injection h0 with x y; exact ⟨x, y⟩
          clear h0
          have HSm := Aside0.mk (Pure.same_is 20000 ([] : List Int) (by decide) (by decide))
          go_wp2_with (first
            | (go_at_call 5; refine (image_Bytes.calls 10000 (En : Int) A c l (Pure.file En l) 0 wr HC3.out Hc.out HB.out).mono ?_; rintro e w3 ⟨v, rfl, hR, hb⟩; obtain ⟨A3, c3, rfl, hl3, hC3⟩ := Kd.R_reads hR; have HKb := Aside0.mk (Kp.of_below (S := fun _ => False) hb); have HL3 := Aside0.mk hl3; have HB3 := Aside0.mk hC3; clear hR hb hl3 hC3)
            | (go_at_call 6; refine (image_Parse.calls 100 A3 c3 (Pure.file En l) (En : Int) l 0 w3 HB3.out HL3.out HPa.out).mono ?_; rintro e w4 ⟨v, rfl, hS, hb⟩; obtain ⟨A4, c4, rfl, hl4, hC4⟩ := Kd.S_reads hS; have HKc := Aside0.mk (Kp.of_below (S := fun _ => False) hb); have HL4 := Aside0.mk hl4; have HC4 := Aside0.mk hC4; clear z0 z1 hS hb hl4 hC4; obtain ⟨W5, hW5⟩ : ∃ W5, W5 = w4.alloc (.cells #[.int .u64 (En : Int), .slice A4 l.length c4] 25) := ⟨_, rfl⟩; have HW5 := Aside0.mk hW5; have k5 : KpN w4 W5 := (by rw [hW5]; exact (Kp.refl _ _).alloc _); have K5 := Aside0.mk ((HKb.out.trans HKc.out).trans k5); have HP5 := Aside0.mk (HP3.out.kp K5.out (fun h => h)); have HQ5 : Aside0 (Bk W5 w4.heap.size #[.int .u64 (En : Int), .slice A4 l.length c4] 25) := ⟨by rw [hW5]; exact ⟨heap_alloc_new _ _⟩⟩; have HC5 := Aside0.mk (Kd.C_below HC3.out (Kp.below K5.out (fun _ _ h => h.elim) (Nat.le_refl _))); have HD5 := Aside0.mk (Kd.C_below HC4.out (Kp.below k5 (fun _ _ h => h.elim) (Nat.le_refl _))); have y0 := HP5.out.c 0; have y1 := HP5.out.c 1; rw [hW5] at y0 y1; clear hW5 k5)
            | (go_at_call 7; with_reducible refine (image_Lay.calls 6000000 (En : Int) A c l (z : Int) [] 21 (w4.alloc (.cells #[.int .u64 (En : Int), .slice A4 l.length c4] 25)) (by rw [← HW5.out]; exact HC5.out) Hc.out HLa.out).mono ?_; rintro e w6 ⟨v, rfl, hR, hb⟩; obtain ⟨A6, c6, rfl, hl6, hC6⟩ := Kd.R_reads hR; have HK6 : Aside0 (KpN W5 w6) := ⟨by rw [HW5.out]; exact Kp.of_below (S := fun _ => False) hb⟩; have HL6 := Aside0.mk hl6; have HB6' := Aside0.mk hC6; clear y0 y1 hR hb hl6 hC6; have HQ6 := Aside0.mk (HQ5.out.kp HK6.out (fun h => h)); have HD6 := Aside0.mk (Kd.C_below HD5.out (Kp.below HK6.out (fun _ _ h => h.elim) (Nat.le_refl _))); have q0 := HQ6.out.c 0; have q1 := HQ6.out.c 1)
            | (go_at_call 7; refine (image_Lay.calls 6000000 (En : Int) A4 c4 l (z : Int) [] 21 w6 HD6.out HL4.out HLa.out).mono ?_; rintro e w7 ⟨v, rfl, hR, hb⟩; obtain ⟨A7, c7, rfl, hl7, hC7⟩ := Kd.R_reads hR; have HK7 := Aside0.mk (Kp.of_below (S := fun _ => False) hb); have HL7 := Aside0.mk hl7; have HB7 := Aside0.mk hC7; clear q0 q1 hR hl7 hC7; have HB6 := Aside0.mk (Kd.C_below HB6'.out hb); clear hb)
            | (go_at_call 8; refine (vireoref02_Bytes.calls 20000 A6 c6 [] A7 c7 [] true w7 HB6.out HL6.out HB7.out HL7.out HSm.out).mono ?_; rintro e w8 ⟨rfl, nd, rfl⟩))
          go_ret
          exact ⟨rfl, (((HK3.out.trans K5.out).trans HK6.out).trans HK7.out).drewN _⟩
        dsimp only at h0 h1 h2
        subst h0
        have H8 := Aside0.mk ((Pure.octets_iff wl).1 h1)
        have HZ := Aside0.mk h2
        have HSm := Aside0.mk (Pure.same_is 20000 wl (by have := H3.out; omega) (by have := H3.out; omega))
        clear h1 h2
        have HAl := Aside0.mk (aligned4096 z (by have := H3.out; omega) H5.out)
        have hww : IntKind.u64.wrap (wl.length : Int) = (wl.length : Int) := u64_nat _ (by have := HZ.out; have := H3.out; omega)
        go_wp2_with (first
            | (go_at_call 5; refine (image_Bytes.calls 10000 (En : Int) A c l (Pure.file En l) 0 wr HC3.out Hc.out HB.out).mono ?_; rintro e w3 ⟨v, rfl, hR, hb⟩; obtain ⟨A3, c3, rfl, hl3, hC3⟩ := Kd.R_reads hR; have HKb := Aside0.mk (Kp.of_below (S := fun _ => False) hb); have HL3 := Aside0.mk hl3; have HB3 := Aside0.mk hC3; clear hR hb hl3 hC3)
            | (go_at_call 6; refine (image_Parse.calls 100 A3 c3 (Pure.file En l) (En : Int) l 0 w3 HB3.out HL3.out HPa.out).mono ?_; rintro e w4 ⟨v, rfl, hS, hb⟩; obtain ⟨A4, c4, rfl, hl4, hC4⟩ := Kd.S_reads hS; have HKc := Aside0.mk (Kp.of_below (S := fun _ => False) hb); have HL4 := Aside0.mk hl4; have HC4 := Aside0.mk hC4; clear z0 z1 hS hb hl4 hC4; obtain ⟨W5, hW5⟩ : ∃ W5, W5 = w4.alloc (.cells #[.int .u64 (En : Int), .slice A4 l.length c4] 25) := ⟨_, rfl⟩; have HW5 := Aside0.mk hW5; have k5 : KpN w4 W5 := (by rw [hW5]; exact (Kp.refl _ _).alloc _); have K5 := Aside0.mk ((HKb.out.trans HKc.out).trans k5); have HP5 := Aside0.mk (HP3.out.kp K5.out (fun h => h)); have HQ5 : Aside0 (Bk W5 w4.heap.size #[.int .u64 (En : Int), .slice A4 l.length c4] 25) := ⟨by rw [hW5]; exact ⟨heap_alloc_new _ _⟩⟩; have HC5 := Aside0.mk (Kd.C_below HC3.out (Kp.below K5.out (fun _ _ h => h.elim) (Nat.le_refl _))); have HD5 := Aside0.mk (Kd.C_below HC4.out (Kp.below k5 (fun _ _ h => h.elim) (Nat.le_refl _))); have y0 := HP5.out.c 0; have y1 := HP5.out.c 1; rw [hW5] at y0 y1; clear hW5 k5)
            | (go_at_call 7; with_reducible refine (image_Lay.calls 6000000 (En : Int) A c l (z : Int) wl 0 (w4.alloc (.cells #[.int .u64 (En : Int), .slice A4 l.length c4] 25)) (by rw [← HW5.out]; exact HC5.out) Hc.out HLa.out).mono ?_; rintro e w6 ⟨v, rfl, hR, hb⟩; obtain ⟨A6, c6, rfl, hl6, hC6⟩ := Kd.R_reads hR; have HK6 : Aside0 (KpN W5 w6) := ⟨by rw [HW5.out]; exact Kp.of_below (S := fun _ => False) hb⟩; have HL6 := Aside0.mk hl6; have HB6' := Aside0.mk hC6; clear y0 y1 hR hb hl6 hC6; have HQ6 := Aside0.mk (HQ5.out.kp HK6.out (fun h => h)); have HD6 := Aside0.mk (Kd.C_below HD5.out (Kp.below HK6.out (fun _ _ h => h.elim) (Nat.le_refl _))); have q0 := HQ6.out.c 0; have q1 := HQ6.out.c 1)
            | (go_at_call 7; refine (image_Lay.calls 6000000 (En : Int) A4 c4 l (z : Int) wl 0 w6 HD6.out HL4.out HLa.out).mono ?_; rintro e w7 ⟨v, rfl, hR, hb⟩; obtain ⟨A7, c7, rfl, hl7, hC7⟩ := Kd.R_reads hR; have HK7 := Aside0.mk (Kp.of_below (S := fun _ => False) hb); have HL7 := Aside0.mk hl7; have HB7 := Aside0.mk hC7; clear q0 q1 hR hl7 hC7; have HB6 := Aside0.mk (Kd.C_below HB6'.out hb); clear hb)
            | (go_at_call 8; with_reducible refine (vireoref02_Bytes.calls 20000 A6 c6 wl A7 c7 wl true w7 HB6.out HL6.out HB7.out HL7.out HSm.out).mono ?_; rintro e w8 ⟨rfl, nd, rfl⟩; have HB8 := Aside0.mk (Kd.C_drewN HB7.out nd); have HK7' : Aside0 (KpN w7 (w7.drewN nd)) := ⟨(Kp.refl _ _).drewN nd⟩)
            | (go_at_call 9; refine (mnew_m z A7 c7 wl (w7.drewN nd) H8.out HB8.out HZ.out (by have := H4.out; omega) (by have := H3.out; omega) HAl.out).mono ?_; rintro e w9 ⟨q, rfl, hM, hk⟩; obtain ⟨h, d, g, m, B, nn, pg, hcs, cs, b1, b2, e2, b3, e3, hR⟩ := hM.ex; have HK9 := Aside0.mk hk; have HR9 := Aside0.mk hR; have u0 : w9.cell? ⟨q, 0, none⟩ = some (.pointer (some ⟨h, 0, none⟩)) := b1.c 0; have u1 : w9.cell? ⟨h, 0, none⟩ = some (.pointer (some ⟨g, 0, none⟩)) := (b2.c 0).trans e2; have u2 : w9.cell? ⟨g, 0, none⟩ = some (.pointer (some ⟨m, 0, none⟩)) := (b3.c 0).trans e3; clear hM hk b1 b2 e2 b3 e3 hR)
            | (go_at_call 10; refine (mread_m m B nn z pg _ wl.length w9 HR9.out HZ.out (by have := H3.out; omega)).mono ?_; rintro e w10 ⟨q2, rfl, hS⟩; have HK10 := Aside0.mk hS.kp; have HX := Aside0.mk (read_row wl w10 q2 H8.out (by have := HZ.out; have := H3.out; omega) hS.blk); clear u0 u1 u2 hS; have HB10 := Aside0.mk (Kd.C_below HB6.out (Kp.below (((HK7'.out).trans HK9.out).trans HK10.out) (fun _ _ h => h.elim) (Nat.le_refl _))))
            | (go_at_call 8; refine (vireoref02_Bytes.calls 20000 _ wl.length wl A6 c6 wl true w10 HX.out (Nat.le_refl _) HB10.out HL6.out HSm.out).mono ?_; rintro e w11 ⟨rfl, nd2, rfl⟩))
        go_ret
        exact ⟨rfl, (((((((HK3.out.trans K5.out).trans HK6.out).trans HK7.out).drewN nd).trans HK9.out).trans HK10.out).drewN _)⟩
    | succ k1 =>
      have hi := HI.out
      have hm := HM.out
      have hlt : i < l.length := by omega
      have hlt40 : i < 40 := by omega
      have b0' : decide ((i : Int) < (l.length : Int)) = true := decide_eq_true (by omega)
      have b1 : decide (i < l.length) = true := decide_eq_true hlt
      have b2' : decide ((i : Int) < 40) = true := decide_eq_true (by omega)
      have b3 := eq_true (show (0 : Int) ≤ (i : Int) by omega)
      have b4 := eq_true (show (i : Int) < (l.length : Int) by omega)
      obtain ⟨ad, A1, c1, eA, hx0, hx1, hx2, hl1, hC1⟩ := at_T29 HC3.out (i : Int) (by omega) (by omega)
      cases eA
      rw [Int.toNat_natCast] at hx0 hx1 hx2
      have hs1 : wrap64 (((dat (l.take i)).length : Int) + ((rd_T29 l (i : Int)).f1.length : Int)) = ((dat (l.take (i + 1))).length : Int) := by
        have e := len_dat_le l HG.out (i + 1) hlt
        rw [len_dat_take l i hlt] at e ⊢
        rw [w64_id _ (by omega) (by omega)]
        omega
      clear hi hm hlt
      go_wp2
      go_roundg k1
      case measure => omega
      case rel => exact ⟨i + 1, by go_num, by rw [hs1], ⟨by have := HI.out; omega⟩, HW⟩
end Go.Proofs.Ytnompdckpenfgaa.H
/- The law TopBoots in the row's form: for what it may be given it returns true, and what it was given reads as it did. -/
namespace Go.Proofs.Ytnompdckpenfgaa.PAl
open Go.RowKit Go.Proofs.YtnompdckpenfgaaW.PrintWords Go.Proofs.YtnompdckpenfgaaW.PrintLast Go.Proofs.Ytnompdckpenfgaa.H Go.Proofs.Ytnompdckpenfgaa.Vw
set_option linter.unusedVariables false
/-- what the law may be given -/
def TopGood (E : Int) (l : List S29) (s : Int) : Prop := (0 ≤ E ∧ E < 18446744073709551616) ∧ (∀ x ∈ l, Pure.Good x ∧ x.f1.length ≤ 140737488355328) ∧ (0 ≤ s ∧ s < 18446744073709551616)
theorem top_calls (a0_0 : Int) (A0_1 : Option Addr) (c0_1 : Nat) (l0_1 : List (S29)) (a1 : Int) (w : World) (hr0_1 : Kd.C k29 w A0_1 l0_1.length l0_1) (hc0_1 : l0_1.length ≤ c0_1) (h : TopGood a0_0 l0_1 a1) :
    Calls Try.prog 3 #[.agg #[.int .u64 a0_0, .slice A0_1 l0_1.length c0_1], .int .u64 a1] w fun e w' => e = .returned (.bool true) ∧ Below w.heap.size w w' :=
  (law_m a0_0 A0_1 c0_1 l0_1 a1 w h.1 h.2.1 h.2.2 hr0_1 hc0_1).mono fun e w' q => ⟨q.1, Kp.below q.2 (fun _ _ h => h.elim) (Nat.le_refl _)⟩
end Go.Proofs.Ytnompdckpenfgaa.PAl
