/- ClintPlays: any accesses and ticks in any order do what the reference says, for every list of calls; no condition. -/
import Derived.Test.YtpodgoceheoogaaPFix6
import Derived.Test.YtpodgoceheoogaaS0
import Derived.Test.YtpodgoceheoogaaOpFi
namespace Go.Proofs.Ytpodgoceheoogaa.PureClintPlays
open Go.RowKit Go.Proofs.Ytpodgoceheoogaa.PFi Go.Proofs.YtpodgoceheoogaaW.PrintWords Go.Proofs.YtpodgoceheoogaaW.PrintLast
open Go.Proofs.Ytpodgoceheoogaa.Vw Go.Proofs.Ytpodgoceheoogaa.Pure Go.Proofs.Ytpodgoceheoogaa.OpFi
set_option linter.unusedVariables false
set_option linter.unusedSimpArgs false

theorem awake_is : vireolaw11_awake.f = some true := by decide +kernel
theorem begin_is : clint_Begin.f = some (false, ((18446744073709551615 : Nat) : Int), ((0 : Nat) : Int)) := rfl
theorem is_same (z : CS) : vireolaw11_is.f z.s (z.c : Int) (z.n : Int) z.s (z.c : Int) (z.n : Int) = some true := by
  unfold vireolaw11_is.f
  rw [if_pos (by cases z.s <;> rfl), if_pos rfl, beq_self_eq_true]
theorem rd35 (l : List S35) (i : Nat) (h : i < l.length) : rd_T35 l (i : Int) = l[i] := by
  unfold rd_T35
  rw [Int.toNat_natCast, List.getD_eq_getElem?_getD, List.getElem?_eq_getElem h]; rfl
theorem plays_next (l : List S35) (z : CS) (hz : z.ok) (i k : Nat) (hi : i < 60) (h : vireolaw11_ClintPlays.l0 k l ((i + 1 : Nat) : Int) z.s (z.c : Int) (z.n : Int) z.s (z.c : Int) (z.n : Int) = some true) :
    vireolaw11_ClintPlays.j2 (k + 1) l (i : Int) z.s (z.c : Int) (z.n : Int) z.s (z.c : Int) (z.n : Int) = some true := by
  have e2 : wrap64 ((i : Int) + 1) = ((i + 1 : Nat) : Int) := by rw [w64_id _ (by omega) (by omega)]; omega
  rw [vireolaw11_ClintPlays.j2, is_same, Option.bind_some, if_pos rfl, Lines_is, Option.bind_some, ref_Lines_is, Option.bind_some, if_pos rfl, e2]
  exact h
theorem plays_l (l : List S35) (hl : ∀ x ∈ l, (Lit.int .u64 x.f1).wf = true ∧ (Lit.int .u64 x.f3).wf = true) : ∀ (m K i : Nat) (z : CS), z.ok → i + m = 60 → 5300 ≤ K →
    vireolaw11_ClintPlays.l0 (3 * m + K + 3) l (i : Int) z.s (z.c : Int) (z.n : Int) z.s (z.c : Int) (z.n : Int) = some true
  | 0, K, i, z, hz, hi, hK => by
    rw [show 3 * 0 + K + 3 = (K + 1) + 1 + 1 by omega, vireolaw11_ClintPlays.l0]
    by_cases h : (i : Int) < (l.length : Int)
    · rw [if_pos h, decide_eq_false (by omega), vireolaw11_ClintPlays.j1, if_neg (by decide)]
    · rw [if_neg h, vireolaw11_ClintPlays.j1, if_neg (by decide)]
  | m + 1, K, i, z, hz, hi, hK => by
    rw [show 3 * (m + 1) + K + 3 = (3 * m + K + 3) + 1 + 1 + 1 by omega, vireolaw11_ClintPlays.l0]
    by_cases h : (i : Int) < (l.length : Int)
    · have hil : i < l.length := by omega
      have ih := fun z' (hz' : CS.ok z') => plays_next l z' hz' i (3 * m + K + 3) (by omega) (plays_l l hl m K (i + 1) z' hz' (by omega) hK)
      obtain ⟨g1, g3⟩ := hl l[i] (List.getElem_mem hil)
      obtain ⟨a, ea, ha⟩ := u64_of_wf g1
      obtain ⟨v, ev, hv⟩ := u64_of_wf g3
      rw [if_pos h, decide_eq_true (by omega), vireolaw11_ClintPlays.j1, if_pos rfl, if_pos (by omega), if_pos h, rd35 l i hil]
      generalize l[i] = o at ea ev
      obtain ⟨kd, o1, k, o3⟩ := o
      dsimp only at ea ev ⊢
      subst ea ev
      by_cases c0 : kd = 0
      · have e1 := ref_Store_is z hz a ha k v hv (3 * m + K + 3 + 1) (by omega)
        have e2 := Store_is z hz a ha k v hv
        rw [if_pos c0, e1, Option.bind_some, e2, Option.bind_some]
        cases hm : may a k with
        | false =>
          rw [if_neg (show ¬ (false = true) by decide), if_neg (show ¬ (false = true) by decide)]
          dsimp only
          rw [if_neg (by decide)]
          exact ih z hz
        | true =>
          rw [if_pos rfl, if_pos rfl]
          dsimp only
          rw [if_neg (by decide)]
          exact ih _ (stW_ok hz a k v)
      · rw [if_neg c0]
        by_cases c1 : kd = 1
        · have e1 := ref_Load_is z hz a ha k (3 * m + K + 3 + 1) (by omega)
          have e2 := Load_is z hz a ha k
          rw [if_pos c1, e2, Option.bind_some, e1, Option.bind_some, if_pos rfl]
          rw [bne_self_eq_false, if_neg (by decide)]
          exact ih z hz
        · rw [if_neg c1]
          by_cases c2 : kd = 2
          · have hn : IntKind.u64.wrap ((z.n : Int) + (v : Int)) = (((z.n + v) % 18446744073709551616 : Nat) : Int) := by rw [IntKind.wrap_u64]; omega
            unfold clint_Clint_Tick.f
            rw [if_pos c2, Option.bind_some]
            dsimp only
            rw [hn]
            exact ih ⟨z.s, z.c, (z.n + v) % 18446744073709551616⟩ ⟨hz.1, Nat.mod_lt _ (by decide)⟩
          · rw [if_neg c2]
            exact ih z hz
    · rw [if_neg h, vireolaw11_ClintPlays.j1, if_neg (by decide)]
theorem ClintPlays : vireolaw11_ClintPlays.Pure2 := by
  intro b0 h0
  refine ⟨3 * 60 + 5300 + 3, ?_⟩
  unfold vireolaw11_ClintPlays.f
  rw [awake_is, Option.bind_some, if_pos rfl, begin_is, Option.bind_some]
  exact plays_l b0 (fun x hx => ⟨(h0.2 x hx).2.1, (h0.2 x hx).2.2.2⟩) 60 5300 0 ⟨false, 18446744073709551615, 0⟩ ⟨by decide, by decide⟩ rfl (by omega)
end Go.Proofs.Ytpodgoceheoogaa.PureClintPlays
namespace Go.Proofs.Ytpodgoceheoogaa.Pure
theorem ClintPlays : OpFi.vireolaw11_ClintPlays.Pure2 := PureClintPlays.ClintPlays
end Go.Proofs.Ytpodgoceheoogaa.Pure
