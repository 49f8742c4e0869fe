/- '==' of arrays of words, as one Bool. -/
import Derived.Test.YtkbnoeebnmphbaaHreg
import Derived.Laws.StructEq
namespace Go.Proofs.Ytkbnoeebnmphbaa.H
open Go.RowKit Go.Proofs.YtkbnoeebnmphbaaW.PrintWords Go.Proofs.YtkbnoeebnmphbaaW.PrintLast Go.Proofs.Ytkbnoeebnmphbaa.PAl Go.Proofs.Ytkbnoeebnmphbaa.Pure Go.Proofs.Ytkbnoeebnmphbaa.Vw
set_option linter.unusedVariables false
set_option linter.unusedSimpArgs false
theorem run_forIn_list {P : Program} (w : World) (body : Nat → Option Bool × Unit → Sem (ForInStep (Option Bool × Unit))) (ok : Nat → Bool) :
    ∀ (L : List Nat), (∀ i ∈ L, (body i (none, ())).run P w = .ok (if ok i = true then .yield (none, ()) else .done (some false, ())) w) → (forIn L ((none, ()) : Option Bool × Unit) body).run P w = .ok (if L.all ok = true then (none, ()) else (some false, ())) w
  | [], _ => by simp
  | i :: L, h => by
    rw [List.forIn_cons, Sem.run_bind, h i (by simp), Result.andThen_ok]
    cases hb : ok i with
    | true =>
      have ih := run_forIn_list w body ok L (fun j hj => h j (by simp [hj]))
      simp only [if_true, List.all_cons, hb, Bool.true_and]
      exact ih
    | false => simp [hb]
theorem eqArr {P : Program} {T e : TypeId} {n : Nat} (w : World) (d : Nat) (hu : P.underlying T = some (.array n e)) (he : P.underlying e = some (.int .u64)) (hs : (P.info? e).map (·.size) = some 1) (xs ys : Array Value) (f g : Nat → Int)
    (hx : ∀ i, i < n → xs[i]? = some (.int .u64 (f i))) (hy : ∀ i, i < n → ys[i]? = some (.int .u64 (g i))) :
    (Op.equalIn (d + 2) T (.agg xs) (.agg ys)).run P w = .ok ((List.range n).all fun i => f i == g i) w := by
  rw [Op.equalIn]
  have hso : (sizeOf e).run P w = .ok 1 w := by
    cases hq : P.info? e with
    | none => simp [hq] at hs
    | some i => simp [hq] at hs; simp [sizeOf, typeInfo, hq, hs]
  have hag : (isAgg e).run P w = .ok false w := by
    unfold isAgg; rw [Sem.run_bind, run_underlying he w]; rfl
  simp only [Sem.run_bind, run_underlying hu w, Result.andThen_ok, hso]
  rw [Std.Legacy.Range.forIn_eq_forIn_range']
  rw [run_forIn_list w _ (fun i => f i == g i)]
  · rw [Result.andThen_ok]
    have hL : List.range' 0 n 1 = List.range n := by rw [List.range_eq_range']
    simp only [Std.Legacy.Range.size, Nat.sub_zero, Nat.add_sub_cancel, Nat.div_one] 
    rw [hL]
    cases (List.range n).all fun i => f i == g i <;> rfl
  · intro i hi
    have hin : i < n := by simpa using hi
    have p1 : (part e xs (i * 1)).run P w = .ok (.int .u64 (f i)) w := by
      unfold part; rw [Sem.run_bind, hag, Result.andThen_ok, Nat.mul_one, hx i hin]; rfl
    have p2 : (part e ys (i * 1)).run P w = .ok (.int .u64 (g i)) w := by
      unfold part; rw [Sem.run_bind, hag, Result.andThen_ok, Nat.mul_one, hy i hin]; rfl
    have p3 : (Op.equalIn (d + 1) e (.int .u64 (f i)) (.int .u64 (g i))).run P w = .ok (f i == g i) w := by
      rw [Op.equalIn, Sem.run_bind, run_underlying he w, Result.andThen_ok]; rfl
    simp only [Sem.run_bind, p1, p2, p3, Result.andThen_ok]
    cases f i == g i <;> rfl
end Go.Proofs.Ytkbnoeebnmphbaa.H
