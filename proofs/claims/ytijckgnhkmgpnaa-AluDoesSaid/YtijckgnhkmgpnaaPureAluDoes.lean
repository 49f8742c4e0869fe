/- AluDoes: any operation of layer 5 on any two words comes to what the reference says, or is none, for every number and every two words; no condition. -/
import Derived.Test.YtijckgnhkmgpnaaPAllx6
import Derived.Test.YtijckgnhkmgpnaaS0
namespace Go.Proofs.Ytijckgnhkmgpnaa.PureAluDoes
open Go.RowKit Go.Proofs.Ytijckgnhkmgpnaa.PAll Go.Proofs.YtijckgnhkmgpnaaW.PrintWords Go.Proofs.YtijckgnhkmgpnaaW.PrintLast
open Go.Proofs.Ytijckgnhkmgpnaa.Vw Go.Proofs.Ytijckgnhkmgpnaa.Pure
set_option linter.unusedVariables false
set_option linter.unusedSimpArgs false

theorem awake_is : vireolaw05_awake.f 420 = some true := by decide +kernel
theorem none_l (op : Int) (a b : Int) (m : Nat) (n22 : ¬ op = 22) (n23 : ¬ op = 23) (n24 : ¬ op = 24) (n25 : ¬ op = 25) (n26 : ¬ op = 26) (n27 : ¬ op = 27) (n28 : ¬ op = 28) (n29 : ¬ op = 29) (n30 : ¬ op = 30) (n31 : ¬ op = 31) (n32 : ¬ op = 32) (n33 : ¬ op = 33) (n34 : ¬ op = 34) (n35 : ¬ op = 35) (n36 : ¬ op = 36) (n37 : ¬ op = 37) (n38 : ¬ op = 38) (n39 : ¬ op = 39) (n40 : ¬ op = 40) (n41 : ¬ op = 41) (n42 : ¬ op = 42) (n43 : ¬ op = 43) (n44 : ¬ op = 44) (n45 : ¬ op = 45) (n46 : ¬ op = 46) (n47 : ¬ op = 47) (n48 : ¬ op = 48) (n49 : ¬ op = 49) : alu_Do.f (m + 20) op a b = some (0, false) := by
  have b22 : (op == 22) = false := beq_eq_false_iff_ne.mpr n22
  have b23 : (op == 23) = false := beq_eq_false_iff_ne.mpr n23
  have b24 : (op == 24) = false := beq_eq_false_iff_ne.mpr n24
  have b25 : (op == 25) = false := beq_eq_false_iff_ne.mpr n25
  have b26 : (op == 26) = false := beq_eq_false_iff_ne.mpr n26
  have b27 : (op == 27) = false := beq_eq_false_iff_ne.mpr n27
  have b28 : (op == 28) = false := beq_eq_false_iff_ne.mpr n28
  have b29 : (op == 29) = false := beq_eq_false_iff_ne.mpr n29
  have b30 : (op == 30) = false := beq_eq_false_iff_ne.mpr n30
  have b31 : (op == 31) = false := beq_eq_false_iff_ne.mpr n31
  have b32 : (op == 32) = false := beq_eq_false_iff_ne.mpr n32
  have b33 : (op == 33) = false := beq_eq_false_iff_ne.mpr n33
  have b34 : (op == 34) = false := beq_eq_false_iff_ne.mpr n34
  have b35 : (op == 35) = false := beq_eq_false_iff_ne.mpr n35
  have b36 : (op == 36) = false := beq_eq_false_iff_ne.mpr n36
  have b37 : (op == 37) = false := beq_eq_false_iff_ne.mpr n37
  have b38 : (op == 38) = false := beq_eq_false_iff_ne.mpr n38
  have b39 : (op == 39) = false := beq_eq_false_iff_ne.mpr n39
  have b40 : (op == 40) = false := beq_eq_false_iff_ne.mpr n40
  have b41 : (op == 41) = false := beq_eq_false_iff_ne.mpr n41
  have b42 : (op == 42) = false := beq_eq_false_iff_ne.mpr n42
  have b43 : (op == 43) = false := beq_eq_false_iff_ne.mpr n43
  have b44 : (op == 44) = false := beq_eq_false_iff_ne.mpr n44
  have b45 : (op == 45) = false := beq_eq_false_iff_ne.mpr n45
  have b46 : (op == 46) = false := beq_eq_false_iff_ne.mpr n46
  have b47 : (op == 47) = false := beq_eq_false_iff_ne.mpr n47
  have b48 : (op == 48) = false := beq_eq_false_iff_ne.mpr n48
  have b49 : (op == 49) = false := beq_eq_false_iff_ne.mpr n49
  unfold alu_Do.f
  rw [if_neg n31, b22]
  simp only [alu_Do.j0]
  rw [if_neg (show ¬ (false = true) by decide), if_neg n32, if_neg n33, b28]
  simp only [alu_Do.j1]
  rw [if_neg (show ¬ (false = true) by decide), if_neg n34, b23]
  simp only [alu_Do.j2]
  rw [if_neg (show ¬ (false = true) by decide), if_neg n35, b24]
  simp only [alu_Do.j3]
  rw [if_neg (show ¬ (false = true) by decide), if_neg n36, b25]
  simp only [alu_Do.j4]
  rw [if_neg (show ¬ (false = true) by decide), if_neg n37, b29]
  simp only [alu_Do.j5]
  rw [if_neg (show ¬ (false = true) by decide), if_neg n38, b30]
  simp only [alu_Do.j6]
  rw [if_neg (show ¬ (false = true) by decide), if_neg n39, b26]
  simp only [alu_Do.j7]
  rw [if_neg (show ¬ (false = true) by decide), if_neg n40, if_neg n27]
  unfold alu_half.f
  rw [if_neg n45, b41]
  simp only [alu_half.j0]
  rw [if_neg (show ¬ (false = true) by decide), if_neg n46, if_neg n47, b42]
  simp only [alu_half.j1]
  rw [if_neg (show ¬ (false = true) by decide), if_neg n48, b43]
  simp only [alu_half.j2]
  rw [if_neg (show ¬ (false = true) by decide), if_neg n49, if_neg n44, Option.bind_some]
theorem none_r (op : Int) (a b : Int) (m : Nat) (n22 : ¬ op = 22) (n23 : ¬ op = 23) (n24 : ¬ op = 24) (n25 : ¬ op = 25) (n26 : ¬ op = 26) (n27 : ¬ op = 27) (n28 : ¬ op = 28) (n29 : ¬ op = 29) (n30 : ¬ op = 30) (n31 : ¬ op = 31) (n32 : ¬ op = 32) (n33 : ¬ op = 33) (n34 : ¬ op = 34) (n35 : ¬ op = 35) (n36 : ¬ op = 36) (n37 : ¬ op = 37) (n38 : ¬ op = 38) (n39 : ¬ op = 39) (n40 : ¬ op = 40) (n41 : ¬ op = 41) (n42 : ¬ op = 42) (n43 : ¬ op = 43) (n44 : ¬ op = 44) (n45 : ¬ op = 45) (n46 : ¬ op = 46) (n47 : ¬ op = 47) (n48 : ¬ op = 48) (n49 : ¬ op = 49) : vireoref05_Do.f (m + 20) op a b = some (0, false) := by
  have b22 : (op == 22) = false := beq_eq_false_iff_ne.mpr n22
  have b23 : (op == 23) = false := beq_eq_false_iff_ne.mpr n23
  have b24 : (op == 24) = false := beq_eq_false_iff_ne.mpr n24
  have b25 : (op == 25) = false := beq_eq_false_iff_ne.mpr n25
  have b26 : (op == 26) = false := beq_eq_false_iff_ne.mpr n26
  have b27 : (op == 27) = false := beq_eq_false_iff_ne.mpr n27
  have b28 : (op == 28) = false := beq_eq_false_iff_ne.mpr n28
  have b29 : (op == 29) = false := beq_eq_false_iff_ne.mpr n29
  have b30 : (op == 30) = false := beq_eq_false_iff_ne.mpr n30
  have b31 : (op == 31) = false := beq_eq_false_iff_ne.mpr n31
  have b32 : (op == 32) = false := beq_eq_false_iff_ne.mpr n32
  have b33 : (op == 33) = false := beq_eq_false_iff_ne.mpr n33
  have b34 : (op == 34) = false := beq_eq_false_iff_ne.mpr n34
  have b35 : (op == 35) = false := beq_eq_false_iff_ne.mpr n35
  have b36 : (op == 36) = false := beq_eq_false_iff_ne.mpr n36
  have b37 : (op == 37) = false := beq_eq_false_iff_ne.mpr n37
  have b38 : (op == 38) = false := beq_eq_false_iff_ne.mpr n38
  have b39 : (op == 39) = false := beq_eq_false_iff_ne.mpr n39
  have b40 : (op == 40) = false := beq_eq_false_iff_ne.mpr n40
  have b41 : (op == 41) = false := beq_eq_false_iff_ne.mpr n41
  have b42 : (op == 42) = false := beq_eq_false_iff_ne.mpr n42
  have b43 : (op == 43) = false := beq_eq_false_iff_ne.mpr n43
  have b44 : (op == 44) = false := beq_eq_false_iff_ne.mpr n44
  have b45 : (op == 45) = false := beq_eq_false_iff_ne.mpr n45
  have b46 : (op == 46) = false := beq_eq_false_iff_ne.mpr n46
  have b47 : (op == 47) = false := beq_eq_false_iff_ne.mpr n47
  have b48 : (op == 48) = false := beq_eq_false_iff_ne.mpr n48
  have b49 : (op == 49) = false := beq_eq_false_iff_ne.mpr n49
  unfold vireoref05_Do.f
  rw [if_neg n31, b22]
  simp only [vireoref05_Do.j0]
  rw [if_neg (show ¬ (false = true) by decide), if_neg n32, if_neg n33, b28]
  simp only [vireoref05_Do.j1]
  rw [if_neg (show ¬ (false = true) by decide), if_neg n37, b29]
  simp only [vireoref05_Do.j2]
  rw [if_neg (show ¬ (false = true) by decide), if_neg n38, b30]
  simp only [vireoref05_Do.j3]
  rw [if_neg (show ¬ (false = true) by decide), if_neg n34, b23]
  simp only [vireoref05_Do.j4]
  rw [if_neg (show ¬ (false = true) by decide), if_neg n35, b24]
  simp only [vireoref05_Do.j5]
  rw [if_neg (show ¬ (false = true) by decide), if_neg n40, b27]
  simp only [vireoref05_Do.j6]
  rw [if_neg (show ¬ (false = true) by decide), if_neg n39, b26]
  simp only [vireoref05_Do.j7]
  rw [if_neg (show ¬ (false = true) by decide), if_neg n36, b25]
  simp only [vireoref05_Do.j8]
  rw [if_neg (show ¬ (false = true) by decide), if_neg n45, b41]
  simp only [vireoref05_Do.j9]
  rw [if_neg (show ¬ (false = true) by decide), if_neg n46, if_neg n47, b42]
  simp only [vireoref05_Do.j10]
  rw [if_neg (show ¬ (false = true) by decide), if_neg n48, b43]
  simp only [vireoref05_Do.j11]
  rw [if_neg (show ¬ (false = true) by decide), if_neg n49, b44]
  simp only [vireoref05_Do.j12]
  rw [if_neg (show ¬ (false = true) by decide)]
theorem same (op : Int) (a b : Nat) (ha : a < 18446744073709551616) (hb : b < 18446744073709551616) (m : Nat) (hm : 150 ≤ m) : ∃ (x : Int) (ok : Bool), alu_Do.f (m + 20) op (a : Int) (b : Int) = some (x, ok) ∧ vireoref05_Do.f (m + 20) op (a : Int) (b : Int) = some (x, ok) := by
  have go : ∀ v, Both (m + 20) op a b v → ∃ (x : Int) (ok : Bool), alu_Do.f (m + 20) op (a : Int) (b : Int) = some (x, ok) ∧ vireoref05_Do.f (m + 20) op (a : Int) (b : Int) = some (x, ok) := fun v h => ⟨_, _, h.2.1, h.2.2⟩
  by_cases n31 : op = 31
  · subst n31; exact go _ (both_add a b ha hb m hm 31 (.inl rfl))
  by_cases n22 : op = 22
  · subst n22; exact go _ (both_add a b ha hb m hm 22 (.inr rfl))
  by_cases n32 : op = 32
  · subst n32; exact go _ (both_sub a b ha hb m hm)
  by_cases n33 : op = 33
  · subst n33; exact go _ (both_sll a b ha hb m hm 33 (.inl rfl))
  by_cases n28 : op = 28
  · subst n28; exact go _ (both_sll a b ha hb m hm 28 (.inr rfl))
  by_cases n34 : op = 34
  · subst n34; exact go _ (both_slt a b ha hb m hm 34 (.inl rfl))
  by_cases n23 : op = 23
  · subst n23; exact go _ (both_slt a b ha hb m hm 23 (.inr rfl))
  by_cases n35 : op = 35
  · subst n35; exact go _ (both_sltu a b ha hb m hm 35 (.inl rfl))
  by_cases n24 : op = 24
  · subst n24; exact go _ (both_sltu a b ha hb m hm 24 (.inr rfl))
  by_cases n36 : op = 36
  · subst n36; exact go _ (both_xor a b ha hb m hm 36 (.inl rfl))
  by_cases n25 : op = 25
  · subst n25; exact go _ (both_xor a b ha hb m hm 25 (.inr rfl))
  by_cases n37 : op = 37
  · subst n37; exact go _ (both_srl a b ha hb m hm 37 (.inl rfl))
  by_cases n29 : op = 29
  · subst n29; exact go _ (both_srl a b ha hb m hm 29 (.inr rfl))
  by_cases n38 : op = 38
  · subst n38; exact go _ (both_sra a b ha hb m hm 38 (.inl rfl))
  by_cases n30 : op = 30
  · subst n30; exact go _ (both_sra a b ha hb m hm 30 (.inr rfl))
  by_cases n39 : op = 39
  · subst n39; exact go _ (both_or a b ha hb m hm 39 (.inl rfl))
  by_cases n26 : op = 26
  · subst n26; exact go _ (both_or a b ha hb m hm 26 (.inr rfl))
  by_cases n40 : op = 40
  · subst n40; exact go _ (both_and a b ha hb m hm 40 (.inl rfl))
  by_cases n27 : op = 27
  · subst n27; exact go _ (both_and a b ha hb m hm 27 (.inr rfl))
  by_cases n45 : op = 45
  · subst n45; exact go _ (both_addw a b ha hb m hm 45 (.inl rfl))
  by_cases n41 : op = 41
  · subst n41; exact go _ (both_addw a b ha hb m hm 41 (.inr rfl))
  by_cases n46 : op = 46
  · subst n46; exact go _ (both_subw a b ha hb m hm)
  by_cases n47 : op = 47
  · subst n47; exact go _ (both_sllw a b ha hb m hm 47 (.inl rfl))
  by_cases n42 : op = 42
  · subst n42; exact go _ (both_sllw a b ha hb m hm 42 (.inr rfl))
  by_cases n48 : op = 48
  · subst n48; exact go _ (both_srlw a b ha hb m hm 48 (.inl rfl))
  by_cases n43 : op = 43
  · subst n43; exact go _ (both_srlw a b ha hb m hm 43 (.inr rfl))
  by_cases n49 : op = 49
  · subst n49; exact go _ (both_sraw a b ha hb m hm 49 (.inl rfl))
  by_cases n44 : op = 44
  · subst n44; exact go _ (both_sraw a b ha hb m hm 44 (.inr rfl))
  exact ⟨0, false, none_l op a b m n22 n23 n24 n25 n26 n27 n28 n29 n30 n31 n32 n33 n34 n35 n36 n37 n38 n39 n40 n41 n42 n43 n44 n45 n46 n47 n48 n49, none_r op a b m n22 n23 n24 n25 n26 n27 n28 n29 n30 n31 n32 n33 n34 n35 n36 n37 n38 n39 n40 n41 n42 n43 n44 n45 n46 n47 n48 n49⟩
theorem AluDoes : vireolaw05_AluDoes.Pure := by
  intro a0 a1 a2 h0 h1 h2
  obtain ⟨a, rfl, ha⟩ := u64_of_wf h1
  obtain ⟨b, rfl, hb⟩ := u64_of_wf h2
  refine ⟨420, ?_⟩
  unfold vireolaw05_AluDoes.f
  obtain ⟨x, ok, e1, e2⟩ := same a0 a b ha hb 400 (by omega)
  rw [awake_is, Option.bind_some, if_pos rfl, e1, Option.bind_some, e2, Option.bind_some, if_pos rfl, beq_self_eq_true]
end Go.Proofs.Ytijckgnhkmgpnaa.PureAluDoes
namespace Go.Proofs.Ytijckgnhkmgpnaa.Pure
theorem AluDoes : PAll.vireolaw05_AluDoes.Pure := PureAluDoes.AluDoes
end Go.Proofs.Ytijckgnhkmgpnaa.Pure
