/- A program's file is read as the program, and laying it comes to an end. -/
import Derived.Test.YtnompdckpenfgaaS0
import Derived.Test.YtnompdckpenfgaaPAlx2
import Derived.Test.YtnompdckpenfgaaPAlx4
import Derived.Test.YtnompdckpenfgaaPAlx5
/- Words as bytes, the lowest first. -/
namespace Go.Proofs.Ytnompdckpenfgaa.Pure
open Go.RowKit Go.Proofs.Ytnompdckpenfgaa.PAl Go.Proofs.YtnompdckpenfgaaW.PrintWords Go.Proofs.YtnompdckpenfgaaW.PrintLast Go.Proofs.Ytnompdckpenfgaa.Vw
set_option linter.unusedVariables false
set_option linter.unusedSimpArgs false
/-- the n low bytes of w, the lowest first -/
def bys (w n : Nat) : List Int := (List.range n).map fun i => ((w / 256 ^ i % 256 : Nat) : Int)
theorem bys_length (w n : Nat) : (bys w n).length = n := by simp [bys]
theorem bys_succ (w n : Nat) : bys w (n + 1) = bys w n ++ [((w / 256 ^ n % 256 : Nat) : Int)] := by simp [bys, List.range_succ]
theorem bys_rd (w n i : Nat) (h : i < n) : rd (bys w n) (i : Int) = ((w / 256 ^ i % 256 : Nat) : Int) := by
  unfold rd bys
  rw [Int.toNat_natCast]
  simp [List.getD_eq_getElem?_getD, h]
theorem div256 (w i : Nat) : w / 256 ^ i / 256 = w / 256 ^ (i + 1) := by rw [Nat.div_div_eq_div_mul, Nat.pow_succ]
/-- how many -/
def bcn (n : Int) : Nat := (mn (mx n 0) 4096).toNat
theorem bcn_le (n : Int) : bcn n ≤ 4096 := by unfold bcn mn mx; split <;> split <;> omega
theorem bcn_is (n : Int) : mn (mx n 0) 4096 = ((bcn n : Nat) : Int) := by unfold bcn mn mx; split <;> split <;> omega
theorem word_Bytes_l0 (w n : Nat) (hn : n ≤ 4096) : ∀ (m k i : Nat), i + m = n → word_Bytes.l0 (m + k + 1) ((w / 256 ^ i : Nat) : Int) (bys w i) (n : Int) (i : Int) = some (bys w n)
  | 0, k, i, h => by
    have e : i = n := by omega
    rw [e, word_Bytes.l0, if_neg (by omega)]
  | m + 1, k, i, h => by
    have e : m + 1 + k + 1 = (m + k + 1) + 1 := by omega
    have e1 : ((w / 256 ^ i : Nat) : Int) / 256 = ((w / 256 ^ (i + 1) : Nat) : Int) := by rw [← div256 w i]; omega
    have e2 : ((w / 256 ^ i : Nat) : Int) % 256 = ((w / 256 ^ i % 256 : Nat) : Int) := by omega
    have e3 : wrap64 ((i : Int) + 1) = ((i + 1 : Nat) : Int) := by rw [w64_id _ (by omega) (by omega)]; omega
    rw [e, word_Bytes.l0, if_pos (by omega), if_pos (by rw [bys_length]; omega), e1, e2, e3, ← bys_succ]
    exact word_Bytes_l0 w n hn m k (i + 1) (by omega)
theorem word_Bytes_is (k : Nat) (hk : 5000 ≤ k) (w : Nat) (n : Int) : word_Bytes.f k (w : Int) n = some (bys w (bcn n)) := by
  have hc := bcn_le n
  obtain ⟨k, rfl⟩ : ∃ j, k = bcn n + j + 1 := ⟨k - bcn n - 1, by omega⟩
  unfold word_Bytes.f
  rw [bcn_is]
  have h := word_Bytes_l0 w (bcn n) hc (bcn n) k 0 (by omega)
  rw [Nat.pow_zero, Nat.div_one] at h
  exact h

/-- the word of the first m bytes -/
def lov (l : List Int) : Nat → Nat
  | 0 => 0
  | m + 1 => lov l m + (rd l (m : Int)).toNat * 256 ^ m
def octets (l : List Int) : Prop := ∀ i : Nat, 0 ≤ rd l (i : Int) ∧ rd l (i : Int) < 256
theorem lov_lt (l : List Int) (h : octets l) : ∀ m, lov l m < 256 ^ m
  | 0 => by simp [lov]
  | m + 1 => by
    have ih := lov_lt l h m
    have hb := h m
    rw [lov, Nat.pow_succ]
    have : (rd l (m : Int)).toNat * 256 ^ m ≤ 255 * 256 ^ m := Nat.mul_le_mul_right _ (by omega)
    omega
theorem p256 (m : Nat) : 256 ^ m = 2 ^ (8 * m) := by rw [Nat.pow_mul]
theorem p256_le (m : Nat) (h : m ≤ 8) : 256 ^ m ≤ 18446744073709551616 := by
  have : 256 ^ m ≤ 256 ^ 8 := Nat.pow_le_pow_right (by omega) h
  have e : 256 ^ 8 = 18446744073709551616 := by decide
  omega
theorem lov_bys (w n : Nat) : ∀ m, m ≤ n → lov (bys w n) m = w % 256 ^ m
  | 0, _ => by simp [lov, Nat.mod_one]
  | m + 1, h => by
    rw [lov, lov_bys w n m (by omega), bys_rd w n m (by omega), Int.toNat_natCast, Nat.pow_succ, Nat.mod_mul, Nat.mul_comm]
theorem octets_bys (w n : Nat) : octets (bys w n) := by
  intro i
  by_cases h : i < n
  · rw [bys_rd w n i h]; omega
  · have : rd (bys w n) (i : Int) = 0 := by
      unfold rd bys
      rw [Int.toNat_natCast]
      simp [List.getD_eq_getElem?_getD, h]
    omega

theorem lov_or (l : List Int) (h : octets l) (m : Nat) (hm : m < 8) : lov l m ||| ((rd l (m : Int)).toNat * 2 ^ (8 * m) % 18446744073709551616) = lov l (m + 1) := by
  have h1 := lov_lt l h m
  have h2 := lov_lt l h (m + 1)
  have h3 := p256_le (m + 1) (by omega)
  rw [p256] at h1
  have e : (rd l (m : Int)).toNat * 2 ^ (8 * m) % 18446744073709551616 = (rd l (m : Int)).toNat * 2 ^ (8 * m) := by
    apply Nat.mod_eq_of_lt
    rw [lov, p256 m] at h2
    omega
  rw [e, lov, p256, Nat.or_comm, Nat.mul_comm, ← Nat.two_pow_add_eq_or_of_lt h1, Nat.add_comm, Nat.mul_comm]
theorem word_Of_l0 (l : List Int) (h : octets l) (hl : l.length ≤ 1000) : ∀ (j k i : Nat), i + j = min l.length 8 → word_Of.l0 (j + k + 1) ((lov l i : Nat) : Int) l (l.length : Int) (i : Int) = some ((lov l (min l.length 8) : Nat) : Int)
  | 0, k, i, hi => by
    have e : i = min l.length 8 := by omega
    rw [← e, word_Of.l0]
    by_cases c : (i : Int) < (l.length : Int)
    · rw [if_pos c, if_pos (by omega), if_pos c, if_pos (by omega)]
    · rw [if_neg c]
  | j + 1, k, i, hi => by
    have hb := h i
    have e : j + 1 + k + 1 = (j + k + 1) + 1 := by omega
    have e8 : wrap64 (8 * (i : Int)) = ((8 * i : Nat) : Int) := by rw [w64_id _ (by omega) (by omega)]; omega
    have er : IntKind.u64.wrap (rd l (i : Int)) = (((rd l (i : Int)).toNat : Nat) : Int) := by rw [u64_id _ (by omega) (by omega)]; omega
    have e3 : wrap64 ((i : Int) + 1) = ((i + 1 : Nat) : Int) := by rw [w64_id _ (by omega) (by omega)]; omega
    have c1 : (i : Int) < (l.length : Int) := by omega
    have c2 : (0 : Int) ≤ i := by omega
    have c3 : ¬ (i : Int) = 8 := by omega
    have c4 : (0 : Int) ≤ ((8 * i : Nat) : Int) := by omega
    have c5 : 8 * i ≤ 64 := by omega
    have c6 : i < 8 := by omega
    have c7 : i + 1 + j = min l.length 8 := by omega
    have h1 : lov l i < 18446744073709551616 := Nat.lt_of_lt_of_le (lov_lt l h i) (p256_le i (by omega))
    rw [e, word_Of.l0, if_pos c1, if_pos c2, if_pos c1, if_neg c3, e8, if_pos c4, er, shl_nat _ _ c5, or_nat _ _ h1 (Nat.mod_lt _ (by decide)), lov_or l h i c6, e3]
    exact word_Of_l0 l h hl j k (i + 1) c7
theorem word_Of_is (k : Nat) (hk : 20 ≤ k) (l : List Int) (h : octets l) (hl : l.length ≤ 1000) : word_Of.f k l = some ((lov l (min l.length 8) : Nat) : Int) := by
  obtain ⟨k, rfl⟩ : ∃ j, k = min l.length 8 + j + 1 := ⟨k - min l.length 8 - 1, by omega⟩
  unfold word_Of.f
  exact word_Of_l0 l h hl _ k 0 (by omega)
/-- A word, read from its own bytes. -/
theorem of_bys (k : Nat) (hk : 20 ≤ k) (x n : Nat) (hn : n ≤ 8) (hx : x < 256 ^ n) : word_Of.f k (bys x n) = some (x : Int) := by
  rw [word_Of_is k hk (bys x n) (octets_bys x n) (by rw [bys_length]; omega), bys_length, Nat.min_eq_left hn, lov_bys x n n (Nat.le_refl _), Nat.mod_eq_of_lt hx]
theorem bytes_bys (k : Nat) (hk : 5000 ≤ k) (x n : Nat) (hn : n ≤ 8) : word_Bytes.f k (x : Int) (n : Int) = some (bys x n) := by
  have := word_Bytes_is k hk x (n : Int)
  have e : bcn (n : Int) = n := by unfold bcn mn mx; split <;> split <;> omega
  rwa [e] at this
end Go.Proofs.Ytnompdckpenfgaa.Pure
/- A program's file: what image.Bytes makes. -/
namespace Go.Proofs.Ytnompdckpenfgaa.Pure
open Go.RowKit Go.Proofs.Ytnompdckpenfgaa.PAl Go.Proofs.YtnompdckpenfgaaW.PrintWords Go.Proofs.YtnompdckpenfgaaW.PrintLast Go.Proofs.Ytnompdckpenfgaa.Vw
set_option linter.unusedVariables false
set_option linter.unusedSimpArgs false
/-- words, each with how many bytes it has -/
def flds : List (Nat × Nat) → List Int
  | [] => []
  | p :: l => bys p.1 p.2 ++ flds l
def inter : List (Nat × Nat) → List Int
  | [] => []
  | p :: l => (p.1 : Int) :: (p.2 : Int) :: inter l
theorem inter_length : ∀ l, (inter l).length = 2 * l.length
  | [] => rfl
  | p :: l => by simp [inter, inter_length l]; omega
theorem flds_length : ∀ l, (flds l).length = (l.map (·.2)).sum
  | [] => rfl
  | p :: l => by simp [flds, flds_length l, bys_length]
theorem flds_le : ∀ l, (∀ p ∈ l, p.2 ≤ 8) → (flds l).length ≤ 8 * l.length
  | [], _ => by simp [flds]
  | p :: l, h => by
    have := flds_le l (fun q hq => h q (List.mem_cons_of_mem _ hq))
    have := h p (List.mem_cons_self ..)
    simp only [flds, List.length_append, bys_length, List.length_cons]
    omega
theorem rd_mid (A : List Int) (x : Int) (C : List Int) (i : Int) (h : i = (A.length : Int)) : rd (A ++ x :: C) i = x := by
  subst h
  unfold rd
  rw [Int.toNat_natCast]
  simp [List.getD_eq_getElem?_getD]
theorem cap47 (a b : Nat) (h : a + b < 1000000) : a + b < 140737488355328 := Nat.lt_of_lt_of_le h (by decide)
theorem fields_l0 (L : List Int) (hL : L.length < 1000) (k : Nat) (hk : 5000 ≤ k) (ps : List (Nat × Nat)) : ∀ (pre acc : List Int), L = pre ++ inter ps → (∀ p ∈ ps, p.2 ≤ 8) → acc.length + 8 * ps.length < 1000000 →
    image_fields.l0 (ps.length + k + 1) L acc (pre.length : Int) = some (acc ++ flds ps) := by
  induction ps with
  | nil =>
    intro pre acc hp hn ha
    have e : L.length = pre.length := by rw [hp]; simp [inter]
    rw [List.length_nil, Nat.zero_add, image_fields.l0, if_neg (by rw [w64_id _ (by omega) (by omega)]; omega)]
    simp [flds]
  | cons p ps ih =>
    intro pre acc hp hn ha0
    have ha : acc.length + 8 * (ps.length + 1) < 1000000 := ha0
    clear ha0
    have hl : L.length = pre.length + 2 * (ps.length + 1) := by rw [hp]; simp [inter_length]
    have h1 : rd L (pre.length : Int) = (p.1 : Int) := by rw [hp]; exact rd_mid pre _ _ _ rfl
    have h2 : rd L (wrap64 ((pre.length : Int) + 1)) = (p.2 : Int) := by
      rw [w64_id _ (by omega) (by omega), hp]
      have e : pre ++ inter (p :: ps) = (pre ++ [(p.1 : Int)]) ++ ((p.2 : Int) :: inter ps) := by simp [inter]
      rw [e]
      exact rd_mid _ _ _ _ (by simp)
    have hn8 := hn p (List.mem_cons_self ..)
    have e1 : wrap64 ((pre.length : Int) + 1) = (pre.length : Int) + 1 := w64_id _ (by omega) (by omega)
    have c1 : wrap64 ((pre.length : Int) + 1) < (L.length : Int) := by rw [e1]; omega
    have c2 : (0 : Int) ≤ pre.length := by omega
    have c3 : (pre.length : Int) < (L.length : Int) := by omega
    have c4 : (0 : Int) ≤ wrap64 ((pre.length : Int) + 1) := by rw [e1]; omega
    have hal : (acc ++ bys p.1 p.2).length + 8 * ps.length < 1000000 := by
      clear h1 h2 hp hn ih hl
      have h1 := bys_length p.1 p.2
      have h2 : (acc ++ bys p.1 p.2).length = acc.length + (bys p.1 p.2).length := List.length_append
      omega
    have hal2 : acc.length + (bys p.1 p.2).length < 1000000 := by
      clear h1 h2 hp hn ih hl
      have h1 := bys_length p.1 p.2
      omega
    have e : (p :: ps).length + k + 1 = (ps.length + k + 1) + 1 := by rw [List.length_cons]; omega
    have ew : wrap64 ((pre.length : Int) + 2) = (((pre ++ [(p.1 : Int), (p.2 : Int)]).length : Nat) : Int) := by rw [w64_id _ (by omega) (by omega)]; simp
    have e2 : wrap64 (p.2 : Int) = (p.2 : Int) := w64_id _ (by omega) (by omega)
    have eb : word_Bytes.f (ps.length + k + 1) (p.1 : Int) (p.2 : Int) = some (bys p.1 p.2) := bytes_bys _ (by omega) _ _ hn8
    have hr := ih (pre ++ [(p.1 : Int), (p.2 : Int)]) (acc ++ bys p.1 p.2) (by rw [hp]; simp [inter]) (fun q hq => hn q (List.mem_cons_of_mem _ hq)) hal
    have hb : acc.length + (bys p.1 p.2).length < 140737488355328 := cap47 _ _ hal2
    rw [e, image_fields.l0, if_pos c1, if_pos c2, if_pos c3, if_pos c4, h1, h2, e2, eb, Option.bind_some, if_pos hb, ew, hr]
    simp [flds]
theorem fields_is (k : Nat) (hk : 5200 ≤ k) (ps : List (Nat × Nat)) (hp : ps.length ≤ 100) (hn : ∀ p ∈ ps, p.2 ≤ 8) : image_fields.f k (inter ps) = some (flds ps) := by
  obtain ⟨k, rfl⟩ : ∃ j, k = ps.length + j + 1 := ⟨k - ps.length - 1, by omega⟩
  unfold image_fields.f
  have h := fields_l0 (inter ps) (by rw [inter_length]; omega) k (by omega) ps [] [] rfl hn (by simp; omega)
  simpa using h

/-- a part's row of the table -/
def pent (f A n z : Nat) : List (Nat × Nat) := [(1, 4), (7, 4), (f, 8), (A, 8), (A, 8), (n, 8), (z, 8), (1, 8)]
def pen (f : Nat) (x : S29) : List Int := flds (pent f x.f0.toNat x.f1.length x.f2.toNat)
theorem pen_length (f : Nat) (x : S29) : (pen f x).length = 56 := by rw [pen, flds_length]; rfl
def tab : Nat → List S29 → List Int
  | _, [] => []
  | f, x :: l => pen f x ++ tab (f + x.f1.length) l
theorem tab_length : ∀ f l, (tab f l).length = 56 * l.length
  | _, [] => rfl
  | f, x :: l => by rw [tab, List.length_append, pen_length, tab_length, List.length_cons]; omega
def dat : List S29 → List Int
  | [] => []
  | x :: l => x.f1 ++ dat l
def hdr (E c : Nat) : List (Nat × Nat) := [(2, 2), (243, 2), (1, 4), (E, 8), (64, 8), (0, 8), (0, 4), (64, 2), (56, 2), (c, 2), (64, 2), (0, 2), (0, 2)]
def head (E c : Nat) : List Int := ((bys 1179403647 4 ++ [2, 1, 1]) ++ List.replicate 9 0) ++ flds (hdr E c)
theorem head_length (E c : Nat) : (head E c).length = 64 := by
  unfold head
  rw [List.length_append, List.length_append, List.length_append, bys_length, List.length_replicate, flds_length]
  rfl
/-- a part's numbers are what they may be -/
def Good (x : S29) : Prop := 0 ≤ x.f0 ∧ x.f0 < 18446744073709551616 ∧ 0 ≤ x.f2 ∧ x.f2 < 18446744073709551616 ∧ octets x.f1
def Fits (x : S29) : Prop := (x.f1.length : Int) ≤ x.f2
instance (x : S29) : Decidable (Fits x) := by unfold Fits; infer_instance
theorem rd29_mid (A : List S29) (x : S29) (C : List S29) (i : Int) (h : i = (A.length : Int)) : rd_T29 (A ++ x :: C) i = x := by
  subst h
  unfold rd_T29
  rw [Int.toNat_natCast]
  simp [List.getD_eq_getElem?_getD]
theorem bytes_l1 : ∀ (l pre : List S29) (acc : List Int) (k : Nat), pre.length + l.length < 1000 → acc.length + (dat l).length < 1000000 →
    image_Bytes.l1 (l.length + k + 1) acc (pre ++ l) (((pre ++ l).length : Nat) : Int) (pre.length : Int) = some (acc ++ dat l, 0)
  | [], pre, acc, k, h, ha => by
    rw [List.length_nil, Nat.zero_add, image_Bytes.l1, if_neg (by simp)]
    simp [dat]
  | x :: l, pre, acc, k, h, ha => by
    simp only [List.length_cons, dat, List.length_append] at h ha
    have e : (x :: l).length + k + 1 = (l.length + k + 1) + 1 := by simp; omega
    have hr : rd_T29 (pre ++ x :: l) (pre.length : Int) = x := rd29_mid pre x l _ rfl
    have hlen : (((pre ++ x :: l).length : Nat) : Int) = pre.length + l.length + 1 := by simp; omega
    have ew : wrap64 ((pre.length : Int) + 1) = (((pre ++ [x]).length : Nat) : Int) := by rw [w64_id _ (by omega) (by omega)]; simp
    have el : pre ++ x :: l = (pre ++ [x]) ++ l := by simp
    rw [e, image_Bytes.l1, if_pos (by rw [hlen]; omega), if_pos (by omega), if_pos (by rw [hlen]; omega), hr, if_pos (by omega), ew, el, bytes_l1 l (pre ++ [x]) (acc ++ x.f1) k (by simp; omega) (by simp; omega)]
    simp [dat]
theorem inter_pent (f : Nat) (x : S29) (hx : Good x) : inter (pent f x.f0.toNat x.f1.length x.f2.toNat) = [1, 4, 7, 4, (f : Int), 8, x.f0, 8, x.f0, 8, (x.f1.length : Int), 8, x.f2, 8, 1, 8] := by
  have e0 : ((x.f0.toNat : Nat) : Int) = x.f0 := Int.toNat_of_nonneg hx.1
  have e2 : ((x.f2.toNat : Nat) : Int) = x.f2 := Int.toNat_of_nonneg hx.2.2.1
  simp [inter, pent, e0, e2]
theorem bytes_l0 (L : List S29) : ∀ (l pre : List S29) (acc : List Int) (f : Nat) (e : Int) (k : Nat), 6000 ≤ k → L = pre ++ l → L.length < 1000 → acc.length + 56 * l.length + (dat L).length < 1000000 → f + (dat l).length < 1000000 → (∀ x ∈ l, Good x) →
    image_Bytes.l0 (l.length + L.length + k + 1) acc (f : Int) L ((L.length : Nat) : Int) (pre.length : Int) e L = some (if ∀ x ∈ l, Fits x then (acc ++ tab f l ++ dat L, 0) else ([], 250))
  | [], pre, acc, f, e, k, hk, hL, hn, ha, hf, hg => by
    have hp : L.length = pre.length := by rw [hL]; simp
    rw [List.length_nil, Nat.zero_add, image_Bytes.l0, if_neg (by omega)]
    have h := bytes_l1 L [] acc (k - 1) (by simp; omega) (by simp only [List.length_nil] at ha; omega)
    have ek : L.length + (k - 1) + 1 = L.length + k := by omega
    rw [ek] at h
    simp only [List.nil_append, List.length_nil] at h
    rw [if_pos (by intro x hx; cases hx)]
    simpa [tab] using h
  | x :: l, pre, acc, f, e, k, hk, hL, hn, ha, hf, hg => by
    have hx := hg x (List.mem_cons_self ..)
    have hp : L.length = pre.length + l.length + 1 := by rw [hL]; simp; omega
    have hr : rd_T29 L (pre.length : Int) = x := by rw [hL]; exact rd29_mid pre x l _ rfl
    simp only [List.length_cons, dat, List.length_append] at ha hf
    have e1 : (x :: l).length + L.length + k + 1 = (l.length + L.length + k + 1) + 1 := by simp; omega
    have eu : IntKind.u64.wrap ((x.f1.length : Nat) : Int) = (x.f1.length : Int) := u64_nat _ (by omega)
    rw [e1, image_Bytes.l0, if_pos (by omega), if_pos (by omega), if_pos (by omega), hr, eu]
    by_cases c : Fits x
    · have hc : ¬ ((x.f1.length : Int) > x.f2) := by unfold Fits at c; omega
      have ew : wrap64 ((pre.length : Int) + 1) = (((pre ++ [x]).length : Nat) : Int) := by rw [w64_id _ (by omega) (by omega)]; simp
      have ef : IntKind.u64.wrap ((f : Int) + (x.f1.length : Int)) = ((f + x.f1.length : Nat) : Int) := by rw [u64_id _ (by omega) (by omega)]; omega
      rw [if_neg hc, ← inter_pent f x hx, fields_is _ (by omega) _ (by simp [pent]) (by simp [pent]), Option.bind_some]
      have hl56 : (flds (pent f x.f0.toNat x.f1.length x.f2.toNat)).length = 56 := pen_length f x
      rw [if_pos (by rw [hl56]; omega), ew, ef]
      rw [bytes_l0 L l (pre ++ [x]) (acc ++ flds (pent f x.f0.toNat x.f1.length x.f2.toNat)) (f + x.f1.length) e k hk (by rw [hL]; simp) hn (by rw [List.length_append, hl56]; omega) (by omega) (fun y hy => hg y (List.mem_cons_of_mem _ hy))]
      by_cases c2 : ∀ y ∈ l, Fits y
      · rw [if_pos c2, if_pos (by intro y hy; cases hy with | head => exact c | tail _ h => exact c2 y h)]
        simp [tab, pen]
      · rw [if_neg c2, if_neg (fun h => c2 fun y hy => h y (List.mem_cons_of_mem _ hy))]
    · have hc : (x.f1.length : Int) > x.f2 := by unfold Fits at c; omega
      rw [if_pos hc, if_neg (fun h => c (h x (List.mem_cons_self ..)))]
theorem inter_hdr (E c : Nat) : inter (hdr E c) = [2, 2, 243, 2, 1, 4, (E : Int), 8, 64, 8, 0, 8, 0, 4, 64, 2, 56, 2, (c : Int), 2, 64, 2, 0, 2, 0, 2] := by simp [inter, hdr]
/-- the bytes of a program's file -/
def file (E : Nat) (l : List S29) : List Int := head E l.length ++ tab (64 + 56 * l.length) l ++ dat l
/-- What image.Bytes makes. -/
theorem image_Bytes_is (k : Nat) (hk : 10000 ≤ k) (E : Nat) (l : List S29) (hd : (dat l).length < 100000) (hg : ∀ x ∈ l, Good x) :
    image_Bytes.f k (E : Int) l = some (if l.length ≤ 16 ∧ ∀ x ∈ l, Fits x then (file E l, 0) else ([], 250)) := by
  unfold image_Bytes.f
  by_cases c : l.length ≤ 16
  · have eu : IntKind.u64.wrap ((l.length : Nat) : Int) = (l.length : Int) := u64_nat _ (by omega)
    have eb : word_Bytes.f k 1179403647 4 = some (bys 1179403647 4) := bytes_bys k (by omega) 1179403647 4 (by omega)
    have ef : IntKind.u64.wrap (wrap64 (64 + wrap64 (56 * (l.length : Int)))) = ((64 + 56 * l.length : Nat) : Int) := by
      rw [w64_id (56 * (l.length : Int)) (by omega) (by omega), w64_id _ (by omega) (by omega), u64_id _ (by omega) (by omega)]; omega
    have hh : (flds (hdr E l.length)).length = 48 - 0 := by rw [flds_length]; rfl
    rw [if_neg (by omega), eb, Option.bind_some, Option.bind_some, if_pos (by rw [bys_length]; simp), Option.bind_some, if_pos (by rw [List.length_append, bys_length]; simp), Option.bind_some, eu, ← inter_hdr, fields_is _ (by omega) _ (by simp [hdr]) (by simp [hdr]), Option.bind_some, if_pos (by rw [hh]; simp [bys_length]), ef]
    obtain ⟨j, rfl⟩ : ∃ j, k = l.length + l.length + j + 1 := ⟨k - 2 * l.length - 1, by omega⟩
    have h := bytes_l0 l l [] (head E l.length) (64 + 56 * l.length) (E : Int) j (by omega) rfl (by omega) (by rw [head_length]; omega) (by omega) hg
    rw [head] at h
    refine (show _ = _ from h).trans ?_
    by_cases c2 : ∀ x ∈ l, Fits x
    · rw [if_pos c2, if_pos ⟨c, c2⟩]; rfl
    · rw [if_neg c2, if_neg (fun h => c2 h.2)]
  · rw [if_pos (by omega), if_neg (fun h => c h.1)]
end Go.Proofs.Ytnompdckpenfgaa.Pure
/- A program's file read: image.Parse of what image.Bytes makes. -/
namespace Go.Proofs.Ytnompdckpenfgaa.Pure
open Go.RowKit Go.Proofs.Ytnompdckpenfgaa.PAl Go.Proofs.YtnompdckpenfgaaW.PrintWords Go.Proofs.YtnompdckpenfgaaW.PrintLast Go.Proofs.Ytnompdckpenfgaa.Vw
set_option linter.unusedVariables false
set_option linter.unusedSimpArgs false
theorem within_in (a n m : Nat) (h : a + n ≤ m) (hm : m < 18446744073709551616) : word_Within.f (a : Int) (n : Int) 0 (m : Int) = some true := by
  have := within_word a n 0 m (by omega) (by omega) (by omega) hm
  rw [show ((0 : Nat) : Int) = 0 from rfl] at this
  rw [this]
  congr 1
  rw [decide_eq_true_eq]
  constructor <;> omega
theorem take_drop_mid (A B C : List Int) : ((A ++ (B ++ C)).take (A.length + B.length)).drop A.length = B := by
  rw [List.take_append, List.drop_append]
  simp
/-- get: a word of the file -/
theorem get_at (k : Nat) (hk : 20 ≤ k) (b A C : List Int) (x n at_ : Nat) (hb : b = A ++ (bys x n ++ C)) (hA : A.length = at_) (hn : n ≤ 8) (hx : x < 256 ^ n) (hl : b.length < 1000000) :
    image_get.f k b (at_ : Int) (n : Int) = some (x : Int) := by
  subst hA
  have hlen : b.length = A.length + n + C.length := by rw [hb]; simp [bys_length]; omega
  have eu : IntKind.u64.wrap ((b.length : Nat) : Int) = (b.length : Int) := u64_nat _ (by omega)
  have ea : IntKind.u64.wrap ((A.length : Int) + (n : Int)) = ((A.length + n : Nat) : Int) := by rw [u64_id _ (by omega) (by omega)]; omega
  have c1 : (0 : Int) ≤ A.length := by omega
  have c2 : (A.length : Int) ≤ ((A.length + n : Nat) : Int) := by omega
  have c3 : ((A.length + n : Nat) : Int) ≤ (b.length : Int) := by omega
  have es : (b.take (A.length + n)).drop A.length = bys x n := by
    have h := take_drop_mid A (bys x n) C
    rw [bys_length] at h
    rw [hb]; exact h
  unfold image_get.f
  rw [eu, within_in A.length n b.length (by omega) (by omega), Option.bind_some, if_pos rfl, if_pos c1, ea, if_pos c2, if_pos c3, Int.toNat_natCast, Int.toNat_natCast, es, of_bys k hk x n hn hx, Option.bind_some]
theorem fl_split (f A n z : Nat) (P T : List Int) : P ++ (flds (pent f A n z) ++ T) = P ++ (bys 1 4 ++ (bys 7 4 ++ (bys f 8 ++ (bys A 8 ++ (bys A 8 ++ (bys n 8 ++ (bys z 8 ++ (bys 1 8 ++ T)))))))) := by
  simp only [pent, flds, List.append_assoc, List.nil_append]
/-- part: of the file -/
theorem part_is (k : Nat) (hk : 20 ≤ k) (b P T A C : List Int) (f : Nat) (x : S29) (hx : Good x) (hz : Fits x) (hb : b = P ++ (pen f x ++ T)) (hd : b = A ++ (x.f1 ++ C)) (hf : A.length = f) (hl : b.length < 1000000) :
    image_part.f k b (P.length : Int) = some (x.f0, x.f1, x.f2, 0) := by
  have e0 : ((x.f0.toNat : Nat) : Int) = x.f0 := Int.toNat_of_nonneg hx.1
  have e2 : ((x.f2.toNat : Nat) : Int) = x.f2 := Int.toNat_of_nonneg hx.2.2.1
  have hlA : b.length = A.length + x.f1.length + C.length := by rw [hd]; simp; omega
  have hlP : b.length = P.length + 56 + T.length := by rw [hb]; simp [pen_length]; omega
  have p8 : (256 : Nat) ^ 8 = 18446744073709551616 := by decide
  have hb2 := hb
  rw [pen, fl_split] at hb2
  have g1 : image_get.f k b (IntKind.u64.wrap ((P.length : Int) + 8)) 8 = some (f : Int) := by
    have ea : IntKind.u64.wrap ((P.length : Int) + 8) = ((P.length + 8 : Nat) : Int) := by rw [u64_id _ (by omega) (by omega)]; omega
    rw [ea]
    exact get_at k hk b (P ++ (bys 1 4 ++ bys 7 4)) _ f 8 _ (by rw [hb2]; simp only [List.append_assoc]; rfl) (by simp [bys_length]) (by omega) (by rw [p8]; omega) hl
  have g2 : image_get.f k b (IntKind.u64.wrap ((P.length : Int) + 32)) 8 = some (x.f1.length : Int) := by
    have ea : IntKind.u64.wrap ((P.length : Int) + 32) = ((P.length + 32 : Nat) : Int) := by rw [u64_id _ (by omega) (by omega)]; omega
    rw [ea]
    exact get_at k hk b (P ++ (bys 1 4 ++ (bys 7 4 ++ (bys f 8 ++ (bys x.f0.toNat 8 ++ bys x.f0.toNat 8))))) _ _ 8 _ (by rw [hb2]; simp only [List.append_assoc]; rfl) (by simp [bys_length]) (by omega) (by rw [p8]; omega) hl
  have g3 : image_get.f k b (IntKind.u64.wrap ((P.length : Int) + 24)) 8 = some x.f0 := by
    have ea : IntKind.u64.wrap ((P.length : Int) + 24) = ((P.length + 24 : Nat) : Int) := by rw [u64_id _ (by omega) (by omega)]; omega
    rw [ea, ← e0]
    exact get_at k hk b (P ++ (bys 1 4 ++ (bys 7 4 ++ (bys f 8 ++ bys x.f0.toNat 8)))) _ _ 8 _ (by rw [hb2]; simp only [List.append_assoc]; rfl) (by simp [bys_length]) (by omega) (by have := hx.2.1; rw [p8]; omega) hl
  have g4 : image_get.f k b (IntKind.u64.wrap ((P.length : Int) + 40)) 8 = some x.f2 := by
    have ea : IntKind.u64.wrap ((P.length : Int) + 40) = ((P.length + 40 : Nat) : Int) := by rw [u64_id _ (by omega) (by omega)]; omega
    rw [ea, ← e2]
    exact get_at k hk b (P ++ (bys 1 4 ++ (bys 7 4 ++ (bys f 8 ++ (bys x.f0.toNat 8 ++ (bys x.f0.toNat 8 ++ bys x.f1.length 8)))))) _ _ 8 _ (by rw [hb2]; simp only [List.append_assoc]; rfl) (by simp [bys_length]) (by omega) (by have := hx.2.2.2.1; rw [p8]; omega) hl
  have eu : IntKind.u64.wrap ((b.length : Nat) : Int) = (b.length : Int) := u64_nat _ (by omega)
  have ef : IntKind.u64.wrap ((f : Int) + (x.f1.length : Int)) = ((f + x.f1.length : Nat) : Int) := by rw [u64_id _ (by omega) (by omega)]; omega
  have c0 : ¬ ((x.f1.length : Int) > x.f2) := by unfold Fits at hz; omega
  have c1 : (0 : Int) ≤ (f : Int) := by omega
  have c2 : (f : Int) ≤ ((f + x.f1.length : Nat) : Int) := by omega
  have c3 : ((f + x.f1.length : Nat) : Int) ≤ (b.length : Int) := by omega
  have es : (b.take (f + x.f1.length)).drop f = x.f1 := by
    have h := take_drop_mid A x.f1 C
    rw [hf] at h
    rw [hd]; exact h
  have hln : x.f1.length < 1000000 := by omega
  have c4 : ([] : List Int).length + x.f1.length < 140737488355328 := by
    rw [List.length_nil, Nat.zero_add]; exact Nat.lt_of_lt_of_le hln (by decide)
  unfold image_part.f
  rw [g1, Option.bind_some, g2, Option.bind_some, g3, Option.bind_some, g4, Option.bind_some, eu, within_in f x.f1.length b.length (by omega) (by omega), Option.bind_some, if_pos rfl, if_neg c0, Option.bind_some, if_pos c1, ef, if_pos c2, if_pos c3, Int.toNat_natCast, Int.toNat_natCast, es, if_pos c4, List.nil_append]
theorem dat_append : ∀ l m : List S29, dat (l ++ m) = dat l ++ dat m
  | [], m => rfl
  | x :: l, m => by simp [dat, dat_append l m]
theorem parse_l0 (b : List Int) (hl : b.length < 1000000) (E u : Int) (k : Nat) (hk : 20 ≤ k) (c : Nat) (hc : c ≤ 16) (l : List S29) : ∀ (P Q : List Int) (f i : Nat) (acc : List S29), b = P ++ (tab f l ++ (Q ++ dat l)) → P.length = 64 + 56 * i → P.length + (tab f l).length + Q.length = f → i + l.length = c → acc.length ≤ i → (∀ x ∈ l, Good x) → (∀ x ∈ l, Fits x) →
    image_Parse.l0 (l.length + k + 1) b 64 (c : Int) (i : Int) u E acc = some (E, acc ++ l, 0) := by
  induction l with
  | nil =>
    intro P Q f i acc hb hP hf hi ha hg hz
    simp only [List.length_nil, Nat.add_zero] at hi
    rw [List.length_nil, Nat.zero_add, image_Parse.l0, if_neg (by omega), List.append_nil]
  | cons x l ih =>
    intro P Q f i acc hb hP hf hi ha hg hz
    have hi2 : i + l.length + 1 = c := hi
    clear hi
    have e : (x :: l).length + k + 1 = (l.length + k + 1) + 1 := by rw [List.length_cons]; omega
    have ea : IntKind.u64.wrap (64 + IntKind.u64.wrap ((i : Int) * 56)) = (P.length : Int) := by
      rw [u64_id ((i : Int) * 56) (by omega) (by omega), u64_id _ (by omega) (by omega)]; omega
    have ei : IntKind.u64.wrap ((i : Int) + 1) = ((i + 1 : Nat) : Int) := by rw [u64_id _ (by omega) (by omega)]; omega
    have hb1 : b = P ++ (pen f x ++ (tab (f + x.f1.length) l ++ (Q ++ dat (x :: l)))) := by rw [hb, tab]; simp only [List.append_assoc]
    have hb2 : b = (P ++ (tab f (x :: l) ++ Q)) ++ (x.f1 ++ dat l) := by rw [hb, dat]; simp only [List.append_assoc]
    have hlf : (P ++ (tab f (x :: l) ++ Q)).length = f := by rw [List.length_append, List.length_append]; omega
    have hx := hg x (List.mem_cons_self ..)
    have g0 : image_get.f (l.length + k + 1) b (P.length : Int) 4 = some 1 := by
      have hb3 := hb1
      rw [pen, fl_split] at hb3
      exact get_at _ (by omega) b P _ 1 4 _ hb3 rfl (by omega) (by decide) hl
    have g1 : image_part.f (l.length + k + 1) b (P.length : Int) = some (x.f0, x.f1, x.f2, 0) :=
      part_is _ (by omega) b P _ _ _ f x hx (hz x (List.mem_cons_self ..)) hb1 hb2 hlf hl
    have hal : acc.length < 3518437208883 := Nat.lt_of_le_of_lt (show acc.length ≤ 16 by omega) (by decide)
    have h := ih (P ++ pen f x) (Q ++ x.f1) (f + x.f1.length) (i + 1) (acc ++ [x]) (by rw [hb1, dat]; simp only [List.append_assoc]) (by rw [List.length_append, pen_length]; omega)
      (by rw [tab, List.length_append, pen_length] at hf; rw [List.length_append, List.length_append, pen_length]; omega) (by omega) (by rw [List.length_append]; simp; omega) (fun y hy => hg y (List.mem_cons_of_mem _ hy)) (fun y hy => hz y (List.mem_cons_of_mem _ hy))
    rw [e, image_Parse.l0, if_pos (by omega), ea, g0, Option.bind_some, if_pos rfl, g1, Option.bind_some, if_pos rfl, if_pos hal, ei]
    refine h.trans ?_
    rw [List.append_assoc]
    rfl
theorem file_split (E : Nat) (l : List S29) : file E l = bys 1179403647 4 ++ ([2, 1, 1] ++ (List.replicate 9 0 ++ (bys 2 2 ++ (bys 243 2 ++ (bys 1 4 ++ (bys E 8 ++ (bys 64 8 ++ (bys 0 8 ++ (bys 0 4 ++ (bys 64 2 ++ (bys 56 2 ++ (bys l.length 2 ++ (bys 64 2 ++ (bys 0 2 ++ (bys 0 2 ++ (tab (64 + 56 * l.length) l ++ dat l)))))))))))))))) := by
  simp only [file, head, hdr, flds, List.append_assoc, List.nil_append]
theorem file_length (E : Nat) (l : List S29) : (file E l).length = 64 + 56 * l.length + (dat l).length := by
  rw [file, List.length_append, List.length_append, head_length, tab_length]
/-- Reading a program's file gives the program. -/
theorem image_Parse_is (k : Nat) (hk : 100 ≤ k) (E : Nat) (hE : E < 18446744073709551616) (l : List S29) (hn : l.length ≤ 16) (hd : (dat l).length < 100000) (hg : ∀ x ∈ l, Good x) (hz : ∀ x ∈ l, Fits x) :
    image_Parse.f k (file E l) = some ((E : Int), l, 0) := by
  obtain ⟨b, hb⟩ : ∃ b, b = file E l := ⟨_, rfl⟩
  have hlen : b.length = 64 + 56 * l.length + (dat l).length := by rw [hb, file_length]
  have hl : b.length < 1000000 := by omega
  have hs := hb
  rw [file_split] at hs
  rw [← hb]
  have p8 : (256 : Nat) ^ 8 = 18446744073709551616 := by decide
  have p2 : (256 : Nat) ^ 2 = 65536 := by decide
  have g0 : ∀ k, 20 ≤ k → image_get.f k b 0 4 = some 1179403647 := fun k hk => get_at k hk b [] _ 1179403647 4 0 hs rfl (by omega) (by decide) hl
  have r4 : rd b 4 = 2 := by
    rw [hs]
    exact rd_mid (bys 1179403647 4) 2 _ 4 (by simp [bys_length])
  have r5 : rd b 5 = 1 := by
    rw [hs, show ∀ R : List Int, bys 1179403647 4 ++ ([2, 1, 1] ++ R) = (bys 1179403647 4 ++ [2]) ++ (1 :: (1 :: R)) from fun R => by simp]
    exact rd_mid _ 1 _ 5 (by simp [bys_length])
  have r6 : rd b 6 = 1 := by
    rw [hs, show ∀ R : List Int, bys 1179403647 4 ++ ([2, 1, 1] ++ R) = (bys 1179403647 4 ++ [2, 1]) ++ (1 :: R) from fun R => by simp]
    exact rd_mid _ 1 _ 6 (by simp [bys_length])
  have g16 : ∀ k, 20 ≤ k → image_get.f k b 16 2 = some 2 := fun k hk => get_at k hk b (bys 1179403647 4 ++ ([2, 1, 1] ++ List.replicate 9 0)) _ 2 2 16 (by rw [hs]; simp only [List.append_assoc]; rfl) (by simp [bys_length]) (by omega) (by decide) hl
  have g18 : ∀ k, 20 ≤ k → image_get.f k b 18 2 = some 243 := fun k hk => get_at k hk b (bys 1179403647 4 ++ ([2, 1, 1] ++ (List.replicate 9 0 ++ bys 2 2))) _ 243 2 18 (by rw [hs]; simp only [List.append_assoc]; rfl) (by simp [bys_length]) (by omega) (by decide) hl
  have g20 : ∀ k, 20 ≤ k → image_get.f k b 20 4 = some 1 := fun k hk => get_at k hk b (bys 1179403647 4 ++ ([2, 1, 1] ++ (List.replicate 9 0 ++ (bys 2 2 ++ bys 243 2)))) _ 1 4 20 (by rw [hs]; simp only [List.append_assoc]; rfl) (by simp [bys_length]) (by omega) (by decide) hl
  have g24 : ∀ k, 20 ≤ k → image_get.f k b 24 8 = some (E : Int) := fun k hk => get_at k hk b (bys 1179403647 4 ++ ([2, 1, 1] ++ (List.replicate 9 0 ++ (bys 2 2 ++ (bys 243 2 ++ bys 1 4))))) _ E 8 24 (by rw [hs]; simp only [List.append_assoc]; rfl) (by simp [bys_length]) (by omega) (by rw [p8]; exact hE) hl
  have g32 : ∀ k, 20 ≤ k → image_get.f k b 32 8 = some 64 := fun k hk => get_at k hk b (bys 1179403647 4 ++ ([2, 1, 1] ++ (List.replicate 9 0 ++ (bys 2 2 ++ (bys 243 2 ++ (bys 1 4 ++ bys E 8)))))) _ 64 8 32 (by rw [hs]; simp only [List.append_assoc]; rfl) (by simp [bys_length]) (by omega) (by decide) hl
  have g54 : ∀ k, 20 ≤ k → image_get.f k b 54 2 = some 56 := fun k hk => get_at k hk b (bys 1179403647 4 ++ ([2, 1, 1] ++ (List.replicate 9 0 ++ (bys 2 2 ++ (bys 243 2 ++ (bys 1 4 ++ (bys E 8 ++ (bys 64 8 ++ (bys 0 8 ++ (bys 0 4 ++ bys 64 2)))))))))) _ 56 2 54 (by rw [hs]; simp only [List.append_assoc]; rfl) (by simp [bys_length]) (by omega) (by decide) hl
  have g56 : ∀ k, 20 ≤ k → image_get.f k b 56 2 = some (l.length : Int) := fun k hk => get_at k hk b (bys 1179403647 4 ++ ([2, 1, 1] ++ (List.replicate 9 0 ++ (bys 2 2 ++ (bys 243 2 ++ (bys 1 4 ++ (bys E 8 ++ (bys 64 8 ++ (bys 0 8 ++ (bys 0 4 ++ (bys 64 2 ++ bys 56 2))))))))))) _ l.length 2 56 (by rw [hs]; simp only [List.append_assoc]; rfl) (by simp [bys_length]) (by omega) (by rw [p2]; omega) hl
  have eu : IntKind.u64.wrap ((b.length : Nat) : Int) = (b.length : Int) := u64_nat _ (by omega)
  have et : IntKind.u64.wrap ((l.length : Int) * 56) = ((l.length * 56 : Nat) : Int) := by rw [u64_id _ (by omega) (by omega)]; omega
  have hw : word_Within.f 64 ((l.length * 56 : Nat) : Int) 0 (b.length : Int) = some true := within_in 64 (l.length * 56) b.length (by omega) (by omega)
  have hp := parse_l0 b hl (E : Int) 0 (k - l.length - 4) (by omega) l.length hn l (head E l.length) [] (64 + 56 * l.length) 0 [] (by rw [hb, file]; simp only [List.append_assoc, List.nil_append]) (by rw [head_length]) (by rw [head_length, tab_length]; rfl) (by omega) (by simp) hg hz
  obtain ⟨j, hj⟩ : ∃ j, j = l.length + (k - l.length - 4) + 1 := ⟨_, rfl⟩
  rw [← hj] at hp
  obtain rfl : k = j + 1 + 1 + 1 := by omega
  have n3 : 20 ≤ j + 1 + 1 + 1 := by omega
  have n2 : 20 ≤ j + 1 + 1 := by omega
  have n1 : 20 ≤ j + 1 := by omega
  have c64 : ¬ ((b.length : Int) < 64) := by omega
  have c4 : (4 : Int) < (b.length : Int) := by omega
  have c5 : (5 : Int) < (b.length : Int) := by omega
  have c6 : (6 : Int) < (b.length : Int) := by omega
  have c16 : ¬ ((l.length : Int) > 16) := by omega
  unfold image_Parse.f
  rw [if_neg c64, g0 _ n3, Option.bind_some, if_pos rfl, if_pos c4, r4, if_pos rfl, if_pos c5, r5, if_pos rfl, if_pos c6, r6]
  rw [image_Parse.j0, if_neg (by decide), g16 _ n2, Option.bind_some, if_pos rfl, g18 _ n2, Option.bind_some, if_pos rfl, g20 _ n2, Option.bind_some, if_pos rfl, g54 _ n2, Option.bind_some]
  rw [image_Parse.j1, if_neg (by decide), g24 _ n1, Option.bind_some, g32 _ n1, Option.bind_some, g56 _ n1, Option.bind_some, if_neg c16, et, eu, hw, Option.bind_some]
  rw [image_Parse.j2, if_neg (by decide)]
  exact hp
end Go.Proofs.Ytnompdckpenfgaa.Pure
/- A program laid: image.Lay comes to an end, with bytes that lie in memory, or none. -/
namespace Go.Proofs.Ytnompdckpenfgaa.Pure
open Go.RowKit Go.Proofs.Ytnompdckpenfgaa.PAl Go.Proofs.YtnompdckpenfgaaW.PrintWords Go.Proofs.YtnompdckpenfgaaW.PrintLast Go.Proofs.Ytnompdckpenfgaa.Vw
set_option linter.unusedVariables false
set_option linter.unusedSimpArgs false
theorem octets_iff (l : List Int) : octets l ↔ ∀ x ∈ l, 0 ≤ x ∧ x < 256 := by
  constructor
  · intro h x hx
    obtain ⟨i, hi, rfl⟩ := List.getElem_of_mem hx
    have := h i
    unfold rd at this
    rw [Int.toNat_natCast, List.getD_eq_getElem?_getD, List.getElem?_eq_getElem hi] at this
    exact this
  · intro h i
    unfold rd
    rw [Int.toNat_natCast, List.getD_eq_getElem?_getD]
    cases e : l[i]? with
    | none => simp
    | some x => exact h x (List.mem_of_getElem? e)
theorem octets_set (l : List Int) (i : Nat) (v : Int) (h : octets l) (hv : 0 ≤ v ∧ v < 256) : octets (l.set i v) := by
  rw [octets_iff] at h ⊢
  intro x hx
  rcases List.mem_or_eq_of_mem_set hx with hm | rfl
  · exact h x hm
  · exact hv
theorem octets_app (l m : List Int) (h : octets l) (hm : octets m) : octets (l ++ m) := by
  rw [octets_iff] at h hm ⊢
  intro x hx
  rcases List.mem_append.1 hx with a | a
  · exact h x a
  · exact hm x a
theorem octets_zero (n : Nat) : octets (List.replicate n 0) := by
  rw [octets_iff]
  intro x hx
  rw [List.eq_of_mem_replicate hx]
  omega
theorem lay_l2 (s n : Int) (l : List S29) (i a : Int) (fr z : Nat) (dt : List Int) (hd : octets dt) (hdl : dt.length ≤ z) (hz : z < 100000) (hfr : fr < 100000) (k : Nat) (d : Nat) : ∀ (j : Nat) (y : List Int), j + d = z → octets y → fr + z ≤ y.length →
    ∃ y', octets y' ∧ y'.length = y.length ∧ image_Lay.l2 (d + k + 1) s y (fr : Int) (j : Int) l n i a dt (z : Int) = image_Lay.l0 k s y' l n (wrap64 (i + 1)) := by
  induction d with
  | zero =>
    intro j y hj hy hl
    refine ⟨y, hy, rfl, ?_⟩
    rw [Nat.zero_add, image_Lay.l2, if_neg (by omega)]
  | succ d ih =>
    intro j y hj hy hl
    have e : d + 1 + k + 1 = (d + k + 1) + 1 := by omega
    have ef : IntKind.u64.wrap ((fr : Int) + (j : Int)) = ((fr + j : Nat) : Int) := by rw [u64_id _ (by omega) (by omega)]; omega
    have ej : IntKind.u64.wrap ((j : Int) + 1) = ((j + 1 : Nat) : Int) := by rw [u64_id _ (by omega) (by omega)]; omega
    have eu : IntKind.u64.wrap ((dt.length : Nat) : Int) = (dt.length : Int) := u64_nat _ (by omega)
    have hy0 := octets_set y (fr + j) 0 hy (by omega)
    rw [e, image_Lay.l2, if_pos (by omega), ef, if_pos (by omega), if_pos (by omega), Option.bind_some, Int.toNat_natCast, eu, ej]
    by_cases c : (j : Int) < (dt.length : Int)
    · obtain ⟨y', h1, h2, h3⟩ := ih (j + 1) ((y.set (fr + j) 0).set (fr + j) (rd dt (j : Int))) (by omega) (octets_set _ _ _ hy0 (hd j)) (by simp; omega)
      refine ⟨y', h1, by rw [h2]; simp, ?_⟩
      rw [if_pos c, if_pos (by omega), if_pos c, h3]
    · obtain ⟨y', h1, h2, h3⟩ := ih (j + 1) (y.set (fr + j) 0) (by omega) hy0 (by simp; omega)
      refine ⟨y', h1, by rw [h2]; simp, ?_⟩
      rw [if_neg c, h3]
theorem lay_l1 (s n : Int) (l : List S29) (i a : Int) (fr z : Nat) (dt : List Int) (hz : fr + z ≤ 20000) (k : Nat) (d : Nat) : ∀ (y : List Int), y.length ≤ 20000 → d = fr + z - y.length →
    image_Lay.l1 (d + k + 1) s y (fr : Int) l n i a dt (z : Int) = image_Lay.l2 k s (y ++ List.replicate d 0) (fr : Int) 0 l n i a dt (z : Int) := by
  induction d with
  | zero =>
    intro y hl hd
    have ef : IntKind.u64.wrap ((fr : Int) + (z : Int)) = ((fr + z : Nat) : Int) := by rw [u64_id _ (by omega) (by omega)]; omega
    have eu : IntKind.u64.wrap ((y.length : Nat) : Int) = (y.length : Int) := u64_nat _ (by omega)
    rw [Nat.zero_add, image_Lay.l1, eu, ef, if_neg (by omega), List.replicate_zero, List.append_nil]
  | succ d ih =>
    intro y hl hd
    have e : d + 1 + k + 1 = (d + k + 1) + 1 := by omega
    have ef : IntKind.u64.wrap ((fr : Int) + (z : Int)) = ((fr + z : Nat) : Int) := by rw [u64_id _ (by omega) (by omega)]; omega
    have eu : IntKind.u64.wrap ((y.length : Nat) : Int) = (y.length : Int) := u64_nat _ (by omega)
    have hc : y.length < 140737488355328 := Nat.lt_of_le_of_lt hl (by decide)
    have hl2 : (y ++ [(0 : Int)]).length = y.length + 1 := by simp
    rw [e, image_Lay.l1, eu, ef, if_pos (by omega), if_pos hc, ih (y ++ [0]) (by omega) (by omega), List.append_assoc]
    rfl
/-- what laying ends with -/
def LayEnds (s : Nat) (r : List Int × Int) : Prop := (r.2 = 0 ∧ octets r.1 ∧ r.1.length ≤ s) ∨ r = ([], 21)
theorem fuel_left (M k d z k2 : Nat) (h : M + 50000 + 1 ≤ k + 1 + 1) (hk : k = d + (z + k2 + 1) + 1) (hd : d ≤ 20000) (hz : z ≤ 20000) : M + 1 ≤ k2 := by omega
theorem lay_l0 (s : Nat) (hs : s ≤ 20000) (L : List S29) (hL : L.length ≤ 100) (l : List S29) : ∀ (pre : List S29) (y : List Int) (F : Nat), L = pre ++ l → (∀ x ∈ l, Good x ∧ x.f1.length < 1000000) → octets y → y.length ≤ s → l.length * 50000 + 1 ≤ F →
    ∃ r, image_Lay.l0 F (s : Int) y L (L.length : Int) (pre.length : Int) = some r ∧ LayEnds s r := by
  induction l with
  | nil =>
    intro pre y F hp hg hy hl hF
    have e : L.length = pre.length := by rw [hp]; simp
    obtain ⟨k, rfl⟩ : ∃ k, F = k + 1 := ⟨F - 1, by omega⟩
    refine ⟨(y, 0), ?_, .inl ⟨rfl, hy, hl⟩⟩
    rw [image_Lay.l0, if_neg (by omega)]
  | cons x l ih =>
    intro pre y F hp hg hy hl hF0
    have hF : l.length * 50000 + 50000 + 1 ≤ F := by rw [List.length_cons] at hF0; omega
    clear hF0
    have e : L.length = pre.length + l.length + 1 := by rw [hp]; simp; omega
    obtain ⟨k, rfl⟩ : ∃ k, F = k + 1 + 1 := ⟨F - 2, by omega⟩
    have hr : rd_T29 L (pre.length : Int) = x := by rw [hp]; exact rd29_mid pre x l _ rfl
    obtain ⟨hx, hxl⟩ := hg x (List.mem_cons_self ..)
    obtain ⟨g0, g0', g2, g2', gd⟩ := hx
    have eu : IntKind.u64.wrap ((x.f1.length : Nat) : Int) = (x.f1.length : Int) := u64_nat _ (by omega)
    obtain ⟨A, hA⟩ : ∃ A : Nat, x.f0 = (A : Int) := ⟨x.f0.toNat, by omega⟩
    obtain ⟨z, hz⟩ : ∃ z : Nat, x.f2 = (z : Int) := ⟨x.f2.toNat, by omega⟩
    have hw := within_word A z 2147483648 s (by omega) (by omega) (by omega) (by omega)
    rw [show ((2147483648 : Nat) : Int) = 2147483648 from rfl] at hw
    rw [image_Lay.l0, if_pos (by omega), if_pos (by omega), if_pos (by omega), hr, hA, hz, hw, Option.bind_some, eu]
    by_cases c : 2147483648 ≤ A ∧ A + z ≤ 2147483648 + s
    · rw [if_pos (decide_eq_true c)]
      by_cases c2 : ((x.f1.length : Int) > (z : Int))
      · refine ⟨([], 21), ?_, .inr rfl⟩
        rw [decide_eq_true c2, image_Lay.j1, if_pos rfl]
      · have ef : IntKind.u64.wrap ((A : Int) - 2147483648) = ((A - 2147483648 : Nat) : Int) := by rw [u64_id _ (by omega) (by omega)]; omega
        rw [decide_eq_false c2, image_Lay.j1, if_neg (by decide), ef]
        obtain ⟨fr, hfr⟩ : ∃ fr, fr = A - 2147483648 := ⟨_, rfl⟩
        obtain ⟨d, hd⟩ : ∃ d, d = fr + z - y.length := ⟨_, rfl⟩
        obtain ⟨k2, hk2⟩ : ∃ k2, k = d + (z + k2 + 1) + 1 := ⟨k - d - z - 2, by omega⟩
        rw [← hfr, hk2, lay_l1 _ _ _ _ _ fr z _ (by omega) _ d y (by omega) hd]
        obtain ⟨y', h1, h2, h3⟩ := lay_l2 (s : Int) (L.length : Int) L (pre.length : Int) (A : Int) fr z x.f1 gd (by omega) (by omega) (by omega) k2 z 0 (y ++ List.replicate d 0) (by omega) (octets_app _ _ hy (octets_zero d)) (by rw [List.length_append, List.length_replicate]; omega)
        have h2' : y'.length = y.length + d := by rw [h2, List.length_append, List.length_replicate]
        have ew : wrap64 ((pre.length : Int) + 1) = (((pre ++ [x]).length : Nat) : Int) := by rw [w64_id _ (by omega) (by omega)]; simp
        have hfz : fr + z ≤ s := by omega
        have hyd : y.length + d ≤ s := by clear h3 h2 h1 h2' hk2 hF hfr c; omega
        have hkk : l.length * 50000 + 1 ≤ k2 := by
          have : d ≤ 20000 := by clear h3 h2 h1 h2' hk2 hF hfr c; omega
          have : z ≤ 20000 := by clear h3 h2 h1 h2' hk2 hF hfr c; omega
          exact fuel_left _ k d z k2 hF hk2 (by assumption) (by assumption)
        obtain ⟨r, hr1, hr2⟩ := ih (pre ++ [x]) y' k2 (by rw [hp]; simp) (fun q hq => hg q (List.mem_cons_of_mem _ hq)) h1 (by rw [h2']; exact hyd) hkk
        refine ⟨r, ?_, hr2⟩
        rw [← hr1, ← ew]
        exact h3
    · rw [decide_eq_false c, if_neg (by decide)]
      refine ⟨([], 21), ?_, .inr rfl⟩
      rw [image_Lay.j1, if_pos rfl]
/-- Laying comes to an end. -/
theorem image_Lay_ends (k : Nat) (hk : 6000000 ≤ k) (a0 : Int) (s : Nat) (hs : s ≤ 20000) (L : List S29) (hL : L.length ≤ 100) (hg : ∀ x ∈ L, Good x ∧ x.f1.length < 1000000) :
    ∃ r, image_Lay.f k a0 L (s : Int) = some r ∧ LayEnds s r := by
  unfold image_Lay.f
  rw [if_neg (by omega)]
  exact lay_l0 s hs L hL L [] [] k rfl hg (fun i => by simp [rd]) (by simp) (by omega)
theorem same_l0 (x : List Int) (hx : x.length < 1000000) (d : Nat) : ∀ (i k : Nat), i + d = x.length → vireoref02_Bytes.l0 (d + k + 1) x x (i : Int) = some true := by
  induction d with
  | zero =>
    intro i k h
    rw [Nat.zero_add, vireoref02_Bytes.l0, if_neg (by omega)]
  | succ d ih =>
    intro i k h
    have e : d + 1 + k + 1 = (d + k + 1) + 1 := by omega
    have ew : wrap64 ((i : Int) + 1) = ((i + 1 : Nat) : Int) := by rw [w64_id _ (by omega) (by omega)]; omega
    rw [e, vireoref02_Bytes.l0, if_pos (by omega), if_pos (by omega), if_pos (by omega), if_pos rfl, ew, ih (i + 1) k (by omega)]
/-- A row is the same as itself. -/
theorem same_is (k : Nat) (x : List Int) (hx : x.length < 1000000) (hk : x.length + 1 ≤ k) : vireoref02_Bytes.f k x x = some true := by
  unfold vireoref02_Bytes.f
  rw [if_pos rfl]
  obtain ⟨j, rfl⟩ : ∃ j, k = x.length + j + 1 := ⟨k - x.length - 1, by omega⟩
  exact same_l0 x hx x.length 0 j (by omega)
end Go.Proofs.Ytnompdckpenfgaa.Pure
