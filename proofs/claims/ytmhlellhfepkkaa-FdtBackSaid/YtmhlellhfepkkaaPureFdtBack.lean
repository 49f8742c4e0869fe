/- The law FdtBack, plain: for every list the law returns true; no condition. -/
import Derived.Test.YtmhlellhfepkkaaLa
import Derived.Test.YtmhlellhfepkkaaHtree
import Derived.Test.YtmhlellhfepkkaaPAlx3
import Derived.Test.YtmhlellhfepkkaaPAlx4
import Derived.Test.YtmhlellhfepkkaaPAlx8
import Derived.Test.YtmhlellhfepkkaaHpc
import Derived.Test.YtmhlellhfepkkaaLq
import Derived.Test.YtmhlellhfepkkaaOpBk
/- Plain: words, texts, bytes that are alike. -/
namespace Go.Proofs.Ytmhlellhfepkkaa.B
open Go.RowKit Go.Proofs.YtmhlellhfepkkaaW.PrintWords Go.Proofs.YtmhlellhfepkkaaW.PrintLast Go.Proofs.YtmhlellhfepkkaaW.PrintMore Go.Proofs.Ytmhlellhfepkkaa.PAl
set_option linter.unusedVariables false
set_option linter.unusedSimpArgs false
theorem w64 {x : Int} (h0 : -9223372036854775808 ≤ x) (h1 : x < 9223372036854775808) : wrap64 x = x := by unfold wrap64; omega
theorem rd_mid (pre suf : List Int) (x : Int) : rd (pre ++ x :: suf) (pre.length : Int) = x := by
  unfold rd; rw [Int.toNat_natCast]; simp [List.getD, List.getElem?_append_right]
theorem rdOf_mid {α : Type} (d : α) (pre suf : List α) (x : α) : rdOf d (pre ++ x :: suf) (pre.length : Int) = x := by
  unfold rdOf; rw [Int.toNat_natCast]; simp [List.getD, List.getElem?_append_right]
theorem w32_len (x : Int) : (w32 x).length = 4 := rfl
theorem word32_is (x : Int) : fdt_Word32.f x = some (w32 x) := rfl
/-- A word as the page writes it. -/
theorem wordR_is (x : Int) (h0 : 0 ≤ x) (h1 : x < 4611686018427387904) : vireoref26_Word.f x = some (w32 x) := by
  unfold vireoref26_Word.f w32
  have e1 : wrap64 (Int.tdiv x 16777216) = x / 16777216 := by rw [Int.tdiv_eq_ediv_of_nonneg h0]; exact w64 (by omega) (by omega)
  have e2 : wrap64 (Int.tdiv x 65536) = x / 65536 := by rw [Int.tdiv_eq_ediv_of_nonneg h0]; exact w64 (by omega) (by omega)
  have e3 : wrap64 (Int.tdiv x 256) = x / 256 := by rw [Int.tdiv_eq_ediv_of_nonneg h0]; exact w64 (by omega) (by omega)
  rw [e1, e2, e3, Int.tmod_eq_emod_of_nonneg (by omega), Int.tmod_eq_emod_of_nonneg (by omega), Int.tmod_eq_emod_of_nonneg (by omega), Int.tmod_eq_emod_of_nonneg h0]
  simp only [Int.emod_emod_of_dvd, Int.emod_emod]
theorem bytes_loop : ∀ (s1 s2 p1 p2 : List Int), p1.length = p2.length → s1.length = s2.length → p1.length + s1.length < 140737488355328 → Ev (fun k => vireoref02_Bytes.l0 k (p1 ++ s1) (p2 ++ s2) (p1.length : Int)) (decide (s1 = s2))
  | [], [], p1, p2, h1, h2, h3 => Ev.step (f := fun _ => some true) (fun k => by simp only [vireoref02_Bytes.l0]; rw [if_neg (by simp)]) (Ev.now _)
  | x :: s1, y :: s2, p1, p2, h1, h2, h3 => by
    have hc1 : (p1.length : Int) < ((p1 ++ x :: s1).length : Int) := by simp; omega
    have hc2 : (p1.length : Int) < ((p2 ++ y :: s2).length : Int) := by simp; omega
    have hx : rd (p1 ++ x :: s1) (p1.length : Int) = x := rd_mid _ _ _
    have hy : rd (p2 ++ y :: s2) (p1.length : Int) = y := by rw [h1]; exact rd_mid _ _ _
    by_cases e : x = y
    · subst e
      have ih := bytes_loop s1 s2 (p1 ++ [x]) (p2 ++ [x]) (by simp [h1]) (by simpa using h2) (by simp at h3 ⊢; omega)
      have ed : decide (x :: s1 = x :: s2) = decide (s1 = s2) := by simp
      rw [ed]
      refine Ev.step (f := fun k => vireoref02_Bytes.l0 k (p1 ++ [x] ++ s1) (p2 ++ [x] ++ s2) ((p1 ++ [x]).length : Int)) (fun k => ?_) ih
      simp only [vireoref02_Bytes.l0]
      rw [if_pos hc1, if_pos (by omega), if_pos hc2, hx, hy, if_pos rfl, w64 (by omega) (by simp at h3; omega)]
      simp
    · have ed : decide (x :: s1 = y :: s2) = false := by simp [e]
      rw [ed]
      refine Ev.step (f := fun _ => some false) (fun k => ?_) (Ev.now _)
      simp only [vireoref02_Bytes.l0]
      rw [if_pos hc1, if_pos (by omega), if_pos hc2, hx, hy, if_neg e]
/-- Two rows of bytes. -/
theorem bytes_is (a b : List Int) (h : a.length < 140737488355328) : Ev (fun k => vireoref02_Bytes.f k a b) (decide (a = b)) := by
  unfold vireoref02_Bytes.f
  by_cases e : a.length = b.length
  · have := bytes_loop a b [] [] rfl e (by simpa using h)
    refine Ev.congr (f := fun k => vireoref02_Bytes.l0 k a b 0) (fun k => ?_) this
    rw [if_pos (by omega)]
  · have ed : decide (a = b) = false := by simp; rintro rfl; exact e rfl
    rw [ed]
    refine Ev.congr (f := fun _ => some false) (fun k => ?_) (Ev.now _)
    rw [if_neg (by omega)]
theorem cells_loop (l : List Int) (hl : l.length < 35184372088832) : ∀ (suf pre acc : List Int), l = pre ++ suf → acc.length = 4 * pre.length → Ev (fun k => fdt_Cells.l0 k acc l (l.length : Int) (pre.length : Int)) (acc ++ suf.flatMap w32)
  | [], pre, acc, h, ha => by
    subst h
    refine Ev.step (f := fun _ => some (acc ++ List.flatMap w32 [])) (fun k => ?_) (Ev.now _)
    simp only [fdt_Cells.l0]
    rw [if_neg (by simp)]
    simp
  | x :: suf, pre, acc, h, ha => by
    have ih := cells_loop l hl suf (pre ++ [x]) (acc ++ w32 x) (by simp [h]) (by simp [ha, w32_len]; omega)
    have hlen : l.length = pre.length + (suf.length + 1) := by rw [h]; simp
    refine Ev.step (f := fun k => fdt_Cells.l0 k (acc ++ w32 x) l (l.length : Int) ((pre ++ [x]).length : Int)) (fun k => ?_) (by simpa [List.append_assoc] using ih)
    simp only [fdt_Cells.l0]
    have hr : rd l (pre.length : Int) = x := by rw [h]; exact rd_mid _ _ _
    rw [if_pos (by omega), if_pos (by omega), if_pos (by omega), hr, word32_is, Option.bind_some, if_pos (by rw [w32_len]; omega), w64 (by omega) (by omega)]
    simp
theorem cells_is (l : List Int) (hl : l.length < 35184372088832) : Ev (fun k => fdt_Cells.f k l) (l.flatMap w32) := cells_loop l hl l [] [] rfl rfl
theorem texts_loop (l : List ByteArray) (hl : (textsOf l).length < 140737488355328) : ∀ (suf pre : List ByteArray) (acc : List Int), l = pre ++ suf → acc = textsOf pre → Ev (fun k => fdt_Texts.l0 k acc l (l.length : Int) (pre.length : Int)) (textsOf l)
  | [], pre, acc, h, ha => by
    have h' : l = pre := by simpa using h
    subst h' ha
    refine Ev.step (f := fun _ => some (textsOf l)) (fun k => ?_) (Ev.now _)
    simp only [fdt_Texts.l0]
    rw [if_neg (by omega)]
  | x :: suf, pre, acc, h, ha => by
    have ih := texts_loop l hl suf (pre ++ [x]) (acc ++ (bytesOf x ++ [0])) (by simp [h]) (by rw [textsOf_snoc, ha])
    have hlen : l.length = pre.length + (suf.length + 1) := by rw [h]; simp
    have hll := textsOf_len l
    have hta : (textsOf l).length = acc.length + (x.size + 1 + (textsOf suf).length) := by
      have key : ∀ (a b : List ByteArray), textsOf (a ++ b) = textsOf a ++ textsOf b := by
        intro a b; induction a with
        | nil => rfl
        | cons c a ih => simp [textsOf, ih]
      rw [h, key, ha]; simp [textsOf, bytesOf_length]; omega
    refine Ev.step (f := fun k => fdt_Texts.l0 k (acc ++ (bytesOf x ++ [0])) l (l.length : Int) ((pre ++ [x]).length : Int)) (fun k => ?_) ih
    simp only [fdt_Texts.l0]
    have hr : rdOf ByteArray.empty l (pre.length : Int) = x := by rw [h]; exact rdOf_mid _ _ _ _
    have hbl : (bytesOf x).length = x.size := bytesOf_length x
    rw [if_pos (by omega), if_pos (by omega), if_pos (by omega), hr, if_pos (by omega), Option.bind_some, if_pos (by rw [List.length_append]; omega), w64 (by omega) (by omega)]
    simp
theorem texts_is (l : List ByteArray) (hl : (textsOf l).length < 140737488355328) : Ev (fun k => fdt_Texts.f k l) (textsOf l) := texts_loop l hl l [] [] rfl rfl
theorem awake_is : Ev (fun k => vireolaw26_awake.f k) true := Ev.of vireolaw26_awake.mono (k := 20) (by kernel_rfl)
end Go.Proofs.Ytmhlellhfepkkaa.B
/- Plain: a list of parts, and the tree that it is. -/
namespace Go.Proofs.Ytmhlellhfepkkaa.B
open Go.RowKit Go.Proofs.YtmhlellhfepkkaaW.PrintWords Go.Proofs.YtmhlellhfepkkaaW.PrintLast Go.Proofs.YtmhlellhfepkkaaW.PrintMore Go.Proofs.Ytmhlellhfepkkaa.PAl
set_option linter.unusedVariables false
set_option linter.unusedSimpArgs false
/-- Part i. -/
def pt (l : List S50) (i : Nat) : S50 := rd_T50 l (i : Int)
theorem pt_get {l : List S50} {i : Nat} (h : i < l.length) : pt l i = l[i] := by simp [pt, rd_T50, List.getD, h]
def kidsOf (l : List S50) (i : Nat) (from_ : Nat) : List Nat := (List.range' from_ (l.length - from_)).filter fun j => decide ((pt l j).f0 = (i : Int))
theorem kidsOf_end (l : List S50) (i : Nat) {f : Nat} (h : l.length ≤ f) : kidsOf l i f = [] := by unfold kidsOf; rw [Nat.sub_eq_zero_of_le h]; rfl
theorem kidsOf_step (l : List S50) (i : Nat) {f : Nat} (h : f < l.length) : kidsOf l i f = if (pt l f).f0 = (i : Int) then f :: kidsOf l i (f + 1) else kidsOf l i (f + 1) := by
  unfold kidsOf
  obtain ⟨d, hd⟩ : ∃ d, l.length - f = d + 1 := ⟨l.length - f - 1, by omega⟩
  rw [hd, List.range'_succ, List.filter_cons, show l.length - (f + 1) = d by omega]
  simp only [decide_eq_true_eq]
theorem kidsOf_mem {l : List S50} {i f j : Nat} (h : j ∈ kidsOf l i f) : f ≤ j ∧ j < l.length ∧ (pt l j).f0 = (i : Int) := by
  unfold kidsOf at h
  rw [List.mem_filter, List.mem_range'_1] at h
  have := h.2
  simp only [decide_eq_true_eq] at this
  exact ⟨h.1.1, by omega, this⟩
def propsOf (p : S50) : List S74 := p.f2.map fun q => ⟨q.f0, q.f1⟩
/-- The tree of part i (d: enough rounds). -/
def nodeT : Nat → List S50 → Nat → S32
  | 0, l, i => z32
  | d + 1, l, i => ⟨(pt l i).f1, propsOf (pt l i), (kidsOf l i (i + 1)).map (nodeT d l)⟩
theorem nodeT_more (l : List S50) : ∀ d d' i, l.length - i ≤ d → l.length - i ≤ d' → i < l.length → nodeT d l i = nodeT d' l i
  | 0, d', i, h1, h2, h3 => by omega
  | d + 1, 0, i, h1, h2, h3 => by omega
  | d + 1, d' + 1, i, h1, h2, h3 => by
    simp only [nodeT]
    congr 1
    refine List.map_congr_left (fun j hj => ?_)
    obtain ⟨q1, q2, _⟩ := kidsOf_mem hj
    exact nodeT_more l d d' j (by omega) (by omega) q2
def nodeOf (l : List S50) (i : Nat) : S32 := nodeT (l.length - i) l i
theorem nodeOf_open (l : List S50) {i : Nat} (h : i < l.length) : nodeOf l i = ⟨(pt l i).f1, propsOf (pt l i), (kidsOf l i (i + 1)).map (nodeOf l)⟩ := by
  unfold nodeOf
  obtain ⟨d, hd⟩ : ∃ d, l.length - i = d + 1 := ⟨l.length - i - 1, by omega⟩
  rw [hd]
  simp only [nodeT]
  congr 1
  refine List.map_congr_left (fun j hj => ?_)
  obtain ⟨q1, q2, _⟩ := kidsOf_mem hj
  exact nodeT_more l d (l.length - j) j (by omega) (by omega) q2
/-- What is known of a list that is small. -/
structure Small (l : List S50) : Prop where
  len : l.length ≤ 70
  props : ∀ i, i < l.length → (pt l i).f2.length ≤ 260
theorem rd50 (l : List S50) (i : Nat) : rd_T50 l (i : Int) = pt l i := rfl
theorem rd55_mid (pre suf : List S55) (x : S55) : rd_T55 (pre ++ x :: suf) (pre.length : Int) = x := by
  unfold rd_T55; rw [Int.toNat_natCast]; simp [List.getD, List.getElem?_append_right]
theorem rd50_mid (pre suf : List S50) (x : S50) : rd_T50 (pre ++ x :: suf) (pre.length : Int) = x := by
  unfold rd_T50; rw [Int.toNat_natCast]; simp [List.getD, List.getElem?_append_right]
theorem node_l0 {l : List S50} {i : Nat} (hi : i < l.length) (hp : (pt l i).f2.length ≤ 260) (hl : l.length ≤ 70) {r : ByteArray × List S74 × List S32} (nm : ByteArray)
    (hend : Ev (fun k => vireolaw26_node.l1 k l (i : Int) ((i + 1 : Nat) : Int) nm (propsOf (pt l i)) []) r) :
    ∀ (suf pre : List S55) (acc : List S74), (pt l i).f2 = pre ++ suf → acc = pre.map (fun q => (⟨q.f0, q.f1⟩ : S74)) → Ev (fun k => vireolaw26_node.l0 k l (i : Int) (pre.length : Int) nm acc) r
  | [], pre, acc, h, ha => by
    have h' : (pt l i).f2 = pre := by simpa using h
    refine Ev.step (f := fun k => vireolaw26_node.l1 k l (i : Int) ((i + 1 : Nat) : Int) nm (propsOf (pt l i)) []) (fun k => ?_) hend
    simp only [vireolaw26_node.l0]
    rw [if_pos (by omega), if_pos (by omega), rd50, h', if_neg (by omega), w64 (by omega) (by omega)]
    rw [ha, propsOf, h']
    rfl
  | x :: suf, pre, acc, h, ha => by
    have ih := node_l0 hi hp hl nm hend suf (pre ++ [x]) (acc ++ [⟨x.f0, x.f1⟩]) (by simp [h]) (by simp [ha])
    have hlen : (pt l i).f2.length = pre.length + (suf.length + 1) := by rw [h]; simp
    have hal : acc.length = pre.length := by rw [ha]; simp
    refine Ev.step (f := fun k => vireolaw26_node.l0 k l (i : Int) ((pre ++ [x]).length : Int) nm (acc ++ [⟨x.f0, x.f1⟩])) (fun k => ?_) ih
    have hr : rd_T55 (pt l i).f2 (pre.length : Int) = x := by rw [h]; exact rd55_mid _ _ _
    simp only [vireolaw26_node.l0]
    rw [if_pos (by omega), if_pos (by omega), rd50, if_pos (by omega), if_pos (by omega), if_pos (by omega), hr, w64 (by omega) (by omega)]
    simp
theorem S32_eta (n : S32) : (⟨n.f0, n.f1, n.f2⟩ : S32) = n := by cases n; rfl
theorem node_l1 {l : List S50} {i : Nat} (hi : i < l.length) (hl : l.length ≤ 70) (nm : ByteArray) (ps : List S74)
    (hk : ∀ j, i < j → j < l.length → Ev (fun k => vireolaw26_node.f k l (j : Int)) ((nodeOf l j).f0, (nodeOf l j).f1, (nodeOf l j).f2)) :
    ∀ (d f : Nat) (acc : List S32), d + f = l.length → i < f → acc.length ≤ f → Ev (fun k => vireolaw26_node.l1 k l (i : Int) (f : Int) nm ps acc) (nm, ps, acc ++ (kidsOf l i f).map (nodeOf l))
  | 0, f, acc, hd, hf, ha => by
    rw [kidsOf_end l i (by omega)]
    refine Ev.step (f := fun _ => some (nm, ps, acc ++ [])) (fun k => ?_) (Ev.now _)
    simp only [vireolaw26_node.l1]
    rw [if_neg (by omega)]
    simp
  | d + 1, f, acc, hd, hf, ha => by
    have hfl : f < l.length := by omega
    rw [kidsOf_step l i hfl]
    by_cases c : (pt l f).f0 = (i : Int)
    · rw [if_pos c]
      have ih := node_l1 hi hl nm ps hk d (f + 1) (acc ++ [nodeOf l f]) (by omega) (by omega) (by simp; omega)
      have e : (nm, ps, acc ++ (f :: kidsOf l i (f + 1)).map (nodeOf l)) = (nm, ps, (acc ++ [nodeOf l f]) ++ (kidsOf l i (f + 1)).map (nodeOf l)) := by simp
      rw [e]
      refine Ev.step (f := fun k => (vireolaw26_node.f k l (f : Int)).bind fun bt160 => (if acc.length < 2199023255552 then (vireolaw26_node.l1 k l (i : Int) (wrap64 ((f : Int) + 1)) nm ps (acc ++ [(⟨bt160.1, bt160.2.1, bt160.2.2⟩ : S32)])) else (none))) (fun k => ?_) ?_
      · simp only [vireolaw26_node.l1]
        rw [if_pos (by omega), if_pos (by omega), rd50, if_pos c]
      · refine Ev.bind (hk f hf hfl) ?_
        refine Ev.congr (f := fun k => vireolaw26_node.l1 k l (i : Int) ((f + 1 : Nat) : Int) nm ps (acc ++ [nodeOf l f])) (fun k => ?_) ih
        rw [if_pos (by omega), w64 (by omega) (by omega)]
        dsimp only
        rw [S32_eta, Int.natCast_succ]
    · rw [if_neg c]
      have ih := node_l1 hi hl nm ps hk d (f + 1) acc (by omega) (by omega) (by omega)
      refine Ev.step (f := fun k => vireolaw26_node.l1 k l (i : Int) ((f + 1 : Nat) : Int) nm ps acc) (fun k => ?_) ih
      simp only [vireolaw26_node.l1]
      rw [if_pos (by omega), if_pos (by omega), rd50, if_neg c, w64 (by omega) (by omega)]
      rfl
/-- The law's own 'node'. -/
theorem node_is {l : List S50} (hs : Small l) : ∀ (d i : Nat), l.length - i ≤ d → i < l.length → Ev (fun k => vireolaw26_node.f k l (i : Int)) ((nodeOf l i).f0, (nodeOf l i).f1, (nodeOf l i).f2)
  | 0, i, hd, hi => by omega
  | d + 1, i, hd, hi => by
    have hl := hs.len
    have h1 := node_l1 hi hl (pt l i).f1 (propsOf (pt l i)) (fun j hj hjl => node_is hs d j (by omega) hjl) (l.length - (i + 1)) (i + 1) [] (by omega) (by omega) (by simp)
    have h0 := node_l0 hi (hs.props i hi) hl (pt l i).f1 h1 (pt l i).f2 [] [] rfl rfl
    rw [nodeOf_open l hi]
    refine Ev.step (f := fun k => vireolaw26_node.l0 k l (i : Int) 0 (pt l i).f1 []) (fun k => ?_) h0
    simp only [vireolaw26_node.f]
    rw [if_pos (by omega), if_pos (by omega)]
    rfl
end Go.Proofs.Ytmhlellhfepkkaa.B
/- Plain: which lists are tried. -/
namespace Go.Proofs.Ytmhlellhfepkkaa.B
open Go.RowKit Go.Proofs.YtmhlellhfepkkaaW.PrintWords Go.Proofs.YtmhlellhfepkkaaW.PrintLast Go.Proofs.YtmhlellhfepkkaaW.PrintMore Go.Proofs.Ytmhlellhfepkkaa.PAl
set_option linter.unusedVariables false
set_option linter.unusedSimpArgs false
/-- Part i may be there. -/
def goodP (l : List S50) (i : Nat) : Prop := (0 < i → 0 ≤ (pt l i).f0 ∧ (pt l i).f0 < (i : Int)) ∧ (pt l i).f1.size ≤ 40 ∧ (pt l i).f2.length ≤ 260 ∧ ∀ q ∈ (pt l i).f2, q.f1.length ≤ 5000 ∧ q.f0.size ≤ 40
/-- A list that is tried. -/
structure Tried (l : List S50) : Prop where
  pos : 0 < l.length
  len : l.length ≤ 70
  root : (pt l 0).f0 = -1
  good : ∀ i, i < l.length → goodP l i
theorem Tried.small {l : List S50} (h : Tried l) : Small l := ⟨h.len, fun i hi => (h.good i hi).2.2.1⟩
theorem ev_no {g : Nat → Option Bool} {X : Prop} (h : ∀ k, g (k + 1) = some false) : ∃ b, Ev g b ∧ (b = true → X) := ⟨false, Ev.step (f := fun _ => some false) h (Ev.now _), fun h => by cases h⟩
theorem tried_l1 {l : List S50} {i : Nat} (hi : i < l.length) (hl : l.length ≤ 70) (hp : (pt l i).f2.length ≤ 260) {X : Prop}
    (hend : ∀ x3, ∃ b, Ev (fun k => vireolaw26_tried.l0 k l x3 ((i + 1 : Nat) : Int)) b ∧ (b = true → X)) :
    ∀ (suf pre : List S55) (x3 : Int), (pt l i).f2 = pre ++ suf → ∃ b, Ev (fun k => vireolaw26_tried.l1 k l x3 (i : Int) (pre.length : Int)) b ∧ (b = true → X ∧ ∀ q ∈ suf, q.f1.length ≤ 5000 ∧ q.f0.size ≤ 40)
  | [], pre, x3, h => by
    have h' : (pt l i).f2 = pre := by simpa using h
    obtain ⟨b, hb, hx⟩ := hend x3
    refine ⟨b, Ev.step (fun k => ?_) hb, fun e => ⟨hx e, fun q hq => by cases hq⟩⟩
    simp only [vireolaw26_tried.l1]
    rw [if_pos (by omega), if_pos (by omega), rd50, h', if_neg (by omega), w64 (by omega) (by omega), Int.natCast_succ]
  | x :: suf, pre, x3, h => by
    have hlen : (pt l i).f2.length = pre.length + (suf.length + 1) := by rw [h]; simp
    have hr : rd_T55 (pt l i).f2 (pre.length : Int) = x := by rw [h]; exact rd55_mid _ _ _
    by_cases c1 : (x.f1.length : Int) > 5000
    · refine ev_no (fun k => ?_)
      simp only [vireolaw26_tried.l1]
      rw [if_pos (by omega), if_pos (by omega), rd50, if_pos (by omega), if_pos (by omega), hr, if_pos c1]
    · by_cases c2 : (x.f0.size : Int) > 40
      · refine ev_no (fun k => ?_)
        simp only [vireolaw26_tried.l1]
        rw [if_pos (by omega), if_pos (by omega), rd50, if_pos (by omega), if_pos (by omega), hr, if_neg c1, if_pos c2]
      · obtain ⟨b, hb, hx⟩ := tried_l1 hi hl hp hend suf (pre ++ [x]) (wrap64 ((wrap64 (x3 + (x.f1.length : Int))) + 1)) (by simp [h])
        refine ⟨b, Ev.step (fun k => ?_) hb, fun e => ⟨(hx e).1, fun q hq => ?_⟩⟩
        · simp only [vireolaw26_tried.l1]
          rw [if_pos (by omega), if_pos (by omega), rd50, if_pos (by omega), if_pos (by omega), hr, if_neg c1, if_neg c2, w64 (x := (pre.length : Int) + 1) (by omega) (by omega)]
          simp
        · rcases List.mem_cons.1 hq with rfl | hq
          · exact ⟨by omega, by omega⟩
          · exact (hx e).2 q hq
theorem tried_l0 {l : List S50} (hl : l.length ≤ 70) : ∀ (d i : Nat) (x3 : Int), d + i = l.length → ∃ b, Ev (fun k => vireolaw26_tried.l0 k l x3 (i : Int)) b ∧ (b = true → ∀ j, i ≤ j → j < l.length → goodP l j)
  | 0, i, x3, hd => ⟨decide (x3 ≤ 12000), Ev.step (f := fun _ => some (decide (x3 ≤ 12000))) (fun k => by simp only [vireolaw26_tried.l0]; rw [if_neg (by omega)]) (Ev.now _), fun _ j h1 h2 => by omega⟩
  | d + 1, i, x3, hd => by
    have hi : i < l.length := by omega
    -- behind the four tests
    have key : ∃ b, Ev (fun k => vireolaw26_tried.j2 k l x3 (i : Int) (decide (((pt l i).f2.length : Int) > 260))) b ∧ (b = true → (∀ j, i + 1 ≤ j → j < l.length → goodP l j) ∧ (pt l i).f2.length ≤ 260 ∧ ∀ q ∈ (pt l i).f2, q.f1.length ≤ 5000 ∧ q.f0.size ≤ 40) := by
      by_cases c : ((pt l i).f2.length : Int) > 260
      · refine ev_no (fun k => ?_)
        simp only [vireolaw26_tried.j2]
        rw [if_pos (by simpa using c)]
      · obtain ⟨b, hb, hx⟩ := tried_l1 hi hl (by omega) (X := ∀ j, i + 1 ≤ j → j < l.length → goodP l j) (fun x3 => tried_l0 hl d (i + 1) x3 (by omega)) (pt l i).f2 [] x3 rfl
        refine ⟨b, Ev.step (fun k => ?_) hb, fun e => ⟨(hx e).1, by omega, (hx e).2⟩⟩
        simp only [vireolaw26_tried.j2]
        rw [if_neg (by simpa using c)]
        rfl
    have no2 : ∀ k, vireolaw26_tried.j2 (k + 1) l x3 (i : Int) true = some false := fun k => by simp [vireolaw26_tried.j2]
    have nokey : ∃ b, Ev (fun k => vireolaw26_tried.j2 k l x3 (i : Int) true) b ∧ (b = true → ∀ j, i ≤ j → j < l.length → goodP l j) := ev_no no2
    have fin : ∀ b, (b = true → (∀ j, i + 1 ≤ j → j < l.length → goodP l j) ∧ (pt l i).f2.length ≤ 260 ∧ ∀ q ∈ (pt l i).f2, q.f1.length ≤ 5000 ∧ q.f0.size ≤ 40) → (0 < i → 0 ≤ (pt l i).f0 ∧ (pt l i).f0 < (i : Int)) → (pt l i).f1.size ≤ 40 → b = true → ∀ j, i ≤ j → j < l.length → goodP l j := by
      intro b hx h1 h2 e j hj hjl
      rcases Nat.eq_or_lt_of_le hj with rfl | hj
      · exact ⟨h1, h2, (hx e).2.1, (hx e).2.2⟩
      · exact (hx e).1 j hj hjl
    by_cases c0 : (i : Int) > 0
    · by_cases c1 : (pt l i).f0 < 0
      · obtain ⟨b, hb, hx⟩ := nokey
        refine ⟨b, Ev.step (fun k => ?_) hb, hx⟩
        simp only [vireolaw26_tried.l0]
        rw [if_pos (by omega), if_pos c0, if_pos (by omega), rd50, if_pos c1]
      · by_cases c2 : (pt l i).f0 ≥ (i : Int)
        · obtain ⟨b, hb, hx⟩ := nokey
          refine ⟨b, Ev.step (fun k => ?_) hb, hx⟩
          simp only [vireolaw26_tried.l0]
          rw [if_pos (by omega), if_pos c0, if_pos (by omega), rd50, if_neg c1, if_pos c2]
        · by_cases c3 : ((pt l i).f1.size : Int) > 40
          · obtain ⟨b, hb, hx⟩ := nokey
            refine ⟨b, Ev.step (fun k => ?_) hb, hx⟩
            simp only [vireolaw26_tried.l0]
            rw [if_pos (by omega), if_pos c0, if_pos (by omega), rd50, if_neg c1, if_neg c2, if_pos c3]
          · obtain ⟨b, hb, hx⟩ := key
            refine ⟨b, Ev.step (fun k => ?_) hb, fin b hx (fun _ => ⟨by omega, by omega⟩) (by omega)⟩
            simp only [vireolaw26_tried.l0]
            rw [if_pos (by omega), if_pos c0, if_pos (by omega), rd50, if_neg c1, if_neg c2, if_neg c3]
    · by_cases c3 : ((pt l i).f1.size : Int) > 40
      · obtain ⟨b, hb, hx⟩ := nokey
        refine ⟨b, Ev.step (fun k => ?_) hb, hx⟩
        simp only [vireolaw26_tried.l0]
        rw [if_pos (by omega), if_neg c0, if_pos (by omega), rd50, if_pos c3]
      · obtain ⟨b, hb, hx⟩ := key
        refine ⟨b, Ev.step (fun k => ?_) hb, fin b hx (fun h => by omega) (by omega)⟩
        simp only [vireolaw26_tried.l0]
        rw [if_pos (by omega), if_neg c0, if_pos (by omega), rd50, if_neg c3]
theorem tried_is (l : List S50) : ∃ b, Ev (fun k => vireolaw26_tried.f k l) b ∧ (b = true → Tried l) := by
  have no : ∀ k, vireolaw26_tried.j0 (k + 1) l true = some false := fun k => by simp [vireolaw26_tried.j0]
  by_cases c0 : (l.length : Int) < 1
  · refine ev_no (fun k => ?_)
    unfold vireolaw26_tried.f
    rw [if_pos c0, no]
  · by_cases c1 : (l.length : Int) > 70
    · refine ev_no (fun k => ?_)
      unfold vireolaw26_tried.f
      rw [if_neg c0, if_pos c1, no]
    · by_cases c2 : (pt l 0).f0 = -1
      · obtain ⟨b, hb, hx⟩ := tried_l0 (l := l) (by omega) l.length 0 0 (by omega)
        refine ⟨b, Ev.step (f := fun k => vireolaw26_tried.l0 k l 0 ((0 : Nat) : Int)) (fun k => ?_) hb, fun e => ⟨by omega, by omega, c2, fun i hi => hx e i (Nat.zero_le _) hi⟩⟩
        unfold vireolaw26_tried.f
        rw [if_neg c0, if_neg c1, if_pos (by omega)]
        have : ((rd_T50 l 0).f0 != -1) = false := by have c3 : (rd_T50 l 0).f0 = -1 := c2; simp [c3]
        rw [this]
        simp [vireolaw26_tried.j0]
      · refine ev_no (fun k => ?_)
        unfold vireolaw26_tried.f
        rw [if_neg c0, if_neg c1, if_pos (by omega)]
        have : ((rd_T50 l 0).f0 != -1) = true := by have c3 : ¬ (rd_T50 l 0).f0 = -1 := c2; simp [c3]
        rw [this, no]
end Go.Proofs.Ytmhlellhfepkkaa.B
/- Plain: sums over a tree are sums over its list. -/
namespace Go.Proofs.Ytmhlellhfepkkaa.B
open Go.RowKit Go.Proofs.YtmhlellhfepkkaaW.PrintWords Go.Proofs.YtmhlellhfepkkaaW.PrintLast Go.Proofs.YtmhlellhfepkkaaW.PrintMore Go.Proofs.Ytmhlellhfepkkaa.PAl
set_option linter.unusedVariables false
set_option linter.unusedSimpArgs false
def wT (w : Nat → Nat) : Nat → List S50 → Nat → Nat
  | 0, l, i => 0
  | d + 1, l, i => w i + ((kidsOf l i (i + 1)).map (wT w d l)).sum
theorem wT_more (w : Nat → Nat) (l : List S50) : ∀ d d' i, l.length - i ≤ d → l.length - i ≤ d' → i < l.length → wT w d l i = wT w d' l i
  | 0, d', i, h1, h2, h3 => by omega
  | d + 1, 0, i, h1, h2, h3 => by omega
  | d + 1, d' + 1, i, h1, h2, h3 => by
    simp only [wT]
    congr 2
    refine List.map_congr_left (fun j hj => ?_)
    obtain ⟨q1, q2, _⟩ := kidsOf_mem hj
    exact wT_more w l d d' j (by omega) (by omega) q2
def wOf (w : Nat → Nat) (l : List S50) (i : Nat) : Nat := wT w (l.length - i) l i
theorem wOf_open (w : Nat → Nat) (l : List S50) {i : Nat} (h : i < l.length) : wOf w l i = w i + ((kidsOf l i (i + 1)).map (wOf w l)).sum := by
  unfold wOf
  obtain ⟨d, hd⟩ : ∃ d, l.length - i = d + 1 := ⟨l.length - i - 1, by omega⟩
  rw [hd]
  simp only [wT]
  congr 2
  refine List.map_congr_left (fun j hj => ?_)
  obtain ⟨q1, q2, _⟩ := kidsOf_mem hj
  exact wT_more w l d (l.length - j) j (by omega) (by omega) q2
def sumTo (w : Nat → Nat) : Nat → Nat
  | 0 => 0
  | n + 1 => sumTo w n + w n
def rest (w : Nat → Nat) (l : List S50) (m : Nat) : Nat := (((List.range' m (l.length - m)).filter fun j => decide ((pt l j).f0 < (m : Int))).map (wOf w l)).sum
theorem split_sum (l : List S50) (f : Nat → Nat) (m : Nat) : ∀ L : List Nat, ((L.filter fun j => decide ((pt l j).f0 < ((m + 1 : Nat) : Int))).map f).sum = ((L.filter fun j => decide ((pt l j).f0 < (m : Int))).map f).sum + ((L.filter fun j => decide ((pt l j).f0 = (m : Int))).map f).sum
  | [] => rfl
  | x :: L => by
    have ih := split_sum l f m L
    simp only [List.filter_cons]
    by_cases c1 : (pt l x).f0 < (m : Int)
    · have c2 : ¬ (pt l x).f0 = (m : Int) := by omega
      have c3 : (pt l x).f0 < ((m + 1 : Nat) : Int) := by omega
      simp only [decide_eq_true c1, decide_eq_false c2, decide_eq_true c3, if_true, if_false, List.map_cons, List.sum_cons, Bool.false_eq_true]
      omega
    · by_cases c2 : (pt l x).f0 = (m : Int)
      · have c3 : (pt l x).f0 < ((m + 1 : Nat) : Int) := by omega
        simp only [decide_eq_false c1, decide_eq_true c2, decide_eq_true c3, if_true, if_false, List.map_cons, List.sum_cons, Bool.false_eq_true]
        omega
      · have c3 : ¬ (pt l x).f0 < ((m + 1 : Nat) : Int) := by omega
        simp only [decide_eq_false c1, decide_eq_false c2, decide_eq_false c3, if_true, if_false, List.map_cons, List.sum_cons, Bool.false_eq_true]
        omega
theorem rest_step {w : Nat → Nat} {l : List S50} (ht : Tried l) {m : Nat} (h1 : 1 ≤ m) (h2 : m < l.length) : rest w l m = w m + rest w l (m + 1) := by
  unfold rest
  obtain ⟨d, hd⟩ : ∃ d, l.length - m = d + 1 := ⟨l.length - m - 1, by omega⟩
  have hm := (ht.good m h2).1 (by omega)
  rw [split_sum l (wOf w l) m, hd, List.range'_succ, List.filter_cons, show l.length - (m + 1) = d by omega]
  simp only [decide_eq_true hm.2, if_true, List.map_cons, List.sum_cons]
  rw [wOf_open w l h2]
  unfold kidsOf
  rw [show l.length - (m + 1) = d by omega]
  omega
theorem sum_rest {w : Nat → Nat} {l : List S50} (ht : Tried l) : ∀ (d m : Nat), d + m = l.length → 1 ≤ m → sumTo w m + rest w l m = sumTo w l.length
  | 0, m, h, h1 => by
    obtain rfl : m = l.length := by omega
    unfold rest
    rw [Nat.sub_self]
    rfl
  | d + 1, m, h, h1 => by
    have ih := sum_rest (w := w) ht d (m + 1) (by omega) (by omega)
    rw [rest_step ht h1 (by omega)]
    simp only [sumTo] at ih
    omega
/-- A sum over the whole tree. -/
theorem sum_all {l : List S50} (ht : Tried l) (w : Nat → Nat) : wOf w l 0 = sumTo w l.length := by
  have h0 := ht.pos
  rw [← sum_rest (w := w) ht (l.length - 1) 1 (by omega) (Nat.le_refl _), wOf_open w l h0]
  simp only [sumTo]
  have e : kidsOf l 0 (0 + 1) = (List.range' 1 (l.length - 1)).filter fun j => decide ((pt l j).f0 < ((1 : Nat) : Int)) := by
    unfold kidsOf
    refine List.filter_congr (fun j hj => ?_)
    rw [List.mem_range'_1] at hj
    have := (ht.good j (by omega)).1 (by omega)
    by_cases c : (pt l j).f0 = ((0 : Nat) : Int)
    · rw [decide_eq_true c, decide_eq_true (by omega)]
    · rw [decide_eq_false c, decide_eq_false (by omega)]
  rw [e]
  unfold rest
  omega
theorem sumTo_le {w w' : Nat → Nat} : ∀ n, (∀ i, i < n → w i ≤ w' i) → sumTo w n ≤ sumTo w' n
  | 0, _ => Nat.le_refl _
  | n + 1, h => by have := sumTo_le n (fun i hi => h i (by omega)); have := h n (by omega); simp only [sumTo]; omega
theorem sumTo_const (c : Nat) : ∀ n, sumTo (fun _ => c) n = c * n
  | 0 => rfl
  | n + 1 => by simp only [sumTo, sumTo_const c n, Nat.mul_succ]
theorem sumTo_zero {w : Nat → Nat} : ∀ n, sumTo w n = 0 ↔ ∀ i, i < n → w i = 0
  | 0 => ⟨fun _ i hi => by omega, fun _ => rfl⟩
  | n + 1 => by
    have ih := sumTo_zero (w := w) n
    simp only [sumTo]
    constructor
    · intro h i hi
      rcases Nat.lt_or_ge i n with q | q
      · exact ih.1 (by omega) i q
      · obtain rfl : i = n := by omega
        omega
    · intro h
      have := ih.2 (fun i hi => h i (by omega))
      have := h n (by omega)
      omega
/-! how deep a part lies -/
def dT (l : List S50) : Nat → Nat → Nat
  | 0, i => 0
  | d + 1, i => if i = 0 then 1 else dT l d (pt l i).f0.toNat + 1
theorem dT_more {l : List S50} (ht : Tried l) : ∀ d d' i, i < d → i < d' → i < l.length → dT l d i = dT l d' i
  | 0, d', i, h1, h2, h3 => by omega
  | d + 1, 0, i, h1, h2, h3 => by omega
  | d + 1, d' + 1, i, h1, h2, h3 => by
    simp only [dT]
    by_cases c : i = 0
    · rw [if_pos c, if_pos c]
    · rw [if_neg c, if_neg c]
      have := (ht.good i h3).1 (by omega)
      rw [dT_more ht d d' (pt l i).f0.toNat (by omega) (by omega) (by omega)]
def dOf (l : List S50) (i : Nat) : Nat := dT l (i + 1) i
theorem dOf_zero (l : List S50) : dOf l 0 = 1 := rfl
theorem dOf_open {l : List S50} (ht : Tried l) {i : Nat} (h0 : 0 < i) (hi : i < l.length) : dOf l i = dOf l (pt l i).f0.toNat + 1 := by
  have := (ht.good i hi).1 h0
  unfold dOf
  rw [dT, if_neg (by omega), dT_more ht i ((pt l i).f0.toNat + 1) _ (by omega) (by omega) (by omega)]
theorem dOf_kid {l : List S50} (ht : Tried l) {i j f : Nat} (h : j ∈ kidsOf l i f) (hf : 0 < f) : dOf l j = dOf l i + 1 := by
  obtain ⟨q1, q2, q3⟩ := kidsOf_mem h
  rw [dOf_open ht (by omega) q2, q3, Int.toNat_natCast]
theorem dOf_pos {l : List S50} (i : Nat) : 1 ≤ dOf l i := by unfold dOf; rw [dT]; split <;> omega
theorem dOf_one {l : List S50} (ht : Tried l) {i : Nat} (hi : i < l.length) : dOf l i = 1 ↔ i = 0 := by
  constructor
  · intro h
    rcases Nat.eq_zero_or_pos i with q | q
    · exact q
    · rw [dOf_open ht q hi] at h
      have := dOf_pos (l := l) (pt l i).f0.toNat
      omega
  · rintro rfl; rfl
theorem dOf_le {l : List S50} (ht : Tried l) : ∀ (d i : Nat), i ≤ d → i < l.length → dOf l i ≤ i + 1
  | 0, i, h1, h2 => by obtain rfl : i = 0 := by omega
                       exact Nat.le_refl _
  | d + 1, i, h1, h2 => by
    rcases Nat.eq_zero_or_pos i with rfl | q
    · exact Nat.le_refl _
    · have := (ht.good i h2).1 q
      rw [dOf_open ht q h2]
      have := dOf_le ht d (pt l i).f0.toNat (by omega) (by omega)
      omega
end Go.Proofs.Ytmhlellhfepkkaa.B
/- Plain: names. -/
namespace Go.Proofs.Ytmhlellhfepkkaa.B
open Go.RowKit Go.Proofs.YtmhlellhfepkkaaW.PrintWords Go.Proofs.YtmhlellhfepkkaaW.PrintLast Go.Proofs.YtmhlellhfepkkaaW.PrintMore Go.Proofs.Ytmhlellhfepkkaa.PAl
set_option linter.unusedVariables false
set_option linter.unusedSimpArgs false
theorem bt_mid (s : ByteArray) (pre suf : List Int) (x : Int) (h : bytesOf s = pre ++ x :: suf) : bt s (pre.length : Int) = x := by
  have hl : s.size = pre.length + (suf.length + 1) := by have := congrArg List.length h; rw [bytesOf_length] at this; simpa using this
  unfold bt
  rw [Int.toNat_natCast, dif_pos (by omega)]
  have h2 : (bytesOf s)[pre.length]? = some x := by rw [h]; simp
  unfold bytesOf at h2
  rw [List.getElem?_map] at h2
  obtain ⟨b, hb, hx⟩ := Option.map_eq_some_iff.1 h2
  rw [← hx]
  have hb2 : s.data.toList[pre.length]? = some b := hb
  rw [Array.getElem?_toList] at hb2
  obtain ⟨hlt, he⟩ := Array.getElem?_eq_some_iff.1 hb2
  show ((s.data[pre.length].toNat : Nat) : Int) = _
  rw [he]
def okB (x : Int) : Bool := decide (33 ≤ x) && decide (x ≤ 126)
/-- May a text be a name? -/
def nmOK (s : ByteArray) (e : Bool) : Bool := if s.size = 0 then e else decide (s.size ≤ 31) && (bytesOf s).all okB
theorem size_toList (s : ByteArray) : s.toList = [] ↔ s.size = 0 := by rw [ByteArray.toList_eq, ← data_length s]; exact List.length_eq_zero_iff.symm
theorem named_loop (s : ByteArray) (hs : s.size ≤ 1000) : ∀ (suf pre : List Int), bytesOf s = pre ++ suf → Ev (fun k => fdt_named.l0 k s (s.size : Int) (pre.length : Int)) (suf.all okB)
  | [], pre, h => by
    have hl : s.size = pre.length := by have := congrArg List.length h; rw [bytesOf_length] at this; simpa using this
    refine Ev.step (f := fun _ => some true) (fun k => ?_) (Ev.now _)
    simp only [fdt_named.l0]
    rw [if_neg (by omega)]
  | x :: suf, pre, h => by
    have hl : s.size = pre.length + (suf.length + 1) := by have := congrArg List.length h; rw [bytesOf_length] at this; simpa using this
    have hb := bt_mid s pre suf x h
    by_cases c1 : x ≤ 32
    · have e : (x :: suf).all okB = false := by simp [okB]; intro q; omega
      rw [e]
      refine Ev.step (f := fun _ => some false) (fun k => ?_) (Ev.now _)
      simp only [fdt_named.l0]
      rw [if_pos (by omega), if_pos (by omega), if_pos (by omega), hb, if_pos c1]
    · by_cases c2 : x > 126
      · have e : (x :: suf).all okB = false := by simp [okB]; intro q; omega
        rw [e]
        refine Ev.step (f := fun _ => some false) (fun k => ?_) (Ev.now _)
        simp only [fdt_named.l0]
        rw [if_pos (by omega), if_pos (by omega), if_pos (by omega), hb, if_neg c1, if_pos c2]
      · have ih := named_loop s hs suf (pre ++ [x]) (by simp [h])
        have e : (x :: suf).all okB = suf.all okB := by simp [okB]; omega
        rw [e]
        refine Ev.step (f := fun k => fdt_named.l0 k s (s.size : Int) ((pre ++ [x]).length : Int)) (fun k => ?_) ih
        simp only [fdt_named.l0]
        rw [if_pos (by omega), if_pos (by omega), if_pos (by omega), hb, if_neg c1, if_neg c2, w64 (by omega) (by omega)]
        simp
theorem named_is (s : ByteArray) (e : Bool) : Ev (fun k => fdt_named.f k s e) (nmOK s e) := by
  unfold fdt_named.f nmOK
  by_cases c : s.size = 0
  · rw [if_pos c]
    refine Ev.congr (f := fun _ => some e) (fun k => ?_) (Ev.now _)
    rw [if_pos ((size_toList s).2 c)]
  · rw [if_neg c]
    by_cases c2 : (s.size : Int) > 31
    · have e2 : (decide (s.size ≤ 31) && (bytesOf s).all okB) = false := by rw [decide_eq_false (by omega)]; rfl
      rw [e2]
      refine Ev.congr (f := fun _ => some false) (fun k => ?_) (Ev.now _)
      rw [if_neg (fun q => c ((size_toList s).1 q)), if_pos c2]
    · have e2 : (decide (s.size ≤ 31) && (bytesOf s).all okB) = (bytesOf s).all okB := by rw [decide_eq_true (by omega), Bool.true_and]
      rw [e2]
      refine Ev.congr (f := fun k => fdt_named.l0 k s (s.size : Int) (([] : List Int).length : Int)) (fun k => ?_) (named_loop s (by omega) (bytesOf s) [] rfl)
      rw [if_neg (fun q => c ((size_toList s).1 q)), if_neg c2]
      rfl
end Go.Proofs.Ytmhlellhfepkkaa.B
/- Plain: whether a tree may be. -/
namespace Go.Proofs.Ytmhlellhfepkkaa.B
open Go.RowKit Go.Proofs.YtmhlellhfepkkaaW.PrintWords Go.Proofs.YtmhlellhfepkkaaW.PrintLast Go.Proofs.YtmhlellhfepkkaaW.PrintMore Go.Proofs.Ytmhlellhfepkkaa.PAl
set_option linter.unusedVariables false
set_option linter.unusedSimpArgs false
def okProp (q : S55) : Bool := nmOK q.f0 false && decide (q.f1.length ≤ 4096)
def okPart (l : List S50) (i : Nat) : Bool := decide (dOf l i ≤ 8) && nmOK (pt l i).f1 (i == 0) && decide ((pt l i).f2.length ≤ 256) && (pt l i).f2.all okProp
def bad (l : List S50) (i : Nat) : Nat := if okPart l i = true then 0 else 1
def one_ (i : Nat) : Nat := 1
def nprops (l : List S50) (i : Nat) : Nat := (pt l i).f2.length
def NN (l : List S50) (i : Nat) : Nat := wOf one_ l i
def PP (l : List S50) (i : Nat) : Nat := wOf (nprops l) l i
def BB (l : List S50) (i : Nat) : Nat := wOf (bad l) l i
def cOK (l : List S50) (i : Nat) : Prop := BB l i = 0 ∧ NN l i ≤ 64 ∧ PP l i ≤ 256
instance (l : List S50) (i : Nat) : Decidable (cOK l i) := by unfold cOK; infer_instance
theorem rd74_mid (pre suf : List S74) (x : S74) : rd_T74 (pre ++ x :: suf) (pre.length : Int) = x := by
  unfold rd_T74; rw [Int.toNat_natCast]; simp [List.getD, List.getElem?_append_right]
theorem rd32_mid (pre suf : List S32) (x : S32) : rd_T32 (pre ++ x :: suf) (pre.length : Int) = x := by
  unfold rd_T32; rw [Int.toNat_natCast]; simp [List.getD, List.getElem?_append_right]
/-- the loop over what is told -/
theorem count_l0 (ps : List S74) (hp : ps.length ≤ 1000) (dep a b : Int) (nm : ByteArray) (ks : List S32) {r : Int × Int × Bool} (hend : Ev (fun k => fdt_count.l1 k dep a b ks (ks.length : Int) 0) r) :
    ∀ (suf pre : List S74), ps = pre ++ suf → Ev (fun k => fdt_count.l0 k dep a b ps (ps.length : Int) (pre.length : Int) nm ps ks) (if (suf.all fun q => nmOK q.f0 false && decide (q.f1.length ≤ 4096)) = true then r else (0, 0, false))
  | [], pre, h => by
    have h' : ps = pre := by simpa using h
    rw [if_pos (by rfl)]
    refine Ev.step (f := fun k => fdt_count.l1 k dep a b ks (ks.length : Int) 0) (fun k => ?_) hend
    simp only [fdt_count.l0]
    rw [if_neg (by rw [h']; omega)]
  | x :: suf, pre, h => by
    have hlen : ps.length = pre.length + (suf.length + 1) := by rw [h]; simp
    have hr : rd_T74 ps (pre.length : Int) = x := by rw [h]; exact rd74_mid _ _ _
    have ih := count_l0 ps hp dep a b nm ks hend suf (pre ++ [x]) (by simp [h])
    refine Ev.step (f := fun k => (fdt_named.f k x.f0 false).bind fun t105 => (if t105 = true then (if ((x.f1).length : Int) > 4096 then (some (0, 0, false)) else (fdt_count.l0 k dep a b ps (ps.length : Int) ((pre ++ [x]).length : Int) nm ps ks)) else (some (0, 0, false)))) (fun k => ?_) ?_
    · simp only [fdt_count.l0]
      rw [if_pos (by omega), if_pos (by omega), if_pos (by omega), hr, w64 (by omega) (by omega)]
      simp
    · refine Ev.bind (named_is x.f0 false) ?_
      cases hn : nmOK x.f0 false with
      | false =>
        rw [if_neg (by simp [hn])]
        exact Ev.congr (f := fun _ => some (0, 0, false)) (fun k => by simp) (Ev.now _)
      | true =>
        by_cases c : (x.f1.length : Int) > 4096
        · rw [if_neg (by simp [hn]; intro q; omega)]
          exact Ev.congr (f := fun _ => some (0, 0, false)) (fun k => by rw [if_pos rfl, if_pos c]) (Ev.now _)
        · have e : ((x :: suf).all fun q => nmOK q.f0 false && decide (q.f1.length ≤ 4096)) = (suf.all fun q => nmOK q.f0 false && decide (q.f1.length ≤ 4096)) := by simp [hn]; intro _; omega
          rw [e]
          exact Ev.congr (fun k => by rw [if_pos rfl, if_neg c]) ih
theorem NN_pos (l : List S50) {i : Nat} (h : i < l.length) : 1 ≤ NN l i := by unfold NN; rw [wOf_open _ l h]; unfold one_; omega
theorem sum_ge {ks : List Nat} (f : Nat → Nat) (h : ∀ x, x ∈ ks → 1 ≤ f x) : ks.length ≤ (ks.map f).sum := by
  induction ks with
  | nil => exact Nat.le_refl _
  | cons a ks ih =>
    have := h a List.mem_cons_self
    have := ih (fun x hx => h x (List.mem_cons_of_mem _ hx))
    simp only [List.map_cons, List.sum_cons, List.length_cons]; omega
/-- the loop over the parts -/
theorem count_l1 {l : List S50} (ht : Tried l) {dep : Int} (hd0 : 0 ≤ dep) (hd1 : dep ≤ 1000) (ks0 : List Nat) (hk0 : ks0.length ≤ 1000) (hk : ∀ j, j ∈ ks0 → j < l.length ∧ Ev (fun k => fdt_count.f k (nodeOf l j).f0 (nodeOf l j).f1 (nodeOf l j).f2 (dep + 1)) (if cOK l j then ((NN l j : Int), (PP l j : Int), true) else (0, 0, false))) :
    ∀ (suf pre : List Nat) (a b : Nat), ks0 = pre ++ suf → a ≤ 64 → b ≤ 256 → Ev (fun k => fdt_count.l1 k dep (a : Int) (b : Int) (ks0.map (nodeOf l)) ((ks0.map (nodeOf l)).length : Int) (pre.length : Int))
      (if (suf.map (BB l)).sum = 0 ∧ a + (suf.map (NN l)).sum ≤ 64 ∧ b + (suf.map (PP l)).sum ≤ 256 then (((a + (suf.map (NN l)).sum : Nat) : Int), ((b + (suf.map (PP l)).sum : Nat) : Int), true) else (0, 0, false))
  | [], pre, a, b, h, ha, hb => by
    have h' : ks0 = pre := by simpa using h
    rw [if_pos ⟨rfl, by simpa using ha, by simpa using hb⟩]
    refine Ev.step (f := fun _ => some ((a : Int), (b : Int), true)) (fun k => ?_) (by simpa using Ev.now _)
    simp only [fdt_count.l1]
    rw [if_neg (by rw [h', List.length_map]; omega)]
  | j :: suf, pre, a, b, h, ha, hb => by
    have hlen : ks0.length = pre.length + (suf.length + 1) := by rw [h]; simp
    have hml : (ks0.map (nodeOf l)).length = ks0.length := List.length_map ..
    have hr : rd_T32 (ks0.map (nodeOf l)) (pre.length : Int) = nodeOf l j := by
      rw [h, List.map_append, List.map_cons]
      have := rd32_mid (pre.map (nodeOf l)) (suf.map (nodeOf l)) (nodeOf l j)
      rwa [List.length_map] at this
    obtain ⟨hj, hc⟩ := hk j (by rw [h]; simp)
    refine Ev.step (f := fun k => (fdt_count.f k (nodeOf l j).f0 (nodeOf l j).f1 (nodeOf l j).f2 (dep + 1)).bind fun bt108 => (if bt108.2.2 = true then (if (wrap64 ((a : Int) + bt108.1)) > 64 then (some (0, 0, false)) else (if (wrap64 ((b : Int) + bt108.2.1)) > 256 then (some (0, 0, false)) else (fdt_count.l1 k dep (wrap64 ((a : Int) + bt108.1)) (wrap64 ((b : Int) + bt108.2.1)) (ks0.map (nodeOf l)) ((ks0.map (nodeOf l)).length : Int) ((pre ++ [j]).length : Int)))) else (some (0, 0, false)))) (fun k => ?_) (Ev.bind hc ?_)
    · simp only [fdt_count.l1]
      rw [if_pos (by omega), if_pos (by omega), if_pos (by omega), hr, w64 (x := dep + 1) (by omega) (by omega), w64 (x := (pre.length : Int) + 1) (by omega) (by omega)]
      simp
    · simp only [List.map_cons, List.sum_cons]
      by_cases c : cOK l j
      · simp only [if_pos c, if_true]
        obtain ⟨c1, c2, c3⟩ := c
        have w1 : wrap64 ((a : Int) + (NN l j : Int)) = ((a + NN l j : Nat) : Int) := by rw [w64 (by omega) (by omega)]; omega
        have w2 : wrap64 ((b : Int) + (PP l j : Int)) = ((b + PP l j : Nat) : Int) := by rw [w64 (by omega) (by omega)]; omega
        rw [w1, w2]
        clear w1 w2
        by_cases d1 : a + NN l j > 64
        · rw [if_neg (by omega)]
          exact Ev.congr (f := fun _ => some (0, 0, false)) (fun k => by rw [if_pos (by omega)]) (Ev.now _)
        · by_cases d2 : b + PP l j > 256
          · rw [if_neg (by omega)]
            exact Ev.congr (f := fun _ => some (0, 0, false)) (fun k => by rw [if_neg (by omega), if_pos (by omega)]) (Ev.now _)
          · have ih := count_l1 ht hd0 hd1 ks0 hk0 hk suf (pre ++ [j]) (a + NN l j) (b + PP l j) (by simp [h]) (by omega) (by omega)
            rw [c1, Nat.zero_add]
            rw [← Nat.add_assoc, ← Nat.add_assoc]
            exact Ev.congr (fun k => by rw [if_neg (by omega), if_neg (by omega)]) ih
      · simp only [if_neg c, Bool.false_eq_true, if_false]
        have : ¬ (BB l j + (suf.map (BB l)).sum = 0 ∧ a + (NN l j + (suf.map (NN l)).sum) ≤ 64 ∧ b + (PP l j + (suf.map (PP l)).sum) ≤ 256) := fun q => c ⟨by omega, by omega, by omega⟩
        rw [if_neg this]
        exact Ev.now _
/-- What 'count' says of a part. -/
theorem count_is {l : List S50} (ht : Tried l) : ∀ (d i : Nat), l.length - i ≤ d → i < l.length → Ev (fun k => fdt_count.f k (nodeOf l i).f0 (nodeOf l i).f1 (nodeOf l i).f2 (dOf l i : Int)) (if cOK l i then ((NN l i : Int), (PP l i : Int), true) else (0, 0, false))
  | 0, i, hd, hi => by omega
  | d + 1, i, hd, hi => by
    have hl := ht.len
    have hdl := dOf_le ht i i (Nat.le_refl _) hi
    have hdp := dOf_pos (l := l) i
    have hkl : (kidsOf l i (i + 1)).length ≤ 1000 := by
      unfold kidsOf
      have := List.length_filter_le (fun j => decide ((pt l j).f0 = (i : Int))) (List.range' (i + 1) (l.length - (i + 1)))
      rw [List.length_range'] at this
      omega
    have hp := (ht.good i hi).2.2.1
    have hps : (propsOf (pt l i)).length = (pt l i).f2.length := by simp [propsOf]
    rw [nodeOf_open l hi]
    dsimp only
    have hml : ((kidsOf l i (i + 1)).map (nodeOf l)).length = (kidsOf l i (i + 1)).length := List.length_map ..
    have j0no : ∀ k, fdt_count.j0 (k + 1) (dOf l i : Int) true (pt l i).f1 (propsOf (pt l i)) ((kidsOf l i (i + 1)).map (nodeOf l)) = some (0, 0, false) := fun k => by simp [fdt_count.j0]
    have nb : okPart l i = false → ¬ cOK l i := by
      intro q ⟨q1, _⟩
      unfold BB at q1
      rw [wOf_open _ l hi] at q1
      unfold bad at q1
      rw [if_neg (by simp [q])] at q1
      omega
    have allp : ((propsOf (pt l i)).all fun q => nmOK q.f0 false && decide (q.f1.length ≤ 4096)) = (pt l i).f2.all okProp := by
      unfold propsOf; rw [List.all_map]; rfl
    have e1 : (((dOf l i : Nat) : Int) == 1) = (i == 0) := by
      by_cases q : i = 0
      · have := (dOf_one ht hi).2 q; subst q; rw [this]; rfl
      · have h1 : ¬ dOf l i = 1 := fun z => q ((dOf_one ht hi).1 z)
        have h2 : (i == 0) = false := by simpa using q
        rw [h2]; simp; omega
    by_cases c1 : (dOf l i : Int) > 8
    · rw [if_neg (nb (by unfold okPart; rw [decide_eq_false (by omega)]; rfl))]
      refine Ev.step (f := fun k => fdt_count.j0 k (dOf l i : Int) true (pt l i).f1 (propsOf (pt l i)) ((kidsOf l i (i + 1)).map (nodeOf l))) (fun k => ?_) (Ev.step j0no (Ev.now _))
      simp only [fdt_count.f]
      rw [if_pos c1]
    · refine Ev.step (f := fun k => (fdt_named.f k (pt l i).f1 (i == 0)).bind fun t102 => (if t102 = true then (if ((propsOf (pt l i)).length : Int) > 256 then (fdt_count.j0 k (dOf l i : Int) true (pt l i).f1 (propsOf (pt l i)) ((kidsOf l i (i + 1)).map (nodeOf l))) else (fdt_count.j0 k (dOf l i : Int) (decide ((((kidsOf l i (i + 1)).map (nodeOf l)).length : Int) > 64)) (pt l i).f1 (propsOf (pt l i)) ((kidsOf l i (i + 1)).map (nodeOf l)))) else (fdt_count.j0 k (dOf l i : Int) true (pt l i).f1 (propsOf (pt l i)) ((kidsOf l i (i + 1)).map (nodeOf l))))) (fun k => ?_) (Ev.bind (named_is (pt l i).f1 (i == 0)) ?_)
      · simp only [fdt_count.f]
        rw [if_neg c1, e1]
      · cases hn : nmOK (pt l i).f1 (i == 0) with
        | false =>
          rw [if_neg (nb (by unfold okPart; rw [hn]; simp))]
          exact Ev.step (fun k => by rw [if_neg (by simp)]; exact j0no k) (Ev.now _)
        | true =>
          simp only [if_true]
          by_cases c2 : ((propsOf (pt l i)).length : Int) > 256
          · rw [if_neg (nb (by unfold okPart; rw [decide_eq_false (show ¬ (pt l i).f2.length ≤ 256 by omega)]; simp))]
            exact Ev.step (fun k => by rw [if_pos c2]; exact j0no k) (Ev.now _)
          · by_cases c3 : (((kidsOf l i (i + 1)).map (nodeOf l)).length : Int) > 64
            · have : ¬ cOK l i := by
                rintro ⟨_, q2, _⟩
                unfold NN at q2
                rw [wOf_open _ l hi] at q2
                have := sum_ge (ks := kidsOf l i (i + 1)) (NN l) (fun x hx => NN_pos l (kidsOf_mem hx).2.1)
                have e : ((kidsOf l i (i + 1)).map (wOf one_ l)).sum = ((kidsOf l i (i + 1)).map (NN l)).sum := rfl
                unfold one_ at q2
                change 1 + ((kidsOf l i (i + 1)).map (NN l)).sum ≤ 64 at q2
                omega
              rw [if_neg this]
              exact Ev.step (fun k => by rw [if_neg c2, decide_eq_true c3]; exact j0no k) (Ev.now _)
            · have h1 := count_l1 ht (dep := (dOf l i : Int)) (by omega) (by omega) (kidsOf l i (i + 1)) hkl (fun j hj => by
                obtain ⟨q1, q2, q3⟩ := kidsOf_mem hj
                have := count_is ht d j (by omega) q2
                rw [dOf_kid ht hj (by omega)] at this
                exact ⟨q2, by simpa using this⟩) (kidsOf l i (i + 1)) [] 1 (pt l i).f2.length rfl (by omega) (by omega)
              have h0 := count_l0 (propsOf (pt l i)) (by omega) (dOf l i : Int) 1 ((pt l i).f2.length : Int) (pt l i).f1 ((kidsOf l i (i + 1)).map (nodeOf l)) h1 (propsOf (pt l i)) [] rfl
              rw [allp] at h0
              have hNN : NN l i = 1 + ((kidsOf l i (i + 1)).map (NN l)).sum := by unfold NN; rw [wOf_open _ l hi]; rfl
              have hPP : PP l i = (pt l i).f2.length + ((kidsOf l i (i + 1)).map (PP l)).sum := by unfold PP; rw [wOf_open _ l hi]; rfl
              have hBB : BB l i = bad l i + ((kidsOf l i (i + 1)).map (BB l)).sum := by unfold BB; rw [wOf_open _ l hi]
              have he : (if (pt l i).f2.all okProp = true then (if ((kidsOf l i (i + 1)).map (BB l)).sum = 0 ∧ 1 + ((kidsOf l i (i + 1)).map (NN l)).sum ≤ 64 ∧ (pt l i).f2.length + ((kidsOf l i (i + 1)).map (PP l)).sum ≤ 256 then (((1 + ((kidsOf l i (i + 1)).map (NN l)).sum : Nat) : Int), (((pt l i).f2.length + ((kidsOf l i (i + 1)).map (PP l)).sum : Nat) : Int), true) else (0, 0, false)) else (0, 0, false)) = (if cOK l i then ((NN l i : Int), (PP l i : Int), true) else (0, 0, false)) := by
                rw [← hNN, ← hPP]
                cases hq : (pt l i).f2.all okProp with
                | false =>
                  rw [if_neg (by simp), if_neg (nb (by unfold okPart; rw [hq]; simp))]
                | true =>
                  have hb : bad l i = 0 := by
                    unfold bad okPart
                    rw [hn, hq, decide_eq_true (show dOf l i ≤ 8 by omega), decide_eq_true (show (pt l i).f2.length ≤ 256 by omega)]
                    rfl
                  rw [hb, Nat.zero_add] at hBB
                  rw [if_pos rfl, ← hBB]
                  rfl
              rw [he] at h0
              refine Ev.step (f := fun k => fdt_count.l0 k (dOf l i : Int) 1 ((pt l i).f2.length : Int) (propsOf (pt l i)) ((propsOf (pt l i)).length : Int) 0 (pt l i).f1 (propsOf (pt l i)) ((kidsOf l i (i + 1)).map (nodeOf l))) (fun k => ?_) h0
              rw [if_neg c2, decide_eq_false c3]
              simp only [fdt_count.j0, hps]
              rw [if_neg (by simp)]
/-- May the tree be? -/
theorem right_is {l : List S50} (ht : Tried l) : Ev (fun k => fdt_Right.f k (nodeOf l 0).f0 (nodeOf l 0).f1 (nodeOf l 0).f2) (if cOK l 0 then 0 else 250) := by
  unfold fdt_Right.f
  have h := count_is ht l.length 0 (by omega) ht.pos
  rw [dOf_zero] at h
  refine Ev.bind h ?_
  by_cases c : cOK l 0
  · simp only [if_pos c, if_true]; exact Ev.now _
  · simp only [if_neg c, Bool.false_eq_true, if_false]; exact Ev.now _
end Go.Proofs.Ytmhlellhfepkkaa.B
/- Plain: a tree's bytes, both ways. -/
namespace Go.Proofs.Ytmhlellhfepkkaa.B
open Go.RowKit Go.Proofs.YtmhlellhfepkkaaW.PrintWords Go.Proofs.YtmhlellhfepkkaaW.PrintLast Go.Proofs.YtmhlellhfepkkaaW.PrintMore Go.Proofs.Ytmhlellhfepkkaa.PAl
set_option linter.unusedVariables false
set_option linter.unusedSimpArgs false
/-! up to the next four -/
def P4 (x : List Int) : List Int := x ++ List.replicate ((4 - x.length % 4) % 4) 0
theorem P4_len (x : List Int) : (P4 x).length % 4 = 0 ∧ (P4 x).length ≤ x.length + 3 := by
  unfold P4; rw [List.length_append, List.length_replicate]; omega
theorem P4_app (t x : List Int) (h : t.length % 4 = 0) : P4 (t ++ x) = t ++ P4 x := by
  unfold P4
  rw [List.length_append, show (t.length + x.length) % 4 = x.length % 4 by omega, List.append_assoc]
theorem pad_go : ∀ (k : Nat) (x : List Int), (4 - x.length % 4) % 4 < k → x.length + k < 140737488355300 → vireoref26_pad.l0 k x = some (P4 x)
  | 0, x, h, hl => by omega
  | k + 1, x, h, hl => by
    simp only [vireoref26_pad.l0]
    by_cases c : ((x.length : Int) % 4) = 0
    · rw [if_pos c]
      unfold P4
      rw [show (4 - x.length % 4) % 4 = 0 by omega]
      simp
    · have hl2 : (x ++ [0]).length = x.length + 1 := by simp
      have hn : (4 - (x.length + 1) % 4) % 4 < k ∧ (4 - x.length % 4) % 4 = (4 - (x.length + 1) % 4) % 4 + 1 := by
        have hc : x.length % 4 = 1 ∨ x.length % 4 = 2 ∨ x.length % 4 = 3 := by omega
        rcases hc with q | q | q
        · rw [show (x.length + 1) % 4 = 2 by omega]; rw [q] at h ⊢; omega
        · rw [show (x.length + 1) % 4 = 3 by omega]; rw [q] at h ⊢; omega
        · rw [show (x.length + 1) % 4 = 0 by omega]; rw [q] at h ⊢; omega
      rw [if_neg c, if_pos (by omega), pad_go k (x ++ [0]) (by rw [hl2]; exact hn.1) (by rw [hl2]; omega)]
      unfold P4
      rw [hl2, hn.2, List.replicate_succ, List.append_assoc]
      rfl
theorem pad_is (x : List Int) (hl : x.length < 140737488355000) : vireoref26_pad.f 5 x = some (P4 x) := pad_go 5 x (by omega) (by omega)
theorem bput_is {t y : List Int} (h : t.length + y.length < 140737488355328) : bput t y = some (t ++ y) := by unfold bput; rw [if_pos h]
/-! names -/
def nameP (all : List ByteArray) (s : ByteArray) : Int × List ByteArray := match posOf all s with | some n => (n, all) | none => (((textsOf all).length : Int), all ++ [s])
theorem bname_is {all : List ByteArray} {s : ByteArray} (h : (textsOf all).length + s.size + 1 < 2147483648) : bname all s = some (nameP all s) := by
  unfold bname nameP; rw [if_pos h]; cases posOf all s <;> rfl
theorem toList_eq (a b : ByteArray) : a.toList = b.toList ↔ a = b := by
  rw [ByteArray.toList_eq, ByteArray.toList_eq]
  constructor
  · intro h
    have : a.data = b.data := Array.toList_inj.1 h
    cases a; cases b; simp_all
  · rintro rfl; rfl
theorem textsOf_app : ∀ a b : List ByteArray, textsOf (a ++ b) = textsOf a ++ textsOf b
  | [], b => rfl
  | x :: a, b => by simp [textsOf, textsOf_app a b]
theorem textsOf_cons_len (x : ByteArray) (l : List ByteArray) : (textsOf (x :: l)).length = x.size + 1 + (textsOf l).length := by
  simp [textsOf, bytesOf_length]; omega
theorem posOf_range : ∀ (l : List ByteArray) (s : ByteArray) (n : Int), posOf l s = some n → 0 ≤ n ∧ n ≤ (textsOf l).length
  | [], s, n, h => by cases h
  | x :: l, s, n, h => by
    rw [textsOf_cons_len]
    simp only [posOf] at h
    split at h
    · cases h; omega
    · obtain ⟨m, hm, rfl⟩ := Option.map_eq_some_iff.1 h
      have := posOf_range l s m hm
      omega
theorem nameP_range (all : List ByteArray) (s : ByteArray) : 0 ≤ (nameP all s).1 ∧ (nameP all s).1 ≤ (textsOf all).length ∧ (textsOf (nameP all s).2).length ≤ (textsOf all).length + s.size + 1 := by
  unfold nameP
  cases h : posOf all s with
  | some n => have := posOf_range all s n h; exact ⟨this.1, this.2, by dsimp only; omega⟩
  | none => exact ⟨by dsimp only; omega, by dsimp only; omega, by dsimp only; rw [textsOf_app, List.length_append, textsOf_cons_len]; simp [textsOf]; omega⟩
theorem names_go (all : List ByteArray) (s : ByteArray) (hl : (textsOf all).length < 1099511627776) : ∀ (suf pre : List ByteArray) (k : Nat), all = pre ++ suf → suf.length < k →
    vireoref26_names.l0 k all s ((textsOf pre).length : Int) (pre.length : Int) = some (match posOf suf s with | some n => (((textsOf pre).length : Int) + n, all) | none => (((textsOf all).length : Int), all ++ [s]))
  | [], pre, 0, h, hk => by omega
  | [], pre, k + 1, h, hk => by
    have h' : all = pre := by simpa using h
    have hll := textsOf_len all
    simp only [vireoref26_names.l0]
    rw [if_neg (by rw [h']; omega), Option.bind_some, if_pos (by simp; omega), Option.bind_some, if_pos (by simp; omega)]
    simp [posOf, h']
  | x :: suf, pre, 0, h, hk => by omega
  | x :: suf, pre, k + 1, h, hk => by
    have hlen : all.length = pre.length + (suf.length + 1) := by rw [h]; simp
    have hll := textsOf_len all
    have hr : rdOf ByteArray.empty all (pre.length : Int) = x := by rw [h]; exact rdOf_mid _ _ _ _
    have ht : (textsOf all).length = (textsOf pre).length + (x.size + 1 + (textsOf suf).length) := by rw [h, textsOf_app, List.length_append, textsOf_cons_len]
    simp only [vireoref26_names.l0]
    rw [if_pos (by omega), if_pos (by omega), hr]
    by_cases c : x = s
    · rw [if_pos ((toList_eq x s).2 c)]
      simp [posOf, c]
    · rw [if_neg (fun q => c ((toList_eq x s).1 q)), w64 (x := ((textsOf pre).length : Int) + (x.size : Int)) (by omega) (by omega), w64 (by omega) (by omega), w64 (by omega) (by omega)]
      have ih := names_go all s hl suf (pre ++ [x]) k (by simp [h]) (by simp at hk; omega)
      have hp : (textsOf (pre ++ [x])).length = (textsOf pre).length + x.size + 1 := by rw [textsOf_app, List.length_append, textsOf_cons_len]; simp [textsOf]; omega
      rw [hp] at ih
      have e1 : ((pre ++ [x]).length : Int) = (pre.length : Int) + 1 := by simp
      have e2 : (((textsOf pre).length + x.size + 1 : Nat) : Int) = ((textsOf pre).length : Int) + (x.size : Int) + 1 := by omega
      rw [e1, e2] at ih
      rw [ih]
      simp only [posOf, if_neg c]
      cases posOf suf s with
      | none => rfl
      | some n =>
        simp only [Option.map_some]
        congr 2
        omega
theorem names_is {all : List ByteArray} (s : ByteArray) (hl : (textsOf all).length < 1099511627776) : vireoref26_names.f (all.length + 2) all s = some (nameP all s) := by
  have h := names_go all s hl all [] (all.length + 2) rfl (by omega)
  unfold vireoref26_names.f nameP
  have e : ((textsOf ([] : List ByteArray)).length : Int) = 0 := rfl
  rw [e] at h
  have e2 : ((([] : List ByteArray)).length : Int) = 0 := rfl
  rw [e2] at h
  rw [h]
  cases posOf all s with
  | none => rfl
  | some n => simp
/-! what is told -/
def epr : List S55 → List ByteArray → List Int × List ByteArray
  | [], all => ([], all)
  | p :: ps, all => (P4 (w32 3 ++ w32 p.f1.length ++ w32 (nameP all p.f0).1 ++ p.f1) ++ (epr ps (nameP all p.f0).2).1, (epr ps (nameP all p.f0).2).2)
def smallP (q : S55) : Prop := q.f1.length ≤ 5000 ∧ q.f0.size ≤ 40
theorem epr_len : ∀ (ps : List S55) (all : List ByteArray), (∀ q ∈ ps, smallP q) → (epr ps all).1.length % 4 = 0 ∧ (epr ps all).1.length ≤ 5080 * ps.length ∧ (textsOf (epr ps all).2).length ≤ (textsOf all).length + 5080 * ps.length
  | [], all, h => ⟨rfl, Nat.zero_le _, by simp [epr]⟩
  | p :: ps, all, h => by
    obtain ⟨h1, h2⟩ := h p List.mem_cons_self
    obtain ⟨i1, i2, i3⟩ := epr_len ps (nameP all p.f0).2 (fun q hq => h q (List.mem_cons_of_mem _ hq))
    have hp := P4_len (w32 3 ++ w32 p.f1.length ++ w32 (nameP all p.f0).1 ++ p.f1)
    have hn := nameP_range all p.f0
    simp only [List.length_append, w32_len] at hp
    simp only [epr, List.length_append, List.length_cons]
    omega
theorem rprops_is : ∀ (ps : List S55) (out : List Int) (all : List ByteArray), (∀ q ∈ ps, smallP q) → out.length % 4 = 0 → out.length + 5080 * ps.length ≤ 1073741824 → (textsOf all).length + 5080 * ps.length ≤ 1073741824 →
    rprops ps out all = some (out ++ (epr ps all).1, (epr ps all).2)
  | [], out, all, h, h4, ho, ha => by simp [rprops, epr]
  | p :: ps, out, all, h, h4, ho, ha => by
    obtain ⟨h1, h2⟩ := h p List.mem_cons_self
    have hn := nameP_range all p.f0
    rw [List.length_cons] at ho ha
    have hp := P4_len (w32 3 ++ w32 p.f1.length ++ w32 (nameP all p.f0).1 ++ p.f1)
    simp only [List.length_append, w32_len] at hp
    have l1 : (out ++ w32 3).length = out.length + 4 := by simp [w32_len]
    have l2 : (out ++ w32 3 ++ w32 p.f1.length).length = out.length + 8 := by simp [w32_len]
    have l3 : (out ++ w32 3 ++ w32 p.f1.length ++ w32 (nameP all p.f0).1).length = out.length + 12 := by simp [w32_len]
    have l4 : (out ++ w32 3 ++ w32 p.f1.length ++ w32 (nameP all p.f0).1 ++ p.f1).length = out.length + 12 + p.f1.length := by simp only [List.length_append, w32_len]
    simp only [rprops]
    rw [if_pos (by omega), names_is p.f0 (by omega), Option.bind_some, wordR_is 3 (by decide) (by decide), Option.bind_some, bput_is (by rw [w32_len]; omega), Option.bind_some, wordR_is _ (by omega) (by omega), Option.bind_some, bput_is (by rw [l1, w32_len]; omega), Option.bind_some, wordR_is _ hn.1 (by omega), Option.bind_some, bput_is (by rw [l2, w32_len]; omega), Option.bind_some, bput_is (by rw [l3]; omega), Option.bind_some, pad_is _ (by rw [l4]; omega), Option.bind_some]
    have e : P4 (out ++ w32 3 ++ w32 p.f1.length ++ w32 (nameP all p.f0).1 ++ p.f1) = out ++ P4 (w32 3 ++ w32 p.f1.length ++ w32 (nameP all p.f0).1 ++ p.f1) := by
      rw [← P4_app _ _ h4]; simp only [List.append_assoc]
    rw [e, rprops_is ps _ _ (fun q hq => h q (List.mem_cons_of_mem _ hq)) (by rw [List.length_append]; omega) (by rw [List.length_append]; omega) (by omega)]
    simp [epr, List.append_assoc]
theorem bprops_is : ∀ (ps : List S55) (out : List Int) (all : List ByteArray), (∀ q ∈ ps, smallP q) → out.length % 4 = 0 → out.length + 5080 * ps.length ≤ 1073741824 → (textsOf all).length + 5080 * ps.length ≤ 1073741824 →
    bprops (ps.map fun q => ⟨q.f0, q.f1⟩) out all = some (out ++ (epr ps all).1, (epr ps all).2)
  | [], out, all, h, h4, ho, ha => by simp [bprops, epr]
  | p :: ps, out, all, h, h4, ho, ha => by
    obtain ⟨h1, h2⟩ := h p List.mem_cons_self
    have hn := nameP_range all p.f0
    rw [List.length_cons] at ho ha
    have hp := P4_len (w32 3 ++ w32 p.f1.length ++ w32 (nameP all p.f0).1 ++ p.f1)
    simp only [List.length_append, w32_len] at hp
    have l1 : (out ++ w32 3).length = out.length + 4 := by simp [w32_len]
    have l2 : (out ++ w32 3 ++ w32 p.f1.length).length = out.length + 8 := by simp [w32_len]
    have l3 : (out ++ w32 3 ++ w32 p.f1.length ++ w32 (nameP all p.f0).1).length = out.length + 12 := by simp [w32_len]
    have l4 : (out ++ w32 3 ++ w32 p.f1.length ++ w32 (nameP all p.f0).1 ++ p.f1).length = out.length + 12 + p.f1.length := by simp only [List.length_append, w32_len]
    rw [List.map_cons]
    simp only [bprops]
    rw [if_pos (by omega), bput_is (by rw [w32_len]; omega), Option.bind_some, bput_is (by rw [l1, w32_len]; omega), Option.bind_some, bname_is (by omega), Option.bind_some, bput_is (by rw [l2, w32_len]; omega), Option.bind_some, bput_is (by rw [l3]; omega), Option.bind_some, pad_is _ (by rw [l4]; omega), Option.bind_some]
    have e : P4 (out ++ w32 3 ++ w32 p.f1.length ++ w32 (nameP all p.f0).1 ++ p.f1) = out ++ P4 (w32 3 ++ w32 p.f1.length ++ w32 (nameP all p.f0).1 ++ p.f1) := by
      rw [← P4_app _ _ h4]; simp only [List.append_assoc]
    rw [e, bprops_is ps _ _ (fun q hq => h q (List.mem_cons_of_mem _ hq)) (by rw [List.length_append]; omega) (by rw [List.length_append]; omega) (by omega)]
    simp [epr, List.append_assoc]
/-! the tree -/
def ekids (F : Nat → List ByteArray → List Int × List ByteArray) : List Nat → List ByteArray → List Int × List ByteArray
  | [], all => ([], all)
  | j :: js, all => ((F j all).1 ++ (ekids F js (F j all).2).1, (ekids F js (F j all).2).2)
def etree : Nat → List S50 → Nat → List ByteArray → List Int × List ByteArray
  | 0, l, i, all => ([], all)
  | d + 1, l, i, all => (P4 (w32 1 ++ bytesOf (pt l i).f1 ++ [0]) ++ (epr (pt l i).f2 all).1 ++ (ekids (etree d l) (kidsOf l i (i + 1)) (epr (pt l i).f2 all).2).1 ++ w32 2, (ekids (etree d l) (kidsOf l i (i + 1)) (epr (pt l i).f2 all).2).2)
def big (i : Nat) : Nat := 1321000
def MM (l : List S50) (i : Nat) : Nat := wOf big l i
theorem kids_is {l : List S50} {d i : Nat} (hl : l.length ≤ 70)
    (ih : ∀ j, i < j → j < l.length → ∀ all, (textsOf all).length + MM l j ≤ 1073741824 → ((etree d l j all).1.length % 4 = 0 ∧ (etree d l j all).1.length ≤ MM l j ∧ (textsOf (etree d l j all).2).length ≤ (textsOf all).length + MM l j) ∧
      Ev (fun k => vireoref26_tree.f k l (j : Int) all) (etree d l j all) ∧ ∀ tr, tr.length % 4 = 0 → tr.length + MM l j ≤ 1073741824 → Ev (fun k => bnode k (nodeOf l j) tr all) (tr ++ (etree d l j all).1, (etree d l j all).2)) :
    ∀ (m f : Nat), m + f = l.length → i < f → ∀ all, (textsOf all).length + ((kidsOf l i f).map (MM l)).sum ≤ 1073741824 →
      ((ekids (etree d l) (kidsOf l i f) all).1.length % 4 = 0 ∧ (ekids (etree d l) (kidsOf l i f) all).1.length ≤ ((kidsOf l i f).map (MM l)).sum ∧ (textsOf (ekids (etree d l) (kidsOf l i f) all).2).length ≤ (textsOf all).length + ((kidsOf l i f).map (MM l)).sum) ∧
      (∀ out, out.length + ((kidsOf l i f).map (MM l)).sum ≤ 1073741824 → Ev (fun k => rkids (fun j a => vireoref26_tree.f k l j a) (i : Int) (l.drop f) (f : Int) out all) (out ++ (ekids (etree d l) (kidsOf l i f) all).1, (ekids (etree d l) (kidsOf l i f) all).2)) ∧
      (∀ tr, tr.length % 4 = 0 → tr.length + ((kidsOf l i f).map (MM l)).sum ≤ 1073741824 → Ev (fun k => bnodes (bnode k) ((kidsOf l i f).map (nodeOf l)) tr all) (tr ++ (ekids (etree d l) (kidsOf l i f) all).1, (ekids (etree d l) (kidsOf l i f) all).2))
  | 0, f, hm, hf, all, ha => by
    rw [kidsOf_end l i (by omega), List.drop_of_length_le (by omega)]
    simp only [ekids, rkids, bnodes, List.map_nil, List.append_nil]
    exact ⟨⟨rfl, Nat.le_refl _, Nat.le_refl _⟩, fun out _ => Ev.now _, fun tr _ _ => Ev.now _⟩
  | m + 1, f, hm, hf, all, ha => by
    have hfl : f < l.length := by omega
    have hdr : l.drop f = pt l f :: l.drop (f + 1) := drop_T50 hfl
    rw [kidsOf_step l i hfl] at ha ⊢
    rw [hdr]
    by_cases c : (pt l f).f0 = (i : Int)
    · rw [if_pos c] at ha ⊢
      simp only [List.map_cons, List.sum_cons] at ha ⊢
      obtain ⟨⟨a1, a2, a3⟩, b1, c1⟩ := ih f hf hfl all (by omega)
      obtain ⟨⟨a4, a5, a6⟩, b2, c2⟩ := kids_is hl ih m (f + 1) (by omega) (by omega) (etree d l f all).2 (by omega)
      simp only [ekids, List.length_append]
      refine ⟨⟨by omega, by omega, by omega⟩, fun out ho => ?_, fun tr h4 ho => ?_⟩
      · have e := b2 (out ++ (etree d l f all).1) (by rw [List.length_append]; omega)
        refine Ev.congr (f := fun k => (vireoref26_tree.f k l (f : Int) all).bind fun q => (bput out q.1).bind fun o => rkids (fun j a => vireoref26_tree.f k l j a) (i : Int) (l.drop (f + 1)) ((f : Int) + 1) o q.2) (fun k => ?_) (Ev.bind b1 ?_)
        · simp only [rkids]; rw [if_pos c]
        · refine Ev.congr (fun k => ?_) (by simpa [List.append_assoc] using e)
          rw [bput_is (by omega), Option.bind_some]
      · have e := c2 (tr ++ (etree d l f all).1) (by rw [List.length_append]; omega) (by rw [List.length_append]; omega)
        refine Ev.congr (f := fun k => (bnode k (nodeOf l f) tr all).bind fun q => bnodes (bnode k) ((kidsOf l i (f + 1)).map (nodeOf l)) q.1 q.2) (fun k => ?_) (Ev.bind (c1 tr h4 (by omega)) ?_)
        · simp only [bnodes]
        · simpa [List.append_assoc] using e
    · rw [if_neg c] at ha ⊢
      obtain ⟨a1, b1, c1⟩ := kids_is hl ih m (f + 1) (by omega) (by omega) all ha
      refine ⟨a1, fun out ho => ?_, c1⟩
      refine Ev.congr (fun k => ?_) (b1 out ho)
      simp only [rkids]
      rw [if_neg c, Int.natCast_succ]
theorem tree_is {l : List S50} (ht : Tried l) : ∀ (d i : Nat), l.length - i ≤ d → i < l.length → ∀ all, (textsOf all).length + MM l i ≤ 1073741824 →
    ((etree d l i all).1.length % 4 = 0 ∧ (etree d l i all).1.length ≤ MM l i ∧ (textsOf (etree d l i all).2).length ≤ (textsOf all).length + MM l i) ∧
      Ev (fun k => vireoref26_tree.f k l (i : Int) all) (etree d l i all) ∧ ∀ tr, tr.length % 4 = 0 → tr.length + MM l i ≤ 1073741824 → Ev (fun k => bnode k (nodeOf l i) tr all) (tr ++ (etree d l i all).1, (etree d l i all).2)
  | 0, i, hd, hi, all, ha => by omega
  | d + 1, i, hd, hi, all, ha => by
    have hl := ht.len
    obtain ⟨_, g1, g2, g3⟩ := ht.good i hi
    have hM : MM l i = 1321000 + ((kidsOf l i (i + 1)).map (MM l)).sum := by unfold MM; rw [wOf_open _ l hi]; rfl
    have hbl : (bytesOf (pt l i).f1).length = (pt l i).f1.size := bytesOf_length _
    have hp := P4_len (w32 1 ++ bytesOf (pt l i).f1 ++ [0])
    simp only [List.length_append, w32_len, List.length_cons, List.length_nil] at hp
    obtain ⟨p1, p2, p3⟩ := epr_len (pt l i).f2 all g3
    obtain ⟨⟨a1, a2, a3⟩, b1, c1⟩ := kids_is (i := i) hl (fun j hj hjl all ha => tree_is ht d j (by omega) hjl all ha) (l.length - (i + 1)) (i + 1) (by omega) (by omega) (epr (pt l i).f2 all).2 (by omega)
    have hkl : (kidsOf l i (i + 1)).length ≤ 70 := by
      unfold kidsOf
      have := List.length_filter_le (fun j => decide ((pt l j).f0 = (i : Int))) (List.range' (i + 1) (l.length - (i + 1)))
      rw [List.length_range'] at this
      omega
    simp only [etree, List.length_append, w32_len]
    refine ⟨⟨by omega, by omega, by omega⟩, ?_, fun tr h4 ho => ?_⟩
    · -- the page's
      have e := b1 (P4 (w32 1 ++ bytesOf (pt l i).f1 ++ [0]) ++ (epr (pt l i).f2 all).1) (by rw [List.length_append]; omega)
      refine Ev.step (f := fun k => (rkids (fun j a => vireoref26_tree.f k l j a) (i : Int) (l.drop (i + 1)) ((i + 1 : Nat) : Int) (P4 (w32 1 ++ bytesOf (pt l i).f1 ++ [0]) ++ (epr (pt l i).f2 all).1) (epr (pt l i).f2 all).2).bind fun z => (vireoref26_Word.f 2).bind fun t2 => (bput z.1 t2).bind fun o => some (o, z.2)) (fun k => ?_) (Ev.bind e ?_)
      · simp only [vireoref26_tree.f]
        rw [if_pos ⟨by omega, by omega, by omega, by rw [rd50]; omega, by rw [rd50]; omega⟩, wordR_is 1 (by decide) (by decide), Option.bind_some, rd50, bput_is (by rw [w32_len]; omega), Option.bind_some, bput_is (by simp only [List.length_append, List.length_cons, List.length_nil, w32_len]; omega), Option.bind_some, pad_is _ (by simp only [List.length_append, List.length_cons, List.length_nil, w32_len]; omega), Option.bind_some, rprops_is _ _ _ g3 (by omega) (by omega) (by omega), Option.bind_some, Int.toNat_natCast, Int.natCast_succ]
      · refine Ev.congr (f := fun _ => some _) (fun k => ?_) (Ev.now _)
        rw [wordR_is 2 (by decide) (by decide), Option.bind_some, bput_is (by simp only [List.length_append, List.length_cons, List.length_nil, w32_len]; omega), Option.bind_some]
    · have hq := P4_app tr (w32 1 ++ bytesOf (pt l i).f1 ++ [0]) h4
      have e := c1 (tr ++ P4 (w32 1 ++ bytesOf (pt l i).f1 ++ [0]) ++ (epr (pt l i).f2 all).1) (by simp only [List.length_append]; omega) (by simp only [List.length_append]; omega)
      rw [nodeOf_open l hi]
      refine Ev.step (f := fun k => (bnodes (bnode k) ((kidsOf l i (i + 1)).map (nodeOf l)) (tr ++ P4 (w32 1 ++ bytesOf (pt l i).f1 ++ [0]) ++ (epr (pt l i).f2 all).1) (epr (pt l i).f2 all).2).bind fun z => (bput z.1 (w32 2)).bind fun t => some (t, z.2)) (fun k => ?_) (Ev.bind e ?_)
      · simp only [bnode]
        have e2 : tr ++ w32 1 ++ (bytesOf (pt l i).f1 ++ [0]) = tr ++ (w32 1 ++ bytesOf (pt l i).f1 ++ [0]) := by simp [List.append_assoc]
        have e3 : bprops (propsOf (pt l i)) (tr ++ P4 (w32 1 ++ bytesOf (pt l i).f1 ++ [0])) all = some (tr ++ P4 (w32 1 ++ bytesOf (pt l i).f1 ++ [0]) ++ (epr (pt l i).f2 all).1, (epr (pt l i).f2 all).2) :=
          bprops_is (pt l i).f2 _ all g3 (by simp only [List.length_append]; omega) (by simp only [List.length_append]; omega) (by omega)
        rw [if_pos ⟨by omega, by simp [propsOf]; omega, by rw [List.length_map]; omega⟩, bput_is (by rw [w32_len]; omega), Option.bind_some, bput_is (by simp only [List.length_append, List.length_cons, List.length_nil, w32_len]; omega), Option.bind_some, e2, pad_is _ (by simp only [List.length_append, List.length_cons, List.length_nil, w32_len]; omega), Option.bind_some, hq, e3, Option.bind_some]
      · refine Ev.congr (f := fun _ => some _) (fun k => ?_) (Ev.now _)
        rw [bput_is (by simp only [List.length_append, List.length_cons, List.length_nil, w32_len]; omega), Option.bind_some]
        simp [List.append_assoc]
end Go.Proofs.Ytmhlellhfepkkaa.B
/- Plain: a list's bytes, both ways. -/
namespace Go.Proofs.Ytmhlellhfepkkaa.B
open Go.RowKit Go.Proofs.YtmhlellhfepkkaaW.PrintWords Go.Proofs.YtmhlellhfepkkaaW.PrintLast Go.Proofs.YtmhlellhfepkkaaW.PrintMore Go.Proofs.Ytmhlellhfepkkaa.PAl
set_option linter.unusedVariables false
set_option linter.unusedSimpArgs false
theorem flat_len4 : ∀ l : List Int, (l.flatMap w32).length = 4 * l.length
  | [] => rfl
  | a :: l => by have := flat_len4 l; simp only [List.flatMap_cons, List.length_append, w32_len, List.length_cons] at this ⊢; omega
theorem cells_exact (l : List Int) (hl : l.length < 35184372088832) : ∀ (suf pre acc : List Int) (k : Nat), suf.length < k → l = pre ++ suf → acc.length = 4 * pre.length → fdt_Cells.l0 k acc l (l.length : Int) (pre.length : Int) = some (acc ++ suf.flatMap w32)
  | suf, pre, acc, 0, hk, h, ha => by omega
  | [], pre, acc, k + 1, hk, h, ha => by
    subst h
    simp only [fdt_Cells.l0]
    rw [if_neg (by simp)]
    simp
  | x :: suf, pre, acc, k + 1, hk, h, ha => by
    have ih := cells_exact l hl suf (pre ++ [x]) (acc ++ w32 x) k (by simp at hk; omega) (by simp [h]) (by simp [ha, w32_len]; omega)
    have hlen : l.length = pre.length + (suf.length + 1) := by rw [h]; simp
    have hr : rd l (pre.length : Int) = x := by rw [h]; exact rd_mid _ _ _
    simp only [fdt_Cells.l0]
    rw [if_pos (by omega), if_pos (by omega), if_pos (by omega), hr, word32_is, Option.bind_some, if_pos (by rw [w32_len]; omega), w64 (by omega) (by omega)]
    have e : ((pre ++ [x]).length : Int) = (pre.length : Int) + 1 := by simp
    rw [e] at ih
    rw [ih]
    simp [List.append_assoc]
/-- The file. -/
def fileOf (tr nm : List Int) : List Int := (headOf tr.length nm.length).flatMap w32 ++ List.replicate 16 0 ++ tr ++ nm
theorem headOf_small (t n : Nat) (ht : t < 1099511627776) (hn : n < 1099511627776) : ∀ x ∈ headOf t n, 0 ≤ x ∧ x < 4611686018427387904 := by
  intro x hx
  simp only [headOf, List.mem_cons, List.not_mem_nil, or_false] at hx
  rcases hx with h | h | h | h | h | h | h | h | h | h <;> omega
theorem MM_small {l : List S50} (ht : Tried l) : MM l 0 ≤ 92470000 := by
  have h := sumTo_const 1321000 l.length
  have e : MM l 0 = sumTo big l.length := sum_all ht big
  have hl := ht.len
  have e2 : sumTo big l.length = sumTo (fun _ => 1321000) l.length := rfl
  rw [e, e2, h]
  omega
/-- The list's tree, told. -/
def treeOf (l : List S50) : List Int := (etree (l.length) l 0 []).1 ++ w32 9
def namesOf (l : List S50) : List Int := textsOf (etree (l.length) l 0 []).2
theorem bytesOK_is {l : List S50} (ht : Tried l) : Ev (fun k => bytesOK k (nodeOf l 0)) (fileOf (treeOf l) (namesOf l)) := by
  have hm := MM_small ht
  obtain ⟨⟨h1, h2, h3⟩, hr, hb⟩ := tree_is ht l.length 0 (by omega) ht.pos [] (by simp [textsOf]; omega)
  have h3' : (namesOf l).length ≤ MM l 0 := by simpa [namesOf, textsOf] using h3
  have ht9 : (treeOf l).length = (etree l.length l 0 []).1.length + 4 := by unfold treeOf; rw [List.length_append, w32_len]
  have e := hb [] rfl (by simp; omega)
  unfold bytesOK
  refine Ev.bind e ?_
  refine Ev.congr (f := fun _ => some (fileOf (treeOf l) (namesOf l))) (fun k => ?_) (Ev.now _)
  have hc := cells_exact (headOf (treeOf l).length (namesOf l).length) (by simp [headOf]) (headOf (treeOf l).length (namesOf l).length) [] [] 11 (by simp [headOf]) rfl rfl
  have hc' : fdt_Cells.f 11 (headOf (treeOf l).length (namesOf l).length) = some ((headOf (treeOf l).length (namesOf l).length).flatMap w32) := hc
  have hfl : ((headOf (treeOf l).length (namesOf l).length).flatMap w32).length = 40 := by rw [flat_len4]; rfl
  have l1 : ((headOf (treeOf l).length (namesOf l).length).flatMap w32 ++ List.replicate 16 0).length = 56 := by rw [List.length_append, hfl]; rfl
  rw [List.nil_append, bput_is (by rw [w32_len]; show (etree l.length l 0 []).1.length + 4 < _; omega), Option.bind_some, if_pos (by
    show (treeOf l).length + (namesOf l).length < _
    omega)]
  show (fdt_Cells.f 11 (headOf (treeOf l).length (namesOf l).length)).bind _ = _
  rw [hc', Option.bind_some, bput_is (by rw [hfl]; simp), Option.bind_some]
  show (bput _ (treeOf l)).bind (fun o2 => bput o2 (namesOf l)) = _
  rw [bput_is (by rw [l1]; omega), Option.bind_some, bput_is (by rw [List.length_append, l1]; omega)]
  rfl
end Go.Proofs.Ytmhlellhfepkkaa.B
/- Plain: the law FdtWrites. -/
namespace Go.Proofs.Ytmhlellhfepkkaa.B
open Go.RowKit Go.Proofs.YtmhlellhfepkkaaW.PrintWords Go.Proofs.YtmhlellhfepkkaaW.PrintLast Go.Proofs.YtmhlellhfepkkaaW.PrintMore Go.Proofs.Ytmhlellhfepkkaa.PAl
set_option linter.unusedVariables false
set_option linter.unusedSimpArgs false
theorem fileOf_len {l : List S50} (ht : Tried l) : (fileOf (treeOf l) (namesOf l)).length < 140737488355328 := by
  have hm := MM_small ht
  obtain ⟨⟨h1, h2, h3⟩, hr, hb⟩ := tree_is ht l.length 0 (by omega) ht.pos [] (by simp [textsOf]; omega)
  have h3' : (namesOf l).length ≤ MM l 0 := by simpa [namesOf, textsOf] using h3
  have ht9 : (treeOf l).length = (etree l.length l 0 []).1.length + 4 := by unfold treeOf; rw [List.length_append, w32_len]
  have hf := flat_len4 (headOf (treeOf l).length (namesOf l).length)
  have hh : (headOf (treeOf l).length (namesOf l).length).length = 10 := rfl
  unfold fileOf
  simp only [List.length_append, List.length_replicate]
  omega
theorem node0_is {l : List S50} (ht : Tried l) : Ev (fun k => vireolaw26_node.f k l 0) ((nodeOf l 0).f0, (nodeOf l 0).f1, (nodeOf l 0).f2) := node_is ht.small l.length 0 (by omega) ht.pos
theorem bytes0_is {l : List S50} (ht : Tried l) : Ev (fun k => fdt_Bytes.f k (nodeOf l 0).f0 (nodeOf l 0).f1 (nodeOf l 0).f2) (if cOK l 0 then (fileOf (treeOf l) (namesOf l), 0) else ([], 250)) := by
  unfold fdt_Bytes.f
  refine Ev.bind (right_is ht) ?_
  by_cases c : cOK l 0
  · rw [if_pos c, if_pos c]
    refine Ev.congr (f := fun k => (bytesOK k (nodeOf l 0)).bind fun b => some (b, 0)) (fun k => ?_) (Ev.bind (bytesOK_is ht) (Ev.now _))
    rw [if_pos rfl, S32_eta]
  · rw [if_neg c, if_neg c]
    refine Ev.congr (f := fun _ => some ([], 250)) (fun k => ?_) (Ev.now _)
    rw [if_neg (by decide)]
end Go.Proofs.Ytmhlellhfepkkaa.B
/- Plain: a part is the same as itself. -/
namespace Go.Proofs.Ytmhlellhfepkkaa.B
open Go.RowKit Go.Proofs.YtmhlellhfepkkaaW.PrintWords Go.Proofs.YtmhlellhfepkkaaW.PrintLast Go.Proofs.YtmhlellhfepkkaaW.PrintMore Go.Proofs.Ytmhlellhfepkkaa.PAl
set_option linter.unusedVariables false
set_option linter.unusedSimpArgs false
/-- No deeper than so. -/
def Shal : Nat → S32 → Prop
  | 0, _ => False
  | d + 1, n => n.f1.length < 1099511627776 ∧ (∀ p ∈ n.f1, p.f1.length < 1099511627776) ∧ n.f2.length < 1099511627776 ∧ ∀ x ∈ n.f2, Shal d x
theorem same_l1 (n : S32) (D : Int) (h1 : 1 ≤ D) (h2 : D < 1099511627776) (hl : n.f2.length < 1099511627776) (hk : ∀ x ∈ n.f2, Ev (fun k => vireolaw26_Same.f k x.f0 x.f1 x.f2 x.f0 x.f1 x.f2 (D - 1)) true) :
    ∀ (suf pre : List S32), n.f2 = pre ++ suf → Ev (fun k => vireolaw26_Same.l1 k D (pre.length : Int) n.f0 n.f1 n.f2 n.f0 n.f1 n.f2) true
  | [], pre, h => by
    have h' : n.f2 = pre := by simpa using h
    refine Ev.step (f := fun _ => some true) (fun k => ?_) (Ev.now _)
    simp only [vireolaw26_Same.l1]
    rw [if_neg (by rw [h']; omega)]
  | x :: suf, pre, h => by
    have ih := same_l1 n D h1 h2 hl hk suf (pre ++ [x]) (by simp [h])
    have hlen : n.f2.length = pre.length + (suf.length + 1) := by rw [h]; simp
    have hr : rd_T32 n.f2 (pre.length : Int) = x := by rw [h]; exact rd32_mid _ _ _
    refine Ev.step (f := fun k => (vireolaw26_Same.f k x.f0 x.f1 x.f2 x.f0 x.f1 x.f2 (D - 1)).bind fun t => if t = true then vireolaw26_Same.l1 k D ((pre ++ [x]).length : Int) n.f0 n.f1 n.f2 n.f0 n.f1 n.f2 else some false) (fun k => ?_) (Ev.bind (hk x (by rw [h]; simp)) (Ev.congr (fun k => by rw [if_pos rfl]) ih))
    simp only [vireolaw26_Same.l1]
    rw [if_pos (by omega), if_pos (by omega), if_pos (by omega), hr, w64 (by omega) (by omega), w64 (by omega) (by omega)]
    simp
theorem same_l0 (n : S32) (D : Int) (hl : n.f1.length < 1099511627776) (hp : ∀ p ∈ n.f1, p.f1.length < 1099511627776) (hend : Ev (fun k => vireolaw26_Same.l1 k D 0 n.f0 n.f1 n.f2 n.f0 n.f1 n.f2) true) :
    ∀ (suf pre : List S74), n.f1 = pre ++ suf → Ev (fun k => vireolaw26_Same.l0 k D (pre.length : Int) n.f0 n.f1 n.f2 n.f0 n.f1 n.f2) true
  | [], pre, h => by
    have h' : n.f1 = pre := by simpa using h
    refine Ev.step (f := fun k => vireolaw26_Same.l1 k D 0 n.f0 n.f1 n.f2 n.f0 n.f1 n.f2) (fun k => ?_) hend
    simp only [vireolaw26_Same.l0]
    rw [if_neg (by rw [h']; omega)]
  | x :: suf, pre, h => by
    have ih := same_l0 n D hl hp hend suf (pre ++ [x]) (by simp [h])
    have hlen : n.f1.length = pre.length + (suf.length + 1) := by rw [h]; simp
    have hr : rd_T74 n.f1 (pre.length : Int) = x := by rw [h]; exact rd74_mid _ _ _
    have hx := hp x (by rw [h]; simp)
    have hb := bytes_is x.f1 x.f1 (by omega)
    refine Ev.step (f := fun k => (vireoref02_Bytes.f k x.f1 x.f1).bind fun t => if t = true then vireolaw26_Same.l0 k D ((pre ++ [x]).length : Int) n.f0 n.f1 n.f2 n.f0 n.f1 n.f2 else some false) (fun k => ?_) (Ev.bind hb (Ev.congr (fun k => by rw [if_pos (by simp)]) ih))
    simp only [vireolaw26_Same.l0]
    rw [if_pos (by omega), if_pos (by omega), if_pos (by omega), hr, if_pos trivial, w64 (by omega) (by omega)]
    simp
theorem same_refl : ∀ (d : Nat) (n : S32) (D : Int), Shal d n → (d : Int) ≤ D → D < 1099511627776 → Ev (fun k => vireolaw26_Same.f k n.f0 n.f1 n.f2 n.f0 n.f1 n.f2 D) true
  | 0, n, D, h, h1, h2 => h.elim
  | d + 1, n, D, h, h1, h2 => by
    obtain ⟨g1, g2, g3, g4⟩ := h
    have e1 := same_l1 n D (by omega) h2 g3 (fun x hx => same_refl d x (D - 1) (g4 x hx) (by omega) (by omega)) n.f2 [] rfl
    have e0 := same_l0 n D g1 g2 e1 n.f1 [] rfl
    refine Ev.step (f := fun k => vireolaw26_Same.j0 k D ((n.f2.length : Int) != (n.f2.length : Int)) n.f0 n.f1 n.f2 n.f0 n.f1 n.f2) (fun k => ?_) (Ev.step (f := fun k => vireolaw26_Same.l0 k D 0 n.f0 n.f1 n.f2 n.f0 n.f1 n.f2) (fun k => ?_) e0)
    · simp only [vireolaw26_Same.f]
      rw [if_neg (by omega), if_pos trivial, if_pos trivial]
    · simp only [vireolaw26_Same.j0]
      rw [if_neg (by simp)]
theorem shal_of {l : List S50} (ht : Tried l) : ∀ (d i : Nat), l.length - i ≤ d → i < l.length → Shal d (nodeOf l i)
  | 0, i, hd, hi => by omega
  | d + 1, i, hd, hi => by
    obtain ⟨_, _, g2, g3⟩ := ht.good i hi
    rw [nodeOf_open l hi]
    have hl := ht.len
    refine ⟨by simp only [propsOf, List.length_map]; omega, fun p hp => ?_, ?_, fun x hx => ?_⟩
    · obtain ⟨q, hq, rfl⟩ := List.mem_map.1 hp
      have := (g3 q hq).1
      dsimp only
      omega
    · simp only [List.length_map]
      unfold kidsOf
      have := List.length_filter_le (fun j => decide ((pt l j).f0 = (i : Int))) (List.range' (i + 1) (l.length - (i + 1)))
      rw [List.length_range'] at this
      omega
    · obtain ⟨j, hj, rfl⟩ := List.mem_map.1 hx
      have := kidsOf_mem hj
      exact shal_of ht d j (by omega) this.2.1
end Go.Proofs.Ytmhlellhfepkkaa.B
/- Plain: reading comes to an end. -/
namespace Go.Proofs.Ytmhlellhfepkkaa.B
open Go.RowKit Go.Proofs.YtmhlellhfepkkaaW.PrintWords Go.Proofs.YtmhlellhfepkkaaW.PrintLast Go.Proofs.YtmhlellhfepkkaaW.PrintMore Go.Proofs.Ytmhlellhfepkkaa.PAl
set_option linter.unusedVariables false
set_option linter.unusedSimpArgs false
/-- A text, up to a 0. -/
def tRes (l : List Int) (i : Nat) : List Int → ByteArray × Bool
  | [] => (⟨#[]⟩, false)
  | x :: xs => if x = 0 then (strOfNums (l.take i), true) else tRes l (i + 1) xs
theorem text_loop (l : List Int) (hl : l.length < 1099511627776) : ∀ (suf pre : List Int), l = pre ++ suf → Ev (fun k => fdt_text.l0 k l l (l.length : Int) (pre.length : Int)) (tRes l pre.length suf)
  | [], pre, h => by
    have h' : l = pre := by simpa using h
    refine Ev.step (f := fun _ => some (⟨#[]⟩, false)) (fun k => ?_) (Ev.now _)
    simp only [fdt_text.l0]
    rw [if_neg (by rw [h']; omega)]
  | x :: suf, pre, h => by
    have ih := text_loop l hl suf (pre ++ [x]) (by simp [h])
    have hlen : l.length = pre.length + (suf.length + 1) := by rw [h]; simp
    have hr : rd l (pre.length : Int) = x := by rw [h]; exact rd_mid _ _ _
    by_cases c : x = 0
    · refine Ev.step (f := fun _ => some (strOfNums (l.take pre.length), true)) (fun k => ?_) (Ev.congr (fun k => by simp only [tRes]; rw [if_pos c]) (Ev.now (tRes l pre.length (x :: suf))))
      simp only [fdt_text.l0]
      rw [if_pos (by omega), if_pos (by omega), if_pos (by omega), hr, if_pos c, if_pos (by omega), Int.toNat_natCast]
    · refine Ev.step (f := fun k => fdt_text.l0 k l l (l.length : Int) ((pre ++ [x]).length : Int)) (fun k => ?_) (by simp only [tRes]; rw [if_neg c]; simpa using ih)
      simp only [fdt_text.l0]
      rw [if_pos (by omega), if_pos (by omega), if_pos (by omega), hr, if_neg c, w64 (by omega) (by omega)]
      simp
theorem text_is (l : List Int) (hl : l.length < 1099511627776) : Ev (fun k => fdt_text.f k l) (tRes l 0 l) := text_loop l hl l [] rfl
theorem tRes_size (l : List Int) : ∀ (suf : List Int) (i : Nat), i + suf.length ≤ l.length → (tRes l i suf).1.size ≤ l.length
  | [], i, h => Nat.zero_le _
  | x :: xs, i, h => by
    simp only [tRes]
    split
    · dsimp only; rw [strOfNums_size, List.length_take]; omega
    · exact tRes_size l xs (i + 1) (by simp only [List.length_cons] at h; omega)
/-- No deeper than so, nothing longer than so. -/
def Fine : Nat → S32 → Prop
  | 0, _ => False
  | d + 1, n => n.f0.size ≤ 5000 ∧ n.f1.length ≤ 5000 ∧ (∀ p ∈ n.f1, p.f0.size ≤ 5000 ∧ p.f1.length ≤ 5000) ∧ n.f2.length ≤ 5000 ∧ ∀ x ∈ n.f2, Fine d x
/-- How many parts and things told. -/
def items : Nat → S32 → Nat
  | 0, _ => 0
  | d + 1, n => 1 + n.f1.length + (n.f2.map (items d)).sum
theorem items_mk {dep : Int} (h0 : 0 ≤ dep) (h8 : dep ≤ 9) (name : ByteArray) (ps : List S74) (ks : List S32) : items (10 - dep).toNat ⟨name, ps, ks⟩ = 1 + ps.length + (ks.map (items (9 - dep).toNat)).sum := by
  rw [show (10 - dep).toNat = (9 - dep).toNat + 1 by omega]; rfl
theorem fine_nil (d : Nat) : Fine (d + 1) nilN := ⟨Nat.zero_le _, Nat.zero_le _, (fun p h => by cases h), Nat.zero_le _, (fun x h => by cases h)⟩
theorem rprop_ends (t nm : List Int) (bad : Bool) (hn : nm.length ≤ 4000) (ht : t.length ≤ 4000) : ∃ r, Ev (fun k => rprop k t nm bad) r ∧ r.1.size ≤ 5000 ∧ r.2.1.length ≤ 5000 ∧ r.2.2.1.length ≤ t.length := by
  have h1 := rw4_len t
  have h2 := rw4_len (rw4 t)
  unfold rprop
  split
  · exact ⟨_, Ev.now _, Nat.zero_le _, Nat.zero_le _, by dsimp only; omega⟩
  · have hd : (nm.drop (wv (rw4 t)).toNat).length ≤ nm.length := by rw [List.length_drop]; omega
    have hx := text_is (nm.drop (wv (rw4 t)).toNat) (by omega)
    refine ⟨_, Ev.bind hx (Ev.now _), ?_, ?_, ?_⟩
    · have := tRes_size (nm.drop (wv (rw4 t)).toNat) (nm.drop (wv (rw4 t)).toNat) 0 (by omega)
      dsimp only; omega
    · dsimp only
      unfold tgot
      split
      · exact Nat.zero_le _
      · rw [List.length_take]; omega
    · have := trest_len (rw4 (rw4 t)) (wv t)
      dsimp only; omega
def NodeEnds (nm t : List Int) : Prop := ∀ (dep : Int) (bad : Bool) (left : Int), 0 ≤ dep → dep ≤ 9 → 0 ≤ left → left ≤ 64 →
  ∃ r : S32 × List Int × Bool × Int, Ev (fun k => rnode k nm dep t bad left) r ∧ r.2.1.length ≤ t.length ∧ (r.2.2.1 = false → 0 ≤ r.2.2.2) ∧ r.2.2.2 ≤ 64 ∧ Fine (10 - dep).toNat r.1 ∧ items (10 - dep).toNat r.1 + r.2.1.length ≤ 1 + t.length
def LoopEnds (nm t : List Int) : Prop := ∀ (dep : Int) (bad : Bool) (left : Int) (name : ByteArray) (ps : List S74) (ks : List S32), 0 ≤ dep → dep ≤ 8 → (bad = false → 0 ≤ left) → left ≤ 64 → name.size ≤ 5000 → ps.length + t.length ≤ 5000 → ks.length + t.length ≤ 5000 →
  (∀ p ∈ ps, p.f0.size ≤ 5000 ∧ p.f1.length ≤ 5000) → (∀ x ∈ ks, Fine (9 - dep).toNat x) →
  ∃ r : S32 × List Int × Bool × Int, Ev (fun k => rloop k nm dep t bad left name ps ks) r ∧ r.2.1.length ≤ t.length ∧ (r.2.2.1 = false → 0 ≤ r.2.2.2) ∧ r.2.2.2 ≤ 64 ∧ Fine (10 - dep).toNat r.1 ∧ items (10 - dep).toNat r.1 + r.2.1.length ≤ 1 + ps.length + (ks.map (items (9 - dep).toNat)).sum + t.length
theorem fine_mk {dep : Int} (h0 : 0 ≤ dep) (h8 : dep ≤ 8) {name : ByteArray} {ps : List S74} {ks : List S32} (hn : name.size ≤ 5000) (hp : ps.length ≤ 5000) (hk : ks.length ≤ 5000) (h1 : ∀ p ∈ ps, p.f0.size ≤ 5000 ∧ p.f1.length ≤ 5000) (h2 : ∀ x ∈ ks, Fine (9 - dep).toNat x) : Fine (10 - dep).toNat ⟨name, ps, ks⟩ := by
  rw [show (10 - dep).toNat = (9 - dep).toNat + 1 by omega]
  exact ⟨hn, hp, h1, hk, h2⟩
theorem loop_bad (nm t : List Int) {dep left : Int} (name : ByteArray) (ps : List S74) (ks : List S32) : Ev (fun k => rloop k nm dep t true left name ps ks) (⟨name, ps, ks⟩, t, true, left) :=
  Ev.step (f := fun _ => some (⟨name, ps, ks⟩, t, true, left)) (fun k => by rw [rloop.eq_2, if_pos rfl]) (Ev.now _)
theorem read_ends (nm : List Int) (hnm : nm.length ≤ 4000) : ∀ (m : Nat) (t : List Int), t.length ≤ m → t.length ≤ 4000 → LoopEnds nm t ∧ NodeEnds nm t := by
    intro m
    induction m using Nat.strongRecOn with
    | ind m ih =>
    have hB : ∀ t : List Int, t.length ≤ m → t.length ≤ 4000 → LoopEnds nm t := by
      intro t hm ht dep bad left name ps ks d0 d8 hb hl hn hps hks h1 h2
      cases bad with
      | true => exact ⟨_, loop_bad nm t name ps ks, Nat.le_refl _, (fun h => by cases h), hl, fine_mk d0 d8 hn (by omega) (by omega) h1 h2, by rw [items_mk d0 (by omega)]; dsimp only; omega⟩
      | false =>
        by_cases c4 : t.length < 4
        · have e1 : wv t = 0 := if_pos c4
          have e2 : rw4 t = t := if_pos c4
          have e3 : rbad t false = true := if_pos c4
          refine ⟨_, Ev.step (f := fun k => rloop k nm dep t true left name ps ks) (fun k => ?_) (loop_bad nm t name ps ks), Nat.le_refl _, (fun h => by cases h), hl, fine_mk d0 d8 hn (by omega) (by omega) h1 h2, by rw [items_mk d0 (by omega)]; dsimp only; omega⟩
          rw [rloop.eq_2, if_neg (by decide), e1, if_neg (by decide), if_neg (by decide), if_neg (by decide), e2]
        · have e2 : rw4 t = t.drop 4 := if_neg c4
          have e3 : rbad t false = false := if_neg c4
          have hl4 : (rw4 t).length = t.length - 4 := by rw [e2, List.length_drop]
          by_cases v3 : wv t = 3
          · obtain ⟨q, hq, q1, q2, q3⟩ := rprop_ends (rw4 t) nm false hnm (by omega)
            obtain ⟨iB, _⟩ := ih (m - 4) (by omega) q.2.2.1 (by omega) (by omega)
            obtain ⟨r, hr, r1, r2, r3, r4, r5⟩ := iB dep q.2.2.2 left name (ps ++ [⟨q.1, q.2.1⟩]) ks d0 d8 (fun _ => hb rfl) hl hn (by rw [List.length_append]; simp only [List.length_cons, List.length_nil]; omega) (by omega) (fun p hp => by
              rcases List.mem_append.1 hp with hp | hp
              · exact h1 p hp
              · have : p = ⟨q.1, q.2.1⟩ := by simpa using hp
                rw [this]; exact ⟨q1, q2⟩) h2
            refine ⟨r, Ev.step (f := fun k => (rprop k (rw4 t) nm false).bind fun q => if ps.length < 1099511627776 then rloop k nm dep q.2.2.1 q.2.2.2 left name (ps ++ [⟨q.1, q.2.1⟩]) ks else none) (fun k => ?_) (Ev.bind hq (Ev.congr (fun k => by rw [if_pos (by omega)]) hr)), by omega, r2, r3, r4, by rw [List.length_append] at r5; simp only [List.length_cons, List.length_nil] at r5; omega⟩
            rw [rloop.eq_2, if_neg (by decide), if_pos v3, e3]
          · by_cases v1 : wv t = 1
            · obtain ⟨_, iA⟩ := ih (m - 4) (by omega) (rw4 t) (by omega) (by omega)
              obtain ⟨q, hq, q1, q2, q3, q4, q5⟩ := iA (dep + 1) false left (by omega) (by omega) (hb rfl) hl
              obtain ⟨iB, _⟩ := ih (m - 4) (by omega) q.2.1 (by omega) (by omega)
              obtain ⟨r, hr, r1, r2, r3, r4, r5⟩ := iB dep q.2.2.1 q.2.2.2 name ps (ks ++ [q.1]) d0 d8 q2 q3 hn (by omega) (by rw [List.length_append]; simp only [List.length_cons, List.length_nil]; omega) h1 (fun x hx => by
                rcases List.mem_append.1 hx with hx | hx
                · exact h2 x hx
                · have : x = q.1 := by simpa using hx
                  rw [this, show (9 - dep).toNat = (10 - (dep + 1)).toNat by omega]; exact q4)
              refine ⟨r, Ev.step (f := fun k => (rnode k nm (dep + 1) (rw4 t) false left).bind fun q => if ks.length < 1099511627776 then rloop k nm dep q.2.1 q.2.2.1 q.2.2.2 name ps (ks ++ [q.1]) else none) (fun k => ?_) (Ev.bind hq (Ev.congr (fun k => by rw [if_pos (by omega)]) hr)), by omega, r2, r3, r4, by rw [List.map_append, List.sum_append] at r5; simp only [List.map_cons, List.map_nil, List.sum_cons, List.sum_nil] at r5; rw [show (10 - (dep + 1)).toNat = (9 - dep).toNat by omega] at q5; omega⟩
              rw [rloop.eq_2, if_neg (by decide), if_neg v3, if_pos v1, e3]
            · by_cases v2 : wv t = 2
              · refine ⟨_, Ev.step (f := fun _ => some (⟨name, ps, ks⟩, rw4 t, false, left)) (fun k => ?_) (Ev.now _), by dsimp only; omega, fun _ => hb rfl, hl, fine_mk d0 d8 hn (by omega) (by omega) h1 h2, by rw [items_mk d0 (by omega)]; dsimp only; omega⟩
                rw [rloop.eq_2, if_neg (by decide), if_neg v3, if_neg v1, if_pos v2, e3]
              · refine ⟨_, Ev.step (f := fun k => rloop k nm dep (rw4 t) true left name ps ks) (fun k => ?_) (loop_bad nm (rw4 t) name ps ks), by dsimp only; omega, (fun h => by cases h), hl, fine_mk d0 d8 hn (by omega) (by omega) h1 h2, by rw [items_mk d0 (by omega)]; dsimp only; omega⟩
                rw [rloop.eq_2, if_neg (by decide), if_neg v3, if_neg v1, if_neg v2]
    intro t hm ht
    refine ⟨hB t hm ht, ?_⟩
    intro dep bad left d0 d9 l0 l64
    have hx := text_is t (by omega)
    have hsz := tRes_size t t 0 (by omega)
    by_cases cb : (tRes t 0 t).2 = false ∨ 8 < dep ∨ left - 1 < 0
    · refine ⟨(nilN, t, true, left - 1), Ev.step (f := fun k => (fdt_text.f k t).bind fun q => if q.2 = false ∨ 8 < dep ∨ left - 1 < 0 then some (nilN, t, true, left - 1) else if q.1.size < 1000000000000 then rloop k nm dep (trest t ((q.1.size : Int) + 1)) (tbad t ((q.1.size : Int) + 1) bad) (left - 1) q.1 [] [] else none) (fun k => ?_) (Ev.bind hx (Ev.congr (fun k => by rw [if_pos cb]) (Ev.now _))), Nat.le_refl _, (fun h => by cases h), by dsimp only; omega, ?_, ?_⟩
      · rw [rnode.eq_2, if_pos ⟨by omega, by omega, by omega, by omega⟩]
      · rw [show (10 - dep).toNat = (9 - dep).toNat + 1 by omega]; exact fine_nil _
      · unfold nilN; rw [items_mk d0 d9]; simp
    · have ht2 := trest_len t (((tRes t 0 t).1.size : Int) + 1)
      obtain ⟨r, hr, r1, r2, r3, r4, r5⟩ := hB (trest t (((tRes t 0 t).1.size : Int) + 1)) (by omega) (by omega) dep (tbad t (((tRes t 0 t).1.size : Int) + 1) bad) (left - 1) (tRes t 0 t).1 [] [] d0 (by omega) (fun _ => by omega) (by omega) (by omega) (by simp only [List.length_nil]; omega) (by simp only [List.length_nil]; omega) (fun p h => by cases h) (fun x h => by cases h)
      refine ⟨r, Ev.step (f := fun k => (fdt_text.f k t).bind fun q => if q.2 = false ∨ 8 < dep ∨ left - 1 < 0 then some (nilN, t, true, left - 1) else if q.1.size < 1000000000000 then rloop k nm dep (trest t ((q.1.size : Int) + 1)) (tbad t ((q.1.size : Int) + 1) bad) (left - 1) q.1 [] [] else none) (fun k => ?_) (Ev.bind hx (Ev.congr (fun k => by rw [if_neg cb, if_pos (by omega)]) hr)), by omega, r2, r3, r4, by simp only [List.length_nil, List.map_nil, List.sum_nil] at r5; omega⟩
      rw [rnode.eq_2, if_pos ⟨by omega, by omega, by omega, by omega⟩]
end Go.Proofs.Ytmhlellhfepkkaa.B
/- Plain: a tree is read from its own bytes. -/
namespace Go.Proofs.Ytmhlellhfepkkaa.B
open Go.RowKit Go.Proofs.YtmhlellhfepkkaaW.PrintWords Go.Proofs.YtmhlellhfepkkaaW.PrintLast Go.Proofs.YtmhlellhfepkkaaW.PrintMore Go.Proofs.Ytmhlellhfepkkaa.PAl
set_option linter.unusedVariables false
set_option linter.unusedSimpArgs false
/-! words, read -/
theorem or_add {m A b : Nat} (hb : b < 2 ^ m) (h : 2 ^ m * A + b < 4294967296) : bits .or .u32 ((2 ^ m * A : Nat) : Int) (b : Int) = ((2 ^ m * A + b : Nat) : Int) := by
  have h1 : 2 ^ m * A < 4294967296 := Nat.lt_of_le_of_lt (Nat.le_add_right _ _) h
  have h2 : b < 4294967296 := Nat.lt_of_le_of_lt (Nat.le_add_left _ _) h
  rw [u32_or_nat _ _ h1 h2, Nat.two_pow_add_eq_or_of_lt hb]
theorem wv_w32 (x : Int) (h0 : 0 ≤ x) (h1 : x < 4294967296) (r : List Int) : wv (w32 x ++ r) = x := by
  obtain ⟨n, rfl⟩ : ∃ n : Nat, x = (n : Int) := ⟨x.toNat, by omega⟩
  have e : wv (w32 (n : Int) ++ r) = bits .or .u32 (bits .or .u32 (bits .or .u32 ((n : Int) / 16777216 % 256 % 4294967296 * 16777216 % 4294967296) ((n : Int) / 65536 % 256 % 4294967296 * 65536 % 4294967296)) ((n : Int) / 256 % 256 % 4294967296 * 256 % 4294967296)) ((n : Int) % 256 % 4294967296) := if_neg (by simp [w32])
  have a1 : (n : Int) / 16777216 % 256 % 4294967296 * 16777216 % 4294967296 = ((2 ^ 24 * (n / 16777216) : Nat) : Int) := by omega
  have a2 : (n : Int) / 65536 % 256 % 4294967296 * 65536 % 4294967296 = ((n / 65536 % 256 * 65536 : Nat) : Int) := by omega
  have a3 : (n : Int) / 256 % 256 % 4294967296 * 256 % 4294967296 = ((n / 256 % 256 * 256 : Nat) : Int) := by omega
  have a4 : (n : Int) % 256 % 4294967296 = ((n % 256 : Nat) : Int) := by omega
  have b1 : 2 ^ 24 * (n / 16777216) + n / 65536 % 256 * 65536 = 2 ^ 16 * (n / 65536) := by omega
  have b2 : 2 ^ 16 * (n / 65536) + n / 256 % 256 * 256 = 2 ^ 8 * (n / 256) := by omega
  have b3 : 2 ^ 8 * (n / 256) + n % 256 = n := by omega
  rw [e, a1, a2, a3, a4, or_add (m := 24) (by omega) (by omega), b1, or_add (m := 16) (by omega) (by omega), b2, or_add (m := 8) (by omega) (by omega), b3]
theorem rw4_w32 (x : Int) (r : List Int) : rw4 (w32 x ++ r) = r := if_neg (by simp [w32])
theorem rbad_w32 (x : Int) (r : List Int) (b : Bool) : rbad (w32 x ++ r) b = b := if_neg (by simp [w32])
theorem rhead_flat : ∀ (h r : List Int), (∀ x ∈ h, 0 ≤ x ∧ x < 4294967296) → rhead h.length (h.flatMap w32 ++ r) false = (h, r, false)
  | [], r, hz => rfl
  | x :: h, r, hz => by
    have hx := hz x List.mem_cons_self
    have ih := rhead_flat h r (fun y hy => hz y (List.mem_cons_of_mem _ hy))
    rw [List.flatMap_cons, List.append_assoc, List.length_cons]
    simp only [rhead]
    rw [wv_w32 x hx.1 hx.2, rw4_w32, rbad_w32, ih]
/-! texts, read -/
theorem tRes_go (l rest : List Int) : ∀ (suf pre : List Int), l = pre ++ (suf ++ 0 :: rest) → (∀ x ∈ suf, x ≠ 0) → tRes l pre.length (suf ++ 0 :: rest) = (strOfNums (pre ++ suf), true)
  | [], pre, h, hz => by
    simp only [List.nil_append, tRes, List.append_nil]
    rw [if_pos trivial, h, List.take_left' rfl]
  | x :: suf, pre, h, hz => by
    have ih := tRes_go l rest suf (pre ++ [x]) (by simp [h]) (fun y hy => hz y (List.mem_cons_of_mem _ hy))
    simp only [List.cons_append, tRes]
    rw [if_neg (hz x List.mem_cons_self)]
    simpa using ih
theorem strOf_bytesOf (s : ByteArray) : strOfNums (bytesOf s) = s := by
  have e : (strOfNums (bytesOf s)).data = s.data := by
    apply Array.toList_inj.1
    rw [strOfNums_data]
    unfold bytesOf
    rw [List.map_map]
    conv => rhs; rw [← List.map_id s.data.toList]
    refine List.map_congr_left fun x _ => ?_
    simp
  revert e
  cases strOfNums (bytesOf s); cases s
  rintro rfl
  rfl
theorem okB_ne {b : List Int} (h : b.all okB = true) : ∀ x ∈ b, x ≠ 0 := by
  intro x hx
  have := List.all_eq_true.1 h x hx
  unfold okB at this
  simp only [Bool.and_eq_true, decide_eq_true_eq] at this
  omega
theorem nmOK_all {s : ByteArray} {e : Bool} (h : nmOK s e = true) : (bytesOf s).all okB = true := by
  unfold nmOK at h
  split at h
  · rename_i h0
    have : bytesOf s = [] := List.length_eq_zero_iff.1 (by rw [bytesOf_length, h0])
    rw [this]; rfl
  · exact (Bool.and_eq_true _ _ ▸ h).2
theorem text_name {s : ByteArray} {rest : List Int} (h : (bytesOf s).all okB = true) (hl : (bytesOf s ++ 0 :: rest).length < 1099511627776) : Ev (fun k => fdt_text.f k (bytesOf s ++ 0 :: rest)) (s, true) := by
  have e := text_is _ hl
  have g := tRes_go (bytesOf s ++ 0 :: rest) rest (bytesOf s) [] rfl (okB_ne h)
  rw [List.nil_append, strOf_bytesOf] at g
  rw [show (0 : Nat) = ([] : List Int).length from rfl, g] at e
  exact e
/-! where names stand -/
theorem posOf_at : ∀ (l : List ByteArray) (s : ByteArray) (n : Int), posOf l s = some n → ∃ rest, (textsOf l).drop n.toNat = bytesOf s ++ 0 :: rest
  | [], s, n, h => by cases h
  | x :: l, s, n, h => by
    simp only [posOf] at h
    split at h
    · rename_i e
      cases h
      exact ⟨textsOf l, by rw [e]; rfl⟩
    · obtain ⟨m, hm, rfl⟩ := Option.map_eq_some_iff.1 h
      obtain ⟨rest, hr⟩ := posOf_at l s m hm
      have := (posOf_range l s m hm).1
      refine ⟨rest, ?_⟩
      have e : (m + (x.size : Int) + 1).toNat = (bytesOf x ++ [0]).length + m.toNat := by rw [List.length_append, bytesOf_length]; simp; omega
      have e2 : textsOf (x :: l) = (bytesOf x ++ [0]) ++ textsOf l := by simp [textsOf]
      rw [e, e2, ← List.drop_drop, List.drop_left' rfl, hr]
theorem nameP_at {all F : List ByteArray} {s : ByteArray} (h : (nameP all s).2 <+: F) : (nameP all s).1 < (textsOf F).length ∧ ∃ rest, (textsOf F).drop (nameP all s).1.toNat = bytesOf s ++ 0 :: rest := by
  have key : ∃ rest, (textsOf F).drop (nameP all s).1.toNat = bytesOf s ++ 0 :: rest := by
    obtain ⟨more, rfl⟩ := h
    unfold nameP
    cases hp : posOf all s with
    | some n =>
      dsimp only
      obtain ⟨rest, hr⟩ := posOf_at all s n hp
      have hn := posOf_range all s n hp
      refine ⟨rest ++ textsOf more, ?_⟩
      rw [textsOf_app, List.drop_append_of_le_length (by omega), hr, List.append_assoc, List.cons_append]
    | none =>
      dsimp only
      refine ⟨textsOf more, ?_⟩
      rw [textsOf_app, textsOf_app, List.append_assoc, Int.toNat_natCast, List.drop_left' rfl]
      simp [textsOf]
  refine ⟨?_, key⟩
  obtain ⟨rest, hr⟩ := key
  have := congrArg List.length hr
  rw [List.length_drop, List.length_append, List.length_cons] at this
  omega
theorem nameP_pre (all : List ByteArray) (s : ByteArray) : all <+: (nameP all s).2 := by
  unfold nameP
  cases posOf all s with
  | some n => exact List.prefix_refl _
  | none => exact List.prefix_append _ _
theorem epr_pre : ∀ (ps : List S55) (all : List ByteArray), all <+: (epr ps all).2
  | [], all => List.prefix_refl _
  | p :: ps, all => (nameP_pre all p.f0).trans (epr_pre ps _)
theorem ekids_pre {F : Nat → List ByteArray → List Int × List ByteArray} (h : ∀ j all, all <+: (F j all).2) : ∀ (js : List Nat) (all : List ByteArray), all <+: (ekids F js all).2
  | [], all => List.prefix_refl _
  | j :: js, all => (h j all).trans (ekids_pre h js _)
theorem etree_pre (l : List S50) : ∀ (d i : Nat) (all : List ByteArray), all <+: (etree d l i all).2
  | 0, i, all => List.prefix_refl _
  | d + 1, i, all => (epr_pre (pt l i).f2 all).trans (ekids_pre (etree_pre l d) _ _)
/-! what is told -/
theorem trest_is (x z r : List Int) (h : z.length = (4 - x.length % 4) % 4) : trest (x ++ (z ++ r)) (x.length : Int) = r := by
  unfold trest
  have hl : (x ++ (z ++ r)).length = x.length + (z.length + r.length) := by simp
  rw [if_neg (by omega), Int.toNat_natCast, show min ((x.length + 3) / 4 * 4) (x ++ (z ++ r)).length = (x ++ z).length by rw [hl, List.length_append]; omega, ← List.append_assoc, List.drop_left' rfl]
theorem tbad_is (x r : List Int) (b : Bool) : tbad (x ++ r) (x.length : Int) b = b := if_neg (by rw [List.length_append]; omega)
theorem tgot_is (x r : List Int) : tgot (x ++ r) (x.length : Int) = x := by
  unfold tgot
  rw [if_neg (by rw [List.length_append]; omega), Int.toNat_natCast, List.take_left' rfl]
theorem prop_back {F : List ByteArray} (hF : (textsOf F).length ≤ 1073741824) {p : S55} (h2 : okProp p = true) {all : List ByteArray} (hp : (nameP all p.f0).2 <+: F) {z r : List Int} (hz : z.length = (4 - p.f1.length % 4) % 4) :
    Ev (fun k => rprop k (w32 p.f1.length ++ (w32 (nameP all p.f0).1 ++ (p.f1 ++ (z ++ r)))) (textsOf F) false) (p.f0, p.f1, r, false) := by
  unfold okProp at h2
  rw [Bool.and_eq_true, decide_eq_true_eq] at h2
  obtain ⟨g1, rest, g2⟩ := nameP_at hp
  have hn := nameP_range all p.f0
  unfold rprop
  have hc : ¬ (4096 < (p.f1.length : Int) ∨ ((textsOf F).length : Int) ≤ (nameP all p.f0).1) := by omega
  rw [wv_w32 (p.f1.length : Int) (by omega) (by omega), rw4_w32, wv_w32 _ hn.1 (by omega), rw4_w32, rbad_w32, rbad_w32, tgot_is, trest_is _ _ _ hz]
  refine Ev.congr (fun k => if_neg hc) ?_
  rw [g2]
  have hl := congrArg List.length g2
  rw [List.length_drop] at hl
  refine Ev.bind (text_name (nmOK_all h2.1) (by omega)) ?_
  refine Ev.congr (f := fun _ => some (p.f0, p.f1, r, false)) (fun k => ?_) (Ev.now _)
  dsimp only
  rw [tbad_is]
  rfl
theorem loop_props {F : List ByteArray} (hF : (textsOf F).length ≤ 1073741824) {dep left : Int} {name : ByteArray} {ks : List S32} {r : S32 × List Int × Bool × Int} : ∀ (ps : List S55) (all : List ByteArray) (acc : List S74) (rest : List Int), (∀ q ∈ ps, okProp q = true) → (epr ps all).2 <+: F → acc.length + ps.length ≤ 1000 →
    Ev (fun k => rloop k (textsOf F) dep rest false left name (acc ++ ps.map fun q => (⟨q.f0, q.f1⟩ : S74)) ks) r → Ev (fun k => rloop k (textsOf F) dep ((epr ps all).1 ++ rest) false left name acc ks) r
  | [], all, acc, rest, h, hp, ha, e => by simpa [epr] using e
  | p :: ps, all, acc, rest, h, hp, ha, e => by
    rw [List.length_cons] at ha
    have ih := loop_props hF ps (nameP all p.f0).2 (acc ++ [⟨p.f0, p.f1⟩]) rest (fun q hq => h q (List.mem_cons_of_mem _ hq)) hp (by rw [List.length_append, List.length_cons, List.length_nil]; omega) (by simpa using e)
    have hx := prop_back (all := all) hF (h p List.mem_cons_self) ((epr_pre ps _).trans hp) (z := List.replicate ((4 - p.f1.length % 4) % 4) 0) (r := (epr ps (nameP all p.f0).2).1 ++ rest) (by rw [List.length_replicate])
    have et : (epr (p :: ps) all).1 ++ rest = w32 3 ++ (w32 p.f1.length ++ (w32 (nameP all p.f0).1 ++ (p.f1 ++ (List.replicate ((4 - p.f1.length % 4) % 4) 0 ++ ((epr ps (nameP all p.f0).2).1 ++ rest))))) := by
      simp only [epr, P4]
      have : (4 - (w32 3 ++ w32 p.f1.length ++ w32 (nameP all p.f0).1 ++ p.f1).length % 4) % 4 = (4 - p.f1.length % 4) % 4 := by simp only [List.length_append, w32_len]; omega
      rw [this]
      simp only [List.append_assoc]
    rw [et]
    refine Ev.step (f := fun k => (rprop k (w32 p.f1.length ++ (w32 (nameP all p.f0).1 ++ (p.f1 ++ (List.replicate ((4 - p.f1.length % 4) % 4) 0 ++ ((epr ps (nameP all p.f0).2).1 ++ rest))))) (textsOf F) false).bind fun q => if acc.length < 1099511627776 then rloop k (textsOf F) dep q.2.2.1 q.2.2.2 left name (acc ++ [⟨q.1, q.2.1⟩]) ks else none) (fun k => ?_) (Ev.bind hx (Ev.congr (fun k => by rw [if_pos (by omega)]) ih))
    rw [rloop.eq_2, if_neg (by decide), wv_w32 3 (by decide) (by decide), if_pos rfl, rw4_w32, rbad_w32]
/-! parts -/
def NodeBack (l : List S50) (F : List ByteArray) (d i : Nat) : Prop := ∀ (all : List ByteArray), (etree d l i all).2 <+: F → ∃ body, (etree d l i all).1 = w32 1 ++ body ∧
  ∀ (rest : List Int) (left : Nat), ((etree d l i all).1 ++ rest).length ≤ 1073741824 → NN l i ≤ left → left ≤ 64 → Ev (fun k => rnode k (textsOf F) (dOf l i : Int) (body ++ rest) false (left : Int)) (nodeOf l i, rest, false, ((left - NN l i : Nat) : Int))
theorem loop_kids {l : List S50} {F : List ByteArray} {d : Nat} {dep : Nat} {name : ByteArray} {ps : List S74} {r : S32 × List Int × Bool × Int} : ∀ (js : List Nat) (all : List ByteArray) (acc : List S32) (rest : List Int) (left : Nat),
    (∀ j ∈ js, NodeBack l F d j ∧ dOf l j = dep + 1) → (ekids (etree d l) js all).2 <+: F → ((ekids (etree d l) js all).1 ++ rest).length ≤ 1073741824 → (js.map (NN l)).sum ≤ left → left ≤ 64 → acc.length + js.length ≤ 1000 →
    Ev (fun k => rloop k (textsOf F) (dep : Int) rest false ((left - (js.map (NN l)).sum : Nat) : Int) name ps (acc ++ js.map (nodeOf l))) r → Ev (fun k => rloop k (textsOf F) (dep : Int) ((ekids (etree d l) js all).1 ++ rest) false (left : Int) name ps acc) r
  | [], all, acc, rest, left, hb, hp, hl, hs, h64, ha, e => by simpa [ekids] using e
  | j :: js, all, acc, rest, left, hb, hp, hl, hs, h64, ha, e => by
    simp only [List.map_cons, List.sum_cons, List.length_cons] at hs ha e
    obtain ⟨hj, hd⟩ := hb j List.mem_cons_self
    have hl' : ((etree d l j all).1 ++ ((ekids (etree d l) js (etree d l j all).2).1 ++ rest)).length ≤ 1073741824 := by simpa [ekids, List.append_assoc] using hl
    obtain ⟨body, h1, h2⟩ := hj all ((ekids_pre (etree_pre l d) js _).trans hp)
    have ih := loop_kids js (etree d l j all).2 (acc ++ [nodeOf l j]) rest (left - NN l j) (fun x hx => hb x (List.mem_cons_of_mem _ hx)) hp (by rw [List.length_append] at hl'; omega) (by omega) (by omega) (by rw [List.length_append, List.length_cons, List.length_nil]; omega) (by rw [Nat.sub_sub]; simpa using e)
    have hx := h2 ((ekids (etree d l) js (etree d l j all).2).1 ++ rest) left hl' (by omega) h64
    have et : (ekids (etree d l) (j :: js) all).1 ++ rest = w32 1 ++ (body ++ ((ekids (etree d l) js (etree d l j all).2).1 ++ rest)) := by
      simp only [ekids]
      rw [h1]
      simp only [List.append_assoc]
    rw [et]
    rw [hd, Int.natCast_succ] at hx
    refine Ev.step (f := fun k => (rnode k (textsOf F) ((dep : Int) + 1) (body ++ ((ekids (etree d l) js (etree d l j all).2).1 ++ rest)) false (left : Int)).bind fun q => if acc.length < 1099511627776 then rloop k (textsOf F) dep q.2.1 q.2.2.1 q.2.2.2 name ps (acc ++ [q.1]) else none) (fun k => ?_) (Ev.bind hx (Ev.congr (fun k => by rw [if_pos (by omega)]) ih))
    rw [rloop.eq_2, if_neg (by decide), wv_w32 1 (by decide) (by decide), if_neg (by decide), if_pos rfl, rw4_w32, rbad_w32]
theorem sum_zero {js : List Nat} {f : Nat → Nat} (h : (js.map f).sum = 0) : ∀ j ∈ js, f j = 0 := by
  induction js with
  | nil => intro j hj; cases hj
  | cons a js ih =>
    simp only [List.map_cons, List.sum_cons] at h
    intro j hj
    rcases List.mem_cons.1 hj with rfl | hj
    · omega
    · exact ih (by omega) j hj
theorem bad_ok {l : List S50} {i : Nat} (h : bad l i = 0) : dOf l i ≤ 8 ∧ nmOK (pt l i).f1 (i == 0) = true ∧ (∀ q ∈ (pt l i).f2, okProp q = true) := by
  unfold bad at h
  split at h
  · rename_i c
    unfold okPart at c
    simp only [Bool.and_eq_true, decide_eq_true_eq] at c
    exact ⟨c.1.1.1, c.1.1.2, List.all_eq_true.1 c.2⟩
  · omega
theorem kidsOf_short {l : List S50} (ht : Tried l) (i : Nat) : (kidsOf l i (i + 1)).length ≤ 70 := by
  have hl := ht.len
  unfold kidsOf
  have := List.length_filter_le (fun j => decide ((pt l j).f0 = (i : Int))) (List.range' (i + 1) (l.length - (i + 1)))
  rw [List.length_range'] at this
  omega
theorem node_back {l : List S50} (ht : Tried l) {F : List ByteArray} (hF : (textsOf F).length ≤ 1073741824) : ∀ (d i : Nat), l.length - i ≤ d → i < l.length → BB l i = 0 → NodeBack l F d i
  | 0, i, hd, hi, hb => by omega
  | d + 1, i, hd, hi, hb => by
    intro all hp
    have hBB : BB l i = bad l i + ((kidsOf l i (i + 1)).map (BB l)).sum := by unfold BB; rw [wOf_open _ l hi]
    have hNN : NN l i = 1 + ((kidsOf l i (i + 1)).map (NN l)).sum := by unfold NN; rw [wOf_open _ l hi]; rfl
    obtain ⟨o1, o2, o3⟩ := bad_ok (l := l) (i := i) (by omega)
    obtain ⟨_, g1, g2, g3⟩ := ht.good i hi
    have hdp := dOf_pos (l := l) i
    have hks := kidsOf_short ht i
    have hz := sum_zero (js := kidsOf l i (i + 1)) (f := BB l) (by omega)
    have hlen := bytesOf_length (pt l i).f1
    let Z : List Int := List.replicate ((4 - (bytesOf (pt l i).f1 ++ [0]).length % 4) % 4) 0
    let A := (epr (pt l i).f2 all)
    let K := ekids (etree d l) (kidsOf l i (i + 1)) A.2
    have ez : (4 - (w32 1 ++ bytesOf (pt l i).f1 ++ [0]).length % 4) % 4 = (4 - (bytesOf (pt l i).f1 ++ [0]).length % 4) % 4 := by simp only [List.length_append, w32_len]; omega
    have et : (etree (d + 1) l i all).1 = w32 1 ++ ((bytesOf (pt l i).f1 ++ [0]) ++ (Z ++ (A.1 ++ (K.1 ++ w32 2)))) := by
      simp only [etree, P4]
      rw [ez]
      simp only [List.append_assoc, Z, A, K]
    refine ⟨_, et, fun rest left hl hn h64 => ?_⟩
    have hKF : K.2 <+: F := hp
    have hl2 : ((K.1 ++ (w32 2 ++ rest))).length ≤ 1073741824 := by
      rw [et] at hl
      simp only [List.length_append] at hl ⊢
      omega
    have eEnd : Ev (fun k => rloop k (textsOf F) (dOf l i : Int) (w32 2 ++ rest) false ((left - 1 - ((kidsOf l i (i + 1)).map (NN l)).sum : Nat) : Int) (pt l i).f1 (propsOf (pt l i)) ([] ++ (kidsOf l i (i + 1)).map (nodeOf l))) (nodeOf l i, rest, false, ((left - NN l i : Nat) : Int)) := by
      refine Ev.step (f := fun _ => some (nodeOf l i, rest, false, ((left - NN l i : Nat) : Int))) (fun k => ?_) (Ev.now _)
      rw [rloop.eq_2, if_neg (by decide), wv_w32 2 (by decide) (by decide), if_neg (by decide), if_neg (by decide), if_pos rfl, rw4_w32, rbad_w32, nodeOf_open l hi, hNN, Nat.sub_sub]
      rfl
    have eKids := loop_kids (dep := dOf l i) (ps := propsOf (pt l i)) (name := (pt l i).f1) (kidsOf l i (i + 1)) A.2 [] (w32 2 ++ rest) (left - 1) (fun j hj => by
      obtain ⟨q1, q2, _⟩ := kidsOf_mem hj
      exact ⟨node_back ht hF d j (by omega) q2 (hz j hj), dOf_kid ht hj (by omega)⟩) hKF hl2 (by omega) (by omega) (by simp only [List.length_nil]; omega) eEnd
    have eProps := loop_props hF (pt l i).f2 all [] (K.1 ++ (w32 2 ++ rest)) o3 ((ekids_pre (etree_pre l d) _ _).trans hKF) (by simp only [List.length_nil]; omega) eKids
    have hT : (bytesOf (pt l i).f1 ++ [0]) ++ (Z ++ (A.1 ++ (K.1 ++ w32 2))) ++ rest = (bytesOf (pt l i).f1 ++ [0]) ++ (Z ++ (A.1 ++ (K.1 ++ (w32 2 ++ rest)))) := by simp only [List.append_assoc]
    have hT2 : (bytesOf (pt l i).f1 ++ [0]) ++ (Z ++ (A.1 ++ (K.1 ++ (w32 2 ++ rest)))) = bytesOf (pt l i).f1 ++ 0 :: (Z ++ (A.1 ++ (K.1 ++ (w32 2 ++ rest)))) := by simp
    rw [hT]
    have hx := text_name (rest := Z ++ (A.1 ++ (K.1 ++ (w32 2 ++ rest)))) (nmOK_all o2) (by
      rw [et, List.append_assoc] at hl
      rw [← hT2, ← hT]
      rw [List.length_append] at hl
      omega)
    rw [← hT2] at hx
    have e1 : (((pt l i).f1.size : Int) + 1) = ((bytesOf (pt l i).f1 ++ [0]).length : Int) := by rw [List.length_append, hlen]; simp
    have cl : ((left : Int) - 1) = ((left - 1 : Nat) : Int) := by omega
    refine Ev.step (f := fun k => (fdt_text.f k ((bytesOf (pt l i).f1 ++ [0]) ++ (Z ++ (A.1 ++ (K.1 ++ (w32 2 ++ rest)))))).bind fun q =>
        if q.2 = false ∨ 8 < (dOf l i : Int) ∨ (left : Int) - 1 < 0 then some (nilN, (bytesOf (pt l i).f1 ++ [0]) ++ (Z ++ (A.1 ++ (K.1 ++ (w32 2 ++ rest)))), true, (left : Int) - 1)
        else if q.1.size < 1000000000000 then rloop k (textsOf F) (dOf l i : Int) (trest ((bytesOf (pt l i).f1 ++ [0]) ++ (Z ++ (A.1 ++ (K.1 ++ (w32 2 ++ rest))))) ((q.1.size : Int) + 1)) (tbad ((bytesOf (pt l i).f1 ++ [0]) ++ (Z ++ (A.1 ++ (K.1 ++ (w32 2 ++ rest))))) ((q.1.size : Int) + 1) false) ((left : Int) - 1) q.1 [] [] else none) (fun k => ?_) (Ev.bind hx ?_)
    · rw [rnode.eq_2, if_pos (by omega)]
    · refine Ev.congr (fun k => ?_) eProps
      dsimp only
      rw [if_neg (by simp; omega), if_pos (by omega), e1, trest_is _ Z _ (by simp only [Z, List.length_replicate]), tbad_is, cl]
theorem shal_ok {l : List S50} (ht : Tried l) : ∀ (d i : Nat), l.length - i ≤ d → i < l.length → BB l i = 0 → ∀ e, dOf l i + e = 9 → Shal e (nodeOf l i)
  | 0, i, hd, hi, hb => by omega
  | d + 1, i, hd, hi, hb => by
    intro e he
    have hBB : BB l i = bad l i + ((kidsOf l i (i + 1)).map (BB l)).sum := by unfold BB; rw [wOf_open _ l hi]
    obtain ⟨o1, o2, o3⟩ := bad_ok (l := l) (i := i) (by omega)
    have hz := sum_zero (js := kidsOf l i (i + 1)) (f := BB l) (by omega)
    obtain ⟨_, _, g2, g3⟩ := ht.good i hi
    obtain ⟨e, rfl⟩ : ∃ f, e = f + 1 := ⟨e - 1, by omega⟩
    rw [nodeOf_open l hi]
    have hks := kidsOf_short ht i
    refine ⟨by simp only [propsOf, List.length_map]; omega, fun p hp => ?_, by simp only [List.length_map]; omega, fun x hx => ?_⟩
    · obtain ⟨q, hq, rfl⟩ := List.mem_map.1 hp
      have := (g3 q hq).1
      dsimp only
      omega
    · obtain ⟨j, hj, rfl⟩ := List.mem_map.1 hx
      have hj' := kidsOf_mem hj
      exact shal_ok ht d j (by omega) hj'.2.1 (hz j hj) e (by rw [dOf_kid ht hj (by omega)]; omega)
end Go.Proofs.Ytmhlellhfepkkaa.B
/- Plain: the law FdtBack. -/
namespace Go.Proofs.Ytmhlellhfepkkaa.B
open Go.RowKit Go.Proofs.YtmhlellhfepkkaaW.PrintWords Go.Proofs.YtmhlellhfepkkaaW.PrintLast Go.Proofs.YtmhlellhfepkkaaW.PrintMore Go.Proofs.Ytmhlellhfepkkaa.PAl
set_option linter.unusedVariables false
set_option linter.unusedSimpArgs false
theorem wu64 {x : Int} (h0 : 0 ≤ x) (h1 : x < 9223372036854775808) : IntKind.u64.wrap x = x := by
  unfold IntKind.wrap; simp only [IntKind.signed, IntKind.bits]; simp; omega
theorem within_yes {a n m : Int} (h0 : 0 ≤ a) (h1 : 0 ≤ n) (h2 : a + n ≤ m) (h3 : m < 9223372036854775808) : word_Within.f a n 0 m = some true := by
  unfold word_Within.f
  rw [if_neg (by omega), if_neg (by omega), wu64 (by omega) (by omega), wu64 (by omega) (by omega), decide_eq_true (by omega)]
theorem parse_is {l : List S50} (ht : Tried l) (c : cOK l 0) : Ev (fun k => fdt_Parse.f k (fileOf (treeOf l) (namesOf l))) ((nodeOf l 0).f0, (nodeOf l 0).f1, (nodeOf l 0).f2, 0) := by
  have hm := MM_small ht
  obtain ⟨⟨h1, h2, h3⟩, _, _⟩ := tree_is ht l.length 0 (by omega) ht.pos [] (by simp [textsOf]; omega)
  have h3' : (namesOf l).length ≤ MM l 0 := by simpa [namesOf, textsOf] using h3
  have ht9 : (treeOf l).length = (etree l.length l 0 []).1.length + 4 := by unfold treeOf; rw [List.length_append, w32_len]
  obtain ⟨T, hT⟩ : ∃ T, T = treeOf l := ⟨_, rfl⟩
  obtain ⟨n, hn⟩ : ∃ n, n = namesOf l := ⟨_, rfl⟩
  rw [← hn] at h3'
  rw [← hT] at ht9
  obtain ⟨A, hA⟩ : ∃ A, A = (headOf T.length n.length).flatMap w32 ++ List.replicate 16 (0 : Int) := ⟨_, rfl⟩
  have hAl : A.length = 56 := by rw [hA, List.length_append, flat_len4]; rfl
  have hfile : fileOf T n = A ++ T ++ n := by unfold fileOf; rw [hA]
  have hfl : (A ++ T ++ n).length = 56 + T.length + n.length := by rw [List.length_append, List.length_append, hAl]
  have hh : rhead 10 (fileOf T n) false = (headOf T.length n.length, List.replicate 16 0 ++ (T ++ n), false) := by
    have := rhead_flat (headOf T.length n.length) (List.replicate 16 0 ++ (T ++ n)) (fun x hx => by
      simp only [headOf, List.mem_cons, List.not_mem_nil, or_false] at hx
      rcases hx with h | h | h | h | h | h | h | h | h | h <;> omega)
    unfold fileOf
    simp only [List.append_assoc]
    exact this
  have r2 : rd (headOf T.length n.length) 2 = 56 := rfl
  have r9 : rd (headOf T.length n.length) 9 = (T.length : Int) := rfl
  have r3 : rd (headOf T.length n.length) 3 = 56 + (T.length : Int) := rfl
  have r8 : rd (headOf T.length n.length) 8 = (n.length : Int) := rfl
  have s1 : ((fileOf T n).take (56 + (T.length : Int)).toNat).drop (56 : Int).toNat = T := by
    rw [hfile, show (56 + (T.length : Int)).toNat = (A ++ T).length by rw [List.length_append, hAl]; omega, List.take_left' rfl, show (56 : Int).toNat = A.length by rw [hAl]; rfl, List.drop_left' rfl]
  have s2 : ((fileOf T n).take (56 + (T.length : Int) + (n.length : Int)).toNat).drop (56 + (T.length : Int)).toNat = n := by
    rw [hfile, show (56 + (T.length : Int) + (n.length : Int)).toNat = (A ++ T ++ n).length by rw [hfl]; omega, List.take_length, show (56 + (T.length : Int)).toNat = (A ++ T).length by rw [List.length_append, hAl]; omega, List.drop_left' rfl]
  have hb : BB l 0 = 0 := c.1
  have hN : NN l 0 ≤ 64 := c.2.1
  have hF : (textsOf (etree l.length l 0 []).2).length ≤ 1073741824 := by
    have : (textsOf (etree l.length l 0 []).2).length = n.length := by rw [hn]; rfl
    omega
  obtain ⟨body, e1, e2⟩ := node_back ht hF l.length 0 (by omega) ht.pos hb [] (List.prefix_refl _)
  have hx := e2 (w32 9) 64 (by rw [List.length_append, w32_len]; omega) hN (by decide)
  have hTe : T = w32 1 ++ (body ++ w32 9) := by rw [hT]; unfold treeOf; rw [e1, List.append_assoc]
  have hne : n = textsOf (etree l.length l 0 []).2 := hn
  have hby := bytes0_is ht
  rw [if_pos c, ← hT, ← hn] at hby
  unfold fdt_Parse.f
  rw [← hT, ← hn, hh]
  refine Ev.congr (f := fun k => (rnode k n 1 (body ++ w32 9) false 64).bind fun q => if q.2.2.1 = true then some pfail else (fdt_Bytes.f k q.1.f0 q.1.f1 q.1.f2).bind fun b => if b.2 = 0 then (if (strOfNums b.1).toList = (strOfNums (fileOf T n)).toList then some (q.1.f0, q.1.f1, q.1.f2, 0) else some pfail) else some pfail) (fun k => ?_) ?_
  · rw [if_pos (by rw [hfile, hfl]; omega), if_neg Bool.false_ne_true]
    unfold fdt_Parse.g
    dsimp only
    rw [r2, r9, r3, r8, within_yes (by decide) (by omega) (by rw [hfile, hfl]; omega) (by rw [hfile, hfl]; omega), Option.bind_some, if_pos rfl, within_yes (by omega) (by omega) (by rw [hfile, hfl]; omega) (by rw [hfile, hfl]; omega), Option.bind_some, if_pos rfl, s1, s2]
    have w1 : wv T = 1 := by rw [hTe]; exact wv_w32 1 (by decide) (by decide) _
    have w2 : rw4 T = body ++ w32 9 := by rw [hTe]; exact rw4_w32 1 _
    have w3 : rbad T false = false := by rw [hTe]; exact rbad_w32 1 _ _
    rw [w1, w2, w3, if_pos rfl]
  · rw [hne]
    rw [dOf_zero] at hx
    refine Ev.bind hx ?_
    refine Ev.congr (f := fun k => (fdt_Bytes.f k (nodeOf l 0).f0 (nodeOf l 0).f1 (nodeOf l 0).f2).bind fun b => if b.2 = 0 then (if (strOfNums b.1).toList = (strOfNums (fileOf T n)).toList then some ((nodeOf l 0).f0, (nodeOf l 0).f1, (nodeOf l 0).f2, 0) else some pfail) else some pfail) (fun k => by rw [hn]; exact if_neg Bool.false_ne_true) (Ev.bind hby ?_)
    exact Ev.congr (f := fun _ => some ((nodeOf l 0).f0, (nodeOf l 0).f1, (nodeOf l 0).f2, 0)) (fun k => by rw [if_pos rfl, if_pos rfl]) (Ev.now _)
theorem back_is (l : List S50) : Ev (fun k => vireolaw26_FdtBack.f k l) true := by
  unfold vireolaw26_FdtBack.f
  refine Ev.bind awake_is ?_
  obtain ⟨b, hb, ht⟩ := tried_is l
  refine Ev.congr (fun k => if_pos rfl) (Ev.bind hb ?_)
  by_cases cb : b = true
  · have hT := ht cb
    refine Ev.congr (fun k => if_pos cb) (Ev.bind (node0_is hT) ?_)
    refine Ev.bind (bytes0_is hT) ?_
    by_cases c : cOK l 0
    · rw [if_pos c]
      refine Ev.congr (fun k => if_pos rfl) (Ev.bind (parse_is hT c) ?_)
      refine Ev.congr (fun k => if_pos rfl) (Ev.bind (same_refl 8 (nodeOf l 0) 9 (shal_ok hT l.length 0 (by omega) hT.pos c.1 8 (by rw [dOf_zero])) (by decide) (by decide)) (Ev.now _))
    · rw [if_neg c]
      exact Ev.congr (fun k => if_neg (by decide)) (Ev.now _)
  · exact Ev.congr (fun k => if_neg cb) (Ev.now _)
end Go.Proofs.Ytmhlellhfepkkaa.B
/- The law FdtBack, plain. -/
namespace Go.Proofs.Ytmhlellhfepkkaa.Pure
theorem FdtBack : OpBk.vireolaw26_FdtBack.Pure2 := fun b0 _ => (B.back_is b0).rounds
end Go.Proofs.Ytmhlellhfepkkaa.Pure
