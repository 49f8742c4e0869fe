/- The law FdtFinds, plain: for every list, path and name, the law answers true. -/
import Derived.Test.YtmhlellhfepkkaaHq
import Derived.Test.YtmhlellhfepkkaaHtree
import Derived.Test.YtmhlellhfepkkaaPAlx3
import Derived.Test.YtmhlellhfepkkaaPAlx4
import Derived.Test.YtmhlellhfepkkaaPAlx6
import Derived.Test.YtmhlellhfepkkaaPAlx8
import Derived.Test.YtmhlellhfepkkaaLd
import Derived.Test.YtmhlellhfepkkaaOpFi
/- Plain: a list of parts, and the tree that it is. -/
namespace Go.Proofs.Ytmhlellhfepkkaa.B
open Go.RowKit Go.Proofs.YtmhlellhfepkkaaW.PrintWords Go.Proofs.YtmhlellhfepkkaaW.PrintLast Go.Proofs.YtmhlellhfepkkaaW.PrintMore Go.Proofs.Ytmhlellhfepkkaa.PAl
set_option linter.unusedVariables false
set_option linter.unusedSimpArgs false
/-- Part i. -/
def pt (l : List S50) (i : Nat) : S50 := rd_T50 l (i : Int)
theorem pt_get {l : List S50} {i : Nat} (h : i < l.length) : pt l i = l[i] := by simp [pt, rd_T50, List.getD, h]
def kidsOf (l : List S50) (i : Nat) (from_ : Nat) : List Nat := (List.range' from_ (l.length - from_)).filter fun j => decide ((pt l j).f0 = (i : Int))
theorem kidsOf_end (l : List S50) (i : Nat) {f : Nat} (h : l.length ≤ f) : kidsOf l i f = [] := by unfold kidsOf; rw [Nat.sub_eq_zero_of_le h]; rfl
theorem kidsOf_step (l : List S50) (i : Nat) {f : Nat} (h : f < l.length) : kidsOf l i f = if (pt l f).f0 = (i : Int) then f :: kidsOf l i (f + 1) else kidsOf l i (f + 1) := by
  unfold kidsOf
  obtain ⟨d, hd⟩ : ∃ d, l.length - f = d + 1 := ⟨l.length - f - 1, by omega⟩
  rw [hd, List.range'_succ, List.filter_cons, show l.length - (f + 1) = d by omega]
  simp only [decide_eq_true_eq]
theorem kidsOf_mem {l : List S50} {i f j : Nat} (h : j ∈ kidsOf l i f) : f ≤ j ∧ j < l.length ∧ (pt l j).f0 = (i : Int) := by
  unfold kidsOf at h
  rw [List.mem_filter, List.mem_range'_1] at h
  have := h.2
  simp only [decide_eq_true_eq] at this
  exact ⟨h.1.1, by omega, this⟩
def propsOf (p : S50) : List S74 := p.f2.map fun q => ⟨q.f0, q.f1⟩
/-- The tree of part i (d: enough rounds). -/
def nodeT : Nat → List S50 → Nat → S32
  | 0, l, i => z32
  | d + 1, l, i => ⟨(pt l i).f1, propsOf (pt l i), (kidsOf l i (i + 1)).map (nodeT d l)⟩
theorem nodeT_more (l : List S50) : ∀ d d' i, l.length - i ≤ d → l.length - i ≤ d' → i < l.length → nodeT d l i = nodeT d' l i
  | 0, d', i, h1, h2, h3 => by omega
  | d + 1, 0, i, h1, h2, h3 => by omega
  | d + 1, d' + 1, i, h1, h2, h3 => by
    simp only [nodeT]
    congr 1
    refine List.map_congr_left (fun j hj => ?_)
    obtain ⟨q1, q2, _⟩ := kidsOf_mem hj
    exact nodeT_more l d d' j (by omega) (by omega) q2
def nodeOf (l : List S50) (i : Nat) : S32 := nodeT (l.length - i) l i
theorem nodeOf_open (l : List S50) {i : Nat} (h : i < l.length) : nodeOf l i = ⟨(pt l i).f1, propsOf (pt l i), (kidsOf l i (i + 1)).map (nodeOf l)⟩ := by
  unfold nodeOf
  obtain ⟨d, hd⟩ : ∃ d, l.length - i = d + 1 := ⟨l.length - i - 1, by omega⟩
  rw [hd]
  simp only [nodeT]
  congr 1
  refine List.map_congr_left (fun j hj => ?_)
  obtain ⟨q1, q2, _⟩ := kidsOf_mem hj
  exact nodeT_more l d (l.length - j) j (by omega) (by omega) q2
/-- What is known of a list that is small. -/
structure Small (l : List S50) : Prop where
  len : l.length ≤ 70
  props : ∀ i, i < l.length → (pt l i).f2.length ≤ 260
theorem rd50 (l : List S50) (i : Nat) : rd_T50 l (i : Int) = pt l i := rfl
theorem rd55_mid (pre suf : List S55) (x : S55) : rd_T55 (pre ++ x :: suf) (pre.length : Int) = x := by
  unfold rd_T55; rw [Int.toNat_natCast]; simp [List.getD, List.getElem?_append_right]
theorem rd50_mid (pre suf : List S50) (x : S50) : rd_T50 (pre ++ x :: suf) (pre.length : Int) = x := by
  unfold rd_T50; rw [Int.toNat_natCast]; simp [List.getD, List.getElem?_append_right]
theorem node_l0 {l : List S50} {i : Nat} (hi : i < l.length) (hp : (pt l i).f2.length ≤ 260) (hl : l.length ≤ 70) {r : ByteArray × List S74 × List S32} (nm : ByteArray)
    (hend : Ev (fun k => vireolaw26_node.l1 k l (i : Int) ((i + 1 : Nat) : Int) nm (propsOf (pt l i)) []) r) :
    ∀ (suf pre : List S55) (acc : List S74), (pt l i).f2 = pre ++ suf → acc = pre.map (fun q => (⟨q.f0, q.f1⟩ : S74)) → Ev (fun k => vireolaw26_node.l0 k l (i : Int) (pre.length : Int) nm acc) r
  | [], pre, acc, h, ha => by
    have h' : (pt l i).f2 = pre := by simpa using h
    refine Ev.step (f := fun k => vireolaw26_node.l1 k l (i : Int) ((i + 1 : Nat) : Int) nm (propsOf (pt l i)) []) (fun k => ?_) hend
    simp only [vireolaw26_node.l0]
    rw [if_pos (by omega), if_pos (by omega), rd50, h', if_neg (by omega), w64 (by omega) (by omega)]
    rw [ha, propsOf, h']
    rfl
  | x :: suf, pre, acc, h, ha => by
    have ih := node_l0 hi hp hl nm hend suf (pre ++ [x]) (acc ++ [⟨x.f0, x.f1⟩]) (by simp [h]) (by simp [ha])
    have hlen : (pt l i).f2.length = pre.length + (suf.length + 1) := by rw [h]; simp
    have hal : acc.length = pre.length := by rw [ha]; simp
    refine Ev.step (f := fun k => vireolaw26_node.l0 k l (i : Int) ((pre ++ [x]).length : Int) nm (acc ++ [⟨x.f0, x.f1⟩])) (fun k => ?_) ih
    have hr : rd_T55 (pt l i).f2 (pre.length : Int) = x := by rw [h]; exact rd55_mid _ _ _
    simp only [vireolaw26_node.l0]
    rw [if_pos (by omega), if_pos (by omega), rd50, if_pos (by omega), if_pos (by omega), if_pos (by omega), hr, w64 (by omega) (by omega)]
    simp
theorem S32_eta (n : S32) : (⟨n.f0, n.f1, n.f2⟩ : S32) = n := by cases n; rfl
theorem node_l1 {l : List S50} {i : Nat} (hi : i < l.length) (hl : l.length ≤ 70) (nm : ByteArray) (ps : List S74)
    (hk : ∀ j, i < j → j < l.length → Ev (fun k => vireolaw26_node.f k l (j : Int)) ((nodeOf l j).f0, (nodeOf l j).f1, (nodeOf l j).f2)) :
    ∀ (d f : Nat) (acc : List S32), d + f = l.length → i < f → acc.length ≤ f → Ev (fun k => vireolaw26_node.l1 k l (i : Int) (f : Int) nm ps acc) (nm, ps, acc ++ (kidsOf l i f).map (nodeOf l))
  | 0, f, acc, hd, hf, ha => by
    rw [kidsOf_end l i (by omega)]
    refine Ev.step (f := fun _ => some (nm, ps, acc ++ [])) (fun k => ?_) (Ev.now _)
    simp only [vireolaw26_node.l1]
    rw [if_neg (by omega)]
    simp
  | d + 1, f, acc, hd, hf, ha => by
    have hfl : f < l.length := by omega
    rw [kidsOf_step l i hfl]
    by_cases c : (pt l f).f0 = (i : Int)
    · rw [if_pos c]
      have ih := node_l1 hi hl nm ps hk d (f + 1) (acc ++ [nodeOf l f]) (by omega) (by omega) (by simp; omega)
      have e : (nm, ps, acc ++ (f :: kidsOf l i (f + 1)).map (nodeOf l)) = (nm, ps, (acc ++ [nodeOf l f]) ++ (kidsOf l i (f + 1)).map (nodeOf l)) := by simp
      rw [e]
      refine Ev.step (f := fun k => (vireolaw26_node.f k l (f : Int)).bind fun bt160 => (if acc.length < 2199023255552 then (vireolaw26_node.l1 k l (i : Int) (wrap64 ((f : Int) + 1)) nm ps (acc ++ [(⟨bt160.1, bt160.2.1, bt160.2.2⟩ : S32)])) else (none))) (fun k => ?_) ?_
      · simp only [vireolaw26_node.l1]
        rw [if_pos (by omega), if_pos (by omega), rd50, if_pos c]
      · refine Ev.bind (hk f hf hfl) ?_
        refine Ev.congr (f := fun k => vireolaw26_node.l1 k l (i : Int) ((f + 1 : Nat) : Int) nm ps (acc ++ [nodeOf l f])) (fun k => ?_) ih
        rw [if_pos (by omega), w64 (by omega) (by omega)]
        dsimp only
        rw [S32_eta, Int.natCast_succ]
    · rw [if_neg c]
      have ih := node_l1 hi hl nm ps hk d (f + 1) acc (by omega) (by omega) (by omega)
      refine Ev.step (f := fun k => vireolaw26_node.l1 k l (i : Int) ((f + 1 : Nat) : Int) nm ps acc) (fun k => ?_) ih
      simp only [vireolaw26_node.l1]
      rw [if_pos (by omega), if_pos (by omega), rd50, if_neg c, w64 (by omega) (by omega)]
      rfl
/-- The law's own 'node'. -/
theorem node_is {l : List S50} (hs : Small l) : ∀ (d i : Nat), l.length - i ≤ d → i < l.length → Ev (fun k => vireolaw26_node.f k l (i : Int)) ((nodeOf l i).f0, (nodeOf l i).f1, (nodeOf l i).f2)
  | 0, i, hd, hi => by omega
  | d + 1, i, hd, hi => by
    have hl := hs.len
    have h1 := node_l1 hi hl (pt l i).f1 (propsOf (pt l i)) (fun j hj hjl => node_is hs d j (by omega) hjl) (l.length - (i + 1)) (i + 1) [] (by omega) (by omega) (by simp)
    have h0 := node_l0 hi (hs.props i hi) hl (pt l i).f1 h1 (pt l i).f2 [] [] rfl rfl
    rw [nodeOf_open l hi]
    refine Ev.step (f := fun k => vireolaw26_node.l0 k l (i : Int) 0 (pt l i).f1 []) (fun k => ?_) h0
    simp only [vireolaw26_node.f]
    rw [if_pos (by omega), if_pos (by omega)]
    rfl
end Go.Proofs.Ytmhlellhfepkkaa.B
/- Plain: which lists are tried. -/
namespace Go.Proofs.Ytmhlellhfepkkaa.B
open Go.RowKit Go.Proofs.YtmhlellhfepkkaaW.PrintWords Go.Proofs.YtmhlellhfepkkaaW.PrintLast Go.Proofs.YtmhlellhfepkkaaW.PrintMore Go.Proofs.Ytmhlellhfepkkaa.PAl
set_option linter.unusedVariables false
set_option linter.unusedSimpArgs false
/-- Part i may be there. -/
def goodP (l : List S50) (i : Nat) : Prop := (0 < i → 0 ≤ (pt l i).f0 ∧ (pt l i).f0 < (i : Int)) ∧ (pt l i).f1.size ≤ 40 ∧ (pt l i).f2.length ≤ 260 ∧ ∀ q ∈ (pt l i).f2, q.f1.length ≤ 5000 ∧ q.f0.size ≤ 40
/-- A list that is tried. -/
structure Tried (l : List S50) : Prop where
  pos : 0 < l.length
  len : l.length ≤ 70
  root : (pt l 0).f0 = -1
  good : ∀ i, i < l.length → goodP l i
theorem Tried.small {l : List S50} (h : Tried l) : Small l := ⟨h.len, fun i hi => (h.good i hi).2.2.1⟩
theorem ev_no {g : Nat → Option Bool} {X : Prop} (h : ∀ k, g (k + 1) = some false) : ∃ b, Ev g b ∧ (b = true → X) := ⟨false, Ev.step (f := fun _ => some false) h (Ev.now _), fun h => by cases h⟩
theorem tried_l1 {l : List S50} {i : Nat} (hi : i < l.length) (hl : l.length ≤ 70) (hp : (pt l i).f2.length ≤ 260) {X : Prop}
    (hend : ∀ x3, ∃ b, Ev (fun k => vireolaw26_tried.l0 k l x3 ((i + 1 : Nat) : Int)) b ∧ (b = true → X)) :
    ∀ (suf pre : List S55) (x3 : Int), (pt l i).f2 = pre ++ suf → ∃ b, Ev (fun k => vireolaw26_tried.l1 k l x3 (i : Int) (pre.length : Int)) b ∧ (b = true → X ∧ ∀ q ∈ suf, q.f1.length ≤ 5000 ∧ q.f0.size ≤ 40)
  | [], pre, x3, h => by
    have h' : (pt l i).f2 = pre := by simpa using h
    obtain ⟨b, hb, hx⟩ := hend x3
    refine ⟨b, Ev.step (fun k => ?_) hb, fun e => ⟨hx e, fun q hq => by cases hq⟩⟩
    simp only [vireolaw26_tried.l1]
    rw [if_pos (by omega), if_pos (by omega), rd50, h', if_neg (by omega), w64 (by omega) (by omega), Int.natCast_succ]
  | x :: suf, pre, x3, h => by
    have hlen : (pt l i).f2.length = pre.length + (suf.length + 1) := by rw [h]; simp
    have hr : rd_T55 (pt l i).f2 (pre.length : Int) = x := by rw [h]; exact rd55_mid _ _ _
    by_cases c1 : (x.f1.length : Int) > 5000
    · refine ev_no (fun k => ?_)
      simp only [vireolaw26_tried.l1]
      rw [if_pos (by omega), if_pos (by omega), rd50, if_pos (by omega), if_pos (by omega), hr, if_pos c1]
    · by_cases c2 : (x.f0.size : Int) > 40
      · refine ev_no (fun k => ?_)
        simp only [vireolaw26_tried.l1]
        rw [if_pos (by omega), if_pos (by omega), rd50, if_pos (by omega), if_pos (by omega), hr, if_neg c1, if_pos c2]
      · obtain ⟨b, hb, hx⟩ := tried_l1 hi hl hp hend suf (pre ++ [x]) (wrap64 ((wrap64 (x3 + (x.f1.length : Int))) + 1)) (by simp [h])
        refine ⟨b, Ev.step (fun k => ?_) hb, fun e => ⟨(hx e).1, fun q hq => ?_⟩⟩
        · simp only [vireolaw26_tried.l1]
          rw [if_pos (by omega), if_pos (by omega), rd50, if_pos (by omega), if_pos (by omega), hr, if_neg c1, if_neg c2, w64 (x := (pre.length : Int) + 1) (by omega) (by omega)]
          simp
        · rcases List.mem_cons.1 hq with rfl | hq
          · exact ⟨by omega, by omega⟩
          · exact (hx e).2 q hq
theorem tried_l0 {l : List S50} (hl : l.length ≤ 70) : ∀ (d i : Nat) (x3 : Int), d + i = l.length → ∃ b, Ev (fun k => vireolaw26_tried.l0 k l x3 (i : Int)) b ∧ (b = true → ∀ j, i ≤ j → j < l.length → goodP l j)
  | 0, i, x3, hd => ⟨decide (x3 ≤ 12000), Ev.step (f := fun _ => some (decide (x3 ≤ 12000))) (fun k => by simp only [vireolaw26_tried.l0]; rw [if_neg (by omega)]) (Ev.now _), fun _ j h1 h2 => by omega⟩
  | d + 1, i, x3, hd => by
    have hi : i < l.length := by omega
    -- behind the four tests
    have key : ∃ b, Ev (fun k => vireolaw26_tried.j2 k l x3 (i : Int) (decide (((pt l i).f2.length : Int) > 260))) b ∧ (b = true → (∀ j, i + 1 ≤ j → j < l.length → goodP l j) ∧ (pt l i).f2.length ≤ 260 ∧ ∀ q ∈ (pt l i).f2, q.f1.length ≤ 5000 ∧ q.f0.size ≤ 40) := by
      by_cases c : ((pt l i).f2.length : Int) > 260
      · refine ev_no (fun k => ?_)
        simp only [vireolaw26_tried.j2]
        rw [if_pos (by simpa using c)]
      · obtain ⟨b, hb, hx⟩ := tried_l1 hi hl (by omega) (X := ∀ j, i + 1 ≤ j → j < l.length → goodP l j) (fun x3 => tried_l0 hl d (i + 1) x3 (by omega)) (pt l i).f2 [] x3 rfl
        refine ⟨b, Ev.step (fun k => ?_) hb, fun e => ⟨(hx e).1, by omega, (hx e).2⟩⟩
        simp only [vireolaw26_tried.j2]
        rw [if_neg (by simpa using c)]
        rfl
    have no2 : ∀ k, vireolaw26_tried.j2 (k + 1) l x3 (i : Int) true = some false := fun k => by simp [vireolaw26_tried.j2]
    have nokey : ∃ b, Ev (fun k => vireolaw26_tried.j2 k l x3 (i : Int) true) b ∧ (b = true → ∀ j, i ≤ j → j < l.length → goodP l j) := ev_no no2
    have fin : ∀ b, (b = true → (∀ j, i + 1 ≤ j → j < l.length → goodP l j) ∧ (pt l i).f2.length ≤ 260 ∧ ∀ q ∈ (pt l i).f2, q.f1.length ≤ 5000 ∧ q.f0.size ≤ 40) → (0 < i → 0 ≤ (pt l i).f0 ∧ (pt l i).f0 < (i : Int)) → (pt l i).f1.size ≤ 40 → b = true → ∀ j, i ≤ j → j < l.length → goodP l j := by
      intro b hx h1 h2 e j hj hjl
      rcases Nat.eq_or_lt_of_le hj with rfl | hj
      · exact ⟨h1, h2, (hx e).2.1, (hx e).2.2⟩
      · exact (hx e).1 j hj hjl
    by_cases c0 : (i : Int) > 0
    · by_cases c1 : (pt l i).f0 < 0
      · obtain ⟨b, hb, hx⟩ := nokey
        refine ⟨b, Ev.step (fun k => ?_) hb, hx⟩
        simp only [vireolaw26_tried.l0]
        rw [if_pos (by omega), if_pos c0, if_pos (by omega), rd50, if_pos c1]
      · by_cases c2 : (pt l i).f0 ≥ (i : Int)
        · obtain ⟨b, hb, hx⟩ := nokey
          refine ⟨b, Ev.step (fun k => ?_) hb, hx⟩
          simp only [vireolaw26_tried.l0]
          rw [if_pos (by omega), if_pos c0, if_pos (by omega), rd50, if_neg c1, if_pos c2]
        · by_cases c3 : ((pt l i).f1.size : Int) > 40
          · obtain ⟨b, hb, hx⟩ := nokey
            refine ⟨b, Ev.step (fun k => ?_) hb, hx⟩
            simp only [vireolaw26_tried.l0]
            rw [if_pos (by omega), if_pos c0, if_pos (by omega), rd50, if_neg c1, if_neg c2, if_pos c3]
          · obtain ⟨b, hb, hx⟩ := key
            refine ⟨b, Ev.step (fun k => ?_) hb, fin b hx (fun _ => ⟨by omega, by omega⟩) (by omega)⟩
            simp only [vireolaw26_tried.l0]
            rw [if_pos (by omega), if_pos c0, if_pos (by omega), rd50, if_neg c1, if_neg c2, if_neg c3]
    · by_cases c3 : ((pt l i).f1.size : Int) > 40
      · obtain ⟨b, hb, hx⟩ := nokey
        refine ⟨b, Ev.step (fun k => ?_) hb, hx⟩
        simp only [vireolaw26_tried.l0]
        rw [if_pos (by omega), if_neg c0, if_pos (by omega), rd50, if_pos c3]
      · obtain ⟨b, hb, hx⟩ := key
        refine ⟨b, Ev.step (fun k => ?_) hb, fin b hx (fun h => by omega) (by omega)⟩
        simp only [vireolaw26_tried.l0]
        rw [if_pos (by omega), if_neg c0, if_pos (by omega), rd50, if_neg c3]
theorem tried_is (l : List S50) : ∃ b, Ev (fun k => vireolaw26_tried.f k l) b ∧ (b = true → Tried l) := by
  have no : ∀ k, vireolaw26_tried.j0 (k + 1) l true = some false := fun k => by simp [vireolaw26_tried.j0]
  by_cases c0 : (l.length : Int) < 1
  · refine ev_no (fun k => ?_)
    unfold vireolaw26_tried.f
    rw [if_pos c0, no]
  · by_cases c1 : (l.length : Int) > 70
    · refine ev_no (fun k => ?_)
      unfold vireolaw26_tried.f
      rw [if_neg c0, if_pos c1, no]
    · by_cases c2 : (pt l 0).f0 = -1
      · obtain ⟨b, hb, hx⟩ := tried_l0 (l := l) (by omega) l.length 0 0 (by omega)
        refine ⟨b, Ev.step (f := fun k => vireolaw26_tried.l0 k l 0 ((0 : Nat) : Int)) (fun k => ?_) hb, fun e => ⟨by omega, by omega, c2, fun i hi => hx e i (Nat.zero_le _) hi⟩⟩
        unfold vireolaw26_tried.f
        rw [if_neg c0, if_neg c1, if_pos (by omega)]
        have : ((rd_T50 l 0).f0 != -1) = false := by have c3 : (rd_T50 l 0).f0 = -1 := c2; simp [c3]
        rw [this]
        simp [vireolaw26_tried.j0]
      · refine ev_no (fun k => ?_)
        unfold vireolaw26_tried.f
        rw [if_neg c0, if_neg c1, if_pos (by omega)]
        have : ((rd_T50 l 0).f0 != -1) = true := by have c3 : ¬ (rd_T50 l 0).f0 = -1 := c2; simp [c3]
        rw [this, no]
end Go.Proofs.Ytmhlellhfepkkaa.B
/- Plain: sums over a tree are sums over its list. -/
namespace Go.Proofs.Ytmhlellhfepkkaa.B
open Go.RowKit Go.Proofs.YtmhlellhfepkkaaW.PrintWords Go.Proofs.YtmhlellhfepkkaaW.PrintLast Go.Proofs.YtmhlellhfepkkaaW.PrintMore Go.Proofs.Ytmhlellhfepkkaa.PAl
set_option linter.unusedVariables false
set_option linter.unusedSimpArgs false
def wT (w : Nat → Nat) : Nat → List S50 → Nat → Nat
  | 0, l, i => 0
  | d + 1, l, i => w i + ((kidsOf l i (i + 1)).map (wT w d l)).sum
theorem wT_more (w : Nat → Nat) (l : List S50) : ∀ d d' i, l.length - i ≤ d → l.length - i ≤ d' → i < l.length → wT w d l i = wT w d' l i
  | 0, d', i, h1, h2, h3 => by omega
  | d + 1, 0, i, h1, h2, h3 => by omega
  | d + 1, d' + 1, i, h1, h2, h3 => by
    simp only [wT]
    congr 2
    refine List.map_congr_left (fun j hj => ?_)
    obtain ⟨q1, q2, _⟩ := kidsOf_mem hj
    exact wT_more w l d d' j (by omega) (by omega) q2
def wOf (w : Nat → Nat) (l : List S50) (i : Nat) : Nat := wT w (l.length - i) l i
theorem wOf_open (w : Nat → Nat) (l : List S50) {i : Nat} (h : i < l.length) : wOf w l i = w i + ((kidsOf l i (i + 1)).map (wOf w l)).sum := by
  unfold wOf
  obtain ⟨d, hd⟩ : ∃ d, l.length - i = d + 1 := ⟨l.length - i - 1, by omega⟩
  rw [hd]
  simp only [wT]
  congr 2
  refine List.map_congr_left (fun j hj => ?_)
  obtain ⟨q1, q2, _⟩ := kidsOf_mem hj
  exact wT_more w l d (l.length - j) j (by omega) (by omega) q2
def sumTo (w : Nat → Nat) : Nat → Nat
  | 0 => 0
  | n + 1 => sumTo w n + w n
def rest (w : Nat → Nat) (l : List S50) (m : Nat) : Nat := (((List.range' m (l.length - m)).filter fun j => decide ((pt l j).f0 < (m : Int))).map (wOf w l)).sum
theorem split_sum (l : List S50) (f : Nat → Nat) (m : Nat) : ∀ L : List Nat, ((L.filter fun j => decide ((pt l j).f0 < ((m + 1 : Nat) : Int))).map f).sum = ((L.filter fun j => decide ((pt l j).f0 < (m : Int))).map f).sum + ((L.filter fun j => decide ((pt l j).f0 = (m : Int))).map f).sum
  | [] => rfl
  | x :: L => by
    have ih := split_sum l f m L
    simp only [List.filter_cons]
    by_cases c1 : (pt l x).f0 < (m : Int)
    · have c2 : ¬ (pt l x).f0 = (m : Int) := by omega
      have c3 : (pt l x).f0 < ((m + 1 : Nat) : Int) := by omega
      simp only [decide_eq_true c1, decide_eq_false c2, decide_eq_true c3, if_true, if_false, List.map_cons, List.sum_cons, Bool.false_eq_true]
      omega
    · by_cases c2 : (pt l x).f0 = (m : Int)
      · have c3 : (pt l x).f0 < ((m + 1 : Nat) : Int) := by omega
        simp only [decide_eq_false c1, decide_eq_true c2, decide_eq_true c3, if_true, if_false, List.map_cons, List.sum_cons, Bool.false_eq_true]
        omega
      · have c3 : ¬ (pt l x).f0 < ((m + 1 : Nat) : Int) := by omega
        simp only [decide_eq_false c1, decide_eq_false c2, decide_eq_false c3, if_true, if_false, List.map_cons, List.sum_cons, Bool.false_eq_true]
        omega
theorem rest_step {w : Nat → Nat} {l : List S50} (ht : Tried l) {m : Nat} (h1 : 1 ≤ m) (h2 : m < l.length) : rest w l m = w m + rest w l (m + 1) := by
  unfold rest
  obtain ⟨d, hd⟩ : ∃ d, l.length - m = d + 1 := ⟨l.length - m - 1, by omega⟩
  have hm := (ht.good m h2).1 (by omega)
  rw [split_sum l (wOf w l) m, hd, List.range'_succ, List.filter_cons, show l.length - (m + 1) = d by omega]
  simp only [decide_eq_true hm.2, if_true, List.map_cons, List.sum_cons]
  rw [wOf_open w l h2]
  unfold kidsOf
  rw [show l.length - (m + 1) = d by omega]
  omega
theorem sum_rest {w : Nat → Nat} {l : List S50} (ht : Tried l) : ∀ (d m : Nat), d + m = l.length → 1 ≤ m → sumTo w m + rest w l m = sumTo w l.length
  | 0, m, h, h1 => by
    obtain rfl : m = l.length := by omega
    unfold rest
    rw [Nat.sub_self]
    rfl
  | d + 1, m, h, h1 => by
    have ih := sum_rest (w := w) ht d (m + 1) (by omega) (by omega)
    rw [rest_step ht h1 (by omega)]
    simp only [sumTo] at ih
    omega
/-- A sum over the whole tree. -/
theorem sum_all {l : List S50} (ht : Tried l) (w : Nat → Nat) : wOf w l 0 = sumTo w l.length := by
  have h0 := ht.pos
  rw [← sum_rest (w := w) ht (l.length - 1) 1 (by omega) (Nat.le_refl _), wOf_open w l h0]
  simp only [sumTo]
  have e : kidsOf l 0 (0 + 1) = (List.range' 1 (l.length - 1)).filter fun j => decide ((pt l j).f0 < ((1 : Nat) : Int)) := by
    unfold kidsOf
    refine List.filter_congr (fun j hj => ?_)
    rw [List.mem_range'_1] at hj
    have := (ht.good j (by omega)).1 (by omega)
    by_cases c : (pt l j).f0 = ((0 : Nat) : Int)
    · rw [decide_eq_true c, decide_eq_true (by omega)]
    · rw [decide_eq_false c, decide_eq_false (by omega)]
  rw [e]
  unfold rest
  omega
theorem sumTo_le {w w' : Nat → Nat} : ∀ n, (∀ i, i < n → w i ≤ w' i) → sumTo w n ≤ sumTo w' n
  | 0, _ => Nat.le_refl _
  | n + 1, h => by have := sumTo_le n (fun i hi => h i (by omega)); have := h n (by omega); simp only [sumTo]; omega
theorem sumTo_const (c : Nat) : ∀ n, sumTo (fun _ => c) n = c * n
  | 0 => rfl
  | n + 1 => by simp only [sumTo, sumTo_const c n, Nat.mul_succ]
theorem sumTo_zero {w : Nat → Nat} : ∀ n, sumTo w n = 0 ↔ ∀ i, i < n → w i = 0
  | 0 => ⟨fun _ i hi => by omega, fun _ => rfl⟩
  | n + 1 => by
    have ih := sumTo_zero (w := w) n
    simp only [sumTo]
    constructor
    · intro h i hi
      rcases Nat.lt_or_ge i n with q | q
      · exact ih.1 (by omega) i q
      · obtain rfl : i = n := by omega
        omega
    · intro h
      have := ih.2 (fun i hi => h i (by omega))
      have := h n (by omega)
      omega
/-! how deep a part lies -/
def dT (l : List S50) : Nat → Nat → Nat
  | 0, i => 0
  | d + 1, i => if i = 0 then 1 else dT l d (pt l i).f0.toNat + 1
theorem dT_more {l : List S50} (ht : Tried l) : ∀ d d' i, i < d → i < d' → i < l.length → dT l d i = dT l d' i
  | 0, d', i, h1, h2, h3 => by omega
  | d + 1, 0, i, h1, h2, h3 => by omega
  | d + 1, d' + 1, i, h1, h2, h3 => by
    simp only [dT]
    by_cases c : i = 0
    · rw [if_pos c, if_pos c]
    · rw [if_neg c, if_neg c]
      have := (ht.good i h3).1 (by omega)
      rw [dT_more ht d d' (pt l i).f0.toNat (by omega) (by omega) (by omega)]
def dOf (l : List S50) (i : Nat) : Nat := dT l (i + 1) i
theorem dOf_zero (l : List S50) : dOf l 0 = 1 := rfl
theorem dOf_open {l : List S50} (ht : Tried l) {i : Nat} (h0 : 0 < i) (hi : i < l.length) : dOf l i = dOf l (pt l i).f0.toNat + 1 := by
  have := (ht.good i hi).1 h0
  unfold dOf
  rw [dT, if_neg (by omega), dT_more ht i ((pt l i).f0.toNat + 1) _ (by omega) (by omega) (by omega)]
theorem dOf_kid {l : List S50} (ht : Tried l) {i j f : Nat} (h : j ∈ kidsOf l i f) (hf : 0 < f) : dOf l j = dOf l i + 1 := by
  obtain ⟨q1, q2, q3⟩ := kidsOf_mem h
  rw [dOf_open ht (by omega) q2, q3, Int.toNat_natCast]
theorem dOf_pos {l : List S50} (i : Nat) : 1 ≤ dOf l i := by unfold dOf; rw [dT]; split <;> omega
theorem dOf_one {l : List S50} (ht : Tried l) {i : Nat} (hi : i < l.length) : dOf l i = 1 ↔ i = 0 := by
  constructor
  · intro h
    rcases Nat.eq_zero_or_pos i with q | q
    · exact q
    · rw [dOf_open ht q hi] at h
      have := dOf_pos (l := l) (pt l i).f0.toNat
      omega
  · rintro rfl; rfl
theorem dOf_le {l : List S50} (ht : Tried l) : ∀ (d i : Nat), i ≤ d → i < l.length → dOf l i ≤ i + 1
  | 0, i, h1, h2 => by obtain rfl : i = 0 := by omega
                       exact Nat.le_refl _
  | d + 1, i, h1, h2 => by
    rcases Nat.eq_zero_or_pos i with rfl | q
    · exact Nat.le_refl _
    · have := (ht.good i h2).1 q
      rw [dOf_open ht q h2]
      have := dOf_le ht d (pt l i).f0.toNat (by omega) (by omega)
      omega
end Go.Proofs.Ytmhlellhfepkkaa.B
/- Plain: names. -/
namespace Go.Proofs.Ytmhlellhfepkkaa.B
open Go.RowKit Go.Proofs.YtmhlellhfepkkaaW.PrintWords Go.Proofs.YtmhlellhfepkkaaW.PrintLast Go.Proofs.YtmhlellhfepkkaaW.PrintMore Go.Proofs.Ytmhlellhfepkkaa.PAl
set_option linter.unusedVariables false
set_option linter.unusedSimpArgs false
theorem bt_mid (s : ByteArray) (pre suf : List Int) (x : Int) (h : bytesOf s = pre ++ x :: suf) : bt s (pre.length : Int) = x := by
  have hl : s.size = pre.length + (suf.length + 1) := by have := congrArg List.length h; rw [bytesOf_length] at this; simpa using this
  unfold bt
  rw [Int.toNat_natCast, dif_pos (by omega)]
  have h2 : (bytesOf s)[pre.length]? = some x := by rw [h]; simp
  unfold bytesOf at h2
  rw [List.getElem?_map] at h2
  obtain ⟨b, hb, hx⟩ := Option.map_eq_some_iff.1 h2
  rw [← hx]
  have hb2 : s.data.toList[pre.length]? = some b := hb
  rw [Array.getElem?_toList] at hb2
  obtain ⟨hlt, he⟩ := Array.getElem?_eq_some_iff.1 hb2
  show ((s.data[pre.length].toNat : Nat) : Int) = _
  rw [he]
def okB (x : Int) : Bool := decide (33 ≤ x) && decide (x ≤ 126)
/-- May a text be a name? -/
def nmOK (s : ByteArray) (e : Bool) : Bool := if s.size = 0 then e else decide (s.size ≤ 31) && (bytesOf s).all okB
theorem size_toList (s : ByteArray) : s.toList = [] ↔ s.size = 0 := by rw [ByteArray.toList_eq, ← data_length s]; exact List.length_eq_zero_iff.symm
theorem named_loop (s : ByteArray) (hs : s.size ≤ 1000) : ∀ (suf pre : List Int), bytesOf s = pre ++ suf → Ev (fun k => fdt_named.l0 k s (s.size : Int) (pre.length : Int)) (suf.all okB)
  | [], pre, h => by
    have hl : s.size = pre.length := by have := congrArg List.length h; rw [bytesOf_length] at this; simpa using this
    refine Ev.step (f := fun _ => some true) (fun k => ?_) (Ev.now _)
    simp only [fdt_named.l0]
    rw [if_neg (by omega)]
  | x :: suf, pre, h => by
    have hl : s.size = pre.length + (suf.length + 1) := by have := congrArg List.length h; rw [bytesOf_length] at this; simpa using this
    have hb := bt_mid s pre suf x h
    by_cases c1 : x ≤ 32
    · have e : (x :: suf).all okB = false := by simp [okB]; intro q; omega
      rw [e]
      refine Ev.step (f := fun _ => some false) (fun k => ?_) (Ev.now _)
      simp only [fdt_named.l0]
      rw [if_pos (by omega), if_pos (by omega), if_pos (by omega), hb, if_pos c1]
    · by_cases c2 : x > 126
      · have e : (x :: suf).all okB = false := by simp [okB]; intro q; omega
        rw [e]
        refine Ev.step (f := fun _ => some false) (fun k => ?_) (Ev.now _)
        simp only [fdt_named.l0]
        rw [if_pos (by omega), if_pos (by omega), if_pos (by omega), hb, if_neg c1, if_pos c2]
      · have ih := named_loop s hs suf (pre ++ [x]) (by simp [h])
        have e : (x :: suf).all okB = suf.all okB := by simp [okB]; omega
        rw [e]
        refine Ev.step (f := fun k => fdt_named.l0 k s (s.size : Int) ((pre ++ [x]).length : Int)) (fun k => ?_) ih
        simp only [fdt_named.l0]
        rw [if_pos (by omega), if_pos (by omega), if_pos (by omega), hb, if_neg c1, if_neg c2, w64 (by omega) (by omega)]
        simp
theorem named_is (s : ByteArray) (e : Bool) : Ev (fun k => fdt_named.f k s e) (nmOK s e) := by
  unfold fdt_named.f nmOK
  by_cases c : s.size = 0
  · rw [if_pos c]
    refine Ev.congr (f := fun _ => some e) (fun k => ?_) (Ev.now _)
    rw [if_pos ((size_toList s).2 c)]
  · rw [if_neg c]
    by_cases c2 : (s.size : Int) > 31
    · have e2 : (decide (s.size ≤ 31) && (bytesOf s).all okB) = false := by rw [decide_eq_false (by omega)]; rfl
      rw [e2]
      refine Ev.congr (f := fun _ => some false) (fun k => ?_) (Ev.now _)
      rw [if_neg (fun q => c ((size_toList s).1 q)), if_pos c2]
    · have e2 : (decide (s.size ≤ 31) && (bytesOf s).all okB) = (bytesOf s).all okB := by rw [decide_eq_true (by omega), Bool.true_and]
      rw [e2]
      refine Ev.congr (f := fun k => fdt_named.l0 k s (s.size : Int) (([] : List Int).length : Int)) (fun k => ?_) (named_loop s (by omega) (bytesOf s) [] rfl)
      rw [if_neg (fun q => c ((size_toList s).1 q)), if_neg c2]
      rfl
theorem Named_loop (s : ByteArray) (hs : s.size ≤ 1000) : ∀ (suf pre : List Int), bytesOf s = pre ++ suf → Ev (fun k => vireoref26_Named.l0 k s (pre.length : Int)) (suf.all okB)
  | [], pre, h => by
    have hl : s.size = pre.length := by have := congrArg List.length h; rw [bytesOf_length] at this; simpa using this
    refine Ev.step (f := fun _ => some true) (fun k => ?_) (Ev.now _)
    simp only [vireoref26_Named.l0]
    rw [if_neg (by omega)]
  | x :: suf, pre, h => by
    have hl : s.size = pre.length + (suf.length + 1) := by have := congrArg List.length h; rw [bytesOf_length] at this; simpa using this
    have hb := bt_mid s pre suf x h
    by_cases c1 : x < 33
    · have e : (x :: suf).all okB = false := by simp [okB]; intro q; omega
      rw [e]
      refine Ev.step (f := fun _ => some false) (fun k => ?_) (Ev.now _)
      simp only [vireoref26_Named.l0]
      rw [if_pos (by omega), if_pos (by omega), hb, if_pos c1]
    · by_cases c2 : x > 126
      · have e : (x :: suf).all okB = false := by simp [okB]; intro q; omega
        rw [e]
        refine Ev.step (f := fun _ => some false) (fun k => ?_) (Ev.now _)
        simp only [vireoref26_Named.l0]
        rw [if_pos (by omega), if_pos (by omega), hb, if_neg c1, if_pos c2]
      · have ih := Named_loop s hs suf (pre ++ [x]) (by simp [h])
        have e : (x :: suf).all okB = suf.all okB := by simp [okB]; omega
        rw [e]
        refine Ev.step (f := fun k => vireoref26_Named.l0 k s ((pre ++ [x]).length : Int)) (fun k => ?_) ih
        simp only [vireoref26_Named.l0]
        rw [if_pos (by omega), if_pos (by omega), hb, if_neg c1, if_neg c2, w64 (by omega) (by omega)]
        simp
theorem Named_is (s : ByteArray) : Ev (fun k => vireoref26_Named.f k s) (nmOK s false) := by
  unfold vireoref26_Named.f nmOK
  by_cases c : s.size = 0
  · rw [if_pos c]
    refine Ev.step (f := fun _ => some false) (fun k => ?_) (Ev.now _)
    rw [if_pos (by omega)]
    simp [vireoref26_Named.j0]
  · rw [if_neg c]
    by_cases c2 : (s.size : Int) > 31
    · have e2 : (decide (s.size ≤ 31) && (bytesOf s).all okB) = false := by rw [decide_eq_false (by omega)]; rfl
      rw [e2]
      refine Ev.step (f := fun _ => some false) (fun k => ?_) (Ev.now _)
      rw [if_neg (by omega), decide_eq_true c2]
      simp [vireoref26_Named.j0]
    · have e2 : (decide (s.size ≤ 31) && (bytesOf s).all okB) = (bytesOf s).all okB := by rw [decide_eq_true (by omega), Bool.true_and]
      rw [e2]
      refine Ev.step (f := fun k => vireoref26_Named.l0 k s (([] : List Int).length : Int)) (fun k => ?_) (Named_loop s (by omega) (bytesOf s) [] rfl)
      rw [if_neg (by omega), decide_eq_false c2]
      simp [vireoref26_Named.j0]
end Go.Proofs.Ytmhlellhfepkkaa.B
/- Plain: whether a tree may be. -/
namespace Go.Proofs.Ytmhlellhfepkkaa.B
open Go.RowKit Go.Proofs.YtmhlellhfepkkaaW.PrintWords Go.Proofs.YtmhlellhfepkkaaW.PrintLast Go.Proofs.YtmhlellhfepkkaaW.PrintMore Go.Proofs.Ytmhlellhfepkkaa.PAl
set_option linter.unusedVariables false
set_option linter.unusedSimpArgs false
def okProp (q : S55) : Bool := nmOK q.f0 false && decide (q.f1.length ≤ 4096)
def okPart (l : List S50) (i : Nat) : Bool := decide (dOf l i ≤ 8) && nmOK (pt l i).f1 (i == 0) && decide ((pt l i).f2.length ≤ 256) && (pt l i).f2.all okProp
def bad (l : List S50) (i : Nat) : Nat := if okPart l i = true then 0 else 1
def one_ (i : Nat) : Nat := 1
def nprops (l : List S50) (i : Nat) : Nat := (pt l i).f2.length
def NN (l : List S50) (i : Nat) : Nat := wOf one_ l i
def PP (l : List S50) (i : Nat) : Nat := wOf (nprops l) l i
def BB (l : List S50) (i : Nat) : Nat := wOf (bad l) l i
def cOK (l : List S50) (i : Nat) : Prop := BB l i = 0 ∧ NN l i ≤ 64 ∧ PP l i ≤ 256
instance (l : List S50) (i : Nat) : Decidable (cOK l i) := by unfold cOK; infer_instance
theorem rd74_mid (pre suf : List S74) (x : S74) : rd_T74 (pre ++ x :: suf) (pre.length : Int) = x := by
  unfold rd_T74; rw [Int.toNat_natCast]; simp [List.getD, List.getElem?_append_right]
theorem rd32_mid (pre suf : List S32) (x : S32) : rd_T32 (pre ++ x :: suf) (pre.length : Int) = x := by
  unfold rd_T32; rw [Int.toNat_natCast]; simp [List.getD, List.getElem?_append_right]
/-- the loop over what is told -/
theorem count_l0 (ps : List S74) (hp : ps.length ≤ 1000) (dep a b : Int) (nm : ByteArray) (ks : List S32) {r : Int × Int × Bool} (hend : Ev (fun k => fdt_count.l1 k dep a b ks (ks.length : Int) 0) r) :
    ∀ (suf pre : List S74), ps = pre ++ suf → Ev (fun k => fdt_count.l0 k dep a b ps (ps.length : Int) (pre.length : Int) nm ps ks) (if (suf.all fun q => nmOK q.f0 false && decide (q.f1.length ≤ 4096)) = true then r else (0, 0, false))
  | [], pre, h => by
    have h' : ps = pre := by simpa using h
    rw [if_pos (by rfl)]
    refine Ev.step (f := fun k => fdt_count.l1 k dep a b ks (ks.length : Int) 0) (fun k => ?_) hend
    simp only [fdt_count.l0]
    rw [if_neg (by rw [h']; omega)]
  | x :: suf, pre, h => by
    have hlen : ps.length = pre.length + (suf.length + 1) := by rw [h]; simp
    have hr : rd_T74 ps (pre.length : Int) = x := by rw [h]; exact rd74_mid _ _ _
    have ih := count_l0 ps hp dep a b nm ks hend suf (pre ++ [x]) (by simp [h])
    refine Ev.step (f := fun k => (fdt_named.f k x.f0 false).bind fun t105 => (if t105 = true then (if ((x.f1).length : Int) > 4096 then (some (0, 0, false)) else (fdt_count.l0 k dep a b ps (ps.length : Int) ((pre ++ [x]).length : Int) nm ps ks)) else (some (0, 0, false)))) (fun k => ?_) ?_
    · simp only [fdt_count.l0]
      rw [if_pos (by omega), if_pos (by omega), if_pos (by omega), hr, w64 (by omega) (by omega)]
      simp
    · refine Ev.bind (named_is x.f0 false) ?_
      cases hn : nmOK x.f0 false with
      | false =>
        rw [if_neg (by simp [hn])]
        exact Ev.congr (f := fun _ => some (0, 0, false)) (fun k => by simp) (Ev.now _)
      | true =>
        by_cases c : (x.f1.length : Int) > 4096
        · rw [if_neg (by simp [hn]; intro q; omega)]
          exact Ev.congr (f := fun _ => some (0, 0, false)) (fun k => by rw [if_pos rfl, if_pos c]) (Ev.now _)
        · have e : ((x :: suf).all fun q => nmOK q.f0 false && decide (q.f1.length ≤ 4096)) = (suf.all fun q => nmOK q.f0 false && decide (q.f1.length ≤ 4096)) := by simp [hn]; intro _; omega
          rw [e]
          exact Ev.congr (fun k => by rw [if_pos rfl, if_neg c]) ih
theorem NN_pos (l : List S50) {i : Nat} (h : i < l.length) : 1 ≤ NN l i := by unfold NN; rw [wOf_open _ l h]; unfold one_; omega
theorem sum_ge {ks : List Nat} (f : Nat → Nat) (h : ∀ x, x ∈ ks → 1 ≤ f x) : ks.length ≤ (ks.map f).sum := by
  induction ks with
  | nil => exact Nat.le_refl _
  | cons a ks ih =>
    have := h a List.mem_cons_self
    have := ih (fun x hx => h x (List.mem_cons_of_mem _ hx))
    simp only [List.map_cons, List.sum_cons, List.length_cons]; omega
/-- the loop over the parts -/
theorem count_l1 {l : List S50} (ht : Tried l) {dep : Int} (hd0 : 0 ≤ dep) (hd1 : dep ≤ 1000) (ks0 : List Nat) (hk0 : ks0.length ≤ 1000) (hk : ∀ j, j ∈ ks0 → j < l.length ∧ Ev (fun k => fdt_count.f k (nodeOf l j).f0 (nodeOf l j).f1 (nodeOf l j).f2 (dep + 1)) (if cOK l j then ((NN l j : Int), (PP l j : Int), true) else (0, 0, false))) :
    ∀ (suf pre : List Nat) (a b : Nat), ks0 = pre ++ suf → a ≤ 64 → b ≤ 256 → Ev (fun k => fdt_count.l1 k dep (a : Int) (b : Int) (ks0.map (nodeOf l)) ((ks0.map (nodeOf l)).length : Int) (pre.length : Int))
      (if (suf.map (BB l)).sum = 0 ∧ a + (suf.map (NN l)).sum ≤ 64 ∧ b + (suf.map (PP l)).sum ≤ 256 then (((a + (suf.map (NN l)).sum : Nat) : Int), ((b + (suf.map (PP l)).sum : Nat) : Int), true) else (0, 0, false))
  | [], pre, a, b, h, ha, hb => by
    have h' : ks0 = pre := by simpa using h
    rw [if_pos ⟨rfl, by simpa using ha, by simpa using hb⟩]
    refine Ev.step (f := fun _ => some ((a : Int), (b : Int), true)) (fun k => ?_) (by simpa using Ev.now _)
    simp only [fdt_count.l1]
    rw [if_neg (by rw [h', List.length_map]; omega)]
  | j :: suf, pre, a, b, h, ha, hb => by
    have hlen : ks0.length = pre.length + (suf.length + 1) := by rw [h]; simp
    have hml : (ks0.map (nodeOf l)).length = ks0.length := List.length_map ..
    have hr : rd_T32 (ks0.map (nodeOf l)) (pre.length : Int) = nodeOf l j := by
      rw [h, List.map_append, List.map_cons]
      have := rd32_mid (pre.map (nodeOf l)) (suf.map (nodeOf l)) (nodeOf l j)
      rwa [List.length_map] at this
    obtain ⟨hj, hc⟩ := hk j (by rw [h]; simp)
    refine Ev.step (f := fun k => (fdt_count.f k (nodeOf l j).f0 (nodeOf l j).f1 (nodeOf l j).f2 (dep + 1)).bind fun bt108 => (if bt108.2.2 = true then (if (wrap64 ((a : Int) + bt108.1)) > 64 then (some (0, 0, false)) else (if (wrap64 ((b : Int) + bt108.2.1)) > 256 then (some (0, 0, false)) else (fdt_count.l1 k dep (wrap64 ((a : Int) + bt108.1)) (wrap64 ((b : Int) + bt108.2.1)) (ks0.map (nodeOf l)) ((ks0.map (nodeOf l)).length : Int) ((pre ++ [j]).length : Int)))) else (some (0, 0, false)))) (fun k => ?_) (Ev.bind hc ?_)
    · simp only [fdt_count.l1]
      rw [if_pos (by omega), if_pos (by omega), if_pos (by omega), hr, w64 (x := dep + 1) (by omega) (by omega), w64 (x := (pre.length : Int) + 1) (by omega) (by omega)]
      simp
    · simp only [List.map_cons, List.sum_cons]
      by_cases c : cOK l j
      · simp only [if_pos c, if_true]
        obtain ⟨c1, c2, c3⟩ := c
        have w1 : wrap64 ((a : Int) + (NN l j : Int)) = ((a + NN l j : Nat) : Int) := by rw [w64 (by omega) (by omega)]; omega
        have w2 : wrap64 ((b : Int) + (PP l j : Int)) = ((b + PP l j : Nat) : Int) := by rw [w64 (by omega) (by omega)]; omega
        rw [w1, w2]
        clear w1 w2
        by_cases d1 : a + NN l j > 64
        · rw [if_neg (by omega)]
          exact Ev.congr (f := fun _ => some (0, 0, false)) (fun k => by rw [if_pos (by omega)]) (Ev.now _)
        · by_cases d2 : b + PP l j > 256
          · rw [if_neg (by omega)]
            exact Ev.congr (f := fun _ => some (0, 0, false)) (fun k => by rw [if_neg (by omega), if_pos (by omega)]) (Ev.now _)
          · have ih := count_l1 ht hd0 hd1 ks0 hk0 hk suf (pre ++ [j]) (a + NN l j) (b + PP l j) (by simp [h]) (by omega) (by omega)
            rw [c1, Nat.zero_add]
            rw [← Nat.add_assoc, ← Nat.add_assoc]
            exact Ev.congr (fun k => by rw [if_neg (by omega), if_neg (by omega)]) ih
      · simp only [if_neg c, Bool.false_eq_true, if_false]
        have : ¬ (BB l j + (suf.map (BB l)).sum = 0 ∧ a + (NN l j + (suf.map (NN l)).sum) ≤ 64 ∧ b + (PP l j + (suf.map (PP l)).sum) ≤ 256) := fun q => c ⟨by omega, by omega, by omega⟩
        rw [if_neg this]
        exact Ev.now _
/-- What 'count' says of a part. -/
theorem count_is {l : List S50} (ht : Tried l) : ∀ (d i : Nat), l.length - i ≤ d → i < l.length → Ev (fun k => fdt_count.f k (nodeOf l i).f0 (nodeOf l i).f1 (nodeOf l i).f2 (dOf l i : Int)) (if cOK l i then ((NN l i : Int), (PP l i : Int), true) else (0, 0, false))
  | 0, i, hd, hi => by omega
  | d + 1, i, hd, hi => by
    have hl := ht.len
    have hdl := dOf_le ht i i (Nat.le_refl _) hi
    have hdp := dOf_pos (l := l) i
    have hkl : (kidsOf l i (i + 1)).length ≤ 1000 := by
      unfold kidsOf
      have := List.length_filter_le (fun j => decide ((pt l j).f0 = (i : Int))) (List.range' (i + 1) (l.length - (i + 1)))
      rw [List.length_range'] at this
      omega
    have hp := (ht.good i hi).2.2.1
    have hps : (propsOf (pt l i)).length = (pt l i).f2.length := by simp [propsOf]
    rw [nodeOf_open l hi]
    dsimp only
    have hml : ((kidsOf l i (i + 1)).map (nodeOf l)).length = (kidsOf l i (i + 1)).length := List.length_map ..
    have j0no : ∀ k, fdt_count.j0 (k + 1) (dOf l i : Int) true (pt l i).f1 (propsOf (pt l i)) ((kidsOf l i (i + 1)).map (nodeOf l)) = some (0, 0, false) := fun k => by simp [fdt_count.j0]
    have nb : okPart l i = false → ¬ cOK l i := by
      intro q ⟨q1, _⟩
      unfold BB at q1
      rw [wOf_open _ l hi] at q1
      unfold bad at q1
      rw [if_neg (by simp [q])] at q1
      omega
    have allp : ((propsOf (pt l i)).all fun q => nmOK q.f0 false && decide (q.f1.length ≤ 4096)) = (pt l i).f2.all okProp := by
      unfold propsOf; rw [List.all_map]; rfl
    have e1 : (((dOf l i : Nat) : Int) == 1) = (i == 0) := by
      by_cases q : i = 0
      · have := (dOf_one ht hi).2 q; subst q; rw [this]; rfl
      · have h1 : ¬ dOf l i = 1 := fun z => q ((dOf_one ht hi).1 z)
        have h2 : (i == 0) = false := by simpa using q
        rw [h2]; simp; omega
    by_cases c1 : (dOf l i : Int) > 8
    · rw [if_neg (nb (by unfold okPart; rw [decide_eq_false (by omega)]; rfl))]
      refine Ev.step (f := fun k => fdt_count.j0 k (dOf l i : Int) true (pt l i).f1 (propsOf (pt l i)) ((kidsOf l i (i + 1)).map (nodeOf l))) (fun k => ?_) (Ev.step j0no (Ev.now _))
      simp only [fdt_count.f]
      rw [if_pos c1]
    · refine Ev.step (f := fun k => (fdt_named.f k (pt l i).f1 (i == 0)).bind fun t102 => (if t102 = true then (if ((propsOf (pt l i)).length : Int) > 256 then (fdt_count.j0 k (dOf l i : Int) true (pt l i).f1 (propsOf (pt l i)) ((kidsOf l i (i + 1)).map (nodeOf l))) else (fdt_count.j0 k (dOf l i : Int) (decide ((((kidsOf l i (i + 1)).map (nodeOf l)).length : Int) > 64)) (pt l i).f1 (propsOf (pt l i)) ((kidsOf l i (i + 1)).map (nodeOf l)))) else (fdt_count.j0 k (dOf l i : Int) true (pt l i).f1 (propsOf (pt l i)) ((kidsOf l i (i + 1)).map (nodeOf l))))) (fun k => ?_) (Ev.bind (named_is (pt l i).f1 (i == 0)) ?_)
      · simp only [fdt_count.f]
        rw [if_neg c1, e1]
      · cases hn : nmOK (pt l i).f1 (i == 0) with
        | false =>
          rw [if_neg (nb (by unfold okPart; rw [hn]; simp))]
          exact Ev.step (fun k => by rw [if_neg (by simp)]; exact j0no k) (Ev.now _)
        | true =>
          simp only [if_true]
          by_cases c2 : ((propsOf (pt l i)).length : Int) > 256
          · rw [if_neg (nb (by unfold okPart; rw [decide_eq_false (show ¬ (pt l i).f2.length ≤ 256 by omega)]; simp))]
            exact Ev.step (fun k => by rw [if_pos c2]; exact j0no k) (Ev.now _)
          · by_cases c3 : (((kidsOf l i (i + 1)).map (nodeOf l)).length : Int) > 64
            · have : ¬ cOK l i := by
                rintro ⟨_, q2, _⟩
                unfold NN at q2
                rw [wOf_open _ l hi] at q2
                have := sum_ge (ks := kidsOf l i (i + 1)) (NN l) (fun x hx => NN_pos l (kidsOf_mem hx).2.1)
                have e : ((kidsOf l i (i + 1)).map (wOf one_ l)).sum = ((kidsOf l i (i + 1)).map (NN l)).sum := rfl
                unfold one_ at q2
                change 1 + ((kidsOf l i (i + 1)).map (NN l)).sum ≤ 64 at q2
                omega
              rw [if_neg this]
              exact Ev.step (fun k => by rw [if_neg c2, decide_eq_true c3]; exact j0no k) (Ev.now _)
            · have h1 := count_l1 ht (dep := (dOf l i : Int)) (by omega) (by omega) (kidsOf l i (i + 1)) hkl (fun j hj => by
                obtain ⟨q1, q2, q3⟩ := kidsOf_mem hj
                have := count_is ht d j (by omega) q2
                rw [dOf_kid ht hj (by omega)] at this
                exact ⟨q2, by simpa using this⟩) (kidsOf l i (i + 1)) [] 1 (pt l i).f2.length rfl (by omega) (by omega)
              have h0 := count_l0 (propsOf (pt l i)) (by omega) (dOf l i : Int) 1 ((pt l i).f2.length : Int) (pt l i).f1 ((kidsOf l i (i + 1)).map (nodeOf l)) h1 (propsOf (pt l i)) [] rfl
              rw [allp] at h0
              have hNN : NN l i = 1 + ((kidsOf l i (i + 1)).map (NN l)).sum := by unfold NN; rw [wOf_open _ l hi]; rfl
              have hPP : PP l i = (pt l i).f2.length + ((kidsOf l i (i + 1)).map (PP l)).sum := by unfold PP; rw [wOf_open _ l hi]; rfl
              have hBB : BB l i = bad l i + ((kidsOf l i (i + 1)).map (BB l)).sum := by unfold BB; rw [wOf_open _ l hi]
              have he : (if (pt l i).f2.all okProp = true then (if ((kidsOf l i (i + 1)).map (BB l)).sum = 0 ∧ 1 + ((kidsOf l i (i + 1)).map (NN l)).sum ≤ 64 ∧ (pt l i).f2.length + ((kidsOf l i (i + 1)).map (PP l)).sum ≤ 256 then (((1 + ((kidsOf l i (i + 1)).map (NN l)).sum : Nat) : Int), (((pt l i).f2.length + ((kidsOf l i (i + 1)).map (PP l)).sum : Nat) : Int), true) else (0, 0, false)) else (0, 0, false)) = (if cOK l i then ((NN l i : Int), (PP l i : Int), true) else (0, 0, false)) := by
                rw [← hNN, ← hPP]
                cases hq : (pt l i).f2.all okProp with
                | false =>
                  rw [if_neg (by simp), if_neg (nb (by unfold okPart; rw [hq]; simp))]
                | true =>
                  have hb : bad l i = 0 := by
                    unfold bad okPart
                    rw [hn, hq, decide_eq_true (show dOf l i ≤ 8 by omega), decide_eq_true (show (pt l i).f2.length ≤ 256 by omega)]
                    rfl
                  rw [hb, Nat.zero_add] at hBB
                  rw [if_pos rfl, ← hBB]
                  rfl
              rw [he] at h0
              refine Ev.step (f := fun k => fdt_count.l0 k (dOf l i : Int) 1 ((pt l i).f2.length : Int) (propsOf (pt l i)) ((propsOf (pt l i)).length : Int) 0 (pt l i).f1 (propsOf (pt l i)) ((kidsOf l i (i + 1)).map (nodeOf l))) (fun k => ?_) h0
              rw [if_neg c2, decide_eq_false c3]
              simp only [fdt_count.j0, hps]
              rw [if_neg (by simp)]
/-- May the tree be? -/
theorem right_is {l : List S50} (ht : Tried l) : Ev (fun k => fdt_Right.f k (nodeOf l 0).f0 (nodeOf l 0).f1 (nodeOf l 0).f2) (if cOK l 0 then 0 else 250) := by
  unfold fdt_Right.f
  have h := count_is ht l.length 0 (by omega) ht.pos
  rw [dOf_zero] at h
  refine Ev.bind h ?_
  by_cases c : cOK l 0
  · simp only [if_pos c, if_true]; exact Ev.now _
  · simp only [if_neg c, Bool.false_eq_true, if_false]; exact Ev.now _
end Go.Proofs.Ytmhlellhfepkkaa.B
/- Plain: a part is the same as itself. -/
namespace Go.Proofs.Ytmhlellhfepkkaa.B
open Go.RowKit Go.Proofs.YtmhlellhfepkkaaW.PrintWords Go.Proofs.YtmhlellhfepkkaaW.PrintLast Go.Proofs.YtmhlellhfepkkaaW.PrintMore Go.Proofs.Ytmhlellhfepkkaa.PAl
set_option linter.unusedVariables false
set_option linter.unusedSimpArgs false
/-- No deeper than so. -/
def Shal : Nat → S32 → Prop
  | 0, _ => False
  | d + 1, n => n.f1.length < 1099511627776 ∧ (∀ p ∈ n.f1, p.f1.length < 1099511627776) ∧ n.f2.length < 1099511627776 ∧ ∀ x ∈ n.f2, Shal d x
theorem same_l1 (n : S32) (D : Int) (h1 : 1 ≤ D) (h2 : D < 1099511627776) (hl : n.f2.length < 1099511627776) (hk : ∀ x ∈ n.f2, Ev (fun k => vireolaw26_Same.f k x.f0 x.f1 x.f2 x.f0 x.f1 x.f2 (D - 1)) true) :
    ∀ (suf pre : List S32), n.f2 = pre ++ suf → Ev (fun k => vireolaw26_Same.l1 k D (pre.length : Int) n.f0 n.f1 n.f2 n.f0 n.f1 n.f2) true
  | [], pre, h => by
    have h' : n.f2 = pre := by simpa using h
    refine Ev.step (f := fun _ => some true) (fun k => ?_) (Ev.now _)
    simp only [vireolaw26_Same.l1]
    rw [if_neg (by rw [h']; omega)]
  | x :: suf, pre, h => by
    have ih := same_l1 n D h1 h2 hl hk suf (pre ++ [x]) (by simp [h])
    have hlen : n.f2.length = pre.length + (suf.length + 1) := by rw [h]; simp
    have hr : rd_T32 n.f2 (pre.length : Int) = x := by rw [h]; exact rd32_mid _ _ _
    refine Ev.step (f := fun k => (vireolaw26_Same.f k x.f0 x.f1 x.f2 x.f0 x.f1 x.f2 (D - 1)).bind fun t => if t = true then vireolaw26_Same.l1 k D ((pre ++ [x]).length : Int) n.f0 n.f1 n.f2 n.f0 n.f1 n.f2 else some false) (fun k => ?_) (Ev.bind (hk x (by rw [h]; simp)) (Ev.congr (fun k => by rw [if_pos rfl]) ih))
    simp only [vireolaw26_Same.l1]
    rw [if_pos (by omega), if_pos (by omega), if_pos (by omega), hr, w64 (by omega) (by omega), w64 (by omega) (by omega)]
    simp
theorem same_l0 (n : S32) (D : Int) (hl : n.f1.length < 1099511627776) (hp : ∀ p ∈ n.f1, p.f1.length < 1099511627776) (hend : Ev (fun k => vireolaw26_Same.l1 k D 0 n.f0 n.f1 n.f2 n.f0 n.f1 n.f2) true) :
    ∀ (suf pre : List S74), n.f1 = pre ++ suf → Ev (fun k => vireolaw26_Same.l0 k D (pre.length : Int) n.f0 n.f1 n.f2 n.f0 n.f1 n.f2) true
  | [], pre, h => by
    have h' : n.f1 = pre := by simpa using h
    refine Ev.step (f := fun k => vireolaw26_Same.l1 k D 0 n.f0 n.f1 n.f2 n.f0 n.f1 n.f2) (fun k => ?_) hend
    simp only [vireolaw26_Same.l0]
    rw [if_neg (by rw [h']; omega)]
  | x :: suf, pre, h => by
    have ih := same_l0 n D hl hp hend suf (pre ++ [x]) (by simp [h])
    have hlen : n.f1.length = pre.length + (suf.length + 1) := by rw [h]; simp
    have hr : rd_T74 n.f1 (pre.length : Int) = x := by rw [h]; exact rd74_mid _ _ _
    have hx := hp x (by rw [h]; simp)
    have hb := bytes_is x.f1 x.f1 (by omega)
    refine Ev.step (f := fun k => (vireoref02_Bytes.f k x.f1 x.f1).bind fun t => if t = true then vireolaw26_Same.l0 k D ((pre ++ [x]).length : Int) n.f0 n.f1 n.f2 n.f0 n.f1 n.f2 else some false) (fun k => ?_) (Ev.bind hb (Ev.congr (fun k => by rw [if_pos (by simp)]) ih))
    simp only [vireolaw26_Same.l0]
    rw [if_pos (by omega), if_pos (by omega), if_pos (by omega), hr, if_pos trivial, w64 (by omega) (by omega)]
    simp
theorem same_refl : ∀ (d : Nat) (n : S32) (D : Int), Shal d n → (d : Int) ≤ D → D < 1099511627776 → Ev (fun k => vireolaw26_Same.f k n.f0 n.f1 n.f2 n.f0 n.f1 n.f2 D) true
  | 0, n, D, h, h1, h2 => h.elim
  | d + 1, n, D, h, h1, h2 => by
    obtain ⟨g1, g2, g3, g4⟩ := h
    have e1 := same_l1 n D (by omega) h2 g3 (fun x hx => same_refl d x (D - 1) (g4 x hx) (by omega) (by omega)) n.f2 [] rfl
    have e0 := same_l0 n D g1 g2 e1 n.f1 [] rfl
    refine Ev.step (f := fun k => vireolaw26_Same.j0 k D ((n.f2.length : Int) != (n.f2.length : Int)) n.f0 n.f1 n.f2 n.f0 n.f1 n.f2) (fun k => ?_) (Ev.step (f := fun k => vireolaw26_Same.l0 k D 0 n.f0 n.f1 n.f2 n.f0 n.f1 n.f2) (fun k => ?_) e0)
    · simp only [vireolaw26_Same.f]
      rw [if_neg (by omega), if_pos trivial, if_pos trivial]
    · simp only [vireolaw26_Same.j0]
      rw [if_neg (by simp)]
theorem shal_of {l : List S50} (ht : Tried l) : ∀ (d i : Nat), l.length - i ≤ d → i < l.length → Shal d (nodeOf l i)
  | 0, i, hd, hi => by omega
  | d + 1, i, hd, hi => by
    obtain ⟨_, _, g2, g3⟩ := ht.good i hi
    rw [nodeOf_open l hi]
    have hl := ht.len
    refine ⟨by simp only [propsOf, List.length_map]; omega, fun p hp => ?_, ?_, fun x hx => ?_⟩
    · obtain ⟨q, hq, rfl⟩ := List.mem_map.1 hp
      have := (g3 q hq).1
      dsimp only
      omega
    · simp only [List.length_map]
      unfold kidsOf
      have := List.length_filter_le (fun j => decide ((pt l j).f0 = (i : Int))) (List.range' (i + 1) (l.length - (i + 1)))
      rw [List.length_range'] at this
      omega
    · obtain ⟨j, hj, rfl⟩ := List.mem_map.1 hx
      have := kidsOf_mem hj
      exact shal_of ht d j (by omega) this.2.1
end Go.Proofs.Ytmhlellhfepkkaa.B
/- Plain: the law FdtFinds. -/
namespace Go.Proofs.Ytmhlellhfepkkaa.B
open Go.RowKit Go.Proofs.YtmhlellhfepkkaaW.PrintWords Go.Proofs.YtmhlellhfepkkaaW.PrintLast Go.Proofs.YtmhlellhfepkkaaW.PrintMore Go.Proofs.Ytmhlellhfepkkaa.PAl
set_option linter.unusedVariables false
set_option linter.unusedSimpArgs false
/-! what is told -/
def toldIn (s : ByteArray) : List S55 → List Int × Bool
  | [] => ([], false)
  | p :: ps => if p.f0.toList = s.toList then (p.f1, true) else toldIn s ps
theorem told_loop (ps : List S55) (s : ByteArray) (hl : ps.length < 1099511627776) (hp : ∀ p ∈ ps, p.f1.length < 1099511627776) : ∀ (suf pre : List S55), ps = pre ++ suf → Ev (fun k => fdt_Told.l0 k s (ps.map fun q => (⟨q.f0, q.f1⟩ : S74)) (((ps.map fun q => (⟨q.f0, q.f1⟩ : S74))).length : Int) (pre.length : Int)) (toldIn s suf)
  | [], pre, h => by
    have h' : ps = pre := by simpa using h
    refine Ev.step (f := fun _ => some ([], false)) (fun k => ?_) (Ev.now _)
    simp only [fdt_Told.l0]
    rw [if_neg (by rw [List.length_map, h']; omega)]
  | x :: suf, pre, h => by
    have ih := told_loop ps s hl hp suf (pre ++ [x]) (by simp [h])
    have hlen : ps.length = pre.length + (suf.length + 1) := by rw [h]; simp
    have hml : (ps.map fun q => (⟨q.f0, q.f1⟩ : S74)).length = ps.length := List.length_map ..
    have hr : rd_T74 (ps.map fun q => (⟨q.f0, q.f1⟩ : S74)) (pre.length : Int) = ⟨x.f0, x.f1⟩ := by
      rw [h, List.map_append, List.map_cons]
      have := rd74_mid (pre.map fun q => (⟨q.f0, q.f1⟩ : S74)) (suf.map fun q => (⟨q.f0, q.f1⟩ : S74)) ⟨x.f0, x.f1⟩
      rw [List.length_map] at this
      exact this
    have hx := hp x (by rw [h]; simp)
    by_cases c : x.f0.toList = s.toList
    · refine Ev.step (f := fun _ => some (x.f1, true)) (fun k => ?_) (Ev.congr (fun k => by simp only [toldIn]; rw [if_pos c]) (Ev.now (toldIn s (x :: suf))))
      simp only [fdt_Told.l0]
      rw [if_pos (by omega), if_pos (by omega), if_pos (by omega), hr, if_pos c, Option.bind_some, if_pos (by simp only [List.length_nil]; omega)]
      rfl
    · refine Ev.step (f := fun k => fdt_Told.l0 k s (ps.map fun q => (⟨q.f0, q.f1⟩ : S74)) (((ps.map fun q => (⟨q.f0, q.f1⟩ : S74))).length : Int) ((pre ++ [x]).length : Int)) (fun k => ?_) (by simp only [toldIn]; rw [if_neg c]; exact ih)
      simp only [fdt_Told.l0]
      rw [if_pos (by omega), if_pos (by omega), if_pos (by omega), hr, if_neg c, w64 (by omega) (by omega)]
      simp
/-! where a path leads -/
def nxIn (l : List S50) (s : ByteArray) : List Nat → Option Nat
  | [] => none
  | j :: js => if (pt l j).f1.toList = s.toList then some j else nxIn l s js
def enc : Option Nat → Int
  | some j => (j : Int)
  | none => -1
def walkP (l : List S50) : List ByteArray → Nat → Option Nat
  | [], a => some a
  | s :: ss, a => match nxIn l s (kidsOf l a (a + 1)) with | some b => walkP l ss b | none => none
theorem nxIn_mem {l : List S50} {s : ByteArray} : ∀ {js : List Nat} {b : Nat}, nxIn l s js = some b → b ∈ js
  | [], b, h => by cases h
  | j :: js, b, h => by
    simp only [nxIn] at h
    split at h
    · cases h; exact List.mem_cons_self
    · exact List.mem_cons_of_mem _ (nxIn_mem h)
theorem findIn_kids {l : List S50} (s : ByteArray) : ∀ (js : List Nat), (∀ j ∈ js, j < l.length) → findIn s (js.map (nodeOf l)) = (nxIn l s js).map (nodeOf l)
  | [], h => rfl
  | j :: js, h => by
    have hj := h j List.mem_cons_self
    simp only [List.map_cons, findIn, nxIn]
    rw [show (nodeOf l j).f0 = (pt l j).f1 from by rw [nodeOf_open l hj]]
    split
    · rfl
    · exact findIn_kids s js (fun q hq => h q (List.mem_cons_of_mem _ hq))
theorem kids_len (l : List S50) (a f : Nat) : (kidsOf l a f).length ≤ l.length := by
  unfold kidsOf
  have := List.length_filter_le (fun j => decide ((pt l j).f0 = (a : Int))) (List.range' f (l.length - f))
  rw [List.length_range'] at this
  omega
theorem find_is {l : List S50} (ht : Tried l) : ∀ (ss : List ByteArray) (a : Nat), a < l.length → findP ss (nodeOf l a) = some (match walkP l ss a with | some b => (nodeOf l b, true) | none => (nodeNil, false))
  | [], a, ha => rfl
  | s :: ss, a, ha => by
    have hl := ht.len
    have hk := kids_len l a (a + 1)
    have e2 : (nodeOf l a).f2 = (kidsOf l a (a + 1)).map (nodeOf l) := by rw [nodeOf_open l ha]
    simp only [findP, walkP]
    rw [if_pos (by rw [e2, List.length_map]; omega), e2, findIn_kids s _ (fun j hj => (kidsOf_mem hj).2.1)]
    cases h : nxIn l s (kidsOf l a (a + 1)) with
    | none => rfl
    | some b => exact find_is ht ss b (kidsOf_mem (nxIn_mem h)).2.1
theorem walkP_lt {l : List S50} : ∀ (ss : List ByteArray) (a b : Nat), a < l.length → walkP l ss a = some b → b < l.length
  | [], a, b, ha, h => by cases h; exact ha
  | s :: ss, a, b, ha, h => by
    simp only [walkP] at h
    cases hn : nxIn l s (kidsOf l a (a + 1)) with
    | none => rw [hn] at h; cases h
    | some c => rw [hn] at h; exact walkP_lt ss c b (kidsOf_mem (nxIn_mem hn)).2.1 h
theorem finds_l1 {l : List S50} (hl : l.length ≤ 70) (path : List ByteArray) (nm : ByteArray) {a : Nat} (ha : a < l.length) {i : Nat} (hi : i < path.length) (hp : path.length ≤ 12) {r : Bool}
    (hend : Ev (fun k => vireolaw26_FdtFinds.l0 k l path nm (enc (nxIn l (rdOf ByteArray.empty path (i : Int)) (kidsOf l a (a + 1)))) ((i + 1 : Nat) : Int)) r) :
    ∀ (d : Nat), a + d < l.length → Ev (fun k => vireolaw26_FdtFinds.l1 k l path nm (a : Int) (i : Int) (enc (nxIn l (rdOf ByteArray.empty path (i : Int)) (kidsOf l a (a + d + 1)))) ((a + d : Nat) : Int)) r
  | 0, hd => by
    refine Ev.step (f := fun k => vireolaw26_FdtFinds.l0 k l path nm (enc (nxIn l (rdOf ByteArray.empty path (i : Int)) (kidsOf l a (a + 1)))) ((i + 1 : Nat) : Int)) (fun k => ?_) hend
    simp only [vireolaw26_FdtFinds.l1]
    rw [if_neg (by omega), w64 (by omega) (by omega)]
    rfl
  | d + 1, hd => by
    have ih := finds_l1 hl path nm ha hi hp hend d (by omega)
    have hks := kidsOf_step l a (f := a + d + 1) (by omega)
    refine Ev.step (f := fun k => vireolaw26_FdtFinds.l1 k l path nm (a : Int) (i : Int) (enc (nxIn l (rdOf ByteArray.empty path (i : Int)) (kidsOf l a (a + d + 1)))) ((a + d : Nat) : Int)) (fun k => ?_) ih
    have e1 : ((a + (d + 1) : Nat) : Int) - 1 = ((a + d : Nat) : Int) := by omega
    have e0 : rd_T50 l ((a + (d + 1) : Nat) : Int) = pt l (a + d + 1) := rfl
    simp only [vireolaw26_FdtFinds.l1]
    rw [if_pos (by omega), if_pos (by omega), if_pos (by omega), e0, w64 (by omega) (by omega), e1]
    by_cases c : (pt l (a + d + 1)).f0 = (a : Int)
    · rw [if_pos c, if_pos (by omega), if_pos (by omega), hks, if_pos c]
      simp only [nxIn]
      by_cases c2 : (pt l (a + d + 1)).f1.toList = (rdOf ByteArray.empty path (i : Int)).toList
      · rw [if_pos c2, if_pos c2]; rfl
      · rw [if_neg c2, if_neg c2]; rfl
    · rw [if_neg c, hks, if_neg c]; rfl
theorem finds_l0 {l : List S50} (ht : Tried l) (path : List ByteArray) (nm : ByteArray) (hp : path.length ≤ 12) {r : Bool} : ∀ (suf pre : List ByteArray) (a : Nat), path = pre ++ suf → a < l.length →
    (∀ x8, Ev (fun k => vireolaw26_FdtFinds.j2 k l path nm (enc (walkP l suf a)) x8 false) r) → Ev (fun k => vireolaw26_FdtFinds.l0 k l path nm (a : Int) (pre.length : Int)) r
  | [], pre, a, h, ha, hend => by
    have h' : path = pre := by simpa using h
    refine Ev.step (f := fun k => vireolaw26_FdtFinds.j2 k l path nm (a : Int) (pre.length : Int) false) (fun k => ?_) (hend _)
    simp only [vireolaw26_FdtFinds.l0]
    rw [if_neg (by rw [h']; omega)]
  | s :: suf, pre, a, h, ha, hend => by
    have hl := ht.len
    have hlen : path.length = pre.length + (suf.length + 1) := by rw [h]; simp
    have hr : rdOf ByteArray.empty path (pre.length : Int) = s := by rw [h]; exact rdOf_mid _ _ _ _
    have hnext : Ev (fun k => vireolaw26_FdtFinds.l0 k l path nm (enc (nxIn l s (kidsOf l a (a + 1)))) ((pre.length + 1 : Nat) : Int)) r := by
      simp only [walkP] at hend
      cases hn : nxIn l s (kidsOf l a (a + 1)) with
      | some b =>
        rw [hn] at hend
        have := finds_l0 ht path nm hp suf (pre ++ [s]) b (by simp [h]) (kidsOf_mem (nxIn_mem hn)).2.1 hend
        simpa [enc] using this
      | none =>
        rw [hn] at hend
        refine Ev.step (f := fun k => vireolaw26_FdtFinds.j2 k l path nm (-1) ((pre.length + 1 : Nat) : Int) false) (fun k => ?_) (hend _)
        simp only [vireolaw26_FdtFinds.l0, enc]
        by_cases c : ((pre.length + 1 : Nat) : Int) < (path.length : Int)
        · rw [if_pos c]; rfl
        · rw [if_neg c]
    have e := finds_l1 hl path nm ha (i := pre.length) (by omega) hp (r := r) (by rw [hr]; exact hnext) (l.length - 1 - a) (by omega)
    rw [hr, show a + (l.length - 1 - a) + 1 = l.length by omega, kidsOf_end l a (Nat.le_refl _), show a + (l.length - 1 - a) = l.length - 1 by omega] at e
    refine Ev.step (f := fun k => vireolaw26_FdtFinds.j2 k l path nm (a : Int) (pre.length : Int) true) (fun k => ?_) (Ev.step (f := fun k => vireolaw26_FdtFinds.l1 k l path nm (a : Int) (pre.length : Int) (-1) ((l.length - 1 : Nat) : Int)) (fun k => ?_) e)
    · simp only [vireolaw26_FdtFinds.l0]
      rw [if_pos (by omega), decide_eq_true (by omega)]
    · simp only [vireolaw26_FdtFinds.j2]
      rw [if_pos trivial, w64 (by omega) (by omega), show ((l.length - 1 : Nat) : Int) = (l.length : Int) - 1 by omega]
/-! the end -/
theorem finds_l2 {l : List S50} (nm : ByteArray) {a : Nat} (ha : a < l.length) (hl : l.length ≤ 70) (n : S32) (hpl : (pt l a).f2.length ≤ 260)
    (hend : Ev (fun k => (fdt_Told.f k n.f0 n.f1 n.f2 nm).bind fun t => if (t.2 == (toldIn nm (pt l a).f2).2) = true then (vireoref02_Bytes.f k t.1 (toldIn nm (pt l a).f2).1).bind fun t2 => some t2 else some false) true) :
    ∀ (d : Nat), d ≤ (pt l a).f2.length → Ev (fun k => vireolaw26_FdtFinds.l2 k l nm (a : Int) (toldIn nm ((pt l a).f2.drop d)).1 (toldIn nm ((pt l a).f2.drop d)).2 ((d : Int) - 1) n.f0 n.f1 n.f2) true
  | 0, hd => by
    rw [List.drop_zero]
    refine Ev.step (fun k => ?_) hend
    simp only [vireolaw26_FdtFinds.l2]
    rw [if_neg (by omega)]
  | d + 1, hd => by
    have ih := finds_l2 nm ha hl n hpl hend d (by omega)
    have hdr : (pt l a).f2.drop d = rd_T55 (pt l a).f2 (d : Int) :: (pt l a).f2.drop (d + 1) := by
      rw [List.drop_eq_getElem_cons (show d < (pt l a).f2.length by omega)]; congr 1; simp [rd_T55, List.getD, show d < (pt l a).f2.length by omega]
    refine Ev.step (f := fun k => vireolaw26_FdtFinds.l2 k l nm (a : Int) (toldIn nm ((pt l a).f2.drop d)).1 (toldIn nm ((pt l a).f2.drop d)).2 ((d : Int) - 1) n.f0 n.f1 n.f2) (fun k => ?_) ih
    have e1 : ((d + 1 : Nat) : Int) - 1 = (d : Int) := by omega
    simp only [vireolaw26_FdtFinds.l2]
    rw [e1, if_pos (by omega), if_pos (by omega), if_pos (by omega), if_pos (by omega), rd50, if_pos (by omega), w64 (by omega) (by omega), hdr]
    simp only [toldIn]
    by_cases c : (rd_T55 (pt l a).f2 (d : Int)).f0.toList = nm.toList
    · rw [if_pos c, if_pos c]
    · rw [if_neg c, if_neg c]
theorem same_nil : Ev (fun k => vireolaw26_Same.f k nodeNil.f0 nodeNil.f1 nodeNil.f2 (⟨#[]⟩ : ByteArray) ([] : List S74) ([] : List S32) 1) true := Ev.of (fun k => vireolaw26_Same.mono _ _ _ _ _ _ _ k) (k := 8) (by kernel_rfl)
theorem finds_j4 {l : List S50} (ht : Tried l) (nm : ByteArray) {a : Nat} (ha : a < l.length) : Ev (fun k => vireolaw26_FdtFinds.j4 k l nm (a : Int) false (nodeOf l a).f0 (nodeOf l a).f1 (nodeOf l a).f2) true := by
  obtain ⟨_, _, g2, g3⟩ := ht.good a ha
  have hl := ht.len
  have hT : Ev (fun k => fdt_Told.f k (nodeOf l a).f0 (nodeOf l a).f1 (nodeOf l a).f2 nm) (toldIn nm (pt l a).f2) := by
    have := told_loop (pt l a).f2 nm (by omega) (fun p hp => by have := (g3 p hp).1; omega) (pt l a).f2 [] rfl
    rw [nodeOf_open l ha]
    exact this
  have hb : (toldIn nm (pt l a).f2).1.length < 140737488355328 := by
    have : ∀ ps : List S55, (∀ p ∈ ps, p.f1.length ≤ 5000) → (toldIn nm ps).1.length ≤ 5000 := by
      intro ps
      induction ps with
      | nil => intro _; simp [toldIn]
      | cons p ps ih =>
        intro h
        simp only [toldIn]
        split
        · exact h p List.mem_cons_self
        · exact ih (fun q hq => h q (List.mem_cons_of_mem _ hq))
    have := this (pt l a).f2 (fun p hp => (g3 p hp).1)
    omega
  have hend := Ev.bind (f := fun k t => if (t.2 == (toldIn nm (pt l a).f2).2) = true then (vireoref02_Bytes.f k t.1 (toldIn nm (pt l a).f2).1).bind fun t2 => some t2 else some false) hT (r := true) (by
    refine Ev.congr (f := fun k => (vireoref02_Bytes.f k (toldIn nm (pt l a).f2).1 (toldIn nm (pt l a).f2).1).bind fun t2 => some t2) (fun k => by rw [if_pos (by simp)]) ?_
    refine Ev.bind (bytes_is _ _ hb) (Ev.congr (fun k => ?_) (Ev.now true))
    simp)
  have e := finds_l2 nm ha hl (nodeOf l a) g2 hend (pt l a).f2.length (Nat.le_refl _)
  rw [List.drop_length] at e
  refine Ev.step (f := fun k => vireolaw26_FdtFinds.l2 k l nm (a : Int) [] false (((pt l a).f2.length : Int) - 1) (nodeOf l a).f0 (nodeOf l a).f1 (nodeOf l a).f2) (fun k => ?_) e
  simp only [vireolaw26_FdtFinds.j4]
  rw [if_neg (by decide), if_pos (by omega), if_pos (by omega), rd50, w64 (by omega) (by omega)]
theorem node0_is' {l : List S50} (ht : Tried l) {a : Nat} (ha : a < l.length) : Ev (fun k => vireolaw26_node.f k l (a : Int)) ((nodeOf l a).f0, (nodeOf l a).f1, (nodeOf l a).f2) := node_is ht.small l.length a (by omega) ha
theorem finds_tail {l : List S50} (ht : Tried l) (path : List ByteArray) (nm : ByteArray) (hp : path.length ≤ 12) (x8 : Int) : Ev (fun k => vireolaw26_FdtFinds.j2 k l path nm (enc (walkP l path 0)) x8 false) true := by
  have hl := ht.len
  have h0 := ht.pos
  have hF : fdt_Find.f (nodeOf l 0).f0 (nodeOf l 0).f1 (nodeOf l 0).f2 path = some (match walkP l path 0 with | some b => ((nodeOf l b).f0, (nodeOf l b).f1, (nodeOf l b).f2, true) | none => (nodeNil.f0, nodeNil.f1, nodeNil.f2, false)) := by
    unfold fdt_Find.f
    rw [if_pos (by omega), S32_eta, find_is ht path 0 h0, Option.bind_some]
    cases walkP l path 0 <;> rfl
  cases hw : walkP l path 0 with
  | none =>
    rw [hw] at hF
    refine Ev.step (f := fun k => (vireolaw26_node.f k l ((0 : Nat) : Int)).bind fun bt205 => ((fdt_Find.f bt205.1 bt205.2.1 bt205.2.2 path).bind fun bt212 => (if bt212.2.2.2 = true then (some false) else ((vireolaw26_Same.f k bt212.1 bt212.2.1 bt212.2.2.1 (⟨#[]⟩ : ByteArray) ([] : List (S74)) ([] : List (S32)) 1).bind fun t221 => (some t221))))) (fun k => ?_) (Ev.bind (node0_is' ht h0) ?_)
    · simp only [vireolaw26_FdtFinds.j2, enc]
      rw [if_neg (by decide)]
      rfl
    · refine Ev.congr (f := fun k => (vireolaw26_Same.f k nodeNil.f0 nodeNil.f1 nodeNil.f2 (⟨#[]⟩ : ByteArray) ([] : List (S74)) ([] : List (S32)) 1).bind fun t221 => (some t221)) (fun k => ?_) (Ev.bind same_nil (Ev.now _))
      dsimp only
      rw [hF]
      rfl
  | some a =>
    rw [hw] at hF
    have ha := walkP_lt path 0 a h0 hw
    refine Ev.step (f := fun k => (vireolaw26_node.f k l ((0 : Nat) : Int)).bind fun bt205 => ((fdt_Find.f bt205.1 bt205.2.1 bt205.2.2 path).bind fun bt212 => (if bt212.2.2.2 = true then ((vireolaw26_node.f k l (a : Int)).bind fun bt222 => ((vireolaw26_Same.f k bt212.1 bt212.2.1 bt212.2.2.1 bt222.1 bt222.2.1 bt222.2.2 80).bind fun t229 => (vireolaw26_FdtFinds.j4 k l nm (a : Int) (!t229) bt212.1 bt212.2.1 bt212.2.2.1))) else (vireolaw26_FdtFinds.j4 k l nm (a : Int) true bt212.1 bt212.2.1 bt212.2.2.1)))) (fun k => ?_) (Ev.bind (node0_is' ht h0) ?_)
    · simp only [vireolaw26_FdtFinds.j2, enc]
      rw [if_neg (by decide)]
      congr 1
    · refine Ev.congr (f := fun k => (vireolaw26_node.f k l (a : Int)).bind fun bt222 => ((vireolaw26_Same.f k (nodeOf l a).f0 (nodeOf l a).f1 (nodeOf l a).f2 bt222.1 bt222.2.1 bt222.2.2 80).bind fun t229 => (vireolaw26_FdtFinds.j4 k l nm (a : Int) (!t229) (nodeOf l a).f0 (nodeOf l a).f1 (nodeOf l a).f2))) (fun k => ?_) ?_
      · dsimp only
        rw [hF, Option.bind_some, if_pos rfl]
      · refine Ev.bind (node0_is' ht ha) ?_
        refine Ev.bind (same_refl l.length (nodeOf l a) 80 (shal_of ht l.length a (by omega) ha) (by omega) (by decide)) ?_
        exact finds_j4 ht nm ha
theorem finds_is (l : List S50) (path : List ByteArray) (nm : ByteArray) : Ev (fun k => vireolaw26_FdtFinds.f k l path nm) true := by
  unfold vireolaw26_FdtFinds.f
  refine Ev.bind awake_is ?_
  obtain ⟨b, hb, ht⟩ := tried_is l
  refine Ev.congr (f := fun k => (vireolaw26_tried.f k l).bind fun t201 => (if t201 = true then (vireolaw26_FdtFinds.j0 k l path nm (decide ((path.length : Int) > 12))) else (vireolaw26_FdtFinds.j0 k l path nm true))) (fun k => by rw [if_pos rfl]) (Ev.bind hb ?_)
  have hj : Ev (fun k => vireolaw26_FdtFinds.j0 k l path nm true) true := Ev.step (f := fun _ => some true) (fun k => by simp only [vireolaw26_FdtFinds.j0]; rw [if_pos trivial]) (Ev.now _)
  by_cases cb : b = true
  · have hT := ht cb
    subst cb
    refine Ev.congr (f := fun k => vireolaw26_FdtFinds.j0 k l path nm (decide ((path.length : Int) > 12))) (fun k => by rw [if_pos rfl]) ?_
    by_cases c : (path.length : Int) > 12
    · rw [decide_eq_true c]; exact hj
    · rw [decide_eq_false c]
      have e := finds_l0 hT path nm (by omega) (r := true) path [] 0 rfl hT.pos (fun x8 => finds_tail hT path nm (by omega) x8)
      refine Ev.step (f := fun k => vireolaw26_FdtFinds.l0 k l path nm 0 0) (fun k => ?_) e
      simp only [vireolaw26_FdtFinds.j0]
      rw [if_neg (by decide)]
  · have : b = false := by simpa using cb
    subst this
    exact Ev.congr (fun k => by rw [if_neg (by decide)]) hj
end Go.Proofs.Ytmhlellhfepkkaa.B
/- The law FdtFinds, plain: for every list, path and name, the law answers true. -/
namespace Go.Proofs.Ytmhlellhfepkkaa.Pure
theorem FdtFinds : OpFi.vireolaw26_FdtFinds.Pure2 := fun b0 b1 b2 _ _ _ => (B.finds_is b0 b1 b2).rounds
end Go.Proofs.Ytmhlellhfepkkaa.Pure
