/- The law FdtWrites, plain: for every list, the law answers true. -/
import Derived.Test.YtmhlellhfepkkaaHq
import Derived.Test.YtmhlellhfepkkaaHtree
import Derived.Test.YtmhlellhfepkkaaPAlx3
import Derived.Test.YtmhlellhfepkkaaPAlx4
import Derived.Test.YtmhlellhfepkkaaPAlx6
import Derived.Test.YtmhlellhfepkkaaLc
import Derived.Test.YtmhlellhfepkkaaOpWr
/- Plain: a list of parts, and the tree that it is. -/
namespace Go.Proofs.Ytmhlellhfepkkaa.B
open Go.RowKit Go.Proofs.YtmhlellhfepkkaaW.PrintWords Go.Proofs.YtmhlellhfepkkaaW.PrintLast Go.Proofs.YtmhlellhfepkkaaW.PrintMore Go.Proofs.Ytmhlellhfepkkaa.PAl
set_option linter.unusedVariables false
set_option linter.unusedSimpArgs false
/-- Part i. -/
def pt (l : List S50) (i : Nat) : S50 := rd_T50 l (i : Int)
theorem pt_get {l : List S50} {i : Nat} (h : i < l.length) : pt l i = l[i] := by simp [pt, rd_T50, List.getD, h]
def kidsOf (l : List S50) (i : Nat) (from_ : Nat) : List Nat := (List.range' from_ (l.length - from_)).filter fun j => decide ((pt l j).f0 = (i : Int))
theorem kidsOf_end (l : List S50) (i : Nat) {f : Nat} (h : l.length ≤ f) : kidsOf l i f = [] := by unfold kidsOf; rw [Nat.sub_eq_zero_of_le h]; rfl
theorem kidsOf_step (l : List S50) (i : Nat) {f : Nat} (h : f < l.length) : kidsOf l i f = if (pt l f).f0 = (i : Int) then f :: kidsOf l i (f + 1) else kidsOf l i (f + 1) := by
  unfold kidsOf
  obtain ⟨d, hd⟩ : ∃ d, l.length - f = d + 1 := ⟨l.length - f - 1, by omega⟩
  rw [hd, List.range'_succ, List.filter_cons, show l.length - (f + 1) = d by omega]
  simp only [decide_eq_true_eq]
theorem kidsOf_mem {l : List S50} {i f j : Nat} (h : j ∈ kidsOf l i f) : f ≤ j ∧ j < l.length ∧ (pt l j).f0 = (i : Int) := by
  unfold kidsOf at h
  rw [List.mem_filter, List.mem_range'_1] at h
  have := h.2
  simp only [decide_eq_true_eq] at this
  exact ⟨h.1.1, by omega, this⟩
def propsOf (p : S50) : List S74 := p.f2.map fun q => ⟨q.f0, q.f1⟩
/-- The tree of part i (d: enough rounds). -/
def nodeT : Nat → List S50 → Nat → S32
  | 0, l, i => z32
  | d + 1, l, i => ⟨(pt l i).f1, propsOf (pt l i), (kidsOf l i (i + 1)).map (nodeT d l)⟩
theorem nodeT_more (l : List S50) : ∀ d d' i, l.length - i ≤ d → l.length - i ≤ d' → i < l.length → nodeT d l i = nodeT d' l i
  | 0, d', i, h1, h2, h3 => by omega
  | d + 1, 0, i, h1, h2, h3 => by omega
  | d + 1, d' + 1, i, h1, h2, h3 => by
    simp only [nodeT]
    congr 1
    refine List.map_congr_left (fun j hj => ?_)
    obtain ⟨q1, q2, _⟩ := kidsOf_mem hj
    exact nodeT_more l d d' j (by omega) (by omega) q2
def nodeOf (l : List S50) (i : Nat) : S32 := nodeT (l.length - i) l i
theorem nodeOf_open (l : List S50) {i : Nat} (h : i < l.length) : nodeOf l i = ⟨(pt l i).f1, propsOf (pt l i), (kidsOf l i (i + 1)).map (nodeOf l)⟩ := by
  unfold nodeOf
  obtain ⟨d, hd⟩ : ∃ d, l.length - i = d + 1 := ⟨l.length - i - 1, by omega⟩
  rw [hd]
  simp only [nodeT]
  congr 1
  refine List.map_congr_left (fun j hj => ?_)
  obtain ⟨q1, q2, _⟩ := kidsOf_mem hj
  exact nodeT_more l d (l.length - j) j (by omega) (by omega) q2
/-- What is known of a list that is small. -/
structure Small (l : List S50) : Prop where
  len : l.length ≤ 70
  props : ∀ i, i < l.length → (pt l i).f2.length ≤ 260
theorem rd50 (l : List S50) (i : Nat) : rd_T50 l (i : Int) = pt l i := rfl
theorem rd55_mid (pre suf : List S55) (x : S55) : rd_T55 (pre ++ x :: suf) (pre.length : Int) = x := by
  unfold rd_T55; rw [Int.toNat_natCast]; simp [List.getD, List.getElem?_append_right]
theorem rd50_mid (pre suf : List S50) (x : S50) : rd_T50 (pre ++ x :: suf) (pre.length : Int) = x := by
  unfold rd_T50; rw [Int.toNat_natCast]; simp [List.getD, List.getElem?_append_right]
theorem node_l0 {l : List S50} {i : Nat} (hi : i < l.length) (hp : (pt l i).f2.length ≤ 260) (hl : l.length ≤ 70) {r : ByteArray × List S74 × List S32} (nm : ByteArray)
    (hend : Ev (fun k => vireolaw26_node.l1 k l (i : Int) ((i + 1 : Nat) : Int) nm (propsOf (pt l i)) []) r) :
    ∀ (suf pre : List S55) (acc : List S74), (pt l i).f2 = pre ++ suf → acc = pre.map (fun q => (⟨q.f0, q.f1⟩ : S74)) → Ev (fun k => vireolaw26_node.l0 k l (i : Int) (pre.length : Int) nm acc) r
  | [], pre, acc, h, ha => by
    have h' : (pt l i).f2 = pre := by simpa using h
    refine Ev.step (f := fun k => vireolaw26_node.l1 k l (i : Int) ((i + 1 : Nat) : Int) nm (propsOf (pt l i)) []) (fun k => ?_) hend
    simp only [vireolaw26_node.l0]
    rw [if_pos (by omega), if_pos (by omega), rd50, h', if_neg (by omega), w64 (by omega) (by omega)]
    rw [ha, propsOf, h']
    rfl
  | x :: suf, pre, acc, h, ha => by
    have ih := node_l0 hi hp hl nm hend suf (pre ++ [x]) (acc ++ [⟨x.f0, x.f1⟩]) (by simp [h]) (by simp [ha])
    have hlen : (pt l i).f2.length = pre.length + (suf.length + 1) := by rw [h]; simp
    have hal : acc.length = pre.length := by rw [ha]; simp
    refine Ev.step (f := fun k => vireolaw26_node.l0 k l (i : Int) ((pre ++ [x]).length : Int) nm (acc ++ [⟨x.f0, x.f1⟩])) (fun k => ?_) ih
    have hr : rd_T55 (pt l i).f2 (pre.length : Int) = x := by rw [h]; exact rd55_mid _ _ _
    simp only [vireolaw26_node.l0]
    rw [if_pos (by omega), if_pos (by omega), rd50, if_pos (by omega), if_pos (by omega), if_pos (by omega), hr, w64 (by omega) (by omega)]
    simp
theorem S32_eta (n : S32) : (⟨n.f0, n.f1, n.f2⟩ : S32) = n := by cases n; rfl
theorem node_l1 {l : List S50} {i : Nat} (hi : i < l.length) (hl : l.length ≤ 70) (nm : ByteArray) (ps : List S74)
    (hk : ∀ j, i < j → j < l.length → Ev (fun k => vireolaw26_node.f k l (j : Int)) ((nodeOf l j).f0, (nodeOf l j).f1, (nodeOf l j).f2)) :
    ∀ (d f : Nat) (acc : List S32), d + f = l.length → i < f → acc.length ≤ f → Ev (fun k => vireolaw26_node.l1 k l (i : Int) (f : Int) nm ps acc) (nm, ps, acc ++ (kidsOf l i f).map (nodeOf l))
  | 0, f, acc, hd, hf, ha => by
    rw [kidsOf_end l i (by omega)]
    refine Ev.step (f := fun _ => some (nm, ps, acc ++ [])) (fun k => ?_) (Ev.now _)
    simp only [vireolaw26_node.l1]
    rw [if_neg (by omega)]
    simp
  | d + 1, f, acc, hd, hf, ha => by
    have hfl : f < l.length := by omega
    rw [kidsOf_step l i hfl]
    by_cases c : (pt l f).f0 = (i : Int)
    · rw [if_pos c]
      have ih := node_l1 hi hl nm ps hk d (f + 1) (acc ++ [nodeOf l f]) (by omega) (by omega) (by simp; omega)
      have e : (nm, ps, acc ++ (f :: kidsOf l i (f + 1)).map (nodeOf l)) = (nm, ps, (acc ++ [nodeOf l f]) ++ (kidsOf l i (f + 1)).map (nodeOf l)) := by simp
      rw [e]
      refine Ev.step (f := fun k => (vireolaw26_node.f k l (f : Int)).bind fun bt160 => (if acc.length < 2199023255552 then (vireolaw26_node.l1 k l (i : Int) (wrap64 ((f : Int) + 1)) nm ps (acc ++ [(⟨bt160.1, bt160.2.1, bt160.2.2⟩ : S32)])) else (none))) (fun k => ?_) ?_
      · simp only [vireolaw26_node.l1]
        rw [if_pos (by omega), if_pos (by omega), rd50, if_pos c]
      · refine Ev.bind (hk f hf hfl) ?_
        refine Ev.congr (f := fun k => vireolaw26_node.l1 k l (i : Int) ((f + 1 : Nat) : Int) nm ps (acc ++ [nodeOf l f])) (fun k => ?_) ih
        rw [if_pos (by omega), w64 (by omega) (by omega)]
        dsimp only
        rw [S32_eta, Int.natCast_succ]
    · rw [if_neg c]
      have ih := node_l1 hi hl nm ps hk d (f + 1) acc (by omega) (by omega) (by omega)
      refine Ev.step (f := fun k => vireolaw26_node.l1 k l (i : Int) ((f + 1 : Nat) : Int) nm ps acc) (fun k => ?_) ih
      simp only [vireolaw26_node.l1]
      rw [if_pos (by omega), if_pos (by omega), rd50, if_neg c, w64 (by omega) (by omega)]
      rfl
/-- The law's own 'node'. -/
theorem node_is {l : List S50} (hs : Small l) : ∀ (d i : Nat), l.length - i ≤ d → i < l.length → Ev (fun k => vireolaw26_node.f k l (i : Int)) ((nodeOf l i).f0, (nodeOf l i).f1, (nodeOf l i).f2)
  | 0, i, hd, hi => by omega
  | d + 1, i, hd, hi => by
    have hl := hs.len
    have h1 := node_l1 hi hl (pt l i).f1 (propsOf (pt l i)) (fun j hj hjl => node_is hs d j (by omega) hjl) (l.length - (i + 1)) (i + 1) [] (by omega) (by omega) (by simp)
    have h0 := node_l0 hi (hs.props i hi) hl (pt l i).f1 h1 (pt l i).f2 [] [] rfl rfl
    rw [nodeOf_open l hi]
    refine Ev.step (f := fun k => vireolaw26_node.l0 k l (i : Int) 0 (pt l i).f1 []) (fun k => ?_) h0
    simp only [vireolaw26_node.f]
    rw [if_pos (by omega), if_pos (by omega)]
    rfl
end Go.Proofs.Ytmhlellhfepkkaa.B
/- Plain: which lists are tried. -/
namespace Go.Proofs.Ytmhlellhfepkkaa.B
open Go.RowKit Go.Proofs.YtmhlellhfepkkaaW.PrintWords Go.Proofs.YtmhlellhfepkkaaW.PrintLast Go.Proofs.YtmhlellhfepkkaaW.PrintMore Go.Proofs.Ytmhlellhfepkkaa.PAl
set_option linter.unusedVariables false
set_option linter.unusedSimpArgs false
/-- Part i may be there. -/
def goodP (l : List S50) (i : Nat) : Prop := (0 < i → 0 ≤ (pt l i).f0 ∧ (pt l i).f0 < (i : Int)) ∧ (pt l i).f1.size ≤ 40 ∧ (pt l i).f2.length ≤ 260 ∧ ∀ q ∈ (pt l i).f2, q.f1.length ≤ 5000 ∧ q.f0.size ≤ 40
/-- A list that is tried. -/
structure Tried (l : List S50) : Prop where
  pos : 0 < l.length
  len : l.length ≤ 70
  root : (pt l 0).f0 = -1
  good : ∀ i, i < l.length → goodP l i
theorem Tried.small {l : List S50} (h : Tried l) : Small l := ⟨h.len, fun i hi => (h.good i hi).2.2.1⟩
theorem ev_no {g : Nat → Option Bool} {X : Prop} (h : ∀ k, g (k + 1) = some false) : ∃ b, Ev g b ∧ (b = true → X) := ⟨false, Ev.step (f := fun _ => some false) h (Ev.now _), fun h => by cases h⟩
theorem tried_l1 {l : List S50} {i : Nat} (hi : i < l.length) (hl : l.length ≤ 70) (hp : (pt l i).f2.length ≤ 260) {X : Prop}
    (hend : ∀ x3, ∃ b, Ev (fun k => vireolaw26_tried.l0 k l x3 ((i + 1 : Nat) : Int)) b ∧ (b = true → X)) :
    ∀ (suf pre : List S55) (x3 : Int), (pt l i).f2 = pre ++ suf → ∃ b, Ev (fun k => vireolaw26_tried.l1 k l x3 (i : Int) (pre.length : Int)) b ∧ (b = true → X ∧ ∀ q ∈ suf, q.f1.length ≤ 5000 ∧ q.f0.size ≤ 40)
  | [], pre, x3, h => by
    have h' : (pt l i).f2 = pre := by simpa using h
    obtain ⟨b, hb, hx⟩ := hend x3
    refine ⟨b, Ev.step (fun k => ?_) hb, fun e => ⟨hx e, fun q hq => by cases hq⟩⟩
    simp only [vireolaw26_tried.l1]
    rw [if_pos (by omega), if_pos (by omega), rd50, h', if_neg (by omega), w64 (by omega) (by omega), Int.natCast_succ]
  | x :: suf, pre, x3, h => by
    have hlen : (pt l i).f2.length = pre.length + (suf.length + 1) := by rw [h]; simp
    have hr : rd_T55 (pt l i).f2 (pre.length : Int) = x := by rw [h]; exact rd55_mid _ _ _
    by_cases c1 : (x.f1.length : Int) > 5000
    · refine ev_no (fun k => ?_)
      simp only [vireolaw26_tried.l1]
      rw [if_pos (by omega), if_pos (by omega), rd50, if_pos (by omega), if_pos (by omega), hr, if_pos c1]
    · by_cases c2 : (x.f0.size : Int) > 40
      · refine ev_no (fun k => ?_)
        simp only [vireolaw26_tried.l1]
        rw [if_pos (by omega), if_pos (by omega), rd50, if_pos (by omega), if_pos (by omega), hr, if_neg c1, if_pos c2]
      · obtain ⟨b, hb, hx⟩ := tried_l1 hi hl hp hend suf (pre ++ [x]) (wrap64 ((wrap64 (x3 + (x.f1.length : Int))) + 1)) (by simp [h])
        refine ⟨b, Ev.step (fun k => ?_) hb, fun e => ⟨(hx e).1, fun q hq => ?_⟩⟩
        · simp only [vireolaw26_tried.l1]
          rw [if_pos (by omega), if_pos (by omega), rd50, if_pos (by omega), if_pos (by omega), hr, if_neg c1, if_neg c2, w64 (x := (pre.length : Int) + 1) (by omega) (by omega)]
          simp
        · rcases List.mem_cons.1 hq with rfl | hq
          · exact ⟨by omega, by omega⟩
          · exact (hx e).2 q hq
theorem tried_l0 {l : List S50} (hl : l.length ≤ 70) : ∀ (d i : Nat) (x3 : Int), d + i = l.length → ∃ b, Ev (fun k => vireolaw26_tried.l0 k l x3 (i : Int)) b ∧ (b = true → ∀ j, i ≤ j → j < l.length → goodP l j)
  | 0, i, x3, hd => ⟨decide (x3 ≤ 12000), Ev.step (f := fun _ => some (decide (x3 ≤ 12000))) (fun k => by simp only [vireolaw26_tried.l0]; rw [if_neg (by omega)]) (Ev.now _), fun _ j h1 h2 => by omega⟩
  | d + 1, i, x3, hd => by
    have hi : i < l.length := by omega
    -- behind the four tests
    have key : ∃ b, Ev (fun k => vireolaw26_tried.j2 k l x3 (i : Int) (decide (((pt l i).f2.length : Int) > 260))) b ∧ (b = true → (∀ j, i + 1 ≤ j → j < l.length → goodP l j) ∧ (pt l i).f2.length ≤ 260 ∧ ∀ q ∈ (pt l i).f2, q.f1.length ≤ 5000 ∧ q.f0.size ≤ 40) := by
      by_cases c : ((pt l i).f2.length : Int) > 260
      · refine ev_no (fun k => ?_)
        simp only [vireolaw26_tried.j2]
        rw [if_pos (by simpa using c)]
      · obtain ⟨b, hb, hx⟩ := tried_l1 hi hl (by omega) (X := ∀ j, i + 1 ≤ j → j < l.length → goodP l j) (fun x3 => tried_l0 hl d (i + 1) x3 (by omega)) (pt l i).f2 [] x3 rfl
        refine ⟨b, Ev.step (fun k => ?_) hb, fun e => ⟨(hx e).1, by omega, (hx e).2⟩⟩
        simp only [vireolaw26_tried.j2]
        rw [if_neg (by simpa using c)]
        rfl
    have no2 : ∀ k, vireolaw26_tried.j2 (k + 1) l x3 (i : Int) true = some false := fun k => by simp [vireolaw26_tried.j2]
    have nokey : ∃ b, Ev (fun k => vireolaw26_tried.j2 k l x3 (i : Int) true) b ∧ (b = true → ∀ j, i ≤ j → j < l.length → goodP l j) := ev_no no2
    have fin : ∀ b, (b = true → (∀ j, i + 1 ≤ j → j < l.length → goodP l j) ∧ (pt l i).f2.length ≤ 260 ∧ ∀ q ∈ (pt l i).f2, q.f1.length ≤ 5000 ∧ q.f0.size ≤ 40) → (0 < i → 0 ≤ (pt l i).f0 ∧ (pt l i).f0 < (i : Int)) → (pt l i).f1.size ≤ 40 → b = true → ∀ j, i ≤ j → j < l.length → goodP l j := by
      intro b hx h1 h2 e j hj hjl
      rcases Nat.eq_or_lt_of_le hj with rfl | hj
      · exact ⟨h1, h2, (hx e).2.1, (hx e).2.2⟩
      · exact (hx e).1 j hj hjl
    by_cases c0 : (i : Int) > 0
    · by_cases c1 : (pt l i).f0 < 0
      · obtain ⟨b, hb, hx⟩ := nokey
        refine ⟨b, Ev.step (fun k => ?_) hb, hx⟩
        simp only [vireolaw26_tried.l0]
        rw [if_pos (by omega), if_pos c0, if_pos (by omega), rd50, if_pos c1]
      · by_cases c2 : (pt l i).f0 ≥ (i : Int)
        · obtain ⟨b, hb, hx⟩ := nokey
          refine ⟨b, Ev.step (fun k => ?_) hb, hx⟩
          simp only [vireolaw26_tried.l0]
          rw [if_pos (by omega), if_pos c0, if_pos (by omega), rd50, if_neg c1, if_pos c2]
        · by_cases c3 : ((pt l i).f1.size : Int) > 40
          · obtain ⟨b, hb, hx⟩ := nokey
            refine ⟨b, Ev.step (fun k => ?_) hb, hx⟩
            simp only [vireolaw26_tried.l0]
            rw [if_pos (by omega), if_pos c0, if_pos (by omega), rd50, if_neg c1, if_neg c2, if_pos c3]
          · obtain ⟨b, hb, hx⟩ := key
            refine ⟨b, Ev.step (fun k => ?_) hb, fin b hx (fun _ => ⟨by omega, by omega⟩) (by omega)⟩
            simp only [vireolaw26_tried.l0]
            rw [if_pos (by omega), if_pos c0, if_pos (by omega), rd50, if_neg c1, if_neg c2, if_neg c3]
    · by_cases c3 : ((pt l i).f1.size : Int) > 40
      · obtain ⟨b, hb, hx⟩ := nokey
        refine ⟨b, Ev.step (fun k => ?_) hb, hx⟩
        simp only [vireolaw26_tried.l0]
        rw [if_pos (by omega), if_neg c0, if_pos (by omega), rd50, if_pos c3]
      · obtain ⟨b, hb, hx⟩ := key
        refine ⟨b, Ev.step (fun k => ?_) hb, fin b hx (fun h => by omega) (by omega)⟩
        simp only [vireolaw26_tried.l0]
        rw [if_pos (by omega), if_neg c0, if_pos (by omega), rd50, if_neg c3]
theorem tried_is (l : List S50) : ∃ b, Ev (fun k => vireolaw26_tried.f k l) b ∧ (b = true → Tried l) := by
  have no : ∀ k, vireolaw26_tried.j0 (k + 1) l true = some false := fun k => by simp [vireolaw26_tried.j0]
  by_cases c0 : (l.length : Int) < 1
  · refine ev_no (fun k => ?_)
    unfold vireolaw26_tried.f
    rw [if_pos c0, no]
  · by_cases c1 : (l.length : Int) > 70
    · refine ev_no (fun k => ?_)
      unfold vireolaw26_tried.f
      rw [if_neg c0, if_pos c1, no]
    · by_cases c2 : (pt l 0).f0 = -1
      · obtain ⟨b, hb, hx⟩ := tried_l0 (l := l) (by omega) l.length 0 0 (by omega)
        refine ⟨b, Ev.step (f := fun k => vireolaw26_tried.l0 k l 0 ((0 : Nat) : Int)) (fun k => ?_) hb, fun e => ⟨by omega, by omega, c2, fun i hi => hx e i (Nat.zero_le _) hi⟩⟩
        unfold vireolaw26_tried.f
        rw [if_neg c0, if_neg c1, if_pos (by omega)]
        have : ((rd_T50 l 0).f0 != -1) = false := by have c3 : (rd_T50 l 0).f0 = -1 := c2; simp [c3]
        rw [this]
        simp [vireolaw26_tried.j0]
      · refine ev_no (fun k => ?_)
        unfold vireolaw26_tried.f
        rw [if_neg c0, if_neg c1, if_pos (by omega)]
        have : ((rd_T50 l 0).f0 != -1) = true := by have c3 : ¬ (rd_T50 l 0).f0 = -1 := c2; simp [c3]
        rw [this, no]
end Go.Proofs.Ytmhlellhfepkkaa.B
/- Plain: sums over a tree are sums over its list. -/
namespace Go.Proofs.Ytmhlellhfepkkaa.B
open Go.RowKit Go.Proofs.YtmhlellhfepkkaaW.PrintWords Go.Proofs.YtmhlellhfepkkaaW.PrintLast Go.Proofs.YtmhlellhfepkkaaW.PrintMore Go.Proofs.Ytmhlellhfepkkaa.PAl
set_option linter.unusedVariables false
set_option linter.unusedSimpArgs false
def wT (w : Nat → Nat) : Nat → List S50 → Nat → Nat
  | 0, l, i => 0
  | d + 1, l, i => w i + ((kidsOf l i (i + 1)).map (wT w d l)).sum
theorem wT_more (w : Nat → Nat) (l : List S50) : ∀ d d' i, l.length - i ≤ d → l.length - i ≤ d' → i < l.length → wT w d l i = wT w d' l i
  | 0, d', i, h1, h2, h3 => by omega
  | d + 1, 0, i, h1, h2, h3 => by omega
  | d + 1, d' + 1, i, h1, h2, h3 => by
    simp only [wT]
    congr 2
    refine List.map_congr_left (fun j hj => ?_)
    obtain ⟨q1, q2, _⟩ := kidsOf_mem hj
    exact wT_more w l d d' j (by omega) (by omega) q2
def wOf (w : Nat → Nat) (l : List S50) (i : Nat) : Nat := wT w (l.length - i) l i
theorem wOf_open (w : Nat → Nat) (l : List S50) {i : Nat} (h : i < l.length) : wOf w l i = w i + ((kidsOf l i (i + 1)).map (wOf w l)).sum := by
  unfold wOf
  obtain ⟨d, hd⟩ : ∃ d, l.length - i = d + 1 := ⟨l.length - i - 1, by omega⟩
  rw [hd]
  simp only [wT]
  congr 2
  refine List.map_congr_left (fun j hj => ?_)
  obtain ⟨q1, q2, _⟩ := kidsOf_mem hj
  exact wT_more w l d (l.length - j) j (by omega) (by omega) q2
def sumTo (w : Nat → Nat) : Nat → Nat
  | 0 => 0
  | n + 1 => sumTo w n + w n
def rest (w : Nat → Nat) (l : List S50) (m : Nat) : Nat := (((List.range' m (l.length - m)).filter fun j => decide ((pt l j).f0 < (m : Int))).map (wOf w l)).sum
theorem split_sum (l : List S50) (f : Nat → Nat) (m : Nat) : ∀ L : List Nat, ((L.filter fun j => decide ((pt l j).f0 < ((m + 1 : Nat) : Int))).map f).sum = ((L.filter fun j => decide ((pt l j).f0 < (m : Int))).map f).sum + ((L.filter fun j => decide ((pt l j).f0 = (m : Int))).map f).sum
  | [] => rfl
  | x :: L => by
    have ih := split_sum l f m L
    simp only [List.filter_cons]
    by_cases c1 : (pt l x).f0 < (m : Int)
    · have c2 : ¬ (pt l x).f0 = (m : Int) := by omega
      have c3 : (pt l x).f0 < ((m + 1 : Nat) : Int) := by omega
      simp only [decide_eq_true c1, decide_eq_false c2, decide_eq_true c3, if_true, if_false, List.map_cons, List.sum_cons, Bool.false_eq_true]
      omega
    · by_cases c2 : (pt l x).f0 = (m : Int)
      · have c3 : (pt l x).f0 < ((m + 1 : Nat) : Int) := by omega
        simp only [decide_eq_false c1, decide_eq_true c2, decide_eq_true c3, if_true, if_false, List.map_cons, List.sum_cons, Bool.false_eq_true]
        omega
      · have c3 : ¬ (pt l x).f0 < ((m + 1 : Nat) : Int) := by omega
        simp only [decide_eq_false c1, decide_eq_false c2, decide_eq_false c3, if_true, if_false, List.map_cons, List.sum_cons, Bool.false_eq_true]
        omega
theorem rest_step {w : Nat → Nat} {l : List S50} (ht : Tried l) {m : Nat} (h1 : 1 ≤ m) (h2 : m < l.length) : rest w l m = w m + rest w l (m + 1) := by
  unfold rest
  obtain ⟨d, hd⟩ : ∃ d, l.length - m = d + 1 := ⟨l.length - m - 1, by omega⟩
  have hm := (ht.good m h2).1 (by omega)
  rw [split_sum l (wOf w l) m, hd, List.range'_succ, List.filter_cons, show l.length - (m + 1) = d by omega]
  simp only [decide_eq_true hm.2, if_true, List.map_cons, List.sum_cons]
  rw [wOf_open w l h2]
  unfold kidsOf
  rw [show l.length - (m + 1) = d by omega]
  omega
theorem sum_rest {w : Nat → Nat} {l : List S50} (ht : Tried l) : ∀ (d m : Nat), d + m = l.length → 1 ≤ m → sumTo w m + rest w l m = sumTo w l.length
  | 0, m, h, h1 => by
    obtain rfl : m = l.length := by omega
    unfold rest
    rw [Nat.sub_self]
    rfl
  | d + 1, m, h, h1 => by
    have ih := sum_rest (w := w) ht d (m + 1) (by omega) (by omega)
    rw [rest_step ht h1 (by omega)]
    simp only [sumTo] at ih
    omega
/-- A sum over the whole tree. -/
theorem sum_all {l : List S50} (ht : Tried l) (w : Nat → Nat) : wOf w l 0 = sumTo w l.length := by
  have h0 := ht.pos
  rw [← sum_rest (w := w) ht (l.length - 1) 1 (by omega) (Nat.le_refl _), wOf_open w l h0]
  simp only [sumTo]
  have e : kidsOf l 0 (0 + 1) = (List.range' 1 (l.length - 1)).filter fun j => decide ((pt l j).f0 < ((1 : Nat) : Int)) := by
    unfold kidsOf
    refine List.filter_congr (fun j hj => ?_)
    rw [List.mem_range'_1] at hj
    have := (ht.good j (by omega)).1 (by omega)
    by_cases c : (pt l j).f0 = ((0 : Nat) : Int)
    · rw [decide_eq_true c, decide_eq_true (by omega)]
    · rw [decide_eq_false c, decide_eq_false (by omega)]
  rw [e]
  unfold rest
  omega
theorem sumTo_le {w w' : Nat → Nat} : ∀ n, (∀ i, i < n → w i ≤ w' i) → sumTo w n ≤ sumTo w' n
  | 0, _ => Nat.le_refl _
  | n + 1, h => by have := sumTo_le n (fun i hi => h i (by omega)); have := h n (by omega); simp only [sumTo]; omega
theorem sumTo_const (c : Nat) : ∀ n, sumTo (fun _ => c) n = c * n
  | 0 => rfl
  | n + 1 => by simp only [sumTo, sumTo_const c n, Nat.mul_succ]
theorem sumTo_zero {w : Nat → Nat} : ∀ n, sumTo w n = 0 ↔ ∀ i, i < n → w i = 0
  | 0 => ⟨fun _ i hi => by omega, fun _ => rfl⟩
  | n + 1 => by
    have ih := sumTo_zero (w := w) n
    simp only [sumTo]
    constructor
    · intro h i hi
      rcases Nat.lt_or_ge i n with q | q
      · exact ih.1 (by omega) i q
      · obtain rfl : i = n := by omega
        omega
    · intro h
      have := ih.2 (fun i hi => h i (by omega))
      have := h n (by omega)
      omega
/-! how deep a part lies -/
def dT (l : List S50) : Nat → Nat → Nat
  | 0, i => 0
  | d + 1, i => if i = 0 then 1 else dT l d (pt l i).f0.toNat + 1
theorem dT_more {l : List S50} (ht : Tried l) : ∀ d d' i, i < d → i < d' → i < l.length → dT l d i = dT l d' i
  | 0, d', i, h1, h2, h3 => by omega
  | d + 1, 0, i, h1, h2, h3 => by omega
  | d + 1, d' + 1, i, h1, h2, h3 => by
    simp only [dT]
    by_cases c : i = 0
    · rw [if_pos c, if_pos c]
    · rw [if_neg c, if_neg c]
      have := (ht.good i h3).1 (by omega)
      rw [dT_more ht d d' (pt l i).f0.toNat (by omega) (by omega) (by omega)]
def dOf (l : List S50) (i : Nat) : Nat := dT l (i + 1) i
theorem dOf_zero (l : List S50) : dOf l 0 = 1 := rfl
theorem dOf_open {l : List S50} (ht : Tried l) {i : Nat} (h0 : 0 < i) (hi : i < l.length) : dOf l i = dOf l (pt l i).f0.toNat + 1 := by
  have := (ht.good i hi).1 h0
  unfold dOf
  rw [dT, if_neg (by omega), dT_more ht i ((pt l i).f0.toNat + 1) _ (by omega) (by omega) (by omega)]
theorem dOf_kid {l : List S50} (ht : Tried l) {i j f : Nat} (h : j ∈ kidsOf l i f) (hf : 0 < f) : dOf l j = dOf l i + 1 := by
  obtain ⟨q1, q2, q3⟩ := kidsOf_mem h
  rw [dOf_open ht (by omega) q2, q3, Int.toNat_natCast]
theorem dOf_pos {l : List S50} (i : Nat) : 1 ≤ dOf l i := by unfold dOf; rw [dT]; split <;> omega
theorem dOf_one {l : List S50} (ht : Tried l) {i : Nat} (hi : i < l.length) : dOf l i = 1 ↔ i = 0 := by
  constructor
  · intro h
    rcases Nat.eq_zero_or_pos i with q | q
    · exact q
    · rw [dOf_open ht q hi] at h
      have := dOf_pos (l := l) (pt l i).f0.toNat
      omega
  · rintro rfl; rfl
theorem dOf_le {l : List S50} (ht : Tried l) : ∀ (d i : Nat), i ≤ d → i < l.length → dOf l i ≤ i + 1
  | 0, i, h1, h2 => by obtain rfl : i = 0 := by omega
                       exact Nat.le_refl _
  | d + 1, i, h1, h2 => by
    rcases Nat.eq_zero_or_pos i with rfl | q
    · exact Nat.le_refl _
    · have := (ht.good i h2).1 q
      rw [dOf_open ht q h2]
      have := dOf_le ht d (pt l i).f0.toNat (by omega) (by omega)
      omega
end Go.Proofs.Ytmhlellhfepkkaa.B
/- Plain: names. -/
namespace Go.Proofs.Ytmhlellhfepkkaa.B
open Go.RowKit Go.Proofs.YtmhlellhfepkkaaW.PrintWords Go.Proofs.YtmhlellhfepkkaaW.PrintLast Go.Proofs.YtmhlellhfepkkaaW.PrintMore Go.Proofs.Ytmhlellhfepkkaa.PAl
set_option linter.unusedVariables false
set_option linter.unusedSimpArgs false
theorem bt_mid (s : ByteArray) (pre suf : List Int) (x : Int) (h : bytesOf s = pre ++ x :: suf) : bt s (pre.length : Int) = x := by
  have hl : s.size = pre.length + (suf.length + 1) := by have := congrArg List.length h; rw [bytesOf_length] at this; simpa using this
  unfold bt
  rw [Int.toNat_natCast, dif_pos (by omega)]
  have h2 : (bytesOf s)[pre.length]? = some x := by rw [h]; simp
  unfold bytesOf at h2
  rw [List.getElem?_map] at h2
  obtain ⟨b, hb, hx⟩ := Option.map_eq_some_iff.1 h2
  rw [← hx]
  have hb2 : s.data.toList[pre.length]? = some b := hb
  rw [Array.getElem?_toList] at hb2
  obtain ⟨hlt, he⟩ := Array.getElem?_eq_some_iff.1 hb2
  show ((s.data[pre.length].toNat : Nat) : Int) = _
  rw [he]
def okB (x : Int) : Bool := decide (33 ≤ x) && decide (x ≤ 126)
/-- May a text be a name? -/
def nmOK (s : ByteArray) (e : Bool) : Bool := if s.size = 0 then e else decide (s.size ≤ 31) && (bytesOf s).all okB
theorem size_toList (s : ByteArray) : s.toList = [] ↔ s.size = 0 := by rw [ByteArray.toList_eq, ← data_length s]; exact List.length_eq_zero_iff.symm
theorem named_loop (s : ByteArray) (hs : s.size ≤ 1000) : ∀ (suf pre : List Int), bytesOf s = pre ++ suf → Ev (fun k => fdt_named.l0 k s (s.size : Int) (pre.length : Int)) (suf.all okB)
  | [], pre, h => by
    have hl : s.size = pre.length := by have := congrArg List.length h; rw [bytesOf_length] at this; simpa using this
    refine Ev.step (f := fun _ => some true) (fun k => ?_) (Ev.now _)
    simp only [fdt_named.l0]
    rw [if_neg (by omega)]
  | x :: suf, pre, h => by
    have hl : s.size = pre.length + (suf.length + 1) := by have := congrArg List.length h; rw [bytesOf_length] at this; simpa using this
    have hb := bt_mid s pre suf x h
    by_cases c1 : x ≤ 32
    · have e : (x :: suf).all okB = false := by simp [okB]; intro q; omega
      rw [e]
      refine Ev.step (f := fun _ => some false) (fun k => ?_) (Ev.now _)
      simp only [fdt_named.l0]
      rw [if_pos (by omega), if_pos (by omega), if_pos (by omega), hb, if_pos c1]
    · by_cases c2 : x > 126
      · have e : (x :: suf).all okB = false := by simp [okB]; intro q; omega
        rw [e]
        refine Ev.step (f := fun _ => some false) (fun k => ?_) (Ev.now _)
        simp only [fdt_named.l0]
        rw [if_pos (by omega), if_pos (by omega), if_pos (by omega), hb, if_neg c1, if_pos c2]
      · have ih := named_loop s hs suf (pre ++ [x]) (by simp [h])
        have e : (x :: suf).all okB = suf.all okB := by simp [okB]; omega
        rw [e]
        refine Ev.step (f := fun k => fdt_named.l0 k s (s.size : Int) ((pre ++ [x]).length : Int)) (fun k => ?_) ih
        simp only [fdt_named.l0]
        rw [if_pos (by omega), if_pos (by omega), if_pos (by omega), hb, if_neg c1, if_neg c2, w64 (by omega) (by omega)]
        simp
theorem named_is (s : ByteArray) (e : Bool) : Ev (fun k => fdt_named.f k s e) (nmOK s e) := by
  unfold fdt_named.f nmOK
  by_cases c : s.size = 0
  · rw [if_pos c]
    refine Ev.congr (f := fun _ => some e) (fun k => ?_) (Ev.now _)
    rw [if_pos ((size_toList s).2 c)]
  · rw [if_neg c]
    by_cases c2 : (s.size : Int) > 31
    · have e2 : (decide (s.size ≤ 31) && (bytesOf s).all okB) = false := by rw [decide_eq_false (by omega)]; rfl
      rw [e2]
      refine Ev.congr (f := fun _ => some false) (fun k => ?_) (Ev.now _)
      rw [if_neg (fun q => c ((size_toList s).1 q)), if_pos c2]
    · have e2 : (decide (s.size ≤ 31) && (bytesOf s).all okB) = (bytesOf s).all okB := by rw [decide_eq_true (by omega), Bool.true_and]
      rw [e2]
      refine Ev.congr (f := fun k => fdt_named.l0 k s (s.size : Int) (([] : List Int).length : Int)) (fun k => ?_) (named_loop s (by omega) (bytesOf s) [] rfl)
      rw [if_neg (fun q => c ((size_toList s).1 q)), if_neg c2]
      rfl
theorem Named_loop (s : ByteArray) (hs : s.size ≤ 1000) : ∀ (suf pre : List Int), bytesOf s = pre ++ suf → Ev (fun k => vireoref26_Named.l0 k s (pre.length : Int)) (suf.all okB)
  | [], pre, h => by
    have hl : s.size = pre.length := by have := congrArg List.length h; rw [bytesOf_length] at this; simpa using this
    refine Ev.step (f := fun _ => some true) (fun k => ?_) (Ev.now _)
    simp only [vireoref26_Named.l0]
    rw [if_neg (by omega)]
  | x :: suf, pre, h => by
    have hl : s.size = pre.length + (suf.length + 1) := by have := congrArg List.length h; rw [bytesOf_length] at this; simpa using this
    have hb := bt_mid s pre suf x h
    by_cases c1 : x < 33
    · have e : (x :: suf).all okB = false := by simp [okB]; intro q; omega
      rw [e]
      refine Ev.step (f := fun _ => some false) (fun k => ?_) (Ev.now _)
      simp only [vireoref26_Named.l0]
      rw [if_pos (by omega), if_pos (by omega), hb, if_pos c1]
    · by_cases c2 : x > 126
      · have e : (x :: suf).all okB = false := by simp [okB]; intro q; omega
        rw [e]
        refine Ev.step (f := fun _ => some false) (fun k => ?_) (Ev.now _)
        simp only [vireoref26_Named.l0]
        rw [if_pos (by omega), if_pos (by omega), hb, if_neg c1, if_pos c2]
      · have ih := Named_loop s hs suf (pre ++ [x]) (by simp [h])
        have e : (x :: suf).all okB = suf.all okB := by simp [okB]; omega
        rw [e]
        refine Ev.step (f := fun k => vireoref26_Named.l0 k s ((pre ++ [x]).length : Int)) (fun k => ?_) ih
        simp only [vireoref26_Named.l0]
        rw [if_pos (by omega), if_pos (by omega), hb, if_neg c1, if_neg c2, w64 (by omega) (by omega)]
        simp
theorem Named_is (s : ByteArray) : Ev (fun k => vireoref26_Named.f k s) (nmOK s false) := by
  unfold vireoref26_Named.f nmOK
  by_cases c : s.size = 0
  · rw [if_pos c]
    refine Ev.step (f := fun _ => some false) (fun k => ?_) (Ev.now _)
    rw [if_pos (by omega)]
    simp [vireoref26_Named.j0]
  · rw [if_neg c]
    by_cases c2 : (s.size : Int) > 31
    · have e2 : (decide (s.size ≤ 31) && (bytesOf s).all okB) = false := by rw [decide_eq_false (by omega)]; rfl
      rw [e2]
      refine Ev.step (f := fun _ => some false) (fun k => ?_) (Ev.now _)
      rw [if_neg (by omega), decide_eq_true c2]
      simp [vireoref26_Named.j0]
    · have e2 : (decide (s.size ≤ 31) && (bytesOf s).all okB) = (bytesOf s).all okB := by rw [decide_eq_true (by omega), Bool.true_and]
      rw [e2]
      refine Ev.step (f := fun k => vireoref26_Named.l0 k s (([] : List Int).length : Int)) (fun k => ?_) (Named_loop s (by omega) (bytesOf s) [] rfl)
      rw [if_neg (by omega), decide_eq_false c2]
      simp [vireoref26_Named.j0]
end Go.Proofs.Ytmhlellhfepkkaa.B
/- Plain: whether a tree may be. -/
namespace Go.Proofs.Ytmhlellhfepkkaa.B
open Go.RowKit Go.Proofs.YtmhlellhfepkkaaW.PrintWords Go.Proofs.YtmhlellhfepkkaaW.PrintLast Go.Proofs.YtmhlellhfepkkaaW.PrintMore Go.Proofs.Ytmhlellhfepkkaa.PAl
set_option linter.unusedVariables false
set_option linter.unusedSimpArgs false
def okProp (q : S55) : Bool := nmOK q.f0 false && decide (q.f1.length ≤ 4096)
def okPart (l : List S50) (i : Nat) : Bool := decide (dOf l i ≤ 8) && nmOK (pt l i).f1 (i == 0) && decide ((pt l i).f2.length ≤ 256) && (pt l i).f2.all okProp
def bad (l : List S50) (i : Nat) : Nat := if okPart l i = true then 0 else 1
def one_ (i : Nat) : Nat := 1
def nprops (l : List S50) (i : Nat) : Nat := (pt l i).f2.length
def NN (l : List S50) (i : Nat) : Nat := wOf one_ l i
def PP (l : List S50) (i : Nat) : Nat := wOf (nprops l) l i
def BB (l : List S50) (i : Nat) : Nat := wOf (bad l) l i
def cOK (l : List S50) (i : Nat) : Prop := BB l i = 0 ∧ NN l i ≤ 64 ∧ PP l i ≤ 256
instance (l : List S50) (i : Nat) : Decidable (cOK l i) := by unfold cOK; infer_instance
theorem rd74_mid (pre suf : List S74) (x : S74) : rd_T74 (pre ++ x :: suf) (pre.length : Int) = x := by
  unfold rd_T74; rw [Int.toNat_natCast]; simp [List.getD, List.getElem?_append_right]
theorem rd32_mid (pre suf : List S32) (x : S32) : rd_T32 (pre ++ x :: suf) (pre.length : Int) = x := by
  unfold rd_T32; rw [Int.toNat_natCast]; simp [List.getD, List.getElem?_append_right]
/-- the loop over what is told -/
theorem count_l0 (ps : List S74) (hp : ps.length ≤ 1000) (dep a b : Int) (nm : ByteArray) (ks : List S32) {r : Int × Int × Bool} (hend : Ev (fun k => fdt_count.l1 k dep a b ks (ks.length : Int) 0) r) :
    ∀ (suf pre : List S74), ps = pre ++ suf → Ev (fun k => fdt_count.l0 k dep a b ps (ps.length : Int) (pre.length : Int) nm ps ks) (if (suf.all fun q => nmOK q.f0 false && decide (q.f1.length ≤ 4096)) = true then r else (0, 0, false))
  | [], pre, h => by
    have h' : ps = pre := by simpa using h
    rw [if_pos (by rfl)]
    refine Ev.step (f := fun k => fdt_count.l1 k dep a b ks (ks.length : Int) 0) (fun k => ?_) hend
    simp only [fdt_count.l0]
    rw [if_neg (by rw [h']; omega)]
  | x :: suf, pre, h => by
    have hlen : ps.length = pre.length + (suf.length + 1) := by rw [h]; simp
    have hr : rd_T74 ps (pre.length : Int) = x := by rw [h]; exact rd74_mid _ _ _
    have ih := count_l0 ps hp dep a b nm ks hend suf (pre ++ [x]) (by simp [h])
    refine Ev.step (f := fun k => (fdt_named.f k x.f0 false).bind fun t105 => (if t105 = true then (if ((x.f1).length : Int) > 4096 then (some (0, 0, false)) else (fdt_count.l0 k dep a b ps (ps.length : Int) ((pre ++ [x]).length : Int) nm ps ks)) else (some (0, 0, false)))) (fun k => ?_) ?_
    · simp only [fdt_count.l0]
      rw [if_pos (by omega), if_pos (by omega), if_pos (by omega), hr, w64 (by omega) (by omega)]
      simp
    · refine Ev.bind (named_is x.f0 false) ?_
      cases hn : nmOK x.f0 false with
      | false =>
        rw [if_neg (by simp [hn])]
        exact Ev.congr (f := fun _ => some (0, 0, false)) (fun k => by simp) (Ev.now _)
      | true =>
        by_cases c : (x.f1.length : Int) > 4096
        · rw [if_neg (by simp [hn]; intro q; omega)]
          exact Ev.congr (f := fun _ => some (0, 0, false)) (fun k => by rw [if_pos rfl, if_pos c]) (Ev.now _)
        · have e : ((x :: suf).all fun q => nmOK q.f0 false && decide (q.f1.length ≤ 4096)) = (suf.all fun q => nmOK q.f0 false && decide (q.f1.length ≤ 4096)) := by simp [hn]; intro _; omega
          rw [e]
          exact Ev.congr (fun k => by rw [if_pos rfl, if_neg c]) ih
theorem NN_pos (l : List S50) {i : Nat} (h : i < l.length) : 1 ≤ NN l i := by unfold NN; rw [wOf_open _ l h]; unfold one_; omega
theorem sum_ge {ks : List Nat} (f : Nat → Nat) (h : ∀ x, x ∈ ks → 1 ≤ f x) : ks.length ≤ (ks.map f).sum := by
  induction ks with
  | nil => exact Nat.le_refl _
  | cons a ks ih =>
    have := h a List.mem_cons_self
    have := ih (fun x hx => h x (List.mem_cons_of_mem _ hx))
    simp only [List.map_cons, List.sum_cons, List.length_cons]; omega
/-- the loop over the parts -/
theorem count_l1 {l : List S50} (ht : Tried l) {dep : Int} (hd0 : 0 ≤ dep) (hd1 : dep ≤ 1000) (ks0 : List Nat) (hk0 : ks0.length ≤ 1000) (hk : ∀ j, j ∈ ks0 → j < l.length ∧ Ev (fun k => fdt_count.f k (nodeOf l j).f0 (nodeOf l j).f1 (nodeOf l j).f2 (dep + 1)) (if cOK l j then ((NN l j : Int), (PP l j : Int), true) else (0, 0, false))) :
    ∀ (suf pre : List Nat) (a b : Nat), ks0 = pre ++ suf → a ≤ 64 → b ≤ 256 → Ev (fun k => fdt_count.l1 k dep (a : Int) (b : Int) (ks0.map (nodeOf l)) ((ks0.map (nodeOf l)).length : Int) (pre.length : Int))
      (if (suf.map (BB l)).sum = 0 ∧ a + (suf.map (NN l)).sum ≤ 64 ∧ b + (suf.map (PP l)).sum ≤ 256 then (((a + (suf.map (NN l)).sum : Nat) : Int), ((b + (suf.map (PP l)).sum : Nat) : Int), true) else (0, 0, false))
  | [], pre, a, b, h, ha, hb => by
    have h' : ks0 = pre := by simpa using h
    rw [if_pos ⟨rfl, by simpa using ha, by simpa using hb⟩]
    refine Ev.step (f := fun _ => some ((a : Int), (b : Int), true)) (fun k => ?_) (by simpa using Ev.now _)
    simp only [fdt_count.l1]
    rw [if_neg (by rw [h', List.length_map]; omega)]
  | j :: suf, pre, a, b, h, ha, hb => by
    have hlen : ks0.length = pre.length + (suf.length + 1) := by rw [h]; simp
    have hml : (ks0.map (nodeOf l)).length = ks0.length := List.length_map ..
    have hr : rd_T32 (ks0.map (nodeOf l)) (pre.length : Int) = nodeOf l j := by
      rw [h, List.map_append, List.map_cons]
      have := rd32_mid (pre.map (nodeOf l)) (suf.map (nodeOf l)) (nodeOf l j)
      rwa [List.length_map] at this
    obtain ⟨hj, hc⟩ := hk j (by rw [h]; simp)
    refine Ev.step (f := fun k => (fdt_count.f k (nodeOf l j).f0 (nodeOf l j).f1 (nodeOf l j).f2 (dep + 1)).bind fun bt108 => (if bt108.2.2 = true then (if (wrap64 ((a : Int) + bt108.1)) > 64 then (some (0, 0, false)) else (if (wrap64 ((b : Int) + bt108.2.1)) > 256 then (some (0, 0, false)) else (fdt_count.l1 k dep (wrap64 ((a : Int) + bt108.1)) (wrap64 ((b : Int) + bt108.2.1)) (ks0.map (nodeOf l)) ((ks0.map (nodeOf l)).length : Int) ((pre ++ [j]).length : Int)))) else (some (0, 0, false)))) (fun k => ?_) (Ev.bind hc ?_)
    · simp only [fdt_count.l1]
      rw [if_pos (by omega), if_pos (by omega), if_pos (by omega), hr, w64 (x := dep + 1) (by omega) (by omega), w64 (x := (pre.length : Int) + 1) (by omega) (by omega)]
      simp
    · simp only [List.map_cons, List.sum_cons]
      by_cases c : cOK l j
      · simp only [if_pos c, if_true]
        obtain ⟨c1, c2, c3⟩ := c
        have w1 : wrap64 ((a : Int) + (NN l j : Int)) = ((a + NN l j : Nat) : Int) := by rw [w64 (by omega) (by omega)]; omega
        have w2 : wrap64 ((b : Int) + (PP l j : Int)) = ((b + PP l j : Nat) : Int) := by rw [w64 (by omega) (by omega)]; omega
        rw [w1, w2]
        clear w1 w2
        by_cases d1 : a + NN l j > 64
        · rw [if_neg (by omega)]
          exact Ev.congr (f := fun _ => some (0, 0, false)) (fun k => by rw [if_pos (by omega)]) (Ev.now _)
        · by_cases d2 : b + PP l j > 256
          · rw [if_neg (by omega)]
            exact Ev.congr (f := fun _ => some (0, 0, false)) (fun k => by rw [if_neg (by omega), if_pos (by omega)]) (Ev.now _)
          · have ih := count_l1 ht hd0 hd1 ks0 hk0 hk suf (pre ++ [j]) (a + NN l j) (b + PP l j) (by simp [h]) (by omega) (by omega)
            rw [c1, Nat.zero_add]
            rw [← Nat.add_assoc, ← Nat.add_assoc]
            exact Ev.congr (fun k => by rw [if_neg (by omega), if_neg (by omega)]) ih
      · simp only [if_neg c, Bool.false_eq_true, if_false]
        have : ¬ (BB l j + (suf.map (BB l)).sum = 0 ∧ a + (NN l j + (suf.map (NN l)).sum) ≤ 64 ∧ b + (PP l j + (suf.map (PP l)).sum) ≤ 256) := fun q => c ⟨by omega, by omega, by omega⟩
        rw [if_neg this]
        exact Ev.now _
/-- What 'count' says of a part. -/
theorem count_is {l : List S50} (ht : Tried l) : ∀ (d i : Nat), l.length - i ≤ d → i < l.length → Ev (fun k => fdt_count.f k (nodeOf l i).f0 (nodeOf l i).f1 (nodeOf l i).f2 (dOf l i : Int)) (if cOK l i then ((NN l i : Int), (PP l i : Int), true) else (0, 0, false))
  | 0, i, hd, hi => by omega
  | d + 1, i, hd, hi => by
    have hl := ht.len
    have hdl := dOf_le ht i i (Nat.le_refl _) hi
    have hdp := dOf_pos (l := l) i
    have hkl : (kidsOf l i (i + 1)).length ≤ 1000 := by
      unfold kidsOf
      have := List.length_filter_le (fun j => decide ((pt l j).f0 = (i : Int))) (List.range' (i + 1) (l.length - (i + 1)))
      rw [List.length_range'] at this
      omega
    have hp := (ht.good i hi).2.2.1
    have hps : (propsOf (pt l i)).length = (pt l i).f2.length := by simp [propsOf]
    rw [nodeOf_open l hi]
    dsimp only
    have hml : ((kidsOf l i (i + 1)).map (nodeOf l)).length = (kidsOf l i (i + 1)).length := List.length_map ..
    have j0no : ∀ k, fdt_count.j0 (k + 1) (dOf l i : Int) true (pt l i).f1 (propsOf (pt l i)) ((kidsOf l i (i + 1)).map (nodeOf l)) = some (0, 0, false) := fun k => by simp [fdt_count.j0]
    have nb : okPart l i = false → ¬ cOK l i := by
      intro q ⟨q1, _⟩
      unfold BB at q1
      rw [wOf_open _ l hi] at q1
      unfold bad at q1
      rw [if_neg (by simp [q])] at q1
      omega
    have allp : ((propsOf (pt l i)).all fun q => nmOK q.f0 false && decide (q.f1.length ≤ 4096)) = (pt l i).f2.all okProp := by
      unfold propsOf; rw [List.all_map]; rfl
    have e1 : (((dOf l i : Nat) : Int) == 1) = (i == 0) := by
      by_cases q : i = 0
      · have := (dOf_one ht hi).2 q; subst q; rw [this]; rfl
      · have h1 : ¬ dOf l i = 1 := fun z => q ((dOf_one ht hi).1 z)
        have h2 : (i == 0) = false := by simpa using q
        rw [h2]; simp; omega
    by_cases c1 : (dOf l i : Int) > 8
    · rw [if_neg (nb (by unfold okPart; rw [decide_eq_false (by omega)]; rfl))]
      refine Ev.step (f := fun k => fdt_count.j0 k (dOf l i : Int) true (pt l i).f1 (propsOf (pt l i)) ((kidsOf l i (i + 1)).map (nodeOf l))) (fun k => ?_) (Ev.step j0no (Ev.now _))
      simp only [fdt_count.f]
      rw [if_pos c1]
    · refine Ev.step (f := fun k => (fdt_named.f k (pt l i).f1 (i == 0)).bind fun t102 => (if t102 = true then (if ((propsOf (pt l i)).length : Int) > 256 then (fdt_count.j0 k (dOf l i : Int) true (pt l i).f1 (propsOf (pt l i)) ((kidsOf l i (i + 1)).map (nodeOf l))) else (fdt_count.j0 k (dOf l i : Int) (decide ((((kidsOf l i (i + 1)).map (nodeOf l)).length : Int) > 64)) (pt l i).f1 (propsOf (pt l i)) ((kidsOf l i (i + 1)).map (nodeOf l)))) else (fdt_count.j0 k (dOf l i : Int) true (pt l i).f1 (propsOf (pt l i)) ((kidsOf l i (i + 1)).map (nodeOf l))))) (fun k => ?_) (Ev.bind (named_is (pt l i).f1 (i == 0)) ?_)
      · simp only [fdt_count.f]
        rw [if_neg c1, e1]
      · cases hn : nmOK (pt l i).f1 (i == 0) with
        | false =>
          rw [if_neg (nb (by unfold okPart; rw [hn]; simp))]
          exact Ev.step (fun k => by rw [if_neg (by simp)]; exact j0no k) (Ev.now _)
        | true =>
          simp only [if_true]
          by_cases c2 : ((propsOf (pt l i)).length : Int) > 256
          · rw [if_neg (nb (by unfold okPart; rw [decide_eq_false (show ¬ (pt l i).f2.length ≤ 256 by omega)]; simp))]
            exact Ev.step (fun k => by rw [if_pos c2]; exact j0no k) (Ev.now _)
          · by_cases c3 : (((kidsOf l i (i + 1)).map (nodeOf l)).length : Int) > 64
            · have : ¬ cOK l i := by
                rintro ⟨_, q2, _⟩
                unfold NN at q2
                rw [wOf_open _ l hi] at q2
                have := sum_ge (ks := kidsOf l i (i + 1)) (NN l) (fun x hx => NN_pos l (kidsOf_mem hx).2.1)
                have e : ((kidsOf l i (i + 1)).map (wOf one_ l)).sum = ((kidsOf l i (i + 1)).map (NN l)).sum := rfl
                unfold one_ at q2
                change 1 + ((kidsOf l i (i + 1)).map (NN l)).sum ≤ 64 at q2
                omega
              rw [if_neg this]
              exact Ev.step (fun k => by rw [if_neg c2, decide_eq_true c3]; exact j0no k) (Ev.now _)
            · have h1 := count_l1 ht (dep := (dOf l i : Int)) (by omega) (by omega) (kidsOf l i (i + 1)) hkl (fun j hj => by
                obtain ⟨q1, q2, q3⟩ := kidsOf_mem hj
                have := count_is ht d j (by omega) q2
                rw [dOf_kid ht hj (by omega)] at this
                exact ⟨q2, by simpa using this⟩) (kidsOf l i (i + 1)) [] 1 (pt l i).f2.length rfl (by omega) (by omega)
              have h0 := count_l0 (propsOf (pt l i)) (by omega) (dOf l i : Int) 1 ((pt l i).f2.length : Int) (pt l i).f1 ((kidsOf l i (i + 1)).map (nodeOf l)) h1 (propsOf (pt l i)) [] rfl
              rw [allp] at h0
              have hNN : NN l i = 1 + ((kidsOf l i (i + 1)).map (NN l)).sum := by unfold NN; rw [wOf_open _ l hi]; rfl
              have hPP : PP l i = (pt l i).f2.length + ((kidsOf l i (i + 1)).map (PP l)).sum := by unfold PP; rw [wOf_open _ l hi]; rfl
              have hBB : BB l i = bad l i + ((kidsOf l i (i + 1)).map (BB l)).sum := by unfold BB; rw [wOf_open _ l hi]
              have he : (if (pt l i).f2.all okProp = true then (if ((kidsOf l i (i + 1)).map (BB l)).sum = 0 ∧ 1 + ((kidsOf l i (i + 1)).map (NN l)).sum ≤ 64 ∧ (pt l i).f2.length + ((kidsOf l i (i + 1)).map (PP l)).sum ≤ 256 then (((1 + ((kidsOf l i (i + 1)).map (NN l)).sum : Nat) : Int), (((pt l i).f2.length + ((kidsOf l i (i + 1)).map (PP l)).sum : Nat) : Int), true) else (0, 0, false)) else (0, 0, false)) = (if cOK l i then ((NN l i : Int), (PP l i : Int), true) else (0, 0, false)) := by
                rw [← hNN, ← hPP]
                cases hq : (pt l i).f2.all okProp with
                | false =>
                  rw [if_neg (by simp), if_neg (nb (by unfold okPart; rw [hq]; simp))]
                | true =>
                  have hb : bad l i = 0 := by
                    unfold bad okPart
                    rw [hn, hq, decide_eq_true (show dOf l i ≤ 8 by omega), decide_eq_true (show (pt l i).f2.length ≤ 256 by omega)]
                    rfl
                  rw [hb, Nat.zero_add] at hBB
                  rw [if_pos rfl, ← hBB]
                  rfl
              rw [he] at h0
              refine Ev.step (f := fun k => fdt_count.l0 k (dOf l i : Int) 1 ((pt l i).f2.length : Int) (propsOf (pt l i)) ((propsOf (pt l i)).length : Int) 0 (pt l i).f1 (propsOf (pt l i)) ((kidsOf l i (i + 1)).map (nodeOf l))) (fun k => ?_) h0
              rw [if_neg c2, decide_eq_false c3]
              simp only [fdt_count.j0, hps]
              rw [if_neg (by simp)]
/-- May the tree be? -/
theorem right_is {l : List S50} (ht : Tried l) : Ev (fun k => fdt_Right.f k (nodeOf l 0).f0 (nodeOf l 0).f1 (nodeOf l 0).f2) (if cOK l 0 then 0 else 250) := by
  unfold fdt_Right.f
  have h := count_is ht l.length 0 (by omega) ht.pos
  rw [dOf_zero] at h
  refine Ev.bind h ?_
  by_cases c : cOK l 0
  · simp only [if_pos c, if_true]; exact Ev.now _
  · simp only [if_neg c, Bool.false_eq_true, if_false]; exact Ev.now _
end Go.Proofs.Ytmhlellhfepkkaa.B
/- Plain: whether a list may be, as the page says. -/
namespace Go.Proofs.Ytmhlellhfepkkaa.B
open Go.RowKit Go.Proofs.YtmhlellhfepkkaaW.PrintWords Go.Proofs.YtmhlellhfepkkaaW.PrintLast Go.Proofs.YtmhlellhfepkkaaW.PrintMore Go.Proofs.Ytmhlellhfepkkaa.PAl
set_option linter.unusedVariables false
set_option linter.unusedSimpArgs false
theorem cOK_iff {l : List S50} (ht : Tried l) : cOK l 0 ↔ (∀ i, i < l.length → okPart l i = true) ∧ l.length ≤ 64 ∧ sumTo (nprops l) l.length ≤ 256 := by
  have h1 : NN l 0 = l.length := by
    unfold NN; rw [sum_all ht]
    have : ∀ n, sumTo one_ n = n := fun n => by induction n with
      | zero => rfl
      | succ n ih => simp only [sumTo, ih, one_]
    exact this _
  have h2 : PP l 0 = sumTo (nprops l) l.length := sum_all ht _
  have h3 : BB l 0 = sumTo (bad l) l.length := sum_all ht _
  unfold cOK
  rw [h1, h2, h3, sumTo_zero]
  have h4 : ∀ i, bad l i = 0 ↔ okPart l i = true := by intro i; unfold bad; split <;> simp_all
  simp only [h4]
theorem depth_loop {l : List S50} (ht : Tried l) (x3 : Int) {i : Nat} {r : Bool} : ∀ (d j : Nat) (c : Nat), j ≤ d → j < l.length → c + dOf l j ≤ 1000000 →
    Ev (fun k => vireoref26_Right.l1 k l x3 (i : Int) ((c + dOf l j : Nat) : Int) (-1)) r → Ev (fun k => vireoref26_Right.l1 k l x3 (i : Int) (c : Int) (j : Int)) r
  | 0, j, c, h1, h2, h3, h => by
    obtain rfl : j = 0 := by omega
    have hl := ht.len
    refine Ev.step (fun k => ?_) h
    have hr := ht.root
    simp only [vireoref26_Right.l1]
    rw [if_pos (by omega), if_pos (by omega), if_pos (by omega), rd50, hr, w64 (by omega) (by omega), dOf_zero]
    rfl
  | d + 1, j, c, h1, h2, h3, h => by
    have hl := ht.len
    rcases Nat.eq_zero_or_pos j with rfl | q
    · exact depth_loop ht x3 d 0 c (Nat.zero_le _) h2 h3 h
    · have hg := (ht.good j h2).1 q
      have hd := dOf_open ht q h2
      have hle := dOf_le ht j j (Nat.le_refl _) h2
      have hp : (((pt l j).f0.toNat : Nat) : Int) = (pt l j).f0 := by omega
      have ih := depth_loop ht x3 (i := i) (r := r) d (pt l j).f0.toNat (c + 1) (by omega) (by omega) (by omega) (by rw [show c + 1 + dOf l (pt l j).f0.toNat = c + dOf l j by omega]; exact h)
      refine Ev.step (fun k => ?_) ih
      simp only [vireoref26_Right.l1]
      rw [if_pos (by omega), if_pos (by omega), if_pos (by omega), rd50, hp, w64 (by omega) (by omega)]
      rfl
theorem ref_l2 {l : List S50} {i : Nat} (hi : i < l.length) (hl : l.length ≤ 70) (hp : (pt l i).f2.length ≤ 260) {x3 : Int} {r : Bool} (hend : Ev (fun k => vireoref26_Right.l0 k l x3 ((i + 1 : Nat) : Int)) r) :
    ∀ (suf pre : List S55), (pt l i).f2 = pre ++ suf → Ev (fun k => vireoref26_Right.l2 k l x3 (i : Int) (pre.length : Int)) (suf.all okProp && r)
  | [], pre, h => by
    have h' : (pt l i).f2 = pre := by simpa using h
    refine Ev.step (fun k => ?_) (by simpa using hend)
    simp only [vireoref26_Right.l2]
    rw [if_pos (by omega), if_pos (by omega), rd50, h', if_neg (by omega), w64 (by omega) (by omega)]
  | x :: suf, pre, h => by
    have hlen : (pt l i).f2.length = pre.length + (suf.length + 1) := by rw [h]; simp
    have hr : rd_T55 (pt l i).f2 (pre.length : Int) = x := by rw [h]; exact rd55_mid _ _ _
    have ih := ref_l2 hi hl hp hend suf (pre ++ [x]) (by simp [h])
    refine Ev.step (f := fun k => (vireoref26_Named.f k x.f0).bind fun t178 => (if t178 = true then (if (x.f1.length : Int) > 4096 then (some false) else (vireoref26_Right.l2 k l x3 (i : Int) ((pre ++ [x]).length : Int))) else (some false))) (fun k => ?_) (Ev.bind (Named_is x.f0) ?_)
    · simp only [vireoref26_Right.l2]
      rw [if_pos (by omega), if_pos (by omega), rd50, if_pos (by omega), if_pos (by omega), hr, w64 (by omega) (by omega)]
      simp
    · cases hn : nmOK x.f0 false with
      | false =>
        have e : ((x :: suf).all okProp && r) = false := by simp [okProp, hn]
        rw [e]
        exact Ev.congr (f := fun _ => some false) (fun k => by simp) (Ev.now _)
      | true =>
        by_cases c : (x.f1.length : Int) > 4096
        · have e : ((x :: suf).all okProp && r) = false := by simp [okProp, hn]; intro q; omega
          rw [e]
          exact Ev.congr (f := fun _ => some false) (fun k => by rw [if_pos rfl, if_pos c]) (Ev.now _)
        · have e : ((x :: suf).all okProp && r) = (suf.all okProp && r) := by
            have : decide (x.f1.length ≤ 4096) = true := decide_eq_true (by omega)
            simp [okProp, hn, this]
          rw [e]
          exact Ev.congr (fun k => by rw [if_pos rfl, if_neg c]) ih
theorem ex_bool (P : Prop) : ∃ b : Bool, (b = true ↔ P) := by
  by_cases h : P
  · exact ⟨true, by simp [h]⟩
  · exact ⟨false, by simp [h]⟩
theorem ref_l0 {l : List S50} (ht : Tried l) : ∀ (d i : Nat), d + i = l.length → sumTo (nprops l) i ≤ 256 → ∀ b : Bool, (b = true ↔ (∀ j, i ≤ j → j < l.length → okPart l j = true) ∧ sumTo (nprops l) l.length ≤ 256) → Ev (fun k => vireoref26_Right.l0 k l ((sumTo (nprops l) i : Nat) : Int) (i : Int)) b
  | 0, i, hd, hs, b, hb => by
    obtain rfl : i = l.length := by omega
    obtain rfl : b = true := hb.2 ⟨fun j h1 h2 => by omega, hs⟩
    refine Ev.step (f := fun _ => some true) (fun k => ?_) (Ev.now _)
    simp only [vireoref26_Right.l0]
    rw [if_neg (by omega)]
  | d + 1, i, hd, hs, b, hb => by
    have hl := ht.len
    have hi : i < l.length := by omega
    have hp := (ht.good i hi).2.2.1
    have hdl := dOf_le ht i i (Nat.le_refl _) hi
    have hmono : sumTo (nprops l) (i + 1) ≤ sumTo (nprops l) l.length := by
      have : ∀ m, i + 1 ≤ m → sumTo (nprops l) (i + 1) ≤ sumTo (nprops l) m := by
        intro m hm
        induction m with
        | zero => omega
        | succ m ih =>
          rcases Nat.eq_or_lt_of_le hm with q | q
          · rw [← q]; exact Nat.le_refl _
          · have := ih (by omega)
            simp only [sumTo] at this ⊢
            omega
      exact this _ (by omega)
    have hst : sumTo (nprops l) (i + 1) = sumTo (nprops l) i + (pt l i).f2.length := rfl
    -- all in one: from j1 on
    have no : ¬ ((∀ j, i ≤ j → j < l.length → okPart l j = true) ∧ sumTo (nprops l) l.length ≤ 256) → b = false := fun h => by cases b with
      | false => rfl
      | true => exact absurd (hb.1 rfl) h
    have key : nmOK (pt l i).f1 (i == 0) = true → Ev (fun k => vireoref26_Right.j1 k l ((sumTo (nprops l) i : Nat) : Int) (i : Int) false) b := by
      intro hnm
      refine Ev.step (f := fun k => vireoref26_Right.l1 k l ((sumTo (nprops l) i : Nat) : Int) (i : Int) ((0 : Nat) : Int) (i : Int)) (fun k => by simp [vireoref26_Right.j1]) ?_
      refine depth_loop ht _ i i 0 (Nat.le_refl _) hi (by omega) ?_
      rw [Nat.zero_add]
      have hw : wrap64 (((sumTo (nprops l) i : Nat) : Int) + (((rd_T50 l (i : Int)).f2).length : Int)) = ((sumTo (nprops l) (i + 1) : Nat) : Int) := by
        rw [rd50, hst, w64 (by omega) (by omega)]; omega
      have hw' := Aside0.mk hw
      clear hw
      by_cases c1 : dOf l i > 8
      · rw [no (fun q => by
          have := q.1 i (Nat.le_refl _) hi
          unfold okPart at this
          rw [decide_eq_false (show ¬ dOf l i ≤ 8 by omega)] at this
          cases this)]
        refine Ev.step (f := fun k => vireoref26_Right.j3 k l ((sumTo (nprops l) (i + 1) : Nat) : Int) (i : Int) true) (fun k => ?_) (Ev.step (f := fun _ => some false) (fun k => by simp [vireoref26_Right.j3]) (Ev.now _))
        simp only [vireoref26_Right.l1]
        rw [if_neg (by omega), if_pos (by omega), if_pos (by omega), if_pos (by omega), hw'.out]
      · by_cases c2 : sumTo (nprops l) (i + 1) > 256
        · rw [no (fun q => by omega)]
          refine Ev.step (f := fun k => vireoref26_Right.j3 k l ((sumTo (nprops l) (i + 1) : Nat) : Int) (i : Int) true) (fun k => ?_) (Ev.step (f := fun _ => some false) (fun k => by simp [vireoref26_Right.j3]) (Ev.now _))
          simp only [vireoref26_Right.l1]
          rw [if_neg (by omega), if_pos (by omega), if_pos (by omega), if_neg (by omega), hw'.out, decide_eq_true (by omega)]
        · obtain ⟨b', hb'⟩ := ex_bool ((∀ j, i + 1 ≤ j → j < l.length → okPart l j = true) ∧ sumTo (nprops l) l.length ≤ 256)
          have ih := ref_l0 ht d (i + 1) (by omega) (by omega) b' hb'
          have h2 := ref_l2 hi hl (by omega) ih (pt l i).f2 [] rfl
          have e : ((pt l i).f2.all okProp && b') = b := by
            have h3 : okPart l i = (pt l i).f2.all okProp := by
              unfold okPart
              rw [hnm, decide_eq_true (show dOf l i ≤ 8 by omega), decide_eq_true (show (pt l i).f2.length ≤ 256 by omega)]
              simp
            rw [Bool.eq_iff_iff]
            rw [hb, Bool.and_eq_true, hb', ← h3]
            constructor
            · rintro ⟨q1, q2, q3⟩
              refine ⟨fun j h1 h2 => ?_, q3⟩
              rcases Nat.eq_or_lt_of_le h1 with rfl | h1
              · exact q1
              · exact q2 j h1 h2
            · rintro ⟨q1, q2⟩
              exact ⟨q1 i (Nat.le_refl _) hi, fun j h1 h2 => q1 j (by omega) h2, q2⟩
          rw [e] at h2
          refine Ev.step (f := fun k => vireoref26_Right.j3 k l ((sumTo (nprops l) (i + 1) : Nat) : Int) (i : Int) false) (fun k => ?_) (Ev.step (fun k => by simp [vireoref26_Right.j3]) h2)
          simp only [vireoref26_Right.l1]
          rw [if_neg (by omega), if_pos (by omega), if_pos (by omega), if_neg (by omega), hw'.out, decide_eq_false (by omega)]
    have nokey : nmOK (pt l i).f1 (i == 0) = false → Ev (fun k => vireoref26_Right.j1 k l ((sumTo (nprops l) i : Nat) : Int) (i : Int) true) b := by
      intro hnm
      rw [no (fun q => by
        have := q.1 i (Nat.le_refl _) hi
        unfold okPart at this
        rw [hnm] at this
        simp at this)]
      exact Ev.step (f := fun _ => some false) (fun k => by simp [vireoref26_Right.j1]) (Ev.now _)
    refine Ev.step (f := fun k => (vireoref26_Named.f k (pt l i).f1).bind fun t171 => (if t171 = true then (vireoref26_Right.j1 k l ((sumTo (nprops l) i : Nat) : Int) (i : Int) false) else (if (i : Int) > 0 then (vireoref26_Right.j1 k l ((sumTo (nprops l) i : Nat) : Int) (i : Int) true) else (vireoref26_Right.j1 k l ((sumTo (nprops l) i : Nat) : Int) (i : Int) ((pt l i).f1.toList != ([] : List UInt8)))))) (fun k => ?_) (Ev.bind (Named_is (pt l i).f1) ?_)
    · simp only [vireoref26_Right.l0]
      rw [if_pos (by omega), if_pos (by omega), rd50]
    · by_cases c0 : (pt l i).f1.size = 0
      · have e1 : nmOK (pt l i).f1 false = false := by unfold nmOK; rw [if_pos c0]
        have e2 : nmOK (pt l i).f1 (i == 0) = (i == 0) := by unfold nmOK; rw [if_pos c0]
        rw [e1]
        have e3 : ((pt l i).f1.toList != ([] : List UInt8)) = false := by rw [(size_toList _).2 c0]; rfl
        rw [e3]
        by_cases c : (i : Int) > 0
        · exact Ev.congr (fun k => by rw [if_neg (by simp), if_pos c]) (nokey (by rw [e2]; simp; omega))
        · exact Ev.congr (fun k => by rw [if_neg (by simp), if_neg c]) (key (by rw [e2]; simp; omega))
      · have e2 : nmOK (pt l i).f1 (i == 0) = nmOK (pt l i).f1 false := by unfold nmOK; rw [if_neg c0, if_neg c0]
        have e3 : ((pt l i).f1.toList != ([] : List UInt8)) = true := by
          have : ¬ (pt l i).f1.toList = [] := fun q => c0 ((size_toList _).1 q)
          simpa using this
        rw [e3]
        cases hn : nmOK (pt l i).f1 false with
        | true => exact Ev.congr (fun k => by rw [if_pos rfl]) (key (by rw [e2, hn]))
        | false =>
          by_cases c : (i : Int) > 0
          · exact Ev.congr (fun k => by rw [if_neg (by simp), if_pos c]) (nokey (by rw [e2, hn]))
          · exact Ev.congr (fun k => by rw [if_neg (by simp), if_neg c]) (nokey (by rw [e2, hn]))
theorem refRight_is {l : List S50} (ht : Tried l) : Ev (fun k => vireoref26_Right.f k l) (decide (cOK l 0)) := by
  unfold vireoref26_Right.f
  by_cases c : (l.length : Int) > 64
  · rw [decide_eq_false (by intro q; have := ((cOK_iff ht).1 q).2.1; omega)]
    exact Ev.congr (f := fun _ => some false) (fun k => by rw [if_pos c]) (Ev.now _)
  · have h := ref_l0 ht l.length 0 (by omega) (Nat.zero_le _) (decide (cOK l 0)) (by
      rw [decide_eq_true_eq, cOK_iff ht]
      exact ⟨fun q => ⟨fun i _ hi => q.1 i hi, q.2.2⟩, fun q => ⟨fun i hi => q.1 i (Nat.zero_le _) hi, by omega, q.2⟩⟩)
    exact Ev.congr (fun k => by rw [if_neg c]; rfl) h
end Go.Proofs.Ytmhlellhfepkkaa.B
/- Plain: a tree's bytes, both ways. -/
namespace Go.Proofs.Ytmhlellhfepkkaa.B
open Go.RowKit Go.Proofs.YtmhlellhfepkkaaW.PrintWords Go.Proofs.YtmhlellhfepkkaaW.PrintLast Go.Proofs.YtmhlellhfepkkaaW.PrintMore Go.Proofs.Ytmhlellhfepkkaa.PAl
set_option linter.unusedVariables false
set_option linter.unusedSimpArgs false
/-! up to the next four -/
def P4 (x : List Int) : List Int := x ++ List.replicate ((4 - x.length % 4) % 4) 0
theorem P4_len (x : List Int) : (P4 x).length % 4 = 0 ∧ (P4 x).length ≤ x.length + 3 := by
  unfold P4; rw [List.length_append, List.length_replicate]; omega
theorem P4_app (t x : List Int) (h : t.length % 4 = 0) : P4 (t ++ x) = t ++ P4 x := by
  unfold P4
  rw [List.length_append, show (t.length + x.length) % 4 = x.length % 4 by omega, List.append_assoc]
theorem pad_go : ∀ (k : Nat) (x : List Int), (4 - x.length % 4) % 4 < k → x.length + k < 140737488355300 → vireoref26_pad.l0 k x = some (P4 x)
  | 0, x, h, hl => by omega
  | k + 1, x, h, hl => by
    simp only [vireoref26_pad.l0]
    by_cases c : ((x.length : Int) % 4) = 0
    · rw [if_pos c]
      unfold P4
      rw [show (4 - x.length % 4) % 4 = 0 by omega]
      simp
    · have hl2 : (x ++ [0]).length = x.length + 1 := by simp
      have hn : (4 - (x.length + 1) % 4) % 4 < k ∧ (4 - x.length % 4) % 4 = (4 - (x.length + 1) % 4) % 4 + 1 := by
        have hc : x.length % 4 = 1 ∨ x.length % 4 = 2 ∨ x.length % 4 = 3 := by omega
        rcases hc with q | q | q
        · rw [show (x.length + 1) % 4 = 2 by omega]; rw [q] at h ⊢; omega
        · rw [show (x.length + 1) % 4 = 3 by omega]; rw [q] at h ⊢; omega
        · rw [show (x.length + 1) % 4 = 0 by omega]; rw [q] at h ⊢; omega
      rw [if_neg c, if_pos (by omega), pad_go k (x ++ [0]) (by rw [hl2]; exact hn.1) (by rw [hl2]; omega)]
      unfold P4
      rw [hl2, hn.2, List.replicate_succ, List.append_assoc]
      rfl
theorem pad_is (x : List Int) (hl : x.length < 140737488355000) : vireoref26_pad.f 5 x = some (P4 x) := pad_go 5 x (by omega) (by omega)
theorem bput_is {t y : List Int} (h : t.length + y.length < 140737488355328) : bput t y = some (t ++ y) := by unfold bput; rw [if_pos h]
/-! names -/
def nameP (all : List ByteArray) (s : ByteArray) : Int × List ByteArray := match posOf all s with | some n => (n, all) | none => (((textsOf all).length : Int), all ++ [s])
theorem bname_is {all : List ByteArray} {s : ByteArray} (h : (textsOf all).length + s.size + 1 < 2147483648) : bname all s = some (nameP all s) := by
  unfold bname nameP; rw [if_pos h]; cases posOf all s <;> rfl
theorem toList_eq (a b : ByteArray) : a.toList = b.toList ↔ a = b := by
  rw [ByteArray.toList_eq, ByteArray.toList_eq]
  constructor
  · intro h
    have : a.data = b.data := Array.toList_inj.1 h
    cases a; cases b; simp_all
  · rintro rfl; rfl
theorem textsOf_app : ∀ a b : List ByteArray, textsOf (a ++ b) = textsOf a ++ textsOf b
  | [], b => rfl
  | x :: a, b => by simp [textsOf, textsOf_app a b]
theorem textsOf_cons_len (x : ByteArray) (l : List ByteArray) : (textsOf (x :: l)).length = x.size + 1 + (textsOf l).length := by
  simp [textsOf, bytesOf_length]; omega
theorem posOf_range : ∀ (l : List ByteArray) (s : ByteArray) (n : Int), posOf l s = some n → 0 ≤ n ∧ n ≤ (textsOf l).length
  | [], s, n, h => by cases h
  | x :: l, s, n, h => by
    rw [textsOf_cons_len]
    simp only [posOf] at h
    split at h
    · cases h; omega
    · obtain ⟨m, hm, rfl⟩ := Option.map_eq_some_iff.1 h
      have := posOf_range l s m hm
      omega
theorem nameP_range (all : List ByteArray) (s : ByteArray) : 0 ≤ (nameP all s).1 ∧ (nameP all s).1 ≤ (textsOf all).length ∧ (textsOf (nameP all s).2).length ≤ (textsOf all).length + s.size + 1 := by
  unfold nameP
  cases h : posOf all s with
  | some n => have := posOf_range all s n h; exact ⟨this.1, this.2, by dsimp only; omega⟩
  | none => exact ⟨by dsimp only; omega, by dsimp only; omega, by dsimp only; rw [textsOf_app, List.length_append, textsOf_cons_len]; simp [textsOf]; omega⟩
theorem names_go (all : List ByteArray) (s : ByteArray) (hl : (textsOf all).length < 1099511627776) : ∀ (suf pre : List ByteArray) (k : Nat), all = pre ++ suf → suf.length < k →
    vireoref26_names.l0 k all s ((textsOf pre).length : Int) (pre.length : Int) = some (match posOf suf s with | some n => (((textsOf pre).length : Int) + n, all) | none => (((textsOf all).length : Int), all ++ [s]))
  | [], pre, 0, h, hk => by omega
  | [], pre, k + 1, h, hk => by
    have h' : all = pre := by simpa using h
    have hll := textsOf_len all
    simp only [vireoref26_names.l0]
    rw [if_neg (by rw [h']; omega), Option.bind_some, if_pos (by simp; omega), Option.bind_some, if_pos (by simp; omega)]
    simp [posOf, h']
  | x :: suf, pre, 0, h, hk => by omega
  | x :: suf, pre, k + 1, h, hk => by
    have hlen : all.length = pre.length + (suf.length + 1) := by rw [h]; simp
    have hll := textsOf_len all
    have hr : rdOf ByteArray.empty all (pre.length : Int) = x := by rw [h]; exact rdOf_mid _ _ _ _
    have ht : (textsOf all).length = (textsOf pre).length + (x.size + 1 + (textsOf suf).length) := by rw [h, textsOf_app, List.length_append, textsOf_cons_len]
    simp only [vireoref26_names.l0]
    rw [if_pos (by omega), if_pos (by omega), hr]
    by_cases c : x = s
    · rw [if_pos ((toList_eq x s).2 c)]
      simp [posOf, c]
    · rw [if_neg (fun q => c ((toList_eq x s).1 q)), w64 (x := ((textsOf pre).length : Int) + (x.size : Int)) (by omega) (by omega), w64 (by omega) (by omega), w64 (by omega) (by omega)]
      have ih := names_go all s hl suf (pre ++ [x]) k (by simp [h]) (by simp at hk; omega)
      have hp : (textsOf (pre ++ [x])).length = (textsOf pre).length + x.size + 1 := by rw [textsOf_app, List.length_append, textsOf_cons_len]; simp [textsOf]; omega
      rw [hp] at ih
      have e1 : ((pre ++ [x]).length : Int) = (pre.length : Int) + 1 := by simp
      have e2 : (((textsOf pre).length + x.size + 1 : Nat) : Int) = ((textsOf pre).length : Int) + (x.size : Int) + 1 := by omega
      rw [e1, e2] at ih
      rw [ih]
      simp only [posOf, if_neg c]
      cases posOf suf s with
      | none => rfl
      | some n =>
        simp only [Option.map_some]
        congr 2
        omega
theorem names_is {all : List ByteArray} (s : ByteArray) (hl : (textsOf all).length < 1099511627776) : vireoref26_names.f (all.length + 2) all s = some (nameP all s) := by
  have h := names_go all s hl all [] (all.length + 2) rfl (by omega)
  unfold vireoref26_names.f nameP
  have e : ((textsOf ([] : List ByteArray)).length : Int) = 0 := rfl
  rw [e] at h
  have e2 : ((([] : List ByteArray)).length : Int) = 0 := rfl
  rw [e2] at h
  rw [h]
  cases posOf all s with
  | none => rfl
  | some n => simp
/-! what is told -/
def epr : List S55 → List ByteArray → List Int × List ByteArray
  | [], all => ([], all)
  | p :: ps, all => (P4 (w32 3 ++ w32 p.f1.length ++ w32 (nameP all p.f0).1 ++ p.f1) ++ (epr ps (nameP all p.f0).2).1, (epr ps (nameP all p.f0).2).2)
def smallP (q : S55) : Prop := q.f1.length ≤ 5000 ∧ q.f0.size ≤ 40
theorem epr_len : ∀ (ps : List S55) (all : List ByteArray), (∀ q ∈ ps, smallP q) → (epr ps all).1.length % 4 = 0 ∧ (epr ps all).1.length ≤ 5080 * ps.length ∧ (textsOf (epr ps all).2).length ≤ (textsOf all).length + 5080 * ps.length
  | [], all, h => ⟨rfl, Nat.zero_le _, by simp [epr]⟩
  | p :: ps, all, h => by
    obtain ⟨h1, h2⟩ := h p List.mem_cons_self
    obtain ⟨i1, i2, i3⟩ := epr_len ps (nameP all p.f0).2 (fun q hq => h q (List.mem_cons_of_mem _ hq))
    have hp := P4_len (w32 3 ++ w32 p.f1.length ++ w32 (nameP all p.f0).1 ++ p.f1)
    have hn := nameP_range all p.f0
    simp only [List.length_append, w32_len] at hp
    simp only [epr, List.length_append, List.length_cons]
    omega
theorem rprops_is : ∀ (ps : List S55) (out : List Int) (all : List ByteArray), (∀ q ∈ ps, smallP q) → out.length % 4 = 0 → out.length + 5080 * ps.length ≤ 1073741824 → (textsOf all).length + 5080 * ps.length ≤ 1073741824 →
    rprops ps out all = some (out ++ (epr ps all).1, (epr ps all).2)
  | [], out, all, h, h4, ho, ha => by simp [rprops, epr]
  | p :: ps, out, all, h, h4, ho, ha => by
    obtain ⟨h1, h2⟩ := h p List.mem_cons_self
    have hn := nameP_range all p.f0
    rw [List.length_cons] at ho ha
    have hp := P4_len (w32 3 ++ w32 p.f1.length ++ w32 (nameP all p.f0).1 ++ p.f1)
    simp only [List.length_append, w32_len] at hp
    have l1 : (out ++ w32 3).length = out.length + 4 := by simp [w32_len]
    have l2 : (out ++ w32 3 ++ w32 p.f1.length).length = out.length + 8 := by simp [w32_len]
    have l3 : (out ++ w32 3 ++ w32 p.f1.length ++ w32 (nameP all p.f0).1).length = out.length + 12 := by simp [w32_len]
    have l4 : (out ++ w32 3 ++ w32 p.f1.length ++ w32 (nameP all p.f0).1 ++ p.f1).length = out.length + 12 + p.f1.length := by simp only [List.length_append, w32_len]
    simp only [rprops]
    rw [if_pos (by omega), names_is p.f0 (by omega), Option.bind_some, wordR_is 3 (by decide) (by decide), Option.bind_some, bput_is (by rw [w32_len]; omega), Option.bind_some, wordR_is _ (by omega) (by omega), Option.bind_some, bput_is (by rw [l1, w32_len]; omega), Option.bind_some, wordR_is _ hn.1 (by omega), Option.bind_some, bput_is (by rw [l2, w32_len]; omega), Option.bind_some, bput_is (by rw [l3]; omega), Option.bind_some, pad_is _ (by rw [l4]; omega), Option.bind_some]
    have e : P4 (out ++ w32 3 ++ w32 p.f1.length ++ w32 (nameP all p.f0).1 ++ p.f1) = out ++ P4 (w32 3 ++ w32 p.f1.length ++ w32 (nameP all p.f0).1 ++ p.f1) := by
      rw [← P4_app _ _ h4]; simp only [List.append_assoc]
    rw [e, rprops_is ps _ _ (fun q hq => h q (List.mem_cons_of_mem _ hq)) (by rw [List.length_append]; omega) (by rw [List.length_append]; omega) (by omega)]
    simp [epr, List.append_assoc]
theorem bprops_is : ∀ (ps : List S55) (out : List Int) (all : List ByteArray), (∀ q ∈ ps, smallP q) → out.length % 4 = 0 → out.length + 5080 * ps.length ≤ 1073741824 → (textsOf all).length + 5080 * ps.length ≤ 1073741824 →
    bprops (ps.map fun q => ⟨q.f0, q.f1⟩) out all = some (out ++ (epr ps all).1, (epr ps all).2)
  | [], out, all, h, h4, ho, ha => by simp [bprops, epr]
  | p :: ps, out, all, h, h4, ho, ha => by
    obtain ⟨h1, h2⟩ := h p List.mem_cons_self
    have hn := nameP_range all p.f0
    rw [List.length_cons] at ho ha
    have hp := P4_len (w32 3 ++ w32 p.f1.length ++ w32 (nameP all p.f0).1 ++ p.f1)
    simp only [List.length_append, w32_len] at hp
    have l1 : (out ++ w32 3).length = out.length + 4 := by simp [w32_len]
    have l2 : (out ++ w32 3 ++ w32 p.f1.length).length = out.length + 8 := by simp [w32_len]
    have l3 : (out ++ w32 3 ++ w32 p.f1.length ++ w32 (nameP all p.f0).1).length = out.length + 12 := by simp [w32_len]
    have l4 : (out ++ w32 3 ++ w32 p.f1.length ++ w32 (nameP all p.f0).1 ++ p.f1).length = out.length + 12 + p.f1.length := by simp only [List.length_append, w32_len]
    rw [List.map_cons]
    simp only [bprops]
    rw [if_pos (by omega), bput_is (by rw [w32_len]; omega), Option.bind_some, bput_is (by rw [l1, w32_len]; omega), Option.bind_some, bname_is (by omega), Option.bind_some, bput_is (by rw [l2, w32_len]; omega), Option.bind_some, bput_is (by rw [l3]; omega), Option.bind_some, pad_is _ (by rw [l4]; omega), Option.bind_some]
    have e : P4 (out ++ w32 3 ++ w32 p.f1.length ++ w32 (nameP all p.f0).1 ++ p.f1) = out ++ P4 (w32 3 ++ w32 p.f1.length ++ w32 (nameP all p.f0).1 ++ p.f1) := by
      rw [← P4_app _ _ h4]; simp only [List.append_assoc]
    rw [e, bprops_is ps _ _ (fun q hq => h q (List.mem_cons_of_mem _ hq)) (by rw [List.length_append]; omega) (by rw [List.length_append]; omega) (by omega)]
    simp [epr, List.append_assoc]
/-! the tree -/
def ekids (F : Nat → List ByteArray → List Int × List ByteArray) : List Nat → List ByteArray → List Int × List ByteArray
  | [], all => ([], all)
  | j :: js, all => ((F j all).1 ++ (ekids F js (F j all).2).1, (ekids F js (F j all).2).2)
def etree : Nat → List S50 → Nat → List ByteArray → List Int × List ByteArray
  | 0, l, i, all => ([], all)
  | d + 1, l, i, all => (P4 (w32 1 ++ bytesOf (pt l i).f1 ++ [0]) ++ (epr (pt l i).f2 all).1 ++ (ekids (etree d l) (kidsOf l i (i + 1)) (epr (pt l i).f2 all).2).1 ++ w32 2, (ekids (etree d l) (kidsOf l i (i + 1)) (epr (pt l i).f2 all).2).2)
def big (i : Nat) : Nat := 1321000
def MM (l : List S50) (i : Nat) : Nat := wOf big l i
theorem kids_is {l : List S50} {d i : Nat} (hl : l.length ≤ 70)
    (ih : ∀ j, i < j → j < l.length → ∀ all, (textsOf all).length + MM l j ≤ 1073741824 → ((etree d l j all).1.length % 4 = 0 ∧ (etree d l j all).1.length ≤ MM l j ∧ (textsOf (etree d l j all).2).length ≤ (textsOf all).length + MM l j) ∧
      Ev (fun k => vireoref26_tree.f k l (j : Int) all) (etree d l j all) ∧ ∀ tr, tr.length % 4 = 0 → tr.length + MM l j ≤ 1073741824 → Ev (fun k => bnode k (nodeOf l j) tr all) (tr ++ (etree d l j all).1, (etree d l j all).2)) :
    ∀ (m f : Nat), m + f = l.length → i < f → ∀ all, (textsOf all).length + ((kidsOf l i f).map (MM l)).sum ≤ 1073741824 →
      ((ekids (etree d l) (kidsOf l i f) all).1.length % 4 = 0 ∧ (ekids (etree d l) (kidsOf l i f) all).1.length ≤ ((kidsOf l i f).map (MM l)).sum ∧ (textsOf (ekids (etree d l) (kidsOf l i f) all).2).length ≤ (textsOf all).length + ((kidsOf l i f).map (MM l)).sum) ∧
      (∀ out, out.length + ((kidsOf l i f).map (MM l)).sum ≤ 1073741824 → Ev (fun k => rkids (fun j a => vireoref26_tree.f k l j a) (i : Int) (l.drop f) (f : Int) out all) (out ++ (ekids (etree d l) (kidsOf l i f) all).1, (ekids (etree d l) (kidsOf l i f) all).2)) ∧
      (∀ tr, tr.length % 4 = 0 → tr.length + ((kidsOf l i f).map (MM l)).sum ≤ 1073741824 → Ev (fun k => bnodes (bnode k) ((kidsOf l i f).map (nodeOf l)) tr all) (tr ++ (ekids (etree d l) (kidsOf l i f) all).1, (ekids (etree d l) (kidsOf l i f) all).2))
  | 0, f, hm, hf, all, ha => by
    rw [kidsOf_end l i (by omega), List.drop_of_length_le (by omega)]
    simp only [ekids, rkids, bnodes, List.map_nil, List.append_nil]
    exact ⟨⟨rfl, Nat.le_refl _, Nat.le_refl _⟩, fun out _ => Ev.now _, fun tr _ _ => Ev.now _⟩
  | m + 1, f, hm, hf, all, ha => by
    have hfl : f < l.length := by omega
    have hdr : l.drop f = pt l f :: l.drop (f + 1) := drop_T50 hfl
    rw [kidsOf_step l i hfl] at ha ⊢
    rw [hdr]
    by_cases c : (pt l f).f0 = (i : Int)
    · rw [if_pos c] at ha ⊢
      simp only [List.map_cons, List.sum_cons] at ha ⊢
      obtain ⟨⟨a1, a2, a3⟩, b1, c1⟩ := ih f hf hfl all (by omega)
      obtain ⟨⟨a4, a5, a6⟩, b2, c2⟩ := kids_is hl ih m (f + 1) (by omega) (by omega) (etree d l f all).2 (by omega)
      simp only [ekids, List.length_append]
      refine ⟨⟨by omega, by omega, by omega⟩, fun out ho => ?_, fun tr h4 ho => ?_⟩
      · have e := b2 (out ++ (etree d l f all).1) (by rw [List.length_append]; omega)
        refine Ev.congr (f := fun k => (vireoref26_tree.f k l (f : Int) all).bind fun q => (bput out q.1).bind fun o => rkids (fun j a => vireoref26_tree.f k l j a) (i : Int) (l.drop (f + 1)) ((f : Int) + 1) o q.2) (fun k => ?_) (Ev.bind b1 ?_)
        · simp only [rkids]; rw [if_pos c]
        · refine Ev.congr (fun k => ?_) (by simpa [List.append_assoc] using e)
          rw [bput_is (by omega), Option.bind_some]
      · have e := c2 (tr ++ (etree d l f all).1) (by rw [List.length_append]; omega) (by rw [List.length_append]; omega)
        refine Ev.congr (f := fun k => (bnode k (nodeOf l f) tr all).bind fun q => bnodes (bnode k) ((kidsOf l i (f + 1)).map (nodeOf l)) q.1 q.2) (fun k => ?_) (Ev.bind (c1 tr h4 (by omega)) ?_)
        · simp only [bnodes]
        · simpa [List.append_assoc] using e
    · rw [if_neg c] at ha ⊢
      obtain ⟨a1, b1, c1⟩ := kids_is hl ih m (f + 1) (by omega) (by omega) all ha
      refine ⟨a1, fun out ho => ?_, c1⟩
      refine Ev.congr (fun k => ?_) (b1 out ho)
      simp only [rkids]
      rw [if_neg c, Int.natCast_succ]
theorem tree_is {l : List S50} (ht : Tried l) : ∀ (d i : Nat), l.length - i ≤ d → i < l.length → ∀ all, (textsOf all).length + MM l i ≤ 1073741824 →
    ((etree d l i all).1.length % 4 = 0 ∧ (etree d l i all).1.length ≤ MM l i ∧ (textsOf (etree d l i all).2).length ≤ (textsOf all).length + MM l i) ∧
      Ev (fun k => vireoref26_tree.f k l (i : Int) all) (etree d l i all) ∧ ∀ tr, tr.length % 4 = 0 → tr.length + MM l i ≤ 1073741824 → Ev (fun k => bnode k (nodeOf l i) tr all) (tr ++ (etree d l i all).1, (etree d l i all).2)
  | 0, i, hd, hi, all, ha => by omega
  | d + 1, i, hd, hi, all, ha => by
    have hl := ht.len
    obtain ⟨_, g1, g2, g3⟩ := ht.good i hi
    have hM : MM l i = 1321000 + ((kidsOf l i (i + 1)).map (MM l)).sum := by unfold MM; rw [wOf_open _ l hi]; rfl
    have hbl : (bytesOf (pt l i).f1).length = (pt l i).f1.size := bytesOf_length _
    have hp := P4_len (w32 1 ++ bytesOf (pt l i).f1 ++ [0])
    simp only [List.length_append, w32_len, List.length_cons, List.length_nil] at hp
    obtain ⟨p1, p2, p3⟩ := epr_len (pt l i).f2 all g3
    obtain ⟨⟨a1, a2, a3⟩, b1, c1⟩ := kids_is (i := i) hl (fun j hj hjl all ha => tree_is ht d j (by omega) hjl all ha) (l.length - (i + 1)) (i + 1) (by omega) (by omega) (epr (pt l i).f2 all).2 (by omega)
    have hkl : (kidsOf l i (i + 1)).length ≤ 70 := by
      unfold kidsOf
      have := List.length_filter_le (fun j => decide ((pt l j).f0 = (i : Int))) (List.range' (i + 1) (l.length - (i + 1)))
      rw [List.length_range'] at this
      omega
    simp only [etree, List.length_append, w32_len]
    refine ⟨⟨by omega, by omega, by omega⟩, ?_, fun tr h4 ho => ?_⟩
    · -- the page's
      have e := b1 (P4 (w32 1 ++ bytesOf (pt l i).f1 ++ [0]) ++ (epr (pt l i).f2 all).1) (by rw [List.length_append]; omega)
      refine Ev.step (f := fun k => (rkids (fun j a => vireoref26_tree.f k l j a) (i : Int) (l.drop (i + 1)) ((i + 1 : Nat) : Int) (P4 (w32 1 ++ bytesOf (pt l i).f1 ++ [0]) ++ (epr (pt l i).f2 all).1) (epr (pt l i).f2 all).2).bind fun z => (vireoref26_Word.f 2).bind fun t2 => (bput z.1 t2).bind fun o => some (o, z.2)) (fun k => ?_) (Ev.bind e ?_)
      · simp only [vireoref26_tree.f]
        rw [if_pos ⟨by omega, by omega, by omega, by rw [rd50]; omega, by rw [rd50]; omega⟩, wordR_is 1 (by decide) (by decide), Option.bind_some, rd50, bput_is (by rw [w32_len]; omega), Option.bind_some, bput_is (by simp only [List.length_append, List.length_cons, List.length_nil, w32_len]; omega), Option.bind_some, pad_is _ (by simp only [List.length_append, List.length_cons, List.length_nil, w32_len]; omega), Option.bind_some, rprops_is _ _ _ g3 (by omega) (by omega) (by omega), Option.bind_some, Int.toNat_natCast, Int.natCast_succ]
      · refine Ev.congr (f := fun _ => some _) (fun k => ?_) (Ev.now _)
        rw [wordR_is 2 (by decide) (by decide), Option.bind_some, bput_is (by simp only [List.length_append, List.length_cons, List.length_nil, w32_len]; omega), Option.bind_some]
    · have hq := P4_app tr (w32 1 ++ bytesOf (pt l i).f1 ++ [0]) h4
      have e := c1 (tr ++ P4 (w32 1 ++ bytesOf (pt l i).f1 ++ [0]) ++ (epr (pt l i).f2 all).1) (by simp only [List.length_append]; omega) (by simp only [List.length_append]; omega)
      rw [nodeOf_open l hi]
      refine Ev.step (f := fun k => (bnodes (bnode k) ((kidsOf l i (i + 1)).map (nodeOf l)) (tr ++ P4 (w32 1 ++ bytesOf (pt l i).f1 ++ [0]) ++ (epr (pt l i).f2 all).1) (epr (pt l i).f2 all).2).bind fun z => (bput z.1 (w32 2)).bind fun t => some (t, z.2)) (fun k => ?_) (Ev.bind e ?_)
      · simp only [bnode]
        have e2 : tr ++ w32 1 ++ (bytesOf (pt l i).f1 ++ [0]) = tr ++ (w32 1 ++ bytesOf (pt l i).f1 ++ [0]) := by simp [List.append_assoc]
        have e3 : bprops (propsOf (pt l i)) (tr ++ P4 (w32 1 ++ bytesOf (pt l i).f1 ++ [0])) all = some (tr ++ P4 (w32 1 ++ bytesOf (pt l i).f1 ++ [0]) ++ (epr (pt l i).f2 all).1, (epr (pt l i).f2 all).2) :=
          bprops_is (pt l i).f2 _ all g3 (by simp only [List.length_append]; omega) (by simp only [List.length_append]; omega) (by omega)
        rw [if_pos ⟨by omega, by simp [propsOf]; omega, by rw [List.length_map]; omega⟩, bput_is (by rw [w32_len]; omega), Option.bind_some, bput_is (by simp only [List.length_append, List.length_cons, List.length_nil, w32_len]; omega), Option.bind_some, e2, pad_is _ (by simp only [List.length_append, List.length_cons, List.length_nil, w32_len]; omega), Option.bind_some, hq, e3, Option.bind_some]
      · refine Ev.congr (f := fun _ => some _) (fun k => ?_) (Ev.now _)
        rw [bput_is (by simp only [List.length_append, List.length_cons, List.length_nil, w32_len]; omega), Option.bind_some]
        simp [List.append_assoc]
end Go.Proofs.Ytmhlellhfepkkaa.B
/- Plain: a list's bytes, both ways. -/
namespace Go.Proofs.Ytmhlellhfepkkaa.B
open Go.RowKit Go.Proofs.YtmhlellhfepkkaaW.PrintWords Go.Proofs.YtmhlellhfepkkaaW.PrintLast Go.Proofs.YtmhlellhfepkkaaW.PrintMore Go.Proofs.Ytmhlellhfepkkaa.PAl
set_option linter.unusedVariables false
set_option linter.unusedSimpArgs false
theorem flat_len4 : ∀ l : List Int, (l.flatMap w32).length = 4 * l.length
  | [] => rfl
  | a :: l => by have := flat_len4 l; simp only [List.flatMap_cons, List.length_append, w32_len, List.length_cons] at this ⊢; omega
theorem cells_exact (l : List Int) (hl : l.length < 35184372088832) : ∀ (suf pre acc : List Int) (k : Nat), suf.length < k → l = pre ++ suf → acc.length = 4 * pre.length → fdt_Cells.l0 k acc l (l.length : Int) (pre.length : Int) = some (acc ++ suf.flatMap w32)
  | suf, pre, acc, 0, hk, h, ha => by omega
  | [], pre, acc, k + 1, hk, h, ha => by
    subst h
    simp only [fdt_Cells.l0]
    rw [if_neg (by simp)]
    simp
  | x :: suf, pre, acc, k + 1, hk, h, ha => by
    have ih := cells_exact l hl suf (pre ++ [x]) (acc ++ w32 x) k (by simp at hk; omega) (by simp [h]) (by simp [ha, w32_len]; omega)
    have hlen : l.length = pre.length + (suf.length + 1) := by rw [h]; simp
    have hr : rd l (pre.length : Int) = x := by rw [h]; exact rd_mid _ _ _
    simp only [fdt_Cells.l0]
    rw [if_pos (by omega), if_pos (by omega), if_pos (by omega), hr, word32_is, Option.bind_some, if_pos (by rw [w32_len]; omega), w64 (by omega) (by omega)]
    have e : ((pre ++ [x]).length : Int) = (pre.length : Int) + 1 := by simp
    rw [e] at ih
    rw [ih]
    simp [List.append_assoc]
/-- The file. -/
def fileOf (tr nm : List Int) : List Int := (headOf tr.length nm.length).flatMap w32 ++ List.replicate 16 0 ++ tr ++ nm
theorem rbytes_l1 (tr nm h : List Int) (hh : h.length = 10) (hz : ∀ x ∈ h, 0 ≤ x ∧ x < 4611686018427387904) (ht : tr.length < 1099511627776) (hn : nm.length < 1099511627776) : ∀ (suf pre acc : List Int), h = pre ++ suf → acc.length = 4 * pre.length →
    Ev (fun k => vireoref26_Bytes.l1 k tr nm h acc (pre.length : Int)) (acc ++ suf.flatMap w32 ++ List.replicate 16 0 ++ tr ++ nm)
  | [], pre, acc, e, ha => by
    have hp : h = pre := by simpa using e
    refine Ev.step (f := fun _ => some _) (fun k => ?_) (Ev.now _)
    simp only [vireoref26_Bytes.l1]
    have l1 : (acc ++ List.replicate 16 (0 : Int)).length = acc.length + 16 := by simp
    have l2 : (acc ++ List.replicate 16 (0 : Int) ++ tr).length = acc.length + 16 + tr.length := by rw [List.length_append, l1]
    rw [if_neg (by rw [hp]; omega), if_pos (by rw [ha, ← hp]; omega), Option.bind_some, if_pos (by rw [l1, ha, ← hp]; omega), Option.bind_some, if_pos (by rw [l2, ha, ← hp]; omega)]
    simp
  | x :: suf, pre, acc, e, ha => by
    have ih := rbytes_l1 tr nm h hh hz ht hn suf (pre ++ [x]) (acc ++ w32 x) (by simp [e]) (by simp [ha, w32_len]; omega)
    have hlen : h.length = pre.length + (suf.length + 1) := by rw [e]; simp
    have hr : rd h (pre.length : Int) = x := by rw [e]; exact rd_mid _ _ _
    have hx := hz x (by rw [e]; simp)
    refine Ev.step (f := fun k => vireoref26_Bytes.l1 k tr nm h (acc ++ w32 x) ((pre ++ [x]).length : Int)) (fun k => ?_) (by simpa [List.append_assoc] using ih)
    simp only [vireoref26_Bytes.l1]
    rw [if_pos (by omega), if_pos (by omega), hr, wordR_is x hx.1 hx.2, Option.bind_some, if_pos (by rw [w32_len]; omega), w64 (by omega) (by omega)]
    simp
theorem headOf_small (t n : Nat) (ht : t < 1099511627776) (hn : n < 1099511627776) : ∀ x ∈ headOf t n, 0 ≤ x ∧ x < 4611686018427387904 := by
  intro x hx
  simp only [headOf, List.mem_cons, List.not_mem_nil, or_false] at hx
  rcases hx with h | h | h | h | h | h | h | h | h | h <;> omega
theorem rbytes_l0 (tr : List Int) (l : List ByteArray) (ht : tr.length < 1099511627776) (hl : (textsOf l).length < 1099511627776) : ∀ (suf pre : List ByteArray) (acc : List Int), l = pre ++ suf → acc = textsOf pre →
    Ev (fun k => vireoref26_Bytes.l0 k tr l acc (pre.length : Int)) (fileOf tr (textsOf l))
  | [], pre, acc, e, ha => by
    have hp : l = pre := by simpa using e
    have hll := textsOf_len l
    have hh := rbytes_l1 tr (textsOf l) (headOf tr.length (textsOf l).length) rfl (headOf_small _ _ ht hl) ht hl (headOf tr.length (textsOf l).length) [] [] rfl rfl
    refine Ev.step (f := fun k => vireoref26_Bytes.l1 k tr (textsOf l) (headOf tr.length (textsOf l).length) [] 0) (fun k => ?_) (by simpa [fileOf] using hh)
    simp only [vireoref26_Bytes.l0]
    rw [if_neg (by rw [hp]; omega), ha, ← hp, w64 (x := 56 + (tr.length : Int)) (by omega) (by omega), w64 (by omega) (by omega)]
    rfl
  | x :: suf, pre, acc, e, ha => by
    have hlen : l.length = pre.length + (suf.length + 1) := by rw [e]; simp
    have hll := textsOf_len l
    have hr : rdOf ByteArray.empty l (pre.length : Int) = x := by rw [e]; exact rdOf_mid _ _ _ _
    have hT : (textsOf l).length = (textsOf pre).length + (x.size + 1 + (textsOf suf).length) := by rw [e, textsOf_app, List.length_append, textsOf_cons_len]
    have hx : textsOf pre ++ bytesOf x ++ [0] = textsOf (pre ++ [x]) := by rw [textsOf_app]; simp [textsOf]
    have ih := rbytes_l0 tr l ht hl suf (pre ++ [x]) (acc ++ bytesOf x ++ [0]) (by simp [e]) (by rw [ha, hx])
    refine Ev.step (f := fun k => vireoref26_Bytes.l0 k tr l (acc ++ bytesOf x ++ [0]) ((pre ++ [x]).length : Int)) (fun k => ?_) ih
    have hal : acc.length = (textsOf pre).length := by rw [ha]
    have l1 : (acc ++ bytesOf x).length = acc.length + x.size := by rw [List.length_append, bytesOf_length]
    simp only [vireoref26_Bytes.l0]
    rw [if_pos (by omega), if_pos (by omega), hr, if_pos (by omega), Option.bind_some, if_pos (by rw [l1]; omega), w64 (by omega) (by omega)]
    simp
theorem MM_small {l : List S50} (ht : Tried l) : MM l 0 ≤ 92470000 := by
  have h := sumTo_const 1321000 l.length
  have e : MM l 0 = sumTo big l.length := sum_all ht big
  have hl := ht.len
  have e2 : sumTo big l.length = sumTo (fun _ => 1321000) l.length := rfl
  rw [e, e2, h]
  omega
/-- The list's tree, told. -/
def treeOf (l : List S50) : List Int := (etree (l.length) l 0 []).1 ++ w32 9
def namesOf (l : List S50) : List Int := textsOf (etree (l.length) l 0 []).2
theorem rbytes_is {l : List S50} (ht : Tried l) : Ev (fun k => vireoref26_Bytes.f k l) (fileOf (treeOf l) (namesOf l)) := by
  have hm := MM_small ht
  obtain ⟨⟨h1, h2, h3⟩, hr, hb⟩ := tree_is ht l.length 0 (by omega) ht.pos [] (by simp [textsOf]; omega)
  have h3' : (textsOf (etree l.length l 0 []).2).length ≤ MM l 0 := by simpa [textsOf] using h3
  have ht9 : (treeOf l).length = (etree l.length l 0 []).1.length + 4 := by unfold treeOf; rw [List.length_append, w32_len]
  have e := rbytes_l0 (treeOf l) (etree l.length l 0 []).2 (by omega) (by omega) (etree l.length l 0 []).2 [] [] rfl rfl
  refine Ev.congr (f := fun k => (vireoref26_tree.f k l ((0 : Nat) : Int) []).bind fun q => (vireoref26_Word.f 9).bind fun t => if q.1.length + t.length < 140737488355328 then vireoref26_Bytes.l0 k (q.1 ++ t) q.2 [] 0 else none) (fun k => rfl) (Ev.bind hr ?_)
  refine Ev.congr (fun k => ?_) e
  rw [wordR_is 9 (by decide) (by decide), Option.bind_some, if_pos (by rw [w32_len]; omega)]
  rfl
theorem bytesOK_is {l : List S50} (ht : Tried l) : Ev (fun k => bytesOK k (nodeOf l 0)) (fileOf (treeOf l) (namesOf l)) := by
  have hm := MM_small ht
  obtain ⟨⟨h1, h2, h3⟩, hr, hb⟩ := tree_is ht l.length 0 (by omega) ht.pos [] (by simp [textsOf]; omega)
  have h3' : (namesOf l).length ≤ MM l 0 := by simpa [namesOf, textsOf] using h3
  have ht9 : (treeOf l).length = (etree l.length l 0 []).1.length + 4 := by unfold treeOf; rw [List.length_append, w32_len]
  have e := hb [] rfl (by simp; omega)
  unfold bytesOK
  refine Ev.bind e ?_
  refine Ev.congr (f := fun _ => some (fileOf (treeOf l) (namesOf l))) (fun k => ?_) (Ev.now _)
  have hc := cells_exact (headOf (treeOf l).length (namesOf l).length) (by simp [headOf]) (headOf (treeOf l).length (namesOf l).length) [] [] 11 (by simp [headOf]) rfl rfl
  have hc' : fdt_Cells.f 11 (headOf (treeOf l).length (namesOf l).length) = some ((headOf (treeOf l).length (namesOf l).length).flatMap w32) := hc
  have hfl : ((headOf (treeOf l).length (namesOf l).length).flatMap w32).length = 40 := by rw [flat_len4]; rfl
  have l1 : ((headOf (treeOf l).length (namesOf l).length).flatMap w32 ++ List.replicate 16 0).length = 56 := by rw [List.length_append, hfl]; rfl
  rw [List.nil_append, bput_is (by rw [w32_len]; show (etree l.length l 0 []).1.length + 4 < _; omega), Option.bind_some, if_pos (by
    show (treeOf l).length + (namesOf l).length < _
    omega)]
  show (fdt_Cells.f 11 (headOf (treeOf l).length (namesOf l).length)).bind _ = _
  rw [hc', Option.bind_some, bput_is (by rw [hfl]; simp), Option.bind_some]
  show (bput _ (treeOf l)).bind (fun o2 => bput o2 (namesOf l)) = _
  rw [bput_is (by rw [l1]; omega), Option.bind_some, bput_is (by rw [List.length_append, l1]; omega)]
  rfl
end Go.Proofs.Ytmhlellhfepkkaa.B
/- Plain: the law FdtWrites. -/
namespace Go.Proofs.Ytmhlellhfepkkaa.B
open Go.RowKit Go.Proofs.YtmhlellhfepkkaaW.PrintWords Go.Proofs.YtmhlellhfepkkaaW.PrintLast Go.Proofs.YtmhlellhfepkkaaW.PrintMore Go.Proofs.Ytmhlellhfepkkaa.PAl
set_option linter.unusedVariables false
set_option linter.unusedSimpArgs false
theorem fileOf_len {l : List S50} (ht : Tried l) : (fileOf (treeOf l) (namesOf l)).length < 140737488355328 := by
  have hm := MM_small ht
  obtain ⟨⟨h1, h2, h3⟩, hr, hb⟩ := tree_is ht l.length 0 (by omega) ht.pos [] (by simp [textsOf]; omega)
  have h3' : (namesOf l).length ≤ MM l 0 := by simpa [namesOf, textsOf] using h3
  have ht9 : (treeOf l).length = (etree l.length l 0 []).1.length + 4 := by unfold treeOf; rw [List.length_append, w32_len]
  have hf := flat_len4 (headOf (treeOf l).length (namesOf l).length)
  have hh : (headOf (treeOf l).length (namesOf l).length).length = 10 := rfl
  unfold fileOf
  simp only [List.length_append, List.length_replicate]
  omega
theorem node0_is {l : List S50} (ht : Tried l) : Ev (fun k => vireolaw26_node.f k l 0) ((nodeOf l 0).f0, (nodeOf l 0).f1, (nodeOf l 0).f2) := node_is ht.small l.length 0 (by omega) ht.pos
theorem bytes0_is {l : List S50} (ht : Tried l) : Ev (fun k => fdt_Bytes.f k (nodeOf l 0).f0 (nodeOf l 0).f1 (nodeOf l 0).f2) (if cOK l 0 then (fileOf (treeOf l) (namesOf l), 0) else ([], 250)) := by
  unfold fdt_Bytes.f
  refine Ev.bind (right_is ht) ?_
  by_cases c : cOK l 0
  · rw [if_pos c, if_pos c]
    refine Ev.congr (f := fun k => (bytesOK k (nodeOf l 0)).bind fun b => some (b, 0)) (fun k => ?_) (Ev.bind (bytesOK_is ht) (Ev.now _))
    rw [if_pos rfl, S32_eta]
  · rw [if_neg c, if_neg c]
    refine Ev.congr (f := fun _ => some ([], 250)) (fun k => ?_) (Ev.now _)
    rw [if_neg (by decide)]
theorem writes_is (l : List S50) : Ev (fun k => vireolaw26_FdtWrites.f k l) true := by
  unfold vireolaw26_FdtWrites.f
  refine Ev.bind awake_is ?_
  obtain ⟨b, hb, ht⟩ := tried_is l
  refine Ev.congr (f := fun k => (vireolaw26_tried.f k l).bind fun t253 => (if t253 = true then ((vireolaw26_node.f k l 0).bind fun bt254 => ((fdt_Bytes.f k bt254.1 bt254.2.1 bt254.2.2).bind fun bt261 => ((vireoref26_Right.f k l).bind fun t265 => (if t265 = true then (if bt261.2 = 0 then ((vireolaw26_node.f k l 0).bind fun bt274 => ((fdt_Right.f k bt274.1 bt274.2.1 bt274.2.2).bind fun t281 => (if t281 = bt261.2 then ((vireoref26_Bytes.f k l).bind fun t282 => ((vireoref02_Bytes.f k bt261.1 t282).bind fun t285 => (some t285))) else (some false)))) else (some false)) else (if bt261.2 = 250 then (if (bt261.1.length : Int) = 0 then ((vireolaw26_node.f k l 0).bind fun bt266 => ((fdt_Right.f k bt266.1 bt266.2.1 bt266.2.2).bind fun t273 => (some (t273 == bt261.2)))) else (some false)) else (some false)))))) else (some true))) (fun k => ?_) (Ev.bind hb ?_)
  · rw [if_pos rfl]
  by_cases cb : b = true
  · have hT := ht cb
    subst cb
    refine Ev.congr (f := fun k => (vireolaw26_node.f k l 0).bind fun bt254 => ((fdt_Bytes.f k bt254.1 bt254.2.1 bt254.2.2).bind fun bt261 => ((vireoref26_Right.f k l).bind fun t265 => (if t265 = true then (if bt261.2 = 0 then ((vireolaw26_node.f k l 0).bind fun bt274 => ((fdt_Right.f k bt274.1 bt274.2.1 bt274.2.2).bind fun t281 => (if t281 = bt261.2 then ((vireoref26_Bytes.f k l).bind fun t282 => ((vireoref02_Bytes.f k bt261.1 t282).bind fun t285 => (some t285))) else (some false)))) else (some false)) else (if bt261.2 = 250 then (if (bt261.1.length : Int) = 0 then ((vireolaw26_node.f k l 0).bind fun bt266 => ((fdt_Right.f k bt266.1 bt266.2.1 bt266.2.2).bind fun t273 => (some (t273 == bt261.2)))) else (some false)) else (some false)))))) (fun k => by rw [if_pos rfl]) ?_
    refine Ev.bind (node0_is hT) ?_
    refine Ev.bind (bytes0_is hT) ?_
    refine Ev.bind (refRight_is hT) ?_
    by_cases c : cOK l 0
    · have ed : decide (cOK l 0) = true := decide_eq_true c
      refine Ev.congr (f := fun k => (vireolaw26_node.f k l 0).bind fun bt274 => ((fdt_Right.f k bt274.1 bt274.2.1 bt274.2.2).bind fun t281 => (if t281 = 0 then ((vireoref26_Bytes.f k l).bind fun t282 => ((vireoref02_Bytes.f k (fileOf (treeOf l) (namesOf l)) t282).bind fun t285 => (some t285))) else (some false)))) (fun k => by rw [ed, if_pos rfl, if_pos c, if_pos rfl]) ?_
      refine Ev.bind (node0_is hT) ?_
      refine Ev.bind (right_is hT) ?_
      refine Ev.congr (f := fun k => (vireoref26_Bytes.f k l).bind fun t282 => ((vireoref02_Bytes.f k (fileOf (treeOf l) (namesOf l)) t282).bind fun t285 => (some t285))) (fun k => by rw [if_pos c, if_pos rfl]) ?_
      refine Ev.bind (rbytes_is hT) ?_
      refine Ev.bind (bytes_is _ _ (fileOf_len hT)) ?_
      refine Ev.congr (f := fun _ => some true) (fun k => ?_) (Ev.now _)
      simp
    · have ed : decide (cOK l 0) = false := decide_eq_false c
      refine Ev.congr (f := fun k => (vireolaw26_node.f k l 0).bind fun bt266 => ((fdt_Right.f k bt266.1 bt266.2.1 bt266.2.2).bind fun t273 => (some (t273 == 250)))) (fun k => by rw [ed, if_neg (by decide), if_neg c]; rfl) ?_
      refine Ev.bind (node0_is hT) ?_
      refine Ev.bind (right_is hT) ?_
      refine Ev.congr (f := fun _ => some true) (fun k => ?_) (Ev.now _)
      rw [if_neg c]; rfl
  · have : b = false := by simpa using cb
    subst this
    exact Ev.congr (f := fun _ => some true) (fun k => by rw [if_neg (by decide)]) (Ev.now _)
end Go.Proofs.Ytmhlellhfepkkaa.B
/- The law FdtWrites, plain. -/
namespace Go.Proofs.Ytmhlellhfepkkaa.Pure
theorem FdtWrites : OpWr.vireolaw26_FdtWrites.Pure2 := fun b0 _ => (B.writes_is b0).rounds
end Go.Proofs.Ytmhlellhfepkkaa.Pure
