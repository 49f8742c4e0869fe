/- The law FdtParses, plain: for every row of bytes, the law answers true. -/
import Derived.Test.YtmhlellhfepkkaaHq
import Derived.Test.YtmhlellhfepkkaaHfby
import Derived.Test.YtmhlellhfepkkaaHpc
import Derived.Test.YtmhlellhfepkkaaLp
import Derived.Test.YtmhlellhfepkkaaOpPa
/- Plain: small things. -/
namespace Go.Proofs.Ytmhlellhfepkkaa.B
open Go.RowKit Go.Proofs.YtmhlellhfepkkaaW.PrintWords Go.Proofs.YtmhlellhfepkkaaW.PrintLast Go.Proofs.YtmhlellhfepkkaaW.PrintMore Go.Proofs.Ytmhlellhfepkkaa.PAl
set_option linter.unusedVariables false
set_option linter.unusedSimpArgs false
theorem S32_eta (n : S32) : (⟨n.f0, n.f1, n.f2⟩ : S32) = n := by cases n; rfl
theorem bt_mid (s : ByteArray) (pre suf : List Int) (x : Int) (h : bytesOf s = pre ++ x :: suf) : bt s (pre.length : Int) = x := by
  have hl : s.size = pre.length + (suf.length + 1) := by have := congrArg List.length h; rw [bytesOf_length] at this; simpa using this
  unfold bt
  rw [Int.toNat_natCast, dif_pos (by omega)]
  have h2 : (bytesOf s)[pre.length]? = some x := by rw [h]; simp
  unfold bytesOf at h2
  rw [List.getElem?_map] at h2
  obtain ⟨b, hb, hx⟩ := Option.map_eq_some_iff.1 h2
  rw [← hx]
  have hb2 : s.data.toList[pre.length]? = some b := hb
  rw [Array.getElem?_toList] at hb2
  obtain ⟨hlt, he⟩ := Array.getElem?_eq_some_iff.1 hb2
  show ((s.data[pre.length].toNat : Nat) : Int) = _
  rw [he]
def okB (x : Int) : Bool := decide (33 ≤ x) && decide (x ≤ 126)
/-- May a text be a name? -/
def nmOK (s : ByteArray) (e : Bool) : Bool := if s.size = 0 then e else decide (s.size ≤ 31) && (bytesOf s).all okB
theorem size_toList (s : ByteArray) : s.toList = [] ↔ s.size = 0 := by rw [ByteArray.toList_eq, ← data_length s]; exact List.length_eq_zero_iff.symm
theorem named_loop (s : ByteArray) (hs : s.size ≤ 1000) : ∀ (suf pre : List Int), bytesOf s = pre ++ suf → Ev (fun k => fdt_named.l0 k s (s.size : Int) (pre.length : Int)) (suf.all okB)
  | [], pre, h => by
    have hl : s.size = pre.length := by have := congrArg List.length h; rw [bytesOf_length] at this; simpa using this
    refine Ev.step (f := fun _ => some true) (fun k => ?_) (Ev.now _)
    simp only [fdt_named.l0]
    rw [if_neg (by omega)]
  | x :: suf, pre, h => by
    have hl : s.size = pre.length + (suf.length + 1) := by have := congrArg List.length h; rw [bytesOf_length] at this; simpa using this
    have hb := bt_mid s pre suf x h
    by_cases c1 : x ≤ 32
    · have e : (x :: suf).all okB = false := by simp [okB]; intro q; omega
      rw [e]
      refine Ev.step (f := fun _ => some false) (fun k => ?_) (Ev.now _)
      simp only [fdt_named.l0]
      rw [if_pos (by omega), if_pos (by omega), if_pos (by omega), hb, if_pos c1]
    · by_cases c2 : x > 126
      · have e : (x :: suf).all okB = false := by simp [okB]; intro q; omega
        rw [e]
        refine Ev.step (f := fun _ => some false) (fun k => ?_) (Ev.now _)
        simp only [fdt_named.l0]
        rw [if_pos (by omega), if_pos (by omega), if_pos (by omega), hb, if_neg c1, if_pos c2]
      · have ih := named_loop s hs suf (pre ++ [x]) (by simp [h])
        have e : (x :: suf).all okB = suf.all okB := by simp [okB]; omega
        rw [e]
        refine Ev.step (f := fun k => fdt_named.l0 k s (s.size : Int) ((pre ++ [x]).length : Int)) (fun k => ?_) ih
        simp only [fdt_named.l0]
        rw [if_pos (by omega), if_pos (by omega), if_pos (by omega), hb, if_neg c1, if_neg c2, w64 (by omega) (by omega)]
        simp
theorem named_is (s : ByteArray) (e : Bool) : Ev (fun k => fdt_named.f k s e) (nmOK s e) := by
  unfold fdt_named.f nmOK
  by_cases c : s.size = 0
  · rw [if_pos c]
    refine Ev.congr (f := fun _ => some e) (fun k => ?_) (Ev.now _)
    rw [if_pos ((size_toList s).2 c)]
  · rw [if_neg c]
    by_cases c2 : (s.size : Int) > 31
    · have e2 : (decide (s.size ≤ 31) && (bytesOf s).all okB) = false := by rw [decide_eq_false (by omega)]; rfl
      rw [e2]
      refine Ev.congr (f := fun _ => some false) (fun k => ?_) (Ev.now _)
      rw [if_neg (fun q => c ((size_toList s).1 q)), if_pos c2]
    · have e2 : (decide (s.size ≤ 31) && (bytesOf s).all okB) = (bytesOf s).all okB := by rw [decide_eq_true (by omega), Bool.true_and]
      rw [e2]
      refine Ev.congr (f := fun k => fdt_named.l0 k s (s.size : Int) (([] : List Int).length : Int)) (fun k => ?_) (named_loop s (by omega) (bytesOf s) [] rfl)
      rw [if_neg (fun q => c ((size_toList s).1 q)), if_neg c2]
      rfl
def P4 (x : List Int) : List Int := x ++ List.replicate ((4 - x.length % 4) % 4) 0
theorem P4_len (x : List Int) : (P4 x).length % 4 = 0 ∧ (P4 x).length ≤ x.length + 3 := by
  unfold P4; rw [List.length_append, List.length_replicate]; omega
theorem pad_go : ∀ (k : Nat) (x : List Int), (4 - x.length % 4) % 4 < k → x.length + k < 140737488355300 → vireoref26_pad.l0 k x = some (P4 x)
  | 0, x, h, hl => by omega
  | k + 1, x, h, hl => by
    simp only [vireoref26_pad.l0]
    by_cases c : ((x.length : Int) % 4) = 0
    · rw [if_pos c]
      unfold P4
      rw [show (4 - x.length % 4) % 4 = 0 by omega]
      simp
    · have hl2 : (x ++ [0]).length = x.length + 1 := by simp
      have hn : (4 - (x.length + 1) % 4) % 4 < k ∧ (4 - x.length % 4) % 4 = (4 - (x.length + 1) % 4) % 4 + 1 := by
        have hc : x.length % 4 = 1 ∨ x.length % 4 = 2 ∨ x.length % 4 = 3 := by omega
        rcases hc with q | q | q
        · rw [show (x.length + 1) % 4 = 2 by omega]; rw [q] at h ⊢; omega
        · rw [show (x.length + 1) % 4 = 3 by omega]; rw [q] at h ⊢; omega
        · rw [show (x.length + 1) % 4 = 0 by omega]; rw [q] at h ⊢; omega
      rw [if_neg c, if_pos (by omega), pad_go k (x ++ [0]) (by rw [hl2]; exact hn.1) (by rw [hl2]; omega)]
      unfold P4
      rw [hl2, hn.2, List.replicate_succ, List.append_assoc]
      rfl
theorem pad_is (x : List Int) (hl : x.length < 140737488355000) : vireoref26_pad.f 5 x = some (P4 x) := pad_go 5 x (by omega) (by omega)
theorem bput_is {t y : List Int} (h : t.length + y.length < 140737488355328) : bput t y = some (t ++ y) := by unfold bput; rw [if_pos h]
def nameP (all : List ByteArray) (s : ByteArray) : Int × List ByteArray := match posOf all s with | some n => (n, all) | none => (((textsOf all).length : Int), all ++ [s])
theorem bname_is {all : List ByteArray} {s : ByteArray} (h : (textsOf all).length + s.size + 1 < 2147483648) : bname all s = some (nameP all s) := by
  unfold bname nameP; rw [if_pos h]; cases posOf all s <;> rfl
theorem toList_eq (a b : ByteArray) : a.toList = b.toList ↔ a = b := by
  rw [ByteArray.toList_eq, ByteArray.toList_eq]
  constructor
  · intro h
    have : a.data = b.data := Array.toList_inj.1 h
    cases a; cases b; simp_all
  · rintro rfl; rfl
theorem textsOf_app : ∀ a b : List ByteArray, textsOf (a ++ b) = textsOf a ++ textsOf b
  | [], b => rfl
  | x :: a, b => by simp [textsOf, textsOf_app a b]
theorem textsOf_cons_len (x : ByteArray) (l : List ByteArray) : (textsOf (x :: l)).length = x.size + 1 + (textsOf l).length := by
  simp [textsOf, bytesOf_length]; omega
theorem posOf_range : ∀ (l : List ByteArray) (s : ByteArray) (n : Int), posOf l s = some n → 0 ≤ n ∧ n ≤ (textsOf l).length
  | [], s, n, h => by cases h
  | x :: l, s, n, h => by
    rw [textsOf_cons_len]
    simp only [posOf] at h
    split at h
    · cases h; omega
    · obtain ⟨m, hm, rfl⟩ := Option.map_eq_some_iff.1 h
      have := posOf_range l s m hm
      omega
theorem nameP_range (all : List ByteArray) (s : ByteArray) : 0 ≤ (nameP all s).1 ∧ (nameP all s).1 ≤ (textsOf all).length ∧ (textsOf (nameP all s).2).length ≤ (textsOf all).length + s.size + 1 := by
  unfold nameP
  cases h : posOf all s with
  | some n => have := posOf_range all s n h; exact ⟨this.1, this.2, by dsimp only; omega⟩
  | none => exact ⟨by dsimp only; omega, by dsimp only; omega, by dsimp only; rw [textsOf_app, List.length_append, textsOf_cons_len]; simp [textsOf]; omega⟩
theorem rd74_mid (pre suf : List S74) (x : S74) : rd_T74 (pre ++ x :: suf) (pre.length : Int) = x := by
  unfold rd_T74; rw [Int.toNat_natCast]; simp [List.getD, List.getElem?_append_right]
theorem rd32_mid (pre suf : List S32) (x : S32) : rd_T32 (pre ++ x :: suf) (pre.length : Int) = x := by
  unfold rd_T32; rw [Int.toNat_natCast]; simp [List.getD, List.getElem?_append_right]
/-- the loop over what is told -/
theorem count_l0 (ps : List S74) (hp : ps.length ≤ 1000) (dep a b : Int) (nm : ByteArray) (ks : List S32) {r : Int × Int × Bool} (hend : Ev (fun k => fdt_count.l1 k dep a b ks (ks.length : Int) 0) r) :
    ∀ (suf pre : List S74), ps = pre ++ suf → Ev (fun k => fdt_count.l0 k dep a b ps (ps.length : Int) (pre.length : Int) nm ps ks) (if (suf.all fun q => nmOK q.f0 false && decide (q.f1.length ≤ 4096)) = true then r else (0, 0, false))
  | [], pre, h => by
    have h' : ps = pre := by simpa using h
    rw [if_pos (by rfl)]
    refine Ev.step (f := fun k => fdt_count.l1 k dep a b ks (ks.length : Int) 0) (fun k => ?_) hend
    simp only [fdt_count.l0]
    rw [if_neg (by rw [h']; omega)]
  | x :: suf, pre, h => by
    have hlen : ps.length = pre.length + (suf.length + 1) := by rw [h]; simp
    have hr : rd_T74 ps (pre.length : Int) = x := by rw [h]; exact rd74_mid _ _ _
    have ih := count_l0 ps hp dep a b nm ks hend suf (pre ++ [x]) (by simp [h])
    refine Ev.step (f := fun k => (fdt_named.f k x.f0 false).bind fun t105 => (if t105 = true then (if ((x.f1).length : Int) > 4096 then (some (0, 0, false)) else (fdt_count.l0 k dep a b ps (ps.length : Int) ((pre ++ [x]).length : Int) nm ps ks)) else (some (0, 0, false)))) (fun k => ?_) ?_
    · simp only [fdt_count.l0]
      rw [if_pos (by omega), if_pos (by omega), if_pos (by omega), hr, w64 (by omega) (by omega)]
      simp
    · refine Ev.bind (named_is x.f0 false) ?_
      cases hn : nmOK x.f0 false with
      | false =>
        rw [if_neg (by simp [hn])]
        exact Ev.congr (f := fun _ => some (0, 0, false)) (fun k => by simp) (Ev.now _)
      | true =>
        by_cases c : (x.f1.length : Int) > 4096
        · rw [if_neg (by simp [hn]; intro q; omega)]
          exact Ev.congr (f := fun _ => some (0, 0, false)) (fun k => by rw [if_pos rfl, if_pos c]) (Ev.now _)
        · have e : ((x :: suf).all fun q => nmOK q.f0 false && decide (q.f1.length ≤ 4096)) = (suf.all fun q => nmOK q.f0 false && decide (q.f1.length ≤ 4096)) := by simp [hn]; intro _; omega
          rw [e]
          exact Ev.congr (fun k => by rw [if_pos rfl, if_neg c]) ih
theorem flat_len4 : ∀ l : List Int, (l.flatMap w32).length = 4 * l.length
  | [] => rfl
  | a :: l => by have := flat_len4 l; simp only [List.flatMap_cons, List.length_append, w32_len, List.length_cons] at this ⊢; omega
theorem cells_exact (l : List Int) (hl : l.length < 35184372088832) : ∀ (suf pre acc : List Int) (k : Nat), suf.length < k → l = pre ++ suf → acc.length = 4 * pre.length → fdt_Cells.l0 k acc l (l.length : Int) (pre.length : Int) = some (acc ++ suf.flatMap w32)
  | suf, pre, acc, 0, hk, h, ha => by omega
  | [], pre, acc, k + 1, hk, h, ha => by
    subst h
    simp only [fdt_Cells.l0]
    rw [if_neg (by simp)]
    simp
  | x :: suf, pre, acc, k + 1, hk, h, ha => by
    have ih := cells_exact l hl suf (pre ++ [x]) (acc ++ w32 x) k (by simp at hk; omega) (by simp [h]) (by simp [ha, w32_len]; omega)
    have hlen : l.length = pre.length + (suf.length + 1) := by rw [h]; simp
    have hr : rd l (pre.length : Int) = x := by rw [h]; exact rd_mid _ _ _
    simp only [fdt_Cells.l0]
    rw [if_pos (by omega), if_pos (by omega), if_pos (by omega), hr, word32_is, Option.bind_some, if_pos (by rw [w32_len]; omega), w64 (by omega) (by omega)]
    have e : ((pre ++ [x]).length : Int) = (pre.length : Int) + 1 := by simp
    rw [e] at ih
    rw [ih]
    simp [List.append_assoc]
/-- The file. -/
def fileOf (tr nm : List Int) : List Int := (headOf tr.length nm.length).flatMap w32 ++ List.replicate 16 0 ++ tr ++ nm
end Go.Proofs.Ytmhlellhfepkkaa.B
/- Plain: reading comes to an end. -/
namespace Go.Proofs.Ytmhlellhfepkkaa.B
open Go.RowKit Go.Proofs.YtmhlellhfepkkaaW.PrintWords Go.Proofs.YtmhlellhfepkkaaW.PrintLast Go.Proofs.YtmhlellhfepkkaaW.PrintMore Go.Proofs.Ytmhlellhfepkkaa.PAl
set_option linter.unusedVariables false
set_option linter.unusedSimpArgs false
/-- A text, up to a 0. -/
def tRes (l : List Int) (i : Nat) : List Int → ByteArray × Bool
  | [] => (⟨#[]⟩, false)
  | x :: xs => if x = 0 then (strOfNums (l.take i), true) else tRes l (i + 1) xs
theorem text_loop (l : List Int) (hl : l.length < 1099511627776) : ∀ (suf pre : List Int), l = pre ++ suf → Ev (fun k => fdt_text.l0 k l l (l.length : Int) (pre.length : Int)) (tRes l pre.length suf)
  | [], pre, h => by
    have h' : l = pre := by simpa using h
    refine Ev.step (f := fun _ => some (⟨#[]⟩, false)) (fun k => ?_) (Ev.now _)
    simp only [fdt_text.l0]
    rw [if_neg (by rw [h']; omega)]
  | x :: suf, pre, h => by
    have ih := text_loop l hl suf (pre ++ [x]) (by simp [h])
    have hlen : l.length = pre.length + (suf.length + 1) := by rw [h]; simp
    have hr : rd l (pre.length : Int) = x := by rw [h]; exact rd_mid _ _ _
    by_cases c : x = 0
    · refine Ev.step (f := fun _ => some (strOfNums (l.take pre.length), true)) (fun k => ?_) (Ev.congr (fun k => by simp only [tRes]; rw [if_pos c]) (Ev.now (tRes l pre.length (x :: suf))))
      simp only [fdt_text.l0]
      rw [if_pos (by omega), if_pos (by omega), if_pos (by omega), hr, if_pos c, if_pos (by omega), Int.toNat_natCast]
    · refine Ev.step (f := fun k => fdt_text.l0 k l l (l.length : Int) ((pre ++ [x]).length : Int)) (fun k => ?_) (by simp only [tRes]; rw [if_neg c]; simpa using ih)
      simp only [fdt_text.l0]
      rw [if_pos (by omega), if_pos (by omega), if_pos (by omega), hr, if_neg c, w64 (by omega) (by omega)]
      simp
theorem text_is (l : List Int) (hl : l.length < 1099511627776) : Ev (fun k => fdt_text.f k l) (tRes l 0 l) := text_loop l hl l [] rfl
theorem tRes_size (l : List Int) : ∀ (suf : List Int) (i : Nat), i + suf.length ≤ l.length → (tRes l i suf).1.size ≤ l.length
  | [], i, h => Nat.zero_le _
  | x :: xs, i, h => by
    simp only [tRes]
    split
    · dsimp only; rw [strOfNums_size, List.length_take]; omega
    · exact tRes_size l xs (i + 1) (by simp only [List.length_cons] at h; omega)
/-- No deeper than so, nothing longer than so. -/
def Fine : Nat → S32 → Prop
  | 0, _ => False
  | d + 1, n => n.f0.size ≤ 5000 ∧ n.f1.length ≤ 5000 ∧ (∀ p ∈ n.f1, p.f0.size ≤ 5000 ∧ p.f1.length ≤ 5000) ∧ n.f2.length ≤ 5000 ∧ ∀ x ∈ n.f2, Fine d x
/-- How many parts and things told. -/
def items : Nat → S32 → Nat
  | 0, _ => 0
  | d + 1, n => 1 + n.f1.length + (n.f2.map (items d)).sum
theorem items_mk {dep : Int} (h0 : 0 ≤ dep) (h8 : dep ≤ 9) (name : ByteArray) (ps : List S74) (ks : List S32) : items (10 - dep).toNat ⟨name, ps, ks⟩ = 1 + ps.length + (ks.map (items (9 - dep).toNat)).sum := by
  rw [show (10 - dep).toNat = (9 - dep).toNat + 1 by omega]; rfl
theorem fine_nil (d : Nat) : Fine (d + 1) nilN := ⟨Nat.zero_le _, Nat.zero_le _, (fun p h => by cases h), Nat.zero_le _, (fun x h => by cases h)⟩
theorem rprop_ends (t nm : List Int) (bad : Bool) (hn : nm.length ≤ 4000) (ht : t.length ≤ 4000) : ∃ r, Ev (fun k => rprop k t nm bad) r ∧ r.1.size ≤ 5000 ∧ r.2.1.length ≤ 5000 ∧ r.2.2.1.length ≤ t.length := by
  have h1 := rw4_len t
  have h2 := rw4_len (rw4 t)
  unfold rprop
  split
  · exact ⟨_, Ev.now _, Nat.zero_le _, Nat.zero_le _, by dsimp only; omega⟩
  · have hd : (nm.drop (wv (rw4 t)).toNat).length ≤ nm.length := by rw [List.length_drop]; omega
    have hx := text_is (nm.drop (wv (rw4 t)).toNat) (by omega)
    refine ⟨_, Ev.bind hx (Ev.now _), ?_, ?_, ?_⟩
    · have := tRes_size (nm.drop (wv (rw4 t)).toNat) (nm.drop (wv (rw4 t)).toNat) 0 (by omega)
      dsimp only; omega
    · dsimp only
      unfold tgot
      split
      · exact Nat.zero_le _
      · rw [List.length_take]; omega
    · have := trest_len (rw4 (rw4 t)) (wv t)
      dsimp only; omega
def NodeEnds (nm t : List Int) : Prop := ∀ (dep : Int) (bad : Bool) (left : Int), 0 ≤ dep → dep ≤ 9 → 0 ≤ left → left ≤ 64 →
  ∃ r : S32 × List Int × Bool × Int, Ev (fun k => rnode k nm dep t bad left) r ∧ r.2.1.length ≤ t.length ∧ (r.2.2.1 = false → 0 ≤ r.2.2.2) ∧ r.2.2.2 ≤ 64 ∧ Fine (10 - dep).toNat r.1 ∧ items (10 - dep).toNat r.1 + r.2.1.length ≤ 1 + t.length
def LoopEnds (nm t : List Int) : Prop := ∀ (dep : Int) (bad : Bool) (left : Int) (name : ByteArray) (ps : List S74) (ks : List S32), 0 ≤ dep → dep ≤ 8 → (bad = false → 0 ≤ left) → left ≤ 64 → name.size ≤ 5000 → ps.length + t.length ≤ 5000 → ks.length + t.length ≤ 5000 →
  (∀ p ∈ ps, p.f0.size ≤ 5000 ∧ p.f1.length ≤ 5000) → (∀ x ∈ ks, Fine (9 - dep).toNat x) →
  ∃ r : S32 × List Int × Bool × Int, Ev (fun k => rloop k nm dep t bad left name ps ks) r ∧ r.2.1.length ≤ t.length ∧ (r.2.2.1 = false → 0 ≤ r.2.2.2) ∧ r.2.2.2 ≤ 64 ∧ Fine (10 - dep).toNat r.1 ∧ items (10 - dep).toNat r.1 + r.2.1.length ≤ 1 + ps.length + (ks.map (items (9 - dep).toNat)).sum + t.length
theorem fine_mk {dep : Int} (h0 : 0 ≤ dep) (h8 : dep ≤ 8) {name : ByteArray} {ps : List S74} {ks : List S32} (hn : name.size ≤ 5000) (hp : ps.length ≤ 5000) (hk : ks.length ≤ 5000) (h1 : ∀ p ∈ ps, p.f0.size ≤ 5000 ∧ p.f1.length ≤ 5000) (h2 : ∀ x ∈ ks, Fine (9 - dep).toNat x) : Fine (10 - dep).toNat ⟨name, ps, ks⟩ := by
  rw [show (10 - dep).toNat = (9 - dep).toNat + 1 by omega]
  exact ⟨hn, hp, h1, hk, h2⟩
theorem loop_bad (nm t : List Int) {dep left : Int} (name : ByteArray) (ps : List S74) (ks : List S32) : Ev (fun k => rloop k nm dep t true left name ps ks) (⟨name, ps, ks⟩, t, true, left) :=
  Ev.step (f := fun _ => some (⟨name, ps, ks⟩, t, true, left)) (fun k => by rw [rloop.eq_2, if_pos rfl]) (Ev.now _)
theorem read_ends (nm : List Int) (hnm : nm.length ≤ 4000) : ∀ (m : Nat) (t : List Int), t.length ≤ m → t.length ≤ 4000 → LoopEnds nm t ∧ NodeEnds nm t := by
    intro m
    induction m using Nat.strongRecOn with
    | ind m ih =>
    have hB : ∀ t : List Int, t.length ≤ m → t.length ≤ 4000 → LoopEnds nm t := by
      intro t hm ht dep bad left name ps ks d0 d8 hb hl hn hps hks h1 h2
      cases bad with
      | true => exact ⟨_, loop_bad nm t name ps ks, Nat.le_refl _, (fun h => by cases h), hl, fine_mk d0 d8 hn (by omega) (by omega) h1 h2, by rw [items_mk d0 (by omega)]; dsimp only; omega⟩
      | false =>
        by_cases c4 : t.length < 4
        · have e1 : wv t = 0 := if_pos c4
          have e2 : rw4 t = t := if_pos c4
          have e3 : rbad t false = true := if_pos c4
          refine ⟨_, Ev.step (f := fun k => rloop k nm dep t true left name ps ks) (fun k => ?_) (loop_bad nm t name ps ks), Nat.le_refl _, (fun h => by cases h), hl, fine_mk d0 d8 hn (by omega) (by omega) h1 h2, by rw [items_mk d0 (by omega)]; dsimp only; omega⟩
          rw [rloop.eq_2, if_neg (by decide), e1, if_neg (by decide), if_neg (by decide), if_neg (by decide), e2]
        · have e2 : rw4 t = t.drop 4 := if_neg c4
          have e3 : rbad t false = false := if_neg c4
          have hl4 : (rw4 t).length = t.length - 4 := by rw [e2, List.length_drop]
          by_cases v3 : wv t = 3
          · obtain ⟨q, hq, q1, q2, q3⟩ := rprop_ends (rw4 t) nm false hnm (by omega)
            obtain ⟨iB, _⟩ := ih (m - 4) (by omega) q.2.2.1 (by omega) (by omega)
            obtain ⟨r, hr, r1, r2, r3, r4, r5⟩ := iB dep q.2.2.2 left name (ps ++ [⟨q.1, q.2.1⟩]) ks d0 d8 (fun _ => hb rfl) hl hn (by rw [List.length_append]; simp only [List.length_cons, List.length_nil]; omega) (by omega) (fun p hp => by
              rcases List.mem_append.1 hp with hp | hp
              · exact h1 p hp
              · have : p = ⟨q.1, q.2.1⟩ := by simpa using hp
                rw [this]; exact ⟨q1, q2⟩) h2
            refine ⟨r, Ev.step (f := fun k => (rprop k (rw4 t) nm false).bind fun q => if ps.length < 1099511627776 then rloop k nm dep q.2.2.1 q.2.2.2 left name (ps ++ [⟨q.1, q.2.1⟩]) ks else none) (fun k => ?_) (Ev.bind hq (Ev.congr (fun k => by rw [if_pos (by omega)]) hr)), by omega, r2, r3, r4, by rw [List.length_append] at r5; simp only [List.length_cons, List.length_nil] at r5; omega⟩
            rw [rloop.eq_2, if_neg (by decide), if_pos v3, e3]
          · by_cases v1 : wv t = 1
            · obtain ⟨_, iA⟩ := ih (m - 4) (by omega) (rw4 t) (by omega) (by omega)
              obtain ⟨q, hq, q1, q2, q3, q4, q5⟩ := iA (dep + 1) false left (by omega) (by omega) (hb rfl) hl
              obtain ⟨iB, _⟩ := ih (m - 4) (by omega) q.2.1 (by omega) (by omega)
              obtain ⟨r, hr, r1, r2, r3, r4, r5⟩ := iB dep q.2.2.1 q.2.2.2 name ps (ks ++ [q.1]) d0 d8 q2 q3 hn (by omega) (by rw [List.length_append]; simp only [List.length_cons, List.length_nil]; omega) h1 (fun x hx => by
                rcases List.mem_append.1 hx with hx | hx
                · exact h2 x hx
                · have : x = q.1 := by simpa using hx
                  rw [this, show (9 - dep).toNat = (10 - (dep + 1)).toNat by omega]; exact q4)
              refine ⟨r, Ev.step (f := fun k => (rnode k nm (dep + 1) (rw4 t) false left).bind fun q => if ks.length < 1099511627776 then rloop k nm dep q.2.1 q.2.2.1 q.2.2.2 name ps (ks ++ [q.1]) else none) (fun k => ?_) (Ev.bind hq (Ev.congr (fun k => by rw [if_pos (by omega)]) hr)), by omega, r2, r3, r4, by rw [List.map_append, List.sum_append] at r5; simp only [List.map_cons, List.map_nil, List.sum_cons, List.sum_nil] at r5; rw [show (10 - (dep + 1)).toNat = (9 - dep).toNat by omega] at q5; omega⟩
              rw [rloop.eq_2, if_neg (by decide), if_neg v3, if_pos v1, e3]
            · by_cases v2 : wv t = 2
              · refine ⟨_, Ev.step (f := fun _ => some (⟨name, ps, ks⟩, rw4 t, false, left)) (fun k => ?_) (Ev.now _), by dsimp only; omega, fun _ => hb rfl, hl, fine_mk d0 d8 hn (by omega) (by omega) h1 h2, by rw [items_mk d0 (by omega)]; dsimp only; omega⟩
                rw [rloop.eq_2, if_neg (by decide), if_neg v3, if_neg v1, if_pos v2, e3]
              · refine ⟨_, Ev.step (f := fun k => rloop k nm dep (rw4 t) true left name ps ks) (fun k => ?_) (loop_bad nm (rw4 t) name ps ks), by dsimp only; omega, (fun h => by cases h), hl, fine_mk d0 d8 hn (by omega) (by omega) h1 h2, by rw [items_mk d0 (by omega)]; dsimp only; omega⟩
                rw [rloop.eq_2, if_neg (by decide), if_neg v3, if_neg v1, if_neg v2]
    intro t hm ht
    refine ⟨hB t hm ht, ?_⟩
    intro dep bad left d0 d9 l0 l64
    have hx := text_is t (by omega)
    have hsz := tRes_size t t 0 (by omega)
    by_cases cb : (tRes t 0 t).2 = false ∨ 8 < dep ∨ left - 1 < 0
    · refine ⟨(nilN, t, true, left - 1), Ev.step (f := fun k => (fdt_text.f k t).bind fun q => if q.2 = false ∨ 8 < dep ∨ left - 1 < 0 then some (nilN, t, true, left - 1) else if q.1.size < 1000000000000 then rloop k nm dep (trest t ((q.1.size : Int) + 1)) (tbad t ((q.1.size : Int) + 1) bad) (left - 1) q.1 [] [] else none) (fun k => ?_) (Ev.bind hx (Ev.congr (fun k => by rw [if_pos cb]) (Ev.now _))), Nat.le_refl _, (fun h => by cases h), by dsimp only; omega, ?_, ?_⟩
      · rw [rnode.eq_2, if_pos ⟨by omega, by omega, by omega, by omega⟩]
      · rw [show (10 - dep).toNat = (9 - dep).toNat + 1 by omega]; exact fine_nil _
      · unfold nilN; rw [items_mk d0 d9]; simp
    · have ht2 := trest_len t (((tRes t 0 t).1.size : Int) + 1)
      obtain ⟨r, hr, r1, r2, r3, r4, r5⟩ := hB (trest t (((tRes t 0 t).1.size : Int) + 1)) (by omega) (by omega) dep (tbad t (((tRes t 0 t).1.size : Int) + 1) bad) (left - 1) (tRes t 0 t).1 [] [] d0 (by omega) (fun _ => by omega) (by omega) (by omega) (by simp only [List.length_nil]; omega) (by simp only [List.length_nil]; omega) (fun p h => by cases h) (fun x h => by cases h)
      refine ⟨r, Ev.step (f := fun k => (fdt_text.f k t).bind fun q => if q.2 = false ∨ 8 < dep ∨ left - 1 < 0 then some (nilN, t, true, left - 1) else if q.1.size < 1000000000000 then rloop k nm dep (trest t ((q.1.size : Int) + 1)) (tbad t ((q.1.size : Int) + 1) bad) (left - 1) q.1 [] [] else none) (fun k => ?_) (Ev.bind hx (Ev.congr (fun k => by rw [if_neg cb, if_pos (by omega)]) hr)), by omega, r2, r3, r4, by simp only [List.length_nil, List.map_nil, List.sum_nil] at r5; omega⟩
      rw [rnode.eq_2, if_pos ⟨by omega, by omega, by omega, by omega⟩]
end Go.Proofs.Ytmhlellhfepkkaa.B
/- Plain: counting comes to an end. -/
namespace Go.Proofs.Ytmhlellhfepkkaa.B
open Go.RowKit Go.Proofs.YtmhlellhfepkkaaW.PrintWords Go.Proofs.YtmhlellhfepkkaaW.PrintLast Go.Proofs.YtmhlellhfepkkaaW.PrintMore Go.Proofs.Ytmhlellhfepkkaa.PAl
set_option linter.unusedVariables false
set_option linter.unusedSimpArgs false
def CR (r : Int × Int × Bool) : Prop := 0 ≤ r.1 ∧ r.1 ≤ 64 ∧ 0 ≤ r.2.1 ∧ r.2.1 ≤ 256
theorem count_l1_ends (ks : List S32) (hl : ks.length ≤ 5000) {dep : Int} (d0 : 0 ≤ dep) (d1 : dep ≤ 1000) (hk : ∀ x ∈ ks, ∃ r, Ev (fun k => fdt_count.f k x.f0 x.f1 x.f2 (dep + 1)) r ∧ CR r) : ∀ (suf pre : List S32) (a b : Int), ks = pre ++ suf → 0 ≤ a → a ≤ 64 → 0 ≤ b → b ≤ 256 →
    ∃ r, Ev (fun k => fdt_count.l1 k dep a b ks (ks.length : Int) (pre.length : Int)) r ∧ CR r
  | [], pre, a, b, h, a0, a1, b0, b1 => by
    have h' : ks = pre := by simpa using h
    refine ⟨(a, b, true), Ev.step (f := fun _ => some (a, b, true)) (fun k => ?_) (Ev.now _), a0, a1, b0, b1⟩
    simp only [fdt_count.l1]
    rw [if_neg (by rw [h']; omega)]
  | x :: suf, pre, a, b, h, a0, a1, b0, b1 => by
    have hlen : ks.length = pre.length + (suf.length + 1) := by rw [h]; simp
    have hr : rd_T32 ks (pre.length : Int) = x := by rw [h]; exact rd32_mid _ _ _
    obtain ⟨q, hq, q0, q1, q2, q3⟩ := hk x (by rw [h]; simp)
    have key : ∀ {r}, Ev (fun k => if q.2.2 = true then (if a + q.1 > 64 then (some (0, 0, false)) else (if b + q.2.1 > 256 then (some (0, 0, false)) else (fdt_count.l1 k dep (a + q.1) (b + q.2.1) ks (ks.length : Int) ((pre ++ [x]).length : Int)))) else (some (0, 0, false))) r → Ev (fun k => fdt_count.l1 k dep a b ks (ks.length : Int) (pre.length : Int)) r := by
      intro r hr2
      refine Ev.step (f := fun k => (fdt_count.f k x.f0 x.f1 x.f2 (dep + 1)).bind fun bt => if bt.2.2 = true then (if wrap64 (a + bt.1) > 64 then (some (0, 0, false)) else (if wrap64 (b + bt.2.1) > 256 then (some (0, 0, false)) else (fdt_count.l1 k dep (wrap64 (a + bt.1)) (wrap64 (b + bt.2.1)) ks (ks.length : Int) ((pre ++ [x]).length : Int)))) else (some (0, 0, false))) (fun k => ?_) (Ev.bind hq (Ev.congr (fun k => by rw [w64 (by omega) (by omega), w64 (by omega) (by omega)]) hr2))
      simp only [fdt_count.l1]
      rw [if_pos (by omega), if_pos (by omega), if_pos (by omega), hr, w64 (x := dep + 1) (by omega) (by omega), w64 (x := (pre.length : Int) + 1) (by omega) (by omega)]
      simp
    by_cases c : q.2.2 = true
    · by_cases c1 : a + q.1 > 64
      · exact ⟨(0, 0, false), key (Ev.congr (f := fun _ => some (0, 0, false)) (fun k => by rw [if_pos c, if_pos c1]) (Ev.now _)), by decide, by decide, by decide, by decide⟩
      · by_cases c2 : b + q.2.1 > 256
        · exact ⟨(0, 0, false), key (Ev.congr (f := fun _ => some (0, 0, false)) (fun k => by rw [if_pos c, if_neg c1, if_pos c2]) (Ev.now _)), by decide, by decide, by decide, by decide⟩
        · obtain ⟨r, hr3, hc⟩ := count_l1_ends ks hl d0 d1 hk suf (pre ++ [x]) (a + q.1) (b + q.2.1) (by simp [h]) (by omega) (by omega) (by omega) (by omega)
          exact ⟨r, key (Ev.congr (fun k => by rw [if_pos c, if_neg c1, if_neg c2]) hr3), hc⟩
    · exact ⟨(0, 0, false), key (Ev.congr (f := fun _ => some (0, 0, false)) (fun k => by rw [if_neg c]) (Ev.now _)), by decide, by decide, by decide, by decide⟩
theorem no_cr : CR (0, 0, false) := ⟨by decide, by decide, by decide, by decide⟩
theorem count_ends : ∀ (d : Nat) (n : S32) (dep : Int), Fine d n → 0 ≤ dep → dep + d ≤ 1000 → ∃ r, Ev (fun k => fdt_count.f k n.f0 n.f1 n.f2 dep) r ∧ CR r
  | 0, n, dep, h, d0, d1 => h.elim
  | d + 1, n, dep, h, d0, d1 => by
    obtain ⟨g0, g1, g2, g3, g4⟩ := h
    have j0no : Ev (fun k => fdt_count.j0 k dep true n.f0 n.f1 n.f2) (0, 0, false) := Ev.step (f := fun _ => some (0, 0, false)) (fun k => by simp [fdt_count.j0]) (Ev.now _)
    by_cases c8 : dep > 8
    · exact ⟨_, Ev.step (f := fun k => fdt_count.j0 k dep true n.f0 n.f1 n.f2) (fun k => by simp only [fdt_count.f]; rw [if_pos c8]) j0no, no_cr⟩
    · have key : ∀ {r}, Ev (fun k => if nmOK n.f0 (dep == 1) = true then (if (n.f1.length : Int) > 256 then (fdt_count.j0 k dep true n.f0 n.f1 n.f2) else (fdt_count.j0 k dep (decide ((n.f2.length : Int) > 64)) n.f0 n.f1 n.f2)) else (fdt_count.j0 k dep true n.f0 n.f1 n.f2)) r → Ev (fun k => fdt_count.f k n.f0 n.f1 n.f2 dep) r := by
        intro r hr
        refine Ev.step (f := fun k => (fdt_named.f k n.f0 (dep == 1)).bind fun t102 => (if t102 = true then (if (n.f1.length : Int) > 256 then (fdt_count.j0 k dep true n.f0 n.f1 n.f2) else (fdt_count.j0 k dep (decide ((n.f2.length : Int) > 64)) n.f0 n.f1 n.f2)) else (fdt_count.j0 k dep true n.f0 n.f1 n.f2))) (fun k => by simp only [fdt_count.f]; rw [if_neg c8]) (Ev.bind (named_is n.f0 (dep == 1)) hr)
      by_cases cn : nmOK n.f0 (dep == 1) = true
      · by_cases cp : (n.f1.length : Int) > 256
        · exact ⟨_, key (Ev.congr (fun k => by rw [if_pos cn, if_pos cp]) j0no), no_cr⟩
        · by_cases ck : (n.f2.length : Int) > 64
          · exact ⟨_, key (Ev.congr (fun k => by rw [if_pos cn, if_neg cp, decide_eq_true ck]) j0no), no_cr⟩
          · obtain ⟨r, hr, hc⟩ := count_l1_ends n.f2 (by omega) d0 (by omega) (fun x hx => count_ends d x (dep + 1) (g4 x hx) (by omega) (by omega)) n.f2 [] 1 (n.f1.length : Int) rfl (by omega) (by omega) (by omega) (by omega)
            have h0 := count_l0 n.f1 (by omega) dep 1 (n.f1.length : Int) n.f0 n.f2 hr n.f1 [] rfl
            have hj := Ev.step (g := fun k => fdt_count.j0 k dep false n.f0 n.f1 n.f2) (fun k => by simp only [fdt_count.j0]; rw [if_neg (by decide)]; rfl) h0
            refine ⟨_, key (Ev.congr (fun k => by rw [if_pos cn, if_neg cp, decide_eq_false ck]) hj), ?_⟩
            split
            · exact hc
            · exact no_cr
      · exact ⟨_, key (Ev.congr (fun k => by rw [if_neg cn]) j0no), no_cr⟩
theorem right_ends {d : Nat} {n : S32} (h : Fine d n) (hd : d ≤ 900) : ∃ e, Ev (fun k => fdt_Right.f k n.f0 n.f1 n.f2) e ∧ (e = 0 ∨ e = 250) := by
  obtain ⟨r, hr, _⟩ := count_ends d n 1 h (by omega) (by omega)
  by_cases c : r.2.2 = true
  · exact ⟨0, Ev.bind hr (Ev.congr (fun k => by rw [if_pos c]) (Ev.now 0)), .inl rfl⟩
  · exact ⟨250, Ev.bind hr (Ev.congr (fun k => by rw [if_neg c]) (Ev.now 250)), .inr rfl⟩
end Go.Proofs.Ytmhlellhfepkkaa.B
/- Plain: Bytes comes to an end. -/
namespace Go.Proofs.Ytmhlellhfepkkaa.B
open Go.RowKit Go.Proofs.YtmhlellhfepkkaaW.PrintWords Go.Proofs.YtmhlellhfepkkaaW.PrintLast Go.Proofs.YtmhlellhfepkkaaW.PrintMore Go.Proofs.Ytmhlellhfepkkaa.PAl
set_option linter.unusedVariables false
set_option linter.unusedSimpArgs false
theorem bprops_ends : ∀ (ps : List S74) (tr : List Int) (all : List ByteArray), (∀ p ∈ ps, p.f0.size ≤ 5000 ∧ p.f1.length ≤ 5000) → tr.length + 20000 * ps.length ≤ 1000000000 → (textsOf all).length + 20000 * ps.length ≤ 1000000000 →
    ∃ r, bprops ps tr all = some r ∧ r.1.length ≤ tr.length + 20000 * ps.length ∧ (textsOf r.2).length ≤ (textsOf all).length + 20000 * ps.length
  | [], tr, all, h, h1, h2 => ⟨(tr, all), rfl, by simp, by simp⟩
  | p :: ps, tr, all, h, h1, h2 => by
    obtain ⟨g1, g2⟩ := h p List.mem_cons_self
    have hn := nameP_range all p.f0
    rw [List.length_cons] at h1 h2
    have l1 : (tr ++ w32 3).length = tr.length + 4 := by simp [w32_len]
    have l2 : (tr ++ w32 3 ++ w32 p.f1.length).length = tr.length + 8 := by simp [w32_len]
    have l3 : (tr ++ w32 3 ++ w32 p.f1.length ++ w32 (nameP all p.f0).1).length = tr.length + 12 := by simp [w32_len]
    have l4 : (tr ++ w32 3 ++ w32 p.f1.length ++ w32 (nameP all p.f0).1 ++ p.f1).length = tr.length + 12 + p.f1.length := by rw [List.length_append, l3]
    have hP := P4_len (tr ++ w32 3 ++ w32 p.f1.length ++ w32 (nameP all p.f0).1 ++ p.f1)
    rw [l4] at hP
    obtain ⟨r, hr, r1, r2⟩ := bprops_ends ps (P4 (tr ++ w32 3 ++ w32 p.f1.length ++ w32 (nameP all p.f0).1 ++ p.f1)) (nameP all p.f0).2 (fun q hq => h q (List.mem_cons_of_mem _ hq)) (by omega) (by omega)
    refine ⟨r, ?_, by rw [List.length_cons]; omega, by rw [List.length_cons]; omega⟩
    simp only [bprops]
    rw [if_pos (by omega), bput_is (by rw [w32_len]; omega), Option.bind_some, bput_is (by rw [l1, w32_len]; omega), Option.bind_some, bname_is (by omega), Option.bind_some, bput_is (by rw [l2, w32_len]; omega), Option.bind_some, bput_is (by rw [l3]; omega), Option.bind_some, pad_is _ (by rw [l4]; omega), Option.bind_some]
    exact hr
theorem bnodes_ends (d : Nat) (ih : ∀ (n : S32) (tr : List Int) (all : List ByteArray), Fine d n → tr.length + 20000 * items d n ≤ 1000000000 → (textsOf all).length + 20000 * items d n ≤ 1000000000 → ∃ r, Ev (fun k => bnode k n tr all) r ∧ r.1.length ≤ tr.length + 20000 * items d n ∧ (textsOf r.2).length ≤ (textsOf all).length + 20000 * items d n) :
    ∀ (ks : List S32) (tr : List Int) (all : List ByteArray), (∀ x ∈ ks, Fine d x) → tr.length + 20000 * (ks.map (items d)).sum ≤ 1000000000 → (textsOf all).length + 20000 * (ks.map (items d)).sum ≤ 1000000000 →
      ∃ r, Ev (fun k => bnodes (bnode k) ks tr all) r ∧ r.1.length ≤ tr.length + 20000 * (ks.map (items d)).sum ∧ (textsOf r.2).length ≤ (textsOf all).length + 20000 * (ks.map (items d)).sum
  | [], tr, all, h, h1, h2 => ⟨(tr, all), Ev.now _, by simp, by simp⟩
  | x :: ks, tr, all, h, h1, h2 => by
    simp only [List.map_cons, List.sum_cons] at h1 h2 ⊢
    obtain ⟨q, hq, q1, q2⟩ := ih x tr all (h x List.mem_cons_self) (by omega) (by omega)
    obtain ⟨r, hr, r1, r2⟩ := bnodes_ends d ih ks q.1 q.2 (fun y hy => h y (List.mem_cons_of_mem _ hy)) (by omega) (by omega)
    exact ⟨r, Ev.congr (f := fun k => (bnode k x tr all).bind fun q => bnodes (bnode k) ks q.1 q.2) (fun k => by simp only [bnodes]) (Ev.bind hq hr), by omega, by omega⟩
theorem bnode_ends : ∀ (d : Nat) (n : S32) (tr : List Int) (all : List ByteArray), Fine d n → tr.length + 20000 * items d n ≤ 1000000000 → (textsOf all).length + 20000 * items d n ≤ 1000000000 → ∃ r, Ev (fun k => bnode k n tr all) r ∧ r.1.length ≤ tr.length + 20000 * items d n ∧ (textsOf r.2).length ≤ (textsOf all).length + 20000 * items d n
  | 0, n, tr, all, h, h1, h2 => h.elim
  | d + 1, n, tr, all, h, h1, h2 => by
    obtain ⟨g0, g1, g2, g3, g4⟩ := h
    simp only [items] at h1 h2 ⊢
    have hbl : (bytesOf n.f0).length = n.f0.size := bytesOf_length _
    have l1 : (tr ++ w32 1).length = tr.length + 4 := by simp [w32_len]
    have l2 : (tr ++ w32 1 ++ (bytesOf n.f0 ++ [0])).length = tr.length + 4 + (n.f0.size + 1) := by rw [List.length_append, l1, List.length_append, hbl]; rfl
    have lb : (bytesOf n.f0 ++ [0]).length = n.f0.size + 1 := by rw [List.length_append, hbl]; rfl
    have hP := P4_len (tr ++ w32 1 ++ (bytesOf n.f0 ++ [0]))
    rw [l2] at hP
    obtain ⟨p, hp, p1, p2⟩ := bprops_ends n.f1 (P4 (tr ++ w32 1 ++ (bytesOf n.f0 ++ [0]))) all g2 (by omega) (by omega)
    obtain ⟨z, hz, z1, z2⟩ := bnodes_ends d (fun n tr all => bnode_ends d n tr all) n.f2 p.1 p.2 g4 (by omega) (by omega)
    refine ⟨(z.1 ++ w32 2, z.2), Ev.step (f := fun k => (bnodes (bnode k) n.f2 p.1 p.2).bind fun z => (bput z.1 (w32 2)).bind fun t => some (t, z.2)) (fun k => ?_) (Ev.bind hz (Ev.congr (fun k => by rw [bput_is (by rw [w32_len]; omega), Option.bind_some]) (Ev.now _))), by rw [List.length_append, w32_len]; omega, by dsimp only; omega⟩
    simp only [bnode]
    rw [if_pos ⟨by omega, by omega, by omega⟩, bput_is (by rw [w32_len]; omega), Option.bind_some, bput_is (by rw [l1, lb]; omega), Option.bind_some, pad_is _ (by rw [l2]; omega), Option.bind_some, hp, Option.bind_some]
theorem bytesOK_ends {d : Nat} {n : S32} (h : Fine d n) (hi : items d n ≤ 10000) : ∃ b, Ev (fun k => bytesOK k n) b ∧ b.length < 140737488355328 := by
  obtain ⟨r, hr, r1, r2⟩ := bnode_ends d n [] [] h (by simp only [List.length_nil]; omega) (by simp only [textsOf, List.length_nil]; omega)
  have r2' : (textsOf r.2).length ≤ 200000000 := by simp only [textsOf, List.length_nil] at r2; omega
  have r1' : r.1.length ≤ 200000000 := by simp only [List.length_nil] at r1; omega
  have ht : (r.1 ++ w32 9).length = r.1.length + 4 := by rw [List.length_append, w32_len]
  have hc := cells_exact (headOf (r.1 ++ w32 9).length (textsOf r.2).length) (by simp [headOf]) (headOf (r.1 ++ w32 9).length (textsOf r.2).length) [] [] 11 (by simp [headOf]) rfl rfl
  have hc' : fdt_Cells.f 11 (headOf (r.1 ++ w32 9).length (textsOf r.2).length) = some ((headOf (r.1 ++ w32 9).length (textsOf r.2).length).flatMap w32) := hc
  have hfl : ((headOf (r.1 ++ w32 9).length (textsOf r.2).length).flatMap w32).length = 40 := by rw [flat_len4]; rfl
  have l1 : ((headOf (r.1 ++ w32 9).length (textsOf r.2).length).flatMap w32 ++ List.replicate 16 0).length = 56 := by rw [List.length_append, hfl]; rfl
  refine ⟨fileOf (r.1 ++ w32 9) (textsOf r.2), ?_, by unfold fileOf; rw [List.length_append, List.length_append, l1]; omega⟩
  unfold bytesOK
  refine Ev.bind hr (Ev.congr (f := fun _ => some (fileOf (r.1 ++ w32 9) (textsOf r.2))) (fun k => ?_) (Ev.now _))
  rw [bput_is (by rw [w32_len]; omega), Option.bind_some, if_pos (by rw [ht]; omega), hc', Option.bind_some, bput_is (by rw [hfl]; simp), Option.bind_some, bput_is (by rw [l1]; omega), Option.bind_some, bput_is (by rw [List.length_append, l1]; omega)]
  rfl
end Go.Proofs.Ytmhlellhfepkkaa.B
/- Plain: bytes are bytes. -/
namespace Go.Proofs.Ytmhlellhfepkkaa.B
open Go.RowKit Go.Proofs.YtmhlellhfepkkaaW.PrintWords Go.Proofs.YtmhlellhfepkkaaW.PrintLast Go.Proofs.YtmhlellhfepkkaaW.PrintMore Go.Proofs.Ytmhlellhfepkkaa.PAl
set_option linter.unusedVariables false
set_option linter.unusedSimpArgs false
def In8 (l : List Int) : Prop := ∀ x ∈ l, 0 ≤ x ∧ x < 256
theorem in8_nil : In8 [] := fun x h => by cases h
theorem in8_app {a b : List Int} (ha : In8 a) (hb : In8 b) : In8 (a ++ b) := fun x h => (List.mem_append.1 h).elim (ha x) (hb x)
theorem in8_drop {a : List Int} (h : In8 a) (n : Nat) : In8 (a.drop n) := fun x hx => h x (List.mem_of_mem_drop hx)
theorem in8_take {a : List Int} (h : In8 a) (n : Nat) : In8 (a.take n) := fun x hx => h x (List.mem_of_mem_take hx)
theorem in8_w32 (x : Int) : In8 (w32 x) := by
  intro y hy
  simp only [w32, List.mem_cons, List.not_mem_nil, or_false] at hy
  rcases hy with h | h | h | h <;> omega
theorem in8_zeros (n : Nat) : In8 (List.replicate n 0) := fun x h => by have := List.eq_of_mem_replicate h; omega
theorem in8_rw4 {t : List Int} (h : In8 t) : In8 (rw4 t) := by unfold rw4; split <;> first | exact h | exact in8_drop h _
theorem in8_trest {t : List Int} (h : In8 t) (n : Int) : In8 (trest t n) := by unfold trest; split <;> first | exact h | exact in8_drop h _
theorem in8_tgot {t : List Int} (h : In8 t) (n : Int) : In8 (tgot t n) := by unfold tgot; split <;> first | exact in8_nil | exact in8_take h _
def N8 : Nat → S32 → Prop
  | 0, _ => True
  | d + 1, n => (∀ p ∈ n.f1, In8 p.f1) ∧ ∀ x ∈ n.f2, N8 d x
theorem n8_mk {name : ByteArray} {ps : List S74} {ks : List S32} (h1 : ∀ p ∈ ps, In8 p.f1) (h2 : ∀ d, ∀ x ∈ ks, N8 d x) : ∀ d, N8 d ⟨name, ps, ks⟩
  | 0 => trivial
  | d + 1 => ⟨h1, h2 d⟩
theorem n8_nil : ∀ d, N8 d nilN := n8_mk (fun p h => by cases h) (fun d x h => by cases h)
theorem rprop_in8 {k : Nat} {t nm : List Int} {bad : Bool} {r : ByteArray × List Int × List Int × Bool} (h : rprop k t nm bad = some r) (ht : In8 t) : In8 r.2.1 ∧ In8 r.2.2.1 := by
  unfold rprop at h
  split at h
  · obtain rfl := Option.some.inj h; exact ⟨in8_nil, in8_rw4 (in8_rw4 ht)⟩
  · obtain ⟨q, _, h⟩ := Option.bind_eq_some_iff.mp h
    obtain rfl := Option.some.inj h
    exact ⟨in8_tgot (in8_rw4 (in8_rw4 ht)) _, in8_trest (in8_rw4 (in8_rw4 ht)) _⟩
theorem rn_in8 : ∀ k, (∀ nm dep t bad left name ps ks r, rloop k nm dep t bad left name ps ks = some r → In8 t → (∀ p ∈ ps, In8 p.f1) → (∀ d, ∀ x ∈ ks, N8 d x) → In8 r.2.1 ∧ ∀ d, N8 d r.1) ∧ (∀ nm dep t bad left r, rnode k nm dep t bad left = some r → In8 t → In8 r.2.1 ∧ ∀ d, N8 d r.1)
  | 0 => ⟨fun _ _ _ _ _ _ _ _ r h => by simp [rloop] at h, fun _ _ _ _ _ r h => by simp [rnode] at h⟩
  | k + 1 => by
    obtain ⟨i1, i2⟩ := rn_in8 k
    constructor
    · intro nm dep t bad left name ps ks r h ht hp hk
      rw [rloop.eq_2] at h
      split at h
      · obtain rfl := Option.some.inj h; exact ⟨ht, n8_mk hp hk⟩
      · split at h
        · obtain ⟨q, hq, h⟩ := Option.bind_eq_some_iff.mp h
          obtain ⟨q1, q2⟩ := rprop_in8 hq (in8_rw4 ht)
          split at h
          · have hps : ∀ p ∈ ps ++ [(⟨q.1, q.2.1⟩ : S74)], In8 p.f1 := by
              intro p hpp
              rcases List.mem_append.1 hpp with e | e
              · exact hp p e
              · have : p = ⟨q.1, q.2.1⟩ := by simpa using e
                rw [this]; exact q1
            exact i1 _ _ _ _ _ _ _ _ _ h q2 hps hk
          · cases h
        · split at h
          · obtain ⟨q, hq, h⟩ := Option.bind_eq_some_iff.mp h
            obtain ⟨q1, q2⟩ := i2 _ _ _ _ _ _ hq (in8_rw4 ht)
            split at h
            · have hks : ∀ d, ∀ x ∈ ks ++ [q.1], N8 d x := by
                intro d x hx
                rcases List.mem_append.1 hx with e | e
                · exact hk d x e
                · have : x = q.1 := by simpa using e
                  rw [this]; exact q2 d
              exact i1 _ _ _ _ _ _ _ _ _ h q1 hp hks
            · cases h
          · split at h
            · obtain rfl := Option.some.inj h; exact ⟨in8_rw4 ht, n8_mk hp hk⟩
            · exact i1 _ _ _ _ _ _ _ _ _ h (in8_rw4 ht) hp hk
    · intro nm dep t bad left r h ht
      rw [rnode.eq_2] at h
      split at h
      · obtain ⟨q, hq, h⟩ := Option.bind_eq_some_iff.mp h
        split at h
        · obtain rfl := Option.some.inj h; exact ⟨ht, n8_nil⟩
        · split at h
          · exact i1 _ _ _ _ _ _ _ _ _ h (in8_trest ht _) (fun p h => by cases h) (fun d x h => by cases h)
          · cases h
      · cases h
theorem in8_pad : ∀ (k : Nat) (x y : List Int), vireoref26_pad.l0 k x = some y → In8 x → In8 y
  | 0, x, y, h, hx => by simp [vireoref26_pad.l0] at h
  | k + 1, x, y, h, hx => by
    simp only [vireoref26_pad.l0] at h
    split at h
    · obtain rfl := Option.some.inj h; exact hx
    · split at h
      · have h0 : In8 [0] := by
          intro z hz
          have : z = 0 := by simpa using hz
          omega
        exact in8_pad k _ _ h (in8_app hx h0)
      · cases h
theorem in8_bytesOf (s : ByteArray) : In8 (bytesOf s) := by
  intro x hx
  unfold bytesOf at hx
  obtain ⟨b, _, rfl⟩ := List.mem_map.1 hx
  have := UInt8.toNat_lt b
  omega
theorem in8_bput {tr ys t : List Int} (h : bput tr ys = some t) (h1 : In8 tr) (h2 : In8 ys) : In8 t := by
  obtain ⟨_, rfl⟩ := bput_open h
  exact in8_app h1 h2
theorem bprops_in8 : ∀ (ps : List S74) (tr : List Int) (all : List ByteArray) (r : List Int × List ByteArray), bprops ps tr all = some r → In8 tr → (∀ p ∈ ps, In8 p.f1) → In8 r.1
  | [], tr, all, r, h, ht, hp => by obtain rfl := Option.some.inj (show some (tr, all) = some r from h); exact ht
  | p :: ps, tr, all, r, h, ht, hp => by
    obtain ⟨_, t1, t2, n, all1, t3, t4, t5, f1, f2, f3, f4, f5, f6, f7⟩ := bprops_open (tr' := r.1) (all' := r.2) h
    have a1 := in8_bput f1 ht (in8_w32 _)
    have a2 := in8_bput f2 a1 (in8_w32 _)
    have a3 := in8_bput f4 a2 (in8_w32 _)
    have a4 := in8_bput f5 a3 (hp p List.mem_cons_self)
    have a5 := in8_pad 5 _ _ f6 a4
    exact bprops_in8 ps t5 all1 _ f7 a5 (fun q hq => hp q (List.mem_cons_of_mem _ hq))
theorem bnodes_in8 (F : S32 → List Int → List ByteArray → Option (List Int × List ByteArray)) (P : S32 → Prop) (hF : ∀ x tr all r, F x tr all = some r → P x → In8 tr → In8 r.1) : ∀ (ks : List S32) (tr : List Int) (all : List ByteArray) (r : List Int × List ByteArray), bnodes F ks tr all = some r → (∀ x ∈ ks, P x) → In8 tr → In8 r.1
  | [], tr, all, r, h, hk, ht => by obtain rfl := Option.some.inj (show some (tr, all) = some r from h); exact ht
  | x :: ks, tr, all, r, h, hk, ht => by
    simp only [bnodes] at h
    obtain ⟨q, h1, h2⟩ := Option.bind_eq_some_iff.mp h
    exact bnodes_in8 F P hF ks q.1 q.2 r h2 (fun y hy => hk y (List.mem_cons_of_mem _ hy)) (hF x tr all q h1 (hk x List.mem_cons_self) ht)
theorem bnode_in8 : ∀ (k : Nat) (n : S32) (tr : List Int) (all : List ByteArray) (r : List Int × List ByteArray), bnode k n tr all = some r → N8 k n → In8 tr → In8 r.1
  | 0, n, tr, all, r, h, hn, ht => by cases h
  | k + 1, n, tr, all, r, h, hn, ht => by
    obtain ⟨_, t1, t2, t3, p1, p2, z1, z2, e1, e2, e3, e4, e5, e6, _⟩ := bnode_open (tr' := r.1) (all' := r.2) h
    have h0 : In8 [0] := by
      intro z hz
      have : z = 0 := by simpa using hz
      omega
    have a1 := in8_bput e1 ht (in8_w32 _)
    have a2 := in8_bput e2 a1 (in8_app (in8_bytesOf _) h0)
    have a3 := in8_pad 5 _ _ e3 a2
    have a4 := bprops_in8 _ _ _ _ e4 a3 hn.1
    have a5 := bnodes_in8 (bnode k) (N8 k) (fun x tr all r h hx ht => bnode_in8 k x tr all r h hx ht) _ _ _ _ e5 hn.2 a4
    exact in8_bput e6 a5 (in8_w32 _)
theorem in8_flat : ∀ l : List Int, In8 (l.flatMap w32)
  | [] => in8_nil
  | x :: l => by rw [List.flatMap_cons]; exact in8_app (in8_w32 x) (in8_flat l)
theorem in8_texts : ∀ l : List ByteArray, In8 (textsOf l)
  | [] => in8_nil
  | x :: l => by
    have h0 : In8 [0] := by
      intro z hz
      have : z = 0 := by simpa using hz
      omega
    have := in8_app (in8_app (in8_bytesOf x) h0) (in8_texts l)
    simpa [textsOf] using this
theorem bytesOK_in8 {k : Nat} {n : S32} {b : List Int} (h : bytesOK k n = some b) (hn : ∀ d, N8 d n) : In8 b := by
  unfold bytesOK at h
  obtain ⟨q, h1, h⟩ := Option.bind_eq_some_iff.mp h
  obtain ⟨tr, h2, h⟩ := Option.bind_eq_some_iff.mp h
  have aq := bnode_in8 k n [] [] q h1 (hn k) in8_nil
  have at_ := in8_bput h2 aq (in8_w32 _)
  split at h
  · obtain ⟨hd, h3, h⟩ := Option.bind_eq_some_iff.mp h
    obtain ⟨o1, h4, h⟩ := Option.bind_eq_some_iff.mp h
    obtain ⟨o2, h5, h⟩ := Option.bind_eq_some_iff.mp h
    have hc := cells_exact (headOf tr.length (textsOf q.2).length) (by simp [headOf]) (headOf tr.length (textsOf q.2).length) [] [] 11 (by simp [headOf]) rfl rfl
    have e : some hd = some ((headOf tr.length (textsOf q.2).length).flatMap w32) := h3.symm.trans hc
    have ah : In8 hd := by rw [Option.some.inj e]; exact in8_flat _
    exact in8_bput h (in8_bput h5 (in8_bput h4 ah (in8_zeros _)) at_) (in8_texts _)
  · cases h
/-- Texts of the same bytes are of the same numbers. -/
theorem str_inj {a b : List Int} (ha : In8 a) (hb : In8 b) (h : (strOfNums a).toList = (strOfNums b).toList) : a = b := by
  have e := (toList_eq _ _).1 h
  have e2 : bytesOf (strOfNums a) = bytesOf (strOfNums b) := by rw [e]
  have key : ∀ l : List Int, In8 l → bytesOf (strOfNums l) = l := by
    intro l hl
    unfold bytesOf
    rw [strOfNums_data, List.map_map]
    conv => rhs; rw [← List.map_id l]
    refine List.map_congr_left fun x hx => ?_
    have := hl x hx
    simp only [Function.comp, id]
    rw [UInt8.toNat_ofNat']
    omega
  rw [key a ha, key b hb] at e2
  exact e2
end Go.Proofs.Ytmhlellhfepkkaa.B
/- Plain: the law FdtParses. -/
namespace Go.Proofs.Ytmhlellhfepkkaa.B
open Go.RowKit Go.Proofs.YtmhlellhfepkkaaW.PrintWords Go.Proofs.YtmhlellhfepkkaaW.PrintLast Go.Proofs.YtmhlellhfepkkaaW.PrintMore Go.Proofs.Ytmhlellhfepkkaa.PAl
set_option linter.unusedVariables false
set_option linter.unusedSimpArgs false
theorem bytes_ends {d : Nat} {n : S32} (h : Fine d n) (hd : d ≤ 900) (hi : items d n ≤ 10000) (h8 : ∀ d, N8 d n) : ∃ b e, Ev (fun k => fdt_Bytes.f k n.f0 n.f1 n.f2) (b, e) ∧ b.length < 140737488355328 ∧ In8 b ∧ (e = 0 ∨ e = 250) := by
  obtain ⟨e, he, h2⟩ := right_ends h hd
  unfold fdt_Bytes.f
  by_cases c : e = 0
  · obtain ⟨b, hb, hl⟩ := bytesOK_ends h hi
    obtain ⟨k, hk⟩ := hb.rounds
    refine ⟨b, 0, Ev.bind he (Ev.congr (f := fun k => (bytesOK k n).bind fun b => some (b, 0)) (fun k => by rw [if_pos c, S32_eta]) (Ev.bind hb (Ev.now _))), hl, bytesOK_in8 hk h8, .inl rfl⟩
  · exact ⟨[], e, Ev.bind he (Ev.congr (fun k => by rw [if_neg c]) (Ev.now _)), by simp, in8_nil, h2⟩
theorem within_some (a b c d : Int) : ∃ x, word_Within.f a b c d = some x := by
  unfold word_Within.f
  split
  · exact ⟨_, rfl⟩
  · split
    · exact ⟨_, rfl⟩
    · exact ⟨_, rfl⟩
def ParseOK (l0 : List Int) (r : ByteArray × List S74 × List S32 × Int) : Prop := r = pfail ∨ (r.2.2.2 = 0 ∧ Ev (fun k => fdt_Bytes.f k r.1 r.2.1 r.2.2.1) (l0, 0))
theorem parse_g (l0 H : List Int) (hl : l0.length ≤ 4000) (h8 : In8 l0) : ∃ r, Ev (fun k => fdt_Parse.g k l0 H) r ∧ ParseOK l0 r := by
  unfold fdt_Parse.g
  obtain ⟨x, hx⟩ := within_some (rd H 2) (rd H 9) 0 (l0.length : Int)
  obtain ⟨y, hy⟩ := within_some (rd H 3) (rd H 8) 0 (l0.length : Int)
  have no : ∀ {g : Nat → Option (ByteArray × List S74 × List S32 × Int)}, (∀ k, g k = some pfail) → ∃ r, Ev g r ∧ ParseOK l0 r := fun h => ⟨pfail, Ev.congr h (Ev.now _), .inl rfl⟩
  by_cases cx : x = true
  · by_cases cy : y = true
    · obtain ⟨t, ht⟩ : ∃ t, t = (l0.take (rd H 2 + rd H 9).toNat).drop (rd H 2).toNat := ⟨_, rfl⟩
      obtain ⟨nm, hnm⟩ : ∃ t, t = (l0.take (rd H 3 + rd H 8).toNat).drop (rd H 3).toNat := ⟨_, rfl⟩
      have lt : t.length ≤ 4000 := by rw [ht, List.length_drop, List.length_take]; omega
      have ln : nm.length ≤ 4000 := by rw [hnm, List.length_drop, List.length_take]; omega
      have t8 : In8 t := by rw [ht]; exact in8_drop (in8_take h8 _) _
      rw [← ht, ← hnm]
      by_cases cv : wv t = 1
      · have l4 := rw4_len t
        obtain ⟨_, hN⟩ := read_ends nm ln 4000 (rw4 t) (by omega) (by omega)
        obtain ⟨q, hq, q1, q2, q3, q4, q5⟩ := hN 1 (rbad t false) 64 (by decide) (by decide) (by decide) (by decide)
        obtain ⟨kq, hkq⟩ := hq.rounds
        obtain ⟨_, n8⟩ := (rn_in8 kq).2 _ _ _ _ _ _ hkq (in8_rw4 t8)
        have start : ∀ {g : Nat → Option (ByteArray × List S74 × List S32 × Int)} {r}, (∀ k, g k = (word_Within.f (rd H 2) (rd H 9) 0 (l0.length : Int)).bind fun x => if x = true then (word_Within.f (rd H 3) (rd H 8) 0 (l0.length : Int)).bind fun y => if y = true then if wv t = 1 then (rnode k nm 1 (rw4 t) (rbad t false) 64).bind fun q => if q.2.2.1 = true then some pfail else (fdt_Bytes.f k q.1.f0 q.1.f1 q.1.f2).bind fun b => if b.2 = 0 then (if (strOfNums b.1).toList = (strOfNums l0).toList then some (q.1.f0, q.1.f1, q.1.f2, 0) else some pfail) else some pfail else some pfail else some pfail else some pfail) →
            Ev (fun k => if q.2.2.1 = true then some pfail else (fdt_Bytes.f k q.1.f0 q.1.f1 q.1.f2).bind fun b => if b.2 = 0 then (if (strOfNums b.1).toList = (strOfNums l0).toList then some (q.1.f0, q.1.f1, q.1.f2, 0) else some pfail) else some pfail) r → Ev g r := by
          intro g r hg hr
          refine Ev.congr (f := fun k => (rnode k nm 1 (rw4 t) (rbad t false) 64).bind fun q => if q.2.2.1 = true then some pfail else (fdt_Bytes.f k q.1.f0 q.1.f1 q.1.f2).bind fun b => if b.2 = 0 then (if (strOfNums b.1).toList = (strOfNums l0).toList then some (q.1.f0, q.1.f1, q.1.f2, 0) else some pfail) else some pfail) (fun k => ?_) (Ev.bind hq hr)
          rw [hg k, hx, Option.bind_some, if_pos cx, hy, Option.bind_some, if_pos cy, if_pos cv]
        by_cases cb : q.2.2.1 = true
        · exact ⟨pfail, start (fun k => rfl) (Ev.congr (fun k => by rw [if_pos cb]) (Ev.now _)), .inl rfl⟩
        · obtain ⟨b, e, hb, hbl, hb8, he⟩ := bytes_ends q4 (by decide) (by omega) n8
          by_cases ce : e = 0
          · subst ce
            by_cases cs : (strOfNums b).toList = (strOfNums l0).toList
            · have := str_inj hb8 h8 cs
              subst this
              exact ⟨_, start (fun k => rfl) (Ev.congr (fun k => by rw [if_neg cb]) (Ev.bind hb (Ev.congr (fun k => by rw [if_pos rfl, if_pos rfl]) (Ev.now (q.1.f0, q.1.f1, q.1.f2, 0))))), .inr ⟨rfl, hb⟩⟩
            · exact ⟨pfail, start (fun k => rfl) (Ev.congr (fun k => by rw [if_neg cb]) (Ev.bind hb (Ev.congr (fun k => by rw [if_pos rfl, if_neg cs]) (Ev.now _)))), .inl rfl⟩
          · exact ⟨pfail, start (fun k => rfl) (Ev.congr (fun k => by rw [if_neg cb]) (Ev.bind hb (Ev.congr (fun k => by rw [if_neg ce]) (Ev.now _)))), .inl rfl⟩
      · exact no (fun k => by rw [hx, Option.bind_some, if_pos cx, hy, Option.bind_some, if_pos cy, if_neg cv])
    · exact no (fun k => by rw [hx, Option.bind_some, if_pos cx, hy, Option.bind_some, if_neg cy])
  · exact no (fun k => by rw [hx, Option.bind_some, if_neg cx])
theorem parse_ends (l0 : List Int) (hl : l0.length ≤ 4000) (h8 : In8 l0) : ∃ r, Ev (fun k => fdt_Parse.f k l0) r ∧ ParseOK l0 r := by
  unfold fdt_Parse.f
  by_cases cb : (rhead 10 l0 false).2.2 = true
  · exact ⟨pfail, Ev.congr (fun k => by rw [if_pos (by omega), if_pos cb]) (Ev.now _), .inl rfl⟩
  · obtain ⟨r, hr, h⟩ := parse_g l0 (rhead 10 l0 false).1 hl h8
    exact ⟨r, Ev.congr (fun k => by rw [if_pos (by omega), if_neg cb]) hr, h⟩
theorem same_pfail : Ev (fun k => vireolaw26_Same.f k pfail.1 pfail.2.1 pfail.2.2.1 (⟨#[]⟩ : ByteArray) ([] : List S74) ([] : List S32) 1) true := Ev.of (fun k => vireolaw26_Same.mono _ _ _ _ _ _ _ k) (k := 8) (by kernel_rfl)
theorem parses_is (l0 : List Int) (h8 : In8 l0) : Ev (fun k => vireolaw26_FdtParses.f k l0) true := by
  unfold vireolaw26_FdtParses.f
  refine Ev.bind awake_is ?_
  by_cases c : (l0.length : Int) > 4000
  · exact Ev.congr (fun k => by rw [if_pos rfl, if_pos c]) (Ev.now _)
  · obtain ⟨r, hr, h⟩ := parse_ends l0 (by omega) h8
    refine Ev.congr (f := fun k => (fdt_Parse.f k l0).bind fun bt174 => (if bt174.2.2.2 = 0 then ((fdt_Bytes.f k bt174.1 bt174.2.1 bt174.2.2.1).bind fun bt183 => (if bt183.2 = 0 then ((vireoref02_Bytes.f k bt183.1 l0).bind fun t187 => (some t187)) else (some false))) else (if bt174.2.2.2 = 250 then ((vireolaw26_Same.f k bt174.1 bt174.2.1 bt174.2.2.1 (⟨#[]⟩ : ByteArray) ([] : List (S74)) ([] : List (S32)) 1).bind fun t188 => (some t188)) else (some false)))) (fun k => by rw [if_pos rfl, if_neg c]) (Ev.bind hr ?_)
    rcases h with rfl | ⟨h0, hb⟩
    · exact Ev.congr (f := fun k => (vireolaw26_Same.f k pfail.1 pfail.2.1 pfail.2.2.1 (⟨#[]⟩ : ByteArray) ([] : List S74) ([] : List S32) 1).bind fun t => some t) (fun k => rfl) (Ev.bind same_pfail (Ev.now _))
    · refine Ev.congr (fun k => by rw [if_pos h0]) (Ev.bind hb (Ev.congr (f := fun k => (vireoref02_Bytes.f k l0 l0).bind fun t => some t) (fun k => by rw [if_pos rfl]) (Ev.bind (bytes_is l0 l0 (by omega)) (Ev.congr (fun k => by simp) (Ev.now true)))))
end Go.Proofs.Ytmhlellhfepkkaa.B
/- The law FdtParses, plain: for every row of bytes, the law answers true. -/
namespace Go.Proofs.Ytmhlellhfepkkaa.Pure
open Go.Proofs.Ytmhlellhfepkkaa.OpPa
theorem FdtParses : OpPa.vireolaw26_FdtParses.Pure2 := fun b0 h0 => (B.parses_is b0 (fun z hz => by
  have hq : 0 ≤ z ∧ z ≤ 255 := by have := h0.2 z hz; unfold good5 at this; simpa [Go.Lit.wf, Go.IntKind.min, Go.IntKind.max, Go.IntKind.signed, Go.IntKind.bits] using this
  exact ⟨hq.1, by omega⟩)).rounds
end Go.Proofs.Ytmhlellhfepkkaa.Pure
