/- Nodes' texts and tables of a store: the plain mathematics. No condition. -/
import Derived.Test.YtjnhiiaejeaikaaGreatDoorRTreePlain
set_option linter.unnecessarySimpa false
set_option linter.unusedSimpArgs false
set_option linter.unusedVariables false
namespace Go.Proofs.YtjnhiiaejeaikaaGreatDoor
open Go Go.Lib
abbrev NodeD := Int × Int × Int × TreeD
def eachF (kind : Int) : Int := if kind = 1 then 12 else if kind = 2 then 128 else 0
def piecesF (kind size : Int) : Int := if eachF kind = 0 ∨ ¬ (0 ≤ size ∧ size ≤ 16 * eachF kind) then -1 else (size + eachF kind - 1) / eachF kind
def linkTop (kind : Int) : Int := if kind = 2 then 1 else 9
def nodeOkB (n : NodeD) : Bool :=
 decide (0 ≤ piecesF n.1 n.2.2.1) && (inB n.2.1 1 (linkTop n.1) && (decide (n.2.2.2.2.2 = piecesF n.1 n.2.2.1) && (decide (n.2.2.2.2.1 = depthF (piecesF n.1 n.2.2.1)) && (okP n.2.2.2.1 && (holeP n.2.2.2.1 || decide (n.2.2.2.1.2.2.2.2 = n.2.2.2.2.1))))))
def nodeL (n : NodeD) : List Str := [numS n.1, numS n.2.1, numS n.2.2.1, ptrT n.2.2.2.1, numS n.2.2.2.2.1, numS n.2.2.2.2.2, [101, 110, 100]]
def nodeS (n : NodeD) : Str := if nodeOkB n = true then (fieldsF (nodeL n)).1 else []
theorem nodeS_no {n : NodeD} (h : nodeOkB n = false) : nodeS n = [] := by unfold nodeS; rw [if_neg (by simp [h])]
theorem nodeS_yes {n : NodeD} (h : nodeOkB n = true) : nodeS n = (fieldsF (nodeL n)).1 := by unfold nodeS; rw [if_pos h]
theorem pieces_top {kind size : Int} (h : 0 ≤ piecesF kind size) : (1 ≤ kind ∧ kind ≤ 2) ∧ (0 ≤ size ∧ size ≤ 2048) ∧ piecesF kind size ≤ 16 := by
 unfold piecesF at h ⊢
 by_cases hc : eachF kind = 0 ∨ ¬ (0 ≤ size ∧ size ≤ 16 * eachF kind)
 · rw [if_pos hc] at h
   omega
 rw [if_neg hc]
 by_cases h1 : kind = 1
 · have e : eachF kind = 12 := by unfold eachF; rw [if_pos h1]
   rw [e] at hc ⊢
   omega
 by_cases h2 : kind = 2
 · have e : eachF kind = 128 := by unfold eachF; rw [if_neg h1, if_pos h2]
   rw [e] at hc ⊢
   omega
 exact absurd (Or.inl (by unfold eachF; rw [if_neg h1, if_neg h2])) hc
theorem nodeOk_parts {n : NodeD} (h : nodeOkB n = true) : (1 ≤ n.1 ∧ n.1 ≤ 2) ∧ (1 ≤ n.2.1 ∧ n.2.1 ≤ 9) ∧ (0 ≤ n.2.2.1 ∧ n.2.2.1 ≤ 2048) ∧ okP n.2.2.2.1 = true ∧ (0 ≤ n.2.2.2.2.1 ∧ n.2.2.2.2.1 ≤ 2) ∧ (0 ≤ n.2.2.2.2.2 ∧ n.2.2.2.2.2 ≤ 16) := by
 unfold nodeOkB at h
 simp only [Bool.and_eq_true, decide_eq_true_eq, inB_iff] at h
 obtain ⟨h1, ⟨h2, h3⟩, h4, h5, h6, h7⟩ := h
 obtain ⟨q1, q2, q3⟩ := pieces_top h1
 have ht : linkTop n.1 ≤ 9 := by unfold linkTop; split <;> omega
 obtain ⟨d, hd, hd2⟩ := depthF_nat (piecesF n.1 n.2.2.1)
 exact ⟨q1, by omega, q2, h6, by omega, by omega⟩
theorem ptrT_len (p : PtrD) : (ptrT p).length ≤ 60 := ptrS_len _ _ _ _ _
theorem nodeL_le (n : NodeD) : ∀ f ∈ nodeL n, f.length ≤ 60 := by
 intro f hf
 have e1 := numS_len n.1; have e2 := numS_len n.2.1; have e3 := numS_len n.2.2.1; have e4 := ptrT_len n.2.2.2.1; have e5 := numS_len n.2.2.2.2.1; have e6 := numS_len n.2.2.2.2.2
 unfold nodeL at hf
 simp only [List.mem_cons, List.not_mem_nil, or_false] at hf
 rcases hf with rfl | rfl | rfl | rfl | rfl | rfl | rfl
 all_goals first | omega | (simp)
theorem encs_smallN : ∀ (l : List Str), (∀ f ∈ l, f.length ≤ 60) → (encs l).length ≤ 81 * l.length
 | [], _ => by simp [encs]
 | x :: l, h => by
   rw [encs_cons, List.length_append, List.length_cons]
   have h1 := encs_smallN l (fun f hf => h f (by simp [hf]))
   have h2 := h x (by simp)
   have h3 := enc1_len_le x (by omega)
   omega
theorem fieldsF_node (n : NodeD) : fieldsF (nodeL n) = (encs (nodeL n), true) := fieldsF_yes (by show 7 ≤ 60; omega) (by
 have := encs_smallN _ (nodeL_le n)
 have e : (nodeL n).length = 7 := rfl
 omega)
theorem node_rec {n : NodeD} (h : nodeOkB n = true) : IsRec (nodeS n) (nodeL n) := by
 have h1 := encs_smallN _ (nodeL_le n)
 have e : (nodeL n).length = 7 := rfl
 have e2 : nodeS n = encs (nodeL n) := by rw [nodeS_yes h, fieldsF_node]
 exact ⟨e2.symm, by omega, by rw [e2]; omega⟩
theorem numS_one {a b : Int} (ha : 0 ≤ a ∧ a ≤ 999999999) (hb : 0 ≤ b ∧ b ≤ 999999999) (e : numS a = numS b) : a = b := by
 have g : numGet (numS a) = numGet (numS b) := by rw [e]
 rw [numGet_numS ha, numGet_numS hb] at g
 injection g with g
 omega
def IsNode (s : Str) (n : NodeD) : Prop := nodeOkB n = true ∧ nodeS n = s
theorem nodeL_one {n m : NodeD} (h : nodeOkB n = true) (k : nodeOkB m = true) (e : nodeL n = nodeL m) : n = m := by
 obtain ⟨a1, a2, a3, a4, a5, a6⟩ := nodeOk_parts h
 obtain ⟨b1, b2, b3, b4, b5, b6⟩ := nodeOk_parts k
 obtain ⟨n1, n2, n3, n4, n5, n6⟩ := n
 obtain ⟨m1, m2, m3, m4, m5, m6⟩ := m
 dsimp only at *
 unfold nodeL at e
 simp only [List.cons.injEq, and_true] at e
 obtain ⟨e1, e2, e3, e4, e5, e6⟩ := e
 rw [numS_one (by omega) (by omega) e1, numS_one (by omega) (by omega) e2, numS_one (by omega) (by omega) e3, ptrT_one a4 b4 e4, numS_one (by omega) (by omega) e5, numS_one (by omega) (by omega) e6]
theorem IsNode.one {s : Str} {n m : NodeD} (h : IsNode s n) (k : IsNode s m) : n = m := nodeL_one h.1 k.1 ((node_rec h.1).inj (h.2.trans k.2.symm ▸ node_rec k.1))
open Classical in
noncomputable def nodeGet (s : Str) : Option NodeD := if h : ∃ n, IsNode s n then some h.choose else none
theorem nodeGet_yes {s : Str} {n : NodeD} (h : IsNode s n) : nodeGet s = some n := by
 have hx : ∃ n, IsNode s n := ⟨n, h⟩
 unfold nodeGet
 rw [dif_pos hx, hx.choose_spec.one h]
theorem nodeGet_no {s : Str} (h : ∀ n, ¬ IsNode s n) : nodeGet s = none := by
 unfold nodeGet
 rw [dif_neg (fun ⟨n, k⟩ => h n k)]
theorem node_no {s : Str} (h : ∀ l, ¬ IsRec s l) : nodeGet s = none := nodeGet_no fun n k => h _ (k.2 ▸ node_rec k.1)
theorem node_len {s : Str} {L : List Str} (h : IsRec s L) (hl : L.length ≠ 7) : nodeGet s = none := nodeGet_no fun n k => hl (by rw [h.inj (k.2 ▸ node_rec k.1)]; rfl)
def Seven (s : Str) (k l z : Option Nat) (p : PtrD) (ok : Bool) (dd m : Option Nat) : Prop :=
 ∃ y0 y1 y2 y3 y4 y5 y6, IsRec s [y0, y1, y2, y3, y4, y5, y6] ∧ numGet y0 = k ∧ numGet y1 = l ∧ numGet y2 = z ∧ ptrIs y3 p.1 p.2.1 p.2.2.1 p.2.2.2.1 p.2.2.2.2 ok ∧ numGet y4 = dd ∧ numGet y5 = m
def sevenN (k l z : Option Nat) (p : PtrD) (dd m : Option Nat) : NodeD := (((k.getD 0 : Nat) : Int), ((l.getD 0 : Nat) : Int), ((z.getD 0 : Nat) : Int), p, ((dd.getD 0 : Nat) : Int), ((m.getD 0 : Nat) : Int))
theorem Seven.only {s : Str} {k l z dd m : Option Nat} {p : PtrD} {ok : Bool} (h : Seven s k l z p ok dd m) {n : NodeD} (hn : IsNode s n) :
 n = sevenN k l z p dd m ∧ k.isSome = true ∧ l.isSome = true ∧ z.isSome = true ∧ ok = true ∧ dd.isSome = true ∧ m.isSome = true := by
 obtain ⟨y0, y1, y2, y3, y4, y5, y6, hr, h0, h1, h2, h3, h4, h5⟩ := h
 obtain ⟨hok, e⟩ := hn
 have hL := hr.inj (e ▸ node_rec hok)
 obtain ⟨a1, a2, a3, a4, a5, a6⟩ := nodeOk_parts hok
 obtain ⟨n1, n2, n3, n4, n5, n6⟩ := n
 dsimp only at *
 unfold nodeL at hL
 simp only [List.cons.injEq, and_true] at hL
 obtain ⟨r0, r1, r2, r3, r4, r5, _⟩ := hL
 subst r0 r1 r2 r3 r4 r5
 obtain ⟨q1, q2, q3, q4, q5, q6⟩ := ptrIs_ptrS (a := n4.1) (b := n4.2.1) (c := n4.2.2.1) (d := n4.2.2.2.1) (l := n4.2.2.2.2) a4 h3
 rw [numGet_numS (by omega)] at h0 h1 h2 h4 h5
 subst h0 h1 h2 h4 h5
 obtain ⟨p1, p2, p3, p4, p5⟩ := p
 obtain ⟨o1, o2, o3, o4, o5⟩ := n4
 dsimp only at *
 subst q1 q2 q3 q4 q5
 refine ⟨?_, rfl, rfl, rfl, q6, rfl, rfl⟩
 unfold sevenN
 simp only [Option.getD_some]
 rw [Int.toNat_of_nonneg (by omega), Int.toNat_of_nonneg (by omega), Int.toNat_of_nonneg (by omega), Int.toNat_of_nonneg (by omega), Int.toNat_of_nonneg (by omega)]
theorem Seven.bad {s : Str} {k l z dd m : Option Nat} {p : PtrD} {ok : Bool} (h : Seven s k l z p ok dd m) (hb : ¬ (k.isSome = true ∧ l.isSome = true ∧ z.isSome = true ∧ ok = true ∧ dd.isSome = true ∧ m.isSome = true)) : nodeGet s = none :=
 nodeGet_no fun n hn => hb (h.only hn).2
theorem Seven.no_text {s : Str} {k l z dd m : Option Nat} {p : PtrD} {ok : Bool} (h : Seven s k l z p ok dd m) (hb : nodeS (sevenN k l z p dd m) ≠ s) : nodeGet s = none :=
 nodeGet_no fun n hn => hb ((h.only hn).1 ▸ hn.2)
theorem Seven.no_ok {s : Str} {k l z dd m : Option Nat} {p : PtrD} {ok : Bool} (h : Seven s k l z p ok dd m) (hb : nodeOkB (sevenN k l z p dd m) = false) : nodeGet s = none :=
 nodeGet_no fun n hn => by rw [← (h.only hn).1, hn.1] at hb; cases hb
theorem Seven.ne {s : Str} {k l z dd m : Option Nat} {p : PtrD} {ok : Bool} (h : Seven s k l z p ok dd m) : s ≠ [] := by
 obtain ⟨y0, y1, y2, y3, y4, y5, y6, hr, _⟩ := h
 rintro rfl
 have := hr.1
 rw [encs_cons] at this
 have h2 := enc1_ne y0
 simp only [List.append_eq_nil_iff] at this
 exact h2 this.1
theorem Seven.yes {s : Str} {k l z dd m : Option Nat} {p : PtrD} {ok : Bool} (h : Seven s k l z p ok dd m) (e : nodeS (sevenN k l z p dd m) = s) : nodeGet s = some (sevenN k l z p dd m) := by
 refine nodeGet_yes ⟨?_, e⟩
 cases hok : nodeOkB (sevenN k l z p dd m) with
 | true => rfl
 | false => rw [nodeS_no hok] at e; exact absurd e.symm h.ne
noncomputable def textP (x : StoreD) (p : PtrD) : ByteArray := (readF x p).getD ByteArray.empty
noncomputable def nodeP (x : StoreD) (p : PtrD) : Option NodeD := if holeP p = true then none else nodeGet (textP x p).data.toList
noncomputable def rowN (x : StoreD) (p : PtrD) : Bool := holeP p || (match nodeGet (textP x p).data.toList with | none => false | some n => (treeF x n.2.2.2).isSome)
noncomputable def tableF (x : StoreD) (t : TreeD) : Option (List (Option NodeD)) :=
 match treeF x t with
 | none => none
 | some l => if (l.take t.2.2.toNat).all (rowN x) = true then some ((l.take t.2.2.toNat).map (nodeP x)) else none
theorem tableF_tree {x : StoreD} {t : TreeD} (h : treeF x t = none) : tableF x t = none := by unfold tableF; rw [h]
theorem tableF_bad {x : StoreD} {t : TreeD} {l : List PtrD} {k : Nat} {p : PtrD} (h : treeF x t = some l) (hp : (l.take t.2.2.toNat)[k]? = some p) (hb : rowN x p = false) : tableF x t = none := by
 unfold tableF; rw [h]
 simp only
 rw [if_neg]
 intro ha
 rw [List.all_eq_true] at ha
 rw [ha p (List.mem_of_getElem? hp)] at hb
 cases hb
theorem tableF_yes {x : StoreD} {t : TreeD} {l : List PtrD} (h : treeF x t = some l) (ha : ∀ (k : Nat) (p : PtrD), (l.take t.2.2.toNat)[k]? = some p → rowN x p = true) : tableF x t = some ((l.take t.2.2.toNat).map (nodeP x)) := by
 unfold tableF; rw [h]
 simp only
 rw [if_pos]
 rw [List.all_eq_true]
 intro p hp
 obtain ⟨k, hk, rfl⟩ := List.mem_iff_getElem.1 hp
 exact ha k _ (List.getElem?_eq_getElem hk)
theorem tableF_some {x : StoreD} {t : TreeD} {L : List (Option NodeD)} (h : tableF x t = some L) : ∃ l, treeF x t = some l ∧ L = (l.take t.2.2.toNat).map (nodeP x) ∧ (∀ p ∈ l.take t.2.2.toNat, rowN x p = true) ∧ L.length = t.2.2.toNat ∧ L.length ≤ 16 := by
 unfold tableF at h
 split at h
 · cases h
 rename_i l hl
 split at h
 · rename_i ha
   injection h with h
   subst h
   rw [List.all_eq_true] at ha
   obtain ⟨_, _, _, _, h1, h2⟩ := treeF_some hl
   refine ⟨l, hl, rfl, ha, ?_, ?_⟩ <;> rw [List.length_map, List.length_take] <;> omega
 cases h
theorem rowN_hole {x : StoreD} {p : PtrD} (h : holeP p = true) : rowN x p = true := by unfold rowN; rw [h]; rfl
theorem rowN_node {x : StoreD} {p : PtrD} (h : holeP p = false) (k : nodeGet (textP x p).data.toList = none) : rowN x p = false := by unfold rowN; rw [h, k]; rfl
theorem rowN_tree {x : StoreD} {p : PtrD} {n : NodeD} (h : holeP p = false) (k : nodeGet (textP x p).data.toList = some n) : rowN x p = (treeF x n.2.2.2).isSome := by unfold rowN; rw [h, k]; rfl
theorem nodeP_hole {x : StoreD} {p : PtrD} (h : holeP p = true) : nodeP x p = none := by unfold nodeP; rw [if_pos h]
theorem nodeP_some {x : StoreD} {p : PtrD} (h : holeP p = false) : nodeP x p = nodeGet (textP x p).data.toList := by unfold nodeP; rw [if_neg (by simp [h])]
theorem nodeP_text {x : StoreD} {p : PtrD} (hr : (readF x p).isSome = true) (hn : rowN x p = true) : (textP x p).size = 0 ↔ nodeP x p = none := by
 cases h : holeP p with
 | true => rw [nodeP_hole h]; unfold textP; rw [readF_hole h]; exact ⟨fun _ => rfl, fun _ => rfl⟩
 | false =>
   obtain ⟨s, hs⟩ := Option.isSome_iff_exists.1 hr
   obtain ⟨h1, _, _⟩ := readF_size h hs
   unfold textP
   rw [hs]
   refine ⟨fun e => by have : s.size = 0 := e; omega, fun e => ?_⟩
   rw [nodeP_some h] at e
   rw [rowN_node h e] at hn
   cases hn
def freeF (L : List (Option NodeD)) : Int := match (List.range 16).find? (fun k => (L.getD k none).isNone) with | some k => (k : Int) | none => -1
def numsF (L : List (Option NodeD)) : List Int := ((List.range L.length).filter (fun k : Nat => (L.getD k none).isSome)).map (fun k : Nat => (k : Int))
def getF (L : List (Option NodeD)) (k : Int) : Option NodeD := if 0 ≤ k ∧ k ≤ (L.length : Int) - 1 then L.getD k.toNat none else none
theorem getF_out {L : List (Option NodeD)} {k : Int} (h : ¬ (0 ≤ k ∧ k ≤ (L.length : Int) - 1)) : getF L k = none := by unfold getF; rw [if_neg h]
theorem getF_in {L : List (Option NodeD)} {k : Nat} {o : Option NodeD} (h : L[k]? = some o) : getF L (k : Int) = o := by
 have := (List.getElem?_eq_some_iff.1 h).1
 unfold getF
 rw [if_pos (by omega), Int.toNat_natCast, List.getD_eq_getElem?_getD, h]; rfl
theorem find_range {f : Nat → Bool} {k n : Nat} (hk : k < n) (h : ∀ j, j < k → f j = false) (hf : f k = true) : (List.range n).find? f = some k := by
 rw [List.find?_range_eq_some]
 exact ⟨hf, List.mem_range.2 hk, fun j hj => by rw [h j hj]; rfl⟩
theorem freeF_yes {L : List (Option NodeD)} {k : Nat} (hk : k < 16) (h : ∀ j : Nat, j < k → (getF L (j : Int)).isSome = true) (hf : getF L (k : Int) = none) : freeF L = (k : Int) := by
 have hg : ∀ j : Nat, (getF L (j : Int)) = L.getD j none := by
  intro j
  unfold getF
  split
  · rw [Int.toNat_natCast]
  rw [List.getD_eq_getElem?_getD, List.getElem?_eq_none (by omega)]; rfl
 unfold freeF
 rw [find_range (k := k) hk (fun j hj => by have := h j hj; rw [hg] at this; cases hx : L.getD j none with | none => rw [hx] at this; cases this | some o => rfl) (by rw [← hg, hf]; rfl)]
theorem freeF_no {L : List (Option NodeD)} (h : ∀ j : Nat, j < 16 → (getF L (j : Int)).isSome = true) : freeF L = -1 := by
 have hg : ∀ j : Nat, (getF L (j : Int)) = L.getD j none := by
  intro j
  unfold getF
  split
  · rw [Int.toNat_natCast]
  rw [List.getD_eq_getElem?_getD, List.getElem?_eq_none (by omega)]; rfl
 unfold freeF
 have : (List.range 16).find? (fun k => (L.getD k none).isNone) = none := by
  rw [List.find?_eq_none]
  intro j hj
  have := h j (List.mem_range.1 hj)
  rw [hg] at this
  cases hx : L.getD j none with
  | none => rw [hx] at this; cases this
  | some o => simp
 rw [this]
def numsTo (L : List (Option NodeD)) (n : Nat) : List Int := ((List.range n).filter (fun k : Nat => (L.getD k none).isSome)).map (fun k : Nat => (k : Int))
theorem numsTo_some {L : List (Option NodeD)} {n : Nat} {o : NodeD} (h : L[n]? = some (some o)) : numsTo L (n + 1) = numsTo L n ++ [(n : Int)] := by
 unfold numsTo
 have : (L.getD n none).isSome = true := by rw [List.getD_eq_getElem?_getD, h]; rfl
 rw [List.range_succ, List.filter_append, List.filter_cons_of_pos (p := fun k : Nat => (L.getD k none).isSome) this, List.map_append]
 rfl
theorem numsTo_none {L : List (Option NodeD)} {n : Nat} (h : L[n]? = some none) : numsTo L (n + 1) = numsTo L n := by
 unfold numsTo
 have : ¬ (L.getD n none).isSome = true := by rw [List.getD_eq_getElem?_getD, h]; simp
 rw [List.range_succ, List.filter_append, List.filter_cons_of_neg (p := fun k : Nat => (L.getD k none).isSome) this]
 simp
theorem numsF_all (L : List (Option NodeD)) : numsF L = numsTo L L.length := rfl
end Go.Proofs.YtjnhiiaejeaikaaGreatDoor
