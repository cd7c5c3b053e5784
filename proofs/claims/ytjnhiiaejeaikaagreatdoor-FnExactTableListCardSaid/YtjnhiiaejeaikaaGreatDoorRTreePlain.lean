/- Indirect blocks and trees of a store: the plain mathematics. No condition. -/
import Derived.Test.YtjnhiiaejeaikaaGreatDoorRStorePlain
import Derived.Test.YtjnhiiaejeaikaaGreatDoorRFieldsGet
set_option linter.unnecessarySimpa false
set_option linter.unusedSimpArgs false
set_option linter.unusedVariables false
namespace Go.Proofs.YtjnhiiaejeaikaaGreatDoor
open Go Go.Lib
def ptrT (p : PtrD) : Str := ptrS p.1 p.2.1 p.2.2.1 p.2.2.2.1 p.2.2.2.2
theorem ptrT_one {p q : PtrD} (h : okP p = true) (k : okP q = true) (e : ptrT p = ptrT q) : p = q := by
 obtain ⟨a, b, s, m, l⟩ := p
 obtain ⟨a', b', s', m', l'⟩ := q
 obtain ⟨r1, r2, r3, r4, r5⟩ := ptr_one (s := ptrT (a', b', s', m', l')) h e k rfl
 subst r1 r2 r3 r4 r5; rfl
def IsFan (s : Str) (ps : List PtrD) : Prop := ps.length = 4 ∧ (∀ p ∈ ps, okP p = true) ∧ (∃ p ∈ ps, holeP p = false) ∧ splitC s = ps.map ptrT
theorem map_one : ∀ {ps qs : List PtrD}, (∀ p ∈ ps, okP p = true) → (∀ q ∈ qs, okP q = true) → ps.map ptrT = qs.map ptrT → ps = qs
 | [], [], _, _, _ => rfl
 | [], q :: qs, _, _, e => by simp at e
 | p :: ps, [], _, _, e => by simp at e
 | p :: ps, q :: qs, h, k, e => by
   simp only [List.map_cons, List.cons.injEq] at e
   rw [ptrT_one (h p (by simp)) (k q (by simp)) e.1, map_one (fun x hx => h x (by simp [hx])) (fun x hx => k x (by simp [hx])) e.2]
theorem IsFan.one {s : Str} {ps qs : List PtrD} (h : IsFan s ps) (k : IsFan s qs) : ps = qs := map_one h.2.1 k.2.1 (h.2.2.2.symm.trans k.2.2.2)
open Classical in
noncomputable def fanGet (s : Str) : Option (List PtrD) := if h : ∃ ps, IsFan s ps then some h.choose else none
theorem fanGet_some {s : Str} {ps : List PtrD} (h : fanGet s = some ps) : IsFan s ps := by
 unfold fanGet at h
 split at h
 · rename_i hx
   injection h with h
   exact h ▸ hx.choose_spec
 cases h
theorem fanGet_yes {s : Str} {ps : List PtrD} (h : IsFan s ps) : fanGet s = some ps := by
 have hx : ∃ ps, IsFan s ps := ⟨ps, h⟩
 unfold fanGet
 rw [dif_pos hx, hx.choose_spec.one h]
theorem fanGet_no {s : Str} (h : ∀ ps, ¬ IsFan s ps) : fanGet s = none := by
 unfold fanGet
 rw [dif_neg (fun ⟨ps, k⟩ => h ps k)]
theorem fan_len {s : Str} (h : (splitC s).length ≠ 4) : fanGet s = none := fanGet_no fun ps k => h (by rw [k.2.2.2, List.length_map]; exact k.1)
theorem fan_bad {s : Str} {k : Nat} {y : Str} (hy : (splitC s)[k]? = some y) (h : ∀ p, okP p = true → ptrT p ≠ y) : fanGet s = none := fanGet_no fun ps f => by
 rw [f.2.2.2, List.getElem?_map] at hy
 cases hp : ps[k]? with
 | none => rw [hp] at hy; cases hy
 | some p =>
   rw [hp] at hy
   injection hy with hy
   exact h p (f.2.1 p (List.mem_of_getElem? hp)) hy
theorem fan_holes {s : Str} {ps : List PtrD} (h : splitC s = ps.map ptrT) (hok : ∀ p ∈ ps, okP p = true) (hh : ∀ p ∈ ps, holeP p = true) : fanGet s = none := fanGet_no fun qs f => by
 have e := map_one hok f.2.1 (h.symm.trans f.2.2.2)
 subst e
 obtain ⟨p, hp, hn⟩ := f.2.2.1
 rw [hh p hp] at hn
 cases hn
theorem fan_join {s : Str} {ps : List PtrD} (h : splitC s = ps.map ptrT) : join (ps.map ptrT) [44] = s := by rw [← h]; exact join_splitC s
def fanPut (ps : List PtrD) : Option Str := if ps.length = 4 ∧ ps.all okP = true ∧ ps.all holeP = false then some (join (ps.map ptrT) [44]) else none
def fitsP (p : PtrD) (s : ByteArray) : Bool := okP p && (!holeP p && (decide (p.2.2.1 = (s.size : Int)) && decide (p.2.2.2.1 = (sumL s.data.toList : Nat))))
def rowP (x : StoreD) (p : PtrD) : ByteArray := x.1.getD p.1.toNat ByteArray.empty
def readF (x : StoreD) (p : PtrD) : Option ByteArray := if holeP p = true then some ByteArray.empty else if fitsP p (rowP x p) = true then some (rowP x p) else none
def zeroP : PtrD := (0, 0, 0, 0, 0)
theorem hole_zero {p : PtrD} (h : holeP p = true) : p = zeroP := by
 obtain ⟨a, b, s, m, l⟩ := p
 unfold holeP ptrHole at h
 simp at h
 obtain ⟨rfl, rfl, rfl, rfl, rfl⟩ := h
 rfl
theorem okP_parts {p : PtrD} (h : okP p = true) (k : holeP p = false) : (8 ≤ p.1 ∧ p.1 ≤ 63) ∧ (1 ≤ p.2.1 ∧ p.2.1 ≤ 900) ∧ (1 ≤ p.2.2.1 ∧ p.2.2.1 ≤ 128) ∧ (0 ≤ p.2.2.2.1 ∧ p.2.2.2.1 ≤ 99460728) ∧ (0 ≤ p.2.2.2.2 ∧ p.2.2.2.2 ≤ 2) := ptr_bounds h k
theorem readF_hole {x : StoreD} {p : PtrD} (h : holeP p = true) : readF x p = some ByteArray.empty := by unfold readF; rw [if_pos h]
theorem readF_yes {x : StoreD} {p : PtrD} (h : holeP p = false) (k : fitsP p (rowP x p) = true) : readF x p = some (rowP x p) := by unfold readF; rw [if_neg (by simp [h]), if_pos k]
theorem readF_no {x : StoreD} {p : PtrD} (h : holeP p = false) (k : fitsP p (rowP x p) = false) : readF x p = none := by unfold readF; rw [if_neg (by simp [h]), if_neg (by simp [k])]
theorem readF_size {x : StoreD} {p : PtrD} {s : ByteArray} (h : holeP p = false) (k : readF x p = some s) : 1 ≤ s.size ∧ s.size ≤ 128 ∧ okP p = true := by
 unfold readF at k
 rw [if_neg (by simp [h])] at k
 split at k
 · rename_i hf
   injection k with k
   subst k
   unfold fitsP at hf
   simp only [Bool.and_eq_true, decide_eq_true_eq] at hf
   have := (okP_parts hf.1 h).2.2.1
   exact ⟨by omega, by omega, hf.1⟩
 cases k
theorem readF_small {x : StoreD} {p : PtrD} {s : ByteArray} (k : readF x p = some s) : s.size ≤ 128 := by
 cases h : holeP p with
 | true => rw [readF_hole h] at k; injection k with k; subst k; exact Nat.zero_le _
 | false => exact (readF_size h k).2.1
def holes (n : Nat) : List PtrD := List.replicate n zeroP
noncomputable def belowF (x : StoreD) (lev : Int) (p : PtrD) : Option (List PtrD) :=
 if holeP p = true then some (holes 4) else
 match readF x p with
 | none => none
 | some s => if p.2.2.2.2 = lev then (match fanGet s.data.toList with | none => none | some qs => if qs.all (fun q => decide (q.2.1 ≤ p.2.1)) = true then some qs else none) else none
theorem belowF_hole {x : StoreD} {lev : Int} {p : PtrD} (h : holeP p = true) : belowF x lev p = some (holes 4) := by unfold belowF; rw [if_pos h]
theorem belowF_read {x : StoreD} {lev : Int} {p : PtrD} (h : holeP p = false) (k : readF x p = none) : belowF x lev p = none := by unfold belowF; rw [if_neg (by simp [h]), k]
theorem belowF_level {x : StoreD} {lev : Int} {p : PtrD} (h : holeP p = false) (k : p.2.2.2.2 ≠ lev) : belowF x lev p = none := by
 unfold belowF; rw [if_neg (by simp [h])]
 split
 · rfl
 rw [if_neg k]
theorem belowF_fan {x : StoreD} {lev : Int} {p : PtrD} {s : ByteArray} (h : holeP p = false) (hs : readF x p = some s) (k : fanGet s.data.toList = none) : belowF x lev p = none := by
 unfold belowF; rw [if_neg (by simp [h]), hs]
 simp only
 rw [k]
 split <;> rfl
theorem belowF_birth {x : StoreD} {lev : Int} {p : PtrD} {s : ByteArray} {qs : List PtrD} (h : holeP p = false) (hs : readF x p = some s) (k : fanGet s.data.toList = some qs) (hb : qs.all (fun q => decide (q.2.1 ≤ p.2.1)) = false) : belowF x lev p = none := by
 unfold belowF; rw [if_neg (by simp [h]), hs]
 simp only
 rw [k]
 simp only
 rw [hb]
 split <;> rfl
theorem belowF_yes {x : StoreD} {lev : Int} {p : PtrD} {s : ByteArray} {qs : List PtrD} (h : holeP p = false) (hs : readF x p = some s) (hl : p.2.2.2.2 = lev) (k : fanGet s.data.toList = some qs) (hb : qs.all (fun q => decide (q.2.1 ≤ p.2.1)) = true) : belowF x lev p = some qs := by
 unfold belowF; rw [if_neg (by simp [h]), hs]
 simp only
 rw [k]
 simp only
 rw [hb, if_pos hl, if_pos rfl]
theorem belowF_parts {x : StoreD} {lev : Int} {p : PtrD} {qs : List PtrD} (h : belowF x lev p = some qs) : qs.length = 4 ∧ (∀ q ∈ qs, okP q = true) ∧ ∀ q ∈ qs, q.2.1 ≤ p.2.1 ∨ holeP q = true := by
 cases hh : holeP p with
 | true =>
   rw [belowF_hole hh] at h
   injection h with h
   subst h
   refine ⟨by simp [holes], fun q hq => ?_, fun q hq => .inr ?_⟩ <;> (obtain rfl := List.eq_of_mem_replicate hq; rfl)
 | false =>
   unfold belowF at h
   rw [if_neg (by simp [hh])] at h
   split at h
   · cases h
   split at h
   · split at h
     · cases h
     rename_i qs' hf
     split at h
     · rename_i hb
       injection h with h
       subst h
       obtain ⟨f1, f2, _, _⟩ := fanGet_some hf
       rw [List.all_eq_true] at hb
       exact ⟨f1, f2, fun q hq => .inl (by simpa using hb q hq)⟩
     cases h
   cases h
noncomputable def belowS (x : StoreD) (lev : Int) (p : PtrD) : Option (List PtrD) := if holeP p = true then some (holes 4) else if p.2.1 ≤ x.2.2.1 then belowF x lev p else none
theorem belowS_eq {x : StoreD} {lev : Int} {p : PtrD} (h : p.2.1 ≤ x.2.2.1 ∨ holeP p = true) : belowS x lev p = belowF x lev p := by
 unfold belowS
 cases hh : holeP p with
 | true => rw [if_pos rfl, belowF_hole hh]
 | false => rw [if_neg (by simp), if_pos (by rcases h with h | h; exact h; rw [hh] at h; cases h)]
theorem belowS_hole {x : StoreD} {lev : Int} {p : PtrD} (h : holeP p = true) : belowS x lev p = some (holes 4) := by unfold belowS; rw [if_pos h]
theorem belowS_txg {x : StoreD} {lev : Int} {p : PtrD} (h : holeP p = false) (k : ¬ p.2.1 ≤ x.2.2.1) : belowS x lev p = none := by unfold belowS; rw [if_neg (by simp [h]), if_neg k]
theorem belowS_ok {x : StoreD} {lev : Int} {p : PtrD} (h : okP p = false) : belowS x lev p = none := by
 have hh : holeP p = false := by
  cases hh : holeP p with
  | false => rfl
  | true => rw [hole_zero hh] at h; cases h
 have : readF x p = none := readF_no hh (by unfold fitsP; rw [h]; rfl)
 unfold belowS
 rw [if_neg (by simp [hh])]
 split
 · exact belowF_read hh this
 rfl
def lvlG (f : PtrD → Option (List PtrD)) : List PtrD → Option (List PtrD)
 | [] => some []
 | p :: r => (f p).bind fun qs => (lvlG f r).map (qs ++ ·)
theorem lvlG_none {f : PtrD → Option (List PtrD)} : ∀ {l : List PtrD} {p : PtrD}, p ∈ l → f p = none → lvlG f l = none
 | [], p, h, _ => by cases h
 | q :: r, p, h, k => by
   unfold lvlG
   rcases List.mem_cons.1 h with rfl | h
   · rw [k]; rfl
   rw [lvlG_none h k]
   cases f q <;> rfl
theorem lvlG_snoc {f : PtrD → Option (List PtrD)} : ∀ {l : List PtrD} {p : PtrD} {next qs : List PtrD}, lvlG f l = some next → f p = some qs → lvlG f (l ++ [p]) = some (next ++ qs)
 | [], p, next, qs, h, k => by
   injection h with h
   subst h
   simp [lvlG, k]
 | q :: r, p, next, qs, h, k => by
   unfold lvlG at h
   cases hq : f q with
   | none => rw [hq] at h; cases h
   | some a =>
     rw [hq] at h
     cases hr : lvlG f r with
     | none => rw [hr] at h; cases h
     | some b =>
       rw [hr] at h
       simp at h
       subst h
       rw [List.cons_append]
       unfold lvlG
       rw [hq, lvlG_snoc hr k]
       simp
theorem lvlG_step {f : PtrD → Option (List PtrD)} {l : List PtrD} {k : Nat} {p : PtrD} {next qs : List PtrD} (hp : l[k]? = some p) (h : lvlG f (l.take k) = some next) (hq : f p = some qs) : lvlG f (l.take (k + 1)) = some (next ++ qs) := by
 rw [List.take_add_one, hp]
 exact lvlG_snoc h hq
theorem lvlG_parts {f : PtrD → Option (List PtrD)} {Q : PtrD → Prop} : ∀ {l next : List PtrD}, lvlG f l = some next → (∀ p ∈ l, ∀ qs, f p = some qs → qs.length = 4 ∧ ∀ q ∈ qs, Q q) → next.length = 4 * l.length ∧ ∀ q ∈ next, Q q
 | [], next, h, _ => by injection h with h; subst h; simp
 | p :: r, next, h, hf => by
   unfold lvlG at h
   cases hq : f p with
   | none => rw [hq] at h; cases h
   | some a =>
     rw [hq] at h
     cases hr : lvlG f r with
     | none => rw [hr] at h; cases h
     | some b =>
       rw [hr] at h
       simp at h
       subst h
       obtain ⟨h1, h2⟩ := hf p (by simp) a hq
       obtain ⟨h3, h4⟩ := lvlG_parts hr (fun q hq => hf q (by simp [hq]))
       refine ⟨by simp; omega, fun q hq => ?_⟩
       rcases List.mem_append.1 hq with hq | hq
       · exact h2 q hq
       exact h4 q hq
theorem lvlG_congr {f g : PtrD → Option (List PtrD)} : ∀ {l : List PtrD}, (∀ p ∈ l, f p = g p) → lvlG f l = lvlG g l
 | [], _ => rfl
 | p :: r, h => by unfold lvlG; rw [h p (by simp), lvlG_congr (fun q hq => h q (by simp [hq]))]
def leavesG (fb : Int → PtrD → Option (List PtrD)) : Nat → List PtrD → Option (List PtrD)
 | 0, l => some l
 | d + 1, l => (lvlG (fb ((d + 1 : Nat) : Int)) l).bind (leavesG fb d)
theorem leavesG_none {fb : Int → PtrD → Option (List PtrD)} {d : Nat} {l : List PtrD} (h : lvlG (fb ((d + 1 : Nat) : Int)) l = none) : leavesG fb (d + 1) l = none := by
 show (lvlG _ l).bind _ = none; rw [h]; rfl
theorem leavesG_some {fb : Int → PtrD → Option (List PtrD)} {d : Nat} {l next : List PtrD} (h : lvlG (fb ((d + 1 : Nat) : Int)) l = some next) : leavesG fb (d + 1) l = leavesG fb d next := by
 show (lvlG _ l).bind _ = _; rw [h]; rfl
def OldP (x : StoreD) (p : PtrD) : Prop := okP p = true ∧ (p.2.1 ≤ x.2.2.1 ∨ holeP p = true)
theorem belowF_old {x : StoreD} {lev : Int} {p : PtrD} {qs : List PtrD} (h0 : OldP x p) (h : belowF x lev p = some qs) : qs.length = 4 ∧ ∀ q ∈ qs, OldP x q := by
 obtain ⟨h1, h2, h3⟩ := belowF_parts h
 refine ⟨h1, fun q hq => ⟨h2 q hq, ?_⟩⟩
 rcases h3 q hq with h' | h'
 · rcases h0.2 with k | k
   · exact .inl (Int.le_trans h' k)
   rw [belowF_hole k] at h
   injection h with e
   subst e
   obtain rfl := List.eq_of_mem_replicate hq
   exact .inr rfl
 exact .inr h'
theorem leavesG_old {x : StoreD} : ∀ (d : Nat) {l next : List PtrD}, (∀ p ∈ l, OldP x p) → leavesG (belowF x) d l = some next → next.length = 4 ^ d * l.length ∧ ∀ q ∈ next, OldP x q
 | 0, l, next, h, e => by
   injection e with e
   subst e
   exact ⟨by simp, h⟩
 | d + 1, l, next, h, e => by
   cases hl : lvlG (belowF x ((d + 1 : Nat) : Int)) l with
   | none => rw [leavesG_none hl] at e; cases e
   | some m =>
     rw [leavesG_some hl] at e
     obtain ⟨h1, h2⟩ := lvlG_parts (Q := OldP x) hl (fun p hp qs hq => belowF_old (h p hp) hq)
     obtain ⟨h3, h4⟩ := leavesG_old d h2 e
     refine ⟨?_, h4⟩
     rw [h3, h1, Nat.pow_succ, Nat.mul_assoc]
theorem leavesG_same {x : StoreD} : ∀ (d : Nat) {l : List PtrD}, (∀ p ∈ l, OldP x p) → leavesG (belowS x) d l = leavesG (belowF x) d l
 | 0, l, h => rfl
 | d + 1, l, h => by
   have hc : lvlG (belowS x ((d + 1 : Nat) : Int)) l = lvlG (belowF x ((d + 1 : Nat) : Int)) l := lvlG_congr (fun p hp => belowS_eq (h p hp).2)
   cases hl : lvlG (belowF x ((d + 1 : Nat) : Int)) l with
   | none => rw [leavesG_none hl, leavesG_none (hc.trans hl)]
   | some m =>
     rw [leavesG_some hl, leavesG_some (hc.trans hl)]
     exact leavesG_same d (lvlG_parts (Q := OldP x) hl (fun p hp qs hq => belowF_old (h p hp) hq)).2
def depthF (n : Int) : Int := if n ≤ 1 then 0 else if n ≤ 4 then 1 else 2
theorem depthF_nat (n : Int) : ∃ d : Nat, depthF n = (d : Int) ∧ d ≤ 2 := by
 unfold depthF
 split
 · exact ⟨0, rfl, by omega⟩
 split
 · exact ⟨1, rfl, by omega⟩
 exact ⟨2, rfl, by omega⟩
def endB (x : StoreD) (many : Int) (i : Nat) (p : PtrD) : Bool := (readF x p).isSome && (decide (p.2.2.2.2 = 0) && (decide ((i : Int) < many) || holeP p))
def headT (x : StoreD) (t : TreeD) : Bool := inB t.2.2 0 16 && (decide (t.2.1 = depthF t.2.2) && (okP t.1 && decide (t.1.2.1 ≤ x.2.2.1)))
open Classical in
noncomputable def treeF (x : StoreD) (t : TreeD) : Option (List PtrD) :=
 if headT x t = true then
  match leavesG (belowF x) t.2.1.toNat [t.1] with
  | none => none
  | some l => if ∀ i p, l[i]? = some p → endB x t.2.2 i p = true then some l else none
 else none
theorem treeF_head {x : StoreD} {t : TreeD} (h : headT x t = false) : treeF x t = none := by unfold treeF; rw [if_neg (by simp [h])]
theorem treeF_leaves {x : StoreD} {t : TreeD} (h : leavesG (belowF x) t.2.1.toNat [t.1] = none) : treeF x t = none := by unfold treeF; rw [h]; split <;> rfl
theorem treeF_end {x : StoreD} {t : TreeD} {l : List PtrD} {i : Nat} {p : PtrD} (h : leavesG (belowF x) t.2.1.toNat [t.1] = some l) (hp : l[i]? = some p) (k : endB x t.2.2 i p = false) : treeF x t = none := by
 unfold treeF; rw [h]
 simp only
 have hn : ¬ ∀ i p, l[i]? = some p → endB x t.2.2 i p = true := fun hx => by rw [hx i p hp] at k; cases k
 rw [if_neg hn]
 split <;> rfl
theorem treeF_yes {x : StoreD} {t : TreeD} {l : List PtrD} (h0 : headT x t = true) (h : leavesG (belowF x) t.2.1.toNat [t.1] = some l) (k : ∀ i p, l[i]? = some p → endB x t.2.2 i p = true) : treeF x t = some l := by
 unfold treeF; rw [if_pos h0, h]
 simp only
 rw [if_pos k]
theorem headT_parts {x : StoreD} {t : TreeD} (h : headT x t = true) : (0 ≤ t.2.2 ∧ t.2.2 ≤ 16) ∧ t.2.1 = depthF t.2.2 ∧ okP t.1 = true ∧ t.1.2.1 ≤ x.2.2.1 := by
 unfold headT at h
 simp only [Bool.and_eq_true, inB_iff, decide_eq_true_eq] at h
 exact h
theorem treeF_some {x : StoreD} {t : TreeD} {l : List PtrD} (h : treeF x t = some l) : headT x t = true ∧ leavesG (belowF x) t.2.1.toNat [t.1] = some l ∧ (∀ i p, l[i]? = some p → endB x t.2.2 i p = true) ∧ (∀ p ∈ l, OldP x p) ∧ t.2.2.toNat ≤ l.length ∧ l.length ≤ 16 := by
 unfold treeF at h
 split at h
 · rename_i h0
   split at h
   · cases h
   rename_i l' hl
   split at h
   · rename_i hk
     injection h with h
     subst h
     obtain ⟨h1, h2, h3, h4⟩ := headT_parts h0
     obtain ⟨h5, h6⟩ := leavesG_old (x := x) _ (fun p hp => by rw [List.mem_singleton] at hp; subst hp; exact ⟨h3, .inl h4⟩) hl
     have hd : t.2.2.toNat ≤ 4 ^ t.2.1.toNat ∧ 4 ^ t.2.1.toNat ≤ 16 := by
      rw [h2]
      unfold depthF
      split
      · exact ⟨by show _ ≤ 1; omega, by decide⟩
      split
      · exact ⟨by show _ ≤ 4; omega, by decide⟩
      exact ⟨by show _ ≤ 16; omega, by decide⟩
     rw [List.length_singleton, Nat.mul_one] at h5
     exact ⟨h0, hl, hk, h6, by omega, by omega⟩
   cases h
 cases h
def endS (x : StoreD) (many : Int) (i : Nat) (p : PtrD) : Bool := holeP p || ((readF x p).isSome && (decide (p.2.2.2.2 = 0) && (decide (p.2.1 ≤ x.2.2.1) && decide ((i : Int) < many))))
def headS (t : TreeD) : Bool := inB t.2.2 0 16 && (decide (t.2.1 = depthF t.2.2) && okP t.1)
theorem spTree_head {x : StoreD} {t : TreeD} (h : headS t = false) : (treeF x t).isSome = false := by
 rw [treeF_head (by unfold headT; unfold headS at h; cases h1 : inB t.2.2 0 16 <;> cases h2 : decide (t.2.1 = depthF t.2.2) <;> cases h3 : okP t.1 <;> simp_all)]
 rfl
theorem old_root {x : StoreD} {t : TreeD} (h : headT x t = true) : ∀ p ∈ [t.1], OldP x p := fun p hp => by
 rw [List.mem_singleton] at hp
 subst hp
 exact ⟨(headT_parts h).2.2.1, .inl (headT_parts h).2.2.2⟩
theorem spTree_leaves {x : StoreD} {t : TreeD} (h : leavesG (belowS x) t.2.1.toNat [t.1] = none) : (treeF x t).isSome = false := by
 cases h0 : headT x t with
 | false => rw [treeF_head h0]; rfl
 | true => rw [treeF_leaves (by rw [← leavesG_same _ (old_root h0)]; exact h)]; rfl
theorem endS_old {x : StoreD} {many : Int} {i : Nat} {p : PtrD} (h : OldP x p) : endS x many i p = endB x many i p := by
 unfold endS endB
 cases hh : holeP p with
 | true =>
   rw [readF_hole hh]
   have e := hole_zero hh
   subst e
   simp [zeroP]
 | false =>
   rcases h.2 with k | k
   · simp [k]
   rw [hh] at k; cases k
theorem spTree_end {x : StoreD} {t : TreeD} {l : List PtrD} {i : Nat} {p : PtrD} (h : leavesG (belowS x) t.2.1.toNat [t.1] = some l) (hp : l[i]? = some p) (k : endS x t.2.2 i p = false) : (treeF x t).isSome = false := by
 cases h0 : headT x t with
 | false => rw [treeF_head h0]; rfl
 | true =>
   rw [leavesG_same _ (old_root h0)] at h
   have ho := (leavesG_old _ (old_root h0) h).2 p (List.mem_of_getElem? hp)
   rw [treeF_end h hp (by rw [← endS_old ho]; exact k)]; rfl
theorem spTree_yes {x : StoreD} {t : TreeD} {l : List PtrD} (hx : 0 ≤ x.2.2.1) (h0 : headS t = true) (h : leavesG (belowS x) t.2.1.toNat [t.1] = some l) (k : ∀ i p, l[i]? = some p → endS x t.2.2 i p = true) : treeF x t = some l := by
 have hb : t.1.2.1 ≤ x.2.2.1 := by
  cases hh : holeP t.1 with
  | true => rw [hole_zero hh]; exact hx
  | false =>
    obtain ⟨d, hd, h2⟩ := depthF_nat t.2.2
    unfold headS at h0
    simp only [Bool.and_eq_true, decide_eq_true_eq] at h0
    rw [h0.2.1, hd, Int.toNat_natCast] at h
    match d, h with
    | 0, h =>
      injection h with h
      subst h
      have := k 0 t.1 rfl
      unfold endS at this
      rw [hh] at this
      simp only [Bool.false_or, Bool.and_eq_true, decide_eq_true_eq] at this
      exact this.2.2.1
    | d + 1, h =>
      apply Decidable.byContradiction
      intro hn
      rw [leavesG_none (lvlG_none (List.mem_singleton.2 rfl) (belowS_txg hh hn))] at h
      cases h
 have h1 : headT x t = true := by
  unfold headT; unfold headS at h0
  simp only [Bool.and_eq_true, decide_eq_true_eq] at h0 ⊢
  exact ⟨h0.1, h0.2.1, h0.2.2, hb⟩
 rw [leavesG_same _ (old_root h1)] at h
 exact treeF_yes h1 h fun i p hp => by
  rw [← endS_old ((leavesG_old _ (old_root h1) h).2 p (List.mem_of_getElem? hp))]
  exact k i p hp
end Go.Proofs.YtjnhiiaejeaikaaGreatDoor
