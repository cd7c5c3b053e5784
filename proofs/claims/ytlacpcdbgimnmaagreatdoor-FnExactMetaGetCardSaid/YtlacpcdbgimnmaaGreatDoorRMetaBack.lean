/- The text of what is kept of a bay, read back: the plain mathematics. No condition. -/
import Derived.Test.YtlacpcdbgimnmaaGreatDoorRMetaPlain
set_option linter.unnecessarySimpa false
set_option linter.unusedSimpArgs false
set_option linter.unusedVariables false
namespace Go.Proofs.YtlacpcdbgimnmaaGreatDoor
open Go Go.Lib Go.RowKit
theorem recF_rec {fs : List Str} {e : Int} (h : (recF fs e).2 = true) : IsRec (recF fs e).1 fs ∧ RecOk fs e := by
 unfold recF at h ⊢
 split at h
 · rename_i hr
   rw [if_pos hr]
   unfold fieldsF at h ⊢
   split at h
   · rename_i hc
     rw [if_pos hc]
     exact ⟨⟨rfl, hc.1, hc.2⟩, hr⟩
   cases h
 cases h
theorem numS_ne {n : Int} (h : numS n ≠ []) : (numGet (numS n)).isSome = true ∧ (((numGet (numS n)).getD 0 : Nat) : Int) = n := by
 by_cases hn : 0 ≤ n ∧ n ≤ 999999999
 · rw [numS_yes hn, numGet_dec hn]
   exact ⟨rfl, by simp; omega⟩
 exact absurd (numS_no hn) h
theorem RecOk.ne {fs : List Str} {e : Int} (h : RecOk fs e) {j : Nat} {f : Str} (hf : fs[j]? = some f) (hj : (j : Int) ≠ e) : f ≠ [] := fun c => hj (h j f hf c)
def TreeRd (x1 x2 x3 : Str) (t : TreeD) (ok : Bool) : Prop :=
 ∃ o, ptrIs x1 t.1.1 t.1.2.1 t.1.2.2.1 t.1.2.2.2.1 t.1.2.2.2.2 o ∧ t.2.1 = (((numGet x2).getD 0 : Nat) : Int) ∧ t.2.2 = (((numGet x3).getD 0 : Nat) : Int) ∧ ok = (o && (numGet x2).isSome && (numGet x3).isSome)
theorem ptrS_ok {a b s m l : Int} (h : ptrS a b s m l ≠ []) : ptrOkB a b s m l = true := by
 cases hc : ptrOkB a b s m l with
 | true => rfl
 | false => exact absurd (ptrS_no hc) h
theorem tree_read {x1 x2 x3 : Str} {t t' : TreeD} {ok : Bool} (h : TreeRd x1 x2 x3 t ok) (e : treeSD t' = [x1, x2, x3]) (n1 : x1 ≠ []) (n2 : x2 ≠ []) (n3 : x3 ≠ []) : t' = t ∧ ok = true := by
 obtain ⟨⟨a, b, s, m, l⟩, d, n⟩ := t
 obtain ⟨⟨a', b', s', m', l'⟩, d', n'⟩ := t'
 obtain ⟨o, h1, h2, h3, h4⟩ := h
 unfold treeSD treeS at e
 simp only [List.cons.injEq, and_true] at e h1 h2 h3
 obtain ⟨rfl, rfl, rfl⟩ := e
 obtain ⟨r1, r2, r3, r4, r5, r6⟩ := ptrIs_ptrS (ptrS_ok n1) h1
 obtain ⟨s1, s2⟩ := numS_ne n2
 obtain ⟨q1, q2⟩ := numS_ne n3
 subst r1 r2 r3 r4 r5 r6 h2 h3 h4
 rw [s1, q1, s2, q2]
 exact ⟨rfl, rfl⟩
theorem commaD_dec (n : Nat) : (44 : UInt8) ∉ decDigits n := fun h => by have := isDg_iff.1 (dec_digits n 44 h); simp at this
theorem commaD (p : PtrD) : (44 : UInt8) ∉ ptrSD p := by
 obtain ⟨a, b, s, m, l⟩ := p
 unfold ptrSD ptrS
 split
 · split
   · decide
   rw [join5]
   simp only [List.mem_append, List.mem_singleton, not_or]
   have h46 : ¬ (44 : UInt8) = 46 := by decide
   exact ⟨⟨⟨⟨⟨⟨⟨⟨commaD_dec _, h46⟩, commaD_dec _⟩, h46⟩, commaD_dec _⟩, h46⟩, commaD_dec _⟩, h46⟩, commaD_dec _⟩
 simp
theorem goodD_ok {p : PtrD} (h : goodD p = true) : ptrOkB p.1 p.2.1 p.2.2.1 p.2.2.2.1 p.2.2.2.2 = true ∧ ptrHole p.1 p.2.1 p.2.2.1 p.2.2.2.1 p.2.2.2.2 = false := by
 unfold goodD at h
 simpa using h
theorem ptrSD_ne {p : PtrD} (h : goodD p = true) : ptrSD p ≠ [] := by
 obtain ⟨h1, h2⟩ := goodD_ok h
 unfold ptrSD
 rw [ptrS_yes h1 h2, join5]
 simp
theorem goodD_one {p q : PtrD} (h : goodD p = true) (k : goodD q = true) (e : ptrSD p = ptrSD q) : p = q := by
 obtain ⟨a, b, s, m, l⟩ := p
 obtain ⟨a', b', s', m', l'⟩ := q
 obtain ⟨r1, r2, r3, r4, r5⟩ := ptr_one (s := ptrSD (a', b', s', m', l')) (goodD_ok h).1 e (goodD_ok k).1 rfl
 subst r1 r2 r3 r4 r5; rfl
theorem mapD_one : ∀ {ps qs : List PtrD}, ps.all goodD = true → qs.all goodD = true → ps.map ptrSD = qs.map ptrSD → ps = qs
 | [], [], _, _, _ => rfl
 | [], q :: qs, _, _, e => by simp at e
 | p :: ps, [], _, _, e => by simp at e
 | p :: ps, q :: qs, h, k, e => by
   simp only [List.map_cons, List.cons.injEq] at e
   simp only [List.all_cons, Bool.and_eq_true] at h k
   rw [goodD_one h.1 k.1 e.1, mapD_one h.2 k.2 e.2]
theorem dead_parts {ps : List PtrD} {t : Str} (h : deadF ps = (t, true)) : ps.all goodD = true ∧ ((t = [] ∧ ps = []) ∨ (t ≠ [] ∧ splitC t = ps.map ptrSD)) := by
 unfold deadF at h
 split at h
 · rename_i hg
   injection h with h _
   refine ⟨hg, ?_⟩
   cases ps with
   | nil => exact .inl ⟨by rw [← h]; rfl, rfl⟩
   | cons p ps =>
     refine .inr ⟨?_, ?_⟩
     · rw [← h, List.map_cons, join_cons]
       simp only [List.all_cons, Bool.and_eq_true] at hg
       have := ptrSD_ne hg.1
       simp [this]
     rw [← h]
     exact splitC_join _ (by simp) (fun x hx => by obtain ⟨q, _, rfl⟩ := List.mem_map.1 hx; exact commaD q)
 injection h with _ h; cases h
theorem dead_inj {ps qs : List PtrD} {t : Str} (h : deadF ps = (t, true)) (k : deadF qs = (t, true)) : ps = qs := by
 obtain ⟨h1, h2⟩ := dead_parts h
 obtain ⟨k1, k2⟩ := dead_parts k
 rcases h2 with ⟨e, rfl⟩ | ⟨e, h2⟩
 · rcases k2 with ⟨_, rfl⟩ | ⟨e', _⟩
   · rfl
   exact absurd e e'
 rcases k2 with ⟨e', _⟩ | ⟨_, k2⟩
 · exact absurd e' e
 exact mapD_one h1 k1 (h2.symm.trans k2)
def DeadRd (t : Str) (ds : List PtrD) (ok : Bool) : Prop := ∀ ps, deadF ps = (t, true) → ps = ds ∧ ok = true
theorem DeadRd.nil : DeadRd [] [] true := fun ps h => by
 rcases (dead_parts h).2 with ⟨_, rfl⟩ | ⟨e, _⟩
 · exact ⟨rfl, rfl⟩
 exact absurd rfl e
def Pieces (xs : List Str) (k : Nat) (ds : List PtrD) : Prop := ds.length = k ∧ ∀ (j : Nat) (y : Str) (p : PtrD), j < k → xs[j]? = some y → goodD p = true → ptrSD p = y → ds[j]? = some p
theorem Pieces.zero (xs : List Str) : Pieces xs 0 [] := ⟨rfl, fun j y p hj => absurd hj (by omega)⟩
theorem Pieces.step {xs : List Str} {k : Nat} {ds : List PtrD} {y : Str} {a b s m l : Int} {ok : Bool} (h : Pieces xs k ds) (hy : xs[k]? = some y) (hp : ptrIs y a b s m l ok) : Pieces xs (k + 1) (ds ++ [(a, b, s, m, l)]) := by
 refine ⟨by rw [List.length_append, h.1]; rfl, fun j z p hj hz hg ht => ?_⟩
 by_cases hjk : j < k
 · rw [List.getElem?_append_left (by rw [h.1]; exact hjk)]
   exact h.2 j z p hjk hz hg ht
 obtain rfl : j = k := by omega
 rw [hy] at hz; obtain rfl := Option.some.inj hz
 rw [← ht] at hp
 obtain ⟨r1, r2, r3, r4, r5, _⟩ := ptrIs_ptrS (goodD_ok hg).1 hp
 subst r1 r2 r3 r4 r5
 rw [List.getElem?_append_right (by rw [h.1]; exact Nat.le_refl _), h.1]
 simp
theorem Pieces.all {t : Str} {ds : List PtrD} (h : Pieces (splitC t) (splitC t).length ds) (ht : t ≠ []) : DeadRd t ds true := fun ps hd => by
 obtain ⟨h1, h2⟩ := dead_parts hd
 rcases h2 with ⟨e, _⟩ | ⟨_, h2⟩
 · exact absurd e ht
 refine ⟨List.ext_getElem? fun j => ?_, rfl⟩
 have hl : ps.length = ds.length := by rw [h.1, h2, List.length_map]
 by_cases hj : j < ps.length
 · have hp : ps[j]? = some ps[j] := List.getElem?_eq_getElem hj
   have hg : goodD ps[j] = true := by rw [List.all_eq_true] at h1; exact h1 _ (List.getElem_mem hj)
   rw [hp, h.2 j (ptrSD ps[j]) ps[j] (by rw [h2, List.length_map]; exact hj) (by rw [h2, List.getElem?_map, hp]; rfl) hg rfl]
 rw [List.getElem?_eq_none (by omega), List.getElem?_eq_none (by omega)]
theorem dead_bad {t y : Str} {k : Nat} {ds : List PtrD} (ht : t ≠ []) (hy : (splitC t)[k]? = some y) (hn : ∀ p, goodD p = true → ptrSD p ≠ y) : DeadRd t ds false := fun ps hd => by
 obtain ⟨h1, h2⟩ := dead_parts hd
 rcases h2 with ⟨e, _⟩ | ⟨_, h2⟩
 · exact absurd e ht
 rw [h2, List.getElem?_map] at hy
 cases hp : ps[k]? with
 | none => rw [hp] at hy; cases hy
 | some p =>
   rw [hp] at hy
   rw [List.all_eq_true] at h1
   exact absurd (Option.some.inj hy) (hn p (h1 p (List.mem_of_getElem? hp)))
theorem piece_no {y : Str} {a b s m l : Int} (hp : ptrIs y a b s m l false) : ∀ p, goodD p = true → ptrSD p ≠ y := fun p hg => by
 rcases hp with ⟨h, _⟩ | ⟨_, _, h⟩
 · cases h
 exact h _ _ _ _ _ (goodD_ok hg).1
theorem piece_hole {y : Str} {a b s m l : Int} {ok : Bool} (hp : ptrIs y a b s m l ok) (hh : ptrHole a b s m l = true) : ∀ p, goodD p = true → ptrSD p ≠ y := fun p hg e => by
 rw [← e] at hp
 obtain ⟨r1, r2, r3, r4, r5, _⟩ := ptrIs_ptrS (goodD_ok hg).1 hp
 subst r1 r2 r3 r4 r5
 rw [(goodD_ok hg).2] at hh
 cases hh
def SnapRd (t : Str) (x : SnapD) (ok : Bool) : Prop := ∀ x', snapB x' = true → snapT x' = t → x' = x ∧ ok = true
def HeadRd (t : Str) (x : HeadD) (ok : Bool) : Prop := ∀ x', headB x' = true → headT x' = t → x' = x ∧ ok = true
theorem SnapRd.yes {t : Str} {x : SnapD} {ok : Bool} (h : SnapRd t x ok) : SnapRd t x true := fun x' h1 h2 => ⟨(h x' h1 h2).1, rfl⟩
theorem HeadRd.yes {t : Str} {x : HeadD} {ok : Bool} (h : HeadRd t x ok) : HeadRd t x true := fun x' h1 h2 => ⟨(h x' h1 h2).1, rfl⟩
theorem snap_rec {x : SnapD} {t : Str} (h : snapB x = true) (e : snapT x = t) : IsRec t (snapL x) ∧ RecOk (snapL x) 7 ∧ (deadF x.2.2.2.2.2).2 = true ∧ namB x.2.1.data.toList = true := by
 unfold snapB at h
 simp only [Bool.and_eq_true] at h
 obtain ⟨h1, h2⟩ := recF_rec h.2.1
 rw [← e]
 exact ⟨h1, h2, h.1, h.2.2⟩
theorem head_rec {x : HeadD} {t : Str} (h : headB x = true) (e : headT x = t) : IsRec t (headL x) ∧ RecOk (headL x) 5 ∧ (deadF x.2.2.2.1).2 = true ∧ namB x.1.data.toList = true := by
 unfold headB at h
 simp only [Bool.and_eq_true] at h
 obtain ⟨h1, h2⟩ := recF_rec h.2.1
 rw [← e]
 exact ⟨h1, h2, h.1, h.2.2⟩
theorem snap_none {t : Str} (x : SnapD) (ok : Bool) (h : ∀ l, ¬ IsRec t l) : SnapRd t x ok := fun x' h1 h2 => absurd (snap_rec h1 h2).1 (h _)
theorem head_none {t : Str} (x : HeadD) (ok : Bool) (h : ∀ l, ¬ IsRec t l) : HeadRd t x ok := fun x' h1 h2 => absurd (head_rec h1 h2).1 (h _)
theorem snap_len {t : Str} {l : List Str} (x : SnapD) (ok : Bool) (h : IsRec t l) (hl : l.length ≠ 8) : SnapRd t x ok := fun x' h1 h2 => absurd (by rw [h.inj (snap_rec h1 h2).1]; rfl) hl
theorem head_len {t : Str} {l : List Str} (x : HeadD) (ok : Bool) (h : IsRec t l) (hl : l.length ≠ 7) : HeadRd t x ok := fun x' h1 h2 => absurd (by rw [h.inj (head_rec h1 h2).1]; rfl) hl
def rdN (f : Str) : Int := (((numGet f).getD 0 : Nat) : Int)
theorem snap_read {t f0 f1 f2 f3 f4 f5 f6 f7 : Str} {v0 v2 v3 : Int} {tr : TreeD} {ds : List PtrD} {o0 o1 o2 : Bool} (h : IsRec t [f0, f1, f2, f3, f4, f5, f6, f7]) (ho : o0 = ((numGet f0).isSome && (numGet f2).isSome && (numGet f3).isSome)) (hv : o0 = true → v0 = rdN f0 ∧ v2 = rdN f2 ∧ v3 = rdN f3)
 (ht : TreeRd f4 f5 f6 tr o1) (hd : DeadRd f7 ds o2) : SnapRd t (v0, strB f1, v2, v3, tr, ds) (o0 && o1 && o2) := fun x' h1 h2 => by
 obtain ⟨r1, r2, r3, r4⟩ := snap_rec h1 h2
 obtain ⟨i, nm, tx, pv, tr', ds'⟩ := x'
 have e := r1.inj h
 unfold snapL treeSD treeS at e
 simp only [List.cons_append, List.nil_append, List.cons.injEq, and_true] at e r3 r4
 obtain ⟨e0, e1, e2, e3, e4, e5, e6, e7⟩ := e
 have n0 := r2.ne (j := 0) (f := numS i) rfl (by decide)
 have n2 := r2.ne (j := 2) (f := numS tx) rfl (by decide)
 have n3 := r2.ne (j := 3) (f := numS pv) rfl (by decide)
 have n4 := r2.ne (j := 4) rfl (by decide)
 have n5 := r2.ne (j := 5) rfl (by decide)
 have n6 := r2.ne (j := 6) rfl (by decide)
 obtain ⟨a0, b0⟩ := numS_ne n0
 obtain ⟨a2, b2⟩ := numS_ne n2
 obtain ⟨a3, b3⟩ := numS_ne n3
 rw [e0] at a0 b0; rw [e2] at a2 b2; rw [e3] at a3 b3
 rw [a0, a2, a3] at ho
 have ho : o0 = true := ho
 obtain ⟨w0, w2, w3⟩ := hv ho
 obtain ⟨t1, t2⟩ := tree_read ht (t' := tr') (by unfold treeSD treeS; rw [e4, e5, e6]) (fun c => n4 (e4.trans c)) (fun c => n5 (e5.trans c)) (fun c => n6 (e6.trans c))
 obtain ⟨d1, d2⟩ := hd ds' (by rw [← e7, ← r3])
 have hn : nm = strB f1 := by rw [← e1, strB_data]
 subst t1 d1 hn
 rw [w0, w2, w3, ho, t2, d2]
 unfold rdN
 rw [b0, b2, b3]
 exact ⟨rfl, rfl⟩
theorem head_read {t f0 f1 f2 f3 f4 f5 f6 : Str} {v1 v6 : Int} {tr : TreeD} {ds : List PtrD} {o0 o1 o2 : Bool} (h : IsRec t [f0, f1, f2, f3, f4, f5, f6]) (ho : o0 = ((numGet f1).isSome && (numGet f6).isSome)) (hv : o0 = true → v1 = rdN f1 ∧ v6 = rdN f6)
 (ht : TreeRd f2 f3 f4 tr o1) (hd : DeadRd f5 ds o2) : HeadRd t (strB f0, v1, tr, ds, v6) (o0 && o1 && o2) := fun x' h1 h2 => by
 obtain ⟨r1, r2, r3, r4⟩ := head_rec h1 h2
 obtain ⟨nm, pv, tr', ds', qt⟩ := x'
 have e := r1.inj h
 unfold headL treeSD treeS at e
 simp only [List.cons_append, List.nil_append, List.cons.injEq, and_true] at e r3 r4
 obtain ⟨e0, e1, e2, e3, e4, e5, e6⟩ := e
 have n1 := r2.ne (j := 1) (f := numS pv) rfl (by decide)
 have n6 := r2.ne (j := 6) (f := numS qt) rfl (by decide)
 have n2 := r2.ne (j := 2) rfl (by decide)
 have n3 := r2.ne (j := 3) rfl (by decide)
 have n4 := r2.ne (j := 4) rfl (by decide)
 obtain ⟨a1, b1⟩ := numS_ne n1
 obtain ⟨a6, b6⟩ := numS_ne n6
 rw [e1] at a1 b1; rw [e6] at a6 b6
 rw [a1, a6] at ho
 have ho : o0 = true := ho
 obtain ⟨w1, w6⟩ := hv ho
 obtain ⟨t1, t2⟩ := tree_read ht (t' := tr') (by unfold treeSD treeS; rw [e2, e3, e4]) (fun c => n2 (e2.trans c)) (fun c => n3 (e3.trans c)) (fun c => n4 (e4.trans c))
 obtain ⟨d1, d2⟩ := hd ds' (by rw [← e5, ← r3])
 have hn : nm = strB f0 := by rw [← e0, strB_data]
 subst t1 d1 hn
 rw [w1, w6, ho, t2, d2]
 unfold rdN
 rw [b1, b6]
 exact ⟨rfl, rfl⟩
theorem snap_inj {x x' : SnapD} (h : snapB x = true) (h' : snapB x' = true) (e : snapT x = snapT x') : x = x' := by
 obtain ⟨r1, r2, r3, _⟩ := snap_rec h rfl
 obtain ⟨k1, k2, k3, _⟩ := snap_rec h' e.symm
 have e := r1.inj k1
 obtain ⟨i, nm, tx, pv, ⟨⟨a, b, s, m, l⟩, d, n⟩, ds⟩ := x
 obtain ⟨i', nm', tx', pv', ⟨⟨a', b', s', m', l'⟩, d', n'⟩, ds'⟩ := x'
 have n0 := r2.ne (j := 0) (f := numS i) rfl (by decide)
 have n2 := r2.ne (j := 2) (f := numS tx) rfl (by decide)
 have n3 := r2.ne (j := 3) (f := numS pv) rfl (by decide)
 have n4 := r2.ne (j := 4) (f := ptrS a b s m l) rfl (by decide)
 have n5 := r2.ne (j := 5) (f := numS d) rfl (by decide)
 have n6 := r2.ne (j := 6) (f := numS n) rfl (by decide)
 have q4 := k2.ne (j := 4) (f := ptrS a' b' s' m' l') rfl (by decide)
 unfold snapL treeSD treeS at e
 simp only [List.cons_append, List.nil_append, List.cons.injEq, and_true] at e r3 k3
 obtain ⟨e0, e1, e2, e3, e4, e5, e6, e7⟩ := e
 have num : ∀ {x y : Int}, numS x ≠ [] → numS x = numS y → x = y := fun hx he => by
  have h1 := (numS_ne hx).2
  rw [he] at hx h1
  rw [← h1, (numS_ne hx).2]
 have p0 := num n0 e0; have p2 := num n2 e2; have p3 := num n3 e3; have p5 := num n5 e5; have p6 := num n6 e6
 obtain ⟨z1, z2, z3, z4, z5⟩ := ptr_one (ptrS_ok n4) e4 (ptrS_ok q4) rfl
 have hn : nm = nm' := by rw [← strB_data nm, e1, strB_data]
 have hds := dead_inj (t := (deadF ds).1) (ps := ds) (qs := ds') (by rw [← r3]) (by rw [e7, ← k3])
 subst p0 p2 p3 p5 p6 z1 z2 z3 z4 z5 hn hds
 rfl
theorem head_inj {x x' : HeadD} (h : headB x = true) (h' : headB x' = true) (e : headT x = headT x') : x = x' := by
 obtain ⟨r1, r2, r3, _⟩ := head_rec h rfl
 obtain ⟨k1, k2, k3, _⟩ := head_rec h' e.symm
 have e := r1.inj k1
 obtain ⟨nm, pv, ⟨⟨a, b, s, m, l⟩, d, n⟩, ds, qt⟩ := x
 obtain ⟨nm', pv', ⟨⟨a', b', s', m', l'⟩, d', n'⟩, ds', qt'⟩ := x'
 have n1 := r2.ne (j := 1) (f := numS pv) rfl (by decide)
 have n6 := r2.ne (j := 6) (f := numS qt) rfl (by decide)
 have n2 := r2.ne (j := 2) (f := ptrS a b s m l) rfl (by decide)
 have n3 := r2.ne (j := 3) (f := numS d) rfl (by decide)
 have n4 := r2.ne (j := 4) (f := numS n) rfl (by decide)
 have q2 := k2.ne (j := 2) (f := ptrS a' b' s' m' l') rfl (by decide)
 unfold headL treeSD treeS at e
 simp only [List.cons_append, List.nil_append, List.cons.injEq, and_true] at e r3 k3
 obtain ⟨e0, e1, e2, e3, e4, e5, e6⟩ := e
 have num : ∀ {x y : Int}, numS x ≠ [] → numS x = numS y → x = y := fun hx he => by
  have h1 := (numS_ne hx).2
  rw [he] at hx h1
  rw [← h1, (numS_ne hx).2]
 have p1 := num n1 e1; have p6 := num n6 e6; have p3 := num n3 e3; have p4 := num n4 e4
 obtain ⟨z1, z2, z3, z4, z5⟩ := ptr_one (ptrS_ok n2) e2 (ptrS_ok q2) rfl
 have hn : nm = nm' := by rw [← strB_data nm, e0, strB_data]
 have hds := dead_inj (t := (deadF ds).1) (ps := ds) (qs := ds') (by rw [← r3]) (by rw [e5, ← k3])
 subst p1 p6 p3 p4 z1 z2 z3 z4 z5 hn hds
 rfl
theorem meta_rec {m : MetaD} {s : Str} (h : metaF m = (s, true)) : IsRec s (metaL m) ∧ RecOk (metaL m) (-1) ∧ (m.2.1.length ≤ 6 ∧ 1 ≤ m.1.length ∧ m.1.length ≤ 3) ∧ m.2.1.all snapB = true ∧ m.1.all headB = true := by
 unfold metaF at h
 split at h
 · rename_i hc
   have h2 : (recF (metaL m) (-1)).2 = true := by rw [h]
   obtain ⟨r1, r2⟩ := recF_rec h2
   rw [h] at r1
   exact ⟨r1, r2, hc.1, hc.2.1, hc.2.2⟩
 injection h with _ h; cases h
theorem metaL_len (m : MetaD) : (metaL m).length = 4 + m.2.1.length + m.1.length := by unfold metaL metaH; simp; omega
theorem metaL_snap (m : MetaD) {i : Nat} (h : i < m.2.1.length) : (metaL m)[4 + i]? = (m.2.1[i]?).map snapT := by
 unfold metaL
 rw [List.append_assoc, List.getElem?_append_right (by simp [metaH]), List.getElem?_append_left (by simp [metaH]; omega), List.getElem?_map]
 simp [metaH]
theorem metaL_head (m : MetaD) {i : Nat} (h : m.2.1.length ≤ i) : (metaL m)[4 + i]? = (m.1[i - m.2.1.length]?).map headT := by
 unfold metaL
 rw [List.getElem?_append_right (by simp [metaH]; omega), List.getElem?_map]
 congr 2
 simp [metaH]
 omega
theorem metaL_3 (m : MetaD) : (metaL m)[3]? = some (numS (m.2.1.length : Nat)) := rfl
theorem metaL_1 (m : MetaD) : (metaL m)[1]? = some (numS m.2.2.1) := rfl
theorem metaL_2 (m : MetaD) : (metaL m)[2]? = some (bitS m.2.2.2) := rfl
theorem meta_many {m : MetaD} {s : Str} {L : List Str} {f3 : Str} (h : metaF m = (s, true)) (hr : IsRec s L) (h3 : L[3]? = some f3) : numGet f3 = some m.2.1.length := by
 obtain ⟨r1, _, r3, _⟩ := meta_rec h
 rw [hr.inj r1, metaL_3] at h3
 obtain rfl := Option.some.inj h3
 rw [numS_yes (by omega), numGet_dec (by omega)]
 simp
theorem meta_next {m : MetaD} {s : Str} {L : List Str} {f1 : Str} (h : metaF m = (s, true)) (hr : IsRec s L) (h1 : L[1]? = some f1) : (numGet f1).isSome = true ∧ rdN f1 = m.2.2.1 := by
 obtain ⟨r1, r2, _⟩ := meta_rec h
 rw [hr.inj r1, metaL_1] at h1
 obtain rfl := Option.some.inj h1
 exact numS_ne (r2.ne (j := 1) (metaL_1 m) (by decide))
theorem meta_same {m : MetaD} {s : Str} {L : List Str} {f2 : Str} (h : metaF m = (s, true)) (hr : IsRec s L) (h2 : L[2]? = some f2) : decide (f2 = [49]) = m.2.2.2 := by
 obtain ⟨r1, r2, _⟩ := meta_rec h
 rw [hr.inj r1, metaL_2] at h2
 obtain rfl := Option.some.inj h2
 unfold bitS
 cases m.2.2.2 <;> decide
theorem meta_count {m : MetaD} {s : Str} {L : List Str} (h : metaF m = (s, true)) (hr : IsRec s L) : L.length = 4 + m.2.1.length + m.1.length ∧ 1 ≤ m.1.length := by
 obtain ⟨r1, _, r3, _⟩ := meta_rec h
 exact ⟨by rw [hr.inj r1, metaL_len], r3.2.1⟩
def Mid (s : Str) (i : Nat) (S : List SnapD) (H : List HeadD) (ok : Bool) : Prop := ∀ m, metaF m = (s, true) → ok = true ∧ S = m.2.1.take i ∧ H = m.1.take (i - m.2.1.length)
theorem Mid.zero (s : Str) : Mid s 0 [] [] true := fun m _ => ⟨rfl, by simp, by simp⟩
theorem Mid.snap {s t f3 : Str} {L : List Str} {i : Nat} {S : List SnapD} {H : List HeadD} {ok fine : Bool} {x : SnapD} (h : Mid s i S H ok) (hr : IsRec s L) (h3 : L[3]? = some f3) (ht : L[4 + i]? = some t) (hi : (i : Int) < rdN f3) (hx : SnapRd t x fine) : Mid s (i + 1) (S ++ [x]) H (ok && fine) := fun m hm => by
 have hmany := meta_many hm hr h3
 unfold rdN at hi
 rw [hmany] at hi
 simp only [Option.getD_some] at hi
 have hi : i < m.2.1.length := by omega
 obtain ⟨r1, _, _, r4, _⟩ := meta_rec hm
 rw [hr.inj r1, metaL_snap m hi, List.getElem?_eq_getElem hi] at ht
 obtain rfl := Option.some.inj ht
 rw [List.all_eq_true] at r4
 obtain ⟨rfl, rfl⟩ := hx _ (r4 _ (List.getElem_mem hi)) rfl
 obtain ⟨rfl, rfl, rfl⟩ := h m hm
 refine ⟨rfl, ?_, ?_⟩
 · rw [List.take_add_one, List.getElem?_eq_getElem hi]; rfl
 rw [show i - m.2.1.length = 0 by omega, show i + 1 - m.2.1.length = 0 by omega]
theorem Mid.head {s t f3 : Str} {L : List Str} {i : Nat} {S : List SnapD} {H : List HeadD} {ok fine : Bool} {x : HeadD} (h : Mid s i S H ok) (hr : IsRec s L) (h3 : L[3]? = some f3) (ht : L[4 + i]? = some t) (hi : ¬ (i : Int) < rdN f3) (hx : HeadRd t x fine) : Mid s (i + 1) S (H ++ [x]) (ok && fine) := fun m hm => by
 have hmany := meta_many hm hr h3
 unfold rdN at hi
 rw [hmany] at hi
 simp only [Option.getD_some] at hi
 have hi : m.2.1.length ≤ i := by omega
 obtain ⟨r1, _, _, _, r5⟩ := meta_rec hm
 have hlt := (List.getElem?_eq_some_iff.1 ht).1
 rw [hr.inj r1, metaL_len] at hlt
 have hj : i - m.2.1.length < m.1.length := by omega
 rw [hr.inj r1, metaL_head m hi, List.getElem?_eq_getElem hj] at ht
 obtain rfl := Option.some.inj ht
 rw [List.all_eq_true] at r5
 obtain ⟨rfl, rfl⟩ := hx _ (r5 _ (List.getElem_mem hj)) rfl
 obtain ⟨rfl, rfl, rfl⟩ := h m hm
 refine ⟨rfl, ?_, ?_⟩
 · rw [List.take_of_length_le (by omega), List.take_of_length_le (by omega)]
 rw [show i + 1 - m.2.1.length = i - m.2.1.length + 1 by omega, List.take_add_one, List.getElem?_eq_getElem hj]; rfl
theorem Mid.bad_snap {s t f3 : Str} {L : List Str} {i : Nat} (hr : IsRec s L) (h3 : L[3]? = some f3) (ht : L[4 + i]? = some t) (hi : (i : Int) < rdN f3) (hx : SnapRd t ((0, strB [], 0, 0, ((0, 0, 0, 0, 0), 0, 0), []) : SnapD) false) : ∀ m, metaF m ≠ (s, true) := fun m hm => by
 have hmany := meta_many hm hr h3
 unfold rdN at hi
 rw [hmany] at hi
 simp only [Option.getD_some] at hi
 have hi : i < m.2.1.length := by omega
 obtain ⟨r1, _, _, r4, _⟩ := meta_rec hm
 rw [hr.inj r1, metaL_snap m hi, List.getElem?_eq_getElem hi] at ht
 obtain rfl := Option.some.inj ht
 rw [List.all_eq_true] at r4
 exact absurd (hx _ (r4 _ (List.getElem_mem hi)) rfl).2 (by decide)
theorem Mid.bad_head {s t f3 : Str} {L : List Str} {i : Nat} (hr : IsRec s L) (h3 : L[3]? = some f3) (ht : L[4 + i]? = some t) (hi : ¬ (i : Int) < rdN f3) (hx : HeadRd t ((strB [], 0, ((0, 0, 0, 0, 0), 0, 0), [], 0) : HeadD) false) : ∀ m, metaF m ≠ (s, true) := fun m hm => by
 have hmany := meta_many hm hr h3
 unfold rdN at hi
 rw [hmany] at hi
 simp only [Option.getD_some] at hi
 have hi : m.2.1.length ≤ i := by omega
 obtain ⟨r1, _, _, _, r5⟩ := meta_rec hm
 have hlt := (List.getElem?_eq_some_iff.1 ht).1
 rw [hr.inj r1, metaL_len] at hlt
 have hj : i - m.2.1.length < m.1.length := by omega
 rw [hr.inj r1, metaL_head m hi, List.getElem?_eq_getElem hj] at ht
 obtain rfl := Option.some.inj ht
 rw [List.all_eq_true] at r5
 exact absurd (hx _ (r5 _ (List.getElem_mem hj)) rfl).2 (by decide)
def MetaIs (s : Str) (m : MetaD) (ok : Bool) : Prop := (ok = true ∧ metaF m = (s, true)) ∨ (ok = false ∧ m = ([], [], 0, false) ∧ ∀ m', metaF m' ≠ (s, true))
theorem MetaIs.no {s : Str} (h : ∀ m', metaF m' ≠ (s, true)) : MetaIs s ([], [], 0, false) false := .inr ⟨rfl, rfl, h⟩
theorem mid_end {s f1 f2 : Str} {L : List Str} {S : List SnapD} {H : List HeadD} {ok : Bool} {i : Nat} (h : Mid s i S H ok) (hr : IsRec s L) (hi : 4 + i = L.length) (h1 : L[1]? = some f1) (h2 : L[2]? = some f2) : ∀ m, metaF m = (s, true) → ok = true ∧ m = (H, S, rdN f1, decide (f2 = [49])) := fun m hm => by
 obtain ⟨rfl, rfl, rfl⟩ := h m hm
 have hc := (meta_count hm hr).1
 rw [(meta_next hm hr h1).2, meta_same hm hr h2, List.take_of_length_le (by omega), List.take_of_length_le (by omega)]
 exact ⟨rfl, rfl⟩
theorem map_injD {α : Type} {B : α → Bool} {T : α → Str} (hi : ∀ x y, B x = true → B y = true → T x = T y → x = y) : ∀ {xs ys : List α}, xs.all B = true → ys.all B = true → xs.map T = ys.map T → xs = ys
 | [], [], _, _, _ => rfl
 | [], q :: qs, _, _, e => by simp at e
 | p :: ps, [], _, _, e => by simp at e
 | p :: ps, q :: qs, h, k, e => by
   simp only [List.map_cons, List.cons.injEq] at e
   simp only [List.all_cons, Bool.and_eq_true] at h k
   rw [hi p q h.1 k.1 e.1, map_injD hi h.2 k.2 e.2]
theorem meta_inj {m m' : MetaD} {s : Str} (h : metaF m = (s, true)) (h' : metaF m' = (s, true)) : m = m' := by
 obtain ⟨r1, r2, r3, r4, r5⟩ := meta_rec h
 obtain ⟨k1, k2, k3, k4, k5⟩ := meta_rec h'
 have hmany := meta_many h k1 (metaL_3 m')
 rw [numS_yes (by omega), numGet_dec (by omega)] at hmany
 have hlen : m.2.1.length = m'.2.1.length := by have := Option.some.inj hmany; simpa using this.symm
 have hnx := meta_next h k1 (metaL_1 m')
 have hnx' := meta_next h' k1 (metaL_1 m')
 have hsm := meta_same h k1 (metaL_2 m')
 have hsm' := meta_same h' k1 (metaL_2 m')
 have e := r1.inj k1
 unfold metaL at e
 have e1 := List.append_inj e (by simp [metaH, hlen])
 have e2 := List.append_inj e1.1 rfl
 obtain ⟨hs, ss, nx, bo⟩ := m
 obtain ⟨hs', ss', nx', bo'⟩ := m'
 have a1 : ss = ss' := map_injD (fun x y => snap_inj) r4 k4 e2.2
 have a2 : hs = hs' := map_injD (fun x y => head_inj) r5 k5 e1.2
 have a3 : nx = nx' := hnx.2.symm.trans hnx'.2
 have a4 : bo = bo' := hsm.symm.trans hsm'
 rw [a1, a2, a3, a4]
theorem MetaIs.one {s : Str} {m m' : MetaD} {ok ok' : Bool} (h : MetaIs s m ok) (h' : MetaIs s m' ok') : m = m' ∧ ok = ok' := by
 rcases h with ⟨rfl, h⟩ | ⟨rfl, rfl, h⟩
 · rcases h' with ⟨rfl, h'⟩ | ⟨rfl, rfl, h'⟩
   · exact ⟨meta_inj h h', rfl⟩
   exact absurd h (h' _)
 rcases h' with ⟨rfl, h'⟩ | ⟨rfl, rfl, h'⟩
 · exact absurd h' (h _)
 exact ⟨rfl, rfl⟩
end Go.Proofs.YtlacpcdbgimnmaaGreatDoor
