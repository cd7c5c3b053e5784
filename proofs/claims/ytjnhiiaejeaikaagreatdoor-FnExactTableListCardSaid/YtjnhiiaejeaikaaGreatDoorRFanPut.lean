/- Tests over lists of pointers; the text of an indirect block. Condition: the library's variables lie as the row says; the list has at most 1000000 members. -/
import Derived.Test.YtjnhiiaejeaikaaGreatDoorRTreePlain
import Derived.Test.YtjnhiiaejeaikaaGreatDoorRPtrPut
import Derived.Test.YtjnhiiaejeaikaaGreatDoorRTreeF
set_option linter.unnecessarySimpa false
set_option linter.unusedSimpArgs false
set_option linter.unusedVariables false
namespace Go.Proofs.YtjnhiiaejeaikaaGreatDoor
open Go Go.Lib Go.RowKit
theorem any_yesP {α : Type} {f : α → Bool} {xs : List α} {k : Nat} {x : α} (hx : xs[k]? = some x) (h : f x = true) : xs.any f = true := by
 rw [List.any_eq_true]; exact ⟨x, List.mem_of_getElem? hx, h⟩
theorem any_uptoP {α : Type} {f : α → Bool} {xs : List α} {n : Nat} (hn : xs.length = n) (h : ∀ j x, j < n → xs[j]? = some x → f x = false) : xs.any f = false := by
 rw [List.any_eq_false]; intro x hx
 obtain ⟨j, hj, rfl⟩ := List.mem_iff_getElem.1 hx
 rw [h j _ (by omega) (List.getElem?_eq_getElem hj)]; simp
theorem upto_stepP {α : Type} {Q : α → Prop} {xs : List α} {k : Nat} {x : α} (hp : ∀ j y, j < k → xs[j]? = some y → Q y) (hx : xs[k]? = some x) (h : Q x) : ∀ j y, j < k + 1 → xs[j]? = some y → Q y := by
 intro j y hj hy
 rcases Nat.lt_or_ge j k with h2 | h2
 · exact hp j y h2 hy
 obtain rfl : j = k := by omega
 rw [hx] at hy; obtain rfl := Option.some.inj hy; exact h
def IdxP (b : Bool) (w : World) (e : Ending) (w' : World) : Prop := ∃ r : Int, e = .returned (.int .i64 r) ∧ decide (0 ≤ r) = b ∧ Below w.heap.size w w'
def youngB (b0 : Int) (p : PtrD) : Bool := decide (b0 < p.2.1)
def someB (p : PtrD) : Bool := !holeP p
set_option maxRecDepth 100000 in
theorem isSome_any (a b s m l : Int) (w : World) : Calls Tryz.prog 128 #[.agg #[.int .i64 a, .int .i64 b, .int .i64 s, .int .i64 m, .int .i64 l]] w fun e w' => e = .returned (.bool (someB (a, b, s, m, l))) ∧ Below w.heap.size w w' := by
 have HN : Hid ((!ptrHole a b s m l) = someB (a, b, s, m, l)) := Lib.hid rfl
 go_enter Tryz.func128, Tryz.ntmps128
 go_wp2_with fail
 refine (ptrHole_any a b s m l _).mono ?_
 rintro e w1 ⟨rfl, hb1⟩
 have HB := bel1.trans (hb1.mono (by simp))
 clear hb1
 cases hh : ptrHole a b s m l
 all_goals (rw [hh] at HN; clear hh; go_wp2_with fail; go_ret; exact ⟨ret_bool HN.out, HB⟩)
set_option maxRecDepth 100000 in
set_option maxHeartbeats 2000000 in
theorem indexSome_any (A : Option Addr) (n c : Nat) (xs : List PtrD) (w : World) (lo hi : Nat) (h : SliceR PtrR 5 w lo hi A n c xs) :
 Calls Tryz.prog 114 #[.slice A n c, .func (.func 128) #[] #[]] w (IdxP (xs.any (someB)) w) := by
 have hn := h.max
 have HL := Lib.hid h.len
 have H := Lib.hid h; clear h
 go_enter Tryz.func114, Tryz.ntmps114
 go_wp2_with fail
 go_loopw [8] (fun s wr => ∃ k : Nat, k ≤ n ∧ s = .int .i64 k ∧ Hid (∀ j x, j < k → xs[j]? = some x → (someB) x = false) ∧ Hid (Below w.heap.size w wr)) (fun s _ => n - (RowKit.intOf s).toNat)
 case atStart => exact ⟨0, Nat.zero_le _, rfl, Lib.hid (fun j x hj => absurd hj (by omega)), Lib.hid (Below.refl _ _)⟩
 obtain ⟨k, hk, rfl, HP, HB⟩ := hrel
 by_cases hlt : k < n
 · obtain ⟨x, hx⟩ : ∃ x, xs[k]? = some x := ⟨xs[k]'(by rw [HL.out]; exact hlt), List.getElem?_eq_getElem _⟩
   obtain ⟨b_, off, rfl, _, _, bl, hc⟩ := (SliceR.below H.out HB.out (PtrR.below HB.out H.out.lo_le)).at_ (by omega)
   obtain ⟨cs, hcl, hcc, hr⟩ := hc k x hx
   clear hc
   obtain ⟨a, b, s, m, l⟩ := x
   obtain rfl := hr
   have q0 := hcc 0 _ rfl; have q1 := hcc 1 _ rfl; have q2 := hcc 2 _ rfl; have q3 := hcc 3 _ rfl; have q4 := hcc 4 _ rfl
   simp only [Nat.add_zero] at q0
   clear hcc hcl
   have HX := Lib.hid hx; clear hx
   have k0 : (0 : Int) ≤ (k : Int) := by omega
   have k1 : (k : Int) < (n : Int) := by omega
   have R := isSome_any a b s m l wr
   cases e1 : (someB) (a, b, s, m, l)
   rotate_left
   · have HF := Lib.hid (show xs.any (someB) = true from any_yesP HX.out e1)
     rw [e1] at R
     have HR := Lib.hid R; clear R e1
     go_wp2_with fail
     refine HR.out.mono ?_
     rintro e w2 ⟨rfl, hb2⟩
     have HB2 : Hid (Below w.heap.size w w2) := Lib.hid (HB.out.trans (hb2.mono HB.out.size))
     clear hb2
     go_wp2_with fail
     go_ret
     exact ⟨k, rfl, by rw [HF.out]; simp, HB2.out⟩
   have HF := Lib.hid (upto_stepP (Q := fun x => (someB) x = false) HP.out HX.out e1)
   rw [e1] at R
   have HR := Lib.hid R; clear R e1
   go_wp2_with fail
   refine HR.out.mono ?_
   rintro e w2 ⟨rfl, hb2⟩
   have HB2 : Hid (Below w.heap.size w w2) := Lib.hid (HB.out.trans (hb2.mono HB.out.size))
   clear hb2
   go_wp2_with fail
   go_roundw
   case rel => exact ⟨k + 1, by omega, by go_num, HF, HB2⟩
   simp [RowKit.intOf]; omega
 obtain rfl : k = n := by omega
 have HF := Lib.hid (show xs.any (someB) = false from any_uptoP HL.out HP.out)
 go_wp2_with fail
 go_ret
 exact ⟨-1, rfl, by rw [HF.out]; rfl, HB.out⟩
set_option maxRecDepth 100000 in
theorem containsSome_any (A : Option Addr) (n c : Nat) (xs : List PtrD) (w : World) (lo hi : Nat) (h : SliceR PtrR 5 w lo hi A n c xs) :
 Calls Tryz.prog 98 #[.slice A n c, .func (.func 128) #[] #[]] w fun e w' => e = .returned (.bool (xs.any (someB))) ∧ Below w.heap.size w w' := by
 have R := Lib.hid (indexSome_any A n c xs w lo hi h)
 clear h
 go_enter Tryz.func98, Tryz.ntmps98
 go_wp2_with fail
 refine R.out.mono ?_
 rintro e w1 ⟨r, rfl, hr, hb⟩
 have HR := Lib.hid hr; clear hr
 go_wp2_with fail
 go_ret
 exact ⟨ret_bool HR.out, hb⟩
set_option maxRecDepth 100000 in
theorem isYoung_any (qb : Nat) (b0 : Int) (a b s m l : Int) (w : World) (hq : w.cell? ⟨qb, 1, none⟩ = some (.int .i64 b0)) : Calls Tryz.prog 99 #[.agg #[.int .i64 a, .int .i64 b, .int .i64 s, .int .i64 m, .int .i64 l], .pointer (some ⟨qb, 0, none⟩)] w fun e w' => e = .returned (.bool (youngB b0 (a, b, s, m, l))) ∧ Below w.heap.size w w' := by
 have lq := World.block_lt_of_cell? _ _ hq
 have HQ := Lib.hid hq
 by_cases h : b0 < b
 · have HN : Hid (true = youngB b0 (a, b, s, m, l)) := Lib.hid (by unfold youngB; dsimp only; rw [decide_eq_true h])
   go_enter Tryz.func99, Tryz.ntmps99
   go_wp2_with fail
   go_ret
   exact ⟨ret_bool HN.out, bel1⟩
 have HN : Hid (false = youngB b0 (a, b, s, m, l)) := Lib.hid (by unfold youngB; dsimp only; rw [decide_eq_false h])
 go_enter Tryz.func99, Tryz.ntmps99
 go_wp2_with fail
 go_ret
 exact ⟨ret_bool HN.out, bel1⟩
set_option maxRecDepth 100000 in
set_option maxHeartbeats 2000000 in
theorem indexYoung_any (qb : Nat) (b0 : Int) (A : Option Addr) (n c : Nat) (xs : List PtrD) (w : World) (lo hi : Nat) (hq : w.cell? ⟨qb, 1, none⟩ = some (.int .i64 b0)) (h : SliceR PtrR 5 w lo hi A n c xs) :
 Calls Tryz.prog 114 #[.slice A n c, .func (.func 99) #[] #[.pointer (some ⟨qb, 0, none⟩)]] w (IdxP (xs.any (youngB b0)) w) := by
 have hn := h.max
 have HL := Lib.hid h.len
 have H := Lib.hid h; clear h
 have LQ := Lib.hid (World.block_lt_of_cell? _ _ hq); have HQ := Lib.hid hq; clear hq
 go_enter Tryz.func114, Tryz.ntmps114
 go_wp2_with fail
 go_loopw [8] (fun s wr => ∃ k : Nat, k ≤ n ∧ s = .int .i64 k ∧ Hid (∀ j x, j < k → xs[j]? = some x → (youngB b0) x = false) ∧ Hid (Below w.heap.size w wr)) (fun s _ => n - (RowKit.intOf s).toNat)
 case atStart => exact ⟨0, Nat.zero_le _, rfl, Lib.hid (fun j x hj => absurd hj (by omega)), Lib.hid (Below.refl _ _)⟩
 obtain ⟨k, hk, rfl, HP, HB⟩ := hrel
 by_cases hlt : k < n
 · obtain ⟨x, hx⟩ : ∃ x, xs[k]? = some x := ⟨xs[k]'(by rw [HL.out]; exact hlt), List.getElem?_eq_getElem _⟩
   obtain ⟨b_, off, rfl, _, _, bl, hc⟩ := (SliceR.below H.out HB.out (PtrR.below HB.out H.out.lo_le)).at_ (by omega)
   obtain ⟨cs, hcl, hcc, hr⟩ := hc k x hx
   clear hc
   obtain ⟨a, b, s, m, l⟩ := x
   obtain rfl := hr
   have q0 := hcc 0 _ rfl; have q1 := hcc 1 _ rfl; have q2 := hcc 2 _ rfl; have q3 := hcc 3 _ rfl; have q4 := hcc 4 _ rfl
   simp only [Nat.add_zero] at q0
   clear hcc hcl
   have HX := Lib.hid hx; clear hx
   have k0 : (0 : Int) ≤ (k : Int) := by omega
   have k1 : (k : Int) < (n : Int) := by omega
   have R := isYoung_any qb b0 a b s m l wr ((HB.out.cell LQ.out).trans HQ.out)
   cases e1 : (youngB b0) (a, b, s, m, l)
   rotate_left
   · have HF := Lib.hid (show xs.any (youngB b0) = true from any_yesP HX.out e1)
     rw [e1] at R
     have HR := Lib.hid R; clear R e1
     go_wp2_with fail
     refine HR.out.mono ?_
     rintro e w2 ⟨rfl, hb2⟩
     have HB2 : Hid (Below w.heap.size w w2) := Lib.hid (HB.out.trans (hb2.mono HB.out.size))
     clear hb2
     go_wp2_with fail
     go_ret
     exact ⟨k, rfl, by rw [HF.out]; simp, HB2.out⟩
   have HF := Lib.hid (upto_stepP (Q := fun x => (youngB b0) x = false) HP.out HX.out e1)
   rw [e1] at R
   have HR := Lib.hid R; clear R e1
   go_wp2_with fail
   refine HR.out.mono ?_
   rintro e w2 ⟨rfl, hb2⟩
   have HB2 : Hid (Below w.heap.size w w2) := Lib.hid (HB.out.trans (hb2.mono HB.out.size))
   clear hb2
   go_wp2_with fail
   go_roundw
   case rel => exact ⟨k + 1, by omega, by go_num, HF, HB2⟩
   simp [RowKit.intOf]; omega
 obtain rfl : k = n := by omega
 have HF := Lib.hid (show xs.any (youngB b0) = false from any_uptoP HL.out HP.out)
 go_wp2_with fail
 go_ret
 exact ⟨-1, rfl, by rw [HF.out]; rfl, HB.out⟩
set_option maxRecDepth 100000 in
theorem containsYoung_any (qb : Nat) (b0 : Int) (A : Option Addr) (n c : Nat) (xs : List PtrD) (w : World) (lo hi : Nat) (hq : w.cell? ⟨qb, 1, none⟩ = some (.int .i64 b0)) (h : SliceR PtrR 5 w lo hi A n c xs) :
 Calls Tryz.prog 98 #[.slice A n c, .func (.func 99) #[] #[.pointer (some ⟨qb, 0, none⟩)]] w fun e w' => e = .returned (.bool (xs.any (youngB b0))) ∧ Below w.heap.size w w' := by
 have R := Lib.hid (indexYoung_any qb b0 A n c xs w lo hi hq h)
 clear h hq
 go_enter Tryz.func98, Tryz.ntmps98
 go_wp2_with fail
 refine R.out.mono ?_
 rintro e w1 ⟨r, rfl, hr, hb⟩
 have HR := Lib.hid hr; clear hr
 go_wp2_with fail
 go_ret
 exact ⟨ret_bool HR.out, hb⟩
def PutFan (ps : List PtrD) (w : World) (e : Ending) (w' : World) : Prop := e = .returned (.tuple #[.string (strB ((fanPut ps).getD [])), .bool (fanPut ps).isSome]) ∧ Below w.heap.size w w'
theorem PutFan.no {ps : List PtrD} {w w' : World} (h : fanPut ps = none) (hb : Below w.heap.size w w') : PutFan ps w (.returned (.tuple #[.string ⟨#[]⟩, .bool false])) w' := ⟨by rw [h]; rfl, hb⟩
theorem fanPut_len {ps : List PtrD} (h : ps.length ≠ 4) : fanPut ps = none := by unfold fanPut; rw [if_neg (fun k => h k.1)]
theorem fanPut_hole {ps : List PtrD} (h : ps.any someB = false) : fanPut ps = none := by
 unfold fanPut
 rw [if_neg (fun k => ?_)]
 have k3 := k.2.2
 rw [List.all_eq_false] at k3
 obtain ⟨p, hp, hn⟩ := k3
 rw [List.any_eq_false] at h
 have := h p hp
 unfold someB at this
 simp at hn this
 rw [this] at hn; cases hn
theorem fanPut_ok {ps : List PtrD} {k : Nat} {p : PtrD} (hx : ps[k]? = some p) (h : okP p = false) : fanPut ps = none := by
 unfold fanPut
 rw [if_neg (fun k_ => ?_)]
 have k2 := k_.2.1
 rw [List.all_eq_true] at k2
 rw [k2 p (List.mem_of_getElem? hx)] at h
 cases h
theorem fanPut_yes {ps : List PtrD} (h1 : ps.length = 4) (h2 : ps.any someB = true) (h3 : ∀ j p, j < 4 → ps[j]? = some p → okP p = true) : fanPut ps = some (join (ps.map ptrT) [44]) := by
 unfold fanPut
 rw [if_pos]
 refine ⟨h1, ?_, ?_⟩
 · rw [List.all_eq_true]; intro p hp
   obtain ⟨j, hj, rfl⟩ := List.mem_iff_getElem.1 hp
   exact h3 j _ (by omega) (List.getElem?_eq_getElem hj)
 rw [List.any_eq_true] at h2
 obtain ⟨p, hp, hn⟩ := h2
 rw [List.all_eq_false]
 exact ⟨p, hp, by unfold someB at hn; simpa using hn⟩
theorem join_lenP (xs : List Str) (M : Nat) (hM : ∀ x ∈ xs, x.length ≤ M) : (join xs [44]).length ≤ xs.length * (M + 1) := by
 cases xs with
 | nil => simp [join]
 | cons y ys =>
   rw [join_cons]
   have h : ∀ zs : List Str, (∀ x ∈ zs, x.length ≤ M) → (joinTail [44] zs).length ≤ zs.length * (M + 1) := by
    intro zs
    induction zs with
    | nil => intro _; simp [joinTail]
    | cons z zs ih =>
      intro hz
      have h1 := hz z (by simp)
      have h2 := ih (fun x hx => hz x (by simp [hx]))
      simp only [joinTail, List.map_cons, List.flatten_cons, List.length_append, List.length_cons, List.length_nil] at h2 ⊢
      rw [Nat.succ_mul]
      omega
   have h1 := hM y (by simp)
   have h2 := h ys (fun x hx => hM x (by simp [hx]))
   rw [List.length_append, List.length_cons, Nat.succ_mul]
   omega
set_option maxRecDepth 100000 in
set_option maxHeartbeats 4000000 in
theorem fanPut_any (A : Option Addr) (n c : Nat) (ps : List PtrD) (w : World) (lo hi : Nat) (ht : Tab w) (h : SliceR PtrR 5 w lo hi A n c ps) :
 Calls Tryz.prog 113 #[.slice A n c] w (PutFan ps w) := by
 obtain ⟨i0, hi0, hz0, hz1, hz2⟩ := info_parts info_strs
 have HL := Lib.hid h.len
 have hn := h.max
 have HC := Lib.hid (containsSome_any A n c ps w lo hi h)
 have H := Lib.hid h; have HT := Lib.hid ht; clear h ht
 by_cases h4 : n = 4
 case neg =>
  have HN := Lib.hid (fanPut_len (ps := ps) (by rw [HL.out]; exact h4))
  have d4 : ((n : Int) != 4) = true := by simp; omega
  clear h4
  go_enter Tryz.func113, Tryz.ntmps113
  go_wp2_with fail
  exact bodyPost_ret (v := .tuple #[.string ⟨#[]⟩, .bool false]) (by simp [results, Tryz.results113, go_sem]) rfl (PutFan.no HN.out (Below.refl _ _))
 subst h4
 go_enter Tryz.func113, Tryz.ntmps113
 go_wp2_with fail
 refine HC.out.mono ?_
 rintro e w1 ⟨rfl, hb1⟩
 cases hs : ps.any someB
 · have HN := Lib.hid (fanPut_hole hs)
   clear hs
   go_wp2_with fail
   exact bodyPost_ret (v := .tuple #[.string ⟨#[]⟩, .bool false]) (by simp [results, Tryz.results113, go_sem]) rfl (PutFan.no HN.out hb1)
 have HS := Lib.hid hs
 have HB1 := Lib.hid hb1
 clear hs hb1 HC
 go_wp2_with fail
 go_loopw [4, 17] (fun t i wr => ∃ (k : Nat) (C : Option Addr) (m e : Nat), k ≤ 4 ∧ i = .int .i64 (k : Int) ∧ t = .slice C m e ∧ m = k ∧ Hid (∀ j p, j < k → ps[j]? = some p → okP p = true) ∧ Hid (StrsIn w.heap.size wr C e ((ps.take k).map ptrT)) ∧ Hid (Below w.heap.size w wr)) (fun _ i _ => 4 - (RowKit.intOf i).toNat)
 case atStart => exact ⟨0, none, 0, 0, Nat.zero_le _, rfl, rfl, rfl, Lib.hid (fun j p hj => absurd hj (by omega)), Lib.hid (by simpa using StrsIn.nil), HB1⟩
 clear HB1
 obtain ⟨k, C, m_, e, hk, rfl, rfl, hmk, HP, HI, HB⟩ := hrel
 subst hmk
 by_cases hlt : m_ < 4
 · obtain ⟨p, hp⟩ : ∃ x, ps[m_]? = some x := ⟨ps[m_]'(by rw [HL.out]; exact hlt), List.getElem?_eq_getElem _⟩
   obtain ⟨b_, off, rfl, _, _, bl, hc⟩ := (SliceR.below H.out HB.out (PtrR.below HB.out H.out.lo_le)).at_ (by omega)
   obtain ⟨cs, hcl, hcc, hr⟩ := hc m_ p hp
   have HX := Lib.hid hp; clear hp hc
   obtain ⟨a, b, s, m, l⟩ := p
   obtain rfl := hr
   have q0 := hcc 0 _ rfl; have q1 := hcc 1 _ rfl; have q2 := hcc 2 _ rfl; have q3 := hcc 3 _ rfl; have q4 := hcc 4 _ rfl
   simp only [Nat.add_zero] at q0
   clear hcc hcl
   have k0 : (0 : Int) ≤ (m_ : Int) := by omega
   have k1 : (m_ : Int) < 4 := by omega
   obtain ⟨w2, hw2⟩ : ∃ W, W = wr.alloc (.cells #[.int .i64 a, .int .i64 b, .int .i64 s, .int .i64 m, .int .i64 l] 41) := ⟨_, rfl⟩
   have HY2 : Hid (Below wr.heap.size wr w2) := Lib.hid (by rw [hw2]; exact bel1)
   have hbx : Hid (w2.heap[wr.heap.size]? = some (.cells #[.int .i64 a, .int .i64 b, .int .i64 s, .int .i64 m, .int .i64 l] 41 (0, 0))) := Lib.hid (by rw [hw2]; exact heap_alloc_new _ _)
   go_wp2_with fail
   rw [← hw2]
   clear hw2 q0 q1 q2 q3 q4
   have x0 := celR 0 hbx.out; have x1 := celR 1 hbx.out; have x2 := celR 2 hbx.out; have x3 := celR 3 hbx.out; have x4 := celR 4 hbx.out
   have l2x := (Array.getElem?_eq_some_iff.1 hbx.out).1
   go_wp2_with fail
   refine (ptrOk_any a b s m l _).mono ?_
   rintro e_ w3 ⟨rfl, hb3⟩
   have HY3 := Lib.hid (HY2.out.trans (hb3.mono HY2.out.size))
   have hbx3 := Lib.hid ((hb3.block _ l2x).trans hbx.out)
   clear hb3 HY2 hbx x0 x1 x2 x3 x4 l2x
   cases e1 : ptrOkB a b s m l
   · have HN := Lib.hid (fanPut_ok HX.out e1)
     clear e1
     go_wp2_with fail
     exact bodyPost_ret (v := .tuple #[.string ⟨#[]⟩, .bool false]) (by simp [results, Tryz.results113, go_sem]) rfl (PutFan.no HN.out (HB.out.trans (HY3.out.mono HB.out.size)))
   have HPN := Lib.hid (upto_stepP (Q := fun p => okP p = true) HP.out HX.out e1)
   clear e1
   have x0 := celR 0 hbx3.out; have x1 := celR 1 hbx3.out; have x2 := celR 2 hbx3.out; have x3 := celR 3 hbx3.out; have x4 := celR 4 hbx3.out
   have l3x := (Array.getElem?_eq_some_iff.1 hbx3.out).1
   go_wp2_with fail
   refine (ptrPut_any a b s m l _ (HT.out.below (HB.out.trans (HY3.out.mono HB.out.size)))).mono ?_
   unfold TextR
   rintro e_ w5 ⟨rfl, hb5⟩
   have HY5 := Lib.hid (HY3.out.trans (hb5.mono HY3.out.size))
   clear hb5 HY3 hbx3 x0 x1 x2 x3 x4 l3x
   obtain ⟨x, hx⟩ : ∃ x, x = ptrS a b s m l := ⟨_, rfl⟩
   rw [← hx]
   obtain ⟨S, hOS, hSB⟩ := HI.out.below HY5.out
   have hlen : ((ps.take m_).map ptrT).length = m_ := by rw [List.length_map, List.length_take, HL.out]; omega
   rw [hlen] at hOS
   obtain ⟨gs, hgs⟩ : ∃ gs, gs = (ps.take m_).map ptrT := ⟨_, rfl⟩
   rw [← hgs] at hOS hlen
   have HXX : Hid ((ps.take (m_ + 1)).map ptrT = gs ++ [x]) := Lib.hid (by rw [List.take_add_one, HX.out, List.map_append, hgs, hx]; rfl)
   clear hgs hx
   have HOA := Lib.hid (hOS.below (bel1 (o := .cells #[.string (strB x)] 9)))
   have HLIT := Lib.hid (fun (W : World) => RowAt.lit (w := W) (e := 9) (cur := #[.string (strB x)]) (m := 1) rfl)
   have HONE : Hid (∀ u ∈ [x].map strV, u.oneCell' = true) := Lib.hid (strs_one _)
   have HSB := Lib.hid hSB
   have HB5 := Lib.hid (HB.out.trans (HY5.out.mono HB.out.size))
   clear hOS hSB HB HI HY5
   go_wp2_with (at_builtin; go_must (refine wpList_append_row rfl _ _ 22 rfl 9 i0 (.string ByteArray.empty) 1 16 Tryz.underlying22 hi0 hz0 hz1 hz2 rfl (by decide) S C _ m_ e 1 _ (gs.map strV) ([x].map strV) rfl rfl HOA.out (HLIT.out _) HONE.out (by unfold maxLen; omega) (by omega) ?_))
   intro A' c' S' w6 hO' hS' hC'
   obtain ⟨hI6, hb6⟩ := app_strs (B := w.heap.size) HSB.out (w1 := w5.alloc (.cells #[.string (strB x)] 9)) (fs := gs) (gs := [x]) (by have := HB5.out.size; simp; omega) (by rw [List.length_append, hlen, List.length_singleton]) hO' (fun g hg => (hS' g hg).imp id (fun h => by simpa using h)) hC'
   have HB6 : Hid (Below w.heap.size w w6) := Lib.hid (HB5.out.trans (((Below.refl _ _).alloc HB5.out.size _).trans hb6))
   have HI6 : Hid (StrsIn w.heap.size w6 A' c' ((ps.take (m_ + 1)).map ptrT)) := Lib.hid (by rw [HXX.out]; exact hI6)
   clear hI6 hb6 hO' hS' hC' HOA HLIT HONE HSB HB5 hlen
   go_wp2_with fail
   go_roundw
   case rel => exact ⟨m_ + 1, A', m_ + 1, c', by omega, by go_num, rfl, rfl, HPN, HI6, HB6⟩
   simp [RowKit.intOf]; omega
 obtain rfl : m_ = 4 := by omega
 have hT : ps.take 4 = ps := List.take_of_length_le (by rw [HL.out]; exact Nat.le_refl _)
 have HF := Lib.hid (fanPut_yes HL.out HS.out HP.out)
 have hI := HI.out
 rw [hT] at hI
 have hlen : (ps.map ptrT).length = 4 := by rw [List.length_map, HL.out]
 obtain ⟨y0, hy0⟩ : ∃ y, (ps.map ptrT)[0]? = some y := ⟨(ps.map ptrT)[0]'(by omega), List.getElem?_eq_getElem _⟩
 obtain ⟨g2, rfl, hg2, _⟩ := hI.cell hy0
 have hcs : ∀ (j : Nat) x, ((ps.map ptrT).map strB)[j]? = some x → wr.cell? ⟨g2, 0 + j, none⟩ = some (.string x) := by
  intro j x hx
  rw [List.getElem?_map] at hx
  obtain ⟨y, hy, rfl⟩ := Option.map_eq_some_iff.1 hx
  obtain ⟨g3, e3, _, hc3⟩ := hI.cell hy
  injection e3 with e3; injection e3 with e3
  subst e3
  rw [Nat.zero_add]; exact hc3
 have hcap : 4 ≤ e := by have := hI.le; rwa [hlen] at this
 have hmap : ((ps.map ptrT).map strB).map (·.data.toList) = ps.map ptrT := by rw [List.map_map]; exact (List.map_congr_left (fun x _ => by simp [strB])).trans (List.map_id _)
 have hjl : (join (ps.map ptrT) [44]).length ≤ 140737488355328 := by
  have h1 := join_lenP (ps.map ptrT) 60 (fun x hx => by obtain ⟨p, _, rfl⟩ := List.mem_map.1 hx; exact ptrS_len _ _ _ _ _)
  rw [hlen] at h1
  omega
 have HJ := Tryz.strings_Join g2 0 e ((ps.map ptrT).map strB) ⟨#[44]⟩ wr hcs hg2 (by rw [List.length_map, hlen]; omega) (by rw [List.length_map, hlen]; exact hcap) (by rw [hmap]; exact hjl)
 rw [hmap, List.length_map, hlen] at HJ
 have HJ := Lib.hid HJ
 clear hI hcs hcap hmap hjl hy0 hT
 go_wp2_with fail
 refine HJ.out.mono ?_
 rintro e_ w5 ⟨rfl, hb5⟩
 have HB5 := Lib.hid (HB.out.trans (hb5.mono HB.out.size))
 clear hb5
 go_wp2_with fail
 exact bodyPost_ret (v := .tuple #[.string (strB (join (ps.map ptrT) [44])), .bool true]) (by simp [results, Tryz.results113, go_sem, strB]) rfl ⟨by rw [HF.out]; rfl, HB5.out⟩
end Go.Proofs.YtjnhiiaejeaikaaGreatDoor
