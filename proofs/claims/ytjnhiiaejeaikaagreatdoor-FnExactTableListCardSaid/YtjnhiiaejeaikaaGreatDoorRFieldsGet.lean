/- FieldsGet both: the record that a text is the text of. Condition: the library's variables lie as the row says; the text is at most 2^40 bytes. -/
import Derived.Test.YtjnhiiaejeaikaaGreatDoorRRecs
import Derived.Test.YtjnhiiaejeaikaaGreatDoorRNumGet
import Derived.Test.YtjnhiiaejeaikaaGreatDoorRNum
set_option linter.unnecessarySimpa false
set_option linter.unusedSimpArgs false
set_option linter.unusedVariables false
namespace Go.Proofs.YtjnhiiaejeaikaaGreatDoor
open Go Go.Lib
def splitC : Str → List Str
 | [] => [[]]
 | c :: s => if c = 44 then [] :: splitC s else match splitC s with
   | [] => [[c]]
   | x :: xs => (c :: x) :: xs
theorem splitC_ne : ∀ s, splitC s ≠ []
 | [] => by simp [splitC]
 | c :: s => by
   unfold splitC
   split
   · simp
   split <;> simp
theorem splitC_free {s : Str} (h : (44 : UInt8) ∉ s) : splitC s = [s] := by
 induction s with
 | nil => rfl
 | cons c s ih =>
   simp only [List.mem_cons, not_or] at h
   unfold splitC
   rw [if_neg (fun e => h.1 e.symm), ih h.2]
theorem splitC_cut {a b : Str} (h : (44 : UInt8) ∉ a) : splitC (a ++ 44 :: b) = a :: splitC b := by
 induction a with
 | nil => simp [splitC]
 | cons c a ih =>
   simp only [List.mem_cons, not_or] at h
   simp only [List.cons_append]
   rw [splitC.eq_def]
   simp only
   rw [if_neg (fun e => h.1 e.symm), ih h.2]
theorem join_splitC : ∀ s, join (splitC s) [44] = s := by
 intro s
 induction s with
 | nil => rfl
 | cons c s ih =>
   unfold splitC
   split
   · rename_i hc
     subst hc
     cases hs : splitC s with
     | nil => exact absurd hs (splitC_ne s)
     | cons x xs =>
       rw [hs] at ih
       rw [join_cons, joinTail, List.map_cons, List.flatten_cons]
       rw [join_cons, joinTail] at ih
       simp [← ih]
   cases hs : splitC s with
   | nil => exact absurd hs (splitC_ne s)
   | cons x xs =>
     rw [hs] at ih
     simp only
     rw [join_cons] at ih ⊢
     rw [← ih]; rfl
theorem splitK_C : ∀ (k : Nat) (s : Str), s.count 44 = k → splitK [44] 0 k s = splitC s := by
 intro k
 induction k with
 | zero =>
   intro s hs
   rw [splitC_free (fun hm => by rw [List.count_eq_zero] at hs; exact hs hm)]
   rfl
 | succ k ih =>
   intro s hs
   cases hc : cutG 44 s with
   | none =>
     have h1 := (cutG_none hc).1
     rw [List.count_eq_zero.2 h1] at hs
     omega
   | some p =>
     obtain ⟨a, b⟩ := p
     obtain ⟨e, h1, h2⟩ := cutG_some hc
     unfold splitK
     have h3 : ((a.length : Int) == -1) = false := by simp <;> omega
     rw [h2, h3]
     simp only [Bool.false_eq_true, if_false, Int.toNat_natCast, Nat.add_zero, List.length_singleton]
     have ht : s.take a.length = a := by rw [e]; simp
     have hdr : s.drop (a.length + 1) = b := by rw [e]; simp
     have hcb : b.count 44 = k := by
      rw [e, List.count_append, List.count_cons, List.count_eq_zero.2 h1] at hs
      simp at hs; omega
     rw [ht, hdr, ih b hcb, e, splitC_cut h1]
theorem pieceC_le : ∀ (s : Str), ∀ x ∈ splitC s, x.length ≤ s.length
 | [], x, h => by simp [splitC] at h; subst h; simp
 | c :: s, x, h => by
   have ih := pieceC_le s
   unfold splitC at h
   split at h
   · rcases List.mem_cons.1 h with rfl | h
     · simp
     have := ih x h; simp; omega
   split at h
   · rename_i hc hs; exact absurd hs (splitC_ne s)
   rename_i y ys hs
   rw [hs] at ih
   rcases List.mem_cons.1 h with rfl | h
   · have := ih y (by simp); simp; omega
   have := ih x (by simp [h]); simp; omega
theorem piecesC_le : ∀ (s : Str), (splitC s).length ≤ s.length + 1
 | [] => by simp [splitC]
 | c :: s => by
   have ih := piecesC_le s
   unfold splitC
   split
   · simp; omega
   split
   · simp
   rename_i y ys hs; rw [hs] at ih; simp at ih ⊢; omega
end Go.Proofs.YtjnhiiaejeaikaaGreatDoor
namespace Go.Proofs.YtjnhiiaejeaikaaGreatDoor
open Go Go.Lib
def ptrIs (s : Str) (a b c d l : Int) (ok : Bool) : Prop :=
 (ok = true ∧ ptrOkB a b c d l = true ∧ ptrS a b c d l = s) ∨
 (ok = false ∧ (a = 0 ∧ b = 0 ∧ c = 0 ∧ d = 0 ∧ l = 0) ∧ ∀ a b c d l : Int, ptrOkB a b c d l = true → ptrS a b c d l ≠ s)
theorem ptr_dec {s : Str} {a b c d l : Int} (hs : s ≠ [45]) (h : ptrOkB a b c d l = true) (k : ptrS a b c d l = s) :
 ptrHole a b c d l = false ∧ splitD s = [decDigits a.toNat, decDigits b.toNat, decDigits c.toNat, decDigits d.toNat, decDigits l.toNat] ∧ (0 ≤ a ∧ a ≤ 999999999) ∧ (0 ≤ b ∧ b ≤ 999999999) ∧ (0 ≤ c ∧ c ≤ 999999999) ∧ (0 ≤ d ∧ d ≤ 999999999) ∧ (0 ≤ l ∧ l ≤ 999999999) := by
 cases hh : ptrHole a b c d l with
 | true => rw [ptrS_hole h hh] at k; exact absurd k.symm hs
 | false =>
   have hb := ptr_bounds h hh
   refine ⟨rfl, ?_, by omega, by omega, by omega, by omega, by omega⟩
   rw [← k, ptrS_yes h hh]
   exact splitD_join5 (dot_dec _) (dot_dec _) (dot_dec _) (dot_dec _) (dot_dec _)
theorem ptr_hole_text : ptrIs [45] 0 0 0 0 0 true := .inl ⟨rfl, by decide, rfl⟩
theorem ptr_len {s : Str} (hs : s ≠ [45]) (h : (splitD s).length ≠ 5) : ptrIs s 0 0 0 0 0 false :=
 .inr ⟨rfl, ⟨rfl, rfl, rfl, rfl, rfl⟩, fun a b c d l hok e => by
  have := (ptr_dec hs hok e).2.1
  rw [this] at h
  exact h rfl⟩
theorem numGet_dec {n : Int} (h : 0 ≤ n ∧ n ≤ 999999999) : numGet (decDigits n.toNat) = some n.toNat := numGet_iff.2 ⟨by omega, rfl⟩
theorem ptr_bad {s : Str} {j : Nat} {x : Str} (hs : s ≠ [45]) (hx : (splitD s)[j]? = some x) (h : numGet x = none) : ptrIs s 0 0 0 0 0 false :=
 .inr ⟨rfl, ⟨rfl, rfl, rfl, rfl, rfl⟩, fun a b c d l hok e => by
  obtain ⟨_, hsp, h1, h2, h3, h4, h5⟩ := ptr_dec hs hok e
  rw [hsp] at hx
  match j, hx with
  | 0, hx => obtain rfl := Option.some.inj hx; rw [numGet_dec h1] at h; cases h
  | 1, hx => obtain rfl := Option.some.inj hx; rw [numGet_dec h2] at h; cases h
  | 2, hx => obtain rfl := Option.some.inj hx; rw [numGet_dec h3] at h; cases h
  | 3, hx => obtain rfl := Option.some.inj hx; rw [numGet_dec h4] at h; cases h
  | 4, hx => obtain rfl := Option.some.inj hx; rw [numGet_dec h5] at h; cases h
  | j + 5, hx => simp at hx⟩
def Five (s : Str) (a b c d l : Nat) : Prop := ∃ x1 x2 x3 x4 x5, splitD s = [x1, x2, x3, x4, x5] ∧ numGet x1 = some a ∧ numGet x2 = some b ∧ numGet x3 = some c ∧ numGet x4 = some d ∧ numGet x5 = some l
theorem Five.text {s : Str} {a b c d l : Nat} (h : Five s a b c d l) : s = join [decDigits a, decDigits b, decDigits c, decDigits d, decDigits l] [46] := by
 obtain ⟨x1, x2, x3, x4, x5, hsp, h1, h2, h3, h4, h5⟩ := h
 rw [(numGet_iff.1 h1).2, (numGet_iff.1 h2).2, (numGet_iff.1 h3).2, (numGet_iff.1 h4).2, (numGet_iff.1 h5).2, ← hsp]
 exact (join_splitD s).symm
theorem Five.only {s : Str} {a b c d l : Nat} {a' b' c' d' l' : Int} (h : Five s a b c d l) (hs : s ≠ [45]) (hok : ptrOkB a' b' c' d' l' = true) (e : ptrS a' b' c' d' l' = s) :
 a' = (a : Int) ∧ b' = (b : Int) ∧ c' = (c : Int) ∧ d' = (d : Int) ∧ l' = (l : Int) ∧ ptrHole a' b' c' d' l' = false := by
 obtain ⟨x1, x2, x3, x4, x5, hsp, h1, h2, h3, h4, h5⟩ := h
 obtain ⟨hh, hsp', k1, k2, k3, k4, k5⟩ := ptr_dec hs hok e
 rw [hsp'] at hsp
 simp only [List.cons.injEq, and_true] at hsp
 obtain ⟨r1, r2, r3, r4, r5⟩ := hsp
 subst r1 r2 r3 r4 r5
 rw [numGet_dec k1] at h1; rw [numGet_dec k2] at h2; rw [numGet_dec k3] at h3; rw [numGet_dec k4] at h4; rw [numGet_dec k5] at h5
 injection h1 with h1; injection h2 with h2; injection h3 with h3; injection h4 with h4; injection h5 with h5
 exact ⟨by omega, by omega, by omega, by omega, by omega, hh⟩
theorem Five.ok_text {s : Str} {a b c d l : Nat} (h : Five s a b c d l) (hok : ptrOkB a b c d l = true) (hh : ptrHole a b c d l = false) : ptrS a b c d l = s := by
 rw [ptrS_yes hok hh, h.text]
 simp
theorem Five.no_ok {s : Str} {a b c d l : Nat} (h : Five s a b c d l) (hs : s ≠ [45]) (hok : ¬ (ptrOkB a b c d l = true ∧ ptrHole a b c d l = false)) : ptrIs s 0 0 0 0 0 false :=
 .inr ⟨rfl, ⟨rfl, rfl, rfl, rfl, rfl⟩, fun a' b' c' d' l' hok' e => by
  obtain ⟨rfl, rfl, rfl, rfl, rfl, hh⟩ := h.only hs hok' e
  exact hok ⟨hok', hh⟩⟩
theorem Five.no_text {s : Str} {a b c d l : Nat} (h : Five s a b c d l) (hs : s ≠ [45]) (hn : ptrS a b c d l ≠ s) : ptrIs s 0 0 0 0 0 false :=
 .inr ⟨rfl, ⟨rfl, rfl, rfl, rfl, rfl⟩, fun a' b' c' d' l' hok' e => by
  obtain ⟨rfl, rfl, rfl, rfl, rfl, _⟩ := h.only hs hok' e
  exact hn e⟩
theorem Five.yes_ok {s : Str} {a b c d l : Nat} (h : Five s a b c d l) (hok : ptrOkB a b c d l = true) (hh : ptrHole a b c d l = false) : ptrIs s a b c d l true := .inl ⟨rfl, hok, h.ok_text hok hh⟩
theorem Five.yes_text {s : Str} {a b c d l : Nat} (h : Five s a b c d l) (hn : ptrS a b c d l = s) : ptrIs s a b c d l true := by
 cases hok : ptrOkB (a : Int) b c d l with
 | true => exact .inl ⟨rfl, hok, hn⟩
 | false =>
   exfalso
   rw [ptrS_no hok] at hn
   obtain ⟨x1, x2, x3, x4, x5, hsp, _⟩ := h
   rw [← hn] at hsp
   simp [splitD] at hsp
theorem ptr_one {s : Str} {a b c d l a' b' c' d' l' : Int} (h : ptrOkB a b c d l = true) (k : ptrS a b c d l = s) (h' : ptrOkB a' b' c' d' l' = true) (k' : ptrS a' b' c' d' l' = s) :
 a = a' ∧ b = b' ∧ c = c' ∧ d = d' ∧ l = l' := by
 by_cases hs : s = [45]
 · have key : ∀ a b c d l : Int, ptrOkB a b c d l = true → ptrS a b c d l = [45] → a = 0 ∧ b = 0 ∧ c = 0 ∧ d = 0 ∧ l = 0 := by
    intro a b c d l h k
    cases hh : ptrHole a b c d l with
    | true => unfold ptrHole at hh; simpa using hh
    | false =>
      exfalso
      rw [ptrS_yes h hh] at k
      have := congrArg splitD k
      rw [splitD_join5 (dot_dec _) (dot_dec _) (dot_dec _) (dot_dec _) (dot_dec _)] at this
      simp [splitD] at this
   subst hs
   obtain ⟨rfl, rfl, rfl, rfl, rfl⟩ := key _ _ _ _ _ h k
   obtain ⟨rfl, rfl, rfl, rfl, rfl⟩ := key _ _ _ _ _ h' k'
   exact ⟨rfl, rfl, rfl, rfl, rfl⟩
 obtain ⟨_, hsp, h1, h2, h3, h4, h5⟩ := ptr_dec hs h k
 obtain ⟨_, hsp', h1', h2', h3', h4', h5'⟩ := ptr_dec hs h' k'
 rw [hsp] at hsp'
 simp only [List.cons.injEq, and_true] at hsp'
 obtain ⟨r1, r2, r3, r4, r5⟩ := hsp'
 have := dec_inj r1; have := dec_inj r2; have := dec_inj r3; have := dec_inj r4; have := dec_inj r5
 omega
theorem ptrIs_one {s : Str} {a b c d l a' b' c' d' l' : Int} {ok ok' : Bool} (h : ptrIs s a b c d l ok) (k : ptrIs s a' b' c' d' l' ok') : a = a' ∧ b = b' ∧ c = c' ∧ d = d' ∧ l = l' ∧ ok = ok' := by
 rcases h with ⟨rfl, h1, h2⟩ | ⟨rfl, h1, h2⟩ <;> rcases k with ⟨rfl, k1, k2⟩ | ⟨rfl, k1, k2⟩
 · obtain ⟨r1, r2, r3, r4, r5⟩ := ptr_one h1 h2 k1 k2
   exact ⟨r1, r2, r3, r4, r5, rfl⟩
 · exact absurd h2 (k2 _ _ _ _ _ h1)
 · exact absurd k2 (h2 _ _ _ _ _ k1)
 obtain ⟨rfl, rfl, rfl, rfl, rfl⟩ := h1
 obtain ⟨rfl, rfl, rfl, rfl, rfl⟩ := k1
 exact ⟨rfl, rfl, rfl, rfl, rfl, rfl⟩
theorem ptrIs_ptrS {a b c d l : Int} (h : ptrOkB a b c d l = true) {a' b' c' d' l' : Int} {ok : Bool} (k : ptrIs (ptrS a b c d l) a' b' c' d' l' ok) : a' = a ∧ b' = b ∧ c' = c ∧ d' = d ∧ l' = l ∧ ok = true := by
 have := ptrIs_one k (.inl ⟨rfl, h, rfl⟩)
 exact this
end Go.Proofs.YtjnhiiaejeaikaaGreatDoor
namespace Go.Proofs.YtjnhiiaejeaikaaGreatDoor
open Go Go.Lib Go.RowKit
theorem ext_strB (b : Str) (i j : Nat) : (strB b).extract i j = strB ((b.take j).drop i) := by
 apply ByteArray.ext
 rw [ByteArray.data_extract]
 apply Array.ext'
 simp [strB, List.drop_take]
theorem ext_head (b : Str) (n : Nat) : (strB b).extract 0 n = strB (b.take n) := by rw [ext_strB]; rfl
theorem ext_tail (b : Str) (n : Nat) : (strB b).extract n (strB b).size = strB (b.drop n) := by
 rw [ext_strB, strB_size, List.take_of_length_le (Nat.le_refl _)]
def GotRec (s : Str) (w : World) (e : Ending) (w' : World) : Prop :=
 (∃ (l : List Str) (A : Option Addr) (c : Nat), IsRec s l ∧ e = .returned (.tuple #[.slice A l.length c, .bool true]) ∧ StrsIn w.heap.size w' A c l ∧ Below w.heap.size w w') ∨
 ((∀ l, ¬ IsRec s l) ∧ (∃ (A : Option Addr) (c : Nat), e = .returned (.tuple #[.slice A 0 c, .bool false])) ∧ Below w.heap.size w w')
theorem GotRec.no {s : Str} {A : Option Addr} {c : Nat} {w w' : World} (h : ∀ l, ¬ IsRec s l) (hb : Below w.heap.size w w') : GotRec s w (.returned (.tuple #[.slice A 0 c, .bool false])) w' := .inr ⟨h, ⟨A, c, rfl⟩, hb⟩
theorem GotRec.yes {s : Str} {l : List Str} {A : Option Addr} {c n : Nat} {w w' : World} (h : IsRec s l) (hn : n = l.length) (hI : StrsIn w.heap.size w' A c l) (hb : Below w.heap.size w w') : GotRec s w (.returned (.tuple #[.slice A n c, .bool true])) w' := by
 subst hn
 exact .inl ⟨l, A, c, h, rfl, hI, hb⟩
theorem StrsIn.nil' {B : Nat} {w : World} (A : Option Addr) : StrsIn B w A 0 [] := ⟨[], OwnA.nil A, by simp⟩
def strLen (v : Value) : Nat := match v with | .string s => s.size | _ => 0
theorem empty_yes : ((strB []).toList == []) = true := by rw [strB_list]; rfl
theorem empty_no {x : Str} (h : x ≠ []) : ((strB x).toList == []) = false := by rw [strB_list]; cases x with
 | nil => exact absurd rfl h
 | cons a x => rfl
set_option maxRecDepth 100000 in
theorem cloneS_any (s : ByteArray) (w : World) (hs : s.size ≤ 1099511627776) : Calls Tryz.prog 102 #[.string s] w fun e w' => e = .returned (.string s) ∧ Below w.heap.size w w' := by
 go_enter Tryz.func102, Tryz.ntmps102
 go_wp2_with fail
 refine (Tryz.stringslite_Clone s w (by omega)).mono ?_
 rintro e w1 ⟨rfl, hb⟩
 go_wp2_with fail
 go_ret
 exact ⟨rfl, hb⟩
def CutR (s : Str) (w : World) (e : Ending) (w' : World) : Prop :=
 e = .returned (.tuple #[.string (strB (match cutC s with | some (a, _) => a | none => s)), .string (strB (match cutC s with | some (_, b) => b | none => [])), .bool (cutC s).isSome]) ∧ Below w.heap.size w w'
theorem cutS_any (s : Str) (w : World) (he : Env w) (hs : s.length ≤ 1000000) : Calls Tryz.prog 101 #[.string (strB s), .string ⟨#[58]⟩] w (CutR s w) := by
 obtain ⟨_, _, m, hm⟩ := he
 have C := Tryz.strings_Cut (strB s) ⟨#[58]⟩ m w (by rw [strB_size]; omega) hm
 rw [show (strB s).data.toList = s by simp [strB], show (⟨#[58]⟩ : ByteArray).data.toList = [58] from rfl] at C
 refine C.mono ?_
 rintro e w' ⟨rfl, q, rfl⟩
 refine ⟨?_, below_drewN (Below.refl _ _) q⟩
 cases hc : cutC s with
 | none => rw [cut_none hc]; rfl
 | some p => obtain ⟨a, b⟩ := p; rw [cut_some hc]; rfl
set_option maxRecDepth 100000 in
set_option maxHeartbeats 4000000 in
theorem fieldsGet_any (s : Str) (w : World) (he : Env w) (hs : s.length ≤ 1099511627776) : Calls Tryz.prog 86 #[.string (strB s)] w (GotRec s w) := by
 have hsz : (strB s).size = s.length := rfl
 obtain ⟨i0, hi0, hz0, hz1, hz2⟩ := info_parts info_strs
 by_cases hlen : s.length ≤ 2048
 · have hli : ¬ (2048 : Int) < (s.length : Int) := by omega
   go_enter Tryz.func86, Tryz.ntmps86
   go_wp2_with fail
   go_loopw [4, 5] (fun t r wr => ∃ (out : List Str) (rest : Str) (A : Option Addr) (c n : Nat), t = .slice A n c ∧ r = .string (strB rest) ∧ n ≤ 60 ∧ rest.length ≤ 2048 ∧ Hid (n = out.length) ∧ Hid (encs out ++ rest = s) ∧ Hid (∀ f ∈ out, f.length ≤ 999999999) ∧ Hid (StrsIn w.heap.size wr A c out) ∧ Hid (Below w.heap.size w wr)) (fun _ r _ => strLen r)
   case atStart => exact ⟨[], s, none, 0, 0, rfl, rfl, by omega, hlen, Lib.hid rfl, Lib.hid rfl, Lib.hid (by simp), Lib.hid StrsIn.nil, Lib.hid (Below.refl _ _)⟩
   obtain ⟨out, rest, A, c, n, rfl, rfl, hn60, hrl, HN, HE, HF, HI, HB⟩ := hrel
   have hbw : w.heap.size ≤ wr.heap.size := HB.out.size
   by_cases hr : rest = []
   · subst hr
     have hz := empty_yes
     have HR : Hid (IsRec s out) := Lib.hid ⟨by have := HE.out; rw [List.append_nil] at this; exact this, by have := HN.out; omega, hlen⟩
     go_wp2_with fail
     exact bodyPost_ret (v := .tuple #[.slice A n c, .bool true]) (by simp [results, Tryz.results86, go_sem]) rfl (GotRec.yes HR.out HN.out HI.out HB.out)
   have hz := empty_no hr
   have HRN := Lib.hid hr
   have HEw := Lib.hid (he.below HB.out)
   clear hr
   go_wp2_with fail
   refine (cutS_any rest wr HEw.out (by omega)).mono ?_
   cases hc : cutC rest with
   | none =>
     rintro e w1 ⟨rfl, hb1⟩
     rw [hc]
     have HNO := Lib.hid (no_rec HE.out HF.out HRN.out (stepF_none hc))
     have HB1 := HB.out.trans (hb1.mono hbw)
     have HEn := Lib.hid (HEw.out.below hb1)
     clear hc hb1
     simp only [Option.isSome_none]
     go_wp2_with fail
     refine (numGet_any rest w1 HEn.out (by omega)).mono ?_
     rintro e w2 ⟨rfl, hb2⟩
     have HB2 := Lib.hid (HB1.trans (hb2.mono HB1.size))
     clear hb2
     go_wp2_with fail
     exact bodyPost_ret (v := .tuple #[.slice none 0 0, .bool false]) (by simp [results, Tryz.results86, go_sem]) rfl (GotRec.no HNO.out HB2.out)
   | some p =>
     obtain ⟨a, b⟩ := p
     rintro e w1 ⟨rfl, hb1⟩
     rw [hc]
     obtain ⟨hab, _⟩ := cutC_eq hc
     have hal : a.length + 1 + b.length = rest.length := by rw [hab]; simp; omega
     have HB1 := HB.out.trans (hb1.mono hbw)
     have HEn := Lib.hid (HEw.out.below hb1)
     have HC := Lib.hid hc
     have HI1 := Lib.hid (HI.out.below hb1)
     clear hc hb1 hab HI
     simp only [Option.isSome_some]
     go_wp2_with fail
     refine (numGet_any a w1 HEn.out (by omega)).mono ?_
     rintro e w2 ⟨rfl, hb2⟩
     have HB2 := Lib.hid (HB1.trans (hb2.mono HB1.size))
     have HI2 := Lib.hid (HI1.out.below hb2)
     clear hb2 HI1 HB1
     cases hg : numGet a with
     | none =>
       have HNO := Lib.hid (no_rec HE.out HF.out HRN.out (stepF_bad HC.out hg))
       clear hg
       simp only [Option.isSome_none, Option.getD_none]
       go_wp2_with fail
       exact bodyPost_ret (v := .tuple #[.slice none 0 0, .bool false]) (by simp [results, Tryz.results86, go_sem]) rfl (GotRec.no HNO.out HB2.out)
     | some k =>
       have HG := Lib.hid hg
       have hk9 := numGet_le hg
       clear hg
       simp only [Option.isSome_some, Option.getD_some]
       have hbsz : (strB b).size = b.length := rfl
       by_cases hkb : k ≤ b.length
       · have hkbi : ¬ (b.length : Int) < (k : Int) := by omega
         by_cases h60 : n = 60
         · have HNO : Hid (∀ l, ¬ IsRec s l) := Lib.hid (fun l hl => by have := rec_more HE.out HF.out HRN.out hl; have := hl.2.1; have := HN.out; omega)
           subst h60
           go_wp2_with fail
           exact bodyPost_ret (v := .tuple #[.slice none 0 0, .bool false]) (by simp [results, Tryz.results86, go_sem]) rfl (GotRec.no HNO.out HB2.out)
         have h60i : ((n : Int) == 60) = false := by simp; omega
         have hx1 := ext_head b k
         have hx2 : (strB b).extract k b.length = strB (b.drop k) := ext_tail b k
         have hki : (k : Int) ≤ (b.length : Int) := by omega
         have hk0 : (0 : Int) ≤ (k : Int) := by omega
         have hfl : (strB (b.take k)).size ≤ 1099511627776 := by rw [strB_size, List.length_take]; omega
         go_wp2_with fail
         refine (cloneS_any (strB (b.take k)) w2 hfl).mono ?_
         rintro e w3 ⟨rfl, hb3⟩
         have HI3 := HI2.out.below hb3
         have HB3 := HB2.out.trans (hb3.mono HB2.out.size)
         clear hb3 HI2 HB2
         obtain ⟨S, hOS, hSB⟩ := HI3
         rw [← HN.out] at hOS
         obtain ⟨x, hxx⟩ : ∃ x, x = b.take k := ⟨_, rfl⟩
         rw [← hxx]
         have HX := Lib.hid hxx
         have HOA := Lib.hid (hOS.below (bel1 (o := .cells #[.string (strB x)] 9)))
         have HLIT := Lib.hid (fun (W : World) => RowAt.lit (w := W) (e := 9) (cur := #[.string (strB x)]) (m := 1) rfl)
         have HONE : Hid (∀ u ∈ [x].map strV, u.oneCell' = true) := Lib.hid (strs_one _)
         have HSB := Lib.hid hSB
         have HB3' := Lib.hid HB3
         clear hOS hSB HB3 HB hxx
         go_wp2_with (at_builtin; go_must (refine wpList_append_row rfl _ _ 22 rfl 9 i0 (.string ByteArray.empty) 1 16 Tryz.underlying22 hi0 hz0 hz1 hz2 rfl (by decide) S A _ n c 1 _ (out.map strV) ([x].map strV) rfl rfl HOA.out (HLIT.out _) HONE.out (by unfold maxLen; omega) (by omega) ?_))
         intro A' c' S' w5 hO' hS' hC'
         obtain ⟨hI5, hb5⟩ := app_strs (B := w.heap.size) HSB.out (w1 := w3.alloc (.cells #[.string (strB x)] 9)) (fs := out) (gs := [x]) (by have := HB3'.out.size; simp; omega) (by rw [List.length_append, List.length_singleton, HN.out]) hO' (fun g hg => (hS' g hg).imp id (fun h => by simpa using h)) hC'
         have HB5 := Lib.hid (HB3'.out.trans (((Below.refl _ _).alloc HB3'.out.size _).trans hb5))
         have HI5 := Lib.hid hI5
         have hst := stepF_eq (stepF_ok HC.out HG.out hkb)
         have HE5 : Hid (encs (out ++ [x]) ++ b.drop k = s) := Lib.hid (by
          rw [encs_append, encs_cons, encs_nil, List.append_nil, List.append_assoc, HX.out, ← hst.1]; exact HE.out)
         have HF5 : Hid (∀ f ∈ out ++ [x], f.length ≤ 999999999) := Lib.hid (fun f hf => by
          rcases List.mem_append.1 hf with hf | hf
          · exact HF.out f hf
          · rw [List.mem_singleton] at hf; subst hf; rw [HX.out]; exact hst.2)
         have HN5 : Hid (n + 1 = (out ++ [x]).length) := Lib.hid (by rw [List.length_append, List.length_singleton, HN.out])
         have hn1 : n + 1 ≤ 60 := by omega
         have hdl : (b.drop k).length ≤ 2048 := by rw [List.length_drop]; omega
         have hms : (b.drop k).length < rest.length := by rw [List.length_drop]; omega
         clear hb5 hO' hS' hC' HOA HLIT HONE HSB HB3' hst HE HF HN HI5
         have HI5 := Lib.hid hI5
         go_wp2_with fail
         go_roundw
         case rel => exact ⟨out ++ [x], b.drop k, A', c', n + 1, rfl, rfl, hn1, hdl, HN5, HE5, HF5, HI5, HB5⟩
         exact hms
       have hkbi : (b.length : Int) < (k : Int) := by omega
       have HNO := Lib.hid (no_rec HE.out HF.out HRN.out (stepF_short HC.out HG.out hkb))
       go_wp2_with fail
       exact bodyPost_ret (v := .tuple #[.slice none 0 0, .bool false]) (by simp [results, Tryz.results86, go_sem]) rfl (GotRec.no HNO.out HB2.out)
 have hli : (2048 : Int) < (s.length : Int) := by omega
 go_enter Tryz.func86, Tryz.ntmps86
 go_wp2_with fail
 exact bodyPost_ret (v := .tuple #[.slice none 0 0, .bool false]) (by simp [results, Tryz.results86, go_sem]) rfl (GotRec.no (fun l hl => hlen hl.2.2) (Below.refl _ _))
end Go.Proofs.YtjnhiiaejeaikaaGreatDoor
