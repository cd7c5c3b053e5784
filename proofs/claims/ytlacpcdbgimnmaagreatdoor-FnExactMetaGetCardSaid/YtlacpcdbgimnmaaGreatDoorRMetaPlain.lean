/- The texts of dead references, of the program and of the reference. Condition: the table of powers lies as its initialiser lays it. -/
import Derived.Test.YtlacpcdbgimnmaaGreatDoorRTypes
import Derived.Test.YtlacpcdbgimnmaaGreatDoorRRecs
import Derived.Lib.DecodeN
import Derived.Shelf.GgClosure.StringsIndexFuncTop
import Derived.Test.YtlacpcdbgimnmaaGreatDoorRNumGet
import Derived.Test.YtlacpcdbgimnmaaGreatDoorRNum
import Derived.Test.YtlacpcdbgimnmaaGreatDoorRPtrPut
import Derived.Test.YtlacpcdbgimnmaaGreatDoorRTreeF
set_option linter.unnecessarySimpa false
set_option linter.unusedSimpArgs false
set_option linter.unusedVariables false
namespace Go.Proofs.YtlacpcdbgimnmaaGreatDoor
open Go Go.Lib Go.RowKit
def pcL (x : PtrD) : List Value := [.int .i64 x.1, .int .i64 x.2.1, .int .i64 x.2.2.1, .int .i64 x.2.2.2.1, .int .i64 x.2.2.2.2]
theorem row_ptrs {w : World} {lo hi : Nat} : ∀ ys : List PtrD, RowV (PtrR w lo hi) 5 (ys.flatMap pcL) ys
 | [] => RowV.nil _ _
 | x :: ys => by
   have h1 : RowV (PtrR w lo hi) 5 (pcL x) [x] := RowV.one rfl rfl
   have := RowV.append h1 (row_ptrs ys) rfl
   simpa using this
theorem pcL_one (ys : List PtrD) : ∀ u ∈ ys.flatMap pcL, u.oneCell' = true := by
 intro u hu
 obtain ⟨x, _, hx⟩ := List.mem_flatMap.1 hu
 simp [pcL] at hx
 rcases hx with rfl | rfl | rfl | rfl | rfl <;> rfl
def PtrsAt (B : Nat) (A : Option Addr) (c : Nat) (S : List Nat) (ys : List PtrD) (w : World) : Prop := OwnA w 37 5 S A ys.length c (ys.flatMap pcL) ∧ ∀ g ∈ S, B ≤ g
theorem PtrsAt.below {B : Nat} {A : Option Addr} {c : Nat} {S : List Nat} {ys : List PtrD} {w w' : World} (h : PtrsAt B A c S ys w) (hb : Below w.heap.size w w') : PtrsAt B A c S ys w' := ⟨h.1.below hb, h.2⟩
theorem PtrsAt.slice {B : Nat} {A : Option Addr} {c : Nat} {S : List Nat} {ys : List PtrD} {w : World} (h : PtrsAt B A c S ys w) : SliceR PtrR 5 w B w.heap.size A ys.length c ys :=
 (h.1.slice rfl (row_ptrs ys) (fun g hg => ⟨h.2 g hg, h.1.lt g hg⟩) (Nat.le_refl _)).1
theorem PtrsAt.nil {B : Nat} {A : Option Addr} {w : World} : PtrsAt B A 0 [] [] w := ⟨OwnA.nil _, by simp⟩
theorem app_ptrs {B : Nat} {S S' : List Nat} {w1 w2 : World} {A' : Option Addr} {c' n : Nat} {fs gs : List PtrD} (hS : ∀ g ∈ S, B ≤ g) (hB : B ≤ w1.heap.size) (hn : n = (fs ++ gs).length)
 (hO : OwnA w2 37 5 S' A' n c' (fs.flatMap pcL ++ gs.flatMap pcL)) (hS' : ∀ g ∈ S', g ∈ S ∨ w1.heap.size ≤ g) (hC : Chg (· ∈ S) w1 w2) :
 PtrsAt B A' c' S' (fs ++ gs) w2 ∧ Below B w1 w2 := by
 subst hn
 exact ⟨⟨by simpa using hO, fun g hg => (hS' g hg).elim (hS g) (fun h => Nat.le_trans hB h)⟩, hC.below (fun g _ hg => hS g hg) hB⟩
end Go.Proofs.YtlacpcdbgimnmaaGreatDoor
namespace Go.Proofs.YtlacpcdbgimnmaaGreatDoor
open Go Go.Lib
def splitC : Str → List Str
 | [] => [[]]
 | c :: s => if c = 44 then [] :: splitC s else match splitC s with
   | [] => [[c]]
   | x :: xs => (c :: x) :: xs
theorem splitC_ne : ∀ s, splitC s ≠ []
 | [] => by simp [splitC]
 | c :: s => by
   unfold splitC
   split
   · simp
   split <;> simp
theorem splitC_free {s : Str} (h : (44 : UInt8) ∉ s) : splitC s = [s] := by
 induction s with
 | nil => rfl
 | cons c s ih =>
   simp only [List.mem_cons, not_or] at h
   unfold splitC
   rw [if_neg (fun e => h.1 e.symm), ih h.2]
theorem splitC_cut {a b : Str} (h : (44 : UInt8) ∉ a) : splitC (a ++ 44 :: b) = a :: splitC b := by
 induction a with
 | nil => simp [splitC]
 | cons c a ih =>
   simp only [List.mem_cons, not_or] at h
   simp only [List.cons_append]
   rw [splitC.eq_def]
   simp only
   rw [if_neg (fun e => h.1 e.symm), ih h.2]
theorem splitK_C : ∀ (k : Nat) (s : Str), s.count 44 = k → splitK [44] 0 k s = splitC s := by
 intro k
 induction k with
 | zero =>
   intro s hs
   rw [splitC_free (fun hm => by rw [List.count_eq_zero] at hs; exact hs hm)]
   rfl
 | succ k ih =>
   intro s hs
   cases hc : cutG 44 s with
   | none =>
     have h1 := (cutG_none hc).1
     rw [List.count_eq_zero.2 h1] at hs
     omega
   | some p =>
     obtain ⟨a, b⟩ := p
     obtain ⟨e, h1, h2⟩ := cutG_some hc
     unfold splitK
     have h3 : ((a.length : Int) == -1) = false := by simp <;> omega
     rw [h2, h3]
     simp only [Bool.false_eq_true, if_false, Int.toNat_natCast, Nat.add_zero, List.length_singleton]
     have ht : s.take a.length = a := by rw [e]; simp
     have hdr : s.drop (a.length + 1) = b := by rw [e]; simp
     have hcb : b.count 44 = k := by
      rw [e, List.count_append, List.count_cons, List.count_eq_zero.2 h1] at hs
      simp at hs; omega
     rw [ht, hdr, ih b hcb, e, splitC_cut h1]
theorem pieceC_le : ∀ (s : Str), ∀ x ∈ splitC s, x.length ≤ s.length
 | [], x, h => by simp [splitC] at h; subst h; simp
 | c :: s, x, h => by
   have ih := pieceC_le s
   unfold splitC at h
   split at h
   · rcases List.mem_cons.1 h with rfl | h
     · simp
     have := ih x h; simp; omega
   split at h
   · rename_i hc hs; exact absurd hs (splitC_ne s)
   rename_i y ys hs
   rw [hs] at ih
   rcases List.mem_cons.1 h with rfl | h
   · have := ih y (by simp); simp; omega
   have := ih x (by simp [h]); simp; omega
theorem piecesC_le : ∀ (s : Str), (splitC s).length ≤ s.length + 1
 | [] => by simp [splitC]
 | c :: s => by
   have ih := piecesC_le s
   unfold splitC
   split
   · simp; omega
   split
   · simp
   rename_i y ys hs; rw [hs] at ih; simp at ih ⊢; omega
theorem splitC_join : ∀ (xs : List Str), xs ≠ [] → (∀ x ∈ xs, (44 : UInt8) ∉ x) → splitC (join xs [44]) = xs
 | [], h, _ => absurd rfl h
 | [x], _, hx => by
   have e : join [x] [44] = x := by rw [join_cons]; simp [joinTail]
   rw [e, splitC_free (hx x (by simp))]
 | x :: y :: r, _, hx => by
   have e : join (x :: y :: r) [44] = x ++ 44 :: join (y :: r) [44] := by rw [join_cons, join_cons]; simp [joinTail]
   rw [e, splitC_cut (hx x (by simp)), splitC_join (y :: r) (by simp) (fun z hz => hx z (List.mem_cons_of_mem _ hz))]
end Go.Proofs.YtlacpcdbgimnmaaGreatDoor
namespace Go.Proofs.YtlacpcdbgimnmaaGreatDoor
section
open Go Go.Lib
end
section
open Go Go.Lib
def isLow (c : UInt8) : Bool := decide (97 ≤ c.toNat ∧ c.toNat ≤ 122)
theorem isLow_iff {c : UInt8} : isLow c = true ↔ 97 ≤ c.toNat ∧ c.toNat ≤ 122 := by unfold isLow; rw [decide_eq_true_iff]
def namB (s : Str) : Bool := decide (1 ≤ s.length ∧ s.length ≤ 4) && s.all isLow
def notLow (r : Nat) : Bool := decide (r < 97) || decide (122 < r)
theorem notLow_yes {r : Nat} (h : r < 97 ∨ 122 < r) : notLow r = true := by unfold notLow; rw [Bool.or_eq_true, decide_eq_true_iff, decide_eq_true_iff]; exact h
theorem notLow_no {r : Nat} (h : ¬ (r < 97 ∨ 122 < r)) : notLow r = false := by
 cases hn : notLow r with
 | false => rfl
 | true => unfold notLow at hn; rw [Bool.or_eq_true, decide_eq_true_iff, decide_eq_true_iff] at hn; exact absurd hn h
theorem dec_lo {s : ByteArray} {i : Nat} (h : (s.get! i).toNat < 128) : Utf8.decode s i = ((s.get! i).toNat, 1) := by
 rw [decode_at]; unfold decodeN; rw [if_pos h]
theorem dec_hi {s : ByteArray} {i : Nat} (h : ¬ (s.get! i).toNat < 128) : 128 ≤ (Utf8.decode s i).1 := by
 rw [decode_at]; unfold decodeN; rw [if_neg h]
 repeat' split
 all_goals (simp only; omega)
theorem idx_low (s : ByteArray) : ∀ (f pos : Nat), s.size ≤ pos + f → (Lib.idxFuncFrom notLow true s f pos < 0 ↔ ∀ j, pos ≤ j → j < s.size → isLow (s.get! j) = true)
 | 0, pos, h => ⟨fun _ j h1 h2 => by omega, fun _ => by unfold Lib.idxFuncFrom; decide⟩
 | f + 1, pos, h => by
   unfold Lib.idxFuncFrom
   by_cases hp : pos < s.size
   · rw [if_pos hp]
     by_cases hb : (s.get! pos).toNat < 128
     · rw [dec_lo hb]
       simp only
       by_cases hl : isLow (s.get! pos) = true
       · have hl' := isLow_iff.1 hl
         rw [notLow_no (by omega), if_neg (by decide), idx_low s f (pos + 1) (by omega)]
         refine ⟨fun H j a b => ?_, fun H j a b => H j (by omega) b⟩
         by_cases e : j = pos
         · subst e; exact hl
         exact H j (by omega) b
       have hn : (s.get! pos).toNat < 97 ∨ 122 < (s.get! pos).toNat := by
        apply Decidable.byContradiction
        intro hc
        exact hl (isLow_iff.2 (by omega))
       rw [notLow_yes hn, if_pos rfl]
       exact ⟨fun h => by omega, fun H => absurd (H pos (Nat.le_refl _) hp) hl⟩
     have h2 := dec_hi hb
     rw [notLow_yes (by omega), if_pos rfl]
     refine ⟨fun h => by omega, fun H => ?_⟩
     have := isLow_iff.1 (H pos (Nat.le_refl _) hp)
     omega
   rw [if_neg hp]
   exact ⟨fun _ j h1 h2 => by omega, fun _ => by decide⟩
theorem strB_get {l : Str} {j : Nat} (h : j < l.length) : (strB l).get! j = l[j] := by
 have : (strB l).data[j]! = l[j] := by simp [strB, h]
 exact this
theorem all_low (l : Str) : l.all isLow = true ↔ ∀ j, 0 ≤ j → j < (strB l).size → isLow ((strB l).get! j) = true := by
 rw [List.all_eq_true]
 refine ⟨fun H j _ h => ?_, fun H c hc => ?_⟩
 · have h' : j < l.length := h
   rw [strB_get h']
   exact H _ (List.getElem_mem h')
 obtain ⟨j, h, rfl⟩ := List.mem_iff_getElem.1 hc
 have := H j (Nat.zero_le _) h
 rwa [strB_get h] at this
theorem nam_idx (l : Str) : decide (Lib.idxFunc notLow true (strB l) < 0) = l.all isLow := by
 rw [Bool.eq_iff_iff, decide_eq_true_iff, all_low]
 unfold Lib.idxFunc
 exact idx_low _ _ _ (by omega)
end
end Go.Proofs.YtlacpcdbgimnmaaGreatDoor
namespace Go.Proofs.YtlacpcdbgimnmaaGreatDoor
open Go Go.Lib
def ptrIs (s : Str) (a b c d l : Int) (ok : Bool) : Prop :=
 (ok = true ∧ ptrOkB a b c d l = true ∧ ptrS a b c d l = s) ∨
 (ok = false ∧ (a = 0 ∧ b = 0 ∧ c = 0 ∧ d = 0 ∧ l = 0) ∧ ∀ a b c d l : Int, ptrOkB a b c d l = true → ptrS a b c d l ≠ s)
theorem ptr_dec {s : Str} {a b c d l : Int} (hs : s ≠ [45]) (h : ptrOkB a b c d l = true) (k : ptrS a b c d l = s) :
 ptrHole a b c d l = false ∧ splitD s = [decDigits a.toNat, decDigits b.toNat, decDigits c.toNat, decDigits d.toNat, decDigits l.toNat] ∧ (0 ≤ a ∧ a ≤ 999999999) ∧ (0 ≤ b ∧ b ≤ 999999999) ∧ (0 ≤ c ∧ c ≤ 999999999) ∧ (0 ≤ d ∧ d ≤ 999999999) ∧ (0 ≤ l ∧ l ≤ 999999999) := by
 cases hh : ptrHole a b c d l with
 | true => rw [ptrS_hole h hh] at k; exact absurd k.symm hs
 | false =>
   have hb := ptr_bounds h hh
   refine ⟨rfl, ?_, by omega, by omega, by omega, by omega, by omega⟩
   rw [← k, ptrS_yes h hh]
   exact splitD_join5 (dot_dec _) (dot_dec _) (dot_dec _) (dot_dec _) (dot_dec _)
theorem ptr_hole_text : ptrIs [45] 0 0 0 0 0 true := .inl ⟨rfl, by decide, rfl⟩
theorem ptr_len {s : Str} (hs : s ≠ [45]) (h : (splitD s).length ≠ 5) : ptrIs s 0 0 0 0 0 false :=
 .inr ⟨rfl, ⟨rfl, rfl, rfl, rfl, rfl⟩, fun a b c d l hok e => by
  have := (ptr_dec hs hok e).2.1
  rw [this] at h
  exact h rfl⟩
theorem numGet_dec {n : Int} (h : 0 ≤ n ∧ n ≤ 999999999) : numGet (decDigits n.toNat) = some n.toNat := numGet_iff.2 ⟨by omega, rfl⟩
theorem ptr_bad {s : Str} {j : Nat} {x : Str} (hs : s ≠ [45]) (hx : (splitD s)[j]? = some x) (h : numGet x = none) : ptrIs s 0 0 0 0 0 false :=
 .inr ⟨rfl, ⟨rfl, rfl, rfl, rfl, rfl⟩, fun a b c d l hok e => by
  obtain ⟨_, hsp, h1, h2, h3, h4, h5⟩ := ptr_dec hs hok e
  rw [hsp] at hx
  match j, hx with
  | 0, hx => obtain rfl := Option.some.inj hx; rw [numGet_dec h1] at h; cases h
  | 1, hx => obtain rfl := Option.some.inj hx; rw [numGet_dec h2] at h; cases h
  | 2, hx => obtain rfl := Option.some.inj hx; rw [numGet_dec h3] at h; cases h
  | 3, hx => obtain rfl := Option.some.inj hx; rw [numGet_dec h4] at h; cases h
  | 4, hx => obtain rfl := Option.some.inj hx; rw [numGet_dec h5] at h; cases h
  | j + 5, hx => simp at hx⟩
def Five (s : Str) (a b c d l : Nat) : Prop := ∃ x1 x2 x3 x4 x5, splitD s = [x1, x2, x3, x4, x5] ∧ numGet x1 = some a ∧ numGet x2 = some b ∧ numGet x3 = some c ∧ numGet x4 = some d ∧ numGet x5 = some l
theorem Five.text {s : Str} {a b c d l : Nat} (h : Five s a b c d l) : s = join [decDigits a, decDigits b, decDigits c, decDigits d, decDigits l] [46] := by
 obtain ⟨x1, x2, x3, x4, x5, hsp, h1, h2, h3, h4, h5⟩ := h
 rw [(numGet_iff.1 h1).2, (numGet_iff.1 h2).2, (numGet_iff.1 h3).2, (numGet_iff.1 h4).2, (numGet_iff.1 h5).2, ← hsp]
 exact (join_splitD s).symm
theorem Five.only {s : Str} {a b c d l : Nat} {a' b' c' d' l' : Int} (h : Five s a b c d l) (hs : s ≠ [45]) (hok : ptrOkB a' b' c' d' l' = true) (e : ptrS a' b' c' d' l' = s) :
 a' = (a : Int) ∧ b' = (b : Int) ∧ c' = (c : Int) ∧ d' = (d : Int) ∧ l' = (l : Int) ∧ ptrHole a' b' c' d' l' = false := by
 obtain ⟨x1, x2, x3, x4, x5, hsp, h1, h2, h3, h4, h5⟩ := h
 obtain ⟨hh, hsp', k1, k2, k3, k4, k5⟩ := ptr_dec hs hok e
 rw [hsp'] at hsp
 simp only [List.cons.injEq, and_true] at hsp
 obtain ⟨r1, r2, r3, r4, r5⟩ := hsp
 subst r1 r2 r3 r4 r5
 rw [numGet_dec k1] at h1; rw [numGet_dec k2] at h2; rw [numGet_dec k3] at h3; rw [numGet_dec k4] at h4; rw [numGet_dec k5] at h5
 injection h1 with h1; injection h2 with h2; injection h3 with h3; injection h4 with h4; injection h5 with h5
 exact ⟨by omega, by omega, by omega, by omega, by omega, hh⟩
theorem Five.ok_text {s : Str} {a b c d l : Nat} (h : Five s a b c d l) (hok : ptrOkB a b c d l = true) (hh : ptrHole a b c d l = false) : ptrS a b c d l = s := by
 rw [ptrS_yes hok hh, h.text]
 simp
theorem Five.no_ok {s : Str} {a b c d l : Nat} (h : Five s a b c d l) (hs : s ≠ [45]) (hok : ¬ (ptrOkB a b c d l = true ∧ ptrHole a b c d l = false)) : ptrIs s 0 0 0 0 0 false :=
 .inr ⟨rfl, ⟨rfl, rfl, rfl, rfl, rfl⟩, fun a' b' c' d' l' hok' e => by
  obtain ⟨rfl, rfl, rfl, rfl, rfl, hh⟩ := h.only hs hok' e
  exact hok ⟨hok', hh⟩⟩
theorem Five.no_text {s : Str} {a b c d l : Nat} (h : Five s a b c d l) (hs : s ≠ [45]) (hn : ptrS a b c d l ≠ s) : ptrIs s 0 0 0 0 0 false :=
 .inr ⟨rfl, ⟨rfl, rfl, rfl, rfl, rfl⟩, fun a' b' c' d' l' hok' e => by
  obtain ⟨rfl, rfl, rfl, rfl, rfl, _⟩ := h.only hs hok' e
  exact hn e⟩
theorem Five.yes_ok {s : Str} {a b c d l : Nat} (h : Five s a b c d l) (hok : ptrOkB a b c d l = true) (hh : ptrHole a b c d l = false) : ptrIs s a b c d l true := .inl ⟨rfl, hok, h.ok_text hok hh⟩
theorem Five.yes_text {s : Str} {a b c d l : Nat} (h : Five s a b c d l) (hn : ptrS a b c d l = s) : ptrIs s a b c d l true := by
 cases hok : ptrOkB (a : Int) b c d l with
 | true => exact .inl ⟨rfl, hok, hn⟩
 | false =>
   exfalso
   rw [ptrS_no hok] at hn
   obtain ⟨x1, x2, x3, x4, x5, hsp, _⟩ := h
   rw [← hn] at hsp
   simp [splitD] at hsp
theorem ptr_one {s : Str} {a b c d l a' b' c' d' l' : Int} (h : ptrOkB a b c d l = true) (k : ptrS a b c d l = s) (h' : ptrOkB a' b' c' d' l' = true) (k' : ptrS a' b' c' d' l' = s) :
 a = a' ∧ b = b' ∧ c = c' ∧ d = d' ∧ l = l' := by
 by_cases hs : s = [45]
 · have key : ∀ a b c d l : Int, ptrOkB a b c d l = true → ptrS a b c d l = [45] → a = 0 ∧ b = 0 ∧ c = 0 ∧ d = 0 ∧ l = 0 := by
    intro a b c d l h k
    cases hh : ptrHole a b c d l with
    | true => unfold ptrHole at hh; simpa using hh
    | false =>
      exfalso
      rw [ptrS_yes h hh] at k
      have := congrArg splitD k
      rw [splitD_join5 (dot_dec _) (dot_dec _) (dot_dec _) (dot_dec _) (dot_dec _)] at this
      simp [splitD] at this
   subst hs
   obtain ⟨rfl, rfl, rfl, rfl, rfl⟩ := key _ _ _ _ _ h k
   obtain ⟨rfl, rfl, rfl, rfl, rfl⟩ := key _ _ _ _ _ h' k'
   exact ⟨rfl, rfl, rfl, rfl, rfl⟩
 obtain ⟨_, hsp, h1, h2, h3, h4, h5⟩ := ptr_dec hs h k
 obtain ⟨_, hsp', h1', h2', h3', h4', h5'⟩ := ptr_dec hs h' k'
 rw [hsp] at hsp'
 simp only [List.cons.injEq, and_true] at hsp'
 obtain ⟨r1, r2, r3, r4, r5⟩ := hsp'
 have := dec_inj r1; have := dec_inj r2; have := dec_inj r3; have := dec_inj r4; have := dec_inj r5
 omega
theorem ptrIs_one {s : Str} {a b c d l a' b' c' d' l' : Int} {ok ok' : Bool} (h : ptrIs s a b c d l ok) (k : ptrIs s a' b' c' d' l' ok') : a = a' ∧ b = b' ∧ c = c' ∧ d = d' ∧ l = l' ∧ ok = ok' := by
 rcases h with ⟨rfl, h1, h2⟩ | ⟨rfl, h1, h2⟩ <;> rcases k with ⟨rfl, k1, k2⟩ | ⟨rfl, k1, k2⟩
 · obtain ⟨r1, r2, r3, r4, r5⟩ := ptr_one h1 h2 k1 k2
   exact ⟨r1, r2, r3, r4, r5, rfl⟩
 · exact absurd h2 (k2 _ _ _ _ _ h1)
 · exact absurd k2 (h2 _ _ _ _ _ k1)
 obtain ⟨rfl, rfl, rfl, rfl, rfl⟩ := h1
 obtain ⟨rfl, rfl, rfl, rfl, rfl⟩ := k1
 exact ⟨rfl, rfl, rfl, rfl, rfl, rfl⟩
theorem ptrIs_ptrS {a b c d l : Int} (h : ptrOkB a b c d l = true) {a' b' c' d' l' : Int} {ok : Bool} (k : ptrIs (ptrS a b c d l) a' b' c' d' l' ok) : a' = a ∧ b' = b ∧ c' = c ∧ d' = d ∧ l' = l ∧ ok = true := by
 have := ptrIs_one k (.inl ⟨rfl, h, rfl⟩)
 exact this
end Go.Proofs.YtlacpcdbgimnmaaGreatDoor
namespace Go.Proofs.YtlacpcdbgimnmaaGreatDoor
open Go Go.Lib Go.RowKit
theorem ext_strB (b : Str) (i j : Nat) : (strB b).extract i j = strB ((b.take j).drop i) := by
 apply ByteArray.ext
 rw [ByteArray.data_extract]
 apply Array.ext'
 simp [strB, List.drop_take]
theorem ext_head (b : Str) (n : Nat) : (strB b).extract 0 n = strB (b.take n) := by rw [ext_strB]; rfl
theorem ext_tail (b : Str) (n : Nat) : (strB b).extract n (strB b).size = strB (b.drop n) := by
 rw [ext_strB, strB_size, List.take_of_length_le (Nat.le_refl _)]
def GotRec (s : Str) (w : World) (e : Ending) (w' : World) : Prop :=
 (∃ (l : List Str) (A : Option Addr) (c : Nat), IsRec s l ∧ e = .returned (.tuple #[.slice A l.length c, .bool true]) ∧ StrsIn w.heap.size w' A c l ∧ Below w.heap.size w w') ∨
 ((∀ l, ¬ IsRec s l) ∧ (∃ (A : Option Addr) (c : Nat), e = .returned (.tuple #[.slice A 0 c, .bool false])) ∧ Below w.heap.size w w')
theorem GotRec.no {s : Str} {A : Option Addr} {c : Nat} {w w' : World} (h : ∀ l, ¬ IsRec s l) (hb : Below w.heap.size w w') : GotRec s w (.returned (.tuple #[.slice A 0 c, .bool false])) w' := .inr ⟨h, ⟨A, c, rfl⟩, hb⟩
theorem GotRec.yes {s : Str} {l : List Str} {A : Option Addr} {c n : Nat} {w w' : World} (h : IsRec s l) (hn : n = l.length) (hI : StrsIn w.heap.size w' A c l) (hb : Below w.heap.size w w') : GotRec s w (.returned (.tuple #[.slice A n c, .bool true])) w' := by
 subst hn
 exact .inl ⟨l, A, c, h, rfl, hI, hb⟩
theorem StrsIn.nil' {B : Nat} {w : World} (A : Option Addr) : StrsIn B w A 0 [] := ⟨[], OwnA.nil A, by simp⟩
def strLen (v : Value) : Nat := match v with | .string s => s.size | _ => 0
theorem empty_yes : ((strB []).toList == []) = true := by rw [strB_list]; rfl
theorem empty_no {x : Str} (h : x ≠ []) : ((strB x).toList == []) = false := by rw [strB_list]; cases x with
 | nil => exact absurd rfl h
 | cons a x => rfl
set_option maxRecDepth 100000 in
theorem cloneS_any (s : ByteArray) (w : World) (hs : s.size ≤ 1099511627776) : Calls Tryz.prog 38 #[.string s] w fun e w' => e = .returned (.string s) ∧ Below w.heap.size w w' := by
 go_enter Tryz.func38, Tryz.ntmps38
 go_wp2_with fail
 refine (Tryz.stringslite_Clone s w (by omega)).mono ?_
 rintro e w1 ⟨rfl, hb⟩
 go_wp2_with fail
 go_ret
 exact ⟨rfl, hb⟩
def CutR (s : Str) (w : World) (e : Ending) (w' : World) : Prop :=
 e = .returned (.tuple #[.string (strB (match cutC s with | some (a, _) => a | none => s)), .string (strB (match cutC s with | some (_, b) => b | none => [])), .bool (cutC s).isSome]) ∧ Below w.heap.size w w'
theorem cutS_any (s : Str) (w : World) (he : Env w) (hs : s.length ≤ 1000000) : Calls Tryz.prog 36 #[.string (strB s), .string ⟨#[58]⟩] w (CutR s w) := by
 obtain ⟨_, _, m, hm⟩ := he
 have C := Tryz.strings_Cut (strB s) ⟨#[58]⟩ m w (by rw [strB_size]; omega) hm
 rw [show (strB s).data.toList = s by simp [strB], show (⟨#[58]⟩ : ByteArray).data.toList = [58] from rfl] at C
 refine C.mono ?_
 rintro e w' ⟨rfl, q, rfl⟩
 refine ⟨?_, below_drewN (Below.refl _ _) q⟩
 cases hc : cutC s with
 | none => rw [cut_none hc]; rfl
 | some p => obtain ⟨a, b⟩ := p; rw [cut_some hc]; rfl
set_option maxRecDepth 100000 in
set_option maxHeartbeats 4000000 in
theorem fieldsGet_any (s : Str) (w : World) (he : Env w) (hs : s.length ≤ 1099511627776) : Calls Tryz.prog 14 #[.string (strB s)] w (GotRec s w) := by
 have hsz : (strB s).size = s.length := rfl
 obtain ⟨i0, hi0, hz0, hz1, hz2⟩ := info_parts info_strs
 by_cases hlen : s.length ≤ 2048
 · have hli : ¬ (2048 : Int) < (s.length : Int) := by omega
   go_enter Tryz.func14, Tryz.ntmps14
   go_wp2_with fail
   go_loopw [4, 5] (fun t r wr => ∃ (out : List Str) (rest : Str) (A : Option Addr) (c n : Nat), t = .slice A n c ∧ r = .string (strB rest) ∧ n ≤ 60 ∧ rest.length ≤ 2048 ∧ Hid (n = out.length) ∧ Hid (encs out ++ rest = s) ∧ Hid (∀ f ∈ out, f.length ≤ 999999999) ∧ Hid (StrsIn w.heap.size wr A c out) ∧ Hid (Below w.heap.size w wr)) (fun _ r _ => strLen r)
   case atStart => exact ⟨[], s, none, 0, 0, rfl, rfl, by omega, hlen, Lib.hid rfl, Lib.hid rfl, Lib.hid (by simp), Lib.hid StrsIn.nil, Lib.hid (Below.refl _ _)⟩
   obtain ⟨out, rest, A, c, n, rfl, rfl, hn60, hrl, HN, HE, HF, HI, HB⟩ := hrel
   have hbw : w.heap.size ≤ wr.heap.size := HB.out.size
   by_cases hr : rest = []
   · subst hr
     have hz := empty_yes
     have HR : Hid (IsRec s out) := Lib.hid ⟨by have := HE.out; rw [List.append_nil] at this; exact this, by have := HN.out; omega, hlen⟩
     go_wp2_with fail
     exact bodyPost_ret (v := .tuple #[.slice A n c, .bool true]) (by simp [results, Tryz.results14, go_sem]) rfl (GotRec.yes HR.out HN.out HI.out HB.out)
   have hz := empty_no hr
   have HRN := Lib.hid hr
   have HEw := Lib.hid (he.below HB.out)
   clear hr
   go_wp2_with fail
   refine (cutS_any rest wr HEw.out (by omega)).mono ?_
   cases hc : cutC rest with
   | none =>
     rintro e w1 ⟨rfl, hb1⟩
     rw [hc]
     have HNO := Lib.hid (no_rec HE.out HF.out HRN.out (stepF_none hc))
     have HB1 := HB.out.trans (hb1.mono hbw)
     have HEn := Lib.hid (HEw.out.below hb1)
     clear hc hb1
     simp only [Option.isSome_none]
     go_wp2_with fail
     refine (numGet_any rest w1 HEn.out (by omega)).mono ?_
     rintro e w2 ⟨rfl, hb2⟩
     have HB2 := Lib.hid (HB1.trans (hb2.mono HB1.size))
     clear hb2
     go_wp2_with fail
     exact bodyPost_ret (v := .tuple #[.slice none 0 0, .bool false]) (by simp [results, Tryz.results14, go_sem]) rfl (GotRec.no HNO.out HB2.out)
   | some p =>
     obtain ⟨a, b⟩ := p
     rintro e w1 ⟨rfl, hb1⟩
     rw [hc]
     obtain ⟨hab, _⟩ := cutC_eq hc
     have hal : a.length + 1 + b.length = rest.length := by rw [hab]; simp; omega
     have HB1 := HB.out.trans (hb1.mono hbw)
     have HEn := Lib.hid (HEw.out.below hb1)
     have HC := Lib.hid hc
     have HI1 := Lib.hid (HI.out.below hb1)
     clear hc hb1 hab HI
     simp only [Option.isSome_some]
     go_wp2_with fail
     refine (numGet_any a w1 HEn.out (by omega)).mono ?_
     rintro e w2 ⟨rfl, hb2⟩
     have HB2 := Lib.hid (HB1.trans (hb2.mono HB1.size))
     have HI2 := Lib.hid (HI1.out.below hb2)
     clear hb2 HI1 HB1
     cases hg : numGet a with
     | none =>
       have HNO := Lib.hid (no_rec HE.out HF.out HRN.out (stepF_bad HC.out hg))
       clear hg
       simp only [Option.isSome_none, Option.getD_none]
       go_wp2_with fail
       exact bodyPost_ret (v := .tuple #[.slice none 0 0, .bool false]) (by simp [results, Tryz.results14, go_sem]) rfl (GotRec.no HNO.out HB2.out)
     | some k =>
       have HG := Lib.hid hg
       have hk9 := numGet_le hg
       clear hg
       simp only [Option.isSome_some, Option.getD_some]
       have hbsz : (strB b).size = b.length := rfl
       by_cases hkb : k ≤ b.length
       · have hkbi : ¬ (b.length : Int) < (k : Int) := by omega
         by_cases h60 : n = 60
         · have HNO : Hid (∀ l, ¬ IsRec s l) := Lib.hid (fun l hl => by have := rec_more HE.out HF.out HRN.out hl; have := hl.2.1; have := HN.out; omega)
           subst h60
           go_wp2_with fail
           exact bodyPost_ret (v := .tuple #[.slice none 0 0, .bool false]) (by simp [results, Tryz.results14, go_sem]) rfl (GotRec.no HNO.out HB2.out)
         have h60i : ((n : Int) == 60) = false := by simp; omega
         have hx1 := ext_head b k
         have hx2 : (strB b).extract k b.length = strB (b.drop k) := ext_tail b k
         have hki : (k : Int) ≤ (b.length : Int) := by omega
         have hk0 : (0 : Int) ≤ (k : Int) := by omega
         have hfl : (strB (b.take k)).size ≤ 1099511627776 := by rw [strB_size, List.length_take]; omega
         go_wp2_with fail
         refine (cloneS_any (strB (b.take k)) w2 hfl).mono ?_
         rintro e w3 ⟨rfl, hb3⟩
         have HI3 := HI2.out.below hb3
         have HB3 := HB2.out.trans (hb3.mono HB2.out.size)
         clear hb3 HI2 HB2
         obtain ⟨S, hOS, hSB⟩ := HI3
         rw [← HN.out] at hOS
         obtain ⟨x, hxx⟩ : ∃ x, x = b.take k := ⟨_, rfl⟩
         rw [← hxx]
         have HX := Lib.hid hxx
         have HOA := Lib.hid (hOS.below (bel1 (o := .cells #[.string (strB x)] 9)))
         have HLIT := Lib.hid (fun (W : World) => RowAt.lit (w := W) (e := 9) (cur := #[.string (strB x)]) (m := 1) rfl)
         have HONE : Hid (∀ u ∈ [x].map strV, u.oneCell' = true) := Lib.hid (strs_one _)
         have HSB := Lib.hid hSB
         have HB3' := Lib.hid HB3
         clear hOS hSB HB3 HB hxx
         go_wp2_with (at_builtin; go_must (refine wpList_append_row rfl _ _ 31 rfl 9 i0 (.string ByteArray.empty) 1 16 Tryz.underlying31 hi0 hz0 hz1 hz2 rfl (by decide) S A _ n c 1 _ (out.map strV) ([x].map strV) rfl rfl HOA.out (HLIT.out _) HONE.out (by unfold maxLen; omega) (by omega) ?_))
         intro A' c' S' w5 hO' hS' hC'
         obtain ⟨hI5, hb5⟩ := app_strs (B := w.heap.size) HSB.out (w1 := w3.alloc (.cells #[.string (strB x)] 9)) (fs := out) (gs := [x]) (by have := HB3'.out.size; simp; omega) (by rw [List.length_append, List.length_singleton, HN.out]) hO' (fun g hg => (hS' g hg).imp id (fun h => by simpa using h)) hC'
         have HB5 := Lib.hid (HB3'.out.trans (((Below.refl _ _).alloc HB3'.out.size _).trans hb5))
         have HI5 := Lib.hid hI5
         have hst := stepF_eq (stepF_ok HC.out HG.out hkb)
         have HE5 : Hid (encs (out ++ [x]) ++ b.drop k = s) := Lib.hid (by
          rw [encs_append, encs_cons, encs_nil, List.append_nil, List.append_assoc, HX.out, ← hst.1]; exact HE.out)
         have HF5 : Hid (∀ f ∈ out ++ [x], f.length ≤ 999999999) := Lib.hid (fun f hf => by
          rcases List.mem_append.1 hf with hf | hf
          · exact HF.out f hf
          · rw [List.mem_singleton] at hf; subst hf; rw [HX.out]; exact hst.2)
         have HN5 : Hid (n + 1 = (out ++ [x]).length) := Lib.hid (by rw [List.length_append, List.length_singleton, HN.out])
         have hn1 : n + 1 ≤ 60 := by omega
         have hdl : (b.drop k).length ≤ 2048 := by rw [List.length_drop]; omega
         have hms : (b.drop k).length < rest.length := by rw [List.length_drop]; omega
         clear hb5 hO' hS' hC' HOA HLIT HONE HSB HB3' hst HE HF HN HI5
         have HI5 := Lib.hid hI5
         go_wp2_with fail
         go_roundw
         case rel => exact ⟨out ++ [x], b.drop k, A', c', n + 1, rfl, rfl, hn1, hdl, HN5, HE5, HF5, HI5, HB5⟩
         exact hms
       have hkbi : (b.length : Int) < (k : Int) := by omega
       have HNO := Lib.hid (no_rec HE.out HF.out HRN.out (stepF_short HC.out HG.out hkb))
       go_wp2_with fail
       exact bodyPost_ret (v := .tuple #[.slice none 0 0, .bool false]) (by simp [results, Tryz.results14, go_sem]) rfl (GotRec.no HNO.out HB2.out)
 have hli : (2048 : Int) < (s.length : Int) := by omega
 go_enter Tryz.func14, Tryz.ntmps14
 go_wp2_with fail
 exact bodyPost_ret (v := .tuple #[.slice none 0 0, .bool false]) (by simp [results, Tryz.results14, go_sem]) rfl (GotRec.no (fun l hl => hlen hl.2.2) (Below.refl _ _))
end Go.Proofs.YtlacpcdbgimnmaaGreatDoor
namespace Go.Proofs.YtlacpcdbgimnmaaGreatDoor
open Go Go.Lib Go.RowKit
def goodD (p : PtrD) : Bool := ptrOkB p.1 p.2.1 p.2.2.1 p.2.2.2.1 p.2.2.2.2 && !ptrHole p.1 p.2.1 p.2.2.1 p.2.2.2.1 p.2.2.2.2
def ptrSD (p : PtrD) : Str := ptrS p.1 p.2.1 p.2.2.1 p.2.2.2.1 p.2.2.2.2
def deadF (ps : List PtrD) : Str × Bool := if ps.all goodD = true then (join (ps.map ptrSD) [44], true) else ([], false)
theorem all_noD {α : Type} {f : α → Bool} {xs : List α} {k : Nat} {x : α} (hx : xs[k]? = some x) (h : f x = false) : xs.all f = false := by
 rw [List.all_eq_false]; exact ⟨x, List.mem_of_getElem? hx, by simp [h]⟩
theorem all_uptoD {α : Type} {f : α → Bool} {xs : List α} {n : Nat} (hn : xs.length = n) (h : ∀ j x, j < n → xs[j]? = some x → f x = true) : xs.all f = true := by
 rw [List.all_eq_true]; intro x hx
 obtain ⟨j, hj, rfl⟩ := List.mem_iff_getElem.1 hx
 exact h j _ (by omega) (List.getElem?_eq_getElem hj)
theorem upto_stepD {α : Type} {f : α → Bool} {xs : List α} {k : Nat} {x : α} (hp : ∀ j y, j < k → xs[j]? = some y → f y = true) (hx : xs[k]? = some x) (h : f x = true) : ∀ j y, j < k + 1 → xs[j]? = some y → f y = true := by
 intro j y hj hy
 rcases Nat.lt_or_ge j k with h2 | h2
 · exact hp j y h2 hy
 obtain rfl : j = k := by omega
 rw [hx] at hy; obtain rfl := Option.some.inj hy; exact h
theorem deadF_no {ps : List PtrD} {k : Nat} {p : PtrD} (hx : ps[k]? = some p) (h : goodD p = false) : deadF ps = ([], false) := by unfold deadF; rw [all_noD hx h]; rfl
theorem join_len (xs : List Str) (sep : Str) (M : Nat) (hM : ∀ x ∈ xs, x.length ≤ M) : (join xs sep).length ≤ xs.length * (M + sep.length) := by
 cases xs with
 | nil => simp [join]
 | cons y ys =>
   rw [join_cons]
   have h : ∀ zs : List Str, (∀ x ∈ zs, x.length ≤ M) → (joinTail sep zs).length ≤ zs.length * (M + sep.length) := by
    intro zs
    induction zs with
    | nil => intro _; simp [joinTail]
    | cons z zs ih =>
      intro hz
      have h1 := hz z (by simp)
      have h2 := ih (fun x hx => hz x (by simp [hx]))
      simp only [joinTail, List.map_cons, List.flatten_cons, List.length_append, List.length_cons] at h2 ⊢
      rw [Nat.succ_mul]
      omega
   have h1 := hM y (by simp)
   have h2 := h ys (fun x hx => hM x (by simp [hx]))
   rw [List.length_append, List.length_cons, Nat.succ_mul]
   omega
theorem join_snocD (xs : List Str) (x sep : Str) (h : xs ≠ []) : join (xs ++ [x]) sep = join xs sep ++ sep ++ x := by
 cases xs with
 | nil => exact absurd rfl h
 | cons y ys =>
   rw [List.cons_append, join_cons, join_cons]
   simp [joinTail]
def DeadR (ps : List PtrD) (w : World) (e : Ending) (w' : World) : Prop := e = .returned (.tuple #[.string (strB (deadF ps).1), .bool (deadF ps).2]) ∧ Below w.heap.size w w'
theorem goodD_parts {p : PtrD} {a b s m l : Int} (hp : p = (a, b, s, m, l)) (h1 : ptrOkB a b s m l = true) (h2 : ptrHole a b s m l = false) : goodD p = true := by subst hp; unfold goodD; simp [h1, h2]
set_option maxRecDepth 100000 in
set_option maxHeartbeats 4000000 in
theorem deadText_any (A : Option Addr) (n c : Nat) (ps : List PtrD) (w : World) (lo hi : Nat) (ht : Tab w) (h : SliceR PtrR 5 w lo hi A n c ps) (hn : n ≤ 2000000) :
 Calls Tryz.prog 62 #[.slice A n c] w (DeadR ps w) := by
 obtain ⟨i0, hi0, hz0, hz1, hz2⟩ := info_parts info_strs
 have HL := Lib.hid h.len
 have H := Lib.hid h; have HT := Lib.hid ht; clear h ht
 go_enter Tryz.func62, Tryz.ntmps62
 go_wp2_with fail
 go_loopw [4, 9] (fun t i wr => ∃ (k : Nat) (C : Option Addr) (m e : Nat), k ≤ n ∧ i = .int .i64 (k : Int) ∧ t = .slice C m e ∧ m = k ∧ Hid (∀ j p, j < k → ps[j]? = some p → goodD p = true) ∧ Hid (StrsIn w.heap.size wr C e ((ps.take k).map ptrSD)) ∧ Hid (Below w.heap.size w wr)) (fun _ i _ => n - (RowKit.intOf i).toNat)
 case atStart => exact ⟨0, none, 0, 0, Nat.zero_le _, rfl, rfl, rfl, Lib.hid (fun j p hj => absurd hj (by omega)), Lib.hid (by simpa using StrsIn.nil), Lib.hid (Below.refl _ _)⟩
 obtain ⟨k, C, m, e, hk, rfl, rfl, hmk, HP, HI, HB⟩ := hrel
 subst hmk
 by_cases hlt : m < n
 · obtain ⟨p, hp⟩ : ∃ x, ps[m]? = some x := ⟨ps[m]'(by rw [HL.out]; exact hlt), List.getElem?_eq_getElem _⟩
   obtain ⟨b_, off, rfl, _, _, bl, hc⟩ := (SliceR.below H.out HB.out (PtrR.below HB.out H.out.lo_le)).at_ (by omega)
   obtain ⟨cs, hcl, hcc, hr⟩ := hc m p hp
   have HX := Lib.hid hp; clear hp hc
   obtain ⟨a, b, s, q, l⟩ := p
   obtain rfl := hr
   have q0 := hcc 0 _ rfl; have q1 := hcc 1 _ rfl; have q2 := hcc 2 _ rfl; have q3 := hcc 3 _ rfl; have q4 := hcc 4 _ rfl
   simp only [Nat.add_zero] at q0
   clear hcc hcl
   have k0 : (0 : Int) ≤ (m : Int) := by omega
   have k1 : (m : Int) < (n : Int) := by omega
   obtain ⟨w2, hw2⟩ : ∃ W, W = wr.alloc (.cells #[.int .i64 a, .int .i64 b, .int .i64 s, .int .i64 q, .int .i64 l] 37) := ⟨_, rfl⟩
   have HY2 : Hid (Below wr.heap.size wr w2) := Lib.hid (by rw [hw2]; exact bel1)
   have hbx : Hid (w2.heap[wr.heap.size]? = some (.cells #[.int .i64 a, .int .i64 b, .int .i64 s, .int .i64 q, .int .i64 l] 37 (0, 0))) := Lib.hid (by rw [hw2]; exact heap_alloc_new _ _)
   go_wp2_with fail
   rw [← hw2]
   clear hw2 q0 q1 q2 q3 q4
   have x0 := celR 0 hbx.out; have x1 := celR 1 hbx.out; have x2 := celR 2 hbx.out; have x3 := celR 3 hbx.out; have x4 := celR 4 hbx.out
   have l2x := (Array.getElem?_eq_some_iff.1 hbx.out).1
   go_wp2_with fail
   refine (ptrOk_any a b s q l _).mono ?_
   rintro e_ w3 ⟨rfl, hb3⟩
   have HY3 := Lib.hid (HY2.out.trans (hb3.mono HY2.out.size))
   have hbx3 := Lib.hid ((hb3.block _ l2x).trans hbx.out)
   clear hb3 HY2 hbx x0 x1 x2 x3 x4 l2x
   have HNO : Hid (goodD (a, b, s, q, l) = false → deadF ps = ([], false)) := Lib.hid (fun h => deadF_no HX.out h)
   have x0 := celR 0 hbx3.out; have x1 := celR 1 hbx3.out; have x2 := celR 2 hbx3.out; have x3 := celR 3 hbx3.out; have x4 := celR 4 hbx3.out
   have l3x := (Array.getElem?_eq_some_iff.1 hbx3.out).1
   cases e1 : ptrOkB a b s q l
   · have HN := Lib.hid (HNO.out (by unfold goodD; simp [e1]))
     clear HNO
     go_wp2_with fail
     exact bodyPost_ret (v := .tuple #[.string ⟨#[]⟩, .bool false]) (by simp [results, Tryz.results62, go_sem]) rfl ⟨by rw [HN.out]; rfl, HB.out.trans (HY3.out.mono HB.out.size)⟩
   go_wp2_with fail
   refine (ptrHole_any a b s q l _).mono ?_
   rintro e_ w4 ⟨rfl, hb4⟩
   have HY4 := Lib.hid (HY3.out.trans (hb4.mono HY3.out.size))
   have hbx4 := Lib.hid ((hb4.block _ l3x).trans hbx3.out)
   clear hb4 HY3 hbx3 x0 x1 x2 x3 x4 l3x
   have x0 := celR 0 hbx4.out; have x1 := celR 1 hbx4.out; have x2 := celR 2 hbx4.out; have x3 := celR 3 hbx4.out; have x4 := celR 4 hbx4.out
   have l4x := (Array.getElem?_eq_some_iff.1 hbx4.out).1
   cases e2 : ptrHole a b s q l
   rotate_left
   · have HN := Lib.hid (HNO.out (by unfold goodD; simp [e2]))
     clear HNO
     go_wp2_with fail
     exact bodyPost_ret (v := .tuple #[.string ⟨#[]⟩, .bool false]) (by simp [results, Tryz.results62, go_sem]) rfl ⟨by rw [HN.out]; rfl, HB.out.trans (HY4.out.mono HB.out.size)⟩
   have HPN := Lib.hid (upto_stepD HP.out HX.out (goodD_parts rfl e1 e2))
   clear e1 e2 HNO
   go_wp2_with fail
   refine (ptrPut_any a b s q l _ (HT.out.below (HB.out.trans (HY4.out.mono HB.out.size)))).mono ?_
   unfold TextR
   rintro e_ w5 ⟨rfl, hb5⟩
   have HY5 := Lib.hid (HY4.out.trans (hb5.mono HY4.out.size))
   clear hb5 HY4 hbx4 x0 x1 x2 x3 x4 l4x
   obtain ⟨x, hx⟩ : ∃ x, x = ptrS a b s q l := ⟨_, rfl⟩
   rw [← hx]
   obtain ⟨S, hOS, hSB⟩ := HI.out.below HY5.out
   have hlen : ((ps.take m).map ptrSD).length = m := by rw [List.length_map, List.length_take, HL.out]; omega
   rw [hlen] at hOS
   obtain ⟨gs, hgs⟩ : ∃ gs, gs = (ps.take m).map ptrSD := ⟨_, rfl⟩
   rw [← hgs] at hOS hlen
   have HGS := Lib.hid hgs
   have HXX : Hid ((ps.take (m + 1)).map ptrSD = gs ++ [x]) := Lib.hid (by rw [List.take_add_one, HX.out, List.map_append, hgs, hx]; rfl)
   clear hgs hx
   have HOA := Lib.hid (hOS.below (bel1 (o := .cells #[.string (strB x)] 9)))
   have HLIT := Lib.hid (fun (W : World) => RowAt.lit (w := W) (e := 9) (cur := #[.string (strB x)]) (m := 1) rfl)
   have HONE : Hid (∀ u ∈ [x].map strV, u.oneCell' = true) := Lib.hid (strs_one _)
   have HSB := Lib.hid hSB
   have HB5 := Lib.hid (HB.out.trans (HY5.out.mono HB.out.size))
   clear hOS hSB HB HI HY5
   go_wp2_with (at_builtin; go_must (refine wpList_append_row rfl _ _ 31 rfl 9 i0 (.string ByteArray.empty) 1 16 Tryz.underlying31 hi0 hz0 hz1 hz2 rfl (by decide) S C _ m e 1 _ (gs.map strV) ([x].map strV) rfl rfl HOA.out (HLIT.out _) HONE.out (by unfold maxLen; omega) (by omega) ?_))
   intro A' c' S' w6 hO' hS' hC'
   obtain ⟨hI6, hb6⟩ := app_strs (B := w.heap.size) HSB.out (w1 := w5.alloc (.cells #[.string (strB x)] 9)) (fs := gs) (gs := [x]) (by have := HB5.out.size; simp; omega) (by rw [List.length_append, hlen, List.length_singleton]) hO' (fun g hg => (hS' g hg).imp id (fun h => by simpa using h)) hC'
   have HB6 : Hid (Below w.heap.size w w6) := Lib.hid (HB5.out.trans (((Below.refl _ _).alloc HB5.out.size _).trans hb6))
   have HI6 : Hid (StrsIn w.heap.size w6 A' c' ((ps.take (m + 1)).map ptrSD)) := Lib.hid (by rw [HXX.out]; exact hI6)
   clear hI6 hb6 hO' hS' hC' HOA HLIT HONE HSB HB5 hlen
   go_wp2_with fail
   go_roundw
   case rel => exact ⟨m + 1, A', m + 1, c', by omega, by go_num, rfl, rfl, HPN, HI6, HB6⟩
   simp [RowKit.intOf]; omega
 obtain rfl : m = n := by omega
 have hT : ps.take m = ps := List.take_of_length_le (by rw [HL.out]; exact Nat.le_refl _)
 have HF : Hid (deadF ps = (join (ps.map ptrSD) [44], true)) := Lib.hid (by unfold deadF; rw [if_pos (all_uptoD HL.out HP.out)])
 have hI := HI.out
 rw [hT] at hI
 have hlen : (ps.map ptrSD).length = m := by rw [List.length_map, HL.out]
 by_cases hm0 : m = 0
 · subst hm0
   have hp0 : ps = [] := List.eq_nil_of_length_eq_zero HL.out
   have HF2 : Hid (deadF ps = ([], true)) := Lib.hid (by rw [HF.out, hp0]; rfl)
   have HJ := Lib.hid (Tryz.strings_Join_none C e ⟨#[44]⟩ wr)
   clear hI hT
   go_wp2_with fail
   refine HJ.out.mono ?_
   rintro e_ w5 ⟨rfl, rfl⟩
   go_wp2_with fail
   exact bodyPost_ret (v := .tuple #[.string ⟨#[]⟩, .bool true]) (by simp [results, Tryz.results62, go_sem]) rfl ⟨by rw [HF2.out]; rfl, HB.out⟩
 obtain ⟨y0, hy0⟩ : ∃ y, (ps.map ptrSD)[0]? = some y := ⟨(ps.map ptrSD)[0]'(by omega), List.getElem?_eq_getElem _⟩
 obtain ⟨g2, rfl, hg2, _⟩ := hI.cell hy0
 have hcs : ∀ (j : Nat) x, ((ps.map ptrSD).map strB)[j]? = some x → wr.cell? ⟨g2, 0 + j, none⟩ = some (.string x) := by
  intro j x hx
  rw [List.getElem?_map] at hx
  obtain ⟨y, hy, rfl⟩ := Option.map_eq_some_iff.1 hx
  obtain ⟨g3, e3, _, hc3⟩ := hI.cell hy
  injection e3 with e3; injection e3 with e3
  subst e3
  rw [Nat.zero_add]; exact hc3
 have hcap : m ≤ e := by have := hI.le; rwa [hlen] at this
 have hmap : ((ps.map ptrSD).map strB).map (·.data.toList) = ps.map ptrSD := by rw [List.map_map]; exact (List.map_congr_left (fun x _ => by simp [strB])).trans (List.map_id _)
 have hjl : (join (ps.map ptrSD) [44]).length ≤ 140737488355328 := by
  have h1 := join_len (ps.map ptrSD) [44] 60 (fun x hx => by obtain ⟨p, _, rfl⟩ := List.mem_map.1 hx; exact ptrS_len _ _ _ _ _)
  rw [hlen] at h1
  simp at h1
  omega
 have HJ := Tryz.strings_Join g2 0 e ((ps.map ptrSD).map strB) ⟨#[44]⟩ wr hcs hg2 (by rw [List.length_map, hlen]; omega) (by rw [List.length_map, hlen]; exact hcap) (by rw [hmap]; exact hjl)
 rw [hmap, List.length_map, hlen] at HJ
 have HJ := Lib.hid HJ
 clear hI hcs hcap hmap hjl hy0 hT
 go_wp2_with fail
 refine HJ.out.mono ?_
 rintro e_ w5 ⟨rfl, hb5⟩
 have HB5 := Lib.hid (HB.out.trans (hb5.mono HB.out.size))
 clear hb5
 go_wp2_with fail
 exact bodyPost_ret (v := .tuple #[.string (strB (join (ps.map ptrSD) [44])), .bool true]) (by simp [results, Tryz.results62, go_sem, strB]) rfl ⟨by rw [HF.out], HB5.out⟩
end Go.Proofs.YtlacpcdbgimnmaaGreatDoor
namespace Go.Proofs.YtlacpcdbgimnmaaGreatDoor
open Go Go.Lib Go.RowKit
theorem dead_step {ps : List PtrD} {k : Nat} {p : PtrD} (h : ps[k]? = some p) : join ((ps.take (k + 1)).map ptrSD) [44] = (if k = 0 then [] else join ((ps.take k).map ptrSD) [44] ++ [44]) ++ ptrSD p := by
 rw [List.take_add_one, h, List.map_append]
 by_cases hk : k = 0
 · subst hk; simp [join, ptrSD]
 rw [if_neg hk]
 have hl := (List.getElem?_eq_some_iff.1 h).1
 refine join_snocD _ _ _ (fun e => ?_)
 have h2 := congrArg List.length e
 rw [List.length_map, List.length_take, Nat.min_eq_left (by omega)] at h2
 exact hk h2
set_option maxRecDepth 100000 in
set_option maxHeartbeats 4000000 in
theorem l21Dead_any (A : Option Addr) (n c : Nat) (ps : List PtrD) (w : World) (lo hi : Nat) (h : SliceR PtrR 5 w lo hi A n c ps) (hn : n ≤ 2000000) :
 Calls Tryz.prog 32 #[.slice A n c] w (DeadR ps w) := by
 have HL := Lib.hid h.len
 have H := Lib.hid h; clear h
 go_enter Tryz.func32, Tryz.ntmps32
 go_wp2_with fail
 go_loopw [4, 5] (fun t i wr => ∃ (k : Nat) (T : Str), k ≤ n ∧ i = .int .i64 (k : Int) ∧ t = .string (strB T) ∧ Hid (∀ j p, j < k → ps[j]? = some p → goodD p = true) ∧ Hid (T = join ((ps.take k).map ptrSD) [44]) ∧ Hid (Below w.heap.size w wr)) (fun _ i _ => n - (RowKit.intOf i).toNat)
 case atStart => exact ⟨0, [], Nat.zero_le _, rfl, rfl, Lib.hid (fun j p hj => absurd hj (by omega)), Lib.hid (by simp [join]), Lib.hid (Below.refl _ _)⟩
 obtain ⟨k, T, hk, rfl, rfl, HP, HT, HB⟩ := hrel
 by_cases hlt : k < n
 · obtain ⟨p, hp⟩ : ∃ x, ps[k]? = some x := ⟨ps[k]'(by rw [HL.out]; exact hlt), List.getElem?_eq_getElem _⟩
   have hT60 : T.length ≤ k * 61 := by
    have h1 := join_len ((ps.take k).map ptrSD) [44] 60 (fun x hx => by obtain ⟨p, _, rfl⟩ := List.mem_map.1 hx; exact ptrS_len _ _ _ _ _)
    rw [← HT.out, List.length_map, List.length_take, HL.out, Nat.min_eq_left hk] at h1
    simpa using h1
   have HX := Lib.hid hp
   have HST := Lib.hid (dead_step hp)
   obtain ⟨a, b, s, q, l⟩ := p
   have hcell : ∀ W, Below w.heap.size w W → ∃ b_ off, A = some ⟨b_, off, none⟩ ∧ b_ < W.heap.size ∧ W.cell? ⟨b_, off + k * 5, none⟩ = some (.int .i64 a) ∧ W.cell? ⟨b_, off + k * 5 + 1, none⟩ = some (.int .i64 b) ∧ W.cell? ⟨b_, off + k * 5 + 2, none⟩ = some (.int .i64 s) ∧ W.cell? ⟨b_, off + k * 5 + 3, none⟩ = some (.int .i64 q) ∧ W.cell? ⟨b_, off + k * 5 + 4, none⟩ = some (.int .i64 l) := by
    intro W hb
    obtain ⟨b_, off, hA, _, _, bl, hc⟩ := (SliceR.below H.out hb (PtrR.below hb H.out.lo_le)).at_ (by omega)
    obtain ⟨cs, hcl, hcc, hr⟩ := hc k _ hp
    obtain rfl := hr
    exact ⟨b_, off, hA, bl, by simpa using hcc 0 _ rfl, hcc 1 _ rfl, hcc 2 _ rfl, hcc 3 _ rfl, hcc 4 _ rfl⟩
   have HCELL := Lib.hid hcell; clear hcell hp
   obtain ⟨b_, off, hA, bl, q0, q1, q2, q3, q4⟩ := HCELL.out wr HB.out
   subst hA
   have k0 : (0 : Int) ≤ (k : Int) := by omega
   have k1 : (k : Int) < (n : Int) := by omega
   have HNO : Hid (goodD (a, b, s, q, l) = false → deadF ps = ([], false)) := Lib.hid (fun h => deadF_no HX.out h)
   go_wp2_with fail
   refine (spPtrOk_any a b s q l _).mono ?_
   rintro e_ w3 ⟨rfl, hb3⟩
   have HB3 := Lib.hid (HB.out.trans (hb3.mono HB.out.size))
   clear hb3 q0 q1 q2 q3 q4 bl
   obtain ⟨b2_, off2, hA, bl, q0, q1, q2, q3, q4⟩ := HCELL.out w3 HB3.out
   injection hA with hA; injection hA with hA1 hA2; subst hA1 hA2
   cases e1 : ptrOkB a b s q l
   · have HN := Lib.hid (HNO.out (by unfold goodD; simp [e1]))
     clear HNO
     go_wp2_with fail
     exact bodyPost_ret (v := .tuple #[.string ⟨#[]⟩, .bool false]) (by simp [results, Tryz.results32, go_sem]) rfl ⟨by rw [HN.out]; rfl, HB3.out⟩
   go_wp2_with fail
   refine (spPtrHole_any a b s q l _).mono ?_
   rintro e_ w4 ⟨rfl, hb4⟩
   have HB4 := Lib.hid (HB3.out.trans (hb4.mono HB3.out.size))
   clear hb4 q0 q1 q2 q3 q4 bl
   obtain ⟨b2_, off2, hA, bl, q0, q1, q2, q3, q4⟩ := HCELL.out w4 HB4.out
   injection hA with hA; injection hA with hA1 hA2; subst hA1 hA2
   cases e2 : ptrHole a b s q l
   rotate_left
   · have HN := Lib.hid (HNO.out (by unfold goodD; simp [e2]))
     clear HNO
     go_wp2_with fail
     exact bodyPost_ret (v := .tuple #[.string ⟨#[]⟩, .bool false]) (by simp [results, Tryz.results32, go_sem]) rfl ⟨by rw [HN.out]; rfl, HB4.out⟩
   have HPN := Lib.hid (upto_stepD HP.out HX.out (goodD_parts rfl e1 e2))
   have hpl : (ptrS a b s q l).length ≤ 60 := ptrS_len _ _ _ _ _
   obtain ⟨x, hx⟩ : ∃ x, x = ptrS a b s q l := ⟨_, rfl⟩
   rw [← hx] at hpl
   have HX2 := Lib.hid hx
   clear e1 e2 HNO hx
   have HR := Lib.hid (fun W => spPtrPut_any a b s q l W)
   have sT : (strB T).size = T.length := rfl
   have sx : (strB x).size = x.length := rfl
   by_cases hk0 : k = 0
   · have d0 : ¬ (0 : Int) < (k : Int) := by omega
     have d0n : ¬ 0 < k := by omega
     have d1 : (strB T).size + (strB x).size ≤ 9223372036854775807 := by omega
     have HN : Hid (T ++ x = join ((ps.take (k + 1)).map ptrSD) [44]) := Lib.hid (by rw [HST.out, if_pos hk0, HX2.out]; have := HT.out; subst hk0; simp [join] at this; subst this; rfl)
     have HK0 := Lib.hid hk0; clear hk0
     go_wp2_with fail
     refine (HR.out _).mono ?_
     unfold TextR
     rw [← HX2.out]
     rintro e_ w5 ⟨rfl, hb5⟩
     have HB5 := Lib.hid (HB4.out.trans (hb5.mono HB4.out.size))
     clear hb5 q0 q1 q2 q3 q4
     go_wp2_with fail
     go_roundw
     case rel => exact ⟨k + 1, T ++ x, by omega, by go_num, by rw [strB_app], HPN, HN, HB5⟩
     simp [RowKit.intOf]; omega
   have d0 : (0 : Int) < (k : Int) := by omega
   have d0n : 0 < k := by omega
   have d1 : (strB T).size + 1 ≤ 9223372036854775807 := by omega
   have d2 : (strB (T ++ [44])).size + (strB x).size ≤ 9223372036854775807 := by rw [strB_size, List.length_append, sx]; simp; omega
   have e44 : strB T ++ ⟨#[44]⟩ = strB (T ++ [44]) := strB_app T [44]
   have HN : Hid (T ++ [44] ++ x = join ((ps.take (k + 1)).map ptrSD) [44]) := Lib.hid (by rw [HST.out, if_neg hk0, HX2.out, HT.out]; rfl)
   have HK0 := Lib.hid hk0; clear hk0
   go_wp2_with fail
   refine (HR.out _).mono ?_
   unfold TextR
   rw [← HX2.out]
   rintro e_ w5 ⟨rfl, hb5⟩
   have HB5 := Lib.hid (HB4.out.trans (hb5.mono HB4.out.size))
   clear hb5 q0 q1 q2 q3 q4
   go_wp2_with fail
   go_roundw
   case rel => exact ⟨k + 1, T ++ [44] ++ x, by omega, by go_num, by first | rw [strB_app] | rw [e44, strB_app] | (rw [← strB_app, ← e44]), HPN, HN, HB5⟩
   simp [RowKit.intOf]; omega
 obtain rfl : k = n := by omega
 have HF : Hid (deadF ps = (T, true)) := Lib.hid (by unfold deadF; rw [if_pos (all_uptoD HL.out HP.out), HT.out, List.take_of_length_le (by rw [HL.out]; exact Nat.le_refl _)])
 go_wp2_with fail
 exact bodyPost_ret (v := .tuple #[.string (strB T), .bool true]) (by simp [results, Tryz.results32, go_sem]) rfl ⟨by rw [HF.out], HB.out⟩
end Go.Proofs.YtlacpcdbgimnmaaGreatDoor
namespace Go.Proofs.YtlacpcdbgimnmaaGreatDoor
open Go Go.Lib Go.RowKit
def RecOk (fs : List Str) (e : Int) : Prop := ∀ (j : Nat) (f : Str), fs[j]? = some f → f = [] → (j : Int) = e
open Classical in
noncomputable def recF (fs : List Str) (e : Int) : Str × Bool := if RecOk fs e then fieldsF fs else ([], false)
theorem recF_no {fs : List Str} {e : Int} {j : Nat} (h : fs[j]? = some []) (hj : ¬ (j : Int) = e) : recF fs e = ([], false) := by
 unfold recF
 rw [if_neg (fun c => hj (c j [] h rfl))]
theorem recF_yes {fs : List Str} {e : Int} {n : Nat} (hn : fs.length = n) (h : ∀ (j : Nat) (f : Str), j < n → fs[j]? = some f → f = [] → (j : Int) = e) : recF fs e = fieldsF fs := by
 unfold recF
 rw [if_pos (show RecOk fs e from fun j f hf => h j f (by have := (List.getElem?_eq_some_iff.1 hf).1; omega) hf)]
def RecR (fs : List Str) (e : Int) (w : World) (en : Ending) (w' : World) : Prop := en = .returned (.tuple #[.string (strB (recF fs e).1), .bool (recF fs e).2]) ∧ Below w.heap.size w w'
theorem row_cell {w : World} {A : Option Addr} {fs : List Str} (h : RowAt w A fs.length (fs.map strV)) {k : Nat} {f : Str} (hf : fs[k]? = some f) : ∃ b off, A = some ⟨b, off, none⟩ ∧ w.cell? ⟨b, off + k, none⟩ = some (.string (strB f)) := by
 have hk := (List.getElem?_eq_some_iff.1 hf).1
 obtain ⟨b, off, hA, hc⟩ := h.2 (by omega)
 exact ⟨b, off, hA, (hc k hk).trans (by rw [List.getElem?_map, hf]; rfl)⟩
set_option maxRecDepth 100000 in
set_option maxHeartbeats 2000000 in
theorem record_any (A : Option Addr) (c : Nat) (fs : List Str) (e : Int) (w : World) (ht : Tab w) (h : RowAt w A fs.length (fs.map strV)) (hb : ∀ f ∈ fs, f.length ≤ 1099511627776) (hl : fs.length ≤ 1000000) :
 Calls Tryz.prog 45 #[.slice A fs.length c, .int .i64 e] w (RecR fs e w) := by
 obtain ⟨n, hn⟩ : ∃ n, n = fs.length := ⟨_, rfl⟩
 have HN := Lib.hid hn.symm
 rw [← hn] at hl ⊢
 have H := Lib.hid h
 have HBB := Lib.hid hb
 clear hn h hb
 go_enter Tryz.func45, Tryz.ntmps45
 go_wp2_with fail
 go_loopw [10] (fun i wr => ∃ k : Nat, k ≤ n ∧ i = .int .i64 (k : Int) ∧ Hid (∀ (j : Nat) (f : Str), j < k → fs[j]? = some f → f = [] → (j : Int) = e) ∧ SameW wr w) (fun i _ => n - (RowKit.intOf i).toNat)
 case atStart => exact ⟨0, Nat.zero_le _, rfl, Lib.hid (fun j f hj => absurd hj (by omega)), SameW.refl _⟩
 obtain ⟨k, hk, rfl, HP, HW⟩ := hrel
 obtain rfl := HW.out
 clear HW
 by_cases hlt : k < n
 · obtain ⟨f, hf⟩ : ∃ x, fs[k]? = some x := ⟨fs[k]'(by rw [HN.out]; exact hlt), List.getElem?_eq_getElem _⟩
   obtain ⟨b, off, hA, hc⟩ := row_cell H.out hf
   subst hA
   have bl := World.block_lt_of_cell? _ _ hc
   have HX := Lib.hid hf; clear hf
   have k0 : (0 : Int) ≤ (k : Int) := by omega
   have k1 : (k : Int) < (n : Int) := by omega
   by_cases hf0 : f = []
   · have z6 : (strB f).toList.isEmpty = true := by rw [strB_list, hf0]; rfl
     have z7 : ((strB f).toList == []) = true := by rw [strB_list, hf0]; rfl
     by_cases hke : (k : Int) = e
     · have d0 : ((k : Int) != e) = false := by simp [hke]
       have HPN : Hid (∀ (j : Nat) (f : Str), j < k + 1 → fs[j]? = some f → f = [] → (j : Int) = e) := Lib.hid (fun j g hj hg h0 => by
        rcases Nat.lt_or_ge j k with h2 | h2
        · exact HP.out j g h2 hg h0
        · obtain rfl : j = k := by omega
          exact hke)
       have HKE := Lib.hid hke; have HF0 := Lib.hid hf0; clear hke hf0
       go_wp2_with fail
       go_roundw
       case rel => exact ⟨k + 1, by omega, by go_num, HPN, SameW.refl _⟩
       simp [RowKit.intOf]; omega
     have d0 : ((k : Int) != e) = true := by simpa using hke
     have HR := Lib.hid (recF_no (e := e) (by rw [HX.out, hf0]) hke)
     have HF0 := Lib.hid hf0; clear hf0 hke
     go_wp2_with fail
     exact bodyPost_ret (v := .tuple #[.string ⟨#[]⟩, .bool false]) (by simp [results, Tryz.results45, go_sem]) rfl ⟨by rw [HR.out]; rfl, Below.refl _ _⟩
   have z6 : (strB f).toList.isEmpty = false := by rw [strB_list]; cases f with | nil => exact absurd rfl hf0 | cons _ _ => rfl
   have z7 : ((strB f).toList == []) = false := by rw [strB_list]; cases f with | nil => exact absurd rfl hf0 | cons _ _ => rfl
   have HPN : Hid (∀ (j : Nat) (f : Str), j < k + 1 → fs[j]? = some f → f = [] → (j : Int) = e) := Lib.hid (fun j g hj hg h0 => by
    rcases Nat.lt_or_ge j k with h2 | h2
    · exact HP.out j g h2 hg h0
    · obtain rfl : j = k := by omega
      rw [HX.out] at hg
      obtain rfl := Option.some.inj hg
      exact absurd h0 hf0)
   have HF0 := Lib.hid hf0; clear hf0
   go_wp2_with fail
   go_roundw
   case rel => exact ⟨k + 1, by omega, by go_num, HPN, SameW.refl _⟩
   simp [RowKit.intOf]; omega
 obtain rfl : k = n := by omega
 have HR := Lib.hid (recF_yes HN.out HP.out)
 have HC : Hid (Calls Tryz.prog 65 #[.slice A k c] wr (PutF fs wr)) := Lib.hid (by rw [← HN.out]; exact fieldsPut_any A c fs wr ht H.out HBB.out (by rw [HN.out]; omega))
 go_wp2_with fail
 refine HC.out.mono ?_
 unfold PutF
 rintro e_ w5 ⟨rfl, hb5⟩
 go_wp2_with fail
 exact bodyPost_ret (v := .tuple #[.string (strB (fieldsF fs).1), .bool (fieldsF fs).2]) (by simp [results, Tryz.results45, go_sem]) rfl ⟨by rw [HR.out], hb5⟩
set_option maxRecDepth 100000 in
set_option maxHeartbeats 2000000 in
theorem l21Rec_any (A : Option Addr) (c : Nat) (fs : List Str) (e : Int) (w : World) (h : RowAt w A fs.length (fs.map strV)) (hb : ∀ f ∈ fs, f.length ≤ 1099511627776) (hl : fs.length ≤ 1000000) :
 Calls Tryz.prog 33 #[.slice A fs.length c, .int .i64 e] w (RecR fs e w) := by
 obtain ⟨n, hn⟩ : ∃ n, n = fs.length := ⟨_, rfl⟩
 have HN := Lib.hid hn.symm
 rw [← hn] at hl ⊢
 have H := Lib.hid h
 have HBB := Lib.hid hb
 clear hn h hb
 go_enter Tryz.func33, Tryz.ntmps33
 go_wp2_with fail
 go_loopw [6] (fun i wr => ∃ k : Nat, k ≤ n ∧ i = .int .i64 (k : Int) ∧ Hid (∀ (j : Nat) (f : Str), j < k → fs[j]? = some f → f = [] → (j : Int) = e) ∧ SameW wr w) (fun i _ => n - (RowKit.intOf i).toNat)
 case atStart => exact ⟨0, Nat.zero_le _, rfl, Lib.hid (fun j f hj => absurd hj (by omega)), SameW.refl _⟩
 obtain ⟨k, hk, rfl, HP, HW⟩ := hrel
 obtain rfl := HW.out
 clear HW
 by_cases hlt : k < n
 · obtain ⟨f, hf⟩ : ∃ x, fs[k]? = some x := ⟨fs[k]'(by rw [HN.out]; exact hlt), List.getElem?_eq_getElem _⟩
   obtain ⟨b, off, hA, hc⟩ := row_cell H.out hf
   subst hA
   have bl := World.block_lt_of_cell? _ _ hc
   have HX := Lib.hid hf; clear hf
   have k0 : (0 : Int) ≤ (k : Int) := by omega
   have k1 : (k : Int) < (n : Int) := by omega
   by_cases hf0 : f = []
   · have z6 : (strB f).toList.isEmpty = true := by rw [strB_list, hf0]; rfl
     have z7 : ((strB f).toList == []) = true := by rw [strB_list, hf0]; rfl
     by_cases hke : (k : Int) = e
     · have d0 : ((k : Int) != e) = false := by simp [hke]
       have HPN : Hid (∀ (j : Nat) (f : Str), j < k + 1 → fs[j]? = some f → f = [] → (j : Int) = e) := Lib.hid (fun j g hj hg h0 => by
        rcases Nat.lt_or_ge j k with h2 | h2
        · exact HP.out j g h2 hg h0
        · obtain rfl : j = k := by omega
          exact hke)
       have HKE := Lib.hid hke; have HF0 := Lib.hid hf0; clear hke hf0
       go_wp2_with fail
       go_roundw
       case rel => exact ⟨k + 1, by omega, by go_num, HPN, SameW.refl _⟩
       simp [RowKit.intOf]; omega
     have d0 : ((k : Int) != e) = true := by simpa using hke
     have HR := Lib.hid (recF_no (e := e) (by rw [HX.out, hf0]) hke)
     have HF0 := Lib.hid hf0; clear hf0 hke
     go_wp2_with fail
     exact bodyPost_ret (v := .tuple #[.string ⟨#[]⟩, .bool false]) (by simp [results, Tryz.results33, go_sem]) rfl ⟨by rw [HR.out]; rfl, Below.refl _ _⟩
   have z6 : (strB f).toList.isEmpty = false := by rw [strB_list]; cases f with | nil => exact absurd rfl hf0 | cons _ _ => rfl
   have z7 : ((strB f).toList == []) = false := by rw [strB_list]; cases f with | nil => exact absurd rfl hf0 | cons _ _ => rfl
   have HPN : Hid (∀ (j : Nat) (f : Str), j < k + 1 → fs[j]? = some f → f = [] → (j : Int) = e) := Lib.hid (fun j g hj hg h0 => by
    rcases Nat.lt_or_ge j k with h2 | h2
    · exact HP.out j g h2 hg h0
    · obtain rfl : j = k := by omega
      rw [HX.out] at hg
      obtain rfl := Option.some.inj hg
      exact absurd h0 hf0)
   have HF0 := Lib.hid hf0; clear hf0
   go_wp2_with fail
   go_roundw
   case rel => exact ⟨k + 1, by omega, by go_num, HPN, SameW.refl _⟩
   simp [RowKit.intOf]; omega
 obtain rfl : k = n := by omega
 have HR := Lib.hid (recF_yes HN.out HP.out)
 have HC : Hid (Calls Tryz.prog 26 #[.slice A k c] wr (PutF fs wr)) := Lib.hid (by rw [← HN.out]; exact spFieldsPut_any A c fs wr H.out HBB.out (by rw [HN.out]; omega))
 go_wp2_with fail
 refine HC.out.mono ?_
 unfold PutF
 rintro e_ w5 ⟨rfl, hb5⟩
 go_wp2_with fail
 exact bodyPost_ret (v := .tuple #[.string (strB (fieldsF fs).1), .bool (fieldsF fs).2]) (by simp [results, Tryz.results33, go_sem]) rfl ⟨by rw [HR.out], hb5⟩
def bitS (b : Bool) : Str := if b then [49] else [48]
theorem l21Bit_any (b : Bool) (w : World) : Calls Tryz.prog 30 #[.bool b] w fun e w' => e = .returned (.string (strB (bitS b))) ∧ w = w' := by
 cases b
 · go_enter Tryz.func30, Tryz.ntmps30
   go_wp2_with fail
   go_ret
   exact ⟨rfl, rfl⟩
 go_enter Tryz.func30, Tryz.ntmps30
 go_wp2_with fail
 go_ret
 exact ⟨rfl, rfl⟩
end Go.Proofs.YtlacpcdbgimnmaaGreatDoor
namespace Go.Proofs.YtlacpcdbgimnmaaGreatDoor
open Go Go.Lib Go.RowKit
def treeSD (t : TreeD) : List Str := treeS t.1.1 t.1.2.1 t.1.2.2.1 t.1.2.2.2.1 t.1.2.2.2.2 t.2.1 t.2.2
def snapL (x : SnapD) : List Str := [numS x.1, x.2.1.data.toList, numS x.2.2.1, numS x.2.2.2.1] ++ treeSD x.2.2.2.2.1 ++ [(deadF x.2.2.2.2.2).1]
def headL (x : HeadD) : List Str := [x.1.data.toList, numS x.2.1] ++ treeSD x.2.2.1 ++ [(deadF x.2.2.2.1).1, numS x.2.2.2.2]
noncomputable def snapT (x : SnapD) : Str := (recF (snapL x) 7).1
noncomputable def headT (x : HeadD) : Str := (recF (headL x) 5).1
noncomputable def snapB (x : SnapD) : Bool := (deadF x.2.2.2.2.2).2 && ((recF (snapL x) 7).2 && namB x.2.1.data.toList)
noncomputable def headB (x : HeadD) : Bool := (deadF x.2.2.2.1).2 && ((recF (headL x) 5).2 && namB x.1.data.toList)
def metaH (m : MetaD) : List Str := [[98, 97, 121], numS m.2.2.1, bitS m.2.2.2, numS (m.2.1.length : Nat)]
noncomputable def metaL (m : MetaD) : List Str := metaH m ++ m.2.1.map snapT ++ m.1.map headT
noncomputable def metaF (m : MetaD) : Str × Bool :=
 if (m.2.1.length ≤ 6 ∧ 1 ≤ m.1.length ∧ m.1.length ≤ 3) ∧ m.2.1.all snapB = true ∧ m.1.all headB = true then recF (metaL m) (-1) else ([], false)
theorem metaF_size {m : MetaD} (h : ¬ (m.2.1.length ≤ 6 ∧ 1 ≤ m.1.length ∧ m.1.length ≤ 3)) : metaF m = ([], false) := by unfold metaF; rw [if_neg (fun c => h c.1)]
theorem metaF_snap {m : MetaD} {k : Nat} {x : SnapD} (hx : m.2.1[k]? = some x) (h : snapB x = false) : metaF m = ([], false) := by
 unfold metaF
 rw [if_neg (fun c => by have := c.2.1; rw [all_noD hx h] at this; cases this)]
theorem metaF_head {m : MetaD} {k : Nat} {x : HeadD} (hx : m.1[k]? = some x) (h : headB x = false) : metaF m = ([], false) := by
 unfold metaF
 rw [if_neg (fun c => by have := c.2.2; rw [all_noD hx h] at this; cases this)]
theorem metaF_yes {m : MetaD} (h : m.2.1.length ≤ 6 ∧ 1 ≤ m.1.length ∧ m.1.length ≤ 3) (h1 : m.2.1.all snapB = true) (h2 : m.1.all headB = true) : metaF m = recF (metaL m) (-1) := by
 unfold metaF
 rw [if_pos ⟨h, h1, h2⟩]
theorem recF_len (fs : List Str) (e : Int) : (recF fs e).1.length ≤ 2048 := by
 unfold recF
 split
 · exact fieldsF_len fs
 simp
theorem join_goodD {ps : List PtrD} : (deadF ps).1.length ≤ ps.length * 61 := by
 unfold deadF
 split
 · have h1 := join_len (ps.map ptrSD) [44] 60 (fun x hx => by obtain ⟨p, _, rfl⟩ := List.mem_map.1 hx; exact ptrS_len _ _ _ _ _)
   rw [List.length_map] at h1
   simpa using h1
 simp
theorem treeSD_le (t : TreeD) : ∀ f ∈ treeSD t, f.length ≤ 60 := treeS_le _ _ _ _ _ _ _
theorem snapL_le {x : SnapD} (h1 : x.2.1.size ≤ 3000000) (h2 : x.2.2.2.2.2.length ≤ 2000000) : ∀ f ∈ snapL x, f.length ≤ 1099511627776 := by
 intro f hf
 unfold snapL at hf
 simp only [List.mem_append, List.mem_cons, List.not_mem_nil, or_false] at hf
 have e1 := numS_len x.1; have e2 := numS_len x.2.2.1; have e3 := numS_len x.2.2.2.1
 have e4 := join_goodD (ps := x.2.2.2.2.2)
 have e5 : x.2.1.data.toList.length = x.2.1.size := by rw [Array.length_toList]; rfl
 rcases hf with ((rfl | rfl | rfl | rfl) | hf) | rfl
 · omega
 · omega
 · omega
 · omega
 · have := treeSD_le _ f hf; omega
 omega
theorem headL_le {x : HeadD} (h1 : x.1.size ≤ 3000000) (h2 : x.2.2.2.1.length ≤ 2000000) : ∀ f ∈ headL x, f.length ≤ 1099511627776 := by
 intro f hf
 unfold headL at hf
 simp only [List.mem_append, List.mem_cons, List.not_mem_nil, or_false] at hf
 have e1 := numS_len x.2.1; have e2 := numS_len x.2.2.2.2
 have e4 := join_goodD (ps := x.2.2.2.1)
 have e5 : x.1.data.toList.length = x.1.size := by rw [Array.length_toList]; rfl
 rcases hf with ((rfl | rfl) | hf) | (rfl | rfl)
 · omega
 · omega
 · have := treeSD_le _ f hf; omega
 · omega
 omega
theorem metaL_le (m : MetaD) : ∀ f ∈ metaL m, f.length ≤ 1099511627776 := by
 intro f hf
 unfold metaL metaH at hf
 simp only [List.mem_append, List.mem_cons, List.not_mem_nil, or_false, List.mem_map] at hf
 have e1 := numS_len m.2.2.1; have e2 := numS_len (m.2.1.length : Nat)
 have e3 : (bitS m.2.2.2).length ≤ 1 := by unfold bitS; split <;> simp
 rcases hf with ((rfl | rfl | rfl | rfl) | ⟨x, _, rfl⟩) | ⟨x, _, rfl⟩
 · simp
 · omega
 · omega
 · omega
 · have := recF_len (snapL x) 7; unfold snapT; omega
 have := recF_len (headL x) 5; unfold headT; omega
end Go.Proofs.YtlacpcdbgimnmaaGreatDoor
