/- FieldsGet both: the record that a text is the text of. Condition: the variables that the library reads lie as the row says; the text is at most 2^40 bytes. -/
import Derived.Test.YtggdjiklgakfnaaGreatDoorNumGet
import Derived.Test.YtggdjiklgakfnaaGreatDoorNum
namespace Go.Proofs.YtggdjiklgakfnaaGreatDoor
set_option linter.unusedVariables false
set_option linter.unusedSimpArgs false
set_option linter.unnecessarySimpa false
open Go Go.Lib Go.RowKit

theorem ext_strB (b : Str) (i j : Nat) : (strB b).extract i j = strB ((b.take j).drop i) := by
  apply ByteArray.ext
  rw [ByteArray.data_extract]
  apply Array.ext'
  simp [strB, List.drop_take]
theorem ext_head (b : Str) (n : Nat) : (strB b).extract 0 n = strB (b.take n) := by rw [ext_strB]; rfl
theorem ext_tail (b : Str) (n : Nat) : (strB b).extract n (strB b).size = strB (b.drop n) := by
  rw [ext_strB, strB_size, List.take_of_length_le (Nat.le_refl _)]
def GotRec (s : Str) (w : World) (e : Ending) (w' : World) : Prop :=
  (∃ (l : List Str) (A : Option Addr) (c : Nat), IsRec s l ∧ e = .returned (.tuple #[.slice A l.length c, .bool true]) ∧ StrsIn w.heap.size w' A c l ∧ Below w.heap.size w w') ∨
  ((∀ l, ¬ IsRec s l) ∧ (∃ (A : Option Addr) (c : Nat), e = .returned (.tuple #[.slice A 0 c, .bool false])) ∧ Below w.heap.size w w')
theorem GotRec.no {s : Str} {A : Option Addr} {c : Nat} {w w' : World} (h : ∀ l, ¬ IsRec s l) (hb : Below w.heap.size w w') : GotRec s w (.returned (.tuple #[.slice A 0 c, .bool false])) w' := .inr ⟨h, ⟨A, c, rfl⟩, hb⟩
theorem GotRec.yes {s : Str} {l : List Str} {A : Option Addr} {c n : Nat} {w w' : World} (h : IsRec s l) (hn : n = l.length) (hI : StrsIn w.heap.size w' A c l) (hb : Below w.heap.size w w') : GotRec s w (.returned (.tuple #[.slice A n c, .bool true])) w' := by
  subst hn
  exact .inl ⟨l, A, c, h, rfl, hI, hb⟩
theorem StrsIn.nil' {B : Nat} {w : World} (A : Option Addr) : StrsIn B w A 0 [] := ⟨[], OwnA.nil A, by simp⟩
def strLen (v : Value) : Nat := match v with | .string s => s.size | _ => 0
theorem empty_yes : ((strB []).toList == []) = true := by rw [strB_list]; rfl
theorem empty_no {x : Str} (h : x ≠ []) : ((strB x).toList == []) = false := by rw [strB_list]; cases x with
  | nil => exact absurd rfl h
  | cons a x => rfl
set_option maxRecDepth 100000 in
theorem cloneS_any (s : ByteArray) (w : World) (hs : s.size ≤ 1099511627776) : Calls Tryz.prog 94 #[.string s] w fun e w' => e = .returned (.string s) ∧ Below w.heap.size w w' := by
  go_enter Tryz.func94, Tryz.ntmps94
  go_wp2_with fail
  refine (Tryz.stringslite_Clone s w (by omega)).mono ?_
  rintro e w1 ⟨rfl, hb⟩
  go_wp2_with fail
  go_ret
  exact ⟨rfl, hb⟩
def CutR (s : Str) (w : World) (e : Ending) (w' : World) : Prop :=
  e = .returned (.tuple #[.string (strB (match cutC s with | some (a, _) => a | none => s)), .string (strB (match cutC s with | some (_, b) => b | none => [])), .bool (cutC s).isSome]) ∧ Below w.heap.size w w'
theorem cutS_any (s : Str) (w : World) (he : Env w) (hs : s.length ≤ 1000000) : Calls Tryz.prog 92 #[.string (strB s), .string ⟨#[58]⟩] w (CutR s w) := by
  obtain ⟨_, _, m, hm⟩ := he
  have C := Tryz.strings_Cut (strB s) ⟨#[58]⟩ m w (by rw [strB_size]; omega) hm
  rw [show (strB s).data.toList = s by simp [strB], show (⟨#[58]⟩ : ByteArray).data.toList = [58] from rfl] at C
  refine C.mono ?_
  rintro e w' ⟨rfl, q, rfl⟩
  refine ⟨?_, below_drewN (Below.refl _ _) q⟩
  cases hc : cutC s with
  | none => rw [cut_none hc]; rfl
  | some p => obtain ⟨a, b⟩ := p; rw [cut_some hc]; rfl
set_option maxRecDepth 100000 in
set_option maxHeartbeats 4000000 in
theorem fieldsGet_any (s : Str) (w : World) (he : Env w) (hs : s.length ≤ 1099511627776) : Calls Tryz.prog 68 #[.string (strB s)] w (GotRec s w) := by
  have hsz : (strB s).size = s.length := rfl
  obtain ⟨i0, hi0, hz0, hz1, hz2⟩ := info_parts info_strs
  by_cases hlen : s.length ≤ 2048
  · have hli : ¬ (2048 : Int) < (s.length : Int) := by omega
    go_enter Tryz.func68, Tryz.ntmps68
    go_wp2_with fail
    go_loopw [4, 5] (fun t r wr => ∃ (out : List Str) (rest : Str) (A : Option Addr) (c n : Nat), t = .slice A n c ∧ r = .string (strB rest) ∧ n ≤ 60 ∧ rest.length ≤ 2048 ∧ Hid (n = out.length) ∧ Hid (encs out ++ rest = s) ∧ Hid (∀ f ∈ out, f.length ≤ 999999999) ∧ Hid (StrsIn w.heap.size wr A c out) ∧ Hid (Below w.heap.size w wr)) (fun _ r _ => strLen r)
    case atStart => exact ⟨[], s, none, 0, 0, rfl, rfl, by omega, hlen, Lib.hid rfl, Lib.hid rfl, Lib.hid (by simp), Lib.hid StrsIn.nil, Lib.hid (Below.refl _ _)⟩
    case round =>
      obtain ⟨out, rest, A, c, n, rfl, rfl, hn60, hrl, HN, HE, HF, HI, HB⟩ := hrel
      have hbw : w.heap.size ≤ wr.heap.size := HB.out.size
      by_cases hr : rest = []
      · subst hr
        have hz := empty_yes
        have HR : Hid (IsRec s out) := Lib.hid ⟨by have := HE.out; rw [List.append_nil] at this; exact this, by have := HN.out; omega, hlen⟩
        go_wp2_with fail
        exact bodyPost_ret (v := .tuple #[.slice A n c, .bool true]) (by simp [results, Tryz.results68, go_sem]) rfl (GotRec.yes HR.out HN.out HI.out HB.out)
      · have hz := empty_no hr
        have HRN := Lib.hid hr
        have HEw := Lib.hid (he.below HB.out)
        clear hr
        go_wp2_with fail
        refine (cutS_any rest wr HEw.out (by omega)).mono ?_
        cases hc : cutC rest with
        | none =>
          rintro e w1 ⟨rfl, hb1⟩
          rw [hc]
          have HNO := Lib.hid (no_rec HE.out HF.out HRN.out (stepF_none hc))
          have HB1 := HB.out.trans (hb1.mono hbw)
          have HEn := Lib.hid (HEw.out.below hb1)
          clear hc hb1
          simp only [Option.isSome_none]
          go_wp2_with fail
          refine (numGet_any rest w1 HEn.out (by omega)).mono ?_
          rintro e w2 ⟨rfl, hb2⟩
          have HB2 := Lib.hid (HB1.trans (hb2.mono HB1.size))
          clear hb2
          go_wp2_with fail
          exact bodyPost_ret (v := .tuple #[.slice none 0 0, .bool false]) (by simp [results, Tryz.results68, go_sem]) rfl (GotRec.no HNO.out HB2.out)
        | some p =>
          obtain ⟨a, b⟩ := p
          rintro e w1 ⟨rfl, hb1⟩
          rw [hc]
          obtain ⟨hab, _⟩ := cutC_eq hc
          have hal : a.length + 1 + b.length = rest.length := by rw [hab]; simp; omega
          have HB1 := HB.out.trans (hb1.mono hbw)
          have HEn := Lib.hid (HEw.out.below hb1)
          have HC := Lib.hid hc
          have HI1 := Lib.hid (HI.out.below hb1)
          clear hc hb1 hab HI
          simp only [Option.isSome_some]
          go_wp2_with fail
          refine (numGet_any a w1 HEn.out (by omega)).mono ?_
          rintro e w2 ⟨rfl, hb2⟩
          have HB2 := Lib.hid (HB1.trans (hb2.mono HB1.size))
          have HI2 := Lib.hid (HI1.out.below hb2)
          clear hb2 HI1 HB1
          cases hg : numGet a with
          | none =>
            have HNO := Lib.hid (no_rec HE.out HF.out HRN.out (stepF_bad HC.out hg))
            clear hg
            simp only [Option.isSome_none, Option.getD_none]
            go_wp2_with fail
            exact bodyPost_ret (v := .tuple #[.slice none 0 0, .bool false]) (by simp [results, Tryz.results68, go_sem]) rfl (GotRec.no HNO.out HB2.out)
          | some k =>
            have HG := Lib.hid hg
            have hk9 := numGet_le hg
            clear hg
            simp only [Option.isSome_some, Option.getD_some]
            have hbsz : (strB b).size = b.length := rfl
            by_cases hkb : k ≤ b.length
            · have hkbi : ¬ (b.length : Int) < (k : Int) := by omega
              by_cases h60 : n = 60
              · have HNO : Hid (∀ l, ¬ IsRec s l) := Lib.hid (fun l hl => by have := rec_more HE.out HF.out HRN.out hl; have := hl.2.1; have := HN.out; omega)
                subst h60
                go_wp2_with fail
                exact bodyPost_ret (v := .tuple #[.slice none 0 0, .bool false]) (by simp [results, Tryz.results68, go_sem]) rfl (GotRec.no HNO.out HB2.out)
              · have h60i : ((n : Int) == 60) = false := by simp; omega
                have hx1 := ext_head b k
                have hx2 : (strB b).extract k b.length = strB (b.drop k) := ext_tail b k
                have hki : (k : Int) ≤ (b.length : Int) := by omega
                have hk0 : (0 : Int) ≤ (k : Int) := by omega
                have hfl : (strB (b.take k)).size ≤ 1099511627776 := by rw [strB_size, List.length_take]; omega
                go_wp2_with fail
                refine (cloneS_any (strB (b.take k)) w2 hfl).mono ?_
                rintro e w3 ⟨rfl, hb3⟩
                have HI3 := HI2.out.below hb3
                have HB3 := HB2.out.trans (hb3.mono HB2.out.size)
                clear hb3 HI2 HB2
                obtain ⟨S, hOS, hSB⟩ := HI3
                rw [← HN.out] at hOS
                obtain ⟨x, hxx⟩ : ∃ x, x = b.take k := ⟨_, rfl⟩
                rw [← hxx]
                have HX := Lib.hid hxx
                have HOA := Lib.hid (hOS.below (bel1 (o := .cells #[.string (strB x)] 9)))
                have HLIT := Lib.hid (fun (W : World) => RowAt.lit (w := W) (e := 9) (cur := #[.string (strB x)]) (m := 1) rfl)
                have HONE : Hid (∀ u ∈ [x].map strV, u.oneCell' = true) := Lib.hid (strs_one _)
                have HSB := Lib.hid hSB
                have HB3' := Lib.hid HB3
                clear hOS hSB HB3 HB hxx
                go_wp2_with (at_builtin; go_must (refine wpList_append_row rfl _ _ 67 rfl 9 i0 (.string ByteArray.empty) 1 16 Tryz.underlying67 hi0 hz0 hz1 hz2 rfl (by decide) S A _ n c 1 _ (out.map strV) ([x].map strV) rfl rfl HOA.out (HLIT.out _) HONE.out (by unfold maxLen; omega) (by omega) ?_))
                intro A' c' S' w5 hO' hS' hC'
                obtain ⟨hI5, hb5⟩ := app_strs (B := w.heap.size) HSB.out (w1 := w3.alloc (.cells #[.string (strB x)] 9)) (fs := out) (gs := [x]) (by have := HB3'.out.size; simp; omega) (by rw [List.length_append, List.length_singleton, HN.out]) hO' (fun g hg => (hS' g hg).imp id (fun h => by simpa using h)) hC'
                have HB5 := Lib.hid (HB3'.out.trans (((Below.refl _ _).alloc HB3'.out.size _).trans hb5))
                have HI5 := Lib.hid hI5
                have hst := stepF_eq (stepF_ok HC.out HG.out hkb)
                have HE5 : Hid (encs (out ++ [x]) ++ b.drop k = s) := Lib.hid (by
                  rw [encs_append, encs_cons, encs_nil, List.append_nil, List.append_assoc, HX.out, ← hst.1]; exact HE.out)
                have HF5 : Hid (∀ f ∈ out ++ [x], f.length ≤ 999999999) := Lib.hid (fun f hf => by
                  rcases List.mem_append.1 hf with hf | hf
                  · exact HF.out f hf
                  · rw [List.mem_singleton] at hf; subst hf; rw [HX.out]; exact hst.2)
                have HN5 : Hid (n + 1 = (out ++ [x]).length) := Lib.hid (by rw [List.length_append, List.length_singleton, HN.out])
                have hn1 : n + 1 ≤ 60 := by omega
                have hdl : (b.drop k).length ≤ 2048 := by rw [List.length_drop]; omega
                have hms : (b.drop k).length < rest.length := by rw [List.length_drop]; omega
                clear hb5 hO' hS' hC' HOA HLIT HONE HSB HB3' hst HE HF HN HI5
                have HI5 := Lib.hid hI5
                go_wp2_with fail
                go_roundw
                case rel => exact ⟨out ++ [x], b.drop k, A', c', n + 1, rfl, rfl, hn1, hdl, HN5, HE5, HF5, HI5, HB5⟩
                case measure => exact hms
            · have hkbi : (b.length : Int) < (k : Int) := by omega
              have HNO := Lib.hid (no_rec HE.out HF.out HRN.out (stepF_short HC.out HG.out hkb))
              go_wp2_with fail
              exact bodyPost_ret (v := .tuple #[.slice none 0 0, .bool false]) (by simp [results, Tryz.results68, go_sem]) rfl (GotRec.no HNO.out HB2.out)
  · have hli : (2048 : Int) < (s.length : Int) := by omega
    go_enter Tryz.func68, Tryz.ntmps68
    go_wp2_with fail
    exact bodyPost_ret (v := .tuple #[.slice none 0 0, .bool false]) (by simp [results, Tryz.results68, go_sem]) rfl (GotRec.no (fun l hl => hlen hl.2.2) (Below.refl _ _))
end Go.Proofs.YtggdjiklgakfnaaGreatDoor
