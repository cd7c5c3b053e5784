/- The checksum of a text: both return sumL. No condition. -/
import Derived.Test.YtjnhiiaejeaikaaGreatDoorRLib
import Derived.Test.YtjnhiiaejeaikaaGreatDoorChecked
import Derived.Lib.LaidTab
import Derived.Lib.AppendIntMem
import Derived.Stop.LaidErr
import Derived.Test.YtjnhiiaejeaikaaGreatDoorRRecs
import Derived.Test.YtjnhiiaejeaikaaGreatDoorRShelf
import Derived.Laws.BytesArg
set_option linter.unnecessarySimpa false
set_option linter.unusedSimpArgs false
set_option linter.unusedVariables false
namespace Go.Proofs.YtjnhiiaejeaikaaGreatDoor
section
open Go.RowKit
def Tab (w : World) : Prop := Lib.TabIs Tryz.prog w "internal/strconv.uint64pow10" .u64 Lib.pow10Tab
theorem Tab.below {w w' : World} (h : Tab w) (hb : Below w.heap.size w w') : Tab w' := Lib.tabBelow_of_tabIs h w' hb
theorem tab_of_laid {W : World} {rest : List (String × DataW Unit)} (h : laidMet Tryz.prog (("internal/strconv.uint64pow10", Lib.tabData .u64 Lib.pow10Tab) :: rest) W) : Tab W :=
 Lib.tabIs_of_head (g := 3) (t := 187) (e := 161) (n := 20) (by kernel_rfl) (by kernel_rfl) Tryz.underlying187 Tryz.underlying161 (by kernel_rfl) (by kernel_rfl) h
end
section
open Go Go.Lib Go.RowKit
theorem one_digit {d : Nat} (h : d < 10) : strOfNums [((48 + d : Nat) : Int)] = strB [UInt8.ofNat (48 + d)] := by
 have e : strOfNums [((48 + d : Nat) : Int)] = ⟨#[UInt8.ofNat (((48 + d : Nat) : Int)).toNat]⟩ := rfl
 rw [e, Int.toNat_natCast]
 rfl
theorem grow_bel (w : World) (k : Nat) (os : Array Obj) : Below w.heap.size w (Sort.grow (w.drewN k) os) :=
 ⟨rfl, rfl, rfl, by simp [Sort.grow], fun i hi => by show (w.heap ++ os)[i]? = w.heap[i]?; exact Array.getElem?_append_left hi⟩
theorem conv1 {w : World} {g : Nat} {v : Int} (hg : w.heap[g]? = some (.cells #[.int .u8 v] 5 (0, 0))) :
 (convert 100 9 (.slice (some ⟨g, 0, none⟩) 1 1)).run Tryz.prog w = .ok (.string (strOfNums [v])) w :=
 run_convert_bytes_arg (P := Tryz.prog) _ 100 5 Tryz.underlying100 Tryz.underlying5 g 0 1 1 [v] rfl (fun i hi => by have : i = 0 := (by omega); subst this; exact celR 0 hg) 9 Tryz.underlying9
def litB (d : Int) : StP := ⟨fun v w => ∃ g : Nat, v = .slice (some ⟨g, 0, none⟩) 1 1 ∧ w.heap[g]? = some (.cells #[.int .u8 d] 5 (0, 0)), fun v w w' hs ⟨g, e, hg⟩ => ⟨g, e, (Below.block hs g (Array.getElem?_eq_some_iff.1 hg).1).trans hg⟩⟩
theorem sz1 (v : Int) : (strOfNums [v]).size = 1 := rfl
set_option maxRecDepth 100000 in
set_option maxHeartbeats 4000000 in
theorem l6Dec_any (n : Nat) : n ≤ 1000000000000000000 → ∀ w : World, Calls Tryz.prog 94 #[.int .i64 (n : Int)] w fun e w' => e = .returned (.string (strB (decDigits n))) ∧ Below w.heap.size w w' := by
 induction n using Nat.strongRecOn with
 | _ n ih =>
   intro hn w
   have hn0 : ¬ (n : Int) < -9223372036854775807 := by omega
   have hn1 : ¬ (n : Int) < 0 := by omega
   by_cases h : n < 10
   · have h10 : (n : Int) < 10 := by omega
     have HE := Lib.hid (dec_small h)
     have hc : ∀ (W : World) (v : Int), (convert 100 9 (.slice (some ⟨W.heap.size, 0, none⟩) 1 1)).run Tryz.prog (W.alloc (.cells #[.int .u8 v] 5)) = .ok (.string (strOfNums [v])) (W.alloc (.cells #[.int .u8 v] 5)) := fun W v => conv1 (heap_alloc_new _ _)
     go_enter Tryz.func94, Tryz.ntmps94
     go_wp2_with fail
     go_ret
     exact ⟨ret_str (by rw [HE.out, ← one_digit h]; simp), bel1⟩
   have h10 : ¬ (n : Int) < 10 := by omega
   have HE := Lib.hid (dec_big h)
   obtain ⟨m, hm⟩ : ∃ m : Nat, m = n / 10 := ⟨_, rfl⟩
   obtain ⟨r, hr⟩ : ∃ r : Nat, r = n % 10 := ⟨_, rfl⟩
   obtain ⟨x, hx⟩ : ∃ x : Int, x = ((48 + r : Nat) : Int) := ⟨_, rfl⟩
   have hsz : (strB (decDigits m)).size ≤ 20 := by rw [strB_size]; exact dec_len20 (by omega)
   have hz1 := sz1 x
   have HR : Hid (strOfNums [x] = strB [UInt8.ofNat (48 + n % 10)]) := Lib.hid (by rw [hx, hr]; exact one_digit (Nat.mod_lt _ (by decide)))
   have t1 : (n : Int).tdiv 10 = (m : Int) := by rw [Int.tdiv_eq_ediv_of_nonneg (by omega)]; omega
   have t1b : (n : Int) / 10 = (m : Int) := by omega
   have t2 : (n : Int).tmod 10 = (r : Int) := by rw [Int.tmod_eq_emod_of_nonneg (by omega)]; omega
   have t2b : (n : Int) % 10 = (r : Int) := by omega
   have t3 : IntKind.i64.wrap (m : Int) = (m : Int) := IntWalk.i64_in _ (by omega)
   have t4 : IntKind.i64.wrap (48 + (r : Int)) = x := by rw [IntWalk.i64_in _ (by omega)]; omega
   have t5 : IntKind.u8.wrap x = x := IntWalk.u8_in _ (by omega)
   rw [← hm] at HE
   have hmn : m < n := by omega
   clear hx hr hm
   go_enter Tryz.func94, Tryz.ntmps94
   go_wp2_with fail
   apply wp_region_rg (by kernel_rfl) (false :: false :: true :: false :: false :: false :: false :: false :: false :: false :: false :: false :: false :: false :: false :: false :: false :: false :: true :: true :: true :: true :: true :: true :: true :: true :: true :: true :: []) [some 18, some 19, some 20, some 21, some 22, some 23, some 24, some 25, some 26, some 27, some 2] [[], [0], [1], [], [3], [4], [5], [6], [7], [2, 8], [9]] [StP.is _, StP.is _, StP.is _, StP.is _, StP.is _, StP.is _, StP.is _, litB x, StP.is _, StP.is _, StP.is _] (by kernel_rfl)
   case hobs =>
    refine ⟨fun y w' hS hF K hK => ?_, ?_⟩
    · skip
      simp only [fillL, cond_true, cond_false, zG0, zG1, StP.is, Act.put, zS2, zS0, zS1, Nat.reduceAdd] at hK ⊢
      refine rg_yes (by kernel_rfl) ?_
      clear hF
      go_simp
      exact hK _ _ (Ext.refl _) rfl
    refine ⟨fun y w' hS hF K hK => ?_, ?_⟩
    · skip
      have e18 : y 18 = _ := hF.1
      simp only [fillL, cond_true, cond_false, zG0, zG1, StP.is, Act.put, zS2, zS0, zS1, Nat.reduceAdd, e18] at hK ⊢
      refine rg_yes (by kernel_rfl) ?_
      clear e18
      clear hF
      go_simp
      exact hK _ _ (Ext.refl _) rfl
    refine ⟨fun y w' hS hF K hK => ?_, ?_⟩
    · skip
      have e19 : y 19 = _ := hF.1
      simp only [fillL, cond_true, cond_false, zG0, zG1, StP.is, Act.put, zS2, zS0, zS1, Nat.reduceAdd, e19] at hK ⊢
      refine rg_yes (by kernel_rfl) ?_
      clear e19
      clear hF
      go_simp
      go_at_call 94
      refine (ih m hmn (by omega) _).mono ?_
      rintro e w'' ⟨rfl, hb⟩
      exact hK _ _ hb rfl
    refine ⟨fun y w' hS hF K hK => ?_, ?_⟩
    · skip
      simp only [fillL, cond_true, cond_false, zG0, zG1, StP.is, Act.put, zS2, zS0, zS1, Nat.reduceAdd] at hK ⊢
      refine rg_yes (by kernel_rfl) ?_
      clear hF
      go_simp
      exact hK _ _ (Ext.refl _) rfl
    refine ⟨fun y w' hS hF K hK => ?_, ?_⟩
    · skip
      have e21 : y 21 = _ := hF.1
      simp only [fillL, cond_true, cond_false, zG0, zG1, StP.is, Act.put, zS2, zS0, zS1, Nat.reduceAdd, e21] at hK ⊢
      refine rg_yes (by kernel_rfl) ?_
      clear e21
      clear hF
      go_simp
      exact hK _ _ (Ext.refl _) rfl
    refine ⟨fun y w' hS hF K hK => ?_, ?_⟩
    · skip
      have e22 : y 22 = _ := hF.1
      simp only [fillL, cond_true, cond_false, zG0, zG1, StP.is, Act.put, zS2, zS0, zS1, Nat.reduceAdd, e22] at hK ⊢
      refine rg_yes (by kernel_rfl) ?_
      clear e22
      clear hF
      go_simp
      exact hK _ _ (Ext.refl _) rfl
    refine ⟨fun y w' hS hF K hK => ?_, ?_⟩
    · skip
      have e23 : y 23 = _ := hF.1
      simp only [fillL, cond_true, cond_false, zG0, zG1, StP.is, Act.put, zS2, zS0, zS1, Nat.reduceAdd, e23] at hK ⊢
      refine rg_yes (by kernel_rfl) ?_
      clear e23
      clear hF
      go_simp
      exact hK _ _ (Ext.refl _) rfl
    refine ⟨fun y w' hS hF K hK => ?_, ?_⟩
    · skip
      have e24 : y 24 = _ := hF.1
      simp only [fillL, cond_true, cond_false, zG0, zG1, StP.is, Act.put, zS2, zS0, zS1, Nat.reduceAdd, e24] at hK ⊢
      refine rg_yes (by kernel_rfl) ?_
      clear e24
      clear hF
      go_simp
      exact hK _ _ (Ext.alloc _ _) ⟨_, rfl, heap_alloc_new _ _⟩
    refine ⟨fun y w' hS hF K hK => ?_, ?_⟩
    · skip
      obtain ⟨g, e25, hg⟩ := hF.1
      simp only [fillL, cond_true, cond_false, zG0, zG1, StP.is, Act.put, zS2, zS0, zS1, Nat.reduceAdd, e25] at hK ⊢
      refine rg_yes (by kernel_rfl) ?_
      have hcv := conv1 hg
      clear e25
      clear hF
      go_simp
      exact hK _ _ (Ext.refl _) rfl
    refine ⟨fun y w' hS hF K hK => ?_, ?_⟩
    · skip
      have e20 : y 20 = _ := hF.1
      have e26 : y 26 = _ := hF.2.1
      simp only [fillL, cond_true, cond_false, zG0, zG1, StP.is, Act.put, zS2, zS0, zS1, Nat.reduceAdd, e20, e26] at hK ⊢
      refine rg_yes (by kernel_rfl) ?_
      clear e20 e26
      clear hF
      go_simp
      rw [if_neg (by omega)]
      go_simp
      exact hK _ _ (Ext.refl _) rfl
    refine ⟨fun y w' hS hF K hK => ?_, ?_⟩
    · skip
      have e27 : y 27 = _ := hF.1
      simp only [fillL, cond_true, cond_false, zG0, zG1, StP.is, Act.put, zS2, zS0, zS1, Nat.reduceAdd, e27] at hK ⊢
      refine rg_yes (by kernel_rfl) ?_
      clear e27
      clear hF
      go_simp
      exact hK _ _ (Ext.refl _) rfl
    trivial
   intro y w9 hS9 hF
   have e2 : y 2 = _ := hF.2.2.2.2.2.2.2.2.2.2.1
   clear hF
   simp only [fillL, cond_true, cond_false, Nat.reduceAdd, e2]
   clear e2
   go_wp2_with fail
   go_ret
   exact ⟨ret_str (by rw [HE.out, HR.out, strB_app]), hS9⟩
theorem itoa_any (n : Nat) (hn : n ≤ 9223372036854775807) (w : World) (ht : Tab w) : Calls Tryz.prog 119 #[.int .i64 (n : Int)] w fun e w' => e = .returned (.string (strB (decDigits n))) ∧ Below w.heap.size w w' := by
 refine (Tryz.strconv_Itoa (n : Int) (by omega) (by omega) w ht).mono ?_
 rintro e w' ⟨rfl, k, os, rfl⟩
 exact ⟨ret_str (by rw [itoa_nonneg]; rfl), grow_bel _ _ _⟩
set_option maxRecDepth 100000 in
set_option maxHeartbeats 1000000 in
theorem numPut_any (n : Int) (w : World) (ht : Tab w) : Calls Tryz.prog 104 #[.int .i64 n] w fun e w' => e = .returned (.string (strB (numS n))) ∧ Below w.heap.size w w' := by
 by_cases h : 0 ≤ n ∧ n ≤ 999999999
 · have hb := inB_yes h
   have HE := Lib.hid (numS_yes h)
   obtain ⟨m, rfl⟩ : ∃ m : Nat, n = (m : Int) := ⟨n.toNat, by omega⟩
   go_enter Tryz.func104, Tryz.ntmps104
   go_wp2_with (go_at_call 61; refine (within_any _ _ _ _).mono ?_; rw [hb]; rintro e w' ⟨rfl, rfl⟩)
   refine (itoa_any m (by omega) _ ht).mono ?_
   rintro e w1 ⟨rfl, hb1⟩
   go_wp2_with fail
   go_ret
   exact ⟨ret_str (by rw [HE.out]; simp), hb1⟩
 have hb := inB_no h
 have HE := Lib.hid (numS_no h)
 go_enter Tryz.func104, Tryz.ntmps104
 go_wp2_with (go_at_call 61; refine (within_any _ _ _ _).mono ?_; rw [hb]; rintro e w' ⟨rfl, rfl⟩)
 go_ret
 exact ⟨ret_str (by rw [HE.out]; rfl), Below.refl _ _⟩
end
section
open Go Go.Lib Go.RowKit
theorem isBuilder_below {T e : TypeId} {B b : Nat} {bs : List Value} {w w' : World} (h : Lib.IsBuilder T e B b bs w) (hb : Below w.heap.size w w') : Lib.IsBuilder T e B b bs w' := by
 have key : ∀ p, Lib.BuilderAt T e B b p bs w → Lib.BuilderAt T e B b p bs w' := by
  intro p hp
  have hlt := hp.lt
  obtain ⟨hB, v, hbk, hown, hne⟩ := hp
  refine ⟨hB, v, (hb.block b hlt).trans hbk, ?_, hne⟩
  obtain ⟨hl, hr⟩ := hown
  refine ⟨hl, ?_⟩
  rcases hr with hr | ⟨g, cap, cur, hv, hg, hh, r⟩
  · exact .inl hr
  exact .inr ⟨g, cap, cur, hv, hg, (hb.block g (Array.getElem?_eq_some_iff.1 hh).1).trans hh, r⟩
 rcases h with h | h
 · exact .inl (key _ h)
 exact .inr (key _ h)
theorem strCells_strB (l : Str) : Lib.strCells (strB l) = Lib.byteCells l := by rw [Lib.strCells_eq]; simp [strB]
theorem enc_cells {fs : List Str} {j : Nat} {f : Str} (hf : fs[j]? = some f) :
 Lib.byteCells (encs (fs.take j)) ++ Lib.strCells (strB (decDigits (strB f).size)) ++ [Value.int .u8 58] ++ Lib.strCells (strB f) = Lib.byteCells (encs (fs.take (j + 1))) := by
 rw [encs_take hf, strCells_strB, strCells_strB, strB_size]
 show Lib.byteCells (encs (fs.take j)) ++ Lib.byteCells (decDigits f.length) ++ Lib.byteCells [58] ++ Lib.byteCells f = _
 rw [← Lib.byteCells_append, ← Lib.byteCells_append, ← Lib.byteCells_append]
 unfold enc1
 simp
theorem enc_str {fs : List Str} {j : Nat} {f : Str} (hf : fs[j]? = some f) :
 strB (encs (fs.take j)) ++ strB (decDigits (strB f).size) ++ ⟨#[58]⟩ ++ strB f = strB (encs (fs.take (j + 1))) := by
 rw [encs_take hf, strB_size]
 show strB (encs (fs.take j)) ++ strB (decDigits f.length) ++ strB [58] ++ strB f = _
 rw [strB_app, strB_app, strB_app]
 unfold enc1
 simp
theorem take_len {α : Type} (l : List α) : l.take l.length = l := List.take_of_length_le (Nat.le_refl _)
def PutF (fs : List Str) (w : World) (e : Ending) (w' : World) : Prop := e = .returned (.tuple #[.string (strB (fieldsF fs).1), .bool (fieldsF fs).2]) ∧ Below w.heap.size w w'
theorem PutF.no {fs : List Str} {w w' : World} (h : fieldsF fs = ([], false)) (hb : Below w.heap.size w w') : PutF fs w (.returned (.tuple #[.string ⟨#[]⟩, .bool false])) w' := ⟨by rw [h]; rfl, hb⟩
theorem PutF.yes {fs : List Str} {w w' : World} (h : fieldsF fs = (encs fs, true)) (hb : Below w.heap.size w w') : PutF fs w (.returned (.tuple #[.string (strB (encs fs)), .bool true])) w' := ⟨by rw [h], hb⟩
set_option maxRecDepth 100000 in
set_option maxHeartbeats 4000000 in
theorem fieldsPut_any (A : Option Addr) (c : Nat) (fs : List Str) (w : World) (ht : Tab w) (h : RowAt w A fs.length (fs.map strV)) (hb : ∀ f ∈ fs, f.length ≤ 1099511627776) (hl : fs.length ≤ 9223372036854775807) :
 Calls Tryz.prog 107 #[.slice A fs.length c] w (PutF fs w) := by
 by_cases hm : fs.length ≤ 60
 · have hm1 : ¬ (60 : Int) < (fs.length : Int) := by omega
   go_enter Tryz.func107, Tryz.ntmps107
   go_wp2_with fail
   go_loopw [12] (fun i wr => ∃ j : Nat, i = .int .i64 (j : Int) ∧ j ≤ fs.length ∧ Hid (Lib.IsBuilder 142 5 w.heap.size w.heap.size (Lib.byteCells (encs (fs.take j))) wr) ∧ Hid ((encs (fs.take j)).length ≤ 2048) ∧ Hid (Below w.heap.size w wr)) (fun i _ => fs.length - (RowKit.intOf i).toNat)
   case atStart => exact ⟨0, rfl, Nat.zero_le _, Lib.hid (Lib.fresh_isBuilder _ _ _), Lib.hid (by simp [encs]), Lib.hid ((Below.refl _ _).alloc (Nat.le_refl _) _)⟩
   obtain ⟨j, rfl, hj, HBd, HLn, HB⟩ := hrel
   have hbw : w.heap.size ≤ wr.heap.size := HB.out.size
   by_cases hlt : j < fs.length
   · have hd : ((j : Nat) : Int) < (fs.length : Int) := by omega
     obtain ⟨f, hf⟩ : ∃ f, fs[j]? = some f := ⟨_, List.getElem?_eq_getElem hlt⟩
     obtain ⟨b, off, rfl, hbl, hc⟩ := h.at_ (k := j) hlt
     have hcj : wr.cell? ⟨b, off + j, none⟩ = some (.string (strB f)) := (HB.out.cell hbl).trans ((hc j hlt).trans (by rw [List.getElem?_map, hf]; rfl))
     have hfl : (strB f).size ≤ 1099511627776 := hb f (List.mem_of_getElem? hf)
     have HE := Lib.hid (enc_cells hf)
     have hL1 : (Lib.byteCells (encs (fs.take j))).length ≤ 2048 := by rw [Lib.byteCells_length]; exact HLn.out
     have hL2 : (Lib.strCells (strB (decDigits (strB f).size))).length ≤ 20 := by rw [strCells_strB, Lib.byteCells_length]; exact dec_len20 (by omega)
     have hL3 : (strB (decDigits (strB f).size)).size ≤ 20 := dec_len20 (by omega)
     have HT : Hid (Tab wr) := Lib.hid (ht.below HB.out)
     clear hc
     go_wp2_with fail
     refine (itoa_any (strB f).size (by omega) wr HT.out).mono ?_
     rintro e w1 ⟨rfl, hb1⟩
     have HB1 : Below w.heap.size w w1 := HB.out.trans (hb1.mono hbw)
     go_wp2_with fail
     refine (Tryz.Builder_WriteString _ _ _ _ w1 (isBuilder_below HBd.out hb1) (by omega) HB1.size).mono ?_
     rintro e w2 ⟨rfl, hB2, hb2⟩
     have HB2 : Below w.heap.size w w2 := HB1.trans hb2
     clear hb1 hb2
     go_wp2_with fail
     refine (Tryz.Builder_WriteByte _ _ _ 58 w2 (.inr hB2) (by rw [List.length_append]; omega) HB2.size).mono ?_
     rintro e w3 ⟨rfl, hB3, hb3⟩
     have HB3 : Below w.heap.size w w3 := HB2.trans hb3
     clear hb3 hB2
     go_wp2_with fail
     refine (Tryz.Builder_WriteString _ _ _ _ w3 (.inr hB3) (by rw [List.length_append, List.length_append, List.length_singleton]; omega) HB3.size).mono ?_
     rintro e w4 ⟨rfl, hB4, hb4⟩
     have HB4 : Below w.heap.size w w4 := HB3.trans hb4
     rw [HE.out] at hB4
     clear hb4 hB3 HE hcj
     go_wp2_with fail
     refine (Tryz.Builder_Len _ _ _ w4 (.inr hB4)).mono ?_
     obtain ⟨m, hm2⟩ : ∃ m, m = (Lib.byteCells (encs (fs.take (j + 1)))).length := ⟨_, rfl⟩
     rw [← hm2]
     rintro e w5 ⟨rfl, rfl⟩
     have hm3 : (encs (fs.take (j + 1))).length = m := by rw [hm2, Lib.byteCells_length]
     have HM := Lib.hid hm3
     clear hm2 hm3
     by_cases hbig : m ≤ 2048
     · have hbg : ¬ (2048 : Int) < (m : Int) := by omega
       go_wp2_with fail
       go_roundw
       case rel => exact ⟨j + 1, by simp, by omega, Lib.hid (.inr hB4), Lib.hid (by have := HM.out; omega), Lib.hid HB4⟩
       simp [RowKit.intOf]; omega
     have hbg : (2048 : Int) < (m : Int) := by omega
     go_wp2_with fail
     exact bodyPost_ret (v := .tuple #[.string ⟨#[]⟩, .bool false]) (by simp [results, Tryz.results107, go_sem]) rfl (PutF.no (fieldsF_long (i := j + 1) (by have := HM.out; omega)) HB4)
   have hd : ¬ ((j : Nat) : Int) < (fs.length : Int) := by omega
   obtain rfl : j = fs.length := by omega
   rw [take_len] at HBd HLn
   go_wp2_with fail
   refine (Tryz.Builder_String_any _ _ _ wr HBd.out hbw).mono ?_
   rintro e w1 ⟨rfl, hb1⟩
   rw [show (⟨(encs fs).toArray⟩ : ByteArray) = strB (encs fs) from rfl]
   go_wp2_with fail
   exact bodyPost_ret (v := .tuple #[.string (strB (encs fs)), .bool true]) (by simp [results, Tryz.results107, go_sem]) rfl (PutF.yes (fieldsF_yes hm HLn.out) (HB.out.trans hb1))
 have hm1 : (60 : Int) < (fs.length : Int) := by omega
 go_enter Tryz.func107, Tryz.ntmps107
 go_wp2_with fail
 exact bodyPost_ret (v := .tuple #[.string ⟨#[]⟩, .bool false]) (by simp [results, Tryz.results107, go_sem]) rfl (PutF.no (fieldsF_many hm) (Below.refl _ _))
set_option maxRecDepth 100000 in
set_option maxHeartbeats 4000000 in
theorem spFieldsPut_any (A : Option Addr) (c : Nat) (fs : List Str) (w : World) (h : RowAt w A fs.length (fs.map strV)) (hb : ∀ f ∈ fs, f.length ≤ 1099511627776) (hl : fs.length ≤ 9223372036854775807) :
 Calls Tryz.prog 91 #[.slice A fs.length c] w (PutF fs w) := by
 go_enter Tryz.func91, Tryz.ntmps91
 go_wp2_with fail
 go_loopw [4, 5] (fun o i wr => ∃ j : Nat, o = .string (strB (encs (fs.take j))) ∧ i = .int .i64 (j : Int) ∧ j ≤ fs.length ∧ (¬ fs.length ≤ 60 → j = 0) ∧ Hid ((encs (fs.take j)).length ≤ 2048) ∧ Hid (Below w.heap.size w wr)) (fun _ i _ => fs.length - (RowKit.intOf i).toNat)
 case atStart => exact ⟨0, rfl, rfl, Nat.zero_le _, fun _ => rfl, Lib.hid (by simp [encs]), Lib.hid (Below.refl _ _)⟩
 obtain ⟨j, rfl, rfl, hj, hj0, HLn, HB⟩ := hrel
 have hbw : w.heap.size ≤ wr.heap.size := HB.out.size
 by_cases hm : fs.length ≤ 60
 · have hm1 : (fs.length : Int) ≤ 60 := by omega
   by_cases hlt : j < fs.length
   · have hd : ((j : Nat) : Int) < (fs.length : Int) := by omega
     obtain ⟨f, hf⟩ : ∃ f, fs[j]? = some f := ⟨_, List.getElem?_eq_getElem hlt⟩
     obtain ⟨b, off, rfl, hbl, hc⟩ := h.at_ (k := j) hlt
     have hcj : wr.cell? ⟨b, off + j, none⟩ = some (.string (strB f)) := (HB.out.cell hbl).trans ((hc j hlt).trans (by rw [List.getElem?_map, hf]; rfl))
     have hbl2 : b < wr.heap.size := Nat.lt_of_lt_of_le hbl hbw
     have HE := Lib.hid (enc_str hf)
     have HL := Lib.hid (encs_take hf)
     clear hc hj0
     by_cases hfl : (strB f).size ≤ 2048
     · have hf1 : ¬ (2048 : Int) < ((strB f).size : Int) := by omega
       have hs1 : (strB (encs (fs.take j))).size ≤ 2048 := HLn.out
       have hs2 : (strB (decDigits (strB f).size)).size ≤ 20 := dec_len20 (by omega)
       go_wp2_with fail
       apply wp_region_rgt (by kernel_rfl) 14 4 (false :: false :: false :: false :: true :: false :: false :: false :: false :: false :: false :: false :: false :: false :: false :: false :: false :: false :: false :: false :: false :: false :: false :: true :: true :: true :: true :: true :: true :: true :: true :: true :: true :: true :: true :: true :: true :: false :: false :: false :: false :: false :: false :: false :: []) (some 23 :: some 24 :: some 25 :: some 26 :: some 27 :: some 28 :: some 29 :: some 30 :: some 31 :: some 32 :: some 33 :: some 34 :: some 35 :: some 36 :: some 4 :: []) ([] :: [] :: [] :: [1, 2] :: [3] :: [4] :: [5] :: [0, 6] :: [7] :: [] :: [] :: [9, 10] :: [11] :: [8, 12] :: [13] :: []) (StP.is _ :: StP.is _ :: StP.is _ :: StP.is _ :: StP.is _ :: StP.is _ :: StP.is _ :: StP.is _ :: StP.is _ :: StP.is _ :: StP.is _ :: StP.is _ :: StP.is _ :: StP.is _ :: StP.is (.string (strB (encs (fs.take (j + 1))))) :: []) (by kernel_rfl) (by kernel_rfl)
       case hobs =>
        refine ⟨fun y w' hS hz hF K hK => ?_, ?_⟩
        · skip
          have ez : y 4 = .string (strB (encs (fs.take j))) := hz
          clear hz
          simp only [fillL, cond_true, cond_false, zG0, zG1, StP.is, Act.put, zS2, zS0, zS1, Nat.reduceAdd, ez] at hK ⊢
          refine rg_yes (by kernel_rfl) ?_
          clear ez
          clear hF
          go_simp
          exact hK _ _ (Ext.refl _) rfl
        refine ⟨fun y w' hS hz hF K hK => ?_, ?_⟩
        · skip
          clear hz
          simp only [fillL, cond_true, cond_false, zG0, zG1, StP.is, Act.put, zS2, zS0, zS1, Nat.reduceAdd] at hK ⊢
          refine rg_yes (by kernel_rfl) ?_
          clear hF
          go_simp
          exact hK _ _ (Ext.refl _) rfl
        refine ⟨fun y w' hS hz hF K hK => ?_, ?_⟩
        · skip
          clear hz
          simp only [fillL, cond_true, cond_false, zG0, zG1, StP.is, Act.put, zS2, zS0, zS1, Nat.reduceAdd] at hK ⊢
          refine rg_yes (by kernel_rfl) ?_
          clear hF
          go_simp
          exact hK _ _ (Ext.refl _) rfl
        refine ⟨fun y w' hS hz hF K hK => ?_, ?_⟩
        · skip
          have e24 : y 24 = _ := hF.1
          have e25 : y 25 = _ := hF.2.1
          clear hz
          simp only [fillL, cond_true, cond_false, zG0, zG1, StP.is, Act.put, zS2, zS0, zS1, Nat.reduceAdd, e24, e25] at hK ⊢
          refine rg_yes (by kernel_rfl) ?_
          clear e24 e25
          clear hF
          go_simp
          exact hK _ _ (Ext.refl _) rfl
        refine ⟨fun y w' hS hz hF K hK => ?_, ?_⟩
        · skip
          have e26 : y 26 = _ := hF.1
          clear hz
          simp only [fillL, cond_true, cond_false, zG0, zG1, StP.is, Act.put, zS2, zS0, zS1, Nat.reduceAdd, e26] at hK ⊢
          refine rg_yes (by kernel_rfl) ?_
          have qx0_ := (Below.cell hS hbl2).trans hcj
          clear e26
          clear hF
          go_simp
          exact hK _ _ (Ext.refl _) rfl
        refine ⟨fun y w' hS hz hF K hK => ?_, ?_⟩
        · skip
          have e27 : y 27 = _ := hF.1
          clear hz
          simp only [fillL, cond_true, cond_false, zG0, zG1, StP.is, Act.put, zS2, zS0, zS1, Nat.reduceAdd, e27] at hK ⊢
          refine rg_yes (by kernel_rfl) ?_
          have qx0_ := (Below.cell hS hbl2).trans hcj
          clear e27
          clear hF
          go_simp
          exact hK _ _ (Ext.refl _) rfl
        refine ⟨fun y w' hS hz hF K hK => ?_, ?_⟩
        · skip
          have e28 : y 28 = _ := hF.1
          clear hz
          simp only [fillL, cond_true, cond_false, zG0, zG1, StP.is, Act.put, zS2, zS0, zS1, Nat.reduceAdd, e28] at hK ⊢
          refine rg_yes (by kernel_rfl) ?_
          clear e28
          clear hF
          go_simp
          go_at_call 94
          refine (l6Dec_any (strB f).size (by omega) _).mono ?_
          rintro e w'' ⟨rfl, hb9⟩
          exact hK _ _ hb9 rfl
        refine ⟨fun y w' hS hz hF K hK => ?_, ?_⟩
        · skip
          have e23 : y 23 = _ := hF.1
          have e29 : y 29 = _ := hF.2.1
          clear hz
          simp only [fillL, cond_true, cond_false, zG0, zG1, StP.is, Act.put, zS2, zS0, zS1, Nat.reduceAdd, e23, e29] at hK ⊢
          refine rg_yes (by kernel_rfl) ?_
          clear e23 e29
          clear hF
          go_simp
          rw [if_neg (by omega)]
          go_simp
          exact hK _ _ (Ext.refl _) rfl
        refine ⟨fun y w' hS hz hF K hK => ?_, ?_⟩
        · skip
          have e30 : y 30 = _ := hF.1
          clear hz
          simp only [fillL, cond_true, cond_false, zG0, zG1, StP.is, Act.put, zS2, zS0, zS1, Nat.reduceAdd, e30] at hK ⊢
          refine rg_yes (by kernel_rfl) ?_
          clear e30
          clear hF
          go_simp
          rw [if_neg (by omega)]
          go_simp
          exact hK _ _ (Ext.refl _) rfl
        refine ⟨fun y w' hS hz hF K hK => ?_, ?_⟩
        · skip
          clear hz
          simp only [fillL, cond_true, cond_false, zG0, zG1, StP.is, Act.put, zS2, zS0, zS1, Nat.reduceAdd] at hK ⊢
          refine rg_yes (by kernel_rfl) ?_
          clear hF
          go_simp
          exact hK _ _ (Ext.refl _) rfl
        refine ⟨fun y w' hS hz hF K hK => ?_, ?_⟩
        · skip
          clear hz
          simp only [fillL, cond_true, cond_false, zG0, zG1, StP.is, Act.put, zS2, zS0, zS1, Nat.reduceAdd] at hK ⊢
          refine rg_yes (by kernel_rfl) ?_
          clear hF
          go_simp
          exact hK _ _ (Ext.refl _) rfl
        refine ⟨fun y w' hS hz hF K hK => ?_, ?_⟩
        · skip
          have e32 : y 32 = _ := hF.1
          have e33 : y 33 = _ := hF.2.1
          clear hz
          simp only [fillL, cond_true, cond_false, zG0, zG1, StP.is, Act.put, zS2, zS0, zS1, Nat.reduceAdd, e32, e33] at hK ⊢
          refine rg_yes (by kernel_rfl) ?_
          clear e32 e33
          clear hF
          go_simp
          exact hK _ _ (Ext.refl _) rfl
        refine ⟨fun y w' hS hz hF K hK => ?_, ?_⟩
        · skip
          have e34 : y 34 = _ := hF.1
          clear hz
          simp only [fillL, cond_true, cond_false, zG0, zG1, StP.is, Act.put, zS2, zS0, zS1, Nat.reduceAdd, e34] at hK ⊢
          refine rg_yes (by kernel_rfl) ?_
          have qx0_ := (Below.cell hS hbl2).trans hcj
          clear e34
          clear hF
          go_simp
          exact hK _ _ (Ext.refl _) rfl
        refine ⟨fun y w' hS hz hF K hK => ?_, ?_⟩
        · skip
          have e31 : y 31 = _ := hF.1
          have e35 : y 35 = _ := hF.2.1
          clear hz
          simp only [fillL, cond_true, cond_false, zG0, zG1, StP.is, Act.put, zS2, zS0, zS1, Nat.reduceAdd, e31, e35] at hK ⊢
          refine rg_yes (by kernel_rfl) ?_
          clear e31 e35
          clear hF
          go_simp
          rw [if_neg (by omega)]
          go_simp
          exact hK _ _ (Ext.refl _) rfl
        refine ⟨fun y w' hS hz hF K hK => ?_, ?_⟩
        · skip
          have e36 : y 36 = _ := hF.1
          clear hz
          simp only [fillL, cond_true, cond_false, zG0, zG1, StP.is, Act.put, zS2, zS0, zS1, Nat.reduceAdd, e36] at hK ⊢
          refine rg_yes (by kernel_rfl) ?_
          clear e36
          clear hF
          go_simp
          exact hK _ _ (Ext.refl _) (congrArg Value.string HE.out)
        trivial
       intro y w9 hS9 hF
       have e4 : y 4 = .string (strB (encs (fs.take (j + 1)))) := hF.2.2.2.2.2.2.2.2.2.2.2.2.2.2.1
       clear hF
       simp only [fillL, cond_true, cond_false, Nat.reduceAdd, e4]
       clear e4
       have HB9 : Below w.heap.size w w9 := HB.out.trans (Below.mono hS9 hbw)
       clear hS9 HE hs1 hs2 hcj hf1
       obtain ⟨m, hm2⟩ : ∃ m, m = (strB (encs (fs.take (j + 1)))).size := ⟨_, rfl⟩
       have HM := Lib.hid hm2
       have hsm : (strB (encs (fs.take (j + 1)))).size = m := hm2.symm
       clear hm2
       by_cases hbig : m ≤ 2048
       · have hbg : ¬ (2048 : Int) < (m : Int) := by omega
         go_wp2_with fail
         go_roundw
         case rel => exact ⟨j + 1, rfl, by simp, by omega, fun h => absurd hm h, Lib.hid (by have := HM.out; rw [strB_size] at this; omega), Lib.hid HB9⟩
         simp [RowKit.intOf]; omega
       have hbg : (2048 : Int) < (m : Int) := by omega
       go_wp2_with fail
       exact bodyPost_ret (v := .tuple #[.string ⟨#[]⟩, .bool false]) (by simp [results, Tryz.results91, go_sem]) rfl (PutF.no (fieldsF_long (i := j + 1) (by have := HM.out; rw [strB_size] at this; omega)) HB9)
     have hf1 : (2048 : Int) < ((strB f).size : Int) := by omega
     have HF : Hid (fieldsF fs = ([], false)) := Lib.hid (fieldsF_long (i := j + 1) (by rw [HL.out, List.length_append]; have := enc1_len f; rw [strB_size] at hfl; omega))
     go_wp2_with fail
     exact bodyPost_ret (v := .tuple #[.string ⟨#[]⟩, .bool false]) (by simp [results, Tryz.results91, go_sem]) rfl (PutF.no HF.out HB.out)
   have hd : ¬ ((j : Nat) : Int) < (fs.length : Int) := by omega
   obtain rfl : j = fs.length := by omega
   rw [take_len] at HLn ⊢
   go_wp2_with fail
   exact bodyPost_ret (v := .tuple #[.string (strB (encs fs)), .bool true]) (by simp [results, Tryz.results91, go_sem]) rfl (PutF.yes (fieldsF_yes hm HLn.out) HB.out)
 have hm1 : ¬ (fs.length : Int) ≤ 60 := by omega
 obtain rfl := hj0 hm
 have hd : ((0 : Nat) : Int) < (fs.length : Int) := by omega
 rw [show strB (encs (fs.take 0)) = ⟨#[]⟩ from rfl]
 go_wp2_with fail
 exact bodyPost_ret (v := .tuple #[.string ⟨#[]⟩, .bool false]) (by simp [results, Tryz.results91, go_sem]) rfl (PutF.no (fieldsF_many hm) HB.out)
end
section
open Go Go.Lib Go.RowKit
theorem info_strs : (Tryz.prog.info? 9).map (fun i => (i.zero, i.size, i.bytes)) = some (some (.string ByteArray.empty), 1, 16) := by kernel_rfl
def StrsIn (B : Nat) (w : World) (A : Option Addr) (c : Nat) (fs : List Str) : Prop := ∃ S, OwnA w 9 1 S A fs.length c (fs.map strV) ∧ ∀ g ∈ S, B ≤ g
section
variable {B : Nat} {w w' : World} {A : Option Addr} {c : Nat} {fs : List Str}
theorem StrsIn.below (h : StrsIn B w A c fs) (hb : Below w.heap.size w w') : StrsIn B w' A c fs := by
 obtain ⟨S, h1, h2⟩ := h
 exact ⟨S, h1.below hb, h2⟩
theorem StrsIn.mono {B' : Nat} (h : StrsIn B w A c fs) (hB : B' ≤ B) : StrsIn B' w A c fs := by
 obtain ⟨S, h1, h2⟩ := h
 exact ⟨S, h1, fun g hg => Nat.le_trans hB (h2 g hg)⟩
theorem StrsIn.row (h : StrsIn B w A c fs) : RowAt w A fs.length (fs.map strV) := by
 obtain ⟨S, h1, _⟩ := h
 simpa using h1.at_
theorem StrsIn.nil : StrsIn B w none 0 [] := ⟨[], OwnA.nil none, by simp⟩
theorem StrsIn.lit {g : Nat} {cur : Array Value} (hB : B ≤ g) (hg : w.heap[g]? = some (.cells cur 9 (0, 0))) (hc : cur.toList = fs.map strV) (hl : fs.length ≤ maxLen) : StrsIn B w (some ⟨g, 0, none⟩) fs.length fs := by
 have hs : cur.size = fs.length := by have := congrArg List.length hc; simpa using this
 refine ⟨[g], ⟨.inr ⟨g, cur, rfl, rfl, by simp, Nat.le_refl _, hl, hg, by rw [hs, Nat.mul_one], fun j hj => ?_⟩, fun h => by cases h⟩, by simpa using hB⟩
 rw [← hc]; simp
theorem StrsIn.le (h : StrsIn B w A c fs) : fs.length ≤ c := by
 obtain ⟨S, h1, _⟩ := h
 exact h1.le
theorem StrsIn.cell (h : StrsIn B w A c fs) {j : Nat} {f : Str} (hf : fs[j]? = some f) : ∃ g, A = some ⟨g, 0, none⟩ ∧ g < w.heap.size ∧ w.cell? ⟨g, j, none⟩ = some (.string (strB f)) := by
 have hj : j < fs.length := (List.getElem?_eq_some_iff.1 hf).1
 obtain ⟨S, ⟨h1, _⟩, _⟩ := h
 rcases h1 with ⟨_, h0, _⟩ | ⟨g, cur, rfl, rfl, _, _, _, hg, _, h5⟩
 · omega
 refine ⟨g, rfl, (Array.getElem?_eq_some_iff.1 hg).1, ?_⟩
 rw [cell_of_row _ _ j _ _ (0, 0) hg, h5 j (by omega), List.getElem?_map, hf]
 rfl
end
theorem strs_one (fs : List Str) : ∀ u ∈ fs.map strV, u.oneCell' = true := by
 intro u hu
 obtain ⟨f, _, rfl⟩ := List.mem_map.1 hu
 rfl
theorem app_strs {B : Nat} {S S' : List Nat} {w1 w2 : World} {A' : Option Addr} {c' n : Nat} {fs gs : List Str} (hS : ∀ g ∈ S, B ≤ g) (hB : B ≤ w1.heap.size) (hn : n = (fs ++ gs).length)
 (hO : OwnA w2 9 1 S' A' n c' (fs.map strV ++ gs.map strV)) (hS' : ∀ g ∈ S', g ∈ S ∨ w1.heap.size ≤ g) (hC : Chg (· ∈ S) w1 w2) :
 StrsIn B w2 A' c' (fs ++ gs) ∧ Below B w1 w2 := by
 subst hn
 refine ⟨⟨S', by simpa using hO, fun g hg => (hS' g hg).elim (hS g) (fun h => Nat.le_trans hB h)⟩, hC.below (fun g _ hg => hS g hg) hB⟩
def NewStrs (fs : List Str) (w : World) (e : Ending) (w' : World) : Prop :=
 ∃ A c, e = .returned (.slice A fs.length c) ∧ StrsIn w.heap.size w' A c fs ∧ Below w.heap.size w w'
def softStrs (B : Nat) (fs : List Str) : MStP (Own B) Ext := ⟨fun v w => ∃ A c n, v = .slice A n c ∧ n = fs.length ∧ StrsIn B w A c fs, false, fun _ _ _ he ⟨A, c, n, e, hn, h⟩ => ⟨A, c, n, e, hn, h.below he⟩, fun h => by cases h⟩
def softLit (B : Nat) (T : TypeId) (cur : Array Value) (n : Nat) : MStP (Own B) Ext := ⟨fun v w => ∃ g : Nat, v = .slice (some ⟨g, 0, none⟩) n n ∧ w.heap[g]? = some (.cells cur T (0, 0)), false, fun _ _ _ he ⟨g, e, hg⟩ => ⟨g, e, (Below.block he g (Array.getElem?_eq_some_iff.1 hg).1).trans hg⟩, fun h => by cases h⟩
end
section
open Go Go.Lib Go.RowKit
theorem str_get {s : ByteArray} {j : Nat} (h : j < s.size) : ∃ (c : UInt8) (x : Nat), s.data.toList[j]? = some c ∧ x = c.toNat ∧ x < 256 ∧ (s[j]'h).toNat = x := by
 refine ⟨s[j]'h, _, ?_, rfl, UInt8.toNat_lt _, rfl⟩
 have h2 : j < s.data.size := h
 have h3 : j < s.data.toList.length := by rw [Array.length_toList]; exact h2
 rw [List.getElem?_eq_getElem h3]
 rfl
theorem take_all (s : ByteArray) : s.data.toList.take s.size = s.data.toList := by
 apply List.take_of_length_le
 rw [Array.length_toList]
 exact Nat.le_refl _
set_option maxRecDepth 100000 in
set_option maxHeartbeats 2000000 in
theorem sumOf_any (s : ByteArray) (hs : s.size ≤ 9223372036854775807) (w : World) :
 Calls Tryz.prog 100 #[.string s] w fun e w' => e = .returned (.int .i64 (sumL s.data.toList : Nat)) ∧ w = w' := by
 go_enter Tryz.func100, Tryz.ntmps100
 go_wp2_with fail
 go_loopw [3, 4, 8] (fun a b i wr => ∃ (j p1 p2 : Nat), a = .int .i64 (p1 : Int) ∧ b = .int .i64 (p2 : Int) ∧ i = .int .i64 (j : Int) ∧ j ≤ s.size ∧ p1 < 9973 ∧ p2 < 9973 ∧ Hid (sum2 (s.data.toList.take j) = (p1, p2)) ∧ SameW wr w) (fun _ _ i _ => s.size - (RowKit.intOf i).toNat)
 case atStart => exact ⟨0, 1, 0, rfl, rfl, rfl, Nat.zero_le _, by omega, by omega, Lib.hid rfl, SameW.refl _⟩
 obtain ⟨j, p1, p2, rfl, rfl, rfl, hj, h1, h2, HS, hw⟩ := hrel
 have hw := hw.out
 subst hw
 by_cases hlt : j < s.size
 · have hd : ((j : Nat) : Int) < (s.size : Int) := by omega
   obtain ⟨c, x, hc, hx, hx2, hg⟩ := str_get hlt
   have HS2 : Hid (sum2 (s.data.toList.take (j + 1)) = ((p1 + x + 1) % 9973, ((p1 + x + 1) % 9973 + p2) % 9973)) := Lib.hid (by rw [sum2_take _ _ _ hc, HS.out, hx]; rfl)
   clear hc hx HS
   go_wp2_with fail
   go_roundw
   case rel => exact ⟨j + 1, (p1 + x + 1) % 9973, ((p1 + x + 1) % 9973 + p2) % 9973, by simp [hg], by simp [hg], by simp, by omega, Nat.mod_lt _ (by decide), Nat.mod_lt _ (by decide), HS2, SameW.refl _⟩
   simp [RowKit.intOf]; omega
 have hd : ¬ ((j : Nat) : Int) < (s.size : Int) := by omega
 obtain rfl : j = s.size := by omega
 have HE : Hid (sumL s.data.toList = p1 * 9973 + p2) := Lib.hid (by unfold sumL; rw [← take_all s, HS.out])
 go_wp2_with fail
 go_ret
 exact ⟨ret_int (by rw [HE.out]; simp), rfl⟩
set_option maxRecDepth 100000 in
set_option maxHeartbeats 2000000 in
theorem spSumOf_any (s : ByteArray) (hs : s.size ≤ 9223372036854775807) (w : World) :
 Calls Tryz.prog 81 #[.string s] w fun e w' => e = .returned (.int .i64 (sumL s.data.toList : Nat)) ∧ w = w' := by
 go_enter Tryz.func81, Tryz.ntmps81
 go_wp2_with fail
 go_loopw [3, 4, 5] (fun a b i wr => ∃ (j p1 p2 : Nat), a = .int .i64 (p1 : Int) ∧ b = .int .i64 (p2 : Int) ∧ i = .int .i64 (j : Int) ∧ j ≤ s.size ∧ p1 < 9973 ∧ p2 < 9973 ∧ Hid (sum2 (s.data.toList.take j) = (p1, p2)) ∧ SameW wr w) (fun _ _ i _ => s.size - (RowKit.intOf i).toNat)
 case atStart => exact ⟨0, 1, 0, rfl, rfl, rfl, Nat.zero_le _, by omega, by omega, Lib.hid rfl, SameW.refl _⟩
 obtain ⟨j, p1, p2, rfl, rfl, rfl, hj, h1, h2, HS, hw⟩ := hrel
 have hw := hw.out
 subst hw
 by_cases hlt : j < s.size
 · have hd : ((j : Nat) : Int) < (s.size : Int) := by omega
   obtain ⟨c, x, hc, hx, hx2, hg⟩ := str_get hlt
   have HS2 : Hid (sum2 (s.data.toList.take (j + 1)) = ((p1 + x + 1) % 9973, ((p1 + x + 1) % 9973 + p2) % 9973)) := Lib.hid (by rw [sum2_take _ _ _ hc, HS.out, hx]; rfl)
   clear hc hx HS
   go_wp2_with fail
   go_roundw
   case rel => exact ⟨j + 1, (p1 + x + 1) % 9973, ((p1 + x + 1) % 9973 + p2) % 9973, by simp [hg], by simp [hg, Int.add_comm], by simp, by omega, Nat.mod_lt _ (by decide), Nat.mod_lt _ (by decide), HS2, SameW.refl _⟩
   simp [RowKit.intOf]; omega
 have hd : ¬ ((j : Nat) : Int) < (s.size : Int) := by omega
 obtain rfl : j = s.size := by omega
 have HE : Hid (sumL s.data.toList = p1 * 9973 + p2) := Lib.hid (by unfold sumL; rw [← take_all s, HS.out])
 go_wp2_with fail
 go_ret
 exact ⟨ret_int (by rw [HE.out]; simp), rfl⟩
end
end Go.Proofs.YtjnhiiaejeaikaaGreatDoor
