/- FieldsPut both: the record of a list of texts. Condition: the table of powers of ten lies as its initialiser lays it; no text is longer than 2^40 bytes. -/
import Derived.Test.YtkmkmndcgemnlaaGreatDoorNum
import Derived.Test.YtkmkmndcgemnlaaGreatDoorRow
import Derived.Test.YtkmkmndcgemnlaaGreatDoorRgt
namespace Go.Proofs.YtkmkmndcgemnlaaGreatDoor
set_option linter.unusedVariables false
set_option linter.unusedSimpArgs false
set_option linter.unnecessarySimpa false
open Go Go.Lib Go.RowKit

theorem isBuilder_below {T e : TypeId} {B b : Nat} {bs : List Value} {w w' : World} (h : Lib.IsBuilder T e B b bs w) (hb : Below w.heap.size w w') : Lib.IsBuilder T e B b bs w' := by
  have key : ∀ p, Lib.BuilderAt T e B b p bs w → Lib.BuilderAt T e B b p bs w' := by
    intro p hp
    have hlt := hp.lt
    obtain ⟨hB, v, hbk, hown, hne⟩ := hp
    refine ⟨hB, v, (hb.block b hlt).trans hbk, ?_, hne⟩
    obtain ⟨hl, hr⟩ := hown
    refine ⟨hl, ?_⟩
    rcases hr with hr | ⟨g, cap, cur, hv, hg, hh, r⟩
    · exact .inl hr
    · exact .inr ⟨g, cap, cur, hv, hg, (hb.block g (Array.getElem?_eq_some_iff.1 hh).1).trans hh, r⟩
  rcases h with h | h
  · exact .inl (key _ h)
  · exact .inr (key _ h)
theorem strCells_strB (l : Str) : Lib.strCells (strB l) = Lib.byteCells l := by rw [Lib.strCells_eq]; simp [strB]
theorem enc_cells {fs : List Str} {j : Nat} {f : Str} (hf : fs[j]? = some f) :
    Lib.byteCells (encs (fs.take j)) ++ Lib.strCells (strB (decDigits (strB f).size)) ++ [Value.int .u8 58] ++ Lib.strCells (strB f) = Lib.byteCells (encs (fs.take (j + 1))) := by
  rw [encs_take hf, strCells_strB, strCells_strB, strB_size]
  show Lib.byteCells (encs (fs.take j)) ++ Lib.byteCells (decDigits f.length) ++ Lib.byteCells [58] ++ Lib.byteCells f = _
  rw [← Lib.byteCells_append, ← Lib.byteCells_append, ← Lib.byteCells_append]
  unfold enc1
  simp
theorem enc_str {fs : List Str} {j : Nat} {f : Str} (hf : fs[j]? = some f) :
    strB (encs (fs.take j)) ++ strB (decDigits (strB f).size) ++ ⟨#[58]⟩ ++ strB f = strB (encs (fs.take (j + 1))) := by
  rw [encs_take hf, strB_size]
  show strB (encs (fs.take j)) ++ strB (decDigits f.length) ++ strB [58] ++ strB f = _
  rw [strB_app, strB_app, strB_app]
  unfold enc1
  simp
theorem take_len {α : Type} (l : List α) : l.take l.length = l := List.take_of_length_le (Nat.le_refl _)
/-- What FieldsPut returns. -/
def PutF (fs : List Str) (w : World) (e : Ending) (w' : World) : Prop := e = .returned (.tuple #[.string (strB (fieldsF fs).1), .bool (fieldsF fs).2]) ∧ Below w.heap.size w w'
theorem PutF.no {fs : List Str} {w w' : World} (h : fieldsF fs = ([], false)) (hb : Below w.heap.size w w') : PutF fs w (.returned (.tuple #[.string ⟨#[]⟩, .bool false])) w' := ⟨by rw [h]; rfl, hb⟩
theorem PutF.yes {fs : List Str} {w w' : World} (h : fieldsF fs = (encs fs, true)) (hb : Below w.heap.size w w') : PutF fs w (.returned (.tuple #[.string (strB (encs fs)), .bool true])) w' := ⟨by rw [h], hb⟩
set_option maxRecDepth 100000 in
set_option maxHeartbeats 4000000 in
theorem fieldsPut_any (A : Option Addr) (c : Nat) (fs : List Str) (w : World) (ht : Tab w) (h : RowAt w A fs.length (fs.map strV)) (hb : ∀ f ∈ fs, f.length ≤ 1099511627776) (hl : fs.length ≤ 9223372036854775807) :
    Calls Tryz.prog 54 #[.slice A fs.length c] w (PutF fs w) := by
  by_cases hm : fs.length ≤ 60
  · have hm1 : ¬ (60 : Int) < (fs.length : Int) := by omega
    go_enter Tryz.func54, Tryz.ntmps54
    go_wp2_with fail
    go_loopw [12] (fun i wr => ∃ j : Nat, i = .int .i64 (j : Int) ∧ j ≤ fs.length ∧ Hid (Lib.IsBuilder 104 5 w.heap.size w.heap.size (Lib.byteCells (encs (fs.take j))) wr) ∧ Hid ((encs (fs.take j)).length ≤ 2048) ∧ Hid (Below w.heap.size w wr)) (fun i _ => fs.length - (RowKit.intOf i).toNat)
    case atStart => exact ⟨0, rfl, Nat.zero_le _, Lib.hid (Lib.fresh_isBuilder _ _ _), Lib.hid (by simp [encs]), Lib.hid ((Below.refl _ _).alloc (Nat.le_refl _) _)⟩
    case round =>
      obtain ⟨j, rfl, hj, HBd, HLn, HB⟩ := hrel
      have hbw : w.heap.size ≤ wr.heap.size := HB.out.size
      by_cases hlt : j < fs.length
      · have hd : ((j : Nat) : Int) < (fs.length : Int) := by omega
        obtain ⟨f, hf⟩ : ∃ f, fs[j]? = some f := ⟨_, List.getElem?_eq_getElem hlt⟩
        obtain ⟨b, off, rfl, hbl, hc⟩ := h.at_ (k := j) hlt
        have hcj : wr.cell? ⟨b, off + j, none⟩ = some (.string (strB f)) := (HB.out.cell hbl).trans ((hc j hlt).trans (by rw [List.getElem?_map, hf]; rfl))
        have hfl : (strB f).size ≤ 1099511627776 := hb f (List.mem_of_getElem? hf)
        have HE := Lib.hid (enc_cells hf)
        have hL1 : (Lib.byteCells (encs (fs.take j))).length ≤ 2048 := by rw [Lib.byteCells_length]; exact HLn.out
        have hL2 : (Lib.strCells (strB (decDigits (strB f).size))).length ≤ 20 := by rw [strCells_strB, Lib.byteCells_length]; exact dec_len20 (by omega)
        have hL3 : (strB (decDigits (strB f).size)).size ≤ 20 := dec_len20 (by omega)
        have HT : Hid (Tab wr) := Lib.hid (ht.below HB.out)
        clear hc
        go_wp2_with fail
        refine (itoa_any (strB f).size (by omega) wr HT.out).mono ?_
        rintro e w1 ⟨rfl, hb1⟩
        have HB1 : Below w.heap.size w w1 := HB.out.trans (hb1.mono hbw)
        go_wp2_with fail
        refine (Tryz.Builder_WriteString _ _ _ _ w1 (isBuilder_below HBd.out hb1) (by omega) HB1.size).mono ?_
        rintro e w2 ⟨rfl, hB2, hb2⟩
        have HB2 : Below w.heap.size w w2 := HB1.trans hb2
        clear hb1 hb2
        go_wp2_with fail
        refine (Tryz.Builder_WriteByte _ _ _ 58 w2 (.inr hB2) (by rw [List.length_append]; omega) HB2.size).mono ?_
        rintro e w3 ⟨rfl, hB3, hb3⟩
        have HB3 : Below w.heap.size w w3 := HB2.trans hb3
        clear hb3 hB2
        go_wp2_with fail
        refine (Tryz.Builder_WriteString _ _ _ _ w3 (.inr hB3) (by rw [List.length_append, List.length_append, List.length_singleton]; omega) HB3.size).mono ?_
        rintro e w4 ⟨rfl, hB4, hb4⟩
        have HB4 : Below w.heap.size w w4 := HB3.trans hb4
        rw [HE.out] at hB4
        clear hb4 hB3 HE hcj
        go_wp2_with fail
        refine (Tryz.Builder_Len _ _ _ w4 (.inr hB4)).mono ?_
        obtain ⟨m, hm2⟩ : ∃ m, m = (Lib.byteCells (encs (fs.take (j + 1)))).length := ⟨_, rfl⟩
        rw [← hm2]
        rintro e w5 ⟨rfl, rfl⟩
        have hm3 : (encs (fs.take (j + 1))).length = m := by rw [hm2, Lib.byteCells_length]
        have HM := Lib.hid hm3
        clear hm2 hm3
        by_cases hbig : m ≤ 2048
        · have hbg : ¬ (2048 : Int) < (m : Int) := by omega
          go_wp2_with fail
          go_roundw
          case rel => exact ⟨j + 1, by simp, by omega, Lib.hid (.inr hB4), Lib.hid (by have := HM.out; omega), Lib.hid HB4⟩
          case measure => simp [RowKit.intOf]; omega
        · have hbg : (2048 : Int) < (m : Int) := by omega
          go_wp2_with fail
          exact bodyPost_ret (v := .tuple #[.string ⟨#[]⟩, .bool false]) (by simp [results, Tryz.results54, go_sem]) rfl (PutF.no (fieldsF_long (i := j + 1) (by have := HM.out; omega)) HB4)
      · have hd : ¬ ((j : Nat) : Int) < (fs.length : Int) := by omega
        obtain rfl : j = fs.length := by omega
        rw [take_len] at HBd HLn
        go_wp2_with fail
        refine (Tryz.Builder_String_any _ _ _ wr HBd.out hbw).mono ?_
        rintro e w1 ⟨rfl, hb1⟩
        rw [show (⟨(encs fs).toArray⟩ : ByteArray) = strB (encs fs) from rfl]
        go_wp2_with fail
        exact bodyPost_ret (v := .tuple #[.string (strB (encs fs)), .bool true]) (by simp [results, Tryz.results54, go_sem]) rfl (PutF.yes (fieldsF_yes hm HLn.out) (HB.out.trans hb1))
  · have hm1 : (60 : Int) < (fs.length : Int) := by omega
    go_enter Tryz.func54, Tryz.ntmps54
    go_wp2_with fail
    exact bodyPost_ret (v := .tuple #[.string ⟨#[]⟩, .bool false]) (by simp [results, Tryz.results54, go_sem]) rfl (PutF.no (fieldsF_many hm) (Below.refl _ _))
set_option maxRecDepth 100000 in
set_option maxHeartbeats 4000000 in
theorem spFieldsPut_any (A : Option Addr) (c : Nat) (fs : List Str) (w : World) (h : RowAt w A fs.length (fs.map strV)) (hb : ∀ f ∈ fs, f.length ≤ 1099511627776) (hl : fs.length ≤ 9223372036854775807) :
    Calls Tryz.prog 40 #[.slice A fs.length c] w (PutF fs w) := by
  go_enter Tryz.func40, Tryz.ntmps40
  go_wp2_with fail
  go_loopw [4, 5] (fun o i wr => ∃ j : Nat, o = .string (strB (encs (fs.take j))) ∧ i = .int .i64 (j : Int) ∧ j ≤ fs.length ∧ (¬ fs.length ≤ 60 → j = 0) ∧ Hid ((encs (fs.take j)).length ≤ 2048) ∧ Hid (Below w.heap.size w wr)) (fun _ i _ => fs.length - (RowKit.intOf i).toNat)
  case atStart => exact ⟨0, rfl, rfl, Nat.zero_le _, fun _ => rfl, Lib.hid (by simp [encs]), Lib.hid (Below.refl _ _)⟩
  case round =>
    obtain ⟨j, rfl, rfl, hj, hj0, HLn, HB⟩ := hrel
    have hbw : w.heap.size ≤ wr.heap.size := HB.out.size
    by_cases hm : fs.length ≤ 60
    · have hm1 : (fs.length : Int) ≤ 60 := by omega
      by_cases hlt : j < fs.length
      · have hd : ((j : Nat) : Int) < (fs.length : Int) := by omega
        obtain ⟨f, hf⟩ : ∃ f, fs[j]? = some f := ⟨_, List.getElem?_eq_getElem hlt⟩
        obtain ⟨b, off, rfl, hbl, hc⟩ := h.at_ (k := j) hlt
        have hcj : wr.cell? ⟨b, off + j, none⟩ = some (.string (strB f)) := (HB.out.cell hbl).trans ((hc j hlt).trans (by rw [List.getElem?_map, hf]; rfl))
        have hbl2 : b < wr.heap.size := Nat.lt_of_lt_of_le hbl hbw
        have HE := Lib.hid (enc_str hf)
        have HL := Lib.hid (encs_take hf)
        clear hc hj0
        by_cases hfl : (strB f).size ≤ 2048
        · have hf1 : ¬ (2048 : Int) < ((strB f).size : Int) := by omega
          have hs1 : (strB (encs (fs.take j))).size ≤ 2048 := HLn.out
          have hs2 : (strB (decDigits (strB f).size)).size ≤ 20 := dec_len20 (by omega)
          go_wp2_with fail
          apply wp_region_rgt (by kernel_rfl) 14 4 (false :: false :: false :: false :: true :: false :: false :: false :: false :: false :: false :: false :: false :: false :: false :: false :: false :: false :: false :: false :: false :: false :: false :: true :: true :: true :: true :: true :: true :: true :: true :: true :: true :: true :: true :: true :: true :: false :: false :: false :: false :: false :: false :: false :: []) (some 23 :: some 24 :: some 25 :: some 26 :: some 27 :: some 28 :: some 29 :: some 30 :: some 31 :: some 32 :: some 33 :: some 34 :: some 35 :: some 36 :: some 4 :: []) ([] :: [] :: [] :: [1, 2] :: [3] :: [4] :: [5] :: [0, 6] :: [7] :: [] :: [] :: [9, 10] :: [11] :: [8, 12] :: [13] :: []) (StP.is _ :: StP.is _ :: StP.is _ :: StP.is _ :: StP.is _ :: StP.is _ :: StP.is _ :: StP.is _ :: StP.is _ :: StP.is _ :: StP.is _ :: StP.is _ :: StP.is _ :: StP.is _ :: StP.is (.string (strB (encs (fs.take (j + 1))))) :: []) (by kernel_rfl) (by kernel_rfl)
          case hobs =>
            refine ⟨fun y w' hS hz hF K hK => ?_, ?_⟩
            · skip -- 0: move
              have ez : y 4 = .string (strB (encs (fs.take j))) := hz
              clear hz
              simp only [fillL, cond_true, cond_false, List.getD_cons_zero, List.getD_cons_succ, StP.is, Act.put, List.setIfInBounds_toArray, List.set_cons_zero, List.set_cons_succ, Nat.reduceAdd, ez] at hK ⊢
              refine rg_yes (by kernel_rfl) ?_
              clear ez
              clear hF
              go_simp
              exact hK _ _ (Ext.refl _) rfl
            refine ⟨fun y w' hS hz hF K hK => ?_, ?_⟩
            · skip -- 1: move
              clear hz
              simp only [fillL, cond_true, cond_false, List.getD_cons_zero, List.getD_cons_succ, StP.is, Act.put, List.setIfInBounds_toArray, List.set_cons_zero, List.set_cons_succ, Nat.reduceAdd] at hK ⊢
              refine rg_yes (by kernel_rfl) ?_
              clear hF
              go_simp
              exact hK _ _ (Ext.refl _) rfl
            refine ⟨fun y w' hS hz hF K hK => ?_, ?_⟩
            · skip -- 2: move
              clear hz
              simp only [fillL, cond_true, cond_false, List.getD_cons_zero, List.getD_cons_succ, StP.is, Act.put, List.setIfInBounds_toArray, List.set_cons_zero, List.set_cons_succ, Nat.reduceAdd] at hK ⊢
              refine rg_yes (by kernel_rfl) ?_
              clear hF
              go_simp
              exact hK _ _ (Ext.refl _) rfl
            refine ⟨fun y w' hS hz hF K hK => ?_, ?_⟩
            · skip -- 3: indexAddr
              have e24 : y 24 = _ := hF.1
              have e25 : y 25 = _ := hF.2.1
              clear hz
              simp only [fillL, cond_true, cond_false, List.getD_cons_zero, List.getD_cons_succ, StP.is, Act.put, List.setIfInBounds_toArray, List.set_cons_zero, List.set_cons_succ, Nat.reduceAdd, e24, e25] at hK ⊢
              refine rg_yes (by kernel_rfl) ?_
              clear e24 e25
              clear hF
              go_simp
              exact hK _ _ (Ext.refl _) rfl
            refine ⟨fun y w' hS hz hF K hK => ?_, ?_⟩
            · skip -- 4: load
              have e26 : y 26 = _ := hF.1
              clear hz
              simp only [fillL, cond_true, cond_false, List.getD_cons_zero, List.getD_cons_succ, StP.is, Act.put, List.setIfInBounds_toArray, List.set_cons_zero, List.set_cons_succ, Nat.reduceAdd, e26] at hK ⊢
              refine rg_yes (by kernel_rfl) ?_
              have qx0_ := (Below.cell hS hbl2).trans hcj
              clear e26
              clear hF
              go_simp
              exact hK _ _ (Ext.refl _) rfl
            refine ⟨fun y w' hS hz hF K hK => ?_, ?_⟩
            · skip -- 5: call
              have e27 : y 27 = _ := hF.1
              clear hz
              simp only [fillL, cond_true, cond_false, List.getD_cons_zero, List.getD_cons_succ, StP.is, Act.put, List.setIfInBounds_toArray, List.set_cons_zero, List.set_cons_succ, Nat.reduceAdd, e27] at hK ⊢
              refine rg_yes (by kernel_rfl) ?_
              have qx0_ := (Below.cell hS hbl2).trans hcj
              clear e27
              clear hF
              go_simp
              exact hK _ _ (Ext.refl _) rfl
            refine ⟨fun y w' hS hz hF K hK => ?_, ?_⟩
            · skip -- 6: call
              have e28 : y 28 = _ := hF.1
              clear hz
              simp only [fillL, cond_true, cond_false, List.getD_cons_zero, List.getD_cons_succ, StP.is, Act.put, List.setIfInBounds_toArray, List.set_cons_zero, List.set_cons_succ, Nat.reduceAdd, e28] at hK ⊢
              refine rg_yes (by kernel_rfl) ?_
              clear e28
              clear hF
              go_simp
              go_at_call 38
              refine (l6Dec_any (strB f).size (by omega) _).mono ?_
              rintro e w'' ⟨rfl, hb9⟩
              exact hK _ _ hb9 rfl
            refine ⟨fun y w' hS hz hF K hK => ?_, ?_⟩
            · skip -- 7: binOp
              have e23 : y 23 = _ := hF.1
              have e29 : y 29 = _ := hF.2.1
              clear hz
              simp only [fillL, cond_true, cond_false, List.getD_cons_zero, List.getD_cons_succ, StP.is, Act.put, List.setIfInBounds_toArray, List.set_cons_zero, List.set_cons_succ, Nat.reduceAdd, e23, e29] at hK ⊢
              refine rg_yes (by kernel_rfl) ?_
              clear e23 e29
              clear hF
              go_simp
              rw [if_neg (by omega)]
              go_simp
              exact hK _ _ (Ext.refl _) rfl
            refine ⟨fun y w' hS hz hF K hK => ?_, ?_⟩
            · skip -- 8: binOp
              have e30 : y 30 = _ := hF.1
              clear hz
              simp only [fillL, cond_true, cond_false, List.getD_cons_zero, List.getD_cons_succ, StP.is, Act.put, List.setIfInBounds_toArray, List.set_cons_zero, List.set_cons_succ, Nat.reduceAdd, e30] at hK ⊢
              refine rg_yes (by kernel_rfl) ?_
              clear e30
              clear hF
              go_simp
              rw [if_neg (by omega)]
              go_simp
              exact hK _ _ (Ext.refl _) rfl
            refine ⟨fun y w' hS hz hF K hK => ?_, ?_⟩
            · skip -- 9: move
              clear hz
              simp only [fillL, cond_true, cond_false, List.getD_cons_zero, List.getD_cons_succ, StP.is, Act.put, List.setIfInBounds_toArray, List.set_cons_zero, List.set_cons_succ, Nat.reduceAdd] at hK ⊢
              refine rg_yes (by kernel_rfl) ?_
              clear hF
              go_simp
              exact hK _ _ (Ext.refl _) rfl
            refine ⟨fun y w' hS hz hF K hK => ?_, ?_⟩
            · skip -- 10: move
              clear hz
              simp only [fillL, cond_true, cond_false, List.getD_cons_zero, List.getD_cons_succ, StP.is, Act.put, List.setIfInBounds_toArray, List.set_cons_zero, List.set_cons_succ, Nat.reduceAdd] at hK ⊢
              refine rg_yes (by kernel_rfl) ?_
              clear hF
              go_simp
              exact hK _ _ (Ext.refl _) rfl
            refine ⟨fun y w' hS hz hF K hK => ?_, ?_⟩
            · skip -- 11: indexAddr
              have e32 : y 32 = _ := hF.1
              have e33 : y 33 = _ := hF.2.1
              clear hz
              simp only [fillL, cond_true, cond_false, List.getD_cons_zero, List.getD_cons_succ, StP.is, Act.put, List.setIfInBounds_toArray, List.set_cons_zero, List.set_cons_succ, Nat.reduceAdd, e32, e33] at hK ⊢
              refine rg_yes (by kernel_rfl) ?_
              clear e32 e33
              clear hF
              go_simp
              exact hK _ _ (Ext.refl _) rfl
            refine ⟨fun y w' hS hz hF K hK => ?_, ?_⟩
            · skip -- 12: load
              have e34 : y 34 = _ := hF.1
              clear hz
              simp only [fillL, cond_true, cond_false, List.getD_cons_zero, List.getD_cons_succ, StP.is, Act.put, List.setIfInBounds_toArray, List.set_cons_zero, List.set_cons_succ, Nat.reduceAdd, e34] at hK ⊢
              refine rg_yes (by kernel_rfl) ?_
              have qx0_ := (Below.cell hS hbl2).trans hcj
              clear e34
              clear hF
              go_simp
              exact hK _ _ (Ext.refl _) rfl
            refine ⟨fun y w' hS hz hF K hK => ?_, ?_⟩
            · skip -- 13: binOp
              have e31 : y 31 = _ := hF.1
              have e35 : y 35 = _ := hF.2.1
              clear hz
              simp only [fillL, cond_true, cond_false, List.getD_cons_zero, List.getD_cons_succ, StP.is, Act.put, List.setIfInBounds_toArray, List.set_cons_zero, List.set_cons_succ, Nat.reduceAdd, e31, e35] at hK ⊢
              refine rg_yes (by kernel_rfl) ?_
              clear e31 e35
              clear hF
              go_simp
              rw [if_neg (by omega)]
              go_simp
              exact hK _ _ (Ext.refl _) rfl
            refine ⟨fun y w' hS hz hF K hK => ?_, ?_⟩
            · skip -- 14: assign
              have e36 : y 36 = _ := hF.1
              clear hz
              simp only [fillL, cond_true, cond_false, List.getD_cons_zero, List.getD_cons_succ, StP.is, Act.put, List.setIfInBounds_toArray, List.set_cons_zero, List.set_cons_succ, Nat.reduceAdd, e36] at hK ⊢
              refine rg_yes (by kernel_rfl) ?_
              clear e36
              clear hF
              go_simp
              exact hK _ _ (Ext.refl _) (congrArg Value.string HE.out)
            trivial
          case hend =>
            intro y w9 hS9 hF
            have e4 : y 4 = .string (strB (encs (fs.take (j + 1)))) := hF.2.2.2.2.2.2.2.2.2.2.2.2.2.2.1
            clear hF
            simp only [fillL, cond_true, cond_false, Nat.reduceAdd, e4]
            clear e4
            have HB9 : Below w.heap.size w w9 := HB.out.trans (Below.mono hS9 hbw)
            clear hS9 HE hs1 hs2 hcj hf1
            obtain ⟨m, hm2⟩ : ∃ m, m = (strB (encs (fs.take (j + 1)))).size := ⟨_, rfl⟩
            have HM := Lib.hid hm2
            have hsm : (strB (encs (fs.take (j + 1)))).size = m := hm2.symm
            clear hm2
            by_cases hbig : m ≤ 2048
            · have hbg : ¬ (2048 : Int) < (m : Int) := by omega
              go_wp2_with fail
              go_roundw
              case rel => exact ⟨j + 1, rfl, by simp, by omega, fun h => absurd hm h, Lib.hid (by have := HM.out; rw [strB_size] at this; omega), Lib.hid HB9⟩
              case measure => simp [RowKit.intOf]; omega
            · have hbg : (2048 : Int) < (m : Int) := by omega
              go_wp2_with fail
              exact bodyPost_ret (v := .tuple #[.string ⟨#[]⟩, .bool false]) (by simp [results, Tryz.results40, go_sem]) rfl (PutF.no (fieldsF_long (i := j + 1) (by have := HM.out; rw [strB_size] at this; omega)) HB9)
        · have hf1 : (2048 : Int) < ((strB f).size : Int) := by omega
          have HF : Hid (fieldsF fs = ([], false)) := Lib.hid (fieldsF_long (i := j + 1) (by rw [HL.out, List.length_append]; have := enc1_len f; rw [strB_size] at hfl; omega))
          go_wp2_with fail
          exact bodyPost_ret (v := .tuple #[.string ⟨#[]⟩, .bool false]) (by simp [results, Tryz.results40, go_sem]) rfl (PutF.no HF.out HB.out)
      · have hd : ¬ ((j : Nat) : Int) < (fs.length : Int) := by omega
        obtain rfl : j = fs.length := by omega
        rw [take_len] at HLn ⊢
        go_wp2_with fail
        exact bodyPost_ret (v := .tuple #[.string (strB (encs fs)), .bool true]) (by simp [results, Tryz.results40, go_sem]) rfl (PutF.yes (fieldsF_yes hm HLn.out) HB.out)
    · have hm1 : ¬ (fs.length : Int) ≤ 60 := by omega
      obtain rfl := hj0 hm
      have hd : ((0 : Nat) : Int) < (fs.length : Int) := by omega
      rw [show strB (encs (fs.take 0)) = ⟨#[]⟩ from rfl]
      go_wp2_with fail
      exact bodyPost_ret (v := .tuple #[.string ⟨#[]⟩, .bool false]) (by simp [results, Tryz.results40, go_sem]) rfl (PutF.no (fieldsF_many hm) HB.out)
end Go.Proofs.YtkmkmndcgemnlaaGreatDoor
