/- signed; RootPut both: a root's text. Condition: the table of powers of ten lies as its initialiser lays it. -/
import Derived.Test.YtggdjiklgakfnaaGreatDoorTreeF
import Derived.Test.YtggdjiklgakfnaaGreatDoorNum
namespace Go.Proofs.YtggdjiklgakfnaaGreatDoor
set_option linter.unusedVariables false
set_option linter.unusedSimpArgs false
set_option linter.unnecessarySimpa false
open Go Go.Lib Go.RowKit

theorem strB_dl (l : Str) : (strB l).data.toList = l := by simp [strB]
def SignedR (B : Nat) (fs : List Str) (w : World) (e : Ending) (w' : World) : Prop := e = .returned (.string (strB (signedS fs))) ∧ Below B w w'
def rootF (t a b s m l d n : Int) : List Str := [114, 111, 111, 116] :: numS t :: treeS a b s m l d n
set_option maxRecDepth 100000 in
set_option maxHeartbeats 4000000 in
theorem signed_any (B : Nat) (A : Option Addr) (c n : Nat) (fs : List Str) (w : World) (ht : TabB B w) (h : StrsIn B w A c fs) (hB : B ≤ w.heap.size) (hb : ∀ f ∈ fs, f.length ≤ 1099511627776) (hl : fs.length ≤ 1000) (hn : n = fs.length) :
    Calls Tryz.prog 96 #[.slice A n c] w (SignedR B fs w) := by
  subst hn
  obtain ⟨i0, hi0, hz0, hz1, hz2⟩ := info_parts info_strs
  have HT := Lib.hid ht
  clear ht
  go_enter Tryz.func96, Tryz.ntmps96
  go_wp2_with fail
  refine (fieldsPut_any A c fs w HT.out.here h.row hb (by omega)).mono ?_
  rintro e w1 ⟨rfl, hb1⟩
  obtain ⟨X, hX⟩ : ∃ X, X = (fieldsF fs).1 := ⟨_, rfl⟩
  obtain ⟨xo, hxo⟩ : ∃ X, X = (fieldsF fs).2 := ⟨_, rfl⟩
  have hXl : (strB X).size ≤ 2048 := by rw [hX]; exact fieldsF_len fs
  rw [← hX, ← hxo]
  have HX := Lib.hid hX
  clear hX hxo
  have HBW1 : Below B w w1 := hb1.mono hB
  have HI1 := Lib.hid (h.below hb1)
  clear h hb1
  go_wp2_with fail
  refine (sumOf_any (strB X) (by omega) w1).mono ?_
  rintro e w2 ⟨rfl, rfl⟩
  obtain ⟨v, hv⟩ : ∃ v : Nat, v = sumL (strB X).data.toList := ⟨_, rfl⟩
  have HV : Hid (v = sumL (fieldsF fs).1) := Lib.hid (by rw [hv, strB_dl, HX.out])
  rw [← hv]
  have hv9 : v ≤ 99460728 := by rw [hv]; exact sumL_lt _
  clear hv
  go_wp2_with fail
  refine (numPut_any (v : Int) w1 (HT.out.on HBW1).here).mono ?_
  rintro e w3 ⟨rfl, hb3⟩
  obtain ⟨x, hx⟩ : ∃ x, x = numS (v : Int) := ⟨_, rfl⟩
  have hxl : x.length ≤ 9 := by rw [hx]; exact numS_len _
  rw [← hx]
  have HXX : Hid (x = numS (sumL (fieldsF fs).1 : Nat)) := Lib.hid (by rw [hx, HV.out])
  clear hx HV
  have hBW0 : B ≤ w.heap.size := hB
  have HBW : Below B w w3 := HBW1.trans (hb3.mono (Nat.le_trans hB HBW1.size))
  have hBW : B ≤ w3.heap.size := Nat.le_trans hB HBW.size
  have HI := Lib.hid (HI1.out.below hb3)
  clear HI1 hb3 HBW1
  have hlen1 : fs.length + 1 ≤ 1001 := by omega
  obtain ⟨S, hOS, hSB⟩ := HI.out
  have HOA := Lib.hid (hOS.below (bel1 (o := .cells #[.string (strB x)] 9)))
  have HLIT := Lib.hid (fun (W : World) => RowAt.lit (w := W) (e := 9) (cur := #[.string (strB x)]) (m := 1) rfl)
  have HONE : Hid (∀ u ∈ [x].map strV, u.oneCell' = true) := Lib.hid (strs_one _)
  have HSB := Lib.hid hSB
  clear hOS hSB HI
  go_wp2_with (at_builtin; go_must (refine wpList_append_row rfl _ _ 67 rfl 9 i0 (.string ByteArray.empty) 1 16 Tryz.underlying67 hi0 hz0 hz1 hz2 rfl (by decide) S A _ fs.length c 1 _ (fs.map strV) ([x].map strV) rfl rfl HOA.out (HLIT.out _) HONE.out (by unfold maxLen; omega) (by omega) ?_))
  intro A' c' S' w5 hO' hS' hC'
  obtain ⟨hI5, hb5⟩ := app_strs (B := B) HSB.out (w1 := w3.alloc (.cells #[.string (strB x)] 9)) (fs := fs) (gs := [x]) (by simp; omega) (by rw [List.length_append, List.length_singleton]) hO' (fun g hg => (hS' g hg).imp id (fun h => by simpa using h)) hC'
  have HB5 : Below B w w5 := HBW.trans (((Below.refl _ _).alloc hBW _).trans hb5)
  have HI5 := Lib.hid hI5
  have hl5 : Hid (fs.length + 1 = (fs ++ [x]).length) := Lib.hid (by rw [List.length_append, List.length_singleton])
  have hb5' : ∀ f ∈ fs ++ [x], f.length ≤ 1099511627776 := by
    intro f hf
    rcases List.mem_append.1 hf with hf | hf
    · exact hb f hf
    · rw [List.mem_singleton] at hf; subst hf; omega
  have HM := Lib.hid hb5'
  clear hI5 hb5 hO' hS' hC' HOA HLIT HONE HSB hb5'
  have P5 := fieldsPut_any A' c' (fs ++ [x]) w5 (HT.out.on HB5).here HI5.out.row HM.out (by rw [← hl5.out]; omega)
  rw [← hl5.out] at P5
  have P5 := Lib.hid P5
  go_wp2_with fail
  refine P5.out.mono ?_
  rintro e w6 ⟨rfl, hb6⟩
  obtain ⟨Y, hY⟩ : ∃ Y, Y = (fieldsF (fs ++ [x])).1 := ⟨_, rfl⟩
  obtain ⟨yo, hyo⟩ : ∃ Y, Y = (fieldsF (fs ++ [x])).2 := ⟨_, rfl⟩
  rw [← hY, ← hyo]
  have HY := Lib.hid hY
  clear hY hyo
  have HB6 : Below B w w6 := HB5.trans (hb6.mono (Nat.le_trans hBW0 HB5.size))
  go_wp2_with fail
  go_ret
  exact ⟨ret_str (by rw [HY.out, HXX.out]; rfl), HB6⟩
end Go.Proofs.YtggdjiklgakfnaaGreatDoor
