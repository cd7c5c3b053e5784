/- NodePut both: a node's text. Condition: the table of powers of ten lies as its initialiser lays it. -/
import Derived.Test.YtjnhiiaejeaikaaGreatDoorRNodeOkB
import Derived.Test.YtjnhiiaejeaikaaGreatDoorRTreeF
set_option linter.unnecessarySimpa false
set_option linter.unusedSimpArgs false
set_option linter.unusedVariables false
namespace Go.Proofs.YtjnhiiaejeaikaaGreatDoor
open Go Go.Lib Go.RowKit
theorem intsAt3 {w : World} {g T : Nat} {i j z : Int} (hg : w.heap[g]? = some (.cells #[.int .i64 i, .int .i64 j, .int .i64 z] T (0, 0))) : IntsAt w (some ⟨g, 0, none⟩) 3 [i, j, z] := by
 refine ⟨rfl, by unfold maxLen; omega, fun _ => ⟨g, 0, rfl, fun j_ hj => ?_⟩⟩
 rw [Nat.zero_add, cell_of_row _ _ j_ _ _ (0, 0) hg]
 have hx : j_ = 0 ∨ j_ = 1 ∨ j_ = 2 := by omega
 rcases hx with rfl | rfl | rfl <;> rfl
def EndS (B : Nat) (u v : World) : Prop := Own B u v ∧ ∀ (g : Nat) (x : Value) (T : TypeId), u.heap[g]? = some (.cells #[x] T (0, 0)) → v.heap[g]? = some (.cells #[x] T (0, 0))
theorem EndS.of_ext (B : Nat) (a b : World) (h : Ext a b) : EndS B a b := ⟨Own.of_ext B a b h, fun g x T hg => (Below.block h g (Array.getElem?_eq_some_iff.1 hg).1).trans hg⟩
theorem EndS.trans {B : Nat} {a b c : World} (h : EndS B a b) (k : EndS B b c) : EndS B a c := ⟨Own.trans h.1 k.1, fun g x T hg => k.2 g x T (h.2 g x T hg)⟩
theorem EndS.drew (B : Nat) (w : World) : EndS B w w.drew := ⟨Own.drew B w, fun _ _ _ h => h⟩
def endP (B : Nat) (x : Value) (T : TypeId) : MStP (EndS B) Ext := ⟨fun v w => ∃ g, v = .slice (some ⟨g, 0, none⟩) 1 1 ∧ B ≤ g ∧ w.heap[g]? = some (.cells #[x] T (0, 0)), true, fun v w w' he ⟨g, e, hB, h⟩ => ⟨g, e, hB, (Below.block he g (Array.getElem?_eq_some_iff.1 h).1).trans h⟩, fun _ v w w' hs ⟨g, e, hB, h⟩ => ⟨g, e, hB, hs.2 g x T h⟩⟩
def softStrsE {S : World → World → Prop} (B : Nat) (fs : List Str) : MStP S Ext := ⟨fun v w => ∃ A c n, v = .slice A n c ∧ n = fs.length ∧ StrsIn B w A c fs, false, fun _ _ _ he ⟨A, c, n, e, hn, h⟩ => ⟨A, c, n, e, hn, h.below he⟩, fun h => by cases h⟩
def softLitE {S : World → World → Prop} (T : TypeId) (cur : Array Value) (n : Nat) : MStP S Ext := ⟨fun v w => ∃ g : Nat, v = .slice (some ⟨g, 0, none⟩) n n ∧ w.heap[g]? = some (.cells cur T (0, 0)), false, fun _ _ _ he ⟨g, e, hg⟩ => ⟨g, e, (Below.block he g (Array.getElem?_eq_some_iff.1 hg).1).trans hg⟩, fun h => by cases h⟩
theorem OwnA.not_one {w : World} {e : TypeId} {S : List Nat} {A : Option Addr} {n c : Nat} {vs : List Value} (h : OwnA w e 1 S A n c vs) (hn : 2 ≤ n) {g : Nat} {x : Value} {T : TypeId} (hg : w.heap[g]? = some (.cells #[x] T (0, 0))) : g ∉ S := by
 rcases h.1 with ⟨rfl, _, _⟩ | ⟨g0, cur, rfl, rfl, hl, hnc, hcm, hg0, hcs, hcc⟩
 · simp
 intro hm
 rw [List.mem_singleton] at hm
 subst hm
 rw [hg0] at hg
 injection hg with hg
 injection hg with hg
 subst hg
 simp at hcs
 omega
theorem EndS.app {B : Nat} {w w' : World} {e : TypeId} {S : List Nat} {A : Option Addr} {n c : Nat} {vs : List Value} (h : OwnA w e 1 S A n c vs) (hn : 2 ≤ n) (hb : Below B w w') (hC : Chg (· ∈ S) w w') : EndS B w w' :=
 ⟨fun _ => hb, fun g x T hg => (hC.block g (Array.getElem?_eq_some_iff.1 hg).1 (h.not_one hn hg)).trans hg⟩
theorem nodeL_big (x : NodeD) : ∀ f ∈ nodeL x, f.length ≤ 1099511627776 := fun f hf => by have := nodeL_le x f hf; omega
set_option maxRecDepth 100000 in
set_option maxHeartbeats 4000000 in
theorem nodePut_any (i j z a b s m l d n : Int) (w : World) (ht : Tab w) : Calls Tryz.prog 89 #[.agg #[.int .i64 i, .int .i64 j, .int .i64 z, .int .i64 a, .int .i64 b, .int .i64 s, .int .i64 m, .int .i64 l, .int .i64 d, .int .i64 n]] w (TextR (nodeS (i, j, z, (a, b, s, m, l), d, n)) w) := by
 obtain ⟨i0, hi0, hz0, hz1, hz2⟩ := info_parts info_strs
 go_enter Tryz.func89, Tryz.ntmps89
 go_wp2_with fail
 refine (nodeOk_any i j z a b s m l d n _).mono ?_
 rintro e w1 ⟨rfl, hb1⟩
 have HB1 := bel1.trans (hb1.mono (by simp))
 have c1_0 : w1.cell? ⟨w.heap.size, 0, none⟩ = some (.int .i64 i) := (hb1.cell (by simp)).trans (by simp [go_sem])
 have c1_1 : w1.cell? ⟨w.heap.size, 1, none⟩ = some (.int .i64 j) := (hb1.cell (by simp)).trans (by simp [go_sem])
 have c1_2 : w1.cell? ⟨w.heap.size, 2, none⟩ = some (.int .i64 z) := (hb1.cell (by simp)).trans (by simp [go_sem])
 have c1_3 : w1.cell? ⟨w.heap.size, 3, none⟩ = some (.int .i64 a) := (hb1.cell (by simp)).trans (by simp [go_sem])
 have c1_4 : w1.cell? ⟨w.heap.size, 4, none⟩ = some (.int .i64 b) := (hb1.cell (by simp)).trans (by simp [go_sem])
 have c1_5 : w1.cell? ⟨w.heap.size, 5, none⟩ = some (.int .i64 s) := (hb1.cell (by simp)).trans (by simp [go_sem])
 have c1_6 : w1.cell? ⟨w.heap.size, 6, none⟩ = some (.int .i64 m) := (hb1.cell (by simp)).trans (by simp [go_sem])
 have c1_7 : w1.cell? ⟨w.heap.size, 7, none⟩ = some (.int .i64 l) := (hb1.cell (by simp)).trans (by simp [go_sem])
 have c1_8 : w1.cell? ⟨w.heap.size, 8, none⟩ = some (.int .i64 d) := (hb1.cell (by simp)).trans (by simp [go_sem])
 have c1_9 : w1.cell? ⟨w.heap.size, 9, none⟩ = some (.int .i64 n) := (hb1.cell (by simp)).trans (by simp [go_sem])
 have l1 : w.heap.size < w1.heap.size := World.block_lt_of_cell? w1 _ c1_0
 clear hb1
 obtain ⟨ok, hok⟩ : ∃ ok, ok = nodeOkB (i, j, z, (a, b, s, m, l), d, n) := ⟨_, rfl⟩
 have HOK := Lib.hid hok.symm
 rw [← hok]
 clear hok
 cases ok
 · go_wp2_with fail
   go_ret
   exact ⟨ret_str (by rw [nodeS_no HOK.out]; rfl), HB1⟩
 have HB1 := Lib.hid HB1
 have HT1 : Hid (TabB w1.heap.size w1) := Lib.hid (ht.below HB1.out).toB
 clear ht
 go_wp2_with fail
 apply wp_region_rgm (EndS (w1.heap.size)) (Ext) (fun _ _ => True) (0 :: 0 :: 0 :: 0 :: 0 :: 0 :: 0 :: 0 :: 0 :: 0 :: 0 :: 0 :: 0 :: 0 :: 0 :: 0 :: 0 :: 0 :: 0 :: 0 :: []) (by kernel_rfl) (false :: false :: false :: true :: true :: false :: false :: false :: true :: true :: true :: true :: true :: true :: true :: true :: true :: true :: true :: true :: true :: true :: true :: true :: true :: true :: false :: []) (some 9 :: some 10 :: some 11 :: some 12 :: some 13 :: some 14 :: some 15 :: some 16 :: some 17 :: some 18 :: some 19 :: some 20 :: some 21 :: some 22 :: some 23 :: some 8 :: some 24 :: some 25 :: some 3 :: some 4 :: []) ([] :: [0] :: [] :: [2] :: [] :: [4] :: [1, 3, 5] :: [6] :: [] :: [8] :: [9] :: [7, 10] :: [] :: [11, 12] :: [13] :: [14] :: [15] :: [15] :: [16] :: [17] :: []) (false :: false :: false :: false :: false :: false :: false :: false :: false :: false :: false :: true :: false :: true :: false :: false :: false :: false :: false :: false :: []) (true :: true :: true :: true :: true :: true :: false :: false :: true :: true :: false :: false :: true :: false :: true :: true :: true :: true :: true :: true :: []) [18] (MStP.is _ :: MStP.is _ :: MStP.is _ :: MStP.is _ :: MStP.is _ :: MStP.is _ :: softLitE 3 #[.int .i64 i, .int .i64 j, .int .i64 z] 3 :: softStrsE (w1.heap.size) ([numS i, numS j, numS z]) :: MStP.is _ :: MStP.is _ :: softStrsE (w1.heap.size) (treeS a b s m l d n) :: softStrsE (w1.heap.size) ([numS i, numS j, numS z] ++ treeS a b s m l d n) :: endP (w1.heap.size) (.string (strB [101, 110, 100])) 9 :: softStrsE (w1.heap.size) (nodeL (i, j, z, (a, b, s, m, l), d, n)) :: MStP.is _ :: MStP.is _ :: MStP.is _ :: MStP.is _ :: MStP.is _ :: MStP.is _ :: []) (by kernel_rfl) (by kernel_rfl) (by kernel_rfl)
 case hobs =>
  refine ⟨fun y w' k hS hj hk hF K hK => ?_, ?_⟩
  · skip
    simp only [fillL, cond_true, cond_false, zG0, zG1, StP.is, Act.put, zS2, zS0, zS1, Nat.reduceAdd, MStP.is, Option.isSome_some, Option.isSome_none] at hK ⊢
    refine rg_yes (by kernel_rfl) ?_
    clear hF
    go_simp
    exact hK _ _ (Ext.refl _) trivial rfl
  refine ⟨fun y w' k hS hj hk hF K hK => ?_, ?_⟩
  · skip
    have e9 : y 9 = _ := hF.1
    simp only [fillL, cond_true, cond_false, zG0, zG1, StP.is, Act.put, zS2, zS0, zS1, Nat.reduceAdd, e9, MStP.is, Option.isSome_some, Option.isSome_none] at hK ⊢
    refine rg_yes (by kernel_rfl) ?_
    have hSb := hS.1.below
    have hBw := hSb.size
    have q0_ := (hSb.cell l1).trans c1_0
    have q1_ := (hSb.cell l1).trans c1_1
    have q2_ := (hSb.cell l1).trans c1_2
    have q3_ := (hSb.cell l1).trans c1_3
    have q4_ := (hSb.cell l1).trans c1_4
    have q5_ := (hSb.cell l1).trans c1_5
    have q6_ := (hSb.cell l1).trans c1_6
    have q7_ := (hSb.cell l1).trans c1_7
    have q8_ := (hSb.cell l1).trans c1_8
    have q9_ := (hSb.cell l1).trans c1_9
    clear e9
    clear hF
    go_simp
    exact hK _ _ (Ext.refl _) trivial rfl
  refine ⟨fun y w' k hS hj hk hF K hK => ?_, ?_⟩
  · skip
    simp only [fillL, cond_true, cond_false, zG0, zG1, StP.is, Act.put, zS2, zS0, zS1, Nat.reduceAdd, MStP.is, Option.isSome_some, Option.isSome_none] at hK ⊢
    refine rg_yes (by kernel_rfl) ?_
    clear hF
    go_simp
    exact hK _ _ (Ext.refl _) trivial rfl
  refine ⟨fun y w' k hS hj hk hF K hK => ?_, ?_⟩
  · skip
    have e11 : y 11 = _ := hF.1
    simp only [fillL, cond_true, cond_false, zG0, zG1, StP.is, Act.put, zS2, zS0, zS1, Nat.reduceAdd, e11, MStP.is, Option.isSome_some, Option.isSome_none] at hK ⊢
    refine rg_yes (by kernel_rfl) ?_
    have hSb := hS.1.below
    have hBw := hSb.size
    have q0_ := (hSb.cell l1).trans c1_0
    have q1_ := (hSb.cell l1).trans c1_1
    have q2_ := (hSb.cell l1).trans c1_2
    have q3_ := (hSb.cell l1).trans c1_3
    have q4_ := (hSb.cell l1).trans c1_4
    have q5_ := (hSb.cell l1).trans c1_5
    have q6_ := (hSb.cell l1).trans c1_6
    have q7_ := (hSb.cell l1).trans c1_7
    have q8_ := (hSb.cell l1).trans c1_8
    have q9_ := (hSb.cell l1).trans c1_9
    clear e11
    clear hF
    go_simp
    exact hK _ _ (Ext.refl _) trivial rfl
  refine ⟨fun y w' k hS hj hk hF K hK => ?_, ?_⟩
  · skip
    simp only [fillL, cond_true, cond_false, zG0, zG1, StP.is, Act.put, zS2, zS0, zS1, Nat.reduceAdd, MStP.is, Option.isSome_some, Option.isSome_none] at hK ⊢
    refine rg_yes (by kernel_rfl) ?_
    clear hF
    go_simp
    exact hK _ _ (Ext.refl _) trivial rfl
  refine ⟨fun y w' k hS hj hk hF K hK => ?_, ?_⟩
  · skip
    have e13 : y 13 = _ := hF.1
    simp only [fillL, cond_true, cond_false, zG0, zG1, StP.is, Act.put, zS2, zS0, zS1, Nat.reduceAdd, e13, MStP.is, Option.isSome_some, Option.isSome_none] at hK ⊢
    refine rg_yes (by kernel_rfl) ?_
    have hSb := hS.1.below
    have hBw := hSb.size
    have q0_ := (hSb.cell l1).trans c1_0
    have q1_ := (hSb.cell l1).trans c1_1
    have q2_ := (hSb.cell l1).trans c1_2
    have q3_ := (hSb.cell l1).trans c1_3
    have q4_ := (hSb.cell l1).trans c1_4
    have q5_ := (hSb.cell l1).trans c1_5
    have q6_ := (hSb.cell l1).trans c1_6
    have q7_ := (hSb.cell l1).trans c1_7
    have q8_ := (hSb.cell l1).trans c1_8
    have q9_ := (hSb.cell l1).trans c1_9
    clear e13
    clear hF
    go_simp
    exact hK _ _ (Ext.refl _) trivial rfl
  refine ⟨fun y w' k hS hj hk hF K hK => ?_, ?_⟩
  · skip
    have e10 : y 10 = _ := hF.1
    have e12 : y 12 = _ := hF.2.1
    have e14 : y 14 = _ := hF.2.2.1
    simp only [fillL, cond_true, cond_false, zG0, zG1, StP.is, Act.put, zS2, zS0, zS1, Nat.reduceAdd, e10, e12, e14, MStP.is, Option.isSome_some, Option.isSome_none] at hK ⊢
    refine rg_yes (by kernel_rfl) ?_
    have hSb := hS.1.below
    have hBw := hSb.size
    have q0_ := (hSb.cell l1).trans c1_0
    have q1_ := (hSb.cell l1).trans c1_1
    have q2_ := (hSb.cell l1).trans c1_2
    have q3_ := (hSb.cell l1).trans c1_3
    have q4_ := (hSb.cell l1).trans c1_4
    have q5_ := (hSb.cell l1).trans c1_5
    have q6_ := (hSb.cell l1).trans c1_6
    have q7_ := (hSb.cell l1).trans c1_7
    have q8_ := (hSb.cell l1).trans c1_8
    have q9_ := (hSb.cell l1).trans c1_9
    clear e10 e12 e14
    clear hF
    go_simp
    exact hK _ _ (Ext.alloc _ _) trivial ⟨_, rfl, heap_alloc_new _ _⟩
  refine ⟨fun y w' k hS hj hk hF K hK => ?_, ?_⟩
  · skip
    obtain ⟨ge15, e15, hge15⟩ := hF.1
    simp only [fillL, cond_true, cond_false, zG0, zG1, StP.is, Act.put, zS2, zS0, zS1, Nat.reduceAdd, e15, MStP.is, Option.isSome_some, Option.isSome_none] at hK ⊢
    refine rg_yes (by kernel_rfl) ?_
    have hSb := hS.1.below
    have hBw := hSb.size
    have q0_ := (hSb.cell l1).trans c1_0
    have q1_ := (hSb.cell l1).trans c1_1
    have q2_ := (hSb.cell l1).trans c1_2
    have q3_ := (hSb.cell l1).trans c1_3
    have q4_ := (hSb.cell l1).trans c1_4
    have q5_ := (hSb.cell l1).trans c1_5
    have q6_ := (hSb.cell l1).trans c1_6
    have q7_ := (hSb.cell l1).trans c1_7
    have q8_ := (hSb.cell l1).trans c1_8
    have q9_ := (hSb.cell l1).trans c1_9
    clear e15
    clear hF
    go_simp
    go_at_call 108
    refine (numbers_any _ 3 3 [i, j, z] w' (HT1.out.on hSb).here (intsAt3 hge15) (by omega)).mono ?_
    rintro e w'' ⟨A2, c2, rfl, hI, hb9⟩
    exact hK _ _ hb9 trivial ⟨A2, c2, _, rfl, rfl, hI.mono hBw⟩
  refine ⟨fun y w' k hS hj hk hF K hK => ?_, ?_⟩
  · skip
    simp only [fillL, cond_true, cond_false, zG0, zG1, StP.is, Act.put, zS2, zS0, zS1, Nat.reduceAdd, MStP.is, Option.isSome_some, Option.isSome_none] at hK ⊢
    refine rg_yes (by kernel_rfl) ?_
    clear hF
    go_simp
    exact hK _ _ (Ext.refl _) trivial rfl
  refine ⟨fun y w' k hS hj hk hF K hK => ?_, ?_⟩
  · skip
    have e17 : y 17 = _ := hF.1
    simp only [fillL, cond_true, cond_false, zG0, zG1, StP.is, Act.put, zS2, zS0, zS1, Nat.reduceAdd, e17, MStP.is, Option.isSome_some, Option.isSome_none] at hK ⊢
    refine rg_yes (by kernel_rfl) ?_
    have hSb := hS.1.below
    have hBw := hSb.size
    have q0_ := (hSb.cell l1).trans c1_0
    have q1_ := (hSb.cell l1).trans c1_1
    have q2_ := (hSb.cell l1).trans c1_2
    have q3_ := (hSb.cell l1).trans c1_3
    have q4_ := (hSb.cell l1).trans c1_4
    have q5_ := (hSb.cell l1).trans c1_5
    have q6_ := (hSb.cell l1).trans c1_6
    have q7_ := (hSb.cell l1).trans c1_7
    have q8_ := (hSb.cell l1).trans c1_8
    have q9_ := (hSb.cell l1).trans c1_9
    clear e17
    clear hF
    go_simp
    exact hK _ _ (Ext.refl _) trivial rfl
  refine ⟨fun y w' k hS hj hk hF K hK => ?_, ?_⟩
  · skip
    have e18 : y 18 = _ := hF.1
    simp only [fillL, cond_true, cond_false, zG0, zG1, StP.is, Act.put, zS2, zS0, zS1, Nat.reduceAdd, e18, MStP.is, Option.isSome_some, Option.isSome_none] at hK ⊢
    refine rg_yes (by kernel_rfl) ?_
    have hSb := hS.1.below
    have hBw := hSb.size
    have q0_ := (hSb.cell l1).trans c1_0
    have q1_ := (hSb.cell l1).trans c1_1
    have q2_ := (hSb.cell l1).trans c1_2
    have q3_ := (hSb.cell l1).trans c1_3
    have q4_ := (hSb.cell l1).trans c1_4
    have q5_ := (hSb.cell l1).trans c1_5
    have q6_ := (hSb.cell l1).trans c1_6
    have q7_ := (hSb.cell l1).trans c1_7
    have q8_ := (hSb.cell l1).trans c1_8
    have q9_ := (hSb.cell l1).trans c1_9
    clear e18
    clear hF
    go_simp
    go_at_call 109
    refine (treeFields_any a b s m l d n w' (HT1.out.on hSb).here).mono ?_
    rintro e w'' ⟨A2, c2, rfl, hI, hb9⟩
    exact hK _ _ hb9 trivial ⟨A2, c2, _, rfl, rfl, hI.mono hBw⟩
  refine ⟨fun y w' k hS hj hk hF K hK => ?_, ?_⟩
  · skip
    obtain ⟨Ae16, ce16, ne16, e16, hxe16, hIe16⟩ := hF.1
    have hne16 := Lib.hid hxe16; clear hxe16
    obtain ⟨Ae19, ce19, ne19, e19, hxe19, hIe19⟩ := hF.2.1
    have hne19 := Lib.hid hxe19; clear hxe19
    simp only [fillL, cond_true, cond_false, zG0, zG1, StP.is, Act.put, zS2, zS0, zS1, Nat.reduceAdd, e16, e19, MStP.is, Option.isSome_some, Option.isSome_none] at hK ⊢
    refine rg_yes (by kernel_rfl) ?_
    have hSb := hS.1.below
    have hBw := hSb.size
    have q0_ := (hSb.cell l1).trans c1_0
    have q1_ := (hSb.cell l1).trans c1_1
    have q2_ := (hSb.cell l1).trans c1_2
    have q3_ := (hSb.cell l1).trans c1_3
    have q4_ := (hSb.cell l1).trans c1_4
    have q5_ := (hSb.cell l1).trans c1_5
    have q6_ := (hSb.cell l1).trans c1_6
    have q7_ := (hSb.cell l1).trans c1_7
    have q8_ := (hSb.cell l1).trans c1_8
    have q9_ := (hSb.cell l1).trans c1_9
    clear e16 e19
    clear hF
    have hlr := (Nat.le_of_eq rfl : 0 ≤ 0)
    obtain ⟨Se16, hOS, hSB⟩ := hIe16
    have hne16 := hne16.out; have hne19 := hne19.out
    rw [← hne16] at hOS
    have hle1 : ne16 ≤ 3 := by rw [hne16]; exact Nat.le_refl _
    have hle2 : ne19 ≤ 3 := by rw [hne19]; exact Nat.le_refl _
    refine wp_append_row (.tmp 16) (.tmp 19) 22 rfl 9 i0 (.string ByteArray.empty) 1 16 Tryz.underlying22 hi0 hz0 hz1 hz2 rfl (by decide) Se16 Ae16 Ae19 ne16 ce16 ne19 ce19 (([numS i, numS j, numS z]).map strV) ((treeS a b s m l d n).map strV) rfl rfl hOS (by rw [hne19, Nat.mul_one]; exact hIe19.row) (strs_one _) (by unfold maxLen; omega) (by omega) ?_
    intro A' c' S' w'' hO' hS' hC'
    obtain ⟨hI9, hb9⟩ := app_strs (fs := [numS i, numS j, numS z]) (gs := treeS a b s m l d n) hSB hBw (by rw [List.length_append, hne16, hne19]) hO' hS' hC'
    have hES := EndS.app hOS (by rw [hne16]; show 2 ≤ 3; omega) hb9 hC'
    exact hK _ _ hES trivial ⟨A', c', _, rfl, by rw [hne16, hne19]; rfl, hI9⟩
  refine ⟨fun y w' k hS hj hk hF K hK => ?_, ?_⟩
  · skip
    simp only [fillL, cond_true, cond_false, zG0, zG1, StP.is, Act.put, zS2, zS0, zS1, Nat.reduceAdd, MStP.is, Option.isSome_some, Option.isSome_none] at hK ⊢
    refine rg_yes (by kernel_rfl) ?_
    have hSb := hS.1.below
    have hBw := hSb.size
    have q0_ := (hSb.cell l1).trans c1_0
    have q1_ := (hSb.cell l1).trans c1_1
    have q2_ := (hSb.cell l1).trans c1_2
    have q3_ := (hSb.cell l1).trans c1_3
    have q4_ := (hSb.cell l1).trans c1_4
    have q5_ := (hSb.cell l1).trans c1_5
    have q6_ := (hSb.cell l1).trans c1_6
    have q7_ := (hSb.cell l1).trans c1_7
    have q8_ := (hSb.cell l1).trans c1_8
    have q9_ := (hSb.cell l1).trans c1_9
    clear hF
    go_simp
    exact hK _ _ (Ext.alloc _ _) trivial ⟨_, rfl, hBw, heap_alloc_new _ _⟩
  refine ⟨fun y w' k hS hj hk hF K hK => ?_, ?_⟩
  · skip
    obtain ⟨Ae20, ce20, ne20, e20, hxe20, hIe20⟩ := hF.1
    have hne20 := Lib.hid hxe20; clear hxe20
    obtain ⟨ge21, e21, hgBe21, hge21⟩ := hF.2.1
    simp only [fillL, cond_true, cond_false, zG0, zG1, StP.is, Act.put, zS2, zS0, zS1, Nat.reduceAdd, e20, e21, MStP.is, Option.isSome_some, Option.isSome_none] at hK ⊢
    refine rg_yes (by kernel_rfl) ?_
    have hSb := hS.1.below
    have hBw := hSb.size
    have q0_ := (hSb.cell l1).trans c1_0
    have q1_ := (hSb.cell l1).trans c1_1
    have q2_ := (hSb.cell l1).trans c1_2
    have q3_ := (hSb.cell l1).trans c1_3
    have q4_ := (hSb.cell l1).trans c1_4
    have q5_ := (hSb.cell l1).trans c1_5
    have q6_ := (hSb.cell l1).trans c1_6
    have q7_ := (hSb.cell l1).trans c1_7
    have q8_ := (hSb.cell l1).trans c1_8
    have q9_ := (hSb.cell l1).trans c1_9
    clear e20 e21
    clear hF
    have hstr_ := StrsIn.lit (fs := [[101, 110, 100]]) hgBe21 hge21 rfl (by unfold maxLen; simp)
    have hlr := (Nat.le_of_eq rfl : 0 ≤ 0)
    obtain ⟨Se20, hOS, hSB⟩ := hIe20
    have hne20 := hne20.out; have hEL_ : 1 = ([[101, 110, 100]] : List Str).length := rfl
    rw [← hne20] at hOS
    have hle1 : ne20 ≤ 6 := by rw [hne20]; exact Nat.le_refl _
    have hle2 : 1 ≤ 1 := by rw [hEL_]; exact Nat.le_refl _
    refine wp_append_row (.tmp 20) (.tmp 21) 22 rfl 9 i0 (.string ByteArray.empty) 1 16 Tryz.underlying22 hi0 hz0 hz1 hz2 rfl (by decide) Se20 Ae20 (some ⟨ge21, 0, none⟩) ne20 ce20 1 1 (([numS i, numS j, numS z] ++ treeS a b s m l d n).map strV) (([[101, 110, 100]]).map strV) rfl rfl hOS (show RowAt _ _ (1 * 1) _ from hstr_.row) (strs_one _) (by unfold maxLen; omega) (by omega) ?_
    intro A' c' S' w'' hO' hS' hC'
    obtain ⟨hI9, hb9⟩ := app_strs (fs := [numS i, numS j, numS z] ++ treeS a b s m l d n) (gs := [[101, 110, 100]]) hSB hBw (by rw [List.length_append, hne20, hEL_]) hO' hS' hC'
    have hES := EndS.app hOS (by rw [hne20]; show 2 ≤ 6; omega) hb9 hC'
    exact hK _ _ hES trivial ⟨A', c', _, rfl, by rw [hne20]; rfl, hI9⟩
  refine ⟨fun y w' k hS hj hk hF K hK => ?_, ?_⟩
  · skip
    obtain ⟨Ae22, ce22, ne22, e22, hxe22, hIe22⟩ := hF.1
    have hne22 := Lib.hid hxe22; clear hxe22
    simp only [fillL, cond_true, cond_false, zG0, zG1, StP.is, Act.put, zS2, zS0, zS1, Nat.reduceAdd, e22, MStP.is, Option.isSome_some, Option.isSome_none] at hK ⊢
    refine rg_yes (by kernel_rfl) ?_
    have hSb := hS.1.below
    have hBw := hSb.size
    have q0_ := (hSb.cell l1).trans c1_0
    have q1_ := (hSb.cell l1).trans c1_1
    have q2_ := (hSb.cell l1).trans c1_2
    have q3_ := (hSb.cell l1).trans c1_3
    have q4_ := (hSb.cell l1).trans c1_4
    have q5_ := (hSb.cell l1).trans c1_5
    have q6_ := (hSb.cell l1).trans c1_6
    have q7_ := (hSb.cell l1).trans c1_7
    have q8_ := (hSb.cell l1).trans c1_8
    have q9_ := (hSb.cell l1).trans c1_9
    clear e22
    clear hF
    go_simp
    have hq_ := hne22.out
    rw [hq_] at hK ⊢
    go_at_call 107
    refine (fieldsPut_any _ _ (nodeL (i, j, z, (a, b, s, m, l), d, n)) w' (HT1.out.on hSb).here hIe22.row (nodeL_big _) (by show 7 ≤ _; omega)).mono ?_
    rintro e w'' ⟨rfl, hb9⟩
    exact hK _ _ hb9 trivial rfl
  refine ⟨fun y w' k hS hj hk hF K hK => ?_, ?_⟩
  · skip
    have e23 : y 23 = _ := hF.1
    simp only [fillL, cond_true, cond_false, zG0, zG1, StP.is, Act.put, zS2, zS0, zS1, Nat.reduceAdd, e23, MStP.is, Option.isSome_some, Option.isSome_none] at hK ⊢
    refine rg_yes (by kernel_rfl) ?_
    clear e23
    clear hF
    go_simp
    exact hK _ _ (Ext.refl _) trivial rfl
  refine ⟨fun y w' k hS hj hk hF K hK => ?_, ?_⟩
  · skip
    have e8 : y 8 = _ := hF.1
    simp only [fillL, cond_true, cond_false, zG0, zG1, StP.is, Act.put, zS2, zS0, zS1, Nat.reduceAdd, e8, MStP.is, Option.isSome_some, Option.isSome_none] at hK ⊢
    refine rg_yes (by kernel_rfl) ?_
    clear e8
    clear hF
    go_simp
    exact hK _ _ (Ext.refl _) trivial rfl
  refine ⟨fun y w' k hS hj hk hF K hK => ?_, ?_⟩
  · skip
    have e8 : y 8 = _ := hF.1
    simp only [fillL, cond_true, cond_false, zG0, zG1, StP.is, Act.put, zS2, zS0, zS1, Nat.reduceAdd, e8, MStP.is, Option.isSome_some, Option.isSome_none] at hK ⊢
    refine rg_yes (by kernel_rfl) ?_
    clear e8
    clear hF
    go_simp
    exact hK _ _ (Ext.refl _) trivial rfl
  refine ⟨fun y w' k hS hj hk hF K hK => ?_, ?_⟩
  · skip
    have e24 : y 24 = _ := hF.1
    simp only [fillL, cond_true, cond_false, zG0, zG1, StP.is, Act.put, zS2, zS0, zS1, Nat.reduceAdd, e24, MStP.is, Option.isSome_some, Option.isSome_none] at hK ⊢
    refine rg_yes (by kernel_rfl) ?_
    clear e24
    clear hF
    go_simp
    exact hK _ _ (Ext.refl _) trivial rfl
  refine ⟨fun y w' k hS hj hk hF K hK => ?_, ?_⟩
  · skip
    have e25 : y 25 = _ := hF.1
    simp only [fillL, cond_true, cond_false, zG0, zG1, StP.is, Act.put, zS2, zS0, zS1, Nat.reduceAdd, e25, MStP.is, Option.isSome_some, Option.isSome_none] at hK ⊢
    refine rg_yes (by kernel_rfl) ?_
    clear e25
    clear hF
    go_simp
    exact hK _ _ (Ext.refl _) trivial rfl
  trivial
 case hH => rfl
 case hNS => exact EndS.of_ext _
 case hSt => exact fun a b => EndS.trans a b
 case hJ => exact fun _ _ _ _ h => h
 case hdrew => exact EndS.drew _ _
 case hj0 => trivial
 intro y w9 hS _ hF
 have e3 : y 3 = _ := hF.1
 have HBB : Hid (Below w.heap.size w w9) := Lib.hid (HB1.out.trans (hS.1.below.mono HB1.out.size))
 clear hS
 clear hF
 simp only [fillL, cond_true, cond_false, Nat.reduceAdd, e3]
 clear e3 c1_0 c1_1 c1_2 c1_3 c1_4 c1_5 c1_6 c1_7 c1_8 c1_9
 go_wp2_with fail
 go_ret
 exact ⟨ret_str (by rw [nodeS_yes HOK.out]), HBB.out⟩
set_option maxRecDepth 100000 in
set_option maxHeartbeats 4000000 in
theorem spNodePut_any (i j z a b s m l d n : Int) (w : World) : Calls Tryz.prog 79 #[.agg #[.int .i64 i, .int .i64 j, .int .i64 z, .int .i64 a, .int .i64 b, .int .i64 s, .int .i64 m, .int .i64 l, .int .i64 d, .int .i64 n]] w (TextR (nodeS (i, j, z, (a, b, s, m, l), d, n)) w) := by
 obtain ⟨i0, hi0, hz0, hz1, hz2⟩ := info_parts info_strs
 go_enter Tryz.func79, Tryz.ntmps79
 go_wp2_with fail
 refine (spNodeOk_any i j z a b s m l d n _).mono ?_
 rintro e w1 ⟨rfl, hb1⟩
 have HB1 := bel1.trans (hb1.mono (by simp))
 have c1_0 : w1.cell? ⟨w.heap.size, 0, none⟩ = some (.int .i64 i) := (hb1.cell (by simp)).trans (by simp [go_sem])
 have c1_1 : w1.cell? ⟨w.heap.size, 1, none⟩ = some (.int .i64 j) := (hb1.cell (by simp)).trans (by simp [go_sem])
 have c1_2 : w1.cell? ⟨w.heap.size, 2, none⟩ = some (.int .i64 z) := (hb1.cell (by simp)).trans (by simp [go_sem])
 have c1_3 : w1.cell? ⟨w.heap.size, 3, none⟩ = some (.int .i64 a) := (hb1.cell (by simp)).trans (by simp [go_sem])
 have c1_4 : w1.cell? ⟨w.heap.size, 4, none⟩ = some (.int .i64 b) := (hb1.cell (by simp)).trans (by simp [go_sem])
 have c1_5 : w1.cell? ⟨w.heap.size, 5, none⟩ = some (.int .i64 s) := (hb1.cell (by simp)).trans (by simp [go_sem])
 have c1_6 : w1.cell? ⟨w.heap.size, 6, none⟩ = some (.int .i64 m) := (hb1.cell (by simp)).trans (by simp [go_sem])
 have c1_7 : w1.cell? ⟨w.heap.size, 7, none⟩ = some (.int .i64 l) := (hb1.cell (by simp)).trans (by simp [go_sem])
 have c1_8 : w1.cell? ⟨w.heap.size, 8, none⟩ = some (.int .i64 d) := (hb1.cell (by simp)).trans (by simp [go_sem])
 have c1_9 : w1.cell? ⟨w.heap.size, 9, none⟩ = some (.int .i64 n) := (hb1.cell (by simp)).trans (by simp [go_sem])
 have l1 : w.heap.size < w1.heap.size := World.block_lt_of_cell? w1 _ c1_0
 clear hb1
 obtain ⟨ok, hok⟩ : ∃ ok, ok = nodeOkB (i, j, z, (a, b, s, m, l), d, n) := ⟨_, rfl⟩
 have HOK := Lib.hid hok.symm
 rw [← hok]
 clear hok
 cases ok
 · go_wp2_with fail
   go_ret
   exact ⟨ret_str (by rw [nodeS_no HOK.out]; rfl), HB1⟩
 have HB1 := Lib.hid HB1
 obtain ⟨o1, o2, o3, -, o5, o6⟩ := nodeOk_parts HOK.out
 dsimp only at o1 o2 o3 o5 o6
 obtain ⟨i, rfl⟩ : ∃ x : Nat, i = (x : Int) := ⟨i.toNat, by omega⟩
 obtain ⟨j, rfl⟩ : ∃ x : Nat, j = (x : Int) := ⟨j.toNat, by omega⟩
 obtain ⟨z, rfl⟩ : ∃ x : Nat, z = (x : Int) := ⟨z.toNat, by omega⟩
 obtain ⟨d, rfl⟩ : ∃ x : Nat, d = (x : Int) := ⟨d.toNat, by omega⟩
 obtain ⟨n, rfl⟩ : ∃ x : Nat, n = (x : Int) := ⟨n.toNat, by omega⟩
 have HNi : Hid (numS (i : Int) = decDigits i) := Lib.hid (by rw [numS_yes (by omega)]; simp)
 have HNj : Hid (numS (j : Int) = decDigits j) := Lib.hid (by rw [numS_yes (by omega)]; simp)
 have HNz : Hid (numS (z : Int) = decDigits z) := Lib.hid (by rw [numS_yes (by omega)]; simp)
 have HNd : Hid (numS (d : Int) = decDigits d) := Lib.hid (by rw [numS_yes (by omega)]; simp)
 have HNn : Hid (numS (n : Int) = decDigits n) := Lib.hid (by rw [numS_yes (by omega)]; simp)
 go_wp2_with fail
 apply wp_region_rg (by kernel_rfl) (false :: false :: false :: true :: true :: false :: false :: false :: true :: true :: true :: true :: true :: true :: true :: true :: true :: true :: true :: true :: true :: true :: true :: true :: true :: true :: true :: true :: true :: true :: true :: true :: true :: true :: false :: []) (some 9 :: some 10 :: some 11 :: some 12 :: some 13 :: some 14 :: some 15 :: some 16 :: some 17 :: some 18 :: some 19 :: some 20 :: some 21 :: some 22 :: some 23 :: some 24 :: some 25 :: some 26 :: some 27 :: some 28 :: some 29 :: some 30 :: some 31 :: some 8 :: some 32 :: some 33 :: some 3 :: some 4 :: []) ([] :: [0] :: [1] :: [] :: [3] :: [4] :: [] :: [6] :: [7] :: [] :: [9] :: [10] :: [11] :: [] :: [13] :: [14] :: [15] :: [] :: [17] :: [18] :: [19] :: [2, 5, 8, 12, 16, 20] :: [21] :: [22] :: [23] :: [23] :: [24] :: [25] :: []) (StP.is _ :: StP.is _ :: StP.is _ :: StP.is _ :: StP.is _ :: StP.is _ :: StP.is _ :: StP.is _ :: StP.is _ :: StP.is _ :: StP.is _ :: StP.is _ :: StP.is _ :: StP.is _ :: StP.is _ :: StP.is _ :: StP.is _ :: StP.is _ :: StP.is _ :: StP.is _ :: StP.is _ :: strsP (w1.heap.size) (nodeL ((i : Int), (j : Int), (z : Int), (a, b, s, m, l), (d : Int), (n : Int))) :: StP.is _ :: StP.is _ :: StP.is _ :: StP.is _ :: StP.is _ :: StP.is _ :: []) (by kernel_rfl)
 case hobs =>
  refine ⟨fun y w' hS hF K hK => ?_, ?_⟩
  · skip
    simp only [fillL, cond_true, cond_false, zG0, zG1, StP.is, Act.put, zS2, zS0, zS1, Nat.reduceAdd] at hK ⊢
    refine rg_yes (by kernel_rfl) ?_
    clear hF
    go_simp
    exact hK _ _ (Ext.refl _) rfl
  refine ⟨fun y w' hS hF K hK => ?_, ?_⟩
  · skip
    have e9 : y 9 = _ := hF.1
    simp only [fillL, cond_true, cond_false, zG0, zG1, StP.is, Act.put, zS2, zS0, zS1, Nat.reduceAdd, e9] at hK ⊢
    refine rg_yes (by kernel_rfl) ?_
    have qx0_ := (Below.cell hS l1).trans c1_0
    have qx1_ := (Below.cell hS l1).trans c1_1
    have qx2_ := (Below.cell hS l1).trans c1_2
    have qx3_ := (Below.cell hS l1).trans c1_3
    have qx4_ := (Below.cell hS l1).trans c1_4
    have qx5_ := (Below.cell hS l1).trans c1_5
    have qx6_ := (Below.cell hS l1).trans c1_6
    have qx7_ := (Below.cell hS l1).trans c1_7
    have qx8_ := (Below.cell hS l1).trans c1_8
    have qx9_ := (Below.cell hS l1).trans c1_9
    clear e9
    clear hF
    go_simp
    exact hK _ _ (Ext.refl _) rfl
  refine ⟨fun y w' hS hF K hK => ?_, ?_⟩
  · skip
    have e10 : y 10 = _ := hF.1
    simp only [fillL, cond_true, cond_false, zG0, zG1, StP.is, Act.put, zS2, zS0, zS1, Nat.reduceAdd, e10] at hK ⊢
    refine rg_yes (by kernel_rfl) ?_
    clear e10
    clear hF
    go_simp
    go_at_call 94
    refine (l6Dec_any i (by omega) w').mono ?_
    rw [← HNi.out]
    rintro e w'' ⟨rfl, hb9⟩
    exact hK _ _ hb9 rfl
  refine ⟨fun y w' hS hF K hK => ?_, ?_⟩
  · skip
    simp only [fillL, cond_true, cond_false, zG0, zG1, StP.is, Act.put, zS2, zS0, zS1, Nat.reduceAdd] at hK ⊢
    refine rg_yes (by kernel_rfl) ?_
    clear hF
    go_simp
    exact hK _ _ (Ext.refl _) rfl
  refine ⟨fun y w' hS hF K hK => ?_, ?_⟩
  · skip
    have e12 : y 12 = _ := hF.1
    simp only [fillL, cond_true, cond_false, zG0, zG1, StP.is, Act.put, zS2, zS0, zS1, Nat.reduceAdd, e12] at hK ⊢
    refine rg_yes (by kernel_rfl) ?_
    have qx0_ := (Below.cell hS l1).trans c1_0
    have qx1_ := (Below.cell hS l1).trans c1_1
    have qx2_ := (Below.cell hS l1).trans c1_2
    have qx3_ := (Below.cell hS l1).trans c1_3
    have qx4_ := (Below.cell hS l1).trans c1_4
    have qx5_ := (Below.cell hS l1).trans c1_5
    have qx6_ := (Below.cell hS l1).trans c1_6
    have qx7_ := (Below.cell hS l1).trans c1_7
    have qx8_ := (Below.cell hS l1).trans c1_8
    have qx9_ := (Below.cell hS l1).trans c1_9
    clear e12
    clear hF
    go_simp
    exact hK _ _ (Ext.refl _) rfl
  refine ⟨fun y w' hS hF K hK => ?_, ?_⟩
  · skip
    have e13 : y 13 = _ := hF.1
    simp only [fillL, cond_true, cond_false, zG0, zG1, StP.is, Act.put, zS2, zS0, zS1, Nat.reduceAdd, e13] at hK ⊢
    refine rg_yes (by kernel_rfl) ?_
    clear e13
    clear hF
    go_simp
    go_at_call 94
    refine (l6Dec_any j (by omega) w').mono ?_
    rw [← HNj.out]
    rintro e w'' ⟨rfl, hb9⟩
    exact hK _ _ hb9 rfl
  refine ⟨fun y w' hS hF K hK => ?_, ?_⟩
  · skip
    simp only [fillL, cond_true, cond_false, zG0, zG1, StP.is, Act.put, zS2, zS0, zS1, Nat.reduceAdd] at hK ⊢
    refine rg_yes (by kernel_rfl) ?_
    clear hF
    go_simp
    exact hK _ _ (Ext.refl _) rfl
  refine ⟨fun y w' hS hF K hK => ?_, ?_⟩
  · skip
    have e15 : y 15 = _ := hF.1
    simp only [fillL, cond_true, cond_false, zG0, zG1, StP.is, Act.put, zS2, zS0, zS1, Nat.reduceAdd, e15] at hK ⊢
    refine rg_yes (by kernel_rfl) ?_
    have qx0_ := (Below.cell hS l1).trans c1_0
    have qx1_ := (Below.cell hS l1).trans c1_1
    have qx2_ := (Below.cell hS l1).trans c1_2
    have qx3_ := (Below.cell hS l1).trans c1_3
    have qx4_ := (Below.cell hS l1).trans c1_4
    have qx5_ := (Below.cell hS l1).trans c1_5
    have qx6_ := (Below.cell hS l1).trans c1_6
    have qx7_ := (Below.cell hS l1).trans c1_7
    have qx8_ := (Below.cell hS l1).trans c1_8
    have qx9_ := (Below.cell hS l1).trans c1_9
    clear e15
    clear hF
    go_simp
    exact hK _ _ (Ext.refl _) rfl
  refine ⟨fun y w' hS hF K hK => ?_, ?_⟩
  · skip
    have e16 : y 16 = _ := hF.1
    simp only [fillL, cond_true, cond_false, zG0, zG1, StP.is, Act.put, zS2, zS0, zS1, Nat.reduceAdd, e16] at hK ⊢
    refine rg_yes (by kernel_rfl) ?_
    clear e16
    clear hF
    go_simp
    go_at_call 94
    refine (l6Dec_any z (by omega) w').mono ?_
    rw [← HNz.out]
    rintro e w'' ⟨rfl, hb9⟩
    exact hK _ _ hb9 rfl
  refine ⟨fun y w' hS hF K hK => ?_, ?_⟩
  · skip
    simp only [fillL, cond_true, cond_false, zG0, zG1, StP.is, Act.put, zS2, zS0, zS1, Nat.reduceAdd] at hK ⊢
    refine rg_yes (by kernel_rfl) ?_
    clear hF
    go_simp
    exact hK _ _ (Ext.refl _) rfl
  refine ⟨fun y w' hS hF K hK => ?_, ?_⟩
  · skip
    have e18 : y 18 = _ := hF.1
    simp only [fillL, cond_true, cond_false, zG0, zG1, StP.is, Act.put, zS2, zS0, zS1, Nat.reduceAdd, e18] at hK ⊢
    refine rg_yes (by kernel_rfl) ?_
    clear e18
    clear hF
    go_simp
    exact hK _ _ (Ext.refl _) rfl
  refine ⟨fun y w' hS hF K hK => ?_, ?_⟩
  · skip
    have e19 : y 19 = _ := hF.1
    simp only [fillL, cond_true, cond_false, zG0, zG1, StP.is, Act.put, zS2, zS0, zS1, Nat.reduceAdd, e19] at hK ⊢
    refine rg_yes (by kernel_rfl) ?_
    have qx0_ := (Below.cell hS l1).trans c1_0
    have qx1_ := (Below.cell hS l1).trans c1_1
    have qx2_ := (Below.cell hS l1).trans c1_2
    have qx3_ := (Below.cell hS l1).trans c1_3
    have qx4_ := (Below.cell hS l1).trans c1_4
    have qx5_ := (Below.cell hS l1).trans c1_5
    have qx6_ := (Below.cell hS l1).trans c1_6
    have qx7_ := (Below.cell hS l1).trans c1_7
    have qx8_ := (Below.cell hS l1).trans c1_8
    have qx9_ := (Below.cell hS l1).trans c1_9
    clear e19
    clear hF
    go_simp
    exact hK _ _ (Ext.refl _) rfl
  refine ⟨fun y w' hS hF K hK => ?_, ?_⟩
  · skip
    have e20 : y 20 = _ := hF.1
    simp only [fillL, cond_true, cond_false, zG0, zG1, StP.is, Act.put, zS2, zS0, zS1, Nat.reduceAdd, e20] at hK ⊢
    refine rg_yes (by kernel_rfl) ?_
    clear e20
    clear hF
    go_simp
    go_at_call 95
    refine (spPtrPut_any a b s m l w').mono ?_
    rintro e w'' ⟨rfl, hb9⟩
    exact hK _ _ hb9 rfl
  refine ⟨fun y w' hS hF K hK => ?_, ?_⟩
  · skip
    simp only [fillL, cond_true, cond_false, zG0, zG1, StP.is, Act.put, zS2, zS0, zS1, Nat.reduceAdd] at hK ⊢
    refine rg_yes (by kernel_rfl) ?_
    clear hF
    go_simp
    exact hK _ _ (Ext.refl _) rfl
  refine ⟨fun y w' hS hF K hK => ?_, ?_⟩
  · skip
    have e22 : y 22 = _ := hF.1
    simp only [fillL, cond_true, cond_false, zG0, zG1, StP.is, Act.put, zS2, zS0, zS1, Nat.reduceAdd, e22] at hK ⊢
    refine rg_yes (by kernel_rfl) ?_
    clear e22
    clear hF
    go_simp
    exact hK _ _ (Ext.refl _) rfl
  refine ⟨fun y w' hS hF K hK => ?_, ?_⟩
  · skip
    have e23 : y 23 = _ := hF.1
    simp only [fillL, cond_true, cond_false, zG0, zG1, StP.is, Act.put, zS2, zS0, zS1, Nat.reduceAdd, e23] at hK ⊢
    refine rg_yes (by kernel_rfl) ?_
    have qx0_ := (Below.cell hS l1).trans c1_0
    have qx1_ := (Below.cell hS l1).trans c1_1
    have qx2_ := (Below.cell hS l1).trans c1_2
    have qx3_ := (Below.cell hS l1).trans c1_3
    have qx4_ := (Below.cell hS l1).trans c1_4
    have qx5_ := (Below.cell hS l1).trans c1_5
    have qx6_ := (Below.cell hS l1).trans c1_6
    have qx7_ := (Below.cell hS l1).trans c1_7
    have qx8_ := (Below.cell hS l1).trans c1_8
    have qx9_ := (Below.cell hS l1).trans c1_9
    clear e23
    clear hF
    go_simp
    exact hK _ _ (Ext.refl _) rfl
  refine ⟨fun y w' hS hF K hK => ?_, ?_⟩
  · skip
    have e24 : y 24 = _ := hF.1
    simp only [fillL, cond_true, cond_false, zG0, zG1, StP.is, Act.put, zS2, zS0, zS1, Nat.reduceAdd, e24] at hK ⊢
    refine rg_yes (by kernel_rfl) ?_
    clear e24
    clear hF
    go_simp
    go_at_call 94
    refine (l6Dec_any d (by omega) w').mono ?_
    rw [← HNd.out]
    rintro e w'' ⟨rfl, hb9⟩
    exact hK _ _ hb9 rfl
  refine ⟨fun y w' hS hF K hK => ?_, ?_⟩
  · skip
    simp only [fillL, cond_true, cond_false, zG0, zG1, StP.is, Act.put, zS2, zS0, zS1, Nat.reduceAdd] at hK ⊢
    refine rg_yes (by kernel_rfl) ?_
    clear hF
    go_simp
    exact hK _ _ (Ext.refl _) rfl
  refine ⟨fun y w' hS hF K hK => ?_, ?_⟩
  · skip
    have e26 : y 26 = _ := hF.1
    simp only [fillL, cond_true, cond_false, zG0, zG1, StP.is, Act.put, zS2, zS0, zS1, Nat.reduceAdd, e26] at hK ⊢
    refine rg_yes (by kernel_rfl) ?_
    clear e26
    clear hF
    go_simp
    exact hK _ _ (Ext.refl _) rfl
  refine ⟨fun y w' hS hF K hK => ?_, ?_⟩
  · skip
    have e27 : y 27 = _ := hF.1
    simp only [fillL, cond_true, cond_false, zG0, zG1, StP.is, Act.put, zS2, zS0, zS1, Nat.reduceAdd, e27] at hK ⊢
    refine rg_yes (by kernel_rfl) ?_
    have qx0_ := (Below.cell hS l1).trans c1_0
    have qx1_ := (Below.cell hS l1).trans c1_1
    have qx2_ := (Below.cell hS l1).trans c1_2
    have qx3_ := (Below.cell hS l1).trans c1_3
    have qx4_ := (Below.cell hS l1).trans c1_4
    have qx5_ := (Below.cell hS l1).trans c1_5
    have qx6_ := (Below.cell hS l1).trans c1_6
    have qx7_ := (Below.cell hS l1).trans c1_7
    have qx8_ := (Below.cell hS l1).trans c1_8
    have qx9_ := (Below.cell hS l1).trans c1_9
    clear e27
    clear hF
    go_simp
    exact hK _ _ (Ext.refl _) rfl
  refine ⟨fun y w' hS hF K hK => ?_, ?_⟩
  · skip
    have e28 : y 28 = _ := hF.1
    simp only [fillL, cond_true, cond_false, zG0, zG1, StP.is, Act.put, zS2, zS0, zS1, Nat.reduceAdd, e28] at hK ⊢
    refine rg_yes (by kernel_rfl) ?_
    clear e28
    clear hF
    go_simp
    go_at_call 94
    refine (l6Dec_any n (by omega) w').mono ?_
    rw [← HNn.out]
    rintro e w'' ⟨rfl, hb9⟩
    exact hK _ _ hb9 rfl
  refine ⟨fun y w' hS hF K hK => ?_, ?_⟩
  · skip
    have e11 : y 11 = _ := hF.1
    have e14 : y 14 = _ := hF.2.1
    have e17 : y 17 = _ := hF.2.2.1
    have e21 : y 21 = _ := hF.2.2.2.1
    have e25 : y 25 = _ := hF.2.2.2.2.1
    have e29 : y 29 = _ := hF.2.2.2.2.2.1
    simp only [fillL, cond_true, cond_false, zG0, zG1, StP.is, Act.put, zS2, zS0, zS1, Nat.reduceAdd, e11, e14, e17, e21, e25, e29] at hK ⊢
    refine rg_yes (by kernel_rfl) ?_
    clear e11 e14 e17 e21 e25 e29
    clear hF
    go_simp
    exact hK _ _ (Ext.alloc _ _) ⟨_, _, _, rfl, rfl, StrsIn.lit (fs := nodeL ((i : Int), (j : Int), (z : Int), (a, b, s, m, l), (d : Int), (n : Int))) (Below.size hS) (heap_alloc_new _ _) rfl (by show 7 ≤ _; unfold maxLen; omega)⟩
  refine ⟨fun y w' hS hF K hK => ?_, ?_⟩
  · skip
    obtain ⟨Ae30, ce30, ne30, e30, hxe30, hIe30⟩ := hF.1
    have hne30 := Lib.hid hxe30; clear hxe30
    simp only [fillL, cond_true, cond_false, zG0, zG1, StP.is, Act.put, zS2, zS0, zS1, Nat.reduceAdd, e30] at hK ⊢
    refine rg_yes (by kernel_rfl) ?_
    clear e30
    clear hF
    go_simp
    have hq_ := hne30.out
    rw [hq_] at hK ⊢
    go_at_call 91
    refine (spFieldsPut_any _ _ (nodeL ((i : Int), (j : Int), (z : Int), (a, b, s, m, l), (d : Int), (n : Int))) w' hIe30.row (nodeL_big _) (by show 7 ≤ _; omega)).mono ?_
    rintro e w'' ⟨rfl, hb9⟩
    exact hK _ _ hb9 rfl
  refine ⟨fun y w' hS hF K hK => ?_, ?_⟩
  · skip
    have e31 : y 31 = _ := hF.1
    simp only [fillL, cond_true, cond_false, zG0, zG1, StP.is, Act.put, zS2, zS0, zS1, Nat.reduceAdd, e31] at hK ⊢
    refine rg_yes (by kernel_rfl) ?_
    clear e31
    clear hF
    go_simp
    exact hK _ _ (Ext.refl _) rfl
  refine ⟨fun y w' hS hF K hK => ?_, ?_⟩
  · skip
    have e8 : y 8 = _ := hF.1
    simp only [fillL, cond_true, cond_false, zG0, zG1, StP.is, Act.put, zS2, zS0, zS1, Nat.reduceAdd, e8] at hK ⊢
    refine rg_yes (by kernel_rfl) ?_
    clear e8
    clear hF
    go_simp
    exact hK _ _ (Ext.refl _) rfl
  refine ⟨fun y w' hS hF K hK => ?_, ?_⟩
  · skip
    have e8 : y 8 = _ := hF.1
    simp only [fillL, cond_true, cond_false, zG0, zG1, StP.is, Act.put, zS2, zS0, zS1, Nat.reduceAdd, e8] at hK ⊢
    refine rg_yes (by kernel_rfl) ?_
    clear e8
    clear hF
    go_simp
    exact hK _ _ (Ext.refl _) rfl
  refine ⟨fun y w' hS hF K hK => ?_, ?_⟩
  · skip
    have e32 : y 32 = _ := hF.1
    simp only [fillL, cond_true, cond_false, zG0, zG1, StP.is, Act.put, zS2, zS0, zS1, Nat.reduceAdd, e32] at hK ⊢
    refine rg_yes (by kernel_rfl) ?_
    clear e32
    clear hF
    go_simp
    exact hK _ _ (Ext.refl _) rfl
  refine ⟨fun y w' hS hF K hK => ?_, ?_⟩
  · skip
    have e33 : y 33 = _ := hF.1
    simp only [fillL, cond_true, cond_false, zG0, zG1, StP.is, Act.put, zS2, zS0, zS1, Nat.reduceAdd, e33] at hK ⊢
    refine rg_yes (by kernel_rfl) ?_
    clear e33
    clear hF
    go_simp
    exact hK _ _ (Ext.refl _) rfl
  trivial
 intro y w9 hS hF
 have e3 : y 3 = _ := hF.2.2.2.2.2.2.2.2.2.2.2.2.2.2.2.2.2.2.2.2.2.2.2.2.2.2.1
 have HBB : Hid (Below w.heap.size w w9) := Lib.hid (HB1.out.trans (Below.mono hS HB1.out.size))
 clear hS
 clear hF
 simp only [fillL, cond_true, cond_false, Nat.reduceAdd, e3]
 clear e3 c1_0 c1_1 c1_2 c1_3 c1_4 c1_5 c1_6 c1_7 c1_8 c1_9
 go_wp2_with fail
 go_ret
 exact ⟨ret_str (by rw [nodeS_yes HOK.out]), HBB.out⟩
end Go.Proofs.YtjnhiiaejeaikaaGreatDoor
