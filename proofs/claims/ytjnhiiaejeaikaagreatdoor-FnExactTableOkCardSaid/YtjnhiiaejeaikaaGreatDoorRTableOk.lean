/- Tables: table and TableOk of the program, l11Ok and TableOk of the reference. Condition: the library's variables lie as the row says; a list of what was given up has at most 2000000 members. -/
import Derived.Test.YtjnhiiaejeaikaaGreatDoorRows
import Derived.Test.YtjnhiiaejeaikaaGreatDoorRLib
import Derived.ProofKit
import Derived.OpenShut
import Derived.Lib.SmallJoins
import Derived.ShutString
import Derived.ChangeOld
import Derived.Below
import Derived.Test.YtjnhiiaejeaikaaGreatDoorRNumGet
import Derived.Shelf.Vars
import Derived.Stop.LaidErr
import Derived.HandedShaped
import Derived.Handed
import Derived.Test.YtjnhiiaejeaikaaGreatDoorRTypes
import Derived.Test.YtjnhiiaejeaikaaGreatDoorChecked
import Derived.Test.YtjnhiiaejeaikaaGreatDoorRNodes
import Derived.Test.YtjnhiiaejeaikaaGreatDoorRTexts3
import Derived.Test.YtjnhiiaejeaikaaGreatDoorRStoreOkS
set_option linter.unnecessarySimpa false
set_option linter.unusedSimpArgs false
set_option linter.unusedVariables false
namespace Go.Proofs.YtjnhiiaejeaikaaGreatDoor
open Go.ChangeShapes Go.WideShapes Go.ChangeAt Go.RowKit
open Go.ChangeMaps (open_string shut_string)
theorem own_knob : ownKnob Tryz.prog.godebug = none := by kernel_rfl
theorem laid_out : laidOutB Tryz.prog = true := by kernel_rfl
end Go.Proofs.YtjnhiiaejeaikaaGreatDoor
namespace Go.Proofs.YtjnhiiaejeaikaaGreatDoor
open Go Go.RowKit Go.ChangeShapes Go.WideShapes Go.ChangeAt
theorem starES : "*" ++ "errors.errorString" = "*errors.errorString" := by decide
theorem rowES (u : TypeId) (h : Tryz.prog.typeName? 3 u = some "*errors.errorString") : u = 177 :=
 typeName_ptr_named (nm := "errors.errorString") (by rw [starES]; kernel_rfl) (by kernel_rfl) (by decide) u (by rw [starES]; exact h)
theorem errSyntax_of {W : World} {r : List (String × DataW Unit)} (h : laidMet Tryz.prog (("strconv.ErrSyntax", .iface "*errors.errorString" (.ptr (.agg [.lit (.string [105, 110, 118, 97, 108, 105, 100, 32, 115, 121, 110, 116, 97, 120])]))) :: r) W) :
 ∃ tp p, W.var? Tryz.prog "strconv.ErrSyntax" = some #[.iface tp p] := by
 obtain ⟨a0, s0, hv0, -, -, -⟩ := laid_sentinel (g := 1) (ti := 130) h (by kernel_rfl) (by kernel_rfl) Tryz.underlying130 rowES Tryz.underlying177 Tryz.underlying179 rfl rfl Tryz.underlying9 (by kernel_rfl) (by kernel_rfl)
 exact ⟨_, _, hv0⟩
set_option maxRecDepth 100000 in
theorem maxLen_of {W : World} (h : W.ShapedOpen Tryz.prog) : ∃ m, W.cell? ⟨0, 0, none⟩ = some (.int .i64 m) :=
 cell_of_shapedOpen_int (t := 3) (zero := #[.int .i64 0]) h (of_decide_eq_true (by kernel_rfl)) (by kernel_rfl) rfl (by kernel_rfl) (by kernel_rfl) Tryz.underlying3
theorem returns_both {H : Type} {enc : TypeId × Value → H} {a : Assume} {C : Checked} {os : Os} {f : FuncId} {fn : Func} {s : ChangeSpec} {conds : List PathCond} {apart fresh handsOn again : Bool} {X : World → Array Value → Prop}
 (hX : ∀ (w w' : World) (args : Array Value), w.heap = w'.heap → X w args → X w' args)
 (own : ownKnob C.prog.godebug = none) (started : os.Started) (noInit : C.prog.inits.idxOf? f = none) (hfn : C.prog.funcs[f]? = some fn)
 (witness : ∃ (w : World) (tape : Tape) (i : Input), w.os = os ∧ (w.forCall tape i).Shaped C.prog ∧ i.vars = [] ∧ Input.okWide C.prog (w.forCall tape i) .any w.heap.size f i ∧
   ((s.pre enc C.prog fn conds apart (w.forCall tape i).memory i.args ∧ X (w.forCall tape i).memory i.args) ∧ sizedMet enc C.prog fn (OpenSpec.ofChange s) apart (w.forCall tape i).memory i.args) ∧ a.holds C.prog (lone (Frame.enter C.prog f i.args .normal) [] (w.forCall tape i)))
 (contract : ∀ (W : World) (base : Nat) (args : Array Value) (ds gs : List (DataW H)) (before : List MemPlace),
   (∀ (j : Nat) t v, fn.params[j]? = some t → args[j]? = some v → Value.okWide C.prog W .any base t v) →
   DataW.Whole enc C.prog fn.params.toList s.vars apart W args.toList ds gs before →
   conds.all (PathCond.test C.prog ⟨fn.params.toList, ds, s.plain.varTypes C.prog, gs⟩) = true → X W args → W.ShapedOpen C.prog →
   Calls C.prog f args W fun e W' => ∃ v, e = .returned v ∧ s.post enc C.prog fn apart fresh handsOn again W args v W') :
 ReturnsInHanded a C os f .any (fun w args => (s.pre enc C.prog fn conds apart w args ∧ X w args) ∧ sizedMet enc C.prog fn (OpenSpec.ofChange s) apart w args) (s.post enc C.prog fn apart fresh handsOn again) := by
 refine returnsInHanded_of_calls own started noInit witness ?_
 intro w tape i _ hsh _ hok hpre hholds
 obtain ⟨_, _, _, fn', hfn', _, _, _, _, hval⟩ := hok
 have e : fn' = fn := Option.some.inj (hfn'.symm.trans hfn)
 subst e
 obtain ⟨⟨⟨ds, gs, before, hw, hc⟩, hx⟩, hz⟩ := hpre
 have hw' := DataW.Whole.of_heap (w' := w.forCall tape i) (by rfl) hw
 refine (contract (w.forCall tape i) w.heap.size i.args ds gs before hval hw' hc (hX _ _ _ (by rfl) hx) hsh).mono fun e W' ⟨v, he, hp⟩ => ?_
 subst he
 exact ChangeSpec.post_blind hp
end Go.Proofs.YtjnhiiaejeaikaaGreatDoor
namespace Go.Proofs.YtjnhiiaejeaikaaGreatDoor
section
open Go.RowKit
set_option maxRecDepth 100000 in
set_option maxHeartbeats 2000000 in
theorem eqStringS_yes (A B : Option Addr) (n c m d : Nat) (xs : List ByteArray) (w : World) (lo hi lo' hi' : Nat) (h : SliceR StrR 1 w lo hi A n c xs) (h' : SliceR StrR 1 w lo' hi' B m d xs) :
 Calls Tryz.prog 33 #[.slice A n c, .slice B m d] w fun e w' => e = .returned (.bool true) ∧ Below w.heap.size w w' := by
 obtain rfl : m = n := by have := h.len; have := h'.len; omega
 have hn := h.max
 have hl := Lib.hid h.len
 have H := Lib.hid h
 have H' := Lib.hid h'
 clear h h'
 go_enter Tryz.func33, Tryz.ntmps33
 go_wp2_with fail
 go_loopw [5] (fun i wr => ∃ k : Nat, k ≤ m ∧ i = .int .i64 k ∧ Below w.heap.size w wr) (fun i _ => m - (intOf i).toNat)
 case atStart => exact ⟨0, Nat.zero_le _, rfl, Below.refl _ _⟩
 obtain ⟨k, hk, rfl, hB⟩ := hrel
 by_cases hlt : k < m
 · obtain ⟨x, hx⟩ : ∃ x, xs[k]? = some x := ⟨xs[k]'(by rw [hl.out]; exact hlt), List.getElem?_eq_getElem _⟩
   have g := SliceR.below H.out hB (StrR.below hB H.out.lo_le)
   have g' := SliceR.below H'.out hB (StrR.below hB H'.out.lo_le)
   obtain ⟨b, off, rfl, _, _, bl, hc⟩ := g.at_ (by omega)
   obtain ⟨b', off', rfl, _, _, bl', hc'⟩ := g'.at_ (by omega)
   obtain ⟨cs, hcl, hcc, hr⟩ := hc k x hx
   obtain ⟨cs', hcl', hcc', hr'⟩ := hc' k x hx
   clear hc hc' hx g g'
   have G := Lib.hid hr
   have G' := Lib.hid hr'
   obtain ⟨rfl, _⟩ := hr; obtain ⟨rfl, _⟩ := hr'
   clear G G'
   have hr := 0; have hr' := 0
   have q0 := hcc 0 _ rfl
   have r0 := hcc' 0 _ rfl
   simp only [Nat.add_zero, Nat.mul_one] at q0 r0
   clear hcc hcc' hcl hcl' hr hr'
   have hhi := H.out.lo_le
   have hhi' := H'.out.lo_le
   have hi1 : hi ≤ wr.heap.size := Nat.le_trans hhi hB.size
   have hi2 : hi' ≤ wr.heap.size := Nat.le_trans hhi' hB.size
   clear hhi hhi'
   have k0 : (0 : Int) ≤ (k : Int) := by omega
   have k1 : (k : Int) < (m : Int) := by omega
   go_wp2_with fail
   apply wp_region_rg (by kernel_rfl) (false :: false :: false :: false :: false :: false :: false :: false :: false :: false :: false :: false :: false :: false :: false :: false :: false :: true :: true :: true :: true :: true :: true :: true :: true :: true :: []) [some 17, some 18, some 19, some 20, some 21, some 22, some 23, some 24, some 25] [[], [], [0, 1], [2], [], [], [4, 5], [6], [3, 7]] [StP.is _, StP.is _, StP.is _, StP.is _, StP.is _, StP.is _, StP.is _, StP.is _, StP.is _] (by kernel_rfl)
   case hobs =>
    refine ⟨fun y w' hS hF K hK => ?_, ?_⟩
    · skip
      simp only [fillL, cond_true, cond_false, zG0, zG1, StP.is, Act.put, zS2, zS0, zS1, Nat.reduceAdd] at hK ⊢
      refine rg_yes (by kernel_rfl) ?_
      clear hF
      go_simp
      exact hK _ _ (Ext.refl _) rfl
    refine ⟨fun y w' hS hF K hK => ?_, ?_⟩
    · skip
      simp only [fillL, cond_true, cond_false, zG0, zG1, StP.is, Act.put, zS2, zS0, zS1, Nat.reduceAdd] at hK ⊢
      refine rg_yes (by kernel_rfl) ?_
      clear hF
      go_simp
      exact hK _ _ (Ext.refl _) rfl
    refine ⟨fun y w' hS hF K hK => ?_, ?_⟩
    · skip
      have e17 : y 17 = _ := hF.1
      have e18 : y 18 = _ := hF.2.1
      simp only [fillL, cond_true, cond_false, zG0, zG1, StP.is, Act.put, zS2, zS0, zS1, Nat.reduceAdd, e17, e18] at hK ⊢
      refine rg_yes (by kernel_rfl) ?_
      clear e17 e18
      clear hF
      go_simp
      exact hK _ _ (Ext.refl _) rfl
    refine ⟨fun y w' hS hF K hK => ?_, ?_⟩
    · skip
      have e19 : y 19 = _ := hF.1
      simp only [fillL, cond_true, cond_false, zG0, zG1, StP.is, Act.put, zS2, zS0, zS1, Nat.reduceAdd, e19] at hK ⊢
      refine rg_yes (by kernel_rfl) ?_
      have qx0_ := (Below.cell hS bl).trans q0
      have qx1_ := (Below.cell hS bl').trans r0
      clear e19
      clear hF
      go_simp
      exact hK _ _ (Ext.refl _) rfl
    refine ⟨fun y w' hS hF K hK => ?_, ?_⟩
    · skip
      simp only [fillL, cond_true, cond_false, zG0, zG1, StP.is, Act.put, zS2, zS0, zS1, Nat.reduceAdd] at hK ⊢
      refine rg_yes (by kernel_rfl) ?_
      clear hF
      go_simp
      exact hK _ _ (Ext.refl _) rfl
    refine ⟨fun y w' hS hF K hK => ?_, ?_⟩
    · skip
      simp only [fillL, cond_true, cond_false, zG0, zG1, StP.is, Act.put, zS2, zS0, zS1, Nat.reduceAdd] at hK ⊢
      refine rg_yes (by kernel_rfl) ?_
      clear hF
      go_simp
      exact hK _ _ (Ext.refl _) rfl
    refine ⟨fun y w' hS hF K hK => ?_, ?_⟩
    · skip
      have e21 : y 21 = _ := hF.1
      have e22 : y 22 = _ := hF.2.1
      simp only [fillL, cond_true, cond_false, zG0, zG1, StP.is, Act.put, zS2, zS0, zS1, Nat.reduceAdd, e21, e22] at hK ⊢
      refine rg_yes (by kernel_rfl) ?_
      clear e21 e22
      clear hF
      go_simp
      exact hK _ _ (Ext.refl _) rfl
    refine ⟨fun y w' hS hF K hK => ?_, ?_⟩
    · skip
      have e23 : y 23 = _ := hF.1
      simp only [fillL, cond_true, cond_false, zG0, zG1, StP.is, Act.put, zS2, zS0, zS1, Nat.reduceAdd, e23] at hK ⊢
      refine rg_yes (by kernel_rfl) ?_
      have qx0_ := (Below.cell hS bl).trans q0
      have qx1_ := (Below.cell hS bl').trans r0
      clear e23
      clear hF
      go_simp
      exact hK _ _ (Ext.refl _) rfl
    refine ⟨fun y w' hS hF K hK => ?_, ?_⟩
    · skip
      have e20 : y 20 = _ := hF.1
      have e24 : y 24 = _ := hF.2.1
      simp only [fillL, cond_true, cond_false, zG0, zG1, StP.is, Act.put, zS2, zS0, zS1, Nat.reduceAdd, e20, e24] at hK ⊢
      refine rg_yes (by kernel_rfl) ?_
      clear e20 e24
      clear hF
      go_simp
      exact hK _ _ (Ext.refl _) rfl
    trivial
   intro y w2 hX hF
   have e25 : y 25 = _ := hF.2.2.2.2.2.2.2.2.1
   clear hF
   simp only [fillL, cond_true, cond_false, Nat.reduceAdd, e25]
   clear e25
   have hB2 : Below w.heap.size w w2 := hB.trans (Below.mono hX hB.size)
   clear hX hB
   go_wp2_with fail
   go_roundw
   case rel => exact ⟨k + 1, by omega, by go_num, hB2⟩
   simp [intOf]; omega
 go_wp2_with fail
 go_ret
 exact ⟨rfl, hB⟩
end
section
open Go.RowKit
end
end Go.Proofs.YtjnhiiaejeaikaaGreatDoor
namespace Go.Proofs.YtjnhiiaejeaikaaGreatDoor
open Go.RowKit
set_option maxRecDepth 100000 in
set_option maxHeartbeats 2000000 in
theorem toPtrF_any (cs : List Value) (x : PtrD) (w w0 : World) (lo hi : Nat) (h : PtrR w0 lo hi cs x) :
 Calls Tryz.prog 31 #[.agg cs.toArray] w fun e w' => e = .returned (.agg cs.toArray) ∧ Below w.heap.size w w' := by
 obtain ⟨at_, birth_, size_, sum_, level_⟩ := x
 obtain rfl := h
 show Calls Tryz.prog 31 #[.agg #[.int .i64 at_, .int .i64 birth_, .int .i64 size_, .int .i64 sum_, .int .i64 level_]] w _
 go_enter Tryz.func31, Tryz.ntmps31
 go_wp2
 exact bodyPost_ret (v := .agg #[.int .i64 at_, .int .i64 birth_, .int .i64 size_, .int .i64 sum_, .int .i64 level_]) (by simp [results, Tryz.results31, go_sem]) rfl ⟨rfl, by repeat (first | exact Below.refl _ _ | assumption | refine Below.setCell ?_ (by simp <;> omega) _ | refine Below.alloc ?_ (by simp <;> omega) _)⟩
theorem info_PtrS : (Tryz.prog.info? 41).map (fun i => (i.zero, i.size, i.bytes)) = some (some (.agg #[.int .i64 0, .int .i64 0, .int .i64 0, .int .i64 0, .int .i64 0]), 5, 40) := by kernel_rfl
theorem make_PtrS (n : Nat) (hn : n ≤ 1048576) (w : World) :
 (Instr.makeSlice 37 (.int .i64 (n : Int)) (.int .i64 (n : Int))).run Tryz.prog w = .ok (.slice (some ⟨w.heap.size, 0, none⟩) n n) (w.alloc (.cells (madeCells #[.int .i64 0, .int .i64 0, .int .i64 0, .int .i64 0, .int .i64 0] (n * 5)) 41)) := by
 obtain ⟨i, hi, hz, hs, hb⟩ := info_parts info_PtrS
 have hr := run_make (P := Tryz.prog) w 37 41 i (.agg #[.int .i64 0, .int .i64 0, .int .i64 0, .int .i64 0, .int .i64 0]) Tryz.underlying37 hi hz .i64 .i64 n n (by omega) (by omega) (by rw [hb]; omega) (by omega)
 simp only [Int.toNat_natCast, hs] at hr
 exact hr
set_option maxRecDepth 100000 in
set_option maxHeartbeats 2000000 in
theorem toPtrS_any (A : Option Addr) (n c : Nat) (xs : List PtrD) (w : World) (lo hi : Nat) (h : SliceR PtrR 5 w lo hi A n c xs) (hz : xs.length ≤ 1048576) :
 Calls Tryz.prog 30 #[.slice A n c] w (NewSl PtrR 5 w n xs) := by
 have hl := Lib.hid h.len
 have hn : n ≤ 1048576 := by have := h.len; omega
 have HZ := Lib.hid hz
 clear hz
 have hmk := make_PtrS n hn w
 have H := Lib.hid h
 clear h
 go_enter Tryz.func30, Tryz.ntmps30
 go_wp2_with fail
 have hrow : ∃ cur, (w.alloc (.cells (madeCells #[.int .i64 0, .int .i64 0, .int .i64 0, .int .i64 0, .int .i64 0] (n * 5)) 41)).heap[w.heap.size]? = some (.cells cur 41 (0, 0)) ∧ cur.size = n * 5 := ⟨_, heap_alloc_new w _, size_madeCells _ _⟩
 generalize hW : w.alloc (.cells (madeCells #[.int .i64 0, .int .i64 0, .int .i64 0, .int .i64 0, .int .i64 0] (n * 5)) 41) = w1 at *
 have hb1 : Below w.heap.size w w1 := by rw [← hW]; exact bel1
 have hs1 : w.heap.size < w1.heap.size := by rw [← hW]; simp
 clear hW hmk
 have rel0 : ∃ cur, w1.heap[w.heap.size]? = some (.cells cur 41 (0, 0)) ∧ cur.size = n * 5 ∧ Hid (RowR PtrR 5 w1 (w.heap.size + 1) w1.heap.size cur 0 xs) := by
  obtain ⟨cur, h1, h2⟩ := hrow
  exact ⟨cur, h1, h2, Lib.hid (fun j x hj => absurd hj (by omega))⟩
 clear hrow
 go_loopw [4] (fun i wr => ∃ k : Nat, k ≤ n ∧ i = .int .i64 k ∧ Below w.heap.size w wr ∧ w.heap.size < wr.heap.size ∧ ∃ cur, wr.heap[w.heap.size]? = some (.cells cur 41 (0, 0)) ∧ cur.size = n * 5 ∧ Hid (RowR PtrR 5 wr (w.heap.size + 1) wr.heap.size cur k xs)) (fun i _ => n - (intOf i).toNat)
 case atStart => exact ⟨0, Nat.zero_le _, rfl, hb1, hs1, rel0⟩
 clear rel0 hb1 hs1
 obtain ⟨k, hk, rfl, hB, hS, cur, hg, hcs, HR⟩ := hrel
 by_cases hlt : k < n
 · obtain ⟨x, hx⟩ : ∃ x, xs[k]? = some x := ⟨xs[k]'(by rw [hl.out]; exact hlt), List.getElem?_eq_getElem _⟩
   obtain ⟨b, off, rfl, _, _, bl, hc⟩ := (SliceR.below H.out hB (PtrR.below hB H.out.lo_le)).at_ (by omega)
   obtain ⟨cs, hcl, hcc, hr⟩ := hc k x hx
   clear hc
   have hhi : hi ≤ wr.heap.size := Nat.le_trans H.out.lo_le hB.size
   obtain ⟨at_, birth_, size_, sum_, level_⟩ := x
   have hr0 := hr
   obtain rfl := hr0
   have G := Lib.hid hr
   have q0 := hcc 0 _ rfl
   have q1 := hcc 1 _ rfl
   have q2 := hcc 2 _ rfl
   have q3 := hcc 3 _ rfl
   have q4 := hcc 4 _ rfl
   simp only [Nat.add_zero] at q0
   clear hcc hcl hr
   have k0 : (0 : Int) ≤ (k : Int) := by omega
   have k1 : (k : Int) < (n : Int) := by omega
   have HX := Lib.hid hx
   clear hx
   have HG := Lib.hid hg
   have hkn : k * 5 + 5 ≤ cur.size := by rw [hcs]; omega
   have HC := Lib.hid hcs
   clear hg hcs
   go_wp2_with fail
   refine (toPtrF_any [.int .i64 at_, .int .i64 birth_, .int .i64 size_, .int .i64 sum_, .int .i64 level_] _ _ wr _ _ G.out).mono ?_
   rintro e w2 ⟨rfl, hb2⟩
   have hg2 := (hb2.block _ hS).trans HG.out
   have hs2 : w.heap.size < w2.heap.size := Nat.lt_of_lt_of_le hS hb2.size
   have hB2 : Below w.heap.size w w2 := hB.trans (hb2.mono hB.size)
   have HK := Lib.hid hb2
   clear hb2 bl q0 q1 q2 q3 q4
   have t0 : w2.cell? ⟨w.heap.size, k * 5, none⟩ = some _ := block_cell hg2 (by omega)
   have f0 : w2.frozen? ⟨w.heap.size, k * 5, none⟩ = false := block_free hg2 _
   have t1 : w2.cell? ⟨w.heap.size, k * 5 + 1, none⟩ = some _ := block_cell hg2 (by omega)
   have f1 : w2.frozen? ⟨w.heap.size, k * 5 + 1, none⟩ = false := block_free hg2 _
   have t2 : w2.cell? ⟨w.heap.size, k * 5 + 2, none⟩ = some _ := block_cell hg2 (by omega)
   have f2 : w2.frozen? ⟨w.heap.size, k * 5 + 2, none⟩ = false := block_free hg2 _
   have t3 : w2.cell? ⟨w.heap.size, k * 5 + 3, none⟩ = some _ := block_cell hg2 (by omega)
   have f3 : w2.frozen? ⟨w.heap.size, k * 5 + 3, none⟩ = false := block_free hg2 _
   have t4 : w2.cell? ⟨w.heap.size, k * 5 + 4, none⟩ = some _ := block_cell hg2 (by omega)
   have f4 : w2.frozen? ⟨w.heap.size, k * 5 + 4, none⟩ = false := block_free hg2 _
   have HG2 := Lib.hid hg2
   clear hg2
   generalize cur[k * 5]'_ = z0 at t0
   generalize cur[k * 5 + 1]'_ = z1 at t1
   generalize cur[k * 5 + 2]'_ = z2 at t2
   generalize cur[k * 5 + 3]'_ = z3 at t3
   generalize cur[k * 5 + 4]'_ = z4 at t4
   go_wp2_with fail
   go_roundw
   case rel =>
    have hput : putAt cur (k * 5) [.int .i64 at_, .int .i64 birth_, .int .i64 size_, .int .i64 sum_, .int .i64 level_] = (((((cur.setIfInBounds (k * 5) (.int .i64 at_)).setIfInBounds (k * 5 + 1) (.int .i64 birth_)).setIfInBounds (k * 5 + 2) (.int .i64 size_)).setIfInBounds (k * 5 + 3) (.int .i64 sum_)).setIfInBounds (k * 5 + 4) (.int .i64 level_)) := by simp only [putAt, Nat.add_assoc, Nat.reduceAdd]
    refine ⟨k + 1, by omega, by go_num, Below.setCell (p := ⟨w.heap.size, _, none⟩) (Below.setCell (p := ⟨w.heap.size, _, none⟩) (Below.setCell (p := ⟨w.heap.size, _, none⟩) (Below.setCell (p := ⟨w.heap.size, _, none⟩) (Below.setCell (p := ⟨w.heap.size, _, none⟩) (hB2) (Nat.le_refl _) _) (Nat.le_refl _) _) (Nat.le_refl _) _) (Nat.le_refl _) _) (Nat.le_refl _) _, by simpa using hs2, (((((cur.setIfInBounds (k * 5) (.int .i64 at_)).setIfInBounds (k * 5 + 1) (.int .i64 birth_)).setIfInBounds (k * 5 + 2) (.int .i64 size_)).setIfInBounds (k * 5 + 3) (.int .i64 sum_)).setIfInBounds (k * 5 + 4) (.int .i64 level_)), block_set (block_set (block_set (block_set (block_set (HG2.out))))), (by rw [← hput, putAt_size]; exact HC.out), Lib.hid ?_⟩
    rw [← hput]
    refine RowR.step (n := n) HR.out HX.out rfl HC.out hlt ?_ ?_
    · exact G.out
    exact fun _ _ h => h
   simp [intOf]; omega
 obtain rfl : k = n := by omega
 have hfin := RowR.slice (lo := w.heap.size) (hi := wr.heap.size) (c := k) (fun j x hj hx => (HR.out j x hj hx).imp fun cs h => ⟨h.1, h.2.1, PtrR.wide (Nat.le_succ _) (Nat.le_refl _) (Nat.le_refl _) _ _ h.2.2⟩) hl.out (by unfold maxLen; omega) (Nat.le_refl _) hg (Nat.le_refl _) hS (Nat.le_refl _)
 have HF := Lib.hid hfin
 clear hfin HR hg hcs
 go_wp2_with fail
 go_ret
 exact ⟨_, _, rfl, HF.out, hB⟩
set_option maxRecDepth 100000 in
set_option maxHeartbeats 2000000 in
theorem toTreeF_any (cs : List Value) (x : TreeD) (w w0 : World) (lo hi : Nat) (h : TreeR w0 lo hi cs x) :
 Calls Tryz.prog 10 #[.agg cs.toArray] w fun e w' => e = .returned (.agg cs.toArray) ∧ Below w.heap.size w w' := by
 obtain ⟨⟨root_at_, root_birth_, root_size_, root_sum_, root_level_⟩, depth_, many_⟩ := x
 obtain rfl := h
 show Calls Tryz.prog 10 #[.agg #[.int .i64 root_at_, .int .i64 root_birth_, .int .i64 root_size_, .int .i64 root_sum_, .int .i64 root_level_, .int .i64 depth_, .int .i64 many_]] w _
 go_enter Tryz.func10, Tryz.ntmps10
 go_wp2
 refine bodyPost_ret (v := .agg #[.int .i64 root_at_, .int .i64 root_birth_, .int .i64 root_size_, .int .i64 root_sum_, .int .i64 root_level_]) (by simp [results, Tryz.results31, go_sem]) rfl ?_
 go_wp2
 exact bodyPost_ret (v := .agg #[.int .i64 root_at_, .int .i64 root_birth_, .int .i64 root_size_, .int .i64 root_sum_, .int .i64 root_level_, .int .i64 depth_, .int .i64 many_]) (by simp [results, Tryz.results10, go_sem]) rfl ⟨rfl, by repeat (first | exact Below.refl _ _ | assumption | refine Below.setCell ?_ (by simp <;> omega) _ | refine Below.alloc ?_ (by simp <;> omega) _)⟩
theorem toIntS_new (A : Option Addr) (n c : Nat) (xs : List Int) (w : World) (lo hi : Nat) (h : SliceR IntR 1 w lo hi A n c xs) (hz : xs.length ≤ 1048576) :
 Calls Tryz.prog 49 #[.slice A n c] w (NewSl IntR 1 w n xs) := by
 have hl := h.len
 refine (toIntS_any A n c xs w h.ints (by omega)).mono ?_
 rintro e w' ⟨A', c', S, rfl, ho, hS, hb⟩
 exact ⟨A', c', rfl, ho.sliceR (fun k hk => ⟨hS k hk, ho.lt k hk⟩) (Nat.le_refl _), hb⟩
end Go.Proofs.YtjnhiiaejeaikaaGreatDoor
namespace Go.Proofs.YtjnhiiaejeaikaaGreatDoor
open Go.RowKit
set_option maxRecDepth 100000 in
set_option maxHeartbeats 2000000 in
theorem szIntSR_any (A : Option Addr) (n c : Nat) (xs : List Int) (w : World) (lo hi : Nat) (left : Int) (h : SliceR IntR 1 w lo hi A n c xs) (h0 : 0 ≤ left) (h1 : left ≤ 1048576) :
 Calls Tryz.prog 46 #[.slice A n c, .int .i64 left] w (SzPost (xs.length) left w) := by
 have hl := h.len
 have hn := h.max
 have HL := Lib.hid hl
 have H := Lib.hid h
 clear h hl
 go_enter Tryz.func46, Tryz.ntmps46
 by_cases q1 : left - (n : Int) < 0
 · go_wp2_with fail
   go_ret
   exact ⟨-1, rfl, by omega, by omega, fun h => by omega, Below.refl _ _⟩
 go_wp2_with fail
 go_ret
 exact ⟨left - (n : Int), rfl, by omega, by omega, fun _ => by have := HL.out; omega, Below.refl _ _⟩
set_option maxRecDepth 100000 in
set_option maxHeartbeats 2000000 in
theorem szPtrS_any (A : Option Addr) (n c : Nat) (xs : List PtrD) (w : World) (lo hi : Nat) (left : Int) (h : SliceR PtrR 5 w lo hi A n c xs) (h0 : 0 ≤ left) (h1 : left ≤ 1048576) :
 Calls Tryz.prog 26 #[.slice A n c, .int .i64 left] w (SzPost (xs.length) left w) := by
 have hl := h.len
 have hn := h.max
 have HL := Lib.hid hl
 have H := Lib.hid h
 clear h hl
 go_enter Tryz.func26, Tryz.ntmps26
 by_cases q1 : left - (n : Int) < 0
 · go_wp2_with fail
   go_ret
   exact ⟨-1, rfl, by omega, by omega, fun h => by omega, Below.refl _ _⟩
 go_wp2_with fail
 go_ret
 exact ⟨left - (n : Int), rfl, by omega, by omega, fun _ => by have := HL.out; omega, Below.refl _ _⟩
end Go.Proofs.YtjnhiiaejeaikaaGreatDoor
namespace Go.Proofs.YtjnhiiaejeaikaaGreatDoor
open Go Go.Lib Go.RowKit
open Classical in
noncomputable def tableG (x : StoreD) (t : TreeD) : Option (List (Option NodeD)) := if storeOk x = true then tableF x t else none
theorem tableG_no {x : StoreD} {t : TreeD} (h : storeOk x = false) : tableG x t = none := by unfold tableG; rw [if_neg (by simp [h])]
theorem tableG_yes {x : StoreD} {t : TreeD} (h : storeOk x = true) : tableG x t = tableF x t := by unfold tableG; rw [if_pos h]
theorem storeOk_rows {x : StoreD} (h : storeOk x = true) : x.1.length = 64 ∧ (∀ r ∈ x.1, r.size ≤ 128) ∧ 0 ≤ x.2.2.1 := by
 have k := storeOk_of h
 refine ⟨k.len, fun r hr => ?_, by have := k.txg; unfold inB at this; simp at this; omega⟩
 obtain ⟨i, hi, rfl⟩ := List.mem_iff_getElem.1 hr
 have := (k.rows i (by rw [← k.len]; exact hi)).1
 rwa [List.getD_eq_getElem?_getD, List.getElem?_eq_getElem hi] at this
def SmallS (x : StoreD) : Prop := x.2.2.2.1.length ≤ 2000000 ∧ x.2.2.2.2.2.1.length ≤ 2000000
set_option maxRecDepth 100000 in
set_option maxHeartbeats 8000000 in
theorem table_any (cs : List Value) (x : StoreD) (a b s m l d n : Int) (w : World) (he : Env w) (lo hi : Nat) (h : StoreR w lo hi cs x) (hhi : hi ≤ w.heap.size) (hsz : SmallS x) :
 Calls Tryz.prog 32 #[.agg cs.toArray, .agg #[.int .i64 a, .int .i64 b, .int .i64 s, .int .i64 m, .int .i64 l, .int .i64 d, .int .i64 n]] w (GotNs (tableG x ((a, b, s, m, l), d, n)) w) := by
 have HSO0 := Lib.hid (fun (W : World) (hb : Below w.heap.size w W) => storeOk_any cs x W lo hi (StoreR.below hb hhi cs x h) hsz)
 have HND0 := Lib.hid (fun (W : World) (hb : Below w.heap.size w W) (bo : Nat) (hbo : W.heap[bo]? = some (.cells cs.toArray 39 (0, 0))) (hok : storeOk x = true) => nodes_any bo cs x a b s m l d n W (he.below hb) lo hi hbo (StoreR.below hb hhi cs x h) (Nat.le_trans hhi hb.size) (storeOk_rows hok).1 (storeOk_rows hok).2.1)
 clear hhi hsz he
 obtain ⟨rows, ⟨refs, last⟩, txg, gone, keep, dead, same⟩ := x
 obtain ⟨A0, n0, c0, A1, n1, c1, A2, n2, c2, A3, n3, c3, A4, n4, c4, rfl, h0, h1, h2, h3, h4⟩ := h
 clear h0 h1 h2 h3 h4
 have HSO : Hid (∀ (W : World), Below w.heap.size w W → Calls Tryz.prog 50 #[.agg #[.slice A0 n0 c0, .slice A1 n1 c1, .slice A2 n2 c2, .int .i64 txg, .slice A3 n3 c3, .int .i64 keep, .slice A4 n4 c4, .bool same]] W fun e w' => e = .returned (.bool (storeOk (rows, (refs, last), txg, gone, keep, dead, same))) ∧ Below W.heap.size W w') := Lib.hid (fun W hb => HSO0.out W hb)
 have HND : Hid (∀ (W : World), Below w.heap.size w W → ∀ bo : Nat, W.heap[bo]? = some (.cells #[.slice A0 n0 c0, .slice A1 n1 c1, .slice A2 n2 c2, .int .i64 txg, .slice A3 n3 c3, .int .i64 keep, .slice A4 n4 c4, .bool same] 39 (0, 0)) → storeOk (rows, (refs, last), txg, gone, keep, dead, same) = true → Calls Tryz.prog 51 #[.pointer (some ⟨bo, 0, none⟩), .agg #[.int .i64 a, .int .i64 b, .int .i64 s, .int .i64 m, .int .i64 l, .int .i64 d, .int .i64 n]] W (GotNs (tableF (rows, (refs, last), txg, gone, keep, dead, same) ((a, b, s, m, l), d, n)) W)) := Lib.hid (fun W hb bo hbo hok => HND0.out W hb bo hbo hok)
 clear HSO0 HND0
 show Calls Tryz.prog 32 #[.agg #[.slice A0 n0 c0, .slice A1 n1 c1, .slice A2 n2 c2, .int .i64 txg, .slice A3 n3 c3, .int .i64 keep, .slice A4 n4 c4, .bool same], .agg #[.int .i64 a, .int .i64 b, .int .i64 s, .int .i64 m, .int .i64 l, .int .i64 d, .int .i64 n]] w _
 generalize hX : ((rows, (refs, last), txg, gone, keep, dead, same) : StoreD) = X at *
 clear hX
 go_enter Tryz.func32, Tryz.ntmps32
 obtain ⟨w2, hw2⟩ : ∃ W, W = (w.alloc (.cells #[.slice A0 n0 c0, .slice A1 n1 c1, .slice A2 n2 c2, .int .i64 txg, .slice A3 n3 c3, .int .i64 keep, .slice A4 n4 c4, .bool same] 39)).alloc (.cells #[.int .i64 a, .int .i64 b, .int .i64 s, .int .i64 m, .int .i64 l, .int .i64 d, .int .i64 n] 43) := ⟨_, rfl⟩
 have HB2 : Hid (Below w.heap.size w w2) := Lib.hid (by rw [hw2]; exact bel2)
 have HSX : Hid (w2.heap[w.heap.size]? = some (.cells #[.slice A0 n0 c0, .slice A1 n1 c1, .slice A2 n2 c2, .int .i64 txg, .slice A3 n3 c3, .int .i64 keep, .slice A4 n4 c4, .bool same] 39 (0, 0))) := Lib.hid (by rw [hw2]; exact (Below.heap_alloc _ _ _ (by simp)).trans (heap_alloc_new _ _))
 have HTR : Hid (w2.heap[w.heap.size + 1]? = some (.cells #[.int .i64 a, .int .i64 b, .int .i64 s, .int .i64 m, .int .i64 l, .int .i64 d, .int .i64 n] 43 (0, 0))) := Lib.hid (by rw [hw2]; have := heap_alloc_new (w.alloc (.cells #[.slice A0 n0 c0, .slice A1 n1 c1, .slice A2 n2 c2, .int .i64 txg, .slice A3 n3 c3, .int .i64 keep, .slice A4 n4 c4, .bool same] 39)) (.cells #[.int .i64 a, .int .i64 b, .int .i64 s, .int .i64 m, .int .i64 l, .int .i64 d, .int .i64 n] 43); simpa using this)
 have l2 : w.heap.size < w2.heap.size := (Array.getElem?_eq_some_iff.1 HSX.out).1
 have l2x : w.heap.size + 1 < w2.heap.size := (Array.getElem?_eq_some_iff.1 HTR.out).1
 go_wp2_with fail
 rw [← hw2]; clear hw2
 have s0 := celR 0 HSX.out; have s1 := celR 1 HSX.out; have s2 := celR 2 HSX.out; have s3 := celR 3 HSX.out; have s4 := celR 4 HSX.out; have s5 := celR 5 HSX.out; have s6 := celR 6 HSX.out; have s7 := celR 7 HSX.out
 go_wp2_with fail
 refine (HSO.out w2 HB2.out).mono ?_
 obtain ⟨ok, hok⟩ : ∃ ok, ok = storeOk X := ⟨_, rfl⟩
 rw [← hok]
 have HOK := Lib.hid hok.symm; clear hok
 rintro e w3 ⟨rfl, hb3⟩
 have HB3 := Lib.hid (HB2.out.trans (hb3.mono HB2.out.size))
 have HSX3 := Lib.hid ((hb3.block _ l2).trans HSX.out)
 have HTR3 := Lib.hid ((hb3.block _ l2x).trans HTR.out)
 clear hb3 s0 s1 s2 s3 s4 s5 s6 s7
 cases ok
 · have HN := Lib.hid (tableG_no (t := ((a, b, s, m, l), d, n)) HOK.out)
   go_wp2_with fail
   exact bodyPost_ret (v := .tuple #[.slice none 0 0, .bool false]) (by simp [results, Tryz.results32, go_sem]) rfl (GotNs.no HN.out HB3.out)
 have t0 := celR 0 HTR3.out; have t1 := celR 1 HTR3.out; have t2 := celR 2 HTR3.out; have t3 := celR 3 HTR3.out; have t4 := celR 4 HTR3.out; have t5 := celR 5 HTR3.out; have t6 := celR 6 HTR3.out
 have HGE := Lib.hid (tableG_yes (t := ((a, b, s, m, l), d, n)) HOK.out)
 go_wp2_with fail
 refine (HND.out w3 HB3.out w.heap.size HSX3.out HOK.out).mono ?_
 rintro e w4 ⟨A, len, c, Lst, rfl, hM, hsl, hb4⟩
 have HB4 := Lib.hid (HB3.out.trans (hb4.mono HB3.out.size))
 have HSL := Lib.hid (hsl.wide HB3.out.size (Nat.le_refl _) (Nat.le_refl _) (NodePR.wide HB3.out.size (Nat.le_refl _) (Nat.le_refl _)))
 have HM : Hid (∀ M, tableG X ((a, b, s, m, l), d, n) = some M → Lst = M) := Lib.hid (fun M e => hM M (by rw [← HGE.out]; exact e))
 have HIS : Hid ((tableF X ((a, b, s, m, l), d, n)).isSome = (tableG X ((a, b, s, m, l), d, n)).isSome) := Lib.hid (by rw [HGE.out])
 clear hb4 hsl hM
 obtain ⟨bb, hbb⟩ : ∃ bb, bb = (tableF X ((a, b, s, m, l), d, n)).isSome := ⟨_, rfl⟩
 rw [← hbb]
 have HBB := Lib.hid hbb; clear hbb
 go_wp2_with fail
 exact bodyPost_ret (v := .tuple #[.slice A len c, .bool bb]) (by simp [results, Tryz.results32, go_sem]) rfl ⟨A, len, c, Lst, by rw [HBB.out, HIS.out], HM.out, HSL.out, HB4.out⟩
set_option maxRecDepth 100000 in
set_option maxHeartbeats 8000000 in
theorem tableOk_any (cs : List Value) (x : StoreD) (a b s m l d n : Int) (w : World) (he : Env w) (lo hi : Nat) (h : StoreR w lo hi cs x) (hhi : hi ≤ w.heap.size) (hsz : SmallS x) :
 Calls Tryz.prog 18 #[.agg cs.toArray, .agg #[.int .i64 a, .int .i64 b, .int .i64 s, .int .i64 m, .int .i64 l, .int .i64 d, .int .i64 n]] w fun e w' => e = .returned (.bool (tableG x ((a, b, s, m, l), d, n)).isSome) ∧ Below w.heap.size w w' := by
 have HTB0 := Lib.hid (fun (W : World) (hb : Below w.heap.size w W) => table_any cs x a b s m l d n W (he.below hb) lo hi (StoreR.below hb hhi cs x h) (Nat.le_trans hhi hb.size) hsz)
 clear hhi hsz he
 obtain ⟨rows, ⟨refs, last⟩, txg, gone, keep, dead, same⟩ := x
 obtain ⟨A0, n0, c0, A1, n1, c1, A2, n2, c2, A3, n3, c3, A4, n4, c4, rfl, h0, h1, h2, h3, h4⟩ := h
 clear h0 h1 h2 h3 h4
 have HTB : Hid (∀ (W : World), Below w.heap.size w W → Calls Tryz.prog 32 #[.agg #[.slice A0 n0 c0, .slice A1 n1 c1, .slice A2 n2 c2, .int .i64 txg, .slice A3 n3 c3, .int .i64 keep, .slice A4 n4 c4, .bool same], .agg #[.int .i64 a, .int .i64 b, .int .i64 s, .int .i64 m, .int .i64 l, .int .i64 d, .int .i64 n]] W (GotNs (tableG (rows, (refs, last), txg, gone, keep, dead, same) ((a, b, s, m, l), d, n)) W)) := Lib.hid (fun W hb => HTB0.out W hb)
 clear HTB0
 show Calls Tryz.prog 18 #[.agg #[.slice A0 n0 c0, .slice A1 n1 c1, .slice A2 n2 c2, .int .i64 txg, .slice A3 n3 c3, .int .i64 keep, .slice A4 n4 c4, .bool same], .agg #[.int .i64 a, .int .i64 b, .int .i64 s, .int .i64 m, .int .i64 l, .int .i64 d, .int .i64 n]] w _
 generalize hX : ((rows, (refs, last), txg, gone, keep, dead, same) : StoreD) = X at *
 clear hX
 go_enter Tryz.func18, Tryz.ntmps18
 obtain ⟨w2, hw2⟩ : ∃ W, W = (w.alloc (.cells #[.slice A0 n0 c0, .slice A1 n1 c1, .slice A2 n2 c2, .int .i64 txg, .slice A3 n3 c3, .int .i64 keep, .slice A4 n4 c4, .bool same] 39)).alloc (.cells #[.int .i64 a, .int .i64 b, .int .i64 s, .int .i64 m, .int .i64 l, .int .i64 d, .int .i64 n] 43) := ⟨_, rfl⟩
 have HB2 : Hid (Below w.heap.size w w2) := Lib.hid (by rw [hw2]; exact bel2)
 have HSX : Hid (w2.heap[w.heap.size]? = some (.cells #[.slice A0 n0 c0, .slice A1 n1 c1, .slice A2 n2 c2, .int .i64 txg, .slice A3 n3 c3, .int .i64 keep, .slice A4 n4 c4, .bool same] 39 (0, 0))) := Lib.hid (by rw [hw2]; exact (Below.heap_alloc _ _ _ (by simp)).trans (heap_alloc_new _ _))
 have HTR : Hid (w2.heap[w.heap.size + 1]? = some (.cells #[.int .i64 a, .int .i64 b, .int .i64 s, .int .i64 m, .int .i64 l, .int .i64 d, .int .i64 n] 43 (0, 0))) := Lib.hid (by rw [hw2]; have := heap_alloc_new (w.alloc (.cells #[.slice A0 n0 c0, .slice A1 n1 c1, .slice A2 n2 c2, .int .i64 txg, .slice A3 n3 c3, .int .i64 keep, .slice A4 n4 c4, .bool same] 39)) (.cells #[.int .i64 a, .int .i64 b, .int .i64 s, .int .i64 m, .int .i64 l, .int .i64 d, .int .i64 n] 43); simpa using this)
 have l2 : w.heap.size < w2.heap.size := (Array.getElem?_eq_some_iff.1 HSX.out).1
 have l2x : w.heap.size + 1 < w2.heap.size := (Array.getElem?_eq_some_iff.1 HTR.out).1
 go_wp2_with fail
 rw [← hw2]; clear hw2
 have s0 := celR 0 HSX.out; have s1 := celR 1 HSX.out; have s2 := celR 2 HSX.out; have s3 := celR 3 HSX.out; have s4 := celR 4 HSX.out; have s5 := celR 5 HSX.out; have s6 := celR 6 HSX.out; have s7 := celR 7 HSX.out
 have t0 := celR 0 HTR.out; have t1 := celR 1 HTR.out; have t2 := celR 2 HTR.out; have t3 := celR 3 HTR.out; have t4 := celR 4 HTR.out; have t5 := celR 5 HTR.out; have t6 := celR 6 HTR.out
 go_wp2_with fail
 refine (HTB.out w2 HB2.out).mono ?_
 obtain ⟨bb, hbb⟩ : ∃ bb, bb = (tableG X ((a, b, s, m, l), d, n)).isSome := ⟨_, rfl⟩
 rintro e w4 ⟨A, len, c, Lst, rfl, hM, hsl, hb4⟩
 rw [← hbb]
 have HB4 := Lib.hid (HB2.out.trans (hb4.mono HB2.out.size))
 have HBB := Lib.hid hbb
 clear hbb hb4 hsl hM s0 s1 s2 s3 s4 s5 s6 s7 t0 t1 t2 t3 t4 t5 t6
 go_wp2_with fail
 go_ret
 exact ⟨ret_bool HBB.out, HB4.out⟩
end Go.Proofs.YtjnhiiaejeaikaaGreatDoor
