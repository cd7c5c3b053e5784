/- Tables: table and TableOk of the program, l11Ok and TableOk of the reference. Condition: the library's variables lie as the row says; a list of what was given up has at most 2000000 members. -/
import Derived.Test.YtjnhiiaejeaikaaGreatDoorRows
import Derived.Test.YtjnhiiaejeaikaaGreatDoorRLib
import Derived.ProofKit
import Derived.OpenShut
import Derived.Lib.SmallJoins
import Derived.ShutString
import Derived.ChangeOld
import Derived.Below
import Derived.Test.YtjnhiiaejeaikaaGreatDoorRTypes
import Derived.Test.YtjnhiiaejeaikaaGreatDoorChecked
import Derived.Laws.BytesArg
import Derived.Test.YtjnhiiaejeaikaaGreatDoorRNumGet
import Derived.Shelf.Vars
import Derived.Stop.LaidErr
import Derived.HandedShaped
import Derived.Handed
import Derived.Test.YtjnhiiaejeaikaaGreatDoorRNodes
import Derived.Test.YtjnhiiaejeaikaaGreatDoorRTexts3
import Derived.Test.YtjnhiiaejeaikaaGreatDoorRStoreOkS
set_option linter.unnecessarySimpa false
set_option linter.unusedSimpArgs false
set_option linter.unusedVariables false
namespace Go.Proofs.YtjnhiiaejeaikaaGreatDoor
open Go.ChangeShapes Go.WideShapes Go.ChangeAt Go.RowKit
open Go.ChangeMaps (open_string shut_string)
theorem own_knob : ownKnob Tryz.prog.godebug = none := by kernel_rfl
theorem laid_out : laidOutB Tryz.prog = true := by kernel_rfl
end Go.Proofs.YtjnhiiaejeaikaaGreatDoor
namespace Go.Proofs.YtjnhiiaejeaikaaGreatDoor
open Go.RowKit
set_option maxRecDepth 100000 in
set_option maxHeartbeats 2000000 in
theorem toPtrF_any (cs : List Value) (x : PtrD) (w w0 : World) (lo hi : Nat) (h : PtrR w0 lo hi cs x) :
 Calls Tryz.prog 31 #[.agg cs.toArray] w fun e w' => e = .returned (.agg cs.toArray) ∧ Below w.heap.size w w' := by
 obtain ⟨at_, birth_, size_, sum_, level_⟩ := x
 obtain rfl := h
 show Calls Tryz.prog 31 #[.agg #[.int .i64 at_, .int .i64 birth_, .int .i64 size_, .int .i64 sum_, .int .i64 level_]] w _
 go_enter Tryz.func31, Tryz.ntmps31
 go_wp2
 exact bodyPost_ret (v := .agg #[.int .i64 at_, .int .i64 birth_, .int .i64 size_, .int .i64 sum_, .int .i64 level_]) (by simp [results, Tryz.results31, go_sem]) rfl ⟨rfl, by repeat (first | exact Below.refl _ _ | assumption | refine Below.setCell ?_ (by simp <;> omega) _ | refine Below.alloc ?_ (by simp <;> omega) _)⟩
set_option maxRecDepth 100000 in
set_option maxHeartbeats 2000000 in
theorem toTreeF_any (cs : List Value) (x : TreeD) (w w0 : World) (lo hi : Nat) (h : TreeR w0 lo hi cs x) :
 Calls Tryz.prog 10 #[.agg cs.toArray] w fun e w' => e = .returned (.agg cs.toArray) ∧ Below w.heap.size w w' := by
 obtain ⟨⟨root_at_, root_birth_, root_size_, root_sum_, root_level_⟩, depth_, many_⟩ := x
 obtain rfl := h
 show Calls Tryz.prog 10 #[.agg #[.int .i64 root_at_, .int .i64 root_birth_, .int .i64 root_size_, .int .i64 root_sum_, .int .i64 root_level_, .int .i64 depth_, .int .i64 many_]] w _
 go_enter Tryz.func10, Tryz.ntmps10
 go_wp2
 refine bodyPost_ret (v := .agg #[.int .i64 root_at_, .int .i64 root_birth_, .int .i64 root_size_, .int .i64 root_sum_, .int .i64 root_level_]) (by simp [results, Tryz.results31, go_sem]) rfl ?_
 go_wp2
 exact bodyPost_ret (v := .agg #[.int .i64 root_at_, .int .i64 root_birth_, .int .i64 root_size_, .int .i64 root_sum_, .int .i64 root_level_, .int .i64 depth_, .int .i64 many_]) (by simp [results, Tryz.results10, go_sem]) rfl ⟨rfl, by repeat (first | exact Below.refl _ _ | assumption | refine Below.setCell ?_ (by simp <;> omega) _ | refine Below.alloc ?_ (by simp <;> omega) _)⟩
end Go.Proofs.YtjnhiiaejeaikaaGreatDoor
namespace Go.Proofs.YtjnhiiaejeaikaaGreatDoor
open Go.RowKit
set_option maxRecDepth 100000 in
set_option maxHeartbeats 2000000 in
theorem szIntSR_any (A : Option Addr) (n c : Nat) (xs : List Int) (w : World) (lo hi : Nat) (left : Int) (h : SliceR IntR 1 w lo hi A n c xs) (h0 : 0 ≤ left) (h1 : left ≤ 1048576) :
 Calls Tryz.prog 46 #[.slice A n c, .int .i64 left] w (SzPost (xs.length) left w) := by
 have hl := h.len
 have hn := h.max
 have HL := Lib.hid hl
 have H := Lib.hid h
 clear h hl
 go_enter Tryz.func46, Tryz.ntmps46
 by_cases q1 : left - (n : Int) < 0
 · go_wp2_with fail
   go_ret
   exact ⟨-1, rfl, by omega, by omega, fun h => by omega, Below.refl _ _⟩
 go_wp2_with fail
 go_ret
 exact ⟨left - (n : Int), rfl, by omega, by omega, fun _ => by have := HL.out; omega, Below.refl _ _⟩
set_option maxRecDepth 100000 in
set_option maxHeartbeats 2000000 in
theorem szPtrS_any (A : Option Addr) (n c : Nat) (xs : List PtrD) (w : World) (lo hi : Nat) (left : Int) (h : SliceR PtrR 5 w lo hi A n c xs) (h0 : 0 ≤ left) (h1 : left ≤ 1048576) :
 Calls Tryz.prog 26 #[.slice A n c, .int .i64 left] w (SzPost (xs.length) left w) := by
 have hl := h.len
 have hn := h.max
 have HL := Lib.hid hl
 have H := Lib.hid h
 clear h hl
 go_enter Tryz.func26, Tryz.ntmps26
 by_cases q1 : left - (n : Int) < 0
 · go_wp2_with fail
   go_ret
   exact ⟨-1, rfl, by omega, by omega, fun h => by omega, Below.refl _ _⟩
 go_wp2_with fail
 go_ret
 exact ⟨left - (n : Int), rfl, by omega, by omega, fun _ => by have := HL.out; omega, Below.refl _ _⟩
end Go.Proofs.YtjnhiiaejeaikaaGreatDoor
namespace Go.Proofs.YtjnhiiaejeaikaaGreatDoor
open Go.RowKit
theorem str_cons (v : Int) (o : List UInt8) : strOfNums [v] ++ ⟨o.toArray⟩ = ⟨(UInt8.ofNat v.toNat :: o).toArray⟩ := by
 apply ByteArray.ext
 simp [strOfNums]
theorem str_cons_m (o : List UInt8) : (⟨#[109]⟩ : ByteArray) ++ ⟨o.toArray⟩ = ⟨(109 :: o).toArray⟩ := by
 apply ByteArray.ext
 simp
theorem mdig_succ (f k : Nat) (out : List UInt8) : mdig (f + 1) k out = if k = 0 then out else mdig f (k / 10) (UInt8.ofNat (48 + k % 10) :: out) := rfl
theorem mdig_zero (f : Nat) (out : List UInt8) : mdig f 0 out = out := by cases f <;> simp [mdig]
set_option maxRecDepth 100000 in
set_option maxHeartbeats 2000000 in
theorem markText_any (k : Int) (w : World) (h1 : k ≤ 1099511627776) : Calls Tryz.prog 53 #[.int .i64 k] w fun e w' => e = .returned (.string (mtext k)) ∧ Below w.heap.size w w' := by
 by_cases h0 : k ≤ 0
 · have HM := Lib.hid (show mtext k = ⟨#[109, 48]⟩ by unfold mtext; rw [if_pos h0])
   go_enter Tryz.func53, Tryz.ntmps53
   go_wp2_with fail
   go_ret
   exact ⟨ret_str HM.out.symm, Below.refl _ _⟩
 obtain ⟨m, rfl⟩ : ∃ m : Nat, k = (m : Int) := ⟨k.toNat, by omega⟩
 have HM := Lib.hid (show mtext m = ⟨(109 :: mdig m m []).toArray⟩ by unfold mtext; rw [if_neg h0]; simp)
 have hm0 : (0 : Int) < (m : Int) := by omega
 have hm1 : ¬ (m : Int) ≤ 0 := by omega
 clear h0
 have hconv : ∀ (W : World) (v : Int), (convert 100 9 (.slice (some ⟨W.heap.size, 0, none⟩) 1 1)).run Tryz.prog (W.alloc (.cells #[.int .u8 v] 5)) = .ok (.string (strOfNums [v])) (W.alloc (.cells #[.int .u8 v] 5)) :=
  fun W v => run_convert_bytes_arg (P := Tryz.prog) _ 100 5 Tryz.underlying100 Tryz.underlying5 W.heap.size 0 1 1 [v] rfl (fun i hi => by have : i = 0 := (by omega); subst this; simp [go_sem]) 9 Tryz.underlying9
 go_enter Tryz.func53, Tryz.ntmps53
 go_wp2_with fail
 go_loopw [0, 3] (fun kk out wr => ∃ (j f : Nat) (o : List UInt8), kk = .int .i64 (j : Int) ∧ out = .string ⟨o.toArray⟩ ∧ j ≤ m ∧ o.length + j ≤ m ∧ j ≤ f ∧ Hid (mdig m m [] = mdig f j o) ∧ Hid (Below w.heap.size w wr)) (fun kk _ _ => (intOf kk).toNat)
 case atStart => exact ⟨m, m, [], rfl, rfl, by omega, by simp, by omega, Lib.hid rfl, Lib.hid (Below.refl _ _)⟩
 obtain ⟨j, f, o, rfl, rfl, hj, ho, hf, HE, HB⟩ := hrel
 by_cases hj0 : 0 < j
 · have j0 : (0 : Int) < (j : Int) := by omega
   have j1 : (0 : Int) ≤ (j : Int) := by omega
   obtain ⟨f', rfl⟩ : ∃ f', f = f' + 1 := ⟨f - 1, by omega⟩
   have HE2 : Hid (mdig m m [] = mdig f' (j / 10) (UInt8.ofNat (48 + j % 10) :: o)) := Lib.hid (by rw [HE.out, mdig_succ, if_neg (by omega)])
   have hs1 : ∀ v, (strOfNums [v]).size = 1 := fun v => rfl
   have hol : o.length ≤ 1099511627776 := by omega
   go_wp2_with fail
   go_roundw
   case rel =>
    refine ⟨j / 10, f', UInt8.ofNat (48 + j % 10) :: o, by simp, ?_, by omega, by simp; omega, by omega, HE2, Lib.hid ?_⟩
    · rw [str_cons, show (48 + (j : Int) % 10).toNat = 48 + j % 10 by omega]
    exact HB.out.alloc HB.out.size _
   simp [intOf]; omega
 obtain rfl : j = 0 := by omega
 have hol : o.length ≤ 1099511627776 := by omega
 go_wp2_with fail
 go_ret
 exact ⟨ret_str (by rw [HM.out, HE.out, mdig_zero, str_cons_m]), HB.out⟩
end Go.Proofs.YtjnhiiaejeaikaaGreatDoor
namespace Go.Proofs.YtjnhiiaejeaikaaGreatDoor
open Go Go.RowKit Go.ChangeShapes Go.WideShapes Go.ChangeAt
theorem starES : "*" ++ "errors.errorString" = "*errors.errorString" := by decide
theorem rowES (u : TypeId) (h : Tryz.prog.typeName? 3 u = some "*errors.errorString") : u = 177 :=
 typeName_ptr_named (nm := "errors.errorString") (by rw [starES]; kernel_rfl) (by kernel_rfl) (by decide) u (by rw [starES]; exact h)
theorem errSyntax_of {W : World} {r : List (String × DataW Unit)} (h : laidMet Tryz.prog (("strconv.ErrSyntax", .iface "*errors.errorString" (.ptr (.agg [.lit (.string [105, 110, 118, 97, 108, 105, 100, 32, 115, 121, 110, 116, 97, 120])]))) :: r) W) :
 ∃ tp p, W.var? Tryz.prog "strconv.ErrSyntax" = some #[.iface tp p] := by
 obtain ⟨a0, s0, hv0, -, -, -⟩ := laid_sentinel (g := 1) (ti := 130) h (by kernel_rfl) (by kernel_rfl) Tryz.underlying130 rowES Tryz.underlying177 Tryz.underlying179 rfl rfl Tryz.underlying9 (by kernel_rfl) (by kernel_rfl)
 exact ⟨_, _, hv0⟩
set_option maxRecDepth 100000 in
theorem maxLen_of {W : World} (h : W.ShapedOpen Tryz.prog) : ∃ m, W.cell? ⟨0, 0, none⟩ = some (.int .i64 m) :=
 cell_of_shapedOpen_int (t := 3) (zero := #[.int .i64 0]) h (of_decide_eq_true (by kernel_rfl)) (by kernel_rfl) rfl (by kernel_rfl) (by kernel_rfl) Tryz.underlying3
theorem returns_both {H : Type} {enc : TypeId × Value → H} {a : Assume} {C : Checked} {os : Os} {f : FuncId} {fn : Func} {s : ChangeSpec} {conds : List PathCond} {apart fresh handsOn again : Bool} {X : World → Array Value → Prop}
 (hX : ∀ (w w' : World) (args : Array Value), w.heap = w'.heap → X w args → X w' args)
 (own : ownKnob C.prog.godebug = none) (started : os.Started) (noInit : C.prog.inits.idxOf? f = none) (hfn : C.prog.funcs[f]? = some fn)
 (witness : ∃ (w : World) (tape : Tape) (i : Input), w.os = os ∧ (w.forCall tape i).Shaped C.prog ∧ i.vars = [] ∧ Input.okWide C.prog (w.forCall tape i) .any w.heap.size f i ∧
   ((s.pre enc C.prog fn conds apart (w.forCall tape i).memory i.args ∧ X (w.forCall tape i).memory i.args) ∧ sizedMet enc C.prog fn (OpenSpec.ofChange s) apart (w.forCall tape i).memory i.args) ∧ a.holds C.prog (lone (Frame.enter C.prog f i.args .normal) [] (w.forCall tape i)))
 (contract : ∀ (W : World) (base : Nat) (args : Array Value) (ds gs : List (DataW H)) (before : List MemPlace),
   (∀ (j : Nat) t v, fn.params[j]? = some t → args[j]? = some v → Value.okWide C.prog W .any base t v) →
   DataW.Whole enc C.prog fn.params.toList s.vars apart W args.toList ds gs before →
   conds.all (PathCond.test C.prog ⟨fn.params.toList, ds, s.plain.varTypes C.prog, gs⟩) = true → X W args → W.ShapedOpen C.prog →
   Calls C.prog f args W fun e W' => ∃ v, e = .returned v ∧ s.post enc C.prog fn apart fresh handsOn again W args v W') :
 ReturnsInHanded a C os f .any (fun w args => (s.pre enc C.prog fn conds apart w args ∧ X w args) ∧ sizedMet enc C.prog fn (OpenSpec.ofChange s) apart w args) (s.post enc C.prog fn apart fresh handsOn again) := by
 refine returnsInHanded_of_calls own started noInit witness ?_
 intro w tape i _ hsh _ hok hpre hholds
 obtain ⟨_, _, _, fn', hfn', _, _, _, _, hval⟩ := hok
 have e : fn' = fn := Option.some.inj (hfn'.symm.trans hfn)
 subst e
 obtain ⟨⟨⟨ds, gs, before, hw, hc⟩, hx⟩, hz⟩ := hpre
 have hw' := DataW.Whole.of_heap (w' := w.forCall tape i) (by rfl) hw
 refine (contract (w.forCall tape i) w.heap.size i.args ds gs before hval hw' hc (hX _ _ _ (by rfl) hx) hsh).mono fun e W' ⟨v, he, hp⟩ => ?_
 subst he
 exact ChangeSpec.post_blind hp
end Go.Proofs.YtjnhiiaejeaikaaGreatDoor
namespace Go.Proofs.YtjnhiiaejeaikaaGreatDoor
section
open Go.RowKit
set_option maxRecDepth 100000 in
set_option maxHeartbeats 2000000 in
theorem eqStringS_yes (A B : Option Addr) (n c m d : Nat) (xs : List ByteArray) (w : World) (lo hi lo' hi' : Nat) (h : SliceR StrR 1 w lo hi A n c xs) (h' : SliceR StrR 1 w lo' hi' B m d xs) :
 Calls Tryz.prog 33 #[.slice A n c, .slice B m d] w fun e w' => e = .returned (.bool true) ∧ Below w.heap.size w w' := by
 obtain rfl : m = n := by have := h.len; have := h'.len; omega
 have hn := h.max
 have hl := Lib.hid h.len
 have H := Lib.hid h
 have H' := Lib.hid h'
 clear h h'
 go_enter Tryz.func33, Tryz.ntmps33
 go_wp2_with fail
 go_loopw [5] (fun i wr => ∃ k : Nat, k ≤ m ∧ i = .int .i64 k ∧ Below w.heap.size w wr) (fun i _ => m - (intOf i).toNat)
 case atStart => exact ⟨0, Nat.zero_le _, rfl, Below.refl _ _⟩
 obtain ⟨k, hk, rfl, hB⟩ := hrel
 by_cases hlt : k < m
 · obtain ⟨x, hx⟩ : ∃ x, xs[k]? = some x := ⟨xs[k]'(by rw [hl.out]; exact hlt), List.getElem?_eq_getElem _⟩
   have g := SliceR.below H.out hB (StrR.below hB H.out.lo_le)
   have g' := SliceR.below H'.out hB (StrR.below hB H'.out.lo_le)
   obtain ⟨b, off, rfl, _, _, bl, hc⟩ := g.at_ (by omega)
   obtain ⟨b', off', rfl, _, _, bl', hc'⟩ := g'.at_ (by omega)
   obtain ⟨cs, hcl, hcc, hr⟩ := hc k x hx
   obtain ⟨cs', hcl', hcc', hr'⟩ := hc' k x hx
   clear hc hc' hx g g'
   have G := Lib.hid hr
   have G' := Lib.hid hr'
   obtain ⟨rfl, _⟩ := hr; obtain ⟨rfl, _⟩ := hr'
   clear G G'
   have hr := 0; have hr' := 0
   have q0 := hcc 0 _ rfl
   have r0 := hcc' 0 _ rfl
   simp only [Nat.add_zero, Nat.mul_one] at q0 r0
   clear hcc hcc' hcl hcl' hr hr'
   have hhi := H.out.lo_le
   have hhi' := H'.out.lo_le
   have hi1 : hi ≤ wr.heap.size := Nat.le_trans hhi hB.size
   have hi2 : hi' ≤ wr.heap.size := Nat.le_trans hhi' hB.size
   clear hhi hhi'
   have k0 : (0 : Int) ≤ (k : Int) := by omega
   have k1 : (k : Int) < (m : Int) := by omega
   go_wp2_with fail
   apply wp_region_rg (by kernel_rfl) (false :: false :: false :: false :: false :: false :: false :: false :: false :: false :: false :: false :: false :: false :: false :: false :: false :: true :: true :: true :: true :: true :: true :: true :: true :: true :: []) [some 17, some 18, some 19, some 20, some 21, some 22, some 23, some 24, some 25] [[], [], [0, 1], [2], [], [], [4, 5], [6], [3, 7]] [StP.is _, StP.is _, StP.is _, StP.is _, StP.is _, StP.is _, StP.is _, StP.is _, StP.is _] (by kernel_rfl)
   case hobs =>
    refine ⟨fun y w' hS hF K hK => ?_, ?_⟩
    · skip
      simp only [fillL, cond_true, cond_false, zG0, zG1, StP.is, Act.put, zS2, zS0, zS1, Nat.reduceAdd] at hK ⊢
      refine rg_yes (by kernel_rfl) ?_
      clear hF
      go_simp
      exact hK _ _ (Ext.refl _) rfl
    refine ⟨fun y w' hS hF K hK => ?_, ?_⟩
    · skip
      simp only [fillL, cond_true, cond_false, zG0, zG1, StP.is, Act.put, zS2, zS0, zS1, Nat.reduceAdd] at hK ⊢
      refine rg_yes (by kernel_rfl) ?_
      clear hF
      go_simp
      exact hK _ _ (Ext.refl _) rfl
    refine ⟨fun y w' hS hF K hK => ?_, ?_⟩
    · skip
      have e17 : y 17 = _ := hF.1
      have e18 : y 18 = _ := hF.2.1
      simp only [fillL, cond_true, cond_false, zG0, zG1, StP.is, Act.put, zS2, zS0, zS1, Nat.reduceAdd, e17, e18] at hK ⊢
      refine rg_yes (by kernel_rfl) ?_
      clear e17 e18
      clear hF
      go_simp
      exact hK _ _ (Ext.refl _) rfl
    refine ⟨fun y w' hS hF K hK => ?_, ?_⟩
    · skip
      have e19 : y 19 = _ := hF.1
      simp only [fillL, cond_true, cond_false, zG0, zG1, StP.is, Act.put, zS2, zS0, zS1, Nat.reduceAdd, e19] at hK ⊢
      refine rg_yes (by kernel_rfl) ?_
      have qx0_ := (Below.cell hS bl).trans q0
      have qx1_ := (Below.cell hS bl').trans r0
      clear e19
      clear hF
      go_simp
      exact hK _ _ (Ext.refl _) rfl
    refine ⟨fun y w' hS hF K hK => ?_, ?_⟩
    · skip
      simp only [fillL, cond_true, cond_false, zG0, zG1, StP.is, Act.put, zS2, zS0, zS1, Nat.reduceAdd] at hK ⊢
      refine rg_yes (by kernel_rfl) ?_
      clear hF
      go_simp
      exact hK _ _ (Ext.refl _) rfl
    refine ⟨fun y w' hS hF K hK => ?_, ?_⟩
    · skip
      simp only [fillL, cond_true, cond_false, zG0, zG1, StP.is, Act.put, zS2, zS0, zS1, Nat.reduceAdd] at hK ⊢
      refine rg_yes (by kernel_rfl) ?_
      clear hF
      go_simp
      exact hK _ _ (Ext.refl _) rfl
    refine ⟨fun y w' hS hF K hK => ?_, ?_⟩
    · skip
      have e21 : y 21 = _ := hF.1
      have e22 : y 22 = _ := hF.2.1
      simp only [fillL, cond_true, cond_false, zG0, zG1, StP.is, Act.put, zS2, zS0, zS1, Nat.reduceAdd, e21, e22] at hK ⊢
      refine rg_yes (by kernel_rfl) ?_
      clear e21 e22
      clear hF
      go_simp
      exact hK _ _ (Ext.refl _) rfl
    refine ⟨fun y w' hS hF K hK => ?_, ?_⟩
    · skip
      have e23 : y 23 = _ := hF.1
      simp only [fillL, cond_true, cond_false, zG0, zG1, StP.is, Act.put, zS2, zS0, zS1, Nat.reduceAdd, e23] at hK ⊢
      refine rg_yes (by kernel_rfl) ?_
      have qx0_ := (Below.cell hS bl).trans q0
      have qx1_ := (Below.cell hS bl').trans r0
      clear e23
      clear hF
      go_simp
      exact hK _ _ (Ext.refl _) rfl
    refine ⟨fun y w' hS hF K hK => ?_, ?_⟩
    · skip
      have e20 : y 20 = _ := hF.1
      have e24 : y 24 = _ := hF.2.1
      simp only [fillL, cond_true, cond_false, zG0, zG1, StP.is, Act.put, zS2, zS0, zS1, Nat.reduceAdd, e20, e24] at hK ⊢
      refine rg_yes (by kernel_rfl) ?_
      clear e20 e24
      clear hF
      go_simp
      exact hK _ _ (Ext.refl _) rfl
    trivial
   intro y w2 hX hF
   have e25 : y 25 = _ := hF.2.2.2.2.2.2.2.2.1
   clear hF
   simp only [fillL, cond_true, cond_false, Nat.reduceAdd, e25]
   clear e25
   have hB2 : Below w.heap.size w w2 := hB.trans (Below.mono hX hB.size)
   clear hX hB
   go_wp2_with fail
   go_roundw
   case rel => exact ⟨k + 1, by omega, by go_num, hB2⟩
   simp [intOf]; omega
 go_wp2_with fail
 go_ret
 exact ⟨rfl, hB⟩
end
section
open Go.RowKit
end
end Go.Proofs.YtjnhiiaejeaikaaGreatDoor
namespace Go.Proofs.YtjnhiiaejeaikaaGreatDoor
open Go Go.Lib Go.RowKit
open Classical in
noncomputable def tableG (x : StoreD) (t : TreeD) : Option (List (Option NodeD)) := if storeOk x = true then tableF x t else none
theorem tableG_no {x : StoreD} {t : TreeD} (h : storeOk x = false) : tableG x t = none := by unfold tableG; rw [if_neg (by simp [h])]
theorem tableG_yes {x : StoreD} {t : TreeD} (h : storeOk x = true) : tableG x t = tableF x t := by unfold tableG; rw [if_pos h]
theorem storeOk_rows {x : StoreD} (h : storeOk x = true) : x.1.length = 64 ∧ (∀ r ∈ x.1, r.size ≤ 128) ∧ 0 ≤ x.2.2.1 := by
 have k := storeOk_of h
 refine ⟨k.len, fun r hr => ?_, by have := k.txg; unfold inB at this; simp at this; omega⟩
 obtain ⟨i, hi, rfl⟩ := List.mem_iff_getElem.1 hr
 have := (k.rows i (by rw [← k.len]; exact hi)).1
 rwa [List.getD_eq_getElem?_getD, List.getElem?_eq_getElem hi] at this
def SmallS (x : StoreD) : Prop := x.2.2.2.1.length ≤ 2000000 ∧ x.2.2.2.2.2.1.length ≤ 2000000
set_option maxRecDepth 100000 in
set_option maxHeartbeats 8000000 in
theorem table_any (cs : List Value) (x : StoreD) (a b s m l d n : Int) (w : World) (he : Env w) (lo hi : Nat) (h : StoreR w lo hi cs x) (hhi : hi ≤ w.heap.size) (hsz : SmallS x) :
 Calls Tryz.prog 32 #[.agg cs.toArray, .agg #[.int .i64 a, .int .i64 b, .int .i64 s, .int .i64 m, .int .i64 l, .int .i64 d, .int .i64 n]] w (GotNs (tableG x ((a, b, s, m, l), d, n)) w) := by
 have HSO0 := Lib.hid (fun (W : World) (hb : Below w.heap.size w W) => storeOk_any cs x W lo hi (StoreR.below hb hhi cs x h) hsz)
 have HND0 := Lib.hid (fun (W : World) (hb : Below w.heap.size w W) (bo : Nat) (hbo : W.heap[bo]? = some (.cells cs.toArray 39 (0, 0))) (hok : storeOk x = true) => nodes_any bo cs x a b s m l d n W (he.below hb) lo hi hbo (StoreR.below hb hhi cs x h) (Nat.le_trans hhi hb.size) (storeOk_rows hok).1 (storeOk_rows hok).2.1)
 clear hhi hsz he
 obtain ⟨rows, ⟨refs, last⟩, txg, gone, keep, dead, same⟩ := x
 obtain ⟨A0, n0, c0, A1, n1, c1, A2, n2, c2, A3, n3, c3, A4, n4, c4, rfl, h0, h1, h2, h3, h4⟩ := h
 clear h0 h1 h2 h3 h4
 have HSO : Hid (∀ (W : World), Below w.heap.size w W → Calls Tryz.prog 50 #[.agg #[.slice A0 n0 c0, .slice A1 n1 c1, .slice A2 n2 c2, .int .i64 txg, .slice A3 n3 c3, .int .i64 keep, .slice A4 n4 c4, .bool same]] W fun e w' => e = .returned (.bool (storeOk (rows, (refs, last), txg, gone, keep, dead, same))) ∧ Below W.heap.size W w') := Lib.hid (fun W hb => HSO0.out W hb)
 have HND : Hid (∀ (W : World), Below w.heap.size w W → ∀ bo : Nat, W.heap[bo]? = some (.cells #[.slice A0 n0 c0, .slice A1 n1 c1, .slice A2 n2 c2, .int .i64 txg, .slice A3 n3 c3, .int .i64 keep, .slice A4 n4 c4, .bool same] 39 (0, 0)) → storeOk (rows, (refs, last), txg, gone, keep, dead, same) = true → Calls Tryz.prog 51 #[.pointer (some ⟨bo, 0, none⟩), .agg #[.int .i64 a, .int .i64 b, .int .i64 s, .int .i64 m, .int .i64 l, .int .i64 d, .int .i64 n]] W (GotNs (tableF (rows, (refs, last), txg, gone, keep, dead, same) ((a, b, s, m, l), d, n)) W)) := Lib.hid (fun W hb bo hbo hok => HND0.out W hb bo hbo hok)
 clear HSO0 HND0
 show Calls Tryz.prog 32 #[.agg #[.slice A0 n0 c0, .slice A1 n1 c1, .slice A2 n2 c2, .int .i64 txg, .slice A3 n3 c3, .int .i64 keep, .slice A4 n4 c4, .bool same], .agg #[.int .i64 a, .int .i64 b, .int .i64 s, .int .i64 m, .int .i64 l, .int .i64 d, .int .i64 n]] w _
 generalize hX : ((rows, (refs, last), txg, gone, keep, dead, same) : StoreD) = X at *
 clear hX
 go_enter Tryz.func32, Tryz.ntmps32
 obtain ⟨w2, hw2⟩ : ∃ W, W = (w.alloc (.cells #[.slice A0 n0 c0, .slice A1 n1 c1, .slice A2 n2 c2, .int .i64 txg, .slice A3 n3 c3, .int .i64 keep, .slice A4 n4 c4, .bool same] 39)).alloc (.cells #[.int .i64 a, .int .i64 b, .int .i64 s, .int .i64 m, .int .i64 l, .int .i64 d, .int .i64 n] 43) := ⟨_, rfl⟩
 have HB2 : Hid (Below w.heap.size w w2) := Lib.hid (by rw [hw2]; exact bel2)
 have HSX : Hid (w2.heap[w.heap.size]? = some (.cells #[.slice A0 n0 c0, .slice A1 n1 c1, .slice A2 n2 c2, .int .i64 txg, .slice A3 n3 c3, .int .i64 keep, .slice A4 n4 c4, .bool same] 39 (0, 0))) := Lib.hid (by rw [hw2]; exact (Below.heap_alloc _ _ _ (by simp)).trans (heap_alloc_new _ _))
 have HTR : Hid (w2.heap[w.heap.size + 1]? = some (.cells #[.int .i64 a, .int .i64 b, .int .i64 s, .int .i64 m, .int .i64 l, .int .i64 d, .int .i64 n] 43 (0, 0))) := Lib.hid (by rw [hw2]; have := heap_alloc_new (w.alloc (.cells #[.slice A0 n0 c0, .slice A1 n1 c1, .slice A2 n2 c2, .int .i64 txg, .slice A3 n3 c3, .int .i64 keep, .slice A4 n4 c4, .bool same] 39)) (.cells #[.int .i64 a, .int .i64 b, .int .i64 s, .int .i64 m, .int .i64 l, .int .i64 d, .int .i64 n] 43); simpa using this)
 have l2 : w.heap.size < w2.heap.size := (Array.getElem?_eq_some_iff.1 HSX.out).1
 have l2x : w.heap.size + 1 < w2.heap.size := (Array.getElem?_eq_some_iff.1 HTR.out).1
 go_wp2_with fail
 rw [← hw2]; clear hw2
 have s0 := celR 0 HSX.out; have s1 := celR 1 HSX.out; have s2 := celR 2 HSX.out; have s3 := celR 3 HSX.out; have s4 := celR 4 HSX.out; have s5 := celR 5 HSX.out; have s6 := celR 6 HSX.out; have s7 := celR 7 HSX.out
 go_wp2_with fail
 refine (HSO.out w2 HB2.out).mono ?_
 obtain ⟨ok, hok⟩ : ∃ ok, ok = storeOk X := ⟨_, rfl⟩
 rw [← hok]
 have HOK := Lib.hid hok.symm; clear hok
 rintro e w3 ⟨rfl, hb3⟩
 have HB3 := Lib.hid (HB2.out.trans (hb3.mono HB2.out.size))
 have HSX3 := Lib.hid ((hb3.block _ l2).trans HSX.out)
 have HTR3 := Lib.hid ((hb3.block _ l2x).trans HTR.out)
 clear hb3 s0 s1 s2 s3 s4 s5 s6 s7
 cases ok
 · have HN := Lib.hid (tableG_no (t := ((a, b, s, m, l), d, n)) HOK.out)
   go_wp2_with fail
   exact bodyPost_ret (v := .tuple #[.slice none 0 0, .bool false]) (by simp [results, Tryz.results32, go_sem]) rfl (GotNs.no HN.out HB3.out)
 have t0 := celR 0 HTR3.out; have t1 := celR 1 HTR3.out; have t2 := celR 2 HTR3.out; have t3 := celR 3 HTR3.out; have t4 := celR 4 HTR3.out; have t5 := celR 5 HTR3.out; have t6 := celR 6 HTR3.out
 have HGE := Lib.hid (tableG_yes (t := ((a, b, s, m, l), d, n)) HOK.out)
 go_wp2_with fail
 refine (HND.out w3 HB3.out w.heap.size HSX3.out HOK.out).mono ?_
 rintro e w4 ⟨A, len, c, Lst, rfl, hM, hsl, hb4⟩
 have HB4 := Lib.hid (HB3.out.trans (hb4.mono HB3.out.size))
 have HSL := Lib.hid (hsl.wide HB3.out.size (Nat.le_refl _) (Nat.le_refl _) (NodePR.wide HB3.out.size (Nat.le_refl _) (Nat.le_refl _)))
 have HM : Hid (∀ M, tableG X ((a, b, s, m, l), d, n) = some M → Lst = M) := Lib.hid (fun M e => hM M (by rw [← HGE.out]; exact e))
 have HIS : Hid ((tableF X ((a, b, s, m, l), d, n)).isSome = (tableG X ((a, b, s, m, l), d, n)).isSome) := Lib.hid (by rw [HGE.out])
 clear hb4 hsl hM
 obtain ⟨bb, hbb⟩ : ∃ bb, bb = (tableF X ((a, b, s, m, l), d, n)).isSome := ⟨_, rfl⟩
 rw [← hbb]
 have HBB := Lib.hid hbb; clear hbb
 go_wp2_with fail
 exact bodyPost_ret (v := .tuple #[.slice A len c, .bool bb]) (by simp [results, Tryz.results32, go_sem]) rfl ⟨A, len, c, Lst, by rw [HBB.out, HIS.out], HM.out, HSL.out, HB4.out⟩
end Go.Proofs.YtjnhiiaejeaikaaGreatDoor
