/- Marks on lists of structs that hold one array of pointers each: the plain part. No condition. -/
import Derived.Test.YtlacpcdbgimnmaaGreatDoorRows
import Derived.Test.YtlacpcdbgimnmaaGreatDoorRLib
import Derived.ProofKit
import Derived.OpenShut
import Derived.Lib.SmallJoins
import Derived.ShutString
import Derived.ChangeOld
import Derived.Below
import Derived.Test.YtlacpcdbgimnmaaGreatDoorRTypes
import Derived.Test.YtlacpcdbgimnmaaGreatDoorChecked
import Derived.Laws.BytesArg
import Derived.Test.YtlacpcdbgimnmaaGreatDoorRNumGet
import Derived.Shelf.Vars
import Derived.Stop.LaidErr
import Derived.HandedShaped
import Derived.Handed
set_option linter.unnecessarySimpa false
set_option linter.unusedSimpArgs false
set_option linter.unusedVariables false
namespace Go.Proofs.YtlacpcdbgimnmaaGreatDoor
open Go.ChangeShapes Go.WideShapes Go.ChangeAt Go.RowKit
open Go.ChangeMaps (open_string shut_string)
theorem own_knob : ownKnob Tryz.prog.godebug = none := by kernel_rfl
end Go.Proofs.YtlacpcdbgimnmaaGreatDoor
namespace Go.Proofs.YtlacpcdbgimnmaaGreatDoor
open Go.RowKit
theorem str_cons (v : Int) (o : List UInt8) : strOfNums [v] ++ ⟨o.toArray⟩ = ⟨(UInt8.ofNat v.toNat :: o).toArray⟩ := by
 apply ByteArray.ext
 simp [strOfNums]
theorem str_cons_m (o : List UInt8) : (⟨#[109]⟩ : ByteArray) ++ ⟨o.toArray⟩ = ⟨(109 :: o).toArray⟩ := by
 apply ByteArray.ext
 simp
theorem mdig_succ (f k : Nat) (out : List UInt8) : mdig (f + 1) k out = if k = 0 then out else mdig f (k / 10) (UInt8.ofNat (48 + k % 10) :: out) := rfl
theorem mdig_zero (f : Nat) (out : List UInt8) : mdig f 0 out = out := by cases f <;> simp [mdig]
set_option maxRecDepth 100000 in
set_option maxHeartbeats 2000000 in
theorem markText_any (k : Int) (w : World) (h1 : k ≤ 1099511627776) : Calls Tryz.prog 48 #[.int .i64 k] w fun e w' => e = .returned (.string (mtext k)) ∧ Below w.heap.size w w' := by
 by_cases h0 : k ≤ 0
 · have HM := Lib.hid (show mtext k = ⟨#[109, 48]⟩ by unfold mtext; rw [if_pos h0])
   go_enter Tryz.func48, Tryz.ntmps48
   go_wp2_with fail
   go_ret
   exact ⟨ret_str HM.out.symm, Below.refl _ _⟩
 obtain ⟨m, rfl⟩ : ∃ m : Nat, k = (m : Int) := ⟨k.toNat, by omega⟩
 have HM := Lib.hid (show mtext m = ⟨(109 :: mdig m m []).toArray⟩ by unfold mtext; rw [if_neg h0]; simp)
 have hm0 : (0 : Int) < (m : Int) := by omega
 have hm1 : ¬ (m : Int) ≤ 0 := by omega
 clear h0
 have hconv : ∀ (W : World) (v : Int), (convert 93 9 (.slice (some ⟨W.heap.size, 0, none⟩) 1 1)).run Tryz.prog (W.alloc (.cells #[.int .u8 v] 5)) = .ok (.string (strOfNums [v])) (W.alloc (.cells #[.int .u8 v] 5)) :=
  fun W v => run_convert_bytes_arg (P := Tryz.prog) _ 93 5 Tryz.underlying93 Tryz.underlying5 W.heap.size 0 1 1 [v] rfl (fun i hi => by have : i = 0 := (by omega); subst this; simp [go_sem]) 9 Tryz.underlying9
 go_enter Tryz.func48, Tryz.ntmps48
 go_wp2_with fail
 go_loopw [0, 3] (fun kk out wr => ∃ (j f : Nat) (o : List UInt8), kk = .int .i64 (j : Int) ∧ out = .string ⟨o.toArray⟩ ∧ j ≤ m ∧ o.length + j ≤ m ∧ j ≤ f ∧ Hid (mdig m m [] = mdig f j o) ∧ Hid (Below w.heap.size w wr)) (fun kk _ _ => (intOf kk).toNat)
 case atStart => exact ⟨m, m, [], rfl, rfl, by omega, by simp, by omega, Lib.hid rfl, Lib.hid (Below.refl _ _)⟩
 obtain ⟨j, f, o, rfl, rfl, hj, ho, hf, HE, HB⟩ := hrel
 by_cases hj0 : 0 < j
 · have j0 : (0 : Int) < (j : Int) := by omega
   have j1 : (0 : Int) ≤ (j : Int) := by omega
   obtain ⟨f', rfl⟩ : ∃ f', f = f' + 1 := ⟨f - 1, by omega⟩
   have HE2 : Hid (mdig m m [] = mdig f' (j / 10) (UInt8.ofNat (48 + j % 10) :: o)) := Lib.hid (by rw [HE.out, mdig_succ, if_neg (by omega)])
   have hs1 : ∀ v, (strOfNums [v]).size = 1 := fun v => rfl
   have hol : o.length ≤ 1099511627776 := by omega
   go_wp2_with fail
   go_roundw
   case rel =>
    refine ⟨j / 10, f', UInt8.ofNat (48 + j % 10) :: o, by simp, ?_, by omega, by simp; omega, by omega, HE2, Lib.hid ?_⟩
    · rw [str_cons, show (48 + (j : Int) % 10).toNat = 48 + j % 10 by omega]
    exact HB.out.alloc HB.out.size _
   simp [intOf]; omega
 obtain rfl : j = 0 := by omega
 have hol : o.length ≤ 1099511627776 := by omega
 go_wp2_with fail
 go_ret
 exact ⟨ret_str (by rw [HM.out, HE.out, mdig_zero, str_cons_m]), HB.out⟩
end Go.Proofs.YtlacpcdbgimnmaaGreatDoor
namespace Go.Proofs.YtlacpcdbgimnmaaGreatDoor
open Go Go.RowKit Go.ChangeShapes Go.WideShapes Go.ChangeAt
theorem starES : "*" ++ "errors.errorString" = "*errors.errorString" := by decide
theorem rowES (u : TypeId) (h : Tryz.prog.typeName? 3 u = some "*errors.errorString") : u = 145 :=
 typeName_ptr_named (nm := "errors.errorString") (by rw [starES]; kernel_rfl) (by kernel_rfl) (by decide) u (by rw [starES]; exact h)
theorem errSyntax_of {W : World} {r : List (String × DataW Unit)} (h : laidMet Tryz.prog (("strconv.ErrSyntax", .iface "*errors.errorString" (.ptr (.agg [.lit (.string [105, 110, 118, 97, 108, 105, 100, 32, 115, 121, 110, 116, 97, 120])]))) :: r) W) :
 ∃ tp p, W.var? Tryz.prog "strconv.ErrSyntax" = some #[.iface tp p] := by
 obtain ⟨a0, s0, hv0, -, -, -⟩ := laid_sentinel (g := 1) (ti := 87) h (by kernel_rfl) (by kernel_rfl) Tryz.underlying87 rowES Tryz.underlying145 Tryz.underlying147 rfl rfl Tryz.underlying9 (by kernel_rfl) (by kernel_rfl)
 exact ⟨_, _, hv0⟩
set_option maxRecDepth 100000 in
theorem maxLen_of {W : World} (h : W.ShapedOpen Tryz.prog) : ∃ m, W.cell? ⟨0, 0, none⟩ = some (.int .i64 m) :=
 cell_of_shapedOpen_int (t := 3) (zero := #[.int .i64 0]) h (of_decide_eq_true (by kernel_rfl)) (by kernel_rfl) rfl (by kernel_rfl) (by kernel_rfl) Tryz.underlying3
theorem returns_both {H : Type} {enc : TypeId × Value → H} {a : Assume} {C : Checked} {os : Os} {f : FuncId} {fn : Func} {s : ChangeSpec} {conds : List PathCond} {apart fresh handsOn again : Bool} {X : World → Array Value → Prop}
 (hX : ∀ (w w' : World) (args : Array Value), w.heap = w'.heap → X w args → X w' args)
 (own : ownKnob C.prog.godebug = none) (started : os.Started) (noInit : C.prog.inits.idxOf? f = none) (hfn : C.prog.funcs[f]? = some fn)
 (witness : ∃ (w : World) (tape : Tape) (i : Input), w.os = os ∧ (w.forCall tape i).Shaped C.prog ∧ i.vars = [] ∧ Input.okWide C.prog (w.forCall tape i) .any w.heap.size f i ∧
   ((s.pre enc C.prog fn conds apart (w.forCall tape i).memory i.args ∧ X (w.forCall tape i).memory i.args) ∧ sizedMet enc C.prog fn (OpenSpec.ofChange s) apart (w.forCall tape i).memory i.args) ∧ a.holds C.prog (lone (Frame.enter C.prog f i.args .normal) [] (w.forCall tape i)))
 (contract : ∀ (W : World) (base : Nat) (args : Array Value) (ds gs : List (DataW H)) (before : List MemPlace),
   (∀ (j : Nat) t v, fn.params[j]? = some t → args[j]? = some v → Value.okWide C.prog W .any base t v) →
   DataW.Whole enc C.prog fn.params.toList s.vars apart W args.toList ds gs before →
   conds.all (PathCond.test C.prog ⟨fn.params.toList, ds, s.plain.varTypes C.prog, gs⟩) = true → X W args → W.ShapedOpen C.prog →
   Calls C.prog f args W fun e W' => ∃ v, e = .returned v ∧ s.post enc C.prog fn apart fresh handsOn again W args v W') :
 ReturnsInHanded a C os f .any (fun w args => (s.pre enc C.prog fn conds apart w args ∧ X w args) ∧ sizedMet enc C.prog fn (OpenSpec.ofChange s) apart w args) (s.post enc C.prog fn apart fresh handsOn again) := by
 refine returnsInHanded_of_calls own started noInit witness ?_
 intro w tape i _ hsh _ hok hpre hholds
 obtain ⟨_, _, _, fn', hfn', _, _, _, _, hval⟩ := hok
 have e : fn' = fn := Option.some.inj (hfn'.symm.trans hfn)
 subst e
 obtain ⟨⟨⟨ds, gs, before, hw, hc⟩, hx⟩, hz⟩ := hpre
 have hw' := DataW.Whole.of_heap (w' := w.forCall tape i) (by rfl) hw
 refine (contract (w.forCall tape i) w.heap.size i.args ds gs before hval hw' hc (hX _ _ _ (by rfl) hx) hsh).mono fun e W' ⟨v, he, hp⟩ => ?_
 subst he
 exact ChangeSpec.post_blind hp
end Go.Proofs.YtlacpcdbgimnmaaGreatDoor
namespace Go.Proofs.YtlacpcdbgimnmaaGreatDoor
open Go.RowKit
def KPtrS : List Value := [.int .i64 0, .int .i64 0, .int .i64 0, .int .i64 0, .int .i64 0]
set_option maxRecDepth 100000 in
set_option maxHeartbeats 4000000 in
theorem markPtrS_any (A : Option Addr) (n c : Nat) (k : Int) (w : World) (lo hi : Nat) (h : Whole w 37 5 lo hi A n c) (h0 : 0 ≤ k) (h1 : k + n * 5 ≤ 1099511627776) :
 Calls Tryz.prog 49 #[.slice A n c, .int .i64 k] w fun e w' => e = .returned (.int .i64 (k + n * 5)) ∧ MarkedAt w' KPtrS k A (n * 5) ∧ Whole w' 37 5 lo hi A n c ∧ Chg (fun b => 0 < n ∧ blkOf A b) w w' := by
 by_cases hn0 : n = 0
 · subst hn0
   go_enter Tryz.func49, Tryz.ntmps49
   go_wp2_with fail
   go_loop [1, 5] (fun kk i => kk = .int .i64 k ∧ i = .int .i64 ((0 : Nat) : Int)) (fun _ _ => 0)
   case atStart => exact ⟨rfl, rfl⟩
   obtain ⟨rfl, rfl⟩ := hrel
   go_wp2_with fail
   go_ret
   exact ⟨ret_int (by simp), fun h => absurd h (by simp), h, Chg.refl _ _⟩
 obtain ⟨g, cur, rfl, hlo, hhi, hg, hcs, hnc⟩ : ∃ g cur, A = some ⟨g, 0, none⟩ ∧ lo ≤ g ∧ g < hi ∧ w.heap[g]? = some (.cells cur 37 (0, 0)) ∧ cur.size = c * 5 ∧ n ≤ c ∧ c ≤ maxLen := h.resolve_left (fun h => hn0 h.1)
 have hnp : 0 < n := Nat.pos_of_ne_zero hn0
 clear h hn0
 have hgl : g < w.heap.size := (Array.getElem?_eq_some_iff.1 hg).1
 have hn : n ≤ 1099511627776 := by omega
 have HG0 := Lib.hid hg; have HC0 := Lib.hid hcs; clear hg hcs
 go_enter Tryz.func49, Tryz.ntmps49
 go_wp2_with fail
 go_loopw [1, 5] (fun kk i wr => ∃ (j : Nat) (z : Int) (cu : Array Value), j ≤ n ∧ i = .int .i64 j ∧ kk = .int .i64 z ∧ 0 ≤ z ∧ z ≤ 1099511627776 ∧ Hid (z = k + (j : Int) * 5) ∧ Hid (wr.heap[g]? = some (.cells cu 37 (0, 0))) ∧ Hid (cu.size = c * 5) ∧ Hid (HasMarks KPtrS k (j * 5) cu) ∧ Hid (Chg (blkOf (some ⟨g, 0, none⟩)) w wr)) (fun _ i _ => n - (intOf i).toNat)
 case atStart => exact ⟨0, k, cur, Nat.zero_le _, rfl, rfl, h0, by omega, Lib.hid (by simp), HG0, HC0, Lib.hid (by first | exact HasMarks.zero _ _ _ | (rw [Nat.zero_mul]; exact HasMarks.zero _ _ _)), Lib.hid (Chg.refl _ _)⟩
 clear HG0 HC0
 obtain ⟨j, z, cu, hj, rfl, rfl, z0, z1, HZ, HG, HC, HM, HX⟩ := hrel
 by_cases hlt : j < n
 · have hgr : g < wr.heap.size := (Array.getElem?_eq_some_iff.1 HG.out).1
   have hzb : z + 5 ≤ 1099511627776 := by have := HZ.out; omega
   have hju : j * 5 + 5 ≤ cu.size := by rw [HC.out]; omega
   have j0 : (0 : Int) ≤ (j : Int) := by omega
   have j1 : (j : Int) < (n : Int) := by omega
   have t0_0 : wr.cell? ⟨g, j * 5, none⟩ = some _ := block_cell HG.out (by omega)
   generalize cu[j * 5]'_ = y0_0 at t0_0
   have f0_0 : wr.frozen? ⟨g, j * 5, none⟩ = false := block_free HG.out _
   have t0_1 : wr.cell? ⟨g, j * 5 + 1, none⟩ = some _ := block_cell HG.out (by omega)
   generalize cu[j * 5 + 1]'_ = y0_1 at t0_1
   have f0_1 : wr.frozen? ⟨g, j * 5 + 1, none⟩ = false := block_free HG.out _
   have t0_2 : wr.cell? ⟨g, j * 5 + 2, none⟩ = some _ := block_cell HG.out (by omega)
   generalize cu[j * 5 + 2]'_ = y0_2 at t0_2
   have f0_2 : wr.frozen? ⟨g, j * 5 + 2, none⟩ = false := block_free HG.out _
   have t0_3 : wr.cell? ⟨g, j * 5 + 3, none⟩ = some _ := block_cell HG.out (by omega)
   generalize cu[j * 5 + 3]'_ = y0_3 at t0_3
   have f0_3 : wr.frozen? ⟨g, j * 5 + 3, none⟩ = false := block_free HG.out _
   have t0_4 : wr.cell? ⟨g, j * 5 + 4, none⟩ = some _ := block_cell HG.out (by omega)
   generalize cu[j * 5 + 4]'_ = y0_4 at t0_4
   have f0_4 : wr.frozen? ⟨g, j * 5 + 4, none⟩ = false := block_free HG.out _
   go_wp2_with fail
   go_roundw
   case rel =>
    have m0 := HM.out
    have kv0 : .int .i64 (z) = mkv (k + ((j * 5 : Nat) : Int)) (KPtrS.getD ((j * 5) % KPtrS.length) undef) := by
     have e1 : (j * 5) % KPtrS.length = 0 := by show (j * 5) % 5 = 0; omega
     have e2 : k + ((j * 5 : Nat) : Int) = z := by have := HZ.out; push_cast; omega
     rw [e1, e2]; rfl
    have m1 := HasMarks.step m0 (by have := HC.out; (try simp only [Array.size_setIfInBounds]); omega) kv0
    have kv1 : .int .i64 (z + 1) = mkv (k + ((j * 5 + 1 : Nat) : Int)) (KPtrS.getD ((j * 5 + 1) % KPtrS.length) undef) := by
     have e1 : (j * 5 + 1) % KPtrS.length = 1 := by show (j * 5 + 1) % 5 = 1; omega
     have e2 : k + ((j * 5 + 1 : Nat) : Int) = z + 1 := by have := HZ.out; push_cast; omega
     rw [e1, e2]; rfl
    have m2 := HasMarks.step m1 (by have := HC.out; (try simp only [Array.size_setIfInBounds]); omega) kv1
    have kv2 : .int .i64 (z + 1 + 1) = mkv (k + ((j * 5 + 2 : Nat) : Int)) (KPtrS.getD ((j * 5 + 2) % KPtrS.length) undef) := by
     have e1 : (j * 5 + 2) % KPtrS.length = 2 := by show (j * 5 + 2) % 5 = 2; omega
     have e2 : k + ((j * 5 + 2 : Nat) : Int) = z + 1 + 1 := by have := HZ.out; push_cast; omega
     rw [e1, e2]; rfl
    have m3 := HasMarks.step m2 (by have := HC.out; (try simp only [Array.size_setIfInBounds]); omega) kv2
    have kv3 : .int .i64 (z + 1 + 1 + 1) = mkv (k + ((j * 5 + 3 : Nat) : Int)) (KPtrS.getD ((j * 5 + 3) % KPtrS.length) undef) := by
     have e1 : (j * 5 + 3) % KPtrS.length = 3 := by show (j * 5 + 3) % 5 = 3; omega
     have e2 : k + ((j * 5 + 3 : Nat) : Int) = z + 1 + 1 + 1 := by have := HZ.out; push_cast; omega
     rw [e1, e2]; rfl
    have m4 := HasMarks.step m3 (by have := HC.out; (try simp only [Array.size_setIfInBounds]); omega) kv3
    have kv4 : .int .i64 (z + 1 + 1 + 1 + 1) = mkv (k + ((j * 5 + 4 : Nat) : Int)) (KPtrS.getD ((j * 5 + 4) % KPtrS.length) undef) := by
     have e1 : (j * 5 + 4) % KPtrS.length = 4 := by show (j * 5 + 4) % 5 = 4; omega
     have e2 : k + ((j * 5 + 4 : Nat) : Int) = z + 1 + 1 + 1 + 1 := by have := HZ.out; push_cast; omega
     rw [e1, e2]; rfl
    have m5 := HasMarks.step m4 (by have := HC.out; (try simp only [Array.size_setIfInBounds]); omega) kv4
    refine ⟨j + 1, z + 1 + 1 + 1 + 1 + 1, (Array.setIfInBounds (Array.setIfInBounds (Array.setIfInBounds (Array.setIfInBounds (Array.setIfInBounds cu (j * 5) (.int .i64 (z))) (j * 5 + 1) (.int .i64 (z + 1))) (j * 5 + 2) (.int .i64 (z + 1 + 1))) (j * 5 + 3) (.int .i64 (z + 1 + 1 + 1))) (j * 5 + 4) (.int .i64 (z + 1 + 1 + 1 + 1))), by omega, by go_num, by first | rfl | (congr 1; omega), by omega, by omega, Lib.hid (by have := HZ.out; push_cast; omega), Lib.hid (block_set (block_set (block_set (block_set (block_set HG.out))))), Lib.hid (by simpa using HC.out), Lib.hid ?_, Lib.hid (Chg.setCell (p := ⟨g, _, none⟩) (Chg.setCell (p := ⟨g, _, none⟩) (Chg.setCell (p := ⟨g, _, none⟩) (Chg.setCell (p := ⟨g, _, none⟩) (Chg.setCell (p := ⟨g, _, none⟩) HX.out (.inl ⟨0, rfl⟩) _) (.inl ⟨0, rfl⟩) _) (.inl ⟨0, rfl⟩) _) (.inl ⟨0, rfl⟩) _) (.inl ⟨0, rfl⟩) _)⟩
    rw [show (j + 1) * 5 = j * 5 + 1 + 1 + 1 + 1 + 1 by omega]; exact m5
   simp [intOf]; omega
 obtain rfl : j = n := by omega
 go_wp2_with fail
 go_ret
 exact ⟨ret_int HZ.out, HM.out.at_ HG.out, .inr ⟨g, cu, rfl, hlo, hhi, HG.out, HC.out, hnc⟩, HX.out.mono fun b _ h => ⟨hnp, h⟩⟩
end Go.Proofs.YtlacpcdbgimnmaaGreatDoor
namespace Go.Proofs.YtlacpcdbgimnmaaGreatDoor
open Go.RowKit
theorem Whole.sameL {w w' : World} {T : TypeId} {sz lo hi : Nat} {A : Option Addr} {n c : Nat} (h : Whole w T sz lo hi A n c) (hk : 0 < c → ∀ b, blkOf A b → b < w.heap.size → w'.heap[b]? = w.heap[b]?) : Whole w' T sz lo hi A n c := by
 rcases h with h | ⟨g, cur, rfl, h2, h3, h4, h5⟩
 · exact .inl h
 rcases Nat.eq_zero_or_pos c with h0 | h0
 · exact .inl ⟨by have := h5.2.1; omega, h0⟩
 exact .inr ⟨g, cur, rfl, h2, h3, (hk h0 g ⟨0, rfl⟩ (Array.getElem?_eq_some_iff.1 h4).1).trans h4, h5⟩
theorem Whole.inL {w : World} {T : TypeId} {sz lo hi : Nat} {A : Option Addr} {n c b : Nat} (h : Whole w T sz lo hi A n c) (hc : 0 < c) (hb : blkOf A b) : lo ≤ b ∧ b < hi := by
 rcases h with h | ⟨g, cur, rfl, h2, h3, _⟩
 · omega
 rw [blkOf_iff] at hb; subst hb; exact ⟨h2, h3⟩
theorem MarkedAt.sameL {w w' : World} {K : List Value} {k : Int} {A : Option Addr} {m : Nat} (h : MarkedAt w K k A m) (hz : w.heap.size ≤ w'.heap.size) (hk : 0 < m → ∀ b, blkOf A b → b < w.heap.size → w'.heap[b]? = w.heap[b]?) : MarkedAt w' K k A m := by
 intro hm
 obtain ⟨b, off, hA, hb, hc⟩ := h hm
 exact ⟨b, off, hA, by omega, fun j hj => (World.cell?_of_block (hk hm b ⟨off, hA⟩ hb)).trans (hc j hj)⟩
def HdW (o : Nat → Nat) (w : World) (lo hi : Nat) (cur : Array Value) (p m lab : Nat) : Prop :=
 ∃ A c, cur[p]? = some (.slice A m c) ∧ Whole w 37 5 lo hi A m c ∧ (0 < c → ∀ b, blkOf A b → o b = lab)
theorem HdW.keep {o : Nat → Nat} {w w' : World} {lo hi p m lab : Nat} {cur cur' : Array Value} (h : HdW o w lo hi cur p m lab) (hc : cur'[p]? = cur[p]?) (hk : ∀ b, b < w.heap.size → o b = lab → w'.heap[b]? = w.heap[b]?) : HdW o w' lo hi cur' p m lab := by
 obtain ⟨A, c, h1, h2, h3⟩ := h
 exact ⟨A, c, hc.trans h1, h2.sameL (fun h0 b hb hlt => hk b hlt (h3 h0 b hb)), h3⟩
def ArrW (o : Nat → Nat) (T : TypeId) (sz dp lb G : Nat) (w : World) (lo hi : Nat) (A : Option Addr) (n c : Nat) (ns : List Nat) : Prop :=
 ns.length = n ∧ (0 < n → ∃ g cur, A = some ⟨g, 0, none⟩ ∧ lo ≤ g ∧ g < hi ∧ o g = G ∧ w.heap[g]? = some (.cells cur T (0, 0)) ∧ cur.size = c * sz ∧ n ≤ c ∧ c ≤ maxLen ∧ ∀ l m, ns[l]? = some m → HdW o w lo hi cur (l * sz + dp) m (lb + l))
def nsum (sc : Nat) (ns : List Nat) (j : Nat) : Nat := ((ns.take j).map (fun m => sc + m * 5)).sum
theorem nsum_succ {sc : Nat} {ns : List Nat} {j m : Nat} (h : ns[j]? = some m) : nsum sc ns (j + 1) = nsum sc ns j + (sc + m * 5) := sum_take (fun m => sc + m * 5) h
theorem nsum_mono (sc : Nat) (ns : List Nat) {i j : Nat} (h : i ≤ j) : nsum sc ns i ≤ nsum sc ns j := by
 unfold nsum
 rw [← List.take_append_drop i (ns.take j), List.take_take, Nat.min_eq_left h, List.map_append, List.sum_append]
 omega
def MkRow (row : Int → Nat → Option Addr → Nat → List Value) (pre : Nat) (o : Nat → Nat) (w : World) (k : Int) (cur : Array Value) (p m lab : Nat) : Prop :=
 ∃ A c, (∀ i v, (row k m A c)[i]? = some v → cur[p + i]? = some v) ∧ MarkedAt w KPtrS (k + pre) A (m * 5) ∧ (0 < m → ∀ b, blkOf A b → o b = lab)
theorem MkRow.keep {row : Int → Nat → Option Addr → Nat → List Value} {sz pre : Nat} (hrow : ∀ k m A c, (row k m A c).length = sz) {o : Nat → Nat} {w w' : World} {k : Int} {cur cur' : Array Value} {p m lab : Nat} (h : MkRow row pre o w k cur p m lab) (hz : w.heap.size ≤ w'.heap.size) (hc : ∀ i, i < sz → cur'[p + i]? = cur[p + i]?)
 (hk : ∀ b, b < w.heap.size → o b = lab → w'.heap[b]? = w.heap[b]?) : MkRow row pre o w' k cur' p m lab := by
 obtain ⟨A, c, h1, h2, h3⟩ := h
 refine ⟨A, c, fun i v hv => (hc i ?_).trans (h1 i v hv), h2.sameL hz (fun hm b hb hlt => hk b hlt (h3 (by omega) b hb)), h3⟩
 have := (List.getElem?_eq_some_iff.1 hv).1
 rw [hrow] at this; exact this
def MarkedL (row : Int → Nat → Option Addr → Nat → List Value) (sz sc pre : Nat) (o : Nat → Nat) (T : TypeId) (lb G : Nat) (w : World) (k : Int) (A : Option Addr) (n : Nat) (ns : List Nat) : Prop :=
 ns.length = n ∧ (0 < n → ∃ g cur, A = some ⟨g, 0, none⟩ ∧ o g = G ∧ w.heap[g]? = some (.cells cur T (0, 0)) ∧ ∀ l m, ns[l]? = some m → MkRow row pre o w (k + nsum sc ns l) cur (l * sz) m (lb + l))
theorem MarkedL.keep {row : Int → Nat → Option Addr → Nat → List Value} {sz sc pre : Nat} (hrow : ∀ k m A c, (row k m A c).length = sz) {o : Nat → Nat} {T : TypeId} {lb G : Nat} {w w' : World} {k : Int} {A : Option Addr} {n : Nat} {ns : List Nat} (h : MarkedL row sz sc pre o T lb G w k A n ns) (hz : w.heap.size ≤ w'.heap.size)
 (hk : ∀ b, b < w.heap.size → (o b = G ∨ (lb ≤ o b ∧ o b < lb + n)) → w'.heap[b]? = w.heap[b]?) : MarkedL row sz sc pre o T lb G w' k A n ns := by
 refine ⟨h.1, fun hn => ?_⟩
 obtain ⟨g, cur, rfl, ho, hg, hm⟩ := h.2 hn
 refine ⟨g, cur, rfl, ho, (hk g (Array.getElem?_eq_some_iff.1 hg).1 (.inl ho)).trans hg, fun l m hl => (hm l m hl).keep hrow hz (fun _ _ => rfl) (fun b hb hob => hk b hb (.inr ?_))⟩
 have := (List.getElem?_eq_some_iff.1 hl).1
 have := h.1
 omega
theorem MarkedL.below {row : Int → Nat → Option Addr → Nat → List Value} {sz sc pre : Nat} (hrow : ∀ k m A c, (row k m A c).length = sz) {o : Nat → Nat} {T : TypeId} {lb G : Nat} {w w' : World} {k : Int} {A : Option Addr} {n : Nat} {ns : List Nat} (h : MarkedL row sz sc pre o T lb G w k A n ns) (hb : Below w.heap.size w w') : MarkedL row sz sc pre o T lb G w' k A n ns :=
 h.keep hrow hb.size (fun b hlt _ => hb.block b hlt)
def MkI (row : Int → Nat → Option Addr → Nat → List Value) (sz sc dp pre : Nat) (o : Nat → Nat) (T : TypeId) (lb G : Nat) (w : World) (lo hi g c : Nat) (k : Int) (ns : List Nat) (j : Nat) (wr : World) : Prop :=
 ∃ cur, wr.heap[g]? = some (.cells cur T (0, 0)) ∧ cur.size = c * sz ∧ (∀ l m, ns[l]? = some m → HdW o wr lo hi cur (l * sz + dp) m (lb + l)) ∧ (∀ l m, l < j → ns[l]? = some m → MkRow row pre o wr (k + nsum sc ns l) cur (l * sz) m (lb + l)) ∧ Chg (fun b => lo ≤ b ∧ b < hi ∧ (o b = G ∨ (lb ≤ o b ∧ o b < lb + ns.length))) w wr
theorem row_far {j l sz i : Nat} (h : l ≠ j) (hi : i < sz) : l * sz + i < j * sz ∨ j * sz + sz ≤ l * sz + i := by
 rcases Nat.lt_or_ge l j with h1 | h1
 · left
   have : (l + 1) * sz ≤ j * sz := Nat.mul_le_mul_right _ h1
   rw [Nat.add_mul, Nat.one_mul] at this
   omega
 right
 have : (j + 1) * sz ≤ l * sz := Nat.mul_le_mul_right _ (by omega)
 rw [Nat.add_mul, Nat.one_mul] at this
 omega
theorem MkI.step {row : Int → Nat → Option Addr → Nat → List Value} {sz sc dp pre : Nat} (hrow : ∀ k m A c, (row k m A c).length = sz) (hdp : ∀ k m A c, (row k m A c)[dp]? = some (.slice A m c)) {o : Nat → Nat} {T : TypeId} {lb G : Nat} (hG : ∀ l, l < 100 → lb + l ≠ G) {w wr wA w2 w3 : World} {lo hi g c : Nat} {k z : Int} {ns : List Nat} {j m c' : Nat} {A : Option Addr} {cur cur3 : Array Value}
 (hn : ns.length ≤ 100) (hx : ns[j]? = some m) (hz : z = k + nsum sc ns j) (hgl : lo ≤ g) (hgh : g < hi) (hog : o g = G) (hg : wr.heap[g]? = some (.cells cur T (0, 0))) (hcs : cur.size = c * sz)
 (hW : ∀ l m, ns[l]? = some m → HdW o wr lo hi cur (l * sz + dp) m (lb + l)) (hM : ∀ l m, l < j → ns[l]? = some m → MkRow row pre o wr (k + nsum sc ns l) cur (l * sz) m (lb + l)) (hC : Chg (fun b => lo ≤ b ∧ b < hi ∧ (o b = G ∨ (lb ≤ o b ∧ o b < lb + ns.length))) w wr)
 (q0 : cur[j * sz + dp]? = some (.slice A m c')) (hA : Chg (fun b => b = g) wr wA) (mk : MarkedAt w2 KPtrS (z + pre) A (m * 5)) (wh : Whole w2 37 5 lo hi A m c') (hc : Chg (fun b => 0 < m ∧ blkOf A b) wA w2) (hB : Chg (fun b => b = g) w2 w3)
 (hg3 : w3.heap[g]? = some (.cells cur3 T (0, 0))) (hs3 : cur3.size = cur.size) (hr3 : ∀ i v, (row z m A c')[i]? = some v → cur3[j * sz + i]? = some v) (ho3 : ∀ i, i < j * sz ∨ j * sz + sz ≤ i → cur3[i]? = cur[i]?) :
 MkI row sz sc dp pre o T lb G w lo hi g c k ns (j + 1) w3 := by
 have hj := (List.getElem?_eq_some_iff.1 hx).1
 have hzA := hA.size; have hz2 := hc.size; have hz3 := hB.size
 have hdlt : dp < sz := by have := (List.getElem?_eq_some_iff.1 (hdp z m A c')).1; rw [hrow] at this; exact this
 have hL : 0 < c' → ∀ b, blkOf A b → o b = lb + j := by
  obtain ⟨A', c'', e, _, h3⟩ := hW j m hx
  rw [q0] at e
  injection e with e; injection e with e1 e2 e3; subst e1 e3
  exact h3
 have hfar : ∀ l, l < ns.length → l ≠ j → ∀ b, b < wr.heap.size → o b = lb + l → w3.heap[b]? = wr.heap[b]? := fun l hl hlj b hb hob => by
  have hbg : b ≠ g := fun e => by subst e; exact hG l (by omega) (hob.symm.trans hog)
  refine (hB.block b (by omega) hbg).trans ((hc.block b (by omega) (fun h => ?_)).trans (hA.block b hb hbg))
  have := hL (wh.pos h.1) b h.2
  omega
 have hown : ∀ b, b < w2.heap.size → o b = lb + j → w3.heap[b]? = w2.heap[b]? := fun b hb hob => hB.block b hb (fun e => by subst e; exact hG j (by omega) (hob.symm.trans hog))
 refine ⟨cur3, hg3, hs3.trans hcs, fun l y hy => ?_, fun l y hl hy => ?_, ?_⟩
 · by_cases hlj : l = j
   · subst hlj
     rw [hx] at hy; obtain rfl := Option.some.inj hy
     exact ⟨A, c', hr3 dp _ (hdp _ _ _ _), wh.sameL (fun h0 b hb hlt => hown b hlt (hL h0 b hb)), hL⟩
   have hll := (List.getElem?_eq_some_iff.1 hy).1
   exact (hW l y hy).keep (ho3 _ (row_far hlj hdlt)) (hfar l hll hlj)
 · by_cases hlj : l = j
   · subst hlj
     rw [hx] at hy; obtain rfl := Option.some.inj hy
     rw [← hz]
     exact ⟨A, c', hr3, mk.sameL hz3 (fun hm b hb hlt => hown b hlt (hL (wh.pos (by omega)) b hb)), fun hm b hb => hL (wh.pos hm) b hb⟩
   have hll := (List.getElem?_eq_some_iff.1 hy).1
   exact (hM l y (by omega) hy).keep hrow (by omega) (fun i hi => ho3 _ (row_far hlj hi)) (hfar l hll hlj)
 refine hC.trans ((hA.mono fun b _ h => ?_).trans ((hc.mono fun b _ h => ?_).trans (hB.mono fun b _ h => ?_)))
 · subst h; exact ⟨hgl, hgh, .inl hog⟩
 · have := wh.inL (wh.pos h.1) h.2
   exact ⟨this.1, this.2, .inr (by rw [hL (wh.pos h.1) b h.2]; omega)⟩
 subst h; exact ⟨hgl, hgh, .inl hog⟩
def PutRow (cur cur' : Array Value) (p : Nat) (vs : List Value) : Prop := cur'.size = cur.size ∧ (∀ i v, vs[i]? = some v → cur'[p + i]? = some v) ∧ ∀ i, i < p ∨ p + vs.length ≤ i → cur'[i]? = cur[i]?
theorem PutRow.nil (cur : Array Value) (p : Nat) : PutRow cur cur p [] := ⟨rfl, fun i v h => by simp at h, fun _ _ => rfl⟩
theorem PutRow.set {cur cur' : Array Value} {p n : Nat} {vs : List Value} (h : PutRow cur cur' p vs) (v : Value) (hn : vs.length = n) (hp : p + n < cur.size) : PutRow cur (cur'.setIfInBounds (p + n) v) p (vs ++ [v]) := by
 subst hn
 refine ⟨by simpa using h.1, fun i u hu => ?_, fun i hi => ?_⟩
 · have hlt := (List.getElem?_eq_some_iff.1 hu).1
   simp at hlt
   rw [Array.getElem?_setIfInBounds]
   by_cases hi : i < vs.length
   · rw [if_neg (by omega)]
     rw [List.getElem?_append_left hi] at hu
     exact h.2.1 i u hu
   obtain rfl : i = vs.length := by omega
   rw [if_pos rfl, if_pos (by rw [h.1]; exact hp)]
   simpa using hu
 simp at hi
 rw [Array.getElem?_setIfInBounds, if_neg (by omega)]
 exact h.2.2 i (by omega)
theorem PutRow.skip {cur cur' : Array Value} {p n : Nat} {vs : List Value} (h : PutRow cur cur' p vs) {v : Value} (hn : vs.length = n) (hv : cur[p + n]? = some v) : PutRow cur cur' p (vs ++ [v]) := by
 subst hn
 refine ⟨h.1, fun i u hu => ?_, fun i hi => h.2.2 i (by simp at hi; omega)⟩
 by_cases hi : i < vs.length
 · rw [List.getElem?_append_left hi] at hu
   exact h.2.1 i u hu
 have hlt := (List.getElem?_eq_some_iff.1 hu).1
 simp at hlt
 obtain rfl : i = vs.length := by omega
 rw [h.2.2 _ (by omega), hv]
 simpa using hu
end Go.Proofs.YtlacpcdbgimnmaaGreatDoor
