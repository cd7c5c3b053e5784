/- look of the program: the text of the last waiting write to a cell, or the cell's. No condition. -/
import Derived.Test.YtggdjiklgakfnaaGreatDoorDiskLose
import Derived.RangeFuncNested
import Derived.RangeFuncBound
import Derived.RangeFuncCalls
import Derived.RangeFuncLeaves
import Derived.Shelf.Abstract
import Derived.Shelf.RegionOpen
import Derived.WalkKit
import Derived.OwnWalkIn
import Derived.TacticsInMore
import Derived.LoopNIn
import Derived.LoopIn
namespace Go.Proofs.YtggdjiklgakfnaaGreatDoor
set_option linter.unusedVariables false
set_option linter.unusedSimpArgs false
set_option linter.unnecessarySimpa false
open Go.RowKit Go.Shelf
attribute [local go_sem] Oper.semAt_some

def uptoF {α : Type} (f : Nat → α) (k : Nat) : List α := (List.range k).map f
theorem uptoF_succ {α : Type} (f : Nat → α) (k : Nat) : uptoF f (k + 1) = uptoF f k ++ [f k] := by simp [uptoF, List.range_succ]
theorem uptoF_length {α : Type} (f : Nat → α) (k : Nat) : (uptoF f k).length = k := by simp [uptoF]
abbrev BackD := Nat × WaitD
def backF (xs : List WaitD) (j : Nat) : BackD := (xs.length - 1 - j, xs.reverse[j]?.getD (0, ByteArray.empty))
def backE (x : BackD) : Array Value := #[.int .i64 (x.1 : Int), .agg #[.int .i64 x.2.1, .string x.2.2]]
theorem uptoF_snd (xs : List WaitD) {k : Nat} (hk : k ≤ xs.length) : (uptoF (backF xs) k).map (·.2) = xs.reverse.take k := by
  apply List.ext_getElem
  · simp [uptoF, hk]
  · intro i h1 h2
    have : i < xs.reverse.length := by simp [uptoF] at h1; simp; omega
    simp [uptoF, backF, List.getElem?_eq_getElem this]
theorem rev_get (xs : List WaitD) {k : Nat} (hk : k < xs.length) : xs.reverse[k]?.getD (0, ByteArray.empty) = xs[xs.length - 1 - k]'(by omega) := by
  rw [List.getElem?_eq_getElem (by simpa using hk)]
  simp [List.getElem_reverse]
set_option maxRecDepth 100000 in
set_option maxHeartbeats 2000000 in
theorem back1_in (F : Fence) (n : Nat) (hf : F.fn 98) (hro : F.round = none) (hn : 1 ≤ n) (l Bs n₀ b off cap : Nat) (xs : List WaitD) (hb : b < n₀) (hlen : xs.length ≤ 9223372036854775807) (J Jx : List BackD → World → Prop)
    (hY : ∀ pre x W, J pre W → pre.length < xs.length → YieldAt F (n - 1) Tryz.prog l (backE x) W fun e W' =>
      (e = .returned (.bool true) ∧ J (pre ++ [x]) W' ∧ Below n₀ W W') ∨ (e = .returned (.bool false) ∧ Jx (pre ++ [x]) W'))
    (W : World) (hBs : W.cell? ⟨Bs, 0, none⟩ = some (.slice (some ⟨b, off, none⟩) xs.length cap)) (hBn : Bs < n₀)
    (hc : ∀ j x, xs[j]? = some x → W.cell? ⟨b, off + j * 2, none⟩ = some (.int .i64 x.1) ∧ W.cell? ⟨b, off + j * 2 + 1, none⟩ = some (.string x.2)) (h0 : J [] W) :
    CallsIn F n Tryz.prog 98 #[.func (.yield l) #[] #[], .pointer (some ⟨Bs, 0, none⟩)] W fun e W' => (∃ v, e = .returned v) ∧
      ((∃ ys, ys = uptoF (backF xs) xs.length ∧ J ys W') ∨ (∃ pre, (∃ k, k ≤ xs.length ∧ pre = uptoF (backF xs) k) ∧ Jx pre W')) := by
  refine callsIn_of_wp Tryz.func98 rfl hf ?_ hro
  simp only [Tryz.ntmps98, List.size_toArray, List.length_cons, List.length_nil, Nat.reduceAdd, Nat.reduceSub, Array.replicate_succ, Array.replicate_zero, List.push_toArray, List.append_toArray, List.nil_append, List.cons_append]
  obtain ⟨len, hL⟩ : ∃ m, m = xs.length := ⟨_, rfl⟩
  rw [← hL] at hBs hlen
  have HL := Lib.hid hL
  have HC := Lib.hid hc
  clear hL hc
  gi_wp2
  gi_loopw [3] (fun i wr => ∃ k : Nat, k ≤ len ∧ i = .int .i64 ((len : Int) - 1 - (k : Int)) ∧ J (uptoF (backF xs) k) wr ∧ Below n₀ W wr)
    (fun i _ => (RowKit.intOf i + 1).toNat)
  case atStart => exact ⟨0, Nat.zero_le _, by simp, h0, Below.refl _ _⟩
  case round =>
    obtain ⟨k, hk, rfl, hJs, hnx⟩ := hrel
    have hBs' := (hnx.cell (p := ⟨Bs, 0, none⟩) hBn).trans hBs
    by_cases hlt : k < len
    · obtain ⟨m, hm⟩ : ∃ m : Nat, m + k + 1 = len := ⟨len - 1 - k, by omega⟩
      have hmi : (len : Int) - 1 - (k : Int) = (m : Int) := by omega
      have hml : m < xs.length := by rw [← HL.out]; omega
      obtain ⟨q0, q1⟩ := HC.out m xs[m] (List.getElem?_eq_getElem hml)
      have q0 := (hnx.cell (p := ⟨b, off + m * 2, none⟩) hb).trans q0
      have q1 := (hnx.cell (p := ⟨b, off + m * 2 + 1, none⟩) hb).trans q1
      have hbk : backF xs k = (m, xs[m]) := by
        unfold backF
        rw [rev_get xs (by rw [← HL.out]; exact hlt)]
        have e : xs.length - 1 - k = m := by rw [← HL.out]; omega
        simp only [e]
      have hx : xs[m] = (xs[m].1, xs[m].2) := rfl
      obtain ⟨va, hva⟩ : ∃ v, v = xs[m].1 := ⟨_, rfl⟩
      obtain ⟨vs, hvs⟩ : ∃ v, v = xs[m].2 := ⟨_, rfl⟩
      rw [← hva] at q0; rw [← hvs] at q1
      have hbk2 : backF xs k = (m, (va, vs)) := by rw [hbk, hva, hvs]
      obtain ⟨fn, tmps, assign, body, hy, hR⟩ := hY _ (m, (va, vs)) wr hJs (by rw [uptoF_length, ← HL.out]; exact hlt)
      dsimp only [backE] at hy
      have HBK := Lib.hid hbk2
      clear hbk hbk2 hva hvs hx
      rw [hmi]
      have k0 : (0 : Int) ≤ (m : Int) := by omega
      have k1 : (m : Int) < (len : Int) := by omega
      have HMI := Lib.hid hmi
      have HM := Lib.hid hm
      clear hmi hm
      gi_wp2
      refine hR.mono ?_
      rintro e W3 (⟨rfl, hJ3, hk3⟩ | ⟨rfl, hJx3⟩)
      · gi_wp2
        go_roundw
        case rel => exact ⟨k + 1, by omega, by have := HM.out; congr 1; omega, by rw [uptoF_succ, HBK.out]; exact hJ3, hnx.trans hk3⟩
        case measure => simp [RowKit.intOf] <;> omega
      · gi_wp2
        refine bodyPost_ret (results_none rfl _ _ _) rfl ?_
        exact ⟨⟨_, rfl⟩, .inr ⟨_, ⟨k + 1, by rw [← HL.out]; omega, by rw [uptoF_succ, HBK.out]⟩, hJx3⟩⟩
    · obtain rfl : k = len := by omega
      have hmi : (k : Int) - 1 - (k : Int) = -1 := by omega
      rw [hmi]
      gi_wp2
      go_end0
      exact ⟨⟨_, rfl⟩, .inl ⟨_, by rw [HL.out], hJs⟩⟩
set_option maxRecDepth 100000 in
set_option maxHeartbeats 1000000 in
theorem back0_in (F : Fence) (n : Nat) (hf : F.fn 98) (hro : F.round = none) (l Bs cap : Nat) (A : Option Addr) (J : List BackD → World → Prop) (W : World) (hBs : W.cell? ⟨Bs, 0, none⟩ = some (.slice A 0 cap)) (h0 : J [] W) :
    CallsIn F n Tryz.prog 98 #[.func (.yield l) #[] #[], .pointer (some ⟨Bs, 0, none⟩)] W fun e W' => (∃ v, e = .returned v) ∧ J [] W' := by
  refine callsIn_of_wp Tryz.func98 rfl hf ?_ hro
  simp only [Tryz.ntmps98, List.size_toArray, List.length_cons, List.length_nil, Nat.reduceAdd, Nat.reduceSub, Array.replicate_succ, Array.replicate_zero, List.push_toArray, List.append_toArray, List.nil_append, List.cons_append]
  gi_wp2
  gi_loopw [3] (fun i wr => i = .int .i64 (-1) ∧ J [] wr) (fun _ _ => 0)
  case atStart => exact ⟨by simp, h0⟩
  case round =>
    obtain ⟨rfl, hJs⟩ := hrel
    gi_wp2
    go_end0
    exact ⟨⟨_, rfl⟩, hJs⟩
set_option maxHeartbeats 1000000 in
theorem back_in (F : Fence) (n : Nat) (hf : F.fn 72) (hro : F.round = none) (a : Option Addr) (len cap : Nat) (w : World) :
    CallsIn F n Tryz.prog 72 #[.slice a len cap] w fun e w' => e = .returned (.func (.func 98) #[] #[.pointer (some ⟨w.heap.size, 0, none⟩)]) ∧ w' = w.alloc (.cells #[.slice a len cap] 68) := by
  refine callsIn_of_wp Tryz.func72 rfl hf ?_ hro
  simp only [Tryz.ntmps72, List.size_toArray, List.length_cons, List.length_nil, Nat.reduceAdd, Nat.reduceSub, Array.replicate_succ, Array.replicate_zero, List.push_toArray, List.append_toArray, List.nil_append, List.cons_append]
  gi_wp2
  go_ret
  exact ⟨rfl, rfl⟩
/-- The slice value holds the waits, in a block below n₀; or it is empty. -/
def WaitsUnd (n₀ : Nat) (W : World) (sv : Value) (xs : List WaitD) : Prop :=
  (∃ A c, sv = .slice A 0 c ∧ xs = []) ∨ ∃ b off cap, sv = .slice (some ⟨b, off, none⟩) xs.length cap ∧ b < n₀ ∧ ∀ j x, xs[j]? = some x → W.cell? ⟨b, off + j * 2, none⟩ = some (.int .i64 x.1) ∧ W.cell? ⟨b, off + j * 2 + 1, none⟩ = some (.string x.2)
theorem WaitsUnd.below {n₀ : Nat} {A B : World} (h : Below n₀ A B) {sv : Value} {xs : List WaitD} : WaitsUnd n₀ A sv xs → WaitsUnd n₀ B sv xs
  | .inl e => .inl e
  | .inr ⟨b, off, cap, e, hb, hc⟩ => .inr ⟨b, off, cap, e, hb, fun j x hx => ⟨(h.cell (p := ⟨b, off + j * 2, none⟩) hb).trans (hc j x hx).1, (h.cell (p := ⟨b, off + j * 2 + 1, none⟩) hb).trans (hc j x hx).2⟩⟩
theorem WaitsUnd.mono {n₀ m : Nat} {W : World} (h : n₀ ≤ m) {sv : Value} {xs : List WaitD} : WaitsUnd n₀ W sv xs → WaitsUnd m W sv xs
  | .inl e => .inl e
  | .inr ⟨b, off, cap, e, hb, hc⟩ => .inr ⟨b, off, cap, e, Nat.lt_of_lt_of_le hb h, hc⟩
theorem back_stops (F : Fence) (n : Nat) (hf : F.fn 98) (hro : F.round = none) (hn : 1 ≤ n) (Bs n₀ : Nat) (sv : Value) (xs : List WaitD) (hlen : xs.length ≤ 9223372036854775807) (w : World) (hBs : Bs < w.heap.size) (hn₀ : n₀ ≤ w.heap.size) (hBn : Bs < n₀)
    (hc : w.cell? ⟨Bs, 0, none⟩ = some sv) (hI : WaitsUnd n₀ w sv xs) :
    SeqStopsK F n Tryz.prog 98 #[.pointer (some ⟨Bs, 0, none⟩)] backE (Below n₀) (fun ys => ys = uptoF (backF xs) xs.length) (fun pre => ∃ k, k ≤ xs.length ∧ pre = uptoF (backF xs) k) xs.length w := fun l J Jx W hW _ _ hY h0 => by
  have hc' := (hW.cell (p := ⟨Bs, 0, none⟩) hBs).trans hc
  rcases hI.below (hW.mono hn₀) with ⟨A, c, rfl, rfl⟩ | ⟨b, off, cap, rfl, hb, hcs⟩
  · exact (back0_in F n hf hro l Bs c A J W hc' h0).mono fun e W' ⟨he, hj⟩ => ⟨he, .inl ⟨_, rfl, hj⟩⟩
  · exact back1_in F n hf hro hn l Bs n₀ b off cap xs hb hlen J Jx hY W hc' hBn hcs h0
/-- The text of the last wait at a place, else the cell's. -/
def lookD (x : DiskD) (a : Int) : ByteArray := match x.2.1.reverse.find? (fun w => decide (w.1 = a)) with
  | some w => w.2
  | none => x.1.getD a.toNat ByteArray.empty
theorem look_none {x : DiskD} {a : Int} (h : ∀ p ∈ uptoF (backF x.2.1) x.2.1.length, p.2.1 ≠ a) : lookD x a = x.1.getD a.toNat ByteArray.empty := by
  have hm := uptoF_snd x.2.1 (Nat.le_refl _)
  rw [List.take_of_length_le (by simp)] at hm
  unfold lookD
  rw [← hm]
  have : ((uptoF (backF x.2.1) x.2.1.length).map (·.2)).find? (fun w => decide (w.1 = a)) = none := by
    rw [List.find?_eq_none]
    intro w hw
    obtain ⟨p, hp, rfl⟩ := List.mem_map.1 hw
    simpa using h p hp
  rw [this]
theorem look_some {x : DiskD} {a : Int} {k : Nat} (hk : k ≤ x.2.1.length) {ini : List BackD} {last : BackD} (h : uptoF (backF x.2.1) k = ini ++ [last]) (h1 : ∀ p ∈ ini, p.2.1 ≠ a) (h2 : last.2.1 = a) : lookD x a = last.2.2 := by
  have hm := uptoF_snd x.2.1 hk
  rw [h, List.map_append, List.map_singleton] at hm
  have e : x.2.1.reverse = (ini.map (·.2) ++ [last.2]) ++ x.2.1.reverse.drop k := by rw [hm, List.take_append_drop]
  unfold lookD
  rw [e, List.append_assoc, List.find?_append]
  have : (ini.map (·.2)).find? (fun w => decide (w.1 = a)) = none := by
    rw [List.find?_eq_none]
    intro w hw
    obtain ⟨p, hp, rfl⟩ := List.mem_map.1 hw
    simpa using h1 p hp
  rw [this]
  simp [h2]
set_option maxRecDepth 100000 in
set_option maxHeartbeats 4000000 in
theorem look_any (cs : List Value) (x : DiskD) (k : Nat) (w : World) (lo hi : Nat) (h : DiskR w lo hi cs x) (hk : k < x.1.length) :
    Calls Tryz.prog 42 #[.agg cs.toArray, .int .i64 (k : Int)] w fun e w' => e = .returned (.string (lookD x (k : Int))) ∧ Below w.heap.size w w' := by
  obtain ⟨A0, n0, c0, A1, n1, c1, rfl, h0, h1⟩ := h
  have hn0 := h0.len
  have hn1 := h1.len
  have hm1 := h1.max
  have hm1' : x.2.1.length ≤ 9223372036854775807 := by omega
  obtain ⟨u, hu⟩ : ∃ u, x.1[k]? = some u := ⟨x.1[k], List.getElem?_eq_getElem hk⟩
  have hug : x.1.getD (k : Int).toNat ByteArray.empty = u := by simp [List.getD, hu]
  obtain ⟨ba, oa, rfl, _, _, hba, hca⟩ := h0.at_ (by omega)
  obtain ⟨csa, _, hcsa, rfl, _⟩ := hca k u hu
  have qa := hcsa 0 _ rfl
  simp only [Nat.mul_one, Nat.add_zero] at qa
  have hWT : WaitsUnd w.heap.size w (.slice A1 n1 c1) x.2.1 := by
    by_cases hz : n1 = 0
    · subst hz
      exact .inl ⟨A1, c1, rfl, List.length_eq_zero_iff.1 hn1⟩
    · obtain ⟨b, off, rfl, _, _, hb, hc⟩ := h1.at_ (by omega)
      refine .inr ⟨b, off, c1, by rw [hn1], hb, fun j y hy => ?_⟩
      obtain ⟨cj, _, hcj, rfl, _⟩ := hc j y hy
      exact ⟨by simpa using hcj 0 _ rfl, by simpa using hcj 1 _ rfl⟩
  have kk0 : (0 : Int) ≤ (k : Int) := by omega
  have kk1 : (k : Int) < (n0 : Int) := by omega
  refine (callsIn_wide (n := 9)).1 ?_
  refine callsIn_of_wp_marks Tryz.func42 rfl trivial ?_ rfl
  simp only [Tryz.ntmps42, List.size_toArray, List.length_cons, List.length_nil, Nat.reduceAdd, Nat.reduceSub, Array.replicate_succ, Array.replicate_zero, List.push_toArray, List.append_toArray, List.nil_append, List.cons_append]
  have HWT := Lib.hid hWT; have HUG := Lib.hid hug
  clear hWT h0 h1 hca hcsa hu hug hn1 hn0 hk
  gi_wp2
  refine ⟨trivial, (back_in Fence.wide 8 trivial rfl _ _ _ _).mono ?_⟩
  rintro e w' ⟨rfl, rfl⟩
  gi_wp2
  obtain ⟨W0, hW0⟩ : ∃ W0, W0 = (((w.alloc (.cells #[.slice (some ⟨ba, oa, none⟩) n0 c0, .slice A1 n1 c1, .bool x.2.2] 70)).alloc (.cells #[.int .i64 (k : Int)] 3)).alloc (.cells #[.string ⟨#[]⟩] 9)).alloc (.cells #[.slice A1 n1 c1] 68) := ⟨_, rfl⟩
  have hB0 : Below w.heap.size w W0 := by rw [hW0]; exact (((((Below.refl _ w).alloc (Nat.le_refl _) _).alloc (by simp) _).alloc (by simp; omega) _).alloc (by simp; omega) _)
  have hsz : W0.heap.size = w.heap.size + 4 := by rw [hW0]; simp
  have k2 : W0.heap[w.heap.size]? = some (.cells #[.slice (some ⟨ba, oa, none⟩) n0 c0, .slice A1 n1 c1, .bool x.2.2] 70 (0, 0)) := by rw [hW0]; exact (Below.heap_alloc _ _ _ (by simp; omega)).trans ((Below.heap_alloc _ _ _ (by simp; omega)).trans ((Below.heap_alloc _ _ _ (by simp)).trans (heap_alloc_new _ _)))
  have k3 : W0.heap[w.heap.size + 1]? = some (.cells #[.int .i64 (k : Int)] 3 (0, 0)) := by rw [hW0]; exact (Below.heap_alloc _ _ _ (by simp <;> omega)).trans ((Below.heap_alloc _ _ _ (by simp)).trans (by have := heap_alloc_new (w.alloc (.cells #[.slice (some ⟨ba, oa, none⟩) n0 c0, .slice A1 n1 c1, .bool x.2.2] 70)) (.cells #[.int .i64 (k : Int)] 3); simpa using this))
  have k4 : W0.heap[w.heap.size + 1 + 1]? = some (.cells #[.string ⟨#[]⟩] 9 (0, 0)) := by rw [hW0]; exact (Below.heap_alloc _ _ _ (by simp)).trans (by have := heap_alloc_new ((w.alloc (.cells #[.slice (some ⟨ba, oa, none⟩) n0 c0, .slice A1 n1 c1, .bool x.2.2] 70)).alloc (.cells #[.int .i64 (k : Int)] 3)) (.cells #[.string ⟨#[]⟩] 9); simpa using this)
  have k5 : W0.cell? ⟨w.heap.size + 1 + 1 + 1, 0, none⟩ = some (.slice A1 n1 c1) := by
    have e : W0.heap[w.heap.size + 1 + 1 + 1]? = some (.cells #[.slice A1 n1 c1] 68 (0, 0)) := by rw [hW0]; have := heap_alloc_new (((w.alloc (.cells #[.slice (some ⟨ba, oa, none⟩) n0 c0, .slice A1 n1 c1, .bool x.2.2] 70)).alloc (.cells #[.int .i64 (k : Int)] 3)).alloc (.cells #[.string ⟨#[]⟩] 9)) (.cells #[.slice A1 n1 c1] 68); simpa using this
    exact cell_of_row _ _ 0 _ _ (0, 0) e
  rw [← hW0]
  clear hW0
  have gk : ∀ {X Y : World} {row : Option Nat} {B : Nat} {o : Obj}, X.grownBy Y row → (∀ r, row = some r → W0.heap.size ≤ r ∧ ∃ o : Obj, X.heap[r]? = some o ∧ o.isCells = false) → X.heap[B]? = some o → o.isCells = true → Y.heap[B]? = some o := fun hg hr ho hc => (grownBy_keeps_cells hg (fun r e => (hr r e).2) ho hc).trans ho
  refine wpIn_rangeFunc_ownH rfl (by omega) (gf := 98) (lb := #[.pointer (some ⟨w.heap.size + 1 + 1 + 1, 0, none⟩)]) rfl trivial (enters_of Tryz.func98 (by kernel_rfl) rfl)
    (back_stops Fence.wide 8 trivial rfl (by omega) (w.heap.size + 1 + 1 + 1) (w.heap.size + 1 + 1 + 1 + 1) (.slice A1 n1 c1) x.2.1 hm1' W0 (by omega) (by omega) (by omega) k5 (WaitsUnd.mono (by omega) (HWT.out.below hB0))) belowK_t (belowK_b (by omega)) (Below.refl _ _) (fun _ => rfl)
    (fun pre W => ((∀ p ∈ pre, p.2.1 ≠ (k : Int)) ∧ W.heap[w.heap.size]? = some (.cells #[.slice (some ⟨ba, oa, none⟩) n0 c0, .slice A1 n1 c1, .bool x.2.2] 70 (0, 0)) ∧ W.heap[w.heap.size + 1]? = some (.cells #[.int .i64 (k : Int)] 3 (0, 0)) ∧ W.heap[w.heap.size + 1 + 1]? = some (.cells #[.string ⟨#[]⟩] 9 (0, 0))) ∧ Below w.heap.size W0 W)
    (fun c pre W => (c = .ret ∧ ∃ ini last, pre = ini ++ [last] ∧ (∀ p ∈ ini, p.2.1 ≠ (k : Int)) ∧ last.2.1 = (k : Int) ∧ W.heap[w.heap.size + 1 + 1]? = some (.cells #[.string last.2.2] 9 (0, 0))) ∧ Below w.heap.size W0 W)
    (OwnFrom.and (fun s X Y row hs hg hr => ⟨hs.1, gk hg hr hs.2.1 rfl, gk hg hr hs.2.2.1 rfl, gk hg hr hs.2.2.2 rfl⟩) (ownFrom_below (by omega) (by omega)))
    (fun c => OwnFrom.and (fun s X Y row hs hg hr => by obtain ⟨hc, ini, last, e1, e2, e3, e4⟩ := hs; exact ⟨hc, ini, last, e1, e2, e3, gk hg hr e4 rfl⟩) (ownFrom_below (by omega) (by omega)))
    ⟨⟨by simp, k2, k3, k4⟩, Below.refl _ _⟩
    (fun y a' W => ∃ Bx : Nat, W0.heap.size ≤ Bx ∧ W.heap[Bx]? = some (.cells #[.int .i64 y.2.1, .string y.2.2] 99 (0, 0)) ∧ a' = { tmps := #[.agg #[.slice (some ⟨ba, oa, none⟩) n0 c0, .slice A1 n1 c1, .bool x.2.2], .int .i64 (k : Int), .pointer (some ⟨w.heap.size, 0, none⟩), .pointer (some ⟨w.heap.size + 1, 0, none⟩), .pointer (some ⟨w.heap.size + 1 + 1, 0, none⟩), undef, .pointer (some ⟨Bx, 0, none⟩), .pointer (some ⟨w.heap.size, 1, none⟩), .slice A1 n1 c1, .func (.func 98) #[] #[.pointer (some ⟨w.heap.size + 1 + 1 + 1, 0, none⟩)], .int .i64 (y.1 : Int), .agg #[.int .i64 y.2.1, .string y.2.2], undef, undef, undef, undef, undef, undef, undef, undef, undef, undef, undef], defers := [] })
    (fun y a' _ X Y row hs hg hr => by obtain ⟨Bx, h1, h2, h3⟩ := hs; exact ⟨Bx, h1, gk hg hr h2 rfl, h3⟩)
    ?assign ?body ?done ?stop
  case assign =>
    rintro l pre y W K ⟨⟨hp, k2, k3, k4⟩, hB1⟩ hK
    simp [backE]
    gi_wp2
    have hs1 := hB1.size

    exact hK _ _ ((KeepsOthers.alloc _ _).from _) ((Below.refl _ W).alloc (by omega) _) ⟨⟨hp, (Below.heap_alloc _ _ _ (Array.getElem?_eq_some_iff.1 k2).1).trans k2, (Below.heap_alloc _ _ _ (Array.getElem?_eq_some_iff.1 k3).1).trans k3, (Below.heap_alloc _ _ _ (Array.getElem?_eq_some_iff.1 k4).1).trans k4⟩, hB1.alloc (by omega) _⟩ ⟨W.heap.size, hs1, heap_alloc_new _ _, rfl⟩
  case body =>
    rintro l pre y a' W hl ⟨r, hr⟩ ⟨⟨hp, k2, k3, k4⟩, hB1⟩ ⟨Bx, hBx, k6, rfl⟩ hlt
    have c3 := cell_of_row _ _ 0 _ _ (0, 0) k3
    have c4 := cell_of_row _ _ 0 _ _ (0, 0) k4
    have f4 := block_free k4 0
    have c60 := cell_of_row _ _ 0 _ _ (0, 0) k6
    have c61 := cell_of_row _ _ 1 _ _ (0, 0) k6
    have hs1 := hB1.size
    by_cases hx : y.2.1 = (k : Int)
    · have hxb : (y.2.1 == (k : Int)) = true := by simp [hx]
      have HX := Lib.hid hx; clear hx
      gi_wp2
      exact ⟨(KeepsOthers.setCell _ _ _).from _, ⟨rfl, pre, y, rfl, hp, HX.out, block_set (o := 0) (v := .string y.2.2) k4⟩, hB1.setCell (p := ⟨w.heap.size + 1 + 1, 0, none⟩) (by simp; omega) _⟩
    · have hxb : (y.2.1 == (k : Int)) = false := by simp [hx]
      gi_wp2
      exact ⟨KeepsFrom.refl _ _, Below.refl _ _, ⟨fun p hp' => (List.mem_append.1 hp').elim (hp p) (fun e => by simp at e; subst e; exact hx), k2, k3, k4⟩, hB1⟩
  case done =>
    rintro D ys W hD rfl ⟨⟨hne, k2, k3, k4⟩, hB1⟩ hK
    have c2 := cell_of_row _ _ 0 _ _ (0, 0) k2
    have c3 := cell_of_row _ _ 0 _ _ (0, 0) k3
    have c4 := cell_of_row _ _ 0 _ _ (0, 0) k4
    have f4 := block_free k4 0
    have qa2 := ((hB0.trans hB1).cell hba).trans qa
    have HLK := Lib.hid (look_none hne)
    gi_wp2
    have hK' := (KeepsOthers.setCell W ⟨w.heap.size + 1 + 1, 0, none⟩ (.string u)).same D _ hK rfl
    refine ⟨by simp, .inl ⟨_, _, rfl, run_takeDeferred hK', ?_⟩⟩
    have hc5 := cell_kept (World.cell?_setCell_same' W ⟨w.heap.size + 1 + 1, 0, none⟩ (.string u) (by rw [c4]; rfl)) (grownBy_putObj' _ D (.deferred none)) (fun r e => by cases e; exact ⟨_, hK', rfl⟩)
    refine ⟨.string u, ?_, by rw [HLK.out, HUG.out], ((hB0.trans hB1).setCell (p := ⟨w.heap.size + 1 + 1, 0, none⟩) (by simp; omega) _).trans (belowK_b (w := w) (Nat.le_refl _) _ D _ _ (by omega) hK' rfl rfl)⟩
    simp [results, Tryz.results42, go_sem, hc5]
  case stop =>
    rintro D c pre W hD ⟨j, hj, rfl⟩ ⟨⟨rfl, ini, last, e1, e2, e3, k4⟩, hB1⟩ hK
    have HLK := Lib.hid (look_some hj e1 e2 e3)
    have c4 := cell_of_row _ _ 0 _ _ (0, 0) k4
    gi_wp2
    refine ⟨by simp, .inl ⟨_, _, rfl, run_takeDeferred hK, ?_⟩⟩
    have hc5 := cell_kept c4 (grownBy_putObj' _ D (.deferred none)) (fun r e => by cases e; exact ⟨_, hK, rfl⟩)
    refine ⟨.string last.2.2, ?_, by rw [HLK.out], (hB0.trans hB1).trans (belowK_b (w := w) (Nat.le_refl _) W D _ _ (by omega) hK rfl rfl)⟩
    simp [results, Tryz.results42, go_sem, hc5]
end Go.Proofs.YtggdjiklgakfnaaGreatDoor
