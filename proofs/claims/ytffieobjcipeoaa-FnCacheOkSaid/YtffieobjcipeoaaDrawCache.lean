/- Drawn caches. No condition. -/
import Derived.Test.YtffieobjcipeoaaCacheAsk3
import Derived.Test.YtffieobjcipeoaaCacheCopy
import Derived.Test.YtffieobjcipeoaaRd
namespace Go.Proofs.Ytffieobjcipeoaa
set_option linter.unnecessarySimpa false
open Go.RowKit
set_option linter.unusedVariables false
set_option linter.unusedSimpArgs false

theorem Rd.setOldC {w0 w' : World} {p : Nat} {A : Option Addr} {n c : Nat} {zs : List Int} {k k0 : Nat} (h0 : Rd w0 p A n c zs k0) (h : Rd w' p A n c zs k) {a : Addr} (hb : w0.heap.size ≤ a.block) (v : Value) : Rd (w'.setCell a v) p A n c zs k :=
  h.keep (by simp [World.setCell]) fun b _ hbp => heap_far (by
    rcases hbp with rfl | ⟨hn, off, hA⟩
    · have := h0.2.2.2.1; omega
    · have := h0.old hn hA; omega)
theorem AL.nil {bs : List Nat} {w : World} {A : Option Addr} : AL bs w A 0 0 [] := ⟨0, 0, fun k _ => .inr (Nat.zero_le _), rfl, Nat.le_refl _, Nat.zero_le _, Nat.zero_le _, fun _ => rfl, fun h => absurd h (Nat.lt_irrefl _)⟩
def AskV (bs : List Nat) (ro : Int) (v : Value) (w' : World) : Prop := ∃ (go : Int) (C0 : Option Addr) (m0 e0 : Nat) (y0 : List Int) (C1 : Option Addr) (m1 e1 : Nat) (y1 : List Int) (C2 : Option Addr) (m2 e2 : Nat) (y2 : List Int) (C3 : Option Addr) (m3 e3 : Nat) (y3 : List Int) (b : Bool), v = .tuple #[.agg #[.int .i64 ro, .int .i64 go, .slice C0 m0 e0, .slice C1 m1 e1, .slice C2 m2 e2, .slice C3 m3 e3], .bool b] ∧ AL bs w' C0 m0 e0 y0 ∧ AL bs w' C1 m1 e1 y1 ∧ AL bs w' C2 m2 e2 y2 ∧ AL bs w' C3 m3 e3 y3 ∧ InvC ro m0 m1 m2 m3
def CacV (bs : List Nat) (ro : Int) (v : Value) (w' : World) : Prop := ∃ (go : Int) (C0 : Option Addr) (m0 e0 : Nat) (y0 : List Int) (C1 : Option Addr) (m1 e1 : Nat) (y1 : List Int) (C2 : Option Addr) (m2 e2 : Nat) (y2 : List Int) (C3 : Option Addr) (m3 e3 : Nat) (y3 : List Int), v = .agg #[.int .i64 ro, .int .i64 go, .slice C0 m0 e0, .slice C1 m1 e1, .slice C2 m2 e2, .slice C3 m3 e3] ∧ AL bs w' C0 m0 e0 y0 ∧ AL bs w' C1 m1 e1 y1 ∧ AL bs w' C2 m2 e2 y2 ∧ AL bs w' C3 m3 e3 y3 ∧ InvC ro m0 m1 m2 m3
def BoxC (bs : List Nat) (ro : Int) (X : Nat) (w' : World) : Prop := ∃ (go : Int) (C0 : Option Addr) (m0 e0 : Nat) (y0 : List Int) (C1 : Option Addr) (m1 e1 : Nat) (y1 : List Int) (C2 : Option Addr) (m2 e2 : Nat) (y2 : List Int) (C3 : Option Addr) (m3 e3 : Nat) (y3 : List Int), w'.heap[X]? = some (.cells #[.int .i64 ro, .int .i64 go, .slice C0 m0 e0, .slice C1 m1 e1, .slice C2 m2 e2, .slice C3 m3 e3] 57 (0, 0)) ∧ AL bs w' C0 m0 e0 y0 ∧ AL bs w' C1 m1 e1 y1 ∧ AL bs w' C2 m2 e2 y2 ∧ AL bs w' C3 m3 e3 y3 ∧ InvC ro m0 m1 m2 m3
section
variable {bs cs : List Nat} {ro : Int} {v : Value} {w w' : World} {X : Nat}
theorem AskV.chg (h : AskV bs ro v w) (hc : Chg (· ∈ cs) w w') (hcs : ∀ k ∈ cs, k ∈ bs) : AskV bs ro v w' := by
  obtain ⟨go, C0, m0, e0, y0, C1, m1, e1, y1, C2, m2, e2, y2, C3, m3, e3, y3, b, e, h0, h1, h2, h3, hi⟩ := h
  exact ⟨go, C0, m0, e0, y0, C1, m1, e1, y1, C2, m2, e2, y2, C3, m3, e3, y3, b, e, h0.chg hc hcs, h1.chg hc hcs, h2.chg hc hcs, h3.chg hc hcs, hi⟩
theorem CacV.chg (h : CacV bs ro v w) (hc : Chg (· ∈ cs) w w') (hcs : ∀ k ∈ cs, k ∈ bs) : CacV bs ro v w' := by
  obtain ⟨go, C0, m0, e0, y0, C1, m1, e1, y1, C2, m2, e2, y2, C3, m3, e3, y3, e, h0, h1, h2, h3, hi⟩ := h
  exact ⟨go, C0, m0, e0, y0, C1, m1, e1, y1, C2, m2, e2, y2, C3, m3, e3, y3, e, h0.chg hc hcs, h1.chg hc hcs, h2.chg hc hcs, h3.chg hc hcs, hi⟩
end
theorem roomOf_in {x : Int} (h1 : 1 ≤ x) (h2 : x ≤ 8) : roomOf x = x := by unfold roomOf; rw [if_pos (by unfold inB; simp [h1, h2])]
theorem Chg.own {p X : Nat} {a b c : World} (h : Chg (· ∈ [p]) a b) (h2 : Chg (· ∈ [p, X]) b c) (hX : a.heap.size ≤ X) : Chg (· ∈ [p]) a c := by
  have t : Chg (fun k => k = p ∨ a.heap.size ≤ k) a c := (h.mono (fun k _ hk => by simp at hk; exact .inl hk)).trans (h2.mono (fun k _ hk => by simp at hk; omega))
  exact ⟨t.os, t.tape, t.output, t.size, fun k hk hs => t.block k hk (by simp at hs; omega)⟩
theorem rowOne {w : World} {g t : Nat} {v : Value} (hg : w.heap[g]? = some (.cells #[v] t (0, 0))) : RowAt w (some ⟨g, 0, none⟩) (1 * 1) [v] := ⟨rfl, fun _ => ⟨g, 0, rfl, fun j hj => by
  obtain rfl : j = 0 := by omega
  exact cell_of_row _ _ 0 _ _ (0, 0) hg⟩⟩
theorem Chg.own2 {p : Nat} {a b c : World} (h : Chg (· ∈ [p]) a b) (h2 : Chg (fun k => k = p ∨ a.heap.size ≤ k) b c) : Chg (· ∈ [p]) a c := by
  have t : Chg (fun k => k = p ∨ a.heap.size ≤ k) a c := (h.mono (fun k _ hk => by simp at hk; exact .inl hk)).trans h2
  exact ⟨t.os, t.tape, t.output, t.size, fun k hk hs => t.block k hk (by simp at hs; omega)⟩
theorem Rd.chgOwn {w0 w' w'' : World} {p : Nat} {A : Option Addr} {n c : Nat} {zs : List Int} {k k0 : Nat} (h0 : Rd w0 p A n c zs k0) (h : Rd w' p A n c zs k) {S : List Nat} (hc : Chg (· ∈ S) w' w'') (hS : ∀ g ∈ S, w0.heap.size ≤ g) : Rd w'' p A n c zs k :=
  h.keep hc.size fun b hlt hbp => hc.block b hlt fun hm => by
    have := hS b hm
    rcases hbp with rfl | ⟨hn, off, hA⟩
    · have := h0.2.2.2.1; omega
    · have := h0.old hn hA; omega
/-- What l93Cache returns. -/
def CacheDrawn (w : World) (p : Nat) (A : Option Addr) (n c : Nat) (zs : List Int) (k : Nat) (e : Ending) (w' : World) : Prop :=
  ∃ (cs : List Value) (x : CacheD) (k' : Nat), e = .returned (.agg cs.toArray) ∧ CacheR w' w.heap.size w'.heap.size cs x ∧ sizeCache x ≤ 1000 ∧ k' ≤ k + 9000 ∧ Rd w' p A n c zs k' ∧ Chg (· ∈ [p]) w w'
theorem fin_cache {w W : World} {p : Nat} {A : Option Addr} {n c : Nat} {zs : List Int} {k k5 : Nat} (h : Rd w p A n c zs k) (rd : Rd W p A n c zs k5) (hk : k5 ≤ k + 9000) (hC : Chg (· ∈ [p]) w W) (ro go : Int) {A0 : Option Addr} {n0 c0 : Nat} {x0 : List Int} {A1 : Option Addr} {n1 c1 : Nat} {x1 : List Int} {A2 : Option Addr} {n2 c2 : Nat} {x2 : List Int} {A3 : Option Addr} {n3 c3 : Nat} {x3 : List Int}
    (h0 : SliceR IntR 1 W (w.heap.size + 1) W.heap.size A0 n0 c0 x0) (h1 : SliceR IntR 1 W (w.heap.size + 1) W.heap.size A1 n1 c1 x1) (h2 : SliceR IntR 1 W (w.heap.size + 1) W.heap.size A2 n2 c2 x2) (h3 : SliceR IntR 1 W (w.heap.size + 1) W.heap.size A3 n3 c3 x3) (hl : n0 + n1 + n2 + n3 ≤ 1000) :
    CacheDrawn w p A n c zs k (.returned (.agg #[.int .i64 ro, .int .i64 go, .slice A0 n0 c0, .slice A1 n1 c1, .slice A2 n2 c2, .slice A3 n3 c3])) (World.setCell (World.setCell (World.setCell (World.setCell (World.setCell (World.setCell W ⟨w.heap.size, 0, none⟩ (.int .i64 ro)) ⟨w.heap.size, 1, none⟩ (.int .i64 go)) ⟨w.heap.size, 2, none⟩ (.slice A0 n0 c0)) ⟨w.heap.size, 3, none⟩ (.slice A1 n1 c1)) ⟨w.heap.size, 4, none⟩ (.slice A2 n2 c2)) ⟨w.heap.size, 5, none⟩ (.slice A3 n3 c3)) := by
  refine ⟨[.int .i64 ro, .int .i64 go, .slice A0 n0 c0, .slice A1 n1 c1, .slice A2 n2 c2, .slice A3 n3 c3], (ro, go, x0, x1, x2, x3), k5, rfl, ?_, ?_, hk, (Rd.setOldC h (Rd.setOldC h (Rd.setOldC h (Rd.setOldC h (Rd.setOldC h (Rd.setOldC h rd (a := ⟨w.heap.size, 0, none⟩) (by show w.heap.size ≤ w.heap.size; omega) _) (a := ⟨w.heap.size, 1, none⟩) (by show w.heap.size ≤ w.heap.size; omega) _) (a := ⟨w.heap.size, 2, none⟩) (by show w.heap.size ≤ w.heap.size; omega) _) (a := ⟨w.heap.size, 3, none⟩) (by show w.heap.size ≤ w.heap.size; omega) _) (a := ⟨w.heap.size, 4, none⟩) (by show w.heap.size ≤ w.heap.size; omega) _) (a := ⟨w.heap.size, 5, none⟩) (by show w.heap.size ≤ w.heap.size; omega) _), (Chg.setCell (p := ⟨w.heap.size, 5, none⟩) (Chg.setCell (p := ⟨w.heap.size, 4, none⟩) (Chg.setCell (p := ⟨w.heap.size, 3, none⟩) (Chg.setCell (p := ⟨w.heap.size, 2, none⟩) (Chg.setCell (p := ⟨w.heap.size, 1, none⟩) (Chg.setCell (p := ⟨w.heap.size, 0, none⟩) hC (.inr (by show w.heap.size ≤ w.heap.size; omega)) _) (.inr (by show w.heap.size ≤ w.heap.size; omega)) _) (.inr (by show w.heap.size ≤ w.heap.size; omega)) _) (.inr (by show w.heap.size ≤ w.heap.size; omega)) _) (.inr (by show w.heap.size ≤ w.heap.size; omega)) _) (.inr (by show w.heap.size ≤ w.heap.size; omega)) _)⟩
  · have hz := hC.size
    have h : CacheR W (w.heap.size + 1) W.heap.size [.int .i64 ro, .int .i64 go, .slice A0 n0 c0, .slice A1 n1 c1, .slice A2 n2 c2, .slice A3 n3 c3] (ro, go, x0, x1, x2, x3) := ⟨_, _, _, _, _, _, _, _, _, _, _, _, rfl, h0, h1, h2, h3⟩
    refine CacheR.wide (lo := w.heap.size + 1) (hi := W.heap.size) (by omega) (by simp [World.setCell]) (Nat.le_refl _) _ _ (CacheR.keep (fun b b1 b2 => ?_) (by simp [World.setCell]) _ _ h)
    exact (heap_far (by simp; omega)).trans ((heap_far (by simp; omega)).trans ((heap_far (by simp; omega)).trans ((heap_far (by simp; omega)).trans ((heap_far (by simp; omega)).trans ((heap_far (by simp; omega)).trans (rfl))))))
  · unfold sizeCache
    have e0 := h0.len; have e1 := h1.len; have e2 := h2.len; have e3 := h3.len
    simp only
    omega
set_option maxRecDepth 100000 in
set_option maxHeartbeats 8000000 in
theorem l93Cache_any (w : World) (p : Nat) (A : Option Addr) (n c : Nat) (zs : List Int) (k : Nat) (h : Rd w p A n c zs k) (hk : k ≤ 500000) :
    Calls Try.prog 75 #[.pointer (some ⟨p, 0, none⟩)] w (CacheDrawn w p A n c zs k) := by
  have hp := h.2.2.2.1
  obtain ⟨i0, iA, iB, iC, iD⟩ := info_parts info_int
  go_enter Try.func75, Try.ntmps75
  go_wp2_with fail
  refine (pick_any _ p A n c zs k 5 (h.below bel1) (by omega) (by omega) (by omega)).mono ?_
  rintro e w1 ⟨r1, rfl, hr1, rd1, hc1, hz1⟩
  have hr1 := hr1 (by omega)
  simp at hz1
  have hC1 : Hid (Chg (· ∈ [p]) w w1) := Lib.hid (((Chg.refl _ _).alloc _).trans hc1)
  have RS1 : Hid (w1.heap[w.heap.size]? = some (.cells #[.int .i64 0, .int .i64 0, .slice none 0 0, .slice none 0 0, .slice none 0 0, .slice none 0 0] 57 (0, 0))) := Lib.hid ((hc1.block _ (by simp) (by simp; omega)).trans (heap_alloc_new _ _))
  have nw1 : IntKind.i64.wrap (1 + (r1 : Int)) = 1 + (r1 : Int) := IntWalk.i64_in _ (by omega)
  clear hc1
  go_wp2_with fail
  refine (spCacheNew_any (1 + (r1 : Int)) _).mono ?_
  rintro e w2 ⟨a0, a1, a2, a3, rfl, hb2⟩
  rw [roomOf_in (by omega) (by omega)]
  obtain ⟨ro, hro⟩ : ∃ ro : Int, ro = 1 + (r1 : Int) := ⟨_, rfl⟩
  rw [← hro]
  have ro1 : 1 ≤ ro := by omega
  have ro8 : ro ≤ 8 := by omega
  have hz2 := hb2.size
  have hC2 : Hid (Chg (· ∈ [p]) w w2) := Lib.hid (hC1.out.trans (Chg.of_below hb2 _))
  have RS2 : Hid (w2.heap[w.heap.size]? = some (.cells #[.int .i64 0, .int .i64 0, .slice none 0 0, .slice none 0 0, .slice none 0 0, .slice none 0 0] 57 (0, 0))) := Lib.hid ((hb2.block _ (by omega)).trans RS1.out)
  have rd2 := Lib.hid (rd1.below hb2)
  clear hb2 rd1 hC1 RS1 nw1 hr1 hro
  go_wp2_with fail
  refine (pick_any _ p A n c zs _ 30 (rd2.out.below bel1) (by omega) (by omega) (by omega)).mono ?_
  rintro e w3 ⟨r2, rfl, hr2, rd3, hc3, hz3⟩
  have hr2 := hr2 (by omega)
  simp at hz3
  have BX3 : Hid (w3.heap[w2.heap.size]? = some (.cells #[.int .i64 ro, .int .i64 0, .slice a0 0 0, .slice a1 0 0, .slice a2 0 0, .slice a3 0 0] 57 (0, 0))) := Lib.hid ((hc3.block _ (by simp) (by simp; omega)).trans (heap_alloc_new _ _))
  have RS3 : Hid (w3.heap[w.heap.size]? = some (.cells #[.int .i64 0, .int .i64 0, .slice none 0 0, .slice none 0 0, .slice none 0 0, .slice none 0 0] 57 (0, 0))) := Lib.hid ((hc3.block _ (by simp; omega) (by simp; omega)).trans ((Below.heap_alloc _ _ _ (by omega)).trans RS2.out))
  have hC3 : Hid (Chg (· ∈ [p]) w w3) := Lib.hid ((hC2.out.alloc _).trans hc3)
  have rd3 := Lib.hid rd3
  have hX : w.heap.size < w2.heap.size := by omega
  have HB3 : Hid (BoxC [p, w.heap.size, w2.heap.size] ro w2.heap.size w3) := Lib.hid ⟨0, a0, 0, 0, [], a1, 0, 0, [], a2, 0, 0, [], a3, 0, 0, [], BX3.out, AL.nil, AL.nil, AL.nil, AL.nil, by unfold InvC; omega⟩
  clear hc3 BX3 rd2 hC2 RS2
  go_wp2_with fail
  go_loopw [5] (fun i wr => ∃ m kq : Nat, i = .int .i64 (m : Int) ∧ m ≤ 30 ∧ kq + m ≤ k + 40 ∧ Hid (Rd wr p A n c zs kq) ∧ Hid (BoxC [p, w.heap.size, w2.heap.size] ro w2.heap.size wr) ∧ Hid (wr.heap[w.heap.size]? = some (.cells #[.int .i64 0, .int .i64 0, .slice none 0 0, .slice none 0 0, .slice none 0 0, .slice none 0 0] 57 (0, 0))) ∧ Hid (Chg (· ∈ [p]) w wr)) (fun i _ => (RowKit.intOf i).toNat)
  case atStart => exact ⟨r2, k + 1 + 1, rfl, by omega, by omega, rd3, HB3, RS3, hC3⟩
  case round =>
    clear rd3 HB3 RS3 hC3
    obtain ⟨m, k0, rfl, hm, hkm, HR, HBX, HRS, HC⟩ := hrel
    by_cases hlt : 0 < m
    · have hd : (0 : Int) < (m : Int) := by omega
      have hbx := HBX.out
      obtain ⟨go, A0, n0, c0, x0, A1, n1, c1, x1, A2, n2, c2, x2, A3, n3, c3, x3, hq, f0, f1, f2, f3, hi⟩ := hbx
      have F0 := Lib.hid f0; have F1 := Lib.hid f1; have F2 := Lib.hid f2; have F3 := Lib.hid f3; have HI := Lib.hid hi
      have HQ := Lib.hid hq
      clear f0 f1 f2 f3 hi hq HBX
      go_wp2_with fail
      apply wp_region_rgz (Chg (· ∈ [p, w2.heap.size])) (Chg (· ∈ [p])) (fun y w' k' => (k' < 5000 → (∃ k1, k1 ≤ k0 + k' ∧ Rd w' p A n c zs k1) ∧ w'.heap[w2.heap.size]? = some (.cells #[.int .i64 ro, .int .i64 go, .slice A0 n0 c0, .slice A1 n1 c1, .slice A2 n2 c2, .slice A3 n3 c3] 57 (0, 0))) ∧ (5000 ≤ k' → (∃ k1, k1 ≤ k0 + 1 ∧ Rd w' p A n c zs k1) ∧ BoxC [p, w.heap.size, w2.heap.size] ro w2.heap.size w')) [0, 0, 1, 0, 0, 0, 0, 0, 5000] [5000, 5000, 5000, 5000, 5000, 5000, 5000, 0, 5000] (by kernel_rfl) (false :: false :: false :: false :: false :: false :: false :: false :: false :: false :: false :: false :: false :: false :: false :: false :: false :: false :: false :: true :: true :: true :: true :: true :: true :: true :: true :: false :: false :: false :: false :: false :: false :: false :: false :: false :: false :: false :: false :: false :: false :: false :: false :: false :: false :: false :: false :: false :: false :: false :: false :: false :: false :: false :: false :: false :: false :: false :: false :: false :: false :: false :: false :: false :: false :: false :: []) [some 20, some 21, some 22, some 23, some 24, some 19, some 25, some 26, none] [[], [], [1], [2], [0, 3], [4], [5], [5], [6]] [false, false, false, false, false, false, false, false, true] [true, true, true, true, true, true, true, true, true] [] [MStP.is _, MStP.is _, ⟨fun v _ => ∃ r : Nat, v = .int .i64 (r : Int) ∧ r < 12, true, fun _ _ _ _ h => h, fun _ _ _ _ _ h => h⟩, ⟨fun v _ => ∃ z : Int, v = .int .i64 z, true, fun _ _ _ _ h => h, fun _ _ _ _ _ h => h⟩, ⟨fun v w' => AskV [p, w.heap.size, w2.heap.size] ro v w', true, fun _ _ _ hs h => h.chg hs (by intro k hk; simp at hk ⊢; omega), fun _ _ _ _ hs h => h.chg hs (by intro k hk; simp at hk ⊢; omega)⟩, ⟨fun v w' => AskV [p, w.heap.size, w2.heap.size] ro v w', true, fun _ _ _ hs h => h.chg hs (by intro k hk; simp at hk ⊢; omega), fun _ _ _ _ hs h => h.chg hs (by intro k hk; simp at hk ⊢; omega)⟩, ⟨fun v w' => CacV [p, w.heap.size, w2.heap.size] ro v w', true, fun _ _ _ hs h => h.chg hs (by intro k hk; simp at hk ⊢; omega), fun _ _ _ _ hs h => h.chg hs (by intro k hk; simp at hk ⊢; omega)⟩, ⟨fun v _ => ∃ b : Bool, v = .bool b, true, fun _ _ _ _ h => h, fun _ _ _ _ _ h => h⟩, MStP.is _] (by kernel_rfl) (by kernel_rfl) (by kernel_rfl) (by kernel_rfl)
      case hobs =>
        refine ⟨fun y w' k hS hj hk hF K hK => ?_, ?_⟩
        · skip -- 0: load
          simp only [fillL, cond_true, cond_false, List.getD_cons_zero, List.getD_cons_succ, StP.is, Act.put, List.setIfInBounds_toArray, List.set_cons_zero, List.set_cons_succ, Nat.reduceAdd, MStP.is, Option.isSome_some, Option.isSome_none] at hK ⊢
          simp only [List.sum_cons, List.sum_nil, List.getD_cons_zero, List.getD_cons_succ, Nat.reduceAdd, Nat.add_zero] at hk
          refine rg_yes (by kernel_rfl) ?_
          clear hF
          obtain ⟨-, hq⟩ := hj.1 (by omega)
          have c0_ := cell_of_row _ _ 0 _ _ (0, 0) hq
          have c1_ := cell_of_row _ _ 1 _ _ (0, 0) hq
          have c2_ := cell_of_row _ _ 2 _ _ (0, 0) hq
          have c3_ := cell_of_row _ _ 3 _ _ (0, 0) hq
          have c4_ := cell_of_row _ _ 4 _ _ (0, 0) hq
          have c5_ := cell_of_row _ _ 5 _ _ (0, 0) hq
          have lq := (Array.getElem?_eq_some_iff.1 hq).1
          have HJ := Lib.hid hj; clear hj hq
          go_simp
          have hj := HJ.out
          exact hK _ _ (Chg.refl _ _) ⟨fun h => hj.1 (by omega), fun h => absurd h (by omega)⟩ rfl
        refine ⟨fun y w' k hS hj hk hF K hK => ?_, ?_⟩
        · skip -- 1: move
          simp only [fillL, cond_true, cond_false, List.getD_cons_zero, List.getD_cons_succ, StP.is, Act.put, List.setIfInBounds_toArray, List.set_cons_zero, List.set_cons_succ, Nat.reduceAdd, MStP.is, Option.isSome_some, Option.isSome_none] at hK ⊢
          simp only [List.sum_cons, List.sum_nil, List.getD_cons_zero, List.getD_cons_succ, Nat.reduceAdd, Nat.add_zero] at hk
          refine rg_yes (by kernel_rfl) ?_
          clear hF
          go_simp
          exact hK _ _ (Chg.refl _ _) ⟨fun h => hj.1 (by omega), fun h => absurd h (by omega)⟩ rfl
        refine ⟨fun y w' k hS hj hk hF K hK => ?_, ?_⟩
        · skip -- 2: call
          have e21 : y 21 = _ := hF.1
          have e21' := Lib.hid e21
          simp only [fillL, cond_true, cond_false, List.getD_cons_zero, List.getD_cons_succ, StP.is, Act.put, List.setIfInBounds_toArray, List.set_cons_zero, List.set_cons_succ, Nat.reduceAdd, e21, MStP.is, Option.isSome_some, Option.isSome_none] at hK ⊢
          simp only [List.sum_cons, List.sum_nil, List.getD_cons_zero, List.getD_cons_succ, Nat.reduceAdd, Nat.add_zero] at hk
          refine rg_yes (by kernel_rfl) ?_
          clear e21
          clear hF
          obtain ⟨⟨k1, hk1, hrd⟩, hq⟩ := hj.1 (by omega)
          have HQj := Lib.hid hq; clear hq
          go_simp
          go_at_call 37
          refine (pick_any w' p A n c zs k1 12 hrd (by omega) (by omega) (by omega)).mono ?_
          rintro e w'' ⟨r, rfl, hr1, rd1, hc1, hz1⟩
          exact hK _ _ hc1 ⟨fun h => ⟨⟨k1 + 1, by omega, rd1⟩, (hc1.block _ (Array.getElem?_eq_some_iff.1 HQj.out).1 (by simp; omega)).trans HQj.out⟩, fun h => absurd h (by omega)⟩ ⟨r, rfl, by have := hr1 (by omega); omega⟩
        refine ⟨fun y w' k hS hj hk hF K hK => ?_, ?_⟩
        · skip -- 3: binOp
          obtain ⟨r, e22, hr3⟩ := hF.1
          have e22' := Lib.hid e22
          simp only [fillL, cond_true, cond_false, List.getD_cons_zero, List.getD_cons_succ, StP.is, Act.put, List.setIfInBounds_toArray, List.set_cons_zero, List.set_cons_succ, Nat.reduceAdd, e22, MStP.is, Option.isSome_some, Option.isSome_none] at hK ⊢
          simp only [List.sum_cons, List.sum_nil, List.getD_cons_zero, List.getD_cons_succ, Nat.reduceAdd, Nat.add_zero] at hk
          refine rg_yes (by kernel_rfl) ?_
          clear e22
          clear hF
          go_simp
          exact hK _ _ (Chg.refl _ _) ⟨fun h => hj.1 (by omega), fun h => absurd h (by omega)⟩ ⟨_, rfl⟩
        refine ⟨fun y w' k hS hj hk hF K hK => ?_, ?_⟩
        · skip -- 4: call
          have e20 : y 20 = _ := hF.1
          obtain ⟨zz, e23⟩ := hF.2.1
          have e20' := Lib.hid e20
          have e23' := Lib.hid e23
          simp only [fillL, cond_true, cond_false, List.getD_cons_zero, List.getD_cons_succ, StP.is, Act.put, List.setIfInBounds_toArray, List.set_cons_zero, List.set_cons_succ, Nat.reduceAdd, e20, e23, MStP.is, Option.isSome_some, Option.isSome_none] at hK ⊢
          simp only [List.sum_cons, List.sum_nil, List.getD_cons_zero, List.getD_cons_succ, Nat.reduceAdd, Nat.add_zero] at hk
          refine rg_yes (by kernel_rfl) ?_
          clear e20 e23
          clear hF
          obtain ⟨⟨k1, hk1, hrd⟩, hq⟩ := hj.1 (by omega)
          have lq := (Array.getElem?_eq_some_iff.1 hq).1
          have lp := hrd.2.2.2.1
          have HQj := Lib.hid hq; clear hq
          go_simp
          go_at_call 117
          refine (l27Ask_any [p, w.heap.size, w2.heap.size] ro go zz A0 n0 c0 x0 A1 n1 c1 x1 A2 n2 c2 x2 A3 n3 c3 x3 w' (by intro k hk; simp at hk; omega) (F0.out.chg hS (by intro k hk; simp at hk ⊢; omega)) (F1.out.chg hS (by intro k hk; simp at hk ⊢; omega)) (F2.out.chg hS (by intro k hk; simp at hk ⊢; omega)) (F3.out.chg hS (by intro k hk; simp at hk ⊢; omega)) ro1 (by omega) HI.out).mono ?_
          rintro e w'' ⟨gq, C0, m0, e0, y0, C1, m1, e1, y1, C2, m2, e2, y2, C3, m3, e3, y3, bb, rfl, g0, g1, g2, g3, gi, hb⟩
          exact hK _ _ (Chg.of_below hb _) ⟨fun h => ⟨⟨k1, by omega, hrd.below hb⟩, (hb.block _ lq).trans HQj.out⟩, fun h => absurd h (by omega)⟩ ⟨gq, C0, m0, e0, y0, C1, m1, e1, y1, C2, m2, e2, y2, C3, m3, e3, y3, bb, rfl, g0, g1, g2, g3, gi⟩
        refine ⟨fun y w' k hS hj hk hF K hK => ?_, ?_⟩
        · skip -- 5: move
          obtain ⟨gq, C0, m0, e0, y0, C1, m1, e1, y1, C2, m2, e2, y2, C3, m3, e3, y3, bb, e24, g0, g1, g2, g3, gi⟩ := hF.1
          have e24' := Lib.hid e24
          simp only [fillL, cond_true, cond_false, List.getD_cons_zero, List.getD_cons_succ, StP.is, Act.put, List.setIfInBounds_toArray, List.set_cons_zero, List.set_cons_succ, Nat.reduceAdd, e24, MStP.is, Option.isSome_some, Option.isSome_none] at hK ⊢
          simp only [List.sum_cons, List.sum_nil, List.getD_cons_zero, List.getD_cons_succ, Nat.reduceAdd, Nat.add_zero] at hk
          refine rg_yes (by kernel_rfl) ?_
          clear e24
          clear hF
          have G0 := Lib.hid g0; have G1 := Lib.hid g1; have G2 := Lib.hid g2; have G3 := Lib.hid g3; have GI := Lib.hid gi; clear g0 g1 g2 g3 gi
          go_simp
          exact hK _ _ (Chg.refl _ _) ⟨fun h => hj.1 (by omega), fun h => absurd h (by omega)⟩ ⟨gq, C0, m0, e0, y0, C1, m1, e1, y1, C2, m2, e2, y2, C3, m3, e3, y3, bb, rfl, G0.out, G1.out, G2.out, G3.out, GI.out⟩
        refine ⟨fun y w' k hS hj hk hF K hK => ?_, ?_⟩
        · skip -- 6: extract
          obtain ⟨gq, C0, m0, e0, y0, C1, m1, e1, y1, C2, m2, e2, y2, C3, m3, e3, y3, bb, e19, g0, g1, g2, g3, gi⟩ := hF.1
          have e19' := Lib.hid e19
          simp only [fillL, cond_true, cond_false, List.getD_cons_zero, List.getD_cons_succ, StP.is, Act.put, List.setIfInBounds_toArray, List.set_cons_zero, List.set_cons_succ, Nat.reduceAdd, e19, MStP.is, Option.isSome_some, Option.isSome_none] at hK ⊢
          simp only [List.sum_cons, List.sum_nil, List.getD_cons_zero, List.getD_cons_succ, Nat.reduceAdd, Nat.add_zero] at hk
          refine rg_yes (by kernel_rfl) ?_
          clear e19
          clear hF
          have G0 := Lib.hid g0; have G1 := Lib.hid g1; have G2 := Lib.hid g2; have G3 := Lib.hid g3; have GI := Lib.hid gi; clear g0 g1 g2 g3 gi
          go_simp
          exact hK _ _ (Chg.refl _ _) ⟨fun h => hj.1 (by omega), fun h => absurd h (by omega)⟩ ⟨gq, C0, m0, e0, y0, C1, m1, e1, y1, C2, m2, e2, y2, C3, m3, e3, y3, rfl, G0.out, G1.out, G2.out, G3.out, GI.out⟩
        refine ⟨fun y w' k hS hj hk hF K hK => ?_, ?_⟩
        · skip -- 7: extract
          obtain ⟨gq, C0, m0, e0, y0, C1, m1, e1, y1, C2, m2, e2, y2, C3, m3, e3, y3, bb, e19, g0, g1, g2, g3, gi⟩ := hF.1
          have e19' := Lib.hid e19
          simp only [fillL, cond_true, cond_false, List.getD_cons_zero, List.getD_cons_succ, StP.is, Act.put, List.setIfInBounds_toArray, List.set_cons_zero, List.set_cons_succ, Nat.reduceAdd, e19, MStP.is, Option.isSome_some, Option.isSome_none] at hK ⊢
          simp only [List.sum_cons, List.sum_nil, List.getD_cons_zero, List.getD_cons_succ, Nat.reduceAdd, Nat.add_zero] at hk
          refine rg_yes (by kernel_rfl) ?_
          clear e19
          clear hF
          clear g0 g1 g2 g3 gi
          go_simp
          exact hK _ _ (Chg.refl _ _) ⟨fun h => hj.1 (by omega), fun h => hj.2 (by omega)⟩ ⟨bb, rfl⟩
        refine ⟨fun y w' k hS hj hk hF K hK => ?_, ?_⟩
        · skip -- 8: store
          obtain ⟨gq, C0, m0, e0, y0, C1, m1, e1, y1, C2, m2, e2, y2, C3, m3, e3, y3, e25, g0, g1, g2, g3, gi⟩ := hF.1
          have e25' := Lib.hid e25
          simp only [fillL, cond_true, cond_false, List.getD_cons_zero, List.getD_cons_succ, StP.is, Act.put, List.setIfInBounds_toArray, List.set_cons_zero, List.set_cons_succ, Nat.reduceAdd, e25, MStP.is, Option.isSome_some, Option.isSome_none] at hK ⊢
          simp only [List.sum_cons, List.sum_nil, List.getD_cons_zero, List.getD_cons_succ, Nat.reduceAdd, Nat.add_zero] at hk
          refine rg_yes (by kernel_rfl) ?_
          clear e25
          clear hF
          have G0 := Lib.hid g0; have G1 := Lib.hid g1; have G2 := Lib.hid g2; have G3 := Lib.hid g3; have GI := Lib.hid gi; clear g0 g1 g2 g3 gi
          obtain ⟨⟨k1, hk1, hrd⟩, hq⟩ := hj.1 (by omega)
          have c0_ := cell_of_row _ _ 0 _ _ (0, 0) hq
          have c1_ := cell_of_row _ _ 1 _ _ (0, 0) hq
          have c2_ := cell_of_row _ _ 2 _ _ (0, 0) hq
          have c3_ := cell_of_row _ _ 3 _ _ (0, 0) hq
          have c4_ := cell_of_row _ _ 4 _ _ (0, 0) hq
          have c5_ := cell_of_row _ _ 5 _ _ (0, 0) hq
          have z0_ := block_free hq 0
          have z1_ := block_free hq 1
          have z2_ := block_free hq 2
          have z3_ := block_free hq 3
          have z4_ := block_free hq 4
          have z5_ := block_free hq 5
          have lq := (Array.getElem?_eq_some_iff.1 hq).1
          have HQj := Lib.hid hq; clear hq
          go_simp
          refine hK undef _ (Chg.setCell (p := ⟨w2.heap.size, 5, none⟩) (Chg.setCell (p := ⟨w2.heap.size, 4, none⟩) (Chg.setCell (p := ⟨w2.heap.size, 3, none⟩) (Chg.setCell (p := ⟨w2.heap.size, 2, none⟩) (Chg.setCell (p := ⟨w2.heap.size, 1, none⟩) (Chg.setCell (p := ⟨w2.heap.size, 0, none⟩) (Chg.refl _ _) (.inl (by simp)) _) (.inl (by simp)) _) (.inl (by simp)) _) (.inl (by simp)) _) (.inl (by simp)) _) (.inl (by simp)) _) ⟨fun h => absurd h (by omega), fun _ => ⟨⟨k1, by omega, (Rd.setOldC h (Rd.setOldC h (Rd.setOldC h (Rd.setOldC h (Rd.setOldC h (Rd.setOldC h hrd (a := ⟨w2.heap.size, 0, none⟩) (by show w.heap.size ≤ w2.heap.size; omega) _) (a := ⟨w2.heap.size, 1, none⟩) (by show w.heap.size ≤ w2.heap.size; omega) _) (a := ⟨w2.heap.size, 2, none⟩) (by show w.heap.size ≤ w2.heap.size; omega) _) (a := ⟨w2.heap.size, 3, none⟩) (by show w.heap.size ≤ w2.heap.size; omega) _) (a := ⟨w2.heap.size, 4, none⟩) (by show w.heap.size ≤ w2.heap.size; omega) _) (a := ⟨w2.heap.size, 5, none⟩) (by show w.heap.size ≤ w2.heap.size; omega) _)⟩, ⟨gq, C0, m0, e0, y0, C1, m1, e1, y1, C2, m2, e2, y2, C3, m3, e3, y3, (block_set (o := 5) (block_set (o := 4) (block_set (o := 3) (block_set (o := 2) (block_set (o := 1) (block_set (o := 0) HQj.out)))))), ?_, ?_, ?_, ?_, GI.out⟩⟩⟩ rfl
          · exact G0.out.chg (cs := [w2.heap.size]) (Chg.setCell (p := ⟨w2.heap.size, 5, none⟩) (Chg.setCell (p := ⟨w2.heap.size, 4, none⟩) (Chg.setCell (p := ⟨w2.heap.size, 3, none⟩) (Chg.setCell (p := ⟨w2.heap.size, 2, none⟩) (Chg.setCell (p := ⟨w2.heap.size, 1, none⟩) (Chg.setCell (p := ⟨w2.heap.size, 0, none⟩) (Chg.refl _ _) (.inl (by simp)) _) (.inl (by simp)) _) (.inl (by simp)) _) (.inl (by simp)) _) (.inl (by simp)) _) (.inl (by simp)) _) (by intro k hk; simp at hk ⊢; omega)
          · exact G1.out.chg (cs := [w2.heap.size]) (Chg.setCell (p := ⟨w2.heap.size, 5, none⟩) (Chg.setCell (p := ⟨w2.heap.size, 4, none⟩) (Chg.setCell (p := ⟨w2.heap.size, 3, none⟩) (Chg.setCell (p := ⟨w2.heap.size, 2, none⟩) (Chg.setCell (p := ⟨w2.heap.size, 1, none⟩) (Chg.setCell (p := ⟨w2.heap.size, 0, none⟩) (Chg.refl _ _) (.inl (by simp)) _) (.inl (by simp)) _) (.inl (by simp)) _) (.inl (by simp)) _) (.inl (by simp)) _) (.inl (by simp)) _) (by intro k hk; simp at hk ⊢; omega)
          · exact G2.out.chg (cs := [w2.heap.size]) (Chg.setCell (p := ⟨w2.heap.size, 5, none⟩) (Chg.setCell (p := ⟨w2.heap.size, 4, none⟩) (Chg.setCell (p := ⟨w2.heap.size, 3, none⟩) (Chg.setCell (p := ⟨w2.heap.size, 2, none⟩) (Chg.setCell (p := ⟨w2.heap.size, 1, none⟩) (Chg.setCell (p := ⟨w2.heap.size, 0, none⟩) (Chg.refl _ _) (.inl (by simp)) _) (.inl (by simp)) _) (.inl (by simp)) _) (.inl (by simp)) _) (.inl (by simp)) _) (.inl (by simp)) _) (by intro k hk; simp at hk ⊢; omega)
          · exact G3.out.chg (cs := [w2.heap.size]) (Chg.setCell (p := ⟨w2.heap.size, 5, none⟩) (Chg.setCell (p := ⟨w2.heap.size, 4, none⟩) (Chg.setCell (p := ⟨w2.heap.size, 3, none⟩) (Chg.setCell (p := ⟨w2.heap.size, 2, none⟩) (Chg.setCell (p := ⟨w2.heap.size, 1, none⟩) (Chg.setCell (p := ⟨w2.heap.size, 0, none⟩) (Chg.refl _ _) (.inl (by simp)) _) (.inl (by simp)) _) (.inl (by simp)) _) (.inl (by simp)) _) (.inl (by simp)) _) (.inl (by simp)) _) (by intro k hk; simp at hk ⊢; omega)
        trivial
      case hH => rfl
      case hNS => exact fun _ _ h => h.mono (fun b _ hb => by simp at hb ⊢; exact .inl hb)
      case hSt => exact fun a b => Chg.trans a b
      case hb => rfl
      case hdrew => exact (Chg.refl _ _).drewN 1
      case hj0 => exact fun y => ⟨fun _ => ⟨⟨k0, by omega, HR.out.below (below_drewN (Below.refl _ _) 1)⟩, HQ.out⟩, fun h => absurd h (by omega)⟩
      case hend =>
        intro y w9 hS hJ hF
        obtain ⟨⟨k9, hk9, rd9⟩, hA⟩ := hJ.2 (by decide)
        have HB9 := Lib.hid hA; have HR9 := Lib.hid rd9
        have hC9 : Hid (Chg (· ∈ [p]) w w9) := Lib.hid (HC.out.own hS (by omega))
        have RS9 := Lib.hid ((hS.block w.heap.size (Array.getElem?_eq_some_iff.1 HRS.out).1 (by simp; omega)).trans HRS.out)
        clear hJ hF hS hA rd9 HC HRS HQ HR F0 F1 F2 F3 HI
        simp only [fillL, cond_true, cond_false, Nat.reduceAdd]
        have nd : IntKind.i64.wrap ((m : Int) - 1) = ((m - 1 : Nat) : Int) := by rw [IntWalk.i64_in _ (by omega)]; omega
        go_wp2_with fail
        go_roundw
        case rel => exact ⟨m - 1, k9, by rfl, by omega, by omega, HR9, HB9, RS9, hC9⟩
        case measure => simp [RowKit.intOf]; omega
    · obtain rfl : m = 0 := by omega
      have hd : ¬ (0 : Int) < ((0 : Nat) : Int) := by omega
      have hbx := HBX.out
      obtain ⟨go, A0, n0, c0, x0, A1, n1, c1, x1, A2, n2, c2, x2, A3, n3, c3, x3, hq, f0, f1, f2, f3, hi⟩ := hbx
      unfold InvC at hi
      obtain ⟨-, -, hi⟩ := hi
      have hn0 : n0 + n1 + n2 + n3 ≤ 16 := by omega
      have I0 := Lib.hid f0.il; have I1 := Lib.hid f1.il; have I2 := Lib.hid f2.il; have I3 := Lib.hid f3.il
      have HQ := Lib.hid hq
      clear f0 f1 f2 f3 hi HBX
      have uc0 := cell_of_row _ _ 0 _ _ (0, 0) HQ.out
      have uf0 := block_free HQ.out 0
      have uc1 := cell_of_row _ _ 1 _ _ (0, 0) HQ.out
      have uf1 := block_free HQ.out 1
      have uc2 := cell_of_row _ _ 2 _ _ (0, 0) HQ.out
      have uf2 := block_free HQ.out 2
      have uc3 := cell_of_row _ _ 3 _ _ (0, 0) HQ.out
      have uf3 := block_free HQ.out 3
      have uc4 := cell_of_row _ _ 4 _ _ (0, 0) HQ.out
      have uf4 := block_free HQ.out 4
      have uc5 := cell_of_row _ _ 5 _ _ (0, 0) HQ.out
      have uf5 := block_free HQ.out 5
      have ul := (Array.getElem?_eq_some_iff.1 HQ.out).1
      go_wp2_with fail
      refine (l27Copy_any ro go A0 n0 c0 x0 A1 n1 c1 x1 A2 n2 c2 x2 A3 n3 c3 x3 _ I0.out I1.out I2.out I3.out (by omega) (by omega) (by omega) (by omega)).mono ?_
      rintro e w4 ⟨C0, e0, C1, e1, C2, e2, C3, e3, B1, B2, B3, rfl, o0, o1, o2, o3, b1, b2, b3, b4, hb4⟩
      have lxr := (Array.getElem?_eq_some_iff.1 HQ.out).1
      have lrr := (Array.getElem?_eq_some_iff.1 HRS.out).1
      have HQ4 := Lib.hid ((hb4.block _ lxr).trans HQ.out)
      have RS4 := Lib.hid ((hb4.block _ lrr).trans HRS.out)
      have hC4 := Lib.hid (HC.out.trans (Chg.of_below hb4 _))
      have rd4 := Lib.hid (HR.out.below hb4)
      have z4 := hb4.size
      have O0 := Lib.hid o0; have O1 := Lib.hid o1; have O2 := Lib.hid o2; have O3 := Lib.hid o3
      clear o0 o1 o2 o3 hb4 HQ HRS HC HR I0 I1 I2 I3
      clear uc0 uf0 uc1 uf1 uc2 uf2 uc3 uf3 uc4 uf4 uc5 uf5 ul
      have uc0 := cell_of_row _ _ 0 _ _ (0, 0) HQ4.out
      have uf0 := block_free HQ4.out 0
      have uc1 := cell_of_row _ _ 1 _ _ (0, 0) HQ4.out
      have uf1 := block_free HQ4.out 1
      have uc2 := cell_of_row _ _ 2 _ _ (0, 0) HQ4.out
      have uf2 := block_free HQ4.out 2
      have uc3 := cell_of_row _ _ 3 _ _ (0, 0) HQ4.out
      have uf3 := block_free HQ4.out 3
      have uc4 := cell_of_row _ _ 4 _ _ (0, 0) HQ4.out
      have uf4 := block_free HQ4.out 4
      have uc5 := cell_of_row _ _ 5 _ _ (0, 0) HQ4.out
      have uf5 := block_free HQ4.out 5
      have ul := (Array.getElem?_eq_some_iff.1 HQ4.out).1
      go_wp2_with fail
      refine (pick_any _ p A n c zs _ 20 (Rd.setOldC h (Rd.setOldC h (Rd.setOldC h (Rd.setOldC h (Rd.setOldC h (Rd.setOldC h rd4.out (a := ⟨w2.heap.size, 0, none⟩) (by show w.heap.size ≤ w2.heap.size; omega) _) (a := ⟨w2.heap.size, 1, none⟩) (by show w.heap.size ≤ w2.heap.size; omega) _) (a := ⟨w2.heap.size, 2, none⟩) (by show w.heap.size ≤ w2.heap.size; omega) _) (a := ⟨w2.heap.size, 3, none⟩) (by show w.heap.size ≤ w2.heap.size; omega) _) (a := ⟨w2.heap.size, 4, none⟩) (by show w.heap.size ≤ w2.heap.size; omega) _) (a := ⟨w2.heap.size, 5, none⟩) (by show w.heap.size ≤ w2.heap.size; omega) _) (by omega) (by omega) (by omega)).mono ?_
      rintro e w5 ⟨r5, rfl, hr5, rd5, hc5, hz5⟩
      have hr5 := hr5 (by omega)
      simp [World.setCell] at hz5
      have lx5 : w2.heap.size < w5.heap.size := by omega
      have HQ5 : Hid (w5.heap[w2.heap.size]? = some (.cells #[.int .i64 ro, .int .i64 go, .slice C0 n0 e0, .slice C1 n1 e1, .slice C2 n2 e2, .slice C3 n3 e3] 57 (0, 0))) := Lib.hid ((hc5.block _ (by simp [World.setCell]; omega) (by simp; omega)).trans (block_set (o := 5) (block_set (o := 4) (block_set (o := 3) (block_set (o := 2) (block_set (o := 1) (block_set (o := 0) HQ4.out)))))))
      have RS5 : Hid (w5.heap[w.heap.size]? = some (.cells #[.int .i64 0, .int .i64 0, .slice none 0 0, .slice none 0 0, .slice none 0 0, .slice none 0 0] 57 (0, 0))) := Lib.hid ((hc5.block _ (by simp [World.setCell]; omega) (by simp; omega)).trans (((heap_far (by simp; omega)).trans ((heap_far (by simp; omega)).trans ((heap_far (by simp; omega)).trans ((heap_far (by simp; omega)).trans ((heap_far (by simp; omega)).trans ((heap_far (by simp; omega)).trans (rfl))))))).trans RS4.out))
      have hC5 : Hid (Chg (· ∈ [p]) w w5) := Lib.hid ((Chg.setCell (p := ⟨w2.heap.size, 5, none⟩) (Chg.setCell (p := ⟨w2.heap.size, 4, none⟩) (Chg.setCell (p := ⟨w2.heap.size, 3, none⟩) (Chg.setCell (p := ⟨w2.heap.size, 2, none⟩) (Chg.setCell (p := ⟨w2.heap.size, 1, none⟩) (Chg.setCell (p := ⟨w2.heap.size, 0, none⟩) hC4.out (.inr (by show w.heap.size ≤ w2.heap.size; omega)) _) (.inr (by show w.heap.size ≤ w2.heap.size; omega)) _) (.inr (by show w.heap.size ≤ w2.heap.size; omega)) _) (.inr (by show w.heap.size ≤ w2.heap.size; omega)) _) (.inr (by show w.heap.size ≤ w2.heap.size; omega)) _) (.inr (by show w.heap.size ≤ w2.heap.size; omega)) _).trans hc5)
      have O0 := Lib.hid (O0.out.keep (w' := w5) (fun b b1_ b2_ => (hc5.block b (by simp [World.setCell]; omega) (by simp; omega)).trans ((heap_far (by simp; omega)).trans ((heap_far (by simp; omega)).trans ((heap_far (by simp; omega)).trans ((heap_far (by simp; omega)).trans ((heap_far (by simp; omega)).trans ((heap_far (by simp; omega)).trans (rfl)))))))))
      have O1 := Lib.hid (O1.out.keep (w' := w5) (fun b b1_ b2_ => (hc5.block b (by simp [World.setCell]; omega) (by simp; omega)).trans ((heap_far (by simp; omega)).trans ((heap_far (by simp; omega)).trans ((heap_far (by simp; omega)).trans ((heap_far (by simp; omega)).trans ((heap_far (by simp; omega)).trans ((heap_far (by simp; omega)).trans (rfl)))))))))
      have O2 := Lib.hid (O2.out.keep (w' := w5) (fun b b1_ b2_ => (hc5.block b (by simp [World.setCell]; omega) (by simp; omega)).trans ((heap_far (by simp; omega)).trans ((heap_far (by simp; omega)).trans ((heap_far (by simp; omega)).trans ((heap_far (by simp; omega)).trans ((heap_far (by simp; omega)).trans ((heap_far (by simp; omega)).trans (rfl)))))))))
      have O3 := Lib.hid (O3.out.keep (w' := w5) (fun b b1_ b2_ => (hc5.block b (by simp [World.setCell]; omega) (by simp; omega)).trans ((heap_far (by simp; omega)).trans ((heap_far (by simp; omega)).trans ((heap_far (by simp; omega)).trans ((heap_far (by simp; omega)).trans ((heap_far (by simp; omega)).trans ((heap_far (by simp; omega)).trans (rfl)))))))))
      have rd5 := Lib.hid rd5
      have zr5 : wr.heap.size ≤ w5.heap.size := by omega
      have b4 : B3 ≤ w5.heap.size := by omega
      rw [← hz5] at O3
      have zw5 : w.heap.size + 1 ≤ wr.heap.size := by omega
      clear uc0 uf0 uc1 uf1 uc2 uf2 uc3 uf3 uc4 uf4 uc5 uf5 ul
      clear hc5 HQ4 RS4 hC4 rd4
      have hw2 : w2.heap.size < wr.heap.size := by omega
      by_cases h0 : r5 = 0
      case pos =>
        have t0_ : ((r5 : Int) == 0) = true := by simp [h0]
        have t0' : (r5 : Int) = 0 := by omega
        clear h0
        go_wp2_with fail
        refine (pick_any _ p A n c zs _ 3 (rd5.out.below bel1) (by omega) (by omega) (by omega)).mono ?_
        rintro e w6 ⟨r6, rfl, hr6, rd6, hc6, hz6⟩
        have hr6 := hr6 (by omega)
        simp at hz6
        have hlit := (hc6.block _ (by simp) (by simp; omega)).trans (heap_alloc_new _ _)
        rw [hz5] at hlit
        obtain ⟨zv, hzv⟩ : ∃ z : Int, w6.cell? ⟨w4.heap.size, r6, none⟩ = some (.int .i64 z) := by
          have hr : r6 = 0 ∨ r6 = 1 ∨ r6 = 2 := by omega
          rcases hr with rfl | rfl | rfl
          · exact ⟨0, cell_of_row _ _ 0 _ _ (0, 0) hlit⟩
          · exact ⟨8, cell_of_row _ _ 1 _ _ (0, 0) hlit⟩
          · exact ⟨9, cell_of_row _ _ 2 _ _ (0, 0) hlit⟩
        have hll : w4.heap.size < w6.heap.size := by omega
        have s60 : (0 : Int) ≤ (r6 : Int) := by omega
        have s61 : (r6 : Int) < 3 := by omega
        have HQ6 := Lib.hid ((hc6.block _ (by first | omega | (simp; omega)) (by simp; omega)).trans ((Below.heap_alloc _ _ _ (by omega)).trans HQ5.out))
        have RS6 := Lib.hid ((hc6.block _ (by first | omega | (simp; omega)) (by simp; omega)).trans ((Below.heap_alloc _ _ _ (by omega)).trans RS5.out))
        have hC6 : Hid (Chg (· ∈ [p]) w w6) := Lib.hid ((hC5.out.alloc _).trans hc6)
        have O0 := Lib.hid (O0.out.keep (w' := w6) (fun b b1_ b2_ => ((hc6.block _ (by first | omega | (simp; omega)) (by simp; omega)).trans ((Below.heap_alloc _ _ _ (by omega)).trans rfl))))
        have O1 := Lib.hid (O1.out.keep (w' := w6) (fun b b1_ b2_ => ((hc6.block _ (by first | omega | (simp; omega)) (by simp; omega)).trans ((Below.heap_alloc _ _ _ (by omega)).trans rfl))))
        have O2 := Lib.hid (O2.out.keep (w' := w6) (fun b b1_ b2_ => ((hc6.block _ (by first | omega | (simp; omega)) (by simp; omega)).trans ((Below.heap_alloc _ _ _ (by omega)).trans rfl))))
        have O3 := Lib.hid (O3.out.keep (w' := w6) (fun b b1_ b2_ => ((hc6.block _ (by first | omega | (simp; omega)) (by simp; omega)).trans ((Below.heap_alloc _ _ _ (by omega)).trans rfl))))
        have rd6 := Lib.hid rd6
        clear hc6 hlit HQ5 RS5 hC5 rd5
        have uc0 := cell_of_row _ _ 0 _ _ (0, 0) HQ6.out
        have uf0 := block_free HQ6.out 0
        have uc1 := cell_of_row _ _ 1 _ _ (0, 0) HQ6.out
        have uf1 := block_free HQ6.out 1
        have uc2 := cell_of_row _ _ 2 _ _ (0, 0) HQ6.out
        have uf2 := block_free HQ6.out 2
        have uc3 := cell_of_row _ _ 3 _ _ (0, 0) HQ6.out
        have uf3 := block_free HQ6.out 3
        have uc4 := cell_of_row _ _ 4 _ _ (0, 0) HQ6.out
        have uf4 := block_free HQ6.out 4
        have uc5 := cell_of_row _ _ 5 _ _ (0, 0) HQ6.out
        have uf5 := block_free HQ6.out 5
        have ul := (Array.getElem?_eq_some_iff.1 HQ6.out).1
        have vc0 := cell_of_row _ _ 0 _ _ (0, 0) RS6.out; have vf0 := block_free RS6.out 0
        have vc1 := cell_of_row _ _ 1 _ _ (0, 0) RS6.out; have vf1 := block_free RS6.out 1
        have vc2 := cell_of_row _ _ 2 _ _ (0, 0) RS6.out; have vf2 := block_free RS6.out 2
        have vc3 := cell_of_row _ _ 3 _ _ (0, 0) RS6.out; have vf3 := block_free RS6.out 3
        have vc4 := cell_of_row _ _ 4 _ _ (0, 0) RS6.out; have vf4 := block_free RS6.out 4
        have vc5 := cell_of_row _ _ 5 _ _ (0, 0) RS6.out; have vf5 := block_free RS6.out 5
        have vl := (Array.getElem?_eq_some_iff.1 RS6.out).1
        obtain ⟨wF, hwF⟩ : ∃ W, W = (World.setCell (World.setCell (World.setCell (World.setCell (World.setCell (World.setCell (World.setCell w6 ⟨w2.heap.size, 0, none⟩ (.int .i64 zv)) ⟨w.heap.size, 0, none⟩ (.int .i64 zv)) ⟨w.heap.size, 1, none⟩ (.int .i64 go)) ⟨w.heap.size, 2, none⟩ (.slice C0 n0 e0)) ⟨w.heap.size, 3, none⟩ (.slice C1 n1 e1)) ⟨w.heap.size, 4, none⟩ (.slice C2 n2 e2)) ⟨w.heap.size, 5, none⟩ (.slice C3 n3 e3)) := ⟨_, rfl⟩
        have RSF : wF.heap[w.heap.size]? = some (.cells #[.int .i64 zv, .int .i64 go, .slice C0 n0 e0, .slice C1 n1 e1, .slice C2 n2 e2, .slice C3 n3 e3] 57 (0, 0)) := by rw [hwF]; exact (block_set (o := 5) (v := .slice C3 n3 e3) (block_set (o := 4) (v := .slice C2 n2 e2) (block_set (o := 3) (v := .slice C1 n1 e1) (block_set (o := 2) (v := .slice C0 n0 e0) (block_set (o := 1) (v := .int .i64 go) (block_set (o := 0) (v := .int .i64 zv) ((heap_far (by simp; omega)).trans RS6.out)))))))
        have r0_ := cell_of_row _ _ 0 _ _ (0, 0) RSF
        have r1_ := cell_of_row _ _ 1 _ _ (0, 0) RSF
        have r2_ := cell_of_row _ _ 2 _ _ (0, 0) RSF
        have r3_ := cell_of_row _ _ 3 _ _ (0, 0) RSF
        have r4_ := cell_of_row _ _ 4 _ _ (0, 0) RSF
        have r5_ := cell_of_row _ _ 5 _ _ (0, 0) RSF
        have sl0 := ((O0.out.keep (w' := (World.setCell w6 ⟨w2.heap.size, 0, none⟩ (.int .i64 zv))) (fun b b1_ b2_ => (heap_far (by simp; omega)).trans (rfl))).wide (lo' := w.heap.size + 1) (hi' := ((World.setCell w6 ⟨w2.heap.size, 0, none⟩ (.int .i64 zv))).heap.size) (by omega) (by first | omega | (simp [World.setCell]; omega) | simp [World.setCell])).slice (Nat.le_refl _)
        have sl1 := ((O1.out.keep (w' := (World.setCell w6 ⟨w2.heap.size, 0, none⟩ (.int .i64 zv))) (fun b b1_ b2_ => (heap_far (by simp; omega)).trans (rfl))).wide (lo' := w.heap.size + 1) (hi' := ((World.setCell w6 ⟨w2.heap.size, 0, none⟩ (.int .i64 zv))).heap.size) (by omega) (by first | omega | (simp [World.setCell]; omega) | simp [World.setCell])).slice (Nat.le_refl _)
        have sl2 := ((O2.out.keep (w' := (World.setCell w6 ⟨w2.heap.size, 0, none⟩ (.int .i64 zv))) (fun b b1_ b2_ => (heap_far (by simp; omega)).trans (rfl))).wide (lo' := w.heap.size + 1) (hi' := ((World.setCell w6 ⟨w2.heap.size, 0, none⟩ (.int .i64 zv))).heap.size) (by omega) (by first | omega | (simp [World.setCell]; omega) | simp [World.setCell])).slice (Nat.le_refl _)
        have sl3 := ((O3.out.keep (w' := (World.setCell w6 ⟨w2.heap.size, 0, none⟩ (.int .i64 zv))) (fun b b1_ b2_ => (heap_far (by simp; omega)).trans (rfl))).wide (lo' := w.heap.size + 1) (hi' := ((World.setCell w6 ⟨w2.heap.size, 0, none⟩ (.int .i64 zv))).heap.size) (by omega) (by first | omega | (simp [World.setCell]; omega) | simp [World.setCell])).slice (Nat.le_refl _)
        have HP : Hid (CacheDrawn w p A n c zs k (.returned (.agg #[.int .i64 zv, .int .i64 go, .slice C0 n0 e0, .slice C1 n1 e1, .slice C2 n2 e2, .slice C3 n3 e3])) wF) := Lib.hid (by rw [hwF]; exact fin_cache h (Rd.setOldC h rd6.out (a := ⟨w2.heap.size, 0, none⟩) (by show w.heap.size ≤ w2.heap.size; omega) _) (by omega) (Chg.setCell (p := ⟨w2.heap.size, 0, none⟩) hC6.out (.inr (by show w.heap.size ≤ w2.heap.size; omega)) _) (zv) (go) sl0 sl1 sl2 sl3 (by omega))
        have HWF := Lib.hid hwF
        clear hwF RSF sl0 sl1 sl2 sl3
        go_wp2_with fail
        rw [← HWF.out]
        exact bodyPost_ret (v := .agg #[.int .i64 zv, .int .i64 go, .slice C0 n0 e0, .slice C1 n1 e1, .slice C2 n2 e2, .slice C3 n3 e3]) (by simp [results, Try.results75, go_sem, r0_, r1_, r2_, r3_, r4_, r5_]) rfl HP.out
      case neg =>
        have t0_ : ((r5 : Int) == 0) = false := by rw [beq_eq_false_iff_ne]; omega
        have t0' : ¬ (r5 : Int) = 0 := by omega
        by_cases h1 : r5 = 1
        case pos =>
          have t1_ : ((r5 : Int) == 1) = true := by simp [h1]
          have t1' : (r5 : Int) = 1 := by omega
          clear h1
          go_wp2_with fail
          refine (pick_any _ p A n c zs _ 8 rd5.out (by omega) (by omega) (by omega)).mono ?_
          rintro e w6 ⟨r6, rfl, hr6, rd6, hc6, hz6⟩
          have hr6 := hr6 (by omega)
          have nw6 : IntKind.i64.wrap ((r6 : Int) - 1) = (r6 : Int) - 1 := IntWalk.i64_in _ (by omega)
          have HQ6 := Lib.hid ((hc6.block _ (by first | omega | (simp; omega)) (by simp; omega)).trans (HQ5.out))
          have RS6 := Lib.hid ((hc6.block _ (by first | omega | (simp; omega)) (by simp; omega)).trans (RS5.out))
          have hC6 : Hid (Chg (· ∈ [p]) w w6) := Lib.hid (hC5.out.trans hc6)
          have O0 := Lib.hid (O0.out.keep (w' := w6) (fun b b1_ b2_ => ((hc6.block _ (by first | omega | (simp; omega)) (by simp; omega)).trans (rfl))))
          have O1 := Lib.hid (O1.out.keep (w' := w6) (fun b b1_ b2_ => ((hc6.block _ (by first | omega | (simp; omega)) (by simp; omega)).trans (rfl))))
          have O2 := Lib.hid (O2.out.keep (w' := w6) (fun b b1_ b2_ => ((hc6.block _ (by first | omega | (simp; omega)) (by simp; omega)).trans (rfl))))
          have O3 := Lib.hid (O3.out.keep (w' := w6) (fun b b1_ b2_ => ((hc6.block _ (by first | omega | (simp; omega)) (by simp; omega)).trans (rfl))))
          have rd6 := Lib.hid rd6
          clear hc6 HQ5 RS5 hC5 rd5
          have uc0 := cell_of_row _ _ 0 _ _ (0, 0) HQ6.out
          have uf0 := block_free HQ6.out 0
          have uc1 := cell_of_row _ _ 1 _ _ (0, 0) HQ6.out
          have uf1 := block_free HQ6.out 1
          have uc2 := cell_of_row _ _ 2 _ _ (0, 0) HQ6.out
          have uf2 := block_free HQ6.out 2
          have uc3 := cell_of_row _ _ 3 _ _ (0, 0) HQ6.out
          have uf3 := block_free HQ6.out 3
          have uc4 := cell_of_row _ _ 4 _ _ (0, 0) HQ6.out
          have uf4 := block_free HQ6.out 4
          have uc5 := cell_of_row _ _ 5 _ _ (0, 0) HQ6.out
          have uf5 := block_free HQ6.out 5
          have ul := (Array.getElem?_eq_some_iff.1 HQ6.out).1
          have vc0 := cell_of_row _ _ 0 _ _ (0, 0) RS6.out; have vf0 := block_free RS6.out 0
          have vc1 := cell_of_row _ _ 1 _ _ (0, 0) RS6.out; have vf1 := block_free RS6.out 1
          have vc2 := cell_of_row _ _ 2 _ _ (0, 0) RS6.out; have vf2 := block_free RS6.out 2
          have vc3 := cell_of_row _ _ 3 _ _ (0, 0) RS6.out; have vf3 := block_free RS6.out 3
          have vc4 := cell_of_row _ _ 4 _ _ (0, 0) RS6.out; have vf4 := block_free RS6.out 4
          have vc5 := cell_of_row _ _ 5 _ _ (0, 0) RS6.out; have vf5 := block_free RS6.out 5
          have vl := (Array.getElem?_eq_some_iff.1 RS6.out).1
          obtain ⟨wF, hwF⟩ : ∃ W, W = (World.setCell (World.setCell (World.setCell (World.setCell (World.setCell (World.setCell (World.setCell w6 ⟨w2.heap.size, 1, none⟩ (.int .i64 ((r6 : Int) - 1))) ⟨w.heap.size, 0, none⟩ (.int .i64 ro)) ⟨w.heap.size, 1, none⟩ (.int .i64 ((r6 : Int) - 1))) ⟨w.heap.size, 2, none⟩ (.slice C0 n0 e0)) ⟨w.heap.size, 3, none⟩ (.slice C1 n1 e1)) ⟨w.heap.size, 4, none⟩ (.slice C2 n2 e2)) ⟨w.heap.size, 5, none⟩ (.slice C3 n3 e3)) := ⟨_, rfl⟩
          have RSF : wF.heap[w.heap.size]? = some (.cells #[.int .i64 ro, .int .i64 ((r6 : Int) - 1), .slice C0 n0 e0, .slice C1 n1 e1, .slice C2 n2 e2, .slice C3 n3 e3] 57 (0, 0)) := by rw [hwF]; exact (block_set (o := 5) (v := .slice C3 n3 e3) (block_set (o := 4) (v := .slice C2 n2 e2) (block_set (o := 3) (v := .slice C1 n1 e1) (block_set (o := 2) (v := .slice C0 n0 e0) (block_set (o := 1) (v := .int .i64 ((r6 : Int) - 1)) (block_set (o := 0) (v := .int .i64 ro) ((heap_far (by simp; omega)).trans RS6.out)))))))
          have r0_ := cell_of_row _ _ 0 _ _ (0, 0) RSF
          have r1_ := cell_of_row _ _ 1 _ _ (0, 0) RSF
          have r2_ := cell_of_row _ _ 2 _ _ (0, 0) RSF
          have r3_ := cell_of_row _ _ 3 _ _ (0, 0) RSF
          have r4_ := cell_of_row _ _ 4 _ _ (0, 0) RSF
          have r5_ := cell_of_row _ _ 5 _ _ (0, 0) RSF
          have sl0 := ((O0.out.keep (w' := (World.setCell w6 ⟨w2.heap.size, 1, none⟩ (.int .i64 ((r6 : Int) - 1)))) (fun b b1_ b2_ => (heap_far (by simp; omega)).trans (rfl))).wide (lo' := w.heap.size + 1) (hi' := ((World.setCell w6 ⟨w2.heap.size, 1, none⟩ (.int .i64 ((r6 : Int) - 1)))).heap.size) (by omega) (by first | omega | (simp [World.setCell]; omega) | simp [World.setCell])).slice (Nat.le_refl _)
          have sl1 := ((O1.out.keep (w' := (World.setCell w6 ⟨w2.heap.size, 1, none⟩ (.int .i64 ((r6 : Int) - 1)))) (fun b b1_ b2_ => (heap_far (by simp; omega)).trans (rfl))).wide (lo' := w.heap.size + 1) (hi' := ((World.setCell w6 ⟨w2.heap.size, 1, none⟩ (.int .i64 ((r6 : Int) - 1)))).heap.size) (by omega) (by first | omega | (simp [World.setCell]; omega) | simp [World.setCell])).slice (Nat.le_refl _)
          have sl2 := ((O2.out.keep (w' := (World.setCell w6 ⟨w2.heap.size, 1, none⟩ (.int .i64 ((r6 : Int) - 1)))) (fun b b1_ b2_ => (heap_far (by simp; omega)).trans (rfl))).wide (lo' := w.heap.size + 1) (hi' := ((World.setCell w6 ⟨w2.heap.size, 1, none⟩ (.int .i64 ((r6 : Int) - 1)))).heap.size) (by omega) (by first | omega | (simp [World.setCell]; omega) | simp [World.setCell])).slice (Nat.le_refl _)
          have sl3 := ((O3.out.keep (w' := (World.setCell w6 ⟨w2.heap.size, 1, none⟩ (.int .i64 ((r6 : Int) - 1)))) (fun b b1_ b2_ => (heap_far (by simp; omega)).trans (rfl))).wide (lo' := w.heap.size + 1) (hi' := ((World.setCell w6 ⟨w2.heap.size, 1, none⟩ (.int .i64 ((r6 : Int) - 1)))).heap.size) (by omega) (by first | omega | (simp [World.setCell]; omega) | simp [World.setCell])).slice (Nat.le_refl _)
          have HP : Hid (CacheDrawn w p A n c zs k (.returned (.agg #[.int .i64 ro, .int .i64 ((r6 : Int) - 1), .slice C0 n0 e0, .slice C1 n1 e1, .slice C2 n2 e2, .slice C3 n3 e3])) wF) := Lib.hid (by rw [hwF]; exact fin_cache h (Rd.setOldC h rd6.out (a := ⟨w2.heap.size, 1, none⟩) (by show w.heap.size ≤ w2.heap.size; omega) _) (by omega) (Chg.setCell (p := ⟨w2.heap.size, 1, none⟩) hC6.out (.inr (by show w.heap.size ≤ w2.heap.size; omega)) _) (ro) (((r6 : Int) - 1)) sl0 sl1 sl2 sl3 (by omega))
          have HWF := Lib.hid hwF
          clear hwF RSF sl0 sl1 sl2 sl3
          go_wp2_with fail
          rw [← HWF.out]
          exact bodyPost_ret (v := .agg #[.int .i64 ro, .int .i64 ((r6 : Int) - 1), .slice C0 n0 e0, .slice C1 n1 e1, .slice C2 n2 e2, .slice C3 n3 e3]) (by simp [results, Try.results75, go_sem, r0_, r1_, r2_, r3_, r4_, r5_]) rfl HP.out
        case neg =>
          have t1_ : ((r5 : Int) == 1) = false := by rw [beq_eq_false_iff_ne]; omega
          have t1' : ¬ (r5 : Int) = 1 := by omega
          by_cases h2 : r5 = 2
          case pos =>
            have t2_ : ((r5 : Int) == 2) = true := by simp [h2]
            have t2' : (r5 : Int) = 2 := by omega
            clear h2
            go_wp2_with fail
            apply wp_region_rgz (Chg (fun b => b = p ∨ w.heap.size ≤ b)) (Chg (· ∈ [p])) (fun y w' k' => (∃ k1, k1 ≤ k0 + 1 + k' ∧ Rd w' p A n c zs k1) ∧ (k' < 5000 → w'.heap[w2.heap.size]? = some (.cells #[.int .i64 ro, .int .i64 go, .slice C0 n0 e0, .slice C1 n1 e1, .slice C2 n2 e2, .slice C3 n3 e3] 57 (0, 0))) ∧ (k' < 1000 → OL w' (wr.heap.size + 2) B1 C0 n0 e0 x0) ∧ (5000 ≤ k' → ∃ A' c' ys, w'.heap[w2.heap.size]? = some (.cells #[.int .i64 ro, .int .i64 go, .slice A' (n0 + 1) c', .slice C1 n1 e1, .slice C2 n2 e2, .slice C3 n3 e3] 57 (0, 0)) ∧ OL w' (w2.heap.size + 1) w'.heap.size A' (n0 + 1) c' ys) ∧ OL w' B1 B2 C1 n1 e1 x1 ∧ OL w' B2 B3 C2 n2 e2 x2 ∧ OL w' B3 w5.heap.size C3 n3 e3 x3 ∧ w'.heap[w.heap.size]? = some (.cells #[.int .i64 0, .int .i64 0, .slice none 0 0, .slice none 0 0, .slice none 0 0, .slice none 0 0] 57 (0, 0))) [0, 0, 0, 1, 0, 0, 1000, 0, 5000] [6000, 6000, 6001, 6001, 6000, 6000, 6000, 5000, 5000] (by kernel_rfl) (false :: false :: false :: false :: false :: false :: false :: false :: false :: false :: false :: false :: false :: false :: false :: false :: false :: false :: false :: false :: false :: false :: false :: false :: false :: false :: false :: false :: false :: false :: false :: false :: false :: false :: false :: false :: false :: false :: false :: false :: false :: false :: false :: false :: false :: false :: false :: true :: true :: true :: true :: true :: true :: true :: true :: false :: false :: false :: false :: false :: false :: false :: false :: false :: false :: false :: []) [some 47, some 48, some 49, some 50, some 51, some 52, some 53, some 54, none] [[], [0], [], [2], [3], [4], [1, 5], [], [6, 7]] [false, false, false, false, false, false, true, false, true] [true, true, true, true, true, false, false, true, true] [] [MStP.is _, MStP.is _, MStP.is _, ⟨fun v _ => ∃ r : Nat, v = .int .i64 (r : Int) ∧ r < 12, true, fun _ _ _ _ h => h, fun _ _ _ _ _ h => h⟩, ⟨fun v _ => ∃ z : Int, v = .int .i64 z, true, fun _ _ _ _ h => h, fun _ _ _ _ _ h => h⟩, ⟨fun v w' => ∃ (g : Nat) (z : Int), v = .slice (some ⟨g, 0, none⟩) 1 1 ∧ w'.heap[g]? = some (.cells #[.int .i64 z] 3 (0, 0)) ∧ w5.heap.size ≤ g, false, fun v w' w'' hs h => by obtain ⟨g, z, e, h1, h2⟩ := h; exact ⟨g, z, e, (Chg.block hs g (Array.getElem?_eq_some_iff.1 h1).1 (by simp; omega)).trans h1, h2⟩, fun h => by cases h⟩, ⟨fun v w' => ∃ (A' : Option Addr) (c' : Nat) (ys : List Int), v = .slice A' (n0 + 1) c' ∧ OL w' (w2.heap.size + 1) w'.heap.size A' (n0 + 1) c' ys, false, fun v w' w'' hs h => by obtain ⟨A', c', ys, e, h1⟩ := h; exact ⟨A', c', ys, e, (h1.keep (fun b b1_ b2_ => Chg.block hs b b2_ (by simp; omega))).wide (Nat.le_refl _) (Chg.size hs)⟩, fun h => by cases h⟩, MStP.is _, MStP.is _] (by kernel_rfl) (by kernel_rfl) (by kernel_rfl) (by kernel_rfl)
            case hobs =>
              refine ⟨fun y w' k hS hj hk hF K hK => ?_, ?_⟩
              · skip -- 0: fieldAddr
                simp only [fillL, cond_true, cond_false, List.getD_cons_zero, List.getD_cons_succ, StP.is, Act.put, List.setIfInBounds_toArray, List.set_cons_zero, List.set_cons_succ, Nat.reduceAdd, MStP.is, Option.isSome_some, Option.isSome_none] at hK ⊢
                simp only [List.sum_cons, List.sum_nil, List.getD_cons_zero, List.getD_cons_succ, Nat.reduceAdd, Nat.add_zero] at hk
                refine rg_yes (by kernel_rfl) ?_
                clear hF
                go_simp
                exact hK _ _ (Chg.refl _ _) ⟨(by obtain ⟨k1, ka, kb⟩ := hj.1; exact ⟨k1, by omega, kb⟩), fun h => hj.2.1 (by omega), fun h => hj.2.2.1 (by omega), fun h => hj.2.2.2.1 (by omega), hj.2.2.2.2⟩ rfl
              refine ⟨fun y w' k hS hj hk hF K hK => ?_, ?_⟩
              · skip -- 1: load
                have e47 : y 47 = _ := hF.1
                have e47' := Lib.hid e47
                simp only [fillL, cond_true, cond_false, List.getD_cons_zero, List.getD_cons_succ, StP.is, Act.put, List.setIfInBounds_toArray, List.set_cons_zero, List.set_cons_succ, Nat.reduceAdd, e47, MStP.is, Option.isSome_some, Option.isSome_none] at hK ⊢
                simp only [List.sum_cons, List.sum_nil, List.getD_cons_zero, List.getD_cons_succ, Nat.reduceAdd, Nat.add_zero] at hk
                refine rg_yes (by kernel_rfl) ?_
                clear e47
                clear hF
                have hq := hj.2.1 (by omega)
                have c0_ := cell_of_row _ _ 0 _ _ (0, 0) hq
                have c1_ := cell_of_row _ _ 1 _ _ (0, 0) hq
                have c2_ := cell_of_row _ _ 2 _ _ (0, 0) hq
                have c3_ := cell_of_row _ _ 3 _ _ (0, 0) hq
                have c4_ := cell_of_row _ _ 4 _ _ (0, 0) hq
                have c5_ := cell_of_row _ _ 5 _ _ (0, 0) hq
                have lq := (Array.getElem?_eq_some_iff.1 hq).1
                have HJ := Lib.hid hj; clear hj hq
                go_simp
                have hj := HJ.out
                exact hK _ _ (Chg.refl _ _) ⟨(by obtain ⟨k1, ka, kb⟩ := hj.1; exact ⟨k1, by omega, kb⟩), fun h => hj.2.1 (by omega), fun h => hj.2.2.1 (by omega), fun h => hj.2.2.2.1 (by omega), hj.2.2.2.2⟩ rfl
              refine ⟨fun y w' k hS hj hk hF K hK => ?_, ?_⟩
              · skip -- 2: move
                simp only [fillL, cond_true, cond_false, List.getD_cons_zero, List.getD_cons_succ, StP.is, Act.put, List.setIfInBounds_toArray, List.set_cons_zero, List.set_cons_succ, Nat.reduceAdd, MStP.is, Option.isSome_some, Option.isSome_none] at hK ⊢
                simp only [List.sum_cons, List.sum_nil, List.getD_cons_zero, List.getD_cons_succ, Nat.reduceAdd, Nat.add_zero] at hk
                refine rg_yes (by kernel_rfl) ?_
                clear hF
                go_simp
                exact hK _ _ (Chg.refl _ _) ⟨(by obtain ⟨k1, ka, kb⟩ := hj.1; exact ⟨k1, by omega, kb⟩), fun h => hj.2.1 (by omega), fun h => hj.2.2.1 (by omega), fun h => hj.2.2.2.1 (by omega), hj.2.2.2.2⟩ rfl
              refine ⟨fun y w' k hS hj hk hF K hK => ?_, ?_⟩
              · skip -- 3: call
                have e49 : y 49 = _ := hF.1
                have e49' := Lib.hid e49
                simp only [fillL, cond_true, cond_false, List.getD_cons_zero, List.getD_cons_succ, StP.is, Act.put, List.setIfInBounds_toArray, List.set_cons_zero, List.set_cons_succ, Nat.reduceAdd, e49, MStP.is, Option.isSome_some, Option.isSome_none] at hK ⊢
                simp only [List.sum_cons, List.sum_nil, List.getD_cons_zero, List.getD_cons_succ, Nat.reduceAdd, Nat.add_zero] at hk
                refine rg_yes (by kernel_rfl) ?_
                clear e49
                clear hF
                obtain ⟨⟨k1, hk1, hrd⟩, j2, j3, j4, j5, j6, j7, j8⟩ := hj
                have hsz : w5.heap.size ≤ w'.heap.size := Chg.size hS
                have J2 := Lib.hid j2; have J3 := Lib.hid j3; have J4 := Lib.hid j4; have J5 := Lib.hid j5; have J6 := Lib.hid j6; have J7 := Lib.hid j7; have J8 := Lib.hid j8; clear j2 j3 j4 j5 j6 j7 j8
                go_simp
                go_at_call 37
                refine (pick_any w' p A n c zs k1 12 hrd (by omega) (by omega) (by omega)).mono ?_
                rintro e w'' ⟨r, rfl, hr1, rd1, hc1, hz1⟩
                exact hK _ _ hc1 ⟨⟨k1 + 1, by omega, rd1⟩, fun h => (hc1.block _ (Array.getElem?_eq_some_iff.1 (J2.out (by omega))).1 (by simp; omega)).trans (J2.out (by omega)), fun h => (J3.out (by omega)).keep (fun b b1_ b2_ => hc1.block b (by omega) (by simp; omega)), fun h => absurd h (by omega), J5.out.keep (fun b b1_ b2_ => hc1.block b (by omega) (by simp; omega)), J6.out.keep (fun b b1_ b2_ => hc1.block b (by omega) (by simp; omega)), J7.out.keep (fun b b1_ b2_ => hc1.block b (by omega) (by simp; omega)), (hc1.block _ (Array.getElem?_eq_some_iff.1 J8.out).1 (by simp; omega)).trans J8.out⟩ ⟨r, rfl, by have := hr1 (by omega); omega⟩
              refine ⟨fun y w' k hS hj hk hF K hK => ?_, ?_⟩
              · skip -- 4: binOp
                obtain ⟨r, e50, hr3⟩ := hF.1
                have e50' := Lib.hid e50
                simp only [fillL, cond_true, cond_false, List.getD_cons_zero, List.getD_cons_succ, StP.is, Act.put, List.setIfInBounds_toArray, List.set_cons_zero, List.set_cons_succ, Nat.reduceAdd, e50, MStP.is, Option.isSome_some, Option.isSome_none] at hK ⊢
                simp only [List.sum_cons, List.sum_nil, List.getD_cons_zero, List.getD_cons_succ, Nat.reduceAdd, Nat.add_zero] at hk
                refine rg_yes (by kernel_rfl) ?_
                clear e50
                clear hF
                go_simp
                exact hK _ _ (Chg.refl _ _) ⟨(by obtain ⟨k1, ka, kb⟩ := hj.1; exact ⟨k1, by omega, kb⟩), fun h => hj.2.1 (by omega), fun h => hj.2.2.1 (by omega), fun h => hj.2.2.2.1 (by omega), hj.2.2.2.2⟩ ⟨_, rfl⟩
              refine ⟨fun y w' k hS hj hk hF K hK => ?_, ?_⟩
              · skip -- 5: buildSlice
                obtain ⟨zz, e51⟩ := hF.1
                have e51' := Lib.hid e51
                simp only [fillL, cond_true, cond_false, List.getD_cons_zero, List.getD_cons_succ, StP.is, Act.put, List.setIfInBounds_toArray, List.set_cons_zero, List.set_cons_succ, Nat.reduceAdd, e51, MStP.is, Option.isSome_some, Option.isSome_none] at hK ⊢
                simp only [List.sum_cons, List.sum_nil, List.getD_cons_zero, List.getD_cons_succ, Nat.reduceAdd, Nat.add_zero] at hk
                refine rg_yes (by kernel_rfl) ?_
                clear e51
                clear hF
                obtain ⟨⟨k1, hk1, hrd⟩, j2, j3, j4, j5, j6, j7, j8⟩ := hj
                have hsz : w5.heap.size ≤ w'.heap.size := Chg.size hS
                have J2 := Lib.hid j2; have J3 := Lib.hid j3; have J4 := Lib.hid j4; have J5 := Lib.hid j5; have J6 := Lib.hid j6; have J7 := Lib.hid j7; have J8 := Lib.hid j8; clear j2 j3 j4 j5 j6 j7 j8
                go_simp
                exact hK _ _ ((Chg.refl _ _).alloc _) ⟨⟨k1, by omega, hrd.below bel1⟩, fun h => (Below.heap_alloc _ _ _ (Array.getElem?_eq_some_iff.1 (J2.out (by omega))).1).trans (J2.out (by omega)), fun h => (J3.out (by omega)).below bel1, fun h => absurd h (by omega), J5.out.below bel1, J6.out.below bel1, J7.out.below bel1, (Below.heap_alloc _ _ _ (Array.getElem?_eq_some_iff.1 J8.out).1).trans J8.out⟩ ⟨w'.heap.size, zz, rfl, heap_alloc_new _ _, hsz⟩
              refine ⟨fun y w' k hS hj hk hF K hK => ?_, ?_⟩
              · skip -- 6: call
                have e48 : y 48 = _ := hF.1
                obtain ⟨g, zz, e52, hg, hgw⟩ := hF.2.1
                have e48' := Lib.hid e48
                have e52' := Lib.hid e52
                simp only [fillL, cond_true, cond_false, List.getD_cons_zero, List.getD_cons_succ, StP.is, Act.put, List.setIfInBounds_toArray, List.set_cons_zero, List.set_cons_succ, Nat.reduceAdd, e48, e52, MStP.is, Option.isSome_some, Option.isSome_none] at hK ⊢
                simp only [List.sum_cons, List.sum_nil, List.getD_cons_zero, List.getD_cons_succ, Nat.reduceAdd, Nat.add_zero] at hk
                refine rg_yes (by kernel_rfl) ?_
                clear e48 e52
                clear hF
                obtain ⟨⟨k1, hk1, hrd⟩, j2, j3, j4, j5, j6, j7, j8⟩ := hj
                have hsz : w5.heap.size ≤ w'.heap.size := Chg.size hS
                obtain ⟨S_, hOS, hSB, hSl⟩ := j3 (by omega)
                have J2 := Lib.hid j2; have J3 := Lib.hid j3; have J4 := Lib.hid j4; have J5 := Lib.hid j5; have J6 := Lib.hid j6; have J7 := Lib.hid j7; have J8 := Lib.hid j8; clear j2 j3 j4 j5 j6 j7 j8
                have hRW := rowOne hg
                refine wp_append_row (.tmp 48) (.tmp 52) 25 rfl 3 i0 (.int .i64 0) 1 8 Try.underlying25 iA iB iC iD rfl (by decide) S_ C0 (some ⟨g, 0, none⟩) n0 e0 1 1 (x0.map (Value.int .i64)) [.int .i64 zz] rfl rfl hOS hRW (by intro u hu; simp at hu; subst hu; rfl) (by unfold maxLen; omega) (by omega) ?_
                intro A' c' S' w'' hO' hS' hC'
                exact hK _ _ (hC'.mono (fun b _ hb => by have h_ := hSB b hb; right; omega)) ⟨⟨k1, by omega, Rd.chgOwn h hrd hC' (fun g hg => by have h_ := hSB g hg; omega)⟩, fun h => (hC'.block _ (Array.getElem?_eq_some_iff.1 (J2.out (by omega))).1 (fun hm => by have h_ := hSB _ hm; omega)).trans (J2.out (by omega)), fun h => absurd h (by omega), fun h => absurd h (by omega), J5.out.keep (fun b b1_ b2_ => hC'.block b (by omega) (fun hm => by have h_ := hSB b hm; omega)), J6.out.keep (fun b b1_ b2_ => hC'.block b (by omega) (fun hm => by have h_ := hSB b hm; omega)), J7.out.keep (fun b b1_ b2_ => hC'.block b (by omega) (fun hm => by have h_ := hSB b hm; omega)), (hC'.block _ (Array.getElem?_eq_some_iff.1 J8.out).1 (fun hm => by have h_ := hSB _ hm; omega)).trans J8.out⟩ ⟨A', c', x0 ++ [zz], rfl, ⟨S', by simpa using hO', fun g hg => ⟨(hS' g hg).elim (fun h_ => by have h_ := hSB g h_; omega) (fun h_ => by omega), hO'.lt g hg⟩, by simp [hSl]⟩⟩
              refine ⟨fun y w' k hS hj hk hF K hK => ?_, ?_⟩
              · skip -- 7: fieldAddr
                simp only [fillL, cond_true, cond_false, List.getD_cons_zero, List.getD_cons_succ, StP.is, Act.put, List.setIfInBounds_toArray, List.set_cons_zero, List.set_cons_succ, Nat.reduceAdd, MStP.is, Option.isSome_some, Option.isSome_none] at hK ⊢
                simp only [List.sum_cons, List.sum_nil, List.getD_cons_zero, List.getD_cons_succ, Nat.reduceAdd, Nat.add_zero] at hk
                refine rg_yes (by kernel_rfl) ?_
                clear hF
                go_simp
                exact hK _ _ (Chg.refl _ _) ⟨(by obtain ⟨k1, ka, kb⟩ := hj.1; exact ⟨k1, by omega, kb⟩), fun h => hj.2.1 (by omega), fun h => hj.2.2.1 (by omega), fun h => hj.2.2.2.1 (by omega), hj.2.2.2.2⟩ rfl
              refine ⟨fun y w' k hS hj hk hF K hK => ?_, ?_⟩
              · skip -- 8: store
                obtain ⟨A', c', ys, e53, hol⟩ := hF.1
                have e54 : y 54 = _ := hF.2.1
                have e53' := Lib.hid e53
                have e54' := Lib.hid e54
                simp only [fillL, cond_true, cond_false, List.getD_cons_zero, List.getD_cons_succ, StP.is, Act.put, List.setIfInBounds_toArray, List.set_cons_zero, List.set_cons_succ, Nat.reduceAdd, e53, e54, MStP.is, Option.isSome_some, Option.isSome_none] at hK ⊢
                simp only [List.sum_cons, List.sum_nil, List.getD_cons_zero, List.getD_cons_succ, Nat.reduceAdd, Nat.add_zero] at hk
                refine rg_yes (by kernel_rfl) ?_
                clear e53 e54
                clear hF
                obtain ⟨⟨k1, hk1, hrd⟩, j2, j3, j4, j5, j6, j7, j8⟩ := hj
                have hsz : w5.heap.size ≤ w'.heap.size := Chg.size hS
                have hq := j2 (by omega)
                have J2 := Lib.hid j2; have J3 := Lib.hid j3; have J4 := Lib.hid j4; have J5 := Lib.hid j5; have J6 := Lib.hid j6; have J7 := Lib.hid j7; have J8 := Lib.hid j8; clear j2 j3 j4 j5 j6 j7 j8
                have c0_ := cell_of_row _ _ 0 _ _ (0, 0) hq; have z0_ := block_free hq 0
                have c1_ := cell_of_row _ _ 1 _ _ (0, 0) hq; have z1_ := block_free hq 1
                have c2_ := cell_of_row _ _ 2 _ _ (0, 0) hq; have z2_ := block_free hq 2
                have c3_ := cell_of_row _ _ 3 _ _ (0, 0) hq; have z3_ := block_free hq 3
                have c4_ := cell_of_row _ _ 4 _ _ (0, 0) hq; have z4_ := block_free hq 4
                have c5_ := cell_of_row _ _ 5 _ _ (0, 0) hq; have z5_ := block_free hq 5
                have lq := (Array.getElem?_eq_some_iff.1 hq).1
                have HQj := Lib.hid hq; have HOL := Lib.hid hol; clear hq hol
                go_simp
                exact hK undef _ (Chg.setCell (p := ⟨w2.heap.size, 2, none⟩) (Chg.refl _ _) (.inl (.inr (by show w.heap.size ≤ w2.heap.size; omega))) _) ⟨⟨k1, by omega, Rd.setOldC h hrd (a := ⟨w2.heap.size, 2, none⟩) (by show w.heap.size ≤ w2.heap.size; omega) _⟩, fun h => absurd h (by omega), fun h => absurd h (by omega), fun _ => ⟨A', c', ys, block_set (o := 2) HQj.out, (HOL.out.keep (fun b b1_ b2_ => heap_far (by simp; omega))).wide (Nat.le_refl _) (by simp [World.setCell])⟩, J5.out.keep (fun b b1_ b2_ => heap_far (by simp; omega)), J6.out.keep (fun b b1_ b2_ => heap_far (by simp; omega)), J7.out.keep (fun b b1_ b2_ => heap_far (by simp; omega)), (heap_far (by simp; omega)).trans J8.out⟩ rfl
              trivial
            case hH => rfl
            case hNS => exact fun _ _ h => h.mono (fun b _ hb => by simp at hb; exact .inl hb)
            case hSt => exact fun a b => Chg.trans a b
            case hb => rfl
            case hdrew => exact (Chg.refl _ _).drewN 1
            case hj0 => exact fun y => ⟨⟨k0 + 1, by omega, rd5.out.below (below_drewN (Below.refl _ _) 1)⟩, fun _ => HQ5.out, fun _ => O0.out.below (below_drewN (Below.refl _ _) 1), fun h => absurd h (by omega), O1.out.below (below_drewN (Below.refl _ _) 1), O2.out.below (below_drewN (Below.refl _ _) 1), O3.out.below (below_drewN (Below.refl _ _) 1), RS5.out⟩
            case hend =>
              intro y w9 hS hJ hF
              obtain ⟨⟨k9, hk9, rd9⟩, -, -, hJ4, o5, o6, o7, rs9⟩ := hJ
              obtain ⟨A', c', ys, hq9, on⟩ := hJ4 (by decide)
              have hk9' : k9 ≤ k0 + 6002 := by simpa using hk9
              have hz9 : w5.heap.size ≤ w9.heap.size := Chg.size hS
              have HQ9 := Lib.hid hq9; have RS9 := Lib.hid rs9; have rd9 := Lib.hid rd9
              have hC9 : Hid (Chg (· ∈ [p]) w w9) := Lib.hid (hC5.out.own2 hS)
              have P0 := Lib.hid on; have P1 := Lib.hid o5; have P2 := Lib.hid o6; have P3 := Lib.hid o7
              clear hF hS on o5 o6 o7 hq9 rs9 hJ4 HQ5 RS5 rd5 hC5 O0 O1 O2 O3 hk9
              simp only [fillL, cond_true, cond_false, Nat.reduceAdd]
              have uc0 := cell_of_row _ _ 0 _ _ (0, 0) HQ9.out
              have uf0 := block_free HQ9.out 0
              have uc1 := cell_of_row _ _ 1 _ _ (0, 0) HQ9.out
              have uf1 := block_free HQ9.out 1
              have uc2 := cell_of_row _ _ 2 _ _ (0, 0) HQ9.out
              have uf2 := block_free HQ9.out 2
              have uc3 := cell_of_row _ _ 3 _ _ (0, 0) HQ9.out
              have uf3 := block_free HQ9.out 3
              have uc4 := cell_of_row _ _ 4 _ _ (0, 0) HQ9.out
              have uf4 := block_free HQ9.out 4
              have uc5 := cell_of_row _ _ 5 _ _ (0, 0) HQ9.out
              have uf5 := block_free HQ9.out 5
              have ul := (Array.getElem?_eq_some_iff.1 HQ9.out).1
              have vc0 := cell_of_row _ _ 0 _ _ (0, 0) RS9.out; have vf0 := block_free RS9.out 0
              have vc1 := cell_of_row _ _ 1 _ _ (0, 0) RS9.out; have vf1 := block_free RS9.out 1
              have vc2 := cell_of_row _ _ 2 _ _ (0, 0) RS9.out; have vf2 := block_free RS9.out 2
              have vc3 := cell_of_row _ _ 3 _ _ (0, 0) RS9.out; have vf3 := block_free RS9.out 3
              have vc4 := cell_of_row _ _ 4 _ _ (0, 0) RS9.out; have vf4 := block_free RS9.out 4
              have vc5 := cell_of_row _ _ 5 _ _ (0, 0) RS9.out; have vf5 := block_free RS9.out 5
              have vl := (Array.getElem?_eq_some_iff.1 RS9.out).1
              obtain ⟨wF, hwF⟩ : ∃ W, W = (World.setCell (World.setCell (World.setCell (World.setCell (World.setCell (World.setCell w9 ⟨w.heap.size, 0, none⟩ (.int .i64 ro)) ⟨w.heap.size, 1, none⟩ (.int .i64 go)) ⟨w.heap.size, 2, none⟩ (.slice A' (n0 + 1) c')) ⟨w.heap.size, 3, none⟩ (.slice C1 n1 e1)) ⟨w.heap.size, 4, none⟩ (.slice C2 n2 e2)) ⟨w.heap.size, 5, none⟩ (.slice C3 n3 e3)) := ⟨_, rfl⟩
              have RSF : wF.heap[w.heap.size]? = some (.cells #[.int .i64 ro, .int .i64 go, .slice A' (n0 + 1) c', .slice C1 n1 e1, .slice C2 n2 e2, .slice C3 n3 e3] 57 (0, 0)) := by rw [hwF]; exact (block_set (o := 5) (v := .slice C3 n3 e3) (block_set (o := 4) (v := .slice C2 n2 e2) (block_set (o := 3) (v := .slice C1 n1 e1) (block_set (o := 2) (v := .slice A' (n0 + 1) c') (block_set (o := 1) (v := .int .i64 go) (block_set (o := 0) (v := .int .i64 ro) RS9.out))))))
              have r0_ := cell_of_row _ _ 0 _ _ (0, 0) RSF
              have r1_ := cell_of_row _ _ 1 _ _ (0, 0) RSF
              have r2_ := cell_of_row _ _ 2 _ _ (0, 0) RSF
              have r3_ := cell_of_row _ _ 3 _ _ (0, 0) RSF
              have r4_ := cell_of_row _ _ 4 _ _ (0, 0) RSF
              have r5_ := cell_of_row _ _ 5 _ _ (0, 0) RSF
              have sl0 := ((P0.out.keep (w' := w9) (fun b b1_ b2_ => rfl)).wide (lo' := w.heap.size + 1) (hi' := (w9).heap.size) (by omega) (by first | omega | (simp [World.setCell]; omega) | simp [World.setCell])).slice (Nat.le_refl _)
              have sl1 := ((P1.out.keep (w' := w9) (fun b b1_ b2_ => rfl)).wide (lo' := w.heap.size + 1) (hi' := (w9).heap.size) (by omega) (by first | omega | (simp [World.setCell]; omega) | simp [World.setCell])).slice (Nat.le_refl _)
              have sl2 := ((P2.out.keep (w' := w9) (fun b b1_ b2_ => rfl)).wide (lo' := w.heap.size + 1) (hi' := (w9).heap.size) (by omega) (by first | omega | (simp [World.setCell]; omega) | simp [World.setCell])).slice (Nat.le_refl _)
              have sl3 := ((P3.out.keep (w' := w9) (fun b b1_ b2_ => rfl)).wide (lo' := w.heap.size + 1) (hi' := (w9).heap.size) (by omega) (by first | omega | (simp [World.setCell]; omega) | simp [World.setCell])).slice (Nat.le_refl _)
              have HP : Hid (CacheDrawn w p A n c zs k (.returned (.agg #[.int .i64 ro, .int .i64 go, .slice A' (n0 + 1) c', .slice C1 n1 e1, .slice C2 n2 e2, .slice C3 n3 e3])) wF) := Lib.hid (by rw [hwF]; exact fin_cache h rd9.out (by omega) hC9.out (ro) (go) sl0 sl1 sl2 sl3 (by omega))
              have HWF := Lib.hid hwF
              clear hwF RSF sl0 sl1 sl2 sl3
              go_wp2_with fail
              rw [← HWF.out]
              exact bodyPost_ret (v := .agg #[.int .i64 ro, .int .i64 go, .slice A' (n0 + 1) c', .slice C1 n1 e1, .slice C2 n2 e2, .slice C3 n3 e3]) (by simp [results, Try.results75, go_sem, r0_, r1_, r2_, r3_, r4_, r5_]) rfl HP.out
          case neg =>
            have t2_ : ((r5 : Int) == 2) = false := by rw [beq_eq_false_iff_ne]; omega
            have t2' : ¬ (r5 : Int) = 2 := by omega
            by_cases h3 : r5 = 3
            case pos =>
              have t3_ : ((r5 : Int) == 3) = true := by simp [h3]
              have t3' : (r5 : Int) = 3 := by omega
              clear h3
              go_wp2_with fail
              apply wp_region_rgz (Chg (fun b => b = p ∨ w.heap.size ≤ b)) (Chg (· ∈ [p])) (fun y w' k' => (∃ k1, k1 ≤ k0 + 1 + k' ∧ Rd w' p A n c zs k1) ∧ (k' < 5000 → w'.heap[w2.heap.size]? = some (.cells #[.int .i64 ro, .int .i64 go, .slice C0 n0 e0, .slice C1 n1 e1, .slice C2 n2 e2, .slice C3 n3 e3] 57 (0, 0))) ∧ (k' < 1000 → OL w' B3 w5.heap.size C3 n3 e3 x3) ∧ (5000 ≤ k' → ∃ A' c' ys, w'.heap[w2.heap.size]? = some (.cells #[.int .i64 ro, .int .i64 go, .slice C0 n0 e0, .slice C1 n1 e1, .slice C2 n2 e2, .slice A' (n3 + 1) c'] 57 (0, 0)) ∧ OL w' (w2.heap.size + 1) w'.heap.size A' (n3 + 1) c' ys) ∧ OL w' (wr.heap.size + 2) B1 C0 n0 e0 x0 ∧ OL w' B1 B2 C1 n1 e1 x1 ∧ OL w' B2 B3 C2 n2 e2 x2 ∧ w'.heap[w.heap.size]? = some (.cells #[.int .i64 0, .int .i64 0, .slice none 0 0, .slice none 0 0, .slice none 0 0, .slice none 0 0] 57 (0, 0))) [0, 0, 0, 1, 0, 0, 1000, 0, 5000] [6000, 6000, 6001, 6001, 6000, 6000, 6000, 5000, 5000] (by kernel_rfl) (false :: false :: false :: false :: false :: false :: false :: false :: false :: false :: false :: false :: false :: false :: false :: false :: false :: false :: false :: false :: false :: false :: false :: false :: false :: false :: false :: false :: false :: false :: false :: false :: false :: false :: false :: false :: false :: false :: false :: false :: false :: false :: false :: false :: false :: false :: false :: false :: false :: false :: false :: false :: false :: false :: false :: false :: false :: true :: true :: true :: true :: true :: true :: true :: true :: false :: []) [some 57, some 58, some 59, some 60, some 61, some 62, some 63, some 64, none] [[], [0], [], [2], [3], [4], [1, 5], [], [6, 7]] [false, false, false, false, false, false, true, false, true] [true, true, true, true, true, false, false, true, true] [] [MStP.is _, MStP.is _, MStP.is _, ⟨fun v _ => ∃ r : Nat, v = .int .i64 (r : Int) ∧ r < 30, true, fun _ _ _ _ h => h, fun _ _ _ _ _ h => h⟩, ⟨fun v _ => ∃ z : Int, v = .int .i64 z, true, fun _ _ _ _ h => h, fun _ _ _ _ _ h => h⟩, ⟨fun v w' => ∃ (g : Nat) (z : Int), v = .slice (some ⟨g, 0, none⟩) 1 1 ∧ w'.heap[g]? = some (.cells #[.int .i64 z] 3 (0, 0)) ∧ w5.heap.size ≤ g, false, fun v w' w'' hs h => by obtain ⟨g, z, e, h1, h2⟩ := h; exact ⟨g, z, e, (Chg.block hs g (Array.getElem?_eq_some_iff.1 h1).1 (by simp; omega)).trans h1, h2⟩, fun h => by cases h⟩, ⟨fun v w' => ∃ (A' : Option Addr) (c' : Nat) (ys : List Int), v = .slice A' (n3 + 1) c' ∧ OL w' (w2.heap.size + 1) w'.heap.size A' (n3 + 1) c' ys, false, fun v w' w'' hs h => by obtain ⟨A', c', ys, e, h1⟩ := h; exact ⟨A', c', ys, e, (h1.keep (fun b b1_ b2_ => Chg.block hs b b2_ (by simp; omega))).wide (Nat.le_refl _) (Chg.size hs)⟩, fun h => by cases h⟩, MStP.is _, MStP.is _] (by kernel_rfl) (by kernel_rfl) (by kernel_rfl) (by kernel_rfl)
              case hobs =>
                refine ⟨fun y w' k hS hj hk hF K hK => ?_, ?_⟩
                · skip -- 0: fieldAddr
                  simp only [fillL, cond_true, cond_false, List.getD_cons_zero, List.getD_cons_succ, StP.is, Act.put, List.setIfInBounds_toArray, List.set_cons_zero, List.set_cons_succ, Nat.reduceAdd, MStP.is, Option.isSome_some, Option.isSome_none] at hK ⊢
                  simp only [List.sum_cons, List.sum_nil, List.getD_cons_zero, List.getD_cons_succ, Nat.reduceAdd, Nat.add_zero] at hk
                  refine rg_yes (by kernel_rfl) ?_
                  clear hF
                  go_simp
                  exact hK _ _ (Chg.refl _ _) ⟨(by obtain ⟨k1, ka, kb⟩ := hj.1; exact ⟨k1, by omega, kb⟩), fun h => hj.2.1 (by omega), fun h => hj.2.2.1 (by omega), fun h => hj.2.2.2.1 (by omega), hj.2.2.2.2⟩ rfl
                refine ⟨fun y w' k hS hj hk hF K hK => ?_, ?_⟩
                · skip -- 1: load
                  have e57 : y 57 = _ := hF.1
                  have e57' := Lib.hid e57
                  simp only [fillL, cond_true, cond_false, List.getD_cons_zero, List.getD_cons_succ, StP.is, Act.put, List.setIfInBounds_toArray, List.set_cons_zero, List.set_cons_succ, Nat.reduceAdd, e57, MStP.is, Option.isSome_some, Option.isSome_none] at hK ⊢
                  simp only [List.sum_cons, List.sum_nil, List.getD_cons_zero, List.getD_cons_succ, Nat.reduceAdd, Nat.add_zero] at hk
                  refine rg_yes (by kernel_rfl) ?_
                  clear e57
                  clear hF
                  have hq := hj.2.1 (by omega)
                  have c0_ := cell_of_row _ _ 0 _ _ (0, 0) hq
                  have c1_ := cell_of_row _ _ 1 _ _ (0, 0) hq
                  have c2_ := cell_of_row _ _ 2 _ _ (0, 0) hq
                  have c3_ := cell_of_row _ _ 3 _ _ (0, 0) hq
                  have c4_ := cell_of_row _ _ 4 _ _ (0, 0) hq
                  have c5_ := cell_of_row _ _ 5 _ _ (0, 0) hq
                  have lq := (Array.getElem?_eq_some_iff.1 hq).1
                  have HJ := Lib.hid hj; clear hj hq
                  go_simp
                  have hj := HJ.out
                  exact hK _ _ (Chg.refl _ _) ⟨(by obtain ⟨k1, ka, kb⟩ := hj.1; exact ⟨k1, by omega, kb⟩), fun h => hj.2.1 (by omega), fun h => hj.2.2.1 (by omega), fun h => hj.2.2.2.1 (by omega), hj.2.2.2.2⟩ rfl
                refine ⟨fun y w' k hS hj hk hF K hK => ?_, ?_⟩
                · skip -- 2: move
                  simp only [fillL, cond_true, cond_false, List.getD_cons_zero, List.getD_cons_succ, StP.is, Act.put, List.setIfInBounds_toArray, List.set_cons_zero, List.set_cons_succ, Nat.reduceAdd, MStP.is, Option.isSome_some, Option.isSome_none] at hK ⊢
                  simp only [List.sum_cons, List.sum_nil, List.getD_cons_zero, List.getD_cons_succ, Nat.reduceAdd, Nat.add_zero] at hk
                  refine rg_yes (by kernel_rfl) ?_
                  clear hF
                  go_simp
                  exact hK _ _ (Chg.refl _ _) ⟨(by obtain ⟨k1, ka, kb⟩ := hj.1; exact ⟨k1, by omega, kb⟩), fun h => hj.2.1 (by omega), fun h => hj.2.2.1 (by omega), fun h => hj.2.2.2.1 (by omega), hj.2.2.2.2⟩ rfl
                refine ⟨fun y w' k hS hj hk hF K hK => ?_, ?_⟩
                · skip -- 3: call
                  have e59 : y 59 = _ := hF.1
                  have e59' := Lib.hid e59
                  simp only [fillL, cond_true, cond_false, List.getD_cons_zero, List.getD_cons_succ, StP.is, Act.put, List.setIfInBounds_toArray, List.set_cons_zero, List.set_cons_succ, Nat.reduceAdd, e59, MStP.is, Option.isSome_some, Option.isSome_none] at hK ⊢
                  simp only [List.sum_cons, List.sum_nil, List.getD_cons_zero, List.getD_cons_succ, Nat.reduceAdd, Nat.add_zero] at hk
                  refine rg_yes (by kernel_rfl) ?_
                  clear e59
                  clear hF
                  obtain ⟨⟨k1, hk1, hrd⟩, j2, j3, j4, j5, j6, j7, j8⟩ := hj
                  have hsz : w5.heap.size ≤ w'.heap.size := Chg.size hS
                  have J2 := Lib.hid j2; have J3 := Lib.hid j3; have J4 := Lib.hid j4; have J5 := Lib.hid j5; have J6 := Lib.hid j6; have J7 := Lib.hid j7; have J8 := Lib.hid j8; clear j2 j3 j4 j5 j6 j7 j8
                  go_simp
                  go_at_call 37
                  refine (pick_any w' p A n c zs k1 30 hrd (by omega) (by omega) (by omega)).mono ?_
                  rintro e w'' ⟨r, rfl, hr1, rd1, hc1, hz1⟩
                  exact hK _ _ hc1 ⟨⟨k1 + 1, by omega, rd1⟩, fun h => (hc1.block _ (Array.getElem?_eq_some_iff.1 (J2.out (by omega))).1 (by simp; omega)).trans (J2.out (by omega)), fun h => (J3.out (by omega)).keep (fun b b1_ b2_ => hc1.block b (by omega) (by simp; omega)), fun h => absurd h (by omega), J5.out.keep (fun b b1_ b2_ => hc1.block b (by omega) (by simp; omega)), J6.out.keep (fun b b1_ b2_ => hc1.block b (by omega) (by simp; omega)), J7.out.keep (fun b b1_ b2_ => hc1.block b (by omega) (by simp; omega)), (hc1.block _ (Array.getElem?_eq_some_iff.1 J8.out).1 (by simp; omega)).trans J8.out⟩ ⟨r, rfl, by have := hr1 (by omega); omega⟩
                refine ⟨fun y w' k hS hj hk hF K hK => ?_, ?_⟩
                · skip -- 4: binOp
                  obtain ⟨r, e60, hr3⟩ := hF.1
                  have e60' := Lib.hid e60
                  simp only [fillL, cond_true, cond_false, List.getD_cons_zero, List.getD_cons_succ, StP.is, Act.put, List.setIfInBounds_toArray, List.set_cons_zero, List.set_cons_succ, Nat.reduceAdd, e60, MStP.is, Option.isSome_some, Option.isSome_none] at hK ⊢
                  simp only [List.sum_cons, List.sum_nil, List.getD_cons_zero, List.getD_cons_succ, Nat.reduceAdd, Nat.add_zero] at hk
                  refine rg_yes (by kernel_rfl) ?_
                  clear e60
                  clear hF
                  go_simp
                  exact hK _ _ (Chg.refl _ _) ⟨(by obtain ⟨k1, ka, kb⟩ := hj.1; exact ⟨k1, by omega, kb⟩), fun h => hj.2.1 (by omega), fun h => hj.2.2.1 (by omega), fun h => hj.2.2.2.1 (by omega), hj.2.2.2.2⟩ ⟨_, rfl⟩
                refine ⟨fun y w' k hS hj hk hF K hK => ?_, ?_⟩
                · skip -- 5: buildSlice
                  obtain ⟨zz, e61⟩ := hF.1
                  have e61' := Lib.hid e61
                  simp only [fillL, cond_true, cond_false, List.getD_cons_zero, List.getD_cons_succ, StP.is, Act.put, List.setIfInBounds_toArray, List.set_cons_zero, List.set_cons_succ, Nat.reduceAdd, e61, MStP.is, Option.isSome_some, Option.isSome_none] at hK ⊢
                  simp only [List.sum_cons, List.sum_nil, List.getD_cons_zero, List.getD_cons_succ, Nat.reduceAdd, Nat.add_zero] at hk
                  refine rg_yes (by kernel_rfl) ?_
                  clear e61
                  clear hF
                  obtain ⟨⟨k1, hk1, hrd⟩, j2, j3, j4, j5, j6, j7, j8⟩ := hj
                  have hsz : w5.heap.size ≤ w'.heap.size := Chg.size hS
                  have J2 := Lib.hid j2; have J3 := Lib.hid j3; have J4 := Lib.hid j4; have J5 := Lib.hid j5; have J6 := Lib.hid j6; have J7 := Lib.hid j7; have J8 := Lib.hid j8; clear j2 j3 j4 j5 j6 j7 j8
                  go_simp
                  exact hK _ _ ((Chg.refl _ _).alloc _) ⟨⟨k1, by omega, hrd.below bel1⟩, fun h => (Below.heap_alloc _ _ _ (Array.getElem?_eq_some_iff.1 (J2.out (by omega))).1).trans (J2.out (by omega)), fun h => (J3.out (by omega)).below bel1, fun h => absurd h (by omega), J5.out.below bel1, J6.out.below bel1, J7.out.below bel1, (Below.heap_alloc _ _ _ (Array.getElem?_eq_some_iff.1 J8.out).1).trans J8.out⟩ ⟨w'.heap.size, zz, rfl, heap_alloc_new _ _, hsz⟩
                refine ⟨fun y w' k hS hj hk hF K hK => ?_, ?_⟩
                · skip -- 6: call
                  have e58 : y 58 = _ := hF.1
                  obtain ⟨g, zz, e62, hg, hgw⟩ := hF.2.1
                  have e58' := Lib.hid e58
                  have e62' := Lib.hid e62
                  simp only [fillL, cond_true, cond_false, List.getD_cons_zero, List.getD_cons_succ, StP.is, Act.put, List.setIfInBounds_toArray, List.set_cons_zero, List.set_cons_succ, Nat.reduceAdd, e58, e62, MStP.is, Option.isSome_some, Option.isSome_none] at hK ⊢
                  simp only [List.sum_cons, List.sum_nil, List.getD_cons_zero, List.getD_cons_succ, Nat.reduceAdd, Nat.add_zero] at hk
                  refine rg_yes (by kernel_rfl) ?_
                  clear e58 e62
                  clear hF
                  obtain ⟨⟨k1, hk1, hrd⟩, j2, j3, j4, j5, j6, j7, j8⟩ := hj
                  have hsz : w5.heap.size ≤ w'.heap.size := Chg.size hS
                  obtain ⟨S_, hOS, hSB, hSl⟩ := j3 (by omega)
                  have J2 := Lib.hid j2; have J3 := Lib.hid j3; have J4 := Lib.hid j4; have J5 := Lib.hid j5; have J6 := Lib.hid j6; have J7 := Lib.hid j7; have J8 := Lib.hid j8; clear j2 j3 j4 j5 j6 j7 j8
                  have hRW := rowOne hg
                  refine wp_append_row (.tmp 58) (.tmp 62) 25 rfl 3 i0 (.int .i64 0) 1 8 Try.underlying25 iA iB iC iD rfl (by decide) S_ C3 (some ⟨g, 0, none⟩) n3 e3 1 1 (x3.map (Value.int .i64)) [.int .i64 zz] rfl rfl hOS hRW (by intro u hu; simp at hu; subst hu; rfl) (by unfold maxLen; omega) (by omega) ?_
                  intro A' c' S' w'' hO' hS' hC'
                  exact hK _ _ (hC'.mono (fun b _ hb => by have h_ := hSB b hb; right; omega)) ⟨⟨k1, by omega, Rd.chgOwn h hrd hC' (fun g hg => by have h_ := hSB g hg; omega)⟩, fun h => (hC'.block _ (Array.getElem?_eq_some_iff.1 (J2.out (by omega))).1 (fun hm => by have h_ := hSB _ hm; omega)).trans (J2.out (by omega)), fun h => absurd h (by omega), fun h => absurd h (by omega), J5.out.keep (fun b b1_ b2_ => hC'.block b (by omega) (fun hm => by have h_ := hSB b hm; omega)), J6.out.keep (fun b b1_ b2_ => hC'.block b (by omega) (fun hm => by have h_ := hSB b hm; omega)), J7.out.keep (fun b b1_ b2_ => hC'.block b (by omega) (fun hm => by have h_ := hSB b hm; omega)), (hC'.block _ (Array.getElem?_eq_some_iff.1 J8.out).1 (fun hm => by have h_ := hSB _ hm; omega)).trans J8.out⟩ ⟨A', c', x3 ++ [zz], rfl, ⟨S', by simpa using hO', fun g hg => ⟨(hS' g hg).elim (fun h_ => by have h_ := hSB g h_; omega) (fun h_ => by omega), hO'.lt g hg⟩, by simp [hSl]⟩⟩
                refine ⟨fun y w' k hS hj hk hF K hK => ?_, ?_⟩
                · skip -- 7: fieldAddr
                  simp only [fillL, cond_true, cond_false, List.getD_cons_zero, List.getD_cons_succ, StP.is, Act.put, List.setIfInBounds_toArray, List.set_cons_zero, List.set_cons_succ, Nat.reduceAdd, MStP.is, Option.isSome_some, Option.isSome_none] at hK ⊢
                  simp only [List.sum_cons, List.sum_nil, List.getD_cons_zero, List.getD_cons_succ, Nat.reduceAdd, Nat.add_zero] at hk
                  refine rg_yes (by kernel_rfl) ?_
                  clear hF
                  go_simp
                  exact hK _ _ (Chg.refl _ _) ⟨(by obtain ⟨k1, ka, kb⟩ := hj.1; exact ⟨k1, by omega, kb⟩), fun h => hj.2.1 (by omega), fun h => hj.2.2.1 (by omega), fun h => hj.2.2.2.1 (by omega), hj.2.2.2.2⟩ rfl
                refine ⟨fun y w' k hS hj hk hF K hK => ?_, ?_⟩
                · skip -- 8: store
                  obtain ⟨A', c', ys, e63, hol⟩ := hF.1
                  have e64 : y 64 = _ := hF.2.1
                  have e63' := Lib.hid e63
                  have e64' := Lib.hid e64
                  simp only [fillL, cond_true, cond_false, List.getD_cons_zero, List.getD_cons_succ, StP.is, Act.put, List.setIfInBounds_toArray, List.set_cons_zero, List.set_cons_succ, Nat.reduceAdd, e63, e64, MStP.is, Option.isSome_some, Option.isSome_none] at hK ⊢
                  simp only [List.sum_cons, List.sum_nil, List.getD_cons_zero, List.getD_cons_succ, Nat.reduceAdd, Nat.add_zero] at hk
                  refine rg_yes (by kernel_rfl) ?_
                  clear e63 e64
                  clear hF
                  obtain ⟨⟨k1, hk1, hrd⟩, j2, j3, j4, j5, j6, j7, j8⟩ := hj
                  have hsz : w5.heap.size ≤ w'.heap.size := Chg.size hS
                  have hq := j2 (by omega)
                  have J2 := Lib.hid j2; have J3 := Lib.hid j3; have J4 := Lib.hid j4; have J5 := Lib.hid j5; have J6 := Lib.hid j6; have J7 := Lib.hid j7; have J8 := Lib.hid j8; clear j2 j3 j4 j5 j6 j7 j8
                  have c0_ := cell_of_row _ _ 0 _ _ (0, 0) hq; have z0_ := block_free hq 0
                  have c1_ := cell_of_row _ _ 1 _ _ (0, 0) hq; have z1_ := block_free hq 1
                  have c2_ := cell_of_row _ _ 2 _ _ (0, 0) hq; have z2_ := block_free hq 2
                  have c3_ := cell_of_row _ _ 3 _ _ (0, 0) hq; have z3_ := block_free hq 3
                  have c4_ := cell_of_row _ _ 4 _ _ (0, 0) hq; have z4_ := block_free hq 4
                  have c5_ := cell_of_row _ _ 5 _ _ (0, 0) hq; have z5_ := block_free hq 5
                  have lq := (Array.getElem?_eq_some_iff.1 hq).1
                  have HQj := Lib.hid hq; have HOL := Lib.hid hol; clear hq hol
                  go_simp
                  exact hK undef _ (Chg.setCell (p := ⟨w2.heap.size, 5, none⟩) (Chg.refl _ _) (.inl (.inr (by show w.heap.size ≤ w2.heap.size; omega))) _) ⟨⟨k1, by omega, Rd.setOldC h hrd (a := ⟨w2.heap.size, 5, none⟩) (by show w.heap.size ≤ w2.heap.size; omega) _⟩, fun h => absurd h (by omega), fun h => absurd h (by omega), fun _ => ⟨A', c', ys, block_set (o := 5) HQj.out, (HOL.out.keep (fun b b1_ b2_ => heap_far (by simp; omega))).wide (Nat.le_refl _) (by simp [World.setCell])⟩, J5.out.keep (fun b b1_ b2_ => heap_far (by simp; omega)), J6.out.keep (fun b b1_ b2_ => heap_far (by simp; omega)), J7.out.keep (fun b b1_ b2_ => heap_far (by simp; omega)), (heap_far (by simp; omega)).trans J8.out⟩ rfl
                trivial
              case hH => rfl
              case hNS => exact fun _ _ h => h.mono (fun b _ hb => by simp at hb; exact .inl hb)
              case hSt => exact fun a b => Chg.trans a b
              case hb => rfl
              case hdrew => exact (Chg.refl _ _).drewN 1
              case hj0 => exact fun y => ⟨⟨k0 + 1, by omega, rd5.out.below (below_drewN (Below.refl _ _) 1)⟩, fun _ => HQ5.out, fun _ => O3.out.below (below_drewN (Below.refl _ _) 1), fun h => absurd h (by omega), O0.out.below (below_drewN (Below.refl _ _) 1), O1.out.below (below_drewN (Below.refl _ _) 1), O2.out.below (below_drewN (Below.refl _ _) 1), RS5.out⟩
              case hend =>
                intro y w9 hS hJ hF
                obtain ⟨⟨k9, hk9, rd9⟩, -, -, hJ4, o5, o6, o7, rs9⟩ := hJ
                obtain ⟨A', c', ys, hq9, on⟩ := hJ4 (by decide)
                have hk9' : k9 ≤ k0 + 6002 := by simpa using hk9
                have hz9 : w5.heap.size ≤ w9.heap.size := Chg.size hS
                have HQ9 := Lib.hid hq9; have RS9 := Lib.hid rs9; have rd9 := Lib.hid rd9
                have hC9 : Hid (Chg (· ∈ [p]) w w9) := Lib.hid (hC5.out.own2 hS)
                have P3 := Lib.hid on; have P0 := Lib.hid o5; have P1 := Lib.hid o6; have P2 := Lib.hid o7
                clear hF hS on o5 o6 o7 hq9 rs9 hJ4 HQ5 RS5 rd5 hC5 O0 O1 O2 O3 hk9
                simp only [fillL, cond_true, cond_false, Nat.reduceAdd]
                have uc0 := cell_of_row _ _ 0 _ _ (0, 0) HQ9.out
                have uf0 := block_free HQ9.out 0
                have uc1 := cell_of_row _ _ 1 _ _ (0, 0) HQ9.out
                have uf1 := block_free HQ9.out 1
                have uc2 := cell_of_row _ _ 2 _ _ (0, 0) HQ9.out
                have uf2 := block_free HQ9.out 2
                have uc3 := cell_of_row _ _ 3 _ _ (0, 0) HQ9.out
                have uf3 := block_free HQ9.out 3
                have uc4 := cell_of_row _ _ 4 _ _ (0, 0) HQ9.out
                have uf4 := block_free HQ9.out 4
                have uc5 := cell_of_row _ _ 5 _ _ (0, 0) HQ9.out
                have uf5 := block_free HQ9.out 5
                have ul := (Array.getElem?_eq_some_iff.1 HQ9.out).1
                have vc0 := cell_of_row _ _ 0 _ _ (0, 0) RS9.out; have vf0 := block_free RS9.out 0
                have vc1 := cell_of_row _ _ 1 _ _ (0, 0) RS9.out; have vf1 := block_free RS9.out 1
                have vc2 := cell_of_row _ _ 2 _ _ (0, 0) RS9.out; have vf2 := block_free RS9.out 2
                have vc3 := cell_of_row _ _ 3 _ _ (0, 0) RS9.out; have vf3 := block_free RS9.out 3
                have vc4 := cell_of_row _ _ 4 _ _ (0, 0) RS9.out; have vf4 := block_free RS9.out 4
                have vc5 := cell_of_row _ _ 5 _ _ (0, 0) RS9.out; have vf5 := block_free RS9.out 5
                have vl := (Array.getElem?_eq_some_iff.1 RS9.out).1
                obtain ⟨wF, hwF⟩ : ∃ W, W = (World.setCell (World.setCell (World.setCell (World.setCell (World.setCell (World.setCell w9 ⟨w.heap.size, 0, none⟩ (.int .i64 ro)) ⟨w.heap.size, 1, none⟩ (.int .i64 go)) ⟨w.heap.size, 2, none⟩ (.slice C0 n0 e0)) ⟨w.heap.size, 3, none⟩ (.slice C1 n1 e1)) ⟨w.heap.size, 4, none⟩ (.slice C2 n2 e2)) ⟨w.heap.size, 5, none⟩ (.slice A' (n3 + 1) c')) := ⟨_, rfl⟩
                have RSF : wF.heap[w.heap.size]? = some (.cells #[.int .i64 ro, .int .i64 go, .slice C0 n0 e0, .slice C1 n1 e1, .slice C2 n2 e2, .slice A' (n3 + 1) c'] 57 (0, 0)) := by rw [hwF]; exact (block_set (o := 5) (v := .slice A' (n3 + 1) c') (block_set (o := 4) (v := .slice C2 n2 e2) (block_set (o := 3) (v := .slice C1 n1 e1) (block_set (o := 2) (v := .slice C0 n0 e0) (block_set (o := 1) (v := .int .i64 go) (block_set (o := 0) (v := .int .i64 ro) RS9.out))))))
                have r0_ := cell_of_row _ _ 0 _ _ (0, 0) RSF
                have r1_ := cell_of_row _ _ 1 _ _ (0, 0) RSF
                have r2_ := cell_of_row _ _ 2 _ _ (0, 0) RSF
                have r3_ := cell_of_row _ _ 3 _ _ (0, 0) RSF
                have r4_ := cell_of_row _ _ 4 _ _ (0, 0) RSF
                have r5_ := cell_of_row _ _ 5 _ _ (0, 0) RSF
                have sl0 := ((P0.out.keep (w' := w9) (fun b b1_ b2_ => rfl)).wide (lo' := w.heap.size + 1) (hi' := (w9).heap.size) (by omega) (by first | omega | (simp [World.setCell]; omega) | simp [World.setCell])).slice (Nat.le_refl _)
                have sl1 := ((P1.out.keep (w' := w9) (fun b b1_ b2_ => rfl)).wide (lo' := w.heap.size + 1) (hi' := (w9).heap.size) (by omega) (by first | omega | (simp [World.setCell]; omega) | simp [World.setCell])).slice (Nat.le_refl _)
                have sl2 := ((P2.out.keep (w' := w9) (fun b b1_ b2_ => rfl)).wide (lo' := w.heap.size + 1) (hi' := (w9).heap.size) (by omega) (by first | omega | (simp [World.setCell]; omega) | simp [World.setCell])).slice (Nat.le_refl _)
                have sl3 := ((P3.out.keep (w' := w9) (fun b b1_ b2_ => rfl)).wide (lo' := w.heap.size + 1) (hi' := (w9).heap.size) (by omega) (by first | omega | (simp [World.setCell]; omega) | simp [World.setCell])).slice (Nat.le_refl _)
                have HP : Hid (CacheDrawn w p A n c zs k (.returned (.agg #[.int .i64 ro, .int .i64 go, .slice C0 n0 e0, .slice C1 n1 e1, .slice C2 n2 e2, .slice A' (n3 + 1) c'])) wF) := Lib.hid (by rw [hwF]; exact fin_cache h rd9.out (by omega) hC9.out (ro) (go) sl0 sl1 sl2 sl3 (by omega))
                have HWF := Lib.hid hwF
                clear hwF RSF sl0 sl1 sl2 sl3
                go_wp2_with fail
                rw [← HWF.out]
                exact bodyPost_ret (v := .agg #[.int .i64 ro, .int .i64 go, .slice C0 n0 e0, .slice C1 n1 e1, .slice C2 n2 e2, .slice A' (n3 + 1) c']) (by simp [results, Try.results75, go_sem, r0_, r1_, r2_, r3_, r4_, r5_]) rfl HP.out
            case neg =>
              have t3_ : ((r5 : Int) == 3) = false := by rw [beq_eq_false_iff_ne]; omega
              have t3' : ¬ (r5 : Int) = 3 := by omega
              have uc0 := cell_of_row _ _ 0 _ _ (0, 0) HQ5.out
              have uf0 := block_free HQ5.out 0
              have uc1 := cell_of_row _ _ 1 _ _ (0, 0) HQ5.out
              have uf1 := block_free HQ5.out 1
              have uc2 := cell_of_row _ _ 2 _ _ (0, 0) HQ5.out
              have uf2 := block_free HQ5.out 2
              have uc3 := cell_of_row _ _ 3 _ _ (0, 0) HQ5.out
              have uf3 := block_free HQ5.out 3
              have uc4 := cell_of_row _ _ 4 _ _ (0, 0) HQ5.out
              have uf4 := block_free HQ5.out 4
              have uc5 := cell_of_row _ _ 5 _ _ (0, 0) HQ5.out
              have uf5 := block_free HQ5.out 5
              have ul := (Array.getElem?_eq_some_iff.1 HQ5.out).1
              have vc0 := cell_of_row _ _ 0 _ _ (0, 0) RS5.out; have vf0 := block_free RS5.out 0
              have vc1 := cell_of_row _ _ 1 _ _ (0, 0) RS5.out; have vf1 := block_free RS5.out 1
              have vc2 := cell_of_row _ _ 2 _ _ (0, 0) RS5.out; have vf2 := block_free RS5.out 2
              have vc3 := cell_of_row _ _ 3 _ _ (0, 0) RS5.out; have vf3 := block_free RS5.out 3
              have vc4 := cell_of_row _ _ 4 _ _ (0, 0) RS5.out; have vf4 := block_free RS5.out 4
              have vc5 := cell_of_row _ _ 5 _ _ (0, 0) RS5.out; have vf5 := block_free RS5.out 5
              have vl := (Array.getElem?_eq_some_iff.1 RS5.out).1
              obtain ⟨wF, hwF⟩ : ∃ W, W = (World.setCell (World.setCell (World.setCell (World.setCell (World.setCell (World.setCell w5 ⟨w.heap.size, 0, none⟩ (.int .i64 ro)) ⟨w.heap.size, 1, none⟩ (.int .i64 go)) ⟨w.heap.size, 2, none⟩ (.slice C0 n0 e0)) ⟨w.heap.size, 3, none⟩ (.slice C1 n1 e1)) ⟨w.heap.size, 4, none⟩ (.slice C2 n2 e2)) ⟨w.heap.size, 5, none⟩ (.slice C3 n3 e3)) := ⟨_, rfl⟩
              have RSF : wF.heap[w.heap.size]? = some (.cells #[.int .i64 ro, .int .i64 go, .slice C0 n0 e0, .slice C1 n1 e1, .slice C2 n2 e2, .slice C3 n3 e3] 57 (0, 0)) := by rw [hwF]; exact (block_set (o := 5) (v := .slice C3 n3 e3) (block_set (o := 4) (v := .slice C2 n2 e2) (block_set (o := 3) (v := .slice C1 n1 e1) (block_set (o := 2) (v := .slice C0 n0 e0) (block_set (o := 1) (v := .int .i64 go) (block_set (o := 0) (v := .int .i64 ro) RS5.out))))))
              have r0_ := cell_of_row _ _ 0 _ _ (0, 0) RSF
              have r1_ := cell_of_row _ _ 1 _ _ (0, 0) RSF
              have r2_ := cell_of_row _ _ 2 _ _ (0, 0) RSF
              have r3_ := cell_of_row _ _ 3 _ _ (0, 0) RSF
              have r4_ := cell_of_row _ _ 4 _ _ (0, 0) RSF
              have r5_ := cell_of_row _ _ 5 _ _ (0, 0) RSF
              have sl0 := ((O0.out.keep (w' := w5) (fun b b1_ b2_ => rfl)).wide (lo' := w.heap.size + 1) (hi' := (w5).heap.size) (by omega) (by first | omega | (simp [World.setCell]; omega) | simp [World.setCell])).slice (Nat.le_refl _)
              have sl1 := ((O1.out.keep (w' := w5) (fun b b1_ b2_ => rfl)).wide (lo' := w.heap.size + 1) (hi' := (w5).heap.size) (by omega) (by first | omega | (simp [World.setCell]; omega) | simp [World.setCell])).slice (Nat.le_refl _)
              have sl2 := ((O2.out.keep (w' := w5) (fun b b1_ b2_ => rfl)).wide (lo' := w.heap.size + 1) (hi' := (w5).heap.size) (by omega) (by first | omega | (simp [World.setCell]; omega) | simp [World.setCell])).slice (Nat.le_refl _)
              have sl3 := ((O3.out.keep (w' := w5) (fun b b1_ b2_ => rfl)).wide (lo' := w.heap.size + 1) (hi' := (w5).heap.size) (by omega) (by first | omega | (simp [World.setCell]; omega) | simp [World.setCell])).slice (Nat.le_refl _)
              have HP : Hid (CacheDrawn w p A n c zs k (.returned (.agg #[.int .i64 ro, .int .i64 go, .slice C0 n0 e0, .slice C1 n1 e1, .slice C2 n2 e2, .slice C3 n3 e3])) wF) := Lib.hid (by rw [hwF]; exact fin_cache h rd5.out (by omega) hC5.out (ro) (go) sl0 sl1 sl2 sl3 (by omega))
              have HWF := Lib.hid hwF
              clear hwF RSF sl0 sl1 sl2 sl3
              go_wp2_with fail
              rw [← HWF.out]
              exact bodyPost_ret (v := .agg #[.int .i64 ro, .int .i64 go, .slice C0 n0 e0, .slice C1 n1 e1, .slice C2 n2 e2, .slice C3 n3 e3]) (by simp [results, Try.results75, go_sem, r0_, r1_, r2_, r3_, r4_, r5_]) rfl HP.out
end Go.Proofs.Ytffieobjcipeoaa
