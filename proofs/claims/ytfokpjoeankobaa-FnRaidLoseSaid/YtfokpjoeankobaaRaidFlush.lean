/- l4Flush of the reference. Condition: disks that are valid, no two of which share an array. -/
import Derived.Test.YtfokpjoeankobaaRaidWrite
import Derived.Test.YtfokpjoeankobaaTorn
namespace Go.Proofs.Ytfokpjoeankobaa
set_option linter.unnecessarySimpa false
open Go.RowKit
set_option linter.unusedVariables false
set_option linter.unusedSimpArgs false
/-- A disk stays where its own arrays do. -/
theorem DiskN.keepL {w w' : World} {lo hi : Nat} {cs : List Value} {x : DiskD} (hz : w.heap.size ≤ w'.heap.size) (hk : ∀ A n c b, Value.slice A n c ∈ cs → 0 < c → blkOf A b → w'.heap[b]? = w.heap[b]?) (h : DiskN w lo hi cs x) : DiskN w' lo hi cs x := by
  obtain ⟨A0, n0, c0, A1, n1, c1, rfl, h0, k0, h1, k1⟩ := h
  exact ⟨A0, n0, c0, A1, n1, c1, rfl, h0.keepB hz (fun hn b hb _ _ => hk A0 n0 c0 b (by simp) (k0.pos hn) hb) (fun _ _ h => h), k0.keepB (fun hc b hb _ _ => hk A0 n0 c0 b (by simp) hc hb),
    h1.keepB hz (fun hn b hb _ _ => hk A1 n1 c1 b (by simp) (k1.pos hn) hb) (fun _ _ h => h), k1.keepB (fun hc b hb _ _ => hk A1 n1 c1 b (by simp) hc hb)⟩
theorem DiskN.ne {w : World} {lo hi g : Nat} {cs : List Value} {x : DiskD} {cur : Array Value} (h : DiskN w lo hi cs x) (hg : w.heap[g]? = some (.cells cur 45 (0, 0))) {A : Option Addr} {n c b : Nat} (hm : Value.slice A n c ∈ cs) (hc : 0 < c) (hb : blkOf A b) : b ≠ g := by
  obtain ⟨A0, n0, c0, A1, n1, c1, rfl, _, k0, _, k1⟩ := h
  have key : ∀ {U : TypeId} {sz : Nat} {A : Option Addr} {n c : Nat}, U ≠ 45 → Whole w U sz lo hi A n c → 0 < c → blkOf A b → b ≠ g := by
    intro U sz A n c hT k hc hb he
    rcases k with h | ⟨g', cur', rfl, _, _, h3, _⟩
    · omega
    · rw [blkOf_iff] at hb; subst hb; subst he
      rw [hg] at h3
      injection h3 with e; injection e with _ e; exact hT e.symm
  simp only [List.mem_cons, Value.slice.injEq, List.not_mem_nil, or_false, reduceCtorEq] at hm
  rcases hm with ⟨rfl, rfl, rfl⟩ | ⟨rfl, rfl, rfl⟩
  · exact key (by decide) k0 hc hb
  · exact key (by decide) k1 hc hb
/-- One disk is written anew: its own arrays bear its number, the others stay. -/
theorem RaidO.put {o : Nat → Nat} {w W : World} {lo hi g c j n gi : Nat} {xs : RaidD} {d : DiskD} {cs : List Value} (h : RaidO o w lo hi [.slice (some ⟨g, 0, none⟩) n c] xs) (hj : j < n) (hd : DiskN W lo hi cs d) (hz : w.heap.size ≤ W.heap.size)
    (hlab : Lab o cs j) (hgi : o gi = j) (hk : ∀ i, lo ≤ i → i < w.heap.size → i ≠ g → i ≠ gi → W.heap[i]? = w.heap[i]?) (hg : ∀ cur, w.heap[g]? = some (.cells cur 45 (0, 0)) → W.heap[g]? = some (.cells (putAt cur (j * 3) cs) 45 (0, 0))) : RaidO o W lo hi [.slice (some ⟨g, 0, none⟩) n c] (xs.set j d) := by
  obtain ⟨g', cur, e, h1, h5, h6, h7, h8, h9, hl, h10, hc⟩ := h.arr (by omega)
  injection e with e; injection e with e1 e2; subst e1
  have hgW := hg cur h6
  have hcl : cs.length = 3 := hd.len
  have hj3 : j * 3 + 3 ≤ c * 3 := by omega
  refine ⟨some ⟨g, 0, none⟩, n, c, rfl, ⟨by simpa using hl, h8, Nat.le_trans h8 h9, by omega, (fun h => by cases h), fun _ => ⟨g, 0, rfl, h1, by omega, fun i p hp => ?_⟩⟩, .inr ⟨g, _, rfl, h1, by omega, hgW, by rw [putAt_size, h7], h8, h9⟩⟩
  rw [List.getElem?_zipIdx, List.getElem?_set] at hp
  by_cases hij : j = i
  · subst hij
    rw [if_pos rfl, if_pos (by omega)] at hp
    obtain rfl : (d, j) = p := by simpa using hp
    refine ⟨cs, hcl, fun i v hv => ?_, ⟨hd, hlab⟩⟩
    rw [Nat.zero_add, cell_of_row _ _ _ _ _ (0, 0) hgW]
    exact putAt_in _ _ _ _ _ (by omega) hv
  · rw [if_neg hij] at hp
    cases hx : xs[i]? with
    | none => rw [hx] at hp; cases hp
    | some x =>
      rw [hx] at hp
      obtain rfl : (x, i) = p := by simpa using hp
      obtain ⟨cs', hl', hc', ho'⟩ := hc i x hx
      refine ⟨cs', hl', fun t v hv => ?_, ⟨DiskN.keepL hz (fun A m k b hm hp hb => hk b (ho'.1.blk hm hp hb).1 (by have := (ho'.1.blk hm hp hb).2; omega) (ho'.1.ne h6 hm hp hb) (fun e => hij ?_)) ho'.1, ho'.2⟩⟩
      · have ht : t < 3 := by rw [← hl']; exact (List.getElem?_eq_some_iff.1 hv).1
        rw [Nat.zero_add, cell_of_row _ _ _ _ _ (0, 0) hgW, putAt_out _ _ _ _ (by omega)]
        exact hc' t v hv
      · rw [← hgi, ← e]; exact ho'.2 A m k b hm hp hb
/-- A block that holds neither texts nor disks. -/
def NotT (b : Nat) (w : World) : Prop := (∀ cur, w.heap[b]? ≠ some (.cells cur 9 (0, 0))) ∧ ∀ cur, w.heap[b]? ≠ some (.cells cur 45 (0, 0))
theorem NotT.of {b T : Nat} {w : World} {cur : Array Value} (h : w.heap[b]? = some (.cells cur T (0, 0))) (h1 : T ≠ 9) (h2 : T ≠ 45) : NotT b w := by
  refine ⟨fun c e => ?_, fun c e => ?_⟩ <;> (rw [h] at e; injection e with e; injection e with _ e; first | exact h1 e | exact h2 e)
/-- Only blocks of texts and of disks turn, from lo on. -/
def TK (lo : Nat) (w w' : World) : Prop := Chg (fun b => lo ≤ b ∧ ¬ NotT b w) w w'
theorem TK.refl (lo : Nat) (w : World) : TK lo w w := Chg.refl _ _
theorem TK.at_ {lo b : Nat} {w w' : World} (h : TK lo w w') (hb : b < w.heap.size) (hn : b < lo ∨ NotT b w) : w'.heap[b]? = w.heap[b]? := h.block b hb (fun h => by
  rcases hn with hn | hn
  · have := h.1; omega
  · exact h.2 hn)
theorem TK.trans {lo : Nat} {a b c : World} (h : TK lo a b) (k : TK lo b c) : TK lo a c :=
  ⟨k.os.trans h.os, k.tape.trans h.tape, k.output.trans h.output, Nat.le_trans h.size k.size, fun i hi hn => by
    have e : b.heap[i]? = a.heap[i]? := h.block i hi hn
    refine (k.block i (Nat.lt_of_lt_of_le hi h.size) (fun h2 => hn ⟨h2.1, fun h3 => h2.2 ?_⟩)).trans e
    unfold NotT at h3 ⊢
    rw [e]; exact h3⟩
theorem TK.below {lo : Nat} {a b : World} (h : Below a.heap.size a b) : TK lo a b := Chg.of_below h _
def flushX (x : DiskD) : DiskD := (settleTo flushF x.2.1 x.1 x.2.1.length, [], x.2.2)
def FlushPost (lo hi g c : Nat) (w : World) (rd : RaidD) (e : Ending) (w' : World) : Prop := e = .returned (.agg #[.slice (some ⟨g, 0, none⟩) 3 c]) ∧ RaidN w' lo hi [.slice (some ⟨g, 0, none⟩) 3 c] rd ∧ hi ≤ w'.heap.size ∧ TK lo w w'
set_option maxRecDepth 100000 in
set_option maxHeartbeats 4000000 in
theorem l4Flush_any (g c3 : Nat) (xs : RaidD) (w : World) (lo hi : Nat) (h : RaidN w lo hi [.slice (some ⟨g, 0, none⟩) 3 c3] xs) (hhi : hi ≤ w.heap.size) (hok : raidOk xs = true) :
    Calls Try.prog 47 #[.agg #[.slice (some ⟨g, 0, none⟩) 3 c3]] w (FlushPost lo hi g c3 w (xs.map flushX)) := by
  obtain ⟨hl3, hx3⟩ := raidOk_len hok
  have hdk : ∀ x ∈ xs, diskOk x = true := fun x hx => by
    unfold raidOk at hok
    have := ((Bool.and_eq_true _ _).mp hok).2
    rw [List.all_eq_true] at this
    exact this x hx
  obtain ⟨_, _, _, e', hg1, hg2, -⟩ := h.arr (by omega)
  injection e' with e'; injection e' with e' _; subst e'
  have hlog : lo ≤ g := hg1
  have hghi : g < hi := hg2
  have H := Lib.hid h; have HL3 := Lib.hid hl3; have HDK := Lib.hid hdk
  clear h hl3 hx3 hdk hok hg1 hg2
  go_enter Try.func47, Try.ntmps47
  go_wp2_with fail
  obtain ⟨w1, hW⟩ : ∃ w1, w1 = (w.alloc (.cells #[.slice (some ⟨g, 0, none⟩) 3 c3] 35)).alloc (.cells #[.slice none 0 0] 35) := ⟨_, rfl⟩
  have X1 : Below w.heap.size w w1 := by rw [hW]; exact bel2
  have z1 : w1.heap.size = w.heap.size + 2 := by rw [hW]; simp
  have K0 : Hid (w1.heap[w.heap.size]? = some (.cells #[.slice (some ⟨g, 0, none⟩) 3 c3] 35 (0, 0))) := Lib.hid (by rw [hW]; exact (Below.heap_alloc _ _ _ (by simp)).trans (heap_alloc_new _ _))
  have K1 : Hid (w1.heap[w.heap.size + 1]? = some (.cells #[.slice none 0 0] 35 (0, 0))) := Lib.hid (by rw [hW]; exact box2)
  rw [← hW]; clear hW
  have HX1 := Lib.hid X1
  have HI1 := Lib.hid (RaidN.below X1 hhi _ _ H.out)
  clear X1
  go_loopw [3] (fun i wr => ∃ r : Nat, r ≤ 3 ∧ i = .int .i64 (r : Int) ∧ Hid (TK lo w1 wr) ∧ Hid (RaidN wr lo hi [.slice (some ⟨g, 0, none⟩) 3 c3] (upto (fun _ => flushX) xs r))) (fun i _ => 3 - (intOf i).toNat)
  case atStart => exact ⟨0, by omega, rfl, Lib.hid (TK.refl _ _), HI1⟩
  case round =>
    clear HI1
    obtain ⟨r, hr3, rfl, HCH, HI⟩ := hrel
    have hsz := HCH.out.size
    have R0 : Hid (wr.heap[w.heap.size]? = some (.cells #[.slice (some ⟨g, 0, none⟩) 3 c3] 35 (0, 0))) := Lib.hid ((HCH.out.at_ (by omega) (.inr (NotT.of K0.out (by decide) (by decide)))).trans K0.out)
    have R1 : Hid (wr.heap[w.heap.size + 1]? = some (.cells #[.slice none 0 0] 35 (0, 0))) := Lib.hid ((HCH.out.at_ (by omega) (.inr (NotT.of K1.out (by decide) (by decide)))).trans K1.out)
    have b0 := cell_of_row _ _ 0 _ _ (0, 0) R0.out
    have l0 : w.heap.size < wr.heap.size := by omega
    have l1 : w.heap.size + 1 < wr.heap.size := by omega
    by_cases hlt : r < 3
    · obtain ⟨x, hx⟩ : ∃ x, xs[r]? = some x := ⟨xs[r]'(by rw [HL3.out]; exact hlt), List.getElem?_eq_getElem _⟩
      obtain ⟨o, hO⟩ := HI.out.o
      obtain ⟨g', cur, e', hg1, hg2, hgc, hgs, hc1, hc2, hgl, hgw, hgx⟩ := hO.arr (by omega)
      injection e' with e'; injection e' with e' _; subst e'
      obtain ⟨cs, hcl, hcc, hdo⟩ := hgx r x (upto_get hx)
      have hdk := HDK.out x (List.mem_of_getElem? hx)
      have HUS := Lib.hid (upto_set (f := fun _ => flushX) hx)
      obtain ⟨x0, x1, gone⟩ := x
      obtain ⟨hdn, hlab⟩ := hdo
      obtain ⟨A0, n0, c0, A1, n1, c1, rfl, d0, d1, d2, d3⟩ := hdn
      simp only at d0 d2
      have hL0 := d0.len; have hL1 := d2.len
      unfold diskOk at hdk
      simp only [Bool.and_eq_true, decide_eq_true_eq, List.all_eq_true] at hdk
      obtain ⟨⟨⟨⟨hx0, hx1⟩, hx2⟩, hx3⟩, hx4⟩ := hdk
      have HT : Hid (∀ s ∈ x0, s.size ≤ 200) := Lib.hid (fun s hs => by have := hx2 s hs; unfold textOk at this; simp at this; exact this.1)
      have HW : Hid (∀ y ∈ x1, inB y.1 0 63 = true ∧ y.2.size ≤ 200) := Lib.hid (fun y hy => by have := hx4 y hy; unfold waitOk at this; simpa using this)
      obtain rfl : n0 = 64 := by omega
      have hn1 : n1 ≤ 120 := by omega
      obtain ⟨gi, rfl, hgi1, hgi2, hsa⟩ := StrArr.of_whole d0 d1 (by omega)
      have hc0 : 0 < c0 := d1.pos (by omega)
      have HNE : Hid (∀ b off, A1 = some ⟨b, off, none⟩ → 0 < n1 → b ≠ gi) := Lib.hid (fun b off hB hn he => by
        subst hB he
        rcases d3 with h | ⟨g', cur, hA, _, _, h4, _⟩
        · omega
        · injection hA with e; injection e with e1 e2
          subst e1
          obtain ⟨cur', h5, _⟩ := hsa
          rw [h4] at h5
          injection h5 with h5; injection h5 with _ h5; exact absurd h5 (by decide))
      have hgg : gi ≠ g := fun e => by
        subst e
        obtain ⟨cur', h5, _⟩ := hsa
        rw [hgc] at h5
        injection h5 with h5; injection h5 with _ h5; exact absurd h5 (by decide)
      have HGI : Hid (o gi = r) := Lib.hid (hlab (some ⟨gi, 0, none⟩) 64 c0 gi (by simp) hc0 ⟨0, rfl⟩)
      have q0 : wr.cell? ⟨g, r * 3, none⟩ = some (.slice (some ⟨gi, 0, none⟩) 64 c0) := (cell_of_row _ _ _ _ _ (0, 0) hgc).trans (hcc 0 _ rfl)
      have q1 : wr.cell? ⟨g, r * 3 + 1, none⟩ = some (.slice A1 n1 c1) := (cell_of_row _ _ _ _ _ (0, 0) hgc).trans (hcc 1 _ rfl)
      have q2 : wr.cell? ⟨g, r * 3 + 2, none⟩ = some (.bool gone) := (cell_of_row _ _ _ _ _ (0, 0) hgc).trans (hcc 2 _ rfl)
      have lgr : g < wr.heap.size := (Array.getElem?_eq_some_iff.1 hgc).1
      have lgi : gi < wr.heap.size := hsa.lt
      have HO := Lib.hid hO; have HSA := Lib.hid hsa; have HD2 := Lib.hid d2; have HX := Lib.hid hx; have HGC := Lib.hid hgc; have HGS := Lib.hid hgs; have HX0 := Lib.hid hx0; have HL1 := Lib.hid hL1
      have HQ0 := Lib.hid q0; have HQ1 := Lib.hid q1; have HQ2 := Lib.hid q2
      have k0 : (0 : Int) ≤ (r : Int) := by omega
      have k1 : (r : Int) < 3 := by omega
      clear hO hgc hgx hcl hcc hlab d0 d1 d2 d3 hx hx0 hx1 hx2 hx3 hx4 hsa hL0 hL1 hgs
      go_wp2_with fail
      clear b0 q0 q1 q2
      apply wp_region_rgz (Chg (fun b => b = gi ∨ b = g)) (Ext) (fun y w' k' => (k' < 1000 → Below wr.heap.size wr w') ∧ w'.heap[w.heap.size]? = wr.heap[w.heap.size]? ∧ (3000 ≤ k' → ∃ B, Chg (fun b => b = gi ∨ b = g) wr w' ∧ StrArr 9 w' gi c0 (settleTo flushF x1 x0 n1) ∧ w'.heap[g]? = some (.cells (putAt cur (r * 3) [.slice (some ⟨gi, 0, none⟩) 64 c0, .slice B 0 0, .bool gone]) 45 (0, 0)))) [0, 0, 0, 0, 0, 0, 0, 0, 1000, 0, 2000] [2000, 2000, 2000, 3000, 3000, 3000, 3000, 3000, 3000, 2000, 2000] (by kernel_rfl) (false :: false :: false :: false :: false :: false :: false :: false :: false :: false :: false :: true :: true :: true :: true :: true :: true :: true :: true :: true :: true :: false :: []) [some 11, some 12, some 13, some 14, some 15, some 16, some 17, some 18, some 19, some 20, none] [[], [0], [], [], [3], [], [4, 5], [6], [7], [1, 2], [8, 9]] [false, false, false, false, false, false, false, false, true, false, true] [true, true, true, true, true, true, true, true, false, true, true] [] [MStP.is _, MStP.is _, MStP.is _, MStP.is _, MStP.is _, MStP.is _, MStP.is _, MStP.is _, ⟨fun v w' => ∃ B, v = .agg #[.slice (some ⟨gi, 0, none⟩) 64 c0, .slice B 0 0, .bool gone] ∧ Chg (· ∈ [gi]) wr w' ∧ StrArr 9 w' gi c0 (settleTo flushF x1 x0 n1), false, fun v w' w'' hs h => by obtain ⟨B, e, h1, h2⟩ := h; exact ⟨B, e, h1.trans (Chg.of_below hs _), h2.below hs⟩, fun h => by cases h⟩, MStP.is _, MStP.is _] (by kernel_rfl) (by kernel_rfl) (by kernel_rfl) (by kernel_rfl)
      case hobs =>
        refine ⟨fun y w' k hS hj hk hF K hK => ?_, ?_⟩
        · skip -- 0: fieldAddr
          simp only [fillL, cond_true, cond_false, List.getD_cons_zero, List.getD_cons_succ, StP.is, Act.put, List.setIfInBounds_toArray, List.set_cons_zero, List.set_cons_succ, Nat.reduceAdd, MStP.is, Option.isSome_some, Option.isSome_none] at hK ⊢
          simp only [List.sum_cons, List.sum_nil, List.getD_cons_zero, List.getD_cons_succ, Nat.reduceAdd, Nat.add_zero] at hk
          refine rg_yes (by kernel_rfl) ?_
          clear hF
          go_simp
          exact hK _ _ (Ext.refl _) ⟨fun h => hj.1 h, hj.2.1, fun h => hj.2.2 h⟩ rfl
        refine ⟨fun y w' k hS hj hk hF K hK => ?_, ?_⟩
        · skip -- 1: load
          have e11 : y 11 = _ := hF.1
          have e11' := Lib.hid e11
          simp only [fillL, cond_true, cond_false, List.getD_cons_zero, List.getD_cons_succ, StP.is, Act.put, List.setIfInBounds_toArray, List.set_cons_zero, List.set_cons_succ, Nat.reduceAdd, e11, MStP.is, Option.isSome_some, Option.isSome_none] at hK ⊢
          simp only [List.sum_cons, List.sum_nil, List.getD_cons_zero, List.getD_cons_succ, Nat.reduceAdd, Nat.add_zero] at hk
          refine rg_yes (by kernel_rfl) ?_
          clear e11
          clear hF
          have qb_ := (World.cell?_of_block (a := ⟨w.heap.size, 0, none⟩) hj.2.1).trans (cell_of_row _ _ 0 _ _ (0, 0) R0.out)
          have lqb_ := World.block_lt_of_cell? _ _ qb_
          go_simp
          exact hK _ _ (Ext.refl _) ⟨fun h => hj.1 h, hj.2.1, fun h => hj.2.2 h⟩ rfl
        refine ⟨fun y w' k hS hj hk hF K hK => ?_, ?_⟩
        · skip -- 2: move
          simp only [fillL, cond_true, cond_false, List.getD_cons_zero, List.getD_cons_succ, StP.is, Act.put, List.setIfInBounds_toArray, List.set_cons_zero, List.set_cons_succ, Nat.reduceAdd, MStP.is, Option.isSome_some, Option.isSome_none] at hK ⊢
          simp only [List.sum_cons, List.sum_nil, List.getD_cons_zero, List.getD_cons_succ, Nat.reduceAdd, Nat.add_zero] at hk
          refine rg_yes (by kernel_rfl) ?_
          clear hF
          go_simp
          exact hK _ _ (Ext.refl _) ⟨fun h => hj.1 h, hj.2.1, fun h => hj.2.2 h⟩ rfl
        refine ⟨fun y w' k hS hj hk hF K hK => ?_, ?_⟩
        · skip -- 3: fieldAddr
          simp only [fillL, cond_true, cond_false, List.getD_cons_zero, List.getD_cons_succ, StP.is, Act.put, List.setIfInBounds_toArray, List.set_cons_zero, List.set_cons_succ, Nat.reduceAdd, MStP.is, Option.isSome_some, Option.isSome_none] at hK ⊢
          simp only [List.sum_cons, List.sum_nil, List.getD_cons_zero, List.getD_cons_succ, Nat.reduceAdd, Nat.add_zero] at hk
          refine rg_yes (by kernel_rfl) ?_
          clear hF
          go_simp
          exact hK _ _ (Ext.refl _) ⟨fun h => hj.1 h, hj.2.1, fun h => hj.2.2 h⟩ rfl
        refine ⟨fun y w' k hS hj hk hF K hK => ?_, ?_⟩
        · skip -- 4: load
          have e14 : y 14 = _ := hF.1
          have e14' := Lib.hid e14
          simp only [fillL, cond_true, cond_false, List.getD_cons_zero, List.getD_cons_succ, StP.is, Act.put, List.setIfInBounds_toArray, List.set_cons_zero, List.set_cons_succ, Nat.reduceAdd, e14, MStP.is, Option.isSome_some, Option.isSome_none] at hK ⊢
          simp only [List.sum_cons, List.sum_nil, List.getD_cons_zero, List.getD_cons_succ, Nat.reduceAdd, Nat.add_zero] at hk
          refine rg_yes (by kernel_rfl) ?_
          clear e14
          clear hF
          have qb_ := (World.cell?_of_block (a := ⟨w.heap.size, 0, none⟩) hj.2.1).trans (cell_of_row _ _ 0 _ _ (0, 0) R0.out)
          have lqb_ := World.block_lt_of_cell? _ _ qb_
          go_simp
          exact hK _ _ (Ext.refl _) ⟨fun h => hj.1 h, hj.2.1, fun h => hj.2.2 h⟩ rfl
        refine ⟨fun y w' k hS hj hk hF K hK => ?_, ?_⟩
        · skip -- 5: move
          simp only [fillL, cond_true, cond_false, List.getD_cons_zero, List.getD_cons_succ, StP.is, Act.put, List.setIfInBounds_toArray, List.set_cons_zero, List.set_cons_succ, Nat.reduceAdd, MStP.is, Option.isSome_some, Option.isSome_none] at hK ⊢
          simp only [List.sum_cons, List.sum_nil, List.getD_cons_zero, List.getD_cons_succ, Nat.reduceAdd, Nat.add_zero] at hk
          refine rg_yes (by kernel_rfl) ?_
          clear hF
          go_simp
          exact hK _ _ (Ext.refl _) ⟨fun h => hj.1 h, hj.2.1, fun h => hj.2.2 h⟩ rfl
        refine ⟨fun y w' k hS hj hk hF K hK => ?_, ?_⟩
        · skip -- 6: indexAddr
          have e15 : y 15 = _ := hF.1
          have e16 : y 16 = _ := hF.2.1
          have e15' := Lib.hid e15
          have e16' := Lib.hid e16
          simp only [fillL, cond_true, cond_false, List.getD_cons_zero, List.getD_cons_succ, StP.is, Act.put, List.setIfInBounds_toArray, List.set_cons_zero, List.set_cons_succ, Nat.reduceAdd, e15, e16, MStP.is, Option.isSome_some, Option.isSome_none] at hK ⊢
          simp only [List.sum_cons, List.sum_nil, List.getD_cons_zero, List.getD_cons_succ, Nat.reduceAdd, Nat.add_zero] at hk
          refine rg_yes (by kernel_rfl) ?_
          clear e15 e16
          clear hF
          go_simp
          exact hK _ _ (Ext.refl _) ⟨fun h => hj.1 h, hj.2.1, fun h => hj.2.2 h⟩ rfl
        refine ⟨fun y w' k hS hj hk hF K hK => ?_, ?_⟩
        · skip -- 7: load
          have e17 : y 17 = _ := hF.1
          have e17' := Lib.hid e17
          simp only [fillL, cond_true, cond_false, List.getD_cons_zero, List.getD_cons_succ, StP.is, Act.put, List.setIfInBounds_toArray, List.set_cons_zero, List.set_cons_succ, Nat.reduceAdd, e17, MStP.is, Option.isSome_some, Option.isSome_none] at hK ⊢
          simp only [List.sum_cons, List.sum_nil, List.getD_cons_zero, List.getD_cons_succ, Nat.reduceAdd, Nat.add_zero] at hk
          refine rg_yes (by kernel_rfl) ?_
          clear e17
          clear hF
          have hE := hj.1 (by omega)
          have hsw := hE.size
          have q0_ := (World.cell?_of_block (a := ⟨g, _, none⟩) (hE.block _ lgr)).trans HQ0.out
          have q1_ := (World.cell?_of_block (a := ⟨g, _, none⟩) (hE.block _ lgr)).trans HQ1.out
          have q2_ := (World.cell?_of_block (a := ⟨g, _, none⟩) (hE.block _ lgr)).trans HQ2.out
          go_simp
          exact hK _ _ (Ext.refl _) ⟨fun h => hE, hj.2.1, fun h => absurd h (by omega)⟩ rfl
        refine ⟨fun y w' k hS hj hk hF K hK => ?_, ?_⟩
        · skip -- 8: call
          have e18 : y 18 = _ := hF.1
          have e18' := Lib.hid e18
          simp only [fillL, cond_true, cond_false, List.getD_cons_zero, List.getD_cons_succ, StP.is, Act.put, List.setIfInBounds_toArray, List.set_cons_zero, List.set_cons_succ, Nat.reduceAdd, e18, MStP.is, Option.isSome_some, Option.isSome_none] at hK ⊢
          simp only [List.sum_cons, List.sum_nil, List.getD_cons_zero, List.getD_cons_succ, Nat.reduceAdd, Nat.add_zero] at hk
          refine rg_yes (by kernel_rfl) ?_
          clear e18
          clear hF
          have hE := hj.1 (by omega)
          go_simp
          go_at_call 48
          refine (l3Flush_any gi c0 A1 n1 c1 x0 x1 gone w' lo hi (HSA.out.below hE) (SliceR.below HD2.out hE (WaitR.below hE HD2.out.lo_le)) HNE.out HX0.out hn1 (fun y hy => (HW.out y hy).1)).mono ?_
          rintro e w'' ⟨B, rfl, hA8, hC8⟩
          exact hK _ _ (hC8.mono fun b _ hb => .inl (by simpa using hb)) ⟨fun h => absurd h (by omega), (hC8.block _ (by have := hE.size; omega) (by simp; omega)).trans hj.2.1, fun h => absurd h (by omega)⟩ ⟨B, rfl, (Chg.of_below hE _).trans hC8, hA8⟩
        refine ⟨fun y w' k hS hj hk hF K hK => ?_, ?_⟩
        · skip -- 9: indexAddr
          have e12 : y 12 = _ := hF.1
          have e13 : y 13 = _ := hF.2.1
          have e12' := Lib.hid e12
          have e13' := Lib.hid e13
          simp only [fillL, cond_true, cond_false, List.getD_cons_zero, List.getD_cons_succ, StP.is, Act.put, List.setIfInBounds_toArray, List.set_cons_zero, List.set_cons_succ, Nat.reduceAdd, e12, e13, MStP.is, Option.isSome_some, Option.isSome_none] at hK ⊢
          simp only [List.sum_cons, List.sum_nil, List.getD_cons_zero, List.getD_cons_succ, Nat.reduceAdd, Nat.add_zero] at hk
          refine rg_yes (by kernel_rfl) ?_
          clear e12 e13
          clear hF
          go_simp
          exact hK _ _ (Ext.refl _) ⟨fun h => hj.1 h, hj.2.1, fun h => hj.2.2 h⟩ rfl
        refine ⟨fun y w' k hS hj hk hF K hK => ?_, ?_⟩
        · skip -- 10: store
          obtain ⟨B, e19, hC8, hA8⟩ := hF.1
          have e20 : y 20 = _ := hF.2.1
          have e19' := Lib.hid e19
          have e20' := Lib.hid e20
          simp only [fillL, cond_true, cond_false, List.getD_cons_zero, List.getD_cons_succ, StP.is, Act.put, List.setIfInBounds_toArray, List.set_cons_zero, List.set_cons_succ, Nat.reduceAdd, e19, e20, MStP.is, Option.isSome_some, Option.isSome_none] at hK ⊢
          simp only [List.sum_cons, List.sum_nil, List.getD_cons_zero, List.getD_cons_succ, Nat.reduceAdd, Nat.add_zero] at hk
          refine rg_yes (by kernel_rfl) ?_
          clear e19 e20
          clear hF
          have hg8 := (hC8.block g lgr (by simp; exact fun e => hgg e.symm)).trans HGC.out
          have f0_ := block_free hg8 (r * 3); have f1_ := block_free hg8 (r * 3 + 1); have f2_ := block_free hg8 (r * 3 + 2)
          have hgsz := HGS.out
          have c0_ : (w'.cell? ⟨g, r * 3, none⟩) = some _ := block_cell hg8 (by omega)
          have c1_ : (w'.cell? ⟨g, r * 3 + 1, none⟩) = some _ := block_cell hg8 (by omega)
          have c2_ : (w'.cell? ⟨g, r * 3 + 2, none⟩) = some _ := block_cell hg8 (by omega)
          have HC8 := Lib.hid hC8; have HA8 := Lib.hid hA8; have HG8 := Lib.hid hg8
          clear hC8 hA8 hg8
          go_simp
          refine hK undef _ (((((Chg.refl _ _).setCell (p := ⟨g, r * 3, none⟩) (.inl (.inr rfl)) _).setCell (p := ⟨g, r * 3 + 1, none⟩) (.inl (.inr rfl)) _)).setCell (p := ⟨g, r * 3 + 2, none⟩) (.inl (.inr rfl)) _) ⟨fun h => absurd h (by omega), (set3_far (by omega)).trans hj.2.1, fun _ => ⟨B, ?_, ?_, ?_⟩⟩ rfl
          · exact (((HC8.out.mono fun b _ hb => .inl (by simpa using hb)).setCell (p := ⟨g, r * 3, none⟩) (.inl (.inr rfl)) _).setCell (p := ⟨g, r * 3 + 1, none⟩) (.inl (.inr rfl)) _).setCell (p := ⟨g, r * 3 + 2, none⟩) (.inl (.inr rfl)) _
          · exact HA8.out.block ((heap_far hgg).trans ((heap_far hgg).trans (heap_far hgg)))
          · exact set3 HG8.out
        trivial
      case hH => rfl
      case hNS => exact fun _ _ h => Chg.of_below h _
      case hSt => exact fun a b => Chg.trans a b
      case hb => rfl
      case hdrew => exact (Chg.refl _ _).drewN 1
      case hj0 => exact fun y => ⟨fun _ => below_drewN (Below.refl _ _) 1, rfl, fun h => absurd h (by omega)⟩
      case hend =>
        intro y w6 hSS hJ hF
        obtain ⟨B, hC, hA, hG⟩ := hJ.2.2 (by decide)
        have hl : (settleTo flushF x1 x0 n1).length = 64 := settleTo_len.trans HX0.out
        have hs1 := hA.slice (lo := lo) (hi := hi) hgi1 hgi2 (by have := hC.size; omega) (fun s hs => by have := settleTo_le (fun y hy => (HW.out y hy).2) HT.out (fun _ _ _ h _ => h) n1 s hs; unfold maxLen; omega)
        have hs2 := hA.whole (lo := lo) (hi := hi) hgi1 hgi2
        rw [hl] at hs1 hs2
        have hD : DiskN w6 lo hi [.slice (some ⟨gi, 0, none⟩) 64 c0, .slice B 0 0, .bool gone] (flushX (x0, x1, gone)) := ⟨_, _, _, _, _, _, rfl, by unfold flushX; rw [HL1.out]; exact hs1, hs2, ⟨rfl, Nat.le_refl _, Nat.zero_le _, by have := hC.size; omega, fun _ => rfl, fun h => absurd h (Nat.lt_irrefl _)⟩, .inl ⟨rfl, rfl⟩⟩
        have hN : Hid (RaidN w6 lo hi [.slice (some ⟨g, 0, none⟩) 3 c3] (upto (fun _ => flushX) xs (r + 1))) := Lib.hid (by
          rw [← HUS.out]
          refine (RaidO.put (gi := gi) HO.out (by omega) hD hC.size (fun A m k b hm hp hb => ?_) HGI.out (fun i _ hi h1 h2 => hC.block i hi (fun h => h.elim h2 h1)) (fun cur' hcur' => ?_)).n
          · simp only [List.mem_cons, Value.slice.injEq, List.not_mem_nil, or_false, reduceCtorEq] at hm
            rcases hm with ⟨rfl, rfl, rfl⟩ | ⟨rfl, rfl, rfl⟩
            · rw [blkOf_iff] at hb; rw [hb]; exact HGI.out
            · omega
          · rw [HGC.out] at hcur'
            injection hcur' with e; injection e with e _; subst e
            exact hG)
        have HC6 : Hid (TK lo w1 w6) := Lib.hid (HCH.out.trans (hC.mono fun b _ hb => by
          rcases hb with rfl | rfl
          · obtain ⟨cur', h5, _⟩ := HSA.out
            exact ⟨by omega, fun h => h.1 cur' h5⟩
          · exact ⟨by omega, fun h => h.2 _ HGC.out⟩))
        clear hJ hF hSS hC hA hG hs1 hs2 hD hl
        simp only [fillL, cond_true, cond_false, Nat.reduceAdd]
        go_wp2_with fail
        go_roundw
        case rel => exact ⟨r + 1, by omega, by go_num, HC6, hN⟩
        case measure => simp [intOf]; omega
    · obtain rfl : r = 3 := by omega
      have HFN : Hid (RaidN wr lo hi [.slice (some ⟨g, 0, none⟩) 3 c3] (xs.map flushX)) := Lib.hid (by
        have e : upto (fun _ => flushX) xs 3 = xs.map flushX := by
          unfold upto
          rw [List.drop_of_length_le (by rw [HL3.out]; exact Nat.le_refl _), List.append_nil, List.take_of_length_le (by rw [List.length_mapIdx, HL3.out]; exact Nat.le_refl _)]
          apply List.ext_getElem?; intro i; simp
        rw [← e]; exact HI.out)
      have s0 := cell_of_row _ _ 0 _ _ (0, 0) R1.out
      have f0 := block_free R1.out 0
      have t0 := cell_of_row _ _ 0 _ _ (0, 0) (block_set (o := 0) (v := .slice (some ⟨g, 0, none⟩) 3 c3) R1.out)
      go_wp2_with fail
      refine bodyPost_ret (v := .agg #[.slice (some ⟨g, 0, none⟩) 3 c3]) (by simp [results, Try.results47, go_sem, t0]) rfl ⟨rfl, ?_, ?_, ?_⟩
      · exact RaidN.keep (Same.setCell (p := ⟨w.heap.size + 1, 0, none⟩) (Same.refl _ _ _) (.inr (by simp; omega)) _) (by simp [World.setCell]) _ _ HFN.out
      · simp [World.setCell]; omega
      · exact Chg.setCell (p := ⟨w.heap.size + 1, 0, none⟩) (TK.trans (TK.below HX1.out) HCH.out) (.inr (by simp)) _
end Go.Proofs.Ytfokpjoeankobaa
