/- The nodes of a table: nodes, table and TableOk of the program. Condition: the library's variables lie as the row says; the store has 64 rows of at most 128 bytes (nodes); a list of what was given up has at most 2000000 members (table). -/
import Derived.Test.YtjnhiiaejeaikaaGreatDoorRLeaves
import Derived.Test.YtjnhiiaejeaikaaGreatDoorRNodeGet
import Derived.Test.YtjnhiiaejeaikaaGreatDoorRStoreOkI
set_option linter.unnecessarySimpa false
set_option linter.unusedSimpArgs false
set_option linter.unusedVariables false
namespace Go.Proofs.YtjnhiiaejeaikaaGreatDoor
open Go Go.Lib Go.RowKit
theorem infoNP : (Tryz.prog.info? 69).map (fun i => (i.zero, i.size, i.bytes)) = some (some (.pointer none), 1, 8) := by kernel_rfl
theorem make_Nodes (n : Nat) (hn : n ≤ 16) (w : World) :
 (Instr.makeSlice 66 (.int .i64 (n : Int)) (.int .i64 (n : Int))).run Tryz.prog w = .ok (.slice (some ⟨w.heap.size, 0, none⟩) n n) (w.alloc (.cells (madeCells #[.pointer none] n) 69)) := by
 obtain ⟨i, hi, hz, hs, hb⟩ := info_parts infoNP
 have hr := run_make (P := Tryz.prog) w 66 69 i (.pointer none) Tryz.underlying66 hi hz .i64 .i64 n n (by omega) (by omega) (by rw [hb]; omega) (by omega)
 simp only [Int.toNat_natCast, hs, Nat.mul_one] at hr
 exact hr
def nodeCs (n : NodeD) : Array Value := #[.int .i64 n.1, .int .i64 n.2.1, .int .i64 n.2.2.1, .int .i64 n.2.2.2.1.1, .int .i64 n.2.2.2.1.2.1, .int .i64 n.2.2.2.1.2.2.1, .int .i64 n.2.2.2.1.2.2.2.1, .int .i64 n.2.2.2.1.2.2.2.2, .int .i64 n.2.2.2.2.1, .int .i64 n.2.2.2.2.2]
def NodePV (w : World) (lo hi : Nat) (o : Option NodeD) (v : Value) : Prop := match o with
 | none => v = .pointer none
 | some n => ∃ g, v = .pointer (some ⟨g, 0, none⟩) ∧ lo ≤ g ∧ g < hi ∧ w.heap[g]? = some (.cells (nodeCs n) 53 (0, 0))
def NodePR : Reads (Option NodeD) := fun w lo hi cs o => ∃ v, cs = [v] ∧ NodePV w lo hi o v
theorem NodePV.keep {w w' : World} {lo hi lo' hi' : Nat} {o : Option NodeD} {v : Value} (h : NodePV w lo hi o v) (hk : ∀ g, lo ≤ g → g < hi → w'.heap[g]? = w.heap[g]?) (h1 : lo' ≤ lo) (h2 : hi ≤ hi') : NodePV w' lo' hi' o v := by
 cases o with
 | none => exact h
 | some n =>
   obtain ⟨g, e, a, b, hg⟩ := h
   exact ⟨g, e, by omega, by omega, (hk g a b).trans hg⟩
theorem NodePR.below {w w' : World} {lo hi : Nat} (hb : Below w.heap.size w w') (hhi : hi ≤ w.heap.size) (cs : List Value) (x : Option NodeD) (h : NodePR w lo hi cs x) : NodePR w' lo hi cs x := by
 obtain ⟨v, e, h⟩ := h
 exact ⟨v, e, h.keep (fun g _ hg => hb.block g (by omega)) (Nat.le_refl _) (Nat.le_refl _)⟩
theorem NodePR.wide {w : World} {lo hi lo' hi' : Nat} (b1 : lo' ≤ lo) (b2 : hi ≤ hi') (b3 : hi' ≤ w.heap.size) (cs : List Value) (x : Option NodeD) (h : NodePR w lo hi cs x) : NodePR w lo' hi' cs x := by
 obtain ⟨v, e, h⟩ := h
 exact ⟨v, e, h.keep (fun _ _ _ => rfl) b1 b2⟩
def GotNs (o : Option (List (Option NodeD))) (w : World) (e : Ending) (w' : World) : Prop :=
 ∃ (A : Option Addr) (n c : Nat) (L : List (Option NodeD)), e = .returned (.tuple #[.slice A n c, .bool o.isSome]) ∧ (∀ M, o = some M → L = M) ∧ SliceR NodePR 1 w' w.heap.size w'.heap.size A n c L ∧ Below w.heap.size w w'
theorem GotNs.no {o : Option (List (Option NodeD))} {w w' : World} (h : o = none) (hb : Below w.heap.size w w') : GotNs o w (.returned (.tuple #[.slice none 0 0, .bool false])) w' :=
 ⟨none, 0, 0, [], by rw [h]; rfl, fun M e => by rw [h] at e; (cases e), ⟨rfl, Nat.le_refl _, Nat.zero_le _, Nat.le_refl _, fun _ => rfl, fun h => absurd h (by simp)⟩, hb⟩
theorem GotNs.yes {o : Option (List (Option NodeD))} {w w' : World} {A : Option Addr} {n c lo : Nat} {M : List (Option NodeD)} (h : o = some M) (hs : SliceR NodePR 1 w' lo w'.heap.size A n c M) (hlo : w.heap.size ≤ lo) (hb : Below w.heap.size w w') : GotNs o w (.returned (.tuple #[.slice A n c, .bool true])) w' :=
 ⟨A, n, c, M, by rw [h]; rfl, fun M' e => by rw [h] at e; exact Option.some.inj e, hs.wide hlo (Nat.le_refl _) (Nat.le_refl _) (NodePR.wide hlo (Nat.le_refl _) (Nat.le_refl _)), hb⟩
def NRow (w : World) (lo : Nat) (cur : Array Value) (nn k : Nat) (L : List (Option NodeD)) : Prop := cur.size = nn ∧ ∀ j, j < nn → ∃ v, cur[j]? = some v ∧ NodePV w lo w.heap.size (if j < k then L.getD j none else none) v
theorem NRow.zero (w : World) (lo nn : Nat) (L : List (Option NodeD)) : NRow w lo (madeCells #[.pointer none] nn) nn 0 L := by
 refine ⟨size_madeCells _ _, fun j hj => ⟨.pointer none, ?_, by rw [if_neg (by omega)]; rfl⟩⟩
 unfold madeCells
 simp [hj, Nat.mod_one]
theorem NRow.keep {w w' : World} {lo nn k : Nat} {cur : Array Value} {L : List (Option NodeD)} (h : NRow w lo cur nn k L) (hk : ∀ g, lo ≤ g → g < w.heap.size → w'.heap[g]? = w.heap[g]?) (hz : w.heap.size ≤ w'.heap.size) : NRow w' lo cur nn k L :=
 ⟨h.1, fun j hj => by obtain ⟨v, h1, h2⟩ := h.2 j hj; exact ⟨v, h1, h2.keep hk (Nat.le_refl _) hz⟩⟩
theorem NRow.below {w w' : World} {lo nn k : Nat} {cur : Array Value} {L : List (Option NodeD)} (h : NRow w lo cur nn k L) (hb : Below w.heap.size w w') : NRow w' lo cur nn k L := h.keep (fun g _ hg => hb.block g hg) hb.size
theorem NRow.skip {w : World} {lo nn k : Nat} {cur : Array Value} {L : List (Option NodeD)} (h : NRow w lo cur nn k L) (hL : L.getD k none = none) : NRow w lo cur nn (k + 1) L :=
 ⟨h.1, fun j hj => by
  obtain ⟨v, h1, h2⟩ := h.2 j hj
  refine ⟨v, h1, ?_⟩
  by_cases e : j = k
  · subst e; rw [if_neg (by omega)] at h2; rw [if_pos (by omega), hL]; exact h2
  · by_cases e2 : j < k
    · rw [if_pos e2] at h2; rw [if_pos (by omega)]; exact h2
    · rw [if_neg e2] at h2; rw [if_neg (by omega)]; exact h2⟩
theorem NRow.put {w : World} {lo nn k : Nat} {cur : Array Value} {L : List (Option NodeD)} {v : Value} {n : NodeD} (h : NRow w lo cur nn k L) (hk : k < nn) (hL : L.getD k none = some n) (hv : NodePV w lo w.heap.size (some n) v) : NRow w lo (cur.setIfInBounds k v) nn (k + 1) L :=
 ⟨by simp [h.1], fun j hj => by
  by_cases e : j = k
  · subst e
    refine ⟨v, by rw [Array.getElem?_setIfInBounds, if_pos rfl, if_pos (by rw [h.1]; exact hj)], ?_⟩
    rw [if_pos (by omega), hL]; exact hv
  · obtain ⟨u, h1, h2⟩ := h.2 j hj
    refine ⟨u, by rw [Array.getElem?_setIfInBounds, if_neg (fun x => e x.symm)]; exact h1, ?_⟩
    by_cases e2 : j < k
    · rw [if_pos e2] at h2; rw [if_pos (by omega)]; exact h2
    · rw [if_neg e2] at h2; rw [if_neg (by omega)]; exact h2⟩
theorem NRow.slice {w : World} {lo nn g T : Nat} {cur : Array Value} {L : List (Option NodeD)} (h : NRow w lo cur nn nn L) (hL : L.length = nn) (hm : nn ≤ maxLen) (hg : w.heap[g]? = some (.cells cur T (0, 0))) (h1 : lo ≤ g) : SliceR NodePR 1 w lo w.heap.size (some ⟨g, 0, none⟩) nn nn L := by
 have hlt := (Array.getElem?_eq_some_iff.1 hg).1
 refine ⟨hL, Nat.le_refl _, hm, Nat.le_refl _, fun e => by (cases e), fun _ => ⟨g, 0, rfl, h1, hlt, fun j x hx => ?_⟩⟩
 have hj : j < nn := by rw [← hL]; exact (List.getElem?_eq_some_iff.1 hx).1
 obtain ⟨v, h2, h3⟩ := h.2 j hj
 rw [if_pos hj, List.getD_eq_getElem?_getD, hx] at h3
 refine ⟨[v], rfl, fun i u hu => ?_, v, rfl, h3⟩
 cases i with
 | zero =>
   injection hu with hu; subst hu
   rw [Nat.zero_add, Nat.mul_one, Nat.add_zero, cell_of_row _ _ j _ _ (0, 0) hg, h2]
 | succ i => simp at hu
theorem nodeP_at {x : StoreD} {ls : List PtrD} {k : Nat} {p : PtrD} (h : ls[k]? = some p) : (ls.map (nodeP x)).getD k none = nodeP x p := by
 rw [List.getD_eq_getElem?_getD, List.getElem?_map, h]; rfl
set_option maxRecDepth 100000 in
set_option maxHeartbeats 16000000 in
theorem nodes_any (bo : Nat) (cs : List Value) (x : StoreD) (a b s m l d n : Int) (w : World) (he : Env w) (lo hi : Nat) (hbo : w.heap[bo]? = some (.cells cs.toArray 39 (0, 0))) (h : StoreR w lo hi cs x) (hhi : hi ≤ w.heap.size) (h64 : x.1.length = 64) (hz : ∀ r ∈ x.1, r.size ≤ 128) :
 Calls Tryz.prog 51 #[.pointer (some ⟨bo, 0, none⟩), .agg #[.int .i64 a, .int .i64 b, .int .i64 s, .int .i64 m, .int .i64 l, .int .i64 d, .int .i64 n]] w (GotNs (tableF x ((a, b, s, m, l), d, n)) w) := by
 have lbo : bo < w.heap.size := (Array.getElem?_eq_some_iff.1 hbo).1
 have HE := Lib.hid he
 have HRD := Lib.hid (fun (W : World) (hb : Below w.heap.size w W) (a b s m l : Int) (hok : okP (a, b, s, m, l) = true) => read_any bo cs x a b s m l W lo hi ((hb.block _ lbo).trans hbo) (StoreR.below hb hhi cs x h) h64 hz hok)
 have HLV := Lib.hid (fun (W : World) (hb : Below w.heap.size w W) (a b s m l d n : Int) => leaves_any bo cs x a b s m l d n W (HE.out.below hb) lo hi ((hb.block _ lbo).trans hbo) (StoreR.below hb hhi cs x h) (Nat.le_trans hhi hb.size) h64 hz)
 clear hbo h hhi h64 hz he
 go_enter Tryz.func51, Tryz.ntmps51
 obtain ⟨w1, hw1⟩ : ∃ W, W = w.alloc (.cells #[.int .i64 a, .int .i64 b, .int .i64 s, .int .i64 m, .int .i64 l, .int .i64 d, .int .i64 n] 43) := ⟨_, rfl⟩
 have HB1 : Hid (Below w.heap.size w w1) := Lib.hid (by rw [hw1]; exact bel1)
 have HBX : Hid (w1.heap[w.heap.size]? = some (.cells #[.int .i64 a, .int .i64 b, .int .i64 s, .int .i64 m, .int .i64 l, .int .i64 d, .int .i64 n] 43 (0, 0))) := Lib.hid (by rw [hw1]; exact heap_alloc_new _ _)
 go_wp2_with fail
 rw [← hw1]; clear hw1
 have b0 := celR 0 HBX.out; have b1 := celR 1 HBX.out; have b2 := celR 2 HBX.out; have b3 := celR 3 HBX.out; have b4 := celR 4 HBX.out; have b5 := celR 5 HBX.out; have b6 := celR 6 HBX.out
 go_wp2_with fail
 refine (HLV.out w1 HB1.out a b s m l d n).mono ?_
 obtain ⟨T, hT⟩ : ∃ T, T = treeF x ((a, b, s, m, l), d, n) := ⟨_, rfl⟩
 rw [← hT]
 have HT := Lib.hid hT.symm; clear hT
 rintro e w2 ⟨A, len, c, ps, ok, rfl, hok, hps, hsl, hb2⟩
 have HB2 := Lib.hid (HB1.out.trans (hb2.mono HB1.out.size))
 have HSL := Lib.hid hsl
 clear hb2 hsl b0 b1 b2 b3 b4 b5 b6
 cases T
 · have HN := Lib.hid (tableF_tree HT.out)
   obtain rfl : ok = false := hok
   clear hps
   go_wp2_with fail
   exact bodyPost_ret (v := .tuple #[.slice none 0 0, .bool false]) (by simp [results, Tryz.results51, go_sem]) rfl (GotNs.no HN.out HB2.out)
 rename_i lf
 obtain rfl : ok = true := hok
 obtain rfl := hps _ rfl
 clear hps
 obtain ⟨hh1, hh2, hh3, hh4, hh5, hh6⟩ := treeF_some HT.out
 dsimp only at hh5
 have hlen : len = n.toNat := by have := HSL.out.len; rw [List.length_take] at this; omega
 have hl16 : len ≤ 16 := by omega
 obtain ⟨ls, hls⟩ : ∃ ls, ls = lf.take n.toNat := ⟨_, rfl⟩
 have HLS : Hid (ls = lf.take n.toNat) := Lib.hid hls
 change Hid (SliceR PtrR 5 w2 w1.heap.size w2.heap.size A len c (lf.take n.toNat)) at HSL
 rw [← hls] at HSL
 have HLE : Hid (len = ls.length) := Lib.hid HSL.out.len.symm
 have HOK : Hid (∀ q ∈ ls, okP q = true) := Lib.hid (fun q hq => (hh4 q (List.mem_of_mem_take (hls ▸ hq))).1)
 have HRS : Hid (∀ q ∈ ls, (readF x q).isSome = true) := Lib.hid (fun q hq => by
  obtain ⟨j, hj, rfl⟩ := List.mem_iff_getElem.1 (List.mem_of_mem_take (hls ▸ hq))
  have := hh3 j _ (List.getElem?_eq_getElem hj)
  unfold endB at this
  simp only [Bool.and_eq_true] at this
  exact this.1)
 have HBAD : Hid (∀ j q, ls[j]? = some q → rowN x q = false → tableF x ((a, b, s, m, l), d, n) = none) := Lib.hid (fun j q hq hr => tableF_bad HT.out (by dsimp only; rw [← hls]; exact hq) hr)
 have HYES : Hid ((∀ j q, j < len → ls[j]? = some q → rowN x q = true) → tableF x ((a, b, s, m, l), d, n) = some (ls.map (nodeP x))) := Lib.hid (fun hy => by
  have := tableF_yes HT.out (fun j q hq => by dsimp only at hq; rw [← hls] at hq; exact hy j q (by rw [HLE.out]; exact (List.getElem?_eq_some_iff.1 hq).1) hq)
  dsimp only at this
  rwa [← hls] at this)
 clear hh1 hh2 hh3 hh4 hh5 hh6 hlen hls
 have hmk := make_Nodes len hl16 w2
 obtain ⟨w3, hw3⟩ : ∃ W, W = w2.alloc (.cells (madeCells #[.pointer none] len) 69) := ⟨_, rfl⟩
 rw [← hw3] at hmk
 have HG3 : Hid (∃ cur, w3.heap[w2.heap.size]? = some (.cells cur 69 (0, 0)) ∧ NRow w3 (w2.heap.size + 1) cur len 0 (ls.map (nodeP x))) := Lib.hid ⟨_, by rw [hw3]; exact heap_alloc_new _ _, NRow.zero _ _ _ _⟩
 have HBR3 : Hid (Below w2.heap.size w2 w3) := Lib.hid (by rw [hw3]; exact bel1)
 clear hw3
 go_wp2_with fail
 clear hmk
 go_loopw [30] (fun i wr => ∃ k : Nat, k ≤ len ∧ i = .int .i64 (k : Int) ∧ Hid (∀ j q, j < k → ls[j]? = some q → rowN x q = true) ∧ Hid (∃ cur, wr.heap[w2.heap.size]? = some (.cells cur 69 (0, 0)) ∧ NRow wr (w2.heap.size + 1) cur len k (ls.map (nodeP x))) ∧ Hid (Below w2.heap.size w2 wr)) (fun i _ => len - (RowKit.intOf i).toNat)
 case atStart => exact ⟨0, Nat.zero_le _, rfl, Lib.hid (fun j q hj => absurd hj (by omega)), HG3, HBR3⟩
 clear HG3 HBR3
 obtain ⟨k, hk, rfl, HPR, HG, HBR⟩ := hrel
 have HBW := Lib.hid (HB2.out.trans (HBR.out.mono HB2.out.size))
 have k0 : (0 : Int) ≤ (k : Int) := by omega
 have lo2 : w2.heap.size < wr.heap.size := by obtain ⟨cur, hg, _⟩ := HG.out; exact (Array.getElem?_eq_some_iff.1 hg).1
 by_cases hlt : k < len
 case neg =>
  obtain rfl : k = len := by omega
  have HN := Lib.hid (HYES.out HPR.out)
  obtain ⟨cur, hg, hr⟩ := HG.out
  have HS2 : Hid (SliceR NodePR 1 wr w2.heap.size wr.heap.size (some ⟨w2.heap.size, 0, none⟩) k k (ls.map (nodeP x))) := Lib.hid (by
   have := NRow.slice (lo := w2.heap.size) (L := ls.map (nodeP x)) ⟨hr.1, fun j hj => by obtain ⟨v, h1, h2⟩ := hr.2 j hj; exact ⟨v, h1, h2.keep (fun _ _ _ => rfl) (by omega) (Nat.le_refl _)⟩⟩ (by rw [List.length_map]; exact HLE.out.symm) (by unfold maxLen; omega) hg (Nat.le_refl _)
   exact this)
  have LW : Hid (w.heap.size ≤ w2.heap.size) := Lib.hid HB2.out.size
  clear hg hr
  go_wp2_with fail
  exact bodyPost_ret (v := .tuple #[.slice (some ⟨w2.heap.size, 0, none⟩) k k, .bool true]) (by simp [results, Tryz.results51, go_sem]) rfl (GotNs.yes HN.out HS2.out LW.out HBW.out)
 have k1 : (k : Int) < (len : Int) := by omega
 obtain ⟨pp, hp⟩ : ∃ q, ls[k]? = some q := ⟨ls[k]'(by rw [← HLE.out]; exact hlt), List.getElem?_eq_getElem _⟩
 obtain ⟨b_, off, rfl, _, _, bl, hc⟩ := (HSL.out.newer HBR.out).at_ (by omega)
 obtain ⟨cs_, hcl, hcc, hr⟩ := hc k pp hp
 have HX := Lib.hid hp
 have HOP := Lib.hid (HOK.out pp (List.mem_of_getElem? hp))
 have HRP := Lib.hid (HRS.out pp (List.mem_of_getElem? hp))
 have HNP := Lib.hid (nodeP_at (x := x) hp)
 clear hp hc
 obtain ⟨a', b', s', m', l'⟩ := pp
 obtain rfl := hr
 have q0 := hcc 0 _ rfl; have q1 := hcc 1 _ rfl; have q2 := hcc 2 _ rfl; have q3 := hcc 3 _ rfl; have q4 := hcc 4 _ rfl
 simp only [Nat.add_zero] at q0
 clear hcc hcl
 obtain ⟨w5, hw5⟩ : ∃ W, W = wr.alloc (.cells #[.int .i64 a', .int .i64 b', .int .i64 s', .int .i64 m', .int .i64 l'] 41) := ⟨_, rfl⟩
 have HY5 : Hid (Below wr.heap.size wr w5) := Lib.hid (by rw [hw5]; exact bel1)
 have hbx : Hid (w5.heap[wr.heap.size]? = some (.cells #[.int .i64 a', .int .i64 b', .int .i64 s', .int .i64 m', .int .i64 l'] 41 (0, 0))) := Lib.hid (by rw [hw5]; exact heap_alloc_new _ _)
 go_wp2_with fail
 rw [← hw5]
 clear hw5 q0 q1 q2 q3 q4
 have x0 := celR 0 hbx.out; have x1 := celR 1 hbx.out; have x2 := celR 2 hbx.out; have x3 := celR 3 hbx.out; have x4 := celR 4 hbx.out
 have l5 := (Array.getElem?_eq_some_iff.1 hbx.out).1
 go_wp2_with fail
 refine (ptrHole_any a' b' s' m' l' _).mono ?_
 rintro e w6 ⟨rfl, hb6⟩
 have HY6 := Lib.hid (HY5.out.trans (hb6.mono HY5.out.size))
 have hbx6 := Lib.hid ((hb6.block _ l5).trans hbx.out)
 have l6 := (Array.getElem?_eq_some_iff.1 hbx6.out).1
 clear hb6 hbx HY5 x0 x1 x2 x3 x4
 cases hh : ptrHole a' b' s' m' l'
 rotate_left
 · have HPR' := Lib.hid (upto_stepI (Q := fun _ q => rowN x q = true) HPR.out HX.out (rowN_hole hh))
   have HG' : Hid (∃ cur, w6.heap[w2.heap.size]? = some (.cells cur 69 (0, 0)) ∧ NRow w6 (w2.heap.size + 1) cur len (k + 1) (ls.map (nodeP x))) := Lib.hid (by
    obtain ⟨cur, hg, hr⟩ := HG.out
    exact ⟨cur, (HY6.out.block _ lo2).trans hg, (hr.below HY6.out).skip (by rw [HNP.out]; exact nodeP_hole hh)⟩)
   have HBR' := Lib.hid (HBR.out.trans (HY6.out.mono (Nat.le_of_lt lo2)))
   clear hh
   go_wp2_with fail
   go_roundw
   case rel => first | exact ⟨k + 1, by omega, by go_num, HPR', HG', HBR'⟩ | ((repeat apply Exists.intro); exact ⟨⟨k + 1, by omega, by go_num, HPR', HG', HBR'⟩, rfl⟩)
   simp [RowKit.intOf]; omega
 have HH : Hid (holeP (a', b', s', m', l') = false) := Lib.hid hh
 clear hh
 have x0 := celR 0 hbx6.out; have x1 := celR 1 hbx6.out; have x2 := celR 2 hbx6.out; have x3 := celR 3 hbx6.out; have x4 := celR 4 hbx6.out
 obtain ⟨t, ht⟩ := Option.isSome_iff_exists.1 HRP.out
 have HTT := Lib.hid ht; clear ht
 go_wp2_with fail
 refine (HRD.out w6 (HBW.out.trans (HY6.out.mono HBW.out.size)) a' b' s' m' l' HOP.out).mono ?_
 unfold read_any_post
 rw [HTT.out]
 simp only [Option.getD_some, Option.isSome_some]
 rintro e w7 ⟨rfl, hb7⟩
 have hts := readF_small HTT.out
 obtain ⟨ts, rfl⟩ : ∃ ts, t = strB ts := ⟨t.data.toList, (strB_data t).symm⟩
 have htl : ts.length ≤ 128 := hts
 have HTX : Hid ((textP x (a', b', s', m', l')).data.toList = ts) := Lib.hid (by unfold textP; rw [HTT.out]; simp [strB])
 have HY7 := Lib.hid (HY6.out.trans (hb7.mono HY6.out.size))
 clear hb7 hts HY6 x0 x1 x2 x3 x4 hbx6
 go_wp2_with fail
 refine (nodeGet_any ts w7 (HE.out.below (HBW.out.trans (HY7.out.mono HBW.out.size))) (by omega)).mono ?_
 unfold GotNode
 obtain ⟨N, hN⟩ : ∃ N, N = nodeGet ts := ⟨_, rfl⟩
 rw [← hN]
 have HNG := Lib.hid hN.symm; clear hN
 rintro e w8 ⟨rfl, hb8⟩
 have HY8 := Lib.hid (HY7.out.trans (hb8.mono HY7.out.size))
 clear hb8 HY7
 cases N
 · have HN := Lib.hid (HBAD.out k _ HX.out (rowN_node HH.out (by rw [HTX.out]; exact HNG.out)))
   have HBB := Lib.hid (HBW.out.trans (HY8.out.mono HBW.out.size))
   simp only [Option.getD_none, Option.isSome_none]
   rw [show nodeV zeroN = .agg #[.int .i64 0, .int .i64 0, .int .i64 0, .int .i64 0, .int .i64 0, .int .i64 0, .int .i64 0, .int .i64 0, .int .i64 0, .int .i64 0] from rfl]
   go_wp2_with fail
   exact bodyPost_ret (v := .tuple #[.slice none 0 0, .bool false]) (by simp [results, Tryz.results51, go_sem]) rfl (GotNs.no HN.out (Below.alloc HBB.out HBB.out.size _))
 rename_i N
 obtain ⟨i', j', z', ⟨a2, b2, s2, m2, l2⟩, d2, n2⟩ := N
 simp only [Option.getD_some, Option.isSome_some, nodeV_mk]
 obtain ⟨w9, hw9⟩ : ∃ W, W = w8.alloc (.cells #[.int .i64 i', .int .i64 j', .int .i64 z', .int .i64 a2, .int .i64 b2, .int .i64 s2, .int .i64 m2, .int .i64 l2, .int .i64 d2, .int .i64 n2] 53) := ⟨_, rfl⟩
 have HY9 : Hid (Below wr.heap.size wr w9) := Lib.hid (by rw [hw9]; exact Below.alloc HY8.out HY8.out.size _)
 have HNB : Hid (w9.heap[w8.heap.size]? = some (.cells #[.int .i64 i', .int .i64 j', .int .i64 z', .int .i64 a2, .int .i64 b2, .int .i64 s2, .int .i64 m2, .int .i64 l2, .int .i64 d2, .int .i64 n2] 53 (0, 0))) := Lib.hid (by rw [hw9]; exact heap_alloc_new _ _)
 have l89 : wr.heap.size ≤ w8.heap.size := HY8.out.size
 have HB9 := Lib.hid (HBW.out.trans (HY9.out.mono HBW.out.size))
 go_wp2_with fail
 rw [← hw9]
 clear hw9
 have c3 := celR 3 HNB.out; have c4 := celR 4 HNB.out; have c5 := celR 5 HNB.out; have c6 := celR 6 HNB.out; have c7 := celR 7 HNB.out; have c8 := celR 8 HNB.out; have c9 := celR 9 HNB.out
 have l9 := (Array.getElem?_eq_some_iff.1 HNB.out).1
 go_wp2_with fail
 refine (HLV.out w9 HB9.out a2 b2 s2 m2 l2 d2 n2).mono ?_
 obtain ⟨T2, hT2⟩ : ∃ T2, T2 = treeF x ((a2, b2, s2, m2, l2), d2, n2) := ⟨_, rfl⟩
 rw [← hT2]
 have HT2 := Lib.hid hT2.symm; clear hT2
 rintro e w10 ⟨A5, len5, c5_, ps5, ok5, rfl, hok5, -, -, hb10⟩
 have HY10 := Lib.hid (HY9.out.trans (hb10.mono HY9.out.size))
 have HB10 := Lib.hid (HB9.out.trans (hb10.mono HB9.out.size))
 have HNB10 := Lib.hid ((hb10.block _ l9).trans HNB.out)
 have l10 := (Array.getElem?_eq_some_iff.1 HNB10.out).1
 clear hb10 c3 c4 c5 c6 c7 c8 c9
 cases T2
 · obtain rfl : ok5 = false := hok5
   have HN := Lib.hid (HBAD.out k _ HX.out (by rw [rowN_tree HH.out (by rw [HTX.out]; exact HNG.out)]; dsimp only; rw [HT2.out]; rfl))
   go_wp2_with fail
   exact bodyPost_ret (v := .tuple #[.slice none 0 0, .bool false]) (by simp [results, Tryz.results51, go_sem]) rfl (GotNs.no HN.out HB10.out)
 obtain rfl : ok5 = true := hok5
 have HRW : Hid (rowN x (a', b', s', m', l') = true) := Lib.hid (by rw [rowN_tree HH.out (by rw [HTX.out]; exact HNG.out)]; dsimp only; rw [HT2.out]; rfl)
 have HPR' := Lib.hid (upto_stepI (Q := fun _ q => rowN x q = true) HPR.out HX.out HRW.out)
 have HNN : Hid ((ls.map (nodeP x)).getD k none = some (i', j', z', (a2, b2, s2, m2, l2), d2, n2)) := Lib.hid (by rw [HNP.out, nodeP_some HH.out, HTX.out, HNG.out])
 obtain ⟨cur, hg, hr⟩ := HG.out
 have hg10 := (HY10.out.block _ lo2).trans hg
 have hr10 := hr.below HY10.out
 have hks : k < cur.size := by rw [hr.1]; exact hlt
 have co : w10.cell? ⟨w2.heap.size, k, none⟩ = some _ := block_cell hg10 hks
 have fo : w10.frozen? ⟨w2.heap.size, k, none⟩ = false := block_free hg10 _
 have l2a : w2.heap.size < w10.heap.size := (Array.getElem?_eq_some_iff.1 hg10).1
 have HG' : Hid (∃ cur, (w10.setCell ⟨w2.heap.size, k, none⟩ (.pointer (some ⟨w8.heap.size, 0, none⟩))).heap[w2.heap.size]? = some (.cells cur 69 (0, 0)) ∧ NRow (w10.setCell ⟨w2.heap.size, k, none⟩ (.pointer (some ⟨w8.heap.size, 0, none⟩))) (w2.heap.size + 1) cur len (k + 1) (ls.map (nodeP x))) := Lib.hid
  ⟨_, block_set hg10, ((hr10.put hlt HNN.out (n := (i', j', z', (a2, b2, s2, m2, l2), d2, n2)) (v := .pointer (some ⟨w8.heap.size, 0, none⟩)) ⟨w8.heap.size, rfl, by omega, l10, HNB10.out⟩).keep (fun g h1 _ => heap_far (p := ⟨w2.heap.size, k, none⟩) (by dsimp only; omega)) (by simp [World.setCell]))⟩
 have HBR' : Hid (Below w2.heap.size w2 (w10.setCell ⟨w2.heap.size, k, none⟩ (.pointer (some ⟨w8.heap.size, 0, none⟩)))) := Lib.hid (Below.setCell (p := ⟨w2.heap.size, k, none⟩) (HBR.out.trans (HY10.out.mono (Nat.le_of_lt lo2))) (Nat.le_refl _) _)
 clear hg hr hr10
 go_wp2_with fail
 go_roundw
 case rel => first | exact ⟨k + 1, by omega, by go_num, HPR', HG', HBR'⟩ | ((repeat apply Exists.intro); exact ⟨⟨k + 1, by omega, by go_num, HPR', HG', HBR'⟩, rfl⟩)
 simp [RowKit.intOf]; omega
end Go.Proofs.YtjnhiiaejeaikaaGreatDoor
