/- The texts of dead references, of the program and of the reference. Condition: the table of powers lies as its initialiser lays it. -/
import Derived.Test.YtlacpcdbgimnmaaDoorPtrPut
import Derived.Test.YtlacpcdbgimnmaaDoorTreeF
import Derived.Test.YtlacpcdbgimnmaaDoorTypes
namespace Go.Proofs.YtlacpcdbgimnmaaDoor
set_option linter.unnecessarySimpa false
open Go Go.Lib Go.RowKit
set_option linter.unusedVariables false
set_option linter.unusedSimpArgs false

def goodD (p : PtrD) : Bool := ptrOkB p.1 p.2.1 p.2.2.1 p.2.2.2.1 p.2.2.2.2 && !ptrHole p.1 p.2.1 p.2.2.1 p.2.2.2.1 p.2.2.2.2
def ptrSD (p : PtrD) : Str := ptrS p.1 p.2.1 p.2.2.1 p.2.2.2.1 p.2.2.2.2
/-- The text of a list of dead references, and whether there is one. -/
def deadF (ps : List PtrD) : Str × Bool := if ps.all goodD = true then (join (ps.map ptrSD) [44], true) else ([], false)
theorem all_noD {α : Type} {f : α → Bool} {xs : List α} {k : Nat} {x : α} (hx : xs[k]? = some x) (h : f x = false) : xs.all f = false := by
  rw [List.all_eq_false]; exact ⟨x, List.mem_of_getElem? hx, by simp [h]⟩
theorem all_uptoD {α : Type} {f : α → Bool} {xs : List α} {n : Nat} (hn : xs.length = n) (h : ∀ j x, j < n → xs[j]? = some x → f x = true) : xs.all f = true := by
  rw [List.all_eq_true]; intro x hx
  obtain ⟨j, hj, rfl⟩ := List.mem_iff_getElem.1 hx
  exact h j _ (by omega) (List.getElem?_eq_getElem hj)
theorem upto_stepD {α : Type} {f : α → Bool} {xs : List α} {k : Nat} {x : α} (hp : ∀ j y, j < k → xs[j]? = some y → f y = true) (hx : xs[k]? = some x) (h : f x = true) : ∀ j y, j < k + 1 → xs[j]? = some y → f y = true := by
  intro j y hj hy
  rcases Nat.lt_or_ge j k with h2 | h2
  · exact hp j y h2 hy
  · obtain rfl : j = k := by omega
    rw [hx] at hy; obtain rfl := Option.some.inj hy; exact h
theorem deadF_no {ps : List PtrD} {k : Nat} {p : PtrD} (hx : ps[k]? = some p) (h : goodD p = false) : deadF ps = ([], false) := by unfold deadF; rw [all_noD hx h]; rfl
theorem join_len (xs : List Str) (sep : Str) (M : Nat) (hM : ∀ x ∈ xs, x.length ≤ M) : (join xs sep).length ≤ xs.length * (M + sep.length) := by
  cases xs with
  | nil => simp [join]
  | cons y ys =>
    rw [join_cons]
    have h : ∀ zs : List Str, (∀ x ∈ zs, x.length ≤ M) → (joinTail sep zs).length ≤ zs.length * (M + sep.length) := by
      intro zs
      induction zs with
      | nil => intro _; simp [joinTail]
      | cons z zs ih =>
        intro hz
        have h1 := hz z (by simp)
        have h2 := ih (fun x hx => hz x (by simp [hx]))
        simp only [joinTail, List.map_cons, List.flatten_cons, List.length_append, List.length_cons] at h2 ⊢
        rw [Nat.succ_mul]
        omega
    have h1 := hM y (by simp)
    have h2 := h ys (fun x hx => hM x (by simp [hx]))
    rw [List.length_append, List.length_cons, Nat.succ_mul]
    omega
theorem join_snocD (xs : List Str) (x sep : Str) (h : xs ≠ []) : join (xs ++ [x]) sep = join xs sep ++ sep ++ x := by
  cases xs with
  | nil => exact absurd rfl h
  | cons y ys =>
    rw [List.cons_append, join_cons, join_cons]
    simp [joinTail]
def DeadR (ps : List PtrD) (w : World) (e : Ending) (w' : World) : Prop := e = .returned (.tuple #[.string (strB (deadF ps).1), .bool (deadF ps).2]) ∧ Below w.heap.size w w'
theorem goodD_parts {p : PtrD} {a b s m l : Int} (hp : p = (a, b, s, m, l)) (h1 : ptrOkB a b s m l = true) (h2 : ptrHole a b s m l = false) : goodD p = true := by subst hp; unfold goodD; simp [h1, h2]
set_option maxRecDepth 100000 in
set_option maxHeartbeats 4000000 in
theorem deadText_any (A : Option Addr) (n c : Nat) (ps : List PtrD) (w : World) (lo hi : Nat) (ht : Tab w) (h : SliceR PtrR 5 w lo hi A n c ps) (hn : n ≤ 2000000) :
    Calls Tryd.prog 37 #[.slice A n c] w (DeadR ps w) := by
  obtain ⟨i0, hi0, hz0, hz1, hz2⟩ := info_parts info_strs
  have HL := Lib.hid h.len
  have H := Lib.hid h; have HT := Lib.hid ht; clear h ht
  go_enter Tryd.func37, Tryd.ntmps37
  go_wp2_with fail
  go_loopw [4, 9] (fun t i wr => ∃ (k : Nat) (C : Option Addr) (m e : Nat), k ≤ n ∧ i = .int .i64 (k : Int) ∧ t = .slice C m e ∧ m = k ∧ Hid (∀ j p, j < k → ps[j]? = some p → goodD p = true) ∧ Hid (StrsIn w.heap.size wr C e ((ps.take k).map ptrSD)) ∧ Hid (Below w.heap.size w wr)) (fun _ i _ => n - (RowKit.intOf i).toNat)
  case atStart => exact ⟨0, none, 0, 0, Nat.zero_le _, rfl, rfl, rfl, Lib.hid (fun j p hj => absurd hj (by omega)), Lib.hid (by simpa using StrsIn.nil), Lib.hid (Below.refl _ _)⟩
  case round =>
    obtain ⟨k, C, m, e, hk, rfl, rfl, hmk, HP, HI, HB⟩ := hrel
    subst hmk
    by_cases hlt : m < n
    · obtain ⟨p, hp⟩ : ∃ x, ps[m]? = some x := ⟨ps[m]'(by rw [HL.out]; exact hlt), List.getElem?_eq_getElem _⟩
      obtain ⟨b_, off, rfl, _, _, bl, hc⟩ := (SliceR.below H.out HB.out (PtrR.below HB.out H.out.lo_le)).at_ (by omega)
      obtain ⟨cs, hcl, hcc, hr⟩ := hc m p hp
      have HX := Lib.hid hp; clear hp hc
      obtain ⟨a, b, s, q, l⟩ := p
      obtain rfl := hr
      have q0 := hcc 0 _ rfl; have q1 := hcc 1 _ rfl; have q2 := hcc 2 _ rfl; have q3 := hcc 3 _ rfl; have q4 := hcc 4 _ rfl
      simp only [Nat.add_zero] at q0
      clear hcc hcl
      have k0 : (0 : Int) ≤ (m : Int) := by omega
      have k1 : (m : Int) < (n : Int) := by omega
      obtain ⟨w2, hw2⟩ : ∃ W, W = wr.alloc (.cells #[.int .i64 a, .int .i64 b, .int .i64 s, .int .i64 q, .int .i64 l] 43) := ⟨_, rfl⟩
      have HY2 : Hid (Below wr.heap.size wr w2) := Lib.hid (by rw [hw2]; exact bel1)
      have hbx : Hid (w2.heap[wr.heap.size]? = some (.cells #[.int .i64 a, .int .i64 b, .int .i64 s, .int .i64 q, .int .i64 l] 43 (0, 0))) := Lib.hid (by rw [hw2]; exact heap_alloc_new _ _)
      go_wp2_with fail
      rw [← hw2]
      clear hw2 q0 q1 q2 q3 q4
      have x0 := cell_of_row _ _ 0 _ _ (0, 0) hbx.out; have x1 := cell_of_row _ _ 1 _ _ (0, 0) hbx.out; have x2 := cell_of_row _ _ 2 _ _ (0, 0) hbx.out; have x3 := cell_of_row _ _ 3 _ _ (0, 0) hbx.out; have x4 := cell_of_row _ _ 4 _ _ (0, 0) hbx.out
      have l2x := (Array.getElem?_eq_some_iff.1 hbx.out).1
      go_wp2_with fail
      refine (ptrOk_any a b s q l _).mono ?_
      rintro e_ w3 ⟨rfl, hb3⟩
      have HY3 := Lib.hid (HY2.out.trans (hb3.mono HY2.out.size))
      have hbx3 := Lib.hid ((hb3.block _ l2x).trans hbx.out)
      clear hb3 HY2 hbx x0 x1 x2 x3 x4 l2x
      have HNO : Hid (goodD (a, b, s, q, l) = false → deadF ps = ([], false)) := Lib.hid (fun h => deadF_no HX.out h)
      have x0 := cell_of_row _ _ 0 _ _ (0, 0) hbx3.out; have x1 := cell_of_row _ _ 1 _ _ (0, 0) hbx3.out; have x2 := cell_of_row _ _ 2 _ _ (0, 0) hbx3.out; have x3 := cell_of_row _ _ 3 _ _ (0, 0) hbx3.out; have x4 := cell_of_row _ _ 4 _ _ (0, 0) hbx3.out
      have l3x := (Array.getElem?_eq_some_iff.1 hbx3.out).1
      cases e1 : ptrOkB a b s q l
      · have HN := Lib.hid (HNO.out (by unfold goodD; simp [e1]))
        clear HNO
        go_wp2_with fail
        exact bodyPost_ret (v := .tuple #[.string ⟨#[]⟩, .bool false]) (by simp [results, Tryd.results37, go_sem]) rfl ⟨by rw [HN.out]; rfl, HB.out.trans (HY3.out.mono HB.out.size)⟩
      go_wp2_with fail
      refine (ptrHole_any a b s q l _).mono ?_
      rintro e_ w4 ⟨rfl, hb4⟩
      have HY4 := Lib.hid (HY3.out.trans (hb4.mono HY3.out.size))
      have hbx4 := Lib.hid ((hb4.block _ l3x).trans hbx3.out)
      clear hb4 HY3 hbx3 x0 x1 x2 x3 x4 l3x
      have x0 := cell_of_row _ _ 0 _ _ (0, 0) hbx4.out; have x1 := cell_of_row _ _ 1 _ _ (0, 0) hbx4.out; have x2 := cell_of_row _ _ 2 _ _ (0, 0) hbx4.out; have x3 := cell_of_row _ _ 3 _ _ (0, 0) hbx4.out; have x4 := cell_of_row _ _ 4 _ _ (0, 0) hbx4.out
      have l4x := (Array.getElem?_eq_some_iff.1 hbx4.out).1
      cases e2 : ptrHole a b s q l
      rotate_left
      · have HN := Lib.hid (HNO.out (by unfold goodD; simp [e2]))
        clear HNO
        go_wp2_with fail
        exact bodyPost_ret (v := .tuple #[.string ⟨#[]⟩, .bool false]) (by simp [results, Tryd.results37, go_sem]) rfl ⟨by rw [HN.out]; rfl, HB.out.trans (HY4.out.mono HB.out.size)⟩
      have HPN := Lib.hid (upto_stepD HP.out HX.out (goodD_parts rfl e1 e2))
      clear e1 e2 HNO
      go_wp2_with fail
      refine (ptrPut_any a b s q l _ (HT.out.below (HB.out.trans (HY4.out.mono HB.out.size)))).mono ?_
      unfold TextR
      rintro e_ w5 ⟨rfl, hb5⟩
      have HY5 := Lib.hid (HY4.out.trans (hb5.mono HY4.out.size))
      clear hb5 HY4 hbx4 x0 x1 x2 x3 x4 l4x
      obtain ⟨x, hx⟩ : ∃ x, x = ptrS a b s q l := ⟨_, rfl⟩
      rw [← hx]
      obtain ⟨S, hOS, hSB⟩ := HI.out.below HY5.out
      have hlen : ((ps.take m).map ptrSD).length = m := by rw [List.length_map, List.length_take, HL.out]; omega
      rw [hlen] at hOS
      obtain ⟨gs, hgs⟩ : ∃ gs, gs = (ps.take m).map ptrSD := ⟨_, rfl⟩
      rw [← hgs] at hOS hlen
      have HGS := Lib.hid hgs
      have HXX : Hid ((ps.take (m + 1)).map ptrSD = gs ++ [x]) := Lib.hid (by rw [List.take_add_one, HX.out, List.map_append, hgs, hx]; rfl)
      clear hgs hx
      have HOA := Lib.hid (hOS.below (bel1 (o := .cells #[.string (strB x)] 9)))
      have HLIT := Lib.hid (fun (W : World) => RowAt.lit (w := W) (e := 9) (cur := #[.string (strB x)]) (m := 1) rfl)
      have HONE : Hid (∀ u ∈ [x].map strV, u.oneCell' = true) := Lib.hid (strs_one _)
      have HSB := Lib.hid hSB
      have HB5 := Lib.hid (HB.out.trans (HY5.out.mono HB.out.size))
      clear hOS hSB HB HI HY5
      go_wp2_with (at_builtin; go_must (refine wpList_append_row rfl _ _ 40 rfl 9 i0 (.string ByteArray.empty) 1 16 Tryd.underlying40 hi0 hz0 hz1 hz2 rfl (by decide) S C _ m e 1 _ (gs.map strV) ([x].map strV) rfl rfl HOA.out (HLIT.out _) HONE.out (by unfold maxLen; omega) (by omega) ?_))
      intro A' c' S' w6 hO' hS' hC'
      obtain ⟨hI6, hb6⟩ := app_strs (B := w.heap.size) HSB.out (w1 := w5.alloc (.cells #[.string (strB x)] 9)) (fs := gs) (gs := [x]) (by have := HB5.out.size; simp; omega) (by rw [List.length_append, hlen, List.length_singleton]) hO' (fun g hg => (hS' g hg).imp id (fun h => by simpa using h)) hC'
      have HB6 : Hid (Below w.heap.size w w6) := Lib.hid (HB5.out.trans (((Below.refl _ _).alloc HB5.out.size _).trans hb6))
      have HI6 : Hid (StrsIn w.heap.size w6 A' c' ((ps.take (m + 1)).map ptrSD)) := Lib.hid (by rw [HXX.out]; exact hI6)
      clear hI6 hb6 hO' hS' hC' HOA HLIT HONE HSB HB5 hlen
      go_wp2_with fail
      go_roundw
      case rel => exact ⟨m + 1, A', m + 1, c', by omega, by go_num, rfl, rfl, HPN, HI6, HB6⟩
      case measure => simp [RowKit.intOf]; omega
    · obtain rfl : m = n := by omega
      have hT : ps.take m = ps := List.take_of_length_le (by rw [HL.out]; exact Nat.le_refl _)
      have HF : Hid (deadF ps = (join (ps.map ptrSD) [44], true)) := Lib.hid (by unfold deadF; rw [if_pos (all_uptoD HL.out HP.out)])
      have hI := HI.out
      rw [hT] at hI
      have hlen : (ps.map ptrSD).length = m := by rw [List.length_map, HL.out]
      by_cases hm0 : m = 0
      · subst hm0
        have hp0 : ps = [] := List.eq_nil_of_length_eq_zero HL.out
        have HF2 : Hid (deadF ps = ([], true)) := Lib.hid (by rw [HF.out, hp0]; rfl)
        have HJ := Lib.hid (Tryd.strings_Join_none C e ⟨#[44]⟩ wr)
        clear hI hT
        go_wp2_with fail
        refine HJ.out.mono ?_
        rintro e_ w5 ⟨rfl, rfl⟩
        go_wp2_with fail
        exact bodyPost_ret (v := .tuple #[.string ⟨#[]⟩, .bool true]) (by simp [results, Tryd.results37, go_sem]) rfl ⟨by rw [HF2.out]; rfl, HB.out⟩
      obtain ⟨y0, hy0⟩ : ∃ y, (ps.map ptrSD)[0]? = some y := ⟨(ps.map ptrSD)[0]'(by omega), List.getElem?_eq_getElem _⟩
      obtain ⟨g2, rfl, hg2, _⟩ := hI.cell hy0
      have hcs : ∀ (j : Nat) x, ((ps.map ptrSD).map strB)[j]? = some x → wr.cell? ⟨g2, 0 + j, none⟩ = some (.string x) := by
        intro j x hx
        rw [List.getElem?_map] at hx
        obtain ⟨y, hy, rfl⟩ := Option.map_eq_some_iff.1 hx
        obtain ⟨g3, e3, _, hc3⟩ := hI.cell hy
        injection e3 with e3; injection e3 with e3
        subst e3
        rw [Nat.zero_add]; exact hc3
      have hcap : m ≤ e := by have := hI.le; rwa [hlen] at this
      have hmap : ((ps.map ptrSD).map strB).map (·.data.toList) = ps.map ptrSD := by rw [List.map_map]; exact (List.map_congr_left (fun x _ => by simp [strB])).trans (List.map_id _)
      have hjl : (join (ps.map ptrSD) [44]).length ≤ 140737488355328 := by
        have h1 := join_len (ps.map ptrSD) [44] 60 (fun x hx => by obtain ⟨p, _, rfl⟩ := List.mem_map.1 hx; exact ptrS_len _ _ _ _ _)
        rw [hlen] at h1
        simp at h1
        omega
      have HJ := Tryd.strings_Join g2 0 e ((ps.map ptrSD).map strB) ⟨#[44]⟩ wr hcs hg2 (by rw [List.length_map, hlen]; omega) (by rw [List.length_map, hlen]; exact hcap) (by rw [hmap]; exact hjl)
      rw [hmap, List.length_map, hlen] at HJ
      have HJ := Lib.hid HJ
      clear hI hcs hcap hmap hjl hy0 hT
      go_wp2_with fail
      refine HJ.out.mono ?_
      rintro e_ w5 ⟨rfl, hb5⟩
      have HB5 := Lib.hid (HB.out.trans (hb5.mono HB.out.size))
      clear hb5
      go_wp2_with fail
      exact bodyPost_ret (v := .tuple #[.string (strB (join (ps.map ptrSD) [44])), .bool true]) (by simp [results, Tryd.results37, go_sem, strB]) rfl ⟨by rw [HF.out], HB5.out⟩
end Go.Proofs.YtlacpcdbgimnmaaDoor
