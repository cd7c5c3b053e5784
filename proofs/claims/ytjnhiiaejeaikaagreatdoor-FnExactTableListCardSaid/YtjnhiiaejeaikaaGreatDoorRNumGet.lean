/- NumGet both; the reference's reading of a numeral. Condition: the library's variables lie as the row says. -/
import Derived.Test.YtjnhiiaejeaikaaGreatDoorRRecs
import Derived.Test.YtjnhiiaejeaikaaGreatDoorRNum
set_option linter.unnecessarySimpa false
set_option linter.unusedSimpArgs false
set_option linter.unusedVariables false
namespace Go.Proofs.YtjnhiiaejeaikaaGreatDoor
open Go Go.Lib Go.RowKit
def Env (w : World) : Prop := Tab w ∧ (∃ tp p, w.var? Tryz.prog "strconv.ErrSyntax" = some #[.iface tp p]) ∧ ∃ m : Int, w.cell? ⟨0, 0, none⟩ = some (.int .i64 m)
theorem var_below {w w' : World} {v : String} {x : Array Value} (h : w.var? Tryz.prog v = some x) (hb : Below w.heap.size w w') : w'.var? Tryz.prog v = some x := by
 unfold World.var? at *
 cases hg : Tryz.prog.globalNamed v with
 | none => simp [hg] at h
 | some g =>
   simp only [hg, Option.bind_some] at h ⊢
   have hlt : g < w.heap.size := by
    rcases Nat.lt_or_ge g w.heap.size with h' | h'
    · exact h'
    rw [Array.getElem?_eq_none h'] at h; simp at h
   rw [hb.block g hlt]
   exact h
theorem Env.below {w w' : World} (h : Env w) (hb : Below w.heap.size w w') : Env w' := by
 obtain ⟨h1, ⟨tp, p, h2⟩, m, h3⟩ := h
 exact ⟨h1.below hb, ⟨tp, p, var_below h2 hb⟩, m, (hb.cell (World.block_lt_of_cell? _ _ h3)).trans h3⟩
theorem Env.tab {w : World} (h : Env w) : Tab w := h.1
theorem bytesWorld_bel (w : World) (e : TypeId) (s : ByteArray) : Below w.heap.size w (Lib.bytesWorld w e s) := by
 exact ⟨rfl, rfl, rfl, by rw [Lib.bytesWorld_size]; omega, fun k hk => Lib.bytesWorld_at_old w e s k hk⟩
def GotNum (s : Str) (w : World) (e : Ending) (w' : World) : Prop := e = .returned (.tuple #[.int .i64 (((numGet s).getD 0 : Nat) : Int), .bool (numGet s).isSome]) ∧ Below w.heap.size w w'
theorem GotNum.no {s : Str} {w w' : World} (h : numGet s = none) (hb : Below w.heap.size w w') : GotNum s w (.returned (.tuple #[.int .i64 0, .bool false])) w' := ⟨by rw [h]; rfl, hb⟩
theorem GotNum.yes {s : Str} {n : Nat} {w w' : World} (h : numGet s = some n) (hb : Below w.heap.size w w') : GotNum s w (.returned (.tuple #[.int .i64 (n : Int), .bool true])) w' := ⟨by rw [h]; rfl, hb⟩
set_option maxRecDepth 100000 in
set_option maxHeartbeats 2000000 in
theorem numGet_any (s : Str) (w : World) (he : Env w) (hs : s.length ≤ 1099511627776) : Calls Tryz.prog 87 #[.string (strB s)] w (GotNum s w) := by
 have hsz : (strB s).size = s.length := rfl
 by_cases h9 : s.length ≤ 9
 · have h9i : ¬ (9 : Int) < (s.length : Int) := by omega
   go_enter Tryz.func87, Tryz.ntmps87
   go_wp2_with fail
   cases hA : Lib.atoi s with
   | some v =>
     refine (Tryz.strconv_Atoi (strB s) v (by omega) (by rw [show (strB s).data.toList = s by simp [strB]]; exact hA) w).mono ?_
     rintro e w1 ⟨rfl, t, hw1⟩
     have hb1 : Below w.heap.size w w1 := by rw [hw1]; exact bytesWorld_bel _ _ _
     clear hw1
     go_wp2_with fail
     refine (numPut_any v w1 (he.below hb1).tab).mono ?_
     rintro e w2 ⟨rfl, hb2⟩
     have HB := Lib.hid (hb1.trans (hb2.mono hb1.size))
     clear hb1 hb2
     by_cases hn : numS v = s
     · obtain ⟨n, rfl, hg⟩ := numGet_of_atoi hA hn
       have HG := Lib.hid hg
       have hq : ((strB (numS (n : Int))).toList == (strB s).toList) = true := by rw [hn]; simp
       clear hg hA hn
       go_wp2_with fail
       exact bodyPost_ret (v := .tuple #[.int .i64 (n : Int), .bool true]) (by simp [results, Tryz.results87, go_sem]) rfl (GotNum.yes HG.out HB.out)
     have HG := Lib.hid (numGet_not hA hn)
     have hq : ((strB (numS v)).toList == (strB s).toList) = false := by rw [strB_list, strB_list]; simpa using hn
     clear hA hn
     go_wp2_with fail
     exact bodyPost_ret (v := .tuple #[.int .i64 0, .bool false]) (by simp [results, Tryz.results87, go_sem]) rfl (GotNum.no HG.out HB.out)
   | none =>
     obtain ⟨tp, p, hv⟩ := he.2.1
     refine (Tryz.strconv_Atoi_err_var (strB s) (by omega) (by rw [show (strB s).data.toList = s by simp [strB]]; exact hA) tp p w hv).mono ?_
     rintro e w1 ⟨N, rfl, _, _, hb1⟩
     have HG := Lib.hid (numGet_none hA)
     have HB := Lib.hid hb1
     clear hb1 hA
     go_wp2_with fail
     exact bodyPost_ret (v := .tuple #[.int .i64 0, .bool false]) (by simp [results, Tryz.results87, go_sem]) rfl (GotNum.no HG.out HB.out)
 have h9i : (9 : Int) < (s.length : Int) := by omega
 have HG := Lib.hid (numGet_long h9)
 go_enter Tryz.func87, Tryz.ntmps87
 go_wp2_with fail
 exact bodyPost_ret (v := .tuple #[.int .i64 0, .bool false]) (by simp [results, Tryz.results87, go_sem]) rfl (GotNum.no HG.out (Below.refl _ _))
theorem str_get2 {s : Str} {j : Nat} (h : j < (strB s).size) : ∃ (c : UInt8) (x : Nat), s[j]? = some c ∧ x = c.toNat ∧ x < 256 ∧ ((strB s)[j]'h).toNat = x := by
 obtain ⟨c, x, h1, h2, h3, h4⟩ := str_get h
 have e : (strB s).data.toList = s := by simp [strB]
 rw [e] at h1
 exact ⟨c, x, h1, h2, h3, h4⟩
def GotL1 (s : Str) (w : World) (e : Ending) (w' : World) : Prop := ∃ n k : Nat, L1 s n k ∧ n ≤ 999999999 ∧ k ≤ 9 ∧ e = .returned (.tuple #[.int .i64 (n : Int), .int .i64 (k : Int)]) ∧ w = w'
theorem val_take {s : Str} {j : Nat} {c : UInt8} (h : s[j]? = some c) : valF 0 (s.take (j + 1)) = 10 * valF 0 (s.take j) + (c.toNat - 48) := by
 rw [List.take_add_one, h]; exact valF_snoc _ _ _
theorem all_take {s : Str} {j : Nat} {c : UInt8} (h : s[j]? = some c) (hd : isDg c = true) (ha : (s.take j).all isDg = true) : (s.take (j + 1)).all isDg = true := by
 rw [List.take_add_one, h, List.all_append, ha]; simp [hd]
theorem val_bd9 {s : Str} {j : Nat} (hj : j ≤ 9) (ha : (s.take j).all isDg = true) : valF 0 (s.take j) ≤ 999999999 := by
 have h := valF_bd _ ha
 have hl : (s.take j).length ≤ 9 := by rw [List.length_take]; omega
 have : 10 ^ (s.take j).length ≤ 10 ^ 9 := Nat.pow_le_pow_right (by decide) hl
 omega
theorem val_bdj {s : Str} {j : Nat} (hj : j < 9) (ha : (s.take j).all isDg = true) : valF 0 (s.take j) ≤ 99999999 := by
 have h := valF_bd _ ha
 have hl : (s.take j).length ≤ 8 := by rw [List.length_take]; omega
 have : 10 ^ (s.take j).length ≤ 10 ^ 8 := Nat.pow_le_pow_right (by decide) hl
 omega
set_option maxRecDepth 100000 in
set_option maxHeartbeats 4000000 in
theorem l1Num_any (s : Str) (w : World) (hs : s.length ≤ 1099511627776) : Calls Tryz.prog 90 #[.string (strB s)] w (GotL1 s w) := by
 have hsz : (strB s).size = s.length := rfl
 go_enter Tryz.func90, Tryz.ntmps90
 go_wp2_with fail
 go_loopw [4, 5] (fun a i wr => ∃ (j v : Nat), a = .int .i64 (v : Int) ∧ i = .int .i64 (j : Int) ∧ j ≤ 9 ∧ j ≤ s.length ∧ Hid (v = valF 0 (s.take j)) ∧ Hid ((s.take j).all isDg = true) ∧ SameW wr w) (fun _ i _ => 9 - (RowKit.intOf i).toNat)
 case atStart => exact ⟨0, 0, rfl, rfl, by omega, by omega, Lib.hid rfl, Lib.hid rfl, SameW.refl _⟩
 obtain ⟨j, v, rfl, rfl, hj9, hj, HV, HA, hw⟩ := hrel
 have hw := hw.out
 subst hw
 have fin : (j = s.length ∨ j = 9 ∨ ∃ c, s[j]? = some c ∧ isDg c = false) → ∃ (n k : Nat), L1 s n k ∧ n ≤ 999999999 ∧ k ≤ 9 ∧ ((1 < j ∧ s.head? = some 48 ∧ n = 0 ∧ k = 1) ∨ (¬ (1 < j ∧ s.head? = some 48) ∧ n = v ∧ k = j)) := by
  intro hst
  have hv9 : v ≤ 999999999 := by rw [HV.out]; exact val_bd9 hj9 HA.out
  by_cases hz : 1 < j ∧ s.head? = some 48
  · exact ⟨0, 1, ⟨j, hj9, hj, HA.out, hst, .inl ⟨hz.1, hz.2, rfl, rfl⟩⟩, by omega, by omega, .inl ⟨hz.1, hz.2, rfl, rfl⟩⟩
  exact ⟨v, j, ⟨j, hj9, hj, HA.out, hst, .inr ⟨hz, HV.out, rfl⟩⟩, hv9, hj9, .inr ⟨hz, rfl, rfl⟩⟩
 have FIN := Lib.hid fin
 clear fin
 have out : (j = s.length ∨ j = 9 ∨ ∃ c, s[j]? = some c ∧ isDg c = false) → ∃ (n k : Nat) (b : Bool), L1 s n k ∧ n ≤ 999999999 ∧ k ≤ 9 ∧ (1 < j → ∃ (h0 : 0 < (strB s).size) (x : Nat), ((strB s)[0]'h0).toNat = x ∧ x < 256 ∧ ((x : Int) == 48) = b ∧ (b = true → n = 0 ∧ k = 1) ∧ (b = false → n = v ∧ k = j)) ∧ (¬ 1 < j → n = v ∧ k = j) := by
  intro hst
  obtain ⟨n, k, h1, h2, h3, h4⟩ := FIN.out hst
  by_cases h1j : 1 < j
  · have h0 : 0 < (strB s).size := by rw [hsz]; omega
    obtain ⟨c, x, hc, hx, hx2, hg⟩ := str_get2 h0
    have hhead : s.head? = some c := by rw [← hc]; cases s <;> rfl
    refine ⟨n, k, ((x : Int) == 48), h1, h2, h3, fun _ => ⟨h0, x, hg, hx2, rfl, fun hb => ?_, fun hb => ?_⟩, fun h => absurd h1j h⟩
    · rcases h4 with ⟨_, _, r1, r2⟩ | ⟨hz, _, _⟩
      · exact ⟨r1, r2⟩
      exfalso; apply hz
      refine ⟨h1j, ?_⟩
      rw [hhead]
      have : (x : Int) = 48 := by simpa using hb
      have : c.toNat = 48 := by omega
      congr 1
      exact UInt8.toNat_inj.1 this
    rcases h4 with ⟨_, hh, _, _⟩ | ⟨_, r1, r2⟩
    · exfalso
      rw [hhead] at hh
      have : c = 48 := Option.some.inj hh
      rw [hx, this] at hb
      exact absurd hb (by decide)
    exact ⟨r1, r2⟩
  refine ⟨n, k, false, h1, h2, h3, fun h => absurd h h1j, fun _ => ?_⟩
  rcases h4 with ⟨h, _⟩ | ⟨_, r1, r2⟩
  · exact absurd h h1j
  exact ⟨r1, r2⟩
 have OUT := Lib.hid out
 clear out
 have leave : ∀ (n k : Nat), L1 s n k → n ≤ 999999999 → k ≤ 9 → GotL1 s wr (.returned (.tuple #[.int .i64 (n : Int), .int .i64 (k : Int)])) wr := fun n k h1 h2 h3 => ⟨n, k, h1, h2, h3, rfl, rfl⟩
 have LEAVE := Lib.hid leave
 clear leave
 by_cases hl : j < s.length
 · have hli : (j : Int) < (s.length : Int) := by omega
   by_cases h9 : j < 9
   · have h9i : (j : Int) < 9 := by omega
     have hlt : j < (strB s).size := by rw [hsz]; exact hl
     obtain ⟨c, x, hc, hx, hx2, hg⟩ := str_get2 hlt
     by_cases hdg : 48 ≤ x ∧ x ≤ 57
     · obtain ⟨hd1, hd2⟩ := hdg
       have hd1i : (48 : Int) ≤ (x : Int) := by omega
       have hd2i : (x : Int) ≤ 57 := by omega
       have hdc : isDg c = true := isDg_iff.2 (by omega)
       have HV2 : Hid (10 * v + (x - 48) = valF 0 (s.take (j + 1))) := Lib.hid (by rw [val_take hc, HV.out, hx])
       have HA2 := Lib.hid (all_take hc hdc HA.out)
       have hv8 : v ≤ 99999999 := by rw [HV.out]; exact val_bdj h9 HA.out
       obtain ⟨y, hy⟩ : ∃ y : Nat, y = x - 48 := ⟨_, rfl⟩
       rw [← hy] at HV2
       have t1 : IntKind.u8.wrap ((x : Int) - 48) = (y : Int) := by rw [IntWalk.u8_in _ (by omega)]; omega
       have t2 : IntKind.i64.wrap (y : Int) = (y : Int) := IntWalk.i64_in _ (by omega)
       have t3 : IntKind.i64.wrap (10 * (v : Int)) = 10 * (v : Int) := IntWalk.i64_in _ (by omega)
       have t4 : IntKind.i64.wrap (10 * (v : Int) + (y : Int)) = ((10 * v + y : Nat) : Int) := by rw [IntWalk.i64_in _ (by omega)]; omega
       have hy9 : y ≤ 9 := by omega
       clear hc hx hdc HA HV FIN OUT hy
       go_wp2_with fail
       go_roundw
       case rel => exact ⟨j + 1, 10 * v + y, by first | rfl | simp, by simp, by omega, by omega, HV2, HA2, SameW.refl _⟩
       simp [RowKit.intOf]; omega
     have hdc : isDg c = false := by
      cases h : isDg c with
      | false => rfl
      | true => exact absurd (by have := isDg_iff.1 h; omega) hdg
     have hsplit : (¬ (48 : Int) ≤ (x : Int)) ∨ ((48 : Int) ≤ (x : Int) ∧ ¬ (x : Int) ≤ 57) := by clear OUT FIN LEAVE hg; omega
     obtain ⟨n, k, b, h1, h2, h3, h4, h5⟩ := OUT.out (.inr (.inr ⟨c, hc, hdc⟩))
     have HL := Lib.hid (LEAVE.out n k h1 h2 h3)
     clear h1 h2 h3 OUT FIN hc hx hdc HA HV LEAVE
     by_cases h1j : 1 < j
     · have h1ji : (1 : Int) < (j : Int) := by omega
       obtain ⟨h0, x0, hg0, hx0, hb, hbt, hbf⟩ := h4 h1j
       clear h4 h5 hdg
       cases b
       · obtain ⟨rfl, rfl⟩ := hbf rfl
         clear hbt hbf
         rcases hsplit with hd | ⟨hd, hd'⟩
         · go_wp2_with fail
           exact bodyPost_ret (v := .tuple #[.int .i64 (n : Int), .int .i64 (k : Int)]) (by simp [results, Tryz.results90, go_sem]) rfl HL.out
         go_wp2_with fail
         exact bodyPost_ret (v := .tuple #[.int .i64 (n : Int), .int .i64 (k : Int)]) (by simp [results, Tryz.results90, go_sem]) rfl HL.out
       obtain ⟨rfl, rfl⟩ := hbt rfl
       clear hbt hbf
       rcases hsplit with hd | ⟨hd, hd'⟩
       · go_wp2_with fail
         exact bodyPost_ret (v := .tuple #[.int .i64 0, .int .i64 1]) (by simp [results, Tryz.results90, go_sem]) rfl HL.out
       go_wp2_with fail
       exact bodyPost_ret (v := .tuple #[.int .i64 0, .int .i64 1]) (by simp [results, Tryz.results90, go_sem]) rfl HL.out
     have h1ji : ¬ (1 : Int) < (j : Int) := by omega
     obtain ⟨rfl, rfl⟩ := h5 h1j
     clear h4 h5 hdg
     rcases hsplit with hd | ⟨hd, hd'⟩
     · go_wp2_with fail
       exact bodyPost_ret (v := .tuple #[.int .i64 (n : Int), .int .i64 (k : Int)]) (by simp [results, Tryz.results90, go_sem]) rfl HL.out
     go_wp2_with fail
     exact bodyPost_ret (v := .tuple #[.int .i64 (n : Int), .int .i64 (k : Int)]) (by simp [results, Tryz.results90, go_sem]) rfl HL.out
   have h9i : ¬ (j : Int) < 9 := by omega
   obtain ⟨n, k, b, h1, h2, h3, h4, h5⟩ := OUT.out (.inr (.inl (by omega)))
   have HL := Lib.hid (LEAVE.out n k h1 h2 h3)
   have h1j : 1 < j := by omega
   have h1ji : (1 : Int) < (j : Int) := by omega
   obtain ⟨h0, x0, hg0, hx0, hb, hbt, hbf⟩ := h4 h1j
   clear h1 h2 h3 h4 h5 OUT FIN HA HV LEAVE
   cases b
   · obtain ⟨rfl, rfl⟩ := hbf rfl
     clear hbt hbf
     go_wp2_with fail
     exact bodyPost_ret (v := .tuple #[.int .i64 (n : Int), .int .i64 (k : Int)]) (by simp [results, Tryz.results90, go_sem]) rfl HL.out
   obtain ⟨rfl, rfl⟩ := hbt rfl
   clear hbt hbf
   go_wp2_with fail
   exact bodyPost_ret (v := .tuple #[.int .i64 0, .int .i64 1]) (by simp [results, Tryz.results90, go_sem]) rfl HL.out
 have hli : ¬ (j : Int) < (s.length : Int) := by omega
 obtain ⟨n, k, b, h1, h2, h3, h4, h5⟩ := OUT.out (.inl (by omega))
 have HL := Lib.hid (LEAVE.out n k h1 h2 h3)
 clear h1 h2 h3 OUT FIN HA HV LEAVE
 by_cases h1j : 1 < j
 · have h1ji : (1 : Int) < (j : Int) := by omega
   obtain ⟨h0, x0, hg0, hx0, hb, hbt, hbf⟩ := h4 h1j
   clear h4 h5
   cases b
   · obtain ⟨rfl, rfl⟩ := hbf rfl
     clear hbt hbf
     go_wp2_with fail
     exact bodyPost_ret (v := .tuple #[.int .i64 (n : Int), .int .i64 (k : Int)]) (by simp [results, Tryz.results90, go_sem]) rfl HL.out
   obtain ⟨rfl, rfl⟩ := hbt rfl
   clear hbt hbf
   go_wp2_with fail
   exact bodyPost_ret (v := .tuple #[.int .i64 0, .int .i64 1]) (by simp [results, Tryz.results90, go_sem]) rfl HL.out
 have h1ji : ¬ (1 : Int) < (j : Int) := by omega
 obtain ⟨rfl, rfl⟩ := h5 h1j
 clear h4 h5
 go_wp2_with fail
 exact bodyPost_ret (v := .tuple #[.int .i64 (n : Int), .int .i64 (k : Int)]) (by simp [results, Tryz.results90, go_sem]) rfl HL.out
set_option maxRecDepth 100000 in
set_option maxHeartbeats 2000000 in
theorem spNumGet_any (s : Str) (w : World) (hs : s.length ≤ 1099511627776) : Calls Tryz.prog 76 #[.string (strB s)] w (GotNum s w) := by
 have hsz : (strB s).size = s.length := rfl
 go_enter Tryz.func76, Tryz.ntmps76
 go_wp2_with fail
 refine (l1Num_any s w hs).mono ?_
 rintro e w1 ⟨n, k, h1, h2, h3, rfl, rfl⟩
 by_cases h0 : k = 0
 · have HG := Lib.hid (L1_not h1 (.inl h0))
   subst h0
   clear h1
   go_wp2_with fail
   exact bodyPost_ret (v := .tuple #[.int .i64 0, .bool false]) (by simp [results, Tryz.results76, go_sem]) rfl (GotNum.no HG.out (Below.refl _ _))
 have h0b : ((k : Int) == 0) = false := by simp; omega
 have h0c : ¬ (k : Int) = 0 := by omega
 by_cases hl : k = s.length
 · have HG := Lib.hid (L1_num h1 h0 hl)
   subst hl
   have hlb : ((s.length : Int) == (s.length : Int)) = true := by simp
   clear h1
   go_wp2_with fail
   exact bodyPost_ret (v := .tuple #[.int .i64 (n : Int), .bool true]) (by simp [results, Tryz.results76, go_sem]) rfl (GotNum.yes HG.out (Below.refl _ _))
 have HG := Lib.hid (L1_not h1 (.inr hl))
 have hlb : ((k : Int) == (s.length : Int)) = false := by simp; omega
 have hlc : ¬ (k : Int) = (s.length : Int) := by omega
 clear h1
 go_wp2_with fail
 exact bodyPost_ret (v := .tuple #[.int .i64 0, .bool false]) (by simp [results, Tryz.results76, go_sem]) rfl (GotNum.no HG.out (Below.refl _ _))
end Go.Proofs.YtjnhiiaejeaikaaGreatDoor
