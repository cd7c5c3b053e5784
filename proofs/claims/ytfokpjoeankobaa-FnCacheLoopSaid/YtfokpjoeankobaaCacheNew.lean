/- CacheNew, the program's and the reference's; marks on an empty cache. No condition. -/
import Derived.Test.YtfokpjoeankobaaFamEq
import Derived.Test.YtfokpjoeankobaaTypes
namespace Go.Proofs.Ytfokpjoeankobaa
set_option linter.unusedVariables false
set_option linter.unusedSimpArgs false
set_option linter.unnecessarySimpa false
open Go.RowKit

def roomOf (x : Int) : Int := if inB x 1 8 = true then x else 0
/-- The reference's new cache. -/
def SpNew (x : Int) (w : World) (e : Ending) (w' : World) : Prop :=
  ∃ A B C D, e = .returned (.tuple #[.agg #[.int .i64 (roomOf x), .int .i64 0, .slice A 0 0, .slice B 0 0, .slice C 0 0, .slice D 0 0], .bool (inB x 1 8)]) ∧ Below w.heap.size w w'
theorem noInts {w : World} {A : Option Addr} : SliceR IntR 1 w 0 0 A 0 0 [] := ⟨rfl, Nat.le_refl _, Nat.zero_le _, Nat.zero_le _, fun _ => rfl, fun h => absurd h (Nat.lt_irrefl _)⟩
theorem noCache {w : World} {r : Int} {A B C D : Option Addr} : CacheR w 0 0 [.int .i64 r, .int .i64 0, .slice A 0 0, .slice B 0 0, .slice C 0 0, .slice D 0 0] (r, 0, [], [], [], []) :=
  ⟨_, _, _, _, _, _, _, _, _, _, _, _, rfl, noInts, noInts, noInts, noInts⟩
theorem Quiet.nil_below {w w' : World} (h : Quiet w w') : Below w.heap.size w w' := h.below _
theorem Chg.nil_below {w w' : World} (h : Chg (· ∈ ([] : List Nat)) w w') : Below w.heap.size w w' := h.below (fun _ _ hk => by simp at hk) (Nat.le_refl _)

set_option maxRecDepth 100000 in
set_option maxHeartbeats 1000000 in
theorem cacheNew_any (x : Int) (w : World) : Calls Try.prog 6 #[.int .i64 x] w fun e w' => e = .returned (.tuple #[.agg #[.int .i64 (roomOf x), .int .i64 0, .slice none 0 0, .slice none 0 0, .slice none 0 0, .slice none 0 0], .bool (inB x 1 8)]) ∧ Below w.heap.size w w' := by
  cases hb : inB x 1 8
  all_goals
    have HR := Lib.hid (show roomOf x = if inB x 1 8 = true then x else 0 from rfl)
    rw [hb] at HR
    have HB := Lib.hid hb; clear hb
    go_enter Try.func6, Try.ntmps6
    go_wp2_with fail
    refine (within_any _ _ _ _).mono ?_
    rw [HB.out]
    rintro e w' ⟨rfl, rfl⟩
    go_wp2_with fail
  · exact bodyPost_ret (v := .tuple #[.agg #[.int .i64 0, .int .i64 0, .slice none 0 0, .slice none 0 0, .slice none 0 0, .slice none 0 0], .bool false]) (by simp [results, Try.results6, go_sem]) rfl ⟨by rw [HR.out]; rfl, by repeat (first | exact Below.refl _ _ | refine Below.setCell ?_ (by simp <;> omega) _ | refine Below.alloc ?_ (by simp <;> omega) _)⟩
  · exact bodyPost_ret (v := .tuple #[.agg #[.int .i64 x, .int .i64 0, .slice none 0 0, .slice none 0 0, .slice none 0 0, .slice none 0 0], .bool true]) (by simp [results, Try.results6, go_sem]) rfl ⟨by rw [HR.out]; rfl, by repeat (first | exact Below.refl _ _ | refine Below.setCell ?_ (by simp <;> omega) _ | refine Below.alloc ?_ (by simp <;> omega) _)⟩

set_option maxRecDepth 100000 in
set_option maxHeartbeats 1000000 in
theorem spCacheNew_any (x : Int) (w : World) : Calls Try.prog 7 #[.int .i64 x] w (SpNew x w) := by
  cases hb : inB x 1 8
  all_goals
    have HR := Lib.hid (show roomOf x = if inB x 1 8 = true then x else 0 from rfl)
    rw [hb] at HR
    have HB := Lib.hid hb; clear hb
    go_enter Try.func7, Try.ntmps7
    go_wp2_with fail
    refine (l6In_any _ _ _ _).mono ?_
    rw [HB.out]
    rintro e w' ⟨rfl, rfl⟩
    go_wp2_with fail
  · exact bodyPost_ret (v := .tuple #[.agg #[.int .i64 0, .int .i64 0, .slice none 0 0, .slice none 0 0, .slice none 0 0, .slice none 0 0], .bool false]) (by simp [results, Try.results7, go_sem]) rfl ⟨_, _, _, _, by rw [HB.out, HR.out]; rfl, by repeat (first | exact Below.refl _ _ | refine Below.setCell ?_ (by simp <;> omega) _ | refine Below.alloc ?_ (by simp <;> omega) _)⟩
  · exact bodyPost_ret (v := .tuple #[.agg #[.int .i64 x, .int .i64 0, .slice (some ⟨w.heap.size + 1, 0, none⟩) 0 0, .slice (some ⟨w.heap.size + 1 + 1, 0, none⟩) 0 0, .slice (some ⟨w.heap.size + 1 + 1 + 1, 0, none⟩) 0 0, .slice (some ⟨w.heap.size + 1 + 1 + 1 + 1, 0, none⟩) 0 0], .bool true]) (by simp [results, Try.results7, go_sem]) rfl ⟨_, _, _, _, by rw [HB.out, HR.out]; rfl, by repeat (first | exact Below.refl _ _ | refine Below.setCell ?_ (by simp <;> omega) _ | refine Below.alloc ?_ (by simp <;> omega) _)⟩



end Go.Proofs.Ytfokpjoeankobaa
