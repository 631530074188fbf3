/-
  The walks of leaps, Leap, leapYear, length, before, begins and seconds of the reference.
-/
import Derived.Test.YtmgehfakcnmdnaaDoorMWalk2
namespace Go.Proofs.YtmgehfakcnmdnaaDoor
namespace Mw
open Go.RowKit Mp Lw

def julV : Array Value := #[.int .i64 1972, .int .i64 1981, .int .i64 1982, .int .i64 1983, .int .i64 1985, .int .i64 1992, .int .i64 1993, .int .i64 1994, .int .i64 1997, .int .i64 2012, .int .i64 2015]
theorem one_jul : julV.all (·.oneCell') = true := by simp [julV, Value.oneCell']
theorem julV_at (k : Nat) (hk : k < 11) : julV[k]? = some (.int .i64 (julAt k)) := by
  unfold julAt
  have : julV = (julL.map (Value.int .i64)).toArray := rfl
  rw [this]
  simp [List.getD, List.getElem?_eq_getElem (show k < julL.length from hk)]
theorem info_jul : (Tryd.prog.info? 79).map (·.size) = some 11 := by kernel_rfl

def janV : Array Value := #[.int .i64 1973, .int .i64 1974, .int .i64 1975, .int .i64 1976, .int .i64 1977, .int .i64 1978, .int .i64 1979, .int .i64 1980, .int .i64 1988, .int .i64 1990, .int .i64 1991, .int .i64 1996, .int .i64 1999, .int .i64 2006, .int .i64 2009, .int .i64 2017]
theorem one_jan : janV.all (·.oneCell') = true := by simp [janV, Value.oneCell']
theorem janV_at (k : Nat) (hk : k < 16) : janV[k]? = some (.int .i64 (janAt k)) := by
  unfold janAt
  have : janV = (janL.map (Value.int .i64)).toArray := rfl
  rw [this]
  simp [List.getD, List.getElem?_eq_getElem (show k < janL.length from hk)]
theorem info_jan : (Tryd.prog.info? 80).map (·.size) = some 16 := by kernel_rfl

def lenV : Array Value := #[.int .i64 0, .int .i64 31, .int .i64 28, .int .i64 31, .int .i64 30, .int .i64 31, .int .i64 30, .int .i64 31, .int .i64 31, .int .i64 30, .int .i64 31, .int .i64 30, .int .i64 31]
theorem one_len : lenV.all (·.oneCell') = true := by simp [lenV, Value.oneCell']
theorem lenV_at (k : Nat) (hk : k < 13) : lenV[k]? = some (.int .i64 (lenAt k)) := by
  unfold lenAt
  have : lenV = (lenL.map (Value.int .i64)).toArray := rfl
  rw [this]
  simp [List.getD, List.getElem?_eq_getElem (show k < lenL.length from hk)]
theorem info_len : (Tryd.prog.info? 78).map (·.size) = some 13 := by kernel_rfl

theorem ret_v {k : IntKind} {a b : Int} (h : a = b) : Value.int k a = .int k b := by rw [h]
theorem ret_bool {a b : Bool} (h : a = b) : Ending.returned (.bool a) = .returned (.bool b) := by rw [h]

set_option maxRecDepth 100000 in
set_option maxHeartbeats 2000000 in
theorem leaps_any (y m : Int) (w : World) (h1 : 1 ≤ m) (h2 : m ≤ 12) :
    Calls Tryd.prog 42 #[.int .i64 y, .int .i64 m] w fun e w' => e = .returned (.int .i64 (lps (12 * y + m - 1))) ∧ Below w.heap.size w w' := by
  have Hr := Lib.hid (rl_lps y m h1 h2)
  clear h1 h2
  go_enter Tryd.func42, Tryd.ntmps42
  go_wp2_with (first | (refine wpList_store_new rfl _ (.tmp 5) (.tmp 10) rfl _ julV rfl rfl info_jul (by decide) one_jul ?_) | (refine wpList_store_new_at rfl _ (.tmp 6) (.tmp 11) rfl _ janV _ ?_ rfl rfl info_jan (by decide) one_jan ?_; simp))
  have hc : ∀ j, j < 11 → ((w.alloc (.cells julV 79)).alloc (.cells janV 80)).cell? ⟨w.heap.size, j, none⟩ = some (.int .i64 (julAt j)) := fun j hj => by
    rw [World.cell?_alloc_past _ _ _ (by simp), World.cell?_alloc_at _ _ _ _ rfl, julV_at j hj]
  have hd : ∀ j, j < 16 → ((w.alloc (.cells julV 79)).alloc (.cells janV 80)).cell? ⟨w.heap.size + 1, j, none⟩ = some (.int .i64 (janAt j)) := fun j hj => by
    rw [World.cell?_alloc_at _ _ _ _ (by simp), janV_at j hj]
  go_loop [7, 8] (fun n i => ∃ j : Nat, j ≤ 11 ∧ i = .int .i64 j ∧ n = .int .i64 (rlj y m j)) (fun _ i => 11 - (intOf i).toNat)
  case atStart => exact ⟨0, by omega, rfl, rfl⟩
  case round =>
    obtain ⟨j, hj, rfl, rfl⟩ := hrel
    have lb := rlj_bd y m j
    by_cases hlt : j < 11
    · have ck := hc j hlt
      have es : rlj y m (j + 1) = rlj y m j + if julAt j < y ∨ julAt j = y ∧ 7 ≤ m then 1 else 0 := rfl
      have Es := Lib.hid es
      clear es hc hd
      have i1 : (j : Int) < 11 := by omega
      go_wp2
      all_goals
        go_round
        case rel => exact ⟨j + 1, by omega, by go_num, by rw [Es.out]; first | rw [if_pos (by omega)] | (rw [if_neg (by omega)]; simp)⟩
        case measure => simp [intOf]; omega
    · obtain rfl : j = 11 := by omega
      clear hc
      go_wp2
      go_loop [7, 9] (fun n i => ∃ j : Nat, j ≤ 16 ∧ i = .int .i64 j ∧ n = .int .i64 (rln y m j)) (fun _ i => 16 - (intOf i).toNat)
      case atStart => exact ⟨0, by omega, rfl, rfl⟩
      case round =>
        obtain ⟨j, hj, rfl, rfl⟩ := hrel
        have lb := rln_bd y m j
        by_cases hlt : j < 16
        · have ck := hd j hlt
          have es : rln y m (j + 1) = rln y m j + if janAt j ≤ y then 1 else 0 := rfl
          have Es := Lib.hid es
          clear es hd
          have i1 : (j : Int) < 16 := by omega
          go_wp2
          all_goals
            go_round
            case rel => exact ⟨j + 1, by omega, by go_num, by rw [Es.out]; first | rw [if_pos (by omega)] | (rw [if_neg (by omega)]; simp)⟩
            case measure => simp [intOf]; omega
        · obtain rfl : j = 16 := by omega
          clear hd
          go_wp2
          go_ret
          exact ⟨ret_int Hr.out, ((Below.refl _ _).alloc (Nat.le_refl _) _).alloc (by simp) _⟩

set_option maxRecDepth 100000 in
set_option maxHeartbeats 400000 in
theorem leapYear_any (y : Int) (w : World) (h : 0 ≤ y) :
    Calls Tryd.prog 55 #[.int .i64 y] w fun e w' => e = .returned (.bool (leapB y)) ∧ w = w' := by
  go_enter Tryd.func55, Tryd.ntmps55
  go_wp2
  all_goals
    go_ret
    refine ⟨ret_bool ?_, rfl⟩
    unfold leapB
    simp [*]
end Mw
end Go.Proofs.YtmgehfakcnmdnaaDoor
