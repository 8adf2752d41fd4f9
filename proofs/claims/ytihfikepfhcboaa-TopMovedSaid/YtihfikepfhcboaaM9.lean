/-
  Walk: the first placements.
-/
import Derived.Test.YtihfikepfhcboaaM8
import Derived.Deep.RegionLaw
import Derived.IntWalk
namespace Go.Proofs.Ytihfikepfhcboaa
open Go.RowKit

theorem info214 : (Try.prog.info? 214).map (fun i => (i.zero, i.size, i.bytes)) = some (some (.agg #[.int .i64 0, .slice none 0 0]), 2, 32) := by kernel_rfl

/-- The g-th group's nodes. -/
def ringNodes (nodes n g : Nat) : List Int := (List.range n).map fun i => (((g + i) % nodes : Nat) : Int)
def ring (nodes n groups : Nat) : List Place := (List.range groups).map fun g => ⟨1, ringNodes nodes n g⟩

theorem ringNodes_succ (nodes n g : Nat) : ringNodes nodes (n + 1) g = ringNodes nodes n g ++ [(((g + n) % nodes : Nat) : Int)] := by
  simp [ringNodes, List.range_succ]
theorem ring_succ (nodes n g : Nat) : ring nodes n (g + 1) = ring nodes n g ++ [⟨1, ringNodes nodes n g⟩] := by
  simp [ring, List.range_succ]
theorem ringNodes_length (nodes n g : Nat) : (ringNodes nodes n g).length = n := by simp [ringNodes]
theorem ring_length (nodes n g : Nat) : (ring nodes n g).length = g := by simp [ring]

/-- A number's chunk, for an append. -/
theorem Star.inn1 {c : Ck} {cs : List Ck} {w0 w : World} {B : Nat} (h : Star (c :: cs) w0 B w) (k : IntKind) (x : Int) : Star (c :: Ck.inn (.int k) [x] [.int k x] :: cs) w0 B w :=
  h.free2 fun F => inn_scalar _ _ [x] w F

theorem inn_place {e : TypeId} {v : Value} {xs : List Int} {w : World} (ep : Int) (F : Fp) (h : (Ck.row e (.int .i64) v xs).holds w F) : (Ck.inn kPlace [⟨ep, xs⟩] [.int .i64 ep, v]).holds w F :=
  ⟨rfl, Els.one (kPlace_mk (p := ⟨ep, xs⟩) (row_rep h)) rfl fun _ _ hu => hu⟩

set_option maxHeartbeats 4000000 in
set_option maxRecDepth 100000 in
theorem first_any (nodes n groups : Nat) (w : World) (h0 : 1 ≤ nodes) (h1 : nodes ≤ 9) (h2 : 1 ≤ n) (h3 : n ≤ nodes) (h4 : 1 ≤ groups) (h5 : groups ≤ 7) :
    Calls Try.prog 24 #[.int .i64 nodes, .int .i64 n, .int .i64 groups] w fun en w' => ∃ v, en = .returned (.tuple #[v, .int .i64 0]) ∧ Star [Ck.row 214 kPlace v (ring nodes n groups)] w w.heap.size w' := by
  go_enter Try.func24, Try.ntmps24
  go_wp2
  go_loopw [8, 9, 10, 11, 37, 41, 42] (fun vo _ _ _ i _ _ wr => ∃ k : Nat, i = .int .i64 k ∧ k ≤ groups ∧ Hid (Star [Ck.row 214 kPlace vo (ring nodes n k)] w w.heap.size wr)) (fun _ _ _ _ i _ _ _ => groups - (intOf i).toNat)
  case atStart => exact ⟨0, rfl, by omega, (Star.nil w).nilrow _ _⟩
  case round =>
    obtain ⟨k, rfl, hk, HS⟩ := hrel
    by_cases hlt : k < groups
    · have S1 := hid (((HS.out.nilrow 3 (.int .i64)).box [.int .i64 1, .slice none 0 0] 214))
      have HK := hid (Nat.le_trans hk h5)
      obtain ⟨wo, rfl⟩ : ∃ wo : World, wo = wr := ⟨_, rfl⟩
      go_wp2
      go_loopw [11, 42] (fun _ j wr' => ∃ (m : Nat) (vN : Value), j = .int .i64 m ∧ m ≤ n ∧ Hid (Star [Ck.blk wo.heap.size [.int .i64 1, vN] 214, Ck.row 3 (.int .i64) vN (ringNodes nodes m k), Ck.row 214 kPlace u8 (ring nodes n k)] w w.heap.size wr')) (fun _ j _ => n - (intOf j).toNat)
      case atStart => exact ⟨0, _, rfl, by omega, S1.out⟩
      case round =>
        clear HS S1
        obtain ⟨m, vN, rfl, hm, HS⟩ := hrel
        have e1 := HS.out.at 0 rfl 1 _ rfl
        have e0 := HS.out.at 0 rfl 0 _ rfl
        have hbl := HS.out.blk_lt
        by_cases hlm : m < n
        · have HP := hid ((HS.out.perm [1, 0] 2 (by decide) (by decide) (by simp)).inn1 .i64 (((k + m) % nodes : Nat) : Int))
          have HL : Hid (((ringNodes nodes m k).length + 1) * 8 ≤ 140737488355328) := by show _ ≤ _; rw [ringNodes_length]; omega
          have hw : IntKind.i64.wrap ((k : Int) + m) = (k : Int) + m := IntWalk.i64_in _ (by have := HK.out; omega)
          have hn0 : ¬ nodes = 0 := by omega
          have hq : ((k : Int) + m).tmod (nodes : Int) = (((k + m) % nodes : Nat) : Int) := by
            rw [Int.tmod_eq_emod_of_nonneg (by omega), Int.natCast_emod, Int.natCast_add]
          go_wp2
          go_region_law (refine app1_step rfl _ _ 25 _ 8 rfl Try.underlying25 info3 rfl (by decide) (by decide) HP.out.drew rfl rfl HL.out ?_; intro v' w' h3 _; obtain ⟨A1, c1, hv, _⟩ := rd_slice h3.row_rd; rw [List.length_append, List.length_singleton] at hv; subst hv; have f1 := h3.at 1 rfl 1 _ rfl; have HN : Hid (Star [Ck.blk wo.heap.size [.int .i64 1, vN] 214, Ck.row 3 (.int .i64) (.slice A1 ((ringNodes nodes m k).length + 1) c1) (ringNodes nodes (m + 1) k), Ck.row 214 kPlace u8 (ring nodes n k)] w w.heap.size w') := (by rw [ringNodes_succ]; exact h3.perm [1, 0] 2 (by decide) (by decide) (by simp)); clear h3)
          all_goals
            clear hw hn0 hq
            go_wp2
            go_roundw
            case rel => exact ⟨m + 1, _, by go_num, by omega, HN.out.set_blk 1 _⟩
            case measure => simp [intOf]; omega
        · obtain rfl : m = n := by omega
          obtain ⟨A2, c2, rfl, _⟩ := rd_slice (HS.out.front 1 _ rfl).row_rd
          have HP := hid ((((HS.out.perm [1, 2, 0] 3 (by decide) (by decide) (by simp)).say (c' := Ck.inn kPlace [⟨1, ringNodes nodes m k⟩] [.int .i64 1, .slice A2 (ringNodes nodes m k).length c2]) (inn_place 1)).swap))
          have HL : Hid (((ring nodes m k).length + 1) * 32 ≤ 140737488355328) := by show _ ≤ _; rw [ring_length]; have := HK.out; omega
          go_wp2_with (at_builtin; refine app1 rfl _ _ 57 _ 32 rfl Try.underlying57 info214 rfl (by decide) (by decide) HP.out rfl rfl HL.out ?_; intro v' w' h3 _; have HN := hid h3; clear h3)
          go_roundw
          case rel => exact ⟨k + 1, by go_num, by omega, by rw [ring_succ]; exact HN.out.perm [0] 2 (by decide) (by decide) (by simp)⟩
          case measure => simp [intOf]; omega
    · obtain rfl : k = groups := by omega
      go_wp2
      go_ret2
      exact ⟨_, rfl, HS.out⟩
end Go.Proofs.Ytihfikepfhcboaa
