/- The size of an argument that is a slice of integers. -/
import Derived.Test.YtlgedljhheficaaGreatDoorA29
import Derived.SizedLaws
namespace Go.Proofs.YtlgedljhheficaaGreatDoor
open Go.ChangeShapes Go.WideShapes Go.ChangeAt Go.RowKit

theorem bytesInt : Tryz.prog.bytesOf 3 = 8 := by kernel_rfl
theorem ints_sized {H : Type} {enc : TypeId × Value → H} {W : World} {A : Option Addr} {n c : Nat} {d : DataW H} {p : List MemPlace} (h : DataW.Trod enc Tryz.prog W 0 (fun _ => true) true 22 (.slice A n c) d p)
    {ts : List TypeId} {ds : List (DataW H)} (hz : (DataW.weightsEach Tryz.prog ts ds).all (· ≤ reachBytes) = true) {j : Nat} (ht : ts[j]? = some 22) (hd : ds[j]? = some d) : n * 8 ≤ 140737488351232 := by
  obtain ⟨fuel, hf⟩ := h
  rcases open_ints Tryz.underlying22 Tryz.underlying3 cellsInt hf with ⟨hcs, hx⟩ | ⟨a, len, cap, zs, hcs, _, hl, hm, hzl, hx, hcell, hwz⟩
  · change [Value.slice A n c] = _ at hcs
    obtain ⟨rfl, rfl, rfl⟩ : A = none ∧ n = 0 ∧ c = 0 := by simpa using hcs
    omega
  · change [Value.slice A n c] = _ at hcs
    obtain ⟨rfl, rfl, rfl⟩ : A = some a ∧ n = len ∧ c = cap := by simpa using hcs
    have hd2 : d = _ := congrArg Prod.fst hx
    rw [hd2] at hd
    have := sized_slice hz ht hd Tryz.underlying22
    rw [bytesInt] at this
    rw [if_pos rfl] at hzl
    simp [lits] at this
    have h2 : (reachBytes : Nat) = 140737488351232 := rfl
    omega

end Go.Proofs.YtlgedljhheficaaGreatDoor
