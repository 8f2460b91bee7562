/- a growth of leaves checks. -/
import Derived.Test.YtaghckfpnfkihaaGrow2
import Derived.Test.YtaghckfpnfkihaaBook
namespace Go.Proofs
set_option linter.unusedVariables false
open Go.Bs
set_option linter.unusedSimpArgs false
attribute [local irreducible] Bs.Val Bs.Do Bs.O Bs.W Bs.Fin Bs.A Bs.Ct Bs.RdSl Bs.Rd Bs.Sat Bs.Blk Bs.Ob Bs.Own Bs.View Bs.Ent Bs.Ex Bs.All Bs.Pu Bs.Base Bs.sepL Bs.RdA
theorem growP_all (l : List (List UInt8)) : growP l l.length = [] := by rw [growP, if_neg (by omega)]
theorem growP_zero (l : List (List UInt8)) : growP l 0 = [] := by rw [growP, if_neg (by omega)]
theorem grow_few {ts out : List Txt} {m : Nat} (ho : out.map (·.2) = growP (ts.map (·.2)) m) (hm : m ≤ ts.length) (hl : ts.length ≤ 32768) : out.length ≤ 16 := by
  have h1 := congrArg List.length ho
  rw [List.length_map] at h1
  by_cases hin : 0 < m ∧ m < (ts.map (·.2)).length
  · rw [growP, if_pos hin, subP_length _ m _ true rfl (by omega) (by omega)] at h1
    have := glenP_le 15 (ts.map (·.2)).length m true (by rw [List.length_map]; omega)
    omega
  · rw [growP, if_neg hin, List.length_nil] at h1
    omega
theorem grow_ok {ts out : List Txt} {m : Nat} (ho : out.map (·.2) = growP (ts.map (·.2)) m) (hm : m ≤ ts.length) (h32 : ∀ a ∈ ts, a.2.length = 32) (hl : ts.length ≤ 32768) :
    GrowChk (m : Int) (ts.length : Int) out (rootP ((ts.take m).map (·.2))) (rootP (ts.map (·.2))) := by
  have h3 : ∀ a ∈ ts.map (·.2), a.length = 32 := fun a ha => by
    obtain ⟨y, hy, rfl⟩ := List.mem_map.1 ha
    exact h32 y hy
  have hfew := grow_few ho hm hl
  by_cases he : m = ts.length
  · subst he
    have e1 := growP_all (ts.map (·.2))
    rw [List.length_map] at e1
    rw [e1] at ho
    have h0 : out.length = 0 := by have := congrArg List.length ho; simpa using this
    rw [List.take_length]
    exact .inl ⟨rfl, by omega, h0, hashes_root h3, rfl⟩
  by_cases hz : m = 0
  · subst hz
    rw [growP_zero] at ho
    have h0 : out.length = 0 := by have := congrArg List.length ho; simpa using this
    exact .inr (.inl ⟨rfl, by omega, h0, by rw [List.take_zero]; exact rootP_nil, hashes_root h3⟩)
  have hin : 0 < m ∧ m < (ts.map (·.2)).length := ⟨by omega, by rw [List.length_map]; omega⟩
  rw [growP, if_pos hin] at ho
  have h1 : out.length = glenP m ts.length true := by
    have := congrArg List.length ho
    rwa [List.length_map, subP_length _ m _ true rfl (by omega) (by omega), List.length_map] at this
  have h4 : ∀ a ∈ out, a.2.length = 32 := fun a ha => by
    have : a.2 ∈ out.map (·.2) := List.mem_map.2 ⟨a, ha, rfl⟩
    rw [ho] at this
    exact subP_hash _ _ _ _ rfl h3 _ this
  have h5 := gleadP_sub (ts.map (·.2)).length m (ts.map (·.2)) true (rootP ((ts.take m).map (·.2))) rfl (by omega) (by omega) (fun _ => by rw [List.map_take])
  rw [List.length_map, ← ho] at h5
  have h6 : ((ts.take m).map (·.2)) = (ts.map (·.2)).take m := List.map_take
  refine .inr (.inr ⟨⟨rightP_iff.2 ⟨hfew, h4⟩, by omega, by omega, hashes_root fun a ha => h3 a (List.mem_of_mem_take (h6 ▸ ha)), h1⟩, ?_, ?_⟩)
  · exact (congrArg Prod.fst h5).trans (by rw [h6])
  · exact congrArg Prod.snd h5
end Go.Proofs
