/- just so many bytes. -/
import Derived.Test.YtaghckfpnfkihaaBytes
namespace Go.Bs
def sizedP (b : List UInt8) (n : Nat) : List UInt8 := b.take n ++ List.replicate (n - b.length) 0
theorem sizedP_length (b : List UInt8) (n : Nat) : (sizedP b n).length = n := by simp [sizedP]; omega
end Go.Bs
namespace Go.Proofs
set_option linter.unusedVariables false
open Go.Bs
set_option linter.unusedSimpArgs false
attribute [local irreducible] Bs.Val Bs.Do Bs.O Bs.W Bs.Fin Bs.A Bs.Ct Bs.RdSl Bs.Rd Bs.Sat Bs.Blk Bs.Ob Bs.Own Bs.View Bs.Ent Bs.Ex Bs.All Bs.Pu Bs.Base Bs.sepL Bs.RdA
theorem sized_spec (R : List Res) (e : World) (v : Value) (b : List UInt8) (n : Nat) (hv : RdB R v b) (hn : n ≤ 1000000) :
    Ct Try.prog 19 #[v, .int .i64 (n : Int)] e R (fun v' L' => ∃ ad c, v' = .slice ad (sizedP b n).length c ∧ L' = OwnB (.slice ad (sizedP b n).length c) (sizedP b n) :: R) := by
  refine Ct.of_sep (hv.shape (by omega)) ?_
  rintro ⟨⟨ad, cap, rfl, h3, h4, h5, h6⟩, _⟩
  refine Ct.enter (args := [_, _]) Try.func19 rfl Try.ntmps19 Try.results19 rfl ?_
  (repeat' first | (refine O.makeSlice (c := n) rfl rfl rfl (by omega) rfl ?_; intro _) | (apply O.move; exact rfl; exact rfl) | (apply O.assign; exact rfl; exact rfl) | apply W.seq | apply W.region | apply O.nil | apply Fin.next | apply W.ret | apply Fin.then_ret | (apply O.makeSlice; exact rfl; exact rfl; exact rfl; omega; exact rfl; intro _))
  rename_i g
  have hl := sizedP_length b n
  by_cases h : b.length ≤ n
  · refine O.do (Do.copy (c2 := 0) (ad := none) rfl rfl rfl .zero hv u8_one h ?_)
    have hx : b.map u8 ++ (List.replicate n (Value.int .u8 0)).drop b.length = (sizedP b n).map u8 := by
      unfold sizedP
      rw [List.take_of_length_le h, List.map_append, List.drop_replicate, List.map_replicate]
      rfl
    rw [hx]
    (repeat' first | (apply O.move; exact rfl; exact rfl) | (apply O.assign; exact rfl; exact rfl) | apply W.seq | apply W.region | apply O.nil | apply Fin.next | apply W.ret | apply Fin.then_ret | (apply O.makeSlice; exact rfl; exact rfl; exact rfl; omega; exact rfl; intro _))
    exact Fin.ret (OwnB (.slice (some ⟨g, 0, none⟩) (sizedP b n).length n) (sizedP b n) :: R) rfl (by unfold OwnB; rw [hl]; exact (by (repeat first | exact Ent.rfl | exact Ent.nil | refine Ent.cons ?_ | (apply Ent.pull; exact (by (repeat first | exact Pull.zero | apply Pull.succ); done)) | refine Ent.drop ?_); done)) ⟨_, n, by rw [hl]; rfl, rfl⟩
  · refine O.do (Do.copyL (c2 := 0) (ad := none) rfl rfl rfl .zero hv u8_one (by omega) ?_)
    have hx : (b.map u8).take n = (sizedP b n).map u8 := by
      unfold sizedP
      rw [show n - b.length = 0 by omega, List.replicate_zero, List.append_nil, List.map_take]
    rw [hx]
    (repeat' first | (apply O.move; exact rfl; exact rfl) | (apply O.assign; exact rfl; exact rfl) | apply W.seq | apply W.region | apply O.nil | apply Fin.next | apply W.ret | apply Fin.then_ret | (apply O.makeSlice; exact rfl; exact rfl; exact rfl; omega; exact rfl; intro _))
    exact Fin.ret (OwnB (.slice (some ⟨g, 0, none⟩) (sizedP b n).length n) (sizedP b n) :: R) rfl (by unfold OwnB; rw [hl]; exact (by (repeat first | exact Ent.rfl | exact Ent.nil | refine Ent.cons ?_ | (apply Ent.pull; exact (by (repeat first | exact Pull.zero | apply Pull.succ); done)) | refine Ent.drop ?_); done)) ⟨_, n, by rw [hl]; rfl, rfl⟩
end Go.Proofs
