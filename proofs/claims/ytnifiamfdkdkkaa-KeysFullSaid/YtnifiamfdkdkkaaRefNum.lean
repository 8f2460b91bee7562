/- the document's own writing of numbers. -/
import Derived.Test.YtnifiamfdkdkkaaWireR
namespace Go.Proofs
set_option linter.unusedVariables false
open Go.Bs
set_option linter.unusedSimpArgs false
attribute [local irreducible] Bs.Val Bs.Do Bs.O Bs.W Bs.Fin Bs.A Bs.Ct Bs.RdSl Bs.Rd Bs.Sat Bs.Blk Bs.Ob Bs.Own Bs.View Bs.Ent Bs.Ex Bs.All Bs.Pu Bs.Base Bs.sepL Bs.RdA
theorem shr_byte (n j b : Nat) (hj : j ≤ b) : IntKind.u8.wrap ((n : Int).fdiv (2 ^ (min j b))) = ((UInt8.ofNat (n / 2 ^ j)).toNat : Int) := by
  rw [Nat.min_eq_left hj, Int.fdiv_eq_ediv_of_nonneg _ (by exact Int.le_of_lt (Int.pow_pos (by omega)))]
  have h2 : (2 : Int) ^ j = ((2 ^ j : Nat) : Int) := by simp
  rw [h2, ← Int.natCast_ediv]
  unfold IntKind.wrap
  simp [IntKind.bits, IntKind.signed]
theorem low_byte (n : Nat) : IntKind.u8.wrap (n : Int) = ((UInt8.ofNat n).toNat : Int) := by
  unfold IntKind.wrap
  simp [IntKind.bits, IntKind.signed]
/-- The document's: a text behind what there is. -/
theorem refNum_spec (R : List Res) (e : World) (ad : Option Addr) (c : Nat) (b : List UInt8) (n : Nat) (hn : n < 4294967296) (hl : b.length + 4 ≤ 140737488355328) :
    Ct Try.prog 27 #[.slice ad b.length c, .int .u32 n] e (OwnB (.slice ad b.length c) b :: R) (fun v' L' => ∃ ad c, v' = .slice ad (b ++ be n 4).length c ∧ L' = OwnB (.slice ad (b ++ be n 4).length c) (b ++ be n 4) :: R) := by
  refine Ct.enter (args := [_, _]) Try.func27 rfl Try.ntmps27 Try.results27 rfl ?_
  (repeat' first | (apply O.move; exact rfl; exact rfl) | (apply O.assign; exact rfl; exact rfl) | apply W.seq | apply W.region | apply O.nil | apply Fin.next | (apply O.convIntE; exact rfl; (first | exact wrap_i64 (by omega) (by omega) | exact wrap_u32 (by omega) (by omega) | exact wrap_u8 (by omega) (by omega)); exact rfl) | (apply O.convInt; exact rfl; exact rfl) | (apply O.shr; exact rfl; exact rfl; omega; exact rfl) | (apply O.bytes; exact rfl; (focus ((repeat first | exact RdSl.own .zero | exact RdSl.view .zero | assumption | apply RdB.tail); done)); exact rfl) | (apply O.convSl; exact rfl; (focus ((repeat first | exact Upd.zero | apply Upd.succ); done)); exact rfl) | (apply O.buildSlice; exact rfl; exact rfl; exact rfl; (focus ((repeat first | exact Bs.Parts.nil | apply Bs.Parts.one rfl rfl | apply Bs.Parts.one (Bs.cells_one (by assumption)) rfl | (apply Bs.Parts.agg; exact rfl)); done)); exact rfl; exact rfl; intro _) | apply W.ret | apply Fin.then_ret)
  have e1 : [Value.int .u8 (IntKind.u8.wrap ((n : Int).fdiv (2 ^ min (24 : Int).toNat IntKind.u32.bits))), .int .u8 (IntKind.u8.wrap ((n : Int).fdiv (2 ^ min (16 : Int).toNat IntKind.u32.bits))), .int .u8 (IntKind.u8.wrap ((n : Int).fdiv (2 ^ min (8 : Int).toNat IntKind.u32.bits))), .int .u8 (IntKind.u8.wrap (n : Int))] = (be n 4).map u8 := by
    have a1 := shr_byte n 24 32 (by omega)
    have a2 := shr_byte n 16 32 (by omega)
    have a3 := shr_byte n 8 32 (by omega)
    have b := low_byte n
    show [Value.int .u8 (IntKind.u8.wrap ((n : Int).fdiv (2 ^ min 24 32))), .int .u8 (IntKind.u8.wrap ((n : Int).fdiv (2 ^ min 16 32))), .int .u8 (IntKind.u8.wrap ((n : Int).fdiv (2 ^ min 8 32))), .int .u8 (IntKind.u8.wrap (n : Int))] = _
    rw [a1, a2, a3, b]
    simp [be, u8]
  rw [e1]
  refine O.do (Do.append rfl rfl rfl (.succ .zero) (RdSl.blk .zero (by rw [List.length_map, be_length]) (by simp [maxLen])) rfl rfl u8_one (by simp only [maxLen]; omega) (by omega) fun ad2 c2 _ => ?_)
  (repeat' first | (apply O.move; exact rfl; exact rfl) | (apply O.assign; exact rfl; exact rfl) | apply W.seq | apply W.region | apply O.nil | apply Fin.next | (apply O.convIntE; exact rfl; (first | exact wrap_i64 (by omega) (by omega) | exact wrap_u32 (by omega) (by omega) | exact wrap_u8 (by omega) (by omega)); exact rfl) | (apply O.convInt; exact rfl; exact rfl) | (apply O.shr; exact rfl; exact rfl; omega; exact rfl) | (apply O.bytes; exact rfl; (focus ((repeat first | exact RdSl.own .zero | exact RdSl.view .zero | assumption | apply RdB.tail); done)); exact rfl) | (apply O.convSl; exact rfl; (focus ((repeat first | exact Upd.zero | apply Upd.succ); done)); exact rfl) | (apply O.buildSlice; exact rfl; exact rfl; exact rfl; (focus ((repeat first | exact Bs.Parts.nil | apply Bs.Parts.one rfl rfl | apply Bs.Parts.one (Bs.cells_one (by assumption)) rfl | (apply Bs.Parts.agg; exact rfl)); done)); exact rfl; exact rfl; intro _) | apply W.ret | apply Fin.then_ret)
  have e2 : (b ++ be n 4).length = b.length + 4 := by rw [List.length_append, be_length]
  refine Fin.ret (OwnB (.slice ad2 (b ++ be n 4).length c2) (b ++ be n 4) :: R) rfl ?_ ⟨ad2, c2, by rw [e2]; rfl, rfl⟩
  unfold OwnB
  rw [e2, List.map_append]
  exact (by (repeat first | exact Ent.rfl | exact Ent.nil | refine Ent.cons ?_ | (apply Ent.pull; exact (by (repeat first | exact Pull.zero | apply Pull.succ); done)) | refine Ent.drop ?_); done)
end Go.Proofs
