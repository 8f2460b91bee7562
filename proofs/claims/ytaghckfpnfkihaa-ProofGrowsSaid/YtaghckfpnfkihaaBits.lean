/- bits.Len; the greatest power of two below a number. -/
import Derived.Test.YtaghckfpnfkihaaArr
import Derived.Test.YtaghckfpnfkihaaFacts
import Derived.KernelRfl
namespace Go.Bs
/-- How many bits a number has. -/
def lenP (n : Nat) : Nat := if n = 0 then 0 else n.log2 + 1
theorem lenP_div (n k : Nat) (h : 2 ^ k ≤ n) : lenP (n / 2 ^ k) + k = lenP n := by
  have h0 : 0 < 2 ^ k := Nat.two_pow_pos k
  have h1 : n ≠ 0 := by omega
  have h2 : n / 2 ^ k ≠ 0 := by
    have := Nat.div_pos h h0
    omega
  unfold lenP
  rw [if_neg h1, if_neg h2]
  have h3 : k ≤ n.log2 := (Nat.le_log2 h1).2 h
  have h4 : (n / 2 ^ k).log2 = n.log2 - k := by
    rw [Nat.log2_eq_iff h2]
    constructor
    · rw [Nat.le_div_iff_mul_le h0, ← Nat.pow_add, Nat.sub_add_cancel h3]
      exact Nat.log2_self_le h1
    · rw [Nat.div_lt_iff_lt_mul h0, ← Nat.pow_add, show n.log2 - k + 1 + k = n.log2 + 1 by omega]
      exact Nat.lt_log2_self
  omega
def lenTab : List UInt8 := (List.range 256).map fun i => UInt8.ofNat (lenP i)
section
variable {P : Program} {N : Fr} {Q : Goal} {σ : Env} {e : World} {L : List Res} {all : Array Oper} {rest : List Oper} {d : Nat} {ty : TypeId} {pos : String} {af : Array Edge}
theorem O.indexS {x y : Operand} {t : TypeId} {s : ByteArray} {k : IntKind} {i c : Nat} [q : StrT P t] (h : ev σ x = some (.string s)) (h1 : ev σ y = some (.int k (i : Int))) (hl : ∃ h : i < s.size, s[i].toNat = c) (hd : Nat.blt d N.n = true)
    (kk : O P N all rest Q ((d, .int .u8 (c : Int)) :: σ) e L) : O P N all (⟨some d, .index t x y, ty, pos, af, none⟩ :: rest) Q σ e L := by
  obtain ⟨h2, h3⟩ := hl
  refine O.val _ ?_ hd kk
  have := Val.index1 (P := P) (N := N) (ty := ty) (e := e) (L := L) (t := t) h h1 h2
  rw [h3] at this
  exact this
end
theorem lenTab_length : lenTab.length = 256 := by simp [lenTab]
theorem lenTab_at (y : Nat) (hy : y < 256) : (lenTab[y]'(by rw [lenTab_length]; exact hy)).toNat = lenP y := by
  have h1 : ∀ m : _root_.Fin 256, (lenTab[m.1]'(by rw [lenTab_length]; exact m.2)).toNat = lenP m.1 := by decide +kernel
  exact h1 ⟨y, hy⟩
theorem fdivN (m s : Nat) (t : Nat) (h : s ≤ t) : ((m : Int)).fdiv (2 ^ (min ((s : Int)).toNat t)) = ((m / 2 ^ s : Nat) : Int) := by
  rw [Int.toNat_natCast, Nat.min_eq_left h, Int.fdiv_eq_ediv_of_nonneg _ (Int.pow_nonneg (by decide))]
  simp
end Go.Bs
namespace Go.Proofs
set_option linter.unusedVariables false
open Go.Bs
set_option linter.unusedSimpArgs false
attribute [local irreducible] Bs.Val Bs.Do Bs.O Bs.W Bs.Fin Bs.A Bs.Ct Bs.RdSl Bs.Rd Bs.Sat Bs.Blk Bs.Ob Bs.Own Bs.View Bs.Ent Bs.Ex Bs.All Bs.Pu Bs.Base Bs.sepL Bs.RdA
set_option maxRecDepth 100000 in
theorem len64_spec (R : List Res) (e : World) (x : Nat) (hx : x < 18446744073709551616) :
    Ct Try.prog 77 #[.int .u64 (x : Int)] e R (fun v' L' => v' = .int .i64 (lenP x : Int) ∧ R = L') := by
  refine Ct.enter (args := [_]) Try.func77 rfl Try.ntmps77 Try.results77 rfl ?_
  (repeat' first | refine W.meetS (id := 4) (fun i : Nat × Nat => [(0, .int .u64 (i.1 : Int)), (2, .int .i64 (i.2 : Int))]) (fun _ => R) (fun i => i.1 < 4294967296 ∧ lenP i.1 + i.2 = lenP x ∧ i.2 ≤ 32) ?_ ?_ | (apply O.move; exact rfl; exact rfl) | (apply O.assign; exact rfl; exact rfl) | apply W.seq | apply W.region | apply O.nil | apply Fin.next | (apply O.geq_t; exact rfl; exact rfl; omega; exact rfl) | (apply O.geq_f; exact rfl; exact rfl; omega; exact rfl) | (apply O.geq_d; exact rfl; exact rfl; exact rfl; all_goals intro _) | (apply O.add64; exact rfl; exact rfl; omega; exact rfl) | (apply O.add; exact rfl; exact rfl; exact rfl) | (apply O.convIntE; exact rfl; (first | exact wrap_i64 (by omega) (by omega) | exact wrap_u32 (by omega) (by omega) | exact wrap_u8 (by omega) (by omega)); exact rfl) | (apply O.convInt; exact rfl; exact rfl) | (apply O.shr; exact rfl; exact rfl; omega; exact rfl) | (apply O.bytes; exact rfl; (focus ((repeat first | exact RdSl.own .zero | exact RdSl.view .zero | assumption | apply RdB.tail); done)); exact rfl) | (apply O.convSl; exact rfl; (focus ((repeat first | exact Upd.zero | apply Upd.succ); done)); exact rfl) | (apply W.cond_t; exact rfl) | (apply W.cond_f; exact rfl) | apply W.skip | apply W.ret | apply Fin.then_ret | (apply O.addStr; exact rfl; exact rfl; omega; exact rfl))
  rotate_left
  · refine ⟨?_⟩
    by_cases h : 4294967296 ≤ x
    · (repeat' first | (apply O.move; exact rfl; exact rfl) | (apply O.assign; exact rfl; exact rfl) | apply W.seq | apply W.region | apply O.nil | apply Fin.next | (apply O.geq_t; exact rfl; exact rfl; omega; exact rfl) | (apply O.geq_f; exact rfl; exact rfl; omega; exact rfl) | (apply O.geq_d; exact rfl; exact rfl; exact rfl; all_goals intro _) | (apply O.add64; exact rfl; exact rfl; omega; exact rfl) | (apply O.add; exact rfl; exact rfl; exact rfl) | (apply O.convIntE; exact rfl; (first | exact wrap_i64 (by omega) (by omega) | exact wrap_u32 (by omega) (by omega) | exact wrap_u8 (by omega) (by omega)); exact rfl) | (apply O.convInt; exact rfl; exact rfl) | (apply O.shr; exact rfl; exact rfl; omega; exact rfl) | (apply O.bytes; exact rfl; (focus ((repeat first | exact RdSl.own .zero | exact RdSl.view .zero | assumption | apply RdB.tail); done)); exact rfl) | (apply O.convSl; exact rfl; (focus ((repeat first | exact Upd.zero | apply Upd.succ); done)); exact rfl) | (apply W.cond_t; exact rfl) | (apply W.cond_f; exact rfl) | apply W.skip | apply W.ret | apply Fin.then_ret | (apply O.addStr; exact rfl; exact rfl; omega; exact rfl))
      refine Fin.meet (x / 4294967296, 32) ⟨by dsimp only; omega, lenP_div x 32 h, by dsimp only; omega⟩ (sub_cons ?_ (sub_cons rfl sub_nil)) Ent.rfl
      exact congrArg (fun z => some (Value.int .u64 z)) (fdivN x 32 64 (by omega))
    · (repeat' first | (apply O.move; exact rfl; exact rfl) | (apply O.assign; exact rfl; exact rfl) | apply W.seq | apply W.region | apply O.nil | apply Fin.next | (apply O.geq_t; exact rfl; exact rfl; omega; exact rfl) | (apply O.geq_f; exact rfl; exact rfl; omega; exact rfl) | (apply O.geq_d; exact rfl; exact rfl; exact rfl; all_goals intro _) | (apply O.add64; exact rfl; exact rfl; omega; exact rfl) | (apply O.add; exact rfl; exact rfl; exact rfl) | (apply O.convIntE; exact rfl; (first | exact wrap_i64 (by omega) (by omega) | exact wrap_u32 (by omega) (by omega) | exact wrap_u8 (by omega) (by omega)); exact rfl) | (apply O.convInt; exact rfl; exact rfl) | (apply O.shr; exact rfl; exact rfl; omega; exact rfl) | (apply O.bytes; exact rfl; (focus ((repeat first | exact RdSl.own .zero | exact RdSl.view .zero | assumption | apply RdB.tail); done)); exact rfl) | (apply O.convSl; exact rfl; (focus ((repeat first | exact Upd.zero | apply Upd.succ); done)); exact rfl) | (apply W.cond_t; exact rfl) | (apply W.cond_f; exact rfl) | apply W.skip | apply W.ret | apply Fin.then_ret | (apply O.addStr; exact rfl; exact rfl; omega; exact rfl))
      exact Fin.meet (x, 0) ⟨by dsimp only; omega, rfl, by dsimp only; omega⟩ (sub_cons rfl (sub_cons rfl sub_nil)) Ent.rfl
  rintro ⟨x2, n2⟩ ⟨hx2, hl2, hn2⟩
  dsimp only at hx2 hl2 hn2 ⊢
  (repeat' first | refine W.meetS (id := 7) (fun i : Nat × Nat => [(0, .int .u64 (i.1 : Int)), (2, .int .i64 (i.2 : Int))]) (fun _ => R) (fun i => i.1 < 65536 ∧ lenP i.1 + i.2 = lenP x ∧ i.2 ≤ 48) ?_ ?_ | (apply O.move; exact rfl; exact rfl) | (apply O.assign; exact rfl; exact rfl) | apply W.seq | apply W.region | apply O.nil | apply Fin.next | (apply O.geq_t; exact rfl; exact rfl; omega; exact rfl) | (apply O.geq_f; exact rfl; exact rfl; omega; exact rfl) | (apply O.geq_d; exact rfl; exact rfl; exact rfl; all_goals intro _) | (apply O.add64; exact rfl; exact rfl; omega; exact rfl) | (apply O.add; exact rfl; exact rfl; exact rfl) | (apply O.convIntE; exact rfl; (first | exact wrap_i64 (by omega) (by omega) | exact wrap_u32 (by omega) (by omega) | exact wrap_u8 (by omega) (by omega)); exact rfl) | (apply O.convInt; exact rfl; exact rfl) | (apply O.shr; exact rfl; exact rfl; omega; exact rfl) | (apply O.bytes; exact rfl; (focus ((repeat first | exact RdSl.own .zero | exact RdSl.view .zero | assumption | apply RdB.tail); done)); exact rfl) | (apply O.convSl; exact rfl; (focus ((repeat first | exact Upd.zero | apply Upd.succ); done)); exact rfl) | (apply W.cond_t; exact rfl) | (apply W.cond_f; exact rfl) | apply W.skip | apply W.ret | apply Fin.then_ret | (apply O.addStr; exact rfl; exact rfl; omega; exact rfl))
  rotate_left
  · refine ⟨?_⟩
    by_cases h : 65536 ≤ x2
    · have : lenP (x2 / 65536) + 16 = lenP x2 := lenP_div x2 16 h
      (repeat' first | (apply O.move; exact rfl; exact rfl) | (apply O.assign; exact rfl; exact rfl) | apply W.seq | apply W.region | apply O.nil | apply Fin.next | (apply O.geq_t; exact rfl; exact rfl; omega; exact rfl) | (apply O.geq_f; exact rfl; exact rfl; omega; exact rfl) | (apply O.geq_d; exact rfl; exact rfl; exact rfl; all_goals intro _) | (apply O.add64; exact rfl; exact rfl; omega; exact rfl) | (apply O.add; exact rfl; exact rfl; exact rfl) | (apply O.convIntE; exact rfl; (first | exact wrap_i64 (by omega) (by omega) | exact wrap_u32 (by omega) (by omega) | exact wrap_u8 (by omega) (by omega)); exact rfl) | (apply O.convInt; exact rfl; exact rfl) | (apply O.shr; exact rfl; exact rfl; omega; exact rfl) | (apply O.bytes; exact rfl; (focus ((repeat first | exact RdSl.own .zero | exact RdSl.view .zero | assumption | apply RdB.tail); done)); exact rfl) | (apply O.convSl; exact rfl; (focus ((repeat first | exact Upd.zero | apply Upd.succ); done)); exact rfl) | (apply W.cond_t; exact rfl) | (apply W.cond_f; exact rfl) | apply W.skip | apply W.ret | apply Fin.then_ret | (apply O.addStr; exact rfl; exact rfl; omega; exact rfl))
      refine Fin.meet (x2 / 65536, n2 + 16) ⟨by dsimp only; omega, by dsimp only; omega, by dsimp only; omega⟩ (sub_cons ?_ (sub_cons rfl sub_nil)) Ent.rfl
      exact congrArg (fun z => some (Value.int .u64 z)) (fdivN x2 16 64 (by omega))
    · (repeat' first | (apply O.move; exact rfl; exact rfl) | (apply O.assign; exact rfl; exact rfl) | apply W.seq | apply W.region | apply O.nil | apply Fin.next | (apply O.geq_t; exact rfl; exact rfl; omega; exact rfl) | (apply O.geq_f; exact rfl; exact rfl; omega; exact rfl) | (apply O.geq_d; exact rfl; exact rfl; exact rfl; all_goals intro _) | (apply O.add64; exact rfl; exact rfl; omega; exact rfl) | (apply O.add; exact rfl; exact rfl; exact rfl) | (apply O.convIntE; exact rfl; (first | exact wrap_i64 (by omega) (by omega) | exact wrap_u32 (by omega) (by omega) | exact wrap_u8 (by omega) (by omega)); exact rfl) | (apply O.convInt; exact rfl; exact rfl) | (apply O.shr; exact rfl; exact rfl; omega; exact rfl) | (apply O.bytes; exact rfl; (focus ((repeat first | exact RdSl.own .zero | exact RdSl.view .zero | assumption | apply RdB.tail); done)); exact rfl) | (apply O.convSl; exact rfl; (focus ((repeat first | exact Upd.zero | apply Upd.succ); done)); exact rfl) | (apply W.cond_t; exact rfl) | (apply W.cond_f; exact rfl) | apply W.skip | apply W.ret | apply Fin.then_ret | (apply O.addStr; exact rfl; exact rfl; omega; exact rfl))
      exact Fin.meet (x2, n2) ⟨by dsimp only; omega, hl2, by dsimp only; omega⟩ (sub_cons rfl (sub_cons rfl sub_nil)) Ent.rfl
  rintro ⟨x3, n3⟩ ⟨hx3, hl3, hn3⟩
  dsimp only at hx3 hl3 hn3 ⊢
  clear hx2 hl2 hn2
  (repeat' first | refine W.meet27 (id := 10) (fun i : Nat × Nat => [(0, .int .u64 (i.1 : Int)), (2, .int .i64 (i.2 : Int))]) (fun _ => R) (fun i => i.1 < 256 ∧ lenP i.1 + i.2 = lenP x ∧ i.2 ≤ 56) ?_ ?_ | (apply O.move; exact rfl; exact rfl) | (apply O.assign; exact rfl; exact rfl) | apply W.seq | apply W.region | apply O.nil | apply Fin.next | (apply O.geq_t; exact rfl; exact rfl; omega; exact rfl) | (apply O.geq_f; exact rfl; exact rfl; omega; exact rfl) | (apply O.geq_d; exact rfl; exact rfl; exact rfl; all_goals intro _) | (apply O.add64; exact rfl; exact rfl; omega; exact rfl) | (apply O.add; exact rfl; exact rfl; exact rfl) | (apply O.convIntE; exact rfl; (first | exact wrap_i64 (by omega) (by omega) | exact wrap_u32 (by omega) (by omega) | exact wrap_u8 (by omega) (by omega)); exact rfl) | (apply O.convInt; exact rfl; exact rfl) | (apply O.shr; exact rfl; exact rfl; omega; exact rfl) | (apply O.bytes; exact rfl; (focus ((repeat first | exact RdSl.own .zero | exact RdSl.view .zero | assumption | apply RdB.tail); done)); exact rfl) | (apply O.convSl; exact rfl; (focus ((repeat first | exact Upd.zero | apply Upd.succ); done)); exact rfl) | (apply W.cond_t; exact rfl) | (apply W.cond_f; exact rfl) | apply W.skip | apply W.ret | apply Fin.then_ret | (apply O.addStr; exact rfl; exact rfl; omega; exact rfl))
  rotate_left
  · refine ⟨?_⟩
    by_cases h : 256 ≤ x3
    · have : lenP (x3 / 256) + 8 = lenP x3 := lenP_div x3 8 h
      (repeat' first | (apply O.move; exact rfl; exact rfl) | (apply O.assign; exact rfl; exact rfl) | apply W.seq | apply W.region | apply O.nil | apply Fin.next | (apply O.geq_t; exact rfl; exact rfl; omega; exact rfl) | (apply O.geq_f; exact rfl; exact rfl; omega; exact rfl) | (apply O.geq_d; exact rfl; exact rfl; exact rfl; all_goals intro _) | (apply O.add64; exact rfl; exact rfl; omega; exact rfl) | (apply O.add; exact rfl; exact rfl; exact rfl) | (apply O.convIntE; exact rfl; (first | exact wrap_i64 (by omega) (by omega) | exact wrap_u32 (by omega) (by omega) | exact wrap_u8 (by omega) (by omega)); exact rfl) | (apply O.convInt; exact rfl; exact rfl) | (apply O.shr; exact rfl; exact rfl; omega; exact rfl) | (apply O.bytes; exact rfl; (focus ((repeat first | exact RdSl.own .zero | exact RdSl.view .zero | assumption | apply RdB.tail); done)); exact rfl) | (apply O.convSl; exact rfl; (focus ((repeat first | exact Upd.zero | apply Upd.succ); done)); exact rfl) | (apply W.cond_t; exact rfl) | (apply W.cond_f; exact rfl) | apply W.skip | apply W.ret | apply Fin.then_ret | (apply O.addStr; exact rfl; exact rfl; omega; exact rfl))
      refine Fin.meet (x3 / 256, n3 + 8) ⟨by dsimp only; omega, by dsimp only; omega, by dsimp only; omega⟩ (sub_cons ?_ (sub_cons rfl sub_nil)) Ent.rfl
      exact congrArg (fun z => some (Value.int .u64 z)) (fdivN x3 8 64 (by omega))
    · (repeat' first | (apply O.move; exact rfl; exact rfl) | (apply O.assign; exact rfl; exact rfl) | apply W.seq | apply W.region | apply O.nil | apply Fin.next | (apply O.geq_t; exact rfl; exact rfl; omega; exact rfl) | (apply O.geq_f; exact rfl; exact rfl; omega; exact rfl) | (apply O.geq_d; exact rfl; exact rfl; exact rfl; all_goals intro _) | (apply O.add64; exact rfl; exact rfl; omega; exact rfl) | (apply O.add; exact rfl; exact rfl; exact rfl) | (apply O.convIntE; exact rfl; (first | exact wrap_i64 (by omega) (by omega) | exact wrap_u32 (by omega) (by omega) | exact wrap_u8 (by omega) (by omega)); exact rfl) | (apply O.convInt; exact rfl; exact rfl) | (apply O.shr; exact rfl; exact rfl; omega; exact rfl) | (apply O.bytes; exact rfl; (focus ((repeat first | exact RdSl.own .zero | exact RdSl.view .zero | assumption | apply RdB.tail); done)); exact rfl) | (apply O.convSl; exact rfl; (focus ((repeat first | exact Upd.zero | apply Upd.succ); done)); exact rfl) | (apply W.cond_t; exact rfl) | (apply W.cond_f; exact rfl) | apply W.skip | apply W.ret | apply Fin.then_ret | (apply O.addStr; exact rfl; exact rfl; omega; exact rfl))
      exact Fin.meet (x3, n3) ⟨by dsimp only; omega, hl3, by dsimp only; omega⟩ (sub_cons rfl (sub_cons rfl sub_nil)) Ent.rfl
  rintro ⟨y, n⟩ ⟨hy, hl, hn⟩
  dsimp only at hy hl hn ⊢
  clear hx3 hl3 hn3
  have htl : lenTab.length = 256 := by simp [lenTab]
  have hti : ∀ (h : y < (str lenTab).size), ((str lenTab)[y]'h).toNat = lenP y := fun h => by
    have h1 : (str lenTab)[y]'h = lenTab[y]'(by omega) := rfl
    rw [h1]
    exact lenTab_at y hy
  have hw8 : IntKind.u8.wrap (y : Int) = (y : Int) := wrap_u8 (by omega) (by omega)
  (repeat' first | (apply O.move; exact rfl; exact rfl) | (apply O.assign; exact rfl; exact rfl) | apply W.seq | apply W.region | apply O.nil | apply Fin.next | (apply O.geq_t; exact rfl; exact rfl; omega; exact rfl) | (apply O.geq_f; exact rfl; exact rfl; omega; exact rfl) | (apply O.geq_d; exact rfl; exact rfl; exact rfl; all_goals intro _) | (apply O.add64; exact rfl; exact rfl; omega; exact rfl) | (apply O.add; exact rfl; exact rfl; exact rfl) | (apply O.convIntE; exact rfl; (first | exact wrap_i64 (by omega) (by omega) | exact wrap_u32 (by omega) (by omega) | exact wrap_u8 (by omega) (by omega)); exact rfl) | (apply O.convInt; exact rfl; exact rfl) | (apply O.shr; exact rfl; exact rfl; omega; exact rfl) | (apply O.bytes; exact rfl; (focus ((repeat first | exact RdSl.own .zero | exact RdSl.view .zero | assumption | apply RdB.tail); done)); exact rfl) | (apply O.convSl; exact rfl; (focus ((repeat first | exact Upd.zero | apply Upd.succ); done)); exact rfl) | (apply W.cond_t; exact rfl) | (apply W.cond_f; exact rfl) | apply W.skip | apply W.ret | apply Fin.then_ret | (apply O.addStr; exact rfl; exact rfl; omega; exact rfl))
  refine O.indexS (s := str lenTab) (c := lenP y) (by kernel_rfl) rfl ⟨by rw [size_str, lenTab_length]; exact hy, hti _⟩ rfl ?_
  have hl8 : lenP y ≤ 8 := by
    unfold lenP
    split
    · omega
    · rename_i h0
      have : y.log2 < 8 := (Nat.log2_lt h0).2 hy
      omega
  (repeat' first | (apply O.move; exact rfl; exact rfl) | (apply O.assign; exact rfl; exact rfl) | apply W.seq | apply W.region | apply O.nil | apply Fin.next | (apply O.geq_t; exact rfl; exact rfl; omega; exact rfl) | (apply O.geq_f; exact rfl; exact rfl; omega; exact rfl) | (apply O.geq_d; exact rfl; exact rfl; exact rfl; all_goals intro _) | (apply O.add64; exact rfl; exact rfl; omega; exact rfl) | (apply O.add; exact rfl; exact rfl; exact rfl) | (apply O.convIntE; exact rfl; (first | exact wrap_i64 (by omega) (by omega) | exact wrap_u32 (by omega) (by omega) | exact wrap_u8 (by omega) (by omega)); exact rfl) | (apply O.convInt; exact rfl; exact rfl) | (apply O.shr; exact rfl; exact rfl; omega; exact rfl) | (apply O.bytes; exact rfl; (focus ((repeat first | exact RdSl.own .zero | exact RdSl.view .zero | assumption | apply RdB.tail); done)); exact rfl) | (apply O.convSl; exact rfl; (focus ((repeat first | exact Upd.zero | apply Upd.succ); done)); exact rfl) | (apply W.cond_t; exact rfl) | (apply W.cond_f; exact rfl) | apply W.skip | apply W.ret | apply Fin.then_ret | (apply O.addStr; exact rfl; exact rfl; omega; exact rfl))
  exact Fin.ret R rfl Ent.rfl ⟨by rw [← hl, Int.natCast_add, Int.add_comm]; rfl, rfl⟩
theorem len_spec (R : List Res) (e : World) (x : Nat) (hx : x < 18446744073709551616) :
    Ct Try.prog 71 #[.int .u64 (x : Int)] e R (fun v' L' => v' = .int .i64 (lenP x : Int) ∧ R = L') := by
  refine Ct.enter (args := [_]) Try.func71 rfl Try.ntmps71 Try.results71 rfl ?_
  (repeat' first | (apply O.move; exact rfl; exact rfl) | (apply O.assign; exact rfl; exact rfl) | apply W.seq | apply W.region | apply O.nil | apply Fin.next | (apply O.convIntE; exact rfl; (first | exact wrap_i64 (by omega) (by omega) | exact wrap_u32 (by omega) (by omega) | exact wrap_u8 (by omega) (by omega)); exact rfl) | (apply O.convInt; exact rfl; exact rfl) | (apply O.bytes; exact rfl; (focus ((repeat first | exact RdSl.own .zero | exact RdSl.view .zero | assumption | apply RdB.tail); done)); exact rfl) | (apply O.convSl; exact rfl; (focus ((repeat first | exact Upd.zero | apply Upd.succ); done)); exact rfl) | (apply W.cond_t; exact rfl) | (apply W.cond_f; exact rfl) | apply W.skip | apply W.ret | apply Fin.then_ret)
  refine O.call rfl rfl (len64_spec R e x hx) ?_
  rintro _ _ ⟨rfl, rfl⟩
  (repeat' first | (apply O.move; exact rfl; exact rfl) | (apply O.assign; exact rfl; exact rfl) | apply W.seq | apply W.region | apply O.nil | apply Fin.next | (apply O.convIntE; exact rfl; (first | exact wrap_i64 (by omega) (by omega) | exact wrap_u32 (by omega) (by omega) | exact wrap_u8 (by omega) (by omega)); exact rfl) | (apply O.convInt; exact rfl; exact rfl) | (apply O.bytes; exact rfl; (focus ((repeat first | exact RdSl.own .zero | exact RdSl.view .zero | assumption | apply RdB.tail); done)); exact rfl) | (apply O.convSl; exact rfl; (focus ((repeat first | exact Upd.zero | apply Upd.succ); done)); exact rfl) | (apply W.cond_t; exact rfl) | (apply W.cond_f; exact rfl) | apply W.skip | apply W.ret | apply Fin.then_ret)
  exact Fin.ret R rfl Ent.rfl ⟨rfl, rfl⟩
end Go.Proofs
