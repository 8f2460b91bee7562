/- Lists of bytes, and their copies. -/
import Derived.Test.YtnifiamfdkdkkaaFacts
import Derived.Test.YtnifiamfdkdkkaaBe
namespace Go.Proofs
set_option linter.unusedVariables false
open Go.Bs
set_option linter.unusedSimpArgs false
attribute [local irreducible] Bs.Val Bs.Do Bs.O Bs.W Bs.Fin Bs.A Bs.Ct Bs.RdSl Bs.Rd Bs.Sat Bs.Blk Bs.Ob Bs.Own Bs.View Bs.Ent Bs.Ex Bs.All Bs.Pu Bs.Base Bs.sepL Bs.RdA
abbrev _root_.Go.Bs.tU8 : TypeId := 5
theorem u8_one {l : List UInt8} : ∀ c ∈ l.map u8, c.oneCell' = true := by
  intro c hc
  obtain ⟨x, _, rfl⟩ := List.mem_map.1 hc
  rfl
/-- A slice of bytes of one's own. -/
abbrev OwnB (v : Value) (l : List UInt8) : Res := Own tU8 1 v l.length (l.map u8)

theorem clone_spec (R : List Res) (e : World) (v : Value) (l : List UInt8) (h : RdB R v l) (hk : l.length ≤ 140737488355328) :
    Ct Try.prog 26 #[v] e R (fun v' L' => ∃ ad c, v' = .slice ad l.length c ∧ L' = OwnB (.slice ad l.length c) l :: R) := by
  refine Ct.of_sep (h.shape (by omega)) ?_
  rintro ⟨⟨ad, cap, rfl, h3, h4, h5, h6⟩, _⟩
  refine Ct.enter (args := [_]) Try.func26 rfl Try.ntmps26 Try.results26 rfl ?_
  cases ad with
  | none =>
    have hl0 : l = [] := by
      have := h5 rfl
      exact List.eq_nil_of_length_eq_zero (by omega)
    subst hl0
    (repeat' first | (apply O.move; exact rfl; exact rfl) | (apply O.assign; exact rfl; exact rfl) | apply W.seq | apply W.region | apply O.nil | apply Fin.next | (apply O.eqlPtrS; exact rfl; exact rfl; exact rfl) | (apply O.eqlPtrN; exact rfl; exact rfl; exact rfl) | (apply O.eqlSlS; exact rfl; exact rfl; exact rfl) | (apply O.eqlSlN; exact rfl; exact rfl; exact rfl) | (apply O.eql_t; exact rfl; exact rfl; omega; exact rfl) | (apply O.eql_f; exact rfl; exact rfl; omega; exact rfl) | (apply O.eql_d; exact rfl; exact rfl; exact rfl; all_goals intro _) | (apply O.eqlStr_t; exact rfl; exact rfl; (first | exact rfl | assumption); exact rfl) | (apply O.eqlStr_f; exact rfl; exact rfl; assumption; exact rfl) | (apply O.eqlStr_d; exact rfl; exact rfl; exact rfl; all_goals intro _) | (apply O.buildSlice; exact rfl; exact rfl; exact rfl; (focus ((repeat first | exact Bs.Parts.nil | apply Bs.Parts.one rfl rfl | apply Bs.Parts.one (Bs.cells_one (by assumption)) rfl | (apply Bs.Parts.agg; exact rfl)); done)); exact rfl; exact rfl; intro _) | (apply O.eqlBoolS; exact rfl; exact rfl; exact rfl) | (apply O.eqlBool; exact rfl; exact rfl; exact rfl) | (apply W.cond_t; exact rfl) | (apply W.cond_f; exact rfl) | apply W.skip | apply W.ret | apply Fin.then_ret)
    exact Fin.ret _ rfl (own_nil _ _) ⟨_, _, rfl, rfl⟩
  | some a =>
    (repeat' first | (apply O.move; exact rfl; exact rfl) | (apply O.assign; exact rfl; exact rfl) | apply W.seq | apply W.region | apply O.nil | apply Fin.next | (apply O.eqlPtrS; exact rfl; exact rfl; exact rfl) | (apply O.eqlPtrN; exact rfl; exact rfl; exact rfl) | (apply O.eqlSlS; exact rfl; exact rfl; exact rfl) | (apply O.eqlSlN; exact rfl; exact rfl; exact rfl) | (apply O.eql_t; exact rfl; exact rfl; omega; exact rfl) | (apply O.eql_f; exact rfl; exact rfl; omega; exact rfl) | (apply O.eql_d; exact rfl; exact rfl; exact rfl; all_goals intro _) | (apply O.eqlStr_t; exact rfl; exact rfl; (first | exact rfl | assumption); exact rfl) | (apply O.eqlStr_f; exact rfl; exact rfl; assumption; exact rfl) | (apply O.eqlStr_d; exact rfl; exact rfl; exact rfl; all_goals intro _) | (apply O.buildSlice; exact rfl; exact rfl; exact rfl; (focus ((repeat first | exact Bs.Parts.nil | apply Bs.Parts.one rfl rfl | apply Bs.Parts.one (Bs.cells_one (by assumption)) rfl | (apply Bs.Parts.agg; exact rfl)); done)); exact rfl; exact rfl; intro _) | (apply O.eqlBoolS; exact rfl; exact rfl; exact rfl) | (apply O.eqlBool; exact rfl; exact rfl; exact rfl) | (apply W.cond_t; exact rfl) | (apply W.cond_f; exact rfl) | apply W.skip | apply W.ret | apply Fin.then_ret)
    refine O.ent1 (own_in (n := 1) (k := 0) (cap := 0) (by omega) (by simp [maxLen]) rfl) ?_
    refine O.do (Do.append rfl rfl rfl .zero h rfl rfl u8_one (by simp only [maxLen]; omega) (by omega) fun ad' c' hv' => ?_)
    (repeat' first | (apply O.move; exact rfl; exact rfl) | (apply O.assign; exact rfl; exact rfl) | apply W.seq | apply W.region | apply O.nil | apply Fin.next | (apply O.eqlPtrS; exact rfl; exact rfl; exact rfl) | (apply O.eqlPtrN; exact rfl; exact rfl; exact rfl) | (apply O.eqlSlS; exact rfl; exact rfl; exact rfl) | (apply O.eqlSlN; exact rfl; exact rfl; exact rfl) | (apply O.eql_t; exact rfl; exact rfl; omega; exact rfl) | (apply O.eql_f; exact rfl; exact rfl; omega; exact rfl) | (apply O.eql_d; exact rfl; exact rfl; exact rfl; all_goals intro _) | (apply O.eqlStr_t; exact rfl; exact rfl; (first | exact rfl | assumption); exact rfl) | (apply O.eqlStr_f; exact rfl; exact rfl; assumption; exact rfl) | (apply O.eqlStr_d; exact rfl; exact rfl; exact rfl; all_goals intro _) | (apply O.buildSlice; exact rfl; exact rfl; exact rfl; (focus ((repeat first | exact Bs.Parts.nil | apply Bs.Parts.one rfl rfl | apply Bs.Parts.one (Bs.cells_one (by assumption)) rfl | (apply Bs.Parts.agg; exact rfl)); done)); exact rfl; exact rfl; intro _) | (apply O.eqlBoolS; exact rfl; exact rfl; exact rfl) | (apply O.eqlBool; exact rfl; exact rfl; exact rfl) | (apply W.cond_t; exact rfl) | (apply W.cond_f; exact rfl) | apply W.skip | apply W.ret | apply Fin.then_ret)
    refine Fin.ret _ rfl ?_ ⟨ad', c', by simp [tup], rfl⟩
    simp only [Nat.zero_add]
    exact Ent.rfl

theorem ownB_cut {ad : Option Addr} {c k : Nat} {b : List UInt8} {R : List Res} (h : k ≤ b.length) : Ent (OwnB (.slice ad b.length c) b :: R) (OwnB (.slice ad (b.take k).length c) (b.take k) :: R) := by
  have e1 : (b.take k).length = k := by rw [List.length_take]; omega
  have := own_cutHi (E := tU8) (n := 1) (c := c) (ad := ad) (xs := b.map u8) (R := R) h
  rw [Nat.mul_one, ← List.map_take] at this
  unfold OwnB
  rw [e1]
  exact this
theorem ownB_cap {v : Value} {b : List UInt8} {L R : List Res} (p : Pull L (OwnB v b) R) : ∀ h, sepL L h → ∃ ad c, v = .slice ad b.length c ∧ b.length ≤ c ∧ c ≤ maxLen := fun h x => by
  obtain ⟨⟨ad, c, h1, h2, h3, _⟩, _⟩ := own_shape p h x
  exact ⟨ad, c, h1, h2, h3⟩
theorem own_addr {E n k c : Nat} {ad : Option Addr} {xs : List Value} {L R : List Res} (p : Pull L (Own E n (.slice ad k c) k xs) R) (hk : 0 < k) : ∀ h, sepL L h → ∃ g, ad = some ⟨g, 0, none⟩ := fun h x => by
  obtain ⟨⟨a, c', h1, _, _, h4⟩, _⟩ := own_shape p h x
  cases h1
  rcases h4 with ⟨_, _, h0⟩ | h0
  · omega
  · exact h0
theorem RdB.cutHi {L : List Res} {ad : Option Addr} {c k : Nat} {l : List UInt8} (h : RdB L (.slice ad l.length c) l) (hk : k ≤ l.length) : RdB L (.slice ad k c) (l.take k) := by
  have := RdSl.cutHi (L := L) h hk
  rw [Nat.mul_one, ← List.map_take] at this
  have e : (l.take k).length = k := by simp; omega
  unfold RdB
  rw [e]; exact this
theorem RdB.one {L : List Res} {v : Value} {l : List UInt8} (h : RdB L v l) : ∀ x, sepL L x → v.oneCell' = true := fun x hx => by
  obtain ⟨⟨ad, c, rfl, _⟩, _⟩ := h.shape (by omega) x hx
  rfl
theorem rdb_zeros {L R : List Res} {v : Value} {n : Nat} (p : Pull L (Own tU8 1 v n (List.replicate n (.int .u8 0))) R) : RdB L v (List.replicate n 0) := by
  have h := RdSl.own p
  unfold RdB
  rw [List.length_replicate, List.map_replicate]
  exact h
end Go.Proofs
