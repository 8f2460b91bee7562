/- growths: what leads, Leads, CheckGrow do. -/
import Derived.Test.YtaghckfpnfkihaaGrow
namespace Go.Proofs
set_option linter.unusedVariables false
open Go.Bs
set_option linter.unusedSimpArgs false
attribute [local irreducible] Bs.Val Bs.Do Bs.O Bs.W Bs.Fin Bs.A Bs.Ct Bs.RdSl Bs.Rd Bs.Sat Bs.Blk Bs.Ob Bs.Own Bs.View Bs.Ent Bs.Ex Bs.All Bs.Pu Bs.Base Bs.sepL Bs.RdA
theorem gleads_spec : ∀ (q : Nat) (R : List Res) (e : World) (ad : Option Addr) (cap : Nat) (ts : List Txt) (m n : Nat) (w : Bool) (v : Value) (old : List UInt8), ts.length = q → RdSl R 1 (.slice ad ts.length cap) ts.length (ts.map (·.1)) → Txts R ts → (∀ a ∈ ts, a.2.length ≤ 1000000) → ts.length ≤ 1000000 → n < 9223372036854775808 → 1 ≤ m → m ≤ n → RdB R v old → old.length ≤ 1000000 →
    Ct Try.prog 50 #[.slice ad ts.length cap, .int .i64 (m : Int), .int .i64 (n : Int), v, .bool w] e R (fun v' L' => ∃ (As : List Res) (v1 v2 : Value) (a b : List UInt8), v' = .tuple #[v1, v2, .bool (decide (ts.length = glenP m n w))] ∧ (ts.length = glenP m n w → (a, b) = gleadP m n w (ts.map (·.2)) old) ∧ a.length ≤ 1000000 ∧ b.length ≤ 1000000 ∧ L' = As ++ R ∧ RdB (As ++ R) v1 a ∧ RdB (As ++ R) v2 b) := by
  intro q
  induction q using Nat.strongRecOn with
  | _ q ih =>
  intro R e ad cap ts m n w v old hq hv ht hsz hl hn hm1 hm2 hb hbl
  refine Ct.enter (args := [_, _, _, _, _]) Try.func50 rfl Try.ntmps50 Try.results50 rfl ?_
  by_cases he : m = n
  · subst he
    cases w
    · (repeat' first | (apply O.move; exact rfl; exact rfl) | (apply O.assign; exact rfl; exact rfl) | apply W.seq | apply W.region | apply O.nil | apply Fin.next | (apply O.pick_t; exact rfl; exact rfl; exact rfl) | (apply O.want; exact rfl) | (apply O.eql_t; exact rfl; exact rfl; omega; exact rfl) | (apply W.cond_f; exact rfl) | apply W.skip)
      refine O.call rfl rfl (last_spec _ e ad cap ts hv hl) ?_
      rintro _ _ ⟨⟨rfl, rfl⟩ | ⟨us, a, rfl, rfl⟩, rfl⟩
      · (repeat' first | (apply O.move; exact rfl; exact rfl) | (apply O.assign; exact rfl; exact rfl) | apply W.seq | apply W.region | apply O.nil | apply Fin.next | (apply O.not_f; exact rfl; exact rfl) | (apply W.cond_t; exact rfl) | apply W.block | apply W.ret | apply Fin.then_ret | apply Fin.block_ret | (apply O.extract; exact rfl; exact rfl; exact rfl))
        exact Fin.ret R rfl Ent.rfl ⟨[], .slice none 0 0, .slice none 0 0, [], [], by rw [glenP_root, decide_eq_false (by simp)]; rfl, fun h => (by rw [glenP_root] at h; simp at h), by simp, by simp, rfl, RdB.nil _, RdB.nil _⟩
      have ha : RdB R a.1 a.2 := ht a (List.mem_append.2 (.inr (List.mem_singleton.2 rfl)))
      have hal := hsz a (List.mem_append.2 (.inr (List.mem_singleton.2 rfl)))
      by_cases h0 : us.length = 0
      · (repeat' first | (apply O.move; exact rfl; exact rfl) | (apply O.assign; exact rfl; exact rfl) | apply W.seq | apply W.region | apply O.nil | apply Fin.next | (apply O.len; exact rfl; exact rfl) | (apply O.not_t; exact rfl; exact rfl) | (apply O.eql_t; exact rfl; exact rfl; omega; exact rfl) | (apply W.cond_t; exact rfl) | (apply W.cond_f; exact rfl) | apply W.block | apply W.ret | apply Fin.then_ret | apply Fin.block_ret | (apply O.extract; exact rfl; exact rfl; exact rfl))
        exact Fin.ret R rfl Ent.rfl ⟨[], a.1, a.1, a.2, a.2, by rw [glenP_root, decide_eq_true (by rw [List.length_append, List.length_singleton, h0])]; rfl, fun h => (by rw [gleadP_root, lastP_map]), hal, hal, rfl, ha, ha⟩
      · (repeat' first | (apply O.move; exact rfl; exact rfl) | (apply O.assign; exact rfl; exact rfl) | apply W.seq | apply W.region | apply O.nil | apply Fin.next | (apply O.len; exact rfl; exact rfl) | (apply O.not_t; exact rfl; exact rfl) | (apply O.eql_t; exact rfl; exact rfl; omega; exact rfl) | (apply O.eql_f; exact rfl; exact rfl; omega; exact rfl) | (apply W.cond_t; exact rfl) | (apply W.cond_f; exact rfl) | apply W.block | apply W.ret | apply Fin.then_ret | apply Fin.block_ret | (apply O.extract; exact rfl; exact rfl; exact rfl))
        exact Fin.ret R rfl Ent.rfl ⟨[], a.1, a.1, a.2, a.2, by rw [glenP_root, decide_eq_false (by rw [List.length_append, List.length_singleton]; omega)]; rfl, fun h => (by rw [gleadP_root, lastP_map]), hal, hal, rfl, ha, ha⟩
    · by_cases h0 : ts.length = 0
      · (repeat' first | (apply O.move; exact rfl; exact rfl) | (apply O.assign; exact rfl; exact rfl) | apply W.seq | apply W.region | apply O.nil | apply Fin.next | (apply O.len; exact rfl; exact rfl) | (apply O.pick_t; exact rfl; exact rfl; exact rfl) | (apply O.want; exact rfl) | (apply O.eql_t; exact rfl; exact rfl; omega; exact rfl) | (apply W.cond_t; exact rfl) | apply W.ret | apply Fin.then_ret)
        exact Fin.ret R rfl Ent.rfl ⟨[], v, v, old, old, by rw [glenP_all, decide_eq_true h0]; rfl, fun h => (by rw [gleadP_all]), hbl, hbl, rfl, hb, hb⟩
      · (repeat' first | (apply O.move; exact rfl; exact rfl) | (apply O.assign; exact rfl; exact rfl) | apply W.seq | apply W.region | apply O.nil | apply Fin.next | (apply O.len; exact rfl; exact rfl) | (apply O.pick_t; exact rfl; exact rfl; exact rfl) | (apply O.want; exact rfl) | (apply O.eql_t; exact rfl; exact rfl; omega; exact rfl) | (apply O.eql_f; exact rfl; exact rfl; omega; exact rfl) | (apply W.cond_t; exact rfl) | apply W.ret | apply Fin.then_ret)
        exact Fin.ret R rfl Ent.rfl ⟨[], v, v, old, old, by rw [glenP_all, decide_eq_false h0]; rfl, fun h => (by rw [gleadP_all]), hbl, hbl, rfl, hb, hb⟩
  have h2 : 2 ≤ n := by omega
  have hs := splitP_spec h2
  have hlo := fun h => glenP_lo (w := w) he h2 h
  have hhi := fun h => glenP_hi (w := w) he h2 h
  have hplo := fun p h => gleadP_lo (w := w) (p := p) (old := old) he h2 h
  have hphi := fun p h => gleadP_hi (w := w) (p := p) (old := old) he h2 h
  have hpos : 0 < glenP m n w := by
    by_cases h : m ≤ splitP n
    · rw [hlo h]; omega
    · rw [hhi h]; omega
  (repeat' first | (apply O.move; exact rfl; exact rfl) | (apply O.assign; exact rfl; exact rfl) | apply W.seq | apply W.region | apply O.nil | apply Fin.next | (apply O.pick_f; exact rfl; exact rfl; exact rfl) | (apply O.unwant; exact rfl; exact rfl) | (apply O.eql_f; exact rfl; exact rfl; omega; exact rfl) | (apply W.cond_f; exact rfl) | apply W.skip)
  refine O.call rfl rfl (last_spec _ e ad cap ts hv hl) ?_
  rintro _ _ ⟨⟨rfl, rfl⟩ | ⟨us, a, rfl, rfl⟩, rfl⟩
  · (repeat' first | (apply O.move; exact rfl; exact rfl) | (apply O.assign; exact rfl; exact rfl) | apply W.seq | apply W.region | apply O.nil | apply Fin.next | (apply O.not_f; exact rfl; exact rfl) | (apply W.cond_t; exact rfl) | apply W.block | apply W.ret | apply Fin.then_ret | apply Fin.block_ret | (apply O.extract; exact rfl; exact rfl; exact rfl))
    exact Fin.ret R rfl Ent.rfl ⟨[], .slice none 0 0, .slice none 0 0, [], [], by rw [decide_eq_false (by simp; omega)]; rfl, fun h => (by simp at h; omega), by simp, by simp, rfl, RdB.nil _, RdB.nil _⟩
  have hl1 : (us ++ [a]).length = us.length + 1 := by rw [List.length_append, List.length_singleton]
  have hrd := init_rd hv
  have hTu : Txts R us := fun x hx => ht x (List.mem_append.2 (.inl hx))
  have ha : RdB R a.1 a.2 := ht a (List.mem_append.2 (.inr (List.mem_singleton.2 rfl)))
  have hal := hsz a (List.mem_append.2 (.inr (List.mem_singleton.2 rfl)))
  have hsu : ∀ x ∈ us, x.2.length ≤ 1000000 := fun x hx => hsz x (List.mem_append.2 (.inl hx))
  (repeat' first | (apply O.move; exact rfl; exact rfl) | (apply O.assign; exact rfl; exact rfl) | apply W.seq | apply W.region | apply O.nil | apply Fin.next | (apply O.not_t; exact rfl; exact rfl) | (apply O.eql_f; exact rfl; exact rfl; omega; exact rfl) | (apply W.cond_f; exact rfl) | apply W.block | apply W.skip | apply Fin.block_normal | (apply O.extract; exact rfl; exact rfl; exact rfl))
  refine O.call rfl rfl (split_spec R e n (by omega)) ?_
  rintro _ _ ⟨rfl, rfl⟩
  rw [splitI_nat]
  generalize splitP n = k at *
  have tapp : ∀ {v : Value} {b : List UInt8} (h : RdB R v b) (As : List Res), RdB (As ++ R) v b := fun h As => by
    induction As with
    | nil => exact h
    | cons A As ih => exact ih.tail
  by_cases hik : m ≤ k
  · (repeat' first | (apply O.move; exact rfl; exact rfl) | (apply O.assign; exact rfl; exact rfl) | apply W.seq | apply W.region | apply O.nil | apply Fin.next | (apply O.leq_t; exact rfl; exact rfl; omega; exact rfl) | (apply W.cond_t; exact rfl))
    refine O.call rfl rfl (ih us.length (by omega) R e ad cap us m k w v old rfl hrd hTu hsu (by omega) (by omega) hm1 hik hb hbl) ?_
    rintro _ _ ⟨As, v1, v2, x, y, rfl, h7, h8, h9, rfl, h10, h11⟩
    (repeat' first | (apply O.move; exact rfl; exact rfl) | (apply O.assign; exact rfl; exact rfl) | apply W.seq | apply W.region | apply O.nil | apply Fin.next | (apply O.extract; exact rfl; exact rfl; exact rfl))
    refine O.call rfl rfl (node_spec _ e _ _ _ _ h11 (tapp ha As) h9 hal) ?_
    rintro _ _ ⟨ad3, c3, rfl, rfl⟩
    (repeat' first | (apply O.move; exact rfl; exact rfl) | (apply O.assign; exact rfl; exact rfl) | apply O.nil | apply Fin.next | apply W.ret | apply Fin.then_ret)
    refine Fin.ret (OwnB (.slice ad3 (nodeP y a.2).length c3) (nodeP y a.2) :: (As ++ R)) rfl Ent.rfl ⟨OwnB (.slice ad3 (nodeP y a.2).length c3) (nodeP y a.2) :: As, v1, .slice ad3 (nodeP y a.2).length c3, x, nodeP y a.2, ?_, fun h => ?_, h8, by rw [nodeP, tagP_length]; omega, rfl, h10.tail, RdSl.own .zero⟩
    · rw [hl1, hlo hik, decide_eq_decide.2 (show us.length = glenP m k w ↔ us.length + 1 = glenP m k w + 1 by omega)]; rfl
    · rw [hl1, hlo hik] at h
      rw [hplo _ hik, dropLast_map, lastP_map, ← h7 (by omega)]
  · (repeat' first | (apply O.move; exact rfl; exact rfl) | (apply O.assign; exact rfl; exact rfl) | apply W.seq | apply W.region | apply O.nil | apply Fin.next | (apply O.leq_f; exact rfl; exact rfl; omega; exact rfl) | (apply O.sub64; exact rfl; exact rfl; omega; exact rfl) | (apply W.cond_f; exact rfl) | apply W.skip)
    rw [show ((m : Nat) : Int) - ((k : Nat) : Int) = ((m - k : Nat) : Int) by omega, show ((n : Nat) : Int) - ((k : Nat) : Int) = ((n - k : Nat) : Int) by omega]
    refine O.call rfl rfl (ih us.length (by omega) R e ad cap us (m - k) (n - k) false v old rfl hrd hTu hsu (by omega) (by omega) (by omega) (by omega) hb hbl) ?_
    rintro _ _ ⟨As, v1, v2, x, y, rfl, h7, h8, h9, rfl, h10, h11⟩
    (repeat' first | (apply O.move; exact rfl; exact rfl) | (apply O.assign; exact rfl; exact rfl) | apply W.seq | apply W.region | apply O.nil | apply Fin.next | (apply O.extract; exact rfl; exact rfl; exact rfl))
    refine O.call rfl rfl (node_spec _ e _ _ _ _ (tapp ha As) h10 hal h8) ?_
    rintro _ _ ⟨ad3, c3, rfl, rfl⟩
    (repeat' first | (apply O.move; exact rfl; exact rfl))
    refine O.call rfl rfl (node_spec _ e _ _ _ _ (tapp ha As).tail h11.tail hal h9) ?_
    rintro _ _ ⟨ad4, c4, rfl, rfl⟩
    (repeat' first | (apply O.move; exact rfl; exact rfl) | (apply O.assign; exact rfl; exact rfl) | apply O.nil | apply Fin.next | apply W.ret)
    refine Fin.ret (OwnB (.slice ad4 (nodeP a.2 y).length c4) (nodeP a.2 y) :: OwnB (.slice ad3 (nodeP a.2 x).length c3) (nodeP a.2 x) :: (As ++ R)) rfl Ent.rfl ⟨OwnB (.slice ad4 (nodeP a.2 y).length c4) (nodeP a.2 y) :: OwnB (.slice ad3 (nodeP a.2 x).length c3) (nodeP a.2 x) :: As, .slice ad3 (nodeP a.2 x).length c3, .slice ad4 (nodeP a.2 y).length c4, nodeP a.2 x, nodeP a.2 y, ?_, fun h => ?_, by rw [nodeP, tagP_length]; omega, by rw [nodeP, tagP_length]; omega, rfl, RdSl.own (.succ .zero), RdSl.own .zero⟩
    · rw [hl1, hhi hik, decide_eq_decide.2 (show us.length = glenP (m - k) (n - k) false ↔ us.length + 1 = glenP (m - k) (n - k) false + 1 by omega)]; rfl
    · rw [hl1, hhi hik] at h
      rw [hphi _ hik, dropLast_map, lastP_map, ← h7 (by omega)]
/-- Does a growth lead anywhere? -/
def GrowOk (n m : Int) (ts : List Txt) (old : List UInt8) : Prop := rightP ts = true ∧ 0 < n ∧ n < m ∧ old.length = 32 ∧ ts.length = glenP n.toNat m.toNat true
instance (n m : Int) (ts : List Txt) (old : List UInt8) : Decidable (GrowOk n m ts old) := by unfold GrowOk; infer_instance
abbrev GrowTo (n m : Int) (ts : List Txt) (old : List UInt8) : List UInt8 × List UInt8 := gleadP n.toNat m.toNat true (ts.map (·.2)) old
theorem pLeads_spec (R : List Res) (e : World) (n m : Int) (vp vb : Value) (ts : List Txt) (b : List UInt8) (h1 : -9223372036854775808 ≤ n ∧ n ≤ 9223372036854775807) (h2 : -9223372036854775808 ≤ m ∧ m ≤ 9223372036854775807) (hv : RdSl R 1 vp ts.length (ts.map (·.1))) (ht : Txts R ts) (hb : RdB R vb b) :
    Ct Try.prog 31 #[.agg #[.int .i64 n, .int .i64 m, vp], vb] e R (fun v' L' =>
      (GrowOk n m ts b ∧ ∃ ad c ad' c', v' = .tuple #[.slice ad (GrowTo n m ts b).1.length c, .slice ad' (GrowTo n m ts b).2.length c', .bool true] ∧ L' = OwnB (.slice ad' (GrowTo n m ts b).2.length c') (GrowTo n m ts b).2 :: OwnB (.slice ad (GrowTo n m ts b).1.length c) (GrowTo n m ts b).1 :: R) ∨
      (¬ GrowOk n m ts b ∧ v' = .tuple #[.slice none 0 0, .slice none 0 0, .bool false] ∧ R = L')) := by
  refine Ct.of_sep (hv.shape (by omega)) ?_
  rintro ⟨⟨ad, cap, rfl, h3, h4, h5, h6⟩, _⟩
  refine Ct.enter (args := [_, _]) Try.func31 rfl Try.ntmps31 Try.results31 rfl ?_
  (repeat' first | (apply O.assign; exact rfl; exact rfl) | apply W.seq | apply W.region | apply O.nil | apply Fin.next | (apply O.fieldAddr; exact rfl; exact rfl) | (apply O.load; exact rfl; (focus ((repeat first | exact Rd.blk .zero rfl | assumption | apply Rd.tail); done)); exact rfl) | (apply O.box; exact rfl; exact rfl; exact rfl; intro _))
  rename_i g
  refine O.call rfl rfl (rightP_spec _ e _ ts hv.tail ht.tail) ?_
  rintro _ _ ⟨rfl, rfl⟩
  by_cases hr : rightP ts = true
  rotate_left
  · rw [show rightP ts = false by simpa using hr]
    (repeat' first | (apply O.move; exact rfl; exact rfl) | (apply O.assign; exact rfl; exact rfl) | apply W.seq | apply W.region | apply O.nil | apply Fin.next | (apply O.pick_t; exact rfl; exact rfl; exact rfl) | (apply O.unwant; exact rfl; exact rfl) | (apply O.not_f; exact rfl; exact rfl) | (apply W.cond_t; exact rfl) | apply W.ret | apply Fin.then_ret)
    exact Fin.ret R rfl (by (repeat first | exact Ent.rfl | exact Ent.nil | refine Ent.cons ?_ | (apply Ent.pull; exact (by (repeat first | exact Pull.zero | apply Pull.succ); done)) | refine Ent.drop ?_); done) (.inr ⟨fun h => hr h.1, rfl, rfl⟩)
  rw [hr]
  obtain ⟨r1, r2⟩ := rightP_iff.1 hr
  by_cases h0 : 0 < n
  rotate_left
  · (repeat' first | (apply O.move; exact rfl; exact rfl) | (apply O.assign; exact rfl; exact rfl) | apply W.seq | apply W.region | apply O.nil | apply Fin.next | (apply O.fieldAddr; exact rfl; exact rfl) | (apply O.load; exact rfl; (focus ((repeat first | exact Rd.blk .zero rfl | assumption | apply Rd.tail); done)); exact rfl) | (apply O.pick_t; exact rfl; exact rfl; exact rfl) | (apply O.pick_f; exact rfl; exact rfl; exact rfl) | (apply O.want; exact rfl) | (apply O.unwant; exact rfl; exact rfl) | (apply O.not_t; exact rfl; exact rfl) | (apply O.leq_t; exact rfl; exact rfl; omega; exact rfl) | (apply W.cond_t; exact rfl) | apply W.ret | apply Fin.then_ret)
    exact Fin.ret R rfl (by (repeat first | exact Ent.rfl | exact Ent.nil | refine Ent.cons ?_ | (apply Ent.pull; exact (by (repeat first | exact Pull.zero | apply Pull.succ); done)) | refine Ent.drop ?_); done) (.inr ⟨fun h => h0 h.2.1, rfl, rfl⟩)
  by_cases hlt : n < m
  rotate_left
  · (repeat' first | (apply O.move; exact rfl; exact rfl) | (apply O.assign; exact rfl; exact rfl) | apply W.seq | apply W.region | apply O.nil | apply Fin.next | (apply O.fieldAddr; exact rfl; exact rfl) | (apply O.load; exact rfl; (focus ((repeat first | exact Rd.blk .zero rfl | assumption | apply Rd.tail); done)); exact rfl) | (apply O.pick_t; exact rfl; exact rfl; exact rfl) | (apply O.pick_f; exact rfl; exact rfl; exact rfl) | (apply O.want; exact rfl) | (apply O.unwant; exact rfl; exact rfl) | (apply O.not_t; exact rfl; exact rfl) | (apply O.leq_f; exact rfl; exact rfl; omega; exact rfl) | (apply O.geq_t; exact rfl; exact rfl; omega; exact rfl) | (apply W.cond_t; exact rfl) | apply W.ret | apply Fin.then_ret)
    exact Fin.ret R rfl (by (repeat first | exact Ent.rfl | exact Ent.nil | refine Ent.cons ?_ | (apply Ent.pull; exact (by (repeat first | exact Pull.zero | apply Pull.succ); done)) | refine Ent.drop ?_); done) (.inr ⟨fun h => hlt h.2.2.1, rfl, rfl⟩)
  (repeat' first | (apply O.move; exact rfl; exact rfl) | (apply O.fieldAddr; exact rfl; exact rfl) | (apply O.load; exact rfl; (focus ((repeat first | exact Rd.blk .zero rfl | assumption | apply Rd.tail); done)); exact rfl) | (apply O.pick_f; exact rfl; exact rfl; exact rfl) | (apply O.want; exact rfl) | (apply O.not_t; exact rfl; exact rfl) | (apply O.leq_f; exact rfl; exact rfl; omega; exact rfl) | (apply O.geq_f; exact rfl; exact rfl; omega; exact rfl))
  refine O.call rfl rfl (is_spec _ e _ b hb.tail) ?_
  rintro _ _ ⟨rfl, rfl⟩
  by_cases h32 : b.length = 32
  rotate_left
  · rw [decide_eq_false h32]
    (repeat' first | (apply O.assign; exact rfl; exact rfl) | apply W.seq | apply W.region | apply O.nil | apply Fin.next | (apply O.pick_f; exact rfl; exact rfl; exact rfl) | (apply O.want; exact rfl) | (apply O.not_f; exact rfl; exact rfl) | (apply W.cond_t; exact rfl) | apply W.ret | apply Fin.then_ret)
    exact Fin.ret R rfl (by (repeat first | exact Ent.rfl | exact Ent.nil | refine Ent.cons ?_ | (apply Ent.pull; exact (by (repeat first | exact Pull.zero | apply Pull.succ); done)) | refine Ent.drop ?_); done) (.inr ⟨fun h => h32 h.2.2.2.1, rfl, rfl⟩)
  rw [decide_eq_true h32]
  obtain ⟨i, rfl⟩ := Int.eq_ofNat_of_zero_le (show 0 ≤ n by omega)
  obtain ⟨j, rfl⟩ := Int.eq_ofNat_of_zero_le (show 0 ≤ m by omega)
  (repeat' first | (apply O.move; exact rfl; exact rfl) | apply W.seq | apply W.region | apply O.nil | apply Fin.next | (apply O.fieldAddr; exact rfl; exact rfl) | (apply O.load; exact rfl; (focus ((repeat first | exact Rd.blk .zero rfl | assumption | apply Rd.tail); done)); exact rfl) | (apply O.pick_f; exact rfl; exact rfl; exact rfl) | (apply O.want; exact rfl) | (apply O.not_t; exact rfl; exact rfl) | (apply W.cond_f; exact rfl) | apply W.skip)
  refine O.call rfl rfl (gleads_spec ts.length _ e ad cap ts i j true vb b rfl hv.tail ht.tail (fun a ha => by have := r2 a ha; omega) (by omega) (by omega) (by omega) (by omega) hb.tail (by omega)) ?_
  rintro _ _ ⟨As, v1, v2, x, y, rfl, h7, h8, h9, rfl, h10, h11⟩
  have hdrop : ∀ (As : List Res) (M : List Res), Ent (As ++ M) M := fun As M => by
    induction As with
    | nil => exact Ent.rfl
    | cons A As ih => exact Ent.drop ih
  by_cases hlg : ts.length = glenP i j true
  · rw [decide_eq_true hlg]
    have h12 := h7 hlg
    have e1 : GrowTo (i : Int) (j : Int) ts b = (x, y) := h12.symm
    rw [e1]
    dsimp only
    (repeat' first | (apply O.move; exact rfl; exact rfl) | (apply O.assign; exact rfl; exact rfl) | apply W.seq | apply W.region | apply O.nil | apply Fin.next | (apply O.not_t; exact rfl; exact rfl) | (apply W.cond_f; exact rfl) | apply W.skip | (apply O.extract; exact rfl; exact rfl; exact rfl))
    refine O.call rfl rfl (clone_spec _ e _ x h10 (by omega)) ?_
    rintro _ _ ⟨ad1, c1, rfl, rfl⟩
    (repeat' first | (apply O.move; exact rfl; exact rfl))
    refine O.call rfl rfl (clone_spec _ e _ y h11.tail (by omega)) ?_
    rintro _ _ ⟨ad2, c2, rfl, rfl⟩
    (repeat' first | (apply O.assign; exact rfl; exact rfl) | apply O.nil | apply Fin.next | apply W.ret)
    exact Fin.ret (OwnB (.slice ad2 y.length c2) y :: OwnB (.slice ad1 x.length c1) x :: R) rfl (Ent.cons (Ent.cons (Ent.trans (hdrop As _) (Ent.drop Ent.rfl)))) (.inl ⟨⟨hr, h0, hlt, h32, hlg⟩, ad1, c1, ad2, c2, rfl, rfl⟩)
  · rw [decide_eq_false hlg]
    (repeat' first | (apply O.move; exact rfl; exact rfl) | (apply O.assign; exact rfl; exact rfl) | apply W.seq | apply W.region | apply O.nil | apply Fin.next | (apply O.not_f; exact rfl; exact rfl) | (apply W.cond_t; exact rfl) | apply W.ret | apply Fin.then_ret | (apply O.extract; exact rfl; exact rfl; exact rfl))
    exact Fin.ret R rfl (Ent.trans (hdrop As _) (Ent.drop Ent.rfl)) (.inr ⟨fun h => hlg h.2.2.2.2, rfl, rfl⟩)
/-- Does a growth lead from a root to another one? -/
def GrowChk (n m : Int) (ts : List Txt) (old now : List UInt8) : Prop :=
  (n = m ∧ 0 ≤ n ∧ ts.length = 0 ∧ old.length = 32 ∧ old = now) ∨ (n = 0 ∧ n < m ∧ ts.length = 0 ∧ old = sha [] ∧ now.length = 32) ∨ (GrowOk n m ts old ∧ (GrowTo n m ts old).1 = old ∧ (GrowTo n m ts old).2 = now)
instance (n m : Int) (ts : List Txt) (old now : List UInt8) : Decidable (GrowChk n m ts old now) := by unfold GrowChk; infer_instance
theorem checkGrow_spec (R : List Res) (e : World) (n m : Int) (vp vb vn : Value) (ts : List Txt) (b now : List UInt8) (h1 : -9223372036854775808 ≤ n ∧ n ≤ 9223372036854775807) (h2 : -9223372036854775808 ≤ m ∧ m ≤ 9223372036854775807) (hv : RdSl R 1 vp ts.length (ts.map (·.1))) (ht : Txts R ts) (hb : RdB R vb b) (hw : RdB R vn now) :
    Ct Try.prog 30 #[.agg #[.int .i64 n, .int .i64 m, vp], vb, vn] e R (fun v' L' => v' = .bool (decide (GrowChk n m ts b now)) ∧ R = L') := by
  refine Ct.of_sep (hv.shape (by omega)) ?_
  rintro ⟨⟨ad, cap, rfl, h3, h4, h5, h6⟩, _⟩
  refine Ct.enter (args := [_, _, _]) Try.func30 rfl Try.ntmps30 Try.results30 rfl ?_
  by_cases h0 : 0 ≤ n
  rotate_left
  · rw [decide_eq_false (by rintro (h | h | h); (omega); (omega); (have := h.1.2.1; omega))]
    (repeat' first | (apply O.move; exact rfl; exact rfl) | (apply O.assign; exact rfl; exact rfl) | apply W.seq | apply W.region | apply O.nil | apply Fin.next | (apply O.fieldAddr; exact rfl; exact rfl) | (apply O.load; exact rfl; (focus ((repeat first | exact Rd.blk .zero rfl | assumption | apply Rd.tail); done)); exact rfl) | (apply O.pick_t; exact rfl; exact rfl; exact rfl) | (apply O.unwant; exact rfl; exact rfl) | (apply O.lss_t; exact rfl; exact rfl; omega; exact rfl) | (apply O.box; exact rfl; exact rfl; exact rfl; intro _) | (apply W.cond_t; exact rfl) | apply W.block | apply W.ret | apply Fin.then_ret | apply Fin.block_ret)
    exact Fin.ret R rfl (by (repeat first | exact Ent.rfl | exact Ent.nil | refine Ent.cons ?_ | (apply Ent.pull; exact (by (repeat first | exact Pull.zero | apply Pull.succ); done)) | refine Ent.drop ?_); done) ⟨rfl, rfl⟩
  by_cases hgt : n ≤ m
  rotate_left
  · rw [decide_eq_false (by rintro (h | h | h); (omega); (omega); (have := h.1.2.2.1; omega))]
    (repeat' first | (apply O.move; exact rfl; exact rfl) | (apply O.assign; exact rfl; exact rfl) | apply W.seq | apply W.region | apply O.nil | apply Fin.next | (apply O.fieldAddr; exact rfl; exact rfl) | (apply O.load; exact rfl; (focus ((repeat first | exact Rd.blk .zero rfl | assumption | apply Rd.tail); done)); exact rfl) | (apply O.pick_f; exact rfl; exact rfl; exact rfl) | (apply O.want; exact rfl) | (apply O.lss_f; exact rfl; exact rfl; omega; exact rfl) | (apply O.gtr_t; exact rfl; exact rfl; omega; exact rfl) | (apply O.box; exact rfl; exact rfl; exact rfl; intro _) | (apply W.cond_t; exact rfl) | apply W.block | apply W.ret | apply Fin.then_ret | apply Fin.block_ret)
    exact Fin.ret R rfl (by (repeat first | exact Ent.rfl | exact Ent.nil | refine Ent.cons ?_ | (apply Ent.pull; exact (by (repeat first | exact Pull.zero | apply Pull.succ); done)) | refine Ent.drop ?_); done) ⟨rfl, rfl⟩
  by_cases he : n = m
  · by_cases hl0 : ts.length = 0
    rotate_left
    · rw [decide_eq_false (by rintro (h | h | h); (omega); (omega); (have := h.1.2.2.1; omega))]
      (repeat' first | (apply O.move; exact rfl; exact rfl) | (apply O.assign; exact rfl; exact rfl) | apply W.seq | apply W.region | apply O.nil | apply Fin.next | (apply O.fieldAddr; exact rfl; exact rfl) | (apply O.load; exact rfl; (focus ((repeat first | exact Rd.blk .zero rfl | assumption | apply Rd.tail); done)); exact rfl) | (apply O.len; exact rfl; exact rfl) | (apply O.pick_f; exact rfl; exact rfl; exact rfl) | (apply O.want; exact rfl) | (apply O.unwant; exact rfl; exact rfl) | (apply O.lss_f; exact rfl; exact rfl; omega; exact rfl) | (apply O.gtr_f; exact rfl; exact rfl; omega; exact rfl) | (apply O.eql_t; exact rfl; exact rfl; omega; exact rfl) | (apply O.eql_f; exact rfl; exact rfl; omega; exact rfl) | (apply O.box; exact rfl; exact rfl; exact rfl; intro _) | (apply W.cond_t; exact rfl) | (apply W.cond_f; exact rfl) | apply W.block | apply W.ret | apply Fin.then_ret | apply Fin.block_ret)
      exact Fin.ret R rfl (by (repeat first | exact Ent.rfl | exact Ent.nil | refine Ent.cons ?_ | (apply Ent.pull; exact (by (repeat first | exact Pull.zero | apply Pull.succ); done)) | refine Ent.drop ?_); done) ⟨rfl, rfl⟩
    (repeat' first | (apply O.move; exact rfl; exact rfl) | (apply O.assign; exact rfl; exact rfl) | apply W.seq | apply W.region | apply O.nil | apply Fin.next | (apply O.fieldAddr; exact rfl; exact rfl) | (apply O.load; exact rfl; (focus ((repeat first | exact Rd.blk .zero rfl | assumption | apply Rd.tail); done)); exact rfl) | (apply O.len; exact rfl; exact rfl) | (apply O.pick_f; exact rfl; exact rfl; exact rfl) | (apply O.want; exact rfl) | (apply O.lss_f; exact rfl; exact rfl; omega; exact rfl) | (apply O.gtr_f; exact rfl; exact rfl; omega; exact rfl) | (apply O.eql_t; exact rfl; exact rfl; omega; exact rfl) | (apply O.box; exact rfl; exact rfl; exact rfl; intro _) | (apply W.cond_t; exact rfl) | (apply W.cond_f; exact rfl) | apply W.block)
    refine O.call rfl rfl (is_spec _ e _ b hb.tail) ?_
    rintro _ _ ⟨rfl, rfl⟩
    by_cases h32 : b.length = 32
    rotate_left
    · rw [decide_eq_false h32, decide_eq_false (by rintro (h | h | h); (omega); (omega); (have := h.1.2.2.1; omega))]
      (repeat' first | (apply O.move; exact rfl; exact rfl) | (apply O.assign; exact rfl; exact rfl) | apply O.nil | apply Fin.next | (apply O.pick_t; exact rfl; exact rfl; exact rfl) | (apply O.pick_f; exact rfl; exact rfl; exact rfl) | (apply O.unwant; exact rfl; exact rfl) | apply W.ret | apply Fin.then_ret | apply Fin.block_ret)
      exact Fin.ret R rfl (by (repeat first | exact Ent.rfl | exact Ent.nil | refine Ent.cons ?_ | (apply Ent.pull; exact (by (repeat first | exact Pull.zero | apply Pull.succ); done)) | refine Ent.drop ?_); done) ⟨rfl, rfl⟩
    rw [decide_eq_true h32]
    (repeat' first | (apply O.move; exact rfl; exact rfl) | (apply O.pick_t; exact rfl; exact rfl; exact rfl) | (apply O.want; exact rfl))
    refine O.call rfl rfl (same_spec _ e _ _ b now hb.tail hw.tail) ?_
    rintro _ _ ⟨rfl, rfl⟩
    by_cases hs : b = now
    · rw [decide_eq_true hs, decide_eq_true (.inl ⟨he, h0, hl0, h32, hs⟩)]
      (repeat' first | (apply O.assign; exact rfl; exact rfl) | apply O.nil | apply Fin.next | (apply O.pick_t; exact rfl; exact rfl; exact rfl) | apply W.ret | apply Fin.then_ret | apply Fin.block_ret)
      exact Fin.ret R rfl (by (repeat first | exact Ent.rfl | exact Ent.nil | refine Ent.cons ?_ | (apply Ent.pull; exact (by (repeat first | exact Pull.zero | apply Pull.succ); done)) | refine Ent.drop ?_); done) ⟨rfl, rfl⟩
    · rw [decide_eq_false hs, decide_eq_false (by rintro (h | h | h); (exact hs h.2.2.2.2); (omega); (have := h.1.2.2.1; omega))]
      (repeat' first | (apply O.assign; exact rfl; exact rfl) | apply O.nil | apply Fin.next | (apply O.pick_t; exact rfl; exact rfl; exact rfl) | apply W.ret | apply Fin.then_ret | apply Fin.block_ret)
      exact Fin.ret R rfl (by (repeat first | exact Ent.rfl | exact Ent.nil | refine Ent.cons ?_ | (apply Ent.pull; exact (by (repeat first | exact Pull.zero | apply Pull.succ); done)) | refine Ent.drop ?_); done) ⟨rfl, rfl⟩
  by_cases hz : n = 0
  · by_cases hl0 : ts.length = 0
    rotate_left
    · rw [decide_eq_false (by rintro (h | h | h); (omega); (omega); (have := h.1.2.1; omega))]
      (repeat' first | (apply O.move; exact rfl; exact rfl) | (apply O.assign; exact rfl; exact rfl) | apply W.seq | apply W.region | apply O.nil | apply Fin.next | (apply O.fieldAddr; exact rfl; exact rfl) | (apply O.load; exact rfl; (focus ((repeat first | exact Rd.blk .zero rfl | assumption | apply Rd.tail); done)); exact rfl) | (apply O.len; exact rfl; exact rfl) | (apply O.pick_f; exact rfl; exact rfl; exact rfl) | (apply O.want; exact rfl) | (apply O.unwant; exact rfl; exact rfl) | (apply O.lss_f; exact rfl; exact rfl; omega; exact rfl) | (apply O.gtr_f; exact rfl; exact rfl; omega; exact rfl) | (apply O.eql_t; exact rfl; exact rfl; omega; exact rfl) | (apply O.eql_f; exact rfl; exact rfl; omega; exact rfl) | (apply O.box; exact rfl; exact rfl; exact rfl; intro _) | (apply W.cond_t; exact rfl) | (apply W.cond_f; exact rfl) | apply W.block | apply W.ret | apply Fin.then_ret | apply Fin.block_ret)
      exact Fin.ret R rfl (by (repeat first | exact Ent.rfl | exact Ent.nil | refine Ent.cons ?_ | (apply Ent.pull; exact (by (repeat first | exact Pull.zero | apply Pull.succ); done)) | refine Ent.drop ?_); done) ⟨rfl, rfl⟩
    (repeat' first | (apply O.move; exact rfl; exact rfl) | (apply O.assign; exact rfl; exact rfl) | apply W.seq | apply W.region | apply O.nil | apply Fin.next | (apply O.fieldAddr; exact rfl; exact rfl) | (apply O.load; exact rfl; (focus ((repeat first | exact Rd.blk .zero rfl | assumption | apply Rd.tail); done)); exact rfl) | (apply O.len; exact rfl; exact rfl) | (apply O.pick_f; exact rfl; exact rfl; exact rfl) | (apply O.want; exact rfl) | (apply O.lss_f; exact rfl; exact rfl; omega; exact rfl) | (apply O.gtr_f; exact rfl; exact rfl; omega; exact rfl) | (apply O.eql_t; exact rfl; exact rfl; omega; exact rfl) | (apply O.eql_f; exact rfl; exact rfl; omega; exact rfl) | (apply O.box; exact rfl; exact rfl; exact rfl; intro _) | (apply W.cond_t; exact rfl) | (apply W.cond_f; exact rfl) | apply W.block)
    refine O.call rfl rfl (sum_spec _ e _ [] (RdB.nil _) (by simp)) ?_
    rintro _ _ ⟨ad2, c2, rfl, rfl⟩
    (repeat' first | (apply O.want; exact rfl))
    refine O.call rfl rfl (same_spec _ e _ _ b (sha []) hb.tail.tail (RdSl.own .zero)) ?_
    rintro _ _ ⟨rfl, rfl⟩
    by_cases hs : b = sha []
    rotate_left
    · rw [decide_eq_false hs, decide_eq_false (by rintro (h | h | h); (omega); (exact hs h.2.2.2.1); (have := h.1.2.1; omega))]
      (repeat' first | (apply O.move; exact rfl; exact rfl) | (apply O.assign; exact rfl; exact rfl) | apply O.nil | apply Fin.next | (apply O.pick_t; exact rfl; exact rfl; exact rfl) | (apply O.pick_f; exact rfl; exact rfl; exact rfl) | (apply O.unwant; exact rfl; exact rfl) | apply W.ret | apply Fin.then_ret | apply Fin.block_ret)
      exact Fin.ret R rfl (by (repeat first | exact Ent.rfl | exact Ent.nil | refine Ent.cons ?_ | (apply Ent.pull; exact (by (repeat first | exact Pull.zero | apply Pull.succ); done)) | refine Ent.drop ?_); done) ⟨rfl, rfl⟩
    rw [decide_eq_true hs]
    (repeat' first | (apply O.move; exact rfl; exact rfl) | (apply O.pick_t; exact rfl; exact rfl; exact rfl) | (apply O.want; exact rfl))
    refine O.call rfl rfl (is_spec _ e _ now hw.tail.tail) ?_
    rintro _ _ ⟨rfl, rfl⟩
    by_cases h32 : now.length = 32
    · rw [decide_eq_true h32, decide_eq_true (.inr (.inl ⟨hz, by omega, hl0, hs, h32⟩))]
      (repeat' first | (apply O.assign; exact rfl; exact rfl) | apply O.nil | apply Fin.next | (apply O.pick_t; exact rfl; exact rfl; exact rfl) | apply W.ret | apply Fin.then_ret | apply Fin.block_ret)
      exact Fin.ret R rfl (by (repeat first | exact Ent.rfl | exact Ent.nil | refine Ent.cons ?_ | (apply Ent.pull; exact (by (repeat first | exact Pull.zero | apply Pull.succ); done)) | refine Ent.drop ?_); done) ⟨rfl, rfl⟩
    · rw [decide_eq_false h32, decide_eq_false (by rintro (h | h | h); (omega); (exact h32 h.2.2.2.2); (have := h.1.2.1; omega))]
      (repeat' first | (apply O.assign; exact rfl; exact rfl) | apply O.nil | apply Fin.next | (apply O.pick_t; exact rfl; exact rfl; exact rfl) | apply W.ret | apply Fin.then_ret | apply Fin.block_ret)
      exact Fin.ret R rfl (by (repeat first | exact Ent.rfl | exact Ent.nil | refine Ent.cons ?_ | (apply Ent.pull; exact (by (repeat first | exact Pull.zero | apply Pull.succ); done)) | refine Ent.drop ?_); done) ⟨rfl, rfl⟩
  (repeat' first | (apply O.move; exact rfl; exact rfl) | (apply O.assign; exact rfl; exact rfl) | apply W.seq | apply W.region | apply O.nil | apply Fin.next | (apply O.fieldAddr; exact rfl; exact rfl) | (apply O.load; exact rfl; (focus ((repeat first | exact Rd.blk .zero rfl | assumption | apply Rd.tail); done)); exact rfl) | (apply O.loadAggR; exact rfl; (focus ((repeat first | exact RdA.whole .zero | assumption | apply RdA.tail); done)); exact rfl; exact rfl) | (apply O.pick_f; exact rfl; exact rfl; exact rfl) | (apply O.want; exact rfl) | (apply O.lss_f; exact rfl; exact rfl; omega; exact rfl) | (apply O.gtr_f; exact rfl; exact rfl; omega; exact rfl) | (apply O.eql_f; exact rfl; exact rfl; omega; exact rfl) | (apply O.box; exact rfl; exact rfl; exact rfl; intro _) | (apply W.cond_f; exact rfl) | apply W.block | apply W.skip | apply Fin.block_normal)
  refine O.call rfl rfl (pLeads_spec _ e n m _ vb ts b h1 h2 hv.tail ht.tail hb.tail) ?_
  rintro _ _ (⟨hok, ad1, c1, ad2, c2, rfl, rfl⟩ | ⟨hok, rfl, rfl⟩)
  rotate_left
  · rw [decide_eq_false (by rintro (h | h | h); (omega); (omega); (exact hok h.1))]
    (repeat' first | (apply O.move; exact rfl; exact rfl) | (apply O.assign; exact rfl; exact rfl) | apply W.seq | apply W.region | apply O.nil | apply Fin.next | (apply O.pick_f; exact rfl; exact rfl; exact rfl) | (apply O.unwant; exact rfl; exact rfl) | apply W.ret | (apply O.extract; exact rfl; exact rfl; exact rfl))
    exact Fin.ret R rfl (by (repeat first | exact Ent.rfl | exact Ent.nil | refine Ent.cons ?_ | (apply Ent.pull; exact (by (repeat first | exact Pull.zero | apply Pull.succ); done)) | refine Ent.drop ?_); done) ⟨rfl, rfl⟩
  (repeat' first | (apply O.move; exact rfl; exact rfl) | (apply O.assign; exact rfl; exact rfl) | apply W.seq | apply W.region | apply O.nil | apply Fin.next | (apply O.want; exact rfl) | (apply O.extract; exact rfl; exact rfl; exact rfl))
  refine O.call rfl rfl (same_spec _ e _ _ _ b (RdSl.own (.succ .zero)) hb.tail.tail.tail) ?_
  rintro _ _ ⟨rfl, rfl⟩
  by_cases hs : (GrowTo n m ts b).1 = b
  rotate_left
  · rw [decide_eq_false hs, decide_eq_false (by rintro (h | h | h); (omega); (omega); (exact hs h.2.1))]
    (repeat' first | (apply O.move; exact rfl; exact rfl) | (apply O.assign; exact rfl; exact rfl) | apply O.nil | apply Fin.next | (apply O.pick_t; exact rfl; exact rfl; exact rfl) | (apply O.pick_f; exact rfl; exact rfl; exact rfl) | (apply O.unwant; exact rfl; exact rfl) | apply W.ret)
    exact Fin.ret R rfl (by (repeat first | exact Ent.rfl | exact Ent.nil | refine Ent.cons ?_ | (apply Ent.pull; exact (by (repeat first | exact Pull.zero | apply Pull.succ); done)) | refine Ent.drop ?_); done) ⟨rfl, rfl⟩
  rw [decide_eq_true hs]
  (repeat' first | (apply O.move; exact rfl; exact rfl) | (apply O.pick_t; exact rfl; exact rfl; exact rfl) | (apply O.want; exact rfl))
  refine O.call rfl rfl (same_spec _ e _ _ _ now (RdSl.own .zero) hw.tail.tail.tail) ?_
  rintro _ _ ⟨rfl, rfl⟩
  by_cases hs2 : (GrowTo n m ts b).2 = now
  · rw [decide_eq_true hs2, decide_eq_true (.inr (.inr ⟨hok, hs, hs2⟩))]
    (repeat' first | (apply O.assign; exact rfl; exact rfl) | apply O.nil | apply Fin.next | (apply O.pick_t; exact rfl; exact rfl; exact rfl) | apply W.ret)
    exact Fin.ret R rfl (by (repeat first | exact Ent.rfl | exact Ent.nil | refine Ent.cons ?_ | (apply Ent.pull; exact (by (repeat first | exact Pull.zero | apply Pull.succ); done)) | refine Ent.drop ?_); done) ⟨rfl, rfl⟩
  · rw [decide_eq_false hs2, decide_eq_false (by rintro (h | h | h); (omega); (omega); (exact hs2 h.2.2))]
    (repeat' first | (apply O.assign; exact rfl; exact rfl) | apply O.nil | apply Fin.next | (apply O.pick_t; exact rfl; exact rfl; exact rfl) | apply W.ret)
    exact Fin.ret R rfl (by (repeat first | exact Ent.rfl | exact Ent.nil | refine Ent.cons ?_ | (apply Ent.pull; exact (by (repeat first | exact Pull.zero | apply Pull.succ); done)) | refine Ent.drop ?_); done) ⟨rfl, rfl⟩
end Go.Proofs
