/- What is told of two traces, one behind the other, is what is told of each. -/
import Derived.Test.YtmiddmmmgiopoaaLaw25Begins
namespace Go.Proofs
set_option linter.unusedVariables false
open Go.Bs
set_option linter.unusedSimpArgs false
attribute [local irreducible] Bs.Val Bs.Do Bs.O Bs.W Bs.Fin Bs.A Bs.Ct Bs.RdSl Bs.Rd Bs.Sat Bs.Blk Bs.Ob Bs.Own Bs.View Bs.Ent Bs.Ex Bs.All Bs.Pu Bs.Base Bs.sepL Bs.RdA
theorem Txts.pull {L R : List Res} {l : List Txt} (p : Pull L (Items l) R) : Txts L l := fun a ha => (items_rd (R := R) a ha).ent p.out
theorem Txts.app {L : List Res} {a b : List Txt} (ha : Txts L a) (hb : Txts L b) : Txts L (a ++ b) := fun x hx => by
  rcases List.mem_append.1 hx with h | h
  · exact ha x h
  · exact hb x h
theorem ev_ones {l : List Ev} (h : ∀ x ∈ l, x.v.oneCell' = true) : ∀ c ∈ l.flatMap Ev.cells, c.oneCell' = true := flatN_ones fun m hm c hc => by
  simp only [Ev.cells, List.mem_cons, List.not_mem_nil, or_false] at hc
  rcases hc with rfl | rfl | rfl | rfl
  · rfl
  · rfl
  · rfl
  · exact h m hm
theorem txt_ones {L : List Res} {l : List Txt} (h : Txts L l) : ∀ x, sepL L x → ∀ c ∈ l.map (·.1), c.oneCell' = true := fun x hx c hc => by
  obtain ⟨a, ha, rfl⟩ := List.mem_map.1 hc
  exact RdB.one (h a ha) x hx
theorem ofK_app (l m : List Ev) (k : Int) : ofK (l ++ m) k = ofK l k ++ ofK m k := List.filter_append ..
theorem traceLists_spec (R : List Res) (e : World) (v1 v2 : Value) (l1 l2 : List Ev) (hv1 : RdSl R 4 v1 l1.length (l1.flatMap Ev.cells)) (ht1 : ∀ x ∈ l1, RdB R x.v x.t) (hv2 : RdSl R 4 v2 l2.length (l2.flatMap Ev.cells)) (ht2 : ∀ x ∈ l2, RdB R x.v x.t) :
    Ct Try.prog 5 #[v1, v2] e R (fun v' L' => v' = .bool true ∧ R = L') := by
  refine Ct.enter (args := [_, _]) Try.func5 rfl Try.ntmps5 Try.results5 rfl ?_
  (repeat' first | (apply O.move; exact rfl; exact rfl) | (apply O.assign; exact rfl; exact rfl) | apply W.seq | apply W.region | apply O.nil | apply Fin.next | (apply O.pick_t; exact rfl; exact rfl; exact rfl) | (apply O.pick_f; exact rfl; exact rfl; exact rfl) | (apply O.want; exact rfl) | (apply O.unwant; exact rfl; exact rfl) | (apply O.unwant0; exact rfl) | (apply O.buildSlice; exact rfl; exact rfl; exact rfl; (focus ((repeat first | exact Bs.Parts.nil | apply Bs.Parts.one rfl rfl | apply Bs.Parts.one (Bs.cells_one (by assumption)) rfl | (apply Bs.Parts.agg; exact rfl)); done)); exact rfl; exact rfl; intro _) | apply W.ret | apply Fin.then_ret)
  refine O.call rfl rfl (made_spec _ e _ l1 hv1 ht1) ?_
  rintro _ _ ⟨adA, cA, a, rfl, hyA, hA4, hA5, rfl⟩
  have hEA : Evs (OwnEv (.slice adA a.length cA) a :: R) (.slice adA a.length cA) a := made_evs hA4 hA5
  (repeat' first | (apply O.move; exact rfl; exact rfl) | (apply O.assign; exact rfl; exact rfl) | apply W.seq | apply W.region | apply O.nil | apply Fin.next | (apply O.pick_t; exact rfl; exact rfl; exact rfl) | (apply O.pick_f; exact rfl; exact rfl; exact rfl) | (apply O.want; exact rfl) | (apply O.unwant; exact rfl; exact rfl) | (apply O.unwant0; exact rfl) | (apply O.buildSlice; exact rfl; exact rfl; exact rfl; (focus ((repeat first | exact Bs.Parts.nil | apply Bs.Parts.one rfl rfl | apply Bs.Parts.one (Bs.cells_one (by assumption)) rfl | (apply Bs.Parts.agg; exact rfl)); done)); exact rfl; exact rfl; intro _) | apply W.ret | apply Fin.then_ret)
  refine O.call rfl rfl (made_spec _ e _ l2 hv2.tail fun x hx => (ht2 x hx).tail) ?_
  rintro _ _ ⟨adB, cB, b, rfl, hyB, hB4, hB5, rfl⟩
  have hEB : Evs (OwnEv (.slice adB b.length cB) b :: OwnEv (.slice adA a.length cA) a :: R) (.slice adB b.length cB) b := made_evs hB4 hB5
  (repeat' first | (apply O.move; exact rfl; exact rfl) | (apply O.assign; exact rfl; exact rfl) | apply W.seq | apply W.region | apply O.nil | apply Fin.next | (apply O.pick_t; exact rfl; exact rfl; exact rfl) | (apply O.pick_f; exact rfl; exact rfl; exact rfl) | (apply O.want; exact rfl) | (apply O.unwant; exact rfl; exact rfl) | (apply O.unwant0; exact rfl) | (apply O.buildSlice; exact rfl; exact rfl; exact rfl; (focus ((repeat first | exact Bs.Parts.nil | apply Bs.Parts.one rfl rfl | apply Bs.Parts.one (Bs.cells_one (by assumption)) rfl | (apply Bs.Parts.agg; exact rfl)); done)); exact rfl; exact rfl; intro _) | apply W.ret | apply Fin.then_ret)
  refine O.do <| Do.ent1 (own_in (n := 4) (k := 0) (cap := 0) (by omega) (by simp [maxLen]) (by simp)) (Do.append rfl rfl rfl .zero (RdSl.own (.succ .zero)) rfl rfl (ev_ones hyA.2.2.2.2) (by simp only [maxLen]; omega) (by omega) fun ad3 c3 _ => ?_)
  simp only [Nat.zero_add, Nat.zero_mul, List.take_zero, List.nil_append]
  (repeat' first | (apply O.move; exact rfl; exact rfl) | (apply O.assign; exact rfl; exact rfl) | apply W.seq | apply W.region | apply O.nil | apply Fin.next | (apply O.pick_t; exact rfl; exact rfl; exact rfl) | (apply O.pick_f; exact rfl; exact rfl; exact rfl) | (apply O.want; exact rfl) | (apply O.unwant; exact rfl; exact rfl) | (apply O.unwant0; exact rfl) | (apply O.buildSlice; exact rfl; exact rfl; exact rfl; (focus ((repeat first | exact Bs.Parts.nil | apply Bs.Parts.one rfl rfl | apply Bs.Parts.one (Bs.cells_one (by assumption)) rfl | (apply Bs.Parts.agg; exact rfl)); done)); exact rfl; exact rfl; intro _) | apply W.ret | apply Fin.then_ret)
  refine O.do (Do.append rfl rfl rfl .zero (RdSl.own .zero) rfl rfl (ev_ones hyB.2.2.2.2) (by simp only [maxLen]; omega) (by omega) fun ad4 c4 _ => ?_)
  have e2 : a.flatMap Ev.cells ++ b.flatMap Ev.cells = (a ++ b).flatMap Ev.cells := by simp
  have e3 : a.length + b.length = (a ++ b).length := by simp
  rw [e2, e3]
  have hEC : Evs (OwnEv (.slice ad4 (a ++ b).length c4) (a ++ b) :: OwnEv (.slice adB b.length cB) b :: OwnEv (.slice adA a.length cA) a :: R) (.slice ad4 (a ++ b).length c4) (a ++ b) := by
    refine ⟨RdSl.own .zero, fun x hx => ?_, by simp; omega, fun x hx => ?_⟩
    · rcases List.mem_append.1 hx with h | h
      · exact (hA5 x h).1.tail.tail.tail
      · exact (hB5 x h).1.tail.tail
    · rcases List.mem_append.1 hx with h | h
      · have := (hA5 x h).2; omega
      · have := (hB5 x h).2; omega
  have k1 := ofK_len a 1
  have k2 := ofK_len b 1
  have k3 := ofK_len a 2
  have k4 := ofK_len b 2
  have hEB' := hEB.tail (A := OwnEv (.slice ad4 (a ++ b).length c4) (a ++ b))
  have hEA' := (hEA.tail (A := OwnEv (.slice adB b.length cB) b)).tail (A := OwnEv (.slice ad4 (a ++ b).length c4) (a ++ b))
  (repeat' first | (apply O.move; exact rfl; exact rfl) | (apply O.assign; exact rfl; exact rfl) | apply W.seq | apply W.region | apply O.nil | apply Fin.next | (apply O.pick_t; exact rfl; exact rfl; exact rfl) | (apply O.pick_f; exact rfl; exact rfl; exact rfl) | (apply O.want; exact rfl) | (apply O.unwant; exact rfl; exact rfl) | (apply O.unwant0; exact rfl) | (apply O.buildSlice; exact rfl; exact rfl; exact rfl; (focus ((repeat first | exact Bs.Parts.nil | apply Bs.Parts.one rfl rfl | apply Bs.Parts.one (Bs.cells_one (by assumption)) rfl | (apply Bs.Parts.agg; exact rfl)); done)); exact rfl; exact rfl; intro _) | apply W.ret | apply Fin.then_ret)
  refine O.call rfl rfl (receipts_spec _ e _ a hEA') ?_
  rintro _ _ ⟨ad5, c5, t1, rfl, d1, rfl⟩
  have n1 := congrArg List.length d1
  simp only [List.length_map] at n1
  (repeat' first | (apply O.move; exact rfl; exact rfl) | (apply O.assign; exact rfl; exact rfl) | apply W.seq | apply W.region | apply O.nil | apply Fin.next | (apply O.pick_t; exact rfl; exact rfl; exact rfl) | (apply O.pick_f; exact rfl; exact rfl; exact rfl) | (apply O.want; exact rfl) | (apply O.unwant; exact rfl; exact rfl) | (apply O.unwant0; exact rfl) | (apply O.buildSlice; exact rfl; exact rfl; exact rfl; (focus ((repeat first | exact Bs.Parts.nil | apply Bs.Parts.one rfl rfl | apply Bs.Parts.one (Bs.cells_one (by assumption)) rfl | (apply Bs.Parts.agg; exact rfl)); done)); exact rfl; exact rfl; intro _) | apply W.ret | apply Fin.then_ret)
  refine O.call rfl rfl (receipts_spec _ e _ b hEB'.tail.tail) ?_
  rintro _ _ ⟨ad6, c6, t2, rfl, d2, rfl⟩
  have n2 := congrArg List.length d2
  simp only [List.length_map] at n2
  refine O.of_sep (txt_ones (L := OwnT (.slice ad6 t2.length c6) t2 :: Items t2 :: OwnT (.slice ad5 t1.length c5) t1 :: Items t1 :: OwnEv (.slice ad4 (a ++ b).length c4) (a ++ b) :: OwnEv (.slice adB b.length cB) b :: OwnEv (.slice adA a.length cA) a :: R) (Txts.pull (l := t2) (.succ .zero))) ?_
  intro o2
  (repeat' first | (apply O.move; exact rfl; exact rfl) | (apply O.assign; exact rfl; exact rfl) | apply W.seq | apply W.region | apply O.nil | apply Fin.next | (apply O.pick_t; exact rfl; exact rfl; exact rfl) | (apply O.pick_f; exact rfl; exact rfl; exact rfl) | (apply O.want; exact rfl) | (apply O.unwant; exact rfl; exact rfl) | (apply O.unwant0; exact rfl) | (apply O.buildSlice; exact rfl; exact rfl; exact rfl; (focus ((repeat first | exact Bs.Parts.nil | apply Bs.Parts.one rfl rfl | apply Bs.Parts.one (Bs.cells_one (by assumption)) rfl | (apply Bs.Parts.agg; exact rfl)); done)); exact rfl; exact rfl; intro _) | apply W.ret | apply Fin.then_ret)
  refine O.do (Do.append rfl rfl rfl (.succ (.succ .zero)) (RdSl.own .zero) rfl rfl o2 (by simp only [maxLen]; omega) (by omega) fun ad7 c7 _ => ?_)
  (repeat' first | (apply O.move; exact rfl; exact rfl) | (apply O.assign; exact rfl; exact rfl) | apply W.seq | apply W.region | apply O.nil | apply Fin.next | (apply O.pick_t; exact rfl; exact rfl; exact rfl) | (apply O.pick_f; exact rfl; exact rfl; exact rfl) | (apply O.want; exact rfl) | (apply O.unwant; exact rfl; exact rfl) | (apply O.unwant0; exact rfl) | (apply O.buildSlice; exact rfl; exact rfl; exact rfl; (focus ((repeat first | exact Bs.Parts.nil | apply Bs.Parts.one rfl rfl | apply Bs.Parts.one (Bs.cells_one (by assumption)) rfl | (apply Bs.Parts.agg; exact rfl)); done)); exact rfl; exact rfl; intro _) | apply W.ret | apply Fin.then_ret)
  refine O.call rfl rfl (leaves_spec _ e _ a hEA'.tail.tail.tail.tail) ?_
  rintro _ _ ⟨ad8, c8, u1, rfl, d3, rfl⟩
  have n3 := congrArg List.length d3
  simp only [List.length_map] at n3
  (repeat' first | (apply O.move; exact rfl; exact rfl) | (apply O.assign; exact rfl; exact rfl) | apply W.seq | apply W.region | apply O.nil | apply Fin.next | (apply O.pick_t; exact rfl; exact rfl; exact rfl) | (apply O.pick_f; exact rfl; exact rfl; exact rfl) | (apply O.want; exact rfl) | (apply O.unwant; exact rfl; exact rfl) | (apply O.unwant0; exact rfl) | (apply O.buildSlice; exact rfl; exact rfl; exact rfl; (focus ((repeat first | exact Bs.Parts.nil | apply Bs.Parts.one rfl rfl | apply Bs.Parts.one (Bs.cells_one (by assumption)) rfl | (apply Bs.Parts.agg; exact rfl)); done)); exact rfl; exact rfl; intro _) | apply W.ret | apply Fin.then_ret)
  refine O.call rfl rfl (leaves_spec _ e _ b hEB'.tail.tail.tail.tail.tail.tail) ?_
  rintro _ _ ⟨ad9, c9, u2, rfl, d4, rfl⟩
  have n4 := congrArg List.length d4
  simp only [List.length_map] at n4
  refine O.of_sep (fun h x => txt_ones (Txts.pull (l := u2) (.succ .zero)) h x) ?_
  intro o4
  (repeat' first | (apply O.move; exact rfl; exact rfl) | (apply O.assign; exact rfl; exact rfl) | apply W.seq | apply W.region | apply O.nil | apply Fin.next | (apply O.pick_t; exact rfl; exact rfl; exact rfl) | (apply O.pick_f; exact rfl; exact rfl; exact rfl) | (apply O.want; exact rfl) | (apply O.unwant; exact rfl; exact rfl) | (apply O.unwant0; exact rfl) | (apply O.buildSlice; exact rfl; exact rfl; exact rfl; (focus ((repeat first | exact Bs.Parts.nil | apply Bs.Parts.one rfl rfl | apply Bs.Parts.one (Bs.cells_one (by assumption)) rfl | (apply Bs.Parts.agg; exact rfl)); done)); exact rfl; exact rfl; intro _) | apply W.ret | apply Fin.then_ret)
  refine O.do (Do.append rfl rfl rfl (.succ (.succ .zero)) (RdSl.own .zero) rfl rfl o4 (by simp only [maxLen]; omega) (by omega) fun ad10 c10 _ => ?_)
  have f1 : t1.length + t2.length = (t1 ++ t2).length := by simp
  have f2 : u1.length + u2.length = (u1 ++ u2).length := by simp
  rw [f1, f2, ← List.map_append, ← List.map_append]
  have g1 : ((ofK (a ++ b) 1).map Ev.t) = (t1 ++ t2).map (·.2) := by rw [ofK_app, List.map_append, List.map_append, d1, d2]
  have g2 : ((ofK (a ++ b) 2).map Ev.t) = (u1 ++ u2).map (·.2) := by rw [ofK_app, List.map_append, List.map_append, d3, d4]
  (repeat' first | (apply O.move; exact rfl; exact rfl) | (apply O.assign; exact rfl; exact rfl) | apply W.seq | apply W.region | apply O.nil | apply Fin.next | (apply O.pick_t; exact rfl; exact rfl; exact rfl) | (apply O.pick_f; exact rfl; exact rfl; exact rfl) | (apply O.want; exact rfl) | (apply O.unwant; exact rfl; exact rfl) | (apply O.unwant0; exact rfl) | (apply O.buildSlice; exact rfl; exact rfl; exact rfl; (focus ((repeat first | exact Bs.Parts.nil | apply Bs.Parts.one rfl rfl | apply Bs.Parts.one (Bs.cells_one (by assumption)) rfl | (apply Bs.Parts.agg; exact rfl)); done)); exact rfl; exact rfl; intro _) | apply W.ret | apply Fin.then_ret)
  refine O.call rfl rfl (receipts_spec _ e _ (a ++ b) hEC.tail.tail.tail.tail.tail.tail.tail.tail) ?_
  rintro _ _ ⟨ad11, c11, t3, rfl, d5, rfl⟩
  have n5 := congrArg List.length d5
  rw [g1] at n5
  simp only [List.length_map, List.length_append] at n5
  (repeat' first | (apply O.move; exact rfl; exact rfl) | (apply O.assign; exact rfl; exact rfl) | apply W.seq | apply W.region | apply O.nil | apply Fin.next | (apply O.pick_t; exact rfl; exact rfl; exact rfl) | (apply O.pick_f; exact rfl; exact rfl; exact rfl) | (apply O.want; exact rfl) | (apply O.unwant; exact rfl; exact rfl) | (apply O.unwant0; exact rfl) | (apply O.buildSlice; exact rfl; exact rfl; exact rfl; (focus ((repeat first | exact Bs.Parts.nil | apply Bs.Parts.one rfl rfl | apply Bs.Parts.one (Bs.cells_one (by assumption)) rfl | (apply Bs.Parts.agg; exact rfl)); done)); exact rfl; exact rfl; intro _) | apply W.ret | apply Fin.then_ret)
  refine O.call rfl rfl (lists_spec _ e _ _ t3 (t1 ++ t2) (RdSl.own .zero) (RdSl.own (by (repeat first | exact Pull.zero | apply Pull.succ); done)) (Txts.pull (.succ .zero)) (Txts.app (Txts.pull (by (repeat first | exact Pull.zero | apply Pull.succ); done)) (Txts.pull (by (repeat first | exact Pull.zero | apply Pull.succ); done))) (by rw [d5, g1]) (by omega)) ?_
  rintro _ _ ⟨rfl, rfl⟩
  (repeat' first | (apply O.move; exact rfl; exact rfl) | (apply O.assign; exact rfl; exact rfl) | apply W.seq | apply W.region | apply O.nil | apply Fin.next | (apply O.pick_t; exact rfl; exact rfl; exact rfl) | (apply O.pick_f; exact rfl; exact rfl; exact rfl) | (apply O.want; exact rfl) | (apply O.unwant; exact rfl; exact rfl) | (apply O.unwant0; exact rfl) | (apply O.buildSlice; exact rfl; exact rfl; exact rfl; (focus ((repeat first | exact Bs.Parts.nil | apply Bs.Parts.one rfl rfl | apply Bs.Parts.one (Bs.cells_one (by assumption)) rfl | (apply Bs.Parts.agg; exact rfl)); done)); exact rfl; exact rfl; intro _) | apply W.ret | apply Fin.then_ret)
  refine O.call rfl rfl (leaves_spec _ e _ (a ++ b) hEC.tail.tail.tail.tail.tail.tail.tail.tail.tail.tail) ?_
  rintro _ _ ⟨ad12, c12, u3, rfl, d6, rfl⟩
  have n6 := congrArg List.length d6
  rw [g2] at n6
  simp only [List.length_map, List.length_append] at n6
  (repeat' first | (apply O.move; exact rfl; exact rfl) | (apply O.assign; exact rfl; exact rfl) | apply W.seq | apply W.region | apply O.nil | apply Fin.next | (apply O.pick_t; exact rfl; exact rfl; exact rfl) | (apply O.pick_f; exact rfl; exact rfl; exact rfl) | (apply O.want; exact rfl) | (apply O.unwant; exact rfl; exact rfl) | (apply O.unwant0; exact rfl) | (apply O.buildSlice; exact rfl; exact rfl; exact rfl; (focus ((repeat first | exact Bs.Parts.nil | apply Bs.Parts.one rfl rfl | apply Bs.Parts.one (Bs.cells_one (by assumption)) rfl | (apply Bs.Parts.agg; exact rfl)); done)); exact rfl; exact rfl; intro _) | apply W.ret | apply Fin.then_ret)
  refine O.call rfl rfl (lists_spec _ e _ _ u3 (u1 ++ u2) (RdSl.own .zero) (RdSl.own (by (repeat first | exact Pull.zero | apply Pull.succ); done)) (Txts.pull (.succ .zero)) (Txts.app (Txts.pull (by (repeat first | exact Pull.zero | apply Pull.succ); done)) (Txts.pull (by (repeat first | exact Pull.zero | apply Pull.succ); done))) (by rw [d6, g2]) (by omega)) ?_
  rintro _ _ ⟨rfl, rfl⟩
  (repeat' first | (apply O.move; exact rfl; exact rfl) | (apply O.assign; exact rfl; exact rfl) | apply W.seq | apply W.region | apply O.nil | apply Fin.next | (apply O.pick_t; exact rfl; exact rfl; exact rfl) | (apply O.pick_f; exact rfl; exact rfl; exact rfl) | (apply O.want; exact rfl) | (apply O.unwant; exact rfl; exact rfl) | (apply O.unwant0; exact rfl) | (apply O.buildSlice; exact rfl; exact rfl; exact rfl; (focus ((repeat first | exact Bs.Parts.nil | apply Bs.Parts.one rfl rfl | apply Bs.Parts.one (Bs.cells_one (by assumption)) rfl | (apply Bs.Parts.agg; exact rfl)); done)); exact rfl; exact rfl; intro _) | apply W.ret | apply Fin.then_ret)
  refine O.call rfl rfl (known25_spec _ e) ?_
  rintro _ _ ⟨rfl, rfl⟩
  (repeat' first | (apply O.move; exact rfl; exact rfl) | (apply O.assign; exact rfl; exact rfl) | apply W.seq | apply W.region | apply O.nil | apply Fin.next | (apply O.pick_t; exact rfl; exact rfl; exact rfl) | (apply O.pick_f; exact rfl; exact rfl; exact rfl) | (apply O.want; exact rfl) | (apply O.unwant; exact rfl; exact rfl) | (apply O.unwant0; exact rfl) | (apply O.buildSlice; exact rfl; exact rfl; exact rfl; (focus ((repeat first | exact Bs.Parts.nil | apply Bs.Parts.one rfl rfl | apply Bs.Parts.one (Bs.cells_one (by assumption)) rfl | (apply Bs.Parts.agg; exact rfl)); done)); exact rfl; exact rfl; intro _) | apply W.ret | apply Fin.then_ret)
  exact Fin.ret R rfl (by (repeat first | exact Ent.rfl | exact Ent.nil | refine Ent.cons ?_ | (apply Ent.pull; exact (by (repeat first | exact Pull.zero | apply Pull.succ); done)) | refine Ent.drop ?_); done) ⟨rfl, rfl⟩
end Go.Proofs
