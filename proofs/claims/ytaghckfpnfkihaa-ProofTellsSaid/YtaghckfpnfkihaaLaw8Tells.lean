/- ProofTells: proofs and growths are what the document says, for any leaves, and check. -/
import Derived.Test.YtaghckfpnfkihaaLaw8GrowL
import Derived.Test.YtaghckfpnfkihaaFew
namespace Go.Proofs
set_option linter.unusedVariables false
open Go.Bs
set_option linter.unusedSimpArgs false
attribute [local irreducible] Bs.Val Bs.Do Bs.O Bs.W Bs.Fin Bs.A Bs.Ct Bs.RdSl Bs.Rd Bs.Sat Bs.Blk Bs.Ob Bs.Own Bs.View Bs.Ent Bs.Ex Bs.All Bs.Pu Bs.Base Bs.sepL Bs.RdA
theorem hash_leaves {us l : List Txt} (h : us.map (·.2) = (l.map (·.2)).map leafP) : ∀ x ∈ us, x.2.length = 32 := fun x hx => by
  have h1 : x.2 ∈ us.map (·.2) := List.mem_map.2 ⟨x, hx, rfl⟩
  rw [h] at h1
  obtain ⟨y, _, h2⟩ := List.mem_map.1 h1
  rw [← h2]; exact tagP_length _ _
theorem proofTells_spec (R : List Res) (e : World) (v : Value) (l : List Txt) (i f : Int) (hv : RdSl R 1 v l.length (l.map (·.1))) (ht : Txts R l) (hi : -9223372036854775808 ≤ i ∧ i ≤ 9223372036854775807) (hf : -9223372036854775808 ≤ f ∧ f ≤ 9223372036854775807) :
    Ct Try.prog 8 #[v, .int .i64 i, .int .i64 f] e R (fun v' L' => v' = .bool true ∧ R = L') := by
  refine Ct.enter (args := [_, _, _]) Try.func8 rfl Try.ntmps8 Try.results8 rfl ?_
  (repeat' first | (apply O.move; exact rfl; exact rfl) | (apply O.assign; exact rfl; exact rfl) | apply W.seq | apply W.region | apply O.nil | apply Fin.next | (apply O.len; exact rfl; exact rfl) | (apply O.pick_t; exact rfl; exact rfl; exact rfl) | (apply O.pick_f; exact rfl; exact rfl; exact rfl) | (apply O.want; exact rfl) | (apply O.unwant; exact rfl; exact rfl) | (apply O.unwant0; exact rfl) | (apply O.lenS; exact rfl; exact rfl) | apply W.ret | apply Fin.then_ret)
  refine O.call rfl rfl (few_spec _ e _ l 60 20 hv ht (by omega) (by omega)) ?_
  rintro _ _ ⟨ad0, c0, l1, rfl, hd1, htl1, rfl⟩
  obtain ⟨n1, n2⟩ := few_short hd1
  have htl1 := htl1 _ ht
  (repeat' first | (apply O.move; exact rfl; exact rfl) | (apply O.assign; exact rfl; exact rfl) | apply W.seq | apply W.region | apply O.nil | apply Fin.next | (apply O.len; exact rfl; exact rfl) | (apply O.pick_t; exact rfl; exact rfl; exact rfl) | (apply O.pick_f; exact rfl; exact rfl; exact rfl) | (apply O.want; exact rfl) | (apply O.unwant; exact rfl; exact rfl) | (apply O.unwant0; exact rfl) | (apply O.lenS; exact rfl; exact rfl) | apply W.ret | apply Fin.then_ret)
  refine O.call rfl rfl (refLeaves_spec _ e _ l1 (RdSl.own .zero) htl1.tail (fun a h => by have := n2 a h; omega) (by omega)) ?_
  rintro _ _ ⟨adu, cu, us, rfl, hd, rfl⟩
  have h32 := hash_leaves hd
  have hul : us.length ≤ 60 := by have h1 := congrArg List.length hd; simp only [List.length_map] at h1; omega
  have hw1 := within_bounds i 0 (us.length : Int) (by omega)
  have hw2 := within_bounds f 0 (us.length : Int) (by omega)
  (repeat' first | (apply O.move; exact rfl; exact rfl) | (apply O.assign; exact rfl; exact rfl) | apply W.seq | apply W.region | apply O.nil | apply Fin.next | (apply O.len; exact rfl; exact rfl) | (apply O.pick_t; exact rfl; exact rfl; exact rfl) | (apply O.pick_f; exact rfl; exact rfl; exact rfl) | (apply O.want; exact rfl) | (apply O.unwant; exact rfl; exact rfl) | (apply O.unwant0; exact rfl) | (apply O.lenS; exact rfl; exact rfl) | apply W.ret | apply Fin.then_ret)
  refine O.call rfl rfl (lawInclude_spec _ e _ us i hi (RdSl.own .zero) (Txts.pull (.succ .zero)) h32 (by omega)) ?_
  rintro _ _ ⟨rfl, rfl⟩
  (repeat' first | (apply O.move; exact rfl; exact rfl) | (apply O.assign; exact rfl; exact rfl) | apply W.seq | apply W.region | apply O.nil | apply Fin.next | (apply O.len; exact rfl; exact rfl) | (apply O.pick_t; exact rfl; exact rfl; exact rfl) | (apply O.pick_f; exact rfl; exact rfl; exact rfl) | (apply O.want; exact rfl) | (apply O.unwant; exact rfl; exact rfl) | (apply O.unwant0; exact rfl) | (apply O.lenS; exact rfl; exact rfl) | apply W.ret | apply Fin.then_ret)
  refine O.call rfl rfl (lawGrow_spec _ e _ us f hf (RdSl.own .zero) (Txts.pull (.succ .zero)) h32 (by omega)) ?_
  rintro _ _ ⟨rfl, rfl⟩
  (repeat' first | (apply O.move; exact rfl; exact rfl) | (apply O.assign; exact rfl; exact rfl) | apply W.seq | apply W.region | apply O.nil | apply Fin.next | (apply O.len; exact rfl; exact rfl) | (apply O.pick_t; exact rfl; exact rfl; exact rfl) | (apply O.pick_f; exact rfl; exact rfl; exact rfl) | (apply O.want; exact rfl) | (apply O.unwant; exact rfl; exact rfl) | (apply O.unwant0; exact rfl) | (apply O.lenS; exact rfl; exact rfl) | apply W.ret | apply Fin.then_ret)
  refine O.call rfl rfl (within_spec _ e i 0 (us.length : Int) hi (by omega)) ?_
  rintro _ _ ⟨rfl, rfl⟩
  (repeat' first | (apply O.move; exact rfl; exact rfl) | (apply O.assign; exact rfl; exact rfl) | apply W.seq | apply W.region | apply O.nil | apply Fin.next | (apply O.len; exact rfl; exact rfl) | (apply O.pick_t; exact rfl; exact rfl; exact rfl) | (apply O.pick_f; exact rfl; exact rfl; exact rfl) | (apply O.want; exact rfl) | (apply O.unwant; exact rfl; exact rfl) | (apply O.unwant0; exact rfl) | (apply O.lenS; exact rfl; exact rfl) | apply W.ret | apply Fin.then_ret)
  refine O.call rfl rfl (lawInclude_spec _ e _ us _ (by omega) (RdSl.own .zero) (Txts.pull (.succ .zero)) h32 (by omega)) ?_
  rintro _ _ ⟨rfl, rfl⟩
  (repeat' first | (apply O.move; exact rfl; exact rfl) | (apply O.assign; exact rfl; exact rfl) | apply W.seq | apply W.region | apply O.nil | apply Fin.next | (apply O.len; exact rfl; exact rfl) | (apply O.pick_t; exact rfl; exact rfl; exact rfl) | (apply O.pick_f; exact rfl; exact rfl; exact rfl) | (apply O.want; exact rfl) | (apply O.unwant; exact rfl; exact rfl) | (apply O.unwant0; exact rfl) | (apply O.lenS; exact rfl; exact rfl) | apply W.ret | apply Fin.then_ret)
  refine O.call rfl rfl (within_spec _ e f 0 (us.length : Int) hf (by omega)) ?_
  rintro _ _ ⟨rfl, rfl⟩
  (repeat' first | (apply O.move; exact rfl; exact rfl) | (apply O.assign; exact rfl; exact rfl) | apply W.seq | apply W.region | apply O.nil | apply Fin.next | (apply O.len; exact rfl; exact rfl) | (apply O.pick_t; exact rfl; exact rfl; exact rfl) | (apply O.pick_f; exact rfl; exact rfl; exact rfl) | (apply O.want; exact rfl) | (apply O.unwant; exact rfl; exact rfl) | (apply O.unwant0; exact rfl) | (apply O.lenS; exact rfl; exact rfl) | apply W.ret | apply Fin.then_ret)
  refine O.call rfl rfl (lawGrow_spec _ e _ us _ (by omega) (RdSl.own .zero) (Txts.pull (.succ .zero)) h32 (by omega)) ?_
  rintro _ _ ⟨rfl, rfl⟩
  (repeat' first | (apply O.move; exact rfl; exact rfl) | (apply O.assign; exact rfl; exact rfl) | apply W.seq | apply W.region | apply O.nil | apply Fin.next | (apply O.len; exact rfl; exact rfl) | (apply O.pick_t; exact rfl; exact rfl; exact rfl) | (apply O.pick_f; exact rfl; exact rfl; exact rfl) | (apply O.want; exact rfl) | (apply O.unwant; exact rfl; exact rfl) | (apply O.unwant0; exact rfl) | (apply O.lenS; exact rfl; exact rfl) | apply W.ret | apply Fin.then_ret)
  refine O.call rfl rfl (known8_spec _ e) ?_
  rintro _ _ ⟨rfl, rfl⟩
  (repeat' first | (apply O.move; exact rfl; exact rfl) | (apply O.assign; exact rfl; exact rfl) | apply W.seq | apply W.region | apply O.nil | apply Fin.next | (apply O.len; exact rfl; exact rfl) | (apply O.pick_t; exact rfl; exact rfl; exact rfl) | (apply O.pick_f; exact rfl; exact rfl; exact rfl) | (apply O.want; exact rfl) | (apply O.unwant; exact rfl; exact rfl) | (apply O.unwant0; exact rfl) | (apply O.lenS; exact rfl; exact rfl) | apply W.ret | apply Fin.then_ret)
  exact Fin.ret R rfl (by (repeat first | exact Ent.rfl | exact Ent.nil | refine Ent.cons ?_ | (apply Ent.pull; exact (by (repeat first | exact Pull.zero | apply Pull.succ); done)) | refine Ent.drop ?_); done) ⟨rfl, rfl⟩
end Go.Proofs
