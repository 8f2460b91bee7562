/- proofs that a leaf is in a tree: what path, Include, Right, lead, Lead, Check do. -/
import Derived.Test.YtaghckfpnfkihaaPathP
import Derived.Test.YtaghckfpnfkihaaLeaves
import Derived.Test.YtaghckfpnfkihaaFn
namespace Go.Proofs
set_option linter.unusedVariables false
open Go.Bs
set_option linter.unusedSimpArgs false
attribute [local irreducible] Bs.Val Bs.Do Bs.O Bs.W Bs.Fin Bs.A Bs.Ct Bs.RdSl Bs.Rd Bs.Sat Bs.Blk Bs.Ob Bs.Own Bs.View Bs.Ent Bs.Ex Bs.All Bs.Pu Bs.Base Bs.sepL Bs.RdA
theorem path_spec : ∀ (n : Nat) (R : List Res) (e : World) (v : Value) (ts : List Txt) (i : Nat), ts.length = n → RdSl R 1 v ts.length (ts.map (·.1)) → Txts R ts → (∀ a ∈ ts, a.2.length ≤ 1000000) → ts.length ≤ 1000000 → i ≤ 1000000 →
    Ct Try.prog 39 #[v, .int .i64 (i : Int)] e R (fun v' L' => ∃ ad c out, v' = .slice ad out.length c ∧ out.map (·.2) = pathP (ts.map (·.2)) i ∧ L' = OwnT (.slice ad out.length c) out :: Items out :: R) := by
  intro n
  induction n using Nat.strongRecOn with
  | _ n ih =>
  intro R e v ts i hn hv ht hb hl hi0
  refine Ct.of_sep (hv.shape (by omega)) ?_
  rintro ⟨⟨ad, cap, rfl, h3, h4, h5, h6⟩, _⟩
  simp only [maxLen] at h4
  refine Ct.enter (args := [_, _]) Try.func39 rfl Try.ntmps39 Try.results39 rfl ?_
  (repeat' first | (apply O.move; exact rfl; exact rfl) | (apply O.assign; exact rfl; exact rfl) | apply W.seq | apply W.region | apply O.nil | apply Fin.next | (apply O.len; exact rfl; exact rfl))
  refine O.call rfl rfl (split_spec R e ts.length (by omega)) ?_
  rintro _ _ ⟨rfl, rfl⟩
  rw [splitI_nat]
  by_cases h2 : 2 ≤ ts.length
  rotate_left
  · have h0 : splitP ts.length = 0 := by unfold splitP; rw [if_pos (by omega)]
    rw [h0]
    (repeat' first | (apply O.move; exact rfl; exact rfl) | (apply O.assign; exact rfl; exact rfl) | apply W.seq | apply W.region | apply O.nil | apply Fin.next | (apply O.eql_t; exact rfl; exact rfl; omega; exact rfl) | (apply W.cond_t; exact rfl) | apply W.block | apply W.ret | apply Fin.then_ret | apply Fin.block_ret)
    exact Fin.ret (OwnT (.slice none 0 0) [] :: Items [] :: R) rfl (Ent.trans items_nil (own_nil _ _)) ⟨none, 0, [], rfl, by rw [pathP_none (by rw [List.length_map]; exact h2)]; rfl, rfl⟩
  have hs := splitP_spec h2
  have hlo := fun h => pathP_lo (l := ts.map (·.2)) (i := i) (by rw [List.length_map]; exact h2) h
  have hhi := fun h => pathP_hi (l := ts.map (·.2)) (i := i) (by rw [List.length_map]; exact h2) h
  rw [List.length_map, ← List.map_take, ← List.map_drop] at hlo hhi
  have hq1 := take_mapT hv (k := splitP ts.length) (by omega)
  have hq2 := drop_mapT hv (k := splitP ts.length) (by omega)
  generalize splitP ts.length = k at *
  have hlk : (ts.take k).length = k := by rw [List.length_take]; omega
  have hlk2 : (ts.drop k).length = ts.length - k := List.length_drop
  by_cases hik : i < k
  · (repeat' first | (apply O.move; exact rfl; exact rfl) | (apply O.assign; exact rfl; exact rfl) | apply W.seq | apply W.region | apply O.nil | apply Fin.next | (apply O.lss_t; exact rfl; exact rfl; omega; exact rfl) | (apply O.eql_f; exact rfl; exact rfl; omega; exact rfl) | (apply W.cond_t; exact rfl) | (apply W.cond_f; exact rfl) | apply W.block)
    refine A.start (id := 5) [11] Try.mixed ?_
    (all_goals (refine A.take 0 _ rfl (by kernel_rfl) Ent.rfl (Val.move rfl) rfl ?_); all_goals (refine A.take 1 _ rfl (by kernel_rfl) Ent.rfl (Val.move rfl) rfl ?_); all_goals (first | refine A.take 2 _ rfl (by kernel_rfl) Ent.rfl (Val.sliceHi rfl rfl (by omega) (by omega)) rfl ?_ | refine A.take 2 _ rfl (by kernel_rfl) Ent.rfl (Val.sliceLo rfl rfl (by omega) (by omega)) rfl ?_ | refine A.take 2 _ rfl (by kernel_rfl) Ent.rfl (Val.sliceLoHi rfl rfl rfl (by omega) (by omega) (by omega)) rfl ?_); all_goals (refine A.take 3 _ rfl (by kernel_rfl) Ent.rfl (Val.move rfl) rfl ?_); all_goals (refine A.take 5 _ rfl (by kernel_rfl) Ent.rfl (Val.move rfl) rfl ?_); all_goals (refine A.take 6 _ rfl (by kernel_rfl) Ent.rfl (Val.move rfl) rfl ?_); all_goals (first | refine A.take 7 _ rfl (by kernel_rfl) Ent.rfl (Val.sliceHi rfl rfl (by omega) (by omega)) rfl ?_ | refine A.take 7 _ rfl (by kernel_rfl) Ent.rfl (Val.sliceLo rfl rfl (by omega) (by omega)) rfl ?_ | refine A.take 7 _ rfl (by kernel_rfl) Ent.rfl (Val.sliceLoHi rfl rfl rfl (by omega) (by omega) (by omega)) rfl ?_))
    refine A.one 4 rfl (by kernel_rfl) ?_
    refine Do.call rfl rfl (ih k (by omega) R e _ (ts.take k) i hlk hq1 (txts_sub ht fun x hx => List.mem_of_mem_take hx) (fun a ha => hb a (List.mem_of_mem_take ha)) (by omega) hi0) ?_
    rintro _ _ ⟨ad1, c1, out, rfl, ho, rfl⟩
    have hol : out.length ≤ 1000000 := by
      have h7 := congrArg List.length ho
      rw [List.length_map, pathP_length _ _ _ rfl] at h7
      have := longP_le 20 (ts.take k).length i (by omega)
      rw [List.length_map] at h7
      omega
    refine ⟨fun _ => (by (repeat first | exact Ent.rfl | exact Ent.nil | refine Ent.cons ?_ | (apply Ent.pull; exact (by (repeat first | exact Pull.zero | apply Pull.succ); done)) | refine Ent.drop ?_); done), ?_⟩
    refine A.one 8 rfl (by kernel_rfl) ?_
    refine Do.call rfl rfl (root_spec (ts.length - k) _ e _ (ts.drop k) hlk2 hq2.tail.tail (Txts.tail (Txts.tail (txts_sub ht fun x hx => List.mem_of_mem_drop hx))) (fun a ha => hb a (List.mem_of_mem_drop ha)) (by omega)) ?_
    rintro _ _ ⟨ad2, c2, rfl, rfl⟩
    refine ⟨fun _ => (by (repeat first | exact Ent.rfl | exact Ent.nil | refine Ent.cons ?_ | (apply Ent.pull; exact (by (repeat first | exact Pull.zero | apply Pull.succ); done)) | refine Ent.drop ?_); done), ?_⟩
    generalize hrt : rootP ((ts.drop k).map (·.2)) = rt at *
    refine A.one 9 rfl (by kernel_rfl) ?_
    refine Do.buildSlice (n := 1) rfl rfl rfl rfl (by (repeat first | exact Bs.Parts.nil | apply Bs.Parts.one rfl rfl | apply Bs.Parts.one (Bs.cells_one (by assumption)) rfl | (apply Bs.Parts.agg; exact rfl)); done) rfl (fun g2 => ⟨fun _ => (by (repeat first | exact Ent.rfl | exact Ent.nil | refine Ent.cons ?_ | (apply Ent.pull; exact (by (repeat first | exact Pull.zero | apply Pull.succ); done)) | refine Ent.drop ?_); done), ?_⟩)
    refine A.one 10 rfl (by kernel_rfl) ?_
    refine Do.append rfl rfl rfl (.succ (.succ .zero)) (RdSl.blkN (n := 1) (c := 1) .zero rfl (by simp [maxLen])) rfl rfl (by (repeat first | exact one_nil | (apply one_cons; first | exact rfl | assumption)); done) (by simp only [maxLen]; omega) (by omega) fun ad3 c3 _ => ⟨fun _ => (by (repeat first | exact Ent.rfl | exact Ent.nil | refine Ent.cons ?_ | (apply Ent.pull; exact (by (repeat first | exact Pull.zero | apply Pull.succ); done)) | refine Ent.drop ?_); done), ?_⟩
    (all_goals (first | (refine A.one 11 rfl (by kernel_rfl) ?_; refine Do.val (Val.assign rfl) rfl ⟨(no_held (by kernel_rfl)), ?_⟩)))
    refine A.done (by kernel_rfl) ?_
    (repeat' first | apply Fin.next | apply W.ret | apply Fin.then_ret | apply Fin.block_ret)
    refine Fin.ret (OwnT (.slice ad3 (out ++ [((Value.slice ad2 rt.length c2, rt) : Txt)]).length c3) (out ++ [((Value.slice ad2 rt.length c2, rt) : Txt)]) :: Items (out ++ [((Value.slice ad2 rt.length c2, rt) : Txt)]) :: R) rfl (Ent.trans (by (repeat first | exact Ent.rfl | exact Ent.nil | refine Ent.cons ?_ | (apply Ent.pull; exact (by (repeat first | exact Pull.zero | apply Pull.succ); done)) | refine Ent.drop ?_); done) grow_txts) ⟨ad3, c3, out ++ [((Value.slice ad2 rt.length c2, rt) : Txt)], by rw [List.length_append, List.length_singleton]; rfl, by rw [List.map_append, ho, hlo hik]; rfl, rfl⟩
  · (repeat' first | (apply O.move; exact rfl; exact rfl) | (apply O.assign; exact rfl; exact rfl) | apply W.seq | apply W.region | apply O.nil | apply Fin.next | (apply O.lss_f; exact rfl; exact rfl; omega; exact rfl) | (apply O.eql_f; exact rfl; exact rfl; omega; exact rfl) | (apply W.cond_f; exact rfl) | apply W.block | apply W.skip | apply Fin.block_normal)
    refine A.start (id := 6) [13] Try.mixed ?_
    (all_goals (refine A.take 0 _ rfl (by kernel_rfl) Ent.rfl (Val.move rfl) rfl ?_); all_goals (refine A.take 1 _ rfl (by kernel_rfl) Ent.rfl (Val.move rfl) rfl ?_); all_goals (first | refine A.take 2 _ rfl (by kernel_rfl) Ent.rfl (Val.sliceHi rfl rfl (by omega) (by omega)) rfl ?_ | refine A.take 2 _ rfl (by kernel_rfl) Ent.rfl (Val.sliceLo rfl rfl (by omega) (by omega)) rfl ?_ | refine A.take 2 _ rfl (by kernel_rfl) Ent.rfl (Val.sliceLoHi rfl rfl rfl (by omega) (by omega) (by omega)) rfl ?_); all_goals (refine A.take 3 _ rfl (by kernel_rfl) Ent.rfl (Val.move rfl) rfl ?_); all_goals (refine A.take 4 _ rfl (by kernel_rfl) Ent.rfl (Val.move rfl) rfl ?_); all_goals (first | refine A.take 5 _ rfl (by kernel_rfl) Ent.rfl (Val.sub64 rfl rfl (by omega)) rfl ?_ | refine A.take 5 _ rfl (by kernel_rfl) Ent.rfl (Val.sub rfl rfl) rfl ?_); all_goals (refine A.take 7 _ rfl (by kernel_rfl) Ent.rfl (Val.move rfl) rfl ?_); all_goals (refine A.take 8 _ rfl (by kernel_rfl) Ent.rfl (Val.move rfl) rfl ?_); all_goals (first | refine A.take 9 _ rfl (by kernel_rfl) Ent.rfl (Val.sliceHi rfl rfl (by omega) (by omega)) rfl ?_ | refine A.take 9 _ rfl (by kernel_rfl) Ent.rfl (Val.sliceLo rfl rfl (by omega) (by omega)) rfl ?_ | refine A.take 9 _ rfl (by kernel_rfl) Ent.rfl (Val.sliceLoHi rfl rfl rfl (by omega) (by omega) (by omega)) rfl ?_))
    rw [show ((i : Nat) : Int) - ((k : Nat) : Int) = ((i - k : Nat) : Int) by omega]
    refine A.one 6 rfl (by kernel_rfl) ?_
    refine Do.call rfl rfl (ih (ts.length - k) (by omega) R e _ (ts.drop k) (i - k) hlk2 hq2 (txts_sub ht fun x hx => List.mem_of_mem_drop hx) (fun a ha => hb a (List.mem_of_mem_drop ha)) (by omega) (by omega)) ?_
    rintro _ _ ⟨ad1, c1, out, rfl, ho, rfl⟩
    have hol : out.length ≤ 1000000 := by
      have h7 := congrArg List.length ho
      rw [List.length_map, pathP_length _ _ _ rfl] at h7
      have := longP_le 20 (ts.drop k).length (i - k) (by omega)
      rw [List.length_map] at h7
      omega
    refine ⟨fun _ => (by (repeat first | exact Ent.rfl | exact Ent.nil | refine Ent.cons ?_ | (apply Ent.pull; exact (by (repeat first | exact Pull.zero | apply Pull.succ); done)) | refine Ent.drop ?_); done), ?_⟩
    refine A.one 10 rfl (by kernel_rfl) ?_
    refine Do.call rfl rfl (root_spec k _ e _ (ts.take k) hlk hq1.tail.tail (Txts.tail (Txts.tail (txts_sub ht fun x hx => List.mem_of_mem_take hx))) (fun a ha => hb a (List.mem_of_mem_take ha)) (by omega)) ?_
    rintro _ _ ⟨ad2, c2, rfl, rfl⟩
    refine ⟨fun _ => (by (repeat first | exact Ent.rfl | exact Ent.nil | refine Ent.cons ?_ | (apply Ent.pull; exact (by (repeat first | exact Pull.zero | apply Pull.succ); done)) | refine Ent.drop ?_); done), ?_⟩
    generalize hrt : rootP ((ts.take k).map (·.2)) = rt at *
    refine A.one 11 rfl (by kernel_rfl) ?_
    refine Do.buildSlice (n := 1) rfl rfl rfl rfl (by (repeat first | exact Bs.Parts.nil | apply Bs.Parts.one rfl rfl | apply Bs.Parts.one (Bs.cells_one (by assumption)) rfl | (apply Bs.Parts.agg; exact rfl)); done) rfl (fun g2 => ⟨fun _ => (by (repeat first | exact Ent.rfl | exact Ent.nil | refine Ent.cons ?_ | (apply Ent.pull; exact (by (repeat first | exact Pull.zero | apply Pull.succ); done)) | refine Ent.drop ?_); done), ?_⟩)
    refine A.one 12 rfl (by kernel_rfl) ?_
    refine Do.append rfl rfl rfl (.succ (.succ .zero)) (RdSl.blkN (n := 1) (c := 1) .zero rfl (by simp [maxLen])) rfl rfl (by (repeat first | exact one_nil | (apply one_cons; first | exact rfl | assumption)); done) (by simp only [maxLen]; omega) (by omega) fun ad3 c3 _ => ⟨fun _ => (by (repeat first | exact Ent.rfl | exact Ent.nil | refine Ent.cons ?_ | (apply Ent.pull; exact (by (repeat first | exact Pull.zero | apply Pull.succ); done)) | refine Ent.drop ?_); done), ?_⟩
    (all_goals (first | (refine A.one 13 rfl (by kernel_rfl) ?_; refine Do.val (Val.assign rfl) rfl ⟨(no_held (by kernel_rfl)), ?_⟩)))
    refine A.done (by kernel_rfl) ?_
    (repeat' first | apply Fin.next | apply W.ret)
    refine Fin.ret (OwnT (.slice ad3 (out ++ [((Value.slice ad2 rt.length c2, rt) : Txt)]).length c3) (out ++ [((Value.slice ad2 rt.length c2, rt) : Txt)]) :: Items (out ++ [((Value.slice ad2 rt.length c2, rt) : Txt)]) :: R) rfl (Ent.trans (by (repeat first | exact Ent.rfl | exact Ent.nil | refine Ent.cons ?_ | (apply Ent.pull; exact (by (repeat first | exact Pull.zero | apply Pull.succ); done)) | refine Ent.drop ?_); done) grow_txts) ⟨ad3, c3, out ++ [((Value.slice ad2 rt.length c2, rt) : Txt)], by rw [List.length_append, List.length_singleton]; rfl, by rw [List.map_append, ho, hhi hik]; rfl, rfl⟩
abbrev tPf : TypeId := 27
theorem include_spec (R : List Res) (e : World) (v : Value) (ts : List Txt) (n : Int) (hn : -9223372036854775808 ≤ n ∧ n ≤ 9223372036854775807) (hv : RdSl R 1 v ts.length (ts.map (·.1))) (ht : Txts R ts) (hb : ∀ a ∈ ts, a.2.length ≤ 1000000) (hl : ts.length ≤ 1000000) :
    Ct Try.prog 21 #[v, .int .i64 n] e R (fun v' L' =>
      (¬ (0 ≤ n ∧ n < ts.length) ∧ v' = .tuple #[.agg #[.int .i64 0, .int .i64 0, .slice none 0 0], .int .i64 1] ∧ R = L') ∨
      (0 ≤ n ∧ n < ts.length ∧ ∃ ad c out, v' = .tuple #[.agg #[.int .i64 n, .int .i64 (ts.length : Int), .slice ad out.length c], .int .i64 0] ∧ out.map (·.2) = pathP (ts.map (·.2)) n.toNat ∧ L' = OwnT (.slice ad out.length c) out :: Items out :: R)) := by
  refine Ct.of_sep (hv.shape (by omega)) ?_
  rintro ⟨⟨ad, cap, rfl, h3, h4, h5, h6⟩, _⟩
  refine Ct.enterC (args := [_, _]) Try.func21 rfl Try.ntmps21 Try.results21 rfl ?_
  by_cases hok : 0 ≤ n ∧ n < ts.length
  rotate_left
  · by_cases h0 : n < 0
    · (repeat' first | (apply O.move; exact rfl; exact rfl) | (apply O.assign; exact rfl; exact rfl) | apply W.seq | apply W.region | apply O.nil | apply Fin.next | (apply O.pick_t; exact rfl; exact rfl; exact rfl) | (apply O.unwant; exact rfl; exact rfl) | (apply O.lss_t; exact rfl; exact rfl; omega; exact rfl) | (apply O.build; exact rfl; (simp [Instr.fill, Value.cells]; rfl); exact rfl) | (apply O.alloc; exact rfl; exact rfl; intro _) | (apply W.cond_t; exact rfl) | apply W.ret | apply Fin.then_ret | (apply O.storeAgg; exact rfl; exact rfl; exact rfl; (focus ((repeat first | exact one_nil | (apply one_cons; first | exact rfl | assumption)); done)); (focus ((repeat first | exact Upd.zero | apply Upd.succ); done)); focus ((repeat first | exact SetAts.nil | apply SetAts.cons | exact SetAt.zero | apply SetAt.succ); done)))
      apply Fin.retC
      (focus ((repeat first | exact RetL.nil | (apply RetL.tmp; exact rfl) | (apply RetL.agg; exact rfl; (focus ((repeat first | exact RdA.whole .zero | assumption | apply RdA.tail); done)); exact rfl) | (apply RetL.cell; exact rfl; (focus ((repeat first | exact Rd.blk .zero rfl | assumption | apply Rd.tail); done)))); done))
      exact ⟨R, (by (repeat first | exact Ent.rfl | exact Ent.nil | refine Ent.cons ?_ | (apply Ent.pull; exact (by (repeat first | exact Pull.zero | apply Pull.succ); done)) | refine Ent.drop ?_); done), .inl ⟨hok, rfl, rfl⟩⟩
    · (repeat' first | (apply O.move; exact rfl; exact rfl) | (apply O.assign; exact rfl; exact rfl) | apply W.seq | apply W.region | apply O.nil | apply Fin.next | (apply O.len; exact rfl; exact rfl) | (apply O.pick_f; exact rfl; exact rfl; exact rfl) | (apply O.want; exact rfl) | (apply O.lss_f; exact rfl; exact rfl; omega; exact rfl) | (apply O.geq_t; exact rfl; exact rfl; omega; exact rfl) | (apply O.build; exact rfl; (simp [Instr.fill, Value.cells]; rfl); exact rfl) | (apply O.alloc; exact rfl; exact rfl; intro _) | (apply W.cond_t; exact rfl) | apply W.ret | apply Fin.then_ret | (apply O.storeAgg; exact rfl; exact rfl; exact rfl; (focus ((repeat first | exact one_nil | (apply one_cons; first | exact rfl | assumption)); done)); (focus ((repeat first | exact Upd.zero | apply Upd.succ); done)); focus ((repeat first | exact SetAts.nil | apply SetAts.cons | exact SetAt.zero | apply SetAt.succ); done)))
      apply Fin.retC
      (focus ((repeat first | exact RetL.nil | (apply RetL.tmp; exact rfl) | (apply RetL.agg; exact rfl; (focus ((repeat first | exact RdA.whole .zero | assumption | apply RdA.tail); done)); exact rfl) | (apply RetL.cell; exact rfl; (focus ((repeat first | exact Rd.blk .zero rfl | assumption | apply Rd.tail); done)))); done))
      exact ⟨R, (by (repeat first | exact Ent.rfl | exact Ent.nil | refine Ent.cons ?_ | (apply Ent.pull; exact (by (repeat first | exact Pull.zero | apply Pull.succ); done)) | refine Ent.drop ?_); done), .inl ⟨hok, rfl, rfl⟩⟩
  obtain ⟨h0, hlt⟩ := hok
  obtain ⟨m, rfl⟩ := Int.eq_ofNat_of_zero_le h0
  rw [Int.toNat_natCast]
  (repeat' first | (apply O.move; exact rfl; exact rfl) | (apply O.assign; exact rfl; exact rfl) | apply W.seq | apply W.region | apply O.nil | apply Fin.next | (apply O.len; exact rfl; exact rfl) | (apply O.pick_f; exact rfl; exact rfl; exact rfl) | (apply O.want; exact rfl) | (apply O.lss_f; exact rfl; exact rfl; omega; exact rfl) | (apply O.geq_f; exact rfl; exact rfl; omega; exact rfl) | (apply O.alloc; exact rfl; exact rfl; intro _) | (apply W.cond_f; exact rfl) | apply W.skip)
  refine O.call rfl rfl (path_spec ts.length _ e _ ts m rfl hv.tail ht.tail hb hl (by omega)) ?_
  rintro _ _ ⟨ad1, c1, out, rfl, ho, rfl⟩
  (repeat' first | (apply O.assign; exact rfl; exact rfl) | apply O.nil | apply Fin.next | (apply O.build; exact rfl; (simp [Instr.fill, Value.cells]; rfl); exact rfl) | apply W.ret | (apply O.storeAgg; exact rfl; exact rfl; exact rfl; (focus ((repeat first | exact one_nil | (apply one_cons; first | exact rfl | assumption)); done)); (focus ((repeat first | exact Upd.zero | apply Upd.succ); done)); focus ((repeat first | exact SetAts.nil | apply SetAts.cons | exact SetAt.zero | apply SetAt.succ); done)))
  apply Fin.retC
  (focus ((repeat first | exact RetL.nil | (apply RetL.tmp; exact rfl) | (apply RetL.agg; exact rfl; (focus ((repeat first | exact RdA.whole .zero | assumption | apply RdA.tail); done)); exact rfl) | (apply RetL.cell; exact rfl; (focus ((repeat first | exact Rd.blk .zero rfl | assumption | apply Rd.tail); done)))); done))
  exact ⟨OwnT (.slice ad1 out.length c1) out :: Items out :: R, (by (repeat first | exact Ent.rfl | exact Ent.nil | refine Ent.cons ?_ | (apply Ent.pull; exact (by (repeat first | exact Pull.zero | apply Pull.succ); done)) | refine Ent.drop ?_); done), .inr ⟨h0, hlt, ad1, c1, out, rfl, ho, rfl⟩⟩
theorem is_spec (R : List Res) (e : World) (v : Value) (b : List UInt8) (hv : RdB R v b) :
    Ct Try.prog 40 #[v] e R (fun v' L' => v' = .bool (decide (b.length = 32)) ∧ R = L') := by
  refine Ct.of_sep (RdSl.shape hv (by omega)) ?_
  rintro ⟨⟨ad, cap, rfl, h3, h4, h5, h6⟩, _⟩
  refine Ct.enter (args := [_]) Try.func40 rfl Try.ntmps40 Try.results40 rfl ?_
  by_cases h : b.length = 32
  · rw [decide_eq_true h]
    (repeat' first | (apply O.move; exact rfl; exact rfl) | (apply O.assign; exact rfl; exact rfl) | apply W.seq | apply W.region | apply O.nil | apply Fin.next | (apply O.len; exact rfl; exact rfl) | (apply O.eql_t; exact rfl; exact rfl; omega; exact rfl) | apply W.ret)
    exact Fin.ret R rfl Ent.rfl ⟨rfl, rfl⟩
  · rw [decide_eq_false h]
    (repeat' first | (apply O.move; exact rfl; exact rfl) | (apply O.assign; exact rfl; exact rfl) | apply W.seq | apply W.region | apply O.nil | apply Fin.next | (apply O.len; exact rfl; exact rfl) | (apply O.eql_f; exact rfl; exact rfl; omega; exact rfl) | apply W.ret)
    exact Fin.ret R rfl Ent.rfl ⟨rfl, rfl⟩
theorem isnt_spec (R : List Res) (e : World) (v : Value) (b : List UInt8) (hv : RdB R v b) :
    Ct Try.prog 55 #[v] e R (fun v' L' => v' = .bool (!decide (b.length = 32)) ∧ R = L') := by
  refine Ct.enter (args := [_]) Try.func55 rfl Try.ntmps55 Try.results55 rfl ?_
  (repeat' first | (apply O.move; exact rfl; exact rfl) | (apply O.assign; exact rfl; exact rfl) | apply W.seq | apply W.region | apply O.nil | apply Fin.next)
  refine O.call rfl rfl (is_spec _ e v b hv) ?_
  rintro _ _ ⟨rfl, rfl⟩
  by_cases h : b.length = 32
  · rw [decide_eq_true h]
    (repeat' first | (apply O.assign; exact rfl; exact rfl) | apply O.nil | apply Fin.next | (apply O.not_t; exact rfl; exact rfl) | apply W.ret)
    exact Fin.ret R rfl Ent.rfl ⟨rfl, rfl⟩
  · rw [decide_eq_false h]
    (repeat' first | (apply O.assign; exact rfl; exact rfl) | apply O.nil | apply Fin.next | (apply O.not_f; exact rfl; exact rfl) | apply W.ret)
    exact Fin.ret R rfl Ent.rfl ⟨rfl, rfl⟩
/-- Where the first text stands that is no hash. -/
theorem index_spec (R : List Res) (e : World) (v : Value) (ts : List Txt) (hv : RdSl R 1 v ts.length (ts.map (·.1))) (ht : Txts R ts) (hl : ts.length ≤ 1000000) :
    Ct Try.prog 69 #[v, .func (.func 55) #[] #[]] e R (fun v' L' => (∃ k : Int, v' = .int .i64 k ∧ (0 ≤ k ↔ ¬ ∀ a ∈ ts, a.2.length = 32)) ∧ R = L') := by
  refine Ct.of_sep (hv.shape (by omega)) ?_
  rintro ⟨⟨ad, cap, rfl, h3, h4, h5, h6⟩, _⟩
  refine Ct.enter (args := [_, _]) Try.func69 rfl Try.ntmps69 Try.results69 rfl ?_
  (repeat' first | (apply O.move; exact rfl; exact rfl) | (apply O.assign; exact rfl; exact rfl) | apply W.seq | apply W.region | apply O.nil | apply Fin.next | (apply O.len; exact rfl; exact rfl) | apply W.block)
  refine W.loop (ι := Nat) (fun i => [(0, .slice ad ts.length cap), (1, .func (.func 55) #[] #[]), (7, .int .i64 (ts.length : Int)), (8, .int .i64 (i : Int))]) (fun _ => R) (fun i => i ≤ ts.length ∧ ∀ a ∈ ts.take i, a.2.length = 32) (fun i => ts.length - i) 0 ⟨Nat.zero_le _, fun a ha => (by cases ha)⟩ (sub_cons rfl (sub_cons rfl (sub_cons rfl (sub_cons rfl sub_nil)))) Ent.rfl ?_
  rintro i ⟨h1, h2⟩
  by_cases hlt : i < ts.length
  rotate_left
  · rw [List.take_of_length_le (by omega)] at h2
    (repeat' first | (apply O.assign; exact rfl; exact rfl) | apply W.seq | apply W.region | apply O.nil | apply Fin.next | (apply O.lss_f; exact rfl; exact rfl; omega; exact rfl) | (apply W.cond_f; exact rfl) | apply W.exit | apply W.ret | apply Fin.then_exit | apply Fin.block_hit)
    exact Fin.ret R rfl Ent.rfl ⟨⟨-1, rfl, ⟨fun h => absurd h (by decide), fun h => absurd h2 h⟩⟩, rfl⟩
  rcases h6 with h6 | ⟨gl, ol, rfl⟩
  · omega
  have hr : Rd R ⟨gl, ol + i, none⟩ (ts[i]'hlt).1 := hv.elem (by rw [List.getElem?_map, List.getElem?_eq_getElem hlt]; rfl)
  have hm := List.getElem_mem hlt
  have hx := ht _ hm
  have htk : ts.take (i + 1) = ts.take i ++ [ts[i]'hlt] := List.take_succ_eq_append_getElem hlt
  generalize ts[i]'hlt = y at *
  (repeat' first | (apply O.move; exact rfl; exact rfl) | (apply O.assign; exact rfl; exact rfl) | apply W.seq | apply W.region | apply O.nil | apply Fin.next | (apply O.load; exact rfl; (focus ((repeat first | exact Rd.blk .zero rfl | assumption | apply Rd.tail); done)); exact rfl) | (apply O.lss_t; exact rfl; exact rfl; omega; exact rfl) | (apply O.indexAddr1; exact rfl; exact rfl; omega; exact rfl) | (apply W.cond_t; exact rfl) | apply W.block | apply W.skip)
  refine O.callV (us := []) (ws := []) rfl rfl rfl (isnt_spec R e y.1 y.2 hx) ?_
  rintro _ _ ⟨rfl, rfl⟩
  by_cases h32 : y.2.length = 32
  · rw [decide_eq_true h32]
    (repeat' first | (apply O.move; exact rfl; exact rfl) | apply W.region | apply O.nil | apply Fin.next | (apply O.add64; exact rfl; exact rfl; omega; exact rfl) | (apply W.cond_f; exact rfl) | apply W.skip | apply Fin.block_normal)
    refine Fin.round (i + 1) ⟨hlt, fun a ha => ?_⟩ (by omega) (sub_cons rfl (sub_cons rfl (sub_cons rfl (sub_cons rfl sub_nil)))) Ent.rfl
    rw [htk] at ha
    rcases List.mem_append.1 ha with q | q
    · exact h2 a q
    · rw [List.mem_singleton.1 q]; exact h32
  · rw [decide_eq_false h32]
    (repeat' first | (apply O.move; exact rfl; exact rfl) | (apply O.assign; exact rfl; exact rfl) | apply W.seq | apply W.region | apply O.nil | apply Fin.next | (apply W.cond_t; exact rfl) | apply W.ret | apply Fin.then_ret | apply Fin.block_ret)
    exact Fin.ret R rfl Ent.rfl ⟨⟨i, rfl, ⟨fun _ h => h32 (h y hm), fun _ => by omega⟩⟩, rfl⟩
theorem contains_spec (R : List Res) (e : World) (v : Value) (ts : List Txt) (hv : RdSl R 1 v ts.length (ts.map (·.1))) (ht : Txts R ts) (hl : ts.length ≤ 1000000) :
    Ct Try.prog 54 #[v, .func (.func 55) #[] #[]] e R (fun v' L' => v' = .bool (!decide (∀ a ∈ ts, a.2.length = 32)) ∧ R = L') := by
  refine Ct.enter (args := [_, _]) Try.func54 rfl Try.ntmps54 Try.results54 rfl ?_
  (repeat' first | (apply O.move; exact rfl; exact rfl) | (apply O.assign; exact rfl; exact rfl) | apply W.seq | apply W.region | apply O.nil | apply Fin.next)
  refine O.call rfl rfl (index_spec _ e v ts hv ht hl) ?_
  rintro _ _ ⟨⟨k, rfl, hk⟩, rfl⟩
  by_cases h : ∀ a ∈ ts, a.2.length = 32
  · rw [decide_eq_true h]
    have : ¬ 0 ≤ k := fun h0 => hk.1 h0 h
    (repeat' first | (apply O.assign; exact rfl; exact rfl) | apply O.nil | apply Fin.next | (apply O.geq_f; exact rfl; exact rfl; omega; exact rfl) | apply W.ret)
    exact Fin.ret R rfl Ent.rfl ⟨rfl, rfl⟩
  · rw [decide_eq_false h]
    have := hk.2 h
    (repeat' first | (apply O.assign; exact rfl; exact rfl) | apply O.nil | apply Fin.next | (apply O.geq_t; exact rfl; exact rfl; omega; exact rfl) | apply W.ret)
    exact Fin.ret R rfl Ent.rfl ⟨rfl, rfl⟩
/-- May it be a path? -/
def rightP (l : List Txt) : Bool := decide (l.length ≤ 16 ∧ ∀ a ∈ l, a.2.length = 32)
theorem rightP_spec (R : List Res) (e : World) (v : Value) (ts : List Txt) (hv : RdSl R 1 v ts.length (ts.map (·.1))) (ht : Txts R ts) :
    Ct Try.prog 35 #[v] e R (fun v' L' => v' = .bool (rightP ts) ∧ R = L') := by
  refine Ct.of_sep (hv.shape (by omega)) ?_
  rintro ⟨⟨ad, cap, rfl, h3, h4, h5, h6⟩, _⟩
  refine Ct.enter (args := [_]) Try.func35 rfl Try.ntmps35 Try.results35 rfl ?_
  by_cases hl : ts.length ≤ 16
  rotate_left
  · rw [show rightP ts = false from decide_eq_false fun h => hl h.1]
    (repeat' first | (apply O.move; exact rfl; exact rfl) | (apply O.assign; exact rfl; exact rfl) | apply W.seq | apply W.region | apply O.nil | apply Fin.next | (apply O.len; exact rfl; exact rfl) | (apply O.pick_f; exact rfl; exact rfl; exact rfl) | (apply O.unwant; exact rfl; exact rfl) | (apply O.leq_f; exact rfl; exact rfl; omega; exact rfl) | apply W.ret)
    exact Fin.ret R rfl Ent.rfl ⟨rfl, rfl⟩
  (repeat' first | (apply O.move; exact rfl; exact rfl) | (apply O.assign; exact rfl; exact rfl) | apply W.seq | apply W.region | apply O.nil | apply Fin.next | (apply O.len; exact rfl; exact rfl) | (apply O.want; exact rfl) | (apply O.leq_t; exact rfl; exact rfl; omega; exact rfl))
  refine O.call rfl rfl (contains_spec _ e _ ts hv ht (by omega)) ?_
  rintro _ _ ⟨rfl, rfl⟩
  by_cases h : ∀ a ∈ ts, a.2.length = 32
  · rw [decide_eq_true h, show rightP ts = true from decide_eq_true ⟨hl, h⟩]
    (repeat' first | (apply O.assign; exact rfl; exact rfl) | apply O.nil | apply Fin.next | (apply O.pick_t; exact rfl; exact rfl; exact rfl) | (apply O.want; exact rfl) | (apply O.not_f; exact rfl; exact rfl) | apply W.ret)
    exact Fin.ret R rfl Ent.rfl ⟨rfl, rfl⟩
  · rw [decide_eq_false h, show rightP ts = false from decide_eq_false fun q => h q.2]
    (repeat' first | (apply O.assign; exact rfl; exact rfl) | apply O.nil | apply Fin.next | (apply O.pick_t; exact rfl; exact rfl; exact rfl) | (apply O.want; exact rfl) | (apply O.not_t; exact rfl; exact rfl) | apply W.ret)
    exact Fin.ret R rfl Ent.rfl ⟨rfl, rfl⟩
theorem last_spec (R : List Res) (e : World) (ad : Option Addr) (cap : Nat) (ts : List Txt) (hv : RdSl R 1 (.slice ad ts.length cap) ts.length (ts.map (·.1))) (hl : ts.length ≤ 1000000) :
    Ct Try.prog 61 #[.slice ad ts.length cap] e R (fun v' L' => ((ts = [] ∧ v' = .tuple #[.slice none 0 0, .slice none 0 0, .bool false]) ∨ (∃ us a, ts = us ++ [a] ∧ v' = .tuple #[.slice ad us.length cap, a.1, .bool true])) ∧ R = L') := by
  refine Ct.of_sep (hv.shape (by omega)) ?_
  rintro ⟨⟨ad', cap', hq, h3, h4, h5, h6⟩, _⟩
  obtain ⟨rfl, _, rfl⟩ := Value.slice.inj hq
  clear hq
  simp only [maxLen] at h4
  refine Ct.enter (args := [_]) Try.func61 rfl Try.ntmps61 Try.results61 rfl ?_
  obtain rfl | ⟨us, a, rfl⟩ : ts = [] ∨ ∃ us a, ts = us ++ [a] := by
    rcases List.eq_nil_or_concat ts with h | ⟨us, a, h⟩
    · exact .inl h
    · exact .inr ⟨us, a, by rw [h, List.concat_eq_append]⟩
  · have e0 : ((([] : List Txt).length : Nat) : Int) = 0 := rfl
    (repeat' first | (apply O.move; exact rfl; exact rfl) | (apply O.assign; exact rfl; exact rfl) | apply W.seq | apply W.region | apply O.nil | apply Fin.next | (apply O.len; exact rfl; exact rfl) | (apply O.lss_t; exact rfl; exact rfl; omega; exact rfl) | (apply O.sub64; exact rfl; exact rfl; omega; exact rfl) | (apply W.cond_t; exact rfl) | apply W.ret | apply Fin.then_ret)
    exact Fin.ret R rfl Ent.rfl ⟨.inl ⟨rfl, rfl⟩, rfl⟩
  have hl1 : (us ++ [a]).length = us.length + 1 := by rw [List.length_append, List.length_singleton]
  rcases h6 with h6 | ⟨gl, ol, rfl⟩
  · omega
  have hr : Rd R ⟨gl, ol + us.length, none⟩ a.1 := hv.elem (by simp)
  have e1 : (((us ++ [a]).length : Nat) : Int) - 1 = (us.length : Int) := by omega
  (repeat' first | (apply O.move; exact rfl; exact rfl) | (apply O.assign; exact rfl; exact rfl) | apply W.seq | apply W.region | apply O.nil | apply Fin.next | (apply O.len; exact rfl; exact rfl) | (apply O.lss_f; exact rfl; exact rfl; omega; exact rfl) | (apply O.sub64; exact rfl; exact rfl; omega; exact rfl) | (apply W.cond_f; exact rfl) | apply W.skip)
  rw [e1]
  (repeat' first | (apply O.move; exact rfl; exact rfl) | (apply O.assign; exact rfl; exact rfl) | apply W.seq | apply W.region | apply O.nil | apply Fin.next | (apply O.load; exact rfl; (focus ((repeat first | exact Rd.blk .zero rfl | assumption | apply Rd.tail); done)); exact rfl) | (apply O.loadAggR; exact rfl; (focus ((repeat first | exact RdA.whole .zero | assumption | apply RdA.tail); done)); exact rfl; exact rfl) | (apply O.len; exact rfl; exact rfl) | (apply O.lss_t; exact rfl; exact rfl; omega; exact rfl) | (apply O.lss_f; exact rfl; exact rfl; omega; exact rfl) | (apply O.lss_d; exact rfl; exact rfl; exact rfl; all_goals intro _) | (apply O.sub64; exact rfl; exact rfl; omega; exact rfl) | (apply O.sub; exact rfl; exact rfl; exact rfl) | (apply O.lssStr_t; exact rfl; exact rfl; assumption; exact rfl) | (apply O.lssStr_f; exact rfl; exact rfl; assumption; exact rfl) | (apply O.lssStr; exact rfl; exact rfl; exact rfl) | (apply O.lenS; exact rfl; exact rfl) | (apply O.sliceHi; exact rfl; exact rfl; omega; omega; exact rfl) | (apply O.sliceLo; exact rfl; exact rfl; omega; omega; exact rfl) | (apply O.sliceLoHi; exact rfl; exact rfl; exact rfl; omega; omega; omega; exact rfl) | (apply O.indexAddr1; exact rfl; exact rfl; omega; exact rfl) | (apply O.indexAddrN; exact rfl; exact rfl; omega; exact rfl) | (apply O.indexAddr; exact rfl; exact rfl; omega; omega; exact rfl) | (apply W.cond_t; exact rfl) | (apply W.cond_f; exact rfl) | apply W.skip | apply W.ret | apply Fin.then_ret)
  refine A.start (id := 4) [8, 9] Try.mixed ?_
  (all_goals (refine A.take 0 _ rfl (by kernel_rfl) Ent.rfl (Val.move rfl) rfl ?_); all_goals (refine A.take 1 _ rfl (by kernel_rfl) Ent.rfl (Val.move rfl) rfl ?_); all_goals (first | refine A.take 2 _ rfl (by kernel_rfl) Ent.rfl (Val.sliceHi rfl rfl (by omega) (by omega)) rfl ?_ | refine A.take 2 _ rfl (by kernel_rfl) Ent.rfl (Val.sliceLo rfl rfl (by omega) (by omega)) rfl ?_ | refine A.take 2 _ rfl (by kernel_rfl) Ent.rfl (Val.sliceLoHi rfl rfl rfl (by omega) (by omega) (by omega)) rfl ?_); all_goals (refine A.take 3 _ rfl (by kernel_rfl) Ent.rfl (Val.move rfl) rfl ?_); all_goals (refine A.take 4 _ rfl (by kernel_rfl) Ent.rfl (Val.move rfl) rfl ?_); all_goals (first | refine A.take 5 _ rfl (by kernel_rfl) Ent.rfl (Val.indexAddrA1 rfl rfl (by omega)) rfl ?_ | refine A.take 5 _ rfl (by kernel_rfl) Ent.rfl (Val.indexAddrA rfl rfl (by omega)) rfl ?_ | refine A.take 5 _ rfl (by kernel_rfl) Ent.rfl (Val.indexAddr1 rfl rfl (by omega)) rfl ?_ | refine A.take 5 _ rfl (by kernel_rfl) Ent.rfl (Val.indexAddrN rfl rfl (by omega)) rfl ?_ | refine A.take 5 _ rfl (by kernel_rfl) Ent.rfl (Val.indexAddr rfl rfl (by omega) (by omega)) rfl ?_); all_goals (first | refine A.take 6 _ rfl (by kernel_rfl) Ent.rfl (Val.load rfl (by (repeat first | exact Rd.blk .zero rfl | assumption | apply Rd.tail); done)) rfl ?_ | refine A.take 6 _ rfl (by kernel_rfl) Ent.rfl (Val.loadAggR rfl (by (repeat first | exact RdA.whole .zero | assumption | apply RdA.tail); done) (by exact rfl)) rfl ?_); all_goals (refine A.take 7 _ rfl (by kernel_rfl) Ent.rfl (Val.assign rfl) rfl ?_); all_goals (first | (refine A.one 8 rfl (by kernel_rfl) ?_; refine Do.val (Val.assign rfl) rfl ⟨(no_held (by kernel_rfl)), ?_⟩)); all_goals (first | (refine A.one 9 rfl (by kernel_rfl) ?_; refine Do.val (Val.assign rfl) rfl ⟨(no_held (by kernel_rfl)), ?_⟩)))
  refine A.done (by kernel_rfl) ?_
  (repeat' first | apply Fin.next | apply W.ret)
  exact Fin.ret R rfl Ent.rfl ⟨.inr ⟨us, a, rfl, rfl⟩, rfl⟩
theorem lastP_map (us : List Txt) (a : Txt) : lastP ((us ++ [a]).map (·.2)) = a.2 := by rw [List.map_append]; exact lastP_snoc _ _
theorem dropLast_map (us : List Txt) (a : Txt) : ((us ++ [a]).map (·.2)).dropLast = us.map (·.2) := by rw [List.map_append]; exact List.dropLast_concat
theorem init_rd {R : List Res} {ad : Option Addr} {cap : Nat} {us : List Txt} {a : Txt} (h : RdSl R 1 (.slice ad (us ++ [a]).length cap) (us ++ [a]).length ((us ++ [a]).map (·.1))) : RdSl R 1 (.slice ad us.length cap) us.length (us.map (·.1)) := by
  have := take_mapT h (k := us.length) (by simp)
  rwa [List.take_left'] at this
  rfl
/-- What a path leads to, whatever it is. -/
theorem lead_spec : ∀ (m : Nat) (R : List Res) (e : World) (ad : Option Addr) (cap : Nat) (ts : List Txt) (i n : Nat) (v : Value) (b : List UInt8), ts.length = m → RdSl R 1 (.slice ad ts.length cap) ts.length (ts.map (·.1)) → Txts R ts → (∀ a ∈ ts, a.2.length ≤ 1000000) → ts.length ≤ 1000000 → n < 9223372036854775808 → i < 9223372036854775808 → RdB R v b → b.length ≤ 1000000 →
    Ct Try.prog 41 #[.slice ad ts.length cap, .int .i64 (i : Int), .int .i64 (n : Int), v] e R (fun v' L' => ∃ ad' c t, v' = .tuple #[.slice ad' t.length c, .bool (decide (ts.length = longP n i))] ∧ (ts.length = longP n i → t = leadP n i (ts.map (·.2)) b) ∧ t.length ≤ 1000000 ∧ L' = OwnB (.slice ad' t.length c) t :: R) := by
  intro m
  induction m using Nat.strongRecOn with
  | _ m ih =>
  intro R e ad cap ts i n v b hm hv ht hsz hl hn hi hb hbl
  refine Ct.enter (args := [_, _, _, _]) Try.func41 rfl Try.ntmps41 Try.results41 rfl ?_
  (repeat' first | (apply O.move; exact rfl; exact rfl) | (apply O.assign; exact rfl; exact rfl) | apply W.seq | apply W.region | apply O.nil | apply Fin.next)
  refine O.call rfl rfl (split_spec R e n (by omega)) ?_
  rintro _ _ ⟨rfl, rfl⟩
  rw [splitI_nat]
  by_cases h2 : 2 ≤ n
  rotate_left
  · have h0 : splitP n = 0 := by unfold splitP; rw [if_pos (by omega)]
    rw [h0]
    have hlg := longP_none (i := i) h2
    (repeat' first | (apply O.move; exact rfl; exact rfl) | (apply O.assign; exact rfl; exact rfl) | apply W.seq | apply W.region | apply O.nil | apply Fin.next | (apply O.eql_t; exact rfl; exact rfl; omega; exact rfl) | (apply W.cond_t; exact rfl))
    refine O.call rfl rfl (clone_spec _ e _ b hb (by omega)) ?_
    rintro _ _ ⟨ad1, c1, rfl, rfl⟩
    by_cases hl0 : ts.length = 0
    · (repeat' first | (apply O.move; exact rfl; exact rfl) | (apply O.assign; exact rfl; exact rfl) | apply O.nil | apply Fin.next | (apply O.len; exact rfl; exact rfl) | (apply O.eql_t; exact rfl; exact rfl; omega; exact rfl) | apply W.ret | apply Fin.then_ret)
      exact Fin.ret (OwnB (.slice ad1 b.length c1) b :: R) rfl Ent.rfl ⟨ad1, c1, b, by rw [hlg, decide_eq_true hl0]; rfl, fun _ => (leadP_none h2).symm, hbl, rfl⟩
    · (repeat' first | (apply O.move; exact rfl; exact rfl) | (apply O.assign; exact rfl; exact rfl) | apply O.nil | apply Fin.next | (apply O.len; exact rfl; exact rfl) | (apply O.eql_f; exact rfl; exact rfl; omega; exact rfl) | apply W.ret | apply Fin.then_ret)
      exact Fin.ret (OwnB (.slice ad1 b.length c1) b :: R) rfl Ent.rfl ⟨ad1, c1, b, by rw [hlg, decide_eq_false hl0]; rfl, fun _ => (leadP_none h2).symm, hbl, rfl⟩
  have hs := splitP_spec h2
  have hlo := fun h => longP_lo (i := i) h2 h
  have hhi := fun h => longP_hi (i := i) h2 h
  have hplo := fun p h => leadP_lo (i := i) (p := p) (x := b) h2 h
  have hphi := fun p h => leadP_hi (i := i) (p := p) (x := b) h2 h
  have hpos : 0 < longP n i := by
    by_cases h : i < splitP n
    · rw [hlo h]; omega
    · rw [hhi h]; omega
  generalize splitP n = k at *
  (repeat' first | (apply O.move; exact rfl; exact rfl) | (apply O.assign; exact rfl; exact rfl) | apply W.seq | apply W.region | apply O.nil | apply Fin.next | (apply O.eql_f; exact rfl; exact rfl; omega; exact rfl) | (apply W.cond_f; exact rfl) | apply W.skip)
  refine O.call rfl rfl (last_spec _ e ad cap ts hv hl) ?_
  rintro _ _ ⟨⟨rfl, rfl⟩ | ⟨us, a, rfl, rfl⟩, rfl⟩
  · (repeat' first | (apply O.move; exact rfl; exact rfl) | (apply O.assign; exact rfl; exact rfl) | apply W.seq | apply W.region | apply O.nil | apply Fin.next | (apply O.not_f; exact rfl; exact rfl) | (apply W.cond_t; exact rfl) | apply W.ret | apply Fin.then_ret | (apply O.extract; exact rfl; exact rfl; exact rfl))
    exact Fin.ret (OwnB (.slice none 0 0) [] :: R) rfl (own_nil _ _) ⟨none, 0, [], by rw [decide_eq_false (by simp; omega)]; rfl, fun h => (by simp at h; omega), by simp, rfl⟩
  have hl1 : (us ++ [a]).length = us.length + 1 := by rw [List.length_append, List.length_singleton]
  have hrd := init_rd hv
  have hTu : Txts R us := fun x hx => ht x (List.mem_append.2 (.inl hx))
  have ha : RdB R a.1 a.2 := ht a (List.mem_append.2 (.inr (List.mem_singleton.2 rfl)))
  have hal := hsz a (List.mem_append.2 (.inr (List.mem_singleton.2 rfl)))
  have hsu : ∀ x ∈ us, x.2.length ≤ 1000000 := fun x hx => hsz x (List.mem_append.2 (.inl hx))
  by_cases hik : i < k
  · (repeat' first | (apply O.move; exact rfl; exact rfl) | (apply O.assign; exact rfl; exact rfl) | apply W.seq | apply W.region | apply O.nil | apply Fin.next | (apply O.not_t; exact rfl; exact rfl) | (apply O.lss_t; exact rfl; exact rfl; omega; exact rfl) | (apply W.cond_t; exact rfl) | (apply W.cond_f; exact rfl) | apply W.skip | (apply O.extract; exact rfl; exact rfl; exact rfl))
    refine O.call rfl rfl (ih us.length (by omega) R e ad cap us i k v b rfl hrd hTu hsu (by omega) (by omega) hi hb hbl) ?_
    rintro _ _ ⟨ad1, c1, t, rfl, h7, h8, rfl⟩
    (repeat' first | (apply O.move; exact rfl; exact rfl) | (apply O.assign; exact rfl; exact rfl) | apply W.seq | apply W.region | apply O.nil | apply Fin.next | (apply O.extract; exact rfl; exact rfl; exact rfl))
    refine O.call rfl rfl (node_spec _ e _ _ _ _ (RdSl.own .zero) ha.tail h8 hal) ?_
    rintro _ _ ⟨ad3, c3, rfl, rfl⟩
    (repeat' first | (apply O.move; exact rfl; exact rfl) | (apply O.assign; exact rfl; exact rfl) | apply O.nil | apply Fin.next | apply W.ret | apply Fin.then_ret)
    refine Fin.ret (OwnB (.slice ad3 (nodeP t a.2).length c3) (nodeP t a.2) :: R) rfl (by (repeat first | exact Ent.rfl | exact Ent.nil | refine Ent.cons ?_ | (apply Ent.pull; exact (by (repeat first | exact Pull.zero | apply Pull.succ); done)) | refine Ent.drop ?_); done) ⟨ad3, c3, nodeP t a.2, ?_, fun h => ?_, by rw [nodeP, tagP_length]; omega, rfl⟩
    · rw [hl1, hlo hik, decide_eq_decide.2 (show us.length = longP k i ↔ us.length + 1 = longP k i + 1 by omega)]; rfl
    · rw [hl1, hlo hik] at h
      rw [h7 (by omega), hplo _ hik, dropLast_map, lastP_map]
  · (repeat' first | (apply O.move; exact rfl; exact rfl) | (apply O.assign; exact rfl; exact rfl) | apply W.seq | apply W.region | apply O.nil | apply Fin.next | (apply O.not_t; exact rfl; exact rfl) | (apply O.lss_f; exact rfl; exact rfl; omega; exact rfl) | (apply O.sub64; exact rfl; exact rfl; omega; exact rfl) | (apply W.cond_f; exact rfl) | apply W.skip | (apply O.extract; exact rfl; exact rfl; exact rfl))
    rw [show ((i : Nat) : Int) - ((k : Nat) : Int) = ((i - k : Nat) : Int) by omega, show ((n : Nat) : Int) - ((k : Nat) : Int) = ((n - k : Nat) : Int) by omega]
    refine O.call rfl rfl (ih us.length (by omega) R e ad cap us (i - k) (n - k) v b rfl hrd hTu hsu (by omega) (by omega) (by omega) hb hbl) ?_
    rintro _ _ ⟨ad1, c1, t, rfl, h7, h8, rfl⟩
    (repeat' first | (apply O.move; exact rfl; exact rfl) | (apply O.assign; exact rfl; exact rfl) | apply W.seq | apply W.region | apply O.nil | apply Fin.next | (apply O.extract; exact rfl; exact rfl; exact rfl))
    refine O.call rfl rfl (node_spec _ e _ _ _ _ ha.tail (RdSl.own .zero) hal h8) ?_
    rintro _ _ ⟨ad3, c3, rfl, rfl⟩
    (repeat' first | (apply O.move; exact rfl; exact rfl) | (apply O.assign; exact rfl; exact rfl) | apply O.nil | apply Fin.next | apply W.ret)
    refine Fin.ret (OwnB (.slice ad3 (nodeP a.2 t).length c3) (nodeP a.2 t) :: R) rfl (by (repeat first | exact Ent.rfl | exact Ent.nil | refine Ent.cons ?_ | (apply Ent.pull; exact (by (repeat first | exact Pull.zero | apply Pull.succ); done)) | refine Ent.drop ?_); done) ⟨ad3, c3, nodeP a.2 t, ?_, fun h => ?_, by rw [nodeP, tagP_length]; omega, rfl⟩
    · rw [hl1, hhi hik, decide_eq_decide.2 (show us.length = longP (n - k) (i - k) ↔ us.length + 1 = longP (n - k) (i - k) + 1 by omega)]; rfl
    · rw [hl1, hhi hik] at h
      rw [h7 (by omega), hphi _ hik, dropLast_map, lastP_map]
/-- Does a proof lead anywhere? -/
def LeadOk (idx size : Int) (ts : List Txt) (b : List UInt8) : Prop := rightP ts = true ∧ b.length = 32 ∧ 0 ≤ idx ∧ idx < size ∧ ts.length = longP size.toNat idx.toNat
instance (idx size : Int) (ts : List Txt) (b : List UInt8) : Decidable (LeadOk idx size ts b) := by unfold LeadOk; infer_instance
abbrev LeadTo (idx size : Int) (ts : List Txt) (b : List UInt8) : List UInt8 := leadP size.toNat idx.toNat (ts.map (·.2)) b
theorem rightP_iff {ts : List Txt} : rightP ts = true ↔ ts.length ≤ 16 ∧ ∀ a ∈ ts, a.2.length = 32 := decide_eq_true_iff
theorem leadP_length : ∀ (n i : Nat) (p : List (List UInt8)) (x : List UInt8), x.length = 32 → (leadP n i p x).length = 32 := fun n i p x h => by
  by_cases h2 : 2 ≤ n
  · by_cases hi : i < splitP n
    · rw [leadP_lo h2 hi]; exact tagP_length _ _
    · rw [leadP_hi h2 hi]; exact tagP_length _ _
  · rw [leadP_none h2]; exact h
theorem pLead_spec (R : List Res) (e : World) (idx size : Int) (vp vb : Value) (ts : List Txt) (b : List UInt8) (h1 : -9223372036854775808 ≤ idx ∧ idx ≤ 9223372036854775807) (h2 : -9223372036854775808 ≤ size ∧ size ≤ 9223372036854775807) (hv : RdSl R 1 vp ts.length (ts.map (·.1))) (ht : Txts R ts) (hb : RdB R vb b) :
    Ct Try.prog 22 #[.agg #[.int .i64 idx, .int .i64 size, vp], vb] e R (fun v' L' =>
      (LeadOk idx size ts b ∧ ∃ ad c, v' = .tuple #[.slice ad (LeadTo idx size ts b).length c, .bool true] ∧ L' = OwnB (.slice ad (LeadTo idx size ts b).length c) (LeadTo idx size ts b) :: R) ∨
      (¬ LeadOk idx size ts b ∧ v' = .tuple #[.slice none 0 0, .bool false] ∧ R = L')) := by
  refine Ct.of_sep (hv.shape (by omega)) ?_
  rintro ⟨⟨ad, cap, rfl, h3, h4, h5, h6⟩, _⟩
  refine Ct.enter (args := [_, _]) Try.func22 rfl Try.ntmps22 Try.results22 rfl ?_
  (repeat' first | (apply O.assign; exact rfl; exact rfl) | apply W.seq | apply W.region | apply O.nil | apply Fin.next | (apply O.fieldAddr; exact rfl; exact rfl) | (apply O.load; exact rfl; (focus ((repeat first | exact Rd.blk .zero rfl | assumption | apply Rd.tail); done)); exact rfl) | (apply O.box; exact rfl; exact rfl; exact rfl; intro _))
  rename_i g
  refine O.call rfl rfl (rightP_spec _ e _ ts hv.tail ht.tail) ?_
  rintro _ _ ⟨rfl, rfl⟩
  by_cases hr : rightP ts = true
  rotate_left
  · rw [show rightP ts = false by simpa using hr]
    (repeat' first | (apply O.move; exact rfl; exact rfl) | (apply O.assign; exact rfl; exact rfl) | apply W.seq | apply W.region | apply O.nil | apply Fin.next | (apply O.pick_t; exact rfl; exact rfl; exact rfl) | (apply O.unwant; exact rfl; exact rfl) | (apply O.not_f; exact rfl; exact rfl) | (apply W.cond_t; exact rfl) | apply W.ret | apply Fin.then_ret)
    exact Fin.ret R rfl (by (repeat first | exact Ent.rfl | exact Ent.nil | refine Ent.cons ?_ | (apply Ent.pull; exact (by (repeat first | exact Pull.zero | apply Pull.succ); done)) | refine Ent.drop ?_); done) (.inr ⟨fun h => hr h.1, rfl, rfl⟩)
  rw [hr]
  obtain ⟨r1, r2⟩ := rightP_iff.1 hr
  (repeat' first | (apply O.move; exact rfl; exact rfl) | (apply O.want; exact rfl) | (apply O.not_t; exact rfl; exact rfl))
  refine O.call rfl rfl (is_spec _ e _ b hb.tail) ?_
  rintro _ _ ⟨rfl, rfl⟩
  by_cases h32 : b.length = 32
  rotate_left
  · rw [decide_eq_false h32]
    (repeat' first | (apply O.move; exact rfl; exact rfl) | (apply O.assign; exact rfl; exact rfl) | apply W.seq | apply W.region | apply O.nil | apply Fin.next | (apply O.pick_t; exact rfl; exact rfl; exact rfl) | (apply O.pick_f; exact rfl; exact rfl; exact rfl) | (apply O.want; exact rfl) | (apply O.unwant; exact rfl; exact rfl) | (apply O.not_f; exact rfl; exact rfl) | (apply W.cond_t; exact rfl) | apply W.ret | apply Fin.then_ret)
    exact Fin.ret R rfl (by (repeat first | exact Ent.rfl | exact Ent.nil | refine Ent.cons ?_ | (apply Ent.pull; exact (by (repeat first | exact Pull.zero | apply Pull.succ); done)) | refine Ent.drop ?_); done) (.inr ⟨fun h => h32 h.2.1, rfl, rfl⟩)
  rw [decide_eq_true h32]
  by_cases h0 : 0 ≤ idx
  rotate_left
  · (repeat' first | (apply O.move; exact rfl; exact rfl) | (apply O.assign; exact rfl; exact rfl) | apply W.seq | apply W.region | apply O.nil | apply Fin.next | (apply O.fieldAddr; exact rfl; exact rfl) | (apply O.load; exact rfl; (focus ((repeat first | exact Rd.blk .zero rfl | assumption | apply Rd.tail); done)); exact rfl) | (apply O.pick_t; exact rfl; exact rfl; exact rfl) | (apply O.pick_f; exact rfl; exact rfl; exact rfl) | (apply O.want; exact rfl) | (apply O.unwant; exact rfl; exact rfl) | (apply O.not_t; exact rfl; exact rfl) | (apply O.lss_t; exact rfl; exact rfl; omega; exact rfl) | (apply W.cond_t; exact rfl) | apply W.ret | apply Fin.then_ret)
    exact Fin.ret R rfl (by (repeat first | exact Ent.rfl | exact Ent.nil | refine Ent.cons ?_ | (apply Ent.pull; exact (by (repeat first | exact Pull.zero | apply Pull.succ); done)) | refine Ent.drop ?_); done) (.inr ⟨fun h => h0 h.2.2.1, rfl, rfl⟩)
  by_cases hlt : idx < size
  rotate_left
  · (repeat' first | (apply O.move; exact rfl; exact rfl) | (apply O.assign; exact rfl; exact rfl) | apply W.seq | apply W.region | apply O.nil | apply Fin.next | (apply O.fieldAddr; exact rfl; exact rfl) | (apply O.load; exact rfl; (focus ((repeat first | exact Rd.blk .zero rfl | assumption | apply Rd.tail); done)); exact rfl) | (apply O.pick_f; exact rfl; exact rfl; exact rfl) | (apply O.want; exact rfl) | (apply O.not_t; exact rfl; exact rfl) | (apply O.lss_f; exact rfl; exact rfl; omega; exact rfl) | (apply O.geq_t; exact rfl; exact rfl; omega; exact rfl) | (apply W.cond_t; exact rfl) | apply W.ret | apply Fin.then_ret)
    exact Fin.ret R rfl (by (repeat first | exact Ent.rfl | exact Ent.nil | refine Ent.cons ?_ | (apply Ent.pull; exact (by (repeat first | exact Pull.zero | apply Pull.succ); done)) | refine Ent.drop ?_); done) (.inr ⟨fun h => hlt h.2.2.2.1, rfl, rfl⟩)
  obtain ⟨i, rfl⟩ := Int.eq_ofNat_of_zero_le h0
  obtain ⟨n, rfl⟩ := Int.eq_ofNat_of_zero_le (show 0 ≤ size by omega)
  (repeat' first | (apply O.move; exact rfl; exact rfl) | apply W.seq | apply W.region | apply O.nil | apply Fin.next | (apply O.fieldAddr; exact rfl; exact rfl) | (apply O.load; exact rfl; (focus ((repeat first | exact Rd.blk .zero rfl | assumption | apply Rd.tail); done)); exact rfl) | (apply O.pick_f; exact rfl; exact rfl; exact rfl) | (apply O.want; exact rfl) | (apply O.not_t; exact rfl; exact rfl) | (apply O.lss_f; exact rfl; exact rfl; omega; exact rfl) | (apply O.geq_f; exact rfl; exact rfl; omega; exact rfl) | (apply W.cond_f; exact rfl) | apply W.skip)
  refine O.call rfl rfl (lead_spec ts.length _ e ad cap ts i n vb b rfl hv.tail ht.tail (fun a ha => by have := r2 a ha; omega) (by omega) (by omega) (by omega) hb.tail (by omega)) ?_
  rintro _ _ ⟨ad1, c1, t, rfl, h7, h8, rfl⟩
  by_cases hlg : ts.length = longP n i
  · rw [decide_eq_true hlg]
    have h9 := h7 hlg
    subst h9
    (repeat' first | (apply O.move; exact rfl; exact rfl) | (apply O.assign; exact rfl; exact rfl) | apply W.seq | apply W.region | apply O.nil | apply Fin.next | (apply O.not_t; exact rfl; exact rfl) | (apply W.cond_f; exact rfl) | apply W.skip | apply W.ret | (apply O.extract; exact rfl; exact rfl; exact rfl))
    exact Fin.ret (OwnB (.slice ad1 (leadP n i (ts.map (·.2)) b).length c1) (leadP n i (ts.map (·.2)) b) :: R) rfl (by (repeat first | exact Ent.rfl | exact Ent.nil | refine Ent.cons ?_ | (apply Ent.pull; exact (by (repeat first | exact Pull.zero | apply Pull.succ); done)) | refine Ent.drop ?_); done) (.inl ⟨⟨hr, h32, h0, hlt, hlg⟩, ad1, c1, rfl, rfl⟩)
  · rw [decide_eq_false hlg]
    (repeat' first | (apply O.move; exact rfl; exact rfl) | (apply O.assign; exact rfl; exact rfl) | apply W.seq | apply W.region | apply O.nil | apply Fin.next | (apply O.not_f; exact rfl; exact rfl) | (apply W.cond_t; exact rfl) | apply W.ret | apply Fin.then_ret | (apply O.extract; exact rfl; exact rfl; exact rfl))
    exact Fin.ret R rfl (by (repeat first | exact Ent.rfl | exact Ent.nil | refine Ent.cons ?_ | (apply Ent.pull; exact (by (repeat first | exact Pull.zero | apply Pull.succ); done)) | refine Ent.drop ?_); done) (.inr ⟨fun h => hlg h.2.2.2.2, rfl, rfl⟩)
theorem same_spec (R : List Res) (e : World) (va vb : Value) (a b : List UInt8) (ha : RdB R va a) (hb : RdB R vb b) :
    Ct Try.prog 42 #[va, vb] e R (fun v' L' => v' = .bool (decide (a = b)) ∧ R = L') := by
  refine Ct.enter (args := [_, _]) Try.func42 rfl Try.ntmps42 Try.results42 rfl ?_
  have eq : Ct Try.prog 63 #[va, vb] e R (fun v' L' => v' = .bool (decide (a = b)) ∧ R = L') := by
    refine Ct.enter (args := [_, _]) Try.func63 rfl Try.ntmps63 Try.results63 rfl ?_
    by_cases h : a = b
    · rw [decide_eq_true h]
      subst h
      (repeat' first | (apply O.move; exact rfl; exact rfl) | (apply O.assign; exact rfl; exact rfl) | apply W.seq | apply W.region | apply O.nil | apply Fin.next | (apply O.bytes; exact rfl; (focus ((repeat first | exact RdSl.own .zero | exact RdSl.view .zero | assumption | apply RdB.tail); done)); exact rfl) | (apply O.eqlStr_t; exact rfl; exact rfl; (first | exact rfl | assumption); exact rfl) | apply W.ret)
      exact Fin.ret R rfl Ent.rfl ⟨rfl, rfl⟩
    · rw [decide_eq_false h]
      (repeat' first | (apply O.move; exact rfl; exact rfl) | (apply O.assign; exact rfl; exact rfl) | apply W.seq | apply W.region | apply O.nil | apply Fin.next | (apply O.bytes; exact rfl; (focus ((repeat first | exact RdSl.own .zero | exact RdSl.view .zero | assumption | apply RdB.tail); done)); exact rfl) | (apply O.eqlStr_f; exact rfl; exact rfl; assumption; exact rfl) | apply W.ret)
      exact Fin.ret R rfl Ent.rfl ⟨rfl, rfl⟩
  (repeat' first | (apply O.move; exact rfl; exact rfl) | (apply O.assign; exact rfl; exact rfl) | apply W.seq | apply W.region | apply O.nil | apply Fin.next)
  refine O.call rfl rfl eq ?_
  rintro _ _ ⟨rfl, rfl⟩
  (repeat' first | (apply O.assign; exact rfl; exact rfl) | apply O.nil | apply Fin.next | apply W.ret)
  exact Fin.ret R rfl Ent.rfl ⟨rfl, rfl⟩
theorem check_spec (R : List Res) (e : World) (idx size : Int) (vp vb vr : Value) (ts : List Txt) (b r : List UInt8) (h1 : -9223372036854775808 ≤ idx ∧ idx ≤ 9223372036854775807) (h2 : -9223372036854775808 ≤ size ∧ size ≤ 9223372036854775807) (hv : RdSl R 1 vp ts.length (ts.map (·.1))) (ht : Txts R ts) (hb : RdB R vb b) (hr : RdB R vr r) :
    Ct Try.prog 23 #[.agg #[.int .i64 idx, .int .i64 size, vp], vb, vr] e R (fun v' L' => v' = .bool (decide (LeadOk idx size ts b ∧ LeadTo idx size ts b = r)) ∧ R = L') := by
  refine Ct.of_sep (hv.shape (by omega)) ?_
  rintro ⟨⟨ad, cap, rfl, h3, h4, h5, h6⟩, _⟩
  refine Ct.enter (args := [_, _, _]) Try.func23 rfl Try.ntmps23 Try.results23 rfl ?_
  (repeat' first | (apply O.move; exact rfl; exact rfl) | (apply O.assign; exact rfl; exact rfl) | apply W.seq | apply W.region | apply O.nil | apply Fin.next | (apply O.loadAggR; exact rfl; (focus ((repeat first | exact RdA.whole .zero | assumption | apply RdA.tail); done)); exact rfl; exact rfl) | (apply O.box; exact rfl; exact rfl; exact rfl; intro _))
  rename_i g
  refine O.call rfl rfl (pLead_spec _ e idx size _ vb ts b h1 h2 hv.tail ht.tail hb.tail) ?_
  rintro _ _ (⟨hok, ad1, c1, rfl, rfl⟩ | ⟨hok, rfl, rfl⟩)
  · (repeat' first | (apply O.move; exact rfl; exact rfl) | (apply O.assign; exact rfl; exact rfl) | apply W.seq | apply W.region | apply O.nil | apply Fin.next | (apply O.want; exact rfl) | (apply O.extract; exact rfl; exact rfl; exact rfl))
    refine O.call rfl rfl (same_spec _ e _ _ _ _ (RdSl.own .zero) hr.tail.tail) ?_
    rintro _ _ ⟨rfl, rfl⟩
    by_cases h : LeadTo idx size ts b = r
    · rw [decide_eq_true h, decide_eq_true ⟨hok, h⟩]
      (repeat' first | (apply O.assign; exact rfl; exact rfl) | apply O.nil | apply Fin.next | (apply O.pick_t; exact rfl; exact rfl; exact rfl) | apply W.ret)
      exact Fin.ret R rfl (by (repeat first | exact Ent.rfl | exact Ent.nil | refine Ent.cons ?_ | (apply Ent.pull; exact (by (repeat first | exact Pull.zero | apply Pull.succ); done)) | refine Ent.drop ?_); done) ⟨rfl, rfl⟩
    · rw [decide_eq_false h, decide_eq_false fun q => h q.2]
      (repeat' first | (apply O.assign; exact rfl; exact rfl) | apply O.nil | apply Fin.next | (apply O.pick_t; exact rfl; exact rfl; exact rfl) | apply W.ret)
      exact Fin.ret R rfl (by (repeat first | exact Ent.rfl | exact Ent.nil | refine Ent.cons ?_ | (apply Ent.pull; exact (by (repeat first | exact Pull.zero | apply Pull.succ); done)) | refine Ent.drop ?_); done) ⟨rfl, rfl⟩
  · rw [decide_eq_false fun q => hok q.1]
    (repeat' first | (apply O.move; exact rfl; exact rfl) | (apply O.assign; exact rfl; exact rfl) | apply W.seq | apply W.region | apply O.nil | apply Fin.next | (apply O.pick_f; exact rfl; exact rfl; exact rfl) | (apply O.unwant; exact rfl; exact rfl) | apply W.ret | (apply O.extract; exact rfl; exact rfl; exact rfl))
    exact Fin.ret R rfl (by (repeat first | exact Ent.rfl | exact Ent.nil | refine Ent.cons ?_ | (apply Ent.pull; exact (by (repeat first | exact Pull.zero | apply Pull.succ); done)) | refine Ent.drop ?_); done) ⟨rfl, rfl⟩
end Go.Proofs
