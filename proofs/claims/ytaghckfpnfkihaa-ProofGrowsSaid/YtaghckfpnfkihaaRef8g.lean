/- the document's own answers to chapter 8: a growth's path. -/
import Derived.Test.YtaghckfpnfkihaaRef8
import Derived.Test.YtaghckfpnfkihaaGrow
namespace Go.Proofs
set_option linter.unusedVariables false
open Go.Bs
set_option linter.unusedSimpArgs false
attribute [local irreducible] Bs.Val Bs.Do Bs.O Bs.W Bs.Fin Bs.A Bs.Ct Bs.RdSl Bs.Rd Bs.Sat Bs.Blk Bs.Ob Bs.Own Bs.View Bs.Ent Bs.Ex Bs.All Bs.Pu Bs.Base Bs.sepL Bs.RdA
theorem rsub_spec : ∀ (n : Nat) (R : List Res) (e : World) (v : Value) (ts : List Txt) (m : Nat) (w : Bool), ts.length = n → RdSl R 1 v ts.length (ts.map (·.1)) → Txts R ts → (∀ a ∈ ts, a.2.length ≤ 1000000) → ts.length ≤ 1000000 → 1 ≤ m → m ≤ ts.length →
    Ct Try.prog 43 #[.int .i64 (m : Int), v, .bool w] e R (fun v' L' => ∃ ad c out As, v' = .slice ad out.length c ∧ out.map (·.2) = subP m (ts.map (·.2)) w ∧ L' = Own tTxts 1 (.slice ad out.length c) out.length (out.map (·.1)) :: (As ++ R) ∧ ∀ M, Txts M ts → Txts (As ++ M) out) := by
  intro n
  induction n using Nat.strongRecOn with
  | _ n ih =>
  intro R e v ts m w hn hv ht hb hl hm1 hm2
  refine Ct.of_sep (hv.shape (by omega)) ?_
  rintro ⟨⟨ad, cap, rfl, h3, h4, h5, h6⟩, _⟩
  simp only [maxLen] at h4
  refine Ct.enter (args := [_, _, _]) Try.func43 rfl Try.ntmps43 Try.results43 rfl ?_
  by_cases he : m = ts.length
  · subst he
    cases w
    · (repeat' first | (apply O.move; exact rfl; exact rfl) | (apply O.assign; exact rfl; exact rfl) | apply W.seq | apply W.region | apply O.nil | apply Fin.next | (apply O.len; exact rfl; exact rfl) | (apply O.eql_t; exact rfl; exact rfl; omega; exact rfl) | (apply W.cond_t; exact rfl) | (apply W.cond_f; exact rfl) | apply W.skip)
      refine O.call rfl rfl (refRootM_spec ts.length _ e _ ts rfl hv ht hb hl) ?_
      rintro vr _ ⟨Ar, rfl, hA⟩
      generalize hrt : rootP (ts.map (·.2)) = rt at *
      refine O.of_sep (RdB.one (hA R ht)) fun ho1 => ?_
      (repeat' first | (apply O.buildSlice; exact rfl; exact rfl; exact rfl; exact .one (cells_one ho1) rfl .nil; exact rfl; exact rfl; intro _) | (apply O.assign; exact rfl; exact rfl) | apply O.nil | apply Fin.next | apply W.ret | apply Fin.then_ret)
      rename_i g
      refine Fin.ret (Own tTxts 1 (.slice (some ⟨g, 0, none⟩) [((vr, rt) : Txt)].length 1) [((vr, rt) : Txt)].length ([((vr, rt) : Txt)].map (·.1)) :: ([Ar] ++ R)) rfl ?_ ⟨some ⟨g, 0, none⟩, 1, [((vr, rt) : Txt)], [Ar], rfl, ?_, rfl, fun M hM a ha => by rw [List.mem_singleton.1 ha]; exact hA M hM⟩
      · exact own_in (n := 1) (k := 1) (cap := 1) (by omega) (by simp [maxLen]) rfl
      · have := subP_root (l := ts.map (·.2))
        rw [List.length_map, hrt] at this
        rw [this]; rfl
    · (repeat' first | (apply O.move; exact rfl; exact rfl) | (apply O.assign; exact rfl; exact rfl) | apply W.seq | apply W.region | apply O.nil | apply Fin.next | (apply O.len; exact rfl; exact rfl) | (apply O.eql_t; exact rfl; exact rfl; omega; exact rfl) | (apply W.cond_t; exact rfl) | apply W.ret | apply Fin.then_ret)
      exact Fin.ret (Own tTxts 1 (.slice none 0 0) 0 [] :: R) rfl (own_nil _ _) ⟨none, 0, [], [], rfl, by have := subP_all (l := ts.map (·.2)); rw [List.length_map] at this; rw [this]; rfl, rfl, fun M _ a ha => by cases ha⟩
  have h2 : 2 ≤ ts.length := by omega
  (repeat' first | (apply O.move; exact rfl; exact rfl) | (apply O.assign; exact rfl; exact rfl) | apply W.seq | apply W.region | apply O.nil | apply Fin.next | (apply O.len; exact rfl; exact rfl) | (apply O.eql_f; exact rfl; exact rfl; omega; exact rfl) | (apply W.cond_f; exact rfl) | apply W.skip)
  refine O.call rfl rfl (refSplit_spec R e ts.length (by omega)) ?_
  rintro _ _ ⟨rfl, rfl⟩
  rw [splitI_nat]
  have hs := splitP_spec h2
  have hlo := fun h => subP_lo (l := ts.map (·.2)) (m := m) (w := w) (by rw [List.length_map]; exact he) (by rw [List.length_map]; exact h2) h
  have hhi := fun h => subP_hi (l := ts.map (·.2)) (m := m) (w := w) (by rw [List.length_map]; exact he) (by rw [List.length_map]; exact h2) h
  rw [List.length_map, ← List.map_take, ← List.map_drop] at hlo hhi
  have hq1 := take_mapT hv (k := splitP ts.length) (by omega)
  have hq2 := drop_mapT hv (k := splitP ts.length) (by omega)
  generalize splitP ts.length = k at *
  have hlk : (ts.take k).length = k := by rw [List.length_take]; omega
  have hlk2 : (ts.drop k).length = ts.length - k := List.length_drop
  have ht1 : ∀ M, Txts M ts → Txts M (ts.take k) := fun M h => txts_sub h fun x hx => List.mem_of_mem_take hx
  have ht2 : ∀ M, Txts M ts → Txts M (ts.drop k) := fun M h => txts_sub h fun x hx => List.mem_of_mem_drop hx
  by_cases hik : m ≤ k
  · (repeat' first | (apply O.move; exact rfl; exact rfl) | (apply O.assign; exact rfl; exact rfl) | apply W.seq | apply W.region | apply O.nil | apply Fin.next | (apply O.leq_t; exact rfl; exact rfl; omega; exact rfl) | (apply W.cond_t; exact rfl))
    refine A.start (id := 7) [12] Try.mixed ?_
    (all_goals (refine A.take 0 _ rfl (by kernel_rfl) Ent.rfl (Val.move rfl) rfl ?_); all_goals (refine A.take 1 _ rfl (by kernel_rfl) Ent.rfl (Val.move rfl) rfl ?_); all_goals (refine A.take 2 _ rfl (by kernel_rfl) Ent.rfl (Val.move rfl) rfl ?_); all_goals (first | refine A.take 3 _ rfl (by kernel_rfl) Ent.rfl (Val.sliceHi rfl rfl (by omega) (by omega)) rfl ?_ | refine A.take 3 _ rfl (by kernel_rfl) Ent.rfl (Val.sliceLo rfl rfl (by omega) (by omega)) rfl ?_ | refine A.take 3 _ rfl (by kernel_rfl) Ent.rfl (Val.sliceLoHi rfl rfl rfl (by omega) (by omega) (by omega)) rfl ?_); all_goals (refine A.take 4 _ rfl (by kernel_rfl) Ent.rfl (Val.move rfl) rfl ?_); all_goals (refine A.take 6 _ rfl (by kernel_rfl) Ent.rfl (Val.move rfl) rfl ?_); all_goals (refine A.take 7 _ rfl (by kernel_rfl) Ent.rfl (Val.move rfl) rfl ?_); all_goals (first | refine A.take 8 _ rfl (by kernel_rfl) Ent.rfl (Val.sliceHi rfl rfl (by omega) (by omega)) rfl ?_ | refine A.take 8 _ rfl (by kernel_rfl) Ent.rfl (Val.sliceLo rfl rfl (by omega) (by omega)) rfl ?_ | refine A.take 8 _ rfl (by kernel_rfl) Ent.rfl (Val.sliceLoHi rfl rfl rfl (by omega) (by omega) (by omega)) rfl ?_))
    refine A.one 5 rfl (by kernel_rfl) ?_
    refine Do.call rfl rfl (ih k (by omega) R e _ (ts.take k) m w hlk hq1 (ht1 R ht) (fun a ha => hb a (List.mem_of_mem_take ha)) (by omega) hm1 (by omega)) ?_
    rintro _ _ ⟨ad1, c1, out, As, rfl, ho, rfl, hAs⟩
    have hol : out.length ≤ 1000000 := by
      have h7 := congrArg List.length ho
      rw [List.length_map, subP_length k m ((ts.take k).map (·.2)) w (by rw [List.length_map]; exact hlk) hm1 hik] at h7
      have := glenP_le 20 ((ts.take k).map (·.2)).length m w (by rw [List.length_map]; omega)
      omega
    refine ⟨fun _ => Ent.drop (ent_app As), ?_⟩
    refine A.one 9 rfl (by kernel_rfl) ?_
    refine Do.call rfl rfl (refRootM_spec (ts.length - k) _ e _ (ts.drop k) hlk2 ((rdsl_app hq2 As).tail) ((txts_app (ht2 R ht) As).tail) (fun a ha => hb a (List.mem_of_mem_drop ha)) (by omega)) ?_
    rintro vr _ ⟨Ar, rfl, hA⟩
    refine ⟨fun _ => Ent.drop (Ent.drop (ent_app As)), ?_⟩
    generalize hrt : rootP ((ts.drop k).map (·.2)) = rt at *
    refine A.of_sep (RdB.one (hA _ ((txts_app (ht2 R ht) As).tail (A := Own tTxts 1 (.slice ad1 out.length c1) out.length (out.map (·.1)))))) fun ho1 => ?_
    refine A.one 10 rfl (by kernel_rfl) ?_
    refine Do.buildSlice (n := 1) rfl rfl rfl rfl (.one (cells_one ho1) rfl .nil) rfl (fun g2 => ⟨fun _ => Ent.drop (Ent.drop (Ent.drop (ent_app As))), ?_⟩)
    refine A.one 11 rfl (by kernel_rfl) ?_
    refine Do.append rfl rfl rfl (.succ (.succ .zero)) (RdSl.blkN (n := 1) (c := 1) .zero rfl (by simp [maxLen])) rfl rfl (by (repeat first | exact one_nil | (apply one_cons; first | exact rfl | assumption)); done) (by simp only [maxLen]; omega) (by omega) fun ad3 c3 _ => ⟨fun _ => Ent.drop (Ent.drop (Ent.drop (ent_app As))), ?_⟩
    (all_goals (first | (refine A.one 12 rfl (by kernel_rfl) ?_; refine Do.val (Val.assign rfl) rfl ⟨(no_held (by kernel_rfl)), ?_⟩)))
    refine A.done (by kernel_rfl) ?_
    (repeat' first | apply Fin.next | apply W.ret | apply Fin.then_ret)
    have hl1 : (out ++ [((vr, rt) : Txt)]).length = out.length + 1 := by rw [List.length_append, List.length_singleton]
    refine Fin.ret (Own tTxts 1 (.slice ad3 (out ++ [((vr, rt) : Txt)]).length c3) (out ++ [((vr, rt) : Txt)]).length ((out ++ [((vr, rt) : Txt)]).map (·.1)) :: ((Ar :: As) ++ R)) rfl ?_ ⟨ad3, c3, out ++ [((vr, rt) : Txt)], Ar :: As, by rw [hl1]; rfl, by rw [List.map_append, ho, hlo hik]; rfl, rfl, fun M hM a ha => ?_⟩
    · rw [hl1, List.map_append]; exact (by (repeat first | exact Ent.rfl | exact Ent.nil | refine Ent.cons ?_ | (apply Ent.pull; exact (by (repeat first | exact Pull.zero | apply Pull.succ); done)) | refine Ent.drop ?_); done)
    · rcases List.mem_append.1 ha with q | q
      · exact (hAs M (ht1 M hM) a q).tail
      · rw [List.mem_singleton.1 q]; exact hA (As ++ M) (txts_app (ht2 M hM) As)
  · (repeat' first | (apply O.move; exact rfl; exact rfl) | (apply O.assign; exact rfl; exact rfl) | apply W.seq | apply W.region | apply O.nil | apply Fin.next | (apply O.leq_f; exact rfl; exact rfl; omega; exact rfl) | (apply W.cond_f; exact rfl) | apply W.skip)
    refine A.start (id := 8) [13] Try.mixed ?_
    (all_goals (refine A.take 0 _ rfl (by kernel_rfl) Ent.rfl (Val.move rfl) rfl ?_); all_goals (refine A.take 1 _ rfl (by kernel_rfl) Ent.rfl (Val.move rfl) rfl ?_); all_goals (first | refine A.take 2 _ rfl (by kernel_rfl) Ent.rfl (Val.sub64 rfl rfl (by omega)) rfl ?_ | refine A.take 2 _ rfl (by kernel_rfl) Ent.rfl (Val.sub rfl rfl) rfl ?_); all_goals (refine A.take 3 _ rfl (by kernel_rfl) Ent.rfl (Val.move rfl) rfl ?_); all_goals (refine A.take 4 _ rfl (by kernel_rfl) Ent.rfl (Val.move rfl) rfl ?_); all_goals (first | refine A.take 5 _ rfl (by kernel_rfl) Ent.rfl (Val.sliceHi rfl rfl (by omega) (by omega)) rfl ?_ | refine A.take 5 _ rfl (by kernel_rfl) Ent.rfl (Val.sliceLo rfl rfl (by omega) (by omega)) rfl ?_ | refine A.take 5 _ rfl (by kernel_rfl) Ent.rfl (Val.sliceLoHi rfl rfl rfl (by omega) (by omega) (by omega)) rfl ?_); all_goals (refine A.take 7 _ rfl (by kernel_rfl) Ent.rfl (Val.move rfl) rfl ?_); all_goals (refine A.take 8 _ rfl (by kernel_rfl) Ent.rfl (Val.move rfl) rfl ?_); all_goals (first | refine A.take 9 _ rfl (by kernel_rfl) Ent.rfl (Val.sliceHi rfl rfl (by omega) (by omega)) rfl ?_ | refine A.take 9 _ rfl (by kernel_rfl) Ent.rfl (Val.sliceLo rfl rfl (by omega) (by omega)) rfl ?_ | refine A.take 9 _ rfl (by kernel_rfl) Ent.rfl (Val.sliceLoHi rfl rfl rfl (by omega) (by omega) (by omega)) rfl ?_))
    rw [show ((m : Nat) : Int) - ((k : Nat) : Int) = ((m - k : Nat) : Int) by omega]
    refine A.one 6 rfl (by kernel_rfl) ?_
    refine Do.call rfl rfl (ih (ts.length - k) (by omega) R e _ (ts.drop k) (m - k) false hlk2 hq2 (ht2 R ht) (fun a ha => hb a (List.mem_of_mem_drop ha)) (by omega) (by omega) (by omega)) ?_
    rintro _ _ ⟨ad1, c1, out, As, rfl, ho, rfl, hAs⟩
    have hol : out.length ≤ 1000000 := by
      have h7 := congrArg List.length ho
      rw [List.length_map, subP_length (ts.length - k) (m - k) ((ts.drop k).map (·.2)) false (by rw [List.length_map]; exact hlk2) (by omega) (by omega)] at h7
      have := glenP_le 20 ((ts.drop k).map (·.2)).length (m - k) false (by rw [List.length_map]; omega)
      omega
    refine ⟨fun _ => Ent.drop (ent_app As), ?_⟩
    refine A.one 10 rfl (by kernel_rfl) ?_
    refine Do.call rfl rfl (refRootM_spec k _ e _ (ts.take k) hlk ((rdsl_app hq1 As).tail) ((txts_app (ht1 R ht) As).tail) (fun a ha => hb a (List.mem_of_mem_take ha)) (by omega)) ?_
    rintro vr _ ⟨Ar, rfl, hA⟩
    refine ⟨fun _ => Ent.drop (Ent.drop (ent_app As)), ?_⟩
    generalize hrt : rootP ((ts.take k).map (·.2)) = rt at *
    refine A.of_sep (RdB.one (hA _ ((txts_app (ht1 R ht) As).tail (A := Own tTxts 1 (.slice ad1 out.length c1) out.length (out.map (·.1)))))) fun ho1 => ?_
    refine A.one 11 rfl (by kernel_rfl) ?_
    refine Do.buildSlice (n := 1) rfl rfl rfl rfl (.one (cells_one ho1) rfl .nil) rfl (fun g2 => ⟨fun _ => Ent.drop (Ent.drop (Ent.drop (ent_app As))), ?_⟩)
    refine A.one 12 rfl (by kernel_rfl) ?_
    refine Do.append rfl rfl rfl (.succ (.succ .zero)) (RdSl.blkN (n := 1) (c := 1) .zero rfl (by simp [maxLen])) rfl rfl (by (repeat first | exact one_nil | (apply one_cons; first | exact rfl | assumption)); done) (by simp only [maxLen]; omega) (by omega) fun ad3 c3 _ => ⟨fun _ => Ent.drop (Ent.drop (Ent.drop (ent_app As))), ?_⟩
    (all_goals (first | (refine A.one 13 rfl (by kernel_rfl) ?_; refine Do.val (Val.assign rfl) rfl ⟨(no_held (by kernel_rfl)), ?_⟩)))
    refine A.done (by kernel_rfl) ?_
    (repeat' first | apply Fin.next | apply W.ret)
    have hl1 : (out ++ [((vr, rt) : Txt)]).length = out.length + 1 := by rw [List.length_append, List.length_singleton]
    refine Fin.ret (Own tTxts 1 (.slice ad3 (out ++ [((vr, rt) : Txt)]).length c3) (out ++ [((vr, rt) : Txt)]).length ((out ++ [((vr, rt) : Txt)]).map (·.1)) :: ((Ar :: As) ++ R)) rfl ?_ ⟨ad3, c3, out ++ [((vr, rt) : Txt)], Ar :: As, by rw [hl1]; rfl, by rw [List.map_append, ho, hhi hik]; rfl, rfl, fun M hM a ha => ?_⟩
    · rw [hl1, List.map_append]; exact (by (repeat first | exact Ent.rfl | exact Ent.nil | refine Ent.cons ?_ | (apply Ent.pull; exact (by (repeat first | exact Pull.zero | apply Pull.succ); done)) | refine Ent.drop ?_); done)
    · rcases List.mem_append.1 ha with q | q
      · exact (hAs M (ht2 M hM) a q).tail
      · rw [List.mem_singleton.1 q]; exact hA (As ++ M) (txts_app (ht1 M hM) As)
theorem rgrow_spec (R : List Res) (e : World) (v : Value) (ts : List Txt) (m : Nat) (hv : RdSl R 1 v ts.length (ts.map (·.1))) (ht : Txts R ts) (hb : ∀ a ∈ ts, a.2.length ≤ 1000000) (hl : ts.length ≤ 1000000) (hm : m ≤ ts.length) :
    Ct Try.prog 24 #[v, .int .i64 (m : Int)] e R (fun v' L' => ∃ ad c out As, v' = .slice ad out.length c ∧ out.map (·.2) = growP (ts.map (·.2)) m ∧ L' = Own tTxts 1 (.slice ad out.length c) out.length (out.map (·.1)) :: (As ++ R) ∧ ∀ M, Txts M ts → Txts (As ++ M) out) := by
  refine Ct.of_sep (hv.shape (by omega)) ?_
  rintro ⟨⟨ad, cap, rfl, h3, h4, h5, h6⟩, _⟩
  refine Ct.enter (args := [_, _]) Try.func24 rfl Try.ntmps24 Try.results24 rfl ?_
  by_cases hin : 0 < m ∧ m < ts.length
  · obtain ⟨hm0, hm1⟩ := hin
    (repeat' first | (apply O.move; exact rfl; exact rfl) | (apply O.assign; exact rfl; exact rfl) | apply W.seq | apply W.region | apply O.nil | apply Fin.next | (apply O.len; exact rfl; exact rfl) | (apply O.pick_f; exact rfl; exact rfl; exact rfl) | (apply O.want; exact rfl) | (apply O.eql_f; exact rfl; exact rfl; omega; exact rfl) | (apply W.cond_f; exact rfl) | apply W.skip)
    refine O.call rfl rfl (rsub_spec ts.length R e _ ts m true rfl hv ht hb hl hm0 hm) ?_
    rintro _ _ ⟨ad1, c1, out, As, rfl, ho, rfl, hA⟩
    (repeat' first | (apply O.assign; exact rfl; exact rfl) | apply O.nil | apply Fin.next | apply W.ret)
    exact Fin.ret _ rfl Ent.rfl ⟨ad1, c1, out, As, rfl, by rw [ho, growP, if_pos ⟨hm0, by rw [List.length_map]; exact hm1⟩], rfl, hA⟩
  · have hg : growP (ts.map (·.2)) m = [] := by rw [growP, List.length_map, if_neg hin]
    by_cases hm0 : m = 0
    · (repeat' first | (apply O.move; exact rfl; exact rfl) | (apply O.assign; exact rfl; exact rfl) | apply W.seq | apply W.region | apply O.nil | apply Fin.next | (apply O.pick_t; exact rfl; exact rfl; exact rfl) | (apply O.unwant; exact rfl; exact rfl) | (apply O.eql_t; exact rfl; exact rfl; omega; exact rfl) | (apply W.cond_t; exact rfl) | apply W.ret | apply Fin.then_ret)
      exact Fin.ret (Own tTxts 1 (.slice none 0 0) 0 [] :: R) rfl (own_nil _ _) ⟨none, 0, [], [], rfl, by rw [hg]; rfl, rfl, fun M _ a ha => by cases ha⟩
    · (repeat' first | (apply O.move; exact rfl; exact rfl) | (apply O.assign; exact rfl; exact rfl) | apply W.seq | apply W.region | apply O.nil | apply Fin.next | (apply O.len; exact rfl; exact rfl) | (apply O.pick_f; exact rfl; exact rfl; exact rfl) | (apply O.want; exact rfl) | (apply O.eql_t; exact rfl; exact rfl; omega; exact rfl) | (apply O.eql_f; exact rfl; exact rfl; omega; exact rfl) | (apply W.cond_t; exact rfl) | apply W.ret | apply Fin.then_ret)
      exact Fin.ret (Own tTxts 1 (.slice none 0 0) 0 [] :: R) rfl (own_nil _ _) ⟨none, 0, [], [], rfl, by rw [hg]; rfl, rfl, fun M _ a ha => by cases ha⟩
end Go.Proofs
