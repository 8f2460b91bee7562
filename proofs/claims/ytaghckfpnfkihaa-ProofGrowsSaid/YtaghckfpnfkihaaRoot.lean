/- roots of leaves. -/
import Derived.Test.YtaghckfpnfkihaaTree
namespace Go.Proofs
set_option linter.unusedVariables false
open Go.Bs
set_option linter.unusedSimpArgs false
attribute [local irreducible] Bs.Val Bs.Do Bs.O Bs.W Bs.Fin Bs.A Bs.Ct Bs.RdSl Bs.Rd Bs.Sat Bs.Blk Bs.Ob Bs.Own Bs.View Bs.Ent Bs.Ex Bs.All Bs.Pu Bs.Base Bs.sepL Bs.RdA
theorem take_mapT {L : List Res} {ad : Option Addr} {c k : Nat} {ts : List Txt} (h : RdSl L 1 (.slice ad ts.length c) ts.length (ts.map (·.1))) (hk : k ≤ ts.length) : RdSl L 1 (.slice ad k c) (ts.take k).length ((ts.take k).map (·.1)) := by
  have := RdSl.cutHi h hk
  rw [Nat.mul_one, ← List.map_take] at this
  rw [List.length_take, Nat.min_eq_left hk]
  exact this
theorem drop_mapT {L : List Res} {ad : Option Addr} {c k : Nat} {ts : List Txt} (h : RdSl L 1 (.slice ad ts.length c) ts.length (ts.map (·.1))) (hk : k ≤ ts.length) : RdSl L 1 (.slice (cutAt ad c k 1) (ts.length - k) (c - k)) (ts.drop k).length ((ts.drop k).map (·.1)) := by
  have := RdSl.cutLo h hk
  rw [Nat.mul_one, ← List.map_drop] at this
  rw [List.length_drop]
  exact this
theorem txts_sub {L : List Res} {a b : List Txt} (h : Txts L a) (hs : ∀ x ∈ b, x ∈ a) : Txts L b := fun x hx => h x (hs x hx)
theorem root_spec : ∀ (n : Nat) (R : List Res) (e : World) (v : Value) (ts : List Txt), ts.length = n → RdSl R 1 v ts.length (ts.map (·.1)) → Txts R ts → (∀ a ∈ ts, a.2.length ≤ 1000000) → ts.length ≤ 1000000 →
    Ct Try.prog 60 #[v] e R (fun v' L' => ∃ ad c, v' = .slice ad (rootP (ts.map (·.2))).length c ∧ L' = OwnB (.slice ad (rootP (ts.map (·.2))).length c) (rootP (ts.map (·.2))) :: R) := by
  intro n
  induction n using Nat.strongRecOn with
  | _ n ih =>
  intro R e v ts hn hv ht hb hl
  refine Ct.of_sep (hv.shape (by omega)) ?_
  rintro ⟨⟨ad, cap, rfl, h3, h4, h5, h6⟩, _⟩
  simp only [maxLen] at h4
  refine Ct.enter (args := [_]) Try.func60 rfl Try.ntmps60 Try.results60 rfl ?_
  by_cases h0 : ts.length = 0
  · obtain rfl : ts = [] := List.eq_nil_of_length_eq_zero h0
    (repeat' first | (apply O.move; exact rfl; exact rfl) | (apply O.assign; exact rfl; exact rfl) | apply W.seq | apply W.region | apply O.nil | apply Fin.next | (apply O.len; exact rfl; exact rfl) | (apply O.eql_t; exact rfl; exact rfl; omega; exact rfl) | (apply W.cond_t; exact rfl) | apply W.block)
    refine O.call rfl rfl (sum_spec _ e _ [] (RdB.nil _) (by simp)) ?_
    rintro _ _ ⟨ad2, c2, rfl, rfl⟩
    (repeat' first | (apply O.assign; exact rfl; exact rfl) | apply O.nil | apply Fin.next | apply W.ret | apply Fin.then_ret | apply Fin.block_ret)
    exact Fin.ret (OwnB (.slice ad2 (sha []).length c2) (sha []) :: R) rfl (by (repeat first | exact Ent.rfl | exact Ent.nil | refine Ent.cons ?_ | (apply Ent.pull; exact (by (repeat first | exact Pull.zero | apply Pull.succ); done)) | refine Ent.drop ?_); done) ⟨ad2, c2, by rw [List.map_nil, rootP_nil]; rfl, by rw [List.map_nil, rootP_nil]⟩
  by_cases h1 : ts.length = 1
  · obtain ⟨a, rfl⟩ := List.length_eq_one_iff.1 h1
    rcases h6 with h6 | ⟨gl, ol, rfl⟩
    · omega
    have hr : Rd R ⟨gl, ol + 0, none⟩ a.1 := hv.elem rfl
    have hta := ht a (List.mem_singleton.2 rfl)
    have hba := hb a (List.mem_singleton.2 rfl)
    (repeat' first | (apply O.move; exact rfl; exact rfl) | (apply O.assign; exact rfl; exact rfl) | apply W.seq | apply W.region | apply O.nil | apply Fin.next | (apply O.load; exact rfl; (focus ((repeat first | exact Rd.blk .zero rfl | assumption | apply Rd.tail); done)); exact rfl) | (apply O.len; exact rfl; exact rfl) | (apply O.eql_t; exact rfl; exact rfl; omega; exact rfl) | (apply O.eql_f; exact rfl; exact rfl; omega; exact rfl) | (apply O.indexAddr; exact rfl; exact rfl; omega; omega; exact rfl) | (apply W.cond_t; exact rfl) | (apply W.cond_f; exact rfl) | apply W.block)
    refine O.do <| Do.ent1 (own_nil tU8 1) (Do.append (v := .slice none 0 0) (k := 0) rfl rfl rfl .zero hta rfl rfl u8_one (by simp only [maxLen]; omega) (by omega) fun ad3 c3 _ => ?_)
    simp only [Nat.zero_add, List.nil_append]
    have hra : rootP ([a].map (·.2)) = a.2 := rootP_one _
    rw [hra]
    (repeat' first | (apply O.assign; exact rfl; exact rfl) | apply O.nil | apply Fin.next | apply W.ret | apply Fin.then_ret | apply Fin.block_ret)
    exact Fin.ret (OwnB (.slice ad3 a.2.length c3) a.2 :: R) rfl (by (repeat first | exact Ent.rfl | exact Ent.nil | refine Ent.cons ?_ | (apply Ent.pull; exact (by (repeat first | exact Pull.zero | apply Pull.succ); done)) | refine Ent.drop ?_); done) ⟨ad3, c3, rfl, rfl⟩
  have hs := splitP_spec (n := ts.length) (by omega)
  (repeat' first | (apply O.move; exact rfl; exact rfl) | (apply O.assign; exact rfl; exact rfl) | apply W.seq | apply W.region | apply O.nil | apply Fin.next | (apply O.len; exact rfl; exact rfl) | (apply O.eql_f; exact rfl; exact rfl; omega; exact rfl) | (apply W.cond_f; exact rfl) | apply W.block | apply W.skip | apply Fin.block_normal)
  refine O.call rfl rfl (split_spec R e ts.length (by omega)) ?_
  rintro _ _ ⟨rfl, rfl⟩
  rw [splitI_nat]
  have hrt := rootP_more (l := ts.map (·.2)) (by rw [List.length_map]; omega)
  rw [List.length_map, ← List.map_take, ← List.map_drop] at hrt
  have hl1 := rootP_length (l := (ts.take (splitP ts.length)).map (·.2)) (m := 1000000) (by omega) (fun a ha => by obtain ⟨x, hx, rfl⟩ := List.mem_map.1 ha; exact hb x (List.mem_of_mem_take hx))
  have hl2 := rootP_length (l := (ts.drop (splitP ts.length)).map (·.2)) (m := 1000000) (by omega) (fun a ha => by obtain ⟨x, hx, rfl⟩ := List.mem_map.1 ha; exact hb x (List.mem_of_mem_drop hx))
  have hq1 := take_mapT hv (k := splitP ts.length) (by omega)
  have hq2 := drop_mapT hv (k := splitP ts.length) (by omega)
  generalize splitP ts.length = k at *
  have hlk : (ts.take k).length = k := by rw [List.length_take]; omega
  have hlk2 : (ts.drop k).length = ts.length - k := List.length_drop
  (repeat' first | (apply O.assign; exact rfl; exact rfl) | apply W.seq | apply O.nil | apply Fin.next)
  refine A.start (id := 7) [9] Try.mixed ?_
  (all_goals (refine A.take 0 _ rfl (by kernel_rfl) Ent.rfl (Val.move rfl) rfl ?_); all_goals (refine A.take 1 _ rfl (by kernel_rfl) Ent.rfl (Val.move rfl) rfl ?_); all_goals (first | refine A.take 2 _ rfl (by kernel_rfl) Ent.rfl (Val.sliceHi rfl rfl (by omega) (by omega)) rfl ?_ | refine A.take 2 _ rfl (by kernel_rfl) Ent.rfl (Val.sliceLo rfl rfl (by omega) (by omega)) rfl ?_ | refine A.take 2 _ rfl (by kernel_rfl) Ent.rfl (Val.sliceLoHi rfl rfl rfl (by omega) (by omega) (by omega)) rfl ?_); all_goals (refine A.take 4 _ rfl (by kernel_rfl) Ent.rfl (Val.move rfl) rfl ?_); all_goals (refine A.take 5 _ rfl (by kernel_rfl) Ent.rfl (Val.move rfl) rfl ?_); all_goals (first | refine A.take 6 _ rfl (by kernel_rfl) Ent.rfl (Val.sliceHi rfl rfl (by omega) (by omega)) rfl ?_ | refine A.take 6 _ rfl (by kernel_rfl) Ent.rfl (Val.sliceLo rfl rfl (by omega) (by omega)) rfl ?_ | refine A.take 6 _ rfl (by kernel_rfl) Ent.rfl (Val.sliceLoHi rfl rfl rfl (by omega) (by omega) (by omega)) rfl ?_))
  refine A.one 3 rfl (by kernel_rfl) ?_
  refine Do.call rfl rfl (ih k (by omega) R e _ (ts.take k) hlk hq1 (txts_sub ht fun x hx => List.mem_of_mem_take hx) (fun a ha => hb a (List.mem_of_mem_take ha)) (by omega)) ?_
  rintro _ _ ⟨ad1, c1, rfl, rfl⟩
  refine ⟨fun _ => (by (repeat first | exact Ent.rfl | exact Ent.nil | refine Ent.cons ?_ | (apply Ent.pull; exact (by (repeat first | exact Pull.zero | apply Pull.succ); done)) | refine Ent.drop ?_); done), ?_⟩
  refine A.one 7 rfl (by kernel_rfl) ?_
  refine Do.call rfl rfl (ih (ts.length - k) (by omega) _ e _ (ts.drop k) hlk2 hq2.tail (Txts.tail (txts_sub ht fun x hx => List.mem_of_mem_drop hx)) (fun a ha => hb a (List.mem_of_mem_drop ha)) (by omega)) ?_
  rintro _ _ ⟨ad2, c2, rfl, rfl⟩
  refine ⟨fun _ => (by (repeat first | exact Ent.rfl | exact Ent.nil | refine Ent.cons ?_ | (apply Ent.pull; exact (by (repeat first | exact Pull.zero | apply Pull.succ); done)) | refine Ent.drop ?_); done), ?_⟩
  refine A.one 8 rfl (by kernel_rfl) ?_
  refine Do.call rfl rfl (node_spec _ e _ _ _ _ (RdSl.own (.succ .zero)) (RdSl.own .zero) hl1 hl2) ?_
  rintro _ _ ⟨ad3, c3, rfl, rfl⟩
  refine ⟨fun _ => (by (repeat first | exact Ent.rfl | exact Ent.nil | refine Ent.cons ?_ | (apply Ent.pull; exact (by (repeat first | exact Pull.zero | apply Pull.succ); done)) | refine Ent.drop ?_); done), ?_⟩
  rw [← hrt]
  (all_goals (first | (refine A.one 9 rfl (by kernel_rfl) ?_; refine Do.val (Val.assign rfl) rfl ⟨(no_held (by kernel_rfl)), ?_⟩)))
  refine A.done (by kernel_rfl) ?_
  (repeat' first | apply Fin.next | apply W.ret)
  exact Fin.ret (OwnB (.slice ad3 (rootP (ts.map (·.2))).length c3) (rootP (ts.map (·.2))) :: R) rfl (by (repeat first | exact Ent.rfl | exact Ent.nil | refine Ent.cons ?_ | (apply Ent.pull; exact (by (repeat first | exact Pull.zero | apply Pull.succ); done)) | refine Ent.drop ?_); done) ⟨ad3, c3, rfl, rfl⟩
theorem refRootM_spec : ∀ (n : Nat) (R : List Res) (e : World) (v : Value) (ts : List Txt), ts.length = n → RdSl R 1 v ts.length (ts.map (·.1)) → Txts R ts → (∀ a ∈ ts, a.2.length ≤ 1000000) → ts.length ≤ 1000000 →
    Ct Try.prog 17 #[v] e R (fun v' L' => ∃ A, L' = A :: R ∧ ∀ M, Txts M ts → RdB (A :: M) v' (rootP (ts.map (·.2)))) := by
  intro n
  induction n using Nat.strongRecOn with
  | _ n ih =>
  intro R e v ts hn hv ht hb hl
  refine Ct.of_sep (hv.shape (by omega)) ?_
  rintro ⟨⟨ad, cap, rfl, h3, h4, h5, h6⟩, _⟩
  simp only [maxLen] at h4
  refine Ct.enter (args := [_]) Try.func17 rfl Try.ntmps17 Try.results17 rfl ?_
  by_cases h0 : ts.length = 0
  · obtain rfl : ts = [] := List.eq_nil_of_length_eq_zero h0
    (repeat' first | (apply O.move; exact rfl; exact rfl) | (apply O.assign; exact rfl; exact rfl) | apply W.seq | apply W.region | apply O.nil | apply Fin.next | (apply O.len; exact rfl; exact rfl) | (apply O.eql_t; exact rfl; exact rfl; omega; exact rfl) | (apply W.cond_t; exact rfl))
    refine O.call rfl rfl (sum2_spec _ e _ [] (RdB.nil _) (by simp)) ?_
    rintro _ _ ⟨ad2, c2, rfl, rfl⟩
    (repeat' first | (apply O.assign; exact rfl; exact rfl) | apply O.nil | apply Fin.next | apply W.ret | apply Fin.then_ret)
    exact Fin.ret (OwnB (.slice ad2 (sha []).length c2) (sha []) :: R) rfl (by (repeat first | exact Ent.rfl | exact Ent.nil | refine Ent.cons ?_ | (apply Ent.pull; exact (by (repeat first | exact Pull.zero | apply Pull.succ); done)) | refine Ent.drop ?_); done) ⟨_, rfl, fun M _ => by rw [List.map_nil, rootP_nil]; exact RdSl.own .zero⟩
  by_cases h1 : ts.length = 1
  · obtain ⟨a, rfl⟩ := List.length_eq_one_iff.1 h1
    rcases h6 with h6 | ⟨gl, ol, rfl⟩
    · omega
    have hr : Rd R ⟨gl, ol + 0, none⟩ a.1 := hv.elem rfl
    have hta := ht a (List.mem_singleton.2 rfl)
    have hba := hb a (List.mem_singleton.2 rfl)
    (repeat' first | (apply O.move; exact rfl; exact rfl) | (apply O.assign; exact rfl; exact rfl) | apply W.seq | apply W.region | apply O.nil | apply Fin.next | (apply O.load; exact rfl; (focus ((repeat first | exact Rd.blk .zero rfl | assumption | apply Rd.tail); done)); exact rfl) | (apply O.len; exact rfl; exact rfl) | (apply O.eql_t; exact rfl; exact rfl; omega; exact rfl) | (apply O.eql_f; exact rfl; exact rfl; omega; exact rfl) | (apply O.indexAddr; exact rfl; exact rfl; omega; omega; exact rfl) | (apply W.cond_t; exact rfl) | (apply W.cond_f; exact rfl) | apply W.skip | apply W.ret | apply Fin.then_ret)
    exact Fin.ret (Pu True :: R) rfl (pu_in trivial) ⟨_, rfl, fun M hM => by rw [show rootP ([a].map (·.2)) = a.2 from rootP_one _]; exact (hM a (List.mem_singleton.2 rfl)).tail⟩
  have hs := splitP_spec (n := ts.length) (by omega)
  (repeat' first | (apply O.move; exact rfl; exact rfl) | (apply O.assign; exact rfl; exact rfl) | apply W.seq | apply W.region | apply O.nil | apply Fin.next | (apply O.len; exact rfl; exact rfl) | (apply O.eql_f; exact rfl; exact rfl; omega; exact rfl) | (apply W.cond_f; exact rfl) | apply W.skip)
  refine O.call rfl rfl (refSplit_spec R e ts.length (by omega)) ?_
  rintro _ _ ⟨rfl, rfl⟩
  rw [splitI_nat]
  have hrt := rootP_more (l := ts.map (·.2)) (by rw [List.length_map]; omega)
  rw [List.length_map, ← List.map_take, ← List.map_drop] at hrt
  have hl1 := rootP_length (l := (ts.take (splitP ts.length)).map (·.2)) (m := 1000000) (by omega) (fun a ha => by obtain ⟨x, hx, rfl⟩ := List.mem_map.1 ha; exact hb x (List.mem_of_mem_take hx))
  have hl2 := rootP_length (l := (ts.drop (splitP ts.length)).map (·.2)) (m := 1000000) (by omega) (fun a ha => by obtain ⟨x, hx, rfl⟩ := List.mem_map.1 ha; exact hb x (List.mem_of_mem_drop hx))
  have hq1 := take_mapT hv (k := splitP ts.length) (by omega)
  have hq2 := drop_mapT hv (k := splitP ts.length) (by omega)
  generalize splitP ts.length = k at *
  have hlk : (ts.take k).length = k := by rw [List.length_take]; omega
  have hlk2 : (ts.drop k).length = ts.length - k := List.length_drop
  (repeat' first | (apply O.assign; exact rfl; exact rfl) | apply W.seq | apply O.nil | apply Fin.next)
  refine A.start (id := 6) [9] Try.mixed ?_
  (all_goals (refine A.take 0 _ rfl (by kernel_rfl) Ent.rfl (Val.move rfl) rfl ?_); all_goals (refine A.take 1 _ rfl (by kernel_rfl) Ent.rfl (Val.move rfl) rfl ?_); all_goals (first | refine A.take 2 _ rfl (by kernel_rfl) Ent.rfl (Val.sliceHi rfl rfl (by omega) (by omega)) rfl ?_ | refine A.take 2 _ rfl (by kernel_rfl) Ent.rfl (Val.sliceLo rfl rfl (by omega) (by omega)) rfl ?_ | refine A.take 2 _ rfl (by kernel_rfl) Ent.rfl (Val.sliceLoHi rfl rfl rfl (by omega) (by omega) (by omega)) rfl ?_); all_goals (refine A.take 4 _ rfl (by kernel_rfl) Ent.rfl (Val.move rfl) rfl ?_); all_goals (refine A.take 5 _ rfl (by kernel_rfl) Ent.rfl (Val.move rfl) rfl ?_); all_goals (first | refine A.take 6 _ rfl (by kernel_rfl) Ent.rfl (Val.sliceHi rfl rfl (by omega) (by omega)) rfl ?_ | refine A.take 6 _ rfl (by kernel_rfl) Ent.rfl (Val.sliceLo rfl rfl (by omega) (by omega)) rfl ?_ | refine A.take 6 _ rfl (by kernel_rfl) Ent.rfl (Val.sliceLoHi rfl rfl rfl (by omega) (by omega) (by omega)) rfl ?_))
  refine A.one 3 rfl (by kernel_rfl) ?_
  refine Do.call rfl rfl (ih k (by omega) R e _ (ts.take k) hlk hq1 (txts_sub ht fun x hx => List.mem_of_mem_take hx) (fun a ha => hb a (List.mem_of_mem_take ha)) (by omega)) ?_
  rintro v1 _ ⟨A1, rfl, hv1⟩
  have hv1 := hv1 _ (txts_sub ht fun x hx => List.mem_of_mem_take hx)
  refine ⟨fun _ => (by (repeat first | exact Ent.rfl | exact Ent.nil | refine Ent.cons ?_ | (apply Ent.pull; exact (by (repeat first | exact Pull.zero | apply Pull.succ); done)) | refine Ent.drop ?_); done), ?_⟩
  refine A.one 7 rfl (by kernel_rfl) ?_
  refine Do.call rfl rfl (ih (ts.length - k) (by omega) _ e _ (ts.drop k) hlk2 hq2.tail (Txts.tail (txts_sub ht fun x hx => List.mem_of_mem_drop hx)) (fun a ha => hb a (List.mem_of_mem_drop ha)) (by omega)) ?_
  rintro v2 _ ⟨A2, rfl, hv2⟩
  have hv2 := hv2 (A1 :: R) (Txts.tail (txts_sub ht fun x hx => List.mem_of_mem_drop hx))
  refine ⟨fun _ => (by (repeat first | exact Ent.rfl | exact Ent.nil | refine Ent.cons ?_ | (apply Ent.pull; exact (by (repeat first | exact Pull.zero | apply Pull.succ); done)) | refine Ent.drop ?_); done), ?_⟩
  refine A.one 8 rfl (by kernel_rfl) ?_
  refine Do.call rfl rfl (refNode_spec _ e _ _ _ _ hv1.tail hv2 hl1 hl2) ?_
  rintro _ _ ⟨ad3, c3, rfl, rfl⟩
  refine ⟨fun _ => (by (repeat first | exact Ent.rfl | exact Ent.nil | refine Ent.cons ?_ | (apply Ent.pull; exact (by (repeat first | exact Pull.zero | apply Pull.succ); done)) | refine Ent.drop ?_); done), ?_⟩
  rw [← hrt]
  (all_goals (first | (refine A.one 9 rfl (by kernel_rfl) ?_; refine Do.val (Val.assign rfl) rfl ⟨(no_held (by kernel_rfl)), ?_⟩)))
  refine A.done (by kernel_rfl) ?_
  (repeat' first | apply Fin.next | apply W.ret)
  exact Fin.ret (OwnB (.slice ad3 (rootP (ts.map (·.2))).length c3) (rootP (ts.map (·.2))) :: R) rfl (by (repeat first | exact Ent.rfl | exact Ent.nil | refine Ent.cons ?_ | (apply Ent.pull; exact (by (repeat first | exact Pull.zero | apply Pull.succ); done)) | refine Ent.drop ?_); done) ⟨_, rfl, fun M _ => RdSl.own .zero⟩
theorem refRoot_spec (n : Nat) (R : List Res) (e : World) (v : Value) (ts : List Txt) (hn : ts.length = n) (hv : RdSl R 1 v ts.length (ts.map (·.1))) (ht : Txts R ts) (hb : ∀ a ∈ ts, a.2.length ≤ 1000000) (hl : ts.length ≤ 1000000) :
    Ct Try.prog 17 #[v] e R (fun v' L' => ∃ A, L' = A :: R ∧ RdB (A :: R) v' (rootP (ts.map (·.2)))) :=
  (refRootM_spec n R e v ts hn hv ht hb hl).mono fun v' L' ⟨A, h1, h2⟩ => ⟨A, h1, h2 R ht⟩
end Go.Proofs
