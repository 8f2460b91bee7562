/- chapter 8's runs. -/
import Derived.Test.YtaghckfpnfkihaaProof
import Derived.Test.YtaghckfpnfkihaaLists
namespace Go.Proofs
set_option linter.unusedVariables false
open Go.Bs
set_option linter.unusedSimpArgs false
attribute [local irreducible] Bs.Val Bs.Do Bs.O Bs.W Bs.Fin Bs.A Bs.Ct Bs.RdSl Bs.Rd Bs.Sat Bs.Blk Bs.Ob Bs.Own Bs.View Bs.Ent Bs.Ex Bs.All Bs.Pu Bs.Base Bs.sepL Bs.RdA
theorem path_ok {ts out : List Txt} {i : Nat} {x : List UInt8} (ho : out.map (·.2) = pathP (ts.map (·.2)) i) (hi : i < ts.length) (h32 : ∀ a ∈ ts, a.2.length = 32) (hl : ts.length ≤ 65536) (hx : x.length = 32) :
    LeadOk (i : Int) (ts.length : Int) out x ∧ LeadTo (i : Int) (ts.length : Int) out x = rootP ((ts.map (·.2)).set i x) := by
  have h1 : out.length = longP ts.length i := by
    have := congrArg List.length ho
    rwa [List.length_map, pathP_length _ _ _ rfl, List.length_map] at this
  have h2 := longP_le 16 ts.length i (by omega)
  have h3 : ∀ a ∈ ts.map (·.2), a.length = 32 := fun a ha => by
    obtain ⟨y, hy, rfl⟩ := List.mem_map.1 ha
    exact h32 y hy
  have h4 : ∀ a ∈ out, a.2.length = 32 := fun a ha => by
    have : a.2 ∈ out.map (·.2) := List.mem_map.2 ⟨a, ha, rfl⟩
    rw [ho] at this
    exact pathP_hash _ _ _ rfl h3 _ this
  refine ⟨⟨rightP_iff.2 ⟨by omega, h4⟩, hx, by omega, by omega, h1⟩, ?_⟩
  unfold LeadTo
  rw [ho]
  have := leadP_path ts.length (ts.map (·.2)) i x (List.length_map _) (by rw [List.length_map]; exact hi)
  rwa [List.length_map] at this
theorem set_same {ts : List Txt} {i : Nat} (hi : i < ts.length) : (ts.map (·.2)).set i (ts[i]'hi).2 = ts.map (·.2) := by
  have : (ts[i]'hi).2 = (ts.map (·.2))[i]'(by rw [List.length_map]; exact hi) := by rw [List.getElem_map]
  rw [this, List.set_getElem_self]
theorem long74 : longP 7 4 = 3 := by
  have s7 : splitP 7 = 4 := by decide +kernel
  have s3 : splitP 3 = 2 := by decide +kernel
  have s2 : splitP 2 = 1 := by decide +kernel
  rw [longP_hi (by omega) (by rw [s7]; omega), s7, longP_lo (by omega) (by rw [s3]; omega), s3, longP_lo (by omega) (by rw [s2]; omega), s2, longP_none (by omega)]
theorem known8_spec (R : List Res) (e : World) :
    Ct Try.prog 20 #[] e R (fun v' L' => v' = .bool true ∧ R = L') := by
  refine Ct.enter (args := []) Try.func20 rfl Try.ntmps20 Try.results20 rfl ?_
  (repeat' first | (apply O.assign; exact rfl; exact rfl) | apply W.seq | apply W.region | apply O.nil | apply Fin.next)
  refine O.call rfl rfl (leaves_spec _ e 7 (by omega)) ?_
  rintro _ _ ⟨adu, cu, us, rfl, hd, rfl⟩
  have hl : us.length = 7 := by have h1 := congrArg List.length hd; rwa [List.length_map, leavesP_length] at h1
  have h32 : ∀ x ∈ us, x.2.length = 32 := fun x hx => leavesP_sizes _ (by rw [← hd]; exact List.mem_map.2 ⟨x, hx, rfl⟩)
  have hs1 : ∀ x ∈ us, x.2.length ≤ 1000000 := fun x hx => by have := h32 x hx; omega
  refine O.of_sep (own_addr .zero (by omega)) ?_
  rintro ⟨p, rfl⟩
  (repeat' first | (apply O.move; exact rfl; exact rfl) | (apply O.assign; exact rfl; exact rfl) | apply W.seq | apply W.region | apply O.nil | apply Fin.next)
  refine O.call rfl rfl (include_spec _ e _ us 4 (by omega) (RdSl.own .zero) (Txts.pull (.succ .zero)) hs1 (by omega)) ?_
  rintro _ _ (⟨h, _⟩ | ⟨_, _, ad1, c1, out, rfl, ho, rfl⟩)
  · exact absurd ⟨by omega, by omega⟩ h
  rw [show (4 : Int).toNat = 4 from rfl] at ho
  have h4 : 4 < us.length := by omega
  have hx32 := h32 _ (List.getElem_mem h4)
  obtain ⟨hok, hto⟩ := path_ok ho h4 h32 (by omega) hx32
  rw [set_same h4] at hto
  have hol : out.length = 3 := by rw [hok.2.2.2.2, hl]; exact long74
  have hlo : (((out.length : Nat) : Int)) = 3 := by omega
  have hlu : (((us.length : Nat) : Int)) = 7 := by omega
  (repeat' first | (apply O.move; exact rfl; exact rfl) | (apply O.assign; exact rfl; exact rfl) | apply W.seq | apply W.region | apply O.nil | apply Fin.next | (apply O.alloc; exact rfl; exact rfl; intro _) | (apply O.extract; exact rfl; exact rfl; exact rfl) | (apply O.storeAgg; exact rfl; exact rfl; exact rfl; (focus ((repeat first | exact one_nil | (apply one_cons; first | exact rfl | assumption)); done)); (focus ((repeat first | exact Upd.zero | apply Upd.succ); done)); focus ((repeat first | exact SetAts.nil | apply SetAts.cons | exact SetAt.zero | apply SetAt.succ); done)))
  rename_i g
  refine O.call rfl rfl (include_spec _ e _ [] 0 (by omega) (RdSl.nil _ 1) (fun x hx => by cases hx) (fun x hx => by cases hx) (by simp)) ?_
  rintro _ _ (⟨_, rfl, rfl⟩ | ⟨_, h, _⟩)
  rotate_left
  · simp at h
  (repeat' first | (apply O.move; exact rfl; exact rfl) | (apply O.assign; exact rfl; exact rfl) | apply W.seq | apply O.nil | apply Fin.next | (apply O.alloc; exact rfl; exact rfl; intro _) | (apply O.extract; exact rfl; exact rfl; exact rfl) | (apply O.storeAgg; exact rfl; exact rfl; exact rfl; (focus ((repeat first | exact one_nil | (apply one_cons; first | exact rfl | assumption)); done)); (focus ((repeat first | exact Upd.zero | apply Upd.succ); done)); focus ((repeat first | exact SetAts.nil | apply SetAts.cons | exact SetAt.zero | apply SetAt.succ); done)))
  rename_i g2
  obtain ⟨M, hM⟩ : ∃ M, M = Blk g2 [.int .i64 0, .int .i64 0, .slice none 0 0] tPf (0, 0) :: Blk g [.int .i64 4, .int .i64 (us.length : Int), .slice ad1 out.length c1] tPf (0, 0) :: OwnT (.slice ad1 out.length c1) out :: Items out :: OwnT (.slice (some ⟨p, 0, none⟩) us.length cu) us :: Items us :: R := ⟨_, rfl⟩
  have f1 : RdSl M 1 (.slice ad1 out.length c1) out.length (out.map (·.1)) := by rw [hM]; exact RdSl.own (.succ (.succ .zero))
  have f2 : Txts M out := by rw [hM]; exact Txts.pull (.succ (.succ (.succ .zero)))
  have f3 : RdSl M 1 (.slice (some ⟨p, 0, none⟩) us.length cu) us.length (us.map (·.1)) := by rw [hM]; exact RdSl.own (.succ (.succ (.succ (.succ .zero))))
  have f4 : Txts M us := by rw [hM]; exact Txts.pull (.succ (.succ (.succ (.succ (.succ .zero)))))
  have f5 : Rd M ⟨p, 0 + 4, none⟩ (us[4]'h4).1 := by rw [hM]; exact ownT_rd (.succ (.succ (.succ (.succ .zero)))) (List.getElem?_eq_getElem h4) (by omega)
  have f6 : RdA M g 0 [.int .i64 4, .int .i64 (us.length : Int), .slice ad1 out.length c1] := by rw [hM]; exact RdA.whole (.succ .zero)
  have f7 : Rd M ⟨g, 0 + 2, none⟩ (.slice ad1 out.length c1) := by rw [hM]; exact Rd.blk (.succ .zero) rfl
  have f8 : RdB M (us[4]'h4).1 (us[4]'h4).2 := f4 _ (List.getElem_mem h4)
  have hMR : Ent M R := by rw [hM]; exact (by (repeat first | exact Ent.rfl | exact Ent.nil | refine Ent.cons ?_ | (apply Ent.pull; exact (by (repeat first | exact Pull.zero | apply Pull.succ); done)) | refine Ent.drop ?_); done)
  rw [← hM]
  clear hM
  (repeat' first | (apply O.move; exact rfl; exact rfl) | (apply O.assign; exact rfl; exact rfl) | apply W.seq | apply W.region | apply O.nil | apply Fin.next | (apply O.fieldAddr; exact rfl; exact rfl) | (apply O.load; exact rfl; (focus ((repeat first | exact Rd.blk .zero rfl | assumption | apply Rd.tail); done)); exact rfl) | (apply O.loadAggR; exact rfl; (focus ((repeat first | exact RdA.whole .zero | assumption | apply RdA.tail); done)); exact rfl; exact rfl) | (apply O.len; exact rfl; exact rfl) | (apply O.pick_t; exact rfl; exact rfl; exact rfl) | (apply O.pick_f; exact rfl; exact rfl; exact rfl) | (apply O.want; exact rfl) | (apply O.unwant; exact rfl; exact rfl) | (apply O.unwant0; exact rfl) | (apply O.eqlPtrS; exact rfl; exact rfl; exact rfl) | (apply O.eqlPtrN; exact rfl; exact rfl; exact rfl) | (apply O.eqlSlS; exact rfl; exact rfl; exact rfl) | (apply O.eqlSlN; exact rfl; exact rfl; exact rfl) | (apply O.not_t; exact rfl; exact rfl) | (apply O.not_f; exact rfl; exact rfl) | (apply O.eql_t; exact rfl; exact rfl; omega; exact rfl) | (apply O.eql_f; exact rfl; exact rfl; omega; exact rfl) | (apply O.eql_d; exact rfl; exact rfl; exact rfl; all_goals intro _) | (apply O.eqlStr_t; exact rfl; exact rfl; (first | exact rfl | assumption); exact rfl) | (apply O.eqlStr_f; exact rfl; exact rfl; assumption; exact rfl) | (apply O.eqlStr_d; exact rfl; exact rfl; exact rfl; all_goals intro _) | (apply O.store; exact rfl; exact rfl; (first | exact rfl | assumption); (focus ((repeat first | exact Upd.zero | apply Upd.succ); done)); (focus ((repeat first | exact SetAt.zero | apply SetAt.succ); done))) | (apply O.build; exact rfl; (simp [Instr.fill, Value.cells]; rfl); exact rfl) | (apply O.alloc; exact rfl; exact rfl; intro _) | (apply O.lenS; exact rfl; exact rfl) | (apply O.eqlBoolS; exact rfl; exact rfl; exact rfl) | (apply O.eqlBool; exact rfl; exact rfl; exact rfl) | (apply O.indexAddr1; exact rfl; exact rfl; omega; exact rfl) | (apply O.indexAddrN; exact rfl; exact rfl; omega; exact rfl) | (apply O.indexAddr; exact rfl; exact rfl; omega; omega; exact rfl) | apply W.ret | apply Fin.then_ret | (apply O.extract; exact rfl; exact rfl; exact rfl) | (apply O.storeOwn; exact rfl; exact rfl; (first | exact rfl | assumption); (focus ((repeat first | exact Pull.zero | apply Pull.succ); done)); omega) | (apply O.storeAgg; exact rfl; exact rfl; exact rfl; (focus ((repeat first | exact one_nil | (apply one_cons; first | exact rfl | assumption)); done)); (focus ((repeat first | exact Upd.zero | apply Upd.succ); done)); focus ((repeat first | exact SetAts.nil | apply SetAts.cons | exact SetAt.zero | apply SetAt.succ); done)))
  refine A.start (id := 4) [26] Try.mixed ?_
  (all_goals (refine A.take 0 _ rfl (by kernel_rfl) Ent.rfl (Val.move rfl) rfl ?_); all_goals (first | refine A.take 1 (.bool true) rfl (by kernel_rfl) Ent.rfl (Val.yes (Val.eql rfl rfl) (by first | omega | assumption | rfl)) rfl ?_ | refine A.take 1 (.bool false) rfl (by kernel_rfl) Ent.rfl (Val.no (Val.eql rfl rfl) (by first | omega | assumption | exact fun h => h rfl)) rfl ?_ | refine A.take 1 (.bool true) rfl (by kernel_rfl) Ent.rfl (Val.yes (Val.eqlStr rfl rfl) (by first | omega | assumption | rfl)) rfl ?_ | refine A.take 1 (.bool false) rfl (by kernel_rfl) Ent.rfl (Val.no (Val.eqlStr rfl rfl) (by first | omega | assumption | exact fun h => h rfl)) rfl ?_ | refine A.take 1 _ rfl (by kernel_rfl) Ent.rfl (Val.eqlPtrS rfl rfl) rfl ?_ | refine A.take 1 _ rfl (by kernel_rfl) Ent.rfl (Val.eqlPtrN rfl rfl) rfl ?_ | refine A.take 1 _ rfl (by kernel_rfl) Ent.rfl (Val.eqlBoolS rfl rfl) rfl ?_ | refine A.take 1 _ rfl (by kernel_rfl) Ent.rfl (Val.eqlBool rfl rfl) rfl ?_ | (refine A.takeDec 1 rfl (by kernel_rfl) Ent.rfl (Val.eql rfl rfl) rfl ?_ ?_ <;> intro _) | (refine A.takeDec 1 rfl (by kernel_rfl) Ent.rfl (Val.eqlStr rfl rfl) rfl ?_ ?_ <;> intro _)); all_goals (refine A.take 2 _ rfl (by kernel_rfl) Ent.rfl (Val.move rfl) rfl ?_); all_goals (first | refine A.takeG 3 _ rfl rfl (by kernel_rfl) Ent.rfl (Val.fieldAddr rfl) rfl ?_ | refine A.takeN 3 rfl rfl (by kernel_rfl) Ent.rfl rfl ?_); all_goals (first | refine A.takeG 4 _ rfl rfl (by kernel_rfl) Ent.rfl (Val.load rfl (by (repeat first | exact Rd.blk .zero rfl | assumption | apply Rd.tail); done)) rfl ?_ | refine A.takeG 4 _ rfl rfl (by kernel_rfl) Ent.rfl (Val.loadAggR rfl (by (repeat first | exact RdA.whole .zero | assumption | apply RdA.tail); done) (by exact rfl)) rfl ?_ | refine A.takeN 4 rfl rfl (by kernel_rfl) Ent.rfl rfl ?_); all_goals (first | refine A.takeG 5 _ rfl rfl (by kernel_rfl) Ent.rfl (Val.len rfl) rfl ?_ | refine A.takeG 5 _ rfl rfl (by kernel_rfl) Ent.rfl (Val.lenS rfl) rfl ?_ | refine A.takeN 5 rfl rfl (by kernel_rfl) Ent.rfl rfl ?_); all_goals (first | refine A.takeG 6 (.bool true) rfl rfl (by kernel_rfl) Ent.rfl (Val.yes (Val.eql rfl rfl) (by first | omega | assumption | rfl)) rfl ?_ | refine A.takeG 6 (.bool false) rfl rfl (by kernel_rfl) Ent.rfl (Val.no (Val.eql rfl rfl) (by first | omega | assumption | exact fun h => h rfl)) rfl ?_ | refine A.takeG 6 (.bool true) rfl rfl (by kernel_rfl) Ent.rfl (Val.yes (Val.eqlStr rfl rfl) (by first | omega | assumption | rfl)) rfl ?_ | refine A.takeG 6 (.bool false) rfl rfl (by kernel_rfl) Ent.rfl (Val.no (Val.eqlStr rfl rfl) (by first | omega | assumption | exact fun h => h rfl)) rfl ?_ | refine A.takeG 6 _ rfl rfl (by kernel_rfl) Ent.rfl (Val.eqlPtrS rfl rfl) rfl ?_ | refine A.takeG 6 _ rfl rfl (by kernel_rfl) Ent.rfl (Val.eqlPtrN rfl rfl) rfl ?_ | refine A.takeG 6 _ rfl rfl (by kernel_rfl) Ent.rfl (Val.eqlBoolS rfl rfl) rfl ?_ | refine A.takeG 6 _ rfl rfl (by kernel_rfl) Ent.rfl (Val.eqlBool rfl rfl) rfl ?_ | (refine A.takeGDec 6 rfl rfl (by kernel_rfl) Ent.rfl (Val.eql rfl rfl) rfl ?_ ?_ <;> intro _) | (refine A.takeGDec 6 rfl rfl (by kernel_rfl) Ent.rfl (Val.eqlStr rfl rfl) rfl ?_ ?_ <;> intro _) | refine A.takeN 6 rfl rfl (by kernel_rfl) Ent.rfl rfl ?_); all_goals (first | refine A.take 7 _ rfl (by kernel_rfl) Ent.rfl (Val.pick_t rfl rfl) rfl ?_ | refine A.take 7 _ rfl (by kernel_rfl) Ent.rfl (Val.pick_f rfl rfl) rfl ?_); all_goals (refine A.take 8 _ rfl (by kernel_rfl) Ent.rfl (Val.move rfl) rfl ?_); all_goals (first | refine A.takeG 9 _ rfl rfl (by kernel_rfl) Ent.rfl (Val.load rfl (by (repeat first | exact Rd.blk .zero rfl | assumption | apply Rd.tail); done)) rfl ?_ | refine A.takeG 9 _ rfl rfl (by kernel_rfl) Ent.rfl (Val.loadAggR rfl (by (repeat first | exact RdA.whole .zero | assumption | apply RdA.tail); done) (by exact rfl)) rfl ?_ | refine A.takeN 9 rfl rfl (by kernel_rfl) Ent.rfl rfl ?_); all_goals (first | refine A.takeG 10 _ rfl rfl (by kernel_rfl) Ent.rfl (Val.move rfl) rfl ?_ | refine A.takeN 10 rfl rfl (by kernel_rfl) Ent.rfl rfl ?_); all_goals (first | refine A.takeG 11 _ rfl rfl (by kernel_rfl) Ent.rfl (Val.indexAddrA1 rfl rfl (by omega)) rfl ?_ | refine A.takeG 11 _ rfl rfl (by kernel_rfl) Ent.rfl (Val.indexAddrA rfl rfl (by omega)) rfl ?_ | refine A.takeG 11 _ rfl rfl (by kernel_rfl) Ent.rfl (Val.indexAddr1 rfl rfl (by omega)) rfl ?_ | refine A.takeG 11 _ rfl rfl (by kernel_rfl) Ent.rfl (Val.indexAddrN rfl rfl (by omega)) rfl ?_ | refine A.takeG 11 _ rfl rfl (by kernel_rfl) Ent.rfl (Val.indexAddr rfl rfl (by omega) (by omega)) rfl ?_ | refine A.takeN 11 rfl rfl (by kernel_rfl) Ent.rfl rfl ?_); all_goals (first | refine A.takeG 12 _ rfl rfl (by kernel_rfl) Ent.rfl (Val.load rfl (by (repeat first | exact Rd.blk .zero rfl | assumption | apply Rd.tail); done)) rfl ?_ | refine A.takeG 12 _ rfl rfl (by kernel_rfl) Ent.rfl (Val.loadAggR rfl (by (repeat first | exact RdA.whole .zero | assumption | apply RdA.tail); done) (by exact rfl)) rfl ?_ | refine A.takeN 12 rfl rfl (by kernel_rfl) Ent.rfl rfl ?_); all_goals (first | refine A.takeG 13 _ rfl rfl (by kernel_rfl) Ent.rfl (Val.move rfl) rfl ?_ | refine A.takeN 13 rfl rfl (by kernel_rfl) Ent.rfl rfl ?_))
  refine A.oneG 14 rfl rfl (by kernel_rfl) ?_
  refine Do.call rfl rfl (refRoot_spec us.length _ e _ us rfl f3 f4 hs1 (by omega)) ?_
  rintro w1 _ ⟨A1, rfl, hw1⟩
  refine ⟨fun _ => (by (repeat first | exact Ent.rfl | exact Ent.nil | refine Ent.cons ?_ | (apply Ent.pull; exact (by (repeat first | exact Pull.zero | apply Pull.succ); done)) | refine Ent.drop ?_); done), A.regrow (by (repeat first | exact Ent.rfl | exact Ent.nil | refine Ent.cons ?_ | (apply Ent.pull; exact (by (repeat first | exact Pull.zero | apply Pull.succ); done)) | refine Ent.drop ?_); done) ?_⟩
  refine A.oneG 15 rfl rfl (by kernel_rfl) ?_
  refine Do.call rfl rfl (check_spec _ e 4 us.length _ _ _ out (us[4]'h4).2 (rootP (us.map (·.2))) (by omega) (by omega) f1.tail f2.tail f8.tail hw1) ?_
  rintro _ _ ⟨rfl, rfl⟩
  rw [decide_eq_true ⟨hok, hto⟩]
  refine ⟨fun _ => (by (repeat first | exact Ent.rfl | exact Ent.nil | refine Ent.cons ?_ | (apply Ent.pull; exact (by (repeat first | exact Pull.zero | apply Pull.succ); done)) | refine Ent.drop ?_); done), ?_⟩
  (all_goals (first | refine A.take 16 _ rfl (by kernel_rfl) Ent.rfl (Val.pick_t rfl rfl) rfl ?_ | refine A.take 16 _ rfl (by kernel_rfl) Ent.rfl (Val.pick_f rfl rfl) rfl ?_); all_goals (refine A.take 17 _ rfl (by kernel_rfl) Ent.rfl (Val.move rfl) rfl ?_); all_goals (first | refine A.takeG 18 _ rfl rfl (by kernel_rfl) Ent.rfl (Val.move rfl) rfl ?_ | refine A.takeN 18 rfl rfl (by kernel_rfl) Ent.rfl rfl ?_); all_goals (first | refine A.takeG 19 (.bool true) rfl rfl (by kernel_rfl) Ent.rfl (Val.yes (Val.eql rfl rfl) (by first | omega | assumption | rfl)) rfl ?_ | refine A.takeG 19 (.bool false) rfl rfl (by kernel_rfl) Ent.rfl (Val.no (Val.eql rfl rfl) (by first | omega | assumption | exact fun h => h rfl)) rfl ?_ | refine A.takeG 19 (.bool true) rfl rfl (by kernel_rfl) Ent.rfl (Val.yes (Val.eqlStr rfl rfl) (by first | omega | assumption | rfl)) rfl ?_ | refine A.takeG 19 (.bool false) rfl rfl (by kernel_rfl) Ent.rfl (Val.no (Val.eqlStr rfl rfl) (by first | omega | assumption | exact fun h => h rfl)) rfl ?_ | refine A.takeG 19 _ rfl rfl (by kernel_rfl) Ent.rfl (Val.eqlPtrS rfl rfl) rfl ?_ | refine A.takeG 19 _ rfl rfl (by kernel_rfl) Ent.rfl (Val.eqlPtrN rfl rfl) rfl ?_ | refine A.takeG 19 _ rfl rfl (by kernel_rfl) Ent.rfl (Val.eqlBoolS rfl rfl) rfl ?_ | refine A.takeG 19 _ rfl rfl (by kernel_rfl) Ent.rfl (Val.eqlBool rfl rfl) rfl ?_ | (refine A.takeGDec 19 rfl rfl (by kernel_rfl) Ent.rfl (Val.eql rfl rfl) rfl ?_ ?_ <;> intro _) | (refine A.takeGDec 19 rfl rfl (by kernel_rfl) Ent.rfl (Val.eqlStr rfl rfl) rfl ?_ ?_ <;> intro _) | refine A.takeN 19 rfl rfl (by kernel_rfl) Ent.rfl rfl ?_); all_goals (first | refine A.take 20 _ rfl (by kernel_rfl) Ent.rfl (Val.pick_t rfl rfl) rfl ?_ | refine A.take 20 _ rfl (by kernel_rfl) Ent.rfl (Val.pick_f rfl rfl) rfl ?_); all_goals (refine A.take 21 _ rfl (by kernel_rfl) Ent.rfl (Val.move rfl) rfl ?_); all_goals (first | refine A.takeG 22 _ rfl rfl (by kernel_rfl) Ent.rfl (Val.build rfl (by first | (simp [Instr.fill, Value.cells]; done) | (simp [Instr.fill, Value.cells]; rfl))) rfl ?_ | refine A.takeN 22 rfl rfl (by kernel_rfl) Ent.rfl rfl ?_))
  refine A.oneG 23 rfl rfl (by kernel_rfl) ?_
  refine Do.call rfl rfl (check_spec _ e 0 0 _ _ _ [] [] [] (by omega) (by omega) (RdSl.nil _ 1) (fun x hx => by cases hx) (RdB.nil _) (RdB.nil _)) ?_
  rintro _ _ ⟨rfl, rfl⟩
  rw [decide_eq_false (fun h => by have := h.1.2.1; simp at this)]
  refine ⟨fun _ => (by (repeat first | exact Ent.rfl | exact Ent.nil | refine Ent.cons ?_ | (apply Ent.pull; exact (by (repeat first | exact Pull.zero | apply Pull.succ); done)) | refine Ent.drop ?_); done), ?_⟩
  (all_goals (first | refine A.takeG 24 _ rfl rfl (by kernel_rfl) Ent.rfl (Val.not_t rfl) rfl ?_ | refine A.takeG 24 _ rfl rfl (by kernel_rfl) Ent.rfl (Val.not_f rfl) rfl ?_ | refine A.takeG 24 _ rfl rfl (by kernel_rfl) Ent.rfl (Val.compU rfl) rfl ?_ | refine A.takeG 24 _ rfl rfl (by kernel_rfl) Ent.rfl (Val.neg rfl) rfl ?_ | refine A.takeN 24 rfl rfl (by kernel_rfl) Ent.rfl rfl ?_); all_goals (first | refine A.take 25 _ rfl (by kernel_rfl) Ent.rfl (Val.pick_t rfl rfl) rfl ?_ | refine A.take 25 _ rfl (by kernel_rfl) Ent.rfl (Val.pick_f rfl rfl) rfl ?_); all_goals (first | (refine A.one 26 rfl (by kernel_rfl) ?_; refine Do.val (Val.assign rfl) rfl ⟨(no_held (by kernel_rfl)), ?_⟩)))
  refine A.done (by kernel_rfl) ?_
  (repeat' first | apply Fin.next | apply W.ret)
  exact Fin.ret R rfl (Ent.trans (show Ent _ M from (by (repeat first | exact Ent.rfl | exact Ent.nil | refine Ent.cons ?_ | (apply Ent.pull; exact (by (repeat first | exact Pull.zero | apply Pull.succ); done)) | refine Ent.drop ?_); done)) hMR) ⟨rfl, rfl⟩
end Go.Proofs
