/- ProofLeads: what any proof leads to, whatever it is, is what the document says. -/
import Derived.Test.YtaghckfpnfkihaaLaw8Lead
import Derived.Test.YtaghckfpnfkihaaOwnI
import Derived.Test.YtaghckfpnfkihaaBook
import Derived.Test.YtaghckfpnfkihaaFew
import Derived.Test.YtaghckfpnfkihaaSized
namespace Go.Proofs
set_option linter.unusedVariables false
open Go.Bs
set_option linter.unusedSimpArgs false
attribute [local irreducible] Bs.Val Bs.Do Bs.O Bs.W Bs.Fin Bs.A Bs.Ct Bs.RdSl Bs.Rd Bs.Sat Bs.Blk Bs.Ob Bs.Own Bs.View Bs.Ent Bs.Ex Bs.All Bs.Pu Bs.Base Bs.sepL Bs.RdA
theorem ent_pullA {B : Res} {X : List Res} : ∀ As : List Res, Ent (As ++ (B :: X)) (B :: (As ++ X))
  | [] => Ent.rfl
  | A :: As => (Ent.cons (ent_pullA As)).trans (Ent.pull (.succ .zero) Ent.rfl)
theorem byte_of {n m : Int} : ∃ c : UInt8, Value.int .u8 (Go.bits .xor .u8 n m) = u8 c := by
  unfold Go.bits
  refine ⟨UInt8.ofNat (BitVec.ofInt 8 n ^^^ BitVec.ofInt 8 m).toNat, ?_⟩
  have h : (BitVec.ofInt 8 n ^^^ BitVec.ofInt 8 m).toNat < 256 := (BitVec.ofInt 8 n ^^^ BitVec.ofInt 8 m).isLt
  unfold u8
  rw [UInt8.toNat_ofNat_of_lt' h]
  exact congrArg (Value.int .u8) (show IntKind.u8.wrap (((BitVec.ofInt 8 n ^^^ BitVec.ofInt 8 m).toNat : Nat) : Int) = _ from wrap_u8 (by omega) (by omega))
structure PvS where
  N : List Res
  idx : Int
  size : Int
  vp : Value
  ts : List Txt
/-- A proof that lies in memory, and what else may be read there. -/
def PvOk (g : Nat) (M : List Res) (s : PvS) : Prop :=
  RdA s.N g 0 [.int .i64 s.idx, .int .i64 s.size, s.vp] ∧ RdSl s.N 1 s.vp s.ts.length (s.ts.map (·.1)) ∧ Txts s.N s.ts ∧ Ent s.N M ∧ (-9223372036854775808 ≤ s.idx ∧ s.idx ≤ 9223372036854775807) ∧ (-9223372036854775808 ≤ s.size ∧ s.size ≤ 9223372036854775807)
theorem proofLeads_spec (R : List Res) (e : World) (n i how at' turn : Int) (vpath : Value) (path : List Txt) (size index : Int) (vl : Value) (lf : List UInt8)
    (hn : -9223372036854775808 ≤ n ∧ n ≤ 9223372036854775807) (hi : -9223372036854775808 ≤ i ∧ i ≤ 9223372036854775807) (hat : -9223372036854775808 ≤ at' ∧ at' ≤ 9223372036854775807) (hsz : -9223372036854775808 ≤ size ∧ size ≤ 9223372036854775807) (hix : -9223372036854775808 ≤ index ∧ index ≤ 9223372036854775807)
    (hp : RdSl R 1 vpath path.length (path.map (·.1))) (hpt : Txts R path) (hlf : RdB R vl lf) :
    Ct Try.prog 3 #[.int .i64 n, .int .i64 i, .int .i64 how, .int .i64 at', .int .u8 turn, vpath, .int .i64 size, .int .i64 index, vl] e R (fun v' L' => v' = .bool true ∧ R = L') := by
  refine Ct.enter (args := [_, _, _, _, _, _, _, _, _]) Try.func3 rfl Try.ntmps3 Try.results3 rfl ?_
  have hw := within_bounds n 1 80 (by omega)
  (repeat' first | (apply O.move; exact rfl; exact rfl) | (apply O.assign; exact rfl; exact rfl) | apply W.seq | apply W.region | apply O.nil | apply Fin.next)
  refine O.call rfl rfl (within_spec _ e n 1 80 hn (by omega)) ?_
  rintro _ _ ⟨rfl, rfl⟩
  generalize within n 1 80 = k at *
  obtain ⟨m, rfl⟩ := Int.eq_ofNat_of_zero_le (show 0 ≤ k by omega)
  (repeat' first | (apply O.move; exact rfl; exact rfl) | (apply O.assign; exact rfl; exact rfl) | apply W.seq | apply W.region | apply O.nil | apply Fin.next | (apply O.fieldAddr; exact rfl; exact rfl) | (apply O.load; exact rfl; (focus ((repeat first | exact Rd.blk .zero rfl | assumption | apply Rd.tail); done)); exact rfl) | (apply O.loadAggR; exact rfl; (focus ((repeat first | exact RdA.whole .zero | assumption | apply RdA.tail); done)); exact rfl; exact rfl) | (apply O.len; exact rfl; exact rfl) | (apply O.pick_t; exact rfl; exact rfl; exact rfl) | (apply O.pick_f; exact rfl; exact rfl; exact rfl) | (apply O.want; exact rfl) | (apply O.unwant; exact rfl; exact rfl) | (apply O.unwant0; exact rfl) | (apply O.eqlPtrS; exact rfl; exact rfl; exact rfl) | (apply O.eqlPtrN; exact rfl; exact rfl; exact rfl) | (apply O.eqlSlS; exact rfl; exact rfl; exact rfl) | (apply O.eqlSlN; exact rfl; exact rfl; exact rfl) | (apply O.lss_t; exact rfl; exact rfl; omega; exact rfl) | (apply O.lss_f; exact rfl; exact rfl; omega; exact rfl) | (apply O.lss_d; exact rfl; exact rfl; exact rfl; all_goals intro _) | (apply O.gtr_t; exact rfl; exact rfl; omega; exact rfl) | (apply O.gtr_f; exact rfl; exact rfl; omega; exact rfl) | (apply O.gtr_d; exact rfl; exact rfl; exact rfl; all_goals intro _) | (apply O.eql_t; exact rfl; exact rfl; omega; exact rfl) | (apply O.eql_f; exact rfl; exact rfl; omega; exact rfl) | (apply O.eql_d; exact rfl; exact rfl; exact rfl; all_goals intro _) | (apply O.add64; exact rfl; exact rfl; omega; exact rfl) | (apply O.add; exact rfl; exact rfl; exact rfl) | (apply O.sub64; exact rfl; exact rfl; omega; exact rfl) | (apply O.sub; exact rfl; exact rfl; exact rfl) | (apply O.xor; exact rfl; exact rfl; exact rfl) | (apply O.eqlStr_t; exact rfl; exact rfl; (first | exact rfl | assumption); exact rfl) | (apply O.eqlStr_f; exact rfl; exact rfl; assumption; exact rfl) | (apply O.eqlStr_d; exact rfl; exact rfl; exact rfl; all_goals intro _) | (apply O.store; exact rfl; exact rfl; (first | exact rfl | assumption); (focus ((repeat first | exact Upd.zero | apply Upd.succ); done)); (focus ((repeat first | exact SetAt.zero | apply SetAt.succ); done))) | (apply O.build; exact rfl; (simp [Instr.fill, Value.cells]; rfl); exact rfl) | (apply O.alloc; exact rfl; exact rfl; intro _) | (apply O.buildSlice; exact rfl; exact rfl; exact rfl; (focus ((repeat first | exact Bs.Parts.nil | apply Bs.Parts.one rfl rfl | apply Bs.Parts.one (Bs.cells_one (by assumption)) rfl | (apply Bs.Parts.agg; exact rfl)); done)); exact rfl; exact rfl; intro _) | (apply O.lssStr_t; exact rfl; exact rfl; assumption; exact rfl) | (apply O.lssStr_f; exact rfl; exact rfl; assumption; exact rfl) | (apply O.lssStr; exact rfl; exact rfl; exact rfl) | (apply O.lenS; exact rfl; exact rfl) | (apply O.eqlBoolS; exact rfl; exact rfl; exact rfl) | (apply O.eqlBool; exact rfl; exact rfl; exact rfl) | (apply O.sliceHi; exact rfl; exact rfl; omega; omega; exact rfl) | (apply O.sliceLo; exact rfl; exact rfl; omega; omega; exact rfl) | (apply O.sliceLoHi; exact rfl; exact rfl; exact rfl; omega; omega; omega; exact rfl) | (apply O.indexAddr1; exact rfl; exact rfl; omega; exact rfl) | (apply O.indexAddrN; exact rfl; exact rfl; omega; exact rfl) | (apply O.indexAddr; exact rfl; exact rfl; omega; omega; exact rfl) | (apply W.cond_t; exact rfl) | (apply W.cond_f; exact rfl) | apply W.block | apply W.skip | apply W.exit | apply W.ret | apply Fin.then_ret | apply Fin.then_exit | apply Fin.block_normal | apply Fin.block_ret | apply Fin.block_hit | (apply Fin.block_miss; exact rfl) | (apply O.addStr; exact rfl; exact rfl; omega; exact rfl) | (apply O.storeOwn; exact rfl; exact rfl; (first | exact rfl | assumption); (focus ((repeat first | exact Pull.zero | apply Pull.succ); done)); omega) | (apply O.storeAgg; exact rfl; exact rfl; exact rfl; (focus ((repeat first | exact one_nil | (apply one_cons; first | exact rfl | assumption)); done)); (focus ((repeat first | exact Upd.zero | apply Upd.succ); done)); focus ((repeat first | exact SetAts.nil | apply SetAts.cons | exact SetAt.zero | apply SetAt.succ); done)) | (apply O.makeSlice; exact rfl; exact rfl; exact rfl; omega; exact rfl; intro _))
  refine O.call rfl rfl (leaves_spec _ e m (by omega)) ?_
  rintro _ _ ⟨adu, cu, us, rfl, hd, rfl⟩
  have hl : us.length = m := by have h1 := congrArg List.length hd; rwa [List.length_map, leavesP_length] at h1
  have h32 : ∀ x ∈ us, x.2.length = 32 := fun x hx => leavesP_sizes _ (by rw [← hd]; exact List.mem_map.2 ⟨x, hx, rfl⟩)
  have hs1 : ∀ x ∈ us, x.2.length ≤ 1000000 := fun x hx => by have := h32 x hx; omega
  subst hl
  refine O.of_sep (own_addr .zero (by omega)) ?_
  rintro ⟨p, rfl⟩
  have hw2 := within_bounds i 0 ((us.length : Int) - 1) (by omega)
  (repeat' first | (apply O.move; exact rfl; exact rfl) | (apply O.assign; exact rfl; exact rfl) | apply W.seq | apply W.region | apply O.nil | apply Fin.next | (apply O.len; exact rfl; exact rfl) | (apply O.sub64; exact rfl; exact rfl; omega; exact rfl))
  refine O.call rfl rfl (within_spec _ e i 0 ((us.length : Int) - 1) hi (by omega)) ?_
  rintro _ _ ⟨rfl, rfl⟩
  generalize within i 0 ((us.length : Int) - 1) = j at *
  obtain ⟨j, rfl⟩ := Int.eq_ofNat_of_zero_le hw2.1
  have hjl : j < us.length := by omega
  (repeat' first | (apply O.move; exact rfl; exact rfl) | (apply O.assign; exact rfl; exact rfl) | apply W.seq | apply W.region | apply O.nil | apply Fin.next | (apply O.len; exact rfl; exact rfl) | (apply O.build; exact rfl; (simp [Instr.fill, Value.cells]; rfl); exact rfl) | (apply O.alloc; exact rfl; exact rfl; intro _) | (apply O.storeAgg; exact rfl; exact rfl; exact rfl; (focus ((repeat first | exact one_nil | (apply one_cons; first | exact rfl | assumption)); done)); (focus ((repeat first | exact Upd.zero | apply Upd.succ); done)); focus ((repeat first | exact SetAts.nil | apply SetAts.cons | exact SetAt.zero | apply SetAt.succ); done)))
  rename_i g
  refine O.call rfl rfl (refInclude_spec us.length _ e _ us j rfl (RdSl.own (.succ .zero)) (Txts.pull (.succ (.succ .zero))) hs1 (by omega) (by omega)) ?_
  rintro _ _ ⟨adw, cw, ws, As, rfl, hws, rfl, hA⟩
  have hwl : ws.length ≤ 16 := by
    have h7 := congrArg List.length hws
    rw [List.length_map, pathP_length _ _ _ rfl, List.length_map] at h7
    have := longP_le 16 us.length j (by omega)
    omega
  have hw32 : ∀ a ∈ ws, a.2.length = 32 := fun a ha => by
    have : a.2 ∈ ws.map (·.2) := List.mem_map.2 ⟨a, ha, rfl⟩
    rw [hws] at this
    exact pathP_hash _ _ _ rfl (fun b hb => by obtain ⟨y, hy, rfl⟩ := List.mem_map.1 hb; exact h32 y hy) _ this
  obtain ⟨F, hF⟩ : ∃ F, F = Own tTxts 1 (.slice adw ws.length cw) ws.length (ws.map (·.1)) :: (As ++ (OwnT (.slice (some ⟨p, 0, none⟩) us.length cu) us :: Items us :: R)) := ⟨_, rfl⟩
  have f1 : RdSl F 1 (.slice adw ws.length cw) ws.length (ws.map (·.1)) := by rw [hF]; exact RdSl.own .zero
  have f2 : Txts F ws := by rw [hF]; exact (hA _ (Txts.pull (.succ .zero))).tail
  have f3 : RdSl F 1 (.slice (some ⟨p, 0, none⟩) us.length cu) us.length (us.map (·.1)) := by rw [hF]; exact (rdsl_app (RdSl.own .zero) As).tail
  have f4 : Txts F us := by rw [hF]; exact (txts_app (Txts.pull (.succ .zero)) As).tail
  have f5 : Rd F ⟨p, 0 + j, none⟩ (us[j]'hjl).1 := by rw [hF]; exact (rd_app (ownT_rd .zero (List.getElem?_eq_getElem hjl) (by omega)) As).tail
  have f6 : RdSl F 1 vpath path.length (path.map (·.1)) := by rw [hF]; exact (rdsl_app hp.tail.tail As).tail
  have f7 : Txts F path := by rw [hF]; exact (txts_app hpt.tail.tail As).tail
  have f8 : RdB F vl lf := by rw [hF]; exact (rdb_app hlf.tail.tail As).tail
  have f9 : RdB F (us[j]'hjl).1 (us[j]'hjl).2 := f4 _ (List.getElem_mem hjl)
  have hFR : Ent F R := by rw [hF]; exact Ent.drop (Ent.trans (ent_app As) (by (repeat first | exact Ent.rfl | exact Ent.nil | refine Ent.cons ?_ | (apply Ent.pull; exact (by (repeat first | exact Pull.zero | apply Pull.succ); done)) | refine Ent.drop ?_); done))
  refine O.ent1 (show Ent _ (Blk g [.int .i64 (j : Int), .int .i64 (us.length : Int), .slice none 0 0] tPf (0, 0) :: F) from by rw [hF]; exact (Ent.cons (ent_pullA As)).trans (Ent.pull (.succ .zero) Ent.rfl)) ?_
  clear hF hA
  refine O.of_sep (RdSl.shape (f1.tail (A := Blk g [.int .i64 (j : Int), .int .i64 (us.length : Int), .slice none 0 0] tPf (0, 0))) (by omega)) ?_
  rintro ⟨⟨ad', c', hqq, _, _, _, q6⟩, _⟩
  obtain ⟨rfl, _, rfl⟩ := Value.slice.inj hqq
  clear hqq
  (repeat' first | (apply O.move; exact rfl; exact rfl) | apply O.nil | apply Fin.next | (apply O.len; exact rfl; exact rfl) | apply W.block)
  refine W.loop (ι := Nat × Option Addr × Nat × List Txt) (fun q => [(19, .slice (some ⟨p, 0, none⟩) us.length cu), (20, .int .i64 (j : Int)), (21, .pointer (some ⟨g, 0, none⟩)), (2, .int .i64 how), (3, .int .i64 at'), (4, .int .u8 turn), (5, vpath), (6, .int .i64 size), (7, .int .i64 index), (8, vl), (39, .slice adw ws.length cw), (40, .int .i64 (ws.length : Int)), (41, .int .i64 (q.1 : Int))])
    (fun q => Blk g [.int .i64 (j : Int), .int .i64 (us.length : Int), .slice q.2.1 q.2.2.2.length q.2.2.1] tPf (0, 0) :: Own tTxts 1 (.slice q.2.1 q.2.2.2.length q.2.2.1) q.2.2.2.length (q.2.2.2.map (·.1)) :: OwnI q.2.2.2 :: F)
    (fun q => q.1 ≤ ws.length ∧ q.2.2.2.map (·.2) = (ws.take q.1).map (·.2)) (fun q => ws.length - q.1) (0, none, 0, []) ⟨Nat.zero_le _, rfl⟩ (by repeat (first | exact sub_nil | refine sub_cons rfl ?_)) (Ent.cons (ownI_nil.trans (own_nil _ _))) ?_
  rintro ⟨q, ad, c, out⟩ ⟨h1, h2⟩
  dsimp only at h1 h2 ⊢
  have hol : out.length = q := by
    have := congrArg List.length h2
    rw [List.length_map, List.length_map, List.length_take] at this; omega
  by_cases hlt : q < ws.length
  · rcases q6 with q6 | ⟨gl, ol, rfl⟩
    · omega
    have hr : Rd F ⟨gl, ol + q, none⟩ (ws[q]'hlt).1 := f1.elem (by rw [List.getElem?_map, List.getElem?_eq_getElem hlt]; rfl)
    have hr2 := ((hr.tail (A := OwnI out)).tail (A := Own tTxts 1 (.slice ad out.length c) out.length (out.map (·.1)))).tail (A := Blk g [.int .i64 (j : Int), .int .i64 (us.length : Int), .slice ad out.length c] tPf (0, 0))
    have hx := f2 _ (List.getElem_mem hlt)
    have hx32 := hw32 _ (List.getElem_mem hlt)
    have htk : ws.take (q + 1) = ws.take q ++ [ws[q]'hlt] := List.take_succ_eq_append_getElem hlt
    generalize ws[q]'hlt = x at *
    (repeat' first | (apply O.assign; exact rfl; exact rfl) | apply W.seq | apply W.region | apply O.nil | apply Fin.next | (apply O.load; exact rfl; (focus ((repeat first | exact Rd.blk .zero rfl | assumption | apply Rd.tail); done)); exact rfl) | (apply O.lss_t; exact rfl; exact rfl; omega; exact rfl) | (apply O.indexAddr1; exact rfl; exact rfl; omega; exact rfl) | (apply W.cond_t; exact rfl) | apply W.block | apply W.skip)
    refine A.begin (id := 7) [7, 8] [Blk g [.int .i64 (j : Int), .int .i64 (us.length : Int), .slice ad out.length c] tPf (0, 0)] Try.mixed ?_
    (all_goals (refine A.take 0 _ rfl (by kernel_rfl) (by (repeat first | exact Ent.rfl | exact Ent.nil | refine Ent.cons ?_ | (apply Ent.pull; exact (by (repeat first | exact Pull.zero | apply Pull.succ); done)) | refine Ent.drop ?_); done) (Val.fieldAddr rfl) rfl ?_); all_goals (first | refine A.take 1 _ rfl (by kernel_rfl) (by (repeat first | exact Ent.rfl | exact Ent.nil | refine Ent.cons ?_ | (apply Ent.pull; exact (by (repeat first | exact Pull.zero | apply Pull.succ); done)) | refine Ent.drop ?_); done) (Val.load rfl (by (repeat first | exact Rd.blk .zero rfl | assumption | apply Rd.tail); done)) rfl ?_ | refine A.take 1 _ rfl (by kernel_rfl) (by (repeat first | exact Ent.rfl | exact Ent.nil | refine Ent.cons ?_ | (apply Ent.pull; exact (by (repeat first | exact Pull.zero | apply Pull.succ); done)) | refine Ent.drop ?_); done) (Val.loadAggR rfl (by (repeat first | exact RdA.whole .zero | assumption | apply RdA.tail); done) (by exact rfl)) rfl ?_); all_goals (refine A.take 3 _ rfl (by kernel_rfl) (by (repeat first | exact Ent.rfl | exact Ent.nil | refine Ent.cons ?_ | (apply Ent.pull; exact (by (repeat first | exact Pull.zero | apply Pull.succ); done)) | refine Ent.drop ?_); done) (Val.move rfl) rfl ?_))
    refine A.one 2 rfl (by kernel_rfl) ?_
    refine Do.buildSlice (n := 1) rfl rfl rfl rfl .nil rfl (fun g2 => ⟨fun _ => (by (repeat first | exact Ent.rfl | exact Ent.nil | refine Ent.cons ?_ | (apply Ent.pull; exact (by (repeat first | exact Pull.zero | apply Pull.succ); done)) | refine Ent.drop ?_); done), ?_⟩)
    refine A.ent1 (own_in (n := 1) (k := 0) (cap := 0) (by omega) (by simp [maxLen]) rfl) ?_
    refine A.one 4 rfl (by kernel_rfl) ?_
    refine Do.append rfl rfl rfl .zero hx.tail.tail.tail rfl rfl u8_one (by simp only [maxLen]; omega) (by omega) fun ad2 c2 _ => ⟨fun _ => (by (repeat first | exact Ent.rfl | exact Ent.nil | refine Ent.cons ?_ | (apply Ent.pull; exact (by (repeat first | exact Pull.zero | apply Pull.succ); done)) | refine Ent.drop ?_); done), ?_⟩
    simp only [Nat.zero_add, Nat.zero_mul, List.take_zero, List.nil_append]
    refine A.one 5 rfl (by kernel_rfl) ?_
    refine Do.buildSlice (n := 1) rfl rfl rfl rfl (by (repeat first | exact Bs.Parts.nil | apply Bs.Parts.one rfl rfl | apply Bs.Parts.one (Bs.cells_one (by assumption)) rfl | (apply Bs.Parts.agg; exact rfl)); done) rfl (fun g3 => ⟨fun _ => (by (repeat first | exact Ent.rfl | exact Ent.nil | refine Ent.cons ?_ | (apply Ent.pull; exact (by (repeat first | exact Pull.zero | apply Pull.succ); done)) | refine Ent.drop ?_); done), ?_⟩)
    refine A.one 6 rfl (by kernel_rfl) ?_
    refine Do.append rfl rfl rfl (.succ (.succ (.succ .zero))) (RdSl.blkN (n := 1) (c := 1) .zero rfl (by simp [maxLen])) rfl rfl (by (repeat first | exact one_nil | (apply one_cons; first | exact rfl | assumption)); done) (by simp only [maxLen]; omega) (by omega) fun ad3 c3 _ => ⟨fun _ => (by (repeat first | exact Ent.rfl | exact Ent.nil | refine Ent.cons ?_ | (apply Ent.pull; exact (by (repeat first | exact Pull.zero | apply Pull.succ); done)) | refine Ent.drop ?_); done), ?_⟩
    (all_goals (first | (refine A.one 7 rfl (by kernel_rfl) ?_; refine Do.val (Val.fieldAddr rfl) rfl ⟨(no_held (by kernel_rfl)), ?_⟩)); all_goals (refine A.one 8 rfl (by kernel_rfl) ?_; apply Do.store; exact rfl; exact rfl; exact rfl; exact (by (repeat first | exact Upd.zero | apply Upd.succ); done); exact (by (repeat first | exact SetAt.zero | apply SetAt.succ); done); refine ⟨(no_held (by kernel_rfl)), ?_⟩))
    refine A.done (by kernel_rfl) ?_
    (repeat' first | (apply O.move; exact rfl; exact rfl) | apply W.region | apply O.nil | apply Fin.next | (apply O.add64; exact rfl; exact rfl; omega; exact rfl) | apply Fin.block_normal)
    have hl1 : (out ++ [((Value.slice ad2 x.2.length c2, x.2) : Txt)]).length = out.length + 1 := by rw [List.length_append, List.length_singleton]
    refine Fin.round (q + 1, ad3, c3, out ++ [((Value.slice ad2 x.2.length c2, x.2) : Txt)]) ⟨hlt, by dsimp only; rw [List.map_append, h2, htk, List.map_append]; rfl⟩ (by dsimp only; omega) (by repeat (first | exact sub_nil | refine sub_cons rfl ?_)) ?_
    dsimp only
    rw [hl1, List.map_append]
    refine Ent.trans (show Ent _ (Blk g [.int .i64 (j : Int), .int .i64 (us.length : Int), .slice ad3 (out.length + 1) c3] tPf (0, 0) :: Own tTxts 1 (.slice ad3 (out.length + 1) c3) (out.length + 1) (out.map (·.1) ++ [Value.slice ad2 x.2.length c2]) :: OwnB (.slice ad2 x.2.length c2) x.2 :: OwnI out :: F) from (by (repeat first | exact Ent.rfl | exact Ent.nil | refine Ent.cons ?_ | (apply Ent.pull; exact (by (repeat first | exact Pull.zero | apply Pull.succ); done)) | refine Ent.drop ?_); done)) (Ent.cons (Ent.cons ?_))
    exact (ownI_one (a := (Value.slice ad2 x.2.length c2, x.2))).trans ((Ent.pull (.succ .zero) Ent.rfl).trans ownI_append)
  obtain rfl : q = ws.length := by omega
  rw [List.take_of_length_le (Nat.le_refl _)] at h2
  have ho32 : ∀ a ∈ out, a.2.length = 32 := fun a ha => by
    have : a.2 ∈ out.map (·.2) := List.mem_map.2 ⟨a, ha, rfl⟩
    rw [h2] at this
    obtain ⟨y, hy, h3⟩ := List.mem_map.1 this
    rw [← h3]; exact hw32 y hy
  clear q6 hws f1 f2 hw32
  refine W.of_sep (own_shape (.succ .zero)) ?_
  rintro ⟨⟨ad', c', hqq, hcc1, hcc2, hqo⟩, _⟩
  obtain ⟨rfl, _, rfl⟩ := Value.slice.inj hqq
  clear hqq
  simp only [maxLen] at hcc2
  have k1 : RdSl (Blk g [.int .i64 (j : Int), .int .i64 (us.length : Int), .slice ad out.length c] tPf (0, 0) :: Own tTxts 1 (.slice ad out.length c) out.length (out.map (·.1)) :: OwnI out :: F) 1 (.slice ad out.length c) out.length (out.map (·.1)) := RdSl.own (.succ .zero)
  have k2 : Txts (Blk g [.int .i64 (j : Int), .int .i64 (us.length : Int), .slice ad out.length c] tPf (0, 0) :: Own tTxts 1 (.slice ad out.length c) out.length (out.map (·.1)) :: OwnI out :: F) out := (ownI_rd.tail).tail
  (repeat' first | refine W.meet27 (id := 21) (fun s : PvS => [(19, .slice (some ⟨p, 0, none⟩) us.length cu), (20, .int .i64 (j : Int)), (21, .pointer (some ⟨g, 0, none⟩)), (5, vpath), (6, .int .i64 size), (7, .int .i64 index), (8, vl)]) (fun s => s.N) (PvOk g F) ?_ ?_ | apply W.seq | apply W.region | apply O.nil | apply Fin.next | (apply O.lss_f; exact rfl; exact rfl; omega; exact rfl) | (apply W.cond_f; exact rfl) | apply W.exit | apply Fin.then_exit | apply Fin.block_hit)
  rotate_left
  · refine ⟨?_⟩
    by_cases w1 : how = 1
    · by_cases hz : out.length = 0
      · (repeat' first | (apply O.move; exact rfl; exact rfl) | (apply O.assign; exact rfl; exact rfl) | apply W.seq | apply W.region | apply O.nil | apply Fin.next | (apply O.fieldAddr; exact rfl; exact rfl) | (apply O.load; exact rfl; (focus ((repeat first | exact Rd.blk .zero rfl | assumption | apply Rd.tail); done)); exact rfl) | (apply O.len; exact rfl; exact rfl) | (apply O.gtr_f; exact rfl; exact rfl; omega; exact rfl) | (apply O.eql_t; exact rfl; exact rfl; omega; exact rfl) | (apply W.cond_t; exact rfl) | (apply W.cond_f; exact rfl) | apply W.block | apply W.skip | apply Fin.block_normal)
        exact Fin.meet ⟨_, j, us.length, .slice ad out.length c, out⟩ ⟨RdA.whole .zero, k1, k2, (by (repeat first | exact Ent.rfl | exact Ent.nil | refine Ent.cons ?_ | (apply Ent.pull; exact (by (repeat first | exact Pull.zero | apply Pull.succ); done)) | refine Ent.drop ?_); done), by dsimp only; omega, by dsimp only; omega⟩ (by repeat (first | exact sub_nil | refine sub_cons rfl ?_)) Ent.rfl
      have hwd := within_bounds at' 0 ((out.length : Int) - 1) (by omega)
      generalize hdw : within at' 0 ((out.length : Int) - 1) = d at *
      obtain ⟨d, rfl⟩ := Int.eq_ofNat_of_zero_le hwd.1
      have hdl : d < out.length := by omega
      obtain ⟨p3, rfl⟩ : ∃ p3, ad = some ⟨p3, 0, none⟩ := by
        rcases hqo with ⟨_, _, h0⟩ | h0
        · omega
        · exact h0
      have hy32 := ho32 _ (List.getElem_mem hdl)
      have hout := List.getElem?_eq_getElem hdl
      refine W.ent1 (show Ent _ (OwnB (out[d]'hdl).1 (out[d]'hdl).2 :: OwnI (out.take d) :: OwnI (out.drop (d + 1)) :: Blk g [.int .i64 (j : Int), .int .i64 (us.length : Int), .slice (some ⟨p3, 0, none⟩) out.length c] tPf (0, 0) :: Own tTxts 1 (.slice (some ⟨p3, 0, none⟩) out.length c) out.length (out.map (·.1)) :: F) from Ent.trans (Ent.pull (.succ (.succ .zero)) Ent.rfl) (ownI_take hdl)) ?_
      generalize out[d]'hdl = y at *
      obtain ⟨yv, yt⟩ := y
      dsimp only at hy32 ⊢
      refine W.of_sep (own_shape .zero) ?_
      rintro ⟨⟨ady, cy, rfl, _, _, hqy⟩, _⟩
      obtain ⟨p2, rfl⟩ : ∃ p2, ady = some ⟨p2, 0, none⟩ := by
        rcases hqy with ⟨_, _, h0⟩ | h0
        · omega
        · exact h0
      have h3l : 3 < yt.length := by omega
      have hrd : Rd (OwnB (.slice (some ⟨p2, 0, none⟩) yt.length cy) yt :: OwnI (out.take d) :: OwnI (out.drop (d + 1)) :: Blk g [.int .i64 (j : Int), .int .i64 (us.length : Int), .slice (some ⟨p3, 0, none⟩) out.length c] tPf (0, 0) :: Own tTxts 1 (.slice (some ⟨p3, 0, none⟩) out.length c) out.length (out.map (·.1)) :: F) ⟨p3, 0 + d, none⟩ (.slice (some ⟨p2, 0, none⟩) yt.length cy) := (RdSl.own (.succ (.succ (.succ (.succ .zero))))).elem (by rw [List.getElem?_map, hout]; rfl)
      have hrb : Rd (OwnB (.slice (some ⟨p2, 0, none⟩) yt.length cy) yt :: OwnI (out.take d) :: OwnI (out.drop (d + 1)) :: Blk g [.int .i64 (j : Int), .int .i64 (us.length : Int), .slice (some ⟨p3, 0, none⟩) out.length c] tPf (0, 0) :: Own tTxts 1 (.slice (some ⟨p3, 0, none⟩) out.length c) out.length (out.map (·.1)) :: F) ⟨p2, 0 + 3, none⟩ (u8 (yt[3]'h3l)) := (RdSl.own .zero).elem (by rw [List.getElem?_map, List.getElem?_eq_getElem h3l]; rfl)
      (repeat' first | (apply O.move; exact rfl; exact rfl) | (apply O.assign; exact rfl; exact rfl) | apply W.seq | apply W.region | apply O.nil | apply Fin.next | (apply O.fieldAddr; exact rfl; exact rfl) | (apply O.load; exact rfl; (focus ((repeat first | exact Rd.blk .zero rfl | assumption | apply Rd.tail); done)); exact rfl) | (apply O.len; exact rfl; exact rfl) | (apply O.gtr_t; exact rfl; exact rfl; omega; exact rfl) | (apply O.eql_t; exact rfl; exact rfl; omega; exact rfl) | (apply W.cond_t; exact rfl) | apply W.block)
      refine A.start (id := 12) [14, 15] Try.mixed ?_
      (all_goals (refine A.take 0 _ rfl (by kernel_rfl) Ent.rfl (Val.fieldAddr rfl) rfl ?_); all_goals (first | refine A.take 1 _ rfl (by kernel_rfl) Ent.rfl (Val.load rfl (by (repeat first | exact Rd.blk .zero rfl | assumption | apply Rd.tail); done)) rfl ?_ | refine A.take 1 _ rfl (by kernel_rfl) Ent.rfl (Val.loadAggR rfl (by (repeat first | exact RdA.whole .zero | assumption | apply RdA.tail); done) (by exact rfl)) rfl ?_); all_goals (refine A.take 2 _ rfl (by kernel_rfl) Ent.rfl (Val.move rfl) rfl ?_); all_goals (refine A.take 3 _ rfl (by kernel_rfl) Ent.rfl (Val.fieldAddr rfl) rfl ?_); all_goals (first | refine A.take 4 _ rfl (by kernel_rfl) Ent.rfl (Val.load rfl (by (repeat first | exact Rd.blk .zero rfl | assumption | apply Rd.tail); done)) rfl ?_ | refine A.take 4 _ rfl (by kernel_rfl) Ent.rfl (Val.loadAggR rfl (by (repeat first | exact RdA.whole .zero | assumption | apply RdA.tail); done) (by exact rfl)) rfl ?_); all_goals (first | refine A.take 5 _ rfl (by kernel_rfl) Ent.rfl (Val.len rfl) rfl ?_ | refine A.take 5 _ rfl (by kernel_rfl) Ent.rfl (Val.lenS rfl) rfl ?_); all_goals (first | refine A.take 6 _ rfl (by kernel_rfl) Ent.rfl (Val.sub64 rfl rfl (by omega)) rfl ?_ | refine A.take 6 _ rfl (by kernel_rfl) Ent.rfl (Val.sub rfl rfl) rfl ?_); all_goals (refine A.take 12 _ rfl (by kernel_rfl) Ent.rfl (Val.move rfl) rfl ?_))
      refine A.one 7 rfl (by kernel_rfl) ?_
      refine Do.call rfl rfl (within_spec _ e at' 0 ((out.length : Int) - 1) hat (by omega)) ?_
      rintro _ _ ⟨rfl, rfl⟩
      refine ⟨fun _ => Ent.rfl, ?_⟩
      rw [hdw]
      (all_goals (first | refine A.take 8 _ rfl (by kernel_rfl) Ent.rfl (Val.indexAddrA1 rfl rfl (by omega)) rfl ?_ | refine A.take 8 _ rfl (by kernel_rfl) Ent.rfl (Val.indexAddrA rfl rfl (by omega)) rfl ?_ | refine A.take 8 _ rfl (by kernel_rfl) Ent.rfl (Val.indexAddr1 rfl rfl (by omega)) rfl ?_ | refine A.take 8 _ rfl (by kernel_rfl) Ent.rfl (Val.indexAddrN rfl rfl (by omega)) rfl ?_ | refine A.take 8 _ rfl (by kernel_rfl) Ent.rfl (Val.indexAddr rfl rfl (by omega) (by omega)) rfl ?_); all_goals (first | refine A.take 9 _ rfl (by kernel_rfl) Ent.rfl (Val.load rfl (by (repeat first | exact Rd.blk .zero rfl | assumption | apply Rd.tail); done)) rfl ?_ | refine A.take 9 _ rfl (by kernel_rfl) Ent.rfl (Val.loadAggR rfl (by (repeat first | exact RdA.whole .zero | assumption | apply RdA.tail); done) (by exact rfl)) rfl ?_); all_goals (first | refine A.take 10 _ rfl (by kernel_rfl) Ent.rfl (Val.indexAddrA1 rfl rfl (by omega)) rfl ?_ | refine A.take 10 _ rfl (by kernel_rfl) Ent.rfl (Val.indexAddrA rfl rfl (by omega)) rfl ?_ | refine A.take 10 _ rfl (by kernel_rfl) Ent.rfl (Val.indexAddr1 rfl rfl (by omega)) rfl ?_ | refine A.take 10 _ rfl (by kernel_rfl) Ent.rfl (Val.indexAddrN rfl rfl (by omega)) rfl ?_ | refine A.take 10 _ rfl (by kernel_rfl) Ent.rfl (Val.indexAddr rfl rfl (by omega) (by omega)) rfl ?_); all_goals (first | refine A.take 11 _ rfl (by kernel_rfl) Ent.rfl (Val.load rfl (by (repeat first | exact Rd.blk .zero rfl | assumption | apply Rd.tail); done)) rfl ?_ | refine A.take 11 _ rfl (by kernel_rfl) Ent.rfl (Val.loadAggR rfl (by (repeat first | exact RdA.whole .zero | assumption | apply RdA.tail); done) (by exact rfl)) rfl ?_); all_goals (first | refine A.take 13 _ rfl (by kernel_rfl) Ent.rfl (Val.xorU rfl rfl) rfl ?_ | refine A.take 13 _ rfl (by kernel_rfl) Ent.rfl (Val.bits _ (by simp) rfl rfl) rfl ?_))
      obtain ⟨b9, hb9⟩ := byte_of (n := ((yt[3]'h3l).toNat : Int)) (m := turn)
      refine A.one 14 rfl (by kernel_rfl) ?_
      refine Do.val (Val.indexAddr1 (i := 3) rfl rfl h3l) rfl ⟨(no_held (by kernel_rfl)), ?_⟩
      rw [hb9]
      refine A.one 15 rfl (by kernel_rfl) ?_
      refine Do.storeOwn rfl rfl rfl .zero (by omega) ⟨(no_held (by kernel_rfl)), ?_⟩
      refine A.done (by kernel_rfl) ?_
      rw [show (0 + 3 : Nat) = 3 from rfl, ← List.map_set]
      have hsl : (yt.set 3 b9).length = yt.length := List.length_set
      have hset : (out.set d ((Value.slice (some ⟨p2, 0, none⟩) yt.length cy, yt.set 3 b9) : Txt)).map (·.1) = out.map (·.1) := by
        rw [List.map_set]
        have hd' : d < (out.map (·.1)).length := by rw [List.length_map]; exact hdl
        have e9 : (out.map (·.1))[d]'hd' = Value.slice (some ⟨p2, 0, none⟩) yt.length cy := by
          have h9 := List.getElem?_eq_getElem hd'
          rw [List.getElem?_map, hout] at h9
          exact (Option.some.inj h9).symm
        exact (congrArg ((out.map (·.1)).set d) e9.symm).trans (List.set_getElem_self hd')
      have hsl2 : (out.set d ((Value.slice (some ⟨p2, 0, none⟩) yt.length cy, yt.set 3 b9) : Txt)).length = out.length := List.length_set
      (repeat' first | apply Fin.block_normal)
      refine Fin.meet ⟨Blk g [.int .i64 (j : Int), .int .i64 (us.length : Int), .slice (some ⟨p3, 0, none⟩) out.length c] tPf (0, 0) :: Own tTxts 1 (.slice (some ⟨p3, 0, none⟩) out.length c) out.length (out.map (·.1)) :: OwnI (out.set d ((Value.slice (some ⟨p2, 0, none⟩) yt.length cy, yt.set 3 b9) : Txt)) :: F, j, us.length, .slice (some ⟨p3, 0, none⟩) out.length c, out.set d ((Value.slice (some ⟨p2, 0, none⟩) yt.length cy, yt.set 3 b9) : Txt)⟩ ⟨RdA.whole .zero, ?_, (ownI_rd.tail).tail, (by (repeat first | exact Ent.rfl | exact Ent.nil | refine Ent.cons ?_ | (apply Ent.pull; exact (by (repeat first | exact Pull.zero | apply Pull.succ); done)) | refine Ent.drop ?_); done), by dsimp only; omega, by dsimp only; omega⟩ (by repeat (first | exact sub_nil | refine sub_cons rfl ?_)) ?_
      · dsimp only
        rw [hset, hsl2]; exact RdSl.own (.succ .zero)
      · have hown : Own tU8 1 (.slice (some ⟨p2, 0, none⟩) yt.length cy) yt.length ((yt.set 3 b9).map u8) = OwnB (.slice (some ⟨p2, 0, none⟩) yt.length cy) (yt.set 3 b9) := by unfold OwnB; rw [hsl]
        rw [hown]
        exact (ownI_put hdl).trans ((Ent.pull (.succ .zero) (Ent.pull (.succ .zero) Ent.rfl)))
    by_cases w2 : how = 2
    · (repeat' first | (apply O.move; exact rfl; exact rfl) | (apply O.assign; exact rfl; exact rfl) | apply W.seq | apply W.region | apply O.nil | apply Fin.next | (apply O.fieldAddr; exact rfl; exact rfl) | (apply O.eql_t; exact rfl; exact rfl; omega; exact rfl) | (apply O.eql_f; exact rfl; exact rfl; omega; exact rfl) | (apply O.store; exact rfl; exact rfl; (first | exact rfl | assumption); (focus ((repeat first | exact Upd.zero | apply Upd.succ); done)); (focus ((repeat first | exact SetAt.zero | apply SetAt.succ); done))) | (apply W.cond_t; exact rfl) | (apply W.cond_f; exact rfl) | apply W.block | apply Fin.block_normal)
      exact Fin.meet ⟨Blk g [.int .i64 index, .int .i64 (us.length : Int), .slice ad out.length c] tPf (0, 0) :: Own tTxts 1 (.slice ad out.length c) out.length (out.map (·.1)) :: OwnI out :: F, index, us.length, .slice ad out.length c, out⟩ ⟨RdA.whole .zero, RdSl.own (.succ .zero), (ownI_rd.tail).tail, (by (repeat first | exact Ent.rfl | exact Ent.nil | refine Ent.cons ?_ | (apply Ent.pull; exact (by (repeat first | exact Pull.zero | apply Pull.succ); done)) | refine Ent.drop ?_); done), hix, by dsimp only; omega⟩ (by repeat (first | exact sub_nil | refine sub_cons rfl ?_)) Ent.rfl
    by_cases w3 : how = 3
    · (repeat' first | (apply O.move; exact rfl; exact rfl) | (apply O.assign; exact rfl; exact rfl) | apply W.seq | apply W.region | apply O.nil | apply Fin.next | (apply O.fieldAddr; exact rfl; exact rfl) | (apply O.eql_t; exact rfl; exact rfl; omega; exact rfl) | (apply O.eql_f; exact rfl; exact rfl; omega; exact rfl) | (apply O.store; exact rfl; exact rfl; (first | exact rfl | assumption); (focus ((repeat first | exact Upd.zero | apply Upd.succ); done)); (focus ((repeat first | exact SetAt.zero | apply SetAt.succ); done))) | (apply W.cond_t; exact rfl) | (apply W.cond_f; exact rfl) | apply W.block | apply Fin.block_normal)
      exact Fin.meet ⟨Blk g [.int .i64 (j : Int), .int .i64 size, .slice ad out.length c] tPf (0, 0) :: Own tTxts 1 (.slice ad out.length c) out.length (out.map (·.1)) :: OwnI out :: F, j, size, .slice ad out.length c, out⟩ ⟨RdA.whole .zero, RdSl.own (.succ .zero), (ownI_rd.tail).tail, (by (repeat first | exact Ent.rfl | exact Ent.nil | refine Ent.cons ?_ | (apply Ent.pull; exact (by (repeat first | exact Pull.zero | apply Pull.succ); done)) | refine Ent.drop ?_); done), by dsimp only; omega, hsz⟩ (by repeat (first | exact sub_nil | refine sub_cons rfl ?_)) Ent.rfl
    by_cases w4 : how = 4
    · have hwd := within_bounds at' 0 (out.length : Int) (by omega)
      (repeat' first | (apply O.move; exact rfl; exact rfl) | (apply O.assign; exact rfl; exact rfl) | apply W.seq | apply W.region | apply O.nil | apply Fin.next | (apply O.eql_t; exact rfl; exact rfl; omega; exact rfl) | (apply O.eql_f; exact rfl; exact rfl; omega; exact rfl) | (apply W.cond_t; exact rfl) | (apply W.cond_f; exact rfl) | apply W.block)
      refine A.start (id := 18) [8, 9] Try.mixed ?_
      (all_goals (refine A.take 0 _ rfl (by kernel_rfl) Ent.rfl (Val.fieldAddr rfl) rfl ?_); all_goals (first | refine A.take 1 _ rfl (by kernel_rfl) Ent.rfl (Val.load rfl (by (repeat first | exact Rd.blk .zero rfl | assumption | apply Rd.tail); done)) rfl ?_ | refine A.take 1 _ rfl (by kernel_rfl) Ent.rfl (Val.loadAggR rfl (by (repeat first | exact RdA.whole .zero | assumption | apply RdA.tail); done) (by exact rfl)) rfl ?_); all_goals (refine A.take 2 _ rfl (by kernel_rfl) Ent.rfl (Val.move rfl) rfl ?_); all_goals (refine A.take 3 _ rfl (by kernel_rfl) Ent.rfl (Val.fieldAddr rfl) rfl ?_); all_goals (first | refine A.take 4 _ rfl (by kernel_rfl) Ent.rfl (Val.load rfl (by (repeat first | exact Rd.blk .zero rfl | assumption | apply Rd.tail); done)) rfl ?_ | refine A.take 4 _ rfl (by kernel_rfl) Ent.rfl (Val.loadAggR rfl (by (repeat first | exact RdA.whole .zero | assumption | apply RdA.tail); done) (by exact rfl)) rfl ?_); all_goals (first | refine A.take 5 _ rfl (by kernel_rfl) Ent.rfl (Val.len rfl) rfl ?_ | refine A.take 5 _ rfl (by kernel_rfl) Ent.rfl (Val.lenS rfl) rfl ?_))
      refine A.one 6 rfl (by kernel_rfl) ?_
      refine Do.call rfl rfl (within_spec _ e at' 0 (out.length : Int) hat (by omega)) ?_
      rintro _ _ ⟨rfl, rfl⟩
      refine ⟨fun _ => Ent.rfl, ?_⟩
      generalize within at' 0 (out.length : Int) = d at *
      obtain ⟨d, rfl⟩ := Int.eq_ofNat_of_zero_le hwd.1
      (all_goals (first | refine A.take 7 _ rfl (by kernel_rfl) Ent.rfl (Val.sliceHi rfl rfl (by omega) (by omega)) rfl ?_ | refine A.take 7 _ rfl (by kernel_rfl) Ent.rfl (Val.sliceLo rfl rfl (by omega) (by omega)) rfl ?_ | refine A.take 7 _ rfl (by kernel_rfl) Ent.rfl (Val.sliceLoHi rfl rfl rfl (by omega) (by omega) (by omega)) rfl ?_); all_goals (first | (refine A.one 8 rfl (by kernel_rfl) ?_; refine Do.val (Val.fieldAddr rfl) rfl ⟨(no_held (by kernel_rfl)), ?_⟩)); all_goals (refine A.one 9 rfl (by kernel_rfl) ?_; apply Do.store; exact rfl; exact rfl; exact rfl; exact (by (repeat first | exact Upd.zero | apply Upd.succ); done); exact (by (repeat first | exact SetAt.zero | apply SetAt.succ); done); refine ⟨(no_held (by kernel_rfl)), ?_⟩))
      refine A.done (by kernel_rfl) ?_
      rw [Int.toNat_natCast]
      (repeat' first | apply Fin.block_normal)
      exact Fin.meet ⟨Blk g [.int .i64 (j : Int), .int .i64 (us.length : Int), .slice ad d c] tPf (0, 0) :: Own tTxts 1 (.slice ad out.length c) out.length (out.map (·.1)) :: OwnI out :: F, j, us.length, .slice ad d c, out.take d⟩ ⟨RdA.whole .zero, take_mapT (RdSl.own (.succ .zero)) (by omega), txts_sub (ownI_rd.tail).tail fun a ha => List.mem_of_mem_take ha, (by (repeat first | exact Ent.rfl | exact Ent.nil | refine Ent.cons ?_ | (apply Ent.pull; exact (by (repeat first | exact Pull.zero | apply Pull.succ); done)) | refine Ent.drop ?_); done), by dsimp only; omega, by dsimp only; omega⟩ (by repeat (first | exact sub_nil | refine sub_cons rfl ?_)) Ent.rfl
    by_cases w5 : how = 5
    · (repeat' first | (apply O.move; exact rfl; exact rfl) | (apply O.assign; exact rfl; exact rfl) | apply W.seq | apply W.region | apply O.nil | apply Fin.next | (apply O.eql_t; exact rfl; exact rfl; omega; exact rfl) | (apply O.eql_f; exact rfl; exact rfl; omega; exact rfl) | (apply W.cond_t; exact rfl) | (apply W.cond_f; exact rfl) | apply W.block)
      refine A.begin (id := 20) [5, 6] [Blk g [.int .i64 (j : Int), .int .i64 (us.length : Int), .slice ad out.length c] tPf (0, 0)] Try.mixed ?_
      (all_goals (refine A.take 0 _ rfl (by kernel_rfl) (by (repeat first | exact Ent.rfl | exact Ent.nil | refine Ent.cons ?_ | (apply Ent.pull; exact (by (repeat first | exact Pull.zero | apply Pull.succ); done)) | refine Ent.drop ?_); done) (Val.fieldAddr rfl) rfl ?_); all_goals (first | refine A.take 1 _ rfl (by kernel_rfl) (by (repeat first | exact Ent.rfl | exact Ent.nil | refine Ent.cons ?_ | (apply Ent.pull; exact (by (repeat first | exact Pull.zero | apply Pull.succ); done)) | refine Ent.drop ?_); done) (Val.load rfl (by (repeat first | exact Rd.blk .zero rfl | assumption | apply Rd.tail); done)) rfl ?_ | refine A.take 1 _ rfl (by kernel_rfl) (by (repeat first | exact Ent.rfl | exact Ent.nil | refine Ent.cons ?_ | (apply Ent.pull; exact (by (repeat first | exact Pull.zero | apply Pull.succ); done)) | refine Ent.drop ?_); done) (Val.loadAggR rfl (by (repeat first | exact RdA.whole .zero | assumption | apply RdA.tail); done) (by exact rfl)) rfl ?_))
      refine A.one 2 rfl (by kernel_rfl) ?_
      refine Do.makeSlice (c := 32) rfl rfl rfl rfl (by simp [maxLen]) (by omega) (fun g3 => ⟨fun _ => (by (repeat first | exact Ent.rfl | exact Ent.nil | refine Ent.cons ?_ | (apply Ent.pull; exact (by (repeat first | exact Pull.zero | apply Pull.succ); done)) | refine Ent.drop ?_); done), ?_⟩)
      refine A.one 3 rfl (by kernel_rfl) ?_
      refine Do.buildSlice (n := 1) rfl rfl rfl rfl (by (repeat first | exact Bs.Parts.nil | apply Bs.Parts.one rfl rfl | apply Bs.Parts.one (Bs.cells_one (by assumption)) rfl | (apply Bs.Parts.agg; exact rfl)); done) rfl (fun g4 => ⟨fun _ => (by (repeat first | exact Ent.rfl | exact Ent.nil | refine Ent.cons ?_ | (apply Ent.pull; exact (by (repeat first | exact Pull.zero | apply Pull.succ); done)) | refine Ent.drop ?_); done), ?_⟩)
      refine A.one 4 rfl (by kernel_rfl) ?_
      refine Do.append rfl rfl rfl (.succ (.succ (.succ .zero))) (RdSl.blkN (n := 1) (c := 1) .zero rfl (by simp [maxLen])) rfl rfl (by (repeat first | exact one_nil | (apply one_cons; first | exact rfl | assumption)); done) (by simp only [maxLen]; omega) (by omega) fun ad3 c3 _ => ⟨fun _ => (by (repeat first | exact Ent.rfl | exact Ent.nil | refine Ent.cons ?_ | (apply Ent.pull; exact (by (repeat first | exact Pull.zero | apply Pull.succ); done)) | refine Ent.drop ?_); done), ?_⟩
      (all_goals (first | (refine A.one 5 rfl (by kernel_rfl) ?_; refine Do.val (Val.fieldAddr rfl) rfl ⟨(no_held (by kernel_rfl)), ?_⟩)); all_goals (refine A.one 6 rfl (by kernel_rfl) ?_; apply Do.store; exact rfl; exact rfl; exact rfl; exact (by (repeat first | exact Upd.zero | apply Upd.succ); done); exact (by (repeat first | exact SetAt.zero | apply SetAt.succ); done); refine ⟨(no_held (by kernel_rfl)), ?_⟩))
      refine A.done (by kernel_rfl) ?_
      (repeat' first | apply Fin.block_normal)
      have hl1 : (out ++ [((Value.slice (some ⟨g3, 0, none⟩) 32 32, List.replicate 32 0) : Txt)]).length = out.length + 1 := by rw [List.length_append, List.length_singleton]
      refine Fin.meet ⟨_, j, us.length, .slice ad3 (out.length + 1) c3, out ++ [((Value.slice (some ⟨g3, 0, none⟩) 32 32, List.replicate 32 0) : Txt)]⟩ ⟨RdA.whole (.succ (.succ (.succ .zero))), ?_, fun a ha => ?_, (by (repeat first | exact Ent.rfl | exact Ent.nil | refine Ent.cons ?_ | (apply Ent.pull; exact (by (repeat first | exact Pull.zero | apply Pull.succ); done)) | refine Ent.drop ?_); done), by dsimp only; omega, by dsimp only; omega⟩ (by repeat (first | exact sub_nil | refine sub_cons rfl ?_)) Ent.rfl
      · dsimp only
        rw [hl1, List.map_append]; exact RdSl.own .zero
      · rcases List.mem_append.1 ha with q | q
        · exact ((((ownI_rd a q).tail).tail).tail).tail
        · rw [List.mem_singleton.1 q]; exact RdSl.own (.succ (.succ .zero))
    (repeat' first | (apply O.move; exact rfl; exact rfl) | (apply O.assign; exact rfl; exact rfl) | apply W.seq | apply W.region | apply O.nil | apply Fin.next | (apply O.eql_f; exact rfl; exact rfl; omega; exact rfl) | (apply W.cond_f; exact rfl) | apply W.block | apply W.skip | apply Fin.block_normal)
    exact Fin.meet ⟨_, j, us.length, .slice ad out.length c, out⟩ ⟨RdA.whole .zero, k1, k2, (by (repeat first | exact Ent.rfl | exact Ent.nil | refine Ent.cons ?_ | (apply Ent.pull; exact (by (repeat first | exact Pull.zero | apply Pull.succ); done)) | refine Ent.drop ?_); done), by dsimp only; omega, by dsimp only; omega⟩ (by repeat (first | exact sub_nil | refine sub_cons rfl ?_)) Ent.rfl
  rintro ⟨N, idx, sz, vp, ts⟩ ⟨l1, l2, l3, l4, l5, l6⟩
  dsimp only at l1 l2 l3 l4 l5 l6 ⊢
  have n3 : RdSl N 1 (.slice (some ⟨p, 0, none⟩) us.length cu) us.length (us.map (·.1)) := f3.ent l4
  have n4 : Txts N us := fun a ha => (f4 a ha).ent l4
  have n5 : Rd N ⟨p, 0 + j, none⟩ (us[j]'hjl).1 := f5.ent l4
  have n6 : RdSl N 1 vpath path.length (path.map (·.1)) := f6.ent l4
  have n7 : Txts N path := fun a ha => (f7 a ha).ent l4
  have n8 : RdB N vl lf := f8.ent l4
  have n9 : RdB N (us[j]'hjl).1 (us[j]'hjl).2 := f9.ent l4
  have hx32 := h32 _ (List.getElem_mem hjl)
  generalize us[j]'hjl = x at *
  (repeat' first | (apply O.move; exact rfl; exact rfl) | apply W.seq | apply W.region)
  refine O.call rfl rfl (few_spec _ e _ path 20 40 n6 n7 (by omega) (by omega)) ?_
  rintro _ _ ⟨ad0, c0, ps, rfl, hd0, htl, rfl⟩
  have htl := htl _ n7
  (repeat' first | apply W.seq | apply O.nil | apply Fin.next | (apply O.build; exact rfl; (simp [Instr.fill, Value.cells]; rfl); exact rfl) | (apply O.alloc; exact rfl; exact rfl; intro _) | (apply O.storeAgg; exact rfl; exact rfl; exact rfl; (focus ((repeat first | exact one_nil | (apply one_cons; first | exact rfl | assumption)); done)); (focus ((repeat first | exact Upd.zero | apply Upd.succ); done)); focus ((repeat first | exact SetAts.nil | apply SetAts.cons | exact SetAt.zero | apply SetAt.succ); done)))
  rename_i g2
  obtain ⟨M, hM⟩ : ∃ M, M = Blk g2 [.int .i64 index, .int .i64 size, .slice ad0 ps.length c0] tPf (0, 0) :: Own tTxts 1 (.slice ad0 ps.length c0) ps.length (ps.map (·.1)) :: N := ⟨_, rfl⟩
  have m1 : RdA M g 0 [.int .i64 idx, .int .i64 sz, vp] := by rw [hM]; exact l1.tail.tail
  have m2 : RdSl M 1 vp ts.length (ts.map (·.1)) := by rw [hM]; exact l2.tail.tail
  have m3 : Txts M ts := by rw [hM]; exact l3.tail.tail
  have m4 : RdSl M 1 (.slice (some ⟨p, 0, none⟩) us.length cu) us.length (us.map (·.1)) := by rw [hM]; exact n3.tail.tail
  have m5 : Txts M us := by rw [hM]; exact n4.tail.tail
  have m6 : Rd M ⟨p, 0 + j, none⟩ x.1 := by rw [hM]; exact n5.tail.tail
  have m7 : RdB M x.1 x.2 := by rw [hM]; exact n9.tail.tail
  have m8 : RdB M vl lf := by rw [hM]; exact n8.tail.tail
  have m9 : RdA M g2 0 [.int .i64 index, .int .i64 size, .slice ad0 ps.length c0] := by rw [hM]; exact RdA.whole .zero
  have m10 : RdSl M 1 (.slice ad0 ps.length c0) ps.length (ps.map (·.1)) := by rw [hM]; exact RdSl.own (.succ .zero)
  have m11 : Txts M ps := by rw [hM]; exact htl.tail.tail
  have hMR : Ent M R := by rw [hM]; exact Ent.drop (Ent.drop (l4.trans hFR))
  rw [← hM]
  clear hM
  refine A.start (id := 22) [26] Try.mixed ?_
  (all_goals (first | refine A.take 0 _ rfl (by kernel_rfl) Ent.rfl (Val.load rfl (by (repeat first | exact Rd.blk .zero rfl | assumption | apply Rd.tail); done)) rfl ?_ | refine A.take 0 _ rfl (by kernel_rfl) Ent.rfl (Val.loadAggR rfl (by (repeat first | exact RdA.whole .zero | assumption | apply RdA.tail); done) (by exact rfl)) rfl ?_); all_goals (refine A.take 1 _ rfl (by kernel_rfl) Ent.rfl (Val.move rfl) rfl ?_); all_goals (refine A.take 2 _ rfl (by kernel_rfl) Ent.rfl (Val.move rfl) rfl ?_); all_goals (first | refine A.take 3 _ rfl (by kernel_rfl) Ent.rfl (Val.indexAddrA1 rfl rfl (by omega)) rfl ?_ | refine A.take 3 _ rfl (by kernel_rfl) Ent.rfl (Val.indexAddrA rfl rfl (by omega)) rfl ?_ | refine A.take 3 _ rfl (by kernel_rfl) Ent.rfl (Val.indexAddr1 rfl rfl (by omega)) rfl ?_ | refine A.take 3 _ rfl (by kernel_rfl) Ent.rfl (Val.indexAddrN rfl rfl (by omega)) rfl ?_ | refine A.take 3 _ rfl (by kernel_rfl) Ent.rfl (Val.indexAddr rfl rfl (by omega) (by omega)) rfl ?_); all_goals (first | refine A.take 4 _ rfl (by kernel_rfl) Ent.rfl (Val.load rfl (by (repeat first | exact Rd.blk .zero rfl | assumption | apply Rd.tail); done)) rfl ?_ | refine A.take 4 _ rfl (by kernel_rfl) Ent.rfl (Val.loadAggR rfl (by (repeat first | exact RdA.whole .zero | assumption | apply RdA.tail); done) (by exact rfl)) rfl ?_); all_goals (refine A.take 5 _ rfl (by kernel_rfl) Ent.rfl (Val.move rfl) rfl ?_))
  refine A.one 6 rfl (by kernel_rfl) ?_
  refine Do.call rfl rfl (refRoot_spec us.length _ e _ us rfl m4 m5 hs1 (by omega)) ?_
  rintro w1 _ ⟨A1, rfl, hw1⟩
  refine ⟨fun _ => (by (repeat first | exact Ent.rfl | exact Ent.nil | refine Ent.cons ?_ | (apply Ent.pull; exact (by (repeat first | exact Pull.zero | apply Pull.succ); done)) | refine Ent.drop ?_); done), A.regrow (by (repeat first | exact Ent.rfl | exact Ent.nil | refine Ent.cons ?_ | (apply Ent.pull; exact (by (repeat first | exact Pull.zero | apply Pull.succ); done)) | refine Ent.drop ?_); done) ?_⟩
  refine A.one 7 rfl (by kernel_rfl) ?_
  refine Do.call rfl rfl (lawLeads_spec _ e idx sz vp _ _ ts x.2 _ l5 l6 m2.tail m3.tail m7.tail hw1) ?_
  rintro _ _ ⟨rfl, rfl⟩
  refine ⟨fun _ => Ent.rfl, ?_⟩
  (all_goals (refine A.take 8 _ rfl (by kernel_rfl) Ent.rfl (Val.move rfl) rfl ?_); all_goals (first | refine A.takeG 9 _ rfl rfl (by kernel_rfl) Ent.rfl (Val.load rfl (by (repeat first | exact Rd.blk .zero rfl | assumption | apply Rd.tail); done)) rfl ?_ | refine A.takeG 9 _ rfl rfl (by kernel_rfl) Ent.rfl (Val.loadAggR rfl (by (repeat first | exact RdA.whole .zero | assumption | apply RdA.tail); done) (by exact rfl)) rfl ?_ | refine A.takeN 9 rfl rfl (by kernel_rfl) Ent.rfl rfl ?_); all_goals (first | refine A.takeG 10 _ rfl rfl (by kernel_rfl) Ent.rfl (Val.move rfl) rfl ?_ | refine A.takeN 10 rfl rfl (by kernel_rfl) Ent.rfl rfl ?_); all_goals (first | refine A.takeG 12 _ rfl rfl (by kernel_rfl) Ent.rfl (Val.move rfl) rfl ?_ | refine A.takeN 12 rfl rfl (by kernel_rfl) Ent.rfl rfl ?_))
  refine A.oneG 11 rfl rfl (by kernel_rfl) ?_
  refine Do.call rfl rfl (cut_spec _ e _ lf 40 m8.tail (by omega)) ?_
  rintro vc _ ⟨hvc, _, rfl⟩
  refine ⟨fun _ => Ent.rfl, ?_⟩
  refine A.oneG 13 rfl rfl (by kernel_rfl) ?_
  refine Do.call rfl rfl (refRoot_spec us.length _ e _ us rfl m4.tail m5.tail hs1 (by omega)) ?_
  rintro w2 _ ⟨A2, rfl, hw2⟩
  refine ⟨fun _ => (by (repeat first | exact Ent.rfl | exact Ent.nil | refine Ent.cons ?_ | (apply Ent.pull; exact (by (repeat first | exact Pull.zero | apply Pull.succ); done)) | refine Ent.drop ?_); done), A.regrow (by (repeat first | exact Ent.rfl | exact Ent.nil | refine Ent.cons ?_ | (apply Ent.pull; exact (by (repeat first | exact Pull.zero | apply Pull.succ); done)) | refine Ent.drop ?_); done) ?_⟩
  refine A.oneG 14 rfl rfl (by kernel_rfl) ?_
  refine Do.call rfl rfl (lawLeads_spec _ e idx sz vp _ _ ts (lf.take 40) _ l5 l6 m2.tail.tail m3.tail.tail (hvc _ m8.tail.tail) hw2) ?_
  rintro _ _ ⟨rfl, rfl⟩
  refine ⟨fun _ => Ent.rfl, ?_⟩
  (all_goals (first | refine A.take 15 _ rfl (by kernel_rfl) Ent.rfl (Val.pick_t rfl rfl) rfl ?_ | refine A.take 15 _ rfl (by kernel_rfl) Ent.rfl (Val.pick_f rfl rfl) rfl ?_); all_goals (refine A.take 16 _ rfl (by kernel_rfl) Ent.rfl (Val.move rfl) rfl ?_); all_goals (first | refine A.takeG 17 _ rfl rfl (by kernel_rfl) Ent.rfl (Val.load rfl (by (repeat first | exact Rd.blk .zero rfl | assumption | apply Rd.tail); done)) rfl ?_ | refine A.takeG 17 _ rfl rfl (by kernel_rfl) Ent.rfl (Val.loadAggR rfl (by (repeat first | exact RdA.whole .zero | assumption | apply RdA.tail); done) (by exact rfl)) rfl ?_ | refine A.takeN 17 rfl rfl (by kernel_rfl) Ent.rfl rfl ?_); all_goals (first | refine A.takeG 18 _ rfl rfl (by kernel_rfl) Ent.rfl (Val.move rfl) rfl ?_ | refine A.takeN 18 rfl rfl (by kernel_rfl) Ent.rfl rfl ?_); all_goals (first | refine A.takeG 20 _ rfl rfl (by kernel_rfl) Ent.rfl (Val.move rfl) rfl ?_ | refine A.takeN 20 rfl rfl (by kernel_rfl) Ent.rfl rfl ?_))
  refine A.oneG 19 rfl rfl (by kernel_rfl) ?_
  refine Do.call rfl rfl (sized_spec _ e vl lf 32 m8.tail.tail (by omega)) ?_
  rintro _ _ ⟨adx, cx, rfl, rfl⟩
  refine ⟨fun _ => (by (repeat first | exact Ent.rfl | exact Ent.nil | refine Ent.cons ?_ | (apply Ent.pull; exact (by (repeat first | exact Pull.zero | apply Pull.succ); done)) | refine Ent.drop ?_); done), A.regrow (by (repeat first | exact Ent.rfl | exact Ent.nil | refine Ent.cons ?_ | (apply Ent.pull; exact (by (repeat first | exact Pull.zero | apply Pull.succ); done)) | refine Ent.drop ?_); done) ?_⟩
  refine A.oneG 21 rfl rfl (by kernel_rfl) ?_
  refine Do.call rfl rfl (lawLeads_spec _ e index size _ _ _ ps (sizedP lf 32) lf hix hsz m10.tail.tail.tail m11.tail.tail.tail (RdSl.own .zero) m8.tail.tail.tail) ?_
  rintro _ _ ⟨rfl, rfl⟩
  refine ⟨fun _ => Ent.rfl, ?_⟩
  (all_goals (first | refine A.take 22 _ rfl (by kernel_rfl) Ent.rfl (Val.pick_t rfl rfl) rfl ?_ | refine A.take 22 _ rfl (by kernel_rfl) Ent.rfl (Val.pick_f rfl rfl) rfl ?_); all_goals (refine A.take 23 _ rfl (by kernel_rfl) Ent.rfl (Val.move rfl) rfl ?_))
  refine A.oneG 24 rfl rfl (by kernel_rfl) ?_
  refine Do.call rfl rfl (known8_spec _ e) ?_
  rintro _ _ ⟨rfl, rfl⟩
  refine ⟨fun _ => Ent.rfl, ?_⟩
  (all_goals (first | refine A.take 25 _ rfl (by kernel_rfl) Ent.rfl (Val.pick_t rfl rfl) rfl ?_ | refine A.take 25 _ rfl (by kernel_rfl) Ent.rfl (Val.pick_f rfl rfl) rfl ?_); all_goals (first | (refine A.one 26 rfl (by kernel_rfl) ?_; refine Do.val (Val.assign rfl) rfl ⟨(no_held (by kernel_rfl)), ?_⟩)))
  refine A.done (by kernel_rfl) ?_
  (repeat' first | apply Fin.next | apply W.ret)
  exact Fin.ret R rfl (Ent.trans (show Ent _ M from (by (repeat first | exact Ent.rfl | exact Ent.nil | refine Ent.cons ?_ | (apply Ent.pull; exact (by (repeat first | exact Pull.zero | apply Pull.succ); done)) | refine Ent.drop ?_); done)) hMR) ⟨rfl, rfl⟩
end Go.Proofs
