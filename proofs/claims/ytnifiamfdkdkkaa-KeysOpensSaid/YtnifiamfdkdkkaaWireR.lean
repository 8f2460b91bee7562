/- wire's reader: what each of its methods comes to. -/
import Derived.Test.YtnifiamfdkdkkaaWireW
namespace Go.Proofs
set_option linter.unusedVariables false
open Go.Bs
set_option linter.unusedSimpArgs false
attribute [local irreducible] Bs.Val Bs.Do Bs.O Bs.W Bs.Fin Bs.A Bs.Ct Bs.RdSl Bs.Rd Bs.Sat Bs.Blk Bs.Ob Bs.Own Bs.View Bs.Ent Bs.Ex Bs.All Bs.Pu Bs.Base Bs.sepL Bs.RdA

def ReaderAt (g : Nat) (s : RSt) (ad : Option Addr) (c : Nat) : Res := All [Blk g [.slice ad s.left.length c, .bool s.bad] 74 (0, 0), View 1 (.slice ad s.left.length c) s.left.length (s.left.map u8)]
/-- A reader at block 'g'. -/
def Reader (g : Nat) (s : RSt) : Res := Ex fun ad => Ex fun c => ReaderAt g s ad c
theorem reader_out {g : Nat} {s : RSt} {R : List Res} {P : Program} {f : FuncId} {args : Array Value} {e : World} {Post : Value → List Res → Prop}
    (h : ∀ ad c, Ct P f args e (Blk g [.slice ad s.left.length c, .bool s.bad] 74 (0, 0) :: View 1 (.slice ad s.left.length c) s.left.length (s.left.map u8) :: R) Post) : Ct P f args e (Reader g s :: R) Post :=
  Ct.ex .zero fun ad => Ct.ex .zero fun c => (h ad c).ent all_out
theorem reader_in {g c : Nat} {ad : Option Addr} {s : RSt} {R : List Res} : Ent (Blk g [.slice ad s.left.length c, .bool s.bad] 74 (0, 0) :: View 1 (.slice ad s.left.length c) s.left.length (s.left.map u8) :: R) (Reader g s :: R) :=
  Ent.trans (all_in (M := [_, _])) (Ent.trans (ex_in (f := fun c => ReaderAt g s ad c) c) (ex_in (f := fun ad => Ex fun c => ReaderAt g s ad c) ad))
theorem view_nil {n : Nat} {L : List Res} : Ent L (View n (.slice none 0 0) 0 [] :: L) := (own_nil 0 n).trans own_view

theorem read_spec (R : List Res) (e : World) (v : Value) (l : List UInt8) (h : RdB R v l) (hk : l.length ≤ 140737488355328) :
    Ct Try.prog 31 #[v] e R (fun v' L' => ∃ g, v' = .pointer (some ⟨g, 0, none⟩) ∧ L' = Reader g ⟨l, false⟩ :: R) := by
  refine Ct.enter (args := [_]) Try.func31 rfl Try.ntmps31 Try.results31 rfl ?_
  (repeat' first | (apply O.move; exact rfl; exact rfl) | (apply O.assign; exact rfl; exact rfl) | apply W.seq | apply W.region | apply O.nil | apply Fin.next | (apply O.build; exact rfl; (simp [Instr.fill, Value.cells]; rfl); exact rfl) | (apply O.box; exact rfl; exact rfl; exact rfl; intro _) | apply W.ret | apply Fin.then_ret)
  refine O.call rfl rfl (clone_spec R e v l h hk) ?_
  rintro _ _ ⟨ad, c, rfl, rfl⟩
  (repeat' first | (apply O.move; exact rfl; exact rfl) | (apply O.assign; exact rfl; exact rfl) | apply W.seq | apply W.region | apply O.nil | apply Fin.next | (apply O.build; exact rfl; (simp [Instr.fill, Value.cells]; rfl); exact rfl) | (apply O.box; exact rfl; exact rfl; exact rfl; intro _) | apply W.ret | apply Fin.then_ret)
  exact Fin.ret _ rfl ((Ent.cons own_view).trans (reader_in (s := ⟨l, false⟩))) ⟨_, rfl, rfl⟩
/-- What 'take' leaves: the reader, and (not yet let go) the bytes that it told. -/
theorem take_yes (R : List Res) (e : World) (g : Nat) (s : RSt) (n : Int) (hf : s.fits n = true) :
    Ct Try.prog 41 #[.pointer (some ⟨g, 0, none⟩), .int .i64 n] e (Reader g s :: R) (fun v' L' => ∃ ad c, v' = .slice ad n.toNat c ∧
      L' = Blk g [.slice (cutAt ad c n.toNat 1) (s.left.length - n.toNat) (c - n.toNat), .bool false] 74 (0, 0) :: View 1 (.slice ad s.left.length c) s.left.length (s.left.map u8) :: R) := by
  obtain ⟨l, bad⟩ := s
  simp only [RSt.fits, Bool.and_eq_true, Bool.not_eq_true', decide_eq_true_eq] at hf
  obtain ⟨⟨rfl, h0⟩, h1⟩ := hf
  refine reader_out fun ad c => ?_
  refine Ct.of_sep (RdSl.shape (RdSl.view (.succ .zero)) (by omega)) ?_
  rintro ⟨⟨ad', c', hv, h3, h4, h5, h6⟩, _⟩
  cases hv
  dsimp only at h1 h3 ⊢
  refine Ct.enter (args := [_, _]) Try.func41 rfl Try.ntmps41 Try.results41 rfl ?_
  (repeat' first | (apply O.move; exact rfl; exact rfl) | (apply O.assign; exact rfl; exact rfl) | apply W.seq | apply W.region | apply O.nil | apply Fin.next | (apply O.nilCheck; exact rfl; exact rfl) | (apply O.fieldAddr; exact rfl; exact rfl) | (apply O.load; exact rfl; (focus ((repeat first | exact Rd.blk .zero rfl | assumption | apply Rd.tail); done)); exact rfl) | (apply O.loadAggR; exact rfl; (focus ((repeat first | exact RdA.whole .zero | assumption | apply RdA.tail); done)); exact rfl; exact rfl) | (apply O.len; exact rfl; exact rfl) | (apply O.pick_t; exact rfl; exact rfl; exact rfl) | (apply O.pick_f; exact rfl; exact rfl; exact rfl) | (apply O.want; exact rfl) | (apply O.unwant; exact rfl; exact rfl) | (apply O.unwant0; exact rfl) | (apply O.lss_t; exact rfl; exact rfl; omega; exact rfl) | (apply O.lss_f; exact rfl; exact rfl; omega; exact rfl) | (apply O.lss_d; exact rfl; exact rfl; exact rfl; all_goals intro _) | (apply O.gtr_t; exact rfl; exact rfl; omega; exact rfl) | (apply O.gtr_f; exact rfl; exact rfl; omega; exact rfl) | (apply O.gtr_d; exact rfl; exact rfl; exact rfl; all_goals intro _) | (apply O.store; exact rfl; exact rfl; (first | exact rfl | assumption); (focus ((repeat first | exact Upd.zero | apply Upd.succ); done)); (focus ((repeat first | exact SetAt.zero | apply SetAt.succ); done))) | (apply O.lssStr_t; exact rfl; exact rfl; assumption; exact rfl) | (apply O.lssStr_f; exact rfl; exact rfl; assumption; exact rfl) | (apply O.lssStr; exact rfl; exact rfl; exact rfl) | (apply O.lenS; exact rfl; exact rfl) | (apply O.sliceHi; exact rfl; exact rfl; omega; omega; exact rfl) | (apply O.sliceLo; exact rfl; exact rfl; omega; omega; exact rfl) | (apply O.sliceLoHi; exact rfl; exact rfl; exact rfl; omega; omega; omega; exact rfl) | (apply W.cond_t; exact rfl) | (apply W.cond_f; exact rfl) | apply W.skip | apply W.ret | apply Fin.then_ret | (apply O.storeOwn; exact rfl; exact rfl; (first | exact rfl | assumption); (focus ((repeat first | exact Pull.zero | apply Pull.succ); done)); omega) | (apply O.storeAgg; exact rfl; exact rfl; exact rfl; (focus ((repeat first | exact one_nil | (apply one_cons; first | exact rfl | assumption)); done)); (focus ((repeat first | exact Upd.zero | apply Upd.succ); done)); focus ((repeat first | exact SetAts.nil | apply SetAts.cons | exact SetAt.zero | apply SetAt.succ); done)))
  exact Fin.ret _ rfl Ent.rfl ⟨_, _, rfl, rfl⟩
theorem take_no (R : List Res) (e : World) (g : Nat) (s : RSt) (n : Int) (hf : s.fits n = false) :
    Ct Try.prog 41 #[.pointer (some ⟨g, 0, none⟩), .int .i64 n] e (Reader g s :: R) (fun v' L' => v' = .slice none 0 0 ∧ L' = Reader g ⟨[], true⟩ :: R) := by
  obtain ⟨l, bad⟩ := s
  refine reader_out fun ad c => ?_
  dsimp only
  refine Ct.enter (args := [_, _]) Try.func41 rfl Try.ntmps41 Try.results41 rfl ?_
  cases bad with
  | true =>
    (repeat' first | (apply O.move; exact rfl; exact rfl) | (apply O.assign; exact rfl; exact rfl) | apply W.seq | apply W.region | apply O.nil | apply Fin.next | (apply O.nilCheck; exact rfl; exact rfl) | (apply O.fieldAddr; exact rfl; exact rfl) | (apply O.load; exact rfl; (focus ((repeat first | exact Rd.blk .zero rfl | assumption | apply Rd.tail); done)); exact rfl) | (apply O.loadAggR; exact rfl; (focus ((repeat first | exact RdA.whole .zero | assumption | apply RdA.tail); done)); exact rfl; exact rfl) | (apply O.len; exact rfl; exact rfl) | (apply O.pick_t; exact rfl; exact rfl; exact rfl) | (apply O.pick_f; exact rfl; exact rfl; exact rfl) | (apply O.want; exact rfl) | (apply O.unwant; exact rfl; exact rfl) | (apply O.unwant0; exact rfl) | (apply O.lss_t; exact rfl; exact rfl; omega; exact rfl) | (apply O.lss_f; exact rfl; exact rfl; omega; exact rfl) | (apply O.lss_d; exact rfl; exact rfl; exact rfl; all_goals intro _) | (apply O.gtr_t; exact rfl; exact rfl; omega; exact rfl) | (apply O.gtr_f; exact rfl; exact rfl; omega; exact rfl) | (apply O.gtr_d; exact rfl; exact rfl; exact rfl; all_goals intro _) | (apply O.store; exact rfl; exact rfl; (first | exact rfl | assumption); (focus ((repeat first | exact Upd.zero | apply Upd.succ); done)); (focus ((repeat first | exact SetAt.zero | apply SetAt.succ); done))) | (apply O.lssStr_t; exact rfl; exact rfl; assumption; exact rfl) | (apply O.lssStr_f; exact rfl; exact rfl; assumption; exact rfl) | (apply O.lssStr; exact rfl; exact rfl; exact rfl) | (apply O.lenS; exact rfl; exact rfl) | (apply O.sliceHi; exact rfl; exact rfl; omega; omega; exact rfl) | (apply O.sliceLo; exact rfl; exact rfl; omega; omega; exact rfl) | (apply O.sliceLoHi; exact rfl; exact rfl; exact rfl; omega; omega; omega; exact rfl) | (apply W.cond_t; exact rfl) | (apply W.cond_f; exact rfl) | apply W.skip | apply W.ret | apply Fin.then_ret | (apply O.storeOwn; exact rfl; exact rfl; (first | exact rfl | assumption); (focus ((repeat first | exact Pull.zero | apply Pull.succ); done)); omega) | (apply O.storeAgg; exact rfl; exact rfl; exact rfl; (focus ((repeat first | exact one_nil | (apply one_cons; first | exact rfl | assumption)); done)); (focus ((repeat first | exact Upd.zero | apply Upd.succ); done)); focus ((repeat first | exact SetAts.nil | apply SetAts.cons | exact SetAt.zero | apply SetAt.succ); done)))
    exact Fin.ret _ rfl ((Ent.cons (Ent.drop view_nil)).trans (reader_in (s := ⟨[], true⟩))) ⟨rfl, rfl⟩
  | false =>
    simp only [RSt.fits, Bool.not_false, Bool.true_and, Bool.and_eq_false_iff, decide_eq_false_iff_not] at hf
    by_cases h0 : n < 0
    · (repeat' first | (apply O.move; exact rfl; exact rfl) | (apply O.assign; exact rfl; exact rfl) | apply W.seq | apply W.region | apply O.nil | apply Fin.next | (apply O.nilCheck; exact rfl; exact rfl) | (apply O.fieldAddr; exact rfl; exact rfl) | (apply O.load; exact rfl; (focus ((repeat first | exact Rd.blk .zero rfl | assumption | apply Rd.tail); done)); exact rfl) | (apply O.loadAggR; exact rfl; (focus ((repeat first | exact RdA.whole .zero | assumption | apply RdA.tail); done)); exact rfl; exact rfl) | (apply O.len; exact rfl; exact rfl) | (apply O.pick_t; exact rfl; exact rfl; exact rfl) | (apply O.pick_f; exact rfl; exact rfl; exact rfl) | (apply O.want; exact rfl) | (apply O.unwant; exact rfl; exact rfl) | (apply O.unwant0; exact rfl) | (apply O.lss_t; exact rfl; exact rfl; omega; exact rfl) | (apply O.lss_f; exact rfl; exact rfl; omega; exact rfl) | (apply O.lss_d; exact rfl; exact rfl; exact rfl; all_goals intro _) | (apply O.gtr_t; exact rfl; exact rfl; omega; exact rfl) | (apply O.gtr_f; exact rfl; exact rfl; omega; exact rfl) | (apply O.gtr_d; exact rfl; exact rfl; exact rfl; all_goals intro _) | (apply O.store; exact rfl; exact rfl; (first | exact rfl | assumption); (focus ((repeat first | exact Upd.zero | apply Upd.succ); done)); (focus ((repeat first | exact SetAt.zero | apply SetAt.succ); done))) | (apply O.lssStr_t; exact rfl; exact rfl; assumption; exact rfl) | (apply O.lssStr_f; exact rfl; exact rfl; assumption; exact rfl) | (apply O.lssStr; exact rfl; exact rfl; exact rfl) | (apply O.lenS; exact rfl; exact rfl) | (apply O.sliceHi; exact rfl; exact rfl; omega; omega; exact rfl) | (apply O.sliceLo; exact rfl; exact rfl; omega; omega; exact rfl) | (apply O.sliceLoHi; exact rfl; exact rfl; exact rfl; omega; omega; omega; exact rfl) | (apply W.cond_t; exact rfl) | (apply W.cond_f; exact rfl) | apply W.skip | apply W.ret | apply Fin.then_ret | (apply O.storeOwn; exact rfl; exact rfl; (first | exact rfl | assumption); (focus ((repeat first | exact Pull.zero | apply Pull.succ); done)); omega) | (apply O.storeAgg; exact rfl; exact rfl; exact rfl; (focus ((repeat first | exact one_nil | (apply one_cons; first | exact rfl | assumption)); done)); (focus ((repeat first | exact Upd.zero | apply Upd.succ); done)); focus ((repeat first | exact SetAts.nil | apply SetAts.cons | exact SetAt.zero | apply SetAt.succ); done)))
      exact Fin.ret _ rfl ((Ent.cons (Ent.drop view_nil)).trans (reader_in (s := ⟨[], true⟩))) ⟨rfl, rfl⟩
    · (repeat' first | (apply O.move; exact rfl; exact rfl) | (apply O.assign; exact rfl; exact rfl) | apply W.seq | apply W.region | apply O.nil | apply Fin.next | (apply O.nilCheck; exact rfl; exact rfl) | (apply O.fieldAddr; exact rfl; exact rfl) | (apply O.load; exact rfl; (focus ((repeat first | exact Rd.blk .zero rfl | assumption | apply Rd.tail); done)); exact rfl) | (apply O.loadAggR; exact rfl; (focus ((repeat first | exact RdA.whole .zero | assumption | apply RdA.tail); done)); exact rfl; exact rfl) | (apply O.len; exact rfl; exact rfl) | (apply O.pick_t; exact rfl; exact rfl; exact rfl) | (apply O.pick_f; exact rfl; exact rfl; exact rfl) | (apply O.want; exact rfl) | (apply O.unwant; exact rfl; exact rfl) | (apply O.unwant0; exact rfl) | (apply O.lss_t; exact rfl; exact rfl; omega; exact rfl) | (apply O.lss_f; exact rfl; exact rfl; omega; exact rfl) | (apply O.lss_d; exact rfl; exact rfl; exact rfl; all_goals intro _) | (apply O.gtr_t; exact rfl; exact rfl; omega; exact rfl) | (apply O.gtr_f; exact rfl; exact rfl; omega; exact rfl) | (apply O.gtr_d; exact rfl; exact rfl; exact rfl; all_goals intro _) | (apply O.store; exact rfl; exact rfl; (first | exact rfl | assumption); (focus ((repeat first | exact Upd.zero | apply Upd.succ); done)); (focus ((repeat first | exact SetAt.zero | apply SetAt.succ); done))) | (apply O.lssStr_t; exact rfl; exact rfl; assumption; exact rfl) | (apply O.lssStr_f; exact rfl; exact rfl; assumption; exact rfl) | (apply O.lssStr; exact rfl; exact rfl; exact rfl) | (apply O.lenS; exact rfl; exact rfl) | (apply O.sliceHi; exact rfl; exact rfl; omega; omega; exact rfl) | (apply O.sliceLo; exact rfl; exact rfl; omega; omega; exact rfl) | (apply O.sliceLoHi; exact rfl; exact rfl; exact rfl; omega; omega; omega; exact rfl) | (apply W.cond_t; exact rfl) | (apply W.cond_f; exact rfl) | apply W.skip | apply W.ret | apply Fin.then_ret | (apply O.storeOwn; exact rfl; exact rfl; (first | exact rfl | assumption); (focus ((repeat first | exact Pull.zero | apply Pull.succ); done)); omega) | (apply O.storeAgg; exact rfl; exact rfl; exact rfl; (focus ((repeat first | exact one_nil | (apply one_cons; first | exact rfl | assumption)); done)); (focus ((repeat first | exact Upd.zero | apply Upd.succ); done)); focus ((repeat first | exact SetAts.nil | apply SetAts.cons | exact SetAt.zero | apply SetAt.succ); done)))
      exact Fin.ret _ rfl ((Ent.cons (Ent.drop view_nil)).trans (reader_in (s := ⟨[], true⟩))) ⟨rfl, rfl⟩
theorem view_next {g c : Nat} {ad : Option Addr} {l : List UInt8} {k : Nat} {R : List Res} (h : k ≤ l.length) :
    Ent (Blk g [.slice (cutAt ad c k 1) (l.length - k) (c - k), .bool false] 74 (0, 0) :: View 1 (.slice ad l.length c) l.length (l.map u8) :: R) (Reader g ⟨l.drop k, false⟩ :: R) := by
  refine (Ent.cons (view_cutLo h)).trans ?_
  have e1 : (l.drop k).length = l.length - k := by simp
  have e2 : (l.map u8).drop (k * 1) = (l.drop k).map u8 := by simp
  rw [e2, ← e1]
  exact reader_in (s := ⟨l.drop k, false⟩)
theorem or_byte (m c : Nat) (hc : c < 256) : Go.bits .or .u32 (IntKind.u32.wrap ((m : Int) * 2 ^ (min (8 : Int).toNat 32))) (IntKind.u32.wrap (c : Int)) = (((m * 256) % 4294967296 + c : Nat) : Int) := by
  rw [wrap_u32 (n := (c : Int)) (by omega) (by omega)]
  have e0 : IntKind.u32.wrap ((m : Int) * 2 ^ (min (8 : Int).toNat 32)) = (((m * 256) % 4294967296 : Nat) : Int) := by
    have : (2 : Int) ^ (min (8 : Int).toNat 32) = 256 := by decide
    rw [this]
    unfold IntKind.wrap
    simp [IntKind.bits, IntKind.signed]
  rw [e0]
  have e1 : m * 256 % 4294967296 = 2 ^ 8 * (m % 16777216) := by omega
  unfold Go.bits
  simp only [IntKind.bits]
  have e2 : (BitVec.ofInt 32 ((m * 256 % 4294967296 : Nat) : Int) ||| BitVec.ofInt 32 (c : Int)).toNat = m * 256 % 4294967296 + c := by
    rw [BitVec.toNat_or, BitVec.ofInt_natCast, BitVec.ofInt_natCast, BitVec.toNat_ofNat, BitVec.toNat_ofNat]
    rw [Nat.mod_eq_of_lt (show m * 256 % 4294967296 < 2 ^ 32 by omega), Nat.mod_eq_of_lt (show c < 2 ^ 32 by omega), e1]
    exact (Nat.two_pow_add_eq_or_of_lt (by omega) _).symm
  exact (congrArg (fun x : Nat => IntKind.u32.wrap (x : Int)) e2).trans (wrap_u32 (by omega) (by omega))

theorem rnumber_spec (R : List Res) (e : World) (g : Nat) (s : RSt) (n : Nat) :
    Ct Try.prog 47 #[.pointer (some ⟨g, 0, none⟩), .int .i64 n] e (Reader g s :: R) (fun v' L' => v' = .int .u32 (s.num n) ∧ L' = Reader g (s.next n) :: R) := by
  refine Ct.enter (args := [_, _]) Try.func47 rfl Try.ntmps47 Try.results47 rfl ?_
  (repeat' first | (apply O.move; exact rfl; exact rfl) | (apply O.assign; exact rfl; exact rfl) | apply W.seq | apply W.region | apply O.nil | apply Fin.next | (apply O.load; exact rfl; (focus ((repeat first | exact Rd.blk .zero rfl | assumption | apply Rd.tail); done)); exact rfl) | (apply O.loadAggR; exact rfl; (focus ((repeat first | exact RdA.whole .zero | assumption | apply RdA.tail); done)); exact rfl; exact rfl) | (apply O.len; exact rfl; exact rfl) | (apply O.lss_t; exact rfl; exact rfl; omega; exact rfl) | (apply O.lss_f; exact rfl; exact rfl; omega; exact rfl) | (apply O.lss_d; exact rfl; exact rfl; exact rfl; all_goals intro _) | (apply O.add64; exact rfl; exact rfl; omega; exact rfl) | (apply O.add; exact rfl; exact rfl; exact rfl) | (apply O.convIntE; exact rfl; (first | exact wrap_i64 (by omega) (by omega) | exact wrap_u32 (by omega) (by omega) | exact wrap_u8 (by omega) (by omega)); exact rfl) | (apply O.convInt; exact rfl; exact rfl) | (apply O.shl; exact rfl; exact rfl; omega; exact rfl) | (apply O.or; exact rfl; exact rfl; exact rfl) | (apply O.bytes; exact rfl; (focus ((repeat first | exact RdSl.own .zero | exact RdSl.view .zero | assumption | apply RdB.tail); done)); exact rfl) | (apply O.convSl; exact rfl; (focus ((repeat first | exact Upd.zero | apply Upd.succ); done)); exact rfl) | (apply O.lssStr_t; exact rfl; exact rfl; assumption; exact rfl) | (apply O.lssStr_f; exact rfl; exact rfl; assumption; exact rfl) | (apply O.lssStr; exact rfl; exact rfl; exact rfl) | (apply O.lenS; exact rfl; exact rfl) | (apply O.indexAddr1; exact rfl; exact rfl; omega; exact rfl) | (apply O.indexAddrN; exact rfl; exact rfl; omega; exact rfl) | (apply O.indexAddr; exact rfl; exact rfl; omega; omega; exact rfl) | (apply W.cond_t; exact rfl) | (apply W.cond_f; exact rfl) | apply W.block | apply W.skip | apply W.exit | apply W.ret | apply Fin.then_ret | apply Fin.then_exit | apply Fin.block_normal | apply Fin.block_ret | apply Fin.block_hit | (apply Fin.block_miss; exact rfl) | (apply O.addStr; exact rfl; exact rfl; omega; exact rfl))
  cases hf : s.fits n with
  | false =>
    refine O.call rfl rfl (take_no R e g s n hf) ?_
    rintro _ _ ⟨rfl, rfl⟩
    (repeat' first | (apply O.move; exact rfl; exact rfl) | (apply O.assign; exact rfl; exact rfl) | apply W.seq | apply W.region | apply O.nil | apply Fin.next | (apply O.load; exact rfl; (focus ((repeat first | exact Rd.blk .zero rfl | assumption | apply Rd.tail); done)); exact rfl) | (apply O.loadAggR; exact rfl; (focus ((repeat first | exact RdA.whole .zero | assumption | apply RdA.tail); done)); exact rfl; exact rfl) | (apply O.len; exact rfl; exact rfl) | (apply O.lss_t; exact rfl; exact rfl; omega; exact rfl) | (apply O.lss_f; exact rfl; exact rfl; omega; exact rfl) | (apply O.lss_d; exact rfl; exact rfl; exact rfl; all_goals intro _) | (apply O.add64; exact rfl; exact rfl; omega; exact rfl) | (apply O.add; exact rfl; exact rfl; exact rfl) | (apply O.convIntE; exact rfl; (first | exact wrap_i64 (by omega) (by omega) | exact wrap_u32 (by omega) (by omega) | exact wrap_u8 (by omega) (by omega)); exact rfl) | (apply O.convInt; exact rfl; exact rfl) | (apply O.shl; exact rfl; exact rfl; omega; exact rfl) | (apply O.or; exact rfl; exact rfl; exact rfl) | (apply O.bytes; exact rfl; (focus ((repeat first | exact RdSl.own .zero | exact RdSl.view .zero | assumption | apply RdB.tail); done)); exact rfl) | (apply O.convSl; exact rfl; (focus ((repeat first | exact Upd.zero | apply Upd.succ); done)); exact rfl) | (apply O.lssStr_t; exact rfl; exact rfl; assumption; exact rfl) | (apply O.lssStr_f; exact rfl; exact rfl; assumption; exact rfl) | (apply O.lssStr; exact rfl; exact rfl; exact rfl) | (apply O.lenS; exact rfl; exact rfl) | (apply O.indexAddr1; exact rfl; exact rfl; omega; exact rfl) | (apply O.indexAddrN; exact rfl; exact rfl; omega; exact rfl) | (apply O.indexAddr; exact rfl; exact rfl; omega; omega; exact rfl) | (apply W.cond_t; exact rfl) | (apply W.cond_f; exact rfl) | apply W.block | apply W.skip | apply W.exit | apply W.ret | apply Fin.then_ret | apply Fin.then_exit | apply Fin.block_normal | apply Fin.block_ret | apply Fin.block_hit | (apply Fin.block_miss; exact rfl) | (apply O.addStr; exact rfl; exact rfl; omega; exact rfl))
    refine W.loop (ι := Unit) (fun _ => [(5, .int .u32 0), (11, .int .i64 0), (12, .int .i64 0)]) (fun _ => Reader g ⟨[], true⟩ :: R) (fun _ => True) (fun _ => 0) () trivial (sub_cons rfl (sub_cons rfl (sub_cons rfl sub_nil))) Ent.rfl ?_
    intro _ _
    (repeat' first | (apply O.move; exact rfl; exact rfl) | (apply O.assign; exact rfl; exact rfl) | apply W.seq | apply W.region | apply O.nil | apply Fin.next | (apply O.load; exact rfl; (focus ((repeat first | exact Rd.blk .zero rfl | assumption | apply Rd.tail); done)); exact rfl) | (apply O.loadAggR; exact rfl; (focus ((repeat first | exact RdA.whole .zero | assumption | apply RdA.tail); done)); exact rfl; exact rfl) | (apply O.len; exact rfl; exact rfl) | (apply O.lss_t; exact rfl; exact rfl; omega; exact rfl) | (apply O.lss_f; exact rfl; exact rfl; omega; exact rfl) | (apply O.lss_d; exact rfl; exact rfl; exact rfl; all_goals intro _) | (apply O.add64; exact rfl; exact rfl; omega; exact rfl) | (apply O.add; exact rfl; exact rfl; exact rfl) | (apply O.convIntE; exact rfl; (first | exact wrap_i64 (by omega) (by omega) | exact wrap_u32 (by omega) (by omega) | exact wrap_u8 (by omega) (by omega)); exact rfl) | (apply O.convInt; exact rfl; exact rfl) | (apply O.shl; exact rfl; exact rfl; omega; exact rfl) | (apply O.or; exact rfl; exact rfl; exact rfl) | (apply O.bytes; exact rfl; (focus ((repeat first | exact RdSl.own .zero | exact RdSl.view .zero | assumption | apply RdB.tail); done)); exact rfl) | (apply O.convSl; exact rfl; (focus ((repeat first | exact Upd.zero | apply Upd.succ); done)); exact rfl) | (apply O.lssStr_t; exact rfl; exact rfl; assumption; exact rfl) | (apply O.lssStr_f; exact rfl; exact rfl; assumption; exact rfl) | (apply O.lssStr; exact rfl; exact rfl; exact rfl) | (apply O.lenS; exact rfl; exact rfl) | (apply O.indexAddr1; exact rfl; exact rfl; omega; exact rfl) | (apply O.indexAddrN; exact rfl; exact rfl; omega; exact rfl) | (apply O.indexAddr; exact rfl; exact rfl; omega; omega; exact rfl) | (apply W.cond_t; exact rfl) | (apply W.cond_f; exact rfl) | apply W.block | apply W.skip | apply W.exit | apply W.ret | apply Fin.then_ret | apply Fin.then_exit | apply Fin.block_normal | apply Fin.block_ret | apply Fin.block_hit | (apply Fin.block_miss; exact rfl) | (apply O.addStr; exact rfl; exact rfl; omega; exact rfl))
    refine Fin.ret _ rfl Ent.rfl ⟨?_, ?_⟩
    · simp [tup, RSt.num, RSt.take, hf, numOf]
    · simp [RSt.next, hf]
  | true =>
    refine O.call rfl rfl (take_yes R e g s n hf) ?_
    rintro _ _ ⟨ad, c, rfl, rfl⟩
    have hn : n ≤ s.left.length := by
      simp only [RSt.fits, Bool.and_eq_true, decide_eq_true_eq] at hf
      omega
    obtain ⟨l, bad⟩ := s
    dsimp only at hn
    simp only [Int.toNat_natCast]
    generalize hB : View 1 (.slice ad l.length c) l.length (l.map u8) = B
    have hrd : ∀ A, RdB (A :: B :: R) (.slice ad n c) (l.take n) := fun A => by
      subst hB
      exact RdB.cutHi (RdSl.view (.succ .zero)) hn
    have hlen : (l.take n).length = n := by simp; omega
    (repeat' first | (apply O.move; exact rfl; exact rfl) | (apply O.assign; exact rfl; exact rfl) | apply W.seq | apply W.region | apply O.nil | apply Fin.next | (apply O.load; exact rfl; (focus ((repeat first | exact Rd.blk .zero rfl | assumption | apply Rd.tail); done)); exact rfl) | (apply O.loadAggR; exact rfl; (focus ((repeat first | exact RdA.whole .zero | assumption | apply RdA.tail); done)); exact rfl; exact rfl) | (apply O.len; exact rfl; exact rfl) | (apply O.lss_t; exact rfl; exact rfl; omega; exact rfl) | (apply O.lss_f; exact rfl; exact rfl; omega; exact rfl) | (apply O.lss_d; exact rfl; exact rfl; exact rfl; all_goals intro _) | (apply O.add64; exact rfl; exact rfl; omega; exact rfl) | (apply O.add; exact rfl; exact rfl; exact rfl) | (apply O.convIntE; exact rfl; (first | exact wrap_i64 (by omega) (by omega) | exact wrap_u32 (by omega) (by omega) | exact wrap_u8 (by omega) (by omega)); exact rfl) | (apply O.convInt; exact rfl; exact rfl) | (apply O.shl; exact rfl; exact rfl; omega; exact rfl) | (apply O.or; exact rfl; exact rfl; exact rfl) | (apply O.bytes; exact rfl; (focus ((repeat first | exact RdSl.own .zero | exact RdSl.view .zero | assumption | apply RdB.tail); done)); exact rfl) | (apply O.convSl; exact rfl; (focus ((repeat first | exact Upd.zero | apply Upd.succ); done)); exact rfl) | (apply O.lssStr_t; exact rfl; exact rfl; assumption; exact rfl) | (apply O.lssStr_f; exact rfl; exact rfl; assumption; exact rfl) | (apply O.lssStr; exact rfl; exact rfl; exact rfl) | (apply O.lenS; exact rfl; exact rfl) | (apply O.indexAddr1; exact rfl; exact rfl; omega; exact rfl) | (apply O.indexAddrN; exact rfl; exact rfl; omega; exact rfl) | (apply O.indexAddr; exact rfl; exact rfl; omega; omega; exact rfl) | (apply W.cond_t; exact rfl) | (apply W.cond_f; exact rfl) | apply W.block | apply W.skip | apply W.exit | apply W.ret | apply Fin.then_ret | apply Fin.then_exit | apply Fin.block_normal | apply Fin.block_ret | apply Fin.block_hit | (apply Fin.block_miss; exact rfl) | (apply O.addStr; exact rfl; exact rfl; omega; exact rfl))
    refine W.of_sep (RdSl.shape (hrd _) (by omega)) ?_
    rintro ⟨⟨ad', c', hv, h3, h4, h5, h6⟩, _⟩
    rw [hlen] at hv h3 h6
    cases hv
    simp only [maxLen] at h4
    refine W.loop (ι := Nat) (fun i => [(5, .int .u32 (numOf (l.take i))), (10, .slice ad n c), (11, .int .i64 n), (12, .int .i64 i)])
      (fun _ => Blk g [.slice (cutAt ad c n 1) (l.length - n) (c - n), .bool false] 74 (0, 0) :: B :: R) (fun i => i ≤ n) (fun i => n - i) 0 (Nat.zero_le _) (sub_cons rfl (sub_cons rfl (sub_cons rfl (sub_cons rfl sub_nil)))) Ent.rfl ?_
    intro i hi
    by_cases hlt : i < n
    · have hc := (l[i]'(by omega)).toNat_lt
      rcases h6 with h6 | ⟨gb, ob, rfl⟩
      · omega
      have hcell := RdB.elem (hrd (Blk g [.slice (cutAt (some ⟨gb, ob, none⟩) c n 1) (l.length - n) (c - n), .bool false] 74 (0, 0))) (j := i) (b := l[i]'(by omega)) (by simp [hlt])
      (repeat' first | (apply O.move; exact rfl; exact rfl) | (apply O.assign; exact rfl; exact rfl) | apply W.seq | apply W.region | apply O.nil | apply Fin.next | (apply O.load; exact rfl; (focus ((repeat first | exact Rd.blk .zero rfl | assumption | apply Rd.tail); done)); exact rfl) | (apply O.loadAggR; exact rfl; (focus ((repeat first | exact RdA.whole .zero | assumption | apply RdA.tail); done)); exact rfl; exact rfl) | (apply O.len; exact rfl; exact rfl) | (apply O.lss_t; exact rfl; exact rfl; omega; exact rfl) | (apply O.lss_f; exact rfl; exact rfl; omega; exact rfl) | (apply O.lss_d; exact rfl; exact rfl; exact rfl; all_goals intro _) | (apply O.add64; exact rfl; exact rfl; omega; exact rfl) | (apply O.add; exact rfl; exact rfl; exact rfl) | (apply O.convIntE; exact rfl; (first | exact wrap_i64 (by omega) (by omega) | exact wrap_u32 (by omega) (by omega) | exact wrap_u8 (by omega) (by omega)); exact rfl) | (apply O.convInt; exact rfl; exact rfl) | (apply O.shl; exact rfl; exact rfl; omega; exact rfl) | (apply O.or; exact rfl; exact rfl; exact rfl) | (apply O.bytes; exact rfl; (focus ((repeat first | exact RdSl.own .zero | exact RdSl.view .zero | assumption | apply RdB.tail); done)); exact rfl) | (apply O.convSl; exact rfl; (focus ((repeat first | exact Upd.zero | apply Upd.succ); done)); exact rfl) | (apply O.lssStr_t; exact rfl; exact rfl; assumption; exact rfl) | (apply O.lssStr_f; exact rfl; exact rfl; assumption; exact rfl) | (apply O.lssStr; exact rfl; exact rfl; exact rfl) | (apply O.lenS; exact rfl; exact rfl) | (apply O.indexAddr1; exact rfl; exact rfl; omega; exact rfl) | (apply O.indexAddrN; exact rfl; exact rfl; omega; exact rfl) | (apply O.indexAddr; exact rfl; exact rfl; omega; omega; exact rfl) | (apply W.cond_t; exact rfl) | (apply W.cond_f; exact rfl) | apply W.block | apply W.skip | apply W.exit | apply W.ret | apply Fin.then_ret | apply Fin.then_exit | apply Fin.block_normal | apply Fin.block_ret | apply Fin.block_hit | (apply Fin.block_miss; exact rfl) | (apply O.addStr; exact rfl; exact rfl; omega; exact rfl))
      have e5 : numOf (l.take (i + 1)) = (numOf (l.take i) * 256) % 4294967296 + (l[i]'(by omega)).toNat := by
        rw [List.take_succ_eq_append_getElem (by omega), numOf_snoc]
      refine Fin.round (i + 1) ?_ ?_ (sub_cons ?_ (sub_cons rfl (sub_cons rfl (sub_cons rfl sub_nil)))) Ent.rfl
      · exact hlt
      · show n - (i + 1) < n - i
        omega
      · rw [e5]
        rw [← or_byte (numOf (l.take i)) _ hc, wrap_u32 (n := ((l[i]'(by omega)).toNat : Int)) (by omega) (by omega)]
        rfl
    · have hin : i = n := by omega
      subst hin
      (repeat' first | (apply O.move; exact rfl; exact rfl) | (apply O.assign; exact rfl; exact rfl) | apply W.seq | apply W.region | apply O.nil | apply Fin.next | (apply O.load; exact rfl; (focus ((repeat first | exact Rd.blk .zero rfl | assumption | apply Rd.tail); done)); exact rfl) | (apply O.loadAggR; exact rfl; (focus ((repeat first | exact RdA.whole .zero | assumption | apply RdA.tail); done)); exact rfl; exact rfl) | (apply O.len; exact rfl; exact rfl) | (apply O.lss_t; exact rfl; exact rfl; omega; exact rfl) | (apply O.lss_f; exact rfl; exact rfl; omega; exact rfl) | (apply O.lss_d; exact rfl; exact rfl; exact rfl; all_goals intro _) | (apply O.add64; exact rfl; exact rfl; omega; exact rfl) | (apply O.add; exact rfl; exact rfl; exact rfl) | (apply O.convIntE; exact rfl; (first | exact wrap_i64 (by omega) (by omega) | exact wrap_u32 (by omega) (by omega) | exact wrap_u8 (by omega) (by omega)); exact rfl) | (apply O.convInt; exact rfl; exact rfl) | (apply O.shl; exact rfl; exact rfl; omega; exact rfl) | (apply O.or; exact rfl; exact rfl; exact rfl) | (apply O.bytes; exact rfl; (focus ((repeat first | exact RdSl.own .zero | exact RdSl.view .zero | assumption | apply RdB.tail); done)); exact rfl) | (apply O.convSl; exact rfl; (focus ((repeat first | exact Upd.zero | apply Upd.succ); done)); exact rfl) | (apply O.lssStr_t; exact rfl; exact rfl; assumption; exact rfl) | (apply O.lssStr_f; exact rfl; exact rfl; assumption; exact rfl) | (apply O.lssStr; exact rfl; exact rfl; exact rfl) | (apply O.lenS; exact rfl; exact rfl) | (apply O.indexAddr1; exact rfl; exact rfl; omega; exact rfl) | (apply O.indexAddrN; exact rfl; exact rfl; omega; exact rfl) | (apply O.indexAddr; exact rfl; exact rfl; omega; omega; exact rfl) | (apply W.cond_t; exact rfl) | (apply W.cond_f; exact rfl) | apply W.block | apply W.skip | apply W.exit | apply W.ret | apply Fin.then_ret | apply Fin.then_exit | apply Fin.block_normal | apply Fin.block_ret | apply Fin.block_hit | (apply Fin.block_miss; exact rfl) | (apply O.addStr; exact rfl; exact rfl; omega; exact rfl))
      subst hB
      refine Fin.ret _ rfl (view_next hn) ⟨?_, ?_⟩
      · simp [tup, RSt.num, RSt.take, hf]
      · simp [RSt.next, hf]
theorem rnum_spec (R : List Res) (e : World) (g : Nat) (s : RSt) :
    Ct Try.prog 40 #[.pointer (some ⟨g, 0, none⟩)] e (Reader g s :: R) (fun v' L' => v' = .int .u32 (s.num 4) ∧ L' = Reader g (s.next 4) :: R) := by
  refine Ct.enter (args := [_]) Try.func40 rfl Try.ntmps40 Try.results40 rfl ?_
  (repeat' first | (apply O.move; exact rfl; exact rfl) | (apply O.assign; exact rfl; exact rfl) | apply W.seq | apply W.region | apply O.nil | apply Fin.next | apply W.ret | apply Fin.then_ret)
  refine O.call rfl rfl (rnumber_spec R e g s 4) ?_
  rintro _ _ ⟨rfl, rfl⟩
  (repeat' first | (apply O.move; exact rfl; exact rfl) | (apply O.assign; exact rfl; exact rfl) | apply W.seq | apply W.region | apply O.nil | apply Fin.next | apply W.ret | apply Fin.then_ret)
  exact Fin.ret _ rfl Ent.rfl ⟨rfl, rfl⟩
theorem numOf_one (l : List UInt8) (h : l.length ≤ 1) : numOf l < 256 := by
  match l, h with
  | [], _ => simp [numOf]
  | [c], _ => have := c.toNat_lt; simp [numOf]; omega
theorem rraw_spec (R : List Res) (e : World) (g : Nat) (s : RSt) (n : Int) (hk : s.left.length ≤ 140737488355328) :
    Ct Try.prog 34 #[.pointer (some ⟨g, 0, none⟩), .int .i64 n] e (Reader g s :: R) (fun v' L' => ∃ ad c, v' = .slice ad (s.take n).length c ∧ L' = OwnB (.slice ad (s.take n).length c) (s.take n) :: Reader g (s.next n) :: R) := by
  refine Ct.enter (args := [_, _]) Try.func34 rfl Try.ntmps34 Try.results34 rfl ?_
  (repeat' first | (apply O.move; exact rfl; exact rfl) | (apply O.assign; exact rfl; exact rfl) | apply W.seq | apply W.region | apply O.nil | apply Fin.next | apply W.ret | apply Fin.then_ret)
  cases hf : s.fits n with
  | false =>
    refine O.call rfl rfl (take_no R e g s n hf) ?_
    rintro _ _ ⟨rfl, rfl⟩
    (repeat' first | (apply O.move; exact rfl; exact rfl) | (apply O.assign; exact rfl; exact rfl) | apply W.seq | apply W.region | apply O.nil | apply Fin.next | apply W.ret | apply Fin.then_ret)
    refine O.call rfl rfl (clone_spec _ e _ [] (RdB.nil _) (Nat.zero_le _)) ?_
    rintro _ _ ⟨ad, c, rfl, rfl⟩
    (repeat' first | (apply O.move; exact rfl; exact rfl) | (apply O.assign; exact rfl; exact rfl) | apply W.seq | apply W.region | apply O.nil | apply Fin.next | apply W.ret | apply Fin.then_ret)
    have e1 : s.take n = [] := by simp [RSt.take, hf]
    have e2 : s.next n = ⟨[], true⟩ := by simp [RSt.next, hf]
    exact Fin.ret _ rfl Ent.rfl ⟨ad, c, by rw [e1]; rfl, by rw [e1, e2]⟩
  | true =>
    refine O.call rfl rfl (take_yes R e g s n hf) ?_
    rintro _ _ ⟨ad, c, rfl, rfl⟩
    have hn : n.toNat ≤ s.left.length := by
      simp only [RSt.fits, Bool.and_eq_true, decide_eq_true_eq] at hf
      omega
    have e1 : s.take n = s.left.take n.toNat := by simp [RSt.take, hf]
    have e2 : s.next n = ⟨s.left.drop n.toNat, false⟩ := by simp [RSt.next, hf]
    (repeat' first | (apply O.move; exact rfl; exact rfl) | (apply O.assign; exact rfl; exact rfl) | apply W.seq | apply W.region | apply O.nil | apply Fin.next | apply W.ret | apply Fin.then_ret)
    refine O.call rfl rfl (clone_spec _ e _ (s.left.take n.toNat) (RdB.cutHi (RdSl.view (.succ .zero)) hn) (by simp; omega)) ?_
    rintro _ _ ⟨ad', c', rfl, rfl⟩
    (repeat' first | (apply O.move; exact rfl; exact rfl) | (apply O.assign; exact rfl; exact rfl) | apply W.seq | apply W.region | apply O.nil | apply Fin.next | apply W.ret | apply Fin.then_ret)
    exact Fin.ret _ rfl (Ent.cons (view_next hn)) ⟨ad', c', by rw [e1]; rfl, by rw [e1, e2]⟩
theorem rleft_spec (R : List Res) (e : World) (g : Nat) (s : RSt) :
    Ct Try.prog 32 #[.pointer (some ⟨g, 0, none⟩)] e (Reader g s :: R) (fun v' L' => v' = .int .i64 s.left.length ∧ L' = Reader g s :: R) := by
  refine reader_out fun ad c => ?_
  refine Ct.enter (args := [_]) Try.func32 rfl Try.ntmps32 Try.results32 rfl ?_
  (repeat' first | (apply O.move; exact rfl; exact rfl) | (apply O.assign; exact rfl; exact rfl) | apply W.seq | apply W.region | apply O.nil | apply Fin.next | (apply O.nilCheck; exact rfl; exact rfl) | (apply O.fieldAddr; exact rfl; exact rfl) | (apply O.load; exact rfl; (focus ((repeat first | exact Rd.blk .zero rfl | assumption | apply Rd.tail); done)); exact rfl) | (apply O.loadAggR; exact rfl; (focus ((repeat first | exact RdA.whole .zero | assumption | apply RdA.tail); done)); exact rfl; exact rfl) | (apply O.len; exact rfl; exact rfl) | (apply O.lenS; exact rfl; exact rfl) | apply W.ret | apply Fin.then_ret)
  exact Fin.ret _ rfl reader_in ⟨rfl, rfl⟩
end Go.Proofs
