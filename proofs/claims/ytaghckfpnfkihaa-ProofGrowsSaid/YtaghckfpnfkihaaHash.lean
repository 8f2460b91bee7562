/- hash: a block mixed into the state. -/
import Derived.Test.YtaghckfpnfkihaaSha
import Derived.Test.YtaghckfpnfkihaaBytes
namespace Go.Proofs
set_option linter.unusedVariables false
open Go.Bs
set_option linter.unusedSimpArgs false
attribute [local irreducible] Bs.Val Bs.Do Bs.O Bs.W Bs.Fin Bs.A Bs.Ct Bs.RdSl Bs.Rd Bs.Sat Bs.Blk Bs.Ob Bs.Own Bs.View Bs.Ent Bs.Ex Bs.All Bs.Pu Bs.Base Bs.sepL Bs.RdA
theorem and31 (n : Nat) (h : 0 < n) (h2 : n < 32) : Go.bits .and .u64 (IntKind.u64.wrap (IntKind.i64.wrap (0 - (n : Int)))) 31 = ((32 - n : Nat) : Int) := by
  have : ∀ m : Fin 32, 0 < m.1 → Go.bits .and .u64 (IntKind.u64.wrap (IntKind.i64.wrap (0 - (m.1 : Int)))) 31 = ((32 - m.1 : Nat) : Int) := by decide +kernel
  exact this ⟨n, h2⟩ h
theorem sub32 (n : Nat) (h : 0 < n) (h2 : n < 32) : IntKind.u64.wrap (32 - ((32 - n : Nat) : Int)) = (n : Int) := by
  have : ∀ m : Fin 32, 0 < m.1 → IntKind.u64.wrap (32 - ((32 - m.1 : Nat) : Int)) = (m.1 : Int) := by decide +kernel
  exact this ⟨n, h2⟩ h
theorem rot_spec (R : List Res) (e : World) (x : UInt32) (n : Nat) (h : 0 < n) (h2 : n < 32) :
    Ct Try.prog 78 #[u32v x, .int .i64 (IntKind.i64.wrap (0 - (n : Int)))] e R (fun v' L' => v' = u32v (rotr x n) ∧ R = L') := by
  refine Ct.enter (args := [_, _]) Try.func78 rfl Try.ntmps78 Try.results78 rfl ?_
  have h3 := and31 n h h2
  have h4 := sub32 n h h2
  (repeat' first | (apply O.shlU; exact rfl; exact rfl; (rw [h3]; omega); exact rfl) | (apply O.shrU; exact rfl; exact rfl; (rw [h3, h4]; omega); exact rfl) | (apply O.orU; exact rfl; exact rfl; exact rfl) | (apply O.move; exact rfl; exact rfl) | (apply O.assign; exact rfl; exact rfl) | apply W.seq | apply W.region | apply O.nil | apply Fin.next | (apply O.sub; exact rfl; exact rfl; exact rfl) | (apply O.convInt; exact rfl; exact rfl) | (apply O.and; exact rfl; exact rfl; exact rfl) | apply W.ret)
  refine Fin.ret _ rfl Ent.rfl ⟨?_, rfl⟩
  show u32v _ = u32v _
  rw [h3, h4, Int.toNat_natCast, Int.toNat_natCast, UInt32.or_comm]
  rfl
theorem right_spec (R : List Res) (e : World) (x : UInt32) (n : Nat) (h : 0 < n) (h2 : n < 32) :
    Ct Try.prog 75 #[u32v x, .int .i64 (n : Int)] e R (fun v' L' => v' = u32v (rotr x n) ∧ R = L') := by
  refine Ct.enter (args := [_, _]) Try.func75 rfl Try.ntmps75 Try.results75 rfl ?_
  (repeat' first | (apply O.neg; exact rfl; exact rfl) | (apply O.move; exact rfl; exact rfl) | (apply O.assign; exact rfl; exact rfl) | apply W.seq | apply W.region | apply O.nil | apply Fin.next)
  refine O.call rfl rfl (rot_spec R e x n h h2) ?_
  rintro _ _ ⟨rfl, rfl⟩
  (repeat' first | (apply O.assign; exact rfl; exact rfl) | apply O.nil | apply Fin.next | apply W.ret)
  exact Fin.ret _ rfl Ent.rfl ⟨rfl, rfl⟩
theorem setAts_all : ∀ {pre cs vs : List Value}, cs.length = vs.length → SetAts (pre ++ cs) pre.length vs (pre ++ vs)
  | pre, [], [], _ => by rw [List.append_nil]; exact .nil
  | pre, c :: cs, v :: vs, h => by
    have h1 : SetAt (pre ++ c :: cs) pre.length v (pre ++ v :: cs) := by
      have := SetAt.of (l := pre ++ c :: cs) (n := pre.length) v (by simp)
      simpa using this
    have h2 := setAts_all (pre := pre ++ [v]) (cs := cs) (vs := vs) (by simpa using h)
    rw [List.append_assoc, List.append_assoc, List.length_append] at h2
    exact .cons h1 h2
  | _, [], _ :: _, h => by cases h
  | _, _ :: _, [], h => by cases h
theorem setAts_whole {cs vs : List Value} (h : cs.length = vs.length) : SetAts cs 0 vs vs := setAts_all (pre := []) h
theorem keys_spec (R : List Res) (e : World) :
    Ct Try.prog 66 #[] e R (fun v' L' => v' = .agg (kw.map u32v).toArray ∧ R = L') := by
  refine Ct.enterC (args := []) Try.func66 rfl Try.ntmps66 Try.results66 rfl ?_
  (repeat' first | (refine O.alloc (cs := (List.replicate 64 (0 : UInt32)).map u32v) rfl rfl ?_; intro _) | apply W.seq | apply W.region | apply O.nil | apply Fin.next)
  refine O.buildArr (cs := kw.map u32v) rfl rfl rfl (by (repeat first | exact Bs.Parts.nil | apply Bs.Parts.one rfl rfl | apply Bs.Parts.one (Bs.cells_one (by assumption)) rfl | (apply Bs.Parts.agg; exact rfl)); done) rfl ?_
  refine O.storeAgg rfl rfl rfl (u32v_one _) .zero (setAts_whole rfl) ?_
  (repeat' first | apply O.nil | apply Fin.next | apply W.ret)
  apply Fin.retC
  (focus ((repeat first | exact RetL.nil | (apply RetL.tmp; exact rfl) | (apply RetL.agg; exact rfl; (focus ((repeat first | exact RdA.whole .zero | assumption | apply RdA.tail); done)); exact rfl) | (apply RetL.cell; exact rfl; (focus ((repeat first | exact Rd.blk .zero rfl | assumption | apply Rd.tail); done)))); done))
  exact ⟨R, (by (repeat first | exact Ent.rfl | exact Ent.nil | refine Ent.cons ?_ | (apply Ent.pull; exact (by (repeat first | exact Pull.zero | apply Pull.succ); done)) | refine Ent.drop ?_); done), rfl, rfl⟩
/-- A word that is read byte by byte. -/
def accW (b : List UInt8) (i : Nat) : Nat → UInt32
  | 0 => 0
  | j + 1 => (accW b i j <<< UInt32.ofNat (Int.toNat 8)) ||| (b.getD (4 * i + j) 0).toUInt32
theorem accW_4 (b : List UInt8) (i : Nat) : accW b i 4 = wd b i := wd_step _ _ _ _
theorem w16_succ (b : List UInt8) (i : Nat) : (List.range (i + 1)).map (wd b) = (List.range i).map (wd b) ++ [wd b i] := by rw [List.range_succ, List.map_append]; rfl
theorem set_mid {α : Type} {pre post : List α} {x y : α} {i : Nat} (h : pre.length = i) : (pre ++ x :: post).set i y = pre ++ y :: post := by
  subst h; simp
theorem setAt_mid {pre post : List UInt32} {x y : UInt32} {i : Nat} (h : pre.length = i) : SetAt ((pre ++ x :: post).map u32v) i (u32v y) ((pre ++ y :: post).map u32v) := by
  have h1 := SetAt.of (l := (pre ++ x :: post).map u32v) (n := i) (u32v y) (by simp; omega)
  rw [← List.map_set, set_mid h] at h1
  exact h1
theorem rd_mid {pre post : List UInt32} {x : UInt32} {i g T o : Nat} {fz : Nat × Nat} {L R : List Res} (h : pre.length = i) (p : Pull L (Blk g ((pre ++ x :: post).map u32v) T fz) R) (ho : o = i) : Rd L ⟨g, o, none⟩ (u32v x) := by
  subst ho
  exact Rd.blk p (by rw [nth_eq, List.getElem?_map, List.getElem?_append_right (by omega), h, Nat.sub_self]; rfl)
theorem rd_at {l : List UInt32} {i g T o : Nat} {fz : Nat × Nat} {L R : List Res} (h : i < l.length) (p : Pull L (Blk g (l.map u32v) T fz) R) (ho : o = i) : Rd L ⟨g, o, none⟩ (u32v (l.getD i 0)) := by
  subst ho
  exact Rd.blk p (by rw [nth_eq, List.getElem?_map, List.getElem?_eq_getElem h, List.getD_eq_getElem?_getD, List.getElem?_eq_getElem h]; rfl)
theorem cut_slice {gl ol cap k : Nat} (h : k < cap) : cutAt (some ⟨gl, ol, none⟩) cap k 1 = some ⟨gl, ol + k, none⟩ := by
  unfold cutAt
  rw [if_neg (by omega)]
  simp [Addr.add]
set_option maxHeartbeats 1000000 in
theorem spread_spec (R : List Res) (e : World) (v : Value) (b : List UInt8) (hv : RdB R v b) (hb : b.length = 64) :
    Ct Try.prog 74 #[v] e R (fun v' L' => v' = .agg ((sched b 48).map u32v).toArray ∧ R = L') := by
  refine Ct.of_sep (hv.shape (by omega)) ?_
  rintro ⟨⟨ad, cap, rfl, h3, h4, h5, h6⟩, _⟩
  simp only [maxLen] at h4
  rcases h6 with h6 | ⟨gl, ol, rfl⟩
  · omega
  refine Ct.enterC (args := [_]) Try.func74 rfl Try.ntmps74 Try.results74 rfl ?_
  (repeat' first | (refine O.alloc (cs := (List.replicate 64 (0 : UInt32)).map u32v) rfl rfl ?_; intro _) | (apply O.move; exact rfl; exact rfl) | apply W.seq | apply W.region | apply O.nil | apply Fin.next | apply W.block)
  rename_i g2 g3
  refine W.loop (ι := Nat) (fun i => [(0, .slice (some ⟨gl, ol, none⟩) b.length cap), (2, .pointer (some ⟨g2, 0, none⟩)), (3, .pointer (some ⟨g3, 0, none⟩)), (12, .int .i64 (i : Int))])
    (fun i => Blk g3 (((List.range i).map (wd b) ++ List.replicate (64 - i) 0).map u32v) 73 (0, 0) :: Blk g2 ((List.replicate 64 (0 : UInt32)).map u32v) 73 (0, 0) :: R) (fun i => i ≤ 16) (fun i => 16 - i) 0 (Nat.zero_le _) (sub_cons rfl (sub_cons rfl (sub_cons rfl (sub_cons rfl sub_nil)))) Ent.rfl ?_
  intro i hi
  by_cases hlt : i < 16
  · have hrep : List.replicate (64 - i) (0 : UInt32) = 0 :: List.replicate (63 - i) 0 := by rw [show 64 - i = (63 - i) + 1 by omega, List.replicate_succ]
    have hpre : ((List.range i).map (wd b)).length = i := by simp
    have hw16 := w16_succ b i
    rw [hrep]
    generalize (List.range i).map (wd b) = pre at *
    have hcut := cut_slice (gl := gl) (ol := ol) (cap := cap) (k := 4 * i) (by omega)
    have e1 : (4 * (i : Int)).toNat = 4 * i := by omega
    have e2 : (4 * (i : Int) + 4).toNat - 4 * i = 4 := by omega
    (repeat' first | (apply O.move; exact rfl; exact rfl) | (apply O.assign; exact rfl; exact rfl) | apply W.seq | apply W.region | apply O.nil | apply Fin.next | (apply O.len; exact rfl; exact rfl) | (apply O.lss_t; exact rfl; exact rfl; omega; exact rfl) | (apply O.add64; exact rfl; exact rfl; omega; exact rfl) | (apply O.mul64; exact rfl; exact rfl; omega; exact rfl) | (apply O.sliceLoHi; exact rfl; exact rfl; exact rfl; omega; omega; omega; exact rfl) | (apply W.cond_t; exact rfl) | apply W.block | apply W.skip)
    rw [e1, e2, hcut]
    refine W.loop (ι := Nat) (fun j => [(23, .int .i64 (j : Int)), (22, .int .i64 (4 : Int)), (21, .slice (some ⟨gl, ol + 4 * i, none⟩) 4 (cap - 4 * i)), (4, .int .i64 (i : Int)), (0, .slice (some ⟨gl, ol, none⟩) b.length cap), (2, .pointer (some ⟨g2, 0, none⟩)), (3, .pointer (some ⟨g3, 0, none⟩)), (12, .int .i64 (i : Int))])
      (fun j => Blk g3 ((pre ++ accW b i j :: List.replicate (63 - i) 0).map u32v) 73 (0, 0) :: Blk g2 ((List.replicate 64 (0 : UInt32)).map u32v) 73 (0, 0) :: R) (fun j => j ≤ 4) (fun j => 4 - j) 0 (Nat.zero_le _) (sub_cons rfl (sub_cons rfl (sub_cons rfl (sub_cons rfl (sub_cons rfl (sub_cons rfl (sub_cons rfl (sub_cons rfl sub_nil)))))))) Ent.rfl ?_
    intro j hj
    by_cases hjt : j < 4
    · have hbi : 4 * i + j < b.length := by omega
      have hr : Rd R ⟨gl, ol + 4 * i + j, none⟩ (u8 (b.getD (4 * i + j) 0)) := by
        have := hv.elem (j := 4 * i + j) (b := b.getD (4 * i + j) 0) (by rw [List.getD_eq_getElem?_getD, List.getElem?_eq_getElem hbi]; rfl)
        rw [← Nat.add_assoc] at this
        exact this
      have hr3 : Rd (Blk g3 ((pre ++ accW b i j :: List.replicate (63 - i) 0).map u32v) 73 (0, 0) :: Blk g2 ((List.replicate 64 (0 : UInt32)).map u32v) 73 (0, 0) :: R) ⟨g3, 0 + i, none⟩ (u32v (accW b i j)) := rd_mid hpre .zero (Nat.zero_add _)
      have hacc : accW b i (j + 1) = (accW b i j <<< UInt32.ofNat (Int.toNat 8)) ||| (b.getD (4 * i + j) 0).toUInt32 := rfl
      generalize accW b i j = x at *
      generalize b.getD (4 * i + j) 0 = c at *
      (repeat' first | (apply O.orU; exact rfl; exact rfl; exact rfl) | (apply O.shlU; exact rfl; exact rfl; omega; exact rfl) | (apply O.conv8U; exact rfl; exact rfl) | (apply O.indexAddrA1; exact rfl; exact rfl; omega; exact rfl) | (apply O.move; exact rfl; exact rfl) | (apply O.assign; exact rfl; exact rfl) | apply W.seq | apply W.region | apply O.nil | apply Fin.next | (apply O.load; exact rfl; (focus ((repeat first | exact Rd.blk .zero rfl | assumption | apply Rd.tail); done)); exact rfl) | (apply O.lss_t; exact rfl; exact rfl; omega; exact rfl) | (apply O.indexAddr1; exact rfl; exact rfl; omega; exact rfl) | (apply W.cond_t; exact rfl) | apply W.block | apply W.skip)
      refine O.do (Do.store rfl rfl rfl .zero (by rw [Nat.zero_add]; exact setAt_mid hpre) ?_)
      (repeat' first | (apply O.move; exact rfl; exact rfl) | apply W.region | apply O.nil | apply Fin.next | (apply O.add64; exact rfl; exact rfl; omega; exact rfl) | apply Fin.block_normal)
      exact Fin.round (j + 1) hjt (by omega) (sub_cons rfl (sub_cons rfl (sub_cons rfl (sub_cons rfl (sub_cons rfl (sub_cons rfl (sub_cons rfl (sub_cons rfl sub_nil)))))))) (by rw [hacc]; exact Ent.rfl)
    obtain rfl : j = 4 := by omega
    rw [accW_4]
    (repeat' first | (apply O.move; exact rfl; exact rfl) | apply W.seq | apply W.region | apply O.nil | apply Fin.next | (apply O.lss_f; exact rfl; exact rfl; omega; exact rfl) | (apply O.add64; exact rfl; exact rfl; omega; exact rfl) | (apply W.cond_f; exact rfl) | apply W.exit | apply Fin.then_exit | apply Fin.block_normal | apply Fin.block_hit)
    refine Fin.round (i + 1) hlt (by omega) (sub_cons rfl (sub_cons rfl (sub_cons rfl (sub_cons rfl sub_nil)))) ?_
    rw [hw16, List.append_assoc, show 64 - (i + 1) = 63 - i by omega]
    exact Ent.rfl
  obtain rfl : i = 16 := by omega
  (repeat' first | (apply O.assign; exact rfl; exact rfl) | apply W.seq | apply W.region | apply O.nil | apply Fin.next | (apply O.lss_f; exact rfl; exact rfl; omega; exact rfl) | (apply W.cond_f; exact rfl) | apply W.block | apply W.exit | apply Fin.then_exit | apply Fin.block_hit)
  refine W.loop (ι := Nat) (fun n => [(7, .int .i64 ((n + 16 : Nat) : Int)), (2, .pointer (some ⟨g2, 0, none⟩)), (3, .pointer (some ⟨g3, 0, none⟩))])
    (fun n => Blk g3 ((sched b n ++ List.replicate (48 - n) 0).map u32v) 73 (0, 0) :: Blk g2 ((List.replicate 64 (0 : UInt32)).map u32v) 73 (0, 0) :: R) (fun n => n ≤ 48) (fun n => 48 - n) 0 (Nat.zero_le _) (sub_cons rfl (sub_cons rfl (sub_cons rfl sub_nil))) Ent.rfl ?_
  intro n hn
  have hsl := sched_length b n
  by_cases hnt : n < 48
  · have hnx : sched b (n + 1) = sched b n ++ [nxt (sched b n)] := rfl
    have hrep : List.replicate (48 - n) (0 : UInt32) = 0 :: List.replicate (47 - n) 0 := by rw [show 48 - n = (47 - n) + 1 by omega, List.replicate_succ]
    rw [hrep]
    have hgd : ∀ k, k < 16 + n → (sched b n ++ 0 :: List.replicate (47 - n) 0).getD k 0 = (sched b n).getD k 0 := fun k hk => by
      rw [List.getD_eq_getElem?_getD, List.getD_eq_getElem?_getD, List.getElem?_append_left (by omega)]
    have hall : (sched b n ++ 0 :: List.replicate (47 - n) 0).length = 64 := by simp [hsl]; omega
    have hrd : ∀ m k : Nat, m = k → k < 16 + n → Rd (Blk g3 ((sched b n ++ 0 :: List.replicate (47 - n) 0).map u32v) 73 (0, 0) :: Blk g2 ((List.replicate 64 (0 : UInt32)).map u32v) 73 (0, 0) :: R) ⟨g3, m, none⟩ (u32v ((sched b n).getD k 0)) := fun m k hm hk => by
      rw [← hgd k hk]
      exact rd_at (by omega) .zero hm
    have hr15 := hrd (0 + (((n + 16 : Nat) : Int) - 15).toNat * 1) ((sched b n).length - 15) (by omega) (by omega)
    have hr2 := hrd (0 + (((n + 16 : Nat) : Int) - 2).toNat * 1) ((sched b n).length - 2) (by omega) (by omega)
    have hr16 := hrd (0 + (((n + 16 : Nat) : Int) - 16).toNat * 1) ((sched b n).length - 16) (by omega) (by omega)
    have hr7 := hrd (0 + (((n + 16 : Nat) : Int) - 7).toNat * 1) ((sched b n).length - 7) (by omega) (by omega)
    have hnxt : nxt (sched b n) = (sched b n).getD ((sched b n).length - 16) 0 + ss0 ((sched b n).getD ((sched b n).length - 15) 0) + (sched b n).getD ((sched b n).length - 7) 0 + ss1 ((sched b n).getD ((sched b n).length - 2) 0) := rfl
    clear hrd
    generalize (sched b n).getD ((sched b n).length - 15) 0 = x15 at *
    generalize (sched b n).getD ((sched b n).length - 2) 0 = x2 at *
    generalize (sched b n).getD ((sched b n).length - 16) 0 = x16 at *
    generalize (sched b n).getD ((sched b n).length - 7) 0 = x7 at *
    (repeat' first | (apply O.move; exact rfl; exact rfl) | apply W.seq | apply W.region | apply O.nil | apply Fin.next | (apply O.lss_t; exact rfl; exact rfl; omega; exact rfl) | (apply W.cond_t; exact rfl) | apply W.block | apply W.skip | (refine A.start (id := 14) [9] Try.mixed ?_; all_goals (refine A.take 0 _ rfl (by kernel_rfl) Ent.rfl (Val.move rfl) rfl ?_); all_goals (first | refine A.take 1 _ rfl (by kernel_rfl) Ent.rfl (Val.sub64 rfl rfl (by omega)) rfl ?_ | refine A.take 1 _ rfl (by kernel_rfl) Ent.rfl (Val.sub rfl rfl) rfl ?_); all_goals (first | refine A.take 2 _ rfl (by kernel_rfl) Ent.rfl (Val.indexAddrA1 rfl rfl (by omega)) rfl ?_ | refine A.take 2 _ rfl (by kernel_rfl) Ent.rfl (Val.indexAddrA rfl rfl (by omega)) rfl ?_ | refine A.take 2 _ rfl (by kernel_rfl) Ent.rfl (Val.indexAddr1 rfl rfl (by omega)) rfl ?_ | refine A.take 2 _ rfl (by kernel_rfl) Ent.rfl (Val.indexAddrN rfl rfl (by omega)) rfl ?_ | refine A.take 2 _ rfl (by kernel_rfl) Ent.rfl (Val.indexAddr rfl rfl (by omega) (by omega)) rfl ?_); all_goals (first | refine A.take 3 _ rfl (by kernel_rfl) Ent.rfl (Val.load rfl (by (repeat first | exact Rd.blk .zero rfl | assumption | apply Rd.tail); done)) rfl ?_ | refine A.take 3 _ rfl (by kernel_rfl) Ent.rfl (Val.loadAggR rfl (by (repeat first | exact RdA.whole .zero | assumption | apply RdA.tail); done) (by exact rfl)) rfl ?_); all_goals (refine A.take 4 _ rfl (by kernel_rfl) Ent.rfl (Val.move rfl) rfl ?_); all_goals (first | refine A.take 5 _ rfl (by kernel_rfl) Ent.rfl (Val.sub64 rfl rfl (by omega)) rfl ?_ | refine A.take 5 _ rfl (by kernel_rfl) Ent.rfl (Val.sub rfl rfl) rfl ?_); all_goals (first | refine A.take 6 _ rfl (by kernel_rfl) Ent.rfl (Val.indexAddrA1 rfl rfl (by omega)) rfl ?_ | refine A.take 6 _ rfl (by kernel_rfl) Ent.rfl (Val.indexAddrA rfl rfl (by omega)) rfl ?_ | refine A.take 6 _ rfl (by kernel_rfl) Ent.rfl (Val.indexAddr1 rfl rfl (by omega)) rfl ?_ | refine A.take 6 _ rfl (by kernel_rfl) Ent.rfl (Val.indexAddrN rfl rfl (by omega)) rfl ?_ | refine A.take 6 _ rfl (by kernel_rfl) Ent.rfl (Val.indexAddr rfl rfl (by omega) (by omega)) rfl ?_); all_goals (first | refine A.take 7 _ rfl (by kernel_rfl) Ent.rfl (Val.load rfl (by (repeat first | exact Rd.blk .zero rfl | assumption | apply Rd.tail); done)) rfl ?_ | refine A.take 7 _ rfl (by kernel_rfl) Ent.rfl (Val.loadAggR rfl (by (repeat first | exact RdA.whole .zero | assumption | apply RdA.tail); done) (by exact rfl)) rfl ?_); all_goals (refine A.take 8 _ rfl (by kernel_rfl) Ent.rfl (Val.assign rfl) rfl ?_); all_goals (first | (refine A.one 9 rfl (by kernel_rfl) ?_; refine Do.val (Val.assign rfl) rfl ⟨(no_held (by kernel_rfl)), ?_⟩)); all_goals (refine A.done (by kernel_rfl) ?_)))
    refine O.call rfl rfl (right_spec _ e x15 7 (by omega) (by omega)) ?_
    rintro _ _ ⟨rfl, rfl⟩
    (repeat' first | (apply O.move; exact rfl; exact rfl))
    refine O.call rfl rfl (right_spec _ e x15 18 (by omega) (by omega)) ?_
    rintro _ _ ⟨rfl, rfl⟩
    (repeat' first | (apply O.xorU; exact rfl; exact rfl; exact rfl) | (apply O.shrU; exact rfl; exact rfl; omega; exact rfl) | (apply O.move; exact rfl; exact rfl) | (apply O.assign; exact rfl; exact rfl) | apply W.seq | apply W.region | apply O.nil | apply Fin.next)
    refine O.call rfl rfl (right_spec _ e x2 17 (by omega) (by omega)) ?_
    rintro _ _ ⟨rfl, rfl⟩
    (repeat' first | (apply O.move; exact rfl; exact rfl))
    refine O.call rfl rfl (right_spec _ e x2 19 (by omega) (by omega)) ?_
    rintro _ _ ⟨rfl, rfl⟩
    (repeat' first | (apply O.xorU; exact rfl; exact rfl; exact rfl) | (apply O.shrU; exact rfl; exact rfl; omega; exact rfl) | (apply O.move; exact rfl; exact rfl) | (apply O.assign; exact rfl; exact rfl) | apply O.nil | apply Fin.next)
    refine A.start (id := 17) [14, 15] Try.mixed ?_
    (all_goals (refine A.take 0 _ rfl (by kernel_rfl) Ent.rfl (Val.move rfl) rfl ?_); all_goals (refine A.take 1 _ rfl (by kernel_rfl) Ent.rfl (Val.move rfl) rfl ?_); all_goals (first | refine A.take 2 _ rfl (by kernel_rfl) Ent.rfl (Val.sub64 rfl rfl (by omega)) rfl ?_ | refine A.take 2 _ rfl (by kernel_rfl) Ent.rfl (Val.sub rfl rfl) rfl ?_); all_goals (first | refine A.take 3 _ rfl (by kernel_rfl) Ent.rfl (Val.indexAddrA1 rfl rfl (by omega)) rfl ?_ | refine A.take 3 _ rfl (by kernel_rfl) Ent.rfl (Val.indexAddrA rfl rfl (by omega)) rfl ?_ | refine A.take 3 _ rfl (by kernel_rfl) Ent.rfl (Val.indexAddr1 rfl rfl (by omega)) rfl ?_ | refine A.take 3 _ rfl (by kernel_rfl) Ent.rfl (Val.indexAddrN rfl rfl (by omega)) rfl ?_ | refine A.take 3 _ rfl (by kernel_rfl) Ent.rfl (Val.indexAddr rfl rfl (by omega) (by omega)) rfl ?_); all_goals (first | refine A.take 4 _ rfl (by kernel_rfl) Ent.rfl (Val.load rfl (by (repeat first | exact Rd.blk .zero rfl | assumption | apply Rd.tail); done)) rfl ?_ | refine A.take 4 _ rfl (by kernel_rfl) Ent.rfl (Val.loadAggR rfl (by (repeat first | exact RdA.whole .zero | assumption | apply RdA.tail); done) (by exact rfl)) rfl ?_); all_goals (refine A.take 5 _ rfl (by kernel_rfl) Ent.rfl (Val.move rfl) rfl ?_); all_goals (first | refine A.take 6 _ rfl (by kernel_rfl) Ent.rfl (Val.addU rfl rfl) rfl ?_ | refine A.take 6 _ rfl (by kernel_rfl) Ent.rfl (Val.add64 rfl rfl (by omega)) rfl ?_ | refine A.take 6 _ rfl (by kernel_rfl) Ent.rfl (Val.add rfl rfl) rfl ?_ | refine A.take 6 _ rfl (by kernel_rfl) Ent.rfl (Val.addStr rfl rfl (by omega)) rfl ?_); all_goals (refine A.take 7 _ rfl (by kernel_rfl) Ent.rfl (Val.move rfl) rfl ?_); all_goals (first | refine A.take 8 _ rfl (by kernel_rfl) Ent.rfl (Val.sub64 rfl rfl (by omega)) rfl ?_ | refine A.take 8 _ rfl (by kernel_rfl) Ent.rfl (Val.sub rfl rfl) rfl ?_); all_goals (first | refine A.take 9 _ rfl (by kernel_rfl) Ent.rfl (Val.indexAddrA1 rfl rfl (by omega)) rfl ?_ | refine A.take 9 _ rfl (by kernel_rfl) Ent.rfl (Val.indexAddrA rfl rfl (by omega)) rfl ?_ | refine A.take 9 _ rfl (by kernel_rfl) Ent.rfl (Val.indexAddr1 rfl rfl (by omega)) rfl ?_ | refine A.take 9 _ rfl (by kernel_rfl) Ent.rfl (Val.indexAddrN rfl rfl (by omega)) rfl ?_ | refine A.take 9 _ rfl (by kernel_rfl) Ent.rfl (Val.indexAddr rfl rfl (by omega) (by omega)) rfl ?_); all_goals (first | refine A.take 10 _ rfl (by kernel_rfl) Ent.rfl (Val.load rfl (by (repeat first | exact Rd.blk .zero rfl | assumption | apply Rd.tail); done)) rfl ?_ | refine A.take 10 _ rfl (by kernel_rfl) Ent.rfl (Val.loadAggR rfl (by (repeat first | exact RdA.whole .zero | assumption | apply RdA.tail); done) (by exact rfl)) rfl ?_); all_goals (first | refine A.take 11 _ rfl (by kernel_rfl) Ent.rfl (Val.addU rfl rfl) rfl ?_ | refine A.take 11 _ rfl (by kernel_rfl) Ent.rfl (Val.add64 rfl rfl (by omega)) rfl ?_ | refine A.take 11 _ rfl (by kernel_rfl) Ent.rfl (Val.add rfl rfl) rfl ?_ | refine A.take 11 _ rfl (by kernel_rfl) Ent.rfl (Val.addStr rfl rfl (by omega)) rfl ?_); all_goals (refine A.take 12 _ rfl (by kernel_rfl) Ent.rfl (Val.move rfl) rfl ?_); all_goals (first | refine A.take 13 _ rfl (by kernel_rfl) Ent.rfl (Val.addU rfl rfl) rfl ?_ | refine A.take 13 _ rfl (by kernel_rfl) Ent.rfl (Val.add64 rfl rfl (by omega)) rfl ?_ | refine A.take 13 _ rfl (by kernel_rfl) Ent.rfl (Val.add rfl rfl) rfl ?_ | refine A.take 13 _ rfl (by kernel_rfl) Ent.rfl (Val.addStr rfl rfl (by omega)) rfl ?_); all_goals (first | (refine A.one 14 rfl (by kernel_rfl) ?_; refine Do.val (Val.indexAddrA1 rfl rfl (by omega)) rfl ⟨(no_held (by kernel_rfl)), ?_⟩) | (refine A.one 14 rfl (by kernel_rfl) ?_; refine Do.val (Val.indexAddrA rfl rfl (by omega)) rfl ⟨(no_held (by kernel_rfl)), ?_⟩) | (refine A.one 14 rfl (by kernel_rfl) ?_; refine Do.val (Val.indexAddr1 rfl rfl (by omega)) rfl ⟨(no_held (by kernel_rfl)), ?_⟩) | (refine A.one 14 rfl (by kernel_rfl) ?_; refine Do.val (Val.indexAddrN rfl rfl (by omega)) rfl ⟨(no_held (by kernel_rfl)), ?_⟩) | (refine A.one 14 rfl (by kernel_rfl) ?_; refine Do.val (Val.indexAddr rfl rfl (by omega) (by omega)) rfl ⟨(no_held (by kernel_rfl)), ?_⟩)))
    refine A.one 15 rfl (by kernel_rfl) ?_
    refine Do.store rfl rfl rfl .zero (by rw [Nat.zero_add]; exact setAt_mid (by omega)) ⟨(no_held (by kernel_rfl)), ?_⟩
    refine A.done (by kernel_rfl) ?_
    (repeat' first | (apply O.move; exact rfl; exact rfl) | (apply O.assign; exact rfl; exact rfl) | apply W.region | apply O.nil | apply Fin.next | (apply O.add64; exact rfl; exact rfl; omega; exact rfl) | apply Fin.block_normal)
    refine Fin.round (n + 1) hnt (by omega) (sub_cons rfl (sub_cons rfl (sub_cons rfl sub_nil))) ?_
    rw [hnx, hnxt, List.append_assoc, show 48 - (n + 1) = 47 - n by omega]
    exact Ent.rfl
  obtain rfl : n = 48 := by omega
  have hlen : ((sched b 48 ++ List.replicate (48 - 48) (0 : UInt32)).map u32v).length = 64 := by simp [hsl]
  have hones := u32v_one (sched b 48 ++ List.replicate (48 - 48) (0 : UInt32))
  have hfin : (sched b 48 ++ List.replicate (48 - 48) (0 : UInt32)).map u32v = (sched b 48).map u32v := by simp
  rw [← hfin]
  generalize (sched b 48 ++ List.replicate (48 - 48) (0 : UInt32)).map u32v = l at *
  clear hsl hfin
  (repeat' first | (refine O.loadAggR rfl (RdA.whole .zero) hlen rfl ?_) | (apply O.move; exact rfl; exact rfl) | apply W.seq | apply W.region | apply O.nil | apply Fin.next | (apply O.lss_f; exact rfl; exact rfl; omega; exact rfl) | (apply W.cond_f; exact rfl) | apply W.exit | apply Fin.then_exit | apply Fin.block_hit)
  refine O.storeAgg rfl rfl hlen hones (.succ .zero) (setAts_whole (by rw [hlen]; rfl)) ?_
  (repeat' first | apply O.nil | apply Fin.next | apply W.ret)
  apply Fin.retC
  · exact .agg rfl (RdA.whole (.succ .zero)) hlen .nil
  exact ⟨R, (by (repeat first | exact Ent.rfl | exact Ent.nil | refine Ent.cons ?_ | (apply Ent.pull; exact (by (repeat first | exact Pull.zero | apply Pull.succ); done)) | refine Ent.drop ?_); done), rfl, rfl⟩
theorem addL_step {a c : List UInt32} {i : Nat} (hi : i < a.length) (hc : a.length = c.length) : (List.zipWith (· + ·) a c).take (i + 1) = (List.zipWith (· + ·) a c).take i ++ [a.getD i 0 + c.getD i 0] ∧ a.drop i = a.getD i 0 :: a.drop (i + 1) := by
  constructor
  · rw [List.take_succ_eq_append_getElem (by simp; omega), List.getElem_zipWith]
    simp [List.getD_eq_getElem?_getD, List.getElem?_eq_getElem hi, List.getElem?_eq_getElem (show i < c.length by omega)]
  · rw [List.drop_eq_getElem_cons hi]
    simp [List.getD_eq_getElem?_getD, List.getElem?_eq_getElem hi]
set_option maxHeartbeats 1000000 in
theorem mix_spec (R : List Res) (e : World) (s : S8) (v : Value) (b : List UInt8) (gk : Nat) (hv : RdB R v b) (hb : b.length = 64) (hk : RdA R gk 0 (kw.map u32v)) :
    Ct Try.prog 68 #[.agg s.cells.toArray, v, .pointer (some ⟨gk, 0, none⟩)] e R (fun v' L' => v' = .agg (blockP s b).cells.toArray ∧ R = L') := by
  refine Ct.enterC (args := [_, _, _]) Try.func68 rfl Try.ntmps68 Try.results68 rfl ?_
  have hws := sched_length b 48
  (repeat' first | (refine O.box (cs := s.cells) rfl rfl rfl ?_; intro _) | (refine O.loadAggR (cs := s.cells) rfl (RdA.whole (.succ .zero)) rfl rfl ?_) | (refine O.storeAgg (vs := s.cells) rfl rfl rfl (u32v_one s.list) .zero (setAts_whole rfl) ?_) | (apply O.move; exact rfl; exact rfl) | apply W.seq | apply W.region | apply O.nil | apply Fin.next | (apply O.alloc; exact rfl; exact rfl; intro _))
  refine O.call rfl rfl (spread_spec _ e v b hv.tail.tail.tail hb) ?_
  rintro _ _ ⟨rfl, rfl⟩
  rw [show blockP s b = s.add (rnds s (sched b 48) 64) from rfl]
  generalize sched b 48 = ws at *
  (repeat' first | (apply O.move; exact rfl; exact rfl) | apply O.nil | apply Fin.next | apply W.block)
  rename_i g3 g6 g7
  refine W.loop (ι := Nat) (fun i => [(19, .int .i64 (i : Int)), (18, .agg (ws.map u32v).toArray), (2, .pointer (some ⟨gk, 0, none⟩)), (7, .pointer (some ⟨g7, 0, none⟩)), (6, .pointer (some ⟨g6, 0, none⟩)), (3, .pointer (some ⟨g3, 0, none⟩))])
    (fun i => Blk g7 (rnds s ws i).cells 72 (0, 0) :: Blk g6 ((List.replicate 8 (0 : UInt32)).map u32v) 72 (0, 0) :: Blk g3 s.cells 72 (0, 0) :: R) (fun i => i ≤ 64) (fun i => 64 - i) 0 (Nat.zero_le _) (sub_cons rfl (sub_cons rfl (sub_cons rfl (sub_cons rfl (sub_cons rfl (sub_cons rfl sub_nil)))))) Ent.rfl ?_
  intro i hi
  by_cases hlt : i < 64
  · have hrk : Rd R ⟨gk, 0 + i, none⟩ (u32v (kw.getD i 0)) := RdA.at0 hk (by
      have h64 : i < kw.length := hlt
      rw [List.getElem?_map, List.getElem?_eq_getElem h64, List.getD_eq_getElem?_getD, List.getElem?_eq_getElem h64]; rfl)
    have hw : (ws.map u32v)[i]? = some (u32v (ws.getD i 0)) := by
      have h64 : i < ws.length := by omega
      rw [List.getElem?_map, List.getElem?_eq_getElem h64, List.getD_eq_getElem?_getD, List.getElem?_eq_getElem h64]; rfl
    have hrn : rnds s ws (i + 1) = rnd (rnds s ws i) (kw.getD i 0) (ws.getD i 0) := rfl
    generalize rnds s ws i = S at *
    generalize kw.getD i 0 = kk at *
    generalize ws.getD i 0 = ww at *
    obtain ⟨a', b', c', d', e', f', g', h'⟩ := S
    dsimp only [S8.cells]
    (repeat' first | (apply O.indexA; exact rfl; exact rfl; omega; (first | assumption | exact rfl); exact rfl) | (apply O.move; exact rfl; exact rfl) | (apply O.assign; exact rfl; exact rfl) | apply W.seq | apply W.region | apply O.nil | apply Fin.next | (apply O.lss_t; exact rfl; exact rfl; omega; exact rfl) | (apply W.cond_t; exact rfl) | apply W.block | apply W.skip)
    refine A.start (id := 5) [11] Try.mixed ?_
    (all_goals (first | refine A.take 0 _ rfl (by kernel_rfl) Ent.rfl (Val.indexAddrA1 rfl rfl (by omega)) rfl ?_ | refine A.take 0 _ rfl (by kernel_rfl) Ent.rfl (Val.indexAddrA rfl rfl (by omega)) rfl ?_ | refine A.take 0 _ rfl (by kernel_rfl) Ent.rfl (Val.indexAddr1 rfl rfl (by omega)) rfl ?_ | refine A.take 0 _ rfl (by kernel_rfl) Ent.rfl (Val.indexAddrN rfl rfl (by omega)) rfl ?_ | refine A.take 0 _ rfl (by kernel_rfl) Ent.rfl (Val.indexAddr rfl rfl (by omega) (by omega)) rfl ?_); all_goals (first | refine A.take 1 _ rfl (by kernel_rfl) Ent.rfl (Val.load rfl (by (repeat first | exact Rd.blk .zero rfl | assumption | apply Rd.tail); done)) rfl ?_ | refine A.take 1 _ rfl (by kernel_rfl) Ent.rfl (Val.loadAggR rfl (by (repeat first | exact RdA.whole .zero | assumption | apply RdA.tail); done) (by exact rfl)) rfl ?_); all_goals (first | refine A.take 3 _ rfl (by kernel_rfl) Ent.rfl (Val.indexAddrA1 rfl rfl (by omega)) rfl ?_ | refine A.take 3 _ rfl (by kernel_rfl) Ent.rfl (Val.indexAddrA rfl rfl (by omega)) rfl ?_ | refine A.take 3 _ rfl (by kernel_rfl) Ent.rfl (Val.indexAddr1 rfl rfl (by omega)) rfl ?_ | refine A.take 3 _ rfl (by kernel_rfl) Ent.rfl (Val.indexAddrN rfl rfl (by omega)) rfl ?_ | refine A.take 3 _ rfl (by kernel_rfl) Ent.rfl (Val.indexAddr rfl rfl (by omega) (by omega)) rfl ?_); all_goals (first | refine A.take 4 _ rfl (by kernel_rfl) Ent.rfl (Val.load rfl (by (repeat first | exact Rd.blk .zero rfl | assumption | apply Rd.tail); done)) rfl ?_ | refine A.take 4 _ rfl (by kernel_rfl) Ent.rfl (Val.loadAggR rfl (by (repeat first | exact RdA.whole .zero | assumption | apply RdA.tail); done) (by exact rfl)) rfl ?_); all_goals (first | refine A.take 7 _ rfl (by kernel_rfl) Ent.rfl (Val.indexAddrA1 rfl rfl (by omega)) rfl ?_ | refine A.take 7 _ rfl (by kernel_rfl) Ent.rfl (Val.indexAddrA rfl rfl (by omega)) rfl ?_ | refine A.take 7 _ rfl (by kernel_rfl) Ent.rfl (Val.indexAddr1 rfl rfl (by omega)) rfl ?_ | refine A.take 7 _ rfl (by kernel_rfl) Ent.rfl (Val.indexAddrN rfl rfl (by omega)) rfl ?_ | refine A.take 7 _ rfl (by kernel_rfl) Ent.rfl (Val.indexAddr rfl rfl (by omega) (by omega)) rfl ?_); all_goals (first | refine A.take 8 _ rfl (by kernel_rfl) Ent.rfl (Val.load rfl (by (repeat first | exact Rd.blk .zero rfl | assumption | apply Rd.tail); done)) rfl ?_ | refine A.take 8 _ rfl (by kernel_rfl) Ent.rfl (Val.loadAggR rfl (by (repeat first | exact RdA.whole .zero | assumption | apply RdA.tail); done) (by exact rfl)) rfl ?_))
    refine A.one 2 rfl (by kernel_rfl) ?_
    refine Do.call rfl rfl (right_spec _ e e' 6 (by omega) (by omega)) ?_
    rintro _ _ ⟨rfl, rfl⟩
    refine ⟨fun _ => Ent.rfl, ?_⟩
    refine A.one 5 rfl (by kernel_rfl) ?_
    refine Do.call rfl rfl (right_spec _ e e' 11 (by omega) (by omega)) ?_
    rintro _ _ ⟨rfl, rfl⟩
    refine ⟨fun _ => Ent.rfl, ?_⟩
    (all_goals (first | refine A.take 6 _ rfl (by kernel_rfl) Ent.rfl (Val.xorU rfl rfl) rfl ?_ | refine A.take 6 _ rfl (by kernel_rfl) Ent.rfl (Val.bits _ (by simp) rfl rfl) rfl ?_))
    refine A.one 9 rfl (by kernel_rfl) ?_
    refine Do.call rfl rfl (right_spec _ e e' 25 (by omega) (by omega)) ?_
    rintro _ _ ⟨rfl, rfl⟩
    refine ⟨fun _ => Ent.rfl, ?_⟩
    (all_goals (first | refine A.take 10 _ rfl (by kernel_rfl) Ent.rfl (Val.xorU rfl rfl) rfl ?_ | refine A.take 10 _ rfl (by kernel_rfl) Ent.rfl (Val.bits _ (by simp) rfl rfl) rfl ?_); all_goals (first | (refine A.one 11 rfl (by kernel_rfl) ?_; refine Do.val (Val.assign rfl) rfl ⟨(no_held (by kernel_rfl)), ?_⟩)))
    refine A.done (by kernel_rfl) ?_
    (repeat' first | (apply O.andU; exact rfl; exact rfl; exact rfl) | (apply O.xorU; exact rfl; exact rfl; exact rfl) | (apply O.compU; exact rfl; exact rfl) | (apply O.indexAddrA; exact rfl; exact rfl; omega; exact rfl) | (apply O.assign; exact rfl; exact rfl) | apply W.seq | apply W.region | apply O.nil | apply Fin.next | (apply O.load; exact rfl; (focus ((repeat first | exact Rd.blk .zero rfl | assumption | apply Rd.tail); done)); exact rfl) | (refine A.start (id := 7) [14] Try.mixed ?_; all_goals (first | refine A.take 0 _ rfl (by kernel_rfl) Ent.rfl (Val.indexAddrA1 rfl rfl (by omega)) rfl ?_ | refine A.take 0 _ rfl (by kernel_rfl) Ent.rfl (Val.indexAddrA rfl rfl (by omega)) rfl ?_ | refine A.take 0 _ rfl (by kernel_rfl) Ent.rfl (Val.indexAddr1 rfl rfl (by omega)) rfl ?_ | refine A.take 0 _ rfl (by kernel_rfl) Ent.rfl (Val.indexAddrN rfl rfl (by omega)) rfl ?_ | refine A.take 0 _ rfl (by kernel_rfl) Ent.rfl (Val.indexAddr rfl rfl (by omega) (by omega)) rfl ?_); all_goals (first | refine A.take 1 _ rfl (by kernel_rfl) Ent.rfl (Val.load rfl (by (repeat first | exact Rd.blk .zero rfl | assumption | apply Rd.tail); done)) rfl ?_ | refine A.take 1 _ rfl (by kernel_rfl) Ent.rfl (Val.loadAggR rfl (by (repeat first | exact RdA.whole .zero | assumption | apply RdA.tail); done) (by exact rfl)) rfl ?_); all_goals (refine A.take 2 _ rfl (by kernel_rfl) Ent.rfl (Val.move rfl) rfl ?_); all_goals (first | refine A.take 3 _ rfl (by kernel_rfl) Ent.rfl (Val.addU rfl rfl) rfl ?_ | refine A.take 3 _ rfl (by kernel_rfl) Ent.rfl (Val.add64 rfl rfl (by omega)) rfl ?_ | refine A.take 3 _ rfl (by kernel_rfl) Ent.rfl (Val.add rfl rfl) rfl ?_ | refine A.take 3 _ rfl (by kernel_rfl) Ent.rfl (Val.addStr rfl rfl (by omega)) rfl ?_); all_goals (refine A.take 4 _ rfl (by kernel_rfl) Ent.rfl (Val.move rfl) rfl ?_); all_goals (first | refine A.take 5 _ rfl (by kernel_rfl) Ent.rfl (Val.addU rfl rfl) rfl ?_ | refine A.take 5 _ rfl (by kernel_rfl) Ent.rfl (Val.add64 rfl rfl (by omega)) rfl ?_ | refine A.take 5 _ rfl (by kernel_rfl) Ent.rfl (Val.add rfl rfl) rfl ?_ | refine A.take 5 _ rfl (by kernel_rfl) Ent.rfl (Val.addStr rfl rfl (by omega)) rfl ?_); all_goals (refine A.take 6 _ rfl (by kernel_rfl) Ent.rfl (Val.move rfl) rfl ?_); all_goals (refine A.take 7 _ rfl (by kernel_rfl) Ent.rfl (Val.move rfl) rfl ?_); all_goals (refine A.take 8 _ rfl (by kernel_rfl) Ent.rfl (Val.nilCheck rfl) rfl ?_); all_goals (first | refine A.take 9 _ rfl (by kernel_rfl) Ent.rfl (Val.indexAddrA1 rfl rfl (by omega)) rfl ?_ | refine A.take 9 _ rfl (by kernel_rfl) Ent.rfl (Val.indexAddrA rfl rfl (by omega)) rfl ?_ | refine A.take 9 _ rfl (by kernel_rfl) Ent.rfl (Val.indexAddr1 rfl rfl (by omega)) rfl ?_ | refine A.take 9 _ rfl (by kernel_rfl) Ent.rfl (Val.indexAddrN rfl rfl (by omega)) rfl ?_ | refine A.take 9 _ rfl (by kernel_rfl) Ent.rfl (Val.indexAddr rfl rfl (by omega) (by omega)) rfl ?_); all_goals (first | refine A.take 10 _ rfl (by kernel_rfl) Ent.rfl (Val.load rfl (by (repeat first | exact Rd.blk .zero rfl | assumption | apply Rd.tail); done)) rfl ?_ | refine A.take 10 _ rfl (by kernel_rfl) Ent.rfl (Val.loadAggR rfl (by (repeat first | exact RdA.whole .zero | assumption | apply RdA.tail); done) (by exact rfl)) rfl ?_); all_goals (first | refine A.take 11 _ rfl (by kernel_rfl) Ent.rfl (Val.addU rfl rfl) rfl ?_ | refine A.take 11 _ rfl (by kernel_rfl) Ent.rfl (Val.add64 rfl rfl (by omega)) rfl ?_ | refine A.take 11 _ rfl (by kernel_rfl) Ent.rfl (Val.add rfl rfl) rfl ?_ | refine A.take 11 _ rfl (by kernel_rfl) Ent.rfl (Val.addStr rfl rfl (by omega)) rfl ?_); all_goals (refine A.take 12 _ rfl (by kernel_rfl) Ent.rfl (Val.move rfl) rfl ?_); all_goals (first | refine A.take 13 _ rfl (by kernel_rfl) Ent.rfl (Val.addU rfl rfl) rfl ?_ | refine A.take 13 _ rfl (by kernel_rfl) Ent.rfl (Val.add64 rfl rfl (by omega)) rfl ?_ | refine A.take 13 _ rfl (by kernel_rfl) Ent.rfl (Val.add rfl rfl) rfl ?_ | refine A.take 13 _ rfl (by kernel_rfl) Ent.rfl (Val.addStr rfl rfl (by omega)) rfl ?_); all_goals (first | (refine A.one 14 rfl (by kernel_rfl) ?_; refine Do.val (Val.assign rfl) rfl ⟨(no_held (by kernel_rfl)), ?_⟩)); all_goals (refine A.done (by kernel_rfl) ?_)))
    refine A.start (id := 8) [11] Try.mixed ?_
    (all_goals (first | refine A.take 0 _ rfl (by kernel_rfl) Ent.rfl (Val.indexAddrA1 rfl rfl (by omega)) rfl ?_ | refine A.take 0 _ rfl (by kernel_rfl) Ent.rfl (Val.indexAddrA rfl rfl (by omega)) rfl ?_ | refine A.take 0 _ rfl (by kernel_rfl) Ent.rfl (Val.indexAddr1 rfl rfl (by omega)) rfl ?_ | refine A.take 0 _ rfl (by kernel_rfl) Ent.rfl (Val.indexAddrN rfl rfl (by omega)) rfl ?_ | refine A.take 0 _ rfl (by kernel_rfl) Ent.rfl (Val.indexAddr rfl rfl (by omega) (by omega)) rfl ?_); all_goals (first | refine A.take 1 _ rfl (by kernel_rfl) Ent.rfl (Val.load rfl (by (repeat first | exact Rd.blk .zero rfl | assumption | apply Rd.tail); done)) rfl ?_ | refine A.take 1 _ rfl (by kernel_rfl) Ent.rfl (Val.loadAggR rfl (by (repeat first | exact RdA.whole .zero | assumption | apply RdA.tail); done) (by exact rfl)) rfl ?_); all_goals (first | refine A.take 3 _ rfl (by kernel_rfl) Ent.rfl (Val.indexAddrA1 rfl rfl (by omega)) rfl ?_ | refine A.take 3 _ rfl (by kernel_rfl) Ent.rfl (Val.indexAddrA rfl rfl (by omega)) rfl ?_ | refine A.take 3 _ rfl (by kernel_rfl) Ent.rfl (Val.indexAddr1 rfl rfl (by omega)) rfl ?_ | refine A.take 3 _ rfl (by kernel_rfl) Ent.rfl (Val.indexAddrN rfl rfl (by omega)) rfl ?_ | refine A.take 3 _ rfl (by kernel_rfl) Ent.rfl (Val.indexAddr rfl rfl (by omega) (by omega)) rfl ?_); all_goals (first | refine A.take 4 _ rfl (by kernel_rfl) Ent.rfl (Val.load rfl (by (repeat first | exact Rd.blk .zero rfl | assumption | apply Rd.tail); done)) rfl ?_ | refine A.take 4 _ rfl (by kernel_rfl) Ent.rfl (Val.loadAggR rfl (by (repeat first | exact RdA.whole .zero | assumption | apply RdA.tail); done) (by exact rfl)) rfl ?_); all_goals (first | refine A.take 7 _ rfl (by kernel_rfl) Ent.rfl (Val.indexAddrA1 rfl rfl (by omega)) rfl ?_ | refine A.take 7 _ rfl (by kernel_rfl) Ent.rfl (Val.indexAddrA rfl rfl (by omega)) rfl ?_ | refine A.take 7 _ rfl (by kernel_rfl) Ent.rfl (Val.indexAddr1 rfl rfl (by omega)) rfl ?_ | refine A.take 7 _ rfl (by kernel_rfl) Ent.rfl (Val.indexAddrN rfl rfl (by omega)) rfl ?_ | refine A.take 7 _ rfl (by kernel_rfl) Ent.rfl (Val.indexAddr rfl rfl (by omega) (by omega)) rfl ?_); all_goals (first | refine A.take 8 _ rfl (by kernel_rfl) Ent.rfl (Val.load rfl (by (repeat first | exact Rd.blk .zero rfl | assumption | apply Rd.tail); done)) rfl ?_ | refine A.take 8 _ rfl (by kernel_rfl) Ent.rfl (Val.loadAggR rfl (by (repeat first | exact RdA.whole .zero | assumption | apply RdA.tail); done) (by exact rfl)) rfl ?_))
    refine A.one 2 rfl (by kernel_rfl) ?_
    refine Do.call rfl rfl (right_spec _ e a' 2 (by omega) (by omega)) ?_
    rintro _ _ ⟨rfl, rfl⟩
    refine ⟨fun _ => Ent.rfl, ?_⟩
    refine A.one 5 rfl (by kernel_rfl) ?_
    refine Do.call rfl rfl (right_spec _ e a' 13 (by omega) (by omega)) ?_
    rintro _ _ ⟨rfl, rfl⟩
    refine ⟨fun _ => Ent.rfl, ?_⟩
    (all_goals (first | refine A.take 6 _ rfl (by kernel_rfl) Ent.rfl (Val.xorU rfl rfl) rfl ?_ | refine A.take 6 _ rfl (by kernel_rfl) Ent.rfl (Val.bits _ (by simp) rfl rfl) rfl ?_))
    refine A.one 9 rfl (by kernel_rfl) ?_
    refine Do.call rfl rfl (right_spec _ e a' 22 (by omega) (by omega)) ?_
    rintro _ _ ⟨rfl, rfl⟩
    refine ⟨fun _ => Ent.rfl, ?_⟩
    (all_goals (first | refine A.take 10 _ rfl (by kernel_rfl) Ent.rfl (Val.xorU rfl rfl) rfl ?_ | refine A.take 10 _ rfl (by kernel_rfl) Ent.rfl (Val.bits _ (by simp) rfl rfl) rfl ?_); all_goals (first | (refine A.one 11 rfl (by kernel_rfl) ?_; refine Do.val (Val.assign rfl) rfl ⟨(no_held (by kernel_rfl)), ?_⟩)))
    refine A.done (by kernel_rfl) ?_
    (repeat' first | (apply O.addU; exact rfl; exact rfl; exact rfl) | (apply O.andU; exact rfl; exact rfl; exact rfl) | (apply O.xorU; exact rfl; exact rfl; exact rfl) | (apply O.indexAddrA; exact rfl; exact rfl; omega; exact rfl) | (apply O.buildArr; exact rfl; exact rfl; exact rfl; (focus ((repeat first | exact Bs.Parts.nil | apply Bs.Parts.one rfl rfl | apply Bs.Parts.one (Bs.cells_one (by assumption)) rfl | (apply Bs.Parts.agg; exact rfl)); done)); exact rfl) | (apply O.move; exact rfl; exact rfl) | (apply O.assign; exact rfl; exact rfl) | apply W.seq | apply W.region | apply O.nil | apply Fin.next | (apply O.load; exact rfl; (focus ((repeat first | exact Rd.blk .zero rfl | assumption | apply Rd.tail); done)); exact rfl) | (apply O.add64; exact rfl; exact rfl; omega; exact rfl) | apply Fin.block_normal | (apply O.storeAgg; exact rfl; exact rfl; exact rfl; (focus ((repeat first | exact one_nil | (apply one_cons; first | exact rfl | assumption)); done)); (focus ((repeat first | exact Upd.zero | apply Upd.succ); done)); focus ((repeat first | exact SetAts.nil | apply SetAts.cons | exact SetAt.zero | apply SetAt.succ); done)))
    exact Fin.round (i + 1) hlt (by omega) (sub_cons rfl (sub_cons rfl (sub_cons rfl (sub_cons rfl (sub_cons rfl (sub_cons rfl sub_nil)))))) (by rw [hrn]; exact Ent.rfl)
  obtain rfl : i = 64 := by omega
  generalize rnds s ws 64 = V at *
  have hadd : (s.add V).cells = (List.zipWith (· + ·) s.list V.list).map u32v := rfl
  have hsl : s.list.length = 8 := rfl
  have hvl : V.list.length = 8 := rfl
  rw [hadd, S8.cells_eq, S8.cells_eq]
  generalize s.list = sl at *
  generalize V.list = vl at *
  (repeat' first | (apply O.move; exact rfl; exact rfl) | apply W.seq | apply W.region | apply O.nil | apply Fin.next | (apply O.lss_f; exact rfl; exact rfl; omega; exact rfl) | (apply W.cond_f; exact rfl) | apply W.block | apply W.exit | apply Fin.then_exit | apply Fin.block_hit)
  refine W.loop (ι := Nat) (fun i => [(111, .int .i64 (i : Int)), (7, .pointer (some ⟨g7, 0, none⟩)), (6, .pointer (some ⟨g6, 0, none⟩)), (3, .pointer (some ⟨g3, 0, none⟩))])
    (fun i => Blk g7 (vl.map u32v) 72 (0, 0) :: Blk g6 ((List.replicate 8 (0 : UInt32)).map u32v) 72 (0, 0) :: Blk g3 (((List.zipWith (· + ·) sl vl).take i ++ sl.drop i).map u32v) 72 (0, 0) :: R) (fun i => i ≤ 8) (fun i => 8 - i) 0 (Nat.zero_le _) (sub_cons rfl (sub_cons rfl (sub_cons rfl (sub_cons rfl sub_nil)))) (by rw [List.take_zero, List.nil_append, List.drop_zero]; exact Ent.rfl) ?_
  intro j hj
  have hzl : ((List.zipWith (· + ·) sl vl).take j).length = j := by simp; omega
  by_cases hjt : j < 8
  · obtain ⟨z1, z2⟩ := addL_step (a := sl) (c := vl) (i := j) (by omega) (by omega)
    rw [z2]
    have hr3 : Rd (Blk g7 (vl.map u32v) 72 (0, 0) :: Blk g6 ((List.replicate 8 (0 : UInt32)).map u32v) 72 (0, 0) :: Blk g3 (((List.zipWith (· + ·) sl vl).take j ++ sl.getD j 0 :: sl.drop (j + 1)).map u32v) 72 (0, 0) :: R) ⟨g3, 0 + j, none⟩ (u32v (sl.getD j 0)) := rd_mid hzl (.succ (.succ .zero)) (Nat.zero_add _)
    have hr7 : Rd (Blk g7 (vl.map u32v) 72 (0, 0) :: Blk g6 ((List.replicate 8 (0 : UInt32)).map u32v) 72 (0, 0) :: Blk g3 (((List.zipWith (· + ·) sl vl).take j ++ sl.getD j 0 :: sl.drop (j + 1)).map u32v) 72 (0, 0) :: R) ⟨g7, 0 + j, none⟩ (u32v (vl.getD j 0)) := rd_at (by omega) .zero (Nat.zero_add _)
    generalize sl.getD j 0 = x at *
    generalize vl.getD j 0 = y at *
    (repeat' first | (apply O.move; exact rfl; exact rfl) | (apply O.assign; exact rfl; exact rfl) | apply W.seq | apply W.region | apply O.nil | apply Fin.next | (apply O.lss_t; exact rfl; exact rfl; omega; exact rfl) | (apply W.cond_t; exact rfl) | apply W.block | apply W.skip)
    refine A.start (id := 15) [7, 8] Try.mixed ?_
    (all_goals (refine A.take 0 _ rfl (by kernel_rfl) Ent.rfl (Val.move rfl) rfl ?_); all_goals (first | refine A.take 1 _ rfl (by kernel_rfl) Ent.rfl (Val.indexAddrA1 rfl rfl (by omega)) rfl ?_ | refine A.take 1 _ rfl (by kernel_rfl) Ent.rfl (Val.indexAddrA rfl rfl (by omega)) rfl ?_ | refine A.take 1 _ rfl (by kernel_rfl) Ent.rfl (Val.indexAddr1 rfl rfl (by omega)) rfl ?_ | refine A.take 1 _ rfl (by kernel_rfl) Ent.rfl (Val.indexAddrN rfl rfl (by omega)) rfl ?_ | refine A.take 1 _ rfl (by kernel_rfl) Ent.rfl (Val.indexAddr rfl rfl (by omega) (by omega)) rfl ?_); all_goals (first | refine A.take 2 _ rfl (by kernel_rfl) Ent.rfl (Val.load rfl (by (repeat first | exact Rd.blk .zero rfl | assumption | apply Rd.tail); done)) rfl ?_ | refine A.take 2 _ rfl (by kernel_rfl) Ent.rfl (Val.loadAggR rfl (by (repeat first | exact RdA.whole .zero | assumption | apply RdA.tail); done) (by exact rfl)) rfl ?_); all_goals (refine A.take 3 _ rfl (by kernel_rfl) Ent.rfl (Val.move rfl) rfl ?_); all_goals (first | refine A.take 4 _ rfl (by kernel_rfl) Ent.rfl (Val.indexAddrA1 rfl rfl (by omega)) rfl ?_ | refine A.take 4 _ rfl (by kernel_rfl) Ent.rfl (Val.indexAddrA rfl rfl (by omega)) rfl ?_ | refine A.take 4 _ rfl (by kernel_rfl) Ent.rfl (Val.indexAddr1 rfl rfl (by omega)) rfl ?_ | refine A.take 4 _ rfl (by kernel_rfl) Ent.rfl (Val.indexAddrN rfl rfl (by omega)) rfl ?_ | refine A.take 4 _ rfl (by kernel_rfl) Ent.rfl (Val.indexAddr rfl rfl (by omega) (by omega)) rfl ?_); all_goals (first | refine A.take 5 _ rfl (by kernel_rfl) Ent.rfl (Val.load rfl (by (repeat first | exact Rd.blk .zero rfl | assumption | apply Rd.tail); done)) rfl ?_ | refine A.take 5 _ rfl (by kernel_rfl) Ent.rfl (Val.loadAggR rfl (by (repeat first | exact RdA.whole .zero | assumption | apply RdA.tail); done) (by exact rfl)) rfl ?_); all_goals (first | refine A.take 6 _ rfl (by kernel_rfl) Ent.rfl (Val.addU rfl rfl) rfl ?_ | refine A.take 6 _ rfl (by kernel_rfl) Ent.rfl (Val.add64 rfl rfl (by omega)) rfl ?_ | refine A.take 6 _ rfl (by kernel_rfl) Ent.rfl (Val.add rfl rfl) rfl ?_ | refine A.take 6 _ rfl (by kernel_rfl) Ent.rfl (Val.addStr rfl rfl (by omega)) rfl ?_); all_goals (first | (refine A.one 7 rfl (by kernel_rfl) ?_; refine Do.val (Val.indexAddrA1 rfl rfl (by omega)) rfl ⟨(no_held (by kernel_rfl)), ?_⟩) | (refine A.one 7 rfl (by kernel_rfl) ?_; refine Do.val (Val.indexAddrA rfl rfl (by omega)) rfl ⟨(no_held (by kernel_rfl)), ?_⟩) | (refine A.one 7 rfl (by kernel_rfl) ?_; refine Do.val (Val.indexAddr1 rfl rfl (by omega)) rfl ⟨(no_held (by kernel_rfl)), ?_⟩) | (refine A.one 7 rfl (by kernel_rfl) ?_; refine Do.val (Val.indexAddrN rfl rfl (by omega)) rfl ⟨(no_held (by kernel_rfl)), ?_⟩) | (refine A.one 7 rfl (by kernel_rfl) ?_; refine Do.val (Val.indexAddr rfl rfl (by omega) (by omega)) rfl ⟨(no_held (by kernel_rfl)), ?_⟩)))
    refine A.one 8 rfl (by kernel_rfl) ?_
    refine Do.store rfl rfl rfl (.succ (.succ .zero)) (by rw [Nat.zero_add]; exact setAt_mid hzl) ⟨(no_held (by kernel_rfl)), ?_⟩
    refine A.done (by kernel_rfl) ?_
    (repeat' first | (apply O.move; exact rfl; exact rfl) | apply W.region | apply O.nil | apply Fin.next | (apply O.add64; exact rfl; exact rfl; omega; exact rfl) | apply Fin.block_normal)
    exact Fin.round (j + 1) hjt (by omega) (sub_cons rfl (sub_cons rfl (sub_cons rfl (sub_cons rfl sub_nil)))) (by rw [z1, List.append_assoc]; exact Ent.rfl)
  obtain rfl : j = 8 := by omega
  have hlen : (((List.zipWith (· + ·) sl vl).take 8 ++ sl.drop 8).map u32v).length = 8 := by simp; omega
  have hones := u32v_one ((List.zipWith (· + ·) sl vl).take 8 ++ sl.drop 8)
  have hfin : ((List.zipWith (· + ·) sl vl).take 8 ++ sl.drop 8).map u32v = (List.zipWith (· + ·) sl vl).map u32v := by
    rw [List.take_of_length_le (by simp; omega), List.drop_of_length_le (by omega), List.append_nil]
  rw [← hfin]
  generalize ((List.zipWith (· + ·) sl vl).take 8 ++ sl.drop 8).map u32v = l at *
  (repeat' first | (refine O.loadAggR rfl (RdA.whole (.succ (.succ .zero))) hlen rfl ?_) | apply W.seq | apply W.region | apply O.nil | apply Fin.next | (apply O.lss_f; exact rfl; exact rfl; omega; exact rfl) | (apply W.cond_f; exact rfl) | apply W.exit | apply Fin.then_exit | apply Fin.block_hit)
  refine O.storeAgg rfl rfl hlen hones (.succ .zero) (setAts_whole (by rw [hlen]; rfl)) ?_
  (repeat' first | apply O.nil | apply Fin.next | apply W.ret)
  apply Fin.retC
  · exact .agg rfl (RdA.whole (.succ .zero)) hlen .nil
  exact ⟨R, (by (repeat first | exact Ent.rfl | exact Ent.nil | refine Ent.cons ?_ | (apply Ent.pull; exact (by (repeat first | exact Pull.zero | apply Pull.succ); done)) | refine Ent.drop ?_); done), rfl, rfl⟩
end Go.Proofs
