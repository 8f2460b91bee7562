/- the document's hash. -/
import Derived.Test.YtaghckfpnfkihaaHash2
import Derived.Test.YtaghckfpnfkihaaCloud
namespace Go.Proofs
set_option linter.unusedVariables false
open Go.Bs
set_option linter.unusedSimpArgs false
attribute [local irreducible] Bs.Val Bs.Do Bs.O Bs.W Bs.Fin Bs.A Bs.Ct Bs.RdSl Bs.Rd Bs.Sat Bs.Blk Bs.Ob Bs.Own Bs.View Bs.Ent Bs.Ex Bs.All Bs.Pu Bs.Base Bs.sepL Bs.RdA
theorem RdB.cutLo {L : List Res} {ad : Option Addr} {c k : Nat} {l : List UInt8} (h : RdB L (.slice ad l.length c) l) (hk : k ≤ l.length) : RdB L (.slice (cutAt ad c k 1) (l.length - k) (c - k)) (l.drop k) := by
  have := RdSl.cutLo (L := L) h hk
  rw [Nat.mul_one, ← List.map_drop] at this
  unfold RdB
  rw [List.length_drop]; exact this
theorem w64 (n : Nat) (h : n < 18446744073709551616) : IntKind.u64.wrap (n : Int) = (n : Int) := by
  unfold IntKind.wrap
  simp only [IntKind.bits, IntKind.signed]
  simp
  omega
theorem tmod64 (n : Nat) : ((n : Int)).tmod 64 = ((n % 64 : Nat) : Int) := by
  rw [Int.tmod_eq_emod_of_nonneg (by omega)]; rfl
theorem be_drop (n : Nat) : ∀ (j m : Nat), m < j → (be n j).drop m = UInt8.ofNat (n / 256 ^ (j - 1 - m)) :: (be n j).drop (m + 1)
  | 0, _, h => by omega
  | j + 1, 0, _ => by simp [be]
  | j + 1, m + 1, h => by
    have := be_drop n j m (by omega)
    simp only [be, List.drop_succ_cons]
    rw [this, show j + 1 - 1 - (m + 1) = j - 1 - m by omega]
theorem take_step {α : Type} {l : List α} {m : Nat} {x : α} (h : l.drop m = x :: l.drop (m + 1)) : l.take (m + 1) = l.take m ++ [x] := by
  have h1 : m < l.length := by
    rcases Nat.lt_or_ge m l.length with h2 | h2
    · exact h2
    · rw [List.drop_of_length_le h2] at h; cases h
  rw [List.drop_eq_getElem_cons h1] at h
  rw [List.take_succ_eq_append_getElem h1, (List.cons.inj h).1]
/-- The length's bytes. -/
theorem len8_byte (n m : Nat) (hm : m < 8) (hn : n < 1152921504606846976) : IntKind.u8.wrap (((n * 8 : Nat) : Int).fdiv (2 ^ (min (8 * (7 - (m : Int))).toNat 64))) = ((UInt8.ofNat (n * 8 / 256 ^ (7 - m))).toNat : Int) := by
  have e1 : (8 * (7 - (m : Int))).toNat = 8 * (7 - m) := by omega
  rw [e1, Nat.min_eq_left (by omega), Int.fdiv_eq_ediv_of_nonneg _ (Int.pow_nonneg (by decide))]
  have e2 : (2 : Int) ^ (8 * (7 - m)) = ((256 ^ (7 - m) : Nat) : Int) := by
    rw [Int.natCast_pow, Int.pow_mul]; rfl
  rw [e2, ← Int.natCast_ediv, w8]
  simp
theorem cells_len (s : S8) : s.cells.length = 8 := rfl
theorem outP_length (s : S8) (i : Nat) (h : i ≤ 8) : ((s.list.take i).flatMap outW).length = 4 * i := by
  have h1 : ∀ l : List UInt32, (l.flatMap outW).length = 4 * l.length := fun l => by
    induction l with
    | nil => rfl
    | cons x l ih => rw [List.flatMap_cons, List.length_append, ih]; simp [outW]; omega
  rw [h1, List.length_take]
  have : s.list.length = 8 := rfl
  omega
set_option maxHeartbeats 2000000 in
theorem sum2_spec (R : List Res) (e : World) (v : Value) (b : List UInt8) (hv : RdB R v b) (hb : b.length ≤ 1000000000000) :
    Ct Try.prog 37 #[v] e R (fun v' L' => ∃ ad c, v' = .slice ad (sha b).length c ∧ L' = OwnB (.slice ad (sha b).length c) (sha b) :: R) := by
  refine Ct.of_sep (hv.shape (by omega)) ?_
  rintro ⟨⟨ad, cap, rfl, h3, h4, h5, h6⟩, _⟩
  simp only [maxLen] at h4
  refine Ct.enter (args := [_]) Try.func37 rfl Try.ntmps37 Try.results37 rfl ?_
  (repeat' first | (refine O.buildArr (cs := h0P.cells) rfl rfl rfl (by (repeat first | exact Bs.Parts.nil | apply Bs.Parts.one rfl rfl | apply Bs.Parts.one (Bs.cells_one (by assumption)) rfl | (apply Bs.Parts.agg; exact rfl)); done) rfl ?_) | (refine O.alloc (cs := (List.replicate 8 (0 : UInt32)).map u32v) rfl rfl ?_; intro _) | (refine O.storeAgg (vs := h0P.cells) rfl rfl rfl (u32v_one h0P.list) .zero (setAts_whole rfl) ?_) | (apply O.assign; exact rfl; exact rfl) | apply W.seq | apply W.region | apply O.nil | apply Fin.next)
  rename_i g3
  refine O.call rfl rfl (consts_spec _ e) ?_
  rintro _ _ ⟨rfl, rfl⟩
  (repeat' first | (refine O.alloc (cs := (List.replicate 64 (0 : UInt32)).map u32v) rfl rfl ?_; intro _) | (refine O.storeAgg (vs := kw.map u32v) rfl rfl rfl (u32v_one kw) .zero (setAts_whole rfl) ?_) | (apply O.move; exact rfl; exact rfl) | (apply O.assign; exact rfl; exact rfl) | apply W.seq | apply W.region | apply O.nil | apply Fin.next | (apply O.len; exact rfl; exact rfl) | apply W.block)
  rename_i g4
  refine W.loop (ι := Nat × S8 × Option Addr × Nat) (fun i => [(0, .slice i.2.2.1 (b.drop (64 * i.1)).length i.2.2.2), (3, .pointer (some ⟨g3, 0, none⟩)), (4, .pointer (some ⟨g4, 0, none⟩)), (5, .int .i64 (b.length : Int))])
    (fun i => Blk g3 i.2.1.cells 72 (0, 0) :: Blk g4 (kw.map u32v) 73 (0, 0) :: R)
    (fun i => 64 * i.1 ≤ b.length ∧ (∀ T, foldB h0P (b ++ T) = foldB i.2.1 (b.drop (64 * i.1) ++ T)) ∧ RdB R (.slice i.2.2.1 (b.drop (64 * i.1)).length i.2.2.2) (b.drop (64 * i.1)) ∧ (b.drop (64 * i.1)).length ≤ i.2.2.2 ∧ i.2.2.2 ≤ cap) (fun i => b.length - 64 * i.1) (0, h0P, ad, cap)
    ⟨by omega, fun _ => rfl, hv, h3, Nat.le_refl _⟩ (sub_cons rfl (sub_cons rfl (sub_cons rfl (sub_cons rfl sub_nil)))) (by (repeat first | exact Ent.rfl | exact Ent.nil | refine Ent.cons ?_ | (apply Ent.pull; exact (by (repeat first | exact Pull.zero | apply Pull.succ); done)) | refine Ent.drop ?_); done) ?_
  rintro ⟨i, S, ad1, c1⟩ ⟨hi, hf, hrb, hc1, hc2⟩
  dsimp only at hi hf hrb hc1 hc2 ⊢
  have hbl : (b.drop (64 * i)).length = b.length - 64 * i := List.length_drop
  have hdd : (b.drop (64 * i)).drop 64 = b.drop (64 * (i + 1)) := by rw [List.drop_drop, show 64 * i + 64 = 64 * (i + 1) by omega]
  by_cases hlt : 64 ≤ (b.drop (64 * i)).length
  · have hcut := RdB.cutHi hrb hlt
    have hlo := RdB.cutLo hrb hlt
    have htl : ((b.drop (64 * i)).take 64).length = 64 := by rw [List.length_take]; omega
    have hf2 : ∀ T, foldB h0P (b ++ T) = foldB (blockP S ((b.drop (64 * i)).take 64)) (b.drop (64 * (i + 1)) ++ T) := fun T => by
      rw [hf T, foldB_step (by rw [List.length_append]; omega), List.take_append_of_le_length hlt, List.drop_append_of_le_length hlt, hdd]
    rw [hdd] at hlo
    have hl2 : (b.drop (64 * (i + 1))).length = (b.drop (64 * i)).length - 64 := by rw [List.length_drop, hbl]; omega
    rw [← hl2] at hlo
    generalize hB : b.drop (64 * i) = B at *
    (repeat' first | (apply O.move; exact rfl; exact rfl) | apply W.seq | apply W.region | apply O.nil | apply Fin.next | (apply O.len; exact rfl; exact rfl) | (apply O.geq_t; exact rfl; exact rfl; omega; exact rfl) | (apply W.cond_t; exact rfl) | apply W.block | apply W.skip)
    refine A.start (id := 5) [4] Try.mixed ?_
    (all_goals (first | refine A.take 0 _ rfl (by kernel_rfl) Ent.rfl (Val.load rfl (by (repeat first | exact Rd.blk .zero rfl | assumption | apply Rd.tail); done)) rfl ?_ | refine A.take 0 _ rfl (by kernel_rfl) Ent.rfl (Val.loadAggR rfl (by (repeat first | exact RdA.whole .zero | assumption | apply RdA.tail); done) (by exact rfl)) rfl ?_); all_goals (refine A.take 1 _ rfl (by kernel_rfl) Ent.rfl (Val.move rfl) rfl ?_); all_goals (first | refine A.take 2 _ rfl (by kernel_rfl) Ent.rfl (Val.sliceHi rfl rfl (by omega) (by omega)) rfl ?_ | refine A.take 2 _ rfl (by kernel_rfl) Ent.rfl (Val.sliceLo rfl rfl (by omega) (by omega)) rfl ?_ | refine A.take 2 _ rfl (by kernel_rfl) Ent.rfl (Val.sliceLoHi rfl rfl rfl (by omega) (by omega) (by omega)) rfl ?_))
    refine A.one 3 rfl (by kernel_rfl) ?_
    refine Do.call rfl rfl (block_spec _ e S _ (B.take 64) g4 hcut.tail.tail htl (RdA.whole (.succ .zero))) ?_
    rintro _ _ ⟨rfl, rfl⟩
    refine ⟨fun _ => Ent.rfl, ?_⟩
    generalize blockP S (B.take 64) = S2 at *
    refine A.one 4 rfl (by kernel_rfl) ?_
    refine Do.storeAgg (vs := S2.cells) rfl rfl (cells_len S2) (u32v_one S2.list) .zero (setAts_whole ((cells_len S).trans (cells_len S2).symm)) ⟨(no_held (by kernel_rfl)), ?_⟩
    refine A.done (by kernel_rfl) ?_
    (repeat' first | (apply O.move; exact rfl; exact rfl) | (apply O.assign; exact rfl; exact rfl) | apply W.region | apply O.nil | apply Fin.next | (apply O.sliceLo; exact rfl; exact rfl; omega; omega; exact rfl) | apply Fin.block_normal)
    refine Fin.round (i + 1, S2, cutAt ad1 c1 64 1, c1 - 64) ⟨by omega, hf2, hlo, by dsimp only; omega, by dsimp only; omega⟩ (by dsimp only; omega) ?_ (by (repeat first | exact Ent.rfl | exact Ent.nil | refine Ent.cons ?_ | (apply Ent.pull; exact (by (repeat first | exact Pull.zero | apply Pull.succ); done)) | refine Ent.drop ?_); done)
    dsimp only
    rw [hl2]
    exact sub_cons rfl (sub_cons rfl (sub_cons rfl (sub_cons rfl sub_nil)))
  have hzb : zs b.length = zs (b.drop (64 * i)).length := by unfold zs; omega
  generalize b.drop (64 * i) = B at *
  have hB : B.length < 64 := by omega
  (repeat' first | (apply O.move; exact rfl; exact rfl) | apply W.seq | apply W.region | apply O.nil | apply Fin.next | (apply O.len; exact rfl; exact rfl) | (apply O.geq_f; exact rfl; exact rfl; omega; exact rfl) | (apply O.buildSlice; exact rfl; exact rfl; exact rfl; (focus ((repeat first | exact Bs.Parts.nil | apply Bs.Parts.one rfl rfl | apply Bs.Parts.one (Bs.cells_one (by assumption)) rfl | (apply Bs.Parts.agg; exact rfl)); done)); exact rfl; exact rfl; intro _) | (apply W.cond_f; exact rfl) | apply W.exit | apply Fin.then_exit | apply Fin.block_hit)
  refine O.do <| Do.ent1 (own_in (n := 1) (k := 0) (cap := 0) (by omega) (by simp [maxLen]) (by simp)) (Do.append rfl rfl rfl .zero hrb.tail.tail rfl rfl u8_one (by simp only [maxLen]; omega) (by omega) fun ad3 c3 _ => ?_)
  simp only [Nat.zero_add, Nat.zero_mul, List.take_zero, List.nil_append]
  (repeat' first | (apply O.buildSlice; exact rfl; exact rfl; exact rfl; (focus ((repeat first | exact Bs.Parts.nil | apply Bs.Parts.one rfl rfl | apply Bs.Parts.one (Bs.cells_one (by assumption)) rfl | (apply Bs.Parts.agg; exact rfl)); done)); exact rfl; exact rfl; intro _))
  refine O.do (Do.append rfl rfl rfl (.succ .zero) (RdSl.blk .zero rfl (by simp [maxLen])) rfl rfl (by (repeat first | exact one_nil | (apply one_cons; first | exact rfl | assumption)); done) (by simp only [maxLen]; omega) (by omega) fun ad4 c4 _ => ?_)
  (repeat' first | (apply O.assign; exact rfl; exact rfl) | apply W.seq | apply O.nil | apply Fin.next | apply W.block)
  refine W.loop (ι := Nat × Option Addr × Nat) (fun i => [(6, .slice i.2.1 (B.length + 1 + i.1) i.2.2), (3, .pointer (some ⟨g3, 0, none⟩)), (4, .pointer (some ⟨g4, 0, none⟩)), (5, .int .i64 (b.length : Int))])
    (fun i => Own tU8 1 (.slice i.2.1 (B.length + 1 + i.1) i.2.2) (B.length + 1 + i.1) ((B ++ 128 :: List.replicate i.1 0).map u8) :: Blk g3 S.cells 72 (0, 0) :: Blk g4 (kw.map u32v) 73 (0, 0) :: R)
    (fun i => i.1 ≤ zs B.length) (fun i => zs B.length - i.1) (0, ad4, c4)
    (Nat.zero_le _) (sub_cons rfl (sub_cons rfl (sub_cons rfl (sub_cons rfl sub_nil)))) (by dsimp only; rw [List.map_append]; exact (by (repeat first | exact Ent.rfl | exact Ent.nil | refine Ent.cons ?_ | (apply Ent.pull; exact (by (repeat first | exact Pull.zero | apply Pull.succ); done)) | refine Ent.drop ?_); done)) ?_
  rintro ⟨z, ad5, c5⟩ hz
  dsimp only at hz ⊢
  have hz64 : zs B.length < 64 := by unfold zs; omega
  have hzd : zs B.length = (119 - B.length % 64) % 64 := rfl
  have htm := tmod64 (B.length + 1 + z)
  by_cases hzt : z < zs B.length
  · (repeat' first | (apply O.move; exact rfl; exact rfl) | apply W.seq | apply W.region | apply O.nil | apply Fin.next | (apply O.len; exact rfl; exact rfl) | (apply O.neq_t; exact rfl; exact rfl; omega; exact rfl) | (apply O.buildSlice; exact rfl; exact rfl; exact rfl; (focus ((repeat first | exact Bs.Parts.nil | apply Bs.Parts.one rfl rfl | apply Bs.Parts.one (Bs.cells_one (by assumption)) rfl | (apply Bs.Parts.agg; exact rfl)); done)); exact rfl; exact rfl; intro _) | (apply W.cond_t; exact rfl) | apply W.block | apply W.skip | (apply O.rem; exact rfl; exact rfl; omega; exact rfl))
    refine O.do (Do.append rfl rfl rfl (.succ .zero) (RdSl.blk .zero rfl (by simp [maxLen])) rfl rfl (by (repeat first | exact one_nil | (apply one_cons; first | exact rfl | assumption)); done) (by simp only [maxLen]; omega) (by omega) fun ad6 c6 _ => ?_)
    (repeat' first | (apply O.assign; exact rfl; exact rfl) | apply O.nil | apply Fin.block_normal)
    refine Fin.round (z + 1, ad6, c6) hzt (by dsimp only; omega) (sub_cons rfl (sub_cons rfl (sub_cons rfl (sub_cons rfl sub_nil)))) ?_
    dsimp only
    have he : (B ++ 128 :: List.replicate (z + 1) (0 : UInt8)).map u8 = (B ++ 128 :: List.replicate z 0).map u8 ++ [.int .u8 0] := by
      rw [List.replicate_succ', show B ++ 128 :: (List.replicate z 0 ++ [0]) = (B ++ 128 :: List.replicate z (0 : UInt8)) ++ [0] by simp, List.map_append]
      rfl
    rw [he]
    exact (by (repeat first | exact Ent.rfl | exact Ent.nil | refine Ent.cons ?_ | (apply Ent.pull; exact (by (repeat first | exact Pull.zero | apply Pull.succ); done)) | refine Ent.drop ?_); done)
  obtain rfl : z = zs B.length := by omega
  have hXl : (B ++ 128 :: List.replicate (zs B.length) (0 : UInt8)).length = B.length + 1 + zs B.length := by simp; omega
  have hpad : ∀ m, (B ++ 128 :: List.replicate (zs B.length) (0 : UInt8)) ++ m = B ++ 128 :: (List.replicate (zs B.length) 0 ++ m) := fun m => by simp
  rw [← hXl] at htm ⊢
  have hX128 : (B ++ 128 :: List.replicate (zs B.length) (0 : UInt8)).length ≤ 128 := by omega
  have hX56 : (B ++ 128 :: List.replicate (zs B.length) (0 : UInt8)).length % 64 = 56 := by omega
  have hsha : sha b = outP (foldB S (B ++ 128 :: (List.replicate (zs B.length) 0 ++ len8 b.length))) := by
    rw [sha, hf, padT, hzb]
  rw [← hpad] at hsha
  clear hpad hXl
  generalize B ++ 128 :: List.replicate (zs B.length) (0 : UInt8) = X at *
  have h8 : (len8 b.length).length = 8 := be_length _ _
  (repeat' first | (apply O.move; exact rfl; exact rfl) | (apply O.assign; exact rfl; exact rfl) | apply W.seq | apply W.region | apply O.nil | apply Fin.next | (apply O.len; exact rfl; exact rfl) | (apply O.neq_f; exact rfl; exact rfl; omega; exact rfl) | (apply W.cond_f; exact rfl) | apply W.block | apply W.exit | apply Fin.then_exit | apply Fin.block_hit | (apply O.rem; exact rfl; exact rfl; omega; exact rfl))
  refine W.loop (ι := Nat × Option Addr × Nat) (fun i => [(7, .int .i64 (7 - (i.1 : Int))), (6, .slice i.2.1 (X.length + i.1) i.2.2), (3, .pointer (some ⟨g3, 0, none⟩)), (4, .pointer (some ⟨g4, 0, none⟩)), (5, .int .i64 (b.length : Int))])
    (fun i => Own tU8 1 (.slice i.2.1 (X.length + i.1) i.2.2) (X.length + i.1) ((X ++ (len8 b.length).take i.1).map u8) :: Blk g3 S.cells 72 (0, 0) :: Blk g4 (kw.map u32v) 73 (0, 0) :: R)
    (fun i => i.1 ≤ 8) (fun i => 8 - i.1) (0, ad5, c5)
    (Nat.zero_le _) (sub_cons rfl (sub_cons rfl (sub_cons rfl (sub_cons rfl (sub_cons rfl sub_nil))))) (by dsimp only; rw [List.take_zero, List.append_nil]; exact (by (repeat first | exact Ent.rfl | exact Ent.nil | refine Ent.cons ?_ | (apply Ent.pull; exact (by (repeat first | exact Pull.zero | apply Pull.succ); done)) | refine Ent.drop ?_); done)) ?_
  rintro ⟨m, ad7, c7⟩ hm
  dsimp only at hm ⊢
  by_cases hmt : m < 8
  · have hbyte := len8_byte b.length m hmt (by omega)
    have hw1 := w64 b.length (by omega)
    have hw2 : IntKind.u64.wrap ((b.length : Int) * 8) = ((b.length * 8 : Nat) : Int) := by
      rw [← w64 (b.length * 8) (by omega)]; rfl
    have hw3 : IntKind.u64.wrap (7 - (m : Int)) = 7 - (m : Int) := by
      rw [show (7 - (m : Int)) = ((7 - m : Nat) : Int) by omega]; exact w64 _ (by omega)
    have hw4 : IntKind.u64.wrap (8 * (7 - (m : Int))) = 8 * (7 - (m : Int)) := by
      rw [show (8 * (7 - (m : Int))) = ((8 * (7 - m) : Nat) : Int) by omega]; exact w64 _ (by omega)
    (repeat' first | (apply O.shr; exact rfl; exact rfl; (rw [hw3, hw4]; omega); exact rfl) | (apply O.convInt; exact rfl; exact rfl) | (apply O.move; exact rfl; exact rfl) | apply W.seq | apply W.region | apply O.nil | apply Fin.next | (apply O.geq_t; exact rfl; exact rfl; omega; exact rfl) | (apply O.mul; exact rfl; exact rfl; exact rfl) | (apply O.buildSlice; exact rfl; exact rfl; exact rfl; (focus ((repeat first | exact Bs.Parts.nil | apply Bs.Parts.one rfl rfl | apply Bs.Parts.one (Bs.cells_one (by assumption)) rfl | (apply Bs.Parts.agg; exact rfl)); done)); exact rfl; exact rfl; intro _) | (apply W.cond_t; exact rfl) | apply W.block | apply W.skip)
    rw [hw1, hw2, hw3, hw4, show IntKind.u64.bits = 64 from rfl, hbyte]
    have hdr := be_drop (b.length * 8) 8 m hmt
    have hstep : (len8 b.length).take (m + 1) = (len8 b.length).take m ++ [UInt8.ofNat (b.length * 8 / 256 ^ (7 - m))] := take_step hdr
    clear hbyte hdr
    generalize UInt8.ofNat (b.length * 8 / 256 ^ (7 - m)) = cc at *
    have htk : (X ++ (len8 b.length).take (m + 1)).map u8 = (X ++ (len8 b.length).take m).map u8 ++ [u8 cc] := by
      rw [hstep, ← List.append_assoc, List.map_append]; rfl
    generalize X ++ (len8 b.length).take m = Y at *
    refine O.do (Do.append rfl rfl rfl (.succ .zero) (RdSl.blk .zero rfl (by simp [maxLen])) rfl rfl (by (repeat first | exact one_nil | (apply one_cons; first | exact rfl | assumption)); done) (by simp only [maxLen]; omega) (by omega) fun ad6 c6 _ => ?_)
    (repeat' first | (apply O.move; exact rfl; exact rfl) | (apply O.assign; exact rfl; exact rfl) | apply W.region | apply O.nil | apply Fin.next | (apply O.sub64; exact rfl; exact rfl; omega; exact rfl) | apply Fin.block_normal)
    refine Fin.round (m + 1, ad6, c6) hmt (by dsimp only; omega) ?_ ?_
    · dsimp only
      rw [show (7 - ((m + 1 : Nat) : Int)) = 7 - (m : Int) - 1 by omega]
      exact sub_cons rfl (sub_cons rfl (sub_cons rfl (sub_cons rfl (sub_cons rfl sub_nil))))
    · dsimp only
      rw [htk]
      exact (by (repeat first | exact Ent.rfl | exact Ent.nil | refine Ent.cons ?_ | (apply Ent.pull; exact (by (repeat first | exact Pull.zero | apply Pull.succ); done)) | refine Ent.drop ?_); done)
  obtain rfl : m = 8 := by omega
  rw [List.take_of_length_le (by omega)]
  have hYl : (X ++ len8 b.length).length = X.length + 8 := by rw [List.length_append, h8]
  have hY64 : (X ++ len8 b.length).length % 64 = 0 := by omega
  rw [← hYl]
  generalize X ++ len8 b.length = Y at *
  (repeat' first | (apply O.move; exact rfl; exact rfl) | apply W.seq | apply W.region | apply O.nil | apply Fin.next | (apply O.geq_f; exact rfl; exact rfl; omega; exact rfl) | (apply W.cond_f; exact rfl) | apply W.block | apply W.exit | apply Fin.then_exit | apply Fin.block_hit)
  refine W.of_sep (ownB_cap .zero) ?_
  rintro ⟨ad8, c8, hq, hcap, hcap2⟩
  obtain ⟨rfl, _, rfl⟩ := Value.slice.inj hq
  clear hq
  simp only [maxLen] at hcap2
  refine W.loop (ι := Nat × S8 × Option Addr × Nat) (fun i => [(6, .slice i.2.2.1 (Y.drop (64 * i.1)).length i.2.2.2), (3, .pointer (some ⟨g3, 0, none⟩)), (4, .pointer (some ⟨g4, 0, none⟩))])
    (fun i => Blk g3 i.2.1.cells 72 (0, 0) :: OwnB (.slice ad7 Y.length c7) Y :: Blk g4 (kw.map u32v) 73 (0, 0) :: R)
    (fun i => 64 * i.1 ≤ Y.length ∧ (foldB S Y = foldB i.2.1 (Y.drop (64 * i.1))) ∧ RdB (OwnB (.slice ad7 Y.length c7) Y :: Blk g4 (kw.map u32v) 73 (0, 0) :: R) (.slice i.2.2.1 (Y.drop (64 * i.1)).length i.2.2.2) (Y.drop (64 * i.1)) ∧ (Y.drop (64 * i.1)).length ≤ i.2.2.2 ∧ i.2.2.2 ≤ 9223372036854775807) (fun i => Y.length - 64 * i.1) (0, S, ad7, c7)
    ⟨by omega, rfl, RdSl.own .zero, hcap, by dsimp only; omega⟩ (sub_cons rfl (sub_cons rfl (sub_cons rfl sub_nil))) (by (repeat first | exact Ent.rfl | exact Ent.nil | refine Ent.cons ?_ | (apply Ent.pull; exact (by (repeat first | exact Pull.zero | apply Pull.succ); done)) | refine Ent.drop ?_); done) ?_
  rintro ⟨i, V, ad9, c9⟩ ⟨hi, hf, hrb, hc1, hc2⟩
  dsimp only at hi hf hrb hc1 hc2 ⊢
  have hbl : (Y.drop (64 * i)).length = Y.length - 64 * i := List.length_drop
  have hdd : (Y.drop (64 * i)).drop 64 = Y.drop (64 * (i + 1)) := by rw [List.drop_drop, show 64 * i + 64 = 64 * (i + 1) by omega]
  by_cases hlt : 0 < (Y.drop (64 * i)).length
  · have hlt : 64 ≤ (Y.drop (64 * i)).length := by omega
    have hcut := RdB.cutHi hrb hlt
    have hlo := RdB.cutLo hrb hlt
    have htl : ((Y.drop (64 * i)).take 64).length = 64 := by rw [List.length_take]; omega
    have hf2 : foldB S Y = foldB (blockP V ((Y.drop (64 * i)).take 64)) (Y.drop (64 * (i + 1))) := by
      rw [hf, foldB_step hlt, hdd]
    rw [hdd] at hlo
    have hl2 : (Y.drop (64 * (i + 1))).length = (Y.drop (64 * i)).length - 64 := by rw [List.length_drop, hbl]; omega
    rw [← hl2] at hlo
    generalize hBB : Y.drop (64 * i) = B2 at *
    (repeat' first | (apply O.move; exact rfl; exact rfl) | apply W.seq | apply W.region | apply O.nil | apply Fin.next | (apply O.len; exact rfl; exact rfl) | (apply O.gtr_t; exact rfl; exact rfl; omega; exact rfl) | (apply W.cond_t; exact rfl) | apply W.block | apply W.skip)
    refine A.start (id := 15) [4] Try.mixed ?_
    (all_goals (first | refine A.take 0 _ rfl (by kernel_rfl) Ent.rfl (Val.load rfl (by (repeat first | exact Rd.blk .zero rfl | assumption | apply Rd.tail); done)) rfl ?_ | refine A.take 0 _ rfl (by kernel_rfl) Ent.rfl (Val.loadAggR rfl (by (repeat first | exact RdA.whole .zero | assumption | apply RdA.tail); done) (by exact rfl)) rfl ?_); all_goals (refine A.take 1 _ rfl (by kernel_rfl) Ent.rfl (Val.move rfl) rfl ?_); all_goals (first | refine A.take 2 _ rfl (by kernel_rfl) Ent.rfl (Val.sliceHi rfl rfl (by omega) (by omega)) rfl ?_ | refine A.take 2 _ rfl (by kernel_rfl) Ent.rfl (Val.sliceLo rfl rfl (by omega) (by omega)) rfl ?_ | refine A.take 2 _ rfl (by kernel_rfl) Ent.rfl (Val.sliceLoHi rfl rfl rfl (by omega) (by omega) (by omega)) rfl ?_))
    refine A.one 3 rfl (by kernel_rfl) ?_
    refine Do.call rfl rfl (block_spec _ e V _ (B2.take 64) g4 hcut.tail htl (RdA.whole (.succ (.succ .zero)))) ?_
    rintro _ _ ⟨rfl, rfl⟩
    refine ⟨fun _ => Ent.rfl, ?_⟩
    generalize blockP V (B2.take 64) = V2 at *
    refine A.one 4 rfl (by kernel_rfl) ?_
    refine Do.storeAgg (vs := V2.cells) rfl rfl (cells_len V2) (u32v_one V2.list) .zero (setAts_whole ((cells_len V).trans (cells_len V2).symm)) ⟨(no_held (by kernel_rfl)), ?_⟩
    refine A.done (by kernel_rfl) ?_
    (repeat' first | (apply O.move; exact rfl; exact rfl) | (apply O.assign; exact rfl; exact rfl) | apply W.region | apply O.nil | apply Fin.next | (apply O.sliceLo; exact rfl; exact rfl; omega; omega; exact rfl) | apply Fin.block_normal)
    refine Fin.round (i + 1, V2, cutAt ad9 c9 64 1, c9 - 64) ⟨by omega, hf2, hlo, by dsimp only; omega, by dsimp only; omega⟩ (by dsimp only; omega) ?_ (by (repeat first | exact Ent.rfl | exact Ent.nil | refine Ent.cons ?_ | (apply Ent.pull; exact (by (repeat first | exact Pull.zero | apply Pull.succ); done)) | refine Ent.drop ?_); done)
    dsimp only
    rw [hl2]
    exact sub_cons rfl (sub_cons rfl (sub_cons rfl sub_nil))
  have hY0 : Y.drop (64 * i) = [] := List.eq_nil_of_length_eq_zero (by omega)
  have hfin : foldB S Y = V := by rw [hf, hY0]; exact foldB_end (by simp)
  rw [hsha, hfin]
  clear hf hsha hfin
  have hvl : V.list.length = 8 := rfl
  (repeat' first | (apply O.move; exact rfl; exact rfl) | (apply O.assign; exact rfl; exact rfl) | apply W.seq | apply W.region | apply O.nil | apply Fin.next | (apply O.len; exact rfl; exact rfl) | (apply O.gtr_f; exact rfl; exact rfl; omega; exact rfl) | (apply W.cond_f; exact rfl) | apply W.block | apply W.exit | apply Fin.then_exit | apply Fin.block_hit)
  rw [S8.cells_eq]
  refine W.loop (ι := Nat × Option Addr × Nat) (fun i => [(9, .int .i64 (i.1 : Int)), (8, .slice i.2.1 (4 * i.1) i.2.2), (3, .pointer (some ⟨g3, 0, none⟩))])
    (fun i => Own tU8 1 (.slice i.2.1 (4 * i.1) i.2.2) (4 * i.1) (((V.list.take i.1).flatMap outW).map u8) :: Blk g3 (V.list.map u32v) 72 (0, 0) :: R)
    (fun i => i.1 ≤ 8) (fun i => 8 - i.1) (0, none, 0)
    (Nat.zero_le _) (sub_cons rfl (sub_cons rfl (sub_cons rfl sub_nil))) ((own_nil tU8 1).trans (by (repeat first | exact Ent.rfl | exact Ent.nil | refine Ent.cons ?_ | (apply Ent.pull; exact (by (repeat first | exact Pull.zero | apply Pull.succ); done)) | refine Ent.drop ?_); done)) ?_
  rintro ⟨j, ad10, c10⟩ hj
  dsimp only at hj ⊢
  by_cases hjt : j < 8
  · have hr : Rd (Blk g3 (V.list.map u32v) 72 (0, 0) :: R) ⟨g3, 0 + j, none⟩ (u32v (V.list.getD j 0)) := rd_at (by omega) .zero (Nat.zero_add _)
    have hst : ((V.list.take (j + 1)).flatMap outW).map u8 = ((V.list.take j).flatMap outW).map u8 ++ (outW (V.list.getD j 0)).map u8 := by
      have h64 : j < V.list.length := hjt
      rw [List.take_succ_eq_append_getElem h64, List.flatMap_append, List.map_append, List.getD_eq_getElem?_getD, List.getElem?_eq_getElem h64]
      rfl
    generalize V.list.getD j 0 = x at *
    (repeat' first | (apply O.move; exact rfl; exact rfl) | apply W.seq | apply W.region | apply O.nil | apply Fin.next | (apply O.lss_t; exact rfl; exact rfl; omega; exact rfl) | (apply W.cond_t; exact rfl) | apply W.block | apply W.skip)
    refine A.begin (id := 21) [22] (Blk g3 (V.list.map u32v) 72 (0, 0) :: R) Try.mixed ?_
    (all_goals (refine A.take 0 _ rfl (by kernel_rfl) (by (repeat first | exact Ent.rfl | exact Ent.nil | refine Ent.cons ?_ | (apply Ent.pull; exact (by (repeat first | exact Pull.zero | apply Pull.succ); done)) | refine Ent.drop ?_); done) (Val.move rfl) rfl ?_); all_goals (refine A.take 1 _ rfl (by kernel_rfl) (by (repeat first | exact Ent.rfl | exact Ent.nil | refine Ent.cons ?_ | (apply Ent.pull; exact (by (repeat first | exact Pull.zero | apply Pull.succ); done)) | refine Ent.drop ?_); done) (Val.move rfl) rfl ?_); all_goals (first | refine A.take 2 _ rfl (by kernel_rfl) (by (repeat first | exact Ent.rfl | exact Ent.nil | refine Ent.cons ?_ | (apply Ent.pull; exact (by (repeat first | exact Pull.zero | apply Pull.succ); done)) | refine Ent.drop ?_); done) (Val.indexAddrA1 rfl rfl (by omega)) rfl ?_ | refine A.take 2 _ rfl (by kernel_rfl) (by (repeat first | exact Ent.rfl | exact Ent.nil | refine Ent.cons ?_ | (apply Ent.pull; exact (by (repeat first | exact Pull.zero | apply Pull.succ); done)) | refine Ent.drop ?_); done) (Val.indexAddrA rfl rfl (by omega)) rfl ?_ | refine A.take 2 _ rfl (by kernel_rfl) (by (repeat first | exact Ent.rfl | exact Ent.nil | refine Ent.cons ?_ | (apply Ent.pull; exact (by (repeat first | exact Pull.zero | apply Pull.succ); done)) | refine Ent.drop ?_); done) (Val.indexAddr1 rfl rfl (by omega)) rfl ?_ | refine A.take 2 _ rfl (by kernel_rfl) (by (repeat first | exact Ent.rfl | exact Ent.nil | refine Ent.cons ?_ | (apply Ent.pull; exact (by (repeat first | exact Pull.zero | apply Pull.succ); done)) | refine Ent.drop ?_); done) (Val.indexAddrN rfl rfl (by omega)) rfl ?_ | refine A.take 2 _ rfl (by kernel_rfl) (by (repeat first | exact Ent.rfl | exact Ent.nil | refine Ent.cons ?_ | (apply Ent.pull; exact (by (repeat first | exact Pull.zero | apply Pull.succ); done)) | refine Ent.drop ?_); done) (Val.indexAddr rfl rfl (by omega) (by omega)) rfl ?_); all_goals (first | refine A.take 3 _ rfl (by kernel_rfl) (by (repeat first | exact Ent.rfl | exact Ent.nil | refine Ent.cons ?_ | (apply Ent.pull; exact (by (repeat first | exact Pull.zero | apply Pull.succ); done)) | refine Ent.drop ?_); done) (Val.load rfl (by (repeat first | exact Rd.blk .zero rfl | assumption | apply Rd.tail); done)) rfl ?_ | refine A.take 3 _ rfl (by kernel_rfl) (by (repeat first | exact Ent.rfl | exact Ent.nil | refine Ent.cons ?_ | (apply Ent.pull; exact (by (repeat first | exact Pull.zero | apply Pull.succ); done)) | refine Ent.drop ?_); done) (Val.loadAggR rfl (by (repeat first | exact RdA.whole .zero | assumption | apply RdA.tail); done) (by exact rfl)) rfl ?_); all_goals (first | refine A.take 4 _ rfl (by kernel_rfl) (by (repeat first | exact Ent.rfl | exact Ent.nil | refine Ent.cons ?_ | (apply Ent.pull; exact (by (repeat first | exact Pull.zero | apply Pull.succ); done)) | refine Ent.drop ?_); done) (Val.shrU rfl rfl (by omega)) rfl ?_ | refine A.take 4 _ rfl (by kernel_rfl) (by (repeat first | exact Ent.rfl | exact Ent.nil | refine Ent.cons ?_ | (apply Ent.pull; exact (by (repeat first | exact Pull.zero | apply Pull.succ); done)) | refine Ent.drop ?_); done) (Val.shr rfl rfl (by omega)) rfl ?_); all_goals (first | refine A.take 5 _ rfl (by kernel_rfl) (by (repeat first | exact Ent.rfl | exact Ent.nil | refine Ent.cons ?_ | (apply Ent.pull; exact (by (repeat first | exact Pull.zero | apply Pull.succ); done)) | refine Ent.drop ?_); done) (Val.convU8 rfl) rfl ?_ | refine A.take 5 _ rfl (by kernel_rfl) (by (repeat first | exact Ent.rfl | exact Ent.nil | refine Ent.cons ?_ | (apply Ent.pull; exact (by (repeat first | exact Pull.zero | apply Pull.succ); done)) | refine Ent.drop ?_); done) (Val.conv8U rfl) rfl ?_ | refine A.take 5 _ rfl (by kernel_rfl) (by (repeat first | exact Ent.rfl | exact Ent.nil | refine Ent.cons ?_ | (apply Ent.pull; exact (by (repeat first | exact Pull.zero | apply Pull.succ); done)) | refine Ent.drop ?_); done) (Val.bytes rfl (by (repeat first | exact RdSl.own .zero | exact RdSl.view .zero | assumption | apply RdB.tail); done)) rfl ?_ | refine A.take 5 _ rfl (by kernel_rfl) (by (repeat first | exact Ent.rfl | exact Ent.nil | refine Ent.cons ?_ | (apply Ent.pull; exact (by (repeat first | exact Pull.zero | apply Pull.succ); done)) | refine Ent.drop ?_); done) (Val.convIntE rfl (by first | exact wrap_i64 (by omega) (by omega) | exact wrap_u32 (by omega) (by omega) | exact wrap_u8 (by omega) (by omega))) rfl ?_ | refine A.take 5 _ rfl (by kernel_rfl) (by (repeat first | exact Ent.rfl | exact Ent.nil | refine Ent.cons ?_ | (apply Ent.pull; exact (by (repeat first | exact Pull.zero | apply Pull.succ); done)) | refine Ent.drop ?_); done) (Val.convInt rfl) rfl ?_); all_goals (refine A.take 6 _ rfl (by kernel_rfl) (by (repeat first | exact Ent.rfl | exact Ent.nil | refine Ent.cons ?_ | (apply Ent.pull; exact (by (repeat first | exact Pull.zero | apply Pull.succ); done)) | refine Ent.drop ?_); done) (Val.move rfl) rfl ?_); all_goals (first | refine A.take 7 _ rfl (by kernel_rfl) (by (repeat first | exact Ent.rfl | exact Ent.nil | refine Ent.cons ?_ | (apply Ent.pull; exact (by (repeat first | exact Pull.zero | apply Pull.succ); done)) | refine Ent.drop ?_); done) (Val.indexAddrA1 rfl rfl (by omega)) rfl ?_ | refine A.take 7 _ rfl (by kernel_rfl) (by (repeat first | exact Ent.rfl | exact Ent.nil | refine Ent.cons ?_ | (apply Ent.pull; exact (by (repeat first | exact Pull.zero | apply Pull.succ); done)) | refine Ent.drop ?_); done) (Val.indexAddrA rfl rfl (by omega)) rfl ?_ | refine A.take 7 _ rfl (by kernel_rfl) (by (repeat first | exact Ent.rfl | exact Ent.nil | refine Ent.cons ?_ | (apply Ent.pull; exact (by (repeat first | exact Pull.zero | apply Pull.succ); done)) | refine Ent.drop ?_); done) (Val.indexAddr1 rfl rfl (by omega)) rfl ?_ | refine A.take 7 _ rfl (by kernel_rfl) (by (repeat first | exact Ent.rfl | exact Ent.nil | refine Ent.cons ?_ | (apply Ent.pull; exact (by (repeat first | exact Pull.zero | apply Pull.succ); done)) | refine Ent.drop ?_); done) (Val.indexAddrN rfl rfl (by omega)) rfl ?_ | refine A.take 7 _ rfl (by kernel_rfl) (by (repeat first | exact Ent.rfl | exact Ent.nil | refine Ent.cons ?_ | (apply Ent.pull; exact (by (repeat first | exact Pull.zero | apply Pull.succ); done)) | refine Ent.drop ?_); done) (Val.indexAddr rfl rfl (by omega) (by omega)) rfl ?_); all_goals (first | refine A.take 8 _ rfl (by kernel_rfl) (by (repeat first | exact Ent.rfl | exact Ent.nil | refine Ent.cons ?_ | (apply Ent.pull; exact (by (repeat first | exact Pull.zero | apply Pull.succ); done)) | refine Ent.drop ?_); done) (Val.load rfl (by (repeat first | exact Rd.blk .zero rfl | assumption | apply Rd.tail); done)) rfl ?_ | refine A.take 8 _ rfl (by kernel_rfl) (by (repeat first | exact Ent.rfl | exact Ent.nil | refine Ent.cons ?_ | (apply Ent.pull; exact (by (repeat first | exact Pull.zero | apply Pull.succ); done)) | refine Ent.drop ?_); done) (Val.loadAggR rfl (by (repeat first | exact RdA.whole .zero | assumption | apply RdA.tail); done) (by exact rfl)) rfl ?_); all_goals (first | refine A.take 9 _ rfl (by kernel_rfl) (by (repeat first | exact Ent.rfl | exact Ent.nil | refine Ent.cons ?_ | (apply Ent.pull; exact (by (repeat first | exact Pull.zero | apply Pull.succ); done)) | refine Ent.drop ?_); done) (Val.shrU rfl rfl (by omega)) rfl ?_ | refine A.take 9 _ rfl (by kernel_rfl) (by (repeat first | exact Ent.rfl | exact Ent.nil | refine Ent.cons ?_ | (apply Ent.pull; exact (by (repeat first | exact Pull.zero | apply Pull.succ); done)) | refine Ent.drop ?_); done) (Val.shr rfl rfl (by omega)) rfl ?_); all_goals (first | refine A.take 10 _ rfl (by kernel_rfl) (by (repeat first | exact Ent.rfl | exact Ent.nil | refine Ent.cons ?_ | (apply Ent.pull; exact (by (repeat first | exact Pull.zero | apply Pull.succ); done)) | refine Ent.drop ?_); done) (Val.convU8 rfl) rfl ?_ | refine A.take 10 _ rfl (by kernel_rfl) (by (repeat first | exact Ent.rfl | exact Ent.nil | refine Ent.cons ?_ | (apply Ent.pull; exact (by (repeat first | exact Pull.zero | apply Pull.succ); done)) | refine Ent.drop ?_); done) (Val.conv8U rfl) rfl ?_ | refine A.take 10 _ rfl (by kernel_rfl) (by (repeat first | exact Ent.rfl | exact Ent.nil | refine Ent.cons ?_ | (apply Ent.pull; exact (by (repeat first | exact Pull.zero | apply Pull.succ); done)) | refine Ent.drop ?_); done) (Val.bytes rfl (by (repeat first | exact RdSl.own .zero | exact RdSl.view .zero | assumption | apply RdB.tail); done)) rfl ?_ | refine A.take 10 _ rfl (by kernel_rfl) (by (repeat first | exact Ent.rfl | exact Ent.nil | refine Ent.cons ?_ | (apply Ent.pull; exact (by (repeat first | exact Pull.zero | apply Pull.succ); done)) | refine Ent.drop ?_); done) (Val.convIntE rfl (by first | exact wrap_i64 (by omega) (by omega) | exact wrap_u32 (by omega) (by omega) | exact wrap_u8 (by omega) (by omega))) rfl ?_ | refine A.take 10 _ rfl (by kernel_rfl) (by (repeat first | exact Ent.rfl | exact Ent.nil | refine Ent.cons ?_ | (apply Ent.pull; exact (by (repeat first | exact Pull.zero | apply Pull.succ); done)) | refine Ent.drop ?_); done) (Val.convInt rfl) rfl ?_); all_goals (refine A.take 11 _ rfl (by kernel_rfl) (by (repeat first | exact Ent.rfl | exact Ent.nil | refine Ent.cons ?_ | (apply Ent.pull; exact (by (repeat first | exact Pull.zero | apply Pull.succ); done)) | refine Ent.drop ?_); done) (Val.move rfl) rfl ?_); all_goals (first | refine A.take 12 _ rfl (by kernel_rfl) (by (repeat first | exact Ent.rfl | exact Ent.nil | refine Ent.cons ?_ | (apply Ent.pull; exact (by (repeat first | exact Pull.zero | apply Pull.succ); done)) | refine Ent.drop ?_); done) (Val.indexAddrA1 rfl rfl (by omega)) rfl ?_ | refine A.take 12 _ rfl (by kernel_rfl) (by (repeat first | exact Ent.rfl | exact Ent.nil | refine Ent.cons ?_ | (apply Ent.pull; exact (by (repeat first | exact Pull.zero | apply Pull.succ); done)) | refine Ent.drop ?_); done) (Val.indexAddrA rfl rfl (by omega)) rfl ?_ | refine A.take 12 _ rfl (by kernel_rfl) (by (repeat first | exact Ent.rfl | exact Ent.nil | refine Ent.cons ?_ | (apply Ent.pull; exact (by (repeat first | exact Pull.zero | apply Pull.succ); done)) | refine Ent.drop ?_); done) (Val.indexAddr1 rfl rfl (by omega)) rfl ?_ | refine A.take 12 _ rfl (by kernel_rfl) (by (repeat first | exact Ent.rfl | exact Ent.nil | refine Ent.cons ?_ | (apply Ent.pull; exact (by (repeat first | exact Pull.zero | apply Pull.succ); done)) | refine Ent.drop ?_); done) (Val.indexAddrN rfl rfl (by omega)) rfl ?_ | refine A.take 12 _ rfl (by kernel_rfl) (by (repeat first | exact Ent.rfl | exact Ent.nil | refine Ent.cons ?_ | (apply Ent.pull; exact (by (repeat first | exact Pull.zero | apply Pull.succ); done)) | refine Ent.drop ?_); done) (Val.indexAddr rfl rfl (by omega) (by omega)) rfl ?_); all_goals (first | refine A.take 13 _ rfl (by kernel_rfl) (by (repeat first | exact Ent.rfl | exact Ent.nil | refine Ent.cons ?_ | (apply Ent.pull; exact (by (repeat first | exact Pull.zero | apply Pull.succ); done)) | refine Ent.drop ?_); done) (Val.load rfl (by (repeat first | exact Rd.blk .zero rfl | assumption | apply Rd.tail); done)) rfl ?_ | refine A.take 13 _ rfl (by kernel_rfl) (by (repeat first | exact Ent.rfl | exact Ent.nil | refine Ent.cons ?_ | (apply Ent.pull; exact (by (repeat first | exact Pull.zero | apply Pull.succ); done)) | refine Ent.drop ?_); done) (Val.loadAggR rfl (by (repeat first | exact RdA.whole .zero | assumption | apply RdA.tail); done) (by exact rfl)) rfl ?_); all_goals (first | refine A.take 14 _ rfl (by kernel_rfl) (by (repeat first | exact Ent.rfl | exact Ent.nil | refine Ent.cons ?_ | (apply Ent.pull; exact (by (repeat first | exact Pull.zero | apply Pull.succ); done)) | refine Ent.drop ?_); done) (Val.shrU rfl rfl (by omega)) rfl ?_ | refine A.take 14 _ rfl (by kernel_rfl) (by (repeat first | exact Ent.rfl | exact Ent.nil | refine Ent.cons ?_ | (apply Ent.pull; exact (by (repeat first | exact Pull.zero | apply Pull.succ); done)) | refine Ent.drop ?_); done) (Val.shr rfl rfl (by omega)) rfl ?_); all_goals (first | refine A.take 15 _ rfl (by kernel_rfl) (by (repeat first | exact Ent.rfl | exact Ent.nil | refine Ent.cons ?_ | (apply Ent.pull; exact (by (repeat first | exact Pull.zero | apply Pull.succ); done)) | refine Ent.drop ?_); done) (Val.convU8 rfl) rfl ?_ | refine A.take 15 _ rfl (by kernel_rfl) (by (repeat first | exact Ent.rfl | exact Ent.nil | refine Ent.cons ?_ | (apply Ent.pull; exact (by (repeat first | exact Pull.zero | apply Pull.succ); done)) | refine Ent.drop ?_); done) (Val.conv8U rfl) rfl ?_ | refine A.take 15 _ rfl (by kernel_rfl) (by (repeat first | exact Ent.rfl | exact Ent.nil | refine Ent.cons ?_ | (apply Ent.pull; exact (by (repeat first | exact Pull.zero | apply Pull.succ); done)) | refine Ent.drop ?_); done) (Val.bytes rfl (by (repeat first | exact RdSl.own .zero | exact RdSl.view .zero | assumption | apply RdB.tail); done)) rfl ?_ | refine A.take 15 _ rfl (by kernel_rfl) (by (repeat first | exact Ent.rfl | exact Ent.nil | refine Ent.cons ?_ | (apply Ent.pull; exact (by (repeat first | exact Pull.zero | apply Pull.succ); done)) | refine Ent.drop ?_); done) (Val.convIntE rfl (by first | exact wrap_i64 (by omega) (by omega) | exact wrap_u32 (by omega) (by omega) | exact wrap_u8 (by omega) (by omega))) rfl ?_ | refine A.take 15 _ rfl (by kernel_rfl) (by (repeat first | exact Ent.rfl | exact Ent.nil | refine Ent.cons ?_ | (apply Ent.pull; exact (by (repeat first | exact Pull.zero | apply Pull.succ); done)) | refine Ent.drop ?_); done) (Val.convInt rfl) rfl ?_); all_goals (refine A.take 16 _ rfl (by kernel_rfl) (by (repeat first | exact Ent.rfl | exact Ent.nil | refine Ent.cons ?_ | (apply Ent.pull; exact (by (repeat first | exact Pull.zero | apply Pull.succ); done)) | refine Ent.drop ?_); done) (Val.move rfl) rfl ?_); all_goals (first | refine A.take 17 _ rfl (by kernel_rfl) (by (repeat first | exact Ent.rfl | exact Ent.nil | refine Ent.cons ?_ | (apply Ent.pull; exact (by (repeat first | exact Pull.zero | apply Pull.succ); done)) | refine Ent.drop ?_); done) (Val.indexAddrA1 rfl rfl (by omega)) rfl ?_ | refine A.take 17 _ rfl (by kernel_rfl) (by (repeat first | exact Ent.rfl | exact Ent.nil | refine Ent.cons ?_ | (apply Ent.pull; exact (by (repeat first | exact Pull.zero | apply Pull.succ); done)) | refine Ent.drop ?_); done) (Val.indexAddrA rfl rfl (by omega)) rfl ?_ | refine A.take 17 _ rfl (by kernel_rfl) (by (repeat first | exact Ent.rfl | exact Ent.nil | refine Ent.cons ?_ | (apply Ent.pull; exact (by (repeat first | exact Pull.zero | apply Pull.succ); done)) | refine Ent.drop ?_); done) (Val.indexAddr1 rfl rfl (by omega)) rfl ?_ | refine A.take 17 _ rfl (by kernel_rfl) (by (repeat first | exact Ent.rfl | exact Ent.nil | refine Ent.cons ?_ | (apply Ent.pull; exact (by (repeat first | exact Pull.zero | apply Pull.succ); done)) | refine Ent.drop ?_); done) (Val.indexAddrN rfl rfl (by omega)) rfl ?_ | refine A.take 17 _ rfl (by kernel_rfl) (by (repeat first | exact Ent.rfl | exact Ent.nil | refine Ent.cons ?_ | (apply Ent.pull; exact (by (repeat first | exact Pull.zero | apply Pull.succ); done)) | refine Ent.drop ?_); done) (Val.indexAddr rfl rfl (by omega) (by omega)) rfl ?_); all_goals (first | refine A.take 18 _ rfl (by kernel_rfl) (by (repeat first | exact Ent.rfl | exact Ent.nil | refine Ent.cons ?_ | (apply Ent.pull; exact (by (repeat first | exact Pull.zero | apply Pull.succ); done)) | refine Ent.drop ?_); done) (Val.load rfl (by (repeat first | exact Rd.blk .zero rfl | assumption | apply Rd.tail); done)) rfl ?_ | refine A.take 18 _ rfl (by kernel_rfl) (by (repeat first | exact Ent.rfl | exact Ent.nil | refine Ent.cons ?_ | (apply Ent.pull; exact (by (repeat first | exact Pull.zero | apply Pull.succ); done)) | refine Ent.drop ?_); done) (Val.loadAggR rfl (by (repeat first | exact RdA.whole .zero | assumption | apply RdA.tail); done) (by exact rfl)) rfl ?_); all_goals (first | refine A.take 19 _ rfl (by kernel_rfl) (by (repeat first | exact Ent.rfl | exact Ent.nil | refine Ent.cons ?_ | (apply Ent.pull; exact (by (repeat first | exact Pull.zero | apply Pull.succ); done)) | refine Ent.drop ?_); done) (Val.convU8 rfl) rfl ?_ | refine A.take 19 _ rfl (by kernel_rfl) (by (repeat first | exact Ent.rfl | exact Ent.nil | refine Ent.cons ?_ | (apply Ent.pull; exact (by (repeat first | exact Pull.zero | apply Pull.succ); done)) | refine Ent.drop ?_); done) (Val.conv8U rfl) rfl ?_ | refine A.take 19 _ rfl (by kernel_rfl) (by (repeat first | exact Ent.rfl | exact Ent.nil | refine Ent.cons ?_ | (apply Ent.pull; exact (by (repeat first | exact Pull.zero | apply Pull.succ); done)) | refine Ent.drop ?_); done) (Val.bytes rfl (by (repeat first | exact RdSl.own .zero | exact RdSl.view .zero | assumption | apply RdB.tail); done)) rfl ?_ | refine A.take 19 _ rfl (by kernel_rfl) (by (repeat first | exact Ent.rfl | exact Ent.nil | refine Ent.cons ?_ | (apply Ent.pull; exact (by (repeat first | exact Pull.zero | apply Pull.succ); done)) | refine Ent.drop ?_); done) (Val.convIntE rfl (by first | exact wrap_i64 (by omega) (by omega) | exact wrap_u32 (by omega) (by omega) | exact wrap_u8 (by omega) (by omega))) rfl ?_ | refine A.take 19 _ rfl (by kernel_rfl) (by (repeat first | exact Ent.rfl | exact Ent.nil | refine Ent.cons ?_ | (apply Ent.pull; exact (by (repeat first | exact Pull.zero | apply Pull.succ); done)) | refine Ent.drop ?_); done) (Val.convInt rfl) rfl ?_))
    refine A.one 20 rfl (by kernel_rfl) ?_
    refine Do.buildSlice (el := tU8) (n := 1) (z := .int .u8 0) rfl rfl rfl rfl (by (repeat first | exact Bs.Parts.nil | apply Bs.Parts.one rfl rfl | apply Bs.Parts.one (Bs.cells_one (by assumption)) rfl | (apply Bs.Parts.agg; exact rfl)); done) rfl fun gz => ⟨fun _ => (by (repeat first | exact Ent.rfl | exact Ent.nil | refine Ent.cons ?_ | (apply Ent.pull; exact (by (repeat first | exact Pull.zero | apply Pull.succ); done)) | refine Ent.drop ?_); done), ?_⟩
    refine A.one 21 rfl (by kernel_rfl) ?_
    refine Do.append rfl rfl rfl (.succ .zero) (RdSl.blk .zero rfl (by simp [maxLen])) rfl rfl (by (repeat first | exact one_nil | (apply one_cons; first | exact rfl | assumption)); done) (by simp only [maxLen]; omega) (by omega) fun ad11 c11 _ => ⟨fun _ => (by (repeat first | exact Ent.rfl | exact Ent.nil | refine Ent.cons ?_ | (apply Ent.pull; exact (by (repeat first | exact Pull.zero | apply Pull.succ); done)) | refine Ent.drop ?_); done), ?_⟩
    (all_goals (first | (refine A.one 22 rfl (by kernel_rfl) ?_; refine Do.val (Val.assign rfl) rfl ⟨(no_held (by kernel_rfl)), ?_⟩)))
    refine A.done (by kernel_rfl) ?_
    (repeat' first | (apply O.move; exact rfl; exact rfl) | (apply O.assign; exact rfl; exact rfl) | apply W.region | apply O.nil | apply Fin.next | (apply O.add64; exact rfl; exact rfl; omega; exact rfl) | apply Fin.block_normal)
    refine Fin.round (j + 1, ad11, c11) hjt (by dsimp only; omega) ?_ ?_
    · dsimp only
      rw [Nat.mul_add]
      exact sub_cons rfl (sub_cons rfl (sub_cons rfl sub_nil))
    · dsimp only
      rw [hst, Nat.mul_add]
      exact (show Ent _ (Own tU8 1 (.slice ad11 (4 * j + 4 * 1) c11) (4 * j + 4 * 1) (((V.list.take j).flatMap outW).map u8 ++ (outW x).map u8) :: Blk g3 (V.list.map u32v) 72 (0, 0) :: R) from (by (repeat first | exact Ent.rfl | exact Ent.nil | refine Ent.cons ?_ | (apply Ent.pull; exact (by (repeat first | exact Pull.zero | apply Pull.succ); done)) | refine Ent.drop ?_); done))
  obtain rfl : j = 8 := by omega
  rw [List.take_of_length_le (by omega)]
  (repeat' first | (apply O.move; exact rfl; exact rfl) | (apply O.assign; exact rfl; exact rfl) | apply W.seq | apply W.region | apply O.nil | apply Fin.next | (apply O.lss_f; exact rfl; exact rfl; omega; exact rfl) | (apply W.cond_f; exact rfl) | apply W.exit | apply W.ret | apply Fin.then_exit | apply Fin.block_hit)
  exact Fin.ret (OwnB (.slice ad10 (outP V).length c10) (outP V) :: R) rfl (show Ent (Own tU8 1 (.slice ad10 32 c10) 32 ((outP V).map u8) :: Blk g3 (V.list.map u32v) 72 (0, 0) :: R) _ from (by (repeat first | exact Ent.rfl | exact Ent.nil | refine Ent.cons ?_ | (apply Ent.pull; exact (by (repeat first | exact Pull.zero | apply Pull.succ); done)) | refine Ent.drop ?_); done)) ⟨ad10, c10, rfl, rfl⟩
end Go.Proofs
