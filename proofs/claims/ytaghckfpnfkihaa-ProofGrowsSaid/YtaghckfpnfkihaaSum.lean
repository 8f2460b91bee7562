/- hash.Sum. -/
import Derived.Test.YtaghckfpnfkihaaChunk
namespace Go.Proofs
set_option linter.unusedVariables false
open Go.Bs
set_option linter.unusedSimpArgs false
attribute [local irreducible] Bs.Val Bs.Do Bs.O Bs.W Bs.Fin Bs.A Bs.Ct Bs.RdSl Bs.Rd Bs.Sat Bs.Blk Bs.Ob Bs.Own Bs.View Bs.Ent Bs.Ex Bs.All Bs.Pu Bs.Base Bs.sepL Bs.RdA
/-- The state behind so many parts. -/
def stK (Y : List UInt8) : Nat → S8
  | 0 => h0P
  | k + 1 => blockP (stK Y k) ((Y.drop (64 * k)).take 64)
theorem stK_fold (Y : List UInt8) : ∀ k, 64 * k ≤ Y.length → foldB h0P Y = foldB (stK Y k) (Y.drop (64 * k))
  | 0, _ => rfl
  | k + 1, h => by
    have h1 : (Y.drop (64 * k)).length = Y.length - 64 * k := List.length_drop
    rw [stK_fold Y k (by omega), foldB_step (by omega), List.drop_drop]
    rfl
set_option maxHeartbeats 2000000 in
theorem sum_spec (R : List Res) (e : World) (v : Value) (b : List UInt8) (hv : RdB R v b) (hb : b.length ≤ 1000000000000) :
    Ct Try.prog 49 #[v] e R (fun v' L' => ∃ ad c, v' = .slice ad (sha b).length c ∧ L' = OwnB (.slice ad (sha b).length c) (sha b) :: R) := by
  refine Ct.of_sep (hv.shape (by omega)) ?_
  rintro ⟨⟨ad, cap, rfl, h3, h4, h5, h6⟩, _⟩
  simp only [maxLen] at h4
  refine Ct.enterM (args := [_]) Try.func49 rfl Try.ntmps49 rfl ?_
  (repeat' first | apply WM.seq | apply Fin.nextM | (refine O.buildArr (cs := h0P.cells) rfl rfl rfl (by (repeat first | exact Bs.Parts.nil | apply Bs.Parts.one rfl rfl | apply Bs.Parts.one (Bs.cells_one (by assumption)) rfl | (apply Bs.Parts.agg; exact rfl)); done) rfl ?_) | (refine O.alloc (cs := (List.replicate 8 (0 : UInt32)).map u32v) rfl rfl ?_; intro _) | (refine O.storeAgg (vs := h0P.cells) rfl rfl rfl (u32v_one h0P.list) .zero (setAts_whole rfl) ?_) | (apply O.assign; exact rfl; exact rfl) | apply W.region | apply O.nil)
  rename_i g3
  refine O.call rfl rfl (keys_spec _ e) ?_
  rintro _ _ ⟨rfl, rfl⟩
  (repeat' first | apply WM.seq | apply Fin.nextM | (refine O.alloc (cs := (List.replicate 64 (0 : UInt32)).map u32v) rfl rfl ?_; intro _) | (refine O.storeAgg (vs := kw.map u32v) rfl rfl rfl (u32v_one kw) .zero (setAts_whole rfl) ?_) | (apply O.move; exact rfl; exact rfl) | apply W.region | apply O.nil)
  rename_i g4
  refine O.call rfl rfl (clone_spec _ e _ b hv.tail.tail (by omega)) ?_
  rintro _ _ ⟨ad3, c3, rfl, rfl⟩
  (repeat' first | (apply O.buildSlice; exact rfl; exact rfl; exact rfl; (focus ((repeat first | exact Bs.Parts.nil | apply Bs.Parts.one rfl rfl | apply Bs.Parts.one (Bs.cells_one (by assumption)) rfl | (apply Bs.Parts.agg; exact rfl)); done)); exact rfl; exact rfl; intro _))
  refine O.do (Do.append rfl rfl rfl (.succ .zero) (RdSl.blk .zero rfl (by simp [maxLen])) rfl rfl (by (repeat first | exact one_nil | (apply one_cons; first | exact rfl | assumption)); done) (by simp only [maxLen]; omega) (by omega) fun ad4 c4 _ => ?_)
  (repeat' first | apply WM.seq | apply Fin.nextM | (apply O.assign; exact rfl; exact rfl) | apply O.nil | apply W.block)
  refine W.loop (ι := Nat × Option Addr × Nat) (fun i => [(5, .slice i.2.1 (b.length + 1 + i.1) i.2.2), (3, .pointer (some ⟨g3, 0, none⟩)), (4, .pointer (some ⟨g4, 0, none⟩)), (0, .slice ad b.length cap)])
    (fun i => Own tU8 1 (.slice i.2.1 (b.length + 1 + i.1) i.2.2) (b.length + 1 + i.1) ((b ++ 128 :: List.replicate i.1 0).map u8) :: Blk g3 h0P.cells 72 (0, 0) :: Blk g4 (kw.map u32v) 73 (0, 0) :: R)
    (fun i => i.1 ≤ zs b.length) (fun i => zs b.length - i.1) (0, ad4, c4)
    (Nat.zero_le _) (sub_cons rfl (sub_cons rfl (sub_cons rfl (sub_cons rfl sub_nil)))) (by dsimp only; rw [List.map_append]; exact (by (repeat first | exact Ent.rfl | exact Ent.nil | refine Ent.cons ?_ | (apply Ent.pull; exact (by (repeat first | exact Pull.zero | apply Pull.succ); done)) | refine Ent.drop ?_); done)) ?_
  rintro ⟨z, ad5, c5⟩ hz
  dsimp only at hz ⊢
  have hz64 : zs b.length < 64 := by unfold zs; omega
  have hzd : zs b.length = (119 - b.length % 64) % 64 := rfl
  have htm := tmod64 (b.length + 1 + z)
  by_cases hzt : z < zs b.length
  · (repeat' first | (apply O.move; exact rfl; exact rfl) | apply W.seq | apply W.region | apply O.nil | apply Fin.next | (apply O.len; exact rfl; exact rfl) | (apply O.neq_t; exact rfl; exact rfl; omega; exact rfl) | (apply O.buildSlice; exact rfl; exact rfl; exact rfl; (focus ((repeat first | exact Bs.Parts.nil | apply Bs.Parts.one rfl rfl | apply Bs.Parts.one (Bs.cells_one (by assumption)) rfl | (apply Bs.Parts.agg; exact rfl)); done)); exact rfl; exact rfl; intro _) | (apply W.cond_t; exact rfl) | apply W.block | apply W.skip | (apply O.rem; exact rfl; exact rfl; omega; exact rfl))
    refine O.do (Do.append rfl rfl rfl (.succ .zero) (RdSl.blk .zero rfl (by simp [maxLen])) rfl rfl (by (repeat first | exact one_nil | (apply one_cons; first | exact rfl | assumption)); done) (by simp only [maxLen]; omega) (by omega) fun ad6 c6 _ => ?_)
    (repeat' first | (apply O.assign; exact rfl; exact rfl) | apply O.nil | apply Fin.block_normal)
    refine Fin.round (z + 1, ad6, c6) hzt (by dsimp only; omega) (sub_cons rfl (sub_cons rfl (sub_cons rfl (sub_cons rfl sub_nil)))) ?_
    dsimp only
    have he : (b ++ 128 :: List.replicate (z + 1) (0 : UInt8)).map u8 = (b ++ 128 :: List.replicate z 0).map u8 ++ [.int .u8 0] := by
      rw [List.replicate_succ', show b ++ 128 :: (List.replicate z 0 ++ [0]) = (b ++ 128 :: List.replicate z (0 : UInt8)) ++ [0] by simp, List.map_append]
      rfl
    rw [he]
    exact (by (repeat first | exact Ent.rfl | exact Ent.nil | refine Ent.cons ?_ | (apply Ent.pull; exact (by (repeat first | exact Pull.zero | apply Pull.succ); done)) | refine Ent.drop ?_); done)
  obtain rfl : z = zs b.length := by omega
  have hXl : (b ++ 128 :: List.replicate (zs b.length) (0 : UInt8)).length = b.length + 1 + zs b.length := by simp; omega
  have hpad : ∀ m, (b ++ 128 :: List.replicate (zs b.length) (0 : UInt8)) ++ m = b ++ 128 :: (List.replicate (zs b.length) 0 ++ m) := fun m => by simp
  rw [← hXl] at htm ⊢
  have hXb : (b ++ 128 :: List.replicate (zs b.length) (0 : UInt8)).length ≤ 1000000000128 := by omega
  have hX56 : (b ++ 128 :: List.replicate (zs b.length) (0 : UInt8)).length % 64 = 56 := by omega
  have hsha : sha b = outP (foldB h0P (b ++ 128 :: (List.replicate (zs b.length) 0 ++ len8 b.length))) := rfl
  rw [← hpad] at hsha
  clear hpad hXl
  generalize b ++ 128 :: List.replicate (zs b.length) (0 : UInt8) = X at *
  have h8 : (len8 b.length).length = 8 := be_length _ _
  (repeat' first | apply WM.seq | apply Fin.nextM | (apply O.move; exact rfl; exact rfl) | (apply O.assign; exact rfl; exact rfl) | apply W.seq | apply W.region | apply O.nil | apply Fin.next | (apply O.len; exact rfl; exact rfl) | (apply O.neq_f; exact rfl; exact rfl; omega; exact rfl) | (apply W.cond_f; exact rfl) | apply W.block | apply W.exit | apply Fin.then_exit | apply Fin.block_hit | (apply O.rem; exact rfl; exact rfl; omega; exact rfl))
  refine W.loop (ι := Nat × Option Addr × Nat) (fun i => [(6, .int .i64 (7 - (i.1 : Int))), (5, .slice i.2.1 (X.length + i.1) i.2.2), (3, .pointer (some ⟨g3, 0, none⟩)), (4, .pointer (some ⟨g4, 0, none⟩)), (0, .slice ad b.length cap)])
    (fun i => Own tU8 1 (.slice i.2.1 (X.length + i.1) i.2.2) (X.length + i.1) ((X ++ (len8 b.length).take i.1).map u8) :: Blk g3 h0P.cells 72 (0, 0) :: Blk g4 (kw.map u32v) 73 (0, 0) :: R)
    (fun i => i.1 ≤ 8) (fun i => 8 - i.1) (0, ad5, c5)
    (Nat.zero_le _) (sub_cons rfl (sub_cons rfl (sub_cons rfl (sub_cons rfl (sub_cons rfl sub_nil))))) (by dsimp only; rw [List.take_zero, List.append_nil]; exact (by (repeat first | exact Ent.rfl | exact Ent.nil | refine Ent.cons ?_ | (apply Ent.pull; exact (by (repeat first | exact Pull.zero | apply Pull.succ); done)) | refine Ent.drop ?_); done)) ?_
  rintro ⟨m, ad7, c7⟩ hm
  dsimp only at hm ⊢
  by_cases hmt : m < 8
  · have hbyte := len8_byte b.length m hmt (by omega)
    have hw1 := w64 b.length (by omega)
    have hw2 : IntKind.u64.wrap ((b.length : Int) * 8) = ((b.length * 8 : Nat) : Int) := by
      rw [← w64 (b.length * 8) (by omega)]; rfl
    (repeat' first | (apply O.convInt; exact rfl; exact rfl) | (apply O.move; exact rfl; exact rfl) | apply W.seq | apply W.region | apply O.nil | apply Fin.next | (apply O.len; exact rfl; exact rfl) | (apply O.geq_t; exact rfl; exact rfl; omega; exact rfl) | (apply O.mul64; exact rfl; exact rfl; omega; exact rfl) | (apply O.mul; exact rfl; exact rfl; exact rfl) | (apply O.shr; exact rfl; exact rfl; omega; exact rfl) | (apply O.buildSlice; exact rfl; exact rfl; exact rfl; (focus ((repeat first | exact Bs.Parts.nil | apply Bs.Parts.one rfl rfl | apply Bs.Parts.one (Bs.cells_one (by assumption)) rfl | (apply Bs.Parts.agg; exact rfl)); done)); exact rfl; exact rfl; intro _) | (apply W.cond_t; exact rfl) | apply W.block | apply W.skip)
    rw [hw1, hw2, show IntKind.u64.bits = 64 from rfl, hbyte]
    have hdr := be_drop (b.length * 8) 8 m hmt
    have hstep : (len8 b.length).take (m + 1) = (len8 b.length).take m ++ [UInt8.ofNat (b.length * 8 / 256 ^ (7 - m))] := take_step hdr
    clear hbyte hdr
    generalize UInt8.ofNat (b.length * 8 / 256 ^ (7 - m)) = cc at *
    have htk : (X ++ (len8 b.length).take (m + 1)).map u8 = (X ++ (len8 b.length).take m).map u8 ++ [u8 cc] := by
      rw [hstep, ← List.append_assoc, List.map_append]; rfl
    generalize X ++ (len8 b.length).take m = Y at *
    refine O.do (Do.append rfl rfl rfl (.succ .zero) (RdSl.blk .zero rfl (by simp [maxLen])) rfl rfl (by (repeat first | exact one_nil | (apply one_cons; first | exact rfl | assumption)); done) (by simp only [maxLen]; omega) (by omega) fun ad6 c6 _ => ?_)
    (repeat' first | (apply O.move; exact rfl; exact rfl) | (apply O.assign; exact rfl; exact rfl) | apply W.region | apply O.nil | apply Fin.next | (apply O.sub64; exact rfl; exact rfl; omega; exact rfl) | apply Fin.block_normal)
    refine Fin.round (m + 1, ad6, c6) hmt (by dsimp only; omega) ?_ ?_
    · dsimp only
      rw [show (7 - ((m + 1 : Nat) : Int)) = 7 - (m : Int) - 1 by omega]
      exact sub_cons rfl (sub_cons rfl (sub_cons rfl (sub_cons rfl (sub_cons rfl sub_nil))))
    · dsimp only
      rw [htk]
      exact (by (repeat first | exact Ent.rfl | exact Ent.nil | refine Ent.cons ?_ | (apply Ent.pull; exact (by (repeat first | exact Pull.zero | apply Pull.succ); done)) | refine Ent.drop ?_); done)
  obtain rfl : m = 8 := by omega
  rw [List.take_of_length_le (by omega)]
  have hYl : (X ++ len8 b.length).length = X.length + 8 := by rw [List.length_append, h8]
  have hY64 : (X ++ len8 b.length).length % 64 = 0 := by omega
  have hYb : (X ++ len8 b.length).length ≤ 1000000001000 := by omega
  have hYpos : 0 < (X ++ len8 b.length).length := by omega
  rw [← hYl]
  generalize X ++ len8 b.length = Y at *
  (repeat' first | apply WM.seqB | apply Fin.nextM | (apply O.move; exact rfl; exact rfl) | apply W.seq | apply W.region | apply O.nil | apply Fin.next | (apply O.geq_f; exact rfl; exact rfl; omega; exact rfl) | (apply W.cond_f; exact rfl) | apply W.exit | apply Fin.then_exit | apply Fin.block_hit)
  refine O.of_sep (ownB_cap .zero) ?_
  rintro ⟨ad8, c8, hq, hcap, hcap2⟩
  obtain ⟨rfl, _, rfl⟩ := Value.slice.inj hq
  clear hq
  simp only [maxLen] at hcap2
  refine O.of_sep (own_shape .zero) ?_
  rintro ⟨⟨ad9, c9, hq, _, _, hqq⟩, _⟩
  obtain ⟨rfl, _, rfl⟩ := Value.slice.inj hq
  clear hq
  obtain ⟨gl, rfl⟩ : ∃ gl, ad7 = some ⟨gl, 0, none⟩ := by
    rcases hqq with ⟨_, _, h0⟩ | h0
    · omega
    · exact h0
  clear hqq
  refine O.call rfl rfl (chunk_spec _ e (some ⟨gl, 0, none⟩) Y.length c7) ?_
  rintro _ _ ⟨gs, gn, rfl, rfl⟩
  (repeat' first | apply Fin.nextB | apply O.nil)
  obtain ⟨m, hm64⟩ : ∃ m, Y.length = 64 * m := ⟨Y.length / 64, by omega⟩
  refine WB.range (lb := [.pointer (some ⟨gs, 0, none⟩), .pointer (some ⟨gn, 0, none⟩)]) Try.results49 rfl (Blk gs [.slice (some ⟨gl, 0, none⟩) Y.length c7] 23 (0, 0) :: Blk gn [.int .i64 64] 3 (0, 0) :: OwnB (.slice (some ⟨gl, 0, none⟩) Y.length c7) Y :: Blk g3 (stK Y m).cells 72 (0, 0) :: Blk g4 (kw.map u32v) 73 (0, 0) :: R) ?_ ?_
  · intro l D r h1 h2 h3 h4 h5 hr
    refine iter_spec e l gs gn m gl 0 c7 Y (fun k => Lp l r :: Df D :: Blk gs [.slice (some ⟨gl, 0, none⟩) Y.length c7] 23 (0, 0) :: Blk gn [.int .i64 64] 3 (0, 0) :: OwnB (.slice (some ⟨gl, 0, none⟩) Y.length c7) Y :: Blk g3 (stK Y k).cells 72 (0, 0) :: Blk g4 (kw.map u32v) 73 (0, 0) :: R) hm64 (by omega) hcap (fun k => (by (repeat first | exact Rd.blk .zero rfl | assumption | apply Rd.tail); done)) (fun k => (by (repeat first | exact Rd.blk .zero rfl | assumption | apply Rd.tail); done)) ?_
    intro k hk
    have hpr : ∀ {A B C D' : Res} {L : List Res}, RdB (A :: B :: C :: D' :: OwnB (.slice (some ⟨gl, 0, none⟩) Y.length c7) Y :: L) (.slice (some ⟨gl, 0 + 64 * k, none⟩) 64 64) ((Y.drop (64 * k)).take 64) := part_rd (RdB.tail (RdB.tail (RdB.tail (RdB.tail (RdSl.own .zero))))) hm64 hcap hk
    have hpl : ((Y.drop (64 * k)).take 64).length = 64 := by rw [List.length_take, List.length_drop]; omega
    have hst : stK Y (k + 1) = blockP (stK Y k) ((Y.drop (64 * k)).take 64) := rfl
    rw [hst]
    generalize stK Y k = S at *
    generalize (Y.drop (64 * k)).take 64 = B at *
    refine Rt.mk h1 h2 h3 rfl rfl hr ?_
    refine WI.code h4 ?_
    refine WI.region ?_
    refine OI.val _ rfl (Val.assign rfl) rfl ?_
    refine OI.nil ?_
    refine Fin.endA Ent.rfl ?_
    refine WI.code h5 ?_
    refine WI.block ?_
    refine WI.region ?_
    refine OI.val _ rfl (Val.loadAggR (cs := S.cells) rfl (by (repeat first | exact RdA.whole .zero | apply RdA.tail); done) rfl) rfl ?_
    refine OI.val _ rfl (Val.move rfl) rfl ?_
    refine OI.do rfl (Do.call rfl rfl (mix_spec _ e S _ B g4 hpr hpl (by (repeat first | exact RdA.whole .zero | apply RdA.tail); done)) ?_)
    rintro _ _ ⟨rfl, rfl⟩
    generalize blockP S B = S2 at *
    refine OI.do rfl (Do.storeAgg (vs := S2.cells) rfl rfl (cells_len S2) (u32v_one S2.list) (by (repeat first | exact Upd.zero | apply Upd.succ); done) (setAts_whole ((cells_len S).trans (cells_len S2).symm)) ?_)
    refine OI.nil ?_
    refine Fin.block_normal ?_
    exact Fin.endR (by (repeat first | exact Ent.rfl | exact Ent.nil | refine Ent.cons ?_ | (apply Ent.pull; exact (by (repeat first | exact Pull.zero | apply Pull.succ); done)) | refine Ent.drop ?_); done)
  intro D
  have hfold : foldB h0P Y = stK Y m := by
    rw [stK_fold Y m (by omega)]
    exact foldB_end (by rw [List.length_drop]; omega)
  rw [hsha, hfold]
  clear hfold hsha
  generalize stK Y m = V at *
  have hvl : V.list.length = 8 := rfl
  (repeat' first | apply W.seq | apply W.region)
  refine O.do (Do.make0 (el := tU8) (nn := 1) (z := .int .u8 0) (b := 1) (c := 32) rfl rfl rfl (by simp [maxLen]) (by omega) fun go => ?_)
  (repeat' first | (refine O.loadAggR (cs := V.cells) rfl (by (repeat first | exact RdA.whole .zero | apply RdA.tail); done) rfl rfl ?_) | (apply O.move; exact rfl; exact rfl) | (apply O.assign; exact rfl; exact rfl) | apply W.seq | apply W.region | apply O.nil | apply Fin.next | apply W.block)
  rw [S8.cells_eq]
  refine W.loop (ι := Nat × Option Addr × Nat) (fun i => [(47, .int .i64 (i.1 : Int)), (46, .agg (V.list.map u32v).toArray), (8, .slice i.2.1 (4 * i.1) i.2.2)])
    (fun i => Own tU8 1 (.slice i.2.1 (4 * i.1) i.2.2) (4 * i.1) (((V.list.take i.1).flatMap outW).map u8) :: Df D :: R)
    (fun i => i.1 ≤ 8) (fun i => 8 - i.1) (0, some ⟨go, 0, none⟩, 32)
    (Nat.zero_le _) (sub_cons rfl (sub_cons rfl (sub_cons rfl sub_nil))) (by (repeat first | exact Ent.rfl | exact Ent.nil | refine Ent.cons ?_ | (apply Ent.pull; exact (by (repeat first | exact Pull.zero | apply Pull.succ); done)) | refine Ent.drop ?_); done) ?_
  rintro ⟨j, ad10, c10⟩ hj
  dsimp only at hj ⊢
  by_cases hjt : j < 8
  · have hr : (V.list.map u32v)[j]? = some (u32v (V.list.getD j 0)) := by
      have h64 : j < V.list.length := hjt
      rw [List.getElem?_map, List.getElem?_eq_getElem h64, List.getD_eq_getElem?_getD, List.getElem?_eq_getElem h64]; rfl
    have hst : ((V.list.take (j + 1)).flatMap outW).map u8 = ((V.list.take j).flatMap outW).map u8 ++ (outW (V.list.getD j 0)).map u8 := by
      have h64 : j < V.list.length := hjt
      rw [List.take_succ_eq_append_getElem h64, List.flatMap_append, List.map_append, List.getD_eq_getElem?_getD, List.getElem?_eq_getElem h64]
      rfl
    generalize V.list.getD j 0 = x at *
    (repeat' first | (apply O.shrU; exact rfl; exact rfl; omega; exact rfl) | (apply O.convU8; exact rfl; exact rfl) | (apply O.indexA; exact rfl; exact rfl; omega; (first | assumption | exact rfl); exact rfl) | (apply O.move; exact rfl; exact rfl) | (apply O.assign; exact rfl; exact rfl) | apply W.seq | apply W.region | apply O.nil | apply Fin.next | (apply O.lss_t; exact rfl; exact rfl; omega; exact rfl) | (apply O.buildSlice; exact rfl; exact rfl; exact rfl; (focus ((repeat first | exact Bs.Parts.nil | apply Bs.Parts.one rfl rfl | apply Bs.Parts.one (Bs.cells_one (by assumption)) rfl | (apply Bs.Parts.agg; exact rfl)); done)); exact rfl; exact rfl; intro _) | (apply W.cond_t; exact rfl) | apply W.block | apply W.skip)
    refine O.do (Do.append rfl rfl rfl (.succ .zero) (RdSl.blk .zero rfl (by simp [maxLen])) rfl rfl (by (repeat first | exact one_nil | (apply one_cons; first | exact rfl | assumption)); done) (by simp only [maxLen]; omega) (by omega) fun ad11 c11 _ => ?_)
    (repeat' first | (apply O.move; exact rfl; exact rfl) | (apply O.assign; exact rfl; exact rfl) | apply W.region | apply O.nil | apply Fin.next | (apply O.add64; exact rfl; exact rfl; omega; exact rfl) | apply Fin.block_normal)
    refine Fin.round (j + 1, ad11, c11) hjt (by dsimp only; omega) ?_ ?_
    · dsimp only
      rw [Nat.mul_add]
      exact sub_cons rfl (sub_cons rfl (sub_cons rfl sub_nil))
    · dsimp only
      rw [hst, Nat.mul_add]
      exact (show Ent _ (Own tU8 1 (.slice ad11 (4 * j + 4 * 1) c11) (4 * j + 4 * 1) (((V.list.take j).flatMap outW).map u8 ++ (outW x).map u8) :: Df D :: R) from (by (repeat first | exact Ent.rfl | exact Ent.nil | refine Ent.cons ?_ | (apply Ent.pull; exact (by (repeat first | exact Pull.zero | apply Pull.succ); done)) | refine Ent.drop ?_); done))
  obtain rfl : j = 8 := by omega
  rw [List.take_of_length_le (by omega)]
  (repeat' first | (apply O.move; exact rfl; exact rfl) | (apply O.assign; exact rfl; exact rfl) | apply W.seq | apply W.region | apply O.nil | apply Fin.next | (apply O.lss_f; exact rfl; exact rfl; omega; exact rfl) | (apply W.cond_f; exact rfl) | apply W.exit | apply W.ret | apply Fin.then_exit | apply Fin.block_hit)
  exact Fin.ret (Df D :: OwnB (.slice ad10 (outP V).length c10) (outP V) :: R) rfl (show Ent (Own tU8 1 (.slice ad10 32 c10) 32 ((outP V).map u8) :: Df D :: R) _ from (by (repeat first | exact Ent.rfl | exact Ent.nil | refine Ent.cons ?_ | (apply Ent.pull; exact (by (repeat first | exact Pull.zero | apply Pull.succ); done)) | refine Ent.drop ?_); done)) ⟨_, rfl, ad10, c10, rfl, rfl⟩
end Go.Proofs
