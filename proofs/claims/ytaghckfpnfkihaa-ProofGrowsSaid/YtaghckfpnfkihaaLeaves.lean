/- leaves that the statements make; leaves' own hashes; ranges. -/
import Derived.Test.YtaghckfpnfkihaaRoot
import Derived.Test.YtaghckfpnfkihaaLists
namespace Go.Bs
def lfP (i : Nat) : List UInt8 := UInt8.ofNat i :: UInt8.ofNat (i / 256) :: List.replicate 30 0
def leavesP (n : Nat) : List (List UInt8) := (List.range n).map lfP
theorem lfP_length (i : Nat) : (lfP i).length = 32 := rfl
theorem leavesP_length (n : Nat) : (leavesP n).length = n := by simp [leavesP]
theorem leavesP_succ (n : Nat) : leavesP (n + 1) = leavesP n ++ [lfP n] := by simp [leavesP, List.range_succ]
theorem leavesP_sizes {n : Nat} : ∀ a ∈ leavesP n, a.length = 32 := fun a ha => by
  obtain ⟨i, _, rfl⟩ := List.mem_map.1 ha
  exact lfP_length i
theorem txts_sizes {ts : List Txt} {l : List (List UInt8)} {m : Nat} (h : ts.map (·.2) = l) (hl : ∀ a ∈ l, a.length ≤ m) : ∀ a ∈ ts, a.2.length ≤ m := fun a ha => hl _ (by rw [← h]; exact List.mem_map.2 ⟨a, ha, rfl⟩)
end Go.Bs
namespace Go.Proofs
set_option linter.unusedVariables false
open Go.Bs
set_option linter.unusedSimpArgs false
attribute [local irreducible] Bs.Val Bs.Do Bs.O Bs.W Bs.Fin Bs.A Bs.Ct Bs.RdSl Bs.Rd Bs.Sat Bs.Blk Bs.Ob Bs.Own Bs.View Bs.Ent Bs.Ex Bs.All Bs.Pu Bs.Base Bs.sepL Bs.RdA
theorem byte_u8 (n : Nat) : Value.int .u8 (IntKind.u8.wrap (n : Int)) = u8 (UInt8.ofNat n) := by
  rw [w8]; simp [u8]
theorem ownT_rd {L R : List Res} {g c i o : Nat} {ts : List Txt} {a : Txt} (p : Pull L (OwnT (.slice (some ⟨g, 0, none⟩) ts.length c) ts) R) (h : ts[i]? = some a) (ho : o = i) : Rd L ⟨g, o, none⟩ a.1 := by
  subst ho
  have := (RdSl.own p).elem (j := o) (u := a.1) (by rw [List.getElem?_map, h]; rfl)
  rwa [Nat.zero_add] at this
/-- A list of texts grows by one that is its own. -/
theorem grow_txts {ad : Option Addr} {c : Nat} {out : List Txt} {v : Value} {b : List UInt8} {R : List Res} :
    Ent (Own tTxts 1 (.slice ad (out.length + 1) c) (out.length + 1) (out.map (·.1) ++ [v]) :: OwnB v b :: Items out :: R) (OwnT (.slice ad (out ++ [(v, b)]).length c) (out ++ [(v, b)]) :: Items (out ++ [(v, b)]) :: R) := by
  unfold OwnT
  rw [List.length_append, List.length_singleton, List.map_append]
  refine Ent.cons (Ent.trans (items_own (a := (v, b))) (Ent.trans (Ent.pull (.succ .zero) Ent.rfl) items_append))
theorem leaves_spec (R : List Res) (e : World) (n : Nat) (hn : n ≤ 1000000) :
    Ct Try.prog 12 #[.int .i64 (n : Int)] e R (fun v' L' => ∃ ad c ts, v' = .slice ad ts.length c ∧ ts.map (·.2) = leavesP n ∧ L' = OwnT (.slice ad ts.length c) ts :: Items ts :: R) := by
  refine Ct.enter (args := [_]) Try.func12 rfl Try.ntmps12 Try.results12 rfl ?_
  (repeat' first | (apply O.assign; exact rfl; exact rfl) | apply W.seq | apply W.region | apply O.nil | apply Fin.next | apply W.block)
  refine W.loop (ι := List Txt × Option Addr × Nat) (fun i => [(4, .int .i64 (i.1.length : Int)), (0, .int .i64 (n : Int)), (3, .slice i.2.1 i.1.length i.2.2)]) (fun i => OwnT (.slice i.2.1 i.1.length i.2.2) i.1 :: Items i.1 :: R)
    (fun i => i.1.length ≤ n ∧ i.1.map (·.2) = leavesP i.1.length) (fun i => n - i.1.length) ([], none, 0) ⟨Nat.zero_le _, rfl⟩ (sub_cons rfl (sub_cons rfl (sub_cons rfl sub_nil))) ((own_nil tTxts 1).trans (Ent.cons items_nil)) ?_
  rintro ⟨out, ad, c⟩ ⟨hi, hd⟩
  dsimp only at hi hd ⊢
  by_cases hlt : out.length < n
  · (repeat' first | (refine O.makeSlice (c := 32) rfl rfl rfl (by omega) rfl ?_; intro _) | (apply O.shr; exact rfl; exact rfl; omega; exact rfl) | (apply O.move; exact rfl; exact rfl) | (apply O.assign; exact rfl; exact rfl) | apply W.seq | apply W.region | apply O.nil | apply Fin.next | (apply O.lss_t; exact rfl; exact rfl; omega; exact rfl) | (apply O.convInt; exact rfl; exact rfl) | (apply O.buildSlice; exact rfl; exact rfl; exact rfl; (focus ((repeat first | exact Bs.Parts.nil | apply Bs.Parts.one rfl rfl | apply Bs.Parts.one (Bs.cells_one (by assumption)) rfl | (apply Bs.Parts.agg; exact rfl)); done)); exact rfl; exact rfl; intro _) | (apply O.indexAddr; exact rfl; exact rfl; omega; omega; exact rfl) | (apply W.cond_t; exact rfl) | apply W.block | apply W.skip | (apply O.storeOwn; exact rfl; exact rfl; (first | exact rfl | assumption); (focus ((repeat first | exact Pull.zero | apply Pull.succ); done)); omega))
    rename_i g1 g2
    have hx : ((List.replicate 32 (Value.int .u8 0)).set (0 + Int.toNat 0 * 1) (Value.int .u8 (IntKind.u8.wrap (out.length : Int)))).set (0 + Int.toNat 1 * 1) (Value.int .u8 (IntKind.u8.wrap (((out.length : Int)).fdiv (2 ^ min (Int.toNat 8) IntKind.i64.bits)))) = (lfP out.length).map u8 := by
      rw [show ((out.length : Int)).fdiv (2 ^ min (Int.toNat 8) IntKind.i64.bits) = ((out.length / 256 : Nat) : Int) from fdivN out.length 8 64 (by omega), byte_u8, byte_u8]
      rfl
    rw [hx]
    have hlv := leavesP_succ out.length
    have hl32 := lfP_length out.length
    generalize lfP out.length = lf at *
    refine O.do (Do.append rfl rfl rfl (by (repeat first | exact Pull.zero | apply Pull.succ); done) (RdSl.blk .zero rfl (by simp [maxLen])) rfl rfl (by (repeat first | exact one_nil | (apply one_cons; first | exact rfl | assumption)); done) (by simp only [maxLen]; omega) (by omega) fun ad3 c3 _ => ?_)
    (repeat' first | (apply O.move; exact rfl; exact rfl) | (apply O.assign; exact rfl; exact rfl) | apply W.region | apply O.nil | apply Fin.next | (apply O.add64; exact rfl; exact rfl; omega; exact rfl) | apply Fin.block_normal)
    refine Fin.round (out ++ [(.slice (some ⟨g1, 0, none⟩) 32 32, lf)], ad3, c3) ⟨by rw [List.length_append]; exact hlt, by rw [List.map_append, hd, List.length_append, List.length_singleton, hlv]; rfl⟩ (by dsimp only; rw [List.length_append, List.length_singleton]; omega) ?_ ?_
    · dsimp only
      rw [List.length_append, List.length_singleton]
      exact sub_cons rfl (sub_cons rfl (sub_cons rfl sub_nil))
    · refine Ent.trans ?_ grow_txts
      unfold OwnB
      rw [hl32]
      exact (by (repeat first | exact Ent.rfl | exact Ent.nil | refine Ent.cons ?_ | (apply Ent.pull; exact (by (repeat first | exact Pull.zero | apply Pull.succ); done)) | refine Ent.drop ?_); done)
  rw [show out.length = n by omega] at hd
  (repeat' first | (apply O.move; exact rfl; exact rfl) | (apply O.assign; exact rfl; exact rfl) | apply W.seq | apply W.region | apply O.nil | apply Fin.next | (apply O.lss_f; exact rfl; exact rfl; omega; exact rfl) | (apply W.cond_f; exact rfl) | apply W.exit | apply W.ret | apply Fin.then_exit | apply Fin.block_hit)
  exact Fin.ret (OwnT (.slice ad out.length c) out :: Items out :: R) rfl Ent.rfl ⟨ad, c, out, rfl, hd, rfl⟩
theorem refLeaves_spec (R : List Res) (e : World) (v : Value) (l : List Txt) (hv : RdSl R 1 v l.length (l.map (·.1))) (ht : Txts R l) (hb : ∀ a ∈ l, a.2.length ≤ 1000000) (hl : l.length ≤ 1000000) :
    Ct Try.prog 28 #[v] e R (fun v' L' => ∃ ad c ts, v' = .slice ad ts.length c ∧ ts.map (·.2) = (l.map (·.2)).map leafP ∧ L' = OwnT (.slice ad ts.length c) ts :: Items ts :: R) := by
  refine Ct.of_sep (hv.shape (by omega)) ?_
  rintro ⟨⟨adl, cap, rfl, h3, h4, h5, h6⟩, _⟩
  simp only [maxLen] at h4
  refine Ct.enter (args := [_]) Try.func28 rfl Try.ntmps28 Try.results28 rfl ?_
  (repeat' first | (apply O.assign; exact rfl; exact rfl) | apply W.seq | apply W.region | apply O.nil | apply Fin.next | apply W.block)
  refine W.loop (ι := List Txt × Option Addr × Nat) (fun i => [(4, .int .i64 (i.1.length : Int)), (0, .slice adl l.length cap), (3, .slice i.2.1 i.1.length i.2.2)]) (fun i => OwnT (.slice i.2.1 i.1.length i.2.2) i.1 :: Items i.1 :: R)
    (fun i => i.1.length ≤ l.length ∧ i.1.map (·.2) = ((l.take i.1.length).map (·.2)).map leafP) (fun i => l.length - i.1.length) ([], none, 0) ⟨Nat.zero_le _, rfl⟩ (sub_cons rfl (sub_cons rfl (sub_cons rfl sub_nil))) ((own_nil tTxts 1).trans (Ent.cons items_nil)) ?_
  rintro ⟨out, ad, c⟩ ⟨hi, hd⟩
  dsimp only at hi hd ⊢
  by_cases hlt : out.length < l.length
  · rcases h6 with h6 | ⟨gl, ol, rfl⟩
    · omega
    have hr : Rd R ⟨gl, ol + out.length, none⟩ (l[out.length]'hlt).1 := hv.elem (by rw [List.getElem?_map, List.getElem?_eq_getElem hlt]; rfl)
    have hti := ht _ (List.getElem_mem hlt)
    have hbi := hb _ (List.getElem_mem hlt)
    have htk : ((l.take (out.length + 1)).map (·.2)).map leafP = ((l.take out.length).map (·.2)).map leafP ++ [leafP (l[out.length]'hlt).2] := by
      rw [List.take_succ_eq_append_getElem hlt, List.map_append, List.map_append]; rfl
    generalize l[out.length]'hlt = y at *
    obtain ⟨yv, yt⟩ := y
    dsimp only at hti hbi htk hr
    (repeat' first | (apply O.move; exact rfl; exact rfl) | apply W.seq | apply W.region | apply O.nil | apply Fin.next | (apply O.load; exact rfl; (focus ((repeat first | exact Rd.blk .zero rfl | assumption | apply Rd.tail); done)); exact rfl) | (apply O.len; exact rfl; exact rfl) | (apply O.lss_t; exact rfl; exact rfl; omega; exact rfl) | (apply O.indexAddr1; exact rfl; exact rfl; omega; exact rfl) | (apply W.cond_t; exact rfl) | apply W.block | apply W.skip)
    refine O.call rfl rfl (refLeaf_spec _ e _ yt hti.tail.tail hbi) ?_
    rintro _ _ ⟨ad2, c2, rfl, rfl⟩
    generalize leafP yt = lf at *
    (repeat' first | (apply O.buildSlice; exact rfl; exact rfl; exact rfl; (focus ((repeat first | exact Bs.Parts.nil | apply Bs.Parts.one rfl rfl | apply Bs.Parts.one (Bs.cells_one (by assumption)) rfl | (apply Bs.Parts.agg; exact rfl)); done)); exact rfl; exact rfl; intro _))
    refine O.do (Do.append rfl rfl rfl (by (repeat first | exact Pull.zero | apply Pull.succ); done) (RdSl.blk .zero rfl (by simp [maxLen])) rfl rfl (by (repeat first | exact one_nil | (apply one_cons; first | exact rfl | assumption)); done) (by simp only [maxLen]; omega) (by omega) fun ad3 c3 _ => ?_)
    (repeat' first | (apply O.move; exact rfl; exact rfl) | (apply O.assign; exact rfl; exact rfl) | apply W.region | apply O.nil | apply Fin.next | (apply O.add64; exact rfl; exact rfl; omega; exact rfl) | apply Fin.block_normal)
    refine Fin.round (out ++ [(.slice ad2 lf.length c2, lf)], ad3, c3) ⟨by rw [List.length_append]; exact hlt, by rw [List.map_append, hd, List.length_append, List.length_singleton, htk]; rfl⟩ (by dsimp only; rw [List.length_append, List.length_singleton]; omega) ?_ ?_
    · dsimp only
      rw [List.length_append, List.length_singleton]
      exact sub_cons rfl (sub_cons rfl (sub_cons rfl sub_nil))
    · exact Ent.trans (by (repeat first | exact Ent.rfl | exact Ent.nil | refine Ent.cons ?_ | (apply Ent.pull; exact (by (repeat first | exact Pull.zero | apply Pull.succ); done)) | refine Ent.drop ?_); done) grow_txts
  rw [show out.length = l.length by omega, List.take_of_length_le (Nat.le_refl _)] at hd
  (repeat' first | (apply O.move; exact rfl; exact rfl) | (apply O.assign; exact rfl; exact rfl) | apply W.seq | apply W.region | apply O.nil | apply Fin.next | (apply O.len; exact rfl; exact rfl) | (apply O.lss_f; exact rfl; exact rfl; omega; exact rfl) | (apply W.cond_f; exact rfl) | apply W.exit | apply W.ret | apply Fin.then_exit | apply Fin.block_hit)
  exact Fin.ret (OwnT (.slice ad out.length c) out :: Items out :: R) rfl Ent.rfl ⟨ad, c, out, rfl, hd, rfl⟩
theorem part_mapT {L : List Res} {ad : Option Addr} {c a b : Nat} {ts : List Txt} (h : RdSl L 1 (.slice ad ts.length c) ts.length (ts.map (·.1))) (hab : a ≤ b) (hb : b ≤ ts.length) : RdSl L 1 (.slice (cutAt ad c a 1) (b - a) (c - a)) ((ts.drop a).take (b - a)).length (((ts.drop a).take (b - a)).map (·.1)) := by
  have := RdSl.cut h hab hb
  rw [Nat.mul_one, Nat.mul_one, ← List.map_drop, ← List.map_take] at this
  rw [List.length_take, List.length_drop, Nat.min_eq_left (by omega)]
  exact this
end Go.Proofs
