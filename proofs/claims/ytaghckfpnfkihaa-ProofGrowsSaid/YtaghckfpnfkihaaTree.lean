/- trees of hashes: leaves, nodes, splits, roots. -/
import Derived.Test.YtaghckfpnfkihaaSum
import Derived.Test.YtaghckfpnfkihaaBits
import Derived.Test.YtaghckfpnfkihaaFew
namespace Go.Bs
/-- The greatest power of two below a number. -/
def splitP (n : Nat) : Nat := if n < 2 then 0 else 2 ^ (n - 1).log2
def splitI (n : Int) : Int := if n < 2 then 0 else (splitP n.toNat : Int)
theorem splitI_nat (n : Nat) : splitI (n : Int) = (splitP n : Int) := by
  unfold splitI splitP
  by_cases h : n < 2
  · rw [if_pos (by omega), if_pos h]; rfl
  · rw [if_neg (by omega), Int.toNat_natCast]
theorem splitP_spec {n : Nat} (h : 2 ≤ n) : 1 ≤ splitP n ∧ splitP n < n ∧ n ≤ 2 * splitP n := by
  unfold splitP
  rw [if_neg (by omega)]
  have h1 := Nat.log2_self_le (n := n - 1) (by omega)
  have h2 := Nat.lt_log2_self (n := n - 1)
  rw [Nat.pow_succ] at h2
  have h3 := Nat.two_pow_pos (n - 1).log2
  omega
def tagP (t : UInt8) (l : List (List UInt8)) : List UInt8 := sha (t :: l.flatten)
def leafP (b : List UInt8) : List UInt8 := tagP 0 [b]
def nodeP (l r : List UInt8) : List UInt8 := tagP 1 [l, r]
def rootP (l : List (List UInt8)) : List UInt8 :=
  if h : l.length < 2 then (match l with | [] => sha [] | a :: _ => a) else nodeP (rootP (l.take (splitP l.length))) (rootP (l.drop (splitP l.length)))
termination_by l.length
decreasing_by
  · have := splitP_spec (n := l.length) (by omega); rw [List.length_take]; omega
  · have := splitP_spec (n := l.length) (by omega); rw [List.length_drop]; omega
theorem rootP_nil : rootP [] = sha [] := by rw [rootP, dif_pos (by simp)]
theorem rootP_one (a : List UInt8) : rootP [a] = a := by rw [rootP, dif_pos (by simp)]
theorem rootP_more {l : List (List UInt8)} (h : 2 ≤ l.length) : rootP l = nodeP (rootP (l.take (splitP l.length))) (rootP (l.drop (splitP l.length))) := by rw [rootP, dif_neg (by omega)]
theorem tagP_length (t : UInt8) (l : List (List UInt8)) : (tagP t l).length = 32 := sha_length _
theorem rootP_length {l : List (List UInt8)} {m : Nat} (hm : 32 ≤ m) (h : ∀ a ∈ l, a.length ≤ m) : (rootP l).length ≤ m := by
  match l, h with
  | [], _ => rw [rootP_nil, sha_length]; exact hm
  | [a], h => rw [rootP_one]; exact h a (List.mem_singleton.2 rfl)
  | a :: b :: r, _ => rw [rootP_more (by simp)]; unfold nodeP; rw [tagP_length]; exact hm
end Go.Bs
namespace Go.Proofs
set_option linter.unusedVariables false
open Go.Bs
set_option linter.unusedSimpArgs false
attribute [local irreducible] Bs.Val Bs.Do Bs.O Bs.W Bs.Fin Bs.A Bs.Ct Bs.RdSl Bs.Rd Bs.Sat Bs.Blk Bs.Ob Bs.Own Bs.View Bs.Ent Bs.Ex Bs.All Bs.Pu Bs.Base Bs.sepL Bs.RdA
theorem split_spec (R : List Res) (e : World) (n : Int) (hn : -9223372036854775808 ≤ n ∧ n ≤ 9223372036854775807) :
    Ct Try.prog 59 #[.int .i64 n] e R (fun v' L' => v' = .int .i64 (splitI n) ∧ R = L') := by
  refine Ct.enter (args := [_]) Try.func59 rfl Try.ntmps59 Try.results59 rfl ?_
  by_cases h : n < 2
  · (repeat' first | (apply O.move; exact rfl; exact rfl) | (apply O.assign; exact rfl; exact rfl) | apply W.seq | apply W.region | apply O.nil | apply Fin.next | (apply O.lss_t; exact rfl; exact rfl; omega; exact rfl) | (apply W.cond_t; exact rfl) | apply W.ret | apply Fin.then_ret)
    exact Fin.ret R rfl Ent.rfl ⟨by unfold splitI; rw [if_pos h]; rfl, rfl⟩
  obtain ⟨m, rfl⟩ := Int.eq_ofNat_of_zero_le (show 0 ≤ n by omega)
  have hw : IntKind.u64.wrap ((m : Int) - 1) = ((m - 1 : Nat) : Int) := by
    rw [show (m : Int) - 1 = ((m - 1 : Nat) : Int) by omega]; exact w64 _ (by omega)
  have hl : lenP (m - 1) = (m - 1).log2 + 1 := by unfold lenP; rw [if_neg (by omega)]
  have hb : (m - 1).log2 < 63 := (Nat.log2_lt (by omega)).2 (by omega)
  have hp : 2 ^ (m - 1).log2 ≤ m - 1 := Nat.log2_self_le (by omega)
  (repeat' first | (apply O.move; exact rfl; exact rfl) | (apply O.assign; exact rfl; exact rfl) | apply W.seq | apply W.region | apply O.nil | apply Fin.next | (apply O.lss_f; exact rfl; exact rfl; omega; exact rfl) | (apply O.sub64; exact rfl; exact rfl; omega; exact rfl) | (apply O.convInt; exact rfl; exact rfl) | (apply W.cond_f; exact rfl) | apply W.skip)
  rw [hw]
  refine O.call rfl rfl (len_spec R e (m - 1) (by omega)) ?_
  rintro _ _ ⟨rfl, rfl⟩
  rw [hl]
  (repeat' first | (apply O.assign; exact rfl; exact rfl) | apply O.nil | apply Fin.next | (apply O.sub64; exact rfl; exact rfl; omega; exact rfl) | (apply O.shl; exact rfl; exact rfl; omega; exact rfl) | apply W.ret)
  refine Fin.ret R rfl Ent.rfl ⟨?_, rfl⟩
  rw [splitI_nat]
  unfold splitP
  rw [if_neg (by omega)]
  show Value.int _ _ = Value.int _ _
  congr 1
  rw [show ((((m - 1).log2 + 1 : Nat) : Int) - 1).toNat = (m - 1).log2 by omega, show IntKind.i64.bits = 64 from rfl, Nat.min_eq_left (by omega), Int.one_mul]
  have e1 : (2 : Int) ^ (m - 1).log2 = ((2 ^ (m - 1).log2 : Nat) : Int) := by simp
  rw [e1]
  clear e1
  generalize 2 ^ (m - 1).log2 = q at *
  exact wrap_i64 (by omega) (by omega)
theorem refSplit_spec (R : List Res) (e : World) (n : Int) (hn : -9223372036854775808 ≤ n ∧ n ≤ 9223372036854775807) :
    Ct Try.prog 32 #[.int .i64 n] e R (fun v' L' => v' = .int .i64 (splitI n) ∧ R = L') := by
  refine Ct.enter (args := [_]) Try.func32 rfl Try.ntmps32 Try.results32 rfl ?_
  by_cases h : n < 2
  · (repeat' first | (apply O.move; exact rfl; exact rfl) | (apply O.assign; exact rfl; exact rfl) | apply W.seq | apply W.region | apply O.nil | apply Fin.next | (apply O.lss_t; exact rfl; exact rfl; omega; exact rfl) | (apply W.cond_t; exact rfl) | apply W.ret | apply Fin.then_ret)
    exact Fin.ret R rfl Ent.rfl ⟨by unfold splitI; rw [if_pos h]; rfl, rfl⟩
  obtain ⟨m, rfl⟩ := Int.eq_ofNat_of_zero_le (show 0 ≤ n by omega)
  have hm1 : m - 1 ≠ 0 := by omega
  (repeat' first | (apply O.move; exact rfl; exact rfl) | (apply O.assign; exact rfl; exact rfl) | apply W.seq | apply W.region | apply O.nil | apply Fin.next | (apply O.lss_f; exact rfl; exact rfl; omega; exact rfl) | (apply W.cond_f; exact rfl) | apply W.block | apply W.skip)
  refine W.loop (ι := Nat) (fun j => [(0, .int .i64 (m : Int)), (3, .int .i64 ((2 ^ j : Nat) : Int))]) (fun _ => R) (fun j => j ≤ (m - 1).log2) (fun j => (m - 1).log2 - j) 0 (Nat.zero_le _) (sub_cons rfl (sub_cons rfl sub_nil)) Ent.rfl ?_
  intro j hj
  have hp : 2 ^ j ≤ m - 1 := (Nat.le_log2 hm1).1 hj
  by_cases hlt : j < (m - 1).log2
  · have hp2 : 2 ^ (j + 1) ≤ m - 1 := (Nat.le_log2 hm1).1 hlt
    rw [Nat.pow_succ] at hp2
    (repeat' first | (apply O.move; exact rfl; exact rfl) | (apply O.assign; exact rfl; exact rfl) | apply W.seq | apply W.region | apply O.nil | apply Fin.next | (apply O.gtr_t; exact rfl; exact rfl; omega; exact rfl) | (apply O.sub64; exact rfl; exact rfl; omega; exact rfl) | (apply O.mul64; exact rfl; exact rfl; omega; exact rfl) | (apply W.cond_t; exact rfl) | apply W.block | apply W.skip | apply Fin.block_normal)
    refine Fin.round (j + 1) hlt (by omega) (sub_cons rfl (sub_cons ?_ sub_nil)) Ent.rfl
    show some (Value.int _ _) = some (Value.int _ _)
    rw [Nat.pow_succ, Int.natCast_mul, Int.mul_comm]
    rfl
  obtain rfl : j = (m - 1).log2 := by omega
  have hp2 := Nat.lt_log2_self (n := m - 1)
  rw [Nat.pow_succ] at hp2
  (repeat' first | (apply O.move; exact rfl; exact rfl) | (apply O.assign; exact rfl; exact rfl) | apply W.seq | apply W.region | apply O.nil | apply Fin.next | (apply O.gtr_f; exact rfl; exact rfl; omega; exact rfl) | (apply O.sub64; exact rfl; exact rfl; omega; exact rfl) | (apply W.cond_f; exact rfl) | apply W.exit | apply W.ret | apply Fin.then_exit | apply Fin.block_hit)
  refine Fin.ret R rfl Ent.rfl ⟨?_, rfl⟩
  rw [splitI_nat]
  unfold splitP
  rw [if_neg (by omega)]
  rfl
/-- What Tagged's bytes come to, behind so many parts. -/
theorem tagged_spec (R : List Res) (e : World) (t : UInt8) (v : Value) (ts : List Txt) (hv : RdSl R 1 v ts.length (ts.map (·.1))) (ht : Txts R ts) (hb : ∀ a ∈ ts, a.2.length ≤ 1000000) (hl : ts.length ≤ 10000) :
    Ct Try.prog 72 #[u8 t, v] e R (fun v' L' => ∃ ad c, v' = .slice ad (tagP t (ts.map (·.2))).length c ∧ L' = OwnB (.slice ad (tagP t (ts.map (·.2))).length c) (tagP t (ts.map (·.2))) :: R) := by
  refine Ct.of_sep (hv.shape (by omega)) ?_
  rintro ⟨⟨ad, cap, rfl, h3, h4, h5, h6⟩, _⟩
  simp only [maxLen] at h4
  have hcl : ∀ i, (cat (ts.take i)).length ≤ 10000000000 := fun i => by
    have h1 := cat_len (l := ts.take i) (m := 1000000) (fun a ha => hb a (List.mem_of_mem_take ha))
    rw [List.length_take] at h1
    have h2 : 1000000 * min i ts.length ≤ 1000000 * 10000 := Nat.mul_le_mul_left _ (by omega)
    omega
  refine Ct.enter (args := [_, _]) Try.func72 rfl Try.ntmps72 Try.results72 rfl ?_
  (repeat' first | (apply O.move; exact rfl; exact rfl) | (apply O.assign; exact rfl; exact rfl) | apply W.seq | apply W.region | apply O.nil | apply Fin.next | (apply O.len; exact rfl; exact rfl) | (apply O.buildSlice; exact rfl; exact rfl; exact rfl; (focus ((repeat first | exact Bs.Parts.nil | apply Bs.Parts.one rfl rfl | apply Bs.Parts.one (Bs.cells_one (by assumption)) rfl | (apply Bs.Parts.agg; exact rfl)); done)); exact rfl; exact rfl; intro _) | apply W.block)
  refine W.ent1 (Ent.trans (own_in (n := 1) (k := 1) (cap := 1) (by omega) (by simp [maxLen]) (by simp)) Ent.rfl) ?_
  refine W.loop (ι := Nat × Option Addr × Nat) (fun i => [(12, .int .i64 (i.1 : Int)), (11, .int .i64 (ts.length : Int)), (10, .slice ad ts.length cap), (5, .slice i.2.1 (1 + (cat (ts.take i.1)).length) i.2.2)])
    (fun i => Own tU8 1 (.slice i.2.1 (1 + (cat (ts.take i.1)).length) i.2.2) (1 + (cat (ts.take i.1)).length) ((t :: cat (ts.take i.1)).map u8) :: R) (fun i => i.1 ≤ ts.length) (fun i => ts.length - i.1) (0, _, 1) (Nat.zero_le _) (sub_cons rfl (sub_cons rfl (sub_cons rfl (sub_cons rfl sub_nil)))) Ent.rfl ?_
  rintro ⟨i, ad2, c2⟩ hi
  dsimp only at hi ⊢
  have hci := hcl i
  by_cases hlt : i < ts.length
  · rcases h6 with h6 | ⟨gl, ol, rfl⟩
    · omega
    have hr : Rd R ⟨gl, ol + i, none⟩ (ts[i]'hlt).1 := hv.elem (by rw [List.getElem?_map, List.getElem?_eq_getElem hlt]; rfl)
    have hti := ht _ (List.getElem_mem hlt)
    have hbi := hb _ (List.getElem_mem hlt)
    have hct := cat_take hlt
    generalize ts[i]'hlt = y at *
    obtain ⟨yv, yt⟩ := y
    dsimp only at hti hbi hct hr
    (repeat' first | (apply O.move; exact rfl; exact rfl) | (apply O.assign; exact rfl; exact rfl) | apply W.seq | apply W.region | apply O.nil | apply Fin.next | (apply O.load; exact rfl; (focus ((repeat first | exact Rd.blk .zero rfl | assumption | apply Rd.tail); done)); exact rfl) | (apply O.lss_t; exact rfl; exact rfl; omega; exact rfl) | (apply O.indexAddr1; exact rfl; exact rfl; omega; exact rfl) | (apply W.cond_t; exact rfl) | apply W.block | apply W.skip)
    refine O.do (Do.append rfl rfl rfl .zero hti rfl rfl u8_one (by simp only [maxLen]; omega) (by omega) fun ad3 c3 _ => ?_)
    (repeat' first | (apply O.move; exact rfl; exact rfl) | (apply O.assign; exact rfl; exact rfl) | apply W.region | apply O.nil | apply Fin.next | (apply O.add64; exact rfl; exact rfl; omega; exact rfl) | apply Fin.block_normal)
    refine Fin.round (i + 1, ad3, c3) hlt (by dsimp only; omega) ?_ ?_
    · dsimp only
      rw [hct, List.length_append, ← Nat.add_assoc]
      exact sub_cons rfl (sub_cons rfl (sub_cons rfl (sub_cons rfl sub_nil)))
    · dsimp only
      rw [hct, List.length_append, ← Nat.add_assoc, ← List.cons_append, List.map_append]
      exact (by (repeat first | exact Ent.rfl | exact Ent.nil | refine Ent.cons ?_ | (apply Ent.pull; exact (by (repeat first | exact Pull.zero | apply Pull.succ); done)) | refine Ent.drop ?_); done)
  rw [List.take_of_length_le (by omega)] at hci ⊢
  have htg : tagP t (ts.map (·.2)) = sha (t :: cat ts) := rfl
  rw [htg]
  have hrb : RdB (Own tU8 1 (.slice ad2 (1 + (cat ts).length) c2) (1 + (cat ts).length) ((t :: cat ts).map u8) :: R) (.slice ad2 (1 + (cat ts).length) c2) (t :: cat ts) := by
    unfold RdB
    rw [List.length_cons, Nat.add_comm]
    exact RdSl.own .zero
  (repeat' first | (apply O.move; exact rfl; exact rfl) | apply W.seq | apply W.region | apply O.nil | apply Fin.next | (apply O.lss_f; exact rfl; exact rfl; omega; exact rfl) | (apply W.cond_f; exact rfl) | apply W.exit | apply Fin.then_exit | apply Fin.block_hit)
  refine O.call rfl rfl (sum_spec _ e _ _ hrb (by rw [List.length_cons]; omega)) ?_
  rintro _ _ ⟨ad4, c4, rfl, rfl⟩
  (repeat' first | (apply O.assign; exact rfl; exact rfl) | apply O.nil | apply Fin.next | apply W.ret)
  exact Fin.ret (OwnB (.slice ad4 (sha (t :: cat ts)).length c4) (sha (t :: cat ts)) :: R) rfl (by (repeat first | exact Ent.rfl | exact Ent.nil | refine Ent.cons ?_ | (apply Ent.pull; exact (by (repeat first | exact Pull.zero | apply Pull.succ); done)) | refine Ent.drop ?_); done) ⟨ad4, c4, rfl, rfl⟩
theorem refTagged_spec (R : List Res) (e : World) (t : UInt8) (v : Value) (ts : List Txt) (hv : RdSl R 1 v ts.length (ts.map (·.1))) (ht : Txts R ts) (hb : ∀ a ∈ ts, a.2.length ≤ 1000000) (hl : ts.length ≤ 10000) :
    Ct Try.prog 58 #[u8 t, v] e R (fun v' L' => ∃ ad c, v' = .slice ad (tagP t (ts.map (·.2))).length c ∧ L' = OwnB (.slice ad (tagP t (ts.map (·.2))).length c) (tagP t (ts.map (·.2))) :: R) := by
  refine Ct.of_sep (hv.shape (by omega)) ?_
  rintro ⟨⟨ad, cap, rfl, h3, h4, h5, h6⟩, _⟩
  simp only [maxLen] at h4
  have hcl : ∀ i, (cat (ts.take i)).length ≤ 10000000000 := fun i => by
    have h1 := cat_len (l := ts.take i) (m := 1000000) (fun a ha => hb a (List.mem_of_mem_take ha))
    rw [List.length_take] at h1
    have h2 : 1000000 * min i ts.length ≤ 1000000 * 10000 := Nat.mul_le_mul_left _ (by omega)
    omega
  refine Ct.enter (args := [_, _]) Try.func58 rfl Try.ntmps58 Try.results58 rfl ?_
  (repeat' first | (apply O.move; exact rfl; exact rfl) | (apply O.assign; exact rfl; exact rfl) | apply W.seq | apply W.region | apply O.nil | apply Fin.next | (apply O.buildSlice; exact rfl; exact rfl; exact rfl; (focus ((repeat first | exact Bs.Parts.nil | apply Bs.Parts.one rfl rfl | apply Bs.Parts.one (Bs.cells_one (by assumption)) rfl | (apply Bs.Parts.agg; exact rfl)); done)); exact rfl; exact rfl; intro _) | apply W.block)
  refine W.ent1 (Ent.trans (own_in (n := 1) (k := 1) (cap := 1) (by omega) (by simp [maxLen]) (by simp)) Ent.rfl) ?_
  refine W.loop (ι := Nat × Option Addr × Nat) (fun i => [(6, .int .i64 (i.1 : Int)), (1, .slice ad ts.length cap), (5, .slice i.2.1 (1 + (cat (ts.take i.1)).length) i.2.2)])
    (fun i => Own tU8 1 (.slice i.2.1 (1 + (cat (ts.take i.1)).length) i.2.2) (1 + (cat (ts.take i.1)).length) ((t :: cat (ts.take i.1)).map u8) :: R) (fun i => i.1 ≤ ts.length) (fun i => ts.length - i.1) (0, _, 1) (Nat.zero_le _) (sub_cons rfl (sub_cons rfl (sub_cons rfl sub_nil))) Ent.rfl ?_
  rintro ⟨i, ad2, c2⟩ hi
  dsimp only at hi ⊢
  have hci := hcl i
  by_cases hlt : i < ts.length
  · rcases h6 with h6 | ⟨gl, ol, rfl⟩
    · omega
    have hr : Rd R ⟨gl, ol + i, none⟩ (ts[i]'hlt).1 := hv.elem (by rw [List.getElem?_map, List.getElem?_eq_getElem hlt]; rfl)
    have hti := ht _ (List.getElem_mem hlt)
    have hbi := hb _ (List.getElem_mem hlt)
    have hct := cat_take hlt
    generalize ts[i]'hlt = y at *
    obtain ⟨yv, yt⟩ := y
    dsimp only at hti hbi hct hr
    (repeat' first | (apply O.move; exact rfl; exact rfl) | apply W.seq | apply W.region | apply O.nil | apply Fin.next | (apply O.load; exact rfl; (focus ((repeat first | exact Rd.blk .zero rfl | assumption | apply Rd.tail); done)); exact rfl) | (apply O.len; exact rfl; exact rfl) | (apply O.lss_t; exact rfl; exact rfl; omega; exact rfl) | (apply O.indexAddr1; exact rfl; exact rfl; omega; exact rfl) | (apply W.cond_t; exact rfl) | apply W.block | apply W.skip)
    refine O.do (Do.append rfl rfl rfl .zero hti rfl rfl u8_one (by simp only [maxLen]; omega) (by omega) fun ad3 c3 _ => ?_)
    (repeat' first | (apply O.move; exact rfl; exact rfl) | (apply O.assign; exact rfl; exact rfl) | apply W.region | apply O.nil | apply Fin.next | (apply O.add64; exact rfl; exact rfl; omega; exact rfl) | apply Fin.block_normal)
    refine Fin.round (i + 1, ad3, c3) hlt (by dsimp only; omega) ?_ ?_
    · dsimp only
      rw [hct, List.length_append, ← Nat.add_assoc]
      exact sub_cons rfl (sub_cons rfl (sub_cons rfl sub_nil))
    · dsimp only
      rw [hct, List.length_append, ← Nat.add_assoc, ← List.cons_append, List.map_append]
      exact (by (repeat first | exact Ent.rfl | exact Ent.nil | refine Ent.cons ?_ | (apply Ent.pull; exact (by (repeat first | exact Pull.zero | apply Pull.succ); done)) | refine Ent.drop ?_); done)
  rw [List.take_of_length_le (by omega)] at hci ⊢
  have htg : tagP t (ts.map (·.2)) = sha (t :: cat ts) := rfl
  rw [htg]
  have hrb : RdB (Own tU8 1 (.slice ad2 (1 + (cat ts).length) c2) (1 + (cat ts).length) ((t :: cat ts).map u8) :: R) (.slice ad2 (1 + (cat ts).length) c2) (t :: cat ts) := by
    unfold RdB
    rw [List.length_cons, Nat.add_comm]
    exact RdSl.own .zero
  (repeat' first | (apply O.move; exact rfl; exact rfl) | apply W.seq | apply W.region | apply O.nil | apply Fin.next | (apply O.len; exact rfl; exact rfl) | (apply O.lss_f; exact rfl; exact rfl; omega; exact rfl) | (apply W.cond_f; exact rfl) | apply W.exit | apply Fin.then_exit | apply Fin.block_hit)
  refine O.call rfl rfl (sum2_spec _ e _ _ hrb (by rw [List.length_cons]; omega)) ?_
  rintro _ _ ⟨ad4, c4, rfl, rfl⟩
  (repeat' first | (apply O.assign; exact rfl; exact rfl) | apply O.nil | apply Fin.next | apply W.ret)
  exact Fin.ret (OwnB (.slice ad4 (sha (t :: cat ts)).length c4) (sha (t :: cat ts)) :: R) rfl (by (repeat first | exact Ent.rfl | exact Ent.nil | refine Ent.cons ?_ | (apply Ent.pull; exact (by (repeat first | exact Pull.zero | apply Pull.succ); done)) | refine Ent.drop ?_); done) ⟨ad4, c4, rfl, rfl⟩
theorem node_spec (R : List Res) (e : World) (v u : Value) (b c : List UInt8) (hv : RdB R v b) (hu : RdB R u c) (hb : b.length ≤ 1000000) (hc : c.length ≤ 1000000) :
    Ct Try.prog 62 #[v, u] e R (fun v' L' => ∃ ad k, v' = .slice ad (nodeP b c).length k ∧ L' = OwnB (.slice ad (nodeP b c).length k) (nodeP b c) :: R) := by
  refine Ct.of_sep (RdB.one hv) fun ho => ?_
  refine Ct.of_sep (RdB.one hu) fun ho2 => ?_
  refine Ct.enter (args := [_, _]) Try.func62 rfl Try.ntmps62 Try.results62 rfl ?_
  (repeat' first | (apply O.buildSlice; exact rfl; exact rfl; exact rfl; exact .one (cells_one ho) rfl (.one (cells_one ho2) rfl .nil); exact rfl; exact rfl; intro _) | (apply O.move; exact rfl; exact rfl) | (apply O.assign; exact rfl; exact rfl) | apply W.seq | apply W.region | apply O.nil | apply Fin.next)
  refine O.call rfl rfl (tagged_spec _ e 1 _ [(v, b), (u, c)] (RdSl.blk .zero rfl (by simp [maxLen])) (fun a ha => ?_) (fun a ha => ?_) (by simp)) ?_
  · rcases List.mem_cons.1 ha with rfl | ha
    · exact hv.tail
    · rw [List.mem_singleton.1 ha]; exact hu.tail
  · rcases List.mem_cons.1 ha with rfl | ha
    · exact hb
    · rw [List.mem_singleton.1 ha]; exact hc
  rintro _ _ ⟨ad, k, rfl, rfl⟩
  (repeat' first | (apply O.assign; exact rfl; exact rfl) | apply O.nil | apply Fin.next | apply W.ret)
  exact Fin.ret (OwnB (.slice ad (nodeP b c).length k) (nodeP b c) :: R) rfl (by (repeat first | exact Ent.rfl | exact Ent.nil | refine Ent.cons ?_ | (apply Ent.pull; exact (by (repeat first | exact Pull.zero | apply Pull.succ); done)) | refine Ent.drop ?_); done) ⟨ad, k, rfl, rfl⟩
theorem refLeaf_spec (R : List Res) (e : World) (v : Value) (b : List UInt8) (hv : RdB R v b) (hb : b.length ≤ 1000000) :
    Ct Try.prog 47 #[v] e R (fun v' L' => ∃ ad c, v' = .slice ad (leafP b).length c ∧ L' = OwnB (.slice ad (leafP b).length c) (leafP b) :: R) := by
  refine Ct.of_sep (RdB.one hv) fun ho => ?_
  refine Ct.enter (args := [_]) Try.func47 rfl Try.ntmps47 Try.results47 rfl ?_
  (repeat' first | (apply O.buildSlice; exact rfl; exact rfl; exact rfl; exact .one (cells_one ho) rfl .nil; exact rfl; exact rfl; intro _) | (apply O.move; exact rfl; exact rfl) | (apply O.assign; exact rfl; exact rfl) | apply W.seq | apply W.region | apply O.nil | apply Fin.next)
  refine O.call rfl rfl (refTagged_spec _ e 0 _ [(v, b)] (RdSl.blk .zero rfl (by simp [maxLen])) (fun a ha => by rw [List.mem_singleton.1 ha]; exact hv.tail) (fun a ha => by rw [List.mem_singleton.1 ha]; exact hb) (by simp)) ?_
  rintro _ _ ⟨ad, c, rfl, rfl⟩
  (repeat' first | (apply O.assign; exact rfl; exact rfl) | apply O.nil | apply Fin.next | apply W.ret)
  exact Fin.ret (OwnB (.slice ad (leafP b).length c) (leafP b) :: R) rfl (by (repeat first | exact Ent.rfl | exact Ent.nil | refine Ent.cons ?_ | (apply Ent.pull; exact (by (repeat first | exact Pull.zero | apply Pull.succ); done)) | refine Ent.drop ?_); done) ⟨ad, c, rfl, rfl⟩
theorem refNode_spec (R : List Res) (e : World) (v u : Value) (b c : List UInt8) (hv : RdB R v b) (hu : RdB R u c) (hb : b.length ≤ 1000000) (hc : c.length ≤ 1000000) :
    Ct Try.prog 38 #[v, u] e R (fun v' L' => ∃ ad k, v' = .slice ad (nodeP b c).length k ∧ L' = OwnB (.slice ad (nodeP b c).length k) (nodeP b c) :: R) := by
  refine Ct.of_sep (RdB.one hv) fun ho => ?_
  refine Ct.of_sep (RdB.one hu) fun ho2 => ?_
  refine Ct.enter (args := [_, _]) Try.func38 rfl Try.ntmps38 Try.results38 rfl ?_
  (repeat' first | (apply O.buildSlice; exact rfl; exact rfl; exact rfl; exact .one (cells_one ho) rfl (.one (cells_one ho2) rfl .nil); exact rfl; exact rfl; intro _) | (apply O.move; exact rfl; exact rfl) | (apply O.assign; exact rfl; exact rfl) | apply W.seq | apply W.region | apply O.nil | apply Fin.next)
  refine O.call rfl rfl (refTagged_spec _ e 1 _ [(v, b), (u, c)] (RdSl.blk .zero rfl (by simp [maxLen])) (fun a ha => ?_) (fun a ha => ?_) (by simp)) ?_
  · rcases List.mem_cons.1 ha with rfl | ha
    · exact hv.tail
    · rw [List.mem_singleton.1 ha]; exact hu.tail
  · rcases List.mem_cons.1 ha with rfl | ha
    · exact hb
    · rw [List.mem_singleton.1 ha]; exact hc
  rintro _ _ ⟨ad, k, rfl, rfl⟩
  (repeat' first | (apply O.assign; exact rfl; exact rfl) | apply O.nil | apply Fin.next | apply W.ret)
  exact Fin.ret (OwnB (.slice ad (nodeP b c).length k) (nodeP b c) :: R) rfl (by (repeat first | exact Ent.rfl | exact Ent.nil | refine Ent.cons ?_ | (apply Ent.pull; exact (by (repeat first | exact Pull.zero | apply Pull.succ); done)) | refine Ent.drop ?_); done) ⟨ad, k, rfl, rfl⟩
end Go.Proofs
