/- The statements' own small helpers: numbers brought into bounds, lists cut, lists of texts. -/
import Derived.Test.YtamjkmnhgajlcaaFacts
import Derived.Test.YtamjkmnhgajlcaaBe
namespace Go.Proofs
set_option linter.unusedVariables false
open Go.Bs
set_option linter.unusedSimpArgs false
attribute [local irreducible] Bs.Val Bs.Do Bs.O Bs.W Bs.Fin Bs.A Bs.Ct Bs.RdSl Bs.Rd Bs.Sat Bs.Blk Bs.Ob Bs.Own Bs.View Bs.Ent Bs.Ex Bs.All Bs.Pu Bs.Base Bs.sepL Bs.RdA
/-- A number brought into its bounds. -/
def within (n lo hi : Int) : Int := if n ≥ lo ∧ n ≤ hi then n else lo + (if n.tmod (hi - lo + 1) < 0 then n.tmod (hi - lo + 1) + hi - lo + 1 else n.tmod (hi - lo + 1))
theorem within_bounds (n lo hi : Int) (h : lo ≤ hi) : lo ≤ within n lo hi ∧ within n lo hi ≤ hi := by
  unfold within
  have h1 := Int.tmod_lt_of_pos n (show 0 < hi - lo + 1 by omega)
  have h2 : -(hi - lo + 1) < n.tmod (hi - lo + 1) := by
    rcases Int.le_total 0 n with h0 | h0
    · have := Int.tmod_nonneg (hi - lo + 1) h0; omega
    · have h3 := Int.tmod_lt_of_pos (-n) (show 0 < hi - lo + 1 by omega)
      rw [Int.neg_tmod] at h3; omega
  split
  · omega
  · split <;> omega
theorem within_spec (R : List Res) (e : World) (n lo hi : Int) (hn : -9223372036854775808 ≤ n ∧ n ≤ 9223372036854775807) (hl : -4611686018427387904 ≤ lo ∧ lo ≤ hi ∧ hi ≤ 1099511627776 ∧ hi - lo ≤ 1099511627776) :
    Ct Try.prog 20 #[.int .i64 n, .int .i64 lo, .int .i64 hi] e R (fun v' L' => v' = .int .i64 (within n lo hi) ∧ R = L') := by
  refine Ct.enter (args := [_, _, _]) Try.func20 rfl Try.ntmps20 Try.results20 rfl ?_
  have h1 := Int.tmod_lt_of_pos n (show 0 < hi - lo + 1 by omega)
  have h2 : -(hi - lo + 1) < n.tmod (hi - lo + 1) := by
    rcases Int.le_total 0 n with h0 | h0
    · have := Int.tmod_nonneg (hi - lo + 1) h0; omega
    · have h3 := Int.tmod_lt_of_pos (-n) (show 0 < hi - lo + 1 by omega)
      rw [Int.neg_tmod] at h3; omega
  have hw : within n lo hi = if n ≥ lo ∧ n ≤ hi then n else lo + (if n.tmod (hi - lo + 1) < 0 then n.tmod (hi - lo + 1) + hi - lo + 1 else n.tmod (hi - lo + 1)) := rfl
  by_cases ha : n ≥ lo
  · by_cases hb : n ≤ hi
    · (repeat' first | (apply O.move; exact rfl; exact rfl) | (apply O.assign; exact rfl; exact rfl) | apply W.seq | apply W.region | apply O.nil | apply Fin.next | (apply O.pick_t; exact rfl; exact rfl; exact rfl) | (apply O.pick_f; exact rfl; exact rfl; exact rfl) | (apply O.want; exact rfl) | (apply O.unwant; exact rfl; exact rfl) | (apply O.unwant0; exact rfl) | (apply O.lss_t; exact rfl; exact rfl; omega; exact rfl) | (apply O.lss_f; exact rfl; exact rfl; omega; exact rfl) | (apply O.lss_d; exact rfl; exact rfl; exact rfl; all_goals intro _) | (apply O.leq_t; exact rfl; exact rfl; omega; exact rfl) | (apply O.leq_f; exact rfl; exact rfl; omega; exact rfl) | (apply O.leq_d; exact rfl; exact rfl; exact rfl; all_goals intro _) | (apply O.geq_t; exact rfl; exact rfl; omega; exact rfl) | (apply O.geq_f; exact rfl; exact rfl; omega; exact rfl) | (apply O.geq_d; exact rfl; exact rfl; exact rfl; all_goals intro _) | (apply O.add64; exact rfl; exact rfl; omega; exact rfl) | (apply O.add; exact rfl; exact rfl; exact rfl) | (apply O.sub64; exact rfl; exact rfl; omega; exact rfl) | (apply O.sub; exact rfl; exact rfl; exact rfl) | (apply O.lssStr_t; exact rfl; exact rfl; assumption; exact rfl) | (apply O.lssStr_f; exact rfl; exact rfl; assumption; exact rfl) | (apply O.lssStr; exact rfl; exact rfl; exact rfl) | (apply W.cond_t; exact rfl) | (apply W.cond_f; exact rfl) | apply W.skip | apply W.ret | apply Fin.then_ret | (apply O.rem; exact rfl; exact rfl; omega; exact rfl) | (apply O.addStr; exact rfl; exact rfl; omega; exact rfl))
      exact Fin.ret _ rfl Ent.rfl ⟨by rw [hw, if_pos ⟨ha, hb⟩]; rfl, rfl⟩
    · by_cases hc : n.tmod (hi - lo + 1) < 0
      · (repeat' first | (apply O.move; exact rfl; exact rfl) | (apply O.assign; exact rfl; exact rfl) | apply W.seq | apply W.region | apply O.nil | apply Fin.next | (apply O.pick_t; exact rfl; exact rfl; exact rfl) | (apply O.pick_f; exact rfl; exact rfl; exact rfl) | (apply O.want; exact rfl) | (apply O.unwant; exact rfl; exact rfl) | (apply O.unwant0; exact rfl) | (apply O.lss_t; exact rfl; exact rfl; omega; exact rfl) | (apply O.lss_f; exact rfl; exact rfl; omega; exact rfl) | (apply O.lss_d; exact rfl; exact rfl; exact rfl; all_goals intro _) | (apply O.leq_t; exact rfl; exact rfl; omega; exact rfl) | (apply O.leq_f; exact rfl; exact rfl; omega; exact rfl) | (apply O.leq_d; exact rfl; exact rfl; exact rfl; all_goals intro _) | (apply O.geq_t; exact rfl; exact rfl; omega; exact rfl) | (apply O.geq_f; exact rfl; exact rfl; omega; exact rfl) | (apply O.geq_d; exact rfl; exact rfl; exact rfl; all_goals intro _) | (apply O.add64; exact rfl; exact rfl; omega; exact rfl) | (apply O.add; exact rfl; exact rfl; exact rfl) | (apply O.sub64; exact rfl; exact rfl; omega; exact rfl) | (apply O.sub; exact rfl; exact rfl; exact rfl) | (apply O.lssStr_t; exact rfl; exact rfl; assumption; exact rfl) | (apply O.lssStr_f; exact rfl; exact rfl; assumption; exact rfl) | (apply O.lssStr; exact rfl; exact rfl; exact rfl) | (apply W.cond_t; exact rfl) | (apply W.cond_f; exact rfl) | apply W.skip | apply W.ret | apply Fin.then_ret | (apply O.rem; exact rfl; exact rfl; omega; exact rfl) | (apply O.addStr; exact rfl; exact rfl; omega; exact rfl))
        exact Fin.ret _ rfl Ent.rfl ⟨by rw [hw, if_neg (fun h => hb h.2), if_pos hc]; rfl, rfl⟩
      · (repeat' first | (apply O.move; exact rfl; exact rfl) | (apply O.assign; exact rfl; exact rfl) | apply W.seq | apply W.region | apply O.nil | apply Fin.next | (apply O.pick_t; exact rfl; exact rfl; exact rfl) | (apply O.pick_f; exact rfl; exact rfl; exact rfl) | (apply O.want; exact rfl) | (apply O.unwant; exact rfl; exact rfl) | (apply O.unwant0; exact rfl) | (apply O.lss_t; exact rfl; exact rfl; omega; exact rfl) | (apply O.lss_f; exact rfl; exact rfl; omega; exact rfl) | (apply O.lss_d; exact rfl; exact rfl; exact rfl; all_goals intro _) | (apply O.leq_t; exact rfl; exact rfl; omega; exact rfl) | (apply O.leq_f; exact rfl; exact rfl; omega; exact rfl) | (apply O.leq_d; exact rfl; exact rfl; exact rfl; all_goals intro _) | (apply O.geq_t; exact rfl; exact rfl; omega; exact rfl) | (apply O.geq_f; exact rfl; exact rfl; omega; exact rfl) | (apply O.geq_d; exact rfl; exact rfl; exact rfl; all_goals intro _) | (apply O.add64; exact rfl; exact rfl; omega; exact rfl) | (apply O.add; exact rfl; exact rfl; exact rfl) | (apply O.sub64; exact rfl; exact rfl; omega; exact rfl) | (apply O.sub; exact rfl; exact rfl; exact rfl) | (apply O.lssStr_t; exact rfl; exact rfl; assumption; exact rfl) | (apply O.lssStr_f; exact rfl; exact rfl; assumption; exact rfl) | (apply O.lssStr; exact rfl; exact rfl; exact rfl) | (apply W.cond_t; exact rfl) | (apply W.cond_f; exact rfl) | apply W.skip | apply W.ret | apply Fin.then_ret | (apply O.rem; exact rfl; exact rfl; omega; exact rfl) | (apply O.addStr; exact rfl; exact rfl; omega; exact rfl))
        exact Fin.ret _ rfl Ent.rfl ⟨by rw [hw, if_neg (fun h => hb h.2), if_neg hc]; rfl, rfl⟩
  · by_cases hc : n.tmod (hi - lo + 1) < 0
    · (repeat' first | (apply O.move; exact rfl; exact rfl) | (apply O.assign; exact rfl; exact rfl) | apply W.seq | apply W.region | apply O.nil | apply Fin.next | (apply O.pick_t; exact rfl; exact rfl; exact rfl) | (apply O.pick_f; exact rfl; exact rfl; exact rfl) | (apply O.want; exact rfl) | (apply O.unwant; exact rfl; exact rfl) | (apply O.unwant0; exact rfl) | (apply O.lss_t; exact rfl; exact rfl; omega; exact rfl) | (apply O.lss_f; exact rfl; exact rfl; omega; exact rfl) | (apply O.lss_d; exact rfl; exact rfl; exact rfl; all_goals intro _) | (apply O.leq_t; exact rfl; exact rfl; omega; exact rfl) | (apply O.leq_f; exact rfl; exact rfl; omega; exact rfl) | (apply O.leq_d; exact rfl; exact rfl; exact rfl; all_goals intro _) | (apply O.geq_t; exact rfl; exact rfl; omega; exact rfl) | (apply O.geq_f; exact rfl; exact rfl; omega; exact rfl) | (apply O.geq_d; exact rfl; exact rfl; exact rfl; all_goals intro _) | (apply O.add64; exact rfl; exact rfl; omega; exact rfl) | (apply O.add; exact rfl; exact rfl; exact rfl) | (apply O.sub64; exact rfl; exact rfl; omega; exact rfl) | (apply O.sub; exact rfl; exact rfl; exact rfl) | (apply O.lssStr_t; exact rfl; exact rfl; assumption; exact rfl) | (apply O.lssStr_f; exact rfl; exact rfl; assumption; exact rfl) | (apply O.lssStr; exact rfl; exact rfl; exact rfl) | (apply W.cond_t; exact rfl) | (apply W.cond_f; exact rfl) | apply W.skip | apply W.ret | apply Fin.then_ret | (apply O.rem; exact rfl; exact rfl; omega; exact rfl) | (apply O.addStr; exact rfl; exact rfl; omega; exact rfl))
      exact Fin.ret _ rfl Ent.rfl ⟨by rw [hw, if_neg (fun h => ha h.1), if_pos hc]; rfl, rfl⟩
    · (repeat' first | (apply O.move; exact rfl; exact rfl) | (apply O.assign; exact rfl; exact rfl) | apply W.seq | apply W.region | apply O.nil | apply Fin.next | (apply O.pick_t; exact rfl; exact rfl; exact rfl) | (apply O.pick_f; exact rfl; exact rfl; exact rfl) | (apply O.want; exact rfl) | (apply O.unwant; exact rfl; exact rfl) | (apply O.unwant0; exact rfl) | (apply O.lss_t; exact rfl; exact rfl; omega; exact rfl) | (apply O.lss_f; exact rfl; exact rfl; omega; exact rfl) | (apply O.lss_d; exact rfl; exact rfl; exact rfl; all_goals intro _) | (apply O.leq_t; exact rfl; exact rfl; omega; exact rfl) | (apply O.leq_f; exact rfl; exact rfl; omega; exact rfl) | (apply O.leq_d; exact rfl; exact rfl; exact rfl; all_goals intro _) | (apply O.geq_t; exact rfl; exact rfl; omega; exact rfl) | (apply O.geq_f; exact rfl; exact rfl; omega; exact rfl) | (apply O.geq_d; exact rfl; exact rfl; exact rfl; all_goals intro _) | (apply O.add64; exact rfl; exact rfl; omega; exact rfl) | (apply O.add; exact rfl; exact rfl; exact rfl) | (apply O.sub64; exact rfl; exact rfl; omega; exact rfl) | (apply O.sub; exact rfl; exact rfl; exact rfl) | (apply O.lssStr_t; exact rfl; exact rfl; assumption; exact rfl) | (apply O.lssStr_f; exact rfl; exact rfl; assumption; exact rfl) | (apply O.lssStr; exact rfl; exact rfl; exact rfl) | (apply W.cond_t; exact rfl) | (apply W.cond_f; exact rfl) | apply W.skip | apply W.ret | apply Fin.then_ret | (apply O.rem; exact rfl; exact rfl; omega; exact rfl) | (apply O.addStr; exact rfl; exact rfl; omega; exact rfl))
      exact Fin.ret _ rfl Ent.rfl ⟨by rw [hw, if_neg (fun h => ha h.1), if_neg hc]; rfl, rfl⟩
theorem cut_spec (R : List Res) (e : World) (v : Value) (l : List UInt8) (n : Nat) (h : RdB R v l) (hn : n < 1099511627776) :
    Ct Try.prog 21 #[v, .int .i64 n] e R (fun v' L' => (∀ L, RdB L v l → RdB L v' (l.take n)) ∧ v'.oneCell' = true ∧ R = L') := by
  refine Ct.of_sep (h.shape (by omega)) ?_
  rintro ⟨⟨ad, cap, rfl, h3, h4, h5, h6⟩, _⟩
  simp only [maxLen] at h4
  refine Ct.enter (args := [_, _]) Try.func21 rfl Try.ntmps21 Try.results21 rfl ?_
  by_cases hl : n < l.length
  · (repeat' first | (apply O.move; exact rfl; exact rfl) | (apply O.assign; exact rfl; exact rfl) | apply W.seq | apply W.region | apply O.nil | apply Fin.next | (apply O.len; exact rfl; exact rfl) | (apply O.gtr_t; exact rfl; exact rfl; omega; exact rfl) | (apply O.gtr_f; exact rfl; exact rfl; omega; exact rfl) | (apply O.gtr_d; exact rfl; exact rfl; exact rfl; all_goals intro _) | (apply O.lenS; exact rfl; exact rfl) | (apply O.sliceHi; exact rfl; exact rfl; omega; omega; exact rfl) | (apply O.sliceLo; exact rfl; exact rfl; omega; omega; exact rfl) | (apply O.sliceLoHi; exact rfl; exact rfl; exact rfl; omega; omega; omega; exact rfl) | (apply W.cond_t; exact rfl) | (apply W.cond_f; exact rfl) | apply W.skip | apply W.ret | apply Fin.then_ret)
    refine Fin.ret _ rfl Ent.rfl ⟨fun L h => ?_, rfl, rfl⟩
    have := RdSl.cutHi h (hi := n) (by omega)
    unfold RdB
    rw [List.length_take, Nat.min_eq_left (by omega)]
    rw [Nat.mul_one, ← List.map_take] at this
    exact this
  · (repeat' first | (apply O.move; exact rfl; exact rfl) | (apply O.assign; exact rfl; exact rfl) | apply W.seq | apply W.region | apply O.nil | apply Fin.next | (apply O.len; exact rfl; exact rfl) | (apply O.gtr_t; exact rfl; exact rfl; omega; exact rfl) | (apply O.gtr_f; exact rfl; exact rfl; omega; exact rfl) | (apply O.gtr_d; exact rfl; exact rfl; exact rfl; all_goals intro _) | (apply O.lenS; exact rfl; exact rfl) | (apply O.sliceHi; exact rfl; exact rfl; omega; omega; exact rfl) | (apply O.sliceLo; exact rfl; exact rfl; omega; omega; exact rfl) | (apply O.sliceLoHi; exact rfl; exact rfl; exact rfl; omega; omega; omega; exact rfl) | (apply W.cond_t; exact rfl) | (apply W.cond_f; exact rfl) | apply W.skip | apply W.ret | apply Fin.then_ret)
    refine Fin.ret _ rfl Ent.rfl ⟨fun L h => ?_, rfl, rfl⟩
    rw [List.take_of_length_le (by omega)]
    exact h
end Go.Proofs
