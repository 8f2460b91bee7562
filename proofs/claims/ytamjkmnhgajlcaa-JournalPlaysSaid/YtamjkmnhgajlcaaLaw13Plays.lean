/- JournalPlays: records lie as the document says, call for call, whenever power goes. -/
import Derived.Test.YtamjkmnhgajlcaaLaw13Opens
import Derived.Test.YtamjkmnhgajlcaaAsks13
import Derived.Test.YtamjkmnhgajlcaaOps7
namespace Go.Proofs
set_option linter.unusedVariables false
open Go.Bs
set_option linter.unusedSimpArgs false
attribute [local irreducible] Bs.Val Bs.Do Bs.O Bs.W Bs.Fin Bs.A Bs.Ct Bs.RdSl Bs.Rd Bs.Sat Bs.Blk Bs.Ob Bs.Own Bs.View Bs.Ent Bs.Ex Bs.All Bs.Pu Bs.Base Bs.sepL Bs.RdA
/-- Power: 'c' calls were made; it goes at call 'arm'. -/
def Pw (arm : Int) (c : Nat) (s : DSt) : Prop := (s.down = true → s.armed = 0) ∧ (s.down = false → (arm ≤ 0 ∧ s.armed = 0) ∨ ((c : Int) < arm ∧ (s.armed : Int) = arm - c))
theorem pw_pow {arm : Int} {c : Nat} {s : DSt} (h : Pw arm c s) :
    (s.down = true ∧ s.pow = s ∧ Pw arm (c + 1) s) ∨
    (s.down = false ∧ 0 < arm ∧ (c : Int) + 1 = arm ∧ s.pow.down = true ∧ Pw arm (c + 1) s.pow) ∨
    (s.down = false ∧ (arm ≤ 0 ∨ (c : Int) + 1 < arm) ∧ s.pow.down = false ∧ Pw arm (c + 1) s.pow) := by
  obtain ⟨b, sy, li, ar, dn⟩ := s
  obtain ⟨h1, h2⟩ := h
  dsimp only at h1 h2
  cases dn with
  | true =>
    have := h1 rfl
    subst this
    exact .inl ⟨rfl, rfl, ⟨fun _ => rfl, fun h => Bool.noConfusion h⟩⟩
  | false =>
    rcases h2 rfl with ⟨a, b⟩ | ⟨a, b⟩
    · subst b
      exact .inr (.inr ⟨rfl, .inl a, rfl, ⟨fun h => Bool.noConfusion h, fun _ => Or.inl ⟨a, rfl⟩⟩⟩)
    · have h0 : ar > 0 := by omega
      by_cases h3 : ar = 1
      · subst h3
        exact .inr (.inl ⟨rfl, by omega, by omega, rfl, ⟨fun _ => rfl, fun h => Bool.noConfusion h⟩⟩)
      · refine .inr (.inr ⟨rfl, .inr (by omega), ?_, ?_⟩)
        · simp only [DSt.pow, if_pos h0]
          exact decide_eq_false (by omega)
        · simp only [DSt.pow, if_pos h0]
          refine ⟨fun h => ?_, fun _ => .inr ⟨by push_cast; omega, by dsimp only; omega⟩⟩
          rw [decide_eq_true_eq] at h
          exact h
/-- Behind the first call of the disk. -/
def st1 (s : DSt) (k : Int) (m : List UInt8) : DSt := if k = 1 ∨ k = 2 then s.app (recP m) else s
def st1E (s : DSt) (k : Int) (m : List UInt8) : Int := if k = 1 ∨ k = 2 then s.appE (recP m) else 0
/-- Behind both. -/
def st2 (s : DSt) (k : Int) (w : Int) : DSt := if w = 0 ∧ (k = 1 ∨ k = 3) then s.syn else s
def st2E (s : DSt) (k : Int) (w : Int) : Int := if w = 0 ∧ (k = 1 ∨ k = 3) then s.synE else w
structure G13 where
  i : Nat
  calls : Nat
  count : Nat
  s : DSt
  ad : Option Addr
  c : Nat
/-- What stands in the slots at each round's head. -/
abbrev sl13 (vl vj : Value) (gd : Nat) (n : Nat) (arm : Int) (g : G13) : Env := [(0, vl), (2, .int .i64 arm), (7, .int .i64 (n : Int)), (8, .pointer (some ⟨gd, 0, none⟩)), (10, vj), (13, .int .i64 (g.calls : Int)), (14, .int .i64 (g.count : Int)), (15, .int .i64 (g.s.synced : Int)), (16, .bool g.s.down), (17, .slice g.ad g.s.b.length g.c), (18, .int .i64 (g.i : Int))]
def ok13 (n : Nat) (arm : Int) (l : Nat) (g : G13) : Prop := g.i ≤ l ∧ g.i ≤ 40 ∧ g.calls ≤ 2 * g.i ∧ g.count ≤ g.i ∧ g.s.ok ∧ g.s.limit = n ∧ Pw arm g.calls g.s ∧ g.s.b.length ≤ 48 * g.i
theorem app_dn (s : DSt) (m : List UInt8) : (s.app m).down = s.pow.down ∧ (s.app m).armed = s.pow.armed ∧ (s.app m).limit = s.limit ∧ (s.app m).synced = s.synced := by
  unfold DSt.app
  obtain ⟨p1, p2, p3⟩ := DSt.pow_b s
  split <;> exact ⟨rfl, rfl, p2, p3⟩
theorem app_b (s : DSt) (m : List UInt8) : (s.app m).b = if s.down = true ∨ s.limit < s.b.length + m.length then s.b else s.b ++ m := by
  unfold DSt.app
  obtain ⟨p1, p2, p3⟩ := DSt.pow_b s
  split
  · exact p1
  · rfl
theorem syn_b (s : DSt) : s.syn.b = s.b ∧ s.syn.limit = s.limit ∧ s.syn.down = s.pow.down ∧ s.syn.armed = s.pow.armed ∧ s.syn.synced = if s.pow.down then s.synced else s.b.length := by
  unfold DSt.syn
  obtain ⟨p1, p2, p3⟩ := DSt.pow_b s
  cases h : s.pow.down with
  | true => exact ⟨p1, p2, h, rfl, p3⟩
  | false => exact ⟨p1, p2, h, rfl, rfl⟩
theorem pw_eq {arm : Int} {c : Nat} {s s' : DSt} (h : Pw arm c s) (h1 : s'.down = s.down) (h2 : s'.armed = s.armed) : Pw arm c s' := by
  unfold Pw
  rw [h1, h2]
  exact h
theorem pow_limit (s : DSt) : s.pow.limit = s.limit := (DSt.pow_b s).2.1
/-- The first stage: what the law reckons is what the disk will do. -/
theorem stage1 {arm : Int} {c : Nat} {s : DSt} (m : List UInt8) (h : Pw arm c s) : Pw arm (c + 1) (s.app (recP m)) ∧
    ((s.down = true ∧ (s.app (recP m)) = s ∧ s.appE (recP m) = 13) ∨
     (s.down = false ∧ s.limit < s.b.length + 8 + m.length ∧ (s.app (recP m)).b = s.b ∧ s.appE (recP m) = 13 ∧ ((0 < arm ∧ (c : Int) + 1 = arm ∧ (s.app (recP m)).down = true) ∨ ((arm ≤ 0 ∨ (c : Int) + 1 < arm) ∧ (s.app (recP m)).down = false))) ∨
     (s.down = false ∧ s.b.length + 8 + m.length ≤ s.limit ∧ (s.app (recP m)).b = s.b ++ recP m ∧ ((0 < arm ∧ (c : Int) + 1 = arm ∧ (s.app (recP m)).down = true ∧ s.appE (recP m) = 13) ∨ ((arm ≤ 0 ∨ (c : Int) + 1 < arm) ∧ (s.app (recP m)).down = false ∧ s.appE (recP m) = 0)))) := by
  obtain ⟨d1, d2, d3, d4⟩ := app_dn s (recP m)
  have hb := app_b s (recP m)
  have hl := recP_length m
  rcases pw_pow h with ⟨q1, q2, q3⟩ | ⟨q1, q2, q3, q4, q5⟩ | ⟨q1, q2, q3, q4⟩
  · refine ⟨pw_eq q3 (d1.trans (by rw [q2])) (d2.trans (by rw [q2])), .inl ⟨q1, ?_, ?_⟩⟩
    · unfold DSt.app; rw [if_pos (.inl q1)]; exact q2
    · unfold DSt.appE; rw [if_pos (.inl q1)]
  · refine ⟨pw_eq q5 d1 d2, .inr ?_⟩
    rw [d1]
    by_cases hf : s.limit < s.b.length + (recP m).length
    · refine .inl ⟨q1, by omega, by rw [hb, if_pos (.inr hf)], ?_, .inl ⟨q2, q3, q4⟩⟩
      unfold DSt.appE; rw [if_pos (.inr hf)]
    · have hn : ¬ (s.down = true ∨ s.limit < s.b.length + (recP m).length) := by rw [q1]; simp; omega
      refine .inr ⟨q1, by omega, by rw [hb, if_neg hn], .inl ⟨q2, q3, q4, ?_⟩⟩
      unfold DSt.appE; rw [if_neg hn, if_pos q4]
  · refine ⟨pw_eq q4 d1 d2, .inr ?_⟩
    rw [d1]
    by_cases hf : s.limit < s.b.length + (recP m).length
    · refine .inl ⟨q1, by omega, by rw [hb, if_pos (.inr hf)], ?_, .inr ⟨q2, q3⟩⟩
      unfold DSt.appE; rw [if_pos (.inr hf)]
    · have hn : ¬ (s.down = true ∨ s.limit < s.b.length + (recP m).length) := by rw [q1]; simp; omega
      refine .inr ⟨q1, by omega, by rw [hb, if_neg hn], .inr ⟨q2, q3, ?_⟩⟩
      unfold DSt.appE; rw [if_neg hn, q3]; rfl
theorem stage2 {arm : Int} {c : Nat} {s : DSt} (h : Pw arm c s) : Pw arm (c + 1) s.syn ∧
    ((s.down = true ∧ s.syn = s ∧ s.synE = 13) ∨
     (s.down = false ∧ 0 < arm ∧ (c : Int) + 1 = arm ∧ s.syn.down = true ∧ s.synE = 13 ∧ s.syn.synced = s.synced) ∨
     (s.down = false ∧ (arm ≤ 0 ∨ (c : Int) + 1 < arm) ∧ s.syn.down = false ∧ s.synE = 0 ∧ s.syn.synced = s.b.length)) := by
  obtain ⟨d1, d2, d3, d4, d5⟩ := syn_b s
  rcases pw_pow h with ⟨q1, q2, q3⟩ | ⟨q1, q2, q3, q4, q5⟩ | ⟨q1, q2, q3, q4⟩
  · refine ⟨pw_eq q3 (d3.trans (by rw [q2])) (d4.trans (by rw [q2])), .inl ⟨q1, ?_, ?_⟩⟩
    · unfold DSt.syn; rw [q2, if_pos q1]
    · unfold DSt.synE; rw [q2, if_pos q1]
  · refine ⟨pw_eq q5 d3 d4, .inr (.inl ⟨q1, q2, q3, d3.trans q4, ?_, ?_⟩)⟩
    · unfold DSt.synE; rw [if_pos q4]
    · rw [d5, if_pos q4]
  · refine ⟨pw_eq q4 d3 d4, .inr (.inr ⟨q1, q2, d3.trans q3, ?_, ?_⟩)⟩
    · unfold DSt.synE; rw [q3]; rfl
    · rw [d5, q3]; rfl
end Go.Proofs
