/- lists of events: what the laws share. -/
import Derived.Test.YtmiddmmmgiopoaaGoodLaw
namespace Go.Proofs
set_option linter.unusedVariables false
open Go.Bs
set_option linter.unusedSimpArgs false
attribute [local irreducible] Bs.Val Bs.Do Bs.O Bs.W Bs.Fin Bs.A Bs.Ct Bs.RdSl Bs.Rd Bs.Sat Bs.Blk Bs.Ob Bs.Own Bs.View Bs.Ent Bs.Ex Bs.All Bs.Pu Bs.Base Bs.sepL Bs.RdA
theorem made_evs {R : List Res} {v : Value} {m : List Ev} (h4 : m.length ≤ 40) (h5 : ∀ x ∈ m, RdB R x.v x.t ∧ x.t.length ≤ 8) : Evs (OwnEv v m :: R) v m :=
  ⟨RdSl.own .zero, fun x hx => (h5 x hx).1.tail, by omega, fun x hx => by have := (h5 x hx).2; omega⟩
theorem Txts.pull {L R : List Res} {l : List Txt} (p : Pull L (Items l) R) : Txts L l := fun a ha => (items_rd (R := R) a ha).ent p.out
theorem Txts.app {L : List Res} {a b : List Txt} (ha : Txts L a) (hb : Txts L b) : Txts L (a ++ b) := fun x hx => by
  rcases List.mem_append.1 hx with h | h
  · exact ha x h
  · exact hb x h
theorem ev_ones {l : List Ev} (h : ∀ x ∈ l, x.v.oneCell' = true) : ∀ c ∈ l.flatMap Ev.cells, c.oneCell' = true := flatN_ones fun m hm c hc => by
  simp only [Ev.cells, List.mem_cons, List.not_mem_nil, or_false] at hc
  rcases hc with rfl | rfl | rfl | rfl
  · rfl
  · rfl
  · rfl
  · exact h m hm
theorem txt_ones {L : List Res} {l : List Txt} (h : Txts L l) : ∀ x, sepL L x → ∀ c ∈ l.map (·.1), c.oneCell' = true := fun x hx c hc => by
  obtain ⟨a, ha, rfl⟩ := List.mem_map.1 hc
  exact RdB.one (h a ha) x hx
theorem good_evs {R : List Res} {v : Value} {m : List Ev} {n w inst : Nat} (hn : n ≤ 6) (hw : w ≤ 4) (hm : m.map Ev.bare = goodP n w inst) : Evs (OwnEv v m :: Items (m.map evT) :: R) v m ∧ m.length ≤ 60 ∧ ∀ x ∈ m, x.t.length ≤ 2 := by
  have h1 := bare_len hm
  have h2 := goodP_len n w inst
  have h3 : n * (6 + w) ≤ 6 * 10 := Nat.mul_le_mul (by omega) (by omega)
  have h4 : ∀ x ∈ m, x.t.length ≤ 2 := fun x hx => by
    have h5 : x.bare ∈ goodP n w inst := by rw [← hm]; exact List.mem_map.2 ⟨x, hx, rfl⟩
    show x.bare.t.length ≤ 2
    unfold goodP at h5
    obtain ⟨i, _, h6⟩ := List.mem_flatMap.1 h5
    unfold blockP headP midP tailP at h6
    rcases List.mem_append.1 h6 with h6 | h6
    · rcases List.mem_append.1 h6 with h6 | h6
      · simp only [List.mem_cons, List.not_mem_nil, or_false] at h6
        rcases h6 with h6 | h6 | h6 <;> rw [h6] <;> simp [evB]
      · obtain ⟨j, _, h7⟩ := List.mem_map.1 h6
        rw [← h7]
        simp [evB]
    · split at h6
      · simp only [List.mem_cons, List.not_mem_nil, or_false] at h6
        rcases h6 with h6 | h6 | h6 <;> rw [h6] <;> simp [evB]
      · cases h6
  exact ⟨evs_items (by omega) fun x hx => by have := h4 x hx; omega, by omega, h4⟩
theorem evs_drop {L : List Res} {ad : Option Addr} {c i : Nat} {l : List Ev} (h : Evs L (.slice ad l.length c) l) (hi : i ≤ l.length) : RdSl L 4 (.slice (cutAt ad c i 4) (l.length - i) (c - i)) (l.length - i) ((l.drop i).flatMap Ev.cells) := by
  have := RdSl.cutLo h.1 hi
  rw [flatN_drop ev4] at this
  exact this
theorem evs_take1 {L : List Res} {ad : Option Addr} {c i : Nat} {l : List Ev} (h : Evs L (.slice ad l.length c) l) (hi : i ≤ l.length) : RdSl L 4 (.slice ad i c) i ((l.take i).flatMap Ev.cells) := by
  have := RdSl.cutHi h.1 hi
  rw [flatN_take ev4] at this
  exact this
theorem flat_set {l : List Ev} {y : Ev} {u : Value} {j : Nat} (hj : j < 4) : ∀ (k : Nat) (hk : k < l.length), ((l[k]'hk).cells).set j u = y.cells → (l.flatMap Ev.cells).set (k * 4 + j) u = (l.set k y).flatMap Ev.cells := by
  induction l with
  | nil => intro k hk; simp at hk
  | cons x l ih =>
    intro k hk h
    cases k with
    | zero =>
      simp only [List.getElem_cons_zero] at h
      rw [Nat.zero_mul, Nat.zero_add, List.flatMap_cons, List.set_cons_zero, List.flatMap_cons, List.set_append_left _ _ (by rw [ev4]; exact hj), h]
    | succ k =>
      simp only [List.getElem_cons_succ] at h
      rw [List.flatMap_cons, List.set_cons_succ, List.flatMap_cons, List.set_append_right _ _ (by rw [ev4]; omega), ev4, show (k + 1) * 4 + j - 4 = k * 4 + j by omega, ih k (by simpa using hk) h]
theorem evs_out {L R : List Res} {m D : List Ev} {v : Value} (p : Pull L (OwnEv v D) R) (h : Txts L (m.map evT)) (h2 : ∀ x ∈ m, x.t.length ≤ 2) (hD : ∀ x ∈ D, (x.v, x.t) ∈ m.map evT) (hl : D.length ≤ 1000) : Evs L v D :=
  ⟨RdSl.own p, fun x hx => h _ (hD x hx), by omega, fun x hx => by
    obtain ⟨y, hy, h3⟩ := List.mem_map.1 (hD x hx)
    have h4 := h2 y hy
    have h5 : y.t = x.t := congrArg (·.2) h3
    rw [← h5]; omega⟩
theorem mem_set {m : List Ev} {k : Nat} {y x : Ev} (h : x ∈ m.set k y) : x = y ∨ x ∈ m := by
  rcases List.mem_or_eq_of_mem_set h with h | h
  · exact .inr h
  · exact .inl h
end Go.Proofs
