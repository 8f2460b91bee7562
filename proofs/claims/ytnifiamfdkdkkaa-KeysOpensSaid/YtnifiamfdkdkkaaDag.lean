/- Statements whose order is open, of operations of which each may take up what some others have made: in whatever order they come up. -/
import Derived.Test.YtnifiamfdkdkkaaCloud
namespace Go.Bs
set_option linter.unusedVariables false
set_option linter.unusedSimpArgs false
/-- An operation: its number, its slot, whose memory it takes up; what its value is, what memory it leaves. -/
structure DOp where
  i : Nat
  d : Nat
  eats : List Nat
  ok : Value → Prop
  mem : Value → List Res
def eaten (D : List DOp) (x : DOp) : List DOp := D.filter fun y => x.eats.contains y.i
def mems (V : Nat → Value) (l : List DOp) : List Res := l.flatMap fun y => y.mem (V y.i)
section
variable (P : Program) (N : Fr) (ops : Array Oper) (e : World) (σ0 : Env) (L0 : List Res)
def GuardOk (o : Oper) : Prop := o.guard = none ∨ ∃ j want, o.guard = some (j, want) ∧ wants σ0 ops j want = some true
def StepD (D : List DOp) (x : DOp) : Prop := ∃ o, ops[x.i]? = some o ∧ GuardOk ops σ0 o ∧ ∀ (V : Nat → Value) (σr : Env) (M : List Res), (∀ k v, get σ0 k = some v → get σr k = some v) → (∀ y ∈ eaten D x, get σr y.d = some (V y.i) ∧ y.ok (V y.i)) →
  Do P N o (fun σ' L' => ∃ v, σ' = (x.d, v) :: σr ∧ x.ok v ∧ Ent L' (x.mem v ++ (M ++ L0))) σr e (mems V (eaten D x) ++ (M ++ L0))
end
def bindsOn (o : Oper) (k : Nat) : Bool := o.after.any fun ed => Region.binds .any ed && ed.on == k
def chkTopo (ops : Array Oper) (l0 : Array Bool) : List Nat → List DOp → Bool
  | _, [] => true
  | pre, x :: r => (match l0[x.i]? with | some b => !b | none => false) &&
    (match ops[x.i]? with
      | some o => o.after.all (fun ed => !Region.binds .any ed || l0.getD ed.on false || pre.contains ed.on) && x.eats.all (fun k => bindsOn o k)
      | none => false) && chkTopo ops l0 (x.i :: pre) r
def dSinks (ops : Array Oper) (D : List DOp) : List DOp := D.filter fun s => !D.any fun z => match ops[z.i]? with | some o => bindsOn o s.i | none => false
def chkOther (ops : Array Oper) (l0 : Array Bool) (D : List DOp) (j : Nat) : Bool :=
  (match l0[j]? with | some b => b | none => true) || (D.map (·.i)).contains j || (match ops[j]? with
    | some o => (dSinks ops D).all (fun s => bindsOn o s.i) || o.after.any (fun ed => Region.binds .any ed && !(D.map (·.i)).contains ed.on && !l0.getD ed.on false)
    | none => true)
def dagB (ops : Array Oper) (l0 : Array Bool) (D : List DOp) : Bool :=
  chkTopo ops l0 [] D && nodupB (D.map (·.i)) && nodupB (D.flatMap (·.eats)) && (List.range ops.size).all (chkOther ops l0 D)
def dagD (keys : List Nat) (D : List DOp) : Bool := nodupB (D.map (·.d)) && keys.all fun k => !(D.map (·.d)).contains k

theorem chkTopo_spec {ops : Array Oper} {l0 : Array Bool} : ∀ {D : List DOp} {pre : List Nat}, chkTopo ops l0 pre D = true → ∀ A x B, D = A ++ x :: B → l0[x.i]? = some false ∧ ∃ o, ops[x.i]? = some o ∧
    (∀ ed ∈ o.after, Region.binds .any ed = true → l0.getD ed.on false = true ∨ ed.on ∈ pre ∨ ed.on ∈ A.map (·.i)) ∧ (∀ k ∈ x.eats, bindsOn o k = true)
  | [], _, _, A, x, B, hsp => by simp at hsp
  | y :: r, pre, h, A, x, B, hsp => by
    simp only [chkTopo, Bool.and_eq_true] at h
    obtain ⟨⟨h1, h2⟩, h3⟩ := h
    cases A with
    | nil =>
      rw [List.nil_append] at hsp
      obtain ⟨rfl, rfl⟩ := List.cons.inj hsp
      refine ⟨?_, ?_⟩
      · cases hq : l0[y.i]? with
        | none => rw [hq] at h1; cases h1
        | some b => rw [hq] at h1; simp at h1; rw [h1]
      · cases hq : ops[y.i]? with
        | none => rw [hq] at h2; cases h2
        | some o =>
          rw [hq] at h2
          simp only [Bool.and_eq_true] at h2
          refine ⟨o, rfl, fun ed hed hb => ?_, fun k hk => List.all_eq_true.1 h2.2 k hk⟩
          have := Array.all_eq_true'.1 h2.1 ed hed
          simp only [hb, Bool.not_true, Bool.false_or, Bool.or_eq_true, List.contains_iff_mem] at this
          rcases this with h | h
          · exact .inl h
          · exact .inr (.inl h)
    | cons z A =>
      rw [List.cons_append] at hsp
      obtain ⟨rfl, rfl⟩ := List.cons.inj hsp
      obtain ⟨a1, o, a2, a3, a4⟩ := chkTopo_spec h3 A x B rfl
      refine ⟨a1, o, a2, fun ed hed hb => ?_, a4⟩
      rcases a3 ed hed hb with h | h | h
      · exact .inl h
      · rcases List.mem_cons.1 h with h | h
        · exact .inr (.inr (by rw [h]; exact List.mem_cons_self ..))
        · exact .inr (.inl h)
      · exact .inr (.inr (List.mem_cons_of_mem _ h))
theorem bindsOn_spec {o : Oper} {k : Nat} (h : bindsOn o k = true) : ∃ ed ∈ o.after, Region.binds .any ed = true ∧ ed.on = k := by
  obtain ⟨ed, h1, h2⟩ := Array.any_eq_true'.1 h
  simp only [Bool.and_eq_true, beq_iff_eq] at h2
  exact ⟨ed, h1, h2.1, h2.2⟩
theorem bindsOn_of {o : Oper} {ed : Edge} (h : ed ∈ o.after) (hb : Region.binds .any ed = true) : bindsOn o ed.on = true :=
  Array.any_eq_true'.2 ⟨ed, h, by simp [hb]⟩
/-- What is done and not taken up. -/
def liveB (D : List DOp) (U : List Nat) (y : DOp) : Bool := U.contains y.i && !D.any fun z => z.eats.contains y.i && U.contains z.i
theorem nodup_len : ∀ {U W : List Nat}, U.Nodup → (∀ i ∈ U, i ∈ W) → U.length ≤ W.length
  | [], W, _, _ => Nat.zero_le _
  | x :: r, W, hn, hs => by
    have h1 := List.nodup_cons.1 hn
    have h2 : r.length ≤ (W.erase x).length := nodup_len h1.2 fun i hi => (List.mem_erase_of_ne (by rintro rfl; exact h1.1 hi)).2 (hs i (List.mem_cons_of_mem _ hi))
    have h3 := List.length_erase_of_mem (hs x (List.mem_cons_self ..))
    have h4 := List.length_pos_of_mem (hs x (List.mem_cons_self ..))
    rw [List.length_cons]
    omega
theorem nodup_all {U W : List Nat} (hn : U.Nodup) (hs : ∀ i ∈ U, i ∈ W) (hl : W.length ≤ U.length) : ∀ i ∈ W, i ∈ U := fun i hi => by
  refine Classical.byContradiction fun hno => ?_
  have h2 := nodup_len (W := W.erase i) hn fun j hj => (List.mem_erase_of_ne (by rintro rfl; exact hno hj)).2 (hs j hj)
  have h3 := List.length_erase_of_mem hi
  have h4 := List.length_pos_of_mem hi
  omega
theorem first_undone (U : List Nat) : ∀ (D : List DOp), (∃ x ∈ D, x.i ∉ U) → ∃ A x B, D = A ++ x :: B ∧ x.i ∉ U ∧ ∀ y ∈ A, y.i ∈ U
  | [], ⟨_, h, _⟩ => by cases h
  | y :: r, h => by
    by_cases hy : y.i ∈ U
    · obtain ⟨A, x, B, h1, h2, h3⟩ := first_undone U r (by
        obtain ⟨x, hx, hn⟩ := h
        rcases List.mem_cons.1 hx with rfl | hx
        · exact absurd hy hn
        · exact ⟨x, hx, hn⟩)
      exact ⟨y :: A, x, B, by rw [h1]; rfl, h2, fun z hz => by
        rcases List.mem_cons.1 hz with rfl | hz
        · exact hy
        · exact h3 z hz⟩
    · exact ⟨[], y, r, rfl, hy, fun z hz => by cases hz⟩
theorem last_undone (U : List Nat) (D : List DOp) (h : ∃ x ∈ D, x.i ∉ U) : ∃ A x B, D = A ++ x :: B ∧ x.i ∉ U ∧ ∀ y ∈ B, y.i ∈ U := by
  obtain ⟨x, hx, hn⟩ := h
  obtain ⟨A, y, B, h1, h2, h3⟩ := first_undone U D.reverse ⟨x, List.mem_reverse.2 hx, hn⟩
  refine ⟨B.reverse, y, A.reverse, ?_, h2, fun z hz => h3 z (List.mem_reverse.1 hz)⟩
  have := congrArg List.reverse h1
  rw [List.reverse_reverse] at this
  rw [this]
  simp
theorem ent_app_drop {L0 : List Res} : ∀ (L : List Res), Ent (L ++ L0) L0
  | [] => Ent.rfl
  | _ :: L => Ent.drop (ent_app_drop L)
theorem filter_one {D : List DOp} (hn : (D.map (·.i)).Nodup) {x : DOp} (hx : x ∈ D) : D.filter (fun y => y.i == x.i) = [x] := by
  obtain ⟨A, B, rfl⟩ := List.append_of_mem hx
  rw [List.map_append, List.map_cons] at hn
  have h1 := List.nodup_append.1 hn
  have h2 := List.nodup_cons.1 h1.2.1
  rw [List.filter_append, List.filter_cons]
  simp only [beq_self_eq_true, if_true]
  rw [List.filter_eq_nil_iff.2 fun y hy h => ?_, List.filter_eq_nil_iff.2 fun y hy h => ?_]
  · rfl
  · exact h2.1 (by rw [← beq_iff_eq.1 h]; exact List.mem_map.2 ⟨y, hy, rfl⟩)
  · exact h1.2.2 y.i (List.mem_map.2 ⟨y, hy, rfl⟩) x.i (List.mem_cons_self ..) (beq_iff_eq.1 h)
theorem mems_congr {V V' : Nat → Value} {l : List DOp} (h : ∀ y ∈ l, V y.i = V' y.i) : mems V l = mems V' l := by
  induction l with
  | nil => rfl
  | cons y l ih =>
    show y.mem (V y.i) ++ mems V l = y.mem (V' y.i) ++ mems V' l
    rw [h y (List.mem_cons_self ..), ih fun z hz => h z (List.mem_cons_of_mem _ hz)]
section
variable {P : Program} {N : Fr} {ops : Array Oper} {e : World} {σ0 : Env} {L0 : List Res} {T : List Nat} {R0 : List Res} {n : Nat} {l0 : Array Bool} {Q : Goal}
theorem wpS_dag {D : List DOp} {Q' : Exit → Act → World → Prop} {S : Array Bool → World → Prop} (hB : dagB ops l0 D = true) (hD : dagD (σ0.map (·.1)) D = true) (hok : ∀ x ∈ D, StepD P N ops e σ0 L0 D x)
    (hS : ∀ l w L, Sat e (L ++ L0) w → S l w)
    (fin : ∀ a w (V : Nat → Value), (∀ y ∈ D, y.ok (V y.i)) → Has N (D.map (fun y => (y.d, V y.i)) ++ σ0) a → Sat e (mems V (D.filter fun y => !D.any fun z => z.eats.contains y.i) ++ L0) w → wpS P ops Q' S n (mark l0 (D.map (·.i))) a w) :
    ∀ (m : Nat) (U : List Nat), U.Nodup → (∀ i ∈ U, i ∈ D.map (·.i)) → U.length + m = D.length → ∀ (l : Array Bool) (a : Act) (w : World) (V : Nat → Value),
      (∀ i, l[i]? = (l0[i]?).map (fun b => b || U.contains i)) → (∀ z ∈ D, z.i ∈ U → ∀ o, ops[z.i]? = some o → ∀ ed ∈ o.after, Region.binds .any ed = true → l.getD ed.on false = true) →
      Has N σ0 a → (∀ y ∈ D, y.i ∈ U → a.tmps[y.d]? = some (V y.i) ∧ y.ok (V y.i)) → Sat e (mems V (D.filter (liveB D U)) ++ L0) w → wpS P ops Q' S (n + m) l a w := by
  simp only [dagB, dagD, Bool.and_eq_true] at hB hD
  obtain ⟨⟨⟨hB1, hB2⟩, hB3⟩, hB4⟩ := hB
  obtain ⟨hD1, hD2⟩ := hD
  have hnd := nodupB_spec hB2
  have hne := nodupB_spec hB3
  have hns := nodupB_spec hD1
  have hlist : ∀ x ∈ D, l0[x.i]? = some false := fun x hx => by
    obtain ⟨A, B, h⟩ := List.append_of_mem hx
    exact (chkTopo_spec hB1 A x B h).1
  intro m
  induction m with
  | zero =>
    intro U hU hsub hlen l a w V hl hcl ha hv hs
    have hall : ∀ y ∈ D, y.i ∈ U := fun y hy => by
      exact nodup_all hU hsub (by rw [List.length_map]; omega) _ (List.mem_map.2 ⟨y, hy, rfl⟩)
    have hll : l = mark l0 (D.map (·.i)) := by
      apply Array.ext_getElem?
      intro i
      rw [hl, mark_get]
      have : U.contains i = (D.map (·.i)).contains i := by
        rw [Bool.eq_iff_iff, List.contains_iff_mem, List.contains_iff_mem]
        constructor
        · exact hsub i
        · intro h
          obtain ⟨y, hy, rfl⟩ := List.mem_map.1 h
          exact hall y hy
      rw [this]
    subst hll
    refine fin a w V (fun y hy => (hv y hy (hall y hy)).2) ⟨ha.size, ha.defers, fun k v hk => ?_⟩ ?_
    · refine held_append (σ := D.map fun y => (y.d, V y.i)) (τ := σ0) (a := a) (fun k v hk => ?_) ha.val k v hk
      have := get_mem hk
      obtain ⟨y, hy, he⟩ := List.mem_map.1 this
      cases he
      exact (hv y hy (hall y hy)).1
    · have : D.filter (liveB D U) = D.filter fun y => !D.any fun z => z.eats.contains y.i := by
        apply List.filter_congr
        intro y hy
        unfold liveB
        rw [List.contains_iff_mem.2 (hall y hy), Bool.true_and]
        congr 1
        rw [Bool.eq_iff_iff, List.any_eq_true, List.any_eq_true]
        constructor
        · rintro ⟨z, hz, h⟩
          rw [Bool.and_eq_true] at h
          exact ⟨z, hz, h.1⟩
        · rintro ⟨z, hz, h⟩
          exact ⟨z, hz, by rw [Bool.and_eq_true]; exact ⟨h, List.contains_iff_mem.2 (hall z hz)⟩⟩
      rw [this] at hs
      exact hs
  | succ m ih =>
    intro U hU hsub hlen l a w V hl hcl ha hv hs
    have hlgetF : ∀ i, l.getD i false = (match l0[i]? with | some b => b || U.contains i | none => false) := fun i => by
      rw [Array.getD_eq_getD_getElem?, hl]; cases l0[i]? <;> rfl
    have hlget : ∀ i, l.getD i true = (match l0[i]? with | some b => b || U.contains i | none => true) := fun i => by
      rw [Array.getD_eq_getD_getElem?, hl]; cases l0[i]? <;> rfl
    have hund : ∃ x ∈ D, x.i ∉ U := by
      by_cases h : ∃ x ∈ D, x.i ∉ U
      · exact h
      · exfalso
        have h2 : ∀ i ∈ D.map (·.i), i ∈ U := fun i hi => by
          obtain ⟨y, hy, rfl⟩ := List.mem_map.1 hi
          exact Classical.byContradiction fun hn => h ⟨y, hy, hn⟩
        have := nodup_len hnd h2
        rw [List.length_map] at this
        omega
    have hdone : ∀ y ∈ D, (l.getD y.i false = true ↔ y.i ∈ U) := fun y hy => by
      rw [hlgetF, hlist y hy]
      simp
    refine ⟨fun hno => ?_, fun i hi => ?_⟩
    · exfalso
      obtain ⟨A, x, B, hsp, hxU, hA⟩ := first_undone U D hund
      obtain ⟨g1, o, g2, g3, _⟩ := chkTopo_spec hB1 A x B hsp
      have hr : x.i ∈ Region.ready .any ops l := by
        refine mem_ready.2 ⟨?_, o, g2, fun ed hed hb => ?_⟩
        · rw [hlget, g1]
          simpa using hxU
        · rcases g3 ed hed hb with h | h | h
          · rw [hlgetF]
            rw [Array.getD_eq_getD_getElem?] at h
            cases hq : l0[ed.on]? with
            | none => rw [hq] at h; cases h
            | some b => rw [hq] at h; simp at h; subst h; rfl
          · cases h
          · obtain ⟨y, hy, he⟩ := List.mem_map.1 h
            rw [← he]
            exact (hdone y (by rw [hsp]; exact List.mem_append_left _ hy)).2 (hA y hy)
      rw [hno] at hr; cases hr
    · obtain ⟨hun, o, ho, hall⟩ := mem_ready.1 hi
      have hl0 : l0[i]? = some false ∧ U.contains i = false := by
        rw [hlget] at hun
        cases hq : l0[i]? with
        | none => rw [hq] at hun; cases hun
        | some b =>
          rw [hq] at hun
          simp only [Bool.or_eq_false_iff] at hun
          exact ⟨by rw [hun.1], hun.2⟩
      have hmem : i ∈ D.map (·.i) := by
        refine Classical.byContradiction fun hnot => ?_
        have hlt : i < ops.size := (Array.getElem?_eq_some_iff.1 ho).1
        have h1 := List.all_eq_true.1 hB4 i (List.mem_range.2 hlt)
        unfold chkOther at h1
        rw [hl0.1, ho] at h1
        simp only [Bool.or_eq_true, Bool.false_eq_true, false_or, List.contains_iff_mem, hnot] at h1
        rcases h1 with h1 | h1
        · obtain ⟨A, x, B, hsp, hxU, hBd⟩ := last_undone U D hund
          have hxD : x ∈ D := by rw [hsp]; simp
          have hbinds : bindsOn o x.i = true → False := fun hb => by
            obtain ⟨ed, h2, h3, h4⟩ := bindsOn_spec hb
            have h5 := hall ed h2 h3
            rw [h4, hdone x hxD] at h5
            exact hxU h5
          by_cases hsink : x ∈ dSinks ops D
          · exact hbinds (List.all_eq_true.1 h1 x hsink)
          · -- somebody of D comes behind it, who is done
            simp only [dSinks, List.mem_filter, hxD, true_and, Bool.not_eq_true', Bool.not_eq_false] at hsink
            obtain ⟨z, hz, hz2⟩ := List.any_eq_true.1 hsink
            cases hoz : ops[z.i]? with
            | none => rw [hoz] at hz2; cases hz2
            | some oz =>
              rw [hoz] at hz2
              obtain ⟨ed, h2, h3, h4⟩ := bindsOn_spec hz2
              have hzU : z.i ∈ U := by
                rw [hsp] at hz
                rcases List.mem_append.1 hz with hzA | hzB
                · -- ahead of it: it does not wait for it
                  exfalso
                  obtain ⟨A1, A2, rfl⟩ := List.append_of_mem hzA
                  obtain ⟨_, o', b1, b2, _⟩ := chkTopo_spec hB1 A1 z (A2 ++ x :: B) (by rw [hsp]; simp)
                  rw [hoz] at b1; cases b1
                  rcases b2 ed h2 h3 with h | h | h
                  · rw [h4, Array.getD_eq_getD_getElem?, hlist x hxD] at h; cases h
                  · cases h
                  · rw [h4] at h
                    have hnd2 := hnd
                    rw [hsp] at hnd2
                    simp only [List.map_append, List.map_cons, List.append_assoc, List.cons_append] at hnd2
                    have := (List.nodup_append.1 hnd2).2.2 x.i h x.i (by simp)
                    exact this rfl
                · rcases List.mem_cons.1 hzB with rfl | hzB
                  · exfalso
                    obtain ⟨_, o', b1, b2, _⟩ := chkTopo_spec hB1 A z B hsp
                    rw [hoz] at b1; cases b1
                    rcases b2 ed h2 h3 with h | h | h
                    · rw [h4, Array.getD_eq_getD_getElem?, hlist z hxD] at h; cases h
                    · cases h
                    · rw [h4] at h
                      have hnd2 := hnd
                      rw [hsp] at hnd2
                      simp only [List.map_append, List.map_cons] at hnd2
                      exact (List.nodup_append.1 hnd2).2.2 z.i h z.i (by simp) rfl
                  · exact hBd z hzB
              have h5 := hcl z hz hzU oz hoz ed h2 h3
              rw [h4, hdone x hxD] at h5
              exact hxU h5
        · obtain ⟨ed, hed, hb⟩ := Array.any_eq_true'.1 h1
          simp only [Bool.and_eq_true, Bool.not_eq_true'] at hb
          have h3 := hall ed hed hb.1.1
          rw [hlgetF] at h3
          have h4 : U.contains ed.on = false := by
            cases hc : U.contains ed.on with
            | false => rfl
            | true =>
              exfalso
              have h6 := hsub _ (List.contains_iff_mem.1 hc)
              have h7 := hb.1.2
              rw [List.contains_iff_mem.2 h6] at h7
              cases h7
          have h8 := hb.2
          rw [Array.getD_eq_getD_getElem?] at h8
          cases hq : l0[ed.on]? with
          | none => rw [hq] at h3; cases h3
          | some b => rw [hq] at h3 h8; simp at h3 h8; rw [h8] at h3; rcases h3 with h3 | h3; · cases h3
                      · rw [List.contains_iff_mem.2 h3] at h4; cases h4
      obtain ⟨x, hx, rfl⟩ := List.mem_map.1 hmem
      have hxU : x.i ∉ U := fun h => by rw [List.contains_iff_mem.2 h] at hl0; cases hl0.2
      obtain ⟨o', ho', hg, hdo⟩ := hok x hx
      rw [ho] at ho'; cases ho'
      obtain ⟨A0, B0, hsp0⟩ := List.append_of_mem hx
      obtain ⟨_, o', ho', _, heats⟩ := chkTopo_spec hB1 A0 x B0 hsp0
      rw [ho] at ho'; cases ho'
      have heatU : ∀ y ∈ D, y.i ∈ x.eats → y.i ∈ U := fun y hy hye => by
        obtain ⟨ed, h2, h3, h4⟩ := bindsOn_spec (heats _ hye)
        have h5 := hall ed h2 h3
        rw [h4, hdone y hy] at h5
        exact h5
      -- nobody has taken up 'x', and nobody else what it takes up
      have hnone : ∀ z ∈ D, z.i ∈ U → x.i ∉ z.eats := fun z hz hzU hxe => by
        obtain ⟨A1, B1, hsp1⟩ := List.append_of_mem hz
        obtain ⟨_, oz, hoz, _, h2⟩ := chkTopo_spec hB1 A1 z B1 hsp1
        obtain ⟨ed, h3, h4, h5⟩ := bindsOn_spec (h2 _ hxe)
        have h6 := hcl z hz hzU oz hoz ed h3 h4
        rw [h5, hdone x hx] at h6
        exact hxU h6
      have hself : x.i ∉ x.eats := fun h => hxU (heatU x hx h)
      have heat1 : ∀ z ∈ D, ∀ k, k ∈ z.eats → k ∈ x.eats → z = x := fun z hz k h1 h2 => by
        refine Classical.byContradiction fun hzx => ?_
        obtain ⟨A1, B1, hsp1⟩ := List.append_of_mem hz
        rw [hsp1] at hx hne
        rw [List.flatMap_append, List.flatMap_cons] at hne
        have n1 := List.nodup_append.1 hne
        have n2 := List.nodup_append.1 n1.2.1
        rcases List.mem_append.1 hx with hx | hx
        · exact n1.2.2 k (List.mem_flatMap.2 ⟨x, hx, h2⟩) k (List.mem_append_left _ h1) rfl
        · rcases List.mem_cons.1 hx with rfl | hx
          · exact hzx rfl
          · exact n2.2.2 k h1 k (List.mem_flatMap.2 ⟨x, hx, h2⟩) rfl
      have helive : ∀ y ∈ D, y.i ∈ x.eats → liveB D U y = true := fun y hy hye => by
        unfold liveB
        rw [List.contains_iff_mem.2 (heatU y hy hye), Bool.true_and, Bool.not_eq_true']
        refine List.any_eq_false.2 fun z hz h => ?_
        rw [Bool.and_eq_true, List.contains_iff_mem, List.contains_iff_mem] at h
        have := heat1 z hz _ h.1 hye
        subst this
        exact hxU h.2
      have hU' : (x.i :: U).Nodup := List.nodup_cons.2 ⟨hxU, hU⟩
      -- the parts
      have hp1 : (D.filter (liveB D U)).Perm (eaten D x ++ D.filter fun y => liveB D U y && !x.eats.contains y.i) := by
        have h1 := (List.filter_append_perm (fun y => x.eats.contains y.i) (D.filter (liveB D U))).symm
        refine h1.trans ?_
        rw [List.filter_filter, List.filter_filter]
        have e1 : D.filter (fun y => x.eats.contains y.i && liveB D U y) = eaten D x := by
          apply List.filter_congr
          intro y hy
          cases hc : x.eats.contains y.i with
          | false => rfl
          | true => rw [helive y hy (List.contains_iff_mem.1 hc)]; rfl
        have e2 : D.filter (fun y => (!x.eats.contains y.i) && liveB D U y) = D.filter fun y => liveB D U y && !x.eats.contains y.i := by
          apply List.filter_congr
          intro y hy
          exact Bool.and_comm _ _
        rw [e1, e2]
      have hp2 : (D.filter (liveB D (x.i :: U))).Perm (x :: D.filter fun y => liveB D U y && !x.eats.contains y.i) := by
        have h1 := (List.filter_append_perm (fun y => y.i == x.i) (D.filter (liveB D (x.i :: U)))).symm
        refine h1.trans ?_
        rw [List.filter_filter, List.filter_filter]
        have e0 : ∀ y ∈ D, liveB D (x.i :: U) y = (y.i == x.i || (liveB D U y && !x.eats.contains y.i)) := fun y hy => by
          by_cases hyx : y.i = x.i
          · rw [hyx, beq_self_eq_true, Bool.true_or]
            unfold liveB
            rw [hyx, List.contains_cons, beq_self_eq_true, Bool.true_or, Bool.true_and, Bool.not_eq_true']
            refine List.any_eq_false.2 fun z hz h => ?_
            rw [Bool.and_eq_true, List.contains_iff_mem, List.contains_iff_mem] at h
            rcases List.mem_cons.1 h.2 with h3 | h3
            · have : z.i = x.i := h3
              have hzx : z = x := by
                have f1 := filter_one hnd hx
                have : z ∈ D.filter (fun y => y.i == x.i) := List.mem_filter.2 ⟨hz, by rw [this]; exact beq_self_eq_true _⟩
                rw [f1] at this
                exact List.mem_singleton.1 this
              subst hzx
              exact hself h.1
            · exact hnone z hz h3 h.1
          · have hb : (y.i == x.i) = false := by simpa using hyx
            rw [hb, Bool.false_or]
            unfold liveB
            rw [List.contains_cons, hb, Bool.false_or, Bool.and_assoc]
            congr 1
            rw [Bool.eq_iff_iff]
            simp only [Bool.not_eq_true', Bool.and_eq_true, List.any_eq_false, Bool.not_eq_true, List.contains_cons, Bool.and_eq_false_imp, Bool.or_eq_false_iff]
            constructor
            · intro h
              refine ⟨fun z hz hye => h z hz ⟨hye.1, by rw [hye.2, Bool.or_true]⟩, ?_⟩
              cases hc : x.eats.contains y.i with
              | false => rfl
              | true => exact absurd ⟨hc, by rw [beq_self_eq_true, Bool.true_or]⟩ (h x hx)
            · rintro ⟨h1, h2⟩ z hz ⟨hye, hor⟩
              rw [Bool.or_eq_true] at hor
              rcases hor with hc | hc
              · have hzi := beq_iff_eq.1 hc
                have f1 := filter_one hnd hx
                have : z ∈ D.filter (fun y => y.i == x.i) := List.mem_filter.2 ⟨hz, by rw [hzi]; exact beq_self_eq_true _⟩
                rw [f1] at this
                have := List.mem_singleton.1 this
                subst this
                rw [h2] at hye; cases hye
              · exact h1 z hz ⟨hye, hc⟩
        have e1 : D.filter (fun y => (y.i == x.i) && liveB D (x.i :: U) y) = [x] := by
          rw [← filter_one hnd hx]
          apply List.filter_congr
          intro y hy
          rw [e0 y hy]
          cases (y.i == x.i) <;> rfl
        have e2 : D.filter (fun y => (!(y.i == x.i)) && liveB D (x.i :: U) y) = D.filter fun y => liveB D U y && !x.eats.contains y.i := by
          apply List.filter_congr
          intro y hy
          rw [e0 y hy]
          cases hc : (y.i == x.i) with
          | false => rfl
          | true =>
            have hyi := beq_iff_eq.1 hc
            have : liveB D U y = false := by
              unfold liveB
              have : U.contains y.i = false := by rw [hyi]; exact hl0.2
              rw [this]; rfl
            rw [this]; rfl
        rw [e1, e2]
        exact List.Perm.refl _
      have hk0 : ∀ q, q ∈ σ0.map (·.1) → q ≠ x.d := fun q hq he => by
        have h1 := List.all_eq_true.1 hD2 q hq
        rw [he, List.contains_iff_mem.2 (List.mem_map.2 ⟨x, hx, rfl⟩)] at h1
        cases h1
      have hyd : ∀ y ∈ D, y.i ∈ U → y.d ∉ [x.d] := fun y hy hyU h => by
        have he : y.d = x.d := List.mem_singleton.1 h
        obtain ⟨A1, B1, hsp1⟩ := List.append_of_mem hx
        rw [hsp1] at hy hns
        rw [List.map_append, List.map_cons] at hns
        have n1 := List.nodup_append.1 hns
        have n2 := List.nodup_cons.1 n1.2.1
        rcases List.mem_append.1 hy with hy | hy
        · exact n1.2.2 y.d (List.mem_map.2 ⟨y, hy, rfl⟩) x.d (List.mem_cons_self ..) he
        · rcases List.mem_cons.1 hy with rfl | hy
          · exact hxU hyU
          · exact n2.1 (by rw [← he]; exact List.mem_map.2 ⟨y, hy, rfl⟩)
      have hdo := hdo V (others a [x.d]) (mems V (D.filter fun y => liveB D U y && !x.eats.contains y.i))
        (fun q v hq => others_get (fun h => hk0 q (List.mem_map.2 ⟨(q, v), get_mem hq, rfl⟩) (List.mem_singleton.1 h)) (ha.val q v hq))
        (fun y hy => by
          have hyD := (List.mem_filter.1 hy).1
          have hyU := heatU y hyD (List.contains_iff_mem.1 (List.mem_filter.1 hy).2)
          exact ⟨others_get (hyd y hyD hyU) (hv y hyD hyU).1, (hv y hyD hyU).2⟩)
      have hs1 : Sat e (mems V (eaten D x) ++ (mems V (D.filter fun y => liveB D U y && !x.eats.contains y.i) ++ L0)) w := hs.ent (ent_perm (by
        rw [← List.append_assoc]
        refine List.Perm.append_right _ ?_
        have := List.Perm.flatMap_right (f := fun y : DOp => y.mem (V y.i)) hp1
        rw [List.flatMap_append] at this
        exact this))
      refine do_wpOp ho ?_ hdo ⟨ha.size, ha.defers, others_held⟩ hs1 ?_
      · rcases hg with hg | ⟨j, want, hg, hw⟩
        · simp [Region.wanted, hg]
        · obtain ⟨dst, op, ty, pos, af, gd⟩ := o
          dsimp only at hg
          subst hg
          exact wants_ok ha hw
      rintro _ L' a' w' ⟨v, rfl, hvok, hent⟩ ha' hs'
      have hkeep : ∀ q u, q ≠ x.d → a.tmps[q]? = some u → a'.tmps[q]? = some u := fun q u hq hu => by
        refine ha'.val q u ?_
        rw [get_cons, if_neg (fun h => hq h.symm)]
        exact others_get (fun h => hq (List.mem_singleton.1 h)) hu
      have hV : ∀ y ∈ D.filter (fun y => liveB D U y && !x.eats.contains y.i), V y.i = (fun k => if k = x.i then v else V k) y.i := fun y hy => by
        have hne : y.i ≠ x.i := fun h => by
          have h1 := (List.mem_filter.1 hy).2
          simp only [Bool.and_eq_true] at h1
          have h2 : U.contains y.i = true := by
            have := h1.1
            simp only [liveB, Bool.and_eq_true] at this
            exact this.1
          rw [h] at h2; rw [h2] at hl0; cases hl0.2
        dsimp only
        rw [if_neg hne]
      have hs2 : Sat e (mems (fun k => if k = x.i then v else V k) (D.filter (liveB D (x.i :: U))) ++ L0) w' := by
        refine (hs'.ent hent).ent (ent_perm ?_)
        rw [← List.append_assoc]
        refine List.Perm.append_right _ ?_
        have h1 := (List.Perm.flatMap_right (f := fun y : DOp => y.mem ((fun k => if k = x.i then v else V k) y.i)) hp2).symm
        refine List.Perm.trans ?_ h1
        rw [List.flatMap_cons]
        rw [mems_congr (V' := fun k => if k = x.i then v else V k) hV]
        simp only [if_true]
        exact List.Perm.refl _
      refine ⟨hS _ _ _ hs2, ih (x.i :: U) hU' ?_ (by rw [List.length_cons]; omega) _ a' w' (fun k => if k = x.i then v else V k) ?_ ?_ ⟨ha'.size, ha'.defers, fun q u hq => ?_⟩ ?_ hs2⟩
      · intro j hj
        rcases List.mem_cons.1 hj with rfl | hj
        · exact List.mem_map.2 ⟨x, hx, rfl⟩
        · exact hsub j hj
      · intro j
        by_cases hj : x.i = j
        · subst hj
          have hlt : x.i < l.size := by
            have := hl x.i
            rw [hl0.1] at this
            exact (Array.getElem?_eq_some_iff.1 this).1
          rw [Array.getElem?_setIfInBounds_self_of_lt hlt, hl0.1]
          simp
        · rw [Array.getElem?_setIfInBounds_ne hj, hl]
          have : (j == x.i) = false := by simp; exact fun h => hj h.symm
          congr 1
          funext b
          rw [List.contains_cons, this, Bool.false_or]
      · have hmono : ∀ k, l.getD k false = true → (l.setIfInBounds x.i true).getD k false = true := fun k hk => by
          rw [Array.getD_eq_getD_getElem?] at hk ⊢
          by_cases hj : x.i = k
          · subst hj
            cases hq : l[x.i]? with
            | none => rw [hq] at hk; cases hk
            | some b =>
              rw [Array.getElem?_setIfInBounds_self_of_lt (Array.getElem?_eq_some_iff.1 hq).1]; rfl
          · rw [Array.getElem?_setIfInBounds_ne hj]; exact hk
        intro z hz hzU oz hoz ed hed hb
        apply hmono
        rcases List.mem_cons.1 hzU with hzx | hzU
        · rw [hzx, ho] at hoz; cases hoz
          exact hall ed hed hb
        · exact hcl z hz hzU oz hoz ed hed hb
      · exact hkeep q u (hk0 q (List.mem_map.2 ⟨(q, u), get_mem hq, rfl⟩)) (ha.val q u hq)
      · intro y hy hyU
        rcases List.mem_cons.1 hyU with hyx | hyU
        · have hyx2 : y = x := by
            have f1 := filter_one hnd hx
            have : y ∈ D.filter (fun y => y.i == x.i) := List.mem_filter.2 ⟨hy, by rw [hyx]; exact beq_self_eq_true _⟩
            rw [f1] at this
            exact List.mem_singleton.1 this
          subst hyx2
          rw [if_pos rfl]
          exact ⟨ha'.val _ _ (by rw [get_cons, if_pos rfl]), hvok⟩
        · have hne2 : y.i ≠ x.i := fun h => hxU (h ▸ hyU)
          rw [if_neg hne2]
          exact ⟨hkeep _ _ (fun h => hyd y hy hyU (by rw [h]; exact List.mem_singleton.2 rfl)) (hv y hy hyU).1, (hv y hy hyU).2⟩
/-- Operations, each told by itself, in whatever order they come up. -/
theorem A.dag (D : List DOp) (m : Nat) (hm : D.length = m) (hB : dagB ops l0 D = true) (hD : dagD (σ0.map (·.1)) D = true) (hok : ∀ x ∈ D, StepD P N ops e σ0 L0 D x) (hR : Ent L0 R0)
    (k : ∀ V : Nat → Value, (∀ y ∈ D, y.ok (V y.i)) → A P N ops T R0 n (mark l0 (D.map (·.i))) Q (D.map (fun y => (y.d, V y.i)) ++ σ0) e (mems V (D.filter fun y => !D.any fun z => z.eats.contains y.i) ++ L0)) : A P N ops T R0 (n + m) l0 Q σ0 e L0 := fun a w ha hs => by
  refine wpS_dag (σ0 := σ0) (L0 := L0) (S := Held T (Sat e R0)) hB hD hok (fun l w L h _ => h.ent ((ent_app_drop L).trans hR)) (fun a w V h1 h2 h3 => k V h1 a w h2 h3) m [] List.nodup_nil (fun i hi => by cases hi) (by simpa using hm.symm) l0 a w (fun _ => undef) (fun i => ?_) (fun z hz hzU => by cases hzU) ha (fun y hy hyU => by cases hyU) ?_
  · simp
  · have : D.filter (liveB D []) = [] := List.filter_eq_nil_iff.2 fun y hy h => by simp [liveB] at h
    rw [this]
    exact hs
end
end Go.Bs
