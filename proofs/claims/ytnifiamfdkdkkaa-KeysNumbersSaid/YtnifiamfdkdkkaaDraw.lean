/- Statements that leave their order open. -/
import Derived.Test.YtnifiamfdkdkkaaOps5
import Derived.KernelRfl
namespace Go.Bs
set_option linter.unusedVariables false
set_option linter.unusedSimpArgs false
section
variable {P : Program} {ops : Array Oper}
/-- Whatever order is picked from here on; 'S' holds behind each operation. -/
def wpS (P : Program) (ops : Array Oper) (Q : Exit → Act → World → Prop) (S : Array Bool → World → Prop) : Nat → Array Bool → Act → World → Prop
  | 0, l, a, w => Region.ready .any ops l = [] ∧ Q .normal a w
  | n + 1, l, a, w => (Region.ready .any ops l = [] → Q .normal a w) ∧
    ∀ i ∈ Region.ready .any ops l, wpOp P ops Q i (fun a' w' => S (l.setIfInBounds i true) w' ∧ wpS P ops Q S n (l.setIfInBounds i true) a' w') a w
theorem any_of_wpS {Q : Exit → Act → World → Prop} {S : Array Bool → World → Prop} : ∀ (n : Nat) (l : Array Bool) (a : Act) (w : World), wpS P ops Q S n l a w → wpAny P .any ops Q n l a w
  | 0, _, _, _, h => h
  | n + 1, _, _, _, h => ⟨h.1, fun i hi => wpOp_mono (fun a' w' h' => any_of_wpS n _ a' w' h'.2) (h.2 i hi)⟩
def unlisted (T : List Nat) (l : Array Bool) : Bool := T.all fun t => !l.getD t false
/-- Before an operation of 'T' has come up, 'S0' holds. -/
def Held (T : List Nat) (S0 : World → Prop) : Array Bool → World → Prop := fun l w => unlisted T l = true → S0 w
def waits (ops : Array Oper) (T : List Nat) (i : Nat) : Bool := T.all fun t => match ops[t]? with
  | some o => o.after.any fun e => Region.binds .any e && e.on == i
  | none => false
theorem waits_spec {T : List Nat} {i : Nat} (h : waits ops T i = true) {t : Nat} (ht : t ∈ T) : ∃ o, ops[t]? = some o ∧ ∃ e ∈ o.after, Region.binds .any e = true ∧ e.on = i := by
  unfold waits at h
  have := List.all_eq_true.1 h t ht
  cases ho : ops[t]? with
  | none => rw [ho] at this; cases this
  | some o =>
    rw [ho] at this
    obtain ⟨e, he, hb⟩ := Array.any_eq_true'.1 this
    simp only [Bool.and_eq_true, beq_iff_eq] at hb
    exact ⟨o, rfl, e, he, hb.1, hb.2⟩
theorem unlisted_set {T : List Nat} {l : Array Bool} {j : Nat} (h : unlisted T l = true) (hj : j ∉ T) : unlisted T (l.setIfInBounds j true) = true := by
  unfold unlisted at *
  refine List.all_eq_true.2 fun t ht => ?_
  have := List.all_eq_true.1 h t ht
  have hne : j ≠ t := by rintro rfl; exact hj ht
  rw [getD_set_ne false hne]
  exact this
theorem not_ready {T : List Nat} {l : Array Bool} {i j : Nat} (hw : waits ops T i = true) (hi : l.getD i true = false) (hj : j ∈ Region.ready .any ops l) : j ∉ T := fun ht => by
  obtain ⟨o, ho, e, he, hb, hon⟩ := waits_spec hw ht
  obtain ⟨_, o', ho', hall⟩ := mem_ready.1 hj
  rw [ho] at ho'; cases ho'
  have h1 := hall e he hb
  rw [hon] at h1
  rcases Nat.lt_or_ge i l.size with h' | h'
  · simp [h'] at h1 hi; rw [hi] at h1; cases h1
  · simp [Array.getElem?_eq_none h'] at h1
/-- An operation that reads what 'S0' tells may be taken first, if those of 'T' wait for it. -/
theorem wpS_first {Q : Exit → Act → World → Prop} {T : List Nat} {S0 : World → Prop} {i : Nat} {oi : Oper} {v : Value} (hi : ops[i]? = some oi) (hsel : ∀ (j : Nat) (o : Oper) cs b, ops[j]? = some o → o.op ≠ .select cs b)
    (hQ : ∀ c a w, Q (.panic c) (a.put oi.dst v) w → Q (.panic c) a w) (hw : waits ops T i = true) :
    ∀ (n : Nat) (l : Array Bool) (a : Act) (w : World),
      (∀ j oj, ops[j]? = some oj → j ≠ i → l.getD j true = false → (∀ e ∈ oj.after, Region.binds .any e = true → e.on ≠ i) → oi.apart ops oj = true) →
      i ∈ Region.ready .any ops l → YieldsIf P ops S0 oi v a → unlisted T l = true → S0 w →
      wpS P ops Q (Held T S0) n (l.setIfInBounds i true) (a.put oi.dst v) w → wpS P ops Q (Held T S0) (n + 1) l a w := by
  intro n
  induction n with
  | zero =>
    intro l a w _ hr hy hT hS H
    refine ⟨fun h => (by rw [h] at hr; cases hr), fun j hj => ?_⟩
    by_cases hji : j = i
    · subst hji; exact hy.wpOp hi hS ⟨fun _ => hS, H⟩
    · have := ready_mono hj hji
      rw [H.1] at this
      cases this
  | succ n ih =>
    intro l a w hfree hr hy hT hS H
    have hun : l.getD i true = false := (mem_ready.1 hr).1
    refine ⟨fun h => (by rw [h] at hr; cases hr), fun j hj => ?_⟩
    by_cases hji : j = i
    · subst hji; exact hy.wpOp hi hS ⟨fun _ => hS, H⟩
    · have h1 := H.2 j (ready_mono hj hji)
      obtain ⟨hjun, oj, hoj, hall⟩ := mem_ready.1 hj
      have hjT : j ∉ T := not_ready hw hun hj
      have hiT : i ∉ T := not_ready hw hun hr
      have hnot : ∀ e ∈ oj.after, Region.binds .any e = true → e.on ≠ i := fun e he hb heq => by
        have h1 := hall e he hb
        rw [heq] at h1
        rcases Nat.lt_or_ge i l.size with h' | h'
        · simp [h'] at hun h1; rw [hun] at h1; cases h1
        · simp [Array.getElem?_eq_none h'] at h1
      have h2 := wpOp_putIf hoj (hfree j oj hoj hji hjun hnot) (fun cs b => hsel i oi cs b hi) (fun cs b => hsel j oj cs b hoj) hQ hy h1
      have hfree' : ∀ k ok, ops[k]? = some ok → k ≠ i → (l.setIfInBounds j true).getD k true = false →
          (∀ e ∈ ok.after, Region.binds .any e = true → e.on ≠ i) → oi.apart ops ok = true := fun k ok hk hki hun2 hno => by
        refine hfree k ok hk hki ?_ hno
        by_cases hjk : j = k
        · subst hjk; exact hjun
        · rw [getD_set_ne true hjk] at hun2; exact hun2
      refine wpOp_mono (fun a' w' h3 => ?_) h2
      have hS' : S0 w' := h3.2.1 (unlisted_set (unlisted_set hT hiT) hjT)
      refine ⟨fun _ => hS', ih (l.setIfInBounds j true) a' w' hfree' (ready_mono hr (Ne.symm hji)) h3.1 (unlisted_set hT hjT) hS' ?_⟩
      rw [Array.setIfInBounds_comm _ _ hji]
      exact h3.2.2
end

section
variable {P : Program} {N : Fr} {Q : Goal} {σ : Env} {e : World} {L : List Res} {ops : Array Oper} {T : List Nat} {R0 : List Res} {n : Nat} {l : Array Bool}
variable {d : Nat} {op : Op} {ty : TypeId} {pos : String} {af : Array Edge}
/-- A statement whose order is open, part of which has come up. -/
def A (P : Program) (N : Fr) (ops : Array Oper) (T : List Nat) (R0 : List Res) (n : Nat) (l : Array Bool) (Q : Goal) (σ : Env) (e : World) (L : List Res) : Prop :=
  ∀ a w, Has N σ a → Sat e L w → wpS P ops (WQ N Q) (Held T (Sat e R0)) n l a w
theorem A.begin {id : Nat} {os : List Oper} (T : List Nat) (R0 : List Res) (hm : P.follows .mixedOrders = true) (h : A P N os.toArray T R0 os.length (Array.replicate os.length false) Q σ e L) : W P N (.region id os.toArray true) Q σ e L := fun a w ha hs => by
  refine wp_region_any hm (any_of_wpS (S := Held T (Sat e R0)) _ _ _ _ ?_)
  have := h a { w with drawn := w.drawn + 1 } ha hs
  simpa using this
theorem A.start {id : Nat} {os : List Oper} (T : List Nat) (hm : P.follows .mixedOrders = true) (h : A P N os.toArray T L os.length (Array.replicate os.length false) Q σ e L) : W P N (.region id os.toArray true) Q σ e L := A.begin T L hm h
def takeB (ops : Array Oper) (T : List Nat) (l : Array Bool) (i : Nat) : Bool :=
  Region.noSelect ops && Region.free .any ops l i && (Region.ready .any ops l).contains i && waits ops T i && unlisted T l
theorem hQ_WQ {dst : Option Tmp} {v : Value} : ∀ c (a : Act) w, WQ N Q (.panic c) (Act.put a dst v) w → WQ N Q (.panic c) a w := fun _ _ _ h => h
theorem A.take_aux {i : Nat} {o : Oper} {v : Value} (hi : ops[i]? = some o) (hb : takeB ops T l i = true) (hL : Ent L R0) (hy : ∀ a, Has N σ a → YieldsIf P ops (Sat e R0) o v a) (σ' : Env) (hσ : ∀ a, Has N σ a → Has N σ' (a.put o.dst v))
    (k : A P N ops T R0 n (l.setIfInBounds i true) Q σ' e L) : A P N ops T R0 (n + 1) l Q σ e L := fun a w ha hs => by
  simp only [takeB, Bool.and_eq_true] at hb
  obtain ⟨⟨⟨⟨h1, h2⟩, h3⟩, h4⟩, h5⟩ := hb
  exact wpS_first hi (Region.noSelect_spec h1) hQ_WQ h4 n l a w (Region.free_spec hi h2) (by simpa using h3) (hy a ha) h5 (hs.ent hL) (k _ w (hσ a ha) hs)
/-- Number 'i' first: it reads what 'R0' tells. -/
theorem A.take (i : Nat) (v : Value) (hi : ops[i]? = some ⟨some d, op, ty, pos, af, none⟩) (hb : takeB ops T l i = true) (hL : Ent L R0) (hv : Val P N op ty v σ e R0) (hd : Nat.blt d N.n = true)
    (k : A P N ops T R0 n (l.setIfInBounds i true) Q ((d, v) :: σ) e L) : A P N ops T R0 (n + 1) l Q σ e L :=
  A.take_aux hi hb hL (fun a ha => .inl ⟨rfl, fun w hw => hv a w ha hw _ _ _ _⟩) _ (fun _ ha => ha.put hd v) k
theorem A.takeG (i : Nat) (v : Value) {j : Nat} {want : Bool} (hi : ops[i]? = some ⟨some d, op, ty, pos, af, some (j, want)⟩) (hg : wants σ ops j want = some true) (hb : takeB ops T l i = true) (hL : Ent L R0) (hv : Val P N op ty v σ e R0) (hd : Nat.blt d N.n = true)
    (k : A P N ops T R0 n (l.setIfInBounds i true) Q ((d, v) :: σ) e L) : A P N ops T R0 (n + 1) l Q σ e L :=
  A.take_aux hi hb hL (fun a ha => .inl ⟨wants_ok ha hg, fun w hw => hv a w ha hw _ _ _ _⟩) _ (fun _ ha => ha.put hd v) k
theorem A.takeN (i : Nat) {j : Nat} {want : Bool} (hi : ops[i]? = some ⟨some d, op, ty, pos, af, some (j, want)⟩) (hg : wants σ ops j want = some false) (hb : takeB ops T l i = true) (hL : Ent L R0) (hd : Nat.blt d N.n = true)
    (k : A P N ops T R0 n (l.setIfInBounds i true) Q ((d, undef) :: σ) e L) : A P N ops T R0 (n + 1) l Q σ e L :=
  A.take_aux hi hb hL (fun a ha => .inr ⟨wants_ok ha hg, rfl⟩) _ (fun _ ha => ha.put hd _) k
theorem do_wpOp {i : Nat} {o : Oper} {K : Env → List Res → Prop} {K' : Act → World → Prop} {Q' : Exit → Act → World → Prop} {a : Act} {w : World} (hi : ops[i]? = some o) (hg : Region.wanted o (yielded ops a.tmps) = true) (h : Do P N o K σ e L) (ha : Has N σ a) (hs : Sat e L w)
    (hK : ∀ σ' L' a' w', K σ' L' → Has N σ' a' → Sat e L' w' → K' a' w') : wpOp P ops Q' i K' a w := by
  unfold wpOp
  simp only [hi, hg, if_true]
  exact .inl (h a w ha hs K' Q' hK)
/-- A test that is taken first. -/
theorem A.takeDec (i : Nat) {p : Prop} [Decidable p] (hi : ops[i]? = some ⟨some d, op, ty, pos, af, none⟩) (hb : takeB ops T l i = true) (hL : Ent L R0) (hv : Val P N op ty (.bool (decide p)) σ e R0) (hd : Nat.blt d N.n = true)
    (k1 : p → A P N ops T R0 n (l.setIfInBounds i true) Q ((d, .bool true) :: σ) e L) (k2 : ¬ p → A P N ops T R0 n (l.setIfInBounds i true) Q ((d, .bool false) :: σ) e L) : A P N ops T R0 (n + 1) l Q σ e L := by
  by_cases hp : p
  · exact A.take i _ hi hb hL (hv.yes hp) hd (k1 hp)
  · exact A.take i _ hi hb hL (hv.no hp) hd (k2 hp)
theorem A.takeGDec (i : Nat) {p : Prop} [Decidable p] {j : Nat} {want : Bool} (hi : ops[i]? = some ⟨some d, op, ty, pos, af, some (j, want)⟩) (hg : wants σ ops j want = some true) (hb : takeB ops T l i = true) (hL : Ent L R0) (hv : Val P N op ty (.bool (decide p)) σ e R0) (hd : Nat.blt d N.n = true)
    (k1 : p → A P N ops T R0 n (l.setIfInBounds i true) Q ((d, .bool true) :: σ) e L) (k2 : ¬ p → A P N ops T R0 n (l.setIfInBounds i true) Q ((d, .bool false) :: σ) e L) : A P N ops T R0 (n + 1) l Q σ e L := by
  by_cases hp : p
  · exact A.takeG i _ hi hg hb hL (hv.yes hp) hd (k1 hp)
  · exact A.takeG i _ hi hg hb hL (hv.no hp) hd (k2 hp)
theorem no_held {C : Prop} (h : unlisted T l = false) : unlisted T l = true → C := fun h1 => by rw [h] at h1; cases h1
theorem wpS_mono {Q : Exit → Act → World → Prop} {S S' : Array Bool → World → Prop} (f : ∀ l w, S' l w → S l w) : ∀ (n : Nat) (l : Array Bool) (a : Act) (w : World), wpS P ops Q S' n l a w → wpS P ops Q S n l a w
  | 0, _, _, _, h => h
  | n + 1, _, _, _, h => ⟨h.1, fun i hi => wpOp_mono (fun a' w' h' => ⟨f _ _ h'.1, wpS_mono f n _ a' w' h'.2⟩) (h.2 i hi)⟩
/-- More is told of what no operation turns. -/
theorem A.grow (R1 : List Res) (f : Ent R1 R0) (h : A P N ops T R1 n l Q σ e L) : A P N ops T R0 n l Q σ e L := fun a w ha hs =>
  wpS_mono (fun _ _ hh hu => (hh hu).ent f) n l a w (h a w ha hs)
theorem W.ent1 {c : Code} {L' : List Res} (f : Ent L L') (h : W P N c Q σ e L') : W P N c Q σ e L := h.ent f
theorem A.ent1 {L' : List Res} (f : Ent L L') (h : A P N ops T R0 n l Q σ e L') : A P N ops T R0 n l Q σ e L := fun a w ha hs => h a w ha (hs.ent f)
theorem A.regrow (f : Ent L R0) (h : A P N ops T L n l Q σ e L) : A P N ops T R0 n l Q σ e L := A.grow L f h
/-- The one that comes up. -/
theorem A.one (i : Nat) {dst : Option Tmp} (hi : ops[i]? = some ⟨dst, op, ty, pos, af, none⟩) (hr : ((Region.ready .any ops l) == [i]) = true) (h : Do P N ⟨dst, op, ty, pos, af, none⟩ (fun σ' L' => (unlisted T (l.setIfInBounds i true) = true → Ent L' R0) ∧ A P N ops T R0 n (l.setIfInBounds i true) Q σ' e L') σ e L) :
    A P N ops T R0 (n + 1) l Q σ e L := fun a w ha hs => by
  have hr' := eq_of_beq hr
  refine ⟨fun h0 => (by rw [hr'] at h0; cases h0), fun j hj => ?_⟩
  rw [hr'] at hj
  simp only [List.mem_singleton] at hj
  subst hj
  exact do_wpOp hi rfl h ha hs fun σ' L' a' w' ⟨h1, h2⟩ ha' hs' => ⟨fun hu => hs'.ent (h1 hu), h2 a' w' ha' hs'⟩
theorem A.oneG (i : Nat) {dst : Option Tmp} {j : Nat} {want : Bool} (hi : ops[i]? = some ⟨dst, op, ty, pos, af, some (j, want)⟩) (hg : wants σ ops j want = some true) (hr : ((Region.ready .any ops l) == [i]) = true) (h : Do P N ⟨dst, op, ty, pos, af, some (j, want)⟩ (fun σ' L' => (unlisted T (l.setIfInBounds i true) = true → Ent L' R0) ∧ A P N ops T R0 n (l.setIfInBounds i true) Q σ' e L') σ e L) :
    A P N ops T R0 (n + 1) l Q σ e L := fun a w ha hs => by
  have hr' := eq_of_beq hr
  refine ⟨fun h0 => (by rw [hr'] at h0; cases h0), fun k hj => ?_⟩
  rw [hr'] at hj
  simp only [List.mem_singleton] at hj
  subst hj
  exact do_wpOp hi (wants_ok ha hg) h ha hs fun σ' L' a' w' ⟨h1, h2⟩ ha' hs' => ⟨fun hu => hs'.ent (h1 hu), h2 a' w' ha' hs'⟩
/-- One of two. -/
theorem A.two (i j : Nat) {o1 o2 : Oper} (hi : ops[i]? = some o1) (hj : ops[j]? = some o2) (hg1 : o1.guard = none) (hg2 : o2.guard = none) (hr : ((Region.ready .any ops l) == [i, j]) = true)
    (h1 : Do P N o1 (fun σ' L' => (unlisted T (l.setIfInBounds i true) = true → Ent L' R0) ∧ A P N ops T R0 n (l.setIfInBounds i true) Q σ' e L') σ e L)
    (h2 : Do P N o2 (fun σ' L' => (unlisted T (l.setIfInBounds j true) = true → Ent L' R0) ∧ A P N ops T R0 n (l.setIfInBounds j true) Q σ' e L') σ e L) :
    A P N ops T R0 (n + 1) l Q σ e L := fun a w ha hs => by
  have hr' := eq_of_beq hr
  refine ⟨fun h0 => (by rw [hr'] at h0; cases h0), fun k hk => ?_⟩
  rw [hr'] at hk
  simp only [List.mem_cons, List.not_mem_nil, or_false] at hk
  rcases hk with rfl | rfl
  · exact do_wpOp hi (by simp [Region.wanted, hg1]) h1 ha hs fun σ' L' a' w' ⟨h1, h2⟩ ha' hs' => ⟨fun hu => hs'.ent (h1 hu), h2 a' w' ha' hs'⟩
  · exact do_wpOp hj (by simp [Region.wanted, hg2]) h2 ha hs fun σ' L' a' w' ⟨h1, h2⟩ ha' hs' => ⟨fun hu => hs'.ent (h1 hu), h2 a' w' ha' hs'⟩
theorem A.done (hr : (Region.ready .any ops l).isEmpty = true) (h : Fin Q .normal σ e L) : A P N ops T R0 n l Q σ e L := fun a w ha hs => by
  have hr' : Region.ready .any ops l = [] := by simpa using hr
  cases n with
  | zero => exact ⟨hr', σ, ha, h w hs⟩
  | succ n => exact ⟨fun _ => ⟨σ, ha, h w hs⟩, fun i hi => by rw [hr'] at hi; cases hi⟩
end
end Go.Bs
