/- Maps from whole numbers. -/
import Derived.Test.YtmiddmmmgiopoaaOps7
import Derived.MapKept
namespace Go.Bs
set_option linter.unusedVariables false
set_option linter.unusedSimpArgs false
/-- A map's keys, in the order in which they came. -/
def MpI (g : Nat) (ks : List Int) : Res := fun h => ∃ (es : Array MapEntry) (clock : Nat), h g = some (.map es clock) ∧ es.toList.map (·.key) = ks.map (Value.int .i64)
def addK (ks : List Int) (k : Int) : List Int := if k ∈ ks then ks else ks ++ [k]
theorem findNow_int (k : Int) : ∀ (l : List MapEntry) (ks : List Int) (j : Nat), l.map (·.key) = ks.map (Value.int .i64) →
    (k ∉ ks ∧ Instr.findNow (.int .i64) (.int .i64 k) l j = some none) ∨ (k ∈ ks ∧ ∃ i v e, Instr.findNow (.int .i64) (.int .i64 k) l j = some (some (j + i, v)) ∧ l[i]? = some e ∧ e.key = .int .i64 k)
  | [], ks, j, h => by
    cases ks with
    | nil => exact .inl ⟨by simp, rfl⟩
    | cons _ _ => simp at h
  | e :: l, ks, j, h => by
    cases ks with
    | nil => simp at h
    | cons x ks =>
      simp only [List.map_cons, List.cons.injEq] at h
      obtain ⟨h1, h2⟩ := h
      by_cases hk : k = x
      · subst hk
        refine .inr ⟨List.mem_cons_self .., 0, e.val, e, ?_, rfl, h1⟩
        simp [Instr.findNow, Instr.sameNow, h1]
      · have hbq : (k == x) = false := by simpa using hk
        rcases findNow_int k l ks (j + 1) h2 with ⟨h3, h4⟩ | ⟨h3, i, v, e', h4, h5, h6⟩
        · refine .inl ⟨by simp [hk, h3], ?_⟩
          simp [Instr.findNow, Instr.sameNow, h1, hbq, h4]
        · refine .inr ⟨List.mem_cons_of_mem _ h3, i + 1, v, e', ?_, h5, h6⟩
          simp [Instr.findNow, Instr.sameNow, h1, hbq, h4]
          try omega
section
variable {P : Program} {N : Nat} {Q : Goal} {σ : Env} {e : World} {L : List Res} {all : Array Oper} {rest : List Oper}
variable {d : Nat} {op : Op} {ty : TypeId} {pos : String} {af : Array Edge} {gd : Option (Nat × Bool)} {K : Env → List Res → Prop} {x y z : Operand} {t : TypeId}
theorem Do.makeMap (hd : Nat.blt d N = true) (k : ∀ g, K ((d, .map (some g)) :: σ) (MpI g [] :: L)) : Do P N ⟨some d, .makeMap t none, ty, pos, af, gd⟩ K σ e L := fun a w ha hs K' Q' hK =>
  upon_ok_do (w' := w.alloc (.map #[] 0)) (v := .map (some w.heap.size)) (by
    have h : (Instr.makeMap t none).run P w = .ok (.map (some w.heap.size)) (w.alloc (.map #[] 0)) := rfl
    simp [execOp, h]) (hK _ _ _ _ (k _) (ha.put hd _) ((hs.alloc _).ent fun _ => sepL_head fun _ h => ⟨#[], 0, h, rfl⟩))
theorem Do.mapUpdate {g : Nat} {k : Int} {v : Value} {ks : List Int} {R : List Res} [m : MapT P t] (hx : ev σ x = some (.map (some g))) (hy : ev σ y = some (.int .i64 k)) (hz : ev σ z = some v) (p : Pull L (MpI g ks) R) (kk : K σ (MpI g (addK ks k) :: R)) :
    Do P N ⟨none, .mapUpdate t x y z, ty, pos, af, gd⟩ K σ e L := fun a w ha hs K' Q' hK => by
  obtain ⟨kt, et, hm, hk⟩ := m.und
  have hs1 := hs.ent p.out
  obtain ⟨h1, h2, ap, l1, l2, ⟨es, clock, hg, hks⟩, hR⟩ := id hs1.2.2.2
  have hb : w.heap[g]? = some (.map es clock) := l1 g _ hg
  have hset : ∀ (es' : Array MapEntry) (clock' : Nat) (ks' : List Int), es'.toList.map (·.key) = ks'.map (Value.int .i64) → Sat e (MpI g ks' :: R) { w with heap := w.heap.setIfInBounds g (.map es' clock') } := fun es' clock' ks' hks' => by
    have hlt : g < w.heap.size := (Array.getElem?_eq_some_iff.1 hb).1
    refine hs1.change rfl rfl rfl fun h1 hle hA => ?_
    obtain ⟨es2, clock2, hg2, _⟩ := hA
    refine ⟨fun b => if b = g then some (.map es' clock') else none, ?_, ⟨es', clock', by simp, hks'⟩, ?_, ?_⟩
    · intro b o hb'
      by_cases eb : b = g
      · subst eb; simp only [if_true] at hb'; rw [← hb']; simp [hp, hlt]
      · simp [eb] at hb'
    · intro b o hb' hn
      by_cases eb : b = g
      · subst eb; rw [hg2] at hn; cases hn
      · simp [eb] at hb'
    · intro b hn o ho
      have : b ≠ g := by rintro rfl; rw [hg2] at hn; cases hn
      simp only [hp] at ho ⊢
      simp [Array.getElem?_setIfInBounds_ne this.symm, ho]
  have hex : ∀ w', (Instr.mapUpdate t (.map (some g)) (.int .i64 k) v).run P w = .ok () w' → K' (a.put none undef) w' →
      Oper.wp P ⟨none, .mapUpdate t x y z, ty, pos, af, gd⟩ a w K' Q' := fun w' hr hk =>
    upon_skip_do (w' := w') (by simp [execOp, ha.ev hx, ha.ev hy, ha.ev hz, hr]) hk
  have hck : (Instr.checkKey false 10000 kt (.int .i64 k)).run P w = .ok () w := by
    unfold Instr.checkKey
    simp [run_underlying hk]
  rcases findNow_int k es.toList ks 0 hks with ⟨hno, hf⟩ | ⟨hyes, i, v', e', hf, he, hek⟩
  · have hfk := MapKept.run_findKey (P := P) (w := w) hk hf
    refine hex { w with heap := w.heap.setIfInBounds g (.map (es.push { key := .int .i64 k, val := v, born := clock }) (clock + 1)) } ?_ (hK _ _ _ _ kk ha ?_)
    · simp [Instr.mapUpdate, run_underlying hm, MapKept.run_getObj_map hb, hck, hfk, MapKept.run_setObj_map _ hb]
    · refine hset _ _ _ ?_
      unfold addK
      rw [if_neg hno]
      simp [hks]
  · have hfk := MapKept.run_findKey (P := P) (w := w) hk hf
    rw [Nat.zero_add] at hfk
    have hes : es[i]? = some e' := by simpa using he
    refine hex { w with heap := w.heap.setIfInBounds g (.map (es.modify i fun e => { e with key := .int .i64 k, val := v }) clock) } ?_ (hK _ _ _ _ kk ha ?_)
    · simp [Instr.mapUpdate, run_underlying hm, MapKept.run_getObj_map hb, hck, hfk, hes, hek, Instr.keyThatStays, Instr.sameBits, MapKept.run_setObj_map _ hb]
    · refine hset _ _ _ ?_
      unfold addK
      rw [if_pos hyes, ← hks]
      apply List.ext_getElem?
      intro j
      simp only [List.getElem?_map, Array.getElem?_toList, Array.getElem?_modify]
      by_cases hj : i = j
      · subst hj; simp [hes, hek]
      · simp [hj]
theorem Val.lenMap {g : Nat} {ks : List Int} {ats : List TypeId} {R : List Res} [m : MapT P t] (h : ev σ x = some (.map (some g))) (p : Pull L (MpI g ks) R) :
    Val P N (.call { callee := .builtin .len, args := #[x], argTypes := (t :: ats).toArray }) ty (.int .i64 (ks.length : Int)) σ e L := fun a w ha hs _ _ _ _ => by
  obtain ⟨kt, et, hm, hk⟩ := m.und
  obtain ⟨h1, h2, ap, l1, l2, ⟨es, clock, hg, hks⟩, hR⟩ := (hs.ent p.out).2.2.2
  have hb : w.heap[g]? = some (.map es clock) := l1 g _ hg
  have hl : es.size = ks.length := by
    have := congrArg List.length hks
    simpa using this
  simp [execOp, resolve, invoke, builtin, Builtin.len_, ha.ev h, run_underlying hm, MapKept.run_getObj_map hb, goInt, hl]
end
end Go.Bs
