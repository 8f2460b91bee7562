/- What a law's arguments read as: the cells of a type, told level by level, in the old memory. -/
import Derived.Test.YtnifiamfdkdkkaaRow
import Derived.SizedLaws
namespace Go.Bs
set_option linter.unusedVariables false
set_option linter.unusedSimpArgs false
open Go.ChangeShapes Go.WideShapes Go.ChangeAt Go.RowKit
section
variable {P : Program} {W : World} {t e : TypeId} {cs : List Value} {n : Nat}
/-- Cells that a row reads at a type, none of its lists longer than what can be reached. -/
def Arg (P : Program) (W : World) (t : TypeId) (cs : List Value) : Prop :=
  ∃ (H : Type) (enc : TypeId × Value → H) (base : Nat) (sp : Nat → Bool) (held : Bool) (fuel : Nat) (x : DataW H × List MemPlace), DataW.trod enc P W base sp held fuel t cs = some x ∧ ∀ m ∈ x.1.weights P t, m ≤ reachBytes
theorem arg_int {k : IntKind} (ht : P.underlying t = some (.int k)) (h : Arg P W t cs) : ∃ m, cs = [.int k m] ∧ (Lit.int k m).wf = true := by
  obtain ⟨H, enc, base, sp, held, fuel, x, h1, h2⟩ := h
  obtain ⟨m, h3, _, h4⟩ := DataW.trod_int ht h1
  exact ⟨m, h3, h4⟩
theorem arg_bool (ht : P.underlying t = some .bool) (h : Arg P W t cs) : ∃ b, cs = [.bool b] := by
  obtain ⟨H, enc, base, sp, held, fuel, x, h1, h2⟩ := h
  obtain ⟨b, h3, _⟩ := DataW.trod_bool ht h1
  exact ⟨b, h3⟩
theorem arg_string (ht : P.underlying t = some .string) (h : Arg P W t cs) : ∃ l : List UInt8, cs = [.string (str l)] ∧ l.length ≤ reachBytes := by
  obtain ⟨H, enc, base, sp, held, fuel, x, h1, h2⟩ := h
  obtain ⟨s, h3, rfl, h4⟩ := DataW.trod_string ht h1
  refine ⟨s.data.toList, ?_, h2 _ (by simp [DataW.weights])⟩
  rw [h3]
  rfl
theorem arg_struct {fs : Array Field} (ht : P.underlying t = some (.struct fs)) (h : Arg P W t cs) :
    cs.length = P.cellsOf t ∧ ∀ (i : Nat) (f : Field), fs[i]? = some f → Arg P W f.type ((cs.drop f.offset).take (P.cellsOf f.type)) := by
  obtain ⟨H, enc, base, sp, held, fuel, x, h1, h2⟩ := h
  obtain ⟨xs, m, rfl, rfl, h3, h4, h5⟩ := DataW.trod_struct ht h1
  refine ⟨h3, fun i f hf => ?_⟩
  have hlt : i < fs.size := (Array.getElem?_eq_some_iff.1 hf).1
  have h6 := h5 i f hf
  rw [List.getElem?_eq_getElem (by omega)] at h6
  refine ⟨H, enc, base, sp, held, m, _, h6, fun k hk => h2 k ?_⟩
  simp only [DataW.weights, ht]
  refine DataW.weights_mem_each (j := i) (t := f.type) (d := (xs[i]'(by omega)).1) ?_ ?_ k hk
  · simp [hf]
  · simp [h4, hlt]
theorem arg_field {fs : Array Field} (ht : P.underlying t = some (.struct fs)) (h : Arg P W t cs) {i : Nat} {f : Field} (hf : fs[i]? = some f) (hc : P.cellsOf f.type = 1) {c : Value} (hcs : cs[f.offset]? = some c) : Arg P W f.type [c] := by
  have h1 := (arg_struct ht h).2 i f hf
  rw [hc] at h1
  have h2 : (cs.drop f.offset).take 1 = [c] := by
    have hlt : f.offset < cs.length := (List.getElem?_eq_some_iff.1 hcs).1
    rw [List.drop_eq_getElem_cons hlt, List.take_succ_cons, List.take_zero]
    rw [List.getElem?_eq_getElem hlt] at hcs
    cases hcs
    rfl
  rwa [h2] at h1
theorem flatten_get : ∀ {css : List (List Value)}, 0 < n → (∀ c ∈ css, c.length = n) → ∀ j, css.flatten[j]? = (css[j / n]?).bind (fun c => c[j % n]?)
  | [], _, _, j => by simp
  | c :: css, h0, h, j => by
    have hc := h c (List.mem_cons_self ..)
    simp only [List.flatten_cons]
    rcases Nat.lt_or_ge j n with hj | hj
    · rw [List.getElem?_append_left (by omega), Nat.div_eq_of_lt hj, Nat.mod_eq_of_lt hj]
      simp
    · rw [List.getElem?_append_right (by omega), hc, flatten_get h0 (fun c' h' => h c' (List.mem_cons_of_mem _ h')) (j - n)]
      have e1 : j / n = (j - n) / n + 1 := by
        conv => lhs; rw [show j = (j - n) + n by omega]
        exact Nat.add_div_right _ h0
      have e2 : j % n = (j - n) % n := by
        conv => lhs; rw [show j = (j - n) + n by omega]
        exact Nat.add_mod_right _ _
      rw [e1, e2]
      simp
theorem flatten_len : ∀ {css : List (List Value)}, (∀ c ∈ css, c.length = n) → css.flatten.length = css.length * n
  | [], _ => by simp
  | c :: css, h => by
    have := h c (List.mem_cons_self ..)
    have := flatten_len (css := css) (fun c' h' => h c' (List.mem_cons_of_mem _ h'))
    simp only [List.flatten_cons, List.length_append, List.length_cons, Nat.add_mul, Nat.one_mul]
    omega
theorem cells_get {base : Nat} {a : Addr} {c : List Value} (h : W.cells? base a n = some c) : c.length = n ∧ ∀ r u, c[r]? = some u → W.cell? (a.add r) = some u := by
  unfold World.cells? at h
  split at h
  · have hl := mapM_some_length h
    simp only [List.length_range] at hl
    refine ⟨hl, fun r u hr => ?_⟩
    have hlt : r < n := by rw [← hl]; exact (List.getElem?_eq_some_iff.1 hr).1
    have := mapM_some_get h r r (by simp [hlt])
    rw [this, hr]
  · cases h
theorem add_plain (g o k : Nat) : (⟨g, o, none⟩ : Addr).add k = ⟨g, o + k, none⟩ := by
  unfold Addr.add
  split
  · rename_i h; subst h; rfl
  · rfl
theorem arg_slice (ht : P.underlying t = some (.slice e)) (hn : P.cellsOf e = n) (h0 : 0 < n) (h : Arg P W t cs) :
    ∃ v, ∃ css : List (List Value), cs = [v] ∧ RdSl [Base W] n v css.length css.flatten ∧ css.length * P.bytesOf e ≤ reachBytes ∧ ∀ c ∈ css, c.length = n ∧ Arg P W e c := by
  subst hn
  obtain ⟨H, enc, base, sp, held, fuel, x, h1, h2⟩ := h
  rcases DataW.trod_slice ht h1 with ⟨rfl, rfl⟩ | ⟨a, len, cap, elems, rest, m, rfl, rfl, rfl, hb, hl, hm, hlen, hel, _, _⟩
  · exact ⟨_, [], rfl, RdSl.nil _ _, by simp, fun c hc => by simp at hc⟩
  · have hex : ∀ i, i < len → ∃ c y, W.cells? base (a.add (i * P.cellsOf e)) (P.cellsOf e) = some c ∧ DataW.trod enc P W base sp held m e c = some y ∧ elems[i]? = some y := fun i hi => by
      have h3 := hel i hi
      rw [List.getElem?_eq_getElem (by omega)] at h3
      cases hc : W.cells? base (a.add (i * P.cellsOf e)) (P.cellsOf e) with
      | none => rw [hc] at h3; cases h3
      | some c => rw [hc] at h3; exact ⟨c, _, rfl, h3, List.getElem?_eq_getElem (by omega)⟩
    have hcss : ∀ c ∈ (List.range len).map (fun i => (W.cells? base (a.add (i * P.cellsOf e)) (P.cellsOf e)).getD []), ∃ i, i < len ∧ W.cells? base (a.add (i * P.cellsOf e)) (P.cellsOf e) = some c := fun c hc => by
      obtain ⟨i, hi, rfl⟩ := List.mem_map.1 hc
      obtain ⟨c', y, h3, _⟩ := hex i (List.mem_range.1 hi)
      exact ⟨i, List.mem_range.1 hi, by rw [h3]; rfl⟩
    refine ⟨_, (List.range len).map (fun i => (W.cells? base (a.add (i * P.cellsOf e)) (P.cellsOf e)).getD []), rfl, ?_, ?_, fun c hc => ?_⟩
    · intro hh hx
      have hlens : ∀ c ∈ (List.range len).map (fun i => (W.cells? base (a.add (i * P.cellsOf e)) (P.cellsOf e)).getD []), c.length = P.cellsOf e := fun c hc => by
        obtain ⟨i, hi, h3⟩ := hcss c hc
        exact (cells_get h3).1
      refine ⟨flatten_len hlens, some a, cap, by simp, by simpa using hl, hm, fun h => by simp at h, fun j u hj => ?_⟩
      rw [flatten_get h0 hlens] at hj
      simp only [Option.bind_eq_some_iff] at hj
      obtain ⟨c, hc1, hc2⟩ := hj
      simp only [List.getElem?_map, Option.map_eq_some_iff] at hc1
      obtain ⟨i, hi, rfl⟩ := hc1
      have hi' : i = j / P.cellsOf e ∧ i < len := by
        have h8 := (List.getElem?_eq_some_iff.1 hi).1
        simp only [List.length_range] at h8
        rw [List.getElem?_range h8] at hi
        cases hi
        exact ⟨rfl, h8⟩
      obtain ⟨c', y, h3, _⟩ := hex i hi'.2
      rw [h3] at hc2
      have h4 := (cells_get h3).2 _ _ hc2
      obtain ⟨c0, y0, h30, _⟩ := hex 0 (by omega)
      have h40 := (cells_get h30).2 0 _ (List.getElem?_eq_getElem (by rw [(cells_get h30).1]; exact h0))
      obtain ⟨g, o, sp'⟩ := a
      have hsp : sp' = none := by
        cases sp' with
        | none => rfl
        | some s =>
          rw [cell_hp] at h40
          unfold Heap.cell at h40
          simp only [Nat.zero_mul, Addr.add, if_pos, Option.isSome_some] at h40
          split at h40 <;> cases h40
      subst hsp
      have h5 : ((⟨g, o, none⟩ : Addr).add (i * P.cellsOf e)).add (j % P.cellsOf e) = ⟨g, o + j, none⟩ := by
        have : i * P.cellsOf e + j % P.cellsOf e = j := by rw [hi'.1]; exact Nat.div_add_mod' j _
        rw [add_plain, add_plain, Nat.add_assoc, this]
      rw [h5] at h4
      exact ⟨g, o, rfl, Rd.base .zero h4 hh hx⟩
    · simp only [List.length_map, List.length_range]
      have := h2 ((elems.length + rest.length) * P.bytesOf e) (by simp [DataW.weights, ht])
      have h3 : len * P.bytesOf e ≤ (elems.length + rest.length) * P.bytesOf e := Nat.mul_le_mul_right _ (by omega)
      omega
    · obtain ⟨i, hi, h3⟩ := hcss c hc
      obtain ⟨c', y, h4, h5, h6⟩ := hex i hi
      rw [h3] at h4
      cases h4
      refine ⟨(cells_get h3).1, H, enc, base, sp, held, m, y, h5, fun k hk => h2 k ?_⟩
      simp only [DataW.weights, ht, List.mem_cons, List.mem_append]
      refine Or.inr (Or.inl ?_)
      have hmem : ∀ {l : List (DataW H × List MemPlace)} {y : DataW H × List MemPlace} {k : Nat}, y ∈ l → k ∈ y.1.weights P e → k ∈ DataW.weightsAll P e (l.map (·.1)) := by
        intro l
        induction l with
        | nil => intro y k h; simp at h
        | cons z l ih =>
          intro y k h hk
          simp only [List.map_cons, DataW.weightsAll, List.mem_append]
          rcases List.mem_cons.1 h with rfl | h
          · exact Or.inl hk
          · exact Or.inr (ih h hk)
      exact hmem (List.mem_of_getElem? h6) hk
theorem lift_list {α : Type} {f : α → List Value} {ok : α → Prop} : ∀ {css : List (List Value)}, (∀ c ∈ css, ∃ a, c = f a ∧ ok a) → ∃ l : List α, css = l.map f ∧ ∀ a ∈ l, ok a
  | [], _ => ⟨[], rfl, fun a h => by simp at h⟩
  | c :: css, h => by
    obtain ⟨a, rfl, ha⟩ := h c (List.mem_cons_self ..)
    obtain ⟨l, rfl, hs⟩ := lift_list (css := css) fun c' h' => h c' (List.mem_cons_of_mem _ h')
    refine ⟨a :: l, rfl, fun b hb => ?_⟩
    rcases List.mem_cons.1 hb with rfl | hb
    · exact ha
    · exact hs b hb
theorem flatten_one {α : Type} (g : α → Value) : ∀ l : List α, (l.map fun a => [g a]).flatten = l.map g
  | [] => rfl
  | a :: l => by simp [flatten_one g l]
/-- A list of bytes. -/
theorem arg_bytes (ht : P.underlying t = some (.slice e)) (he : P.underlying e = some (.int .u8)) (hn : P.cellsOf e = 1) (hb : P.bytesOf e = 1) (h : Arg P W t cs) :
    ∃ v, ∃ l : List UInt8, cs = [v] ∧ RdB [Base W] v l ∧ l.length ≤ reachBytes := by
  obtain ⟨v, css, rfl, h1, h2, h3⟩ := arg_slice ht hn (by omega) h
  obtain ⟨l, rfl, _⟩ := lift_list (α := UInt8) (f := fun b => [u8 b]) (ok := fun _ => True) (css := css) fun c hc => by
    obtain ⟨m, rfl, hm⟩ := arg_int he (h3 c hc).2
    have e1 : IntKind.u8.min = 0 := rfl
    have e2 : IntKind.u8.max = 255 := rfl
    simp only [Lit.wf, Bool.and_eq_true, decide_eq_true_eq] at hm
    refine ⟨UInt8.ofNat m.toNat, ?_, trivial⟩
    have e3 : ((UInt8.ofNat m.toNat).toNat : Int) = m := by
      rw [UInt8.toNat_ofNat']
      omega
    simp only [u8, e3]
  rw [flatten_one] at h1
  simp only [List.length_map, hb] at h1 h2
  exact ⟨v, l, rfl, h1, by omega⟩
/-- A list of numbers. -/
theorem arg_ints {k : IntKind} (ht : P.underlying t = some (.slice e)) (he : P.underlying e = some (.int k)) (hn : P.cellsOf e = 1) (h : Arg P W t cs) :
    ∃ v, ∃ l : List Int, cs = [v] ∧ RdSl [Base W] 1 v l.length (l.map (Value.int k)) ∧ l.length * P.bytesOf e ≤ reachBytes ∧ ∀ m ∈ l, (Lit.int k m).wf = true := by
  obtain ⟨v, css, rfl, h1, h2, h3⟩ := arg_slice ht hn (by omega) h
  obtain ⟨l, rfl, h4⟩ := lift_list (α := Int) (f := fun b => [.int k b]) (ok := fun m => (Lit.int k m).wf = true) (css := css) fun c hc => arg_int he (h3 c hc).2
  rw [flatten_one] at h1
  simp only [List.length_map] at h1 h2
  exact ⟨v, l, rfl, h1, h2, h4⟩
/-- A list of texts. -/
theorem arg_texts {e2 : TypeId} (ht : P.underlying t = some (.slice e)) (hn : P.cellsOf e = 1) (he : P.underlying e = some (.slice e2)) (he2 : P.underlying e2 = some (.int .u8)) (hn2 : P.cellsOf e2 = 1) (hb2 : P.bytesOf e2 = 1) (h : Arg P W t cs) :
    ∃ v, ∃ l : List (Value × List UInt8), cs = [v] ∧ RdSl [Base W] 1 v l.length (l.map (·.1)) ∧ l.length * P.bytesOf e ≤ reachBytes ∧ ∀ a ∈ l, RdB [Base W] a.1 a.2 ∧ a.2.length ≤ reachBytes := by
  obtain ⟨v, css, rfl, h1, h2, h3⟩ := arg_slice ht hn (by omega) h
  obtain ⟨l, rfl, h4⟩ := lift_list (α := Value × List UInt8) (f := fun a => [a.1]) (ok := fun a => RdB [Base W] a.1 a.2 ∧ a.2.length ≤ reachBytes) (css := css) fun c hc => by
    obtain ⟨v, l, h5, h6, h7⟩ := arg_bytes he he2 hn2 hb2 (h3 c hc).2
    exact ⟨(v, l), h5, h6, h7⟩
  rw [flatten_one] at h1
  simp only [List.length_map] at h1 h2
  exact ⟨v, l, rfl, h1, h2, h4⟩
/-- From a row: an argument. -/
theorem arg_of {H : Type} {enc : TypeId × Value → H} {v : Value} {d : DataW H} {q : List MemPlace} {base : Nat} {sp : Nat → Bool} {held : Bool} (h : DataW.Trod enc P W base sp held t v d q) (hw : ∀ m ∈ d.weights P t, m ≤ reachBytes) : Arg P W t v.cells.toList := by
  obtain ⟨fuel, hf⟩ := h
  exact ⟨H, enc, base, sp, held, fuel, _, hf, hw⟩
/-- An argument: it reads, and is a value of its type. -/
def ArgV (P : Program) (W : World) (t : TypeId) (v : Value) : Prop := (∃ base, Value.okWide P W .any base t v) ∧ Arg P W t v.cells.toList
def Args (P : Program) (W : World) : List TypeId → List Value → Prop
  | [], [] => True
  | t :: ts, v :: vs => ArgV P W t v ∧ Args P W ts vs
  | _, _ => False
theorem args_of {H : Type} {enc : TypeId × Value → H} {base b2 : Nat} {sp : Nat → Bool} {held : Bool} : ∀ {ts : List TypeId} {vs : List Value} {ds : List (DataW H)} {q : List MemPlace},
    DataW.TrodAll enc P W base sp held ts vs ds q → (∀ m ∈ DataW.weightsEach P ts ds, m ≤ reachBytes) → (∀ (j : Nat) t v, ts[j]? = some t → vs[j]? = some v → Value.okWide P W .any b2 t v) → Args P W ts vs ∧ ds.length = ts.length
  | [], [], [], _, _, _, _ => ⟨trivial, rfl⟩
  | t :: ts, v :: vs, d :: ds, q, h, hw, hv => by
    obtain ⟨p, q', h1, h2, rfl⟩ := h
    have ih := args_of (ts := ts) (vs := vs) (ds := ds) h2 (fun m hm => hw m (by simp only [DataW.weightsEach, List.mem_append]; exact Or.inr hm)) (fun j t v h3 h4 => hv (j + 1) t v (by simpa using h3) (by simpa using h4))
    exact ⟨⟨⟨⟨b2, hv 0 t v rfl rfl⟩, arg_of h1 (fun m hm => hw m (by simp only [DataW.weightsEach, List.mem_append]; exact Or.inl hm))⟩, ih.1⟩, by simp [ih.2]⟩
  | [], [], _ :: _, _, h, _, _ => h.elim
  | [], _ :: _, _, _, h, _, _ => h.elim
  | _ :: _, [], _, _, h, _, _ => h.elim
  | _ :: _, _ :: _, [], _, h, _, _ => h.elim
theorem argv_int {k : IntKind} {v : Value} (ht : P.underlying t = some (.int k)) (h : ArgV P W t v) : ∃ m, v = .int k m ∧ (Lit.int k m).wf = true := by
  obtain ⟨⟨b, h1⟩, h2⟩ := h
  obtain ⟨n, rfl⟩ := Go.WideShapes.okWide_int ht h1
  obtain ⟨m, h3, h4⟩ := arg_int ht h2
  simp [Value.cells] at h3
  subst h3
  exact ⟨_, rfl, h4⟩
theorem argv_bool {v : Value} (ht : P.underlying t = some .bool) (h : ArgV P W t v) : ∃ b, v = .bool b := by
  obtain ⟨⟨b, h1⟩, h2⟩ := h
  exact Go.WideShapes.okWide_bool ht h1
theorem argv_slice {v : Value} (ht : P.underlying t = some (.slice e)) (h : ArgV P W t v) : Arg P W t [v] := by
  obtain ⟨⟨b, h1⟩, h2⟩ := h
  obtain ⟨a, l, c, rfl⟩ := Go.WideShapes.okWide_slice ht h1
  simpa [Value.cells] using h2
theorem argv_string {v : Value} (ht : P.underlying t = some .string) (h : ArgV P W t v) : ∃ l : List UInt8, v = .string (str l) ∧ l.length ≤ reachBytes := by
  obtain ⟨⟨b, h1⟩, h2⟩ := h
  obtain ⟨s, rfl⟩ := Go.WideShapes.okWide_string ht h1
  obtain ⟨l, h3, h4⟩ := arg_string ht h2
  simp [Value.cells] at h3
  subst h3
  exact ⟨_, rfl, h4⟩
/-- A row 'true, and the arguments read as they did', from a contract for all arguments that read. -/
theorem row_lifted {H : Type} {enc : TypeId × Value → H} {a : Assume} {C : Checked} {os : Os} {f : FuncId} {fn : Func} {s : ChangeSpec} {conds : List PathCond} {apart fresh handsOn : Bool} {tb : TypeId}
    (own : ownKnob C.prog.godebug = none) (started : os.Started) (noInit : C.prog.inits.idxOf? f = none) (hfn : C.prog.funcs[f]? = some fn)
    (witness : ∃ (w : World) (tape : Tape) (i : Input), w.os = os ∧ (w.forCall tape i).Shaped C.prog ∧ i.vars = [] ∧ Input.okWide C.prog (w.forCall tape i) .any w.heap.size f i ∧
      s.pre6 enc C.prog fn conds apart (w.forCall tape i).memory i.args ∧ a.holds C.prog (lone (Frame.enter C.prog f i.args .normal) [] (w.forCall tape i)))
    (hv : s.vars = []) (hvt : s.plain.varTypes C.prog = []) (hspec : ∀ ds : List (DataW H), ds.length = fn.params.toList.length → s.fn H ds = { results := [.lit (.bool true)], args := ds })
    (hres : fn.resultTypes = #[tb]) (hbool : C.prog.underlying tb = some .bool) (hl : laidOutB C.prog = true) (hr : ∀ t ∈ fn.params.toList, C.prog.readableRec t = true ∧ t < C.prog.types.size)
    (walk : ∀ (W : World) (vs : List Value), Args C.prog W fn.params.toList vs → Calls C.prog f vs.toArray W fun e w' => e = .returned (.bool true) ∧ Below W.heap.size W w') :
    ReturnsInHanded a C os f .any (s.pre6 enc C.prog fn conds apart) (s.post enc C.prog fn apart fresh handsOn false) := by
  refine returnsInHanded_of_change_sized own started noInit hfn witness ?_
  intro W base args ds gs before hval hW _ hwt _
  have hW' := hW
  obtain ⟨p, q, hA, hV, rfl, hfz, hnd⟩ := hW
  rw [hv] at hV
  have hg : gs = [] := by
    cases gs with
    | nil => rfl
    | cons _ _ => exact hV.elim
  subst hg
  rw [hvt, List.append_nil, List.append_nil] at hwt
  obtain ⟨h1, h2⟩ := args_of hA (fun m hm => by simpa using List.all_eq_true.1 hwt m hm) (fun j t v h3 h4 => hval j t v (by simpa using h3) (by simpa using h4))
  refine (walk W args.toList h1).mono fun e W' ⟨he, hgd⟩ => ?_
  subst he
  exact ⟨_, rfl, law_post hW' hv (hspec ds h2) hres hbool hl hr hgd⟩
end
end Go.Bs
