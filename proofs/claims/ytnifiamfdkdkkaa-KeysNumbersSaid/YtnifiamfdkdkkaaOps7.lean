/- Where ways meet again; a list that is moved within itself, and cleared. -/
import Derived.Test.YtnifiamfdkdkkaaOps6
namespace Go.Bs
set_option linter.unusedVariables false
set_option linter.unusedSimpArgs false
class MapT (P : Program) (t : TypeId) : Prop where
  und : ∃ kt et, P.underlying t = some (.map kt et) ∧ P.underlying kt = some (.int .i64)
section
variable {P : Program} {N : Fr} {Q : Goal} {σ : Env} {e : World} {L : List Res} {all : Array Oper} {rest : List Oper}
variable {d : Nat} {op : Op} {ty : TypeId} {pos : String} {af : Array Edge} {gd : Option (Nat × Bool)} {K : Env → List Res → Prop} {x y : Operand} {t t' : TypeId} {k k' : IntKind}
/-- Where ways meet again: 'i' tells what is known there. -/
def MeetQ {ι : Type} (Iσ : ι → Env) (IL : ι → List Res) (IP : ι → Prop) (e : World) : Env → World → Prop := fun σ' w' => ∃ j, IP j ∧ (∀ k v, get (Iσ j) k = some v → get σ' k = some v) ∧ Sat e (IL j) w'
theorem W.meet {c y : Code} {ι : Type} (Iσ : ι → Env) (IL : ι → List Res) (IP : ι → Prop) (h2 : ∀ i, IP i → W P N y Q (Iσ i) e (IL i)) (h1 : W P N c (thenQ (MeetQ Iσ IL IP e) Q) σ e L) : W P N (.seq c y) Q σ e L :=
  W.cut _ h1 fun σ' w ⟨j, hj, hs, hw⟩ a ha => h2 j hj a w (ha.sub hs) hw
theorem ent_ex {α : Sort _} {f : α → Res} {R L' : List Res} (h : ∀ x, Ent (f x :: R) L') : Ent (Ex f :: R) L' := fun hh x => by
  obtain ⟨y, hy⟩ := ex_out x
  exact h y hh hy
theorem ent_pu {p : Prop} {R L' : List Res} (h : p → Ent R L') : Ent (Pu p :: R) L' := fun hh x => h (pu_out x).1 hh (pu_out x).2
theorem sep_ent {p : Prop} {L L1 : List Res} (g : ∀ h, sepL L1 h → p) (f : Ent L L1) : ∀ h, sepL L h → p := fun h x => g h (f h x)
theorem one_nil : ∀ c ∈ ([] : List Value), c.oneCell' = true := fun _ h => by cases h
theorem one_cons {v : Value} {l : List Value} (h : v.oneCell' = true) (h' : ∀ c ∈ l, c.oneCell' = true) : ∀ c ∈ v :: l, c.oneCell' = true := fun c hc => by
  rcases List.mem_cons.1 hc with rfl | hc
  · exact h
  · exact h' c hc
theorem Val.convIntE {s : TypeId} {m : Int} [i : IntT P s k] [j : IntT P t k'] (h : ev σ x = some (.int k m)) (hw : k'.wrap m = m) : Val P N (.convert s t x) ty (.int k' m) σ e L := by
  have := Val.convInt (P := P) (N := N) (ty := ty) (e := e) (L := L) (s := s) (t := t) h
  rwa [hw] at this
/-- Where the walk halts. -/
structure Halt (p : Prop) : Prop where
  go : p
/-- Ways that meet ahead of a region. -/
theorem W.meet27 {id : Nat} {os : Array Oper} {b : Bool} {c z : Code} {ι : Type} (Iσ : ι → Env) (IL : ι → List Res) (IP : ι → Prop) (h2 : ∀ i, IP i → W P N (.seq (.region id os b) z) Q (Iσ i) e (IL i)) (h1 : Halt (W P N c (thenQ (MeetQ Iσ IL IP e) Q) σ e L)) : W P N (.seq c (.seq (.region id os b) z)) Q σ e L := W.meet Iσ IL IP h2 h1.go
theorem W.meetS {id : Nat} {os : Array Oper} {b : Bool} {c y z : Code} {ι : Type} (Iσ : ι → Env) (IL : ι → List Res) (IP : ι → Prop) (h2 : ∀ i, IP i → W P N (.seq (.seq (.region id os b) y) z) Q (Iσ i) e (IL i)) (h1 : Halt (W P N c (thenQ (MeetQ Iσ IL IP e) Q) σ e L)) : W P N (.seq c (.seq (.seq (.region id os b) y) z)) Q σ e L := W.meet Iσ IL IP h2 h1.go
theorem next_seq {y z : Code} {K : Env → World → Prop} {Q : Goal} {σ : Env} {w : World} (hz : ∀ σ' w', K σ' w' → Next P N z Q σ' w') (h : Next P N y (thenQ K Q) σ w) : Next P N (.seq y z) Q σ w := fun a ha =>
  wp_seq (Code.wp_mono (fun x a w q => by
    cases x <;> first | exact q | exact q.elim fun σ' h => hz _ _ h.2 a h.1) (h a ha))
/-- Ways that meet ahead of a region, two pieces of code on. -/
theorem W.meetB {id : Nat} {os : Array Oper} {d : Bool} {a b z : Code} {ι : Type} (Iσ : ι → Env) (IL : ι → List Res) (IP : ι → Prop) (h2 : ∀ i, IP i → W P N (.seq (.region id os d) z) Q (Iσ i) e (IL i))
    (h1 : Halt (W P N a (thenQ (Next P N b (thenQ (MeetQ Iσ IL IP e) Q)) Q) σ e L)) : W P N (.seq a (.seq b (.seq (.region id os d) z))) Q σ e L :=
  W.seq (W.mono h1.go fun x σ w q => by
    cases x <;> first | exact q | exact next_seq (fun σ' w' ⟨j, hj, hs, hw⟩ a ha => h2 j hj a w' (ha.sub hs) hw) q)
/-- Three pieces on. -/
theorem W.meetC {id : Nat} {os : Array Oper} {d : Bool} {a b c z : Code} {ι : Type} (Iσ : ι → Env) (IL : ι → List Res) (IP : ι → Prop) (h2 : ∀ i, IP i → W P N (.seq (.region id os d) z) Q (Iσ i) e (IL i))
    (h1 : Halt (W P N a (thenQ (Next P N b (thenQ (Next P N c (thenQ (MeetQ Iσ IL IP e) Q)) Q)) Q) σ e L)) : W P N (.seq a (.seq b (.seq c (.seq (.region id os d) z)))) Q σ e L :=
  W.seq (W.mono h1.go fun x σ w q => by
    cases x <;> first | exact q | exact next_seq (fun σ' w' q' => next_seq (fun σ' w' ⟨j, hj, hs, hw⟩ a ha => h2 j hj a w' (ha.sub hs) hw) q') q)
theorem Fin.meet {ι : Type} {Iσ : ι → Env} {IL : ι → List Res} {IP : ι → Prop} (j : ι) (hj : IP j) (hσ : ∀ k v, get (Iσ j) k = some v → get σ k = some v) (hL : Ent L (IL j)) :
    Fin (thenQ (MeetQ Iσ IL IP e) Q) .normal σ e L := fun _ hs => ⟨j, hj, hσ, hs.ent hL⟩

/-- An owner's block, a part of it written. -/
theorem Sat.setPart {g c kk nn o : Nat} {E : TypeId} {xs ys cur : List Value} {R : List Res} {w : World} (hs : Sat e (Blk g cur E (0, 0) :: R) w) (hl : o + ys.length ≤ cur.length) :
    Sat e (Blk g (cur.take o ++ ys ++ cur.drop (o + ys.length)) E (0, 0) :: R) (w.setRow g (cur.take o ++ ys ++ cur.drop (o + ys.length)).toArray) := by
  have hg : w.heap[g]? = some (.cells cur.toArray E (0, 0)) := by
    obtain ⟨h1', h2', _, b', _, hA', _⟩ := hs.2.2.2
    exact b' g _ hA'
  refine hs.change rfl rfl rfl fun h1' hle hA' => ?_
  refine ⟨fun b => if b = g then some (.cells (cur.take o ++ ys ++ cur.drop (o + ys.length)).toArray E (0, 0)) else none, ?_, by simp [Blk, Ob], ?_, ?_⟩
  · intro b o' hb
    by_cases eb : b = g
    · subst eb; simp only [if_true] at hb; rw [← hb]; exact setRow_heap w b cur.toArray _ E _ hg
    · simp [eb] at hb
  · intro b o' hb hn
    by_cases eb : b = g
    · subst eb; rw [show h1' b = _ from hA'] at hn; cases hn
    · simp [eb] at hb
  · intro b hn o' ho
    have : b ≠ g := by rintro rfl; rw [show h1' b = _ from hA'] at hn; cases hn
    exact (setRow_other w g b _ this).trans ho
theorem take_part {α : Type} (cur ys : List α) (o m : Nat) (h : o + ys.length ≤ m) (h2 : m ≤ cur.length) : (cur.take o ++ ys ++ cur.drop (o + ys.length)).take m = (cur.take m).take o ++ ys ++ (cur.take m).drop (o + ys.length) := by
  rw [List.take_take, Nat.min_eq_left (by omega), List.take_append, List.take_of_length_le (by simp; omega)]
  congr 1
  rw [List.drop_take]
  congr 1
  simp; omega
/-- A part of a list is moved to the left, within the list. -/
theorem Do.appendIn {el n b g c kk i j m : Nat} {z : Value} {ad2 : Option Addr} {c2 : Nat} {xs : List Value} {R : List Res} [s : SlT P t el n] [jj : ElT P el z n b]
    (hx : ev σ x = some (.slice (some ⟨g, 0, none⟩) i c)) (hy : ev σ y = some (.slice ad2 m c2)) (hd : Nat.blt d N.n = true) (p : Pull L (Own el n (.slice (some ⟨g, 0, none⟩) kk c) kk xs) R)
    (hn : Nat.blt 0 n = true) (hij : i ≤ j) (hjm : j + m ≤ kk) (had : m = 0 ∨ ad2 = some ⟨g, j * n, none⟩) (h1 : ∀ c ∈ xs, c.oneCell' = true)
    (kn : K ((d, .slice (some ⟨g, 0, none⟩) (i + m) c) :: σ) (Own el n (.slice (some ⟨g, 0, none⟩) kk c) kk (xs.take (i * n) ++ (xs.drop (j * n)).take (m * n) ++ xs.drop ((i + m) * n)) :: R)) :
    Do P N ⟨some d, .call { callee := .builtin .append, args := #[x, y], argTypes := #[t, t] }, ty, pos, af, gd⟩ K σ e L := fun a w ha hs K' Q' hK => by
  have hs1 := hs.ent p.out
  have hex : ∀ v' w', (Builtin.append_ #[t, t] ty #[.slice (some ⟨g, 0, none⟩) i c, .slice ad2 m c2]).run P w = .ok v' w' → K' (a.put (some d) v') w' →
      Oper.wp P ⟨some d, .call { callee := .builtin .append, args := #[x, y], argTypes := #[t, t] }, ty, pos, af, gd⟩ a w K' Q' := fun v' w' hr hk =>
    upon_ok_do (v := v') (w' := w') (by simp [execOp, resolve, invoke, builtin, ha.ev hx, ha.ev hy, hr]) hk
  have n0 : 0 < n := by rw [← Nat.blt_eq]; exact hn
  obtain ⟨ti, t1, t2, t3, t4⟩ := jj.parts
  subst t3 t4
  obtain ⟨hl, hA⟩ := own_out hs1.2.2.2
  rcases hA with ⟨hv', _⟩ | ⟨g', cap', cur, hv', r1, r2, r3, r4, hB⟩
  · cases hv'
  cases hv'
  have hs2 : Sat e (Blk g cur el (0, 0) :: R) w := ⟨hs.1, hs.2.1, hs.2.2.1, hB⟩
  have hg : w.heap[g]? = some (.cells cur.toArray el (0, 0)) := by
    obtain ⟨h1', h2', _, b', _, hA', _⟩ := hB
    exact b' g _ hA'
  by_cases hm : m = 0
  · subst hm
    refine hex _ w (run_append_none t ty el s w _ i c (by omega) ad2 c2) (hK _ _ _ _ kn (ha.put hd _) ?_)
    rw [Nat.zero_mul, List.take_zero, List.append_nil, Nat.add_zero, List.take_append_drop]
    exact hs1
  · have had' : ad2 = some ⟨g, j * ti.size, none⟩ := by
      rcases had with h | h
      · exact absurd h hm
      · exact h
    subst had'
    have hjk : (j + m) * ti.size ≤ kk * ti.size := Nat.mul_le_mul_right _ hjm
    have hkc : kk * ti.size ≤ c * ti.size := Nat.mul_le_mul_right _ r1
    have hyl : ((xs.drop (j * ti.size)).take (m * ti.size)).length = m * ti.size := by
      rw [Nat.add_mul] at hjk
      simp only [List.length_take, List.length_drop, hl]; omega
    have him : (i + m) * ti.size ≤ kk * ti.size := Nat.mul_le_mul_right _ (by omega)
    have hc2 : ∀ q u, ((xs.drop (j * ti.size)).take (m * ti.size))[q]? = some u → w.cell? ((⟨g, j * ti.size, none⟩ : Addr).add q) = some u := fun q u hq => by
      rw [Addr.add_lit]
      refine (Rd.blk (R := R) (cs := cur) (T := el) (fz := (0, 0)) .zero ?_).at hs2
      rw [List.getElem?_take] at hq
      split at hq
      · rw [List.getElem?_drop, ← r4, List.getElem?_take] at hq
        split at hq
        · rw [nth_eq]; exact hq
        · cases hq
      · cases hq
    have hfit : i * ti.size + ((xs.drop (j * ti.size)).take (m * ti.size)).length ≤ cur.length := by
      rw [hyl, r3, ← Nat.add_mul]; omega
    have hr := run_append_room (P := P) w t ty el ti s.und t1 g i c cur.toArray hg ⟨g, j * ti.size, none⟩ m c2 _ hyl hc2 (fun v hv => h1 v (List.mem_of_mem_drop (List.mem_of_mem_take hv))) (by omega) (by simpa using hfit)
    refine hex _ _ hr (hK _ _ _ _ kn (ha.put hd _) ?_)
    have hs5 := Sat.setPart (c := c) (kk := kk) (nn := ti.size) (xs := xs) (o := i * ti.size) (ys := (xs.drop (j * ti.size)).take (m * ti.size)) hs2 hfit
    have hsz : (cur.take (i * ti.size) ++ (xs.drop (j * ti.size)).take (m * ti.size) ++ cur.drop (i * ti.size + ((xs.drop (j * ti.size)).take (m * ti.size)).length)).length = c * ti.size := by
      simp only [List.length_append, hyl, List.length_take, List.length_drop, r3]
      rw [hyl, r3] at hfit
      omega
    have hin := own_in (E := el) (n := ti.size) (g := g) (R := R) r1 r2 hsz
    rw [take_part _ _ _ _ (by rw [hyl, ← Nat.add_mul]; exact him) (by rw [r3]; exact hkc), r4, hyl, ← Nat.add_mul] at hin
    rw [hyl] at hs5 ⊢
    rw [← Nat.add_mul] at hs5 ⊢
    exact hs5.ent hin
/-- A part of a list is cleared: what stands there is not told. -/
theorem Do.clear {el n g c kk o m cc : Nat} {z : Value} {ad2 : Option Addr} {xs : List Value} {R : List Res} [s : SlT P t el n] [zz : ZeroT P el z]
    (hx : ev σ x = some (.slice ad2 m cc)) (p : Pull L (Own el n (.slice (some ⟨g, 0, none⟩) kk c) kk xs) R)
    (hz : z.cells.size = n) (h1 : ∀ v ∈ z.cells.toList, v.oneCell' = true) (ho : o + m * n ≤ kk * n) (had : m = 0 ∨ ad2 = some ⟨g, o, none⟩)
    (kn : ∀ zs : List Value, zs.length = m * n → K σ (Own el n (.slice (some ⟨g, 0, none⟩) kk c) kk (xs.take o ++ zs ++ xs.drop (o + m * n)) :: R)) :
    Do P N ⟨none, .call { callee := .builtin .clear, args := #[x], argTypes := #[t] }, ty, pos, af, gd⟩ K σ e L := fun a w ha hs K' Q' hK => by
  have hs1 := hs.ent p.out
  have hex : ∀ v' w', (Builtin.clear_ #[t] ty #[.slice ad2 m cc]).run P w = .ok v' w' → K' (a.put none v') w' →
      Oper.wp P ⟨none, .call { callee := .builtin .clear, args := #[x], argTypes := #[t] }, ty, pos, af, gd⟩ a w K' Q' := fun v' w' hr hk =>
    upon_ok_do (v := v') (w' := w') (by simp [execOp, resolve, invoke, builtin, ha.ev hx, hr]) hk
  obtain ⟨hl, hA⟩ := own_out hs1.2.2.2
  rcases hA with ⟨hv', _⟩ | ⟨g', cap', cur, hv', r1, r2, r3, r4, hB⟩
  · cases hv'
  cases hv'
  have hs2 : Sat e (Blk g cur el (0, 0) :: R) w := ⟨hs.1, hs.2.1, hs.2.2.1, hB⟩
  have hg : w.heap[g]? = some (.cells cur.toArray el (0, 0)) := by
    obtain ⟨h1', h2', _, b', _, hA', _⟩ := hB
    exact b' g _ hA'
  by_cases hm : m = 0
  · subst hm
    refine hex (.tuple #[]) w ?_ (hK _ _ _ _ (kn [] (by simp)) ha ?_)
    · cases ad2 <;> simp [Builtin.clear_, run_underlying s.und]
    · rw [Nat.zero_mul, List.append_nil, Nat.add_zero, List.take_append_drop]
      exact hs1
  · have had' : ad2 = some ⟨g, o, none⟩ := by
      rcases had with h | h
      · exact absurd h hm
      · exact h
    subst had'
    have hkc : kk * n ≤ c * n := Nat.mul_le_mul_right _ r1
    have hzl : (Builtin.zeroCells z.cells m).toList.length = m * n := by
      rw [Array.length_toList, size_zeroCells, hz]
    have hz1 : ∀ v ∈ (Builtin.zeroCells z.cells m).toList, v.oneCell' = true := fun v hv => by
      simp only [Builtin.zeroCells, Array.toList_map, List.mem_map, Array.toList_range, List.mem_range] at hv
      obtain ⟨q, hq, rfl⟩ := hv
      have hpos : 0 < z.cells.size := by
        rcases Nat.eq_zero_or_pos z.cells.size with h0 | h0
        · rw [h0] at hq; simp at hq
        · exact h0
      have hlt : q % z.cells.size < z.cells.size := Nat.mod_lt _ hpos
      rw [getElem!_pos z.cells _ hlt]
      exact h1 _ (Array.getElem_mem_toList hlt)
    have hst := run_storeCells_at P g o el (Builtin.zeroCells z.cells m).toList 0 cur.toArray w hg (by rw [hzl, List.size_toArray, r3]; omega) hz1
    simp only [Nat.add_zero] at hst
    obtain ⟨m', rfl⟩ : ∃ m', m = m' + 1 := ⟨m - 1, by omega⟩
    refine hex (.tuple #[]) (w.setRow g (cur.take o ++ (Builtin.zeroCells z.cells (m' + 1)).toList ++ cur.drop (o + (Builtin.zeroCells z.cells (m' + 1)).toList.length)).toArray) ?_ (hK _ _ _ _ (kn _ hzl) ha ?_)
    · simp [Builtin.clear_, run_underlying s.und, zz.run, hst]
    · have hs5 := Sat.setPart (c := c) (kk := kk) (nn := n) (xs := xs) (o := o) (ys := (Builtin.zeroCells z.cells (m' + 1)).toList) hs2 (by rw [hzl, r3]; omega)
      have hsz : (cur.take o ++ (Builtin.zeroCells z.cells (m' + 1)).toList ++ cur.drop (o + (Builtin.zeroCells z.cells (m' + 1)).toList.length)).length = c * n := by
        simp only [List.length_append, hzl, List.length_take, List.length_drop, r3]
        omega
      have hin := own_in (E := el) (n := n) (g := g) (R := R) r1 r2 hsz
      rw [take_part _ _ _ _ (by rw [hzl]; exact ho) (by rw [r3]; exact hkc), r4, hzl] at hin
      rw [hzl] at hs5 ⊢
      exact hs5.ent hin
/-! ### results that lie in memory -/
/-- What lies at a place and behind it. -/
def RdA (L : List Res) (g o : Nat) (cs : List Value) : Prop := ∀ j u, cs[j]? = some u → Rd L ⟨g, o + j, none⟩ u
theorem RdA.tail {A : Res} {L : List Res} {g o : Nat} {cs : List Value} (h : RdA L g o cs) : RdA (A :: L) g o cs := fun j u hj => (h j u hj).tail
theorem RdA.blk {L R : List Res} {g o : Nat} {cs xs : List Value} {T : TypeId} {fz : Nat × Nat} (p : Pull L (Blk g xs T fz) R) (h : ∃ n, (xs.drop o).take n = cs) : RdA L g o cs := fun j u hj => by
  obtain ⟨n, rfl⟩ := h
  refine Rd.blk p ?_
  rw [nth_eq]
  rw [List.getElem?_take] at hj
  split at hj
  · rwa [List.getElem?_drop] at hj
  · cases hj
theorem RdA.whole {L R : List Res} {g : Nat} {cs : List Value} {T : TypeId} {fz : Nat × Nat} (p : Pull L (Blk g cs T fz) R) : RdA L g 0 cs := RdA.blk p ⟨cs.length, by simp⟩
theorem RdA.elem {α : Type} {f : α → List Value} {L : List Res} {nn kk c g o : Nat} {l : List α} {a : α} (r : RdSl L nn (.slice (some ⟨g, o, none⟩) kk c) kk (l.flatMap f)) (hf : ∀ a, (f a).length = nn) {j : Nat} (hj : l[j]? = some a) : RdA L g (o + j * nn) (f a) := fun i u hi => by
  have hlt : i < nn := by rw [← hf a]; exact (List.getElem?_eq_some_iff.1 hi).1
  have key : ∀ (l : List α) (j : Nat), l[j]? = some a → (l.flatMap f)[j * nn + i]? = some u := by
    intro l
    induction l with
    | nil => intro j h; simp at h
    | cons b l ih =>
      intro j h
      rw [List.flatMap_cons]
      cases j with
      | zero =>
        simp at h; subst h
        rw [Nat.zero_mul, Nat.zero_add, List.getElem?_append_left (by rw [hf]; exact hlt)]
        exact hi
      | succ j =>
        simp at h
        rw [List.getElem?_append_right (by rw [hf, Nat.succ_mul]; omega), hf, show (j + 1) * nn + i - nn = j * nn + i by rw [Nat.succ_mul]; omega]
        exact ih j h
  have := RdSl.elem r (key l j hj)
  rwa [← Nat.add_assoc] at this
theorem RdA.part {L : List Res} {g o : Nat} {cs : List Value} (h : RdA L g o cs) (k n : Nat) : RdA L g (o + k) ((cs.drop k).take n) := fun j u hj => by
  rw [List.getElem?_take] at hj
  split at hj
  · rw [List.getElem?_drop] at hj
    have := h _ _ hj
    rwa [← Nat.add_assoc] at this
  · cases hj
theorem RdA.at0 {L : List Res} {g o k : Nat} {cs : List Value} {v : Value} (h : RdA L g o cs) (hk : cs[k]? = some v) : Rd L ⟨g, o + k, none⟩ v := h k v hk
theorem Val.loadAggR {n g o : Nat} {cs : List Value} [i : AggT P t n] (h : ev σ x = some (.pointer (some ⟨g, o, none⟩))) (r : RdA L g o cs) (hl : cs.length = n) : Val P N (.load t x) ty (.agg cs.toArray) σ e L := Val.loadAgg h hl r
theorem O.loadAggR {n g o : Nat} {cs : List Value} [i : AggT P t n] (h : ev σ x = some (.pointer (some ⟨g, o, none⟩))) (r : RdA L g o cs) (hl : cs.length = n) (hd : Nat.blt d N.n = true) (kk : O P N all rest Q ((d, .agg cs.toArray) :: σ) e L) :
    O P N all (⟨some d, .load t x, ty, pos, af, none⟩ :: rest) Q σ e L := O.val _ (Val.loadAgg h hl r) hd kk
inductive RetL (P : Program) (σ : Env) (L : List Res) : List ResultVar → List Value → Prop
  | nil : RetL P σ L [] []
  | tmp {t : Nat} {v : Value} {r : List ResultVar} {vs : List Value} : get σ t = some v → RetL P σ L r vs → RetL P σ L (.tmp t :: r) (v :: vs)
  | agg {b t n g o : Nat} {cs : List Value} {r : List ResultVar} {vs : List Value} [i : AggT P t n] : get σ b = some (.pointer (some ⟨g, o, none⟩)) → RdA L g o cs → cs.length = n → RetL P σ L r vs → RetL P σ L (.cell b t :: r) (.agg cs.toArray :: vs)
  | cell {b t : Nat} {p : Addr} {v : Value} {r : List ResultVar} {vs : List Value} [i : PlainT P t] : get σ b = some (.pointer (some p)) → Rd L p v → RetL P σ L r vs → RetL P σ L (.cell b t :: r) (v :: vs)
theorem run_retl {w : World} {a : Act} (h : Has N σ a) (hs : Sat e L w) {rs : List ResultVar} {vs : List Value} (r : RetL P σ L rs vs) : (rs.mapM (resOf a.tmps)).run P w = .ok vs w := by
  induction r with
  | nil => simp
  | tmp hg _ ih =>
    rename_i t v r vs _
    have h1 : a.tmps.getD t undef = v := by simp [h.val t v hg]
    simp only [List.mapM_cons, Sem.run_bind, resOf, Sem.run_pure, Result.andThen_ok, h1]
    rw [ih]; simp
  | agg hg hr hl _ ih =>
    rename_i b t n g o cs r vs i _
    have h1 : a.tmps.getD b undef = .pointer (some ⟨g, o, none⟩) := by simp [h.val b _ hg]
    have h2 := run_loadCells_list (P := P) w ⟨g, o, none⟩ cs (fun j u hj => by rw [Addr.add_lit]; exact (hr j u hj).at hs)
    rw [hl] at h2
    simp only [List.mapM_cons, Sem.run_bind, resOf, h1]
    simp [asAddr, loadVar, i.ag, i.siz, h2, ih]
  | cell hg hr _ ih =>
    rename_i b t p v r vs i _
    have h1 : a.tmps.getD b undef = .pointer (some p) := by simp [h.val b _ hg]
    have h2 := hr.at hs
    simp only [List.mapM_cons, Sem.run_bind, resOf, h1]
    simp [asAddr, loadVar, i.ag, h2, ih]
/-- The end of a function whose results may lie in memory. -/
def BodyQC (P : Program) (N : Fr) (rs : Array ResultVar) (R : Ending → World → Prop) : Goal := fun x σ w =>
  match x with
  | .normal | .ret => ∃ vs, (∀ a, Has N σ a → (rs.toList.mapM (resOf a.tmps)).run P w = .ok vs w) ∧ R (.returned (tup vs)) w
  | _ => False
theorem run_resultsC {w : World} {a : Act} {fn : Func} {vs : List Value} (h1 : (fn.results.toList.mapM (resOf a.tmps)).run P w = .ok vs w) : (results fn a.tmps).run P w = .ok (tup vs) w := by
  have h0 : results fn a.tmps = (fn.results.mapM (resOf a.tmps)) >>= fun vs => pure (if h : vs.size = 1 then vs[0] else .tuple vs) := by
    unfold results
    congr 1
  have h1 : (fn.results.mapM (resOf a.tmps)).run P w = .ok vs.toArray w := by
    rw [Array.mapM_eq_mapM_toList, Sem.run_map, h1]
    rfl
  rw [h0, Sem.run_bind, h1]
  simp only [Result.andThen_ok, Sem.run_pure]
  congr 1
  match vs with
  | [] => rfl
  | [v] => rfl
  | _ :: _ :: _ => simp [tup]
theorem Ct.enterC {N : Nat} {f : FuncId} {fn : Func} {c : Code} {rs : Array ResultVar} {args : List Value} {Post : Value → List Res → Prop}
    (hf : P.funcs[f]? = some fn) (hb : fn.body = some c) (hN : fn.ntmps = N) (hr : fn.results = rs) (hle : Nat.ble args.length N = true)
    (h : W P ⟨N, []⟩ c (BodyQC P ⟨N, []⟩ rs (CtPost e Post)) (argsEnv 0 args) e L) : Ct P f args.toArray e L Post := by
  subst hN hr
  intro w hs
  have hle := Nat.le_of_ble_eq_true hle
  refine calls_of_wp hf hb (Code.wp_mono ?_ (h { tmps := args.toArray ++ Array.replicate (fn.ntmps - args.toArray.size) undef, defers := [] } w ⟨by simp; omega, rfl, fun k v hk => ?_⟩ hs))
  · intro x a w q
    cases x with
    | normal => obtain ⟨σ', h1, vs, h2, h3⟩ := q; exact ⟨h1.defers, _, run_resultsC (h2 a h1), h3⟩
    | ret => obtain ⟨σ', h1, vs, h2, h3⟩ := q; exact ⟨h1.defers, _, run_resultsC (h2 a h1), h3⟩
    | panic _ => exact q.elim
    | outgrown => exact q.elim
    | exit _ => obtain ⟨_, _, h2⟩ := q; exact h2.elim
    | goto _ => obtain ⟨_, _, h2⟩ := q; exact h2.elim
  · have h1 := (get_argsEnv args 0 k v hk).2
    have hlt : k < args.length := (List.getElem?_eq_some_iff.1 h1).1
    rw [Array.getElem?_append_left (by simpa using hlt)]
    simpa using h1
theorem Fin.retC {rs : Array ResultVar} {Post : Value → List Res → Prop} {vs : List Value} (hv : RetL P σ L rs.toList vs) (h : ∃ L', Ent L L' ∧ Post (tup vs) L') : Fin (BodyQC P N rs (CtPost e Post)) .ret σ e L :=
  let ⟨L', hL, hp⟩ := h; fun _ hs => ⟨vs, fun a ha => run_retl ha hs hv, tup vs, L', rfl, hp, hs.ent hL⟩
theorem Fin.stopC {rs : Array ResultVar} {Post : Value → List Res → Prop} {vs : List Value} (hv : RetL P σ L rs.toList vs) (h : ∃ L', Ent L L' ∧ Post (tup vs) L') : Fin (BodyQC P N rs (CtPost e Post)) .normal σ e L :=
  let ⟨L', hL, hp⟩ := h; fun _ hs => ⟨vs, fun a ha => run_retl ha hs hv, tup vs, L', rfl, hp, hs.ent hL⟩
theorem Val.slice3 {x y z u : Operand} {el n l c : Nat} {ad : Option Addr} {k k' k2 : IntKind} {i j m : Int} [s : SlT P t el n] (h : ev σ x = some (.slice ad l c)) (h1 : ev σ y = some (.int k i)) (h2 : ev σ z = some (.int k' j)) (h4 : ev σ u = some (.int k2 m)) (h0 : 0 ≤ i) (hl : i ≤ j) (hj : j ≤ m) (hm : m ≤ c) :
    Val P N (.slice t x (some y) (some z) (some u)) ty (.slice (cutAt ad m.toNat i.toNat n) (j.toNat - i.toNat) (m.toNat - i.toNat)) σ e L := fun a w ha _ _ _ _ _ => by
  have e1 : ((j.toNat : Nat) : Int) = j := Int.toNat_of_nonneg (by omega)
  have e2 : ((m.toNat : Nat) : Int) = m := Int.toNat_of_nonneg (by omega)
  have h3 : 0 ≤ j := by omega
  have h5 : 0 ≤ m := by omega
  simp only [execOp, ha.ev h, ha.ev h1, ha.ev h2, ha.ev h4, Option.map_none, Option.map_some]
  simp [Instr.sliceAt, Instr.slice, run_underlying s.und, Instr.sliceBounds, Instr.sliceBound, asIntOf, h0, hl, s.siz, cutAt, h3, hj, e1, e2, h5, hm]
end
end Go.Bs
