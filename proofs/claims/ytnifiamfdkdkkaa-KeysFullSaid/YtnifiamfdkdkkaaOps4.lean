/- Rules for append and for conversions. -/
import Derived.Test.YtnifiamfdkdkkaaOps3
namespace Go.Bs
set_option linter.unusedVariables false
set_option linter.unusedSimpArgs false

def u8 (c : UInt8) : Value := .int .u8 (c.toNat : Int)
def str (l : List UInt8) : ByteArray := ⟨l.toArray⟩
theorem strOfNums_u8 (l : List UInt8) : strOfNums (l.map fun c => (c.toNat : Int)) = str l := by
  unfold strOfNums str
  congr 1
  simp only [List.map_map]
  rw [show ((fun n : Int => UInt8.ofNat n.toNat) ∘ fun c : UInt8 => (c.toNat : Int)) = id from by funext c; simp]
  simp
theorem toList_str (l : List UInt8) : (str l).toList = l := by
  exact ByteArray.toList_mk l
theorem size_str (l : List UInt8) : (str l).size = l.length := by simp [str, ByteArray.size]

section
variable {P : Program} {N : Fr} {Q : Goal} {σ : Env} {e : World} {L : List Res} {all : Array Oper} {rest : List Oper}
variable {d : Nat} {op : Op} {ty : TypeId} {pos : String} {af : Array Edge} {gd : Option (Nat × Bool)} {K : Env → List Res → Prop}

/-- A slice of bytes that reads as 'l'. -/
def RdB (L : List Res) (v : Value) (l : List UInt8) : Prop := RdSl L 1 v l.length (l.map u8)
theorem RdB.ent {L' : List Res} {v : Value} {l : List UInt8} (h : RdB L' v l) (f : Ent L L') : RdB L v l := RdSl.ent h f
theorem RdB.tail {A : Res} {v : Value} {l : List UInt8} (h : RdB L v l) : RdB (A :: L) v l := RdSl.tail h
theorem RdB.elem {g o k c j : Nat} {l : List UInt8} {b : UInt8} (r : RdB L (.slice (some ⟨g, o, none⟩) k c) l) (hj : l[j]? = some b) : Rd L ⟨g, o + j, none⟩ (u8 b) := RdSl.elem r (by simp [hj])
theorem RdB.nil (L : List Res) : RdB L (.slice none 0 0) [] := RdSl.nil L 1

theorem RdSl.cast {n k : Nat} {v : Value} {xs ys : List Value} (h : RdSl L n v k xs) (e : xs = ys) : RdSl L n v k ys := e ▸ h
/-- A block that is read as a whole. -/
theorem RdSl.blk {R : List Res} {g k : Nat} {xs : List Value} {T : TypeId} {fz : Nat × Nat} (p : Pull L (Blk g xs T fz) R) (hk : xs.length = k) (hm : k ≤ maxLen) : RdSl L 1 (.slice (some ⟨g, 0, none⟩) k k) k xs := fun h x =>
  ⟨by omega, some ⟨g, 0, none⟩, k, rfl, Nat.le_refl _, hm, (fun e => by cases e), fun j u hj => ⟨g, 0, rfl, by
    rw [Nat.zero_add]
    exact Rd.blk p (by rw [nth_eq]; exact hj) h x⟩⟩
theorem run_bytes {t T el n : Nat} {v : Value} {l : List UInt8} [i : SlT P t el n] [j : IntT P el .u8] [s : StrT P T] {w : World} (hs : Sat e L w) (r : RdB L v l) : (convert t T v).run P w = .ok (.string (str l)) w := by
  obtain ⟨h1, ad, cap, rfl, h3, h4, h5, h6⟩ := r _ hs.2.2.2
  cases l with
  | nil =>
    cases ad with
    | none =>
      simp [convert, run_underlying i.und, run_underlying j.und, run_underlying s.und, Conv.bytesToString]
      rfl
    | some a =>
      rw [run_convert_bytes_string w t T el (some a) _ _ i.und j.und s.und]
      have := run_bytesToString (P := P) w a 0 cap [] (by simp [loadCells, loadCellsFrom])
      simp at this ⊢
      rw [this]
      rfl
  | cons c l =>
    obtain ⟨g, o, e1, _⟩ := h6 0 (u8 c) (by simp)
    subst e1
    have := run_convert_bytes_arg (P := P) w t el i.und j.und g o (c :: l).length cap ((c :: l).map fun c => (c.toNat : Int)) (by simp) (fun k hk => by
      obtain ⟨g', o', e1, e2⟩ := h6 k (u8 (c :: l)[k]) (by simp only [List.getElem?_map]; rw [List.getElem?_eq_getElem hk]; rfl)
      cases e1
      rw [show w.cell? ⟨g, o + k, none⟩ = some (u8 (c :: l)[k]) from e2]
      simp only [u8, List.getD_eq_getElem?_getD, List.getElem?_map, List.getElem?_eq_getElem hk, Option.map_some, Option.getD_some]) T s.und
    rw [strOfNums_u8] at this
    exact this
theorem Val.bytes {t T el n : Nat} {x : Operand} {v : Value} {l : List UInt8} [i : SlT P t el n] [j : IntT P el .u8] [s : StrT P T] (h : ev σ x = some v) (r : RdB L v l) : Val P N (.convert t T x) ty (.string (str l)) σ e L := fun a w ha hs _ _ _ _ => by
  simp [execOp, ha.ev h, run_bytes hs r]
theorem Val.eqlStr {t t' : TypeId} {x y : Operand} {s u : List UInt8} (h : ev σ x = some (.string (str s))) (h1 : ev σ y = some (.string (str u))) : Val P N (.binOp .eql t x y t') ty (.bool (decide (s = u))) σ e L := by
  have := Val.eqlS (P := P) (N := N) (ty := ty) (e := e) (L := L) (t := t) (t' := t') h h1
  rw [toList_str, toList_str] at this
  by_cases hh : s = u
  · simpa [hh] using this
  · have e1 : (s == u) = false := by simpa using hh
    rw [e1] at this; simpa [hh] using this
theorem Val.neqStr {t t' : TypeId} {x y : Operand} {s u : List UInt8} (h : ev σ x = some (.string (str s))) (h1 : ev σ y = some (.string (str u))) : Val P N (.binOp .neq t x y t') ty (.bool (decide (s ≠ u))) σ e L := by
  have := Val.neqS (P := P) (N := N) (ty := ty) (e := e) (L := L) (t := t) (t' := t') h h1
  rw [toList_str, toList_str] at this
  by_cases hh : s = u
  · simpa [hh] using this
  · have e1 : (s == u) = false := by simpa using hh
    rw [e1] at this; simpa [hh] using this

theorem RdSl.cells {n k : Nat} {v : Value} {xs : List Value} (r : RdSl L n v k xs) {w : World} (hs : Sat e L w) : ∃ ad cap, v = .slice ad k cap ∧ (xs ≠ [] → ∃ a, ad = some a ∧ ∀ j u, xs[j]? = some u → w.cell? (a.add j) = some u) := by
  obtain ⟨h1, ad, cap, rfl, h3, h4, h5, h6⟩ := r _ hs.2.2.2
  refine ⟨ad, cap, rfl, fun hne => ?_⟩
  cases xs with
  | nil => exact absurd rfl hne
  | cons x l =>
    obtain ⟨g, o, e1, _⟩ := h6 0 x (by simp)
    subst e1
    refine ⟨_, rfl, fun j u hj => ?_⟩
    obtain ⟨g', o', e1, e2⟩ := h6 j u hj
    cases e1
    rw [Addr.add_lit]; exact e2

theorem blk_arr (g : Nat) (cs : Array Value) (T : TypeId) (R : List Res) : Ent (Ob g (.cells cs T) :: R) (Blk g cs.toList T (0, 0) :: R) := fun _ x => by
  unfold Blk; simpa using x
theorem run_append_none (t ty el : TypeId) {n : Nat} (i : SlT P t el n) (w : World) (ad : Option Addr) (k c : Nat) (hk : k ≤ c) (ad2 : Option Addr) (c2 : Nat) :
    (Builtin.append_ #[t, t] ty #[.slice ad k c, .slice ad2 0 c2]).run P w = .ok (.slice ad k c) w := by
  simp [Builtin.append_, run_underlying i.und, i.siz, Builtin.lenOf, hk]
  cases ad2 <;> cases ad <;> simp [Builtin.firstCells, loadCells, loadCellsFrom, storeCells]

theorem Do.append {t el n b m k : Nat} {z : Value} {x y : Operand} {v u : Value} {xs ys : List Value} {R : List Res} [i : SlT P t el n] [j : ElT P el z n b]
    (hx : ev σ x = some v) (hy : ev σ y = some u) (hd : Nat.blt d N.n = true) (p : Pull L (Own el n v k xs) R) (r : RdSl R n u m ys) (hn : Nat.blt 0 n = true) (hz : z.cells.size = n) (h1 : ∀ c ∈ ys, c.oneCell' = true)
    (h63 : k + m ≤ maxLen) (hb : (k + m) * b ≤ 140737488355328)
    (kk : ∀ ad c, ((ad = none ∧ c = 0) ↔ v = .slice none 0 0 ∧ m = 0) → K ((d, .slice ad (k + m) c) :: σ) (Own el n (.slice ad (k + m) c) (k + m) (xs ++ ys) :: R)) :
    Do P N ⟨some d, .call { callee := .builtin .append, args := #[x, y], argTypes := #[t, t] }, ty, pos, af, gd⟩ K σ e L := fun a w ha hs K' Q' hK => by
  have hs1 := hs.ent p.out
  have hex : ∀ v' w', (Builtin.append_ #[t, t] ty #[v, u]).run P w = .ok v' w' → K' (a.put (some d) v') w' →
      Oper.wp P ⟨some d, .call { callee := .builtin .append, args := #[x, y], argTypes := #[t, t] }, ty, pos, af, gd⟩ a w K' Q' := fun v' w' hr hk =>
    upon_ok_do (v := v') (w' := w') (by simp [execOp, resolve, invoke, builtin, ha.ev hx, ha.ev hy, hr]) hk
  have n0 : 0 < n := by rw [← Nat.blt_eq]; exact hn
  obtain ⟨ti, t1, t2, t3, t4⟩ := j.parts
  subst t3 t4
  have hsmall : k + m ≤ 9223372036854775807 := by simp only [maxLen] at h63; omega
  obtain ⟨hl, hA⟩ := own_out hs1.2.2.2
  obtain ⟨ad, cap, hu, hcells⟩ := r.cells (hs1.ent (Ent.drop Ent.rfl))
  have hyl := (r _ (hs1.ent (Ent.drop Ent.rfl)).2.2.2).1
  subst hu
  by_cases hm : m = 0
  · subst hm
    have hy0 : ys = [] := List.eq_nil_of_length_eq_zero (by simpa using hyl)
    subst hy0
    have hv : ∃ ad2 c2, v = .slice ad2 k c2 ∧ k ≤ c2 := by
      rcases hA with ⟨hv, hk, _⟩ | ⟨g, cap2, cur, hv, r1, _⟩
      · exact ⟨none, 0, by rw [hv, hk], by omega⟩
      · exact ⟨_, _, hv, r1⟩
    obtain ⟨ad2, c2, hv, hk2⟩ := hv
    subst hv
    refine hex (.slice ad2 k c2) w ?_ ?_
    · exact run_append_none t ty el i w ad2 k c2 hk2 ad cap
    · refine hK _ _ _ _ (kk ad2 c2 ?_) (ha.put hd _) ?_
      · rcases hA with ⟨hv, hk, _⟩ | ⟨g, cap2, cur, hv, r1, _⟩
        · cases hv; simp
        · cases hv; simp
      · rw [List.append_nil, Nat.add_zero]; exact hs1
  · have hne : ys ≠ [] := by
      intro h0; rw [h0] at hyl
      have h2 := Nat.mul_pos (Nat.pos_of_ne_zero hm) n0
      rw [← hyl] at h2; simp at h2
    obtain ⟨a2, rfl, hc2⟩ := hcells hne
    have hml : 0 < m := by omega
    -- a new block: whatever stood there is kept
    have new : ∀ (old : Nat), k ≤ old ∨ old = 0 → old < k + m → ∀ w0 : World, w0.heap = w.heap → w0.os = w.os → w0.tape = w.tape → w0.output = w.output →
        Sat e (Own el ti.size (.slice (some ⟨w.heap.size, 0, none⟩) (k + m) (grownCap w (k + m) old el)) (k + m) (xs ++ ys) :: R)
          (w0.alloc (.cells (xs.toArray ++ ys.toArray ++ Builtin.zeroCells z.cells (grownCap w (k + m) old el - (k + m))) el)) := by
      intro old _ ho w0 e1 e2 e3 e4
      have hge := grownCap_ge w (k + m) old el
      have hcm : grownCap w (k + m) old el ≤ maxLen := grownCap_le_maxLen w (k + m) old el h63
      have hs2 : Sat e R w0 := ⟨by rw [e2]; exact hs.1, by rw [e3]; exact hs.2.1, by rw [e4]; exact hs.2.2.1, by
        have := (hs1.ent (Ent.drop Ent.rfl)).2.2.2
        unfold hp at *; rw [e1]; exact this⟩
      have hs3 : Sat e (Blk _ _ el (0, 0) :: R) _ := (hs2.alloc (.cells (xs.toArray ++ ys.toArray ++ Builtin.zeroCells z.cells (grownCap w (k + m) old el - (k + m))) el)).ent (blk_arr _ _ _ _)
      rw [show w0.heap.size = w.heap.size from by rw [e1]] at hs3
      have hsz : (xs.toArray ++ ys.toArray ++ Builtin.zeroCells z.cells (grownCap w (k + m) old el - (k + m))).toList.length = grownCap w (k + m) old el * ti.size := by
        simp only [Array.length_toList, Array.size_append, List.size_toArray, size_zeroCells, hz, hl, hyl, ← Nat.add_mul]
        congr 1; omega
      have hin := own_in (E := el) (n := ti.size) (g := w.heap.size) (R := R) hge hcm hsz
      have htk : (xs.toArray ++ ys.toArray ++ Builtin.zeroCells z.cells (grownCap w (k + m) old el - (k + m))).toList.take ((k + m) * ti.size) = xs ++ ys := by
        simp only [Array.toList_append, List.append_assoc]
        rw [← List.append_assoc]
        exact List.take_left' (by rw [List.length_append, hl, hyl, Nat.add_mul])
      rw [htk] at hin
      exact hs3.ent hin
    rcases hA with ⟨hv, hk0, hR⟩ | ⟨g, cap2, cur, hv, r1, r2, r3, r4, hB⟩
    · subst hv hk0
      have hx0 : xs = [] := List.eq_nil_of_length_eq_zero (by simpa using hl)
      subst hx0
      have hr := run_append_nil (P := P) w t ty el ti z i.und t1 t2 a2 m cap ys hyl hc2 hml (by omega) (by have hb' := hb; simp only [Nat.zero_add] at hb'; omega)
      have hn1 := new 0 (.inr rfl) (by omega) w.drew rfl rfl rfl rfl
      simp only [Nat.zero_add, List.nil_append, Array.empty_append] at hn1 kk
      exact hex _ _ hr (hK _ _ _ _ (kk _ _ (by simp; omega)) (ha.put hd _) hn1)
    · subst hv
      have hs4 : Sat e (Blk g cur el (0, 0) :: R) w := ⟨hs.1, hs.2.1, hs.2.2.1, hB⟩
      have hg : w.heap[g]? = some (.cells cur.toArray el (0, 0)) := by
        obtain ⟨h1', h2', _, b', _, hA', _⟩ := hB
        exact b' g _ hA'
      by_cases hroom : k + m ≤ cap2
      · have hfit : k * ti.size + ys.length ≤ cur.toArray.size := by rw [List.size_toArray, hyl, r3, ← Nat.add_mul]; exact Nat.mul_le_mul_right _ hroom
        have hr := run_append_room (P := P) w t ty el ti i.und t1 g k cap2 cur.toArray hg a2 m cap ys hyl hc2 h1 hroom hfit
        refine hex _ _ hr (hK _ _ _ _ (kk _ _ (by simp)) (ha.put hd _) ?_)
        have hs5 : Sat e (Blk g (cur.take (k * ti.size) ++ ys ++ cur.drop (k * ti.size + ys.length)) el (0, 0) :: R) (w.setRow g (cur.take (k * ti.size) ++ ys ++ cur.drop (k * ti.size + ys.length)).toArray) := by
          refine hs4.change rfl rfl rfl fun h1' hle hA' => ?_
          refine ⟨fun b => if b = g then some (.cells (cur.take (k * ti.size) ++ ys ++ cur.drop (k * ti.size + ys.length)).toArray el (0, 0)) else none, ?_, by simp [Blk, Ob], ?_, ?_⟩
          · intro b o hb
            by_cases eb : b = g
            · subst eb; simp only [if_true] at hb; rw [← hb]; exact setRow_heap w b cur.toArray _ el _ hg
            · simp [eb] at hb
          · intro b o hb hn
            by_cases eb : b = g
            · subst eb; rw [show h1' b = _ from hA'] at hn; cases hn
            · simp [eb] at hb
          · intro b hn o ho
            have : b ≠ g := by rintro rfl; rw [show h1' b = _ from hA'] at hn; cases hn
            exact (setRow_other w g b _ this).trans ho
        have hsz : (cur.take (k * ti.size) ++ ys ++ cur.drop (k * ti.size + ys.length)).length = cap2 * ti.size := by
          rw [List.size_toArray] at hfit
          simp only [List.length_append, List.length_take, List.length_drop]; omega
        have hin := own_in (E := el) (n := ti.size) (g := g) (R := R) hroom r2 hsz
        have htk : (cur.take (k * ti.size) ++ ys ++ cur.drop (k * ti.size + ys.length)).take ((k + m) * ti.size) = xs ++ ys := by
          rw [r4]
          exact List.take_left' (by rw [List.length_append, hl, hyl, Nat.add_mul])
        rw [htk] at hin
        exact hs5.ent hin
      · have holds : ∀ j u, xs[j]? = some u → w.cell? ((⟨g, 0, none⟩ : Addr).add j) = some u := fun j u hj => by
          rw [Addr.add_lit, Nat.zero_add]
          refine (Rd.blk (R := R) (cs := cur) (T := el) (fz := (0, 0)) .zero ?_).at hs4
          rw [nth_eq]
          rw [← r4, List.getElem?_take] at hj
          split at hj
          · simpa using hj
          · cases hj
        have hr := run_append_grow (P := P) w t ty el ti z i.und t1 t2 ⟨g, 0, none⟩ k cap2 xs hl holds a2 m cap ys hyl hc2 (by omega) (by omega) (growslice_fits (by omega) hb)
        have hn1 := new cap2 (.inl r1) (by omega) w.drew rfl rfl rfl rfl
        exact hex _ _ hr (hK _ _ _ _ (kk _ _ (by simp)) (ha.put hd _) hn1)
/-- 'T(s)' of a slice type to itself: the array's end is marked. -/
theorem Do.convSl {t el n : Nat} {x : Operand} {g o l c : Nat} {cs : List Value} {L' : List Res} [i : SlT P t el n] [j : IntT P el .u8] (hx : ev σ x = some (.slice (some ⟨g, o, none⟩) l c)) (hd : Nat.blt d N.n = true) {T : TypeId}
    (u : Upd L (Blk g cs T (0, 0)) (Blk g cs T (cs.length, cs.length + 1)) L') (k : K ((d, .slice (some ⟨g, o, none⟩) l c) :: σ) L') :
    Do P N ⟨some d, .convert t t x, ty, pos, af, gd⟩ K σ e L := fun a w ha hs K' Q' hK => by
  obtain ⟨R, f1, f2⟩ := u.split
  have hs1 := hs.ent f1
  have hg : w.heap[g]? = some (.cells cs.toArray T (0, 0)) := by
    obtain ⟨h1', h2', _, b', _, hA', _⟩ := hs1.2.2.2
    exact b' g _ hA'
  have hlt : g < w.heap.size := (Array.getElem?_eq_some_iff.1 hg).1
  have hgg : w.heap[g] = .cells cs.toArray T (0, 0) := (Array.getElem?_eq_some_iff.1 hg).2
  refine upon_ok_do (w' := w.freeze ⟨g, cs.length, none⟩ 1) (v := .slice (some ⟨g, o, none⟩) l c) ?_ (hK _ _ _ _ k (ha.put hd _) ?_)
  · simp [execOp, ha.ev hx, convert, run_underlying i.und, run_underlying j.und, markStringish, World.shape?, hg]
  · refine Sat.ent ?_ f2
    refine hs1.change (by simp [World.freeze]) (by simp [World.freeze]) (by simp [World.freeze]) fun h1 hle hA => ?_
    refine ⟨fun b => if b = g then some (.cells cs.toArray T (cs.length, cs.length + 1)) else none, ?_, by simp [Blk, Ob], ?_, ?_⟩
    · intro b o hb
      by_cases eb : b = g
      · subst eb; simp only [if_true] at hb; rw [← hb]
        simp [hp, World.freeze, Array.getElem?_modify, hg]
      · simp [eb] at hb
    · intro b o hb hn
      by_cases eb : b = g
      · subst eb; rw [show h1 b = _ from hA] at hn; cases hn
      · simp [eb] at hb
    · intro b hn o ho
      have : b ≠ g := by rintro rfl; rw [show h1 b = _ from hA] at hn; cases hn
      simp only [hp] at ho ⊢
      simp [World.freeze, Array.getElem?_modify, this.symm, ho]
end
end Go.Bs
