/- Texts that lie in memory, each by itself, and are only read. -/
import Derived.Test.YtnifiamfdkdkkaaBytes
namespace Go.Bs
set_option linter.unusedVariables false
set_option linter.unusedSimpArgs false
/-- A text among others: where it lies, and what it is. -/
abbrev Txt := Value × List UInt8
/-- A list of texts, all of which read so. -/
def Txts (L : List Res) (l : List Txt) : Prop := ∀ a ∈ l, RdB L a.1 a.2
theorem Txts.tail {A : Res} {L : List Res} {l : List Txt} (h : Txts L l) : Txts (A :: L) l := fun a ha => (h a ha).tail
theorem Ent.under {L L' : List Res} (f : Ent L L') : ∀ M : List Res, Ent (M ++ L) (M ++ L')
  | [] => f
  | _ :: M => Ent.cons (Ent.under f M)
theorem all_append {M N R : List Res} : Ent (All M :: All N :: R) (All (M ++ N) :: R) := by
  refine Ent.trans all_out (Ent.trans (Ent.under all_out M) ?_)
  rw [← List.append_assoc]
  exact all_in
theorem all_split {M N R : List Res} : Ent (All (M ++ N) :: R) (All M :: All N :: R) := by
  refine Ent.trans all_out ?_
  rw [List.append_assoc]
  exact Ent.trans (Ent.under all_in M) all_in
theorem sepL_mem {A : Res} : ∀ {M : List Res} {h : Heap}, A ∈ M → sepL M h → ∃ h1, Heap.le h1 h ∧ A h1
  | [], _, hm, _ => by cases hm
  | B :: M, h, hm, x => by
    obtain ⟨h1, h2, a, b, c, hB, hM⟩ := x
    rcases List.mem_cons.1 hm with rfl | hm
    · exact ⟨h1, b, hB⟩
    · obtain ⟨h3, d, hA⟩ := sepL_mem hm hM
      exact ⟨h3, Heap.le_trans d c, hA⟩
/-- A text that is only read. -/
def item (a : Txt) : Res := View 1 a.1 a.2.length (a.2.map u8)
def Items (l : List Txt) : Res := All (l.map item)
theorem items_rd {l : List Txt} {R : List Res} : Txts (Items l :: R) l := fun a ha h x => by
  obtain ⟨h1, h2, _, b, _, hA, _⟩ := x
  obtain ⟨h3, c, hi⟩ := sepL_mem (List.mem_map.2 ⟨a, ha, rfl⟩) hA
  exact View.le hi (Heap.le_trans c b)
theorem items_nil {R : List Res} : Ent R (Items [] :: R) := all_in (M := [])
theorem items_append {l m : List Txt} {R : List Res} : Ent (Items l :: Items m :: R) (Items (l ++ m) :: R) := by
  unfold Items
  rw [List.map_append]
  exact all_append
theorem items_split {l m : List Txt} {R : List Res} : Ent (Items (l ++ m) :: R) (Items l :: Items m :: R) := by
  unfold Items
  rw [List.map_append]
  exact all_split
theorem items_one {a : Txt} {R : List Res} : Ent (View 1 a.1 a.2.length (a.2.map u8) :: R) (Items [a] :: R) := all_in (M := [item a])
theorem items_own {a : Txt} {R : List Res} : Ent (Own tU8 1 a.1 a.2.length (a.2.map u8) :: R) (Items [a] :: R) := own_view.trans items_one
theorem items_drop {l : List Txt} {R : List Res} (k : Nat) : Ent (Items l :: R) (Items (l.drop k) :: R) := by
  conv => lhs; rw [← List.take_append_drop k l]
  exact items_split.trans (Ent.drop Ent.rfl)
theorem items_take {l : List Txt} {R : List Res} (k : Nat) : Ent (Items l :: R) (Items (l.take k) :: R) := by
  conv => lhs; rw [← List.take_append_drop k l]
  exact items_split.trans (Ent.cons (Ent.drop Ent.rfl))
abbrev tTxts : TypeId := 24
/-- A list of texts that owns its memory; not the texts. -/
abbrev OwnT (v : Value) (l : List Txt) : Res := Own tTxts 1 v l.length (l.map (·.1))
/-! ### lists of things of so many cells each -/
section
variable {α : Type} {f : α → List Value} {n : Nat}
theorem flatN_len (hf : ∀ a, (f a).length = n) : ∀ l : List α, (l.flatMap f).length = l.length * n
  | [] => by simp
  | m :: l => by
    rw [List.flatMap_cons, List.length_append, flatN_len hf l, hf, List.length_cons, Nat.add_mul]; omega
theorem flatN_take (hf : ∀ a, (f a).length = n) (l : List α) (i : Nat) : (l.flatMap f).take (i * n) = (l.take i).flatMap f := by
  induction l generalizing i with
  | nil => simp
  | cons m l ih =>
    cases i with
    | zero => simp
    | succ i =>
      have h1 : (i + 1) * n = i * n + n := Nat.succ_mul i n
      rw [List.flatMap_cons, List.take_succ_cons, List.flatMap_cons, List.take_append, hf, List.take_of_length_le (by rw [hf]; omega), ← ih]
      congr 2; omega
theorem flatN_drop (hf : ∀ a, (f a).length = n) (l : List α) (i : Nat) : (l.flatMap f).drop (i * n) = (l.drop i).flatMap f := by
  induction l generalizing i with
  | nil => simp
  | cons m l ih =>
    cases i with
    | zero => simp
    | succ i =>
      have h1 : (i + 1) * n = i * n + n := Nat.succ_mul i n
      rw [List.flatMap_cons, List.drop_succ_cons, List.drop_append, hf, List.drop_of_length_le (by rw [hf]; omega), ← ih]
      simp only [List.nil_append]
      congr 1; omega
theorem flatN_ones {l : List α} (h : ∀ a ∈ l, ∀ c ∈ f a, c.oneCell' = true) : ∀ c ∈ l.flatMap f, c.oneCell' = true := fun c hc => by
  obtain ⟨a, ha, hc⟩ := List.mem_flatMap.1 hc
  exact h a ha c hc
end
end Go.Bs
