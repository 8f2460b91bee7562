/- Texts that are owned, each by itself: one may be taken out, written to, and put back. -/
import Derived.Test.YtnifiamfdkdkkaaItems
namespace Go.Proofs
open Go.Bs
set_option linter.unusedVariables false
def OwnI (l : List Txt) : Res := All (l.map fun a => OwnB a.1 a.2)
theorem ownI_nil {R : List Res} : Ent R (OwnI [] :: R) := all_in (M := [])
theorem ownI_append {l m : List Txt} {R : List Res} : Ent (OwnI l :: OwnI m :: R) (OwnI (l ++ m) :: R) := by
  unfold OwnI
  rw [List.map_append]
  exact all_append
theorem ownI_split {l m : List Txt} {R : List Res} : Ent (OwnI (l ++ m) :: R) (OwnI l :: OwnI m :: R) := by
  unfold OwnI
  rw [List.map_append]
  exact all_split
theorem ownI_one {a : Txt} {R : List Res} : Ent (OwnB a.1 a.2 :: R) (OwnI [a] :: R) := all_in (M := [OwnB a.1 a.2])
theorem ownI_out {a : Txt} {R : List Res} : Ent (OwnI [a] :: R) (OwnB a.1 a.2 :: R) := all_out (M := [OwnB a.1 a.2])
theorem ownI_items : ∀ {l : List Txt} {R : List Res}, Ent (OwnI l :: R) (Items l :: R)
  | [], R => Ent.rfl
  | a :: l, R => by
    have h1 : Ent (OwnI (a :: l) :: R) (OwnI [a] :: OwnI l :: R) := ownI_split (l := [a]) (m := l)
    have h2 : Ent (Items [a] :: Items l :: R) (Items (a :: l) :: R) := items_append (l := [a]) (m := l)
    exact h1.trans (ownI_out.trans (items_own.trans ((Ent.cons ownI_items).trans h2)))
theorem ownI_take {l : List Txt} {i : Nat} (h : i < l.length) {R : List Res} : Ent (OwnI l :: R) (OwnB (l[i]'h).1 (l[i]'h).2 :: OwnI (l.take i) :: OwnI (l.drop (i + 1)) :: R) := by
  have e : l = l.take i ++ ([l[i]'h] ++ l.drop (i + 1)) := by
    conv => lhs; rw [← List.take_append_drop i l, List.drop_eq_getElem_cons h]
    rfl
  have h1 : Ent (OwnI l :: R) (OwnI (l.take i) :: OwnI ([l[i]'h] ++ l.drop (i + 1)) :: R) := by
    conv => lhs; rw [e]
    exact ownI_split
  refine h1.trans ((Ent.cons (ownI_split.trans ownI_out)).trans ?_)
  exact Ent.pull (.succ .zero) Ent.rfl
theorem ownI_put {l : List Txt} {i : Nat} (h : i < l.length) {v : Value} {b : List UInt8} {R : List Res} : Ent (OwnB v b :: OwnI (l.take i) :: OwnI (l.drop (i + 1)) :: R) (OwnI (l.set i (v, b)) :: R) := by
  have e : l.set i (v, b) = l.take i ++ ([((v, b) : Txt)] ++ l.drop (i + 1)) := by
    rw [List.set_eq_take_append_cons_drop, if_pos h]; rfl
  rw [e]
  refine Ent.trans ?_ ownI_append
  refine Ent.trans (Ent.pull (.succ .zero) Ent.rfl) (Ent.cons ?_)
  exact (ownI_one (a := (v, b))).trans ownI_append
theorem ownI_rd {l : List Txt} {R : List Res} : Txts (OwnI l :: R) l := fun a ha => (items_rd a ha).ent ownI_items
end Go.Proofs
