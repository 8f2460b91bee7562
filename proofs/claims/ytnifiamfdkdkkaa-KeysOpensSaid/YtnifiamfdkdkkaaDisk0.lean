/- A disk with bytes, all synced: opened; records as they lie. -/
import Derived.Test.YtnifiamfdkdkkaaJournal2
namespace Go.Proofs
set_option linter.unusedVariables false
open Go.Bs
set_option linter.unusedSimpArgs false
attribute [local irreducible] Bs.Val Bs.Do Bs.O Bs.W Bs.Fin Bs.A Bs.Ct Bs.RdSl Bs.Rd Bs.Sat Bs.Blk Bs.Ob Bs.Own Bs.View Bs.Ent Bs.Ex Bs.All Bs.Pu Bs.Base Bs.sepL Bs.RdA
def disk0 (b : List UInt8) : DSt := ⟨b, b.length, 1048576, 0, false⟩
theorem disk0_ok {b : List UInt8} (h : b.length ≤ 1048576) : (disk0 b).ok := ⟨h, Nat.le_refl _, Nat.le_refl _, Nat.zero_le _⟩
theorem op0 {b : List UInt8} : opE (disk0 b) = 0 ∧ opS (disk0 b) = disk0 (b.take (openP b).2.1) := by
  have h := openP_le b
  have hc : DSt.cut (disk0 b) ((openP b).2.1 : Int) = disk0 (b.take (openP b).2.1) ∧ DSt.cutE (disk0 b) ((openP b).2.1 : Int) = 0 := by
    have h2 : ¬ ((b.length : Int) < ((openP b).2.1 : Int)) := by omega
    simp [DSt.cut, DSt.cutE, disk0, DSt.pow, h2, List.length_take, Nat.min_eq_left h]
    omega
  unfold opE opS
  by_cases h2 : (openP b).2.1 = b.length
  · rw [if_pos (show (openP (disk0 b).b).2.1 = (disk0 b).b.length from h2), if_pos (show (openP (disk0 b).b).2.1 = (disk0 b).b.length from h2), h2]
    exact ⟨rfl, by rw [List.take_of_length_le (Nat.le_refl _)]⟩
  · rw [if_neg (show ¬ (openP (disk0 b).b).2.1 = (disk0 b).b.length from h2), if_neg (show ¬ (openP (disk0 b).b).2.1 = (disk0 b).b.length from h2)]
    exact ⟨hc.2, hc.1⟩
/-- What stands on a disk, opened: the journal, its records; or refused. -/
def Opened0 (gd : Nat) (b : List UInt8) (R : List Res) (v' : Value) (L' : List Res) : Prop :=
  ((openP b).2.2 = false ∧ v' = .tuple #[.pointer none, .slice none 0 0, .int .i64 14] ∧ L' = Disk gd (disk0 b) :: R) ∨
  ((openP b).2.2 = true ∧ ∃ (gj : Nat) (ad : Option Addr) (c : Nat) (ts : List Txt), v' = .tuple #[.pointer (some ⟨gj, 0, none⟩), .slice ad ts.length c, .int .i64 0] ∧ ts.map (·.2) = (openP b).1 ∧ L' = Jrn gj gd ts.length :: OwnT (.slice ad ts.length c) ts :: Items ts :: Disk gd (disk0 (b.take (openP b).2.1)) :: R)
theorem jopen0_spec (R : List Res) (e : World) (gd : Nat) (b : List UInt8) (hb : b.length ≤ 1048576) :
    Ct Try.prog 24 #[.pointer (some ⟨gd, 0, none⟩)] e (Disk gd (disk0 b) :: R) (Opened0 gd b R) :=
  (jopen_spec R e gd (disk0 b) (disk0_ok hb)).mono fun v' L' h => by
    obtain ⟨h1, h2⟩ := op0 (b := b)
    rcases h with ⟨a1, a2, a3⟩ | ⟨a1, a2, _⟩ | ⟨a1, _, gj, ad, c, ts, a3, a4, a5⟩
    · exact .inl ⟨a1, a2, a3⟩
    · exact absurd h1 a2
    · exact .inr ⟨a1, gj, ad, c, ts, a3, a4, by rw [a5, h2]⟩
def layP (l : List (List UInt8)) : List UInt8 := l.flatMap recP
theorem layP_len {l : List (List UInt8)} {n : Nat} (h : ∀ m ∈ l, m.length ≤ n) : (layP l).length ≤ l.length * (n + 8) := by
  induction l with
  | nil => simp [layP]
  | cons m l ih =>
    have h1 := ih fun x hx => h x (List.mem_cons_of_mem _ hx)
    have h2 := h m (List.mem_cons_self ..)
    show (recP m ++ layP l).length ≤ _
    rw [List.length_append, recP_length, List.length_cons, Nat.add_mul]
    omega
theorem layP_snoc (l : List (List UInt8)) (m : List UInt8) : layP (l ++ [m]) = layP l ++ recP m := by simp [layP]
theorem layP_mono (l : List (List UInt8)) (i : Nat) : (layP (l.take i)).length ≤ (layP l).length := by
  conv => rhs; rw [← List.take_append_drop i l]
  simp only [layP, List.flatMap_append, List.length_append]
  omega
end Go.Proofs
