/- keys' records as they lie: plain laws; boxes on disks without trouble. -/
import Derived.Test.YtnifiamfdkdkkaaKeys
import Derived.Test.YtnifiamfdkdkkaaLayLaw
namespace Go.Proofs
set_option linter.unusedVariables false
open Go.Bs
set_option linter.unusedSimpArgs false
attribute [local irreducible] Bs.Val Bs.Do Bs.O Bs.W Bs.Fin Bs.A Bs.Ct Bs.RdSl Bs.Rd Bs.Sat Bs.Blk Bs.Ob Bs.Own Bs.View Bs.Ent Bs.Ex Bs.All Bs.Pu Bs.Base Bs.sepL Bs.RdA
def kRecs (n : Nat) : List (List UInt8) := (List.range n).map keyRec
def kl (n : Nat) : List UInt8 := layP (kRecs n)
theorem kRecs_len (n : Nat) : (kRecs n).length = n := by simp [kRecs]
theorem kRecs_short {n : Nat} : ∀ m ∈ kRecs n, m.length ≤ 65535 := fun m hm => by
  obtain ⟨i, _, rfl⟩ := List.mem_map.1 hm
  simp [keyRec]
theorem kRecs_succ (n : Nat) : kRecs (n + 1) = kRecs n ++ [keyRec n] := by simp [kRecs, List.range_succ]
theorem kl_succ (n : Nat) : kl (n + 1) = kl n ++ recP (keyRec n) := by rw [kl, kRecs_succ, layP_snoc]; rfl
theorem kl_len : ∀ n, (kl n).length = 9 * n
  | 0 => rfl
  | n + 1 => by rw [kl_succ, List.length_append, kl_len n, recP_length]; simp [keyRec]; omega
theorem kl_open (n : Nat) : openP (kl n) = (kRecs n, 9 * n, true) := by
  have h := openP_all (kRecs n) kRecs_short
  rw [show layP (kRecs n) = kl n from rfl, kl_len] at h
  exact h
theorem kl_torn (n k : Nat) (h : k < 9) : openP (kl n ++ (recP (keyRec n)).take k) = (kRecs n, 9 * n, true) := by
  have h := openP_torn2 (kRecs n) (keyRec n) k kRecs_short (by simp [keyRec]) (by simp [keyRec]; omega)
  rw [show layP (kRecs n) = kl n from rfl, kl_len] at h
  exact h
theorem kRecs_ok {n : Nat} (h : n ≤ 16) : keysP (kRecs n) := ⟨by rw [kRecs_len]; exact h, fun i hi => by simp [kRecs]⟩
theorem kRecs_many {n : Nat} (h : 16 < n) : ¬ keysP (kRecs n) := fun hk => by have := hk.1; rw [kRecs_len] at this; omega
/-- A disk of keys' records, all synced. -/
def kDisk (n L : Nat) : DSt := ⟨kl n, 9 * n, L, 0, false⟩
theorem kDisk_ok {n L : Nat} (h : 9 * n ≤ L) (hL : L ≤ 1048576) : (kDisk n L).ok := ⟨by simp only [kDisk, kl_len]; omega, hL, by simp only [kDisk, kl_len]; omega, by simp [kDisk]⟩
theorem kDisk_op (n L : Nat) : opE (kDisk n L) = 0 ∧ opS (kDisk n L) = kDisk n L := by
  have h : (openP (kDisk n L).b).2.1 = (kDisk n L).b.length := by simp only [kDisk, kl_open, kl_len]
  exact ⟨by unfold opE; rw [if_pos h], by unfold opS; rw [if_pos h]⟩
theorem kopenD_spec (R : List Res) (e : World) (gd n L : Nat) (hn : n ≤ 16) (h : 9 * n ≤ L) (hL : L ≤ 1048576) :
    Ct Try.prog 9 #[.pointer (some ⟨gd, 0, none⟩)] e (Disk gd (kDisk n L) :: R) (fun v' L' => ∃ gb gj : Nat, v' = .tuple #[.pointer (some ⟨gb, 0, none⟩), .int .i64 0] ∧ L' = KBox gb gj n :: Jrn gj gd n :: Disk gd (kDisk n L) :: R) :=
  (kopen_spec R e gd (kDisk n L) (kDisk_ok h hL)).mono fun v' L' h => by
    have ho : openP (kDisk n L).b = (kRecs n, 9 * n, true) := kl_open n
    obtain ⟨h1, h2⟩ := kDisk_op n L
    rcases h with ⟨a, _⟩ | ⟨_, a, _⟩ | ⟨_, _, a, _⟩ | ⟨_, _, _, gb, gj, b1, b2⟩
    · rw [ho] at a; cases a
    · exact absurd h1 a
    · rw [ho] at a; exact absurd (kRecs_ok hn) a
    · rw [ho, h2] at b2
      dsimp only at b2
      rw [kRecs_len] at b2
      exact ⟨gb, gj, b1, b2⟩
theorem kDisk_add {n L : Nat} (h : 9 * n + 9 ≤ L) : addE (kDisk n L) (keyRec n) = 0 ∧ addS (kDisk n L) (keyRec n) = kDisk (n + 1) L ∧ ∀ j, addK (kDisk n L) (keyRec n) j = j + 1 := by
  have hl : (recP (keyRec n)).length = 9 := by rw [recP_length]; rfl
  obtain ⟨h1, h2⟩ := DSt.app_plain (b := kl n) (m := recP (keyRec n)) (sy := 9 * n) (li := L) (by rw [kl_len, hl]; exact h)
  have e1 : (kDisk n L).appE (recP (keyRec n)) = 0 := h2
  have e2 : (kDisk n L).app (recP (keyRec n)) = ⟨kl n ++ recP (keyRec n), 9 * n, L, 0, false⟩ := h1
  refine ⟨?_, ?_, fun j => ?_⟩
  · unfold addE; rw [if_pos e1, e2]; rfl
  · unfold addS; rw [if_pos e1, e2, ← kl_succ]
    simp only [DSt.syn, DSt.pow, kDisk, kl_len, Nat.lt_irrefl, gt_iff_lt, if_false]
    rfl
  · unfold addK; rw [if_pos e1]
theorem kDisk_full {n L : Nat} (h : L < 9 * n + 9) : addE (kDisk n L) (keyRec n) = 13 ∧ addS (kDisk n L) (keyRec n) = kDisk n L ∧ ∀ j, addK (kDisk n L) (keyRec n) j = j := by
  have hl : (recP (keyRec n)).length = 9 := by rw [recP_length]; rfl
  have hf : (kDisk n L).down = true ∨ (kDisk n L).limit < (kDisk n L).b.length + (recP (keyRec n)).length := .inr (by simp only [kDisk, kl_len, hl]; exact h)
  have e1 : (kDisk n L).appE (recP (keyRec n)) = 13 := by unfold DSt.appE; rw [if_pos hf]
  have e2 : (kDisk n L).app (recP (keyRec n)) = kDisk n L := by unfold DSt.app; rw [if_pos hf]; rfl
  refine ⟨?_, ?_, fun j => ?_⟩
  · unfold addE; rw [e1, if_neg (by decide)]
  · unfold addS; rw [e1, if_neg (by decide), e2]
  · unfold addK; rw [e1, if_neg (by decide)]
theorem ktakeD_spec (R : List Res) (e : World) (gb gj gd n L : Nat) (hn : n < 16) (h : 9 * n + 9 ≤ L) (hL : L ≤ 1048576) :
    Ct Try.prog 12 #[.pointer (some ⟨gb, 0, none⟩)] e (KBox gb gj n :: Jrn gj gd n :: Disk gd (kDisk n L) :: R) (fun v' L' => v' = .tuple #[.int .i64 n, .int .i64 0] ∧ L' = KBox gb gj (n + 1) :: Jrn gj gd (n + 1) :: Disk gd (kDisk (n + 1) L) :: R) := by
  obtain ⟨a1, a2, a3⟩ := kDisk_add h
  refine (ktake_spec R e gb gj gd n n (kDisk n L) (kDisk_ok (by omega) hL) (by omega) (by omega)).mono ?_
  rintro _ _ ⟨rfl, rfl⟩
  have h16 : ¬ 16 ≤ n := by omega
  simp only [takeN, takeE, takeK, takeS, takeJ, if_neg h16, a1, a2, a3, if_true]
  refine ⟨?_, ?_⟩ <;> first | rfl | trivial
theorem ktakeF_spec (R : List Res) (e : World) (gb gj gd n L : Nat) (hn : n < 16) (h0 : 9 * n ≤ L) (h : L < 9 * n + 9) (hL : L ≤ 1048576) :
    Ct Try.prog 12 #[.pointer (some ⟨gb, 0, none⟩)] e (KBox gb gj n :: Jrn gj gd n :: Disk gd (kDisk n L) :: R) (fun v' L' => v' = .tuple #[.int .i64 0, .int .i64 13] ∧ L' = KBox gb gj n :: Jrn gj gd n :: Disk gd (kDisk n L) :: R) := by
  obtain ⟨a1, a2, a3⟩ := kDisk_full h
  refine (ktake_spec R e gb gj gd n n (kDisk n L) (kDisk_ok h0 hL) (by omega) (by omega)).mono ?_
  rintro _ _ ⟨rfl, rfl⟩
  have h16 : ¬ 16 ≤ n := by omega
  simp only [takeN, takeE, takeK, takeS, takeJ, if_neg h16, a1, a2, a3]
  refine ⟨?_, ?_⟩ <;> first | rfl | trivial
theorem ktakeU_spec (R : List Res) (e : World) (gb gj gd L : Nat) (h0 : 144 ≤ L) (hL : L ≤ 1048576) :
    Ct Try.prog 12 #[.pointer (some ⟨gb, 0, none⟩)] e (KBox gb gj 16 :: Jrn gj gd 16 :: Disk gd (kDisk 16 L) :: R) (fun v' L' => v' = .tuple #[.int .i64 0, .int .i64 23] ∧ L' = KBox gb gj 16 :: Jrn gj gd 16 :: Disk gd (kDisk 16 L) :: R) := by
  refine (ktake_spec R e gb gj gd 16 16 (kDisk 16 L) (kDisk_ok (by omega) hL) (by omega) (by omega)).mono ?_
  rintro _ _ ⟨rfl, rfl⟩
  exact ⟨rfl, rfl⟩
end Go.Proofs
