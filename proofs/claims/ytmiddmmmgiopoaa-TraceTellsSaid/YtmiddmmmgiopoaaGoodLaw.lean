/- when a drawn trace may be: plain law. -/
import Derived.Test.YtmiddmmmgiopoaaGood25
namespace Go.Proofs
set_option linter.unusedVariables false
theorem cnt_bare (l : List Ev) (k : Int) : cntE (l.map Ev.bare) k = cntE l k := by
  unfold cntE
  rw [List.countP_map]
  rfl
theorem who_bare (l : List Ev) (c : Ev) : whoP (l.map Ev.bare) c.bare = whoP l c := by
  unfold whoP
  rw [List.foldl_map]
  rfl
theorem proved_bare (l : List Ev) (leaf q : Int) : provedP (l.map Ev.bare) leaf q = provedP l leaf q := by
  unfold provedP
  rw [List.any_map]
  congr 2
  funext e
  simp only [Function.comp, who_bare]
  rfl
theorem new_bare (l : List Ev) (x : Ev) (q : Int) : newP (l.map Ev.bare) x.bare q = newP l x q := by
  unfold newP
  rw [List.any_map]
  congr 1
  funext e
  simp only [Function.comp, proved_bare]
  rfl
theorem may_bare (l : List Ev) (x : Ev) (q : Int) : mayP (l.map Ev.bare) x.bare q = mayP l x q := by
  have h1 : loggedP (l.map Ev.bare) x.bare = loggedP l x := by
    unfold loggedP
    rw [cnt_bare, List.any_map]
    rfl
  have h2 : signedP (l.map Ev.bare) x.bare = signedP l x := by
    unfold signedP
    rw [cnt_bare, List.any_map]
    rfl
  have h3 : cosignedP (l.map Ev.bare) x.bare = cosignedP l x := by
    unfold cosignedP foundP backP
    rw [List.any_map, List.any_map]
    rfl
  have h4 : installedP (l.map Ev.bare) x.bare q = installedP l x q := by
    unfold installedP oldP
    rw [new_bare, List.any_map]
    rfl
  unfold mayP
  rw [h1, h2, h3, h4, cnt_bare]
  rfl
theorem ok_bare {q : Int} {l : List Ev} : okP q (l.map Ev.bare) ↔ okP q l := by
  constructor
  · intro h i hi
    have := h i (by rw [List.length_map]; exact hi)
    rw [← List.map_take, List.getElem_map, may_bare] at this
    exact this
  · intro h i hi
    have hi' : i < l.length := by rw [List.length_map] at hi; exact hi
    rw [← List.map_take, List.getElem_map, may_bare]
    exact h i hi'
theorem good_pre (n w inst : Nat) : ∀ k, ∃ r, goodP (n + k) w inst = goodP n w inst ++ r
  | 0 => ⟨[], by simp⟩
  | k + 1 => by
    obtain ⟨r, hr⟩ := good_pre n w inst k
    exact ⟨r ++ blockP w inst (n + k), by rw [← Nat.add_assoc, goodP_succ, hr, List.append_assoc]⟩
theorem good_run : ∀ w : Nat, w < 5 → ∀ inst : Nat, inst < 7 → (checkP (w : Int) (goodP 6 w inst)).1 = -1 := by decide +kernel
theorem good_none : ∀ w : Nat, w < 5 → (checkP 6 (goodP 6 w 0)).1 = -1 := by decide +kernel
theorem good_bad : ∀ w : Nat, w < 5 → ¬ (checkP ((w : Int) + 1) (goodP 1 w 1)).1 = -1 := by decide +kernel
theorem good_ok {n w inst : Nat} {q : Int} (hn : n ≤ 6) (hw : w ≤ 4) (hi : inst ≤ 6) (hq : q ≤ 6) : okP q (goodP n w inst) ↔ (q ≤ w ∨ inst = 0 ∨ n = 0) := by
  obtain ⟨r, hr⟩ := good_pre n w inst (6 - n)
  rw [show n + (6 - n) = 6 by omega] at hr
  constructor
  · intro h
    by_cases h1 : q ≤ w
    · exact .inl h1
    by_cases h2 : inst = 0
    · exact .inr (.inl h2)
    by_cases h3 : n = 0
    · exact .inr (.inr h3)
    exfalso
    obtain ⟨r2, hr2⟩ := good_pre 1 w inst (n - 1)
    rw [show 1 + (n - 1) = n by omega] at hr2
    have e1 : goodP 1 w inst = goodP 1 w 1 := by
      unfold goodP blockP tailP
      simp
      exact h2
    rw [hr2, e1] at h
    exact good_bad w (by omega) (check_ok.2 (ok_mono (show (w : Int) + 1 ≤ q by omega) (ok_pre h)))
  · rintro (h | rfl | rfl)
    · have := check_ok.1 (good_run w (by omega) inst (by omega))
      rw [hr] at this
      exact ok_mono h (ok_pre this)
    · have := check_ok.1 (good_none w (by omega))
      rw [hr] at this
      exact ok_mono hq (ok_pre this)
    · intro i hi
      simp [goodP] at hi
end Go.Proofs
