/- Lists of texts, cut. -/
import Derived.Test.YtjikmmgikhhkpaaBytes
import Derived.Test.YtjikmmgikhhkpaaBook
namespace Go.Proofs
set_option linter.unusedVariables false
open Go.Bs
set_option linter.unusedSimpArgs false
attribute [local irreducible] Bs.Val Bs.Do Bs.O Bs.W Bs.Fin Bs.A Bs.Ct Bs.RdSl Bs.Rd Bs.Sat Bs.Blk Bs.Ob Bs.Own Bs.View Bs.Ent Bs.Ex Bs.All Bs.Pu Bs.Base Bs.sepL
/-- A text among others: where it lies, and what it is. -/
abbrev Txt := Value × List UInt8
/-- A list of texts, all of which read so. -/
def Txts (L : List Res) (l : List Txt) : Prop := ∀ a ∈ l, RdB L a.1 a.2
theorem few_spec (R : List Res) (e : World) (v : Value) (l : List Txt) (n most : Nat) (hv : RdSl R 1 v l.length (l.map (·.1))) (ht : Txts R l) (hn : n ≤ 1000) (hm : most ≤ 1000) :
    Ct Try.prog 28 #[v, .int .i64 n, .int .i64 most] e R (fun v' L' => ∃ (ad : Option Addr) (c : Nat) (l' : List Txt), v' = .slice ad l'.length c ∧ l'.map (·.2) = (l.take n).map (fun a => a.2.take most) ∧ (∀ L, Txts L l → Txts L l') ∧ L' = Own 26 1 (.slice ad l'.length c) l'.length (l'.map (·.1)) :: R) := by
  refine Ct.of_sep (hv.shape (by omega)) ?_
  rintro ⟨⟨ad, cap, rfl, h3, h4, h5, h6⟩, _⟩
  simp only [maxLen] at h4
  refine Ct.enter (args := [_, _, _]) Try.func28 rfl Try.ntmps28 Try.results28 rfl ?_
  (repeat' first | (apply O.move; exact rfl; exact rfl) | (apply O.assign; exact rfl; exact rfl) | apply W.seq | apply W.region | apply O.nil | apply Fin.next | (apply O.load; exact rfl; (repeat first | exact Rd.blk .zero rfl | assumption | apply Rd.tail); exact rfl) | (apply O.len; exact rfl; exact rfl) | (apply O.pick_t; exact rfl; exact rfl; exact rfl) | (apply O.pick_f; exact rfl; exact rfl; exact rfl) | (apply O.want; exact rfl) | (apply O.unwant; exact rfl; exact rfl) | (apply O.unwant0; exact rfl) | (apply O.lss_t; exact rfl; exact rfl; omega; exact rfl) | (apply O.lss_f; exact rfl; exact rfl; omega; exact rfl) | (apply O.lss_d; exact rfl; exact rfl; exact rfl; all_goals intro _) | (apply O.add64; exact rfl; exact rfl; omega; exact rfl) | (apply O.add; exact rfl; exact rfl; exact rfl) | (apply O.buildSlice; exact rfl; exact rfl; exact rfl; (repeat first | exact Bs.Parts.nil | apply Bs.Parts.one rfl rfl | apply Bs.Parts.one (Bs.cells_one (by assumption)) rfl | exact Bs.Parts.agg rfl Bs.Parts.nil); exact rfl; exact rfl; intro _) | (apply O.lssStr_t; exact rfl; exact rfl; assumption; exact rfl) | (apply O.lssStr_f; exact rfl; exact rfl; assumption; exact rfl) | (apply O.lssStr; exact rfl; exact rfl; exact rfl) | (apply O.lenS; exact rfl; exact rfl) | (apply O.indexAddr1; exact rfl; exact rfl; omega; exact rfl) | (apply O.indexAddrN; exact rfl; exact rfl; omega; exact rfl) | (apply O.indexAddr; exact rfl; exact rfl; omega; omega; exact rfl) | (apply W.cond_t; exact rfl) | (apply W.cond_f; exact rfl) | apply W.block | apply W.skip | apply W.exit | apply W.ret | apply Fin.then_ret | apply Fin.then_exit | apply Fin.block_normal | apply Fin.block_ret | apply Fin.block_hit | (apply Fin.block_miss; exact rfl) | (apply O.addStr; exact rfl; exact rfl; omega; exact rfl))
  refine W.loop (ι := List Txt × Option Addr × Nat) (fun i => [(0, .slice ad l.length cap), (1, .int .i64 n), (2, .int .i64 most), (7, .slice i.2.1 i.1.length i.2.2), (8, .int .i64 (i.1.length : Int))])
    (fun i => Own 26 1 (.slice i.2.1 i.1.length i.2.2) i.1.length (i.1.map (·.1)) :: R) (fun i => i.1.length ≤ l.length ∧ i.1.length ≤ n ∧ i.1.map (·.2) = (l.take i.1.length).map (fun a => a.2.take most) ∧ (∀ L, Txts L l → Txts L i.1)) (fun i => n - i.1.length)
    ([], none, 0) ⟨Nat.zero_le _, Nat.zero_le _, rfl, fun L _ a h => by cases h⟩ (sub_cons rfl (sub_cons rfl (sub_cons rfl (sub_cons rfl (sub_cons rfl sub_nil))))) (own_nil _ _) ?_
  rintro ⟨out, ad2, c2⟩ ⟨hi1, hi2, hi3, hi4⟩
  dsimp only at hi1 hi2 hi3 hi4 ⊢
  have done : ∀ (hq : ¬ (out.length < l.length) ∨ ¬ (out.length < n)), out.map (·.2) = (l.take n).map (fun a => a.2.take most) := fun hq => by
    rw [hi3]
    rcases hq with hq | hq
    · rw [List.take_of_length_le (by omega), List.take_of_length_le (by omega)]
    · rw [show out.length = n by omega]
  by_cases hlt : out.length < l.length
  · by_cases hk : out.length < n
    · rcases h6 with h6 | ⟨gl, ol, rfl⟩
      · omega
      have hrd : Rd R ⟨gl, ol + out.length, none⟩ (l[out.length]'hlt).1 := RdSl.elem hv (by rw [List.getElem?_map, List.getElem?_eq_getElem hlt]; rfl)
      have hb := ht _ (List.getElem_mem hlt)
      (repeat' first | (apply O.move; exact rfl; exact rfl) | (apply O.assign; exact rfl; exact rfl) | apply W.seq | apply W.region | apply O.nil | apply Fin.next | (apply O.load; exact rfl; (repeat first | exact Rd.blk .zero rfl | assumption | apply Rd.tail); exact rfl) | (apply O.len; exact rfl; exact rfl) | (apply O.pick_t; exact rfl; exact rfl; exact rfl) | (apply O.pick_f; exact rfl; exact rfl; exact rfl) | (apply O.want; exact rfl) | (apply O.unwant; exact rfl; exact rfl) | (apply O.unwant0; exact rfl) | (apply O.lss_t; exact rfl; exact rfl; omega; exact rfl) | (apply O.lss_f; exact rfl; exact rfl; omega; exact rfl) | (apply O.lss_d; exact rfl; exact rfl; exact rfl; all_goals intro _) | (apply O.add64; exact rfl; exact rfl; omega; exact rfl) | (apply O.add; exact rfl; exact rfl; exact rfl) | (apply O.buildSlice; exact rfl; exact rfl; exact rfl; (repeat first | exact Bs.Parts.nil | apply Bs.Parts.one rfl rfl | apply Bs.Parts.one (Bs.cells_one (by assumption)) rfl | exact Bs.Parts.agg rfl Bs.Parts.nil); exact rfl; exact rfl; intro _) | (apply O.lssStr_t; exact rfl; exact rfl; assumption; exact rfl) | (apply O.lssStr_f; exact rfl; exact rfl; assumption; exact rfl) | (apply O.lssStr; exact rfl; exact rfl; exact rfl) | (apply O.lenS; exact rfl; exact rfl) | (apply O.indexAddr1; exact rfl; exact rfl; omega; exact rfl) | (apply O.indexAddrN; exact rfl; exact rfl; omega; exact rfl) | (apply O.indexAddr; exact rfl; exact rfl; omega; omega; exact rfl) | (apply W.cond_t; exact rfl) | (apply W.cond_f; exact rfl) | apply W.block | apply W.skip | apply W.exit | apply W.ret | apply Fin.then_ret | apply Fin.then_exit | apply Fin.block_normal | apply Fin.block_ret | apply Fin.block_hit | (apply Fin.block_miss; exact rfl) | (apply O.addStr; exact rfl; exact rfl; omega; exact rfl))
      refine O.call rfl rfl (cut_spec _ e _ _ most (RdB.tail hb) (by omega)) ?_
      rintro v1 _ ⟨hv1, h1, rfl⟩
      (repeat' first | (apply O.move; exact rfl; exact rfl) | (apply O.assign; exact rfl; exact rfl) | apply W.seq | apply W.region | apply O.nil | apply Fin.next | (apply O.load; exact rfl; (repeat first | exact Rd.blk .zero rfl | assumption | apply Rd.tail); exact rfl) | (apply O.len; exact rfl; exact rfl) | (apply O.pick_t; exact rfl; exact rfl; exact rfl) | (apply O.pick_f; exact rfl; exact rfl; exact rfl) | (apply O.want; exact rfl) | (apply O.unwant; exact rfl; exact rfl) | (apply O.unwant0; exact rfl) | (apply O.lss_t; exact rfl; exact rfl; omega; exact rfl) | (apply O.lss_f; exact rfl; exact rfl; omega; exact rfl) | (apply O.lss_d; exact rfl; exact rfl; exact rfl; all_goals intro _) | (apply O.add64; exact rfl; exact rfl; omega; exact rfl) | (apply O.add; exact rfl; exact rfl; exact rfl) | (apply O.buildSlice; exact rfl; exact rfl; exact rfl; (repeat first | exact Bs.Parts.nil | apply Bs.Parts.one rfl rfl | apply Bs.Parts.one (Bs.cells_one (by assumption)) rfl | exact Bs.Parts.agg rfl Bs.Parts.nil); exact rfl; exact rfl; intro _) | (apply O.lssStr_t; exact rfl; exact rfl; assumption; exact rfl) | (apply O.lssStr_f; exact rfl; exact rfl; assumption; exact rfl) | (apply O.lssStr; exact rfl; exact rfl; exact rfl) | (apply O.lenS; exact rfl; exact rfl) | (apply O.indexAddr1; exact rfl; exact rfl; omega; exact rfl) | (apply O.indexAddrN; exact rfl; exact rfl; omega; exact rfl) | (apply O.indexAddr; exact rfl; exact rfl; omega; omega; exact rfl) | (apply W.cond_t; exact rfl) | (apply W.cond_f; exact rfl) | apply W.block | apply W.skip | apply W.exit | apply W.ret | apply Fin.then_ret | apply Fin.then_exit | apply Fin.block_normal | apply Fin.block_ret | apply Fin.block_hit | (apply Fin.block_miss; exact rfl) | (apply O.addStr; exact rfl; exact rfl; omega; exact rfl))
      refine O.do (Do.append rfl rfl rfl (.succ .zero) (RdSl.blk .zero rfl (by simp [maxLen])) rfl rfl (by simpa using h1) (by simp only [maxLen]; omega) (by omega) fun ad' c' hnil => ?_)
      (repeat' first | (apply O.move; exact rfl; exact rfl) | (apply O.assign; exact rfl; exact rfl) | apply W.seq | apply W.region | apply O.nil | apply Fin.next | (apply O.load; exact rfl; (repeat first | exact Rd.blk .zero rfl | assumption | apply Rd.tail); exact rfl) | (apply O.len; exact rfl; exact rfl) | (apply O.pick_t; exact rfl; exact rfl; exact rfl) | (apply O.pick_f; exact rfl; exact rfl; exact rfl) | (apply O.want; exact rfl) | (apply O.unwant; exact rfl; exact rfl) | (apply O.unwant0; exact rfl) | (apply O.lss_t; exact rfl; exact rfl; omega; exact rfl) | (apply O.lss_f; exact rfl; exact rfl; omega; exact rfl) | (apply O.lss_d; exact rfl; exact rfl; exact rfl; all_goals intro _) | (apply O.add64; exact rfl; exact rfl; omega; exact rfl) | (apply O.add; exact rfl; exact rfl; exact rfl) | (apply O.buildSlice; exact rfl; exact rfl; exact rfl; (repeat first | exact Bs.Parts.nil | apply Bs.Parts.one rfl rfl | apply Bs.Parts.one (Bs.cells_one (by assumption)) rfl | exact Bs.Parts.agg rfl Bs.Parts.nil); exact rfl; exact rfl; intro _) | (apply O.lssStr_t; exact rfl; exact rfl; assumption; exact rfl) | (apply O.lssStr_f; exact rfl; exact rfl; assumption; exact rfl) | (apply O.lssStr; exact rfl; exact rfl; exact rfl) | (apply O.lenS; exact rfl; exact rfl) | (apply O.indexAddr1; exact rfl; exact rfl; omega; exact rfl) | (apply O.indexAddrN; exact rfl; exact rfl; omega; exact rfl) | (apply O.indexAddr; exact rfl; exact rfl; omega; omega; exact rfl) | (apply W.cond_t; exact rfl) | (apply W.cond_f; exact rfl) | apply W.block | apply W.skip | apply W.exit | apply W.ret | apply Fin.then_ret | apply Fin.then_exit | apply Fin.block_normal | apply Fin.block_ret | apply Fin.block_hit | (apply Fin.block_miss; exact rfl) | (apply O.addStr; exact rfl; exact rfl; omega; exact rfl))
      refine Fin.round (out ++ [(v1, (l[out.length]'hlt).2.take most)], ad', c') ⟨by simp; omega, by simp; omega, ?_, ?_⟩ (by simp; omega) ?_ ?_
      · simp only [List.map_append, List.length_append, List.length_singleton, hi3]
        rw [List.take_succ_eq_append_getElem hlt]
        simp only [List.map_append, List.map_cons, List.map_nil]
      · intro L ht a ha
        rcases List.mem_append.1 ha with h | h
        · exact hi4 L ht a h
        · rw [List.mem_singleton.1 h]
          exact hv1 L (ht _ (List.getElem_mem hlt))
      · simp only [List.length_append, List.length_singleton]
        exact sub_cons rfl (sub_cons rfl (sub_cons rfl (sub_cons rfl (sub_cons rfl sub_nil))))
      · simp only [List.length_append, List.length_singleton, List.map_append, List.map_cons, List.map_nil]
        exact (by (repeat first | exact Ent.rfl | exact Ent.nil | refine Ent.cons ?_ | (apply Ent.pull; exact (by (repeat first | exact Pull.zero | apply Pull.succ); done)) | refine Ent.drop ?_); done)
    · (repeat' first | (apply O.move; exact rfl; exact rfl) | (apply O.assign; exact rfl; exact rfl) | apply W.seq | apply W.region | apply O.nil | apply Fin.next | (apply O.load; exact rfl; (repeat first | exact Rd.blk .zero rfl | assumption | apply Rd.tail); exact rfl) | (apply O.len; exact rfl; exact rfl) | (apply O.pick_t; exact rfl; exact rfl; exact rfl) | (apply O.pick_f; exact rfl; exact rfl; exact rfl) | (apply O.want; exact rfl) | (apply O.unwant; exact rfl; exact rfl) | (apply O.unwant0; exact rfl) | (apply O.lss_t; exact rfl; exact rfl; omega; exact rfl) | (apply O.lss_f; exact rfl; exact rfl; omega; exact rfl) | (apply O.lss_d; exact rfl; exact rfl; exact rfl; all_goals intro _) | (apply O.add64; exact rfl; exact rfl; omega; exact rfl) | (apply O.add; exact rfl; exact rfl; exact rfl) | (apply O.buildSlice; exact rfl; exact rfl; exact rfl; (repeat first | exact Bs.Parts.nil | apply Bs.Parts.one rfl rfl | apply Bs.Parts.one (Bs.cells_one (by assumption)) rfl | exact Bs.Parts.agg rfl Bs.Parts.nil); exact rfl; exact rfl; intro _) | (apply O.lssStr_t; exact rfl; exact rfl; assumption; exact rfl) | (apply O.lssStr_f; exact rfl; exact rfl; assumption; exact rfl) | (apply O.lssStr; exact rfl; exact rfl; exact rfl) | (apply O.lenS; exact rfl; exact rfl) | (apply O.indexAddr1; exact rfl; exact rfl; omega; exact rfl) | (apply O.indexAddrN; exact rfl; exact rfl; omega; exact rfl) | (apply O.indexAddr; exact rfl; exact rfl; omega; omega; exact rfl) | (apply W.cond_t; exact rfl) | (apply W.cond_f; exact rfl) | apply W.block | apply W.skip | apply W.exit | apply W.ret | apply Fin.then_ret | apply Fin.then_exit | apply Fin.block_normal | apply Fin.block_ret | apply Fin.block_hit | (apply Fin.block_miss; exact rfl) | (apply O.addStr; exact rfl; exact rfl; omega; exact rfl))
      exact Fin.ret _ rfl Ent.rfl ⟨_, _, out, rfl, done (.inr hk), hi4, rfl⟩
  · (repeat' first | (apply O.move; exact rfl; exact rfl) | (apply O.assign; exact rfl; exact rfl) | apply W.seq | apply W.region | apply O.nil | apply Fin.next | (apply O.load; exact rfl; (repeat first | exact Rd.blk .zero rfl | assumption | apply Rd.tail); exact rfl) | (apply O.len; exact rfl; exact rfl) | (apply O.pick_t; exact rfl; exact rfl; exact rfl) | (apply O.pick_f; exact rfl; exact rfl; exact rfl) | (apply O.want; exact rfl) | (apply O.unwant; exact rfl; exact rfl) | (apply O.unwant0; exact rfl) | (apply O.lss_t; exact rfl; exact rfl; omega; exact rfl) | (apply O.lss_f; exact rfl; exact rfl; omega; exact rfl) | (apply O.lss_d; exact rfl; exact rfl; exact rfl; all_goals intro _) | (apply O.add64; exact rfl; exact rfl; omega; exact rfl) | (apply O.add; exact rfl; exact rfl; exact rfl) | (apply O.buildSlice; exact rfl; exact rfl; exact rfl; (repeat first | exact Bs.Parts.nil | apply Bs.Parts.one rfl rfl | apply Bs.Parts.one (Bs.cells_one (by assumption)) rfl | exact Bs.Parts.agg rfl Bs.Parts.nil); exact rfl; exact rfl; intro _) | (apply O.lssStr_t; exact rfl; exact rfl; assumption; exact rfl) | (apply O.lssStr_f; exact rfl; exact rfl; assumption; exact rfl) | (apply O.lssStr; exact rfl; exact rfl; exact rfl) | (apply O.lenS; exact rfl; exact rfl) | (apply O.indexAddr1; exact rfl; exact rfl; omega; exact rfl) | (apply O.indexAddrN; exact rfl; exact rfl; omega; exact rfl) | (apply O.indexAddr; exact rfl; exact rfl; omega; omega; exact rfl) | (apply W.cond_t; exact rfl) | (apply W.cond_f; exact rfl) | apply W.block | apply W.skip | apply W.exit | apply W.ret | apply Fin.then_ret | apply Fin.then_exit | apply Fin.block_normal | apply Fin.block_ret | apply Fin.block_hit | (apply Fin.block_miss; exact rfl) | (apply O.addStr; exact rfl; exact rfl; omega; exact rfl))
    exact Fin.ret _ rfl Ent.rfl ⟨_, _, out, rfl, done (.inl hlt), hi4, rfl⟩
/-- Texts, one behind the other. -/
def cat (l : List Txt) : List UInt8 := (l.map (·.2)).flatten
theorem cat_len {m : Nat} : ∀ {l : List Txt}, (∀ a ∈ l, a.2.length ≤ m) → (cat l).length ≤ m * l.length
  | [], _ => by simp [cat]
  | a :: l, h => by
    have h1 := h a (List.mem_cons_self ..)
    have h2 := cat_len (l := l) fun b hb => h b (List.mem_cons_of_mem _ hb)
    simp only [cat, List.map_cons, List.flatten_cons, List.length_append, List.length_cons, Nat.mul_add, Nat.mul_one] at h2 ⊢
    omega
theorem cat_take {l : List Txt} {i : Nat} (h : i < l.length) : cat (l.take (i + 1)) = cat (l.take i) ++ (l[i]'h).2 := by
  simp only [cat]
  rw [List.take_succ_eq_append_getElem h]
  simp only [List.map_append, List.map_cons, List.map_nil, List.flatten_append, List.flatten_cons, List.flatten_nil, List.append_nil]
theorem few_short {l l' : List Txt} {n most : Nat} (h : l'.map (·.2) = (l.take n).map (fun a => a.2.take most)) : l'.length ≤ n ∧ ∀ a ∈ l', a.2.length ≤ most := by
  constructor
  · have := congrArg List.length h
    simp at this; omega
  · intro a ha
    have h1 : a.2 ∈ l'.map (·.2) := List.mem_map.2 ⟨a, ha, rfl⟩
    rw [h] at h1
    obtain ⟨b, _, hb⟩ := List.mem_map.1 h1
    rw [← hb]; simp; omega
theorem Txts.tail {A : Res} {L : List Res} {l : List Txt} (h : Txts L l) : Txts (A :: L) l := fun a ha => (h a ha).tail
end Go.Proofs
