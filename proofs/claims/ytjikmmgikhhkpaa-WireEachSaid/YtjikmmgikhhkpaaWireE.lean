/- wire.Each: texts with their lengths ahead, one behind the other; and the document's own writing. -/
import Derived.Test.YtjikmmgikhhkpaaWireR
import Derived.Test.YtjikmmgikhhkpaaFew
namespace Go.Proofs
set_option linter.unusedVariables false
open Go.Bs
set_option linter.unusedSimpArgs false
attribute [local irreducible] Bs.Val Bs.Do Bs.O Bs.W Bs.Fin Bs.A Bs.Ct Bs.RdSl Bs.Rd Bs.Sat Bs.Blk Bs.Ob Bs.Own Bs.View Bs.Ent Bs.Ex Bs.All Bs.Pu Bs.Base Bs.sepL
/-- A text with its length ahead. -/
def enc (b : List UInt8) : List UInt8 := be b.length 2 ++ b
def encAll (l : List Txt) : List UInt8 := (l.map fun a => enc a.2).flatten
theorem enc_length (b : List UInt8) : (enc b).length = b.length + 2 := by simp [enc, be_length]; omega
theorem encAll_take {l : List Txt} {i : Nat} (h : i < l.length) : encAll (l.take (i + 1)) = encAll (l.take i) ++ enc (l[i]'h).2 := by
  simp only [encAll]
  rw [List.take_succ_eq_append_getElem h]
  simp only [List.map_append, List.map_cons, List.map_nil, List.flatten_append, List.flatten_cons, List.flatten_nil, List.append_nil]
theorem encAll_mono (l : List Txt) (i : Nat) : (encAll (l.take i)).length ≤ (encAll l).length := by
  conv => rhs; rw [← List.take_append_drop i l]
  simp only [encAll, List.map_append, List.flatten_append, List.length_append]
  omega
/-- The first 'k' texts are written; all, or the one behind them is too long. -/
theorem each_spec (R : List Res) (e : World) (g : Nat) (l : List UInt8) (v : Value) (ts : List Txt) (k : Nat) (hv : RdSl R 1 v ts.length (ts.map (·.1))) (ht : Txts R ts) (hk : k ≤ ts.length)
    (hl : l.length + (encAll (ts.take k)).length ≤ 140737488355328) (hs : ∀ a ∈ ts.take k, a.2.length ≤ 65535) (hb : ∀ h : k < ts.length, 65535 < (ts[k]'h).2.length) :
    Ct Try.prog 45 #[v, .func (.func 30) #[.pointer (some ⟨g, 0, none⟩)] #[]] e (Writer g l :: R) (fun v' L' => v' = .bool (decide (k = ts.length)) ∧ L' = Writer g (l ++ encAll (ts.take k)) :: R) := by
  refine Ct.of_sep (hv.tail.shape (by omega)) ?_
  rintro ⟨⟨ad, cap, rfl, h3, h4, h5, h6⟩, _⟩
  simp only [maxLen] at h4
  refine Ct.enter (args := [_, _]) Try.func45 rfl Try.ntmps45 Try.results45 rfl ?_
  (repeat' first | (apply O.move; exact rfl; exact rfl) | (apply O.assign; exact rfl; exact rfl) | apply W.seq | apply W.region | apply O.nil | apply Fin.next | (apply O.load; exact rfl; (focus ((repeat first | exact Rd.blk .zero rfl | assumption | apply Rd.tail); done)); exact rfl) | (apply O.len; exact rfl; exact rfl) | (apply O.not_t; exact rfl; exact rfl) | (apply O.not_f; exact rfl; exact rfl) | (apply O.lss_t; exact rfl; exact rfl; omega; exact rfl) | (apply O.lss_f; exact rfl; exact rfl; omega; exact rfl) | (apply O.lss_d; exact rfl; exact rfl; exact rfl; all_goals intro _) | (apply O.add64; exact rfl; exact rfl; omega; exact rfl) | (apply O.add; exact rfl; exact rfl; exact rfl) | (apply O.lssStr_t; exact rfl; exact rfl; assumption; exact rfl) | (apply O.lssStr_f; exact rfl; exact rfl; assumption; exact rfl) | (apply O.lssStr; exact rfl; exact rfl; exact rfl) | (apply O.lenS; exact rfl; exact rfl) | (apply O.indexAddr1; exact rfl; exact rfl; omega; exact rfl) | (apply O.indexAddrN; exact rfl; exact rfl; omega; exact rfl) | (apply O.indexAddr; exact rfl; exact rfl; omega; omega; exact rfl) | (apply W.cond_t; exact rfl) | (apply W.cond_f; exact rfl) | apply W.block | apply W.skip | apply W.exit | apply W.ret | apply Fin.then_ret | apply Fin.then_exit | apply Fin.block_normal | apply Fin.block_ret | apply Fin.block_hit | (apply Fin.block_miss; exact rfl) | (apply O.addStr; exact rfl; exact rfl; omega; exact rfl))
  refine W.loop (ι := Nat) (fun i => [(1, .func (.func 30) #[.pointer (some ⟨g, 0, none⟩)] #[]), (7, .slice ad ts.length cap), (8, .int .i64 ts.length), (9, .int .i64 i)])
    (fun i => Writer g (l ++ encAll (ts.take i)) :: R) (fun i => i ≤ k) (fun i => k - i) 0 (Nat.zero_le _) (sub_cons rfl (sub_cons rfl (sub_cons rfl (sub_cons rfl sub_nil)))) (by simp [encAll]; exact Ent.rfl) ?_
  intro i hi
  by_cases hlt : i < ts.length
  · rcases h6 with h6 | ⟨gl, ol, rfl⟩
    · omega
    have hrd : Rd R ⟨gl, ol + i, none⟩ (ts[i]'hlt).1 := RdSl.elem hv (by rw [List.getElem?_map, List.getElem?_eq_getElem hlt]; rfl)
    have ti := ht _ (List.getElem_mem hlt)
    by_cases hik : i < k
    · have hsi := hs (ts[i]'hlt) (by rw [List.mem_take_iff_getElem]; exact ⟨i, by omega, rfl⟩)
      have hm : (encAll (ts.take (i + 1))).length ≤ (encAll (ts.take k)).length := by
        have := encAll_mono (ts.take k) (i + 1)
        rwa [List.take_take, Nat.min_eq_left (by omega)] at this
      rw [encAll_take hlt, List.length_append, enc_length] at hm
      (repeat' first | (apply O.move; exact rfl; exact rfl) | (apply O.assign; exact rfl; exact rfl) | apply W.seq | apply W.region | apply O.nil | apply Fin.next | (apply O.load; exact rfl; (focus ((repeat first | exact Rd.blk .zero rfl | assumption | apply Rd.tail); done)); exact rfl) | (apply O.len; exact rfl; exact rfl) | (apply O.not_t; exact rfl; exact rfl) | (apply O.not_f; exact rfl; exact rfl) | (apply O.lss_t; exact rfl; exact rfl; omega; exact rfl) | (apply O.lss_f; exact rfl; exact rfl; omega; exact rfl) | (apply O.lss_d; exact rfl; exact rfl; exact rfl; all_goals intro _) | (apply O.add64; exact rfl; exact rfl; omega; exact rfl) | (apply O.add; exact rfl; exact rfl; exact rfl) | (apply O.lssStr_t; exact rfl; exact rfl; assumption; exact rfl) | (apply O.lssStr_f; exact rfl; exact rfl; assumption; exact rfl) | (apply O.lssStr; exact rfl; exact rfl; exact rfl) | (apply O.lenS; exact rfl; exact rfl) | (apply O.indexAddr1; exact rfl; exact rfl; omega; exact rfl) | (apply O.indexAddrN; exact rfl; exact rfl; omega; exact rfl) | (apply O.indexAddr; exact rfl; exact rfl; omega; omega; exact rfl) | (apply W.cond_t; exact rfl) | (apply W.cond_f; exact rfl) | apply W.block | apply W.skip | apply W.exit | apply W.ret | apply Fin.then_ret | apply Fin.then_exit | apply Fin.block_normal | apply Fin.block_ret | apply Fin.block_hit | (apply Fin.block_miss; exact rfl) | (apply O.addStr; exact rfl; exact rfl; omega; exact rfl))
      refine O.callV (us := [_]) (ws := []) rfl rfl rfl (bytes_spec _ e g _ (ts[i]'hlt).2 _ ti (by rw [List.length_append]; omega) hsi) ?_
      rintro _ _ ⟨rfl, rfl⟩
      (repeat' first | (apply O.move; exact rfl; exact rfl) | (apply O.assign; exact rfl; exact rfl) | apply W.seq | apply W.region | apply O.nil | apply Fin.next | (apply O.load; exact rfl; (focus ((repeat first | exact Rd.blk .zero rfl | assumption | apply Rd.tail); done)); exact rfl) | (apply O.len; exact rfl; exact rfl) | (apply O.not_t; exact rfl; exact rfl) | (apply O.not_f; exact rfl; exact rfl) | (apply O.lss_t; exact rfl; exact rfl; omega; exact rfl) | (apply O.lss_f; exact rfl; exact rfl; omega; exact rfl) | (apply O.lss_d; exact rfl; exact rfl; exact rfl; all_goals intro _) | (apply O.add64; exact rfl; exact rfl; omega; exact rfl) | (apply O.add; exact rfl; exact rfl; exact rfl) | (apply O.lssStr_t; exact rfl; exact rfl; assumption; exact rfl) | (apply O.lssStr_f; exact rfl; exact rfl; assumption; exact rfl) | (apply O.lssStr; exact rfl; exact rfl; exact rfl) | (apply O.lenS; exact rfl; exact rfl) | (apply O.indexAddr1; exact rfl; exact rfl; omega; exact rfl) | (apply O.indexAddrN; exact rfl; exact rfl; omega; exact rfl) | (apply O.indexAddr; exact rfl; exact rfl; omega; omega; exact rfl) | (apply W.cond_t; exact rfl) | (apply W.cond_f; exact rfl) | apply W.block | apply W.skip | apply W.exit | apply W.ret | apply Fin.then_ret | apply Fin.then_exit | apply Fin.block_normal | apply Fin.block_ret | apply Fin.block_hit | (apply Fin.block_miss; exact rfl) | (apply O.addStr; exact rfl; exact rfl; omega; exact rfl))
      refine Fin.round (i + 1) hik (by show k - (i + 1) < k - i; omega) (sub_cons rfl (sub_cons rfl (sub_cons rfl (sub_cons rfl sub_nil)))) ?_
      rw [encAll_take hlt, enc]
      simp only [List.append_assoc]
      exact Ent.rfl
    · have hki : i = k := by omega
      subst hki
      (repeat' first | (apply O.move; exact rfl; exact rfl) | (apply O.assign; exact rfl; exact rfl) | apply W.seq | apply W.region | apply O.nil | apply Fin.next | (apply O.load; exact rfl; (focus ((repeat first | exact Rd.blk .zero rfl | assumption | apply Rd.tail); done)); exact rfl) | (apply O.len; exact rfl; exact rfl) | (apply O.not_t; exact rfl; exact rfl) | (apply O.not_f; exact rfl; exact rfl) | (apply O.lss_t; exact rfl; exact rfl; omega; exact rfl) | (apply O.lss_f; exact rfl; exact rfl; omega; exact rfl) | (apply O.lss_d; exact rfl; exact rfl; exact rfl; all_goals intro _) | (apply O.add64; exact rfl; exact rfl; omega; exact rfl) | (apply O.add; exact rfl; exact rfl; exact rfl) | (apply O.lssStr_t; exact rfl; exact rfl; assumption; exact rfl) | (apply O.lssStr_f; exact rfl; exact rfl; assumption; exact rfl) | (apply O.lssStr; exact rfl; exact rfl; exact rfl) | (apply O.lenS; exact rfl; exact rfl) | (apply O.indexAddr1; exact rfl; exact rfl; omega; exact rfl) | (apply O.indexAddrN; exact rfl; exact rfl; omega; exact rfl) | (apply O.indexAddr; exact rfl; exact rfl; omega; omega; exact rfl) | (apply W.cond_t; exact rfl) | (apply W.cond_f; exact rfl) | apply W.block | apply W.skip | apply W.exit | apply W.ret | apply Fin.then_ret | apply Fin.then_exit | apply Fin.block_normal | apply Fin.block_ret | apply Fin.block_hit | (apply Fin.block_miss; exact rfl) | (apply O.addStr; exact rfl; exact rfl; omega; exact rfl))
      refine O.callV (us := [_]) (ws := []) rfl rfl rfl (bytes_long _ e g _ (ts[i]'hlt).2 _ ti (hb hlt)) ?_
      rintro _ _ ⟨rfl, rfl⟩
      (repeat' first | (apply O.move; exact rfl; exact rfl) | (apply O.assign; exact rfl; exact rfl) | apply W.seq | apply W.region | apply O.nil | apply Fin.next | (apply O.load; exact rfl; (focus ((repeat first | exact Rd.blk .zero rfl | assumption | apply Rd.tail); done)); exact rfl) | (apply O.len; exact rfl; exact rfl) | (apply O.not_t; exact rfl; exact rfl) | (apply O.not_f; exact rfl; exact rfl) | (apply O.lss_t; exact rfl; exact rfl; omega; exact rfl) | (apply O.lss_f; exact rfl; exact rfl; omega; exact rfl) | (apply O.lss_d; exact rfl; exact rfl; exact rfl; all_goals intro _) | (apply O.add64; exact rfl; exact rfl; omega; exact rfl) | (apply O.add; exact rfl; exact rfl; exact rfl) | (apply O.lssStr_t; exact rfl; exact rfl; assumption; exact rfl) | (apply O.lssStr_f; exact rfl; exact rfl; assumption; exact rfl) | (apply O.lssStr; exact rfl; exact rfl; exact rfl) | (apply O.lenS; exact rfl; exact rfl) | (apply O.indexAddr1; exact rfl; exact rfl; omega; exact rfl) | (apply O.indexAddrN; exact rfl; exact rfl; omega; exact rfl) | (apply O.indexAddr; exact rfl; exact rfl; omega; omega; exact rfl) | (apply W.cond_t; exact rfl) | (apply W.cond_f; exact rfl) | apply W.block | apply W.skip | apply W.exit | apply W.ret | apply Fin.then_ret | apply Fin.then_exit | apply Fin.block_normal | apply Fin.block_ret | apply Fin.block_hit | (apply Fin.block_miss; exact rfl) | (apply O.addStr; exact rfl; exact rfl; omega; exact rfl))
      exact Fin.ret _ rfl Ent.rfl ⟨by simp [show i ≠ ts.length by omega]; rfl, rfl⟩
  · have hki : i = k := by omega
    subst hki
    have : i = ts.length := by omega
    subst this
    (repeat' first | (apply O.move; exact rfl; exact rfl) | (apply O.assign; exact rfl; exact rfl) | apply W.seq | apply W.region | apply O.nil | apply Fin.next | (apply O.load; exact rfl; (focus ((repeat first | exact Rd.blk .zero rfl | assumption | apply Rd.tail); done)); exact rfl) | (apply O.len; exact rfl; exact rfl) | (apply O.not_t; exact rfl; exact rfl) | (apply O.not_f; exact rfl; exact rfl) | (apply O.lss_t; exact rfl; exact rfl; omega; exact rfl) | (apply O.lss_f; exact rfl; exact rfl; omega; exact rfl) | (apply O.lss_d; exact rfl; exact rfl; exact rfl; all_goals intro _) | (apply O.add64; exact rfl; exact rfl; omega; exact rfl) | (apply O.add; exact rfl; exact rfl; exact rfl) | (apply O.lssStr_t; exact rfl; exact rfl; assumption; exact rfl) | (apply O.lssStr_f; exact rfl; exact rfl; assumption; exact rfl) | (apply O.lssStr; exact rfl; exact rfl; exact rfl) | (apply O.lenS; exact rfl; exact rfl) | (apply O.indexAddr1; exact rfl; exact rfl; omega; exact rfl) | (apply O.indexAddrN; exact rfl; exact rfl; omega; exact rfl) | (apply O.indexAddr; exact rfl; exact rfl; omega; omega; exact rfl) | (apply W.cond_t; exact rfl) | (apply W.cond_f; exact rfl) | apply W.block | apply W.skip | apply W.exit | apply W.ret | apply Fin.then_ret | apply Fin.then_exit | apply Fin.block_normal | apply Fin.block_ret | apply Fin.block_hit | (apply Fin.block_miss; exact rfl) | (apply O.addStr; exact rfl; exact rfl; omega; exact rfl))
    exact Fin.ret _ rfl Ent.rfl ⟨by simp; rfl, rfl⟩
theorem eachW_spec (R : List Res) (e : World) (g : Nat) (l : List UInt8) (v : Value) (ts : List Txt) (k : Nat) (hv : RdSl R 1 v ts.length (ts.map (·.1))) (ht : Txts R ts) (hk : k ≤ ts.length)
    (hl : l.length + (encAll (ts.take k)).length ≤ 140737488355328) (hs : ∀ a ∈ ts.take k, a.2.length ≤ 65535) (hb : ∀ h : k < ts.length, 65535 < (ts[k]'h).2.length) :
    Ct Try.prog 29 #[.pointer (some ⟨g, 0, none⟩), v] e (Writer g l :: R) (fun v' L' => v' = .bool (decide (k = ts.length)) ∧ L' = Writer g (l ++ encAll (ts.take k)) :: R) := by
  refine Ct.enter (args := [_, _]) Try.func29 rfl Try.ntmps29 Try.results29 rfl ?_
  (repeat' first | (apply O.move; exact rfl; exact rfl) | (apply O.assign; exact rfl; exact rfl) | apply W.seq | apply W.region | apply O.nil | apply Fin.next | (apply O.eqlPtrS; exact rfl; exact rfl; exact rfl) | (apply O.eqlPtrN; exact rfl; exact rfl; exact rfl) | (apply O.eqlSlS; exact rfl; exact rfl; exact rfl) | (apply O.eqlSlN; exact rfl; exact rfl; exact rfl) | (apply O.eql_t; exact rfl; exact rfl; omega; exact rfl) | (apply O.eql_f; exact rfl; exact rfl; omega; exact rfl) | (apply O.eql_d; exact rfl; exact rfl; exact rfl; all_goals intro _) | (apply O.eqlStr_t; exact rfl; exact rfl; (first | exact rfl | assumption); exact rfl) | (apply O.eqlStr_f; exact rfl; exact rfl; assumption; exact rfl) | (apply O.eqlStr_d; exact rfl; exact rfl; exact rfl; all_goals intro _) | (apply O.eqlBool; exact rfl; exact rfl; exact rfl) | (apply W.cond_t; exact rfl) | (apply W.cond_f; exact rfl) | apply W.skip | apply W.ret | apply Fin.then_ret | (apply O.makeFunc; exact rfl; exact rfl; exact rfl))
  refine O.call rfl rfl (each_spec R e g l v ts k hv ht hk hl hs hb) ?_
  rintro _ _ ⟨rfl, rfl⟩
  (repeat' first | (apply O.move; exact rfl; exact rfl) | (apply O.assign; exact rfl; exact rfl) | apply W.seq | apply W.region | apply O.nil | apply Fin.next | (apply O.eqlPtrS; exact rfl; exact rfl; exact rfl) | (apply O.eqlPtrN; exact rfl; exact rfl; exact rfl) | (apply O.eqlSlS; exact rfl; exact rfl; exact rfl) | (apply O.eqlSlN; exact rfl; exact rfl; exact rfl) | (apply O.eql_t; exact rfl; exact rfl; omega; exact rfl) | (apply O.eql_f; exact rfl; exact rfl; omega; exact rfl) | (apply O.eql_d; exact rfl; exact rfl; exact rfl; all_goals intro _) | (apply O.eqlStr_t; exact rfl; exact rfl; (first | exact rfl | assumption); exact rfl) | (apply O.eqlStr_f; exact rfl; exact rfl; assumption; exact rfl) | (apply O.eqlStr_d; exact rfl; exact rfl; exact rfl; all_goals intro _) | (apply O.eqlBool; exact rfl; exact rfl; exact rfl) | (apply W.cond_t; exact rfl) | (apply W.cond_f; exact rfl) | apply W.skip | apply W.ret | apply Fin.then_ret | (apply O.makeFunc; exact rfl; exact rfl; exact rfl))
  exact Fin.ret _ rfl Ent.rfl ⟨rfl, rfl⟩
theorem shr_byte (n j b : Nat) (hj : j ≤ b) : IntKind.u8.wrap ((n : Int).fdiv (2 ^ (min j b))) = ((UInt8.ofNat (n / 2 ^ j)).toNat : Int) := by
  rw [Nat.min_eq_left hj, Int.fdiv_eq_ediv_of_nonneg _ (by exact Int.le_of_lt (Int.pow_pos (by omega)))]
  have h2 : (2 : Int) ^ j = ((2 ^ j : Nat) : Int) := by simp
  rw [h2, ← Int.natCast_ediv]
  unfold IntKind.wrap
  simp [IntKind.bits, IntKind.signed]
theorem low_byte (n : Nat) : IntKind.u8.wrap (n : Int) = ((UInt8.ofNat n).toNat : Int) := by
  unfold IntKind.wrap
  simp [IntKind.bits, IntKind.signed]
/-- The document's: a text behind what there is. -/
theorem refBytes_spec (R : List Res) (e : World) (ad : Option Addr) (c : Nat) (b x : List UInt8) (v : Value) (h : RdB R v x) (hx : x.length ≤ 65535) (hl : b.length + x.length + 2 ≤ 140737488355328) :
    Ct Try.prog 31 #[.slice ad b.length c, v] e (OwnB (.slice ad b.length c) b :: R) (fun v' L' => ∃ ad c, v' = .slice ad (b ++ enc x).length c ∧ L' = OwnB (.slice ad (b ++ enc x).length c) (b ++ enc x) :: R) := by
  refine Ct.of_sep ((RdB.tail h).shape (by omega)) ?_
  rintro ⟨⟨ad1, c1, rfl, h3, h4, h5, h6⟩, _⟩
  refine Ct.enter (args := [_, _]) Try.func31 rfl Try.ntmps31 Try.results31 rfl ?_
  (repeat' first | (apply O.move; exact rfl; exact rfl) | (apply O.assign; exact rfl; exact rfl) | apply W.seq | apply W.region | apply O.nil | apply Fin.next | (apply O.len; exact rfl; exact rfl) | (apply O.convIntE; exact rfl; (first | exact wrap_i64 (by omega) (by omega) | exact wrap_u32 (by omega) (by omega) | exact wrap_u8 (by omega) (by omega)); exact rfl) | (apply O.convInt; exact rfl; exact rfl) | (apply O.shr; exact rfl; exact rfl; omega; exact rfl) | (apply O.bytes; exact rfl; (focus ((repeat first | exact RdSl.own .zero | exact RdSl.view .zero | assumption | apply RdB.tail); done)); exact rfl) | (apply O.convSl; exact rfl; (focus ((repeat first | exact Upd.zero | apply Upd.succ); done)); exact rfl) | (apply O.buildSlice; exact rfl; exact rfl; exact rfl; (focus ((repeat first | exact Bs.Parts.nil | apply Bs.Parts.one rfl rfl | apply Bs.Parts.one (Bs.cells_one (by assumption)) rfl | exact Bs.Parts.agg rfl Bs.Parts.nil); done)); exact rfl; exact rfl; intro _) | (apply O.lenS; exact rfl; exact rfl) | apply W.ret | apply Fin.then_ret)
  have e1 : [Value.int .u8 (IntKind.u8.wrap ((x.length : Int).fdiv (2 ^ min (8 : Int).toNat IntKind.i64.bits))), .int .u8 (IntKind.u8.wrap (x.length : Int))] = (be x.length 2).map u8 := by
    have a := shr_byte x.length 8 64 (by omega)
    have b := low_byte x.length
    show [Value.int .u8 (IntKind.u8.wrap ((x.length : Int).fdiv (2 ^ min 8 64))), .int .u8 (IntKind.u8.wrap (x.length : Int))] = _
    rw [a, b]
    simp [be, u8]
  rw [e1]
  refine O.do (Do.append rfl rfl rfl (.succ .zero) (RdSl.blk .zero (by rw [List.length_map, be_length]) (by simp [maxLen])) rfl rfl u8_one (by simp only [maxLen]; omega) (by omega) fun ad2 c2 _ => ?_)
  (repeat' first | (apply O.move; exact rfl; exact rfl) | (apply O.assign; exact rfl; exact rfl) | apply W.seq | apply W.region | apply O.nil | apply Fin.next | (apply O.len; exact rfl; exact rfl) | (apply O.convIntE; exact rfl; (first | exact wrap_i64 (by omega) (by omega) | exact wrap_u32 (by omega) (by omega) | exact wrap_u8 (by omega) (by omega)); exact rfl) | (apply O.convInt; exact rfl; exact rfl) | (apply O.shr; exact rfl; exact rfl; omega; exact rfl) | (apply O.bytes; exact rfl; (focus ((repeat first | exact RdSl.own .zero | exact RdSl.view .zero | assumption | apply RdB.tail); done)); exact rfl) | (apply O.convSl; exact rfl; (focus ((repeat first | exact Upd.zero | apply Upd.succ); done)); exact rfl) | (apply O.buildSlice; exact rfl; exact rfl; exact rfl; (focus ((repeat first | exact Bs.Parts.nil | apply Bs.Parts.one rfl rfl | apply Bs.Parts.one (Bs.cells_one (by assumption)) rfl | exact Bs.Parts.agg rfl Bs.Parts.nil); done)); exact rfl; exact rfl; intro _) | (apply O.lenS; exact rfl; exact rfl) | apply W.ret | apply Fin.then_ret)
  refine O.do (Do.append rfl rfl rfl .zero (RdSl.tail h) rfl rfl u8_one (by simp only [maxLen]; omega) (by omega) fun ad3 c3 _ => ?_)
  (repeat' first | (apply O.move; exact rfl; exact rfl) | (apply O.assign; exact rfl; exact rfl) | apply W.seq | apply W.region | apply O.nil | apply Fin.next | (apply O.len; exact rfl; exact rfl) | (apply O.convIntE; exact rfl; (first | exact wrap_i64 (by omega) (by omega) | exact wrap_u32 (by omega) (by omega) | exact wrap_u8 (by omega) (by omega)); exact rfl) | (apply O.convInt; exact rfl; exact rfl) | (apply O.shr; exact rfl; exact rfl; omega; exact rfl) | (apply O.bytes; exact rfl; (focus ((repeat first | exact RdSl.own .zero | exact RdSl.view .zero | assumption | apply RdB.tail); done)); exact rfl) | (apply O.convSl; exact rfl; (focus ((repeat first | exact Upd.zero | apply Upd.succ); done)); exact rfl) | (apply O.buildSlice; exact rfl; exact rfl; exact rfl; (focus ((repeat first | exact Bs.Parts.nil | apply Bs.Parts.one rfl rfl | apply Bs.Parts.one (Bs.cells_one (by assumption)) rfl | exact Bs.Parts.agg rfl Bs.Parts.nil); done)); exact rfl; exact rfl; intro _) | (apply O.lenS; exact rfl; exact rfl) | apply W.ret | apply Fin.then_ret)
  have e2 : (b ++ enc x).length = b.length + 2 + x.length := by rw [List.length_append, enc_length]; omega
  have e3 : (b ++ enc x).map u8 = b.map u8 ++ (be x.length 2).map u8 ++ x.map u8 := by simp only [enc, List.map_append, List.append_assoc]
  refine Fin.ret (OwnB (.slice ad3 (b ++ enc x).length c3) (b ++ enc x) :: R) rfl ?_ ⟨ad3, c3, by rw [e2]; rfl, rfl⟩
  unfold OwnB
  rw [e2, e3]
  exact (by (repeat first | exact Ent.rfl | exact Ent.nil | refine Ent.cons ?_ | (apply Ent.pull; exact (by (repeat first | exact Pull.zero | apply Pull.succ); done)) | refine Ent.drop ?_); done)
theorem refNum_spec (R : List Res) (e : World) (ad : Option Addr) (c : Nat) (b : List UInt8) (n : Nat) (hn : n < 4294967296) (hl : b.length + 4 ≤ 140737488355328) :
    Ct Try.prog 37 #[.slice ad b.length c, .int .u32 n] e (OwnB (.slice ad b.length c) b :: R) (fun v' L' => ∃ ad c, v' = .slice ad (b ++ be n 4).length c ∧ L' = OwnB (.slice ad (b ++ be n 4).length c) (b ++ be n 4) :: R) := by
  refine Ct.enter (args := [_, _]) Try.func37 rfl Try.ntmps37 Try.results37 rfl ?_
  (repeat' first | (apply O.move; exact rfl; exact rfl) | (apply O.assign; exact rfl; exact rfl) | apply W.seq | apply W.region | apply O.nil | apply Fin.next | (apply O.convIntE; exact rfl; (first | exact wrap_i64 (by omega) (by omega) | exact wrap_u32 (by omega) (by omega) | exact wrap_u8 (by omega) (by omega)); exact rfl) | (apply O.convInt; exact rfl; exact rfl) | (apply O.shr; exact rfl; exact rfl; omega; exact rfl) | (apply O.bytes; exact rfl; (focus ((repeat first | exact RdSl.own .zero | exact RdSl.view .zero | assumption | apply RdB.tail); done)); exact rfl) | (apply O.convSl; exact rfl; (focus ((repeat first | exact Upd.zero | apply Upd.succ); done)); exact rfl) | (apply O.buildSlice; exact rfl; exact rfl; exact rfl; (focus ((repeat first | exact Bs.Parts.nil | apply Bs.Parts.one rfl rfl | apply Bs.Parts.one (Bs.cells_one (by assumption)) rfl | exact Bs.Parts.agg rfl Bs.Parts.nil); done)); exact rfl; exact rfl; intro _) | apply W.ret | apply Fin.then_ret)
  have e1 : [Value.int .u8 (IntKind.u8.wrap ((n : Int).fdiv (2 ^ min (24 : Int).toNat IntKind.u32.bits))), .int .u8 (IntKind.u8.wrap ((n : Int).fdiv (2 ^ min (16 : Int).toNat IntKind.u32.bits))), .int .u8 (IntKind.u8.wrap ((n : Int).fdiv (2 ^ min (8 : Int).toNat IntKind.u32.bits))), .int .u8 (IntKind.u8.wrap (n : Int))] = (be n 4).map u8 := by
    have a1 := shr_byte n 24 32 (by omega)
    have a2 := shr_byte n 16 32 (by omega)
    have a3 := shr_byte n 8 32 (by omega)
    have b := low_byte n
    show [Value.int .u8 (IntKind.u8.wrap ((n : Int).fdiv (2 ^ min 24 32))), .int .u8 (IntKind.u8.wrap ((n : Int).fdiv (2 ^ min 16 32))), .int .u8 (IntKind.u8.wrap ((n : Int).fdiv (2 ^ min 8 32))), .int .u8 (IntKind.u8.wrap (n : Int))] = _
    rw [a1, a2, a3, b]
    simp [be, u8]
  rw [e1]
  refine O.do (Do.append rfl rfl rfl (.succ .zero) (RdSl.blk .zero (by rw [List.length_map, be_length]) (by simp [maxLen])) rfl rfl u8_one (by simp only [maxLen]; omega) (by omega) fun ad2 c2 _ => ?_)
  (repeat' first | (apply O.move; exact rfl; exact rfl) | (apply O.assign; exact rfl; exact rfl) | apply W.seq | apply W.region | apply O.nil | apply Fin.next | (apply O.convIntE; exact rfl; (first | exact wrap_i64 (by omega) (by omega) | exact wrap_u32 (by omega) (by omega) | exact wrap_u8 (by omega) (by omega)); exact rfl) | (apply O.convInt; exact rfl; exact rfl) | (apply O.shr; exact rfl; exact rfl; omega; exact rfl) | (apply O.bytes; exact rfl; (focus ((repeat first | exact RdSl.own .zero | exact RdSl.view .zero | assumption | apply RdB.tail); done)); exact rfl) | (apply O.convSl; exact rfl; (focus ((repeat first | exact Upd.zero | apply Upd.succ); done)); exact rfl) | (apply O.buildSlice; exact rfl; exact rfl; exact rfl; (focus ((repeat first | exact Bs.Parts.nil | apply Bs.Parts.one rfl rfl | apply Bs.Parts.one (Bs.cells_one (by assumption)) rfl | exact Bs.Parts.agg rfl Bs.Parts.nil); done)); exact rfl; exact rfl; intro _) | apply W.ret | apply Fin.then_ret)
  have e2 : (b ++ be n 4).length = b.length + 4 := by rw [List.length_append, be_length]
  refine Fin.ret (OwnB (.slice ad2 (b ++ be n 4).length c2) (b ++ be n 4) :: R) rfl ?_ ⟨ad2, c2, by rw [e2]; rfl, rfl⟩
  unfold OwnB
  rw [e2, List.map_append]
  exact (by (repeat first | exact Ent.rfl | exact Ent.nil | refine Ent.cons ?_ | (apply Ent.pull; exact (by (repeat first | exact Pull.zero | apply Pull.succ); done)) | refine Ent.drop ?_); done)
end Go.Proofs
