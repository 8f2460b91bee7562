/- WireTells: what is written, and what is read of any bytes, is what the document says. -/
import Derived.Test.YtjikmmgikhhkpaaLaw1Reads
import Derived.Test.YtjikmmgikhhkpaaRoom
namespace Go.Proofs
set_option linter.unusedVariables false
open Go.Bs
set_option linter.unusedSimpArgs false
attribute [local irreducible] Bs.Val Bs.Do Bs.O Bs.W Bs.Fin Bs.A Bs.Ct Bs.RdSl Bs.Rd Bs.Sat Bs.Blk Bs.Ob Bs.Own Bs.View Bs.Ent Bs.Ex Bs.All Bs.Pu Bs.Base Bs.sepL
theorem wireTells_spec (R : List Res) (e : World) (v1 v2 v : Value) (l a : List Ask1) (b : List UInt8) (hl : RdSl R 4 v1 l.length (l.flatMap Ask1.cells)) (ht : Asks1 R l) (ha : RdSl R 4 v2 a.length (a.flatMap Ask1.cells)) (hta : Asks1 R a) (hv : RdB R v b) (hk : b.length ≤ 140737488351232) :
    Ct Try.prog 5 #[v1, v2, v] e R (fun v' L' => v' = .bool true ∧ L' = R) := by
  refine Ct.of_sep (hv.shape (by omega)) ?_
  rintro ⟨⟨adv, cv, rfl, g3, g4, g5, g6⟩, _⟩
  refine Ct.enter (args := [_, _, _]) Try.func5 rfl Try.ntmps5 Try.results5 rfl ?_
  have at1 : ∀ {A : Res} {L : List Res} {l : List Ask1}, Asks1 L l → Asks1 (A :: L) l := fun h x hx => ⟨(h x hx).1, (h x hx).2.tail⟩
  (repeat' first | (apply O.move; exact rfl; exact rfl) | (apply O.assign; exact rfl; exact rfl) | apply W.seq | apply W.region | apply O.nil | apply Fin.next | (apply O.len; exact rfl; exact rfl) | (apply O.pick_t; exact rfl; exact rfl; exact rfl) | (apply O.pick_f; exact rfl; exact rfl; exact rfl) | (apply O.want; exact rfl) | (apply O.unwant; exact rfl; exact rfl) | (apply O.unwant0; exact rfl) | (apply O.lenS; exact rfl; exact rfl) | (apply O.sliceHi; exact rfl; exact rfl; omega; omega; exact rfl) | (apply O.sliceLo; exact rfl; exact rfl; omega; omega; exact rfl) | (apply O.sliceLoHi; exact rfl; exact rfl; exact rfl; omega; omega; omega; exact rfl) | apply W.ret | apply Fin.then_ret | (apply O.extract; exact rfl; exact rfl; exact rfl))
  refine O.call rfl rfl (write_spec R e _ l hl ht) ?_
  rintro _ _ ⟨ad1, c1, rfl, rfl⟩
  have B : (ops1 (l.take 40)).length ≤ 302 * 40 := by
    have a := ops1_len (l.take 40)
    rw [List.length_take] at a
    omega
  generalize ops1 (l.take 40) = X at *
  (repeat' first | (apply O.move; exact rfl; exact rfl) | (apply O.assign; exact rfl; exact rfl) | apply W.seq | apply W.region | apply O.nil | apply Fin.next | (apply O.len; exact rfl; exact rfl) | (apply O.pick_t; exact rfl; exact rfl; exact rfl) | (apply O.pick_f; exact rfl; exact rfl; exact rfl) | (apply O.want; exact rfl) | (apply O.unwant; exact rfl; exact rfl) | (apply O.unwant0; exact rfl) | (apply O.lenS; exact rfl; exact rfl) | (apply O.sliceHi; exact rfl; exact rfl; omega; omega; exact rfl) | (apply O.sliceLo; exact rfl; exact rfl; omega; omega; exact rfl) | (apply O.sliceLoHi; exact rfl; exact rfl; exact rfl; omega; omega; omega; exact rfl) | apply W.ret | apply Fin.then_ret | (apply O.extract; exact rfl; exact rfl; exact rfl))
  refine O.call rfl rfl (roomy_spec _ e _ b 165 hv.tail hk) ?_
  rintro _ _ ⟨g, rfl, rfl⟩
  have hlen := roomy_len b 165
  have hcut : ∀ L', RdB (OwnB (.slice (some ⟨g, 0, none⟩) (roomy b 165).length (roomy b 165).length) (roomy b 165) :: L') (.slice (some ⟨g, 0, none⟩) ((b.length : Int).toNat) (roomy b 165).length) b := fun L' => by
    have := RdB.cutHi (L := OwnB (.slice (some ⟨g, 0, none⟩) (roomy b 165).length (roomy b 165).length) (roomy b 165) :: L') (RdSl.own .zero) (k := b.length) (by omega)
    rw [show (roomy b 165).take b.length = b by simp [roomy]] at this
    exact this
  (repeat' first | (apply O.move; exact rfl; exact rfl) | (apply O.assign; exact rfl; exact rfl) | apply W.seq | apply W.region | apply O.nil | apply Fin.next | (apply O.len; exact rfl; exact rfl) | (apply O.pick_t; exact rfl; exact rfl; exact rfl) | (apply O.pick_f; exact rfl; exact rfl; exact rfl) | (apply O.want; exact rfl) | (apply O.unwant; exact rfl; exact rfl) | (apply O.unwant0; exact rfl) | (apply O.lenS; exact rfl; exact rfl) | (apply O.sliceHi; exact rfl; exact rfl; omega; omega; exact rfl) | (apply O.sliceLo; exact rfl; exact rfl; omega; omega; exact rfl) | (apply O.sliceLoHi; exact rfl; exact rfl; exact rfl; omega; omega; omega; exact rfl) | apply W.ret | apply Fin.then_ret | (apply O.extract; exact rfl; exact rfl; exact rfl))
  refine O.call rfl rfl (reads_spec _ e _ _ X a (RdSl.own (.succ .zero)) (by omega) ha.tail.tail (at1 (at1 hta))) ?_
  rintro _ _ ⟨rfl, rfl⟩
  (repeat' first | (apply O.move; exact rfl; exact rfl) | (apply O.assign; exact rfl; exact rfl) | apply W.seq | apply W.region | apply O.nil | apply Fin.next | (apply O.len; exact rfl; exact rfl) | (apply O.pick_t; exact rfl; exact rfl; exact rfl) | (apply O.pick_f; exact rfl; exact rfl; exact rfl) | (apply O.want; exact rfl) | (apply O.unwant; exact rfl; exact rfl) | (apply O.unwant0; exact rfl) | (apply O.lenS; exact rfl; exact rfl) | (apply O.sliceHi; exact rfl; exact rfl; omega; omega; exact rfl) | (apply O.sliceLo; exact rfl; exact rfl; omega; omega; exact rfl) | (apply O.sliceLoHi; exact rfl; exact rfl; exact rfl; omega; omega; omega; exact rfl) | apply W.ret | apply Fin.then_ret | (apply O.extract; exact rfl; exact rfl; exact rfl))
  refine O.call rfl rfl (reads_spec _ e _ _ b a (hcut _) (by omega) ha.tail.tail (at1 (at1 hta))) ?_
  rintro _ _ ⟨rfl, rfl⟩
  (repeat' first | (apply O.move; exact rfl; exact rfl) | (apply O.assign; exact rfl; exact rfl) | apply W.seq | apply W.region | apply O.nil | apply Fin.next | (apply O.len; exact rfl; exact rfl) | (apply O.pick_t; exact rfl; exact rfl; exact rfl) | (apply O.pick_f; exact rfl; exact rfl; exact rfl) | (apply O.want; exact rfl) | (apply O.unwant; exact rfl; exact rfl) | (apply O.unwant0; exact rfl) | (apply O.lenS; exact rfl; exact rfl) | (apply O.sliceHi; exact rfl; exact rfl; omega; omega; exact rfl) | (apply O.sliceLo; exact rfl; exact rfl; omega; omega; exact rfl) | (apply O.sliceLoHi; exact rfl; exact rfl; exact rfl; omega; omega; omega; exact rfl) | apply W.ret | apply Fin.then_ret | (apply O.extract; exact rfl; exact rfl; exact rfl))
  refine O.call rfl rfl (intact_spec _ e _ _ b 165 (RdSl.own .zero) hv.tail.tail hk) ?_
  rintro _ _ ⟨rfl, rfl⟩
  (repeat' first | (apply O.move; exact rfl; exact rfl) | (apply O.assign; exact rfl; exact rfl) | apply W.seq | apply W.region | apply O.nil | apply Fin.next | (apply O.len; exact rfl; exact rfl) | (apply O.pick_t; exact rfl; exact rfl; exact rfl) | (apply O.pick_f; exact rfl; exact rfl; exact rfl) | (apply O.want; exact rfl) | (apply O.unwant; exact rfl; exact rfl) | (apply O.unwant0; exact rfl) | (apply O.lenS; exact rfl; exact rfl) | (apply O.sliceHi; exact rfl; exact rfl; omega; omega; exact rfl) | (apply O.sliceLo; exact rfl; exact rfl; omega; omega; exact rfl) | (apply O.sliceLoHi; exact rfl; exact rfl; exact rfl; omega; omega; omega; exact rfl) | apply W.ret | apply Fin.then_ret | (apply O.extract; exact rfl; exact rfl; exact rfl))
  refine O.call rfl rfl (known1_spec _ e) ?_
  rintro _ _ ⟨rfl, rfl⟩
  (repeat' first | (apply O.move; exact rfl; exact rfl) | (apply O.assign; exact rfl; exact rfl) | apply W.seq | apply W.region | apply O.nil | apply Fin.next | (apply O.len; exact rfl; exact rfl) | (apply O.pick_t; exact rfl; exact rfl; exact rfl) | (apply O.pick_f; exact rfl; exact rfl; exact rfl) | (apply O.want; exact rfl) | (apply O.unwant; exact rfl; exact rfl) | (apply O.unwant0; exact rfl) | (apply O.lenS; exact rfl; exact rfl) | (apply O.sliceHi; exact rfl; exact rfl; omega; omega; exact rfl) | (apply O.sliceLo; exact rfl; exact rfl; omega; omega; exact rfl) | (apply O.sliceLoHi; exact rfl; exact rfl; exact rfl; omega; omega; omega; exact rfl) | apply W.ret | apply Fin.then_ret | (apply O.extract; exact rfl; exact rfl; exact rfl))
  exact Fin.ret R rfl (by (repeat first | exact Ent.rfl | exact Ent.nil | refine Ent.cons ?_ | (apply Ent.pull; exact (by (repeat first | exact Pull.zero | apply Pull.succ); done)) | refine Ent.drop ?_); done) ⟨rfl, rfl⟩
end Go.Proofs
