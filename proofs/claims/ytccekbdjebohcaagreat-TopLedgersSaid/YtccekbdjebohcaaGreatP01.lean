/- Part 1 of a proof of this: TopLedgers returns true for any arguments; nothing of the old memory is turned. No condition. -/
import Derived.WalkKit
import Derived.OrdersHeld
import Derived.Laws.BytesArg
import Derived.KernelRfl
import Derived.Laws.MakeOwn
import Derived.Laws.CopyRow
import Derived.Laws.IdiomCopy
import Derived.Test.YtccekbdjebohcaaGreatProg
import Derived.Test.YtccekbdjebohcaaGreatRows
import Derived.ProofKit
import Derived.OpenShut
import Derived.SizedLaws
import Derived.RangeFuncRecord
import Derived.RangeFuncSeq
import Derived.TacticsIn
import Derived.MapKept
import Derived.DeepKeys
import Derived.DeepKeys3
set_option linter.unusedVariables false
set_option linter.unusedSimpArgs false
namespace Go.Bs
abbrev Heap:=Nat→Option Obj
def Heap.le (h k:Heap):Prop:=∀ b o,h b=some o→k b=some o
def Heap.apart (h k:Heap):Prop:=∀ b o,h b=some o→k b=none
def Heap.both (h k:Heap):Heap:=fun b=>(h b).or (k b)
theorem Heap.le_refl (h:Heap):Heap.le h h:=fun _ _ e=>e
theorem Heap.le_trans {h k l:Heap} (a:Heap.le h k) (b:Heap.le k l):Heap.le h l:=fun _ _ e=>b _ _ (a _ _ e)
theorem Heap.apart_symm {h k:Heap} (a:Heap.apart h k):Heap.apart k h:=fun b o e=>by
 cases hb:h b with
 | none=>rfl
 | some o'=>rw [a b o' hb] at e;cases e
theorem Heap.apart_le {h h' k k':Heap} (a:Heap.apart h k) (b:Heap.le h' h) (c:Heap.le k' k):Heap.apart h' k':=fun i o e=>by
 cases hb:k' i with
 | none=>rfl
 | some o'=>have h1:=c i o' hb;rw [a i o (b _ _ e)] at h1;cases h1
theorem Heap.le_left (h k:Heap):Heap.le h (Heap.both h k):=fun b o e=>by simp [Heap.both,e]
theorem Heap.le_right {h k:Heap} (a:Heap.apart h k):Heap.le k (Heap.both h k):=fun b o e=>by
 simp [Heap.both,Heap.apart_symm a b o e,e]
theorem Heap.both_le {h k l:Heap} (a:Heap.le h l) (b:Heap.le k l):Heap.le (Heap.both h k) l:=fun i o e=>by
 simp only [Heap.both] at e
 cases hb:h i with
 | none=>rw [hb] at e;exact b _ _ (by simpa using e)
 | some o'=>rw [hb] at e;simp at e;subst e;exact a _ _ hb
theorem Heap.both_apart {h k l:Heap} (a:Heap.apart h l) (b:Heap.apart k l):Heap.apart (Heap.both h k) l:=fun i o e=>by
 simp only [Heap.both] at e
 cases hb:h i with
 | none=>rw [hb] at e;exact b _ _ (by simpa using e)
 | some o'=>exact a _ _ hb
abbrev Res:=Heap→Prop
def sepL:List Res→Heap→Prop
 | [],_=>True
 | A::L,h=>∃ h1 h2,Heap.apart h1 h2∧Heap.le h1 h∧Heap.le h2 h∧A h1∧sepL L h2
theorem sepL_mono:∀ {L:List Res} {h k:Heap},Heap.le h k→sepL L h→sepL L k
 | [],_,_,_,_=>trivial
 | _::_,_,_,hk,⟨h1,h2,a,b,c,d,e⟩=>⟨h1,h2,a,Heap.le_trans b hk,Heap.le_trans c hk,d,e⟩
theorem sepL_swap {A B:Res} {L:List Res} {h:Heap}:sepL (A::B::L) h→sepL (B::A::L) h:=by
 rintro ⟨h1,h2,a,b,c,hA,h3,h4,a',b',c',hB,hL⟩;refine ⟨h3,Heap.both h1 h4,?_,Heap.le_trans b' c,Heap.both_le b (Heap.le_trans c' c),hB,h1,h4,?_,Heap.le_left _ _,Heap.le_right ?_,hA,hL⟩
 ·exact Heap.apart_symm (Heap.both_apart (Heap.apart_le a (Heap.le_refl _) b') (Heap.apart_symm a'))
 ·exact Heap.apart_le a (Heap.le_refl _) c'
 ·exact Heap.apart_le a (Heap.le_refl _) c'
theorem sepL_cons {A:Res} {L L':List Res} {h:Heap} (f:∀ k,sepL L k→sepL L' k):sepL (A::L) h→sepL (A::L') h:=by
 rintro ⟨h1,h2,a,b,c,hA,hL⟩;exact ⟨h1,h2,a,b,c,hA,f _ hL⟩
theorem sepL_head {A B:Res} {L:List Res} {h:Heap} (f:∀ k,A k→B k):sepL (A::L) h→sepL (B::L) h:=by
 rintro ⟨h1,h2,a,b,c,hA,hL⟩;exact ⟨h1,h2,a,b,c,f _ hA,hL⟩
theorem sepL_drop {A:Res} {L:List Res} {h:Heap}:sepL (A::L) h→sepL L h:=by
 rintro ⟨_,_,_,_,c,_,hL⟩;exact sepL_mono c hL
def Ent (L L':List Res):Prop:=∀ h,sepL L h→sepL L' h
theorem Ent.rfl {L:List Res}:Ent L L:=fun _ h=>h
theorem Ent.trans {A B C:List Res} (f:Ent A B) (g:Ent B C):Ent A C:=fun h x=>g h (f h x)
theorem Ent.cons {A:Res} {L L':List Res} (f:Ent L L'):Ent (A::L) (A::L'):=fun _=>sepL_cons f
theorem Ent.drop {A:Res} {L L':List Res} (f:Ent L L'):Ent (A::L) L':=fun h x=>f h (sepL_drop x)
theorem Ent.nil {L:List Res}:Ent L []:=fun _ _=>trivial
inductive Pull:List Res→Res→List Res→Prop
 | zero {A:Res} {L:List Res}:Pull (A::L) A L
 | succ {A B:Res} {L R:List Res}:Pull L A R→Pull (B::L) A (B::R)
theorem Pull.out {L R:List Res} {A:Res} (p:Pull L A R):Ent L (A::R):=by
 induction p with
 | zero=>exact Ent.rfl
 | succ _ ih=>exact fun h x=>sepL_swap (sepL_cons ih x)
theorem Pull.back {L R:List Res} {A:Res} (p:Pull L A R):Ent (A::R) L:=by
 induction p with
 | zero=>exact Ent.rfl
 | succ _ ih=>exact fun h x=>sepL_cons ih (sepL_swap x)
theorem Ent.pull {L R L':List Res} {A:Res} (p:Pull L A R) (f:Ent R L'):Ent L (A::L'):=fun h x=>sepL_cons f (p.out h x)
inductive Upd:List Res→Res→Res→List Res→Prop
 | zero {A A':Res} {L:List Res}:Upd (A::L) A A' (A'::L)
 | succ {A A' B:Res} {L L':List Res}:Upd L A A' L'→Upd (B::L) A A' (B::L')
theorem Upd.split {L L':List Res} {A A':Res} (u:Upd L A A' L'):∃ R,Ent L (A::R)∧Ent (A'::R) L':=by
 induction u with
 | zero=>exact ⟨_,Ent.rfl,Ent.rfl⟩
 | succ _ ih =>
  obtain ⟨R,f,g⟩:=ih;exact ⟨_::R,fun h x=>sepL_swap (sepL_cons f x),fun h x=>sepL_cons g (sepL_swap x)⟩
def All (L:List Res):Res:=sepL L
def Ex {α:Sort _} (f:α→Res):Res:=fun h=>∃ x,f x h
def Pu (p:Prop):Res:=fun _=>p
theorem all_out {M L:List Res}:Ent (All M::L) (M++L):=by
 induction M with
 | nil=>exact fun h x=>sepL_drop x
 | cons A M ih =>
  rintro h ⟨h1,h2,a,b,c,⟨h3,h4,a',b',c',hA,hM⟩,hL⟩;refine ⟨h3,Heap.both h4 h2,?_,Heap.le_trans b' b,Heap.both_le (Heap.le_trans c' b) c,hA,ih _ ⟨h4,h2,Heap.apart_le a c' (Heap.le_refl _),Heap.le_left _ _,Heap.le_right (Heap.apart_le a c' (Heap.le_refl _)),hM,hL⟩⟩;exact Heap.apart_symm (Heap.both_apart (Heap.apart_symm a') (Heap.apart_symm (Heap.apart_le a b' (Heap.le_refl _))))
theorem all_in {M L:List Res}:Ent (M++L) (All M::L):=by
 induction M with
 | nil =>
  intro h x;exact ⟨fun _=>none,h,fun _ _ e=>by simp at e,fun _ _ e=>by simp at e,Heap.le_refl _,trivial,x⟩
 | cons A M ih =>
  rintro h ⟨h1,h2,a,b,c,hA,hL⟩;obtain ⟨h3,h4,a',b',c',hM,hR⟩:=ih _ hL;refine ⟨Heap.both h1 h3,h4,Heap.both_apart (Heap.apart_le a (Heap.le_refl _) c') a',Heap.both_le b (Heap.le_trans b' c),Heap.le_trans c' c,?_,hR⟩;exact ⟨h1,h3,Heap.apart_le a (Heap.le_refl _) b',Heap.le_left _ _,Heap.le_right (Heap.apart_le a (Heap.le_refl _) b'),hA,hM⟩
theorem ex_out {α:Sort _} {f:α→Res} {L:List Res} {h:Heap} (x:sepL (Ex f::L) h):∃ y,sepL (f y::L) h:=by
 obtain ⟨h1,h2,a,b,c,⟨y,hy⟩,d⟩:=x;exact ⟨y,h1,h2,a,b,c,hy,d⟩
theorem ex_in {α:Sort _} {f:α→Res} {L:List Res} (y:α):Ent (f y::L) (Ex f::L):=fun _=>sepL_head fun _ h=>⟨y,h⟩
theorem pu_out {p:Prop} {L:List Res} {h:Heap} (x:sepL (Pu p::L) h):p∧sepL L h:=⟨x.choose_spec.choose_spec.2.2.2.1,sepL_drop x⟩
theorem pu_in {p:Prop} {L:List Res} (hp:p):Ent L (Pu p::L):=fun h x =>
 ⟨fun _=>none,h,fun _ _ e=>by simp at e,fun _ _ e=>by simp at e,Heap.le_refl _,hp,x⟩
def Ob (g:Nat) (o:Obj):Res:=fun h=>h g=some o
def Blk (g:Nat) (cs:List Value) (T:TypeId) (fz:Nat × Nat):Res:=Ob g (.cells cs.toArray T fz)
def nth:List Value→Nat→Option Value
 | [],_=>none
 | v::_,0=>some v
 | _::l,n+1=>nth l n
theorem nth_eq:∀ (l:List Value) (n:Nat),nth l n=l[n]?
 | [],_=>by simp [nth]
 | _::_,0=>by simp [nth]
 | _::l,n+1=>by simp [nth,nth_eq l n]
inductive SetAt:List Value→Nat→Value→List Value→Prop
 | zero {x v:Value} {l:List Value}:SetAt (x::l) 0 v (v::l)
 | succ {x v:Value} {l l':List Value} {n:Nat}:SetAt l n v l'→SetAt (x::l) (n+1) v (x::l')
theorem SetAt.eq {l l':List Value} {n:Nat} {v:Value} (h:SetAt l n v l'):l'=l.set n v∧n<l.length:=by
 induction h with
 | zero=>simp
 | succ _ ih=>exact ⟨by simp [ih.1],by simp [ih.2]⟩
theorem SetAt.of {l:List Value} {n:Nat} (v:Value) (h:n<l.length):SetAt l n v (l.set n v):=by
 induction l generalizing n with
 | nil=>simp at h
 | cons x l ih =>
  cases n with
  | zero=>exact .zero
  | succ n=>exact .succ (ih (by simpa using h))
def Base (w0:World):Res:=fun h=>∀ b,b<w0.heap.size→h b=w0.heap[b]?
def hp (w:World):Heap:=fun b=>w.heap[b]?
def Sat (e:World) (L:List Res) (w:World):Prop:=w.os=e.os∧w.tape=e.tape∧w.output=e.output∧sepL L (hp w)
theorem Sat.ent {e:World} {L L':List Res} {w:World} (h:Sat e L w) (f:Ent L L'):Sat e L' w:=⟨h.1,h.2.1,h.2.2.1,f _ h.2.2.2⟩
theorem Sat.drawn {e:World} {L:List Res} {w:World} (h:Sat e L w) (n:Nat):Sat e L { w with drawn:=n }:=h
def Heap.cell (h:Heap) (a:Addr):Option Value :=
 match h a.block with
 | some (.cells c _ _)=>if a.spot.isSome then none else c[a.off]?
 | _=>none
theorem cell_hp (w:World) (a:Addr):w.cell? a=(hp w).cell a:=rfl
theorem Heap.cell_le {h k:Heap} (l:Heap.le h k) {a:Addr} {v:Value} (x:h.cell a=some v):k.cell a=some v:=by
 unfold Heap.cell at *
 cases hb:h a.block with
 | none=>rw [hb] at x;cases x
 | some o=>rw [l _ _ hb];rw [hb] at x;exact x
def Rd (L:List Res) (p:Addr) (v:Value):Prop:=∀ h,sepL L h→h.cell p=some v
theorem Rd.at {L:List Res} {p:Addr} {v:Value} {e w:World} (r:Rd L p v) (h:Sat e L w):w.cell? p=some v:=r _ h.2.2.2
theorem Rd.ent {L L':List Res} {p:Addr} {v:Value} (r:Rd L' p v) (f:Ent L L'):Rd L p v:=fun h x=>r h (f h x)
theorem Rd.tail {A:Res} {L:List Res} {p:Addr} {v:Value} (r:Rd L p v):Rd (A::L) p v:=r.ent (Ent.drop Ent.rfl)
theorem Rd.blk {L R:List Res} {g off:Nat} {cs:List Value} {T:TypeId} {fz:Nat × Nat} {v:Value} (p:Pull L (Blk g cs T fz) R) (hv:nth cs off=some v):Rd L ⟨g,off,none⟩ v:=by
 intro h x;obtain ⟨h1,h2,a,b,c,hA,hL⟩:=p.out h x;refine Heap.cell_le b ?_;unfold Heap.cell;rw [show h1 g=_ from hA];rw [nth_eq] at hv
 simpa using hv
theorem Rd.base {L R:List Res} {w0:World} {p:Addr} {v:Value} (q:Pull L (Base w0) R) (hv:w0.cell? p=some v):Rd L p v:=by
 intro h x;obtain ⟨h1,h2,a,b,c,hA,hL⟩:=q.out h x;refine Heap.cell_le b ?_;have hlt:=World.block_lt_of_cell? w0 p hv;unfold Heap.cell;rw [hA p.block hlt];exact hv
theorem Sat.alloc {e:World} {L:List Res} {w:World} (h:Sat e L w) (o:Obj):Sat e (Ob w.heap.size o::L) (w.alloc o):=by
 refine ⟨h.1,h.2.1,h.2.2.1,fun b=>if b=w.heap.size then some o else none,hp w,?_,?_,?_,by simp [Ob],h.2.2.2⟩
 ·intro b o' hb
  by_cases e:b=w.heap.size
  ·subst e;simp [hp]
  ·simp [e] at hb
 ·intro b o' hb
  by_cases e:b=w.heap.size
  ·subst e;simp at hb;subst hb;exact heap_alloc_new w o
  ·simp [e] at hb
 ·intro b o' hb;have hlt:b<w.heap.size:=(Array.getElem?_eq_some_iff.1 hb).1;exact (heap_alloc_old (w:=w) (o:=o) (h:=hlt)).trans hb
theorem Sat.change {e:World} {A A':Res} {R:List Res} {w w':World} (h:Sat e (A::R) w) (hos:w'.os=w.os) (htape:w'.tape=w.tape) (hout:w'.output=w.output)
 (f:∀ h1:Heap,Heap.le h1 (hp w)→A h1→∃ h1':Heap,Heap.le h1' (hp w')∧A' h1'∧(∀ b o,h1' b=some o→h1 b=none→hp w b=none)∧(∀ b,h1 b=none→∀ o,hp w b=some o→hp w' b=some o)) :
 Sat e (A'::R) w':=by
 obtain ⟨h0,h1',h2',k1,k2,a,b,c,hA,hR⟩:=h;obtain ⟨k1',l,hA',fr,kp⟩:=f k1 b hA;refine ⟨hos.trans h0,htape.trans h1',hout.trans h2',k1',k2,?_,l,?_,hA',hR⟩
 ·intro i o hi
  cases hk:k1 i with
  | some o'=>exact a i o' hk
  | none =>
   have hn:=fr i o hi hk
   cases h2:k2 i with
   | none=>rfl
   | some o'=>rw [c i o' h2] at hn;cases hn
 ·intro i o hi;refine kp i ?_ o (c i o hi)
  cases hk:k1 i with
  | none=>rfl
  | some o'=>rw [a i o' hk] at hi;cases hi
theorem Sat.setCell {e:World} {R:List Res} {w:World} {g off:Nat} {cs:List Value} {T:TypeId} {fz:Nat × Nat} (h:Sat e (Blk g cs T fz::R) w) (v:Value) :
 Sat e (Blk g (cs.set off v) T fz::R) (w.setCell ⟨g,off,none⟩ v):=by
 refine h.change rfl rfl rfl fun h1 hle hA=>?_
 refine ⟨fun b=>if b=g then some (.cells (cs.set off v).toArray T fz) else none,?_,by simp [Blk,Ob],?_,?_⟩
 ·intro b o hb
  by_cases e:b=g
  ·subst e
   simp at hb;subst hb
   have:=hle b _ hA;simp only [hp] at this ⊢
   simp [World.setCell,Array.getElem?_modify,this]
  ·simp [e] at hb
 ·intro b o hb hn
  by_cases e:b=g
  ·subst e;rw [show h1 b=_ from hA] at hn;cases hn
  ·simp [e] at hb
 ·intro b hn o ho;have:b≠g:=by rintro rfl;rw [show h1 b=_ from hA] at hn;cases hn
  simp only [hp] at ho ⊢
  simp [World.setCell,Array.getElem?_modify,this.symm,ho]
#print axioms Sat.setCell
end Go.Bs
namespace Go.Bs
abbrev Env:=List (Nat × Value)
def get:Env→Nat→Option Value
 | [],_=>none
 | (j,v)::r,k=>bif Nat.beq j k then some v else get r k
theorem get_cons (j:Nat) (v:Value) (r:Env) (k:Nat):get ((j,v)::r) k=if j=k then some v else get r k:=by
 show (bif Nat.beq j k then some v else get r k)=_
 cases h:Nat.beq j k with
 | true=>rw [if_pos (Nat.eq_of_beq_eq_true h)];rfl
 | false=>rw [if_neg (Nat.ne_of_beq_eq_false h)];rfl
structure Fr where
 n:Nat
 ds:List Deferred
structure Has (N:Fr) (σ:Env) (a:Act):Prop where
 size:a.tmps.size=N.n
 defers:a.defers=N.ds
 val:∀ k v,get σ k=some v→a.tmps[k]?=some v
theorem Has.put {N:Fr} {σ:Env} {a:Act} {d:Nat} (h:Has N σ a) (hd:Nat.blt d N.n=true) (v:Value):Has N ((d,v)::σ) (a.put (some d) v):=by
 have hlt:d<N.n:=by rw [← Nat.blt_eq];exact hd
 refine ⟨by simp [Act.put,h.size],h.defers,fun k u hk=>?_⟩;rw [get_cons] at hk
 by_cases e:d=k
 ·subst e;simp at hk;subst hk
  simp [Act.put,h.size,hlt]
 ·rw [if_neg e] at hk
  simp only [Act.put];rw [Array.getElem?_setIfInBounds_ne e];exact h.val k u hk
theorem Has.sub {N:Fr} {σ σ':Env} {a:Act} (h:Has N σ a) (f:∀ k v,get σ' k=some v→get σ k=some v):Has N σ' a:=⟨h.size,h.defers,fun k v e=>h.val k v (f k v e)⟩
def ev (σ:Env):Operand→Option Value
 | .tmp t=>get σ t
 | .const v=>some v
 | .global g=>some (.pointer (some ⟨g,0,none⟩))
 | .func f=>some (.func (.func f) #[] #[])
theorem Has.ev {N:Fr} {σ:Env} {a:Act} {x:Operand} {v:Value} (h:Has N σ a) (e:ev σ x=some v):a.eval x=v:=by
 cases x with
 | tmp t=>have:=h.val t v e;simp [Act.eval,this]
 | const u=>simpa [Bs.ev,Act.eval] using e
 | global g=>simpa [Bs.ev,Act.eval] using e
 | func f=>simpa [Bs.ev,Act.eval] using e
def evs (σ:Env):List Operand→Option (List Value)
 | []=>some []
 | x::r=>match ev σ x,evs σ r with
  | some v,some vs=>some (v::vs)
  | _,_=>none
theorem Has.evs {N:Fr} {σ:Env} {a:Act} (h:Has N σ a):∀ {xs:List Operand} {vs:List Value},evs σ xs=some vs→xs.map a.eval=vs
 | [],vs,e=>by simpa [Bs.evs] using e
 | x::r,vs,e=>by
  simp only [Bs.evs] at e
  cases hx:Bs.ev σ x with
  | none=>rw [hx] at e;simp at e
  | some v =>
   cases hr:Bs.evs σ r with
   | none=>rw [hx,hr] at e;simp at e
   | some us =>
    rw [hx,hr] at e;simp at e;subst e
    simp only [List.map_cons,h.ev hx,h.evs hr]
abbrev Goal:=Exit→Env→World→Prop
def WQ (N:Fr) (Q:Goal):Exit→Act→World→Prop
 | .panic _,_,_=>False
 | .outgrown,_,_=>False
 | x,a,w=>∃ σ,Has N σ a∧Q x σ w
def thenQ (K:Env→World→Prop) (Q:Goal):Goal
 | .normal,σ,w=>K σ w
 | x,σ,w=>Q x σ w
def blockQ (id:Nat) (Q:Goal):Goal
 | .exit i,σ,w=>if i=id then Q .normal σ w else Q (.exit i) σ w
 | x,σ,w=>Q x σ w
section
variable (P:Program) (N:Fr)
def W (c:Code) (Q:Goal) (σ:Env) (e:World) (L:List Res):Prop:=∀ a w,Has N σ a→Sat e L w→c.wp P (WQ N Q) a w
def Next (y:Code) (Q:Goal):Env→World→Prop:=fun σ w=>∀ a,Has N σ a→y.wp P (WQ N Q) a w
def Fin (Q:Goal) (x:Exit) (σ:Env) (e:World) (L:List Res):Prop:=∀ w,Sat e L w→Q x σ w
def O (all:Array Oper) (l:List Oper) (Q:Goal) (σ:Env) (e:World) (L:List Res):Prop:=∀ a w,Has N σ a→Sat e L w→wpList P all (WQ N Q) l a w
def Do (o:Oper) (K:Env→List Res→Prop) (σ:Env) (e:World) (L:List Res):Prop :=
 ∀ a w,Has N σ a→Sat e L w→∀ (K':Act→World→Prop) (Q':Exit→Act→World→Prop),(∀ σ' L' a' w',K σ' L'→Has N σ' a'→Sat e L' w'→K' a' w')→o.wp P a w K' Q'
def Val (op:Op) (ty:TypeId) (v:Value) (σ:Env) (e:World) (L:List Res):Prop :=
 ∀ a w,Has N σ a→Sat e L w→∀ dst pos af gd,(execOp a.eval ⟨dst,op,ty,pos,af,gd⟩).run P w=.ok (.value v) w
end
section
variable {P:Program} {N:Fr} {Q:Goal} {σ:Env} {e:World} {L:List Res}
theorem W.ent {c:Code} {L':List Res} (h:W P N c Q σ e L') (f:Ent L L'):W P N c Q σ e L:=fun a w ha hs=>h a w ha (hs.ent f)
theorem O.ent {all:Array Oper} {l:List Oper} {L':List Res} (h:O P N all l Q σ e L') (f:Ent L L'):O P N all l Q σ e L:=fun a w ha hs=>h a w ha (hs.ent f)
theorem W.env {c:Code} {σ':Env} (h:W P N c Q σ' e L) (f:∀ k v,get σ' k=some v→get σ k=some v):W P N c Q σ e L:=fun a w ha hs=>h a w (ha.sub f) hs
theorem W.mono {c:Code} {Q':Goal} (h:W P N c Q' σ e L) (f:∀ x σ w,Q' x σ w→Q x σ w):W P N c Q σ e L:=fun a w ha hs =>
 Code.wp_mono (fun x a w q=>by cases x<;>first|exact q|exact q.elim fun σ' h=>⟨σ',h.1,f _ _ _ h.2⟩) (h a w ha hs)
theorem W.seq {x y:Code} (h:W P N x (thenQ (Next P N y Q) Q) σ e L):W P N (.seq x y) Q σ e L:=fun a w ha hs =>
 wp_seq (Code.wp_mono (fun x a w q=>by
  cases x<;>first|exact q|exact q.elim fun σ' h=>h.2 a h.1) (h a w ha hs))
theorem W.skip (h:Fin Q .normal σ e L):W P N .skip Q σ e L:=fun _ w ha hs=>wp_skip ⟨σ,ha,h w hs⟩
theorem W.exit {id:Nat} (h:Fin Q (.exit id) σ e L):W P N (.exit id) Q σ e L:=fun _ w ha hs=>wp_exit ⟨σ,ha,h w hs⟩
theorem W.ret (h:Fin Q .ret σ e L):W P N .ret Q σ e L:=fun _ w ha hs=>wp_ret ⟨σ,ha,h w hs⟩
theorem W.block {id:Nat} {c:Code} (h:W P N c (blockQ id Q) σ e L):W P N (.block id c) Q σ e L:=fun a w ha hs =>
 wp_block (Code.wp_mono (fun x a w q=>by
  cases x with
  | exit i =>
   obtain ⟨σ',h1,h2⟩:=q;simp only [Exit.inBlock];simp only [blockQ] at h2
   split
   ·rename_i e;rw [if_pos e] at h2;exact ⟨σ',h1,h2⟩
   ·rename_i e;rw [if_neg e] at h2;exact ⟨σ',h1,h2⟩
  | _=>exact q) (h a w ha hs))
theorem W.cond {c:Operand} {x y:Code} {b:Bool} (hc:ev σ c=some (.bool b)) (ht:b=true→W P N x Q σ e L) (hf:b=false→W P N y Q σ e L):W P N (.cond c x y) Q σ e L:=fun a w ha hs =>
 wp_cond_split (t:=b) (ha.ev hc) (fun h=>ht h a w ha hs) (fun h=>hf h a w ha hs)
theorem W.cond_t {c:Operand} {x y:Code} (hc:ev σ c=some (.bool true)) (ht:W P N x Q σ e L):W P N (.cond c x y) Q σ e L:=W.cond hc (fun _=>ht) (fun h=>by cases h)
theorem W.cond_f {c:Operand} {x y:Code} (hc:ev σ c=some (.bool false)) (hf:W P N y Q σ e L):W P N (.cond c x y) Q σ e L:=W.cond hc (fun h=>by cases h) (fun _=>hf)
theorem W.region {id:Nat} {l:List Oper} (h:O P N l.toArray l Q σ e L):W P N (.region id l.toArray false) Q σ e L:=fun a w ha hs=>wp_region_lit (h a w ha hs)
def RoundQ {ι:Type} (Iσ:ι→Env) (IL:ι→List Res) (IP:ι→Prop) (μ:ι→Nat) (m:Nat) (e:World):Env→World→Prop:=fun σ' w'=>∃ j,IP j∧μ j<m∧(∀ k v,get (Iσ j) k=some v→get σ' k=some v)∧Sat e (IL j) w'
theorem W.loop {c:Code} {ι:Type} (Iσ:ι→Env) (IL:ι→List Res) (IP:ι→Prop) (μ:ι→Nat) (i0:ι) (h0:IP i0)
 (hσ:∀ k v,get (Iσ i0) k=some v→get σ k=some v) (hL:Ent L (IL i0))
 (round:∀ i,IP i→W P N c (thenQ (RoundQ Iσ IL IP μ (μ i) e) Q) (Iσ i) e (IL i)):W P N (.loop c) Q σ e L:=by
 intro a w ha hs b k cs;have key:∀ n i,IP i→μ i=n→∀ a w,Has N (Iσ i) a→Sat e (IL i) w →
  ∃ x a' w',WQ N Q x a' w'∧Arrives P (lone (b.at a (.code c::.inLoop c::k)) cs w) b k cs x a' w':=by
  intro n
  induction n using Nat.strongRecOn with
  | _ n ih =>
   intro i hi hn a w ha hs;obtain ⟨x,a1,w1,q,arr⟩:=round i hi a w ha hs b (.inLoop c::k) cs
   have out:x≠.normal→∃ x a' w',WQ N Q x a' w'∧Arrives P (lone (b.at a (.code c::.inLoop c::k)) cs w) b k cs x a' w':=fun hx=>by
    refine ⟨x,a1,w1,?_,.pass (x:=.inLoop c) rfl (fun _ _=>.inl hx) arr⟩
    cases x<;>first|exact absurd rfl hx|exact q
   by_cases hx:x=.normal
   ·subst hx;obtain ⟨σ',h1,j,hj,hlt,hsub,hsat⟩:=q;obtain ⟨x2,a2,w2,q2,arr2⟩:=ih (μ j) (hn ▸ hlt) j hj rfl a1 w1 (h1.sub hsub) hsat;exact ⟨x2,a2,w2,q2,.of_steps (Steps.trans arr (.one step_inLoop)) arr2⟩
   ·exact out hx
 obtain ⟨x,a',w',q,arr⟩:=key _ i0 h0 rfl a w (ha.sub hσ) (hs.ent hL);exact ⟨x,a',w',q,.of_steps (.one step_loop) arr⟩
end
end Go.Bs
namespace Go.Bs
class SlT (P:Program) (t:TypeId) (e:outParam TypeId) (n:outParam Nat):Prop where
 und:P.underlying t=some (.slice e)
 siz:∀ w,(sizeOf e).run P w=.ok n w
class PlainT (P:Program) (t:TypeId):Prop where
 ag:∀ w,(isAgg t).run P w=.ok false w
 siz:∀ w,(sizeOf t).run P w=.ok 1 w
class AggT (P:Program) (t:TypeId) (n:outParam Nat):Prop where
 ag:∀ w,(isAgg t).run P w=.ok true w
 siz:∀ w,(sizeOf t).run P w=.ok n w
class FieldT (P:Program) (s:TypeId) (f:Nat) (off:outParam Nat):Prop where
 run:∀ g o w,(Instr.fieldAt s (.pointer (some ⟨g,o,none⟩)) f).run P w=.ok (.pointer (some ⟨g,o+off,none⟩)) w
class IntT (P:Program) (t:TypeId) (k:outParam IntKind):Prop where
 und:P.underlying t=some (.int k)
class StrT (P:Program) (t:TypeId):Prop where
 und:P.underlying t=some .string
class PtrT (P:Program) (t:TypeId) (e:outParam TypeId):Prop where
 und:P.underlying t=some (.pointer e)
class CallT (P:Program) (f:FuncId) (g:outParam FuncId):Prop where
 run:∀ args w,(callFunc f args).run P w=.ok (.enter g args) w
class ZeroT (P:Program) (t:TypeId) (z:outParam Value):Prop where
 run:∀ w,(zeroValue t).run P w=.ok z w
section
variable {P:Program} {N:Fr} {Q:Goal} {σ:Env} {e:World} {L:List Res} {all:Array Oper} {rest:List Oper}
variable {d:Nat} {op:Op} {ty:TypeId} {pos:String} {af:Array Edge}
theorem O.nil (h:Fin Q .normal σ e L):O P N all [] Q σ e L:=fun _ w ha hs=>⟨σ,ha,h w hs⟩
theorem O.do {dst:Option Tmp} (h:Do P N ⟨dst,op,ty,pos,af,none⟩ (fun σ' L'=>O P N all rest Q σ' e L') σ e L):O P N all (⟨dst,op,ty,pos,af,none⟩::rest) Q σ e L :=
 fun a w ha hs=>wpList_plain rfl fun K hK=>h a w ha hs K _ fun _ _ a' w' ho ha' hs'=>hK a' w' (ho a' w' ha' hs')
theorem Do.val {v:Value} {gd:Option (Nat × Bool)} {K:Env→List Res→Prop} (h:Val P N op ty v σ e L) (hd:Nat.blt d N.n=true) (k:K ((d,v)::σ) L):Do P N ⟨some d,op,ty,pos,af,gd⟩ K σ e L:=by
 intro a w ha hs K' Q' hK;unfold Oper.wp;rw [h a w ha hs];exact hK _ _ _ _ k (ha.put hd v) hs
theorem O.val (v:Value) (h:Val P N op ty v σ e L) (hd:Nat.blt d N.n=true) (k:O P N all rest Q ((d,v)::σ) e L):O P N all (⟨some d,op,ty,pos,af,none⟩::rest) Q σ e L :=
 O.do (Do.val h hd k)
theorem O.ent1 {l:List Oper} {L':List Res} (f:Ent L L') (h:O P N all l Q σ e L'):O P N all l Q σ e L:=h.ent f
def wants (σ:Env) (all:Array Oper) (j:Nat) (want:Bool):Option Bool :=
 match (all[j]?).bind (·.dst) with
 | some t=>match get σ t with
  | some (.bool b)=>some (b == want)
  | some (.tuple _)=>some false
  | _=>none
 | none=>none
theorem wants_ok {a:Act} {j:Nat} {want r:Bool} (ha:Has N σ a) (h:wants σ all j want=some r) {dst:Option Tmp} :
 Region.wanted ⟨dst,op,ty,pos,af,some (j,want)⟩ (yielded all a.tmps)=r:=by
 unfold wants at h
 cases ht:(all[j]?).bind (·.dst) with
 | none=>rw [ht] at h;cases h
 | some t =>
  rw [ht] at h
  have hy:yielded all a.tmps j=match a.tmps[t]? with|some (.bool b)=>some b|_=>none:=by
   unfold yielded;exact congrArg (fun o:Option Nat=>match o.bind (a.tmps[·]?) with|some (.bool b)=>some b|_=>none) ht
  unfold Region.wanted;dsimp only at h ⊢
  rw [hy]
  cases hg:get σ t with
  | none=>rw [hg] at h;cases h
  | some v =>
   rw [hg] at h
   rw [ha.val t v hg]
   cases v<;>simp at h ⊢<;>exact h
theorem O.want {dst:Option Tmp} {j:Nat} {want:Bool} (h:wants σ all j want=some true) (k:O P N all (⟨dst,op,ty,pos,af,none⟩::rest) Q σ e L) :
 O P N all (⟨dst,op,ty,pos,af,some (j,want)⟩::rest) Q σ e L:=fun a w ha hs=>by
 have h1:=k a w ha hs;unfold wpList at h1 ⊢
 rw [if_pos (by rfl)] at h1
 rw [if_pos (wants_ok ha h)];exact h1
theorem O.unwant {j:Nat} {want:Bool} (h:wants σ all j want=some false) (hd:Nat.blt d N.n=true) (k:O P N all rest Q ((d,undef)::σ) e L) :
 O P N all (⟨some d,op,ty,pos,af,some (j,want)⟩::rest) Q σ e L:=fun a w ha hs=>by
 unfold wpList;rw [if_neg (by rw [wants_ok ha h];simp)];exact k _ w (ha.put hd _) hs
section
variable {x y z:Operand} {v:Value}
theorem Val.move (h:ev σ x=some v):Val P N (.move x) ty v σ e L:=fun a w ha _ _ _ _ _=>by simp [execOp,ha.ev h]
theorem Val.assign (h:ev σ x=some v):Val P N (.assign x) ty v σ e L:=fun a w ha _ _ _ _ _=>by simp [execOp,ha.ev h]
theorem Val.pick_t (h:ev σ x=some (.bool true)) (h1:ev σ y=some v):Val P N (.pick x y z) ty v σ e L:=fun a w ha _ _ _ _ _=>by simp [execOp,ha.ev h,ha.ev h1,asBool]
theorem Val.pick_f (h:ev σ x=some (.bool false)) (h1:ev σ z=some v):Val P N (.pick x y z) ty v σ e L:=fun a w ha _ _ _ _ _=>by simp [execOp,ha.ev h,ha.ev h1,asBool]
theorem Val.nilCheck {p:Addr} (h:ev σ x=some (.pointer (some p))):Val P N (.nilCheck x) ty (.pointer (some p)) σ e L:=fun a w ha _ _ _ _ _=>by simp [execOp,ha.ev h]
theorem Val.fieldAddr {s f off g o:Nat} [i:FieldT P s f off] (h:ev σ x=some (.pointer (some ⟨g,o,none⟩))) :
 Val P N (.fieldAddr s x f) ty (.pointer (some ⟨g,o+off,none⟩)) σ e L:=fun a w ha _ _ _ _ _=>by simp [execOp,ha.ev h,i.run]
theorem Val.load {t:TypeId} {p:Addr} [i:PlainT P t] (h:ev σ x=some (.pointer (some p))) (r:Rd L p v):Val P N (.load t x) ty v σ e L:=fun a w ha hs _ _ _ _=>by
 simp [execOp,ha.ev h,Instr.loadAt,Instr.sureAddr,loadVar,i.ag,r.at hs]
theorem Val.len {t:TypeId} {el n l c:Nat} {ad:Option Addr} {ats:List TypeId} [i:SlT P t el n] (h:ev σ x=some (.slice ad l c)) :
 Val P N (.call { callee:=.builtin .len,args:=#[x],argTypes:=(t::ats).toArray }) ty (.int .i64 l) σ e L:=fun a w ha _ _ _ _ _=>by
 simp [execOp,resolve,invoke,builtin,Builtin.len_,ha.ev h,run_underlying i.und,goInt]
theorem Val.lenS {t:TypeId} {s:ByteArray} {ats:List TypeId} [i:StrT P t] (h:ev σ x=some (.string s)) :
 Val P N (.call { callee:=.builtin .len,args:=#[x],argTypes:=(t::ats).toArray }) ty (.int .i64 s.size) σ e L:=fun a w ha _ _ _ _ _=>by
 simp [execOp,resolve,invoke,builtin,Builtin.len_,ha.ev h,run_underlying i.und,goInt]
theorem Val.not {b:Bool} {t:TypeId} (h:ev σ x=some (.bool b)):Val P N (.unOp .not t x) ty (.bool !b) σ e L:=fun a w ha _ _ _ _ _=>by simp [execOp,ha.ev h,Op.unary]
theorem wrap_i64 {n:Int} (h0:-9223372036854775808≤n) (h1:n≤9223372036854775807):IntKind.i64.wrap n=n:=IntWalk.i64_in n ⟨h0,h1⟩
theorem wrap_u32 {n:Int} (h0:0≤n) (h1:n<4294967296):IntKind.u32.wrap n=n:=by
 unfold IntKind.wrap;simp only [IntKind.bits,IntKind.signed]
 simp
 omega
theorem wrap_u8 {n:Int} (h0:0≤n) (h1:n<256):IntKind.u8.wrap n=n:=by
 unfold IntKind.wrap;simp only [IntKind.bits,IntKind.signed]
 simp
 omega
section ints
variable {k k':IntKind} {m n:Int} {t t':TypeId}
theorem Val.add (h:ev σ x=some (.int k m)) (h1:ev σ y=some (.int k n)):Val P N (.binOp .add t x y t') ty (.int k (k.wrap (m+n))) σ e L:=fun a w ha _ _ _ _ _=>by
 simp [execOp,ha.ev h,ha.ev h1,eqGuard,binOp,Op.intArith]
theorem Val.sub (h:ev σ x=some (.int k m)) (h1:ev σ y=some (.int k n)):Val P N (.binOp .sub t x y t') ty (.int k (k.wrap (m - n))) σ e L:=fun a w ha _ _ _ _ _=>by
 simp [execOp,ha.ev h,ha.ev h1,eqGuard,binOp,Op.intArith]
theorem Val.mul (h:ev σ x=some (.int k m)) (h1:ev σ y=some (.int k n)):Val P N (.binOp .mul t x y t') ty (.int k (k.wrap (m*n))) σ e L:=fun a w ha _ _ _ _ _=>by
 simp [execOp,ha.ev h,ha.ev h1,eqGuard,binOp,Op.intArith]
theorem Val.add64 (h:ev σ x=some (.int .i64 m)) (h1:ev σ y=some (.int .i64 n)) (b:-9223372036854775808≤m+n∧m+n≤9223372036854775807):Val P N (.binOp .add t x y t') ty (.int .i64 (m+n)) σ e L:=by
 have:=Val.add (P:=P) (N:=N) (ty:=ty) (e:=e) (L:=L) (t:=t) (t':=t') h h1
 rwa [wrap_i64 b.1 b.2] at this
theorem Val.sub64 (h:ev σ x=some (.int .i64 m)) (h1:ev σ y=some (.int .i64 n)) (b:-9223372036854775808≤m - n∧m - n≤9223372036854775807):Val P N (.binOp .sub t x y t') ty (.int .i64 (m - n)) σ e L:=by
 have:=Val.sub (P:=P) (N:=N) (ty:=ty) (e:=e) (L:=L) (t:=t) (t':=t') h h1
 rwa [wrap_i64 b.1 b.2] at this
theorem Val.mul64 (h:ev σ x=some (.int .i64 m)) (h1:ev σ y=some (.int .i64 n)) (b:-9223372036854775808≤m*n∧m*n≤9223372036854775807):Val P N (.binOp .mul t x y t') ty (.int .i64 (m*n)) σ e L:=by
 have:=Val.mul (P:=P) (N:=N) (ty:=ty) (e:=e) (L:=L) (t:=t) (t':=t') h h1
 rwa [wrap_i64 b.1 b.2] at this
theorem Val.bits (op:BinOp) (ho:op=.and∨op=.or∨op=.xor∨op=.andNot) (h:ev σ x=some (.int k m)) (h1:ev σ y=some (.int k n)):Val P N (.binOp op t x y t') ty (.int k (Go.bits op k m n)) σ e L:=fun a w ha _ _ _ _ _=>by
 rcases ho with rfl|rfl|rfl|rfl<;>simp [execOp,ha.ev h,ha.ev h1,eqGuard,binOp,Op.intBits,Go.bits]
theorem Val.shl (h:ev σ x=some (.int k m)) (h1:ev σ y=some (.int k' n)) (h0:0≤n):Val P N (.binOp .shl t x y t') ty (.int k (k.wrap (m*2 ^ (min n.toNat k.bits)))) σ e L:=fun a w ha _ _ _ _ _=>by
 have:¬ n<0:=by omega
 simp [execOp,ha.ev h,ha.ev h1,eqGuard,binOp,Op.shift,this]
theorem Val.shr (h:ev σ x=some (.int k m)) (h1:ev σ y=some (.int k' n)) (h0:0≤n):Val P N (.binOp .shr t x y t') ty (.int k (m.fdiv (2 ^ (min n.toNat k.bits)))) σ e L:=fun a w ha _ _ _ _ _=>by
 have:¬ n<0:=by omega
 simp [execOp,ha.ev h,ha.ev h1,eqGuard,binOp,Op.shift,this]
theorem Val.convInt {s:TypeId} [i:IntT P s k] [j:IntT P t k'] (h:ev σ x=some (.int k m)):Val P N (.convert s t x) ty (.int k' (k'.wrap m)) σ e L:=fun a w ha _ _ _ _ _=>by
 simp [execOp,ha.ev h,convert,run_underlying i.und,run_underlying j.und,Conv.intToInt]
theorem Val.lss (h:ev σ x=some (.int k m)) (h1:ev σ y=some (.int k n)):Val P N (.binOp .lss t x y t') ty (.bool (decide (m<n))) σ e L:=fun a w ha _ _ _ _ _=>by
 simp [execOp,ha.ev h,ha.ev h1,eqGuard,binOp,Op.intCmp]
theorem Val.leq (h:ev σ x=some (.int k m)) (h1:ev σ y=some (.int k n)):Val P N (.binOp .leq t x y t') ty (.bool (decide (m≤n))) σ e L:=fun a w ha _ _ _ _ _=>by
 simp [execOp,ha.ev h,ha.ev h1,eqGuard,binOp,Op.intCmp]
theorem Val.gtr (h:ev σ x=some (.int k m)) (h1:ev σ y=some (.int k n)):Val P N (.binOp .gtr t x y t') ty (.bool (decide (n<m))) σ e L:=fun a w ha _ _ _ _ _=>by
 simp [execOp,ha.ev h,ha.ev h1,eqGuard,binOp,Op.intCmp]
theorem Val.geq (h:ev σ x=some (.int k m)) (h1:ev σ y=some (.int k n)):Val P N (.binOp .geq t x y t') ty (.bool (decide (n≤m))) σ e L:=fun a w ha _ _ _ _ _=>by
 simp [execOp,ha.ev h,ha.ev h1,eqGuard,binOp,Op.intCmp]
theorem Val.eql (h:ev σ x=some (.int k m)) (h1:ev σ y=some (.int k n)):Val P N (.binOp .eql t x y t') ty (.bool (decide (m=n))) σ e L:=fun a w ha _ _ _ _ _=>by
 simp [execOp,ha.ev h,ha.ev h1,eqGuard,binOp,Op.intCmp]
 by_cases hmn:m=n<;>simp [hmn]
theorem Val.neq (h:ev σ x=some (.int k m)) (h1:ev σ y=some (.int k n)):Val P N (.binOp .neq t x y t') ty (.bool (decide (m≠n))) σ e L:=fun a w ha _ _ _ _ _=>by
 simp [execOp,ha.ev h,ha.ev h1,eqGuard,binOp,Op.intCmp]
 by_cases hmn:m=n<;>simp [hmn]
end ints
section nils
variable {t t':TypeId}
theorem Val.eqlPtr {el:TypeId} {p:Option Addr} [i:PtrT P t el] (h:ev σ x=some (.pointer p)) (h1:ev σ y=some (.pointer none)):Val P N (.binOp .eql t x y t') ty (.bool p.isNone) σ e L:=fun a w ha _ _ _ _ _=>by
 have:=run_eql_pointer_nil (P:=P) w t p (by simp [Program.pointee,i.und])
 simp [execOp,ha.ev h,ha.ev h1,eqGuard,this]
theorem Val.neqPtr {el:TypeId} {p:Option Addr} [i:PtrT P t el] (h:ev σ x=some (.pointer p)) (h1:ev σ y=some (.pointer none)):Val P N (.binOp .neq t x y t') ty (.bool !p.isNone) σ e L:=fun a w ha _ _ _ _ _=>by
 have:=run_neq_pointer_nil (P:=P) w t p (by simp [Program.pointee,i.und])
 simp [execOp,ha.ev h,ha.ev h1,eqGuard,this]
theorem run_equalIn_sl {t el:TypeId} (i:P.underlying t=some (.slice el)) (w:World) (d:Nat) (p:Option Addr) (l c:Nat):(Op.equalIn (d+1) t (.slice p l c) (.slice none 0 0)).run P w=.ok p.isNone w:=by
 cases p<;>simp [Op.equalIn,run_underlying i]
theorem run_equal_sl {t el:TypeId} (i:P.underlying t=some (.slice el)) (w:World) (p:Option Addr) (l c:Nat):(Op.equal t (.slice p l c) (.slice none 0 0)).run P w=.ok p.isNone w:=run_equalIn_sl i w 9999 p l c
theorem run_eql_sl {t el:TypeId} (i:P.underlying t=some (.slice el)) (w:World) (p:Option Addr) (l c:Nat):(binOp .eql t (.slice p l c) (.slice none 0 0)).run P w=.ok (.bool p.isNone) w:=by
 simp only [binOp];simp [run_equal_sl i]
theorem Val.eqlSl {el n l c:Nat} {p:Option Addr} [i:SlT P t el n] (h:ev σ x=some (.slice p l c)) (h1:ev σ y=some (.slice none 0 0)):Val P N (.binOp .eql t x y t') ty (.bool p.isNone) σ e L:=fun a w ha _ _ _ _ _=>by
 simp [execOp,ha.ev h,ha.ev h1,eqGuard,run_eql_sl i.und]
theorem Val.eqlS {s u:ByteArray} (h:ev σ x=some (.string s)) (h1:ev σ y=some (.string u)):Val P N (.binOp .eql t x y t') ty (.bool (s.toList == u.toList)) σ e L:=fun a w ha _ _ _ _ _=>by
 simp [execOp,ha.ev h,ha.ev h1,eqGuard,binOp,Op.stringOp]
theorem Val.neqS {s u:ByteArray} (h:ev σ x=some (.string s)) (h1:ev σ y=some (.string u)):Val P N (.binOp .neq t x y t') ty (.bool !(s.toList == u.toList)) σ e L:=fun a w ha _ _ _ _ _=>by
 simp [execOp,ha.ev h,ha.ev h1,eqGuard,binOp,Op.stringOp]
end nils
end
end
end Go.Bs
namespace Go.Bs
def CtPost (e:World) (Post:Value→List Res→Prop):Ending→World→Prop:=fun x w'=>∃ v L',x=.returned v∧Post v L'∧Sat e L' w'
def Ct (P:Program) (f:FuncId) (args:Array Value) (e:World) (L:List Res) (Post:Value→List Res→Prop):Prop :=
 ∀ w,Sat e L w→Calls P f args w (CtPost e Post)
theorem Ct.ent {P:Program} {f:FuncId} {args:Array Value} {e:World} {L L':List Res} {Post:Value→List Res→Prop} (h:Ct P f args e L' Post) (g:Ent L L'):Ct P f args e L Post:=fun w hs=>h w (hs.ent g)
theorem Ct.mono {P:Program} {f:FuncId} {args:Array Value} {e:World} {L:List Res} {Post Post':Value→List Res→Prop} (h:Ct P f args e L Post) (g:∀ v L',Post v L'→Post' v L'):Ct P f args e L Post' :=
 fun w hs=>(h w hs).mono fun _ _ ⟨v,L',a,b,c⟩=>⟨v,L',a,g _ _ b,c⟩
theorem Ct.weak {P:Program} {f:FuncId} {args:Array Value} {e:World} {L:List Res} {Post Post':Value→List Res→Prop} (h:Ct P f args e L Post) (g:∀ v L',Post v L'→∃ L'',Ent L' L''∧Post' v L''):Ct P f args e L Post' :=
 fun w hs=>(h w hs).mono fun _ _ ⟨v,L',a,b,c⟩=>let ⟨L'',d,f⟩:=g v L' b;⟨v,L'',a,f,c.ent d⟩
theorem Ct.at {P:Program} {f:FuncId} {args:Array Value} {e:World} {L R:List Res} {A:Res} {Post:Value→List Res→Prop} (p:Pull L A R) (h:Ct P f args e (A::R) Post):Ct P f args e L Post:=h.ent p.out
theorem Ct.at2 {P:Program} {f:FuncId} {args:Array Value} {e:World} {L R R':List Res} {A B:Res} {Post:Value→List Res→Prop} (p:Pull L A R) (q:Pull R B R') (h:Ct P f args e (A::B::R') Post):Ct P f args e L Post :=
 h.ent fun _ x=>sepL_cons q.out (p.out _ x)
def retvs (σ:Env):List ResultVar→Option (List Value)
 | []=>some []
 | .tmp t::r=>match get σ t,retvs σ r with
  | some v,some vs=>some (v::vs)
  | _,_=>none
 | .cell _ _::_=>none
def tup:List Value→Value
 | [v]=>v
 | vs=>.tuple vs.toArray
def BodyQ (rs:Array ResultVar) (R:Ending→World→Prop):Goal:=fun x σ w =>
 match x with
 | .normal|.ret=>∃ vs,retvs σ rs.toList=some vs∧R (.returned (tup vs)) w
 | _=>False
def resOf (tmps:Array Value):ResultVar→Sem Value
 | .tmp t=>pure (tmps.getD t undef)
 | .cell b t=>do loadVar t (← asAddr (tmps.getD b undef))
theorem run_retvs {P:Program} {w:World} {N:Fr} {σ:Env} {a:Act} (h:Has N σ a):∀ {rs:List ResultVar} {vs:List Value},retvs σ rs=some vs→(rs.mapM (resOf a.tmps)).run P w=.ok vs w
 | [],vs,e=>by simp [retvs] at e;subst e;simp
 | .tmp t::r,vs,e=>by
  simp only [retvs] at e
  cases hg:get σ t with
  | none=>rw [hg] at e;simp at e
  | some v =>
   cases hr:retvs σ r with
   | none=>rw [hg,hr] at e;simp at e
   | some us =>
    rw [hg,hr] at e;simp at e;subst e
    have h1:a.tmps.getD t undef=v:=by simp [h.val t v hg]
    simp only [List.mapM_cons,Sem.run_bind,resOf,Sem.run_pure,Result.andThen_ok,h1];rw [run_retvs h hr]
    simp
 | .cell _ _::_,_,e=>by simp [retvs] at e
theorem run_results {P:Program} {w:World} {N:Fr} {σ:Env} {a:Act} (h:Has N σ a) {fn:Func} {vs:List Value} (e:retvs σ fn.results.toList=some vs):(results fn a.tmps).run P w=.ok (tup vs) w:=by
 have h0:results fn a.tmps=(fn.results.mapM (resOf a.tmps)) >>= fun vs=>pure (if h:vs.size=1 then vs[0] else .tuple vs):=by
  unfold results
  congr 1
 have h1:(fn.results.mapM (resOf a.tmps)).run P w=.ok vs.toArray w:=by
  rw [Array.mapM_eq_mapM_toList,Sem.run_map,run_retvs h e]
  rfl
 rw [h0,Sem.run_bind,h1];simp only [Result.andThen_ok,Sem.run_pure]
 congr 1
 match vs with
 | []=>rfl
 | [v]=>rfl
 | _::_::_=>simp [tup]
theorem Ct.mk {P:Program} {f:FuncId} {fn:Func} {c:Code} {N:Nat} {rs:Array ResultVar} {args:Array Value} {σ:Env} {e:World} {L:List Res} {Post:Value→List Res→Prop}
 (hf:P.funcs[f]?=some fn) (hb:fn.body=some c) (hN:fn.ntmps=N) (hr:fn.results=rs) (hle:args.size≤N) (hσ:∀ k v,get σ k=some v→args[k]?=some v)
 (h:W P ⟨N,[]⟩ c (BodyQ rs (CtPost e Post)) σ e L):Ct P f args e L Post:=by
 subst hN hr;intro w hs;refine calls_of_wp hf hb (Code.wp_mono ?_ (h { tmps:=args++Array.replicate (fn.ntmps - args.size) undef,defers:=[] } w ⟨by simp;omega,rfl,fun k v hk=>?_⟩ hs))
 ·intro x a w q
  cases x with
  | normal=>obtain ⟨σ',h1,vs,h2,h3⟩:=q;exact ⟨h1.defers,_,run_results h1 h2,h3⟩
  | ret=>obtain ⟨σ',h1,vs,h2,h3⟩:=q;exact ⟨h1.defers,_,run_results h1 h2,h3⟩
  | panic _=>exact q.elim
  | outgrown=>exact q.elim
  | exit _=>obtain ⟨_,_,h2⟩:=q;exact h2.elim
  | goto _=>obtain ⟨_,_,h2⟩:=q;exact h2.elim
 ·have:=hσ k v hk;have hlt:k<args.size:=(Array.getElem?_eq_some_iff.1 this).1;rw [Array.getElem?_append_left hlt];exact this
def argsEnv:Nat→List Value→Env
 | _,[]=>[]
 | k,v::r=>(k,v)::argsEnv (k+1) r
theorem get_argsEnv:∀ (l:List Value) (i k:Nat) (v:Value),get (argsEnv i l) k=some v→i≤k∧l[k - i]?=some v
 | [],_,_,_,h=>by simp [argsEnv,get] at h
 | u::r,i,k,v,h=>by
  simp only [argsEnv,get_cons] at h
  by_cases e:i=k
  ·subst e;simp at h;subst h;exact ⟨Nat.le_refl _,by simp⟩
  ·rw [if_neg e] at h
   obtain ⟨h1,h2⟩:=get_argsEnv r (i+1) k v h;refine ⟨by omega,?_⟩;have:k - i=(k - (i+1))+1:=by omega
   rw [this];simpa using h2
theorem Ct.enter {P:Program} {f:FuncId} {fn:Func} {c:Code} {N:Nat} {rs:Array ResultVar} {args:List Value} {e:World} {L:List Res} {Post:Value→List Res→Prop}
 (hf:P.funcs[f]?=some fn) (hb:fn.body=some c) (hN:fn.ntmps=N) (hr:fn.results=rs) (hle:Nat.ble args.length N=true)
 (h:W P ⟨N,[]⟩ c (BodyQ rs (CtPost e Post)) (argsEnv 0 args) e L):Ct P f args.toArray e L Post :=
 Ct.mk hf hb hN hr (by simpa using (Nat.le_of_ble_eq_true hle)) (fun k v hk=>by simpa using (get_argsEnv args 0 k v hk).2) h
section
variable {P:Program} {N:Fr} {Q:Goal} {σ:Env} {e:World} {L:List Res}
theorem Fin.ret {rs:Array ResultVar} {Post:Value→List Res→Prop} {vs:List Value} (L':List Res) (hv:retvs σ rs.toList=some vs) (hL:Ent L L') (hp:Post (tup vs) L'):Fin (BodyQ rs (CtPost e Post)) .ret σ e L :=
 fun _ hs=>⟨vs,hv,tup vs,L',rfl,hp,hs.ent hL⟩
theorem Fin.stop {rs:Array ResultVar} {Post:Value→List Res→Prop} {vs:List Value} (L':List Res) (hv:retvs σ rs.toList=some vs) (hL:Ent L L') (hp:Post (tup vs) L'):Fin (BodyQ rs (CtPost e Post)) .normal σ e L :=
 fun _ hs=>⟨vs,hv,tup vs,L',rfl,hp,hs.ent hL⟩
theorem Fin.next {y:Code} {Q1:Goal} (h:W P N y Q1 σ e L):Fin (thenQ (Next P N y Q1) Q) .normal σ e L:=fun w hs a ha=>h a w ha hs
theorem Fin.then_ret {K:Env→World→Prop} (h:Fin Q .ret σ e L):Fin (thenQ K Q) .ret σ e L:=h
theorem Fin.then_exit {K:Env→World→Prop} {i:Nat} (h:Fin Q (.exit i) σ e L):Fin (thenQ K Q) (.exit i) σ e L:=h
theorem Fin.block_normal {id:Nat} (h:Fin Q .normal σ e L):Fin (blockQ id Q) .normal σ e L:=h
theorem Fin.block_ret {id:Nat} (h:Fin Q .ret σ e L):Fin (blockQ id Q) .ret σ e L:=h
theorem Fin.block_hit {id:Nat} (h:Fin Q .normal σ e L):Fin (blockQ id Q) (.exit id) σ e L:=fun w hs=>by simp only [blockQ,if_true];exact h w hs
theorem Fin.block_miss {id i:Nat} (hi:Nat.beq i id=false) (h:Fin Q (.exit i) σ e L):Fin (blockQ id Q) (.exit i) σ e L:=fun w hs=>by
 simp only [blockQ,if_neg (Nat.ne_of_beq_eq_false hi)];exact h w hs
theorem Fin.round {ι:Type} {Iσ:ι→Env} {IL:ι→List Res} {IP:ι→Prop} {μ:ι→Nat} {m:Nat} (j:ι) (hj:IP j) (hm:μ j<m) (hσ:∀ k v,get (Iσ j) k=some v→get σ k=some v) (hL:Ent L (IL j)) :
 Fin (thenQ (RoundQ Iσ IL IP μ m e) Q) .normal σ e L :=
 fun _ hs=>⟨j,hj,hm,hσ,hs.ent hL⟩
theorem sub_nil {σ:Env}:∀ k v,get [] k=some v→get σ k=some v:=fun _ _ h=>by cases h
theorem sub_cons {σ r:Env} {j:Nat} {u:Value} (h:get σ j=some u) (f:∀ k v,get r k=some v→get σ k=some v):∀ k v,get ((j,u)::r) k=some v→get σ k=some v:=fun k v hk=>by
 rw [get_cons] at hk
 by_cases e:j=k
 ·subst e;simp at hk;subst hk;exact h
 ·rw [if_neg e] at hk;exact f k v hk
theorem Do.call {f g:FuncId} {xs:List Operand} {vs:List Value} {ats:Array TypeId} {d:Nat} {ty:TypeId} {pos:String} {af:Array Edge} {gd:Option (Nat × Bool)} {K:Env→List Res→Prop} {Post:Value→List Res→Prop}
 [i:CallT P f g] (hx:evs σ xs=some vs) (hd:Nat.blt d N.n=true) (h:Ct P g vs.toArray e L Post) (k:∀ v L',Post v L'→K ((d,v)::σ) L') :
 Do P N ⟨some d,.call { callee:=.value (.func f),args:=xs.toArray,argTypes:=ats },ty,pos,af,gd⟩ K σ e L:=by
 intro a w ha hs K' Q' hK;unfold Oper.wp;have h1:execOp a.eval ⟨some d,.call { callee:=.value (.func f),args:=xs.toArray,argTypes:=ats },ty,pos,af,gd⟩=callFunc f (#[]++xs.toArray.map a.eval++#[]):=rfl;have h2:(#[]++xs.toArray.map a.eval++#[]:Array Value)=vs.toArray:=by simp [ha.evs hx]
 rw [h1,h2,i.run,Oper.upon_enter];refine (h w hs).mono ?_;rintro x w' ⟨v,L',rfl,hp,hs'⟩;exact hK _ _ _ _ (k v L' hp) (ha.put hd v) hs'
def View (n:Nat) (v:Value) (k:Nat) (xs:List Value):Res:=fun h =>
 xs.length=k*n∧∃ ad cap,v=.slice ad k cap∧k≤cap∧cap≤maxLen∧(ad=none→cap=0)∧∀ j u,xs[j]?=some u→∃ g o,ad=some ⟨g,o,none⟩∧h.cell ⟨g,o+j,none⟩=some u
theorem View.le {n k:Nat} {v:Value} {xs:List Value} {h h':Heap} (x:View n v k xs h) (l:Heap.le h h'):View n v k xs h':=by
 obtain ⟨h1,ad,cap,h2,h3,h4,h5,h6⟩:=x;exact ⟨h1,ad,cap,h2,h3,h4,h5,fun j u hj=>by obtain ⟨g,o,a,b⟩:=h6 j u hj;exact ⟨g,o,a,Heap.cell_le l b⟩⟩
def RdSl (L:List Res) (n:Nat) (v:Value) (k:Nat) (xs:List Value):Prop:=∀ h,sepL L h→View n v k xs h
theorem RdSl.ent {L L':List Res} {n k:Nat} {v:Value} {xs:List Value} (h:RdSl L' n v k xs) (f:Ent L L'):RdSl L n v k xs:=fun i x=>h i (f i x)
theorem RdSl.tail {A:Res} {n k:Nat} {v:Value} {xs:List Value} (h:RdSl L n v k xs):RdSl (A::L) n v k xs:=h.ent (Ent.drop Ent.rfl)
theorem RdSl.nil (L:List Res) (n:Nat):RdSl L n (.slice none 0 0) 0 []:=fun _ _=>⟨by simp,none,0,rfl,Nat.le_refl _,by simp [maxLen],fun _=>rfl,fun j u h=>by simp at h⟩
theorem RdSl.view {L R:List Res} {n k:Nat} {v:Value} {xs:List Value} (p:Pull L (View n v k xs) R):RdSl L n v k xs:=fun h x=>by
 obtain ⟨h1,_,_,b,_,hA,_⟩:=p.out h x;exact View.le hA b
theorem RdSl.elem {n k k' c g o j:Nat} {u:Value} {xs:List Value} (r:RdSl L n (.slice (some ⟨g,o,none⟩) k' c) k xs) (hj:xs[j]?=some u):Rd L ⟨g,o+j,none⟩ u:=fun h x=>by
 obtain ⟨_,ad,cap,hv,_,_,_,h6⟩:=r h x
 cases hv
 obtain ⟨g',o',a,b⟩:=h6 j u hj
 cases a;exact b
def Own (E:TypeId) (n:Nat) (v:Value) (k:Nat) (xs:List Value):Res:=fun h=>xs.length=k*n ∧
 ((v=.slice none 0 0∧k=0)∨∃ g cap cur,v=.slice (some ⟨g,0,none⟩) k cap∧h g=some (.cells (List.toArray cur) E (0,0))∧k≤cap∧cap≤maxLen∧cur.length=cap*n∧cur.take (k*n)=xs)
theorem own_nil (E:TypeId) (n:Nat):Ent L (Own E n (.slice none 0 0) 0 []::L):=fun h x =>
 ⟨fun _=>none,h,fun _ _ e=>by simp at e,fun _ _ e=>by simp at e,Heap.le_refl _,⟨by simp,.inl ⟨rfl,rfl⟩⟩,x⟩
theorem own_out {E:TypeId} {n k:Nat} {v:Value} {xs:List Value} {R:List Res} {h:Heap} (x:sepL (Own E n v k xs::R) h) :
 xs.length=k*n∧((v=.slice none 0 0∧k=0∧sepL R h)∨∃ g cap cur,v=.slice (some ⟨g,0,none⟩) k cap∧k≤cap∧cap≤maxLen∧cur.length=cap*n∧cur.take (k*n)=xs∧sepL (Blk g cur E (0,0)::R) h):=by
 obtain ⟨h1,h2,a,b,c,⟨hl,hA⟩,hR⟩:=x;refine ⟨hl,?_⟩;rcases hA with ⟨hv,hk⟩|⟨g,cap,cur,hv,hg,r1,r2,r3,r4⟩
 ·exact .inl ⟨hv,hk,sepL_mono c hR⟩
 ·exact .inr ⟨g,cap,cur,hv,r1,r2,r3,r4,h1,h2,a,b,c,hg,hR⟩
theorem own_in {E:TypeId} {n k g cap:Nat} {cur:List Value} {R:List Res} (r1:k≤cap) (r2:cap≤maxLen) (r3:cur.length=cap*n) :
 Ent (Blk g cur E (0,0)::R) (Own E n (.slice (some ⟨g,0,none⟩) k cap) k (cur.take (k*n))::R):=fun _=>sepL_head fun _ hg =>
 ⟨by simp only [List.length_take,r3];exact Nat.min_eq_left (Nat.mul_le_mul_right _ r1),.inr ⟨g,cap,cur,rfl,hg,r1,r2,r3,rfl⟩⟩
theorem RdSl.own {L R:List Res} {E:TypeId} {n k:Nat} {v:Value} {xs:List Value} (p:Pull L (Own E n v k xs) R):RdSl L n v k xs:=fun h x=>by
 obtain ⟨hl,hA⟩:=own_out (p.out h x);rcases hA with ⟨hv,hk,_⟩|⟨g,cap,cur,hv,r1,r2,r3,r4,y⟩
 ·subst hv hk;have:xs=[]:=List.eq_nil_of_length_eq_zero (by simpa using hl);subst this;exact RdSl.nil L n h x
 ·subst hv;refine ⟨hl,some ⟨g,0,none⟩,cap,rfl,r1,r2,(fun e=>by cases e),fun j u hj=>⟨g,0,rfl,?_⟩⟩;obtain ⟨h1,h2,a,b,c,hg,_⟩:=y;refine Heap.cell_le b ?_;unfold Heap.cell;rw [show h1 g=_ from hg];rw [← r4,List.getElem?_take] at hj
  split at hj
  ·simpa using hj
  ·cases hj
theorem own_view {E:TypeId} {n k:Nat} {v:Value} {xs:List Value} {R:List Res}:Ent (Own E n v k xs::R) (View n v k xs::R):=fun _=>sepL_head fun h hA=>by
 have x:sepL [Own E n v k xs] h:=⟨h,fun _=>none,fun _ _ _=>rfl,Heap.le_refl _,fun _ _ e=>by simp at e,hA,trivial⟩
 exact RdSl.own (R:=[]) .zero h x
end
end Go.Bs
namespace Go.Bs
class ElT (P:Program) (t:TypeId) (z:outParam Value) (n:outParam Nat) (by':outParam Nat):Prop where
 info:(P.info? t).map (fun i=>(i.zero,i.size,i.bytes))=some (some z,n,by')
theorem ElT.parts {P:Program} {t:TypeId} {z:Value} {n b:Nat} (h:ElT P t z n b):∃ i,P.info? t=some i∧i.zero=some z∧i.size=n∧i.bytes=b:=by
 have h1:=h.info
 cases hi:P.info? t with
 | none=>rw [hi] at h1;simp at h1
 | some i=>rw [hi] at h1;simp at h1;exact ⟨i,rfl,h1.1,h1.2.1,h1.2.2⟩
section
variable {P:Program} {N:Fr} {Q:Goal} {σ:Env} {e:World} {L:List Res} {all:Array Oper} {rest:List Oper}
variable {d:Nat} {op:Op} {ty:TypeId} {pos:String} {af:Array Edge} {gd:Option (Nat × Bool)} {K:Env→List Res→Prop}
theorem W.of_sep {c:Code} {p:Prop} (f:∀ h,sepL L h→p) (h:p→W P N c Q σ e L):W P N c Q σ e L:=fun a w ha hs=>h (f _ hs.2.2.2) a w ha hs
theorem O.of_sep {l:List Oper} {p:Prop} (f:∀ h,sepL L h→p) (h:p→O P N all l Q σ e L):O P N all l Q σ e L:=fun a w ha hs=>h (f _ hs.2.2.2) a w ha hs
theorem Ct.of_sep {f:FuncId} {args:Array Value} {Post:Value→List Res→Prop} {p:Prop} (g:∀ h,sepL L h→p) (h:p→Ct P f args e L Post):Ct P f args e L Post:=fun w hs=>h (g _ hs.2.2.2) w hs
def Shape (v:Value) (k:Nat):Prop:=∃ ad cap,v=.slice ad k cap∧k≤cap∧cap≤maxLen∧(ad=none→cap=0)∧(k=0∨∃ g o,ad=some ⟨g,o,none⟩)
theorem RdSl.shape {n k:Nat} {v:Value} {xs:List Value} (r:RdSl L n v k xs) (hn:0<n):∀ h,sepL L h→Shape v k∧xs.length=k*n:=fun h x=>by
 obtain ⟨h1,ad,cap,h2,h3,h4,h5,h6⟩:=r h x;refine ⟨⟨ad,cap,h2,h3,h4,h5,?_⟩,h1⟩
 cases xs with
 | nil =>
  left
  have h2:k*n=0:=h1.symm;rcases Nat.mul_eq_zero.1 h2 with h3|h3
  ·exact h3
  ·omega
 | cons u l =>
  obtain ⟨g,o,a,_⟩:=h6 0 u (by simp);exact .inr ⟨g,o,a⟩
theorem O.ex {l:List Oper} {α:Sort _} {f:α→Res} {R:List Res} (p:Pull L (Ex f) R) (h:∀ x,O P N all l Q σ e (f x::R)):O P N all l Q σ e L:=fun a w ha hs=>by
 obtain ⟨x,hx⟩:=ex_out (p.out _ hs.2.2.2);exact h x a w ha ⟨hs.1,hs.2.1,hs.2.2.1,hx⟩
theorem Ct.ex {g:FuncId} {args:Array Value} {Post:Value→List Res→Prop} {α:Sort _} {f:α→Res} {R:List Res} (p:Pull L (Ex f) R) (h:∀ x,Ct P g args e (f x::R) Post):Ct P g args e L Post:=fun w hs=>by
 obtain ⟨x,hx⟩:=ex_out (p.out _ hs.2.2.2);exact h x w ⟨hs.1,hs.2.1,hs.2.2.1,hx⟩
theorem Val.indexAddr {x y:Operand} {t:TypeId} {el n l c g o:Nat} {k:IntKind} {i:Int} [s:SlT P t el n] (h:ev σ x=some (.slice (some ⟨g,o,none⟩) l c)) (h1:ev σ y=some (.int k i)) (h0:0≤i) (hl:i<l) :
 Val P N (.indexAddr t x y) ty (.pointer (some ⟨g,o+i.toNat*n,none⟩)) σ e L:=fun a w ha _ _ _ _ _=>by
 simp [execOp,ha.ev h,ha.ev h1,Instr.indexAt,run_underlying s.und,asIntOf,h0,hl,s.siz,Addr.add_lit]
theorem Val.indexAddrN {x y:Operand} {t:TypeId} {el n l c g o:Nat} {k:IntKind} {i:Nat} [s:SlT P t el n] (h:ev σ x=some (.slice (some ⟨g,o,none⟩) l c)) (h1:ev σ y=some (.int k i)) (hl:i<l) :
 Val P N (.indexAddr t x y) ty (.pointer (some ⟨g,o+i*n,none⟩)) σ e L:=by
 have:=Val.indexAddr (P:=P) (N:=N) (ty:=ty) (e:=e) (L:=L) (t:=t) h h1 (by omega) (by omega)
 simpa using this
theorem Val.index1 {x y:Operand} {t:TypeId} {s:ByteArray} {k:IntKind} {i:Nat} [q:StrT P t] (h:ev σ x=some (.string s)) (h1:ev σ y=some (.int k i)) (hl:i<s.size) :
 Val P N (.index t x y) ty (.int .u8 (s[i].toNat)) σ e L:=fun a w ha _ _ _ _ _=>by
 simp [execOp,ha.ev h,ha.ev h1,Instr.index,run_underlying q.und,asIntOf,hl]
def cutAt (ad:Option Addr) (cap lo n:Nat):Option Addr:=if cap=lo then ad else ad.map (·.add (lo*n))
theorem Val.sliceHi {x y:Operand} {t:TypeId} {el n l c:Nat} {ad:Option Addr} {k:IntKind} {i:Int} [s:SlT P t el n] (h:ev σ x=some (.slice ad l c)) (h1:ev σ y=some (.int k i)) (h0:0≤i) (hl:i≤c) :
 Val P N (.slice t x none (some y) none) ty (.slice ad i.toNat c) σ e L:=fun a w ha _ _ _ _ _=>by
 simp only [execOp,ha.ev h,ha.ev h1,Option.map_none,Option.map_some]
 simp [Instr.sliceAt,Instr.slice,run_underlying s.und,Instr.sliceBounds,Instr.sliceBound,asIntOf,h0,hl,s.siz]
 by_cases hc:c=0<;>simp [hc,Addr.add]
theorem Val.sliceLo {x y:Operand} {t:TypeId} {el n l c:Nat} {ad:Option Addr} {k:IntKind} {i:Int} [s:SlT P t el n] (h:ev σ x=some (.slice ad l c)) (h1:ev σ y=some (.int k i)) (h0:0≤i) (hl:i≤l) :
 Val P N (.slice t x (some y) none none) ty (.slice (cutAt ad c i.toNat n) (l - i.toNat) (c - i.toNat)) σ e L:=fun a w ha _ _ _ _ _=>by
 simp only [execOp,ha.ev h,ha.ev h1,Option.map_none,Option.map_some]
 simp [Instr.sliceAt,Instr.slice,run_underlying s.und,Instr.sliceBounds,Instr.sliceBound,asIntOf,h0,hl,s.siz,cutAt]
theorem Val.sliceLoHi {x y z:Operand} {t:TypeId} {el n l c:Nat} {ad:Option Addr} {k k':IntKind} {i j:Int} [s:SlT P t el n] (h:ev σ x=some (.slice ad l c)) (h1:ev σ y=some (.int k i)) (h2:ev σ z=some (.int k' j)) (h0:0≤i) (hl:i≤j) (hj:j≤c) :
 Val P N (.slice t x (some y) (some z) none) ty (.slice (cutAt ad c i.toNat n) (j.toNat - i.toNat) (c - i.toNat)) σ e L:=fun a w ha _ _ _ _ _=>by
 have e1:((j.toNat:Nat):Int)=j:=Int.toNat_of_nonneg (by omega);have h3:0≤j:=by omega
 simp only [execOp,ha.ev h,ha.ev h1,ha.ev h2,Option.map_none,Option.map_some]
 simp [Instr.sliceAt,Instr.slice,run_underlying s.und,Instr.sliceBounds,Instr.sliceBound,asIntOf,h0,hl,s.siz,cutAt,h3,hj,e1]
theorem View.cut {n k c lo hi:Nat} {ad:Option Addr} {xs:List Value} {hh:Heap} (h:View n (.slice ad k c) k xs hh) (h1:lo≤hi) (h2:hi≤k):View n (.slice (cutAt ad c lo n) (hi - lo) (c - lo)) (hi - lo) ((xs.drop (lo*n)).take ((hi - lo)*n)) hh:=by
 obtain ⟨hl,ad',cap,hv,h3,h4,h5,h6⟩:=h
 cases hv
 have hle:(hi - lo)*n≤(k - lo)*n:=Nat.mul_le_mul_right _ (by omega);have hk:k*n=(k - lo)*n+lo*n:=by rw [← Nat.add_mul];congr 1;omega
 refine ⟨?_,_,_,rfl,by omega,by omega,?_,?_⟩
 ·simp only [List.length_take,List.length_drop,hl];omega
 ·intro hn;unfold cutAt at hn
  split at hn
  ·have:=h5 hn;omega
  ·have:=h5 (by simpa using hn);omega
 ·intro j u hj;rw [List.getElem?_take] at hj
  split at hj
  ·rw [List.getElem?_drop] at hj
   obtain ⟨g,o,e1,e2⟩:=h6 _ _ hj;subst e1;unfold cutAt
   by_cases hc:c=lo
   ·exfalso
    have h7:hi - lo=0:=by omega
    rename_i hlt;rw [h7] at hlt;simp at hlt
   ·refine ⟨g,o+lo*n,by simp [hc,Addr.add_lit],?_⟩;rw [Nat.add_assoc];exact e2
  ·cases hj
theorem RdSl.cut {n k c lo hi:Nat} {ad:Option Addr} {xs:List Value} (h:RdSl L n (.slice ad k c) k xs) (h1:lo≤hi) (h2:hi≤k):RdSl L n (.slice (cutAt ad c lo n) (hi - lo) (c - lo)) (hi - lo) ((xs.drop (lo*n)).take ((hi - lo)*n)):=fun i x=>(h i x).cut h1 h2
theorem RdSl.cutHi {n k c hi:Nat} {ad:Option Addr} {xs:List Value} (h:RdSl L n (.slice ad k c) k xs) (h2:hi≤k):RdSl L n (.slice ad hi c) hi (xs.take (hi*n)):=by
 have:=h.cut (Nat.zero_le hi) h2;simp only [Nat.sub_zero,Nat.zero_mul,List.drop_zero] at this
 have e:cutAt ad c 0 n=ad:=by unfold cutAt;cases ad<;>simp [Addr.add]
 rwa [e] at this
theorem View.cutLo {n k c lo:Nat} {ad:Option Addr} {xs:List Value} {hh:Heap} (h:View n (.slice ad k c) k xs hh) (h2:lo≤k):View n (.slice (cutAt ad c lo n) (k - lo) (c - lo)) (k - lo) (xs.drop (lo*n)) hh:=by
 have:=h.cut h2 (Nat.le_refl k)
 rwa [List.take_of_length_le] at this
 simp only [List.length_drop,h.1,Nat.sub_mul];omega
theorem RdSl.cutLo {n k c lo:Nat} {ad:Option Addr} {xs:List Value} (h:RdSl L n (.slice ad k c) k xs) (h2:lo≤k):RdSl L n (.slice (cutAt ad c lo n) (k - lo) (c - lo)) (k - lo) (xs.drop (lo*n)):=fun i x=>(h i x).cutLo h2
theorem upon_ok_do {o:Oper} {a:Act} {w w':World} {v:Value} {K':Act→World→Prop} {Q':Exit→Act→World→Prop} (h:(execOp a.eval o).run P w=.ok (.value v) w') (k:K' (a.put o.dst v) w'):o.wp P a w K' Q':=by
 unfold Oper.wp;rw [h];exact k
theorem upon_skip_do {o:Oper} {a:Act} {w w':World} {K':Act→World→Prop} {Q':Exit→Act→World→Prop} (h:(execOp a.eval o).run P w=.ok .skip w') (k:K' (a.put o.dst undef) w'):o.wp P a w K' Q':=by
 unfold Oper.wp;rw [h];exact k
def evp (σ:Env):List (Nat × Operand)→Option (List (Nat × Value))
 | []=>some []
 | (i,x)::r=>match ev σ x,evp σ r with
  | some v,some vs=>some ((i,v)::vs)
  | _,_=>none
theorem Has.evp {a:Act} (h:Has N σ a):∀ {xs:List (Nat × Operand)} {vs:List (Nat × Value)},evp σ xs=some vs→(xs.map fun p=>(p.1,a.eval p.2))=vs
 | [],vs,e=>by simpa [Bs.evp] using e
 | (i,x)::r,vs,e=>by
  simp only [Bs.evp] at e
  cases hx:Bs.ev σ x with
  | none=>rw [hx] at e;simp at e
  | some v =>
   cases hr:Bs.evp σ r with
   | none=>rw [hx,hr] at e;simp at e
   | some us =>
    rw [hx,hr] at e;simp at e;subst e
    simp only [List.map_cons,h.ev hx,h.evp hr]
theorem Do.box {x:Operand} {v:Value} {t:TypeId} {cs:List Value} (h:ev σ x=some v) (hc:v.cells=cs.toArray) (hd:Nat.blt d N.n=true) (k:∀ g,K ((d,.pointer (some ⟨g,0,none⟩))::σ) (Blk g cs t (0,0)::L)) :
 Do P N ⟨some d,.box t x,ty,pos,af,gd⟩ K σ e L:=fun a w ha hs K' Q' hK =>
 upon_ok_do (w':=w.alloc (.cells cs.toArray t)) (v:=.pointer (some ⟨w.heap.size,0,none⟩)) (by simp [execOp,ha.ev h,Instr.box,newVar,newRow,hc]) (hK _ _ _ _ (k _) (ha.put hd _) (hs.alloc _))
theorem Do.alloc {z:Value} {t:TypeId} {cs:List Value} [i:ZeroT P t z] (hc:z.cells=cs.toArray) (hd:Nat.blt d N.n=true) (k:∀ g,K ((d,.pointer (some ⟨g,0,none⟩))::σ) (Blk g cs t (0,0)::L)) :
 Do P N ⟨some d,.alloc t,ty,pos,af,gd⟩ K σ e L:=fun a w ha hs K' Q' hK =>
 upon_ok_do (w':=w.alloc (.cells cs.toArray t)) (v:=.pointer (some ⟨w.heap.size,0,none⟩)) (by simp [execOp,Instr.alloc,i.run,newVar,newRow,hc]) (hK _ _ _ _ (k _) (ha.put hd _) (hs.alloc _))
inductive Parts (n:Nat):Nat→List (Nat × Value)→List Value→Prop
 | nil {i:Nat}:Parts n i [] []
 | one {i:Nat} {v:Value} {r:List (Nat × Value)} {l:List Value}:v.cells=#[v]→n=1→Parts n (i+1) r l→Parts n i ((i,v)::r) (v::l)
 | agg {i:Nat} {cs:List Value} {r:List (Nat × Value)} {l:List Value}:cs.length=n→Parts n (i+1) r l→Parts n i ((i,.agg cs.toArray)::r) (cs++l)
theorem foldl_set:∀ (vs:List Value) (k off:Nat) (a:Array Value),off+k+vs.length≤a.size →
 ((vs.zipIdx k).foldl (fun cs (x:Value × Nat)=>cs.setIfInBounds (off+x.2) x.1) a).toList=a.toList.take (off+k)++vs++a.toList.drop (off+k+vs.length)
 | [],k,off,a,_=>by simp
 | v::vs,k,off,a,h=>by
  simp only [List.zipIdx_cons,List.foldl_cons];have h':off+k+(vs.length+1)≤a.size:=h;rw [foldl_set vs (k+1) off _ (by simp;omega)];have hlt:off+k<a.toList.length:=by simp;omega
  have e1:(a.setIfInBounds (off+k) v).toList=a.toList.set (off+k) v:=by simp
  rw [e1]
  have e2:(a.toList.set (off+k) v).take (off+(k+1))=a.toList.take (off+k)++[v]:=by
   rw [← Nat.add_assoc,List.take_succ_eq_append_getElem (by simpa using hlt)]
   simp [List.take_set_of_le]
  have e3:(a.toList.set (off+k) v).drop (off+(k+1)+vs.length)=a.toList.drop (off+k+(v::vs).length):=by
   rw [List.drop_set_of_lt (by omega)]
   congr 1
   simp;omega
  rw [e2,e3]
  simp
theorem Parts.fill {n i:Nat} {ps:List (Nat × Value)} {cs:List Value} (h:Parts n i ps cs):∀ (a:Array Value),a.size=(i+ps.length)*n→Instr.fill (fun i=>some (i*n,n)) a ps=some (a.toList.take (i*n)++cs).toArray:=by
 have step:∀ (i:Nat) (us:List Value) (r:List (Nat × Value)) (l:List Value) (a:Array Value),us.length=n→a.size=(i+(r.length+1))*n →
  (∀ (a:Array Value),a.size=(i+1+r.length)*n→Instr.fill (fun i=>some (i*n,n)) a r=some (a.toList.take ((i+1)*n)++l).toArray) →
  Instr.fill (fun i=>some (i*n,n)) (us.toArray.zipIdx.foldl (fun cs (x:Value × Nat)=>cs.setIfInBounds (i*n+x.2) x.1) a) r=some (a.toList.take (i*n)++(us++l)).toArray:=by
  intro i us r l a hu ha ih
  have e0:us.toArray.zipIdx.foldl (fun cs (x:Value × Nat)=>cs.setIfInBounds (i*n+x.2) x.1) a=(us.zipIdx 0).foldl (fun cs (x:Value × Nat)=>cs.setIfInBounds (i*n+x.2) x.1) a:=by
   rw [← Array.foldl_toList]
   simp
  have hb:i*n+us.length≤a.size:=by
   rw [ha,hu,← Nat.succ_mul];exact Nat.mul_le_mul_right _ (by omega)
  have e1:=foldl_set us 0 (i*n) a (by simpa using hb);simp only [Nat.add_zero] at e1
  rw [e0]
  have hsz:((us.zipIdx 0).foldl (fun cs (x:Value × Nat)=>cs.setIfInBounds (i*n+x.2) x.1) a).size=a.size:=by
   rw [← Array.length_toList,e1];simp only [List.length_append,List.length_take,List.length_drop,Array.length_toList];omega
  rw [ih _ (by rw [hsz,ha];congr 1;omega),e1]
  congr 1
  rw [List.append_assoc,show (i+1)*n=i*n+us.length from by rw [hu,Nat.succ_mul],← List.append_assoc,← List.append_assoc];rw [List.take_left' (by simp only [List.length_append,List.length_take,Array.length_toList];omega)]
 induction h with
 | nil =>
  intro a ha;simp only [List.length_nil,Nat.add_zero] at ha
  simp only [Instr.fill,List.append_nil]
  congr 1
  rw [← ha,← Array.length_toList,List.take_length]
 | one hv hn _ ih =>
  rename_i i v r l _;intro a ha;simp only [Instr.fill,hv];rw [if_neg (by subst hn;simp only [List.length_cons] at ha;simp [ha])];exact step i [v] r l a (by simp [hn]) (by simpa using ha) ih
 | agg hl _ ih =>
  rename_i i cs r l _;intro a ha
  have hb:i*n+cs.length≤a.size:=by
   rw [ha,hl,← Nat.succ_mul];exact Nat.mul_le_mul_right _ (by simp only [List.length_cons];omega)
  have hcs:(Value.agg cs.toArray).cells=cs.toArray:=rfl;simp only [Instr.fill,hcs];rw [if_neg (by simp [hl];rw [hl] at hb;exact hb)];exact step i cs r l a hl (by simpa using ha) ih
theorem Do.buildSlice {t:TypeId} {el n len b:Nat} {z:Value} {parts:List (Nat × Operand)} {vs:List (Nat × Value)} {cs:List Value} [i:SlT P t el n] [j:ElT P el z n b] (h:evp σ parts=some vs) (hd:Nat.blt d N.n=true) (hn:Nat.ble (len*n) 16777216=true)
 (hlen:vs.length=len) (hc:Parts n 0 vs cs) (hz:z.cells.size=n)
 (k:∀ g,K ((d,.slice (some ⟨g,0,none⟩) len len)::σ) (Blk g cs el (0,0)::L)) :
 Do P N ⟨some d,.buildSlice t len parts.toArray,ty,pos,af,gd⟩ K σ e L:=fun a w ha hs K' Q' hK=>by
 obtain ⟨ti,h1,h2,h3,h4⟩:=j.parts;have hle:¬ (16777216<len*n):=by have:=Nat.le_of_ble_eq_true hn;omega
 have hpv:(parts.toArray.map fun p=>(p.1,a.eval p.2)).toList=vs:=by simp [← ha.evp h]
 refine upon_ok_do (w':=w.alloc (.cells cs.toArray el)) (v:=.slice (some ⟨w.heap.size,0,none⟩) len len) ?_ (hK _ _ _ _ (k _) (ha.put hd _) (hs.alloc _))
 have hc1:Instr.fill (fun i=>some (i*n,n)) ((Array.range (len*n)).map (z.cells[· % z.cells.size]!)) vs=some cs.toArray:=by
  have:=hc.fill ((Array.range (len*n)).map (z.cells[· % z.cells.size]!)) (by simp [hlen])
  simpa using this
 simp only [execOp,Instr.buildSlice];have e1:(parts.toArray.map fun x=>match x with|(i,x)=>(i,a.eval x)).toList=vs:=hpv;rw [e1]
 by_cases hz:len*n=0
 ·have r0:Array.range 0=#[]:=Array.eq_empty_of_size_eq_zero (by simp);have hc':Instr.fill (fun i=>some (i*n,n)) #[] vs=some cs.toArray:=by rw [hz,r0] at hc1;simpa using hc1
  simp [run_underlying i.und,i.siz,hz,hc',newRow,r0]
 ·simp [run_underlying i.und,i.siz,hz,hle,zeroValue,typeInfo,h1,h2,hc1,newRow]
theorem Do.store {t:TypeId} {x y:Operand} {g off:Nat} {v:Value} {cs cs':List Value} {T:TypeId} {L':List Res} [i:PlainT P t] (h:ev σ x=some (.pointer (some ⟨g,off,none⟩))) (h1:ev σ y=some v) (hv:v.oneCell'=true)
 (u:Upd L (Blk g cs T (0,0)) (Blk g cs' T (0,0)) L') (hset:SetAt cs off v cs') (k:K σ L') :
 Do P N ⟨none,.store t x y,ty,pos,af,gd⟩ K σ e L:=fun a w ha hs K' Q' hK=>by
 obtain ⟨rfl,hlt⟩:=hset.eq;obtain ⟨R,f1,f2⟩:=u.split;have hs1:=hs.ent f1;have hcell:w.cell? ⟨g,off,none⟩=some cs[off]:=(Rd.blk (R:=R) (cs:=cs) (T:=T) (fz:=(0,0)) .zero (by rw [nth_eq];exact List.getElem?_eq_getElem hlt)).at hs1
 have hfz:w.frozen? ⟨g,off,none⟩=false:=by
  obtain ⟨h0,h1',b,c,d',hA,hR⟩:=hs1.2.2.2;have:=c _ _ hA;simp only [hp] at this
  simp [World.frozen?,this]
 have hcs:v.cells=#[v]:=by cases v<;>first|rfl|simp [Value.oneCell'] at hv
 refine upon_skip_do (w':=w.setCell ⟨g,off,none⟩ v) ?_ (hK _ _ _ _ k ha ((hs1.setCell v).ent f2));simp only [execOp,ha.ev h,ha.ev h1,Instr.storeAt,Instr.sureAddr,storeVar,hcs]
 simp [i.siz,storeCells,run_store,hv,hcell,hfz,Addr.add]
end
end Go.Bs
namespace Go.Bs
def u8 (c:UInt8):Value:=.int .u8 (c.toNat:Int)
def str (l:List UInt8):ByteArray:=⟨l.toArray⟩
theorem strOfNums_u8 (l:List UInt8):strOfNums (l.map fun c=>(c.toNat:Int))=str l:=by
 unfold strOfNums str
 congr 1
 simp only [List.map_map];rw [show ((fun n:Int=>UInt8.ofNat n.toNat) ∘ fun c:UInt8=>(c.toNat:Int))=id from by funext c;simp]
 simp
theorem toList_str (l:List UInt8):(str l).toList=l:=by
 exact ByteArray.toList_mk l
theorem size_str (l:List UInt8):(str l).size=l.length:=by simp [str,ByteArray.size]
section
variable {P:Program} {N:Fr} {Q:Goal} {σ:Env} {e:World} {L:List Res} {all:Array Oper} {rest:List Oper}
variable {d:Nat} {op:Op} {ty:TypeId} {pos:String} {af:Array Edge} {gd:Option (Nat × Bool)} {K:Env→List Res→Prop}
def RdB (L:List Res) (v:Value) (l:List UInt8):Prop:=RdSl L 1 v l.length (l.map u8)
theorem RdB.ent {L':List Res} {v:Value} {l:List UInt8} (h:RdB L' v l) (f:Ent L L'):RdB L v l:=RdSl.ent h f
theorem RdB.tail {A:Res} {v:Value} {l:List UInt8} (h:RdB L v l):RdB (A::L) v l:=RdSl.tail h
theorem RdB.elem {g o k c j:Nat} {l:List UInt8} {b:UInt8} (r:RdB L (.slice (some ⟨g,o,none⟩) k c) l) (hj:l[j]?=some b):Rd L ⟨g,o+j,none⟩ (u8 b):=RdSl.elem r (by simp [hj])
theorem RdB.nil (L:List Res):RdB L (.slice none 0 0) []:=RdSl.nil L 1
theorem RdSl.cast {n k:Nat} {v:Value} {xs ys:List Value} (h:RdSl L n v k xs) (e:xs=ys):RdSl L n v k ys:=e ▸ h
theorem RdSl.blk {R:List Res} {g k:Nat} {xs:List Value} {T:TypeId} {fz:Nat × Nat} (p:Pull L (Blk g xs T fz) R) (hk:xs.length=k) (hm:k≤maxLen):RdSl L 1 (.slice (some ⟨g,0,none⟩) k k) k xs:=fun h x =>
 ⟨by omega,some ⟨g,0,none⟩,k,rfl,Nat.le_refl _,hm,(fun e=>by cases e),fun j u hj=>⟨g,0,rfl,by
  rw [Nat.zero_add];exact Rd.blk p (by rw [nth_eq];exact hj) h x⟩⟩
theorem run_bytes {t T el n:Nat} {v:Value} {l:List UInt8} [i:SlT P t el n] [j:IntT P el .u8] [s:StrT P T] {w:World} (hs:Sat e L w) (r:RdB L v l):(convert t T v).run P w=.ok (.string (str l)) w:=by
 obtain ⟨h1,ad,cap,rfl,h3,h4,h5,h6⟩:=r _ hs.2.2.2
 cases l with
 | nil =>
  cases ad with
  | none =>
   simp [convert,run_underlying i.und,run_underlying j.und,run_underlying s.und,Conv.bytesToString]
   rfl
  | some a =>
   rw [run_convert_bytes_string w t T el (some a) _ _ i.und j.und s.und];have:=run_bytesToString (P:=P) w a 0 cap [] (by simp [loadCells,loadCellsFrom])
   simp at this ⊢
   rw [this]
   rfl
 | cons c l =>
  obtain ⟨g,o,e1,_⟩:=h6 0 (u8 c) (by simp);subst e1
  have:=run_convert_bytes_arg (P:=P) w t el i.und j.und g o (c::l).length cap ((c::l).map fun c=>(c.toNat:Int)) (by simp) (fun k hk=>by
   obtain ⟨g',o',e1,e2⟩:=h6 k (u8 (c::l)[k]) (by simp only [List.getElem?_map];rw [List.getElem?_eq_getElem hk];rfl)
   cases e1
   rw [show w.cell? ⟨g,o+k,none⟩=some (u8 (c::l)[k]) from e2];simp only [u8,List.getD_eq_getElem?_getD,List.getElem?_map,List.getElem?_eq_getElem hk,Option.map_some,Option.getD_some]) T s.und
  rw [strOfNums_u8] at this
  exact this
theorem Val.bytes {t T el n:Nat} {x:Operand} {v:Value} {l:List UInt8} [i:SlT P t el n] [j:IntT P el .u8] [s:StrT P T] (h:ev σ x=some v) (r:RdB L v l):Val P N (.convert t T x) ty (.string (str l)) σ e L:=fun a w ha hs _ _ _ _=>by
 simp [execOp,ha.ev h,run_bytes hs r]
theorem Val.eqlStr {t t':TypeId} {x y:Operand} {s u:List UInt8} (h:ev σ x=some (.string (str s))) (h1:ev σ y=some (.string (str u))):Val P N (.binOp .eql t x y t') ty (.bool (decide (s=u))) σ e L:=by
 have:=Val.eqlS (P:=P) (N:=N) (ty:=ty) (e:=e) (L:=L) (t:=t) (t':=t') h h1;rw [toList_str,toList_str] at this
 by_cases hh:s=u
 ·simpa [hh] using this
 ·have e1:(s == u)=false:=by simpa using hh
  rw [e1] at this;simpa [hh] using this
theorem Val.neqStr {t t':TypeId} {x y:Operand} {s u:List UInt8} (h:ev σ x=some (.string (str s))) (h1:ev σ y=some (.string (str u))):Val P N (.binOp .neq t x y t') ty (.bool (decide (s≠u))) σ e L:=by
 have:=Val.neqS (P:=P) (N:=N) (ty:=ty) (e:=e) (L:=L) (t:=t) (t':=t') h h1;rw [toList_str,toList_str] at this
 by_cases hh:s=u
 ·simpa [hh] using this
 ·have e1:(s == u)=false:=by simpa using hh
  rw [e1] at this;simpa [hh] using this
theorem RdSl.cells {n k:Nat} {v:Value} {xs:List Value} (r:RdSl L n v k xs) {w:World} (hs:Sat e L w):∃ ad cap,v=.slice ad k cap∧(xs≠[]→∃ a,ad=some a∧∀ j u,xs[j]?=some u→w.cell? (a.add j)=some u):=by
 obtain ⟨h1,ad,cap,rfl,h3,h4,h5,h6⟩:=r _ hs.2.2.2;refine ⟨ad,cap,rfl,fun hne=>?_⟩
 cases xs with
 | nil=>exact absurd rfl hne
 | cons x l =>
  obtain ⟨g,o,e1,_⟩:=h6 0 x (by simp);subst e1;refine ⟨_,rfl,fun j u hj=>?_⟩;obtain ⟨g',o',e1,e2⟩:=h6 j u hj
  cases e1
  rw [Addr.add_lit];exact e2
theorem blk_arr (g:Nat) (cs:Array Value) (T:TypeId) (R:List Res):Ent (Ob g (.cells cs T)::R) (Blk g cs.toList T (0,0)::R):=fun _ x=>by
 unfold Blk;simpa using x
theorem run_append_none (t ty el:TypeId) {n:Nat} (i:SlT P t el n) (w:World) (ad:Option Addr) (k c:Nat) (hk:k≤c) (ad2:Option Addr) (c2:Nat) :
 (Builtin.append_ #[t,t] ty #[.slice ad k c,.slice ad2 0 c2]).run P w=.ok (.slice ad k c) w:=by
 simp [Builtin.append_,run_underlying i.und,i.siz,Builtin.lenOf,hk]
 cases ad2<;>cases ad<;>simp [Builtin.firstCells,loadCells,loadCellsFrom,storeCells]
theorem Do.append {t el n b m k:Nat} {z:Value} {x y:Operand} {v u:Value} {xs ys:List Value} {R:List Res} [i:SlT P t el n] [j:ElT P el z n b]
 (hx:ev σ x=some v) (hy:ev σ y=some u) (hd:Nat.blt d N.n=true) (p:Pull L (Own el n v k xs) R) (r:RdSl R n u m ys) (hn:Nat.blt 0 n=true) (hz:z.cells.size=n) (h1:∀ c∈ys,c.oneCell'=true)
 (h63:k+m≤maxLen) (hb:(k+m)*b≤140737488355328)
 (kk:∀ ad c,((ad=none∧c=0)↔v=.slice none 0 0∧m=0)→K ((d,.slice ad (k+m) c)::σ) (Own el n (.slice ad (k+m) c) (k+m) (xs++ys)::R)) :
 Do P N ⟨some d,.call { callee:=.builtin .append,args:=#[x,y],argTypes:=#[t,t] },ty,pos,af,gd⟩ K σ e L:=fun a w ha hs K' Q' hK=>by
 have hs1:=hs.ent p.out;have hex:∀ v' w',(Builtin.append_ #[t,t] ty #[v,u]).run P w=.ok v' w'→K' (a.put (some d) v') w' →
  Oper.wp P ⟨some d,.call { callee:=.builtin .append,args:=#[x,y],argTypes:=#[t,t] },ty,pos,af,gd⟩ a w K' Q':=fun v' w' hr hk =>
  upon_ok_do (v:=v') (w':=w') (by simp [execOp,resolve,invoke,builtin,ha.ev hx,ha.ev hy,hr]) hk
 have n0:0<n:=by rw [← Nat.blt_eq];exact hn
 obtain ⟨ti,t1,t2,t3,t4⟩:=j.parts;subst t3 t4;have hsmall:k+m≤9223372036854775807:=by simp only [maxLen] at h63;omega
 obtain ⟨hl,hA⟩:=own_out hs1.2.2.2;obtain ⟨ad,cap,hu,hcells⟩:=r.cells (hs1.ent (Ent.drop Ent.rfl));have hyl:=(r _ (hs1.ent (Ent.drop Ent.rfl)).2.2.2).1;subst hu
 by_cases hm:m=0
 ·subst hm;have hy0:ys=[]:=List.eq_nil_of_length_eq_zero (by simpa using hyl);subst hy0
  have hv:∃ ad2 c2,v=.slice ad2 k c2∧k≤c2:=by
   rcases hA with ⟨hv,hk,_⟩|⟨g,cap2,cur,hv,r1,_⟩
   ·exact ⟨none,0,by rw [hv,hk],by omega⟩
   ·exact ⟨_,_,hv,r1⟩
  obtain ⟨ad2,c2,hv,hk2⟩:=hv;subst hv;refine hex (.slice ad2 k c2) w ?_ ?_
  ·exact run_append_none t ty el i w ad2 k c2 hk2 ad cap
  ·refine hK _ _ _ _ (kk ad2 c2 ?_) (ha.put hd _) ?_
   ·rcases hA with ⟨hv,hk,_⟩|⟨g,cap2,cur,hv,r1,_⟩
    ·cases hv;simp
    ·cases hv;simp
   ·rw [List.append_nil,Nat.add_zero];exact hs1
 ·have hne:ys≠[]:=by
   intro h0;rw [h0] at hyl
   have h2:=Nat.mul_pos (Nat.pos_of_ne_zero hm) n0;rw [← hyl] at h2;simp at h2
  obtain ⟨a2,rfl,hc2⟩:=hcells hne;have hml:0<m:=by omega
  have new:∀ (old:Nat),k≤old∨old=0→old<k+m→∀ w0:World,w0.heap=w.heap→w0.os=w.os→w0.tape=w.tape→w0.output=w.output →
   Sat e (Own el ti.size (.slice (some ⟨w.heap.size,0,none⟩) (k+m) (grownCap w (k+m) old el)) (k+m) (xs++ys)::R)
    (w0.alloc (.cells (xs.toArray++ys.toArray++Builtin.zeroCells z.cells (grownCap w (k+m) old el - (k+m))) el)):=by
   intro old _ ho w0 e1 e2 e3 e4;have hge:=grownCap_ge w (k+m) old el;have hcm:grownCap w (k+m) old el≤maxLen:=grownCap_le_maxLen w (k+m) old el h63
   have hs2:Sat e R w0:=⟨by rw [e2];exact hs.1,by rw [e3];exact hs.2.1,by rw [e4];exact hs.2.2.1,by
    have:=(hs1.ent (Ent.drop Ent.rfl)).2.2.2;unfold hp at *;rw [e1];exact this⟩
   have hs3:Sat e (Blk _ _ el (0,0)::R) _:=(hs2.alloc (.cells (xs.toArray++ys.toArray++Builtin.zeroCells z.cells (grownCap w (k+m) old el - (k+m))) el)).ent (blk_arr _ _ _ _);rw [show w0.heap.size=w.heap.size from by rw [e1]] at hs3
   have hsz:(xs.toArray++ys.toArray++Builtin.zeroCells z.cells (grownCap w (k+m) old el - (k+m))).toList.length=grownCap w (k+m) old el*ti.size:=by
    simp only [Array.length_toList,Array.size_append,List.size_toArray,size_zeroCells,hz,hl,hyl,← Nat.add_mul]
    congr 1;omega
   have hin:=own_in (E:=el) (n:=ti.size) (g:=w.heap.size) (R:=R) hge hcm hsz
   have htk:(xs.toArray++ys.toArray++Builtin.zeroCells z.cells (grownCap w (k+m) old el - (k+m))).toList.take ((k+m)*ti.size)=xs++ys:=by
    simp only [Array.toList_append,List.append_assoc];rw [← List.append_assoc];exact List.take_left' (by rw [List.length_append,hl,hyl,Nat.add_mul])
   rw [htk] at hin
   exact hs3.ent hin
  rcases hA with ⟨hv,hk0,hR⟩|⟨g,cap2,cur,hv,r1,r2,r3,r4,hB⟩
  ·subst hv hk0;have hx0:xs=[]:=List.eq_nil_of_length_eq_zero (by simpa using hl);subst hx0;have hr:=run_append_nil (P:=P) w t ty el ti z i.und t1 t2 a2 m cap ys hyl hc2 hml (by omega) (by have hb':=hb;simp only [Nat.zero_add] at hb';omega);have hn1:=new 0 (.inr rfl) (by omega) w.drew rfl rfl rfl rfl;simp only [Nat.zero_add,List.nil_append,Array.empty_append] at hn1 kk
   exact hex _ _ hr (hK _ _ _ _ (kk _ _ (by simp;omega)) (ha.put hd _) hn1)
  ·subst hv;have hs4:Sat e (Blk g cur el (0,0)::R) w:=⟨hs.1,hs.2.1,hs.2.2.1,hB⟩
   have hg:w.heap[g]?=some (.cells cur.toArray el (0,0)):=by
    obtain ⟨h1',h2',_,b',_,hA',_⟩:=hB;exact b' g _ hA'
   by_cases hroom:k+m≤cap2
   ·have hfit:k*ti.size+ys.length≤cur.toArray.size:=by rw [List.size_toArray,hyl,r3,← Nat.add_mul];exact Nat.mul_le_mul_right _ hroom
    have hr:=run_append_room (P:=P) w t ty el ti i.und t1 g k cap2 cur.toArray hg a2 m cap ys hyl hc2 h1 hroom hfit;refine hex _ _ hr (hK _ _ _ _ (kk _ _ (by simp)) (ha.put hd _) ?_)
    have hs5:Sat e (Blk g (cur.take (k*ti.size)++ys++cur.drop (k*ti.size+ys.length)) el (0,0)::R) (w.setRow g (cur.take (k*ti.size)++ys++cur.drop (k*ti.size+ys.length)).toArray):=by
     refine hs4.change rfl rfl rfl fun h1' hle hA'=>?_
     refine ⟨fun b=>if b=g then some (.cells (cur.take (k*ti.size)++ys++cur.drop (k*ti.size+ys.length)).toArray el (0,0)) else none,?_,by simp [Blk,Ob],?_,?_⟩
     ·intro b o hb
      by_cases eb:b=g
      ·subst eb;simp only [if_true] at hb;rw [← hb];exact setRow_heap w b cur.toArray _ el _ hg
      ·simp [eb] at hb
     ·intro b o hb hn
      by_cases eb:b=g
      ·subst eb;rw [show h1' b=_ from hA'] at hn;cases hn
      ·simp [eb] at hb
     ·intro b hn o ho;have:b≠g:=by rintro rfl;rw [show h1' b=_ from hA'] at hn;cases hn
      exact (setRow_other w g b _ this).trans ho
    have hsz:(cur.take (k*ti.size)++ys++cur.drop (k*ti.size+ys.length)).length=cap2*ti.size:=by
     rw [List.size_toArray] at hfit
     simp only [List.length_append,List.length_take,List.length_drop];omega
    have hin:=own_in (E:=el) (n:=ti.size) (g:=g) (R:=R) hroom r2 hsz
    have htk:(cur.take (k*ti.size)++ys++cur.drop (k*ti.size+ys.length)).take ((k+m)*ti.size)=xs++ys:=by
     rw [r4];exact List.take_left' (by rw [List.length_append,hl,hyl,Nat.add_mul])
    rw [htk] at hin
    exact hs5.ent hin
   ·have holds:∀ j u,xs[j]?=some u→w.cell? ((⟨g,0,none⟩:Addr).add j)=some u:=fun j u hj=>by
     rw [Addr.add_lit,Nat.zero_add];refine (Rd.blk (R:=R) (cs:=cur) (T:=el) (fz:=(0,0)) .zero ?_).at hs4
     rw [nth_eq];rw [← r4,List.getElem?_take] at hj
     split at hj
     ·simpa using hj
     ·cases hj
    have hr:=run_append_grow (P:=P) w t ty el ti z i.und t1 t2 ⟨g,0,none⟩ k cap2 xs hl holds a2 m cap ys hyl hc2 (by omega) (by omega) (growslice_fits (by omega) hb);have hn1:=new cap2 (.inl r1) (by omega) w.drew rfl rfl rfl rfl;exact hex _ _ hr (hK _ _ _ _ (kk _ _ (by simp)) (ha.put hd _) hn1)
theorem Do.convSl {t el n:Nat} {x:Operand} {g o l c:Nat} {cs:List Value} {L':List Res} [i:SlT P t el n] [j:IntT P el .u8] (hx:ev σ x=some (.slice (some ⟨g,o,none⟩) l c)) (hd:Nat.blt d N.n=true) {T:TypeId}
 (u:Upd L (Blk g cs T (0,0)) (Blk g cs T (cs.length,cs.length+1)) L') (k:K ((d,.slice (some ⟨g,o,none⟩) l c)::σ) L') :
 Do P N ⟨some d,.convert t t x,ty,pos,af,gd⟩ K σ e L:=fun a w ha hs K' Q' hK=>by
 obtain ⟨R,f1,f2⟩:=u.split;have hs1:=hs.ent f1
 have hg:w.heap[g]?=some (.cells cs.toArray T (0,0)):=by
  obtain ⟨h1',h2',_,b',_,hA',_⟩:=hs1.2.2.2;exact b' g _ hA'
 have hlt:g<w.heap.size:=(Array.getElem?_eq_some_iff.1 hg).1;have hgg:w.heap[g]=.cells cs.toArray T (0,0):=(Array.getElem?_eq_some_iff.1 hg).2;refine upon_ok_do (w':=w.freeze ⟨g,cs.length,none⟩ 1) (v:=.slice (some ⟨g,o,none⟩) l c) ?_ (hK _ _ _ _ k (ha.put hd _) ?_)
 ·simp [execOp,ha.ev hx,convert,run_underlying i.und,run_underlying j.und,markStringish,World.shape?,hg]
 ·refine Sat.ent ?_ f2;refine hs1.change (by simp [World.freeze]) (by simp [World.freeze]) (by simp [World.freeze]) fun h1 hle hA=>?_
  refine ⟨fun b=>if b=g then some (.cells cs.toArray T (cs.length,cs.length+1)) else none,?_,by simp [Blk,Ob],?_,?_⟩
  ·intro b o hb
   by_cases eb:b=g
   ·subst eb;simp only [if_true] at hb;rw [← hb]
    simp [hp,World.freeze,Array.getElem?_modify,hg]
   ·simp [eb] at hb
  ·intro b o hb hn
   by_cases eb:b=g
   ·subst eb;rw [show h1 b=_ from hA] at hn;cases hn
   ·simp [eb] at hb
  ·intro b hn o ho;have:b≠g:=by rintro rfl;rw [show h1 b=_ from hA] at hn;cases hn
   simp only [hp] at ho ⊢
   simp [World.freeze,Array.getElem?_modify,this.symm,ho]
end
end Go.Bs
namespace Go.Bs
section
variable {P:Program} {N:Fr} {Q:Goal} {σ:Env} {e:World} {L:List Res} {all:Array Oper} {rest:List Oper}
variable {d:Nat} {op:Op} {ty:TypeId} {pos:String} {af:Array Edge} {gd:Option (Nat × Bool)} {K:Env→List Res→Prop}
theorem Val.yes {p:Prop} [Decidable p] (h:Val P N op ty (.bool (decide p)) σ e L) (hp:p):Val P N op ty (.bool true) σ e L:=by simpa [hp] using h
theorem Val.no {p:Prop} [Decidable p] (h:Val P N op ty (.bool (decide p)) σ e L) (hp:¬ p):Val P N op ty (.bool false) σ e L:=by simpa [hp] using h
theorem O.dec {p:Prop} [Decidable p] (h:Val P N op ty (.bool (decide p)) σ e L) (hd:Nat.blt d N.n=true) (h1:p→O P N all rest Q ((d,.bool true)::σ) e L) (h2:¬ p→O P N all rest Q ((d,.bool false)::σ) e L) :
 O P N all (⟨some d,op,ty,pos,af,none⟩::rest) Q σ e L:=by
 by_cases hp:p
 ·exact O.val _ (h.yes hp) hd (h1 hp)
 ·exact O.val _ (h.no hp) hd (h2 hp)
theorem W.keep {c:Code} (σ':Env) (f:∀ k v,get σ' k=some v→get σ k=some v) (h:W P N c Q σ' e L):W P N c Q σ e L:=h.env f
class BuildT (P:Program) (t:TypeId) (places:outParam (Array (Nat × Nat))) (z:outParam (Array Value)):Prop where
 run:∀ (pv:Array (Nat × Value)) (cells:Array Value) (w:World),Instr.fill (places[·]?) z pv.toList=some cells→(Instr.build t pv).run P w=.ok (.agg cells) w
theorem Val.build {t:TypeId} {places:Array (Nat × Nat)} {z:Array Value} {cells:List Value} {parts:List (Nat × Operand)} {vs:List (Nat × Value)} [i:BuildT P t places z] (h:evp σ parts=some vs) (hc:Instr.fill (places[·]?) z vs=some cells.toArray) :
 Val P N (.build t parts.toArray) ty (.agg cells.toArray) σ e L:=fun a w ha _ _ _ _ _=>by
 have hpv:(parts.toArray.map fun x=>match x with|(i,x)=>(i,a.eval x)).toList=vs:=by
  have:=ha.evp h
  simpa using this
 have:=i.run (parts.toArray.map fun x=>match x with|(i,x)=>(i,a.eval x)) cells.toArray w (by rw [hpv];exact hc);simp only [execOp,Sem.run_bind,Sem.run_pure,this,Result.andThen_ok]
theorem Val.max {k k':IntKind} {m n:Int} {x y:Operand} {ats:Array TypeId} (h:ev σ x=some (.int k m)) (h1:ev σ y=some (.int k' n)):Val P N (.call { callee:=.builtin .max,args:=#[x,y],argTypes:=ats }) ty (.int k (if n > m then n else m)) σ e L:=fun a w ha _ _ _ _ _=>by
 simp [execOp,resolve,invoke,builtin,ha.ev h,ha.ev h1,run_max_int2]
theorem Val.min {k k':IntKind} {m n:Int} {x y:Operand} {ats:Array TypeId} (h:ev σ x=some (.int k m)) (h1:ev σ y=some (.int k' n)):Val P N (.call { callee:=.builtin .min,args:=#[x,y],argTypes:=ats }) ty (.int k (if n<m then n else m)) σ e L:=fun a w ha _ _ _ _ _=>by
 simp [execOp,resolve,invoke,builtin,ha.ev h,ha.ev h1,run_min_int2]
theorem view_cutLo {n k c lo:Nat} {ad:Option Addr} {xs:List Value} {R:List Res} (h:lo≤k):Ent (View n (.slice ad k c) k xs::R) (View n (.slice (cutAt ad c lo n) (k - lo) (c - lo)) (k - lo) (xs.drop (lo*n))::R) :=
 fun _=>sepL_head fun _ x=>View.cutLo x h
theorem freeze_os (w:World) (a:Addr) (n:Nat):(w.freeze a n).os=w.os∧(w.freeze a n).tape=w.tape∧(w.freeze a n).output=w.output:=by
 unfold World.freeze;split<;>exact ⟨rfl,rfl,rfl⟩
theorem freeze_heap (w:World) (g m:Nat) (cs:Array Value) (T:TypeId) (h:w.heap[g]?=some (.cells cs T (0,0))) (k:Nat) :
 (w.freeze ⟨g,m,none⟩ 1).heap[k]?=if k=g then some (.cells cs T (m,m+1)) else w.heap[k]?:=by
 simp only [World.freeze,if_neg (show ¬ (1=0) by omega)];rw [Array.getElem?_modify]
 by_cases e:g=k
 ·subst e;rw [if_pos rfl,if_pos rfl,h];rfl
 ·rw [if_neg e,if_neg (Ne.symm e)]
theorem Do.ofStr {t T el n:Nat} {x:Operand} {l:List UInt8} [i:SlT P t el n] [j:IntT P el .u8] [s:StrT P T] (h:ev σ x=some (.string (str l))) (hl:l.length≤maxLen) (hd:Nat.blt d N.n=true)
 (k:∀ ad c,K ((d,.slice ad l.length c)::σ) (View 1 (.slice ad l.length c) l.length (l.map u8)::L)) :
 Do P N ⟨some d,.convert T t x,ty,pos,af,gd⟩ K σ e L:=fun a w ha hs K' Q' hK=>by
 have hsz:=size_str l;have hge:=grownCap_ge w l.length 0 el;have hcm:=grownCap_le_maxLen w l.length 0 el hl;have hdat:(str l).data.map (fun b=>Value.int .u8 b.toNat)=(l.map u8).toArray:=by simp [str];intro a _;rfl
 obtain ⟨arr,harr⟩:∃ arr:Array Value,arr=(l.map u8).toArray++Array.replicate (grownCap w l.length 0 el - l.length) (Value.int .u8 0):=⟨_,rfl⟩
 have hs1:Sat e L w.drew:=hs;have hnew:(w.drew.alloc (.cells arr el)).heap[w.heap.size]?=some (.cells arr el (0,0)):=heap_alloc_new w.drew _;refine upon_ok_do (w':=(w.drew.alloc (.cells arr el)).freeze ⟨w.heap.size,arr.size,none⟩ 1) (v:=.slice (some ⟨w.heap.size,0,none⟩) l.length (grownCap w l.length 0 el)) ?_ (hK _ _ _ _ (k _ _) (ha.put hd _) ?_)
 ·have hsh:∀ o:Array Value,(w.drew.alloc (.cells o el)).shape? w.heap.size=some (el,o.size):=fun o=>by
   unfold World.shape?;rw [show (w.drew.alloc (.cells o el)).heap[w.heap.size]?=some (.cells o el) from heap_alloc_new w.drew _]
  have hrun:(Conv.stringToBytes el (str l)).run P w=.ok (.slice (some ⟨w.heap.size,0,none⟩) l.length (grownCap w l.length 0 el)) ((w.drew.alloc (.cells arr el)).freeze ⟨w.heap.size,arr.size,none⟩ 1):=by
   unfold Conv.stringToBytes;simp only [Sem.run_bind,run_choose,Question.forced,Bool.false_eq_true,if_false,Result.andThen_ok,hsz,hdat];rw [show (Question.appendCap l.length 0 el).cut (w.tape w.drawn (Question.appendCap l.length 0 el))=grownCap w l.length 0 el from rfl,← harr];simp only [newRow,Sem.run_bind,run_newObj,Result.andThen_ok,Sem.run_pure,markStringish,run_shape];rw [show (World.shape? { heap:=w.heap.push (.cells arr el),tape:=w.tape,drawn:=w.drawn+1,os:=w.os,output:=w.output } w.heap.size)=some (el,arr.size) from hsh arr]
   rfl
  simp only [execOp,ha.ev h,convert,Sem.run_bind,run_underlying i.und,run_underlying j.und,run_underlying s.und,Result.andThen_ok,hrun,Sem.run_pure]
 ·have hs2:=hs1.alloc (.cells arr el);have hf:=freeze_os (w.drew.alloc (.cells arr el)) ⟨w.heap.size,arr.size,none⟩ 1;refine hs2.change hf.1 hf.2.1 hf.2.2 fun h1 hle hA=>?_
  have hA':h1 w.heap.size=some (.cells arr el):=hA;refine ⟨fun b=>if b=w.heap.size then some (.cells arr el (arr.size,arr.size+1)) else none,?_,?_,?_,?_⟩
  ·intro b o hb;simp only [hp];rw [freeze_heap _ _ _ _ _ hnew]
   by_cases eb:b=w.heap.size
   ·rw [if_pos eb];simpa [eb] using hb
   ·simp [eb] at hb
  ·refine ⟨by simp,some ⟨w.heap.size,0,none⟩,_,rfl,hge,hcm,(fun e=>by cases e),fun j u hj=>⟨w.heap.size,0,rfl,?_⟩⟩;have hlt:j<l.length:=by have:=(List.getElem?_eq_some_iff.1 hj).1;simpa using this
   unfold Heap.cell;simp only [if_true,Nat.zero_add,Option.isSome_none,Bool.false_eq_true,if_false];rw [harr,Array.getElem?_append_left (by simpa using hlt)]
   simpa using hj
  ·intro b o hb hn
   by_cases eb:b=w.heap.size
   ·subst eb;rw [hA'] at hn;cases hn
   ·simp [eb] at hb
  ·intro b hn o ho;have hne:b≠w.heap.size:=by rintro rfl;rw [hA'] at hn;cases hn
   simp only [hp] at ho ⊢
   rw [freeze_heap _ _ _ _ _ hnew,if_neg hne];exact ho
theorem W.cut {x y:Code} (K:Env→World→Prop) (h1:W P N x (thenQ K Q) σ e L) (h2:∀ σ' w,K σ' w→∀ a,Has N σ' a→y.wp P (WQ N Q) a w):W P N (.seq x y) Q σ e L :=
 W.seq (W.mono h1 fun x σ w q=>by cases x<;>first|exact h2 _ _ q|exact q)
theorem Val.loadAgg {t n:Nat} {x:Operand} {g o:Nat} {cs:List Value} [i:AggT P t n] (h:ev σ x=some (.pointer (some ⟨g,o,none⟩))) (hl:cs.length=n) (r:∀ j u,cs[j]?=some u→Rd L ⟨g,o+j,none⟩ u) :
 Val P N (.load t x) ty (.agg cs.toArray) σ e L:=fun a w ha hs _ _ _ _=>by
 have h1:=run_loadCells_list (P:=P) w ⟨g,o,none⟩ cs (fun j u hj=>by rw [Addr.add_lit];exact (r j u hj).at hs);rw [hl] at h1
 simp [execOp,ha.ev h,Instr.loadAt,Instr.sureAddr,loadVar,i.ag,i.siz,h1]
inductive SetAts:List Value→Nat→List Value→List Value→Prop
 | nil {l:List Value} {n:Nat}:SetAts l n [] l
 | cons {l l' l'':List Value} {n:Nat} {v:Value} {vs:List Value}:SetAt l n v l'→SetAts l' (n+1) vs l''→SetAts l n (v::vs) l''
theorem run_storeCells {g:Nat} {T:TypeId} {R:List Res} {vs:List Value} {cs cs':List Value} {k off i:Nat} {w:World} (hst:SetAts cs k vs cs') (hk:off+i=k) (hs:Sat e (Blk g cs T (0,0)::R) w) (h1:∀ v∈vs,v.oneCell'=true) :
 ∃ w',(storeCells ⟨g,off,none⟩ vs i).run P w=.ok () w'∧Sat e (Blk g cs' T (0,0)::R) w':=by
 induction hst generalizing w i with
 | nil=>exact ⟨w,rfl,hs⟩
 | cons hset _ ih =>
  rename_i l l' l'' n v vs _;obtain ⟨rfl,hlt⟩:=hset.eq;subst hk;have hcell:w.cell? ⟨g,off+i,none⟩=some l[off+i]:=(Rd.blk (R:=R) (cs:=l) (T:=T) (fz:=(0,0)) .zero (by rw [nth_eq];exact List.getElem?_eq_getElem hlt)).at hs
  have hfz:w.frozen? ⟨g,off+i,none⟩=false:=by
   obtain ⟨h0,h1',b,c,d',hA,hR⟩:=hs.2.2.2;have:=c _ _ hA;simp only [hp] at this
   simp [World.frozen?,this]
  obtain ⟨w',e1,e2⟩:=ih (i:=i+1) (by omega) (hs.setCell (off:=off+i) v) (fun u hu=>h1 u (List.mem_cons_of_mem _ hu));refine ⟨w',?_,e2⟩;simp only [storeCells,Sem.run_bind,Addr.add_lit,run_store P w _ v _ (h1 v (List.mem_cons_self ..)),hcell,hfz];exact e1
theorem Do.storeAgg {t n:Nat} {x y:Operand} {g off:Nat} {vs:List Value} {cs cs':List Value} {T:TypeId} {L':List Res} [i:AggT P t n] (h:ev σ x=some (.pointer (some ⟨g,off,none⟩))) (h1:ev σ y=some (.agg vs.toArray)) (hn:vs.length=n) (hv:∀ v∈vs,v.oneCell'=true)
 (u:Upd L (Blk g cs T (0,0)) (Blk g cs' T (0,0)) L') (hset:SetAts cs off vs cs') (k:K σ L') :
 Do P N ⟨none,.store t x y,ty,pos,af,gd⟩ K σ e L:=fun a w ha hs K' Q' hK=>by
 obtain ⟨R,f1,f2⟩:=u.split;obtain ⟨w',e1,e2⟩:=run_storeCells (P:=P) (off:=off) (i:=0) hset rfl (hs.ent f1) hv;refine upon_skip_do (w':=w') ?_ (hK _ _ _ _ k ha (e2.ent f2))
 simp [execOp,ha.ev h,ha.ev h1,Instr.storeAt,Instr.sureAddr,storeVar,Value.cells,i.siz,hn,e1]
end
end Go.Bs
namespace Go.Bs
section
variable {P:Program} {ops:Array Oper}
def wpS (P:Program) (ops:Array Oper) (Q:Exit→Act→World→Prop) (S:Array Bool→World→Prop):Nat→Array Bool→Act→World→Prop
 | 0,l,a,w=>Region.ready .any ops l=[]∧Q .normal a w
 | n+1,l,a,w=>(Region.ready .any ops l=[]→Q .normal a w) ∧
  ∀ i∈Region.ready .any ops l,wpOp P ops Q i (fun a' w'=>S (l.setIfInBounds i true) w'∧wpS P ops Q S n (l.setIfInBounds i true) a' w') a w
theorem any_of_wpS {Q:Exit→Act→World→Prop} {S:Array Bool→World→Prop}:∀ (n:Nat) (l:Array Bool) (a:Act) (w:World),wpS P ops Q S n l a w→wpAny P .any ops Q n l a w
 | 0,_,_,_,h=>h
 | n+1,_,_,_,h=>⟨h.1,fun i hi=>wpOp_mono (fun a' w' h'=>any_of_wpS n _ a' w' h'.2) (h.2 i hi)⟩
def unlisted (T:List Nat) (l:Array Bool):Bool:=T.all fun t=>!l.getD t false
def Held (T:List Nat) (S0:World→Prop):Array Bool→World→Prop:=fun l w=>unlisted T l=true→S0 w
def waits (ops:Array Oper) (T:List Nat) (i:Nat):Bool:=T.all fun t=>match ops[t]? with
 | some o=>o.after.any fun e=>Region.binds .any e && e.on == i
 | none=>false
theorem waits_spec {T:List Nat} {i:Nat} (h:waits ops T i=true) {t:Nat} (ht:t∈T):∃ o,ops[t]?=some o∧∃ e∈o.after,Region.binds .any e=true∧e.on=i:=by
 unfold waits at h
 have:=List.all_eq_true.1 h t ht
 cases ho:ops[t]? with
 | none=>rw [ho] at this;cases this
 | some o =>
  rw [ho] at this
  obtain ⟨e,he,hb⟩:=Array.any_eq_true'.1 this;simp only [Bool.and_eq_true,beq_iff_eq] at hb
  exact ⟨o,rfl,e,he,hb.1,hb.2⟩
theorem unlisted_set {T:List Nat} {l:Array Bool} {j:Nat} (h:unlisted T l=true) (hj:j ∉ T):unlisted T (l.setIfInBounds j true)=true:=by
 unfold unlisted at *
 refine List.all_eq_true.2 fun t ht=>?_
 have:=List.all_eq_true.1 h t ht;have hne:j≠t:=by rintro rfl;exact hj ht
 rw [getD_set_ne false hne];exact this
theorem not_ready {T:List Nat} {l:Array Bool} {i j:Nat} (hw:waits ops T i=true) (hi:l.getD i true=false) (hj:j∈Region.ready .any ops l):j ∉ T:=fun ht=>by
 obtain ⟨o,ho,e,he,hb,hon⟩:=waits_spec hw ht;obtain ⟨_,o',ho',hall⟩:=mem_ready.1 hj;rw [ho] at ho';cases ho'
 have h1:=hall e he hb;rw [hon] at h1
 rcases Nat.lt_or_ge i l.size with h'|h'
 ·simp [h'] at h1 hi;rw [hi] at h1;cases h1
 ·simp [Array.getElem?_eq_none h'] at h1
theorem wpS_first {Q:Exit→Act→World→Prop} {T:List Nat} {S0:World→Prop} {i:Nat} {oi:Oper} {v:Value} (hi:ops[i]?=some oi) (hsel:∀ (j:Nat) (o:Oper) cs b,ops[j]?=some o→o.op≠.select cs b)
 (hQ:∀ c a w,Q (.panic c) (a.put oi.dst v) w→Q (.panic c) a w) (hw:waits ops T i=true) :
 ∀ (n:Nat) (l:Array Bool) (a:Act) (w:World),
  (∀ j oj,ops[j]?=some oj→j≠i→l.getD j true=false→(∀ e∈oj.after,Region.binds .any e=true→e.on≠i)→oi.apart ops oj=true) →
  i∈Region.ready .any ops l→YieldsIf P ops S0 oi v a→unlisted T l=true→S0 w →
  wpS P ops Q (Held T S0) n (l.setIfInBounds i true) (a.put oi.dst v) w→wpS P ops Q (Held T S0) (n+1) l a w:=by
 intro n
 induction n with
 | zero =>
  intro l a w _ hr hy hT hS H;refine ⟨fun h=>(by rw [h] at hr;cases hr),fun j hj=>?_⟩
  by_cases hji:j=i
  ·subst hji;exact hy.wpOp hi hS ⟨fun _=>hS,H⟩
  ·have:=ready_mono hj hji;rw [H.1] at this
   cases this
 | succ n ih =>
  intro l a w hfree hr hy hT hS H;have hun:l.getD i true=false:=(mem_ready.1 hr).1;refine ⟨fun h=>(by rw [h] at hr;cases hr),fun j hj=>?_⟩
  by_cases hji:j=i
  ·subst hji;exact hy.wpOp hi hS ⟨fun _=>hS,H⟩
  ·have h1:=H.2 j (ready_mono hj hji);obtain ⟨hjun,oj,hoj,hall⟩:=mem_ready.1 hj;have hjT:j ∉ T:=not_ready hw hun hj;have hiT:i ∉ T:=not_ready hw hun hr
   have hnot:∀ e∈oj.after,Region.binds .any e=true→e.on≠i:=fun e he hb heq=>by
    have h1:=hall e he hb;rw [heq] at h1
    rcases Nat.lt_or_ge i l.size with h'|h'
    ·simp [h'] at hun h1;rw [hun] at h1;cases h1
    ·simp [Array.getElem?_eq_none h'] at h1
   have h2:=wpOp_putIf hoj (hfree j oj hoj hji hjun hnot) (fun cs b=>hsel i oi cs b hi) (fun cs b=>hsel j oj cs b hoj) hQ hy h1;have hfree':∀ k ok,ops[k]?=some ok→k≠i→(l.setIfInBounds j true).getD k true=false →
    (∀ e∈ok.after,Region.binds .any e=true→e.on≠i)→oi.apart ops ok=true:=fun k ok hk hki hun2 hno=>by
    refine hfree k ok hk hki ?_ hno
    by_cases hjk:j=k
    ·subst hjk;exact hjun
    ·rw [getD_set_ne true hjk] at hun2;exact hun2
   refine wpOp_mono (fun a' w' h3=>?_) h2;have hS':S0 w':=h3.2.1 (unlisted_set (unlisted_set hT hiT) hjT);refine ⟨fun _=>hS',ih (l.setIfInBounds j true) a' w' hfree' (ready_mono hr (Ne.symm hji)) h3.1 (unlisted_set hT hjT) hS' ?_⟩;rw [Array.setIfInBounds_comm _ _ hji];exact h3.2.2
end
section
variable {P:Program} {N:Fr} {Q:Goal} {σ:Env} {e:World} {L:List Res} {ops:Array Oper} {T:List Nat} {R0:List Res} {n:Nat} {l:Array Bool}
variable {d:Nat} {op:Op} {ty:TypeId} {pos:String} {af:Array Edge}
def A (P:Program) (N:Fr) (ops:Array Oper) (T:List Nat) (R0:List Res) (n:Nat) (l:Array Bool) (Q:Goal) (σ:Env) (e:World) (L:List Res):Prop :=
 ∀ a w,Has N σ a→Sat e L w→wpS P ops (WQ N Q) (Held T (Sat e R0)) n l a w
theorem A.begin {id:Nat} {os:List Oper} (T:List Nat) (R0:List Res) (hm:P.follows .mixedOrders=true) (h:A P N os.toArray T R0 os.length (Array.replicate os.length false) Q σ e L):W P N (.region id os.toArray true) Q σ e L:=fun a w ha hs=>by
 refine wp_region_any hm (any_of_wpS (S:=Held T (Sat e R0)) _ _ _ _ ?_);have:=h a { w with drawn:=w.drawn+1 } ha hs
 simpa using this
theorem A.start {id:Nat} {os:List Oper} (T:List Nat) (hm:P.follows .mixedOrders=true) (h:A P N os.toArray T L os.length (Array.replicate os.length false) Q σ e L):W P N (.region id os.toArray true) Q σ e L:=A.begin T L hm h
def takeB (ops:Array Oper) (T:List Nat) (l:Array Bool) (i:Nat):Bool :=
 Region.noSelect ops && Region.free .any ops l i && (Region.ready .any ops l).contains i && waits ops T i && unlisted T l
theorem hQ_WQ {dst:Option Tmp} {v:Value}:∀ c (a:Act) w,WQ N Q (.panic c) (Act.put a dst v) w→WQ N Q (.panic c) a w:=fun _ _ _ h=>h
theorem A.take_aux {i:Nat} {o:Oper} {v:Value} (hi:ops[i]?=some o) (hb:takeB ops T l i=true) (hL:Ent L R0) (hy:∀ a,Has N σ a→YieldsIf P ops (Sat e R0) o v a) (σ':Env) (hσ:∀ a,Has N σ a→Has N σ' (a.put o.dst v))
 (k:A P N ops T R0 n (l.setIfInBounds i true) Q σ' e L):A P N ops T R0 (n+1) l Q σ e L:=fun a w ha hs=>by
 simp only [takeB,Bool.and_eq_true] at hb
 obtain ⟨⟨⟨⟨h1,h2⟩,h3⟩,h4⟩,h5⟩:=hb;exact wpS_first hi (Region.noSelect_spec h1) hQ_WQ h4 n l a w (Region.free_spec hi h2) (by simpa using h3) (hy a ha) h5 (hs.ent hL) (k _ w (hσ a ha) hs)
theorem A.take (i:Nat) (v:Value) (hi:ops[i]?=some ⟨some d,op,ty,pos,af,none⟩) (hb:takeB ops T l i=true) (hL:Ent L R0) (hv:Val P N op ty v σ e R0) (hd:Nat.blt d N.n=true)
 (k:A P N ops T R0 n (l.setIfInBounds i true) Q ((d,v)::σ) e L):A P N ops T R0 (n+1) l Q σ e L :=
 A.take_aux hi hb hL (fun a ha=>.inl ⟨rfl,fun w hw=>hv a w ha hw _ _ _ _⟩) _ (fun _ ha=>ha.put hd v) k
theorem A.takeG (i:Nat) (v:Value) {j:Nat} {want:Bool} (hi:ops[i]?=some ⟨some d,op,ty,pos,af,some (j,want)⟩) (hg:wants σ ops j want=some true) (hb:takeB ops T l i=true) (hL:Ent L R0) (hv:Val P N op ty v σ e R0) (hd:Nat.blt d N.n=true)
 (k:A P N ops T R0 n (l.setIfInBounds i true) Q ((d,v)::σ) e L):A P N ops T R0 (n+1) l Q σ e L :=
 A.take_aux hi hb hL (fun a ha=>.inl ⟨wants_ok ha hg,fun w hw=>hv a w ha hw _ _ _ _⟩) _ (fun _ ha=>ha.put hd v) k
theorem A.takeN (i:Nat) {j:Nat} {want:Bool} (hi:ops[i]?=some ⟨some d,op,ty,pos,af,some (j,want)⟩) (hg:wants σ ops j want=some false) (hb:takeB ops T l i=true) (hL:Ent L R0) (hd:Nat.blt d N.n=true)
 (k:A P N ops T R0 n (l.setIfInBounds i true) Q ((d,undef)::σ) e L):A P N ops T R0 (n+1) l Q σ e L :=
 A.take_aux hi hb hL (fun a ha=>.inr ⟨wants_ok ha hg,rfl⟩) _ (fun _ ha=>ha.put hd _) k
theorem do_wpOp {i:Nat} {o:Oper} {K:Env→List Res→Prop} {K':Act→World→Prop} {Q':Exit→Act→World→Prop} {a:Act} {w:World} (hi:ops[i]?=some o) (hg:Region.wanted o (yielded ops a.tmps)=true) (h:Do P N o K σ e L) (ha:Has N σ a) (hs:Sat e L w)
 (hK:∀ σ' L' a' w',K σ' L'→Has N σ' a'→Sat e L' w'→K' a' w'):wpOp P ops Q' i K' a w:=by
 unfold wpOp;simp only [hi,hg,if_true];exact .inl (h a w ha hs K' Q' hK)
theorem A.takeDec (i:Nat) {p:Prop} [Decidable p] (hi:ops[i]?=some ⟨some d,op,ty,pos,af,none⟩) (hb:takeB ops T l i=true) (hL:Ent L R0) (hv:Val P N op ty (.bool (decide p)) σ e R0) (hd:Nat.blt d N.n=true)
 (k1:p→A P N ops T R0 n (l.setIfInBounds i true) Q ((d,.bool true)::σ) e L) (k2:¬ p→A P N ops T R0 n (l.setIfInBounds i true) Q ((d,.bool false)::σ) e L):A P N ops T R0 (n+1) l Q σ e L:=by
 by_cases hp:p
 ·exact A.take i _ hi hb hL (hv.yes hp) hd (k1 hp)
 ·exact A.take i _ hi hb hL (hv.no hp) hd (k2 hp)
theorem no_held {C:Prop} (h:unlisted T l=false):unlisted T l=true→C:=fun h1=>by rw [h] at h1;cases h1
theorem wpS_mono {Q:Exit→Act→World→Prop} {S S':Array Bool→World→Prop} (f:∀ l w,S' l w→S l w):∀ (n:Nat) (l:Array Bool) (a:Act) (w:World),wpS P ops Q S' n l a w→wpS P ops Q S n l a w
 | 0,_,_,_,h=>h
 | n+1,_,_,_,h=>⟨h.1,fun i hi=>wpOp_mono (fun a' w' h'=>⟨f _ _ h'.1,wpS_mono f n _ a' w' h'.2⟩) (h.2 i hi)⟩
theorem A.grow (R1:List Res) (f:Ent R1 R0) (h:A P N ops T R1 n l Q σ e L):A P N ops T R0 n l Q σ e L:=fun a w ha hs =>
 wpS_mono (fun _ _ hh hu=>(hh hu).ent f) n l a w (h a w ha hs)
theorem W.ent1 {c:Code} {L':List Res} (f:Ent L L') (h:W P N c Q σ e L'):W P N c Q σ e L:=h.ent f
theorem A.ent1 {L':List Res} (f:Ent L L') (h:A P N ops T R0 n l Q σ e L'):A P N ops T R0 n l Q σ e L:=fun a w ha hs=>h a w ha (hs.ent f)
theorem A.regrow (f:Ent L R0) (h:A P N ops T L n l Q σ e L):A P N ops T R0 n l Q σ e L:=A.grow L f h
theorem A.one (i:Nat) {dst:Option Tmp} (hi:ops[i]?=some ⟨dst,op,ty,pos,af,none⟩) (hr:((Region.ready .any ops l) == [i])=true) (h:Do P N ⟨dst,op,ty,pos,af,none⟩ (fun σ' L'=>(unlisted T (l.setIfInBounds i true)=true→Ent L' R0)∧A P N ops T R0 n (l.setIfInBounds i true) Q σ' e L') σ e L) :
 A P N ops T R0 (n+1) l Q σ e L:=fun a w ha hs=>by
 have hr':=eq_of_beq hr;refine ⟨fun h0=>(by rw [hr'] at h0;cases h0),fun j hj=>?_⟩;rw [hr'] at hj
 simp only [List.mem_singleton] at hj
 subst hj;exact do_wpOp hi rfl h ha hs fun σ' L' a' w' ⟨h1,h2⟩ ha' hs'=>⟨fun hu=>hs'.ent (h1 hu),h2 a' w' ha' hs'⟩
theorem A.oneG (i:Nat) {dst:Option Tmp} {j:Nat} {want:Bool} (hi:ops[i]?=some ⟨dst,op,ty,pos,af,some (j,want)⟩) (hg:wants σ ops j want=some true) (hr:((Region.ready .any ops l) == [i])=true) (h:Do P N ⟨dst,op,ty,pos,af,some (j,want)⟩ (fun σ' L'=>(unlisted T (l.setIfInBounds i true)=true→Ent L' R0)∧A P N ops T R0 n (l.setIfInBounds i true) Q σ' e L') σ e L) :
 A P N ops T R0 (n+1) l Q σ e L:=fun a w ha hs=>by
 have hr':=eq_of_beq hr;refine ⟨fun h0=>(by rw [hr'] at h0;cases h0),fun k hj=>?_⟩;rw [hr'] at hj
 simp only [List.mem_singleton] at hj
 subst hj;exact do_wpOp hi (wants_ok ha hg) h ha hs fun σ' L' a' w' ⟨h1,h2⟩ ha' hs'=>⟨fun hu=>hs'.ent (h1 hu),h2 a' w' ha' hs'⟩
theorem A.two (i j:Nat) {o1 o2:Oper} (hi:ops[i]?=some o1) (hj:ops[j]?=some o2) (hg1:o1.guard=none) (hg2:o2.guard=none) (hr:((Region.ready .any ops l) == [i,j])=true)
 (h1:Do P N o1 (fun σ' L'=>(unlisted T (l.setIfInBounds i true)=true→Ent L' R0)∧A P N ops T R0 n (l.setIfInBounds i true) Q σ' e L') σ e L)
 (h2:Do P N o2 (fun σ' L'=>(unlisted T (l.setIfInBounds j true)=true→Ent L' R0)∧A P N ops T R0 n (l.setIfInBounds j true) Q σ' e L') σ e L) :
 A P N ops T R0 (n+1) l Q σ e L:=fun a w ha hs=>by
 have hr':=eq_of_beq hr;refine ⟨fun h0=>(by rw [hr'] at h0;cases h0),fun k hk=>?_⟩;rw [hr'] at hk
 simp only [List.mem_cons,List.not_mem_nil,or_false] at hk
 rcases hk with rfl|rfl
 ·exact do_wpOp hi (by simp [Region.wanted,hg1]) h1 ha hs fun σ' L' a' w' ⟨h1,h2⟩ ha' hs'=>⟨fun hu=>hs'.ent (h1 hu),h2 a' w' ha' hs'⟩
 ·exact do_wpOp hj (by simp [Region.wanted,hg2]) h2 ha hs fun σ' L' a' w' ⟨h1,h2⟩ ha' hs'=>⟨fun hu=>hs'.ent (h1 hu),h2 a' w' ha' hs'⟩
theorem A.done (hr:(Region.ready .any ops l).isEmpty=true) (h:Fin Q .normal σ e L):A P N ops T R0 n l Q σ e L:=fun a w ha hs=>by
 have hr':Region.ready .any ops l=[]:=by simpa using hr
 cases n with
 | zero=>exact ⟨hr',σ,ha,h w hs⟩
 | succ n=>exact ⟨fun _=>⟨σ,ha,h w hs⟩,fun i hi=>by rw [hr'] at hi;cases hi⟩
end
end Go.Bs
namespace Go.Bs
section
variable {P:Program} {N:Fr} {Q:Goal} {σ:Env} {e:World} {L:List Res} {all:Array Oper} {rest:List Oper}
variable {d:Nat} {op:Op} {ty:TypeId} {pos:String} {af:Array Edge} {gd:Option (Nat × Bool)} {K:Env→List Res→Prop} {x y:Operand} {t t':TypeId} {k k':IntKind} {m n:Int}
theorem Val.rem (h:ev σ x=some (.int k m)) (h1:ev σ y=some (.int k n)) (h0:n≠0):Val P N (.binOp .rem t x y t') ty (.int k (m.tmod n)) σ e L:=fun a w ha _ _ _ _ _=>by
 simp [execOp,ha.ev h,ha.ev h1,eqGuard,binOp,Op.intDiv,h0]
theorem Val.quo (h:ev σ x=some (.int k m)) (h1:ev σ y=some (.int k n)) (h0:n≠0):Val P N (.binOp .quo t x y t') ty (.int k (k.wrap (m.tdiv n))) σ e L:=fun a w ha _ _ _ _ _=>by
 simp [execOp,ha.ev h,ha.ev h1,eqGuard,binOp,Op.intDiv,h0]
theorem Val.extract {vs:List Value} {i:Nat} {v:Value} (h:ev σ x=some (.tuple vs.toArray)) (hv:nth vs i=some v):Val P N (.extract x i) ty v σ e L:=fun a w ha _ _ _ _ _=>by
 rw [nth_eq] at hv
 simp [execOp,ha.ev h,Instr.extract,hv]
theorem Val.not_t (h:ev σ x=some (.bool true)):Val P N (.unOp .not t x) ty (.bool false) σ e L:=Val.not h
theorem Val.not_f (h:ev σ x=some (.bool false)):Val P N (.unOp .not t x) ty (.bool true) σ e L:=Val.not h
theorem RdSl.blkN {R:List Res} {g c n:Nat} {xs:List Value} {T:TypeId} {fz:Nat × Nat} (p:Pull L (Blk g xs T fz) R) (hk:xs.length=c*n) (hm:c≤maxLen):RdSl L n (.slice (some ⟨g,0,none⟩) c c) c xs:=fun h x =>
 ⟨hk,some ⟨g,0,none⟩,c,rfl,Nat.le_refl _,hm,(fun e=>by cases e),fun j u hj=>⟨g,0,rfl,by
  rw [Nat.zero_add];exact Rd.blk p (by rw [nth_eq];exact hj) h x⟩⟩
theorem Val.indexAddr1 {el l c g o i:Nat} [s:SlT P t el 1] (h:ev σ x=some (.slice (some ⟨g,o,none⟩) l c)) (h1:ev σ y=some (.int k (i:Int))) (hl:i<l):Val P N (.indexAddr t x y) ty (.pointer (some ⟨g,o+i,none⟩)) σ e L:=by
 have:=Val.indexAddrN (P:=P) (N:=N) (ty:=ty) (e:=e) (L:=L) (t:=t) h h1 hl
 rwa [Nat.mul_one] at this
theorem own_cutHi {E:TypeId} {n k c lo:Nat} {ad:Option Addr} {xs:List Value} {R:List Res} (h:lo≤k):Ent (Own E n (.slice ad k c) k xs::R) (Own E n (.slice ad lo c) lo (xs.take (lo*n))::R):=fun _=>sepL_head fun _ ⟨hl,hA⟩=>by
 have hle:lo*n≤k*n:=Nat.mul_le_mul_right _ h;refine ⟨by rw [List.length_take];omega,?_⟩;rcases hA with ⟨hv,hk⟩|⟨g,cap,cur,hv,hg,r1,r2,r3,r4⟩
 ·cases hv
  left
  exact ⟨by rw [show lo=0 by omega],by omega⟩
 ·cases hv
  refine .inr ⟨g,_,cur,rfl,hg,by omega,r2,r3,?_⟩;rw [← r4,List.take_take,Nat.min_eq_left hle]
theorem cells_one {v:Value} (h:v.oneCell'=true):v.cells=#[v]:=by
 cases v<;>first|rfl|simp [Value.oneCell'] at h
def ShapeO (v:Value) (k:Nat):Prop:=∃ ad cap,v=.slice ad k cap∧k≤cap∧cap≤maxLen∧((ad=none∧cap=0∧k=0)∨∃ g,ad=some ⟨g,0,none⟩)
theorem own_shape {E:TypeId} {n k:Nat} {v:Value} {xs:List Value} {R:List Res} (p:Pull L (Own E n v k xs) R):∀ h,sepL L h→ShapeO v k∧xs.length=k*n:=fun h x=>by
 obtain ⟨hl,hA⟩:=own_out (p.out h x);refine ⟨?_,hl⟩;rcases hA with ⟨hv,hk,_⟩|⟨g,cap,cur,hv,r1,r2,r3,r4,_⟩
 ·exact ⟨none,0,by rw [hv,hk],by omega,by simp [maxLen],.inl ⟨rfl,rfl,hk⟩⟩
 ·exact ⟨_,cap,hv,r1,r2,.inr ⟨g,rfl⟩⟩
theorem Do.storeOwn {g c kk nn off:Nat} {E:TypeId} {v:Value} {xs:List Value} {R:List Res} [i:PlainT P t] (h:ev σ x=some (.pointer (some ⟨g,off,none⟩))) (h1:ev σ y=some v) (hv:v.oneCell'=true)
 (p:Pull L (Own E nn (.slice (some ⟨g,0,none⟩) kk c) kk xs) R) (ho:off<kk*nn) (k:K σ (Own E nn (.slice (some ⟨g,0,none⟩) kk c) kk (xs.set off v)::R)) :
 Do P N ⟨none,.store t x y,ty,pos,af,gd⟩ K σ e L:=fun a w ha hs K' Q' hK=>by
 have hs1:=hs.ent p.out;obtain ⟨hl,hA⟩:=own_out hs1.2.2.2;rcases hA with ⟨hv',_⟩|⟨g',cap,cur,hv',r1,r2,r3,r4,hB⟩
 ·cases hv'
 ·cases hv'
  have hs2:Sat e (Blk g cur E (0,0)::R) w:=⟨hs.1,hs.2.1,hs.2.2.1,hB⟩
  have hlt:off<cur.length:=by
   have:=Nat.mul_le_mul_right nn r1
   omega
  refine Do.store (P:=P) (N:=N) (ty:=ty) (pos:=pos) (af:=af) (gd:=gd) (K:=fun σ' L'=>σ'=σ∧L'=Blk g (cur.set off v) E (0,0)::R) h h1 hv .zero (SetAt.of v hlt) ⟨rfl,rfl⟩ a w ha hs2 K' Q' (fun σ' L' a' w' ⟨e1,e2⟩ ha' hs'=>?_);subst e1 e2;have hin:=own_in (E:=E) (n:=nn) (g:=g) (R:=R) (cur:=cur.set off v) r1 r2 (by rw [List.length_set];exact r3);rw [List.take_set,r4] at hin
  exact hK _ _ _ _ k ha' (hs'.ent hin)
theorem Do.makeSlice {el nn b c:Nat} {z z0:Value} {k1 k2:IntKind} [i:SlT P t el nn] [j:ElT P el z 1 b] (hx:ev σ x=some (.int k1 (c:Int))) (hy:ev σ y=some (.int k2 (c:Int))) (hd:Nat.blt d N.n=true) (hz:z.cells=#[z0]) (h63:c≤maxLen) (hb:c*b≤140737488355328)
 (kk:∀ g,K ((d,.slice (some ⟨g,0,none⟩) c c)::σ) (Own el 1 (.slice (some ⟨g,0,none⟩) c c) c (List.replicate c z0)::L)) :
 Do P N ⟨some d,.makeSlice t x y,ty,pos,af,gd⟩ K σ e L:=fun a w ha hs K' Q' hK=>by
 obtain ⟨ti,t1,t2,t3,t4⟩:=j.parts;subst t4
 have hb':(ti.bytes:Int)*(c:Int)≤281474976710656:=by
  have h:((ti.bytes*c:Nat):Int)≤281474976710656:=by rw [Nat.mul_comm];omega
  rwa [Int.natCast_mul] at h
 have hr:=run_make (P:=P) w t el ti z i.und t1 t2 k1 k2 c c (by omega) (Int.le_refl _) hb' (by simp only [maxLen] at h63;omega);simp only [Int.toNat_natCast,t3,Nat.mul_one] at hr
 have hm:(madeCells z.cells c).toList=List.replicate c z0:=by
  rw [hz];apply List.ext_getElem?;intro q;simp only [madeCells,Array.toList_map,List.getElem?_map,Array.toList_range,List.getElem?_replicate]
  by_cases hq:q<c
  ·simp [hq,Nat.mod_one]
  ·simp [hq]
 refine upon_ok_do (w':=w.alloc (.cells (madeCells z.cells c) el)) (v:=.slice (some ⟨w.heap.size,0,none⟩) c c) (by simp [execOp,ha.ev hx,ha.ev hy,hr]) (hK _ _ _ _ (kk _) (ha.put hd _) ?_);have hs3:=(hs.alloc (.cells (madeCells z.cells c) el)).ent (blk_arr _ _ _ _);rw [hm] at hs3
 have hin:=own_in (E:=el) (n:=1) (g:=w.heap.size) (k:=c) (cap:=c) (cur:=List.replicate c z0) (R:=L) (Nat.le_refl _) h63 (by simp);rw [List.take_of_length_le (by simp)] at hin
 exact hs3.ent hin
theorem Val.makeFunc {f:FuncId} {xs ys:List Operand} {us vs:List Value} (h:evs σ xs=some us) (h1:evs σ ys=some vs):Val P N (.makeFunc (.func f) xs.toArray ys.toArray) ty (.func (.func f) us.toArray vs.toArray) σ e L:=fun a w ha _ _ _ _ _=>by
 simp [execOp,Instr.makeFunc,ha.evs h,ha.evs h1]
theorem Do.callV {f g:FuncId} {us ws:List Value} {xs:List Operand} {vs:List Value} {ats:Array TypeId} {Post:Value→List Res→Prop}
 [i:CallT P f g] (hf:ev σ x=some (.func (.func f) us.toArray ws.toArray)) (hx:evs σ xs=some vs) (hd:Nat.blt d N.n=true) (h:Ct P g (us++vs++ws).toArray e L Post) (k:∀ v L',Post v L'→K ((d,v)::σ) L') :
 Do P N ⟨some d,.call { callee:=.value x,args:=xs.toArray,argTypes:=ats },ty,pos,af,gd⟩ K σ e L:=by
 intro a w ha hs K' Q' hK;unfold Oper.wp
 have h1:execOp a.eval ⟨some d,.call { callee:=.value x,args:=xs.toArray,argTypes:=ats },ty,pos,af,gd⟩=callFunc f (us.toArray++xs.toArray.map a.eval++ws.toArray):=by
  simp only [execOp,resolve,ha.ev hf,Deferred.ofValue]
  rfl
 have h2:(us.toArray++xs.toArray.map a.eval++ws.toArray:Array Value)=(us++vs++ws).toArray:=by simp [ha.evs hx]
 rw [h1,h2,i.run,Oper.upon_enter];refine (h w hs).mono ?_;rintro x w' ⟨v,L',rfl,hp,hs'⟩;exact hK _ _ _ _ (k v L' hp) (ha.put hd v) hs'
end
end Go.Bs
namespace Go.Bs
section
variable {P:Program} {N:Fr} {Q:Goal} {σ:Env} {e:World} {L:List Res} {all:Array Oper} {rest:List Oper}
variable {d:Nat} {op:Op} {ty:TypeId} {pos:String} {af:Array Edge} {gd:Option (Nat × Bool)} {K:Env→List Res→Prop} {x y:Operand} {t t':TypeId} {k k':IntKind}
def MeetQ {ι:Type} (Iσ:ι→Env) (IL:ι→List Res) (IP:ι→Prop) (e:World):Env→World→Prop:=fun σ' w'=>∃ j,IP j∧(∀ k v,get (Iσ j) k=some v→get σ' k=some v)∧Sat e (IL j) w'
theorem W.meet {c y:Code} {ι:Type} (Iσ:ι→Env) (IL:ι→List Res) (IP:ι→Prop) (h2:∀ i,IP i→W P N y Q (Iσ i) e (IL i)) (h1:W P N c (thenQ (MeetQ Iσ IL IP e) Q) σ e L):W P N (.seq c y) Q σ e L :=
 W.cut _ h1 fun σ' w ⟨j,hj,hs,hw⟩ a ha=>h2 j hj a w (ha.sub hs) hw
theorem ent_ex {α:Sort _} {f:α→Res} {R L':List Res} (h:∀ x,Ent (f x::R) L'):Ent (Ex f::R) L':=fun hh x=>by
 obtain ⟨y,hy⟩:=ex_out x;exact h y hh hy
theorem ent_pu {p:Prop} {R L':List Res} (h:p→Ent R L'):Ent (Pu p::R) L':=fun hh x=>h (pu_out x).1 hh (pu_out x).2
theorem sep_ent {p:Prop} {L L1:List Res} (g:∀ h,sepL L1 h→p) (f:Ent L L1):∀ h,sepL L h→p:=fun h x=>g h (f h x)
theorem one_nil:∀ c∈([]:List Value),c.oneCell'=true:=fun _ h=>by cases h
theorem one_cons {v:Value} {l:List Value} (h:v.oneCell'=true) (h':∀ c∈l,c.oneCell'=true):∀ c∈v::l,c.oneCell'=true:=fun c hc=>by
 rcases List.mem_cons.1 hc with rfl|hc
 ·exact h
 ·exact h' c hc
theorem Val.convIntE {s:TypeId} {m:Int} [i:IntT P s k] [j:IntT P t k'] (h:ev σ x=some (.int k m)) (hw:k'.wrap m=m):Val P N (.convert s t x) ty (.int k' m) σ e L:=by
 have:=Val.convInt (P:=P) (N:=N) (ty:=ty) (e:=e) (L:=L) (s:=s) (t:=t) h
 rwa [hw] at this
structure Halt (p:Prop):Prop where
 go:p
theorem W.meet27 {id:Nat} {os:Array Oper} {b:Bool} {c z:Code} {ι:Type} (Iσ:ι→Env) (IL:ι→List Res) (IP:ι→Prop) (h2:∀ i,IP i→W P N (.seq (.region id os b) z) Q (Iσ i) e (IL i)) (h1:Halt (W P N c (thenQ (MeetQ Iσ IL IP e) Q) σ e L)):W P N (.seq c (.seq (.region id os b) z)) Q σ e L:=W.meet Iσ IL IP h2 h1.go
theorem W.meetS {id:Nat} {os:Array Oper} {b:Bool} {c y z:Code} {ι:Type} (Iσ:ι→Env) (IL:ι→List Res) (IP:ι→Prop) (h2:∀ i,IP i→W P N (.seq (.seq (.region id os b) y) z) Q (Iσ i) e (IL i)) (h1:Halt (W P N c (thenQ (MeetQ Iσ IL IP e) Q) σ e L)):W P N (.seq c (.seq (.seq (.region id os b) y) z)) Q σ e L:=W.meet Iσ IL IP h2 h1.go
theorem Fin.meet {ι:Type} {Iσ:ι→Env} {IL:ι→List Res} {IP:ι→Prop} (j:ι) (hj:IP j) (hσ:∀ k v,get (Iσ j) k=some v→get σ k=some v) (hL:Ent L (IL j)) :
 Fin (thenQ (MeetQ Iσ IL IP e) Q) .normal σ e L:=fun _ hs=>⟨j,hj,hσ,hs.ent hL⟩
theorem Sat.setPart {g c kk nn o:Nat} {E:TypeId} {xs ys cur:List Value} {R:List Res} {w:World} (hs:Sat e (Blk g cur E (0,0)::R) w) (hl:o+ys.length≤cur.length) :
 Sat e (Blk g (cur.take o++ys++cur.drop (o+ys.length)) E (0,0)::R) (w.setRow g (cur.take o++ys++cur.drop (o+ys.length)).toArray):=by
 have hg:w.heap[g]?=some (.cells cur.toArray E (0,0)):=by
  obtain ⟨h1',h2',_,b',_,hA',_⟩:=hs.2.2.2;exact b' g _ hA'
 refine hs.change rfl rfl rfl fun h1' hle hA'=>?_
 refine ⟨fun b=>if b=g then some (.cells (cur.take o++ys++cur.drop (o+ys.length)).toArray E (0,0)) else none,?_,by simp [Blk,Ob],?_,?_⟩
 ·intro b o' hb
  by_cases eb:b=g
  ·subst eb;simp only [if_true] at hb;rw [← hb];exact setRow_heap w b cur.toArray _ E _ hg
  ·simp [eb] at hb
 ·intro b o' hb hn
  by_cases eb:b=g
  ·subst eb;rw [show h1' b=_ from hA'] at hn;cases hn
  ·simp [eb] at hb
 ·intro b hn o' ho;have:b≠g:=by rintro rfl;rw [show h1' b=_ from hA'] at hn;cases hn
  exact (setRow_other w g b _ this).trans ho
theorem take_part {α:Type} (cur ys:List α) (o m:Nat) (h:o+ys.length≤m) (h2:m≤cur.length):(cur.take o++ys++cur.drop (o+ys.length)).take m=(cur.take m).take o++ys++(cur.take m).drop (o+ys.length):=by
 rw [List.take_take,Nat.min_eq_left (by omega),List.take_append,List.take_of_length_le (by simp;omega)]
 congr 1
 rw [List.drop_take]
 congr 1
 simp;omega
theorem Do.appendIn {el n b g c kk i j m:Nat} {z:Value} {ad2:Option Addr} {c2:Nat} {xs:List Value} {R:List Res} [s:SlT P t el n] [jj:ElT P el z n b]
 (hx:ev σ x=some (.slice (some ⟨g,0,none⟩) i c)) (hy:ev σ y=some (.slice ad2 m c2)) (hd:Nat.blt d N.n=true) (p:Pull L (Own el n (.slice (some ⟨g,0,none⟩) kk c) kk xs) R)
 (hn:Nat.blt 0 n=true) (hij:i≤j) (hjm:j+m≤kk) (had:m=0∨ad2=some ⟨g,j*n,none⟩) (h1:∀ c∈xs,c.oneCell'=true)
 (kn:K ((d,.slice (some ⟨g,0,none⟩) (i+m) c)::σ) (Own el n (.slice (some ⟨g,0,none⟩) kk c) kk (xs.take (i*n)++(xs.drop (j*n)).take (m*n)++xs.drop ((i+m)*n))::R)) :
 Do P N ⟨some d,.call { callee:=.builtin .append,args:=#[x,y],argTypes:=#[t,t] },ty,pos,af,gd⟩ K σ e L:=fun a w ha hs K' Q' hK=>by
 have hs1:=hs.ent p.out;have hex:∀ v' w',(Builtin.append_ #[t,t] ty #[.slice (some ⟨g,0,none⟩) i c,.slice ad2 m c2]).run P w=.ok v' w'→K' (a.put (some d) v') w' →
  Oper.wp P ⟨some d,.call { callee:=.builtin .append,args:=#[x,y],argTypes:=#[t,t] },ty,pos,af,gd⟩ a w K' Q':=fun v' w' hr hk =>
  upon_ok_do (v:=v') (w':=w') (by simp [execOp,resolve,invoke,builtin,ha.ev hx,ha.ev hy,hr]) hk
 have n0:0<n:=by rw [← Nat.blt_eq];exact hn
 obtain ⟨ti,t1,t2,t3,t4⟩:=jj.parts;subst t3 t4;obtain ⟨hl,hA⟩:=own_out hs1.2.2.2;rcases hA with ⟨hv',_⟩|⟨g',cap',cur,hv',r1,r2,r3,r4,hB⟩
 ·cases hv'
 cases hv'
 have hs2:Sat e (Blk g cur el (0,0)::R) w:=⟨hs.1,hs.2.1,hs.2.2.1,hB⟩
 have hg:w.heap[g]?=some (.cells cur.toArray el (0,0)):=by
  obtain ⟨h1',h2',_,b',_,hA',_⟩:=hB;exact b' g _ hA'
 by_cases hm:m=0
 ·subst hm;refine hex _ w (run_append_none t ty el s w _ i c (by omega) ad2 c2) (hK _ _ _ _ kn (ha.put hd _) ?_);rw [Nat.zero_mul,List.take_zero,List.append_nil,Nat.add_zero,List.take_append_drop];exact hs1
 ·have had':ad2=some ⟨g,j*ti.size,none⟩:=by
   rcases had with h|h
   ·exact absurd h hm
   ·exact h
  subst had';have hjk:(j+m)*ti.size≤kk*ti.size:=Nat.mul_le_mul_right _ hjm;have hkc:kk*ti.size≤c*ti.size:=Nat.mul_le_mul_right _ r1
  have hyl:((xs.drop (j*ti.size)).take (m*ti.size)).length=m*ti.size:=by
   rw [Nat.add_mul] at hjk
   simp only [List.length_take,List.length_drop,hl];omega
  have him:(i+m)*ti.size≤kk*ti.size:=Nat.mul_le_mul_right _ (by omega)
  have hc2:∀ q u,((xs.drop (j*ti.size)).take (m*ti.size))[q]?=some u→w.cell? ((⟨g,j*ti.size,none⟩:Addr).add q)=some u:=fun q u hq=>by
   rw [Addr.add_lit];refine (Rd.blk (R:=R) (cs:=cur) (T:=el) (fz:=(0,0)) .zero ?_).at hs2
   rw [List.getElem?_take] at hq
   split at hq
   ·rw [List.getElem?_drop,← r4,List.getElem?_take] at hq
    split at hq
    ·rw [nth_eq];exact hq
    ·cases hq
   ·cases hq
  have hfit:i*ti.size+((xs.drop (j*ti.size)).take (m*ti.size)).length≤cur.length:=by
   rw [hyl,r3,← Nat.add_mul];omega
  have hr:=run_append_room (P:=P) w t ty el ti s.und t1 g i c cur.toArray hg ⟨g,j*ti.size,none⟩ m c2 _ hyl hc2 (fun v hv=>h1 v (List.mem_of_mem_drop (List.mem_of_mem_take hv))) (by omega) (by simpa using hfit);refine hex _ _ hr (hK _ _ _ _ kn (ha.put hd _) ?_);have hs5:=Sat.setPart (c:=c) (kk:=kk) (nn:=ti.size) (xs:=xs) (o:=i*ti.size) (ys:=(xs.drop (j*ti.size)).take (m*ti.size)) hs2 hfit
  have hsz:(cur.take (i*ti.size)++(xs.drop (j*ti.size)).take (m*ti.size)++cur.drop (i*ti.size+((xs.drop (j*ti.size)).take (m*ti.size)).length)).length=c*ti.size:=by
   simp only [List.length_append,hyl,List.length_take,List.length_drop,r3];rw [hyl,r3] at hfit
   omega
  have hin:=own_in (E:=el) (n:=ti.size) (g:=g) (R:=R) r1 r2 hsz;rw [take_part _ _ _ _ (by rw [hyl,← Nat.add_mul];exact him) (by rw [r3];exact hkc),r4,hyl,← Nat.add_mul] at hin
  rw [hyl] at hs5 ⊢
  rw [← Nat.add_mul] at hs5 ⊢
  exact hs5.ent hin
theorem Do.clear {el n g c kk o m cc:Nat} {z:Value} {ad2:Option Addr} {xs:List Value} {R:List Res} [s:SlT P t el n] [zz:ZeroT P el z]
 (hx:ev σ x=some (.slice ad2 m cc)) (p:Pull L (Own el n (.slice (some ⟨g,0,none⟩) kk c) kk xs) R)
 (hz:z.cells.size=n) (h1:∀ v∈z.cells.toList,v.oneCell'=true) (ho:o+m*n≤kk*n) (had:m=0∨ad2=some ⟨g,o,none⟩)
 (kn:∀ zs:List Value,zs.length=m*n→K σ (Own el n (.slice (some ⟨g,0,none⟩) kk c) kk (xs.take o++zs++xs.drop (o+m*n))::R)) :
 Do P N ⟨none,.call { callee:=.builtin .clear,args:=#[x],argTypes:=#[t] },ty,pos,af,gd⟩ K σ e L:=fun a w ha hs K' Q' hK=>by
 have hs1:=hs.ent p.out;have hex:∀ v' w',(Builtin.clear_ #[t] ty #[.slice ad2 m cc]).run P w=.ok v' w'→K' (a.put none v') w' →
  Oper.wp P ⟨none,.call { callee:=.builtin .clear,args:=#[x],argTypes:=#[t] },ty,pos,af,gd⟩ a w K' Q':=fun v' w' hr hk =>
  upon_ok_do (v:=v') (w':=w') (by simp [execOp,resolve,invoke,builtin,ha.ev hx,hr]) hk
 obtain ⟨hl,hA⟩:=own_out hs1.2.2.2;rcases hA with ⟨hv',_⟩|⟨g',cap',cur,hv',r1,r2,r3,r4,hB⟩
 ·cases hv'
 cases hv'
 have hs2:Sat e (Blk g cur el (0,0)::R) w:=⟨hs.1,hs.2.1,hs.2.2.1,hB⟩
 have hg:w.heap[g]?=some (.cells cur.toArray el (0,0)):=by
  obtain ⟨h1',h2',_,b',_,hA',_⟩:=hB;exact b' g _ hA'
 by_cases hm:m=0
 ·subst hm;refine hex (.tuple #[]) w ?_ (hK _ _ _ _ (kn [] (by simp)) ha ?_)
  ·cases ad2<;>simp [Builtin.clear_,run_underlying s.und]
  ·rw [Nat.zero_mul,List.append_nil,Nat.add_zero,List.take_append_drop];exact hs1
 ·have had':ad2=some ⟨g,o,none⟩:=by
   rcases had with h|h
   ·exact absurd h hm
   ·exact h
  subst had';have hkc:kk*n≤c*n:=Nat.mul_le_mul_right _ r1
  have hzl:(Builtin.zeroCells z.cells m).toList.length=m*n:=by
   rw [Array.length_toList,size_zeroCells,hz]
  have hz1:∀ v∈(Builtin.zeroCells z.cells m).toList,v.oneCell'=true:=fun v hv=>by
   simp only [Builtin.zeroCells,Array.toList_map,List.mem_map,Array.toList_range,List.mem_range] at hv
   obtain ⟨q,hq,rfl⟩:=hv
   have hpos:0<z.cells.size:=by
    rcases Nat.eq_zero_or_pos z.cells.size with h0|h0
    ·rw [h0] at hq;simp at hq
    ·exact h0
   have hlt:q % z.cells.size<z.cells.size:=Nat.mod_lt _ hpos;rw [getElem!_pos z.cells _ hlt];exact h1 _ (Array.getElem_mem_toList hlt)
  have hst:=run_storeCells_at P g o el (Builtin.zeroCells z.cells m).toList 0 cur.toArray w hg (by rw [hzl,List.size_toArray,r3];omega) hz1;simp only [Nat.add_zero] at hst
  obtain ⟨m',rfl⟩:∃ m',m=m'+1:=⟨m - 1,by omega⟩
  refine hex (.tuple #[]) (w.setRow g (cur.take o++(Builtin.zeroCells z.cells (m'+1)).toList++cur.drop (o+(Builtin.zeroCells z.cells (m'+1)).toList.length)).toArray) ?_ (hK _ _ _ _ (kn _ hzl) ha ?_)
  ·simp [Builtin.clear_,run_underlying s.und,zz.run,hst]
  ·have hs5:=Sat.setPart (c:=c) (kk:=kk) (nn:=n) (xs:=xs) (o:=o) (ys:=(Builtin.zeroCells z.cells (m'+1)).toList) hs2 (by rw [hzl,r3];omega)
   have hsz:(cur.take o++(Builtin.zeroCells z.cells (m'+1)).toList++cur.drop (o+(Builtin.zeroCells z.cells (m'+1)).toList.length)).length=c*n:=by
    simp only [List.length_append,hzl,List.length_take,List.length_drop,r3]
    omega
   have hin:=own_in (E:=el) (n:=n) (g:=g) (R:=R) r1 r2 hsz;rw [take_part _ _ _ _ (by rw [hzl];exact ho) (by rw [r3];exact hkc),r4,hzl] at hin
   rw [hzl] at hs5 ⊢
   exact hs5.ent hin
def RdA (L:List Res) (g o:Nat) (cs:List Value):Prop:=∀ j u,cs[j]?=some u→Rd L ⟨g,o+j,none⟩ u
theorem RdA.tail {A:Res} {L:List Res} {g o:Nat} {cs:List Value} (h:RdA L g o cs):RdA (A::L) g o cs:=fun j u hj=>(h j u hj).tail
theorem RdA.blk {L R:List Res} {g o:Nat} {cs xs:List Value} {T:TypeId} {fz:Nat × Nat} (p:Pull L (Blk g xs T fz) R) (h:∃ n,(xs.drop o).take n=cs):RdA L g o cs:=fun j u hj=>by
 obtain ⟨n,rfl⟩:=h;refine Rd.blk p ?_;rw [nth_eq];rw [List.getElem?_take] at hj
 split at hj
 ·rwa [List.getElem?_drop] at hj
 ·cases hj
theorem RdA.whole {L R:List Res} {g:Nat} {cs:List Value} {T:TypeId} {fz:Nat × Nat} (p:Pull L (Blk g cs T fz) R):RdA L g 0 cs:=RdA.blk p ⟨cs.length,by simp⟩
theorem RdA.elem {α:Type} {f:α→List Value} {L:List Res} {nn kk c g o:Nat} {l:List α} {a:α} (r:RdSl L nn (.slice (some ⟨g,o,none⟩) kk c) kk (l.flatMap f)) (hf:∀ a,(f a).length=nn) {j:Nat} (hj:l[j]?=some a):RdA L g (o+j*nn) (f a):=fun i u hi=>by
 have hlt:i<nn:=by rw [← hf a];exact (List.getElem?_eq_some_iff.1 hi).1
 have key:∀ (l:List α) (j:Nat),l[j]?=some a→(l.flatMap f)[j*nn+i]?=some u:=by
  intro l
  induction l with
  | nil=>intro j h;simp at h
  | cons b l ih =>
   intro j h;rw [List.flatMap_cons]
   cases j with
   | zero =>
    simp at h;subst h
    rw [Nat.zero_mul,Nat.zero_add,List.getElem?_append_left (by rw [hf];exact hlt)];exact hi
   | succ j =>
    simp at h
    rw [List.getElem?_append_right (by rw [hf,Nat.succ_mul];omega),hf,show (j+1)*nn+i - nn=j*nn+i by rw [Nat.succ_mul];omega];exact ih j h
 have:=RdSl.elem r (key l j hj)
 rwa [← Nat.add_assoc] at this
theorem RdA.part {L:List Res} {g o:Nat} {cs:List Value} (h:RdA L g o cs) (k n:Nat):RdA L g (o+k) ((cs.drop k).take n):=fun j u hj=>by
 rw [List.getElem?_take] at hj
 split at hj
 ·rw [List.getElem?_drop] at hj
  have:=h _ _ hj
  rwa [← Nat.add_assoc] at this
 ·cases hj
theorem RdA.at0 {L:List Res} {g o k:Nat} {cs:List Value} {v:Value} (h:RdA L g o cs) (hk:cs[k]?=some v):Rd L ⟨g,o+k,none⟩ v:=h k v hk
theorem Val.loadAggR {n g o:Nat} {cs:List Value} [i:AggT P t n] (h:ev σ x=some (.pointer (some ⟨g,o,none⟩))) (r:RdA L g o cs) (hl:cs.length=n):Val P N (.load t x) ty (.agg cs.toArray) σ e L:=Val.loadAgg h hl r
theorem O.loadAggR {n g o:Nat} {cs:List Value} [i:AggT P t n] (h:ev σ x=some (.pointer (some ⟨g,o,none⟩))) (r:RdA L g o cs) (hl:cs.length=n) (hd:Nat.blt d N.n=true) (kk:O P N all rest Q ((d,.agg cs.toArray)::σ) e L) :
 O P N all (⟨some d,.load t x,ty,pos,af,none⟩::rest) Q σ e L:=O.val _ (Val.loadAgg h hl r) hd kk
inductive RetL (P:Program) (σ:Env) (L:List Res):List ResultVar→List Value→Prop
 | nil:RetL P σ L [] []
 | tmp {t:Nat} {v:Value} {r:List ResultVar} {vs:List Value}:get σ t=some v→RetL P σ L r vs→RetL P σ L (.tmp t::r) (v::vs)
 | agg {b t n g o:Nat} {cs:List Value} {r:List ResultVar} {vs:List Value} [i:AggT P t n]:get σ b=some (.pointer (some ⟨g,o,none⟩))→RdA L g o cs→cs.length=n→RetL P σ L r vs→RetL P σ L (.cell b t::r) (.agg cs.toArray::vs)
 | cell {b t:Nat} {p:Addr} {v:Value} {r:List ResultVar} {vs:List Value} [i:PlainT P t]:get σ b=some (.pointer (some p))→Rd L p v→RetL P σ L r vs→RetL P σ L (.cell b t::r) (v::vs)
theorem run_retl {w:World} {a:Act} (h:Has N σ a) (hs:Sat e L w) {rs:List ResultVar} {vs:List Value} (r:RetL P σ L rs vs):(rs.mapM (resOf a.tmps)).run P w=.ok vs w:=by
 induction r with
 | nil=>simp
 | tmp hg _ ih =>
  rename_i t v r vs _;have h1:a.tmps.getD t undef=v:=by simp [h.val t v hg]
  simp only [List.mapM_cons,Sem.run_bind,resOf,Sem.run_pure,Result.andThen_ok,h1];rw [ih];simp
 | agg hg hr hl _ ih =>
  rename_i b t n g o cs r vs i _;have h1:a.tmps.getD b undef=.pointer (some ⟨g,o,none⟩):=by simp [h.val b _ hg]
  have h2:=run_loadCells_list (P:=P) w ⟨g,o,none⟩ cs (fun j u hj=>by rw [Addr.add_lit];exact (hr j u hj).at hs);rw [hl] at h2
  simp only [List.mapM_cons,Sem.run_bind,resOf,h1]
  simp [asAddr,loadVar,i.ag,i.siz,h2,ih]
 | cell hg hr _ ih =>
  rename_i b t p v r vs i _;have h1:a.tmps.getD b undef=.pointer (some p):=by simp [h.val b _ hg]
  have h2:=hr.at hs
  simp only [List.mapM_cons,Sem.run_bind,resOf,h1]
  simp [asAddr,loadVar,i.ag,h2,ih]
def BodyQC (P:Program) (N:Fr) (rs:Array ResultVar) (R:Ending→World→Prop):Goal:=fun x σ w =>
 match x with
 | .normal|.ret=>∃ vs,(∀ a,Has N σ a→(rs.toList.mapM (resOf a.tmps)).run P w=.ok vs w)∧R (.returned (tup vs)) w
 | _=>False
theorem run_resultsC {w:World} {a:Act} {fn:Func} {vs:List Value} (h1:(fn.results.toList.mapM (resOf a.tmps)).run P w=.ok vs w):(results fn a.tmps).run P w=.ok (tup vs) w:=by
 have h0:results fn a.tmps=(fn.results.mapM (resOf a.tmps)) >>= fun vs=>pure (if h:vs.size=1 then vs[0] else .tuple vs):=by
  unfold results
  congr 1
 have h1:(fn.results.mapM (resOf a.tmps)).run P w=.ok vs.toArray w:=by
  rw [Array.mapM_eq_mapM_toList,Sem.run_map,h1]
  rfl
 rw [h0,Sem.run_bind,h1];simp only [Result.andThen_ok,Sem.run_pure]
 congr 1
 match vs with
 | []=>rfl
 | [v]=>rfl
 | _::_::_=>simp [tup]
theorem Ct.enterC {N:Nat} {f:FuncId} {fn:Func} {c:Code} {rs:Array ResultVar} {args:List Value} {Post:Value→List Res→Prop}
 (hf:P.funcs[f]?=some fn) (hb:fn.body=some c) (hN:fn.ntmps=N) (hr:fn.results=rs) (hle:Nat.ble args.length N=true)
 (h:W P ⟨N,[]⟩ c (BodyQC P ⟨N,[]⟩ rs (CtPost e Post)) (argsEnv 0 args) e L):Ct P f args.toArray e L Post:=by
 subst hN hr;intro w hs;have hle:=Nat.le_of_ble_eq_true hle;refine calls_of_wp hf hb (Code.wp_mono ?_ (h { tmps:=args.toArray++Array.replicate (fn.ntmps - args.toArray.size) undef,defers:=[] } w ⟨by simp;omega,rfl,fun k v hk=>?_⟩ hs))
 ·intro x a w q
  cases x with
  | normal=>obtain ⟨σ',h1,vs,h2,h3⟩:=q;exact ⟨h1.defers,_,run_resultsC (h2 a h1),h3⟩
  | ret=>obtain ⟨σ',h1,vs,h2,h3⟩:=q;exact ⟨h1.defers,_,run_resultsC (h2 a h1),h3⟩
  | panic _=>exact q.elim
  | outgrown=>exact q.elim
  | exit _=>obtain ⟨_,_,h2⟩:=q;exact h2.elim
  | goto _=>obtain ⟨_,_,h2⟩:=q;exact h2.elim
 ·have h1:=(get_argsEnv args 0 k v hk).2;have hlt:k<args.length:=(List.getElem?_eq_some_iff.1 h1).1;rw [Array.getElem?_append_left (by simpa using hlt)]
  simpa using h1
theorem Fin.retC {rs:Array ResultVar} {Post:Value→List Res→Prop} {vs:List Value} (hv:RetL P σ L rs.toList vs) (h:∃ L',Ent L L'∧Post (tup vs) L'):Fin (BodyQC P N rs (CtPost e Post)) .ret σ e L :=
 let ⟨L',hL,hp⟩:=h;fun _ hs=>⟨vs,fun a ha=>run_retl ha hs hv,tup vs,L',rfl,hp,hs.ent hL⟩
theorem Val.slice3 {x y z u:Operand} {el n l c:Nat} {ad:Option Addr} {k k' k2:IntKind} {i j m:Int} [s:SlT P t el n] (h:ev σ x=some (.slice ad l c)) (h1:ev σ y=some (.int k i)) (h2:ev σ z=some (.int k' j)) (h4:ev σ u=some (.int k2 m)) (h0:0≤i) (hl:i≤j) (hj:j≤m) (hm:m≤c) :
 Val P N (.slice t x (some y) (some z) (some u)) ty (.slice (cutAt ad m.toNat i.toNat n) (j.toNat - i.toNat) (m.toNat - i.toNat)) σ e L:=fun a w ha _ _ _ _ _=>by
 have e1:((j.toNat:Nat):Int)=j:=Int.toNat_of_nonneg (by omega);have e2:((m.toNat:Nat):Int)=m:=Int.toNat_of_nonneg (by omega);have h3:0≤j:=by omega
 have h5:0≤m:=by omega
 simp only [execOp,ha.ev h,ha.ev h1,ha.ev h2,ha.ev h4,Option.map_none,Option.map_some]
 simp [Instr.sliceAt,Instr.slice,run_underlying s.und,Instr.sliceBounds,Instr.sliceBound,asIntOf,h0,hl,s.siz,cutAt,h3,hj,e1,e2,h5,hm]
end
end Go.Bs
namespace Go.Bs
section
variable {P:Program} {N:Fr} {Q:Goal} {σ:Env} {e:World} {L:List Res} {all:Array Oper} {rest:List Oper}
variable {d:Nat} {ty:TypeId} {pos:String} {af:Array Edge} {x y z:Operand} {v:Value} {t t':TypeId} {k k':IntKind} {m n:Int}
theorem O.move (h:ev σ x=some v) (hd:Nat.blt d N.n=true) (kk:O P N all rest Q ((d,v)::σ) e L):O P N all (⟨some d,.move x,ty,pos,af,none⟩::rest) Q σ e L:=O.val _ (Val.move h) hd kk
theorem O.assign (h:ev σ x=some v) (hd:Nat.blt d N.n=true) (kk:O P N all rest Q ((d,v)::σ) e L):O P N all (⟨some d,.assign x,ty,pos,af,none⟩::rest) Q σ e L:=O.val _ (Val.assign h) hd kk
theorem O.nilCheck {p:Addr} (h:ev σ x=some (.pointer (some p))) (hd:Nat.blt d N.n=true) (kk:O P N all rest Q ((d,.pointer (some p))::σ) e L):O P N all (⟨some d,.nilCheck x,ty,pos,af,none⟩::rest) Q σ e L:=O.val _ (Val.nilCheck h) hd kk
theorem O.fieldAddr {s f off g o:Nat} [i:FieldT P s f off] (h:ev σ x=some (.pointer (some ⟨g,o,none⟩))) (hd:Nat.blt d N.n=true) (kk:O P N all rest Q ((d,.pointer (some ⟨g,o+off,none⟩))::σ) e L):O P N all (⟨some d,.fieldAddr s x f,ty,pos,af,none⟩::rest) Q σ e L:=O.val _ (Val.fieldAddr h) hd kk
theorem O.load {p:Addr} [i:PlainT P t] (h:ev σ x=some (.pointer (some p))) (r:Rd L p v) (hd:Nat.blt d N.n=true) (kk:O P N all rest Q ((d,v)::σ) e L):O P N all (⟨some d,.load t x,ty,pos,af,none⟩::rest) Q σ e L:=O.val _ (Val.load h r) hd kk
theorem O.len {el n l c:Nat} {ad:Option Addr} {ats:List TypeId} [i:SlT P t el n] (h:ev σ x=some (.slice ad l c)) (hd:Nat.blt d N.n=true) (kk:O P N all rest Q ((d,.int .i64 (l:Int))::σ) e L):O P N all (⟨some d,.call { callee:=.builtin .len,args:=#[x],argTypes:=(t::ats).toArray },ty,pos,af,none⟩::rest) Q σ e L:=O.val _ (Val.len h) hd kk
theorem O.lenS {s:ByteArray} {ats:List TypeId} [i:StrT P t] (h:ev σ x=some (.string s)) (hd:Nat.blt d N.n=true) (kk:O P N all rest Q ((d,.int .i64 (s.size:Int))::σ) e L):O P N all (⟨some d,.call { callee:=.builtin .len,args:=#[x],argTypes:=(t::ats).toArray },ty,pos,af,none⟩::rest) Q σ e L:=O.val _ (Val.lenS h) hd kk
theorem O.pick_t (h:ev σ x=some (.bool true)) (h1:ev σ y=some v) (hd:Nat.blt d N.n=true) (kk:O P N all rest Q ((d,v)::σ) e L):O P N all (⟨some d,.pick x y z,ty,pos,af,none⟩::rest) Q σ e L:=O.val _ (Val.pick_t h h1) hd kk
theorem O.pick_f (h:ev σ x=some (.bool false)) (h1:ev σ z=some v) (hd:Nat.blt d N.n=true) (kk:O P N all rest Q ((d,v)::σ) e L):O P N all (⟨some d,.pick x y z,ty,pos,af,none⟩::rest) Q σ e L:=O.val _ (Val.pick_f h h1) hd kk
theorem O.not_t (h:ev σ x=some (.bool true)) (hd:Nat.blt d N.n=true) (kk:O P N all rest Q ((d,.bool false)::σ) e L):O P N all (⟨some d,.unOp .not t x,ty,pos,af,none⟩::rest) Q σ e L:=O.val _ (Val.not h) hd kk
theorem O.not_f (h:ev σ x=some (.bool false)) (hd:Nat.blt d N.n=true) (kk:O P N all rest Q ((d,.bool true)::σ) e L):O P N all (⟨some d,.unOp .not t x,ty,pos,af,none⟩::rest) Q σ e L:=O.val _ (Val.not h) hd kk
theorem O.eqlPtrS {el:TypeId} {p:Addr} [i:PtrT P t el] (h:ev σ x=some (.pointer (some p))) (h1:ev σ y=some (.pointer none)) (hd:Nat.blt d N.n=true) (kk:O P N all rest Q ((d,.bool false)::σ) e L):O P N all (⟨some d,.binOp .eql t x y t',ty,pos,af,none⟩::rest) Q σ e L:=O.val _ (Val.eqlPtr h h1) hd kk
theorem O.neqPtrS {el:TypeId} {p:Addr} [i:PtrT P t el] (h:ev σ x=some (.pointer (some p))) (h1:ev σ y=some (.pointer none)) (hd:Nat.blt d N.n=true) (kk:O P N all rest Q ((d,.bool true)::σ) e L):O P N all (⟨some d,.binOp .neq t x y t',ty,pos,af,none⟩::rest) Q σ e L:=O.val _ (Val.neqPtr h h1) hd kk
theorem O.eqlSlS {el n l c:Nat} {p:Addr} [i:SlT P t el n] (h:ev σ x=some (.slice (some p) l c)) (h1:ev σ y=some (.slice none 0 0)) (hd:Nat.blt d N.n=true) (kk:O P N all rest Q ((d,.bool false)::σ) e L):O P N all (⟨some d,.binOp .eql t x y t',ty,pos,af,none⟩::rest) Q σ e L:=O.val _ (Val.eqlSl h h1) hd kk
theorem O.eqlSlN {el n l c:Nat} [i:SlT P t el n] (h:ev σ x=some (.slice none l c)) (h1:ev σ y=some (.slice none 0 0)) (hd:Nat.blt d N.n=true) (kk:O P N all rest Q ((d,.bool true)::σ) e L):O P N all (⟨some d,.binOp .eql t x y t',ty,pos,af,none⟩::rest) Q σ e L:=O.val _ (Val.eqlSl h h1) hd kk
theorem O.lss_t (h:ev σ x=some (.int k m)) (h1:ev σ y=some (.int k n)) (hp:m<n) (hd:Nat.blt d N.n=true) (kk:O P N all rest Q ((d,.bool true)::σ) e L):O P N all (⟨some d,.binOp .lss t x y t',ty,pos,af,none⟩::rest) Q σ e L:=O.val _ (Val.yes (Val.lss h h1) hp) hd kk
theorem O.lss_f (h:ev σ x=some (.int k m)) (h1:ev σ y=some (.int k n)) (hp:¬ (m<n)) (hd:Nat.blt d N.n=true) (kk:O P N all rest Q ((d,.bool false)::σ) e L):O P N all (⟨some d,.binOp .lss t x y t',ty,pos,af,none⟩::rest) Q σ e L:=O.val _ (Val.no (Val.lss h h1) hp) hd kk
theorem O.lss_d (h:ev σ x=some (.int k m)) (h1:ev σ y=some (.int k n)) (hd:Nat.blt d N.n=true) (k1:m<n→O P N all rest Q ((d,.bool true)::σ) e L) (k2:¬ (m<n)→O P N all rest Q ((d,.bool false)::σ) e L):O P N all (⟨some d,.binOp .lss t x y t',ty,pos,af,none⟩::rest) Q σ e L:=O.dec (Val.lss h h1) hd k1 k2
theorem O.leq_t (h:ev σ x=some (.int k m)) (h1:ev σ y=some (.int k n)) (hp:m≤n) (hd:Nat.blt d N.n=true) (kk:O P N all rest Q ((d,.bool true)::σ) e L):O P N all (⟨some d,.binOp .leq t x y t',ty,pos,af,none⟩::rest) Q σ e L:=O.val _ (Val.yes (Val.leq h h1) hp) hd kk
theorem O.leq_f (h:ev σ x=some (.int k m)) (h1:ev σ y=some (.int k n)) (hp:¬ (m≤n)) (hd:Nat.blt d N.n=true) (kk:O P N all rest Q ((d,.bool false)::σ) e L):O P N all (⟨some d,.binOp .leq t x y t',ty,pos,af,none⟩::rest) Q σ e L:=O.val _ (Val.no (Val.leq h h1) hp) hd kk
theorem O.gtr_t (h:ev σ x=some (.int k m)) (h1:ev σ y=some (.int k n)) (hp:n<m) (hd:Nat.blt d N.n=true) (kk:O P N all rest Q ((d,.bool true)::σ) e L):O P N all (⟨some d,.binOp .gtr t x y t',ty,pos,af,none⟩::rest) Q σ e L:=O.val _ (Val.yes (Val.gtr h h1) hp) hd kk
theorem O.gtr_f (h:ev σ x=some (.int k m)) (h1:ev σ y=some (.int k n)) (hp:¬ (n<m)) (hd:Nat.blt d N.n=true) (kk:O P N all rest Q ((d,.bool false)::σ) e L):O P N all (⟨some d,.binOp .gtr t x y t',ty,pos,af,none⟩::rest) Q σ e L:=O.val _ (Val.no (Val.gtr h h1) hp) hd kk
theorem O.gtr_d (h:ev σ x=some (.int k m)) (h1:ev σ y=some (.int k n)) (hd:Nat.blt d N.n=true) (k1:n<m→O P N all rest Q ((d,.bool true)::σ) e L) (k2:¬ (n<m)→O P N all rest Q ((d,.bool false)::σ) e L):O P N all (⟨some d,.binOp .gtr t x y t',ty,pos,af,none⟩::rest) Q σ e L:=O.dec (Val.gtr h h1) hd k1 k2
theorem O.geq_t (h:ev σ x=some (.int k m)) (h1:ev σ y=some (.int k n)) (hp:n≤m) (hd:Nat.blt d N.n=true) (kk:O P N all rest Q ((d,.bool true)::σ) e L):O P N all (⟨some d,.binOp .geq t x y t',ty,pos,af,none⟩::rest) Q σ e L:=O.val _ (Val.yes (Val.geq h h1) hp) hd kk
theorem O.geq_f (h:ev σ x=some (.int k m)) (h1:ev σ y=some (.int k n)) (hp:¬ (n≤m)) (hd:Nat.blt d N.n=true) (kk:O P N all rest Q ((d,.bool false)::σ) e L):O P N all (⟨some d,.binOp .geq t x y t',ty,pos,af,none⟩::rest) Q σ e L:=O.val _ (Val.no (Val.geq h h1) hp) hd kk
theorem O.eql_t (h:ev σ x=some (.int k m)) (h1:ev σ y=some (.int k n)) (hp:m=n) (hd:Nat.blt d N.n=true) (kk:O P N all rest Q ((d,.bool true)::σ) e L):O P N all (⟨some d,.binOp .eql t x y t',ty,pos,af,none⟩::rest) Q σ e L:=O.val _ (Val.yes (Val.eql h h1) hp) hd kk
theorem O.eql_f (h:ev σ x=some (.int k m)) (h1:ev σ y=some (.int k n)) (hp:¬ (m=n)) (hd:Nat.blt d N.n=true) (kk:O P N all rest Q ((d,.bool false)::σ) e L):O P N all (⟨some d,.binOp .eql t x y t',ty,pos,af,none⟩::rest) Q σ e L:=O.val _ (Val.no (Val.eql h h1) hp) hd kk
theorem O.eql_d (h:ev σ x=some (.int k m)) (h1:ev σ y=some (.int k n)) (hd:Nat.blt d N.n=true) (k1:m=n→O P N all rest Q ((d,.bool true)::σ) e L) (k2:¬ (m=n)→O P N all rest Q ((d,.bool false)::σ) e L):O P N all (⟨some d,.binOp .eql t x y t',ty,pos,af,none⟩::rest) Q σ e L:=O.dec (Val.eql h h1) hd k1 k2
theorem O.neq_t (h:ev σ x=some (.int k m)) (h1:ev σ y=some (.int k n)) (hp:m≠n) (hd:Nat.blt d N.n=true) (kk:O P N all rest Q ((d,.bool true)::σ) e L):O P N all (⟨some d,.binOp .neq t x y t',ty,pos,af,none⟩::rest) Q σ e L:=O.val _ (Val.yes (Val.neq h h1) hp) hd kk
theorem O.neq_f (h:ev σ x=some (.int k m)) (h1:ev σ y=some (.int k n)) (hp:¬ (m≠n)) (hd:Nat.blt d N.n=true) (kk:O P N all rest Q ((d,.bool false)::σ) e L):O P N all (⟨some d,.binOp .neq t x y t',ty,pos,af,none⟩::rest) Q σ e L:=O.val _ (Val.no (Val.neq h h1) hp) hd kk
theorem O.add64 (h:ev σ x=some (.int .i64 m)) (h1:ev σ y=some (.int .i64 n)) (hb:-9223372036854775808≤m+n∧m+n≤9223372036854775807) (hd:Nat.blt d N.n=true) (kk:O P N all rest Q ((d,.int .i64 (m+n))::σ) e L):O P N all (⟨some d,.binOp .add t x y t',ty,pos,af,none⟩::rest) Q σ e L:=O.val _ (Val.add64 h h1 hb) hd kk
theorem O.sub64 (h:ev σ x=some (.int .i64 m)) (h1:ev σ y=some (.int .i64 n)) (hb:-9223372036854775808≤m - n∧m - n≤9223372036854775807) (hd:Nat.blt d N.n=true) (kk:O P N all rest Q ((d,.int .i64 (m - n))::σ) e L):O P N all (⟨some d,.binOp .sub t x y t',ty,pos,af,none⟩::rest) Q σ e L:=O.val _ (Val.sub64 h h1 hb) hd kk
theorem O.sub (h:ev σ x=some (.int k m)) (h1:ev σ y=some (.int k n)) (hd:Nat.blt d N.n=true) (kk:O P N all rest Q ((d,.int k (k.wrap (m - n)))::σ) e L):O P N all (⟨some d,.binOp .sub t x y t',ty,pos,af,none⟩::rest) Q σ e L:=O.val _ (Val.sub h h1) hd kk
theorem O.mul64 (h:ev σ x=some (.int .i64 m)) (h1:ev σ y=some (.int .i64 n)) (hb:-9223372036854775808≤m*n∧m*n≤9223372036854775807) (hd:Nat.blt d N.n=true) (kk:O P N all rest Q ((d,.int .i64 (m*n))::σ) e L):O P N all (⟨some d,.binOp .mul t x y t',ty,pos,af,none⟩::rest) Q σ e L:=O.val _ (Val.mul64 h h1 hb) hd kk
theorem O.mul (h:ev σ x=some (.int k m)) (h1:ev σ y=some (.int k n)) (hd:Nat.blt d N.n=true) (kk:O P N all rest Q ((d,.int k (k.wrap (m*n)))::σ) e L):O P N all (⟨some d,.binOp .mul t x y t',ty,pos,af,none⟩::rest) Q σ e L:=O.val _ (Val.mul h h1) hd kk
theorem O.convIntE {s:TypeId} [i:IntT P s k] [j:IntT P t k'] (h:ev σ x=some (.int k m)) (hw:k'.wrap m=m) (hd:Nat.blt d N.n=true) (kk:O P N all rest Q ((d,.int k' m)::σ) e L):O P N all (⟨some d,.convert s t x,ty,pos,af,none⟩::rest) Q σ e L:=O.val _ (by have:=Val.convInt (P:=P) (N:=N) (ty:=ty) (e:=e) (L:=L) (s:=s) (t:=t) h;rwa [hw] at this) hd kk
theorem O.shl (h:ev σ x=some (.int k m)) (h1:ev σ y=some (.int k' n)) (h0:0≤n) (hd:Nat.blt d N.n=true) (kk:O P N all rest Q ((d,.int k (k.wrap (m*2 ^ (min n.toNat k.bits))))::σ) e L):O P N all (⟨some d,.binOp .shl t x y t',ty,pos,af,none⟩::rest) Q σ e L:=O.val _ (Val.shl h h1 h0) hd kk
theorem O.shr (h:ev σ x=some (.int k m)) (h1:ev σ y=some (.int k' n)) (h0:0≤n) (hd:Nat.blt d N.n=true) (kk:O P N all rest Q ((d,.int k (m.fdiv (2 ^ (min n.toNat k.bits))))::σ) e L):O P N all (⟨some d,.binOp .shr t x y t',ty,pos,af,none⟩::rest) Q σ e L:=O.val _ (Val.shr h h1 h0) hd kk
theorem O.and (h:ev σ x=some (.int k m)) (h1:ev σ y=some (.int k n)) (hd:Nat.blt d N.n=true) (kk:O P N all rest Q ((d,.int k (Go.bits .and k m n))::σ) e L):O P N all (⟨some d,.binOp .and t x y t',ty,pos,af,none⟩::rest) Q σ e L:=O.val _ (Val.bits .and (by decide) h h1) hd kk
theorem O.or (h:ev σ x=some (.int k m)) (h1:ev σ y=some (.int k n)) (hd:Nat.blt d N.n=true) (kk:O P N all rest Q ((d,.int k (Go.bits .or k m n))::σ) e L):O P N all (⟨some d,.binOp .or t x y t',ty,pos,af,none⟩::rest) Q σ e L:=O.val _ (Val.bits .or (by decide) h h1) hd kk
theorem O.convInt {s:TypeId} [i:IntT P s k] [j:IntT P t k'] (h:ev σ x=some (.int k m)) (hd:Nat.blt d N.n=true) (kk:O P N all rest Q ((d,.int k' (k'.wrap m))::σ) e L):O P N all (⟨some d,.convert s t x,ty,pos,af,none⟩::rest) Q σ e L:=O.val _ (Val.convInt h) hd kk
theorem O.bytes {T el n:Nat} {l:List UInt8} [i:SlT P t el n] [j:IntT P el .u8] [s:StrT P T] (h:ev σ x=some v) (r:RdB L v l) (hd:Nat.blt d N.n=true) (kk:O P N all rest Q ((d,.string (str l))::σ) e L):O P N all (⟨some d,.convert t T x,ty,pos,af,none⟩::rest) Q σ e L:=O.val _ (Val.bytes h r) hd kk
theorem O.eqlStr_t {a b:List UInt8} (h:ev σ x=some (.string (str a))) (h1:ev σ y=some (.string (str b))) (hp:a=b) (hd:Nat.blt d N.n=true) (kk:O P N all rest Q ((d,.bool true)::σ) e L):O P N all (⟨some d,.binOp .eql t x y t',ty,pos,af,none⟩::rest) Q σ e L:=O.val _ (Val.yes (Val.eqlStr h h1) hp) hd kk
theorem O.eqlStr_f {a b:List UInt8} (h:ev σ x=some (.string (str a))) (h1:ev σ y=some (.string (str b))) (hp:¬ (a=b)) (hd:Nat.blt d N.n=true) (kk:O P N all rest Q ((d,.bool false)::σ) e L):O P N all (⟨some d,.binOp .eql t x y t',ty,pos,af,none⟩::rest) Q σ e L:=O.val _ (Val.no (Val.eqlStr h h1) hp) hd kk
theorem O.indexAddr1 {el l c g o i:Nat} [s:SlT P t el 1] (h:ev σ x=some (.slice (some ⟨g,o,none⟩) l c)) (h1:ev σ y=some (.int k (i:Int))) (hl:i<l) (hd:Nat.blt d N.n=true) (kk:O P N all rest Q ((d,.pointer (some ⟨g,o+i,none⟩))::σ) e L):O P N all (⟨some d,.indexAddr t x y,ty,pos,af,none⟩::rest) Q σ e L:=O.val _ (by have:=Val.indexAddrN (P:=P) (N:=N) (ty:=ty) (e:=e) (L:=L) (t:=t) h h1 hl;rwa [Nat.mul_one] at this) hd kk
theorem O.indexAddrN {el n l c g o i:Nat} [s:SlT P t el n] (h:ev σ x=some (.slice (some ⟨g,o,none⟩) l c)) (h1:ev σ y=some (.int k (i:Int))) (hl:i<l) (hd:Nat.blt d N.n=true) (kk:O P N all rest Q ((d,.pointer (some ⟨g,o+i*n,none⟩))::σ) e L):O P N all (⟨some d,.indexAddr t x y,ty,pos,af,none⟩::rest) Q σ e L:=O.val _ (Val.indexAddrN h h1 hl) hd kk
theorem O.indexAddr {el n l c g o:Nat} {i:Int} [s:SlT P t el n] (h:ev σ x=some (.slice (some ⟨g,o,none⟩) l c)) (h1:ev σ y=some (.int k i)) (h0:0≤i) (hl:i<l) (hd:Nat.blt d N.n=true) (kk:O P N all rest Q ((d,.pointer (some ⟨g,o+i.toNat*n,none⟩))::σ) e L):O P N all (⟨some d,.indexAddr t x y,ty,pos,af,none⟩::rest) Q σ e L:=O.val _ (Val.indexAddr h h1 h0 hl) hd kk
theorem O.sliceHi {el n l c:Nat} {ad:Option Addr} {i:Int} [s:SlT P t el n] (h:ev σ x=some (.slice ad l c)) (h1:ev σ y=some (.int k i)) (h0:0≤i) (hl:i≤c) (hd:Nat.blt d N.n=true) (kk:O P N all rest Q ((d,.slice ad i.toNat c)::σ) e L):O P N all (⟨some d,.slice t x none (some y) none,ty,pos,af,none⟩::rest) Q σ e L:=O.val _ (Val.sliceHi h h1 h0 hl) hd kk
theorem O.sliceLo {el n l c:Nat} {ad:Option Addr} {i:Int} [s:SlT P t el n] (h:ev σ x=some (.slice ad l c)) (h1:ev σ y=some (.int k i)) (h0:0≤i) (hl:i≤l) (hd:Nat.blt d N.n=true) (kk:O P N all rest Q ((d,.slice (cutAt ad c i.toNat n) (l - i.toNat) (c - i.toNat))::σ) e L):O P N all (⟨some d,.slice t x (some y) none none,ty,pos,af,none⟩::rest) Q σ e L:=O.val _ (Val.sliceLo h h1 h0 hl) hd kk
theorem O.sliceLoHi {el n l c:Nat} {ad:Option Addr} {i j:Int} [s:SlT P t el n] (h:ev σ x=some (.slice ad l c)) (h1:ev σ y=some (.int k i)) (h2:ev σ z=some (.int k' j)) (h0:0≤i) (hl:i≤j) (hj:j≤c) (hd:Nat.blt d N.n=true) (kk:O P N all rest Q ((d,.slice (cutAt ad c i.toNat n) (j.toNat - i.toNat) (c - i.toNat))::σ) e L):O P N all (⟨some d,.slice t x (some y) (some z) none,ty,pos,af,none⟩::rest) Q σ e L:=O.val _ (Val.sliceLoHi h h1 h2 h0 hl hj) hd kk
theorem O.build {places:Array (Nat × Nat)} {z:Array Value} {cells:List Value} {parts:List (Nat × Operand)} {vs:List (Nat × Value)} [i:BuildT P t places z] (h:evp σ parts=some vs) (hc:Instr.fill (places[·]?) z vs=some cells.toArray) (hd:Nat.blt d N.n=true) (kk:O P N all rest Q ((d,.agg cells.toArray)::σ) e L):O P N all (⟨some d,.build t parts.toArray,ty,pos,af,none⟩::rest) Q σ e L:=O.val _ (Val.build h hc) hd kk
theorem O.max (h:ev σ x=some (.int k m)) (h1:ev σ y=some (.int k' n)) {ats:Array TypeId} (hd:Nat.blt d N.n=true) (kk:O P N all rest Q ((d,.int k (if n > m then n else m))::σ) e L):O P N all (⟨some d,.call { callee:=.builtin .max,args:=#[x,y],argTypes:=ats },ty,pos,af,none⟩::rest) Q σ e L:=O.val _ (Val.max h h1) hd kk
theorem O.store {g off:Nat} {cs cs':List Value} {T:TypeId} {L':List Res} [i:PlainT P t] (h:ev σ x=some (.pointer (some ⟨g,off,none⟩))) (h1:ev σ y=some v) (hv:v.oneCell'=true) (u:Upd L (Blk g cs T (0,0)) (Blk g cs' T (0,0)) L') (hset:SetAt cs off v cs') (kk:O P N all rest Q σ e L'):O P N all (⟨none,.store t x y,ty,pos,af,none⟩::rest) Q σ e L:=O.do (Do.store h h1 hv u hset kk)
theorem O.box {cs:List Value} (h:ev σ x=some v) (hc:v.cells=cs.toArray) (hd:Nat.blt d N.n=true) (kk:∀ g,O P N all rest Q ((d,.pointer (some ⟨g,0,none⟩))::σ) e (Blk g cs t (0,0)::L)):O P N all (⟨some d,.box t x,ty,pos,af,none⟩::rest) Q σ e L:=O.do (Do.box h hc hd kk)
theorem O.alloc {z:Value} {cs:List Value} [i:ZeroT P t z] (hc:z.cells=cs.toArray) (hd:Nat.blt d N.n=true) (kk:∀ g,O P N all rest Q ((d,.pointer (some ⟨g,0,none⟩))::σ) e (Blk g cs t (0,0)::L)):O P N all (⟨some d,.alloc t,ty,pos,af,none⟩::rest) Q σ e L:=O.do (Do.alloc hc hd kk)
theorem O.buildSlice {el n len b:Nat} {z:Value} {parts:List (Nat × Operand)} {vs:List (Nat × Value)} {cs:List Value} [i:SlT P t el n] [j:ElT P el z n b] (h:evp σ parts=some vs) (hn:Nat.ble (len*n) 16777216=true) (hlen:vs.length=len) (hc:Parts n 0 vs cs) (hz:z.cells.size=n) (hd:Nat.blt d N.n=true) (kk:∀ g,O P N all rest Q ((d,.slice (some ⟨g,0,none⟩) len len)::σ) e (Blk g cs el (0,0)::L)):O P N all (⟨some d,.buildSlice t len parts.toArray,ty,pos,af,none⟩::rest) Q σ e L:=O.do (Do.buildSlice h hd hn hlen hc hz kk)
theorem O.convSl {el n g o l c:Nat} {cs:List Value} {T:TypeId} {L':List Res} [i:SlT P t el n] [j:IntT P el .u8] (hx:ev σ x=some (.slice (some ⟨g,o,none⟩) l c)) (u:Upd L (Blk g cs T (0,0)) (Blk g cs T (cs.length,cs.length+1)) L') (hd:Nat.blt d N.n=true) (kk:O P N all rest Q ((d,.slice (some ⟨g,o,none⟩) l c)::σ) e L'):O P N all (⟨some d,.convert t t x,ty,pos,af,none⟩::rest) Q σ e L:=O.do (Do.convSl hx hd u kk)
theorem O.call {f g:FuncId} {xs:List Operand} {vs:List Value} {ats:Array TypeId} {Post:Value→List Res→Prop} [i:CallT P f g] (hx:evs σ xs=some vs) (hd:Nat.blt d N.n=true) (h:Ct P g vs.toArray e L Post) (kk:∀ v L',Post v L'→O P N all rest Q ((d,v)::σ) e L'):O P N all (⟨some d,.call { callee:=.value (.func f),args:=xs.toArray,argTypes:=ats },ty,pos,af,none⟩::rest) Q σ e L:=O.do (Do.call hx hd h kk)
theorem O.rem (h:ev σ x=some (.int k m)) (h1:ev σ y=some (.int k n)) (h0:n≠0) (hd:Nat.blt d N.n=true) (kk:O P N all rest Q ((d,.int k (m.tmod n))::σ) e L):O P N all (⟨some d,.binOp .rem t x y t',ty,pos,af,none⟩::rest) Q σ e L:=O.val _ (Val.rem h h1 h0) hd kk
theorem O.quo (h:ev σ x=some (.int k m)) (h1:ev σ y=some (.int k n)) (h0:n≠0) (hd:Nat.blt d N.n=true) (kk:O P N all rest Q ((d,.int k (k.wrap (m.tdiv n)))::σ) e L):O P N all (⟨some d,.binOp .quo t x y t',ty,pos,af,none⟩::rest) Q σ e L:=O.val _ (Val.quo h h1 h0) hd kk
theorem O.extract {vs:List Value} {i:Nat} (h:ev σ x=some (.tuple vs.toArray)) (hv:nth vs i=some v) (hd:Nat.blt d N.n=true) (kk:O P N all rest Q ((d,v)::σ) e L):O P N all (⟨some d,.extract x i,ty,pos,af,none⟩::rest) Q σ e L:=O.val _ (Val.extract h hv) hd kk
theorem O.makeFunc {f:FuncId} {xs ys:List Operand} {us vs:List Value} (h:evs σ xs=some us) (h1:evs σ ys=some vs) (hd:Nat.blt d N.n=true) (kk:O P N all rest Q ((d,.func (.func f) us.toArray vs.toArray)::σ) e L):O P N all (⟨some d,.makeFunc (.func f) xs.toArray ys.toArray,ty,pos,af,none⟩::rest) Q σ e L:=O.val _ (Val.makeFunc h h1) hd kk
theorem O.storeOwn {g c kk nn off:Nat} {E:TypeId} {xs:List Value} {R:List Res} [i:PlainT P t] (h:ev σ x=some (.pointer (some ⟨g,off,none⟩))) (h1:ev σ y=some v) (hv:v.oneCell'=true)
 (p:Pull L (Own E nn (.slice (some ⟨g,0,none⟩) kk c) kk xs) R) (ho:off<kk*nn) (k:O P N all rest Q σ e (Own E nn (.slice (some ⟨g,0,none⟩) kk c) kk (xs.set off v)::R)):O P N all (⟨none,.store t x y,ty,pos,af,none⟩::rest) Q σ e L:=O.do (Do.storeOwn h h1 hv p ho k)
theorem O.storeAgg {nn g off:Nat} {vs cs cs':List Value} {T:TypeId} {L':List Res} [i:AggT P t nn] (h:ev σ x=some (.pointer (some ⟨g,off,none⟩))) (h1:ev σ y=some (.agg vs.toArray)) (hn:vs.length=nn) (hv:∀ v∈vs,v.oneCell'=true)
 (u:Upd L (Blk g cs T (0,0)) (Blk g cs' T (0,0)) L') (hset:SetAts cs off vs cs') (kk:O P N all rest Q σ e L'):O P N all (⟨none,.store t x y,ty,pos,af,none⟩::rest) Q σ e L:=O.do (Do.storeAgg h h1 hn hv u hset kk)
theorem O.callV {f g:FuncId} {us ws:List Value} {xs:List Operand} {vs:List Value} {ats:Array TypeId} {Post:Value→List Res→Prop} [i:CallT P f g] (hf:ev σ x=some (.func (.func f) us.toArray ws.toArray)) (hx:evs σ xs=some vs) (hd:Nat.blt d N.n=true) (h:Ct P g (us++vs++ws).toArray e L Post) (kk:∀ v L',Post v L'→O P N all rest Q ((d,v)::σ) e L'):O P N all (⟨some d,.call { callee:=.value x,args:=xs.toArray,argTypes:=ats },ty,pos,af,none⟩::rest) Q σ e L:=O.do (Do.callV hf hx hd h kk)
theorem RdSl.elemOf {α:Type} {f:α→List Value} {L:List Res} {nn kk c g o i:Nat} {l:List α} {a:α} {u:Value} (r:RdSl L nn (.slice (some ⟨g,o,none⟩) kk c) kk (l.flatMap f)) (hf:∀ a,(f a).length=nn) {j:Nat} (hj:l[j]?=some a) (hi:(f a)[i]?=some u):Rd L ⟨g,o+j*nn+i,none⟩ u:=by
 have hlt:i<nn:=by rw [← hf a];exact (List.getElem?_eq_some_iff.1 hi).1
 have key:∀ (l:List α) (j:Nat),l[j]?=some a→(l.flatMap f)[j*nn+i]?=some u:=by
  intro l
  induction l with
  | nil=>intro j h;simp at h
  | cons b l ih =>
   intro j h;rw [List.flatMap_cons]
   cases j with
   | zero =>
    simp only [List.getElem?_cons_zero,Option.some.injEq] at h
    subst h;rw [List.getElem?_append_left (by rw [hf];omega)]
    simpa using hi
   | succ j =>
    rw [List.getElem?_append_right (by rw [hf,Nat.add_mul];omega),hf];rw [show (j+1)*nn+i - nn=j*nn+i by rw [Nat.add_mul];omega];exact ih j (by simpa using h)
 have:=RdSl.elem r (key l j hj)
 rwa [← Nat.add_assoc] at this
end
end Go.Bs
