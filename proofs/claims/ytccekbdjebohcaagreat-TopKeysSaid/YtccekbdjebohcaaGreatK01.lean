/- Part 1 of a proof of this: TopKeys returns true for any arguments; nothing of the old memory is turned. No condition. -/
import Derived.WalkKit
import Derived.OrdersHeld
import Derived.Laws.BytesArg
import Derived.KernelRfl
import Derived.Laws.MakeOwn
import Derived.Laws.CopyRow
import Derived.Laws.IdiomCopy
import Derived.Test.YtccekbdjebohcaaGreatProg
import Derived.Test.YtccekbdjebohcaaGreatRows
import Derived.ProofKit
import Derived.OpenShut
import Derived.SizedLaws
import Derived.RangeFuncRecord
import Derived.RangeFuncSeq
import Derived.TacticsIn
import Derived.MapKept
import Derived.DeepKeys
import Derived.DeepKeys3
set_option linter.unusedVariables false
set_option linter.unusedSimpArgs false
theorem aa {α:Type _} {l m:List α}:(l++m).length=l.length+m.length:=List.length_append
theorem ab {α:Type _} {l:List α} {i:Nat} (h:i<l.length):l[i]?=some l[i]:=List.getElem?_eq_getElem h
theorem ae {α:Type _} {β:Type _} {l:List α} (f:α→β):(l.map f).length=l.length:=List.length_map f
theorem ah {α:Type _} {β:Type _} {f:α→β} {l₁ l₂:List α}:(l₁++l₂).map f=l₁.map f++l₂.map f:=List.map_append
theorem aj {α:Type _} {a:α}:[a].length=1:=List.length_singleton
theorem an {α:Type _} {a b:α}:a∈[b]↔a=b:=List.mem_singleton
theorem aq {p:Prop} [inst:Decidable p] (h:¬p):decide p=false:=decide_eq_false h
theorem ax {α:Type _} {l:List α} {i:Nat} {a:α}:l.getD i a=l[i]?.getD a:=List.getD_eq_getElem?_getD
theorem ay {p:Prop} [inst:Decidable p] (h:p):decide p=true:=decide_eq_true h
theorem az {α:Type _} {l:List α} {i:Nat} {a:α} (h:l[i]?=some a):a∈l:=List.mem_of_getElem? h
theorem aA {α:Type _} {l:List α} {n:Nat} (h:n<l.length):l[n]∈l:=List.getElem_mem h
theorem aB {c:Prop} {h:Decidable c} (hnc:¬c) {α:Sort _} {t e:α}:(if c then t else e)=e:=if_neg hnc
theorem aC (n:Nat):0+n=n:=Nat.zero_add n
theorem aD {α:Type _} {i:Nat} {l:List α} (h:i<l.length):l.take (i+1)=l.take i++[l[i]]:=List.take_succ_eq_append_getElem h
theorem aE {α:Type _} {β:Type _} {b:β} {f:α→β} {l:List α}:b∈l.map f↔∃ a,a∈l∧f a=b:=List.mem_map
theorem aF {α:Type _} {i:Nat} {l:List α}:(l.take i).length=min i l.length:=List.length_take
theorem aG {α:Type _} {i:Nat} {l:List α} (h:l.length≤i):l.take i=l:=List.take_of_length_le h
theorem aH (n:Nat):0≤n:=Nat.zero_le n
theorem aI {c:Prop} {h:Decidable c} (hc:c) {α:Sort _} {t e:α}:(if c then t else e)=t:=if_pos hc
theorem aJ {α:Type _} {a:α} {s t:List α}:a∈s++t↔a∈s∨a∈t:=List.mem_append
theorem aK {α:Type _} (l:List α):l++[]=l:=List.append_nil l
theorem aL {α:Type _} {β:Type _} {f:α→β} {l:List α} {i:Nat}:(l.map f)[i]?=l[i]?.map f:=List.getElem?_map
theorem aM {α:Type _} (l m n:List α):l++m++n=l++(m++n):=List.append_assoc l m n
theorem aN {α:Type _} {a:α} {l:List α}:(a::l).length=l.length+1:=List.length_cons
theorem aO {α:Type _} {i:Nat} {l:List α}:(l.drop i).length=l.length-i:=List.length_drop
theorem aP {α:Type _} {a:α}:¬a∈([]:List α):=List.not_mem_nil
theorem aQ {α:Type _} {b:α} {l:List α} {a:α}:a∈b::l↔a=b∨a∈l:=List.mem_cons
theorem aR {α:Type _} {i:Nat} {a:α} {l:List α} (h:a∈l.take i):a∈l:=List.mem_of_mem_take h
theorem aS (n:Nat):n≤n:=Nat.le_refl n
theorem aT {α:Type _} (y:α) {a:α} {l:List α} (h:a∈l):a∈y::l:=List.mem_cons_of_mem y h
theorem aU {α:Type _} {β:Type _} {x:α} {xs:List α} {f:α→List β}:(x::xs).flatMap f=f x++xs.flatMap f:=List.flatMap_cons
theorem aV {α:Type _} {a:α} {i:Nat} {l:List α} (h:a∈l.drop i):a∈l:=List.mem_of_mem_drop h
theorem aW {α:Type _} {β:Type _} {xs ys:List α} {f:α→List β}:(xs++ys).flatMap f=xs.flatMap f++ys.flatMap f:=List.flatMap_append
namespace Go.Bs
abbrev dj:=Nat→Option Obj
def dj.le (h k:dj):Prop:=∀ b o,h b=some o→k b=some o
def dj.apart (h k:dj):Prop:=∀ b o,h b=some o→k b=none
def dj.both (h k:dj):dj:=fun b=>(h b).or (k b)
theorem dj.le_refl (h:dj):dj.le h h:=fun _ _ e=>e
theorem dj.le_trans {h k l:dj} (a:dj.le h k) (b:dj.le k l):dj.le h l:=fun _ _ e=>b _ _ (a _ _ e)
theorem dj.kS {h k:dj} (a:dj.apart h k):dj.apart k h:=fun b o e=>by
 cases hb:h b with
 | none=>rfl
 | some o'=>rw [a b o' hb] at e;cases e
theorem dj.kj {h h' k k':dj} (a:dj.apart h k) (b:dj.le h' h) (c:dj.le k' k):dj.apart h' k':=fun i o e=>by
 cases hb:k' i with
 | none=>rfl
 | some o'=>have h1:=c i o' hb;rw [a i o (b _ _ e)] at h1;cases h1
theorem dj.B5 (h k:dj):dj.le h (dj.both h k):=fun b o e=>by simp [dj.both,e]
theorem dj.xI {h k:dj} (a:dj.apart h k):dj.le k (dj.both h k):=fun b o e=>by
 simp [dj.both,dj.kS a b o e,e]
theorem dj.B6 {h k l:dj} (a:dj.le h l) (b:dj.le k l):dj.le (dj.both h k) l:=fun i o e=>by
 simp only [dj.both] at e
 cases hb:h i with
 | none=>rw [hb] at e;exact b _ _ (by simpa using e)
 | some o'=>rw [hb] at e;simp at e;subst e;exact a _ _ hb
theorem dj.rV {h k l:dj} (a:dj.apart h l) (b:dj.apart k l):dj.apart (dj.both h k) l:=fun i o e=>by
 simp only [dj.both] at e
 cases hb:h i with
 | none=>rw [hb] at e;exact b _ _ (by simpa using e)
 | some o'=>exact a _ _ hb
abbrev cJ:=dj→Prop
def dN:List cJ→dj→Prop
 | [],_=>True
 | A::L,h=>∃ h1 h2,dj.apart h1 h2∧dj.le h1 h∧dj.le h2 h∧A h1∧dN L h2
theorem AP:∀ {L:List cJ} {h k:dj},dj.le h k→dN L h→dN L k
 | [],_,_,_,_=>trivial
 | _::_,_,_,hk,⟨h1,h2,a,b,c,d,e⟩=>⟨h1,h2,a,dj.le_trans b hk,dj.le_trans c hk,d,e⟩
theorem nN {A B:cJ} {L:List cJ} {h:dj}:dN (A::B::L) h→dN (B::A::L) h:=by
 rintro ⟨h1,h2,a,b,c,hA,h3,h4,a',b',c',hB,hL⟩;refine ⟨h3,dj.both h1 h4,?_,dj.le_trans b' c,dj.B6 b (dj.le_trans c' c),hB,h1,h4,?_,dj.B5 _ _,dj.xI ?_,hA,hL⟩
 ·exact dj.kS (dj.rV (dj.kj a (dj.le_refl _) b') (dj.kS a'))
 ·exact dj.kj a (dj.le_refl _) c'
 ·exact dj.kj a (dj.le_refl _) c'
theorem kT {A:cJ} {L L':List cJ} {h:dj} (f:∀ k,dN L k→dN L' k):dN (A::L) h→dN (A::L') h:=by
 rintro ⟨h1,h2,a,b,c,hA,hL⟩;exact ⟨h1,h2,a,b,c,hA,f _ hL⟩
theorem mw {A B:cJ} {L:List cJ} {h:dj} (f:∀ k,A k→B k):dN (A::L) h→dN (B::L) h:=by
 rintro ⟨h1,h2,a,b,c,hA,hL⟩;exact ⟨h1,h2,a,b,c,f _ hA,hL⟩
theorem uZ {A:cJ} {L:List cJ} {h:dj}:dN (A::L) h→dN L h:=by
 rintro ⟨_,_,_,_,c,_,hL⟩;exact AP c hL
def cz (L L':List cJ):Prop:=∀ h,dN L h→dN L' h
theorem aX {L:List cJ}:cz L L:=fun _ h=>h
theorem cz.trans {A B C:List cJ} (f:cz A B) (g:cz B C):cz A C:=fun h x=>g h (f h x)
theorem cj {A B C:List cJ} (f:cz A B) (g:cz B C):cz A C:=cz.trans f g
theorem bh {A:cJ} {L L':List cJ} (f:cz L L'):cz (A::L) (A::L'):=fun _=>kT f
theorem cz.drop {A:cJ} {L L':List cJ} (f:cz L L'):cz (A::L) L':=fun h x=>f h (uZ x)
theorem bF {L:List cJ}:cz L []:=fun _ _=>trivial
inductive cR:List cJ→cJ→List cJ→Prop
 | zero {A:cJ} {L:List cJ}:cR (A::L) A L
 | succ {A B:cJ} {L R:List cJ}:cR L A R→cR (B::L) A (B::R)
theorem cR.out {L R:List cJ} {A:cJ} (p:cR L A R):cz L (A::R):=by
 induction p with
 | zero=>exact aX
 | succ _ ih=>exact fun h x=>nN (kT ih x)
theorem cR.back {L R:List cJ} {A:cJ} (p:cR L A R):cz (A::R) L:=by
 induction p with
 | zero=>exact aX
 | succ _ ih=>exact fun h x=>kT ih (nN x)
theorem bw {L R L':List cJ} {A:cJ} (p:cR L A R) (f:cz R L'):cz L (A::L'):=fun h x=>kT f (p.out h x)
inductive wb:List cJ→cJ→cJ→List cJ→Prop
 | zero {A A':cJ} {L:List cJ}:wb (A::L) A A' (A'::L)
 | succ {A A' B:cJ} {L L':List cJ}:wb L A A' L'→wb (B::L) A A' (B::L')
theorem wb.split {L L':List cJ} {A A':cJ} (u:wb L A A' L'):∃ R,cz L (A::R)∧cz (A'::R) L':=by
 induction u with
 | zero=>exact ⟨_,aX,aX⟩
 | succ _ ih =>
  obtain ⟨R,f,g⟩:=ih;exact ⟨_::R,fun h x=>nN (kT f x),fun h x=>kT g (nN x)⟩
def dI (L:List cJ):cJ:=dN L
def Ex {α:Sort _} (f:α→cJ):cJ:=fun h=>∃ x,f x h
def Pu (p:Prop):cJ:=fun _=>p
theorem cT {M L:List cJ}:cz (dI M::L) (M++L):=by
 induction M with
 | nil=>exact fun h x=>uZ x
 | cons A M ih =>
  rintro h ⟨h1,h2,a,b,c,⟨h3,h4,a',b',c',hA,hM⟩,hL⟩;refine ⟨h3,dj.both h4 h2,?_,dj.le_trans b' b,dj.B6 (dj.le_trans c' b) c,hA,ih _ ⟨h4,h2,dj.kj a c' (dj.le_refl _),dj.B5 _ _,dj.xI (dj.kj a c' (dj.le_refl _)),hM,hL⟩⟩;exact dj.kS (dj.rV (dj.kS a') (dj.kS (dj.kj a b' (dj.le_refl _))))
theorem dR {M L:List cJ}:cz (M++L) (dI M::L):=by
 induction M with
 | nil =>
  intro h x;exact ⟨fun _=>none,h,fun _ _ e=>by simp at e,fun _ _ e=>by simp at e,dj.le_refl _,trivial,x⟩
 | cons A M ih =>
  rintro h ⟨h1,h2,a,b,c,hA,hL⟩;obtain ⟨h3,h4,a',b',c',hM,hR⟩:=ih _ hL;refine ⟨dj.both h1 h3,h4,dj.rV (dj.kj a (dj.le_refl _) c') a',dj.B6 b (dj.le_trans b' c),dj.le_trans c' c,?_,hR⟩;exact ⟨h1,h3,dj.kj a (dj.le_refl _) b',dj.B5 _ _,dj.xI (dj.kj a (dj.le_refl _) b'),hA,hM⟩
theorem xJ {α:Sort _} {f:α→cJ} {L:List cJ} {h:dj} (x:dN (Ex f::L) h):∃ y,dN (f y::L) h:=by
 obtain ⟨h1,h2,a,b,c,⟨y,hy⟩,d⟩:=x;exact ⟨y,h1,h2,a,b,c,hy,d⟩
theorem fu {α:Sort _} {f:α→cJ} {L:List cJ} (y:α):cz (f y::L) (Ex f::L):=fun _=>mw fun _ h=>⟨y,h⟩
theorem jR {p:Prop} {L:List cJ} {h:dj} (x:dN (Pu p::L) h):p∧dN L h:=⟨x.choose_spec.choose_spec.2.2.2.1,uZ x⟩
theorem na {p:Prop} {L:List cJ} (hp:p):cz L (Pu p::L):=fun h x =>
 ⟨fun _=>none,h,fun _ _ e=>by simp at e,fun _ _ e=>by simp at e,dj.le_refl _,hp,x⟩
def Ob (g:Nat) (o:Obj):cJ:=fun h=>h g=some o
def cK (g:Nat) (cs:List Value) (T:TypeId) (fz:Nat × Nat):cJ:=Ob g (.cells cs.toArray T fz)
def nth:List Value→Nat→Option Value
 | [],_=>none
 | v::_,0=>some v
 | _::l,n+1=>nth l n
theorem iP:∀ (l:List Value) (n:Nat),nth l n=l[n]?
 | [],_=>by simp [nth]
 | _::_,0=>by simp [nth]
 | _::l,n+1=>by simp [nth,iP l n]
inductive gx:List Value→Nat→Value→List Value→Prop
 | zero {x v:Value} {l:List Value}:gx (x::l) 0 v (v::l)
 | succ {x v:Value} {l l':List Value} {n:Nat}:gx l n v l'→gx (x::l) (n+1) v (x::l')
theorem gx.eq {l l':List Value} {n:Nat} {v:Value} (h:gx l n v l'):l'=l.set n v∧n<l.length:=by
 induction h with
 | zero=>simp
 | succ _ ih=>exact ⟨by simp [ih.1],by simp [ih.2]⟩
theorem gx.of {l:List Value} {n:Nat} (v:Value) (h:n<l.length):gx l n v (l.set n v):=by
 induction l generalizing n with
 | nil=>simp at h
 | cons x l ih =>
  cases n with
  | zero=>exact .zero
  | succ n=>exact .succ (ih (by simpa using h))
def eY (w0:World):cJ:=fun h=>∀ b,b<w0.heap.size→h b=w0.heap[b]?
def hp (w:World):dj:=fun b=>w.heap[b]?
def Sat (e:World) (L:List cJ) (w:World):Prop:=w.os=e.os∧w.tape=e.tape∧w.output=e.output∧dN L (hp w)
theorem Sat.cL {e:World} {L L':List cJ} {w:World} (h:Sat e L w) (f:cz L L'):Sat e L' w:=⟨h.1,h.2.1,h.2.2.1,f _ h.2.2.2⟩
theorem Sat.drawn {e:World} {L:List cJ} {w:World} (h:Sat e L w) (n:Nat):Sat e L { w with drawn:=n }:=h
def dj.cell (h:dj) (a:Addr):Option Value :=
 match h a.block with
 | some (.cells c _ _)=>if a.spot.isSome then none else c[a.off]?
 | _=>none
theorem OA (w:World) (a:Addr):w.cell? a=(hp w).cell a:=rfl
theorem dj.xt {h k:dj} (l:dj.le h k) {a:Addr} {v:Value} (x:h.cell a=some v):k.cell a=some v:=by
 unfold dj.cell at *
 cases hb:h a.block with
 | none=>rw [hb] at x;cases x
 | some o=>rw [l _ _ hb];rw [hb] at x;exact x
def Rd (L:List cJ) (p:Addr) (v:Value):Prop:=∀ h,dN L h→h.cell p=some v
theorem Rd.at {L:List cJ} {p:Addr} {v:Value} {e w:World} (r:Rd L p v) (h:Sat e L w):w.cell? p=some v:=r _ h.2.2.2
theorem Rd.cL {L L':List cJ} {p:Addr} {v:Value} (r:Rd L' p v) (f:cz L L'):Rd L p v:=fun h x=>r h (f h x)
theorem Rd.tail {A:cJ} {L:List cJ} {p:Addr} {v:Value} (r:Rd L p v):Rd (A::L) p v:=r.cL (cz.drop aX)
theorem bP {L R:List cJ} {g off:Nat} {cs:List Value} {T:TypeId} {fz:Nat × Nat} {v:Value} (p:cR L (cK g cs T fz) R) (hv:nth cs off=some v):Rd L ⟨g,off,none⟩ v:=by
 intro h x;obtain ⟨h1,h2,a,b,c,hA,hL⟩:=p.out h x;refine dj.xt b ?_;unfold dj.cell;rw [show h1 g=_ from hA];rw [iP] at hv
 simpa using hv
theorem Rd.base {L R:List cJ} {w0:World} {p:Addr} {v:Value} (q:cR L (eY w0) R) (hv:w0.cell? p=some v):Rd L p v:=by
 intro h x;obtain ⟨h1,h2,a,b,c,hA,hL⟩:=q.out h x;refine dj.xt b ?_;have cO:=World.block_lt_of_cell? w0 p hv;unfold dj.cell;rw [hA p.block cO];exact hv
theorem Sat.alloc {e:World} {L:List cJ} {w:World} (h:Sat e L w) (o:Obj):Sat e (Ob w.heap.size o::L) (w.alloc o):=by
 refine ⟨h.1,h.2.1,h.2.2.1,fun b=>if b=w.heap.size then some o else none,hp w,?_,?_,?_,by simp [Ob],h.2.2.2⟩
 ·intro b o' hb
  by_cases e:b=w.heap.size
  ·subst e;simp [hp]
  ·simp [e] at hb
 ·intro b o' hb
  by_cases e:b=w.heap.size
  ·subst e;simp at hb;subst hb;exact heap_alloc_new w o
  ·simp [e] at hb
 ·intro b o' hb;have cO:b<w.heap.size:=(Array.getElem?_eq_some_iff.1 hb).1;exact (heap_alloc_old (w:=w) (o:=o) (h:=cO)).trans hb
theorem Sat.change {e:World} {A A':cJ} {R:List cJ} {w w':World} (h:Sat e (A::R) w) (hos:w'.os=w.os) (UB:w'.tape=w.tape) (lu:w'.output=w.output)
 (f:∀ h1:dj,dj.le h1 (hp w)→A h1→∃ Dz:dj,dj.le Dz (hp w')∧A' Dz∧(∀ b o,Dz b=some o→h1 b=none→hp w b=none)∧(∀ b,h1 b=none→∀ o,hp w b=some o→hp w' b=some o)) :
 Sat e (A'::R) w':=by
 obtain ⟨h0,Dz,TR,k1,k2,a,b,c,hA,hR⟩:=h;obtain ⟨k1',l,AQ,fr,kp⟩:=f k1 b hA;refine ⟨hos.trans h0,UB.trans Dz,lu.trans TR,k1',k2,?_,l,?_,AQ,hR⟩
 ·intro i o hi
  cases hk:k1 i with
  | some o'=>exact a i o' hk
  | none =>
   have hn:=fr i o hi hk
   cases h2:k2 i with
   | none=>rfl
   | some o'=>rw [c i o' h2] at hn;cases hn
 ·intro i o hi;refine kp i ?_ o (c i o hi)
  cases hk:k1 i with
  | none=>rfl
  | some o'=>rw [a i o' hk] at hi;cases hi
theorem Sat.setCell {e:World} {R:List cJ} {w:World} {g off:Nat} {cs:List Value} {T:TypeId} {fz:Nat × Nat} (h:Sat e (cK g cs T fz::R) w) (v:Value) :
 Sat e (cK g (cs.set off v) T fz::R) (w.setCell ⟨g,off,none⟩ v):=by
 refine h.change rfl rfl rfl fun h1 hle hA=>?_
 refine ⟨fun b=>if b=g then some (.cells (cs.set off v).toArray T fz) else none,?_,by simp [cK,Ob],?_,?_⟩
 ·intro b o hb
  by_cases e:b=g
  ·subst e
   simp at hb;subst hb
   have:=hle b _ hA;simp only [hp] at this ⊢
   simp [World.setCell,Array.getElem?_modify,this]
  ·simp [e] at hb
 ·intro b o hb hn
  by_cases e:b=g
  ·subst e;rw [show h1 b=_ from hA] at hn;cases hn
  ·simp [e] at hb
 ·intro b hn o ho;have:b≠g:=by rintro rfl;rw [show h1 b=_ from hA] at hn;cases hn
  simp only [hp] at ho ⊢
  simp [World.setCell,Array.getElem?_modify,this.symm,ho]
#print axioms Sat.setCell
end Go.Bs
namespace Go.Bs
abbrev Env:=List (Nat × Value)
def get:Env→Nat→Option Value
 | [],_=>none
 | (j,v)::r,k=>bif Nat.beq j k then some v else get r k
theorem fD (j:Nat) (v:Value) (r:Env) (k:Nat):get ((j,v)::r) k=if j=k then some v else get r k:=by
 show (bif Nat.beq j k then some v else get r k)=_
 cases h:Nat.beq j k with
 | true=>rw [aI (Nat.eq_of_beq_eq_true h)];rfl
 | false=>rw [aB (Nat.ne_of_beq_eq_false h)];rfl
structure Fr where
 n:Nat
 ds:List Deferred
structure Has (N:Fr) (σ:Env) (a:Act):Prop where
 size:a.tmps.size=N.n
 defers:a.defers=N.ds
 val:∀ k v,get σ k=some v→a.tmps[k]?=some v
theorem Has.put {N:Fr} {σ:Env} {a:Act} {d:Nat} (h:Has N σ a) (hd:Nat.blt d N.n=true) (v:Value):Has N ((d,v)::σ) (a.put (some d) v):=by
 have cO:d<N.n:=by rw [← Nat.blt_eq];exact hd
 refine ⟨by simp [Act.put,h.size],h.defers,fun k u hk=>?_⟩;rw [fD] at hk
 by_cases e:d=k
 ·subst e;simp at hk;subst hk
  simp [Act.put,h.size,cO]
 ·rw [aB e] at hk
  simp only [Act.put];rw [Array.getElem?_setIfInBounds_ne e];exact h.val k u hk
theorem Has.sub {N:Fr} {σ σ':Env} {a:Act} (h:Has N σ a) (f:∀ k v,get σ' k=some v→get σ k=some v):Has N σ' a:=⟨h.size,h.defers,fun k v e=>h.val k v (f k v e)⟩
def ev (σ:Env):Operand→Option Value
 | .tmp t=>get σ t
 | .const v=>some v
 | .global g=>some (.pointer (some ⟨g,0,none⟩))
 | .func f=>some (.func (.func f) #[] #[])
theorem Has.ev {N:Fr} {σ:Env} {a:Act} {x:Operand} {v:Value} (h:Has N σ a) (e:ev σ x=some v):a.eval x=v:=by
 cases x with
 | tmp t=>have:=h.val t v e;simp [Act.eval,this]
 | const u=>simpa [Bs.ev,Act.eval] using e
 | global g=>simpa [Bs.ev,Act.eval] using e
 | func f=>simpa [Bs.ev,Act.eval] using e
def pZ (σ:Env):List Operand→Option (List Value)
 | []=>some []
 | x::r=>match ev σ x,pZ σ r with
  | some v,some vs=>some (v::vs)
  | _,_=>none
theorem Has.pZ {N:Fr} {σ:Env} {a:Act} (h:Has N σ a):∀ {xs:List Operand} {vs:List Value},pZ σ xs=some vs→xs.map a.eval=vs
 | [],vs,e=>by simpa [Bs.pZ] using e
 | x::r,vs,e=>by
  simp only [Bs.pZ] at e
  cases hx:Bs.ev σ x with
  | none=>rw [hx] at e;simp at e
  | some v =>
   cases hr:Bs.pZ σ r with
   | none=>rw [hx,hr] at e;simp at e
   | some us =>
    rw [hx,hr] at e;simp at e;subst e
    simp only [List.map_cons,h.ev hx,h.pZ hr]
abbrev fO:=Exit→Env→World→Prop
def WQ (N:Fr) (Q:fO):Exit→Act→World→Prop
 | .panic _,_,_=>False
 | .outgrown,_,_=>False
 | x,a,w=>∃ σ,Has N σ a∧Q x σ w
def km (K:Env→World→Prop) (Q:fO):fO
 | .normal,σ,w=>K σ w
 | x,σ,w=>Q x σ w
def jS (id:Nat) (Q:fO):fO
 | .exit i,σ,w=>if i=id then Q .normal σ w else Q (.exit i) σ w
 | x,σ,w=>Q x σ w
section
variable (P:Program) (N:Fr)
def W (c:Code) (Q:fO) (σ:Env) (e:World) (L:List cJ):Prop:=∀ a w,Has N σ a→Sat e L w→c.wp P (WQ N Q) a w
def Next (y:Code) (Q:fO):Env→World→Prop:=fun σ w=>∀ a,Has N σ a→y.wp P (WQ N Q) a w
def Fin (Q:fO) (x:Exit) (σ:Env) (e:World) (L:List cJ):Prop:=∀ w,Sat e L w→Q x σ w
def O (all:Array Oper) (l:List Oper) (Q:fO) (σ:Env) (e:World) (L:List cJ):Prop:=∀ a w,Has N σ a→Sat e L w→wpList P all (WQ N Q) l a w
def Do (o:Oper) (K:Env→List cJ→Prop) (σ:Env) (e:World) (L:List cJ):Prop :=
 ∀ a w,Has N σ a→Sat e L w→∀ (K':Act→World→Prop) (Q':Exit→Act→World→Prop),(∀ σ' L' a' w',K σ' L'→Has N σ' a'→Sat e L' w'→K' a' w')→o.wp P a w K' Q'
def cD (op:Op) (ty:TypeId) (v:Value) (σ:Env) (e:World) (L:List cJ):Prop :=
 ∀ a w,Has N σ a→Sat e L w→∀ dst pos af gd,(execOp a.eval ⟨dst,op,ty,pos,af,gd⟩).run P w=.ok (.value v) w
end
section
variable {P:Program} {N:Fr} {Q:fO} {σ:Env} {e:World} {L:List cJ}
theorem W.cL {c:Code} {L':List cJ} (h:W P N c Q σ e L') (f:cz L L'):W P N c Q σ e L:=fun a w ha hs=>h a w ha (hs.cL f)
theorem O.cL {all:Array Oper} {l:List Oper} {L':List cJ} (h:O P N all l Q σ e L') (f:cz L L'):O P N all l Q σ e L:=fun a w ha hs=>h a w ha (hs.cL f)
theorem W.env {c:Code} {σ':Env} (h:W P N c Q σ' e L) (f:∀ k v,get σ' k=some v→get σ k=some v):W P N c Q σ e L:=fun a w ha hs=>h a w (ha.sub f) hs
theorem W.mono {c:Code} {Q':fO} (h:W P N c Q' σ e L) (f:∀ x σ w,Q' x σ w→Q x σ w):W P N c Q σ e L:=fun a w ha hs =>
 Code.wp_mono (fun x a w q=>by cases x<;>first|exact q|exact q.elim fun σ' h=>⟨σ',h.1,f _ _ _ h.2⟩) (h a w ha hs)
theorem W.seq {x y:Code} (h:W P N x (km (Next P N y Q) Q) σ e L):W P N (.seq x y) Q σ e L:=fun a w ha hs =>
 wp_seq (Code.wp_mono (fun x a w q=>by
  cases x<;>first|exact q|exact q.elim fun σ' h=>h.2 a h.1) (h a w ha hs))
theorem W.skip (h:Fin Q .normal σ e L):W P N .skip Q σ e L:=fun _ w ha hs=>wp_skip ⟨σ,ha,h w hs⟩
theorem W.exit {id:Nat} (h:Fin Q (.exit id) σ e L):W P N (.exit id) Q σ e L:=fun _ w ha hs=>wp_exit ⟨σ,ha,h w hs⟩
theorem W.ret (h:Fin Q .ret σ e L):W P N .ret Q σ e L:=fun _ w ha hs=>wp_ret ⟨σ,ha,h w hs⟩
theorem W.block {id:Nat} {c:Code} (h:W P N c (jS id Q) σ e L):W P N (.block id c) Q σ e L:=fun a w ha hs =>
 wp_block (Code.wp_mono (fun x a w q=>by
  cases x with
  | exit i =>
   obtain ⟨σ',h1,h2⟩:=q;simp only [Exit.inBlock];simp only [jS] at h2
   split
   ·rename_i e;rw [aI e] at h2;exact ⟨σ',h1,h2⟩
   ·rename_i e;rw [aB e] at h2;exact ⟨σ',h1,h2⟩
  | _=>exact q) (h a w ha hs))
theorem W.cond {c:Operand} {x y:Code} {b:Bool} (hc:ev σ c=some (.bool b)) (ht:b=true→W P N x Q σ e L) (hf:b=false→W P N y Q σ e L):W P N (.cond c x y) Q σ e L:=fun a w ha hs =>
 wp_cond_split (t:=b) (ha.ev hc) (fun h=>ht h a w ha hs) (fun h=>hf h a w ha hs)
theorem W.Ri {c:Operand} {x y:Code} (hc:ev σ c=some (.bool true)) (ht:W P N x Q σ e L):W P N (.cond c x y) Q σ e L:=W.cond hc (fun _=>ht) (fun h=>by cases h)
theorem W.Rj {c:Operand} {x y:Code} (hc:ev σ c=some (.bool false)) (hf:W P N y Q σ e L):W P N (.cond c x y) Q σ e L:=W.cond hc (fun h=>by cases h) (fun _=>hf)
theorem W.region {id:Nat} {l:List Oper} (h:O P N l.toArray l Q σ e L):W P N (.region id l.toArray false) Q σ e L:=fun a w ha hs=>wp_region_lit (h a w ha hs)
def LM {ι:Type} (Iσ:ι→Env) (IL:ι→List cJ) (IP:ι→Prop) (μ:ι→Nat) (m:Nat) (e:World):Env→World→Prop:=fun σ' w'=>∃ j,IP j∧μ j<m∧(∀ k v,get (Iσ j) k=some v→get σ' k=some v)∧Sat e (IL j) w'
theorem bq {c:Code} {ι:Type} (Iσ:ι→Env) (IL:ι→List cJ) (IP:ι→Prop) (μ:ι→Nat) (i0:ι) (h0:IP i0)
 (hσ:∀ k v,get (Iσ i0) k=some v→get σ k=some v) (hL:cz L (IL i0))
 (round:∀ i,IP i→W P N c (km (LM Iσ IL IP μ (μ i) e) Q) (Iσ i) e (IL i)):W P N (.loop c) Q σ e L:=by
 intro a w ha hs b k cs;have key:∀ n i,IP i→μ i=n→∀ a w,Has N (Iσ i) a→Sat e (IL i) w →
  ∃ x a' w',WQ N Q x a' w'∧Arrives P (lone (b.at a (.code c::.inLoop c::k)) cs w) b k cs x a' w':=by
  intro n
  induction n using Nat.strongRecOn with
  | _ n ih =>
   intro i hi hn a w ha hs;obtain ⟨x,a1,w1,q,xK⟩:=round i hi a w ha hs b (.inLoop c::k) cs
   have out:x≠.normal→∃ x a' w',WQ N Q x a' w'∧Arrives P (lone (b.at a (.code c::.inLoop c::k)) cs w) b k cs x a' w':=fun hx=>by
    refine ⟨x,a1,w1,?_,.pass (x:=.inLoop c) rfl (fun _ _=>.inl hx) xK⟩
    cases x<;>first|exact absurd rfl hx|exact q
   by_cases hx:x=.normal
   ·subst hx;obtain ⟨σ',h1,j,hj,cO,l3,XX⟩:=q;obtain ⟨x2,a2,w2,q2,XY⟩:=ih (μ j) (hn ▸ cO) j hj rfl a1 w1 (h1.sub l3) XX;exact ⟨x2,a2,w2,q2,.of_steps (Steps.trans xK (.one step_inLoop)) XY⟩
   ·exact out hx
 obtain ⟨x,a',w',q,xK⟩:=key _ i0 h0 rfl a w (ha.sub hσ) (hs.cL hL);exact ⟨x,a',w',q,.of_steps (.one step_loop) xK⟩
end
end Go.Bs
namespace Go.Bs
class je (P:Program) (t:TypeId) (e:outParam TypeId) (n:outParam Nat):Prop where
 lS:P.underlying t=some (.slice e)
 B7:∀ w,(sizeOf e).run P w=.ok n w
class dL (P:Program) (t:TypeId):Prop where
 ag:∀ w,(isAgg t).run P w=.ok false w
 B7:∀ w,(sizeOf t).run P w=.ok 1 w
class jf (P:Program) (t:TypeId) (n:outParam Nat):Prop where
 ag:∀ w,(isAgg t).run P w=.ok true w
 B7:∀ w,(sizeOf t).run P w=.ok n w
class cM (P:Program) (s:TypeId) (f:Nat) (off:outParam Nat):Prop where
 run:∀ g o w,(Instr.fieldAt s (.pointer (some ⟨g,o,none⟩)) f).run P w=.ok (.pointer (some ⟨g,o+off,none⟩)) w
class iu (P:Program) (t:TypeId) (k:outParam IntKind):Prop where
 lS:P.underlying t=some (.int k)
class u0 (P:Program) (t:TypeId):Prop where
 lS:P.underlying t=some .string
class rr (P:Program) (t:TypeId) (e:outParam TypeId):Prop where
 lS:P.underlying t=some (.pointer e)
class cI (P:Program) (f:FuncId) (g:outParam FuncId):Prop where
 run:∀ args w,(callFunc f args).run P w=.ok (.enter g args) w
class fv (P:Program) (t:TypeId) (z:outParam Value):Prop where
 run:∀ w,(zeroValue t).run P w=.ok z w
section
variable {P:Program} {N:Fr} {Q:fO} {σ:Env} {e:World} {L:List cJ} {all:Array Oper} {rest:List Oper}
variable {d:Nat} {op:Op} {ty:TypeId} {pos:String} {af:Array Edge}
theorem O.nil (h:Fin Q .normal σ e L):O P N all [] Q σ e L:=fun _ w ha hs=>⟨σ,ha,h w hs⟩
theorem bC {dst:Option Tmp} (h:Do P N ⟨dst,op,ty,pos,af,none⟩ (fun σ' L'=>O P N all rest Q σ' e L') σ e L):O P N all (⟨dst,op,ty,pos,af,none⟩::rest) Q σ e L :=
 fun a w ha hs=>wpList_plain rfl fun K hK=>h a w ha hs K _ fun _ _ a' w' ho DA oF=>hK a' w' (ho a' w' DA oF)
theorem bN {v:Value} {gd:Option (Nat × Bool)} {K:Env→List cJ→Prop} (h:cD P N op ty v σ e L) (hd:Nat.blt d N.n=true) (k:K ((d,v)::σ) L):Do P N ⟨some d,op,ty,pos,af,gd⟩ K σ e L:=by
 intro a w ha hs K' Q' hK;unfold Oper.wp;rw [h a w ha hs];exact hK _ _ _ _ k (ha.put hd v) hs
theorem bx (v:Value) (h:cD P N op ty v σ e L) (hd:Nat.blt d N.n=true) (k:O P N all rest Q ((d,v)::σ) e L):O P N all (⟨some d,op,ty,pos,af,none⟩::rest) Q σ e L :=
 bC (bN h hd k)
theorem O.fo {l:List Oper} {L':List cJ} (f:cz L L') (h:O P N all l Q σ e L'):O P N all l Q σ e L:=h.cL f
def p0 (σ:Env) (all:Array Oper) (j:Nat) (want:Bool):Option Bool :=
 match (all[j]?).bind (·.dst) with
 | some t=>match get σ t with
  | some (.bool b)=>some (b == want)
  | some (.tuple _)=>some false
  | _=>none
 | none=>none
theorem nO {a:Act} {j:Nat} {want r:Bool} (ha:Has N σ a) (h:p0 σ all j want=some r) {dst:Option Tmp} :
 Region.wanted ⟨dst,op,ty,pos,af,some (j,want)⟩ (yielded all a.tmps)=r:=by
 unfold p0 at h
 cases ht:(all[j]?).bind (·.dst) with
 | none=>rw [ht] at h;cases h
 | some t =>
  rw [ht] at h
  have hy:yielded all a.tmps j=match a.tmps[t]? with|some (.bool b)=>some b|_=>none:=by
   unfold yielded;exact congrArg (fun o:Option Nat=>match o.bind (a.tmps[·]?) with|some (.bool b)=>some b|_=>none) ht
  unfold Region.wanted;dsimp only at h ⊢
  rw [hy]
  cases hg:get σ t with
  | none=>rw [hg] at h;cases h
  | some v =>
   rw [hg] at h
   rw [ha.val t v hg]
   cases v<;>simp at h ⊢<;>exact h
theorem O.want {dst:Option Tmp} {j:Nat} {want:Bool} (h:p0 σ all j want=some true) (k:O P N all (⟨dst,op,ty,pos,af,none⟩::rest) Q σ e L) :
 O P N all (⟨dst,op,ty,pos,af,some (j,want)⟩::rest) Q σ e L:=fun a w ha hs=>by
 have h1:=k a w ha hs;unfold wpList at h1 ⊢
 rw [aI (by rfl)] at h1
 rw [aI (nO ha h)];exact h1
theorem O.Rk {j:Nat} {want:Bool} (h:p0 σ all j want=some false) (hd:Nat.blt d N.n=true) (k:O P N all rest Q ((d,undef)::σ) e L) :
 O P N all (⟨some d,op,ty,pos,af,some (j,want)⟩::rest) Q σ e L:=fun a w ha hs=>by
 unfold wpList;rw [aB (by rw [nO ha h];simp)];exact k _ w (ha.put hd _) hs
section
variable {x y z:Operand} {v:Value}
theorem bu (h:ev σ x=some v):cD P N (.move x) ty v σ e L:=fun a w ha _ _ _ _ _=>by simp [execOp,ha.ev h]
theorem bj (h:ev σ x=some v):cD P N (.assign x) ty v σ e L:=fun a w ha _ _ _ _ _=>by simp [execOp,ha.ev h]
theorem bK (h:ev σ x=some (.bool true)) (h1:ev σ y=some v):cD P N (.pick x y z) ty v σ e L:=fun a w ha _ _ _ _ _=>by simp [execOp,ha.ev h,ha.ev h1,asBool]
theorem bI (h:ev σ x=some (.bool false)) (h1:ev σ z=some v):cD P N (.pick x y z) ty v σ e L:=fun a w ha _ _ _ _ _=>by simp [execOp,ha.ev h,ha.ev h1,asBool]
theorem bn {p:Addr} (h:ev σ x=some (.pointer (some p))):cD P N (.nilCheck x) ty (.pointer (some p)) σ e L:=fun a w ha _ _ _ _ _=>by simp [execOp,ha.ev h]
theorem ba {s f off g o:Nat} [i:cM P s f off] (h:ev σ x=some (.pointer (some ⟨g,o,none⟩))) :
 cD P N (.fieldAddr s x f) ty (.pointer (some ⟨g,o+off,none⟩)) σ e L:=fun a w ha _ _ _ _ _=>by simp [execOp,ha.ev h,i.run]
theorem bp {t:TypeId} {p:Addr} [i:dL P t] (h:ev σ x=some (.pointer (some p))) (r:Rd L p v):cD P N (.load t x) ty v σ e L:=fun a w ha hs _ _ _ _=>by
 simp [execOp,ha.ev h,Instr.loadAt,Instr.sureAddr,loadVar,i.ag,r.at hs]
theorem bM {t:TypeId} {el n l c:Nat} {ad:Option Addr} {ats:List TypeId} [i:je P t el n] (h:ev σ x=some (.slice ad l c)) :
 cD P N (.call { callee:=.builtin .len,args:=#[x],argTypes:=(t::ats).toArray }) ty (.int .i64 l) σ e L:=fun a w ha _ _ _ _ _=>by
 simp [execOp,resolve,invoke,builtin,Builtin.len_,ha.ev h,run_underlying i.lS,goInt]
theorem cD.Rl {t:TypeId} {s:ByteArray} {ats:List TypeId} [i:u0 P t] (h:ev σ x=some (.string s)) :
 cD P N (.call { callee:=.builtin .len,args:=#[x],argTypes:=(t::ats).toArray }) ty (.int .i64 s.size) σ e L:=fun a w ha _ _ _ _ _=>by
 simp [execOp,resolve,invoke,builtin,Builtin.len_,ha.ev h,run_underlying i.lS,goInt]
theorem cD.not {b:Bool} {t:TypeId} (h:ev σ x=some (.bool b)):cD P N (.unOp .not t x) ty (.bool !b) σ e L:=fun a w ha _ _ _ _ _=>by simp [execOp,ha.ev h,Op.unary]
theorem wrap_i64 {n:Int} (h0:-9223372036854775808≤n) (h1:n≤9223372036854775807):IntKind.i64.wrap n=n:=IntWalk.i64_in n ⟨h0,h1⟩
theorem wrap_u32 {n:Int} (h0:0≤n) (h1:n<4294967296):IntKind.u32.wrap n=n:=by
 unfold IntKind.wrap;simp only [IntKind.bits,IntKind.signed]
 simp
 omega
theorem wrap_u8 {n:Int} (h0:0≤n) (h1:n<256):IntKind.u8.wrap n=n:=by
 unfold IntKind.wrap;simp only [IntKind.bits,IntKind.signed]
 simp
 omega
section ints
variable {k k':IntKind} {m n:Int} {t t':TypeId}
theorem cD.add (h:ev σ x=some (.int k m)) (h1:ev σ y=some (.int k n)):cD P N (.binOp .add t x y t') ty (.int k (k.wrap (m+n))) σ e L:=fun a w ha _ _ _ _ _=>by
 simp [execOp,ha.ev h,ha.ev h1,eqGuard,binOp,Op.intArith]
theorem cD.sub (h:ev σ x=some (.int k m)) (h1:ev σ y=some (.int k n)):cD P N (.binOp .sub t x y t') ty (.int k (k.wrap (m - n))) σ e L:=fun a w ha _ _ _ _ _=>by
 simp [execOp,ha.ev h,ha.ev h1,eqGuard,binOp,Op.intArith]
theorem cD.mul (h:ev σ x=some (.int k m)) (h1:ev σ y=some (.int k n)):cD P N (.binOp .mul t x y t') ty (.int k (k.wrap (m*n))) σ e L:=fun a w ha _ _ _ _ _=>by
 simp [execOp,ha.ev h,ha.ev h1,eqGuard,binOp,Op.intArith]
theorem cD.kQ (h:ev σ x=some (.int .i64 m)) (h1:ev σ y=some (.int .i64 n)) (b:-9223372036854775808≤m+n∧m+n≤9223372036854775807):cD P N (.binOp .add t x y t') ty (.int .i64 (m+n)) σ e L:=by
 have:=cD.add (P:=P) (N:=N) (ty:=ty) (e:=e) (L:=L) (t:=t) (t':=t') h h1
 rwa [wrap_i64 b.1 b.2] at this
theorem cD.jz (h:ev σ x=some (.int .i64 m)) (h1:ev σ y=some (.int .i64 n)) (b:-9223372036854775808≤m - n∧m - n≤9223372036854775807):cD P N (.binOp .sub t x y t') ty (.int .i64 (m - n)) σ e L:=by
 have:=cD.sub (P:=P) (N:=N) (ty:=ty) (e:=e) (L:=L) (t:=t) (t':=t') h h1
 rwa [wrap_i64 b.1 b.2] at this
theorem cD.wc (h:ev σ x=some (.int .i64 m)) (h1:ev σ y=some (.int .i64 n)) (b:-9223372036854775808≤m*n∧m*n≤9223372036854775807):cD P N (.binOp .mul t x y t') ty (.int .i64 (m*n)) σ e L:=by
 have:=cD.mul (P:=P) (N:=N) (ty:=ty) (e:=e) (L:=L) (t:=t) (t':=t') h h1
 rwa [wrap_i64 b.1 b.2] at this
theorem cD.bits (op:BinOp) (ho:op=.and∨op=.or∨op=.xor∨op=.andNot) (h:ev σ x=some (.int k m)) (h1:ev σ y=some (.int k n)):cD P N (.binOp op t x y t') ty (.int k (Go.bits op k m n)) σ e L:=fun a w ha _ _ _ _ _=>by
 rcases ho with rfl|rfl|rfl|rfl<;>simp [execOp,ha.ev h,ha.ev h1,eqGuard,binOp,Op.intBits,Go.bits]
theorem cD.shl (h:ev σ x=some (.int k m)) (h1:ev σ y=some (.int k' n)) (h0:0≤n):cD P N (.binOp .shl t x y t') ty (.int k (k.wrap (m*2 ^ (min n.toNat k.bits)))) σ e L:=fun a w ha _ _ _ _ _=>by
 have:¬ n<0:=by omega
 simp [execOp,ha.ev h,ha.ev h1,eqGuard,binOp,Op.shift,this]
theorem cD.shr (h:ev σ x=some (.int k m)) (h1:ev σ y=some (.int k' n)) (h0:0≤n):cD P N (.binOp .shr t x y t') ty (.int k (m.fdiv (2 ^ (min n.toNat k.bits)))) σ e L:=fun a w ha _ _ _ _ _=>by
 have:¬ n<0:=by omega
 simp [execOp,ha.ev h,ha.ev h1,eqGuard,binOp,Op.shift,this]
theorem cD.jP {s:TypeId} [i:iu P s k] [j:iu P t k'] (h:ev σ x=some (.int k m)):cD P N (.convert s t x) ty (.int k' (k'.wrap m)) σ e L:=fun a w ha _ _ _ _ _=>by
 simp [execOp,ha.ev h,convert,run_underlying i.lS,run_underlying j.lS,Conv.intToInt]
theorem cD.lss (h:ev σ x=some (.int k m)) (h1:ev σ y=some (.int k n)):cD P N (.binOp .lss t x y t') ty (.bool (decide (m<n))) σ e L:=fun a w ha _ _ _ _ _=>by
 simp [execOp,ha.ev h,ha.ev h1,eqGuard,binOp,Op.intCmp]
theorem cD.leq (h:ev σ x=some (.int k m)) (h1:ev σ y=some (.int k n)):cD P N (.binOp .leq t x y t') ty (.bool (decide (m≤n))) σ e L:=fun a w ha _ _ _ _ _=>by
 simp [execOp,ha.ev h,ha.ev h1,eqGuard,binOp,Op.intCmp]
theorem cD.gtr (h:ev σ x=some (.int k m)) (h1:ev σ y=some (.int k n)):cD P N (.binOp .gtr t x y t') ty (.bool (decide (n<m))) σ e L:=fun a w ha _ _ _ _ _=>by
 simp [execOp,ha.ev h,ha.ev h1,eqGuard,binOp,Op.intCmp]
theorem bR (h:ev σ x=some (.int k m)) (h1:ev σ y=some (.int k n)):cD P N (.binOp .geq t x y t') ty (.bool (decide (n≤m))) σ e L:=fun a w ha _ _ _ _ _=>by
 simp [execOp,ha.ev h,ha.ev h1,eqGuard,binOp,Op.intCmp]
theorem bW (h:ev σ x=some (.int k m)) (h1:ev σ y=some (.int k n)):cD P N (.binOp .eql t x y t') ty (.bool (decide (m=n))) σ e L:=fun a w ha _ _ _ _ _=>by
 simp [execOp,ha.ev h,ha.ev h1,eqGuard,binOp,Op.intCmp]
 by_cases XZ:m=n<;>simp [XZ]
theorem cD.neq (h:ev σ x=some (.int k m)) (h1:ev σ y=some (.int k n)):cD P N (.binOp .neq t x y t') ty (.bool (decide (m≠n))) σ e L:=fun a w ha _ _ _ _ _=>by
 simp [execOp,ha.ev h,ha.ev h1,eqGuard,binOp,Op.intCmp]
 by_cases XZ:m=n<;>simp [XZ]
end ints
section nils
variable {t t':TypeId}
theorem cD.Rm {el:TypeId} {p:Option Addr} [i:rr P t el] (h:ev σ x=some (.pointer p)) (h1:ev σ y=some (.pointer none)):cD P N (.binOp .eql t x y t') ty (.bool p.isNone) σ e L:=fun a w ha _ _ _ _ _=>by
 have:=run_eql_pointer_nil (P:=P) w t p (by simp [Program.pointee,i.lS])
 simp [execOp,ha.ev h,ha.ev h1,eqGuard,this]
theorem cD.Rn {el:TypeId} {p:Option Addr} [i:rr P t el] (h:ev σ x=some (.pointer p)) (h1:ev σ y=some (.pointer none)):cD P N (.binOp .neq t x y t') ty (.bool !p.isNone) σ e L:=fun a w ha _ _ _ _ _=>by
 have:=run_neq_pointer_nil (P:=P) w t p (by simp [Program.pointee,i.lS])
 simp [execOp,ha.ev h,ha.ev h1,eqGuard,this]
theorem xL {t el:TypeId} (i:P.underlying t=some (.slice el)) (w:World) (d:Nat) (p:Option Addr) (l c:Nat):(Op.equalIn (d+1) t (.slice p l c) (.slice none 0 0)).run P w=.ok p.isNone w:=by
 cases p<;>simp [Op.equalIn,run_underlying i]
theorem B8 {t el:TypeId} (i:P.underlying t=some (.slice el)) (w:World) (p:Option Addr) (l c:Nat):(Op.equal t (.slice p l c) (.slice none 0 0)).run P w=.ok p.isNone w:=xL i w 9999 p l c
theorem Gk {t el:TypeId} (i:P.underlying t=some (.slice el)) (w:World) (p:Option Addr) (l c:Nat):(binOp .eql t (.slice p l c) (.slice none 0 0)).run P w=.ok (.bool p.isNone) w:=by
 simp only [binOp];simp [B8 i]
theorem cD.Qk {el n l c:Nat} {p:Option Addr} [i:je P t el n] (h:ev σ x=some (.slice p l c)) (h1:ev σ y=some (.slice none 0 0)):cD P N (.binOp .eql t x y t') ty (.bool p.isNone) σ e L:=fun a w ha _ _ _ _ _=>by
 simp [execOp,ha.ev h,ha.ev h1,eqGuard,Gk i.lS]
theorem cD.X0 {s u:ByteArray} (h:ev σ x=some (.string s)) (h1:ev σ y=some (.string u)):cD P N (.binOp .eql t x y t') ty (.bool (s.toList == u.toList)) σ e L:=fun a w ha _ _ _ _ _=>by
 simp [execOp,ha.ev h,ha.ev h1,eqGuard,binOp,Op.stringOp]
theorem cD.X2 {s u:ByteArray} (h:ev σ x=some (.string s)) (h1:ev σ y=some (.string u)):cD P N (.binOp .neq t x y t') ty (.bool !(s.toList == u.toList)) σ e L:=fun a w ha _ _ _ _ _=>by
 simp [execOp,ha.ev h,ha.ev h1,eqGuard,binOp,Op.stringOp]
end nils
end
end
end Go.Bs
namespace Go.Bs
def jD (e:World) (Post:Value→List cJ→Prop):Ending→World→Prop:=fun x w'=>∃ v L',x=.returned v∧Post v L'∧Sat e L' w'
def Ct (P:Program) (f:FuncId) (args:Array Value) (e:World) (L:List cJ) (Post:Value→List cJ→Prop):Prop :=
 ∀ w,Sat e L w→Calls P f args w (jD e Post)
theorem Ct.cL {P:Program} {f:FuncId} {args:Array Value} {e:World} {L L':List cJ} {Post:Value→List cJ→Prop} (h:Ct P f args e L' Post) (g:cz L L'):Ct P f args e L Post:=fun w hs=>h w (hs.cL g)
theorem Ct.mono {P:Program} {f:FuncId} {args:Array Value} {e:World} {L:List cJ} {Post DM:Value→List cJ→Prop} (h:Ct P f args e L Post) (g:∀ v L',Post v L'→DM v L'):Ct P f args e L DM :=
 fun w hs=>(h w hs).mono fun _ _ ⟨v,L',a,b,c⟩=>⟨v,L',a,g _ _ b,c⟩
theorem Ct.LN {P:Program} {f:FuncId} {args:Array Value} {e:World} {L:List cJ} {Post DM:Value→List cJ→Prop} (h:Ct P f args e L Post) (g:∀ v L',Post v L'→∃ Xl,cz L' Xl∧DM v Xl):Ct P f args e L DM :=
 fun w hs=>(h w hs).mono fun _ _ ⟨v,L',a,b,c⟩=>let ⟨Xl,d,f⟩:=g v L' b;⟨v,Xl,a,f,c.cL d⟩
theorem Ct.at {P:Program} {f:FuncId} {args:Array Value} {e:World} {L R:List cJ} {A:cJ} {Post:Value→List cJ→Prop} (p:cR L A R) (h:Ct P f args e (A::R) Post):Ct P f args e L Post:=h.cL p.out
theorem Ct.AR {P:Program} {f:FuncId} {args:Array Value} {e:World} {L R R':List cJ} {A B:cJ} {Post:Value→List cJ→Prop} (p:cR L A R) (q:cR R B R') (h:Ct P f args e (A::B::R') Post):Ct P f args e L Post :=
 h.cL fun _ x=>kT q.out (p.out _ x)
def p4 (σ:Env):List ResultVar→Option (List Value)
 | []=>some []
 | .tmp t::r=>match get σ t,p4 σ r with
  | some v,some vs=>some (v::vs)
  | _,_=>none
 | .cell _ _::_=>none
def AS:List Value→Value
 | [v]=>v
 | vs=>.tuple vs.toArray
def AT (rs:Array ResultVar) (R:Ending→World→Prop):fO:=fun x σ w =>
 match x with
 | .normal|.ret=>∃ vs,p4 σ rs.toList=some vs∧R (.returned (AS vs)) w
 | _=>False
def pD (tmps:Array Value):ResultVar→Sem Value
 | .tmp t=>pure (tmps.getD t undef)
 | .cell b t=>do loadVar t (← asAddr (tmps.getD b undef))
theorem AU {P:Program} {w:World} {N:Fr} {σ:Env} {a:Act} (h:Has N σ a):∀ {rs:List ResultVar} {vs:List Value},p4 σ rs=some vs→(rs.mapM (pD a.tmps)).run P w=.ok vs w
 | [],vs,e=>by simp [p4] at e;subst e;simp
 | .tmp t::r,vs,e=>by
  simp only [p4] at e
  cases hg:get σ t with
  | none=>rw [hg] at e;simp at e
  | some v =>
   cases hr:p4 σ r with
   | none=>rw [hg,hr] at e;simp at e
   | some us =>
    rw [hg,hr] at e;simp at e;subst e
    have h1:a.tmps.getD t undef=v:=by simp [h.val t v hg]
    simp only [List.mapM_cons,Sem.run_bind,pD,Sem.run_pure,Result.andThen_ok,h1];rw [AU h hr]
    simp
 | .cell _ _::_,_,e=>by simp [p4] at e
theorem p5 {P:Program} {w:World} {N:Fr} {σ:Env} {a:Act} (h:Has N σ a) {fn:Func} {vs:List Value} (e:p4 σ fn.results.toList=some vs):(results fn a.tmps).run P w=.ok (AS vs) w:=by
 have h0:results fn a.tmps=(fn.results.mapM (pD a.tmps)) >>= fun vs=>pure (if h:vs.size=1 then vs[0] else .tuple vs):=by
  unfold results
  congr 1
 have h1:(fn.results.mapM (pD a.tmps)).run P w=.ok vs.toArray w:=by
  rw [Array.mapM_eq_mapM_toList,Sem.run_map,AU h e]
  rfl
 rw [h0,Sem.run_bind,h1];simp only [Result.andThen_ok,Sem.run_pure]
 congr 1
 match vs with
 | []=>rfl
 | [v]=>rfl
 | _::_::_=>simp [AS]
theorem Ct.mk {P:Program} {f:FuncId} {fn:Func} {c:Code} {N:Nat} {rs:Array ResultVar} {args:Array Value} {σ:Env} {e:World} {L:List cJ} {Post:Value→List cJ→Prop}
 (hf:P.funcs[f]?=some fn) (hb:fn.body=some c) (hN:fn.ntmps=N) (hr:fn.results=rs) (hle:args.size≤N) (hσ:∀ k v,get σ k=some v→args[k]?=some v)
 (h:W P ⟨N,[]⟩ c (AT rs (jD e Post)) σ e L):Ct P f args e L Post:=by
 subst hN hr;intro w hs;refine calls_of_wp hf hb (Code.wp_mono ?_ (h { tmps:=args++Array.replicate (fn.ntmps - args.size) undef,defers:=[] } w ⟨by simp;omega,rfl,fun k v hk=>?_⟩ hs))
 ·intro x a w q
  cases x with
  | normal=>obtain ⟨σ',h1,vs,h2,h3⟩:=q;exact ⟨h1.defers,_,p5 h1 h2,h3⟩
  | ret=>obtain ⟨σ',h1,vs,h2,h3⟩:=q;exact ⟨h1.defers,_,p5 h1 h2,h3⟩
  | panic _=>exact q.elim
  | outgrown=>exact q.elim
  | exit _=>obtain ⟨_,_,h2⟩:=q;exact h2.elim
  | goto _=>obtain ⟨_,_,h2⟩:=q;exact h2.elim
 ·have:=hσ k v hk;have cO:k<args.size:=(Array.getElem?_eq_some_iff.1 this).1;rw [Array.getElem?_append_left cO];exact this
def oI:Nat→List Value→Env
 | _,[]=>[]
 | k,v::r=>(k,v)::oI (k+1) r
theorem nc:∀ (l:List Value) (i k:Nat) (v:Value),get (oI i l) k=some v→i≤k∧l[k - i]?=some v
 | [],_,_,_,h=>by simp [oI,get] at h
 | u::r,i,k,v,h=>by
  simp only [oI,fD] at h
  by_cases e:i=k
  ·subst e;simp at h;subst h;exact ⟨aS _,by simp⟩
  ·rw [aB e] at h
   obtain ⟨h1,h2⟩:=nc r (i+1) k v h;refine ⟨by omega,?_⟩;have:k - i=(k - (i+1))+1:=by omega
   rw [this];simpa using h2
theorem a8 {P:Program} {f:FuncId} {fn:Func} {c:Code} {N:Nat} {rs:Array ResultVar} {args:List Value} {e:World} {L:List cJ} {Post:Value→List cJ→Prop}
 (hf:P.funcs[f]?=some fn) (hb:fn.body=some c) (hN:fn.ntmps=N) (hr:fn.results=rs) (hle:Nat.ble args.length N=true)
 (h:W P ⟨N,[]⟩ c (AT rs (jD e Post)) (oI 0 args) e L):Ct P f args.toArray e L Post :=
 Ct.mk hf hb hN hr (by simpa using (Nat.le_of_ble_eq_true hle)) (fun k v hk=>by simpa using (nc args 0 k v hk).2) h
section
variable {P:Program} {N:Fr} {Q:fO} {σ:Env} {e:World} {L:List cJ}
theorem aY {rs:Array ResultVar} {Post:Value→List cJ→Prop} {vs:List Value} (L':List cJ) (hv:p4 σ rs.toList=some vs) (hL:cz L L') (hp:Post (AS vs) L'):Fin (AT rs (jD e Post)) .ret σ e L :=
 fun _ hs=>⟨vs,hv,AS vs,L',rfl,hp,hs.cL hL⟩
theorem bT {rs:Array ResultVar} {Post:Value→List cJ→Prop} {vs:List Value} (L':List cJ) (hv:p4 σ rs.toList=some vs) (hL:cz L L') (hp:Post (AS vs) L'):Fin (AT rs (jD e Post)) .normal σ e L :=
 fun _ hs=>⟨vs,hv,AS vs,L',rfl,hp,hs.cL hL⟩
theorem Fin.next {y:Code} {Q1:fO} (h:W P N y Q1 σ e L):Fin (km (Next P N y Q1) Q) .normal σ e L:=fun w hs a ha=>h a w ha hs
theorem Fin.LO {K:Env→World→Prop} (h:Fin Q .ret σ e L):Fin (km K Q) .ret σ e L:=h
theorem Fin.Jz {K:Env→World→Prop} {i:Nat} (h:Fin Q (.exit i) σ e L):Fin (km K Q) (.exit i) σ e L:=h
theorem Fin.sY {id:Nat} (h:Fin Q .normal σ e L):Fin (jS id Q) .normal σ e L:=h
theorem Fin.JA {id:Nat} (h:Fin Q .ret σ e L):Fin (jS id Q) .ret σ e L:=h
theorem Fin.JB {id:Nat} (h:Fin Q .normal σ e L):Fin (jS id Q) (.exit id) σ e L:=fun w hs=>by simp only [jS,if_true];exact h w hs
theorem Fin.Gl {id i:Nat} (hi:Nat.beq i id=false) (h:Fin Q (.exit i) σ e L):Fin (jS id Q) (.exit i) σ e L:=fun w hs=>by
 simp only [jS,aB (Nat.ne_of_beq_eq_false hi)];exact h w hs
theorem bi {ι:Type} {Iσ:ι→Env} {IL:ι→List cJ} {IP:ι→Prop} {μ:ι→Nat} {m:Nat} (j:ι) (hj:IP j) (hm:μ j<m) (hσ:∀ k v,get (Iσ j) k=some v→get σ k=some v) (hL:cz L (IL j)) :
 Fin (km (LM Iσ IL IP μ m e) Q) .normal σ e L :=
 fun _ hs=>⟨j,hj,hm,hσ,hs.cL hL⟩
theorem dd {σ:Env}:∀ k v,get [] k=some v→get σ k=some v:=fun _ _ h=>by cases h
theorem cC {σ r:Env} {j:Nat} {u:Value} (h:get σ j=some u) (f:∀ k v,get r k=some v→get σ k=some v):∀ k v,get ((j,u)::r) k=some v→get σ k=some v:=fun k v hk=>by
 rw [fD] at hk
 by_cases e:j=k
 ·subst e;simp at hk;subst hk;exact h
 ·rw [aB e] at hk;exact f k v hk
theorem bg {f g:FuncId} {xs:List Operand} {vs:List Value} {ats:Array TypeId} {d:Nat} {ty:TypeId} {pos:String} {af:Array Edge} {gd:Option (Nat × Bool)} {K:Env→List cJ→Prop} {Post:Value→List cJ→Prop}
 [i:cI P f g] (hx:pZ σ xs=some vs) (hd:Nat.blt d N.n=true) (h:Ct P g vs.toArray e L Post) (k:∀ v L',Post v L'→K ((d,v)::σ) L') :
 Do P N ⟨some d,.call { callee:=.value (.func f),args:=xs.toArray,argTypes:=ats },ty,pos,af,gd⟩ K σ e L:=by
 intro a w ha hs K' Q' hK;unfold Oper.wp;have h1:execOp a.eval ⟨some d,.call { callee:=.value (.func f),args:=xs.toArray,argTypes:=ats },ty,pos,af,gd⟩=callFunc f (#[]++xs.toArray.map a.eval++#[]):=rfl;have h2:(#[]++xs.toArray.map a.eval++#[]:Array Value)=vs.toArray:=by simp [ha.pZ hx]
 rw [h1,h2,i.run,Oper.upon_enter];refine (h w hs).mono ?_;rintro x w' ⟨v,L',rfl,hp,oF⟩;exact hK _ _ _ _ (k v L' hp) (ha.put hd v) oF
def View (n:Nat) (v:Value) (k:Nat) (xs:List Value):cJ:=fun h =>
 xs.length=k*n∧∃ ad cap,v=.slice ad k cap∧k≤cap∧cap≤maxLen∧(ad=none→cap=0)∧∀ j u,xs[j]?=some u→∃ g o,ad=some ⟨g,o,none⟩∧h.cell ⟨g,o+j,none⟩=some u
theorem View.le {n k:Nat} {v:Value} {xs:List Value} {h h':dj} (x:View n v k xs h) (l:dj.le h h'):View n v k xs h':=by
 obtain ⟨h1,ad,cap,h2,h3,h4,h5,h6⟩:=x;exact ⟨h1,ad,cap,h2,h3,h4,h5,fun j u hj=>by obtain ⟨g,o,a,b⟩:=h6 j u hj;exact ⟨g,o,a,dj.xt l b⟩⟩
def cE (L:List cJ) (n:Nat) (v:Value) (k:Nat) (xs:List Value):Prop:=∀ h,dN L h→View n v k xs h
theorem cE.cL {L L':List cJ} {n k:Nat} {v:Value} {xs:List Value} (h:cE L' n v k xs) (f:cz L L'):cE L n v k xs:=fun i x=>h i (f i x)
theorem cE.tail {A:cJ} {n k:Nat} {v:Value} {xs:List Value} (h:cE L n v k xs):cE (A::L) n v k xs:=h.cL (cz.drop aX)
theorem cE.nil (L:List cJ) (n:Nat):cE L n (.slice none 0 0) 0 []:=fun _ _=>⟨by simp,none,0,rfl,aS _,by simp [maxLen],fun _=>rfl,fun j u h=>by simp at h⟩
theorem cE.view {L R:List cJ} {n k:Nat} {v:Value} {xs:List Value} (p:cR L (View n v k xs) R):cE L n v k xs:=fun h x=>by
 obtain ⟨h1,_,_,b,_,hA,_⟩:=p.out h x;exact View.le hA b
theorem cE.elem {n k k' c g o j:Nat} {u:Value} {xs:List Value} (r:cE L n (.slice (some ⟨g,o,none⟩) k' c) k xs) (hj:xs[j]?=some u):Rd L ⟨g,o+j,none⟩ u:=fun h x=>by
 obtain ⟨_,ad,cap,hv,_,_,_,h6⟩:=r h x
 cases hv
 obtain ⟨g',o',a,b⟩:=h6 j u hj
 cases a;exact b
def dE (E:TypeId) (n:Nat) (v:Value) (k:Nat) (xs:List Value):cJ:=fun h=>xs.length=k*n ∧
 ((v=.slice none 0 0∧k=0)∨∃ g cap cur,v=.slice (some ⟨g,0,none⟩) k cap∧h g=some (.cells (List.toArray cur) E (0,0))∧k≤cap∧cap≤maxLen∧cur.length=cap*n∧cur.take (k*n)=xs)
theorem dv (E:TypeId) (n:Nat):cz L (dE E n (.slice none 0 0) 0 []::L):=fun h x =>
 ⟨fun _=>none,h,fun _ _ e=>by simp at e,fun _ _ e=>by simp at e,dj.le_refl _,⟨by simp,.inl ⟨rfl,rfl⟩⟩,x⟩
theorem oJ {E:TypeId} {n k:Nat} {v:Value} {xs:List Value} {R:List cJ} {h:dj} (x:dN (dE E n v k xs::R) h) :
 xs.length=k*n∧((v=.slice none 0 0∧k=0∧dN R h)∨∃ g cap cur,v=.slice (some ⟨g,0,none⟩) k cap∧k≤cap∧cap≤maxLen∧cur.length=cap*n∧cur.take (k*n)=xs∧dN (cK g cur E (0,0)::R) h):=by
 obtain ⟨h1,h2,a,b,c,⟨hl,hA⟩,hR⟩:=x;refine ⟨hl,?_⟩;rcases hA with ⟨hv,hk⟩|⟨g,cap,cur,hv,hg,r1,r2,r3,r4⟩
 ·exact .inl ⟨hv,hk,AP c hR⟩
 ·exact .inr ⟨g,cap,cur,hv,r1,r2,r3,r4,h1,h2,a,b,c,hg,hR⟩
theorem hH {E:TypeId} {n k g cap:Nat} {cur:List Value} {R:List cJ} (r1:k≤cap) (r2:cap≤maxLen) (r3:cur.length=cap*n) :
 cz (cK g cur E (0,0)::R) (dE E n (.slice (some ⟨g,0,none⟩) k cap) k (cur.take (k*n))::R):=fun _=>mw fun _ hg =>
 ⟨by simp only [aF,r3];exact Nat.min_eq_left (Nat.mul_le_mul_right _ r1),.inr ⟨g,cap,cur,rfl,hg,r1,r2,r3,rfl⟩⟩
theorem bb {L R:List cJ} {E:TypeId} {n k:Nat} {v:Value} {xs:List Value} (p:cR L (dE E n v k xs) R):cE L n v k xs:=fun h x=>by
 obtain ⟨hl,hA⟩:=oJ (p.out h x);rcases hA with ⟨hv,hk,_⟩|⟨g,cap,cur,hv,r1,r2,r3,r4,y⟩
 ·subst hv hk;have:xs=[]:=List.eq_nil_of_length_eq_zero (by simpa using hl);subst this;exact cE.nil L n h x
 ·subst hv;refine ⟨hl,some ⟨g,0,none⟩,cap,rfl,r1,r2,(fun e=>by cases e),fun j u hj=>⟨g,0,rfl,?_⟩⟩;obtain ⟨h1,h2,a,b,c,hg,_⟩:=y;refine dj.xt b ?_;unfold dj.cell;rw [show h1 g=_ from hg];rw [← r4,List.getElem?_take] at hj
  split at hj
  ·simpa using hj
  ·cases hj
theorem xM {E:TypeId} {n k:Nat} {v:Value} {xs:List Value} {R:List cJ}:cz (dE E n v k xs::R) (View n v k xs::R):=fun _=>mw fun h hA=>by
 have x:dN [dE E n v k xs] h:=⟨h,fun _=>none,fun _ _ _=>rfl,dj.le_refl _,fun _ _ e=>by simp at e,hA,trivial⟩
 exact bb (R:=[]) .zero h x
end
end Go.Bs
namespace Go.Bs
class ru (P:Program) (t:TypeId) (z:outParam Value) (n:outParam Nat) (X3:outParam Nat):Prop where
 X4:(P.info? t).map (fun i=>(i.zero,i.size,i.bytes))=some (some z,n,X3)
theorem ru.parts {P:Program} {t:TypeId} {z:Value} {n b:Nat} (h:ru P t z n b):∃ i,P.info? t=some i∧i.zero=some z∧i.size=n∧i.bytes=b:=by
 have h1:=h.X4
 cases hi:P.info? t with
 | none=>rw [hi] at h1;simp at h1
 | some i=>rw [hi] at h1;simp at h1;exact ⟨i,rfl,h1.1,h1.2.1,h1.2.2⟩
section
variable {P:Program} {N:Fr} {Q:fO} {σ:Env} {e:World} {L:List cJ} {all:Array Oper} {rest:List Oper}
variable {d:Nat} {op:Op} {ty:TypeId} {pos:String} {af:Array Edge} {gd:Option (Nat × Bool)} {K:Env→List cJ→Prop}
theorem W.cB {c:Code} {p:Prop} (f:∀ h,dN L h→p) (h:p→W P N c Q σ e L):W P N c Q σ e L:=fun a w ha hs=>h (f _ hs.2.2.2) a w ha hs
theorem bm {l:List Oper} {p:Prop} (f:∀ h,dN L h→p) (h:p→O P N all l Q σ e L):O P N all l Q σ e L:=fun a w ha hs=>h (f _ hs.2.2.2) a w ha hs
theorem a7 {f:FuncId} {args:Array Value} {Post:Value→List cJ→Prop} {p:Prop} (g:∀ h,dN L h→p) (h:p→Ct P f args e L Post):Ct P f args e L Post:=fun w hs=>h (g _ hs.2.2.2) w hs
def Shape (v:Value) (k:Nat):Prop:=∃ ad cap,v=.slice ad k cap∧k≤cap∧cap≤maxLen∧(ad=none→cap=0)∧(k=0∨∃ g o,ad=some ⟨g,o,none⟩)
theorem cE.shape {n k:Nat} {v:Value} {xs:List Value} (r:cE L n v k xs) (hn:0<n):∀ h,dN L h→Shape v k∧xs.length=k*n:=fun h x=>by
 obtain ⟨h1,ad,cap,h2,h3,h4,h5,h6⟩:=r h x;refine ⟨⟨ad,cap,h2,h3,h4,h5,?_⟩,h1⟩
 cases xs with
 | nil =>
  left
  have h2:k*n=0:=h1.symm;rcases Nat.mul_eq_zero.1 h2 with h3|h3
  ·exact h3
  ·omega
 | cons u l =>
  obtain ⟨g,o,a,_⟩:=h6 0 u (by simp);exact .inr ⟨g,o,a⟩
theorem O.ex {l:List Oper} {α:Sort _} {f:α→cJ} {R:List cJ} (p:cR L (Ex f) R) (h:∀ x,O P N all l Q σ e (f x::R)):O P N all l Q σ e L:=fun a w ha hs=>by
 obtain ⟨x,hx⟩:=xJ (p.out _ hs.2.2.2);exact h x a w ha ⟨hs.1,hs.2.1,hs.2.2.1,hx⟩
theorem Ct.ex {g:FuncId} {args:Array Value} {Post:Value→List cJ→Prop} {α:Sort _} {f:α→cJ} {R:List cJ} (p:cR L (Ex f) R) (h:∀ x,Ct P g args e (f x::R) Post):Ct P g args e L Post:=fun w hs=>by
 obtain ⟨x,hx⟩:=xJ (p.out _ hs.2.2.2);exact h x w ⟨hs.1,hs.2.1,hs.2.2.1,hx⟩
theorem bX {x y:Operand} {t:TypeId} {el n l c g o:Nat} {k:IntKind} {i:Int} [s:je P t el n] (h:ev σ x=some (.slice (some ⟨g,o,none⟩) l c)) (h1:ev σ y=some (.int k i)) (h0:0≤i) (hl:i<l) :
 cD P N (.indexAddr t x y) ty (.pointer (some ⟨g,o+i.toNat*n,none⟩)) σ e L:=fun a w ha _ _ _ _ _=>by
 simp [execOp,ha.ev h,ha.ev h1,Instr.indexAt,run_underlying s.lS,asIntOf,h0,hl,s.B7,Addr.add_lit]
theorem bD {x y:Operand} {t:TypeId} {el n l c g o:Nat} {k:IntKind} {i:Nat} [s:je P t el n] (h:ev σ x=some (.slice (some ⟨g,o,none⟩) l c)) (h1:ev σ y=some (.int k i)) (hl:i<l) :
 cD P N (.indexAddr t x y) ty (.pointer (some ⟨g,o+i*n,none⟩)) σ e L:=by
 have:=bX (P:=P) (N:=N) (ty:=ty) (e:=e) (L:=L) (t:=t) h h1 (by omega) (by omega)
 simpa using this
theorem cD.Ro {x y:Operand} {t:TypeId} {s:ByteArray} {k:IntKind} {i:Nat} [q:u0 P t] (h:ev σ x=some (.string s)) (h1:ev σ y=some (.int k i)) (hl:i<s.size) :
 cD P N (.index t x y) ty (.int .u8 (s[i].toNat)) σ e L:=fun a w ha _ _ _ _ _=>by
 simp [execOp,ha.ev h,ha.ev h1,Instr.index,run_underlying q.lS,asIntOf,hl]
def cutAt (ad:Option Addr) (cap lo n:Nat):Option Addr:=if cap=lo then ad else ad.map (·.add (lo*n))
theorem cD.iV {x y:Operand} {t:TypeId} {el n l c:Nat} {ad:Option Addr} {k:IntKind} {i:Int} [s:je P t el n] (h:ev σ x=some (.slice ad l c)) (h1:ev σ y=some (.int k i)) (h0:0≤i) (hl:i≤c) :
 cD P N (.slice t x none (some y) none) ty (.slice ad i.toNat c) σ e L:=fun a w ha _ _ _ _ _=>by
 simp only [execOp,ha.ev h,ha.ev h1,Option.map_none,Option.map_some]
 simp [Instr.sliceAt,Instr.slice,run_underlying s.lS,Instr.sliceBounds,Instr.sliceBound,asIntOf,h0,hl,s.B7]
 by_cases hc:c=0<;>simp [hc,Addr.add]
theorem cD.lm {x y:Operand} {t:TypeId} {el n l c:Nat} {ad:Option Addr} {k:IntKind} {i:Int} [s:je P t el n] (h:ev σ x=some (.slice ad l c)) (h1:ev σ y=some (.int k i)) (h0:0≤i) (hl:i≤l) :
 cD P N (.slice t x (some y) none none) ty (.slice (cutAt ad c i.toNat n) (l - i.toNat) (c - i.toNat)) σ e L:=fun a w ha _ _ _ _ _=>by
 simp only [execOp,ha.ev h,ha.ev h1,Option.map_none,Option.map_some]
 simp [Instr.sliceAt,Instr.slice,run_underlying s.lS,Instr.sliceBounds,Instr.sliceBound,asIntOf,h0,hl,s.B7,cutAt]
theorem cD.u1 {x y z:Operand} {t:TypeId} {el n l c:Nat} {ad:Option Addr} {k k':IntKind} {i j:Int} [s:je P t el n] (h:ev σ x=some (.slice ad l c)) (h1:ev σ y=some (.int k i)) (h2:ev σ z=some (.int k' j)) (h0:0≤i) (hl:i≤j) (hj:j≤c) :
 cD P N (.slice t x (some y) (some z) none) ty (.slice (cutAt ad c i.toNat n) (j.toNat - i.toNat) (c - i.toNat)) σ e L:=fun a w ha _ _ _ _ _=>by
 have e1:((j.toNat:Nat):Int)=j:=Int.toNat_of_nonneg (by omega);have h3:0≤j:=by omega
 simp only [execOp,ha.ev h,ha.ev h1,ha.ev h2,Option.map_none,Option.map_some]
 simp [Instr.sliceAt,Instr.slice,run_underlying s.lS,Instr.sliceBounds,Instr.sliceBound,asIntOf,h0,hl,s.B7,cutAt,h3,hj,e1]
theorem View.cut {n k c lo hi:Nat} {ad:Option Addr} {xs:List Value} {hh:dj} (h:View n (.slice ad k c) k xs hh) (h1:lo≤hi) (h2:hi≤k):View n (.slice (cutAt ad c lo n) (hi - lo) (c - lo)) (hi - lo) ((xs.drop (lo*n)).take ((hi - lo)*n)) hh:=by
 obtain ⟨hl,lM,cap,hv,h3,h4,h5,h6⟩:=h
 cases hv
 have hle:(hi - lo)*n≤(k - lo)*n:=Nat.mul_le_mul_right _ (by omega);have hk:k*n=(k - lo)*n+lo*n:=by rw [← Nat.add_mul];congr 1;omega
 refine ⟨?_,_,_,rfl,by omega,by omega,?_,?_⟩
 ·simp only [aF,aO,hl];omega
 ·intro hn;unfold cutAt at hn
  split at hn
  ·have:=h5 hn;omega
  ·have:=h5 (by simpa using hn);omega
 ·intro j u hj;rw [List.getElem?_take] at hj
  split at hj
  ·rw [List.getElem?_drop] at hj
   obtain ⟨g,o,e1,e2⟩:=h6 _ _ hj;subst e1;unfold cutAt
   by_cases hc:c=lo
   ·exfalso
    have h7:hi - lo=0:=by omega
    rename_i cO;rw [h7] at cO;simp at cO
   ·refine ⟨g,o+lo*n,by simp [hc,Addr.add_lit],?_⟩;rw [Nat.add_assoc];exact e2
  ·cases hj
theorem cE.cut {n k c lo hi:Nat} {ad:Option Addr} {xs:List Value} (h:cE L n (.slice ad k c) k xs) (h1:lo≤hi) (h2:hi≤k):cE L n (.slice (cutAt ad c lo n) (hi - lo) (c - lo)) (hi - lo) ((xs.drop (lo*n)).take ((hi - lo)*n)):=fun i x=>(h i x).cut h1 h2
theorem cE.p6 {n k c hi:Nat} {ad:Option Addr} {xs:List Value} (h:cE L n (.slice ad k c) k xs) (h2:hi≤k):cE L n (.slice ad hi c) hi (xs.take (hi*n)):=by
 have:=h.cut (aH hi) h2;simp only [Nat.sub_zero,Nat.zero_mul,List.drop_zero] at this
 have e:cutAt ad c 0 n=ad:=by unfold cutAt;cases ad<;>simp [Addr.add]
 rwa [e] at this
theorem View.rG {n k c lo:Nat} {ad:Option Addr} {xs:List Value} {hh:dj} (h:View n (.slice ad k c) k xs hh) (h2:lo≤k):View n (.slice (cutAt ad c lo n) (k - lo) (c - lo)) (k - lo) (xs.drop (lo*n)) hh:=by
 have:=h.cut h2 (aS k)
 rwa [aG] at this
 simp only [aO,h.1,Nat.sub_mul];omega
theorem cE.rG {n k c lo:Nat} {ad:Option Addr} {xs:List Value} (h:cE L n (.slice ad k c) k xs) (h2:lo≤k):cE L n (.slice (cutAt ad c lo n) (k - lo) (c - lo)) (k - lo) (xs.drop (lo*n)):=fun i x=>(h i x).rG h2
theorem eZ {o:Oper} {a:Act} {w w':World} {v:Value} {K':Act→World→Prop} {Q':Exit→Act→World→Prop} (h:(execOp a.eval o).run P w=.ok (.value v) w') (k:K' (a.put o.dst v) w'):o.wp P a w K' Q':=by
 unfold Oper.wp;rw [h];exact k
theorem l5 {o:Oper} {a:Act} {w w':World} {K':Act→World→Prop} {Q':Exit→Act→World→Prop} (h:(execOp a.eval o).run P w=.ok .skip w') (k:K' (a.put o.dst undef) w'):o.wp P a w K' Q':=by
 unfold Oper.wp;rw [h];exact k
def uU (σ:Env):List (Nat × Operand)→Option (List (Nat × Value))
 | []=>some []
 | (i,x)::r=>match ev σ x,uU σ r with
  | some v,some vs=>some ((i,v)::vs)
  | _,_=>none
theorem Has.uU {a:Act} (h:Has N σ a):∀ {xs:List (Nat × Operand)} {vs:List (Nat × Value)},uU σ xs=some vs→(xs.map fun p=>(p.1,a.eval p.2))=vs
 | [],vs,e=>by simpa [Bs.uU] using e
 | (i,x)::r,vs,e=>by
  simp only [Bs.uU] at e
  cases hx:Bs.ev σ x with
  | none=>rw [hx] at e;simp at e
  | some v =>
   cases hr:Bs.uU σ r with
   | none=>rw [hx,hr] at e;simp at e
   | some us =>
    rw [hx,hr] at e;simp at e;subst e
    simp only [List.map_cons,h.ev hx,h.uU hr]
theorem Do.box {x:Operand} {v:Value} {t:TypeId} {cs:List Value} (h:ev σ x=some v) (hc:v.cells=cs.toArray) (hd:Nat.blt d N.n=true) (k:∀ g,K ((d,.pointer (some ⟨g,0,none⟩))::σ) (cK g cs t (0,0)::L)) :
 Do P N ⟨some d,.box t x,ty,pos,af,gd⟩ K σ e L:=fun a w ha hs K' Q' hK =>
 eZ (w':=w.alloc (.cells cs.toArray t)) (v:=.pointer (some ⟨w.heap.size,0,none⟩)) (by simp [execOp,ha.ev h,Instr.box,newVar,newRow,hc]) (hK _ _ _ _ (k _) (ha.put hd _) (hs.alloc _))
theorem bQ {z:Value} {t:TypeId} {cs:List Value} [i:fv P t z] (hc:z.cells=cs.toArray) (hd:Nat.blt d N.n=true) (k:∀ g,K ((d,.pointer (some ⟨g,0,none⟩))::σ) (cK g cs t (0,0)::L)) :
 Do P N ⟨some d,.alloc t,ty,pos,af,gd⟩ K σ e L:=fun a w ha hs K' Q' hK =>
 eZ (w':=w.alloc (.cells cs.toArray t)) (v:=.pointer (some ⟨w.heap.size,0,none⟩)) (by simp [execOp,Instr.alloc,i.run,newVar,newRow,hc]) (hK _ _ _ _ (k _) (ha.put hd _) (hs.alloc _))
inductive gS (n:Nat):Nat→List (Nat × Value)→List Value→Prop
 | nil {i:Nat}:gS n i [] []
 | one {i:Nat} {v:Value} {r:List (Nat × Value)} {l:List Value}:v.cells=#[v]→n=1→gS n (i+1) r l→gS n i ((i,v)::r) (v::l)
 | agg {i:Nat} {cs:List Value} {r:List (Nat × Value)} {l:List Value}:cs.length=n→gS n (i+1) r l→gS n i ((i,.agg cs.toArray)::r) (cs++l)
theorem AV:∀ (vs:List Value) (k off:Nat) (a:Array Value),off+k+vs.length≤a.size →
 ((vs.zipIdx k).foldl (fun cs (x:Value × Nat)=>cs.setIfInBounds (off+x.2) x.1) a).toList=a.toList.take (off+k)++vs++a.toList.drop (off+k+vs.length)
 | [],k,off,a,_=>by simp
 | v::vs,k,off,a,h=>by
  simp only [List.zipIdx_cons,List.foldl_cons];have h':off+k+(vs.length+1)≤a.size:=h;rw [AV vs (k+1) off _ (by simp;omega)];have cO:off+k<a.toList.length:=by simp;omega
  have e1:(a.setIfInBounds (off+k) v).toList=a.toList.set (off+k) v:=by simp
  rw [e1]
  have e2:(a.toList.set (off+k) v).take (off+(k+1))=a.toList.take (off+k)++[v]:=by
   rw [← Nat.add_assoc,aD (by simpa using cO)]
   simp [List.take_set_of_le]
  have e3:(a.toList.set (off+k) v).drop (off+(k+1)+vs.length)=a.toList.drop (off+k+(v::vs).length):=by
   rw [List.drop_set_of_lt (by omega)]
   congr 1
   simp;omega
  rw [e2,e3]
  simp
theorem gS.fill {n i:Nat} {ps:List (Nat × Value)} {cs:List Value} (h:gS n i ps cs):∀ (a:Array Value),a.size=(i+ps.length)*n→Instr.fill (fun i=>some (i*n,n)) a ps=some (a.toList.take (i*n)++cs).toArray:=by
 have step:∀ (i:Nat) (us:List Value) (r:List (Nat × Value)) (l:List Value) (a:Array Value),us.length=n→a.size=(i+(r.length+1))*n →
  (∀ (a:Array Value),a.size=(i+1+r.length)*n→Instr.fill (fun i=>some (i*n,n)) a r=some (a.toList.take ((i+1)*n)++l).toArray) →
  Instr.fill (fun i=>some (i*n,n)) (us.toArray.zipIdx.foldl (fun cs (x:Value × Nat)=>cs.setIfInBounds (i*n+x.2) x.1) a) r=some (a.toList.take (i*n)++(us++l)).toArray:=by
  intro i us r l a hu ha ih
  have e0:us.toArray.zipIdx.foldl (fun cs (x:Value × Nat)=>cs.setIfInBounds (i*n+x.2) x.1) a=(us.zipIdx 0).foldl (fun cs (x:Value × Nat)=>cs.setIfInBounds (i*n+x.2) x.1) a:=by
   rw [← Array.foldl_toList]
   simp
  have hb:i*n+us.length≤a.size:=by
   rw [ha,hu,← Nat.succ_mul];exact Nat.mul_le_mul_right _ (by omega)
  have e1:=AV us 0 (i*n) a (by simpa using hb);simp only [Nat.add_zero] at e1
  rw [e0]
  have ln:((us.zipIdx 0).foldl (fun cs (x:Value × Nat)=>cs.setIfInBounds (i*n+x.2) x.1) a).size=a.size:=by
   rw [← Array.length_toList,e1];simp only [aa,aF,aO,Array.length_toList];omega
  rw [ih _ (by rw [ln,ha];congr 1;omega),e1]
  congr 1
  rw [aM,show (i+1)*n=i*n+us.length from by rw [hu,Nat.succ_mul],← aM,← aM];rw [List.take_left' (by simp only [aa,aF,Array.length_toList];omega)]
 induction h with
 | nil =>
  intro a ha;simp only [List.length_nil,Nat.add_zero] at ha
  simp only [Instr.fill,aK]
  congr 1
  rw [← ha,← Array.length_toList,List.take_length]
 | one hv hn _ ih =>
  rename_i i v r l _;intro a ha;simp only [Instr.fill,hv];rw [aB (by subst hn;simp only [aN] at ha;simp [ha])];exact step i [v] r l a (by simp [hn]) (by simpa using ha) ih
 | agg hl _ ih =>
  rename_i i cs r l _;intro a ha
  have hb:i*n+cs.length≤a.size:=by
   rw [ha,hl,← Nat.succ_mul];exact Nat.mul_le_mul_right _ (by simp only [aN];omega)
  have B9:(Value.agg cs.toArray).cells=cs.toArray:=rfl;simp only [Instr.fill,B9];rw [aB (by simp [hl];rw [hl] at hb;exact hb)];exact step i cs r l a hl (by simpa using ha) ih
theorem bE {t:TypeId} {el n len b:Nat} {z:Value} {parts:List (Nat × Operand)} {vs:List (Nat × Value)} {cs:List Value} [i:je P t el n] [j:ru P el z n b] (h:uU σ parts=some vs) (hd:Nat.blt d N.n=true) (hn:Nat.ble (len*n) 16777216=true)
 (hlen:vs.length=len) (hc:gS n 0 vs cs) (hz:z.cells.size=n)
 (k:∀ g,K ((d,.slice (some ⟨g,0,none⟩) len len)::σ) (cK g cs el (0,0)::L)) :
 Do P N ⟨some d,.buildSlice t len parts.toArray,ty,pos,af,gd⟩ K σ e L:=fun a w ha hs K' Q' hK=>by
 obtain ⟨ti,h1,h2,h3,h4⟩:=j.parts;have hle:¬ (16777216<len*n):=by have:=Nat.le_of_ble_eq_true hn;omega
 have UC:(parts.toArray.map fun p=>(p.1,a.eval p.2)).toList=vs:=by simp [← ha.uU h]
 refine eZ (w':=w.alloc (.cells cs.toArray el)) (v:=.slice (some ⟨w.heap.size,0,none⟩) len len) ?_ (hK _ _ _ _ (k _) (ha.put hd _) (hs.alloc _))
 have wY:Instr.fill (fun i=>some (i*n,n)) ((Array.range (len*n)).map (z.cells[· % z.cells.size]!)) vs=some cs.toArray:=by
  have:=hc.fill ((Array.range (len*n)).map (z.cells[· % z.cells.size]!)) (by simp [hlen])
  simpa using this
 simp only [execOp,Instr.buildSlice];have e1:(parts.toArray.map fun x=>match x with|(i,x)=>(i,a.eval x)).toList=vs:=UC;rw [e1]
 by_cases hz:len*n=0
 ·have r0:Array.range 0=#[]:=Array.eq_empty_of_size_eq_zero (by simp);have hc':Instr.fill (fun i=>some (i*n,n)) #[] vs=some cs.toArray:=by rw [hz,r0] at wY;simpa using wY
  simp [run_underlying i.lS,i.B7,hz,hc',newRow,r0]
 ·simp [run_underlying i.lS,i.B7,hz,hle,zeroValue,typeInfo,h1,h2,wY,newRow]
theorem b7 {t:TypeId} {x y:Operand} {g off:Nat} {v:Value} {cs cs':List Value} {T:TypeId} {L':List cJ} [i:dL P t] (h:ev σ x=some (.pointer (some ⟨g,off,none⟩))) (h1:ev σ y=some v) (hv:v.oneCell'=true)
 (u:wb L (cK g cs T (0,0)) (cK g cs' T (0,0)) L') (jL:gx cs off v cs') (k:K σ L') :
 Do P N ⟨none,.store t x y,ty,pos,af,gd⟩ K σ e L:=fun a w ha hs K' Q' hK=>by
 obtain ⟨rfl,cO⟩:=jL.eq;obtain ⟨R,f1,f2⟩:=u.split;have fR:=hs.cL f1;have AW:w.cell? ⟨g,off,none⟩=some cs[off]:=(bP (R:=R) (cs:=cs) (T:=T) (fz:=(0,0)) .zero (by rw [iP];exact ab cO)).at fR
 have UD:w.frozen? ⟨g,off,none⟩=false:=by
  obtain ⟨h0,Dz,b,c,d',hA,hR⟩:=fR.2.2.2;have:=c _ _ hA;simp only [hp] at this
  simp [World.frozen?,this]
 have B9:v.cells=#[v]:=by cases v<;>first|rfl|simp [Value.oneCell'] at hv
 refine l5 (w':=w.setCell ⟨g,off,none⟩ v) ?_ (hK _ _ _ _ k ha ((fR.setCell v).cL f2));simp only [execOp,ha.ev h,ha.ev h1,Instr.storeAt,Instr.sureAddr,storeVar,B9]
 simp [i.B7,storeCells,run_store,hv,AW,UD,Addr.add]
end
end Go.Bs
namespace Go.Bs
def u8 (c:UInt8):Value:=.int .u8 (c.toNat:Int)
def str (l:List UInt8):ByteArray:=⟨l.toArray⟩
theorem Ca (l:List UInt8):strOfNums (l.map fun c=>(c.toNat:Int))=str l:=by
 unfold strOfNums str
 congr 1
 simp only [List.map_map];rw [show ((fun n:Int=>UInt8.ofNat n.toNat) ∘ fun c:UInt8=>(c.toNat:Int))=id from by funext c;simp]
 simp
theorem oK (l:List UInt8):(str l).toList=l:=by
 exact ByteArray.toList_mk l
theorem sZ (l:List UInt8):(str l).size=l.length:=by simp [str,ByteArray.size]
section
variable {P:Program} {N:Fr} {Q:fO} {σ:Env} {e:World} {L:List cJ} {all:Array Oper} {rest:List Oper}
variable {d:Nat} {op:Op} {ty:TypeId} {pos:String} {af:Array Edge} {gd:Option (Nat × Bool)} {K:Env→List cJ→Prop}
def db (L:List cJ) (v:Value) (l:List UInt8):Prop:=cE L 1 v l.length (l.map u8)
theorem db.cL {L':List cJ} {v:Value} {l:List UInt8} (h:db L' v l) (f:cz L L'):db L v l:=cE.cL h f
theorem db.tail {A:cJ} {v:Value} {l:List UInt8} (h:db L v l):db (A::L) v l:=cE.tail h
theorem db.elem {g o k c j:Nat} {l:List UInt8} {b:UInt8} (r:db L (.slice (some ⟨g,o,none⟩) k c) l) (hj:l[j]?=some b):Rd L ⟨g,o+j,none⟩ (u8 b):=cE.elem r (by simp [hj])
theorem db.nil (L:List cJ):db L (.slice none 0 0) []:=cE.nil L 1
theorem cE.cast {n k:Nat} {v:Value} {xs ys:List Value} (h:cE L n v k xs) (e:xs=ys):cE L n v k ys:=e ▸ h
theorem bB {R:List cJ} {g k:Nat} {xs:List Value} {T:TypeId} {fz:Nat × Nat} (p:cR L (cK g xs T fz) R) (hk:xs.length=k) (hm:k≤maxLen):cE L 1 (.slice (some ⟨g,0,none⟩) k k) k xs:=fun h x =>
 ⟨by omega,some ⟨g,0,none⟩,k,rfl,aS _,hm,(fun e=>by cases e),fun j u hj=>⟨g,0,rfl,by
  rw [aC];exact bP p (by rw [iP];exact hj) h x⟩⟩
theorem JC {t T el n:Nat} {v:Value} {l:List UInt8} [i:je P t el n] [j:iu P el .u8] [s:u0 P T] {w:World} (hs:Sat e L w) (r:db L v l):(convert t T v).run P w=.ok (.string (str l)) w:=by
 obtain ⟨h1,ad,cap,rfl,h3,h4,h5,h6⟩:=r _ hs.2.2.2
 cases l with
 | nil =>
  cases ad with
  | none =>
   simp [convert,run_underlying i.lS,run_underlying j.lS,run_underlying s.lS,Conv.bytesToString]
   rfl
  | some a =>
   rw [run_convert_bytes_string w t T el (some a) _ _ i.lS j.lS s.lS];have:=run_bytesToString (P:=P) w a 0 cap [] (by simp [loadCells,loadCellsFrom])
   simp at this ⊢
   rw [this]
   rfl
 | cons c l =>
  obtain ⟨g,o,e1,_⟩:=h6 0 (u8 c) (by simp);subst e1
  have:=run_convert_bytes_arg (P:=P) w t el i.lS j.lS g o (c::l).length cap ((c::l).map fun c=>(c.toNat:Int)) (by simp) (fun k hk=>by
   obtain ⟨g',o',e1,e2⟩:=h6 k (u8 (c::l)[k]) (by simp only [aL];rw [ab hk];rfl)
   cases e1
   rw [show w.cell? ⟨g,o+k,none⟩=some (u8 (c::l)[k]) from e2];simp only [u8,ax,aL,ab hk,Option.map_some,Option.getD_some]) T s.lS
  rw [Ca] at this
  exact this
theorem b8 {t T el n:Nat} {x:Operand} {v:Value} {l:List UInt8} [i:je P t el n] [j:iu P el .u8] [s:u0 P T] (h:ev σ x=some v) (r:db L v l):cD P N (.convert t T x) ty (.string (str l)) σ e L:=fun a w ha hs _ _ _ _=>by
 simp [execOp,ha.ev h,JC hs r]
theorem cD.LP {t t':TypeId} {x y:Operand} {s u:List UInt8} (h:ev σ x=some (.string (str s))) (h1:ev σ y=some (.string (str u))):cD P N (.binOp .eql t x y t') ty (.bool (decide (s=u))) σ e L:=by
 have:=cD.X0 (P:=P) (N:=N) (ty:=ty) (e:=e) (L:=L) (t:=t) (t':=t') h h1;rw [oK,oK] at this
 by_cases hh:s=u
 ·simpa [hh] using this
 ·have e1:(s == u)=false:=by simpa using hh
  rw [e1] at this;simpa [hh] using this
theorem cD.xN {t t':TypeId} {x y:Operand} {s u:List UInt8} (h:ev σ x=some (.string (str s))) (h1:ev σ y=some (.string (str u))):cD P N (.binOp .neq t x y t') ty (.bool (decide (s≠u))) σ e L:=by
 have:=cD.X2 (P:=P) (N:=N) (ty:=ty) (e:=e) (L:=L) (t:=t) (t':=t') h h1;rw [oK,oK] at this
 by_cases hh:s=u
 ·simpa [hh] using this
 ·have e1:(s == u)=false:=by simpa using hh
  rw [e1] at this;simpa [hh] using this
theorem cE.cells {n k:Nat} {v:Value} {xs:List Value} (r:cE L n v k xs) {w:World} (hs:Sat e L w):∃ ad cap,v=.slice ad k cap∧(xs≠[]→∃ a,ad=some a∧∀ j u,xs[j]?=some u→w.cell? (a.add j)=some u):=by
 obtain ⟨h1,ad,cap,rfl,h3,h4,h5,h6⟩:=r _ hs.2.2.2;refine ⟨ad,cap,rfl,fun oG=>?_⟩
 cases xs with
 | nil=>exact absurd rfl oG
 | cons x l =>
  obtain ⟨g,o,e1,_⟩:=h6 0 x (by simp);subst e1;refine ⟨_,rfl,fun j u hj=>?_⟩;obtain ⟨g',o',e1,e2⟩:=h6 j u hj
  cases e1
  rw [Addr.add_lit];exact e2
theorem ta (g:Nat) (cs:Array Value) (T:TypeId) (R:List cJ):cz (Ob g (.cells cs T)::R) (cK g cs.toList T (0,0)::R):=fun _ x=>by
 unfold cK;simpa using x
theorem pE (t ty el:TypeId) {n:Nat} (i:je P t el n) (w:World) (ad:Option Addr) (k c:Nat) (hk:k≤c) (dW:Option Addr) (c2:Nat) :
 (Builtin.append_ #[t,t] ty #[.slice ad k c,.slice dW 0 c2]).run P w=.ok (.slice ad k c) w:=by
 simp [Builtin.append_,run_underlying i.lS,i.B7,Builtin.lenOf,hk]
 cases dW<;>cases ad<;>simp [Builtin.firstCells,loadCells,loadCellsFrom,storeCells]
theorem bo {t el n b m k:Nat} {z:Value} {x y:Operand} {v u:Value} {xs ys:List Value} {R:List cJ} [i:je P t el n] [j:ru P el z n b]
 (hx:ev σ x=some v) (hy:ev σ y=some u) (hd:Nat.blt d N.n=true) (p:cR L (dE el n v k xs) R) (r:cE R n u m ys) (hn:Nat.blt 0 n=true) (hz:z.cells.size=n) (h1:∀ c∈ys,c.oneCell'=true)
 (Ir:k+m≤maxLen) (hb:(k+m)*b≤140737488355328)
 (kk:∀ ad c,((ad=none∧c=0)↔v=.slice none 0 0∧m=0)→K ((d,.slice ad (k+m) c)::σ) (dE el n (.slice ad (k+m) c) (k+m) (xs++ys)::R)) :
 Do P N ⟨some d,.call { callee:=.builtin .append,args:=#[x,y],argTypes:=#[t,t] },ty,pos,af,gd⟩ K σ e L:=fun a w ha hs K' Q' hK=>by
 have fR:=hs.cL p.out;have hex:∀ v' w',(Builtin.append_ #[t,t] ty #[v,u]).run P w=.ok v' w'→K' (a.put (some d) v') w' →
  Oper.wp P ⟨some d,.call { callee:=.builtin .append,args:=#[x,y],argTypes:=#[t,t] },ty,pos,af,gd⟩ a w K' Q':=fun v' w' hr hk =>
  eZ (v:=v') (w':=w') (by simp [execOp,resolve,invoke,builtin,ha.ev hx,ha.ev hy,hr]) hk
 have n0:0<n:=by rw [← Nat.blt_eq];exact hn
 obtain ⟨ti,t1,t2,t3,t4⟩:=j.parts;subst t3 t4;have X5:k+m≤9223372036854775807:=by simp only [maxLen] at Ir;omega
 obtain ⟨hl,hA⟩:=oJ fR.2.2.2;obtain ⟨ad,cap,hu,xO⟩:=r.cells (fR.cL (cz.drop aX));have DB:=(r _ (fR.cL (cz.drop aX)).2.2.2).1;subst hu
 by_cases hm:m=0
 ·subst hm;have hy0:ys=[]:=List.eq_nil_of_length_eq_zero (by simpa using DB);subst hy0
  have hv:∃ dW c2,v=.slice dW k c2∧k≤c2:=by
   rcases hA with ⟨hv,hk,_⟩|⟨g,Af,cur,hv,r1,_⟩
   ·exact ⟨none,0,by rw [hv,hk],by omega⟩
   ·exact ⟨_,_,hv,r1⟩
  obtain ⟨dW,c2,hv,xP⟩:=hv;subst hv;refine hex (.slice dW k c2) w ?_ ?_
  ·exact pE t ty el i w dW k c2 xP ad cap
  ·refine hK _ _ _ _ (kk dW c2 ?_) (ha.put hd _) ?_
   ·rcases hA with ⟨hv,hk,_⟩|⟨g,Af,cur,hv,r1,_⟩
    ·cases hv;simp
    ·cases hv;simp
   ·rw [aK,Nat.add_zero];exact fR
 ·have oG:ys≠[]:=by
   intro h0;rw [h0] at DB
   have h2:=Nat.mul_pos (Nat.pos_of_ne_zero hm) n0;rw [← DB] at h2;simp at h2
  obtain ⟨a2,rfl,xu⟩:=xO oG;have TS:0<m:=by omega
  have new:∀ (old:Nat),k≤old∨old=0→old<k+m→∀ w0:World,w0.heap=w.heap→w0.os=w.os→w0.tape=w.tape→w0.output=w.output →
   Sat e (dE el ti.size (.slice (some ⟨w.heap.size,0,none⟩) (k+m) (grownCap w (k+m) old el)) (k+m) (xs++ys)::R)
    (w0.alloc (.cells (xs.toArray++ys.toArray++Builtin.zeroCells z.cells (grownCap w (k+m) old el - (k+m))) el)):=by
   intro old _ ho w0 e1 e2 e3 e4;have Ql:=grownCap_ge w (k+m) old el;have TT:grownCap w (k+m) old el≤maxLen:=grownCap_le_maxLen w (k+m) old el Ir
   have m4:Sat e R w0:=⟨by rw [e2];exact hs.1,by rw [e3];exact hs.2.1,by rw [e4];exact hs.2.2.1,by
    have:=(fR.cL (cz.drop aX)).2.2.2;unfold hp at *;rw [e1];exact this⟩
   have F7:Sat e (cK _ _ el (0,0)::R) _:=(m4.alloc (.cells (xs.toArray++ys.toArray++Builtin.zeroCells z.cells (grownCap w (k+m) old el - (k+m))) el)).cL (ta _ _ _ _);rw [show w0.heap.size=w.heap.size from by rw [e1]] at F7
   have ln:(xs.toArray++ys.toArray++Builtin.zeroCells z.cells (grownCap w (k+m) old el - (k+m))).toList.length=grownCap w (k+m) old el*ti.size:=by
    simp only [Array.length_toList,Array.size_append,List.size_toArray,size_zeroCells,hz,hl,DB,← Nat.add_mul]
    congr 1;omega
   have gy:=hH (E:=el) (n:=ti.size) (g:=w.heap.size) (R:=R) Ql TT ln
   have ft:(xs.toArray++ys.toArray++Builtin.zeroCells z.cells (grownCap w (k+m) old el - (k+m))).toList.take ((k+m)*ti.size)=xs++ys:=by
    simp only [Array.toList_append,aM];rw [← aM];exact List.take_left' (by rw [aa,hl,DB,Nat.add_mul])
   rw [ft] at gy
   exact F7.cL gy
  rcases hA with ⟨hv,TU,hR⟩|⟨g,Af,cur,hv,r1,r2,r3,r4,hB⟩
  ·subst hv TU;have TV:xs=[]:=List.eq_nil_of_length_eq_zero (by simpa using hl);subst TV;have hr:=run_append_nil (P:=P) w t ty el ti z i.lS t1 t2 a2 m cap ys DB xu TS (by omega) (by have tc:=hb;simp only [aC] at tc;omega);have AX:=new 0 (.inr rfl) (by omega) w.drew rfl rfl rfl rfl;simp only [aC,List.nil_append,Array.empty_append] at AX kk
   exact hex _ _ hr (hK _ _ _ _ (kk _ _ (by simp;omega)) (ha.put hd _) AX)
  ·subst hv;have TW:Sat e (cK g cur el (0,0)::R) w:=⟨hs.1,hs.2.1,hs.2.2.1,hB⟩
   have hg:w.heap[g]?=some (.cells cur.toArray el (0,0)):=by
    obtain ⟨Dz,TR,_,b',_,AQ,_⟩:=hB;exact b' g _ AQ
   by_cases we:k+m≤Af
   ·have pN:k*ti.size+ys.length≤cur.toArray.size:=by rw [List.size_toArray,DB,r3,← Nat.add_mul];exact Nat.mul_le_mul_right _ we
    have hr:=run_append_room (P:=P) w t ty el ti i.lS t1 g k Af cur.toArray hg a2 m cap ys DB xu h1 we pN;refine hex _ _ hr (hK _ _ _ _ (kk _ _ (by simp)) (ha.put hd _) ?_)
    have AY:Sat e (cK g (cur.take (k*ti.size)++ys++cur.drop (k*ti.size+ys.length)) el (0,0)::R) (w.setRow g (cur.take (k*ti.size)++ys++cur.drop (k*ti.size+ys.length)).toArray):=by
     refine TW.change rfl rfl rfl fun Dz hle AQ=>?_
     refine ⟨fun b=>if b=g then some (.cells (cur.take (k*ti.size)++ys++cur.drop (k*ti.size+ys.length)).toArray el (0,0)) else none,?_,by simp [cK,Ob],?_,?_⟩
     ·intro b o hb
      by_cases eb:b=g
      ·subst eb;simp only [if_true] at hb;rw [← hb];exact setRow_heap w b cur.toArray _ el _ hg
      ·simp [eb] at hb
     ·intro b o hb hn
      by_cases eb:b=g
      ·subst eb;rw [show Dz b=_ from AQ] at hn;cases hn
      ·simp [eb] at hb
     ·intro b hn o ho;have:b≠g:=by rintro rfl;rw [show Dz b=_ from AQ] at hn;cases hn
      exact (setRow_other w g b _ this).trans ho
    have ln:(cur.take (k*ti.size)++ys++cur.drop (k*ti.size+ys.length)).length=Af*ti.size:=by
     rw [List.size_toArray] at pN
     simp only [aa,aF,aO];omega
    have gy:=hH (E:=el) (n:=ti.size) (g:=g) (R:=R) we r2 ln
    have ft:(cur.take (k*ti.size)++ys++cur.drop (k*ti.size+ys.length)).take ((k+m)*ti.size)=xs++ys:=by
     rw [r4];exact List.take_left' (by rw [aa,hl,DB,Nat.add_mul])
    rw [ft] at gy
    exact AY.cL gy
   ·have holds:∀ j u,xs[j]?=some u→w.cell? ((⟨g,0,none⟩:Addr).add j)=some u:=fun j u hj=>by
     rw [Addr.add_lit,aC];refine (bP (R:=R) (cs:=cur) (T:=el) (fz:=(0,0)) .zero ?_).at TW
     rw [iP];rw [← r4,List.getElem?_take] at hj
     split at hj
     ·simpa using hj
     ·cases hj
    have hr:=run_append_grow (P:=P) w t ty el ti z i.lS t1 t2 ⟨g,0,none⟩ k Af xs hl holds a2 m cap ys DB xu (by omega) (by omega) (growslice_fits (by omega) hb);have AX:=new Af (.inl r1) (by omega) w.drew rfl rfl rfl rfl;exact hex _ _ hr (hK _ _ _ _ (kk _ _ (by simp)) (ha.put hd _) AX)
theorem Do.Gm {t el n:Nat} {x:Operand} {g o l c:Nat} {cs:List Value} {L':List cJ} [i:je P t el n] [j:iu P el .u8] (hx:ev σ x=some (.slice (some ⟨g,o,none⟩) l c)) (hd:Nat.blt d N.n=true) {T:TypeId}
 (u:wb L (cK g cs T (0,0)) (cK g cs T (cs.length,cs.length+1)) L') (k:K ((d,.slice (some ⟨g,o,none⟩) l c)::σ) L') :
 Do P N ⟨some d,.convert t t x,ty,pos,af,gd⟩ K σ e L:=fun a w ha hs K' Q' hK=>by
 obtain ⟨R,f1,f2⟩:=u.split;have fR:=hs.cL f1
 have hg:w.heap[g]?=some (.cells cs.toArray T (0,0)):=by
  obtain ⟨Dz,TR,_,b',_,AQ,_⟩:=fR.2.2.2;exact b' g _ AQ
 have cO:g<w.heap.size:=(Array.getElem?_eq_some_iff.1 hg).1;have TX:w.heap[g]=.cells cs.toArray T (0,0):=(Array.getElem?_eq_some_iff.1 hg).2;refine eZ (w':=w.freeze ⟨g,cs.length,none⟩ 1) (v:=.slice (some ⟨g,o,none⟩) l c) ?_ (hK _ _ _ _ k (ha.put hd _) ?_)
 ·simp [execOp,ha.ev hx,convert,run_underlying i.lS,run_underlying j.lS,markStringish,World.shape?,hg]
 ·refine Sat.cL ?_ f2;refine fR.change (by simp [World.freeze]) (by simp [World.freeze]) (by simp [World.freeze]) fun h1 hle hA=>?_
  refine ⟨fun b=>if b=g then some (.cells cs.toArray T (cs.length,cs.length+1)) else none,?_,by simp [cK,Ob],?_,?_⟩
  ·intro b o hb
   by_cases eb:b=g
   ·subst eb;simp only [if_true] at hb;rw [← hb]
    simp [hp,World.freeze,Array.getElem?_modify,hg]
   ·simp [eb] at hb
  ·intro b o hb hn
   by_cases eb:b=g
   ·subst eb;rw [show h1 b=_ from hA] at hn;cases hn
   ·simp [eb] at hb
  ·intro b hn o ho;have:b≠g:=by rintro rfl;rw [show h1 b=_ from hA] at hn;cases hn
   simp only [hp] at ho ⊢
   simp [World.freeze,Array.getElem?_modify,this.symm,ho]
end
end Go.Bs
namespace Go.Bs
section
variable {P:Program} {N:Fr} {Q:fO} {σ:Env} {e:World} {L:List cJ} {all:Array Oper} {rest:List Oper}
variable {d:Nat} {op:Op} {ty:TypeId} {pos:String} {af:Array Edge} {gd:Option (Nat × Bool)} {K:Env→List cJ→Prop}
theorem cD.iQ {p:Prop} [Decidable p] (h:cD P N op ty (.bool (decide p)) σ e L) (hp:p):cD P N op ty (.bool true) σ e L:=by simpa [hp] using h
theorem cD.no {p:Prop} [Decidable p] (h:cD P N op ty (.bool (decide p)) σ e L) (hp:¬ p):cD P N op ty (.bool false) σ e L:=by simpa [hp] using h
theorem O.dec {p:Prop} [Decidable p] (h:cD P N op ty (.bool (decide p)) σ e L) (hd:Nat.blt d N.n=true) (h1:p→O P N all rest Q ((d,.bool true)::σ) e L) (h2:¬ p→O P N all rest Q ((d,.bool false)::σ) e L) :
 O P N all (⟨some d,op,ty,pos,af,none⟩::rest) Q σ e L:=by
 by_cases hp:p
 ·exact bx _ (h.iQ hp) hd (h1 hp)
 ·exact bx _ (h.no hp) hd (h2 hp)
theorem W.fe {c:Code} (σ':Env) (f:∀ k v,get σ' k=some v→get σ k=some v) (h:W P N c Q σ' e L):W P N c Q σ e L:=h.env f
class eu (P:Program) (t:TypeId) (nu:outParam (Array (Nat × Nat))) (z:outParam (Array Value)):Prop where
 run:∀ (pv:Array (Nat × Value)) (cells:Array Value) (w:World),Instr.fill (nu[·]?) z pv.toList=some cells→(Instr.build t pv).run P w=.ok (.agg cells) w
theorem bL {t:TypeId} {nu:Array (Nat × Nat)} {z:Array Value} {cells:List Value} {parts:List (Nat × Operand)} {vs:List (Nat × Value)} [i:eu P t nu z] (h:uU σ parts=some vs) (hc:Instr.fill (nu[·]?) z vs=some cells.toArray) :
 cD P N (.build t parts.toArray) ty (.agg cells.toArray) σ e L:=fun a w ha _ _ _ _ _=>by
 have UC:(parts.toArray.map fun x=>match x with|(i,x)=>(i,a.eval x)).toList=vs:=by
  have:=ha.uU h
  simpa using this
 have:=i.run (parts.toArray.map fun x=>match x with|(i,x)=>(i,a.eval x)) cells.toArray w (by rw [UC];exact hc);simp only [execOp,Sem.run_bind,Sem.run_pure,this,Result.andThen_ok]
theorem cD.max {k k':IntKind} {m n:Int} {x y:Operand} {ats:Array TypeId} (h:ev σ x=some (.int k m)) (h1:ev σ y=some (.int k' n)):cD P N (.call { callee:=.builtin .max,args:=#[x,y],argTypes:=ats }) ty (.int k (if n > m then n else m)) σ e L:=fun a w ha _ _ _ _ _=>by
 simp [execOp,resolve,invoke,builtin,ha.ev h,ha.ev h1,run_max_int2]
theorem cD.min {k k':IntKind} {m n:Int} {x y:Operand} {ats:Array TypeId} (h:ev σ x=some (.int k m)) (h1:ev σ y=some (.int k' n)):cD P N (.call { callee:=.builtin .min,args:=#[x,y],argTypes:=ats }) ty (.int k (if n<m then n else m)) σ e L:=fun a w ha _ _ _ _ _=>by
 simp [execOp,resolve,invoke,builtin,ha.ev h,ha.ev h1,run_min_int2]
theorem Gn {n k c lo:Nat} {ad:Option Addr} {xs:List Value} {R:List cJ} (h:lo≤k):cz (View n (.slice ad k c) k xs::R) (View n (.slice (cutAt ad c lo n) (k - lo) (c - lo)) (k - lo) (xs.drop (lo*n))::R) :=
 fun _=>mw fun _ x=>View.rG x h
theorem JD (w:World) (a:Addr) (n:Nat):(w.freeze a n).os=w.os∧(w.freeze a n).tape=w.tape∧(w.freeze a n).output=w.output:=by
 unfold World.freeze;split<;>exact ⟨rfl,rfl,rfl⟩
theorem wg (w:World) (g m:Nat) (cs:Array Value) (T:TypeId) (h:w.heap[g]?=some (.cells cs T (0,0))) (k:Nat) :
 (w.freeze ⟨g,m,none⟩ 1).heap[k]?=if k=g then some (.cells cs T (m,m+1)) else w.heap[k]?:=by
 simp only [World.freeze,aB (show ¬ (1=0) by omega)];rw [Array.getElem?_modify]
 by_cases e:g=k
 ·subst e;rw [aI rfl,aI rfl,h];rfl
 ·rw [aB e,aB (Ne.symm e)]
theorem Do.ofStr {t T el n:Nat} {x:Operand} {l:List UInt8} [i:je P t el n] [j:iu P el .u8] [s:u0 P T] (h:ev σ x=some (.string (str l))) (hl:l.length≤maxLen) (hd:Nat.blt d N.n=true)
 (k:∀ ad c,K ((d,.slice ad l.length c)::σ) (View 1 (.slice ad l.length c) l.length (l.map u8)::L)) :
 Do P N ⟨some d,.convert T t x,ty,pos,af,gd⟩ K σ e L:=fun a w ha hs K' Q' hK=>by
 have ln:=sZ l;have Ql:=grownCap_ge w l.length 0 el;have TT:=grownCap_le_maxLen w l.length 0 el hl;have X6:(str l).data.map (fun b=>Value.int .u8 b.toNat)=(l.map u8).toArray:=by simp [str];intro a _;rfl
 obtain ⟨xK,UE⟩:∃ xK:Array Value,xK=(l.map u8).toArray++Array.replicate (grownCap w l.length 0 el - l.length) (Value.int .u8 0):=⟨_,rfl⟩
 have fR:Sat e L w.drew:=hs;have UF:(w.drew.alloc (.cells xK el)).heap[w.heap.size]?=some (.cells xK el (0,0)):=heap_alloc_new w.drew _;refine eZ (w':=(w.drew.alloc (.cells xK el)).freeze ⟨w.heap.size,xK.size,none⟩ 1) (v:=.slice (some ⟨w.heap.size,0,none⟩) l.length (grownCap w l.length 0 el)) ?_ (hK _ _ _ _ (k _ _) (ha.put hd _) ?_)
 ·have Is:∀ o:Array Value,(w.drew.alloc (.cells o el)).shape? w.heap.size=some (el,o.size):=fun o=>by
   unfold World.shape?;rw [show (w.drew.alloc (.cells o el)).heap[w.heap.size]?=some (.cells o el) from heap_alloc_new w.drew _]
  have X7:(Conv.stringToBytes el (str l)).run P w=.ok (.slice (some ⟨w.heap.size,0,none⟩) l.length (grownCap w l.length 0 el)) ((w.drew.alloc (.cells xK el)).freeze ⟨w.heap.size,xK.size,none⟩ 1):=by
   unfold Conv.stringToBytes;simp only [Sem.run_bind,run_choose,Question.forced,Bool.false_eq_true,if_false,Result.andThen_ok,ln,X6];rw [show (Question.appendCap l.length 0 el).cut (w.tape w.drawn (Question.appendCap l.length 0 el))=grownCap w l.length 0 el from rfl,← UE];simp only [newRow,Sem.run_bind,run_newObj,Result.andThen_ok,Sem.run_pure,markStringish,run_shape];rw [show (World.shape? { heap:=w.heap.push (.cells xK el),tape:=w.tape,drawn:=w.drawn+1,os:=w.os,output:=w.output } w.heap.size)=some (el,xK.size) from Is xK]
   rfl
  simp only [execOp,ha.ev h,convert,Sem.run_bind,run_underlying i.lS,run_underlying j.lS,run_underlying s.lS,Result.andThen_ok,X7,Sem.run_pure]
 ·have m4:=fR.alloc (.cells xK el);have hf:=JD (w.drew.alloc (.cells xK el)) ⟨w.heap.size,xK.size,none⟩ 1;refine m4.change hf.1 hf.2.1 hf.2.2 fun h1 hle hA=>?_
  have AQ:h1 w.heap.size=some (.cells xK el):=hA;refine ⟨fun b=>if b=w.heap.size then some (.cells xK el (xK.size,xK.size+1)) else none,?_,?_,?_,?_⟩
  ·intro b o hb;simp only [hp];rw [wg _ _ _ _ _ UF]
   by_cases eb:b=w.heap.size
   ·rw [aI eb];simpa [eb] using hb
   ·simp [eb] at hb
  ·refine ⟨by simp,some ⟨w.heap.size,0,none⟩,_,rfl,Ql,TT,(fun e=>by cases e),fun j u hj=>⟨w.heap.size,0,rfl,?_⟩⟩;have cO:j<l.length:=by have:=(List.getElem?_eq_some_iff.1 hj).1;simpa using this
   unfold dj.cell;simp only [if_true,aC,Option.isSome_none,Bool.false_eq_true,if_false];rw [UE,Array.getElem?_append_left (by simpa using cO)]
   simpa using hj
  ·intro b o hb hn
   by_cases eb:b=w.heap.size
   ·subst eb;rw [AQ] at hn;cases hn
   ·simp [eb] at hb
  ·intro b hn o ho;have oG:b≠w.heap.size:=by rintro rfl;rw [AQ] at hn;cases hn
   simp only [hp] at ho ⊢
   rw [wg _ _ _ _ _ UF,aB oG];exact ho
theorem W.cut {x y:Code} (K:Env→World→Prop) (h1:W P N x (km K Q) σ e L) (h2:∀ σ' w,K σ' w→∀ a,Has N σ' a→y.wp P (WQ N Q) a w):W P N (.seq x y) Q σ e L :=
 W.seq (W.mono h1 fun x σ w q=>by cases x<;>first|exact h2 _ _ q|exact q)
theorem cD.Iu {t n:Nat} {x:Operand} {g o:Nat} {cs:List Value} [i:jf P t n] (h:ev σ x=some (.pointer (some ⟨g,o,none⟩))) (hl:cs.length=n) (r:∀ j u,cs[j]?=some u→Rd L ⟨g,o+j,none⟩ u) :
 cD P N (.load t x) ty (.agg cs.toArray) σ e L:=fun a w ha hs _ _ _ _=>by
 have h1:=run_loadCells_list (P:=P) w ⟨g,o,none⟩ cs (fun j u hj=>by rw [Addr.add_lit];exact (r j u hj).at hs);rw [hl] at h1
 simp [execOp,ha.ev h,Instr.loadAt,Instr.sureAddr,loadVar,i.ag,i.B7,h1]
inductive iw:List Value→Nat→List Value→List Value→Prop
 | nil {l:List Value} {n:Nat}:iw l n [] l
 | cons {l l' X8:List Value} {n:Nat} {v:Value} {vs:List Value}:gx l n v l'→iw l' (n+1) vs X8→iw l n (v::vs) X8
theorem p7 {g:Nat} {T:TypeId} {R:List cJ} {vs:List Value} {cs cs':List Value} {k off i:Nat} {w:World} (eK:iw cs k vs cs') (hk:off+i=k) (hs:Sat e (cK g cs T (0,0)::R) w) (h1:∀ v∈vs,v.oneCell'=true) :
 ∃ w',(storeCells ⟨g,off,none⟩ vs i).run P w=.ok () w'∧Sat e (cK g cs' T (0,0)::R) w':=by
 induction eK generalizing w i with
 | nil=>exact ⟨w,rfl,hs⟩
 | cons jL _ ih =>
  rename_i l l' X8 n v vs _;obtain ⟨rfl,cO⟩:=jL.eq;subst hk;have AW:w.cell? ⟨g,off+i,none⟩=some l[off+i]:=(bP (R:=R) (cs:=l) (T:=T) (fz:=(0,0)) .zero (by rw [iP];exact ab cO)).at hs
  have UD:w.frozen? ⟨g,off+i,none⟩=false:=by
   obtain ⟨h0,Dz,b,c,d',hA,hR⟩:=hs.2.2.2;have:=c _ _ hA;simp only [hp] at this
   simp [World.frozen?,this]
  obtain ⟨w',e1,e2⟩:=ih (i:=i+1) (by omega) (hs.setCell (off:=off+i) v) (fun u hu=>h1 u (aT _ hu));refine ⟨w',?_,e2⟩;simp only [storeCells,Sem.run_bind,Addr.add_lit,run_store P w _ v _ (h1 v (List.mem_cons_self ..)),AW,UD];exact e1
theorem Do.ek {t n:Nat} {x y:Operand} {g off:Nat} {vs:List Value} {cs cs':List Value} {T:TypeId} {L':List cJ} [i:jf P t n] (h:ev σ x=some (.pointer (some ⟨g,off,none⟩))) (h1:ev σ y=some (.agg vs.toArray)) (hn:vs.length=n) (hv:∀ v∈vs,v.oneCell'=true)
 (u:wb L (cK g cs T (0,0)) (cK g cs' T (0,0)) L') (jL:iw cs off vs cs') (k:K σ L') :
 Do P N ⟨none,.store t x y,ty,pos,af,gd⟩ K σ e L:=fun a w ha hs K' Q' hK=>by
 obtain ⟨R,f1,f2⟩:=u.split;obtain ⟨w',e1,e2⟩:=p7 (P:=P) (off:=off) (i:=0) jL rfl (hs.cL f1) hv;refine l5 (w':=w') ?_ (hK _ _ _ _ k ha (e2.cL f2))
 simp [execOp,ha.ev h,ha.ev h1,Instr.storeAt,Instr.sureAddr,storeVar,Value.cells,i.B7,hn,e1]
end
end Go.Bs
namespace Go.Bs
section
variable {P:Program} {ops:Array Oper}
def wpS (P:Program) (ops:Array Oper) (Q:Exit→Act→World→Prop) (S:Array Bool→World→Prop):Nat→Array Bool→Act→World→Prop
 | 0,l,a,w=>Region.ready .any ops l=[]∧Q .normal a w
 | n+1,l,a,w=>(Region.ready .any ops l=[]→Q .normal a w) ∧
  ∀ i∈Region.ready .any ops l,wpOp P ops Q i (fun a' w'=>S (l.setIfInBounds i true) w'∧wpS P ops Q S n (l.setIfInBounds i true) a' w') a w
theorem xQ {Q:Exit→Act→World→Prop} {S:Array Bool→World→Prop}:∀ (n:Nat) (l:Array Bool) (a:Act) (w:World),wpS P ops Q S n l a w→wpAny P .any ops Q n l a w
 | 0,_,_,_,h=>h
 | n+1,_,_,_,h=>⟨h.1,fun i hi=>wpOp_mono (fun a' w' h'=>xQ n _ a' w' h'.2) (h.2 i hi)⟩
def fp (T:List Nat) (l:Array Bool):Bool:=T.all fun t=>!l.getD t false
def JE (T:List Nat) (S0:World→Prop):Array Bool→World→Prop:=fun l w=>fp T l=true→S0 w
def waits (ops:Array Oper) (T:List Nat) (i:Nat):Bool:=T.all fun t=>match ops[t]? with
 | some o=>o.after.any fun e=>Region.binds .any e && e.on == i
 | none=>false
theorem Gp {T:List Nat} {i:Nat} (h:waits ops T i=true) {t:Nat} (ht:t∈T):∃ o,ops[t]?=some o∧∃ e∈o.after,Region.binds .any e=true∧e.on=i:=by
 unfold waits at h
 have:=List.all_eq_true.1 h t ht
 cases ho:ops[t]? with
 | none=>rw [ho] at this;cases this
 | some o =>
  rw [ho] at this
  obtain ⟨e,he,hb⟩:=Array.any_eq_true'.1 this;simp only [Bool.and_eq_true,beq_iff_eq] at hb
  exact ⟨o,rfl,e,he,hb.1,hb.2⟩
theorem oL {T:List Nat} {l:Array Bool} {j:Nat} (h:fp T l=true) (hj:j ∉ T):fp T (l.setIfInBounds j true)=true:=by
 unfold fp at *
 refine List.all_eq_true.2 fun t ht=>?_
 have:=List.all_eq_true.1 h t ht;have oG:j≠t:=by rintro rfl;exact hj ht
 rw [getD_set_ne false oG];exact this
theorem AZ {T:List Nat} {l:Array Bool} {i j:Nat} (hw:waits ops T i=true) (hi:l.getD i true=false) (hj:j∈Region.ready .any ops l):j ∉ T:=fun ht=>by
 obtain ⟨o,ho,e,he,hb,z8⟩:=Gp hw ht;obtain ⟨_,o',Qm,eT⟩:=mem_ready.1 hj;rw [ho] at Qm;cases Qm
 have h1:=eT e he hb;rw [z8] at h1
 rcases Nat.lt_or_ge i l.size with h'|h'
 ·simp [h'] at h1 hi;rw [hi] at h1;cases h1
 ·simp [Array.getElem?_eq_none h'] at h1
theorem JF {Q:Exit→Act→World→Prop} {T:List Nat} {S0:World→Prop} {i:Nat} {oi:Oper} {v:Value} (hi:ops[i]?=some oi) (UG:∀ (j:Nat) (o:Oper) cs b,ops[j]?=some o→o.op≠.select cs b)
 (hQ:∀ c a w,Q (.panic c) (a.put oi.dst v) w→Q (.panic c) a w) (hw:waits ops T i=true) :
 ∀ (n:Nat) (l:Array Bool) (a:Act) (w:World),
  (∀ j oj,ops[j]?=some oj→j≠i→l.getD j true=false→(∀ e∈oj.after,Region.binds .any e=true→e.on≠i)→oi.apart ops oj=true) →
  i∈Region.ready .any ops l→YieldsIf P ops S0 oi v a→fp T l=true→S0 w →
  wpS P ops Q (JE T S0) n (l.setIfInBounds i true) (a.put oi.dst v) w→wpS P ops Q (JE T S0) (n+1) l a w:=by
 intro n
 induction n with
 | zero =>
  intro l a w _ hr hy hT hS H;refine ⟨fun h=>(by rw [h] at hr;cases hr),fun j hj=>?_⟩
  by_cases A3:j=i
  ·subst A3;exact hy.wpOp hi hS ⟨fun _=>hS,H⟩
  ·have:=ready_mono hj A3;rw [H.1] at this
   cases this
 | succ n ih =>
  intro l a w Qn hr hy hT hS H;have Gq:l.getD i true=false:=(mem_ready.1 hr).1;refine ⟨fun h=>(by rw [h] at hr;cases hr),fun j hj=>?_⟩
  by_cases A3:j=i
  ·subst A3;exact hy.wpOp hi hS ⟨fun _=>hS,H⟩
  ·have h1:=H.2 j (ready_mono hj A3);obtain ⟨UH,oj,X9,eT⟩:=mem_ready.1 hj;have hjT:j ∉ T:=AZ hw Gq hj;have hiT:i ∉ T:=AZ hw Gq hr
   have Gr:∀ e∈oj.after,Region.binds .any e=true→e.on≠i:=fun e he hb heq=>by
    have h1:=eT e he hb;rw [heq] at h1
    rcases Nat.lt_or_ge i l.size with h'|h'
    ·simp [h'] at Gq h1;rw [Gq] at h1;cases h1
    ·simp [Array.getElem?_eq_none h'] at h1
   have h2:=wpOp_putIf X9 (Qn j oj X9 A3 UH Gr) (fun cs b=>UG i oi cs b hi) (fun cs b=>UG j oj cs b X9) hQ hy h1;have Rp:∀ k ok,ops[k]?=some ok→k≠i→(l.setIfInBounds j true).getD k true=false →
    (∀ e∈ok.after,Region.binds .any e=true→e.on≠i)→oi.apart ops ok=true:=fun k ok hk Qo UI lT=>by
    refine Qn k ok hk Qo ?_ lT
    by_cases Xm:j=k
    ·subst Xm;exact UH
    ·rw [getD_set_ne true Xm] at UI;exact UI
   refine wpOp_mono (fun a' w' h3=>?_) h2;have hS':S0 w':=h3.2.1 (oL (oL hT hiT) hjT);refine ⟨fun _=>hS',ih (l.setIfInBounds j true) a' w' Rp (ready_mono hr (Ne.symm A3)) h3.1 (oL hT hjT) hS' ?_⟩;rw [Array.setIfInBounds_comm _ _ A3];exact h3.2.2
end
section
variable {P:Program} {N:Fr} {Q:fO} {σ:Env} {e:World} {L:List cJ} {ops:Array Oper} {T:List Nat} {R0:List cJ} {n:Nat} {l:Array Bool}
variable {d:Nat} {op:Op} {ty:TypeId} {pos:String} {af:Array Edge}
def A (P:Program) (N:Fr) (ops:Array Oper) (T:List Nat) (R0:List cJ) (n:Nat) (l:Array Bool) (Q:fO) (σ:Env) (e:World) (L:List cJ):Prop :=
 ∀ a w,Has N σ a→Sat e L w→wpS P ops (WQ N Q) (JE T (Sat e R0)) n l a w
theorem bk {id:Nat} {os:List Oper} (T:List Nat) (R0:List cJ) (hm:P.follows .mixedOrders=true) (h:A P N os.toArray T R0 os.length (Array.replicate os.length false) Q σ e L):W P N (.region id os.toArray true) Q σ e L:=fun a w ha hs=>by
 refine wp_region_any hm (xQ (S:=JE T (Sat e R0)) _ _ _ _ ?_);have:=h a { w with drawn:=w.drawn+1 } ha hs
 simpa using this
theorem bz {id:Nat} {os:List Oper} (T:List Nat) (hm:P.follows .mixedOrders=true) (h:A P N os.toArray T L os.length (Array.replicate os.length false) Q σ e L):W P N (.region id os.toArray true) Q σ e L:=bk T L hm h
def nd (ops:Array Oper) (T:List Nat) (l:Array Bool) (i:Nat):Bool :=
 Region.noSelect ops && Region.free .any ops l i && (Region.ready .any ops l).contains i && waits ops T i && fp T l
theorem UJ {dst:Option Tmp} {v:Value}:∀ c (a:Act) w,WQ N Q (.panic c) (Act.put a dst v) w→WQ N Q (.panic c) a w:=fun _ _ _ h=>h
theorem A.xR {i:Nat} {o:Oper} {v:Value} (hi:ops[i]?=some o) (hb:nd ops T l i=true) (hL:cz L R0) (hy:∀ a,Has N σ a→YieldsIf P ops (Sat e R0) o v a) (σ':Env) (hσ:∀ a,Has N σ a→Has N σ' (a.put o.dst v))
 (k:A P N ops T R0 n (l.setIfInBounds i true) Q σ' e L):A P N ops T R0 (n+1) l Q σ e L:=fun a w ha hs=>by
 simp only [nd,Bool.and_eq_true] at hb
 obtain ⟨⟨⟨⟨h1,h2⟩,h3⟩,h4⟩,h5⟩:=hb;exact JF hi (Region.noSelect_spec h1) UJ h4 n l a w (Region.free_spec hi h2) (by simpa using h3) (hy a ha) h5 (hs.cL hL) (k _ w (hσ a ha) hs)
theorem bG (i:Nat) (v:Value) (hi:ops[i]?=some ⟨some d,op,ty,pos,af,none⟩) (hb:nd ops T l i=true) (hL:cz L R0) (hv:cD P N op ty v σ e R0) (hd:Nat.blt d N.n=true)
 (k:A P N ops T R0 n (l.setIfInBounds i true) Q ((d,v)::σ) e L):A P N ops T R0 (n+1) l Q σ e L :=
 A.xR hi hb hL (fun a ha=>.inl ⟨rfl,fun w hw=>hv a w ha hw _ _ _ _⟩) _ (fun _ ha=>ha.put hd v) k
theorem A.UK (i:Nat) (v:Value) {j:Nat} {want:Bool} (hi:ops[i]?=some ⟨some d,op,ty,pos,af,some (j,want)⟩) (hg:p0 σ ops j want=some true) (hb:nd ops T l i=true) (hL:cz L R0) (hv:cD P N op ty v σ e R0) (hd:Nat.blt d N.n=true)
 (k:A P N ops T R0 n (l.setIfInBounds i true) Q ((d,v)::σ) e L):A P N ops T R0 (n+1) l Q σ e L :=
 A.xR hi hb hL (fun a ha=>.inl ⟨nO ha hg,fun w hw=>hv a w ha hw _ _ _ _⟩) _ (fun _ ha=>ha.put hd v) k
theorem bc (i:Nat) {j:Nat} {want:Bool} (hi:ops[i]?=some ⟨some d,op,ty,pos,af,some (j,want)⟩) (hg:p0 σ ops j want=some false) (hb:nd ops T l i=true) (hL:cz L R0) (hd:Nat.blt d N.n=true)
 (k:A P N ops T R0 n (l.setIfInBounds i true) Q ((d,undef)::σ) e L):A P N ops T R0 (n+1) l Q σ e L :=
 A.xR hi hb hL (fun a ha=>.inr ⟨nO ha hg,rfl⟩) _ (fun _ ha=>ha.put hd _) k
theorem td {i:Nat} {o:Oper} {K:Env→List cJ→Prop} {K':Act→World→Prop} {Q':Exit→Act→World→Prop} {a:Act} {w:World} (hi:ops[i]?=some o) (hg:Region.wanted o (yielded ops a.tmps)=true) (h:Do P N o K σ e L) (ha:Has N σ a) (hs:Sat e L w)
 (hK:∀ σ' L' a' w',K σ' L'→Has N σ' a'→Sat e L' w'→K' a' w'):wpOp P ops Q' i K' a w:=by
 unfold wpOp;simp only [hi,hg,if_true];exact .inl (h a w ha hs K' Q' hK)
theorem A.OB (i:Nat) {p:Prop} [Decidable p] (hi:ops[i]?=some ⟨some d,op,ty,pos,af,none⟩) (hb:nd ops T l i=true) (hL:cz L R0) (hv:cD P N op ty (.bool (decide p)) σ e R0) (hd:Nat.blt d N.n=true)
 (k1:p→A P N ops T R0 n (l.setIfInBounds i true) Q ((d,.bool true)::σ) e L) (k2:¬ p→A P N ops T R0 n (l.setIfInBounds i true) Q ((d,.bool false)::σ) e L):A P N ops T R0 (n+1) l Q σ e L:=by
 by_cases hp:p
 ·exact bG i _ hi hb hL (hv.iQ hp) hd (k1 hp)
 ·exact bG i _ hi hb hL (hv.no hp) hd (k2 hp)
theorem Iv {C:Prop} (h:fp T l=false):fp T l=true→C:=fun h1=>by rw [h] at h1;cases h1
theorem DN {Q:Exit→Act→World→Prop} {S S':Array Bool→World→Prop} (f:∀ l w,S' l w→S l w):∀ (n:Nat) (l:Array Bool) (a:Act) (w:World),wpS P ops Q S' n l a w→wpS P ops Q S n l a w
 | 0,_,_,_,h=>h
 | n+1,_,_,_,h=>⟨h.1,fun i hi=>wpOp_mono (fun a' w' h'=>⟨f _ _ h'.1,DN f n _ a' w' h'.2⟩) (h.2 i hi)⟩
theorem A.grow (R1:List cJ) (f:cz R1 R0) (h:A P N ops T R1 n l Q σ e L):A P N ops T R0 n l Q σ e L:=fun a w ha hs =>
 DN (fun _ _ hh hu=>(hh hu).cL f) n l a w (h a w ha hs)
theorem W.fo {c:Code} {L':List cJ} (f:cz L L') (h:W P N c Q σ e L'):W P N c Q σ e L:=h.cL f
theorem A.fo {L':List cJ} (f:cz L L') (h:A P N ops T R0 n l Q σ e L'):A P N ops T R0 n l Q σ e L:=fun a w ha hs=>h a w ha (hs.cL f)
theorem A.fS (f:cz L R0) (h:A P N ops T L n l Q σ e L):A P N ops T R0 n l Q σ e L:=A.grow L f h
theorem A.one (i:Nat) {dst:Option Tmp} (hi:ops[i]?=some ⟨dst,op,ty,pos,af,none⟩) (hr:((Region.ready .any ops l) == [i])=true) (h:Do P N ⟨dst,op,ty,pos,af,none⟩ (fun σ' L'=>(fp T (l.setIfInBounds i true)=true→cz L' R0)∧A P N ops T R0 n (l.setIfInBounds i true) Q σ' e L') σ e L) :
 A P N ops T R0 (n+1) l Q σ e L:=fun a w ha hs=>by
 have LQ:=eq_of_beq hr;refine ⟨fun h0=>(by rw [LQ] at h0;cases h0),fun j hj=>?_⟩;rw [LQ] at hj
 simp only [an] at hj
 subst hj;exact td hi rfl h ha hs fun σ' L' a' w' ⟨h1,h2⟩ DA oF=>⟨fun hu=>oF.cL (h1 hu),h2 a' w' DA oF⟩
theorem A.rv (i:Nat) {dst:Option Tmp} {j:Nat} {want:Bool} (hi:ops[i]?=some ⟨dst,op,ty,pos,af,some (j,want)⟩) (hg:p0 σ ops j want=some true) (hr:((Region.ready .any ops l) == [i])=true) (h:Do P N ⟨dst,op,ty,pos,af,some (j,want)⟩ (fun σ' L'=>(fp T (l.setIfInBounds i true)=true→cz L' R0)∧A P N ops T R0 n (l.setIfInBounds i true) Q σ' e L') σ e L) :
 A P N ops T R0 (n+1) l Q σ e L:=fun a w ha hs=>by
 have LQ:=eq_of_beq hr;refine ⟨fun h0=>(by rw [LQ] at h0;cases h0),fun k hj=>?_⟩;rw [LQ] at hj
 simp only [an] at hj
 subst hj;exact td hi (nO ha hg) h ha hs fun σ' L' a' w' ⟨h1,h2⟩ DA oF=>⟨fun hu=>oF.cL (h1 hu),h2 a' w' DA oF⟩
theorem A.two (i j:Nat) {o1 o2:Oper} (hi:ops[i]?=some o1) (hj:ops[j]?=some o2) (hg1:o1.guard=none) (UL:o2.guard=none) (hr:((Region.ready .any ops l) == [i,j])=true)
 (h1:Do P N o1 (fun σ' L'=>(fp T (l.setIfInBounds i true)=true→cz L' R0)∧A P N ops T R0 n (l.setIfInBounds i true) Q σ' e L') σ e L)
 (h2:Do P N o2 (fun σ' L'=>(fp T (l.setIfInBounds j true)=true→cz L' R0)∧A P N ops T R0 n (l.setIfInBounds j true) Q σ' e L') σ e L) :
 A P N ops T R0 (n+1) l Q σ e L:=fun a w ha hs=>by
 have LQ:=eq_of_beq hr;refine ⟨fun h0=>(by rw [LQ] at h0;cases h0),fun k hk=>?_⟩;rw [LQ] at hk
 simp only [aQ,aP,or_false] at hk
 rcases hk with rfl|rfl
 ·exact td hi (by simp [Region.wanted,hg1]) h1 ha hs fun σ' L' a' w' ⟨h1,h2⟩ DA oF=>⟨fun hu=>oF.cL (h1 hu),h2 a' w' DA oF⟩
 ·exact td hj (by simp [Region.wanted,UL]) h2 ha hs fun σ' L' a' w' ⟨h1,h2⟩ DA oF=>⟨fun hu=>oF.cL (h1 hu),h2 a' w' DA oF⟩
theorem bf (hr:(Region.ready .any ops l).isEmpty=true) (h:Fin Q .normal σ e L):A P N ops T R0 n l Q σ e L:=fun a w ha hs=>by
 have LQ:Region.ready .any ops l=[]:=by simpa using hr
 cases n with
 | zero=>exact ⟨LQ,σ,ha,h w hs⟩
 | succ n=>exact ⟨fun _=>⟨σ,ha,h w hs⟩,fun i hi=>by rw [LQ] at hi;cases hi⟩
end
end Go.Bs
namespace Go.Bs
section
variable {P:Program} {N:Fr} {Q:fO} {σ:Env} {e:World} {L:List cJ} {all:Array Oper} {rest:List Oper}
variable {d:Nat} {op:Op} {ty:TypeId} {pos:String} {af:Array Edge} {gd:Option (Nat × Bool)} {K:Env→List cJ→Prop} {x y:Operand} {t t':TypeId} {k k':IntKind} {m n:Int}
theorem cD.rem (h:ev σ x=some (.int k m)) (h1:ev σ y=some (.int k n)) (h0:n≠0):cD P N (.binOp .rem t x y t') ty (.int k (m.tmod n)) σ e L:=fun a w ha _ _ _ _ _=>by
 simp [execOp,ha.ev h,ha.ev h1,eqGuard,binOp,Op.intDiv,h0]
theorem cD.quo (h:ev σ x=some (.int k m)) (h1:ev σ y=some (.int k n)) (h0:n≠0):cD P N (.binOp .quo t x y t') ty (.int k (k.wrap (m.tdiv n))) σ e L:=fun a w ha _ _ _ _ _=>by
 simp [execOp,ha.ev h,ha.ev h1,eqGuard,binOp,Op.intDiv,h0]
theorem bl {vs:List Value} {i:Nat} {v:Value} (h:ev σ x=some (.tuple vs.toArray)) (hv:nth vs i=some v):cD P N (.extract x i) ty v σ e L:=fun a w ha _ _ _ _ _=>by
 rw [iP] at hv
 simp [execOp,ha.ev h,Instr.extract,hv]
theorem cD.jZ (h:ev σ x=some (.bool true)):cD P N (.unOp .not t x) ty (.bool false) σ e L:=cD.not h
theorem cD.p8 (h:ev σ x=some (.bool false)):cD P N (.unOp .not t x) ty (.bool true) σ e L:=cD.not h
theorem bO {R:List cJ} {g c n:Nat} {xs:List Value} {T:TypeId} {fz:Nat × Nat} (p:cR L (cK g xs T fz) R) (hk:xs.length=c*n) (hm:c≤maxLen):cE L n (.slice (some ⟨g,0,none⟩) c c) c xs:=fun h x =>
 ⟨hk,some ⟨g,0,none⟩,c,rfl,aS _,hm,(fun e=>by cases e),fun j u hj=>⟨g,0,rfl,by
  rw [aC];exact bP p (by rw [iP];exact hj) h x⟩⟩
theorem cD.ix {el l c g o i:Nat} [s:je P t el 1] (h:ev σ x=some (.slice (some ⟨g,o,none⟩) l c)) (h1:ev σ y=some (.int k (i:Int))) (hl:i<l):cD P N (.indexAddr t x y) ty (.pointer (some ⟨g,o+i,none⟩)) σ e L:=by
 have:=bD (P:=P) (N:=N) (ty:=ty) (e:=e) (L:=L) (t:=t) h h1 hl
 rwa [Nat.mul_one] at this
theorem nP {E:TypeId} {n k c lo:Nat} {ad:Option Addr} {xs:List Value} {R:List cJ} (h:lo≤k):cz (dE E n (.slice ad k c) k xs::R) (dE E n (.slice ad lo c) lo (xs.take (lo*n))::R):=fun _=>mw fun _ ⟨hl,hA⟩=>by
 have hle:lo*n≤k*n:=Nat.mul_le_mul_right _ h;refine ⟨by rw [aF];omega,?_⟩;rcases hA with ⟨hv,hk⟩|⟨g,cap,cur,hv,hg,r1,r2,r3,r4⟩
 ·cases hv
  left
  exact ⟨by rw [show lo=0 by omega],by omega⟩
 ·cases hv
  refine .inr ⟨g,_,cur,rfl,hg,by omega,r2,r3,?_⟩;rw [← r4,List.take_take,Nat.min_eq_left hle]
theorem eQ {v:Value} (h:v.oneCell'=true):v.cells=#[v]:=by
 cases v<;>first|rfl|simp [Value.oneCell'] at h
def Rq (v:Value) (k:Nat):Prop:=∃ ad cap,v=.slice ad k cap∧k≤cap∧cap≤maxLen∧((ad=none∧cap=0∧k=0)∨∃ g,ad=some ⟨g,0,none⟩)
theorem fP {E:TypeId} {n k:Nat} {v:Value} {xs:List Value} {R:List cJ} (p:cR L (dE E n v k xs) R):∀ h,dN L h→Rq v k∧xs.length=k*n:=fun h x=>by
 obtain ⟨hl,hA⟩:=oJ (p.out h x);refine ⟨?_,hl⟩;rcases hA with ⟨hv,hk,_⟩|⟨g,cap,cur,hv,r1,r2,r3,r4,_⟩
 ·exact ⟨none,0,by rw [hv,hk],by omega,by simp [maxLen],.inl ⟨rfl,rfl,hk⟩⟩
 ·exact ⟨_,cap,hv,r1,r2,.inr ⟨g,rfl⟩⟩
theorem Do.p9 {g c kk nn off:Nat} {E:TypeId} {v:Value} {xs:List Value} {R:List cJ} [i:dL P t] (h:ev σ x=some (.pointer (some ⟨g,off,none⟩))) (h1:ev σ y=some v) (hv:v.oneCell'=true)
 (p:cR L (dE E nn (.slice (some ⟨g,0,none⟩) kk c) kk xs) R) (ho:off<kk*nn) (k:K σ (dE E nn (.slice (some ⟨g,0,none⟩) kk c) kk (xs.set off v)::R)) :
 Do P N ⟨none,.store t x y,ty,pos,af,gd⟩ K σ e L:=fun a w ha hs K' Q' hK=>by
 have fR:=hs.cL p.out;obtain ⟨hl,hA⟩:=oJ fR.2.2.2;rcases hA with ⟨lU,_⟩|⟨g',cap,cur,lU,r1,r2,r3,r4,hB⟩
 ·cases lU
 ·cases lU
  have m4:Sat e (cK g cur E (0,0)::R) w:=⟨hs.1,hs.2.1,hs.2.2.1,hB⟩
  have cO:off<cur.length:=by
   have:=Nat.mul_le_mul_right nn r1
   omega
  refine b7 (P:=P) (N:=N) (ty:=ty) (pos:=pos) (af:=af) (gd:=gd) (K:=fun σ' L'=>σ'=σ∧L'=cK g (cur.set off v) E (0,0)::R) h h1 hv .zero (gx.of v cO) ⟨rfl,rfl⟩ a w ha m4 K' Q' (fun σ' L' a' w' ⟨e1,e2⟩ DA oF=>?_);subst e1 e2;have gy:=hH (E:=E) (n:=nn) (g:=g) (R:=R) (cur:=cur.set off v) r1 r2 (by rw [List.length_set];exact r3);rw [List.take_set,r4] at gy
  exact hK _ _ _ _ k DA (oF.cL gy)
theorem Do.makeSlice {el nn b c:Nat} {z z0:Value} {k1 k2:IntKind} [i:je P t el nn] [j:ru P el z 1 b] (hx:ev σ x=some (.int k1 (c:Int))) (hy:ev σ y=some (.int k2 (c:Int))) (hd:Nat.blt d N.n=true) (hz:z.cells=#[z0]) (Ir:c≤maxLen) (hb:c*b≤140737488355328)
 (kk:∀ g,K ((d,.slice (some ⟨g,0,none⟩) c c)::σ) (dE el 1 (.slice (some ⟨g,0,none⟩) c c) c (List.replicate c z0)::L)) :
 Do P N ⟨some d,.makeSlice t x y,ty,pos,af,gd⟩ K σ e L:=fun a w ha hs K' Q' hK=>by
 obtain ⟨ti,t1,t2,t3,t4⟩:=j.parts;subst t4
 have tc:(ti.bytes:Int)*(c:Int)≤281474976710656:=by
  have h:((ti.bytes*c:Nat):Int)≤281474976710656:=by rw [Nat.mul_comm];omega
  rwa [Int.natCast_mul] at h
 have hr:=run_make (P:=P) w t el ti z i.lS t1 t2 k1 k2 c c (by omega) (Int.le_refl _) tc (by simp only [maxLen] at Ir;omega);simp only [Int.toNat_natCast,t3,Nat.mul_one] at hr
 have hm:(madeCells z.cells c).toList=List.replicate c z0:=by
  rw [hz];apply List.ext_getElem?;intro q;simp only [madeCells,Array.toList_map,aL,Array.toList_range,List.getElem?_replicate]
  by_cases hq:q<c
  ·simp [hq,Nat.mod_one]
  ·simp [hq]
 refine eZ (w':=w.alloc (.cells (madeCells z.cells c) el)) (v:=.slice (some ⟨w.heap.size,0,none⟩) c c) (by simp [execOp,ha.ev hx,ha.ev hy,hr]) (hK _ _ _ _ (kk _) (ha.put hd _) ?_);have F7:=(hs.alloc (.cells (madeCells z.cells c) el)).cL (ta _ _ _ _);rw [hm] at F7
 have gy:=hH (E:=el) (n:=1) (g:=w.heap.size) (k:=c) (cap:=c) (cur:=List.replicate c z0) (R:=L) (aS _) Ir (by simp);rw [aG (by simp)] at gy
 exact F7.cL gy
theorem cD.makeFunc {f:FuncId} {xs ys:List Operand} {us vs:List Value} (h:pZ σ xs=some us) (h1:pZ σ ys=some vs):cD P N (.makeFunc (.func f) xs.toArray ys.toArray) ty (.func (.func f) us.toArray vs.toArray) σ e L:=fun a w ha _ _ _ _ _=>by
 simp [execOp,Instr.makeFunc,ha.pZ h,ha.pZ h1]
theorem Do.gB {f g:FuncId} {us ws:List Value} {xs:List Operand} {vs:List Value} {ats:Array TypeId} {Post:Value→List cJ→Prop}
 [i:cI P f g] (hf:ev σ x=some (.func (.func f) us.toArray ws.toArray)) (hx:pZ σ xs=some vs) (hd:Nat.blt d N.n=true) (h:Ct P g (us++vs++ws).toArray e L Post) (k:∀ v L',Post v L'→K ((d,v)::σ) L') :
 Do P N ⟨some d,.call { callee:=.value x,args:=xs.toArray,argTypes:=ats },ty,pos,af,gd⟩ K σ e L:=by
 intro a w ha hs K' Q' hK;unfold Oper.wp
 have h1:execOp a.eval ⟨some d,.call { callee:=.value x,args:=xs.toArray,argTypes:=ats },ty,pos,af,gd⟩=callFunc f (us.toArray++xs.toArray.map a.eval++ws.toArray):=by
  simp only [execOp,resolve,ha.ev hf,Deferred.ofValue]
  rfl
 have h2:(us.toArray++xs.toArray.map a.eval++ws.toArray:Array Value)=(us++vs++ws).toArray:=by simp [ha.pZ hx]
 rw [h1,h2,i.run,Oper.upon_enter];refine (h w hs).mono ?_;rintro x w' ⟨v,L',rfl,hp,oF⟩;exact hK _ _ _ _ (k v L' hp) (ha.put hd v) oF
end
end Go.Bs
namespace Go.Bs
section
variable {P:Program} {N:Fr} {Q:fO} {σ:Env} {e:World} {L:List cJ} {all:Array Oper} {rest:List Oper}
variable {d:Nat} {op:Op} {ty:TypeId} {pos:String} {af:Array Edge} {gd:Option (Nat × Bool)} {K:Env→List cJ→Prop} {x y:Operand} {t t':TypeId} {k k':IntKind}
def Iw {ι:Type} (Iσ:ι→Env) (IL:ι→List cJ) (IP:ι→Prop) (e:World):Env→World→Prop:=fun σ' w'=>∃ j,IP j∧(∀ k v,get (Iσ j) k=some v→get σ' k=some v)∧Sat e (IL j) w'
theorem W.gM {c y:Code} {ι:Type} (Iσ:ι→Env) (IL:ι→List cJ) (IP:ι→Prop) (h2:∀ i,IP i→W P N y Q (Iσ i) e (IL i)) (h1:W P N c (km (Iw Iσ IL IP e) Q) σ e L):W P N (.seq c y) Q σ e L :=
 W.cut _ h1 fun σ' w ⟨j,hj,hs,hw⟩ a ha=>h2 j hj a w (ha.sub hs) hw
theorem jE {α:Sort _} {f:α→cJ} {R L':List cJ} (h:∀ x,cz (f x::R) L'):cz (Ex f::R) L':=fun hh x=>by
 obtain ⟨y,hy⟩:=xJ x;exact h y hh hy
theorem rW {p:Prop} {R L':List cJ} (h:p→cz R L'):cz (Pu p::R) L':=fun hh x=>h (jR x).1 hh (jR x).2
theorem Cb {p:Prop} {L L1:List cJ} (g:∀ h,dN L1 h→p) (f:cz L L1):∀ h,dN L h→p:=fun h x=>g h (f h x)
theorem Ix:∀ c∈([]:List Value),c.oneCell'=true:=fun _ h=>by cases h
theorem DO {v:Value} {l:List Value} (h:v.oneCell'=true) (h':∀ c∈l,c.oneCell'=true):∀ c∈v::l,c.oneCell'=true:=fun c hc=>by
 rcases aQ.1 hc with rfl|hc
 ·exact h
 ·exact h' c hc
theorem cD.xS {s:TypeId} {m:Int} [i:iu P s k] [j:iu P t k'] (h:ev σ x=some (.int k m)) (hw:k'.wrap m=m):cD P N (.convert s t x) ty (.int k' m) σ e L:=by
 have:=cD.jP (P:=P) (N:=N) (ty:=ty) (e:=e) (L:=L) (s:=s) (t:=t) h
 rwa [hw] at this
structure Halt (p:Prop):Prop where
 go:p
theorem W.u2 {id:Nat} {os:Array Oper} {b:Bool} {c z:Code} {ι:Type} (Iσ:ι→Env) (IL:ι→List cJ) (IP:ι→Prop) (h2:∀ i,IP i→W P N (.seq (.region id os b) z) Q (Iσ i) e (IL i)) (h1:Halt (W P N c (km (Iw Iσ IL IP e) Q) σ e L)):W P N (.seq c (.seq (.region id os b) z)) Q σ e L:=W.gM Iσ IL IP h2 h1.go
theorem W.pF {id:Nat} {os:Array Oper} {b:Bool} {c y z:Code} {ι:Type} (Iσ:ι→Env) (IL:ι→List cJ) (IP:ι→Prop) (h2:∀ i,IP i→W P N (.seq (.seq (.region id os b) y) z) Q (Iσ i) e (IL i)) (h1:Halt (W P N c (km (Iw Iσ IL IP e) Q) σ e L)):W P N (.seq c (.seq (.seq (.region id os b) y) z)) Q σ e L:=W.gM Iσ IL IP h2 h1.go
theorem bJ {ι:Type} {Iσ:ι→Env} {IL:ι→List cJ} {IP:ι→Prop} (j:ι) (hj:IP j) (hσ:∀ k v,get (Iσ j) k=some v→get σ k=some v) (hL:cz L (IL j)) :
 Fin (km (Iw Iσ IL IP e) Q) .normal σ e L:=fun _ hs=>⟨j,hj,hσ,hs.cL hL⟩
theorem Sat.Iy {g c kk nn o:Nat} {E:TypeId} {xs ys cur:List Value} {R:List cJ} {w:World} (hs:Sat e (cK g cur E (0,0)::R) w) (hl:o+ys.length≤cur.length) :
 Sat e (cK g (cur.take o++ys++cur.drop (o+ys.length)) E (0,0)::R) (w.setRow g (cur.take o++ys++cur.drop (o+ys.length)).toArray):=by
 have hg:w.heap[g]?=some (.cells cur.toArray E (0,0)):=by
  obtain ⟨Dz,TR,_,b',_,AQ,_⟩:=hs.2.2.2;exact b' g _ AQ
 refine hs.change rfl rfl rfl fun Dz hle AQ=>?_
 refine ⟨fun b=>if b=g then some (.cells (cur.take o++ys++cur.drop (o+ys.length)).toArray E (0,0)) else none,?_,by simp [cK,Ob],?_,?_⟩
 ·intro b o' hb
  by_cases eb:b=g
  ·subst eb;simp only [if_true] at hb;rw [← hb];exact setRow_heap w b cur.toArray _ E _ hg
  ·simp [eb] at hb
 ·intro b o' hb hn
  by_cases eb:b=g
  ·subst eb;rw [show Dz b=_ from AQ] at hn;cases hn
  ·simp [eb] at hb
 ·intro b hn o' ho;have:b≠g:=by rintro rfl;rw [show Dz b=_ from AQ] at hn;cases hn
  exact (setRow_other w g b _ this).trans ho
theorem u3 {α:Type} (cur ys:List α) (o m:Nat) (h:o+ys.length≤m) (h2:m≤cur.length):(cur.take o++ys++cur.drop (o+ys.length)).take m=(cur.take m).take o++ys++(cur.take m).drop (o+ys.length):=by
 rw [List.take_take,Nat.min_eq_left (by omega),List.take_append,aG (by simp;omega)]
 congr 1
 rw [List.drop_take]
 congr 1
 simp;omega
theorem Do.LR {el n b g c kk i j m:Nat} {z:Value} {dW:Option Addr} {c2:Nat} {xs:List Value} {R:List cJ} [s:je P t el n] [jj:ru P el z n b]
 (hx:ev σ x=some (.slice (some ⟨g,0,none⟩) i c)) (hy:ev σ y=some (.slice dW m c2)) (hd:Nat.blt d N.n=true) (p:cR L (dE el n (.slice (some ⟨g,0,none⟩) kk c) kk xs) R)
 (hn:Nat.blt 0 n=true) (DC:i≤j) (hjm:j+m≤kk) (Yc:m=0∨dW=some ⟨g,j*n,none⟩) (h1:∀ c∈xs,c.oneCell'=true)
 (kn:K ((d,.slice (some ⟨g,0,none⟩) (i+m) c)::σ) (dE el n (.slice (some ⟨g,0,none⟩) kk c) kk (xs.take (i*n)++(xs.drop (j*n)).take (m*n)++xs.drop ((i+m)*n))::R)) :
 Do P N ⟨some d,.call { callee:=.builtin .append,args:=#[x,y],argTypes:=#[t,t] },ty,pos,af,gd⟩ K σ e L:=fun a w ha hs K' Q' hK=>by
 have fR:=hs.cL p.out;have hex:∀ v' w',(Builtin.append_ #[t,t] ty #[.slice (some ⟨g,0,none⟩) i c,.slice dW m c2]).run P w=.ok v' w'→K' (a.put (some d) v') w' →
  Oper.wp P ⟨some d,.call { callee:=.builtin .append,args:=#[x,y],argTypes:=#[t,t] },ty,pos,af,gd⟩ a w K' Q':=fun v' w' hr hk =>
  eZ (v:=v') (w':=w') (by simp [execOp,resolve,invoke,builtin,ha.ev hx,ha.ev hy,hr]) hk
 have n0:0<n:=by rw [← Nat.blt_eq];exact hn
 obtain ⟨ti,t1,t2,t3,t4⟩:=jj.parts;subst t3 t4;obtain ⟨hl,hA⟩:=oJ fR.2.2.2;rcases hA with ⟨lU,_⟩|⟨g',Rr,cur,lU,r1,r2,r3,r4,hB⟩
 ·cases lU
 cases lU
 have m4:Sat e (cK g cur el (0,0)::R) w:=⟨hs.1,hs.2.1,hs.2.2.1,hB⟩
 have hg:w.heap[g]?=some (.cells cur.toArray el (0,0)):=by
  obtain ⟨Dz,TR,_,b',_,AQ,_⟩:=hB;exact b' g _ AQ
 by_cases hm:m=0
 ·subst hm;refine hex _ w (pE t ty el s w _ i c (by omega) dW c2) (hK _ _ _ _ kn (ha.put hd _) ?_);rw [Nat.zero_mul,List.take_zero,aK,Nat.add_zero,List.take_append_drop];exact fR
 ·have Rs:dW=some ⟨g,j*ti.size,none⟩:=by
   rcases Yc with h|h
   ·exact absurd h hm
   ·exact h
  subst Rs;have Xm:(j+m)*ti.size≤kk*ti.size:=Nat.mul_le_mul_right _ hjm;have Yj:kk*ti.size≤c*ti.size:=Nat.mul_le_mul_right _ r1
  have DB:((xs.drop (j*ti.size)).take (m*ti.size)).length=m*ti.size:=by
   rw [Nat.add_mul] at Xm
   simp only [aF,aO,hl];omega
  have him:(i+m)*ti.size≤kk*ti.size:=Nat.mul_le_mul_right _ (by omega)
  have xu:∀ q u,((xs.drop (j*ti.size)).take (m*ti.size))[q]?=some u→w.cell? ((⟨g,j*ti.size,none⟩:Addr).add q)=some u:=fun q u hq=>by
   rw [Addr.add_lit];refine (bP (R:=R) (cs:=cur) (T:=el) (fz:=(0,0)) .zero ?_).at m4
   rw [List.getElem?_take] at hq
   split at hq
   ·rw [List.getElem?_drop,← r4,List.getElem?_take] at hq
    split at hq
    ·rw [iP];exact hq
    ·cases hq
   ·cases hq
  have pN:i*ti.size+((xs.drop (j*ti.size)).take (m*ti.size)).length≤cur.length:=by
   rw [DB,r3,← Nat.add_mul];omega
  have hr:=run_append_room (P:=P) w t ty el ti s.lS t1 g i c cur.toArray hg ⟨g,j*ti.size,none⟩ m c2 _ DB xu (fun v hv=>h1 v (aV (aR hv))) (by omega) (by simpa using pN);refine hex _ _ hr (hK _ _ _ _ kn (ha.put hd _) ?_);have AY:=Sat.Iy (c:=c) (kk:=kk) (nn:=ti.size) (xs:=xs) (o:=i*ti.size) (ys:=(xs.drop (j*ti.size)).take (m*ti.size)) m4 pN
  have ln:(cur.take (i*ti.size)++(xs.drop (j*ti.size)).take (m*ti.size)++cur.drop (i*ti.size+((xs.drop (j*ti.size)).take (m*ti.size)).length)).length=c*ti.size:=by
   simp only [aa,DB,aF,aO,r3];rw [DB,r3] at pN
   omega
  have gy:=hH (E:=el) (n:=ti.size) (g:=g) (R:=R) r1 r2 ln;rw [u3 _ _ _ _ (by rw [DB,← Nat.add_mul];exact him) (by rw [r3];exact Yj),r4,DB,← Nat.add_mul] at gy
  rw [DB] at AY ⊢
  rw [← Nat.add_mul] at AY ⊢
  exact AY.cL gy
theorem Do.clear {el n g c kk o m cc:Nat} {z:Value} {dW:Option Addr} {xs:List Value} {R:List cJ} [s:je P t el n] [zz:fv P el z]
 (hx:ev σ x=some (.slice dW m cc)) (p:cR L (dE el n (.slice (some ⟨g,0,none⟩) kk c) kk xs) R)
 (hz:z.cells.size=n) (h1:∀ v∈z.cells.toList,v.oneCell'=true) (ho:o+m*n≤kk*n) (Yc:m=0∨dW=some ⟨g,o,none⟩)
 (kn:∀ zs:List Value,zs.length=m*n→K σ (dE el n (.slice (some ⟨g,0,none⟩) kk c) kk (xs.take o++zs++xs.drop (o+m*n))::R)) :
 Do P N ⟨none,.call { callee:=.builtin .clear,args:=#[x],argTypes:=#[t] },ty,pos,af,gd⟩ K σ e L:=fun a w ha hs K' Q' hK=>by
 have fR:=hs.cL p.out;have hex:∀ v' w',(Builtin.clear_ #[t] ty #[.slice dW m cc]).run P w=.ok v' w'→K' (a.put none v') w' →
  Oper.wp P ⟨none,.call { callee:=.builtin .clear,args:=#[x],argTypes:=#[t] },ty,pos,af,gd⟩ a w K' Q':=fun v' w' hr hk =>
  eZ (v:=v') (w':=w') (by simp [execOp,resolve,invoke,builtin,ha.ev hx,hr]) hk
 obtain ⟨hl,hA⟩:=oJ fR.2.2.2;rcases hA with ⟨lU,_⟩|⟨g',Rr,cur,lU,r1,r2,r3,r4,hB⟩
 ·cases lU
 cases lU
 have m4:Sat e (cK g cur el (0,0)::R) w:=⟨hs.1,hs.2.1,hs.2.2.1,hB⟩
 have hg:w.heap[g]?=some (.cells cur.toArray el (0,0)):=by
  obtain ⟨Dz,TR,_,b',_,AQ,_⟩:=hB;exact b' g _ AQ
 by_cases hm:m=0
 ·subst hm;refine hex (.tuple #[]) w ?_ (hK _ _ _ _ (kn [] (by simp)) ha ?_)
  ·cases dW<;>simp [Builtin.clear_,run_underlying s.lS]
  ·rw [Nat.zero_mul,aK,Nat.add_zero,List.take_append_drop];exact fR
 ·have Rs:dW=some ⟨g,o,none⟩:=by
   rcases Yc with h|h
   ·exact absurd h hm
   ·exact h
  subst Rs;have Yj:kk*n≤c*n:=Nat.mul_le_mul_right _ r1
  have JG:(Builtin.zeroCells z.cells m).toList.length=m*n:=by
   rw [Array.length_toList,size_zeroCells,hz]
  have Ru:∀ v∈(Builtin.zeroCells z.cells m).toList,v.oneCell'=true:=fun v hv=>by
   simp only [Builtin.zeroCells,Array.toList_map,aE,Array.toList_range,List.mem_range] at hv
   obtain ⟨q,hq,rfl⟩:=hv
   have Ag:0<z.cells.size:=by
    rcases Nat.eq_zero_or_pos z.cells.size with h0|h0
    ·rw [h0] at hq;simp at hq
    ·exact h0
   have cO:q % z.cells.size<z.cells.size:=Nat.mod_lt _ Ag;rw [getElem!_pos z.cells _ cO];exact h1 _ (Array.getElem_mem_toList cO)
  have eK:=run_storeCells_at P g o el (Builtin.zeroCells z.cells m).toList 0 cur.toArray w hg (by rw [JG,List.size_toArray,r3];omega) Ru;simp only [Nat.add_zero] at eK
  obtain ⟨m',rfl⟩:∃ m',m=m'+1:=⟨m - 1,by omega⟩
  refine hex (.tuple #[]) (w.setRow g (cur.take o++(Builtin.zeroCells z.cells (m'+1)).toList++cur.drop (o+(Builtin.zeroCells z.cells (m'+1)).toList.length)).toArray) ?_ (hK _ _ _ _ (kn _ JG) ha ?_)
  ·simp [Builtin.clear_,run_underlying s.lS,zz.run,eK]
  ·have AY:=Sat.Iy (c:=c) (kk:=kk) (nn:=n) (xs:=xs) (o:=o) (ys:=(Builtin.zeroCells z.cells (m'+1)).toList) m4 (by rw [JG,r3];omega)
   have ln:(cur.take o++(Builtin.zeroCells z.cells (m'+1)).toList++cur.drop (o+(Builtin.zeroCells z.cells (m'+1)).toList.length)).length=c*n:=by
    simp only [aa,JG,aF,aO,r3]
    omega
   have gy:=hH (E:=el) (n:=n) (g:=g) (R:=R) r1 r2 ln;rw [u3 _ _ _ _ (by rw [JG];exact ho) (by rw [r3];exact Yj),r4,JG] at gy
   rw [JG] at AY ⊢
   exact AY.cL gy
def dZ (L:List cJ) (g o:Nat) (cs:List Value):Prop:=∀ j u,cs[j]?=some u→Rd L ⟨g,o+j,none⟩ u
theorem dZ.tail {A:cJ} {L:List cJ} {g o:Nat} {cs:List Value} (h:dZ L g o cs):dZ (A::L) g o cs:=fun j u hj=>(h j u hj).tail
theorem dZ.fQ {L R:List cJ} {g o:Nat} {cs xs:List Value} {T:TypeId} {fz:Nat × Nat} (p:cR L (cK g xs T fz) R) (h:∃ n,(xs.drop o).take n=cs):dZ L g o cs:=fun j u hj=>by
 obtain ⟨n,rfl⟩:=h;refine bP p ?_;rw [iP];rw [List.getElem?_take] at hj
 split at hj
 ·rwa [List.getElem?_drop] at hj
 ·cases hj
theorem bU {L R:List cJ} {g:Nat} {cs:List Value} {T:TypeId} {fz:Nat × Nat} (p:cR L (cK g cs T fz) R):dZ L g 0 cs:=dZ.fQ p ⟨cs.length,by simp⟩
theorem dZ.elem {α:Type} {f:α→List Value} {L:List cJ} {nn kk c g o:Nat} {l:List α} {a:α} (r:cE L nn (.slice (some ⟨g,o,none⟩) kk c) kk (l.flatMap f)) (hf:∀ a,(f a).length=nn) {j:Nat} (hj:l[j]?=some a):dZ L g (o+j*nn) (f a):=fun i u hi=>by
 have cO:i<nn:=by rw [← hf a];exact (List.getElem?_eq_some_iff.1 hi).1
 have key:∀ (l:List α) (j:Nat),l[j]?=some a→(l.flatMap f)[j*nn+i]?=some u:=by
  intro l
  induction l with
  | nil=>intro j h;simp at h
  | cons b l ih =>
   intro j h;rw [aU]
   cases j with
   | zero =>
    simp at h;subst h
    rw [Nat.zero_mul,aC,List.getElem?_append_left (by rw [hf];exact cO)];exact hi
   | succ j =>
    simp at h
    rw [List.getElem?_append_right (by rw [hf,Nat.succ_mul];omega),hf,show (j+1)*nn+i - nn=j*nn+i by rw [Nat.succ_mul];omega];exact ih j h
 have:=cE.elem r (key l j hj)
 rwa [← Nat.add_assoc] at this
theorem dZ.part {L:List cJ} {g o:Nat} {cs:List Value} (h:dZ L g o cs) (k n:Nat):dZ L g (o+k) ((cs.drop k).take n):=fun j u hj=>by
 rw [List.getElem?_take] at hj
 split at hj
 ·rw [List.getElem?_drop] at hj
  have:=h _ _ hj
  rwa [← Nat.add_assoc] at this
 ·cases hj
theorem dZ.OC {L:List cJ} {g o k:Nat} {cs:List Value} {v:Value} (h:dZ L g o cs) (hk:cs[k]?=some v):Rd L ⟨g,o+k,none⟩ v:=h k v hk
theorem cD.dy {n g o:Nat} {cs:List Value} [i:jf P t n] (h:ev σ x=some (.pointer (some ⟨g,o,none⟩))) (r:dZ L g o cs) (hl:cs.length=n):cD P N (.load t x) ty (.agg cs.toArray) σ e L:=cD.Iu h hl r
theorem O.dy {n g o:Nat} {cs:List Value} [i:jf P t n] (h:ev σ x=some (.pointer (some ⟨g,o,none⟩))) (r:dZ L g o cs) (hl:cs.length=n) (hd:Nat.blt d N.n=true) (kk:O P N all rest Q ((d,.agg cs.toArray)::σ) e L) :
 O P N all (⟨some d,.load t x,ty,pos,af,none⟩::rest) Q σ e L:=bx _ (cD.Iu h hl r) hd kk
inductive rY (P:Program) (σ:Env) (L:List cJ):List ResultVar→List Value→Prop
 | nil:rY P σ L [] []
 | tmp {t:Nat} {v:Value} {r:List ResultVar} {vs:List Value}:get σ t=some v→rY P σ L r vs→rY P σ L (.tmp t::r) (v::vs)
 | agg {b t n g o:Nat} {cs:List Value} {r:List ResultVar} {vs:List Value} [i:jf P t n]:get σ b=some (.pointer (some ⟨g,o,none⟩))→dZ L g o cs→cs.length=n→rY P σ L r vs→rY P σ L (.cell b t::r) (.agg cs.toArray::vs)
 | cell {b t:Nat} {p:Addr} {v:Value} {r:List ResultVar} {vs:List Value} [i:dL P t]:get σ b=some (.pointer (some p))→Rd L p v→rY P σ L r vs→rY P σ L (.cell b t::r) (v::vs)
theorem LS {w:World} {a:Act} (h:Has N σ a) (hs:Sat e L w) {rs:List ResultVar} {vs:List Value} (r:rY P σ L rs vs):(rs.mapM (pD a.tmps)).run P w=.ok vs w:=by
 induction r with
 | nil=>simp
 | tmp hg _ ih =>
  rename_i t v r vs _;have h1:a.tmps.getD t undef=v:=by simp [h.val t v hg]
  simp only [List.mapM_cons,Sem.run_bind,pD,Sem.run_pure,Result.andThen_ok,h1];rw [ih];simp
 | agg hg hr hl _ ih =>
  rename_i b t n g o cs r vs i _;have h1:a.tmps.getD b undef=.pointer (some ⟨g,o,none⟩):=by simp [h.val b _ hg]
  have h2:=run_loadCells_list (P:=P) w ⟨g,o,none⟩ cs (fun j u hj=>by rw [Addr.add_lit];exact (hr j u hj).at hs);rw [hl] at h2
  simp only [List.mapM_cons,Sem.run_bind,pD,h1]
  simp [asAddr,loadVar,i.ag,i.B7,h2,ih]
 | cell hg hr _ ih =>
  rename_i b t p v r vs i _;have h1:a.tmps.getD b undef=.pointer (some p):=by simp [h.val b _ hg]
  have h2:=hr.at hs
  simp only [List.mapM_cons,Sem.run_bind,pD,h1]
  simp [asAddr,loadVar,i.ag,h2,ih]
def LU (P:Program) (N:Fr) (rs:Array ResultVar) (R:Ending→World→Prop):fO:=fun x σ w =>
 match x with
 | .normal|.ret=>∃ vs,(∀ a,Has N σ a→(rs.toList.mapM (pD a.tmps)).run P w=.ok vs w)∧R (.returned (AS vs)) w
 | _=>False
theorem te {w:World} {a:Act} {fn:Func} {vs:List Value} (h1:(fn.results.toList.mapM (pD a.tmps)).run P w=.ok vs w):(results fn a.tmps).run P w=.ok (AS vs) w:=by
 have h0:results fn a.tmps=(fn.results.mapM (pD a.tmps)) >>= fun vs=>pure (if h:vs.size=1 then vs[0] else .tuple vs):=by
  unfold results
  congr 1
 have h1:(fn.results.mapM (pD a.tmps)).run P w=.ok vs.toArray w:=by
  rw [Array.mapM_eq_mapM_toList,Sem.run_map,h1]
  rfl
 rw [h0,Sem.run_bind,h1];simp only [Result.andThen_ok,Sem.run_pure]
 congr 1
 match vs with
 | []=>rfl
 | [v]=>rfl
 | _::_::_=>simp [AS]
theorem bH {N:Nat} {f:FuncId} {fn:Func} {c:Code} {rs:Array ResultVar} {args:List Value} {Post:Value→List cJ→Prop}
 (hf:P.funcs[f]?=some fn) (hb:fn.body=some c) (hN:fn.ntmps=N) (hr:fn.results=rs) (hle:Nat.ble args.length N=true)
 (h:W P ⟨N,[]⟩ c (LU P ⟨N,[]⟩ rs (jD e Post)) (oI 0 args) e L):Ct P f args.toArray e L Post:=by
 subst hN hr;intro w hs;have hle:=Nat.le_of_ble_eq_true hle;refine calls_of_wp hf hb (Code.wp_mono ?_ (h { tmps:=args.toArray++Array.replicate (fn.ntmps - args.toArray.size) undef,defers:=[] } w ⟨by simp;omega,rfl,fun k v hk=>?_⟩ hs))
 ·intro x a w q
  cases x with
  | normal=>obtain ⟨σ',h1,vs,h2,h3⟩:=q;exact ⟨h1.defers,_,te (h2 a h1),h3⟩
  | ret=>obtain ⟨σ',h1,vs,h2,h3⟩:=q;exact ⟨h1.defers,_,te (h2 a h1),h3⟩
  | panic _=>exact q.elim
  | outgrown=>exact q.elim
  | exit _=>obtain ⟨_,_,h2⟩:=q;exact h2.elim
  | goto _=>obtain ⟨_,_,h2⟩:=q;exact h2.elim
 ·have h1:=(nc args 0 k v hk).2;have cO:k<args.length:=(List.getElem?_eq_some_iff.1 h1).1;rw [Array.getElem?_append_left (by simpa using cO)]
  simpa using h1
theorem br {rs:Array ResultVar} {Post:Value→List cJ→Prop} {vs:List Value} (hv:rY P σ L rs.toList vs) (h:∃ L',cz L L'∧Post (AS vs) L'):Fin (LU P N rs (jD e Post)) .ret σ e L :=
 let ⟨L',hL,hp⟩:=h;fun _ hs=>⟨vs,fun a ha=>LS ha hs hv,AS vs,L',rfl,hp,hs.cL hL⟩
theorem cD.slice3 {x y z u:Operand} {el n l c:Nat} {ad:Option Addr} {k k' k2:IntKind} {i j m:Int} [s:je P t el n] (h:ev σ x=some (.slice ad l c)) (h1:ev σ y=some (.int k i)) (h2:ev σ z=some (.int k' j)) (h4:ev σ u=some (.int k2 m)) (h0:0≤i) (hl:i≤j) (hj:j≤m) (hm:m≤c) :
 cD P N (.slice t x (some y) (some z) (some u)) ty (.slice (cutAt ad m.toNat i.toNat n) (j.toNat - i.toNat) (m.toNat - i.toNat)) σ e L:=fun a w ha _ _ _ _ _=>by
 have e1:((j.toNat:Nat):Int)=j:=Int.toNat_of_nonneg (by omega);have e2:((m.toNat:Nat):Int)=m:=Int.toNat_of_nonneg (by omega);have h3:0≤j:=by omega
 have h5:0≤m:=by omega
 simp only [execOp,ha.ev h,ha.ev h1,ha.ev h2,ha.ev h4,Option.map_none,Option.map_some]
 simp [Instr.sliceAt,Instr.slice,run_underlying s.lS,Instr.sliceBounds,Instr.sliceBound,asIntOf,h0,hl,s.B7,cutAt,h3,hj,e1,e2,h5,hm]
end
end Go.Bs
namespace Go.Bs
section
variable {P:Program} {N:Fr} {Q:fO} {σ:Env} {e:World} {L:List cJ} {all:Array Oper} {rest:List Oper}
variable {d:Nat} {ty:TypeId} {pos:String} {af:Array Edge} {x y z:Operand} {v:Value} {t t':TypeId} {k k':IntKind} {m n:Int}
theorem O.move (h:ev σ x=some v) (hd:Nat.blt d N.n=true) (kk:O P N all rest Q ((d,v)::σ) e L):O P N all (⟨some d,.move x,ty,pos,af,none⟩::rest) Q σ e L:=bx _ (bu h) hd kk
theorem O.assign (h:ev σ x=some v) (hd:Nat.blt d N.n=true) (kk:O P N all rest Q ((d,v)::σ) e L):O P N all (⟨some d,.assign x,ty,pos,af,none⟩::rest) Q σ e L:=bx _ (bj h) hd kk
theorem O.nilCheck {p:Addr} (h:ev σ x=some (.pointer (some p))) (hd:Nat.blt d N.n=true) (kk:O P N all rest Q ((d,.pointer (some p))::σ) e L):O P N all (⟨some d,.nilCheck x,ty,pos,af,none⟩::rest) Q σ e L:=bx _ (bn h) hd kk
theorem O.fieldAddr {s f off g o:Nat} [i:cM P s f off] (h:ev σ x=some (.pointer (some ⟨g,o,none⟩))) (hd:Nat.blt d N.n=true) (kk:O P N all rest Q ((d,.pointer (some ⟨g,o+off,none⟩))::σ) e L):O P N all (⟨some d,.fieldAddr s x f,ty,pos,af,none⟩::rest) Q σ e L:=bx _ (ba h) hd kk
theorem bV {p:Addr} [i:dL P t] (h:ev σ x=some (.pointer (some p))) (r:Rd L p v) (hd:Nat.blt d N.n=true) (kk:O P N all rest Q ((d,v)::σ) e L):O P N all (⟨some d,.load t x,ty,pos,af,none⟩::rest) Q σ e L:=bx _ (bp h r) hd kk
theorem O.len {el n l c:Nat} {ad:Option Addr} {ats:List TypeId} [i:je P t el n] (h:ev σ x=some (.slice ad l c)) (hd:Nat.blt d N.n=true) (kk:O P N all rest Q ((d,.int .i64 (l:Int))::σ) e L):O P N all (⟨some d,.call { callee:=.builtin .len,args:=#[x],argTypes:=(t::ats).toArray },ty,pos,af,none⟩::rest) Q σ e L:=bx _ (bM h) hd kk
theorem O.Rl {s:ByteArray} {ats:List TypeId} [i:u0 P t] (h:ev σ x=some (.string s)) (hd:Nat.blt d N.n=true) (kk:O P N all rest Q ((d,.int .i64 (s.size:Int))::σ) e L):O P N all (⟨some d,.call { callee:=.builtin .len,args:=#[x],argTypes:=(t::ats).toArray },ty,pos,af,none⟩::rest) Q σ e L:=bx _ (cD.Rl h) hd kk
theorem O.eR (h:ev σ x=some (.bool true)) (h1:ev σ y=some v) (hd:Nat.blt d N.n=true) (kk:O P N all rest Q ((d,v)::σ) e L):O P N all (⟨some d,.pick x y z,ty,pos,af,none⟩::rest) Q σ e L:=bx _ (bK h h1) hd kk
theorem O.eD (h:ev σ x=some (.bool false)) (h1:ev σ z=some v) (hd:Nat.blt d N.n=true) (kk:O P N all rest Q ((d,v)::σ) e L):O P N all (⟨some d,.pick x y z,ty,pos,af,none⟩::rest) Q σ e L:=bx _ (bI h h1) hd kk
theorem O.jZ (h:ev σ x=some (.bool true)) (hd:Nat.blt d N.n=true) (kk:O P N all rest Q ((d,.bool false)::σ) e L):O P N all (⟨some d,.unOp .not t x,ty,pos,af,none⟩::rest) Q σ e L:=bx _ (cD.not h) hd kk
theorem O.p8 (h:ev σ x=some (.bool false)) (hd:Nat.blt d N.n=true) (kk:O P N all rest Q ((d,.bool true)::σ) e L):O P N all (⟨some d,.unOp .not t x,ty,pos,af,none⟩::rest) Q σ e L:=bx _ (cD.not h) hd kk
theorem O.OD {el:TypeId} {p:Addr} [i:rr P t el] (h:ev σ x=some (.pointer (some p))) (h1:ev σ y=some (.pointer none)) (hd:Nat.blt d N.n=true) (kk:O P N all rest Q ((d,.bool false)::σ) e L):O P N all (⟨some d,.binOp .eql t x y t',ty,pos,af,none⟩::rest) Q σ e L:=bx _ (cD.Rm h h1) hd kk
theorem O.OE {el:TypeId} {p:Addr} [i:rr P t el] (h:ev σ x=some (.pointer (some p))) (h1:ev σ y=some (.pointer none)) (hd:Nat.blt d N.n=true) (kk:O P N all rest Q ((d,.bool true)::σ) e L):O P N all (⟨some d,.binOp .neq t x y t',ty,pos,af,none⟩::rest) Q σ e L:=bx _ (cD.Rn h h1) hd kk
theorem O.Rv {el n l c:Nat} {p:Addr} [i:je P t el n] (h:ev σ x=some (.slice (some p) l c)) (h1:ev σ y=some (.slice none 0 0)) (hd:Nat.blt d N.n=true) (kk:O P N all rest Q ((d,.bool false)::σ) e L):O P N all (⟨some d,.binOp .eql t x y t',ty,pos,af,none⟩::rest) Q σ e L:=bx _ (cD.Qk h h1) hd kk
theorem O.Rw {el n l c:Nat} [i:je P t el n] (h:ev σ x=some (.slice none l c)) (h1:ev σ y=some (.slice none 0 0)) (hd:Nat.blt d N.n=true) (kk:O P N all rest Q ((d,.bool true)::σ) e L):O P N all (⟨some d,.binOp .eql t x y t',ty,pos,af,none⟩::rest) Q σ e L:=bx _ (cD.Qk h h1) hd kk
theorem O.UM (h:ev σ x=some (.int k m)) (h1:ev σ y=some (.int k n)) (hp:m<n) (hd:Nat.blt d N.n=true) (kk:O P N all rest Q ((d,.bool true)::σ) e L):O P N all (⟨some d,.binOp .lss t x y t',ty,pos,af,none⟩::rest) Q σ e L:=bx _ (cD.iQ (cD.lss h h1) hp) hd kk
theorem O.UN (h:ev σ x=some (.int k m)) (h1:ev σ y=some (.int k n)) (hp:¬ (m<n)) (hd:Nat.blt d N.n=true) (kk:O P N all rest Q ((d,.bool false)::σ) e L):O P N all (⟨some d,.binOp .lss t x y t',ty,pos,af,none⟩::rest) Q σ e L:=bx _ (cD.no (cD.lss h h1) hp) hd kk
theorem O.UO (h:ev σ x=some (.int k m)) (h1:ev σ y=some (.int k n)) (hd:Nat.blt d N.n=true) (k1:m<n→O P N all rest Q ((d,.bool true)::σ) e L) (k2:¬ (m<n)→O P N all rest Q ((d,.bool false)::σ) e L):O P N all (⟨some d,.binOp .lss t x y t',ty,pos,af,none⟩::rest) Q σ e L:=O.dec (cD.lss h h1) hd k1 k2
theorem O.UP (h:ev σ x=some (.int k m)) (h1:ev σ y=some (.int k n)) (hp:m≤n) (hd:Nat.blt d N.n=true) (kk:O P N all rest Q ((d,.bool true)::σ) e L):O P N all (⟨some d,.binOp .leq t x y t',ty,pos,af,none⟩::rest) Q σ e L:=bx _ (cD.iQ (cD.leq h h1) hp) hd kk
theorem O.UQ (h:ev σ x=some (.int k m)) (h1:ev σ y=some (.int k n)) (hp:¬ (m≤n)) (hd:Nat.blt d N.n=true) (kk:O P N all rest Q ((d,.bool false)::σ) e L):O P N all (⟨some d,.binOp .leq t x y t',ty,pos,af,none⟩::rest) Q σ e L:=bx _ (cD.no (cD.leq h h1) hp) hd kk
theorem O.UR (h:ev σ x=some (.int k m)) (h1:ev σ y=some (.int k n)) (hp:n<m) (hd:Nat.blt d N.n=true) (kk:O P N all rest Q ((d,.bool true)::σ) e L):O P N all (⟨some d,.binOp .gtr t x y t',ty,pos,af,none⟩::rest) Q σ e L:=bx _ (cD.iQ (cD.gtr h h1) hp) hd kk
theorem O.US (h:ev σ x=some (.int k m)) (h1:ev σ y=some (.int k n)) (hp:¬ (n<m)) (hd:Nat.blt d N.n=true) (kk:O P N all rest Q ((d,.bool false)::σ) e L):O P N all (⟨some d,.binOp .gtr t x y t',ty,pos,af,none⟩::rest) Q σ e L:=bx _ (cD.no (cD.gtr h h1) hp) hd kk
theorem O.UT (h:ev σ x=some (.int k m)) (h1:ev σ y=some (.int k n)) (hd:Nat.blt d N.n=true) (k1:n<m→O P N all rest Q ((d,.bool true)::σ) e L) (k2:¬ (n<m)→O P N all rest Q ((d,.bool false)::σ) e L):O P N all (⟨some d,.binOp .gtr t x y t',ty,pos,af,none⟩::rest) Q σ e L:=O.dec (cD.gtr h h1) hd k1 k2
theorem O.UU (h:ev σ x=some (.int k m)) (h1:ev σ y=some (.int k n)) (hp:n≤m) (hd:Nat.blt d N.n=true) (kk:O P N all rest Q ((d,.bool true)::σ) e L):O P N all (⟨some d,.binOp .geq t x y t',ty,pos,af,none⟩::rest) Q σ e L:=bx _ (cD.iQ (bR h h1) hp) hd kk
theorem O.UW (h:ev σ x=some (.int k m)) (h1:ev σ y=some (.int k n)) (hp:¬ (n≤m)) (hd:Nat.blt d N.n=true) (kk:O P N all rest Q ((d,.bool false)::σ) e L):O P N all (⟨some d,.binOp .geq t x y t',ty,pos,af,none⟩::rest) Q σ e L:=bx _ (cD.no (bR h h1) hp) hd kk
theorem O.UX (h:ev σ x=some (.int k m)) (h1:ev σ y=some (.int k n)) (hp:m=n) (hd:Nat.blt d N.n=true) (kk:O P N all rest Q ((d,.bool true)::σ) e L):O P N all (⟨some d,.binOp .eql t x y t',ty,pos,af,none⟩::rest) Q σ e L:=bx _ (cD.iQ (bW h h1) hp) hd kk
theorem O.UY (h:ev σ x=some (.int k m)) (h1:ev σ y=some (.int k n)) (hp:¬ (m=n)) (hd:Nat.blt d N.n=true) (kk:O P N all rest Q ((d,.bool false)::σ) e L):O P N all (⟨some d,.binOp .eql t x y t',ty,pos,af,none⟩::rest) Q σ e L:=bx _ (cD.no (bW h h1) hp) hd kk
theorem O.UZ (h:ev σ x=some (.int k m)) (h1:ev σ y=some (.int k n)) (hd:Nat.blt d N.n=true) (k1:m=n→O P N all rest Q ((d,.bool true)::σ) e L) (k2:¬ (m=n)→O P N all rest Q ((d,.bool false)::σ) e L):O P N all (⟨some d,.binOp .eql t x y t',ty,pos,af,none⟩::rest) Q σ e L:=O.dec (bW h h1) hd k1 k2
theorem O.U0 (h:ev σ x=some (.int k m)) (h1:ev σ y=some (.int k n)) (hp:m≠n) (hd:Nat.blt d N.n=true) (kk:O P N all rest Q ((d,.bool true)::σ) e L):O P N all (⟨some d,.binOp .neq t x y t',ty,pos,af,none⟩::rest) Q σ e L:=bx _ (cD.iQ (cD.neq h h1) hp) hd kk
theorem O.U1 (h:ev σ x=some (.int k m)) (h1:ev σ y=some (.int k n)) (hp:¬ (m≠n)) (hd:Nat.blt d N.n=true) (kk:O P N all rest Q ((d,.bool false)::σ) e L):O P N all (⟨some d,.binOp .neq t x y t',ty,pos,af,none⟩::rest) Q σ e L:=bx _ (cD.no (cD.neq h h1) hp) hd kk
theorem O.kQ (h:ev σ x=some (.int .i64 m)) (h1:ev σ y=some (.int .i64 n)) (hb:-9223372036854775808≤m+n∧m+n≤9223372036854775807) (hd:Nat.blt d N.n=true) (kk:O P N all rest Q ((d,.int .i64 (m+n))::σ) e L):O P N all (⟨some d,.binOp .add t x y t',ty,pos,af,none⟩::rest) Q σ e L:=bx _ (cD.kQ h h1 hb) hd kk
theorem O.jz (h:ev σ x=some (.int .i64 m)) (h1:ev σ y=some (.int .i64 n)) (hb:-9223372036854775808≤m - n∧m - n≤9223372036854775807) (hd:Nat.blt d N.n=true) (kk:O P N all rest Q ((d,.int .i64 (m - n))::σ) e L):O P N all (⟨some d,.binOp .sub t x y t',ty,pos,af,none⟩::rest) Q σ e L:=bx _ (cD.jz h h1 hb) hd kk
theorem O.sub (h:ev σ x=some (.int k m)) (h1:ev σ y=some (.int k n)) (hd:Nat.blt d N.n=true) (kk:O P N all rest Q ((d,.int k (k.wrap (m - n)))::σ) e L):O P N all (⟨some d,.binOp .sub t x y t',ty,pos,af,none⟩::rest) Q σ e L:=bx _ (cD.sub h h1) hd kk
theorem O.wc (h:ev σ x=some (.int .i64 m)) (h1:ev σ y=some (.int .i64 n)) (hb:-9223372036854775808≤m*n∧m*n≤9223372036854775807) (hd:Nat.blt d N.n=true) (kk:O P N all rest Q ((d,.int .i64 (m*n))::σ) e L):O P N all (⟨some d,.binOp .mul t x y t',ty,pos,af,none⟩::rest) Q σ e L:=bx _ (cD.wc h h1 hb) hd kk
theorem O.mul (h:ev σ x=some (.int k m)) (h1:ev σ y=some (.int k n)) (hd:Nat.blt d N.n=true) (kk:O P N all rest Q ((d,.int k (k.wrap (m*n)))::σ) e L):O P N all (⟨some d,.binOp .mul t x y t',ty,pos,af,none⟩::rest) Q σ e L:=bx _ (cD.mul h h1) hd kk
theorem O.xS {s:TypeId} [i:iu P s k] [j:iu P t k'] (h:ev σ x=some (.int k m)) (hw:k'.wrap m=m) (hd:Nat.blt d N.n=true) (kk:O P N all rest Q ((d,.int k' m)::σ) e L):O P N all (⟨some d,.convert s t x,ty,pos,af,none⟩::rest) Q σ e L:=bx _ (by have:=cD.jP (P:=P) (N:=N) (ty:=ty) (e:=e) (L:=L) (s:=s) (t:=t) h;rwa [hw] at this) hd kk
theorem O.shl (h:ev σ x=some (.int k m)) (h1:ev σ y=some (.int k' n)) (h0:0≤n) (hd:Nat.blt d N.n=true) (kk:O P N all rest Q ((d,.int k (k.wrap (m*2 ^ (min n.toNat k.bits))))::σ) e L):O P N all (⟨some d,.binOp .shl t x y t',ty,pos,af,none⟩::rest) Q σ e L:=bx _ (cD.shl h h1 h0) hd kk
theorem O.shr (h:ev σ x=some (.int k m)) (h1:ev σ y=some (.int k' n)) (h0:0≤n) (hd:Nat.blt d N.n=true) (kk:O P N all rest Q ((d,.int k (m.fdiv (2 ^ (min n.toNat k.bits))))::σ) e L):O P N all (⟨some d,.binOp .shr t x y t',ty,pos,af,none⟩::rest) Q σ e L:=bx _ (cD.shr h h1 h0) hd kk
theorem O.and (h:ev σ x=some (.int k m)) (h1:ev σ y=some (.int k n)) (hd:Nat.blt d N.n=true) (kk:O P N all rest Q ((d,.int k (Go.bits .and k m n))::σ) e L):O P N all (⟨some d,.binOp .and t x y t',ty,pos,af,none⟩::rest) Q σ e L:=bx _ (cD.bits .and (by decide) h h1) hd kk
theorem O.or (h:ev σ x=some (.int k m)) (h1:ev σ y=some (.int k n)) (hd:Nat.blt d N.n=true) (kk:O P N all rest Q ((d,.int k (Go.bits .or k m n))::σ) e L):O P N all (⟨some d,.binOp .or t x y t',ty,pos,af,none⟩::rest) Q σ e L:=bx _ (cD.bits .or (by decide) h h1) hd kk
theorem O.jP {s:TypeId} [i:iu P s k] [j:iu P t k'] (h:ev σ x=some (.int k m)) (hd:Nat.blt d N.n=true) (kk:O P N all rest Q ((d,.int k' (k'.wrap m))::σ) e L):O P N all (⟨some d,.convert s t x,ty,pos,af,none⟩::rest) Q σ e L:=bx _ (cD.jP h) hd kk
theorem O.bytes {T el n:Nat} {l:List UInt8} [i:je P t el n] [j:iu P el .u8] [s:u0 P T] (h:ev σ x=some v) (r:db L v l) (hd:Nat.blt d N.n=true) (kk:O P N all rest Q ((d,.string (str l))::σ) e L):O P N all (⟨some d,.convert t T x,ty,pos,af,none⟩::rest) Q σ e L:=bx _ (b8 h r) hd kk
theorem O.LV {a b:List UInt8} (h:ev σ x=some (.string (str a))) (h1:ev σ y=some (.string (str b))) (hp:a=b) (hd:Nat.blt d N.n=true) (kk:O P N all rest Q ((d,.bool true)::σ) e L):O P N all (⟨some d,.binOp .eql t x y t',ty,pos,af,none⟩::rest) Q σ e L:=bx _ (cD.iQ (cD.LP h h1) hp) hd kk
theorem O.LW {a b:List UInt8} (h:ev σ x=some (.string (str a))) (h1:ev σ y=some (.string (str b))) (hp:¬ (a=b)) (hd:Nat.blt d N.n=true) (kk:O P N all rest Q ((d,.bool false)::σ) e L):O P N all (⟨some d,.binOp .eql t x y t',ty,pos,af,none⟩::rest) Q σ e L:=bx _ (cD.no (cD.LP h h1) hp) hd kk
theorem O.LX {a b:List UInt8} (h:ev σ x=some (.string (str a))) (h1:ev σ y=some (.string (str b))) (hp:a≠b) (hd:Nat.blt d N.n=true) (kk:O P N all rest Q ((d,.bool true)::σ) e L):O P N all (⟨some d,.binOp .neq t x y t',ty,pos,af,none⟩::rest) Q σ e L:=bx _ (cD.iQ (cD.xN h h1) hp) hd kk
theorem O.LY {a b:List UInt8} (h:ev σ x=some (.string (str a))) (h1:ev σ y=some (.string (str b))) (hp:¬ (a≠b)) (hd:Nat.blt d N.n=true) (kk:O P N all rest Q ((d,.bool false)::σ) e L):O P N all (⟨some d,.binOp .neq t x y t',ty,pos,af,none⟩::rest) Q σ e L:=bx _ (cD.no (cD.xN h h1) hp) hd kk
theorem O.ix {el l c g o i:Nat} [s:je P t el 1] (h:ev σ x=some (.slice (some ⟨g,o,none⟩) l c)) (h1:ev σ y=some (.int k (i:Int))) (hl:i<l) (hd:Nat.blt d N.n=true) (kk:O P N all rest Q ((d,.pointer (some ⟨g,o+i,none⟩))::σ) e L):O P N all (⟨some d,.indexAddr t x y,ty,pos,af,none⟩::rest) Q σ e L:=bx _ (by have:=bD (P:=P) (N:=N) (ty:=ty) (e:=e) (L:=L) (t:=t) h h1 hl;rwa [Nat.mul_one] at this) hd kk
theorem O.dD {el n l c g o i:Nat} [s:je P t el n] (h:ev σ x=some (.slice (some ⟨g,o,none⟩) l c)) (h1:ev σ y=some (.int k (i:Int))) (hl:i<l) (hd:Nat.blt d N.n=true) (kk:O P N all rest Q ((d,.pointer (some ⟨g,o+i*n,none⟩))::σ) e L):O P N all (⟨some d,.indexAddr t x y,ty,pos,af,none⟩::rest) Q σ e L:=bx _ (bD h h1 hl) hd kk
theorem O.indexAddr {el n l c g o:Nat} {i:Int} [s:je P t el n] (h:ev σ x=some (.slice (some ⟨g,o,none⟩) l c)) (h1:ev σ y=some (.int k i)) (h0:0≤i) (hl:i<l) (hd:Nat.blt d N.n=true) (kk:O P N all rest Q ((d,.pointer (some ⟨g,o+i.toNat*n,none⟩))::σ) e L):O P N all (⟨some d,.indexAddr t x y,ty,pos,af,none⟩::rest) Q σ e L:=bx _ (bX h h1 h0 hl) hd kk
theorem O.iV {el n l c:Nat} {ad:Option Addr} {i:Int} [s:je P t el n] (h:ev σ x=some (.slice ad l c)) (h1:ev σ y=some (.int k i)) (h0:0≤i) (hl:i≤c) (hd:Nat.blt d N.n=true) (kk:O P N all rest Q ((d,.slice ad i.toNat c)::σ) e L):O P N all (⟨some d,.slice t x none (some y) none,ty,pos,af,none⟩::rest) Q σ e L:=bx _ (cD.iV h h1 h0 hl) hd kk
theorem O.lm {el n l c:Nat} {ad:Option Addr} {i:Int} [s:je P t el n] (h:ev σ x=some (.slice ad l c)) (h1:ev σ y=some (.int k i)) (h0:0≤i) (hl:i≤l) (hd:Nat.blt d N.n=true) (kk:O P N all rest Q ((d,.slice (cutAt ad c i.toNat n) (l - i.toNat) (c - i.toNat))::σ) e L):O P N all (⟨some d,.slice t x (some y) none none,ty,pos,af,none⟩::rest) Q σ e L:=bx _ (cD.lm h h1 h0 hl) hd kk
theorem O.u1 {el n l c:Nat} {ad:Option Addr} {i j:Int} [s:je P t el n] (h:ev σ x=some (.slice ad l c)) (h1:ev σ y=some (.int k i)) (h2:ev σ z=some (.int k' j)) (h0:0≤i) (hl:i≤j) (hj:j≤c) (hd:Nat.blt d N.n=true) (kk:O P N all rest Q ((d,.slice (cutAt ad c i.toNat n) (j.toNat - i.toNat) (c - i.toNat))::σ) e L):O P N all (⟨some d,.slice t x (some y) (some z) none,ty,pos,af,none⟩::rest) Q σ e L:=bx _ (cD.u1 h h1 h2 h0 hl hj) hd kk
theorem O.build {nu:Array (Nat × Nat)} {z:Array Value} {cells:List Value} {parts:List (Nat × Operand)} {vs:List (Nat × Value)} [i:eu P t nu z] (h:uU σ parts=some vs) (hc:Instr.fill (nu[·]?) z vs=some cells.toArray) (hd:Nat.blt d N.n=true) (kk:O P N all rest Q ((d,.agg cells.toArray)::σ) e L):O P N all (⟨some d,.build t parts.toArray,ty,pos,af,none⟩::rest) Q σ e L:=bx _ (bL h hc) hd kk
theorem O.max (h:ev σ x=some (.int k m)) (h1:ev σ y=some (.int k' n)) {ats:Array TypeId} (hd:Nat.blt d N.n=true) (kk:O P N all rest Q ((d,.int k (if n > m then n else m))::σ) e L):O P N all (⟨some d,.call { callee:=.builtin .max,args:=#[x,y],argTypes:=ats },ty,pos,af,none⟩::rest) Q σ e L:=bx _ (cD.max h h1) hd kk
theorem O.store {g off:Nat} {cs cs':List Value} {T:TypeId} {L':List cJ} [i:dL P t] (h:ev σ x=some (.pointer (some ⟨g,off,none⟩))) (h1:ev σ y=some v) (hv:v.oneCell'=true) (u:wb L (cK g cs T (0,0)) (cK g cs' T (0,0)) L') (jL:gx cs off v cs') (kk:O P N all rest Q σ e L'):O P N all (⟨none,.store t x y,ty,pos,af,none⟩::rest) Q σ e L:=bC (b7 h h1 hv u jL kk)
theorem O.box {cs:List Value} (h:ev σ x=some v) (hc:v.cells=cs.toArray) (hd:Nat.blt d N.n=true) (kk:∀ g,O P N all rest Q ((d,.pointer (some ⟨g,0,none⟩))::σ) e (cK g cs t (0,0)::L)):O P N all (⟨some d,.box t x,ty,pos,af,none⟩::rest) Q σ e L:=bC (Do.box h hc hd kk)
theorem b9 {z:Value} {cs:List Value} [i:fv P t z] (hc:z.cells=cs.toArray) (hd:Nat.blt d N.n=true) (kk:∀ g,O P N all rest Q ((d,.pointer (some ⟨g,0,none⟩))::σ) e (cK g cs t (0,0)::L)):O P N all (⟨some d,.alloc t,ty,pos,af,none⟩::rest) Q σ e L:=bC (bQ hc hd kk)
theorem bY {el n len b:Nat} {z:Value} {parts:List (Nat × Operand)} {vs:List (Nat × Value)} {cs:List Value} [i:je P t el n] [j:ru P el z n b] (h:uU σ parts=some vs) (hn:Nat.ble (len*n) 16777216=true) (hlen:vs.length=len) (hc:gS n 0 vs cs) (hz:z.cells.size=n) (hd:Nat.blt d N.n=true) (kk:∀ g,O P N all rest Q ((d,.slice (some ⟨g,0,none⟩) len len)::σ) e (cK g cs el (0,0)::L)):O P N all (⟨some d,.buildSlice t len parts.toArray,ty,pos,af,none⟩::rest) Q σ e L:=bC (bE h hd hn hlen hc hz kk)
theorem O.Gm {el n g o l c:Nat} {cs:List Value} {T:TypeId} {L':List cJ} [i:je P t el n] [j:iu P el .u8] (hx:ev σ x=some (.slice (some ⟨g,o,none⟩) l c)) (u:wb L (cK g cs T (0,0)) (cK g cs T (cs.length,cs.length+1)) L') (hd:Nat.blt d N.n=true) (kk:O P N all rest Q ((d,.slice (some ⟨g,o,none⟩) l c)::σ) e L'):O P N all (⟨some d,.convert t t x,ty,pos,af,none⟩::rest) Q σ e L:=bC (Do.Gm hx hd u kk)
theorem aZ {f g:FuncId} {xs:List Operand} {vs:List Value} {ats:Array TypeId} {Post:Value→List cJ→Prop} [i:cI P f g] (hx:pZ σ xs=some vs) (hd:Nat.blt d N.n=true) (h:Ct P g vs.toArray e L Post) (kk:∀ v L',Post v L'→O P N all rest Q ((d,v)::σ) e L'):O P N all (⟨some d,.call { callee:=.value (.func f),args:=xs.toArray,argTypes:=ats },ty,pos,af,none⟩::rest) Q σ e L:=bC (bg hx hd h kk)
theorem O.rem (h:ev σ x=some (.int k m)) (h1:ev σ y=some (.int k n)) (h0:n≠0) (hd:Nat.blt d N.n=true) (kk:O P N all rest Q ((d,.int k (m.tmod n))::σ) e L):O P N all (⟨some d,.binOp .rem t x y t',ty,pos,af,none⟩::rest) Q σ e L:=bx _ (cD.rem h h1 h0) hd kk
theorem O.quo (h:ev σ x=some (.int k m)) (h1:ev σ y=some (.int k n)) (h0:n≠0) (hd:Nat.blt d N.n=true) (kk:O P N all rest Q ((d,.int k (k.wrap (m.tdiv n)))::σ) e L):O P N all (⟨some d,.binOp .quo t x y t',ty,pos,af,none⟩::rest) Q σ e L:=bx _ (cD.quo h h1 h0) hd kk
theorem O.extract {vs:List Value} {i:Nat} (h:ev σ x=some (.tuple vs.toArray)) (hv:nth vs i=some v) (hd:Nat.blt d N.n=true) (kk:O P N all rest Q ((d,v)::σ) e L):O P N all (⟨some d,.extract x i,ty,pos,af,none⟩::rest) Q σ e L:=bx _ (bl h hv) hd kk
theorem O.makeFunc {f:FuncId} {xs ys:List Operand} {us vs:List Value} (h:pZ σ xs=some us) (h1:pZ σ ys=some vs) (hd:Nat.blt d N.n=true) (kk:O P N all rest Q ((d,.func (.func f) us.toArray vs.toArray)::σ) e L):O P N all (⟨some d,.makeFunc (.func f) xs.toArray ys.toArray,ty,pos,af,none⟩::rest) Q σ e L:=bx _ (cD.makeFunc h h1) hd kk
theorem O.p9 {g c kk nn off:Nat} {E:TypeId} {xs:List Value} {R:List cJ} [i:dL P t] (h:ev σ x=some (.pointer (some ⟨g,off,none⟩))) (h1:ev σ y=some v) (hv:v.oneCell'=true)
 (p:cR L (dE E nn (.slice (some ⟨g,0,none⟩) kk c) kk xs) R) (ho:off<kk*nn) (k:O P N all rest Q σ e (dE E nn (.slice (some ⟨g,0,none⟩) kk c) kk (xs.set off v)::R)):O P N all (⟨none,.store t x y,ty,pos,af,none⟩::rest) Q σ e L:=bC (Do.p9 h h1 hv p ho k)
theorem O.ek {nn g off:Nat} {vs cs cs':List Value} {T:TypeId} {L':List cJ} [i:jf P t nn] (h:ev σ x=some (.pointer (some ⟨g,off,none⟩))) (h1:ev σ y=some (.agg vs.toArray)) (hn:vs.length=nn) (hv:∀ v∈vs,v.oneCell'=true)
 (u:wb L (cK g cs T (0,0)) (cK g cs' T (0,0)) L') (jL:iw cs off vs cs') (kk:O P N all rest Q σ e L'):O P N all (⟨none,.store t x y,ty,pos,af,none⟩::rest) Q σ e L:=bC (Do.ek h h1 hn hv u jL kk)
theorem O.makeSlice {el nn b c:Nat} {z z0:Value} [i:je P t el nn] [j:ru P el z 1 b] (hx:ev σ x=some (.int k (c:Int))) (hy:ev σ y=some (.int k' (c:Int))) (hz:z.cells=#[z0]) (hb:c≤4611686018427387904∧c*b≤140737488355328) (hd:Nat.blt d N.n=true)
 (kk:∀ g,O P N all rest Q ((d,.slice (some ⟨g,0,none⟩) c c)::σ) e (dE el 1 (.slice (some ⟨g,0,none⟩) c c) c (List.replicate c z0)::L)):O P N all (⟨some d,.makeSlice t x y,ty,pos,af,none⟩::rest) Q σ e L:=bC (Do.makeSlice hx hy hd hz (by simp only [maxLen];omega) hb.2 kk)
theorem O.gB {f g:FuncId} {us ws:List Value} {xs:List Operand} {vs:List Value} {ats:Array TypeId} {Post:Value→List cJ→Prop} [i:cI P f g] (hf:ev σ x=some (.func (.func f) us.toArray ws.toArray)) (hx:pZ σ xs=some vs) (hd:Nat.blt d N.n=true) (h:Ct P g (us++vs++ws).toArray e L Post) (kk:∀ v L',Post v L'→O P N all rest Q ((d,v)::σ) e L'):O P N all (⟨some d,.call { callee:=.value x,args:=xs.toArray,argTypes:=ats },ty,pos,af,none⟩::rest) Q σ e L:=bC (Do.gB hf hx hd h kk)
theorem cE.elemOf {α:Type} {f:α→List Value} {L:List cJ} {nn kk c g o i:Nat} {l:List α} {a:α} {u:Value} (r:cE L nn (.slice (some ⟨g,o,none⟩) kk c) kk (l.flatMap f)) (hf:∀ a,(f a).length=nn) {j:Nat} (hj:l[j]?=some a) (hi:(f a)[i]?=some u):Rd L ⟨g,o+j*nn+i,none⟩ u:=by
 have cO:i<nn:=by rw [← hf a];exact (List.getElem?_eq_some_iff.1 hi).1
 have key:∀ (l:List α) (j:Nat),l[j]?=some a→(l.flatMap f)[j*nn+i]?=some u:=by
  intro l
  induction l with
  | nil=>intro j h;simp at h
  | cons b l ih =>
   intro j h;rw [aU]
   cases j with
   | zero =>
    simp only [List.getElem?_cons_zero,Option.some.injEq] at h
    subst h;rw [List.getElem?_append_left (by rw [hf];omega)]
    simpa using hi
   | succ j =>
    rw [List.getElem?_append_right (by rw [hf,Nat.add_mul];omega),hf];rw [show (j+1)*nn+i - nn=j*nn+i by rw [Nat.add_mul];omega];exact ih j (by simpa using h)
 have:=cE.elem r (key l j hj)
 rwa [← Nat.add_assoc] at this
end
end Go.Bs
