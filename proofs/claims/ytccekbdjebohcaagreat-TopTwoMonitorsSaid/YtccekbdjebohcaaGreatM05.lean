/- Part 5 of a proof of this: TopTwoMonitors returns true for any arguments; nothing of the old memory is turned. No condition. -/
import Derived.Test.YtccekbdjebohcaaGreatM04
set_option linter.unusedVariables false
set_option linter.unusedSimpArgs false
namespace Go.Bs
structure Port where
 id:Nat
 i:Nat
 gW:List Nat
 mem:Value→(Nat→Value)→List cK
structure mR where
 i:Nat
 d:Nat
 gW:List Nat
 kj:List Nat
 ok:Value→(Nat→Value)→Prop
 outs:List (Nat × (Value→(Nat→Value)→List cK))
def fQ (us:List Nat) (V:Nat→Value):Nat→Value:=fun k=>if us.contains k then V k else undef
theorem pT {us:List Nat} {V V':Nat→Value} (h:∀ k∈us,V k=V' k):fQ us V=fQ us V':=by
 funext k
 unfold fQ
 cases hc:us.contains k with
 | false=>rfl
 | true=>exact h k (List.contains_iff_mem.1 hc)
def mR.sQ (x:mR):List Port:=x.outs.map fun o=>⟨o.1,x.i,x.gW,o.2⟩
def eG (D:List mR):List Port:=D.flatMap mR.sQ
def ln (V:Nat→Value) (l:List Port):List cK:=l.flatMap fun p=>p.mem (V p.i) (fQ p.gW V)
def pU (D:List mR) (x:mR):List Port:=(eG D).filter fun p=>x.kj.contains p.id
def kR (V:Nat→Value):List mR→Env
 | []=>[]
 | y::l=>if y.d<100000 then (y.d,V y.i)::kR V l else kR V l
theorem rK {V:Nat→Value}:∀ {D:List mR} {p:Nat × Value},p∈kR V D→∃ y∈D,y.d<100000∧(y.d,V y.i)=p
 | y::l,p,h=>by
  unfold kR at h
  split at h
  ·rename_i hd;rcases aQ.1 h with rfl|h
   ·exact ⟨y,List.mem_cons_self ..,hd,rfl⟩
   ·obtain ⟨z,hz,h⟩:=rK h;exact ⟨z,aU _ hz,h⟩
  ·obtain ⟨z,hz,h⟩:=rK h;exact ⟨z,aU _ hz,h⟩
section
variable (P:Program) (N:Fr) (ops:Array Oper) (e:World) (σ0:Env) (L0:List cK)
def xy (D:List mR) (x:mR):Prop:=∃ o,ops[x.i]?=some o∧sL ops σ0 o∧∀ (V:Nat→Value) (σr:Env) (M:List cK),(∀ k v,get σ0 k=some v→get σr k=some v)→(∀ y∈D,y.i∈x.gW→y.d<100000→get σr y.d=some (V y.i)∧y.ok (V y.i) (fQ y.gW V)) →
 Do P N o (fun σ' L'=>∃ v,σ'=(if x.d<100000 then (x.d,v)::σr else σr)∧x.ok v (fQ x.gW V)∧cC L' (x.outs.flatMap (fun o=>o.2 v (fQ x.gW V))++(M++L0))) σr e (ln V (pU D x)++(M++L0))
end
def sR (ops:Array Oper) (l0:Array Bool):List Nat→List mR→Bool
 | _,[]=>true
 | pre,x::r=>(match l0[x.i]? with|some b=>!b|none=>false) &&
  (match ops[x.i]? with
   | some o=>o.after.all (fun ed=>!Region.binds .any ed || l0.getD ed.on false || pre.contains ed.on) && x.gW.all (fun k=>qx o k)
   | none=>false) && sR ops l0 (x.i::pre) r
def FU (ops:Array Oper) (D:List mR):List mR:=D.filter fun s=>!D.any fun z=>match ops[z.i]? with|some o=>qx o s.i|none=>false
def Az (ops:Array Oper) (l0:Array Bool) (D:List mR) (j:Nat):Bool :=
 (match l0[j]? with|some b=>b|none=>true) || (D.map (·.i)).contains j || (match ops[j]? with
  | some o=>(FU ops D).all (fun s=>qx o s.i) || o.after.any (fun ed=>Region.binds .any ed && !(D.map (·.i)).contains ed.on && !l0.getD ed.on false)
  | none=>true)
def VW (D:List mR) (x:mR) (k:Nat):Bool:=(eG D).any fun p=>p.id == k && x.gW.contains p.i
def DF (ops:Array Oper) (l0:Array Bool) (D:List mR):Bool :=
 sR ops l0 [] D && rC (D.map (·.i)) && rC (D.flatMap (·.kj)) && (List.range ops.size).all (Az ops l0 D) && rC ((eG D).map (·.id)) && D.all (fun x=>x.kj.all (VW D x))
def DG (keys:List Nat) (D:List mR):Bool:=rC (D.map (·.d)) && keys.all fun k=>!(D.map (·.d)).contains k
theorem gP {ops:Array Oper} {l0:Array Bool}:∀ {D:List mR} {pre:List Nat},sR ops l0 pre D=true→∀ A x B,D=A++x::B→l0[x.i]?=some false∧∃ o,ops[x.i]?=some o ∧
 (∀ ed∈o.after,Region.binds .any ed=true→l0.getD ed.on false=true∨ed.on∈pre∨ed.on∈A.map (·.i))∧(∀ k∈x.gW,qx o k=true)
 | [],_,_,A,x,B,vN=>by simp at vN
 | y::r,pre,h,A,x,B,vN=>by
  simp only [sR,Bool.and_eq_true] at h
  obtain ⟨⟨h1,h2⟩,h3⟩:=h
  cases A with
  | nil =>
   rw [List.nil_append] at vN
   obtain ⟨rfl,rfl⟩:=List.cons.inj vN;refine ⟨?_,?_⟩
   ·cases hq:l0[y.i]? with
    | none=>rw [hq] at h1;cases h1
    | some b=>rw [hq] at h1;simp at h1;rw [h1]
   ·cases hq:ops[y.i]? with
    | none=>rw [hq] at h2;cases h2
    | some o =>
     rw [hq] at h2
     simp only [Bool.and_eq_true] at h2
     refine ⟨o,rfl,fun ed Ks hb=>?_,fun k hk=>List.all_eq_true.1 h2.2 k hk⟩;have:=Array.all_eq_true'.1 h2.1 ed Ks;simp only [hb,Bool.not_true,Bool.false_or,Bool.or_eq_true,List.contains_iff_mem] at this
     rcases this with h|h
     ·exact .inl h
     ·exact .inr (.inl h)
  | cons z A =>
   rw [List.cons_append] at vN
   obtain ⟨rfl,rfl⟩:=List.cons.inj vN;obtain ⟨a1,o,a2,a3,a4⟩:=gP h3 A x B rfl;refine ⟨a1,o,a2,fun ed Ks hb=>?_,a4⟩;rcases a3 ed Ks hb with h|h|h
   ·exact .inl h
   ·rcases aQ.1 h with h|h
    ·exact .inr (.inr (by rw [h];exact List.mem_cons_self ..))
    ·exact .inr (.inl h)
   ·exact .inr (.inr (aU _ h))
theorem nh (U:List Nat):∀ (D:List mR),(∃ x∈D,x.i ∉ U)→∃ A x B,D=A++x::B∧x.i ∉ U∧∀ y∈A,y.i∈U
 | [],⟨_,h,_⟩=>by cases h
 | y::r,h=>by
  by_cases hy:y.i∈U
  ·obtain ⟨A,x,B,h1,h2,h3⟩:=nh U r (by
    obtain ⟨x,hx,hn⟩:=h;rcases aQ.1 hx with rfl|hx
    ·exact absurd hy hn
    ·exact ⟨x,hx,hn⟩)
   exact ⟨y::A,x,B,by rw [h1];rfl,h2,fun z hz=>by
    rcases aQ.1 hz with rfl|hz
    ·exact hy
    ·exact h3 z hz⟩
  ·exact ⟨[],y,r,rfl,hy,fun z hz=>by cases hz⟩
theorem BN (U:List Nat) (D:List mR) (h:∃ x∈D,x.i ∉ U):∃ A x B,D=A++x::B∧x.i ∉ U∧∀ y∈B,y.i∈U:=by
 obtain ⟨x,hx,hn⟩:=h;obtain ⟨A,y,B,h1,h2,h3⟩:=nh U D.reverse ⟨x,List.mem_reverse.2 hx,hn⟩;refine ⟨B.reverse,y,A.reverse,?_,h2,fun z hz=>h3 z (List.mem_reverse.1 hz)⟩;have:=congrArg List.reverse h1;rw [List.reverse_reverse] at this
 rw [this]
 simp
theorem pV {D:List mR} (hn:(D.map (·.i)).Nodup) {x:mR} (hx:x∈D):D.filter (fun y=>y.i == x.i)=[x]:=by
 obtain ⟨A,B,rfl⟩:=List.append_of_mem hx;rw [ah,List.map_cons] at hn
 have h1:=List.nodup_append.1 hn;have h2:=List.nodup_cons.1 h1.2.1;rw [List.filter_append,List.filter_cons];simp only [beq_self_eq_true,if_true];rw [List.filter_eq_nil_iff.2 fun y hy h=>?_,List.filter_eq_nil_iff.2 fun y hy h=>?_]
 ·rfl
 ·exact h2.1 (by rw [← beq_iff_eq.1 h];exact aD.2 ⟨y,hy,rfl⟩)
 ·exact h1.2.2 y.i (aD.2 ⟨y,hy,rfl⟩) x.i (List.mem_cons_self ..) (beq_iff_eq.1 h)
def fR (D:List mR) (U:List Nat) (p:Port):Bool:=U.contains p.i && !D.any fun z=>z.kj.contains p.id && U.contains z.i
theorem DH {V V':Nat→Value} {l:List Port} (h:∀ y∈l,V y.i=V' y.i∧∀ k∈y.gW,V k=V' k):ln V l=ln V' l:=by
 induction l with
 | nil=>rfl
 | cons y l ih =>
  show y.mem (V y.i) (fQ y.gW V)++ln V l=y.mem (V' y.i) (fQ y.gW V')++ln V' l
  rw [(h y (List.mem_cons_self ..)).1,pT (h y (List.mem_cons_self ..)).2,ih fun z hz=>h z (aU _ hz)]
theorem sS {x:mR} {p:Port} (h:p∈x.sQ):p.i=x.i:=by
 obtain ⟨o,_,rfl⟩:=aD.1 h
 rfl
theorem Ny {x:mR} {p:Port} (h:p∈x.sQ):p.gW=x.gW:=by
 obtain ⟨o,_,rfl⟩:=aD.1 h
 rfl
theorem DI {D:List mR} (hn:(D.map (·.i)).Nodup) {x:mR} (hx:x∈D):(eG D).filter (fun p=>p.i == x.i)=x.sQ:=by
 obtain ⟨A,B,rfl⟩:=List.append_of_mem hx;rw [ah,List.map_cons] at hn
 have h1:=List.nodup_append.1 hn;have h2:=List.nodup_cons.1 h1.2.1;unfold eG;rw [aW,aV,List.filter_append,List.filter_append];rw [List.filter_eq_nil_iff.2 fun p hp h=>?_,List.filter_eq_self.2 fun p hp=>?_,List.filter_eq_nil_iff.2 fun p hp h=>?_]
 ·simp
 ·obtain ⟨y,hy,hp⟩:=List.mem_flatMap.1 hp;exact h2.1 (by rw [← beq_iff_eq.1 h,sS hp];exact aD.2 ⟨y,hy,rfl⟩)
 ·rw [sS hp];exact beq_self_eq_true _
 ·obtain ⟨y,hy,hp⟩:=List.mem_flatMap.1 hp;exact h1.2.2 y.i (aD.2 ⟨y,hy,rfl⟩) x.i (List.mem_cons_self ..) (by rw [← sS hp];exact beq_iff_eq.1 h)
theorem K7 {l:List Port} (hn:(l.map (·.id)).Nodup) {p q:Port} (hp:p∈l) (hq:q∈l) (h:p.id=q.id):p=q:=by
 induction l with
 | nil=>cases hp
 | cons y l ih =>
  rw [List.map_cons] at hn
  have h1:=List.nodup_cons.1 hn;rcases aQ.1 hp with hp|hp
  ·rcases aQ.1 hq with hq|hq
   ·rw [hp,hq]
   ·exact absurd (by rw [← hp,h];exact aD.2 ⟨q,hq,rfl⟩) h1.1
  ·rcases aQ.1 hq with hq|hq
   ·exact absurd (by rw [← hq,← h];exact aD.2 ⟨p,hp,rfl⟩) h1.1
   ·exact ih h1.2 hp hq
theorem xz {V:Nat→Value} {x:mR} {v:Value} (h:V x.i=v):ln V x.sQ=x.outs.flatMap fun o=>o.2 v (fQ x.gW V):=by
 unfold ln mR.sQ;rw [List.flatMap_map]
 show (x.outs.flatMap fun o=>o.2 (V x.i) (fQ x.gW V))=_
 rw [h]
section
variable {P:Program} {N:Fr} {ops:Array Oper} {e:World} {σ0:Env} {L0:List cK} {T:List Nat} {R0:List cK} {n:Nat} {l0:Array Bool} {Q:fM}
theorem DJ {D:List mR} {I:List Nat} {Q':Exit→Act→World→Prop} {S:Array Bool→World→Prop} (hB:DF ops l0 D=true) (hD:DG (σ0.map (·.1)) D=true) (kQ:∀ x∈D,x.i ∉ I→xy P N ops e σ0 L0 D x)
 (hS:∀ l w L,Sat e (L++L0) w→S l w)
 (fin:∀ a w (V:Nat→Value),(∀ y∈D,y.ok (V y.i) (fQ y.gW V))→Has N (kR V D++σ0) a→Sat e (ln V ((eG D).filter fun p=>!D.any fun z=>z.kj.contains p.id)++L0) w→wpS P ops Q' S n (mark l0 (D.map (·.i))) a w) :
 ∀ (m:Nat) (U:List Nat),(∀ i∈I,i∈U)→U.Nodup→(∀ i∈U,i∈D.map (·.i))→U.length+m=D.length→∀ (l:Array Bool) (a:Act) (w:World) (V:Nat→Value),
  (∀ i,l[i]?=(l0[i]?).map (fun b=>b || U.contains i))→(∀ z∈D,z.i∈U→∀ o,ops[z.i]?=some o→∀ ed∈o.after,Region.binds .any ed=true→l.getD ed.on false=true) →
  Has N σ0 a→(∀ y∈D,y.i∈U→(y.d<100000→a.tmps[y.d]?=some (V y.i))∧y.ok (V y.i) (fQ y.gW V))→Sat e (ln V ((eG D).filter (fR D U))++L0) w→wpS P ops Q' S (n+m) l a w:=by
 simp only [DF,DG,Bool.and_eq_true] at hB hD
 obtain ⟨⟨⟨⟨⟨PV,VX⟩,X4⟩,X5⟩,X6⟩,X7⟩:=hB;obtain ⟨hD1,hD2⟩:=hD;have yQ:=jZ VX;have mV:=jZ X4;have SM:=jZ hD1;have SN:=jZ X6
 have MT:∀ p∈eG D,∃ y∈D,p.i=y.i:=fun p hp=>by
  obtain ⟨y,hy,hp⟩:=List.mem_flatMap.1 hp;exact ⟨y,hy,sS hp⟩
 have hpu:∀ p∈eG D,∃ y∈D,p.i=y.i∧p.gW=y.gW:=fun p hp=>by
  obtain ⟨y,hy,hp⟩:=List.mem_flatMap.1 hp;exact ⟨y,hy,sS hp,Ny hp⟩
 have SO:∀ z∈D,∀ p∈eG D,p.id∈z.kj→p.i∈z.gW:=fun z hz p hp Dj=>by
  have h1:=List.all_eq_true.1 (List.all_eq_true.1 X7 z hz) p.id Dj;obtain ⟨q,hq,h2⟩:=List.any_eq_true.1 h1;rw [Bool.and_eq_true,beq_iff_eq,List.contains_iff_mem] at h2
  rw [← K7 SN hq hp h2.1];exact h2.2
 have K8:∀ x∈D,l0[x.i]?=some false:=fun x hx=>by
  obtain ⟨A,B,h⟩:=List.append_of_mem hx;exact (gP PV A x B h).1
 intro m
 induction m with
 | zero =>
  intro U VY hU lO hlen l a w V hl BB ha hv hs
  have eW:∀ y∈D,y.i∈U:=fun y hy=>by
   exact IT hU lO (by rw [ab];omega) _ (aD.2 ⟨y,hy,rfl⟩)
  have CZ:l=mark l0 (D.map (·.i)):=by
   apply Array.ext_getElem?;intro i;rw [hl,sG]
   have:U.contains i=(D.map (·.i)).contains i:=by
    rw [Bool.eq_iff_iff,List.contains_iff_mem,List.contains_iff_mem]
    constructor
    ·exact lO i
    ·intro h;obtain ⟨y,hy,rfl⟩:=aD.1 h;exact eW y hy
   rw [this]
  subst CZ;refine fin a w V (fun y hy=>(hv y hy (eW y hy)).2) ⟨ha.size,ha.defers,fun k v hk=>?_⟩ ?_
  ·refine Dr (σ:=kR V D) (τ:=σ0) (a:=a) (fun k v hk=>?_) ha.val k v hk;have:=get_mem hk;obtain ⟨y,hy,Uz,he⟩:=rK this
   cases he
   exact (hv y hy (eW y hy)).1 Uz
  ·have:(eG D).filter (fR D U)=(eG D).filter fun p=>!D.any fun z=>z.kj.contains p.id:=by
    apply List.filter_congr;intro p hp;obtain ⟨y,hy,he⟩:=MT p hp;unfold fR;rw [he,List.contains_iff_mem.2 (eW y hy),Bool.true_and]
    congr 1
    rw [Bool.eq_iff_iff,List.any_eq_true,List.any_eq_true]
    constructor
    ·rintro ⟨z,hz,h⟩;rw [Bool.and_eq_true] at h
     exact ⟨z,hz,h.1⟩
    ·rintro ⟨z,hz,h⟩;exact ⟨z,hz,by rw [Bool.and_eq_true];exact ⟨h,List.contains_iff_mem.2 (eW z hz)⟩⟩
   rw [this] at hs
   exact hs
 | succ m ih =>
  intro U VY hU lO hlen l a w V hl BB ha hv hs
  have FV:∀ i,l.getD i false=(match l0[i]? with|some b=>b || U.contains i|none=>false):=fun i=>by
   rw [Array.getD_eq_getD_getElem?,hl];cases l0[i]?<;>rfl
  have OO:∀ i,l.getD i true=(match l0[i]? with|some b=>b || U.contains i|none=>true):=fun i=>by
   rw [Array.getD_eq_getD_getElem?,hl];cases l0[i]?<;>rfl
  have SP:∃ x∈D,x.i ∉ U:=by
   by_cases h:∃ x∈D,x.i ∉ U
   ·exact h
   ·exfalso
    have h2:∀ i∈D.map (·.i),i∈U:=fun i hi=>by
     obtain ⟨y,hy,rfl⟩:=aD.1 hi;exact Classical.byContradiction fun hn=>h ⟨y,hy,hn⟩
    have:=ux yQ h2;rw [ab] at this
    omega
  have DK:∀ y∈D,(l.getD y.i false=true↔y.i∈U):=fun y hy=>by
   rw [FV,K8 y hy]
   simp
  refine ⟨fun lF=>?_,fun i hi=>?_⟩
  ·exfalso
   obtain ⟨A,x,B,vN,Kt,hA⟩:=nh U D SP;obtain ⟨g1,o,g2,g3,_⟩:=gP PV A x B vN
   have hr:x.i∈Region.ready .any ops l:=by
    refine mem_ready.2 ⟨?_,o,g2,fun ed Ks hb=>?_⟩
    ·rw [OO,g1]
     simpa using Kt
    ·rcases g3 ed Ks hb with h|h|h
     ·rw [FV];rw [Array.getD_eq_getD_getElem?] at h
      cases hq:l0[ed.on]? with
      | none=>rw [hq] at h;cases h
      | some b=>rw [hq] at h;simp at h;subst h;rfl
     ·cases h
     ·obtain ⟨y,hy,he⟩:=aD.1 h;rw [← he];exact (DK y (by rw [vN];exact List.mem_append_left _ hy)).2 (hA y hy)
   rw [lF] at hr;cases hr
  ·obtain ⟨Kl,o,ho,eW⟩:=mem_ready.1 hi
   have tR:l0[i]?=some false∧U.contains i=false:=by
    rw [OO] at Kl
    cases hq:l0[i]? with
    | none=>rw [hq] at Kl;cases Kl
    | some b =>
     rw [hq] at Kl
     simp only [Bool.or_eq_false_iff] at Kl
     exact ⟨by rw [Kl.1],Kl.2⟩
   have sC:i∈D.map (·.i):=by
    refine Classical.byContradiction fun Fl=>?_
    have cQ:i<ops.size:=(Array.getElem?_eq_some_iff.1 ho).1;have h1:=List.all_eq_true.1 X5 i (List.mem_range.2 cQ);unfold Az at h1
    rw [tR.1,ho] at h1
    simp only [Bool.or_eq_true,Bool.false_eq_true,false_or,List.contains_iff_mem,Fl] at h1
    rcases h1 with h1|h1
    ·obtain ⟨A,x,B,vN,Kt,hBd⟩:=BN U D SP;have SQ:x∈D:=by rw [vN];simp
     have PW:qx o x.i=true→False:=fun hb=>by
      obtain ⟨ed,h2,h3,h4⟩:=lT hb;have h5:=eW ed h2 h3;rw [h4,DK x SQ] at h5
      exact Kt h5
     by_cases K9:x∈FU ops D
     ·exact PW (List.all_eq_true.1 h1 x K9)
     ·
      simp only [FU,List.mem_filter,SQ,true_and,Bool.not_eq_true',Bool.not_eq_false] at K9
      obtain ⟨z,hz,Rv⟩:=List.any_eq_true.1 K9
      cases La:ops[z.i]? with
      | none=>rw [La] at Rv;cases Rv
      | some oz =>
       rw [La] at Rv
       obtain ⟨ed,h2,h3,h4⟩:=lT Rv
       have I4:z.i∈U:=by
        rw [vN] at hz
        rcases aJ.1 hz with hzA|VZ
        ·
         exfalso
         obtain ⟨A1,A2,rfl⟩:=List.append_of_mem hzA;obtain ⟨_,o',b1,b2,_⟩:=gP PV A1 z (A2++x::B) (by rw [vN];simp);rw [La] at b1;cases b1
         rcases b2 ed h2 h3 with h|h|h
         ·rw [h4,Array.getD_eq_getD_getElem?,K8 x SQ] at h;cases h
         ·cases h
         ·rw [h4] at h
          have BO:=yQ;rw [vN] at BO
          simp only [ah,List.map_cons,aM,List.cons_append] at BO
          have:=(List.nodup_append.1 BO).2.2 x.i h x.i (by simp);exact this rfl
        ·rcases aQ.1 VZ with rfl|VZ
         ·exfalso
          obtain ⟨_,o',b1,b2,_⟩:=gP PV A z B vN;rw [La] at b1;cases b1
          rcases b2 ed h2 h3 with h|h|h
          ·rw [h4,Array.getD_eq_getD_getElem?,K8 z SQ] at h;cases h
          ·cases h
          ·rw [h4] at h
           have BO:=yQ;rw [vN] at BO
           simp only [ah,List.map_cons] at BO
           exact (List.nodup_append.1 BO).2.2 z.i h z.i (by simp) rfl
         ·exact hBd z VZ
       have h5:=BB z hz I4 oz La ed h2 h3;rw [h4,DK x SQ] at h5
       exact Kt h5
    ·obtain ⟨ed,Ks,hb⟩:=Array.any_eq_true'.1 h1;simp only [Bool.and_eq_true,Bool.not_eq_true'] at hb
     have h3:=eW ed Ks hb.1.1;rw [FV] at h3
     have h4:U.contains ed.on=false:=by
      cases hc:U.contains ed.on with
      | false=>rfl
      | true =>
       exfalso
       have h6:=lO _ (List.contains_iff_mem.1 hc);have h7:=hb.1.2;rw [List.contains_iff_mem.2 h6] at h7
       cases h7
     have h8:=hb.2;rw [Array.getD_eq_getD_getElem?] at h8
     cases hq:l0[ed.on]? with
     | none=>rw [hq] at h3;cases h3
     | some b =>
      rw [hq] at h3 h8;simp at h3 h8;rw [h8] at h3;rcases h3 with h3|h3;· cases h3
      ·rw [List.contains_iff_mem.2 h3] at h4;cases h4
   obtain ⟨x,hx,rfl⟩:=aD.1 sC;have Kt:x.i ∉ U:=fun h=>by rw [List.contains_iff_mem.2 h] at tR;cases tR.2
   obtain ⟨o',OB,hg,SR⟩:=kQ x hx (fun h=>Kt (VY _ h));rw [ho] at OB;cases OB
   obtain ⟨A0,B0,V0⟩:=List.append_of_mem hx;obtain ⟨_,o',OB,_,SS⟩:=gP PV A0 x B0 V0;rw [ho] at OB;cases OB
   have Lb:∀ y∈D,y.i∈x.gW→y.i∈U:=fun y hy OP=>by
    obtain ⟨ed,h2,h3,h4⟩:=lT (SS _ OP);have h5:=eW ed h2 h3;rw [h4,DK y hy] at h5
    exact h5
   have OQ:∀ z∈D,z.i∈U→x.i ∉ z.gW:=fun z hz I4 X8=>by
    obtain ⟨A1,B1,Lc⟩:=List.append_of_mem hz;obtain ⟨_,oz,La,_,h2⟩:=gP PV A1 z B1 Lc;obtain ⟨ed,h3,h4,h5⟩:=lT (h2 _ X8);have h6:=BB z hz I4 oz La ed h3 h4;rw [h5,DK x hx] at h6
    exact Kt h6
   have OR:x.i ∉ x.gW:=fun h=>Kt (Lb x hx h)
   have SU:∀ z∈D,∀ k,k∈z.kj→k∈x.kj→z=x:=fun z hz k h1 h2=>by
    refine Classical.byContradiction fun PX=>?_
    obtain ⟨A1,B1,Lc⟩:=List.append_of_mem hz;rw [Lc] at hx mV
    rw [aW,aV] at mV
    have n1:=List.nodup_append.1 mV;have n2:=List.nodup_append.1 n1.2.1;rcases aJ.1 hx with hx|hx
    ·exact n1.2.2 k (List.mem_flatMap.2 ⟨x,hx,h2⟩) k (List.mem_append_left _ h1) rfl
    ·rcases aQ.1 hx with rfl|hx
     ·exact PX rfl
     ·exact n2.2.2 k h1 k (List.mem_flatMap.2 ⟨x,hx,h2⟩) rfl
   have SV:∀ p∈eG D,p.id∈x.kj→p.i∈U:=fun p hp Dj=>by
    obtain ⟨y,hy,he⟩:=MT p hp;have:=SO x hx p hp Dj;rw [he] at this ⊢
    exact Lb y hy this
   have PY:∀ p∈eG D,p.id∈x.kj→fR D U p=true:=fun p hp Dj=>by
    unfold fR;rw [List.contains_iff_mem.2 (SV p hp Dj),Bool.true_and,Bool.not_eq_true'];refine List.any_eq_false.2 fun z hz h=>?_
    rw [Bool.and_eq_true,List.contains_iff_mem,List.contains_iff_mem] at h
    have:=SU z hz _ h.1 Dj;subst this;exact Kt h.2
   have hU':(x.i::U).Nodup:=List.nodup_cons.2 ⟨Kt,hU⟩
   have OT:((eG D).filter (fR D U)).Perm (pU D x++(eG D).filter fun y=>fR D U y && !x.kj.contains y.id):=by
    have h1:=(List.filter_append_perm (fun y:Port=>x.kj.contains y.id) ((eG D).filter (fR D U))).symm;refine h1.trans ?_;rw [List.filter_filter,List.filter_filter]
    have e1:(eG D).filter (fun y=>x.kj.contains y.id && fR D U y)=pU D x:=by
     apply List.filter_congr;intro y hy
     cases hc:x.kj.contains y.id with
     | false=>rfl
     | true=>rw [PY y hy (List.contains_iff_mem.1 hc)];rfl
    have e2:(eG D).filter (fun y=>(!x.kj.contains y.id) && fR D U y)=(eG D).filter fun y=>fR D U y && !x.kj.contains y.id:=by
     apply List.filter_congr;intro y hy;exact Bool.and_comm _ _
    rw [e1,e2]
   have FF:((eG D).filter (fR D (x.i::U))).Perm (x.sQ++(eG D).filter fun y=>fR D U y && !x.kj.contains y.id):=by
    have h1:=(List.filter_append_perm (fun y:Port=>y.i == x.i) ((eG D).filter (fR D (x.i::U)))).symm;refine h1.trans ?_;rw [List.filter_filter,List.filter_filter]
    have e0:∀ y∈eG D,fR D (x.i::U) y=(y.i == x.i || (fR D U y && !x.kj.contains y.id)):=fun y hy=>by
     by_cases OU:y.i=x.i
     ·rw [OU,beq_self_eq_true,Bool.true_or];unfold fR;rw [OU,List.contains_cons,beq_self_eq_true,Bool.true_or,Bool.true_and,Bool.not_eq_true'];refine List.any_eq_false.2 fun z hz h=>?_
      rw [Bool.and_eq_true,List.contains_iff_mem,List.contains_iff_mem] at h
      have PZ:=SO z hz y hy h.1;rw [OU] at PZ
      rcases aQ.1 h.2 with h3|h3
      ·have:z.i=x.i:=h3
       have PX:z=x:=by
        have f1:=pV yQ hx;have:z∈D.filter (fun y=>y.i == x.i):=List.mem_filter.2 ⟨hz,by rw [this];exact beq_self_eq_true _⟩;rw [f1] at this
        exact an.1 this
       subst PX;exact OR PZ
      ·exact OQ z hz h3 PZ
     ·have hb:(y.i == x.i)=false:=by simpa using OU
      rw [hb,Bool.false_or];unfold fR;rw [List.contains_cons,hb,Bool.false_or,Bool.and_assoc]
      congr 1
      rw [Bool.eq_iff_iff];simp only [Bool.not_eq_true',Bool.and_eq_true,List.any_eq_false,Bool.not_eq_true,List.contains_cons,Bool.and_eq_false_imp,Bool.or_eq_false_iff]
      constructor
      ·intro h;refine ⟨fun z hz OP=>h z hz ⟨OP.1,by rw [OP.2,Bool.or_true]⟩,?_⟩
       cases hc:x.kj.contains y.id with
       | false=>rfl
       | true=>exact absurd ⟨hc,by rw [beq_self_eq_true,Bool.true_or]⟩ (h x hx)
      ·rintro ⟨h1,h2⟩ z hz ⟨OP,X9⟩;rw [Bool.or_eq_true] at X9
       rcases X9 with hc|hc
       ·have Nx:=beq_iff_eq.1 hc;have f1:=pV yQ hx;have:z∈D.filter (fun y=>y.i == x.i):=List.mem_filter.2 ⟨hz,by rw [Nx];exact beq_self_eq_true _⟩;rw [f1] at this
        have:=an.1 this;subst this;rw [h2] at OP;cases OP
       ·exact h1 z hz ⟨OP,hc⟩
    have e1:(eG D).filter (fun y=>(y.i == x.i) && fR D (x.i::U) y)=x.sQ:=by
     rw [← DI yQ hx];apply List.filter_congr;intro y hy;rw [e0 y hy]
     cases (y.i == x.i)<;>rfl
    have e2:(eG D).filter (fun y=>(!(y.i == x.i)) && fR D (x.i::U) y)=(eG D).filter fun y=>fR D U y && !x.kj.contains y.id:=by
     apply List.filter_congr;intro y hy;rw [e0 y hy]
     cases hc:(y.i == x.i) with
     | false=>rfl
     | true =>
      have hyi:=beq_iff_eq.1 hc
      have:fR D U y=false:=by
       unfold fR;have:U.contains y.i=false:=by rw [hyi];exact tR.2
       rw [this];rfl
      rw [this];rfl
    rw [e1,e2]
   have Rn:∀ q,q∈σ0.map (·.1)→q≠x.d:=fun q hq he=>by
    have h1:=List.all_eq_true.1 hD2 q hq;rw [he,List.contains_iff_mem.2 (aD.2 ⟨x,hx,rfl⟩)] at h1
    cases h1
   have Uz:∀ y∈D,y.i∈U→y.d ∉ [x.d]:=fun y hy y9 h=>by
    have he:y.d=x.d:=an.1 h;obtain ⟨A1,B1,Lc⟩:=List.append_of_mem hx;rw [Lc] at hy SM
    rw [ah,List.map_cons] at SM
    have n1:=List.nodup_append.1 SM;have n2:=List.nodup_cons.1 n1.2.1;rcases aJ.1 hy with hy|hy
    ·exact n1.2.2 y.d (aD.2 ⟨y,hy,rfl⟩) x.d (List.mem_cons_self ..) he
    ·rcases aQ.1 hy with rfl|hy
     ·exact Kt y9
     ·exact n2.1 (by rw [← he];exact aD.2 ⟨y,hy,rfl⟩)
   have SR:=SR V (n8 a [x.d]) (ln V ((eG D).filter fun y=>fR D U y && !x.kj.contains y.id))
    (fun q v hq=>n9 (fun h=>Rn q (aD.2 ⟨(q,v),get_mem hq,rfl⟩) (an.1 h)) (ha.val q v hq))
    (fun y UA hyu OV=>by
     have y9:=Lb y UA hyu;exact ⟨n9 (Uz y UA y9) ((hv y UA y9).1 OV),(hv y UA y9).2⟩)
   have fy:Sat e (ln V (pU D x)++(ln V ((eG D).filter fun y=>fR D U y && !x.kj.contains y.id)++L0)) w:=hs.cN (xa (by
    rw [← aM];refine List.Perm.append_right _ ?_;have:=List.Perm.flatMap_right (f:=fun y:Port=>y.mem (V y.i) (fQ y.gW V)) OT;rw [aW] at this
    exact this))
   refine sA ho ?_ SR ⟨ha.size,ha.defers,Ds⟩ fy ?_
   ·rcases hg with hg|⟨j,want,hg,hw⟩
    ·simp [Region.wanted,hg]
    ·obtain ⟨dst,op,ty,pos,af,gd⟩:=o;dsimp only at hg
     subst hg;exact nB ha hw
   rintro _ L' a' w' ⟨v,rfl,V1,V3⟩ z8 ny
   have OW:∀ q u,q≠x.d→a.tmps[q]?=some u→a'.tmps[q]?=some u:=fun q u hq hu=>by
    refine z8.val q u ?_
    split
    ·rw [fJ,aB (fun h=>hq h.symm)];exact n9 (fun h=>hq (an.1 h)) hu
    ·exact n9 (fun h=>hq (an.1 h)) hu
   have Ya:∀ z∈D,z.i∈U→∀ k∈z.gW,V k=(fun k=>if k=x.i then v else V k) k:=fun z hz I4 k hk=>by
    have mV:k≠x.i:=fun h=>OQ z hz I4 (by rw [← h];exact hk)
    show V k=if k=x.i then v else V k
    rw [aB mV]
   have Yb:fQ x.gW V=fQ x.gW (fun k=>if k=x.i then v else V k):=pT fun k hk=>by
    have mV:k≠x.i:=fun h=>OR (by rw [← h];exact hk)
    show V k=if k=x.i then v else V k
    rw [aB mV]
   have hV:∀ y∈(eG D).filter (fun y=>fR D U y && !x.kj.contains y.id),V y.i=(fun k=>if k=x.i then v else V k) y.i∧∀ k∈y.gW,V k=(fun k=>if k=x.i then v else V k) k:=fun y hy=>by
    have y9:U.contains y.i=true:=by
     have h1:=(List.mem_filter.1 hy).2;simp only [Bool.and_eq_true] at h1
     have:=h1.1;simp only [fR,Bool.and_eq_true] at this
     exact this.1
    have mV:y.i≠x.i:=fun h=>by
     rw [h] at y9;rw [y9] at tR;cases tR.2
    obtain ⟨z,hz,Nx,hzu⟩:=hpu y (List.mem_filter.1 hy).1;refine ⟨by dsimp only;rw [aB mV],?_⟩;rw [hzu];exact Ya z hz (by rw [← Nx];exact List.contains_iff_mem.1 y9)
   have kY:Sat e (ln (fun k=>if k=x.i then v else V k) ((eG D).filter (fR D (x.i::U)))++L0) w':=by
    refine (ny.cN V3).cN (xa ?_);rw [← aM];refine List.Perm.append_right _ ?_;have h1:=(List.Perm.flatMap_right (f:=fun y:Port=>y.mem ((fun k=>if k=x.i then v else V k) y.i) (fQ y.gW (fun k=>if k=x.i then v else V k))) FF).symm;refine List.Perm.trans ?_ h1;rw [aW];rw [DH (V':=fun k=>if k=x.i then v else V k) hV];refine List.Perm.append_right _ ?_;have h3:=xz (V:=fun k=>if k=x.i then v else V k) (x:=x) (v:=v) (by simp);unfold ln at h3
    rw [h3,Yb]
   refine ⟨hS _ _ _ kY,ih (x.i::U) (fun i hi=>aU _ (VY i hi)) hU' ?_ (by rw [aR];omega) _ a' w' (fun k=>if k=x.i then v else V k) ?_ ?_ ⟨z8.size,z8.defers,fun q u hq=>?_⟩ ?_ kY⟩
   ·intro j hj;rcases aQ.1 hj with rfl|hj
    ·exact aD.2 ⟨x,hx,rfl⟩
    ·exact lO j hj
   ·intro j
    by_cases hj:x.i=j
    ·subst hj
     have cQ:x.i<l.size:=by
      have:=hl x.i;rw [tR.1] at this
      exact (Array.getElem?_eq_some_iff.1 this).1
     rw [Array.getElem?_setIfInBounds_self_of_lt cQ,tR.1]
     simp
    ·rw [Array.getElem?_setIfInBounds_ne hj,hl];have:(j == x.i)=false:=by simp;exact fun h=>hj h.symm
     congr 1
     funext b
     rw [List.contains_cons,this,Bool.false_or]
   ·have SW:∀ k,l.getD k false=true→(l.setIfInBounds x.i true).getD k false=true:=fun k hk=>by
     rw [Array.getD_eq_getD_getElem?] at hk ⊢
     by_cases hj:x.i=k
     ·subst hj
      cases hq:l[x.i]? with
      | none=>rw [hq] at hk;cases hk
      | some b =>
       rw [Array.getElem?_setIfInBounds_self_of_lt (Array.getElem?_eq_some_iff.1 hq).1];rfl
     ·rw [Array.getElem?_setIfInBounds_ne hj];exact hk
    intro z hz I4 oz La ed Ks hb;apply SW;rcases aQ.1 I4 with PX|I4
    ·rw [PX,ho] at La;cases La
     exact eW ed Ks hb
    ·exact BB z hz I4 oz La ed Ks hb
   ·exact OW q u (Rn q (aD.2 ⟨(q,u),get_mem hq,rfl⟩)) (ha.val q u hq)
   ·intro y hy y9;rcases aQ.1 y9 with OU|y9
    ·have V4:y=x:=by
      have f1:=pV yQ hx;have:y∈D.filter (fun y=>y.i == x.i):=List.mem_filter.2 ⟨hy,by rw [OU];exact beq_self_eq_true _⟩;rw [f1] at this
      exact an.1 this
     subst V4;rw [aH rfl];exact ⟨fun OV=>z8.val _ _ (by rw [aH OV,fJ,aH rfl]),by rw [← Yb];exact V1⟩
    ·have V5:y.i≠x.i:=fun h=>Kt (h ▸ y9)
     rw [aB V5];exact ⟨fun OV=>OW _ _ (fun h=>Uz y hy y9 (by rw [h];exact an.2 rfl)) ((hv y hy y9).1 OV),by rw [← pT (Ya y hy y9)];exact (hv y hy y9).2⟩
theorem A.Nz (D:List mR) (m:Nat) (hm:D.length=m) (hB:DF ops l0 D=true) (hD:DG (σ0.map (·.1)) D=true) (kQ:∀ x∈D,xy P N ops e σ0 L0 D x) (hR:cC L0 R0)
 (k:∀ V:Nat→Value,(∀ y∈D,y.ok (V y.i) (fQ y.gW V))→A P N ops T R0 n (mark l0 (D.map (·.i))) Q (kR V D++σ0) e (ln V ((eG D).filter fun p=>!D.any fun z=>z.kj.contains p.id)++L0)):A P N ops T R0 (n+m) l0 Q σ0 e L0:=fun a w ha hs=>by
 refine DJ (I:=[]) (σ0:=σ0) (L0:=L0) (S:=ID T (Sat e R0)) hB hD (fun x hx _=>kQ x hx) (fun l w L h _=>h.cN ((km L).trans hR)) (fun a w V h1 h2 h3=>k V h1 a w h2 h3) m [] (fun i hi=>by cases hi) List.nodup_nil (fun i hi=>by cases hi) (by simpa using hm.symm) l0 a w (fun _=>undef) (fun i=>?_) (fun z hz I4=>by cases I4) ha (fun y hy y9=>by cases y9) ?_
 ·simp
 ·have:(eG D).filter (fR D [])=[]:=List.filter_eq_nil_iff.2 fun y hy h=>by simp [fR] at h
  rw [this];exact hs
theorem A.SX (x0:mR) (v0:Value) (D:List mR) (m:Nat) (hm:D.length=m) (h0:l0[x0.i]?=some true) (hB:DF ops (l0.setIfInBounds x0.i false) (x0::D)=true) (hD:DG (σ0.map (·.1)) (x0::D)=true)
 (hc:(match ops[x0.i]? with|some o=>o.after.all fun ed=>!Region.binds .any ed || l0.getD ed.on false|none=>false)=true) (DL:x0.ok v0 (fQ x0.gW fun _=>v0)) (kQ:∀ x∈D,xy P N ops e σ0 L0 (x0::D) x) (he:x0.kj=[]) (hR:cC L0 R0)
 (k:∀ V:Nat→Value,(∀ y∈x0::D,y.ok (V y.i) (fQ y.gW V))→A P N ops T R0 n (mark l0 (D.map (·.i))) Q (kR V (x0::D)++σ0) e (ln V ((eG (x0::D)).filter fun p=>!(x0::D).any fun z=>z.kj.contains p.id)++L0)):A P N ops T R0 (n+m) l0 Q ((x0.d,v0)::σ0) e (x0.outs.flatMap (fun o=>o.2 v0 (fQ x0.gW fun _=>v0))++L0):=fun a w ha hs=>by
 have cQ:x0.i<l0.size:=(Array.getElem?_eq_some_iff.1 h0).1
 have jM:∀ i,l0[i]?=((l0.setIfInBounds x0.i false)[i]?).map (fun b=>b || [x0.i].contains i):=fun i=>by
  by_cases hi:x0.i=i
  ·subst hi;rw [Array.getElem?_setIfInBounds_self_of_lt cQ,h0]
   simp
  ·rw [Array.getElem?_setIfInBounds_ne hi];have:[x0.i].contains i=false:=by simp;exact fun h=>hi h.symm
   rw [this]
   cases l0[i]?<;>simp
 have Yc:=hB;have Yj:=hD;simp only [DF,DG,Bool.and_eq_true] at Yc Yj
 obtain ⟨⟨⟨⟨⟨PV,VX⟩,X4⟩,X5⟩,X6⟩,X7⟩:=Yc;have yQ:=jZ VX;rw [List.map_cons] at yQ
 have SY:=(List.nodup_cons.1 yQ).1
 have SZ:(eG (x0::D)).filter (fR (x0::D) [x0.i])=x0.sQ:=by
  rw [← DI (D:=x0::D) (by rw [List.map_cons];exact yQ) (List.mem_cons_self ..)];apply List.filter_congr;intro p hp;unfold fR
  have h1:((x0::D).any fun z=>z.kj.contains p.id && [x0.i].contains z.i)=false:=List.any_eq_false.2 fun z hz h=>by
   rw [Bool.and_eq_true,List.contains_iff_mem,List.contains_iff_mem,an] at h
   rcases aQ.1 hz with rfl|hz
   ·rw [he] at h;cases h.1
   ·exact SY (by rw [← h.2];exact aD.2 ⟨z,hz,rfl⟩)
  rw [h1]
  cases MT:(p.i == x0.i) with
  | true=>rw [List.contains_iff_mem.2 (by rw [an];exact beq_iff_eq.1 MT)];rfl
  | false =>
   have:[x0.i].contains p.i=false:=by
    cases hq:[x0.i].contains p.i with
    | false=>rfl
    | true=>rw [List.contains_iff_mem,an] at hq;rw [hq,beq_self_eq_true] at MT;cases MT
   rw [this];rfl
 refine DJ (I:=[x0.i]) (D:=x0::D) (σ0:=σ0) (L0:=L0) (l0:=l0.setIfInBounds x0.i false) (S:=ID T (Sat e R0)) hB hD (fun x hx hxi=>?_) (fun l w L h _=>h.cN ((km L).trans hR)) (fun a w V h1 h2 h3=>?_) m [x0.i] (fun i hi=>hi) (by simp) (fun i hi=>?_) (by rw [aR,aR,List.length_nil,hm];omega) l0 a w (fun _=>v0) jM (fun z hz I4 o ho ed Ks hb=>?_) ⟨ha.size,ha.defers,fun q u hq=>ha.val q u ?_⟩ (fun y hy y9=>?_) ?_
 ·rcases aQ.1 hx with rfl|hx
  ·exact absurd (an.2 rfl) hxi
  ·exact kQ x hx
 ·have BP:mark (l0.setIfInBounds x0.i false) ((x0::D).map (·.i))=mark l0 (D.map (·.i)):=by
   apply Array.ext_getElem?;intro i;rw [sG,sG,jM i,List.map_cons]
   cases (l0.setIfInBounds x0.i false)[i]? with
   | none=>rfl
   | some b =>
    simp only [Option.map_some,List.contains_cons,List.contains_nil,Bool.or_false,Bool.or_assoc]
  rw [BP];exact k V h1 a w h2 h3
 ·rw [an.1 hi,List.map_cons];exact List.mem_cons_self ..
 ·have PX:z.i=x0.i:=an.1 I4;rw [PX] at ho
  rw [ho] at hc
  have:=Array.all_eq_true'.1 hc ed Ks
  simpa [hb] using this
 ·rw [fJ,aB (fun h=>?_)]
  ·exact hq
  ·have h1:=List.all_eq_true.1 Yj.2 q (aD.2 ⟨(q,u),get_mem hq,rfl⟩);rw [← h,List.map_cons,List.contains_cons,beq_self_eq_true] at h1
   cases h1
 ·have OU:y=x0:=by
   rcases aQ.1 hy with rfl|hy
   ·rfl
   ·exact absurd (aD.2 ⟨y,hy,an.1 y9⟩) SY
  subst OU;exact ⟨fun _=>ha.val _ _ (by rw [fJ,aH rfl]),DL⟩
 ·rw [SZ,xz (v:=v0) rfl];exact hs
end
theorem A.Rs {P:Program} {N:Fr} {ops:Array Oper} {T:List Nat} {R0:List cK} {n:Nat} {l:Array Bool} {Q:fM} {σ:Env} {e:World} {α:Sort _} {f:α→cK} {R:List cK} (h:∀ x,A P N ops T R0 n l Q σ e (f x::R)):A P N ops T R0 n l Q σ e (Ex f::R):=fun a w ha hs=>by
 obtain ⟨x,hx⟩:=wO hs.2.2.2;exact h x a w ha ⟨hs.1,hs.2.1,hs.2.2.1,hx⟩
theorem A.SG {P:Program} {N:Fr} {ops:Array Oper} {T:List Nat} {R0:List cK} {n:Nat} {l:Array Bool} {Q:fM} {σ:Env} {e:World} {p:Prop} {R:List cK} (h:p→A P N ops T R0 n l Q σ e R):A P N ops T R0 n l Q σ e (Pu p::R):=fun a w ha hs=>by
 obtain ⟨hp,hx⟩:=ke hs.2.2.2;exact h hp a w ha ⟨hs.1,hs.2.1,hs.2.2.1,hx⟩
end Go.Bs
namespace Go.Proofs
open Go.Bs
section
variable {P:Program} {N:Fr} {ops:Array Oper} {e:World} {σ0:Env} {L0:List cK} {D:List mR}
theorem fE {a:Nat} (h:Nat.blt a 100000=true):a<100000:=Nat.le_of_ble_eq_true h
def BQ (cs:List Value) (t:TypeId) (v:Value) (_:Nat→Value):List cK:=match v with|.pointer (some ⟨g,_,_⟩)=>[cM g cs t (0,0)]|_=>[]
abbrev Ld (i d id t:Nat) (cs:List Value):mR:=⟨i,d,[],[],fun v _=>∃ g,v=pt g,[(id,BQ cs t)]⟩
theorem BR {i d id t ty:Nat} {z:Value} {cs:List Value} {pos:String} {af:Array Edge} {gd:Option (Nat × Bool)} [q:fD P t z]
 (ho:ops[i]?=some ⟨some d,.alloc t,ty,pos,af,gd⟩) (hg:sL ops σ0 ⟨some d,.alloc t,ty,pos,af,gd⟩) (hd:Nat.blt d N.n=true) (hc:z.cells=cs.toArray) (he:pU D (Ld i d id t cs)=[]) (hs:d<100000:=by decide):xy P N ops e σ0 L0 D (Ld i d id t cs):=by
 refine ⟨_,ho,hg,fun V σr M h3 hy=>?_⟩;rw [he];exact bS hc hd fun g=>⟨_,by rw [aH hs],⟨g,rfl⟩,aX⟩
abbrev S1 (i d id:Nat) (v:Value) (M:List cK):mR:=⟨i,d,[],[],fun w _=>w=v,[(id,fun _ _=>M)]⟩
def sT (el:Nat) (cs:List Value) (v:Value) (_:Nat→Value):List cK:=match v with|.slice (some ⟨g,_,_⟩) _ _=>[cM g cs el (0,0)]|_=>[]
abbrev Le (i d id el:Nat) (cs:List Value):mR:=⟨i,d,[],[],fun v _=>∃ g,v=.slice (some ⟨g,0,none⟩) cs.length cs.length,[(id,sT el cs)]⟩
theorem BS {i d id t el len U7 ty:Nat} {z:Value} {cs:List Value} {parts:List (Nat × Operand)} {vs:List (Nat × Value)} {pos:String} {af:Array Edge} {gd:Option (Nat × Bool)} [s:ja P t el 1] [j:qU P el z 1 U7]
 (ho:ops[i]?=some ⟨some d,.buildSlice t len parts.toArray,ty,pos,af,gd⟩) (hg:sL ops σ0 ⟨some d,.buildSlice t len parts.toArray,ty,pos,af,gd⟩) (hd:Nat.blt d N.n=true)
 (he:pU D (Le i d id el cs)=[]) (hv:∀ σr,(∀ k v,get σ0 k=some v→get σr k=some v)→tP σr parts=some vs) (hn:Nat.ble (len*1) 16777216=true) (hlen:vs.length=len) (hc:Bs.gS 1 0 vs cs) (hz:z.cells.size=1) (hb:cs.length=len) (hs:d<100000:=by decide):xy P N ops e σ0 L0 D (Le i d id el cs):=by
 refine ⟨_,ho,hg,fun V σr M h3 hy=>?_⟩;rw [he];refine bF (hv σr h3) hd hn hlen hc hz (fun g=>⟨_,by rw [aH hs],⟨g,by rw [hb]⟩,?_⟩);exact aX
abbrev FX (i d id:Nat) (l:List UInt8):mR:=⟨i,d,[],[],fun v _=>∃ ad c,v=.slice ad l.length c,[(id,fun v _=>[View 1 v l.length (l.map u8)])]⟩
theorem I5 {i d id t T el n ty:Nat} {x:Operand} {l:List UInt8} {pos:String} {af:Array Edge} {gd:Option (Nat × Bool)} [q:ja P t el n] [j:ij P el .u8] [s:su P T]
 (ho:ops[i]?=some ⟨some d,.convert T t x,ty,pos,af,gd⟩) (hg:sL ops σ0 ⟨some d,.convert T t x,ty,pos,af,gd⟩) (hd:Nat.blt d N.n=true) (he:pU D (FX i d id l)=[])
 (h:∀ σr,(∀ k v,get σ0 k=some v→get σr k=some v)→ev σr x=some (.string (str l))) (hl:l.length≤maxLen) (hs:d<100000:=by decide):xy P N ops e σ0 L0 D (FX i d id l):=by
 refine ⟨_,ho,hg,fun V σr M h3 hy=>?_⟩;rw [he];exact Do.ofStr (h σr h3) hl hd fun ad c=>⟨_,by rw [aH hs],⟨ad,c,rfl⟩,aX⟩
abbrev sU (i d:Nat) (gW:List Nat) (v:Value):mR:=⟨i,d,gW,[],fun w _=>w=v,[]⟩
theorem pW {i d:Nat} {gW:List Nat} {v:Value} {op:Op} {ty:TypeId} {pos:String} {af:Array Edge} {gd:Option (Nat × Bool)}
 (ho:ops[i]?=some ⟨some d,op,ty,pos,af,gd⟩) (hg:sL ops σ0 ⟨some d,op,ty,pos,af,gd⟩) (hd:Nat.blt d N.n=true) (he:pU D (sU i d gW v)=[])
 (h:∀ (V:Nat→Value) (σr:Env) (L:List cK),(∀ k v,get σ0 k=some v→get σr k=some v)→(∀ y∈D,y.i∈gW→y.d<100000→get σr y.d=some (V y.i)∧y.ok (V y.i) (fQ y.gW V))→cC L L0→cE P N op ty v σr e L) (hs:d<100000:=by decide):xy P N ops e σ0 L0 D (sU i d gW v):=by
 refine ⟨_,ho,hg,fun V σr M h3 hy=>?_⟩;rw [he];exact bP (h V σr _ h3 hy (by rw [show ln V []=[] from rfl,List.nil_append];exact km M)) hd ⟨_,by rw [aH hs],rfl,aX⟩
theorem pX {p:mR→Prop}:∀ y∈([]:List mR),p y:=fun y h=>by cases h
theorem dt {p:mR→Prop} {x:mR} {l:List mR} (h:p x) (h2:∀ y∈l,p y):∀ y∈x::l,p y:=fun y hy=>by
 rcases aQ.1 hy with rfl|hy
 ·exact h
 ·exact h2 y hy
end
end Go.Proofs
namespace Go.Proofs
attribute [local irreducible] Bs.cE Bs.Do Bs.O Bs.W Bs.Fin Bs.A Bs.Ct Bs.cF Bs.Rd Bs.Sat Bs.cM Bs.Ob Bs.dJ Bs.View Bs.cC Bs.Ex Bs.dI Bs.Pu Bs.eZ Bs.dK Bs.eh
open Go.Bs
open Tryz
variable (R:List cK) (e:World)
theorem sV (g n:Nat) (r:List UInt8) (hn:n<4294967296) :
 Ct prog 130 #[pt g] e (Reader g ⟨be n 4++r,false⟩::R) (fun v' L'=>v'=.int .u32 n∧L'=Reader g ⟨r,false⟩::R):=by
 have h:=qv R e g ⟨be n 4++r,false⟩;have h2:=jY (a:=be n 4) (rest:=r);rw [cY] at h2
 unfold eY.num at h
 rw [show ((4:Nat):Int)=4 from rfl] at h2
 rw [h2.1,h2.2,qq n hn] at h
 exact h
theorem uA (g:Nat) (b:UInt8) (r:List UInt8) :
 Ct prog 128 #[pt g] e (Reader g ⟨b::r,false⟩::R) (fun v' L'=>v'=u8 b∧L'=Reader g ⟨r,false⟩::R):=by
 have h:=xk R e g ⟨b::r,false⟩;have h2:=jY (a:=[b]) (rest:=r);unfold eY.num at h
 have e1:eY.take ⟨b::r,false⟩ 1=[b]:=h2.1;have e2:eY.next ⟨b::r,false⟩ 1=⟨r,false⟩:=h2.2;rw [e1,e2,show numOf [b]=b.toNat by simp [numOf]] at h
 exact h
theorem xB (g n:Nat) (x r:List UInt8) (hn:x.length=n) (hk:(x++r).length≤140737488355328) :
 Ct prog 131 #[pt g,.int .i64 (n:Int)] e (Reader g ⟨x++r,false⟩::R) (fun v' L'=>∃ ad c,v'=.slice ad x.length c∧L'=cR (.slice ad x.length c) x::Reader g ⟨r,false⟩::R):=by
 subst hn;have h:=nI R e g ⟨x++r,false⟩ (x.length:Int) hk;have h2:=jY (a:=x) (rest:=r);rw [h2.1,h2.2] at h
 exact h
theorem HI (g:Nat) (x r:List UInt8) (iC:Int) (hx:x.length≤65535) (hm:(x.length:Int)≤iC) (hk:(enc x++r).length≤140737488355328) :
 Ct prog 129 #[pt g,.int .i64 iC] e (Reader g ⟨enc x++r,false⟩::R) (fun v' L'=>∃ ad c,v'=.slice ad x.length c∧L'=cR (.slice ad x.length c) x::Reader g ⟨r,false⟩::R):=by
 have h:=pM R e g ⟨enc x++r,false⟩ iC hk;have h2:=ue x r iC hx zo;rw [h2.1,h2.2] at h
 exact h
theorem xC (g:Nat) (l:List UInt8) :
 Ct prog 132 #[pt g] e (Reader g ⟨l,false⟩::R) (fun v' L'=>v'=.bool (decide (l=[]))∧L'=Reader g ⟨l,false⟩::R):=by
 have h:=Av R e g ⟨l,false⟩;exact h
end Go.Proofs
namespace Go.Proofs
open Go.Bs
structure C1 where
 name:List UInt8
 hJ:Nat
 fw:List UInt8
 notes:List UInt8
 deriving DecidableEq
def pc (l:List UInt8):Prop:=1≤l.length∧l.length≤20∧∀ b∈l,97≤b.toNat∧b.toNat≤122
instance UB (l:List UInt8):Decidable (pc l):=by unfold pc;infer_instance
def C1.right (m:C1):Prop:=pc m.name∧0<m.hJ∧m.fw.length=32∧m.notes.length≤64
instance V6 (m:C1):Decidable m.right:=by unfold C1.right;infer_instance
abbrev sW (m:C1) (vf vn:Value):List Value:=[.string (str m.name),.int .u32 (m.hJ:Int),vf,vn]
def lX (m:C1):List UInt8:=77::(enc m.name++(be m.hJ 4++(m.fw++enc m.notes)))
def FY (b:List UInt8):eY:=⟨b,false⟩
def xD (b:List UInt8):eY:=(FY b).next 1
def DM (b:List UInt8):eY:=(xD b).sE 20
def DN (b:List UInt8):eY:=(DM b).next 4
def DO (b:List UInt8):eY:=(DN b).next 32
def rL (b:List UInt8):eY:=(DO b).sE 64
def dB (b:List UInt8):C1:=⟨(xD b).bytes 20,(DM b).num 4,(DN b).take 32,(DO b).bytes 64⟩
def jm (b:List UInt8):Prop:=(FY b).num 1=77∧((rL b).bad=false∧(rL b).left=[])∧(dB b).right
instance S3 (b:List UInt8):Decidable (jm b):=by unfold jm;infer_instance
theorem DP {m:C1}:(lX m).length=m.name.length+m.fw.length+m.notes.length+9:=by
 unfold lX;rw [aR,aa,aa,aa,iw,iw,cY]
 omega
theorem NA {n:Nat} {r:List UInt8} (h:n<4294967296):eY.num ⟨be n 4++r,false⟩ 4=n∧eY.next ⟨be n 4++r,false⟩ 4=⟨r,false⟩:=by
 have h1:=jY (a:=be n 4) (rest:=r);rw [cY] at h1
 exact ⟨by rw [eY.num];show numOf (eY.take _ ((4:Nat):Int))=n;rw [h1.1];exact qq n h,h1.2⟩
theorem NB {m:C1} (h:m.right) (hv:m.hJ<4294967296):jm (lX m)∧dB (lX m)=m:=by
 obtain ⟨h1,h2,h3,h4⟩:=id h
 have e1:(FY (lX m)).num 1=77∧xD (lX m)=⟨enc m.name++(be m.hJ 4++(m.fw++enc m.notes)),false⟩:=by
  unfold xD FY lX
  generalize enc m.name++(be m.hJ 4++(m.fw++enc m.notes))=r
  have q:=jY (a:=[(77:UInt8)]) (rest:=r);refine ⟨?_,q.2⟩;unfold eY.num;have q1:eY.take ⟨77::r,false⟩ 1=[77]:=q.1;rw [q1];rfl
 have e2:=ue m.name (be m.hJ 4++(m.fw++enc m.notes)) 20 (by have:=h1.2.1;omega) (by have:=h1.2.1;omega);have e3:=NA (r:=m.fw++enc m.notes) hv;have e4:=jY (a:=m.fw) (rest:=enc m.notes);rw [h3] at e4
 have e5:=ue m.notes [] 64 zo zo;rw [aK] at e5
 have f2:DM (lX m)=⟨be m.hJ 4++(m.fw++enc m.notes),false⟩:=by unfold DM;rw [e1.2];exact e2.2
 have f3:DN (lX m)=⟨m.fw++enc m.notes,false⟩:=by unfold DN;rw [f2];exact e3.2
 have f4:DO (lX m)=⟨enc m.notes,false⟩:=by unfold DO;rw [f3];exact e4.2
 have f5:rL (lX m)=⟨[],false⟩:=by unfold rL;rw [f4];exact e5.2
 have fm:dB (lX m)=m:=by
  unfold dB;rw [e1.2,f2,f3,f4,e2.1,e3.1,e5.1];have:=e4.1;rw [show (32:Int)=((32:Nat):Int) from rfl,this]
 exact ⟨⟨e1.1,by rw [f5];exact ⟨rfl,rfl⟩,by rw [fm];exact h⟩,fm⟩
end Go.Proofs
namespace Go.Proofs
attribute [local irreducible] Bs.cE Bs.Do Bs.O Bs.W Bs.Fin Bs.A Bs.Ct Bs.cF Bs.Rd Bs.Sat Bs.cM Bs.Ob Bs.dJ Bs.View Bs.cC Bs.Ex Bs.dI Bs.Pu Bs.eZ Bs.dK Bs.eh
open Go.Bs
open Tryz
theorem nJ {l:List (List UInt8)} (h:∀ a∈l,a.length=32):l.flatten.length=32*l.length:=by
 induction l with
 | nil=>rfl
 | cons a l ih =>
  rw [List.flatten_cons,aa,ih fun b hb=>h b (aU _ hb),h a (List.mem_cons_self ..),aR]
  omega
theorem AA (R:List cK) (e:World) (g:Nat) (bs:List (List UInt8)) (r:List UInt8) (jD:∀ a∈bs,a.length=32) (hl:bs.length≤1000) (hr:r.length≤1000000) :
 Ct prog 299 #[pt g,.int .i64 (bs.length:Int)] e (Reader g ⟨bs.flatten++r,false⟩::R) (fun v' L'=>∃ ad c us,v'=.slice ad us.length c∧us.map (·.2)=bs∧L'=Reader g ⟨r,false⟩::cU (.slice ad us.length c) us::cG us::R):=by
 refine a8 (args:=[_,_]) func299 rfl ntmps299 results299 rfl ?_;refine wB ?_;refine br (ι:=Nat × List dX × Option Addr × Nat) (fun i=>[(0,pt g),(5,.slice i.2.2.1 i.2.1.length i.2.2.2),(6,.int .i64 (bs.length:Int)),(7,.int .i64 (i.1:Int))]) (fun i=>Reader g ⟨(bs.drop i.1).flatten++r,false⟩::cU (.slice i.2.2.1 i.2.1.length i.2.2.2) i.2.1::cG i.2.1::R) (fun i=>i.1≤bs.length∧i.2.1.map (·.2)=bs.take i.1) (fun i=>bs.length - i.1) (0,[],none,0) ⟨aG _,by simp⟩ zS (cn dC (cn (di dZ 1) zE)) ?_;rintro ⟨i,us,ad,c⟩ ⟨hi,fZ⟩;dsimp only at hi fZ ⊢
 have y7:us.length=i:=by have:=congrArg List.length fZ;rw [ab,aE] at this;omega
 by_cases cQ:i<bs.length
 rotate_left
 ·have IS:i=bs.length:=by omega
  subst IS;rw [aF (aT _)] at fZ
  rw [show (bs.drop bs.length).flatten++r=r by simp];refine wB ?_;exact aY _ rfl aX ⟨ad,c,us,rfl,fZ,rfl⟩
 have Du:bs.drop i=bs[i]'cQ::bs.drop (i+1):=List.drop_eq_getElem_cons cQ;have hz:=jD _ (az cQ)
 have jk:∀ w:Value,(us++[(w,bs[i]'cQ)]).map (·.2)=bs.take (i+1):=fun w=>by
  rw [ah,fZ,aA cQ];rfl
 have CY:((bs.drop (i+1)).flatten++r).length≤1100000:=by
  rw [aa,nJ (fun a ha=>jD a (aS ha)),aP];omega
 rw [Du,List.flatten_cons,aM]
 generalize bs[i]'cQ=b at *
 generalize Lf:(bs.drop (i+1)).flatten++r=rest at *
 refine wB ?_;refine aZ rfl rfl (xB _ e g 32 b rest hz (by rw [aa];omega)) ?_;rintro _ _ ⟨ep,c3,rfl,rfl⟩
 (repeat (refine wA ?_;intros))
 refine bD (bm rfl rfl rfl (.succ (.succ (.succ .zero))) (bu .zero rfl zl) rfl rfl zO zm zo fun gZ c4 _=>?_)
 refine wB ?_;refine bi (i+1,us++[(.slice ep b.length c3,b)],gZ,c4) ⟨cQ,jk _⟩ zd ?_ ?_
 ·dsimp only;rw [aa,aj];exact zS
 ·dsimp only;rw [Lf];exact cn (show cC _ (dJ dZ 1 (.slice gZ (us.length+1) c4) (us.length+1) (us.map (·.1)++[.slice ep b.length c3])::cR (.slice ep b.length c3) b::cG us::Reader g ⟨rest,false⟩::R) from zE) (cn eV zE)
def fO (s:vR):List UInt8:=be s.idx 4++(s.parts.flatten++s.path.flatten)
theorem gQ {s:vR} (h:s.right):(fO s).length=2180:=by
 obtain ⟨h1,h2,h3,h4,h5⟩:=h;unfold fO;rw [aa,aa,cY,nJ h3,nJ h5,h2,h4]
theorem sX (R:List cK) (e:World) (v:Value) (s:vR) (hv:da R v (fO s)) (hr:s.right) :
 Ct prog 267 #[v] e R (fun v' L'=>∃ (M:cK) (vp vq:Value),v'=.tuple #[.agg (vV s vp vq).toArray,.int .i64 0]∧fK [M] vp vq s∧L'=M::R):=by
 have Hv:=gQ hr;obtain ⟨q1,q2,q3,q4,q5⟩:=id hr;refine bI (args:=[_]) func267 rfl ntmps267 results267 rfl ?_
 (repeat (refine wA ?_;intros))
 rename_i g2;refine aZ rfl rfl (jz _ e v (fO s) hv.tail zo) ?_;rintro _ _ ⟨gr,rfl,rfl⟩;unfold fO;have hfp:=nJ q3;have Ux:=nJ q5;refine wB ?_;refine aZ rfl rfl (sV _ e gr s.idx (s.parts.flatten++s.path.flatten) zo) ?_;rintro _ _ ⟨rfl,rfl⟩;have h1:=AA (cM g2 [.int .i64 0,nY,nY] 85 (0,0)::R) e gr s.parts s.path.flatten q3 zo zo;rw [q2] at h1
 refine wB ?_;refine aZ rfl rfl h1 ?_;rintro _ _ ⟨dW,c1,us,rfl,fZ,rfl⟩;have h2:=AA (cU (.slice dW us.length c1) us::cG us::cM g2 [.int .i64 0,nY,nY] 85 (0,0)::R) e gr s.path [] q5 zo (by simp);rw [q4,aK] at h2
 (repeat (refine wA ?_;intros))
 refine aZ rfl rfl h2 ?_;rintro _ _ ⟨dS,c2,ws,rfl,Kn,rfl⟩
 (repeat (refine wA ?_;intros))
 rename_i g5;refine aZ rfl rfl (Ct.at (.succ .zero) (xC _ e gr [])) ?_;rintro _ _ ⟨rfl,rfl⟩;have I6:∀ L:List cK,fK (cU (.slice dS ws.length c2) ws::cG ws::cU (.slice dW us.length c1) us::cG us::L) (.slice dW us.length c1) (.slice dS ws.length c2) s:=fun L=>⟨⟨us,fZ,ba (.succ (.succ .zero)),dE.tail (dE.tail (dE.tail ef))⟩,⟨ws,Kn,ba .zero,dE.tail ef⟩,⟨by omega,by omega,by omega⟩⟩
 refine wB ?_;refine aZ rfl rfl (pS _ e _ _ s (I6 _).tail.tail) ?_;rintro _ _ ⟨rfl,rfl⟩;rw [ay hr];refine wB ?_;apply bB
 ·exact zV
 refine ⟨dI [cU (.slice dS ws.length c2) ws,cG ws,cU (.slice dW us.length c1) us,cG us]::R,cn (show cC _ (cU (.slice dS ws.length c2) ws::cG ws::cU (.slice dW us.length c1) us::cG us::R) from zE) (dN (M:=[_,_,_,_])),dI [cU (.slice dS ws.length c2) ws,cG ws,cU (.slice dW us.length c1) us,cG us],.slice dW us.length c1,.slice dS ws.length c2,rfl,?_,rfl⟩;exact (I6 []).cN (cn (cW (L:=[])) (by rw [aK];exact aX))
end Go.Proofs
namespace Go.Bs
theorem vX {P:Program} {w:World} (t u ty e:TypeId) (i:TypeInfo) (z:Value) (ht:P.underlying t=some (.slice e)) (hu:P.underlying u=some (.int .i64)) (hi:P.info? e=some i) (hz:i.zero=some z)
 (n:Nat) (h0:0<n) (CW:n≤1000000) (M9:i.size=1) (h48:n*i.bytes≤140737488355328) :
 (Builtin.append_ #[t,u] ty #[nY,.int .i64 (n:Int)]).run P w =
  .ok (.slice (some ⟨w.heap.size,0,none⟩) n (grownCap w n 0 e)) (w.drew.alloc (.cells (Builtin.zeroCells z.cells n++Builtin.zeroCells z.cells (grownCap w n 0 e - n)) e)):=by
 have hn:n≠0:=by omega
 have hw:IntKind.i64.wrap (n:Int)=(n:Int):=wrap_i64 zo zo;have h1:¬ ((n:Int)<0):=by omega
 have h2:¬ (281474976710656<(n:Int)*(i.bytes:Int)):=by
  have:((n*i.bytes:Nat):Int)=(n:Int)*(i.bytes:Int):=by simp
  rw [← this];omega
 have h3:¬ (9223372036854775807<(n:Int)):=by omega
 have h4:¬ (281474976710656<Builtin.nextslicecap n 0*i.bytes):=by rw [nextslicecap_zero h0];omega
 simp [Builtin.append_,run_underlying ht,run_underlying hu,sizeOf,typeInfo,zeroValue,hi,hz,M9,asInt,asIntOf,hw,h1,h2,h3,h4,hn,Nat.pos_iff_ne_zero.1 h0,Question.forced,run_firstCells_none,newRow,grownCap]
section
variable {P:Program} {N:Fr} {Q:fM} {σ:Env} {e:World} {L:List cK} {all:Array Oper} {rest:List Oper}
variable {d:Nat} {ty:TypeId} {pos:String} {af:Array Edge} {gd:Option (Nat × Bool)} {K:Env→List cK→Prop} {x y:Operand}
theorem Do.FZ {t u el b n:Nat} {z:Value} [i:ja P t el 1] [j:qU P el z 1 b] [q:ij P u .i64] (hx:ev σ x=some nY) (hy:ev σ y=some (.int .i64 (n:Int))) (hd:Nat.blt d N.n=true) (h0:0<n) (CW:n≤1000000) (hb:n*b≤140737488355328) (hz:z.cells.size=1)
 (kk:∀ g c,n≤c→K ((d,.slice (some ⟨g,0,none⟩) n c)::σ) (dJ el 1 (.slice (some ⟨g,0,none⟩) 0 c) 0 []::L)) :
 Do P N ⟨some d,.call { callee:=.builtin .append,args:=#[x,y],argTypes:=#[t,u] },ty,pos,af,gd⟩ K σ e L:=fun a w ha hs K' Q' hK=>by
 obtain ⟨ti,t1,t2,t3,t4⟩:=j.parts;have hr:=vX (P:=P) (w:=w) t u ty el ti z i.kN q.kN t1 t2 n h0 CW t3 (by rw [t4];exact hb);refine eN (v:=.slice (some ⟨w.heap.size,0,none⟩) n (grownCap w n 0 el)) (w':=w.drew.alloc (.cells (Builtin.zeroCells z.cells n++Builtin.zeroCells z.cells (grownCap w n 0 el - n)) el)) (by simp [execOp,resolve,invoke,builtin,ha.ev hx,ha.ev hy,hr]) ?_;have Kk:=grownCap_ge w n 0 el;have MN:grownCap w n 0 el≤maxLen:=grownCap_le_maxLen w n 0 el zm;refine hK _ _ _ _ (kk w.heap.size (grownCap w n 0 el) Kk) (ha.put hd _) ?_;have CX:Sat e (cM _ _ el (0,0)::L) _:=(((hs.drawn _:Sat e L w.drew)).alloc (.cells (Builtin.zeroCells z.cells n++Builtin.zeroCells z.cells (grownCap w n 0 el - n)) el)).cN (qp _ _ _ _)
 have kD:(Builtin.zeroCells z.cells n++Builtin.zeroCells z.cells (grownCap w n 0 el - n)).toList.length=grownCap w n 0 el*1:=by
  simp only [Array.length_toList,Array.size_append,size_zeroCells,hz]
  omega
 have fS:=fW (E:=el) (n:=1) (k:=0) (g:=w.heap.size) (R:=L) (aG _) MN kD;simp only [Nat.zero_mul,List.take_zero] at fS
 exact CX.cN fS
theorem cE.cap {t:TypeId} {el n l c:Nat} {ad:Option Addr} {ats:List TypeId} [i:ja P t el n] (h:ev σ x=some (.slice ad l c)) :
 cE P N (.call { callee:=.builtin .cap,args:=#[x],argTypes:=(t::ats).toArray }) ty (.int .i64 c) σ e L:=fun a w ha _ _ _ _ _=>by
 simp [execOp,resolve,invoke,builtin,Builtin.cap_,ha.ev h,run_underlying i.kN,goInt]
end
end Go.Bs
namespace Go.Proofs
open Go.Bs
attribute [local irreducible] Bs.cE Bs.Do Bs.O Bs.W Bs.Fin Bs.A Bs.Ct Bs.cF Bs.Rd Bs.Sat Bs.cM Bs.Ob Bs.dJ Bs.View Bs.cC Bs.Ex Bs.dI Bs.Pu Bs.eZ Bs.dK Bs.eh
theorem BT (R:List cK) (e:World) (n:Nat) (h0:0<n) (hn:n≤100000) :
 Ct Tryz.prog 298 #[nY,.int .i64 (n:Int)] e R (fun v' L'=>∃ ad c,v'=.slice ad 0 c∧L'=dJ dZ 1 (.slice ad 0 c) 0 []::R):=by
 refine a8 (args:=[_,_]) Tryz.func298 rfl Tryz.ntmps298 Tryz.results298 rfl ?_
 (repeat' first|(refine bC _ (cE.cap (ats:=[]) rfl) rfl ?_)|refine Za ?_|refine Zb ?_|apply Zc|apply Zd|apply Ze|apply Zf|refine Zk ?_|refine ZB ?_|refine ZG ?_|refine ZU ?_|refine Yr ?_|refine Yz ?_|refine YA ?_|apply YC)
 refine bD (Do.FZ (n:=n) (z:=nY) rfl rfl rfl h0 zo zo rfl fun g c hc=>?_)
 refine wB ?_;exact aY _ rfl aX ⟨_,_,rfl,rfl⟩
theorem DQ (R:List cK) (e:World) (g:Nat) (va vb:Value) (a b:List dX) (T:Nat) (fz:Nat × Nat) (hg:cF R 1 (.slice (some ⟨g,0,none⟩) 2 2) 2 [va,vb]) (ha:cF R 1 va a.length (a.map (·.1))) (hb:cF R 1 vb b.length (b.map (·.1))) (Uv:dE R a) (htb:dE R b) (hl:a.length≤1000) (qs:b.length≤1000) (hp:0<a.length+b.length) :
 Ct Tryz.prog 265 #[.slice (some ⟨g,0,none⟩) 2 2] e R (fun v' L'=>∃ ad c,v'=.slice ad (a++b).length c∧L'=cU (.slice ad (a++b).length c) (a++b)::R):=by
 refine a7 (ha.shape zo) ?_;rintro ⟨⟨ada,ca,rfl,a3,a4,a5,a6⟩,_⟩;refine a7 (hb.shape zo) ?_;rintro ⟨⟨P0,cb,rfl,b3,b4,b5,b6⟩,_⟩;refine a7 (Dy Uv) fun oa=>?_
 refine a7 (Dy htb) fun ob=>?_
 have MP:Rd R ⟨g,0+0,none⟩ (.slice ada a.length ca):=hg.elem (j:=0) rfl;have Ko:Rd R ⟨g,0+1,none⟩ (.slice P0 b.length cb):=hg.elem (j:=1) rfl;refine a8 (args:=[_]) Tryz.func265 rfl Tryz.ntmps265 Tryz.results265 rfl ?_;refine wB ?_;refine br (ι:=Nat × Nat) (fun i=>[(0,.slice (some ⟨g,0,none⟩) 2 2),(3,.int .i64 (i.2:Int)),(9,.slice (some ⟨g,0,none⟩) 2 2),(10,.int .i64 2),(11,.int .i64 (i.1:Int))]) (fun _=>R) (fun i=>i.1≤2∧i.2=if i.1=0 then 0 else if i.1=1 then a.length else a.length+b.length) (fun i=>2 - i.1) (0,0) ⟨by omega,rfl⟩ zS aX ?_;rintro ⟨i,m⟩ ⟨hi,hm⟩;dsimp only at hi hm ⊢
 match i,hi with
 | 0,_ =>
  have hm:m=0:=hm;subst hm;refine wB ?_;rw [show ((0:Nat):Int)+(a.length:Int)=(a.length:Int) by omega];exact bi (1,a.length) ⟨by dsimp only;omega,rfl⟩ zd zS aX
 | 1,_ =>
  have hm:m=a.length:=hm;subst hm;refine wB ?_;exact bi (2,a.length+b.length) ⟨by dsimp only;omega,rfl⟩ zd zS aX
 | 2,_ =>
  have hm:m=a.length+b.length:=hm;subst hm;refine wB ?_;refine aZ rfl rfl (BT R e (a.length+b.length) hp zo) ?_;rintro _ _ ⟨K5,c0,rfl,rfl⟩;refine wB ?_;refine br (ι:=Nat × List dX × Option Addr × Nat) (fun i=>[(6,.slice i.2.2.1 i.2.1.length i.2.2.2),(25,.slice (some ⟨g,0,none⟩) 2 2),(26,.int .i64 2),(27,.int .i64 (i.1:Int))]) (fun i=>cU (.slice i.2.2.1 i.2.1.length i.2.2.2) i.2.1::R) (fun i=>i.1≤2∧i.2.1=if i.1=0 then [] else if i.1=1 then a else a++b) (fun i=>2 - i.1) (0,[],K5,c0) ⟨by omega,rfl⟩ zS aX ?_;rintro ⟨i,ts,ad,c⟩ ⟨hi,fx⟩;dsimp only at hi fx ⊢
  match i,hi with
  | 0,_ =>
   have fx:ts=[]:=fx;subst fx;refine wB ?_;refine bD (bm rfl rfl rfl .zero ha rfl rfl oa (by simp only [List.length_nil,maxLen];omega) (by simp only [List.length_nil];omega) fun gZ c4 _=>?_)
   rw [show ([]:List dX).length+a.length=a.length by simp];refine wB ?_;exact bi (1,a,gZ,c4) ⟨by dsimp only;omega,rfl⟩ zd zS aX
  | 1,_ =>
   have fx:ts=a:=fx;subst fx;refine wB ?_;refine bD (bm rfl rfl rfl .zero hb rfl rfl ob zm zo fun gZ c4 _=>?_)
   refine wB ?_;refine bi (2,ts++b,gZ,c4) ⟨by dsimp only;omega,rfl⟩ zd ?_ ?_
   ·dsimp only;rw [aa];exact zS
   ·simp only [cU,aa,ah];exact aX
  | 2,_ =>
   have fx:ts=a++b:=fx;subst fx;refine wB ?_;exact aY _ rfl aX ⟨ad,c,rfl,rfl⟩
theorem sY (R:List cK) (e:World) (vp vq:Value) (s:vR) (hs:fK R vp vq s) (hr:s.right) :
 Ct Tryz.prog 207 #[.agg (vV s vp vq).toArray] e R (fun v' L'=>∃ ad c,v'=.tuple #[.slice ad (fO s).length c,.int .i64 0]∧L'=cR (.slice ad (fO s).length c) (fO s)::R):=by
 obtain ⟨q1,q2,q3,q4,q5⟩:=id hr;obtain ⟨ts,e1,r1,t1⟩:=hs.parts;obtain ⟨us,e2,r2,t2⟩:=hs.path;have qL:ts.length=64:=by rw [← q2,← e1,ab]
 have qs:us.length=4:=by rw [← q4,← e2,ab]
 have jD:∀ a∈ts++us,a.2.length=32:=fun a ha=>by
  rcases aJ.1 ha with h|h
  ·exact lU e1 q3 a h
  ·exact lU e2 q5 a h
 refine a7 hs.parts.one fun o1=>?_
 refine a7 hs.path.one fun o2=>?_
 refine a8 (args:=[_]) Tryz.func207 rfl Tryz.ntmps207 Tryz.results207 rfl ?_
 (repeat (refine wA ?_;intros))
 rename_i g;refine aZ rfl rfl (pS _ e vp vq s hs.tail) ?_;rintro _ _ ⟨rfl,rfl⟩;rw [ay hr];refine wB ?_;refine aZ rfl rfl (ji _ e) ?_;rintro _ _ ⟨gw,rfl,rfl⟩;refine wB ?_;refine aZ rfl rfl (gG _ e gw [] s.idx zo (by simp)) ?_;rintro _ _ ⟨rfl,rfl⟩
 (repeat' first|(apply bZ;exact rfl;exact rfl;exact rfl;exact .one (dU o1) rfl (.one (dU o2) rfl .nil);exact rfl;exact rfl;intro _)|apply Zc|apply Zd|apply Ze|apply Zf|refine Zh ?_|refine Zi ?_|fail)
 rename_i gl;refine aZ rfl rfl (DQ _ e gl vp vq ts us 0 (0,0) (bu .zero rfl zl) r1.tail.tail.tail r2.tail.tail.tail (dE.tail (dE.tail (dE.tail t1))) (dE.tail (dE.tail (dE.tail t2))) zo zo zo) ?_;rintro _ _ ⟨ad,c,rfl,rfl⟩;refine bo (gx .zero) ?_;rintro ⟨⟨a,cc,hq,tQ,rm,MQ⟩,_⟩;obtain ⟨rfl,_,rfl⟩:=Value.slice.inj hq;clear hq;simp only [maxLen] at rm
 have qy:(ts++us).length=68:=by rw [aa];omega
 have I7:dE R (ts++us):=fun x hx=>by
  rcases aJ.1 hx with h|h
  ·exact t1 x h
  ·exact t2 x h
 have S4:(((ts++us).map (·.2)).flatten)=s.parts.flatten++s.path.flatten:=by rw [ah,List.flatten_append,e1,e2]
 generalize ts++us=ws at *
 refine wB ?_;refine br (ι:=Nat) (fun i=>[(4,pt gw),(21,.slice ad ws.length c),(22,.int .i64 (ws.length:Int)),(23,.int .i64 (i:Int))]) (fun i=>Writer gw (be s.idx 4++((ws.map (·.2)).take i).flatten)::cU (.slice ad ws.length c) ws::R) (fun i=>i≤ws.length) (fun i=>ws.length - i) 0 (aG _) zS zE ?_;intro i hi
 have CY:=nJ (l:=(ws.map (·.2)).take i) (fun a ha=>by
  obtain ⟨x,hx,rfl⟩:=aD.1 (aN ha);exact jD x hx)
 rw [aE,ab] at CY
 have Rw:=cY s.idx 4
 by_cases cQ:i<ws.length
 rotate_left
 ·have IS:i=ws.length:=by omega
  subst IS;rw [aF (by rw [ab];exact aT _),S4] at *
  refine wB ?_;refine aZ rfl rfl (hI _ e gw _ (by rw [aa];omega)) ?_;rintro _ _ ⟨dS,c2,rfl,rfl⟩;refine wB ?_;exact aY (cR (.slice dS (fO s).length c2) (fO s)::R) rfl zE ⟨dS,c2,rfl,rfl⟩
 rcases MQ with ⟨_,_,h0⟩|⟨p,rfl⟩
 ·omega
 have VS:Rd (cU (.slice (some ⟨p,0,none⟩) ws.length c) ws::R) ⟨p,0+i,none⟩ (ws[i]'cQ).1:=(ba .zero).elem (by rw [aI,ae cQ];rfl);have js:=I7 _ (az cQ);have Nx:=jD _ (az cQ)
 have jk:be s.idx 4++((ws.map (·.2)).take i).flatten++(ws[i]'cQ).2=be s.idx 4++((ws.map (·.2)).take (i+1)).flatten:=by
  rw [aA (by rw [ab];exact cQ),List.getElem_map,List.flatten_append,aM]
  simp
 generalize ws[i]'cQ=y at *
 obtain ⟨yv,yb⟩:=y;dsimp only at VS js Nx jk
 refine wB ?_;refine aZ rfl rfl (hH _ e gw _ yb yv js.tail (by rw [aa];omega)) ?_;rintro _ _ ⟨rfl,rfl⟩;rw [jk];refine wB ?_;exact bi (i+1) cQ zo zS aX
end Go.Proofs
namespace Go.Bs
section
variable {P:Program} {N:Fr} {Q:fM} {σ:Env} {e:World} {L:List cK} {all:Array Oper} {rest:List Oper}
variable {d:Nat} {op:Op} {ty:TypeId} {pos:String} {af:Array Edge} {x:Operand} {t:TypeId}
theorem cE.dj {n g o:Nat} {xs cs:List Value} {T:TypeId} {fz:Nat × Nat} {R:List cK} [i:ju P t n] (h:ev σ x=some (.pointer (some ⟨g,o,none⟩))) (p:cT L (cM g xs T fz) R) (hc:(xs.drop o).take n=cs) (hl:cs.length=n):cE P N (.load t x) ty (.agg cs.toArray) σ e L :=
 cE.dD h (eh.fg p ⟨n,hc⟩) hl
theorem O.dj {n g o:Nat} {xs cs:List Value} {T:TypeId} {fz:Nat × Nat} {R:List cK} [i:ju P t n] (h:ev σ x=some (.pointer (some ⟨g,o,none⟩))) (p:cT L (cM g xs T fz) R) (hc:(xs.drop o).take n=cs) (hl:cs.length=n) (hd:Nat.blt d N.n=true) (kk:O P N all rest Q ((d,.agg cs.toArray)::σ) e L) :
 O P N all (⟨some d,.load t x,ty,pos,af,none⟩::rest) Q σ e L:=bC _ (cE.dj h p hc hl) hd kk
end
end Go.Bs
namespace Go.Proofs
open Go.Bs
structure iM where
 size:Nat
 root:List UInt8
 deriving DecidableEq
def iM.right (c:iM):Prop:=c.size≤256∧c.root.length=32
instance (c:iM):Decidable c.right:=by unfold iM.right;infer_instance
def rM:List UInt8:=[98,114,111,97,100,115,104,101,101,116,32,99,104,101,99,107]
def xE:List UInt8:=[98,114,111,97,100,115,104,101,101,116,32,99,111,115,105,103,110]
def iQ (c:iM):List UInt8:=rM++be c.size 4++c.root
def lJ (c:iM):List UInt8:=xE++be c.size 4++c.root
structure jU where
 dd:iM
 sig:vR
 deriving DecidableEq
def jU.hJ (s:jU) (iY:List UInt8):Prop:=s.dd.right∧vS iY (iQ s.dd) s.sig
instance (s:jU) (iY:List UInt8):Decidable (s.hJ iY):=by unfold jU.hJ;infer_instance
def qZ (seed:List UInt8) (i:Nat) (c:iM):jU:=⟨c,lH seed i (iQ c)⟩
theorem I8 {seed:List UInt8} {i:Nat} {c:iM} (hc:c.right) (hi:i<16):(qZ seed i c).hJ (fu seed):=⟨hc,sK hi⟩
structure kF where
 gy:Nat
 sig:vR
 deriving DecidableEq
def AB (seed:List UInt8) (i w:Nat) (c:iM):kF:=⟨w,lH seed i (lJ c)⟩
def hZ (s:jU):List UInt8:=be s.dd.size 4++(s.dd.root++fO s.sig)
def eU (g:kF):List UInt8:=UInt8.ofNat g.gy::fO g.sig
abbrev gX (c:iM) (vr:Value):List Value:=[.int .i64 (c.size:Int),vr]
abbrev dT (s:jU) (vr vp vq:Value):List Value:=[.int .i64 (s.dd.size:Int),vr,.int .i64 (s.sig.idx:Int),vp,vq]
abbrev iy (g:kF) (vp vq:Value):List Value:=[.int .i64 (g.gy:Int),.int .i64 (g.sig.idx:Int),vp,vq]
structure ff (L:List cK) (vr vp vq:Value) (s:jU):Prop where
 root:da L vr s.dd.root
 sig:fK L vp vq s.sig
 small:s.dd.size<4294967296∧s.dd.root.length≤1000000
theorem ff.cN {L L':List cK} {vr vp vq:Value} {s:jU} (h:ff L' vr vp vq s) (f:cC L L'):ff L vr vp vq s:=⟨h.root.cN f,h.sig.cN f,h.small⟩
theorem wy {M:List cK} {v:Value} {b:List UInt8} (h:da M v b):da [dI M] v b:=BM h
theorem uB {M:List cK} {vr vp vq:Value} {s:jU} (h:ff M vr vp vq s):ff [dI M] vr vp vq s:=h.cN (cn (cW (L:=[])) (by rw [aK];exact aX))
theorem lY {c:iM} (h:c.right):(iQ c).length=52:=by unfold iQ;rw [aa,aa,cY,h.2];rfl
theorem oB {c:iM} (h:c.right):(lJ c).length=53:=by unfold lJ;rw [aa,aa,cY,h.2];rfl
theorem iN {s:jU} (h:s.dd.right) (h2:s.sig.right):(hZ s).length=2216:=by unfold hZ;rw [aa,aa,cY,h.2,gQ h2]
theorem k6 {g:kF} (h:g.sig.right):(eU g).length=2181:=by unfold eU;rw [aR,gQ h]
end Go.Proofs
namespace Go.Proofs
attribute [local irreducible] Bs.cE Bs.Do Bs.O Bs.W Bs.Fin Bs.A Bs.Ct Bs.cF Bs.Rd Bs.Sat Bs.cM Bs.Ob Bs.dJ Bs.View Bs.cC Bs.Ex Bs.dI Bs.Pu Bs.eZ Bs.dK Bs.eh
open Go.Bs
open Tryz
variable (R:List cK) (e:World)
theorem gI (vr:Value) (c:iM) (hv:da R vr c.root) :
 Ct prog 107 #[.agg (gX c vr).toArray] e R (fun v' L'=>v'=.bool (decide c.right)∧R=L'):=by
 refine a7 (cF.shape hv zo) ?_;rintro ⟨⟨ad,cap,rfl,h3,h4,h5,h6⟩,_⟩;refine a8 (args:=[_]) func107 rfl ntmps107 results107 rfl ?_
 by_cases h1:c.size≤256
 rotate_left
 ·rw [aq (fun q:c.right=>h1 q.1)]
  (repeat (refine wA ?_;intros))
  exact aY R rfl zE ⟨rfl,rfl⟩
 by_cases h2:c.root.length=32
 ·rw [ay (show c.right from ⟨h1,h2⟩)]
  (repeat (refine wA ?_;intros))
  exact aY R rfl zE ⟨rfl,rfl⟩
 ·rw [aq (fun q:c.right=>h2 q.2)]
  (repeat (refine wA ?_;intros))
  exact aY R rfl zE ⟨rfl,rfl⟩
theorem xF (vr:Value) (c:iM) (hv:da R vr c.root) (hc:c.right) :
 Ct prog 43 #[.agg (gX c vr).toArray] e R (fun v' L'=>∃ ad k,v'=.slice ad (iQ c).length k∧L'=cR (.slice ad (iQ c).length k) (iQ c)::R):=by
 have tQ:=hc.1;have rm:=hc.2;refine a7 (cz hv) fun ho=>?_
 refine a8 (args:=[_]) func43 rfl ntmps43 results43 rfl ?_
 (repeat (refine wA ?_;intros))
 rename_i g;refine aZ rfl rfl (gI _ e vr c hv.tail) ?_;rintro _ _ ⟨rfl,rfl⟩;rw [ay hc];refine wB ?_;refine aZ rfl rfl (ji _ e) ?_;rintro _ _ ⟨gw,rfl,rfl⟩
 (repeat (refine wA ?_;intros))
 rename_i gt;refine O.fo (show cC _ (Writer gw []::cM gt (rM.map u8) na (16,17)::cM g (gX c vr) 83 (0,0)::R) from bz (.succ .zero) aX) ?_;refine aZ rfl rfl (hH _ e gw [] rM _ (bu .zero rfl zl) (by decide)) ?_;rintro _ _ ⟨rfl,rfl⟩;refine wB ?_;refine aZ rfl rfl (gG _ e gw _ c.size zo (by decide)) ?_;rintro _ _ ⟨rfl,rfl⟩;refine wB ?_;refine aZ rfl rfl (hH _ e gw _ c.root vr hv.tail.tail (by rw [aa,cY];simp only [List.nil_append,show rM.length=16 from rfl];omega)) ?_;rintro _ _ ⟨rfl,rfl⟩;rw [show []++rM++be c.size 4++c.root=iQ c by simp [iQ]];refine wB ?_;refine aZ rfl rfl (hI _ e gw _ (by rw [lY hc];omega)) ?_;rintro _ _ ⟨ad,k,rfl,rfl⟩;refine wB ?_;exact aY (cR (.slice ad (iQ c).length k) (iQ c)::R) rfl zE ⟨ad,k,rfl,rfl⟩
theorem xG (va vb:Value) (a b:iM) (ha:da R va a.root) (hb:da R vb b.root) :
 Ct prog 195 #[.agg (gX a va).toArray,.agg (gX b vb).toArray] e R (fun v' L'=>v'=.bool (decide (a=b))∧R=L'):=by
 have NC:a=b↔a.size=b.size∧a.root=b.root:=by cases a;cases b;simp
 refine a8 (args:=[_,_]) func195 rfl ntmps195 results195 rfl ?_
 by_cases h1:a.size=b.size
 rotate_left
 ·rw [aq (fun q=>h1 (NC.1 q).1)]
  (repeat (refine wA ?_;intros))
  exact aY R rfl zE ⟨rfl,rfl⟩
 (repeat (refine wA ?_;intros))
 refine aZ rfl rfl (iL _ e va vb a.root b.root ha.tail.tail hb.tail.tail) ?_;rintro _ _ ⟨rfl,rfl⟩;rw [show decide (a.root=b.root)=decide (a=b) from decide_eq_decide.2 (by rw [NC];exact ⟨fun q=>⟨h1,q⟩,fun q=>q.2⟩)];refine wB ?_;exact aY R rfl zE ⟨rfl,rfl⟩
theorem iz (vr vp vq:Value) (s:jU) (hs:ff R vr vp vq s) (hr:s.sig.fits) :
 Ct prog 102 #[.agg (dT s vr vp vq).toArray] e R (fun v' L'=>∃ (M:cK) (ur up uq:Value),v'=.agg (dT s ur up uq).toArray∧ff [M] ur up uq s∧L'=M::R):=by
 obtain ⟨h1,h2,h3⟩:=hs;refine a7 (cz h1) fun o1=>?_
 refine a7 h2.parts.one fun o2=>?_
 refine a7 h2.path.one fun o3=>?_
 refine bI (args:=[_]) func102 rfl ntmps102 results102 rfl ?_
 (repeat (refine wA ?_;intros))
 rename_i g1 g2;refine bl (id:=1) [12] (cM g1 (dT s vr vp vq) 87 (0,0)::R) mixed ?_
 (refine tF 0 ?_;refine tF 1 ?_;refine tL 2 ?_;refine tF 3 ?_;refine tF 4 ?_;refine tL 5 ?_;refine tF 8 ?_;refine tk 9 _ rfl (cE.dj rfl zP zI zX) ?_)
 refine tO 6 ?_;refine bg rfl rfl (dy _ e vr s.dd.root h1.tail.tail zo) ?_;rintro _ _ ⟨dW,c1,rfl,tQ,rfl⟩;refine ⟨fun _=>zE,?_⟩
 (refine tk 7 _ rfl (bL rfl zF) ?_)
 refine tO 10 ?_;refine bg rfl rfl (xx _ e vp vq s.sig h2.tail.tail.tail hr) ?_;rintro _ _ ⟨M,up,uq,rfl,hM,rfl⟩;refine ⟨fun _=>zE,?_⟩;refine A.cB (hM.cN zE).parts.one fun o4=>?_
 refine A.cB (hM.cN zE).path.one fun o5=>?_
 (refine tk 11 _ rfl (bL rfl zF) ?_;(refine tO 12 ?_;refine zg ?_;refine ⟨zN,?_⟩))
 refine bf zK ?_;refine wB ?_;apply bB
 ·exact zV
 refine ⟨dI [cR (.slice dW s.dd.root.length c1) s.dd.root,M]::R,cn (show cC _ (cR (.slice dW s.dd.root.length c1) s.dd.root::M::R) from zE) (dN (M:=[_,_])),dI [cR (.slice dW s.dd.root.length c1) s.dd.root,M],.slice dW s.dd.root.length c1,up,uq,rfl,uB ⟨ba .zero,hM.cN (cC.drop aX),h3⟩,rfl⟩
theorem ku (v vr vp vq:Value) (iY:List UInt8) (s:jU) (hv:da R v iY) (hs:ff R vr vp vq s) (hc:s.dd.right) :
 Ct prog 98 #[v,.agg (dT s vr vp vq).toArray] e R (fun v' L'=>v'=.bool (decide (s.hJ iY))∧R=L'):=by
 obtain ⟨h1,h2,h3⟩:=hs;refine a7 (cz hv) fun o0=>?_
 refine a7 (cz h1) fun o1=>?_
 refine a7 h2.parts.one fun o2=>?_
 refine a7 h2.path.one fun o3=>?_
 have nZ:=lY hc;refine a8 (args:=[_,_]) func98 rfl ntmps98 results98 rfl ?_
 (repeat (refine wA ?_;intros))
 rename_i g1;refine bl (id:=1) [12] (cM g1 (dT s vr vp vq) 87 (0,0)::R) mixed ?_
 (refine tF 0 ?_;refine tk 1 _ rfl (cE.dj rfl zP zI zX) ?_)
 refine tO 2 ?_;refine bg rfl rfl (gI _ e vr s.dd (h1.cN zE)) ?_;rintro _ _ ⟨rfl,rfl⟩;refine ⟨fun _=>zE,A.fF zE ?_⟩;rw [ay hc]
 (refine tM 3 ?_;refine du 4 _ rfl (bw rfl) ?_;refine du 5 _ rfl (bb rfl) ?_;refine du 6 _ rfl (cE.dj rfl zP zI zX) ?_;refine du 8 _ rfl (bb rfl) ?_;refine du 9 _ rfl (cE.dj rfl zP zI zX) ?_)
 refine A.pi 7 rfl rfl zK ?_;refine bg rfl rfl (xF _ e vr s.dd (h1.cN zE) hc) ?_;rintro _ _ ⟨ad,k,rfl,rfl⟩;refine ⟨fun _=>zE,A.fF zE ?_⟩;refine A.pi 10 rfl rfl zK ?_;refine bg rfl rfl (sP _ e v (.slice ad (iQ s.dd).length k) vp vq iY (iQ s.dd) s.sig (hv.cN zE) (ba zP) zo (h2.cN zE)) ?_;rintro _ _ ⟨rfl,rfl⟩;refine ⟨fun _=>zE,A.fF zE ?_⟩;rw [show decide (vS iY (iQ s.dd) s.sig)=decide (s.hJ iY) from decide_eq_decide.2 ⟨fun q=>⟨hc,q⟩,fun q=>q.2⟩]
 (refine tk 11 _ rfl (bM rfl rfl) ?_;(refine tO 12 ?_;refine dV (bj rfl) ?_))
 refine bf zK ?_;refine wB ?_;exact aY R rfl zE ⟨rfl,rfl⟩
theorem F0 (v vr:Value) (seed:List UInt8) (i:Nat) (c:iM) (hv:da R v seed) (FL:seed.length=32) (hi:i<16) (hr:da R vr c.root) (hc:c.right) :
 Ct prog 245 #[v,.int .i64 (i:Int),.agg (gX c vr).toArray] e R (fun v' L'=>∃ (M:cK) (ur up uq:Value),v'=.tuple #[.agg (dT (qZ seed i c) ur up uq).toArray,.int .i64 0]∧ff [M] ur up uq (qZ seed i c)∧L'=M::R):=by
 refine a7 (cz hv) fun o0=>?_
 refine a7 (cz hr) fun o1=>?_
 have nZ:=lY hc;have tQ:=hc.1;have rm:=hc.2;refine bI (args:=[_,_,_]) func245 rfl ntmps245 results245 rfl ?_
 (repeat (refine wA ?_;intros))
 rename_i g1 g2;refine aZ rfl rfl (gI _ e vr c (hr.cN zE)) ?_;rintro _ _ ⟨rfl,rfl⟩;rw [ay hc];refine wB ?_;refine aZ rfl rfl (xF _ e vr c (hr.cN zE) hc) ?_;rintro _ _ ⟨ad,k,rfl,rfl⟩
 (repeat' first|refine Za ?_|refine Zb ?_|apply Zc|apply Zd|apply Ze|apply Zf|refine Zh ?_|refine Zi ?_|refine Zj ?_|refine Zu ?_|refine Zy ?_|refine Zz ?_|refine ZP ?_|refine ZQ ?_|refine Yd ?_|refine Ye ?_|refine Yg fun _=>?_|refine Yh fun _=>?_|refine Yz ?_|refine YA ?_|apply YC|apply YE|apply YF|refine YN ?_|refine YQ ?_|refine YR ?_|(apply O.dj;exact rfl;exact zP;(first|(simp only [aC,Nat.add_zero,Nat.reduceAdd,List.drop_succ_cons,List.drop_zero,List.take_succ_cons,List.take_zero];done)|(simp only [aC,Nat.add_zero,Nat.reduceAdd,List.drop_succ_cons,List.drop_zero,List.take_succ_cons,List.take_zero];exact rfl));exact rfl;exact rfl))
 refine aZ rfl rfl (xu _ e v (.slice ad (iQ c).length k) seed (iQ c) i (hv.cN zE) FL hi (ba zP) zo) ?_;rintro _ _ ⟨M,vp,vq,rfl,hM,rfl⟩;refine bo (hM.cN zE).parts.one fun o4=>?_
 refine bo (hM.cN zE).path.one fun o5=>?_
 (repeat (refine wA ?_;intros))
 rename_i g3;refine bl (id:=6) [8,9] (cM g1 (gX c vr) 83 (0,0)::cM g3 (vV (lH seed i (iQ c)) vp vq) 85 (0,0)::M::R) mixed ?_
 (refine tF 0 ?_;refine tL 1 ?_;refine tF 2 ?_;refine tL 3 ?_;refine tJ 6 ?_)
 refine tO 4 ?_;refine bg rfl rfl (dy _ e vr c.root (hr.cN zE) zo) ?_;rintro _ _ ⟨dW,c1,rfl,tQ,rfl⟩;refine ⟨fun _=>zE,?_⟩
 (refine tk 5 _ rfl (bL rfl zF) ?_;refine tk 7 _ rfl (bL rfl zF) ?_;(refine tO 8 ?_;refine zg ?_;refine ⟨zN,?_⟩);(refine tO 9 ?_;refine dV (bj rfl) ?_))
 refine bf zK ?_;refine wB ?_;apply bB
 ·exact zV
 refine ⟨dI [cR (.slice dW c.root.length c1) c.root,M]::R,cn (show cC _ (cR (.slice dW c.root.length c1) c.root::M::R) from zE) (dN (M:=[_,_])),dI [cR (.slice dW c.root.length c1) c.root,M],.slice dW c.root.length c1,vp,vq,rfl,uB ⟨ba .zero,hM.cN (cC.drop aX),⟨by show c.size<_;omega,by show c.root.length≤_;omega⟩⟩,rfl⟩
theorem AC (g:Nat) (l:List UInt8) (vr vp vq:Value) (s:jU) (hs:ff R vr vp vq s) (hc:s.dd.right) (hr:s.sig.right) (hl:l.length≤1000000) :
 Ct prog 124 #[pt g,.agg (dT s vr vp vq).toArray] e (Writer g l::R) (fun v' L'=>v'=.bool true∧L'=Writer g (l++hZ s)::R):=by
 obtain ⟨h1,h2,h3⟩:=hs;refine a7 (cz h1.tail) fun o1=>?_
 refine a7 (h2.tail).parts.one fun o2=>?_
 refine a7 (h2.tail).path.one fun o3=>?_
 have Hv:=gQ hr;have tQ:=hc.1;have rm:=hc.2;refine a8 (args:=[_,_]) func124 rfl ntmps124 results124 rfl ?_
 (repeat' first|refine Zb ?_|apply Zc|apply Zd|apply Ze|apply Zf|refine Zh ?_|refine Yg fun _=>?_|(apply O.dj;exact rfl;exact zP;(first|(simp only [aC,Nat.add_zero,Nat.reduceAdd,List.drop_succ_cons,List.drop_zero,List.take_succ_cons,List.take_zero];done)|(simp only [aC,Nat.add_zero,Nat.reduceAdd,List.drop_succ_cons,List.drop_zero,List.take_succ_cons,List.take_zero];exact rfl));exact rfl;exact rfl))
 rename_i g1;refine aZ rfl rfl (sY _ e vp vq s.sig (h2.cN zE) hr) ?_;rintro _ _ ⟨ad,k,rfl,rfl⟩
 (repeat' first|refine Za ?_|refine Zb ?_|apply Zc|apply Zd|apply Ze|apply Zf|refine Zh ?_|refine Zm ?_|refine Zn ?_|refine Zq ?_|refine ZQ ?_|refine YN ?_|(apply O.dj;exact rfl;exact zP;(first|(simp only [aC,Nat.add_zero,Nat.reduceAdd,List.drop_succ_cons,List.drop_zero,List.take_succ_cons,List.take_zero];done)|(simp only [aC,Nat.add_zero,Nat.reduceAdd,List.drop_succ_cons,List.drop_zero,List.take_succ_cons,List.take_zero];exact rfl));exact rfl;exact rfl))
 refine aZ rfl rfl (gI _ e vr s.dd (h1.cN zE)) ?_;rintro _ _ ⟨rfl,rfl⟩;rw [ay hc];refine wB ?_;refine aZ rfl rfl (Ct.at zP (gG _ e g l s.dd.size zo zo)) ?_;rintro _ _ ⟨rfl,rfl⟩;refine wB ?_;refine aZ rfl rfl (hH _ e g _ s.dd.root vr (h1.cN zE) (by rw [aa,cY];omega)) ?_;rintro _ _ ⟨rfl,rfl⟩;refine wB ?_;refine aZ rfl rfl (hH _ e g _ (fO s.sig) (.slice ad (fO s.sig).length k) (ba zP) (by rw [aa,aa,cY];omega)) ?_;rintro _ _ ⟨rfl,rfl⟩;rw [show l++be s.dd.size 4++s.dd.root++fO s.sig=l++hZ s by simp [hZ]];refine wB ?_;exact aY (Writer g (l++hZ s)::R) rfl zE ⟨rfl,rfl⟩
theorem AD (g:Nat) (s:jU) (r:List UInt8) (hc:s.dd.right) (hr:s.sig.right) (hl:r.length≤1000000) :
 Ct prog 212 #[pt g] e (Reader g ⟨hZ s++r,false⟩::R) (fun v' L'=>∃ (M:cK) (ur up uq:Value),v'=.tuple #[.agg (dT s ur up uq).toArray,.bool true]∧ff [M] ur up uq s∧L'=Reader g ⟨r,false⟩::M::R):=by
 have Hv:=gQ hr;have tQ:=hc.1;have rm:=hc.2;rw [show hZ s++r=be s.dd.size 4++(s.dd.root++(fO s.sig++r)) by simp [hZ]];refine bI (args:=[_]) func212 rfl ntmps212 results212 rfl ?_
 (repeat (refine wA ?_;intros))
 refine aZ rfl rfl (Ct.at zP (sV _ e g s.dd.size _ zo)) ?_;rintro _ _ ⟨rfl,rfl⟩;refine wB ?_;refine aZ rfl rfl (xB _ e g 32 s.dd.root _ rm (by rw [aa,aa];omega)) ?_;rintro _ _ ⟨dW,c1,rfl,rfl⟩
 (repeat (refine wA ?_;intros))
 refine aZ rfl rfl (Ct.at zP (xB _ e g 2180 (fO s.sig) r Hv (by rw [aa];omega))) ?_;rintro _ _ ⟨dS,c2,rfl,rfl⟩
 (repeat' first|refine Za ?_|refine Zb ?_|apply Zc|apply Zd|apply Ze|apply Zf|refine Zi ?_|refine Zj ?_|refine Zl ?_|refine Zm ?_|refine Zn ?_|refine Zo ?_|refine Zq ?_|refine Zs ?_|refine Zt ?_|refine Zu ?_|refine Zy ?_|refine Zz ?_|refine ZM ?_|refine ZN ?_|refine ZO (fun _=>?_) fun _=>?_|refine ZP ?_|refine ZQ ?_|refine ZY ?_|refine ZZ ?_|refine Z6 ?_|refine Z7 ?_|refine Z8 ?_|refine Yd ?_|refine Ye ?_|refine Yf ?_|refine Yh fun _=>?_|refine Yz ?_|refine YA ?_|apply YC|apply YE|apply YF|refine YN ?_|refine YQ ?_|refine YR ?_|(apply O.dj;exact rfl;exact zP;(first|(simp only [aC,Nat.add_zero,Nat.reduceAdd,List.drop_succ_cons,List.drop_zero,List.take_succ_cons,List.take_zero];done)|(simp only [aC,Nat.add_zero,Nat.reduceAdd,List.drop_succ_cons,List.drop_zero,List.take_succ_cons,List.take_zero];exact rfl));exact rfl;exact rfl))
 refine aZ rfl rfl (sX _ e (.slice dS (fO s.sig).length c2) s.sig (ba .zero) hr) ?_;rintro _ _ ⟨M,vp,vq,rfl,hM,rfl⟩;refine bo (hM.cN zE).parts.one fun o4=>?_
 refine bo (hM.cN zE).path.one fun o5=>?_
 (repeat (refine wA ?_;intros))
 refine aZ rfl rfl (gI _ e (.slice dW s.dd.root.length c1) s.dd (ba zP)) ?_;rintro _ _ ⟨rfl,rfl⟩;rw [ay hc];refine wB ?_;apply bB
 ·exact zV
 refine ⟨Reader g ⟨r,false⟩::dI [cR (.slice dW s.dd.root.length c1) s.dd.root,M]::R,cn (show cC _ (cR (.slice dW s.dd.root.length c1) s.dd.root::M::Reader g ⟨r,false⟩::R) from zE) (cn (dN (M:=[_,_])) zE),dI [cR (.slice dW s.dd.root.length c1) s.dd.root,M],.slice dW s.dd.root.length c1,vp,vq,rfl,uB ⟨ba .zero,hM.cN (cC.drop aX),⟨by omega,by omega⟩⟩,rfl⟩
end Go.Proofs
namespace Go.Proofs
open Go.Bs
structure jK where
 log:List UInt8
 ey:List (List UInt8)
 eE:Nat
structure jK.right (p:jK):Prop where
 log:p.log.length=32
 low:1≤p.eE
 high:p.eE≤p.ey.length
 iC:p.ey.length≤4
 kI:∀ w∈p.ey,w.length=32
 apart:p.ey.Nodup
def kF.hJ (g:kF) (p:jK) (c:iM):Prop:=g.gy<p.ey.length∧vS (p.ey.getD g.gy []) (lJ c) g.sig
instance (g:kF) (p:jK) (c:iM):Decidable (g.hJ p c):=by unfold kF.hJ;infer_instance
def countP (p:jK) (c:iM):List kF→List Nat→Nat
 | [],_=>0
 | g::l,seen=>if g.gy<4∧¬ g.gy∈seen∧g.hJ p c then 1+countP p c l (g.gy::seen) else countP p c l seen
def sZ (p:jK) (c:iM) (l:List kF):Prop:=p.eE≤countP p c l []
instance (p:jK) (c:iM) (l:List kF):Decidable (sZ p c l):=by unfold sZ;infer_instance
abbrev lq (p:jK) (vl vw:Value):List Value:=[vl,vw,.int .i64 (p.eE:Int)]
structure j3 (L:List cK) (vl vw:Value) (p:jK):Prop where
 log:da L vl p.log
 ey:j8 L vw p.ey
theorem j3.cN {L L':List cK} {vl vw:Value} {p:jK} (h:j3 L' vl vw p) (f:cC L L'):j3 L vl vw p:=⟨h.log.cN f,h.ey.cN f⟩
abbrev jn:=kF × Value × Value
abbrev jn.cells (t:jn):List Value:=iy t.1 t.2.1 t.2.2
structure jn.ok (L:List cK) (t:jn):Prop where
 rd:fK L t.2.1 t.2.2 t.1.sig
 small:t.1.gy<4294967296
def oC (L:List cK) (v:Value) (gs:List kF):Prop:=∃ ts:List jn,ts.map (·.1)=gs∧cF L 4 v ts.length (ts.flatMap jn.cells)∧∀ t∈ts,jn.ok L t
theorem oC.cN {L L':List cK} {v:Value} {gs:List kF} (h:oC L' v gs) (f:cC L L'):oC L v gs:=by
 obtain ⟨ts,h1,h2,h3⟩:=h;exact ⟨ts,h1,h2.cN f,fun t ht=>⟨(h3 t ht).rd.cN f,(h3 t ht).small⟩⟩
theorem oC.tail {A:cK} {L:List cK} {v:Value} {gs:List kF} (h:oC L v gs):oC (A::L) v gs:=h.cN (cC.drop aX)
theorem oC.one {L:List cK} {v:Value} {gs:List kF} (h:oC L v gs):∀ x,dK L x→v.oneCell'=true:=by
 obtain ⟨ts,h1,h2,h3⟩:=h;intro x hx;obtain ⟨⟨ad,c,rfl,_⟩,_⟩:=h2.shape zo x hx
 rfl
theorem jn.len (t:jn):t.cells.length=4:=rfl
end Go.Proofs
namespace Go.Proofs
attribute [local irreducible] Bs.cE Bs.Do Bs.O Bs.W Bs.Fin Bs.A Bs.Ct Bs.cF Bs.Rd Bs.Sat Bs.cM Bs.Ob Bs.dJ Bs.View Bs.cC Bs.Ex Bs.dI Bs.Pu Bs.eZ Bs.dK Bs.eh
open Go.Bs
open Tryz
variable (R:List cK) (e:World)
theorem AF (v:Value) (b:List UInt8) (hv:da R v b) :
 Ct prog 201 #[v] e R (fun v' L'=>v'=.bool (decide (b.length=32))∧R=L'):=by
 refine a7 (cF.shape hv zo) ?_;rintro ⟨⟨ad,cap,rfl,h3,h4,h5,h6⟩,_⟩;refine a8 (args:=[_]) func201 rfl ntmps201 results201 rfl ?_
 by_cases h:b.length=32
 ·rw [ay h];refine wB ?_;exact aY R rfl aX ⟨rfl,rfl⟩
 ·rw [aq h];refine wB ?_;exact aY R rfl aX ⟨rfl,rfl⟩
theorem qz (n:Nat) :
 Ct prog 197 #[.int .i64 (n:Int)] e R (fun v' L'=>v'=.bool (decide (n<4))∧R=L'):=by
 refine a8 (args:=[_]) func197 rfl ntmps197 results197 rfl ?_
 by_cases h:n<4
 ·rw [ay h];refine wB ?_;exact aY R rfl aX ⟨rfl,rfl⟩
 ·rw [aq h];refine wB ?_;exact aY R rfl aX ⟨rfl,rfl⟩
theorem BU (v w:Value) (b a:List UInt8) (g:Nat) (hg:Rd R ⟨g,0,none⟩ w) (hv:da R v b) (hw:da R w a) :
 Ct prog 202 #[v,pt g] e R (fun v' L'=>v'=.bool (decide (b=a))∧R=L'):=by
 refine a8 (args:=[_,_]) func202 rfl ntmps202 results202 rfl ?_;refine wB ?_;refine aZ rfl rfl (iL _ e v w b a hv hw) ?_;rintro _ _ ⟨rfl,rfl⟩;refine wB ?_;exact aY R rfl aX ⟨rfl,rfl⟩
theorem F1 {l:List (List UInt8)} (h:l.Nodup) {i j:Nat} (hj:j<i) (hi:i<l.length):l.getD j []≠l.getD i []:=by
 rw [aL,aL,ae zo,ae hi];simp only [Option.getD_some];intro he;exact List.pairwise_iff_getElem.1 h j i zo hi hj he
theorem j4 (vl vw:Value) (p:jK) (hp:j3 R vl vw p) (hr:p.right) :
 Ct prog 116 #[.agg (lq p vl vw).toArray] e R (fun v' L'=>v'=.bool true∧R=L'):=by
 obtain ⟨q1,q2,q3,q4,q5,q6⟩:=hr;obtain ⟨h1,ts,fx,hv,ht⟩:=hp;have hl:p.ey.length=ts.length:=by rw [← fx,ab]
 refine a7 (cz h1) fun o1=>?_
 refine a7 (hv.shape zo) ?_;rintro ⟨⟨ot,cap,rfl,h3,h4,h5,h6⟩,_⟩;simp only [maxLen] at h4
 refine a8 (args:=[_]) func116 rfl ntmps116 results116 rfl ?_
 (repeat (refine wA ?_;intros))
 rename_i g1;refine aZ rfl rfl (AF _ e vl p.log (h1.cN zE)) ?_;rintro _ _ ⟨rfl,rfl⟩;rw [ay q1];refine wB ?_;refine br (ι:=Nat) (fun i=>[(1,pt g1),(34,.slice ot ts.length cap),(35,.int .i64 (ts.length:Int)),(36,.int .i64 (i:Int))]) (fun i=>cM g1 (lq p vl (.slice ot ts.length cap)) 106 (0,0)::R) (fun i=>i≤ts.length) (fun i=>ts.length - i) 0 (aG _) zS zE ?_;intro i hi
 by_cases cQ:i<ts.length
 rotate_left
 ·refine wB ?_;exact aY R rfl zE ⟨rfl,rfl⟩
 rcases h6 with h6|⟨gl,ol,rfl⟩
 ·omega
 have hr:Rd R ⟨gl,ol+i,none⟩ (ts[i]'cQ).1:=hv.elem (by rw [aI,ae cQ];rfl);have js:=ht _ (az cQ);have vQ:(ts[i]'cQ).2.length=32:=q5 _ (by rw [← fx];exact aD.2 ⟨_,az cQ,rfl⟩)
 have Yk:∀ j,j<i→∀ hj:j<ts.length,(ts[j]'hj).2≠(ts[i]'cQ).2:=fun j hj Lg=>by
  have:=F1 q6 hj zo;rw [← fx,eR Lg,eR cQ] at this
  exact this
 generalize ts[i]'cQ=y at *
 obtain ⟨yv,b⟩:=y;dsimp only at hr js vQ Yk
 refine bG (cz js.tail) fun oy=>?_
 (repeat (refine wA ?_;intros))
 rename_i g2;refine aZ rfl rfl (AF _ e yv b (js.cN zE)) ?_;rintro _ _ ⟨rfl,rfl⟩;rw [ay vQ];refine wB ?_
 have UC:∀ A B,cF (A::B::R) 1 (.slice (some ⟨gl,ol,none⟩) i cap) (ts.take i).length ((ts.take i).map (·.1)):=fun A B=>by
  have:=(hv.qV (hi:=i) zo).tail (A:=B) |>.tail (A:=A)
  rw [Nat.mul_one] at this
  rw [aE,Nat.min_eq_left zo,List.map_take];exact this
 rw [Int.toNat_natCast]
 have hc:=pO (cM g2 [yv] dZ (0,0)::cM g1 (lq p vl (.slice (some ⟨gl,ol,none⟩) ts.length cap)) 106 (0,0)::R) e (.slice (some ⟨gl,ol,none⟩) i cap) (ts.take i) 202 [] [pt g2] (fun j=>decide (((ts.take i).map (·.2)).getD j []=b)) (UC _ _) (by rw [aE];omega) (fun j hj=>by
  rw [eR hj];exact BU _ e _ yv _ b g2 (bR .zero rfl) ((ht _ (aN (az hj))).tail.tail) js.tail.tail)
 rw [aq (fun ⟨j,hj,h⟩=>by
  rw [eR hj] at h
  rw [aE] at hj
  rw [List.getElem_take] at h
  exact Yk j zo zo (of_decide_eq_true h))] at hc
 refine aZ rfl rfl hc ?_;rintro _ _ ⟨rfl,rfl⟩;refine wB ?_;exact bi (i+1) cQ zo zS zE
theorem oD (vp vq:Value) (g:kF) (hs:fK R vp vq g.sig) (hr:g.sig.fits) :
 Ct prog 114 #[.agg (iy g vp vq).toArray] e R (fun v' L'=>∃ (M:cK) (up uq:Value),v'=.agg (iy g up uq).toArray∧fK [M] up uq g.sig∧L'=M::R):=by
 refine a7 hs.parts.one fun o2=>?_
 refine a7 hs.path.one fun o3=>?_
 refine bI (args:=[_]) func114 rfl ntmps114 results114 rfl ?_
 (repeat (refine wA ?_;intros))
 rename_i g1 g2;refine bl (id:=1) [6] (cM g1 (iy g vp vq) 96 (0,0)::R) mixed ?_
 (refine tF 0 ?_;refine tL 1 ?_;refine tF 2 ?_;refine tk 3 _ rfl (cE.dj rfl zP zI zX) ?_)
 refine tO 4 ?_;refine bg rfl rfl (xx _ e vp vq g.sig (hs.cN zE) hr) ?_;rintro _ _ ⟨M,up,uq,rfl,hM,rfl⟩;refine ⟨fun _=>zE,?_⟩;refine A.cB (hM.cN zE).parts.one fun o4=>?_
 refine A.cB (hM.cN zE).path.one fun o5=>?_
 (refine tk 5 _ rfl (bL rfl zF) ?_;(refine tO 6 ?_;refine zg ?_;refine ⟨zN,?_⟩))
 refine bf zK ?_;refine wB ?_;apply bB
 ·exact zV
 exact ⟨M::R,zE,M,up,uq,rfl,hM,rfl⟩
theorem xH (vr:Value) (c:iM) (hv:da R vr c.root) (hc:c.right) :
 Ct prog 199 #[.agg (gX c vr).toArray] e R (fun v' L'=>∃ ad k,v'=.slice ad (lJ c).length k∧L'=cR (.slice ad (lJ c).length k) (lJ c)::R):=by
 have tQ:=hc.1;have rm:=hc.2;refine a7 (cz hv) fun ho=>?_
 refine a8 (args:=[_]) func199 rfl ntmps199 results199 rfl ?_
 (repeat (refine wA ?_;intros))
 rename_i g;refine aZ rfl rfl (gI _ e vr c hv.tail) ?_;rintro _ _ ⟨rfl,rfl⟩;rw [ay hc];refine wB ?_;refine aZ rfl rfl (ji _ e) ?_;rintro _ _ ⟨gw,rfl,rfl⟩
 (repeat (refine wA ?_;intros))
 rename_i gt;refine O.fo (show cC _ (Writer gw []::cM gt (xE.map u8) na (17,18)::cM g (gX c vr) 83 (0,0)::R) from bz (.succ .zero) aX) ?_;refine aZ rfl rfl (hH _ e gw [] xE _ (bu .zero rfl zl) (by decide)) ?_;rintro _ _ ⟨rfl,rfl⟩;refine wB ?_;refine aZ rfl rfl (gG _ e gw _ c.size zo (by decide)) ?_;rintro _ _ ⟨rfl,rfl⟩;refine wB ?_;refine aZ rfl rfl (hH _ e gw _ c.root vr hv.tail.tail (by rw [aa,cY];simp only [List.nil_append,show xE.length=17 from rfl];omega)) ?_;rintro _ _ ⟨rfl,rfl⟩;rw [show []++xE++be c.size 4++c.root=lJ c by simp [lJ]];refine wB ?_;refine aZ rfl rfl (hI _ e gw _ (by rw [oB hc];omega)) ?_;rintro _ _ ⟨ad,k,rfl,rfl⟩;refine wB ?_;exact aY (cR (.slice ad (lJ c).length k) (lJ c)::R) rfl zE ⟨ad,k,rfl,rfl⟩
theorem F2 (v vr:Value) (seed:List UInt8) (i n:Nat) (c:iM) (hv:da R v seed) (FL:seed.length=32) (hi:i<16) (hn:n<4) (hr:da R vr c.root) (hc:c.right) :
 Ct prog 113 #[v,.int .i64 (i:Int),.int .i64 (n:Int),.agg (gX c vr).toArray] e R (fun v' L'=>∃ (M:cK) (up uq:Value),v'=.tuple #[.agg (iy (AB seed i n c) up uq).toArray,.int .i64 0]∧fK [M] up uq (AB seed i n c).sig∧L'=M::R):=by
 refine a7 (cz hv) fun o0=>?_
 refine a7 (cz hr) fun o1=>?_
 have nZ:=oB hc;have tQ:=hc.1;have rm:=hc.2;refine bI (args:=[_,_,_,_]) func113 rfl ntmps113 results113 rfl ?_
 (repeat (refine wA ?_;intros))
 rename_i g1 g2;refine aZ rfl rfl (qz _ e n) ?_;rintro _ _ ⟨rfl,rfl⟩;rw [ay hn];refine wB ?_;refine aZ rfl rfl (gI _ e vr c (hr.cN zE)) ?_;rintro _ _ ⟨rfl,rfl⟩;rw [ay hc];refine wB ?_;refine aZ rfl rfl (xH _ e vr c (hr.cN zE) hc) ?_;rintro _ _ ⟨ad,k,rfl,rfl⟩
 (repeat' first|refine Za ?_|refine Zb ?_|apply Zc|apply Zd|apply Ze|apply Zf|refine Zi ?_|refine Zj ?_|refine Zu ?_|refine Zy ?_|refine Zz ?_|refine ZP ?_|refine ZQ ?_|refine Yd ?_|refine Ye ?_|refine Yg fun _=>?_|refine Yh fun _=>?_|refine Yz ?_|refine YA ?_|apply YB|apply YC|apply YE|apply YF|apply YH|apply YI|refine YN ?_|refine YQ ?_|refine YR ?_|(apply O.dj;exact rfl;exact zP;(first|(simp only [aC,Nat.add_zero,Nat.reduceAdd,List.drop_succ_cons,List.drop_zero,List.take_succ_cons,List.take_zero];done)|(simp only [aC,Nat.add_zero,Nat.reduceAdd,List.drop_succ_cons,List.drop_zero,List.take_succ_cons,List.take_zero];exact rfl));exact rfl;exact rfl))
 refine aZ rfl rfl (xu _ e v (.slice ad (lJ c).length k) seed (lJ c) i (hv.cN zE) FL hi (ba zP) zo) ?_;rintro _ _ ⟨M,vp,vq,rfl,hM,rfl⟩;refine bo (hM.cN zE).parts.one fun o4=>?_
 refine bo (hM.cN zE).path.one fun o5=>?_
 (repeat (refine wA ?_;intros))
 apply bB
 ·exact zV
 exact ⟨M::R,zE,M,vp,vq,rfl,hM,rfl⟩
theorem pY {n:Nat} (h:n<256):Value.int .u8 (n:Int)=u8 (UInt8.ofNat n):=by
 unfold u8;rw [UInt8.toNat_ofNat',Nat.mod_eq_of_lt zo]
theorem AG (g:Nat) (l:List UInt8) (vp vq:Value) (s:kF) (hs:fK R vp vq s.sig) (hn:s.gy<4) (hr:s.sig.right) (hl:l.length≤1000000) :
 Ct prog 126 #[pt g,.agg (iy s vp vq).toArray] e (Writer g l::R) (fun v' L'=>v'=.bool true∧L'=Writer g (l++eU s)::R):=by
 refine a7 (hs.tail).parts.one fun o2=>?_
 refine a7 (hs.tail).path.one fun o3=>?_
 have Hv:=gQ hr;refine a8 (args:=[_,_]) func126 rfl ntmps126 results126 rfl ?_
 (repeat' first|refine Zb ?_|apply Zc|apply Zd|apply Ze|apply Zf|refine Zh ?_|refine Yg fun _=>?_|(apply O.dj;exact rfl;exact zP;(first|(simp only [aC,Nat.add_zero,Nat.reduceAdd,List.drop_succ_cons,List.drop_zero,List.take_succ_cons,List.take_zero];done)|(simp only [aC,Nat.add_zero,Nat.reduceAdd,List.drop_succ_cons,List.drop_zero,List.take_succ_cons,List.take_zero];exact rfl));exact rfl;exact rfl))
 rename_i g1;refine aZ rfl rfl (sY _ e vp vq s.sig (hs.cN zE) hr) ?_;rintro _ _ ⟨ad,k,rfl,rfl⟩;refine wB ?_;refine aZ rfl rfl (qz _ e s.gy) ?_;rintro _ _ ⟨rfl,rfl⟩;rw [ay hn];refine wB ?_;rw [pY zo]
 (repeat' first|refine Za ?_|refine Zb ?_|apply Zc|apply Zd|apply Ze|apply Zf|refine Zh ?_|refine Zi ?_|refine Zj ?_|refine Zl ?_|refine Zm ?_|refine Zn ?_|refine Zo ?_|refine Zq ?_|refine Zs ?_|refine Zt ?_|refine Zu ?_|refine Zy ?_|refine Zz ?_|refine ZM ?_|refine ZN ?_|refine ZO (fun _=>?_) fun _=>?_|refine ZP ?_|refine ZQ ?_|refine ZY ?_|refine ZZ ?_|refine Z6 ?_|refine Z7 ?_|refine Z8 ?_|refine Yf ?_|refine Yg fun _=>?_|refine Yz ?_|refine YA ?_|apply YC|apply YE|apply YF|refine YN ?_|(apply O.dj;exact rfl;exact zP;(first|(simp only [aC,Nat.add_zero,Nat.reduceAdd,List.drop_succ_cons,List.drop_zero,List.take_succ_cons,List.take_zero];done)|(simp only [aC,Nat.add_zero,Nat.reduceAdd,List.drop_succ_cons,List.drop_zero,List.take_succ_cons,List.take_zero];exact rfl));exact rfl;exact rfl))
 refine aZ rfl rfl (Ct.at zP (mm _ e g l (UInt8.ofNat s.gy) zo)) ?_;rintro _ _ ⟨rfl,rfl⟩;refine wB ?_;refine aZ rfl rfl (hH _ e g _ (fO s.sig) (.slice ad (fO s.sig).length k) (ba zP) (by rw [aa,aj];omega)) ?_;rintro _ _ ⟨rfl,rfl⟩;rw [show l++[UInt8.ofNat s.gy]++fO s.sig=l++eU s by simp [eU]];refine wB ?_;exact aY (Writer g (l++eU s)::R) rfl zE ⟨rfl,rfl⟩
theorem AH (g:Nat) (s:kF) (r:List UInt8) (hn:s.gy<4) (hr:s.sig.right) (hl:r.length≤1000000) :
 Ct prog 213 #[pt g] e (Reader g ⟨eU s++r,false⟩::R) (fun v' L'=>∃ (M:cK) (up uq:Value),v'=.tuple #[.agg (iy s up uq).toArray,.bool true]∧fK [M] up uq s.sig∧L'=Reader g ⟨r,false⟩::M::R):=by
 have Hv:=gQ hr;rw [show eU s++r=UInt8.ofNat s.gy::(fO s.sig++r) by simp [eU]];refine bI (args:=[_]) func213 rfl ntmps213 results213 rfl ?_
 (repeat (refine wA ?_;intros))
 refine aZ rfl rfl (Ct.at zP (uA _ e g (UInt8.ofNat s.gy) _)) ?_;rintro _ _ ⟨rfl,rfl⟩;rw [← pY zo];refine wB ?_;refine aZ rfl rfl (xB _ e g 2180 (fO s.sig) r Hv (by rw [aa];omega)) ?_;rintro _ _ ⟨dS,c2,rfl,rfl⟩
 (repeat' first|refine Za ?_|refine Zb ?_|apply Zc|apply Zd|apply Ze|apply Zf|refine Zi ?_|refine Zj ?_|refine Zl ?_|refine Zm ?_|refine Zn ?_|refine Zo ?_|refine Zq ?_|refine Zs ?_|refine Zt ?_|refine Zu ?_|refine Zy ?_|refine Zz ?_|refine ZM ?_|refine ZN ?_|refine ZO (fun _=>?_) fun _=>?_|refine ZP ?_|refine ZQ ?_|refine ZY ?_|refine ZZ ?_|refine Z6 ?_|refine Z7 ?_|refine Z8 ?_|refine Yd ?_|refine Ye ?_|refine Yf ?_|refine Yh fun _=>?_|refine Yz ?_|refine YA ?_|apply YC|apply YE|apply YF|refine YN ?_|refine YQ ?_|refine YR ?_|(apply O.dj;exact rfl;exact zP;(first|(simp only [aC,Nat.add_zero,Nat.reduceAdd,List.drop_succ_cons,List.drop_zero,List.take_succ_cons,List.take_zero];done)|(simp only [aC,Nat.add_zero,Nat.reduceAdd,List.drop_succ_cons,List.drop_zero,List.take_succ_cons,List.take_zero];exact rfl));exact rfl;exact rfl))
 refine aZ rfl rfl (sX _ e (.slice dS (fO s.sig).length c2) s.sig (ba .zero) hr) ?_;rintro _ _ ⟨M,vp,vq,rfl,hM,rfl⟩;refine bo (hM.cN zE).parts.one fun o4=>?_
 refine bo (hM.cN zE).path.one fun o5=>?_
 (repeat (refine wA ?_;intros))
 refine aZ rfl rfl (qz _ e s.gy) ?_;rintro _ _ ⟨rfl,rfl⟩;rw [ay hn];refine wB ?_;apply bB
 ·exact zV
 exact ⟨Reader g ⟨r,false⟩::M::R,zE,M,vp,vq,rfl,hM,rfl⟩
theorem lZ (vl vw vr vp vq:Value) (p:jK) (c:iM) (g:kF) (hp:j3 R vl vw p) (sq:p.right) (hr:da R vr c.root) (hc:c.right) (hs:fK R vp vq g.sig) :
 Ct prog 290 #[.agg (lq p vl vw).toArray,.agg (gX c vr).toArray,.agg (iy g vp vq).toArray] e R (fun v' L'=>v'=.bool (decide (g.hJ p c))∧R=L'):=by
 have nZ:=oB hc;have aa5:=sq.iC;have hp0:=hp;obtain ⟨h1,ts,fx,hv,ht⟩:=hp0;have hl:p.ey.length=ts.length:=by rw [← fx,ab]
 refine a7 (cz h1) fun o1=>?_
 refine a7 (cz hr) fun o2=>?_
 refine a7 hs.parts.one fun o3=>?_
 refine a7 hs.path.one fun o4=>?_
 refine a7 (hv.shape zo) ?_;rintro ⟨⟨ot,cap,rfl,h3,h4,h5,h6⟩,_⟩;simp only [maxLen] at h4
 refine a8 (args:=[_,_,_]) func290 rfl ntmps290 results290 rfl ?_
 (repeat (refine wA ?_;intros))
 rename_i g1 g2 g3;refine aZ rfl rfl (j4 _ e vl _ p (hp.cN zE) sq) ?_;rintro _ _ ⟨rfl,rfl⟩;refine wB ?_;refine aZ rfl rfl (gI _ e vr c (hr.cN zE)) ?_;rintro _ _ ⟨rfl,rfl⟩;rw [ay hc]
 by_cases hw:g.gy<ts.length
 rotate_left
 ·rw [aq (fun q:g.hJ p c=>hw (by rw [← hl];exact q.1))];refine wB ?_;exact aY R rfl zE ⟨rfl,rfl⟩
 rcases h6 with h6|⟨gl,ol,rfl⟩
 ·omega
 have kh:Rd R ⟨gl,ol+g.gy,none⟩ (ts[g.gy]'hw).1:=hv.elem (by rw [aI,ae hw];rfl);have js:=ht _ (az hw);have vO:p.ey.getD g.gy []=(ts[g.gy]'hw).2:=by rw [← fx,eR hw]
 generalize ts[g.gy]'hw=y at *
 obtain ⟨yv,b⟩:=y;dsimp only at kh js vO
 refine wB ?_;refine bl (id:=3) [11] (cM g1 (lq p vl (.slice (some ⟨gl,ol,none⟩) ts.length cap)) 106 (0,0)::cM g2 (gX c vr) 83 (0,0)::cM g3 (iy g vp vq) 96 (0,0)::R) mixed ?_
 (refine tF 0 ?_;refine tL 1 ?_;refine tF 2 ?_;refine tL 3 ?_;refine tk 4 _ rfl (cE.fp rfl rfl zo) ?_;refine tL 5 ?_;refine tJ 6 ?_;refine tF 8 ?_;refine tk 9 _ rfl (cE.dj rfl zP zI zX) ?_)
 refine tO 7 ?_;refine bg rfl rfl (xH _ e vr c (hr.cN zE) hc) ?_;rintro _ _ ⟨ad,k,rfl,rfl⟩;refine ⟨fun _=>zE,A.fF zE ?_⟩;refine tO 10 ?_;refine bg rfl rfl (sP _ e yv (.slice ad (lJ c).length k) vp vq b (lJ c) g.sig (js.cN zE) (ba zP) zo (hs.cN zE)) ?_;rintro _ _ ⟨rfl,rfl⟩;refine ⟨fun _=>zE,A.fF zE ?_⟩;rw [show decide (vS b (lJ c) g.sig)=decide (g.hJ p c) from decide_eq_decide.2 ⟨fun q=>⟨by rw [hl];exact hw,by rw [vO];exact q⟩,fun q=>by have:=q.2;rw [vO] at this;exact this⟩]
 ((refine tO 11 ?_;refine dV (bj rfl) ?_))
 refine bf zK ?_;refine wB ?_;exact aY R rfl zE ⟨rfl,rfl⟩
theorem u7 (va vb:Value) (a b:List (List UInt8)) (ha:j8 R va a) (hb:j8 R vb b) (S5:a.length≤1000000) (V7:b.length≤1000000) :
 Ct prog 309 #[va,vb,.func (.func 99) #[] #[]] e R (fun v' L'=>v'=.bool (decide (a=b))∧R=L'):=by
 obtain ⟨ts,rfl,hv,ht⟩:=ha;obtain ⟨us,rfl,hw,hu⟩:=hb;rw [ab] at S5 V7
 refine a7 (hv.shape zo) ?_;rintro ⟨⟨dW,S6,rfl,h3,h4,h5,h6⟩,_⟩;refine a7 (hw.shape zo) ?_;rintro ⟨⟨dS,jR,rfl,w3,w4,w5,w6⟩,_⟩;refine a8 (args:=[_,_,_]) func309 rfl ntmps309 results309 rfl ?_
 by_cases h:ts.length=us.length
 rotate_left
 ·rw [aq (fun q=>h (by have:=congrArg List.length q;simpa using this))];refine wB ?_;exact aY R rfl aX ⟨rfl,rfl⟩
 refine wB ?_;refine br (ι:=Nat) (fun i=>[(0,.slice dW ts.length S6),(1,.slice dS us.length jR),(2,.func (.func 99) #[] #[]),(15,.slice dW ts.length S6),(16,.int .i64 (ts.length:Int)),(17,.int .i64 (i:Int))]) (fun _=>R) (fun i=>i≤ts.length∧(ts.map (·.2)).take i=(us.map (·.2)).take i) (fun i=>ts.length - i) 0 ⟨aG _,by simp⟩ zS aX ?_;rintro i ⟨hi,fq⟩
 by_cases cQ:i<ts.length
 rotate_left
 ·rw [aF (by rw [ab];omega),aF (by rw [ab];omega)] at fq
  rw [ay fq];refine wB ?_;exact aY R rfl aX ⟨rfl,rfl⟩
 rcases h6 with h6|⟨gl,ol,rfl⟩
 ·omega
 rcases w6 with w6|⟨gm,om,rfl⟩
 ·omega
 have OX:i<us.length:=by omega
 have Ko:Rd R ⟨gl,ol+i,none⟩ (ts[i]'cQ).1:=hv.elem (by rw [aI,ae cQ];rfl);have KT:Rd R ⟨gm,om+i,none⟩ (us[i]'OX).1:=hw.elem (by rw [aI,ae OX];rfl);have HE:=ht _ (az cQ);have Yl:=hu _ (az OX)
 have hn:(ts[i]'cQ).2=(us[i]'OX).2→(ts.map (·.2)).take (i+1)=(us.map (·.2)).take (i+1):=fun q=>by
  rw [aA (by rw [ab];exact cQ),aA (by rw [ab];exact OX),fq,List.getElem_map,List.getElem_map,q]
 have mV:¬ (ts[i]'cQ).2=(us[i]'OX).2→¬ ts.map (·.2)=us.map (·.2):=fun q r=>q (by
  have:=congrArg (fun l=>l.getD i []) r
  rwa [eR cQ,eR OX] at this)
 generalize ts[i]'cQ=y at *
 generalize us[i]'OX=z at *
 obtain ⟨yv,yb⟩:=y;obtain ⟨zv,zb⟩:=z;dsimp only at Ko KT HE Yl hn mV
 refine wB ?_;refine O.gT (us:=[]) (ws:=[]) rfl rfl rfl (iL _ e yv zv yb zb HE Yl) ?_;rintro _ _ ⟨rfl,rfl⟩
 by_cases UD:yb=zb
 rotate_left
 ·rw [aq UD,aq (mV UD)];refine wB ?_;exact aY R rfl aX ⟨rfl,rfl⟩
 rw [ay UD];refine wB ?_;exact bi (i+1) ⟨cQ,hn UD⟩ zo zS aX
theorem F3 (vp vq up uq:Value) (a b:vR) (ha:fK R vp vq a) (hb:fK R up uq b) :
 Ct prog 289 #[.agg (vV a vp vq).toArray,.agg (vV b up uq).toArray] e R (fun v' L'=>v'=.bool (decide (a=b))∧R=L'):=by
 have NC:a=b↔a.idx=b.idx∧a.parts=b.parts∧a.path=b.path:=by cases a;cases b;simp
 obtain ⟨a1,a2,a3⟩:=ha;obtain ⟨b1,b2,b3⟩:=hb;refine a7 a1.one fun o1=>?_
 refine a7 a2.one fun o2=>?_
 refine a7 b1.one fun o3=>?_
 refine a7 b2.one fun o4=>?_
 refine a8 (args:=[_,_]) func289 rfl ntmps289 results289 rfl ?_
 by_cases h1:a.idx=b.idx
 rotate_left
 ·rw [aq (fun q=>h1 (NC.1 q).1)]
  (repeat (refine wA ?_;intros))
  exact aY R rfl zE ⟨rfl,rfl⟩
 (repeat (refine wA ?_;intros))
 refine aZ rfl rfl (u7 _ e vp up a.parts b.parts (a1.cN zE) (b1.cN zE) zo zo) ?_;rintro _ _ ⟨rfl,rfl⟩
 by_cases h2:a.parts=b.parts
 rotate_left
 ·rw [aq h2,aq (fun q=>h2 (NC.1 q).2.1)];refine wB ?_;exact aY R rfl zE ⟨rfl,rfl⟩
 rw [ay h2];refine wB ?_;refine aZ rfl rfl (u7 _ e vq uq a.path b.path (a2.cN zE) (b2.cN zE) zo zo) ?_;rintro _ _ ⟨rfl,rfl⟩;rw [show decide (a.path=b.path)=decide (a=b) from decide_eq_decide.2 (by rw [NC];exact ⟨fun q=>⟨h1,h2,q⟩,fun q=>q.2.2⟩)];refine wB ?_;exact aY R rfl zE ⟨rfl,rfl⟩
theorem F4 (vp vq up uq:Value) (a b:kF) (ha:fK R vp vq a.sig) (hb:fK R up uq b.sig) :
 Ct prog 253 #[.agg (iy a vp vq).toArray,.agg (iy b up uq).toArray] e R (fun v' L'=>v'=.bool (decide (a=b))∧R=L'):=by
 have NC:a=b↔a.gy=b.gy∧a.sig=b.sig:=by cases a;cases b;simp
 refine a7 ha.parts.one fun o1=>?_
 refine a7 ha.path.one fun o2=>?_
 refine a7 hb.parts.one fun o3=>?_
 refine a7 hb.path.one fun o4=>?_
 refine a8 (args:=[_,_]) func253 rfl ntmps253 results253 rfl ?_
 by_cases h1:a.gy=b.gy
 rotate_left
 ·rw [aq (fun q=>h1 (NC.1 q).1)]
  (repeat (refine wA ?_;intros))
  exact aY R rfl zE ⟨rfl,rfl⟩
 (repeat' first|refine Za ?_|refine Zb ?_|apply Zc|apply Zd|apply Ze|apply Zf|refine Zh ?_|refine Zi ?_|refine Zn ?_|refine ZM ?_|refine Yg fun _=>?_|(apply O.dj;exact rfl;exact zP;(first|(simp only [aC,Nat.add_zero,Nat.reduceAdd,List.drop_succ_cons,List.drop_zero,List.take_succ_cons,List.take_zero];done)|(simp only [aC,Nat.add_zero,Nat.reduceAdd,List.drop_succ_cons,List.drop_zero,List.take_succ_cons,List.take_zero];exact rfl));exact rfl;exact rfl))
 refine aZ rfl rfl (F3 _ e vp vq up uq a.sig b.sig (ha.cN zE) (hb.cN zE)) ?_;rintro _ _ ⟨rfl,rfl⟩;rw [show decide (a.sig=b.sig)=decide (a=b) from decide_eq_decide.2 (by rw [NC];exact ⟨fun q=>⟨h1,q⟩,fun q=>q.2⟩)];refine wB ?_;exact aY R rfl zE ⟨rfl,rfl⟩
def q0 (s:List Nat):List Value:=[.bool (decide (0∈s)),.bool (decide (1∈s)),.bool (decide (2∈s)),.bool (decide (3∈s))]
theorem nK {s:List Nat}:q0 s=[.bool (decide (0∈s)),.bool (decide (1∈s)),.bool (decide (2∈s)),.bool (decide (3∈s))]:=rfl
theorem P1 {s:List Nat}:q0 (0::s)=[.bool true,.bool (decide (1∈s)),.bool (decide (2∈s)),.bool (decide (3∈s))]:=by simp [q0]
theorem P2 {s:List Nat}:q0 (1::s)=[.bool (decide (0∈s)),.bool true,.bool (decide (2∈s)),.bool (decide (3∈s))]:=by simp [q0]
theorem P3 {s:List Nat}:q0 (2::s)=[.bool (decide (0∈s)),.bool (decide (1∈s)),.bool true,.bool (decide (3∈s))]:=by simp [q0]
theorem P4 {s:List Nat}:q0 (3::s)=[.bool (decide (0∈s)),.bool (decide (1∈s)),.bool (decide (2∈s)),.bool true]:=by simp [q0]
theorem countP_cons {p:jK} {c:iM} {g:kF} {l:List kF} {s:List Nat}:countP p c (g::l) s=if g.gy<4∧¬ g.gy∈s∧g.hJ p c then 1+countP p c l (g.gy::s) else countP p c l s:=by rw [countP]
theorem DR (vl vw vr v:Value) (p:jK) (c:iM) (gs:List kF) (hp:j3 R vl vw p) (sq:p.right) (hr:da R vr c.root) (hc:c.right) (hs:oC R v gs) (hl:gs.length≤1000) :
 Ct prog 301 #[.agg (lq p vl vw).toArray,.agg (gX c vr).toArray,v,.func (.func 290) #[] #[]] e R (fun v' L'=>v'=.int .i64 (countP p c gs []:Nat)∧R=L'):=by
 obtain ⟨ts,rfl,hv,ht⟩:=hs;rw [ab] at hl
 refine a7 (cz hp.log) fun o1=>?_
 refine a7 hp.ey.one fun o2=>?_
 refine a7 (cz hr) fun o3=>?_
 refine a7 (hv.shape zo) ?_;rintro ⟨⟨ot,cap,rfl,h3,h4,h5,h6⟩,_⟩;simp only [maxLen] at h4
 refine a8 (args:=[_,_,_,_]) func301 rfl ntmps301 results301 rfl ?_
 (repeat (refine wA ?_;intros))
 rename_i g1 g2 g3;refine br (ι:=Nat × Nat × List Nat) (fun i=>[(3,.func (.func 290) #[] #[]),(4,pt g1),(5,pt g2),(9,.int .i64 (i.2.1:Int)),(10,pt g3),(13,.slice ot ts.length cap),(14,.int .i64 (ts.length:Int)),(15,.int .i64 (i.1:Int))]) (fun i=>cM g3 (q0 i.2.2) 402 (0,0)::cM g2 (gX c vr) 83 (0,0)::cM g1 (lq p vl vw) 106 (0,0)::R) (fun i=>i.1≤ts.length∧i.2.1≤i.1∧i.2.1+countP p c ((ts.map (·.1)).drop i.1) i.2.2=countP p c (ts.map (·.1)) []) (fun i=>ts.length - i.1) (0,0,[]) ⟨aG _,aT _,by simp⟩ zS zE ?_;rintro ⟨i,n,s⟩ ⟨hi,hn,yR⟩;dsimp only at hi hn yR
 by_cases cQ:i<ts.length
 rotate_left
 ·rw [List.drop_eq_nil_of_le (by rw [ab];omega)] at yR
  simp only [countP,Nat.add_zero] at yR
  rw [← yR];refine wB ?_;exact aY R rfl zE ⟨rfl,rfl⟩
 rcases h6 with h6|⟨gl,ol,rfl⟩
 ·omega
 have F5:eh R gl (ol+i*4) (jn.cells (ts[i]'cQ)):=eh.elem hv jn.len (ae cQ);have js:=ht _ (az cQ);have Du:(ts.map (·.1)).drop i=(ts[i]'cQ).1::(ts.map (·.1)).drop (i+1):=by rw [List.drop_eq_getElem_cons (by rw [ab];exact cQ),List.getElem_map]
 generalize ts[i]'cQ=y at *
 obtain ⟨⟨w,sg⟩,up,uq⟩:=y;rw [Du,countP_cons] at yR
 obtain ⟨Lh,V8⟩:=js;dsimp only at yR F5 Lh V8
 refine bG (Lh.cN zE).parts.one fun o4=>?_
 refine bG (Lh.cN zE).path.one fun o5=>?_
 (repeat (refine wA ?_;intros))
 rename_i g4;refine aZ rfl rfl (qz _ e w) ?_;rintro _ _ ⟨rfl,rfl⟩
 by_cases hw:w<4
 rotate_left
 ·rw [aq hw];rw [aB (fun q=>hw q.1)] at yR
  refine wB ?_;exact bi (i+1,n,s) ⟨cQ,by dsimp only;omega,yR⟩ zd zS zE
 rw [ay hw]
 by_cases K3:w∈s
 ·rw [aB (fun q=>q.2.1 K3)] at yR
  rcases (show w=0∨w=1∨w=2∨w=3 by omega) with rfl|rfl|rfl|rfl
  all_goals
   simp only [nK (s:=s),ay K3]
   (repeat' first|refine Y2 ?_|refine Za ?_|apply Zd|apply Ze|apply Zf|refine Zh ?_|refine Zi ?_|refine Zl ?_|refine Zm ?_|refine Zn ?_|refine Zo ?_|refine Zy ?_|refine ZS ?_|refine YA ?_|apply YC|apply YH)
   refine bi (i+1,n,s) ⟨cQ,by dsimp only;omega,yR⟩ zd zS ?_;simp only [nK (s:=s),ay K3];exact zE
 by_cases ND:kF.hJ ⟨w,sg⟩ p c
 ·rw [aH ⟨hw,K3,ND⟩,← Nat.add_assoc] at yR
  rcases (show w=0∨w=1∨w=2∨w=3 by omega) with rfl|rfl|rfl|rfl
  all_goals
   simp only [nK (s:=s),aq K3]
   (repeat' first|refine Y2 ?_|refine Za ?_|refine Zh ?_|refine Zi ?_|refine Zj ?_|refine Zl ?_|refine Zn ?_|refine Zz ?_|fail)
   refine O.gT (us:=[]) (ws:=[]) rfl rfl rfl (lZ _ e vl vw vr up uq p c ⟨_,sg⟩ (hp.cN zE) sq (hr.cN zE) hc (Lh.cN zE)) ?_;rintro _ _ ⟨rfl,rfl⟩;rw [ay ND]
   (repeat' first|refine Y2 ?_|refine Za ?_|refine Zb ?_|apply Zc|apply Zd|apply Ze|apply Zf|refine Zh ?_|refine Zi ?_|refine Zl ?_|refine ZS ?_|refine Yd ?_|refine Yz ?_|apply YH)
   refine bi (i+1,n+1,_::s) ⟨cQ,by dsimp only;omega,yR⟩ zd zS ?_;dsimp only
   first|rw [P1]|rw [P2]|rw [P3]|rw [P4]
   exact zE
 ·rw [aB (fun q=>ND q.2.2)] at yR
  rcases (show w=0∨w=1∨w=2∨w=3 by omega) with rfl|rfl|rfl|rfl
  all_goals
   simp only [nK (s:=s),aq K3]
   (repeat' first|refine Y2 ?_|refine Za ?_|refine Zh ?_|refine Zi ?_|refine Zj ?_|refine Zl ?_|refine Zn ?_|refine Zz ?_|fail)
   refine O.gT (us:=[]) (ws:=[]) rfl rfl rfl (lZ _ e vl vw vr up uq p c ⟨_,sg⟩ (hp.cN zE) sq (hr.cN zE) hc (Lh.cN zE)) ?_;rintro _ _ ⟨rfl,rfl⟩;rw [aq ND];refine wB ?_;refine bi (i+1,n,s) ⟨cQ,by dsimp only;omega,yR⟩ zd zS ?_;simp only [nK (s:=s),aq K3];exact zE
theorem DS (vl vw vr v:Value) (p:jK) (c:iM) (gs:List kF) (hp:j3 R vl vw p) (sq:p.right) (hr:da R vr c.root) (hc:c.right) (hs:oC R v gs) (hl:gs.length≤1000) :
 Ct prog 269 #[.agg (lq p vl vw).toArray,.agg (gX c vr).toArray,v] e R (fun v' L'=>v'=.int .i64 (countP p c gs []:Nat)∧R=L'):=by
 refine a7 (cz hp.log) fun o1=>?_
 refine a7 hp.ey.one fun o2=>?_
 refine a7 (cz hr) fun o3=>?_
 refine a8 (args:=[_,_,_]) func269 rfl ntmps269 results269 rfl ?_
 (repeat (refine wA ?_;intros))
 refine aZ rfl rfl (DR _ e vl vw vr v p c gs (hp.cN zE) sq (hr.cN zE) hc (hs.cN zE) hl) ?_;rintro _ _ ⟨rfl,rfl⟩;refine wB ?_;exact aY R rfl zE ⟨rfl,rfl⟩
theorem I9 (vl vw vr v:Value) (p:jK) (c:iM) (gs:List kF) (hp:j3 R vl vw p) (sq:p.right) (hr:da R vr c.root) (hc:c.right) (hs:oC R v gs) (hl:gs.length≤1000) :
 Ct prog 215 #[.agg (lq p vl vw).toArray,.agg (gX c vr).toArray,v] e R (fun v' L'=>v'=.bool (decide (sZ p c gs))∧R=L'):=by
 refine a7 (cz hp.log) fun o1=>?_
 refine a7 hp.ey.one fun o2=>?_
 refine a7 (cz hr) fun o3=>?_
 refine a8 (args:=[_,_,_]) func215 rfl ntmps215 results215 rfl ?_
 (repeat (refine wA ?_;intros))
 rename_i g1 g2;refine bl (id:=1) [11] (cM g1 (lq p vl vw) 106 (0,0)::cM g2 (gX c vr) 83 (0,0)::R) mixed ?_
 (refine tJ 0 ?_)
 refine tO 1 ?_;refine bg rfl rfl (j4 _ e vl vw p (hp.cN zE) sq) ?_;rintro _ _ ⟨rfl,rfl⟩;refine ⟨fun _=>zE,A.fF zE ?_⟩
 (refine tM 2 ?_;refine du 3 _ rfl (cE.dD rfl zA zX) ?_;refine du 4 _ rfl (cE.dD rfl zA zX) ?_;refine du 5 _ rfl (bw rfl) ?_;refine du 7 _ rfl (bb rfl) ?_;refine du 8 _ rfl (bq rfl zR) ?_)
 refine A.pi 6 rfl rfl zK ?_;refine bg rfl rfl (DS _ e vl vw vr v p c gs (hp.cN zE) sq (hr.cN zE) hc (hs.cN zE) hl) ?_;rintro _ _ ⟨rfl,rfl⟩;refine ⟨fun _=>zE,A.fF zE ?_⟩
 by_cases hm:sZ p c gs
 ·have BP:=hm;unfold sZ at BP
  rw [ay hm]
  (refine du 9 (.bool true) rfl (cE.iX (bU rfl rfl) zy) ?_;refine tk 10 _ rfl (bM rfl rfl) ?_;(refine tO 11 ?_;refine dV (bj rfl) ?_))
  refine bf zK ?_;refine wB ?_;exact aY R rfl zE ⟨rfl,rfl⟩
 ·have BP:=hm;unfold sZ at BP
  rw [aq hm]
  (refine du 9 (.bool false) rfl (cE.no (bU rfl rfl) zn) ?_;refine tk 10 _ rfl (bM rfl rfl) ?_;(refine tO 11 ?_;refine dV (bj rfl) ?_))
  refine bf zK ?_;refine wB ?_;exact aY R rfl zE ⟨rfl,rfl⟩
theorem F6 (l:List UInt8) (hl:l.length≤1000000) :
 Ct prog 200 #[.string (str l)] e R (fun v' L'=>v'=.bool (decide (pc l))∧R=L'):=by
 have kD:=pC l;refine a8 (args:=[_]) func200 rfl ntmps200 results200 rfl ?_
 by_cases h1:1≤l.length
 rotate_left
 ·rw [aq (fun q:pc l=>h1 q.1)];refine wB ?_;exact aY R rfl aX ⟨rfl,rfl⟩
 by_cases h2:l.length≤20
 rotate_left
 ·rw [aq (fun q:pc l=>h2 q.2.1)];refine wB ?_;exact aY R rfl aX ⟨rfl,rfl⟩
 refine wB ?_;refine br (ι:=Nat) (fun i=>[(0,.string (str l)),(13,.int .i64 ((str l).size:Int)),(14,.int .i64 (i:Int))]) (fun _=>R) (fun i=>i≤l.length∧∀ b∈l.take i,97≤b.toNat∧b.toNat≤122) (fun i=>l.length - i) 0 ⟨aG _,fun b hb=>by simp at hb⟩ zS aX ?_;rintro i ⟨hi,eW⟩
 by_cases cQ:i<l.length
 rotate_left
 ·rw [aF zo] at eW
  rw [ay (show pc l from ⟨h1,h2,eW⟩)];refine wB ?_;exact aY R rfl aX ⟨rfl,rfl⟩
 have C0:∃ h:i<(str l).size,(str l)[i].toNat=(l[i]'cQ).toNat:=⟨by omega,rfl⟩
 refine wB ?_;refine O.FD rfl rfl C0 rfl ?_
 by_cases h3:97≤(l[i]'cQ).toNat
 rotate_left
 ·rw [aq (fun q:pc l=>h3 (q.2.2 _ (az cQ)).1)];refine wB ?_;exact aY R rfl aX ⟨rfl,rfl⟩
 refine wB ?_;refine O.FD rfl rfl C0 rfl ?_
 by_cases h4:(l[i]'cQ).toNat≤122
 rotate_left
 ·rw [aq (fun q:pc l=>h4 (q.2.2 _ (az cQ)).2)];refine wB ?_;exact aY R rfl aX ⟨rfl,rfl⟩
 refine wB ?_
 exact bi (i+1) ⟨cQ,fun b hb=>by
  rw [aA cQ] at hb
  rcases aJ.1 hb with hb|hb
  ·exact eW b hb
  ·rw [an.1 hb];exact ⟨h3,h4⟩⟩ zo zS aX
theorem u9 (vf vn:Value) (m:C1) (hf:da R vf m.fw) (hn:da R vn m.notes) (hl:m.name.length≤1000000) :
 Ct prog 115 #[.agg (sW m vf vn).toArray] e R (fun v' L'=>v'=.bool (decide m.right)∧R=L'):=by
 refine a7 (cF.shape hf zo) ?_;rintro ⟨⟨ad,cap,rfl,h3,h4,h5,h6⟩,_⟩;refine a7 (cF.shape hn zo) ?_;rintro ⟨⟨dS,jR,rfl,w3,w4,w5,w6⟩,_⟩;refine a8 (args:=[_]) func115 rfl ntmps115 results115 rfl ?_
 (repeat (refine wA ?_;intros))
 refine aZ rfl rfl (F6 _ e m.name hl) ?_;rintro _ _ ⟨rfl,rfl⟩
 by_cases h1:pc m.name
 rotate_left
 ·rw [aq h1,aq (fun q:m.right=>h1 q.1)];refine wB ?_;exact aY R rfl zE ⟨rfl,rfl⟩
 rw [ay h1]
 by_cases h2:0<m.hJ
 rotate_left
 ·rw [aq (fun q:m.right=>h2 q.2.1)];refine wB ?_;exact aY R rfl zE ⟨rfl,rfl⟩
 by_cases h3:m.fw.length=32
 rotate_left
 ·rw [aq (fun q:m.right=>h3 q.2.2.1)];refine wB ?_;exact aY R rfl zE ⟨rfl,rfl⟩
 by_cases h4:m.notes.length≤64
 rotate_left
 ·rw [aq (fun q:m.right=>h4 q.2.2.2)];refine wB ?_;exact aY R rfl zE ⟨rfl,rfl⟩
 rw [ay (show m.right from ⟨h1,h2,h3,h4⟩)];refine wB ?_;exact aY R rfl zE ⟨rfl,rfl⟩
theorem xI (v:Value) (b:List UInt8) (hv:da R v b) (hb:b.length≤1000000) :
 Ct prog 168 #[v] e R (fun v' L'=>∃ ad c,v'=.slice ad (cZ b).length c∧L'=cR (.slice ad (cZ b).length c) (cZ b)::R):=by
 refine a8 (args:=[_]) func168 rfl ntmps168 results168 rfl ?_;refine wB ?_;refine aZ rfl rfl (qt _ e v b hv zo) ?_;rintro _ _ ⟨ad,c,rfl,rfl⟩;refine wB ?_;exact aY _ rfl aX ⟨ad,c,rfl,rfl⟩
abbrev iR:List Value:=[.string (str []),.int .u32 0,nY,nY]
def Li (m:C1) (v:Value) (_:Nat→Value):List cK:=match v with|.agg #[_,_,vf,vn]=>[cR vf m.fw,cR vn m.notes]|_=>[]
theorem kv (v:Value) (b:List UInt8) (hv:da R v b) (hb:b.length≤1000000) :
 Ct prog 51 #[v] e R (fun v' L'=>(jm b→∃ (M:cK) (vf vn:Value),v'=.tuple #[.agg (sW (dB b) vf vn).toArray,.int .i64 0]∧da [M] vf (dB b).fw∧da [M] vn (dB b).notes∧L'=M::R)∧(¬ jm b→v'=.tuple #[.agg iR.toArray,.int .i64 12]∧L'=R)):=by
 refine bI (args:=[_]) func51 rfl ntmps51 results51 rfl ?_
 (repeat (refine wA ?_;intros))
 rename_i g2;refine aZ rfl rfl (jz _ e v b hv.tail zo) ?_;rintro _ _ ⟨gr,rfl,rfl⟩;refine wB ?_;refine aZ rfl rfl (xk _ e gr (FY b)) ?_;rintro _ _ ⟨rfl,rfl⟩;refine wB ?_;have qL:(xD b).left.length≤1000000:=Nat.le_trans (eY.jc _ _) hb;have qs:(DM b).left.length≤1000000:=Nat.le_trans (eY.jc _ _) (Nat.le_trans (eY.jc _ _) qL);have ON:(DN b).left.length≤1000000:=Nat.le_trans (eY.jc _ _) qs;have MU:(DO b).left.length≤1000000:=Nat.le_trans (eY.jc _ _) ON;refine W.ir [(2,pt g2),(3,.int .i64 0),(4,pt gr),(5,.int .u8 ((FY b).num 1:Nat))] zS ?_;refine bl (id:=3) [11] (cM g2 iR 67 (0,0)::R) mixed ?_;refine tM 3 ?_;refine tM 5 ?_;refine tM 7 ?_;refine tM 0 ?_;refine A.SX (n:=1) (S1 0 11 0 (pt gr) [Reader gr (xD b)]) _ (L0:=cM g2 iR 67 (0,0)::R) [
  ⟨1,12,[0],[0],fun v _=>∃ ad c,v=.slice ad (dB b).name.length c,[(1,fun _ _=>[Reader gr (DM b)]),(2,fun v _=>[cR v (dB b).name])]⟩,
  ⟨2,13,[1],[2],fun v _=>v=.string (str (dB b).name),[]⟩,
  ⟨4,15,[1],[1],fun v _=>v=.int .u32 ((dB b).hJ:Int),[(3,fun _ _=>[Reader gr (DN b)])]⟩,
  ⟨6,17,[4],[3],fun v _=>∃ ad c,v=.slice ad (dB b).fw.length c,[(4,fun _ _=>[Reader gr (DO b)]),(5,fun v _=>[cR v (dB b).fw])]⟩,
  ⟨8,19,[6],[4],fun v _=>∃ ad c,v=.slice ad (dB b).notes.length c,[(6,fun _ _=>[Reader gr (rL b)]),(7,fun v _=>[cR v (dB b).notes])]⟩,
  ⟨9,20,[2,4,6,8],[5,7],fun v _=>∃ ad c dS c2,v=.agg (sW (dB b) (.slice ad (dB b).fw.length c) (.slice dS (dB b).notes.length c2)).toArray,[(9,Li (dB b))]⟩,
  Ld 10 6 8 67 iR] 7 rfl rfl zK zK zK rfl ?_ rfl zE ?_
 ·refine dt ?_ (dt ?_ (dt ?_ (dt ?_ (dt ?_ (dt ?_ (dt ?_ pX))))))
  ·refine ⟨_,rfl,.inl rfl,fun V σr M h3 hy=>?_⟩;obtain ⟨s,E8⟩:=hy _ (ax (i:=0) rfl) (ax (i:=0) rfl) (fE rfl);dsimp only at s E8
   rw [E8] at s
   refine bV (show cC _ (Reader gr (xD b)::(M++(cM g2 iR 67 (0,0)::R))) from aX) ?_;refine bg (xs:=[.tmp 11,.const (.int .i64 20)]) (vs:=[pt gr,.int .i64 20]) (by simp [py,ev,s]) rfl (pM _ e gr (xD b) 20 zo) ?_;rintro _ _ ⟨ad,c,rfl,rfl⟩;exact ⟨_,rfl,⟨ad,c,rfl⟩,bz (.succ .zero) (bh aX)⟩
  ·refine ⟨_,rfl,.inl rfl,fun V σr M h3 hy=>?_⟩;obtain ⟨s,E8⟩:=hy _ (ax (i:=1) rfl) (ax (i:=0) rfl) (fE rfl);dsimp only at s E8
   refine bV (show cC _ (cR (V 1) (dB b).name::(M++(cM g2 iR 67 (0,0)::R))) from aX) ?_;exact bP (v:=.string (str (dB b).name)) (cE.bytes s (ba .zero)) rfl ⟨_,rfl,rfl,cC.drop aX⟩
  ·refine ⟨_,rfl,.inl rfl,fun V σr M h3 hy=>?_⟩;refine bV (show cC _ (Reader gr (DM b)::(M++(cM g2 iR 67 (0,0)::R))) from aX) ?_;refine bg (Nu (h3 14 _ rfl)) rfl (qv _ e gr (DM b)) ?_;rintro _ _ ⟨rfl,rfl⟩;exact ⟨_,rfl,rfl,aX⟩
  ·refine ⟨_,rfl,.inl rfl,fun V σr M h3 hy=>?_⟩;have s:=h3 16 _ rfl;refine bV (show cC _ (Reader gr (DN b)::(M++(cM g2 iR 67 (0,0)::R))) from aX) ?_;refine bg (xs:=[.tmp 16,.const (.int .i64 32)]) (vs:=[pt gr,.int .i64 32]) (by simp [py,ev,s]) rfl (nI _ e gr (DN b) 32 zo) ?_;rintro _ _ ⟨ad,c,rfl,rfl⟩;exact ⟨_,rfl,⟨ad,c,rfl⟩,bz (.succ .zero) (bh aX)⟩
  ·refine ⟨_,rfl,.inl rfl,fun V σr M h3 hy=>?_⟩;have s:=h3 18 _ rfl;refine bV (show cC _ (Reader gr (DO b)::(M++(cM g2 iR 67 (0,0)::R))) from aX) ?_;refine bg (xs:=[.tmp 18,.const (.int .i64 64)]) (vs:=[pt gr,.int .i64 64]) (by simp [py,ev,s]) rfl (pM _ e gr (DO b) 64 zo) ?_;rintro _ _ ⟨ad,c,rfl,rfl⟩;exact ⟨_,rfl,⟨ad,c,rfl⟩,bz (.succ .zero) (bh aX)⟩
  ·refine ⟨_,rfl,.inl rfl,fun V σr M h3 hy=>?_⟩;obtain ⟨s2,Kq⟩:=hy _ (ax (i:=2) rfl) (ax (i:=0) rfl) (fE rfl);obtain ⟨s4,P5⟩:=hy _ (ax (i:=3) rfl) (ax (i:=1) rfl) (fE rfl);obtain ⟨s6,ad,c,HJ⟩:=hy _ (ax (i:=4) rfl) (ax (i:=2) rfl) (fE rfl);obtain ⟨s8,dS,c2,Rx⟩:=hy _ (ax (i:=5) rfl) (ax (i:=3) rfl) (fE rfl);dsimp only at s2 Kq s4 P5 s6 HJ s8 Rx
   refine bV (show cC _ (cR (V 6) (dB b).fw::cR (V 8) (dB b).notes::(M++(cM g2 iR 67 (0,0)::R))) from aX) ?_;rw [Kq] at s2
   rw [P5] at s4
   rw [HJ] at s6 ⊢
   rw [Rx] at s8 ⊢
   refine bP (v:=.agg (sW (dB b) (.slice ad (dB b).fw.length c) (.slice dS (dB b).notes.length c2)).toArray) (bL (parts:=[(0,.tmp 13),(1,.tmp 15),(2,.tmp 17),(3,.tmp 19)]) (vs:=[(0,.string (str (dB b).name)),(1,.int .u32 ((dB b).hJ:Int)),(2,.slice ad (dB b).fw.length c),(3,.slice dS (dB b).notes.length c2)]) (by simp [tP,ev,s2,s4,s6,s8]) (by simp [Instr.fill,Value.cells])) rfl ⟨_,rfl,⟨ad,c,dS,c2,rfl⟩,aX⟩
  ·exact BR rfl (.inl rfl) rfl rfl rfl
 intro V hV;obtain ⟨ad,c,dS,c2,v9⟩:=hV _ (ax (i:=6) rfl);obtain ⟨gm,v10⟩:=hV _ (ax (i:=7) rfl);clear hV;dsimp only at v9 v10
 refine A.fo (show cC _ ((Reader gr (rL b)::(Li (dB b) (V 9) V++(BQ iR 67 (V 10) V++[])))++(cM g2 iR 67 (0,0)::R)) from aX) ?_;rw [v9,v10];refine A.fo (show cC _ (Reader gr (rL b)::cR (.slice ad (dB b).fw.length c) (dB b).fw::cR (.slice dS (dB b).notes.length c2) (dB b).notes::cM gm iR 67 (0,0)::cM g2 iR 67 (0,0)::R) from aX) ?_;simp only [kR,Nat.reduceLT,if_true,List.cons_append,List.nil_append];rw [v9,v10]
 ((refine tO 11 ?_;refine zg ?_;refine ⟨zN,?_⟩))
 refine bf zK ?_
 by_cases h1:(FY b).num 1=77
 rotate_left
 ·have lF:¬ jm b:=fun q=>h1 q.1
  refine wB ?_;apply bB
  ·exact zV
  exact ⟨R,zE,fun q=>absurd q lF,fun _=>⟨rfl,rfl⟩⟩
 rw [h1];refine wB ?_;refine aZ rfl rfl (Av _ e gr (rL b)) ?_;rintro _ _ ⟨rfl,rfl⟩
 by_cases h2:(rL b).bad=false∧(rL b).left=[]
 rotate_left
 ·have lF:¬ jm b:=fun q=>h2 q.2.1
  rw [show (!(rL b).bad && decide ((rL b).left=[]))=false by
   cases hb:(rL b).bad with
   | true=>rfl
   | false=>rw [aq (fun q=>h2 ⟨hb,q⟩)];rfl]
  refine wB ?_;apply bB
  ·exact zV
  exact ⟨R,zE,fun q=>absurd q lF,fun _=>⟨rfl,rfl⟩⟩
 rw [show (!(rL b).bad && decide ((rL b).left=[]))=true by rw [h2.1,ay h2.2];rfl];refine wB ?_;refine aZ rfl rfl (u9 _ e _ _ (dB b) (ba zP) (ba zP) (by have:=eY.take_length ((xD b).next 2) ((xD b).len 20);have h3:=eY.jc (xD b) 2;unfold dB eY.bytes;dsimp only;omega)) ?_;rintro _ _ ⟨rfl,rfl⟩
 by_cases h3:(dB b).right
 rotate_left
 ·have lF:¬ jm b:=fun q=>h3 q.2.2
  rw [aq h3];refine wB ?_;apply bB
  ·exact zV
  exact ⟨R,zE,fun q=>absurd q lF,fun _=>⟨rfl,rfl⟩⟩
 rw [ay h3];refine wB ?_;apply bB
 ·exact zV
 exact ⟨dI [cR (.slice ad (dB b).fw.length c) (dB b).fw,cR (.slice dS (dB b).notes.length c2) (dB b).notes]::R,cn (show cC _ (cR (.slice ad (dB b).fw.length c) (dB b).fw::cR (.slice dS (dB b).notes.length c2) (dB b).notes::R) from zE) (dN (M:=[_,_])),fun _=>⟨_,_,_,rfl,wy (ba .zero),wy (ba (.succ .zero)),rfl⟩,fun q=>absurd ⟨h1,h2,h3⟩ q⟩
end Go.Proofs
namespace Go.Bs
theorem Lj (l:List UInt8) (i:Nat):(str l).extract 0 i=str (l.take i):=by
 apply ByteArray.ext
 simp [str,ByteArray.data_extract]
theorem cE.P6 {P:Program} {N:Fr} {ty:TypeId} {σ:Env} {e:World} {L:List cK} {x y:Operand} {t:TypeId} {l:List UInt8} {i:Nat} {k:IntKind} [q:su P t] (h:ev σ x=some (.string (str l))) (h1:ev σ y=some (.int k (i:Int))) (hi:i≤l.length) :
 cE P N (.slice t x none (some y) none) ty (.string (str (l.take i))) σ e L:=fun a w ha _ _ _ _ _=>by
 have hs:=pC l;simp only [execOp,ha.ev h,ha.ev h1,Option.map_none,Option.map_some]
 simp [Instr.sliceAt,Instr.slice,run_underlying q.kN,Instr.sliceBounds,Instr.sliceBound,asIntOf,hs,hi]
 exact Lj l i
end Go.Bs
namespace Go.Proofs
open Go.Bs
attribute [local irreducible] Bs.cE Bs.Do Bs.O Bs.W Bs.Fin Bs.A Bs.Ct Bs.cF Bs.Rd Bs.Sat Bs.cM Bs.Ob Bs.dJ Bs.View Bs.cC Bs.Ex Bs.dI Bs.Pu Bs.eZ Bs.dK Bs.eh
theorem rb (R:List cK) (e:World) (ad:Option Addr) (c:Nat) (b x:List UInt8) (v:Value) (hv:da R v x) (hx:x.length≤65535) (hl:b.length≤1000000) :
 Ct Tryz.prog 147 #[.slice ad b.length c,v] e (cR (.slice ad b.length c) b::R) (fun v' L'=>∃ ad c,v'=.slice ad (b++enc x).length c∧L'=cR (.slice ad (b++enc x).length c) (b++enc x)::R):=by
 refine a7 (cF.shape (cF.tail hv) zo) ?_;rintro ⟨⟨pZ,cx,rfl,h3,h4,h5,h6⟩,_⟩;refine a8 (args:=[_,_]) Tryz.func147 rfl Tryz.ntmps147 Tryz.results147 rfl ?_
 (repeat (refine wA ?_;intros))
 have e1:[Value.int .u8 (IntKind.u8.wrap ((x.length:Int).fdiv (2 ^ min (8:Int).toNat IntKind.i64.bits))),.int .u8 (IntKind.u8.wrap (x.length:Int))]=(be x.length 2).map u8:=by
  have a3:=jO x.length 8 64 zo;have b:=xl x.length
  show [Value.int .u8 (IntKind.u8.wrap ((x.length:Int).fdiv (2 ^ min 8 64))),.int .u8 (IntKind.u8.wrap (x.length:Int))]=_
  rw [a3,b]
  simp [be,u8]
 rw [e1];refine bD (bm rfl rfl rfl (.succ .zero) (bu .zero (by rw [ab,cY]) zl) rfl rfl jS zm zo fun dS c2 _=>?_)
 (repeat (refine wA ?_;intros))
 refine bD (bm rfl rfl rfl .zero (hv.cN zE) rfl rfl jS zm zo fun ep c3 _=>?_)
 refine wB ?_;have e2:(b++enc x).length=b.length+2+x.length:=by rw [aa,iw];omega
 refine aY (cR (.slice ep (b++enc x).length c3) (b++enc x)::R) rfl ?_ ⟨ep,c3,by rw [e2];rfl,rfl⟩;unfold cR;rw [e2];unfold enc;rw [ah,ah,← aM];exact zE
theorem BV (R:List cK) (e:World) (vf vn:Value) (m:C1) (hf:da R vf m.fw) (hn:da R vn m.notes) (hr:m.right) (hv:m.hJ<4294967296) :
 Ct Tryz.prog 71 #[.agg (sW m vf vn).toArray] e R (fun v' L'=>∃ ad c,v'=.slice ad (lX m).length c∧L'=cR (.slice ad (lX m).length c) (lX m)::R):=by
 obtain ⟨q1,q2,q3,q4⟩:=id hr;have q5:=q1.2.1;refine a7 (cz hf) fun o1=>?_
 refine a7 (cz hn) fun o2=>?_
 refine a8 (args:=[_]) Tryz.func71 rfl Tryz.ntmps71 Tryz.results71 rfl ?_
 (repeat (refine wA ?_;intros))
 rename_i g1;refine bl (id:=1) [8] (cM g1 (sW m vf vn) 67 (0,0)::R) Tryz.mixed ?_
 (refine tF 1 ?_;refine tL 2 ?_)
 refine tF 5 ?_;refine tL 6 ?_;refine A.Nz (n:=3) [Le 0 4 0 na ([77].map u8),FX 3 7 1 m.name] 2 rfl zK zK ?_ zE ?_
 ·refine dt ?_ (dt ?_ pX)
  ·exact BS (z:=.int .u8 0) (parts:=[(0,.const (.int .u8 77))]) rfl (.inl rfl) rfl rfl (fun σr h=>rfl) rfl rfl zQ rfl rfl
  ·exact I5 rfl (.inl rfl) rfl rfl (fun σr h=>h _ _ rfl) zm
 intro V hV;obtain ⟨g4,v0⟩:=hV _ (ax (i:=0) rfl);obtain ⟨ep,c3,v3⟩:=hV _ (ax (i:=1) rfl);clear hV;dsimp only at v0 v3
 refine A.fo (show cC _ ((sT na ([77].map u8) (V 0) V++([View 1 (V 3) m.name.length (m.name.map u8)]++[]))++(cM g1 (sW m vf vn) 67 (0,0)::R)) from aX) ?_;simp only [kR,Nat.reduceLT,if_true,List.cons_append,List.nil_append];rw [v0,v3];refine A.fo (show cC _ (cR (.slice (some ⟨g4,0,none⟩) [(77:UInt8)].length 1) [77]::View 1 (.slice ep m.name.length c3) m.name.length (m.name.map u8)::cM g1 (sW m vf vn) 67 (0,0)::R) from ?_) ?_
 ·exact fW (E:=na) (n:=1) (k:=1) (g:=g4) (cap:=1) (cur:=[u8 77]) zo zl (by simp)
 refine tO 4 ?_;refine bg rfl rfl (rb _ e (some ⟨g4,0,none⟩) 1 [77] m.name (.slice ep m.name.length c3) (cF.view .zero) zo (by decide)) ?_;rintro _ _ ⟨gZ,c4,rfl,rfl⟩;refine ⟨fun _=>zE,?_⟩;have en:=iw m.name;have e7:(([77]:List UInt8)++enc m.name).length≤30:=by rw [aa,en];simp only [aR,List.length_nil];omega
 generalize DT:([77]:List UInt8)++enc m.name=b1 at *
 refine tO 7 ?_;refine bg rfl rfl (u0 _ e gZ c4 b1 m.hJ hv zo) ?_;rintro _ _ ⟨Kp,c5,rfl,rfl⟩;refine ⟨fun _=>zE,?_⟩
 ((refine tO 8 ?_;refine dV (bj rfl) ?_))
 refine bf zK ?_;have eb:(b1++be m.hJ 4).length≤40:=by rw [aa,cY];omega
 generalize NE:b1++be m.hJ 4=b2 at *
 refine wB ?_;refine bl (id:=2) [7] (cM g1 (sW m vf vn) 67 (0,0)::R) Tryz.mixed ?_
 (refine tM 0 ?_;refine tF 1 ?_;refine tL 2 ?_;refine tF 4 ?_;refine tL 5 ?_)
 refine tO 3 ?_;refine bm rfl rfl rfl zP (hf.cN zE) rfl rfl jS zm zo fun Fz c6 _=>?_
 refine ⟨fun _=>zE,?_⟩;refine A.fo (show cC _ (cR (.slice Fz (b2++m.fw).length c6) (b2++m.fw)::cM g1 (sW m vf vn) 67 (0,0)::R) from ?_) ?_
 ·unfold cR;rw [aa,ah];exact zE
 have e9:(b2++m.fw).length=b2.length+32:=by rw [aa,q3]
 rw [show Value.slice Fz (b2.length+m.fw.length) c6=.slice Fz (b2++m.fw).length c6 by rw [aa]];refine tO 6 ?_;refine bg rfl rfl (rb _ e Fz c6 (b2++m.fw) m.notes vn (hn.cN zE) zo zo) ?_;rintro _ _ ⟨OL,c7,rfl,rfl⟩;refine ⟨fun _=>zE,?_⟩
 ((refine tO 7 ?_;refine dV (bj rfl) ?_))
 refine bf zK ?_
 have kE:b2++m.fw++enc m.notes=lX m:=by
  rw [← NE,← DT];unfold lX
  simp
 rw [kE];refine wB ?_;exact aY (cR (.slice OL (lX m).length c7) (lX m)::R) rfl zE ⟨OL,c7,rfl,rfl⟩
def p0 (n:Int):UInt8:=UInt8.ofNat (n % 256).toNat
theorem rN (n:Int):Value.int .u8 (IntKind.u8.wrap n)=u8 (p0 n):=by
 unfold u8 p0;rw [UInt8.toNat_ofNat',Nat.mod_eq_of_lt (by have:=Int.emod_lt_of_pos n (show (0:Int)<256 by omega);omega),Int.toNat_of_nonneg (Int.emod_nonneg n zo)];unfold IntKind.wrap
 simp [IntKind.bits,IntKind.signed]
def vh (n:Int):List UInt8:=ez 98 [[p0 (within n 0 100000)]]
def xJ (n:Int):List UInt8:=ez 99 [[p0 ((within n 0 1000).tmod 5)]]
theorem F7 (R:List cK) (e:World) (n:Int) (hn:-9223372036854775808≤n∧n≤9223372036854775807) :
 Ct Tryz.prog 94 #[.int .i64 n] e R (fun v' L'=>∃ ad c,v'=.slice ad (vh n).length c∧L'=cR (.slice ad (vh n).length c) (vh n)::R):=by
 refine a8 (args:=[_]) Tryz.func94 rfl Tryz.ntmps94 Tryz.results94 rfl ?_;refine wB ?_;refine aZ rfl rfl (fC _ e n 0 100000 hn zo) ?_;rintro _ _ ⟨rfl,rfl⟩
 (repeat (refine wA ?_;intros))
 rw [rN]
 (repeat (refine wA ?_;intros))
 rename_i g1 g2
 refine aZ rfl rfl (fa _ e 98 _ [(.slice (some ⟨g1,0,none⟩) 1 1,[p0 (within n 0 100000)])] (bu .zero rfl zl) (fun a ha=>by
  rw [an.1 ha]
  exact bu (.succ .zero) rfl zl) (fun a ha=>by
  rw [an.1 ha]
  show 1≤1000000
  decide) (by simp)) ?_
 rintro _ _ ⟨ad,c,rfl,rfl⟩;rw [show ez 98 ([((.slice (some ⟨g1,0,none⟩) 1 1:Value),[p0 (within n 0 100000)])].map (·.2))=vh n from rfl]
 generalize vh n=x
 refine wB ?_;exact aY (cR (.slice ad x.length c) x::R) rfl zE ⟨ad,c,rfl,rfl⟩
theorem F8 (R:List cK) (e:World) (n:Int) (hn:-9223372036854775808≤n∧n≤9223372036854775807) :
 Ct Tryz.prog 13 #[.int .i64 n] e R (fun v' L'=>∃ ad c,v'=.slice ad (xJ n).length c∧L'=cR (.slice ad (xJ n).length c) (xJ n)::R):=by
 refine a8 (args:=[_]) Tryz.func13 rfl Tryz.ntmps13 Tryz.results13 rfl ?_;refine wB ?_;refine aZ rfl rfl (fC _ e n 0 1000 hn zo) ?_;rintro _ _ ⟨rfl,rfl⟩
 (repeat (refine wA ?_;intros))
 rw [rN]
 (repeat (refine wA ?_;intros))
 rename_i g1 g2
 refine aZ rfl rfl (fa _ e 99 _ [(.slice (some ⟨g1,0,none⟩) 1 1,[p0 ((within n 0 1000).tmod 5)])] (bu .zero rfl zl) (fun a ha=>by
  rw [an.1 ha]
  exact bu (.succ .zero) rfl zl) (fun a ha=>by
  rw [an.1 ha]
  show 1≤1000000
  decide) (by simp)) ?_
 rintro _ _ ⟨ad,c,rfl,rfl⟩;rw [show ez 99 ([((.slice (some ⟨g1,0,none⟩) 1 1:Value),[p0 ((within n 0 1000).tmod 5)])].map (·.2))=xJ n from rfl]
 generalize xJ n=x
 refine wB ?_;exact aY (cR (.slice ad x.length c) x::R) rfl zE ⟨ad,c,rfl,rfl⟩
theorem BW (n:Int):(vh n).length=32:=de _ _
theorem BX (n:Int):(xJ n).length=32:=de _ _
def P7:List (List UInt8):=[[112,117,109,112],[118,97,108,118,101],[97],[103,97,117,103,101,111,102,116,104,101,108,111,110,103,101,115,116,110,97,109]]
def mB (n v f:Int):C1:=⟨P7.getD ((within n 0 1000).tmod 4).toNat [],(1+(within v 0 100000).tmod 9).toNat,vh (f.tmod 4),[p0 f]⟩
theorem oE (n v f:Int):(mB n v f).right∧(mB n v f).hJ<4294967296:=by
 have h1:=eQ n 0 1000 zo;have h2:=eQ v 0 100000 zo;have h3:=Int.tmod_lt_of_pos (within n 0 1000) (show (0:Int)<4 by omega);have h4:=Int.tmod_nonneg 4 h1.1;have h5:=Int.tmod_lt_of_pos (within v 0 100000) (show (0:Int)<9 by omega);have h6:=Int.tmod_nonneg 9 h2.1;refine ⟨⟨?_,?_,BW _,?_⟩,?_⟩
 ·unfold mB;dsimp only
  generalize ((within n 0 1000).tmod 4)=k at *
  rcases (show k=0∨k=1∨k=2∨k=3 by omega) with rfl|rfl|rfl|rfl<;>decide
 ·unfold mB;dsimp only;omega
 ·unfold mB;simp
 ·unfold mB;dsimp only;omega
def xK (n v f:Int):List UInt8:=lX (mB n v f)
abbrev wz:List Value:=[.string (str [112,117,109,112]),.string (str [118,97,108,118,101]),.string (str [97]),.string (str [103,97,117,103,101,111,102,116,104,101,108,111,110,103,101,115,116,110,97,109])]
def DU (v:Value) (_:Nat→Value):List cK:=match v with|.pointer (some ⟨g,_,_⟩)=>[cM g wz 9 (0,0)]|_=>[]
def HK (m:C1) (v:Value) (_:Nat→Value):List cK:=match v with|.agg #[_,_,vf,.slice (some ⟨g,_,_⟩) _ _]=>[cR vf m.fw,cM g (m.notes.map u8) na (0,0)]|_=>[]
theorem Ja (R:List cK) (e:World) (n v f:Int) (hn:-9223372036854775808≤n∧n≤9223372036854775807) (hv:-9223372036854775808≤v∧v≤9223372036854775807) (hf:-9223372036854775808≤f∧f≤9223372036854775807) :
 Ct Tryz.prog 32 #[.int .i64 n,.int .i64 v,.int .i64 f] e R (fun v' L'=>∃ (M:cK) (vf vn:Value),v'=.agg (sW (mB n v f) vf vn).toArray∧da [M] vf (mB n v f).fw∧da [M] vn (mB n v f).notes∧L'=M::R):=by
 have h1:=eQ n 0 1000 zo;have h2:=eQ v 0 100000 zo;have h3:=Int.tmod_lt_of_pos (within n 0 1000) (show (0:Int)<4 by omega);have h4:=Int.tmod_nonneg 4 h1.1;have h5:=Int.tmod_lt_of_pos (within v 0 100000) (show (0:Int)<9 by omega);have h6:=Int.tmod_nonneg 9 h2.1;have h7:=Int.tmod_lt_of_pos f (show (0:Int)<4 by omega)
 have h8:-4<f.tmod 4:=by
  rcases Int.le_total 0 f with h0|h0
  ·have:=Int.tmod_nonneg 4 h0;omega
  ·have h3:=Int.tmod_lt_of_pos (-f) (show 0<(4:Int) by omega);rw [Int.neg_tmod] at h3;omega
 refine bI (args:=[_,_,_]) Tryz.func32 rfl Tryz.ntmps32 Tryz.results32 rfl ?_
 (repeat (refine wA ?_;intros))
 rename_i g2;refine bl (id:=1) [19] (cM g2 iR 67 (0,0)::R) Tryz.mixed ?_;refine tk 0 _ rfl (cE.P6 (i:=20) (l:=[103,97,117,103,101,111,102,116,104,101,108,111,110,103,101,115,116,110,97,109,101]) rfl rfl (by decide)) ?_;refine tM 2 ?_;refine tM 7 ?_;refine tM 12 ?_
 (refine tk 13 _ rfl (cE.rem rfl rfl zo) ?_;refine tM 15 ?_;refine tk 16 _ rfl (cE.jv rfl) ?_)
 rw [rN];obtain ⟨k,hk⟩:∃ k:Nat,(within n 0 1000).tmod 4=(k:Int):=⟨((within n 0 1000).tmod 4).toNat,by omega⟩
 have hk4:k<4:=by omega
 have NF:∃ s,wz[k]?=some (.string (str s))∧s=(mB n v f).name:=by
  unfold mB;rw [hk,Int.toNat_natCast];rcases (show k=0∨k=1∨k=2∨k=3 by omega) with rfl|rfl|rfl|rfl<;>exact ⟨_,rfl,rfl⟩
 obtain ⟨nm,NF,V9⟩:=NF;have pk:1+(within v 0 100000).tmod 9=(((mB n v f).hJ:Nat):Int):=by unfold mB;dsimp only;omega
 have Yn:=(oE n v f).2;have UE:vh (f.tmod 4)=(mB n v f).fw:=rfl;have lF:[p0 f]=(mB n v f).notes:=rfl;have P8:(mB n v f).notes.length=1:=rfl
 generalize mB n v f=m at *
 refine A.Nz (n:=1) [
  Le 1 8 0 9 wz,
  sU 3 10 [] (.int .i64 (within n 0 1000)),
  sU 4 11 [3] (.int .i64 (k:Int)),
  ⟨5,12,[1,4],[0],fun v _=>∃ g,v=.pointer (some ⟨g,k,none⟩),[(1,DU)]⟩,
  ⟨6,13,[5],[1],fun v _=>v=.string (str m.name),[]⟩,
  sU 8 15 [] (.int .i64 (within v 0 100000)),
  sU 9 16 [8] (.int .i64 ((within v 0 100000).tmod 9)),
  sU 10 17 [9] (.int .i64 ((m.hJ:Nat):Int)),
  sU 11 18 [10] (.int .u32 ((m.hJ:Nat):Int)),
  ⟨14,21,[],[],fun v _=>∃ ad c,v=.slice ad m.fw.length c,[(2,fun v _=>[cR v m.fw])]⟩,
  Le 17 24 3 na (m.notes.map u8),
  ⟨18,25,[6,11,14,17],[2,3],fun v _=>∃ ad c g,v=.agg (sW m (.slice ad m.fw.length c) (.slice (some ⟨g,0,none⟩) 1 1)).toArray,[(4,HK m)]⟩] 12 rfl zK zK ?_ zE ?_
 ·refine dt ?_ (dt ?_ (dt ?_ (dt ?_ (dt ?_ (dt ?_ (dt ?_ (dt ?_ (dt ?_ (dt ?_ (dt ?_ (dt ?_ pX)))))))))))
  ·refine BS (z:=.string (str [])) (len:=4) (parts:=[(0,.const (.string (str [112,117,109,112]))),(1,.const (.string (str [118,97,108,118,101]))),(2,.const (.string (str [97]))),(3,.tmp 7)]) (vs:=[(0,.string (str [112,117,109,112])),(1,.string (str [118,97,108,118,101])),(2,.string (str [97])),(3,.string (str [103,97,117,103,101,111,102,116,104,101,108,111,110,103,101,115,116,110,97,109]))]) rfl (.inl rfl) rfl rfl (fun σr h=>?_) rfl rfl zQ rfl rfl;have s:=h 7 _ rfl;simp only [tP,ev,s]
   rfl
  ·refine ⟨_,rfl,.inl rfl,fun V σr M h3 hy=>?_⟩;have s:=h3 9 _ rfl;refine bV (show cC _ (M++(cM g2 iR 67 (0,0)::R)) from aX) ?_;refine bg (xs:=[.tmp 9,.const (.int .i64 0),.const (.int .i64 1000)]) (vs:=[.int .i64 n,.int .i64 0,.int .i64 1000]) (by simp [py,ev,s]) rfl (fC _ e n 0 1000 hn zo) ?_;rintro _ _ ⟨rfl,rfl⟩;exact ⟨_,rfl,rfl,aX⟩
  ·refine pW rfl (.inl rfl) rfl rfl fun V σr L yS hy _=>?_
   obtain ⟨s,E8⟩:=hy _ (ax (i:=1) rfl) (ax (i:=0) rfl) (fE rfl);dsimp only at s E8
   rw [E8] at s
   rw [← hk];exact cE.rem s rfl (by decide)
  ·refine ⟨_,rfl,.inl rfl,fun V σr M yS hy=>?_⟩;obtain ⟨s1,g,Rr⟩:=hy _ (ax (i:=0) rfl) (ax (i:=0) rfl) (fE rfl);obtain ⟨s4,P5⟩:=hy _ (ax (i:=2) rfl) (ax (i:=1) rfl) (fE rfl);dsimp only at s1 Rr s4 P5
   refine bV (show cC _ ((sT 9 wz (V 1) V++[])++(M++(cM g2 iR 67 (0,0)::R))) from aX) ?_;rw [Rr] at s1 ⊢
   rw [P5] at s4
   exact bP (cE.fp s1 s4 (by show k<4;omega)) rfl ⟨_,rfl,⟨g,by simp⟩,aX⟩
  ·refine ⟨_,rfl,.inl rfl,fun V σr M yS hy=>?_⟩;obtain ⟨s5,g,OY⟩:=hy _ (ax (i:=3) rfl) (ax (i:=0) rfl) (fE rfl);dsimp only at s5 OY
   refine bV (show cC _ ((DU (V 5) V++[])++(M++(cM g2 iR 67 (0,0)::R))) from aX) ?_;rw [OY] at s5 ⊢
   exact bP (bq s5 (by rw [← V9];exact bR .zero (by rw [hF];exact NF))) rfl ⟨_,rfl,rfl,cC.drop aX⟩
  ·refine ⟨_,rfl,.inl rfl,fun V σr M yS hy=>?_⟩;have s:=yS 14 _ rfl;refine bV (show cC _ (M++(cM g2 iR 67 (0,0)::R)) from aX) ?_;refine bg (xs:=[.tmp 14,.const (.int .i64 0),.const (.int .i64 100000)]) (vs:=[.int .i64 v,.int .i64 0,.int .i64 100000]) (by simp [py,ev,s]) rfl (fC _ e v 0 100000 hv zo) ?_;rintro _ _ ⟨rfl,rfl⟩;exact ⟨_,rfl,rfl,aX⟩
  ·refine pW rfl (.inl rfl) rfl rfl fun V σr L yS hy _=>?_
   obtain ⟨s,E8⟩:=hy _ (ax (i:=5) rfl) (ax (i:=0) rfl) (fE rfl);dsimp only at s E8
   rw [E8] at s
   exact cE.rem s rfl (by decide)
  ·refine pW rfl (.inl rfl) rfl rfl fun V σr L yS hy _=>?_
   obtain ⟨s,E8⟩:=hy _ (ax (i:=6) rfl) (ax (i:=0) rfl) (fE rfl);dsimp only at s E8
   rw [E8] at s
   rw [← pk];exact cE.la rfl s zo
  ·refine pW rfl (.inl rfl) rfl rfl fun V σr L yS hy _=>?_
   obtain ⟨s,E8⟩:=hy _ (ax (i:=7) rfl) (ax (i:=0) rfl) (fE rfl);dsimp only at s E8
   rw [E8] at s
   exact cE.nD s (wrap_u32 zo zo)
  ·refine ⟨_,rfl,.inl rfl,fun V σr M yS hy=>?_⟩;refine bV (show cC _ (M++(cM g2 iR 67 (0,0)::R)) from aX) ?_;have hk:=F7 (M++(cM g2 iR 67 (0,0)::R)) e (f.tmod 4) zo;rw [UE] at hk
   refine bg (Nu (yS 20 _ rfl)) rfl hk ?_;rintro _ _ ⟨ad,c,rfl,rfl⟩;exact ⟨_,rfl,⟨ad,c,rfl⟩,aX⟩
  ·rw [← lF];refine BS (z:=.int .u8 0) (len:=1) (parts:=[(0,.tmp 23)]) (vs:=[(0,u8 (p0 f))]) rfl (.inl rfl) rfl rfl (fun σr h=>?_) rfl rfl zQ rfl rfl;have s:=h 23 _ rfl;simp only [tP,ev,s]
  ·refine ⟨_,rfl,.inl rfl,fun V σr M yS hy=>?_⟩;obtain ⟨s6,HJ⟩:=hy _ (ax (i:=4) rfl) (ax (i:=0) rfl) (fE rfl);obtain ⟨Lk,Jb⟩:=hy _ (ax (i:=8) rfl) (ax (i:=1) rfl) (fE rfl);obtain ⟨Ll,ad,c,S7⟩:=hy _ (ax (i:=9) rfl) (ax (i:=2) rfl) (fE rfl);obtain ⟨P9,g,Qa⟩:=hy _ (ax (i:=10) rfl) (ax (i:=3) rfl) (fE rfl);dsimp only at s6 HJ Lk Jb Ll S7 P9 Qa
   refine bV (show cC _ (([cR (V 14) m.fw]++(sT na (m.notes.map u8) (V 17) V++[]))++(M++(cM g2 iR 67 (0,0)::R))) from aX) ?_;rw [HJ] at s6
   rw [Jb] at Lk
   rw [S7] at Ll ⊢
   rw [ab,P8] at Qa
   rw [Qa] at P9 ⊢
   refine bP (v:=.agg (sW m (.slice ad m.fw.length c) (.slice (some ⟨g,0,none⟩) 1 1)).toArray) (bL (parts:=[(0,.tmp 13),(1,.tmp 18),(2,.tmp 21),(3,.tmp 24)]) (vs:=[(0,.string (str m.name)),(1,.int .u32 (m.hJ:Int)),(2,.slice ad m.fw.length c),(3,.slice (some ⟨g,0,none⟩) 1 1)]) (by simp [tP,ev,s6,Lk,Ll,P9]) (by simp [Instr.fill,Value.cells])) rfl ⟨_,rfl,⟨ad,c,g,rfl⟩,aX⟩
 intro V hV;obtain ⟨ad,c,g,Wa⟩:=hV _ (ax (i:=11) rfl);clear hV;dsimp only at Wa
 refine A.fo (show cC _ ((HK m (V 18) V++[])++(cM g2 iR 67 (0,0)::R)) from aX) ?_;rw [Wa];refine A.fo (show cC _ (cR (.slice ad m.fw.length c) m.fw::cM g (m.notes.map u8) na (0,0)::cM g2 iR 67 (0,0)::R) from aX) ?_;simp only [kR,Nat.reduceLT,if_true,List.cons_append,List.nil_append];rw [Wa]
 ((refine tO 19 ?_;refine zg ?_;refine ⟨zN,?_⟩))
 refine bf zK ?_;refine wB ?_;apply bB
 ·exact zV
 refine ⟨dI [cR (.slice ad m.fw.length c) m.fw,cM g (m.notes.map u8) na (0,0)]::R,cn (show cC _ (cR (.slice ad m.fw.length c) m.fw::cM g (m.notes.map u8) na (0,0)::R) from zE) (dN (M:=[_,_])),_,_,_,rfl,wy (ba .zero),wy ?_,rfl⟩;unfold da;rw [P8];exact bu (.succ .zero) (by rw [ab,P8]) zl
theorem F9 (R:List cK) (e:World) (n v f:Int) (hn:-9223372036854775808≤n∧n≤9223372036854775807) (hv:-9223372036854775808≤v∧v≤9223372036854775807) (hf:-9223372036854775808≤f∧f≤9223372036854775807) :
 Ct Tryz.prog 14 #[.int .i64 n,.int .i64 v,.int .i64 f] e R (fun v' L'=>∃ ad c,v'=.slice ad (xK n v f).length c∧L'=cR (.slice ad (xK n v f).length c) (xK n v f)::R):=by
 refine a8 (args:=[_,_,_]) Tryz.func14 rfl Tryz.ntmps14 Tryz.results14 rfl ?_;refine wB ?_;refine aZ rfl rfl (Ja _ e n v f hn hv hf) ?_;rintro _ _ ⟨M,vf,vn,rfl,OZ,Ad,rfl⟩;refine wB ?_;refine aZ rfl rfl (BV _ e vf vn (mB n v f) (OZ.cN zE) (Ad.cN zE) (oE n v f).1 (oE n v f).2) ?_;rintro _ _ ⟨ad,c,rfl,rfl⟩;rw [show lX (mB n v f)=xK n v f from rfl]
 generalize xK n v f=x
 refine wB ?_;exact aY (cR (.slice ad x.length c) x::R) rfl zE ⟨ad,c,rfl,rfl⟩
end Go.Proofs
