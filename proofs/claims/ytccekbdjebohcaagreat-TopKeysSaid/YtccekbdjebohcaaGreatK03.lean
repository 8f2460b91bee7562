/- Part 3 of a proof of this: TopKeys returns true for any arguments; nothing of the old memory is turned. No condition. -/
import Derived.Test.YtccekbdjebohcaaGreatK02
set_option linter.unusedVariables false
set_option linter.unusedSimpArgs false
namespace Go.Bs
structure Port where
 id:Nat
 i:Nat
 gV:List Nat
 mem:Value→(Nat→Value)→List cJ
structure m5 where
 i:Nat
 d:Nat
 gV:List Nat
 kq:List Nat
 ok:Value→(Nat→Value)→Prop
 outs:List (Nat × (Value→(Nat→Value)→List cJ))
def fJ (us:List Nat) (V:Nat→Value):Nat→Value:=fun k=>if us.contains k then V k else undef
theorem qa {us:List Nat} {V V':Nat→Value} (h:∀ k∈us,V k=V' k):fJ us V=fJ us V':=by
 funext k
 unfold fJ
 cases hc:us.contains k with
 | false=>rfl
 | true=>exact h k (List.contains_iff_mem.1 hc)
def m5.tm (x:m5):List Port:=x.outs.map fun o=>⟨o.1,x.i,x.gV,o.2⟩
def eE (D:List m5):List Port:=D.flatMap m5.tm
def lv (V:Nat→Value) (l:List Port):List cJ:=l.flatMap fun p=>p.mem (V p.i) (fJ p.gV V)
def qb (D:List m5) (x:m5):List Port:=(eE D).filter fun p=>x.kq.contains p.id
def kW (V:Nat→Value):List m5→Env
 | []=>[]
 | y::l=>if y.d<100000 then (y.d,V y.i)::kW V l else kW V l
theorem r8 {V:Nat→Value}:∀ {D:List m5} {p:Nat × Value},p∈kW V D→∃ y∈D,y.d<100000∧(y.d,V y.i)=p
 | y::l,p,h=>by
  unfold kW at h
  split at h
  ·rename_i hd;rcases aQ.1 h with rfl|h
   ·exact ⟨y,List.mem_cons_self ..,hd,rfl⟩
   ·obtain ⟨z,hz,h⟩:=r8 h;exact ⟨z,aT _ hz,h⟩
  ·obtain ⟨z,hz,h⟩:=r8 h;exact ⟨z,aT _ hz,h⟩
section
variable (P:Program) (N:Fr) (ops:Array Oper) (e:World) (σ0:Env) (L0:List cJ)
def xW (D:List m5) (x:m5):Prop:=∃ o,ops[x.i]?=some o∧tj ops σ0 o∧∀ (V:Nat→Value) (σr:Env) (M:List cJ),(∀ k v,get σ0 k=some v→get σr k=some v)→(∀ y∈D,y.i∈x.gV→y.d<100000→get σr y.d=some (V y.i)∧y.ok (V y.i) (fJ y.gV V)) →
 Do P N o (fun σ' L'=>∃ v,σ'=(if x.d<100000 then (x.d,v)::σr else σr)∧x.ok v (fJ x.gV V)∧cz L' (x.outs.flatMap (fun o=>o.2 v (fJ x.gV V))++(M++L0))) σr e (lv V (qb D x)++(M++L0))
end
def tn (ops:Array Oper) (l0:Array Bool):List Nat→List m5→Bool
 | _,[]=>true
 | pre,x::r=>(match l0[x.i]? with|some b=>!b|none=>false) &&
  (match ops[x.i]? with
   | some o=>o.after.all (fun ed=>!Region.binds .any ed || l0.getD ed.on false || pre.contains ed.on) && x.gV.all (fun k=>qQ o k)
   | none=>false) && tn ops l0 (x.i::pre) r
def Gw (ops:Array Oper) (D:List m5):List m5:=D.filter fun s=>!D.any fun z=>match ops[z.i]? with|some o=>qQ o s.i|none=>false
def A5 (ops:Array Oper) (l0:Array Bool) (D:List m5) (j:Nat):Bool :=
 (match l0[j]? with|some b=>b|none=>true) || (D.map (·.i)).contains j || (match ops[j]? with
  | some o=>(Gw ops D).all (fun s=>qQ o s.i) || o.after.any (fun ed=>Region.binds .any ed && !(D.map (·.i)).contains ed.on && !l0.getD ed.on false)
  | none=>true)
def Yo (D:List m5) (x:m5) (k:Nat):Bool:=(eE D).any fun p=>p.id == k && x.gV.contains p.i
def DU (ops:Array Oper) (l0:Array Bool) (D:List m5):Bool :=
 tn ops l0 [] D && r7 (D.map (·.i)) && r7 (D.flatMap (·.kq)) && (List.range ops.size).all (A5 ops l0 D) && r7 ((eE D).map (·.id)) && D.all (fun x=>x.kq.all (Yo D x))
def DV (keys:List Nat) (D:List m5):Bool:=r7 (D.map (·.d)) && keys.all fun k=>!(D.map (·.d)).contains k
theorem gN {ops:Array Oper} {l0:Array Bool}:∀ {D:List m5} {pre:List Nat},tn ops l0 pre D=true→∀ A x B,D=A++x::B→l0[x.i]?=some false∧∃ o,ops[x.i]?=some o ∧
 (∀ ed∈o.after,Region.binds .any ed=true→l0.getD ed.on false=true∨ed.on∈pre∨ed.on∈A.map (·.i))∧(∀ k∈x.gV,qQ o k=true)
 | [],_,_,A,x,B,wZ=>by simp at wZ
 | y::r,pre,h,A,x,B,wZ=>by
  simp only [tn,Bool.and_eq_true] at h
  obtain ⟨⟨h1,h2⟩,h3⟩:=h
  cases A with
  | nil =>
   rw [List.nil_append] at wZ
   obtain ⟨rfl,rfl⟩:=List.cons.inj wZ;refine ⟨?_,?_⟩
   ·cases hq:l0[y.i]? with
    | none=>rw [hq] at h1;cases h1
    | some b=>rw [hq] at h1;simp at h1;rw [h1]
   ·cases hq:ops[y.i]? with
    | none=>rw [hq] at h2;cases h2
    | some o =>
     rw [hq] at h2
     simp only [Bool.and_eq_true] at h2
     refine ⟨o,rfl,fun ed IC hb=>?_,fun k hk=>List.all_eq_true.1 h2.2 k hk⟩;have:=Array.all_eq_true'.1 h2.1 ed IC;simp only [hb,Bool.not_true,Bool.false_or,Bool.or_eq_true,List.contains_iff_mem] at this
     rcases this with h|h
     ·exact .inl h
     ·exact .inr (.inl h)
  | cons z A =>
   rw [List.cons_append] at wZ
   obtain ⟨rfl,rfl⟩:=List.cons.inj wZ;obtain ⟨a1,o,a2,a3,a4⟩:=gN h3 A x B rfl;refine ⟨a1,o,a2,fun ed IC hb=>?_,a4⟩;rcases a3 ed IC hb with h|h|h
   ·exact .inl h
   ·rcases aQ.1 h with h|h
    ·exact .inr (.inr (by rw [h];exact List.mem_cons_self ..))
    ·exact .inr (.inl h)
   ·exact .inr (.inr (aT _ h))
theorem nv (U:List Nat):∀ (D:List m5),(∃ x∈D,x.i ∉ U)→∃ A x B,D=A++x::B∧x.i ∉ U∧∀ y∈A,y.i∈U
 | [],⟨_,h,_⟩=>by cases h
 | y::r,h=>by
  by_cases hy:y.i∈U
  ·obtain ⟨A,x,B,h1,h2,h3⟩:=nv U r (by
    obtain ⟨x,hx,hn⟩:=h;rcases aQ.1 hx with rfl|hx
    ·exact absurd hy hn
    ·exact ⟨x,hx,hn⟩)
   exact ⟨y::A,x,B,by rw [h1];rfl,h2,fun z hz=>by
    rcases aQ.1 hz with rfl|hz
    ·exact hy
    ·exact h3 z hz⟩
  ·exact ⟨[],y,r,rfl,hy,fun z hz=>by cases hz⟩
theorem Cc (U:List Nat) (D:List m5) (h:∃ x∈D,x.i ∉ U):∃ A x B,D=A++x::B∧x.i ∉ U∧∀ y∈B,y.i∈U:=by
 obtain ⟨x,hx,hn⟩:=h;obtain ⟨A,y,B,h1,h2,h3⟩:=nv U D.reverse ⟨x,List.mem_reverse.2 hx,hn⟩;refine ⟨B.reverse,y,A.reverse,?_,h2,fun z hz=>h3 z (List.mem_reverse.1 hz)⟩;have:=congrArg List.reverse h1;rw [List.reverse_reverse] at this
 rw [this]
 simp
theorem qc {D:List m5} (hn:(D.map (·.i)).Nodup) {x:m5} (hx:x∈D):D.filter (fun y=>y.i == x.i)=[x]:=by
 obtain ⟨A,B,rfl⟩:=List.append_of_mem hx;rw [ah,List.map_cons] at hn
 have h1:=List.nodup_append.1 hn;have h2:=List.nodup_cons.1 h1.2.1;rw [List.filter_append,List.filter_cons];simp only [beq_self_eq_true,if_true];rw [List.filter_eq_nil_iff.2 fun y hy h=>?_,List.filter_eq_nil_iff.2 fun y hy h=>?_]
 ·rfl
 ·exact h2.1 (by rw [← beq_iff_eq.1 h];exact aE.2 ⟨y,hy,rfl⟩)
 ·exact h1.2.2 y.i (aE.2 ⟨y,hy,rfl⟩) x.i (List.mem_cons_self ..) (beq_iff_eq.1 h)
def fK (D:List m5) (U:List Nat) (p:Port):Bool:=U.contains p.i && !D.any fun z=>z.kq.contains p.id && U.contains z.i
theorem DW {V V':Nat→Value} {l:List Port} (h:∀ y∈l,V y.i=V' y.i∧∀ k∈y.gV,V k=V' k):lv V l=lv V' l:=by
 induction l with
 | nil=>rfl
 | cons y l ih =>
  show y.mem (V y.i) (fJ y.gV V)++lv V l=y.mem (V' y.i) (fJ y.gV V')++lv V' l
  rw [(h y (List.mem_cons_self ..)).1,qa (h y (List.mem_cons_self ..)).2,ih fun z hz=>h z (aT _ hz)]
theorem tt {x:m5} {p:Port} (h:p∈x.tm):p.i=x.i:=by
 obtain ⟨o,_,rfl⟩:=aE.1 h
 rfl
theorem OL {x:m5} {p:Port} (h:p∈x.tm):p.gV=x.gV:=by
 obtain ⟨o,_,rfl⟩:=aE.1 h
 rfl
theorem DX {D:List m5} (hn:(D.map (·.i)).Nodup) {x:m5} (hx:x∈D):(eE D).filter (fun p=>p.i == x.i)=x.tm:=by
 obtain ⟨A,B,rfl⟩:=List.append_of_mem hx;rw [ah,List.map_cons] at hn
 have h1:=List.nodup_append.1 hn;have h2:=List.nodup_cons.1 h1.2.1;unfold eE;rw [aW,aU,List.filter_append,List.filter_append];rw [List.filter_eq_nil_iff.2 fun p hp h=>?_,List.filter_eq_self.2 fun p hp=>?_,List.filter_eq_nil_iff.2 fun p hp h=>?_]
 ·simp
 ·obtain ⟨y,hy,hp⟩:=List.mem_flatMap.1 hp;exact h2.1 (by rw [← beq_iff_eq.1 h,tt hp];exact aE.2 ⟨y,hy,rfl⟩)
 ·rw [tt hp];exact beq_self_eq_true _
 ·obtain ⟨y,hy,hp⟩:=List.mem_flatMap.1 hp;exact h1.2.2 y.i (aE.2 ⟨y,hy,rfl⟩) x.i (List.mem_cons_self ..) (by rw [← tt hp];exact beq_iff_eq.1 h)
theorem L6 {l:List Port} (hn:(l.map (·.id)).Nodup) {p q:Port} (hp:p∈l) (hq:q∈l) (h:p.id=q.id):p=q:=by
 induction l with
 | nil=>cases hp
 | cons y l ih =>
  rw [List.map_cons] at hn
  have h1:=List.nodup_cons.1 hn;rcases aQ.1 hp with hp|hp
  ·rcases aQ.1 hq with hq|hq
   ·rw [hp,hq]
   ·exact absurd (by rw [← hp,h];exact aE.2 ⟨q,hq,rfl⟩) h1.1
  ·rcases aQ.1 hq with hq|hq
   ·exact absurd (by rw [← hq,← h];exact aE.2 ⟨p,hp,rfl⟩) h1.1
   ·exact ih h1.2 hp hq
theorem xX {V:Nat→Value} {x:m5} {v:Value} (h:V x.i=v):lv V x.tm=x.outs.flatMap fun o=>o.2 v (fJ x.gV V):=by
 unfold lv m5.tm;rw [List.flatMap_map]
 show (x.outs.flatMap fun o=>o.2 (V x.i) (fJ x.gV V))=_
 rw [h]
section
variable {P:Program} {N:Fr} {ops:Array Oper} {e:World} {σ0:Env} {L0:List cJ} {T:List Nat} {R0:List cJ} {n:Nat} {l0:Array Bool} {Q:fO}
theorem DY {D:List m5} {I:List Nat} {Q':Exit→Act→World→Prop} {S:Array Bool→World→Prop} (hB:DU ops l0 D=true) (hD:DV (σ0.map (·.1)) D=true) (j1:∀ x∈D,x.i ∉ I→xW P N ops e σ0 L0 D x)
 (hS:∀ l w L,Sat e (L++L0) w→S l w)
 (fin:∀ a w (V:Nat→Value),(∀ y∈D,y.ok (V y.i) (fJ y.gV V))→Has N (kW V D++σ0) a→Sat e (lv V ((eE D).filter fun p=>!D.any fun z=>z.kq.contains p.id)++L0) w→wpS P ops Q' S n (mark l0 (D.map (·.i))) a w) :
 ∀ (m:Nat) (U:List Nat),(∀ i∈I,i∈U)→U.Nodup→(∀ i∈U,i∈D.map (·.i))→U.length+m=D.length→∀ (l:Array Bool) (a:Act) (w:World) (V:Nat→Value),
  (∀ i,l[i]?=(l0[i]?).map (fun b=>b || U.contains i))→(∀ z∈D,z.i∈U→∀ o,ops[z.i]?=some o→∀ ed∈o.after,Region.binds .any ed=true→l.getD ed.on false=true) →
  Has N σ0 a→(∀ y∈D,y.i∈U→(y.d<100000→a.tmps[y.d]?=some (V y.i))∧y.ok (V y.i) (fJ y.gV V))→Sat e (lv V ((eE D).filter (fK D U))++L0) w→wpS P ops Q' S (n+m) l a w:=by
 simp only [DU,DV,Bool.and_eq_true] at hB hD
 obtain ⟨⟨⟨⟨⟨RA,Yp⟩,hB3⟩,hB4⟩,hB5⟩,hB6⟩:=hB;obtain ⟨hD1,hD2⟩:=hD;have z9:=j0 Yp;have oG:=j0 hB3;have U6:=j0 hD1;have U7:=j0 hB5
 have Oi:∀ p∈eE D,∃ y∈D,p.i=y.i:=fun p hp=>by
  obtain ⟨y,hy,hp⟩:=List.mem_flatMap.1 hp;exact ⟨y,hy,tt hp⟩
 have Qq:∀ p∈eE D,∃ y∈D,p.i=y.i∧p.gV=y.gV:=fun p hp=>by
  obtain ⟨y,hy,hp⟩:=List.mem_flatMap.1 hp;exact ⟨y,hy,tt hp,OL hp⟩
 have U8:∀ z∈D,∀ p∈eE D,p.id∈z.kq→p.i∈z.gV:=fun z hz p hp u6=>by
  have h1:=List.all_eq_true.1 (List.all_eq_true.1 hB6 z hz) p.id u6;obtain ⟨q,hq,h2⟩:=List.any_eq_true.1 h1;rw [Bool.and_eq_true,beq_iff_eq,List.contains_iff_mem] at h2
  rw [← L6 U7 hq hp h2.1];exact h2.2
 have L7:∀ x∈D,l0[x.i]?=some false:=fun x hx=>by
  obtain ⟨A,B,h⟩:=List.append_of_mem hx;exact (gN RA A x B h).1
 intro m
 induction m with
 | zero =>
  intro U Yq hU l3 hlen l a w V hl Cd ha hv hs
  have eT:∀ y∈D,y.i∈U:=fun y hy=>by
   exact JJ hU l3 (by rw [ae];omega) _ (aE.2 ⟨y,hy,rfl⟩)
  have DZ:l=mark l0 (D.map (·.i)):=by
   apply Array.ext_getElem?;intro i;rw [hl,th]
   have:U.contains i=(D.map (·.i)).contains i:=by
    rw [Bool.eq_iff_iff,List.contains_iff_mem,List.contains_iff_mem]
    constructor
    ·exact l3 i
    ·intro h;obtain ⟨y,hy,rfl⟩:=aE.1 h;exact eT y hy
   rw [this]
  subst DZ;refine fin a w V (fun y hy=>(hv y hy (eT y hy)).2) ⟨ha.size,ha.defers,fun k v hk=>?_⟩ ?_
  ·refine DS (σ:=kW V D) (τ:=σ0) (a:=a) (fun k v hk=>?_) ha.val k v hk;have:=get_mem hk;obtain ⟨y,hy,Xn,he⟩:=r8 this
   cases he
   exact (hv y hy (eT y hy)).1 Xn
  ·have:(eE D).filter (fK D U)=(eE D).filter fun p=>!D.any fun z=>z.kq.contains p.id:=by
    apply List.filter_congr;intro p hp;obtain ⟨y,hy,he⟩:=Oi p hp;unfold fK;rw [he,List.contains_iff_mem.2 (eT y hy),Bool.true_and]
    congr 1
    rw [Bool.eq_iff_iff,List.any_eq_true,List.any_eq_true]
    constructor
    ·rintro ⟨z,hz,h⟩;rw [Bool.and_eq_true] at h
     exact ⟨z,hz,h.1⟩
    ·rintro ⟨z,hz,h⟩;exact ⟨z,hz,by rw [Bool.and_eq_true];exact ⟨h,List.contains_iff_mem.2 (eT z hz)⟩⟩
   rw [this] at hs
   exact hs
 | succ m ih =>
  intro U Yq hU l3 hlen l a w V hl Cd ha hv hs
  have Gx:∀ i,l.getD i false=(match l0[i]? with|some b=>b || U.contains i|none=>false):=fun i=>by
   rw [Array.getD_eq_getD_getElem?,hl];cases l0[i]?<;>rfl
  have Qr:∀ i,l.getD i true=(match l0[i]? with|some b=>b || U.contains i|none=>true):=fun i=>by
   rw [Array.getD_eq_getD_getElem?,hl];cases l0[i]?<;>rfl
  have U9:∃ x∈D,x.i ∉ U:=by
   by_cases h:∃ x∈D,x.i ∉ U
   ·exact h
   ·exfalso
    have h2:∀ i∈D.map (·.i),i∈U:=fun i hi=>by
     obtain ⟨y,hy,rfl⟩:=aE.1 hi;exact Classical.byContradiction fun hn=>h ⟨y,hy,hn⟩
    have:=u5 z9 h2;rw [ae] at this
    omega
  have D0:∀ y∈D,(l.getD y.i false=true↔y.i∈U):=fun y hy=>by
   rw [Gx,L7 y hy]
   simp
  refine ⟨fun lT=>?_,fun i hi=>?_⟩
  ·exfalso
   obtain ⟨A,x,B,wZ,LB,hA⟩:=nv U D U9;obtain ⟨g1,o,g2,g3,_⟩:=gN RA A x B wZ
   have hr:x.i∈Region.ready .any ops l:=by
    refine mem_ready.2 ⟨?_,o,g2,fun ed IC hb=>?_⟩
    ·rw [Qr,g1]
     simpa using LB
    ·rcases g3 ed IC hb with h|h|h
     ·rw [Gx];rw [Array.getD_eq_getD_getElem?] at h
      cases hq:l0[ed.on]? with
      | none=>rw [hq] at h;cases h
      | some b=>rw [hq] at h;simp at h;subst h;rfl
     ·cases h
     ·obtain ⟨y,hy,he⟩:=aE.1 h;rw [← he];exact (D0 y (by rw [wZ];exact List.mem_append_left _ hy)).2 (hA y hy)
   rw [lT] at hr;cases hr
  ·obtain ⟨Gq,o,ho,eT⟩:=mem_ready.1 hi
   have u7:l0[i]?=some false∧U.contains i=false:=by
    rw [Qr] at Gq
    cases hq:l0[i]? with
    | none=>rw [hq] at Gq;cases Gq
    | some b =>
     rw [hq] at Gq
     simp only [Bool.or_eq_false_iff] at Gq
     exact ⟨by rw [Gq.1],Gq.2⟩
   have ry:i∈D.map (·.i):=by
    refine Classical.byContradiction fun Gr=>?_
    have cO:i<ops.size:=(Array.getElem?_eq_some_iff.1 ho).1;have h1:=List.all_eq_true.1 hB4 i (List.mem_range.2 cO);unfold A5 at h1
    rw [u7.1,ho] at h1
    simp only [Bool.or_eq_true,Bool.false_eq_true,false_or,List.contains_iff_mem,Gr] at h1
    rcases h1 with h1|h1
    ·obtain ⟨A,x,B,wZ,LB,hBd⟩:=Cc U D U9;have Va:x∈D:=by rw [wZ];simp
     have RB:qQ o x.i=true→False:=fun hb=>by
      obtain ⟨ed,h2,h3,h4⟩:=l6 hb;have h5:=eT ed h2 h3;rw [h4,D0 x Va] at h5
      exact LB h5
     by_cases L8:x∈Gw ops D
     ·exact RB (List.all_eq_true.1 h1 x L8)
     ·
      simp only [Gw,List.mem_filter,Va,true_and,Bool.not_eq_true',Bool.not_eq_false] at L8
      obtain ⟨z,hz,T0⟩:=List.any_eq_true.1 L8
      cases L9:ops[z.i]? with
      | none=>rw [L9] at T0;cases T0
      | some oz =>
       rw [L9] at T0
       obtain ⟨ed,h2,h3,h4⟩:=l6 T0
       have JK:z.i∈U:=by
        rw [wZ] at hz
        rcases aJ.1 hz with hzA|Yv
        ·
         exfalso
         obtain ⟨A1,A2,rfl⟩:=List.append_of_mem hzA;obtain ⟨_,o',b1,b2,_⟩:=gN RA A1 z (A2++x::B) (by rw [wZ];simp);rw [L9] at b1;cases b1
         rcases b2 ed h2 h3 with h|h|h
         ·rw [h4,Array.getD_eq_getD_getElem?,L7 x Va] at h;cases h
         ·cases h
         ·rw [h4] at h
          have Ce:=z9;rw [wZ] at Ce
          simp only [ah,List.map_cons,aM,List.cons_append] at Ce
          have:=(List.nodup_append.1 Ce).2.2 x.i h x.i (by simp);exact this rfl
        ·rcases aQ.1 Yv with rfl|Yv
         ·exfalso
          obtain ⟨_,o',b1,b2,_⟩:=gN RA A z B wZ;rw [L9] at b1;cases b1
          rcases b2 ed h2 h3 with h|h|h
          ·rw [h4,Array.getD_eq_getD_getElem?,L7 z Va] at h;cases h
          ·cases h
          ·rw [h4] at h
           have Ce:=z9;rw [wZ] at Ce
           simp only [ah,List.map_cons] at Ce
           exact (List.nodup_append.1 Ce).2.2 z.i h z.i (by simp) rfl
         ·exact hBd z Yv
       have h5:=Cd z hz JK oz L9 ed h2 h3;rw [h4,D0 x Va] at h5
       exact LB h5
    ·obtain ⟨ed,IC,hb⟩:=Array.any_eq_true'.1 h1;simp only [Bool.and_eq_true,Bool.not_eq_true'] at hb
     have h3:=eT ed IC hb.1.1;rw [Gx] at h3
     have h4:U.contains ed.on=false:=by
      cases hc:U.contains ed.on with
      | false=>rfl
      | true =>
       exfalso
       have h6:=l3 _ (List.contains_iff_mem.1 hc);have h7:=hb.1.2;rw [List.contains_iff_mem.2 h6] at h7
       cases h7
     have h8:=hb.2;rw [Array.getD_eq_getD_getElem?] at h8
     cases hq:l0[ed.on]? with
     | none=>rw [hq] at h3;cases h3
     | some b =>
      rw [hq] at h3 h8;simp at h3 h8;rw [h8] at h3;rcases h3 with h3|h3;· cases h3
      ·rw [List.contains_iff_mem.2 h3] at h4;cases h4
   obtain ⟨x,hx,rfl⟩:=aE.1 ry;have LB:x.i ∉ U:=fun h=>by rw [List.contains_iff_mem.2 h] at u7;cases u7.2
   obtain ⟨o',Qm,hg,Vb⟩:=j1 x hx (fun h=>LB (Yq _ h));rw [ho] at Qm;cases Qm
   obtain ⟨A0,B0,YO⟩:=List.append_of_mem hx;obtain ⟨_,o',Qm,_,Vc⟩:=gN RA A0 x B0 YO;rw [ho] at Qm;cases Qm
   have Ma:∀ y∈D,y.i∈x.gV→y.i∈U:=fun y hy Qs=>by
    obtain ⟨ed,h2,h3,h4⟩:=l6 (Vc _ Qs);have h5:=eT ed h2 h3;rw [h4,D0 y hy] at h5
    exact h5
   have Qt:∀ z∈D,z.i∈U→x.i ∉ z.gV:=fun z hz JK hxe=>by
    obtain ⟨A1,B1,Mb⟩:=List.append_of_mem hz;obtain ⟨_,oz,L9,_,h2⟩:=gN RA A1 z B1 Mb;obtain ⟨ed,h3,h4,h5⟩:=l6 (h2 _ hxe);have h6:=Cd z hz JK oz L9 ed h3 h4;rw [h5,D0 x hx] at h6
    exact LB h6
   have Qu:x.i ∉ x.gV:=fun h=>LB (Ma x hx h)
   have Vd:∀ z∈D,∀ k,k∈z.kq→k∈x.kq→z=x:=fun z hz k h1 h2=>by
    refine Classical.byContradiction fun RC=>?_
    obtain ⟨A1,B1,Mb⟩:=List.append_of_mem hz;rw [Mb] at hx oG
    rw [aW,aU] at oG
    have n1:=List.nodup_append.1 oG;have n2:=List.nodup_append.1 n1.2.1;rcases aJ.1 hx with hx|hx
    ·exact n1.2.2 k (List.mem_flatMap.2 ⟨x,hx,h2⟩) k (List.mem_append_left _ h1) rfl
    ·rcases aQ.1 hx with rfl|hx
     ·exact RC rfl
     ·exact n2.2.2 k h1 k (List.mem_flatMap.2 ⟨x,hx,h2⟩) rfl
   have Ve:∀ p∈eE D,p.id∈x.kq→p.i∈U:=fun p hp u6=>by
    obtain ⟨y,hy,he⟩:=Oi p hp;have:=U8 x hx p hp u6;rw [he] at this ⊢
    exact Ma y hy this
   have RD:∀ p∈eE D,p.id∈x.kq→fK D U p=true:=fun p hp u6=>by
    unfold fK;rw [List.contains_iff_mem.2 (Ve p hp u6),Bool.true_and,Bool.not_eq_true'];refine List.any_eq_false.2 fun z hz h=>?_
    rw [Bool.and_eq_true,List.contains_iff_mem,List.contains_iff_mem] at h
    have:=Vd z hz _ h.1 u6;subst this;exact LB h.2
   have hU':(x.i::U).Nodup:=List.nodup_cons.2 ⟨LB,hU⟩
   have Oj:((eE D).filter (fK D U)).Perm (qb D x++(eE D).filter fun y=>fK D U y && !x.kq.contains y.id):=by
    have h1:=(List.filter_append_perm (fun y:Port=>x.kq.contains y.id) ((eE D).filter (fK D U))).symm;refine h1.trans ?_;rw [List.filter_filter,List.filter_filter]
    have e1:(eE D).filter (fun y=>x.kq.contains y.id && fK D U y)=qb D x:=by
     apply List.filter_congr;intro y hy
     cases hc:x.kq.contains y.id with
     | false=>rfl
     | true=>rw [RD y hy (List.contains_iff_mem.1 hc)];rfl
    have e2:(eE D).filter (fun y=>(!x.kq.contains y.id) && fK D U y)=(eE D).filter fun y=>fK D U y && !x.kq.contains y.id:=by
     apply List.filter_congr;intro y hy;exact Bool.and_comm _ _
    rw [e1,e2]
   have Qv:((eE D).filter (fK D (x.i::U))).Perm (x.tm++(eE D).filter fun y=>fK D U y && !x.kq.contains y.id):=by
    have h1:=(List.filter_append_perm (fun y:Port=>y.i == x.i) ((eE D).filter (fK D (x.i::U)))).symm;refine h1.trans ?_;rw [List.filter_filter,List.filter_filter]
    have e0:∀ y∈eE D,fK D (x.i::U) y=(y.i == x.i || (fK D U y && !x.kq.contains y.id)):=fun y hy=>by
     by_cases Qw:y.i=x.i
     ·rw [Qw,beq_self_eq_true,Bool.true_or];unfold fK;rw [Qw,List.contains_cons,beq_self_eq_true,Bool.true_or,Bool.true_and,Bool.not_eq_true'];refine List.any_eq_false.2 fun z hz h=>?_
      rw [Bool.and_eq_true,List.contains_iff_mem,List.contains_iff_mem] at h
      have RE:=U8 z hz y hy h.1;rw [Qw] at RE
      rcases aQ.1 h.2 with h3|h3
      ·have:z.i=x.i:=h3
       have RC:z=x:=by
        have f1:=qc z9 hx;have:z∈D.filter (fun y=>y.i == x.i):=List.mem_filter.2 ⟨hz,by rw [this];exact beq_self_eq_true _⟩;rw [f1] at this
        exact an.1 this
       subst RC;exact Qu RE
      ·exact Qt z hz h3 RE
     ·have hb:(y.i == x.i)=false:=by simpa using Qw
      rw [hb,Bool.false_or];unfold fK;rw [List.contains_cons,hb,Bool.false_or,Bool.and_assoc]
      congr 1
      rw [Bool.eq_iff_iff];simp only [Bool.not_eq_true',Bool.and_eq_true,List.any_eq_false,Bool.not_eq_true,List.contains_cons,Bool.and_eq_false_imp,Bool.or_eq_false_iff]
      constructor
      ·intro h;refine ⟨fun z hz Qs=>h z hz ⟨Qs.1,by rw [Qs.2,Bool.or_true]⟩,?_⟩
       cases hc:x.kq.contains y.id with
       | false=>rfl
       | true=>exact absurd ⟨hc,by rw [beq_self_eq_true,Bool.true_or]⟩ (h x hx)
      ·rintro ⟨h1,h2⟩ z hz ⟨Qs,hor⟩;rw [Bool.or_eq_true] at hor
       rcases hor with hc|hc
       ·have OM:=beq_iff_eq.1 hc;have f1:=qc z9 hx;have:z∈D.filter (fun y=>y.i == x.i):=List.mem_filter.2 ⟨hz,by rw [OM];exact beq_self_eq_true _⟩;rw [f1] at this
        have:=an.1 this;subst this;rw [h2] at Qs;cases Qs
       ·exact h1 z hz ⟨Qs,hc⟩
    have e1:(eE D).filter (fun y=>(y.i == x.i) && fK D (x.i::U) y)=x.tm:=by
     rw [← DX z9 hx];apply List.filter_congr;intro y hy;rw [e0 y hy]
     cases (y.i == x.i)<;>rfl
    have e2:(eE D).filter (fun y=>(!(y.i == x.i)) && fK D (x.i::U) y)=(eE D).filter fun y=>fK D U y && !x.kq.contains y.id:=by
     apply List.filter_congr;intro y hy;rw [e0 y hy]
     cases hc:(y.i == x.i) with
     | false=>rfl
     | true =>
      have hyi:=beq_iff_eq.1 hc
      have:fK D U y=false:=by
       unfold fK;have:U.contains y.i=false:=by rw [hyi];exact u7.2
       rw [this];rfl
      rw [this];rfl
    rw [e1,e2]
   have TU:∀ q,q∈σ0.map (·.1)→q≠x.d:=fun q hq he=>by
    have h1:=List.all_eq_true.1 hD2 q hq;rw [he,List.contains_iff_mem.2 (aE.2 ⟨x,hx,rfl⟩)] at h1
    cases h1
   have Xn:∀ y∈D,y.i∈U→y.d ∉ [x.d]:=fun y hy Ah h=>by
    have he:y.d=x.d:=an.1 h;obtain ⟨A1,B1,Mb⟩:=List.append_of_mem hx;rw [Mb] at hy U6
    rw [ah,List.map_cons] at U6
    have n1:=List.nodup_append.1 U6;have n2:=List.nodup_cons.1 n1.2.1;rcases aJ.1 hy with hy|hy
    ·exact n1.2.2 y.d (aE.2 ⟨y,hy,rfl⟩) x.d (List.mem_cons_self ..) he
    ·rcases aQ.1 hy with rfl|hy
     ·exact LB Ah
     ·exact n2.1 (by rw [← he];exact aE.2 ⟨y,hy,rfl⟩)
   have Vb:=Vb V (oN a [x.d]) (lv V ((eE D).filter fun y=>fK D U y && !x.kq.contains y.id))
    (fun q v hq=>oO (fun h=>TU q (aE.2 ⟨(q,v),get_mem hq,rfl⟩) (an.1 h)) (ha.val q v hq))
    (fun y Xo hyu Qx=>by
     have Ah:=Ma y Xo hyu;exact ⟨oO (Xn y Xo Ah) ((hv y Xo Ah).1 Qx),(hv y Xo Ah).2⟩)
   have fR:Sat e (lv V (qb D x)++(lv V ((eE D).filter fun y=>fK D U y && !x.kq.contains y.id)++L0)) w:=hs.cL (xU (by
    rw [← aM];refine List.Perm.append_right _ ?_;have:=List.Perm.flatMap_right (f:=fun y:Port=>y.mem (V y.i) (fJ y.gV V)) Oj;rw [aW] at this
    exact this))
   refine td ho ?_ Vb ⟨ha.size,ha.defers,DT⟩ fR ?_
   ·rcases hg with hg|⟨j,want,hg,hw⟩
    ·simp [Region.wanted,hg]
    ·obtain ⟨dst,op,ty,pos,af,gd⟩:=o;dsimp only at hg
     subst hg;exact nO ha hw
   rintro _ L' a' w' ⟨v,rfl,Y6,Y7⟩ DA oF
   have Qy:∀ q u,q≠x.d→a.tmps[q]?=some u→a'.tmps[q]?=some u:=fun q u hq hu=>by
    refine DA.val q u ?_
    split
    ·rw [fD,aB (fun h=>hq h.symm)];exact oO (fun h=>hq (an.1 h)) hu
    ·exact oO (fun h=>hq (an.1 h)) hu
   have hVk:∀ z∈D,z.i∈U→∀ k∈z.gV,V k=(fun k=>if k=x.i then v else V k) k:=fun z hz JK k hk=>by
    have oG:k≠x.i:=fun h=>Qt z hz JK (by rw [← h];exact hk)
    show V k=if k=x.i then v else V k
    rw [aB oG]
   have hVx:fJ x.gV V=fJ x.gV (fun k=>if k=x.i then v else V k):=qa fun k hk=>by
    have oG:k≠x.i:=fun h=>Qu (by rw [← h];exact hk)
    show V k=if k=x.i then v else V k
    rw [aB oG]
   have hV:∀ y∈(eE D).filter (fun y=>fK D U y && !x.kq.contains y.id),V y.i=(fun k=>if k=x.i then v else V k) y.i∧∀ k∈y.gV,V k=(fun k=>if k=x.i then v else V k) k:=fun y hy=>by
    have Ah:U.contains y.i=true:=by
     have h1:=(List.mem_filter.1 hy).2;simp only [Bool.and_eq_true] at h1
     have:=h1.1;simp only [fK,Bool.and_eq_true] at this
     exact this.1
    have oG:y.i≠x.i:=fun h=>by
     rw [h] at Ah;rw [Ah] at u7;cases u7.2
    obtain ⟨z,hz,OM,hzu⟩:=Qq y (List.mem_filter.1 hy).1;refine ⟨by dsimp only;rw [aB oG],?_⟩;rw [hzu];exact hVk z hz (by rw [← OM];exact List.contains_iff_mem.1 Ah)
   have m4:Sat e (lv (fun k=>if k=x.i then v else V k) ((eE D).filter (fK D (x.i::U)))++L0) w':=by
    refine (oF.cL Y7).cL (xU ?_);rw [← aM];refine List.Perm.append_right _ ?_;have h1:=(List.Perm.flatMap_right (f:=fun y:Port=>y.mem ((fun k=>if k=x.i then v else V k) y.i) (fJ y.gV (fun k=>if k=x.i then v else V k))) Qv).symm;refine List.Perm.trans ?_ h1;rw [aW];rw [DW (V':=fun k=>if k=x.i then v else V k) hV];refine List.Perm.append_right _ ?_;have h3:=xX (V:=fun k=>if k=x.i then v else V k) (x:=x) (v:=v) (by simp);unfold lv at h3
    rw [h3,hVx]
   refine ⟨hS _ _ _ m4,ih (x.i::U) (fun i hi=>aT _ (Yq i hi)) hU' ?_ (by rw [aN];omega) _ a' w' (fun k=>if k=x.i then v else V k) ?_ ?_ ⟨DA.size,DA.defers,fun q u hq=>?_⟩ ?_ m4⟩
   ·intro j hj;rcases aQ.1 hj with rfl|hj
    ·exact aE.2 ⟨x,hx,rfl⟩
    ·exact l3 j hj
   ·intro j
    by_cases hj:x.i=j
    ·subst hj
     have cO:x.i<l.size:=by
      have:=hl x.i;rw [u7.1] at this
      exact (Array.getElem?_eq_some_iff.1 this).1
     rw [Array.getElem?_setIfInBounds_self_of_lt cO,u7.1]
     simp
    ·rw [Array.getElem?_setIfInBounds_ne hj,hl];have:(j == x.i)=false:=by simp;exact fun h=>hj h.symm
     congr 1
     funext b
     rw [List.contains_cons,this,Bool.false_or]
   ·have Vf:∀ k,l.getD k false=true→(l.setIfInBounds x.i true).getD k false=true:=fun k hk=>by
     rw [Array.getD_eq_getD_getElem?] at hk ⊢
     by_cases hj:x.i=k
     ·subst hj
      cases hq:l[x.i]? with
      | none=>rw [hq] at hk;cases hk
      | some b =>
       rw [Array.getElem?_setIfInBounds_self_of_lt (Array.getElem?_eq_some_iff.1 hq).1];rfl
     ·rw [Array.getElem?_setIfInBounds_ne hj];exact hk
    intro z hz JK oz L9 ed IC hb;apply Vf;rcases aQ.1 JK with RC|JK
    ·rw [RC,ho] at L9;cases L9
     exact eT ed IC hb
    ·exact Cd z hz JK oz L9 ed IC hb
   ·exact Qy q u (TU q (aE.2 ⟨(q,u),get_mem hq,rfl⟩)) (ha.val q u hq)
   ·intro y hy Ah;rcases aQ.1 Ah with Qw|Ah
    ·have Y8:y=x:=by
      have f1:=qc z9 hx;have:y∈D.filter (fun y=>y.i == x.i):=List.mem_filter.2 ⟨hy,by rw [Qw];exact beq_self_eq_true _⟩;rw [f1] at this
      exact an.1 this
     subst Y8;rw [aI rfl];exact ⟨fun Qx=>DA.val _ _ (by rw [aI Qx,fD,aI rfl]),by rw [← hVx];exact Y6⟩
    ·have Y9:y.i≠x.i:=fun h=>LB (h ▸ Ah)
     rw [aB Y9];exact ⟨fun Qx=>Qy _ _ (fun h=>Xn y hy Ah (by rw [h];exact an.2 rfl)) ((hv y hy Ah).1 Qx),by rw [← qa (hVk y hy Ah)];exact (hv y hy Ah).2⟩
theorem A.ON (D:List m5) (m:Nat) (hm:D.length=m) (hB:DU ops l0 D=true) (hD:DV (σ0.map (·.1)) D=true) (j1:∀ x∈D,xW P N ops e σ0 L0 D x) (hR:cz L0 R0)
 (k:∀ V:Nat→Value,(∀ y∈D,y.ok (V y.i) (fJ y.gV V))→A P N ops T R0 n (mark l0 (D.map (·.i))) Q (kW V D++σ0) e (lv V ((eE D).filter fun p=>!D.any fun z=>z.kq.contains p.id)++L0)):A P N ops T R0 (n+m) l0 Q σ0 e L0:=fun a w ha hs=>by
 refine DY (I:=[]) (σ0:=σ0) (L0:=L0) (S:=JE T (Sat e R0)) hB hD (fun x hx _=>j1 x hx) (fun l w L h _=>h.cL ((ku L).trans hR)) (fun a w V h1 h2 h3=>k V h1 a w h2 h3) m [] (fun i hi=>by cases hi) List.nodup_nil (fun i hi=>by cases hi) (by simpa using hm.symm) l0 a w (fun _=>undef) (fun i=>?_) (fun z hz JK=>by cases JK) ha (fun y hy Ah=>by cases Ah) ?_
 ·simp
 ·have:(eE D).filter (fK D [])=[]:=List.filter_eq_nil_iff.2 fun y hy h=>by simp [fK] at h
  rw [this];exact hs
theorem A.Vg (x0:m5) (v0:Value) (D:List m5) (m:Nat) (hm:D.length=m) (h0:l0[x0.i]?=some true) (hB:DU ops (l0.setIfInBounds x0.i false) (x0::D)=true) (hD:DV (σ0.map (·.1)) (x0::D)=true)
 (hc:(match ops[x0.i]? with|some o=>o.after.all fun ed=>!Region.binds .any ed || l0.getD ed.on false|none=>false)=true) (D1:x0.ok v0 (fJ x0.gV fun _=>v0)) (j1:∀ x∈D,xW P N ops e σ0 L0 (x0::D) x) (he:x0.kq=[]) (hR:cz L0 R0)
 (k:∀ V:Nat→Value,(∀ y∈x0::D,y.ok (V y.i) (fJ y.gV V))→A P N ops T R0 n (mark l0 (D.map (·.i))) Q (kW V (x0::D)++σ0) e (lv V ((eE (x0::D)).filter fun p=>!(x0::D).any fun z=>z.kq.contains p.id)++L0)):A P N ops T R0 (n+m) l0 Q ((x0.d,v0)::σ0) e (x0.outs.flatMap (fun o=>o.2 v0 (fJ x0.gV fun _=>v0))++L0):=fun a w ha hs=>by
 have cO:x0.i<l0.size:=(Array.getElem?_eq_some_iff.1 h0).1
 have jL:∀ i,l0[i]?=((l0.setIfInBounds x0.i false)[i]?).map (fun b=>b || [x0.i].contains i):=fun i=>by
  by_cases hi:x0.i=i
  ·subst hi;rw [Array.getElem?_setIfInBounds_self_of_lt cO,h0]
   simp
  ·rw [Array.getElem?_setIfInBounds_ne hi];have:[x0.i].contains i=false:=by simp;exact fun h=>hi h.symm
   rw [this]
   cases l0[i]?<;>simp
 have hB':=hB;have hD':=hD;simp only [DU,DV,Bool.and_eq_true] at hB' hD'
 obtain ⟨⟨⟨⟨⟨RA,Yp⟩,hB3⟩,hB4⟩,hB5⟩,hB6⟩:=hB';have z9:=j0 Yp;rw [List.map_cons] at z9
 have Vh:=(List.nodup_cons.1 z9).1
 have Vi:(eE (x0::D)).filter (fK (x0::D) [x0.i])=x0.tm:=by
  rw [← DX (D:=x0::D) (by rw [List.map_cons];exact z9) (List.mem_cons_self ..)];apply List.filter_congr;intro p hp;unfold fK
  have h1:((x0::D).any fun z=>z.kq.contains p.id && [x0.i].contains z.i)=false:=List.any_eq_false.2 fun z hz h=>by
   rw [Bool.and_eq_true,List.contains_iff_mem,List.contains_iff_mem,an] at h
   rcases aQ.1 hz with rfl|hz
   ·rw [he] at h;cases h.1
   ·exact Vh (by rw [← h.2];exact aE.2 ⟨z,hz,rfl⟩)
  rw [h1]
  cases Oi:(p.i == x0.i) with
  | true=>rw [List.contains_iff_mem.2 (by rw [an];exact beq_iff_eq.1 Oi)];rfl
  | false =>
   have:[x0.i].contains p.i=false:=by
    cases hq:[x0.i].contains p.i with
    | false=>rfl
    | true=>rw [List.contains_iff_mem,an] at hq;rw [hq,beq_self_eq_true] at Oi;cases Oi
   rw [this];rfl
 refine DY (I:=[x0.i]) (D:=x0::D) (σ0:=σ0) (L0:=L0) (l0:=l0.setIfInBounds x0.i false) (S:=JE T (Sat e R0)) hB hD (fun x hx hxi=>?_) (fun l w L h _=>h.cL ((ku L).trans hR)) (fun a w V h1 h2 h3=>?_) m [x0.i] (fun i hi=>hi) (by simp) (fun i hi=>?_) (by rw [aN,aN,List.length_nil,hm];omega) l0 a w (fun _=>v0) jL (fun z hz JK o ho ed IC hb=>?_) ⟨ha.size,ha.defers,fun q u hq=>ha.val q u ?_⟩ (fun y hy Ah=>?_) ?_
 ·rcases aQ.1 hx with rfl|hx
  ·exact absurd (an.2 rfl) hxi
  ·exact j1 x hx
 ·have Cf:mark (l0.setIfInBounds x0.i false) ((x0::D).map (·.i))=mark l0 (D.map (·.i)):=by
   apply Array.ext_getElem?;intro i;rw [th,th,jL i,List.map_cons]
   cases (l0.setIfInBounds x0.i false)[i]? with
   | none=>rfl
   | some b =>
    simp only [Option.map_some,List.contains_cons,List.contains_nil,Bool.or_false,Bool.or_assoc]
  rw [Cf];exact k V h1 a w h2 h3
 ·rw [an.1 hi,List.map_cons];exact List.mem_cons_self ..
 ·have RC:z.i=x0.i:=an.1 JK;rw [RC] at ho
  rw [ho] at hc
  have:=Array.all_eq_true'.1 hc ed IC
  simpa [hb] using this
 ·rw [fD,aB (fun h=>?_)]
  ·exact hq
  ·have h1:=List.all_eq_true.1 hD'.2 q (aE.2 ⟨(q,u),get_mem hq,rfl⟩);rw [← h,List.map_cons,List.contains_cons,beq_self_eq_true] at h1
   cases h1
 ·have Qw:y=x0:=by
   rcases aQ.1 hy with rfl|hy
   ·rfl
   ·exact absurd (aE.2 ⟨y,hy,an.1 Ah⟩) Vh
  subst Qw;exact ⟨fun _=>ha.val _ _ (by rw [fD,aI rfl]),D1⟩
 ·rw [Vi,xX (v:=v0) rfl];exact hs
end
theorem A.T3 {P:Program} {N:Fr} {ops:Array Oper} {T:List Nat} {R0:List cJ} {n:Nat} {l:Array Bool} {Q:fO} {σ:Env} {e:World} {α:Sort _} {f:α→cJ} {R:List cJ} (h:∀ x,A P N ops T R0 n l Q σ e (f x::R)):A P N ops T R0 n l Q σ e (Ex f::R):=fun a w ha hs=>by
 obtain ⟨x,hx⟩:=xJ hs.2.2.2;exact h x a w ha ⟨hs.1,hs.2.1,hs.2.2.1,hx⟩
theorem A.Vj {P:Program} {N:Fr} {ops:Array Oper} {T:List Nat} {R0:List cJ} {n:Nat} {l:Array Bool} {Q:fO} {σ:Env} {e:World} {p:Prop} {R:List cJ} (h:p→A P N ops T R0 n l Q σ e R):A P N ops T R0 n l Q σ e (Pu p::R):=fun a w ha hs=>by
 obtain ⟨hp,hx⟩:=jR hs.2.2.2;exact h hp a w ha ⟨hs.1,hs.2.1,hs.2.2.1,hx⟩
end Go.Bs
namespace Go.Bs
def be (n:Nat):Nat→List UInt8
 | 0=>[]
 | j+1=>UInt8.ofNat (n / 256 ^ j)::be n j
theorem cX (n:Nat):∀ j,(be n j).length=j
 | 0=>rfl
 | j+1=>by simp [be,cX n j]
end Go.Bs
namespace Go.Bs
def numOf (l:List UInt8):Nat:=l.foldl (fun a c=>(a*256) % 4294967296+c.toNat) 0
theorem xY (l:List UInt8) (c:UInt8):numOf (l++[c])=(numOf l*256) % 4294967296+c.toNat:=by simp [numOf]
theorem tu (l:List UInt8):numOf l<4294967296:=by
 rcases List.eq_nil_or_concat l with rfl|⟨m,c,rfl⟩
 ·simp [numOf]
 ·rw [List.concat_eq_append,xY];have:=c.toNat_lt
  omega
structure eX where
 left:List UInt8
 bad:Bool
def eX.fits (s:eX) (n:Int):Bool:=!s.bad && decide (0≤n) && decide (n≤s.left.length)
def eX.take (s:eX) (n:Int):List UInt8:=if s.fits n then s.left.take n.toNat else []
def eX.next (s:eX) (n:Int):eX:=if s.fits n then ⟨s.left.drop n.toNat,false⟩ else ⟨[],true⟩
def eX.num (s:eX) (n:Int):Nat:=numOf (s.take n)
def eX.len (s:eX) (fE:Int):Int:=if (s.num 2:Int) > max fE 0 then -1 else s.num 2
def eX.bytes (s:eX) (fE:Int):List UInt8:=(s.next 2).take (s.len fE)
def eX.tw (s:eX) (fE:Int):eX:=(s.next 2).next (s.len fE)
theorem eX.take_length (s:eX) (n:Int):(s.take n).length≤s.left.length:=by
 unfold eX.take;split
 ·simp;omega
 ·simp
theorem eX.jg (s:eX) (n:Int):(s.next n).left.length≤s.left.length:=by
 unfold eX.next;split
 ·simp
 ·simp
end Go.Bs
namespace Go.Bs
theorem be4 (n:Nat):be n 4=[UInt8.ofNat (n / 16777216),UInt8.ofNat (n / 65536),UInt8.ofNat (n / 256),UInt8.ofNat n]:=by
 simp [be]
theorem qR (n:Nat) (h:n<4294967296):numOf (be n 4)=n:=by
 rw [be4]
 simp [numOf]
 omega
theorem JL (n:Nat) (h:n<65536):numOf (be n 2)=n:=by
 simp [be,numOf]
 omega
def enc (b:List UInt8):List UInt8:=be b.length 2++b
theorem iy (b:List UInt8):(enc b).length=b.length+2:=by simp [enc,cX];omega
theorem j3 {a rest:List UInt8}:eX.take ⟨a++rest,false⟩ (a.length:Int)=a∧eX.next ⟨a++rest,false⟩ (a.length:Int)=⟨rest,false⟩:=by
 have h:eX.fits ⟨a++rest,false⟩ (a.length:Int)=true:=by
  simp only [eX.fits,Bool.not_false,Bool.true_and,Bool.and_eq_true,decide_eq_true_eq,aa]
  omega
 constructor
 ·simp only [eX.take,h,if_true]
  simp
 ·simp only [eX.next,h,if_true]
  simp
theorem u9 (x rest:List UInt8) (m:Int) (hx:x.length≤65535) (hm:(x.length:Int)≤max m 0):eX.bytes ⟨enc x++rest,false⟩ m=x∧eX.tw ⟨enc x++rest,false⟩ m=⟨rest,false⟩:=by
 have e1:enc x++rest=be x.length 2++(x++rest):=by simp [enc]
 have h1:=j3 (a:=be x.length 2) (rest:=x++rest);rw [cX] at h1
 have h2:eX.num ⟨enc x++rest,false⟩ 2=x.length:=by
  rw [eX.num,e1]
  show numOf (eX.take ⟨be x.length 2++(x++rest),false⟩ ((2:Nat):Int))=_
  rw [h1.1];exact JL _ (by omega)
 have h3:eX.len ⟨enc x++rest,false⟩ m=x.length:=by rw [eX.len,h2,aB (by omega)]
 have h4:eX.next ⟨enc x++rest,false⟩ 2=⟨x++rest,false⟩:=by
  rw [e1];exact h1.2
 have h5:=j3 (a:=x) (rest:=rest);exact ⟨by rw [eX.bytes,h3,h4];exact h5.1,by rw [eX.tw,h3,h4];exact h5.2⟩
end Go.Bs
namespace Go.Proofs
attribute [local irreducible] Bs.cD Bs.Do Bs.O Bs.W Bs.Fin Bs.A Bs.Ct Bs.cE Bs.Rd Bs.Sat Bs.cK Bs.Ob Bs.dE Bs.View Bs.cz Bs.Ex Bs.dI Bs.Pu Bs.eY Bs.dN Bs.dZ
open Go.Bs
open Tryz
abbrev _root_.Go.Bs.pG:TypeId:=5
theorem mG {l:List UInt8}:∀ c∈l.map u8,c.oneCell'=true:=by
 intro c hc;obtain ⟨x,_,rfl⟩:=aE.1 hc
 rfl
abbrev cS (v:Value) (l:List UInt8):cJ:=dE pG 1 v l.length (l.map u8)
theorem dw (R:List cJ) (e:World) (v:Value) (l:List UInt8) (h:db R v l) (hk:l.length≤140737488355328) :
 Ct prog 66 #[v] e R (fun v' L'=>∃ ad c,v'=.slice ad l.length c∧L'=cS (.slice ad l.length c) l::R):=by
 refine a7 (h.shape zo) ?_;rintro ⟨⟨ad,cap,rfl,h3,h4,h5,h6⟩,_⟩;refine a8 (args:=[_]) func66 rfl ntmps66 results66 rfl ?_
 cases ad with
 | none =>
  have u7:l=[]:=by
   have:=h5 rfl;exact List.eq_nil_of_length_eq_zero zo
  subst u7;refine wB ?_;exact aY _ rfl (dv _ _) ⟨_,_,rfl,rfl⟩
 | some a =>
  (repeat (refine wA ?_;intros))
  refine O.fo (hH (n:=1) (k:=0) (cap:=0) zo zl rfl) ?_;refine bC (bo rfl rfl rfl .zero h rfl rfl mG zm zo fun lM c' lU=>?_)
  refine wB ?_;refine aY _ rfl ?_ ⟨lM,c',by simp [AS],rfl⟩;simp only [aC];exact aX
theorem D2 {ad:Option Addr} {c k:Nat} {b:List UInt8} {R:List cJ} (h:k≤b.length):cz (cS (.slice ad b.length c) b::R) (cS (.slice ad (b.take k).length c) (b.take k)::R):=by
 have e1:(b.take k).length=k:=by rw [aF];omega
 have:=nP (E:=pG) (n:=1) (c:=c) (ad:=ad) (xs:=b.map u8) (R:=R) h;rw [Nat.mul_one,← List.map_take] at this
 unfold cS;rw [e1];exact this
theorem tz {v:Value} {b:List UInt8} {L R:List cJ} (p:cR L (cS v b) R):∀ h,dN L h→∃ ad c,v=.slice ad b.length c∧b.length≤c∧c≤maxLen:=fun h x=>by
 obtain ⟨⟨ad,c,h1,h2,h3,_⟩,_⟩:=fP p h x;exact ⟨ad,c,h1,h2,h3⟩
theorem D3 {E n k c:Nat} {ad:Option Addr} {xs:List Value} {L R:List cJ} (p:cR L (dE E n (.slice ad k c) k xs) R) (hk:0<k):∀ h,dN L h→∃ g,ad=some ⟨g,0,none⟩:=fun h x=>by
 obtain ⟨⟨a,c',h1,_,_,h4⟩,_⟩:=fP p h x
 cases h1
 rcases h4 with ⟨_,_,h0⟩|h0
 ·omega
 ·exact h0
theorem db.p6 {L:List cJ} {ad:Option Addr} {c k:Nat} {l:List UInt8} (h:db L (.slice ad l.length c) l) (hk:k≤l.length):db L (.slice ad k c) (l.take k):=by
 have:=cE.p6 (L:=L) h hk;rw [Nat.mul_one,← List.map_take] at this
 have e:(l.take k).length=k:=by simp;omega
 unfold db;rw [e];exact this
theorem db.one {L:List cJ} {v:Value} {l:List UInt8} (h:db L v l):∀ x,dN L x→v.oneCell'=true:=fun x hx=>by
 obtain ⟨⟨ad,c,rfl,_⟩,_⟩:=h.shape zo x hx
 rfl
theorem cn {L:List cJ} {v:Value} {l:List UInt8} (h:db L v l):∀ x,dN L x→v.oneCell'=true:=db.one h
end Go.Proofs
namespace Go.Bs
abbrev ej:=Value × List UInt8
def dQ (L:List cJ) (l:List ej):Prop:=∀ a∈l,db L a.1 a.2
theorem dQ.tail {A:cJ} {L:List cJ} {l:List ej} (h:dQ L l):dQ (A::L) l:=fun a ha=>(h a ha).tail
theorem cz.under {L L':List cJ} (f:cz L L'):∀ M:List cJ,cz (M++L) (M++L')
 | []=>f
 | _::M=>bh (cz.under f M)
theorem all_append {M N R:List cJ}:cz (dI M::dI N::R) (dI (M++N)::R):=by
 refine cj cT (cj (cz.under cT M) ?_);rw [← aM];exact dR
theorem A6 {M N R:List cJ}:cz (dI (M++N)::R) (dI M::dI N::R):=by
 refine cj cT ?_;rw [aM];exact cj (cz.under dR M) dR
theorem D4 {A:cJ}:∀ {M:List cJ} {h:dj},A∈M→dN M h→∃ h1,dj.le h1 h∧A h1
 | [],_,hm,_=>by cases hm
 | B::M,h,hm,x=>by
  obtain ⟨h1,h2,a,b,c,hB,hM⟩:=x;rcases aQ.1 hm with rfl|hm
  ·exact ⟨h1,b,hB⟩
  ·obtain ⟨h3,d,hA⟩:=D4 hm hM;exact ⟨h3,dj.le_trans d c,hA⟩
def item (a:ej):cJ:=View 1 a.1 a.2.length (a.2.map u8)
def cH (l:List ej):cJ:=dI (l.map item)
theorem eF {l:List ej} {R:List cJ}:dQ (cH l::R) l:=fun a ha h x=>by
 obtain ⟨h1,h2,_,b,_,hA,_⟩:=x;obtain ⟨h3,c,hi⟩:=D4 (aE.2 ⟨a,ha,rfl⟩) hA;exact View.le hi (dj.le_trans c b)
theorem dK {R:List cJ}:cz R (cH []::R):=dR (M:=[])
theorem eL {l m:List ej} {R:List cJ}:cz (cH l::cH m::R) (cH (l++m)::R):=by
 unfold cH;rw [ah];exact all_append
theorem qd {l m:List ej} {R:List cJ}:cz (cH (l++m)::R) (cH l::cH m::R):=by
 unfold cH;rw [ah];exact A6
theorem JM {a:ej} {R:List cJ}:cz (View 1 a.1 a.2.length (a.2.map u8)::R) (cH [a]::R):=dR (M:=[item a])
theorem ju {a:ej} {R:List cJ}:cz (dE pG 1 a.1 a.2.length (a.2.map u8)::R) (cH [a]::R):=xM.trans JM
theorem Gy {l:List ej} {R:List cJ} (k:Nat):cz (cH l::R) (cH (l.drop k)::R):=by
 conv=>lhs;rw [← List.take_append_drop k l]
 exact qd.trans (cz.drop aX)
abbrev ez:TypeId:=30
abbrev cV (v:Value) (l:List ej):cJ:=dE ez 1 v l.length (l.map (·.1))
section
variable {α:Type} {f:α→List Value} {n:Nat}
theorem A7 (hf:∀ a,(f a).length=n):∀ l:List α,(l.flatMap f).length=l.length*n
 | []=>by simp
 | m::l=>by
  rw [aU,aa,A7 hf l,hf,aN,Nat.add_mul];omega
theorem mH (hf:∀ a,(f a).length=n) (l:List α) (i:Nat):(l.flatMap f).take (i*n)=(l.take i).flatMap f:=by
 induction l generalizing i with
 | nil=>simp
 | cons m l ih =>
  cases i with
  | zero=>simp
  | succ i =>
   have h1:(i+1)*n=i*n+n:=Nat.succ_mul i n;rw [aU,List.take_succ_cons,aU,List.take_append,hf,aG (by rw [hf];omega),← ih]
   congr 2;omega
theorem xZ (hf:∀ a,(f a).length=n) (l:List α) (i:Nat):(l.flatMap f).drop (i*n)=(l.drop i).flatMap f:=by
 induction l generalizing i with
 | nil=>simp
 | cons m l ih =>
  cases i with
  | zero=>simp
  | succ i =>
   have h1:(i+1)*n=i*n+n:=Nat.succ_mul i n;rw [aU,List.drop_succ_cons,List.drop_append,hf,List.drop_of_length_le (by rw [hf];omega),← ih];simp only [List.nil_append]
   congr 1;omega
theorem r9 {l:List α} (h:∀ a∈l,∀ c∈f a,c.oneCell'=true):∀ c∈l.flatMap f,c.oneCell'=true:=fun c hc=>by
 obtain ⟨a,ha,hc⟩:=List.mem_flatMap.1 hc;exact h a ha c hc
end
end Go.Bs
namespace Go.Proofs
open Go.Bs
section
variable {P:Program} {N:Fr} {ops:Array Oper} {e:World} {σ0:Env} {L0:List cJ} {D:List DOp}
theorem OO {σ:Env} {k:Nat} {v:Value} (h:get σ k=some v):pZ σ [.tmp k]=some [v]:=by simp [pZ,ev,h]
theorem bS {o:Oper} {K:Env→List cJ→Prop} {σ:Env} {L L':List cJ} (f:cz L L') (h:Do P N o K σ e L'):Do P N o K σ e L:=fun a w ha hs=>h a w ha (hs.cL f)
theorem Do.T3 {o:Oper} {K:Env→List cJ→Prop} {σ:Env} {α:Sort _} {f:α→cJ} {R:List cJ} (h:∀ x,Do P N o K σ e (f x::R)):Do P N o K σ e (Ex f::R):=fun a w ha hs=>by
 obtain ⟨x,hx⟩:=xJ hs.2.2.2;exact h x a w ha ⟨hs.1,hs.2.1,hs.2.2.1,hx⟩
theorem Do.Vj {o:Oper} {K:Env→List cJ→Prop} {σ:Env} {p:Prop} {R:List cJ} (h:p→Do P N o K σ e R):Do P N o K σ e (Pu p::R):=fun a w ha hs=>by
 obtain ⟨hp,hx⟩:=jR hs.2.2.2;exact h hp a w ha ⟨hs.1,hs.2.1,hs.2.2.1,hx⟩
theorem Do.OP {o:Oper} {K:Env→List cJ→Prop} {σ:Env} {L:List cJ} {p:Prop} (f:∀ h,dN L h→p) (h:p→Do P N o K σ e L):Do P N o K σ e L:=fun a w ha hs=>h (f _ hs.2.2.2) a w ha hs
theorem Mc {M L R:List cJ} {A:cJ} (p:cR L A R):cR (M++L) A (M++R):=by
 induction M with
 | nil=>exact p
 | cons _ _ ih=>exact .succ ih
end
end Go.Proofs
namespace Go.Proofs
open Go.Bs
section
variable {P:Program} {N:Fr} {ops:Array Oper} {e:World} {σ0:Env} {L0:List cJ} {D:List m5}
theorem fx {a:Nat} (h:Nat.blt a 100000=true):a<100000:=Nat.le_of_ble_eq_true h
def Cg (cs:List Value) (t:TypeId) (v:Value) (_:Nat→Value):List cJ:=match v with|.pointer (some ⟨g,_,_⟩)=>[cK g cs t (0,0)]|_=>[]
abbrev Me (i d id t:Nat) (cs:List Value):m5:=⟨i,d,[],[],fun v _=>∃ g,v=pt g,[(id,Cg cs t)]⟩
theorem Ch {i d id t ty:Nat} {z:Value} {cs:List Value} {pos:String} {af:Array Edge} {gd:Option (Nat × Bool)} [q:fv P t z]
 (ho:ops[i]?=some ⟨some d,.alloc t,ty,pos,af,gd⟩) (hg:tj ops σ0 ⟨some d,.alloc t,ty,pos,af,gd⟩) (hd:Nat.blt d N.n=true) (hc:z.cells=cs.toArray) (he:qb D (Me i d id t cs)=[]) (hs:d<100000:=by decide):xW P N ops e σ0 L0 D (Me i d id t cs):=by
 refine ⟨_,ho,hg,fun V σr M h3 hy=>?_⟩;rw [he];exact bQ hc hd fun g=>⟨_,by rw [aI hs],⟨g,rfl⟩,aX⟩
abbrev Vk (i d id:Nat) (v:Value) (M:List cJ):m5:=⟨i,d,[],[],fun w _=>w=v,[(id,fun _ _=>M)]⟩
def tB (el:Nat) (cs:List Value) (v:Value) (_:Nat→Value):List cJ:=match v with|.slice (some ⟨g,_,_⟩) _ _=>[cK g cs el (0,0)]|_=>[]
abbrev Mf (i d id el:Nat) (cs:List Value):m5:=⟨i,d,[],[],fun v _=>∃ g,v=.slice (some ⟨g,0,none⟩) cs.length cs.length,[(id,tB el cs)]⟩
theorem Ci {i d id t el len X3 ty:Nat} {z:Value} {cs:List Value} {parts:List (Nat × Operand)} {vs:List (Nat × Value)} {pos:String} {af:Array Edge} {gd:Option (Nat × Bool)} [s:je P t el 1] [j:ru P el z 1 X3]
 (ho:ops[i]?=some ⟨some d,.buildSlice t len parts.toArray,ty,pos,af,gd⟩) (hg:tj ops σ0 ⟨some d,.buildSlice t len parts.toArray,ty,pos,af,gd⟩) (hd:Nat.blt d N.n=true)
 (he:qb D (Mf i d id el cs)=[]) (hv:∀ σr,(∀ k v,get σ0 k=some v→get σr k=some v)→uU σr parts=some vs) (hn:Nat.ble (len*1) 16777216=true) (hlen:vs.length=len) (hc:Bs.gS 1 0 vs cs) (hz:z.cells.size=1) (hb:cs.length=len) (hs:d<100000:=by decide):xW P N ops e σ0 L0 D (Mf i d id el cs):=by
 refine ⟨_,ho,hg,fun V σr M h3 hy=>?_⟩;rw [he];refine bE (hv σr h3) hd hn hlen hc hz (fun g=>⟨_,by rw [aI hs],⟨g,by rw [hb]⟩,?_⟩);exact aX
abbrev Gz (i d id:Nat) (l:List UInt8):m5:=⟨i,d,[],[],fun v _=>∃ ad c,v=.slice ad l.length c,[(id,fun v _=>[View 1 v l.length (l.map u8)])]⟩
theorem JN {i d id t T el n ty:Nat} {x:Operand} {l:List UInt8} {pos:String} {af:Array Edge} {gd:Option (Nat × Bool)} [q:je P t el n] [j:iu P el .u8] [s:u0 P T]
 (ho:ops[i]?=some ⟨some d,.convert T t x,ty,pos,af,gd⟩) (hg:tj ops σ0 ⟨some d,.convert T t x,ty,pos,af,gd⟩) (hd:Nat.blt d N.n=true) (he:qb D (Gz i d id l)=[])
 (h:∀ σr,(∀ k v,get σ0 k=some v→get σr k=some v)→ev σr x=some (.string (str l))) (hl:l.length≤maxLen) (hs:d<100000:=by decide):xW P N ops e σ0 L0 D (Gz i d id l):=by
 refine ⟨_,ho,hg,fun V σr M h3 hy=>?_⟩;rw [he];exact Do.ofStr (h σr h3) hl hd fun ad c=>⟨_,by rw [aI hs],⟨ad,c,rfl⟩,aX⟩
abbrev tC (i d:Nat) (gV:List Nat) (v:Value):m5:=⟨i,d,gV,[],fun w _=>w=v,[]⟩
theorem qe {i d:Nat} {gV:List Nat} {v:Value} {op:Op} {ty:TypeId} {pos:String} {af:Array Edge} {gd:Option (Nat × Bool)}
 (ho:ops[i]?=some ⟨some d,op,ty,pos,af,gd⟩) (hg:tj ops σ0 ⟨some d,op,ty,pos,af,gd⟩) (hd:Nat.blt d N.n=true) (he:qb D (tC i d gV v)=[])
 (h:∀ (V:Nat→Value) (σr:Env) (L:List cJ),(∀ k v,get σ0 k=some v→get σr k=some v)→(∀ y∈D,y.i∈gV→y.d<100000→get σr y.d=some (V y.i)∧y.ok (V y.i) (fJ y.gV V))→cz L L0→cD P N op ty v σr e L) (hs:d<100000:=by decide):xW P N ops e σ0 L0 D (tC i d gV v):=by
 refine ⟨_,ho,hg,fun V σr M h3 hy=>?_⟩;rw [he];exact bN (h V σr _ h3 hy (by rw [show lv V []=[] from rfl,List.nil_append];exact ku M)) hd ⟨_,by rw [aI hs],rfl,aX⟩
theorem qf {p:m5→Prop}:∀ y∈([]:List m5),p y:=fun y h=>by cases h
theorem dl {p:m5→Prop} {x:m5} {l:List m5} (h:p x) (h2:∀ y∈l,p y):∀ y∈x::l,p y:=fun y hy=>by
 rcases aQ.1 hy with rfl|hy
 ·exact h
 ·exact h2 y hy
end
end Go.Proofs
namespace Go.Proofs
attribute [local irreducible] Bs.cD Bs.Do Bs.O Bs.W Bs.Fin Bs.A Bs.Ct Bs.cE Bs.Rd Bs.Sat Bs.cK Bs.Ob Bs.dE Bs.View Bs.cz Bs.Ex Bs.dI Bs.Pu Bs.eY Bs.dN Bs.dZ
open Go.Bs
open Tryz
variable (R:List cJ) (e:World)
def x4 (g:Nat) (l:List UInt8) (ad:Option Addr) (c:Nat):cJ:=dI [cK g [.slice ad l.length c] 238 (0,0),cS (.slice ad l.length c) l]
def Writer (g:Nat) (l:List UInt8):cJ:=Ex fun ad=>Ex fun c=>x4 g l ad c
theorem sc {g:Nat} {l:List UInt8} {R:List cJ} {P:Program} {f:FuncId} {args:Array Value} {e:World} {Post:Value→List cJ→Prop}
 (h:∀ ad c,Ct P f args e (cK g [.slice ad l.length c] 238 (0,0)::cS (.slice ad l.length c) l::R) Post):Ct P f args e (Writer g l::R) Post :=
 Ct.ex .zero fun ad=>Ct.ex .zero fun c=>(h ad c).cL cT
theorem qS {g c:Nat} {ad:Option Addr} {l:List UInt8} {R:List cJ}:cz (cK g [.slice ad l.length c] 238 (0,0)::cS (.slice ad l.length c) l::R) (Writer g l::R) :=
 cj (dR (M:=[_,_])) (cj (fu (f:=fun c=>x4 g l ad c) c) (fu (f:=fun ad=>Ex fun c=>x4 g l ad c) ad))
theorem jh :
 Ct prog 73 #[] e R (fun v' L'=>∃ g,v'=pt g∧L'=Writer g []::R):=by
 refine a8 (args:=[]) func73 rfl ntmps73 results73 rfl ?_
 (repeat (refine wA ?_;intros))
 refine aY (Writer _ []::R) rfl ?_ ⟨_,rfl,rfl⟩;exact cj (bh (dv pG 1)) (qS (l:=[]))
theorem hI (g:Nat) (l m:List UInt8) (v:Value) (h:db R v m) (hk:l.length+m.length≤140737488355328) :
 Ct prog 108 #[pt g,v] e (Writer g l::R) (fun v' L'=>v'=.tuple #[]∧L'=Writer g (l++m)::R):=by
 refine sc fun ad c=>?_
 refine a8 (args:=[_,_]) func108 rfl ntmps108 results108 rfl ?_;refine wB ?_;refine bC (bo rfl rfl rfl (.succ .zero) (cE.tail h) rfl rfl mG zm zo fun lM c' lU=>?_)
 refine wB ?_;refine bT (Writer g (l++m)::R) rfl ?_ ⟨rfl,rfl⟩;rw [← ah,← aa];exact cj (bw (.succ .zero) aX) qS
theorem D5 {n:Nat} {j:Nat} (hn:n<4294967296) (hj:j<4):IntKind.u8.wrap ((n:Int).fdiv (2 ^ (min (8*(j:Int)).toNat 32)))=((UInt8.ofNat (n / 256 ^ j)).toNat:Int):=by
 have h1:min (8*(j:Int)).toNat 32=8*j:=by omega
 rw [h1,Int.fdiv_eq_ediv_of_nonneg _ (by exact Int.le_of_lt (Int.pow_pos zo))];have h2:(2:Int) ^ (8*j)=((256 ^ j:Nat):Int):=by rw [Int.pow_mul];simp
 rw [h2,← Int.natCast_ediv];unfold IntKind.wrap
 simp [IntKind.bits,IntKind.signed]
theorem qg (g:Nat) (l:List UInt8) (n size:Nat) (hn:n<4294967296) (hs:size≤4) (hk:l.length+size≤140737488355328) :
 Ct prog 148 #[pt g,.int .u32 n,.int .i64 size] e (Writer g l::R) (fun v' L'=>v'=.tuple #[]∧L'=Writer g (l++be n size)::R):=by
 refine sc fun ad c=>?_
 refine a8 (args:=[_,_,_]) func148 rfl ntmps148 results148 rfl ?_;refine wB ?_;refine bq (ι:=Nat × List UInt8 × Option Addr × Nat) (fun i=>[(0,pt g),(1,.int .u32 n),(6,.int .i64 ((i.1:Int) - 1))])
  (fun i=>cK g [.slice i.2.2.1 (l++i.2.1).length i.2.2.2] 238 (0,0)::cS (.slice i.2.2.1 (l++i.2.1).length i.2.2.2) (l++i.2.1)::R)
  (fun i=>i.1≤size∧i.2.1++be n i.1=be n size) (fun i=>i.1) (size,[],ad,c) ⟨aS _,rfl⟩ (cC rfl (cC rfl (cC rfl dd))) (by simp only [aK];exact aX) ?_
 rintro ⟨j,done,ad,c⟩ ⟨hj,hd⟩;dsimp only at hj hd ⊢
 have hl:done.length+j=size:=by have:=congrArg List.length hd;simpa [cX] using this
 cases j with
 | zero =>
  refine wB ?_;simp only [be,aK] at hd
  subst hd;exact bT _ rfl (qS (l:=_++_)) ⟨rfl,rfl⟩
 | succ j =>
  have e1:((j+1:Nat):Int) - 1=(j:Int):=by omega
  simp only [e1];refine wB ?_;refine bk [12,13,14] [cK g [.slice ad (l++done).length c] 238 (0,0)] mixed ?_;refine tM 0 ?_;refine tM 1 ?_;refine tN 2 ?_;refine tF 3 ?_;refine tL 4 ?_;refine tM 5 ?_;refine tM 6 ?_;refine tk 7 _ rfl (cD.wc rfl rfl zo) ?_;refine tk 8 _ rfl (cD.shr rfl rfl zo) ?_;refine tk 9 _ rfl (cD.jP rfl) ?_;refine tO 10 ?_;refine bE rfl rfl (by rfl) (by rfl) zQ (by rfl) (fun g'=>⟨fun _=>zE,?_⟩);refine tO 11 ?_;have hb:=D5 (j:=j) hn zo;refine bo (m:=1) (ys:=[u8 (UInt8.ofNat (n / 256 ^ j))]) rfl rfl rfl (.succ (.succ .zero)) ?_ rfl rfl (by simp [u8,Value.oneCell']) (by simp only [maxLen];simp;omega) (by simp;omega) (fun lM c' lU=>⟨fun _=>zE,?_⟩)
  ·exact (bB .zero rfl zl).cast (congrArg (fun x=>[Value.int .u8 x]) hb)
  refine tO 12 ?_;refine dV (bn rfl) ?_;refine tO 13 ?_;refine dV (ba rfl) ?_;refine tO 14 ?_;refine b7 rfl rfl rfl zU .zero ⟨zN,?_⟩;refine bf zK ?_;refine wB ?_;refine bi (j,done++[UInt8.ofNat (n / 256 ^ j)],lM,c') ?_ ?_ ?_ ?_
  ·exact ⟨by dsimp only;omega,by simpa [be] using hd⟩
  ·exact Nat.lt_succ_self j
  ·exact cC rfl (cC rfl (cC rfl dd))
  ·have e2:(l++(done++[UInt8.ofNat (n / 256 ^ j)])).length=(l++done).length+1:=by simp;omega
   have e3:(l++(done++[UInt8.ofNat (n / 256 ^ j)])).map u8=List.map u8 (l++done)++[u8 (UInt8.ofNat (n / 256 ^ j))]:=by simp
   dsimp only;rw [cS,e2,e3];exact zE
theorem mz (g:Nat) (l:List UInt8) (b:UInt8) (hk:l.length+1≤140737488355328) :
 Ct prog 121 #[pt g,u8 b] e (Writer g l::R) (fun v' L'=>v'=.tuple #[]∧L'=Writer g (l++[b])::R):=by
 refine a8 (args:=[_,_]) func121 rfl ntmps121 results121 rfl ?_;have hb:b.toNat<256:=b.toNat_lt;refine wB ?_;refine bC (bg rfl rfl (qg R e g l b.toNat 1 zo zo hk) ?_)
 rintro _ _ ⟨rfl,rfl⟩
 (repeat (refine wA ?_;intros))
 refine bT _ rfl aX ⟨rfl,?_⟩
 simp [be]
theorem gD (g:Nat) (l:List UInt8) (n:Nat) (hn:n<4294967296) (hk:l.length+4≤140737488355328) :
 Ct prog 74 #[pt g,.int .u32 n] e (Writer g l::R) (fun v' L'=>v'=.tuple #[]∧L'=Writer g (l++be n 4)::R):=by
 refine a8 (args:=[_,_]) func74 rfl ntmps74 results74 rfl ?_;refine wB ?_;refine bC (bg rfl rfl (qg R e g l n 4 zo zo hk) ?_)
 rintro _ _ ⟨rfl,rfl⟩
 (repeat (refine wA ?_;intros))
 exact bT _ rfl aX ⟨rfl,rfl⟩
theorem x5 (g:Nat) (l m:List UInt8) (v:Value) (h:db R v m) (hk:l.length+m.length+2≤140737488355328) (hm:m.length≤65535) :
 Ct prog 120 #[pt g,v] e (Writer g l::R) (fun v' L'=>v'=.bool true∧L'=Writer g (l++be m.length 2++m)::R):=by
 refine a7 ((db.tail h).shape zo) ?_;rintro ⟨⟨ad,cap,rfl,h3,h4,h5,h6⟩,_⟩;refine a8 (args:=[_,_]) func120 rfl ntmps120 results120 rfl ?_;refine wB ?_;refine bC (bg rfl rfl (qg R e g l m.length 2 zo zo zo) ?_)
 rintro _ _ ⟨rfl,rfl⟩;refine wB ?_;refine bC (bg rfl rfl (hI R e g _ m _ h (by simp [cX];omega)) ?_)
 rintro _ _ ⟨rfl,rfl⟩;refine wB ?_;exact aY _ rfl aX ⟨rfl,rfl⟩
theorem GA (g:Nat) (l m:List UInt8) (v:Value) (h:db R v m) (hm:65535<m.length) :
 Ct prog 120 #[pt g,v] e (Writer g l::R) (fun v' L'=>v'=.bool false∧L'=Writer g l::R):=by
 refine a7 ((db.tail h).shape zo) ?_;rintro ⟨⟨ad,cap,rfl,h3,h4,h5,h6⟩,_⟩;refine a8 (args:=[_,_]) func120 rfl ntmps120 results120 rfl ?_;refine wB ?_;exact aY _ rfl aX ⟨rfl,rfl⟩
theorem hJ (g:Nat) (l:List UInt8) (hk:l.length≤140737488355328) :
 Ct prog 77 #[pt g] e (Writer g l::R) (fun v' L'=>∃ ad c,v'=.slice ad l.length c∧L'=cS (.slice ad l.length c) l::Writer g l::R):=by
 refine sc fun ad c=>?_
 refine a8 (args:=[_]) func77 rfl ntmps77 results77 rfl ?_;refine wB ?_;refine bC (bg rfl rfl (dw _ e _ l (bb (.succ .zero)) hk) ?_)
 rintro _ _ ⟨lM,c',rfl,rfl⟩;refine wB ?_;exact aY _ rfl (bh qS) ⟨_,_,rfl,rfl⟩
def x6 (g:Nat) (s:eX) (ad:Option Addr) (c:Nat):cJ:=dI [cK g [.slice ad s.left.length c,.bool s.bad] 289 (0,0),View 1 (.slice ad s.left.length c) s.left.length (s.left.map u8)]
def Reader (g:Nat) (s:eX):cJ:=Ex fun ad=>Ex fun c=>x6 g s ad c
theorem mI {g:Nat} {s:eX} {R:List cJ} {P:Program} {f:FuncId} {args:Array Value} {e:World} {Post:Value→List cJ→Prop}
 (h:∀ ad c,Ct P f args e (cK g [.slice ad s.left.length c,.bool s.bad] 289 (0,0)::View 1 (.slice ad s.left.length c) s.left.length (s.left.map u8)::R) Post):Ct P f args e (Reader g s::R) Post :=
 Ct.ex .zero fun ad=>Ct.ex .zero fun c=>(h ad c).cL cT
theorem iK {g c:Nat} {ad:Option Addr} {s:eX} {R:List cJ}:cz (cK g [.slice ad s.left.length c,.bool s.bad] 289 (0,0)::View 1 (.slice ad s.left.length c) s.left.length (s.left.map u8)::R) (Reader g s::R) :=
 cj (dR (M:=[_,_])) (cj (fu (f:=fun c=>x6 g s ad c) c) (fu (f:=fun ad=>Ex fun c=>x6 g s ad c) ad))
theorem x8 {n:Nat} {L:List cJ}:cz L (View n nY 0 []::L):=(dv 0 n).trans xM
theorem jv (v:Value) (l:List UInt8) (h:db R v l) (hk:l.length≤140737488355328) :
 Ct prog 127 #[v] e R (fun v' L'=>∃ g,v'=pt g∧L'=Reader g ⟨l,false⟩::R):=by
 refine a8 (args:=[_]) func127 rfl ntmps127 results127 rfl ?_;refine wB ?_;refine aZ rfl rfl (dw R e v l h hk) ?_;rintro _ _ ⟨ad,c,rfl,rfl⟩
 (repeat (refine wA ?_;intros))
 exact aY _ rfl ((bh xM).trans (iK (s:=⟨l,false⟩))) ⟨_,rfl,rfl⟩
theorem D6 (g:Nat) (s:eX) (n:Int) (hf:s.fits n=true) :
 Ct prog 211 #[pt g,.int .i64 n] e (Reader g s::R) (fun v' L'=>∃ ad c,v'=.slice ad n.toNat c ∧
  L'=cK g [.slice (cutAt ad c n.toNat 1) (s.left.length - n.toNat) (c - n.toNat),.bool false] 289 (0,0)::View 1 (.slice ad s.left.length c) s.left.length (s.left.map u8)::R):=by
 obtain ⟨l,bad⟩:=s;simp only [eX.fits,Bool.and_eq_true,Bool.not_eq_true',decide_eq_true_eq] at hf
 obtain ⟨⟨rfl,h0⟩,h1⟩:=hf;refine mI fun ad c=>?_
 refine a7 (cE.shape (cE.view (.succ .zero)) zo) ?_;rintro ⟨⟨lM,c',hv,h3,h4,h5,h6⟩,_⟩
 cases hv
 dsimp only at h1 h3 ⊢
 refine a8 (args:=[_,_]) func211 rfl ntmps211 results211 rfl ?_;refine wB ?_;exact aY _ rfl aX ⟨_,_,rfl,rfl⟩
theorem ID (g:Nat) (s:eX) (n:Int) (hf:s.fits n=false) :
 Ct prog 211 #[pt g,.int .i64 n] e (Reader g s::R) (fun v' L'=>v'=nY∧L'=Reader g ⟨[],true⟩::R):=by
 obtain ⟨l,bad⟩:=s;refine mI fun ad c=>?_
 dsimp only;refine a8 (args:=[_,_]) func211 rfl ntmps211 results211 rfl ?_
 cases bad with
 | true =>
  refine wB ?_;exact aY _ rfl ((bh (cz.drop x8)).trans (iK (s:=⟨[],true⟩))) ⟨rfl,rfl⟩
 | false =>
  simp only [eX.fits,Bool.not_false,Bool.true_and,Bool.and_eq_false_iff,decide_eq_false_iff_not] at hf
  by_cases h0:n<0
  ·refine wB ?_;exact aY _ rfl ((bh (cz.drop x8)).trans (iK (s:=⟨[],true⟩))) ⟨rfl,rfl⟩
  ·refine wB ?_;exact aY _ rfl ((bh (cz.drop x8)).trans (iK (s:=⟨[],true⟩))) ⟨rfl,rfl⟩
theorem A8 {g c:Nat} {ad:Option Addr} {l:List UInt8} {k:Nat} {R:List cJ} (h:k≤l.length) :
 cz (cK g [.slice (cutAt ad c k 1) (l.length - k) (c - k),.bool false] 289 (0,0)::View 1 (.slice ad l.length c) l.length (l.map u8)::R) (Reader g ⟨l.drop k,false⟩::R):=by
 refine (bh (Gn h)).trans ?_;have e1:(l.drop k).length=l.length - k:=by simp
 have e2:(l.map u8).drop (k*1)=(l.drop k).map u8:=by simp
 rw [e2,← e1];exact iK (s:=⟨l.drop k,false⟩)
theorem OQ (m c:Nat) (hc:c<256):Go.bits .or .u32 (IntKind.u32.wrap ((m:Int)*2 ^ (min (8:Int).toNat 32))) (IntKind.u32.wrap (c:Int))=(((m*256) % 4294967296+c:Nat):Int):=by
 rw [wrap_u32 (n:=(c:Int)) zo zo]
 have e0:IntKind.u32.wrap ((m:Int)*2 ^ (min (8:Int).toNat 32))=(((m*256) % 4294967296:Nat):Int):=by
  have:(2:Int) ^ (min (8:Int).toNat 32)=256:=by decide
  rw [this];unfold IntKind.wrap
  simp [IntKind.bits,IntKind.signed]
 rw [e0];have e1:m*256 % 4294967296=2 ^ 8*(m % 16777216):=by omega
 unfold Go.bits;simp only [IntKind.bits]
 have e2:(BitVec.ofInt 32 ((m*256 % 4294967296:Nat):Int) ||| BitVec.ofInt 32 (c:Int)).toNat=m*256 % 4294967296+c:=by
  rw [BitVec.toNat_or,BitVec.ofInt_natCast,BitVec.ofInt_natCast,BitVec.toNat_ofNat,BitVec.toNat_ofNat];rw [Nat.mod_eq_of_lt (show m*256 % 4294967296<2 ^ 32 by omega),Nat.mod_eq_of_lt (show c<2 ^ 32 by omega),e1];exact (Nat.two_pow_add_eq_or_of_lt zo _).symm
 exact (congrArg (fun x:Nat=>IntKind.u32.wrap (x:Int)) e2).trans (wrap_u32 zo zo)
theorem oP (g:Nat) (s:eX) (n:Nat) :
 Ct prog 210 #[pt g,.int .i64 n] e (Reader g s::R) (fun v' L'=>v'=.int .u32 (s.num n)∧L'=Reader g (s.next n)::R):=by
 refine a8 (args:=[_,_]) func210 rfl ntmps210 results210 rfl ?_;refine wB ?_
 cases hf:s.fits n with
 | false =>
  refine aZ rfl rfl (ID R e g s n hf) ?_;rintro _ _ ⟨rfl,rfl⟩;refine wB ?_;refine bq (ι:=Unit) (fun _=>[(5,.int .u32 0),(11,.int .i64 0),(12,.int .i64 0)]) (fun _=>Reader g ⟨[],true⟩::R) (fun _=>True) (fun _=>0) () trivial (cC rfl (cC rfl (cC rfl dd))) aX ?_;intro _ _;refine wB ?_;refine aY _ rfl aX ⟨?_,?_⟩
  ·simp [AS,eX.num,eX.take,hf,numOf]
  ·simp [eX.next,hf]
 | true =>
  refine aZ rfl rfl (D6 R e g s n hf) ?_;rintro _ _ ⟨ad,c,rfl,rfl⟩
  have hn:n≤s.left.length:=by
   simp only [eX.fits,Bool.and_eq_true,decide_eq_true_eq] at hf
   omega
  obtain ⟨l,bad⟩:=s;dsimp only at hn
  simp only [Int.toNat_natCast]
  generalize hB:View 1 (.slice ad l.length c) l.length (l.map u8)=B
  have jw:∀ A,db (A::B::R) (.slice ad n c) (l.take n):=fun A=>by
   subst hB;exact db.p6 (cE.view (.succ .zero)) hn
  have hlen:(l.take n).length=n:=by simp;omega
  refine wB ?_;refine W.cB (cE.shape (jw _) zo) ?_;rintro ⟨⟨lM,c',hv,h3,h4,h5,h6⟩,_⟩;rw [hlen] at hv h3 h6
  cases hv
  simp only [maxLen] at h4
  refine bq (ι:=Nat) (fun i=>[(5,.int .u32 (numOf (l.take i))),(10,.slice ad n c),(11,.int .i64 n),(12,.int .i64 i)])
   (fun _=>cK g [.slice (cutAt ad c n 1) (l.length - n) (c - n),.bool false] 289 (0,0)::B::R) (fun i=>i≤n) (fun i=>n - i) 0 (aH _) (cC rfl (cC rfl (cC rfl (cC rfl dd)))) aX ?_
  intro i hi
  by_cases cO:i<n
  ·have hc:=(l[i]'zo).toNat_lt;rcases h6 with h6|⟨gb,ob,rfl⟩
   ·omega
   have AW:=db.elem (jw (cK g [.slice (cutAt (some ⟨gb,ob,none⟩) c n 1) (l.length - n) (c - n),.bool false] 289 (0,0))) (j:=i) (b:=l[i]'zo) (by simp [cO]);refine wB ?_
   have e5:numOf (l.take (i+1))=(numOf (l.take i)*256) % 4294967296+(l[i]'zo).toNat:=by
    rw [aD zo,xY]
   refine bi (i+1) ?_ ?_ (cC ?_ (cC rfl (cC rfl (cC rfl dd)))) aX
   ·exact cO
   ·show n - (i+1)<n - i
    omega
   ·rw [e5];rw [← OQ (numOf (l.take i)) _ hc,wrap_u32 (n:=((l[i]'zo).toNat:Int)) zo zo]
    rfl
  ·have gy:i=n:=by omega
   subst gy;refine wB ?_;subst hB;refine aY _ rfl (A8 hn) ⟨?_,?_⟩
   ·simp [AS,eX.num,eX.take,hf]
   ·simp [eX.next,hf]
theorem qT (g:Nat) (s:eX) :
 Ct prog 130 #[pt g] e (Reader g s::R) (fun v' L'=>v'=.int .u32 (s.num 4)∧L'=Reader g (s.next 4)::R):=by
 refine a8 (args:=[_]) func130 rfl ntmps130 results130 rfl ?_;refine wB ?_;refine aZ rfl rfl (oP R e g s 4) ?_;rintro _ _ ⟨rfl,rfl⟩;refine wB ?_;exact aY _ rfl aX ⟨rfl,rfl⟩
theorem JO (l:List UInt8) (h:l.length≤1):numOf l<256:=by
 match l,h with
 | [],_=>simp [numOf]
 | [c],_=>have:=c.toNat_lt;simp [numOf];omega
theorem x9 (g:Nat) (s:eX) :
 Ct prog 128 #[pt g] e (Reader g s::R) (fun v' L'=>v'=.int .u8 (s.num 1)∧L'=Reader g (s.next 1)::R):=by
 refine a8 (args:=[_]) func128 rfl ntmps128 results128 rfl ?_
 have h1:s.num ((1:Nat):Int)<256:=JO _ (by
  unfold eX.take
  split
  ·simp;omega
  ·exact aH _)
 refine wB ?_;refine aZ rfl rfl (oP R e g s 1) ?_;rintro _ _ ⟨rfl,rfl⟩;refine wB ?_;refine aY _ rfl aX ⟨?_,rfl⟩
 rfl
theorem nS (g:Nat) (s:eX) (n:Int) (hk:s.left.length≤140737488355328) :
 Ct prog 131 #[pt g,.int .i64 n] e (Reader g s::R) (fun v' L'=>∃ ad c,v'=.slice ad (s.take n).length c∧L'=cS (.slice ad (s.take n).length c) (s.take n)::Reader g (s.next n)::R):=by
 refine a8 (args:=[_,_]) func131 rfl ntmps131 results131 rfl ?_;refine wB ?_
 cases hf:s.fits n with
 | false =>
  refine aZ rfl rfl (ID R e g s n hf) ?_;rintro _ _ ⟨rfl,rfl⟩;refine wB ?_;refine aZ rfl rfl (dw _ e _ [] (db.nil _) (aH _)) ?_;rintro _ _ ⟨ad,c,rfl,rfl⟩;refine wB ?_;have e1:s.take n=[]:=by simp [eX.take,hf]
  have e2:s.next n=⟨[],true⟩:=by simp [eX.next,hf]
  exact aY _ rfl aX ⟨ad,c,by rw [e1];rfl,by rw [e1,e2]⟩
 | true =>
  refine aZ rfl rfl (D6 R e g s n hf) ?_;rintro _ _ ⟨ad,c,rfl,rfl⟩
  have hn:n.toNat≤s.left.length:=by
   simp only [eX.fits,Bool.and_eq_true,decide_eq_true_eq] at hf
   omega
  have e1:s.take n=s.left.take n.toNat:=by simp [eX.take,hf]
  have e2:s.next n=⟨s.left.drop n.toNat,false⟩:=by simp [eX.next,hf]
  refine wB ?_;refine aZ rfl rfl (dw _ e _ (s.left.take n.toNat) (db.p6 (cE.view (.succ .zero)) hn) (by simp;omega)) ?_;rintro _ _ ⟨lM,c',rfl,rfl⟩;refine wB ?_;exact aY _ rfl (bh (A8 hn)) ⟨lM,c',by rw [e1];rfl,by rw [e1,e2]⟩
theorem qh (g:Nat) (s:eX) (fE:Int) (hk:s.left.length≤140737488355328) :
 Ct prog 129 #[pt g,.int .i64 fE] e (Reader g s::R) (fun v' L'=>∃ ad c,v'=.slice ad (s.bytes fE).length c∧L'=cS (.slice ad (s.bytes fE).length c) (s.bytes fE)::Reader g (s.tw fE)::R):=by
 refine a8 (args:=[_,_]) func129 rfl ntmps129 results129 rfl ?_;have h2:=tu (s.take 2);have h3:=s.jg 2;refine wB ?_;refine aZ rfl rfl (oP R e g s 2) ?_;rintro _ _ ⟨rfl,rfl⟩;have e1:IntKind.i64.wrap ((s.num 2:Nat):Int)=s.num 2:=wrap_i64 zo (by unfold eX.num;omega);have e2:((2:Nat):Int)=2:=rfl;simp only [e2];have h4:s.num 2<4294967296:=h2
 by_cases hm:(s.num 2:Int) > max fE 0
 ·have hl:s.len fE = -1:=by simp only [eX.len,aI hm]
  have hm':(if (0:Int) > fE then 0 else fE)<(s.num 2:Int):=by split<;>omega
  refine wB ?_;refine aZ rfl rfl (nS R e g _ (-1) zo) ?_;rintro _ _ ⟨ad,c,rfl,rfl⟩;refine wB ?_;exact aY _ rfl aX ⟨ad,c,by simp only [eX.bytes,hl];rfl,by simp only [eX.bytes,eX.tw,hl]⟩
 ·have hl:s.len fE=s.num 2:=by simp only [eX.len,aB hm]
  have hm':¬ (if (0:Int) > fE then 0 else fE)<(s.num 2:Int):=by split<;>omega
  refine wB ?_;refine aZ rfl rfl (nS R e g _ (s.num 2) zo) ?_;rintro _ _ ⟨ad,c,rfl,rfl⟩;refine wB ?_;exact aY _ rfl aX ⟨ad,c,by simp only [eX.bytes,hl];rfl,by simp only [eX.bytes,eX.tw,hl]⟩
theorem vi (g:Nat) (s:eX) :
 Ct prog 145 #[pt g] e (Reader g s::R) (fun v' L'=>v'=.bool s.bad∧L'=Reader g s::R):=by
 refine mI fun ad c=>?_
 refine a8 (args:=[_]) func145 rfl ntmps145 results145 rfl ?_;refine wB ?_;exact aY _ rfl iK ⟨rfl,rfl⟩
theorem se (g:Nat) (s:eX) :
 Ct prog 140 #[pt g] e (Reader g s::R) (fun v' L'=>v'=.int .i64 s.left.length∧L'=Reader g s::R):=by
 refine mI fun ad c=>?_
 refine a8 (args:=[_]) func140 rfl ntmps140 results140 rfl ?_;refine wB ?_;exact aY _ rfl iK ⟨rfl,rfl⟩
theorem A9 (g:Nat) (s:eX) :
 Ct prog 132 #[pt g] e (Reader g s::R) (fun v' L'=>v'=.bool (!s.bad && decide (s.left=[]))∧L'=Reader g s::R):=by
 obtain ⟨l,bad⟩:=s;refine mI fun ad c=>?_
 refine a8 (args:=[_]) func132 rfl ntmps132 results132 rfl ?_;dsimp only
 cases bad with
 | true =>
  refine wB ?_;exact aY _ rfl (iK (s:=⟨l,true⟩)) ⟨rfl,rfl⟩
 | false =>
  cases l with
  | nil =>
   have h0:(([]:List UInt8).length:Int)=0:=rfl;refine wB ?_;exact aY _ rfl (iK (s:=⟨_,false⟩)) ⟨rfl,rfl⟩
  | cons x l =>
   have h0:¬ (((x::l).length:Int)=0):=by simp;omega
   refine wB ?_;exact aY _ rfl (iK (s:=⟨_,false⟩)) ⟨rfl,rfl⟩
theorem tD (g n:Nat) (r:List UInt8) (hn:n<4294967296) :
 Ct prog 130 #[pt g] e (Reader g ⟨be n 4++r,false⟩::R) (fun v' L'=>v'=.int .u32 n∧L'=Reader g ⟨r,false⟩::R):=by
 have h:=qT R e g ⟨be n 4++r,false⟩;have h2:=j3 (a:=be n 4) (rest:=r);rw [cX] at h2
 unfold eX.num at h
 rw [show ((4:Nat):Int)=4 from rfl] at h2
 rw [h2.1,h2.2,qR n hn] at h
 exact h
theorem vo (g:Nat) (b:UInt8) (r:List UInt8) :
 Ct prog 128 #[pt g] e (Reader g ⟨b::r,false⟩::R) (fun v' L'=>v'=u8 b∧L'=Reader g ⟨r,false⟩::R):=by
 have h:=x9 R e g ⟨b::r,false⟩;have h2:=j3 (a:=[b]) (rest:=r);unfold eX.num at h
 have e1:eX.take ⟨b::r,false⟩ 1=[b]:=h2.1;have e2:eX.next ⟨b::r,false⟩ 1=⟨r,false⟩:=h2.2;rw [e1,e2,show numOf [b]=b.toNat by simp [numOf]] at h
 exact h
theorem ya (g n:Nat) (x r:List UInt8) (hn:x.length=n) (hk:(x++r).length≤140737488355328) :
 Ct prog 131 #[pt g,.int .i64 (n:Int)] e (Reader g ⟨x++r,false⟩::R) (fun v' L'=>∃ ad c,v'=.slice ad x.length c∧L'=cS (.slice ad x.length c) x::Reader g ⟨r,false⟩::R):=by
 subst hn;have h:=nS R e g ⟨x++r,false⟩ (x.length:Int) hk;have h2:=j3 (a:=x) (rest:=r);rw [h2.1,h2.2] at h
 exact h
theorem IE (g:Nat) (x r:List UInt8) (fE:Int) (hx:x.length≤65535) (hm:(x.length:Int)≤fE) (hk:(enc x++r).length≤140737488355328) :
 Ct prog 129 #[pt g,.int .i64 fE] e (Reader g ⟨enc x++r,false⟩::R) (fun v' L'=>∃ ad c,v'=.slice ad x.length c∧L'=cS (.slice ad x.length c) x::Reader g ⟨r,false⟩::R):=by
 have h:=qh R e g ⟨enc x++r,false⟩ fE hk;have h2:=u9 x r fE hx zo;rw [h2.1,h2.2] at h
 exact h
theorem yc (g:Nat) (l:List UInt8) :
 Ct prog 132 #[pt g] e (Reader g ⟨l,false⟩::R) (fun v' L'=>v'=.bool (decide (l=[]))∧L'=Reader g ⟨l,false⟩::R):=by
 have h:=A9 R e g ⟨l,false⟩;exact h
end Go.Proofs
namespace Go.Bs
def Fw (ro:Option Nat):Fence:={ Fence.wide with round:=ro }
theorem GB {ro:Option Nat} {n:Nat} {P:Program} {f:FuncId} {args:Array Value} {w:World} {R:Ending→World→Prop} (h:Calls P f args w R):CallsIn (Fw ro) n P f args w R:=by
 have h1:=(callsIn_wide (n:=n)).2 h
 cases ro with
 | none=>exact h1
 | some l=>exact h1
theorem JP {ro:Option Nat} {n:Nat} {P:Program} {row:String} {args:Array Value} {w:World} {R:Value→World→Prop} (h:Rows P row args w R):RowsIn (Fw ro) n P row args w R:=fun c cs _=>by
 obtain ⟨v,w',r,s⟩:=h c cs;exact ⟨v,w',r,by have:=stepsIn_wide.2 s;cases ro<;>exact this⟩
def Cj:Op→Bool
 | .defer _=>false
 | _=>true
theorem GC {ro:Option Nat} {P:Program} {o:Oper} {a:Act} {w:World} {next:Act→World→Prop} {Q:Exit→Act→World→Prop} (hd:Cj o.op=true) (h:o.wp P a w next Q):o.wpIn (Fw ro) 0 P a w next Q:=by
 refine ⟨fun _ _=>trivial,?_⟩;rw [Oper.semAt_eq _ _ _ (fun c hc=>by rw [hc] at hd;cases hd)];unfold Oper.wp at h
 cases hr:(execOp a.eval o).run P w with
 | ok x w' =>
  rw [hr] at h
  cases x with
  | value v=>exact h
  | skip=>exact h
  | defer d=>exact h
  | enter f args=>exact ⟨fun h=>by cases ro<;>simp [Fw,Fence.wide] at h,GB h⟩
  | row r args=>exact ⟨fun h=>by cases ro<;>simp [Fw,Fence.wide] at h,JP h⟩
  | _=>exact h.elim
 | halt x w' =>
  rw [hr] at h
  cases x with
  | panic v=>exact h
  | _=>exact h.elim
def OI (ro:Option Nat) (P:Program) (N:Fr) (all:Array Oper) (l:List Oper) (Q:fO) (σ:Env) (e:World) (L:List cJ):Prop:=∀ a w,Has N σ a→Sat e L w→wpListIn (Fw ro) 0 P all (WQ N Q) l a w
def WI (ro:Option Nat) (P:Program) (N:Fr) (c:Code) (Q:fO) (σ:Env) (e:World) (L:List cJ):Prop:=∀ a w,Has N σ a→Sat e L w→c.wpIn (Fw ro) 0 P (WQ N Q) a w
section
variable {P:Program} {N:Fr} {Q:fO} {σ:Env} {e:World} {L:List cJ} {all:Array Oper} {rest:List Oper} {ro:Option Nat}
variable {d:Nat} {op:Op} {ty:TypeId} {pos:String} {af:Array Edge} {x:Operand}
theorem W.Zp {c:Code} (h:WI none P N c Q σ e L):W P N c Q σ e L:=fun a w ha hs=>wpIn_wide.1 (h a w ha hs)
theorem WI.region {id:Nat} {l:List Oper} (h:OI ro P N l.toArray l Q σ e L):WI ro P N (.region id l.toArray false) Q σ e L:=fun a w ha hs=>wpIn_region_lit (h a w ha hs)
theorem WI.block {id:Nat} {c:Code} (h:WI ro P N c (jS id Q) σ e L):WI ro P N (.block id c) Q σ e L:=fun a w ha hs =>
 wpIn_block (Go.wpIn_mono (h a w ha hs) fun x a w q=>by
  cases x with
  | exit i =>
   obtain ⟨σ',h1,h2⟩:=q;simp only [Exit.inBlock];simp only [jS] at h2
   split
   ·rename_i e;rw [aI e] at h2;exact ⟨σ',h1,h2⟩
   ·rename_i e;rw [aB e] at h2;exact ⟨σ',h1,h2⟩
  | _=>exact q)
theorem WI.code {c c':Code} (h:c=c') (k:WI ro P N c' Q σ e L):WI ro P N c Q σ e L:=h ▸ k
theorem OI.nil (h:Fin Q .normal σ e L):OI ro P N all [] Q σ e L:=fun _ w ha hs=>⟨σ,ha,h w hs⟩
theorem OI.do {dst:Option Tmp} (hn:Cj op=true) (h:Do P N ⟨dst,op,ty,pos,af,none⟩ (fun σ' L'=>OI ro P N all rest Q σ' e L') σ e L):OI ro P N all (⟨dst,op,ty,pos,af,none⟩::rest) Q σ e L :=
 fun a w ha hs=>wpListIn_plain rfl fun K hK=>GC hn (h a w ha hs K _ fun _ _ a' w' ho DA oF=>hK a' w' (ho a' w' DA oF))
theorem OI.val (v:Value) (hn:Cj op=true) (h:cD P N op ty v σ e L) (hd:Nat.blt d N.n=true) (k:OI ro P N all rest Q ((d,v)::σ) e L):OI ro P N all (⟨some d,op,ty,pos,af,none⟩::rest) Q σ e L :=
 OI.do hn (bN h hd k)
def Rt (P:Program) (l:Nat) (args:Array Value) (e:World) (L:List cJ) (Post:Value→List cJ→Prop):Prop:=∀ w,Sat e L w→YieldAt Fence.wide 0 P l args w (jD e Post)
theorem OI.yield {l:Nat} {xs:List Operand} {vs:List Value} {ats:Array TypeId} {Post:Value→List cJ→Prop} (hf:ev σ x=some (.func (.yield l) #[] #[])) (hx:pZ σ xs=some vs) (hd:Nat.blt d N.n=true) (h:Rt P l vs.toArray e L Post)
 (k:∀ v L',Post v L'→OI none P N all rest Q ((d,v)::σ) e L'):OI none P N all (⟨some d,.call { callee:=.value x,args:=xs.toArray,argTypes:=ats },ty,pos,af,none⟩::rest) Q σ e L:=fun a w ha hs =>
 wpListIn_plain rfl fun K hK=>by
  refine ⟨fun _ _=>trivial,?_⟩;obtain ⟨fn,tmps,assign,body,hy,hR⟩:=h w hs
  have h1:(execOp a.eval ⟨some d,.call { callee:=.value x,args:=xs.toArray,argTypes:=ats },ty,pos,af,none⟩).run P w=.ok (.round l fn tmps assign body) w:=by
   have h2:(#[]++xs.toArray.map a.eval:Array Value)=vs.toArray:=by simp [ha.pZ hx]
   simp only [execOp,resolve,ha.ev hf,Deferred.ofValue,Sem.run_bind,Sem.run_pure,Result.andThen_ok,invoke];rw [h2];exact hy
  rw [show (Fw none).round=none from rfl,Oper.semAt_none,h1,Oper.uponIn_round];refine ⟨fun h=>by simp [Fw,Fence.wide] at h,hR.mono ?_⟩;rintro _ w' ⟨v,L',rfl,hp,oF⟩;exact hK _ _ (k v L' hp _ _ (ha.put hd v) oF)
def Lp (l:Nat) (r:Loop):cJ:=Ob l (.loop r)
def Df (D:Nat):cJ:=Ob D (.deferred (some []))
theorem Sat.put {o o':Obj} {g:Nat} {R:List cJ} {w:World} (h:Sat e (Ob g o::R) w):Sat e (Ob g o'::R) (w.putObj g o'):=by
 have hg:w.heap[g]?=some o:=by
  obtain ⟨h1,h2,_,b,_,hA,_⟩:=h.2.2.2;exact b g _ hA
 have cO:g<w.heap.size:=(Array.getElem?_eq_some_iff.1 hg).1;refine h.change rfl rfl rfl fun h1 hle hA=>?_
 refine ⟨fun b=>if b=g then some o' else none,?_,by simp [Ob],?_,?_⟩
 ·intro b o2 hb
  by_cases eb:b=g
  ·subst eb;simp only [if_true] at hb;rw [← hb];exact World.putObj_heap_same cO
  ·simp [eb] at hb
 ·intro b o2 hb hn
  by_cases eb:b=g
  ·subst eb;rw [show h1 b=_ from hA] at hn;cases hn
  ·simp [eb] at hb
 ·intro b hn o2 ho;have:b≠g:=by rintro rfl;rw [show h1 b=_ from hA] at hn;cases hn
  exact (World.putObj_heap_other this).trans ho
theorem Sat.obj {o:Obj} {g:Nat} {R:List cJ} {w:World} (h:Sat e (Ob g o::R) w):w.heap[g]?=some o:=by
 obtain ⟨h1,h2,_,b,_,hA,_⟩:=h.2.2.2;exact b g _ hA
def QR (e:World) (l:Nat) (r:Loop) (L2:List cJ):fO:=fun x σ w=>x=.normal∧Sat e (Lp l { r with state:=.busy }::L2) w
theorem Fin.Zr {l:Nat} {r:Loop} {L2:List cJ} (h:cz L (Lp l { r with state:=.busy }::L2)):Fin (QR e l r L2) .normal σ e L:=fun w hs=>⟨rfl,hs.cL h⟩
def QA (P:Program) (N:Fr) (l:Nat) (r:Loop) (e:World) (Q:fO):fO:=fun x σ w=>x=.normal∧∃ L,Sat e (Lp l r::L) w∧WI (some l) P N r.body Q σ e (Lp l { r with state:=.busy }::L)
theorem Fin.Zv {l:Nat} {r:Loop} {L':List cJ} (h:cz L (Lp l r::L')) (hb:WI (some l) P N r.body Q σ e (Lp l { r with state:=.busy }::L')):Fin (QA P N l r e Q) .normal σ e L:=fun w hs=>⟨rfl,L',hs.cL h,hb⟩
theorem Rt.mk {l p:Nat} {r:Loop} {v:Value} {L2:List cJ} (eK:r.state=.ready) (u6:r.pending=none) (hpa:r.params=#[p]) (hp:Nat.blt p N.n=true) (hN:N.ds=[]) (hr:Has N σ { tmps:=r.tmps,defers:=[] })
 (h:WI (some l) P N r.assign (QA P N l r e (QR e l r L2)) ((p,v)::σ) e (Lp l r::L)):Rt P l #[v] e (Lp l r::L) (fun v' L'=>v'=.bool true∧L'=Lp l r::L2):=fun w hs=>by
 have hl:=hs.obj;refine ⟨_,_,_,_,run_yield hl (by rw [hpa];rfl),roundIn_of_wpIn trivial ?_⟩;have hh:=hr.put hp v;have ht:((r.params.zip #[v]).foldl (fun tmps (t,a)=>tmps.setIfInBounds t a) r.tmps)=r.tmps.setIfInBounds p v:=by rw [hpa];simp
 rw [ht];refine Go.wpIn_mono (h _ w hh hs) fun x a1 w1 q=>?_
 cases x with
 | normal =>
  obtain ⟨σ1,h1,_,L',fR,hb⟩:=q;have qi:=fR.obj;refine ⟨_,run_beginRound qi eK,?_⟩;refine Go.wpIn_mono (hb a1 _ h1 fR.put) fun x a2 w2 q=>?_
  cases x with
  | normal =>
   obtain ⟨σ2,h2,_,m4⟩:=q;have pH:=m4.obj;refine ⟨_,_,run_endRound none pH,.bool true,_,rfl,⟨rfl,rfl⟩,?_⟩;have h3:=m4.put (o':=.loop r)
   have h4:({ { r with state:=.busy } with state:=if (none:Option Code).isNone then .ready else .done,pending:=none }:Loop)=r:=by
    cases r;simp at eK u6;subst eK u6;rfl
   rw [h4];exact h3
  | panic _=>exact q.elim
  | outgrown=>exact q.elim
  | _=>obtain ⟨_,_,h2,_⟩:=q;cases h2
 | panic _=>exact q.elim
 | outgrown=>exact q.elim
 | _=>obtain ⟨_,_,h2,_⟩:=q;cases h2
def WM (P:Program) (fn:Func) (N:Nat) (c:Code) (Post:Value→List cJ→Prop) (σ:Env) (e:World) (L:List cJ):Prop :=
 ∀ a w,Has ⟨N,[]⟩ σ a→Sat e L w→c.wp P (bodyPostM Fence.wide 0 P fn (jD e Post)) a w
def Qz (P:Program) (fn:Func) (N:Nat) (y:Code) (Post:Value→List cJ→Prop) (e:World):Env→World→Prop:=fun σ w=>∀ a,Has ⟨N,[]⟩ σ a→y.wp P (bodyPostM Fence.wide 0 P fn (jD e Post)) a w
def NoQ:fO:=fun _ _ _=>False
theorem WM.seq {fn:Func} {n:Nat} {x y:Code} {Post:Value→List cJ→Prop} (h:W P ⟨n,[]⟩ x (km (Qz P fn n y Post e) NoQ) σ e L):WM P fn n (.seq x y) Post σ e L:=fun a w ha hs =>
 wp_seq (Code.wp_mono (fun x a w q=>by
  cases x with
  | normal=>exact q.elim fun σ' h=>h.2 a h.1
  | panic _=>exact q.elim
  | outgrown=>exact q.elim
  | _=>obtain ⟨_,_,h2⟩:=q;exact h2.elim) (h a w ha hs))
theorem Fin.D7 {fn:Func} {n:Nat} {y:Code} {Post:Value→List cJ→Prop} (h:WM P fn n y Post σ e L):Fin (km (Qz P fn n y Post e) Q) .normal σ e L:=fun w hs a ha=>h a w ha hs
theorem Ct.RF {f:FuncId} {fn:Func} {c:Code} {n:Nat} {args:List Value} {Post:Value→List cJ→Prop}
 (hf:P.funcs[f]?=some fn) (hb:fn.body=some c) (hN:fn.ntmps=n) (hle:Nat.ble args.length n=true)
 (h:WM P fn n c Post (oI 0 args) e L):Ct P f args.toArray e L Post:=by
 subst hN;intro w hs;have hle:=Nat.le_of_ble_eq_true hle;refine (callsIn_wide (n:=0)).1 (callsIn_of_wp_marks hf hb trivial (wpIn_wide.2 (h _ w ⟨by simp;omega,rfl,fun k v hk=>?_⟩ hs)));have h1:=(nc args 0 k v hk).2;have cO:k<args.length:=(List.getElem?_eq_some_iff.1 h1).1;rw [Array.getElem?_append_left (by simpa using cO)]
 simpa using h1
def mk (D:Nat):Deferred:={ target:=.collected D,args:=#[] }
def Mg (D:Nat) (Post:Value→List cJ→Prop):Value→List cJ→Prop:=fun v L'=>∃ L1,L'=Df D::L1∧Post v L1
theorem Zw {fn:Func} {rs:Array ResultVar} {n D:Nat} {Post:Value→List cJ→Prop} (hr:fn.results=rs) {x:Exit} {a:Act} {w:World} (q:WQ ⟨n,[mk D]⟩ (AT rs (jD e (Mg D Post))) x a w):bodyPostM Fence.wide 0 P fn (jD e Post) x a w:=by
 subst hr
 have key:∀ σ',Has ⟨n,[mk D]⟩ σ' a→(∃ vs,p4 σ' fn.results.toList=some vs∧jD e (Mg D Post) (.returned (AS vs)) w)→LeavesInM Fence.wide 0 P fn a.tmps (jD e Post) a.defers .returning w:=fun σ' h1 ⟨vs,h2,v,L',h3,⟨L1,h4,h5⟩,h6⟩=>by
  cases h3
  subst h4;rw [h1.defers];refine ⟨by simp,.inl ⟨D,_,rfl,run_takeDeferred h6.obj,?_⟩⟩;exact ⟨_,p5 h1 h2,_,L1,rfl,h5,h6.put.cL (cz.drop aX)⟩
 cases x with
 | normal=>obtain ⟨σ',h1,h2⟩:=q;exact key σ' h1 h2
 | ret=>obtain ⟨σ',h1,h2⟩:=q;exact key σ' h1 h2
 | panic _=>exact q.elim
 | outgrown=>exact q.elim
 | exit _=>obtain ⟨_,_,h2⟩:=q;exact h2.elim
 | goto _=>obtain ⟨_,_,h2⟩:=q;exact h2.elim
def OR (P:Program) (fn:Func) (Post:Value→List cJ→Prop) (e:World):Exit→Act→World→Prop:=bodyPostM Fence.wide 0 P fn (jD e Post)
def WB (P:Program) (fn:Func) (n:Nat) (c y:Code) (Post:Value→List cJ→Prop) (σ:Env) (e:World) (L:List cJ):Prop :=
 ∀ a w,Has ⟨n,[]⟩ σ a→Sat e L w→c.wp P (Exit.then (y.wp P (OR P fn Post e)) (OR P fn Post e)) a w
def QB (P:Program) (fn:Func) (n:Nat) (c y:Code) (Post:Value→List cJ→Prop) (e:World):Env→World→Prop:=fun σ w=>∀ a,Has ⟨n,[]⟩ σ a→c.wp P (Exit.then (y.wp P (OR P fn Post e)) (OR P fn Post e)) a w
theorem Fin.tw {fn:Func} {n:Nat} {c y:Code} {Post:Value→List cJ→Prop} (h:WB P fn n c y Post σ e L):Fin (km (QB P fn n c y Post e) Q) .normal σ e L:=fun w hs a ha=>h a w ha hs
theorem WM.Zx {fn:Func} {n:Nat} {x b y:Code} {Post:Value→List cJ→Prop} (h:W P ⟨n,[]⟩ x (km (QB P fn n b y Post e) NoQ) σ e L):WM P fn n (.seq (.seq x b) y) Post σ e L:=fun a w ha hs =>
 wp_seq (wp_seq (Code.wp_mono (fun x a w q=>by
  cases x with
  | normal=>exact q.elim fun σ' h=>h.2 a h.1
  | panic _=>exact q.elim
  | outgrown=>exact q.elim
  | _=>obtain ⟨_,_,h2⟩:=q;exact h2.elim) (h a w ha hs)))
theorem WB.range {fn:Func} {n id:Nat} {g:Operand} {ps:Array Tmp} {assign body y:Code} {gf ZF:FuncId} {lb:List Value} {rs:Array ResultVar} {Post:Value→List cJ→Prop} [i:cI P gf ZF]
 (Xp:fn.results=rs) (hg:ev σ g=some (.func (.func gf) #[] lb.toArray)) (M:List cJ)
 (sf:∀ (l D:Nat) (r:Loop),r.state=.ready→r.pending=none→r.params=ps→r.assign=assign→r.body=body→Has ⟨n,[]⟩ σ { tmps:=r.tmps,defers:=[] } →
  Ct P ZF (.func (.yield l) #[] #[]::lb).toArray e (Lp l r::Df D::L) (fun _ L'=>L'=Lp l r::Df D::M))
 (hy:∀ D,W P ⟨n,[mk D]⟩ y (AT rs (jD e (Mg D Post))) σ e (Df D::M)) :
 WB P fn n (.block id (.rangeFunc g ps assign body)) y Post σ e L:=fun a w ha hs=>by
 refine wp_block (wpIn_wide (n:=0) |>.1 (wpIn_rangeFunc fun f0 _=>?_));obtain ⟨r,hr⟩:∃ r:Loop,r={ state:=.ready,pending:=none,fn:=f0,tmps:=a.tmps,params:=ps,assign:=assign,body:=body,defers:=w.heap.size }:=⟨_,rfl⟩
 have fR:Sat e (Lp (w.heap.size+1) r::Df w.heap.size::L) ((w.alloc (.deferred (some []))).alloc (.loop r)):=by
  have h1:=(hs.alloc (.deferred (some []))).alloc (.loop r)
  rwa [World.size_alloc] at h1
 refine ⟨w.heap.size+1,[mk w.heap.size],(w.alloc (.deferred (some []))).alloc (.loop r),{ target:=.fn (.func gf) lb.toArray,args:=#[.func (.yield (w.heap.size+1)) #[] #[]] },(w.alloc (.deferred (some []))).alloc (.loop r),ZF,(Value.func (.yield (w.heap.size+1)) #[] #[]::lb).toArray,(w.alloc (.deferred (some []))).alloc (.loop r),?_,?_,fun _ _=>trivial,?_,fun h=>by simp [Fence.wide] at h,?_⟩
 ·rw [hr];exact run_enterLoop_outer _ _ _ _ _
 ·simp only [resolve,ha.ev hg,Deferred.ofValue,Sem.run_pure]
  simp [Act.eval]
 ·simp only [invoke];have h2:(#[Value.func (.yield (w.heap.size+1)) #[] #[]]++lb.toArray:Array Value)=(.func (.yield (w.heap.size+1)) #[] #[]::lb).toArray:=by simp
  rw [h2,i.run]
 ·refine callsIn_wide.2 ((sf (w.heap.size+1) w.heap.size r (by rw [hr]) (by rw [hr]) (by rw [hr]) (by rw [hr]) (by rw [hr]) ⟨by rw [hr];exact ha.size,rfl,fun k v hk=>by rw [hr];exact ha.val k v hk⟩ _ fR).mono ?_);rintro _ w' ⟨v,L',rfl,rfl,oF⟩;refine ⟨none,w'.putObj (w.heap.size+1) (.loop { r with state:=.exhausted }),?_,?_⟩
  ·have:=run_endLoop (P:=P) oF.obj (by rw [hr];simp);rw [this];rw [show r.pending=none by rw [hr]]
  ·have h3:=oF.put (o':=.loop { r with state:=.exhausted });have h4:=hy w.heap.size { a with defers:=[mk w.heap.size]++a.defers } _ ⟨ha.size,by rw [ha.defers];rfl,ha.val⟩ (h3.cL (cz.drop aX));exact Code.wp_mono (fun x a w q=>Zw Xp q) h4
end
end Go.Bs
namespace Go.Bs
def tE (x:UInt32) (n:Nat):UInt32:=(x >>> UInt32.ofNat n) ||| (x <<< UInt32.ofNat (32 - n))
structure S8 where
 a:UInt32
 b:UInt32
 c:UInt32
 d:UInt32
 e:UInt32
 f:UInt32
 g:UInt32
 h:UInt32
def S8.list (s:S8):List UInt32:=[s.a,s.b,s.c,s.d,s.e,s.f,s.g,s.h]
def S8.cells (s:S8):List Value:=[cW s.a,cW s.b,cW s.c,cW s.d,cW s.e,cW s.f,cW s.g,cW s.h]
theorem S8.nT (s:S8):s.cells=s.list.map cW:=rfl
def bs0 (a:UInt32):UInt32:=tE a 2 ^^^ tE a 13 ^^^ tE a 22
def bs1 (e:UInt32):UInt32:=tE e 6 ^^^ tE e 11 ^^^ tE e 25
def T4 (x:UInt32):UInt32:=tE x 7 ^^^ tE x 18 ^^^ (x >>> UInt32.ofNat (Int.toNat 3))
def T5 (x:UInt32):UInt32:=tE x 17 ^^^ tE x 19 ^^^ (x >>> UInt32.ofNat (Int.toNat 10))
def ZL (e f g:UInt32):UInt32:=(e &&& f) ^^^ ((~~~e) &&& g)
def Vl (a b c:UInt32):UInt32:=(a &&& b) ^^^ (a &&& c) ^^^ (b &&& c)
def Mh (s:S8) (k w:UInt32):UInt32:=s.h+bs1 s.e+ZL s.e s.f s.g+k+w
def JQ (s:S8) (k w:UInt32):S8:=⟨Mh s k w+bs0 s.a+Vl s.a s.b s.c,s.a,s.b,s.c,s.d+Mh s k w,s.e,s.f,s.g⟩
def kw:List UInt32:=[1116352408,1899447441,3049323471,3921009573,961987163,1508970993,2453635748,2870763221,3624381080,310598401,607225278,1426881987,1925078388,2162078206,2614888103,3248222580,3835390401,4022224774,264347078,604807628,770255983,1249150122,1555081692,1996064986,2554220882,2821834349,2952996808,3210313671,3336571891,3584528711,113926993,338241895,666307205,773529912,1294757372,1396182291,1695183700,1986661051,2177026350,2456956037,2730485921,2820302411,3259730800,3345764771,3516065817,3600352804,4094571909,275423344,430227734,506948616,659060556,883997877,958139571,1322822218,1537002063,1747873779,1955562222,2024104815,2227730452,2361852424,2428436474,2756734187,3204031479,3329325298]
theorem Ba:kw.length=64:=rfl
def wd (b:List UInt8) (i:Nat):UInt32 :=
 ((((b.getD (4*i) 0).toUInt32 <<< UInt32.ofNat (Int.toNat 24)) ||| ((b.getD (4*i+1) 0).toUInt32 <<< UInt32.ofNat (Int.toNat 16))) ||| ((b.getD (4*i+2) 0).toUInt32 <<< UInt32.ofNat (Int.toNat 8))) ||| (b.getD (4*i+3) 0).toUInt32
def QC (l:List UInt32):UInt32:=l.getD (l.length - 16) 0+T4 (l.getD (l.length - 15) 0)+l.getD (l.length - 7) 0+T5 (l.getD (l.length - 2) 0)
def sched (b:List UInt8):Nat→List UInt32
 | 0=>(List.range 16).map (wd b)
 | n+1=>sched b n++[QC (sched b n)]
theorem gE (b:List UInt8):∀ n,(sched b n).length=16+n
 | 0=>by simp [sched]
 | n+1=>by simp [sched,gE b n];omega
def lx (s:S8) (ws:List UInt32):Nat→S8
 | 0=>s
 | n+1=>JQ (lx s ws n) (kw.getD n 0) (ws.getD n 0)
def S8.add (s t:S8):S8:=⟨s.a+t.a,s.b+t.b,s.c+t.c,s.d+t.d,s.e+t.e,s.f+t.f,s.g+t.g,s.h+t.h⟩
def ji (h:S8) (b:List UInt8):S8:=h.add (lx h (sched b 48) 64)
def iW (h:S8) (l:List UInt8):S8:=if h0:l.length<64 then h else iW (ji h (l.take 64)) (l.drop 64)
 termination_by l.length
 decreasing_by rw [aO];omega
theorem vv {h:S8} {l:List UInt8} (h0:l.length<64):iW h l=h:=by rw [iW,dif_pos h0]
theorem oQ {h:S8} {l:List UInt8} (h0:64≤l.length):iW h l=iW (ji h (l.take 64)) (l.drop 64):=by
 rw [iW,dif_neg (by omega)]
def uV:S8:=⟨1779033703,3144134277,1013904242,2773480762,1359893119,2600822924,528734635,1541459225⟩
def zs (n:Nat):Nat:=(119 - n % 64) % 64
def ly (n:Nat):List UInt8:=be (n*8) 8
def mJ (n:Nat):List UInt8:=128::(List.replicate (zs n) 0++ly n)
theorem D8 (n:Nat):(mJ n).length=9+zs n:=by simp [mJ,ly,cX];omega
def ik (x:UInt32):List UInt8:=[(x >>> UInt32.ofNat (Int.toNat 24)).toUInt8,(x >>> UInt32.ofNat (Int.toNat 16)).toUInt8,(x >>> UInt32.ofNat (Int.toNat 8)).toUInt8,x.toUInt8]
def gW (s:S8):List UInt8:=s.list.flatMap ik
def sh (b:List UInt8):List UInt8:=gW (iW uV (b++mJ b.length))
theorem jT (b:List UInt8):(sh b).length=32:=rfl
theorem IF (c0 c1 c2 c3:UInt8) :
 ((
  ((((((0:UInt32) <<< UInt32.ofNat (Int.toNat 8)) ||| c0.toUInt32) <<< UInt32.ofNat (Int.toNat 8)) ||| c1.toUInt32) <<< UInt32.ofNat (Int.toNat 8)) ||| c2.toUInt32) <<< UInt32.ofNat (Int.toNat 8)) ||| c3.toUInt32 =
  (((c0.toUInt32 <<< UInt32.ofNat (Int.toNat 24)) ||| (c1.toUInt32 <<< UInt32.ofNat (Int.toNat 16))) ||| (c2.toUInt32 <<< UInt32.ofNat (Int.toNat 8))) ||| c3.toUInt32:=by
 have e8:UInt32.ofNat (Int.toNat 8)=8:=rfl;have e16:UInt32.ofNat (Int.toNat 16)=16:=rfl;have e24:UInt32.ofNat (Int.toNat 24)=24:=rfl;rw [e8,e16,e24];have z:(0:UInt32) <<< 8=0:=rfl
 have s1:∀ x:UInt32,x <<< 8 <<< 8=x <<< 16:=fun x=>by
  apply UInt32.eq_of_toBitVec_eq
  simp [← BitVec.shiftLeft_add]
 have s2:∀ x:UInt32,x <<< 16 <<< 8=x <<< 24:=fun x=>by
  apply UInt32.eq_of_toBitVec_eq
  simp [← BitVec.shiftLeft_add]
 have d:∀ x y:UInt32,(x ||| y) <<< 8=x <<< 8 ||| y <<< 8:=fun x y=>by
  apply UInt32.eq_of_toBitVec_eq
  simp [BitVec.shiftLeft_or_distrib]
 rw [z,UInt32.zero_or,d,d,s1,d,s1,s2]
end Go.Bs
namespace Go.Proofs
attribute [local irreducible] Bs.cD Bs.Do Bs.O Bs.W Bs.Fin Bs.A Bs.Ct Bs.cE Bs.Rd Bs.Sat Bs.cK Bs.Ob Bs.dE Bs.View Bs.cz Bs.Ex Bs.dI Bs.Pu Bs.eY Bs.dN Bs.dZ
open Go.Bs
open Tryz
variable (R:List cJ) (e:World)
theorem Vm (n:Nat) (h:0<n) (h2:n<32):Go.bits .and .u64 (IntKind.u64.wrap (IntKind.i64.wrap (0 - (n:Int)))) 31=((32 - n:Nat):Int):=by
 have:∀ m:Fin 32,0<m.1→Go.bits .and .u64 (IntKind.u64.wrap (IntKind.i64.wrap (0 - (m.1:Int)))) 31=((32 - m.1:Nat):Int):=by decide +kernel
 exact this ⟨n,h2⟩ h
theorem Vn (n:Nat) (h:0<n) (h2:n<32):IntKind.u64.wrap (32 - ((32 - n:Nat):Int))=(n:Int):=by
 have:∀ m:Fin 32,0<m.1→IntKind.u64.wrap (32 - ((32 - m.1:Nat):Int))=(m.1:Int):=by decide +kernel
 exact this ⟨n,h2⟩ h
theorem Mi (x:UInt32) (n:Nat) (h:0<n) (h2:n<32) :
 Ct prog 302 #[cW x,.int .i64 (IntKind.i64.wrap (0 - (n:Int)))] e R (fun v' L'=>v'=cW (tE x n)∧R=L'):=by
 refine a8 (args:=[_,_]) func302 rfl ntmps302 results302 rfl ?_;have h3:=Vm n h h2;have h4:=Vn n h h2
 (repeat' first|(apply O.DQ;exact rfl;exact rfl;(rw [h3];omega);exact rfl)|(apply O.xT;exact rfl;exact rfl;(rw [h3,h4];omega);exact rfl)|refine YV ?_|refine Za ?_|refine Zb ?_|apply Zc|apply Zd|apply Ze|apply Zf|refine ZV ?_|refine ZZ ?_|refine Z2 ?_|apply YE)
 refine aY _ rfl aX ⟨?_,rfl⟩
 show cW _=cW _
 rw [h3,h4,Int.toNat_natCast,Int.toNat_natCast,UInt32.or_comm]
 rfl
theorem gO (x:UInt32) (n:Nat) (h:0<n) (h2:n<32) :
 Ct prog 276 #[cW x,.int .i64 (n:Int)] e R (fun v' L'=>v'=cW (tE x n)∧R=L'):=by
 refine a8 (args:=[_,_]) func276 rfl ntmps276 results276 rfl ?_
 (repeat' first|(apply O.neg;exact rfl;exact rfl)|refine Za ?_|refine Zb ?_|apply Zc|apply Zd|apply Ze|apply Zf)
 refine aZ rfl rfl (Mi R e x n h h2) ?_;rintro _ _ ⟨rfl,rfl⟩;refine wB ?_;exact aY _ rfl aX ⟨rfl,rfl⟩
theorem yd:∀ {pre cs vs:List Value},cs.length=vs.length→iw (pre++cs) pre.length vs (pre++vs)
 | pre,[],[],_=>by rw [aK];exact .nil
 | pre,c::cs,v::vs,h=>by
  have h1:gx (pre++c::cs) pre.length v (pre++v::cs):=by
   have:=gx.of (l:=pre++c::cs) (n:=pre.length) v (by simp)
   simpa using this
  have h2:=yd (pre:=pre++[v]) (cs:=cs) (vs:=vs) (by simpa using h);rw [aM,aM,aa] at h2
  exact .cons h1 h2
 | _,[],_::_,h=>by cases h
 | _,_::_,[],h=>by cases h
theorem eC {cs vs:List Value} (h:cs.length=vs.length):iw cs 0 vs vs:=yd (pre:=[]) h
theorem JR :
 Ct prog 229 #[] e R (fun v' L'=>v'=.agg (kw.map cW).toArray∧R=L'):=by
 refine bH (args:=[]) func229 rfl ntmps229 results229 rfl ?_
 (repeat' first|(refine b9 (cs:=(List.replicate 64 (0:UInt32)).map cW) rfl rfl ?_;intro _)|apply Zc|apply Zd|apply Ze|apply Zf)
 refine O.mF (cs:=kw.map cW) rfl rfl rfl zQ rfl ?_;refine O.ek rfl rfl rfl (gC _) .zero (eC rfl) ?_;refine wB ?_;apply br;exact zV;exact ⟨R,zE,rfl,rfl⟩
def D9 (b:List UInt8) (i:Nat):Nat→UInt32
 | 0=>0
 | j+1=>(D9 b i j <<< UInt32.ofNat (Int.toNat 8)) ||| (b.getD (4*i+j) 0).toUInt32
theorem RG (b:List UInt8) (i:Nat):D9 b i 4=wd b i:=IF _ _ _ _
theorem Ea (b:List UInt8) (i:Nat):(List.range (i+1)).map (wd b)=(List.range i).map (wd b)++[wd b i]:=by rw [List.range_succ,ah];rfl
theorem OT {α:Type} {pre post:List α} {x y:α} {i:Nat} (h:pre.length=i):(pre++x::post).set i y=pre++y::post:=by
 subst h;simp
theorem mA {pre post:List UInt32} {x y:UInt32} {i:Nat} (h:pre.length=i):gx ((pre++x::post).map cW) i (cW y) ((pre++y::post).map cW):=by
 have h1:=gx.of (l:=(pre++x::post).map cW) (n:=i) (cW y) (by simp;omega);rw [← List.map_set,OT h] at h1
 exact h1
theorem GD {pre post:List UInt32} {x:UInt32} {i g T o:Nat} {fz:Nat × Nat} {L R:List cJ} (h:pre.length=i) (p:cR L (cK g ((pre++x::post).map cW) T fz) R) (ho:o=i):Rd L ⟨g,o,none⟩ (cW x):=by
 subst ho;exact bP p (by rw [iP,aL,List.getElem?_append_right zo,h,Nat.sub_self];rfl)
theorem Bb {l:List UInt32} {i g T o:Nat} {fz:Nat × Nat} {L R:List cJ} (h:i<l.length) (p:cR L (cK g (l.map cW) T fz) R) (ho:o=i):Rd L ⟨g,o,none⟩ (cW (l.getD i 0)):=by
 subst ho;exact bP p (by rw [iP,aL,ab h,ax,ab h];rfl)
theorem vx {gl ol cap k:Nat} (h:k<cap):cutAt (some ⟨gl,ol,none⟩) cap k 1=some ⟨gl,ol+k,none⟩:=by
 unfold cutAt;rw [aB zo]
 simp [Addr.add]
set_option maxHeartbeats 1000000 in
theorem Eb (v:Value) (b:List UInt8) (hv:db R v b) (hb:b.length=64) :
 Ct prog 275 #[v] e R (fun v' L'=>v'=.agg ((sched b 48).map cW).toArray∧R=L'):=by
 refine a7 (hv.shape zo) ?_;rintro ⟨⟨ad,cap,rfl,h3,h4,h5,h6⟩,_⟩;simp only [maxLen] at h4
 rcases h6 with h6|⟨gl,ol,rfl⟩
 ·omega
 refine bH (args:=[_]) func275 rfl ntmps275 results275 rfl ?_
 (repeat' first|(refine b9 (cs:=(List.replicate 64 (0:UInt32)).map cW) rfl rfl ?_;intro _)|refine Za ?_|apply Zc|apply Zd|apply Ze|apply Zf|apply YB)
 rename_i g2 g3;refine bq (ι:=Nat) (fun i=>[(0,.slice (some ⟨gl,ol,none⟩) b.length cap),(2,pt g2),(3,pt g3),(12,.int .i64 (i:Int))])
  (fun i=>cK g3 (((List.range i).map (wd b)++List.replicate (64 - i) 0).map cW) 297 (0,0)::cK g2 ((List.replicate 64 (0:UInt32)).map cW) 297 (0,0)::R) (fun i=>i≤16) (fun i=>16 - i) 0 (aH _) (cC rfl (cC rfl (cC rfl (cC rfl dd)))) aX ?_
 intro i hi
 by_cases cO:i<16
 ·have GF:List.replicate (64 - i) (0:UInt32)=0::List.replicate (63 - i) 0:=by rw [show 64 - i=(63 - i)+1 by omega,List.replicate_succ]
  have Mj:((List.range i).map (wd b)).length=i:=by simp
  have RH:=Ea b i;rw [GF]
  generalize (List.range i).map (wd b)=pre at *
  have tG:=vx (gl:=gl) (ol:=ol) (cap:=cap) (k:=4*i) zo;have e1:(4*(i:Int)).toNat=4*i:=by omega
  have e2:(4*(i:Int)+4).toNat - 4*i=4:=by omega
  refine wB ?_;rw [e1,e2,tG];refine bq (ι:=Nat) (fun j=>[(23,.int .i64 (j:Int)),(22,.int .i64 (4:Int)),(21,.slice (some ⟨gl,ol+4*i,none⟩) 4 (cap - 4*i)),(4,.int .i64 (i:Int)),(0,.slice (some ⟨gl,ol,none⟩) b.length cap),(2,pt g2),(3,pt g3),(12,.int .i64 (i:Int))])
   (fun j=>cK g3 ((pre++D9 b i j::List.replicate (63 - i) 0).map cW) 297 (0,0)::cK g2 ((List.replicate 64 (0:UInt32)).map cW) 297 (0,0)::R) (fun j=>j≤4) (fun j=>4 - j) 0 (aH _) (cC rfl (cC rfl (cC rfl (cC rfl (cC rfl (cC rfl (cC rfl (cC rfl dd)))))))) aX ?_
  intro j hj
  by_cases LC:j<4
  ·have Aa:4*i+j<b.length:=by omega
   have hr:Rd R ⟨gl,ol+4*i+j,none⟩ (u8 (b.getD (4*i+j) 0)):=by
    have:=hv.elem (j:=4*i+j) (b:=b.getD (4*i+j) 0) (by rw [ax,ab Aa];rfl);rw [← Nat.add_assoc] at this
    exact this
   have ZR:Rd (cK g3 ((pre++D9 b i j::List.replicate (63 - i) 0).map cW) 297 (0,0)::cK g2 ((List.replicate 64 (0:UInt32)).map cW) 297 (0,0)::R) ⟨g3,0+i,none⟩ (cW (D9 b i j)):=GD Mj .zero (aC _);have ZT:D9 b i (j+1)=(D9 b i j <<< UInt32.ofNat (Int.toNat 8)) ||| (b.getD (4*i+j) 0).toUInt32:=rfl
   generalize D9 b i j=x at *
   generalize b.getD (4*i+j) 0=c at *
   (repeat' first|refine YV ?_|refine YX ?_|refine Y1 ?_|refine Y2 ?_|refine Za ?_|refine Zb ?_|apply Zc|apply Zd|apply Ze|apply Zf|refine Zi ?_|refine ZA ?_|refine Yw ?_|refine Yz ?_|apply YB|apply YC)
   refine bC (b7 rfl rfl rfl .zero (by rw [aC];exact mA Mj) ?_)
   refine wB ?_;exact bi (j+1) LC zo (cC rfl (cC rfl (cC rfl (cC rfl (cC rfl (cC rfl (cC rfl (cC rfl dd)))))))) (by rw [ZT];exact aX)
  obtain rfl:j=4:=by omega
  rw [RG];refine wB ?_;refine bi (i+1) cO zo (cC rfl (cC rfl (cC rfl (cC rfl dd)))) ?_;rw [RH,aM,show 64 - (i+1)=63 - i by omega];exact aX
 obtain rfl:i=16:=by omega
 refine wB ?_;refine bq (ι:=Nat) (fun n=>[(7,.int .i64 ((n+16:Nat):Int)),(2,pt g2),(3,pt g3)])
  (fun n=>cK g3 ((sched b n++List.replicate (48 - n) 0).map cW) 297 (0,0)::cK g2 ((List.replicate 64 (0:UInt32)).map cW) 297 (0,0)::R) (fun n=>n≤48) (fun n=>48 - n) 0 (aH _) (cC rfl (cC rfl (cC rfl dd))) aX ?_
 intro n hn;have tH:=gE b n
 by_cases LD:n<48
 ·have Bc:sched b (n+1)=sched b n++[QC (sched b n)]:=rfl;have GF:List.replicate (48 - n) (0:UInt32)=0::List.replicate (47 - n) 0:=by rw [show 48 - n=(47 - n)+1 by omega,List.replicate_succ]
  rw [GF]
  have tg:∀ k,k<16+n→(sched b n++0::List.replicate (47 - n) 0).getD k 0=(sched b n).getD k 0:=fun k hk=>by
   rw [ax,ax,List.getElem?_append_left zo]
  have eT:(sched b n++0::List.replicate (47 - n) 0).length=64:=by simp [tH];omega
  have jw:∀ m k:Nat,m=k→k<16+n→Rd (cK g3 ((sched b n++0::List.replicate (47 - n) 0).map cW) 297 (0,0)::cK g2 ((List.replicate 64 (0:UInt32)).map cW) 297 (0,0)::R) ⟨g3,m,none⟩ (cW ((sched b n).getD k 0)):=fun m k hm hk=>by
   rw [← tg k hk];exact Bb zo .zero hm
  have Z4:=jw (0+(((n+16:Nat):Int) - 15).toNat*1) ((sched b n).length - 15) zo zo;have RI:=jw (0+(((n+16:Nat):Int) - 2).toNat*1) ((sched b n).length - 2) zo zo;have Z5:=jw (0+(((n+16:Nat):Int) - 16).toNat*1) ((sched b n).length - 16) zo zo;have Z9:=jw (0+(((n+16:Nat):Int) - 7).toNat*1) ((sched b n).length - 7) zo zo;have RJ:QC (sched b n)=(sched b n).getD ((sched b n).length - 16) 0+T4 ((sched b n).getD ((sched b n).length - 15) 0)+(sched b n).getD ((sched b n).length - 7) 0+T5 ((sched b n).getD ((sched b n).length - 2) 0):=rfl;clear jw
  generalize (sched b n).getD ((sched b n).length - 15) 0=Vo at *
  generalize (sched b n).getD ((sched b n).length - 2) 0=x2 at *
  generalize (sched b n).getD ((sched b n).length - 16) 0=x16 at *
  generalize (sched b n).getD ((sched b n).length - 7) 0=x7 at *
  (repeat' first|refine Za ?_|apply Zc|apply Zd|apply Ze|apply Zf|refine ZA ?_|refine Yz ?_|apply YB|apply YC|(refine bz (id:=14) [9] mixed ?_;all_goals (refine tM 0 ?_);all_goals (refine tk 1 _ rfl (cD.jz rfl rfl zo) ?_);all_goals (refine tk 2 _ rfl (cD.dG rfl rfl zo) ?_);all_goals (refine tL 3 ?_);all_goals (refine tM 4 ?_);all_goals (refine tk 5 _ rfl (cD.jz rfl rfl zo) ?_);all_goals (refine tk 6 _ rfl (cD.dG rfl rfl zo) ?_);all_goals (refine tL 7 ?_);all_goals (refine tA 8 ?_);all_goals ((refine tO 9 ?_;refine dV (bj rfl) ?_));all_goals (refine bf zK ?_)))
  refine aZ rfl rfl (gO _ e Vo 7 zo zo) ?_;rintro _ _ ⟨rfl,rfl⟩
  (repeat (refine wA ?_;intros))
  refine aZ rfl rfl (gO _ e Vo 18 zo zo) ?_;rintro _ _ ⟨rfl,rfl⟩
  (repeat' first|refine YW ?_|refine YY ?_|refine Za ?_|refine Zb ?_|apply Zc|apply Zd|apply Ze|apply Zf)
  refine aZ rfl rfl (gO _ e x2 17 zo zo) ?_;rintro _ _ ⟨rfl,rfl⟩
  (repeat (refine wA ?_;intros))
  refine aZ rfl rfl (gO _ e x2 19 zo zo) ?_;rintro _ _ ⟨rfl,rfl⟩
  (repeat' first|refine YW ?_|refine YY ?_|refine Za ?_|refine Zb ?_|apply Ze|apply Zf)
  refine bz (id:=17) [14,15] mixed ?_
  (refine tM 0 ?_;refine tM 1 ?_;refine tk 2 _ rfl (cD.jz rfl rfl zo) ?_;refine tk 3 _ rfl (cD.dG rfl rfl zo) ?_;refine tL 4 ?_;refine tM 5 ?_;refine tk 6 _ rfl (cD.nQ rfl rfl) ?_;refine tM 7 ?_;refine tk 8 _ rfl (cD.jz rfl rfl zo) ?_;refine tk 9 _ rfl (cD.dG rfl rfl zo) ?_;refine tL 10 ?_;refine tk 11 _ rfl (cD.nQ rfl rfl) ?_;refine tM 12 ?_;refine tk 13 _ rfl (cD.nQ rfl rfl) ?_;(refine tO 14 ?_;refine bN (cD.dX rfl rfl zo) rfl ⟨zN,?_⟩))
  refine tO 15 ?_;refine b7 rfl rfl rfl .zero (by rw [aC];exact mA zo) ⟨zN,?_⟩;refine bf zK ?_;refine wB ?_;refine bi (n+1) LD zo (cC rfl (cC rfl (cC rfl dd))) ?_;rw [Bc,RJ,aM,show 48 - (n+1)=47 - n by omega];exact aX
 obtain rfl:n=48:=by omega
 have hlen:((sched b 48++List.replicate (48 - 48) (0:UInt32)).map cW).length=64:=by simp [tH]
 have Ec:=gC (sched b 48++List.replicate (48 - 48) (0:UInt32));have kM:(sched b 48++List.replicate (48 - 48) (0:UInt32)).map cW=(sched b 48).map cW:=by simp
 rw [← kM]
 generalize (sched b 48++List.replicate (48 - 48) (0:UInt32)).map cW=l at *
 clear tH kM
 (repeat' first|(refine O.dy rfl (bU .zero) hlen rfl ?_)|refine Za ?_|apply Zc|apply Zd|apply Ze|apply Zf|refine ZB ?_|refine YA ?_|apply YD|apply YG|apply YJ)
 refine O.ek rfl rfl hlen Ec (.succ .zero) (eC (by rw [hlen];rfl)) ?_;refine wB ?_;apply br
 ·exact .agg rfl (bU (.succ .zero)) hlen .nil
 exact ⟨R,zE,rfl,rfl⟩
theorem Bd {a c:List UInt32} {i:Nat} (hi:i<a.length) (hc:a.length=c.length):(List.zipWith (·+·) a c).take (i+1)=(List.zipWith (·+·) a c).take i++[a.getD i 0+c.getD i 0]∧a.drop i=a.getD i 0::a.drop (i+1):=by
 constructor
 ·rw [aD (by simp;omega),List.getElem_zipWith]
  simp [ax,ab hi,ab (show i<c.length by omega)]
 ·rw [List.drop_eq_getElem_cons hi]
  simp [ax,ab hi]
set_option maxHeartbeats 1000000 in
theorem Mk (s:S8) (v:Value) (b:List UInt8) (gk:Nat) (hv:db R v b) (hb:b.length=64) (hk:dZ R gk 0 (kw.map cW)) :
 Ct prog 231 #[.agg s.cells.toArray,v,pt gk] e R (fun v' L'=>v'=.agg (ji s b).cells.toArray∧R=L'):=by
 refine bH (args:=[_,_,_]) func231 rfl ntmps231 results231 rfl ?_;have LF:=gE b 48
 (repeat' first|(refine O.box (cs:=s.cells) rfl rfl rfl ?_;intro _)|(refine O.dy (cs:=s.cells) rfl (bU (.succ .zero)) rfl rfl ?_)|(refine O.ek (vs:=s.cells) rfl rfl rfl (gC s.list) .zero (eC rfl) ?_)|refine Za ?_|apply Zc|apply Zd|apply Ze|apply Zf|refine Yh fun _=>?_|fail)
 refine aZ rfl rfl (Eb _ e v b hv.tail.tail.tail hb) ?_;rintro _ _ ⟨rfl,rfl⟩;rw [show ji s b=s.add (lx s (sched b 48) 64) from rfl]
 generalize sched b 48=ws at *
 refine wB ?_;rename_i g3 g6 g7;refine bq (ι:=Nat) (fun i=>[(19,.int .i64 (i:Int)),(18,.agg (ws.map cW).toArray),(2,pt gk),(7,pt g7),(6,pt g6),(3,pt g3)])
  (fun i=>cK g7 (lx s ws i).cells 296 (0,0)::cK g6 ((List.replicate 8 (0:UInt32)).map cW) 296 (0,0)::cK g3 s.cells 296 (0,0)::R) (fun i=>i≤64) (fun i=>64 - i) 0 (aH _) (cC rfl (cC rfl (cC rfl (cC rfl (cC rfl (cC rfl dd)))))) aX ?_
 intro i hi
 by_cases cO:i<64
 ·have OU:Rd R ⟨gk,0+i,none⟩ (cW (kw.getD i 0)):=dZ.OC hk (by
   have Ck:i<kw.length:=cO;rw [aL,ab Ck,ax,ab Ck];rfl)
  have hw:(ws.map cW)[i]?=some (cW (ws.getD i 0)):=by
   have Ck:i<ws.length:=by omega
   rw [aL,ab Ck,ax,ab Ck];rfl
  have Vp:lx s ws (i+1)=JQ (lx s ws i) (kw.getD i 0) (ws.getD i 0):=rfl
  generalize lx s ws i=S at *
  generalize kw.getD i 0=kk at *
  generalize ws.getD i 0=ww at *
  obtain ⟨a',b',c',d',e',f',g',h'⟩:=S;dsimp only [S8.cells]
  (repeat' first|refine Y4 ?_|refine Za ?_|refine Zb ?_|apply Zc|apply Zd|apply Ze|apply Zf|refine ZA ?_|refine Yz ?_|apply YB|apply YC)
  refine bz (id:=5) [11] mixed ?_
  (refine tk 0 _ rfl (cD.dG rfl rfl zo) ?_;refine tL 1 ?_;refine tk 3 _ rfl (cD.dG rfl rfl zo) ?_;refine tL 4 ?_;refine tk 7 _ rfl (cD.dG rfl rfl zo) ?_;refine tL 8 ?_)
  refine tO 2 ?_;refine bg rfl rfl (gO _ e e' 6 zo zo) ?_;rintro _ _ ⟨rfl,rfl⟩;refine ⟨fun _=>aX,?_⟩;refine tO 5 ?_;refine bg rfl rfl (gO _ e e' 11 zo zo) ?_;rintro _ _ ⟨rfl,rfl⟩;refine ⟨fun _=>aX,?_⟩
  (refine tk 6 _ rfl (cD.pO rfl rfl) ?_)
  refine tO 9 ?_;refine bg rfl rfl (gO _ e e' 25 zo zo) ?_;rintro _ _ ⟨rfl,rfl⟩;refine ⟨fun _=>aX,?_⟩
  (refine tk 10 _ rfl (cD.pO rfl rfl) ?_;(refine tO 11 ?_;refine dV (bj rfl) ?_))
  refine bf zK ?_
  (repeat' first|refine YU ?_|refine YW ?_|refine YZ ?_|refine Y3 ?_|refine Zb ?_|apply Zc|apply Zd|apply Ze|apply Zf|refine Zi ?_|(refine bz (id:=7) [14] mixed ?_;all_goals (refine tk 0 _ rfl (cD.dG rfl rfl zo) ?_);all_goals (refine tL 1 ?_);all_goals (refine tM 2 ?_);all_goals (refine tk 3 _ rfl (cD.nQ rfl rfl) ?_);all_goals (refine tM 4 ?_);all_goals (refine tk 5 _ rfl (cD.nQ rfl rfl) ?_);all_goals (refine tM 6 ?_);all_goals (refine tM 7 ?_);all_goals (refine tN 8 ?_);all_goals (refine tk 9 _ rfl (cD.dX rfl rfl zo) ?_);all_goals (refine tL 10 ?_);all_goals (refine tk 11 _ rfl (cD.nQ rfl rfl) ?_);all_goals (refine tM 12 ?_);all_goals (refine tk 13 _ rfl (cD.nQ rfl rfl) ?_);all_goals ((refine tO 14 ?_;refine dV (bj rfl) ?_));all_goals (refine bf zK ?_)))
  refine bz (id:=8) [11] mixed ?_
  (refine tk 0 _ rfl (cD.dG rfl rfl zo) ?_;refine tL 1 ?_;refine tk 3 _ rfl (cD.dG rfl rfl zo) ?_;refine tL 4 ?_;refine tk 7 _ rfl (cD.dG rfl rfl zo) ?_;refine tL 8 ?_)
  refine tO 2 ?_;refine bg rfl rfl (gO _ e a' 2 zo zo) ?_;rintro _ _ ⟨rfl,rfl⟩;refine ⟨fun _=>aX,?_⟩;refine tO 5 ?_;refine bg rfl rfl (gO _ e a' 13 zo zo) ?_;rintro _ _ ⟨rfl,rfl⟩;refine ⟨fun _=>aX,?_⟩
  (refine tk 6 _ rfl (cD.pO rfl rfl) ?_)
  refine tO 9 ?_;refine bg rfl rfl (gO _ e a' 22 zo zo) ?_;rintro _ _ ⟨rfl,rfl⟩;refine ⟨fun _=>aX,?_⟩
  (refine tk 10 _ rfl (cD.pO rfl rfl) ?_;(refine tO 11 ?_;refine dV (bj rfl) ?_))
  refine bf zK ?_
  (repeat' first|refine YT ?_|refine YU ?_|refine YW ?_|refine Y3 ?_|refine Y5 ?_|refine Za ?_|refine Zb ?_|apply Zc|apply Zd|apply Ze|apply Zf|refine Zi ?_|refine ZS ?_|apply YH|refine YR ?_|fail)
  exact bi (i+1) cO zo (cC rfl (cC rfl (cC rfl (cC rfl (cC rfl (cC rfl dd)))))) (by rw [Vp];exact aX)
 obtain rfl:i=64:=by omega
 generalize lx s ws 64=V at *
 have qj:(s.add V).cells=(List.zipWith (·+·) s.list V.list).map cW:=rfl;have tH:s.list.length=8:=rfl;have Be:V.list.length=8:=rfl;rw [qj,S8.nT,S8.nT]
 generalize s.list=sl at *
 generalize V.list=vl at *
 refine wB ?_;refine bq (ι:=Nat) (fun i=>[(111,.int .i64 (i:Int)),(7,pt g7),(6,pt g6),(3,pt g3)])
  (fun i=>cK g7 (vl.map cW) 296 (0,0)::cK g6 ((List.replicate 8 (0:UInt32)).map cW) 296 (0,0)::cK g3 (((List.zipWith (·+·) sl vl).take i++sl.drop i).map cW) 296 (0,0)::R) (fun i=>i≤8) (fun i=>8 - i) 0 (aH _) (cC rfl (cC rfl (cC rfl (cC rfl dd)))) (by rw [List.take_zero,List.nil_append,List.drop_zero];exact aX) ?_
 intro j hj;have JG:((List.zipWith (·+·) sl vl).take j).length=j:=by simp;omega
 by_cases LC:j<8
 ·obtain ⟨z1,z2⟩:=Bd (a:=sl) (c:=vl) (i:=j) zo zo;rw [z2];have ZR:Rd (cK g7 (vl.map cW) 296 (0,0)::cK g6 ((List.replicate 8 (0:UInt32)).map cW) 296 (0,0)::cK g3 (((List.zipWith (·+·) sl vl).take j++sl.getD j 0::sl.drop (j+1)).map cW) 296 (0,0)::R) ⟨g3,0+j,none⟩ (cW (sl.getD j 0)):=GD JG (.succ (.succ .zero)) (aC _);have Z9:Rd (cK g7 (vl.map cW) 296 (0,0)::cK g6 ((List.replicate 8 (0:UInt32)).map cW) 296 (0,0)::cK g3 (((List.zipWith (·+·) sl vl).take j++sl.getD j 0::sl.drop (j+1)).map cW) 296 (0,0)::R) ⟨g7,0+j,none⟩ (cW (vl.getD j 0)):=Bb zo .zero (aC _)
  generalize sl.getD j 0=x at *
  generalize vl.getD j 0=y at *
  refine wB ?_;refine bz (id:=15) [7,8] mixed ?_
  (refine tM 0 ?_;refine tk 1 _ rfl (cD.dX rfl rfl zo) ?_;refine tL 2 ?_;refine tM 3 ?_;refine tk 4 _ rfl (cD.dX rfl rfl zo) ?_;refine tL 5 ?_;refine tk 6 _ rfl (cD.nQ rfl rfl) ?_;(refine tO 7 ?_;refine bN (cD.dX rfl rfl zo) rfl ⟨zN,?_⟩))
  refine tO 8 ?_;refine b7 rfl rfl rfl (.succ (.succ .zero)) (by rw [aC];exact mA JG) ⟨zN,?_⟩;refine bf zK ?_;refine wB ?_;exact bi (j+1) LC zo (cC rfl (cC rfl (cC rfl (cC rfl dd)))) (by rw [z1,aM];exact aX)
 obtain rfl:j=8:=by omega
 have hlen:(((List.zipWith (·+·) sl vl).take 8++sl.drop 8).map cW).length=8:=by simp;omega
 have Ec:=gC ((List.zipWith (·+·) sl vl).take 8++sl.drop 8)
 have kM:((List.zipWith (·+·) sl vl).take 8++sl.drop 8).map cW=(List.zipWith (·+·) sl vl).map cW:=by
  rw [aG (by simp;omega),List.drop_of_length_le zo,aK]
 rw [← kM]
 generalize ((List.zipWith (·+·) sl vl).take 8++sl.drop 8).map cW=l at *
 (repeat' first|(refine O.dy rfl (bU (.succ (.succ .zero))) hlen rfl ?_)|apply Zc|apply Zd|apply Ze|apply Zf|refine ZB ?_|refine YA ?_|apply YD|apply YG|apply YJ)
 refine O.ek rfl rfl hlen Ec (.succ .zero) (eC (by rw [hlen];rfl)) ?_;refine wB ?_;apply br
 ·exact .agg rfl (bU (.succ .zero)) hlen .nil
 exact ⟨R,zE,rfl,rfl⟩
theorem iL (x:UInt32) (n:Nat) (h:0<n) (h2:n<32) :
 Ct prog 270 #[cW x,.int .u64 (n:Int)] e R (fun v' L'=>v'=cW (tE x n)∧R=L'):=by
 refine a8 (args:=[_,_]) func270 rfl ntmps270 results270 rfl ?_
 have h3:IntKind.u64.wrap (32 - (n:Int))=((32 - n:Nat):Int):=by
  have:∀ m:Fin 32,0<m.1→IntKind.u64.wrap (32 - (m.1:Int))=((32 - m.1:Nat):Int):=by decide +kernel
  exact this ⟨n,h2⟩ h
 (repeat' first|(apply O.DQ;exact rfl;exact rfl;(rw [h3];omega);exact rfl)|refine YV ?_|refine YY ?_|refine Za ?_|refine Zb ?_|apply Zc|apply Zd|apply Ze|apply Zf|refine ZV ?_|apply YE)
 refine aY _ rfl aX ⟨?_,rfl⟩
 show cW _=cW _
 rw [h3,Int.toNat_natCast,Int.toNat_natCast]
 rfl
theorem Ed :
 Ct prog 217 #[] e R (fun v' L'=>v'=.agg (kw.map cW).toArray∧R=L'):=by
 refine bH (args:=[]) func217 rfl ntmps217 results217 rfl ?_
 (repeat' first|(refine b9 (cs:=(List.replicate 64 (0:UInt32)).map cW) rfl rfl ?_;intro _)|apply Zc|apply Zd|apply Ze|apply Zf)
 refine O.mF (cs:=kw.map cW) rfl rfl rfl zQ rfl ?_;refine O.ek rfl rfl rfl (gC _) .zero (eC rfl) ?_;refine wB ?_;apply br;exact zV;exact ⟨R,zE,rfl,rfl⟩
set_option maxHeartbeats 4000000 in
theorem ye (s:S8) (v:Value) (b:List UInt8) (gk:Nat) (hv:db R v b) (hb:b.length=64) (hk:dZ R gk 0 (kw.map cW)) :
 Ct prog 218 #[.agg s.cells.toArray,pt gk,v] e R (fun v' L'=>v'=.agg (ji s b).cells.toArray∧R=L'):=by
 refine a7 (hv.shape zo) ?_;rintro ⟨⟨ad,cap,rfl,h3,h4,h5,h6⟩,_⟩;simp only [maxLen] at h4
 rcases h6 with h6|⟨gl,ol,rfl⟩
 ·omega
 refine bH (args:=[_,_,_]) func218 rfl ntmps218 results218 rfl ?_
 (repeat' first|(refine O.box (cs:=s.cells) rfl rfl rfl ?_;intro _)|(refine b9 (cs:=(List.replicate 64 (0:UInt32)).map cW) rfl rfl ?_;intro _)|(refine b9 (cs:=(List.replicate 8 (0:UInt32)).map cW) rfl rfl ?_;intro _)|refine Zb ?_|apply Zc|apply Zd|apply Ze|apply Zf|apply YB)
 rename_i g3 g6 g7;refine bq (ι:=Nat) (fun i=>[(8,.int .i64 (i:Int)),(2,.slice (some ⟨gl,ol,none⟩) b.length cap),(1,pt gk),(7,pt g7),(6,pt g6),(3,pt g3)])
  (fun i=>cK g7 (((List.range i).map (wd b)++List.replicate (64 - i) 0).map cW) 297 (0,0)::cK g6 ((List.replicate 8 (0:UInt32)).map cW) 296 (0,0)::cK g3 s.cells 296 (0,0)::R) (fun i=>i≤16) (fun i=>16 - i) 0 (aH _) (cC rfl (cC rfl (cC rfl (cC rfl (cC rfl (cC rfl dd)))))) aX ?_
 intro i hi
 by_cases cO:i<16
 ·have GF:List.replicate (64 - i) (0:UInt32)=0::List.replicate (63 - i) 0:=by rw [show 64 - i=(63 - i)+1 by omega,List.replicate_succ]
  have Mj:((List.range i).map (wd b)).length=i:=by simp
  have RH:=Ea b i;rw [GF]
  generalize (List.range i).map (wd b)=pre at *
  have tI:∀ k m:Nat,k=m→m<b.length→Rd R ⟨gl,ol+k,none⟩ (u8 (b.getD m 0)):=fun k m hkm hm=>by
   subst hkm;exact hv.elem (by rw [ax,ab hm];rfl)
  have hr0:=tI ((4*(i:Int)).toNat*1) (4*i) zo zo;have OV:=tI ((4*(i:Int)+1).toNat*1) (4*i+1) zo zo;have RI:=tI ((4*(i:Int)+2).toNat*1) (4*i+2) zo zo;have ZR:=tI ((4*(i:Int)+3).toNat*1) (4*i+3) zo zo;have hwd:wd b i=((((b.getD (4*i) 0).toUInt32 <<< UInt32.ofNat (Int.toNat 24)) ||| ((b.getD (4*i+1) 0).toUInt32 <<< UInt32.ofNat (Int.toNat 16))) ||| ((b.getD (4*i+2) 0).toUInt32 <<< UInt32.ofNat (Int.toNat 8))) ||| (b.getD (4*i+3) 0).toUInt32:=rfl
  clear tI
  generalize b.getD (4*i) 0=c0 at *
  generalize b.getD (4*i+1) 0=c1 at *
  generalize b.getD (4*i+2) 0=c2 at *
  generalize b.getD (4*i+3) 0=c3 at *
  refine wB ?_;refine bz (id:=5) [34,35] mixed ?_
  (refine tM 0 ?_;refine tM 1 ?_;refine tM 2 ?_;refine tk 3 _ rfl (cD.wc rfl rfl zo) ?_;refine tk 4 _ rfl (bX rfl rfl zo zo) ?_;refine tL 5 ?_;refine tk 6 _ rfl (cD.r6 rfl) ?_;refine tk 7 _ rfl (cD.DQ rfl rfl zo) ?_;refine tM 8 ?_;refine tM 9 ?_;refine tk 10 _ rfl (cD.wc rfl rfl zo) ?_;refine tk 11 _ rfl (cD.kQ rfl rfl zo) ?_;refine tk 12 _ rfl (bX rfl rfl zo zo) ?_;refine tL 13 ?_;refine tk 14 _ rfl (cD.r6 rfl) ?_;refine tk 15 _ rfl (cD.DQ rfl rfl zo) ?_;refine tk 16 _ rfl (cD.TZ rfl rfl) ?_;refine tM 17 ?_;refine tM 18 ?_;refine tk 19 _ rfl (cD.wc rfl rfl zo) ?_;refine tk 20 _ rfl (cD.kQ rfl rfl zo) ?_;refine tk 21 _ rfl (bX rfl rfl zo zo) ?_;refine tL 22 ?_;refine tk 23 _ rfl (cD.r6 rfl) ?_;refine tk 24 _ rfl (cD.DQ rfl rfl zo) ?_;refine tk 25 _ rfl (cD.TZ rfl rfl) ?_;refine tM 26 ?_;refine tM 27 ?_;refine tk 28 _ rfl (cD.wc rfl rfl zo) ?_;refine tk 29 _ rfl (cD.kQ rfl rfl zo) ?_;refine tk 30 _ rfl (bX rfl rfl zo zo) ?_;refine tL 31 ?_;refine tk 32 _ rfl (cD.r6 rfl) ?_;refine tk 33 _ rfl (cD.TZ rfl rfl) ?_;(refine tO 34 ?_;refine bN (cD.dX rfl rfl zo) rfl ⟨zN,?_⟩))
  refine tO 35 ?_;refine b7 rfl rfl rfl .zero (by rw [aC];exact mA Mj) ⟨zN,?_⟩;refine bf zK ?_;refine wB ?_;refine bi (i+1) cO zo (cC rfl (cC rfl (cC rfl (cC rfl (cC rfl (cC rfl dd)))))) ?_;rw [RH,hwd,aM,show 64 - (i+1)=63 - i by omega];exact aX
 obtain rfl:i=16:=by omega
 rw [show ji s b=s.add (lx s (sched b 48) 64) from rfl];refine wB ?_;refine bq (ι:=Nat) (fun n=>[(9,.int .i64 ((n+16:Nat):Int)),(1,pt gk),(7,pt g7),(6,pt g6),(3,pt g3)])
  (fun n=>cK g7 ((sched b n++List.replicate (48 - n) 0).map cW) 297 (0,0)::cK g6 ((List.replicate 8 (0:UInt32)).map cW) 296 (0,0)::cK g3 s.cells 296 (0,0)::R) (fun n=>n≤48) (fun n=>48 - n) 0 (aH _) (cC rfl (cC rfl (cC rfl (cC rfl (cC rfl dd))))) aX ?_
 intro n hn;have tH:=gE b n
 by_cases LD:n<48
 ·have Bc:sched b (n+1)=sched b n++[QC (sched b n)]:=rfl;have GF:List.replicate (48 - n) (0:UInt32)=0::List.replicate (47 - n) 0:=by rw [show 48 - n=(47 - n)+1 by omega,List.replicate_succ]
  rw [GF]
  have tg:∀ k,k<16+n→(sched b n++0::List.replicate (47 - n) 0).getD k 0=(sched b n).getD k 0:=fun k hk=>by
   rw [ax,ax,List.getElem?_append_left zo]
  have eT:(sched b n++0::List.replicate (47 - n) 0).length=64:=by simp [tH];omega
  have jw:∀ m k:Nat,m=k→k<16+n→Rd (cK g7 ((sched b n++0::List.replicate (47 - n) 0).map cW) 297 (0,0)::cK g6 ((List.replicate 8 (0:UInt32)).map cW) 296 (0,0)::cK g3 s.cells 296 (0,0)::R) ⟨g7,m,none⟩ (cW ((sched b n).getD k 0)):=fun m k hm hk=>by
   rw [← tg k hk];exact Bb zo .zero hm
  have Z4:=jw (0+(((n+16:Nat):Int) - 15).toNat*1) ((sched b n).length - 15) zo zo;have RI:=jw (0+(((n+16:Nat):Int) - 2).toNat*1) ((sched b n).length - 2) zo zo;have Z5:=jw (0+(((n+16:Nat):Int) - 16).toNat*1) ((sched b n).length - 16) zo zo;have Z9:=jw (0+(((n+16:Nat):Int) - 7).toNat*1) ((sched b n).length - 7) zo zo;have RJ:QC (sched b n)=(sched b n).getD ((sched b n).length - 16) 0+T4 ((sched b n).getD ((sched b n).length - 15) 0)+(sched b n).getD ((sched b n).length - 7) 0+T5 ((sched b n).getD ((sched b n).length - 2) 0):=rfl;clear jw
  generalize (sched b n).getD ((sched b n).length - 15) 0=Vo at *
  generalize (sched b n).getD ((sched b n).length - 2) 0=x2 at *
  generalize (sched b n).getD ((sched b n).length - 16) 0=x16 at *
  generalize (sched b n).getD ((sched b n).length - 7) 0=x7 at *
  (repeat' first|refine Za ?_|apply Zc|apply Zd|apply Ze|apply Zf|refine ZA ?_|refine Yz ?_|apply YB|apply YC|(refine bz (id:=9) [9] mixed ?_;all_goals (refine tM 0 ?_);all_goals (refine tk 1 _ rfl (cD.jz rfl rfl zo) ?_);all_goals (refine tk 2 _ rfl (cD.dG rfl rfl zo) ?_);all_goals (refine tL 3 ?_);all_goals (refine tM 4 ?_);all_goals (refine tk 5 _ rfl (cD.jz rfl rfl zo) ?_);all_goals (refine tk 6 _ rfl (cD.dG rfl rfl zo) ?_);all_goals (refine tL 7 ?_);all_goals (refine tA 8 ?_);all_goals ((refine tO 9 ?_;refine dV (bj rfl) ?_));all_goals (refine bf zK ?_)))
  refine bz (id:=10) [28,29] mixed ?_
  (refine tM 0 ?_;refine tM 1 ?_;refine tk 2 _ rfl (cD.jz rfl rfl zo) ?_;refine tk 3 _ rfl (cD.dG rfl rfl zo) ?_;refine tL 4 ?_;refine tM 5 ?_;refine tM 7 ?_;refine tM 10 ?_;refine tk 11 _ rfl (cD.xT rfl rfl zo) ?_;refine tM 14 ?_;refine tk 15 _ rfl (cD.jz rfl rfl zo) ?_;refine tk 16 _ rfl (cD.dG rfl rfl zo) ?_;refine tL 17 ?_;refine tM 19 ?_;refine tM 21 ?_;refine tM 24 ?_;refine tk 25 _ rfl (cD.xT rfl rfl zo) ?_)
  refine tO 6 ?_;refine bg rfl rfl (iL _ e Vo 7 zo zo) ?_;rintro _ _ ⟨rfl,rfl⟩;refine ⟨fun _=>aX,?_⟩;refine tO 8 ?_;refine bg rfl rfl (iL _ e Vo 18 zo zo) ?_;rintro _ _ ⟨rfl,rfl⟩;refine ⟨fun _=>aX,?_⟩
  (refine tk 9 _ rfl (cD.pO rfl rfl) ?_;refine tk 12 _ rfl (cD.pO rfl rfl) ?_;refine tk 13 _ rfl (cD.nQ rfl rfl) ?_;refine tk 18 _ rfl (cD.nQ rfl rfl) ?_)
  refine tO 20 ?_;refine bg rfl rfl (iL _ e x2 17 zo zo) ?_;rintro _ _ ⟨rfl,rfl⟩;refine ⟨fun _=>aX,?_⟩;refine tO 22 ?_;refine bg rfl rfl (iL _ e x2 19 zo zo) ?_;rintro _ _ ⟨rfl,rfl⟩;refine ⟨fun _=>aX,?_⟩
  (refine tk 23 _ rfl (cD.pO rfl rfl) ?_;refine tk 26 _ rfl (cD.pO rfl rfl) ?_;refine tk 27 _ rfl (cD.nQ rfl rfl) ?_;(refine tO 28 ?_;refine bN (cD.dX rfl rfl zo) rfl ⟨zN,?_⟩))
  refine tO 29 ?_;refine b7 rfl rfl rfl .zero (by rw [aC];exact mA zo) ⟨zN,?_⟩;refine bf zK ?_;refine wB ?_;refine bi (n+1) LD zo (cC rfl (cC rfl (cC rfl (cC rfl (cC rfl dd))))) ?_;rw [Bc,RJ,aM,show 48 - (n+1)=47 - n by omega];exact aX
 obtain rfl:n=48:=by omega
 have LF:(sched b 48++List.replicate (48 - 48) (0:UInt32))=sched b 48:=by simp
 rw [LF];clear LF
 generalize sched b 48=ws at *
 (repeat' first|(refine O.dy (cs:=s.cells) rfl (bU (.succ (.succ .zero))) rfl rfl ?_)|(refine O.ek (vs:=s.cells) rfl rfl rfl (gC s.list) .zero (eC rfl) ?_)|(refine b9 (cs:=(List.replicate 8 (0:UInt32)).map cW) rfl rfl ?_;intro _)|refine Za ?_|refine Zb ?_|apply Zc|apply Zd|apply Ze|apply Zf|refine ZB ?_|refine YA ?_|apply YB|apply YD|apply YG|apply YJ)
 rename_i Ml;refine bq (ι:=Nat) (fun i=>[(13,.int .i64 (i:Int)),(1,pt gk),(12,pt Ml),(7,pt g7),(6,pt g6),(3,pt g3)])
  (fun i=>cK Ml (lx s ws i).cells 296 (0,0)::cK g7 (ws.map cW) 297 (0,0)::cK g6 ((List.replicate 8 (0:UInt32)).map cW) 296 (0,0)::cK g3 s.cells 296 (0,0)::R) (fun i=>i≤64) (fun i=>64 - i) 0 (aH _) (cC rfl (cC rfl (cC rfl (cC rfl (cC rfl (cC rfl dd)))))) aX ?_
 intro i hi
 by_cases cO:i<64
 ·have OU:Rd R ⟨gk,0+i,none⟩ (cW (kw.getD i 0)):=dZ.OC hk (by
   have Ck:i<kw.length:=cO;rw [aL,ab Ck,ax,ab Ck];rfl)
  have QD:Rd (cK Ml (lx s ws i).cells 296 (0,0)::cK g7 (ws.map cW) 297 (0,0)::cK g6 ((List.replicate 8 (0:UInt32)).map cW) 296 (0,0)::cK g3 s.cells 296 (0,0)::R) ⟨g7,0+i,none⟩ (cW (ws.getD i 0)):=Bb zo (.succ .zero) (aC _);have Vp:lx s ws (i+1)=JQ (lx s ws i) (kw.getD i 0) (ws.getD i 0):=rfl
  generalize lx s ws i=S at *
  generalize kw.getD i 0=kk at *
  generalize ws.getD i 0=ww at *
  obtain ⟨a',b',c',d',e',f',g',h'⟩:=S;dsimp only [S8.cells] at QD ⊢
  (repeat' first|refine Za ?_|apply Zc|apply Zd|apply Ze|apply Zf|refine ZA ?_|refine Yz ?_|apply YB|apply YC|(refine bz (id:=15) [5] mixed ?_;all_goals (refine tk 0 _ rfl (cD.dG rfl rfl zo) ?_);all_goals (refine tL 1 ?_);all_goals (refine tk 2 _ rfl (cD.dG rfl rfl zo) ?_);all_goals (refine tL 3 ?_);all_goals (refine tA 4 ?_);all_goals ((refine tO 5 ?_;refine dV (bj rfl) ?_));all_goals (refine bf zK ?_)))
  refine bz (id:=16) [32] mixed ?_
  (refine tk 0 _ rfl (cD.dG rfl rfl zo) ?_;refine tL 1 ?_;refine tM 2 ?_;refine tM 4 ?_;refine tM 7 ?_;refine tM 11 ?_;refine tk 12 _ rfl (cD.dG rfl rfl zo) ?_;refine tL 13 ?_;refine tk 14 _ rfl (cD.DP rfl rfl) ?_;refine tM 15 ?_;refine tk 16 _ rfl (cD.Iz rfl) ?_;refine tk 17 _ rfl (cD.dG rfl rfl zo) ?_;refine tL 18 ?_;refine tk 19 _ rfl (cD.DP rfl rfl) ?_;refine tk 20 _ rfl (cD.pO rfl rfl) ?_;refine tM 22 ?_;refine tM 23 ?_;refine tN 24 ?_;refine tk 25 _ rfl (cD.dX rfl rfl zo) ?_;refine tL 26 ?_;refine tM 28 ?_;refine tk 29 _ rfl (cD.dX rfl rfl zo) ?_;refine tL 30 ?_)
  refine tO 3 ?_;refine bg rfl rfl (iL _ e e' 6 zo zo) ?_;rintro _ _ ⟨rfl,rfl⟩;refine ⟨fun _=>aX,?_⟩;refine tO 5 ?_;refine bg rfl rfl (iL _ e e' 11 zo zo) ?_;rintro _ _ ⟨rfl,rfl⟩;refine ⟨fun _=>aX,?_⟩
  (refine tk 6 _ rfl (cD.pO rfl rfl) ?_)
  refine tO 8 ?_;refine bg rfl rfl (iL _ e e' 25 zo zo) ?_;rintro _ _ ⟨rfl,rfl⟩;refine ⟨fun _=>aX,?_⟩
  (refine tk 9 _ rfl (cD.pO rfl rfl) ?_;refine tk 10 _ rfl (cD.nQ rfl rfl) ?_;refine tk 21 _ rfl (cD.nQ rfl rfl) ?_;refine tk 27 _ rfl (cD.nQ rfl rfl) ?_;refine tk 31 _ rfl (cD.nQ rfl rfl) ?_;(refine tO 32 ?_;refine dV (bj rfl) ?_))
  refine bf zK ?_;refine wB ?_;refine bz (id:=17) [24] mixed ?_
  (refine tM 0 ?_;refine tM 2 ?_;refine tM 5 ?_;refine tM 8 ?_;refine tk 9 _ rfl (cD.dG rfl rfl zo) ?_;refine tL 10 ?_;refine tk 11 _ rfl (cD.DP rfl rfl) ?_;refine tM 12 ?_;refine tk 13 _ rfl (cD.dG rfl rfl zo) ?_;refine tL 14 ?_;refine tk 15 _ rfl (cD.DP rfl rfl) ?_;refine tk 16 _ rfl (cD.pO rfl rfl) ?_;refine tk 17 _ rfl (cD.dG rfl rfl zo) ?_;refine tL 18 ?_;refine tk 19 _ rfl (cD.dG rfl rfl zo) ?_;refine tL 20 ?_;refine tk 21 _ rfl (cD.DP rfl rfl) ?_;refine tk 22 _ rfl (cD.pO rfl rfl) ?_)
  refine tO 1 ?_;refine bg rfl rfl (iL _ e a' 2 zo zo) ?_;rintro _ _ ⟨rfl,rfl⟩;refine ⟨fun _=>aX,?_⟩;refine tO 3 ?_;refine bg rfl rfl (iL _ e a' 13 zo zo) ?_;rintro _ _ ⟨rfl,rfl⟩;refine ⟨fun _=>aX,?_⟩
  (refine tk 4 _ rfl (cD.pO rfl rfl) ?_)
  refine tO 6 ?_;refine bg rfl rfl (iL _ e a' 22 zo zo) ?_;rintro _ _ ⟨rfl,rfl⟩;refine ⟨fun _=>aX,?_⟩
  (refine tk 7 _ rfl (cD.pO rfl rfl) ?_;refine tk 23 _ rfl (cD.nQ rfl rfl) ?_;(refine tO 24 ?_;refine dV (bj rfl) ?_))
  refine bf zK ?_
  (repeat' first|refine YT ?_|refine Y3 ?_|refine Y5 ?_|refine Za ?_|refine Zb ?_|apply Zd|apply Ze|apply Zf|refine Zi ?_|refine ZS ?_|apply YH|refine YR ?_|fail)
  refine bi (i+1) cO zo (cC rfl (cC rfl (cC rfl (cC rfl (cC rfl (cC rfl dd)))))) ?_;rw [Vp,← UInt32.add_assoc];exact aX
 obtain rfl:i=64:=by omega
 generalize lx s ws 64=V at *
 have qj:(s.add V).cells=(List.zipWith (·+·) s.list V.list).map cW:=rfl;have tH:s.list.length=8:=rfl;have Be:V.list.length=8:=rfl;rw [qj,S8.nT,S8.nT]
 generalize s.list=sl at *
 generalize V.list=vl at *
 refine wB ?_;refine bq (ι:=Nat) (fun i=>[(18,.int .i64 (i:Int)),(12,pt Ml),(6,pt g6),(3,pt g3)])
  (fun i=>cK Ml (vl.map cW) 296 (0,0)::cK g7 (ws.map cW) 297 (0,0)::cK g6 ((List.replicate 8 (0:UInt32)).map cW) 296 (0,0)::cK g3 (((List.zipWith (·+·) sl vl).take i++sl.drop i).map cW) 296 (0,0)::R) (fun i=>i≤8) (fun i=>8 - i) 0 (aH _) (cC rfl (cC rfl (cC rfl (cC rfl dd)))) (by rw [List.take_zero,List.nil_append,List.drop_zero];exact aX) ?_
 intro j hj;have JG:((List.zipWith (·+·) sl vl).take j).length=j:=by simp;omega
 by_cases LC:j<8
 ·obtain ⟨z1,z2⟩:=Bd (a:=sl) (c:=vl) (i:=j) zo zo;rw [z2];have ZR:Rd (cK Ml (vl.map cW) 296 (0,0)::cK g7 (ws.map cW) 297 (0,0)::cK g6 ((List.replicate 8 (0:UInt32)).map cW) 296 (0,0)::cK g3 (((List.zipWith (·+·) sl vl).take j++sl.getD j 0::sl.drop (j+1)).map cW) 296 (0,0)::R) ⟨g3,0+j,none⟩ (cW (sl.getD j 0)):=GD JG (.succ (.succ (.succ .zero))) (aC _);have Z9:Rd (cK Ml (vl.map cW) 296 (0,0)::cK g7 (ws.map cW) 297 (0,0)::cK g6 ((List.replicate 8 (0:UInt32)).map cW) 296 (0,0)::cK g3 (((List.zipWith (·+·) sl vl).take j++sl.getD j 0::sl.drop (j+1)).map cW) 296 (0,0)::R) ⟨Ml,0+j,none⟩ (cW (vl.getD j 0)):=Bb zo .zero (aC _)
  generalize sl.getD j 0=x at *
  generalize vl.getD j 0=y at *
  refine wB ?_;refine bz (id:=22) [8,9] mixed ?_
  (refine tM 0 ?_;refine tM 1 ?_;refine tk 2 _ rfl (cD.dX rfl rfl zo) ?_;refine tL 3 ?_;refine tM 4 ?_;refine tk 5 _ rfl (cD.dX rfl rfl zo) ?_;refine tL 6 ?_;refine tk 7 _ rfl (cD.nQ rfl rfl) ?_;(refine tO 8 ?_;refine bN (cD.dX rfl rfl zo) rfl ⟨zN,?_⟩))
  refine tO 9 ?_;refine b7 rfl rfl rfl (.succ (.succ (.succ .zero))) (by rw [aC];exact mA JG) ⟨zN,?_⟩;refine bf zK ?_;refine wB ?_;exact bi (j+1) LC zo (cC rfl (cC rfl (cC rfl (cC rfl dd)))) (by rw [z1,aM];exact aX)
 obtain rfl:j=8:=by omega
 have hlen:(((List.zipWith (·+·) sl vl).take 8++sl.drop 8).map cW).length=8:=by simp;omega
 have Ec:=gC ((List.zipWith (·+·) sl vl).take 8++sl.drop 8)
 have kM:((List.zipWith (·+·) sl vl).take 8++sl.drop 8).map cW=(List.zipWith (·+·) sl vl).map cW:=by
  rw [aG (by simp;omega),List.drop_of_length_le zo,aK]
 rw [← kM]
 generalize ((List.zipWith (·+·) sl vl).take 8++sl.drop 8).map cW=l at *
 (repeat' first|(refine O.dy rfl (bU (.succ (.succ (.succ .zero)))) hlen rfl ?_)|refine Za ?_|apply Zc|apply Zd|apply Ze|apply Zf|refine ZB ?_|refine YA ?_|apply YD|apply YG|apply YJ)
 refine O.ek rfl rfl hlen Ec (.succ (.succ .zero)) (eC (by rw [hlen];rfl)) ?_;refine wB ?_;apply br
 ·exact .agg rfl (bU (.succ (.succ .zero))) hlen .nil
 exact ⟨R,zE,rfl,rfl⟩
theorem db.rG {L:List cJ} {ad:Option Addr} {c k:Nat} {l:List UInt8} (h:db L (.slice ad l.length c) l) (hk:k≤l.length):db L (.slice (cutAt ad c k 1) (l.length - k) (c - k)) (l.drop k):=by
 have:=cE.rG (L:=L) h hk;rw [Nat.mul_one,← List.map_drop] at this
 unfold db;rw [aO];exact this
theorem RK (n:Nat) (h:n<18446744073709551616):IntKind.u64.wrap (n:Int)=(n:Int):=by
 unfold IntKind.wrap;simp only [IntKind.bits,IntKind.signed]
 simp
 omega
theorem Mn (n:Nat):((n:Int)).tmod 64=((n % 64:Nat):Int):=by
 rw [Int.tmod_eq_emod_of_nonneg zo];rfl
theorem Cl (n:Nat):∀ (j m:Nat),m<j→(be n j).drop m=UInt8.ofNat (n / 256 ^ (j - 1 - m))::(be n j).drop (m+1)
 | 0,_,h=>by omega
 | j+1,0,_=>by simp [be]
 | j+1,m+1,h=>by
  have:=Cl n j m zo;simp only [be,List.drop_succ_cons];rw [this,show j+1 - 1 - (m+1)=j - 1 - m by omega]
theorem Bf {α:Type} {l:List α} {m:Nat} {x:α} (h:l.drop m=x::l.drop (m+1)):l.take (m+1)=l.take m++[x]:=by
 have h1:m<l.length:=by
  rcases Nat.lt_or_ge m l.length with h2|h2
  ·exact h2
  ·rw [List.drop_of_length_le h2] at h;cases h
 rw [List.drop_eq_getElem_cons h1] at h
 rw [aD h1,(List.cons.inj h).1]
theorem Bg (n m:Nat) (hm:m<8) (hn:n<1152921504606846976):IntKind.u8.wrap (((n*8:Nat):Int).fdiv (2 ^ (min (8*(7 - (m:Int))).toNat 64)))=((UInt8.ofNat (n*8 / 256 ^ (7 - m))).toNat:Int):=by
 have e1:(8*(7 - (m:Int))).toNat=8*(7 - m):=by omega
 rw [e1,Nat.min_eq_left zo,Int.fdiv_eq_ediv_of_nonneg _ (Int.pow_nonneg (by decide))]
 have e2:(2:Int) ^ (8*(7 - m))=((256 ^ (7 - m):Nat):Int):=by
  rw [Int.natCast_pow,Int.pow_mul];rfl
 rw [e2,← Int.natCast_ediv,w8]
 simp
theorem jx (s:S8):s.cells.length=8:=rfl
set_option maxHeartbeats 2000000 in
theorem JS (v:Value) (b:List UInt8) (hv:db R v b) (hb:b.length≤1000000000000) :
 Ct prog 136 #[v] e R (fun v' L'=>∃ ad c,v'=.slice ad (sh b).length c∧L'=cS (.slice ad (sh b).length c) (sh b)::R):=by
 refine a7 (hv.shape zo) ?_;rintro ⟨⟨ad,cap,rfl,h3,h4,h5,h6⟩,_⟩;simp only [maxLen] at h4
 refine a8 (args:=[_]) func136 rfl ntmps136 results136 rfl ?_
 (repeat' first|(refine O.mF (cs:=uV.cells) rfl rfl rfl zQ rfl ?_)|(refine b9 (cs:=(List.replicate 8 (0:UInt32)).map cW) rfl rfl ?_;intro _)|(refine O.ek (vs:=uV.cells) rfl rfl rfl (gC uV.list) .zero (eC rfl) ?_)|refine Zb ?_|apply Zc|apply Zd|apply Ze|apply Zf)
 rename_i g3;refine aZ rfl rfl (Ed _ e) ?_;rintro _ _ ⟨rfl,rfl⟩
 (repeat' first|(refine b9 (cs:=(List.replicate 64 (0:UInt32)).map cW) rfl rfl ?_;intro _)|(refine O.ek (vs:=kw.map cW) rfl rfl rfl (gC kw) .zero (eC rfl) ?_)|refine Za ?_|refine Zb ?_|apply Zc|apply Zd|apply Ze|apply Zf|refine Zk ?_|apply YB)
 rename_i g4;refine bq (ι:=Nat × S8 × Option Addr × Nat) (fun i=>[(0,.slice i.2.2.1 (b.drop (64*i.1)).length i.2.2.2),(3,pt g3),(4,pt g4),(5,.int .i64 (b.length:Int))])
  (fun i=>cK g3 i.2.1.cells 296 (0,0)::cK g4 (kw.map cW) 297 (0,0)::R)
  (fun i=>64*i.1≤b.length∧(∀ T,iW uV (b++T)=iW i.2.1 (b.drop (64*i.1)++T))∧db R (.slice i.2.2.1 (b.drop (64*i.1)).length i.2.2.2) (b.drop (64*i.1))∧(b.drop (64*i.1)).length≤i.2.2.2∧i.2.2.2≤cap) (fun i=>b.length - 64*i.1) (0,uV,ad,cap)
  ⟨by omega,fun _=>rfl,hv,h3,aS _⟩ (cC rfl (cC rfl (cC rfl (cC rfl dd)))) zE ?_
 rintro ⟨i,S,ef,c1⟩ ⟨hi,hf,tI,wY,xu⟩;dsimp only at hi hf tI wY xu ⊢
 have nK:(b.drop (64*i)).length=b.length - 64*i:=aO;have GG:(b.drop (64*i)).drop 64=b.drop (64*(i+1)):=by rw [List.drop_drop,show 64*i+64=64*(i+1) by omega]
 by_cases cO:64≤(b.drop (64*i)).length
 ·have tG:=db.p6 tI cO;have vy:=db.rG tI cO;have oH:((b.drop (64*i)).take 64).length=64:=by rw [aF];omega
  have hf2:∀ T,iW uV (b++T)=iW (ji S ((b.drop (64*i)).take 64)) (b.drop (64*(i+1))++T):=fun T=>by
   rw [hf T,oQ (by rw [aa];omega),List.take_append_of_le_length cO,List.drop_append_of_le_length cO,GG]
  rw [GG] at vy
  have pH:(b.drop (64*(i+1))).length=(b.drop (64*i)).length - 64:=by rw [aO,nK];omega
  rw [← pH] at vy
  generalize hB:b.drop (64*i)=B at *
  refine wB ?_;refine bz (id:=5) [4] mixed ?_
  (refine tJ 0 ?_;refine tM 1 ?_;refine tk 2 _ rfl (cD.iV rfl rfl zo zo) ?_)
  refine tO 3 ?_;refine bg rfl rfl (ye _ e S _ (B.take 64) g4 tG.tail.tail oH (bU (.succ .zero))) ?_;rintro _ _ ⟨rfl,rfl⟩;refine ⟨fun _=>aX,?_⟩
  generalize ji S (B.take 64)=S2 at *
  refine tO 4 ?_;refine Do.ek (vs:=S2.cells) rfl rfl (jx S2) (gC S2.list) .zero (eC ((jx S).trans (jx S2).symm)) ⟨zN,?_⟩;refine bf zK ?_;refine wB ?_;refine bi (i+1,S2,cutAt ef c1 64 1,c1 - 64) ⟨by omega,hf2,vy,by dsimp only;omega,by dsimp only;omega⟩ zd ?_ zE;dsimp only;rw [pH];exact cC rfl (cC rfl (cC rfl (cC rfl dd)))
 have hzb:zs b.length=zs (b.drop (64*i)).length:=by unfold zs;omega
 generalize b.drop (64*i)=B at *
 have hB:B.length<64:=by omega
 (repeat (refine wA ?_;intros))
 refine bC <| Do.fo (hH (n:=1) (k:=0) (cap:=0) zo zl (by simp)) (bo rfl rfl rfl .zero tI.tail.tail rfl rfl mG zm zo fun eJ c3 _=>?_)
 simp only [aC,Nat.zero_mul,List.take_zero,List.nil_append]
 (repeat (refine wA ?_;intros))
 refine bC (bo rfl rfl rfl (.succ .zero) (bB .zero rfl zl) rfl rfl zO zm zo fun jA c4 _=>?_)
 refine wB ?_;refine bq (ι:=Nat × Option Addr × Nat) (fun i=>[(6,.slice i.2.1 (B.length+1+i.1) i.2.2),(3,pt g3),(4,pt g4),(5,.int .i64 (b.length:Int))])
  (fun i=>dE pG 1 (.slice i.2.1 (B.length+1+i.1) i.2.2) (B.length+1+i.1) ((B++128::List.replicate i.1 0).map u8)::cK g3 S.cells 296 (0,0)::cK g4 (kw.map cW) 297 (0,0)::R)
  (fun i=>i.1≤zs B.length) (fun i=>zs B.length - i.1) (0,jA,c4)
  (aH _) (cC rfl (cC rfl (cC rfl (cC rfl dd)))) (by dsimp only;rw [ah];exact zE) ?_
 rintro ⟨z,QE,c5⟩ hz;dsimp only at hz ⊢
 have aac:zs B.length<64:=by unfold zs;omega
 have hzd:zs B.length=(119 - B.length % 64) % 64:=rfl;have htm:=Mn (B.length+1+z)
 by_cases hzt:z<zs B.length
 ·(repeat (refine wA ?_;intros))
  refine bC (bo rfl rfl rfl (.succ .zero) (bB .zero rfl zl) rfl rfl zO zm zo fun GH c6 _=>?_)
  refine wB ?_;refine bi (z+1,GH,c6) hzt zd (cC rfl (cC rfl (cC rfl (cC rfl dd)))) ?_;dsimp only
  have he:(B++128::List.replicate (z+1) (0:UInt8)).map u8=(B++128::List.replicate z 0).map u8++[.int .u8 0]:=by
   rw [List.replicate_succ',show B++128::(List.replicate z 0++[0])=(B++128::List.replicate z (0:UInt8))++[0] by simp,ah]
   rfl
  rw [he];exact zE
 obtain rfl:z=zs B.length:=by omega
 have Vq:(B++128::List.replicate (zs B.length) (0:UInt8)).length=B.length+1+zs B.length:=by simp;omega
 have Mo:∀ m,(B++128::List.replicate (zs B.length) (0:UInt8))++m=B++128::(List.replicate (zs B.length) 0++m):=fun m=>by simp
 rw [← Vq] at htm ⊢
 have acH:(B++128::List.replicate (zs B.length) (0:UInt8)).length≤128:=by omega
 have aaf:(B++128::List.replicate (zs B.length) (0:UInt8)).length % 64=56:=by omega
 have GI:sh b=gW (iW S (B++128::(List.replicate (zs B.length) 0++ly b.length))):=by
  rw [sh,hf,mJ,hzb]
 rw [← Mo] at GI
 clear Mo Vq
 generalize B++128::List.replicate (zs B.length) (0:UInt8)=X at *
 have h8:(ly b.length).length=8:=cX _ _;refine wB ?_;refine bq (ι:=Nat × Option Addr × Nat) (fun i=>[(7,.int .i64 (7 - (i.1:Int))),(6,.slice i.2.1 (X.length+i.1) i.2.2),(3,pt g3),(4,pt g4),(5,.int .i64 (b.length:Int))])
  (fun i=>dE pG 1 (.slice i.2.1 (X.length+i.1) i.2.2) (X.length+i.1) ((X++(ly b.length).take i.1).map u8)::cK g3 S.cells 296 (0,0)::cK g4 (kw.map cW) 297 (0,0)::R)
  (fun i=>i.1≤8) (fun i=>8 - i.1) (0,QE,c5)
  (aH _) (cC rfl (cC rfl (cC rfl (cC rfl (cC rfl dd))))) (by dsimp only;rw [List.take_zero,aK];exact zE) ?_
 rintro ⟨m,QF,c7⟩ hm;dsimp only at hm ⊢
 by_cases RL:m<8
 ·have Ee:=Bg b.length m RL zo;have Vr:=RK b.length zo
  have Vs:IntKind.u64.wrap ((b.length:Int)*8)=((b.length*8:Nat):Int):=by
   rw [← RK (b.length*8) zo];rfl
  have hw3:IntKind.u64.wrap (7 - (m:Int))=7 - (m:Int):=by
   rw [show (7 - (m:Int))=((7 - m:Nat):Int) by omega];exact RK _ zo
  have hw4:IntKind.u64.wrap (8*(7 - (m:Int)))=8*(7 - (m:Int)):=by
   rw [show (8*(7 - (m:Int)))=((8*(7 - m):Nat):Int) by omega];exact RK _ zo
  (repeat' first|(apply O.shr;exact rfl;exact rfl;(rw [hw3,hw4];omega);exact rfl)|(apply O.jP;exact rfl;exact rfl)|refine Za ?_|apply Zc|apply Zd|apply Ze|apply Zf|refine ZJ ?_|refine ZX ?_|refine Yi fun _=>?_|refine Yz ?_|apply YB|apply YC)
  rw [Vr,Vs,hw3,hw4,show IntKind.u64.bits=64 from rfl,Ee];have Ef:=Cl (b.length*8) 8 m RL;have nf:(ly b.length).take (m+1)=(ly b.length).take m++[UInt8.ofNat (b.length*8 / 256 ^ (7 - m))]:=Bf Ef;clear Ee Ef
  generalize UInt8.ofNat (b.length*8 / 256 ^ (7 - m))=cc at *
  have ft:(X++(ly b.length).take (m+1)).map u8=(X++(ly b.length).take m).map u8++[u8 cc]:=by
   rw [nf,← aM,ah];rfl
  generalize X++(ly b.length).take m=Y at *
  refine bC (bo rfl rfl rfl (.succ .zero) (bB .zero rfl zl) rfl rfl zO zm zo fun GH c6 _=>?_)
  refine wB ?_;refine bi (m+1,GH,c6) RL zd ?_ ?_
  ·dsimp only;rw [show (7 - ((m+1:Nat):Int))=7 - (m:Int) - 1 by omega];exact cC rfl (cC rfl (cC rfl (cC rfl (cC rfl dd))))
  ·dsimp only;rw [ft];exact zE
 obtain rfl:m=8:=by omega
 rw [aG zo];have hYl:(X++ly b.length).length=X.length+8:=by rw [aa,h8]
 have aah:(X++ly b.length).length % 64=0:=by omega
 rw [← hYl]
 generalize X++ly b.length=Y at *
 refine wB ?_;refine W.cB (tz .zero) ?_;rintro ⟨ad8,c8,hq,OW,Mq⟩;obtain ⟨rfl,_,rfl⟩:=Value.slice.inj hq;clear hq;simp only [maxLen] at Mq
 refine bq (ι:=Nat × S8 × Option Addr × Nat) (fun i=>[(6,.slice i.2.2.1 (Y.drop (64*i.1)).length i.2.2.2),(3,pt g3),(4,pt g4)])
  (fun i=>cK g3 i.2.1.cells 296 (0,0)::cS (.slice QF Y.length c7) Y::cK g4 (kw.map cW) 297 (0,0)::R)
  (fun i=>64*i.1≤Y.length∧(iW S Y=iW i.2.1 (Y.drop (64*i.1)))∧db (cS (.slice QF Y.length c7) Y::cK g4 (kw.map cW) 297 (0,0)::R) (.slice i.2.2.1 (Y.drop (64*i.1)).length i.2.2.2) (Y.drop (64*i.1))∧(Y.drop (64*i.1)).length≤i.2.2.2∧i.2.2.2≤9223372036854775807) (fun i=>Y.length - 64*i.1) (0,S,QF,c7)
  ⟨by omega,rfl,bb .zero,OW,by dsimp only;omega⟩ (cC rfl (cC rfl (cC rfl dd))) zE ?_
 rintro ⟨i,V,ad9,c9⟩ ⟨hi,hf,tI,wY,xu⟩;dsimp only at hi hf tI wY xu ⊢
 have nK:(Y.drop (64*i)).length=Y.length - 64*i:=aO;have GG:(Y.drop (64*i)).drop 64=Y.drop (64*(i+1)):=by rw [List.drop_drop,show 64*i+64=64*(i+1) by omega]
 by_cases cO:0<(Y.drop (64*i)).length
 ·have cO:64≤(Y.drop (64*i)).length:=by omega
  have tG:=db.p6 tI cO;have vy:=db.rG tI cO;have oH:((Y.drop (64*i)).take 64).length=64:=by rw [aF];omega
  have hf2:iW S Y=iW (ji V ((Y.drop (64*i)).take 64)) (Y.drop (64*(i+1))):=by
   rw [hf,oQ cO,GG]
  rw [GG] at vy
  have pH:(Y.drop (64*(i+1))).length=(Y.drop (64*i)).length - 64:=by rw [aO,nK];omega
  rw [← pH] at vy
  generalize hBB:Y.drop (64*i)=B2 at *
  refine wB ?_;refine bz (id:=15) [4] mixed ?_
  (refine tJ 0 ?_;refine tM 1 ?_;refine tk 2 _ rfl (cD.iV rfl rfl zo zo) ?_)
  refine tO 3 ?_;refine bg rfl rfl (ye _ e V _ (B2.take 64) g4 tG.tail oH (bU (.succ (.succ .zero)))) ?_;rintro _ _ ⟨rfl,rfl⟩;refine ⟨fun _=>aX,?_⟩
  generalize ji V (B2.take 64)=V2 at *
  refine tO 4 ?_;refine Do.ek (vs:=V2.cells) rfl rfl (jx V2) (gC V2.list) .zero (eC ((jx V).trans (jx V2).symm)) ⟨zN,?_⟩;refine bf zK ?_;refine wB ?_;refine bi (i+1,V2,cutAt ad9 c9 64 1,c9 - 64) ⟨by omega,hf2,vy,by dsimp only;omega,by dsimp only;omega⟩ zd ?_ zE;dsimp only;rw [pH];exact cC rfl (cC rfl (cC rfl dd))
 have hY0:Y.drop (64*i)=[]:=List.eq_nil_of_length_eq_zero zo;have kM:iW S Y=V:=by rw [hf,hY0];exact vv (by simp)
 rw [GI,kM];clear hf GI kM;have Be:V.list.length=8:=rfl;refine wB ?_;rw [S8.nT];refine bq (ι:=Nat × Option Addr × Nat) (fun i=>[(9,.int .i64 (i.1:Int)),(8,.slice i.2.1 (4*i.1) i.2.2),(3,pt g3)])
  (fun i=>dE pG 1 (.slice i.2.1 (4*i.1) i.2.2) (4*i.1) (((V.list.take i.1).flatMap ik).map u8)::cK g3 (V.list.map cW) 296 (0,0)::R)
  (fun i=>i.1≤8) (fun i=>8 - i.1) (0,none,0)
  (aH _) (cC rfl (cC rfl (cC rfl dd))) ((dv pG 1).trans zE) ?_
 rintro ⟨j,GJ,RM⟩ hj;dsimp only at hj ⊢
 by_cases LC:j<8
 ·have hr:Rd (cK g3 (V.list.map cW) 296 (0,0)::R) ⟨g3,0+j,none⟩ (cW (V.list.getD j 0)):=Bb zo .zero (aC _)
  have eK:((V.list.take (j+1)).flatMap ik).map u8=((V.list.take j).flatMap ik).map u8++(ik (V.list.getD j 0)).map u8:=by
   have Ck:j<V.list.length:=LC;rw [aD Ck,aW,ah,ax,ab Ck]
   rfl
  generalize V.list.getD j 0=x at *
  refine wB ?_;refine bk (id:=21) [22] (cK g3 (V.list.map cW) 296 (0,0)::R) mixed ?_
  (refine tM 0 ?_;refine tM 1 ?_;refine tk 2 _ rfl (cD.dX rfl rfl zo) ?_;refine tL 3 ?_;refine tk 4 _ rfl (cD.xT rfl rfl zo) ?_;refine tk 5 _ rfl (cD.r5 rfl) ?_;refine tM 6 ?_;refine tk 7 _ rfl (cD.dX rfl rfl zo) ?_;refine tL 8 ?_;refine tk 9 _ rfl (cD.xT rfl rfl zo) ?_;refine tk 10 _ rfl (cD.r5 rfl) ?_;refine tM 11 ?_;refine tk 12 _ rfl (cD.dX rfl rfl zo) ?_;refine tL 13 ?_;refine tk 14 _ rfl (cD.xT rfl rfl zo) ?_;refine tk 15 _ rfl (cD.r5 rfl) ?_;refine tM 16 ?_;refine tk 17 _ rfl (cD.dX rfl rfl zo) ?_;refine tL 18 ?_;refine tk 19 _ rfl (cD.r5 rfl) ?_)
  refine tO 20 ?_;refine bE (el:=pG) (n:=1) (z:=.int .u8 0) rfl rfl rfl rfl zQ rfl fun gz=>⟨fun _=>zE,?_⟩
  refine tO 21 ?_;refine bo rfl rfl rfl (.succ .zero) (bB .zero rfl zl) rfl rfl zO zm zo fun Mr Vt _=>⟨fun _=>zE,?_⟩
  ((refine tO 22 ?_;refine dV (bj rfl) ?_))
  refine bf zK ?_;refine wB ?_;refine bi (j+1,Mr,Vt) LC zd ?_ ?_
  ·dsimp only;rw [Nat.mul_add];exact cC rfl (cC rfl (cC rfl dd))
  ·dsimp only;rw [eK,Nat.mul_add];exact (show cz _ (dE pG 1 (.slice Mr (4*j+4*1) Vt) (4*j+4*1) (((V.list.take j).flatMap ik).map u8++(ik x).map u8)::cK g3 (V.list.map cW) 296 (0,0)::R) from zE)
 obtain rfl:j=8:=by omega
 rw [aG zo];refine wB ?_;exact aY (cS (.slice GJ (gW V).length RM) (gW V)::R) rfl (show cz (dE pG 1 (.slice GJ 32 RM) 32 ((gW V).map u8)::cK g3 (V.list.map cW) 296 (0,0)::R) _ from zE) ⟨GJ,RM,rfl,rfl⟩
end Go.Proofs
namespace Go.Bs
section
variable {P:Program} {N:Fr} {Q:fO} {σ:Env} {e:World} {L:List cJ}
theorem cE.cap {n k c c':Nat} {ad:Option Addr} {xs:List Value} (r:cE L n (.slice ad k c) k xs) (h1:k≤c') (h2:c'≤c):cE L n (.slice ad k c') k xs:=fun h x=>by
 obtain ⟨a1,dW,cap,a2,a3,a4,a5,a6⟩:=r h x
 cases a2
 exact ⟨a1,ad,c',rfl,h1,by omega,fun hn=>by have:=a5 hn;omega,a6⟩
end
end Go.Bs
namespace Go.Proofs
open Go.Bs
attribute [local irreducible] Bs.cD Bs.Do Bs.O Bs.W Bs.Fin Bs.A Bs.Ct Bs.cE Bs.Rd Bs.Sat Bs.cK Bs.Ob Bs.dE Bs.View Bs.cz Bs.Ex Bs.dI Bs.Pu Bs.eY Bs.dN Bs.dZ
theorem GK (R:List cJ) (e:World) (ad:Option Addr) (l c:Nat) :
 Ct Tryz.prog 230 #[.slice ad l c,.int .i64 64] e R (fun v' L'=>∃ gs gn,v'=.func (.func 274) #[] #[pt gs,pt gn]∧L'=cK gs [.slice ad l c] 30 (0,0)::cK gn [.int .i64 64] 3 (0,0)::R):=by
 refine a8 (args:=[_,_]) Tryz.func230 rfl Tryz.ntmps230 Tryz.results230 rfl ?_
 (repeat (refine wA ?_;intros))
 rename_i gs gn;exact aY _ rfl (show cz _ (cK gs [.slice ad l c] 30 (0,0)::cK gn [.int .i64 64] 3 (0,0)::R) from zE) ⟨gs,gn,rfl,rfl⟩
theorem OX {L:List cJ} {gl ol c m k:Nat} {Y:List UInt8} (h:db L (.slice (some ⟨gl,ol,none⟩) Y.length c) Y) (hY:Y.length=64*m) (hYc:Y.length≤c) (cO:k<m):db L (.slice (some ⟨gl,ol+64*k,none⟩) 64 64) ((Y.drop (64*k)).take 64):=by
 have h1:=db.rG h (k:=64*k) zo;rw [vx zo] at h1
 have h2:(Y.drop (64*k)).length=Y.length - 64*k:=aO;rw [← h2] at h1
 have h3:=db.p6 h1 (k:=64) zo;have h4:((Y.drop (64*k)).take 64).length=64:=by rw [aF];omega
 unfold db at h3 ⊢
 rw [h4] at h3 ⊢
 exact cE.cap h3 zo zo
theorem JT (e:World) (l gs gn m gl ol c:Nat) (Y:List UInt8) (J:Nat→List cJ) (hY:Y.length=64*m) (hc:c≤9223372036854775807) (hYc:Y.length≤c)
 (hs:∀ k,Rd (J k) ⟨gs,0,none⟩ (.slice (some ⟨gl,ol,none⟩) Y.length c)) (hn:∀ k,Rd (J k) ⟨gn,0,none⟩ (.int .i64 64))
 (RN:∀ k,k<m→Rt Tryz.prog l #[.slice (some ⟨gl,ol+64*k,none⟩) 64 64] e (J k) (fun v' L'=>v'=.bool true∧L'=J (k+1))) :
 Ct Tryz.prog 274 #[.func (.yield l) #[] #[],pt gs,pt gn] e (J 0) (fun _ L'=>L'=J m):=by
 refine a8 (args:=[_,_,_]) Tryz.func274 rfl Tryz.ntmps274 Tryz.results274 rfl ?_;refine wB ?_;refine bq (ι:=Nat) (fun k=>[(4,.int .i64 ((64*k:Nat):Int)),(0,.func (.yield l) #[] #[]),(1,pt gs),(2,pt gn)]) J (fun k=>k≤m) (fun k=>m - k) 0 (aH _) (cC rfl (cC rfl (cC rfl (cC rfl dd)))) aX ?_;intro k hk;have oF:=hs;have hn':=hn;have hs:=hs k;have hn:=hn k
 by_cases cO:k<m
 ·have rI:=RN k cO
  (repeat' first|refine W.Zp (c:=.region 4 _ _) ?_|refine Za ?_|apply Zc|apply Zd|apply Ze|apply Zf|refine Zi ?_|refine Zk ?_|refine ZA ?_|refine Yz ?_|apply YB|apply YC|(refine bz (id:=3) [6] Tryz.mixed ?_;all_goals (refine tL 0 ?_);all_goals (refine tL 1 ?_);all_goals (refine tM 2 ?_);all_goals (refine tk 3 _ rfl (cD.lm rfl rfl zo zo) ?_);all_goals (refine tk 4 _ rfl (bM rfl) ?_);all_goals (refine tk 5 _ rfl (cD.min rfl rfl) ?_);all_goals ((refine tO 6 ?_;refine dV (bj rfl) ?_));all_goals (refine bf zK ?_)))
  have e1:(((64*k:Nat):Int)).toNat=64*k:=rfl;rw [e1,aB zo];have e2:(((64*k:Nat):Int)+64).toNat=64*k+64:=by omega
  have e3:cutAt (some ⟨gl,ol,none⟩) (64*k+64) (64*k) 1=some ⟨gl,ol+64*k,none⟩:=vx zo;have e4:64*k+64 - 64*k=64:=by omega
  refine WI.region ?_;refine OI.val _ rfl (bu rfl) rfl ?_;refine OI.val _ rfl (bp rfl zR) rfl ?_;refine OI.val _ rfl (bu rfl) rfl ?_;refine OI.val _ rfl (bu rfl) rfl ?_;refine OI.val _ rfl (bu rfl) rfl ?_;refine OI.val _ rfl (cD.kQ rfl rfl zo) rfl ?_;refine OI.val _ rfl (bu rfl) rfl ?_;refine OI.val _ rfl (bu rfl) rfl ?_;refine OI.val _ rfl (cD.kQ rfl rfl zo) rfl ?_;refine OI.val _ rfl (cD.slice3 rfl rfl rfl rfl zo zo zo zo) rfl ?_;rw [e1,e2,e3,e4];refine OI.yield rfl rfl rfl rI ?_;rintro _ _ ⟨rfl,rfl⟩;refine OI.val _ rfl (cD.jZ rfl) rfl ?_;refine OI.nil ?_;have hs:=oF (k+1);have hn:=hn' (k+1);refine wB ?_;refine bi (k+1) cO zo ?_ aX;rw [show ((64*(k+1):Nat):Int)=((64*k:Nat):Int)+64 by omega];exact cC rfl (cC rfl (cC rfl (cC rfl dd)))
 obtain rfl:k=m:=by omega
 refine wB ?_;exact bT (J k) rfl aX rfl
end Go.Proofs
