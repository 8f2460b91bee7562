/- Part 3 of a proof of this: TopMessages returns true for any arguments; nothing of the old memory is turned. No condition. -/
import Derived.Test.YtccekbdjebohcaaGreatG02
set_option linter.unusedVariables false
set_option linter.unusedSimpArgs false
namespace Go.Bs
structure Port where
 id:Nat
 i:Nat
 gW:List Nat
 mem:Value→(Nat→Value)→List cJ
structure m3 where
 i:Nat
 d:Nat
 gW:List Nat
 km:List Nat
 ok:Value→(Nat→Value)→Prop
 outs:List (Nat × (Value→(Nat→Value)→List cJ))
def fJ (us:List Nat) (V:Nat→Value):Nat→Value:=fun k=>if us.contains k then V k else undef
theorem p9 {us:List Nat} {V V':Nat→Value} (h:∀ k∈us,V k=V' k):fJ us V=fJ us V':=by
 funext k
 unfold fJ
 cases hc:us.contains k with
 | false=>rfl
 | true=>exact h k (List.contains_iff_mem.1 hc)
def m3.tn (x:m3):List Port:=x.outs.map fun o=>⟨o.1,x.i,x.gW,o.2⟩
def eE (D:List m3):List Port:=D.flatMap m3.tn
def lu (V:Nat→Value) (l:List Port):List cJ:=l.flatMap fun p=>p.mem (V p.i) (fJ p.gW V)
def qa (D:List m3) (x:m3):List Port:=(eE D).filter fun p=>x.km.contains p.id
def kV (V:Nat→Value):List m3→Env
 | []=>[]
 | y::l=>if y.d<100000 then (y.d,V y.i)::kV V l else kV V l
theorem sc {V:Nat→Value}:∀ {D:List m3} {p:Nat × Value},p∈kV V D→∃ y∈D,y.d<100000∧(y.d,V y.i)=p
 | y::l,p,h=>by
  unfold kV at h
  split at h
  ·rename_i hd;rcases aQ.1 h with rfl|h
   ·exact ⟨y,List.mem_cons_self ..,hd,rfl⟩
   ·obtain ⟨z,hz,h⟩:=sc h;exact ⟨z,aT _ hz,h⟩
  ·obtain ⟨z,hz,h⟩:=sc h;exact ⟨z,aT _ hz,h⟩
section
variable (P:Program) (N:Fr) (ops:Array Oper) (e:World) (σ0:Env) (L0:List cJ)
def xU (D:List m3) (x:m3):Prop:=∃ o,ops[x.i]?=some o∧tm ops σ0 o∧∀ (V:Nat→Value) (σr:Env) (M:List cJ),(∀ k v,get σ0 k=some v→get σr k=some v)→(∀ y∈D,y.i∈x.gW→y.d<100000→get σr y.d=some (V y.i)∧y.ok (V y.i) (fJ y.gW V)) →
 Do P N o (fun σ' L'=>∃ v,σ'=(if x.d<100000 then (x.d,v)::σr else σr)∧x.ok v (fJ x.gW V)∧cz L' (x.outs.flatMap (fun o=>o.2 v (fJ x.gW V))++(M++L0))) σr e (lu V (qa D x)++(M++L0))
end
def tt (ops:Array Oper) (l0:Array Bool):List Nat→List m3→Bool
 | _,[]=>true
 | pre,x::r=>(match l0[x.i]? with|some b=>!b|none=>false) &&
  (match ops[x.i]? with
   | some o=>o.after.all (fun ed=>!Region.binds .any ed || l0.getD ed.on false || pre.contains ed.on) && x.gW.all (fun k=>qQ o k)
   | none=>false) && tt ops l0 (x.i::pre) r
def Gt (ops:Array Oper) (D:List m3):List m3:=D.filter fun s=>!D.any fun z=>match ops[z.i]? with|some o=>qQ o s.i|none=>false
def AZ (ops:Array Oper) (l0:Array Bool) (D:List m3) (j:Nat):Bool :=
 (match l0[j]? with|some b=>b|none=>true) || (D.map (·.i)).contains j || (match ops[j]? with
  | some o=>(Gt ops D).all (fun s=>qQ o s.i) || o.after.any (fun ed=>Region.binds .any ed && !(D.map (·.i)).contains ed.on && !l0.getD ed.on false)
  | none=>true)
def X9 (D:List m3) (x:m3) (k:Nat):Bool:=(eE D).any fun p=>p.id == k && x.gW.contains p.i
def DQ (ops:Array Oper) (l0:Array Bool) (D:List m3):Bool :=
 tt ops l0 [] D && r9 (D.map (·.i)) && r9 (D.flatMap (·.km)) && (List.range ops.size).all (AZ ops l0 D) && r9 ((eE D).map (·.id)) && D.all (fun x=>x.km.all (X9 D x))
def DR (keys:List Nat) (D:List m3):Bool:=r9 (D.map (·.d)) && keys.all fun k=>!(D.map (·.d)).contains k
theorem gO {ops:Array Oper} {l0:Array Bool}:∀ {D:List m3} {pre:List Nat},tt ops l0 pre D=true→∀ A x B,D=A++x::B→l0[x.i]?=some false∧∃ o,ops[x.i]?=some o ∧
 (∀ ed∈o.after,Region.binds .any ed=true→l0.getD ed.on false=true∨ed.on∈pre∨ed.on∈A.map (·.i))∧(∀ k∈x.gW,qQ o k=true)
 | [],_,_,A,x,B,wY=>by simp at wY
 | y::r,pre,h,A,x,B,wY=>by
  simp only [tt,Bool.and_eq_true] at h
  obtain ⟨⟨h1,h2⟩,h3⟩:=h
  cases A with
  | nil =>
   rw [List.nil_append] at wY
   obtain ⟨rfl,rfl⟩:=List.cons.inj wY;refine ⟨?_,?_⟩
   ·cases hq:l0[y.i]? with
    | none=>rw [hq] at h1;cases h1
    | some b=>rw [hq] at h1;simp at h1;rw [h1]
   ·cases hq:ops[y.i]? with
    | none=>rw [hq] at h2;cases h2
    | some o =>
     rw [hq] at h2
     simp only [Bool.and_eq_true] at h2
     refine ⟨o,rfl,fun ed JG hb=>?_,fun k hk=>List.all_eq_true.1 h2.2 k hk⟩;have:=Array.all_eq_true'.1 h2.1 ed JG;simp only [hb,Bool.not_true,Bool.false_or,Bool.or_eq_true,List.contains_iff_mem] at this
     rcases this with h|h
     ·exact .inl h
     ·exact .inr (.inl h)
  | cons z A =>
   rw [List.cons_append] at wY
   obtain ⟨rfl,rfl⟩:=List.cons.inj wY;obtain ⟨a1,o,a2,a3,a4⟩:=gO h3 A x B rfl;refine ⟨a1,o,a2,fun ed JG hb=>?_,a4⟩;rcases a3 ed JG hb with h|h|h
   ·exact .inl h
   ·rcases aQ.1 h with h|h
    ·exact .inr (.inr (by rw [h];exact List.mem_cons_self ..))
    ·exact .inr (.inl h)
   ·exact .inr (.inr (aT _ h))
theorem nt (U:List Nat):∀ (D:List m3),(∃ x∈D,x.i ∉ U)→∃ A x B,D=A++x::B∧x.i ∉ U∧∀ y∈A,y.i∈U
 | [],⟨_,h,_⟩=>by cases h
 | y::r,h=>by
  by_cases hy:y.i∈U
  ·obtain ⟨A,x,B,h1,h2,h3⟩:=nt U r (by
    obtain ⟨x,hx,hn⟩:=h;rcases aQ.1 hx with rfl|hx
    ·exact absurd hy hn
    ·exact ⟨x,hx,hn⟩)
   exact ⟨y::A,x,B,by rw [h1];rfl,h2,fun z hz=>by
    rcases aQ.1 hz with rfl|hz
    ·exact hy
    ·exact h3 z hz⟩
  ·exact ⟨[],y,r,rfl,hy,fun z hz=>by cases hz⟩
theorem B9 (U:List Nat) (D:List m3) (h:∃ x∈D,x.i ∉ U):∃ A x B,D=A++x::B∧x.i ∉ U∧∀ y∈B,y.i∈U:=by
 obtain ⟨x,hx,hn⟩:=h;obtain ⟨A,y,B,h1,h2,h3⟩:=nt U D.reverse ⟨x,List.mem_reverse.2 hx,hn⟩;refine ⟨B.reverse,y,A.reverse,?_,h2,fun z hz=>h3 z (List.mem_reverse.1 hz)⟩;have:=congrArg List.reverse h1;rw [List.reverse_reverse] at this
 rw [this]
 simp
theorem qb {D:List m3} (hn:(D.map (·.i)).Nodup) {x:m3} (hx:x∈D):D.filter (fun y=>y.i == x.i)=[x]:=by
 obtain ⟨A,B,rfl⟩:=List.append_of_mem hx;rw [ah,List.map_cons] at hn
 have h1:=List.nodup_append.1 hn;have h2:=List.nodup_cons.1 h1.2.1;rw [List.filter_append,List.filter_cons];simp only [beq_self_eq_true,if_true];rw [List.filter_eq_nil_iff.2 fun y hy h=>?_,List.filter_eq_nil_iff.2 fun y hy h=>?_]
 ·rfl
 ·exact h2.1 (by rw [← beq_iff_eq.1 h];exact aE.2 ⟨y,hy,rfl⟩)
 ·exact h1.2.2 y.i (aE.2 ⟨y,hy,rfl⟩) x.i (List.mem_cons_self ..) (beq_iff_eq.1 h)
def fK (D:List m3) (U:List Nat) (p:Port):Bool:=U.contains p.i && !D.any fun z=>z.km.contains p.id && U.contains z.i
theorem DS {V V':Nat→Value} {l:List Port} (h:∀ y∈l,V y.i=V' y.i∧∀ k∈y.gW,V k=V' k):lu V l=lu V' l:=by
 induction l with
 | nil=>rfl
 | cons y l ih =>
  show y.mem (V y.i) (fJ y.gW V)++lu V l=y.mem (V' y.i) (fJ y.gW V')++lu V' l
  rw [(h y (List.mem_cons_self ..)).1,p9 (h y (List.mem_cons_self ..)).2,ih fun z hz=>h z (aT _ hz)]
theorem tu {x:m3} {p:Port} (h:p∈x.tn):p.i=x.i:=by
 obtain ⟨o,_,rfl⟩:=aE.1 h
 rfl
theorem OD {x:m3} {p:Port} (h:p∈x.tn):p.gW=x.gW:=by
 obtain ⟨o,_,rfl⟩:=aE.1 h
 rfl
theorem DT {D:List m3} (hn:(D.map (·.i)).Nodup) {x:m3} (hx:x∈D):(eE D).filter (fun p=>p.i == x.i)=x.tn:=by
 obtain ⟨A,B,rfl⟩:=List.append_of_mem hx;rw [ah,List.map_cons] at hn
 have h1:=List.nodup_append.1 hn;have h2:=List.nodup_cons.1 h1.2.1;unfold eE;rw [aW,aU,List.filter_append,List.filter_append];rw [List.filter_eq_nil_iff.2 fun p hp h=>?_,List.filter_eq_self.2 fun p hp=>?_,List.filter_eq_nil_iff.2 fun p hp h=>?_]
 ·simp
 ·obtain ⟨y,hy,hp⟩:=List.mem_flatMap.1 hp;exact h2.1 (by rw [← beq_iff_eq.1 h,tu hp];exact aE.2 ⟨y,hy,rfl⟩)
 ·rw [tu hp];exact beq_self_eq_true _
 ·obtain ⟨y,hy,hp⟩:=List.mem_flatMap.1 hp;exact h1.2.2 y.i (aE.2 ⟨y,hy,rfl⟩) x.i (List.mem_cons_self ..) (by rw [← tu hp];exact beq_iff_eq.1 h)
theorem LY {l:List Port} (hn:(l.map (·.id)).Nodup) {p q:Port} (hp:p∈l) (hq:q∈l) (h:p.id=q.id):p=q:=by
 induction l with
 | nil=>cases hp
 | cons y l ih =>
  rw [List.map_cons] at hn
  have h1:=List.nodup_cons.1 hn;rcases aQ.1 hp with hp|hp
  ·rcases aQ.1 hq with hq|hq
   ·rw [hp,hq]
   ·exact absurd (by rw [← hp,h];exact aE.2 ⟨q,hq,rfl⟩) h1.1
  ·rcases aQ.1 hq with hq|hq
   ·exact absurd (by rw [← hq,← h];exact aE.2 ⟨p,hp,rfl⟩) h1.1
   ·exact ih h1.2 hp hq
theorem xV {V:Nat→Value} {x:m3} {v:Value} (h:V x.i=v):lu V x.tn=x.outs.flatMap fun o=>o.2 v (fJ x.gW V):=by
 unfold lu m3.tn;rw [List.flatMap_map]
 show (x.outs.flatMap fun o=>o.2 (V x.i) (fJ x.gW V))=_
 rw [h]
section
variable {P:Program} {N:Fr} {ops:Array Oper} {e:World} {σ0:Env} {L0:List cJ} {T:List Nat} {R0:List cJ} {n:Nat} {l0:Array Bool} {Q:fN}
theorem DU {D:List m3} {I:List Nat} {Q':Exit→Act→World→Prop} {S:Array Bool→World→Prop} (hB:DQ ops l0 D=true) (hD:DR (σ0.map (·.1)) D=true) (j0:∀ x∈D,x.i ∉ I→xU P N ops e σ0 L0 D x)
 (hS:∀ l w L,Sat e (L++L0) w→S l w)
 (fin:∀ a w (V:Nat→Value),(∀ y∈D,y.ok (V y.i) (fJ y.gW V))→Has N (kV V D++σ0) a→Sat e (lu V ((eE D).filter fun p=>!D.any fun z=>z.km.contains p.id)++L0) w→wpS P ops Q' S n (mark l0 (D.map (·.i))) a w) :
 ∀ (m:Nat) (U:List Nat),(∀ i∈I,i∈U)→U.Nodup→(∀ i∈U,i∈D.map (·.i))→U.length+m=D.length→∀ (l:Array Bool) (a:Act) (w:World) (V:Nat→Value),
  (∀ i,l[i]?=(l0[i]?).map (fun b=>b || U.contains i))→(∀ z∈D,z.i∈U→∀ o,ops[z.i]?=some o→∀ ed∈o.after,Region.binds .any ed=true→l.getD ed.on false=true) →
  Has N σ0 a→(∀ y∈D,y.i∈U→(y.d<100000→a.tmps[y.d]?=some (V y.i))∧y.ok (V y.i) (fJ y.gW V))→Sat e (lu V ((eE D).filter (fK D U))++L0) w→wpS P ops Q' S (n+m) l a w:=by
 simp only [DQ,DR,Bool.and_eq_true] at hB hD
 obtain ⟨⟨⟨⟨⟨Rw,Ya⟩,hB3⟩,hB4⟩,hB5⟩,hB6⟩:=hB;obtain ⟨hD1,hD2⟩:=hD;have z8:=jZ Ya;have oE:=jZ hB3;have U1:=jZ hD1;have U2:=jZ hB5
 have Oc:∀ p∈eE D,∃ y∈D,p.i=y.i:=fun p hp=>by
  obtain ⟨y,hy,hp⟩:=List.mem_flatMap.1 hp;exact ⟨y,hy,tu hp⟩
 have Ql:∀ p∈eE D,∃ y∈D,p.i=y.i∧p.gW=y.gW:=fun p hp=>by
  obtain ⟨y,hy,hp⟩:=List.mem_flatMap.1 hp;exact ⟨y,hy,tu hp,OD hp⟩
 have U3:∀ z∈D,∀ p∈eE D,p.id∈z.km→p.i∈z.gW:=fun z hz p hp u6=>by
  have h1:=List.all_eq_true.1 (List.all_eq_true.1 hB6 z hz) p.id u6;obtain ⟨q,hq,h2⟩:=List.any_eq_true.1 h1;rw [Bool.and_eq_true,beq_iff_eq,List.contains_iff_mem] at h2
  rw [← LY U2 hq hp h2.1];exact h2.2
 have LZ:∀ x∈D,l0[x.i]?=some false:=fun x hx=>by
  obtain ⟨A,B,h⟩:=List.append_of_mem hx;exact (gO Rw A x B h).1
 intro m
 induction m with
 | zero =>
  intro U Yb hU l5 hlen l a w V hl Ca ha hv hs
  have eT:∀ y∈D,y.i∈U:=fun y hy=>by
   exact JF hU l5 (by rw [ab];omega) _ (aE.2 ⟨y,hy,rfl⟩)
  have DV:l=mark l0 (D.map (·.i)):=by
   apply Array.ext_getElem?;intro i;rw [hl,tj]
   have:U.contains i=(D.map (·.i)).contains i:=by
    rw [Bool.eq_iff_iff,List.contains_iff_mem,List.contains_iff_mem]
    constructor
    ·exact l5 i
    ·intro h;obtain ⟨y,hy,rfl⟩:=aE.1 h;exact eT y hy
   rw [this]
  subst DV;refine fin a w V (fun y hy=>(hv y hy (eT y hy)).2) ⟨ha.size,ha.defers,fun k v hk=>?_⟩ ?_
  ·refine DO (σ:=kV V D) (τ:=σ0) (a:=a) (fun k v hk=>?_) ha.val k v hk;have:=get_mem hk;obtain ⟨y,hy,Xh,he⟩:=sc this
   cases he
   exact (hv y hy (eT y hy)).1 Xh
  ·have:(eE D).filter (fK D U)=(eE D).filter fun p=>!D.any fun z=>z.km.contains p.id:=by
    apply List.filter_congr;intro p hp;obtain ⟨y,hy,he⟩:=Oc p hp;unfold fK;rw [he,List.contains_iff_mem.2 (eT y hy),Bool.true_and]
    congr 1
    rw [Bool.eq_iff_iff,List.any_eq_true,List.any_eq_true]
    constructor
    ·rintro ⟨z,hz,h⟩;rw [Bool.and_eq_true] at h
     exact ⟨z,hz,h.1⟩
    ·rintro ⟨z,hz,h⟩;exact ⟨z,hz,by rw [Bool.and_eq_true];exact ⟨h,List.contains_iff_mem.2 (eT z hz)⟩⟩
   rw [this] at hs
   exact hs
 | succ m ih =>
  intro U Yb hU l5 hlen l a w V hl Ca ha hv hs
  have Gu:∀ i,l.getD i false=(match l0[i]? with|some b=>b || U.contains i|none=>false):=fun i=>by
   rw [Array.getD_eq_getD_getElem?,hl];cases l0[i]?<;>rfl
  have Qm:∀ i,l.getD i true=(match l0[i]? with|some b=>b || U.contains i|none=>true):=fun i=>by
   rw [Array.getD_eq_getD_getElem?,hl];cases l0[i]?<;>rfl
  have U4:∃ x∈D,x.i ∉ U:=by
   by_cases h:∃ x∈D,x.i ∉ U
   ·exact h
   ·exfalso
    have h2:∀ i∈D.map (·.i),i∈U:=fun i hi=>by
     obtain ⟨y,hy,rfl⟩:=aE.1 hi;exact Classical.byContradiction fun hn=>h ⟨y,hy,hn⟩
    have:=u5 z8 h2;rw [ab] at this
    omega
  have DW:∀ y∈D,(l.getD y.i false=true↔y.i∈U):=fun y hy=>by
   rw [Gu,LZ y hy]
   simp
  refine ⟨fun lU=>?_,fun i hi=>?_⟩
  ·exfalso
   obtain ⟨A,x,B,wY,Lz,hA⟩:=nt U D U4;obtain ⟨g1,o,g2,g3,_⟩:=gO Rw A x B wY
   have hr:x.i∈Region.ready .any ops l:=by
    refine mem_ready.2 ⟨?_,o,g2,fun ed JG hb=>?_⟩
    ·rw [Qm,g1]
     simpa using Lz
    ·rcases g3 ed JG hb with h|h|h
     ·rw [Gu];rw [Array.getD_eq_getD_getElem?] at h
      cases hq:l0[ed.on]? with
      | none=>rw [hq] at h;cases h
      | some b=>rw [hq] at h;simp at h;subst h;rfl
     ·cases h
     ·obtain ⟨y,hy,he⟩:=aE.1 h;rw [← he];exact (DW y (by rw [wY];exact List.mem_append_left _ hy)).2 (hA y hy)
   rw [lU] at hr;cases hr
  ·obtain ⟨Ly,o,ho,eT⟩:=mem_ready.1 hi
   have u7:l0[i]?=some false∧U.contains i=false:=by
    rw [Qm] at Ly
    cases hq:l0[i]? with
    | none=>rw [hq] at Ly;cases Ly
    | some b =>
     rw [hq] at Ly
     simp only [Bool.or_eq_false_iff] at Ly
     exact ⟨by rw [Ly.1],Ly.2⟩
   have rv:i∈D.map (·.i):=by
    refine Classical.byContradiction fun Gn=>?_
    have cO:i<ops.size:=(Array.getElem?_eq_some_iff.1 ho).1;have h1:=List.all_eq_true.1 hB4 i (List.mem_range.2 cO);unfold AZ at h1
    rw [u7.1,ho] at h1
    simp only [Bool.or_eq_true,Bool.false_eq_true,false_or,List.contains_iff_mem,Gn] at h1
    rcases h1 with h1|h1
    ·obtain ⟨A,x,B,wY,Lz,hBd⟩:=B9 U D U4;have U5:x∈D:=by rw [wY];simp
     have Rx:qQ o x.i=true→False:=fun hb=>by
      obtain ⟨ed,h2,h3,h4⟩:=l7 hb;have h5:=eT ed h2 h3;rw [h4,DW x U5] at h5
      exact Lz h5
     by_cases L3:x∈Gt ops D
     ·exact Rx (List.all_eq_true.1 h1 x L3)
     ·
      simp only [Gt,List.mem_filter,U5,true_and,Bool.not_eq_true',Bool.not_eq_false] at L3
      obtain ⟨z,hz,TV⟩:=List.any_eq_true.1 L3
      cases L4:ops[z.i]? with
      | none=>rw [L4] at TV;cases TV
      | some oz =>
       rw [L4] at TV
       obtain ⟨ed,h2,h3,h4⟩:=l7 TV
       have JH:z.i∈U:=by
        rw [wY] at hz
        rcases aJ.1 hz with hzA|Yc
        ·
         exfalso
         obtain ⟨A1,A2,rfl⟩:=List.append_of_mem hzA;obtain ⟨_,o',b1,b2,_⟩:=gO Rw A1 z (A2++x::B) (by rw [wY];simp);rw [L4] at b1;cases b1
         rcases b2 ed h2 h3 with h|h|h
         ·rw [h4,Array.getD_eq_getD_getElem?,LZ x U5] at h;cases h
         ·cases h
         ·rw [h4] at h
          have Cb:=z8;rw [wY] at Cb
          simp only [ah,List.map_cons,aM,List.cons_append] at Cb
          have:=(List.nodup_append.1 Cb).2.2 x.i h x.i (by simp);exact this rfl
        ·rcases aQ.1 Yc with rfl|Yc
         ·exfalso
          obtain ⟨_,o',b1,b2,_⟩:=gO Rw A z B wY;rw [L4] at b1;cases b1
          rcases b2 ed h2 h3 with h|h|h
          ·rw [h4,Array.getD_eq_getD_getElem?,LZ z U5] at h;cases h
          ·cases h
          ·rw [h4] at h
           have Cb:=z8;rw [wY] at Cb
           simp only [ah,List.map_cons] at Cb
           exact (List.nodup_append.1 Cb).2.2 z.i h z.i (by simp) rfl
         ·exact hBd z Yc
       have h5:=Ca z hz JH oz L4 ed h2 h3;rw [h4,DW x U5] at h5
       exact Lz h5
    ·obtain ⟨ed,JG,hb⟩:=Array.any_eq_true'.1 h1;simp only [Bool.and_eq_true,Bool.not_eq_true'] at hb
     have h3:=eT ed JG hb.1.1;rw [Gu] at h3
     have h4:U.contains ed.on=false:=by
      cases hc:U.contains ed.on with
      | false=>rfl
      | true =>
       exfalso
       have h6:=l5 _ (List.contains_iff_mem.1 hc);have h7:=hb.1.2;rw [List.contains_iff_mem.2 h6] at h7
       cases h7
     have h8:=hb.2;rw [Array.getD_eq_getD_getElem?] at h8
     cases hq:l0[ed.on]? with
     | none=>rw [hq] at h3;cases h3
     | some b =>
      rw [hq] at h3 h8;simp at h3 h8;rw [h8] at h3;rcases h3 with h3|h3;· cases h3
      ·rw [List.contains_iff_mem.2 h3] at h4;cases h4
   obtain ⟨x,hx,rfl⟩:=aE.1 rv;have Lz:x.i ∉ U:=fun h=>by rw [List.contains_iff_mem.2 h] at u7;cases u7.2
   obtain ⟨o',Qh,hg,U6⟩:=j0 x hx (fun h=>Lz (Yb _ h));rw [ho] at Qh;cases Qh
   obtain ⟨A0,B0,Yj⟩:=List.append_of_mem hx;obtain ⟨_,o',Qh,_,U7⟩:=gO Rw A0 x B0 Yj;rw [ho] at Qh;cases Qh
   have L5:∀ y∈D,y.i∈x.gW→y.i∈U:=fun y hy Qn=>by
    obtain ⟨ed,h2,h3,h4⟩:=l7 (U7 _ Qn);have h5:=eT ed h2 h3;rw [h4,DW y hy] at h5
    exact h5
   have Qo:∀ z∈D,z.i∈U→x.i ∉ z.gW:=fun z hz JH hxe=>by
    obtain ⟨A1,B1,L6⟩:=List.append_of_mem hz;obtain ⟨_,oz,L4,_,h2⟩:=gO Rw A1 z B1 L6;obtain ⟨ed,h3,h4,h5⟩:=l7 (h2 _ hxe);have h6:=Ca z hz JH oz L4 ed h3 h4;rw [h5,DW x hx] at h6
    exact Lz h6
   have Qp:x.i ∉ x.gW:=fun h=>Lz (L5 x hx h)
   have U8:∀ z∈D,∀ k,k∈z.km→k∈x.km→z=x:=fun z hz k h1 h2=>by
    refine Classical.byContradiction fun Ry=>?_
    obtain ⟨A1,B1,L6⟩:=List.append_of_mem hz;rw [L6] at hx oE
    rw [aW,aU] at oE
    have n1:=List.nodup_append.1 oE;have n2:=List.nodup_append.1 n1.2.1;rcases aJ.1 hx with hx|hx
    ·exact n1.2.2 k (List.mem_flatMap.2 ⟨x,hx,h2⟩) k (List.mem_append_left _ h1) rfl
    ·rcases aQ.1 hx with rfl|hx
     ·exact Ry rfl
     ·exact n2.2.2 k h1 k (List.mem_flatMap.2 ⟨x,hx,h2⟩) rfl
   have U9:∀ p∈eE D,p.id∈x.km→p.i∈U:=fun p hp u6=>by
    obtain ⟨y,hy,he⟩:=Oc p hp;have:=U3 x hx p hp u6;rw [he] at this ⊢
    exact L5 y hy this
   have Rz:∀ p∈eE D,p.id∈x.km→fK D U p=true:=fun p hp u6=>by
    unfold fK;rw [List.contains_iff_mem.2 (U9 p hp u6),Bool.true_and,Bool.not_eq_true'];refine List.any_eq_false.2 fun z hz h=>?_
    rw [Bool.and_eq_true,List.contains_iff_mem,List.contains_iff_mem] at h
    have:=U8 z hz _ h.1 u6;subst this;exact Lz h.2
   have hU':(x.i::U).Nodup:=List.nodup_cons.2 ⟨Lz,hU⟩
   have Od:((eE D).filter (fK D U)).Perm (qa D x++(eE D).filter fun y=>fK D U y && !x.km.contains y.id):=by
    have h1:=(List.filter_append_perm (fun y:Port=>x.km.contains y.id) ((eE D).filter (fK D U))).symm;refine h1.trans ?_;rw [List.filter_filter,List.filter_filter]
    have e1:(eE D).filter (fun y=>x.km.contains y.id && fK D U y)=qa D x:=by
     apply List.filter_congr;intro y hy
     cases hc:x.km.contains y.id with
     | false=>rfl
     | true=>rw [Rz y hy (List.contains_iff_mem.1 hc)];rfl
    have e2:(eE D).filter (fun y=>(!x.km.contains y.id) && fK D U y)=(eE D).filter fun y=>fK D U y && !x.km.contains y.id:=by
     apply List.filter_congr;intro y hy;exact Bool.and_comm _ _
    rw [e1,e2]
   have Qq:((eE D).filter (fK D (x.i::U))).Perm (x.tn++(eE D).filter fun y=>fK D U y && !x.km.contains y.id):=by
    have h1:=(List.filter_append_perm (fun y:Port=>y.i == x.i) ((eE D).filter (fK D (x.i::U)))).symm;refine h1.trans ?_;rw [List.filter_filter,List.filter_filter]
    have e0:∀ y∈eE D,fK D (x.i::U) y=(y.i == x.i || (fK D U y && !x.km.contains y.id)):=fun y hy=>by
     by_cases Qr:y.i=x.i
     ·rw [Qr,beq_self_eq_true,Bool.true_or];unfold fK;rw [Qr,List.contains_cons,beq_self_eq_true,Bool.true_or,Bool.true_and,Bool.not_eq_true'];refine List.any_eq_false.2 fun z hz h=>?_
      rw [Bool.and_eq_true,List.contains_iff_mem,List.contains_iff_mem] at h
      have RA:=U3 z hz y hy h.1;rw [Qr] at RA
      rcases aQ.1 h.2 with h3|h3
      ·have:z.i=x.i:=h3
       have Ry:z=x:=by
        have f1:=qb z8 hx;have:z∈D.filter (fun y=>y.i == x.i):=List.mem_filter.2 ⟨hz,by rw [this];exact beq_self_eq_true _⟩;rw [f1] at this
        exact an.1 this
       subst Ry;exact Qp RA
      ·exact Qo z hz h3 RA
     ·have hb:(y.i == x.i)=false:=by simpa using Qr
      rw [hb,Bool.false_or];unfold fK;rw [List.contains_cons,hb,Bool.false_or,Bool.and_assoc]
      congr 1
      rw [Bool.eq_iff_iff];simp only [Bool.not_eq_true',Bool.and_eq_true,List.any_eq_false,Bool.not_eq_true,List.contains_cons,Bool.and_eq_false_imp,Bool.or_eq_false_iff]
      constructor
      ·intro h;refine ⟨fun z hz Qn=>h z hz ⟨Qn.1,by rw [Qn.2,Bool.or_true]⟩,?_⟩
       cases hc:x.km.contains y.id with
       | false=>rfl
       | true=>exact absurd ⟨hc,by rw [beq_self_eq_true,Bool.true_or]⟩ (h x hx)
      ·rintro ⟨h1,h2⟩ z hz ⟨Qn,hor⟩;rw [Bool.or_eq_true] at hor
       rcases hor with hc|hc
       ·have OE:=beq_iff_eq.1 hc;have f1:=qb z8 hx;have:z∈D.filter (fun y=>y.i == x.i):=List.mem_filter.2 ⟨hz,by rw [OE];exact beq_self_eq_true _⟩;rw [f1] at this
        have:=an.1 this;subst this;rw [h2] at Qn;cases Qn
       ·exact h1 z hz ⟨Qn,hc⟩
    have e1:(eE D).filter (fun y=>(y.i == x.i) && fK D (x.i::U) y)=x.tn:=by
     rw [← DT z8 hx];apply List.filter_congr;intro y hy;rw [e0 y hy]
     cases (y.i == x.i)<;>rfl
    have e2:(eE D).filter (fun y=>(!(y.i == x.i)) && fK D (x.i::U) y)=(eE D).filter fun y=>fK D U y && !x.km.contains y.id:=by
     apply List.filter_congr;intro y hy;rw [e0 y hy]
     cases hc:(y.i == x.i) with
     | false=>rfl
     | true =>
      have hyi:=beq_iff_eq.1 hc
      have:fK D U y=false:=by
       unfold fK;have:U.contains y.i=false:=by rw [hyi];exact u7.2
       rw [this];rfl
      rw [this];rfl
    rw [e1,e2]
   have TQ:∀ q,q∈σ0.map (·.1)→q≠x.d:=fun q hq he=>by
    have h1:=List.all_eq_true.1 hD2 q hq;rw [he,List.contains_iff_mem.2 (aE.2 ⟨x,hx,rfl⟩)] at h1
    cases h1
   have Xh:∀ y∈D,y.i∈U→y.d ∉ [x.d]:=fun y hy Ag h=>by
    have he:y.d=x.d:=an.1 h;obtain ⟨A1,B1,L6⟩:=List.append_of_mem hx;rw [L6] at hy U1
    rw [ah,List.map_cons] at U1
    have n1:=List.nodup_append.1 U1;have n2:=List.nodup_cons.1 n1.2.1;rcases aJ.1 hy with hy|hy
    ·exact n1.2.2 y.d (aE.2 ⟨y,hy,rfl⟩) x.d (List.mem_cons_self ..) he
    ·rcases aQ.1 hy with rfl|hy
     ·exact Lz Ag
     ·exact n2.1 (by rw [← he];exact aE.2 ⟨y,hy,rfl⟩)
   have U6:=U6 V (oL a [x.d]) (lu V ((eE D).filter fun y=>fK D U y && !x.km.contains y.id))
    (fun q v hq=>oM (fun h=>TQ q (aE.2 ⟨(q,v),get_mem hq,rfl⟩) (an.1 h)) (ha.val q v hq))
    (fun y Xi hyu Qs=>by
     have Ag:=L5 y Xi hyu;exact ⟨oM (Xh y Xi Ag) ((hv y Xi Ag).1 Qs),(hv y Xi Ag).2⟩)
   have fQ:Sat e (lu V (qa D x)++(lu V ((eE D).filter fun y=>fK D U y && !x.km.contains y.id)++L0)) w:=hs.cL (xS (by
    rw [← aM];refine List.Perm.append_right _ ?_;have:=List.Perm.flatMap_right (f:=fun y:Port=>y.mem (V y.i) (fJ y.gW V)) Od;rw [aW] at this
    exact this))
   refine te ho ?_ U6 ⟨ha.size,ha.defers,DP⟩ fQ ?_
   ·rcases hg with hg|⟨j,want,hg,hw⟩
    ·simp [Region.wanted,hg]
    ·obtain ⟨dst,op,ty,pos,af,gd⟩:=o;dsimp only at hg
     subst hg;exact nL ha hw
   rintro _ L' a' w' ⟨v,rfl,Yk,Yl⟩ Dw oD
   have Qt:∀ q u,q≠x.d→a.tmps[q]?=some u→a'.tmps[q]?=some u:=fun q u hq hu=>by
    refine Dw.val q u ?_
    split
    ·rw [fD,aB (fun h=>hq h.symm)];exact oM (fun h=>hq (an.1 h)) hu
    ·exact oM (fun h=>hq (an.1 h)) hu
   have hVk:∀ z∈D,z.i∈U→∀ k∈z.gW,V k=(fun k=>if k=x.i then v else V k) k:=fun z hz JH k hk=>by
    have oE:k≠x.i:=fun h=>Qo z hz JH (by rw [← h];exact hk)
    show V k=if k=x.i then v else V k
    rw [aB oE]
   have hVx:fJ x.gW V=fJ x.gW (fun k=>if k=x.i then v else V k):=p9 fun k hk=>by
    have oE:k≠x.i:=fun h=>Qp (by rw [← h];exact hk)
    show V k=if k=x.i then v else V k
    rw [aB oE]
   have hV:∀ y∈(eE D).filter (fun y=>fK D U y && !x.km.contains y.id),V y.i=(fun k=>if k=x.i then v else V k) y.i∧∀ k∈y.gW,V k=(fun k=>if k=x.i then v else V k) k:=fun y hy=>by
    have Ag:U.contains y.i=true:=by
     have h1:=(List.mem_filter.1 hy).2;simp only [Bool.and_eq_true] at h1
     have:=h1.1;simp only [fK,Bool.and_eq_true] at this
     exact this.1
    have oE:y.i≠x.i:=fun h=>by
     rw [h] at Ag;rw [Ag] at u7;cases u7.2
    obtain ⟨z,hz,OE,hzu⟩:=Ql y (List.mem_filter.1 hy).1;refine ⟨by dsimp only;rw [aB oE],?_⟩;rw [hzu];exact hVk z hz (by rw [← OE];exact List.contains_iff_mem.1 Ag)
   have m1:Sat e (lu (fun k=>if k=x.i then v else V k) ((eE D).filter (fK D (x.i::U)))++L0) w':=by
    refine (oD.cL Yl).cL (xS ?_);rw [← aM];refine List.Perm.append_right _ ?_;have h1:=(List.Perm.flatMap_right (f:=fun y:Port=>y.mem ((fun k=>if k=x.i then v else V k) y.i) (fJ y.gW (fun k=>if k=x.i then v else V k))) Qq).symm;refine List.Perm.trans ?_ h1;rw [aW];rw [DS (V':=fun k=>if k=x.i then v else V k) hV];refine List.Perm.append_right _ ?_;have h3:=xV (V:=fun k=>if k=x.i then v else V k) (x:=x) (v:=v) (by simp);unfold lu at h3
    rw [h3,hVx]
   refine ⟨hS _ _ _ m1,ih (x.i::U) (fun i hi=>aT _ (Yb i hi)) hU' ?_ (by rw [aN];omega) _ a' w' (fun k=>if k=x.i then v else V k) ?_ ?_ ⟨Dw.size,Dw.defers,fun q u hq=>?_⟩ ?_ m1⟩
   ·intro j hj;rcases aQ.1 hj with rfl|hj
    ·exact aE.2 ⟨x,hx,rfl⟩
    ·exact l5 j hj
   ·intro j
    by_cases hj:x.i=j
    ·subst hj
     have cO:x.i<l.size:=by
      have:=hl x.i;rw [u7.1] at this
      exact (Array.getElem?_eq_some_iff.1 this).1
     rw [Array.getElem?_setIfInBounds_self_of_lt cO,u7.1]
     simp
    ·rw [Array.getElem?_setIfInBounds_ne hj,hl];have:(j == x.i)=false:=by simp;exact fun h=>hj h.symm
     congr 1
     funext b
     rw [List.contains_cons,this,Bool.false_or]
   ·have Va:∀ k,l.getD k false=true→(l.setIfInBounds x.i true).getD k false=true:=fun k hk=>by
     rw [Array.getD_eq_getD_getElem?] at hk ⊢
     by_cases hj:x.i=k
     ·subst hj
      cases hq:l[x.i]? with
      | none=>rw [hq] at hk;cases hk
      | some b =>
       rw [Array.getElem?_setIfInBounds_self_of_lt (Array.getElem?_eq_some_iff.1 hq).1];rfl
     ·rw [Array.getElem?_setIfInBounds_ne hj];exact hk
    intro z hz JH oz L4 ed JG hb;apply Va;rcases aQ.1 JH with Ry|JH
    ·rw [Ry,ho] at L4;cases L4
     exact eT ed JG hb
    ·exact Ca z hz JH oz L4 ed JG hb
   ·exact Qt q u (TQ q (aE.2 ⟨(q,u),get_mem hq,rfl⟩)) (ha.val q u hq)
   ·intro y hy Ag;rcases aQ.1 Ag with Qr|Ag
    ·have Yn:y=x:=by
      have f1:=qb z8 hx;have:y∈D.filter (fun y=>y.i == x.i):=List.mem_filter.2 ⟨hy,by rw [Qr];exact beq_self_eq_true _⟩;rw [f1] at this
      exact an.1 this
     subst Yn;rw [aI rfl];exact ⟨fun Qs=>Dw.val _ _ (by rw [aI Qs,fD,aI rfl]),by rw [← hVx];exact Yk⟩
    ·have Yo:y.i≠x.i:=fun h=>Lz (h ▸ Ag)
     rw [aB Yo];exact ⟨fun Qs=>Qt _ _ (fun h=>Xh y hy Ag (by rw [h];exact an.2 rfl)) ((hv y hy Ag).1 Qs),by rw [← p9 (hVk y hy Ag)];exact (hv y hy Ag).2⟩
theorem A.OF (D:List m3) (m:Nat) (hm:D.length=m) (hB:DQ ops l0 D=true) (hD:DR (σ0.map (·.1)) D=true) (j0:∀ x∈D,xU P N ops e σ0 L0 D x) (hR:cz L0 R0)
 (k:∀ V:Nat→Value,(∀ y∈D,y.ok (V y.i) (fJ y.gW V))→A P N ops T R0 n (mark l0 (D.map (·.i))) Q (kV V D++σ0) e (lu V ((eE D).filter fun p=>!D.any fun z=>z.km.contains p.id)++L0)):A P N ops T R0 (n+m) l0 Q σ0 e L0:=fun a w ha hs=>by
 refine DU (I:=[]) (σ0:=σ0) (L0:=L0) (S:=JA T (Sat e R0)) hB hD (fun x hx _=>j0 x hx) (fun l w L h _=>h.cL ((kq L).trans hR)) (fun a w V h1 h2 h3=>k V h1 a w h2 h3) m [] (fun i hi=>by cases hi) List.nodup_nil (fun i hi=>by cases hi) (by simpa using hm.symm) l0 a w (fun _=>undef) (fun i=>?_) (fun z hz JH=>by cases JH) ha (fun y hy Ag=>by cases Ag) ?_
 ·simp
 ·have:(eE D).filter (fK D [])=[]:=List.filter_eq_nil_iff.2 fun y hy h=>by simp [fK] at h
  rw [this];exact hs
theorem A.Vb (x0:m3) (v0:Value) (D:List m3) (m:Nat) (hm:D.length=m) (h0:l0[x0.i]?=some true) (hB:DQ ops (l0.setIfInBounds x0.i false) (x0::D)=true) (hD:DR (σ0.map (·.1)) (x0::D)=true)
 (hc:(match ops[x0.i]? with|some o=>o.after.all fun ed=>!Region.binds .any ed || l0.getD ed.on false|none=>false)=true) (DX:x0.ok v0 (fJ x0.gW fun _=>v0)) (j0:∀ x∈D,xU P N ops e σ0 L0 (x0::D) x) (he:x0.km=[]) (hR:cz L0 R0)
 (k:∀ V:Nat→Value,(∀ y∈x0::D,y.ok (V y.i) (fJ y.gW V))→A P N ops T R0 n (mark l0 (D.map (·.i))) Q (kV V (x0::D)++σ0) e (lu V ((eE (x0::D)).filter fun p=>!(x0::D).any fun z=>z.km.contains p.id)++L0)):A P N ops T R0 (n+m) l0 Q ((x0.d,v0)::σ0) e (x0.outs.flatMap (fun o=>o.2 v0 (fJ x0.gW fun _=>v0))++L0):=fun a w ha hs=>by
 have cO:x0.i<l0.size:=(Array.getElem?_eq_some_iff.1 h0).1
 have jL:∀ i,l0[i]?=((l0.setIfInBounds x0.i false)[i]?).map (fun b=>b || [x0.i].contains i):=fun i=>by
  by_cases hi:x0.i=i
  ·subst hi;rw [Array.getElem?_setIfInBounds_self_of_lt cO,h0]
   simp
  ·rw [Array.getElem?_setIfInBounds_ne hi];have:[x0.i].contains i=false:=by simp;exact fun h=>hi h.symm
   rw [this]
   cases l0[i]?<;>simp
 have hB':=hB;have hD':=hD;simp only [DQ,DR,Bool.and_eq_true] at hB' hD'
 obtain ⟨⟨⟨⟨⟨Rw,Ya⟩,hB3⟩,hB4⟩,hB5⟩,hB6⟩:=hB';have z8:=jZ Ya;rw [List.map_cons] at z8
 have Vc:=(List.nodup_cons.1 z8).1
 have Vd:(eE (x0::D)).filter (fK (x0::D) [x0.i])=x0.tn:=by
  rw [← DT (D:=x0::D) (by rw [List.map_cons];exact z8) (List.mem_cons_self ..)];apply List.filter_congr;intro p hp;unfold fK
  have h1:((x0::D).any fun z=>z.km.contains p.id && [x0.i].contains z.i)=false:=List.any_eq_false.2 fun z hz h=>by
   rw [Bool.and_eq_true,List.contains_iff_mem,List.contains_iff_mem,an] at h
   rcases aQ.1 hz with rfl|hz
   ·rw [he] at h;cases h.1
   ·exact Vc (by rw [← h.2];exact aE.2 ⟨z,hz,rfl⟩)
  rw [h1]
  cases Oc:(p.i == x0.i) with
  | true=>rw [List.contains_iff_mem.2 (by rw [an];exact beq_iff_eq.1 Oc)];rfl
  | false =>
   have:[x0.i].contains p.i=false:=by
    cases hq:[x0.i].contains p.i with
    | false=>rfl
    | true=>rw [List.contains_iff_mem,an] at hq;rw [hq,beq_self_eq_true] at Oc;cases Oc
   rw [this];rfl
 refine DU (I:=[x0.i]) (D:=x0::D) (σ0:=σ0) (L0:=L0) (l0:=l0.setIfInBounds x0.i false) (S:=JA T (Sat e R0)) hB hD (fun x hx hxi=>?_) (fun l w L h _=>h.cL ((kq L).trans hR)) (fun a w V h1 h2 h3=>?_) m [x0.i] (fun i hi=>hi) (by simp) (fun i hi=>?_) (by rw [aN,aN,List.length_nil,hm];omega) l0 a w (fun _=>v0) jL (fun z hz JH o ho ed JG hb=>?_) ⟨ha.size,ha.defers,fun q u hq=>ha.val q u ?_⟩ (fun y hy Ag=>?_) ?_
 ·rcases aQ.1 hx with rfl|hx
  ·exact absurd (an.2 rfl) hxi
  ·exact j0 x hx
 ·have Cc:mark (l0.setIfInBounds x0.i false) ((x0::D).map (·.i))=mark l0 (D.map (·.i)):=by
   apply Array.ext_getElem?;intro i;rw [tj,tj,jL i,List.map_cons]
   cases (l0.setIfInBounds x0.i false)[i]? with
   | none=>rfl
   | some b =>
    simp only [Option.map_some,List.contains_cons,List.contains_nil,Bool.or_false,Bool.or_assoc]
  rw [Cc];exact k V h1 a w h2 h3
 ·rw [an.1 hi,List.map_cons];exact List.mem_cons_self ..
 ·have Ry:z.i=x0.i:=an.1 JH;rw [Ry] at ho
  rw [ho] at hc
  have:=Array.all_eq_true'.1 hc ed JG
  simpa [hb] using this
 ·rw [fD,aB (fun h=>?_)]
  ·exact hq
  ·have h1:=List.all_eq_true.1 hD'.2 q (aE.2 ⟨(q,u),get_mem hq,rfl⟩);rw [← h,List.map_cons,List.contains_cons,beq_self_eq_true] at h1
   cases h1
 ·have Qr:y=x0:=by
   rcases aQ.1 hy with rfl|hy
   ·rfl
   ·exact absurd (aE.2 ⟨y,hy,an.1 Ag⟩) Vc
  subst Qr;exact ⟨fun _=>ha.val _ _ (by rw [fD,aI rfl]),DX⟩
 ·rw [Vd,xV (v:=v0) rfl];exact hs
end
theorem A.TW {P:Program} {N:Fr} {ops:Array Oper} {T:List Nat} {R0:List cJ} {n:Nat} {l:Array Bool} {Q:fN} {σ:Env} {e:World} {α:Sort _} {f:α→cJ} {R:List cJ} (h:∀ x,A P N ops T R0 n l Q σ e (f x::R)):A P N ops T R0 n l Q σ e (Ex f::R):=fun a w ha hs=>by
 obtain ⟨x,hx⟩:=xI hs.2.2.2;exact h x a w ha ⟨hs.1,hs.2.1,hs.2.2.1,hx⟩
theorem A.Ve {P:Program} {N:Fr} {ops:Array Oper} {T:List Nat} {R0:List cJ} {n:Nat} {l:Array Bool} {Q:fN} {σ:Env} {e:World} {p:Prop} {R:List cJ} (h:p→A P N ops T R0 n l Q σ e R):A P N ops T R0 n l Q σ e (Pu p::R):=fun a w ha hs=>by
 obtain ⟨hp,hx⟩:=jQ hs.2.2.2;exact h hp a w ha ⟨hs.1,hs.2.1,hs.2.2.1,hx⟩
end Go.Bs
namespace Go.Bs
def be (n:Nat):Nat→List UInt8
 | 0=>[]
 | j+1=>UInt8.ofNat (n / 256 ^ j)::be n j
theorem cX (n:Nat):∀ j,(be n j).length=j
 | 0=>rfl
 | j+1=>by simp [be,cX n j]
end Go.Bs
namespace Go.Bs
def numOf (l:List UInt8):Nat:=l.foldl (fun a c=>(a*256) % 4294967296+c.toNat) 0
theorem xW (l:List UInt8) (c:UInt8):numOf (l++[c])=(numOf l*256) % 4294967296+c.toNat:=by simp [numOf]
theorem tw (l:List UInt8):numOf l<4294967296:=by
 rcases List.eq_nil_or_concat l with rfl|⟨m,c,rfl⟩
 ·simp [numOf]
 ·rw [List.concat_eq_append,xW];have:=c.toNat_lt
  omega
structure eX where
 left:List UInt8
 bad:Bool
def eX.fits (s:eX) (n:Int):Bool:=!s.bad && decide (0≤n) && decide (n≤s.left.length)
def eX.take (s:eX) (n:Int):List UInt8:=if s.fits n then s.left.take n.toNat else []
def eX.next (s:eX) (n:Int):eX:=if s.fits n then ⟨s.left.drop n.toNat,false⟩ else ⟨[],true⟩
def eX.num (s:eX) (n:Int):Nat:=numOf (s.take n)
def eX.len (s:eX) (fE:Int):Int:=if (s.num 2:Int) > max fE 0 then -1 else s.num 2
def eX.bytes (s:eX) (fE:Int):List UInt8:=(s.next 2).take (s.len fE)
def eX.tz (s:eX) (fE:Int):eX:=(s.next 2).next (s.len fE)
theorem eX.take_length (s:eX) (n:Int):(s.take n).length≤s.left.length:=by
 unfold eX.take;split
 ·simp;omega
 ·simp
theorem eX.jf (s:eX) (n:Int):(s.next n).left.length≤s.left.length:=by
 unfold eX.next;split
 ·simp
 ·simp
end Go.Bs
namespace Go.Bs
theorem be4 (n:Nat):be n 4=[UInt8.ofNat (n / 16777216),UInt8.ofNat (n / 65536),UInt8.ofNat (n / 256),UInt8.ofNat n]:=by
 simp [be]
theorem qR (n:Nat) (h:n<4294967296):numOf (be n 4)=n:=by
 rw [be4]
 simp [numOf]
 omega
theorem JI (n:Nat) (h:n<65536):numOf (be n 2)=n:=by
 simp [be,numOf]
 omega
def enc (b:List UInt8):List UInt8:=be b.length 2++b
theorem iy (b:List UInt8):(enc b).length=b.length+2:=by simp [enc,cX];omega
theorem j1 {a rest:List UInt8}:eX.take ⟨a++rest,false⟩ (a.length:Int)=a∧eX.next ⟨a++rest,false⟩ (a.length:Int)=⟨rest,false⟩:=by
 have h:eX.fits ⟨a++rest,false⟩ (a.length:Int)=true:=by
  simp only [eX.fits,Bool.not_false,Bool.true_and,Bool.and_eq_true,decide_eq_true_eq,aa]
  omega
 constructor
 ·simp only [eX.take,h,if_true]
  simp
 ·simp only [eX.next,h,if_true]
  simp
theorem u9 (x rest:List UInt8) (m:Int) (hx:x.length≤65535) (hm:(x.length:Int)≤max m 0):eX.bytes ⟨enc x++rest,false⟩ m=x∧eX.tz ⟨enc x++rest,false⟩ m=⟨rest,false⟩:=by
 have e1:enc x++rest=be x.length 2++(x++rest):=by simp [enc]
 have h1:=j1 (a:=be x.length 2) (rest:=x++rest);rw [cX] at h1
 have h2:eX.num ⟨enc x++rest,false⟩ 2=x.length:=by
  rw [eX.num,e1]
  show numOf (eX.take ⟨be x.length 2++(x++rest),false⟩ ((2:Nat):Int))=_
  rw [h1.1];exact JI _ (by omega)
 have h3:eX.len ⟨enc x++rest,false⟩ m=x.length:=by rw [eX.len,h2,aB (by omega)]
 have h4:eX.next ⟨enc x++rest,false⟩ 2=⟨x++rest,false⟩:=by
  rw [e1];exact h1.2
 have h5:=j1 (a:=x) (rest:=rest);exact ⟨by rw [eX.bytes,h3,h4];exact h5.1,by rw [eX.tz,h3,h4];exact h5.2⟩
end Go.Bs
namespace Go.Proofs
attribute [local irreducible] Bs.cD Bs.Do Bs.O Bs.W Bs.Fin Bs.A Bs.Ct Bs.cE Bs.Rd Bs.Sat Bs.cK Bs.Ob Bs.dJ Bs.View Bs.cz Bs.Ex Bs.dH Bs.Pu Bs.eY Bs.dM Bs.dZ
open Go.Bs
open Tryz
abbrev _root_.Go.Bs.pG:TypeId:=5
theorem mD {l:List UInt8}:∀ c∈l.map u8,c.oneCell'=true:=by
 intro c hc;obtain ⟨x,_,rfl⟩:=aE.1 hc
 rfl
abbrev cR (v:Value) (l:List UInt8):cJ:=dJ pG 1 v l.length (l.map u8)
theorem dw (R:List cJ) (e:World) (v:Value) (l:List UInt8) (h:db R v l) (hk:l.length≤140737488355328) :
 Ct prog 66 #[v] e R (fun v' L'=>∃ ad c,v'=.slice ad l.length c∧L'=cR (.slice ad l.length c) l::R):=by
 refine a7 (h.shape zo) ?_;rintro ⟨⟨ad,cap,rfl,h3,h4,h5,h6⟩,_⟩;refine a8 (args:=[_]) func66 rfl ntmps66 results66 rfl ?_
 cases ad with
 | none =>
  have u7:l=[]:=by
   have:=h5 rfl;exact List.eq_nil_of_length_eq_zero zo
  subst u7;refine wB ?_;exact aY _ rfl (du _ _) ⟨_,_,rfl,rfl⟩
 | some a =>
  (repeat (refine wA ?_;intros))
  refine O.fo (hF (n:=1) (k:=0) (cap:=0) zo zl rfl) ?_;refine bC (bo rfl rfl rfl .zero h rfl rfl mD zm zo fun lL c' lV=>?_)
  refine wB ?_;refine aY _ rfl ?_ ⟨lL,c',by simp [AP],rfl⟩;simp only [aC];exact aX
theorem DY {ad:Option Addr} {c k:Nat} {b:List UInt8} {R:List cJ} (h:k≤b.length):cz (cR (.slice ad b.length c) b::R) (cR (.slice ad (b.take k).length c) (b.take k)::R):=by
 have e1:(b.take k).length=k:=by rw [aF];omega
 have:=nM (E:=pG) (n:=1) (c:=c) (ad:=ad) (xs:=b.map u8) (R:=R) h;rw [Nat.mul_one,← List.map_take] at this
 unfold cR;rw [e1];exact this
theorem tB {v:Value} {b:List UInt8} {L R:List cJ} (p:cQ L (cR v b) R):∀ h,dM L h→∃ ad c,v=.slice ad b.length c∧b.length≤c∧c≤maxLen:=fun h x=>by
 obtain ⟨⟨ad,c,h1,h2,h3,_⟩,_⟩:=fO p h x;exact ⟨ad,c,h1,h2,h3⟩
theorem DZ {E n k c:Nat} {ad:Option Addr} {xs:List Value} {L R:List cJ} (p:cQ L (dJ E n (.slice ad k c) k xs) R) (hk:0<k):∀ h,dM L h→∃ g,ad=some ⟨g,0,none⟩:=fun h x=>by
 obtain ⟨⟨a,c',h1,_,_,h4⟩,_⟩:=fO p h x
 cases h1
 rcases h4 with ⟨_,_,h0⟩|h0
 ·omega
 ·exact h0
theorem db.p5 {L:List cJ} {ad:Option Addr} {c k:Nat} {l:List UInt8} (h:db L (.slice ad l.length c) l) (hk:k≤l.length):db L (.slice ad k c) (l.take k):=by
 have:=cE.p5 (L:=L) h hk;rw [Nat.mul_one,← List.map_take] at this
 have e:(l.take k).length=k:=by simp;omega
 unfold db;rw [e];exact this
theorem db.one {L:List cJ} {v:Value} {l:List UInt8} (h:db L v l):∀ x,dM L x→v.oneCell'=true:=fun x hx=>by
 obtain ⟨⟨ad,c,rfl,_⟩,_⟩:=h.shape zo x hx
 rfl
theorem cn {L:List cJ} {v:Value} {l:List UInt8} (h:db L v l):∀ x,dM L x→v.oneCell'=true:=db.one h
end Go.Proofs
namespace Go.Bs
abbrev ej:=Value × List UInt8
def dP (L:List cJ) (l:List ej):Prop:=∀ a∈l,db L a.1 a.2
theorem dP.tail {A:cJ} {L:List cJ} {l:List ej} (h:dP L l):dP (A::L) l:=fun a ha=>(h a ha).tail
theorem cz.under {L L':List cJ} (f:cz L L'):∀ M:List cJ,cz (M++L) (M++L')
 | []=>f
 | _::M=>bh (cz.under f M)
theorem all_append {M N R:List cJ}:cz (dH M::dH N::R) (dH (M++N)::R):=by
 refine cj cT (cj (cz.under cT M) ?_);rw [← aM];exact dQ
theorem A3 {M N R:List cJ}:cz (dH (M++N)::R) (dH M::dH N::R):=by
 refine cj cT ?_;rw [aM];exact cj (cz.under dQ M) dQ
theorem D0 {A:cJ}:∀ {M:List cJ} {h:dj},A∈M→dM M h→∃ h1,dj.le h1 h∧A h1
 | [],_,hm,_=>by cases hm
 | B::M,h,hm,x=>by
  obtain ⟨h1,h2,a,b,c,hB,hM⟩:=x;rcases aQ.1 hm with rfl|hm
  ·exact ⟨h1,b,hB⟩
  ·obtain ⟨h3,d,hA⟩:=D0 hm hM;exact ⟨h3,dj.le_trans d c,hA⟩
def item (a:ej):cJ:=View 1 a.1 a.2.length (a.2.map u8)
def cH (l:List ej):cJ:=dH (l.map item)
theorem eF {l:List ej} {R:List cJ}:dP (cH l::R) l:=fun a ha h x=>by
 obtain ⟨h1,h2,_,b,_,hA,_⟩:=x;obtain ⟨h3,c,hi⟩:=D0 (aE.2 ⟨a,ha,rfl⟩) hA;exact View.le hi (dj.le_trans c b)
theorem dL {R:List cJ}:cz R (cH []::R):=dQ (M:=[])
theorem eK {l m:List ej} {R:List cJ}:cz (cH l::cH m::R) (cH (l++m)::R):=by
 unfold cH;rw [ah];exact all_append
theorem qc {l m:List ej} {R:List cJ}:cz (cH (l++m)::R) (cH l::cH m::R):=by
 unfold cH;rw [ah];exact A3
theorem JJ {a:ej} {R:List cJ}:cz (View 1 a.1 a.2.length (a.2.map u8)::R) (cH [a]::R):=dQ (M:=[item a])
theorem jv {a:ej} {R:List cJ}:cz (dJ pG 1 a.1 a.2.length (a.2.map u8)::R) (cH [a]::R):=xL.trans JJ
theorem Gv {l:List ej} {R:List cJ} (k:Nat):cz (cH l::R) (cH (l.drop k)::R):=by
 conv=>lhs;rw [← List.take_append_drop k l]
 exact qc.trans (cz.drop aX)
abbrev ez:TypeId:=30
abbrev cU (v:Value) (l:List ej):cJ:=dJ ez 1 v l.length (l.map (·.1))
section
variable {α:Type} {f:α→List Value} {n:Nat}
theorem A4 (hf:∀ a,(f a).length=n):∀ l:List α,(l.flatMap f).length=l.length*n
 | []=>by simp
 | m::l=>by
  rw [aU,aa,A4 hf l,hf,aN,Nat.add_mul];omega
theorem mE (hf:∀ a,(f a).length=n) (l:List α) (i:Nat):(l.flatMap f).take (i*n)=(l.take i).flatMap f:=by
 induction l generalizing i with
 | nil=>simp
 | cons m l ih =>
  cases i with
  | zero=>simp
  | succ i =>
   have h1:(i+1)*n=i*n+n:=Nat.succ_mul i n;rw [aU,List.take_succ_cons,aU,List.take_append,hf,aG (by rw [hf];omega),← ih]
   congr 2;omega
theorem xX (hf:∀ a,(f a).length=n) (l:List α) (i:Nat):(l.flatMap f).drop (i*n)=(l.drop i).flatMap f:=by
 induction l generalizing i with
 | nil=>simp
 | cons m l ih =>
  cases i with
  | zero=>simp
  | succ i =>
   have h1:(i+1)*n=i*n+n:=Nat.succ_mul i n;rw [aU,List.drop_succ_cons,List.drop_append,hf,List.drop_of_length_le (by rw [hf];omega),← ih];simp only [List.nil_append]
   congr 1;omega
theorem se {l:List α} (h:∀ a∈l,∀ c∈f a,c.oneCell'=true):∀ c∈l.flatMap f,c.oneCell'=true:=fun c hc=>by
 obtain ⟨a,ha,hc⟩:=List.mem_flatMap.1 hc;exact h a ha c hc
end
end Go.Bs
namespace Go.Proofs
open Go.Bs
section
variable {P:Program} {N:Fr} {ops:Array Oper} {e:World} {σ0:Env} {L0:List cJ} {D:List DOp}
theorem OG {σ:Env} {k:Nat} {v:Value} (h:get σ k=some v):pY σ [.tmp k]=some [v]:=by simp [pY,ev,h]
theorem bS {o:Oper} {K:Env→List cJ→Prop} {σ:Env} {L L':List cJ} (f:cz L L') (h:Do P N o K σ e L'):Do P N o K σ e L:=fun a w ha hs=>h a w ha (hs.cL f)
theorem Do.TW {o:Oper} {K:Env→List cJ→Prop} {σ:Env} {α:Sort _} {f:α→cJ} {R:List cJ} (h:∀ x,Do P N o K σ e (f x::R)):Do P N o K σ e (Ex f::R):=fun a w ha hs=>by
 obtain ⟨x,hx⟩:=xI hs.2.2.2;exact h x a w ha ⟨hs.1,hs.2.1,hs.2.2.1,hx⟩
theorem Do.Ve {o:Oper} {K:Env→List cJ→Prop} {σ:Env} {p:Prop} {R:List cJ} (h:p→Do P N o K σ e R):Do P N o K σ e (Pu p::R):=fun a w ha hs=>by
 obtain ⟨hp,hx⟩:=jQ hs.2.2.2;exact h hp a w ha ⟨hs.1,hs.2.1,hs.2.2.1,hx⟩
theorem Do.OH {o:Oper} {K:Env→List cJ→Prop} {σ:Env} {L:List cJ} {p:Prop} (f:∀ h,dM L h→p) (h:p→Do P N o K σ e L):Do P N o K σ e L:=fun a w ha hs=>h (f _ hs.2.2.2) a w ha hs
theorem L7 {M L R:List cJ} {A:cJ} (p:cQ L A R):cQ (M++L) A (M++R):=by
 induction M with
 | nil=>exact p
 | cons _ _ ih=>exact .succ ih
end
end Go.Proofs
namespace Go.Proofs
open Go.Bs
section
variable {P:Program} {N:Fr} {ops:Array Oper} {e:World} {σ0:Env} {L0:List cJ} {D:List m3}
theorem fx {a:Nat} (h:Nat.blt a 100000=true):a<100000:=Nat.le_of_ble_eq_true h
def Cd (cs:List Value) (t:TypeId) (v:Value) (_:Nat→Value):List cJ:=match v with|.pointer (some ⟨g,_,_⟩)=>[cK g cs t (0,0)]|_=>[]
abbrev L8 (i d id t:Nat) (cs:List Value):m3:=⟨i,d,[],[],fun v _=>∃ g,v=pt g,[(id,Cd cs t)]⟩
theorem Ce {i d id t ty:Nat} {z:Value} {cs:List Value} {pos:String} {af:Array Edge} {gd:Option (Nat × Bool)} [q:fv P t z]
 (ho:ops[i]?=some ⟨some d,.alloc t,ty,pos,af,gd⟩) (hg:tm ops σ0 ⟨some d,.alloc t,ty,pos,af,gd⟩) (hd:Nat.blt d N.n=true) (hc:z.cells=cs.toArray) (he:qa D (L8 i d id t cs)=[]) (hs:d<100000:=by decide):xU P N ops e σ0 L0 D (L8 i d id t cs):=by
 refine ⟨_,ho,hg,fun V σr M h3 hy=>?_⟩;rw [he];exact bQ hc hd fun g=>⟨_,by rw [aI hs],⟨g,rfl⟩,aX⟩
abbrev Vf (i d id:Nat) (v:Value) (M:List cJ):m3:=⟨i,d,[],[],fun w _=>w=v,[(id,fun _ _=>M)]⟩
def tC (el:Nat) (cs:List Value) (v:Value) (_:Nat→Value):List cJ:=match v with|.slice (some ⟨g,_,_⟩) _ _=>[cK g cs el (0,0)]|_=>[]
abbrev L9 (i d id el:Nat) (cs:List Value):m3:=⟨i,d,[],[],fun v _=>∃ g,v=.slice (some ⟨g,0,none⟩) cs.length cs.length,[(id,tC el cs)]⟩
theorem Cf {i d id t el len XV ty:Nat} {z:Value} {cs:List Value} {parts:List (Nat × Operand)} {vs:List (Nat × Value)} {pos:String} {af:Array Edge} {gd:Option (Nat × Bool)} [s:jt P t el 1] [j:rY P el z 1 XV]
 (ho:ops[i]?=some ⟨some d,.buildSlice t len parts.toArray,ty,pos,af,gd⟩) (hg:tm ops σ0 ⟨some d,.buildSlice t len parts.toArray,ty,pos,af,gd⟩) (hd:Nat.blt d N.n=true)
 (he:qa D (L9 i d id el cs)=[]) (hv:∀ σr,(∀ k v,get σ0 k=some v→get σr k=some v)→uU σr parts=some vs) (hn:Nat.ble (len*1) 16777216=true) (hlen:vs.length=len) (hc:Bs.gT 1 0 vs cs) (hz:z.cells.size=1) (hb:cs.length=len) (hs:d<100000:=by decide):xU P N ops e σ0 L0 D (L9 i d id el cs):=by
 refine ⟨_,ho,hg,fun V σr M h3 hy=>?_⟩;rw [he];refine bE (hv σr h3) hd hn hlen hc hz (fun g=>⟨_,by rw [aI hs],⟨g,by rw [hb]⟩,?_⟩);exact aX
abbrev Gw (i d id:Nat) (l:List UInt8):m3:=⟨i,d,[],[],fun v _=>∃ ad c,v=.slice ad l.length c,[(id,fun v _=>[View 1 v l.length (l.map u8)])]⟩
theorem JK {i d id t T el n ty:Nat} {x:Operand} {l:List UInt8} {pos:String} {af:Array Edge} {gd:Option (Nat × Bool)} [q:jt P t el n] [j:iu P el .u8] [s:u0 P T]
 (ho:ops[i]?=some ⟨some d,.convert T t x,ty,pos,af,gd⟩) (hg:tm ops σ0 ⟨some d,.convert T t x,ty,pos,af,gd⟩) (hd:Nat.blt d N.n=true) (he:qa D (Gw i d id l)=[])
 (h:∀ σr,(∀ k v,get σ0 k=some v→get σr k=some v)→ev σr x=some (.string (str l))) (hl:l.length≤maxLen) (hs:d<100000:=by decide):xU P N ops e σ0 L0 D (Gw i d id l):=by
 refine ⟨_,ho,hg,fun V σr M h3 hy=>?_⟩;rw [he];exact Do.ofStr (h σr h3) hl hd fun ad c=>⟨_,by rw [aI hs],⟨ad,c,rfl⟩,aX⟩
abbrev tD (i d:Nat) (gW:List Nat) (v:Value):m3:=⟨i,d,gW,[],fun w _=>w=v,[]⟩
theorem qd {i d:Nat} {gW:List Nat} {v:Value} {op:Op} {ty:TypeId} {pos:String} {af:Array Edge} {gd:Option (Nat × Bool)}
 (ho:ops[i]?=some ⟨some d,op,ty,pos,af,gd⟩) (hg:tm ops σ0 ⟨some d,op,ty,pos,af,gd⟩) (hd:Nat.blt d N.n=true) (he:qa D (tD i d gW v)=[])
 (h:∀ (V:Nat→Value) (σr:Env) (L:List cJ),(∀ k v,get σ0 k=some v→get σr k=some v)→(∀ y∈D,y.i∈gW→y.d<100000→get σr y.d=some (V y.i)∧y.ok (V y.i) (fJ y.gW V))→cz L L0→cD P N op ty v σr e L) (hs:d<100000:=by decide):xU P N ops e σ0 L0 D (tD i d gW v):=by
 refine ⟨_,ho,hg,fun V σr M h3 hy=>?_⟩;rw [he];exact bN (h V σr _ h3 hy (by rw [show lu V []=[] from rfl,List.nil_append];exact kq M)) hd ⟨_,by rw [aI hs],rfl,aX⟩
theorem qe {p:m3→Prop}:∀ y∈([]:List m3),p y:=fun y h=>by cases h
theorem dl {p:m3→Prop} {x:m3} {l:List m3} (h:p x) (h2:∀ y∈l,p y):∀ y∈x::l,p y:=fun y hy=>by
 rcases aQ.1 hy with rfl|hy
 ·exact h
 ·exact h2 y hy
end
end Go.Proofs
namespace Go.Proofs
attribute [local irreducible] Bs.cD Bs.Do Bs.O Bs.W Bs.Fin Bs.A Bs.Ct Bs.cE Bs.Rd Bs.Sat Bs.cK Bs.Ob Bs.dJ Bs.View Bs.cz Bs.Ex Bs.dH Bs.Pu Bs.eY Bs.dM Bs.dZ
open Go.Bs
open Tryz
variable (R:List cJ) (e:World)
def xY (g:Nat) (l:List UInt8) (ad:Option Addr) (c:Nat):cJ:=dH [cK g [.slice ad l.length c] 238 (0,0),cR (.slice ad l.length c) l]
def Writer (g:Nat) (l:List UInt8):cJ:=Ex fun ad=>Ex fun c=>xY g l ad c
theorem sf {g:Nat} {l:List UInt8} {R:List cJ} {P:Program} {f:FuncId} {args:Array Value} {e:World} {Post:Value→List cJ→Prop}
 (h:∀ ad c,Ct P f args e (cK g [.slice ad l.length c] 238 (0,0)::cR (.slice ad l.length c) l::R) Post):Ct P f args e (Writer g l::R) Post :=
 Ct.ex .zero fun ad=>Ct.ex .zero fun c=>(h ad c).cL cT
theorem qS {g c:Nat} {ad:Option Addr} {l:List UInt8} {R:List cJ}:cz (cK g [.slice ad l.length c] 238 (0,0)::cR (.slice ad l.length c) l::R) (Writer g l::R) :=
 cj (dQ (M:=[_,_])) (cj (fu (f:=fun c=>xY g l ad c) c) (fu (f:=fun ad=>Ex fun c=>xY g l ad c) ad))
theorem jg :
 Ct prog 73 #[] e R (fun v' L'=>∃ g,v'=pt g∧L'=Writer g []::R):=by
 refine a8 (args:=[]) func73 rfl ntmps73 results73 rfl ?_
 (repeat (refine wA ?_;intros))
 refine aY (Writer _ []::R) rfl ?_ ⟨_,rfl,rfl⟩;exact cj (bh (du pG 1)) (qS (l:=[]))
theorem hH (g:Nat) (l m:List UInt8) (v:Value) (h:db R v m) (hk:l.length+m.length≤140737488355328) :
 Ct prog 108 #[pt g,v] e (Writer g l::R) (fun v' L'=>v'=.tuple #[]∧L'=Writer g (l++m)::R):=by
 refine sf fun ad c=>?_
 refine a8 (args:=[_,_]) func108 rfl ntmps108 results108 rfl ?_;refine wB ?_;refine bC (bo rfl rfl rfl (.succ .zero) (cE.tail h) rfl rfl mD zm zo fun lL c' lV=>?_)
 refine wB ?_;refine bT (Writer g (l++m)::R) rfl ?_ ⟨rfl,rfl⟩;rw [← ah,← aa];exact cj (bw (.succ .zero) aX) qS
theorem D1 {n:Nat} {j:Nat} (hn:n<4294967296) (hj:j<4):IntKind.u8.wrap ((n:Int).fdiv (2 ^ (min (8*(j:Int)).toNat 32)))=((UInt8.ofNat (n / 256 ^ j)).toNat:Int):=by
 have h1:min (8*(j:Int)).toNat 32=8*j:=by omega
 rw [h1,Int.fdiv_eq_ediv_of_nonneg _ (by exact Int.le_of_lt (Int.pow_pos zo))];have h2:(2:Int) ^ (8*j)=((256 ^ j:Nat):Int):=by rw [Int.pow_mul];simp
 rw [h2,← Int.natCast_ediv];unfold IntKind.wrap
 simp [IntKind.bits,IntKind.signed]
theorem qf (g:Nat) (l:List UInt8) (n size:Nat) (hn:n<4294967296) (hs:size≤4) (hk:l.length+size≤140737488355328) :
 Ct prog 148 #[pt g,.int .u32 n,.int .i64 size] e (Writer g l::R) (fun v' L'=>v'=.tuple #[]∧L'=Writer g (l++be n size)::R):=by
 refine sf fun ad c=>?_
 refine a8 (args:=[_,_,_]) func148 rfl ntmps148 results148 rfl ?_;refine wB ?_;refine bq (ι:=Nat × List UInt8 × Option Addr × Nat) (fun i=>[(0,pt g),(1,.int .u32 n),(6,.int .i64 ((i.1:Int) - 1))])
  (fun i=>cK g [.slice i.2.2.1 (l++i.2.1).length i.2.2.2] 238 (0,0)::cR (.slice i.2.2.1 (l++i.2.1).length i.2.2.2) (l++i.2.1)::R)
  (fun i=>i.1≤size∧i.2.1++be n i.1=be n size) (fun i=>i.1) (size,[],ad,c) ⟨aS _,rfl⟩ (cC rfl (cC rfl (cC rfl dd))) (by simp only [aK];exact aX) ?_
 rintro ⟨j,done,ad,c⟩ ⟨hj,hd⟩;dsimp only at hj hd ⊢
 have hl:done.length+j=size:=by have:=congrArg List.length hd;simpa [cX] using this
 cases j with
 | zero =>
  refine wB ?_;simp only [be,aK] at hd
  subst hd;exact bT _ rfl (qS (l:=_++_)) ⟨rfl,rfl⟩
 | succ j =>
  have e1:((j+1:Nat):Int) - 1=(j:Int):=by omega
  simp only [e1];refine wB ?_;refine bk [12,13,14] [cK g [.slice ad (l++done).length c] 238 (0,0)] mixed ?_;refine tM 0 ?_;refine tM 1 ?_;refine tN 2 ?_;refine tF 3 ?_;refine tL 4 ?_;refine tM 5 ?_;refine tM 6 ?_;refine tk 7 _ rfl (cD.wa rfl rfl zo) ?_;refine tk 8 _ rfl (cD.shr rfl rfl zo) ?_;refine tk 9 _ rfl (cD.jO rfl) ?_;refine tO 10 ?_;refine bE rfl rfl (by rfl) (by rfl) zQ (by rfl) (fun g'=>⟨fun _=>zE,?_⟩);refine tO 11 ?_;have hb:=D1 (j:=j) hn zo;refine bo (m:=1) (ys:=[u8 (UInt8.ofNat (n / 256 ^ j))]) rfl rfl rfl (.succ (.succ .zero)) ?_ rfl rfl (by simp [u8,Value.oneCell']) (by simp only [maxLen];simp;omega) (by simp;omega) (fun lL c' lV=>⟨fun _=>zE,?_⟩)
  ·exact (bB .zero rfl zl).cast (congrArg (fun x=>[Value.int .u8 x]) hb)
  refine tO 12 ?_;refine dV (bm rfl) ?_;refine tO 13 ?_;refine dV (ba rfl) ?_;refine tO 14 ?_;refine b7 rfl rfl rfl zU .zero ⟨zN,?_⟩;refine bf zK ?_;refine wB ?_;refine bi (j,done++[UInt8.ofNat (n / 256 ^ j)],lL,c') ?_ ?_ ?_ ?_
  ·exact ⟨by dsimp only;omega,by simpa [be] using hd⟩
  ·exact Nat.lt_succ_self j
  ·exact cC rfl (cC rfl (cC rfl dd))
  ·have e2:(l++(done++[UInt8.ofNat (n / 256 ^ j)])).length=(l++done).length+1:=by simp;omega
   have e3:(l++(done++[UInt8.ofNat (n / 256 ^ j)])).map u8=List.map u8 (l++done)++[u8 (UInt8.ofNat (n / 256 ^ j))]:=by simp
   dsimp only;rw [cR,e2,e3];exact zE
theorem mw (g:Nat) (l:List UInt8) (b:UInt8) (hk:l.length+1≤140737488355328) :
 Ct prog 121 #[pt g,u8 b] e (Writer g l::R) (fun v' L'=>v'=.tuple #[]∧L'=Writer g (l++[b])::R):=by
 refine a8 (args:=[_,_]) func121 rfl ntmps121 results121 rfl ?_;have hb:b.toNat<256:=b.toNat_lt;refine wB ?_;refine bC (bg rfl rfl (qf R e g l b.toNat 1 zo zo hk) ?_)
 rintro _ _ ⟨rfl,rfl⟩
 (repeat (refine wA ?_;intros))
 refine bT _ rfl aX ⟨rfl,?_⟩
 simp [be]
theorem gF (g:Nat) (l:List UInt8) (n:Nat) (hn:n<4294967296) (hk:l.length+4≤140737488355328) :
 Ct prog 74 #[pt g,.int .u32 n] e (Writer g l::R) (fun v' L'=>v'=.tuple #[]∧L'=Writer g (l++be n 4)::R):=by
 refine a8 (args:=[_,_]) func74 rfl ntmps74 results74 rfl ?_;refine wB ?_;refine bC (bg rfl rfl (qf R e g l n 4 zo zo hk) ?_)
 rintro _ _ ⟨rfl,rfl⟩
 (repeat (refine wA ?_;intros))
 exact bT _ rfl aX ⟨rfl,rfl⟩
theorem xZ (g:Nat) (l m:List UInt8) (v:Value) (h:db R v m) (hk:l.length+m.length+2≤140737488355328) (hm:m.length≤65535) :
 Ct prog 120 #[pt g,v] e (Writer g l::R) (fun v' L'=>v'=.bool true∧L'=Writer g (l++be m.length 2++m)::R):=by
 refine a7 ((db.tail h).shape zo) ?_;rintro ⟨⟨ad,cap,rfl,h3,h4,h5,h6⟩,_⟩;refine a8 (args:=[_,_]) func120 rfl ntmps120 results120 rfl ?_;refine wB ?_;refine bC (bg rfl rfl (qf R e g l m.length 2 zo zo zo) ?_)
 rintro _ _ ⟨rfl,rfl⟩;refine wB ?_;refine bC (bg rfl rfl (hH R e g _ m _ h (by simp [cX];omega)) ?_)
 rintro _ _ ⟨rfl,rfl⟩;refine wB ?_;exact aY _ rfl aX ⟨rfl,rfl⟩
theorem Gx (g:Nat) (l m:List UInt8) (v:Value) (h:db R v m) (hm:65535<m.length) :
 Ct prog 120 #[pt g,v] e (Writer g l::R) (fun v' L'=>v'=.bool false∧L'=Writer g l::R):=by
 refine a7 ((db.tail h).shape zo) ?_;rintro ⟨⟨ad,cap,rfl,h3,h4,h5,h6⟩,_⟩;refine a8 (args:=[_,_]) func120 rfl ntmps120 results120 rfl ?_;refine wB ?_;exact aY _ rfl aX ⟨rfl,rfl⟩
theorem hI (g:Nat) (l:List UInt8) (hk:l.length≤140737488355328) :
 Ct prog 77 #[pt g] e (Writer g l::R) (fun v' L'=>∃ ad c,v'=.slice ad l.length c∧L'=cR (.slice ad l.length c) l::Writer g l::R):=by
 refine sf fun ad c=>?_
 refine a8 (args:=[_]) func77 rfl ntmps77 results77 rfl ?_;refine wB ?_;refine bC (bg rfl rfl (dw _ e _ l (bb (.succ .zero)) hk) ?_)
 rintro _ _ ⟨lL,c',rfl,rfl⟩;refine wB ?_;exact aY _ rfl (bh qS) ⟨_,_,rfl,rfl⟩
def x4 (g:Nat) (s:eX) (ad:Option Addr) (c:Nat):cJ:=dH [cK g [.slice ad s.left.length c,.bool s.bad] 289 (0,0),View 1 (.slice ad s.left.length c) s.left.length (s.left.map u8)]
def Reader (g:Nat) (s:eX):cJ:=Ex fun ad=>Ex fun c=>x4 g s ad c
theorem mF {g:Nat} {s:eX} {R:List cJ} {P:Program} {f:FuncId} {args:Array Value} {e:World} {Post:Value→List cJ→Prop}
 (h:∀ ad c,Ct P f args e (cK g [.slice ad s.left.length c,.bool s.bad] 289 (0,0)::View 1 (.slice ad s.left.length c) s.left.length (s.left.map u8)::R) Post):Ct P f args e (Reader g s::R) Post :=
 Ct.ex .zero fun ad=>Ct.ex .zero fun c=>(h ad c).cL cT
theorem iJ {g c:Nat} {ad:Option Addr} {s:eX} {R:List cJ}:cz (cK g [.slice ad s.left.length c,.bool s.bad] 289 (0,0)::View 1 (.slice ad s.left.length c) s.left.length (s.left.map u8)::R) (Reader g s::R) :=
 cj (dQ (M:=[_,_])) (cj (fu (f:=fun c=>x4 g s ad c) c) (fu (f:=fun ad=>Ex fun c=>x4 g s ad c) ad))
theorem x5 {n:Nat} {L:List cJ}:cz L (View n nY 0 []::L):=(du 0 n).trans xL
theorem jw (v:Value) (l:List UInt8) (h:db R v l) (hk:l.length≤140737488355328) :
 Ct prog 127 #[v] e R (fun v' L'=>∃ g,v'=pt g∧L'=Reader g ⟨l,false⟩::R):=by
 refine a8 (args:=[_]) func127 rfl ntmps127 results127 rfl ?_;refine wB ?_;refine aZ rfl rfl (dw R e v l h hk) ?_;rintro _ _ ⟨ad,c,rfl,rfl⟩
 (repeat (refine wA ?_;intros))
 exact aY _ rfl ((bh xL).trans (iJ (s:=⟨l,false⟩))) ⟨_,rfl,rfl⟩
theorem D2 (g:Nat) (s:eX) (n:Int) (hf:s.fits n=true) :
 Ct prog 211 #[pt g,.int .i64 n] e (Reader g s::R) (fun v' L'=>∃ ad c,v'=.slice ad n.toNat c ∧
  L'=cK g [.slice (cutAt ad c n.toNat 1) (s.left.length - n.toNat) (c - n.toNat),.bool false] 289 (0,0)::View 1 (.slice ad s.left.length c) s.left.length (s.left.map u8)::R):=by
 obtain ⟨l,bad⟩:=s;simp only [eX.fits,Bool.and_eq_true,Bool.not_eq_true',decide_eq_true_eq] at hf
 obtain ⟨⟨rfl,h0⟩,h1⟩:=hf;refine mF fun ad c=>?_
 refine a7 (cE.shape (cE.view (.succ .zero)) zo) ?_;rintro ⟨⟨lL,c',hv,h3,h4,h5,h6⟩,_⟩
 cases hv
 dsimp only at h1 h3 ⊢
 refine a8 (args:=[_,_]) func211 rfl ntmps211 results211 rfl ?_;refine wB ?_;exact aY _ rfl aX ⟨_,_,rfl,rfl⟩
theorem IB (g:Nat) (s:eX) (n:Int) (hf:s.fits n=false) :
 Ct prog 211 #[pt g,.int .i64 n] e (Reader g s::R) (fun v' L'=>v'=nY∧L'=Reader g ⟨[],true⟩::R):=by
 obtain ⟨l,bad⟩:=s;refine mF fun ad c=>?_
 dsimp only;refine a8 (args:=[_,_]) func211 rfl ntmps211 results211 rfl ?_
 cases bad with
 | true =>
  refine wB ?_;exact aY _ rfl ((bh (cz.drop x5)).trans (iJ (s:=⟨[],true⟩))) ⟨rfl,rfl⟩
 | false =>
  simp only [eX.fits,Bool.not_false,Bool.true_and,Bool.and_eq_false_iff,decide_eq_false_iff_not] at hf
  by_cases h0:n<0
  ·refine wB ?_;exact aY _ rfl ((bh (cz.drop x5)).trans (iJ (s:=⟨[],true⟩))) ⟨rfl,rfl⟩
  ·refine wB ?_;exact aY _ rfl ((bh (cz.drop x5)).trans (iJ (s:=⟨[],true⟩))) ⟨rfl,rfl⟩
theorem A5 {g c:Nat} {ad:Option Addr} {l:List UInt8} {k:Nat} {R:List cJ} (h:k≤l.length) :
 cz (cK g [.slice (cutAt ad c k 1) (l.length - k) (c - k),.bool false] 289 (0,0)::View 1 (.slice ad l.length c) l.length (l.map u8)::R) (Reader g ⟨l.drop k,false⟩::R):=by
 refine (bh (Gl h)).trans ?_;have e1:(l.drop k).length=l.length - k:=by simp
 have e2:(l.map u8).drop (k*1)=(l.drop k).map u8:=by simp
 rw [e2,← e1];exact iJ (s:=⟨l.drop k,false⟩)
theorem OJ (m c:Nat) (hc:c<256):Go.bits .or .u32 (IntKind.u32.wrap ((m:Int)*2 ^ (min (8:Int).toNat 32))) (IntKind.u32.wrap (c:Int))=(((m*256) % 4294967296+c:Nat):Int):=by
 rw [wrap_u32 (n:=(c:Int)) zo zo]
 have e0:IntKind.u32.wrap ((m:Int)*2 ^ (min (8:Int).toNat 32))=(((m*256) % 4294967296:Nat):Int):=by
  have:(2:Int) ^ (min (8:Int).toNat 32)=256:=by decide
  rw [this];unfold IntKind.wrap
  simp [IntKind.bits,IntKind.signed]
 rw [e0];have e1:m*256 % 4294967296=2 ^ 8*(m % 16777216):=by omega
 unfold Go.bits;simp only [IntKind.bits]
 have e2:(BitVec.ofInt 32 ((m*256 % 4294967296:Nat):Int) ||| BitVec.ofInt 32 (c:Int)).toNat=m*256 % 4294967296+c:=by
  rw [BitVec.toNat_or,BitVec.ofInt_natCast,BitVec.ofInt_natCast,BitVec.toNat_ofNat,BitVec.toNat_ofNat];rw [Nat.mod_eq_of_lt (show m*256 % 4294967296<2 ^ 32 by omega),Nat.mod_eq_of_lt (show c<2 ^ 32 by omega),e1];exact (Nat.two_pow_add_eq_or_of_lt zo _).symm
 exact (congrArg (fun x:Nat=>IntKind.u32.wrap (x:Int)) e2).trans (wrap_u32 zo zo)
theorem oN (g:Nat) (s:eX) (n:Nat) :
 Ct prog 210 #[pt g,.int .i64 n] e (Reader g s::R) (fun v' L'=>v'=.int .u32 (s.num n)∧L'=Reader g (s.next n)::R):=by
 refine a8 (args:=[_,_]) func210 rfl ntmps210 results210 rfl ?_;refine wB ?_
 cases hf:s.fits n with
 | false =>
  refine aZ rfl rfl (IB R e g s n hf) ?_;rintro _ _ ⟨rfl,rfl⟩;refine wB ?_;refine bq (ι:=Unit) (fun _=>[(5,.int .u32 0),(11,.int .i64 0),(12,.int .i64 0)]) (fun _=>Reader g ⟨[],true⟩::R) (fun _=>True) (fun _=>0) () trivial (cC rfl (cC rfl (cC rfl dd))) aX ?_;intro _ _;refine wB ?_;refine aY _ rfl aX ⟨?_,?_⟩
  ·simp [AP,eX.num,eX.take,hf,numOf]
  ·simp [eX.next,hf]
 | true =>
  refine aZ rfl rfl (D2 R e g s n hf) ?_;rintro _ _ ⟨ad,c,rfl,rfl⟩
  have hn:n≤s.left.length:=by
   simp only [eX.fits,Bool.and_eq_true,decide_eq_true_eq] at hf
   omega
  obtain ⟨l,bad⟩:=s;dsimp only at hn
  simp only [Int.toNat_natCast]
  generalize hB:View 1 (.slice ad l.length c) l.length (l.map u8)=B
  have jx:∀ A,db (A::B::R) (.slice ad n c) (l.take n):=fun A=>by
   subst hB;exact db.p5 (cE.view (.succ .zero)) hn
  have hlen:(l.take n).length=n:=by simp;omega
  refine wB ?_;refine W.cB (cE.shape (jx _) zo) ?_;rintro ⟨⟨lL,c',hv,h3,h4,h5,h6⟩,_⟩;rw [hlen] at hv h3 h6
  cases hv
  simp only [maxLen] at h4
  refine bq (ι:=Nat) (fun i=>[(5,.int .u32 (numOf (l.take i))),(10,.slice ad n c),(11,.int .i64 n),(12,.int .i64 i)])
   (fun _=>cK g [.slice (cutAt ad c n 1) (l.length - n) (c - n),.bool false] 289 (0,0)::B::R) (fun i=>i≤n) (fun i=>n - i) 0 (aH _) (cC rfl (cC rfl (cC rfl (cC rfl dd)))) aX ?_
  intro i hi
  by_cases cO:i<n
  ·have hc:=(l[i]'zo).toNat_lt;rcases h6 with h6|⟨gb,ob,rfl⟩
   ·omega
   have AT:=db.elem (jx (cK g [.slice (cutAt (some ⟨gb,ob,none⟩) c n 1) (l.length - n) (c - n),.bool false] 289 (0,0))) (j:=i) (b:=l[i]'zo) (by simp [cO]);refine wB ?_
   have e5:numOf (l.take (i+1))=(numOf (l.take i)*256) % 4294967296+(l[i]'zo).toNat:=by
    rw [aD zo,xW]
   refine bi (i+1) ?_ ?_ (cC ?_ (cC rfl (cC rfl (cC rfl dd)))) aX
   ·exact cO
   ·show n - (i+1)<n - i
    omega
   ·rw [e5];rw [← OJ (numOf (l.take i)) _ hc,wrap_u32 (n:=((l[i]'zo).toNat:Int)) zo zo]
    rfl
  ·have gB:i=n:=by omega
   subst gB;refine wB ?_;subst hB;refine aY _ rfl (A5 hn) ⟨?_,?_⟩
   ·simp [AP,eX.num,eX.take,hf]
   ·simp [eX.next,hf]
theorem qT (g:Nat) (s:eX) :
 Ct prog 130 #[pt g] e (Reader g s::R) (fun v' L'=>v'=.int .u32 (s.num 4)∧L'=Reader g (s.next 4)::R):=by
 refine a8 (args:=[_]) func130 rfl ntmps130 results130 rfl ?_;refine wB ?_;refine aZ rfl rfl (oN R e g s 4) ?_;rintro _ _ ⟨rfl,rfl⟩;refine wB ?_;exact aY _ rfl aX ⟨rfl,rfl⟩
theorem JL (l:List UInt8) (h:l.length≤1):numOf l<256:=by
 match l,h with
 | [],_=>simp [numOf]
 | [c],_=>have:=c.toNat_lt;simp [numOf];omega
theorem x6 (g:Nat) (s:eX) :
 Ct prog 128 #[pt g] e (Reader g s::R) (fun v' L'=>v'=.int .u8 (s.num 1)∧L'=Reader g (s.next 1)::R):=by
 refine a8 (args:=[_]) func128 rfl ntmps128 results128 rfl ?_
 have h1:s.num ((1:Nat):Int)<256:=JL _ (by
  unfold eX.take
  split
  ·simp;omega
  ·exact aH _)
 refine wB ?_;refine aZ rfl rfl (oN R e g s 1) ?_;rintro _ _ ⟨rfl,rfl⟩;refine wB ?_;refine aY _ rfl aX ⟨?_,rfl⟩
 rfl
theorem nP (g:Nat) (s:eX) (n:Int) (hk:s.left.length≤140737488355328) :
 Ct prog 131 #[pt g,.int .i64 n] e (Reader g s::R) (fun v' L'=>∃ ad c,v'=.slice ad (s.take n).length c∧L'=cR (.slice ad (s.take n).length c) (s.take n)::Reader g (s.next n)::R):=by
 refine a8 (args:=[_,_]) func131 rfl ntmps131 results131 rfl ?_;refine wB ?_
 cases hf:s.fits n with
 | false =>
  refine aZ rfl rfl (IB R e g s n hf) ?_;rintro _ _ ⟨rfl,rfl⟩;refine wB ?_;refine aZ rfl rfl (dw _ e _ [] (db.nil _) (aH _)) ?_;rintro _ _ ⟨ad,c,rfl,rfl⟩;refine wB ?_;have e1:s.take n=[]:=by simp [eX.take,hf]
  have e2:s.next n=⟨[],true⟩:=by simp [eX.next,hf]
  exact aY _ rfl aX ⟨ad,c,by rw [e1];rfl,by rw [e1,e2]⟩
 | true =>
  refine aZ rfl rfl (D2 R e g s n hf) ?_;rintro _ _ ⟨ad,c,rfl,rfl⟩
  have hn:n.toNat≤s.left.length:=by
   simp only [eX.fits,Bool.and_eq_true,decide_eq_true_eq] at hf
   omega
  have e1:s.take n=s.left.take n.toNat:=by simp [eX.take,hf]
  have e2:s.next n=⟨s.left.drop n.toNat,false⟩:=by simp [eX.next,hf]
  refine wB ?_;refine aZ rfl rfl (dw _ e _ (s.left.take n.toNat) (db.p5 (cE.view (.succ .zero)) hn) (by simp;omega)) ?_;rintro _ _ ⟨lL,c',rfl,rfl⟩;refine wB ?_;exact aY _ rfl (bh (A5 hn)) ⟨lL,c',by rw [e1];rfl,by rw [e1,e2]⟩
theorem qg (g:Nat) (s:eX) (fE:Int) (hk:s.left.length≤140737488355328) :
 Ct prog 129 #[pt g,.int .i64 fE] e (Reader g s::R) (fun v' L'=>∃ ad c,v'=.slice ad (s.bytes fE).length c∧L'=cR (.slice ad (s.bytes fE).length c) (s.bytes fE)::Reader g (s.tz fE)::R):=by
 refine a8 (args:=[_,_]) func129 rfl ntmps129 results129 rfl ?_;have h2:=tw (s.take 2);have h3:=s.jf 2;refine wB ?_;refine aZ rfl rfl (oN R e g s 2) ?_;rintro _ _ ⟨rfl,rfl⟩;have e1:IntKind.i64.wrap ((s.num 2:Nat):Int)=s.num 2:=wrap_i64 zo (by unfold eX.num;omega);have e2:((2:Nat):Int)=2:=rfl;simp only [e2];have h4:s.num 2<4294967296:=h2
 by_cases hm:(s.num 2:Int) > max fE 0
 ·have hl:s.len fE = -1:=by simp only [eX.len,aI hm]
  have hm':(if (0:Int) > fE then 0 else fE)<(s.num 2:Int):=by split<;>omega
  refine wB ?_;refine aZ rfl rfl (nP R e g _ (-1) zo) ?_;rintro _ _ ⟨ad,c,rfl,rfl⟩;refine wB ?_;exact aY _ rfl aX ⟨ad,c,by simp only [eX.bytes,hl];rfl,by simp only [eX.bytes,eX.tz,hl]⟩
 ·have hl:s.len fE=s.num 2:=by simp only [eX.len,aB hm]
  have hm':¬ (if (0:Int) > fE then 0 else fE)<(s.num 2:Int):=by split<;>omega
  refine wB ?_;refine aZ rfl rfl (nP R e g _ (s.num 2) zo) ?_;rintro _ _ ⟨ad,c,rfl,rfl⟩;refine wB ?_;exact aY _ rfl aX ⟨ad,c,by simp only [eX.bytes,hl];rfl,by simp only [eX.bytes,eX.tz,hl]⟩
theorem vi (g:Nat) (s:eX) :
 Ct prog 145 #[pt g] e (Reader g s::R) (fun v' L'=>v'=.bool s.bad∧L'=Reader g s::R):=by
 refine mF fun ad c=>?_
 refine a8 (args:=[_]) func145 rfl ntmps145 results145 rfl ?_;refine wB ?_;exact aY _ rfl iJ ⟨rfl,rfl⟩
theorem sh (g:Nat) (s:eX) :
 Ct prog 140 #[pt g] e (Reader g s::R) (fun v' L'=>v'=.int .i64 s.left.length∧L'=Reader g s::R):=by
 refine mF fun ad c=>?_
 refine a8 (args:=[_]) func140 rfl ntmps140 results140 rfl ?_;refine wB ?_;exact aY _ rfl iJ ⟨rfl,rfl⟩
theorem A6 (g:Nat) (s:eX) :
 Ct prog 132 #[pt g] e (Reader g s::R) (fun v' L'=>v'=.bool (!s.bad && decide (s.left=[]))∧L'=Reader g s::R):=by
 obtain ⟨l,bad⟩:=s;refine mF fun ad c=>?_
 refine a8 (args:=[_]) func132 rfl ntmps132 results132 rfl ?_;dsimp only
 cases bad with
 | true =>
  refine wB ?_;exact aY _ rfl (iJ (s:=⟨l,true⟩)) ⟨rfl,rfl⟩
 | false =>
  cases l with
  | nil =>
   have h0:(([]:List UInt8).length:Int)=0:=rfl;refine wB ?_;exact aY _ rfl (iJ (s:=⟨_,false⟩)) ⟨rfl,rfl⟩
  | cons x l =>
   have h0:¬ (((x::l).length:Int)=0):=by simp;omega
   refine wB ?_;exact aY _ rfl (iJ (s:=⟨_,false⟩)) ⟨rfl,rfl⟩
theorem tE (g n:Nat) (r:List UInt8) (hn:n<4294967296) :
 Ct prog 130 #[pt g] e (Reader g ⟨be n 4++r,false⟩::R) (fun v' L'=>v'=.int .u32 n∧L'=Reader g ⟨r,false⟩::R):=by
 have h:=qT R e g ⟨be n 4++r,false⟩;have h2:=j1 (a:=be n 4) (rest:=r);rw [cX] at h2
 unfold eX.num at h
 rw [show ((4:Nat):Int)=4 from rfl] at h2
 rw [h2.1,h2.2,qR n hn] at h
 exact h
theorem vo (g:Nat) (b:UInt8) (r:List UInt8) :
 Ct prog 128 #[pt g] e (Reader g ⟨b::r,false⟩::R) (fun v' L'=>v'=u8 b∧L'=Reader g ⟨r,false⟩::R):=by
 have h:=x6 R e g ⟨b::r,false⟩;have h2:=j1 (a:=[b]) (rest:=r);unfold eX.num at h
 have e1:eX.take ⟨b::r,false⟩ 1=[b]:=h2.1;have e2:eX.next ⟨b::r,false⟩ 1=⟨r,false⟩:=h2.2;rw [e1,e2,show numOf [b]=b.toNat by simp [numOf]] at h
 exact h
theorem x8 (g n:Nat) (x r:List UInt8) (hn:x.length=n) (hk:(x++r).length≤140737488355328) :
 Ct prog 131 #[pt g,.int .i64 (n:Int)] e (Reader g ⟨x++r,false⟩::R) (fun v' L'=>∃ ad c,v'=.slice ad x.length c∧L'=cR (.slice ad x.length c) x::Reader g ⟨r,false⟩::R):=by
 subst hn;have h:=nP R e g ⟨x++r,false⟩ (x.length:Int) hk;have h2:=j1 (a:=x) (rest:=r);rw [h2.1,h2.2] at h
 exact h
theorem IC (g:Nat) (x r:List UInt8) (fE:Int) (hx:x.length≤65535) (hm:(x.length:Int)≤fE) (hk:(enc x++r).length≤140737488355328) :
 Ct prog 129 #[pt g,.int .i64 fE] e (Reader g ⟨enc x++r,false⟩::R) (fun v' L'=>∃ ad c,v'=.slice ad x.length c∧L'=cR (.slice ad x.length c) x::Reader g ⟨r,false⟩::R):=by
 have h:=qg R e g ⟨enc x++r,false⟩ fE hk;have h2:=u9 x r fE hx zo;rw [h2.1,h2.2] at h
 exact h
theorem x9 (g:Nat) (l:List UInt8) :
 Ct prog 132 #[pt g] e (Reader g ⟨l,false⟩::R) (fun v' L'=>v'=.bool (decide (l=[]))∧L'=Reader g ⟨l,false⟩::R):=by
 have h:=A6 R e g ⟨l,false⟩;exact h
end Go.Proofs
namespace Go.Bs
def Fw (ro:Option Nat):Fence:={ Fence.wide with round:=ro }
theorem Gy {ro:Option Nat} {n:Nat} {P:Program} {f:FuncId} {args:Array Value} {w:World} {R:Ending→World→Prop} (h:Calls P f args w R):CallsIn (Fw ro) n P f args w R:=by
 have h1:=(callsIn_wide (n:=n)).2 h
 cases ro with
 | none=>exact h1
 | some l=>exact h1
theorem JM {ro:Option Nat} {n:Nat} {P:Program} {row:String} {args:Array Value} {w:World} {R:Value→World→Prop} (h:Rows P row args w R):RowsIn (Fw ro) n P row args w R:=fun c cs _=>by
 obtain ⟨v,w',r,s⟩:=h c cs;exact ⟨v,w',r,by have:=stepsIn_wide.2 s;cases ro<;>exact this⟩
def Cg:Op→Bool
 | .defer _=>false
 | _=>true
theorem Gz {ro:Option Nat} {P:Program} {o:Oper} {a:Act} {w:World} {next:Act→World→Prop} {Q:Exit→Act→World→Prop} (hd:Cg o.op=true) (h:o.wp P a w next Q):o.wpIn (Fw ro) 0 P a w next Q:=by
 refine ⟨fun _ _=>trivial,?_⟩;rw [Oper.semAt_eq _ _ _ (fun c hc=>by rw [hc] at hd;cases hd)];unfold Oper.wp at h
 cases hr:(execOp a.eval o).run P w with
 | ok x w' =>
  rw [hr] at h
  cases x with
  | value v=>exact h
  | skip=>exact h
  | defer d=>exact h
  | enter f args=>exact ⟨fun h=>by cases ro<;>simp [Fw,Fence.wide] at h,Gy h⟩
  | row r args=>exact ⟨fun h=>by cases ro<;>simp [Fw,Fence.wide] at h,JM h⟩
  | _=>exact h.elim
 | halt x w' =>
  rw [hr] at h
  cases x with
  | panic v=>exact h
  | _=>exact h.elim
def OI (ro:Option Nat) (P:Program) (N:Fr) (all:Array Oper) (l:List Oper) (Q:fN) (σ:Env) (e:World) (L:List cJ):Prop:=∀ a w,Has N σ a→Sat e L w→wpListIn (Fw ro) 0 P all (WQ N Q) l a w
def WI (ro:Option Nat) (P:Program) (N:Fr) (c:Code) (Q:fN) (σ:Env) (e:World) (L:List cJ):Prop:=∀ a w,Has N σ a→Sat e L w→c.wpIn (Fw ro) 0 P (WQ N Q) a w
section
variable {P:Program} {N:Fr} {Q:fN} {σ:Env} {e:World} {L:List cJ} {all:Array Oper} {rest:List Oper} {ro:Option Nat}
variable {d:Nat} {op:Op} {ty:TypeId} {pos:String} {af:Array Edge} {x:Operand}
theorem W.Yp {c:Code} (h:WI none P N c Q σ e L):W P N c Q σ e L:=fun a w ha hs=>wpIn_wide.1 (h a w ha hs)
theorem WI.region {id:Nat} {l:List Oper} (h:OI ro P N l.toArray l Q σ e L):WI ro P N (.region id l.toArray false) Q σ e L:=fun a w ha hs=>wpIn_region_lit (h a w ha hs)
theorem WI.block {id:Nat} {c:Code} (h:WI ro P N c (jR id Q) σ e L):WI ro P N (.block id c) Q σ e L:=fun a w ha hs =>
 wpIn_block (Go.wpIn_mono (h a w ha hs) fun x a w q=>by
  cases x with
  | exit i =>
   obtain ⟨σ',h1,h2⟩:=q;simp only [Exit.inBlock];simp only [jR] at h2
   split
   ·rename_i e;rw [aI e] at h2;exact ⟨σ',h1,h2⟩
   ·rename_i e;rw [aB e] at h2;exact ⟨σ',h1,h2⟩
  | _=>exact q)
theorem WI.code {c c':Code} (h:c=c') (k:WI ro P N c' Q σ e L):WI ro P N c Q σ e L:=h ▸ k
theorem OI.nil (h:Fin Q .normal σ e L):OI ro P N all [] Q σ e L:=fun _ w ha hs=>⟨σ,ha,h w hs⟩
theorem OI.do {dst:Option Tmp} (hn:Cg op=true) (h:Do P N ⟨dst,op,ty,pos,af,none⟩ (fun σ' L'=>OI ro P N all rest Q σ' e L') σ e L):OI ro P N all (⟨dst,op,ty,pos,af,none⟩::rest) Q σ e L :=
 fun a w ha hs=>wpListIn_plain rfl fun K hK=>Gz hn (h a w ha hs K _ fun _ _ a' w' ho Dw oD=>hK a' w' (ho a' w' Dw oD))
theorem OI.val (v:Value) (hn:Cg op=true) (h:cD P N op ty v σ e L) (hd:Nat.blt d N.n=true) (k:OI ro P N all rest Q ((d,v)::σ) e L):OI ro P N all (⟨some d,op,ty,pos,af,none⟩::rest) Q σ e L :=
 OI.do hn (bN h hd k)
def Rt (P:Program) (l:Nat) (args:Array Value) (e:World) (L:List cJ) (Post:Value→List cJ→Prop):Prop:=∀ w,Sat e L w→YieldAt Fence.wide 0 P l args w (jE e Post)
theorem OI.yield {l:Nat} {xs:List Operand} {vs:List Value} {ats:Array TypeId} {Post:Value→List cJ→Prop} (hf:ev σ x=some (.func (.yield l) #[] #[])) (hx:pY σ xs=some vs) (hd:Nat.blt d N.n=true) (h:Rt P l vs.toArray e L Post)
 (k:∀ v L',Post v L'→OI none P N all rest Q ((d,v)::σ) e L'):OI none P N all (⟨some d,.call { callee:=.value x,args:=xs.toArray,argTypes:=ats },ty,pos,af,none⟩::rest) Q σ e L:=fun a w ha hs =>
 wpListIn_plain rfl fun K hK=>by
  refine ⟨fun _ _=>trivial,?_⟩;obtain ⟨fn,tmps,assign,body,hy,hR⟩:=h w hs
  have h1:(execOp a.eval ⟨some d,.call { callee:=.value x,args:=xs.toArray,argTypes:=ats },ty,pos,af,none⟩).run P w=.ok (.round l fn tmps assign body) w:=by
   have h2:(#[]++xs.toArray.map a.eval:Array Value)=vs.toArray:=by simp [ha.pY hx]
   simp only [execOp,resolve,ha.ev hf,Deferred.ofValue,Sem.run_bind,Sem.run_pure,Result.andThen_ok,invoke];rw [h2];exact hy
  rw [show (Fw none).round=none from rfl,Oper.semAt_none,h1,Oper.uponIn_round];refine ⟨fun h=>by simp [Fw,Fence.wide] at h,hR.mono ?_⟩;rintro _ w' ⟨v,L',rfl,hp,oD⟩;exact hK _ _ (k v L' hp _ _ (ha.put hd v) oD)
def Lp (l:Nat) (r:Loop):cJ:=Ob l (.loop r)
def Df (D:Nat):cJ:=Ob D (.deferred (some []))
theorem Sat.put {o o':Obj} {g:Nat} {R:List cJ} {w:World} (h:Sat e (Ob g o::R) w):Sat e (Ob g o'::R) (w.putObj g o'):=by
 have hg:w.heap[g]?=some o:=by
  obtain ⟨h1,h2,_,b,_,hA,_⟩:=h.2.2.2;exact b g _ hA
 have cO:g<w.heap.size:=(Array.getElem?_eq_some_iff.1 hg).1;refine h.change rfl rfl rfl fun h1 hle hA=>?_
 refine ⟨fun b=>if b=g then some o' else none,?_,by simp [Ob],?_,?_⟩
 ·intro b o2 hb
  by_cases eb:b=g
  ·subst eb;simp only [if_true] at hb;rw [← hb];exact World.putObj_heap_same cO
  ·simp [eb] at hb
 ·intro b o2 hb hn
  by_cases eb:b=g
  ·subst eb;rw [show h1 b=_ from hA] at hn;cases hn
  ·simp [eb] at hb
 ·intro b hn o2 ho;have:b≠g:=by rintro rfl;rw [show h1 b=_ from hA] at hn;cases hn
  exact (World.putObj_heap_other this).trans ho
theorem Sat.obj {o:Obj} {g:Nat} {R:List cJ} {w:World} (h:Sat e (Ob g o::R) w):w.heap[g]?=some o:=by
 obtain ⟨h1,h2,_,b,_,hA,_⟩:=h.2.2.2;exact b g _ hA
def QR (e:World) (l:Nat) (r:Loop) (L2:List cJ):fN:=fun x σ w=>x=.normal∧Sat e (Lp l { r with state:=.busy }::L2) w
theorem Fin.Yq {l:Nat} {r:Loop} {L2:List cJ} (h:cz L (Lp l { r with state:=.busy }::L2)):Fin (QR e l r L2) .normal σ e L:=fun w hs=>⟨rfl,hs.cL h⟩
def QA (P:Program) (N:Fr) (l:Nat) (r:Loop) (e:World) (Q:fN):fN:=fun x σ w=>x=.normal∧∃ L,Sat e (Lp l r::L) w∧WI (some l) P N r.body Q σ e (Lp l { r with state:=.busy }::L)
theorem Fin.Yv {l:Nat} {r:Loop} {L':List cJ} (h:cz L (Lp l r::L')) (hb:WI (some l) P N r.body Q σ e (Lp l { r with state:=.busy }::L')):Fin (QA P N l r e Q) .normal σ e L:=fun w hs=>⟨rfl,L',hs.cL h,hb⟩
theorem Rt.mk {l p:Nat} {r:Loop} {v:Value} {L2:List cJ} (eJ:r.state=.ready) (u6:r.pending=none) (hpa:r.params=#[p]) (hp:Nat.blt p N.n=true) (hN:N.ds=[]) (hr:Has N σ { tmps:=r.tmps,defers:=[] })
 (h:WI (some l) P N r.assign (QA P N l r e (QR e l r L2)) ((p,v)::σ) e (Lp l r::L)):Rt P l #[v] e (Lp l r::L) (fun v' L'=>v'=.bool true∧L'=Lp l r::L2):=fun w hs=>by
 have hl:=hs.obj;refine ⟨_,_,_,_,run_yield hl (by rw [hpa];rfl),roundIn_of_wpIn trivial ?_⟩;have hh:=hr.put hp v;have ht:((r.params.zip #[v]).foldl (fun tmps (t,a)=>tmps.setIfInBounds t a) r.tmps)=r.tmps.setIfInBounds p v:=by rw [hpa];simp
 rw [ht];refine Go.wpIn_mono (h _ w hh hs) fun x a1 w1 q=>?_
 cases x with
 | normal =>
  obtain ⟨σ1,h1,_,L',fQ,hb⟩:=q;have qh:=fQ.obj;refine ⟨_,run_beginRound qh eJ,?_⟩;refine Go.wpIn_mono (hb a1 _ h1 fQ.put) fun x a2 w2 q=>?_
  cases x with
  | normal =>
   obtain ⟨σ2,h2,_,m1⟩:=q;have ry:=m1.obj;refine ⟨_,_,run_endRound none ry,.bool true,_,rfl,⟨rfl,rfl⟩,?_⟩;have h3:=m1.put (o':=.loop r)
   have h4:({ { r with state:=.busy } with state:=if (none:Option Code).isNone then .ready else .done,pending:=none }:Loop)=r:=by
    cases r;simp at eJ u6;subst eJ u6;rfl
   rw [h4];exact h3
  | panic _=>exact q.elim
  | outgrown=>exact q.elim
  | _=>obtain ⟨_,_,h2,_⟩:=q;cases h2
 | panic _=>exact q.elim
 | outgrown=>exact q.elim
 | _=>obtain ⟨_,_,h2,_⟩:=q;cases h2
def WM (P:Program) (fn:Func) (N:Nat) (c:Code) (Post:Value→List cJ→Prop) (σ:Env) (e:World) (L:List cJ):Prop :=
 ∀ a w,Has ⟨N,[]⟩ σ a→Sat e L w→c.wp P (bodyPostM Fence.wide 0 P fn (jE e Post)) a w
def Qu (P:Program) (fn:Func) (N:Nat) (y:Code) (Post:Value→List cJ→Prop) (e:World):Env→World→Prop:=fun σ w=>∀ a,Has ⟨N,[]⟩ σ a→y.wp P (bodyPostM Fence.wide 0 P fn (jE e Post)) a w
def NoQ:fN:=fun _ _ _=>False
theorem WM.seq {fn:Func} {n:Nat} {x y:Code} {Post:Value→List cJ→Prop} (h:W P ⟨n,[]⟩ x (kj (Qu P fn n y Post e) NoQ) σ e L):WM P fn n (.seq x y) Post σ e L:=fun a w ha hs =>
 wp_seq (Code.wp_mono (fun x a w q=>by
  cases x with
  | normal=>exact q.elim fun σ' h=>h.2 a h.1
  | panic _=>exact q.elim
  | outgrown=>exact q.elim
  | _=>obtain ⟨_,_,h2⟩:=q;exact h2.elim) (h a w ha hs))
theorem Fin.D3 {fn:Func} {n:Nat} {y:Code} {Post:Value→List cJ→Prop} (h:WM P fn n y Post σ e L):Fin (kj (Qu P fn n y Post e) Q) .normal σ e L:=fun w hs a ha=>h a w ha hs
theorem Ct.RB {f:FuncId} {fn:Func} {c:Code} {n:Nat} {args:List Value} {Post:Value→List cJ→Prop}
 (hf:P.funcs[f]?=some fn) (hb:fn.body=some c) (hN:fn.ntmps=n) (hle:Nat.ble args.length n=true)
 (h:WM P fn n c Post (oG 0 args) e L):Ct P f args.toArray e L Post:=by
 subst hN;intro w hs;have hle:=Nat.le_of_ble_eq_true hle;refine (callsIn_wide (n:=0)).1 (callsIn_of_wp_marks hf hb trivial (wpIn_wide.2 (h _ w ⟨by simp;omega,rfl,fun k v hk=>?_⟩ hs)));have h1:=(m8 args 0 k v hk).2;have cO:k<args.length:=(List.getElem?_eq_some_iff.1 h1).1;rw [Array.getElem?_append_left (by simpa using cO)]
 simpa using h1
def mk (D:Nat):Deferred:={ target:=.collected D,args:=#[] }
def Ma (D:Nat) (Post:Value→List cJ→Prop):Value→List cJ→Prop:=fun v L'=>∃ L1,L'=Df D::L1∧Post v L1
theorem YO {fn:Func} {rs:Array ResultVar} {n D:Nat} {Post:Value→List cJ→Prop} (hr:fn.results=rs) {x:Exit} {a:Act} {w:World} (q:WQ ⟨n,[mk D]⟩ (AQ rs (jE e (Ma D Post))) x a w):bodyPostM Fence.wide 0 P fn (jE e Post) x a w:=by
 subst hr
 have key:∀ σ',Has ⟨n,[mk D]⟩ σ' a→(∃ vs,p0 σ' fn.results.toList=some vs∧jE e (Ma D Post) (.returned (AP vs)) w)→LeavesInM Fence.wide 0 P fn a.tmps (jE e Post) a.defers .returning w:=fun σ' h1 ⟨vs,h2,v,L',h3,⟨L1,h4,h5⟩,h6⟩=>by
  cases h3
  subst h4;rw [h1.defers];refine ⟨by simp,.inl ⟨D,_,rfl,run_takeDeferred h6.obj,?_⟩⟩;exact ⟨_,p4 h1 h2,_,L1,rfl,h5,h6.put.cL (cz.drop aX)⟩
 cases x with
 | normal=>obtain ⟨σ',h1,h2⟩:=q;exact key σ' h1 h2
 | ret=>obtain ⟨σ',h1,h2⟩:=q;exact key σ' h1 h2
 | panic _=>exact q.elim
 | outgrown=>exact q.elim
 | exit _=>obtain ⟨_,_,h2⟩:=q;exact h2.elim
 | goto _=>obtain ⟨_,_,h2⟩:=q;exact h2.elim
def OK (P:Program) (fn:Func) (Post:Value→List cJ→Prop) (e:World):Exit→Act→World→Prop:=bodyPostM Fence.wide 0 P fn (jE e Post)
def WB (P:Program) (fn:Func) (n:Nat) (c y:Code) (Post:Value→List cJ→Prop) (σ:Env) (e:World) (L:List cJ):Prop :=
 ∀ a w,Has ⟨n,[]⟩ σ a→Sat e L w→c.wp P (Exit.then (y.wp P (OK P fn Post e)) (OK P fn Post e)) a w
def Qv (P:Program) (fn:Func) (n:Nat) (c y:Code) (Post:Value→List cJ→Prop) (e:World):Env→World→Prop:=fun σ w=>∀ a,Has ⟨n,[]⟩ σ a→c.wp P (Exit.then (y.wp P (OK P fn Post e)) (OK P fn Post e)) a w
theorem Fin.tz {fn:Func} {n:Nat} {c y:Code} {Post:Value→List cJ→Prop} (h:WB P fn n c y Post σ e L):Fin (kj (Qv P fn n c y Post e) Q) .normal σ e L:=fun w hs a ha=>h a w ha hs
theorem WM.YS {fn:Func} {n:Nat} {x b y:Code} {Post:Value→List cJ→Prop} (h:W P ⟨n,[]⟩ x (kj (Qv P fn n b y Post e) NoQ) σ e L):WM P fn n (.seq (.seq x b) y) Post σ e L:=fun a w ha hs =>
 wp_seq (wp_seq (Code.wp_mono (fun x a w q=>by
  cases x with
  | normal=>exact q.elim fun σ' h=>h.2 a h.1
  | panic _=>exact q.elim
  | outgrown=>exact q.elim
  | _=>obtain ⟨_,_,h2⟩:=q;exact h2.elim) (h a w ha hs)))
theorem WB.range {fn:Func} {n id:Nat} {g:Operand} {ps:Array Tmp} {assign body y:Code} {gf Y6:FuncId} {lb:List Value} {rs:Array ResultVar} {Post:Value→List cJ→Prop} [i:cI P gf Y6]
 (Xj:fn.results=rs) (hg:ev σ g=some (.func (.func gf) #[] lb.toArray)) (M:List cJ)
 (si:∀ (l D:Nat) (r:Loop),r.state=.ready→r.pending=none→r.params=ps→r.assign=assign→r.body=body→Has ⟨n,[]⟩ σ { tmps:=r.tmps,defers:=[] } →
  Ct P Y6 (.func (.yield l) #[] #[]::lb).toArray e (Lp l r::Df D::L) (fun _ L'=>L'=Lp l r::Df D::M))
 (hy:∀ D,W P ⟨n,[mk D]⟩ y (AQ rs (jE e (Ma D Post))) σ e (Df D::M)) :
 WB P fn n (.block id (.rangeFunc g ps assign body)) y Post σ e L:=fun a w ha hs=>by
 refine wp_block (wpIn_wide (n:=0) |>.1 (wpIn_rangeFunc fun f0 _=>?_));obtain ⟨r,hr⟩:∃ r:Loop,r={ state:=.ready,pending:=none,fn:=f0,tmps:=a.tmps,params:=ps,assign:=assign,body:=body,defers:=w.heap.size }:=⟨_,rfl⟩
 have fQ:Sat e (Lp (w.heap.size+1) r::Df w.heap.size::L) ((w.alloc (.deferred (some []))).alloc (.loop r)):=by
  have h1:=(hs.alloc (.deferred (some []))).alloc (.loop r)
  rwa [World.size_alloc] at h1
 refine ⟨w.heap.size+1,[mk w.heap.size],(w.alloc (.deferred (some []))).alloc (.loop r),{ target:=.fn (.func gf) lb.toArray,args:=#[.func (.yield (w.heap.size+1)) #[] #[]] },(w.alloc (.deferred (some []))).alloc (.loop r),Y6,(Value.func (.yield (w.heap.size+1)) #[] #[]::lb).toArray,(w.alloc (.deferred (some []))).alloc (.loop r),?_,?_,fun _ _=>trivial,?_,fun h=>by simp [Fence.wide] at h,?_⟩
 ·rw [hr];exact run_enterLoop_outer _ _ _ _ _
 ·simp only [resolve,ha.ev hg,Deferred.ofValue,Sem.run_pure]
  simp [Act.eval]
 ·simp only [invoke];have h2:(#[Value.func (.yield (w.heap.size+1)) #[] #[]]++lb.toArray:Array Value)=(.func (.yield (w.heap.size+1)) #[] #[]::lb).toArray:=by simp
  rw [h2,i.run]
 ·refine callsIn_wide.2 ((si (w.heap.size+1) w.heap.size r (by rw [hr]) (by rw [hr]) (by rw [hr]) (by rw [hr]) (by rw [hr]) ⟨by rw [hr];exact ha.size,rfl,fun k v hk=>by rw [hr];exact ha.val k v hk⟩ _ fQ).mono ?_);rintro _ w' ⟨v,L',rfl,rfl,oD⟩;refine ⟨none,w'.putObj (w.heap.size+1) (.loop { r with state:=.exhausted }),?_,?_⟩
  ·have:=run_endLoop (P:=P) oD.obj (by rw [hr];simp);rw [this];rw [show r.pending=none by rw [hr]]
  ·have h3:=oD.put (o':=.loop { r with state:=.exhausted });have h4:=hy w.heap.size { a with defers:=[mk w.heap.size]++a.defers } _ ⟨ha.size,by rw [ha.defers];rfl,ha.val⟩ (h3.cL (cz.drop aX));exact Code.wp_mono (fun x a w q=>YO Xj q) h4
end
end Go.Bs
namespace Go.Bs
def tG (x:UInt32) (n:Nat):UInt32:=(x >>> UInt32.ofNat n) ||| (x <<< UInt32.ofNat (32 - n))
structure S8 where
 a:UInt32
 b:UInt32
 c:UInt32
 d:UInt32
 e:UInt32
 f:UInt32
 g:UInt32
 h:UInt32
def S8.list (s:S8):List UInt32:=[s.a,s.b,s.c,s.d,s.e,s.f,s.g,s.h]
def S8.cells (s:S8):List Value:=[cW s.a,cW s.b,cW s.c,cW s.d,cW s.e,cW s.f,cW s.g,cW s.h]
theorem S8.nQ (s:S8):s.cells=s.list.map cW:=rfl
def bs0 (a:UInt32):UInt32:=tG a 2 ^^^ tG a 13 ^^^ tG a 22
def bs1 (e:UInt32):UInt32:=tG e 6 ^^^ tG e 11 ^^^ tG e 25
def TX (x:UInt32):UInt32:=tG x 7 ^^^ tG x 18 ^^^ (x >>> UInt32.ofNat (Int.toNat 3))
def TY (x:UInt32):UInt32:=tG x 17 ^^^ tG x 19 ^^^ (x >>> UInt32.ofNat (Int.toNat 10))
def Y7 (e f g:UInt32):UInt32:=(e &&& f) ^^^ ((~~~e) &&& g)
def Vg (a b c:UInt32):UInt32:=(a &&& b) ^^^ (a &&& c) ^^^ (b &&& c)
def Mb (s:S8) (k w:UInt32):UInt32:=s.h+bs1 s.e+Y7 s.e s.f s.g+k+w
def JN (s:S8) (k w:UInt32):S8:=⟨Mb s k w+bs0 s.a+Vg s.a s.b s.c,s.a,s.b,s.c,s.d+Mb s k w,s.e,s.f,s.g⟩
def kw:List UInt32:=[1116352408,1899447441,3049323471,3921009573,961987163,1508970993,2453635748,2870763221,3624381080,310598401,607225278,1426881987,1925078388,2162078206,2614888103,3248222580,3835390401,4022224774,264347078,604807628,770255983,1249150122,1555081692,1996064986,2554220882,2821834349,2952996808,3210313671,3336571891,3584528711,113926993,338241895,666307205,773529912,1294757372,1396182291,1695183700,1986661051,2177026350,2456956037,2730485921,2820302411,3259730800,3345764771,3516065817,3600352804,4094571909,275423344,430227734,506948616,659060556,883997877,958139571,1322822218,1537002063,1747873779,1955562222,2024104815,2227730452,2361852424,2428436474,2756734187,3204031479,3329325298]
theorem A7:kw.length=64:=rfl
def wd (b:List UInt8) (i:Nat):UInt32 :=
 ((((b.getD (4*i) 0).toUInt32 <<< UInt32.ofNat (Int.toNat 24)) ||| ((b.getD (4*i+1) 0).toUInt32 <<< UInt32.ofNat (Int.toNat 16))) ||| ((b.getD (4*i+2) 0).toUInt32 <<< UInt32.ofNat (Int.toNat 8))) ||| (b.getD (4*i+3) 0).toUInt32
def Qw (l:List UInt32):UInt32:=l.getD (l.length - 16) 0+TX (l.getD (l.length - 15) 0)+l.getD (l.length - 7) 0+TY (l.getD (l.length - 2) 0)
def sched (b:List UInt8):Nat→List UInt32
 | 0=>(List.range 16).map (wd b)
 | n+1=>sched b n++[Qw (sched b n)]
theorem gG (b:List UInt8):∀ n,(sched b n).length=16+n
 | 0=>by simp [sched]
 | n+1=>by simp [sched,gG b n];omega
def lv (s:S8) (ws:List UInt32):Nat→S8
 | 0=>s
 | n+1=>JN (lv s ws n) (kw.getD n 0) (ws.getD n 0)
def S8.add (s t:S8):S8:=⟨s.a+t.a,s.b+t.b,s.c+t.c,s.d+t.d,s.e+t.e,s.f+t.f,s.g+t.g,s.h+t.h⟩
def jh (h:S8) (b:List UInt8):S8:=h.add (lv h (sched b 48) 64)
def iV (h:S8) (l:List UInt8):S8:=if h0:l.length<64 then h else iV (jh h (l.take 64)) (l.drop 64)
 termination_by l.length
 decreasing_by rw [aO];omega
theorem vv {h:S8} {l:List UInt8} (h0:l.length<64):iV h l=h:=by rw [iV,dif_pos h0]
theorem oO {h:S8} {l:List UInt8} (h0:64≤l.length):iV h l=iV (jh h (l.take 64)) (l.drop 64):=by
 rw [iV,dif_neg (by omega)]
def uV:S8:=⟨1779033703,3144134277,1013904242,2773480762,1359893119,2600822924,528734635,1541459225⟩
def zs (n:Nat):Nat:=(119 - n % 64) % 64
def lx (n:Nat):List UInt8:=be (n*8) 8
def mG (n:Nat):List UInt8:=128::(List.replicate (zs n) 0++lx n)
theorem D4 (n:Nat):(mG n).length=9+zs n:=by simp [mG,lx,cX];omega
def ik (x:UInt32):List UInt8:=[(x >>> UInt32.ofNat (Int.toNat 24)).toUInt8,(x >>> UInt32.ofNat (Int.toNat 16)).toUInt8,(x >>> UInt32.ofNat (Int.toNat 8)).toUInt8,x.toUInt8]
def gX (s:S8):List UInt8:=s.list.flatMap ik
def sk (b:List UInt8):List UInt8:=gX (iV uV (b++mG b.length))
theorem jS (b:List UInt8):(sk b).length=32:=rfl
theorem ID (c0 c1 c2 c3:UInt8) :
 ((
  ((((((0:UInt32) <<< UInt32.ofNat (Int.toNat 8)) ||| c0.toUInt32) <<< UInt32.ofNat (Int.toNat 8)) ||| c1.toUInt32) <<< UInt32.ofNat (Int.toNat 8)) ||| c2.toUInt32) <<< UInt32.ofNat (Int.toNat 8)) ||| c3.toUInt32 =
  (((c0.toUInt32 <<< UInt32.ofNat (Int.toNat 24)) ||| (c1.toUInt32 <<< UInt32.ofNat (Int.toNat 16))) ||| (c2.toUInt32 <<< UInt32.ofNat (Int.toNat 8))) ||| c3.toUInt32:=by
 have e8:UInt32.ofNat (Int.toNat 8)=8:=rfl;have e16:UInt32.ofNat (Int.toNat 16)=16:=rfl;have e24:UInt32.ofNat (Int.toNat 24)=24:=rfl;rw [e8,e16,e24];have z:(0:UInt32) <<< 8=0:=rfl
 have s1:∀ x:UInt32,x <<< 8 <<< 8=x <<< 16:=fun x=>by
  apply UInt32.eq_of_toBitVec_eq
  simp [← BitVec.shiftLeft_add]
 have s2:∀ x:UInt32,x <<< 16 <<< 8=x <<< 24:=fun x=>by
  apply UInt32.eq_of_toBitVec_eq
  simp [← BitVec.shiftLeft_add]
 have d:∀ x y:UInt32,(x ||| y) <<< 8=x <<< 8 ||| y <<< 8:=fun x y=>by
  apply UInt32.eq_of_toBitVec_eq
  simp [BitVec.shiftLeft_or_distrib]
 rw [z,UInt32.zero_or,d,d,s1,d,s1,s2]
end Go.Bs
namespace Go.Proofs
attribute [local irreducible] Bs.cD Bs.Do Bs.O Bs.W Bs.Fin Bs.A Bs.Ct Bs.cE Bs.Rd Bs.Sat Bs.cK Bs.Ob Bs.dJ Bs.View Bs.cz Bs.Ex Bs.dH Bs.Pu Bs.eY Bs.dM Bs.dZ
open Go.Bs
open Tryz
variable (R:List cJ) (e:World)
theorem Vh (n:Nat) (h:0<n) (h2:n<32):Go.bits .and .u64 (IntKind.u64.wrap (IntKind.i64.wrap (0 - (n:Int)))) 31=((32 - n:Nat):Int):=by
 have:∀ m:Fin 32,0<m.1→Go.bits .and .u64 (IntKind.u64.wrap (IntKind.i64.wrap (0 - (m.1:Int)))) 31=((32 - m.1:Nat):Int):=by decide +kernel
 exact this ⟨n,h2⟩ h
theorem Vi (n:Nat) (h:0<n) (h2:n<32):IntKind.u64.wrap (32 - ((32 - n:Nat):Int))=(n:Int):=by
 have:∀ m:Fin 32,0<m.1→IntKind.u64.wrap (32 - ((32 - m.1:Nat):Int))=(m.1:Int):=by decide +kernel
 exact this ⟨n,h2⟩ h
theorem Mc (x:UInt32) (n:Nat) (h:0<n) (h2:n<32) :
 Ct prog 302 #[cW x,.int .i64 (IntKind.i64.wrap (0 - (n:Int)))] e R (fun v' L'=>v'=cW (tG x n)∧R=L'):=by
 refine a8 (args:=[_,_]) func302 rfl ntmps302 results302 rfl ?_;have h3:=Vh n h h2;have h4:=Vi n h h2
 (repeat' first|(apply O.DM;exact rfl;exact rfl;(rw [h3];omega);exact rfl)|(apply O.xR;exact rfl;exact rfl;(rw [h3,h4];omega);exact rfl)|refine YV ?_|refine Za ?_|refine Zb ?_|apply Zc|apply Zd|apply Ze|apply Zf|refine ZV ?_|refine ZZ ?_|refine Z2 ?_|apply YE)
 refine aY _ rfl aX ⟨?_,rfl⟩
 show cW _=cW _
 rw [h3,h4,Int.toNat_natCast,Int.toNat_natCast,UInt32.or_comm]
 rfl
theorem gP (x:UInt32) (n:Nat) (h:0<n) (h2:n<32) :
 Ct prog 276 #[cW x,.int .i64 (n:Int)] e R (fun v' L'=>v'=cW (tG x n)∧R=L'):=by
 refine a8 (args:=[_,_]) func276 rfl ntmps276 results276 rfl ?_
 (repeat' first|(apply O.neg;exact rfl;exact rfl)|refine Za ?_|refine Zb ?_|apply Zc|apply Zd|apply Ze|apply Zf)
 refine aZ rfl rfl (Mc R e x n h h2) ?_;rintro _ _ ⟨rfl,rfl⟩;refine wB ?_;exact aY _ rfl aX ⟨rfl,rfl⟩
theorem ya:∀ {pre cs vs:List Value},cs.length=vs.length→iw (pre++cs) pre.length vs (pre++vs)
 | pre,[],[],_=>by rw [aK];exact .nil
 | pre,c::cs,v::vs,h=>by
  have h1:gy (pre++c::cs) pre.length v (pre++v::cs):=by
   have:=gy.of (l:=pre++c::cs) (n:=pre.length) v (by simp)
   simpa using this
  have h2:=ya (pre:=pre++[v]) (cs:=cs) (vs:=vs) (by simpa using h);rw [aM,aM,aa] at h2
  exact .cons h1 h2
 | _,[],_::_,h=>by cases h
 | _,_::_,[],h=>by cases h
theorem eC {cs vs:List Value} (h:cs.length=vs.length):iw cs 0 vs vs:=ya (pre:=[]) h
theorem JO :
 Ct prog 229 #[] e R (fun v' L'=>v'=.agg (kw.map cW).toArray∧R=L'):=by
 refine bH (args:=[]) func229 rfl ntmps229 results229 rfl ?_
 (repeat' first|(refine b9 (cs:=(List.replicate 64 (0:UInt32)).map cW) rfl rfl ?_;intro _)|apply Zc|apply Zd|apply Ze|apply Zf)
 refine O.mC (cs:=kw.map cW) rfl rfl rfl zQ rfl ?_;refine O.ek rfl rfl rfl (gE _) .zero (eC rfl) ?_;refine wB ?_;apply br;exact zV;exact ⟨R,zE,rfl,rfl⟩
def D5 (b:List UInt8) (i:Nat):Nat→UInt32
 | 0=>0
 | j+1=>(D5 b i j <<< UInt32.ofNat (Int.toNat 8)) ||| (b.getD (4*i+j) 0).toUInt32
theorem RC (b:List UInt8) (i:Nat):D5 b i 4=wd b i:=ID _ _ _ _
theorem D6 (b:List UInt8) (i:Nat):(List.range (i+1)).map (wd b)=(List.range i).map (wd b)++[wd b i]:=by rw [List.range_succ,ah];rfl
theorem OL {α:Type} {pre post:List α} {x y:α} {i:Nat} (h:pre.length=i):(pre++x::post).set i y=pre++y::post:=by
 subst h;simp
theorem mx {pre post:List UInt32} {x y:UInt32} {i:Nat} (h:pre.length=i):gy ((pre++x::post).map cW) i (cW y) ((pre++y::post).map cW):=by
 have h1:=gy.of (l:=(pre++x::post).map cW) (n:=i) (cW y) (by simp;omega);rw [← List.map_set,OL h] at h1
 exact h1
theorem GA {pre post:List UInt32} {x:UInt32} {i g T o:Nat} {fz:Nat × Nat} {L R:List cJ} (h:pre.length=i) (p:cQ L (cK g ((pre++x::post).map cW) T fz) R) (ho:o=i):Rd L ⟨g,o,none⟩ (cW x):=by
 subst ho;exact bP p (by rw [iO,aL,List.getElem?_append_right zo,h,Nat.sub_self];rfl)
theorem A8 {l:List UInt32} {i g T o:Nat} {fz:Nat × Nat} {L R:List cJ} (h:i<l.length) (p:cQ L (cK g (l.map cW) T fz) R) (ho:o=i):Rd L ⟨g,o,none⟩ (cW (l.getD i 0)):=by
 subst ho;exact bP p (by rw [iO,aL,ae h,aA,ae h];rfl)
theorem vx {gl ol cap k:Nat} (h:k<cap):cutAt (some ⟨gl,ol,none⟩) cap k 1=some ⟨gl,ol+k,none⟩:=by
 unfold cutAt;rw [aB zo]
 simp [Addr.add]
set_option maxHeartbeats 1000000 in
theorem D7 (v:Value) (b:List UInt8) (hv:db R v b) (hb:b.length=64) :
 Ct prog 275 #[v] e R (fun v' L'=>v'=.agg ((sched b 48).map cW).toArray∧R=L'):=by
 refine a7 (hv.shape zo) ?_;rintro ⟨⟨ad,cap,rfl,h3,h4,h5,h6⟩,_⟩;simp only [maxLen] at h4
 rcases h6 with h6|⟨gl,ol,rfl⟩
 ·omega
 refine bH (args:=[_]) func275 rfl ntmps275 results275 rfl ?_
 (repeat' first|(refine b9 (cs:=(List.replicate 64 (0:UInt32)).map cW) rfl rfl ?_;intro _)|refine Za ?_|apply Zc|apply Zd|apply Ze|apply Zf|apply YB)
 rename_i g2 g3;refine bq (ι:=Nat) (fun i=>[(0,.slice (some ⟨gl,ol,none⟩) b.length cap),(2,pt g2),(3,pt g3),(12,.int .i64 (i:Int))])
  (fun i=>cK g3 (((List.range i).map (wd b)++List.replicate (64 - i) 0).map cW) 297 (0,0)::cK g2 ((List.replicate 64 (0:UInt32)).map cW) 297 (0,0)::R) (fun i=>i≤16) (fun i=>16 - i) 0 (aH _) (cC rfl (cC rfl (cC rfl (cC rfl dd)))) aX ?_
 intro i hi
 by_cases cO:i<16
 ·have GB:List.replicate (64 - i) (0:UInt32)=0::List.replicate (63 - i) 0:=by rw [show 64 - i=(63 - i)+1 by omega,List.replicate_succ]
  have Me:((List.range i).map (wd b)).length=i:=by simp
  have RD:=D6 b i;rw [GB]
  generalize (List.range i).map (wd b)=pre at *
  have tH:=vx (gl:=gl) (ol:=ol) (cap:=cap) (k:=4*i) zo;have e1:(4*(i:Int)).toNat=4*i:=by omega
  have e2:(4*(i:Int)+4).toNat - 4*i=4:=by omega
  refine wB ?_;rw [e1,e2,tH];refine bq (ι:=Nat) (fun j=>[(23,.int .i64 (j:Int)),(22,.int .i64 (4:Int)),(21,.slice (some ⟨gl,ol+4*i,none⟩) 4 (cap - 4*i)),(4,.int .i64 (i:Int)),(0,.slice (some ⟨gl,ol,none⟩) b.length cap),(2,pt g2),(3,pt g3),(12,.int .i64 (i:Int))])
   (fun j=>cK g3 ((pre++D5 b i j::List.replicate (63 - i) 0).map cW) 297 (0,0)::cK g2 ((List.replicate 64 (0:UInt32)).map cW) 297 (0,0)::R) (fun j=>j≤4) (fun j=>4 - j) 0 (aH _) (cC rfl (cC rfl (cC rfl (cC rfl (cC rfl (cC rfl (cC rfl (cC rfl dd)))))))) aX ?_
  intro j hj
  by_cases LA:j<4
  ·have z9:4*i+j<b.length:=by omega
   have hr:Rd R ⟨gl,ol+4*i+j,none⟩ (u8 (b.getD (4*i+j) 0)):=by
    have:=hv.elem (j:=4*i+j) (b:=b.getD (4*i+j) 0) (by rw [aA,ae z9];rfl);rw [← Nat.add_assoc] at this
    exact this
   have Y8:Rd (cK g3 ((pre++D5 b i j::List.replicate (63 - i) 0).map cW) 297 (0,0)::cK g2 ((List.replicate 64 (0:UInt32)).map cW) 297 (0,0)::R) ⟨g3,0+i,none⟩ (cW (D5 b i j)):=GA Me .zero (aC _);have Y9:D5 b i (j+1)=(D5 b i j <<< UInt32.ofNat (Int.toNat 8)) ||| (b.getD (4*i+j) 0).toUInt32:=rfl
   generalize D5 b i j=x at *
   generalize b.getD (4*i+j) 0=c at *
   (repeat' first|refine YV ?_|refine YX ?_|refine Y1 ?_|refine Y2 ?_|refine Za ?_|refine Zb ?_|apply Zc|apply Zd|apply Ze|apply Zf|refine Zi ?_|refine ZA ?_|refine Yw ?_|refine Yz ?_|apply YB|apply YC)
   refine bC (b7 rfl rfl rfl .zero (by rw [aC];exact mx Me) ?_)
   refine wB ?_;exact bi (j+1) LA zo (cC rfl (cC rfl (cC rfl (cC rfl (cC rfl (cC rfl (cC rfl (cC rfl dd)))))))) (by rw [Y9];exact aX)
  obtain rfl:j=4:=by omega
  rw [RC];refine wB ?_;refine bi (i+1) cO zo (cC rfl (cC rfl (cC rfl (cC rfl dd)))) ?_;rw [RD,aM,show 64 - (i+1)=63 - i by omega];exact aX
 obtain rfl:i=16:=by omega
 refine wB ?_;refine bq (ι:=Nat) (fun n=>[(7,.int .i64 ((n+16:Nat):Int)),(2,pt g2),(3,pt g3)])
  (fun n=>cK g3 ((sched b n++List.replicate (48 - n) 0).map cW) 297 (0,0)::cK g2 ((List.replicate 64 (0:UInt32)).map cW) 297 (0,0)::R) (fun n=>n≤48) (fun n=>48 - n) 0 (aH _) (cC rfl (cC rfl (cC rfl dd))) aX ?_
 intro n hn;have tI:=gG b n
 by_cases LB:n<48
 ·have A9:sched b (n+1)=sched b n++[Qw (sched b n)]:=rfl;have GB:List.replicate (48 - n) (0:UInt32)=0::List.replicate (47 - n) 0:=by rw [show 48 - n=(47 - n)+1 by omega,List.replicate_succ]
  rw [GB]
  have th:∀ k,k<16+n→(sched b n++0::List.replicate (47 - n) 0).getD k 0=(sched b n).getD k 0:=fun k hk=>by
   rw [aA,aA,List.getElem?_append_left zo]
  have eT:(sched b n++0::List.replicate (47 - n) 0).length=64:=by simp [tI];omega
  have jx:∀ m k:Nat,m=k→k<16+n→Rd (cK g3 ((sched b n++0::List.replicate (47 - n) 0).map cW) 297 (0,0)::cK g2 ((List.replicate 64 (0:UInt32)).map cW) 297 (0,0)::R) ⟨g3,m,none⟩ (cW ((sched b n).getD k 0)):=fun m k hm hk=>by
   rw [← th k hk];exact A8 zo .zero hm
  have Zp:=jx (0+(((n+16:Nat):Int) - 15).toNat*1) ((sched b n).length - 15) zo zo;have RE:=jx (0+(((n+16:Nat):Int) - 2).toNat*1) ((sched b n).length - 2) zo zo;have Zr:=jx (0+(((n+16:Nat):Int) - 16).toNat*1) ((sched b n).length - 16) zo zo;have Zv:=jx (0+(((n+16:Nat):Int) - 7).toNat*1) ((sched b n).length - 7) zo zo;have RF:Qw (sched b n)=(sched b n).getD ((sched b n).length - 16) 0+TX ((sched b n).getD ((sched b n).length - 15) 0)+(sched b n).getD ((sched b n).length - 7) 0+TY ((sched b n).getD ((sched b n).length - 2) 0):=rfl;clear jx
  generalize (sched b n).getD ((sched b n).length - 15) 0=Vj at *
  generalize (sched b n).getD ((sched b n).length - 2) 0=x2 at *
  generalize (sched b n).getD ((sched b n).length - 16) 0=x16 at *
  generalize (sched b n).getD ((sched b n).length - 7) 0=x7 at *
  (repeat' first|refine Za ?_|apply Zc|apply Zd|apply Ze|apply Zf|refine ZA ?_|refine Yz ?_|apply YB|apply YC|(refine bz (id:=14) [9] mixed ?_;all_goals (refine tM 0 ?_);all_goals (refine tk 1 _ rfl (cD.jA rfl rfl zo) ?_);all_goals (refine tk 2 _ rfl (cD.dE rfl rfl zo) ?_);all_goals (refine tL 3 ?_);all_goals (refine tM 4 ?_);all_goals (refine tk 5 _ rfl (cD.jA rfl rfl zo) ?_);all_goals (refine tk 6 _ rfl (cD.dE rfl rfl zo) ?_);all_goals (refine tL 7 ?_);all_goals (refine tA 8 ?_);all_goals ((refine tO 9 ?_;refine dV (bj rfl) ?_));all_goals (refine bf zK ?_)))
  refine aZ rfl rfl (gP _ e Vj 7 zo zo) ?_;rintro _ _ ⟨rfl,rfl⟩
  (repeat (refine wA ?_;intros))
  refine aZ rfl rfl (gP _ e Vj 18 zo zo) ?_;rintro _ _ ⟨rfl,rfl⟩
  (repeat' first|refine YW ?_|refine YY ?_|refine Za ?_|refine Zb ?_|apply Zc|apply Zd|apply Ze|apply Zf)
  refine aZ rfl rfl (gP _ e x2 17 zo zo) ?_;rintro _ _ ⟨rfl,rfl⟩
  (repeat (refine wA ?_;intros))
  refine aZ rfl rfl (gP _ e x2 19 zo zo) ?_;rintro _ _ ⟨rfl,rfl⟩
  (repeat' first|refine YW ?_|refine YY ?_|refine Za ?_|refine Zb ?_|apply Ze|apply Zf)
  refine bz (id:=17) [14,15] mixed ?_
  (refine tM 0 ?_;refine tM 1 ?_;refine tk 2 _ rfl (cD.jA rfl rfl zo) ?_;refine tk 3 _ rfl (cD.dE rfl rfl zo) ?_;refine tL 4 ?_;refine tM 5 ?_;refine tk 6 _ rfl (cD.nN rfl rfl) ?_;refine tM 7 ?_;refine tk 8 _ rfl (cD.jA rfl rfl zo) ?_;refine tk 9 _ rfl (cD.dE rfl rfl zo) ?_;refine tL 10 ?_;refine tk 11 _ rfl (cD.nN rfl rfl) ?_;refine tM 12 ?_;refine tk 13 _ rfl (cD.nN rfl rfl) ?_;(refine tO 14 ?_;refine bN (cD.dX rfl rfl zo) rfl ⟨zN,?_⟩))
  refine tO 15 ?_;refine b7 rfl rfl rfl .zero (by rw [aC];exact mx zo) ⟨zN,?_⟩;refine bf zK ?_;refine wB ?_;refine bi (n+1) LB zo (cC rfl (cC rfl (cC rfl dd))) ?_;rw [A9,RF,aM,show 48 - (n+1)=47 - n by omega];exact aX
 obtain rfl:n=48:=by omega
 have hlen:((sched b 48++List.replicate (48 - 48) (0:UInt32)).map cW).length=64:=by simp [tI]
 have D8:=gE (sched b 48++List.replicate (48 - 48) (0:UInt32));have lM:(sched b 48++List.replicate (48 - 48) (0:UInt32)).map cW=(sched b 48).map cW:=by simp
 rw [← lM]
 generalize (sched b 48++List.replicate (48 - 48) (0:UInt32)).map cW=l at *
 clear tI lM
 (repeat' first|(refine O.dy rfl (bU .zero) hlen rfl ?_)|refine Za ?_|apply Zc|apply Zd|apply Ze|apply Zf|refine ZB ?_|refine YA ?_|apply YD|apply YG|apply YJ)
 refine O.ek rfl rfl hlen D8 (.succ .zero) (eC (by rw [hlen];rfl)) ?_;refine wB ?_;apply br
 ·exact .agg rfl (bU (.succ .zero)) hlen .nil
 exact ⟨R,zE,rfl,rfl⟩
theorem Ba {a c:List UInt32} {i:Nat} (hi:i<a.length) (hc:a.length=c.length):(List.zipWith (·+·) a c).take (i+1)=(List.zipWith (·+·) a c).take i++[a.getD i 0+c.getD i 0]∧a.drop i=a.getD i 0::a.drop (i+1):=by
 constructor
 ·rw [aD (by simp;omega),List.getElem_zipWith]
  simp [aA,ae hi,ae (show i<c.length by omega)]
 ·rw [List.drop_eq_getElem_cons hi]
  simp [aA,ae hi]
set_option maxHeartbeats 1000000 in
theorem Mf (s:S8) (v:Value) (b:List UInt8) (gk:Nat) (hv:db R v b) (hb:b.length=64) (hk:dZ R gk 0 (kw.map cW)) :
 Ct prog 231 #[.agg s.cells.toArray,v,pt gk] e R (fun v' L'=>v'=.agg (jh s b).cells.toArray∧R=L'):=by
 refine bH (args:=[_,_,_]) func231 rfl ntmps231 results231 rfl ?_;have LC:=gG b 48
 (repeat' first|(refine O.box (cs:=s.cells) rfl rfl rfl ?_;intro _)|(refine O.dy (cs:=s.cells) rfl (bU (.succ .zero)) rfl rfl ?_)|(refine O.ek (vs:=s.cells) rfl rfl rfl (gE s.list) .zero (eC rfl) ?_)|refine Za ?_|apply Zc|apply Zd|apply Ze|apply Zf|refine Yh fun _=>?_|fail)
 refine aZ rfl rfl (D7 _ e v b hv.tail.tail.tail hb) ?_;rintro _ _ ⟨rfl,rfl⟩;rw [show jh s b=s.add (lv s (sched b 48) 64) from rfl]
 generalize sched b 48=ws at *
 refine wB ?_;rename_i g3 g6 g7;refine bq (ι:=Nat) (fun i=>[(19,.int .i64 (i:Int)),(18,.agg (ws.map cW).toArray),(2,pt gk),(7,pt g7),(6,pt g6),(3,pt g3)])
  (fun i=>cK g7 (lv s ws i).cells 296 (0,0)::cK g6 ((List.replicate 8 (0:UInt32)).map cW) 296 (0,0)::cK g3 s.cells 296 (0,0)::R) (fun i=>i≤64) (fun i=>64 - i) 0 (aH _) (cC rfl (cC rfl (cC rfl (cC rfl (cC rfl (cC rfl dd)))))) aX ?_
 intro i hi
 by_cases cO:i<64
 ·have OM:Rd R ⟨gk,0+i,none⟩ (cW (kw.getD i 0)):=dZ.Ov hk (by
   have Ch:i<kw.length:=cO;rw [aL,ae Ch,aA,ae Ch];rfl)
  have hw:(ws.map cW)[i]?=some (cW (ws.getD i 0)):=by
   have Ch:i<ws.length:=by omega
   rw [aL,ae Ch,aA,ae Ch];rfl
  have Vk:lv s ws (i+1)=JN (lv s ws i) (kw.getD i 0) (ws.getD i 0):=rfl
  generalize lv s ws i=S at *
  generalize kw.getD i 0=kk at *
  generalize ws.getD i 0=ww at *
  obtain ⟨a',b',c',d',e',f',g',h'⟩:=S;dsimp only [S8.cells]
  (repeat' first|refine Y4 ?_|refine Za ?_|refine Zb ?_|apply Zc|apply Zd|apply Ze|apply Zf|refine ZA ?_|refine Yz ?_|apply YB|apply YC)
  refine bz (id:=5) [11] mixed ?_
  (refine tk 0 _ rfl (cD.dE rfl rfl zo) ?_;refine tL 1 ?_;refine tk 3 _ rfl (cD.dE rfl rfl zo) ?_;refine tL 4 ?_;refine tk 7 _ rfl (cD.dE rfl rfl zo) ?_;refine tL 8 ?_)
  refine tO 2 ?_;refine bg rfl rfl (gP _ e e' 6 zo zo) ?_;rintro _ _ ⟨rfl,rfl⟩;refine ⟨fun _=>aX,?_⟩;refine tO 5 ?_;refine bg rfl rfl (gP _ e e' 11 zo zo) ?_;rintro _ _ ⟨rfl,rfl⟩;refine ⟨fun _=>aX,?_⟩
  (refine tk 6 _ rfl (cD.pN rfl rfl) ?_)
  refine tO 9 ?_;refine bg rfl rfl (gP _ e e' 25 zo zo) ?_;rintro _ _ ⟨rfl,rfl⟩;refine ⟨fun _=>aX,?_⟩
  (refine tk 10 _ rfl (cD.pN rfl rfl) ?_;(refine tO 11 ?_;refine dV (bj rfl) ?_))
  refine bf zK ?_
  (repeat' first|refine YU ?_|refine YW ?_|refine YZ ?_|refine Y3 ?_|refine Zb ?_|apply Zc|apply Zd|apply Ze|apply Zf|refine Zi ?_|(refine bz (id:=7) [14] mixed ?_;all_goals (refine tk 0 _ rfl (cD.dE rfl rfl zo) ?_);all_goals (refine tL 1 ?_);all_goals (refine tM 2 ?_);all_goals (refine tk 3 _ rfl (cD.nN rfl rfl) ?_);all_goals (refine tM 4 ?_);all_goals (refine tk 5 _ rfl (cD.nN rfl rfl) ?_);all_goals (refine tM 6 ?_);all_goals (refine tM 7 ?_);all_goals (refine tN 8 ?_);all_goals (refine tk 9 _ rfl (cD.dX rfl rfl zo) ?_);all_goals (refine tL 10 ?_);all_goals (refine tk 11 _ rfl (cD.nN rfl rfl) ?_);all_goals (refine tM 12 ?_);all_goals (refine tk 13 _ rfl (cD.nN rfl rfl) ?_);all_goals ((refine tO 14 ?_;refine dV (bj rfl) ?_));all_goals (refine bf zK ?_)))
  refine bz (id:=8) [11] mixed ?_
  (refine tk 0 _ rfl (cD.dE rfl rfl zo) ?_;refine tL 1 ?_;refine tk 3 _ rfl (cD.dE rfl rfl zo) ?_;refine tL 4 ?_;refine tk 7 _ rfl (cD.dE rfl rfl zo) ?_;refine tL 8 ?_)
  refine tO 2 ?_;refine bg rfl rfl (gP _ e a' 2 zo zo) ?_;rintro _ _ ⟨rfl,rfl⟩;refine ⟨fun _=>aX,?_⟩;refine tO 5 ?_;refine bg rfl rfl (gP _ e a' 13 zo zo) ?_;rintro _ _ ⟨rfl,rfl⟩;refine ⟨fun _=>aX,?_⟩
  (refine tk 6 _ rfl (cD.pN rfl rfl) ?_)
  refine tO 9 ?_;refine bg rfl rfl (gP _ e a' 22 zo zo) ?_;rintro _ _ ⟨rfl,rfl⟩;refine ⟨fun _=>aX,?_⟩
  (refine tk 10 _ rfl (cD.pN rfl rfl) ?_;(refine tO 11 ?_;refine dV (bj rfl) ?_))
  refine bf zK ?_
  (repeat' first|refine YT ?_|refine YU ?_|refine YW ?_|refine Y3 ?_|refine Y5 ?_|refine Za ?_|refine Zb ?_|apply Zc|apply Zd|apply Ze|apply Zf|refine Zi ?_|refine ZS ?_|apply YH|refine YR ?_|fail)
  exact bi (i+1) cO zo (cC rfl (cC rfl (cC rfl (cC rfl (cC rfl (cC rfl dd)))))) (by rw [Vk];exact aX)
 obtain rfl:i=64:=by omega
 generalize lv s ws 64=V at *
 have qi:(s.add V).cells=(List.zipWith (·+·) s.list V.list).map cW:=rfl;have tI:s.list.length=8:=rfl;have Bb:V.list.length=8:=rfl;rw [qi,S8.nQ,S8.nQ]
 generalize s.list=sl at *
 generalize V.list=vl at *
 refine wB ?_;refine bq (ι:=Nat) (fun i=>[(111,.int .i64 (i:Int)),(7,pt g7),(6,pt g6),(3,pt g3)])
  (fun i=>cK g7 (vl.map cW) 296 (0,0)::cK g6 ((List.replicate 8 (0:UInt32)).map cW) 296 (0,0)::cK g3 (((List.zipWith (·+·) sl vl).take i++sl.drop i).map cW) 296 (0,0)::R) (fun i=>i≤8) (fun i=>8 - i) 0 (aH _) (cC rfl (cC rfl (cC rfl (cC rfl dd)))) (by rw [List.take_zero,List.nil_append,List.drop_zero];exact aX) ?_
 intro j hj;have JC:((List.zipWith (·+·) sl vl).take j).length=j:=by simp;omega
 by_cases LA:j<8
 ·obtain ⟨z1,z2⟩:=Ba (a:=sl) (c:=vl) (i:=j) zo zo;rw [z2];have Y8:Rd (cK g7 (vl.map cW) 296 (0,0)::cK g6 ((List.replicate 8 (0:UInt32)).map cW) 296 (0,0)::cK g3 (((List.zipWith (·+·) sl vl).take j++sl.getD j 0::sl.drop (j+1)).map cW) 296 (0,0)::R) ⟨g3,0+j,none⟩ (cW (sl.getD j 0)):=GA JC (.succ (.succ .zero)) (aC _);have Zv:Rd (cK g7 (vl.map cW) 296 (0,0)::cK g6 ((List.replicate 8 (0:UInt32)).map cW) 296 (0,0)::cK g3 (((List.zipWith (·+·) sl vl).take j++sl.getD j 0::sl.drop (j+1)).map cW) 296 (0,0)::R) ⟨g7,0+j,none⟩ (cW (vl.getD j 0)):=A8 zo .zero (aC _)
  generalize sl.getD j 0=x at *
  generalize vl.getD j 0=y at *
  refine wB ?_;refine bz (id:=15) [7,8] mixed ?_
  (refine tM 0 ?_;refine tk 1 _ rfl (cD.dX rfl rfl zo) ?_;refine tL 2 ?_;refine tM 3 ?_;refine tk 4 _ rfl (cD.dX rfl rfl zo) ?_;refine tL 5 ?_;refine tk 6 _ rfl (cD.nN rfl rfl) ?_;(refine tO 7 ?_;refine bN (cD.dX rfl rfl zo) rfl ⟨zN,?_⟩))
  refine tO 8 ?_;refine b7 rfl rfl rfl (.succ (.succ .zero)) (by rw [aC];exact mx JC) ⟨zN,?_⟩;refine bf zK ?_;refine wB ?_;exact bi (j+1) LA zo (cC rfl (cC rfl (cC rfl (cC rfl dd)))) (by rw [z1,aM];exact aX)
 obtain rfl:j=8:=by omega
 have hlen:(((List.zipWith (·+·) sl vl).take 8++sl.drop 8).map cW).length=8:=by simp;omega
 have D8:=gE ((List.zipWith (·+·) sl vl).take 8++sl.drop 8)
 have lM:((List.zipWith (·+·) sl vl).take 8++sl.drop 8).map cW=(List.zipWith (·+·) sl vl).map cW:=by
  rw [aG (by simp;omega),List.drop_of_length_le zo,aK]
 rw [← lM]
 generalize ((List.zipWith (·+·) sl vl).take 8++sl.drop 8).map cW=l at *
 (repeat' first|(refine O.dy rfl (bU (.succ (.succ .zero))) hlen rfl ?_)|apply Zc|apply Zd|apply Ze|apply Zf|refine ZB ?_|refine YA ?_|apply YD|apply YG|apply YJ)
 refine O.ek rfl rfl hlen D8 (.succ .zero) (eC (by rw [hlen];rfl)) ?_;refine wB ?_;apply br
 ·exact .agg rfl (bU (.succ .zero)) hlen .nil
 exact ⟨R,zE,rfl,rfl⟩
theorem iK (x:UInt32) (n:Nat) (h:0<n) (h2:n<32) :
 Ct prog 270 #[cW x,.int .u64 (n:Int)] e R (fun v' L'=>v'=cW (tG x n)∧R=L'):=by
 refine a8 (args:=[_,_]) func270 rfl ntmps270 results270 rfl ?_
 have h3:IntKind.u64.wrap (32 - (n:Int))=((32 - n:Nat):Int):=by
  have:∀ m:Fin 32,0<m.1→IntKind.u64.wrap (32 - (m.1:Int))=((32 - m.1:Nat):Int):=by decide +kernel
  exact this ⟨n,h2⟩ h
 (repeat' first|(apply O.DM;exact rfl;exact rfl;(rw [h3];omega);exact rfl)|refine YV ?_|refine YY ?_|refine Za ?_|refine Zb ?_|apply Zc|apply Zd|apply Ze|apply Zf|refine ZV ?_|apply YE)
 refine aY _ rfl aX ⟨?_,rfl⟩
 show cW _=cW _
 rw [h3,Int.toNat_natCast,Int.toNat_natCast]
 rfl
theorem D9 :
 Ct prog 217 #[] e R (fun v' L'=>v'=.agg (kw.map cW).toArray∧R=L'):=by
 refine bH (args:=[]) func217 rfl ntmps217 results217 rfl ?_
 (repeat' first|(refine b9 (cs:=(List.replicate 64 (0:UInt32)).map cW) rfl rfl ?_;intro _)|apply Zc|apply Zd|apply Ze|apply Zf)
 refine O.mC (cs:=kw.map cW) rfl rfl rfl zQ rfl ?_;refine O.ek rfl rfl rfl (gE _) .zero (eC rfl) ?_;refine wB ?_;apply br;exact zV;exact ⟨R,zE,rfl,rfl⟩
set_option maxHeartbeats 4000000 in
theorem yc (s:S8) (v:Value) (b:List UInt8) (gk:Nat) (hv:db R v b) (hb:b.length=64) (hk:dZ R gk 0 (kw.map cW)) :
 Ct prog 218 #[.agg s.cells.toArray,pt gk,v] e R (fun v' L'=>v'=.agg (jh s b).cells.toArray∧R=L'):=by
 refine a7 (hv.shape zo) ?_;rintro ⟨⟨ad,cap,rfl,h3,h4,h5,h6⟩,_⟩;simp only [maxLen] at h4
 rcases h6 with h6|⟨gl,ol,rfl⟩
 ·omega
 refine bH (args:=[_,_,_]) func218 rfl ntmps218 results218 rfl ?_
 (repeat' first|(refine O.box (cs:=s.cells) rfl rfl rfl ?_;intro _)|(refine b9 (cs:=(List.replicate 64 (0:UInt32)).map cW) rfl rfl ?_;intro _)|(refine b9 (cs:=(List.replicate 8 (0:UInt32)).map cW) rfl rfl ?_;intro _)|refine Zb ?_|apply Zc|apply Zd|apply Ze|apply Zf|apply YB)
 rename_i g3 g6 g7;refine bq (ι:=Nat) (fun i=>[(8,.int .i64 (i:Int)),(2,.slice (some ⟨gl,ol,none⟩) b.length cap),(1,pt gk),(7,pt g7),(6,pt g6),(3,pt g3)])
  (fun i=>cK g7 (((List.range i).map (wd b)++List.replicate (64 - i) 0).map cW) 297 (0,0)::cK g6 ((List.replicate 8 (0:UInt32)).map cW) 296 (0,0)::cK g3 s.cells 296 (0,0)::R) (fun i=>i≤16) (fun i=>16 - i) 0 (aH _) (cC rfl (cC rfl (cC rfl (cC rfl (cC rfl (cC rfl dd)))))) aX ?_
 intro i hi
 by_cases cO:i<16
 ·have GB:List.replicate (64 - i) (0:UInt32)=0::List.replicate (63 - i) 0:=by rw [show 64 - i=(63 - i)+1 by omega,List.replicate_succ]
  have Me:((List.range i).map (wd b)).length=i:=by simp
  have RD:=D6 b i;rw [GB]
  generalize (List.range i).map (wd b)=pre at *
  have tK:∀ k m:Nat,k=m→m<b.length→Rd R ⟨gl,ol+k,none⟩ (u8 (b.getD m 0)):=fun k m hkm hm=>by
   subst hkm;exact hv.elem (by rw [aA,ae hm];rfl)
  have TZ:=tK ((4*(i:Int)).toNat*1) (4*i) zo zo;have ON:=tK ((4*(i:Int)+1).toNat*1) (4*i+1) zo zo;have RE:=tK ((4*(i:Int)+2).toNat*1) (4*i+2) zo zo;have Y8:=tK ((4*(i:Int)+3).toNat*1) (4*i+3) zo zo;have hwd:wd b i=((((b.getD (4*i) 0).toUInt32 <<< UInt32.ofNat (Int.toNat 24)) ||| ((b.getD (4*i+1) 0).toUInt32 <<< UInt32.ofNat (Int.toNat 16))) ||| ((b.getD (4*i+2) 0).toUInt32 <<< UInt32.ofNat (Int.toNat 8))) ||| (b.getD (4*i+3) 0).toUInt32:=rfl
  clear tK
  generalize b.getD (4*i) 0=c0 at *
  generalize b.getD (4*i+1) 0=c1 at *
  generalize b.getD (4*i+2) 0=c2 at *
  generalize b.getD (4*i+3) 0=c3 at *
  refine wB ?_;refine bz (id:=5) [34,35] mixed ?_
  (refine tM 0 ?_;refine tM 1 ?_;refine tM 2 ?_;refine tk 3 _ rfl (cD.wa rfl rfl zo) ?_;refine tk 4 _ rfl (bX rfl rfl zo zo) ?_;refine tL 5 ?_;refine tk 6 _ rfl (cD.r8 rfl) ?_;refine tk 7 _ rfl (cD.DM rfl rfl zo) ?_;refine tM 8 ?_;refine tM 9 ?_;refine tk 10 _ rfl (cD.wa rfl rfl zo) ?_;refine tk 11 _ rfl (cD.kP rfl rfl zo) ?_;refine tk 12 _ rfl (bX rfl rfl zo zo) ?_;refine tL 13 ?_;refine tk 14 _ rfl (cD.r8 rfl) ?_;refine tk 15 _ rfl (cD.DM rfl rfl zo) ?_;refine tk 16 _ rfl (cD.TU rfl rfl) ?_;refine tM 17 ?_;refine tM 18 ?_;refine tk 19 _ rfl (cD.wa rfl rfl zo) ?_;refine tk 20 _ rfl (cD.kP rfl rfl zo) ?_;refine tk 21 _ rfl (bX rfl rfl zo zo) ?_;refine tL 22 ?_;refine tk 23 _ rfl (cD.r8 rfl) ?_;refine tk 24 _ rfl (cD.DM rfl rfl zo) ?_;refine tk 25 _ rfl (cD.TU rfl rfl) ?_;refine tM 26 ?_;refine tM 27 ?_;refine tk 28 _ rfl (cD.wa rfl rfl zo) ?_;refine tk 29 _ rfl (cD.kP rfl rfl zo) ?_;refine tk 30 _ rfl (bX rfl rfl zo zo) ?_;refine tL 31 ?_;refine tk 32 _ rfl (cD.r8 rfl) ?_;refine tk 33 _ rfl (cD.TU rfl rfl) ?_;(refine tO 34 ?_;refine bN (cD.dX rfl rfl zo) rfl ⟨zN,?_⟩))
  refine tO 35 ?_;refine b7 rfl rfl rfl .zero (by rw [aC];exact mx Me) ⟨zN,?_⟩;refine bf zK ?_;refine wB ?_;refine bi (i+1) cO zo (cC rfl (cC rfl (cC rfl (cC rfl (cC rfl (cC rfl dd)))))) ?_;rw [RD,hwd,aM,show 64 - (i+1)=63 - i by omega];exact aX
 obtain rfl:i=16:=by omega
 rw [show jh s b=s.add (lv s (sched b 48) 64) from rfl];refine wB ?_;refine bq (ι:=Nat) (fun n=>[(9,.int .i64 ((n+16:Nat):Int)),(1,pt gk),(7,pt g7),(6,pt g6),(3,pt g3)])
  (fun n=>cK g7 ((sched b n++List.replicate (48 - n) 0).map cW) 297 (0,0)::cK g6 ((List.replicate 8 (0:UInt32)).map cW) 296 (0,0)::cK g3 s.cells 296 (0,0)::R) (fun n=>n≤48) (fun n=>48 - n) 0 (aH _) (cC rfl (cC rfl (cC rfl (cC rfl (cC rfl dd))))) aX ?_
 intro n hn;have tI:=gG b n
 by_cases LB:n<48
 ·have A9:sched b (n+1)=sched b n++[Qw (sched b n)]:=rfl;have GB:List.replicate (48 - n) (0:UInt32)=0::List.replicate (47 - n) 0:=by rw [show 48 - n=(47 - n)+1 by omega,List.replicate_succ]
  rw [GB]
  have th:∀ k,k<16+n→(sched b n++0::List.replicate (47 - n) 0).getD k 0=(sched b n).getD k 0:=fun k hk=>by
   rw [aA,aA,List.getElem?_append_left zo]
  have eT:(sched b n++0::List.replicate (47 - n) 0).length=64:=by simp [tI];omega
  have jx:∀ m k:Nat,m=k→k<16+n→Rd (cK g7 ((sched b n++0::List.replicate (47 - n) 0).map cW) 297 (0,0)::cK g6 ((List.replicate 8 (0:UInt32)).map cW) 296 (0,0)::cK g3 s.cells 296 (0,0)::R) ⟨g7,m,none⟩ (cW ((sched b n).getD k 0)):=fun m k hm hk=>by
   rw [← th k hk];exact A8 zo .zero hm
  have Zp:=jx (0+(((n+16:Nat):Int) - 15).toNat*1) ((sched b n).length - 15) zo zo;have RE:=jx (0+(((n+16:Nat):Int) - 2).toNat*1) ((sched b n).length - 2) zo zo;have Zr:=jx (0+(((n+16:Nat):Int) - 16).toNat*1) ((sched b n).length - 16) zo zo;have Zv:=jx (0+(((n+16:Nat):Int) - 7).toNat*1) ((sched b n).length - 7) zo zo;have RF:Qw (sched b n)=(sched b n).getD ((sched b n).length - 16) 0+TX ((sched b n).getD ((sched b n).length - 15) 0)+(sched b n).getD ((sched b n).length - 7) 0+TY ((sched b n).getD ((sched b n).length - 2) 0):=rfl;clear jx
  generalize (sched b n).getD ((sched b n).length - 15) 0=Vj at *
  generalize (sched b n).getD ((sched b n).length - 2) 0=x2 at *
  generalize (sched b n).getD ((sched b n).length - 16) 0=x16 at *
  generalize (sched b n).getD ((sched b n).length - 7) 0=x7 at *
  (repeat' first|refine Za ?_|apply Zc|apply Zd|apply Ze|apply Zf|refine ZA ?_|refine Yz ?_|apply YB|apply YC|(refine bz (id:=9) [9] mixed ?_;all_goals (refine tM 0 ?_);all_goals (refine tk 1 _ rfl (cD.jA rfl rfl zo) ?_);all_goals (refine tk 2 _ rfl (cD.dE rfl rfl zo) ?_);all_goals (refine tL 3 ?_);all_goals (refine tM 4 ?_);all_goals (refine tk 5 _ rfl (cD.jA rfl rfl zo) ?_);all_goals (refine tk 6 _ rfl (cD.dE rfl rfl zo) ?_);all_goals (refine tL 7 ?_);all_goals (refine tA 8 ?_);all_goals ((refine tO 9 ?_;refine dV (bj rfl) ?_));all_goals (refine bf zK ?_)))
  refine bz (id:=10) [28,29] mixed ?_
  (refine tM 0 ?_;refine tM 1 ?_;refine tk 2 _ rfl (cD.jA rfl rfl zo) ?_;refine tk 3 _ rfl (cD.dE rfl rfl zo) ?_;refine tL 4 ?_;refine tM 5 ?_;refine tM 7 ?_;refine tM 10 ?_;refine tk 11 _ rfl (cD.xR rfl rfl zo) ?_;refine tM 14 ?_;refine tk 15 _ rfl (cD.jA rfl rfl zo) ?_;refine tk 16 _ rfl (cD.dE rfl rfl zo) ?_;refine tL 17 ?_;refine tM 19 ?_;refine tM 21 ?_;refine tM 24 ?_;refine tk 25 _ rfl (cD.xR rfl rfl zo) ?_)
  refine tO 6 ?_;refine bg rfl rfl (iK _ e Vj 7 zo zo) ?_;rintro _ _ ⟨rfl,rfl⟩;refine ⟨fun _=>aX,?_⟩;refine tO 8 ?_;refine bg rfl rfl (iK _ e Vj 18 zo zo) ?_;rintro _ _ ⟨rfl,rfl⟩;refine ⟨fun _=>aX,?_⟩
  (refine tk 9 _ rfl (cD.pN rfl rfl) ?_;refine tk 12 _ rfl (cD.pN rfl rfl) ?_;refine tk 13 _ rfl (cD.nN rfl rfl) ?_;refine tk 18 _ rfl (cD.nN rfl rfl) ?_)
  refine tO 20 ?_;refine bg rfl rfl (iK _ e x2 17 zo zo) ?_;rintro _ _ ⟨rfl,rfl⟩;refine ⟨fun _=>aX,?_⟩;refine tO 22 ?_;refine bg rfl rfl (iK _ e x2 19 zo zo) ?_;rintro _ _ ⟨rfl,rfl⟩;refine ⟨fun _=>aX,?_⟩
  (refine tk 23 _ rfl (cD.pN rfl rfl) ?_;refine tk 26 _ rfl (cD.pN rfl rfl) ?_;refine tk 27 _ rfl (cD.nN rfl rfl) ?_;(refine tO 28 ?_;refine bN (cD.dX rfl rfl zo) rfl ⟨zN,?_⟩))
  refine tO 29 ?_;refine b7 rfl rfl rfl .zero (by rw [aC];exact mx zo) ⟨zN,?_⟩;refine bf zK ?_;refine wB ?_;refine bi (n+1) LB zo (cC rfl (cC rfl (cC rfl (cC rfl (cC rfl dd))))) ?_;rw [A9,RF,aM,show 48 - (n+1)=47 - n by omega];exact aX
 obtain rfl:n=48:=by omega
 have LC:(sched b 48++List.replicate (48 - 48) (0:UInt32))=sched b 48:=by simp
 rw [LC];clear LC
 generalize sched b 48=ws at *
 (repeat' first|(refine O.dy (cs:=s.cells) rfl (bU (.succ (.succ .zero))) rfl rfl ?_)|(refine O.ek (vs:=s.cells) rfl rfl rfl (gE s.list) .zero (eC rfl) ?_)|(refine b9 (cs:=(List.replicate 8 (0:UInt32)).map cW) rfl rfl ?_;intro _)|refine Za ?_|refine Zb ?_|apply Zc|apply Zd|apply Ze|apply Zf|refine ZB ?_|refine YA ?_|apply YB|apply YD|apply YG|apply YJ)
 rename_i Mg;refine bq (ι:=Nat) (fun i=>[(13,.int .i64 (i:Int)),(1,pt gk),(12,pt Mg),(7,pt g7),(6,pt g6),(3,pt g3)])
  (fun i=>cK Mg (lv s ws i).cells 296 (0,0)::cK g7 (ws.map cW) 297 (0,0)::cK g6 ((List.replicate 8 (0:UInt32)).map cW) 296 (0,0)::cK g3 s.cells 296 (0,0)::R) (fun i=>i≤64) (fun i=>64 - i) 0 (aH _) (cC rfl (cC rfl (cC rfl (cC rfl (cC rfl (cC rfl dd)))))) aX ?_
 intro i hi
 by_cases cO:i<64
 ·have OM:Rd R ⟨gk,0+i,none⟩ (cW (kw.getD i 0)):=dZ.Ov hk (by
   have Ch:i<kw.length:=cO;rw [aL,ae Ch,aA,ae Ch];rfl)
  have Qx:Rd (cK Mg (lv s ws i).cells 296 (0,0)::cK g7 (ws.map cW) 297 (0,0)::cK g6 ((List.replicate 8 (0:UInt32)).map cW) 296 (0,0)::cK g3 s.cells 296 (0,0)::R) ⟨g7,0+i,none⟩ (cW (ws.getD i 0)):=A8 zo (.succ .zero) (aC _);have Vk:lv s ws (i+1)=JN (lv s ws i) (kw.getD i 0) (ws.getD i 0):=rfl
  generalize lv s ws i=S at *
  generalize kw.getD i 0=kk at *
  generalize ws.getD i 0=ww at *
  obtain ⟨a',b',c',d',e',f',g',h'⟩:=S;dsimp only [S8.cells] at Qx ⊢
  (repeat' first|refine Za ?_|apply Zc|apply Zd|apply Ze|apply Zf|refine ZA ?_|refine Yz ?_|apply YB|apply YC|(refine bz (id:=15) [5] mixed ?_;all_goals (refine tk 0 _ rfl (cD.dE rfl rfl zo) ?_);all_goals (refine tL 1 ?_);all_goals (refine tk 2 _ rfl (cD.dE rfl rfl zo) ?_);all_goals (refine tL 3 ?_);all_goals (refine tA 4 ?_);all_goals ((refine tO 5 ?_;refine dV (bj rfl) ?_));all_goals (refine bf zK ?_)))
  refine bz (id:=16) [32] mixed ?_
  (refine tk 0 _ rfl (cD.dE rfl rfl zo) ?_;refine tL 1 ?_;refine tM 2 ?_;refine tM 4 ?_;refine tM 7 ?_;refine tM 11 ?_;refine tk 12 _ rfl (cD.dE rfl rfl zo) ?_;refine tL 13 ?_;refine tk 14 _ rfl (cD.DL rfl rfl) ?_;refine tM 15 ?_;refine tk 16 _ rfl (cD.Iy rfl) ?_;refine tk 17 _ rfl (cD.dE rfl rfl zo) ?_;refine tL 18 ?_;refine tk 19 _ rfl (cD.DL rfl rfl) ?_;refine tk 20 _ rfl (cD.pN rfl rfl) ?_;refine tM 22 ?_;refine tM 23 ?_;refine tN 24 ?_;refine tk 25 _ rfl (cD.dX rfl rfl zo) ?_;refine tL 26 ?_;refine tM 28 ?_;refine tk 29 _ rfl (cD.dX rfl rfl zo) ?_;refine tL 30 ?_)
  refine tO 3 ?_;refine bg rfl rfl (iK _ e e' 6 zo zo) ?_;rintro _ _ ⟨rfl,rfl⟩;refine ⟨fun _=>aX,?_⟩;refine tO 5 ?_;refine bg rfl rfl (iK _ e e' 11 zo zo) ?_;rintro _ _ ⟨rfl,rfl⟩;refine ⟨fun _=>aX,?_⟩
  (refine tk 6 _ rfl (cD.pN rfl rfl) ?_)
  refine tO 8 ?_;refine bg rfl rfl (iK _ e e' 25 zo zo) ?_;rintro _ _ ⟨rfl,rfl⟩;refine ⟨fun _=>aX,?_⟩
  (refine tk 9 _ rfl (cD.pN rfl rfl) ?_;refine tk 10 _ rfl (cD.nN rfl rfl) ?_;refine tk 21 _ rfl (cD.nN rfl rfl) ?_;refine tk 27 _ rfl (cD.nN rfl rfl) ?_;refine tk 31 _ rfl (cD.nN rfl rfl) ?_;(refine tO 32 ?_;refine dV (bj rfl) ?_))
  refine bf zK ?_;refine wB ?_;refine bz (id:=17) [24] mixed ?_
  (refine tM 0 ?_;refine tM 2 ?_;refine tM 5 ?_;refine tM 8 ?_;refine tk 9 _ rfl (cD.dE rfl rfl zo) ?_;refine tL 10 ?_;refine tk 11 _ rfl (cD.DL rfl rfl) ?_;refine tM 12 ?_;refine tk 13 _ rfl (cD.dE rfl rfl zo) ?_;refine tL 14 ?_;refine tk 15 _ rfl (cD.DL rfl rfl) ?_;refine tk 16 _ rfl (cD.pN rfl rfl) ?_;refine tk 17 _ rfl (cD.dE rfl rfl zo) ?_;refine tL 18 ?_;refine tk 19 _ rfl (cD.dE rfl rfl zo) ?_;refine tL 20 ?_;refine tk 21 _ rfl (cD.DL rfl rfl) ?_;refine tk 22 _ rfl (cD.pN rfl rfl) ?_)
  refine tO 1 ?_;refine bg rfl rfl (iK _ e a' 2 zo zo) ?_;rintro _ _ ⟨rfl,rfl⟩;refine ⟨fun _=>aX,?_⟩;refine tO 3 ?_;refine bg rfl rfl (iK _ e a' 13 zo zo) ?_;rintro _ _ ⟨rfl,rfl⟩;refine ⟨fun _=>aX,?_⟩
  (refine tk 4 _ rfl (cD.pN rfl rfl) ?_)
  refine tO 6 ?_;refine bg rfl rfl (iK _ e a' 22 zo zo) ?_;rintro _ _ ⟨rfl,rfl⟩;refine ⟨fun _=>aX,?_⟩
  (refine tk 7 _ rfl (cD.pN rfl rfl) ?_;refine tk 23 _ rfl (cD.nN rfl rfl) ?_;(refine tO 24 ?_;refine dV (bj rfl) ?_))
  refine bf zK ?_
  (repeat' first|refine YT ?_|refine Y3 ?_|refine Y5 ?_|refine Za ?_|refine Zb ?_|apply Zd|apply Ze|apply Zf|refine Zi ?_|refine ZS ?_|apply YH|refine YR ?_|fail)
  refine bi (i+1) cO zo (cC rfl (cC rfl (cC rfl (cC rfl (cC rfl (cC rfl dd)))))) ?_;rw [Vk,← UInt32.add_assoc];exact aX
 obtain rfl:i=64:=by omega
 generalize lv s ws 64=V at *
 have qi:(s.add V).cells=(List.zipWith (·+·) s.list V.list).map cW:=rfl;have tI:s.list.length=8:=rfl;have Bb:V.list.length=8:=rfl;rw [qi,S8.nQ,S8.nQ]
 generalize s.list=sl at *
 generalize V.list=vl at *
 refine wB ?_;refine bq (ι:=Nat) (fun i=>[(18,.int .i64 (i:Int)),(12,pt Mg),(6,pt g6),(3,pt g3)])
  (fun i=>cK Mg (vl.map cW) 296 (0,0)::cK g7 (ws.map cW) 297 (0,0)::cK g6 ((List.replicate 8 (0:UInt32)).map cW) 296 (0,0)::cK g3 (((List.zipWith (·+·) sl vl).take i++sl.drop i).map cW) 296 (0,0)::R) (fun i=>i≤8) (fun i=>8 - i) 0 (aH _) (cC rfl (cC rfl (cC rfl (cC rfl dd)))) (by rw [List.take_zero,List.nil_append,List.drop_zero];exact aX) ?_
 intro j hj;have JC:((List.zipWith (·+·) sl vl).take j).length=j:=by simp;omega
 by_cases LA:j<8
 ·obtain ⟨z1,z2⟩:=Ba (a:=sl) (c:=vl) (i:=j) zo zo;rw [z2];have Y8:Rd (cK Mg (vl.map cW) 296 (0,0)::cK g7 (ws.map cW) 297 (0,0)::cK g6 ((List.replicate 8 (0:UInt32)).map cW) 296 (0,0)::cK g3 (((List.zipWith (·+·) sl vl).take j++sl.getD j 0::sl.drop (j+1)).map cW) 296 (0,0)::R) ⟨g3,0+j,none⟩ (cW (sl.getD j 0)):=GA JC (.succ (.succ (.succ .zero))) (aC _);have Zv:Rd (cK Mg (vl.map cW) 296 (0,0)::cK g7 (ws.map cW) 297 (0,0)::cK g6 ((List.replicate 8 (0:UInt32)).map cW) 296 (0,0)::cK g3 (((List.zipWith (·+·) sl vl).take j++sl.getD j 0::sl.drop (j+1)).map cW) 296 (0,0)::R) ⟨Mg,0+j,none⟩ (cW (vl.getD j 0)):=A8 zo .zero (aC _)
  generalize sl.getD j 0=x at *
  generalize vl.getD j 0=y at *
  refine wB ?_;refine bz (id:=22) [8,9] mixed ?_
  (refine tM 0 ?_;refine tM 1 ?_;refine tk 2 _ rfl (cD.dX rfl rfl zo) ?_;refine tL 3 ?_;refine tM 4 ?_;refine tk 5 _ rfl (cD.dX rfl rfl zo) ?_;refine tL 6 ?_;refine tk 7 _ rfl (cD.nN rfl rfl) ?_;(refine tO 8 ?_;refine bN (cD.dX rfl rfl zo) rfl ⟨zN,?_⟩))
  refine tO 9 ?_;refine b7 rfl rfl rfl (.succ (.succ (.succ .zero))) (by rw [aC];exact mx JC) ⟨zN,?_⟩;refine bf zK ?_;refine wB ?_;exact bi (j+1) LA zo (cC rfl (cC rfl (cC rfl (cC rfl dd)))) (by rw [z1,aM];exact aX)
 obtain rfl:j=8:=by omega
 have hlen:(((List.zipWith (·+·) sl vl).take 8++sl.drop 8).map cW).length=8:=by simp;omega
 have D8:=gE ((List.zipWith (·+·) sl vl).take 8++sl.drop 8)
 have lM:((List.zipWith (·+·) sl vl).take 8++sl.drop 8).map cW=(List.zipWith (·+·) sl vl).map cW:=by
  rw [aG (by simp;omega),List.drop_of_length_le zo,aK]
 rw [← lM]
 generalize ((List.zipWith (·+·) sl vl).take 8++sl.drop 8).map cW=l at *
 (repeat' first|(refine O.dy rfl (bU (.succ (.succ (.succ .zero)))) hlen rfl ?_)|refine Za ?_|apply Zc|apply Zd|apply Ze|apply Zf|refine ZB ?_|refine YA ?_|apply YD|apply YG|apply YJ)
 refine O.ek rfl rfl hlen D8 (.succ (.succ .zero)) (eC (by rw [hlen];rfl)) ?_;refine wB ?_;apply br
 ·exact .agg rfl (bU (.succ (.succ .zero))) hlen .nil
 exact ⟨R,zE,rfl,rfl⟩
theorem db.rG {L:List cJ} {ad:Option Addr} {c k:Nat} {l:List UInt8} (h:db L (.slice ad l.length c) l) (hk:k≤l.length):db L (.slice (cutAt ad c k 1) (l.length - k) (c - k)) (l.drop k):=by
 have:=cE.rG (L:=L) h hk;rw [Nat.mul_one,← List.map_drop] at this
 unfold db;rw [aO];exact this
theorem RG (n:Nat) (h:n<18446744073709551616):IntKind.u64.wrap (n:Int)=(n:Int):=by
 unfold IntKind.wrap;simp only [IntKind.bits,IntKind.signed]
 simp
 omega
theorem Mh (n:Nat):((n:Int)).tmod 64=((n % 64:Nat):Int):=by
 rw [Int.tmod_eq_emod_of_nonneg zo];rfl
theorem Ci (n:Nat):∀ (j m:Nat),m<j→(be n j).drop m=UInt8.ofNat (n / 256 ^ (j - 1 - m))::(be n j).drop (m+1)
 | 0,_,h=>by omega
 | j+1,0,_=>by simp [be]
 | j+1,m+1,h=>by
  have:=Ci n j m zo;simp only [be,List.drop_succ_cons];rw [this,show j+1 - 1 - (m+1)=j - 1 - m by omega]
theorem Bc {α:Type} {l:List α} {m:Nat} {x:α} (h:l.drop m=x::l.drop (m+1)):l.take (m+1)=l.take m++[x]:=by
 have h1:m<l.length:=by
  rcases Nat.lt_or_ge m l.length with h2|h2
  ·exact h2
  ·rw [List.drop_of_length_le h2] at h;cases h
 rw [List.drop_eq_getElem_cons h1] at h
 rw [aD h1,(List.cons.inj h).1]
theorem Bd (n m:Nat) (hm:m<8) (hn:n<1152921504606846976):IntKind.u8.wrap (((n*8:Nat):Int).fdiv (2 ^ (min (8*(7 - (m:Int))).toNat 64)))=((UInt8.ofNat (n*8 / 256 ^ (7 - m))).toNat:Int):=by
 have e1:(8*(7 - (m:Int))).toNat=8*(7 - m):=by omega
 rw [e1,Nat.min_eq_left zo,Int.fdiv_eq_ediv_of_nonneg _ (Int.pow_nonneg (by decide))]
 have e2:(2:Int) ^ (8*(7 - m))=((256 ^ (7 - m):Nat):Int):=by
  rw [Int.natCast_pow,Int.pow_mul];rfl
 rw [e2,← Int.natCast_ediv,w8]
 simp
theorem jy (s:S8):s.cells.length=8:=rfl
set_option maxHeartbeats 2000000 in
theorem JP (v:Value) (b:List UInt8) (hv:db R v b) (hb:b.length≤1000000000000) :
 Ct prog 136 #[v] e R (fun v' L'=>∃ ad c,v'=.slice ad (sk b).length c∧L'=cR (.slice ad (sk b).length c) (sk b)::R):=by
 refine a7 (hv.shape zo) ?_;rintro ⟨⟨ad,cap,rfl,h3,h4,h5,h6⟩,_⟩;simp only [maxLen] at h4
 refine a8 (args:=[_]) func136 rfl ntmps136 results136 rfl ?_
 (repeat' first|(refine O.mC (cs:=uV.cells) rfl rfl rfl zQ rfl ?_)|(refine b9 (cs:=(List.replicate 8 (0:UInt32)).map cW) rfl rfl ?_;intro _)|(refine O.ek (vs:=uV.cells) rfl rfl rfl (gE uV.list) .zero (eC rfl) ?_)|refine Zb ?_|apply Zc|apply Zd|apply Ze|apply Zf)
 rename_i g3;refine aZ rfl rfl (D9 _ e) ?_;rintro _ _ ⟨rfl,rfl⟩
 (repeat' first|(refine b9 (cs:=(List.replicate 64 (0:UInt32)).map cW) rfl rfl ?_;intro _)|(refine O.ek (vs:=kw.map cW) rfl rfl rfl (gE kw) .zero (eC rfl) ?_)|refine Za ?_|refine Zb ?_|apply Zc|apply Zd|apply Ze|apply Zf|refine Zk ?_|apply YB)
 rename_i g4;refine bq (ι:=Nat × S8 × Option Addr × Nat) (fun i=>[(0,.slice i.2.2.1 (b.drop (64*i.1)).length i.2.2.2),(3,pt g3),(4,pt g4),(5,.int .i64 (b.length:Int))])
  (fun i=>cK g3 i.2.1.cells 296 (0,0)::cK g4 (kw.map cW) 297 (0,0)::R)
  (fun i=>64*i.1≤b.length∧(∀ T,iV uV (b++T)=iV i.2.1 (b.drop (64*i.1)++T))∧db R (.slice i.2.2.1 (b.drop (64*i.1)).length i.2.2.2) (b.drop (64*i.1))∧(b.drop (64*i.1)).length≤i.2.2.2∧i.2.2.2≤cap) (fun i=>b.length - 64*i.1) (0,uV,ad,cap)
  ⟨by omega,fun _=>rfl,hv,h3,aS _⟩ (cC rfl (cC rfl (cC rfl (cC rfl dd)))) zE ?_
 rintro ⟨i,S,ef,c1⟩ ⟨hi,hf,tK,wX,xr⟩;dsimp only at hi hf tK wX xr ⊢
 have oP:(b.drop (64*i)).length=b.length - 64*i:=aO;have GC:(b.drop (64*i)).drop 64=b.drop (64*(i+1)):=by rw [List.drop_drop,show 64*i+64=64*(i+1) by omega]
 by_cases cO:64≤(b.drop (64*i)).length
 ·have tH:=db.p5 tK cO;have vy:=db.rG tK cO;have oF:((b.drop (64*i)).take 64).length=64:=by rw [aF];omega
  have Zw:∀ T,iV uV (b++T)=iV (jh S ((b.drop (64*i)).take 64)) (b.drop (64*(i+1))++T):=fun T=>by
   rw [hf T,oO (by rw [aa];omega),List.take_append_of_le_length cO,List.drop_append_of_le_length cO,GC]
  rw [GC] at vy
  have ry:(b.drop (64*(i+1))).length=(b.drop (64*i)).length - 64:=by rw [aO,oP];omega
  rw [← ry] at vy
  generalize hB:b.drop (64*i)=B at *
  refine wB ?_;refine bz (id:=5) [4] mixed ?_
  (refine tJ 0 ?_;refine tM 1 ?_;refine tk 2 _ rfl (cD.iU rfl rfl zo zo) ?_)
  refine tO 3 ?_;refine bg rfl rfl (yc _ e S _ (B.take 64) g4 tH.tail.tail oF (bU (.succ .zero))) ?_;rintro _ _ ⟨rfl,rfl⟩;refine ⟨fun _=>aX,?_⟩
  generalize jh S (B.take 64)=S2 at *
  refine tO 4 ?_;refine Do.ek (vs:=S2.cells) rfl rfl (jy S2) (gE S2.list) .zero (eC ((jy S).trans (jy S2).symm)) ⟨zN,?_⟩;refine bf zK ?_;refine wB ?_;refine bi (i+1,S2,cutAt ef c1 64 1,c1 - 64) ⟨by omega,Zw,vy,by dsimp only;omega,by dsimp only;omega⟩ zd ?_ zE;dsimp only;rw [ry];exact cC rfl (cC rfl (cC rfl (cC rfl dd)))
 have hzb:zs b.length=zs (b.drop (64*i)).length:=by unfold zs;omega
 generalize b.drop (64*i)=B at *
 have hB:B.length<64:=by omega
 (repeat (refine wA ?_;intros))
 refine bC <| Do.fo (hF (n:=1) (k:=0) (cap:=0) zo zl (by simp)) (bo rfl rfl rfl .zero tK.tail.tail rfl rfl mD zm zo fun eI c3 _=>?_)
 simp only [aC,Nat.zero_mul,List.take_zero,List.nil_append]
 (repeat (refine wA ?_;intros))
 refine bC (bo rfl rfl rfl (.succ .zero) (bB .zero rfl zl) rfl rfl zO zm zo fun jB c4 _=>?_)
 refine wB ?_;refine bq (ι:=Nat × Option Addr × Nat) (fun i=>[(6,.slice i.2.1 (B.length+1+i.1) i.2.2),(3,pt g3),(4,pt g4),(5,.int .i64 (b.length:Int))])
  (fun i=>dJ pG 1 (.slice i.2.1 (B.length+1+i.1) i.2.2) (B.length+1+i.1) ((B++128::List.replicate i.1 0).map u8)::cK g3 S.cells 296 (0,0)::cK g4 (kw.map cW) 297 (0,0)::R)
  (fun i=>i.1≤zs B.length) (fun i=>zs B.length - i.1) (0,jB,c4)
  (aH _) (cC rfl (cC rfl (cC rfl (cC rfl dd)))) (by dsimp only;rw [ah];exact zE) ?_
 rintro ⟨z,Qy,c5⟩ hz;dsimp only at hz ⊢
 have Zx:zs B.length<64:=by unfold zs;omega
 have hzd:zs B.length=(119 - B.length % 64) % 64:=rfl;have ZF:=Mh (B.length+1+z)
 by_cases ZL:z<zs B.length
 ·(repeat (refine wA ?_;intros))
  refine bC (bo rfl rfl rfl (.succ .zero) (bB .zero rfl zl) rfl rfl zO zm zo fun GD c6 _=>?_)
  refine wB ?_;refine bi (z+1,GD,c6) ZL zd (cC rfl (cC rfl (cC rfl (cC rfl dd)))) ?_;dsimp only
  have he:(B++128::List.replicate (z+1) (0:UInt8)).map u8=(B++128::List.replicate z 0).map u8++[.int .u8 0]:=by
   rw [List.replicate_succ',show B++128::(List.replicate z 0++[0])=(B++128::List.replicate z (0:UInt8))++[0] by simp,ah]
   rfl
  rw [he];exact zE
 obtain rfl:z=zs B.length:=by omega
 have Vl:(B++128::List.replicate (zs B.length) (0:UInt8)).length=B.length+1+zs B.length:=by simp;omega
 have Mi:∀ m,(B++128::List.replicate (zs B.length) (0:UInt8))++m=B++128::(List.replicate (zs B.length) 0++m):=fun m=>by simp
 rw [← Vl] at ZF ⊢
 have acw:(B++128::List.replicate (zs B.length) (0:UInt8)).length≤128:=by omega
 have ZR:(B++128::List.replicate (zs B.length) (0:UInt8)).length % 64=56:=by omega
 have GF:sk b=gX (iV S (B++128::(List.replicate (zs B.length) 0++lx b.length))):=by
  rw [sk,hf,mG,hzb]
 rw [← Mi] at GF
 clear Mi Vl
 generalize B++128::List.replicate (zs B.length) (0:UInt8)=X at *
 have h8:(lx b.length).length=8:=cX _ _;refine wB ?_;refine bq (ι:=Nat × Option Addr × Nat) (fun i=>[(7,.int .i64 (7 - (i.1:Int))),(6,.slice i.2.1 (X.length+i.1) i.2.2),(3,pt g3),(4,pt g4),(5,.int .i64 (b.length:Int))])
  (fun i=>dJ pG 1 (.slice i.2.1 (X.length+i.1) i.2.2) (X.length+i.1) ((X++(lx b.length).take i.1).map u8)::cK g3 S.cells 296 (0,0)::cK g4 (kw.map cW) 297 (0,0)::R)
  (fun i=>i.1≤8) (fun i=>8 - i.1) (0,Qy,c5)
  (aH _) (cC rfl (cC rfl (cC rfl (cC rfl (cC rfl dd))))) (by dsimp only;rw [List.take_zero,aK];exact zE) ?_
 rintro ⟨m,Qz,c7⟩ hm;dsimp only at hm ⊢
 by_cases RH:m<8
 ·have Ea:=Bd b.length m RH zo;have Vm:=RG b.length zo
  have Vn:IntKind.u64.wrap ((b.length:Int)*8)=((b.length*8:Nat):Int):=by
   rw [← RG (b.length*8) zo];rfl
  have hw3:IntKind.u64.wrap (7 - (m:Int))=7 - (m:Int):=by
   rw [show (7 - (m:Int))=((7 - m:Nat):Int) by omega];exact RG _ zo
  have hw4:IntKind.u64.wrap (8*(7 - (m:Int)))=8*(7 - (m:Int)):=by
   rw [show (8*(7 - (m:Int)))=((8*(7 - m):Nat):Int) by omega];exact RG _ zo
  (repeat' first|(apply O.shr;exact rfl;exact rfl;(rw [hw3,hw4];omega);exact rfl)|(apply O.jO;exact rfl;exact rfl)|refine Za ?_|apply Zc|apply Zd|apply Ze|apply Zf|refine ZJ ?_|refine ZX ?_|refine Yi fun _=>?_|refine Yz ?_|apply YB|apply YC)
  rw [Vm,Vn,hw3,hw4,show IntKind.u64.bits=64 from rfl,Ea];have Eb:=Ci (b.length*8) 8 m RH;have na:(lx b.length).take (m+1)=(lx b.length).take m++[UInt8.ofNat (b.length*8 / 256 ^ (7 - m))]:=Bc Eb;clear Ea Eb
  generalize UInt8.ofNat (b.length*8 / 256 ^ (7 - m))=cc at *
  have ft:(X++(lx b.length).take (m+1)).map u8=(X++(lx b.length).take m).map u8++[u8 cc]:=by
   rw [na,← aM,ah];rfl
  generalize X++(lx b.length).take m=Y at *
  refine bC (bo rfl rfl rfl (.succ .zero) (bB .zero rfl zl) rfl rfl zO zm zo fun GD c6 _=>?_)
  refine wB ?_;refine bi (m+1,GD,c6) RH zd ?_ ?_
  ·dsimp only;rw [show (7 - ((m+1:Nat):Int))=7 - (m:Int) - 1 by omega];exact cC rfl (cC rfl (cC rfl (cC rfl (cC rfl dd))))
  ·dsimp only;rw [ft];exact zE
 obtain rfl:m=8:=by omega
 rw [aG zo];have ZT:(X++lx b.length).length=X.length+8:=by rw [aa,h8]
 have Z4:(X++lx b.length).length % 64=0:=by omega
 rw [← ZT]
 generalize X++lx b.length=Y at *
 refine wB ?_;refine W.cB (tB .zero) ?_;rintro ⟨Z5,c8,hq,OO,Mj⟩;obtain ⟨rfl,_,rfl⟩:=Value.slice.inj hq;clear hq;simp only [maxLen] at Mj
 refine bq (ι:=Nat × S8 × Option Addr × Nat) (fun i=>[(6,.slice i.2.2.1 (Y.drop (64*i.1)).length i.2.2.2),(3,pt g3),(4,pt g4)])
  (fun i=>cK g3 i.2.1.cells 296 (0,0)::cR (.slice Qz Y.length c7) Y::cK g4 (kw.map cW) 297 (0,0)::R)
  (fun i=>64*i.1≤Y.length∧(iV S Y=iV i.2.1 (Y.drop (64*i.1)))∧db (cR (.slice Qz Y.length c7) Y::cK g4 (kw.map cW) 297 (0,0)::R) (.slice i.2.2.1 (Y.drop (64*i.1)).length i.2.2.2) (Y.drop (64*i.1))∧(Y.drop (64*i.1)).length≤i.2.2.2∧i.2.2.2≤9223372036854775807) (fun i=>Y.length - 64*i.1) (0,S,Qz,c7)
  ⟨by omega,rfl,bb .zero,OO,by dsimp only;omega⟩ (cC rfl (cC rfl (cC rfl dd))) zE ?_
 rintro ⟨i,V,ad9,c9⟩ ⟨hi,hf,tK,wX,xr⟩;dsimp only at hi hf tK wX xr ⊢
 have oP:(Y.drop (64*i)).length=Y.length - 64*i:=aO;have GC:(Y.drop (64*i)).drop 64=Y.drop (64*(i+1)):=by rw [List.drop_drop,show 64*i+64=64*(i+1) by omega]
 by_cases cO:0<(Y.drop (64*i)).length
 ·have cO:64≤(Y.drop (64*i)).length:=by omega
  have tH:=db.p5 tK cO;have vy:=db.rG tK cO;have oF:((Y.drop (64*i)).take 64).length=64:=by rw [aF];omega
  have Zw:iV S Y=iV (jh V ((Y.drop (64*i)).take 64)) (Y.drop (64*(i+1))):=by
   rw [hf,oO cO,GC]
  rw [GC] at vy
  have ry:(Y.drop (64*(i+1))).length=(Y.drop (64*i)).length - 64:=by rw [aO,oP];omega
  rw [← ry] at vy
  generalize hBB:Y.drop (64*i)=B2 at *
  refine wB ?_;refine bz (id:=15) [4] mixed ?_
  (refine tJ 0 ?_;refine tM 1 ?_;refine tk 2 _ rfl (cD.iU rfl rfl zo zo) ?_)
  refine tO 3 ?_;refine bg rfl rfl (yc _ e V _ (B2.take 64) g4 tH.tail oF (bU (.succ (.succ .zero)))) ?_;rintro _ _ ⟨rfl,rfl⟩;refine ⟨fun _=>aX,?_⟩
  generalize jh V (B2.take 64)=V2 at *
  refine tO 4 ?_;refine Do.ek (vs:=V2.cells) rfl rfl (jy V2) (gE V2.list) .zero (eC ((jy V).trans (jy V2).symm)) ⟨zN,?_⟩;refine bf zK ?_;refine wB ?_;refine bi (i+1,V2,cutAt ad9 c9 64 1,c9 - 64) ⟨by omega,Zw,vy,by dsimp only;omega,by dsimp only;omega⟩ zd ?_ zE;dsimp only;rw [ry];exact cC rfl (cC rfl (cC rfl dd))
 have hY0:Y.drop (64*i)=[]:=List.eq_nil_of_length_eq_zero zo;have lM:iV S Y=V:=by rw [hf,hY0];exact vv (by simp)
 rw [GF,lM];clear hf GF lM;have Bb:V.list.length=8:=rfl;refine wB ?_;rw [S8.nQ];refine bq (ι:=Nat × Option Addr × Nat) (fun i=>[(9,.int .i64 (i.1:Int)),(8,.slice i.2.1 (4*i.1) i.2.2),(3,pt g3)])
  (fun i=>dJ pG 1 (.slice i.2.1 (4*i.1) i.2.2) (4*i.1) (((V.list.take i.1).flatMap ik).map u8)::cK g3 (V.list.map cW) 296 (0,0)::R)
  (fun i=>i.1≤8) (fun i=>8 - i.1) (0,none,0)
  (aH _) (cC rfl (cC rfl (cC rfl dd))) ((du pG 1).trans zE) ?_
 rintro ⟨j,GG,RI⟩ hj;dsimp only at hj ⊢
 by_cases LA:j<8
 ·have hr:Rd (cK g3 (V.list.map cW) 296 (0,0)::R) ⟨g3,0+j,none⟩ (cW (V.list.getD j 0)):=A8 zo .zero (aC _)
  have eJ:((V.list.take (j+1)).flatMap ik).map u8=((V.list.take j).flatMap ik).map u8++(ik (V.list.getD j 0)).map u8:=by
   have Ch:j<V.list.length:=LA;rw [aD Ch,aW,ah,aA,ae Ch]
   rfl
  generalize V.list.getD j 0=x at *
  refine wB ?_;refine bk (id:=21) [22] (cK g3 (V.list.map cW) 296 (0,0)::R) mixed ?_
  (refine tM 0 ?_;refine tM 1 ?_;refine tk 2 _ rfl (cD.dX rfl rfl zo) ?_;refine tL 3 ?_;refine tk 4 _ rfl (cD.xR rfl rfl zo) ?_;refine tk 5 _ rfl (cD.r7 rfl) ?_;refine tM 6 ?_;refine tk 7 _ rfl (cD.dX rfl rfl zo) ?_;refine tL 8 ?_;refine tk 9 _ rfl (cD.xR rfl rfl zo) ?_;refine tk 10 _ rfl (cD.r7 rfl) ?_;refine tM 11 ?_;refine tk 12 _ rfl (cD.dX rfl rfl zo) ?_;refine tL 13 ?_;refine tk 14 _ rfl (cD.xR rfl rfl zo) ?_;refine tk 15 _ rfl (cD.r7 rfl) ?_;refine tM 16 ?_;refine tk 17 _ rfl (cD.dX rfl rfl zo) ?_;refine tL 18 ?_;refine tk 19 _ rfl (cD.r7 rfl) ?_)
  refine tO 20 ?_;refine bE (el:=pG) (n:=1) (z:=.int .u8 0) rfl rfl rfl rfl zQ rfl fun gz=>⟨fun _=>zE,?_⟩
  refine tO 21 ?_;refine bo rfl rfl rfl (.succ .zero) (bB .zero rfl zl) rfl rfl zO zm zo fun Mk Vo _=>⟨fun _=>zE,?_⟩
  ((refine tO 22 ?_;refine dV (bj rfl) ?_))
  refine bf zK ?_;refine wB ?_;refine bi (j+1,Mk,Vo) LA zd ?_ ?_
  ·dsimp only;rw [Nat.mul_add];exact cC rfl (cC rfl (cC rfl dd))
  ·dsimp only;rw [eJ,Nat.mul_add];exact (show cz _ (dJ pG 1 (.slice Mk (4*j+4*1) Vo) (4*j+4*1) (((V.list.take j).flatMap ik).map u8++(ik x).map u8)::cK g3 (V.list.map cW) 296 (0,0)::R) from zE)
 obtain rfl:j=8:=by omega
 rw [aG zo];refine wB ?_;exact aY (cR (.slice GG (gX V).length RI) (gX V)::R) rfl (show cz (dJ pG 1 (.slice GG 32 RI) 32 ((gX V).map u8)::cK g3 (V.list.map cW) 296 (0,0)::R) _ from zE) ⟨GG,RI,rfl,rfl⟩
end Go.Proofs
namespace Go.Bs
section
variable {P:Program} {N:Fr} {Q:fN} {σ:Env} {e:World} {L:List cJ}
theorem cE.cap {n k c c':Nat} {ad:Option Addr} {xs:List Value} (r:cE L n (.slice ad k c) k xs) (h1:k≤c') (h2:c'≤c):cE L n (.slice ad k c') k xs:=fun h x=>by
 obtain ⟨a1,dW,cap,a2,a3,a4,a5,a6⟩:=r h x
 cases a2
 exact ⟨a1,ad,c',rfl,h1,by omega,fun hn=>by have:=a5 hn;omega,a6⟩
end
end Go.Bs
namespace Go.Proofs
open Go.Bs
attribute [local irreducible] Bs.cD Bs.Do Bs.O Bs.W Bs.Fin Bs.A Bs.Ct Bs.cE Bs.Rd Bs.Sat Bs.cK Bs.Ob Bs.dJ Bs.View Bs.cz Bs.Ex Bs.dH Bs.Pu Bs.eY Bs.dM Bs.dZ
theorem GH (R:List cJ) (e:World) (ad:Option Addr) (l c:Nat) :
 Ct Tryz.prog 230 #[.slice ad l c,.int .i64 64] e R (fun v' L'=>∃ gs gn,v'=.func (.func 274) #[] #[pt gs,pt gn]∧L'=cK gs [.slice ad l c] 30 (0,0)::cK gn [.int .i64 64] 3 (0,0)::R):=by
 refine a8 (args:=[_,_]) Tryz.func230 rfl Tryz.ntmps230 Tryz.results230 rfl ?_
 (repeat (refine wA ?_;intros))
 rename_i gs gn;exact aY _ rfl (show cz _ (cK gs [.slice ad l c] 30 (0,0)::cK gn [.int .i64 64] 3 (0,0)::R) from zE) ⟨gs,gn,rfl,rfl⟩
theorem OP {L:List cJ} {gl ol c m k:Nat} {Y:List UInt8} (h:db L (.slice (some ⟨gl,ol,none⟩) Y.length c) Y) (hY:Y.length=64*m) (hYc:Y.length≤c) (cO:k<m):db L (.slice (some ⟨gl,ol+64*k,none⟩) 64 64) ((Y.drop (64*k)).take 64):=by
 have h1:=db.rG h (k:=64*k) zo;rw [vx zo] at h1
 have h2:(Y.drop (64*k)).length=Y.length - 64*k:=aO;rw [← h2] at h1
 have h3:=db.p5 h1 (k:=64) zo;have h4:((Y.drop (64*k)).take 64).length=64:=by rw [aF];omega
 unfold db at h3 ⊢
 rw [h4] at h3 ⊢
 exact cE.cap h3 zo zo
theorem JQ (e:World) (l gs gn m gl ol c:Nat) (Y:List UInt8) (J:Nat→List cJ) (hY:Y.length=64*m) (hc:c≤9223372036854775807) (hYc:Y.length≤c)
 (hs:∀ k,Rd (J k) ⟨gs,0,none⟩ (.slice (some ⟨gl,ol,none⟩) Y.length c)) (hn:∀ k,Rd (J k) ⟨gn,0,none⟩ (.int .i64 64))
 (RJ:∀ k,k<m→Rt Tryz.prog l #[.slice (some ⟨gl,ol+64*k,none⟩) 64 64] e (J k) (fun v' L'=>v'=.bool true∧L'=J (k+1))) :
 Ct Tryz.prog 274 #[.func (.yield l) #[] #[],pt gs,pt gn] e (J 0) (fun _ L'=>L'=J m):=by
 refine a8 (args:=[_,_,_]) Tryz.func274 rfl Tryz.ntmps274 Tryz.results274 rfl ?_;refine wB ?_;refine bq (ι:=Nat) (fun k=>[(4,.int .i64 ((64*k:Nat):Int)),(0,.func (.yield l) #[] #[]),(1,pt gs),(2,pt gn)]) J (fun k=>k≤m) (fun k=>m - k) 0 (aH _) (cC rfl (cC rfl (cC rfl (cC rfl dd)))) aX ?_;intro k hk;have oD:=hs;have hn':=hn;have hs:=hs k;have hn:=hn k
 by_cases cO:k<m
 ·have rI:=RJ k cO
  (repeat' first|refine W.Yp (c:=.region 4 _ _) ?_|refine Za ?_|apply Zc|apply Zd|apply Ze|apply Zf|refine Zi ?_|refine Zk ?_|refine ZA ?_|refine Yz ?_|apply YB|apply YC|(refine bz (id:=3) [6] Tryz.mixed ?_;all_goals (refine tL 0 ?_);all_goals (refine tL 1 ?_);all_goals (refine tM 2 ?_);all_goals (refine tk 3 _ rfl (cD.ll rfl rfl zo zo) ?_);all_goals (refine tk 4 _ rfl (bM rfl) ?_);all_goals (refine tk 5 _ rfl (cD.min rfl rfl) ?_);all_goals ((refine tO 6 ?_;refine dV (bj rfl) ?_));all_goals (refine bf zK ?_)))
  have e1:(((64*k:Nat):Int)).toNat=64*k:=rfl;rw [e1,aB zo];have e2:(((64*k:Nat):Int)+64).toNat=64*k+64:=by omega
  have e3:cutAt (some ⟨gl,ol,none⟩) (64*k+64) (64*k) 1=some ⟨gl,ol+64*k,none⟩:=vx zo;have e4:64*k+64 - 64*k=64:=by omega
  refine WI.region ?_;refine OI.val _ rfl (bu rfl) rfl ?_;refine OI.val _ rfl (bp rfl zR) rfl ?_;refine OI.val _ rfl (bu rfl) rfl ?_;refine OI.val _ rfl (bu rfl) rfl ?_;refine OI.val _ rfl (bu rfl) rfl ?_;refine OI.val _ rfl (cD.kP rfl rfl zo) rfl ?_;refine OI.val _ rfl (bu rfl) rfl ?_;refine OI.val _ rfl (bu rfl) rfl ?_;refine OI.val _ rfl (cD.kP rfl rfl zo) rfl ?_;refine OI.val _ rfl (cD.slice3 rfl rfl rfl rfl zo zo zo zo) rfl ?_;rw [e1,e2,e3,e4];refine OI.yield rfl rfl rfl rI ?_;rintro _ _ ⟨rfl,rfl⟩;refine OI.val _ rfl (cD.jY rfl) rfl ?_;refine OI.nil ?_;have hs:=oD (k+1);have hn:=hn' (k+1);refine wB ?_;refine bi (k+1) cO zo ?_ aX;rw [show ((64*(k+1):Nat):Int)=((64*k:Nat):Int)+64 by omega];exact cC rfl (cC rfl (cC rfl (cC rfl dd)))
 obtain rfl:k=m:=by omega
 refine wB ?_;exact bT (J k) rfl aX rfl
end Go.Proofs
