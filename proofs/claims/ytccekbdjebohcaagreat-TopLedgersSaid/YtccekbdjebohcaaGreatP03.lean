/- Part 3 of a proof of this: TopLedgers returns true for any arguments; nothing of the old memory is turned. No condition. -/
import Derived.Test.YtccekbdjebohcaaGreatP02
set_option linter.unusedVariables false
set_option linter.unusedSimpArgs false
namespace Go.Bs
structure Port where
 id:Nat
 i:Nat
 uses:List Nat
 mem:Value→(Nat→Value)→List Res
structure EOp where
 i:Nat
 d:Nat
 uses:List Nat
 eats:List Nat
 ok:Value→(Nat→Value)→Prop
 outs:List (Nat × (Value→(Nat→Value)→List Res))
def restr (us:List Nat) (V:Nat→Value):Nat→Value:=fun k=>if us.contains k then V k else undef
theorem restr_congr {us:List Nat} {V V':Nat→Value} (h:∀ k∈us,V k=V' k):restr us V=restr us V':=by
 funext k
 unfold restr
 cases hc:us.contains k with
 | false=>rfl
 | true=>exact h k (List.contains_iff_mem.1 hc)
def EOp.ports (x:EOp):List Port:=x.outs.map fun o=>⟨o.1,x.i,x.uses,o.2⟩
def portsD (D:List EOp):List Port:=D.flatMap EOp.ports
def memsE (V:Nat→Value) (l:List Port):List Res:=l.flatMap fun p=>p.mem (V p.i) (restr p.uses V)
def eatenE (D:List EOp) (x:EOp):List Port:=(portsD D).filter fun p=>x.eats.contains p.id
def slotsE (V:Nat→Value):List EOp→Env
 | []=>[]
 | y::l=>if y.d<100000 then (y.d,V y.i)::slotsE V l else slotsE V l
theorem slotsE_mem {V:Nat→Value}:∀ {D:List EOp} {p:Nat × Value},p∈slotsE V D→∃ y∈D,y.d<100000∧(y.d,V y.i)=p
 | y::l,p,h=>by
  unfold slotsE at h
  split at h
  ·rename_i hd;rcases List.mem_cons.1 h with rfl|h
   ·exact ⟨y,List.mem_cons_self ..,hd,rfl⟩
   ·obtain ⟨z,hz,h⟩:=slotsE_mem h;exact ⟨z,List.mem_cons_of_mem _ hz,h⟩
  ·obtain ⟨z,hz,h⟩:=slotsE_mem h;exact ⟨z,List.mem_cons_of_mem _ hz,h⟩
section
variable (P:Program) (N:Fr) (ops:Array Oper) (e:World) (σ0:Env) (L0:List Res)
def StepE (D:List EOp) (x:EOp):Prop:=∃ o,ops[x.i]?=some o∧GuardOk ops σ0 o∧∀ (V:Nat→Value) (σr:Env) (M:List Res),(∀ k v,get σ0 k=some v→get σr k=some v)→(∀ y∈D,y.i∈x.uses→y.d<100000→get σr y.d=some (V y.i)∧y.ok (V y.i) (restr y.uses V)) →
 Do P N o (fun σ' L'=>∃ v,σ'=(if x.d<100000 then (x.d,v)::σr else σr)∧x.ok v (restr x.uses V)∧Ent L' (x.outs.flatMap (fun o=>o.2 v (restr x.uses V))++(M++L0))) σr e (memsE V (eatenE D x)++(M++L0))
end
def chkTopoE (ops:Array Oper) (l0:Array Bool):List Nat→List EOp→Bool
 | _,[]=>true
 | pre,x::r=>(match l0[x.i]? with|some b=>!b|none=>false) &&
  (match ops[x.i]? with
   | some o=>o.after.all (fun ed=>!Region.binds .any ed || l0.getD ed.on false || pre.contains ed.on) && x.uses.all (fun k=>bindsOn o k)
   | none=>false) && chkTopoE ops l0 (x.i::pre) r
def eSinks (ops:Array Oper) (D:List EOp):List EOp:=D.filter fun s=>!D.any fun z=>match ops[z.i]? with|some o=>bindsOn o s.i|none=>false
def chkOtherE (ops:Array Oper) (l0:Array Bool) (D:List EOp) (j:Nat):Bool :=
 (match l0[j]? with|some b=>b|none=>true) || (D.map (·.i)).contains j || (match ops[j]? with
  | some o=>(eSinks ops D).all (fun s=>bindsOn o s.i) || o.after.any (fun ed=>Region.binds .any ed && !(D.map (·.i)).contains ed.on && !l0.getD ed.on false)
  | none=>true)
def ownB (D:List EOp) (x:EOp) (k:Nat):Bool:=(portsD D).any fun p=>p.id == k && x.uses.contains p.i
def dagEB (ops:Array Oper) (l0:Array Bool) (D:List EOp):Bool :=
 chkTopoE ops l0 [] D && nodupB (D.map (·.i)) && nodupB (D.flatMap (·.eats)) && (List.range ops.size).all (chkOtherE ops l0 D) && nodupB ((portsD D).map (·.id)) && D.all (fun x=>x.eats.all (ownB D x))
def dagED (keys:List Nat) (D:List EOp):Bool:=nodupB (D.map (·.d)) && keys.all fun k=>!(D.map (·.d)).contains k
theorem chkTopoE_spec {ops:Array Oper} {l0:Array Bool}:∀ {D:List EOp} {pre:List Nat},chkTopoE ops l0 pre D=true→∀ A x B,D=A++x::B→l0[x.i]?=some false∧∃ o,ops[x.i]?=some o ∧
 (∀ ed∈o.after,Region.binds .any ed=true→l0.getD ed.on false=true∨ed.on∈pre∨ed.on∈A.map (·.i))∧(∀ k∈x.uses,bindsOn o k=true)
 | [],_,_,A,x,B,hsp=>by simp at hsp
 | y::r,pre,h,A,x,B,hsp=>by
  simp only [chkTopoE,Bool.and_eq_true] at h
  obtain ⟨⟨h1,h2⟩,h3⟩:=h
  cases A with
  | nil =>
   rw [List.nil_append] at hsp
   obtain ⟨rfl,rfl⟩:=List.cons.inj hsp;refine ⟨?_,?_⟩
   ·cases hq:l0[y.i]? with
    | none=>rw [hq] at h1;cases h1
    | some b=>rw [hq] at h1;simp at h1;rw [h1]
   ·cases hq:ops[y.i]? with
    | none=>rw [hq] at h2;cases h2
    | some o =>
     rw [hq] at h2
     simp only [Bool.and_eq_true] at h2
     refine ⟨o,rfl,fun ed hed hb=>?_,fun k hk=>List.all_eq_true.1 h2.2 k hk⟩;have:=Array.all_eq_true'.1 h2.1 ed hed;simp only [hb,Bool.not_true,Bool.false_or,Bool.or_eq_true,List.contains_iff_mem] at this
     rcases this with h|h
     ·exact .inl h
     ·exact .inr (.inl h)
  | cons z A =>
   rw [List.cons_append] at hsp
   obtain ⟨rfl,rfl⟩:=List.cons.inj hsp;obtain ⟨a1,o,a2,a3,a4⟩:=chkTopoE_spec h3 A x B rfl;refine ⟨a1,o,a2,fun ed hed hb=>?_,a4⟩;rcases a3 ed hed hb with h|h|h
   ·exact .inl h
   ·rcases List.mem_cons.1 h with h|h
    ·exact .inr (.inr (by rw [h];exact List.mem_cons_self ..))
    ·exact .inr (.inl h)
   ·exact .inr (.inr (List.mem_cons_of_mem _ h))
theorem first_undoneE (U:List Nat):∀ (D:List EOp),(∃ x∈D,x.i ∉ U)→∃ A x B,D=A++x::B∧x.i ∉ U∧∀ y∈A,y.i∈U
 | [],⟨_,h,_⟩=>by cases h
 | y::r,h=>by
  by_cases hy:y.i∈U
  ·obtain ⟨A,x,B,h1,h2,h3⟩:=first_undoneE U r (by
    obtain ⟨x,hx,hn⟩:=h;rcases List.mem_cons.1 hx with rfl|hx
    ·exact absurd hy hn
    ·exact ⟨x,hx,hn⟩)
   exact ⟨y::A,x,B,by rw [h1];rfl,h2,fun z hz=>by
    rcases List.mem_cons.1 hz with rfl|hz
    ·exact hy
    ·exact h3 z hz⟩
  ·exact ⟨[],y,r,rfl,hy,fun z hz=>by cases hz⟩
theorem last_undoneE (U:List Nat) (D:List EOp) (h:∃ x∈D,x.i ∉ U):∃ A x B,D=A++x::B∧x.i ∉ U∧∀ y∈B,y.i∈U:=by
 obtain ⟨x,hx,hn⟩:=h;obtain ⟨A,y,B,h1,h2,h3⟩:=first_undoneE U D.reverse ⟨x,List.mem_reverse.2 hx,hn⟩;refine ⟨B.reverse,y,A.reverse,?_,h2,fun z hz=>h3 z (List.mem_reverse.1 hz)⟩;have:=congrArg List.reverse h1;rw [List.reverse_reverse] at this
 rw [this]
 simp
theorem filter_oneE {D:List EOp} (hn:(D.map (·.i)).Nodup) {x:EOp} (hx:x∈D):D.filter (fun y=>y.i == x.i)=[x]:=by
 obtain ⟨A,B,rfl⟩:=List.append_of_mem hx;rw [List.map_append,List.map_cons] at hn
 have h1:=List.nodup_append.1 hn;have h2:=List.nodup_cons.1 h1.2.1;rw [List.filter_append,List.filter_cons];simp only [beq_self_eq_true,if_true];rw [List.filter_eq_nil_iff.2 fun y hy h=>?_,List.filter_eq_nil_iff.2 fun y hy h=>?_]
 ·rfl
 ·exact h2.1 (by rw [← beq_iff_eq.1 h];exact List.mem_map.2 ⟨y,hy,rfl⟩)
 ·exact h1.2.2 y.i (List.mem_map.2 ⟨y,hy,rfl⟩) x.i (List.mem_cons_self ..) (beq_iff_eq.1 h)
def liveE (D:List EOp) (U:List Nat) (p:Port):Bool:=U.contains p.i && !D.any fun z=>z.eats.contains p.id && U.contains z.i
theorem memsE_congr {V V':Nat→Value} {l:List Port} (h:∀ y∈l,V y.i=V' y.i∧∀ k∈y.uses,V k=V' k):memsE V l=memsE V' l:=by
 induction l with
 | nil=>rfl
 | cons y l ih =>
  show y.mem (V y.i) (restr y.uses V)++memsE V l=y.mem (V' y.i) (restr y.uses V')++memsE V' l
  rw [(h y (List.mem_cons_self ..)).1,restr_congr (h y (List.mem_cons_self ..)).2,ih fun z hz=>h z (List.mem_cons_of_mem _ hz)]
theorem ports_i {x:EOp} {p:Port} (h:p∈x.ports):p.i=x.i:=by
 obtain ⟨o,_,rfl⟩:=List.mem_map.1 h
 rfl
theorem ports_u {x:EOp} {p:Port} (h:p∈x.ports):p.uses=x.uses:=by
 obtain ⟨o,_,rfl⟩:=List.mem_map.1 h
 rfl
theorem ports_of {D:List EOp} (hn:(D.map (·.i)).Nodup) {x:EOp} (hx:x∈D):(portsD D).filter (fun p=>p.i == x.i)=x.ports:=by
 obtain ⟨A,B,rfl⟩:=List.append_of_mem hx;rw [List.map_append,List.map_cons] at hn
 have h1:=List.nodup_append.1 hn;have h2:=List.nodup_cons.1 h1.2.1;unfold portsD;rw [List.flatMap_append,List.flatMap_cons,List.filter_append,List.filter_append];rw [List.filter_eq_nil_iff.2 fun p hp h=>?_,List.filter_eq_self.2 fun p hp=>?_,List.filter_eq_nil_iff.2 fun p hp h=>?_]
 ·simp
 ·obtain ⟨y,hy,hp⟩:=List.mem_flatMap.1 hp;exact h2.1 (by rw [← beq_iff_eq.1 h,ports_i hp];exact List.mem_map.2 ⟨y,hy,rfl⟩)
 ·rw [ports_i hp];exact beq_self_eq_true _
 ·obtain ⟨y,hy,hp⟩:=List.mem_flatMap.1 hp;exact h1.2.2 y.i (List.mem_map.2 ⟨y,hy,rfl⟩) x.i (List.mem_cons_self ..) (by rw [← ports_i hp];exact beq_iff_eq.1 h)
theorem nodup_id {l:List Port} (hn:(l.map (·.id)).Nodup) {p q:Port} (hp:p∈l) (hq:q∈l) (h:p.id=q.id):p=q:=by
 induction l with
 | nil=>cases hp
 | cons y l ih =>
  rw [List.map_cons] at hn
  have h1:=List.nodup_cons.1 hn;rcases List.mem_cons.1 hp with hp|hp
  ·rcases List.mem_cons.1 hq with hq|hq
   ·rw [hp,hq]
   ·exact absurd (by rw [← hp,h];exact List.mem_map.2 ⟨q,hq,rfl⟩) h1.1
  ·rcases List.mem_cons.1 hq with hq|hq
   ·exact absurd (by rw [← hq,← h];exact List.mem_map.2 ⟨p,hp,rfl⟩) h1.1
   ·exact ih h1.2 hp hq
theorem memsE_self {V:Nat→Value} {x:EOp} {v:Value} (h:V x.i=v):memsE V x.ports=x.outs.flatMap fun o=>o.2 v (restr x.uses V):=by
 unfold memsE EOp.ports;rw [List.flatMap_map]
 show (x.outs.flatMap fun o=>o.2 (V x.i) (restr x.uses V))=_
 rw [h]
section
variable {P:Program} {N:Fr} {ops:Array Oper} {e:World} {σ0:Env} {L0:List Res} {T:List Nat} {R0:List Res} {n:Nat} {l0:Array Bool} {Q:Goal}
theorem wpS_dagE {D:List EOp} {I:List Nat} {Q':Exit→Act→World→Prop} {S:Array Bool→World→Prop} (hB:dagEB ops l0 D=true) (hD:dagED (σ0.map (·.1)) D=true) (hok:∀ x∈D,x.i ∉ I→StepE P N ops e σ0 L0 D x)
 (hS:∀ l w L,Sat e (L++L0) w→S l w)
 (fin:∀ a w (V:Nat→Value),(∀ y∈D,y.ok (V y.i) (restr y.uses V))→Has N (slotsE V D++σ0) a→Sat e (memsE V ((portsD D).filter fun p=>!D.any fun z=>z.eats.contains p.id)++L0) w→wpS P ops Q' S n (mark l0 (D.map (·.i))) a w) :
 ∀ (m:Nat) (U:List Nat),(∀ i∈I,i∈U)→U.Nodup→(∀ i∈U,i∈D.map (·.i))→U.length+m=D.length→∀ (l:Array Bool) (a:Act) (w:World) (V:Nat→Value),
  (∀ i,l[i]?=(l0[i]?).map (fun b=>b || U.contains i))→(∀ z∈D,z.i∈U→∀ o,ops[z.i]?=some o→∀ ed∈o.after,Region.binds .any ed=true→l.getD ed.on false=true) →
  Has N σ0 a→(∀ y∈D,y.i∈U→(y.d<100000→a.tmps[y.d]?=some (V y.i))∧y.ok (V y.i) (restr y.uses V))→Sat e (memsE V ((portsD D).filter (liveE D U))++L0) w→wpS P ops Q' S (n+m) l a w:=by
 simp only [dagEB,dagED,Bool.and_eq_true] at hB hD
 obtain ⟨⟨⟨⟨⟨hB1,hB2⟩,hB3⟩,hB4⟩,hB5⟩,hB6⟩:=hB;obtain ⟨hD1,hD2⟩:=hD;have hnd:=nodupB_spec hB2;have hne:=nodupB_spec hB3;have hns:=nodupB_spec hD1;have hni:=nodupB_spec hB5
 have hpi:∀ p∈portsD D,∃ y∈D,p.i=y.i:=fun p hp=>by
  obtain ⟨y,hy,hp⟩:=List.mem_flatMap.1 hp;exact ⟨y,hy,ports_i hp⟩
 have hpu:∀ p∈portsD D,∃ y∈D,p.i=y.i∧p.uses=y.uses:=fun p hp=>by
  obtain ⟨y,hy,hp⟩:=List.mem_flatMap.1 hp;exact ⟨y,hy,ports_i hp,ports_u hp⟩
 have hown:∀ z∈D,∀ p∈portsD D,p.id∈z.eats→p.i∈z.uses:=fun z hz p hp hpe=>by
  have h1:=List.all_eq_true.1 (List.all_eq_true.1 hB6 z hz) p.id hpe;obtain ⟨q,hq,h2⟩:=List.any_eq_true.1 h1;rw [Bool.and_eq_true,beq_iff_eq,List.contains_iff_mem] at h2
  rw [← nodup_id hni hq hp h2.1];exact h2.2
 have hlist:∀ x∈D,l0[x.i]?=some false:=fun x hx=>by
  obtain ⟨A,B,h⟩:=List.append_of_mem hx;exact (chkTopoE_spec hB1 A x B h).1
 intro m
 induction m with
 | zero =>
  intro U hIU hU hsub hlen l a w V hl hcl ha hv hs
  have hall:∀ y∈D,y.i∈U:=fun y hy=>by
   exact nodup_all hU hsub (by rw [List.length_map];omega) _ (List.mem_map.2 ⟨y,hy,rfl⟩)
  have hll:l=mark l0 (D.map (·.i)):=by
   apply Array.ext_getElem?;intro i;rw [hl,mark_get]
   have:U.contains i=(D.map (·.i)).contains i:=by
    rw [Bool.eq_iff_iff,List.contains_iff_mem,List.contains_iff_mem]
    constructor
    ·exact hsub i
    ·intro h;obtain ⟨y,hy,rfl⟩:=List.mem_map.1 h;exact hall y hy
   rw [this]
  subst hll;refine fin a w V (fun y hy=>(hv y hy (hall y hy)).2) ⟨ha.size,ha.defers,fun k v hk=>?_⟩ ?_
  ·refine held_append (σ:=slotsE V D) (τ:=σ0) (a:=a) (fun k v hk=>?_) ha.val k v hk;have:=get_mem hk;obtain ⟨y,hy,hyd,he⟩:=slotsE_mem this
   cases he
   exact (hv y hy (hall y hy)).1 hyd
  ·have:(portsD D).filter (liveE D U)=(portsD D).filter fun p=>!D.any fun z=>z.eats.contains p.id:=by
    apply List.filter_congr;intro p hp;obtain ⟨y,hy,he⟩:=hpi p hp;unfold liveE;rw [he,List.contains_iff_mem.2 (hall y hy),Bool.true_and]
    congr 1
    rw [Bool.eq_iff_iff,List.any_eq_true,List.any_eq_true]
    constructor
    ·rintro ⟨z,hz,h⟩;rw [Bool.and_eq_true] at h
     exact ⟨z,hz,h.1⟩
    ·rintro ⟨z,hz,h⟩;exact ⟨z,hz,by rw [Bool.and_eq_true];exact ⟨h,List.contains_iff_mem.2 (hall z hz)⟩⟩
   rw [this] at hs
   exact hs
 | succ m ih =>
  intro U hIU hU hsub hlen l a w V hl hcl ha hv hs
  have hlgetF:∀ i,l.getD i false=(match l0[i]? with|some b=>b || U.contains i|none=>false):=fun i=>by
   rw [Array.getD_eq_getD_getElem?,hl];cases l0[i]?<;>rfl
  have hlget:∀ i,l.getD i true=(match l0[i]? with|some b=>b || U.contains i|none=>true):=fun i=>by
   rw [Array.getD_eq_getD_getElem?,hl];cases l0[i]?<;>rfl
  have hund:∃ x∈D,x.i ∉ U:=by
   by_cases h:∃ x∈D,x.i ∉ U
   ·exact h
   ·exfalso
    have h2:∀ i∈D.map (·.i),i∈U:=fun i hi=>by
     obtain ⟨y,hy,rfl⟩:=List.mem_map.1 hi;exact Classical.byContradiction fun hn=>h ⟨y,hy,hn⟩
    have:=nodup_len hnd h2;rw [List.length_map] at this
    omega
  have hdone:∀ y∈D,(l.getD y.i false=true↔y.i∈U):=fun y hy=>by
   rw [hlgetF,hlist y hy]
   simp
  refine ⟨fun hno=>?_,fun i hi=>?_⟩
  ·exfalso
   obtain ⟨A,x,B,hsp,hxU,hA⟩:=first_undoneE U D hund;obtain ⟨g1,o,g2,g3,_⟩:=chkTopoE_spec hB1 A x B hsp
   have hr:x.i∈Region.ready .any ops l:=by
    refine mem_ready.2 ⟨?_,o,g2,fun ed hed hb=>?_⟩
    ·rw [hlget,g1]
     simpa using hxU
    ·rcases g3 ed hed hb with h|h|h
     ·rw [hlgetF];rw [Array.getD_eq_getD_getElem?] at h
      cases hq:l0[ed.on]? with
      | none=>rw [hq] at h;cases h
      | some b=>rw [hq] at h;simp at h;subst h;rfl
     ·cases h
     ·obtain ⟨y,hy,he⟩:=List.mem_map.1 h;rw [← he];exact (hdone y (by rw [hsp];exact List.mem_append_left _ hy)).2 (hA y hy)
   rw [hno] at hr;cases hr
  ·obtain ⟨hun,o,ho,hall⟩:=mem_ready.1 hi
   have hl0:l0[i]?=some false∧U.contains i=false:=by
    rw [hlget] at hun
    cases hq:l0[i]? with
    | none=>rw [hq] at hun;cases hun
    | some b =>
     rw [hq] at hun
     simp only [Bool.or_eq_false_iff] at hun
     exact ⟨by rw [hun.1],hun.2⟩
   have hmem:i∈D.map (·.i):=by
    refine Classical.byContradiction fun hnot=>?_
    have hlt:i<ops.size:=(Array.getElem?_eq_some_iff.1 ho).1;have h1:=List.all_eq_true.1 hB4 i (List.mem_range.2 hlt);unfold chkOtherE at h1
    rw [hl0.1,ho] at h1
    simp only [Bool.or_eq_true,Bool.false_eq_true,false_or,List.contains_iff_mem,hnot] at h1
    rcases h1 with h1|h1
    ·obtain ⟨A,x,B,hsp,hxU,hBd⟩:=last_undoneE U D hund;have hxD:x∈D:=by rw [hsp];simp
     have hbinds:bindsOn o x.i=true→False:=fun hb=>by
      obtain ⟨ed,h2,h3,h4⟩:=bindsOn_spec hb;have h5:=hall ed h2 h3;rw [h4,hdone x hxD] at h5
      exact hxU h5
     by_cases hsink:x∈eSinks ops D
     ·exact hbinds (List.all_eq_true.1 h1 x hsink)
     ·
      simp only [eSinks,List.mem_filter,hxD,true_and,Bool.not_eq_true',Bool.not_eq_false] at hsink
      obtain ⟨z,hz,hz2⟩:=List.any_eq_true.1 hsink
      cases hoz:ops[z.i]? with
      | none=>rw [hoz] at hz2;cases hz2
      | some oz =>
       rw [hoz] at hz2
       obtain ⟨ed,h2,h3,h4⟩:=bindsOn_spec hz2
       have hzU:z.i∈U:=by
        rw [hsp] at hz
        rcases List.mem_append.1 hz with hzA|hzB
        ·
         exfalso
         obtain ⟨A1,A2,rfl⟩:=List.append_of_mem hzA;obtain ⟨_,o',b1,b2,_⟩:=chkTopoE_spec hB1 A1 z (A2++x::B) (by rw [hsp];simp);rw [hoz] at b1;cases b1
         rcases b2 ed h2 h3 with h|h|h
         ·rw [h4,Array.getD_eq_getD_getElem?,hlist x hxD] at h;cases h
         ·cases h
         ·rw [h4] at h
          have hnd2:=hnd;rw [hsp] at hnd2
          simp only [List.map_append,List.map_cons,List.append_assoc,List.cons_append] at hnd2
          have:=(List.nodup_append.1 hnd2).2.2 x.i h x.i (by simp);exact this rfl
        ·rcases List.mem_cons.1 hzB with rfl|hzB
         ·exfalso
          obtain ⟨_,o',b1,b2,_⟩:=chkTopoE_spec hB1 A z B hsp;rw [hoz] at b1;cases b1
          rcases b2 ed h2 h3 with h|h|h
          ·rw [h4,Array.getD_eq_getD_getElem?,hlist z hxD] at h;cases h
          ·cases h
          ·rw [h4] at h
           have hnd2:=hnd;rw [hsp] at hnd2
           simp only [List.map_append,List.map_cons] at hnd2
           exact (List.nodup_append.1 hnd2).2.2 z.i h z.i (by simp) rfl
         ·exact hBd z hzB
       have h5:=hcl z hz hzU oz hoz ed h2 h3;rw [h4,hdone x hxD] at h5
       exact hxU h5
    ·obtain ⟨ed,hed,hb⟩:=Array.any_eq_true'.1 h1;simp only [Bool.and_eq_true,Bool.not_eq_true'] at hb
     have h3:=hall ed hed hb.1.1;rw [hlgetF] at h3
     have h4:U.contains ed.on=false:=by
      cases hc:U.contains ed.on with
      | false=>rfl
      | true =>
       exfalso
       have h6:=hsub _ (List.contains_iff_mem.1 hc);have h7:=hb.1.2;rw [List.contains_iff_mem.2 h6] at h7
       cases h7
     have h8:=hb.2;rw [Array.getD_eq_getD_getElem?] at h8
     cases hq:l0[ed.on]? with
     | none=>rw [hq] at h3;cases h3
     | some b =>
      rw [hq] at h3 h8;simp at h3 h8;rw [h8] at h3;rcases h3 with h3|h3;· cases h3
      ·rw [List.contains_iff_mem.2 h3] at h4;cases h4
   obtain ⟨x,hx,rfl⟩:=List.mem_map.1 hmem;have hxU:x.i ∉ U:=fun h=>by rw [List.contains_iff_mem.2 h] at hl0;cases hl0.2
   obtain ⟨o',ho',hg,hdo⟩:=hok x hx (fun h=>hxU (hIU _ h));rw [ho] at ho';cases ho'
   obtain ⟨A0,B0,hsp0⟩:=List.append_of_mem hx;obtain ⟨_,o',ho',_,heats⟩:=chkTopoE_spec hB1 A0 x B0 hsp0;rw [ho] at ho';cases ho'
   have heatU:∀ y∈D,y.i∈x.uses→y.i∈U:=fun y hy hye=>by
    obtain ⟨ed,h2,h3,h4⟩:=bindsOn_spec (heats _ hye);have h5:=hall ed h2 h3;rw [h4,hdone y hy] at h5
    exact h5
   have hnone:∀ z∈D,z.i∈U→x.i ∉ z.uses:=fun z hz hzU hxe=>by
    obtain ⟨A1,B1,hsp1⟩:=List.append_of_mem hz;obtain ⟨_,oz,hoz,_,h2⟩:=chkTopoE_spec hB1 A1 z B1 hsp1;obtain ⟨ed,h3,h4,h5⟩:=bindsOn_spec (h2 _ hxe);have h6:=hcl z hz hzU oz hoz ed h3 h4;rw [h5,hdone x hx] at h6
    exact hxU h6
   have hself:x.i ∉ x.uses:=fun h=>hxU (heatU x hx h)
   have heat1:∀ z∈D,∀ k,k∈z.eats→k∈x.eats→z=x:=fun z hz k h1 h2=>by
    refine Classical.byContradiction fun hzx=>?_
    obtain ⟨A1,B1,hsp1⟩:=List.append_of_mem hz;rw [hsp1] at hx hne
    rw [List.flatMap_append,List.flatMap_cons] at hne
    have n1:=List.nodup_append.1 hne;have n2:=List.nodup_append.1 n1.2.1;rcases List.mem_append.1 hx with hx|hx
    ·exact n1.2.2 k (List.mem_flatMap.2 ⟨x,hx,h2⟩) k (List.mem_append_left _ h1) rfl
    ·rcases List.mem_cons.1 hx with rfl|hx
     ·exact hzx rfl
     ·exact n2.2.2 k h1 k (List.mem_flatMap.2 ⟨x,hx,h2⟩) rfl
   have heatP:∀ p∈portsD D,p.id∈x.eats→p.i∈U:=fun p hp hpe=>by
    obtain ⟨y,hy,he⟩:=hpi p hp;have:=hown x hx p hp hpe;rw [he] at this ⊢
    exact heatU y hy this
   have helive:∀ p∈portsD D,p.id∈x.eats→liveE D U p=true:=fun p hp hpe=>by
    unfold liveE;rw [List.contains_iff_mem.2 (heatP p hp hpe),Bool.true_and,Bool.not_eq_true'];refine List.any_eq_false.2 fun z hz h=>?_
    rw [Bool.and_eq_true,List.contains_iff_mem,List.contains_iff_mem] at h
    have:=heat1 z hz _ h.1 hpe;subst this;exact hxU h.2
   have hU':(x.i::U).Nodup:=List.nodup_cons.2 ⟨hxU,hU⟩
   have hp1:((portsD D).filter (liveE D U)).Perm (eatenE D x++(portsD D).filter fun y=>liveE D U y && !x.eats.contains y.id):=by
    have h1:=(List.filter_append_perm (fun y:Port=>x.eats.contains y.id) ((portsD D).filter (liveE D U))).symm;refine h1.trans ?_;rw [List.filter_filter,List.filter_filter]
    have e1:(portsD D).filter (fun y=>x.eats.contains y.id && liveE D U y)=eatenE D x:=by
     apply List.filter_congr;intro y hy
     cases hc:x.eats.contains y.id with
     | false=>rfl
     | true=>rw [helive y hy (List.contains_iff_mem.1 hc)];rfl
    have e2:(portsD D).filter (fun y=>(!x.eats.contains y.id) && liveE D U y)=(portsD D).filter fun y=>liveE D U y && !x.eats.contains y.id:=by
     apply List.filter_congr;intro y hy;exact Bool.and_comm _ _
    rw [e1,e2]
   have hp2:((portsD D).filter (liveE D (x.i::U))).Perm (x.ports++(portsD D).filter fun y=>liveE D U y && !x.eats.contains y.id):=by
    have h1:=(List.filter_append_perm (fun y:Port=>y.i == x.i) ((portsD D).filter (liveE D (x.i::U)))).symm;refine h1.trans ?_;rw [List.filter_filter,List.filter_filter]
    have e0:∀ y∈portsD D,liveE D (x.i::U) y=(y.i == x.i || (liveE D U y && !x.eats.contains y.id)):=fun y hy=>by
     by_cases hyx:y.i=x.i
     ·rw [hyx,beq_self_eq_true,Bool.true_or];unfold liveE;rw [hyx,List.contains_cons,beq_self_eq_true,Bool.true_or,Bool.true_and,Bool.not_eq_true'];refine List.any_eq_false.2 fun z hz h=>?_
      rw [Bool.and_eq_true,List.contains_iff_mem,List.contains_iff_mem] at h
      have huse:=hown z hz y hy h.1;rw [hyx] at huse
      rcases List.mem_cons.1 h.2 with h3|h3
      ·have:z.i=x.i:=h3
       have hzx:z=x:=by
        have f1:=filter_oneE hnd hx;have:z∈D.filter (fun y=>y.i == x.i):=List.mem_filter.2 ⟨hz,by rw [this];exact beq_self_eq_true _⟩;rw [f1] at this
        exact List.mem_singleton.1 this
       subst hzx;exact hself huse
      ·exact hnone z hz h3 huse
     ·have hb:(y.i == x.i)=false:=by simpa using hyx
      rw [hb,Bool.false_or];unfold liveE;rw [List.contains_cons,hb,Bool.false_or,Bool.and_assoc]
      congr 1
      rw [Bool.eq_iff_iff];simp only [Bool.not_eq_true',Bool.and_eq_true,List.any_eq_false,Bool.not_eq_true,List.contains_cons,Bool.and_eq_false_imp,Bool.or_eq_false_iff]
      constructor
      ·intro h;refine ⟨fun z hz hye=>h z hz ⟨hye.1,by rw [hye.2,Bool.or_true]⟩,?_⟩
       cases hc:x.eats.contains y.id with
       | false=>rfl
       | true=>exact absurd ⟨hc,by rw [beq_self_eq_true,Bool.true_or]⟩ (h x hx)
      ·rintro ⟨h1,h2⟩ z hz ⟨hye,hor⟩;rw [Bool.or_eq_true] at hor
       rcases hor with hc|hc
       ·have hzi:=beq_iff_eq.1 hc;have f1:=filter_oneE hnd hx;have:z∈D.filter (fun y=>y.i == x.i):=List.mem_filter.2 ⟨hz,by rw [hzi];exact beq_self_eq_true _⟩;rw [f1] at this
        have:=List.mem_singleton.1 this;subst this;rw [h2] at hye;cases hye
       ·exact h1 z hz ⟨hye,hc⟩
    have e1:(portsD D).filter (fun y=>(y.i == x.i) && liveE D (x.i::U) y)=x.ports:=by
     rw [← ports_of hnd hx];apply List.filter_congr;intro y hy;rw [e0 y hy]
     cases (y.i == x.i)<;>rfl
    have e2:(portsD D).filter (fun y=>(!(y.i == x.i)) && liveE D (x.i::U) y)=(portsD D).filter fun y=>liveE D U y && !x.eats.contains y.id:=by
     apply List.filter_congr;intro y hy;rw [e0 y hy]
     cases hc:(y.i == x.i) with
     | false=>rfl
     | true =>
      have hyi:=beq_iff_eq.1 hc
      have:liveE D U y=false:=by
       unfold liveE;have:U.contains y.i=false:=by rw [hyi];exact hl0.2
       rw [this];rfl
      rw [this];rfl
    rw [e1,e2]
   have hk0:∀ q,q∈σ0.map (·.1)→q≠x.d:=fun q hq he=>by
    have h1:=List.all_eq_true.1 hD2 q hq;rw [he,List.contains_iff_mem.2 (List.mem_map.2 ⟨x,hx,rfl⟩)] at h1
    cases h1
   have hyd:∀ y∈D,y.i∈U→y.d ∉ [x.d]:=fun y hy hyU h=>by
    have he:y.d=x.d:=List.mem_singleton.1 h;obtain ⟨A1,B1,hsp1⟩:=List.append_of_mem hx;rw [hsp1] at hy hns
    rw [List.map_append,List.map_cons] at hns
    have n1:=List.nodup_append.1 hns;have n2:=List.nodup_cons.1 n1.2.1;rcases List.mem_append.1 hy with hy|hy
    ·exact n1.2.2 y.d (List.mem_map.2 ⟨y,hy,rfl⟩) x.d (List.mem_cons_self ..) he
    ·rcases List.mem_cons.1 hy with rfl|hy
     ·exact hxU hyU
     ·exact n2.1 (by rw [← he];exact List.mem_map.2 ⟨y,hy,rfl⟩)
   have hdo:=hdo V (others a [x.d]) (memsE V ((portsD D).filter fun y=>liveE D U y && !x.eats.contains y.id))
    (fun q v hq=>others_get (fun h=>hk0 q (List.mem_map.2 ⟨(q,v),get_mem hq,rfl⟩) (List.mem_singleton.1 h)) (ha.val q v hq))
    (fun y hyD hyu hys=>by
     have hyU:=heatU y hyD hyu;exact ⟨others_get (hyd y hyD hyU) ((hv y hyD hyU).1 hys),(hv y hyD hyU).2⟩)
   have hs1:Sat e (memsE V (eatenE D x)++(memsE V ((portsD D).filter fun y=>liveE D U y && !x.eats.contains y.id)++L0)) w:=hs.ent (ent_perm (by
    rw [← List.append_assoc];refine List.Perm.append_right _ ?_;have:=List.Perm.flatMap_right (f:=fun y:Port=>y.mem (V y.i) (restr y.uses V)) hp1;rw [List.flatMap_append] at this
    exact this))
   refine do_wpOp ho ?_ hdo ⟨ha.size,ha.defers,others_held⟩ hs1 ?_
   ·rcases hg with hg|⟨j,want,hg,hw⟩
    ·simp [Region.wanted,hg]
    ·obtain ⟨dst,op,ty,pos,af,gd⟩:=o;dsimp only at hg
     subst hg;exact wants_ok ha hw
   rintro _ L' a' w' ⟨v,rfl,hvok,hent⟩ ha' hs'
   have hkeep:∀ q u,q≠x.d→a.tmps[q]?=some u→a'.tmps[q]?=some u:=fun q u hq hu=>by
    refine ha'.val q u ?_
    split
    ·rw [get_cons,if_neg (fun h=>hq h.symm)];exact others_get (fun h=>hq (List.mem_singleton.1 h)) hu
    ·exact others_get (fun h=>hq (List.mem_singleton.1 h)) hu
   have hVk:∀ z∈D,z.i∈U→∀ k∈z.uses,V k=(fun k=>if k=x.i then v else V k) k:=fun z hz hzU k hk=>by
    have hne:k≠x.i:=fun h=>hnone z hz hzU (by rw [← h];exact hk)
    show V k=if k=x.i then v else V k
    rw [if_neg hne]
   have hVx:restr x.uses V=restr x.uses (fun k=>if k=x.i then v else V k):=restr_congr fun k hk=>by
    have hne:k≠x.i:=fun h=>hself (by rw [← h];exact hk)
    show V k=if k=x.i then v else V k
    rw [if_neg hne]
   have hV:∀ y∈(portsD D).filter (fun y=>liveE D U y && !x.eats.contains y.id),V y.i=(fun k=>if k=x.i then v else V k) y.i∧∀ k∈y.uses,V k=(fun k=>if k=x.i then v else V k) k:=fun y hy=>by
    have hyU:U.contains y.i=true:=by
     have h1:=(List.mem_filter.1 hy).2;simp only [Bool.and_eq_true] at h1
     have:=h1.1;simp only [liveE,Bool.and_eq_true] at this
     exact this.1
    have hne:y.i≠x.i:=fun h=>by
     rw [h] at hyU;rw [hyU] at hl0;cases hl0.2
    obtain ⟨z,hz,hzi,hzu⟩:=hpu y (List.mem_filter.1 hy).1;refine ⟨by dsimp only;rw [if_neg hne],?_⟩;rw [hzu];exact hVk z hz (by rw [← hzi];exact List.contains_iff_mem.1 hyU)
   have hs2:Sat e (memsE (fun k=>if k=x.i then v else V k) ((portsD D).filter (liveE D (x.i::U)))++L0) w':=by
    refine (hs'.ent hent).ent (ent_perm ?_);rw [← List.append_assoc];refine List.Perm.append_right _ ?_;have h1:=(List.Perm.flatMap_right (f:=fun y:Port=>y.mem ((fun k=>if k=x.i then v else V k) y.i) (restr y.uses (fun k=>if k=x.i then v else V k))) hp2).symm;refine List.Perm.trans ?_ h1;rw [List.flatMap_append];rw [memsE_congr (V':=fun k=>if k=x.i then v else V k) hV];refine List.Perm.append_right _ ?_;have h3:=memsE_self (V:=fun k=>if k=x.i then v else V k) (x:=x) (v:=v) (by simp);unfold memsE at h3
    rw [h3,hVx]
   refine ⟨hS _ _ _ hs2,ih (x.i::U) (fun i hi=>List.mem_cons_of_mem _ (hIU i hi)) hU' ?_ (by rw [List.length_cons];omega) _ a' w' (fun k=>if k=x.i then v else V k) ?_ ?_ ⟨ha'.size,ha'.defers,fun q u hq=>?_⟩ ?_ hs2⟩
   ·intro j hj;rcases List.mem_cons.1 hj with rfl|hj
    ·exact List.mem_map.2 ⟨x,hx,rfl⟩
    ·exact hsub j hj
   ·intro j
    by_cases hj:x.i=j
    ·subst hj
     have hlt:x.i<l.size:=by
      have:=hl x.i;rw [hl0.1] at this
      exact (Array.getElem?_eq_some_iff.1 this).1
     rw [Array.getElem?_setIfInBounds_self_of_lt hlt,hl0.1]
     simp
    ·rw [Array.getElem?_setIfInBounds_ne hj,hl];have:(j == x.i)=false:=by simp;exact fun h=>hj h.symm
     congr 1
     funext b
     rw [List.contains_cons,this,Bool.false_or]
   ·have hmono:∀ k,l.getD k false=true→(l.setIfInBounds x.i true).getD k false=true:=fun k hk=>by
     rw [Array.getD_eq_getD_getElem?] at hk ⊢
     by_cases hj:x.i=k
     ·subst hj
      cases hq:l[x.i]? with
      | none=>rw [hq] at hk;cases hk
      | some b =>
       rw [Array.getElem?_setIfInBounds_self_of_lt (Array.getElem?_eq_some_iff.1 hq).1];rfl
     ·rw [Array.getElem?_setIfInBounds_ne hj];exact hk
    intro z hz hzU oz hoz ed hed hb;apply hmono;rcases List.mem_cons.1 hzU with hzx|hzU
    ·rw [hzx,ho] at hoz;cases hoz
     exact hall ed hed hb
    ·exact hcl z hz hzU oz hoz ed hed hb
   ·exact hkeep q u (hk0 q (List.mem_map.2 ⟨(q,u),get_mem hq,rfl⟩)) (ha.val q u hq)
   ·intro y hy hyU;rcases List.mem_cons.1 hyU with hyx|hyU
    ·have hyx2:y=x:=by
      have f1:=filter_oneE hnd hx;have:y∈D.filter (fun y=>y.i == x.i):=List.mem_filter.2 ⟨hy,by rw [hyx];exact beq_self_eq_true _⟩;rw [f1] at this
      exact List.mem_singleton.1 this
     subst hyx2;rw [if_pos rfl];exact ⟨fun hys=>ha'.val _ _ (by rw [if_pos hys,get_cons,if_pos rfl]),by rw [← hVx];exact hvok⟩
    ·have hne2:y.i≠x.i:=fun h=>hxU (h ▸ hyU)
     rw [if_neg hne2];exact ⟨fun hys=>hkeep _ _ (fun h=>hyd y hy hyU (by rw [h];exact List.mem_singleton.2 rfl)) ((hv y hy hyU).1 hys),by rw [← restr_congr (hVk y hy hyU)];exact (hv y hy hyU).2⟩
theorem A.dagE (D:List EOp) (m:Nat) (hm:D.length=m) (hB:dagEB ops l0 D=true) (hD:dagED (σ0.map (·.1)) D=true) (hok:∀ x∈D,StepE P N ops e σ0 L0 D x) (hR:Ent L0 R0)
 (k:∀ V:Nat→Value,(∀ y∈D,y.ok (V y.i) (restr y.uses V))→A P N ops T R0 n (mark l0 (D.map (·.i))) Q (slotsE V D++σ0) e (memsE V ((portsD D).filter fun p=>!D.any fun z=>z.eats.contains p.id)++L0)):A P N ops T R0 (n+m) l0 Q σ0 e L0:=fun a w ha hs=>by
 refine wpS_dagE (I:=[]) (σ0:=σ0) (L0:=L0) (S:=Held T (Sat e R0)) hB hD (fun x hx _=>hok x hx) (fun l w L h _=>h.ent ((ent_app_drop L).trans hR)) (fun a w V h1 h2 h3=>k V h1 a w h2 h3) m [] (fun i hi=>by cases hi) List.nodup_nil (fun i hi=>by cases hi) (by simpa using hm.symm) l0 a w (fun _=>undef) (fun i=>?_) (fun z hz hzU=>by cases hzU) ha (fun y hy hyU=>by cases hyU) ?_
 ·simp
 ·have:(portsD D).filter (liveE D [])=[]:=List.filter_eq_nil_iff.2 fun y hy h=>by simp [liveE] at h
  rw [this];exact hs
theorem A.dagE0 (x0:EOp) (v0:Value) (D:List EOp) (m:Nat) (hm:D.length=m) (h0:l0[x0.i]?=some true) (hB:dagEB ops (l0.setIfInBounds x0.i false) (x0::D)=true) (hD:dagED (σ0.map (·.1)) (x0::D)=true)
 (hc:(match ops[x0.i]? with|some o=>o.after.all fun ed=>!Region.binds .any ed || l0.getD ed.on false|none=>false)=true) (hok0:x0.ok v0 (restr x0.uses fun _=>v0)) (hok:∀ x∈D,StepE P N ops e σ0 L0 (x0::D) x) (he:x0.eats=[]) (hR:Ent L0 R0)
 (k:∀ V:Nat→Value,(∀ y∈x0::D,y.ok (V y.i) (restr y.uses V))→A P N ops T R0 n (mark l0 (D.map (·.i))) Q (slotsE V (x0::D)++σ0) e (memsE V ((portsD (x0::D)).filter fun p=>!(x0::D).any fun z=>z.eats.contains p.id)++L0)):A P N ops T R0 (n+m) l0 Q ((x0.d,v0)::σ0) e (x0.outs.flatMap (fun o=>o.2 v0 (restr x0.uses fun _=>v0))++L0):=fun a w ha hs=>by
 have hlt:x0.i<l0.size:=(Array.getElem?_eq_some_iff.1 h0).1
 have hset:∀ i,l0[i]?=((l0.setIfInBounds x0.i false)[i]?).map (fun b=>b || [x0.i].contains i):=fun i=>by
  by_cases hi:x0.i=i
  ·subst hi;rw [Array.getElem?_setIfInBounds_self_of_lt hlt,h0]
   simp
  ·rw [Array.getElem?_setIfInBounds_ne hi];have:[x0.i].contains i=false:=by simp;exact fun h=>hi h.symm
   rw [this]
   cases l0[i]?<;>simp
 have hB':=hB;have hD':=hD;simp only [dagEB,dagED,Bool.and_eq_true] at hB' hD'
 obtain ⟨⟨⟨⟨⟨hB1,hB2⟩,hB3⟩,hB4⟩,hB5⟩,hB6⟩:=hB';have hnd:=nodupB_spec hB2;rw [List.map_cons] at hnd
 have hnd1:=(List.nodup_cons.1 hnd).1
 have hport:(portsD (x0::D)).filter (liveE (x0::D) [x0.i])=x0.ports:=by
  rw [← ports_of (D:=x0::D) (by rw [List.map_cons];exact hnd) (List.mem_cons_self ..)];apply List.filter_congr;intro p hp;unfold liveE
  have h1:((x0::D).any fun z=>z.eats.contains p.id && [x0.i].contains z.i)=false:=List.any_eq_false.2 fun z hz h=>by
   rw [Bool.and_eq_true,List.contains_iff_mem,List.contains_iff_mem,List.mem_singleton] at h
   rcases List.mem_cons.1 hz with rfl|hz
   ·rw [he] at h;cases h.1
   ·exact hnd1 (by rw [← h.2];exact List.mem_map.2 ⟨z,hz,rfl⟩)
  rw [h1]
  cases hpi:(p.i == x0.i) with
  | true=>rw [List.contains_iff_mem.2 (by rw [List.mem_singleton];exact beq_iff_eq.1 hpi)];rfl
  | false =>
   have:[x0.i].contains p.i=false:=by
    cases hq:[x0.i].contains p.i with
    | false=>rfl
    | true=>rw [List.contains_iff_mem,List.mem_singleton] at hq;rw [hq,beq_self_eq_true] at hpi;cases hpi
   rw [this];rfl
 refine wpS_dagE (I:=[x0.i]) (D:=x0::D) (σ0:=σ0) (L0:=L0) (l0:=l0.setIfInBounds x0.i false) (S:=Held T (Sat e R0)) hB hD (fun x hx hxi=>?_) (fun l w L h _=>h.ent ((ent_app_drop L).trans hR)) (fun a w V h1 h2 h3=>?_) m [x0.i] (fun i hi=>hi) (by simp) (fun i hi=>?_) (by rw [List.length_cons,List.length_cons,List.length_nil,hm];omega) l0 a w (fun _=>v0) hset (fun z hz hzU o ho ed hed hb=>?_) ⟨ha.size,ha.defers,fun q u hq=>ha.val q u ?_⟩ (fun y hy hyU=>?_) ?_
 ·rcases List.mem_cons.1 hx with rfl|hx
  ·exact absurd (List.mem_singleton.2 rfl) hxi
  ·exact hok x hx
 ·have hm2:mark (l0.setIfInBounds x0.i false) ((x0::D).map (·.i))=mark l0 (D.map (·.i)):=by
   apply Array.ext_getElem?;intro i;rw [mark_get,mark_get,hset i,List.map_cons]
   cases (l0.setIfInBounds x0.i false)[i]? with
   | none=>rfl
   | some b =>
    simp only [Option.map_some,List.contains_cons,List.contains_nil,Bool.or_false,Bool.or_assoc]
  rw [hm2];exact k V h1 a w h2 h3
 ·rw [List.mem_singleton.1 hi,List.map_cons];exact List.mem_cons_self ..
 ·have hzx:z.i=x0.i:=List.mem_singleton.1 hzU;rw [hzx] at ho
  rw [ho] at hc
  have:=Array.all_eq_true'.1 hc ed hed
  simpa [hb] using this
 ·rw [get_cons,if_neg (fun h=>?_)]
  ·exact hq
  ·have h1:=List.all_eq_true.1 hD'.2 q (List.mem_map.2 ⟨(q,u),get_mem hq,rfl⟩);rw [← h,List.map_cons,List.contains_cons,beq_self_eq_true] at h1
   cases h1
 ·have hyx:y=x0:=by
   rcases List.mem_cons.1 hy with rfl|hy
   ·rfl
   ·exact absurd (List.mem_map.2 ⟨y,hy,List.mem_singleton.1 hyU⟩) hnd1
  subst hyx;exact ⟨fun _=>ha.val _ _ (by rw [get_cons,if_pos rfl]),hok0⟩
 ·rw [hport,memsE_self (v:=v0) rfl];exact hs
end
theorem A.exD {P:Program} {N:Fr} {ops:Array Oper} {T:List Nat} {R0:List Res} {n:Nat} {l:Array Bool} {Q:Goal} {σ:Env} {e:World} {α:Sort _} {f:α→Res} {R:List Res} (h:∀ x,A P N ops T R0 n l Q σ e (f x::R)):A P N ops T R0 n l Q σ e (Ex f::R):=fun a w ha hs=>by
 obtain ⟨x,hx⟩:=ex_out hs.2.2.2;exact h x a w ha ⟨hs.1,hs.2.1,hs.2.2.1,hx⟩
theorem A.puD {P:Program} {N:Fr} {ops:Array Oper} {T:List Nat} {R0:List Res} {n:Nat} {l:Array Bool} {Q:Goal} {σ:Env} {e:World} {p:Prop} {R:List Res} (h:p→A P N ops T R0 n l Q σ e R):A P N ops T R0 n l Q σ e (Pu p::R):=fun a w ha hs=>by
 obtain ⟨hp,hx⟩:=pu_out hs.2.2.2;exact h hp a w ha ⟨hs.1,hs.2.1,hs.2.2.1,hx⟩
end Go.Bs
namespace Go.Proofs
open Go.Bs
section
variable {P:Program} {N:Fr} {ops:Array Oper} {e:World} {σ0:Env} {L0:List Res} {D:List DOp}
theorem evs1 {σ:Env} {k:Nat} {v:Value} (h:get σ k=some v):evs σ [.tmp k]=some [v]:=by simp [evs,ev,h]
theorem Do.ent2 {o:Oper} {K:Env→List Res→Prop} {σ:Env} {L L':List Res} (f:Ent L L') (h:Do P N o K σ e L'):Do P N o K σ e L:=fun a w ha hs=>h a w ha (hs.ent f)
theorem Do.exD {o:Oper} {K:Env→List Res→Prop} {σ:Env} {α:Sort _} {f:α→Res} {R:List Res} (h:∀ x,Do P N o K σ e (f x::R)):Do P N o K σ e (Ex f::R):=fun a w ha hs=>by
 obtain ⟨x,hx⟩:=ex_out hs.2.2.2;exact h x a w ha ⟨hs.1,hs.2.1,hs.2.2.1,hx⟩
theorem Do.puD {o:Oper} {K:Env→List Res→Prop} {σ:Env} {p:Prop} {R:List Res} (h:p→Do P N o K σ e R):Do P N o K σ e (Pu p::R):=fun a w ha hs=>by
 obtain ⟨hp,hx⟩:=pu_out hs.2.2.2;exact h hp a w ha ⟨hs.1,hs.2.1,hs.2.2.1,hx⟩
theorem Do.sepD {o:Oper} {K:Env→List Res→Prop} {σ:Env} {L:List Res} {p:Prop} (f:∀ h,sepL L h→p) (h:p→Do P N o K σ e L):Do P N o K σ e L:=fun a w ha hs=>h (f _ hs.2.2.2) a w ha hs
theorem pull_mid {M L R:List Res} {A:Res} (p:Pull L A R):Pull (M++L) A (M++R):=by
 induction M with
 | nil=>exact p
 | cons _ _ ih=>exact .succ ih
end
end Go.Proofs
namespace Go.Proofs
open Go.Bs
section
variable {P:Program} {N:Fr} {ops:Array Oper} {e:World} {σ0:Env} {L0:List Res} {D:List EOp}
theorem slotB {a:Nat} (h:Nat.blt a 100000=true):a<100000:=Nat.le_of_ble_eq_true h
def ptrBlk (cs:List Value) (t:TypeId) (v:Value) (_:Nat→Value):List Res:=match v with|.pointer (some ⟨g,_,_⟩)=>[Blk g cs t (0,0)]|_=>[]
abbrev eNew (i d id t:Nat) (cs:List Value):EOp:=⟨i,d,[],[],fun v _=>∃ g,v=pt g,[(id,ptrBlk cs t)]⟩
theorem eNew_ok {i d id t ty:Nat} {z:Value} {cs:List Value} {pos:String} {af:Array Edge} {gd:Option (Nat × Bool)} [q:ZeroT P t z]
 (ho:ops[i]?=some ⟨some d,.alloc t,ty,pos,af,gd⟩) (hg:GuardOk ops σ0 ⟨some d,.alloc t,ty,pos,af,gd⟩) (hd:Nat.blt d N.n=true) (hc:z.cells=cs.toArray) (he:eatenE D (eNew i d id t cs)=[]) (hs:d<100000:=by decide):StepE P N ops e σ0 L0 D (eNew i d id t cs):=by
 refine ⟨_,ho,hg,fun V σr M h3 hy=>?_⟩;rw [he];exact Do.alloc hc hd fun g=>⟨_,by rw [if_pos hs],⟨g,rfl⟩,Ent.rfl⟩
abbrev eDone (i d id:Nat) (v:Value) (M:List Res):EOp:=⟨i,d,[],[],fun w _=>w=v,[(id,fun _ _=>M)]⟩
def litCells (el:Nat) (cs:List Value) (v:Value) (_:Nat→Value):List Res:=match v with|.slice (some ⟨g,_,_⟩) _ _=>[Blk g cs el (0,0)]|_=>[]
abbrev eLit (i d id el:Nat) (cs:List Value):EOp:=⟨i,d,[],[],fun v _=>∃ g,v=.slice (some ⟨g,0,none⟩) cs.length cs.length,[(id,litCells el cs)]⟩
theorem eLit_ok {i d id t el len by' ty:Nat} {z:Value} {cs:List Value} {parts:List (Nat × Operand)} {vs:List (Nat × Value)} {pos:String} {af:Array Edge} {gd:Option (Nat × Bool)} [s:SlT P t el 1] [j:ElT P el z 1 by']
 (ho:ops[i]?=some ⟨some d,.buildSlice t len parts.toArray,ty,pos,af,gd⟩) (hg:GuardOk ops σ0 ⟨some d,.buildSlice t len parts.toArray,ty,pos,af,gd⟩) (hd:Nat.blt d N.n=true)
 (he:eatenE D (eLit i d id el cs)=[]) (hv:∀ σr,(∀ k v,get σ0 k=some v→get σr k=some v)→evp σr parts=some vs) (hn:Nat.ble (len*1) 16777216=true) (hlen:vs.length=len) (hc:Bs.Parts 1 0 vs cs) (hz:z.cells.size=1) (hb:cs.length=len) (hs:d<100000:=by decide):StepE P N ops e σ0 L0 D (eLit i d id el cs):=by
 refine ⟨_,ho,hg,fun V σr M h3 hy=>?_⟩;rw [he];refine Do.buildSlice (hv σr h3) hd hn hlen hc hz (fun g=>⟨_,by rw [if_pos hs],⟨g,by rw [hb]⟩,?_⟩);exact Ent.rfl
abbrev eOfStr (i d id:Nat) (l:List UInt8):EOp:=⟨i,d,[],[],fun v _=>∃ ad c,v=.slice ad l.length c,[(id,fun v _=>[View 1 v l.length (l.map u8)])]⟩
theorem eOfStr_ok {i d id t T el n ty:Nat} {x:Operand} {l:List UInt8} {pos:String} {af:Array Edge} {gd:Option (Nat × Bool)} [q:SlT P t el n] [j:IntT P el .u8] [s:StrT P T]
 (ho:ops[i]?=some ⟨some d,.convert T t x,ty,pos,af,gd⟩) (hg:GuardOk ops σ0 ⟨some d,.convert T t x,ty,pos,af,gd⟩) (hd:Nat.blt d N.n=true) (he:eatenE D (eOfStr i d id l)=[])
 (h:∀ σr,(∀ k v,get σ0 k=some v→get σr k=some v)→ev σr x=some (.string (str l))) (hl:l.length≤maxLen) (hs:d<100000:=by decide):StepE P N ops e σ0 L0 D (eOfStr i d id l):=by
 refine ⟨_,ho,hg,fun V σr M h3 hy=>?_⟩;rw [he];exact Do.ofStr (h σr h3) hl hd fun ad c=>⟨_,by rw [if_pos hs],⟨ad,c,rfl⟩,Ent.rfl⟩
abbrev ePure (i d:Nat) (uses:List Nat) (v:Value):EOp:=⟨i,d,uses,[],fun w _=>w=v,[]⟩
theorem ePure_ok {i d:Nat} {uses:List Nat} {v:Value} {op:Op} {ty:TypeId} {pos:String} {af:Array Edge} {gd:Option (Nat × Bool)}
 (ho:ops[i]?=some ⟨some d,op,ty,pos,af,gd⟩) (hg:GuardOk ops σ0 ⟨some d,op,ty,pos,af,gd⟩) (hd:Nat.blt d N.n=true) (he:eatenE D (ePure i d uses v)=[])
 (h:∀ (V:Nat→Value) (σr:Env) (L:List Res),(∀ k v,get σ0 k=some v→get σr k=some v)→(∀ y∈D,y.i∈uses→y.d<100000→get σr y.d=some (V y.i)∧y.ok (V y.i) (restr y.uses V))→Ent L L0→Val P N op ty v σr e L) (hs:d<100000:=by decide):StepE P N ops e σ0 L0 D (ePure i d uses v):=by
 refine ⟨_,ho,hg,fun V σr M h3 hy=>?_⟩;rw [he];exact Do.val (h V σr _ h3 hy (by rw [show memsE V []=[] from rfl,List.nil_append];exact ent_app_drop M)) hd ⟨_,by rw [if_pos hs],rfl,Ent.rfl⟩
theorem eall_nil {p:EOp→Prop}:∀ y∈([]:List EOp),p y:=fun y h=>by cases h
theorem eall_cons {p:EOp→Prop} {x:EOp} {l:List EOp} (h:p x) (h2:∀ y∈l,p y):∀ y∈x::l,p y:=fun y hy=>by
 rcases List.mem_cons.1 hy with rfl|hy
 ·exact h
 ·exact h2 y hy
end
end Go.Proofs
namespace Go.Proofs
attribute [local irreducible] Bs.Val Bs.Do Bs.O Bs.W Bs.Fin Bs.A Bs.Ct Bs.RdSl Bs.Rd Bs.Sat Bs.Blk Bs.Ob Bs.Own Bs.View Bs.Ent Bs.Ex Bs.All Bs.Pu Bs.Base Bs.sepL Bs.RdA
open Go.Bs
open Tryz
variable (R:List Res) (e:World)
def WriterAt (g:Nat) (l:List UInt8) (ad:Option Addr) (c:Nat):Res:=All [Blk g [.slice ad l.length c] 238 (0,0),OwnB (.slice ad l.length c) l]
def Writer (g:Nat) (l:List UInt8):Res:=Ex fun ad=>Ex fun c=>WriterAt g l ad c
theorem writer_out {g:Nat} {l:List UInt8} {R:List Res} {P:Program} {f:FuncId} {args:Array Value} {e:World} {Post:Value→List Res→Prop}
 (h:∀ ad c,Ct P f args e (Blk g [.slice ad l.length c] 238 (0,0)::OwnB (.slice ad l.length c) l::R) Post):Ct P f args e (Writer g l::R) Post :=
 Ct.ex .zero fun ad=>Ct.ex .zero fun c=>(h ad c).ent all_out
theorem writer_in {g c:Nat} {ad:Option Addr} {l:List UInt8} {R:List Res}:Ent (Blk g [.slice ad l.length c] 238 (0,0)::OwnB (.slice ad l.length c) l::R) (Writer g l::R) :=
 Ent.trans (all_in (M:=[_,_])) (Ent.trans (ex_in (f:=fun c=>WriterAt g l ad c) c) (ex_in (f:=fun ad=>Ex fun c=>WriterAt g l ad c) ad))
theorem new_spec :
 Ct prog 73 #[] e R (fun v' L'=>∃ g,v'=pt g∧L'=Writer g []::R):=by
 refine Ct.enter (args:=[]) func73 rfl ntmps73 results73 rfl ?_
 (repeat (refine wA ?_;intros))
 refine Fin.ret (Writer _ []::R) rfl ?_ ⟨_,rfl,rfl⟩;exact Ent.trans (Ent.cons (own_nil tU8 1)) (writer_in (l:=[]))
theorem raw_spec (g:Nat) (l m:List UInt8) (v:Value) (h:RdB R v m) (hk:l.length+m.length≤140737488355328) :
 Ct prog 108 #[pt g,v] e (Writer g l::R) (fun v' L'=>v'=.tuple #[]∧L'=Writer g (l++m)::R):=by
 refine writer_out fun ad c=>?_
 refine Ct.enter (args:=[_,_]) func108 rfl ntmps108 results108 rfl ?_;refine wB ?_;refine O.do (Do.append rfl rfl rfl (.succ .zero) (RdSl.tail h) rfl rfl u8_one zm zo fun ad' c' hv'=>?_)
 refine wB ?_;refine Fin.stop (Writer g (l++m)::R) rfl ?_ ⟨rfl,rfl⟩;rw [← List.map_append,← List.length_append];exact Ent.trans (Ent.pull (.succ .zero) Ent.rfl) writer_in
theorem number_byte {n:Nat} {j:Nat} (hn:n<4294967296) (hj:j<4):IntKind.u8.wrap ((n:Int).fdiv (2 ^ (min (8*(j:Int)).toNat 32)))=((UInt8.ofNat (n / 256 ^ j)).toNat:Int):=by
 have h1:min (8*(j:Int)).toNat 32=8*j:=by omega
 rw [h1,Int.fdiv_eq_ediv_of_nonneg _ (by exact Int.le_of_lt (Int.pow_pos zo))];have h2:(2:Int) ^ (8*j)=((256 ^ j:Nat):Int):=by rw [Int.pow_mul];simp
 rw [h2,← Int.natCast_ediv];unfold IntKind.wrap
 simp [IntKind.bits,IntKind.signed]
theorem number_spec (g:Nat) (l:List UInt8) (n size:Nat) (hn:n<4294967296) (hs:size≤4) (hk:l.length+size≤140737488355328) :
 Ct prog 148 #[pt g,.int .u32 n,.int .i64 size] e (Writer g l::R) (fun v' L'=>v'=.tuple #[]∧L'=Writer g (l++be n size)::R):=by
 refine writer_out fun ad c=>?_
 refine Ct.enter (args:=[_,_,_]) func148 rfl ntmps148 results148 rfl ?_;refine wB ?_;refine W.loop (ι:=Nat × List UInt8 × Option Addr × Nat) (fun i=>[(0,pt g),(1,.int .u32 n),(6,.int .i64 ((i.1:Int) - 1))])
  (fun i=>Blk g [.slice i.2.2.1 (l++i.2.1).length i.2.2.2] 238 (0,0)::OwnB (.slice i.2.2.1 (l++i.2.1).length i.2.2.2) (l++i.2.1)::R)
  (fun i=>i.1≤size∧i.2.1++be n i.1=be n size) (fun i=>i.1) (size,[],ad,c) ⟨Nat.le_refl _,rfl⟩ (sub_cons rfl (sub_cons rfl (sub_cons rfl sub_nil))) (by simp only [List.append_nil];exact Ent.rfl) ?_
 rintro ⟨j,done,ad,c⟩ ⟨hj,hd⟩;dsimp only at hj hd ⊢
 have hl:done.length+j=size:=by have:=congrArg List.length hd;simpa [be_length] using this
 cases j with
 | zero =>
  refine wB ?_;simp only [be,List.append_nil] at hd
  subst hd;exact Fin.stop _ rfl (writer_in (l:=_++_)) ⟨rfl,rfl⟩
 | succ j =>
  have e1:((j+1:Nat):Int) - 1=(j:Int):=by omega
  simp only [e1];refine wB ?_;refine A.begin [12,13,14] [Blk g [.slice ad (l++done).length c] 238 (0,0)] mixed ?_;refine tM 0 ?_;refine tM 1 ?_;refine tN 2 ?_;refine tF 3 ?_;refine tL 4 ?_;refine tM 5 ?_;refine tM 6 ?_;refine tk 7 _ rfl (Val.mul64 rfl rfl zo) ?_;refine tk 8 _ rfl (Val.shr rfl rfl zo) ?_;refine tk 9 _ rfl (Val.convInt rfl) ?_;refine tO 10 ?_;refine Do.buildSlice rfl rfl (by rfl) (by rfl) zQ (by rfl) (fun g'=>⟨fun _=>zE,?_⟩);refine tO 11 ?_;have hb:=number_byte (j:=j) hn zo;refine Do.append (m:=1) (ys:=[u8 (UInt8.ofNat (n / 256 ^ j))]) rfl rfl rfl (.succ (.succ .zero)) ?_ rfl rfl (by simp [u8,Value.oneCell']) (by simp only [maxLen];simp;omega) (by simp;omega) (fun ad' c' hv'=>⟨fun _=>zE,?_⟩)
  ·exact (RdSl.blk .zero rfl zl).cast (congrArg (fun x=>[Value.int .u8 x]) hb)
  refine tO 12 ?_;refine dV (Val.nilCheck rfl) ?_;refine tO 13 ?_;refine dV (Val.fieldAddr rfl) ?_;refine tO 14 ?_;refine Do.store rfl rfl rfl zU .zero ⟨zN,?_⟩;refine A.done zK ?_;refine wB ?_;refine Fin.round (j,done++[UInt8.ofNat (n / 256 ^ j)],ad',c') ?_ ?_ ?_ ?_
  ·exact ⟨by dsimp only;omega,by simpa [be] using hd⟩
  ·exact Nat.lt_succ_self j
  ·exact sub_cons rfl (sub_cons rfl (sub_cons rfl sub_nil))
  ·have e2:(l++(done++[UInt8.ofNat (n / 256 ^ j)])).length=(l++done).length+1:=by simp;omega
   have e3:(l++(done++[UInt8.ofNat (n / 256 ^ j)])).map u8=List.map u8 (l++done)++[u8 (UInt8.ofNat (n / 256 ^ j))]:=by simp
   dsimp only;rw [OwnB,e2,e3];exact zE
theorem byte_spec (g:Nat) (l:List UInt8) (b:UInt8) (hk:l.length+1≤140737488355328) :
 Ct prog 121 #[pt g,u8 b] e (Writer g l::R) (fun v' L'=>v'=.tuple #[]∧L'=Writer g (l++[b])::R):=by
 refine Ct.enter (args:=[_,_]) func121 rfl ntmps121 results121 rfl ?_;have hb:b.toNat<256:=b.toNat_lt;refine wB ?_;refine O.do (Do.call rfl rfl (number_spec R e g l b.toNat 1 zo zo hk) ?_)
 rintro _ _ ⟨rfl,rfl⟩
 (repeat (refine wA ?_;intros))
 refine Fin.stop _ rfl Ent.rfl ⟨rfl,?_⟩
 simp [be]
theorem num_spec (g:Nat) (l:List UInt8) (n:Nat) (hn:n<4294967296) (hk:l.length+4≤140737488355328) :
 Ct prog 74 #[pt g,.int .u32 n] e (Writer g l::R) (fun v' L'=>v'=.tuple #[]∧L'=Writer g (l++be n 4)::R):=by
 refine Ct.enter (args:=[_,_]) func74 rfl ntmps74 results74 rfl ?_;refine wB ?_;refine O.do (Do.call rfl rfl (number_spec R e g l n 4 zo zo hk) ?_)
 rintro _ _ ⟨rfl,rfl⟩
 (repeat (refine wA ?_;intros))
 exact Fin.stop _ rfl Ent.rfl ⟨rfl,rfl⟩
theorem bytes_spec (g:Nat) (l m:List UInt8) (v:Value) (h:RdB R v m) (hk:l.length+m.length+2≤140737488355328) (hm:m.length≤65535) :
 Ct prog 120 #[pt g,v] e (Writer g l::R) (fun v' L'=>v'=.bool true∧L'=Writer g (l++be m.length 2++m)::R):=by
 refine Ct.of_sep ((RdB.tail h).shape zo) ?_;rintro ⟨⟨ad,cap,rfl,h3,h4,h5,h6⟩,_⟩;refine Ct.enter (args:=[_,_]) func120 rfl ntmps120 results120 rfl ?_;refine wB ?_;refine O.do (Do.call rfl rfl (number_spec R e g l m.length 2 zo zo zo) ?_)
 rintro _ _ ⟨rfl,rfl⟩;refine wB ?_;refine O.do (Do.call rfl rfl (raw_spec R e g _ m _ h (by simp [be_length];omega)) ?_)
 rintro _ _ ⟨rfl,rfl⟩;refine wB ?_;exact Fin.ret _ rfl Ent.rfl ⟨rfl,rfl⟩
theorem bytes_long (g:Nat) (l m:List UInt8) (v:Value) (h:RdB R v m) (hm:65535<m.length) :
 Ct prog 120 #[pt g,v] e (Writer g l::R) (fun v' L'=>v'=.bool false∧L'=Writer g l::R):=by
 refine Ct.of_sep ((RdB.tail h).shape zo) ?_;rintro ⟨⟨ad,cap,rfl,h3,h4,h5,h6⟩,_⟩;refine Ct.enter (args:=[_,_]) func120 rfl ntmps120 results120 rfl ?_;refine wB ?_;exact Fin.ret _ rfl Ent.rfl ⟨rfl,rfl⟩
theorem done_spec (g:Nat) (l:List UInt8) (hk:l.length≤140737488355328) :
 Ct prog 77 #[pt g] e (Writer g l::R) (fun v' L'=>∃ ad c,v'=.slice ad l.length c∧L'=OwnB (.slice ad l.length c) l::Writer g l::R):=by
 refine writer_out fun ad c=>?_
 refine Ct.enter (args:=[_]) func77 rfl ntmps77 results77 rfl ?_;refine wB ?_;refine O.do (Do.call rfl rfl (clone_spec _ e _ l (RdSl.own (.succ .zero)) hk) ?_)
 rintro _ _ ⟨ad',c',rfl,rfl⟩;refine wB ?_;exact Fin.ret _ rfl (Ent.cons writer_in) ⟨_,_,rfl,rfl⟩
def ReaderAt (g:Nat) (s:RSt) (ad:Option Addr) (c:Nat):Res:=All [Blk g [.slice ad s.left.length c,.bool s.bad] 289 (0,0),View 1 (.slice ad s.left.length c) s.left.length (s.left.map u8)]
def Reader (g:Nat) (s:RSt):Res:=Ex fun ad=>Ex fun c=>ReaderAt g s ad c
theorem reader_out {g:Nat} {s:RSt} {R:List Res} {P:Program} {f:FuncId} {args:Array Value} {e:World} {Post:Value→List Res→Prop}
 (h:∀ ad c,Ct P f args e (Blk g [.slice ad s.left.length c,.bool s.bad] 289 (0,0)::View 1 (.slice ad s.left.length c) s.left.length (s.left.map u8)::R) Post):Ct P f args e (Reader g s::R) Post :=
 Ct.ex .zero fun ad=>Ct.ex .zero fun c=>(h ad c).ent all_out
theorem reader_in {g c:Nat} {ad:Option Addr} {s:RSt} {R:List Res}:Ent (Blk g [.slice ad s.left.length c,.bool s.bad] 289 (0,0)::View 1 (.slice ad s.left.length c) s.left.length (s.left.map u8)::R) (Reader g s::R) :=
 Ent.trans (all_in (M:=[_,_])) (Ent.trans (ex_in (f:=fun c=>ReaderAt g s ad c) c) (ex_in (f:=fun ad=>Ex fun c=>ReaderAt g s ad c) ad))
theorem view_nil {n:Nat} {L:List Res}:Ent L (View n nY 0 []::L):=(own_nil 0 n).trans own_view
theorem read_spec (v:Value) (l:List UInt8) (h:RdB R v l) (hk:l.length≤140737488355328) :
 Ct prog 127 #[v] e R (fun v' L'=>∃ g,v'=pt g∧L'=Reader g ⟨l,false⟩::R):=by
 refine Ct.enter (args:=[_]) func127 rfl ntmps127 results127 rfl ?_;refine wB ?_;refine O.call rfl rfl (clone_spec R e v l h hk) ?_;rintro _ _ ⟨ad,c,rfl,rfl⟩
 (repeat (refine wA ?_;intros))
 exact Fin.ret _ rfl ((Ent.cons own_view).trans (reader_in (s:=⟨l,false⟩))) ⟨_,rfl,rfl⟩
theorem take_yes (g:Nat) (s:RSt) (n:Int) (hf:s.fits n=true) :
 Ct prog 211 #[pt g,.int .i64 n] e (Reader g s::R) (fun v' L'=>∃ ad c,v'=.slice ad n.toNat c ∧
  L'=Blk g [.slice (cutAt ad c n.toNat 1) (s.left.length - n.toNat) (c - n.toNat),.bool false] 289 (0,0)::View 1 (.slice ad s.left.length c) s.left.length (s.left.map u8)::R):=by
 obtain ⟨l,bad⟩:=s;simp only [RSt.fits,Bool.and_eq_true,Bool.not_eq_true',decide_eq_true_eq] at hf
 obtain ⟨⟨rfl,h0⟩,h1⟩:=hf;refine reader_out fun ad c=>?_
 refine Ct.of_sep (RdSl.shape (RdSl.view (.succ .zero)) zo) ?_;rintro ⟨⟨ad',c',hv,h3,h4,h5,h6⟩,_⟩
 cases hv
 dsimp only at h1 h3 ⊢
 refine Ct.enter (args:=[_,_]) func211 rfl ntmps211 results211 rfl ?_;refine wB ?_;exact Fin.ret _ rfl Ent.rfl ⟨_,_,rfl,rfl⟩
theorem take_no (g:Nat) (s:RSt) (n:Int) (hf:s.fits n=false) :
 Ct prog 211 #[pt g,.int .i64 n] e (Reader g s::R) (fun v' L'=>v'=nY∧L'=Reader g ⟨[],true⟩::R):=by
 obtain ⟨l,bad⟩:=s;refine reader_out fun ad c=>?_
 dsimp only;refine Ct.enter (args:=[_,_]) func211 rfl ntmps211 results211 rfl ?_
 cases bad with
 | true =>
  refine wB ?_;exact Fin.ret _ rfl ((Ent.cons (Ent.drop view_nil)).trans (reader_in (s:=⟨[],true⟩))) ⟨rfl,rfl⟩
 | false =>
  simp only [RSt.fits,Bool.not_false,Bool.true_and,Bool.and_eq_false_iff,decide_eq_false_iff_not] at hf
  by_cases h0:n<0
  ·refine wB ?_;exact Fin.ret _ rfl ((Ent.cons (Ent.drop view_nil)).trans (reader_in (s:=⟨[],true⟩))) ⟨rfl,rfl⟩
  ·refine wB ?_;exact Fin.ret _ rfl ((Ent.cons (Ent.drop view_nil)).trans (reader_in (s:=⟨[],true⟩))) ⟨rfl,rfl⟩
theorem view_next {g c:Nat} {ad:Option Addr} {l:List UInt8} {k:Nat} {R:List Res} (h:k≤l.length) :
 Ent (Blk g [.slice (cutAt ad c k 1) (l.length - k) (c - k),.bool false] 289 (0,0)::View 1 (.slice ad l.length c) l.length (l.map u8)::R) (Reader g ⟨l.drop k,false⟩::R):=by
 refine (Ent.cons (view_cutLo h)).trans ?_;have e1:(l.drop k).length=l.length - k:=by simp
 have e2:(l.map u8).drop (k*1)=(l.drop k).map u8:=by simp
 rw [e2,← e1];exact reader_in (s:=⟨l.drop k,false⟩)
theorem or_byte (m c:Nat) (hc:c<256):Go.bits .or .u32 (IntKind.u32.wrap ((m:Int)*2 ^ (min (8:Int).toNat 32))) (IntKind.u32.wrap (c:Int))=(((m*256) % 4294967296+c:Nat):Int):=by
 rw [wrap_u32 (n:=(c:Int)) zo zo]
 have e0:IntKind.u32.wrap ((m:Int)*2 ^ (min (8:Int).toNat 32))=(((m*256) % 4294967296:Nat):Int):=by
  have:(2:Int) ^ (min (8:Int).toNat 32)=256:=by decide
  rw [this];unfold IntKind.wrap
  simp [IntKind.bits,IntKind.signed]
 rw [e0];have e1:m*256 % 4294967296=2 ^ 8*(m % 16777216):=by omega
 unfold Go.bits;simp only [IntKind.bits]
 have e2:(BitVec.ofInt 32 ((m*256 % 4294967296:Nat):Int) ||| BitVec.ofInt 32 (c:Int)).toNat=m*256 % 4294967296+c:=by
  rw [BitVec.toNat_or,BitVec.ofInt_natCast,BitVec.ofInt_natCast,BitVec.toNat_ofNat,BitVec.toNat_ofNat];rw [Nat.mod_eq_of_lt (show m*256 % 4294967296<2 ^ 32 by omega),Nat.mod_eq_of_lt (show c<2 ^ 32 by omega),e1];exact (Nat.two_pow_add_eq_or_of_lt zo _).symm
 exact (congrArg (fun x:Nat=>IntKind.u32.wrap (x:Int)) e2).trans (wrap_u32 zo zo)
theorem rnumber_spec (g:Nat) (s:RSt) (n:Nat) :
 Ct prog 210 #[pt g,.int .i64 n] e (Reader g s::R) (fun v' L'=>v'=.int .u32 (s.num n)∧L'=Reader g (s.next n)::R):=by
 refine Ct.enter (args:=[_,_]) func210 rfl ntmps210 results210 rfl ?_;refine wB ?_
 cases hf:s.fits n with
 | false =>
  refine O.call rfl rfl (take_no R e g s n hf) ?_;rintro _ _ ⟨rfl,rfl⟩;refine wB ?_;refine W.loop (ι:=Unit) (fun _=>[(5,.int .u32 0),(11,.int .i64 0),(12,.int .i64 0)]) (fun _=>Reader g ⟨[],true⟩::R) (fun _=>True) (fun _=>0) () trivial (sub_cons rfl (sub_cons rfl (sub_cons rfl sub_nil))) Ent.rfl ?_;intro _ _;refine wB ?_;refine Fin.ret _ rfl Ent.rfl ⟨?_,?_⟩
  ·simp [tup,RSt.num,RSt.take,hf,numOf]
  ·simp [RSt.next,hf]
 | true =>
  refine O.call rfl rfl (take_yes R e g s n hf) ?_;rintro _ _ ⟨ad,c,rfl,rfl⟩
  have hn:n≤s.left.length:=by
   simp only [RSt.fits,Bool.and_eq_true,decide_eq_true_eq] at hf
   omega
  obtain ⟨l,bad⟩:=s;dsimp only at hn
  simp only [Int.toNat_natCast]
  generalize hB:View 1 (.slice ad l.length c) l.length (l.map u8)=B
  have hrd:∀ A,RdB (A::B::R) (.slice ad n c) (l.take n):=fun A=>by
   subst hB;exact RdB.cutHi (RdSl.view (.succ .zero)) hn
  have hlen:(l.take n).length=n:=by simp;omega
  refine wB ?_;refine W.of_sep (RdSl.shape (hrd _) zo) ?_;rintro ⟨⟨ad',c',hv,h3,h4,h5,h6⟩,_⟩;rw [hlen] at hv h3 h6
  cases hv
  simp only [maxLen] at h4
  refine W.loop (ι:=Nat) (fun i=>[(5,.int .u32 (numOf (l.take i))),(10,.slice ad n c),(11,.int .i64 n),(12,.int .i64 i)])
   (fun _=>Blk g [.slice (cutAt ad c n 1) (l.length - n) (c - n),.bool false] 289 (0,0)::B::R) (fun i=>i≤n) (fun i=>n - i) 0 (Nat.zero_le _) (sub_cons rfl (sub_cons rfl (sub_cons rfl (sub_cons rfl sub_nil)))) Ent.rfl ?_
  intro i hi
  by_cases hlt:i<n
  ·have hc:=(l[i]'zo).toNat_lt;rcases h6 with h6|⟨gb,ob,rfl⟩
   ·omega
   have hcell:=RdB.elem (hrd (Blk g [.slice (cutAt (some ⟨gb,ob,none⟩) c n 1) (l.length - n) (c - n),.bool false] 289 (0,0))) (j:=i) (b:=l[i]'zo) (by simp [hlt]);refine wB ?_
   have e5:numOf (l.take (i+1))=(numOf (l.take i)*256) % 4294967296+(l[i]'zo).toNat:=by
    rw [List.take_succ_eq_append_getElem zo,numOf_snoc]
   refine Fin.round (i+1) ?_ ?_ (sub_cons ?_ (sub_cons rfl (sub_cons rfl (sub_cons rfl sub_nil)))) Ent.rfl
   ·exact hlt
   ·show n - (i+1)<n - i
    omega
   ·rw [e5];rw [← or_byte (numOf (l.take i)) _ hc,wrap_u32 (n:=((l[i]'zo).toNat:Int)) zo zo]
    rfl
  ·have hin:i=n:=by omega
   subst hin;refine wB ?_;subst hB;refine Fin.ret _ rfl (view_next hn) ⟨?_,?_⟩
   ·simp [tup,RSt.num,RSt.take,hf]
   ·simp [RSt.next,hf]
theorem rnum_spec (g:Nat) (s:RSt) :
 Ct prog 130 #[pt g] e (Reader g s::R) (fun v' L'=>v'=.int .u32 (s.num 4)∧L'=Reader g (s.next 4)::R):=by
 refine Ct.enter (args:=[_]) func130 rfl ntmps130 results130 rfl ?_;refine wB ?_;refine O.call rfl rfl (rnumber_spec R e g s 4) ?_;rintro _ _ ⟨rfl,rfl⟩;refine wB ?_;exact Fin.ret _ rfl Ent.rfl ⟨rfl,rfl⟩
theorem numOf_one (l:List UInt8) (h:l.length≤1):numOf l<256:=by
 match l,h with
 | [],_=>simp [numOf]
 | [c],_=>have:=c.toNat_lt;simp [numOf];omega
theorem rbyte_spec (g:Nat) (s:RSt) :
 Ct prog 128 #[pt g] e (Reader g s::R) (fun v' L'=>v'=.int .u8 (s.num 1)∧L'=Reader g (s.next 1)::R):=by
 refine Ct.enter (args:=[_]) func128 rfl ntmps128 results128 rfl ?_
 have h1:s.num ((1:Nat):Int)<256:=numOf_one _ (by
  unfold RSt.take
  split
  ·simp;omega
  ·exact Nat.zero_le _)
 refine wB ?_;refine O.call rfl rfl (rnumber_spec R e g s 1) ?_;rintro _ _ ⟨rfl,rfl⟩;refine wB ?_;refine Fin.ret _ rfl Ent.rfl ⟨?_,rfl⟩
 rfl
theorem rraw_spec (g:Nat) (s:RSt) (n:Int) (hk:s.left.length≤140737488355328) :
 Ct prog 131 #[pt g,.int .i64 n] e (Reader g s::R) (fun v' L'=>∃ ad c,v'=.slice ad (s.take n).length c∧L'=OwnB (.slice ad (s.take n).length c) (s.take n)::Reader g (s.next n)::R):=by
 refine Ct.enter (args:=[_,_]) func131 rfl ntmps131 results131 rfl ?_;refine wB ?_
 cases hf:s.fits n with
 | false =>
  refine O.call rfl rfl (take_no R e g s n hf) ?_;rintro _ _ ⟨rfl,rfl⟩;refine wB ?_;refine O.call rfl rfl (clone_spec _ e _ [] (RdB.nil _) (Nat.zero_le _)) ?_;rintro _ _ ⟨ad,c,rfl,rfl⟩;refine wB ?_;have e1:s.take n=[]:=by simp [RSt.take,hf]
  have e2:s.next n=⟨[],true⟩:=by simp [RSt.next,hf]
  exact Fin.ret _ rfl Ent.rfl ⟨ad,c,by rw [e1];rfl,by rw [e1,e2]⟩
 | true =>
  refine O.call rfl rfl (take_yes R e g s n hf) ?_;rintro _ _ ⟨ad,c,rfl,rfl⟩
  have hn:n.toNat≤s.left.length:=by
   simp only [RSt.fits,Bool.and_eq_true,decide_eq_true_eq] at hf
   omega
  have e1:s.take n=s.left.take n.toNat:=by simp [RSt.take,hf]
  have e2:s.next n=⟨s.left.drop n.toNat,false⟩:=by simp [RSt.next,hf]
  refine wB ?_;refine O.call rfl rfl (clone_spec _ e _ (s.left.take n.toNat) (RdB.cutHi (RdSl.view (.succ .zero)) hn) (by simp;omega)) ?_;rintro _ _ ⟨ad',c',rfl,rfl⟩;refine wB ?_;exact Fin.ret _ rfl (Ent.cons (view_next hn)) ⟨ad',c',by rw [e1];rfl,by rw [e1,e2]⟩
theorem rbytes_spec (g:Nat) (s:RSt) (most:Int) (hk:s.left.length≤140737488355328) :
 Ct prog 129 #[pt g,.int .i64 most] e (Reader g s::R) (fun v' L'=>∃ ad c,v'=.slice ad (s.bytes most).length c∧L'=OwnB (.slice ad (s.bytes most).length c) (s.bytes most)::Reader g (s.nextB most)::R):=by
 refine Ct.enter (args:=[_,_]) func129 rfl ntmps129 results129 rfl ?_;have h2:=numOf_lt (s.take 2);have h3:=s.next_length 2;refine wB ?_;refine O.call rfl rfl (rnumber_spec R e g s 2) ?_;rintro _ _ ⟨rfl,rfl⟩;have e1:IntKind.i64.wrap ((s.num 2:Nat):Int)=s.num 2:=wrap_i64 zo (by unfold RSt.num;omega);have e2:((2:Nat):Int)=2:=rfl;simp only [e2];have h4:s.num 2<4294967296:=h2
 by_cases hm:(s.num 2:Int) > max most 0
 ·have hl:s.len most = -1:=by simp only [RSt.len,if_pos hm]
  have hm':(if (0:Int) > most then 0 else most)<(s.num 2:Int):=by split<;>omega
  refine wB ?_;refine O.call rfl rfl (rraw_spec R e g _ (-1) zo) ?_;rintro _ _ ⟨ad,c,rfl,rfl⟩;refine wB ?_;exact Fin.ret _ rfl Ent.rfl ⟨ad,c,by simp only [RSt.bytes,hl];rfl,by simp only [RSt.bytes,RSt.nextB,hl]⟩
 ·have hl:s.len most=s.num 2:=by simp only [RSt.len,if_neg hm]
  have hm':¬ (if (0:Int) > most then 0 else most)<(s.num 2:Int):=by split<;>omega
  refine wB ?_;refine O.call rfl rfl (rraw_spec R e g _ (s.num 2) zo) ?_;rintro _ _ ⟨ad,c,rfl,rfl⟩;refine wB ?_;exact Fin.ret _ rfl Ent.rfl ⟨ad,c,by simp only [RSt.bytes,hl];rfl,by simp only [RSt.bytes,RSt.nextB,hl]⟩
theorem rbad_spec (g:Nat) (s:RSt) :
 Ct prog 145 #[pt g] e (Reader g s::R) (fun v' L'=>v'=.bool s.bad∧L'=Reader g s::R):=by
 refine reader_out fun ad c=>?_
 refine Ct.enter (args:=[_]) func145 rfl ntmps145 results145 rfl ?_;refine wB ?_;exact Fin.ret _ rfl reader_in ⟨rfl,rfl⟩
theorem rleft_spec (g:Nat) (s:RSt) :
 Ct prog 140 #[pt g] e (Reader g s::R) (fun v' L'=>v'=.int .i64 s.left.length∧L'=Reader g s::R):=by
 refine reader_out fun ad c=>?_
 refine Ct.enter (args:=[_]) func140 rfl ntmps140 results140 rfl ?_;refine wB ?_;exact Fin.ret _ rfl reader_in ⟨rfl,rfl⟩
theorem rend_spec (g:Nat) (s:RSt) :
 Ct prog 132 #[pt g] e (Reader g s::R) (fun v' L'=>v'=.bool (!s.bad && decide (s.left=[]))∧L'=Reader g s::R):=by
 obtain ⟨l,bad⟩:=s;refine reader_out fun ad c=>?_
 refine Ct.enter (args:=[_]) func132 rfl ntmps132 results132 rfl ?_;dsimp only
 cases bad with
 | true =>
  refine wB ?_;exact Fin.ret _ rfl (reader_in (s:=⟨l,true⟩)) ⟨rfl,rfl⟩
 | false =>
  cases l with
  | nil =>
   have h0:(([]:List UInt8).length:Int)=0:=rfl;refine wB ?_;exact Fin.ret _ rfl (reader_in (s:=⟨_,false⟩)) ⟨rfl,rfl⟩
  | cons x l =>
   have h0:¬ (((x::l).length:Int)=0):=by simp;omega
   refine wB ?_;exact Fin.ret _ rfl (reader_in (s:=⟨_,false⟩)) ⟨rfl,rfl⟩
theorem rnumB (g n:Nat) (r:List UInt8) (hn:n<4294967296) :
 Ct prog 130 #[pt g] e (Reader g ⟨be n 4++r,false⟩::R) (fun v' L'=>v'=.int .u32 n∧L'=Reader g ⟨r,false⟩::R):=by
 have h:=rnum_spec R e g ⟨be n 4++r,false⟩;have h2:=take_fits (a:=be n 4) (rest:=r);rw [be_length] at h2
 unfold RSt.num at h
 rw [show ((4:Nat):Int)=4 from rfl] at h2
 rw [h2.1,h2.2,numOf_be4 n hn] at h
 exact h
theorem rbyteB (g:Nat) (b:UInt8) (r:List UInt8) :
 Ct prog 128 #[pt g] e (Reader g ⟨b::r,false⟩::R) (fun v' L'=>v'=u8 b∧L'=Reader g ⟨r,false⟩::R):=by
 have h:=rbyte_spec R e g ⟨b::r,false⟩;have h2:=take_fits (a:=[b]) (rest:=r);unfold RSt.num at h
 have e1:RSt.take ⟨b::r,false⟩ 1=[b]:=h2.1;have e2:RSt.next ⟨b::r,false⟩ 1=⟨r,false⟩:=h2.2;rw [e1,e2,show numOf [b]=b.toNat by simp [numOf]] at h
 exact h
theorem rrawB (g n:Nat) (x r:List UInt8) (hn:x.length=n) (hk:(x++r).length≤140737488355328) :
 Ct prog 131 #[pt g,.int .i64 (n:Int)] e (Reader g ⟨x++r,false⟩::R) (fun v' L'=>∃ ad c,v'=.slice ad x.length c∧L'=OwnB (.slice ad x.length c) x::Reader g ⟨r,false⟩::R):=by
 subst hn;have h:=rraw_spec R e g ⟨x++r,false⟩ (x.length:Int) hk;have h2:=take_fits (a:=x) (rest:=r);rw [h2.1,h2.2] at h
 exact h
theorem rbytesB (g:Nat) (x r:List UInt8) (most:Int) (hx:x.length≤65535) (hm:(x.length:Int)≤most) (hk:(enc x++r).length≤140737488355328) :
 Ct prog 129 #[pt g,.int .i64 most] e (Reader g ⟨enc x++r,false⟩::R) (fun v' L'=>∃ ad c,v'=.slice ad x.length c∧L'=OwnB (.slice ad x.length c) x::Reader g ⟨r,false⟩::R):=by
 have h:=rbytes_spec R e g ⟨enc x++r,false⟩ most hk;have h2:=bytes_enc x r most hx zo;rw [h2.1,h2.2] at h
 exact h
theorem rendB (g:Nat) (l:List UInt8) :
 Ct prog 132 #[pt g] e (Reader g ⟨l,false⟩::R) (fun v' L'=>v'=.bool (decide (l=[]))∧L'=Reader g ⟨l,false⟩::R):=by
 have h:=rend_spec R e g ⟨l,false⟩;exact h
end Go.Proofs
namespace Go.Bs
def Fw (ro:Option Nat):Fence:={ Fence.wide with round:=ro }
theorem callsIn_fw {ro:Option Nat} {n:Nat} {P:Program} {f:FuncId} {args:Array Value} {w:World} {R:Ending→World→Prop} (h:Calls P f args w R):CallsIn (Fw ro) n P f args w R:=by
 have h1:=(callsIn_wide (n:=n)).2 h
 cases ro with
 | none=>exact h1
 | some l=>exact h1
theorem rowsIn_fw {ro:Option Nat} {n:Nat} {P:Program} {row:String} {args:Array Value} {w:World} {R:Value→World→Prop} (h:Rows P row args w R):RowsIn (Fw ro) n P row args w R:=fun c cs _=>by
 obtain ⟨v,w',r,s⟩:=h c cs;exact ⟨v,w',r,by have:=stepsIn_wide.2 s;cases ro<;>exact this⟩
def noDefer:Op→Bool
 | .defer _=>false
 | _=>true
theorem wpIn_of_wp {ro:Option Nat} {P:Program} {o:Oper} {a:Act} {w:World} {next:Act→World→Prop} {Q:Exit→Act→World→Prop} (hd:noDefer o.op=true) (h:o.wp P a w next Q):o.wpIn (Fw ro) 0 P a w next Q:=by
 refine ⟨fun _ _=>trivial,?_⟩;rw [Oper.semAt_eq _ _ _ (fun c hc=>by rw [hc] at hd;cases hd)];unfold Oper.wp at h
 cases hr:(execOp a.eval o).run P w with
 | ok x w' =>
  rw [hr] at h
  cases x with
  | value v=>exact h
  | skip=>exact h
  | defer d=>exact h
  | enter f args=>exact ⟨fun h=>by cases ro<;>simp [Fw,Fence.wide] at h,callsIn_fw h⟩
  | row r args=>exact ⟨fun h=>by cases ro<;>simp [Fw,Fence.wide] at h,rowsIn_fw h⟩
  | _=>exact h.elim
 | halt x w' =>
  rw [hr] at h
  cases x with
  | panic v=>exact h
  | _=>exact h.elim
def OI (ro:Option Nat) (P:Program) (N:Fr) (all:Array Oper) (l:List Oper) (Q:Goal) (σ:Env) (e:World) (L:List Res):Prop:=∀ a w,Has N σ a→Sat e L w→wpListIn (Fw ro) 0 P all (WQ N Q) l a w
def WI (ro:Option Nat) (P:Program) (N:Fr) (c:Code) (Q:Goal) (σ:Env) (e:World) (L:List Res):Prop:=∀ a w,Has N σ a→Sat e L w→c.wpIn (Fw ro) 0 P (WQ N Q) a w
section
variable {P:Program} {N:Fr} {Q:Goal} {σ:Env} {e:World} {L:List Res} {all:Array Oper} {rest:List Oper} {ro:Option Nat}
variable {d:Nat} {op:Op} {ty:TypeId} {pos:String} {af:Array Edge} {x:Operand}
theorem W.ofIn {c:Code} (h:WI none P N c Q σ e L):W P N c Q σ e L:=fun a w ha hs=>wpIn_wide.1 (h a w ha hs)
theorem WI.region {id:Nat} {l:List Oper} (h:OI ro P N l.toArray l Q σ e L):WI ro P N (.region id l.toArray false) Q σ e L:=fun a w ha hs=>wpIn_region_lit (h a w ha hs)
theorem WI.block {id:Nat} {c:Code} (h:WI ro P N c (blockQ id Q) σ e L):WI ro P N (.block id c) Q σ e L:=fun a w ha hs =>
 wpIn_block (Go.wpIn_mono (h a w ha hs) fun x a w q=>by
  cases x with
  | exit i =>
   obtain ⟨σ',h1,h2⟩:=q;simp only [Exit.inBlock];simp only [blockQ] at h2
   split
   ·rename_i e;rw [if_pos e] at h2;exact ⟨σ',h1,h2⟩
   ·rename_i e;rw [if_neg e] at h2;exact ⟨σ',h1,h2⟩
  | _=>exact q)
theorem WI.code {c c':Code} (h:c=c') (k:WI ro P N c' Q σ e L):WI ro P N c Q σ e L:=h ▸ k
theorem OI.nil (h:Fin Q .normal σ e L):OI ro P N all [] Q σ e L:=fun _ w ha hs=>⟨σ,ha,h w hs⟩
theorem OI.do {dst:Option Tmp} (hn:noDefer op=true) (h:Do P N ⟨dst,op,ty,pos,af,none⟩ (fun σ' L'=>OI ro P N all rest Q σ' e L') σ e L):OI ro P N all (⟨dst,op,ty,pos,af,none⟩::rest) Q σ e L :=
 fun a w ha hs=>wpListIn_plain rfl fun K hK=>wpIn_of_wp hn (h a w ha hs K _ fun _ _ a' w' ho ha' hs'=>hK a' w' (ho a' w' ha' hs'))
theorem OI.val (v:Value) (hn:noDefer op=true) (h:Val P N op ty v σ e L) (hd:Nat.blt d N.n=true) (k:OI ro P N all rest Q ((d,v)::σ) e L):OI ro P N all (⟨some d,op,ty,pos,af,none⟩::rest) Q σ e L :=
 OI.do hn (Do.val h hd k)
def Rt (P:Program) (l:Nat) (args:Array Value) (e:World) (L:List Res) (Post:Value→List Res→Prop):Prop:=∀ w,Sat e L w→YieldAt Fence.wide 0 P l args w (CtPost e Post)
theorem OI.yield {l:Nat} {xs:List Operand} {vs:List Value} {ats:Array TypeId} {Post:Value→List Res→Prop} (hf:ev σ x=some (.func (.yield l) #[] #[])) (hx:evs σ xs=some vs) (hd:Nat.blt d N.n=true) (h:Rt P l vs.toArray e L Post)
 (k:∀ v L',Post v L'→OI none P N all rest Q ((d,v)::σ) e L'):OI none P N all (⟨some d,.call { callee:=.value x,args:=xs.toArray,argTypes:=ats },ty,pos,af,none⟩::rest) Q σ e L:=fun a w ha hs =>
 wpListIn_plain rfl fun K hK=>by
  refine ⟨fun _ _=>trivial,?_⟩;obtain ⟨fn,tmps,assign,body,hy,hR⟩:=h w hs
  have h1:(execOp a.eval ⟨some d,.call { callee:=.value x,args:=xs.toArray,argTypes:=ats },ty,pos,af,none⟩).run P w=.ok (.round l fn tmps assign body) w:=by
   have h2:(#[]++xs.toArray.map a.eval:Array Value)=vs.toArray:=by simp [ha.evs hx]
   simp only [execOp,resolve,ha.ev hf,Deferred.ofValue,Sem.run_bind,Sem.run_pure,Result.andThen_ok,invoke];rw [h2];exact hy
  rw [show (Fw none).round=none from rfl,Oper.semAt_none,h1,Oper.uponIn_round];refine ⟨fun h=>by simp [Fw,Fence.wide] at h,hR.mono ?_⟩;rintro _ w' ⟨v,L',rfl,hp,hs'⟩;exact hK _ _ (k v L' hp _ _ (ha.put hd v) hs')
def Lp (l:Nat) (r:Loop):Res:=Ob l (.loop r)
def Df (D:Nat):Res:=Ob D (.deferred (some []))
theorem Sat.put {o o':Obj} {g:Nat} {R:List Res} {w:World} (h:Sat e (Ob g o::R) w):Sat e (Ob g o'::R) (w.putObj g o'):=by
 have hg:w.heap[g]?=some o:=by
  obtain ⟨h1,h2,_,b,_,hA,_⟩:=h.2.2.2;exact b g _ hA
 have hlt:g<w.heap.size:=(Array.getElem?_eq_some_iff.1 hg).1;refine h.change rfl rfl rfl fun h1 hle hA=>?_
 refine ⟨fun b=>if b=g then some o' else none,?_,by simp [Ob],?_,?_⟩
 ·intro b o2 hb
  by_cases eb:b=g
  ·subst eb;simp only [if_true] at hb;rw [← hb];exact World.putObj_heap_same hlt
  ·simp [eb] at hb
 ·intro b o2 hb hn
  by_cases eb:b=g
  ·subst eb;rw [show h1 b=_ from hA] at hn;cases hn
  ·simp [eb] at hb
 ·intro b hn o2 ho;have:b≠g:=by rintro rfl;rw [show h1 b=_ from hA] at hn;cases hn
  exact (World.putObj_heap_other this).trans ho
theorem Sat.obj {o:Obj} {g:Nat} {R:List Res} {w:World} (h:Sat e (Ob g o::R) w):w.heap[g]?=some o:=by
 obtain ⟨h1,h2,_,b,_,hA,_⟩:=h.2.2.2;exact b g _ hA
def QR (e:World) (l:Nat) (r:Loop) (L2:List Res):Goal:=fun x σ w=>x=.normal∧Sat e (Lp l { r with state:=.busy }::L2) w
theorem Fin.endR {l:Nat} {r:Loop} {L2:List Res} (h:Ent L (Lp l { r with state:=.busy }::L2)):Fin (QR e l r L2) .normal σ e L:=fun w hs=>⟨rfl,hs.ent h⟩
def QA (P:Program) (N:Fr) (l:Nat) (r:Loop) (e:World) (Q:Goal):Goal:=fun x σ w=>x=.normal∧∃ L,Sat e (Lp l r::L) w∧WI (some l) P N r.body Q σ e (Lp l { r with state:=.busy }::L)
theorem Fin.endA {l:Nat} {r:Loop} {L':List Res} (h:Ent L (Lp l r::L')) (hb:WI (some l) P N r.body Q σ e (Lp l { r with state:=.busy }::L')):Fin (QA P N l r e Q) .normal σ e L:=fun w hs=>⟨rfl,L',hs.ent h,hb⟩
theorem Rt.mk {l p:Nat} {r:Loop} {v:Value} {L2:List Res} (hst:r.state=.ready) (hpe:r.pending=none) (hpa:r.params=#[p]) (hp:Nat.blt p N.n=true) (hN:N.ds=[]) (hr:Has N σ { tmps:=r.tmps,defers:=[] })
 (h:WI (some l) P N r.assign (QA P N l r e (QR e l r L2)) ((p,v)::σ) e (Lp l r::L)):Rt P l #[v] e (Lp l r::L) (fun v' L'=>v'=.bool true∧L'=Lp l r::L2):=fun w hs=>by
 have hl:=hs.obj;refine ⟨_,_,_,_,run_yield hl (by rw [hpa];rfl),roundIn_of_wpIn trivial ?_⟩;have hh:=hr.put hp v;have ht:((r.params.zip #[v]).foldl (fun tmps (t,a)=>tmps.setIfInBounds t a) r.tmps)=r.tmps.setIfInBounds p v:=by rw [hpa];simp
 rw [ht];refine Go.wpIn_mono (h _ w hh hs) fun x a1 w1 q=>?_
 cases x with
 | normal =>
  obtain ⟨σ1,h1,_,L',hs1,hb⟩:=q;have hl1:=hs1.obj;refine ⟨_,run_beginRound hl1 hst,?_⟩;refine Go.wpIn_mono (hb a1 _ h1 hs1.put) fun x a2 w2 q=>?_
  cases x with
  | normal =>
   obtain ⟨σ2,h2,_,hs2⟩:=q;have hl2:=hs2.obj;refine ⟨_,_,run_endRound none hl2,.bool true,_,rfl,⟨rfl,rfl⟩,?_⟩;have h3:=hs2.put (o':=.loop r)
   have h4:({ { r with state:=.busy } with state:=if (none:Option Code).isNone then .ready else .done,pending:=none }:Loop)=r:=by
    cases r;simp at hst hpe;subst hst hpe;rfl
   rw [h4];exact h3
  | panic _=>exact q.elim
  | outgrown=>exact q.elim
  | _=>obtain ⟨_,_,h2,_⟩:=q;cases h2
 | panic _=>exact q.elim
 | outgrown=>exact q.elim
 | _=>obtain ⟨_,_,h2,_⟩:=q;cases h2
def WM (P:Program) (fn:Func) (N:Nat) (c:Code) (Post:Value→List Res→Prop) (σ:Env) (e:World) (L:List Res):Prop :=
 ∀ a w,Has ⟨N,[]⟩ σ a→Sat e L w→c.wp P (bodyPostM Fence.wide 0 P fn (CtPost e Post)) a w
def NextM (P:Program) (fn:Func) (N:Nat) (y:Code) (Post:Value→List Res→Prop) (e:World):Env→World→Prop:=fun σ w=>∀ a,Has ⟨N,[]⟩ σ a→y.wp P (bodyPostM Fence.wide 0 P fn (CtPost e Post)) a w
def NoQ:Goal:=fun _ _ _=>False
theorem WM.seq {fn:Func} {n:Nat} {x y:Code} {Post:Value→List Res→Prop} (h:W P ⟨n,[]⟩ x (thenQ (NextM P fn n y Post e) NoQ) σ e L):WM P fn n (.seq x y) Post σ e L:=fun a w ha hs =>
 wp_seq (Code.wp_mono (fun x a w q=>by
  cases x with
  | normal=>exact q.elim fun σ' h=>h.2 a h.1
  | panic _=>exact q.elim
  | outgrown=>exact q.elim
  | _=>obtain ⟨_,_,h2⟩:=q;exact h2.elim) (h a w ha hs))
theorem Fin.nextM {fn:Func} {n:Nat} {y:Code} {Post:Value→List Res→Prop} (h:WM P fn n y Post σ e L):Fin (thenQ (NextM P fn n y Post e) Q) .normal σ e L:=fun w hs a ha=>h a w ha hs
theorem Ct.enterM {f:FuncId} {fn:Func} {c:Code} {n:Nat} {args:List Value} {Post:Value→List Res→Prop}
 (hf:P.funcs[f]?=some fn) (hb:fn.body=some c) (hN:fn.ntmps=n) (hle:Nat.ble args.length n=true)
 (h:WM P fn n c Post (argsEnv 0 args) e L):Ct P f args.toArray e L Post:=by
 subst hN;intro w hs;have hle:=Nat.le_of_ble_eq_true hle;refine (callsIn_wide (n:=0)).1 (callsIn_of_wp_marks hf hb trivial (wpIn_wide.2 (h _ w ⟨by simp;omega,rfl,fun k v hk=>?_⟩ hs)));have h1:=(get_argsEnv args 0 k v hk).2;have hlt:k<args.length:=(List.getElem?_eq_some_iff.1 h1).1;rw [Array.getElem?_append_left (by simpa using hlt)]
 simpa using h1
def mk (D:Nat):Deferred:={ target:=.collected D,args:=#[] }
def PostM (D:Nat) (Post:Value→List Res→Prop):Value→List Res→Prop:=fun v L'=>∃ L1,L'=Df D::L1∧Post v L1
theorem endM {fn:Func} {rs:Array ResultVar} {n D:Nat} {Post:Value→List Res→Prop} (hr:fn.results=rs) {x:Exit} {a:Act} {w:World} (q:WQ ⟨n,[mk D]⟩ (BodyQ rs (CtPost e (PostM D Post))) x a w):bodyPostM Fence.wide 0 P fn (CtPost e Post) x a w:=by
 subst hr
 have key:∀ σ',Has ⟨n,[mk D]⟩ σ' a→(∃ vs,retvs σ' fn.results.toList=some vs∧CtPost e (PostM D Post) (.returned (tup vs)) w)→LeavesInM Fence.wide 0 P fn a.tmps (CtPost e Post) a.defers .returning w:=fun σ' h1 ⟨vs,h2,v,L',h3,⟨L1,h4,h5⟩,h6⟩=>by
  cases h3
  subst h4;rw [h1.defers];refine ⟨by simp,.inl ⟨D,_,rfl,run_takeDeferred h6.obj,?_⟩⟩;exact ⟨_,run_results h1 h2,_,L1,rfl,h5,h6.put.ent (Ent.drop Ent.rfl)⟩
 cases x with
 | normal=>obtain ⟨σ',h1,h2⟩:=q;exact key σ' h1 h2
 | ret=>obtain ⟨σ',h1,h2⟩:=q;exact key σ' h1 h2
 | panic _=>exact q.elim
 | outgrown=>exact q.elim
 | exit _=>obtain ⟨_,_,h2⟩:=q;exact h2.elim
 | goto _=>obtain ⟨_,_,h2⟩:=q;exact h2.elim
def EndQ (P:Program) (fn:Func) (Post:Value→List Res→Prop) (e:World):Exit→Act→World→Prop:=bodyPostM Fence.wide 0 P fn (CtPost e Post)
def WB (P:Program) (fn:Func) (n:Nat) (c y:Code) (Post:Value→List Res→Prop) (σ:Env) (e:World) (L:List Res):Prop :=
 ∀ a w,Has ⟨n,[]⟩ σ a→Sat e L w→c.wp P (Exit.then (y.wp P (EndQ P fn Post e)) (EndQ P fn Post e)) a w
def NextB (P:Program) (fn:Func) (n:Nat) (c y:Code) (Post:Value→List Res→Prop) (e:World):Env→World→Prop:=fun σ w=>∀ a,Has ⟨n,[]⟩ σ a→c.wp P (Exit.then (y.wp P (EndQ P fn Post e)) (EndQ P fn Post e)) a w
theorem Fin.nextB {fn:Func} {n:Nat} {c y:Code} {Post:Value→List Res→Prop} (h:WB P fn n c y Post σ e L):Fin (thenQ (NextB P fn n c y Post e) Q) .normal σ e L:=fun w hs a ha=>h a w ha hs
theorem WM.seqB {fn:Func} {n:Nat} {x b y:Code} {Post:Value→List Res→Prop} (h:W P ⟨n,[]⟩ x (thenQ (NextB P fn n b y Post e) NoQ) σ e L):WM P fn n (.seq (.seq x b) y) Post σ e L:=fun a w ha hs =>
 wp_seq (wp_seq (Code.wp_mono (fun x a w q=>by
  cases x with
  | normal=>exact q.elim fun σ' h=>h.2 a h.1
  | panic _=>exact q.elim
  | outgrown=>exact q.elim
  | _=>obtain ⟨_,_,h2⟩:=q;exact h2.elim) (h a w ha hs)))
theorem WB.range {fn:Func} {n id:Nat} {g:Operand} {ps:Array Tmp} {assign body y:Code} {gf gf':FuncId} {lb:List Value} {rs:Array ResultVar} {Post:Value→List Res→Prop} [i:CallT P gf gf']
 (hrs:fn.results=rs) (hg:ev σ g=some (.func (.func gf) #[] lb.toArray)) (M:List Res)
 (hit:∀ (l D:Nat) (r:Loop),r.state=.ready→r.pending=none→r.params=ps→r.assign=assign→r.body=body→Has ⟨n,[]⟩ σ { tmps:=r.tmps,defers:=[] } →
  Ct P gf' (.func (.yield l) #[] #[]::lb).toArray e (Lp l r::Df D::L) (fun _ L'=>L'=Lp l r::Df D::M))
 (hy:∀ D,W P ⟨n,[mk D]⟩ y (BodyQ rs (CtPost e (PostM D Post))) σ e (Df D::M)) :
 WB P fn n (.block id (.rangeFunc g ps assign body)) y Post σ e L:=fun a w ha hs=>by
 refine wp_block (wpIn_wide (n:=0) |>.1 (wpIn_rangeFunc fun f0 _=>?_));obtain ⟨r,hr⟩:∃ r:Loop,r={ state:=.ready,pending:=none,fn:=f0,tmps:=a.tmps,params:=ps,assign:=assign,body:=body,defers:=w.heap.size }:=⟨_,rfl⟩
 have hs1:Sat e (Lp (w.heap.size+1) r::Df w.heap.size::L) ((w.alloc (.deferred (some []))).alloc (.loop r)):=by
  have h1:=(hs.alloc (.deferred (some []))).alloc (.loop r)
  rwa [World.size_alloc] at h1
 refine ⟨w.heap.size+1,[mk w.heap.size],(w.alloc (.deferred (some []))).alloc (.loop r),{ target:=.fn (.func gf) lb.toArray,args:=#[.func (.yield (w.heap.size+1)) #[] #[]] },(w.alloc (.deferred (some []))).alloc (.loop r),gf',(Value.func (.yield (w.heap.size+1)) #[] #[]::lb).toArray,(w.alloc (.deferred (some []))).alloc (.loop r),?_,?_,fun _ _=>trivial,?_,fun h=>by simp [Fence.wide] at h,?_⟩
 ·rw [hr];exact run_enterLoop_outer _ _ _ _ _
 ·simp only [resolve,ha.ev hg,Deferred.ofValue,Sem.run_pure]
  simp [Act.eval]
 ·simp only [invoke];have h2:(#[Value.func (.yield (w.heap.size+1)) #[] #[]]++lb.toArray:Array Value)=(.func (.yield (w.heap.size+1)) #[] #[]::lb).toArray:=by simp
  rw [h2,i.run]
 ·refine callsIn_wide.2 ((hit (w.heap.size+1) w.heap.size r (by rw [hr]) (by rw [hr]) (by rw [hr]) (by rw [hr]) (by rw [hr]) ⟨by rw [hr];exact ha.size,rfl,fun k v hk=>by rw [hr];exact ha.val k v hk⟩ _ hs1).mono ?_);rintro _ w' ⟨v,L',rfl,rfl,hs'⟩;refine ⟨none,w'.putObj (w.heap.size+1) (.loop { r with state:=.exhausted }),?_,?_⟩
  ·have:=run_endLoop (P:=P) hs'.obj (by rw [hr];simp);rw [this];rw [show r.pending=none by rw [hr]]
  ·have h3:=hs'.put (o':=.loop { r with state:=.exhausted });have h4:=hy w.heap.size { a with defers:=[mk w.heap.size]++a.defers } _ ⟨ha.size,by rw [ha.defers];rfl,ha.val⟩ (h3.ent (Ent.drop Ent.rfl));exact Code.wp_mono (fun x a w q=>endM hrs q) h4
end
end Go.Bs
namespace Go.Bs
def rotr (x:UInt32) (n:Nat):UInt32:=(x >>> UInt32.ofNat n) ||| (x <<< UInt32.ofNat (32 - n))
structure S8 where
 a:UInt32
 b:UInt32
 c:UInt32
 d:UInt32
 e:UInt32
 f:UInt32
 g:UInt32
 h:UInt32
def S8.list (s:S8):List UInt32:=[s.a,s.b,s.c,s.d,s.e,s.f,s.g,s.h]
def S8.cells (s:S8):List Value:=[u32v s.a,u32v s.b,u32v s.c,u32v s.d,u32v s.e,u32v s.f,u32v s.g,u32v s.h]
theorem S8.cells_eq (s:S8):s.cells=s.list.map u32v:=rfl
def bs0 (a:UInt32):UInt32:=rotr a 2 ^^^ rotr a 13 ^^^ rotr a 22
def bs1 (e:UInt32):UInt32:=rotr e 6 ^^^ rotr e 11 ^^^ rotr e 25
def ss0 (x:UInt32):UInt32:=rotr x 7 ^^^ rotr x 18 ^^^ (x >>> UInt32.ofNat (Int.toNat 3))
def ss1 (x:UInt32):UInt32:=rotr x 17 ^^^ rotr x 19 ^^^ (x >>> UInt32.ofNat (Int.toNat 10))
def chP (e f g:UInt32):UInt32:=(e &&& f) ^^^ ((~~~e) &&& g)
def majP (a b c:UInt32):UInt32:=(a &&& b) ^^^ (a &&& c) ^^^ (b &&& c)
def rndX (s:S8) (k w:UInt32):UInt32:=s.h+bs1 s.e+chP s.e s.f s.g+k+w
def rnd (s:S8) (k w:UInt32):S8:=⟨rndX s k w+bs0 s.a+majP s.a s.b s.c,s.a,s.b,s.c,s.d+rndX s k w,s.e,s.f,s.g⟩
def kw:List UInt32:=[1116352408,1899447441,3049323471,3921009573,961987163,1508970993,2453635748,2870763221,3624381080,310598401,607225278,1426881987,1925078388,2162078206,2614888103,3248222580,3835390401,4022224774,264347078,604807628,770255983,1249150122,1555081692,1996064986,2554220882,2821834349,2952996808,3210313671,3336571891,3584528711,113926993,338241895,666307205,773529912,1294757372,1396182291,1695183700,1986661051,2177026350,2456956037,2730485921,2820302411,3259730800,3345764771,3516065817,3600352804,4094571909,275423344,430227734,506948616,659060556,883997877,958139571,1322822218,1537002063,1747873779,1955562222,2024104815,2227730452,2361852424,2428436474,2756734187,3204031479,3329325298]
def wd (b:List UInt8) (i:Nat):UInt32 :=
 ((((b.getD (4*i) 0).toUInt32 <<< UInt32.ofNat (Int.toNat 24)) ||| ((b.getD (4*i+1) 0).toUInt32 <<< UInt32.ofNat (Int.toNat 16))) ||| ((b.getD (4*i+2) 0).toUInt32 <<< UInt32.ofNat (Int.toNat 8))) ||| (b.getD (4*i+3) 0).toUInt32
def nxt (l:List UInt32):UInt32:=l.getD (l.length - 16) 0+ss0 (l.getD (l.length - 15) 0)+l.getD (l.length - 7) 0+ss1 (l.getD (l.length - 2) 0)
def sched (b:List UInt8):Nat→List UInt32
 | 0=>(List.range 16).map (wd b)
 | n+1=>sched b n++[nxt (sched b n)]
theorem sched_length (b:List UInt8):∀ n,(sched b n).length=16+n
 | 0=>by simp [sched]
 | n+1=>by simp [sched,sched_length b n];omega
def rnds (s:S8) (ws:List UInt32):Nat→S8
 | 0=>s
 | n+1=>rnd (rnds s ws n) (kw.getD n 0) (ws.getD n 0)
def S8.add (s t:S8):S8:=⟨s.a+t.a,s.b+t.b,s.c+t.c,s.d+t.d,s.e+t.e,s.f+t.f,s.g+t.g,s.h+t.h⟩
def blockP (h:S8) (b:List UInt8):S8:=h.add (rnds h (sched b 48) 64)
def foldB (h:S8) (l:List UInt8):S8:=if h0:l.length<64 then h else foldB (blockP h (l.take 64)) (l.drop 64)
 termination_by l.length
 decreasing_by rw [List.length_drop];omega
theorem foldB_end {h:S8} {l:List UInt8} (h0:l.length<64):foldB h l=h:=by rw [foldB,dif_pos h0]
theorem foldB_step {h:S8} {l:List UInt8} (h0:64≤l.length):foldB h l=foldB (blockP h (l.take 64)) (l.drop 64):=by
 rw [foldB,dif_neg (by omega)]
def h0P:S8:=⟨1779033703,3144134277,1013904242,2773480762,1359893119,2600822924,528734635,1541459225⟩
def zs (n:Nat):Nat:=(119 - n % 64) % 64
def len8 (n:Nat):List UInt8:=be (n*8) 8
def padT (n:Nat):List UInt8:=128::(List.replicate (zs n) 0++len8 n)
def outW (x:UInt32):List UInt8:=[(x >>> UInt32.ofNat (Int.toNat 24)).toUInt8,(x >>> UInt32.ofNat (Int.toNat 16)).toUInt8,(x >>> UInt32.ofNat (Int.toNat 8)).toUInt8,x.toUInt8]
def outP (s:S8):List UInt8:=s.list.flatMap outW
def sha (b:List UInt8):List UInt8:=outP (foldB h0P (b++padT b.length))
theorem sha_length (b:List UInt8):(sha b).length=32:=rfl
theorem wd_step (c0 c1 c2 c3:UInt8) :
 ((
  ((((((0:UInt32) <<< UInt32.ofNat (Int.toNat 8)) ||| c0.toUInt32) <<< UInt32.ofNat (Int.toNat 8)) ||| c1.toUInt32) <<< UInt32.ofNat (Int.toNat 8)) ||| c2.toUInt32) <<< UInt32.ofNat (Int.toNat 8)) ||| c3.toUInt32 =
  (((c0.toUInt32 <<< UInt32.ofNat (Int.toNat 24)) ||| (c1.toUInt32 <<< UInt32.ofNat (Int.toNat 16))) ||| (c2.toUInt32 <<< UInt32.ofNat (Int.toNat 8))) ||| c3.toUInt32:=by
 have e8:UInt32.ofNat (Int.toNat 8)=8:=rfl;have e16:UInt32.ofNat (Int.toNat 16)=16:=rfl;have e24:UInt32.ofNat (Int.toNat 24)=24:=rfl;rw [e8,e16,e24];have z:(0:UInt32) <<< 8=0:=rfl
 have s1:∀ x:UInt32,x <<< 8 <<< 8=x <<< 16:=fun x=>by
  apply UInt32.eq_of_toBitVec_eq
  simp [← BitVec.shiftLeft_add]
 have s2:∀ x:UInt32,x <<< 16 <<< 8=x <<< 24:=fun x=>by
  apply UInt32.eq_of_toBitVec_eq
  simp [← BitVec.shiftLeft_add]
 have d:∀ x y:UInt32,(x ||| y) <<< 8=x <<< 8 ||| y <<< 8:=fun x y=>by
  apply UInt32.eq_of_toBitVec_eq
  simp [BitVec.shiftLeft_or_distrib]
 rw [z,UInt32.zero_or,d,d,s1,d,s1,s2]
end Go.Bs
namespace Go.Proofs
attribute [local irreducible] Bs.Val Bs.Do Bs.O Bs.W Bs.Fin Bs.A Bs.Ct Bs.RdSl Bs.Rd Bs.Sat Bs.Blk Bs.Ob Bs.Own Bs.View Bs.Ent Bs.Ex Bs.All Bs.Pu Bs.Base Bs.sepL Bs.RdA
open Go.Bs
open Tryz
variable (R:List Res) (e:World)
theorem and31 (n:Nat) (h:0<n) (h2:n<32):Go.bits .and .u64 (IntKind.u64.wrap (IntKind.i64.wrap (0 - (n:Int)))) 31=((32 - n:Nat):Int):=by
 have:∀ m:Fin 32,0<m.1→Go.bits .and .u64 (IntKind.u64.wrap (IntKind.i64.wrap (0 - (m.1:Int)))) 31=((32 - m.1:Nat):Int):=by decide +kernel
 exact this ⟨n,h2⟩ h
theorem sub32 (n:Nat) (h:0<n) (h2:n<32):IntKind.u64.wrap (32 - ((32 - n:Nat):Int))=(n:Int):=by
 have:∀ m:Fin 32,0<m.1→IntKind.u64.wrap (32 - ((32 - m.1:Nat):Int))=(m.1:Int):=by decide +kernel
 exact this ⟨n,h2⟩ h
theorem rot_spec (x:UInt32) (n:Nat) (h:0<n) (h2:n<32) :
 Ct prog 302 #[u32v x,.int .i64 (IntKind.i64.wrap (0 - (n:Int)))] e R (fun v' L'=>v'=u32v (rotr x n)∧R=L'):=by
 refine Ct.enter (args:=[_,_]) func302 rfl ntmps302 results302 rfl ?_;have h3:=and31 n h h2;have h4:=sub32 n h h2
 (repeat' first|(apply O.shlU;exact rfl;exact rfl;(rw [h3];omega);exact rfl)|(apply O.shrU;exact rfl;exact rfl;(rw [h3,h4];omega);exact rfl)|refine YV ?_|refine Za ?_|refine Zb ?_|apply Zc|apply Zd|apply Ze|apply Zf|refine ZV ?_|refine ZZ ?_|refine Z2 ?_|apply YE)
 refine Fin.ret _ rfl Ent.rfl ⟨?_,rfl⟩
 show u32v _=u32v _
 rw [h3,h4,Int.toNat_natCast,Int.toNat_natCast,UInt32.or_comm]
 rfl
theorem right_spec (x:UInt32) (n:Nat) (h:0<n) (h2:n<32) :
 Ct prog 276 #[u32v x,.int .i64 (n:Int)] e R (fun v' L'=>v'=u32v (rotr x n)∧R=L'):=by
 refine Ct.enter (args:=[_,_]) func276 rfl ntmps276 results276 rfl ?_
 (repeat' first|(apply O.neg;exact rfl;exact rfl)|refine Za ?_|refine Zb ?_|apply Zc|apply Zd|apply Ze|apply Zf)
 refine O.call rfl rfl (rot_spec R e x n h h2) ?_;rintro _ _ ⟨rfl,rfl⟩;refine wB ?_;exact Fin.ret _ rfl Ent.rfl ⟨rfl,rfl⟩
theorem setAts_all:∀ {pre cs vs:List Value},cs.length=vs.length→SetAts (pre++cs) pre.length vs (pre++vs)
 | pre,[],[],_=>by rw [List.append_nil];exact .nil
 | pre,c::cs,v::vs,h=>by
  have h1:SetAt (pre++c::cs) pre.length v (pre++v::cs):=by
   have:=SetAt.of (l:=pre++c::cs) (n:=pre.length) v (by simp)
   simpa using this
  have h2:=setAts_all (pre:=pre++[v]) (cs:=cs) (vs:=vs) (by simpa using h);rw [List.append_assoc,List.append_assoc,List.length_append] at h2
  exact .cons h1 h2
 | _,[],_::_,h=>by cases h
 | _,_::_,[],h=>by cases h
theorem setAts_whole {cs vs:List Value} (h:cs.length=vs.length):SetAts cs 0 vs vs:=setAts_all (pre:=[]) h
theorem keys_spec :
 Ct prog 229 #[] e R (fun v' L'=>v'=.agg (kw.map u32v).toArray∧R=L'):=by
 refine Ct.enterC (args:=[]) func229 rfl ntmps229 results229 rfl ?_
 (repeat' first|(refine O.alloc (cs:=(List.replicate 64 (0:UInt32)).map u32v) rfl rfl ?_;intro _)|apply Zc|apply Zd|apply Ze|apply Zf)
 refine O.buildArr (cs:=kw.map u32v) rfl rfl rfl zQ rfl ?_;refine O.storeAgg rfl rfl rfl (u32v_one _) .zero (setAts_whole rfl) ?_;refine wB ?_;apply Fin.retC;exact zV;exact ⟨R,zE,rfl,rfl⟩
def accW (b:List UInt8) (i:Nat):Nat→UInt32
 | 0=>0
 | j+1=>(accW b i j <<< UInt32.ofNat (Int.toNat 8)) ||| (b.getD (4*i+j) 0).toUInt32
theorem accW_4 (b:List UInt8) (i:Nat):accW b i 4=wd b i:=wd_step _ _ _ _
theorem w16_succ (b:List UInt8) (i:Nat):(List.range (i+1)).map (wd b)=(List.range i).map (wd b)++[wd b i]:=by rw [List.range_succ,List.map_append];rfl
theorem set_mid {α:Type} {pre post:List α} {x y:α} {i:Nat} (h:pre.length=i):(pre++x::post).set i y=pre++y::post:=by
 subst h;simp
theorem setAt_mid {pre post:List UInt32} {x y:UInt32} {i:Nat} (h:pre.length=i):SetAt ((pre++x::post).map u32v) i (u32v y) ((pre++y::post).map u32v):=by
 have h1:=SetAt.of (l:=(pre++x::post).map u32v) (n:=i) (u32v y) (by simp;omega);rw [← List.map_set,set_mid h] at h1
 exact h1
theorem rd_mid {pre post:List UInt32} {x:UInt32} {i g T o:Nat} {fz:Nat × Nat} {L R:List Res} (h:pre.length=i) (p:Pull L (Blk g ((pre++x::post).map u32v) T fz) R) (ho:o=i):Rd L ⟨g,o,none⟩ (u32v x):=by
 subst ho;exact Rd.blk p (by rw [nth_eq,List.getElem?_map,List.getElem?_append_right zo,h,Nat.sub_self];rfl)
theorem rd_at {l:List UInt32} {i g T o:Nat} {fz:Nat × Nat} {L R:List Res} (h:i<l.length) (p:Pull L (Blk g (l.map u32v) T fz) R) (ho:o=i):Rd L ⟨g,o,none⟩ (u32v (l.getD i 0)):=by
 subst ho;exact Rd.blk p (by rw [nth_eq,List.getElem?_map,List.getElem?_eq_getElem h,List.getD_eq_getElem?_getD,List.getElem?_eq_getElem h];rfl)
theorem cut_slice {gl ol cap k:Nat} (h:k<cap):cutAt (some ⟨gl,ol,none⟩) cap k 1=some ⟨gl,ol+k,none⟩:=by
 unfold cutAt;rw [if_neg zo]
 simp [Addr.add]
set_option maxHeartbeats 1000000 in
theorem spread_spec (v:Value) (b:List UInt8) (hv:RdB R v b) (hb:b.length=64) :
 Ct prog 275 #[v] e R (fun v' L'=>v'=.agg ((sched b 48).map u32v).toArray∧R=L'):=by
 refine Ct.of_sep (hv.shape zo) ?_;rintro ⟨⟨ad,cap,rfl,h3,h4,h5,h6⟩,_⟩;simp only [maxLen] at h4
 rcases h6 with h6|⟨gl,ol,rfl⟩
 ·omega
 refine Ct.enterC (args:=[_]) func275 rfl ntmps275 results275 rfl ?_
 (repeat' first|(refine O.alloc (cs:=(List.replicate 64 (0:UInt32)).map u32v) rfl rfl ?_;intro _)|refine Za ?_|apply Zc|apply Zd|apply Ze|apply Zf|apply YB)
 rename_i g2 g3;refine W.loop (ι:=Nat) (fun i=>[(0,.slice (some ⟨gl,ol,none⟩) b.length cap),(2,pt g2),(3,pt g3),(12,.int .i64 (i:Int))])
  (fun i=>Blk g3 (((List.range i).map (wd b)++List.replicate (64 - i) 0).map u32v) 297 (0,0)::Blk g2 ((List.replicate 64 (0:UInt32)).map u32v) 297 (0,0)::R) (fun i=>i≤16) (fun i=>16 - i) 0 (Nat.zero_le _) (sub_cons rfl (sub_cons rfl (sub_cons rfl (sub_cons rfl sub_nil)))) Ent.rfl ?_
 intro i hi
 by_cases hlt:i<16
 ·have hrep:List.replicate (64 - i) (0:UInt32)=0::List.replicate (63 - i) 0:=by rw [show 64 - i=(63 - i)+1 by omega,List.replicate_succ]
  have hpre:((List.range i).map (wd b)).length=i:=by simp
  have hw16:=w16_succ b i;rw [hrep]
  generalize (List.range i).map (wd b)=pre at *
  have hcut:=cut_slice (gl:=gl) (ol:=ol) (cap:=cap) (k:=4*i) zo;have e1:(4*(i:Int)).toNat=4*i:=by omega
  have e2:(4*(i:Int)+4).toNat - 4*i=4:=by omega
  refine wB ?_;rw [e1,e2,hcut];refine W.loop (ι:=Nat) (fun j=>[(23,.int .i64 (j:Int)),(22,.int .i64 (4:Int)),(21,.slice (some ⟨gl,ol+4*i,none⟩) 4 (cap - 4*i)),(4,.int .i64 (i:Int)),(0,.slice (some ⟨gl,ol,none⟩) b.length cap),(2,pt g2),(3,pt g3),(12,.int .i64 (i:Int))])
   (fun j=>Blk g3 ((pre++accW b i j::List.replicate (63 - i) 0).map u32v) 297 (0,0)::Blk g2 ((List.replicate 64 (0:UInt32)).map u32v) 297 (0,0)::R) (fun j=>j≤4) (fun j=>4 - j) 0 (Nat.zero_le _) (sub_cons rfl (sub_cons rfl (sub_cons rfl (sub_cons rfl (sub_cons rfl (sub_cons rfl (sub_cons rfl (sub_cons rfl sub_nil)))))))) Ent.rfl ?_
  intro j hj
  by_cases hjt:j<4
  ·have hbi:4*i+j<b.length:=by omega
   have hr:Rd R ⟨gl,ol+4*i+j,none⟩ (u8 (b.getD (4*i+j) 0)):=by
    have:=hv.elem (j:=4*i+j) (b:=b.getD (4*i+j) 0) (by rw [List.getD_eq_getElem?_getD,List.getElem?_eq_getElem hbi];rfl);rw [← Nat.add_assoc] at this
    exact this
   have hr3:Rd (Blk g3 ((pre++accW b i j::List.replicate (63 - i) 0).map u32v) 297 (0,0)::Blk g2 ((List.replicate 64 (0:UInt32)).map u32v) 297 (0,0)::R) ⟨g3,0+i,none⟩ (u32v (accW b i j)):=rd_mid hpre .zero (Nat.zero_add _);have hacc:accW b i (j+1)=(accW b i j <<< UInt32.ofNat (Int.toNat 8)) ||| (b.getD (4*i+j) 0).toUInt32:=rfl
   generalize accW b i j=x at *
   generalize b.getD (4*i+j) 0=c at *
   (repeat' first|refine YV ?_|refine YX ?_|refine Y1 ?_|refine Y2 ?_|refine Za ?_|refine Zb ?_|apply Zc|apply Zd|apply Ze|apply Zf|refine Zi ?_|refine ZA ?_|refine Yw ?_|refine Yz ?_|apply YB|apply YC)
   refine O.do (Do.store rfl rfl rfl .zero (by rw [Nat.zero_add];exact setAt_mid hpre) ?_)
   refine wB ?_;exact Fin.round (j+1) hjt zo (sub_cons rfl (sub_cons rfl (sub_cons rfl (sub_cons rfl (sub_cons rfl (sub_cons rfl (sub_cons rfl (sub_cons rfl sub_nil)))))))) (by rw [hacc];exact Ent.rfl)
  obtain rfl:j=4:=by omega
  rw [accW_4];refine wB ?_;refine Fin.round (i+1) hlt zo (sub_cons rfl (sub_cons rfl (sub_cons rfl (sub_cons rfl sub_nil)))) ?_;rw [hw16,List.append_assoc,show 64 - (i+1)=63 - i by omega];exact Ent.rfl
 obtain rfl:i=16:=by omega
 refine wB ?_;refine W.loop (ι:=Nat) (fun n=>[(7,.int .i64 ((n+16:Nat):Int)),(2,pt g2),(3,pt g3)])
  (fun n=>Blk g3 ((sched b n++List.replicate (48 - n) 0).map u32v) 297 (0,0)::Blk g2 ((List.replicate 64 (0:UInt32)).map u32v) 297 (0,0)::R) (fun n=>n≤48) (fun n=>48 - n) 0 (Nat.zero_le _) (sub_cons rfl (sub_cons rfl (sub_cons rfl sub_nil))) Ent.rfl ?_
 intro n hn;have hsl:=sched_length b n
 by_cases hnt:n<48
 ·have hnx:sched b (n+1)=sched b n++[nxt (sched b n)]:=rfl;have hrep:List.replicate (48 - n) (0:UInt32)=0::List.replicate (47 - n) 0:=by rw [show 48 - n=(47 - n)+1 by omega,List.replicate_succ]
  rw [hrep]
  have hgd:∀ k,k<16+n→(sched b n++0::List.replicate (47 - n) 0).getD k 0=(sched b n).getD k 0:=fun k hk=>by
   rw [List.getD_eq_getElem?_getD,List.getD_eq_getElem?_getD,List.getElem?_append_left zo]
  have hall:(sched b n++0::List.replicate (47 - n) 0).length=64:=by simp [hsl];omega
  have hrd:∀ m k:Nat,m=k→k<16+n→Rd (Blk g3 ((sched b n++0::List.replicate (47 - n) 0).map u32v) 297 (0,0)::Blk g2 ((List.replicate 64 (0:UInt32)).map u32v) 297 (0,0)::R) ⟨g3,m,none⟩ (u32v ((sched b n).getD k 0)):=fun m k hm hk=>by
   rw [← hgd k hk];exact rd_at zo .zero hm
  have hr15:=hrd (0+(((n+16:Nat):Int) - 15).toNat*1) ((sched b n).length - 15) zo zo;have hr2:=hrd (0+(((n+16:Nat):Int) - 2).toNat*1) ((sched b n).length - 2) zo zo;have hr16:=hrd (0+(((n+16:Nat):Int) - 16).toNat*1) ((sched b n).length - 16) zo zo;have hr7:=hrd (0+(((n+16:Nat):Int) - 7).toNat*1) ((sched b n).length - 7) zo zo;have hnxt:nxt (sched b n)=(sched b n).getD ((sched b n).length - 16) 0+ss0 ((sched b n).getD ((sched b n).length - 15) 0)+(sched b n).getD ((sched b n).length - 7) 0+ss1 ((sched b n).getD ((sched b n).length - 2) 0):=rfl;clear hrd
  generalize (sched b n).getD ((sched b n).length - 15) 0=x15 at *
  generalize (sched b n).getD ((sched b n).length - 2) 0=x2 at *
  generalize (sched b n).getD ((sched b n).length - 16) 0=x16 at *
  generalize (sched b n).getD ((sched b n).length - 7) 0=x7 at *
  (repeat' first|refine Za ?_|apply Zc|apply Zd|apply Ze|apply Zf|refine ZA ?_|refine Yz ?_|apply YB|apply YC|(refine A.start (id:=14) [9] mixed ?_;all_goals (refine tM 0 ?_);all_goals (refine tk 1 _ rfl (Val.sub64 rfl rfl zo) ?_);all_goals (refine tk 2 _ rfl (Val.indexAddrA rfl rfl zo) ?_);all_goals (refine tL 3 ?_);all_goals (refine tM 4 ?_);all_goals (refine tk 5 _ rfl (Val.sub64 rfl rfl zo) ?_);all_goals (refine tk 6 _ rfl (Val.indexAddrA rfl rfl zo) ?_);all_goals (refine tL 7 ?_);all_goals (refine tA 8 ?_);all_goals ((refine tO 9 ?_;refine dV (Val.assign rfl) ?_));all_goals (refine A.done zK ?_)))
  refine O.call rfl rfl (right_spec _ e x15 7 zo zo) ?_;rintro _ _ ⟨rfl,rfl⟩
  (repeat (refine wA ?_;intros))
  refine O.call rfl rfl (right_spec _ e x15 18 zo zo) ?_;rintro _ _ ⟨rfl,rfl⟩
  (repeat' first|refine YW ?_|refine YY ?_|refine Za ?_|refine Zb ?_|apply Zc|apply Zd|apply Ze|apply Zf)
  refine O.call rfl rfl (right_spec _ e x2 17 zo zo) ?_;rintro _ _ ⟨rfl,rfl⟩
  (repeat (refine wA ?_;intros))
  refine O.call rfl rfl (right_spec _ e x2 19 zo zo) ?_;rintro _ _ ⟨rfl,rfl⟩
  (repeat' first|refine YW ?_|refine YY ?_|refine Za ?_|refine Zb ?_|apply Ze|apply Zf)
  refine A.start (id:=17) [14,15] mixed ?_
  (refine tM 0 ?_;refine tM 1 ?_;refine tk 2 _ rfl (Val.sub64 rfl rfl zo) ?_;refine tk 3 _ rfl (Val.indexAddrA rfl rfl zo) ?_;refine tL 4 ?_;refine tM 5 ?_;refine tk 6 _ rfl (Val.addU rfl rfl) ?_;refine tM 7 ?_;refine tk 8 _ rfl (Val.sub64 rfl rfl zo) ?_;refine tk 9 _ rfl (Val.indexAddrA rfl rfl zo) ?_;refine tL 10 ?_;refine tk 11 _ rfl (Val.addU rfl rfl) ?_;refine tM 12 ?_;refine tk 13 _ rfl (Val.addU rfl rfl) ?_;(refine tO 14 ?_;refine Do.val (Val.indexAddrA1 rfl rfl zo) rfl ⟨zN,?_⟩))
  refine tO 15 ?_;refine Do.store rfl rfl rfl .zero (by rw [Nat.zero_add];exact setAt_mid zo) ⟨zN,?_⟩;refine A.done zK ?_;refine wB ?_;refine Fin.round (n+1) hnt zo (sub_cons rfl (sub_cons rfl (sub_cons rfl sub_nil))) ?_;rw [hnx,hnxt,List.append_assoc,show 48 - (n+1)=47 - n by omega];exact Ent.rfl
 obtain rfl:n=48:=by omega
 have hlen:((sched b 48++List.replicate (48 - 48) (0:UInt32)).map u32v).length=64:=by simp [hsl]
 have hones:=u32v_one (sched b 48++List.replicate (48 - 48) (0:UInt32));have hfin:(sched b 48++List.replicate (48 - 48) (0:UInt32)).map u32v=(sched b 48).map u32v:=by simp
 rw [← hfin]
 generalize (sched b 48++List.replicate (48 - 48) (0:UInt32)).map u32v=l at *
 clear hsl hfin
 (repeat' first|(refine O.loadAggR rfl (RdA.whole .zero) hlen rfl ?_)|refine Za ?_|apply Zc|apply Zd|apply Ze|apply Zf|refine ZB ?_|refine YA ?_|apply YD|apply YG|apply YJ)
 refine O.storeAgg rfl rfl hlen hones (.succ .zero) (setAts_whole (by rw [hlen];rfl)) ?_;refine wB ?_;apply Fin.retC
 ·exact .agg rfl (RdA.whole (.succ .zero)) hlen .nil
 exact ⟨R,zE,rfl,rfl⟩
theorem addL_step {a c:List UInt32} {i:Nat} (hi:i<a.length) (hc:a.length=c.length):(List.zipWith (·+·) a c).take (i+1)=(List.zipWith (·+·) a c).take i++[a.getD i 0+c.getD i 0]∧a.drop i=a.getD i 0::a.drop (i+1):=by
 constructor
 ·rw [List.take_succ_eq_append_getElem (by simp;omega),List.getElem_zipWith]
  simp [List.getD_eq_getElem?_getD,List.getElem?_eq_getElem hi,List.getElem?_eq_getElem (show i<c.length by omega)]
 ·rw [List.drop_eq_getElem_cons hi]
  simp [List.getD_eq_getElem?_getD,List.getElem?_eq_getElem hi]
set_option maxHeartbeats 1000000 in
theorem mix_spec (s:S8) (v:Value) (b:List UInt8) (gk:Nat) (hv:RdB R v b) (hb:b.length=64) (hk:RdA R gk 0 (kw.map u32v)) :
 Ct prog 231 #[.agg s.cells.toArray,v,pt gk] e R (fun v' L'=>v'=.agg (blockP s b).cells.toArray∧R=L'):=by
 refine Ct.enterC (args:=[_,_,_]) func231 rfl ntmps231 results231 rfl ?_;have hws:=sched_length b 48
 (repeat' first|(refine O.box (cs:=s.cells) rfl rfl rfl ?_;intro _)|(refine O.loadAggR (cs:=s.cells) rfl (RdA.whole (.succ .zero)) rfl rfl ?_)|(refine O.storeAgg (vs:=s.cells) rfl rfl rfl (u32v_one s.list) .zero (setAts_whole rfl) ?_)|refine Za ?_|apply Zc|apply Zd|apply Ze|apply Zf|refine Yh fun _=>?_|fail)
 refine O.call rfl rfl (spread_spec _ e v b hv.tail.tail.tail hb) ?_;rintro _ _ ⟨rfl,rfl⟩;rw [show blockP s b=s.add (rnds s (sched b 48) 64) from rfl]
 generalize sched b 48=ws at *
 refine wB ?_;rename_i g3 g6 g7;refine W.loop (ι:=Nat) (fun i=>[(19,.int .i64 (i:Int)),(18,.agg (ws.map u32v).toArray),(2,pt gk),(7,pt g7),(6,pt g6),(3,pt g3)])
  (fun i=>Blk g7 (rnds s ws i).cells 296 (0,0)::Blk g6 ((List.replicate 8 (0:UInt32)).map u32v) 296 (0,0)::Blk g3 s.cells 296 (0,0)::R) (fun i=>i≤64) (fun i=>64 - i) 0 (Nat.zero_le _) (sub_cons rfl (sub_cons rfl (sub_cons rfl (sub_cons rfl (sub_cons rfl (sub_cons rfl sub_nil)))))) Ent.rfl ?_
 intro i hi
 by_cases hlt:i<64
 ·have hrk:Rd R ⟨gk,0+i,none⟩ (u32v (kw.getD i 0)):=RdA.at0 hk (by
   have h64:i<kw.length:=hlt;rw [List.getElem?_map,List.getElem?_eq_getElem h64,List.getD_eq_getElem?_getD,List.getElem?_eq_getElem h64];rfl)
  have hw:(ws.map u32v)[i]?=some (u32v (ws.getD i 0)):=by
   have h64:i<ws.length:=by omega
   rw [List.getElem?_map,List.getElem?_eq_getElem h64,List.getD_eq_getElem?_getD,List.getElem?_eq_getElem h64];rfl
  have hrn:rnds s ws (i+1)=rnd (rnds s ws i) (kw.getD i 0) (ws.getD i 0):=rfl
  generalize rnds s ws i=S at *
  generalize kw.getD i 0=kk at *
  generalize ws.getD i 0=ww at *
  obtain ⟨a',b',c',d',e',f',g',h'⟩:=S;dsimp only [S8.cells]
  (repeat' first|refine Y4 ?_|refine Za ?_|refine Zb ?_|apply Zc|apply Zd|apply Ze|apply Zf|refine ZA ?_|refine Yz ?_|apply YB|apply YC)
  refine A.start (id:=5) [11] mixed ?_
  (refine tk 0 _ rfl (Val.indexAddrA rfl rfl zo) ?_;refine tL 1 ?_;refine tk 3 _ rfl (Val.indexAddrA rfl rfl zo) ?_;refine tL 4 ?_;refine tk 7 _ rfl (Val.indexAddrA rfl rfl zo) ?_;refine tL 8 ?_)
  refine tO 2 ?_;refine Do.call rfl rfl (right_spec _ e e' 6 zo zo) ?_;rintro _ _ ⟨rfl,rfl⟩;refine ⟨fun _=>Ent.rfl,?_⟩;refine tO 5 ?_;refine Do.call rfl rfl (right_spec _ e e' 11 zo zo) ?_;rintro _ _ ⟨rfl,rfl⟩;refine ⟨fun _=>Ent.rfl,?_⟩
  (refine tk 6 _ rfl (Val.xorU rfl rfl) ?_)
  refine tO 9 ?_;refine Do.call rfl rfl (right_spec _ e e' 25 zo zo) ?_;rintro _ _ ⟨rfl,rfl⟩;refine ⟨fun _=>Ent.rfl,?_⟩
  (refine tk 10 _ rfl (Val.xorU rfl rfl) ?_;(refine tO 11 ?_;refine dV (Val.assign rfl) ?_))
  refine A.done zK ?_
  (repeat' first|refine YU ?_|refine YW ?_|refine YZ ?_|refine Y3 ?_|refine Zb ?_|apply Zc|apply Zd|apply Ze|apply Zf|refine Zi ?_|(refine A.start (id:=7) [14] mixed ?_;all_goals (refine tk 0 _ rfl (Val.indexAddrA rfl rfl zo) ?_);all_goals (refine tL 1 ?_);all_goals (refine tM 2 ?_);all_goals (refine tk 3 _ rfl (Val.addU rfl rfl) ?_);all_goals (refine tM 4 ?_);all_goals (refine tk 5 _ rfl (Val.addU rfl rfl) ?_);all_goals (refine tM 6 ?_);all_goals (refine tM 7 ?_);all_goals (refine tN 8 ?_);all_goals (refine tk 9 _ rfl (Val.indexAddrA1 rfl rfl zo) ?_);all_goals (refine tL 10 ?_);all_goals (refine tk 11 _ rfl (Val.addU rfl rfl) ?_);all_goals (refine tM 12 ?_);all_goals (refine tk 13 _ rfl (Val.addU rfl rfl) ?_);all_goals ((refine tO 14 ?_;refine dV (Val.assign rfl) ?_));all_goals (refine A.done zK ?_)))
  refine A.start (id:=8) [11] mixed ?_
  (refine tk 0 _ rfl (Val.indexAddrA rfl rfl zo) ?_;refine tL 1 ?_;refine tk 3 _ rfl (Val.indexAddrA rfl rfl zo) ?_;refine tL 4 ?_;refine tk 7 _ rfl (Val.indexAddrA rfl rfl zo) ?_;refine tL 8 ?_)
  refine tO 2 ?_;refine Do.call rfl rfl (right_spec _ e a' 2 zo zo) ?_;rintro _ _ ⟨rfl,rfl⟩;refine ⟨fun _=>Ent.rfl,?_⟩;refine tO 5 ?_;refine Do.call rfl rfl (right_spec _ e a' 13 zo zo) ?_;rintro _ _ ⟨rfl,rfl⟩;refine ⟨fun _=>Ent.rfl,?_⟩
  (refine tk 6 _ rfl (Val.xorU rfl rfl) ?_)
  refine tO 9 ?_;refine Do.call rfl rfl (right_spec _ e a' 22 zo zo) ?_;rintro _ _ ⟨rfl,rfl⟩;refine ⟨fun _=>Ent.rfl,?_⟩
  (refine tk 10 _ rfl (Val.xorU rfl rfl) ?_;(refine tO 11 ?_;refine dV (Val.assign rfl) ?_))
  refine A.done zK ?_
  (repeat' first|refine YT ?_|refine YU ?_|refine YW ?_|refine Y3 ?_|refine Y5 ?_|refine Za ?_|refine Zb ?_|apply Zc|apply Zd|apply Ze|apply Zf|refine Zi ?_|refine ZS ?_|apply YH|refine YR ?_|fail)
  exact Fin.round (i+1) hlt zo (sub_cons rfl (sub_cons rfl (sub_cons rfl (sub_cons rfl (sub_cons rfl (sub_cons rfl sub_nil)))))) (by rw [hrn];exact Ent.rfl)
 obtain rfl:i=64:=by omega
 generalize rnds s ws 64=V at *
 have hadd:(s.add V).cells=(List.zipWith (·+·) s.list V.list).map u32v:=rfl;have hsl:s.list.length=8:=rfl;have hvl:V.list.length=8:=rfl;rw [hadd,S8.cells_eq,S8.cells_eq]
 generalize s.list=sl at *
 generalize V.list=vl at *
 refine wB ?_;refine W.loop (ι:=Nat) (fun i=>[(111,.int .i64 (i:Int)),(7,pt g7),(6,pt g6),(3,pt g3)])
  (fun i=>Blk g7 (vl.map u32v) 296 (0,0)::Blk g6 ((List.replicate 8 (0:UInt32)).map u32v) 296 (0,0)::Blk g3 (((List.zipWith (·+·) sl vl).take i++sl.drop i).map u32v) 296 (0,0)::R) (fun i=>i≤8) (fun i=>8 - i) 0 (Nat.zero_le _) (sub_cons rfl (sub_cons rfl (sub_cons rfl (sub_cons rfl sub_nil)))) (by rw [List.take_zero,List.nil_append,List.drop_zero];exact Ent.rfl) ?_
 intro j hj;have hzl:((List.zipWith (·+·) sl vl).take j).length=j:=by simp;omega
 by_cases hjt:j<8
 ·obtain ⟨z1,z2⟩:=addL_step (a:=sl) (c:=vl) (i:=j) zo zo;rw [z2];have hr3:Rd (Blk g7 (vl.map u32v) 296 (0,0)::Blk g6 ((List.replicate 8 (0:UInt32)).map u32v) 296 (0,0)::Blk g3 (((List.zipWith (·+·) sl vl).take j++sl.getD j 0::sl.drop (j+1)).map u32v) 296 (0,0)::R) ⟨g3,0+j,none⟩ (u32v (sl.getD j 0)):=rd_mid hzl (.succ (.succ .zero)) (Nat.zero_add _);have hr7:Rd (Blk g7 (vl.map u32v) 296 (0,0)::Blk g6 ((List.replicate 8 (0:UInt32)).map u32v) 296 (0,0)::Blk g3 (((List.zipWith (·+·) sl vl).take j++sl.getD j 0::sl.drop (j+1)).map u32v) 296 (0,0)::R) ⟨g7,0+j,none⟩ (u32v (vl.getD j 0)):=rd_at zo .zero (Nat.zero_add _)
  generalize sl.getD j 0=x at *
  generalize vl.getD j 0=y at *
  refine wB ?_;refine A.start (id:=15) [7,8] mixed ?_
  (refine tM 0 ?_;refine tk 1 _ rfl (Val.indexAddrA1 rfl rfl zo) ?_;refine tL 2 ?_;refine tM 3 ?_;refine tk 4 _ rfl (Val.indexAddrA1 rfl rfl zo) ?_;refine tL 5 ?_;refine tk 6 _ rfl (Val.addU rfl rfl) ?_;(refine tO 7 ?_;refine Do.val (Val.indexAddrA1 rfl rfl zo) rfl ⟨zN,?_⟩))
  refine tO 8 ?_;refine Do.store rfl rfl rfl (.succ (.succ .zero)) (by rw [Nat.zero_add];exact setAt_mid hzl) ⟨zN,?_⟩;refine A.done zK ?_;refine wB ?_;exact Fin.round (j+1) hjt zo (sub_cons rfl (sub_cons rfl (sub_cons rfl (sub_cons rfl sub_nil)))) (by rw [z1,List.append_assoc];exact Ent.rfl)
 obtain rfl:j=8:=by omega
 have hlen:(((List.zipWith (·+·) sl vl).take 8++sl.drop 8).map u32v).length=8:=by simp;omega
 have hones:=u32v_one ((List.zipWith (·+·) sl vl).take 8++sl.drop 8)
 have hfin:((List.zipWith (·+·) sl vl).take 8++sl.drop 8).map u32v=(List.zipWith (·+·) sl vl).map u32v:=by
  rw [List.take_of_length_le (by simp;omega),List.drop_of_length_le zo,List.append_nil]
 rw [← hfin]
 generalize ((List.zipWith (·+·) sl vl).take 8++sl.drop 8).map u32v=l at *
 (repeat' first|(refine O.loadAggR rfl (RdA.whole (.succ (.succ .zero))) hlen rfl ?_)|apply Zc|apply Zd|apply Ze|apply Zf|refine ZB ?_|refine YA ?_|apply YD|apply YG|apply YJ)
 refine O.storeAgg rfl rfl hlen hones (.succ .zero) (setAts_whole (by rw [hlen];rfl)) ?_;refine wB ?_;apply Fin.retC
 ·exact .agg rfl (RdA.whole (.succ .zero)) hlen .nil
 exact ⟨R,zE,rfl,rfl⟩
theorem turn_spec (x:UInt32) (n:Nat) (h:0<n) (h2:n<32) :
 Ct prog 270 #[u32v x,.int .u64 (n:Int)] e R (fun v' L'=>v'=u32v (rotr x n)∧R=L'):=by
 refine Ct.enter (args:=[_,_]) func270 rfl ntmps270 results270 rfl ?_
 have h3:IntKind.u64.wrap (32 - (n:Int))=((32 - n:Nat):Int):=by
  have:∀ m:Fin 32,0<m.1→IntKind.u64.wrap (32 - (m.1:Int))=((32 - m.1:Nat):Int):=by decide +kernel
  exact this ⟨n,h2⟩ h
 (repeat' first|(apply O.shlU;exact rfl;exact rfl;(rw [h3];omega);exact rfl)|refine YV ?_|refine YY ?_|refine Za ?_|refine Zb ?_|apply Zc|apply Zd|apply Ze|apply Zf|refine ZV ?_|apply YE)
 refine Fin.ret _ rfl Ent.rfl ⟨?_,rfl⟩
 show u32v _=u32v _
 rw [h3,Int.toNat_natCast,Int.toNat_natCast]
 rfl
theorem consts_spec :
 Ct prog 217 #[] e R (fun v' L'=>v'=.agg (kw.map u32v).toArray∧R=L'):=by
 refine Ct.enterC (args:=[]) func217 rfl ntmps217 results217 rfl ?_
 (repeat' first|(refine O.alloc (cs:=(List.replicate 64 (0:UInt32)).map u32v) rfl rfl ?_;intro _)|apply Zc|apply Zd|apply Ze|apply Zf)
 refine O.buildArr (cs:=kw.map u32v) rfl rfl rfl zQ rfl ?_;refine O.storeAgg rfl rfl rfl (u32v_one _) .zero (setAts_whole rfl) ?_;refine wB ?_;apply Fin.retC;exact zV;exact ⟨R,zE,rfl,rfl⟩
set_option maxHeartbeats 4000000 in
theorem block_spec (s:S8) (v:Value) (b:List UInt8) (gk:Nat) (hv:RdB R v b) (hb:b.length=64) (hk:RdA R gk 0 (kw.map u32v)) :
 Ct prog 218 #[.agg s.cells.toArray,pt gk,v] e R (fun v' L'=>v'=.agg (blockP s b).cells.toArray∧R=L'):=by
 refine Ct.of_sep (hv.shape zo) ?_;rintro ⟨⟨ad,cap,rfl,h3,h4,h5,h6⟩,_⟩;simp only [maxLen] at h4
 rcases h6 with h6|⟨gl,ol,rfl⟩
 ·omega
 refine Ct.enterC (args:=[_,_,_]) func218 rfl ntmps218 results218 rfl ?_
 (repeat' first|(refine O.box (cs:=s.cells) rfl rfl rfl ?_;intro _)|(refine O.alloc (cs:=(List.replicate 64 (0:UInt32)).map u32v) rfl rfl ?_;intro _)|(refine O.alloc (cs:=(List.replicate 8 (0:UInt32)).map u32v) rfl rfl ?_;intro _)|refine Zb ?_|apply Zc|apply Zd|apply Ze|apply Zf|apply YB)
 rename_i g3 g6 g7;refine W.loop (ι:=Nat) (fun i=>[(8,.int .i64 (i:Int)),(2,.slice (some ⟨gl,ol,none⟩) b.length cap),(1,pt gk),(7,pt g7),(6,pt g6),(3,pt g3)])
  (fun i=>Blk g7 (((List.range i).map (wd b)++List.replicate (64 - i) 0).map u32v) 297 (0,0)::Blk g6 ((List.replicate 8 (0:UInt32)).map u32v) 296 (0,0)::Blk g3 s.cells 296 (0,0)::R) (fun i=>i≤16) (fun i=>16 - i) 0 (Nat.zero_le _) (sub_cons rfl (sub_cons rfl (sub_cons rfl (sub_cons rfl (sub_cons rfl (sub_cons rfl sub_nil)))))) Ent.rfl ?_
 intro i hi
 by_cases hlt:i<16
 ·have hrep:List.replicate (64 - i) (0:UInt32)=0::List.replicate (63 - i) 0:=by rw [show 64 - i=(63 - i)+1 by omega,List.replicate_succ]
  have hpre:((List.range i).map (wd b)).length=i:=by simp
  have hw16:=w16_succ b i;rw [hrep]
  generalize (List.range i).map (wd b)=pre at *
  have hrb:∀ k m:Nat,k=m→m<b.length→Rd R ⟨gl,ol+k,none⟩ (u8 (b.getD m 0)):=fun k m hkm hm=>by
   subst hkm;exact hv.elem (by rw [List.getD_eq_getElem?_getD,List.getElem?_eq_getElem hm];rfl)
  have hr0:=hrb ((4*(i:Int)).toNat*1) (4*i) zo zo;have hr1:=hrb ((4*(i:Int)+1).toNat*1) (4*i+1) zo zo;have hr2:=hrb ((4*(i:Int)+2).toNat*1) (4*i+2) zo zo;have hr3:=hrb ((4*(i:Int)+3).toNat*1) (4*i+3) zo zo;have hwd:wd b i=((((b.getD (4*i) 0).toUInt32 <<< UInt32.ofNat (Int.toNat 24)) ||| ((b.getD (4*i+1) 0).toUInt32 <<< UInt32.ofNat (Int.toNat 16))) ||| ((b.getD (4*i+2) 0).toUInt32 <<< UInt32.ofNat (Int.toNat 8))) ||| (b.getD (4*i+3) 0).toUInt32:=rfl
  clear hrb
  generalize b.getD (4*i) 0=c0 at *
  generalize b.getD (4*i+1) 0=c1 at *
  generalize b.getD (4*i+2) 0=c2 at *
  generalize b.getD (4*i+3) 0=c3 at *
  refine wB ?_;refine A.start (id:=5) [34,35] mixed ?_
  (refine tM 0 ?_;refine tM 1 ?_;refine tM 2 ?_;refine tk 3 _ rfl (Val.mul64 rfl rfl zo) ?_;refine tk 4 _ rfl (Val.indexAddr rfl rfl zo zo) ?_;refine tL 5 ?_;refine tk 6 _ rfl (Val.conv8U rfl) ?_;refine tk 7 _ rfl (Val.shlU rfl rfl zo) ?_;refine tM 8 ?_;refine tM 9 ?_;refine tk 10 _ rfl (Val.mul64 rfl rfl zo) ?_;refine tk 11 _ rfl (Val.add64 rfl rfl zo) ?_;refine tk 12 _ rfl (Val.indexAddr rfl rfl zo zo) ?_;refine tL 13 ?_;refine tk 14 _ rfl (Val.conv8U rfl) ?_;refine tk 15 _ rfl (Val.shlU rfl rfl zo) ?_;refine tk 16 _ rfl (Val.orU rfl rfl) ?_;refine tM 17 ?_;refine tM 18 ?_;refine tk 19 _ rfl (Val.mul64 rfl rfl zo) ?_;refine tk 20 _ rfl (Val.add64 rfl rfl zo) ?_;refine tk 21 _ rfl (Val.indexAddr rfl rfl zo zo) ?_;refine tL 22 ?_;refine tk 23 _ rfl (Val.conv8U rfl) ?_;refine tk 24 _ rfl (Val.shlU rfl rfl zo) ?_;refine tk 25 _ rfl (Val.orU rfl rfl) ?_;refine tM 26 ?_;refine tM 27 ?_;refine tk 28 _ rfl (Val.mul64 rfl rfl zo) ?_;refine tk 29 _ rfl (Val.add64 rfl rfl zo) ?_;refine tk 30 _ rfl (Val.indexAddr rfl rfl zo zo) ?_;refine tL 31 ?_;refine tk 32 _ rfl (Val.conv8U rfl) ?_;refine tk 33 _ rfl (Val.orU rfl rfl) ?_;(refine tO 34 ?_;refine Do.val (Val.indexAddrA1 rfl rfl zo) rfl ⟨zN,?_⟩))
  refine tO 35 ?_;refine Do.store rfl rfl rfl .zero (by rw [Nat.zero_add];exact setAt_mid hpre) ⟨zN,?_⟩;refine A.done zK ?_;refine wB ?_;refine Fin.round (i+1) hlt zo (sub_cons rfl (sub_cons rfl (sub_cons rfl (sub_cons rfl (sub_cons rfl (sub_cons rfl sub_nil)))))) ?_;rw [hw16,hwd,List.append_assoc,show 64 - (i+1)=63 - i by omega];exact Ent.rfl
 obtain rfl:i=16:=by omega
 rw [show blockP s b=s.add (rnds s (sched b 48) 64) from rfl];refine wB ?_;refine W.loop (ι:=Nat) (fun n=>[(9,.int .i64 ((n+16:Nat):Int)),(1,pt gk),(7,pt g7),(6,pt g6),(3,pt g3)])
  (fun n=>Blk g7 ((sched b n++List.replicate (48 - n) 0).map u32v) 297 (0,0)::Blk g6 ((List.replicate 8 (0:UInt32)).map u32v) 296 (0,0)::Blk g3 s.cells 296 (0,0)::R) (fun n=>n≤48) (fun n=>48 - n) 0 (Nat.zero_le _) (sub_cons rfl (sub_cons rfl (sub_cons rfl (sub_cons rfl (sub_cons rfl sub_nil))))) Ent.rfl ?_
 intro n hn;have hsl:=sched_length b n
 by_cases hnt:n<48
 ·have hnx:sched b (n+1)=sched b n++[nxt (sched b n)]:=rfl;have hrep:List.replicate (48 - n) (0:UInt32)=0::List.replicate (47 - n) 0:=by rw [show 48 - n=(47 - n)+1 by omega,List.replicate_succ]
  rw [hrep]
  have hgd:∀ k,k<16+n→(sched b n++0::List.replicate (47 - n) 0).getD k 0=(sched b n).getD k 0:=fun k hk=>by
   rw [List.getD_eq_getElem?_getD,List.getD_eq_getElem?_getD,List.getElem?_append_left zo]
  have hall:(sched b n++0::List.replicate (47 - n) 0).length=64:=by simp [hsl];omega
  have hrd:∀ m k:Nat,m=k→k<16+n→Rd (Blk g7 ((sched b n++0::List.replicate (47 - n) 0).map u32v) 297 (0,0)::Blk g6 ((List.replicate 8 (0:UInt32)).map u32v) 296 (0,0)::Blk g3 s.cells 296 (0,0)::R) ⟨g7,m,none⟩ (u32v ((sched b n).getD k 0)):=fun m k hm hk=>by
   rw [← hgd k hk];exact rd_at zo .zero hm
  have hr15:=hrd (0+(((n+16:Nat):Int) - 15).toNat*1) ((sched b n).length - 15) zo zo;have hr2:=hrd (0+(((n+16:Nat):Int) - 2).toNat*1) ((sched b n).length - 2) zo zo;have hr16:=hrd (0+(((n+16:Nat):Int) - 16).toNat*1) ((sched b n).length - 16) zo zo;have hr7:=hrd (0+(((n+16:Nat):Int) - 7).toNat*1) ((sched b n).length - 7) zo zo;have hnxt:nxt (sched b n)=(sched b n).getD ((sched b n).length - 16) 0+ss0 ((sched b n).getD ((sched b n).length - 15) 0)+(sched b n).getD ((sched b n).length - 7) 0+ss1 ((sched b n).getD ((sched b n).length - 2) 0):=rfl;clear hrd
  generalize (sched b n).getD ((sched b n).length - 15) 0=x15 at *
  generalize (sched b n).getD ((sched b n).length - 2) 0=x2 at *
  generalize (sched b n).getD ((sched b n).length - 16) 0=x16 at *
  generalize (sched b n).getD ((sched b n).length - 7) 0=x7 at *
  (repeat' first|refine Za ?_|apply Zc|apply Zd|apply Ze|apply Zf|refine ZA ?_|refine Yz ?_|apply YB|apply YC|(refine A.start (id:=9) [9] mixed ?_;all_goals (refine tM 0 ?_);all_goals (refine tk 1 _ rfl (Val.sub64 rfl rfl zo) ?_);all_goals (refine tk 2 _ rfl (Val.indexAddrA rfl rfl zo) ?_);all_goals (refine tL 3 ?_);all_goals (refine tM 4 ?_);all_goals (refine tk 5 _ rfl (Val.sub64 rfl rfl zo) ?_);all_goals (refine tk 6 _ rfl (Val.indexAddrA rfl rfl zo) ?_);all_goals (refine tL 7 ?_);all_goals (refine tA 8 ?_);all_goals ((refine tO 9 ?_;refine dV (Val.assign rfl) ?_));all_goals (refine A.done zK ?_)))
  refine A.start (id:=10) [28,29] mixed ?_
  (refine tM 0 ?_;refine tM 1 ?_;refine tk 2 _ rfl (Val.sub64 rfl rfl zo) ?_;refine tk 3 _ rfl (Val.indexAddrA rfl rfl zo) ?_;refine tL 4 ?_;refine tM 5 ?_;refine tM 7 ?_;refine tM 10 ?_;refine tk 11 _ rfl (Val.shrU rfl rfl zo) ?_;refine tM 14 ?_;refine tk 15 _ rfl (Val.sub64 rfl rfl zo) ?_;refine tk 16 _ rfl (Val.indexAddrA rfl rfl zo) ?_;refine tL 17 ?_;refine tM 19 ?_;refine tM 21 ?_;refine tM 24 ?_;refine tk 25 _ rfl (Val.shrU rfl rfl zo) ?_)
  refine tO 6 ?_;refine Do.call rfl rfl (turn_spec _ e x15 7 zo zo) ?_;rintro _ _ ⟨rfl,rfl⟩;refine ⟨fun _=>Ent.rfl,?_⟩;refine tO 8 ?_;refine Do.call rfl rfl (turn_spec _ e x15 18 zo zo) ?_;rintro _ _ ⟨rfl,rfl⟩;refine ⟨fun _=>Ent.rfl,?_⟩
  (refine tk 9 _ rfl (Val.xorU rfl rfl) ?_;refine tk 12 _ rfl (Val.xorU rfl rfl) ?_;refine tk 13 _ rfl (Val.addU rfl rfl) ?_;refine tk 18 _ rfl (Val.addU rfl rfl) ?_)
  refine tO 20 ?_;refine Do.call rfl rfl (turn_spec _ e x2 17 zo zo) ?_;rintro _ _ ⟨rfl,rfl⟩;refine ⟨fun _=>Ent.rfl,?_⟩;refine tO 22 ?_;refine Do.call rfl rfl (turn_spec _ e x2 19 zo zo) ?_;rintro _ _ ⟨rfl,rfl⟩;refine ⟨fun _=>Ent.rfl,?_⟩
  (refine tk 23 _ rfl (Val.xorU rfl rfl) ?_;refine tk 26 _ rfl (Val.xorU rfl rfl) ?_;refine tk 27 _ rfl (Val.addU rfl rfl) ?_;(refine tO 28 ?_;refine Do.val (Val.indexAddrA1 rfl rfl zo) rfl ⟨zN,?_⟩))
  refine tO 29 ?_;refine Do.store rfl rfl rfl .zero (by rw [Nat.zero_add];exact setAt_mid zo) ⟨zN,?_⟩;refine A.done zK ?_;refine wB ?_;refine Fin.round (n+1) hnt zo (sub_cons rfl (sub_cons rfl (sub_cons rfl (sub_cons rfl (sub_cons rfl sub_nil))))) ?_;rw [hnx,hnxt,List.append_assoc,show 48 - (n+1)=47 - n by omega];exact Ent.rfl
 obtain rfl:n=48:=by omega
 have hws:(sched b 48++List.replicate (48 - 48) (0:UInt32))=sched b 48:=by simp
 rw [hws];clear hws
 generalize sched b 48=ws at *
 (repeat' first|(refine O.loadAggR (cs:=s.cells) rfl (RdA.whole (.succ (.succ .zero))) rfl rfl ?_)|(refine O.storeAgg (vs:=s.cells) rfl rfl rfl (u32v_one s.list) .zero (setAts_whole rfl) ?_)|(refine O.alloc (cs:=(List.replicate 8 (0:UInt32)).map u32v) rfl rfl ?_;intro _)|refine Za ?_|refine Zb ?_|apply Zc|apply Zd|apply Ze|apply Zf|refine ZB ?_|refine YA ?_|apply YB|apply YD|apply YG|apply YJ)
 rename_i g12;refine W.loop (ι:=Nat) (fun i=>[(13,.int .i64 (i:Int)),(1,pt gk),(12,pt g12),(7,pt g7),(6,pt g6),(3,pt g3)])
  (fun i=>Blk g12 (rnds s ws i).cells 296 (0,0)::Blk g7 (ws.map u32v) 297 (0,0)::Blk g6 ((List.replicate 8 (0:UInt32)).map u32v) 296 (0,0)::Blk g3 s.cells 296 (0,0)::R) (fun i=>i≤64) (fun i=>64 - i) 0 (Nat.zero_le _) (sub_cons rfl (sub_cons rfl (sub_cons rfl (sub_cons rfl (sub_cons rfl (sub_cons rfl sub_nil)))))) Ent.rfl ?_
 intro i hi
 by_cases hlt:i<64
 ·have hrk:Rd R ⟨gk,0+i,none⟩ (u32v (kw.getD i 0)):=RdA.at0 hk (by
   have h64:i<kw.length:=hlt;rw [List.getElem?_map,List.getElem?_eq_getElem h64,List.getD_eq_getElem?_getD,List.getElem?_eq_getElem h64];rfl)
  have hrw:Rd (Blk g12 (rnds s ws i).cells 296 (0,0)::Blk g7 (ws.map u32v) 297 (0,0)::Blk g6 ((List.replicate 8 (0:UInt32)).map u32v) 296 (0,0)::Blk g3 s.cells 296 (0,0)::R) ⟨g7,0+i,none⟩ (u32v (ws.getD i 0)):=rd_at zo (.succ .zero) (Nat.zero_add _);have hrn:rnds s ws (i+1)=rnd (rnds s ws i) (kw.getD i 0) (ws.getD i 0):=rfl
  generalize rnds s ws i=S at *
  generalize kw.getD i 0=kk at *
  generalize ws.getD i 0=ww at *
  obtain ⟨a',b',c',d',e',f',g',h'⟩:=S;dsimp only [S8.cells] at hrw ⊢
  (repeat' first|refine Za ?_|apply Zc|apply Zd|apply Ze|apply Zf|refine ZA ?_|refine Yz ?_|apply YB|apply YC|(refine A.start (id:=15) [5] mixed ?_;all_goals (refine tk 0 _ rfl (Val.indexAddrA rfl rfl zo) ?_);all_goals (refine tL 1 ?_);all_goals (refine tk 2 _ rfl (Val.indexAddrA rfl rfl zo) ?_);all_goals (refine tL 3 ?_);all_goals (refine tA 4 ?_);all_goals ((refine tO 5 ?_;refine dV (Val.assign rfl) ?_));all_goals (refine A.done zK ?_)))
  refine A.start (id:=16) [32] mixed ?_
  (refine tk 0 _ rfl (Val.indexAddrA rfl rfl zo) ?_;refine tL 1 ?_;refine tM 2 ?_;refine tM 4 ?_;refine tM 7 ?_;refine tM 11 ?_;refine tk 12 _ rfl (Val.indexAddrA rfl rfl zo) ?_;refine tL 13 ?_;refine tk 14 _ rfl (Val.andU rfl rfl) ?_;refine tM 15 ?_;refine tk 16 _ rfl (Val.compU rfl) ?_;refine tk 17 _ rfl (Val.indexAddrA rfl rfl zo) ?_;refine tL 18 ?_;refine tk 19 _ rfl (Val.andU rfl rfl) ?_;refine tk 20 _ rfl (Val.xorU rfl rfl) ?_;refine tM 22 ?_;refine tM 23 ?_;refine tN 24 ?_;refine tk 25 _ rfl (Val.indexAddrA1 rfl rfl zo) ?_;refine tL 26 ?_;refine tM 28 ?_;refine tk 29 _ rfl (Val.indexAddrA1 rfl rfl zo) ?_;refine tL 30 ?_)
  refine tO 3 ?_;refine Do.call rfl rfl (turn_spec _ e e' 6 zo zo) ?_;rintro _ _ ⟨rfl,rfl⟩;refine ⟨fun _=>Ent.rfl,?_⟩;refine tO 5 ?_;refine Do.call rfl rfl (turn_spec _ e e' 11 zo zo) ?_;rintro _ _ ⟨rfl,rfl⟩;refine ⟨fun _=>Ent.rfl,?_⟩
  (refine tk 6 _ rfl (Val.xorU rfl rfl) ?_)
  refine tO 8 ?_;refine Do.call rfl rfl (turn_spec _ e e' 25 zo zo) ?_;rintro _ _ ⟨rfl,rfl⟩;refine ⟨fun _=>Ent.rfl,?_⟩
  (refine tk 9 _ rfl (Val.xorU rfl rfl) ?_;refine tk 10 _ rfl (Val.addU rfl rfl) ?_;refine tk 21 _ rfl (Val.addU rfl rfl) ?_;refine tk 27 _ rfl (Val.addU rfl rfl) ?_;refine tk 31 _ rfl (Val.addU rfl rfl) ?_;(refine tO 32 ?_;refine dV (Val.assign rfl) ?_))
  refine A.done zK ?_;refine wB ?_;refine A.start (id:=17) [24] mixed ?_
  (refine tM 0 ?_;refine tM 2 ?_;refine tM 5 ?_;refine tM 8 ?_;refine tk 9 _ rfl (Val.indexAddrA rfl rfl zo) ?_;refine tL 10 ?_;refine tk 11 _ rfl (Val.andU rfl rfl) ?_;refine tM 12 ?_;refine tk 13 _ rfl (Val.indexAddrA rfl rfl zo) ?_;refine tL 14 ?_;refine tk 15 _ rfl (Val.andU rfl rfl) ?_;refine tk 16 _ rfl (Val.xorU rfl rfl) ?_;refine tk 17 _ rfl (Val.indexAddrA rfl rfl zo) ?_;refine tL 18 ?_;refine tk 19 _ rfl (Val.indexAddrA rfl rfl zo) ?_;refine tL 20 ?_;refine tk 21 _ rfl (Val.andU rfl rfl) ?_;refine tk 22 _ rfl (Val.xorU rfl rfl) ?_)
  refine tO 1 ?_;refine Do.call rfl rfl (turn_spec _ e a' 2 zo zo) ?_;rintro _ _ ⟨rfl,rfl⟩;refine ⟨fun _=>Ent.rfl,?_⟩;refine tO 3 ?_;refine Do.call rfl rfl (turn_spec _ e a' 13 zo zo) ?_;rintro _ _ ⟨rfl,rfl⟩;refine ⟨fun _=>Ent.rfl,?_⟩
  (refine tk 4 _ rfl (Val.xorU rfl rfl) ?_)
  refine tO 6 ?_;refine Do.call rfl rfl (turn_spec _ e a' 22 zo zo) ?_;rintro _ _ ⟨rfl,rfl⟩;refine ⟨fun _=>Ent.rfl,?_⟩
  (refine tk 7 _ rfl (Val.xorU rfl rfl) ?_;refine tk 23 _ rfl (Val.addU rfl rfl) ?_;(refine tO 24 ?_;refine dV (Val.assign rfl) ?_))
  refine A.done zK ?_
  (repeat' first|refine YT ?_|refine Y3 ?_|refine Y5 ?_|refine Za ?_|refine Zb ?_|apply Zd|apply Ze|apply Zf|refine Zi ?_|refine ZS ?_|apply YH|refine YR ?_|fail)
  refine Fin.round (i+1) hlt zo (sub_cons rfl (sub_cons rfl (sub_cons rfl (sub_cons rfl (sub_cons rfl (sub_cons rfl sub_nil)))))) ?_;rw [hrn,← UInt32.add_assoc];exact Ent.rfl
 obtain rfl:i=64:=by omega
 generalize rnds s ws 64=V at *
 have hadd:(s.add V).cells=(List.zipWith (·+·) s.list V.list).map u32v:=rfl;have hsl:s.list.length=8:=rfl;have hvl:V.list.length=8:=rfl;rw [hadd,S8.cells_eq,S8.cells_eq]
 generalize s.list=sl at *
 generalize V.list=vl at *
 refine wB ?_;refine W.loop (ι:=Nat) (fun i=>[(18,.int .i64 (i:Int)),(12,pt g12),(6,pt g6),(3,pt g3)])
  (fun i=>Blk g12 (vl.map u32v) 296 (0,0)::Blk g7 (ws.map u32v) 297 (0,0)::Blk g6 ((List.replicate 8 (0:UInt32)).map u32v) 296 (0,0)::Blk g3 (((List.zipWith (·+·) sl vl).take i++sl.drop i).map u32v) 296 (0,0)::R) (fun i=>i≤8) (fun i=>8 - i) 0 (Nat.zero_le _) (sub_cons rfl (sub_cons rfl (sub_cons rfl (sub_cons rfl sub_nil)))) (by rw [List.take_zero,List.nil_append,List.drop_zero];exact Ent.rfl) ?_
 intro j hj;have hzl:((List.zipWith (·+·) sl vl).take j).length=j:=by simp;omega
 by_cases hjt:j<8
 ·obtain ⟨z1,z2⟩:=addL_step (a:=sl) (c:=vl) (i:=j) zo zo;rw [z2];have hr3:Rd (Blk g12 (vl.map u32v) 296 (0,0)::Blk g7 (ws.map u32v) 297 (0,0)::Blk g6 ((List.replicate 8 (0:UInt32)).map u32v) 296 (0,0)::Blk g3 (((List.zipWith (·+·) sl vl).take j++sl.getD j 0::sl.drop (j+1)).map u32v) 296 (0,0)::R) ⟨g3,0+j,none⟩ (u32v (sl.getD j 0)):=rd_mid hzl (.succ (.succ (.succ .zero))) (Nat.zero_add _);have hr7:Rd (Blk g12 (vl.map u32v) 296 (0,0)::Blk g7 (ws.map u32v) 297 (0,0)::Blk g6 ((List.replicate 8 (0:UInt32)).map u32v) 296 (0,0)::Blk g3 (((List.zipWith (·+·) sl vl).take j++sl.getD j 0::sl.drop (j+1)).map u32v) 296 (0,0)::R) ⟨g12,0+j,none⟩ (u32v (vl.getD j 0)):=rd_at zo .zero (Nat.zero_add _)
  generalize sl.getD j 0=x at *
  generalize vl.getD j 0=y at *
  refine wB ?_;refine A.start (id:=22) [8,9] mixed ?_
  (refine tM 0 ?_;refine tM 1 ?_;refine tk 2 _ rfl (Val.indexAddrA1 rfl rfl zo) ?_;refine tL 3 ?_;refine tM 4 ?_;refine tk 5 _ rfl (Val.indexAddrA1 rfl rfl zo) ?_;refine tL 6 ?_;refine tk 7 _ rfl (Val.addU rfl rfl) ?_;(refine tO 8 ?_;refine Do.val (Val.indexAddrA1 rfl rfl zo) rfl ⟨zN,?_⟩))
  refine tO 9 ?_;refine Do.store rfl rfl rfl (.succ (.succ (.succ .zero))) (by rw [Nat.zero_add];exact setAt_mid hzl) ⟨zN,?_⟩;refine A.done zK ?_;refine wB ?_;exact Fin.round (j+1) hjt zo (sub_cons rfl (sub_cons rfl (sub_cons rfl (sub_cons rfl sub_nil)))) (by rw [z1,List.append_assoc];exact Ent.rfl)
 obtain rfl:j=8:=by omega
 have hlen:(((List.zipWith (·+·) sl vl).take 8++sl.drop 8).map u32v).length=8:=by simp;omega
 have hones:=u32v_one ((List.zipWith (·+·) sl vl).take 8++sl.drop 8)
 have hfin:((List.zipWith (·+·) sl vl).take 8++sl.drop 8).map u32v=(List.zipWith (·+·) sl vl).map u32v:=by
  rw [List.take_of_length_le (by simp;omega),List.drop_of_length_le zo,List.append_nil]
 rw [← hfin]
 generalize ((List.zipWith (·+·) sl vl).take 8++sl.drop 8).map u32v=l at *
 (repeat' first|(refine O.loadAggR rfl (RdA.whole (.succ (.succ (.succ .zero)))) hlen rfl ?_)|refine Za ?_|apply Zc|apply Zd|apply Ze|apply Zf|refine ZB ?_|refine YA ?_|apply YD|apply YG|apply YJ)
 refine O.storeAgg rfl rfl hlen hones (.succ (.succ .zero)) (setAts_whole (by rw [hlen];rfl)) ?_;refine wB ?_;apply Fin.retC
 ·exact .agg rfl (RdA.whole (.succ (.succ .zero))) hlen .nil
 exact ⟨R,zE,rfl,rfl⟩
theorem RdB.cutLo {L:List Res} {ad:Option Addr} {c k:Nat} {l:List UInt8} (h:RdB L (.slice ad l.length c) l) (hk:k≤l.length):RdB L (.slice (cutAt ad c k 1) (l.length - k) (c - k)) (l.drop k):=by
 have:=RdSl.cutLo (L:=L) h hk;rw [Nat.mul_one,← List.map_drop] at this
 unfold RdB;rw [List.length_drop];exact this
theorem w64 (n:Nat) (h:n<18446744073709551616):IntKind.u64.wrap (n:Int)=(n:Int):=by
 unfold IntKind.wrap;simp only [IntKind.bits,IntKind.signed]
 simp
 omega
theorem tmod64 (n:Nat):((n:Int)).tmod 64=((n % 64:Nat):Int):=by
 rw [Int.tmod_eq_emod_of_nonneg zo];rfl
theorem be_drop (n:Nat):∀ (j m:Nat),m<j→(be n j).drop m=UInt8.ofNat (n / 256 ^ (j - 1 - m))::(be n j).drop (m+1)
 | 0,_,h=>by omega
 | j+1,0,_=>by simp [be]
 | j+1,m+1,h=>by
  have:=be_drop n j m zo;simp only [be,List.drop_succ_cons];rw [this,show j+1 - 1 - (m+1)=j - 1 - m by omega]
theorem take_step {α:Type} {l:List α} {m:Nat} {x:α} (h:l.drop m=x::l.drop (m+1)):l.take (m+1)=l.take m++[x]:=by
 have h1:m<l.length:=by
  rcases Nat.lt_or_ge m l.length with h2|h2
  ·exact h2
  ·rw [List.drop_of_length_le h2] at h;cases h
 rw [List.drop_eq_getElem_cons h1] at h
 rw [List.take_succ_eq_append_getElem h1,(List.cons.inj h).1]
theorem len8_byte (n m:Nat) (hm:m<8) (hn:n<1152921504606846976):IntKind.u8.wrap (((n*8:Nat):Int).fdiv (2 ^ (min (8*(7 - (m:Int))).toNat 64)))=((UInt8.ofNat (n*8 / 256 ^ (7 - m))).toNat:Int):=by
 have e1:(8*(7 - (m:Int))).toNat=8*(7 - m):=by omega
 rw [e1,Nat.min_eq_left zo,Int.fdiv_eq_ediv_of_nonneg _ (Int.pow_nonneg (by decide))]
 have e2:(2:Int) ^ (8*(7 - m))=((256 ^ (7 - m):Nat):Int):=by
  rw [Int.natCast_pow,Int.pow_mul];rfl
 rw [e2,← Int.natCast_ediv,w8]
 simp
theorem cells_len (s:S8):s.cells.length=8:=rfl
set_option maxHeartbeats 2000000 in
theorem sum2_spec (v:Value) (b:List UInt8) (hv:RdB R v b) (hb:b.length≤1000000000000) :
 Ct prog 136 #[v] e R (fun v' L'=>∃ ad c,v'=.slice ad (sha b).length c∧L'=OwnB (.slice ad (sha b).length c) (sha b)::R):=by
 refine Ct.of_sep (hv.shape zo) ?_;rintro ⟨⟨ad,cap,rfl,h3,h4,h5,h6⟩,_⟩;simp only [maxLen] at h4
 refine Ct.enter (args:=[_]) func136 rfl ntmps136 results136 rfl ?_
 (repeat' first|(refine O.buildArr (cs:=h0P.cells) rfl rfl rfl zQ rfl ?_)|(refine O.alloc (cs:=(List.replicate 8 (0:UInt32)).map u32v) rfl rfl ?_;intro _)|(refine O.storeAgg (vs:=h0P.cells) rfl rfl rfl (u32v_one h0P.list) .zero (setAts_whole rfl) ?_)|refine Zb ?_|apply Zc|apply Zd|apply Ze|apply Zf)
 rename_i g3;refine O.call rfl rfl (consts_spec _ e) ?_;rintro _ _ ⟨rfl,rfl⟩
 (repeat' first|(refine O.alloc (cs:=(List.replicate 64 (0:UInt32)).map u32v) rfl rfl ?_;intro _)|(refine O.storeAgg (vs:=kw.map u32v) rfl rfl rfl (u32v_one kw) .zero (setAts_whole rfl) ?_)|refine Za ?_|refine Zb ?_|apply Zc|apply Zd|apply Ze|apply Zf|refine Zk ?_|apply YB)
 rename_i g4;refine W.loop (ι:=Nat × S8 × Option Addr × Nat) (fun i=>[(0,.slice i.2.2.1 (b.drop (64*i.1)).length i.2.2.2),(3,pt g3),(4,pt g4),(5,.int .i64 (b.length:Int))])
  (fun i=>Blk g3 i.2.1.cells 296 (0,0)::Blk g4 (kw.map u32v) 297 (0,0)::R)
  (fun i=>64*i.1≤b.length∧(∀ T,foldB h0P (b++T)=foldB i.2.1 (b.drop (64*i.1)++T))∧RdB R (.slice i.2.2.1 (b.drop (64*i.1)).length i.2.2.2) (b.drop (64*i.1))∧(b.drop (64*i.1)).length≤i.2.2.2∧i.2.2.2≤cap) (fun i=>b.length - 64*i.1) (0,h0P,ad,cap)
  ⟨by omega,fun _=>rfl,hv,h3,Nat.le_refl _⟩ (sub_cons rfl (sub_cons rfl (sub_cons rfl (sub_cons rfl sub_nil)))) zE ?_
 rintro ⟨i,S,ad1,c1⟩ ⟨hi,hf,hrb,hc1,hc2⟩;dsimp only at hi hf hrb hc1 hc2 ⊢
 have hbl:(b.drop (64*i)).length=b.length - 64*i:=List.length_drop;have hdd:(b.drop (64*i)).drop 64=b.drop (64*(i+1)):=by rw [List.drop_drop,show 64*i+64=64*(i+1) by omega]
 by_cases hlt:64≤(b.drop (64*i)).length
 ·have hcut:=RdB.cutHi hrb hlt;have hlo:=RdB.cutLo hrb hlt;have htl:((b.drop (64*i)).take 64).length=64:=by rw [List.length_take];omega
  have hf2:∀ T,foldB h0P (b++T)=foldB (blockP S ((b.drop (64*i)).take 64)) (b.drop (64*(i+1))++T):=fun T=>by
   rw [hf T,foldB_step (by rw [List.length_append];omega),List.take_append_of_le_length hlt,List.drop_append_of_le_length hlt,hdd]
  rw [hdd] at hlo
  have hl2:(b.drop (64*(i+1))).length=(b.drop (64*i)).length - 64:=by rw [List.length_drop,hbl];omega
  rw [← hl2] at hlo
  generalize hB:b.drop (64*i)=B at *
  refine wB ?_;refine A.start (id:=5) [4] mixed ?_
  (refine tJ 0 ?_;refine tM 1 ?_;refine tk 2 _ rfl (Val.sliceHi rfl rfl zo zo) ?_)
  refine tO 3 ?_;refine Do.call rfl rfl (block_spec _ e S _ (B.take 64) g4 hcut.tail.tail htl (RdA.whole (.succ .zero))) ?_;rintro _ _ ⟨rfl,rfl⟩;refine ⟨fun _=>Ent.rfl,?_⟩
  generalize blockP S (B.take 64)=S2 at *
  refine tO 4 ?_;refine Do.storeAgg (vs:=S2.cells) rfl rfl (cells_len S2) (u32v_one S2.list) .zero (setAts_whole ((cells_len S).trans (cells_len S2).symm)) ⟨zN,?_⟩;refine A.done zK ?_;refine wB ?_;refine Fin.round (i+1,S2,cutAt ad1 c1 64 1,c1 - 64) ⟨by omega,hf2,hlo,by dsimp only;omega,by dsimp only;omega⟩ zd ?_ zE;dsimp only;rw [hl2];exact sub_cons rfl (sub_cons rfl (sub_cons rfl (sub_cons rfl sub_nil)))
 have hzb:zs b.length=zs (b.drop (64*i)).length:=by unfold zs;omega
 generalize b.drop (64*i)=B at *
 have hB:B.length<64:=by omega
 (repeat (refine wA ?_;intros))
 refine O.do <| Do.ent1 (own_in (n:=1) (k:=0) (cap:=0) zo zl (by simp)) (Do.append rfl rfl rfl .zero hrb.tail.tail rfl rfl u8_one zm zo fun ad3 c3 _=>?_)
 simp only [Nat.zero_add,Nat.zero_mul,List.take_zero,List.nil_append]
 (repeat (refine wA ?_;intros))
 refine O.do (Do.append rfl rfl rfl (.succ .zero) (RdSl.blk .zero rfl zl) rfl rfl zO zm zo fun ad4 c4 _=>?_)
 refine wB ?_;refine W.loop (ι:=Nat × Option Addr × Nat) (fun i=>[(6,.slice i.2.1 (B.length+1+i.1) i.2.2),(3,pt g3),(4,pt g4),(5,.int .i64 (b.length:Int))])
  (fun i=>Own tU8 1 (.slice i.2.1 (B.length+1+i.1) i.2.2) (B.length+1+i.1) ((B++128::List.replicate i.1 0).map u8)::Blk g3 S.cells 296 (0,0)::Blk g4 (kw.map u32v) 297 (0,0)::R)
  (fun i=>i.1≤zs B.length) (fun i=>zs B.length - i.1) (0,ad4,c4)
  (Nat.zero_le _) (sub_cons rfl (sub_cons rfl (sub_cons rfl (sub_cons rfl sub_nil)))) (by dsimp only;rw [List.map_append];exact zE) ?_
 rintro ⟨z,ad5,c5⟩ hz;dsimp only at hz ⊢
 have hz64:zs B.length<64:=by unfold zs;omega
 have hzd:zs B.length=(119 - B.length % 64) % 64:=rfl;have htm:=tmod64 (B.length+1+z)
 by_cases hzt:z<zs B.length
 ·(repeat (refine wA ?_;intros))
  refine O.do (Do.append rfl rfl rfl (.succ .zero) (RdSl.blk .zero rfl zl) rfl rfl zO zm zo fun ad6 c6 _=>?_)
  refine wB ?_;refine Fin.round (z+1,ad6,c6) hzt zd (sub_cons rfl (sub_cons rfl (sub_cons rfl (sub_cons rfl sub_nil)))) ?_;dsimp only
  have he:(B++128::List.replicate (z+1) (0:UInt8)).map u8=(B++128::List.replicate z 0).map u8++[.int .u8 0]:=by
   rw [List.replicate_succ',show B++128::(List.replicate z 0++[0])=(B++128::List.replicate z (0:UInt8))++[0] by simp,List.map_append]
   rfl
  rw [he];exact zE
 obtain rfl:z=zs B.length:=by omega
 have hXl:(B++128::List.replicate (zs B.length) (0:UInt8)).length=B.length+1+zs B.length:=by simp;omega
 have hpad:∀ m,(B++128::List.replicate (zs B.length) (0:UInt8))++m=B++128::(List.replicate (zs B.length) 0++m):=fun m=>by simp
 rw [← hXl] at htm ⊢
 have hX128:(B++128::List.replicate (zs B.length) (0:UInt8)).length≤128:=by omega
 have hX56:(B++128::List.replicate (zs B.length) (0:UInt8)).length % 64=56:=by omega
 have hsha:sha b=outP (foldB S (B++128::(List.replicate (zs B.length) 0++len8 b.length))):=by
  rw [sha,hf,padT,hzb]
 rw [← hpad] at hsha
 clear hpad hXl
 generalize B++128::List.replicate (zs B.length) (0:UInt8)=X at *
 have h8:(len8 b.length).length=8:=be_length _ _;refine wB ?_;refine W.loop (ι:=Nat × Option Addr × Nat) (fun i=>[(7,.int .i64 (7 - (i.1:Int))),(6,.slice i.2.1 (X.length+i.1) i.2.2),(3,pt g3),(4,pt g4),(5,.int .i64 (b.length:Int))])
  (fun i=>Own tU8 1 (.slice i.2.1 (X.length+i.1) i.2.2) (X.length+i.1) ((X++(len8 b.length).take i.1).map u8)::Blk g3 S.cells 296 (0,0)::Blk g4 (kw.map u32v) 297 (0,0)::R)
  (fun i=>i.1≤8) (fun i=>8 - i.1) (0,ad5,c5)
  (Nat.zero_le _) (sub_cons rfl (sub_cons rfl (sub_cons rfl (sub_cons rfl (sub_cons rfl sub_nil))))) (by dsimp only;rw [List.take_zero,List.append_nil];exact zE) ?_
 rintro ⟨m,ad7,c7⟩ hm;dsimp only at hm ⊢
 by_cases hmt:m<8
 ·have hbyte:=len8_byte b.length m hmt zo;have hw1:=w64 b.length zo
  have hw2:IntKind.u64.wrap ((b.length:Int)*8)=((b.length*8:Nat):Int):=by
   rw [← w64 (b.length*8) zo];rfl
  have hw3:IntKind.u64.wrap (7 - (m:Int))=7 - (m:Int):=by
   rw [show (7 - (m:Int))=((7 - m:Nat):Int) by omega];exact w64 _ zo
  have hw4:IntKind.u64.wrap (8*(7 - (m:Int)))=8*(7 - (m:Int)):=by
   rw [show (8*(7 - (m:Int)))=((8*(7 - m):Nat):Int) by omega];exact w64 _ zo
  (repeat' first|(apply O.shr;exact rfl;exact rfl;(rw [hw3,hw4];omega);exact rfl)|(apply O.convInt;exact rfl;exact rfl)|refine Za ?_|apply Zc|apply Zd|apply Ze|apply Zf|refine ZJ ?_|refine ZX ?_|refine Yi fun _=>?_|refine Yz ?_|apply YB|apply YC)
  rw [hw1,hw2,hw3,hw4,show IntKind.u64.bits=64 from rfl,hbyte];have hdr:=be_drop (b.length*8) 8 m hmt;have hstep:(len8 b.length).take (m+1)=(len8 b.length).take m++[UInt8.ofNat (b.length*8 / 256 ^ (7 - m))]:=take_step hdr;clear hbyte hdr
  generalize UInt8.ofNat (b.length*8 / 256 ^ (7 - m))=cc at *
  have htk:(X++(len8 b.length).take (m+1)).map u8=(X++(len8 b.length).take m).map u8++[u8 cc]:=by
   rw [hstep,← List.append_assoc,List.map_append];rfl
  generalize X++(len8 b.length).take m=Y at *
  refine O.do (Do.append rfl rfl rfl (.succ .zero) (RdSl.blk .zero rfl zl) rfl rfl zO zm zo fun ad6 c6 _=>?_)
  refine wB ?_;refine Fin.round (m+1,ad6,c6) hmt zd ?_ ?_
  ·dsimp only;rw [show (7 - ((m+1:Nat):Int))=7 - (m:Int) - 1 by omega];exact sub_cons rfl (sub_cons rfl (sub_cons rfl (sub_cons rfl (sub_cons rfl sub_nil))))
  ·dsimp only;rw [htk];exact zE
 obtain rfl:m=8:=by omega
 rw [List.take_of_length_le zo];have hYl:(X++len8 b.length).length=X.length+8:=by rw [List.length_append,h8]
 have hY64:(X++len8 b.length).length % 64=0:=by omega
 rw [← hYl]
 generalize X++len8 b.length=Y at *
 refine wB ?_;refine W.of_sep (ownB_cap .zero) ?_;rintro ⟨ad8,c8,hq,hcap,hcap2⟩;obtain ⟨rfl,_,rfl⟩:=Value.slice.inj hq;clear hq;simp only [maxLen] at hcap2
 refine W.loop (ι:=Nat × S8 × Option Addr × Nat) (fun i=>[(6,.slice i.2.2.1 (Y.drop (64*i.1)).length i.2.2.2),(3,pt g3),(4,pt g4)])
  (fun i=>Blk g3 i.2.1.cells 296 (0,0)::OwnB (.slice ad7 Y.length c7) Y::Blk g4 (kw.map u32v) 297 (0,0)::R)
  (fun i=>64*i.1≤Y.length∧(foldB S Y=foldB i.2.1 (Y.drop (64*i.1)))∧RdB (OwnB (.slice ad7 Y.length c7) Y::Blk g4 (kw.map u32v) 297 (0,0)::R) (.slice i.2.2.1 (Y.drop (64*i.1)).length i.2.2.2) (Y.drop (64*i.1))∧(Y.drop (64*i.1)).length≤i.2.2.2∧i.2.2.2≤9223372036854775807) (fun i=>Y.length - 64*i.1) (0,S,ad7,c7)
  ⟨by omega,rfl,RdSl.own .zero,hcap,by dsimp only;omega⟩ (sub_cons rfl (sub_cons rfl (sub_cons rfl sub_nil))) zE ?_
 rintro ⟨i,V,ad9,c9⟩ ⟨hi,hf,hrb,hc1,hc2⟩;dsimp only at hi hf hrb hc1 hc2 ⊢
 have hbl:(Y.drop (64*i)).length=Y.length - 64*i:=List.length_drop;have hdd:(Y.drop (64*i)).drop 64=Y.drop (64*(i+1)):=by rw [List.drop_drop,show 64*i+64=64*(i+1) by omega]
 by_cases hlt:0<(Y.drop (64*i)).length
 ·have hlt:64≤(Y.drop (64*i)).length:=by omega
  have hcut:=RdB.cutHi hrb hlt;have hlo:=RdB.cutLo hrb hlt;have htl:((Y.drop (64*i)).take 64).length=64:=by rw [List.length_take];omega
  have hf2:foldB S Y=foldB (blockP V ((Y.drop (64*i)).take 64)) (Y.drop (64*(i+1))):=by
   rw [hf,foldB_step hlt,hdd]
  rw [hdd] at hlo
  have hl2:(Y.drop (64*(i+1))).length=(Y.drop (64*i)).length - 64:=by rw [List.length_drop,hbl];omega
  rw [← hl2] at hlo
  generalize hBB:Y.drop (64*i)=B2 at *
  refine wB ?_;refine A.start (id:=15) [4] mixed ?_
  (refine tJ 0 ?_;refine tM 1 ?_;refine tk 2 _ rfl (Val.sliceHi rfl rfl zo zo) ?_)
  refine tO 3 ?_;refine Do.call rfl rfl (block_spec _ e V _ (B2.take 64) g4 hcut.tail htl (RdA.whole (.succ (.succ .zero)))) ?_;rintro _ _ ⟨rfl,rfl⟩;refine ⟨fun _=>Ent.rfl,?_⟩
  generalize blockP V (B2.take 64)=V2 at *
  refine tO 4 ?_;refine Do.storeAgg (vs:=V2.cells) rfl rfl (cells_len V2) (u32v_one V2.list) .zero (setAts_whole ((cells_len V).trans (cells_len V2).symm)) ⟨zN,?_⟩;refine A.done zK ?_;refine wB ?_;refine Fin.round (i+1,V2,cutAt ad9 c9 64 1,c9 - 64) ⟨by omega,hf2,hlo,by dsimp only;omega,by dsimp only;omega⟩ zd ?_ zE;dsimp only;rw [hl2];exact sub_cons rfl (sub_cons rfl (sub_cons rfl sub_nil))
 have hY0:Y.drop (64*i)=[]:=List.eq_nil_of_length_eq_zero zo;have hfin:foldB S Y=V:=by rw [hf,hY0];exact foldB_end (by simp)
 rw [hsha,hfin];clear hf hsha hfin;have hvl:V.list.length=8:=rfl;refine wB ?_;rw [S8.cells_eq];refine W.loop (ι:=Nat × Option Addr × Nat) (fun i=>[(9,.int .i64 (i.1:Int)),(8,.slice i.2.1 (4*i.1) i.2.2),(3,pt g3)])
  (fun i=>Own tU8 1 (.slice i.2.1 (4*i.1) i.2.2) (4*i.1) (((V.list.take i.1).flatMap outW).map u8)::Blk g3 (V.list.map u32v) 296 (0,0)::R)
  (fun i=>i.1≤8) (fun i=>8 - i.1) (0,none,0)
  (Nat.zero_le _) (sub_cons rfl (sub_cons rfl (sub_cons rfl sub_nil))) ((own_nil tU8 1).trans zE) ?_
 rintro ⟨j,ad10,c10⟩ hj;dsimp only at hj ⊢
 by_cases hjt:j<8
 ·have hr:Rd (Blk g3 (V.list.map u32v) 296 (0,0)::R) ⟨g3,0+j,none⟩ (u32v (V.list.getD j 0)):=rd_at zo .zero (Nat.zero_add _)
  have hst:((V.list.take (j+1)).flatMap outW).map u8=((V.list.take j).flatMap outW).map u8++(outW (V.list.getD j 0)).map u8:=by
   have h64:j<V.list.length:=hjt;rw [List.take_succ_eq_append_getElem h64,List.flatMap_append,List.map_append,List.getD_eq_getElem?_getD,List.getElem?_eq_getElem h64]
   rfl
  generalize V.list.getD j 0=x at *
  refine wB ?_;refine A.begin (id:=21) [22] (Blk g3 (V.list.map u32v) 296 (0,0)::R) mixed ?_
  (refine tM 0 ?_;refine tM 1 ?_;refine tk 2 _ rfl (Val.indexAddrA1 rfl rfl zo) ?_;refine tL 3 ?_;refine tk 4 _ rfl (Val.shrU rfl rfl zo) ?_;refine tk 5 _ rfl (Val.convU8 rfl) ?_;refine tM 6 ?_;refine tk 7 _ rfl (Val.indexAddrA1 rfl rfl zo) ?_;refine tL 8 ?_;refine tk 9 _ rfl (Val.shrU rfl rfl zo) ?_;refine tk 10 _ rfl (Val.convU8 rfl) ?_;refine tM 11 ?_;refine tk 12 _ rfl (Val.indexAddrA1 rfl rfl zo) ?_;refine tL 13 ?_;refine tk 14 _ rfl (Val.shrU rfl rfl zo) ?_;refine tk 15 _ rfl (Val.convU8 rfl) ?_;refine tM 16 ?_;refine tk 17 _ rfl (Val.indexAddrA1 rfl rfl zo) ?_;refine tL 18 ?_;refine tk 19 _ rfl (Val.convU8 rfl) ?_)
  refine tO 20 ?_;refine Do.buildSlice (el:=tU8) (n:=1) (z:=.int .u8 0) rfl rfl rfl rfl zQ rfl fun gz=>⟨fun _=>zE,?_⟩
  refine tO 21 ?_;refine Do.append rfl rfl rfl (.succ .zero) (RdSl.blk .zero rfl zl) rfl rfl zO zm zo fun ad11 c11 _=>⟨fun _=>zE,?_⟩
  ((refine tO 22 ?_;refine dV (Val.assign rfl) ?_))
  refine A.done zK ?_;refine wB ?_;refine Fin.round (j+1,ad11,c11) hjt zd ?_ ?_
  ·dsimp only;rw [Nat.mul_add];exact sub_cons rfl (sub_cons rfl (sub_cons rfl sub_nil))
  ·dsimp only;rw [hst,Nat.mul_add];exact (show Ent _ (Own tU8 1 (.slice ad11 (4*j+4*1) c11) (4*j+4*1) (((V.list.take j).flatMap outW).map u8++(outW x).map u8)::Blk g3 (V.list.map u32v) 296 (0,0)::R) from zE)
 obtain rfl:j=8:=by omega
 rw [List.take_of_length_le zo];refine wB ?_;exact Fin.ret (OwnB (.slice ad10 (outP V).length c10) (outP V)::R) rfl (show Ent (Own tU8 1 (.slice ad10 32 c10) 32 ((outP V).map u8)::Blk g3 (V.list.map u32v) 296 (0,0)::R) _ from zE) ⟨ad10,c10,rfl,rfl⟩
end Go.Proofs
namespace Go.Bs
section
variable {P:Program} {N:Fr} {Q:Goal} {σ:Env} {e:World} {L:List Res}
theorem RdSl.cap {n k c c':Nat} {ad:Option Addr} {xs:List Value} (r:RdSl L n (.slice ad k c) k xs) (h1:k≤c') (h2:c'≤c):RdSl L n (.slice ad k c') k xs:=fun h x=>by
 obtain ⟨a1,ad2,cap,a2,a3,a4,a5,a6⟩:=r h x
 cases a2
 exact ⟨a1,ad,c',rfl,h1,by omega,fun hn=>by have:=a5 hn;omega,a6⟩
end
end Go.Bs
namespace Go.Proofs
open Go.Bs
attribute [local irreducible] Bs.Val Bs.Do Bs.O Bs.W Bs.Fin Bs.A Bs.Ct Bs.RdSl Bs.Rd Bs.Sat Bs.Blk Bs.Ob Bs.Own Bs.View Bs.Ent Bs.Ex Bs.All Bs.Pu Bs.Base Bs.sepL Bs.RdA
theorem chunk_spec (R:List Res) (e:World) (ad:Option Addr) (l c:Nat) :
 Ct Tryz.prog 230 #[.slice ad l c,.int .i64 64] e R (fun v' L'=>∃ gs gn,v'=.func (.func 274) #[] #[pt gs,pt gn]∧L'=Blk gs [.slice ad l c] 30 (0,0)::Blk gn [.int .i64 64] 3 (0,0)::R):=by
 refine Ct.enter (args:=[_,_]) Tryz.func230 rfl Tryz.ntmps230 Tryz.results230 rfl ?_
 (repeat (refine wA ?_;intros))
 rename_i gs gn;exact Fin.ret _ rfl (show Ent _ (Blk gs [.slice ad l c] 30 (0,0)::Blk gn [.int .i64 64] 3 (0,0)::R) from zE) ⟨gs,gn,rfl,rfl⟩
theorem part_rd {L:List Res} {gl ol c m k:Nat} {Y:List UInt8} (h:RdB L (.slice (some ⟨gl,ol,none⟩) Y.length c) Y) (hY:Y.length=64*m) (hYc:Y.length≤c) (hlt:k<m):RdB L (.slice (some ⟨gl,ol+64*k,none⟩) 64 64) ((Y.drop (64*k)).take 64):=by
 have h1:=RdB.cutLo h (k:=64*k) zo;rw [cut_slice zo] at h1
 have h2:(Y.drop (64*k)).length=Y.length - 64*k:=List.length_drop;rw [← h2] at h1
 have h3:=RdB.cutHi h1 (k:=64) zo;have h4:((Y.drop (64*k)).take 64).length=64:=by rw [List.length_take];omega
 unfold RdB at h3 ⊢
 rw [h4] at h3 ⊢
 exact RdSl.cap h3 zo zo
theorem iter_spec (e:World) (l gs gn m gl ol c:Nat) (Y:List UInt8) (J:Nat→List Res) (hY:Y.length=64*m) (hc:c≤9223372036854775807) (hYc:Y.length≤c)
 (hs:∀ k,Rd (J k) ⟨gs,0,none⟩ (.slice (some ⟨gl,ol,none⟩) Y.length c)) (hn:∀ k,Rd (J k) ⟨gn,0,none⟩ (.int .i64 64))
 (hround:∀ k,k<m→Rt Tryz.prog l #[.slice (some ⟨gl,ol+64*k,none⟩) 64 64] e (J k) (fun v' L'=>v'=.bool true∧L'=J (k+1))) :
 Ct Tryz.prog 274 #[.func (.yield l) #[] #[],pt gs,pt gn] e (J 0) (fun _ L'=>L'=J m):=by
 refine Ct.enter (args:=[_,_,_]) Tryz.func274 rfl Tryz.ntmps274 Tryz.results274 rfl ?_;refine wB ?_;refine W.loop (ι:=Nat) (fun k=>[(4,.int .i64 ((64*k:Nat):Int)),(0,.func (.yield l) #[] #[]),(1,pt gs),(2,pt gn)]) J (fun k=>k≤m) (fun k=>m - k) 0 (Nat.zero_le _) (sub_cons rfl (sub_cons rfl (sub_cons rfl (sub_cons rfl sub_nil)))) Ent.rfl ?_;intro k hk;have hs':=hs;have hn':=hn;have hs:=hs k;have hn:=hn k
 by_cases hlt:k<m
 ·have hrt:=hround k hlt
  (repeat' first|refine W.ofIn (c:=.region 4 _ _) ?_|refine Za ?_|apply Zc|apply Zd|apply Ze|apply Zf|refine Zi ?_|refine Zk ?_|refine ZA ?_|refine Yz ?_|apply YB|apply YC|(refine A.start (id:=3) [6] Tryz.mixed ?_;all_goals (refine tL 0 ?_);all_goals (refine tL 1 ?_);all_goals (refine tM 2 ?_);all_goals (refine tk 3 _ rfl (Val.sliceLo rfl rfl zo zo) ?_);all_goals (refine tk 4 _ rfl (Val.len rfl) ?_);all_goals (refine tk 5 _ rfl (Val.min rfl rfl) ?_);all_goals ((refine tO 6 ?_;refine dV (Val.assign rfl) ?_));all_goals (refine A.done zK ?_)))
  have e1:(((64*k:Nat):Int)).toNat=64*k:=rfl;rw [e1,if_neg zo];have e2:(((64*k:Nat):Int)+64).toNat=64*k+64:=by omega
  have e3:cutAt (some ⟨gl,ol,none⟩) (64*k+64) (64*k) 1=some ⟨gl,ol+64*k,none⟩:=cut_slice zo;have e4:64*k+64 - 64*k=64:=by omega
  refine WI.region ?_;refine OI.val _ rfl (Val.move rfl) rfl ?_;refine OI.val _ rfl (Val.load rfl zR) rfl ?_;refine OI.val _ rfl (Val.move rfl) rfl ?_;refine OI.val _ rfl (Val.move rfl) rfl ?_;refine OI.val _ rfl (Val.move rfl) rfl ?_;refine OI.val _ rfl (Val.add64 rfl rfl zo) rfl ?_;refine OI.val _ rfl (Val.move rfl) rfl ?_;refine OI.val _ rfl (Val.move rfl) rfl ?_;refine OI.val _ rfl (Val.add64 rfl rfl zo) rfl ?_;refine OI.val _ rfl (Val.slice3 rfl rfl rfl rfl zo zo zo zo) rfl ?_;rw [e1,e2,e3,e4];refine OI.yield rfl rfl rfl hrt ?_;rintro _ _ ⟨rfl,rfl⟩;refine OI.val _ rfl (Val.not_t rfl) rfl ?_;refine OI.nil ?_;have hs:=hs' (k+1);have hn:=hn' (k+1);refine wB ?_;refine Fin.round (k+1) hlt zo ?_ Ent.rfl;rw [show ((64*(k+1):Nat):Int)=((64*k:Nat):Int)+64 by omega];exact sub_cons rfl (sub_cons rfl (sub_cons rfl (sub_cons rfl sub_nil)))
 obtain rfl:k=m:=by omega
 refine wB ?_;exact Fin.stop (J k) rfl Ent.rfl rfl
end Go.Proofs
