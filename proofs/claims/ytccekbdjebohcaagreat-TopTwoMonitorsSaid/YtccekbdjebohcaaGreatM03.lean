/- Part 3 of a proof of this: TopTwoMonitors returns true for any arguments; nothing of the old memory is turned. No condition. -/
import Derived.Test.YtccekbdjebohcaaGreatM02
set_option linter.unusedVariables false
set_option linter.unusedSimpArgs false
namespace Go.Bs
def Fw (ro:Option Nat):Fence:={ Fence.wide with round:=ro }
theorem Ft {ro:Option Nat} {n:Nat} {P:Program} {f:FuncId} {args:Array Value} {w:World} {R:Ending→World→Prop} (h:Calls P f args w R):CallsIn (Fw ro) n P f args w R:=by
 have h1:=(callsIn_wide (n:=n)).2 h
 cases ro with
 | none=>exact h1
 | some l=>exact h1
theorem IJ {ro:Option Nat} {n:Nat} {P:Program} {row:String} {args:Array Value} {w:World} {R:Value→World→Prop} (h:Rows P row args w R):RowsIn (Fw ro) n P row args w R:=fun c cs _=>by
 obtain ⟨v,w',r,s⟩:=h c cs;exact ⟨v,w',r,by have:=stepsIn_wide.2 s;cases ro<;>exact this⟩
def Bv:Op→Bool
 | .defer _=>false
 | _=>true
theorem Fu {ro:Option Nat} {P:Program} {o:Oper} {a:Act} {w:World} {next:Act→World→Prop} {Q:Exit→Act→World→Prop} (hd:Bv o.op=true) (h:o.wp P a w next Q):o.wpIn (Fw ro) 0 P a w next Q:=by
 refine ⟨fun _ _=>trivial,?_⟩;rw [Oper.semAt_eq _ _ _ (fun c hc=>by rw [hc] at hd;cases hd)];unfold Oper.wp at h
 cases hr:(execOp a.eval o).run P w with
 | ok x w' =>
  rw [hr] at h
  cases x with
  | value v=>exact h
  | skip=>exact h
  | defer d=>exact h
  | enter f args=>exact ⟨fun h=>by cases ro<;>simp [Fw,Fence.wide] at h,Ft h⟩
  | row r args=>exact ⟨fun h=>by cases ro<;>simp [Fw,Fence.wide] at h,IJ h⟩
  | _=>exact h.elim
 | halt x w' =>
  rw [hr] at h
  cases x with
  | panic v=>exact h
  | _=>exact h.elim
def OI (ro:Option Nat) (P:Program) (N:Fr) (all:Array Oper) (l:List Oper) (Q:fM) (σ:Env) (e:World) (L:List cK):Prop:=∀ a w,Has N σ a→Sat e L w→wpListIn (Fw ro) 0 P all (WQ N Q) l a w
def WI (ro:Option Nat) (P:Program) (N:Fr) (c:Code) (Q:fM) (σ:Env) (e:World) (L:List cK):Prop:=∀ a w,Has N σ a→Sat e L w→c.wpIn (Fw ro) 0 P (WQ N Q) a w
section
variable {P:Program} {N:Fr} {Q:fM} {σ:Env} {e:World} {L:List cK} {all:Array Oper} {rest:List Oper} {ro:Option Nat}
variable {d:Nat} {op:Op} {ty:TypeId} {pos:String} {af:Array Edge} {x:Operand}
theorem W.Vl {c:Code} (h:WI none P N c Q σ e L):W P N c Q σ e L:=fun a w ha hs=>wpIn_wide.1 (h a w ha hs)
theorem WI.region {id:Nat} {l:List Oper} (h:OI ro P N l.toArray l Q σ e L):WI ro P N (.region id l.toArray false) Q σ e L:=fun a w ha hs=>wpIn_region_lit (h a w ha hs)
theorem WI.block {id:Nat} {c:Code} (h:WI ro P N c (jQ id Q) σ e L):WI ro P N (.block id c) Q σ e L:=fun a w ha hs =>
 wpIn_block (Go.wpIn_mono (h a w ha hs) fun x a w q=>by
  cases x with
  | exit i =>
   obtain ⟨σ',h1,h2⟩:=q;simp only [Exit.inBlock];simp only [jQ] at h2
   split
   ·rename_i e;rw [aH e] at h2;exact ⟨σ',h1,h2⟩
   ·rename_i e;rw [aB e] at h2;exact ⟨σ',h1,h2⟩
  | _=>exact q)
theorem WI.code {c c':Code} (h:c=c') (k:WI ro P N c' Q σ e L):WI ro P N c Q σ e L:=h ▸ k
theorem OI.nil (h:Fin Q .normal σ e L):OI ro P N all [] Q σ e L:=fun _ w ha hs=>⟨σ,ha,h w hs⟩
theorem OI.do {dst:Option Tmp} (hn:Bv op=true) (h:Do P N ⟨dst,op,ty,pos,af,none⟩ (fun σ' L'=>OI ro P N all rest Q σ' e L') σ e L):OI ro P N all (⟨dst,op,ty,pos,af,none⟩::rest) Q σ e L :=
 fun a w ha hs=>wpListIn_plain rfl fun K hK=>Fu hn (h a w ha hs K _ fun _ _ a' w' ho z8 ny=>hK a' w' (ho a' w' z8 ny))
theorem OI.val (v:Value) (hn:Bv op=true) (h:cE P N op ty v σ e L) (hd:Nat.blt d N.n=true) (k:OI ro P N all rest Q ((d,v)::σ) e L):OI ro P N all (⟨some d,op,ty,pos,af,none⟩::rest) Q σ e L :=
 OI.do hn (bP h hd k)
def Rt (P:Program) (l:Nat) (args:Array Value) (e:World) (L:List cK) (Post:Value→List cK→Prop):Prop:=∀ w,Sat e L w→YieldAt Fence.wide 0 P l args w (jE e Post)
theorem OI.yield {l:Nat} {xs:List Operand} {vs:List Value} {ats:Array TypeId} {Post:Value→List cK→Prop} (hf:ev σ x=some (.func (.yield l) #[] #[])) (hx:py σ xs=some vs) (hd:Nat.blt d N.n=true) (h:Rt P l vs.toArray e L Post)
 (k:∀ v L',Post v L'→OI none P N all rest Q ((d,v)::σ) e L'):OI none P N all (⟨some d,.call { callee:=.value x,args:=xs.toArray,argTypes:=ats },ty,pos,af,none⟩::rest) Q σ e L:=fun a w ha hs =>
 wpListIn_plain rfl fun K hK=>by
  refine ⟨fun _ _=>trivial,?_⟩;obtain ⟨fn,tmps,assign,body,hy,hR⟩:=h w hs
  have h1:(execOp a.eval ⟨some d,.call { callee:=.value x,args:=xs.toArray,argTypes:=ats },ty,pos,af,none⟩).run P w=.ok (.round l fn tmps assign body) w:=by
   have h2:(#[]++xs.toArray.map a.eval:Array Value)=vs.toArray:=by simp [ha.py hx]
   simp only [execOp,resolve,ha.ev hf,Deferred.ofValue,Sem.run_bind,Sem.run_pure,Result.andThen_ok,invoke];rw [h2];exact hy
  rw [show (Fw none).round=none from rfl,Oper.semAt_none,h1,Oper.uponIn_round];refine ⟨fun h=>by simp [Fw,Fence.wide] at h,hR.mono ?_⟩;rintro _ w' ⟨v,L',rfl,hp,ny⟩;exact hK _ _ (k v L' hp _ _ (ha.put hd v) ny)
def Lp (l:Nat) (r:Loop):cK:=Ob l (.loop r)
def Df (D:Nat):cK:=Ob D (.deferred (some []))
theorem Sat.put {o o':Obj} {g:Nat} {R:List cK} {w:World} (h:Sat e (Ob g o::R) w):Sat e (Ob g o'::R) (w.putObj g o'):=by
 have hg:w.heap[g]?=some o:=by
  obtain ⟨h1,h2,_,b,_,hA,_⟩:=h.2.2.2;exact b g _ hA
 have cQ:g<w.heap.size:=(Array.getElem?_eq_some_iff.1 hg).1;refine h.change rfl rfl rfl fun h1 hle hA=>?_
 refine ⟨fun b=>if b=g then some o' else none,?_,by simp [Ob],?_,?_⟩
 ·intro b o2 hb
  by_cases eb:b=g
  ·subst eb;simp only [if_true] at hb;rw [← hb];exact World.putObj_heap_same cQ
  ·simp [eb] at hb
 ·intro b o2 hb hn
  by_cases eb:b=g
  ·subst eb;rw [show h1 b=_ from hA] at hn;cases hn
  ·simp [eb] at hb
 ·intro b hn o2 ho;have:b≠g:=by rintro rfl;rw [show h1 b=_ from hA] at hn;cases hn
  exact (World.putObj_heap_other this).trans ho
theorem Sat.obj {o:Obj} {g:Nat} {R:List cK} {w:World} (h:Sat e (Ob g o::R) w):w.heap[g]?=some o:=by
 obtain ⟨h1,h2,_,b,_,hA,_⟩:=h.2.2.2;exact b g _ hA
def QR (e:World) (l:Nat) (r:Loop) (L2:List cK):fM:=fun x σ w=>x=.normal∧Sat e (Lp l { r with state:=.busy }::L2) w
theorem Fin.Vm {l:Nat} {r:Loop} {L2:List cK} (h:cC L (Lp l { r with state:=.busy }::L2)):Fin (QR e l r L2) .normal σ e L:=fun w hs=>⟨rfl,hs.cN h⟩
def QA (P:Program) (N:Fr) (l:Nat) (r:Loop) (e:World) (Q:fM):fM:=fun x σ w=>x=.normal∧∃ L,Sat e (Lp l r::L) w∧WI (some l) P N r.body Q σ e (Lp l { r with state:=.busy }::L)
theorem Fin.Vn {l:Nat} {r:Loop} {L':List cK} (h:cC L (Lp l r::L')) (hb:WI (some l) P N r.body Q σ e (Lp l { r with state:=.busy }::L')):Fin (QA P N l r e Q) .normal σ e L:=fun w hs=>⟨rfl,L',hs.cN h,hb⟩
theorem Rt.mk {l p:Nat} {r:Loop} {v:Value} {L2:List cK} (ft:r.state=.ready) (Dj:r.pending=none) (XT:r.params=#[p]) (hp:Nat.blt p N.n=true) (hN:N.ds=[]) (hr:Has N σ { tmps:=r.tmps,defers:=[] })
 (h:WI (some l) P N r.assign (QA P N l r e (QR e l r L2)) ((p,v)::σ) e (Lp l r::L)):Rt P l #[v] e (Lp l r::L) (fun v' L'=>v'=.bool true∧L'=Lp l r::L2):=fun w hs=>by
 have hl:=hs.obj;refine ⟨_,_,_,_,run_yield hl (by rw [XT];rfl),roundIn_of_wpIn trivial ?_⟩;have hh:=hr.put hp v;have ht:((r.params.zip #[v]).foldl (fun tmps (t,a)=>tmps.setIfInBounds t a) r.tmps)=r.tmps.setIfInBounds p v:=by rw [XT];simp
 rw [ht];refine Go.wpIn_mono (h _ w hh hs) fun x a1 w1 q=>?_
 cases x with
 | normal =>
  obtain ⟨σ1,h1,_,L',fy,hb⟩:=q;have qL:=fy.obj;refine ⟨_,run_beginRound qL ft,?_⟩;refine Go.wpIn_mono (hb a1 _ h1 fy.put) fun x a2 w2 q=>?_
  cases x with
  | normal =>
   obtain ⟨σ2,h2,_,kY⟩:=q;have qs:=kY.obj;refine ⟨_,_,run_endRound none qs,.bool true,_,rfl,⟨rfl,rfl⟩,?_⟩;have h3:=kY.put (o':=.loop r)
   have h4:({ { r with state:=.busy } with state:=if (none:Option Code).isNone then .ready else .done,pending:=none }:Loop)=r:=by
    cases r;simp at ft Dj;subst ft Dj;rfl
   rw [h4];exact h3
  | panic _=>exact q.elim
  | outgrown=>exact q.elim
  | _=>obtain ⟨_,_,h2,_⟩:=q;cases h2
 | panic _=>exact q.elim
 | outgrown=>exact q.elim
 | _=>obtain ⟨_,_,h2,_⟩:=q;cases h2
def WM (P:Program) (fn:Func) (N:Nat) (c:Code) (Post:Value→List cK→Prop) (σ:Env) (e:World) (L:List cK):Prop :=
 ∀ a w,Has ⟨N,[]⟩ σ a→Sat e L w→c.wp P (bodyPostM Fence.wide 0 P fn (jE e Post)) a w
def OG (P:Program) (fn:Func) (N:Nat) (y:Code) (Post:Value→List cK→Prop) (e:World):Env→World→Prop:=fun σ w=>∀ a,Has ⟨N,[]⟩ σ a→y.wp P (bodyPostM Fence.wide 0 P fn (jE e Post)) a w
def XU:fM:=fun _ _ _=>False
theorem WM.seq {fn:Func} {n:Nat} {x y:Code} {Post:Value→List cK→Prop} (h:W P ⟨n,[]⟩ x (kg (OG P fn n y Post e) XU) σ e L):WM P fn n (.seq x y) Post σ e L:=fun a w ha hs =>
 wp_seq (Code.wp_mono (fun x a w q=>by
  cases x with
  | normal=>exact q.elim fun σ' h=>h.2 a h.1
  | panic _=>exact q.elim
  | outgrown=>exact q.elim
  | _=>obtain ⟨_,_,h2⟩:=q;exact h2.elim) (h a w ha hs))
theorem Fin.Dk {fn:Func} {n:Nat} {y:Code} {Post:Value→List cK→Prop} (h:WM P fn n y Post σ e L):Fin (kg (OG P fn n y Post e) Q) .normal σ e L:=fun w hs a ha=>h a w ha hs
theorem Ct.PI {f:FuncId} {fn:Func} {c:Code} {n:Nat} {args:List Value} {Post:Value→List cK→Prop}
 (hf:P.funcs[f]?=some fn) (hb:fn.body=some c) (hN:fn.ntmps=n) (hle:Nat.ble args.length n=true)
 (h:WM P fn n c Post (n4 0 args) e L):Ct P f args.toArray e L Post:=by
 subst hN;intro w hs;have hle:=Nat.le_of_ble_eq_true hle;refine (callsIn_wide (n:=0)).1 (callsIn_of_wp_marks hf hb trivial (wpIn_wide.2 (h _ w ⟨by simp;omega,rfl,fun k v hk=>?_⟩ hs)));have h1:=(mU args 0 k v hk).2;have cQ:k<args.length:=(List.getElem?_eq_some_iff.1 h1).1;rw [Array.getElem?_append_left (by simpa using cQ)]
 simpa using h1
def mk (D:Nat):Deferred:={ target:=.collected D,args:=#[] }
def KQ (D:Nat) (Post:Value→List cK→Prop):Value→List cK→Prop:=fun v L'=>∃ L1,L'=Df D::L1∧Post v L1
theorem Vo {fn:Func} {rs:Array ResultVar} {n D:Nat} {Post:Value→List cK→Prop} (hr:fn.results=rs) {x:Exit} {a:Act} {w:World} (q:WQ ⟨n,[mk D]⟩ (Aa rs (jE e (KQ D Post))) x a w):bodyPostM Fence.wide 0 P fn (jE e Post) x a w:=by
 subst hr
 have key:∀ σ',Has ⟨n,[mk D]⟩ σ' a→(∃ vs,pA σ' fn.results.toList=some vs∧jE e (KQ D Post) (.returned (z9 vs)) w)→LeavesInM Fence.wide 0 P fn a.tmps (jE e Post) a.defers .returning w:=fun σ' h1 ⟨vs,h2,v,L',h3,⟨L1,h4,h5⟩,h6⟩=>by
  cases h3
  subst h4;rw [h1.defers];refine ⟨by simp,.inl ⟨D,_,rfl,run_takeDeferred h6.obj,?_⟩⟩;exact ⟨_,pB h1 h2,_,L1,rfl,h5,h6.put.cN (cC.drop aX)⟩
 cases x with
 | normal=>obtain ⟨σ',h1,h2⟩:=q;exact key σ' h1 h2
 | ret=>obtain ⟨σ',h1,h2⟩:=q;exact key σ' h1 h2
 | panic _=>exact q.elim
 | outgrown=>exact q.elim
 | exit _=>obtain ⟨_,_,h2⟩:=q;exact h2.elim
 | goto _=>obtain ⟨_,_,h2⟩:=q;exact h2.elim
def Nl (P:Program) (fn:Func) (Post:Value→List cK→Prop) (e:World):Exit→Act→World→Prop:=bodyPostM Fence.wide 0 P fn (jE e Post)
def WB (P:Program) (fn:Func) (n:Nat) (c y:Code) (Post:Value→List cK→Prop) (σ:Env) (e:World) (L:List cK):Prop :=
 ∀ a w,Has ⟨n,[]⟩ σ a→Sat e L w→c.wp P (Exit.then (y.wp P (Nl P fn Post e)) (Nl P fn Post e)) a w
def OH (P:Program) (fn:Func) (n:Nat) (c y:Code) (Post:Value→List cK→Prop) (e:World):Env→World→Prop:=fun σ w=>∀ a,Has ⟨n,[]⟩ σ a→c.wp P (Exit.then (y.wp P (Nl P fn Post e)) (Nl P fn Post e)) a w
theorem Fin.sE {fn:Func} {n:Nat} {c y:Code} {Post:Value→List cK→Prop} (h:WB P fn n c y Post σ e L):Fin (kg (OH P fn n c y Post e) Q) .normal σ e L:=fun w hs a ha=>h a w ha hs
theorem WM.Vp {fn:Func} {n:Nat} {x b y:Code} {Post:Value→List cK→Prop} (h:W P ⟨n,[]⟩ x (kg (OH P fn n b y Post e) XU) σ e L):WM P fn n (.seq (.seq x b) y) Post σ e L:=fun a w ha hs =>
 wp_seq (wp_seq (Code.wp_mono (fun x a w q=>by
  cases x with
  | normal=>exact q.elim fun σ' h=>h.2 a h.1
  | panic _=>exact q.elim
  | outgrown=>exact q.elim
  | _=>obtain ⟨_,_,h2⟩:=q;exact h2.elim) (h a w ha hs)))
theorem WB.range {fn:Func} {n id:Nat} {g:Operand} {ps:Array Tmp} {assign body y:Code} {gf Vq:FuncId} {lb:List Value} {rs:Array ResultVar} {Post:Value→List cK→Prop} [i:cJ P gf Vq]
 (Us:fn.results=rs) (hg:ev σ g=some (.func (.func gf) #[] lb.toArray)) (M:List cK)
 (sF:∀ (l D:Nat) (r:Loop),r.state=.ready→r.pending=none→r.params=ps→r.assign=assign→r.body=body→Has ⟨n,[]⟩ σ { tmps:=r.tmps,defers:=[] } →
  Ct P Vq (.func (.yield l) #[] #[]::lb).toArray e (Lp l r::Df D::L) (fun _ L'=>L'=Lp l r::Df D::M))
 (hy:∀ D,W P ⟨n,[mk D]⟩ y (Aa rs (jE e (KQ D Post))) σ e (Df D::M)) :
 WB P fn n (.block id (.rangeFunc g ps assign body)) y Post σ e L:=fun a w ha hs=>by
 refine wp_block (wpIn_wide (n:=0) |>.1 (wpIn_rangeFunc fun f0 _=>?_));obtain ⟨r,hr⟩:∃ r:Loop,r={ state:=.ready,pending:=none,fn:=f0,tmps:=a.tmps,params:=ps,assign:=assign,body:=body,defers:=w.heap.size }:=⟨_,rfl⟩
 have fy:Sat e (Lp (w.heap.size+1) r::Df w.heap.size::L) ((w.alloc (.deferred (some []))).alloc (.loop r)):=by
  have h1:=(hs.alloc (.deferred (some []))).alloc (.loop r)
  rwa [World.size_alloc] at h1
 refine ⟨w.heap.size+1,[mk w.heap.size],(w.alloc (.deferred (some []))).alloc (.loop r),{ target:=.fn (.func gf) lb.toArray,args:=#[.func (.yield (w.heap.size+1)) #[] #[]] },(w.alloc (.deferred (some []))).alloc (.loop r),Vq,(Value.func (.yield (w.heap.size+1)) #[] #[]::lb).toArray,(w.alloc (.deferred (some []))).alloc (.loop r),?_,?_,fun _ _=>trivial,?_,fun h=>by simp [Fence.wide] at h,?_⟩
 ·rw [hr];exact run_enterLoop_outer _ _ _ _ _
 ·simp only [resolve,ha.ev hg,Deferred.ofValue,Sem.run_pure]
  simp [Act.eval]
 ·simp only [invoke];have h2:(#[Value.func (.yield (w.heap.size+1)) #[] #[]]++lb.toArray:Array Value)=(.func (.yield (w.heap.size+1)) #[] #[]::lb).toArray:=by simp
  rw [h2,i.run]
 ·refine callsIn_wide.2 ((sF (w.heap.size+1) w.heap.size r (by rw [hr]) (by rw [hr]) (by rw [hr]) (by rw [hr]) (by rw [hr]) ⟨by rw [hr];exact ha.size,rfl,fun k v hk=>by rw [hr];exact ha.val k v hk⟩ _ fy).mono ?_);rintro _ w' ⟨v,L',rfl,rfl,ny⟩;refine ⟨none,w'.putObj (w.heap.size+1) (.loop { r with state:=.exhausted }),?_,?_⟩
  ·have:=run_endLoop (P:=P) ny.obj (by rw [hr];simp);rw [this];rw [show r.pending=none by rw [hr]]
  ·have h3:=ny.put (o':=.loop { r with state:=.exhausted });have h4:=hy w.heap.size { a with defers:=[mk w.heap.size]++a.defers } _ ⟨ha.size,by rw [ha.defers];rfl,ha.val⟩ (h3.cN (cC.drop aX));exact Code.wp_mono (fun x a w q=>Vo Us q) h4
end
end Go.Bs
namespace Go.Bs
def uf (x:UInt32) (n:Nat):UInt32:=(x >>> UInt32.ofNat n) ||| (x <<< UInt32.ofNat (32 - n))
structure S8 where
 a:UInt32
 b:UInt32
 c:UInt32
 d:UInt32
 e:UInt32
 f:UInt32
 g:UInt32
 h:UInt32
def S8.list (s:S8):List UInt32:=[s.a,s.b,s.c,s.d,s.e,s.f,s.g,s.h]
def S8.cells (s:S8):List Value:=[cX s.a,cX s.b,cX s.c,cX s.d,cX s.e,cX s.f,cX s.g,cX s.h]
theorem S8.nG (s:S8):s.cells=s.list.map cX:=rfl
def bs0 (a:UInt32):UInt32:=uf a 2 ^^^ uf a 13 ^^^ uf a 22
def bs1 (e:UInt32):UInt32:=uf e 6 ^^^ uf e 11 ^^^ uf e 25
def Vr (x:UInt32):UInt32:=uf x 7 ^^^ uf x 18 ^^^ (x >>> UInt32.ofNat (Int.toNat 3))
def Vs (x:UInt32):UInt32:=uf x 17 ^^^ uf x 19 ^^^ (x >>> UInt32.ofNat (Int.toNat 10))
def chP (e f g:UInt32):UInt32:=(e &&& f) ^^^ ((~~~e) &&& g)
def Vt (a b c:UInt32):UInt32:=(a &&& b) ^^^ (a &&& c) ^^^ (b &&& c)
def Sr (s:S8) (k w:UInt32):UInt32:=s.h+bs1 s.e+chP s.e s.f s.g+k+w
def OJ (s:S8) (k w:UInt32):S8:=⟨Sr s k w+bs0 s.a+Vt s.a s.b s.c,s.a,s.b,s.c,s.d+Sr s k w,s.e,s.f,s.g⟩
def kw:List UInt32:=[1116352408,1899447441,3049323471,3921009573,961987163,1508970993,2453635748,2870763221,3624381080,310598401,607225278,1426881987,1925078388,2162078206,2614888103,3248222580,3835390401,4022224774,264347078,604807628,770255983,1249150122,1555081692,1996064986,2554220882,2821834349,2952996808,3210313671,3336571891,3584528711,113926993,338241895,666307205,773529912,1294757372,1396182291,1695183700,1986661051,2177026350,2456956037,2730485921,2820302411,3259730800,3345764771,3516065817,3600352804,4094571909,275423344,430227734,506948616,659060556,883997877,958139571,1322822218,1537002063,1747873779,1955562222,2024104815,2227730452,2361852424,2428436474,2756734187,3204031479,3329325298]
def wd (b:List UInt8) (i:Nat):UInt32 :=
 ((((b.getD (4*i) 0).toUInt32 <<< UInt32.ofNat (Int.toNat 24)) ||| ((b.getD (4*i+1) 0).toUInt32 <<< UInt32.ofNat (Int.toNat 16))) ||| ((b.getD (4*i+2) 0).toUInt32 <<< UInt32.ofNat (Int.toNat 8))) ||| (b.getD (4*i+3) 0).toUInt32
def Ss (l:List UInt32):UInt32:=l.getD (l.length - 16) 0+Vr (l.getD (l.length - 15) 0)+l.getD (l.length - 7) 0+Vs (l.getD (l.length - 2) 0)
def sched (b:List UInt8):Nat→List UInt32
 | 0=>(List.range 16).map (wd b)
 | n+1=>sched b n++[Ss (sched b n)]
theorem lQ (b:List UInt8):∀ n,(sched b n).length=16+n
 | 0=>by simp [sched]
 | n+1=>by simp [sched,lQ b n];omega
def ry (s:S8) (ws:List UInt32):Nat→S8
 | 0=>s
 | n+1=>OJ (ry s ws n) (kw.getD n 0) (ws.getD n 0)
def S8.add (s t:S8):S8:=⟨s.a+t.a,s.b+t.b,s.c+t.c,s.d+t.d,s.e+t.e,s.f+t.f,s.g+t.g,s.h+t.h⟩
def kO (h:S8) (b:List UInt8):S8:=h.add (ry h (sched b 48) 64)
def jN (h:S8) (l:List UInt8):S8:=if h0:l.length<64 then h else jN (kO h (l.take 64)) (l.drop 64)
 termination_by l.length
 decreasing_by rw [aP];omega
theorem Am {h:S8} {l:List UInt8} (h0:l.length<64):jN h l=h:=by rw [jN,dif_pos h0]
theorem rz {h:S8} {l:List UInt8} (h0:64≤l.length):jN h l=jN (kO h (l.take 64)) (l.drop 64):=by
 rw [jN,dif_neg (by omega)]
def E5:S8:=⟨1779033703,3144134277,1013904242,2773480762,1359893119,2600822924,528734635,1541459225⟩
def zs (n:Nat):Nat:=(119 - n % 64) % 64
def lB (n:Nat):List UInt8:=be (n*8) 8
def Su (n:Nat):List UInt8:=128::(List.replicate (zs n) 0++lB n)
def ug (x:UInt32):List UInt8:=[(x >>> UInt32.ofNat (Int.toNat 24)).toUInt8,(x >>> UInt32.ofNat (Int.toNat 16)).toUInt8,(x >>> UInt32.ofNat (Int.toNat 8)).toUInt8,x.toUInt8]
def Bw (s:S8):List UInt8:=s.list.flatMap ug
def rB (b:List UInt8):List UInt8:=Bw (jN E5 (b++Su b.length))
theorem jT (b:List UInt8):(rB b).length=32:=rfl
theorem Hz (c0 c1 c2 c3:UInt8) :
 ((
  ((((((0:UInt32) <<< UInt32.ofNat (Int.toNat 8)) ||| c0.toUInt32) <<< UInt32.ofNat (Int.toNat 8)) ||| c1.toUInt32) <<< UInt32.ofNat (Int.toNat 8)) ||| c2.toUInt32) <<< UInt32.ofNat (Int.toNat 8)) ||| c3.toUInt32 =
  (((c0.toUInt32 <<< UInt32.ofNat (Int.toNat 24)) ||| (c1.toUInt32 <<< UInt32.ofNat (Int.toNat 16))) ||| (c2.toUInt32 <<< UInt32.ofNat (Int.toNat 8))) ||| c3.toUInt32:=by
 have e8:UInt32.ofNat (Int.toNat 8)=8:=rfl;have e16:UInt32.ofNat (Int.toNat 16)=16:=rfl;have e24:UInt32.ofNat (Int.toNat 24)=24:=rfl;rw [e8,e16,e24];have z:(0:UInt32) <<< 8=0:=rfl
 have s1:∀ x:UInt32,x <<< 8 <<< 8=x <<< 16:=fun x=>by
  apply UInt32.eq_of_toBitVec_eq
  simp [← BitVec.shiftLeft_add]
 have s2:∀ x:UInt32,x <<< 16 <<< 8=x <<< 24:=fun x=>by
  apply UInt32.eq_of_toBitVec_eq
  simp [← BitVec.shiftLeft_add]
 have d:∀ x y:UInt32,(x ||| y) <<< 8=x <<< 8 ||| y <<< 8:=fun x y=>by
  apply UInt32.eq_of_toBitVec_eq
  simp [BitVec.shiftLeft_or_distrib]
 rw [z,UInt32.zero_or,d,d,s1,d,s1,s2]
end Go.Bs
namespace Go.Proofs
attribute [local irreducible] Bs.cE Bs.Do Bs.O Bs.W Bs.Fin Bs.A Bs.Ct Bs.cF Bs.Rd Bs.Sat Bs.cM Bs.Ob Bs.dJ Bs.View Bs.cC Bs.Ex Bs.dI Bs.Pu Bs.eZ Bs.dK Bs.eh
open Go.Bs
open Tryz
variable (R:List cK) (e:World)
theorem Sv (n:Nat) (h:0<n) (h2:n<32):Go.bits .and .u64 (IntKind.u64.wrap (IntKind.i64.wrap (0 - (n:Int)))) 31=((32 - n:Nat):Int):=by
 have:∀ m:Fin 32,0<m.1→Go.bits .and .u64 (IntKind.u64.wrap (IntKind.i64.wrap (0 - (m.1:Int)))) 31=((32 - m.1:Nat):Int):=by decide +kernel
 exact this ⟨n,h2⟩ h
theorem Sw (n:Nat) (h:0<n) (h2:n<32):IntKind.u64.wrap (32 - ((32 - n:Nat):Int))=(n:Int):=by
 have:∀ m:Fin 32,0<m.1→IntKind.u64.wrap (32 - ((32 - m.1:Nat):Int))=(m.1:Int):=by decide +kernel
 exact this ⟨n,h2⟩ h
theorem KR (x:UInt32) (n:Nat) (h:0<n) (h2:n<32) :
 Ct prog 302 #[cX x,.int .i64 (IntKind.i64.wrap (0 - (n:Int)))] e R (fun v' L'=>v'=cX (uf x n)∧R=L'):=by
 refine a8 (args:=[_,_]) func302 rfl ntmps302 results302 rfl ?_;have h3:=Sv n h h2;have h4:=Sw n h h2
 (repeat' first|(apply O.wT;exact rfl;exact rfl;(rw [h3];omega);exact rfl)|(apply O.tY;exact rfl;exact rfl;(rw [h3,h4];omega);exact rfl)|refine YV ?_|refine Za ?_|refine Zb ?_|apply Zc|apply Zd|apply Ze|apply Zf|refine ZV ?_|refine ZZ ?_|refine Z2 ?_|apply YE)
 refine aY _ rfl aX ⟨?_,rfl⟩
 show cX _=cX _
 rw [h3,h4,Int.toNat_natCast,Int.toNat_natCast,UInt32.or_comm]
 rfl
theorem gN (x:UInt32) (n:Nat) (h:0<n) (h2:n<32) :
 Ct prog 276 #[cX x,.int .i64 (n:Int)] e R (fun v' L'=>v'=cX (uf x n)∧R=L'):=by
 refine a8 (args:=[_,_]) func276 rfl ntmps276 results276 rfl ?_
 (repeat' first|(apply O.neg;exact rfl;exact rfl)|refine Za ?_|refine Zb ?_|apply Zc|apply Zd|apply Ze|apply Zf)
 refine aZ rfl rfl (KR R e x n h h2) ?_;rintro _ _ ⟨rfl,rfl⟩;refine wB ?_;exact aY _ rfl aX ⟨rfl,rfl⟩
theorem wY:∀ {pre cs vs:List Value},cs.length=vs.length→iu (pre++cs) pre.length vs (pre++vs)
 | pre,[],[],_=>by rw [aK];exact .nil
 | pre,c::cs,v::vs,h=>by
  have h1:gB (pre++c::cs) pre.length v (pre++v::cs):=by
   have:=gB.of (l:=pre++c::cs) (n:=pre.length) v (by simp)
   simpa using this
  have h2:=wY (pre:=pre++[v]) (cs:=cs) (vs:=vs) (by simpa using h);rw [aM,aM,aa] at h2
  exact .cons h1 h2
 | _,[],_::_,h=>by cases h
 | _,_::_,[],h=>by cases h
theorem eD {cs vs:List Value} (h:cs.length=vs.length):iu cs 0 vs vs:=wY (pre:=[]) h
theorem IK :
 Ct prog 229 #[] e R (fun v' L'=>v'=.agg (kw.map cX).toArray∧R=L'):=by
 refine bI (args:=[]) func229 rfl ntmps229 results229 rfl ?_
 (repeat' first|(refine cj (cs:=(List.replicate 64 (0:UInt32)).map cX) rfl rfl ?_;intro _)|apply Zc|apply Zd|apply Ze|apply Zf)
 refine O.mu (cs:=kw.map cX) rfl rfl rfl zQ rfl ?_;refine O.ej rfl rfl rfl (gC _) .zero (eD rfl) ?_;refine wB ?_;apply bB;exact zV;exact ⟨R,zE,rfl,rfl⟩
def Dl (b:List UInt8) (i:Nat):Nat→UInt32
 | 0=>0
 | j+1=>(Dl b i j <<< UInt32.ofNat (Int.toNat 8)) ||| (b.getD (4*i+j) 0).toUInt32
theorem PJ (b:List UInt8) (i:Nat):Dl b i 4=wd b i:=Hz _ _ _ _
theorem Dm (b:List UInt8) (i:Nat):(List.range (i+1)).map (wd b)=(List.range i).map (wd b)++[wd b i]:=by rw [List.range_succ,ah];rfl
theorem Nm {α:Type} {pre post:List α} {x y:α} {i:Nat} (h:pre.length=i):(pre++x::post).set i y=pre++y::post:=by
 subst h;simp
theorem mg {pre post:List UInt32} {x y:UInt32} {i:Nat} (h:pre.length=i):gB ((pre++x::post).map cX) i (cX y) ((pre++y::post).map cX):=by
 have h1:=gB.of (l:=(pre++x::post).map cX) (n:=i) (cX y) (by simp;omega);rw [← List.map_set,Nm h] at h1
 exact h1
theorem Fv {pre post:List UInt32} {x:UInt32} {i g T o:Nat} {fz:Nat × Nat} {L R:List cK} (h:pre.length=i) (p:cT L (cM g ((pre++x::post).map cX) T fz) R) (ho:o=i):Rd L ⟨g,o,none⟩ (cX x):=by
 subst ho;exact bR p (by rw [hF,aI,List.getElem?_append_right zo,h,Nat.sub_self];rfl)
theorem An {l:List UInt32} {i g T o:Nat} {fz:Nat × Nat} {L R:List cK} (h:i<l.length) (p:cT L (cM g (l.map cX) T fz) R) (ho:o=i):Rd L ⟨g,o,none⟩ (cX (l.getD i 0)):=by
 subst ho;exact bR p (by rw [hF,aI,ae h,aL,ae h];rfl)
theorem uh {gl ol cap k:Nat} (h:k<cap):cutAt (some ⟨gl,ol,none⟩) cap k 1=some ⟨gl,ol+k,none⟩:=by
 unfold cutAt;rw [aB zo]
 simp [Addr.add]
set_option maxHeartbeats 1000000 in
theorem Dn (v:Value) (b:List UInt8) (hv:da R v b) (hb:b.length=64) :
 Ct prog 275 #[v] e R (fun v' L'=>v'=.agg ((sched b 48).map cX).toArray∧R=L'):=by
 refine a7 (hv.shape zo) ?_;rintro ⟨⟨ad,cap,rfl,h3,h4,h5,h6⟩,_⟩;simp only [maxLen] at h4
 rcases h6 with h6|⟨gl,ol,rfl⟩
 ·omega
 refine bI (args:=[_]) func275 rfl ntmps275 results275 rfl ?_
 (repeat' first|(refine cj (cs:=(List.replicate 64 (0:UInt32)).map cX) rfl rfl ?_;intro _)|refine Za ?_|apply Zc|apply Zd|apply Ze|apply Zf|apply YB)
 rename_i g2 g3;refine br (ι:=Nat) (fun i=>[(0,.slice (some ⟨gl,ol,none⟩) b.length cap),(2,pt g2),(3,pt g3),(12,.int .i64 (i:Int))])
  (fun i=>cM g3 (((List.range i).map (wd b)++List.replicate (64 - i) 0).map cX) 297 (0,0)::cM g2 ((List.replicate 64 (0:UInt32)).map cX) 297 (0,0)::R) (fun i=>i≤16) (fun i=>16 - i) 0 (aG _) (cD rfl (cD rfl (cD rfl (cD rfl dc)))) aX ?_
 intro i hi
 by_cases cQ:i<16
 ·have Fx:List.replicate (64 - i) (0:UInt32)=0::List.replicate (63 - i) 0:=by rw [show 64 - i=(63 - i)+1 by omega,List.replicate_succ]
  have KS:((List.range i).map (wd b)).length=i:=by simp
  have PK:=Dm b i;rw [Fx]
  generalize (List.range i).map (wd b)=pre at *
  have vP:=uh (gl:=gl) (ol:=ol) (cap:=cap) (k:=4*i) zo;have e1:(4*(i:Int)).toNat=4*i:=by omega
  have e2:(4*(i:Int)+4).toNat - 4*i=4:=by omega
  refine wB ?_;rw [e1,e2,vP];refine br (ι:=Nat) (fun j=>[(23,.int .i64 (j:Int)),(22,.int .i64 (4:Int)),(21,.slice (some ⟨gl,ol+4*i,none⟩) 4 (cap - 4*i)),(4,.int .i64 (i:Int)),(0,.slice (some ⟨gl,ol,none⟩) b.length cap),(2,pt g2),(3,pt g3),(12,.int .i64 (i:Int))])
   (fun j=>cM g3 ((pre++Dl b i j::List.replicate (63 - i) 0).map cX) 297 (0,0)::cM g2 ((List.replicate 64 (0:UInt32)).map cX) 297 (0,0)::R) (fun j=>j≤4) (fun j=>4 - j) 0 (aG _) (cD rfl (cD rfl (cD rfl (cD rfl (cD rfl (cD rfl (cD rfl (cD rfl dc)))))))) aX ?_
  intro j hj
  by_cases Km:j<4
  ·have vQ:4*i+j<b.length:=by omega
   have hr:Rd R ⟨gl,ol+4*i+j,none⟩ (u8 (b.getD (4*i+j) 0)):=by
    have:=hv.elem (j:=4*i+j) (b:=b.getD (4*i+j) 0) (by rw [aL,ae vQ];rfl);rw [← Nat.add_assoc] at this
    exact this
   have Ut:Rd (cM g3 ((pre++Dl b i j::List.replicate (63 - i) 0).map cX) 297 (0,0)::cM g2 ((List.replicate 64 (0:UInt32)).map cX) 297 (0,0)::R) ⟨g3,0+i,none⟩ (cX (Dl b i j)):=Fv KS .zero (aC _);have Vu:Dl b i (j+1)=(Dl b i j <<< UInt32.ofNat (Int.toNat 8)) ||| (b.getD (4*i+j) 0).toUInt32:=rfl
   generalize Dl b i j=x at *
   generalize b.getD (4*i+j) 0=c at *
   (repeat' first|refine YV ?_|refine YX ?_|refine Y1 ?_|refine Y2 ?_|refine Za ?_|refine Zb ?_|apply Zc|apply Zd|apply Ze|apply Zf|refine Zi ?_|refine ZA ?_|refine Yw ?_|refine Yz ?_|apply YB|apply YC)
   refine bD (cd rfl rfl rfl .zero (by rw [aC];exact mg KS) ?_)
   refine wB ?_;exact bi (j+1) Km zo (cD rfl (cD rfl (cD rfl (cD rfl (cD rfl (cD rfl (cD rfl (cD rfl dc)))))))) (by rw [Vu];exact aX)
  obtain rfl:j=4:=by omega
  rw [PJ];refine wB ?_;refine bi (i+1) cQ zo (cD rfl (cD rfl (cD rfl (cD rfl dc)))) ?_;rw [PK,aM,show 64 - (i+1)=63 - i by omega];exact aX
 obtain rfl:i=16:=by omega
 refine wB ?_;refine br (ι:=Nat) (fun n=>[(7,.int .i64 ((n+16:Nat):Int)),(2,pt g2),(3,pt g3)])
  (fun n=>cM g3 ((sched b n++List.replicate (48 - n) 0).map cX) 297 (0,0)::cM g2 ((List.replicate 64 (0:UInt32)).map cX) 297 (0,0)::R) (fun n=>n≤48) (fun n=>48 - n) 0 (aG _) (cD rfl (cD rfl (cD rfl dc))) aX ?_
 intro n hn;have pa:=lQ b n
 by_cases Vv:n<48
 ·have Ao:sched b (n+1)=sched b n++[Ss (sched b n)]:=rfl;have Fx:List.replicate (48 - n) (0:UInt32)=0::List.replicate (47 - n) 0:=by rw [show 48 - n=(47 - n)+1 by omega,List.replicate_succ]
  rw [Fx]
  have vO:∀ k,k<16+n→(sched b n++0::List.replicate (47 - n) 0).getD k 0=(sched b n).getD k 0:=fun k hk=>by
   rw [aL,aL,List.getElem?_append_left zo]
  have eW:(sched b n++0::List.replicate (47 - n) 0).length=64:=by simp [pa];omega
  have kh:∀ m k:Nat,m=k→k<16+n→Rd (cM g3 ((sched b n++0::List.replicate (47 - n) 0).map cX) 297 (0,0)::cM g2 ((List.replicate 64 (0:UInt32)).map cX) 297 (0,0)::R) ⟨g3,m,none⟩ (cX ((sched b n).getD k 0)):=fun m k hm hk=>by
   rw [← vO k hk];exact An zo .zero hm
  have Vw:=kh (0+(((n+16:Nat):Int) - 15).toNat*1) ((sched b n).length - 15) zo zo;have KT:=kh (0+(((n+16:Nat):Int) - 2).toNat*1) ((sched b n).length - 2) zo zo;have Vx:=kh (0+(((n+16:Nat):Int) - 16).toNat*1) ((sched b n).length - 16) zo zo;have Vy:=kh (0+(((n+16:Nat):Int) - 7).toNat*1) ((sched b n).length - 7) zo zo;have PL:Ss (sched b n)=(sched b n).getD ((sched b n).length - 16) 0+Vr ((sched b n).getD ((sched b n).length - 15) 0)+(sched b n).getD ((sched b n).length - 7) 0+Vs ((sched b n).getD ((sched b n).length - 2) 0):=rfl;clear kh
  generalize (sched b n).getD ((sched b n).length - 15) 0=Sx at *
  generalize (sched b n).getD ((sched b n).length - 2) 0=x2 at *
  generalize (sched b n).getD ((sched b n).length - 16) 0=x16 at *
  generalize (sched b n).getD ((sched b n).length - 7) 0=x7 at *
  (repeat' first|refine Za ?_|apply Zc|apply Zd|apply Ze|apply Zf|refine ZA ?_|refine Yz ?_|apply YB|apply YC|(refine bE (id:=14) [9] mixed ?_;all_goals (refine tM 0 ?_);all_goals (refine tk 1 _ rfl (cE.jL rfl rfl zo) ?_);all_goals (refine tk 2 _ rfl (cE.dG rfl rfl zo) ?_);all_goals (refine tL 3 ?_);all_goals (refine tM 4 ?_);all_goals (refine tk 5 _ rfl (cE.jL rfl rfl zo) ?_);all_goals (refine tk 6 _ rfl (cE.dG rfl rfl zo) ?_);all_goals (refine tL 7 ?_);all_goals (refine tA 8 ?_);all_goals ((refine tO 9 ?_;refine dV (bj rfl) ?_));all_goals (refine bf zK ?_)))
  refine aZ rfl rfl (gN _ e Sx 7 zo zo) ?_;rintro _ _ ⟨rfl,rfl⟩
  (repeat (refine wA ?_;intros))
  refine aZ rfl rfl (gN _ e Sx 18 zo zo) ?_;rintro _ _ ⟨rfl,rfl⟩
  (repeat' first|refine YW ?_|refine YY ?_|refine Za ?_|refine Zb ?_|apply Zc|apply Zd|apply Ze|apply Zf)
  refine aZ rfl rfl (gN _ e x2 17 zo zo) ?_;rintro _ _ ⟨rfl,rfl⟩
  (repeat (refine wA ?_;intros))
  refine aZ rfl rfl (gN _ e x2 19 zo zo) ?_;rintro _ _ ⟨rfl,rfl⟩
  (repeat' first|refine YW ?_|refine YY ?_|refine Za ?_|refine Zb ?_|apply Ze|apply Zf)
  refine bE (id:=17) [14,15] mixed ?_
  (refine tM 0 ?_;refine tM 1 ?_;refine tk 2 _ rfl (cE.jL rfl rfl zo) ?_;refine tk 3 _ rfl (cE.dG rfl rfl zo) ?_;refine tL 4 ?_;refine tM 5 ?_;refine tk 6 _ rfl (cE.nE rfl rfl) ?_;refine tM 7 ?_;refine tk 8 _ rfl (cE.jL rfl rfl zo) ?_;refine tk 9 _ rfl (cE.dG rfl rfl zo) ?_;refine tL 10 ?_;refine tk 11 _ rfl (cE.nE rfl rfl) ?_;refine tM 12 ?_;refine tk 13 _ rfl (cE.nE rfl rfl) ?_;(refine tO 14 ?_;refine bP (cE.ee rfl rfl zo) rfl ⟨zN,?_⟩))
  refine tO 15 ?_;refine cd rfl rfl rfl .zero (by rw [aC];exact mg zo) ⟨zN,?_⟩;refine bf zK ?_;refine wB ?_;refine bi (n+1) Vv zo (cD rfl (cD rfl (cD rfl dc))) ?_;rw [Ao,PL,aM,show 48 - (n+1)=47 - n by omega];exact aX
 obtain rfl:n=48:=by omega
 have hlen:((sched b 48++List.replicate (48 - 48) (0:UInt32)).map cX).length=64:=by simp [pa]
 have Dp:=gC (sched b 48++List.replicate (48 - 48) (0:UInt32));have kE:(sched b 48++List.replicate (48 - 48) (0:UInt32)).map cX=(sched b 48).map cX:=by simp
 rw [← kE]
 generalize (sched b 48++List.replicate (48 - 48) (0:UInt32)).map cX=l at *
 clear pa kE
 (repeat' first|(refine O.dD rfl (bW .zero) hlen rfl ?_)|refine Za ?_|apply Zc|apply Zd|apply Ze|apply Zf|refine ZB ?_|refine YA ?_|apply YD|apply YG|apply YJ)
 refine O.ej rfl rfl hlen Dp (.succ .zero) (eD (by rw [hlen];rfl)) ?_;refine wB ?_;apply bB
 ·exact .agg rfl (bW (.succ .zero)) hlen .nil
 exact ⟨R,zE,rfl,rfl⟩
theorem Ap {a c:List UInt32} {i:Nat} (hi:i<a.length) (hc:a.length=c.length):(List.zipWith (·+·) a c).take (i+1)=(List.zipWith (·+·) a c).take i++[a.getD i 0+c.getD i 0]∧a.drop i=a.getD i 0::a.drop (i+1):=by
 constructor
 ·rw [aA (by simp;omega),List.getElem_zipWith]
  simp [aL,ae hi,ae (show i<c.length by omega)]
 ·rw [List.drop_eq_getElem_cons hi]
  simp [aL,ae hi]
set_option maxHeartbeats 1000000 in
theorem KU (s:S8) (v:Value) (b:List UInt8) (gk:Nat) (hv:da R v b) (hb:b.length=64) (hk:eh R gk 0 (kw.map cX)) :
 Ct prog 231 #[.agg s.cells.toArray,v,pt gk] e R (fun v' L'=>v'=.agg (kO s b).cells.toArray∧R=L'):=by
 refine bI (args:=[_,_,_]) func231 rfl ntmps231 results231 rfl ?_;have Kn:=lQ b 48
 (repeat' first|(refine O.box (cs:=s.cells) rfl rfl rfl ?_;intro _)|(refine O.dD (cs:=s.cells) rfl (bW (.succ .zero)) rfl rfl ?_)|(refine O.ej (vs:=s.cells) rfl rfl rfl (gC s.list) .zero (eD rfl) ?_)|refine Za ?_|apply Zc|apply Zd|apply Ze|apply Zf|refine Yh fun _=>?_|fail)
 refine aZ rfl rfl (Dn _ e v b hv.tail.tail.tail hb) ?_;rintro _ _ ⟨rfl,rfl⟩;rw [show kO s b=s.add (ry s (sched b 48) 64) from rfl]
 generalize sched b 48=ws at *
 refine wB ?_;rename_i g3 g6 g7;refine br (ι:=Nat) (fun i=>[(19,.int .i64 (i:Int)),(18,.agg (ws.map cX).toArray),(2,pt gk),(7,pt g7),(6,pt g6),(3,pt g3)])
  (fun i=>cM g7 (ry s ws i).cells 296 (0,0)::cM g6 ((List.replicate 8 (0:UInt32)).map cX) 296 (0,0)::cM g3 s.cells 296 (0,0)::R) (fun i=>i≤64) (fun i=>64 - i) 0 (aG _) (cD rfl (cD rfl (cD rfl (cD rfl (cD rfl (cD rfl dc)))))) aX ?_
 intro i hi
 by_cases cQ:i<64
 ·have Nn:Rd R ⟨gk,0+i,none⟩ (cX (kw.getD i 0)):=eh.Na hk (by
   have By:i<kw.length:=cQ;rw [aI,ae By,aL,ae By];rfl)
  have hw:(ws.map cX)[i]?=some (cX (ws.getD i 0)):=by
   have By:i<ws.length:=by omega
   rw [aI,ae By,aL,ae By];rfl
  have Sy:ry s ws (i+1)=OJ (ry s ws i) (kw.getD i 0) (ws.getD i 0):=rfl
  generalize ry s ws i=S at *
  generalize kw.getD i 0=kk at *
  generalize ws.getD i 0=ww at *
  obtain ⟨a',b',c',d',e',f',g',h'⟩:=S;dsimp only [S8.cells]
  (repeat' first|refine Y4 ?_|refine Za ?_|refine Zb ?_|apply Zc|apply Zd|apply Ze|apply Zf|refine ZA ?_|refine Yz ?_|apply YB|apply YC)
  refine bE (id:=5) [11] mixed ?_
  (refine tk 0 _ rfl (cE.dG rfl rfl zo) ?_;refine tL 1 ?_;refine tk 3 _ rfl (cE.dG rfl rfl zo) ?_;refine tL 4 ?_;refine tk 7 _ rfl (cE.dG rfl rfl zo) ?_;refine tL 8 ?_)
  refine tO 2 ?_;refine bg rfl rfl (gN _ e e' 6 zo zo) ?_;rintro _ _ ⟨rfl,rfl⟩;refine ⟨fun _=>aX,?_⟩;refine tO 5 ?_;refine bg rfl rfl (gN _ e e' 11 zo zo) ?_;rintro _ _ ⟨rfl,rfl⟩;refine ⟨fun _=>aX,?_⟩
  (refine tk 6 _ rfl (cE.pj rfl rfl) ?_)
  refine tO 9 ?_;refine bg rfl rfl (gN _ e e' 25 zo zo) ?_;rintro _ _ ⟨rfl,rfl⟩;refine ⟨fun _=>aX,?_⟩
  (refine tk 10 _ rfl (cE.pj rfl rfl) ?_;(refine tO 11 ?_;refine dV (bj rfl) ?_))
  refine bf zK ?_
  (repeat' first|refine YU ?_|refine YW ?_|refine YZ ?_|refine Y3 ?_|refine Zb ?_|apply Zc|apply Zd|apply Ze|apply Zf|refine Zi ?_|(refine bE (id:=7) [14] mixed ?_;all_goals (refine tk 0 _ rfl (cE.dG rfl rfl zo) ?_);all_goals (refine tL 1 ?_);all_goals (refine tM 2 ?_);all_goals (refine tk 3 _ rfl (cE.nE rfl rfl) ?_);all_goals (refine tM 4 ?_);all_goals (refine tk 5 _ rfl (cE.nE rfl rfl) ?_);all_goals (refine tM 6 ?_);all_goals (refine tM 7 ?_);all_goals (refine tN 8 ?_);all_goals (refine tk 9 _ rfl (cE.ee rfl rfl zo) ?_);all_goals (refine tL 10 ?_);all_goals (refine tk 11 _ rfl (cE.nE rfl rfl) ?_);all_goals (refine tM 12 ?_);all_goals (refine tk 13 _ rfl (cE.nE rfl rfl) ?_);all_goals ((refine tO 14 ?_;refine dV (bj rfl) ?_));all_goals (refine bf zK ?_)))
  refine bE (id:=8) [11] mixed ?_
  (refine tk 0 _ rfl (cE.dG rfl rfl zo) ?_;refine tL 1 ?_;refine tk 3 _ rfl (cE.dG rfl rfl zo) ?_;refine tL 4 ?_;refine tk 7 _ rfl (cE.dG rfl rfl zo) ?_;refine tL 8 ?_)
  refine tO 2 ?_;refine bg rfl rfl (gN _ e a' 2 zo zo) ?_;rintro _ _ ⟨rfl,rfl⟩;refine ⟨fun _=>aX,?_⟩;refine tO 5 ?_;refine bg rfl rfl (gN _ e a' 13 zo zo) ?_;rintro _ _ ⟨rfl,rfl⟩;refine ⟨fun _=>aX,?_⟩
  (refine tk 6 _ rfl (cE.pj rfl rfl) ?_)
  refine tO 9 ?_;refine bg rfl rfl (gN _ e a' 22 zo zo) ?_;rintro _ _ ⟨rfl,rfl⟩;refine ⟨fun _=>aX,?_⟩
  (refine tk 10 _ rfl (cE.pj rfl rfl) ?_;(refine tO 11 ?_;refine dV (bj rfl) ?_))
  refine bf zK ?_
  (repeat' first|refine YT ?_|refine YU ?_|refine YW ?_|refine Y3 ?_|refine Y5 ?_|refine Za ?_|refine Zb ?_|apply Zc|apply Zd|apply Ze|apply Zf|refine Zi ?_|refine ZS ?_|apply YH|refine YR ?_|fail)
  exact bi (i+1) cQ zo (cD rfl (cD rfl (cD rfl (cD rfl (cD rfl (cD rfl dc)))))) (by rw [Sy];exact aX)
 obtain rfl:i=64:=by omega
 generalize ry s ws 64=V at *
 have pJ:(s.add V).cells=(List.zipWith (·+·) s.list V.list).map cX:=rfl;have pa:s.list.length=8:=rfl;have wv:V.list.length=8:=rfl;rw [pJ,S8.nG,S8.nG]
 generalize s.list=sl at *
 generalize V.list=vl at *
 refine wB ?_;refine br (ι:=Nat) (fun i=>[(111,.int .i64 (i:Int)),(7,pt g7),(6,pt g6),(3,pt g3)])
  (fun i=>cM g7 (vl.map cX) 296 (0,0)::cM g6 ((List.replicate 8 (0:UInt32)).map cX) 296 (0,0)::cM g3 (((List.zipWith (·+·) sl vl).take i++sl.drop i).map cX) 296 (0,0)::R) (fun i=>i≤8) (fun i=>8 - i) 0 (aG _) (cD rfl (cD rfl (cD rfl (cD rfl dc)))) (by rw [List.take_zero,List.nil_append,List.drop_zero];exact aX) ?_
 intro j hj;have IF:((List.zipWith (·+·) sl vl).take j).length=j:=by simp;omega
 by_cases Km:j<8
 ·obtain ⟨z1,z2⟩:=Ap (a:=sl) (c:=vl) (i:=j) zo zo;rw [z2];have Ut:Rd (cM g7 (vl.map cX) 296 (0,0)::cM g6 ((List.replicate 8 (0:UInt32)).map cX) 296 (0,0)::cM g3 (((List.zipWith (·+·) sl vl).take j++sl.getD j 0::sl.drop (j+1)).map cX) 296 (0,0)::R) ⟨g3,0+j,none⟩ (cX (sl.getD j 0)):=Fv IF (.succ (.succ .zero)) (aC _);have Vy:Rd (cM g7 (vl.map cX) 296 (0,0)::cM g6 ((List.replicate 8 (0:UInt32)).map cX) 296 (0,0)::cM g3 (((List.zipWith (·+·) sl vl).take j++sl.getD j 0::sl.drop (j+1)).map cX) 296 (0,0)::R) ⟨g7,0+j,none⟩ (cX (vl.getD j 0)):=An zo .zero (aC _)
  generalize sl.getD j 0=x at *
  generalize vl.getD j 0=y at *
  refine wB ?_;refine bE (id:=15) [7,8] mixed ?_
  (refine tM 0 ?_;refine tk 1 _ rfl (cE.ee rfl rfl zo) ?_;refine tL 2 ?_;refine tM 3 ?_;refine tk 4 _ rfl (cE.ee rfl rfl zo) ?_;refine tL 5 ?_;refine tk 6 _ rfl (cE.nE rfl rfl) ?_;(refine tO 7 ?_;refine bP (cE.ee rfl rfl zo) rfl ⟨zN,?_⟩))
  refine tO 8 ?_;refine cd rfl rfl rfl (.succ (.succ .zero)) (by rw [aC];exact mg IF) ⟨zN,?_⟩;refine bf zK ?_;refine wB ?_;exact bi (j+1) Km zo (cD rfl (cD rfl (cD rfl (cD rfl dc)))) (by rw [z1,aM];exact aX)
 obtain rfl:j=8:=by omega
 have hlen:(((List.zipWith (·+·) sl vl).take 8++sl.drop 8).map cX).length=8:=by simp;omega
 have Dp:=gC ((List.zipWith (·+·) sl vl).take 8++sl.drop 8)
 have kE:((List.zipWith (·+·) sl vl).take 8++sl.drop 8).map cX=(List.zipWith (·+·) sl vl).map cX:=by
  rw [aF (by simp;omega),List.drop_of_length_le zo,aK]
 rw [← kE]
 generalize ((List.zipWith (·+·) sl vl).take 8++sl.drop 8).map cX=l at *
 (repeat' first|(refine O.dD rfl (bW (.succ (.succ .zero))) hlen rfl ?_)|apply Zc|apply Zd|apply Ze|apply Zf|refine ZB ?_|refine YA ?_|apply YD|apply YG|apply YJ)
 refine O.ej rfl rfl hlen Dp (.succ .zero) (eD (by rw [hlen];rfl)) ?_;refine wB ?_;apply bB
 ·exact .agg rfl (bW (.succ .zero)) hlen .nil
 exact ⟨R,zE,rfl,rfl⟩
theorem iI (x:UInt32) (n:Nat) (h:0<n) (h2:n<32) :
 Ct prog 270 #[cX x,.int .u64 (n:Int)] e R (fun v' L'=>v'=cX (uf x n)∧R=L'):=by
 refine a8 (args:=[_,_]) func270 rfl ntmps270 results270 rfl ?_
 have h3:IntKind.u64.wrap (32 - (n:Int))=((32 - n:Nat):Int):=by
  have:∀ m:Fin 32,0<m.1→IntKind.u64.wrap (32 - (m.1:Int))=((32 - m.1:Nat):Int):=by decide +kernel
  exact this ⟨n,h2⟩ h
 (repeat' first|(apply O.wT;exact rfl;exact rfl;(rw [h3];omega);exact rfl)|refine YV ?_|refine YY ?_|refine Za ?_|refine Zb ?_|apply Zc|apply Zd|apply Ze|apply Zf|refine ZV ?_|apply YE)
 refine aY _ rfl aX ⟨?_,rfl⟩
 show cX _=cX _
 rw [h3,Int.toNat_natCast,Int.toNat_natCast]
 rfl
theorem Dq :
 Ct prog 217 #[] e R (fun v' L'=>v'=.agg (kw.map cX).toArray∧R=L'):=by
 refine bI (args:=[]) func217 rfl ntmps217 results217 rfl ?_
 (repeat' first|(refine cj (cs:=(List.replicate 64 (0:UInt32)).map cX) rfl rfl ?_;intro _)|apply Zc|apply Zd|apply Ze|apply Zf)
 refine O.mu (cs:=kw.map cX) rfl rfl rfl zQ rfl ?_;refine O.ej rfl rfl rfl (gC _) .zero (eD rfl) ?_;refine wB ?_;apply bB;exact zV;exact ⟨R,zE,rfl,rfl⟩
set_option maxHeartbeats 4000000 in
theorem wZ (s:S8) (v:Value) (b:List UInt8) (gk:Nat) (hv:da R v b) (hb:b.length=64) (hk:eh R gk 0 (kw.map cX)) :
 Ct prog 218 #[.agg s.cells.toArray,pt gk,v] e R (fun v' L'=>v'=.agg (kO s b).cells.toArray∧R=L'):=by
 refine a7 (hv.shape zo) ?_;rintro ⟨⟨ad,cap,rfl,h3,h4,h5,h6⟩,_⟩;simp only [maxLen] at h4
 rcases h6 with h6|⟨gl,ol,rfl⟩
 ·omega
 refine bI (args:=[_,_,_]) func218 rfl ntmps218 results218 rfl ?_
 (repeat' first|(refine O.box (cs:=s.cells) rfl rfl rfl ?_;intro _)|(refine cj (cs:=(List.replicate 64 (0:UInt32)).map cX) rfl rfl ?_;intro _)|(refine cj (cs:=(List.replicate 8 (0:UInt32)).map cX) rfl rfl ?_;intro _)|refine Zb ?_|apply Zc|apply Zd|apply Ze|apply Zf|apply YB)
 rename_i g3 g6 g7;refine br (ι:=Nat) (fun i=>[(8,.int .i64 (i:Int)),(2,.slice (some ⟨gl,ol,none⟩) b.length cap),(1,pt gk),(7,pt g7),(6,pt g6),(3,pt g3)])
  (fun i=>cM g7 (((List.range i).map (wd b)++List.replicate (64 - i) 0).map cX) 297 (0,0)::cM g6 ((List.replicate 8 (0:UInt32)).map cX) 296 (0,0)::cM g3 s.cells 296 (0,0)::R) (fun i=>i≤16) (fun i=>16 - i) 0 (aG _) (cD rfl (cD rfl (cD rfl (cD rfl (cD rfl (cD rfl dc)))))) aX ?_
 intro i hi
 by_cases cQ:i<16
 ·have Fx:List.replicate (64 - i) (0:UInt32)=0::List.replicate (63 - i) 0:=by rw [show 64 - i=(63 - i)+1 by omega,List.replicate_succ]
  have KS:((List.range i).map (wd b)).length=i:=by simp
  have PK:=Dm b i;rw [Fx]
  generalize (List.range i).map (wd b)=pre at *
  have pK:∀ k m:Nat,k=m→m<b.length→Rd R ⟨gl,ol+k,none⟩ (u8 (b.getD m 0)):=fun k m hkm hm=>by
   subst hkm;exact hv.elem (by rw [aL,ae hm];rfl)
  have MP:=pK ((4*(i:Int)).toNat*1) (4*i) zo zo;have Ko:=pK ((4*(i:Int)+1).toNat*1) (4*i+1) zo zo;have KT:=pK ((4*(i:Int)+2).toNat*1) (4*i+2) zo zo;have Ut:=pK ((4*(i:Int)+3).toNat*1) (4*i+3) zo zo;have Vz:wd b i=((((b.getD (4*i) 0).toUInt32 <<< UInt32.ofNat (Int.toNat 24)) ||| ((b.getD (4*i+1) 0).toUInt32 <<< UInt32.ofNat (Int.toNat 16))) ||| ((b.getD (4*i+2) 0).toUInt32 <<< UInt32.ofNat (Int.toNat 8))) ||| (b.getD (4*i+3) 0).toUInt32:=rfl
  clear pK
  generalize b.getD (4*i) 0=c0 at *
  generalize b.getD (4*i+1) 0=c1 at *
  generalize b.getD (4*i+2) 0=c2 at *
  generalize b.getD (4*i+3) 0=c3 at *
  refine wB ?_;refine bE (id:=5) [34,35] mixed ?_
  (refine tM 0 ?_;refine tM 1 ?_;refine tM 2 ?_;refine tk 3 _ rfl (cE.uX rfl rfl zo) ?_;refine tk 4 _ rfl (bT rfl rfl zo zo) ?_;refine tL 5 ?_;refine tk 6 _ rfl (cE.ms rfl) ?_;refine tk 7 _ rfl (cE.wT rfl rfl zo) ?_;refine tM 8 ?_;refine tM 9 ?_;refine tk 10 _ rfl (cE.uX rfl rfl zo) ?_;refine tk 11 _ rfl (cE.la rfl rfl zo) ?_;refine tk 12 _ rfl (bT rfl rfl zo zo) ?_;refine tL 13 ?_;refine tk 14 _ rfl (cE.ms rfl) ?_;refine tk 15 _ rfl (cE.wT rfl rfl zo) ?_;refine tk 16 _ rfl (cE.Nh rfl rfl) ?_;refine tM 17 ?_;refine tM 18 ?_;refine tk 19 _ rfl (cE.uX rfl rfl zo) ?_;refine tk 20 _ rfl (cE.la rfl rfl zo) ?_;refine tk 21 _ rfl (bT rfl rfl zo zo) ?_;refine tL 22 ?_;refine tk 23 _ rfl (cE.ms rfl) ?_;refine tk 24 _ rfl (cE.wT rfl rfl zo) ?_;refine tk 25 _ rfl (cE.Nh rfl rfl) ?_;refine tM 26 ?_;refine tM 27 ?_;refine tk 28 _ rfl (cE.uX rfl rfl zo) ?_;refine tk 29 _ rfl (cE.la rfl rfl zo) ?_;refine tk 30 _ rfl (bT rfl rfl zo zo) ?_;refine tL 31 ?_;refine tk 32 _ rfl (cE.ms rfl) ?_;refine tk 33 _ rfl (cE.Nh rfl rfl) ?_;(refine tO 34 ?_;refine bP (cE.ee rfl rfl zo) rfl ⟨zN,?_⟩))
  refine tO 35 ?_;refine cd rfl rfl rfl .zero (by rw [aC];exact mg KS) ⟨zN,?_⟩;refine bf zK ?_;refine wB ?_;refine bi (i+1) cQ zo (cD rfl (cD rfl (cD rfl (cD rfl (cD rfl (cD rfl dc)))))) ?_;rw [PK,Vz,aM,show 64 - (i+1)=63 - i by omega];exact aX
 obtain rfl:i=16:=by omega
 rw [show kO s b=s.add (ry s (sched b 48) 64) from rfl];refine wB ?_;refine br (ι:=Nat) (fun n=>[(9,.int .i64 ((n+16:Nat):Int)),(1,pt gk),(7,pt g7),(6,pt g6),(3,pt g3)])
  (fun n=>cM g7 ((sched b n++List.replicate (48 - n) 0).map cX) 297 (0,0)::cM g6 ((List.replicate 8 (0:UInt32)).map cX) 296 (0,0)::cM g3 s.cells 296 (0,0)::R) (fun n=>n≤48) (fun n=>48 - n) 0 (aG _) (cD rfl (cD rfl (cD rfl (cD rfl (cD rfl dc))))) aX ?_
 intro n hn;have pa:=lQ b n
 by_cases Vv:n<48
 ·have Ao:sched b (n+1)=sched b n++[Ss (sched b n)]:=rfl;have Fx:List.replicate (48 - n) (0:UInt32)=0::List.replicate (47 - n) 0:=by rw [show 48 - n=(47 - n)+1 by omega,List.replicate_succ]
  rw [Fx]
  have vO:∀ k,k<16+n→(sched b n++0::List.replicate (47 - n) 0).getD k 0=(sched b n).getD k 0:=fun k hk=>by
   rw [aL,aL,List.getElem?_append_left zo]
  have eW:(sched b n++0::List.replicate (47 - n) 0).length=64:=by simp [pa];omega
  have kh:∀ m k:Nat,m=k→k<16+n→Rd (cM g7 ((sched b n++0::List.replicate (47 - n) 0).map cX) 297 (0,0)::cM g6 ((List.replicate 8 (0:UInt32)).map cX) 296 (0,0)::cM g3 s.cells 296 (0,0)::R) ⟨g7,m,none⟩ (cX ((sched b n).getD k 0)):=fun m k hm hk=>by
   rw [← vO k hk];exact An zo .zero hm
  have Vw:=kh (0+(((n+16:Nat):Int) - 15).toNat*1) ((sched b n).length - 15) zo zo;have KT:=kh (0+(((n+16:Nat):Int) - 2).toNat*1) ((sched b n).length - 2) zo zo;have Vx:=kh (0+(((n+16:Nat):Int) - 16).toNat*1) ((sched b n).length - 16) zo zo;have Vy:=kh (0+(((n+16:Nat):Int) - 7).toNat*1) ((sched b n).length - 7) zo zo;have PL:Ss (sched b n)=(sched b n).getD ((sched b n).length - 16) 0+Vr ((sched b n).getD ((sched b n).length - 15) 0)+(sched b n).getD ((sched b n).length - 7) 0+Vs ((sched b n).getD ((sched b n).length - 2) 0):=rfl;clear kh
  generalize (sched b n).getD ((sched b n).length - 15) 0=Sx at *
  generalize (sched b n).getD ((sched b n).length - 2) 0=x2 at *
  generalize (sched b n).getD ((sched b n).length - 16) 0=x16 at *
  generalize (sched b n).getD ((sched b n).length - 7) 0=x7 at *
  (repeat' first|refine Za ?_|apply Zc|apply Zd|apply Ze|apply Zf|refine ZA ?_|refine Yz ?_|apply YB|apply YC|(refine bE (id:=9) [9] mixed ?_;all_goals (refine tM 0 ?_);all_goals (refine tk 1 _ rfl (cE.jL rfl rfl zo) ?_);all_goals (refine tk 2 _ rfl (cE.dG rfl rfl zo) ?_);all_goals (refine tL 3 ?_);all_goals (refine tM 4 ?_);all_goals (refine tk 5 _ rfl (cE.jL rfl rfl zo) ?_);all_goals (refine tk 6 _ rfl (cE.dG rfl rfl zo) ?_);all_goals (refine tL 7 ?_);all_goals (refine tA 8 ?_);all_goals ((refine tO 9 ?_;refine dV (bj rfl) ?_));all_goals (refine bf zK ?_)))
  refine bE (id:=10) [28,29] mixed ?_
  (refine tM 0 ?_;refine tM 1 ?_;refine tk 2 _ rfl (cE.jL rfl rfl zo) ?_;refine tk 3 _ rfl (cE.dG rfl rfl zo) ?_;refine tL 4 ?_;refine tM 5 ?_;refine tM 7 ?_;refine tM 10 ?_;refine tk 11 _ rfl (cE.tY rfl rfl zo) ?_;refine tM 14 ?_;refine tk 15 _ rfl (cE.jL rfl rfl zo) ?_;refine tk 16 _ rfl (cE.dG rfl rfl zo) ?_;refine tL 17 ?_;refine tM 19 ?_;refine tM 21 ?_;refine tM 24 ?_;refine tk 25 _ rfl (cE.tY rfl rfl zo) ?_)
  refine tO 6 ?_;refine bg rfl rfl (iI _ e Sx 7 zo zo) ?_;rintro _ _ ⟨rfl,rfl⟩;refine ⟨fun _=>aX,?_⟩;refine tO 8 ?_;refine bg rfl rfl (iI _ e Sx 18 zo zo) ?_;rintro _ _ ⟨rfl,rfl⟩;refine ⟨fun _=>aX,?_⟩
  (refine tk 9 _ rfl (cE.pj rfl rfl) ?_;refine tk 12 _ rfl (cE.pj rfl rfl) ?_;refine tk 13 _ rfl (cE.nE rfl rfl) ?_;refine tk 18 _ rfl (cE.nE rfl rfl) ?_)
  refine tO 20 ?_;refine bg rfl rfl (iI _ e x2 17 zo zo) ?_;rintro _ _ ⟨rfl,rfl⟩;refine ⟨fun _=>aX,?_⟩;refine tO 22 ?_;refine bg rfl rfl (iI _ e x2 19 zo zo) ?_;rintro _ _ ⟨rfl,rfl⟩;refine ⟨fun _=>aX,?_⟩
  (refine tk 23 _ rfl (cE.pj rfl rfl) ?_;refine tk 26 _ rfl (cE.pj rfl rfl) ?_;refine tk 27 _ rfl (cE.nE rfl rfl) ?_;(refine tO 28 ?_;refine bP (cE.ee rfl rfl zo) rfl ⟨zN,?_⟩))
  refine tO 29 ?_;refine cd rfl rfl rfl .zero (by rw [aC];exact mg zo) ⟨zN,?_⟩;refine bf zK ?_;refine wB ?_;refine bi (n+1) Vv zo (cD rfl (cD rfl (cD rfl (cD rfl (cD rfl dc))))) ?_;rw [Ao,PL,aM,show 48 - (n+1)=47 - n by omega];exact aX
 obtain rfl:n=48:=by omega
 have Kn:(sched b 48++List.replicate (48 - 48) (0:UInt32))=sched b 48:=by simp
 rw [Kn];clear Kn
 generalize sched b 48=ws at *
 (repeat' first|(refine O.dD (cs:=s.cells) rfl (bW (.succ (.succ .zero))) rfl rfl ?_)|(refine O.ej (vs:=s.cells) rfl rfl rfl (gC s.list) .zero (eD rfl) ?_)|(refine cj (cs:=(List.replicate 8 (0:UInt32)).map cX) rfl rfl ?_;intro _)|refine Za ?_|refine Zb ?_|apply Zc|apply Zd|apply Ze|apply Zf|refine ZB ?_|refine YA ?_|apply YB|apply YD|apply YG|apply YJ)
 rename_i KV;refine br (ι:=Nat) (fun i=>[(13,.int .i64 (i:Int)),(1,pt gk),(12,pt KV),(7,pt g7),(6,pt g6),(3,pt g3)])
  (fun i=>cM KV (ry s ws i).cells 296 (0,0)::cM g7 (ws.map cX) 297 (0,0)::cM g6 ((List.replicate 8 (0:UInt32)).map cX) 296 (0,0)::cM g3 s.cells 296 (0,0)::R) (fun i=>i≤64) (fun i=>64 - i) 0 (aG _) (cD rfl (cD rfl (cD rfl (cD rfl (cD rfl (cD rfl dc)))))) aX ?_
 intro i hi
 by_cases cQ:i<64
 ·have Nn:Rd R ⟨gk,0+i,none⟩ (cX (kw.getD i 0)):=eh.Na hk (by
   have By:i<kw.length:=cQ;rw [aI,ae By,aL,ae By];rfl)
  have OK:Rd (cM KV (ry s ws i).cells 296 (0,0)::cM g7 (ws.map cX) 297 (0,0)::cM g6 ((List.replicate 8 (0:UInt32)).map cX) 296 (0,0)::cM g3 s.cells 296 (0,0)::R) ⟨g7,0+i,none⟩ (cX (ws.getD i 0)):=An zo (.succ .zero) (aC _);have Sy:ry s ws (i+1)=OJ (ry s ws i) (kw.getD i 0) (ws.getD i 0):=rfl
  generalize ry s ws i=S at *
  generalize kw.getD i 0=kk at *
  generalize ws.getD i 0=ww at *
  obtain ⟨a',b',c',d',e',f',g',h'⟩:=S;dsimp only [S8.cells] at OK ⊢
  (repeat' first|refine Za ?_|apply Zc|apply Zd|apply Ze|apply Zf|refine ZA ?_|refine Yz ?_|apply YB|apply YC|(refine bE (id:=15) [5] mixed ?_;all_goals (refine tk 0 _ rfl (cE.dG rfl rfl zo) ?_);all_goals (refine tL 1 ?_);all_goals (refine tk 2 _ rfl (cE.dG rfl rfl zo) ?_);all_goals (refine tL 3 ?_);all_goals (refine tA 4 ?_);all_goals ((refine tO 5 ?_;refine dV (bj rfl) ?_));all_goals (refine bf zK ?_)))
  refine bE (id:=16) [32] mixed ?_
  (refine tk 0 _ rfl (cE.dG rfl rfl zo) ?_;refine tL 1 ?_;refine tM 2 ?_;refine tM 4 ?_;refine tM 7 ?_;refine tM 11 ?_;refine tk 12 _ rfl (cE.dG rfl rfl zo) ?_;refine tL 13 ?_;refine tk 14 _ rfl (cE.Dc rfl rfl) ?_;refine tM 15 ?_;refine tk 16 _ rfl (cE.Hu rfl) ?_;refine tk 17 _ rfl (cE.dG rfl rfl zo) ?_;refine tL 18 ?_;refine tk 19 _ rfl (cE.Dc rfl rfl) ?_;refine tk 20 _ rfl (cE.pj rfl rfl) ?_;refine tM 22 ?_;refine tM 23 ?_;refine tN 24 ?_;refine tk 25 _ rfl (cE.ee rfl rfl zo) ?_;refine tL 26 ?_;refine tM 28 ?_;refine tk 29 _ rfl (cE.ee rfl rfl zo) ?_;refine tL 30 ?_)
  refine tO 3 ?_;refine bg rfl rfl (iI _ e e' 6 zo zo) ?_;rintro _ _ ⟨rfl,rfl⟩;refine ⟨fun _=>aX,?_⟩;refine tO 5 ?_;refine bg rfl rfl (iI _ e e' 11 zo zo) ?_;rintro _ _ ⟨rfl,rfl⟩;refine ⟨fun _=>aX,?_⟩
  (refine tk 6 _ rfl (cE.pj rfl rfl) ?_)
  refine tO 8 ?_;refine bg rfl rfl (iI _ e e' 25 zo zo) ?_;rintro _ _ ⟨rfl,rfl⟩;refine ⟨fun _=>aX,?_⟩
  (refine tk 9 _ rfl (cE.pj rfl rfl) ?_;refine tk 10 _ rfl (cE.nE rfl rfl) ?_;refine tk 21 _ rfl (cE.nE rfl rfl) ?_;refine tk 27 _ rfl (cE.nE rfl rfl) ?_;refine tk 31 _ rfl (cE.nE rfl rfl) ?_;(refine tO 32 ?_;refine dV (bj rfl) ?_))
  refine bf zK ?_;refine wB ?_;refine bE (id:=17) [24] mixed ?_
  (refine tM 0 ?_;refine tM 2 ?_;refine tM 5 ?_;refine tM 8 ?_;refine tk 9 _ rfl (cE.dG rfl rfl zo) ?_;refine tL 10 ?_;refine tk 11 _ rfl (cE.Dc rfl rfl) ?_;refine tM 12 ?_;refine tk 13 _ rfl (cE.dG rfl rfl zo) ?_;refine tL 14 ?_;refine tk 15 _ rfl (cE.Dc rfl rfl) ?_;refine tk 16 _ rfl (cE.pj rfl rfl) ?_;refine tk 17 _ rfl (cE.dG rfl rfl zo) ?_;refine tL 18 ?_;refine tk 19 _ rfl (cE.dG rfl rfl zo) ?_;refine tL 20 ?_;refine tk 21 _ rfl (cE.Dc rfl rfl) ?_;refine tk 22 _ rfl (cE.pj rfl rfl) ?_)
  refine tO 1 ?_;refine bg rfl rfl (iI _ e a' 2 zo zo) ?_;rintro _ _ ⟨rfl,rfl⟩;refine ⟨fun _=>aX,?_⟩;refine tO 3 ?_;refine bg rfl rfl (iI _ e a' 13 zo zo) ?_;rintro _ _ ⟨rfl,rfl⟩;refine ⟨fun _=>aX,?_⟩
  (refine tk 4 _ rfl (cE.pj rfl rfl) ?_)
  refine tO 6 ?_;refine bg rfl rfl (iI _ e a' 22 zo zo) ?_;rintro _ _ ⟨rfl,rfl⟩;refine ⟨fun _=>aX,?_⟩
  (refine tk 7 _ rfl (cE.pj rfl rfl) ?_;refine tk 23 _ rfl (cE.nE rfl rfl) ?_;(refine tO 24 ?_;refine dV (bj rfl) ?_))
  refine bf zK ?_
  (repeat' first|refine YT ?_|refine Y3 ?_|refine Y5 ?_|refine Za ?_|refine Zb ?_|apply Zd|apply Ze|apply Zf|refine Zi ?_|refine ZS ?_|apply YH|refine YR ?_|fail)
  refine bi (i+1) cQ zo (cD rfl (cD rfl (cD rfl (cD rfl (cD rfl (cD rfl dc)))))) ?_;rw [Sy,← UInt32.add_assoc];exact aX
 obtain rfl:i=64:=by omega
 generalize ry s ws 64=V at *
 have pJ:(s.add V).cells=(List.zipWith (·+·) s.list V.list).map cX:=rfl;have pa:s.list.length=8:=rfl;have wv:V.list.length=8:=rfl;rw [pJ,S8.nG,S8.nG]
 generalize s.list=sl at *
 generalize V.list=vl at *
 refine wB ?_;refine br (ι:=Nat) (fun i=>[(18,.int .i64 (i:Int)),(12,pt KV),(6,pt g6),(3,pt g3)])
  (fun i=>cM KV (vl.map cX) 296 (0,0)::cM g7 (ws.map cX) 297 (0,0)::cM g6 ((List.replicate 8 (0:UInt32)).map cX) 296 (0,0)::cM g3 (((List.zipWith (·+·) sl vl).take i++sl.drop i).map cX) 296 (0,0)::R) (fun i=>i≤8) (fun i=>8 - i) 0 (aG _) (cD rfl (cD rfl (cD rfl (cD rfl dc)))) (by rw [List.take_zero,List.nil_append,List.drop_zero];exact aX) ?_
 intro j hj;have IF:((List.zipWith (·+·) sl vl).take j).length=j:=by simp;omega
 by_cases Km:j<8
 ·obtain ⟨z1,z2⟩:=Ap (a:=sl) (c:=vl) (i:=j) zo zo;rw [z2];have Ut:Rd (cM KV (vl.map cX) 296 (0,0)::cM g7 (ws.map cX) 297 (0,0)::cM g6 ((List.replicate 8 (0:UInt32)).map cX) 296 (0,0)::cM g3 (((List.zipWith (·+·) sl vl).take j++sl.getD j 0::sl.drop (j+1)).map cX) 296 (0,0)::R) ⟨g3,0+j,none⟩ (cX (sl.getD j 0)):=Fv IF (.succ (.succ (.succ .zero))) (aC _);have Vy:Rd (cM KV (vl.map cX) 296 (0,0)::cM g7 (ws.map cX) 297 (0,0)::cM g6 ((List.replicate 8 (0:UInt32)).map cX) 296 (0,0)::cM g3 (((List.zipWith (·+·) sl vl).take j++sl.getD j 0::sl.drop (j+1)).map cX) 296 (0,0)::R) ⟨KV,0+j,none⟩ (cX (vl.getD j 0)):=An zo .zero (aC _)
  generalize sl.getD j 0=x at *
  generalize vl.getD j 0=y at *
  refine wB ?_;refine bE (id:=22) [8,9] mixed ?_
  (refine tM 0 ?_;refine tM 1 ?_;refine tk 2 _ rfl (cE.ee rfl rfl zo) ?_;refine tL 3 ?_;refine tM 4 ?_;refine tk 5 _ rfl (cE.ee rfl rfl zo) ?_;refine tL 6 ?_;refine tk 7 _ rfl (cE.nE rfl rfl) ?_;(refine tO 8 ?_;refine bP (cE.ee rfl rfl zo) rfl ⟨zN,?_⟩))
  refine tO 9 ?_;refine cd rfl rfl rfl (.succ (.succ (.succ .zero))) (by rw [aC];exact mg IF) ⟨zN,?_⟩;refine bf zK ?_;refine wB ?_;exact bi (j+1) Km zo (cD rfl (cD rfl (cD rfl (cD rfl dc)))) (by rw [z1,aM];exact aX)
 obtain rfl:j=8:=by omega
 have hlen:(((List.zipWith (·+·) sl vl).take 8++sl.drop 8).map cX).length=8:=by simp;omega
 have Dp:=gC ((List.zipWith (·+·) sl vl).take 8++sl.drop 8)
 have kE:((List.zipWith (·+·) sl vl).take 8++sl.drop 8).map cX=(List.zipWith (·+·) sl vl).map cX:=by
  rw [aF (by simp;omega),List.drop_of_length_le zo,aK]
 rw [← kE]
 generalize ((List.zipWith (·+·) sl vl).take 8++sl.drop 8).map cX=l at *
 (repeat' first|(refine O.dD rfl (bW (.succ (.succ (.succ .zero)))) hlen rfl ?_)|refine Za ?_|apply Zc|apply Zd|apply Ze|apply Zf|refine ZB ?_|refine YA ?_|apply YD|apply YG|apply YJ)
 refine O.ej rfl rfl hlen Dp (.succ (.succ .zero)) (eD (by rw [hlen];rfl)) ?_;refine wB ?_;apply bB
 ·exact .agg rfl (bW (.succ (.succ .zero))) hlen .nil
 exact ⟨R,zE,rfl,rfl⟩
end Go.Proofs
namespace Go.Bs
theorem xa {L L':List cK} (h:L.Perm L'):cC L L':=by
 induction h with
 | nil=>exact aX
 | cons _ _ ih=>exact bh ih
 | swap _ _ _=>exact fun _ x=>nA x
 | trans _ _ a b=>exact cn a b
section
variable (P:Program) (N:Fr) (ops:Array Oper) (e:World) (σ0:Env) (L0:List cK)
end
section
variable {P:Program} {N:Fr} {ops:Array Oper} {e:World} {σ0:Env} {L0:List cK}
theorem Do.fo {o:Oper} {K:Env→List cK→Prop} {σ:Env} {L L':List cK} (f:cC L L') (h:Do P N o K σ e L'):Do P N o K σ e L:=fun a w ha hs=>h a w ha (hs.cN f)
def HA (σ:Env) (a:Act):Prop:=∀ k v,get σ k=some v→a.tmps[k]?=some v
theorem Dr {σ τ:Env} {a:Act} (h:HA σ a) (h':HA τ a):HA (σ++τ) a:=by
 induction σ with
 | nil=>exact h'
 | cons x r ih =>
  intro k v hk;obtain ⟨j,u⟩:=x;rw [List.cons_append,fJ] at hk
  by_cases hj:j=k
  ·rw [aH hj] at hk
   exact h k v (by rw [fJ,aH hj];exact hk)
  ·rw [aB hj] at hk
   cases hr:get r k with
   | some u' =>
    have e1:get (r++τ) k=some u':=by
     clear ih h hk hj
     induction r with
     | nil=>cases hr
     | cons y r VA =>
      obtain ⟨i,w⟩:=y;rw [List.cons_append,fJ];rw [fJ] at hr
      split
      ·rename_i hi;rw [aH hi] at hr;exact hr
      ·rename_i hi;rw [aB hi] at hr;exact VA hr
    rw [e1] at hk;cases hk
    exact h k _ (by rw [fJ,aB hj];exact hr)
   | none =>
    have e1:get (r++τ) k=get τ k:=by
     clear ih h hk hj
     induction r with
     | nil=>rfl
     | cons y r VA =>
      obtain ⟨i,w⟩:=y;rw [List.cons_append,fJ];rw [fJ] at hr
      split
      ·rename_i hi;rw [aH hi] at hr;cases hr
      ·rename_i hi;rw [aB hi] at hr;exact VA hr
    rw [e1] at hk
    exact h' k v hk
theorem get_mem {σ:Env} {k:Nat} {v:Value} (h:get σ k=some v):(k,v)∈σ:=by
 induction σ with
 | nil=>cases h
 | cons x r ih =>
  obtain ⟨j,u⟩:=x;rw [fJ] at h
  by_cases hj:j=k
  ·subst hj;simp at h;subst h;exact List.mem_cons_self ..
  ·rw [aB hj] at h;exact aU _ (ih h)
def n8 (a:Act) (ds:List Nat):Env:=(List.range a.tmps.size).filterMap fun k=>if ds.contains k then none else (a.tmps[k]?).map fun v=>(k,v)
theorem xc {a:Act} {ds:List Nat} {x:Nat × Value} (h:x∈n8 a ds):a.tmps[x.1]?=some x.2:=by
 unfold n8 at h
 rw [List.mem_filterMap] at h
 obtain ⟨k,_,h⟩:=h
 split at h
 ·cases h
 ·rw [Option.map_eq_some_iff] at h
  obtain ⟨v,h1,rfl⟩:=h;exact h1
theorem Ds {a:Act} {ds:List Nat}:HA (n8 a ds) a:=fun k v hk=>xc (get_mem hk)
theorem n9 {a:Act} {ds:List Nat} {k:Nat} {v:Value} (hk:k ∉ ds) (hv:a.tmps[k]?=some v):get (n8 a ds) k=some v:=by
 have hm:(k,v)∈n8 a ds:=by
  unfold n8;rw [List.mem_filterMap];refine ⟨k,List.mem_range.2 (Array.getElem?_eq_some_iff.1 hv).1,?_⟩;rw [aB (by simpa using hk),hv]
  rfl
 cases hg:get (n8 a ds) k with
 | some u =>
  have:=xc (get_mem hg);dsimp only at this
  rw [hv] at this;exact this.symm
 | none =>
  exfalso
  clear hv
  generalize n8 a ds=τ at *
  induction τ with
  | nil=>cases hm
  | cons y r ih =>
   obtain ⟨i,u⟩:=y;rw [fJ] at hg
   by_cases hi:i=k
   ·rw [aH hi] at hg;cases hg
   ·rw [aB hi] at hg
    rcases aQ.1 hm with h|h
    ·cases h;exact hi rfl
    ·exact ih h hg
def mark (l:Array Bool):List Nat→Array Bool
 | []=>l
 | i::r=>mark (l.setIfInBounds i true) r
theorem sG:∀ (U:List Nat) (l:Array Bool) (i:Nat),(mark l U)[i]?=(l[i]?).map (fun b=>b || U.contains i)
 | [],l,i=>by simp [mark]
 | j::r,l,i=>by
  rw [mark,sG r]
  by_cases h:j=i
  ·subst h;rcases Nat.lt_or_ge j l.size with h1|h1
   ·simp [h1]
   ·rw [Array.getElem?_eq_none (by simpa using h1),Array.getElem?_eq_none h1];rfl
  ·rw [Array.getElem?_setIfInBounds_ne h]
   congr 1
   funext b
   have h':¬ i=j:=fun h'=>h h'.symm
   simp [h']
def rC:List Nat→Bool
 | []=>true
 | i::r=>!r.contains i && rC r
theorem jZ:∀ {l:List Nat},rC l=true→l.Nodup
 | [],_=>List.nodup_nil
 | i::r,h=>by
  simp only [rC,Bool.and_eq_true,Bool.not_eq_true'] at h
  exact List.nodup_cons.2 ⟨by simpa using h.1,jZ h.2⟩
variable {Q:fM} {R0:List cK} {T:List Nat} {n:Nat} {l0:Array Bool}
end
end Go.Bs
namespace Go.Proofs
attribute [local irreducible] Bs.cE Bs.Do Bs.O Bs.W Bs.Fin Bs.A Bs.Ct Bs.cF Bs.Rd Bs.Sat Bs.cM Bs.Ob Bs.dJ Bs.View Bs.cC Bs.Ex Bs.dI Bs.Pu Bs.eZ Bs.dK Bs.eh
open Go.Bs
open Tryz
theorem da.qW {L:List cK} {ad:Option Addr} {c k:Nat} {l:List UInt8} (h:da L (.slice ad l.length c) l) (hk:k≤l.length):da L (.slice (cutAt ad c k 1) (l.length - k) (c - k)) (l.drop k):=by
 have:=cF.qW (L:=L) h hk;rw [Nat.mul_one,← List.map_drop] at this
 unfold da;rw [aP];exact this
theorem PM (n:Nat) (h:n<18446744073709551616):IntKind.u64.wrap (n:Int)=(n:Int):=by
 unfold IntKind.wrap;simp only [IntKind.bits,IntKind.signed]
 simp
 omega
theorem KW (n:Nat):((n:Int)).tmod 64=((n % 64:Nat):Int):=by
 rw [Int.tmod_eq_emod_of_nonneg zo];rfl
theorem Bz (n:Nat):∀ (j m:Nat),m<j→(be n j).drop m=UInt8.ofNat (n / 256 ^ (j - 1 - m))::(be n j).drop (m+1)
 | 0,_,h=>by omega
 | j+1,0,_=>by simp [be]
 | j+1,m+1,h=>by
  have:=Bz n j m zo;simp only [be,List.drop_succ_cons];rw [this,show j+1 - 1 - (m+1)=j - 1 - m by omega]
theorem Aq {α:Type} {l:List α} {m:Nat} {x:α} (h:l.drop m=x::l.drop (m+1)):l.take (m+1)=l.take m++[x]:=by
 have h1:m<l.length:=by
  rcases Nat.lt_or_ge m l.length with h2|h2
  ·exact h2
  ·rw [List.drop_of_length_le h2] at h;cases h
 rw [List.drop_eq_getElem_cons h1] at h
 rw [aA h1,(List.cons.inj h).1]
theorem Ar (n m:Nat) (hm:m<8) (hn:n<1152921504606846976):IntKind.u8.wrap (((n*8:Nat):Int).fdiv (2 ^ (min (8*(7 - (m:Int))).toNat 64)))=((UInt8.ofNat (n*8 / 256 ^ (7 - m))).toNat:Int):=by
 have e1:(8*(7 - (m:Int))).toNat=8*(7 - m):=by omega
 rw [e1,Nat.min_eq_left zo,Int.fdiv_eq_ediv_of_nonneg _ (Int.pow_nonneg (by decide))]
 have e2:(2:Int) ^ (8*(7 - m))=((256 ^ (7 - m):Nat):Int):=by
  rw [Int.natCast_pow,Int.pow_mul];rfl
 rw [e2,← Int.natCast_ediv,w8]
 simp
theorem jy (s:S8):s.cells.length=8:=rfl
set_option maxHeartbeats 2000000 in
theorem At (R:List cK) (e:World) (v:Value) (b:List UInt8) (hv:da R v b) (hb:b.length≤1000000000000) :
 Ct prog 136 #[v] e R (fun v' L'=>∃ ad c,v'=.slice ad (rB b).length c∧L'=cR (.slice ad (rB b).length c) (rB b)::R):=by
 refine a7 (hv.shape zo) ?_;rintro ⟨⟨ad,cap,rfl,h3,h4,h5,h6⟩,_⟩;simp only [maxLen] at h4
 refine a8 (args:=[_]) func136 rfl ntmps136 results136 rfl ?_
 (repeat' first|(refine O.mu (cs:=E5.cells) rfl rfl rfl zQ rfl ?_)|(refine cj (cs:=(List.replicate 8 (0:UInt32)).map cX) rfl rfl ?_;intro _)|(refine O.ej (vs:=E5.cells) rfl rfl rfl (gC E5.list) .zero (eD rfl) ?_)|refine Zb ?_|apply Zc|apply Zd|apply Ze|apply Zf)
 rename_i g3;refine aZ rfl rfl (Dq _ e) ?_;rintro _ _ ⟨rfl,rfl⟩
 (repeat' first|(refine cj (cs:=(List.replicate 64 (0:UInt32)).map cX) rfl rfl ?_;intro _)|(refine O.ej (vs:=kw.map cX) rfl rfl rfl (gC kw) .zero (eD rfl) ?_)|refine Za ?_|refine Zb ?_|apply Zc|apply Zd|apply Ze|apply Zf|refine Zk ?_|apply YB)
 rename_i g4;refine br (ι:=Nat × S8 × Option Addr × Nat) (fun i=>[(0,.slice i.2.2.1 (b.drop (64*i.1)).length i.2.2.2),(3,pt g3),(4,pt g4),(5,.int .i64 (b.length:Int))])
  (fun i=>cM g3 i.2.1.cells 296 (0,0)::cM g4 (kw.map cX) 297 (0,0)::R)
  (fun i=>64*i.1≤b.length∧(∀ T,jN E5 (b++T)=jN i.2.1 (b.drop (64*i.1)++T))∧da R (.slice i.2.2.1 (b.drop (64*i.1)).length i.2.2.2) (b.drop (64*i.1))∧(b.drop (64*i.1)).length≤i.2.2.2∧i.2.2.2≤cap) (fun i=>b.length - 64*i.1) (0,E5,ad,cap)
  ⟨by omega,fun _=>rfl,hv,h3,aT _⟩ (cD rfl (cD rfl (cD rfl (cD rfl dc)))) zE ?_
 rintro ⟨i,S,dW,c1⟩ ⟨hi,hf,pK,tQ,rm⟩;dsimp only at hi hf pK tQ rm ⊢
 have nZ:(b.drop (64*i)).length=b.length - 64*i:=aP;have Fy:(b.drop (64*i)).drop 64=b.drop (64*(i+1)):=by rw [List.drop_drop,show 64*i+64=64*(i+1) by omega]
 by_cases cQ:64≤(b.drop (64*i)).length
 ·have vP:=da.qV pK cQ;have ui:=da.qW pK cQ;have mw:((b.drop (64*i)).take 64).length=64:=by rw [aE];omega
  have VB:∀ T,jN E5 (b++T)=jN (kO S ((b.drop (64*i)).take 64)) (b.drop (64*(i+1))++T):=fun T=>by
   rw [hf T,rz (by rw [aa];omega),List.take_append_of_le_length cQ,List.drop_append_of_le_length cQ,Fy]
  rw [Fy] at ui
  have qs:(b.drop (64*(i+1))).length=(b.drop (64*i)).length - 64:=by rw [aP,nZ];omega
  rw [← qs] at ui
  generalize hB:b.drop (64*i)=B at *
  refine wB ?_;refine bE (id:=5) [4] mixed ?_
  (refine tJ 0 ?_;refine tM 1 ?_;refine tk 2 _ rfl (cE.gY rfl rfl zo zo) ?_)
  refine tO 3 ?_;refine bg rfl rfl (wZ _ e S _ (B.take 64) g4 vP.tail.tail mw (bW (.succ .zero))) ?_;rintro _ _ ⟨rfl,rfl⟩;refine ⟨fun _=>aX,?_⟩
  generalize kO S (B.take 64)=S2 at *
  refine tO 4 ?_;refine Do.ej (vs:=S2.cells) rfl rfl (jy S2) (gC S2.list) .zero (eD ((jy S).trans (jy S2).symm)) ⟨zN,?_⟩;refine bf zK ?_;refine wB ?_;refine bi (i+1,S2,cutAt dW c1 64 1,c1 - 64) ⟨by omega,VB,ui,by dsimp only;omega,by dsimp only;omega⟩ zd ?_ zE;dsimp only;rw [qs];exact cD rfl (cD rfl (cD rfl (cD rfl dc)))
 have hzb:zs b.length=zs (b.drop (64*i)).length:=by unfold zs;omega
 generalize b.drop (64*i)=B at *
 have hB:B.length<64:=by omega
 (repeat (refine wA ?_;intros))
 refine bD <| Do.fo (fW (n:=1) (k:=0) (cap:=0) zo zl (by simp)) (bm rfl rfl rfl .zero pK.tail.tail rfl rfl jS zm zo fun ep c3 _=>?_)
 simp only [aC,Nat.zero_mul,List.take_zero,List.nil_append]
 (repeat (refine wA ?_;intros))
 refine bD (bm rfl rfl rfl (.succ .zero) (bu .zero rfl zl) rfl rfl zO zm zo fun gZ c4 _=>?_)
 refine wB ?_;refine br (ι:=Nat × Option Addr × Nat) (fun i=>[(6,.slice i.2.1 (B.length+1+i.1) i.2.2),(3,pt g3),(4,pt g4),(5,.int .i64 (b.length:Int))])
  (fun i=>dJ na 1 (.slice i.2.1 (B.length+1+i.1) i.2.2) (B.length+1+i.1) ((B++128::List.replicate i.1 0).map u8)::cM g3 S.cells 296 (0,0)::cM g4 (kw.map cX) 297 (0,0)::R)
  (fun i=>i.1≤zs B.length) (fun i=>zs B.length - i.1) (0,gZ,c4)
  (aG _) (cD rfl (cD rfl (cD rfl (cD rfl dc)))) (by dsimp only;rw [ah];exact zE) ?_
 rintro ⟨z,Kp,c5⟩ hz;dsimp only at hz ⊢
 have VC:zs B.length<64:=by unfold zs;omega
 have hzd:zs B.length=(119 - B.length % 64) % 64:=rfl;have VD:=KW (B.length+1+z)
 by_cases VE:z<zs B.length
 ·(repeat (refine wA ?_;intros))
  refine bD (bm rfl rfl rfl (.succ .zero) (bu .zero rfl zl) rfl rfl zO zm zo fun Fz c6 _=>?_)
  refine wB ?_;refine bi (z+1,Fz,c6) VE zd (cD rfl (cD rfl (cD rfl (cD rfl dc)))) ?_;dsimp only
  have he:(B++128::List.replicate (z+1) (0:UInt8)).map u8=(B++128::List.replicate z 0).map u8++[.int .u8 0]:=by
   rw [List.replicate_succ',show B++128::(List.replicate z 0++[0])=(B++128::List.replicate z (0:UInt8))++[0] by simp,ah]
   rfl
  rw [he];exact zE
 obtain rfl:z=zs B.length:=by omega
 have Sz:(B++128::List.replicate (zs B.length) (0:UInt8)).length=B.length+1+zs B.length:=by simp;omega
 have KX:∀ m,(B++128::List.replicate (zs B.length) (0:UInt8))++m=B++128::(List.replicate (zs B.length) 0++m):=fun m=>by simp
 rw [← Sz] at VD ⊢
 have XV:(B++128::List.replicate (zs B.length) (0:UInt8)).length≤128:=by omega
 have VF:(B++128::List.replicate (zs B.length) (0:UInt8)).length % 64=56:=by omega
 have FA:rB b=Bw (jN S (B++128::(List.replicate (zs B.length) 0++lB b.length))):=by
  rw [rB,hf,Su,hzb]
 rw [← KX] at FA
 clear KX Sz
 generalize B++128::List.replicate (zs B.length) (0:UInt8)=X at *
 have h8:(lB b.length).length=8:=cY _ _;refine wB ?_;refine br (ι:=Nat × Option Addr × Nat) (fun i=>[(7,.int .i64 (7 - (i.1:Int))),(6,.slice i.2.1 (X.length+i.1) i.2.2),(3,pt g3),(4,pt g4),(5,.int .i64 (b.length:Int))])
  (fun i=>dJ na 1 (.slice i.2.1 (X.length+i.1) i.2.2) (X.length+i.1) ((X++(lB b.length).take i.1).map u8)::cM g3 S.cells 296 (0,0)::cM g4 (kw.map cX) 297 (0,0)::R)
  (fun i=>i.1≤8) (fun i=>8 - i.1) (0,Kp,c5)
  (aG _) (cD rfl (cD rfl (cD rfl (cD rfl (cD rfl dc))))) (by dsimp only;rw [List.take_zero,aK];exact zE) ?_
 rintro ⟨m,OL,c7⟩ hm;dsimp only at hm ⊢
 by_cases PN:m<8
 ·have Dt:=Ar b.length m PN zo;have SA:=PM b.length zo
  have SB:IntKind.u64.wrap ((b.length:Int)*8)=((b.length*8:Nat):Int):=by
   rw [← PM (b.length*8) zo];rfl
  have XW:IntKind.u64.wrap (7 - (m:Int))=7 - (m:Int):=by
   rw [show (7 - (m:Int))=((7 - m:Nat):Int) by omega];exact PM _ zo
  have XX:IntKind.u64.wrap (8*(7 - (m:Int)))=8*(7 - (m:Int)):=by
   rw [show (8*(7 - (m:Int)))=((8*(7 - m):Nat):Int) by omega];exact PM _ zo
  (repeat' first|(apply O.shr;exact rfl;exact rfl;(rw [XW,XX];omega);exact rfl)|(apply O.jv;exact rfl;exact rfl)|refine Za ?_|apply Zc|apply Zd|apply Ze|apply Zf|refine ZJ ?_|refine ZX ?_|refine Yi fun _=>?_|refine Yz ?_|apply YB|apply YC)
  rw [SA,SB,XW,XX,show IntKind.u64.bits=64 from rfl,Dt];have Du:=Bz (b.length*8) 8 m PN;have jC:(lB b.length).take (m+1)=(lB b.length).take m++[UInt8.ofNat (b.length*8 / 256 ^ (7 - m))]:=Aq Du;clear Dt Du
  generalize UInt8.ofNat (b.length*8 / 256 ^ (7 - m))=cc at *
  have fq:(X++(lB b.length).take (m+1)).map u8=(X++(lB b.length).take m).map u8++[u8 cc]:=by
   rw [jC,← aM,ah];rfl
  generalize X++(lB b.length).take m=Y at *
  refine bD (bm rfl rfl rfl (.succ .zero) (bu .zero rfl zl) rfl rfl zO zm zo fun Fz c6 _=>?_)
  refine wB ?_;refine bi (m+1,Fz,c6) PN zd ?_ ?_
  ·dsimp only;rw [show (7 - ((m+1:Nat):Int))=7 - (m:Int) - 1 by omega];exact cD rfl (cD rfl (cD rfl (cD rfl (cD rfl dc))))
  ·dsimp only;rw [fq];exact zE
 obtain rfl:m=8:=by omega
 rw [aF zo];have VG:(X++lB b.length).length=X.length+8:=by rw [aa,h8]
 have VH:(X++lB b.length).length % 64=0:=by omega
 rw [← VG]
 generalize X++lB b.length=Y at *
 refine wB ?_;refine bG (wW .zero) ?_;rintro ⟨VI,c8,hq,No,KY⟩;obtain ⟨rfl,_,rfl⟩:=Value.slice.inj hq;clear hq;simp only [maxLen] at KY
 refine br (ι:=Nat × S8 × Option Addr × Nat) (fun i=>[(6,.slice i.2.2.1 (Y.drop (64*i.1)).length i.2.2.2),(3,pt g3),(4,pt g4)])
  (fun i=>cM g3 i.2.1.cells 296 (0,0)::cR (.slice OL Y.length c7) Y::cM g4 (kw.map cX) 297 (0,0)::R)
  (fun i=>64*i.1≤Y.length∧(jN S Y=jN i.2.1 (Y.drop (64*i.1)))∧da (cR (.slice OL Y.length c7) Y::cM g4 (kw.map cX) 297 (0,0)::R) (.slice i.2.2.1 (Y.drop (64*i.1)).length i.2.2.2) (Y.drop (64*i.1))∧(Y.drop (64*i.1)).length≤i.2.2.2∧i.2.2.2≤9223372036854775807) (fun i=>Y.length - 64*i.1) (0,S,OL,c7)
  ⟨by omega,rfl,ba .zero,No,by dsimp only;omega⟩ (cD rfl (cD rfl (cD rfl dc))) zE ?_
 rintro ⟨i,V,XY,c9⟩ ⟨hi,hf,pK,tQ,rm⟩;dsimp only at hi hf pK tQ rm ⊢
 have nZ:(Y.drop (64*i)).length=Y.length - 64*i:=aP;have Fy:(Y.drop (64*i)).drop 64=Y.drop (64*(i+1)):=by rw [List.drop_drop,show 64*i+64=64*(i+1) by omega]
 by_cases cQ:0<(Y.drop (64*i)).length
 ·have cQ:64≤(Y.drop (64*i)).length:=by omega
  have vP:=da.qV pK cQ;have ui:=da.qW pK cQ;have mw:((Y.drop (64*i)).take 64).length=64:=by rw [aE];omega
  have VB:jN S Y=jN (kO V ((Y.drop (64*i)).take 64)) (Y.drop (64*(i+1))):=by
   rw [hf,rz cQ,Fy]
  rw [Fy] at ui
  have qs:(Y.drop (64*(i+1))).length=(Y.drop (64*i)).length - 64:=by rw [aP,nZ];omega
  rw [← qs] at ui
  generalize hBB:Y.drop (64*i)=B2 at *
  refine wB ?_;refine bE (id:=15) [4] mixed ?_
  (refine tJ 0 ?_;refine tM 1 ?_;refine tk 2 _ rfl (cE.gY rfl rfl zo zo) ?_)
  refine tO 3 ?_;refine bg rfl rfl (wZ _ e V _ (B2.take 64) g4 vP.tail mw (bW (.succ (.succ .zero)))) ?_;rintro _ _ ⟨rfl,rfl⟩;refine ⟨fun _=>aX,?_⟩
  generalize kO V (B2.take 64)=V2 at *
  refine tO 4 ?_;refine Do.ej (vs:=V2.cells) rfl rfl (jy V2) (gC V2.list) .zero (eD ((jy V).trans (jy V2).symm)) ⟨zN,?_⟩;refine bf zK ?_;refine wB ?_;refine bi (i+1,V2,cutAt XY c9 64 1,c9 - 64) ⟨by omega,VB,ui,by dsimp only;omega,by dsimp only;omega⟩ zd ?_ zE;dsimp only;rw [qs];exact cD rfl (cD rfl (cD rfl dc))
 have hY0:Y.drop (64*i)=[]:=List.eq_nil_of_length_eq_zero zo;have kE:jN S Y=V:=by rw [hf,hY0];exact Am (by simp)
 rw [FA,kE];clear hf FA kE;have wv:V.list.length=8:=rfl;refine wB ?_;rw [S8.nG];refine br (ι:=Nat × Option Addr × Nat) (fun i=>[(9,.int .i64 (i.1:Int)),(8,.slice i.2.1 (4*i.1) i.2.2),(3,pt g3)])
  (fun i=>dJ na 1 (.slice i.2.1 (4*i.1) i.2.2) (4*i.1) (((V.list.take i.1).flatMap ug).map u8)::cM g3 (V.list.map cX) 296 (0,0)::R)
  (fun i=>i.1≤8) (fun i=>8 - i.1) (0,none,0)
  (aG _) (cD rfl (cD rfl (cD rfl dc))) ((di na 1).trans zE) ?_
 rintro ⟨j,FB,PO⟩ hj;dsimp only at hj ⊢
 by_cases Km:j<8
 ·have hr:Rd (cM g3 (V.list.map cX) 296 (0,0)::R) ⟨g3,0+j,none⟩ (cX (V.list.getD j 0)):=An zo .zero (aC _)
  have ft:((V.list.take (j+1)).flatMap ug).map u8=((V.list.take j).flatMap ug).map u8++(ug (V.list.getD j 0)).map u8:=by
   have By:j<V.list.length:=Km;rw [aA By,aW,ah,aL,ae By]
   rfl
  generalize V.list.getD j 0=x at *
  refine wB ?_;refine bl (id:=21) [22] (cM g3 (V.list.map cX) 296 (0,0)::R) mixed ?_
  (refine tM 0 ?_;refine tM 1 ?_;refine tk 2 _ rfl (cE.ee rfl rfl zo) ?_;refine tL 3 ?_;refine tk 4 _ rfl (cE.tY rfl rfl zo) ?_;refine tk 5 _ rfl (cE.ru rfl) ?_;refine tM 6 ?_;refine tk 7 _ rfl (cE.ee rfl rfl zo) ?_;refine tL 8 ?_;refine tk 9 _ rfl (cE.tY rfl rfl zo) ?_;refine tk 10 _ rfl (cE.ru rfl) ?_;refine tM 11 ?_;refine tk 12 _ rfl (cE.ee rfl rfl zo) ?_;refine tL 13 ?_;refine tk 14 _ rfl (cE.tY rfl rfl zo) ?_;refine tk 15 _ rfl (cE.ru rfl) ?_;refine tM 16 ?_;refine tk 17 _ rfl (cE.ee rfl rfl zo) ?_;refine tL 18 ?_;refine tk 19 _ rfl (cE.ru rfl) ?_)
  refine tO 20 ?_;refine bF (el:=na) (n:=1) (z:=.int .u8 0) rfl rfl rfl rfl zQ rfl fun gz=>⟨fun _=>zE,?_⟩
  refine tO 21 ?_;refine bm rfl rfl rfl (.succ .zero) (bu .zero rfl zl) rfl rfl zO zm zo fun KZ SC _=>⟨fun _=>zE,?_⟩
  ((refine tO 22 ?_;refine dV (bj rfl) ?_))
  refine bf zK ?_;refine wB ?_;refine bi (j+1,KZ,SC) Km zd ?_ ?_
  ·dsimp only;rw [Nat.mul_add];exact cD rfl (cD rfl (cD rfl dc))
  ·dsimp only;rw [ft,Nat.mul_add];exact (show cC _ (dJ na 1 (.slice KZ (4*j+4*1) SC) (4*j+4*1) (((V.list.take j).flatMap ug).map u8++(ug x).map u8)::cM g3 (V.list.map cX) 296 (0,0)::R) from zE)
 obtain rfl:j=8:=by omega
 rw [aF zo];refine wB ?_;exact aY (cR (.slice FB (Bw V).length PO) (Bw V)::R) rfl (show cC (dJ na 1 (.slice FB 32 PO) 32 ((Bw V).map u8)::cM g3 (V.list.map cX) 296 (0,0)::R) _ from zE) ⟨FB,PO,rfl,rfl⟩
end Go.Proofs
namespace Go.Bs
section
variable {P:Program} {N:Fr} {Q:fM} {σ:Env} {e:World} {L:List cK}
theorem cF.cap {n k c c':Nat} {ad:Option Addr} {xs:List Value} (r:cF L n (.slice ad k c) k xs) (h1:k≤c') (h2:c'≤c):cF L n (.slice ad k c') k xs:=fun h x=>by
 obtain ⟨a1,dS,cap,a2,a3,a4,a5,a6⟩:=r h x
 cases a2
 exact ⟨a1,ad,c',rfl,h1,by omega,fun hn=>by have:=a5 hn;omega,a6⟩
end
end Go.Bs
namespace Go.Proofs
open Go.Bs
attribute [local irreducible] Bs.cE Bs.Do Bs.O Bs.W Bs.Fin Bs.A Bs.Ct Bs.cF Bs.Rd Bs.Sat Bs.cM Bs.Ob Bs.dJ Bs.View Bs.cC Bs.Ex Bs.dI Bs.Pu Bs.eZ Bs.dK Bs.eh
theorem FC (R:List cK) (e:World) (ad:Option Addr) (l c:Nat) :
 Ct Tryz.prog 230 #[.slice ad l c,.int .i64 64] e R (fun v' L'=>∃ gs gn,v'=.func (.func 274) #[] #[pt gs,pt gn]∧L'=cM gs [.slice ad l c] 30 (0,0)::cM gn [.int .i64 64] 3 (0,0)::R):=by
 refine a8 (args:=[_,_]) Tryz.func230 rfl Tryz.ntmps230 Tryz.results230 rfl ?_
 (repeat (refine wA ?_;intros))
 rename_i gs gn;exact aY _ rfl (show cC _ (cM gs [.slice ad l c] 30 (0,0)::cM gn [.int .i64 64] 3 (0,0)::R) from zE) ⟨gs,gn,rfl,rfl⟩
theorem Np {L:List cK} {gl ol c m k:Nat} {Y:List UInt8} (h:da L (.slice (some ⟨gl,ol,none⟩) Y.length c) Y) (hY:Y.length=64*m) (hYc:Y.length≤c) (cQ:k<m):da L (.slice (some ⟨gl,ol+64*k,none⟩) 64 64) ((Y.drop (64*k)).take 64):=by
 have h1:=da.qW h (k:=64*k) zo;rw [uh zo] at h1
 have h2:(Y.drop (64*k)).length=Y.length - 64*k:=aP;rw [← h2] at h1
 have h3:=da.qV h1 (k:=64) zo;have h4:((Y.drop (64*k)).take 64).length=64:=by rw [aE];omega
 unfold da at h3 ⊢
 rw [h4] at h3 ⊢
 exact cF.cap h3 zo zo
theorem IM (e:World) (l gs gn m gl ol c:Nat) (Y:List UInt8) (J:Nat→List cK) (hY:Y.length=64*m) (hc:c≤9223372036854775807) (hYc:Y.length≤c)
 (hs:∀ k,Rd (J k) ⟨gs,0,none⟩ (.slice (some ⟨gl,ol,none⟩) Y.length c)) (hn:∀ k,Rd (J k) ⟨gn,0,none⟩ (.int .i64 64))
 (PP:∀ k,k<m→Rt Tryz.prog l #[.slice (some ⟨gl,ol+64*k,none⟩) 64 64] e (J k) (fun v' L'=>v'=.bool true∧L'=J (k+1))) :
 Ct Tryz.prog 274 #[.func (.yield l) #[] #[],pt gs,pt gn] e (J 0) (fun _ L'=>L'=J m):=by
 refine a8 (args:=[_,_,_]) Tryz.func274 rfl Tryz.ntmps274 Tryz.results274 rfl ?_;refine wB ?_;refine br (ι:=Nat) (fun k=>[(4,.int .i64 ((64*k:Nat):Int)),(0,.func (.yield l) #[] #[]),(1,pt gs),(2,pt gn)]) J (fun k=>k≤m) (fun k=>m - k) 0 (aG _) (cD rfl (cD rfl (cD rfl (cD rfl dc)))) aX ?_;intro k hk;have ny:=hs;have hn':=hn;have hs:=hs k;have hn:=hn k
 by_cases cQ:k<m
 ·have so:=PP k cQ
  (repeat' first|refine W.Vl (c:=.region 4 _ _) ?_|refine Za ?_|apply Zc|apply Zd|apply Ze|apply Zf|refine Zi ?_|refine Zk ?_|refine ZA ?_|refine Yz ?_|apply YB|apply YC|(refine bE (id:=3) [6] Tryz.mixed ?_;all_goals (refine tL 0 ?_);all_goals (refine tL 1 ?_);all_goals (refine tM 2 ?_);all_goals (refine tk 3 _ rfl (cE.jw rfl rfl zo zo) ?_);all_goals (refine tk 4 _ rfl (bO rfl) ?_);all_goals (refine tk 5 _ rfl (cE.min rfl rfl) ?_);all_goals ((refine tO 6 ?_;refine dV (bj rfl) ?_));all_goals (refine bf zK ?_)))
  have e1:(((64*k:Nat):Int)).toNat=64*k:=rfl;rw [e1,aB zo];have e2:(((64*k:Nat):Int)+64).toNat=64*k+64:=by omega
  have e3:cutAt (some ⟨gl,ol,none⟩) (64*k+64) (64*k) 1=some ⟨gl,ol+64*k,none⟩:=uh zo;have e4:64*k+64 - 64*k=64:=by omega
  refine WI.region ?_;refine OI.val _ rfl (bw rfl) rfl ?_;refine OI.val _ rfl (bq rfl zR) rfl ?_;refine OI.val _ rfl (bw rfl) rfl ?_;refine OI.val _ rfl (bw rfl) rfl ?_;refine OI.val _ rfl (bw rfl) rfl ?_;refine OI.val _ rfl (cE.la rfl rfl zo) rfl ?_;refine OI.val _ rfl (bw rfl) rfl ?_;refine OI.val _ rfl (bw rfl) rfl ?_;refine OI.val _ rfl (cE.la rfl rfl zo) rfl ?_;refine OI.val _ rfl (cE.slice3 rfl rfl rfl rfl zo zo zo zo) rfl ?_;rw [e1,e2,e3,e4];refine OI.yield rfl rfl rfl so ?_;rintro _ _ ⟨rfl,rfl⟩;refine OI.val _ rfl (cE.jX rfl) rfl ?_;refine OI.nil ?_;have hs:=ny (k+1);have hn:=hn' (k+1);refine wB ?_;refine bi (k+1) cQ zo ?_ aX;rw [show ((64*(k+1):Nat):Int)=((64*k:Nat):Int)+64 by omega];exact cD rfl (cD rfl (cD rfl (cD rfl dc)))
 obtain rfl:k=m:=by omega
 refine wB ?_;exact bX (J k) rfl aX rfl
end Go.Proofs
namespace Go.Proofs
attribute [local irreducible] Bs.cE Bs.Do Bs.O Bs.W Bs.Fin Bs.A Bs.Ct Bs.cF Bs.Rd Bs.Sat Bs.cM Bs.Ob Bs.dJ Bs.View Bs.cC Bs.Ex Bs.dI Bs.Pu Bs.eZ Bs.dK Bs.eh
open Go.Bs
open Tryz
def Nq (Y:List UInt8):Nat→S8
 | 0=>E5
 | k+1=>kO (Nq Y k) ((Y.drop (64*k)).take 64)
theorem Dv (Y:List UInt8):∀ k,64*k≤Y.length→jN E5 Y=jN (Nq Y k) (Y.drop (64*k))
 | 0,_=>rfl
 | k+1,h=>by
  have h1:(Y.drop (64*k)).length=Y.length - 64*k:=aP;rw [Dv Y k zo,rz zo,List.drop_drop]
  rfl
set_option maxHeartbeats 2000000 in
theorem sH (R:List cK) (e:World) (v:Value) (b:List UInt8) (hv:da R v b) (hb:b.length≤1000000000000) :
 Ct prog 154 #[v] e R (fun v' L'=>∃ ad c,v'=.slice ad (rB b).length c∧L'=cR (.slice ad (rB b).length c) (rB b)::R):=by
 refine a7 (hv.shape zo) ?_;rintro ⟨⟨ad,cap,rfl,h3,h4,h5,h6⟩,_⟩;simp only [maxLen] at h4
 refine Ct.PI (args:=[_]) func154 rfl ntmps154 rfl ?_
 (repeat' first|apply WM.seq|apply Fin.Dk|(refine O.mu (cs:=E5.cells) rfl rfl rfl zQ rfl ?_)|(refine cj (cs:=(List.replicate 8 (0:UInt32)).map cX) rfl rfl ?_;intro _)|(refine O.ej (vs:=E5.cells) rfl rfl rfl (gC E5.list) .zero (eD rfl) ?_)|refine Zb ?_|apply Zd|apply Ze)
 rename_i g3;refine aZ rfl rfl (IK _ e) ?_;rintro _ _ ⟨rfl,rfl⟩
 (repeat' first|apply WM.seq|apply Fin.Dk|(refine cj (cs:=(List.replicate 64 (0:UInt32)).map cX) rfl rfl ?_;intro _)|(refine O.ej (vs:=kw.map cX) rfl rfl rfl (gC kw) .zero (eD rfl) ?_)|refine Za ?_|apply Zd|apply Ze)
 rename_i g4;refine aZ rfl rfl (dy _ e _ b hv.tail.tail zo) ?_;rintro _ _ ⟨ep,c3,rfl,rfl⟩
 (repeat (refine wA ?_;intros))
 refine bD (bm rfl rfl rfl (.succ .zero) (bu .zero rfl zl) rfl rfl zO zm zo fun gZ c4 _=>?_)
 (repeat' first|apply WM.seq|apply Fin.Dk|refine Zb ?_|apply Ze|apply YB)
 refine br (ι:=Nat × Option Addr × Nat) (fun i=>[(5,.slice i.2.1 (b.length+1+i.1) i.2.2),(3,pt g3),(4,pt g4),(0,.slice ad b.length cap)])
  (fun i=>dJ na 1 (.slice i.2.1 (b.length+1+i.1) i.2.2) (b.length+1+i.1) ((b++128::List.replicate i.1 0).map u8)::cM g3 E5.cells 296 (0,0)::cM g4 (kw.map cX) 297 (0,0)::R)
  (fun i=>i.1≤zs b.length) (fun i=>zs b.length - i.1) (0,gZ,c4)
  (aG _) (cD rfl (cD rfl (cD rfl (cD rfl dc)))) (by dsimp only;rw [ah];exact zE) ?_
 rintro ⟨z,Kp,c5⟩ hz;dsimp only at hz ⊢
 have VC:zs b.length<64:=by unfold zs;omega
 have hzd:zs b.length=(119 - b.length % 64) % 64:=rfl;have VD:=KW (b.length+1+z)
 by_cases VE:z<zs b.length
 ·(repeat (refine wA ?_;intros))
  refine bD (bm rfl rfl rfl (.succ .zero) (bu .zero rfl zl) rfl rfl zO zm zo fun Fz c6 _=>?_)
  refine wB ?_;refine bi (z+1,Fz,c6) VE zd (cD rfl (cD rfl (cD rfl (cD rfl dc)))) ?_;dsimp only
  have he:(b++128::List.replicate (z+1) (0:UInt8)).map u8=(b++128::List.replicate z 0).map u8++[.int .u8 0]:=by
   rw [List.replicate_succ',show b++128::(List.replicate z 0++[0])=(b++128::List.replicate z (0:UInt8))++[0] by simp,ah]
   rfl
  rw [he];exact zE
 obtain rfl:z=zs b.length:=by omega
 have Sz:(b++128::List.replicate (zs b.length) (0:UInt8)).length=b.length+1+zs b.length:=by simp;omega
 have KX:∀ m,(b++128::List.replicate (zs b.length) (0:UInt8))++m=b++128::(List.replicate (zs b.length) 0++m):=fun m=>by simp
 rw [← Sz] at VD ⊢
 have hXb:(b++128::List.replicate (zs b.length) (0:UInt8)).length≤1000000000128:=by omega
 have VF:(b++128::List.replicate (zs b.length) (0:UInt8)).length % 64=56:=by omega
 have FA:rB b=Bw (jN E5 (b++128::(List.replicate (zs b.length) 0++lB b.length))):=rfl;rw [← KX] at FA
 clear KX Sz
 generalize b++128::List.replicate (zs b.length) (0:UInt8)=X at *
 have h8:(lB b.length).length=8:=cY _ _
 (repeat' first|apply WM.seq|apply Fin.Dk|refine Za ?_|refine Zb ?_|apply Zc|apply Zd|apply Ze|apply Zf|refine Zk ?_|refine ZQ ?_|refine YA ?_|apply YB|apply YD|apply YG|apply YJ|refine YL ?_|fail)
 refine br (ι:=Nat × Option Addr × Nat) (fun i=>[(6,.int .i64 (7 - (i.1:Int))),(5,.slice i.2.1 (X.length+i.1) i.2.2),(3,pt g3),(4,pt g4),(0,.slice ad b.length cap)])
  (fun i=>dJ na 1 (.slice i.2.1 (X.length+i.1) i.2.2) (X.length+i.1) ((X++(lB b.length).take i.1).map u8)::cM g3 E5.cells 296 (0,0)::cM g4 (kw.map cX) 297 (0,0)::R)
  (fun i=>i.1≤8) (fun i=>8 - i.1) (0,Kp,c5)
  (aG _) (cD rfl (cD rfl (cD rfl (cD rfl (cD rfl dc))))) (by dsimp only;rw [List.take_zero,aK];exact zE) ?_
 rintro ⟨m,OL,c7⟩ hm;dsimp only at hm ⊢
 by_cases PN:m<8
 ·have Dt:=Ar b.length m PN zo;have SA:=PM b.length zo
  have SB:IntKind.u64.wrap ((b.length:Int)*8)=((b.length*8:Nat):Int):=by
   rw [← PM (b.length*8) zo];rfl
  (repeat' first|(apply O.jv;exact rfl;exact rfl)|refine Za ?_|apply Zc|apply Zd|apply Ze|apply Zf|refine Zk ?_|refine ZJ ?_|refine ZW ?_|refine ZX ?_|refine Z1 ?_|refine Yi fun _=>?_|refine Yz ?_|apply YB|apply YC)
  rw [SA,SB,show IntKind.u64.bits=64 from rfl,Dt];have Du:=Bz (b.length*8) 8 m PN;have jC:(lB b.length).take (m+1)=(lB b.length).take m++[UInt8.ofNat (b.length*8 / 256 ^ (7 - m))]:=Aq Du;clear Dt Du
  generalize UInt8.ofNat (b.length*8 / 256 ^ (7 - m))=cc at *
  have fq:(X++(lB b.length).take (m+1)).map u8=(X++(lB b.length).take m).map u8++[u8 cc]:=by
   rw [jC,← aM,ah];rfl
  generalize X++(lB b.length).take m=Y at *
  refine bD (bm rfl rfl rfl (.succ .zero) (bu .zero rfl zl) rfl rfl zO zm zo fun Fz c6 _=>?_)
  refine wB ?_;refine bi (m+1,Fz,c6) PN zd ?_ ?_
  ·dsimp only;rw [show (7 - ((m+1:Nat):Int))=7 - (m:Int) - 1 by omega];exact cD rfl (cD rfl (cD rfl (cD rfl (cD rfl dc))))
  ·dsimp only;rw [fq];exact zE
 obtain rfl:m=8:=by omega
 rw [aF zo];have VG:(X++lB b.length).length=X.length+8:=by rw [aa,h8]
 have VH:(X++lB b.length).length % 64=0:=by omega
 have hYb:(X++lB b.length).length≤1000000001000:=by omega
 have XZ:0<(X++lB b.length).length:=by omega
 rw [← VG]
 generalize X++lB b.length=Y at *
 (repeat' first|apply WM.Vp|apply Fin.Dk|refine Za ?_|apply Zc|apply Zd|apply Ze|apply Zf|refine ZK ?_|refine YA ?_|apply YD|apply YG|apply YJ)
 refine bo (wW .zero) ?_;rintro ⟨VI,c8,hq,No,KY⟩;obtain ⟨rfl,_,rfl⟩:=Value.slice.inj hq;clear hq;simp only [maxLen] at KY
 refine bo (gx .zero) ?_;rintro ⟨⟨XY,c9,hq,_,_,MQ⟩,_⟩;obtain ⟨rfl,_,rfl⟩:=Value.slice.inj hq;clear hq
 obtain ⟨gl,rfl⟩:∃ gl,OL=some ⟨gl,0,none⟩:=by
  rcases MQ with ⟨_,_,h0⟩|h0
  ·omega
  ·exact h0
 clear MQ;refine aZ rfl rfl (FC _ e (some ⟨gl,0,none⟩) Y.length c7) ?_;rintro _ _ ⟨gs,gn,rfl,rfl⟩
 (repeat' first|apply Fin.sE|apply Ze)
 obtain ⟨m,SD⟩:∃ m,Y.length=64*m:=⟨Y.length / 64,by omega⟩
 refine WB.range (lb:=[pt gs,pt gn]) results154 rfl (cM gs [.slice (some ⟨gl,0,none⟩) Y.length c7] 30 (0,0)::cM gn [.int .i64 64] 3 (0,0)::cR (.slice (some ⟨gl,0,none⟩) Y.length c7) Y::cM g3 (Nq Y m).cells 296 (0,0)::cM g4 (kw.map cX) 297 (0,0)::R) ?_ ?_
 ·intro l D r h1 h2 h3 h4 h5 hr;refine IM e l gs gn m gl 0 c7 Y (fun k=>Lp l r::Df D::cM gs [.slice (some ⟨gl,0,none⟩) Y.length c7] 30 (0,0)::cM gn [.int .i64 64] 3 (0,0)::cR (.slice (some ⟨gl,0,none⟩) Y.length c7) Y::cM g3 (Nq Y k).cells 296 (0,0)::cM g4 (kw.map cX) 297 (0,0)::R) SD zo No (fun k=>zR) (fun k=>zR) ?_;intro k hk;have sq:∀ {A B C D':cK} {L:List cK},da (A::B::C::D'::cR (.slice (some ⟨gl,0,none⟩) Y.length c7) Y::L) (.slice (some ⟨gl,0+64*k,none⟩) 64 64) ((Y.drop (64*k)).take 64):=Np (da.tail (da.tail (da.tail (da.tail (ba .zero))))) SD No hk
  have yW:((Y.drop (64*k)).take 64).length=64:=by rw [aE,aP];omega
  have ft:Nq Y (k+1)=kO (Nq Y k) ((Y.drop (64*k)).take 64):=rfl;rw [ft]
  generalize Nq Y k=S at *
  generalize (Y.drop (64*k)).take 64=B at *
  refine Rt.mk h1 h2 h3 rfl rfl hr ?_;refine WI.code h4 ?_;refine WI.region ?_;refine OI.val _ rfl (bj rfl) rfl ?_;refine OI.nil ?_;refine Fin.Vn aX ?_;refine WI.code h5 ?_;refine WI.block ?_;refine WI.region ?_;refine OI.val _ rfl (cE.dD (cs:=S.cells) rfl (by (repeat first|exact bW .zero|apply eh.tail);done) rfl) rfl ?_;refine OI.val _ rfl (bw rfl) rfl ?_;refine OI.do rfl (bg rfl rfl (KU _ e S _ B g4 sq yW (by (repeat first|exact bW .zero|apply eh.tail);done)) ?_)
  rintro _ _ ⟨rfl,rfl⟩
  generalize kO S B=S2 at *
  refine OI.do rfl (Do.ej (vs:=S2.cells) rfl rfl (jy S2) (gC S2.list) zU (eD ((jy S).trans (jy S2).symm)) ?_)
  refine OI.nil ?_;refine Fin.sw ?_;exact Fin.Vm zE
 intro D
 have OM:jN E5 Y=Nq Y m:=by
  rw [Dv Y m zo];exact Am (by rw [aP];omega)
 rw [FA,OM];clear OM FA
 generalize Nq Y m=V at *
 have wv:V.list.length=8:=rfl;refine wB ?_;refine bD (Do.Sm (el:=na) (nn:=1) (z:=.int .u8 0) (b:=1) (c:=32) rfl rfl rfl zl zo fun go=>?_)
 (repeat' first|(refine O.dD (cs:=V.cells) rfl (by (repeat first|exact bW .zero|apply eh.tail);done) rfl rfl ?_)|refine Za ?_|refine Zb ?_|apply Zc|apply Zd|apply Ze|apply Zf|apply YB)
 rw [S8.nG];refine br (ι:=Nat × Option Addr × Nat) (fun i=>[(47,.int .i64 (i.1:Int)),(46,.agg (V.list.map cX).toArray),(8,.slice i.2.1 (4*i.1) i.2.2)])
  (fun i=>dJ na 1 (.slice i.2.1 (4*i.1) i.2.2) (4*i.1) (((V.list.take i.1).flatMap ug).map u8)::Df D::R)
  (fun i=>i.1≤8) (fun i=>8 - i.1) (0,some ⟨go,0,none⟩,32)
  (aG _) (cD rfl (cD rfl (cD rfl dc))) zE ?_
 rintro ⟨j,FB,PO⟩ hj;dsimp only at hj ⊢
 by_cases Km:j<8
 ·have hr:(V.list.map cX)[j]?=some (cX (V.list.getD j 0)):=by
   have By:j<V.list.length:=Km;rw [aI,ae By,aL,ae By];rfl
  have ft:((V.list.take (j+1)).flatMap ug).map u8=((V.list.take j).flatMap ug).map u8++(ug (V.list.getD j 0)).map u8:=by
   have By:j<V.list.length:=Km;rw [aA By,aW,ah,aL,ae By]
   rfl
  generalize V.list.getD j 0=x at *
  (repeat' first|refine YY ?_|refine Y0 ?_|refine Y4 ?_|refine Za ?_|refine Zb ?_|apply Zc|apply Zd|apply Ze|apply Zf|refine ZA ?_|refine Yi fun _=>?_|refine Yz ?_|apply YB|apply YC)
  refine bD (bm rfl rfl rfl (.succ .zero) (bu .zero rfl zl) rfl rfl zO zm zo fun KZ SC _=>?_)
  refine wB ?_;refine bi (j+1,KZ,SC) Km zd ?_ ?_
  ·dsimp only;rw [Nat.mul_add];exact cD rfl (cD rfl (cD rfl dc))
  ·dsimp only;rw [ft,Nat.mul_add];exact (show cC _ (dJ na 1 (.slice KZ (4*j+4*1) SC) (4*j+4*1) (((V.list.take j).flatMap ug).map u8++(ug x).map u8)::Df D::R) from zE)
 obtain rfl:j=8:=by omega
 rw [aF zo];refine wB ?_;exact aY (Df D::cR (.slice FB (Bw V).length PO) (Bw V)::R) rfl (show cC (dJ na 1 (.slice FB 32 PO) 32 ((Bw V).map u8)::Df D::R) _ from zE) ⟨_,rfl,FB,PO,rfl,rfl⟩
end Go.Proofs
namespace Go.Bs
def lR (n:Nat):Nat:=if n=0 then 0 else n.log2+1
theorem xd (n k:Nat) (h:2 ^ k≤n):lR (n / 2 ^ k)+k=lR n:=by
 have h0:0<2 ^ k:=Nat.two_pow_pos k;have h1:n≠0:=by omega
 have h2:n / 2 ^ k≠0:=by
  have:=Nat.div_pos h h0
  omega
 unfold lR;rw [aB h1,aB h2];have h3:k≤n.log2:=(Nat.le_log2 h1).2 h
 have h4:(n / 2 ^ k).log2=n.log2 - k:=by
  rw [Nat.log2_eq_iff h2]
  constructor
  ·rw [Nat.le_div_iff_mul_le h0,← Nat.pow_add,Nat.sub_add_cancel h3];exact Nat.log2_self_le h1
  ·rw [Nat.div_lt_iff_lt_mul h0,← Nat.pow_add,show n.log2 - k+1+k=n.log2+1 by omega];exact Nat.lt_log2_self
 omega
def mx:List UInt8:=(List.range 256).map fun i=>UInt8.ofNat (lR i)
section
variable {P:Program} {N:Fr} {Q:fM} {σ:Env} {e:World} {L:List cK} {all:Array Oper} {rest:List Oper} {d:Nat} {ty:TypeId} {pos:String} {af:Array Edge}
theorem O.FD {x y:Operand} {t:TypeId} {s:ByteArray} {k:IntKind} {i c:Nat} [q:su P t] (h:ev σ x=some (.string s)) (h1:ev σ y=some (.int k (i:Int))) (hl:∃ h:i<s.size,s[i].toNat=c) (hd:Nat.blt d N.n=true)
 (kk:O P N all rest Q ((d,.int .u8 (c:Int))::σ) e L):O P N all (⟨some d,.index t x y,ty,pos,af,none⟩::rest) Q σ e L:=by
 obtain ⟨h2,h3⟩:=hl;refine bC _ ?_ hd kk;have:=cE.Pt (P:=P) (N:=N) (ty:=ty) (e:=e) (L:=L) (t:=t) h h1 h2;rw [h3] at this
 exact this
end
theorem nc:mx.length=256:=by simp [mx]
theorem IN (y:Nat) (hy:y<256):(mx[y]'(by rw [nc];exact hy)).toNat=lR y:=by
 have h1:∀ m:_root_.Fin 256,(mx[m.1]'(by rw [nc];exact m.2)).toNat=lR m.1:=by decide +kernel
 exact h1 ⟨y,hy⟩
theorem K0 (m s:Nat) (t:Nat) (h:s≤t):((m:Int)).fdiv (2 ^ (min ((s:Int)).toNat t))=((m / 2 ^ s:Nat):Int):=by
 rw [Int.toNat_natCast,Nat.min_eq_left h,Int.fdiv_eq_ediv_of_nonneg _ (Int.pow_nonneg (by decide))]
 simp
end Go.Bs
namespace Go.Proofs
open Go.Bs
attribute [local irreducible] Bs.cE Bs.Do Bs.O Bs.W Bs.Fin Bs.A Bs.Ct Bs.cF Bs.Rd Bs.Sat Bs.cM Bs.Ob Bs.dJ Bs.View Bs.cC Bs.Ex Bs.dI Bs.Pu Bs.eZ Bs.dK Bs.eh
set_option maxRecDepth 100000 in
theorem FE (R:List cK) (e:World) (x:Nat) (hx:x<18446744073709551616) :
 Ct Tryz.prog 278 #[.int .u64 (x:Int)] e R (fun v' L'=>v'=.int .i64 (lR x:Int)∧R=L'):=by
 refine a8 (args:=[_]) Tryz.func278 rfl Tryz.ntmps278 Tryz.results278 rfl ?_
 (repeat' first|refine W.oZ (id:=4) (fun i:Nat × Nat=>[(0,.int .u64 (i.1:Int)),(2,.int .i64 (i.2:Int))]) (fun _=>R) (fun i=>i.1<4294967296∧lR i.1+i.2=lR x∧i.2≤32) ?_ ?_|refine Zb ?_|apply Zc|apply Zd|apply Ze|apply Zf)
 rotate_left
 ·refine ⟨?_⟩
  by_cases h:4294967296≤x
  ·refine wB ?_;refine bH (x / 4294967296,32) ⟨by dsimp only;omega,xd x 32 h,by dsimp only;omega⟩ (cD ?_ (cD rfl dc)) aX;exact congrArg (fun z=>some (Value.int .u64 z)) (K0 x 32 64 zo)
  ·refine wB ?_;exact bH (x,0) ⟨by dsimp only;omega,rfl,by dsimp only;omega⟩ (cD rfl (cD rfl dc)) aX
 rintro ⟨x2,n2⟩ ⟨HB,qs,E6⟩;dsimp only at HB qs E6 ⊢
 (repeat' first|refine W.oZ (id:=7) (fun i:Nat × Nat=>[(0,.int .u64 (i.1:Int)),(2,.int .i64 (i.2:Int))]) (fun _=>R) (fun i=>i.1<65536∧lR i.1+i.2=lR x∧i.2≤48) ?_ ?_)
 rotate_left
 ·refine ⟨?_⟩
  by_cases h:65536≤x2
  ·have:lR (x2 / 65536)+16=lR x2:=xd x2 16 h;refine wB ?_;refine bH (x2 / 65536,n2+16) ⟨by dsimp only;omega,by dsimp only;omega,by dsimp only;omega⟩ (cD ?_ (cD rfl dc)) aX;exact congrArg (fun z=>some (Value.int .u64 z)) (K0 x2 16 64 zo)
  ·refine wB ?_;exact bH (x2,n2) ⟨by dsimp only;omega,qs,by dsimp only;omega⟩ (cD rfl (cD rfl dc)) aX
 rintro ⟨x3,n3⟩ ⟨X0,ON,Uu⟩;dsimp only at X0 ON Uu ⊢
 clear HB qs E6
 (repeat' first|refine W.rn (id:=10) (fun i:Nat × Nat=>[(0,.int .u64 (i.1:Int)),(2,.int .i64 (i.2:Int))]) (fun _=>R) (fun i=>i.1<256∧lR i.1+i.2=lR x∧i.2≤56) ?_ ?_)
 rotate_left
 ·refine ⟨?_⟩
  by_cases h:256≤x3
  ·have:lR (x3 / 256)+8=lR x3:=xd x3 8 h;refine wB ?_;refine bH (x3 / 256,n3+8) ⟨by dsimp only;omega,by dsimp only;omega,by dsimp only;omega⟩ (cD ?_ (cD rfl dc)) aX;exact congrArg (fun z=>some (Value.int .u64 z)) (K0 x3 8 64 zo)
  ·refine wB ?_;exact bH (x3,n3) ⟨by dsimp only;omega,ON,by dsimp only;omega⟩ (cD rfl (cD rfl dc)) aX
 rintro ⟨y,n⟩ ⟨hy,hl,hn⟩;dsimp only at hy hl hn ⊢
 clear X0 ON Uu;have mw:mx.length=256:=by simp [mx]
 have js:∀ (h:y<(str mx).size),((str mx)[y]'h).toNat=lR y:=fun h=>by
  have h1:(str mx)[y]'h=mx[y]'zo:=rfl;rw [h1];exact IN y hy
 have hw8:IntKind.u8.wrap (y:Int)=(y:Int):=wrap_u8 zo zo;refine wB ?_;refine O.FD (s:=str mx) (c:=lR y) zK rfl ⟨by rw [pC,nc];exact hy,js _⟩ rfl ?_
 have X1:lR y≤8:=by
  unfold lR
  split
  ·omega
  ·rename_i h0;have:y.log2<8:=(Nat.log2_lt h0).2 hy
   omega
 refine wB ?_;exact aY R rfl aX ⟨by rw [← hl,Int.natCast_add,Int.add_comm];rfl,rfl⟩
theorem K1 (R:List cK) (e:World) (x:Nat) (hx:x<18446744073709551616) :
 Ct Tryz.prog 232 #[.int .u64 (x:Int)] e R (fun v' L'=>v'=.int .i64 (lR x:Int)∧R=L'):=by
 refine a8 (args:=[_]) Tryz.func232 rfl Tryz.ntmps232 Tryz.results232 rfl ?_;refine wB ?_;refine aZ rfl rfl (FE R e x hx) ?_;rintro _ _ ⟨rfl,rfl⟩;refine wB ?_;exact aY R rfl aX ⟨rfl,rfl⟩
end Go.Proofs
namespace Go.Proofs
attribute [local irreducible] Bs.cE Bs.Do Bs.O Bs.W Bs.Fin Bs.A Bs.Ct Bs.cF Bs.Rd Bs.Sat Bs.cM Bs.Ob Bs.dJ Bs.View Bs.cC Bs.Ex Bs.dI Bs.Pu Bs.eZ Bs.dK Bs.eh
open Go.Bs
open Tryz
def within (n lo hi:Int):Int:=if n≥lo∧n≤hi then n else lo+(if n.tmod (hi - lo+1)<0 then n.tmod (hi - lo+1)+hi - lo+1 else n.tmod (hi - lo+1))
theorem eQ (n lo hi:Int) (h:lo≤hi):lo≤within n lo hi∧within n lo hi≤hi:=by
 unfold within;have h1:=Int.tmod_lt_of_pos n (show 0<hi - lo+1 by omega)
 have h2:-(hi - lo+1)<n.tmod (hi - lo+1):=by
  rcases Int.le_total 0 n with h0|h0
  ·have:=Int.tmod_nonneg (hi - lo+1) h0;omega
  ·have h3:=Int.tmod_lt_of_pos (-n) (show 0<hi - lo+1 by omega);rw [Int.neg_tmod] at h3;omega
 split
 ·omega
 ·split<;>omega
theorem fC (R:List cK) (e:World) (n lo hi:Int) (hn:-9223372036854775808≤n∧n≤9223372036854775807) (hl:-4611686018427387904≤lo∧lo≤hi∧hi≤1099511627776∧hi - lo≤1099511627776) :
 Ct prog 24 #[.int .i64 n,.int .i64 lo,.int .i64 hi] e R (fun v' L'=>v'=.int .i64 (within n lo hi)∧R=L'):=by
 refine a8 (args:=[_,_,_]) func24 rfl ntmps24 results24 rfl ?_;have h1:=Int.tmod_lt_of_pos n (show 0<hi - lo+1 by omega)
 have h2:-(hi - lo+1)<n.tmod (hi - lo+1):=by
  rcases Int.le_total 0 n with h0|h0
  ·have:=Int.tmod_nonneg (hi - lo+1) h0;omega
  ·have h3:=Int.tmod_lt_of_pos (-n) (show 0<hi - lo+1 by omega);rw [Int.neg_tmod] at h3;omega
 have hw:within n lo hi=if n≥lo∧n≤hi then n else lo+(if n.tmod (hi - lo+1)<0 then n.tmod (hi - lo+1)+hi - lo+1 else n.tmod (hi - lo+1)):=rfl
 by_cases ha:n≥lo
 ·by_cases hb:n≤hi
  ·refine wB ?_;exact aY _ rfl aX ⟨by rw [hw,aH ⟨ha,hb⟩];rfl,rfl⟩
  ·by_cases hc:n.tmod (hi - lo+1)<0
   ·refine wB ?_;exact aY _ rfl aX ⟨by rw [hw,aB (fun h=>hb h.2),aH hc];rfl,rfl⟩
   ·refine wB ?_;exact aY _ rfl aX ⟨by rw [hw,aB (fun h=>hb h.2),aB hc];rfl,rfl⟩
 ·by_cases hc:n.tmod (hi - lo+1)<0
  ·refine wB ?_;exact aY _ rfl aX ⟨by rw [hw,aB (fun h=>ha h.1),aH hc];rfl,rfl⟩
  ·refine wB ?_;exact aY _ rfl aX ⟨by rw [hw,aB (fun h=>ha h.1),aB hc];rfl,rfl⟩
def qY (l:List dX):List UInt8:=(l.map (·.2)).flatten
theorem BA {m:Nat}:∀ {l:List dX},(∀ a∈l,a.2.length≤m)→(qY l).length≤m*l.length
 | [],_=>by simp [qY]
 | a::l,h=>by
  have h1:=h a (List.mem_cons_self ..);have h2:=BA (l:=l) fun b hb=>h b (aU _ hb)
  simp only [qY,List.map_cons,List.flatten_cons,aa,aR,Nat.mul_add,Nat.mul_one] at h2 ⊢
  omega
theorem Dw {l:List dX} {i:Nat} (h:i<l.length):qY (l.take (i+1))=qY (l.take i)++(l[i]'h).2:=by
 simp only [qY];rw [aA h];simp only [ah,List.map_cons,List.map_nil,List.flatten_append,List.flatten_cons,List.flatten_nil,aK]
end Go.Proofs
namespace Go.Bs
def cO (n:Nat):Nat:=if n<2 then 0 else 2 ^ (n - 1).log2
def uj (n:Int):Int:=if n<2 then 0 else (cO n.toNat:Int)
theorem jd (n:Nat):uj (n:Int)=(cO n:Int):=by
 unfold uj cO
 by_cases h:n<2
 ·rw [aH zo,aH h];rfl
 ·rw [aB zo,Int.toNat_natCast]
theorem dw {n:Nat} (h:2≤n):1≤cO n∧cO n<n∧n≤2*cO n:=by
 unfold cO;rw [aB zo];have h1:=Nat.log2_self_le (n:=n - 1) zo;have h2:=Nat.lt_log2_self (n:=n - 1);rw [Nat.pow_succ] at h2
 have h3:=Nat.two_pow_pos (n - 1).log2
 omega
def ez (t:UInt8) (l:List (List UInt8)):List UInt8:=rB (t::l.flatten)
def cZ (b:List UInt8):List UInt8:=ez 0 [b]
def ew (l r:List UInt8):List UInt8:=ez 1 [l,r]
def dR (l:List (List UInt8)):List UInt8 :=
 if h:l.length<2 then (match l with|[]=>rB []|a::_=>a) else ew (dR (l.take (cO l.length))) (dR (l.drop (cO l.length)))
 termination_by l.length
 decreasing_by
 ·have:=dw (n:=l.length) zo;rw [aE];omega
 ·have:=dw (n:=l.length) zo;rw [aP];omega
theorem j0:dR []=rB []:=by rw [dR,dif_pos (by simp)]
theorem mh (a:List UInt8):dR [a]=a:=by rw [dR,dif_pos (by simp)]
theorem je {l:List (List UInt8)} (h:2≤l.length):dR l=ew (dR (l.take (cO l.length))) (dR (l.drop (cO l.length))):=by rw [dR,dif_neg zo]
theorem de (t:UInt8) (l:List (List UInt8)):(ez t l).length=32:=jT _
theorem lS {l:List (List UInt8)} {m:Nat} (hm:32≤m) (h:∀ a∈l,a.length≤m):(dR l).length≤m:=by
 match l,h with
 | [],_=>rw [j0,jT];exact hm
 | [a],h=>rw [mh];exact h a (an.2 rfl)
 | a::b::r,_=>rw [je (by simp)];unfold ew;rw [de];exact hm
end Go.Bs
namespace Go.Proofs
open Go.Bs
attribute [local irreducible] Bs.cE Bs.Do Bs.O Bs.W Bs.Fin Bs.A Bs.Ct Bs.cF Bs.Rd Bs.Sat Bs.cM Bs.Ob Bs.dJ Bs.View Bs.cC Bs.Ex Bs.dI Bs.Pu Bs.eZ Bs.dK Bs.eh
theorem my (R:List cK) (e:World) (n:Int) (hn:-9223372036854775808≤n∧n≤9223372036854775807) :
 Ct Tryz.prog 155 #[.int .i64 n] e R (fun v' L'=>v'=.int .i64 (uj n)∧R=L'):=by
 refine a8 (args:=[_]) Tryz.func155 rfl Tryz.ntmps155 Tryz.results155 rfl ?_
 by_cases h:n<2
 ·refine wB ?_;exact aY R rfl aX ⟨by unfold uj;rw [aH h];rfl,rfl⟩
 obtain ⟨m,rfl⟩:=Int.eq_ofNat_of_zero_le (show 0≤n by omega)
 have hw:IntKind.u64.wrap ((m:Int) - 1)=((m - 1:Nat):Int):=by
  rw [show (m:Int) - 1=((m - 1:Nat):Int) by omega];exact PM _ zo
 have hl:lR (m - 1)=(m - 1).log2+1:=by unfold lR;rw [aB zo]
 have hb:(m - 1).log2<63:=(Nat.log2_lt zo).2 zo;have hp:2 ^ (m - 1).log2≤m - 1:=Nat.log2_self_le zo;refine wB ?_;rw [hw];refine aZ rfl rfl (K1 R e (m - 1) zo) ?_;rintro _ _ ⟨rfl,rfl⟩;rw [hl];refine wB ?_;refine aY R rfl aX ⟨?_,rfl⟩;rw [jd];unfold cO;rw [aB zo]
 show Value.int _ _=Value.int _ _
 congr 1
 rw [show ((((m - 1).log2+1:Nat):Int) - 1).toNat=(m - 1).log2 by omega,show IntKind.i64.bits=64 from rfl,Nat.min_eq_left zo,Int.one_mul];have e1:(2:Int) ^ (m - 1).log2=((2 ^ (m - 1).log2:Nat):Int):=by simp
 rw [e1];clear e1
 generalize 2 ^ (m - 1).log2=q at *
 exact wrap_i64 zo zo
theorem yX (R:List cK) (e:World) (n:Int) (hn:-9223372036854775808≤n∧n≤9223372036854775807) :
 Ct Tryz.prog 191 #[.int .i64 n] e R (fun v' L'=>v'=.int .i64 (uj n)∧R=L'):=by
 refine a8 (args:=[_]) Tryz.func191 rfl Tryz.ntmps191 Tryz.results191 rfl ?_
 by_cases h:n<2
 ·refine wB ?_;exact aY R rfl aX ⟨by unfold uj;rw [aH h];rfl,rfl⟩
 obtain ⟨m,rfl⟩:=Int.eq_ofNat_of_zero_le (show 0≤n by omega);have Nr:m - 1≠0:=by omega
 refine wB ?_;refine br (ι:=Nat) (fun j=>[(0,.int .i64 (m:Int)),(3,.int .i64 ((2 ^ j:Nat):Int))]) (fun _=>R) (fun j=>j≤(m - 1).log2) (fun j=>(m - 1).log2 - j) 0 (aG _) (cD rfl (cD rfl dc)) aX ?_;intro j hj;have hp:2 ^ j≤m - 1:=(Nat.le_log2 Nr).1 hj
 by_cases cQ:j<(m - 1).log2
 ·have FF:2 ^ (j+1)≤m - 1:=(Nat.le_log2 Nr).1 cQ;rw [Nat.pow_succ] at FF
  refine wB ?_;refine bi (j+1) cQ zo (cD rfl (cD ?_ dc)) aX
  show some (Value.int _ _)=some (Value.int _ _)
  rw [Nat.pow_succ,Int.natCast_mul,Int.mul_comm]
  rfl
 obtain rfl:j=(m - 1).log2:=by omega
 have FF:=Nat.lt_log2_self (n:=m - 1);rw [Nat.pow_succ] at FF
 refine wB ?_;refine aY R rfl aX ⟨?_,rfl⟩;rw [jd];unfold cO;rw [aB zo]
 rfl
theorem fe (R:List cK) (e:World) (t:UInt8) (v:Value) (ts:List dX) (hv:cF R 1 v ts.length (ts.map (·.1))) (ht:dE R ts) (hb:∀ a∈ts,a.2.length≤1000000) (hl:ts.length≤10000) :
 Ct Tryz.prog 189 #[u8 t,v] e R (fun v' L'=>∃ ad c,v'=.slice ad (ez t (ts.map (·.2))).length c∧L'=cR (.slice ad (ez t (ts.map (·.2))).length c) (ez t (ts.map (·.2)))::R):=by
 refine a7 (hv.shape zo) ?_;rintro ⟨⟨ad,cap,rfl,h3,h4,h5,h6⟩,_⟩;simp only [maxLen] at h4
 have BB:∀ i,(qY (ts.take i)).length≤10000000000:=fun i=>by
  have h1:=BA (l:=ts.take i) (m:=1000000) (fun a ha=>hb a (aN ha));rw [aE] at h1
  have h2:1000000*min i ts.length≤1000000*10000:=Nat.mul_le_mul_left _ zo
  omega
 refine a8 (args:=[_,_]) Tryz.func189 rfl Tryz.ntmps189 Tryz.results189 rfl ?_
 (repeat (refine wA ?_;intros))
 refine W.fo (cn (fW (n:=1) (k:=1) (cap:=1) zo zl (by simp)) aX) ?_;refine br (ι:=Nat × Option Addr × Nat) (fun i=>[(12,.int .i64 (i.1:Int)),(11,.int .i64 (ts.length:Int)),(10,.slice ad ts.length cap),(5,.slice i.2.1 (1+(qY (ts.take i.1)).length) i.2.2)])
  (fun i=>dJ na 1 (.slice i.2.1 (1+(qY (ts.take i.1)).length) i.2.2) (1+(qY (ts.take i.1)).length) ((t::qY (ts.take i.1)).map u8)::R) (fun i=>i.1≤ts.length) (fun i=>ts.length - i.1) (0,_,1) (aG _) (cD rfl (cD rfl (cD rfl (cD rfl dc)))) aX ?_
 rintro ⟨i,dS,c2⟩ hi;dsimp only at hi ⊢
 have VJ:=BB i
 by_cases cQ:i<ts.length
 ·rcases h6 with h6|⟨gl,ol,rfl⟩
  ·omega
  have hr:Rd R ⟨gl,ol+i,none⟩ (ts[i]'cQ).1:=hv.elem (by rw [aI,ae cQ];rfl);have js:=ht _ (az cQ);have vQ:=hb _ (az cQ);have yR:=Dw cQ
  generalize ts[i]'cQ=y at *
  obtain ⟨yv,yt⟩:=y;dsimp only at js vQ yR hr
  refine wB ?_;refine bD (bm rfl rfl rfl .zero js rfl rfl jS zm zo fun ep c3 _=>?_)
  refine wB ?_;refine bi (i+1,ep,c3) cQ zd ?_ ?_
  ·dsimp only;rw [yR,aa,← Nat.add_assoc];exact cD rfl (cD rfl (cD rfl (cD rfl dc)))
  ·dsimp only;rw [yR,aa,← Nat.add_assoc,← List.cons_append,ah];exact zE
 rw [aF zo] at VJ ⊢
 have VK:ez t (ts.map (·.2))=rB (t::qY ts):=rfl;rw [VK]
 have pK:da (dJ na 1 (.slice dS (1+(qY ts).length) c2) (1+(qY ts).length) ((t::qY ts).map u8)::R) (.slice dS (1+(qY ts).length) c2) (t::qY ts):=by
  unfold da;rw [aR,Nat.add_comm];exact ba .zero
 refine wB ?_;refine aZ rfl rfl (sH _ e _ _ pK (by rw [aR];omega)) ?_;rintro _ _ ⟨gZ,c4,rfl,rfl⟩;refine wB ?_;exact aY (cR (.slice gZ (rB (t::qY ts)).length c4) (rB (t::qY ts))::R) rfl zE ⟨gZ,c4,rfl,rfl⟩
theorem fa (R:List cK) (e:World) (t:UInt8) (v:Value) (ts:List dX) (hv:cF R 1 v ts.length (ts.map (·.1))) (ht:dE R ts) (hb:∀ a∈ts,a.2.length≤1000000) (hl:ts.length≤10000) :
 Ct Tryz.prog 70 #[u8 t,v] e R (fun v' L'=>∃ ad c,v'=.slice ad (ez t (ts.map (·.2))).length c∧L'=cR (.slice ad (ez t (ts.map (·.2))).length c) (ez t (ts.map (·.2)))::R):=by
 refine a7 (hv.shape zo) ?_;rintro ⟨⟨ad,cap,rfl,h3,h4,h5,h6⟩,_⟩;simp only [maxLen] at h4
 have BB:∀ i,(qY (ts.take i)).length≤10000000000:=fun i=>by
  have h1:=BA (l:=ts.take i) (m:=1000000) (fun a ha=>hb a (aN ha));rw [aE] at h1
  have h2:1000000*min i ts.length≤1000000*10000:=Nat.mul_le_mul_left _ zo
  omega
 refine a8 (args:=[_,_]) Tryz.func70 rfl Tryz.ntmps70 Tryz.results70 rfl ?_
 (repeat (refine wA ?_;intros))
 refine W.fo (cn (fW (n:=1) (k:=1) (cap:=1) zo zl (by simp)) aX) ?_;refine br (ι:=Nat × Option Addr × Nat) (fun i=>[(6,.int .i64 (i.1:Int)),(1,.slice ad ts.length cap),(5,.slice i.2.1 (1+(qY (ts.take i.1)).length) i.2.2)])
  (fun i=>dJ na 1 (.slice i.2.1 (1+(qY (ts.take i.1)).length) i.2.2) (1+(qY (ts.take i.1)).length) ((t::qY (ts.take i.1)).map u8)::R) (fun i=>i.1≤ts.length) (fun i=>ts.length - i.1) (0,_,1) (aG _) (cD rfl (cD rfl (cD rfl dc))) aX ?_
 rintro ⟨i,dS,c2⟩ hi;dsimp only at hi ⊢
 have VJ:=BB i
 by_cases cQ:i<ts.length
 ·rcases h6 with h6|⟨gl,ol,rfl⟩
  ·omega
  have hr:Rd R ⟨gl,ol+i,none⟩ (ts[i]'cQ).1:=hv.elem (by rw [aI,ae cQ];rfl);have js:=ht _ (az cQ);have vQ:=hb _ (az cQ);have yR:=Dw cQ
  generalize ts[i]'cQ=y at *
  obtain ⟨yv,yt⟩:=y;dsimp only at js vQ yR hr
  refine wB ?_;refine bD (bm rfl rfl rfl .zero js rfl rfl jS zm zo fun ep c3 _=>?_)
  refine wB ?_;refine bi (i+1,ep,c3) cQ zd ?_ ?_
  ·dsimp only;rw [yR,aa,← Nat.add_assoc];exact cD rfl (cD rfl (cD rfl dc))
  ·dsimp only;rw [yR,aa,← Nat.add_assoc,← List.cons_append,ah];exact zE
 rw [aF zo] at VJ ⊢
 have VK:ez t (ts.map (·.2))=rB (t::qY ts):=rfl;rw [VK]
 have pK:da (dJ na 1 (.slice dS (1+(qY ts).length) c2) (1+(qY ts).length) ((t::qY ts).map u8)::R) (.slice dS (1+(qY ts).length) c2) (t::qY ts):=by
  unfold da;rw [aR,Nat.add_comm];exact ba .zero
 refine wB ?_;refine aZ rfl rfl (At _ e _ _ pK (by rw [aR];omega)) ?_;rintro _ _ ⟨gZ,c4,rfl,rfl⟩;refine wB ?_;exact aY (cR (.slice gZ (rB (t::qY ts)).length c4) (rB (t::qY ts))::R) rfl zE ⟨gZ,c4,rfl,rfl⟩
theorem qt (R:List cK) (e:World) (v:Value) (b:List UInt8) (hv:da R v b) (hb:b.length≤1000000) :
 Ct Tryz.prog 101 #[v] e R (fun v' L'=>∃ ad c,v'=.slice ad (cZ b).length c∧L'=cR (.slice ad (cZ b).length c) (cZ b)::R):=by
 refine a7 (cz hv) fun ho=>?_
 refine a8 (args:=[_]) Tryz.func101 rfl Tryz.ntmps101 Tryz.results101 rfl ?_
 (repeat' first|(apply bZ;exact rfl;exact rfl;exact rfl;exact .one (dU ho) rfl .nil;exact rfl;exact rfl;intro _)|refine Za ?_|refine Zb ?_|apply Zc|apply Zd|apply Ze|apply Zf)
 refine aZ rfl rfl (fe _ e 0 _ [(v,b)] (bu .zero rfl zl) (fun a ha=>by rw [an.1 ha];exact hv.tail) (fun a ha=>by rw [an.1 ha];exact hb) (by simp)) ?_;rintro _ _ ⟨ad,c,rfl,rfl⟩;refine wB ?_;exact aY (cR (.slice ad (cZ b).length c) (cZ b)::R) rfl zE ⟨ad,c,rfl,rfl⟩
theorem mi (R:List cK) (e:World) (v u:Value) (b c:List UInt8) (hv:da R v b) (hu:da R u c) (hb:b.length≤1000000) (hc:c.length≤1000000) :
 Ct Tryz.prog 156 #[v,u] e R (fun v' L'=>∃ ad k,v'=.slice ad (ew b c).length k∧L'=cR (.slice ad (ew b c).length k) (ew b c)::R):=by
 refine a7 (cz hv) fun ho=>?_
 refine a7 (cz hu) fun SE=>?_
 refine a8 (args:=[_,_]) Tryz.func156 rfl Tryz.ntmps156 Tryz.results156 rfl ?_
 (repeat' first|(apply bZ;exact rfl;exact rfl;exact rfl;exact .one (dU ho) rfl (.one (dU SE) rfl .nil);exact rfl;exact rfl;intro _)|refine Za ?_|refine Zb ?_|apply Zc|apply Zd|apply Ze|apply Zf)
 refine aZ rfl rfl (fe _ e 1 _ [(v,b),(u,c)] (bu .zero rfl zl) (fun a ha=>?_) (fun a ha=>?_) (by simp)) ?_
 ·rcases aQ.1 ha with rfl|ha
  ·exact hv.tail
  ·rw [an.1 ha];exact hu.tail
 ·rcases aQ.1 ha with rfl|ha
  ·exact hb
  ·rw [an.1 ha];exact hc
 rintro _ _ ⟨ad,k,rfl,rfl⟩;refine wB ?_;exact aY (cR (.slice ad (ew b c).length k) (ew b c)::R) rfl zE ⟨ad,k,rfl,rfl⟩
theorem BC (R:List cK) (e:World) (v:Value) (b:List UInt8) (hv:da R v b) (hb:b.length≤1000000) :
 Ct Tryz.prog 58 #[v] e R (fun v' L'=>∃ ad c,v'=.slice ad (cZ b).length c∧L'=cR (.slice ad (cZ b).length c) (cZ b)::R):=by
 refine a7 (cz hv) fun ho=>?_
 refine a8 (args:=[_]) Tryz.func58 rfl Tryz.ntmps58 Tryz.results58 rfl ?_
 (repeat' first|(apply bZ;exact rfl;exact rfl;exact rfl;exact .one (dU ho) rfl .nil;exact rfl;exact rfl;intro _)|refine Za ?_|refine Zb ?_|apply Zc|apply Zd|apply Ze|apply Zf)
 refine aZ rfl rfl (fa _ e 0 _ [(v,b)] (bu .zero rfl zl) (fun a ha=>by rw [an.1 ha];exact hv.tail) (fun a ha=>by rw [an.1 ha];exact hb) (by simp)) ?_;rintro _ _ ⟨ad,c,rfl,rfl⟩;refine wB ?_;exact aY (cR (.slice ad (cZ b).length c) (cZ b)::R) rfl zE ⟨ad,c,rfl,rfl⟩
theorem BD (R:List cK) (e:World) (v u:Value) (b c:List UInt8) (hv:da R v b) (hu:da R u c) (hb:b.length≤1000000) (hc:c.length≤1000000) :
 Ct Tryz.prog 192 #[v,u] e R (fun v' L'=>∃ ad k,v'=.slice ad (ew b c).length k∧L'=cR (.slice ad (ew b c).length k) (ew b c)::R):=by
 refine a7 (cz hv) fun ho=>?_
 refine a7 (cz hu) fun SE=>?_
 refine a8 (args:=[_,_]) Tryz.func192 rfl Tryz.ntmps192 Tryz.results192 rfl ?_
 (repeat' first|(apply bZ;exact rfl;exact rfl;exact rfl;exact .one (dU ho) rfl (.one (dU SE) rfl .nil);exact rfl;exact rfl;intro _)|refine Za ?_|refine Zb ?_|apply Zc|apply Zd|apply Ze|apply Zf)
 refine aZ rfl rfl (fa _ e 1 _ [(v,b),(u,c)] (bu .zero rfl zl) (fun a ha=>?_) (fun a ha=>?_) (by simp)) ?_
 ·rcases aQ.1 ha with rfl|ha
  ·exact hv.tail
  ·rw [an.1 ha];exact hu.tail
 ·rcases aQ.1 ha with rfl|ha
  ·exact hb
  ·rw [an.1 ha];exact hc
 rintro _ _ ⟨ad,k,rfl,rfl⟩;refine wB ?_;exact aY (cR (.slice ad (ew b c).length k) (ew b c)::R) rfl zE ⟨ad,k,rfl,rfl⟩
end Go.Proofs
namespace Go.Proofs
open Go.Bs
def eT (fY:List UInt8):UInt32:=wd (ez 13 [fY]) 0
def jf (d:UInt32) (bit side:Nat):Bool:=decide (IntKind.i64.wrap (Go.bits .and .u32 ((d >>> UInt32.ofNat (31 - (bit:Int)).toNat).toNat:Int) 1)=(side:Int))
def eB (seed:List UInt8) (key bit side:Nat):List UInt8:=ez 10 [seed,be key 4++[UInt8.ofNat bit,UInt8.ofNat side]]
def fT (seed:List UInt8) (key bit side:Nat):List UInt8:=ez 11 [eB seed key bit side]
def gD (c:Nat→Nat→Bool) (seed:List UInt8) (key n:Nat):List UInt8:=if c (n / 2) (n % 2) then eB seed key (n / 2) (n % 2) else fT seed key (n / 2) (n % 2)
def nd (c:Nat→Nat→Bool) (seed:List UInt8) (key:Nat):List (List UInt8):=(List.range 64).map (gD c seed key)
def fN (seed:List UInt8) (key:Nat):List UInt8:=ez 12 (nd (fun _ _=>false) seed key)
def mY (seed:List UInt8) (key:Nat) (fY:List UInt8):List (List UInt8):=nd (jf (eT fY)) seed key
def iD (d:UInt32) (l:List (List UInt8)) (n:Nat):List UInt8:=if jf d (n / 2) (n % 2) then ez 11 [l.getD n []] else l.getD n []
def iE (fY:List UInt8) (l:List (List UInt8)):List UInt8:=ez 12 ((List.range 64).map (iD (eT fY) l))
theorem oc (c:Nat→Nat→Bool) (seed:List UInt8) (key n:Nat):(gD c seed key n).length=32:=by
 unfold gD;split
 ·exact de _ _
 ·exact de _ _
theorem kZ (c:Nat→Nat→Bool) (seed:List UInt8) (key:Nat):(nd c seed key).length=64:=by simp [nd]
theorem sI {c:Nat→Nat→Bool} {seed:List UInt8} {key:Nat}:∀ a∈nd c seed key,a.length=32:=fun a ha=>by
 obtain ⟨n,_,rfl⟩:=aD.1 ha;exact oc _ _ _ _
theorem BE (seed:List UInt8) (key:Nat) (fY:List UInt8):iE fY (mY seed key fY)=fN seed key:=by
 unfold iE fN nd
 congr 1
 apply List.map_congr_left;intro n hn;have hn:=List.mem_range.1 hn
 have hg:(mY seed key fY).getD n []=gD (jf (eT fY)) seed key n:=by
  unfold mY nd;rw [aL,aI,List.getElem?_range hn]
  rfl
 have hR:gD (fun _ _=>false) seed key n=fT seed key (n / 2) (n % 2):=aB Bool.false_ne_true;rw [hR];unfold iD;rw [hg]
 cases hc:jf (eT fY) (n / 2) (n % 2) with
 | true =>
  have hP:gD (jf (eT fY)) seed key n=eB seed key (n / 2) (n % 2):=by unfold gD;rw [hc];exact aH rfl
  rw [hP,aH rfl,fT]
 | false =>
  have hP:gD (jf (eT fY)) seed key n=fT seed key (n / 2) (n % 2):=by unfold gD;rw [hc];exact aB (by decide)
  rw [hP,aB (by decide)]
def ix:List (List UInt8)→List (List UInt8)
 | a::b::r=>ez 14 [a,b]::ix r
 | _=>[]
def er (seed:List UInt8):List (List UInt8):=(List.range 16).map (fN seed)
def nf (l:List (List UInt8)):Nat→List (List UInt8)
 | 0=>l
 | n+1=>ix (nf l n)
def fu (seed:List UInt8):List UInt8:=(nf (er seed) 4).getD 0 []
def uk (l:List (List UInt8)) (i:Nat):List (List UInt8):=(List.range 4).map fun h=>(nf l h).getD ((i / 2 ^ h) ^^^ 1) []
structure vR where
 idx:Nat
 parts:List (List UInt8)
 path:List (List UInt8)
 deriving DecidableEq
def lH (seed:List UInt8) (i:Nat) (fY:List UInt8):vR:=⟨i,mY seed i fY,uk (er seed) i⟩
def vR.right (s:vR):Prop:=s.idx<16∧s.parts.length=64∧(∀ a∈s.parts,a.length=32)∧s.path.length=4∧∀ a∈s.path,a.length=32
instance (s:vR):Decidable s.right:=by unfold vR.right;infer_instance
def lI:Nat→List UInt8→List (List UInt8)→List UInt8
 | _,t,[]=>t
 | i,t,o::r=>lI (i / 2) (if i % 2=0 then ez 14 [t,o] else ez 14 [o,t]) r
def vS (iY fY:List UInt8) (s:vR):Prop:=s.right∧lI s.idx (iE fY s.parts) s.path=iY
instance (iY fY:List UInt8) (s:vR):Decidable (vS iY fY s):=by unfold vS;infer_instance
theorem gO:∀ l:List (List UInt8),(ix l).length=l.length / 2
 | []=>by simp [ix]
 | [_]=>by simp [ix]
 | _::_::r=>by simp only [ix,aR,gO r];omega
theorem oe:∀ (l:List (List UInt8)) (i:Nat),2*i+1<l.length→(ix l).getD i []=ez 14 [l.getD (2*i) [],l.getD (2*i+1) []]
 | [],i,h=>by simp at h
 | [_],i,h=>by simp at h
 | a::b::r,0,_=>rfl
 | a::b::r,i+1,h=>by
  have:=oe r i (by simp only [aR] at h;omega)
  show (ix r).getD i []=_
  rw [this]
  rfl
theorem sJ:∀ l:List (List UInt8),∀ a∈ix l,a.length=32
 | [],a,h=>by cases h
 | [_],a,h=>by cases h
 | x::y::r,a,h=>by
  rcases aQ.1 h with rfl|h
  ·exact de _ _
  ·exact sJ r a h
theorem jg {l:List (List UInt8)} (hl:l.length=16):∀ n,n≤4→(nf l n).length=2 ^ (4 - n):=by
 intro n hn
 match n,hn with
 | 0,_=>exact hl
 | 1,_=>simp [nf,gO,hl]
 | 2,_=>simp [nf,gO,hl]
 | 3,_=>simp [nf,gO,hl]
 | 4,_=>simp [nf,gO,hl]
theorem gE (seed:List UInt8):(er seed).length=16:=by simp [er]
theorem lh {seed:List UInt8}:∀ a∈er seed,a.length=32:=fun a ha=>by
 obtain ⟨n,_,rfl⟩:=aD.1 ha;exact de _ _
theorem nH {l:List (List UInt8)} (h:∀ a∈l,a.length=32):∀ n,∀ a∈nf l n,a.length=32
 | 0=>h
 | n+1=>sJ _
theorem uo {l:List (List UInt8)} {i:Nat} (h:∀ a∈l,a.length=32) (hi:i<l.length):(l.getD i []).length=32:=by
 rw [aL,ae hi];exact h _ (az hi)
theorem lj (seed:List UInt8):(fu seed).length=32:=uo (nH lh 4) (by rw [jg (gE seed) 4 zo];decide)
theorem PQ:∀ {n:Nat},n<16→n ^^^ 1=if n % 2=0 then n+1 else n - 1:=by decide
theorem oh {l:List (List UInt8)} {i:Nat} (hi:i<l.length) (Ns:i<16) (he:l.length % 2=0):(if i % 2=0 then ez 14 [l.getD i [],l.getD (i ^^^ 1) []] else ez 14 [l.getD (i ^^^ 1) [],l.getD i []])=(ix l).getD (i / 2) []:=by
 rw [oe l (i / 2) zo,PQ Ns]
 split
 ·rename_i h;rw [show 2*(i / 2)=i by omega]
 ·rename_i h;rw [show 2*(i / 2)+1=i by omega,show 2*(i / 2)=i - 1 by omega]
theorem IQ (seed:List UInt8) {i:Nat} (hi:i<16):lI i ((er seed).getD i []) (uk (er seed) i)=fu seed:=by
 have hl:=jg (gE seed);have s0:=oh (l:=nf (er seed) 0) (i:=i) (by rw [hl 0 zo];simpa using hi) zo (by rw [hl 0 zo]);have s1:=oh (l:=nf (er seed) 1) (i:=i / 2) (by rw [hl 1 zo];simp;omega) zo (by rw [hl 1 zo]);have s2:=oh (l:=nf (er seed) 2) (i:=i / 2 / 2) (by rw [hl 2 zo];simp;omega) zo (by rw [hl 2 zo]);have s3:=oh (l:=nf (er seed) 3) (i:=i / 2 / 2 / 2) (by rw [hl 3 zo];simp;omega) zo (by rw [hl 3 zo])
 show lI i ((nf (er seed) 0).getD i []) [(nf (er seed) 0).getD ((i / 2 ^ 0) ^^^ 1) [],(nf (er seed) 1).getD ((i / 2 ^ 1) ^^^ 1) [],(nf (er seed) 2).getD ((i / 2 ^ 2) ^^^ 1) [],(nf (er seed) 3).getD ((i / 2 ^ 3) ^^^ 1) []]=_
 rw [show i / 2 ^ 0=i by simp,show i / 2 ^ 1=i / 2 by simp,show i / 2 ^ 2=i / 2 / 2 by rw [Nat.div_div_eq_div_mul],show i / 2 ^ 3=i / 2 / 2 / 2 by rw [Nat.div_div_eq_div_mul,Nat.div_div_eq_div_mul]];simp only [lI];rw [s0]
 show (if i / 2 / 2 / 2 % 2=0 then ez 14 [if i / 2 / 2 % 2=0 then ez 14 [if i / 2 % 2=0 then ez 14 [(nf (er seed) 1).getD (i / 2) [],_] else ez 14 [_,(nf (er seed) 1).getD (i / 2) []],_] else ez 14 [_,if i / 2 % 2=0 then ez 14 [(nf (er seed) 1).getD (i / 2) [],_] else ez 14 [_,(nf (er seed) 1).getD (i / 2) []]],_] else ez 14 [_,if i / 2 / 2 % 2=0 then ez 14 [if i / 2 % 2=0 then ez 14 [(nf (er seed) 1).getD (i / 2) [],_] else ez 14 [_,(nf (er seed) 1).getD (i / 2) []],_] else ez 14 [_,if i / 2 % 2=0 then ez 14 [(nf (er seed) 1).getD (i / 2) [],_] else ez 14 [_,(nf (er seed) 1).getD (i / 2) []]]])=_
 rw [s1]
 show (if i / 2 / 2 / 2 % 2=0 then ez 14 [if i / 2 / 2 % 2=0 then ez 14 [(nf (er seed) 2).getD (i / 2 / 2) [],_] else ez 14 [_,(nf (er seed) 2).getD (i / 2 / 2) []],_] else ez 14 [_,if i / 2 / 2 % 2=0 then ez 14 [(nf (er seed) 2).getD (i / 2 / 2) [],_] else ez 14 [_,(nf (er seed) 2).getD (i / 2 / 2) []]])=_
 rw [s2]
 show (if i / 2 / 2 / 2 % 2=0 then ez 14 [(nf (er seed) 3).getD (i / 2 / 2 / 2) [],_] else ez 14 [_,(nf (er seed) 3).getD (i / 2 / 2 / 2) []])=_
 rw [s3];rw [show i / 2 / 2 / 2 / 2=0 by omega]
 rfl
theorem im (l:List (List UInt8)) (i:Nat):(uk l i).length=4:=by simp [uk]
theorem FG {seed:List UInt8} {i:Nat} (hi:i<16):∀ a∈uk (er seed) i,a.length=32:=fun a ha=>by
 obtain ⟨h,hh,rfl⟩:=aD.1 ha;have hh:=List.mem_range.1 hh;refine uo (nH lh h) ?_;rw [jg (gE seed) h zo,PQ (Nat.lt_of_le_of_lt (Nat.div_le_self _ _) hi)]
 match h,hh with
 | 0,_=>simp;split<;>omega
 | 1,_=>simp;split<;>omega
 | 2,_=>simp;split<;>omega
 | 3,_=>simp;split<;>omega
theorem jh {seed fY:List UInt8} {i:Nat} (hi:i<16):(lH seed i fY).right:=⟨hi,kZ _ _ _,sI,im _ _,FG hi⟩
theorem sK {seed fY:List UInt8} {i:Nat} (hi:i<16):vS (fu seed) fY (lH seed i fY):=by
 refine ⟨jh hi,?_⟩
 show lI i (iE fY (mY seed i fY)) (uk (er seed) i)=_
 rw [BE,← IQ seed hi]
 congr 1
 unfold er;rw [aL,aI,List.getElem?_range hi]
 rfl
end Go.Proofs
namespace Go.Proofs
attribute [local irreducible] Bs.cE Bs.Do Bs.O Bs.W Bs.Fin Bs.A Bs.Ct Bs.cF Bs.Rd Bs.Sat Bs.cM Bs.Ob Bs.dJ Bs.View Bs.cC Bs.Ex Bs.dI Bs.Pu Bs.eZ Bs.dK Bs.eh
open Go.Bs
open Tryz
variable (R:List cK) (e:World)
theorem iJ {L:List cK} {ad:Option Addr} {c k:Nat} {ts:List dX} (h:cF L 1 (.slice ad ts.length c) ts.length (ts.map (·.1))) (hk:k≤ts.length):cF L 1 (.slice ad k c) (ts.take k).length ((ts.take k).map (·.1)):=by
 have:=cF.qV h hk;rw [Nat.mul_one,← List.map_take] at this
 rw [aE,Nat.min_eq_left hk];exact this
theorem mj {L:List cK} {ad:Option Addr} {c k:Nat} {ts:List dX} (h:cF L 1 (.slice ad ts.length c) ts.length (ts.map (·.1))) (hk:k≤ts.length):cF L 1 (.slice (cutAt ad c k 1) (ts.length - k) (c - k)) (ts.drop k).length ((ts.drop k).map (·.1)):=by
 have:=cF.qW h hk;rw [Nat.mul_one,← List.map_drop] at this
 rw [aP];exact this
theorem gF {L:List cK} {a b:List dX} (h:dE L a) (hs:∀ x∈b,x∈a):dE L b:=fun x hx=>h x (hs x hx)
theorem j1:∀ (n:Nat) (R:List cK) (e:World) (v:Value) (ts:List dX),ts.length=n→cF R 1 v ts.length (ts.map (·.1))→dE R ts→(∀ a∈ts,a.2.length≤1000000)→ts.length≤1000000 →
 Ct prog 78 #[v] e R (fun v' L'=>∃ ad c,v'=.slice ad (dR (ts.map (·.2))).length c∧L'=cR (.slice ad (dR (ts.map (·.2))).length c) (dR (ts.map (·.2)))::R):=by
 intro n
 induction n using Nat.strongRecOn with
 | _ n ih =>
 intro R e v ts hn hv ht hb hl;refine a7 (hv.shape zo) ?_;rintro ⟨⟨ad,cap,rfl,h3,h4,h5,h6⟩,_⟩;simp only [maxLen] at h4
 refine a8 (args:=[_]) func78 rfl ntmps78 results78 rfl ?_
 by_cases h0:ts.length=0
 ·obtain rfl:ts=[]:=List.eq_nil_of_length_eq_zero h0;refine wB ?_;refine aZ rfl rfl (sH _ e _ [] (da.nil _) (by simp)) ?_;rintro _ _ ⟨dS,c2,rfl,rfl⟩;refine wB ?_;exact aY (cR (.slice dS (rB []).length c2) (rB [])::R) rfl zE ⟨dS,c2,by rw [List.map_nil,j0];rfl,by rw [List.map_nil,j0]⟩
 by_cases h1:ts.length=1
 ·obtain ⟨a,rfl⟩:=List.length_eq_one_iff.1 h1;rcases h6 with h6|⟨gl,ol,rfl⟩
  ·omega
  have hr:Rd R ⟨gl,ol+0,none⟩ a.1:=hv.elem rfl;have Uv:=ht a (an.2 rfl);have PR:=hb a (an.2 rfl);refine wB ?_;refine bD <| Do.fo (di na 1) (bm (v:=nY) (k:=0) rfl rfl rfl .zero Uv rfl rfl jS zm zo fun ep c3 _=>?_)
  simp only [aC,List.nil_append];have VL:dR ([a].map (·.2))=a.2:=mh _;rw [VL];refine wB ?_;exact aY (cR (.slice ep a.2.length c3) a.2::R) rfl zE ⟨ep,c3,rfl,rfl⟩
 have hs:=dw (n:=ts.length) zo;refine wB ?_;refine aZ rfl rfl (my R e ts.length zo) ?_;rintro _ _ ⟨rfl,rfl⟩;rw [jd];have so:=je (l:=ts.map (·.2)) (by rw [ab];omega);rw [ab,← List.map_take,← List.map_drop] at so
 have qL:=lS (l:=(ts.take (cO ts.length)).map (·.2)) (m:=1000000) zo (fun a ha=>by obtain ⟨x,hx,rfl⟩:=aD.1 ha;exact hb x (aN hx));have qs:=lS (l:=(ts.drop (cO ts.length)).map (·.2)) (m:=1000000) zo (fun a ha=>by obtain ⟨x,hx,rfl⟩:=aD.1 ha;exact hb x (aS hx));have BF:=iJ hv (k:=cO ts.length) zo;have yY:=mj hv (k:=cO ts.length) zo
 generalize cO ts.length=k at *
 have K2:(ts.take k).length=k:=by rw [aE];omega
 have yZ:(ts.drop k).length=ts.length - k:=aP;refine wB ?_;refine bE (id:=7) [9] mixed ?_
 (refine tM 0 ?_;refine tM 1 ?_;refine tk 2 _ rfl (cE.gY rfl rfl zo zo) ?_;refine tM 4 ?_;refine tM 5 ?_;refine tk 6 _ rfl (cE.jw rfl rfl zo zo) ?_)
 refine tO 3 ?_;refine bg rfl rfl (ih k zo R e _ (ts.take k) K2 BF (gF ht fun x hx=>aN hx) (fun a ha=>hb a (aN ha)) zo) ?_;rintro _ _ ⟨dW,c1,rfl,rfl⟩;refine ⟨fun _=>zE,?_⟩;refine tO 7 ?_;refine bg rfl rfl (ih (ts.length - k) zo _ e _ (ts.drop k) yZ yY.tail (dE.tail (gF ht fun x hx=>aS hx)) (fun a ha=>hb a (aS ha)) zo) ?_;rintro _ _ ⟨dS,c2,rfl,rfl⟩;refine ⟨fun _=>zE,?_⟩;refine tO 8 ?_;refine bg rfl rfl (mi _ e _ _ _ _ (ba (.succ .zero)) (ba .zero) qL qs) ?_;rintro _ _ ⟨ep,c3,rfl,rfl⟩;refine ⟨fun _=>zE,?_⟩;rw [← so]
 ((refine tO 9 ?_;refine dV (bj rfl) ?_))
 refine bf zK ?_;refine wB ?_;exact aY (cR (.slice ep (dR (ts.map (·.2))).length c3) (dR (ts.map (·.2)))::R) rfl zE ⟨ep,c3,rfl,rfl⟩
theorem y4:∀ (n:Nat) (R:List cK) (e:World) (v:Value) (ts:List dX),ts.length=n→cF R 1 v ts.length (ts.map (·.1))→dE R ts→(∀ a∈ts,a.2.length≤1000000)→ts.length≤1000000 →
 Ct prog 103 #[v] e R (fun v' L'=>∃ A,L'=A::R∧∀ M,dE M ts→da (A::M) v' (dR (ts.map (·.2)))):=by
 intro n
 induction n using Nat.strongRecOn with
 | _ n ih =>
 intro R e v ts hn hv ht hb hl;refine a7 (hv.shape zo) ?_;rintro ⟨⟨ad,cap,rfl,h3,h4,h5,h6⟩,_⟩;simp only [maxLen] at h4
 refine a8 (args:=[_]) func103 rfl ntmps103 results103 rfl ?_
 by_cases h0:ts.length=0
 ·obtain rfl:ts=[]:=List.eq_nil_of_length_eq_zero h0;refine wB ?_;refine aZ rfl rfl (At _ e _ [] (da.nil _) (by simp)) ?_;rintro _ _ ⟨dS,c2,rfl,rfl⟩;refine wB ?_;exact aY (cR (.slice dS (rB []).length c2) (rB [])::R) rfl zE ⟨_,rfl,fun M _=>by rw [List.map_nil,j0];exact ba .zero⟩
 by_cases h1:ts.length=1
 ·obtain ⟨a,rfl⟩:=List.length_eq_one_iff.1 h1;rcases h6 with h6|⟨gl,ol,rfl⟩
  ·omega
  have hr:Rd R ⟨gl,ol+0,none⟩ a.1:=hv.elem rfl;have Uv:=ht a (an.2 rfl);have PR:=hb a (an.2 rfl);refine wB ?_;exact aY (Pu True::R) rfl (oX trivial) ⟨_,rfl,fun M hM=>by rw [show dR ([a].map (·.2))=a.2 from mh _];exact (hM a (an.2 rfl)).tail⟩
 have hs:=dw (n:=ts.length) zo;refine wB ?_;refine aZ rfl rfl (yX R e ts.length zo) ?_;rintro _ _ ⟨rfl,rfl⟩;rw [jd];have so:=je (l:=ts.map (·.2)) (by rw [ab];omega);rw [ab,← List.map_take,← List.map_drop] at so
 have qL:=lS (l:=(ts.take (cO ts.length)).map (·.2)) (m:=1000000) zo (fun a ha=>by obtain ⟨x,hx,rfl⟩:=aD.1 ha;exact hb x (aN hx));have qs:=lS (l:=(ts.drop (cO ts.length)).map (·.2)) (m:=1000000) zo (fun a ha=>by obtain ⟨x,hx,rfl⟩:=aD.1 ha;exact hb x (aS hx));have BF:=iJ hv (k:=cO ts.length) zo;have yY:=mj hv (k:=cO ts.length) zo
 generalize cO ts.length=k at *
 have K2:(ts.take k).length=k:=by rw [aE];omega
 have yZ:(ts.drop k).length=ts.length - k:=aP;refine wB ?_;refine bE (id:=6) [9] mixed ?_
 (refine tM 0 ?_;refine tM 1 ?_;refine tk 2 _ rfl (cE.gY rfl rfl zo zo) ?_;refine tM 4 ?_;refine tM 5 ?_;refine tk 6 _ rfl (cE.jw rfl rfl zo zo) ?_)
 refine tO 3 ?_;refine bg rfl rfl (ih k zo R e _ (ts.take k) K2 BF (gF ht fun x hx=>aN hx) (fun a ha=>hb a (aN ha)) zo) ?_;rintro v1 _ ⟨A1,rfl,Rr⟩;have Rr:=Rr _ (gF ht fun x hx=>aN hx);refine ⟨fun _=>zE,?_⟩;refine tO 7 ?_;refine bg rfl rfl (ih (ts.length - k) zo _ e _ (ts.drop k) yZ yY.tail (dE.tail (gF ht fun x hx=>aS hx)) (fun a ha=>hb a (aS ha)) zo) ?_;rintro v2 _ ⟨A2,rfl,Kq⟩;have Kq:=Kq (A1::R) (dE.tail (gF ht fun x hx=>aS hx));refine ⟨fun _=>zE,?_⟩;refine tO 8 ?_;refine bg rfl rfl (BD _ e _ _ _ _ Rr.tail Kq qL qs) ?_;rintro _ _ ⟨ep,c3,rfl,rfl⟩;refine ⟨fun _=>zE,?_⟩;rw [← so]
 ((refine tO 9 ?_;refine dV (bj rfl) ?_))
 refine bf zK ?_;refine wB ?_;exact aY (cR (.slice ep (dR (ts.map (·.2))).length c3) (dR (ts.map (·.2)))::R) rfl zE ⟨_,rfl,fun M _=>ba .zero⟩
def xe (g:Nat) (l:List UInt8) (ad:Option Addr) (c:Nat):cK:=dI [cM g [.slice ad l.length c] 238 (0,0),cR (.slice ad l.length c) l]
def Writer (g:Nat) (l:List UInt8):cK:=Ex fun ad=>Ex fun c=>xe g l ad c
theorem rE {g:Nat} {l:List UInt8} {R:List cK} {P:Program} {f:FuncId} {args:Array Value} {e:World} {Post:Value→List cK→Prop}
 (h:∀ ad c,Ct P f args e (cM g [.slice ad l.length c] 238 (0,0)::cR (.slice ad l.length c) l::R) Post):Ct P f args e (Writer g l::R) Post :=
 Ct.ex .zero fun ad=>Ct.ex .zero fun c=>(h ad c).cN cW
theorem qu {g c:Nat} {ad:Option Addr} {l:List UInt8} {R:List cK}:cC (cM g [.slice ad l.length c] 238 (0,0)::cR (.slice ad l.length c) l::R) (Writer g l::R) :=
 cn (dN (M:=[_,_])) (cn (fI (f:=fun c=>xe g l ad c) c) (fI (f:=fun ad=>Ex fun c=>xe g l ad c) ad))
theorem ji :
 Ct prog 73 #[] e R (fun v' L'=>∃ g,v'=pt g∧L'=Writer g []::R):=by
 refine a8 (args:=[]) func73 rfl ntmps73 results73 rfl ?_
 (repeat (refine wA ?_;intros))
 refine aY (Writer _ []::R) rfl ?_ ⟨_,rfl,rfl⟩;exact cn (bh (di na 1)) (qu (l:=[]))
theorem hH (g:Nat) (l m:List UInt8) (v:Value) (h:da R v m) (hk:l.length+m.length≤140737488355328) :
 Ct prog 108 #[pt g,v] e (Writer g l::R) (fun v' L'=>v'=.tuple #[]∧L'=Writer g (l++m)::R):=by
 refine rE fun ad c=>?_
 refine a8 (args:=[_,_]) func108 rfl ntmps108 results108 rfl ?_;refine wB ?_;refine bD (bm rfl rfl rfl (.succ .zero) (cF.tail h) rfl rfl jS zm zo fun lE c' lG=>?_)
 refine wB ?_;refine bX (Writer g (l++m)::R) rfl ?_ ⟨rfl,rfl⟩;rw [← ah,← aa];exact cn (bz (.succ .zero) aX) qu
theorem Dx {n:Nat} {j:Nat} (hn:n<4294967296) (hj:j<4):IntKind.u8.wrap ((n:Int).fdiv (2 ^ (min (8*(j:Int)).toNat 32)))=((UInt8.ofNat (n / 256 ^ j)).toNat:Int):=by
 have h1:min (8*(j:Int)).toNat 32=8*j:=by omega
 rw [h1,Int.fdiv_eq_ediv_of_nonneg _ (by exact Int.le_of_lt (Int.pow_pos zo))];have h2:(2:Int) ^ (8*j)=((256 ^ j:Nat):Int):=by rw [Int.pow_mul];simp
 rw [h2,← Int.natCast_ediv];unfold IntKind.wrap
 simp [IntKind.bits,IntKind.signed]
theorem pL (g:Nat) (l:List UInt8) (n size:Nat) (hn:n<4294967296) (hs:size≤4) (hk:l.length+size≤140737488355328) :
 Ct prog 148 #[pt g,.int .u32 n,.int .i64 size] e (Writer g l::R) (fun v' L'=>v'=.tuple #[]∧L'=Writer g (l++be n size)::R):=by
 refine rE fun ad c=>?_
 refine a8 (args:=[_,_,_]) func148 rfl ntmps148 results148 rfl ?_;refine wB ?_;refine br (ι:=Nat × List UInt8 × Option Addr × Nat) (fun i=>[(0,pt g),(1,.int .u32 n),(6,.int .i64 ((i.1:Int) - 1))])
  (fun i=>cM g [.slice i.2.2.1 (l++i.2.1).length i.2.2.2] 238 (0,0)::cR (.slice i.2.2.1 (l++i.2.1).length i.2.2.2) (l++i.2.1)::R)
  (fun i=>i.1≤size∧i.2.1++be n i.1=be n size) (fun i=>i.1) (size,[],ad,c) ⟨aT _,rfl⟩ (cD rfl (cD rfl (cD rfl dc))) (by simp only [aK];exact aX) ?_
 rintro ⟨j,done,ad,c⟩ ⟨hj,hd⟩;dsimp only at hj hd ⊢
 have hl:done.length+j=size:=by have:=congrArg List.length hd;simpa [cY] using this
 cases j with
 | zero =>
  refine wB ?_;simp only [be,aK] at hd
  subst hd;exact bX _ rfl (qu (l:=_++_)) ⟨rfl,rfl⟩
 | succ j =>
  have e1:((j+1:Nat):Int) - 1=(j:Int):=by omega
  simp only [e1];refine wB ?_;refine bl [12,13,14] [cM g [.slice ad (l++done).length c] 238 (0,0)] mixed ?_;refine tM 0 ?_;refine tM 1 ?_;refine tN 2 ?_;refine tF 3 ?_;refine tL 4 ?_;refine tM 5 ?_;refine tM 6 ?_;refine tk 7 _ rfl (cE.uX rfl rfl zo) ?_;refine tk 8 _ rfl (cE.shr rfl rfl zo) ?_;refine tk 9 _ rfl (cE.jv rfl) ?_;refine tO 10 ?_;refine bF rfl rfl (by rfl) (by rfl) zQ (by rfl) (fun g'=>⟨fun _=>zE,?_⟩);refine tO 11 ?_;have hb:=Dx (j:=j) hn zo;refine bm (m:=1) (ys:=[u8 (UInt8.ofNat (n / 256 ^ j))]) rfl rfl rfl (.succ (.succ .zero)) ?_ rfl rfl (by simp [u8,Value.oneCell']) (by simp only [maxLen];simp;omega) (by simp;omega) (fun lE c' lG=>⟨fun _=>zE,?_⟩)
  ·exact (bu .zero rfl zl).cast (congrArg (fun x=>[Value.int .u8 x]) hb)
  refine tO 12 ?_;refine dV (bp rfl) ?_;refine tO 13 ?_;refine dV (bb rfl) ?_;refine tO 14 ?_;refine cd rfl rfl rfl zU .zero ⟨zN,?_⟩;refine bf zK ?_;refine wB ?_;refine bi (j,done++[UInt8.ofNat (n / 256 ^ j)],lE,c') ?_ ?_ ?_ ?_
  ·exact ⟨by dsimp only;omega,by simpa [be] using hd⟩
  ·exact Nat.lt_succ_self j
  ·exact cD rfl (cD rfl (cD rfl dc))
  ·have e2:(l++(done++[UInt8.ofNat (n / 256 ^ j)])).length=(l++done).length+1:=by simp;omega
   have e3:(l++(done++[UInt8.ofNat (n / 256 ^ j)])).map u8=List.map u8 (l++done)++[u8 (UInt8.ofNat (n / 256 ^ j))]:=by simp
   dsimp only;rw [cR,e2,e3];exact zE
theorem mm (g:Nat) (l:List UInt8) (b:UInt8) (hk:l.length+1≤140737488355328) :
 Ct prog 121 #[pt g,u8 b] e (Writer g l::R) (fun v' L'=>v'=.tuple #[]∧L'=Writer g (l++[b])::R):=by
 refine a8 (args:=[_,_]) func121 rfl ntmps121 results121 rfl ?_;have hb:b.toNat<256:=b.toNat_lt;refine wB ?_;refine bD (bg rfl rfl (pL R e g l b.toNat 1 zo zo hk) ?_)
 rintro _ _ ⟨rfl,rfl⟩
 (repeat (refine wA ?_;intros))
 refine bX _ rfl aX ⟨rfl,?_⟩
 simp [be]
theorem gG (g:Nat) (l:List UInt8) (n:Nat) (hn:n<4294967296) (hk:l.length+4≤140737488355328) :
 Ct prog 74 #[pt g,.int .u32 n] e (Writer g l::R) (fun v' L'=>v'=.tuple #[]∧L'=Writer g (l++be n 4)::R):=by
 refine a8 (args:=[_,_]) func74 rfl ntmps74 results74 rfl ?_;refine wB ?_;refine bD (bg rfl rfl (pL R e g l n 4 zo zo hk) ?_)
 rintro _ _ ⟨rfl,rfl⟩
 (repeat (refine wA ?_;intros))
 exact bX _ rfl aX ⟨rfl,rfl⟩
theorem xf (g:Nat) (l m:List UInt8) (v:Value) (h:da R v m) (hk:l.length+m.length+2≤140737488355328) (hm:m.length≤65535) :
 Ct prog 120 #[pt g,v] e (Writer g l::R) (fun v' L'=>v'=.bool true∧L'=Writer g (l++be m.length 2++m)::R):=by
 refine a7 ((da.tail h).shape zo) ?_;rintro ⟨⟨ad,cap,rfl,h3,h4,h5,h6⟩,_⟩;refine a8 (args:=[_,_]) func120 rfl ntmps120 results120 rfl ?_;refine wB ?_;refine bD (bg rfl rfl (pL R e g l m.length 2 zo zo zo) ?_)
 rintro _ _ ⟨rfl,rfl⟩;refine wB ?_;refine bD (bg rfl rfl (hH R e g _ m _ h (by simp [cY];omega)) ?_)
 rintro _ _ ⟨rfl,rfl⟩;refine wB ?_;exact aY _ rfl aX ⟨rfl,rfl⟩
theorem FH (g:Nat) (l m:List UInt8) (v:Value) (h:da R v m) (hm:65535<m.length) :
 Ct prog 120 #[pt g,v] e (Writer g l::R) (fun v' L'=>v'=.bool false∧L'=Writer g l::R):=by
 refine a7 ((da.tail h).shape zo) ?_;rintro ⟨⟨ad,cap,rfl,h3,h4,h5,h6⟩,_⟩;refine a8 (args:=[_,_]) func120 rfl ntmps120 results120 rfl ?_;refine wB ?_;exact aY _ rfl aX ⟨rfl,rfl⟩
theorem hI (g:Nat) (l:List UInt8) (hk:l.length≤140737488355328) :
 Ct prog 77 #[pt g] e (Writer g l::R) (fun v' L'=>∃ ad c,v'=.slice ad l.length c∧L'=cR (.slice ad l.length c) l::Writer g l::R):=by
 refine rE fun ad c=>?_
 refine a8 (args:=[_]) func77 rfl ntmps77 results77 rfl ?_;refine wB ?_;refine bD (bg rfl rfl (dy _ e _ l (ba (.succ .zero)) hk) ?_)
 rintro _ _ ⟨lE,c',rfl,rfl⟩;refine wB ?_;exact aY _ rfl (bh qu) ⟨_,_,rfl,rfl⟩
theorem dE.ea {L R:List cK} {l:List dX} (p:cT L (cG l) R):dE L l:=fun a ha=>(ef (R:=R) a ha).cN p.out
theorem Dy {L:List cK} {l:List dX} (h:dE L l):∀ x,dK L x→∀ c∈l.map (·.1),c.oneCell'=true:=fun x hx c hc=>by
 obtain ⟨a,ha,rfl⟩:=aD.1 hc;exact cz (h a ha) x hx
end Go.Proofs
namespace Go.Bs
end Go.Bs
namespace Go.Proofs
open Go.Bs
attribute [local irreducible] Bs.cE Bs.Do Bs.O Bs.W Bs.Fin Bs.A Bs.Ct Bs.cF Bs.Rd Bs.Sat Bs.cM Bs.Ob Bs.dJ Bs.View Bs.cC Bs.Ex Bs.dI Bs.Pu Bs.eZ Bs.dK Bs.eh
theorem eV {ad:Option Addr} {c:Nat} {out:List dX} {v:Value} {b:List UInt8} {R:List cK} :
 cC (dJ dZ 1 (.slice ad (out.length+1) c) (out.length+1) (out.map (·.1)++[v])::cR v b::cG out::R) (cU (.slice ad (out++[(v,b)]).length c) (out++[(v,b)])::cG (out++[(v,b)])::R):=by
 unfold cU;rw [aa,aj,ah];refine bh (cn (jx (a:=(v,b))) (cn (bz (.succ .zero) aX) eK))
theorem xg (R:List cK) (e:World) (v:Value) (l:List dX) (hv:cF R 1 v l.length (l.map (·.1))) (ht:dE R l) (hb:∀ a∈l,a.2.length≤1000000) (hl:l.length≤1000000) :
 Ct Tryz.prog 104 #[v] e R (fun v' L'=>∃ ad c ts,v'=.slice ad ts.length c∧ts.map (·.2)=(l.map (·.2)).map cZ∧L'=cU (.slice ad ts.length c) ts::cG ts::R):=by
 refine a7 (hv.shape zo) ?_;rintro ⟨⟨uu,cap,rfl,h3,h4,h5,h6⟩,_⟩;simp only [maxLen] at h4
 refine a8 (args:=[_]) Tryz.func104 rfl Tryz.ntmps104 Tryz.results104 rfl ?_;refine wB ?_;refine br (ι:=List dX × Option Addr × Nat) (fun i=>[(4,.int .i64 (i.1.length:Int)),(0,.slice uu l.length cap),(3,.slice i.2.1 i.1.length i.2.2)]) (fun i=>cU (.slice i.2.1 i.1.length i.2.2) i.1::cG i.1::R)
  (fun i=>i.1.length≤l.length∧i.1.map (·.2)=((l.take i.1.length).map (·.2)).map cZ) (fun i=>l.length - i.1.length) ([],none,0) ⟨aG _,rfl⟩ (cD rfl (cD rfl (cD rfl dc))) ((di dZ 1).trans (bh dC)) ?_
 rintro ⟨out,ad,c⟩ ⟨hi,hd⟩;dsimp only at hi hd ⊢
 by_cases cQ:out.length<l.length
 ·rcases h6 with h6|⟨gl,ol,rfl⟩
  ·omega
  have hr:Rd R ⟨gl,ol+out.length,none⟩ (l[out.length]'cQ).1:=hv.elem (by rw [aI,ae cQ];rfl);have js:=ht _ (az cQ);have vQ:=hb _ (az cQ)
  have fq:((l.take (out.length+1)).map (·.2)).map cZ=((l.take out.length).map (·.2)).map cZ++[cZ (l[out.length]'cQ).2]:=by
   rw [aA cQ,ah,ah];rfl
  generalize l[out.length]'cQ=y at *
  obtain ⟨yv,yt⟩:=y;dsimp only at js vQ fq hr
  refine wB ?_;refine aZ rfl rfl (BC _ e _ yt js.tail.tail vQ) ?_;rintro _ _ ⟨dS,c2,rfl,rfl⟩
  generalize cZ yt=lf at *
  (repeat (refine wA ?_;intros))
  refine bD (bm rfl rfl rfl zP (bu .zero rfl zl) rfl rfl zO zm zo fun ep c3 _=>?_)
  refine wB ?_;refine bi (out++[(.slice dS lf.length c2,lf)],ep,c3) ⟨by rw [aa];exact cQ,by rw [ah,hd,aa,aj,fq];rfl⟩ (by dsimp only;rw [aa,aj];omega) ?_ ?_
  ·dsimp only;rw [aa,aj];exact cD rfl (cD rfl (cD rfl dc))
  ·exact cn zE eV
 rw [show out.length=l.length by omega,aF (aT _)] at hd
 refine wB ?_;exact aY (cU (.slice ad out.length c) out::cG out::R) rfl aX ⟨ad,c,out,rfl,hd,rfl⟩
end Go.Proofs
