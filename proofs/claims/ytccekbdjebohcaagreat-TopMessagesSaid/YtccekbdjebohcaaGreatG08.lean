/- Part 8 of a proof of this: TopMessages returns true for any arguments; nothing of the old memory is turned. No condition. -/
import Derived.Test.YtccekbdjebohcaaGreatG07
set_option linter.unusedVariables false
set_option linter.unusedSimpArgs false
namespace Go.Proofs
attribute [local irreducible] Bs.cD Bs.Do Bs.O Bs.W Bs.Fin Bs.A Bs.Ct Bs.cE Bs.Rd Bs.Sat Bs.cK Bs.Ob Bs.dJ Bs.View Bs.cz Bs.Ex Bs.dH Bs.Pu Bs.eY Bs.dM Bs.dZ
open Go.Bs
open Tryz
variable (R:List cJ) (e:World)
abbrev AE.cells (a:AE):List Value:=[.int .i64 (a.jD:Int),.int .i64 (a.ord:Int),.int .i64 (a.il:Int)]
abbrev CV:TypeId:=377
abbrev Xs:TypeId:=364
abbrev qD:TypeId:=379
abbrev nD (v:Value) (l:List AE):cJ:=dJ CV 3 v l.length (l.flatMap AE.cells)
theorem CW (a:AE):a.cells.length=3:=rfl
theorem Xt {l:List AE}:∀ c∈l.flatMap AE.cells,c.oneCell'=true:=se fun a _ c hc=>by
 simp only [AE.cells,aQ,aP,or_false] at hc
 rcases hc with rfl|rfl|rfl<;>rfl
theorem HL {l:List AE} {i:Nat} {a:AE} (h:i<l.length):(l.flatMap AE.cells).take (i*3)++a.cells++(l.flatMap AE.cells).drop (i*3+a.cells.length)=(l.set i a).flatMap AE.cells:=by
 rw [CW,show i*3+3=(i+1)*3 by omega,mE CW,xX CW,List.set_eq_take_append_cons_drop,aI h,aW,aU,aM]
theorem mg {l:List AE} {i:Nat} (h:i<l.length):l.getD i kb=l[i]'h:=by simp [List.getD,h]
theorem Su {n:Nat} (h:n≤1000000000):prog.keyLits 1 3 [.int .i64 (n:Int)]=some [.int .i64 (n:Int)]:=by
 simp only [Program.keyLits,underlying3];rw [aI ⟨trivial,by simp [Lit.wf,IntKind.min,IntKind.max,IntKind.signed,IntKind.bits];omega⟩]
theorem QW (a:AE) (h:a.fits):prog.keyLits 2 CV (Value.agg a.cells.toArray).cells.toList=some [.int .i64 (a.jD:Int),.int .i64 (a.ord:Int),.int .i64 (a.il:Int)]:=by
 have h1:prog.keyLits 2 CV (Value.agg a.cells.toArray).cells.toList=Option.map List.flatten ((prog.keyLits 1 3 [.int .i64 (a.jD:Int)]).bind fun x=>(prog.keyLits 1 3 [.int .i64 (a.ord:Int)]).bind fun y=>(prog.keyLits 1 3 [.int .i64 (a.il:Int)]).bind fun z=>some [x,y,z]):=by kernel_rfl
 rw [h1,Su h.1,Su h.2.1,Su h.2.2]
 rfl
theorem aaR (a b:AE) (ha:a.fits) (hb:b.fits) (x y:Operand):∀ w,∃ r:Bool,((do eqGuard .eql CV x y (.agg a.cells.toArray) (.agg b.cells.toArray);binOp .eql CV (.agg a.cells.toArray) (.agg b.cells.toArray)):Sem Value).run prog w=.ok (.bool r) w:=fun w=>by
 have h1:(eqGuard .eql CV x y (.agg a.cells.toArray) (.agg b.cells.toArray)).run prog w=.ok () w:=by kernel_rfl
 obtain ⟨r,hr,-⟩:=run_equalIn_deep (P:=prog) 9990 10 CV zK w 2 2 (.agg a.cells.toArray) (.agg b.cells.toArray) _ _ zK zK (QW a ha) (QW b hb);have RE:(Op.equal CV (.agg a.cells.toArray) (.agg b.cells.toArray)).run prog w=.ok r w:=hr;refine ⟨r,?_⟩;rw [Sem.run_bind,h1];simp only [Result.andThen_ok,binOp];rw [Sem.run_bind,RE]
 rfl
instance : cI prog 339 339:=⟨call339⟩
theorem E6 (a b:AE) (ha:a.fits) (hb:b.fits) :
 Ct prog 339 #[.agg a.cells.toArray,.agg b.cells.toArray] e R (fun v' L'=>∃ z:Int,v'=.int .i64 z∧decide (z<0)=a.lt b∧R=L'):=by
 refine a8 (args:=[_,_]) func339 rfl ntmps339 results339 rfl ?_;have cO:a.lt b=decide (a.jD<b.jD∨(a.jD=b.jD∧a.ord<b.ord)):=rfl
 (repeat' first|refine Za ?_|refine Zb ?_|apply Zc|apply Zd|apply Ze|apply Zf|refine Zh ?_|refine Zi ?_|refine Zj ?_|refine Zl ?_|refine Zm ?_|refine Zn ?_|refine Zo ?_|refine ZC (fun _=>?_) fun _=>?_|refine ZO (fun _=>?_) fun _=>?_|refine Yg fun _=>?_|refine Yz ?_|refine YA ?_|apply YB|apply YE|apply YF|apply YI)
 all_goals first
  | (exact aY R rfl zE ⟨-1,rfl,by rw [cO,ay zo,ay zo],rfl⟩)
  | (
   refine bC (Do.Sr (aaR a b ha hb _ _) rfl rfl rfl fun q=>?_)
   (repeat' first|(refine W.cond rfl ?_ ?_<;>intro _)|refine Zb ?_|apply Zc|apply Zd|apply Ze|apply Zf|apply YC|apply YE|apply YF|apply YH|apply YI)
   all_goals first
    | exact aY R rfl zE ⟨0,rfl,by rw [cO,aq zo,aq zo],rfl⟩
    | exact aY R rfl zE ⟨1,rfl,by rw [cO,aq zo,aq zo],rfl⟩)
theorem pn {v:Value} {l:List AE} {L R:List cJ} (p:cQ L (nD v l) R):∀ h,dM L h→∃ ad c,v=.slice ad l.length c∧l.length≤c∧c≤maxLen∧((ad=none∧c=0∧l.length=0)∨∃ g,ad=some ⟨g,0,none⟩):=fun h hs=>(fO p h hs).1
theorem KI (ad:Option Addr) (n c:Nat) :
 Ct prog 336 #[.slice ad n c] e R (fun v' L'=>v'=.int .i64 (n:Int)∧R=L'):=by
 refine a8 (args:=[_]) func336 rfl ntmps336 results336 rfl ?_;refine wB ?_;exact aY R rfl zE ⟨rfl,rfl⟩
theorem HM (v:Value) (l:List AE) (i j:Nat) (hv:cE R 3 v l.length (l.flatMap AE.cells)) (hf:∀ a∈l,a.fits) (hi:i<l.length) (hj:j<l.length) :
 Ct prog 337 #[v,.int .i64 (i:Int),.int .i64 (j:Int)] e R (fun v' L'=>v'=.bool ((l.getD i kb).lt (l.getD j kb))∧R=L'):=by
 refine a7 (cE.shape hv zo) ?_;rintro ⟨⟨ad,c,rfl,h3,h4,h5,h6⟩,_⟩;rcases h6 with h6|⟨g,o,rfl⟩
 ·omega
 rw [mg hi,mg hj];have f1:=hf _ (az hi);have f2:=hf _ (az hj);have r1:dZ R g (o+i*3) (l[i]'hi).cells:=dZ.elem hv CW (ae hi);have r2:dZ R g (o+j*3) (l[j]'hj).cells:=dZ.elem hv CW (ae hj)
 generalize l[i]'hi=a at *
 generalize l[j]'hj=b at *
 refine a8 (args:=[_,_,_]) func337 rfl ntmps337 results337 rfl ?_;refine wB ?_;refine bk (id:=1) [10] R mixed ?_
 (refine tM 0 ?_;refine tM 1 ?_;refine tk 2 _ rfl (bD rfl rfl zo) ?_;refine tJ 3 ?_;refine tM 4 ?_;refine tM 5 ?_;refine tk 6 _ rfl (bD rfl rfl zo) ?_;refine tJ 7 ?_)
 refine tO 8 ?_;refine bg rfl rfl (E6 _ e a b f1 f2) ?_;rintro _ _ ⟨z,rfl,hz,rfl⟩;refine ⟨fun _=>zE,?_⟩;rw [← hz]
 (all_goals ((refine A.Ou 9 rfl zK zE (cD.lss rfl rfl) rfl ?_ ?_<;>intro _));all_goals ((refine tO 10 ?_;refine dV (bj rfl) ?_)))
 all_goals refine bf zK ?_
 all_goals refine wB ?_
 all_goals first
  | exact aY R rfl zE ⟨by rw [ay (by assumption)];rfl,rfl⟩
  | exact aY R rfl zE ⟨by rw [aq (by assumption)];rfl,rfl⟩
theorem HN (ad:Option Addr) (c:Nat) (l:List AE) (i j:Nat) (hi:i<l.length) (hj:j<l.length) :
 Ct prog 338 #[.slice ad l.length c,.int .i64 (i:Int),.int .i64 (j:Int)] e (nD (.slice ad l.length c) l::R) (fun v' L'=>v'=.tuple #[]∧L'=nD (.slice ad l.length c) (gL l i j)::R):=by
 refine a7 (pn .zero) ?_;rintro ⟨lL,c',hv,h3,h4,h5⟩
 cases hv
 rcases h5 with ⟨-,-,h5⟩|⟨g,rfl⟩
 ·omega
 have r1:∀ L,cE L 3 (.slice (some ⟨g,0,none⟩) l.length c) l.length (l.flatMap AE.cells)→dZ L g (0+i*3) (l[i]'hi).cells:=fun L hv=>dZ.elem hv CW (ae hi)
 have r2:∀ L,cE L 3 (.slice (some ⟨g,0,none⟩) l.length c) l.length (l.flatMap AE.cells)→dZ L g (0+j*3) (l[j]'hj).cells:=fun L hv=>dZ.elem hv CW (ae hj)
 have r3:=r1 _ (bb (show cQ (nD (.slice (some ⟨g,0,none⟩) l.length c) l::R) (nD (.slice (some ⟨g,0,none⟩) l.length c) l) R from .zero));have r4:=r2 _ (bb (show cQ (nD (.slice (some ⟨g,0,none⟩) l.length c) l::R) (nD (.slice (some ⟨g,0,none⟩) l.length c) l) R from .zero));clear r1 r2;have hsw:gL l i j=(l.set i (l[j]'hj)).set j (l[i]'hi):=by unfold gL;rw [mg hi,mg hj]
 rw [hsw];have fQ:=HL (a:=l[j]'hj) hi;have m1:=HL (l:=l.set i (l[j]'hj)) (i:=j) (a:=l[i]'hi) (by rw [List.length_set];exact hj);have qh:(l.set i (l[j]'hj)).length=l.length:=List.length_set;have ry:((l.set i (l[j]'hj)).set j (l[i]'hi)).length=l.length:=by simp
 generalize l[i]'hi=a at *
 generalize l[j]'hj=b at *
 refine a8 (args:=[_,_,_]) func338 rfl ntmps338 results338 rfl ?_;have Xu:∀ x:AE,∀ v∈x.cells,v.oneCell'=true:=fun x v hv=>by simp only [AE.cells,aQ,aP,or_false] at hv;rcases hv with rfl|rfl|rfl<;>rfl
 refine bk (id:=0) [14,15] R mixed ?_
 (refine tM 0 ?_;refine tM 1 ?_;refine tM 2 ?_;refine tM 3 ?_;refine tM 4 ?_;refine tM 5 ?_;refine tk 6 _ rfl (bD rfl rfl zo) ?_)
 refine tM 8 ?_;refine tM 9 ?_;refine tk 10 _ rfl (bD rfl rfl hi) ?_;refine A.two 7 11 rfl rfl rfl rfl zK ?_ ?_
 ·refine bN (cD.dy rfl r4 rfl) rfl ⟨fun _=>zE,?_⟩;refine tO 11 ?_;refine bN (cD.dy rfl r3 rfl) rfl ⟨fun _=>zE,?_⟩;refine tO 12 ?_;refine bN (bD rfl rfl hi) rfl ⟨fun _=>zE,?_⟩;refine tO 13 ?_;refine Do.oh rfl rfl rfl (Xu _) .zero (by simp only [CW];omega) ⟨fun _=>zE,?_⟩;rw [aC,fQ];refine tO 14 ?_;refine bN (bD rfl rfl hj) rfl ⟨zN,?_⟩;refine tO 15 ?_;refine Do.oh rfl rfl rfl (Xu _) .zero (by simp only [CW];omega) ⟨zN,?_⟩;rw [aC,m1];refine bf zK ?_;refine bT (nD (.slice (some ⟨g,0,none⟩) l.length c) ((l.set i b).set j a)::R) rfl ?_ ⟨rfl,rfl⟩;simp only [nD,ry];exact zE
 ·refine bN (cD.dy rfl r3 rfl) rfl ⟨fun _=>zE,?_⟩;refine tO 7 ?_;refine bN (cD.dy rfl r4 rfl) rfl ⟨fun _=>zE,?_⟩;refine tO 12 ?_;refine bN (bD rfl rfl hi) rfl ⟨fun _=>zE,?_⟩;refine tO 13 ?_;refine Do.oh rfl rfl rfl (Xu _) .zero (by simp only [CW];omega) ⟨fun _=>zE,?_⟩;rw [aC,fQ];refine tO 14 ?_;refine bN (bD rfl rfl hj) rfl ⟨zN,?_⟩;refine tO 15 ?_;refine Do.oh rfl rfl rfl (Xu _) .zero (by simp only [CW];omega) ⟨zN,?_⟩;rw [aC,m1];refine bf zK ?_;refine bT (nD (.slice (some ⟨g,0,none⟩) l.length c) ((l.set i b).set j a)::R) rfl ?_ ⟨rfl,rfl⟩;simp only [nD,ry];exact zE
theorem HO {P:Program} (w:World) (t:TypeId) (p:Addr) (name:String):(Builtin.ssaWrapNilChk_ #[t] t #[.pointer (some p),strVal "",strVal name]).run P w=.ok (.pointer (some p)) w:=rfl
theorem mW {P:Program} {t el:TypeId} {name:String} {sig f:Nat} {p:Addr} {v:Value} (hm:((P.info? t).bind fun i=>i.methods.find? (·.name == name))=some ⟨name,sig,#[],some (f,false)⟩) (hu:P.underlying t=some (.pointer el)) (F5:∀ w,(isAgg el).run P w=.ok false w) (n:Nat) (w:World) (h:w.cell? p=some v) :
 (Go.method (n+1) t (.pointer (some p)) name).run P w=.ok (f,v) w:=by
 cases hi:P.info? t with
 | none=>rw [hi] at hm;cases hm
 | some i =>
  rw [hi] at hm
  simp only [Option.bind_some] at hm
  simp [Go.method,run_typeInfo w hi,hm,follow,receiverAt,run_underlying hu,Place.get,HO,asAddr,loadVar,F5,h]
theorem kI {P:Program} {t:TypeId} {name:String} {f:Nat} {u v:Value} {w:World} (h:(Go.method (P.types.size+99+1) t u name).run P w=.ok (f,v) w) (hc:∀ args w,(callFunc f args).run P w=.ok (.enter f args) w) (xs:List Value) :
 (Go.invoke (.fn (.method name) #[]) (.iface t u::xs).toArray).run P w=.ok (.enter f (v::xs).toArray) w:=by
 have h1:(Go.invoke (.fn (.method name) #[]) (.iface t u::xs).toArray).run P w=(callMethod (.iface t u) name ((.iface t u::xs).toArray.extract 1 (.iface t u::xs).toArray.size)).run P w:=rfl;rw [h1];have h2:(.iface t u::xs).toArray.extract 1 (.iface t u::xs).toArray.size=xs.toArray:=by simp
 rw [h2];have h3:Made.depth=99+1:=rfl;simp only [callMethod,Sem.run_bind,run_program,Result.andThen_ok,h3,← Nat.add_assoc];rw [h];simp only [Result.andThen_ok,hc]
 simp
theorem Sv (w:World) (p:Addr) (v:Value) (h:w.cell? p=some v):(Go.invoke (.fn (.method "Len") #[]) #[.iface qD (.pointer (some p))]).run prog w=.ok (.enter 336 #[v]) w:=by
 have h1:=mW (P:=prog) (t:=qD) (el:=362) (name:= "Len") (sig:=36) (f:=336) zK underlying379 isAgg362 (prog.types.size+99) w h;exact kI h1 call336 []
theorem Pm (w:World) (p:Addr) (v x y:Value) (h:w.cell? p=some v):(Go.invoke (.fn (.method "Less") #[]) #[.iface qD (.pointer (some p)),x,y]).run prog w=.ok (.enter 337 #[v,x,y]) w:=by
 have h1:=mW (P:=prog) (t:=qD) (el:=362) (name:= "Less") (sig:=406) (f:=337) zK underlying379 isAgg362 (prog.types.size+99) w h;exact kI h1 call337 [x,y]
theorem Pn (w:World) (p:Addr) (v x y:Value) (h:w.cell? p=some v):(Go.invoke (.fn (.method "Swap") #[]) #[.iface qD (.pointer (some p)),x,y]).run prog w=.ok (.enter 338 #[v,x,y]) w:=by
 have h1:=mW (P:=prog) (t:=qD) (el:=362) (name:= "Swap") (sig:=331) (f:=338) zK underlying379 isAgg362 (prog.types.size+99) w h;exact kI h1 call338 [x,y]
theorem Po (w:World) (p:Addr) (x:Value):(Go.invoke (.fn (.method "Push") #[]) #[.iface qD (.pointer (some p)),x]).run prog w=.ok (.enter 341 #[.pointer (some p),x]) w:=by kernel_rfl
theorem Sw (w:World) (p:Addr):(Go.invoke (.fn (.method "Pop") #[]) #[.iface qD (.pointer (some p))]).run prog w=.ok (.enter 340 #[.pointer (some p)]) w:=by kernel_rfl
abbrev pK (g:Nat):Value:=.iface qD (pt g)
abbrev lJ (g:Nat) (ad:Option Addr) (c o:Nat) (l:List AE) (R:List cJ):List cJ:=cK g [.slice ad l.length c,.int .i64 (o:Int)] Xs (0,0)::nD (.slice ad l.length c) l::R
theorem Do.CX {N:Fr} {σ:Env} {e:World} {x:Operand} {d:Tmp} {pos:String} {af:Array Edge} {gd:Option (Nat × Bool)} {ty:TypeId} {K:Env→List cJ→Prop} {g:Nat} {ad:Option Addr} {c o:Nat} {l:List AE} {R:List cJ} {ats:Array TypeId}
 (h0:ev σ x=some (pK g)) (hd:Nat.blt d N.n=true) (k:K ((d,.int .i64 (l.length:Int))::σ) (lJ g ad c o l R)) :
 Do prog N ⟨some d,.call { callee:=.invoke x "Len",args:=#[],argTypes:=ats },ty,pos,af,gd⟩ K σ e (lJ g ad c o l R) :=
 Do.invoke (xs:=[]) (vs:=[]) h0 rfl hd (fun w hs=>Sv w _ _ ((bP .zero rfl).at hs)) (KI _ e ad l.length c) (by rintro _ _ ⟨rfl,rfl⟩;exact k)
theorem Do.qE {N:Fr} {σ:Env} {e:World} {x y z:Operand} {d:Tmp} {pos:String} {af:Array Edge} {gd:Option (Nat × Bool)} {ty:TypeId} {K:Env→List cJ→Prop} {g:Nat} {ad:Option Addr} {c o:Nat} {l:List AE} {R:List cJ} {ats:Array TypeId} {i j:Nat}
 (hf:∀ a∈l,a.fits) (h0:ev σ x=some (pK g)) (hy:ev σ y=some (.int .i64 (i:Int))) (hz:ev σ z=some (.int .i64 (j:Int))) (hd:Nat.blt d N.n=true) (hi:i<l.length) (hj:j<l.length) (k:K ((d,.bool ((l.getD i kb).lt (l.getD j kb)))::σ) (lJ g ad c o l R)) :
 Do prog N ⟨some d,.call { callee:=.invoke x "Less",args:=#[y,z],argTypes:=ats },ty,pos,af,gd⟩ K σ e (lJ g ad c o l R) :=
 Do.invoke (xs:=[y,z]) (vs:=[.int .i64 (i:Int),.int .i64 (j:Int)]) h0 (by simp only [pY,hy,hz]) hd (fun w hs=>Pm w _ _ _ _ ((bP .zero rfl).at hs)) (HM _ e _ l i j (bb (.succ .zero)) hf hi hj) (by rintro _ _ ⟨rfl,rfl⟩;exact k)
theorem Do.zi {N:Fr} {σ:Env} {e:World} {x y z:Operand} {d:Tmp} {pos:String} {af:Array Edge} {gd:Option (Nat × Bool)} {ty:TypeId} {K:Env→List cJ→Prop} {g:Nat} {ad:Option Addr} {c o:Nat} {l:List AE} {R:List cJ} {ats:Array TypeId} {i j:Nat}
 (h0:ev σ x=some (pK g)) (hy:ev σ y=some (.int .i64 (i:Int))) (hz:ev σ z=some (.int .i64 (j:Int))) (hd:Nat.blt d N.n=true) (hi:i<l.length) (hj:j<l.length) (k:K ((d,.tuple #[])::σ) (lJ g ad c o (gL l i j) R)) :
 Do prog N ⟨some d,.call { callee:=.invoke x "Swap",args:=#[y,z],argTypes:=ats },ty,pos,af,gd⟩ K σ e (lJ g ad c o l R) :=
 Do.invoke (xs:=[y,z]) (vs:=[.int .i64 (i:Int),.int .i64 (j:Int)]) (Post:=fun v L'=>v=.tuple #[]∧L'=lJ g ad c o (gL l i j) R) h0 (by simp only [pY,hy,hz]) hd (fun w hs=>Pn w _ _ _ _ ((bP .zero rfl).at hs))
  ((
   Ct.at (.succ .zero) (HN (cK g [.slice ad l.length c,.int .i64 (o:Int)] Xs (0,0)::R) e ad c l i j hi hj)).LK (by
   rintro _ _ ⟨rfl,rfl⟩;refine ⟨_,cj ?_ aX,rfl,rfl⟩;simp only [lJ,dG];exact zE)) (by rintro _ _ ⟨rfl,rfl⟩;exact k)
theorem Na (g:Nat) (ad:Option Addr) (c o:Nat) (l:List AE) (j:Nat) (hf:∀ a∈l,a.fits) (hj:j<l.length) (hl:l.length≤1000000) :
 Ct prog 314 #[pK g,.int .i64 (j:Int)] e (lJ g ad c o l R) (fun v' L'=>v'=.tuple #[]∧L'=lJ g ad c o (Oi j l j) R):=by
 refine a8 (args:=[_,_]) func314 rfl ntmps314 results314 rfl ?_;obtain ⟨fin,lM⟩:∃ f,f=Oi j l j:=⟨_,rfl⟩
 rw [← lM]
 (repeat (refine wA ?_;intros))
 refine bq (ι:=Nat × List AE × Nat) (fun i=>[(0,pK g),(1,.int .i64 (i.1:Int))]) (fun i=>lJ g ad c o i.2.1 R) (fun i=>i.1<i.2.1.length∧i.2.1.length=l.length∧(∀ a∈i.2.1,a.fits)∧i.1≤i.2.2∧Oi i.2.2 i.2.1 i.1=fin) (fun i=>i.1) (j,l,j) ⟨hj,rfl,hf,aS _,lM.symm⟩ zS zE ?_;rintro ⟨j,l',n⟩ ⟨h1,h2,h3,h4,h5⟩;dsimp only at h1 h2 h3 h4 h5 ⊢
 by_cases hj0:j=0
 ·subst hj0
  have VR:l'=fin:=by
   rw [← h5]
   cases n with
   | zero=>rfl
   | succ n=>unfold Oi;rw [aI rfl]
  have hq:IntKind.i64.wrap ((((0:Nat):Int) - 1).tdiv 2)=((0:Nat):Int):=rfl
  (repeat' first|(refine bx _ (cD.Pl rfl rfl zo hq) rfl ?_)|refine Za ?_|refine Zb ?_|apply Zc|apply Zd|apply Ze|apply Zf|refine Zl ?_|refine Zo ?_|refine ZM ?_|refine ZU ?_|refine Yz ?_|apply YB|apply YD|apply YG|apply YJ|refine YK ?_|fail)
  rw [VR];exact bT (lJ g ad c o fin R) rfl zE ⟨rfl,rfl⟩
 obtain ⟨m,rfl⟩:∃ m,n=m+1:=⟨n - 1,by omega⟩
 have hq:IntKind.i64.wrap (((j:Int) - 1).tdiv 2)=(((j - 1) / 2:Nat):Int):=by
  rw [Int.tdiv_eq_ediv_of_nonneg zo,wrap_i64 zo zo];omega
 have hp:(j - 1) / 2<j:=by omega
 have Ap:(if (l'.getD j kb).lt (l'.getD ((j - 1) / 2) kb) then Oi m (gL l' ((j - 1) / 2) j) ((j - 1) / 2) else l')=fin:=by rw [← h5];conv=>rhs;unfold Oi;rw [aB hj0]
 generalize (j - 1) / 2=p at *
 by_cases cO:(l'.getD j kb).lt (l'.getD p kb)=true
 ·rw [aI cO] at Ap
  (repeat' first|(refine bx _ (cD.Pl rfl rfl zo hq) rfl ?_)|(refine bC (Do.qE h3 rfl rfl rfl rfl h1 zo ?_);rw [cO])|refine bC (Do.zi rfl rfl rfl rfl zo h1 ?_)|refine Za ?_|refine Zb ?_|apply Zc|apply Zd|apply Ze|apply Zf|refine Zm ?_|refine Zn ?_|refine Zy ?_|refine ZN ?_|refine ZU ?_|refine YA ?_|apply YB|apply YC|apply YH)
  refine bi (p,gL l' p j,m) ⟨by dsimp only;rw [dG];omega,by dsimp only;rw [dG];exact h2,fun a ha=>h3 a ((k8 zo h1).mem_iff.1 ha),by dsimp only;omega,Ap⟩ (by dsimp only;exact hp) zS zE
 ·have hlf:(l'.getD j kb).lt (l'.getD p kb)=false:=by simpa using cO
  rw [aB cO] at Ap
  (repeat' first|(refine bx _ (cD.Pl rfl rfl zo hq) rfl ?_)|(refine bC (Do.qE h3 rfl rfl rfl rfl h1 zo ?_);rw [hlf])|refine Za ?_|refine Zb ?_|apply Zc|apply Zd|apply Ze|apply Zf|refine Zm ?_|refine Zn ?_|refine Zz ?_|refine ZN ?_|refine ZU ?_|refine Yz ?_|apply YB|apply YD|apply YG|apply YJ|refine YK ?_|fail)
  rw [Ap];exact bT (lJ g ad c o fin R) rfl zE ⟨rfl,rfl⟩
theorem zj (g:Nat) (ad:Option Addr) (c o:Nat) (l:List AE) (i0 n:Nat) (hf:∀ a∈l,a.fits) (hi:i0<l.length) (hn:n≤l.length) (hl:l.length≤1000000) :
 Ct prog 308 #[pK g,.int .i64 (i0:Int),.int .i64 (n:Int)] e (lJ g ad c o l R) (fun v' L'=>(∃ b:Bool,v'=.bool b)∧L'=lJ g ad c o (lH n l i0 n) R):=by
 refine a8 (args:=[_,_,_]) func308 rfl ntmps308 results308 rfl ?_;obtain ⟨fin,lM⟩:∃ f,f=lH n l i0 n:=⟨_,rfl⟩
 rw [← lM];refine wB ?_;refine bq (ι:=Nat × List AE × Nat) (fun i=>[(0,pK g),(1,.int .i64 (i0:Int)),(2,.int .i64 (n:Int)),(7,.int .i64 (i.1:Int))]) (fun i=>lJ g ad c o i.2.1 R) (fun i=>i.1<i.2.1.length∧i.2.1.length=l.length∧(∀ a∈i.2.1,a.fits)∧n≤i.1+i.2.2∧lH i.2.2 i.2.1 i.1 n=fin) (fun i=>n - i.1) (i0,l,n) ⟨hi,rfl,hf,by dsimp only;omega,lM.symm⟩ zS zE ?_;rintro ⟨i,l',f⟩ ⟨h1,h2,h3,h4,h5⟩;dsimp only at h1 h2 h3 h4 h5 ⊢
 have ae8:∀ b:Bool,∃ b':Bool,(Value.bool b)=.bool b':=fun b=>⟨b,rfl⟩
 by_cases hk:n≤2*i+1
 ·have VR:l'=fin:=by
   rw [← h5]
   cases f with
   | zero=>rfl
   | succ f=>unfold lH;rw [aI hk]
  rw [VR]
  (repeat' first|refine Za ?_|refine Zb ?_|apply Zc|apply Zd|apply Ze|apply Zf|refine Zl ?_|refine Zo ?_|refine ZI (fun _=>?_) fun _=>?_|refine ZJ ?_|refine ZS ?_|refine ZW ?_|refine Yz ?_|apply YB|apply YD|apply YE|apply YG|apply YJ|refine YK ?_|fail)
  all_goals exact aY (lJ g ad c o fin R) rfl zE ⟨⟨_,rfl⟩,rfl⟩
 obtain ⟨f,rfl⟩:∃ m,f=m+1:=⟨f - 1,by omega⟩
 have Ap:(if (l'.getD (y8 l' i n) kb).lt (l'.getD i kb) then lH f (gL l' i (y8 l' i n)) (y8 l' i n) n else l')=fin:=by rw [← h5];conv=>rhs;unfold lH;rw [aB hk]
 have h22:(2:Int)*(i:Int)+1+1=((2*i+2:Nat):Int):=by omega
 have Xv:(2:Int)*(i:Int)+1=((2*i+1:Nat):Int):=by omega
 obtain ⟨k,KJ⟩:∃ k,k=y8 l' i n:=⟨_,rfl⟩
 obtain ⟨k1,k2⟩:=CM (l:=l') (i:=i) (n:=n) zo;rw [← KJ] at Ap k1 k2
 unfold y8 at KJ
 (repeat' first|refine W.pF (id:=8) (fun _:Unit=>[(0,pK g),(1,.int .i64 (i0:Int)),(2,.int .i64 (n:Int)),(7,.int .i64 (i:Int)),(9,.int .i64 (k:Int))]) (fun _=>lJ g ad c o l' R) (fun _=>True) ?_ ?_|refine Za ?_|refine Zb ?_|apply Zc|apply Zd|apply Ze|apply Zf|refine Zm ?_|refine Zn ?_|refine ZB ?_|refine ZK ?_|refine ZS ?_|refine ZW ?_|refine YA ?_|apply YB|apply YC)
 ·rintro _ _
  by_cases cO:(l'.getD k kb).lt (l'.getD i kb)=true
  ·rw [aI cO] at Ap
   (repeat' first|(refine bC (Do.qE h3 rfl rfl rfl rfl zo h1 ?_);rw [cO])|refine bC (Do.zi rfl rfl rfl rfl h1 zo ?_)|refine Za ?_|refine Zb ?_|apply Zc|apply Zd|apply Ze|apply Zf|refine Zy ?_|refine YA ?_|apply YC|apply YH)
   refine bi (k,gL l' i k,f) ⟨by dsimp only;rw [dG];omega,by dsimp only;rw [dG];exact h2,fun a ha=>h3 a ((k8 h1 zo).mem_iff.1 ha),by dsimp only;omega,Ap⟩ zd zS zE
  ·have hlf:(l'.getD k kb).lt (l'.getD i kb)=false:=by simpa using cO
   rw [aB cO] at Ap
   (repeat' first|(refine bC (Do.qE h3 rfl rfl rfl rfl zo h1 ?_);rw [hlf])|refine Za ?_|refine Zb ?_|apply Zc|apply Zd|apply Ze|apply Zf|refine Zz ?_|refine ZI (fun _=>?_) fun _=>?_|refine Yz ?_|apply YD|apply YE|apply YG|apply YJ|refine YK ?_|fail)
   all_goals rw [Ap]
   all_goals exact aY (lJ g ad c o fin R) rfl zE ⟨⟨_,rfl⟩,rfl⟩
 ·refine ⟨?_⟩
  by_cases VS:2*i+2<n
  ·have Mr:=fun (N:Fr) (σ:Env) (x y z:Operand) (d:Tmp) (pos:String) (af:Array Edge) (gd:Option (Nat × Bool)) (ty:TypeId) (K:Env→List cJ→Prop) (ats:Array TypeId)=>Do.qE (N:=N) (σ:=σ) (e:=e) (x:=x) (y:=y) (z:=z) (d:=d) (pos:=pos) (af:=af) (gd:=gd) (ty:=ty) (K:=K) (g:=g) (ad:=ad) (c:=c) (o:=o) (l:=l') (R:=R) (ats:=ats) (i:=2*i+2) (j:=2*i+1) h3
   by_cases ry:(l'.getD (2*i+2) kb).lt (l'.getD (2*i+1) kb)=true
   ·rw [aI ⟨VS,ry⟩] at KJ
    subst KJ;rw [ry] at Mr
    (repeat' first|refine O.want rfl ?_|(refine bC (Mr _ _ _ _ _ _ _ _ _ _ _ _ rfl (congrArg (fun z=>some (Value.int .i64 z)) h22) (congrArg (fun z=>some (Value.int .i64 z)) Xv) rfl zo zo ?_))|refine Za ?_|refine Zb ?_|apply Zc|apply Zd|apply Ze|apply Zf|refine Zl ?_|refine ZA ?_|refine ZS ?_|refine Yz ?_|fail)
    rw [h22];exact bJ () trivial zS zE
   ·have QC:(l'.getD (2*i+2) kb).lt (l'.getD (2*i+1) kb)=false:=by simpa using ry
    rw [aB (fun q=>ry q.2)] at KJ
    subst KJ;rw [QC] at Mr
    (repeat' first|refine O.want rfl ?_|(refine bC (Mr _ _ _ _ _ _ _ _ _ _ _ _ rfl (congrArg (fun z=>some (Value.int .i64 z)) h22) (congrArg (fun z=>some (Value.int .i64 z)) Xv) rfl zo zo ?_))|refine Za ?_|refine Zb ?_|apply Zc|apply Zd|apply Ze|apply Zf|refine Zl ?_|refine ZA ?_|refine ZS ?_|refine YA ?_|apply YC)
    rw [Xv];exact bJ () trivial zS zE
  ·rw [aB (fun q=>VS q.1)] at KJ
   subst KJ;refine wB ?_;rw [Xv];exact bJ () trivial zS zE
theorem HP (g:Nat) (ad:Option Addr) (c o:Nat) (l:List AE) (hf:∀ a∈l,a.fits) (hl:l.length≤1000000) :
 Ct prog 306 #[pK g] e (lJ g ad c o l R) (fun v' L'=>v'=.tuple #[]∧L'=lJ g ad c o (uA (l.length / 2) l) R):=by
 refine a8 (args:=[_]) func306 rfl ntmps306 results306 rfl ?_;obtain ⟨fin,lM⟩:∃ f,f=uA (l.length / 2) l:=⟨_,rfl⟩
 rw [← lM]
 have hq:IntKind.i64.wrap ((l.length:Int).tdiv 2)=((l.length / 2:Nat):Int):=by
  rw [Int.tdiv_eq_ediv_of_nonneg zo,wrap_i64 zo zo];omega
 (repeat' first|refine bC (Do.CX rfl rfl ?_)|(refine bx _ (cD.Pl rfl rfl zo hq) rfl ?_)|refine Za ?_|refine Zb ?_|apply Zc|apply Zd|apply Ze|apply Zf|refine ZU ?_|apply YB)
 refine bq (ι:=Nat × List AE) (fun i=>[(0,pK g),(2,.int .i64 (l.length:Int)),(3,.int .i64 ((i.1:Int) - 1))]) (fun i=>lJ g ad c o i.2 R) (fun i=>i.1≤l.length∧i.2.length=l.length∧(∀ a∈i.2,a.fits)∧uA i.1 i.2=fin) (fun i=>i.1) (l.length / 2,l) ⟨by dsimp only;omega,rfl,hf,lM.symm⟩ zS zE ?_;rintro ⟨k,l'⟩ ⟨h1,h2,h3,h5⟩;dsimp only at h1 h2 h3 h5 ⊢
 cases k with
 | zero =>
  have VR:l'=fin:=h5;rw [VR];refine wB ?_;exact bT (lJ g ad c o fin R) rfl zE ⟨rfl,rfl⟩
 | succ k =>
  have hk:((k+1:Nat):Int) - 1=(k:Int):=by omega
  rw [hk];refine wB ?_;refine aZ rfl rfl (zj R e g ad c o l' k l.length h3 zo zo zo) ?_;rintro _ _ ⟨⟨b,rfl⟩,rfl⟩;refine wB ?_;have hp:=mV l.length l' k l.length zo zo;refine bi (k,lH l.length l' k l.length) ⟨by dsimp only;omega,by dsimp only;rw [hp.length_eq,h2],fun a ha=>h3 a (hp.mem_iff.1 ha),by dsimp only;rw [← h5];conv=>rhs;unfold uA;rw [h2]⟩ zd zS zE
abbrev Ua (a:AE):Value:=.iface CV (.agg a.cells.toArray)
theorem VT:∀ w (v:Value),(Instr.makeInterface CV v).run prog w=.ok (.iface CV v) w:=fun w v=>by kernel_rfl
theorem HQ:∀ w (v:Value),(Instr.makeInterface qD v).run prog w=.ok (.iface qD v) w:=fun w v=>by kernel_rfl
theorem VU:∀ w (v:Value),(Instr.typeAssert (.iface CV v) 20 CV false).run prog w=.ok v w:=fun w v=>by kernel_rfl
theorem HR (g:Nat) (ad:Option Addr) (c o:Nat) (l:List AE) (a:AE) (hl:l.length≤1000000) :
 Ct prog 341 #[pt g,Ua a] e (lJ g ad c o l R) (fun v' L'=>v'=.tuple #[]∧∃ lL c',L'=lJ g lL c' o (l++[a]) R):=by
 refine a8 (args:=[_,_]) func341 rfl ntmps341 results341 rfl ?_;refine bk (id:=0) [8,9] (cK g [.slice ad l.length c,.int .i64 (o:Int)] Xs (0,0)::R) mixed ?_
 (refine tM 0 ?_;refine tM 1 ?_;refine tN 2 ?_;refine tL 3 ?_;refine tM 4 ?_)
 refine tk 5 _ rfl (cD.typeAssert VU rfl) ?_;refine tO 6 ?_;refine bE (n:=3) (cs:=a.cells) rfl rfl rfl rfl zQ rfl (fun g1=>⟨fun _=>zE,?_⟩);refine tO 7 ?_;refine bo rfl rfl rfl (show cQ _ (nD (.slice ad l.length c) l) _ from zP) (bO (n:=3) (c:=1) .zero rfl zl) rfl rfl (fun c hc=>by simp only [AE.cells,aQ,aP,or_false] at hc;rcases hc with rfl|rfl|rfl<;>rfl) zm zo fun ef k1 _=>⟨fun _=>zE,?_⟩
 refine tO 8 ?_;refine dV (bm rfl) ?_;refine tO 9 ?_;refine tg ?_;refine ⟨zN,?_⟩;refine bf zK ?_;refine bT (lJ g ef k1 o (l++[a]) R) rfl ?_ ⟨rfl,ef,k1,rfl⟩;simp only [lJ,nD,aa,aj,aW,aU,List.flatMap_nil,aK];exact zE
theorem HS (g:Nat) (ad:Option Addr) (c o:Nat) (l:List AE) (a:AE) (hf:∀ x∈l,x.fits) (ha:a.fits) (hl:l.length≤100000) :
 Ct prog 307 #[pK g,Ua a] e (lJ g ad c o l R) (fun v' L'=>v'=.tuple #[]∧∃ lL c',L'=lJ g lL c' o (pJ l a) R):=by
 refine a8 (args:=[_,_]) func307 rfl ntmps307 results307 rfl ?_;refine wB ?_;refine bC (Do.invoke (xs:=[.tmp 5]) (vs:=[Ua a]) rfl rfl rfl (fun w hs=>Po w _ _) (HR R e g ad c o l a zo) ?_)
 rintro _ _ ⟨rfl,ef,c1,rfl⟩;have hla:(l++[a]).length=l.length+1:=by simp
 (repeat' first|refine bC (Do.CX rfl rfl ?_)|refine Za ?_|apply Zd|apply Ze|apply Zf|refine ZU ?_|fail)
 have DV:((l++[a]).length:Int) - 1=(l.length:Int):=by simp
 have hup:=Na R e g ef c1 o (l++[a]) l.length (fun x hx=>by
  rcases aJ.1 hx with hx|hx
  ·exact hf x hx
  ·rw [an.1 hx];exact ha) (by simp) (by simp;omega)
 rw [← DV] at hup
 refine aZ rfl rfl hup ?_;rintro _ _ ⟨rfl,rfl⟩
 (repeat (refine wA ?_;intros))
 exact bT (lJ g ef c1 o (pJ l a) R) rfl zE ⟨rfl,ef,c1,rfl⟩
theorem KK (g:Nat) (ad:Option Addr) (c o:Nat) (l:List AE) (n:Nat) (hn:l.length=n+1) (hl:l.length≤1000000) :
 Ct prog 340 #[pt g] e (lJ g ad c o l R) (fun v' L'=>v'=Ua (l.getD n kb)∧L'=lJ g ad c o (l.take n) R):=by
 refine a7 (pn (.succ .zero)) ?_;rintro ⟨lL,c',hv,h3,h4,h5⟩
 cases hv
 rcases h5 with ⟨-,-,h5⟩|⟨gl,rfl⟩
 ·omega
 have BI:n<l.length:=by omega
 have r1:dZ (lJ g (some ⟨gl,0,none⟩) c o l R) gl (0+n*3) (l[n]'BI).cells:=dZ.elem (bb (.succ .zero)) CW (ae BI);rw [mg BI]
 generalize l[n]'BI=a at *
 have l5:(l.length:Int) - 1=(n:Int):=by omega
 have ft:(l.take n).length=n:=by rw [aF];omega
 refine a8 (args:=[_]) func340 rfl ntmps340 results340 rfl ?_;have tH:=nM (E:=CV) (n:=3) (ad:=some ⟨gl,0,none⟩) (k:=l.length) (lo:=n) (c:=c) (xs:=l.flatMap AE.cells) (R:=R) zo;rw [mE CW] at tH
 (repeat' first|(refine bx _ (bD (i:=n) rfl (congrArg (fun z=>some (Value.int .i64 z)) l5) BI) rfl ?_)|(refine O.dy rfl r1 rfl rfl ?_)|(refine bx _ (bZ VT rfl) rfl ?_)|refine Za ?_|refine Zb ?_|apply Zc|apply Zd|apply Ze|apply Zf|refine Zg ?_|refine Zi ?_|refine Zj ?_|refine Zk ?_|refine ZU ?_|refine Yd ?_|refine Yh fun _=>?_|refine Yr ?_|apply YE|refine YR ?_|fail)
 rw [show ((l.length:Int) - 1).toNat=n by omega];refine aY (lJ g (some ⟨gl,0,none⟩) c o (l.take n) R) rfl (cj (show cz _ (nD (.slice (some ⟨gl,0,none⟩) l.length c) l::cK g [.slice (some ⟨gl,0,none⟩) n c,.int .i64 (o:Int)] Xs (0,0)::R) from zE) (cj (nM (lo:=n) zo) ?_)) ⟨rfl,rfl⟩;rw [mE CW];simp only [lJ,nD,ft];exact zE
theorem KL (g:Nat) (ad:Option Addr) (c o:Nat) (l:List AE) (hf:∀ x∈l,x.fits) (hn:0<l.length) (hl:l.length≤100000) :
 Ct prog 288 #[pK g] e (lJ g ad c o l R) (fun v' L'=>v'=Ua (l.getD 0 kb)∧L'=lJ g ad c o (pT l) R):=by
 obtain ⟨n,AU⟩:∃ n,l.length=n+1:=⟨l.length - 1,by omega⟩
 have l5:(l.length:Int) - 1=(n:Int):=by omega
 have h1:=k8 (l:=l) (i:=0) (j:=n) zo zo;have h2:=mV n (gL l 0 n) 0 n (by rw [dG];omega) (by rw [dG];omega);have h3:=za n (gL l 0 n) 0 n n (by rw [dG];omega) (by rw [dG];omega) zo (aS _)
 have h4:(gL l 0 n).getD n kb=l.getD 0 kb:=by
  unfold gL;rw [aA,List.getElem?_set_self (by simp;omega)]
  rfl
 have hlen:=h2.length_eq;rw [dG] at hlen
 have Xw:pT l=(lH n (gL l 0 n) 0 n).take n:=by unfold pT;rw [show l.length - 1=n by omega]
 have Xx:=KK R e g ad c o (lH n (gL l 0 n) 0 n) n zo zo;rw [h3,h4,← Xw] at Xx
 have Xy:=zj R e g ad c o (gL l 0 n) 0 n (fun x hx=>hf x (h1.mem_iff.1 hx)) (by rw [dG];omega) (by rw [dG];omega) (by rw [dG];omega);rw [← l5] at Xy
 refine a8 (args:=[_]) func288 rfl ntmps288 results288 rfl ?_
 (repeat' first|refine bC (Do.CX rfl rfl ?_)|refine bC (Do.zi (i:=0) (j:=n) rfl rfl (congrArg (fun z=>some (Value.int .i64 z)) l5) rfl hn zo ?_)|refine Za ?_|refine Zb ?_|apply Zc|apply Zd|apply Ze|apply Zf|refine ZU ?_|fail)
 refine aZ rfl rfl Xy ?_;rintro _ _ ⟨⟨b,rfl⟩,rfl⟩;refine wB ?_;refine bC (Do.invoke (xs:=[]) (vs:=[]) rfl rfl rfl (fun w hs=>Sw w _) Xx ?_)
 rintro _ _ ⟨rfl,rfl⟩;refine wB ?_;exact aY (lJ g ad c o (pT l) R) rfl zE ⟨rfl,rfl⟩
def Sx (g o:Nat) (l:List AE) (ad:Option Addr) (c:Nat):cJ:=dH (lJ g ad c o l [])
def sH (g o:Nat) (l:List AE):cJ:=Ex fun ad=>Ex fun c=>Sx g o l ad c
theorem HT {g o:Nat} {l:List AE} {R:List cJ} {P:Program} {f:FuncId} {args:Array Value} {e:World} {Post:Value→List cJ→Prop}
 (h:∀ ad c,Ct P f args e (lJ g ad c o l R) Post):Ct P f args e (sH g o l::R) Post :=
 Ct.ex .zero fun ad=>Ct.ex .zero fun c=>(h ad c).cL (cT (M:=lJ g ad c o l []) (L:=R))
theorem BJ {g o:Nat} {l:List AE} {R:List cJ} {ad:Option Addr} {c:Nat}:cz (lJ g ad c o l R) (sH g o l::R) :=
 cj (dQ (M:=lJ g ad c o l []) (L:=R)) (cj (fu (f:=fun c=>Sx g o l ad c) c) (fu (f:=fun ad=>Ex fun c=>Sx g o l ad c) ad))
theorem vI :
 Ct prog 236 #[] e R (fun v' L'=>∃ g,v'=pt g∧L'=sH g 0 []::R):=by
 refine a8 (args:=[]) func236 rfl ntmps236 results236 rfl ?_
 (repeat (refine wA ?_;intros))
 rename_i g;exact aY (sH g 0 []::R) rfl (cj (bh (du CV 3)) (BJ (g:=g) (o:=0) (l:=[]) (ad:=none) (c:=0))) ⟨g,rfl,rfl⟩
theorem KM (g o:Nat) (l:List AE) (t w:Nat) (hf:∀ x∈l,x.fits) (ht:t≤1000000000) (hw:w≤1000000000) (ho:o≤1000000000) (hl:l.length≤100000) :
 Ct prog 286 #[pt g,.int .i64 (t:Int),.int .i64 (w:Int)] e (sH g o l::R) (fun v' L'=>v'=.tuple #[]∧L'=sH g (o+1) (pJ l ⟨t,o,w⟩)::R):=by
 refine HT fun ad c=>?_
 refine a8 (args:=[_,_,_]) func286 rfl ntmps286 results286 rfl ?_;refine W.seq ?_;refine bk (id:=0) [] R mixed ?_
 (refine tM 0 ?_;refine tN 1 ?_;refine tF 2 ?_;refine tM 4 ?_;refine tM 5 ?_;refine tN 6 ?_;refine tF 7 ?_)
 (refine tM 9 ?_)
 refine tk 3 _ rfl (bZ HQ rfl) ?_;refine tO 8 ?_;refine bN (bp rfl zR) rfl ⟨fun _=>zE,?_⟩
 (refine tk 10 _ rfl (bL rfl zF) ?_)
 refine tk 11 (Ua ⟨t,o,w⟩) rfl (bZ VT rfl) ?_;refine tO 12 ?_;refine bg rfl rfl (HS R e g ad c o l ⟨t,o,w⟩ hf ⟨ht,ho,hw⟩ hl) ?_;rintro _ _ ⟨rfl,ef,c1,rfl⟩;refine ⟨fun _=>zE,?_⟩;refine bf zK ?_;refine wB ?_;exact bT (sH g (o+1) (pJ l ⟨t,o,w⟩)::R) rfl (cj (show cz _ (lJ g ef c1 (o+1) (pJ l ⟨t,o,w⟩) R) from zE) BJ) ⟨rfl,rfl⟩
theorem HU (g o:Nat) (ad:Option Addr) (c:Nat) (l:List AE) :
 Ct prog 287 #[pt g] e (lJ g ad c o l R) (fun v' L'=>v'=.tuple #[.int .i64 ((l.getD 0 kb).jD:Int),.int .i64 ((l.getD 0 kb).il:Int),.bool (decide (0<l.length))]∧L'=lJ g ad c o l R):=by
 refine a7 (pn (.succ .zero)) ?_;rintro ⟨lL,c',hv,h3,h4,h5⟩
 cases hv
 refine a8 (args:=[_]) func287 rfl ntmps287 results287 rfl ?_
 by_cases hz:l.length=0
 ·have u7:l=[]:=List.length_eq_zero_iff.1 hz;subst u7;refine wB ?_;exact aY (lJ g ad c o [] R) rfl zE ⟨rfl,rfl⟩
 rcases h5 with ⟨-,-,h5⟩|⟨gl,rfl⟩
 ·omega
 have BI:0<l.length:=by omega
 have r1:dZ (lJ g (some ⟨gl,0,none⟩) c o l R) gl (0+0*3) (l[0]'BI).cells:=dZ.elem (bb (.succ .zero)) CW (ae BI);rw [mg BI,ay BI]
 generalize l[0]'BI=a at *
 have ra:Rd (lJ g (some ⟨gl,0,none⟩) c o l R) ⟨gl,0+0+0,none⟩ (.int .i64 (a.jD:Int)):=r1.Ov (k:=0) rfl;have rw':Rd (lJ g (some ⟨gl,0,none⟩) c o l R) ⟨gl,0+0+2,none⟩ (.int .i64 (a.il:Int)):=r1.Ov (k:=2) rfl;refine wB ?_;refine bk (id:=3) [15,16] (lJ g (some ⟨gl,0,none⟩) c o l R) mixed ?_
 (refine tM 0 ?_;refine tN 1 ?_;refine tF 2 ?_;refine tL 3 ?_;refine tk 4 _ rfl (bD rfl rfl zo) ?_;refine tF 5 ?_;refine tL 6 ?_;refine tM 7 ?_;refine tN 8 ?_;refine tF 9 ?_;refine tL 10 ?_;refine tk 11 _ rfl (bD rfl rfl zo) ?_;refine tF 12 ?_;refine tL 13 ?_;refine tA 14 ?_;(refine tO 15 ?_;refine dV (bj rfl) ?_);(refine tO 16 ?_;refine dV (bj rfl) ?_))
 refine bf zK ?_;refine wB ?_;exact aY (lJ g (some ⟨gl,0,none⟩) c o l R) rfl zE ⟨rfl,rfl⟩
theorem BK (g o:Nat) (l:List AE) (now:Int) (hf:∀ x∈l,x.fits) (hl:l.length≤100000) :
 Ct prog 247 #[pt g,.int .i64 now] e (sH g o l::R) (fun v' L'=>(¬ (0<l.length∧((l.getD 0 kb).jD:Int)≤now)∧v'=.tuple #[.int .i64 0,.bool false]∧L'=sH g o l::R)∨(0<l.length∧((l.getD 0 kb).jD:Int)≤now∧v'=.tuple #[.int .i64 ((l.getD 0 kb).il:Int),.bool true]∧L'=sH g o (pT l)::R)):=by
 refine HT fun ad c=>?_
 refine a8 (args:=[_,_]) func247 rfl ntmps247 results247 rfl ?_;refine wB ?_;refine aZ rfl rfl (HU R e g o ad c l) ?_;rintro _ _ ⟨rfl,rfl⟩
 by_cases hz:0<l.length
 rotate_left
 ·rw [aq hz];refine wB ?_;exact aY (sH g o l::R) rfl BJ (.inl ⟨fun q=>hz q.1,rfl,rfl⟩)
 rw [ay hz]
 by_cases hle:((l.getD 0 kb).jD:Int)≤now
 rotate_left
 ·generalize (l.getD 0 kb).jD=jD at *
  refine wB ?_
  all_goals exact aY (sH g o l::R) rfl BJ (.inl ⟨fun q=>hle q.2,rfl,rfl⟩)
 have Xx:=KL R e g ad c o l hf hz hl
 generalize l.getD 0 kb=a at *
 have hfa:∀ w,(Instr.field CV (.agg #[.int .i64 (a.jD:Int),.int .i64 (a.ord:Int),.int .i64 (a.il:Int)]) 2).run prog w=.ok (.int .i64 (a.il:Int)) w:=fun w=>by kernel_rfl
 (repeat' first|(refine bx _ (bZ HQ rfl) rfl ?_)|refine Za ?_|refine Zb ?_|apply Zc|apply Zd|apply Ze|apply Zf|refine Zg ?_|refine Zh ?_|refine Zm ?_|refine Zn ?_|refine Zy ?_|refine ZH ?_|refine YA ?_|apply YC|refine YN ?_|fail)
 refine aZ rfl rfl Xx ?_;rintro _ _ ⟨rfl,rfl⟩
 (repeat' first|(refine bx _ (cD.typeAssert VU rfl) rfl ?_)|(refine bx _ (cD.Ss hfa rfl) rfl ?_)|refine Zb ?_|apply Ze|apply Zf|apply YE)
 exact aY (sH g o (pT l)::R) rfl BJ (.inr ⟨hz,hle,rfl,rfl⟩)
theorem uB (a:AE) (gw w:Nat) (hg:Rd R ⟨gw,0,none⟩ (.int .i64 (w:Int))) :
 Ct prog 305 #[.agg a.cells.toArray,pt gw] e R (fun v' L'=>v'=.bool (decide (a.il=w))∧R=L'):=by
 refine a8 (args:=[_,_]) func305 rfl ntmps305 results305 rfl ?_
 (repeat' first|refine Zb ?_|apply Zc|apply Zd|apply Ze|apply Zf|refine Zh ?_|refine Zi ?_|refine ZO (fun _=>?_) fun _=>?_|refine Yg fun _=>?_|apply YE)
 all_goals first
  | exact aY R rfl zE ⟨by rw [ay zo];rfl,rfl⟩
  | exact aY R rfl zE ⟨by rw [aq zo];rfl,rfl⟩
end Go.Proofs
namespace Go.Proofs
attribute [local irreducible] Bs.cD Bs.Do Bs.O Bs.W Bs.Fin Bs.A Bs.Ct Bs.cE Bs.Rd Bs.Sat Bs.cK Bs.Ob Bs.dJ Bs.View Bs.cz Bs.Ex Bs.dH Bs.Pu Bs.eY Bs.dM Bs.dZ
open Go.Bs
open Tryz
variable (R:List cJ) (e:World)
theorem E7 (v:Value) (l:List AE) (gw w:Nat) (hv:cE R 3 v l.length (l.flatMap AE.cells)) (hg:Rd R ⟨gw,0,none⟩ (.int .i64 (w:Int))) (hl:l.length≤100000) :
 Ct prog 313 #[v,.func (.func 305) #[] #[pt gw]] e R (fun v' L'=>(∃ k:Int,v'=.int .i64 k∧((k = -1∧∀ i,i<l.length→(l.getD i kb).il≠w)∨∃ j:Nat,k=j∧j<l.length∧(l.getD j kb).il=w∧∀ i,i<j→(l.getD i kb).il≠w))∧R=L'):=by
 refine a7 (hv.shape zo) ?_;rintro ⟨⟨ad,cap,rfl,h3,h4,h5,h6⟩,_⟩;refine a8 (args:=[_,_]) func313 rfl ntmps313 results313 rfl ?_;refine wB ?_;refine bq (ι:=Nat) (fun i=>[(0,.slice ad l.length cap),(1,.func (.func 305) #[] #[pt gw]),(7,.int .i64 (l.length:Int)),(8,.int .i64 (i:Int))]) (fun _=>R) (fun i=>i≤l.length∧∀ j,j<i→(l.getD j kb).il≠w) (fun i=>l.length - i) 0 ⟨aH _,fun j h=>absurd h (Nat.not_lt_zero j)⟩ zS aX ?_;rintro i ⟨h1,h2⟩
 by_cases cO:i<l.length
 rotate_left
 ·refine wB ?_;exact aY R rfl aX ⟨⟨-1,rfl,.inl ⟨rfl,fun j hj=>h2 j zo⟩⟩,rfl⟩
 rcases h6 with h6|⟨gl,ol,rfl⟩
 ·omega
 have hr:dZ R gl (ol+i*3) (l[i]'cO).cells:=dZ.elem hv CW (ae cO);have th:=mg cO
 generalize l[i]'cO=a at *
 (repeat' first|(refine O.dy rfl hr rfl rfl ?_)|refine Za ?_|refine Zb ?_|apply Zc|apply Zd|apply Ze|apply Zf|refine ZA ?_|refine Yx ?_|refine Yz ?_|apply YB|apply YC)
 refine bC (Do.gD (us:=[]) (ws:=[pt gw]) rfl rfl rfl (uB _ e a gw w hg) ?_)
 rintro _ _ ⟨rfl,rfl⟩
 by_cases hw:a.il=w
 ·rw [ay hw];refine wB ?_;exact aY R rfl aX ⟨⟨i,rfl,.inr ⟨i,rfl,cO,by rw [th];exact hw,h2⟩⟩,rfl⟩
 ·rw [aq hw];refine wB ?_;refine bi (i+1) ⟨cO,fun j hj=>?_⟩ zo zS aX
  by_cases AX:j=i
  ·subst AX;rw [th];exact hw
  ·exact h2 j zo
abbrev oo (w:Nat) (a:AE):Bool:=decide (a.il≠w)
theorem filter_all {l:List AE} {w:Nat} (h:∀ i,i<l.length→(l.getD i kb).il≠w):l.filter (oo w)=l:=List.filter_eq_self.2 fun a ha=>by
 obtain ⟨i,hi,rfl⟩:=List.mem_iff_getElem.1 ha;have:=h i hi;rw [mg hi] at this
 exact ay this
theorem KN (ad:Option Addr) (c:Nat) (l:List AE) (gw w:Nat) (hg:Rd R ⟨gw,0,none⟩ (.int .i64 (w:Int))) (hl:l.length≤100000) :
 Ct prog 304 #[.slice ad l.length c,.func (.func 305) #[] #[pt gw]] e (nD (.slice ad l.length c) l::R) (fun v' L'=>v'=.slice ad (l.filter (oo w)).length c∧L'=nD (.slice ad (l.filter (oo w)).length c) (l.filter (oo w))::R):=by
 refine a7 (pn .zero) ?_;rintro ⟨lL,c',hv,h3,h4,h5⟩
 cases hv
 refine a8 (args:=[_,_]) func304 rfl ntmps304 results304 rfl ?_;refine wB ?_;refine aZ rfl rfl (E7 _ e _ l gw w (bb .zero) hg.tail hl) ?_;rintro _ _ ⟨⟨k,rfl,hk⟩,rfl⟩;rcases hk with ⟨rfl,eT⟩|⟨k,rfl,Of,hkw,hkb⟩
 ·rw [filter_all eT];refine wB ?_;exact aY (nD (.slice ad l.length c) l::R) rfl aX ⟨rfl,rfl⟩
 rcases h5 with ⟨-,-,h5⟩|⟨g,rfl⟩
 ·omega
 simp only [maxLen] at h4
 have QX:((k:Int)+1)=((k+1:Nat):Int):=by omega
 have VV:l.take k=(l.take (k+1)).filter (oo w):=by
  rw [aD Of,List.filter_append];rw [mg Of] at hkw
  rw [filter_all (l:=l.take k) (w:=w) (fun i hi=>by
   rw [aF] at hi
   have:=hkb i zo
   rwa [aA,List.getElem?_take_of_lt zo,← aA])]
  simp [oo,hkw]
 refine wB ?_;refine bq (ι:=Nat × Nat × List AE) (fun i=>[(0,.slice (some ⟨g,0,none⟩) l.length c),(1,.func (.func 305) #[] #[pt gw]),(5,.int .i64 (i.1:Int)),(6,.int .i64 (i.2.1:Int))]) (fun i=>dJ CV 3 (.slice (some ⟨g,0,none⟩) l.length c) l.length (i.2.2.flatMap AE.cells)::R) (fun i=>i.1<i.2.1∧i.2.1≤l.length∧i.2.2.length=l.length∧i.2.2.take i.1=(l.take i.2.1).filter (oo w)∧i.2.2.drop i.2.1=l.drop i.2.1) (fun i=>l.length - i.2.1) (k,k+1,l) ⟨by dsimp only;omega,Of,rfl,VV,rfl⟩ zS zE ?_;rintro ⟨i,j,cur⟩ ⟨h1,h2,h6,h7,h8⟩;dsimp only at h1 h2 h6 h7 h8 ⊢
 by_cases cO:j<l.length
 rotate_left
 ·rw [aG (l:=l) zo] at h7
  have e2:(l.length:Int).toNat=l.length:=rfl;refine wB ?_;refine bC (Do.clear (o:=i*3) (g:=g) (c:=c) (kk:=l.length) rfl .zero rfl (by simp [Value.oneCell',Value.cells]) (by simp;omega) (.inr ?_) fun zs hz=>?_)
  ·unfold cutAt;rw [aB (by simp;omega)]
   simp [Addr.add_lit]
  have DB:(l.filter (oo w)).length=i:=by rw [← h7,aF];omega
  have hx:(cur.flatMap AE.cells).length=l.length*3:=by rw [A4 CW,h6]
  have tH:=nM (E:=CV) (n:=3) (ad:=some ⟨g,0,none⟩) (k:=l.length) (lo:=i) (c:=c) (R:=R) (xs:=(cur.flatMap AE.cells).take (i*3)++zs++(cur.flatMap AE.cells).drop (i*3+(l.length - (i:Int).toNat)*3)) zo
  have ju:(((cur.flatMap AE.cells).take (i*3)++zs++(cur.flatMap AE.cells).drop (i*3+(l.length - (i:Int).toNat)*3)).take (i*3))=(l.filter (oo w)).flatMap AE.cells:=by
   rw [aM,List.take_append_of_le_length (by rw [aF];omega),List.take_take,Nat.min_self,mE CW,h7]
  rw [ju] at tH
  refine wB ?_;refine aY (nD (.slice (some ⟨g,0,none⟩) (l.filter (oo w)).length c) (l.filter (oo w))::R) rfl (cj tH ?_) ⟨by rw [DB];rfl,rfl⟩;simp only [nD,DB];exact zE
 have hcj:cur[j]'zo=l[j]'cO:=by
  have:=congrArg (fun q=>q[0]?) h8;simp only [List.getElem?_drop,Nat.add_zero] at this
  rw [ae zo,ae cO] at this
  exact Option.some.inj this
 have ft:l.take (j+1)=l.take j++[l[j]'cO]:=aD cO
 have hr:dZ (dJ CV 3 (.slice (some ⟨g,0,none⟩) l.length c) l.length (cur.flatMap AE.cells)::R) g (0+j*3) (l[j]'cO).cells:=by
  rw [← hcj];exact dZ.elem (bb .zero) CW (ae zo)
 generalize l[j]'cO=a at *
 (repeat' first|(refine O.dy rfl hr rfl rfl ?_)|refine Za ?_|apply Zc|apply Zd|apply Ze|apply Zf|refine Zj ?_|refine Zk ?_|refine ZA ?_|refine Yh fun _=>?_|refine Yx ?_|refine Yz ?_|apply YB|apply YC|refine YR ?_|fail)
 rename_i gv;refine bC (Do.gD (us:=[]) (ws:=[pt gw]) rfl rfl rfl (uB _ e a gw w (hg.cL zE)) ?_)
 rintro _ _ ⟨rfl,rfl⟩;have hdj:cur.drop (j+1)=l.drop (j+1):=by rw [← List.drop_drop,← List.drop_drop,h8]
 by_cases hw:a.il=w
 ·rw [ay hw];refine wB ?_;refine bi (i,j+1,cur) ⟨by dsimp only;omega,cO,h6,?_,hdj⟩ zd zS zE;dsimp only;rw [ft,List.filter_append,← h7]
  simp [oo,hw]
 ·rw [aq hw];have eJ:=HL (l:=cur) (i:=i) (a:=a) zo;refine wB ?_;refine bC (Do.oh rfl rfl rfl (by intro v hv;simp only [AE.cells,aQ,aP,or_false] at hv;rcases hv with rfl|rfl|rfl<;>rfl) (.succ .zero) (by simp only [aN,List.length_nil];omega) ?_)
  rw [aC,eJ];refine wB ?_;refine bi (i+1,j+1,cur.set i a) ⟨by dsimp only;omega,cO,by dsimp only;rw [List.length_set];exact h6,?_,?_⟩ zd zS zE
  ·dsimp only;rw [ft,List.filter_append,← h7,List.take_set,aD zo,List.set_append_right _ _ (by simp;omega)]
   simp [oo,hw,Nat.min_eq_left (show i≤cur.length by omega)]
  ·dsimp only;rw [List.drop_set_of_lt zo,hdj]
theorem uC (g o:Nat) (l:List AE) (w:Nat) (hf:∀ x∈l,x.fits) (hl:l.length≤100000) :
 Ct prog 285 #[pt g,.int .i64 (w:Int)] e (sH g o l::R) (fun v' L'=>(∃ z:Int,v'=.int .i64 z)∧L'=sH g o (gM l w)::R):=by
 refine HT fun ad c=>?_
 have DB:(l.filter (oo w)).length≤l.length:=List.length_filter_le _ _;refine a8 (args:=[_,_]) func285 rfl ntmps285 results285 rfl ?_
 (repeat (refine wA ?_;intros))
 rename_i gw;refine aZ rfl rfl (Ct.at zP (KN _ e ad c l gw w zR hl)) ?_;rintro _ _ ⟨rfl,rfl⟩;have gB:=fun L:List cJ=>HP L e g ad c o (l.filter (oo w)) (fun x hx=>hf x (List.mem_filter.1 hx).1) zo
 have hca:gM l w=uA ((l.filter (oo w)).length / 2) (l.filter (oo w)):=rfl;have hpm:=(sE ((l.filter (oo w)).length / 2) (l.filter (oo w)) zo).length_eq
 generalize l.filter (oo w)=fl at *
 (repeat' first|(refine bx _ (bZ HQ rfl) rfl ?_)|refine Za ?_|apply Zc|apply Zd|apply Ze|apply Zf|refine Zg ?_|refine Zh ?_|refine Yd ?_|fail)
 refine aZ rfl rfl ((gB (cK gw [.int .i64 (w:Int)] 3 (0,0)::R)).cL zE) ?_;rintro _ _ ⟨rfl,rfl⟩;rw [← hca] at hpm ⊢
 refine wB ?_;exact aY (sH g o (gM l w)::R) rfl (cj (show cz _ (lJ g ad c o (gM l w) R) from zE) BJ) ⟨⟨_,rfl⟩,rfl⟩
theorem mh (n:Nat) :
 Ct prog 118 #[.int .i64 (n:Int)] e R (fun v' L'=>v'=.bool (decide (n≤256))∧R=L'):=by
 refine a8 (args:=[_]) func118 rfl ntmps118 results118 rfl ?_
 by_cases h:n≤256
 ·rw [ay h];refine wB ?_
  all_goals exact aY R rfl aX ⟨rfl,rfl⟩
 ·rw [aq h];refine wB ?_
  all_goals exact aY R rfl aX ⟨rfl,rfl⟩
abbrev rC:TypeId:=109
theorem E8 (vl vw vm vp vr va vq vc:Value) (p:jH) (b:wQ) (hp:j7 R vl vw p) (sX:p.right) (hb:rQ R vm vp vr va vq vc b) (hw:b.wf) :
 Ct prog 134 #[.agg (lE p vl vw).toArray,.agg (sF b vm vp vr va vq vc).toArray] e R (fun v' L'=>v'=.int .i64 (lQ p b)∧R=L'):=by
 have Sy:=hw.fi;have Gc:=hw.dc;refine a7 (cn hp.log) fun o1=>?_
 refine a7 hp.ew.one fun o2=>?_
 refine a7 (cn hb.fi) fun o3=>?_
 refine a7 hb.path.one fun o4=>?_
 refine a7 (cn hb.kO.root) fun o5=>?_
 refine a7 hb.kO.sig.parts.one fun o6=>?_
 refine a7 hb.kO.sig.path.one fun o7=>?_
 refine a7 hb.gs.one fun o8=>?_
 obtain ⟨ts,fy,VW,Hh⟩:=hb.path;refine a8 (args:=[_,_]) func134 rfl ntmps134 results134 rfl ?_
 (repeat (refine wA ?_;intros))
 rename_i g2 g3;refine aZ rfl rfl (kz _ e vm b.fi (hb.fi.cL zE) zo) ?_;rintro v1 _ ⟨mA,Kf⟩
 by_cases hm:ji b.fi
 rotate_left
 ·obtain ⟨rfl,rfl⟩:=Kf hm;have hE:lQ p b=12:=by unfold lQ;rw [aI hm]
  rw [hE]
  (repeat' first|refine Za ?_|refine Zb ?_|apply Zc|apply Zd|apply Ze|apply Zf|refine Zh ?_|refine Zj ?_|refine Yh fun _=>?_|apply YB|refine YN ?_|refine YR ?_|(apply O.dg;exact rfl;exact zP;(first|(simp only [aC,Nat.add_zero,Nat.reduceAdd,List.drop_succ_cons,List.drop_zero,List.take_succ_cons,List.take_zero];done)|(simp only [aC,Nat.add_zero,Nat.reduceAdd,List.drop_succ_cons,List.drop_zero,List.take_succ_cons,List.take_zero];exact rfl));exact rfl;exact rfl))
  refine aZ rfl rfl (j8 _ e vl vw p (hp.cL zE) sX) ?_;rintro _ _ ⟨rfl,rfl⟩;refine wB ?_;exact aY R rfl zE ⟨rfl,rfl⟩
 obtain ⟨Mm,vf,vn,rfl,hf,hn,rfl⟩:=mA hm;refine bn (cn (hf.cL (cG zP))) fun o9=>?_
 refine bn (cn (hn.cL (cG zP))) fun Nb=>?_
 (repeat' first|refine Za ?_|refine Zb ?_|apply Zc|apply Zd|apply Ze|apply Zf|refine Zh ?_|refine Zj ?_|refine Yh fun _=>?_|apply YB|refine YN ?_|refine YR ?_|(apply O.dg;exact rfl;exact zP;(first|(simp only [aC,Nat.add_zero,Nat.reduceAdd,List.drop_succ_cons,List.drop_zero,List.take_succ_cons,List.take_zero];done)|(simp only [aC,Nat.add_zero,Nat.reduceAdd,List.drop_succ_cons,List.drop_zero,List.take_succ_cons,List.take_zero];exact rfl));exact rfl;exact rfl))
 refine aZ rfl rfl (j8 _ e vl vw p (hp.cL zE) sX) ?_;rintro _ _ ⟨rfl,rfl⟩;have aaV:∀ L,dZ L g3 0 (sF b vm vp vr va vq vc)→dZ L g3 4 (dS b.kO vr va vq):=fun L h=>h.part 4 5
 have afd:∀ L,dZ L g3 0 (sF b vm vp vr va vq vc)→dZ L g3 1 [.int .i64 (b.idx:Int),.int .i64 (b.size:Int),vp]:=fun L h=>h.part 1 3
 (repeat' first|(refine O.dy rfl (aaV _ (by (repeat first|exact bU .zero|apply dZ.tail);done)) rfl rfl ?_)|refine Za ?_|refine Zb ?_|apply Zc|apply Zd|apply Ze|apply Zf|refine Zh ?_|refine Zi ?_|refine Zy ?_|refine ZQ ?_|refine YA ?_|fail)
 refine aZ rfl rfl (ky _ e vl vr va vq p.log b.kO (hp.log.cL zE) (hb.kO.cL zE) Gc) ?_;rintro _ _ ⟨rfl,rfl⟩
 by_cases hv:b.kO.ii p.log
 rotate_left
 ·have hE:lQ p b=30:=by unfold lQ;rw [aB (fun q=>q hm),aI hv]
  rw [hE,aq hv];refine wB ?_;exact aY R rfl zE ⟨rfl,rfl⟩
 rw [ay hv];refine wB ?_;refine bz (id:=9) [] mixed ?_;have hE1:∀ q:Prop,(q↔(b.size=b.kO.dc.size∧pi b.idx b.size b.path (cY b.fi) b.kO.dc.root))→¬ q→lQ p b=31:=fun q hq hn=>by unfold lQ;rw [aB (fun q=>q hm),aB (fun q=>q hv),aI (fun h=>hn (hq.2 h))]
 by_cases hs:b.size=b.kO.dc.size
 rotate_left
 ·rw [hE1 _ Iff.rfl (fun h=>hs h.1)]
  (refine tF 0 ?_;refine tF 1 ?_;refine tL 2 ?_;refine tF 3 ?_;refine tL 4 ?_;refine tk 5 (.bool true) rfl (cD.iP (cD.neq rfl rfl) zy) ?_;refine tM 6 ?_;refine bc 7 rfl rfl zK zE rfl ?_;refine bc 8 rfl rfl zK zE rfl ?_;refine bc 9 rfl rfl zK zE rfl ?_;refine bc 10 rfl rfl zK zE rfl ?_;refine bc 12 rfl rfl zK zE rfl ?_;refine bc 13 rfl rfl zK zE rfl ?_)
  refine bc 11 rfl rfl zK zE rfl ?_;refine bc 14 rfl rfl zK zE rfl ?_
  (refine bc 15 rfl rfl zK zE rfl ?_;refine tk 16 _ rfl (bK rfl rfl) ?_;refine tA 17 ?_)
  refine bf zK ?_;refine wB ?_;exact aY R rfl zE ⟨rfl,rfl⟩
 (refine tF 0 ?_;refine tF 1 ?_;refine tL 2 ?_;refine tF 3 ?_;refine tL 4 ?_;refine tk 5 (.bool false) rfl (cD.no (cD.neq rfl rfl) zn) ?_;refine tM 6 ?_;refine dt 7 _ rfl (ba rfl) ?_;refine dt 8 _ rfl (cD.dg rfl zP zI zX) ?_;refine dt 9 _ rfl (ba rfl) ?_;refine dt 10 _ rfl (bp rfl zR) ?_;refine dt 12 _ rfl (ba rfl) ?_;refine dt 13 _ rfl (bp rfl zR) ?_)
 refine A.ru 11 rfl rfl zK ?_;refine bg rfl rfl (ug _ e vm b.fi (hb.fi.cL zE) zo) ?_;rintro _ _ ⟨LG,ki,rfl,rfl⟩;refine ⟨fun _=>zE,A.fR zE ?_⟩;refine A.ru 14 rfl rfl zK ?_;have VC:=hw.idx;have Og:=hw.size;refine bg rfl rfl (GV _ e (b.idx:Int) (b.size:Int) vp (.slice LG (cY b.fi).length ki) vr ts (cY b.fi) b.kO.dc.root zo zo (VW.cL zE) (fun x hx=>(Hh x hx).cL zE) (bb zP) (hb.kO.root.cL zE)) ?_;rintro _ _ ⟨rfl,rfl⟩;refine ⟨fun _=>zE,A.fR zE ?_⟩;have Oc:(ql (b.idx:Int) (b.size:Int) ts (cY b.fi)∧qm (b.idx:Int) (b.size:Int) ts (cY b.fi)=b.kO.dc.root)↔pi b.idx b.size b.path (cY b.fi) b.kO.dc.root:=by rw [← fy];exact HH
 rw [decide_eq_decide.2 Oc]
 by_cases Nc:pi b.idx b.size b.path (cY b.fi) b.kO.dc.root
 rotate_left
 ·rw [hE1 _ Iff.rfl (fun h=>Nc h.2),aq Nc]
  (refine dt 15 _ rfl (cD.p7 rfl) ?_;refine tk 16 _ rfl (bI rfl rfl) ?_;refine tA 17 ?_)
  refine bf zK ?_;refine wB ?_;exact aY R rfl zE ⟨rfl,rfl⟩
 rw [ay Nc]
 (refine dt 15 _ rfl (cD.jY rfl) ?_;refine tk 16 _ rfl (bI rfl rfl) ?_;refine tA 17 ?_)
 refine bf zK ?_;refine wB ?_;refine aZ rfl rfl (J8 _ e vl vw vr vc p b.kO.dc b.eH (hp.cL zE) sX (hb.kO.root.cL zE) Gc (hb.gs.cL zE) (by have:=hw.fE;omega)) ?_;rintro _ _ ⟨rfl,rfl⟩
 by_cases HV:uf p b.kO.dc b.eH
 ·have hE:lQ p b=0:=by unfold lQ;rw [aB (fun q=>q hm),aB (fun q=>q hv),aB (fun q=>q ⟨hs,Nc⟩),aB (fun q=>q HV)]
  rw [hE,ay HV];refine wB ?_;exact aY R rfl zE ⟨rfl,rfl⟩
 ·have hE:lQ p b=33:=by unfold lQ;rw [aB (fun q=>q hm),aB (fun q=>q hv),aB (fun q=>q ⟨hs,Nc⟩),aI HV]
  rw [hE,aq HV];refine wB ?_;exact aY R rfl zE ⟨rfl,rfl⟩
theorem CY (e:World) (v:Value) (ts:List ej) (f:FuncId) (ws:List Value) (St:Nat→List cJ) [i:cI prog f f] (hv:∀ i,cE (St i) 1 v ts.length (ts.map (·.1))) (hl:ts.length≤1000000)
 (hf:∀ (i:Nat) (h:i<ts.length),Ct prog f ([(ts[i]).1]++ws).toArray e (St i) (fun v' L'=>v'=.bool false∧L'=St (i+1))) :
 Ct prog 264 #[v,.func (.func f) #[] ws.toArray] e (St 0) (fun v' L'=>v'=.int .i64 (-1)∧L'=St ts.length):=by
 refine a7 ((hv 0).shape zo) ?_;rintro ⟨⟨ad,cap,rfl,h3,h4,h5,h6⟩,_⟩;refine a8 (args:=[_,_]) func264 rfl ntmps264 results264 rfl ?_;refine wB ?_;refine bq (ι:=Nat) (fun i=>[(0,.slice ad ts.length cap),(1,.func (.func f) #[] ws.toArray),(7,.int .i64 (ts.length:Int)),(8,.int .i64 (i:Int))]) (fun i=>St i) (fun i=>i≤ts.length) (fun i=>ts.length - i) 0 (aH _) zS aX ?_;rintro i h1
 by_cases cO:i<ts.length
 rotate_left
 ·rw [show i=ts.length by omega];refine wB ?_;exact aY (St ts.length) rfl aX ⟨rfl,rfl⟩
 rcases h6 with h6|⟨gl,ol,rfl⟩
 ·omega
 have hr:Rd (St i) ⟨gl,ol+i,none⟩ (ts[i]'cO).1:=(hv i).elem (by rw [aL,ae cO];rfl);have JX:=hf i cO
 generalize (ts[i]'cO).1=y at *
 (repeat' first|(refine bV rfl hr rfl ?_)|refine Za ?_|refine Zb ?_|apply Zc|apply Zd|apply Ze|apply Zf|refine ZA ?_|refine Yw ?_|refine Yz ?_|apply YB|apply YC)
 refine bC (Do.gD (us:=[]) (ws:=ws) rfl rfl rfl JX ?_)
 rintro _ _ ⟨rfl,rfl⟩;refine wB ?_;exact bi (i+1) cO zo zS aX
theorem xl (e:World) (v:Value) (ts:List ej) (f:FuncId) (ws:List Value) (St:Nat→List cJ) [i:cI prog f f] (hv:∀ i,cE (St i) 1 v ts.length (ts.map (·.1))) (hl:ts.length≤1000000)
 (hf:∀ (i:Nat) (h:i<ts.length),Ct prog f ([(ts[i]).1]++ws).toArray e (St i) (fun v' L'=>v'=.bool false∧L'=St (i+1))) :
 Ct prog 203 #[v,.func (.func f) #[] ws.toArray] e (St 0) (fun v' L'=>v'=.bool false∧L'=St ts.length):=by
 refine a8 (args:=[_,_]) func203 rfl ntmps203 results203 rfl ?_;refine wB ?_;refine aZ rfl rfl (CY e v ts f ws St hv hl hf) ?_;rintro _ _ ⟨rfl,rfl⟩;refine wB ?_;exact aY (St ts.length) rfl aX ⟨rfl,rfl⟩
theorem KO (g:Nat) (l m:dv) (v:Value) (h:db R v m) (hk:l.length+m.length≤140737488355328) :
 Ct prog 123 #[pt g,v] e (Writer g l::R) (fun v' L'=>v'=.bool true∧L'=Writer g (l++m)::R):=by
 refine a7 (cn h.tail) fun o1=>?_
 refine a8 (args:=[_,_]) func123 rfl ntmps123 results123 rfl ?_;refine wB ?_;refine bC (Do.gD (us:=[]) (ws:=[]) rfl rfl rfl (hH R e g l m v h hk) ?_)
 rintro _ _ ⟨rfl,rfl⟩;refine wB ?_;exact aY (Writer g (l++m)::R) rfl aX ⟨rfl,rfl⟩
theorem vJ {l:List dv} {i:Nat} (h:i<l.length):(l.take (i+1)).flatten=(l.take i).flatten++l[i]'h:=by
 rw [aD h,List.flatten_append];simp
theorem CZ {l:List dv} {i:Nat}:(l.take i).flatten.length≤l.flatten.length:=by
 conv=>rhs;rw [← List.take_append_drop i l,List.flatten_append,aa]
 omega
theorem Ax (g g3 g4:Nat) (l m:dv) (v:Value) (h:db R v m) (hk:l.length+m.length≤140737488355328) :
 Ct prog 206 #[v,pt g4,pt g3] e (cK g4 [.func (.func 123) #[] #[]] 206 (0,0)::cK g3 [pt g] 151 (0,0)::Writer g l::R)
  (fun v' L'=>v'=.bool false∧L'=cK g4 [.func (.func 123) #[] #[]] 206 (0,0)::cK g3 [pt g] 151 (0,0)::Writer g (l++m)::R):=by
 refine a8 (args:=[_,_,_]) func206 rfl ntmps206 results206 rfl ?_;refine wB ?_;refine bC (Do.gD (us:=[]) (ws:=[]) rfl rfl rfl (Ct.at (.succ (.succ .zero)) (KO _ e g l m v (h.cL zE) hk)) ?_)
 rintro _ _ ⟨rfl,rfl⟩;refine wB ?_;exact aY (cK g4 [.func (.func 123) #[] #[]] 206 (0,0)::cK g3 [pt g] 151 (0,0)::Writer g (l++m)::R) rfl zE ⟨rfl,rfl⟩
theorem C0 (g:Nat) (l:dv) (v:Value) (bs:List dv) (hv:mL R v bs) (hl:bs.length≤1000) (hk:l.length+bs.flatten.length≤1000000) :
 Ct prog 122 #[pt g,.func (.func 123) #[] #[],v] e (Writer g l::R) (fun v' L'=>v'=.bool true∧L'=Writer g (l++bs.flatten)::R):=by
 refine a7 hv.tail.one fun o1=>?_
 obtain ⟨ts,rfl,tI,Hh⟩:=hv;rw [ab] at hl
 refine a8 (args:=[_,_,_]) func122 rfl ntmps122 results122 rfl ?_
 (repeat (refine wA ?_;intros))
 rename_i g3 g4
 have Oj:=xl e v ts 206 [pt g4,pt g3] (fun i=>cK g4 [.func (.func 123) #[] #[]] 206 (0,0)::cK g3 [pt g] 151 (0,0)::Writer g (l++((ts.map (·.2)).take i).flatten)::R) (fun i=>tI.cL zE) zo (fun i hi=>by
  have Og:i<(ts.map (·.2)).length:=by rw [ab];exact hi
  have Xz:=vJ Og;have hle:=CZ (l:=ts.map (·.2)) (i:=i+1);rw [Xz,aa] at hle
  rw [Xz,← aM];rw [List.getElem_map];rw [List.getElem_map] at hle
  exact Ax R e g g3 g4 _ _ _ (Hh _ (az hi)) (by rw [aa];omega))
 rw [List.take_zero,List.flatten_nil,aK,aG (by rw [ab];omega)] at Oj
 refine aZ rfl rfl Oj ?_;rintro _ _ ⟨rfl,rfl⟩;refine wB ?_;exact aY (Writer g (l++(ts.map (·.2)).flatten)::R) rfl zE ⟨rfl,rfl⟩
theorem C1 (e:World) (v:Value) (ts:List jl) (f:FuncId) (ws:List Value) (St:Nat→List cJ) [i:cI prog f f] (hv:∀ i,cE (St i) 4 v ts.length (ts.flatMap jl.cells)) (hl:ts.length≤1000000)
 (hf:∀ (i:Nat) (h:i<ts.length),Ct prog f ([Value.agg (jl.cells ts[i]).toArray]++ws).toArray e (St i) (fun v' L'=>v'=.bool false∧L'=St (i+1))) :
 Ct prog 266 #[v,.func (.func f) #[] ws.toArray] e (St 0) (fun v' L'=>v'=.int .i64 (-1)∧L'=St ts.length):=by
 refine a7 ((hv 0).shape zo) ?_;rintro ⟨⟨ad,cap,rfl,h3,h4,h5,h6⟩,_⟩;refine a8 (args:=[_,_]) func266 rfl ntmps266 results266 rfl ?_;refine wB ?_;refine bq (ι:=Nat) (fun i=>[(0,.slice ad ts.length cap),(1,.func (.func f) #[] ws.toArray),(7,.int .i64 (ts.length:Int)),(8,.int .i64 (i:Int))]) (fun i=>St i) (fun i=>i≤ts.length) (fun i=>ts.length - i) 0 (aH _) zS aX ?_;rintro i h1
 by_cases cO:i<ts.length
 rotate_left
 ·rw [show i=ts.length by omega];refine wB ?_;exact aY (St ts.length) rfl aX ⟨rfl,rfl⟩
 rcases h6 with h6|⟨gl,ol,rfl⟩
 ·omega
 have hr:dZ (St i) gl (ol+i*4) (jl.cells (ts[i]'cO)):=dZ.elem (hv i) jl.len (ae cO);have JX:=hf i cO
 generalize ts[i]'cO=y at *
 (repeat' first|(refine O.dy rfl hr rfl rfl ?_)|refine Za ?_|refine Zb ?_|apply Zc|apply Zd|apply Ze|apply Zf|refine ZA ?_|refine Yx ?_|refine Yz ?_|apply YB|apply YC)
 refine bC (Do.gD (us:=[]) (ws:=ws) rfl rfl rfl JX ?_)
 rintro _ _ ⟨rfl,rfl⟩;refine wB ?_;exact bi (i+1) cO zo zS aX
theorem xm (e:World) (v:Value) (ts:List jl) (f:FuncId) (ws:List Value) (St:Nat→List cJ) [i:cI prog f f] (hv:∀ i,cE (St i) 4 v ts.length (ts.flatMap jl.cells)) (hl:ts.length≤1000000)
 (hf:∀ (i:Nat) (h:i<ts.length),Ct prog f ([Value.agg (jl.cells ts[i]).toArray]++ws).toArray e (St i) (fun v' L'=>v'=.bool false∧L'=St (i+1))) :
 Ct prog 208 #[v,.func (.func f) #[] ws.toArray] e (St 0) (fun v' L'=>v'=.bool false∧L'=St ts.length):=by
 refine a8 (args:=[_,_]) func208 rfl ntmps208 results208 rfl ?_;refine wB ?_;refine aZ rfl rfl (C1 e v ts f ws St hv hl hf) ?_;rintro _ _ ⟨rfl,rfl⟩;refine wB ?_;exact aY (St ts.length) rfl aX ⟨rfl,rfl⟩
abbrev KP:Value:=.func (.func 126) #[] #[]
theorem C2 (g g3 g4:Nat) (l:dv) (t:jl) (ht:jl.ok R t) (hw:t.1.fY<4) (hr:t.1.sig.right) (hk:l.length≤1000000) :
 Ct prog 209 #[.agg (jl.cells t).toArray,pt g4,pt g3] e (cK g4 [KP] 209 (0,0)::cK g3 [pt g] 151 (0,0)::Writer g l::R)
  (fun v' L'=>v'=.bool false∧L'=cK g4 [KP] 209 (0,0)::cK g3 [pt g] 151 (0,0)::Writer g (l++eU t.1)::R):=by
 obtain ⟨⟨w,sg⟩,up,uq⟩:=t;obtain ⟨t1,t2⟩:=ht;dsimp only at t1 t2 hw hr ⊢
 have mR:cz (cK g4 [KP] 209 (0,0)::cK g3 [pt g] 151 (0,0)::Writer g l::R) R:=zE;refine a7 (t1.cL mR).parts.one fun o4=>?_
 refine a7 (t1.cL mR).path.one fun o5=>?_
 refine a8 (args:=[_,_,_]) func209 rfl ntmps209 results209 rfl ?_
 (repeat (refine wA ?_;intros))
 refine bC (Do.gD (us:=[]) (ws:=[]) rfl rfl rfl (Ct.at zP (Bk _ e g l up uq ⟨w,sg⟩ (t1.cL zE) hw hr hk)) ?_)
 rintro _ _ ⟨rfl,rfl⟩;refine wB ?_;exact aY (cK g4 [KP] 209 (0,0)::cK g3 [pt g] 151 (0,0)::Writer g (l++eU ⟨w,sg⟩)::R) rfl zE ⟨rfl,rfl⟩
theorem E9 (g:Nat) (l:dv) (v:Value) (gs:List kN) (hv:oW R v gs) (hl:gs.length≤1000) (hw:∀ x∈gs,x.fY<4) (hr:∀ x∈gs,x.sig.right) (hk:l.length+(lI gs).length≤1000000) :
 Ct prog 125 #[pt g,KP,v] e (Writer g l::R) (fun v' L'=>v'=.bool true∧L'=Writer g (l++lI gs)::R):=by
 refine a7 hv.tail.one fun o1=>?_
 obtain ⟨ts,rfl,tI,Hh⟩:=hv;rw [ab] at hl
 refine a8 (args:=[_,_,_]) func125 rfl ntmps125 results125 rfl ?_
 (repeat (refine wA ?_;intros))
 rename_i g3 g4
 have Oj:=xm e v ts 209 [pt g4,pt g3] (fun i=>cK g4 [KP] 209 (0,0)::cK g3 [pt g] 151 (0,0)::Writer g (l++(((ts.map (·.1)).map eU).take i).flatten)::R) (fun i=>tI.cL zE) zo (fun i hi=>by
  have Og:i<((ts.map (·.1)).map eU).length:=by rw [ab,ab];exact hi
  have Xz:=vJ Og;have hle:=CZ (l:=(ts.map (·.1)).map eU) (i:=i);have QP:=hk;unfold lI at QP
  rw [Xz,← aM,List.getElem_map,List.getElem_map];exact C2 R e g g3 g4 _ _ (Hh _ (az hi)) (hw _ (aE.2 ⟨_,az hi,rfl⟩)) (hr _ (aE.2 ⟨_,az hi,rfl⟩)) (by rw [aa];omega))
 rw [List.take_zero,List.flatten_nil,aK,aG (by rw [ab,ab];omega)] at Oj
 refine aZ rfl rfl Oj ?_;rintro _ _ ⟨rfl,rfl⟩;refine wB ?_;exact aY (Writer g (l++lI (ts.map (·.1)))::R) rfl zE ⟨rfl,rfl⟩
theorem C3 (vm vp vr va vq vc:Value) (b:wQ) (hb:rQ R vm vp vr va vq vc b) (hw:b.wf) :
 Ct prog 50 #[.agg (sF b vm vp vr va vq vc).toArray] e R (fun v' L'=>∃ ad k,v'=.tuple #[.slice ad (fS b).length k,.int .i64 0]∧L'=cR (.slice ad (fS b).length k) (fS b)::R):=by
 have Sy:=hw.fi;have h1:=hw.idx;have h2:=hw.size;have h3:=hw.DD;have h4:=hw.fE;have Gc:=hw.dc;have oP:=pj hw;have DB:=fc hw.jN;have tI:=iN hw.dc hw.sig;have CC:=rh hw.sigs;refine a7 (cn hb.fi) fun o3=>?_
 refine a7 hb.path.one fun o4=>?_
 refine a7 (cn hb.kO.root) fun o5=>?_
 refine a7 hb.kO.sig.parts.one fun o6=>?_
 refine a7 hb.kO.sig.path.one fun o7=>?_
 refine a7 hb.gs.one fun o8=>?_
 obtain ⟨ts,fy,VW,Hh⟩:=hb.path;have oF:ts.length=b.path.length:=by rw [← fy,ab]
 obtain ⟨gs,vK,Xo,J6⟩:=hb.gs;have VX:gs.length=b.eH.length:=by rw [← vK,ab]
 refine a7 (VW.shape zo) ?_;rintro ⟨⟨rP,cp,rfl,-,-,-,-⟩,_⟩;refine a7 (Xo.shape zo) ?_;rintro ⟨⟨adc,cc,rfl,-,-,-,-⟩,_⟩
 have OW:jG ts=true:=by
  unfold jG;rw [decide_eq_true_iff];refine ⟨by omega,fun a ha=>hw.jN _ ?_⟩;rw [← fy];exact aE.2 ⟨a,ha,rfl⟩
 refine a8 (args:=[_]) func50 rfl ntmps50 results50 rfl ?_
 (repeat (refine wA ?_;intros))
 rename_i g1;refine aZ rfl rfl (mh _ e b.idx) ?_;rintro _ _ ⟨rfl,rfl⟩;rw [ay h1];refine wB ?_;refine aZ rfl rfl (mh _ e b.size) ?_;rintro _ _ ⟨rfl,rfl⟩;rw [ay h2];refine wB ?_;refine aZ rfl rfl (nd _ e (.slice rP ts.length cp) ts (VW.cL zE) (fun x hx=>(Hh x hx).cL zE)) ?_;rintro _ _ ⟨rfl,rfl⟩;rw [OW];refine wB ?_;refine aZ rfl rfl (jg _ e) ?_;rintro _ _ ⟨gw,rfl,rfl⟩;refine wB ?_;refine aZ rfl rfl (xZ _ e gw [] b.fi vm (hb.fi.cL zE) (by simp only [List.length_nil];omega) Sy) ?_;rintro _ _ ⟨rfl,rfl⟩;rw [show []++be (List.length b.fi) 2++b.fi=enc b.fi by simp [enc]];have el:=iy b.fi;refine wB ?_;refine aZ rfl rfl (gF _ e gw _ b.idx zo zo) ?_;rintro _ _ ⟨rfl,rfl⟩;refine wB ?_;refine aZ rfl rfl (gF _ e gw _ b.size zo (by simp only [aa,cX];omega)) ?_;rintro _ _ ⟨rfl,rfl⟩;refine wB ?_;rw [qo (n:=ts.length) zo];refine aZ rfl rfl (mw _ e gw _ _ (by simp only [aa,cX];omega)) ?_;rintro _ _ ⟨rfl,rfl⟩;refine wB ?_;refine aZ rfl rfl (C0 _ e gw _ (.slice rP ts.length cp) b.path ⟨ts,fy,VW.cL zE,fun x hx=>(Hh x hx).cL zE⟩ zo (by simp only [aa,cX,aj];omega)) ?_;rintro _ _ ⟨rfl,rfl⟩
 (repeat' first|refine Za ?_|apply Zc|apply Zd|apply Ze|apply Zf|refine Zh ?_|(apply O.dg;exact rfl;exact zP;(first|(simp only [aC,Nat.add_zero,Nat.reduceAdd,List.drop_succ_cons,List.drop_zero,List.take_succ_cons,List.take_zero];done)|(simp only [aC,Nat.add_zero,Nat.reduceAdd,List.drop_succ_cons,List.drop_zero,List.take_succ_cons,List.take_zero];exact rfl));exact rfl;exact rfl))
 refine aZ rfl rfl (Bh _ e gw _ vr va vq b.kO (hb.kO.cL zE) hw.dc hw.sig (by simp only [aa,cX,aj];omega)) ?_;rintro _ _ ⟨rfl,rfl⟩;refine wB ?_;rw [qo (n:=gs.length) zo];refine aZ rfl rfl (mw _ e gw _ _ (by simp only [aa,cX,aj];omega)) ?_;rintro _ _ ⟨rfl,rfl⟩;refine wB ?_;refine aZ rfl rfl (E9 _ e gw _ (.slice adc gs.length cc) b.eH ⟨gs,vK,Xo.cL zE,fun x hx=>(J6 x hx).cL zE⟩ zo hw.ew hw.sigs (by simp only [aa,cX,aj];omega)) ?_;rintro _ _ ⟨rfl,rfl⟩
 have lM:enc b.fi++be b.idx 4++be b.size 4++[UInt8.ofNat ts.length]++b.path.flatten++hO b.kO++[UInt8.ofNat gs.length]++lI b.eH=fS b:=by
  unfold fS;rw [oF,VX];simp only [aM,List.cons_append,List.nil_append,List.singleton_append]
 rw [lM];refine wB ?_;refine aZ rfl rfl (hI _ e gw (fS b) zo) ?_;rintro _ _ ⟨ad,k,rfl,rfl⟩;refine wB ?_;exact aY (cR (.slice ad (fS b).length k) (fS b)::R) rfl zE ⟨ad,k,rfl,rfl⟩
abbrev nE:TypeId:=96
abbrev fT (v:Value) (l:List jl):cJ:=dJ nE 4 v l.length (l.flatMap jl.cells)
abbrev pL:List Value:=sF aaQ nY nY nY nY nY nY
theorem Nd {A B C D E F:cJ} {R:List cJ}:cz (A::B::C::D::E::F::R) (dH [A,B,C,D,E,F]::R):=dQ (M:=[A,B,C,D,E,F])
end Go.Proofs
namespace Go.Proofs
attribute [local irreducible] Bs.cD Bs.Do Bs.O Bs.W Bs.Fin Bs.A Bs.Ct Bs.cE Bs.Rd Bs.Sat Bs.cK Bs.Ob Bs.dJ Bs.View Bs.cz Bs.Ex Bs.dH Bs.Pu Bs.eY Bs.dM Bs.dZ
open Go.Bs
open Tryz
variable (R:List cJ) (e:World)
theorem po (gl ld lk:Nat) (seed:dv) (ls:fV) (i:Nat) (vr va vq vg:Value) (s:j6) (gs:List kN) (hs:fj R vr va vq s) (hf:s.sig.fits) (vK:oW R vg gs) (Ub:∀ g∈gs,g.sig.fits) (CC:gs.length≤1000) (lm:s.dc.size≤ls.cF.length) (ry:ls.cF.length≤256) (hi:i≤1000000) :
 Ct prog 49 #[pt gl,.int .i64 (i:Int),.agg (dS s vr va vq).toArray,vg] e (cV gl ld lk seed ls::R)
  (fun v' L'=>(i<s.dc.size→∃ (M:cJ) (um up ur ua uq uc:Value),v'=.tuple #[.agg (sF ⟨ls.cF.getD i [],i,s.dc.size,iG ((ls.cF.take s.dc.size).map cY) i,s,gs⟩ um up ur ua uq uc).toArray,.int .i64 0]∧rQ [M] um up ur ua uq uc ⟨ls.cF.getD i [],i,s.dc.size,iG ((ls.cF.take s.dc.size).map cY) i,s,gs⟩∧L'=M::cV gl ld lk seed ls::R)
   ∧ (¬ i<s.dc.size→v'=.tuple #[.agg pL.toArray,.int .i64 22]∧L'=cV gl ld lk seed ls::R)):=by
 have mR:cz (cV gl ld lk seed ls::R) R:=zE;refine a7 (cn (hs.root.cL mR)) fun o5=>?_
 refine a7 (hs.sig.cL mR).parts.one fun o6=>?_
 refine a7 (hs.sig.cL mR).path.one fun o7=>?_
 obtain ⟨ts,fy,Uc,J6⟩:=vK;have oF:ts.length=gs.length:=by rw [← fy,ab]
 refine a7 ((Uc.cL mR).shape zo) ?_;rintro ⟨⟨DE,cg,rfl,h3,h4,h5,h6⟩,_⟩;simp only [maxLen] at h4
 refine bH (args:=[_,_,_,_]) func49 rfl ntmps49 results49 rfl ?_
 (repeat (refine wA ?_;intros))
 rename_i g6 g8;refine aZ rfl rfl (Ct.at zP (qx _ e gl ld lk seed ls (i:Int) zo)) ?_;rintro _ _ (⟨lU,rfl,rfl⟩|⟨hi0,VC,LG,ci,rfl,rfl⟩)
 ·have U1:¬ i<s.dc.size:=by omega
  refine wB ?_;apply br
  ·exact zV
  exact ⟨cV gl ld lk seed ls::R,zE,fun h=>absurd h U1,fun _=>⟨rfl,rfl⟩⟩
 rw [show ((i:Int)).toNat=i from rfl]
 by_cases Nf:i<s.dc.size
 rotate_left
 ·refine wB ?_;apply br
  ·exact zV
  exact ⟨cV gl ld lk seed ls::R,zE,fun h=>absurd h Nf,fun _=>⟨rfl,rfl⟩⟩
 refine wB ?_;refine aZ rfl rfl (Ct.at zP (Ko _ e gl ld lk seed ls i s.dc.size lm Nf)) ?_;rintro _ _ ⟨rP,cp,out,rfl,lr,rfl⟩
 generalize hpq:iG ((ls.cF.take s.dc.size).map cY) i=XA at *
 generalize si:ls.cF.getD i []=item at *
 (repeat' first|refine W.pF (id:=10) (fun j:Nat × cJ × Value × Value × Value=>[(3,.slice DE ts.length cg),(8,pt g8),(9,.int .i64 0),(14,pt j.1)]) (fun j=>cK j.1 (sF ⟨item,i,s.dc.size,XA,s,[]⟩ (.slice LG item.length ci) (.slice rP out.length cp) j.2.2.1 j.2.2.2.1 j.2.2.2.2 nY) rC (0,0)::j.2.1::cR (.slice LG item.length ci) item::cU (.slice rP out.length cp) out::cH out::cV gl ld lk seed ls::cK g8 pL rC (0,0)::R) (fun j=>fj [j.2.1] j.2.2.1 j.2.2.2.1 j.2.2.2.2 s) ?_ ?_|refine Za ?_|refine Zb ?_|apply Zc|apply Zd|apply Ze|apply Zf|refine ZQ ?_|refine Yh fun _=>?_|refine YA ?_|apply YC|refine YN ?_|refine YR ?_|fail)
 rotate_left
 ·refine ⟨?_⟩;rename_i Mg;refine W.gC [(3,.slice DE ts.length cg),(6,pt g6),(8,pt g8),(9,.int .i64 0),(10,.slice LG item.length ci),(12,pt Mg)] zS ?_
  (repeat' first|refine Za ?_|refine Zb ?_|apply Zc|apply Zd|apply Ze|apply Zf|refine Zh ?_|refine Zi ?_|refine Zj ?_|refine Zk ?_|refine Zl ?_|refine Zm ?_|refine Zn ?_|refine Zo ?_|refine Zq ?_|refine Zs ?_|refine Zt ?_|refine Zu ?_|refine Zy ?_|refine Zz ?_|refine ZA ?_|refine ZB ?_|refine ZC (fun _=>?_) fun _=>?_|refine ZJ ?_|refine ZK ?_|refine ZM ?_|refine ZN ?_|refine ZO (fun _=>?_) fun _=>?_|refine ZP ?_|refine ZQ ?_|refine ZS ?_|refine Z7 ?_|refine Z8 ?_|refine Yd ?_|refine Ye ?_|refine Yg fun _=>?_|refine Yh fun _=>?_|refine Yi fun _=>?_|refine Ym ?_|refine Yw ?_|refine Yx ?_|refine Yy ?_|refine Yz ?_|refine YA ?_|apply YB|apply YC|apply YD|apply YE|apply YF|apply YG|apply YH|apply YI|apply YJ|refine YK ?_|refine YN ?_|refine YQ ?_|refine YR ?_|(apply O.dg;exact rfl;exact zP;(first|(simp only [aC,Nat.add_zero,Nat.reduceAdd,List.drop_succ_cons,List.drop_zero,List.take_succ_cons,List.take_zero];done)|(simp only [aC,Nat.add_zero,Nat.reduceAdd,List.drop_succ_cons,List.drop_zero,List.take_succ_cons,List.take_zero];exact rfl));exact rfl;exact rfl))
  refine bk (id:=9) [6] (cK Mg [.int .i64 (i:Int),.int .i64 (s.dc.size:Int),.slice rP out.length cp] 40 (0,0)::cK g6 (dS s vr va vq) 87 (0,0)::R) mixed ?_
  (refine tM 0 ?_;refine tJ 1 ?_;refine tJ 2 ?_)
  refine A.two 3 5 rfl rfl rfl rfl zK ?_ ?_
  ·refine bg rfl rfl (gR _ e vr va vq s (hs.cL zE) hf) ?_;rintro _ _ ⟨N,ur,ua,uq,rfl,hN,rfl⟩;refine ⟨fun _=>zE,?_⟩;refine A.cB (cn (hN.root.cL (cG zP))) fun o8=>?_
   refine A.cB (hN.sig.cL (cG zP)).parts.one fun o9=>?_
   refine A.cB (hN.sig.cL (cG zP)).path.one fun Nb=>?_
   (refine tk 4 _ rfl (bL rfl zF) ?_)
   refine tO 5 ?_;refine bQ (cs:=pL) rfl rfl fun Ay=>⟨fun _=>zE,?_⟩
   refine tO 6 ?_;refine zg ?_;refine ⟨zN,?_⟩;refine bf zK ?_;exact bJ (Ay,N,ur,ua,uq) hN zS zE
  ·refine bQ (cs:=pL) rfl rfl fun Ay=>⟨fun _=>zE,?_⟩
   refine tO 3 ?_;refine bg rfl rfl (gR _ e vr va vq s (hs.cL zE) hf) ?_;rintro _ _ ⟨N,ur,ua,uq,rfl,hN,rfl⟩;refine ⟨fun _=>zE,?_⟩;refine A.cB (cn (hN.root.cL (cG zP))) fun o8=>?_
   refine A.cB (hN.sig.cL (cG zP)).parts.one fun o9=>?_
   refine A.cB (hN.sig.cL (cG zP)).path.one fun Nb=>?_
   (refine tk 4 _ rfl (bL rfl zF) ?_)
   refine tO 6 ?_;refine zg ?_;refine ⟨zN,?_⟩;refine bf zK ?_;exact bJ (Ay,N,ur,ua,uq) hN zS zE
 rintro ⟨Ay,N,ur,ua,uq⟩ hN;dsimp only at hN ⊢
 refine W.cB (cn (hN.root.cL (cG zP))) fun o8=>?_
 refine W.cB (hN.sig.cL (cG zP)).parts.one fun o9=>?_
 refine W.cB (hN.sig.cL (cG zP)).path.one fun Nb=>?_
 refine wB ?_;refine bq (ι:=Nat × List jl × cJ × Option Addr × Nat) (fun j=>[(8,pt g8),(9,.int .i64 0),(14,pt Ay),(54,.slice DE ts.length cg),(55,.int .i64 (ts.length:Int)),(56,.int .i64 (j.1:Int))]) (fun j=>cK Ay (sF ⟨item,i,s.dc.size,XA,s,[]⟩ (.slice LG item.length ci) (.slice rP out.length cp) ur ua uq (.slice j.2.2.2.1 j.2.1.length j.2.2.2.2)) rC (0,0)::fT (.slice j.2.2.2.1 j.2.1.length j.2.2.2.2) j.2.1::j.2.2.1::N::cR (.slice LG item.length ci) item::cU (.slice rP out.length cp) out::cH out::cV gl ld lk seed ls::cK g8 pL rC (0,0)::R) (fun j=>j.1≤ts.length∧j.2.1.map (·.1)=gs.take j.1∧∀ t∈j.2.1,jl.ok [j.2.2.1] t) (fun j=>ts.length - j.1) (0,[],cH [],none,0) ⟨aH _,rfl,fun t ht=>by cases ht⟩ zS (cj (dL) (cj (du nE 4) zE)) ?_;rintro ⟨k,us,Mx,m5,cu⟩ ⟨hk,hJ,Sz⟩;dsimp only at hk hJ Sz ⊢
 have LD:us.length=k:=by have:=congrArg List.length hJ;rw [ab,aF] at this;omega
 by_cases cO:k<ts.length
 rotate_left
 ·rw [aG zo] at hJ
  obtain ⟨M,hM⟩:∃ M:cJ,M=dH [cR (.slice LG item.length ci) item,cU (.slice rP out.length cp) out,cH out,N,fT (.slice m5 us.length cu) us,Mx]:=⟨_,rfl⟩
  have ho:cz [M] [cR (.slice LG item.length ci) item,cU (.slice rP out.length cp) out,cH out,N,fT (.slice m5 us.length cu) us,Mx]:=by rw [hM];exact cT (M:=[_,_,_,_,_,_]) (L:=[])
  have tK:rQ [M] (.slice LG item.length ci) (.slice rP out.length cp) ur ua uq (.slice m5 us.length cu) ⟨item,i,s.dc.size,XA,s,gs⟩ :=
   ⟨(bb .zero).cL ho,mL.cL ⟨out,lr,bb (.succ .zero),dP.dY (.succ (.succ .zero))⟩ ho,(hN.cL (cG zP)).cL ho,oW.cL ⟨us,hJ,bb zP,fun t ht=>(Sz t ht).cL (cG zP)⟩ ho⟩
  refine wB ?_;apply br
  ·exact zV
  refine ⟨M::cV gl ld lk seed ls::R,cj ?_ (by rw [hM];exact Nd),fun _=>⟨M,.slice LG item.length ci,.slice rP out.length cp,ur,ua,uq,.slice m5 us.length cu,rfl,tK,rfl⟩,fun h=>absurd Nf h⟩;exact zE
 rcases h6 with h6|⟨gg,og,rfl⟩
 ·omega
 have G2:dZ R gg (og+k*4) (jl.cells (ts[k]'cO)):=dZ.elem Uc jl.len (ae cO);have ju:=J6 _ (az cO);have zh:k<gs.length:=by omega
 have EK:(ts[k]'cO).1=gs[k]'zh:=by
  have:=congrArg (fun l=>l[k]?) fy;simp only [aL,ae cO,ae zh,Option.map_some,Option.some.injEq] at this
  exact this
 have ft:gs.take (k+1)=gs.take k++[gs[k]'zh]:=aD zh;have JX:=Ub _ (az zh);rw [← EK] at ft JX
 generalize ts[k]'cO=y at *
 obtain ⟨⟨w,sg⟩,up,QO⟩:=y;obtain ⟨t1,t2⟩:=ju;dsimp only at t1 t2 JX ft G2
 refine W.cB (t1.cL zE).parts.one fun VY=>?_
 refine W.cB (t1.cL zE).path.one fun XB=>?_
 (repeat (refine wA ?_;intros))
 rename_i g16;have TP:List.length [Value.int .i64 (w:Int),.int .i64 (sg.idx:Int),up,QO]=4:=rfl;dsimp only [jl.cells];refine bk (id:=13) [6,7] (cK g16 (iA ⟨w,sg⟩ up QO) nE (0,0)::cK Ay (sF ⟨item,i,s.dc.size,XA,s,[]⟩ (.slice LG item.length ci) (.slice rP out.length cp) ur ua uq (.slice m5 us.length cu)) rC (0,0)::R) mixed ?_
 (refine tF 0 ?_;refine tL 1 ?_;refine tJ 2 ?_)
 refine tO 3 ?_;refine bg rfl rfl (oX _ e up QO ⟨w,sg⟩ (t1.cL zE) JX) ?_;rintro _ _ ⟨N2,wp,wq,rfl,nk,rfl⟩;refine ⟨fun _=>zE,?_⟩;refine A.cB (nk.cL (cG zP)).parts.one fun o13=>?_
 refine A.cB (nk.cL (cG zP)).path.one fun o14=>?_
 refine tO 4 ?_;refine bE (n:=4) (cs:=iA ⟨w,sg⟩ wp wq) rfl rfl rfl rfl zQ rfl (fun gb=>⟨fun _=>zE,?_⟩);refine tO 5 ?_;refine bo rfl rfl rfl (show cQ _ (fT (.slice m5 us.length cu) us) _ from zP) (bO (n:=4) (c:=1) zP rfl zl) rfl rfl zO zm zo fun ef k1 _=>⟨fun _=>zE,?_⟩
 refine tO 6 ?_;refine dV (ba rfl) ?_;refine tO 7 ?_;refine tg ?_;refine ⟨zN,?_⟩;refine bf zK ?_;refine wB ?_;have eT:cz [dH [Mx,N2]] [Mx]:=cj (cT (M:=[_,_]) (L:=[])) (bh bF);have iH:cz [dH [Mx,N2]] [N2]:=cj (cT (M:=[_,_]) (L:=[])) (cz.drop (bh bF));refine bi (k+1,us++[(⟨w,sg⟩,wp,wq)],dH [Mx,N2],ef,k1) ⟨cO,by dsimp only;rw [ft,ah,hJ];rfl,fun t ht=>?_⟩ zd zS ?_
 ·rcases aJ.1 ht with ht|ht
  ·exact (Sz t ht).cL eT
  ·rw [an.1 ht];exact ⟨nk.cL iH,t2⟩
 ·simp only [fT,aa,aj,aW,aU,List.flatMap_nil,aK];exact cj (ep (A:=Mx) (B:=N2) zP zP) zE
abbrev sY:TypeId:=321
abbrev Pp:TypeId:=330
abbrev FW.cells (x:FW):List Value:=[.int .i64 (x.size:Int),.int .i64 (x.tries:Int),.bool x.kept]
theorem SA (x:FW):x.cells.length=3:=rfl
abbrev lc (v:Value) (l:List FW):cJ:=dJ Pp 3 v l.length (l.flatMap FW.cells)
structure eL where
 ga:Nat
 vl:Value
 vw:Value
 al:Option Addr
 cl:Nat
 ur:Value
 up:Value
 uq:Value
 ak:Option Addr
 ck:Nat
 ts:List jl
 dr:Value
 dp:Value
 dq:Value
 ve:Value
structure eL.ok (a:eL) (M:cJ) (p:jH) (retry n:Nat) (s:cP):Prop where
 wU:j7 [M] a.vl a.vw p
 cur:fj [M] a.ur a.up a.uq s.dT
 Ud:a.ts.map (·.1)=s.kept
 QY:∀ t∈a.ts,jl.ok [M] t
 done:fj [M] a.dr a.dp a.dq s.done
 dk:oW [M] a.ve s.dk
 st:s.ok p.ew.length n
 pr:p.right
 low:1≤retry
 high:retry≤100
abbrev eL.cells (a:eL) (p:jH) (retry:Nat) (s:cP):List Value:=lE p a.vl a.vw++[.int .i64 (retry:Int),pt a.ga,.slice a.al s.st.length a.cl]++dS s.dT a.ur a.up a.uq++[.bool s.cur.isSome,.slice a.ak a.ts.length a.ck]++dS s.done a.dr a.dp a.dq++[a.ve]
abbrev pq (g:Nat) (p:jH) (retry:Nat) (s:cP) (a:eL) (M:cJ) (R:List cJ):List cJ :=
 cK g (a.cells p retry s) sY (0,0)::M::lc (.slice a.al s.st.length a.cl) s.st::fT (.slice a.ak a.ts.length a.ck) a.ts::sH a.ga s.ord s.ag::R
def SB (g:Nat) (p:jH) (retry n:Nat) (s:cP) (a:eL) (M:cJ):cJ:=dH (Pu (a.ok M p retry n s)::pq g p retry s a M [])
def lf (g:Nat) (p:jH) (retry n:Nat) (s:cP):cJ:=Ex fun a=>Ex fun M=>SB g p retry n s a M
theorem vL {g:Nat} {p:jH} {retry n:Nat} {s:cP} {R:List cJ} {P:Program} {f:FuncId} {args:Array Value} {e:World} {Post:Value→List cJ→Prop}
 (h:∀ (a:eL) (M:cJ),a.ok M p retry n s→Ct P f args e (pq g p retry s a M R) Post):Ct P f args e (lf g p retry n s::R) Post :=
 Ct.ex .zero fun a=>Ct.ex .zero fun M=>Ct.cL (a7 (p:=a.ok M p retry n s) (fun w x=>(jQ x).1) fun hp=>(h a M hp).cL (cz.drop aX)) (cT (M:=Pu (a.ok M p retry n s)::pq g p retry s a M []) (L:=R))
theorem lY {g:Nat} {p:jH} {retry n:Nat} {s:cP} {a:eL} {M:cJ} {R:List cJ} (h:a.ok M p retry n s):cz (pq g p retry s a M R) (lf g p retry n s::R) :=
 cj (m7 h) (cj (dQ (M:=Pu (a.ok M p retry n s)::pq g p retry s a M []) (L:=R)) (cj (fu (f:=fun M=>SB g p retry n s a M) M) (fu (f:=fun a=>Ex fun M=>SB g p retry n s a M) a)))
theorem sI (g ga o t w:Nat) (l:List AE) (hg:Rd R ⟨g,4,none⟩ (pt ga)) (hf:∀ x∈l,x.fits) (ht:t≤1000000000) (hw:w≤1000000000) (ho:o≤1000000000) (hl:l.length≤100000) :
 Ct prog 246 #[pt g,.int .i64 (t:Int),.int .i64 (w:Int)] e (sH ga o l::R) (fun v' L'=>v'=.tuple #[]∧L'=sH ga (o+1) (pJ (gM l w) ⟨t,o,w⟩)::R):=by
 have Ca:=HI (l:=l) (w:=w);refine a8 (args:=[_,_,_]) func246 rfl ntmps246 results246 rfl ?_
 (repeat' first|(refine bV rfl hg.tail rfl ?_)|refine Za ?_|apply Zc|apply Zd|refine Zg ?_|refine Zh ?_|fail)
 refine aZ rfl rfl (uC R e ga o l w hf hl) ?_;rintro _ _ ⟨⟨z,rfl⟩,rfl⟩
 (repeat' first|(refine bV rfl hg.tail rfl ?_)|refine Za ?_|apply Zd|apply Ze|apply Zf|refine Zg ?_|refine Zh ?_|fail)
 refine aZ rfl rfl (KM R e ga o (gM l w) t w (fun x hx=>hf x (List.mem_filter.1 ((jz l w).mem_iff.1 hx)).1) ht hw ho zo) ?_;rintro _ _ ⟨rfl,rfl⟩
 (repeat (refine wA ?_;intros))
 exact bT (sH ga (o+1) (pJ (gM l w) ⟨t,o,w⟩)::R) rfl aX ⟨rfl,rfl⟩
theorem pu (L:List cJ):fj L nY nY nY vH :=
 ⟨cE.nil _ _,CL L,⟨by decide,by decide⟩⟩
theorem zk {n:Nat} {x:FW}:(List.replicate n x).flatMap FW.cells=(List.replicate n (FW.cells x)).flatten:=by
 rw [List.flatMap_def,List.map_replicate]
theorem KQ (vl vw:Value) (p:jH) (retry:Nat) (hp:j7 R vl vw p) (sX:p.right) (h1:1≤retry) (h2:retry≤100) :
 Ct prog 164 #[.agg (lE p vl vw).toArray,.int .i64 (retry:Int)] e R (fun v' L'=>∃ g,v'=.tuple #[pt g,.int .i64 0]∧L'=lf g p retry 0 (Au p.ew.length)::R):=by
 have Fa:=sX.fE;have VZ:=sX.log;refine a7 (cn hp.log) fun o2=>?_
 refine a7 hp.ew.one fun o3=>?_
 obtain ⟨ts,fy,tI,Hh⟩:=hp.ew;have oF:ts.length=p.ew.length:=by rw [← fy,ab]
 refine a7 (tI.shape zo) ?_;rintro ⟨⟨HK,cw,rfl,-,-,-,-⟩,_⟩;refine a8 (args:=[_,_]) func164 rfl ntmps164 results164 rfl ?_
 (repeat (refine wA ?_;intros))
 rename_i g2;refine aZ rfl rfl (j8 _ e vl (.slice HK ts.length cw) p (hp.cL zE) sX) ?_;rintro _ _ ⟨rfl,rfl⟩;refine wB ?_;have Fb:=fun (L:List cJ) (h:cz L R)=>CU L e vl (.slice HK ts.length cw) p (hp.cL h) zo zo (fun b hb=>by have:=sX.kQ b hb;omega)
 refine bk (id:=3) [10,11] (cK g2 (lE p vl (.slice HK ts.length cw)) 106 (0,0)::R) mixed ?_
 (refine tJ 0 ?_;refine tM 2 ?_;refine tF 4 ?_;refine tL 5 ?_;refine tk 6 _ rfl (bM rfl) ?_)
 refine A.two 1 7 rfl rfl rfl rfl zK ?_ ?_
 ·refine bg rfl rfl (Fb _ zE) ?_;rintro _ _ ⟨Mp,ul,uw,rfl,Gd,rfl⟩;refine ⟨fun _=>zE,?_⟩;refine A.cB (cn (Gd.log.cL (cG zP))) fun o4=>?_
  refine A.cB (Gd.ew.cL (cG zP)).one fun o5=>?_
  refine A.two 3 7 rfl rfl rfl rfl zK ?_ ?_
  ·refine bg rfl rfl (vI _ e) ?_;rintro _ _ ⟨ga,rfl,rfl⟩;refine ⟨fun _=>zE,?_⟩;refine tO 7 ?_;refine Do.sG (c:=ts.length) (zs:=FW.cells lq) rfl rfl rfl rfl rfl rfl zm zo fun gs=>⟨fun _=>zE,?_⟩
   refine tk 8 _ rfl (bL rfl zF) ?_;refine tO 9 ?_;refine Do.box (cs:=eL.cells ⟨ga,ul,uw,some ⟨gs,0,none⟩,ts.length,nY,nY,nY,none,0,[],nY,nY,nY,nY⟩ p retry (Au ts.length)) rfl (by simp [Au,cP.dT,vH];rfl) rfl fun gf=>⟨fun _=>zE,?_⟩
   refine tO 10 ?_;refine dV (bj rfl) ?_;refine tO 11 ?_;refine dV (bj rfl) ?_;refine bf zK ?_;refine wB ?_
   have j0:eL.ok ⟨ga,ul,uw,some ⟨gs,0,none⟩,ts.length,nY,nY,nY,none,0,[],nY,nY,nY,nY⟩ Mp p retry 0 (Au ts.length) :=
    ⟨Gd,pu _,rfl,fun t ht=>absurd ht aP,pu _,⟨[],rfl,cE.nil _ _,fun t ht=>absurd ht aP⟩,by rw [oF];exact CP _,sX,h1,h2⟩
   rw [← oF];refine aY (lf gf p retry 0 (Au ts.length)::R) rfl (cj (cj (du nE 4) ?_) (lY j0)) ⟨gf,rfl,rfl⟩;simp only [pq,lc,Au,List.length_replicate,← zk];exact zE
  ·refine Do.sG (c:=ts.length) (zs:=FW.cells lq) rfl rfl rfl rfl rfl rfl zm zo fun gs=>⟨fun _=>zE,?_⟩
   refine tO 3 ?_;refine bg rfl rfl (vI _ e) ?_;rintro _ _ ⟨ga,rfl,rfl⟩;refine ⟨fun _=>zE,?_⟩;refine tk 8 _ rfl (bL rfl zF) ?_;refine tO 9 ?_;refine Do.box (cs:=eL.cells ⟨ga,ul,uw,some ⟨gs,0,none⟩,ts.length,nY,nY,nY,none,0,[],nY,nY,nY,nY⟩ p retry (Au ts.length)) rfl (by simp [Au,cP.dT,vH];rfl) rfl fun gf=>⟨fun _=>zE,?_⟩
   refine tO 10 ?_;refine dV (bj rfl) ?_;refine tO 11 ?_;refine dV (bj rfl) ?_;refine bf zK ?_;refine wB ?_
   have j0:eL.ok ⟨ga,ul,uw,some ⟨gs,0,none⟩,ts.length,nY,nY,nY,none,0,[],nY,nY,nY,nY⟩ Mp p retry 0 (Au ts.length) :=
    ⟨Gd,pu _,rfl,fun t ht=>absurd ht aP,pu _,⟨[],rfl,cE.nil _ _,fun t ht=>absurd ht aP⟩,by rw [oF];exact CP _,sX,h1,h2⟩
   rw [← oF];refine aY (lf gf p retry 0 (Au ts.length)::R) rfl (cj (cj (du nE 4) ?_) (lY j0)) ⟨gf,rfl,rfl⟩;simp only [pq,lc,Au,List.length_replicate,← zk];exact zE
 ·refine Do.sG (c:=ts.length) (zs:=FW.cells lq) rfl rfl rfl rfl rfl rfl zm zo fun gs=>⟨fun _=>zE,?_⟩
  refine tO 1 ?_;refine bg rfl rfl (Fb _ zE) ?_;rintro _ _ ⟨Mp,ul,uw,rfl,Gd,rfl⟩;refine ⟨fun _=>zE,?_⟩;refine A.cB (cn (Gd.log.cL (cG zP))) fun o4=>?_
  refine A.cB (Gd.ew.cL (cG zP)).one fun o5=>?_
  refine tO 3 ?_;refine bg rfl rfl (vI _ e) ?_;rintro _ _ ⟨ga,rfl,rfl⟩;refine ⟨fun _=>zE,?_⟩;refine tk 8 _ rfl (bL rfl zF) ?_;refine tO 9 ?_;refine Do.box (cs:=eL.cells ⟨ga,ul,uw,some ⟨gs,0,none⟩,ts.length,nY,nY,nY,none,0,[],nY,nY,nY,nY⟩ p retry (Au ts.length)) rfl (by simp [Au,cP.dT,vH];rfl) rfl fun gf=>⟨fun _=>zE,?_⟩
  refine tO 10 ?_;refine dV (bj rfl) ?_;refine tO 11 ?_;refine dV (bj rfl) ?_;refine bf zK ?_;refine wB ?_
  have j0:eL.ok ⟨ga,ul,uw,some ⟨gs,0,none⟩,ts.length,nY,nY,nY,none,0,[],nY,nY,nY,nY⟩ Mp p retry 0 (Au ts.length) :=
   ⟨Gd,pu _,rfl,fun t ht=>absurd ht aP,pu _,⟨[],rfl,cE.nil _ _,fun t ht=>absurd ht aP⟩,by rw [oF];exact CP _,sX,h1,h2⟩
  rw [← oF];refine aY (lf gf p retry 0 (Au ts.length)::R) rfl (cj (cj (du nE 4) ?_) (lY j0)) ⟨gf,rfl,rfl⟩;simp only [pq,lc,Au,List.length_replicate,← zk];exact zE
theorem np {l:List FW} {i:Nat} (h:i<l.length):l.getD i lq=l[i]'h:=by simp [List.getD,h]
theorem rj {α:Type} {f:α→List Value} {n:Nat} (hf:∀ a,(f a).length=n):∀ (l:List α) (i k:Nat) (h:i<l.length) (a:α) (v:Value),k<n→f a=(f (l[i]'h)).set k v→(l.flatMap f).set (i*n+k) v=(l.set i a).flatMap f
 | [],i,k,h,_,_,_,_=>absurd h (Nat.not_lt_zero i)
 | x::l,0,k,h,a,v,hk,he=>by
  rw [Nat.zero_mul,aC,aU,List.set_cons_zero,aU,List.set_append_left _ _ (by rw [hf];exact hk)];rw [show f a=(f x).set k v from he]
 | x::l,i+1,k,h,a,v,hk,he=>by
  rw [aU,List.set_cons_succ,aU,List.set_append_right _ _ (by rw [hf,Nat.add_mul];omega),hf]
  congr 1
  rw [show (i+1)*n+k - n=i*n+k by rw [Nat.add_mul];omega];exact rj hf l i k (by simpa using h) a v hk he
theorem Fc {l:List FW} {i:Nat} (h:i<l.length) (n:Nat):(l.flatMap FW.cells).set (i*3+1) (.int .i64 (n:Int))=(l.set i { l.getD i lq with tries:=n }).flatMap FW.cells :=
 rj SA l i 1 h _ _ zo (by rw [np h];rfl)
theorem I0 {l:List FW} {i:Nat} (h:i<l.length) (n:Nat):(l.flatMap FW.cells).set (i*3+0) (.int .i64 (n:Int))=(l.set i { l.getD i lq with size:=n }).flatMap FW.cells :=
 rj SA l i 0 h _ _ zo (by rw [np h];rfl)
theorem I1 {l:List FW} {i:Nat} (h:i<l.length) (b:Bool):(l.flatMap FW.cells).set (i*3+2) (.bool b)=(l.set i { l.getD i lq with kept:=b }).flatMap FW.cells :=
 rj SA l i 2 h _ _ zo (by rw [np h];rfl)
theorem SC {l:List FW} {i:Nat} (h:i<l.length):((l.flatMap FW.cells).set (i*3+1) (.int .i64 0)).set (i*3+2) (.bool false)=(l.set i (l.getD i lq).off).flatMap FW.cells:=by
 rw [show (Value.int .i64 0)=.int .i64 ((0:Nat):Int) from rfl,Fc h,I1 (by rw [List.length_set];exact h),List.set_set]
 congr 2
 rw [np (by rw [List.length_set];exact h),List.getElem_set_self]
 rfl
theorem pw {v:Value} {l:List FW} {L R:List cJ} (p:cQ L (lc v l) R):∀ h,dM L h→∃ ad c,v=.slice ad l.length c∧l.length≤c∧c≤maxLen∧((ad=none∧c=0∧l.length=0)∨∃ g,ad=some ⟨g,0,none⟩):=fun h hs=>(fO p h hs).1
theorem eL.ok.mono {a:eL} {M:cJ} {p:jH} {retry n m:Nat} {s:cP} (h:a.ok M p retry n s) (hm:n≤m):a.ok M p retry m s:={ h with st:=h.st.mono hm }
theorem Fe (g:Nat) (p:jH) (retry n:Nat) (s:cP) (vr vp vq:Value) (x:j6) (now:Nat) (hx:fj R vr vp vq x) (KR:x.fits) (ht:now≤10000000) (hn:n≤999000) :
 Ct prog 172 #[pt g,.agg (dS x vr vp vq).toArray,.int .i64 (now:Int)] e (lf g p retry n s::R) (fun v' L'=>v'=.bool (decide (s.E4 p x))∧L'=lf g p retry (n+p.ew.length) (s.ie p x now)::R):=by
 refine vL fun a M ha=>?_
 have Fa:=ha.pr.fE;have mR:cz (pq g p retry s a M R) R:=zE;have HA:cz (pq g p retry s a M R) [M]:=cG zP;refine a7 (cn (hx.root.cL mR)) fun o5=>?_
 refine a7 (hx.sig.cL mR).parts.one fun o6=>?_
 refine a7 (hx.sig.cL mR).path.one fun o7=>?_
 refine a7 (cn (ha.wU.log.cL HA)) fun o8=>?_
 refine a7 (pw (show cQ (pq g p retry s a M R) (lc (.slice a.al s.st.length a.cl) s.st) _ from zP)) ?_;rintro ⟨lL,c',lV,F4,TR,AV⟩
 cases lV
 have hlen:=ha.st.len;have Af:1≤s.st.length:=by have:=ha.pr.low;have:=ha.pr.high;omega
 rcases AV with ⟨-,-,AV⟩|⟨gs,rL⟩
 ·omega
 refine a8 (args:=[_,_,_]) func172 rfl ntmps172 results172 rfl ?_;have hga:eL.ok a M p retry n s:=ha
 (repeat' first|refine W.u2 (id:=3) (fun j:Nat=>[(0,pt g),(2,.int .i64 (now:Int)),(4,pt j)]) (fun j=>cK j (dS x vr vp vq) 87 (0,0)::pq g p retry s a M R) (fun _=>s.E4 p x) ?_ ?_|refine Zb ?_|apply Zc|apply Zd|apply Ze|apply Zf|refine Yg fun _=>?_|fail)
 rotate_left
 ·refine ⟨?_⟩;rename_i g4
  (repeat (refine wA ?_;intros))
  refine bz (id:=1) [] mixed ?_
  (refine tM 0 ?_;refine tN 1 ?_;refine tF 2 ?_;refine tF 3 ?_;refine tL 4 ?_;refine tJ 5 ?_)
  refine tO 6 ?_;refine bg rfl rfl (ky _ e a.vl vr vp vq p.log x (ha.wU.log.cL (cG zP)) (hx.cL zE) KR.1) ?_;rintro _ _ ⟨rfl,rfl⟩;refine ⟨fun _=>zE,A.fR zE ?_⟩
  by_cases hb:s.E4 p x
  rotate_left
  ·have hS:s.ie p x now=s:=by unfold cP.ie;rw [aB hb]
   rw [hS,aq hb];have gB:=lY (R:=R) (g:=g) (ha.mono (m:=n+p.ew.length) zo)
   by_cases hv:x.ii p.log
   ·rw [ay hv]
    obtain ⟨c,hc,B6⟩:∃ c,s.cur=some c∧x.dc.size≤c.dc.size:=by
     by_cases h:∃ c,s.cur=some c∧x.dc.size≤c.dc.size
     ·exact h
     ·exact absurd ⟨hv,fun c hc hs=>h ⟨c,hc,hs⟩⟩ hb
    have IY:s.dT=c:=by unfold cP.dT;rw [hc];rfl
    have BL:s.cur.isSome=true:=by rw [hc];rfl
    dsimp only [pq,eL.cells] at gB ⊢
    rw [IY,BL] at gB ⊢
    (refine tk 7 _ rfl (cD.jY rfl) ?_;refine tM 8 ?_;refine dt 9 _ rfl (bu rfl) ?_;refine dt 10 _ rfl (bm rfl) ?_;refine dt 11 _ rfl (ba rfl) ?_;refine dt 12 _ rfl (bp rfl zR) ?_;refine dt 13 _ rfl (bu rfl) ?_;refine dt 14 _ rfl (ba rfl) ?_;refine dt 15 _ rfl (ba rfl) ?_;refine dt 16 _ rfl (bp rfl zR) ?_;refine dt 17 _ rfl (bu rfl) ?_;refine dt 18 _ rfl (bm rfl) ?_;refine dt 19 _ rfl (ba rfl) ?_;refine dt 20 _ rfl (ba rfl) ?_;refine dt 21 _ rfl (ba rfl) ?_;refine dt 22 _ rfl (bp rfl zR) ?_;refine dt 23 (.bool true) rfl (cD.iP (cD.leq rfl rfl) zy) ?_;refine dt 24 _ rfl (bK rfl rfl) ?_;refine tk 25 _ rfl (bI rfl rfl) ?_)
    refine bf zK ?_;refine wB ?_;exact aY (lf g p retry (n+p.ew.length) s::R) rfl (cj zE gB) ⟨rfl,rfl⟩
   ·rw [aq hv]
    (refine tk 7 _ rfl (cD.p7 rfl) ?_;refine tM 8 ?_;refine bc 9 rfl rfl zK zE rfl ?_;refine bc 10 rfl rfl zK zE rfl ?_;refine bc 11 rfl rfl zK zE rfl ?_;refine bc 12 rfl rfl zK zE rfl ?_;refine bc 13 rfl rfl zK zE rfl ?_;refine bc 14 rfl rfl zK zE rfl ?_;refine bc 15 rfl rfl zK zE rfl ?_;refine bc 16 rfl rfl zK zE rfl ?_;refine bc 17 rfl rfl zK zE rfl ?_;refine bc 18 rfl rfl zK zE rfl ?_;refine bc 19 rfl rfl zK zE rfl ?_;refine bc 20 rfl rfl zK zE rfl ?_;refine bc 21 rfl rfl zK zE rfl ?_;refine bc 22 rfl rfl zK zE rfl ?_;refine bc 23 rfl rfl zK zE rfl ?_;refine bc 24 rfl rfl zK zE rfl ?_;refine tk 25 _ rfl (bK rfl rfl) ?_)
    refine bf zK ?_;refine wB ?_;exact aY (lf g p retry (n+p.ew.length) s::R) rfl (cj (show cz _ (pq g p retry s a M R) from zE) gB) ⟨rfl,rfl⟩
  rw [ay hb.1]
  cases hc:s.cur with
  | none =>
   have BL:s.cur.isSome=false:=by rw [hc];rfl
   dsimp only [pq,eL.cells];rw [BL]
   (refine tk 7 _ rfl (cD.jY rfl) ?_;refine tM 8 ?_;refine dt 9 _ rfl (bu rfl) ?_;refine dt 10 _ rfl (bm rfl) ?_;refine dt 11 _ rfl (ba rfl) ?_;refine dt 12 _ rfl (bp rfl zR) ?_;refine dt 13 _ rfl (bu rfl) ?_;refine bc 14 rfl rfl zK zE rfl ?_;refine bc 15 rfl rfl zK zE rfl ?_;refine bc 16 rfl rfl zK zE rfl ?_;refine bc 17 rfl rfl zK zE rfl ?_;refine bc 18 rfl rfl zK zE rfl ?_;refine bc 19 rfl rfl zK zE rfl ?_;refine bc 20 rfl rfl zK zE rfl ?_;refine bc 21 rfl rfl zK zE rfl ?_;refine bc 22 rfl rfl zK zE rfl ?_;refine bc 23 rfl rfl zK zE rfl ?_;refine dt 24 _ rfl (bI rfl rfl) ?_;refine tk 25 _ rfl (bI rfl rfl) ?_)
   refine bf zK ?_;refine wB ?_;exact bJ g4 hb zS zE
  | some c =>
   have IY:s.dT=c:=by unfold cP.dT;rw [hc];rfl
   have BL:s.cur.isSome=true:=by rw [hc];rfl
   have B6:=hb.2 c hc;dsimp only [pq,eL.cells];rw [IY,BL]
   (refine tk 7 _ rfl (cD.jY rfl) ?_;refine tM 8 ?_;refine dt 9 _ rfl (bu rfl) ?_;refine dt 10 _ rfl (bm rfl) ?_;refine dt 11 _ rfl (ba rfl) ?_;refine dt 12 _ rfl (bp rfl zR) ?_;refine dt 13 _ rfl (bu rfl) ?_;refine dt 14 _ rfl (ba rfl) ?_;refine dt 15 _ rfl (ba rfl) ?_;refine dt 16 _ rfl (bp rfl zR) ?_;refine dt 17 _ rfl (bu rfl) ?_;refine dt 18 _ rfl (bm rfl) ?_;refine dt 19 _ rfl (ba rfl) ?_;refine dt 20 _ rfl (ba rfl) ?_;refine dt 21 _ rfl (ba rfl) ?_;refine dt 22 _ rfl (bp rfl zR) ?_;refine dt 23 (.bool false) rfl (cD.no (cD.leq rfl rfl) zn) ?_;refine dt 24 _ rfl (bK rfl rfl) ?_;refine tk 25 _ rfl (bI rfl rfl) ?_)
   refine bf zK ?_;refine wB ?_;exact bJ g4 hb zS zE
 rintro g4 hb;have hS:s.ie p x now=cP.lR now s.st.length { s with cur:=some x,kept:=[] }:=by unfold cP.ie;rw [aI hb]
 rw [hS,ay hb];have DX:=cP.IW ha.st KR hb;refine wB ?_;refine aZ rfl rfl (gR _ e vr vp vq x (hx.cL zE) KR.2.fits) ?_;rintro _ _ ⟨N,ur,up,uq,rfl,hN,rfl⟩;refine bn (cn (hN.root.cL (cG zP))) fun o9=>?_
 refine bn (hN.sig.cL (cG zP)).parts.one fun Nb=>?_
 refine bn (hN.sig.cL (cG zP)).path.one fun VY=>?_
 refine wB ?_;obtain ⟨s1,fQ⟩:∃ s1:cP,s1={ s with cur:=some x,kept:=[] }:=⟨_,rfl⟩
 rw [← fQ] at DX ⊢
 have hk1:s1.kept=[]:=by rw [fQ]
 have HW:s1.st=s.st:=by rw [fQ]
 have qh:s1.st.length=p.ew.length:=by rw [HW];exact hlen
 have SD:s1.dT=x:=by rw [fQ];rfl
 have aaW:s1.cur.isSome=true:=by rw [fQ];rfl
 have V4:s1.done=s.done:=by rw [fQ]
 have aaX:s1.dk=s.dk:=by rw [fQ]
 have hoN:=fun (j:Nat) (hj:j≤p.ew.length)=>cP.CR (now:=now) (k:=p.ew.length) zo zo j DX hk1 hj zo
 have hoD:∀ j,(cP.lR now j s1).done=s1.done∧(cP.lR now j s1).dk=s1.dk:=fun j=>by
  induction j with
  | zero=>exact ⟨rfl,rfl⟩
  | succ j ih=>exact ih
 obtain ⟨C,hC⟩:∃ C:List Value,C=eL.cells { a with ur:=ur,up:=up,uq:=uq,ak:=none,ck:=0,ts:=[] } p retry s1:=⟨_,rfl⟩
 have hCg:C[4]?=some (pt a.ga):=by rw [hC];rfl
 have XC:C[5]?=some (.slice a.al s.st.length a.cl):=by rw [hC,← HW];rfl
 refine bq (ι:=Nat) (fun j=>[(0,pt g),(2,.int .i64 (now:Int)),(49,.int .i64 (s.st.length:Int)),(50,.int .i64 (j:Int))]) (fun j=>cK g C sY (0,0)::N::M::dJ Pp 3 (.slice a.al s.st.length a.cl) s.st.length ((cP.lR now j s1).st.flatMap FW.cells)::sH a.ga (cP.lR now j s1).ord (cP.lR now j s1).ag::R) (fun j=>j≤s.st.length) (fun j=>s.st.length - j) 0 (aH _) zS ?_ ?_
 ·dsimp only [cP.lR];rw [HW,hC];have e1:s1.ord=s.ord:=by rw [fQ]
  have e2:s1.ag=s.ag:=by rw [fQ]
  rw [e1,e2];dsimp only [eL.cells];rw [SD,aaW,HW,V4];exact zE
 rintro j hj
 by_cases cO:j<s.st.length
 rotate_left
 ·have hje:j=s.st.length:=by omega
  subst hje;rw [hlen];obtain ⟨q1,q2,q3,q4⟩:=hoN p.ew.length (aS _);obtain ⟨q5,q6⟩:=hoD p.ew.length;have hq7:(cP.lR now p.ew.length s1).dT=x:=by unfold cP.dT;rw [q4];exact SD
  have eT:cz [dH [M,N]] [M]:=cj (cT (M:=[_,_]) (L:=[])) (bh bF);have iH:cz [dH [M,N]] [N]:=cj (cT (M:=[_,_]) (L:=[])) (cz.drop (bh bF))
  have Ng:eL.ok { a with ur:=ur,up:=up,uq:=uq,ak:=none,ck:=0,ts:=[] } (dH [M,N]) p retry (n+p.ew.length) (cP.lR now p.ew.length s1) :=
   ⟨ha.wU.cL eT,by rw [hq7];exact hN.cL iH,by rw [q2];rfl,fun t ht=>absurd ht aP,by rw [q5,V4];exact ha.done.cL eT,by rw [q6,aaX];exact ha.dk.cL eT,q1,ha.pr,ha.low,ha.high⟩
  refine wB ?_;refine aY (lf g p retry (n+p.ew.length) (cP.lR now p.ew.length s1)::R) rfl (cj (cj (du nE 4) ?_) (lY Ng)) ⟨rfl,rfl⟩;dsimp only [pq,eL.cells,lc];rw [hq7,q4,q5,q3,hC];dsimp only [eL.cells];rw [SD,qh];exact cj (ep (A:=M) (B:=N) zP zP) zE
 obtain ⟨q1,q2,q3,q4⟩:=hoN j zo;have hsj:(cP.lR now j s1).st.length=s.st.length:=by rw [q3,HW]
 have hlj:j<(cP.lR now j s1).st.length:=by omega
 have eJ:=SC hlj;have A9:cP.lR now (j+1) s1=(cP.lR now j s1).So now j:=rfl
 generalize cP.lR now j s1=sj at *
 rw [rL] at XC ⊢
 have G2:=q1.BG;have XD:∀ (L R':List cJ),cQ L (cK g C sY (0,0)) R'→Rd L ⟨g,0+5,none⟩ (.slice (some ⟨gs,0,none⟩) s.st.length a.cl):=fun L R' pl=>by rw [aC];exact bP pl (by rw [iO];exact XC)
 have XE:∀ (L R':List cJ),cQ L (cK g C sY (0,0)) R'→Rd L ⟨g,4,none⟩ (pt a.ga):=fun L R' pl=>bP pl (by rw [iO];exact hCg)
 have hR3:=XD (cK g C sY (0,0)::R) R .zero;refine wB ?_;refine bk (id:=7) [13,14,15] (cK g C sY (0,0)::R) mixed ?_
 (refine tM 0 ?_;refine tN 1 ?_;refine tF 2 ?_;refine tL 3 ?_;refine tM 4 ?_;refine tM 5 ?_;refine tN 6 ?_;refine tF 7 ?_;refine tL 8 ?_;refine tM 9 ?_;refine tk 10 _ rfl (bD rfl rfl zo) ?_;refine tF 11 ?_)
 refine tO 12 ?_;refine Do.p8 rfl rfl rfl zP zo ⟨fun _=>zE,?_⟩;refine tO 13 ?_;refine bN (bD rfl rfl cO) rfl ⟨zN,?_⟩;refine tO 14 ?_;refine dV (ba rfl) ?_;refine tO 15 ?_;refine Do.p8 rfl rfl rfl .zero zo ⟨zN,?_⟩;rw [aC,eJ];refine bf zK ?_;refine wB ?_;have pM:∀ y∈sj.ag,y.fits:=fun y hy=>(q1.fits y hy).1
 refine aZ rfl rfl (Ct.at zP (sI _ e g a.ga sj.ord now j sj.ag (XE _ _ zP) pM zo zo (by have:=q1.ord;omega) zo)) ?_;rintro _ _ ⟨rfl,rfl⟩;refine wB ?_;refine bi (j+1) cO zo zS ?_;rw [A9];exact zE
abbrev Ff:TypeId:=265
abbrev KS (r:Nat × Nat):List Value:=[.int .i64 (r.1:Int),.int .i64 (r.2:Int)]
theorem V5 (r:Nat × Nat):(KS r).length=2:=rfl
abbrev uD (v:Value) (l:List (Nat × Nat)):cJ:=dJ Ff 2 v l.length (l.flatMap KS)
theorem zp (retry now:Nat) (r:Nat × Nat):∀ (l:List (Nat × Nat)) (s:cP),cP.iq retry now (l++[r]) s=(cP.iq retry now l s).ze retry now r.1
 | [],_=>rfl
 | x::l,s=>zp retry now r l (s.ze retry now x.1)
theorem sJ (retry now:Nat):∀ (l:List (Nat × Nat)) (s:cP),(cP.iq retry now l s).cur=s.cur∧(cP.iq retry now l s).kept=s.kept∧(cP.iq retry now l s).done=s.done∧(cP.iq retry now l s).dk=s.dk∧(cP.iq retry now l s).st.length=s.st.length
 | [],_=>⟨rfl,rfl,rfl,rfl,rfl⟩
 | x::l,s=>by
  obtain ⟨h1,h2,h3,h4,h5⟩:=sJ retry now l (s.ze retry now x.1);refine ⟨h1,h2,h3,h4,h5.trans ?_⟩
  show (List.set _ _ _).length=_
  rw [List.length_set];rfl
theorem aa0 {retry tries:Nat} (h:retry≤100):IntKind.i64.wrap ((retry:Int)*2 ^ (min (if (3:Int)<(tries:Int) then (3:Int) else (tries:Int)).toNat IntKind.i64.bits))=((retry*2 ^ min tries 3:Nat):Int):=by
 have h1:(if (3:Int)<(tries:Int) then (3:Int) else (tries:Int)).toNat=min tries 3:=by split<;>omega
 have h2:min (min tries 3) IntKind.i64.bits=min tries 3:=Nat.min_eq_left (by have:IntKind.i64.bits=64:=rfl;omega);have h3:=Nat.mul_le_mul h (CS (n:=tries));rw [h1,h2,show (2:Int) ^ min tries 3=((2 ^ min tries 3:Nat):Int) by simp,← Int.natCast_mul];exact wrap_i64 zo zo
end Go.Proofs
namespace Go.Proofs
attribute [local irreducible] Bs.cD Bs.Do Bs.O Bs.W Bs.Fin Bs.A Bs.Ct Bs.cE Bs.Rd Bs.Sat Bs.cK Bs.Ob Bs.dJ Bs.View Bs.cz Bs.Ex Bs.dH Bs.Pu Bs.eY Bs.dM Bs.dZ
open Go.Bs
open Tryz
variable (R:List cJ) (e:World)
theorem Fg (g:Nat) (p:jH) (retry n:Nat) (s:cP) (now:Nat) (ht:now≤10000000) (hn:n≤999000) :
 Ct prog 174 #[pt g,.int .i64 (now:Int)] e (lf g p retry n s::R) (fun v' L'=>∃ ad c,v'=.slice ad (s.la now).length c∧L'=uD (.slice ad (s.la now).length c) (s.la now)::lf g p retry (n+p.ew.length) (s.kH retry now)::R):=by
 refine vL fun a M ha=>?_
 have Fa:=ha.pr.fE;refine a7 (pw (show cQ (pq g p retry s a M R) (lc (.slice a.al s.st.length a.cl) s.st) _ from zP)) ?_;rintro ⟨lL,c',lV,F4,TR,AV⟩
 cases lV
 have hlen:=ha.st.len;have Af:1≤s.st.length:=by have:=ha.pr.low;have:=ha.pr.high;omega
 rcases AV with ⟨-,-,AV⟩|⟨gs,rL⟩
 ·omega
 obtain ⟨DX,V6,Ms⟩:=cP.M7 (now:=now) ha.st;obtain ⟨C,hC⟩:∃ C:List Value,C=eL.cells a p retry s:=⟨_,rfl⟩
 have hC3:C[3]?=some (.int .i64 (retry:Int)):=by rw [hC];rfl
 have hCg:C[4]?=some (pt a.ga):=by rw [hC];rfl
 have XC:C[5]?=some (.slice (some ⟨gs,0,none⟩) s.st.length a.cl):=by rw [hC,← rL];rfl
 have hR0:∀ (L R':List cJ),cQ L (cK g C sY (0,0)) R'→Rd L ⟨g,0+3,none⟩ (.int .i64 (retry:Int)):=fun L R' pl=>by rw [aC];exact bP pl (by rw [iO];exact hC3)
 have XD:∀ (L R':List cJ),cQ L (cK g C sY (0,0)) R'→Rd L ⟨g,0+5,none⟩ (.slice (some ⟨gs,0,none⟩) s.st.length a.cl):=fun L R' pl=>by rw [aC];exact bP pl (by rw [iO];exact XC)
 have XE:∀ (L R':List cJ),cQ L (cK g C sY (0,0)) R'→Rd L ⟨g,4,none⟩ (pt a.ga):=fun L R' pl=>bP pl (by rw [iO];exact hCg)
 have hR3:∀ (L R':List cJ),cQ L (cK g C sY (0,0)) R'→Rd L ⟨g,0+4,none⟩ (pt a.ga):=fun L R' pl=>by rw [aC];exact XE L R' pl
 dsimp only [pq];rw [← hC,rL];refine a8 (args:=[_,_]) func174 rfl ntmps174 results174 rfl ?_;refine wB ?_;refine bq (ι:=List AE × List Nat × Option Addr × Nat) (fun j=>[(0,pt g),(1,.int .i64 (now:Int)),(5,.slice j.2.2.1 j.2.1.length j.2.2.2)]) (fun j=>uD (.slice j.2.2.1 j.2.1.length j.2.2.2) (j.2.1.map fun w=>(w,(s.st.getD w lq).size))::sH a.ga s.ord j.1::cK g C sY (0,0)::M::lc (.slice (some ⟨gs,0,none⟩) s.st.length a.cl) s.st::fT (.slice a.ak a.ts.length a.ck) a.ts::R) (fun j=>(∀ y∈j.1,y.fits∧y.il<p.ew.length)∧j.1.length≤4∧j.2.1.length+j.1.length≤4∧nC now s.ag.length s.ag=(j.2.1++(nC now j.1.length j.1).1,(nC now j.1.length j.1).2)) (fun j=>j.1.length) (s.ag,[],none,0) ⟨ha.st.fits,by have:=ha.st.BG;dsimp only;omega,by have:=ha.st.BG;dsimp only [List.length_nil];omega,rfl⟩ zS (cj (du Ff 2) zE) ?_;rintro ⟨l,ws,Pq,co⟩ ⟨h1,h2,h3,h4⟩;dsimp only at h1 h2 h3 h4 ⊢
 by_cases EX:0<l.length∧((l.getD 0 kb).jD:Int)≤(now:Int)
 ·have oE:l≠[]:=fun q=>by rw [q] at EX;simp at EX
  have Xw:=vG oE;have Cj:=E3 oE;have hww:(l.getD 0 kb).il<p.ew.length:=(h1 _ (Xw.mem_iff.1 (List.mem_cons_self ..))).2;obtain ⟨m,hm⟩:∃ m,l.length=m+1:=⟨l.length - 1,by omega⟩
  have hd:nC now l.length l=((l.getD 0 kb).il::(nC now (pT l).length (pT l)).1,(nC now (pT l).length (pT l)).2):=by
   rw [hm,show (pT l).length=m by omega]
   conv=>lhs;unfold nC
   rw [aI ⟨EX.1,by omega⟩]
  rw [hd] at h4
  have hdu:=BK (cK g C sY (0,0)::uD (.slice Pq ws.length co) (ws.map fun w=>(w,(s.st.getD w lq).size))::M::lc (.slice (some ⟨gs,0,none⟩) s.st.length a.cl) s.st::fT (.slice a.ak a.ts.length a.ck) a.ts::R) e a.ga s.ord l (now:Int) (fun y hy=>(h1 y hy).1) zo
  generalize (l.getD 0 kb).il=w at *
  have C4:w<s.st.length:=by omega
  have th:=np C4;obtain ⟨z,hz⟩:∃ z,z=(s.st.getD w lq).size:=⟨_,rfl⟩
  have Vq:∀ (L R':List cJ),cQ L (lc (.slice (some ⟨gs,0,none⟩) s.st.length a.cl) s.st) R'→Rd L ⟨gs,0+w*3+0,none⟩ (.int .i64 (z:Int)):=fun L R' pl=>by
   have:=dZ.elem (bb pl) SA (ae C4);rw [hz,th];exact this.Ov (k:=0) rfl
  (repeat' first|(refine bV rfl (hR3 _ _ zP) rfl ?_)|refine Za ?_|apply Zc|apply Zd|refine Zg ?_|refine Zh ?_|apply YB)
  refine aZ rfl rfl (hdu.cL zE) ?_;rintro _ _ (⟨lU,-,-⟩|⟨-,-,rfl,rfl⟩)
  ·exact absurd EX lU
  (repeat' first|(refine bV rfl (XD _ _ zP) rfl ?_)|(refine bV rfl (Vq _ _ zP) rfl ?_)|refine Za ?_|refine Zb ?_|apply Zc|apply Zd|apply Ze|apply Zf|refine Zg ?_|refine Zh ?_|refine Zy ?_|refine Ye ?_|refine Yi fun _=>?_|refine Yx ?_|refine YA ?_|apply YC|refine YN ?_|fail)
  refine bC (bo rfl rfl rfl (show cQ _ (dJ Ff 2 (.slice Pq ws.length co) _ _) _ from zP) (bO (n:=2) (c:=1) zP rfl zl) rfl rfl zO (by simp only [maxLen,ab];omega) (by rw [ab];omega) fun ef k1 _=>?_)
  refine wB ?_;refine bi (pT l,ws++[w],ef,k1) ⟨fun y hy=>h1 y (Xw.mem_iff.1 (aT _ hy)),by dsimp only;omega,by dsimp only;rw [aa,aj];omega,by dsimp only;rw [h4,aM];rfl⟩ zd ?_ ?_
  ·simp only [aa,aj,ab];exact zS
  ·simp only [uD,ah,List.map_cons,List.map_nil,aW,aU,List.flatMap_nil,aK,aa,aj,ab,← hz];exact zE
 have Xy:nC now l.length l=([],l):=by
  cases hm:l.length with
  | zero=>rfl
  | succ m=>unfold nC;rw [aB (fun q=>EX ⟨by omega,by omega⟩)]
 rw [Xy] at h4
 rw [aK] at h4
 have XF:s.la now=ws.map fun w=>(w,(s.st.getD w lq).size):=by unfold cP.la;rw [h4]
 have Pr:(nC now s.ag.length s.ag).2=l:=by rw [h4]
 have aa2:s.kH retry now=cP.iq retry now (s.la now) { s with ag:=l }:=by unfold cP.kH;rw [Pr]
 rw [Pr] at DX
 have C4:ws.length=(s.la now).length:=by rw [XF,ab]
 rw [aa2,C4];rw [← XF];have hdu:=BK (cK g C sY (0,0)::uD (.slice Pq (s.la now).length co) (s.la now)::M::lc (.slice (some ⟨gs,0,none⟩) s.st.length a.cl) s.st::fT (.slice a.ak a.ts.length a.ck) a.ts::R) e a.ga s.ord l (now:Int) (fun y hy=>(h1 y hy).1) zo
 generalize s.la now=rq at *
 (repeat' first|(refine bV rfl (hR3 _ _ zP) rfl ?_)|refine Za ?_|apply Zc|apply Zd|refine Zg ?_|refine Zh ?_|apply YB)
 refine aZ rfl rfl (hdu.cL zE) ?_;rintro _ _ (⟨-,rfl,rfl⟩|⟨q1,q2,-,-⟩)
 rotate_left
 ·exact absurd ⟨q1,q2⟩ EX
 refine wB ?_;obtain ⟨s0,QZ⟩:∃ s0:cP,s0={ s with ag:=l }:=⟨_,rfl⟩
 rw [← QZ] at DX ⊢
 have tI:=fun i=>cP.zf (retry:=retry) (now:=now) (k:=p.ew.length) ha.high zo zo (rq.take i) DX (fun r hr=>(V6 r (aR hr)).1) (by rw [aF];omega)
 have BL:=fun i=>sJ retry now (rq.take i) s0
 refine bq (ι:=Nat) (fun j=>[(0,pt g),(1,.int .i64 (now:Int)),(5,.slice Pq rq.length co),(35,.slice Pq rq.length co),(36,.int .i64 (rq.length:Int)),(37,.int .i64 (j:Int))]) (fun j=>uD (.slice Pq rq.length co) rq::sH a.ga (cP.iq retry now (rq.take j) s0).ord (cP.iq retry now (rq.take j) s0).ag::cK g C sY (0,0)::M::dJ Pp 3 (.slice (some ⟨gs,0,none⟩) s.st.length a.cl) s.st.length ((cP.iq retry now (rq.take j) s0).st.flatMap FW.cells)::fT (.slice a.ak a.ts.length a.ck) a.ts::R) (fun j=>j≤rq.length) (fun j=>rq.length - j) 0 (aH _) zS ?_ ?_
 ·dsimp only [List.take_zero,cP.iq];rw [QZ];exact zE
 rintro j hj
 by_cases cO:j<rq.length
 rotate_left
 ·rw [aG zo];obtain ⟨w1,w2⟩:=tI rq.length;obtain ⟨v1,v2,v3,v4,v5⟩:=BL rq.length;rw [aG (aS _)] at w1 w2 v1 v2 v3 v4 v5
  have IY:(cP.iq retry now rq s0).dT=s.dT:=by rw [w2,QZ];rfl
  have Ng:eL.ok a M p retry (n+p.ew.length) (cP.iq retry now rq s0) :=
   ⟨ha.wU,by rw [IY];exact ha.cur,by rw [v2,QZ];exact ha.Ud,ha.QY,by rw [v3,QZ];exact ha.done,by rw [v4,QZ];exact ha.dk,w1.mono zo,ha.pr,ha.low,ha.high⟩
  refine wB ?_;refine aY (uD (.slice Pq rq.length co) rq::lf g p retry (n+p.ew.length) (cP.iq retry now rq s0)::R) rfl (cj ?_ (bh (lY Ng))) ⟨Pq,co,rfl,rfl⟩;dsimp only [pq,eL.cells,lc];rw [IY,v1,v3,v5,rL,hC,QZ];dsimp only [eL.cells];rw [rL];exact zE
 have ft:rq.take (j+1)=rq.take j++[rq[j]'cO]:=aD cO;have A9:cP.iq retry now (rq.take (j+1)) s0=(cP.iq retry now (rq.take j) s0).ze retry now (rq[j]'cO).1:=by rw [ft,zp]
 have Qx:=(V6 _ (az cO)).1;obtain ⟨w1,w2⟩:=tI j;obtain ⟨-,-,-,-,v5⟩:=BL j;have hsj:(cP.iq retry now (rq.take j) s0).st.length=s.st.length:=by rw [v5,QZ]
 have hlq:(rq.take j).length≤4:=by rw [aF];omega
 generalize cP.iq retry now (rq.take j) s0=sj at *
 refine W.cB ((bb (show cQ _ (uD (.slice Pq rq.length co) rq) _ from zP)).shape zo) ?_;rintro ⟨⟨lL,c',lV,wG,IU,Ap,uW⟩,_⟩
 cases lV
 rcases uW with uW|⟨gq,oq,rfl⟩
 ·omega
 have HX:∀ (L R':List cJ),cQ L (uD (.slice (some ⟨gq,oq,none⟩) rq.length co) rq) R'→dZ L gq (oq+j*2) (KS (rq[j]'cO)):=fun L R' pl=>dZ.elem (bb pl) V5 (ae cO)
 generalize rq[j]'cO=r at *
 obtain ⟨w,z⟩:=r;dsimp only at Qx HX A9
 dsimp only [KS] at HX
 have Ps:w<sj.st.length:=by omega
 obtain ⟨OS,hOS⟩:∃ OS:List cJ,OS=dJ Pp 3 (.slice (some ⟨gs,0,none⟩) s.st.length a.cl) s.st.length (sj.st.flatMap FW.cells)::fT (.slice a.ak a.ts.length a.ck) a.ts::R:=⟨_,rfl⟩
 have th:=np Ps;obtain ⟨tr,Nh⟩:∃ tr,tr=(sj.st.getD w lq).tries:=⟨_,rfl⟩
 have rI:Rd (dJ Pp 3 (.slice (some ⟨gs,0,none⟩) s.st.length a.cl) s.st.length (sj.st.flatMap FW.cells)::fT (.slice a.ak a.ts.length a.ck) a.ts::R) ⟨gs,0+w*3+1,none⟩ (.int .i64 (tr:Int)):=by
  have:=dZ.elem (bb (show cQ (dJ Pp 3 (.slice (some ⟨gs,0,none⟩) s.st.length a.cl) s.st.length (sj.st.flatMap FW.cells)::fT (.slice a.ak a.ts.length a.ck) a.ts::R) _ _ from .zero)) SA (ae Ps);rw [Nh,th];exact this.Ov (k:=1) rfl
 have Eu:=XD (cK g C sY (0,0)::M::dJ Pp 3 (.slice (some ⟨gs,0,none⟩) s.st.length a.cl) s.st.length (sj.st.flatMap FW.cells)::fT (.slice a.ak a.ts.length a.ck) a.ts::R) _ .zero;have hb0:=hR0 (cK g C sY (0,0)::M::dJ Pp 3 (.slice (some ⟨gs,0,none⟩) s.st.length a.cl) s.st.length (sj.st.flatMap FW.cells)::fT (.slice a.ak a.ts.length a.ck) a.ts::R) _ .zero;have Ir:=aa0 (retry:=retry) (tries:=tr) ha.high;have hp3:=Nat.mul_le_mul ha.high (CS (n:=tr));have V7:tr≤1000000:=by rw [Nh];have:=w1.tries _ (qB Ps);omega
 (repeat' first|(refine O.dy rfl (HX _ _ zP) rfl rfl ?_)|apply Zc|apply Zd|apply Ze|apply Zf|refine ZA ?_|refine Yh fun _=>?_|refine Yx ?_|refine Yz ?_|apply YB|apply YC|refine YR ?_|fail)
 rename_i g9;refine bz (id:=8) [7] mixed ?_
 (refine tM 0 ?_;refine tN 1 ?_;refine tF 2 ?_;refine tL 3 ?_;refine tF 4 ?_;refine tL 5 ?_;refine tk 6 _ rfl (bD rfl rfl zo) ?_;(refine tO 7 ?_;refine dV (bj rfl) ?_))
 refine bf zK ?_;refine wB ?_;refine bk (id:=9) [] (cK g9 [.int .i64 (w:Int),.int .i64 (z:Int)] Ff (0,0)::cK g C sY (0,0)::M::dJ Pp 3 (.slice (some ⟨gs,0,none⟩) s.st.length a.cl) s.st.length (sj.st.flatMap FW.cells)::fT (.slice a.ak a.ts.length a.ck) a.ts::R) mixed ?_
 (refine tM 0 ?_;refine tM 1 ?_;refine tM 2 ?_;refine tN 3 ?_;refine tF 4 ?_;refine tL 5 ?_;refine tM 6 ?_;refine tN 7 ?_;refine tF 8 ?_;refine tL 9 ?_;refine tk 10 _ rfl (cD.min rfl rfl) ?_)
 refine bG 11 (.int .i64 ((retry*2 ^ min tr 3:Nat):Int)) rfl zK zE (Ir ▸ cD.shl rfl rfl (by split<;>omega)) rfl ?_
 (refine tk 12 _ rfl (cD.kP rfl rfl zo) ?_;refine tF 13 ?_;refine tL 14 ?_)
 have hpw:2 ^ min tr 3*retry≤800:=by rw [Nat.mul_comm];omega
 refine tO 15 ?_;have pM:∀ y∈sj.ag,y.fits:=fun y hy=>(w1.fits y hy).1
 have V9:=w1.BG;have Wa:=w1.ord;refine bg rfl rfl (Ct.at zP (sI _ e g a.ga sj.ord (now+retry*2 ^ min tr 3) w sj.ag (XE _ _ zP) pM zo zo zo zo)) ?_;rintro _ _ ⟨rfl,rfl⟩;refine ⟨fun _=>zE,?_⟩;refine bf zK ?_;have jL:=Fc Ps (tr+1)
 have Wb:(sj.st.flatMap FW.cells).set (0+w*3+1) (.int .i64 ((tr:Int)+1))=(cP.iq retry now (rq.take (j+1)) s0).st.flatMap FW.cells:=by
  rw [aC,A9,show ((tr:Int)+1)=((tr+1:Nat):Int) by omega,jL,Nh]
  rfl
 have Pr:(cP.iq retry now (rq.take (j+1)) s0).ag=pJ (gM sj.ag w) ⟨now+retry*2 ^ min tr 3,sj.ord,w⟩:=by rw [A9,Nh];rfl
 have Wc:(cP.iq retry now (rq.take (j+1)) s0).ord=sj.ord+1:=by rw [A9];rfl
 refine wB ?_;rw [Wb];refine bi (j+1) cO zo zS ?_;rw [Pr,Wc];exact zE
theorem jl.jW {L:List cJ} {ts:List jl} (h:∀ t∈ts,jl.ok L t):∀ x,dM L x→∀ c∈ts.flatMap jl.cells,c.oneCell'=true:=fun x hx=>se fun t ht c hc=>by
 have h1:=(h t ht).rd.parts.one x hx;have h2:=(h t ht).rd.path.one x hx;simp only [jl.cells,aQ,aP,or_false] at hc
 rcases hc with rfl|rfl|rfl|rfl
 ·rfl
 ·rfl
 ·exact h1
 ·exact h2
theorem qF (v:Value) (l:List jl) (h:cE R 4 v l.length (l.flatMap jl.cells)) (h1:∀ t∈l,jl.ok R t) (hl:l.length≤100000) :
 Ct prog 310 #[v] e R (fun v' L'=>∃ ad c,v'=.slice ad l.length c∧L'=fT (.slice ad l.length c) l::R):=by
 refine a7 (jl.jW h1) fun ho=>?_
 refine a7 (h.shape zo) ?_;rintro ⟨⟨ad,cap,rfl,h3,h4,h5,h6⟩,_⟩;refine a8 (args:=[_]) func310 rfl ntmps310 results310 rfl ?_
 cases ad with
 | none =>
  have u7:l=[]:=by
   have:=h5 rfl;exact List.eq_nil_of_length_eq_zero zo
  subst u7;refine wB ?_;exact aY _ rfl (du _ _) ⟨_,_,rfl,rfl⟩
 | some a =>
  (repeat (refine wA ?_;intros))
  refine O.fo (hF (n:=4) (k:=0) (cap:=0) zo zl rfl) ?_;refine bC (bo rfl rfl rfl .zero h rfl rfl ho zm zo fun lL c' lV=>?_)
  refine wB ?_;refine aY _ rfl ?_ ⟨lL,c',by simp [AP],rfl⟩;simp only [aC];exact aX
theorem Fh (g:Nat) (p:jH) (retry n:Nat) (s:cP) (w:Nat) (vp vq:Value) (x:kN) (hx:fL R vp vq x.sig) (hw:x.fY=w) (hr:x.sig.right) (hh:s.rR w) :
 Ct prog 291 #[pt g,.int .i64 (w:Int),.agg (iA x vp vq).toArray] e (lf g p retry n s::R) (fun v' L'=>v'=.tuple #[]∧L'=lf g p retry n (s.gC p w x)::R):=by
 refine vL fun a M ha=>?_
 have Fa:=ha.pr.fE;have mR:cz (pq g p retry s a M R) R:=zE;refine a7 (hx.cL mR).parts.one fun o6=>?_
 refine a7 (hx.cL mR).path.one fun o7=>?_
 have HA:cz (pq g p retry s a M R) [M]:=cG zP;refine a7 (cn (ha.cur.root.cL HA)) fun Nb=>?_
 refine a7 (ha.cur.sig.cL HA).parts.one fun VY=>?_
 refine a7 (ha.cur.sig.cL HA).path.one fun XB=>?_
 refine a7 (pw (show cQ (pq g p retry s a M R) (lc (.slice a.al s.st.length a.cl) s.st) _ from zP)) ?_;rintro ⟨lL,c',lV,F4,TR,AV⟩
 cases lV
 have hlen:=ha.st.len;have C4:=hh.2.1;rcases AV with ⟨-,-,AV⟩|⟨gs,rL⟩
 ·omega
 have Pt:w<p.ew.length:=by omega
 have pS:=cP.E5 ha.st Pt hw hr hh.2.2;have Of:a.ts.length=s.kept.length:=by have:=congrArg List.length ha.Ud;rwa [ab] at this
 have Sp:=ha.st.DD;have pM:∀ y∈s.ag,y.fits:=fun y hy=>(ha.st.fits y hy).1
 have V9:=ha.st.BG;have aa3:x.fY<4294967296:=by omega
 dsimp only [pq,eL.cells];rw [rL];refine a8 (args:=[_,_,_]) func291 rfl ntmps291 results291 rfl ?_
 (repeat (refine wA ?_;intros))
 rename_i g5;refine bk (id:=2) [9,10,11] (cK g5 (iA x vp vq) nE (0,0)::cK g (eL.cells { a with al:=some ⟨gs,0,none⟩ } p retry s) sY (0,0)::R) mixed ?_
 (refine tM 0 ?_;refine tM 1 ?_;refine tN 2 ?_;refine tF 3 ?_;refine tL 4 ?_;refine tJ 5 ?_)
 refine tO 6 ?_;refine bg rfl rfl (oX _ e vp vq x (hx.cL zE) hr.fits) ?_;rintro _ _ ⟨N,wp,wq,rfl,hN,rfl⟩;refine ⟨fun _=>zE,?_⟩;refine A.cB (hN.cL (cG zP)).parts.one fun o8=>?_
 refine A.cB (hN.cL (cG zP)).path.one fun o9=>?_
 refine tO 7 ?_;refine bE (n:=4) (cs:=iA x wp wq) rfl rfl rfl rfl zQ rfl (fun gb=>⟨fun _=>zE,?_⟩);refine tO 8 ?_;refine bo rfl rfl rfl (show cQ _ (fT (.slice a.ak a.ts.length a.ck) a.ts) _ from zP) (bO (n:=4) (c:=1) zP rfl zl) rfl rfl zO zm zo fun ef k1 _=>⟨fun _=>zE,?_⟩
 refine tO 9 ?_;refine dV (bm rfl) ?_;refine tO 10 ?_;refine dV (ba rfl) ?_;refine tO 11 ?_;refine tg ?_;refine ⟨zN,?_⟩;refine bf zK ?_
 have jL:((s.st.flatMap FW.cells).set (0+w*3+2) (.bool true)).set (0+w*3+0) (.int .i64 (s.dT.dc.size:Int))=(s.gU w x).st.flatMap FW.cells:=by
  rw [aC,I1 C4,I0 (by rw [List.length_set];exact C4),List.set_set]
  show _=(s.st.set w _).flatMap FW.cells
  congr 2
  rw [np (by rw [List.length_set];exact C4),List.getElem_set_self]
 have SE:(s.gU w x).st.length=s.st.length:=List.length_set;refine wB ?_;rw [jL];refine aZ rfl rfl (Ct.at zP (uC _ e a.ga s.ord s.ag w pM zo)) ?_;rintro _ _ ⟨⟨z,rfl⟩,rfl⟩;refine wB ?_;have eT:cz [dH [M,N]] [M]:=cj (cT (M:=[_,_]) (L:=[])) (bh bF);have iH:cz [dH [M,N]] [N]:=cj (cT (M:=[_,_]) (L:=[])) (cz.drop (bh bF))
 have zq:eL.ok { a with ak:=ef,ck:=k1,ts:=a.ts++[(x,wp,wq)] } (dH [M,N]) p retry n (s.gU w x) :=
  ⟨ha.wU.cL eT,ha.cur.cL eT,by dsimp only;rw [ah,ha.Ud];rfl,fun t ht=>by
   rcases aJ.1 ht with ht|ht
   ·exact (ha.QY t ht).cL eT
   ·rw [an.1 ht];exact ⟨hN.cL iH,aa3⟩,ha.done.cL eT,ha.dk.cL eT,pS,ha.pr,ha.low,ha.high⟩
 have aa4:(a.ts++[(x,wp,wq)]).length=a.ts.length+1:=by simp
 obtain ⟨C,hC⟩:∃ C:List Value,C=eL.cells { a with ak:=ef,ck:=k1,ts:=a.ts++[(x,wp,wq)] } p retry (s.gU w x):=⟨_,rfl⟩
 obtain ⟨L1,Wd⟩:∃ L1:List cJ,L1=cK g C sY (0,0)::dH [M,N]::lc (.slice a.al (s.gU w x).st.length a.cl) (s.gU w x).st::fT (.slice ef (a.ts++[(x,wp,wq)]).length k1) (a.ts++[(x,wp,wq)])::sH a.ga (s.gU w x).ord (s.gU w x).ag::R:=⟨_,rfl⟩
 refine W.gC [(0,pt g)] zS ?_;refine W.fo (L':=L1) ?_ ?_
 ·rw [Wd,hC];dsimp only [eL.cells,lc,fT];rw [SE,rL,aa4];simp only [aW,aU,List.flatMap_nil,aK];exact cj (ep (A:=M) (B:=N) zP zP) zE
 clear jL;have hl5:∀ (L R':List cJ),cQ L (cK g C sY (0,0)) R'→dZ L g (0+6) (dS s.dT a.ur a.up a.uq):=fun L R' pl=>(bU pl).part 6 5 |> fun h=>by rw [hC] at h;exact h
 have hl9:∀ (L R':List cJ),cQ L (cK g C sY (0,0)) R'→Rd L ⟨g,0+12,none⟩ (.slice ef (a.ts++[(x,wp,wq)]).length k1):=fun L R' pl=>by rw [aC];exact bP pl (by rw [hC];rfl)
 have ry:∀ (L R':List cJ),cQ L (cK g C sY (0,0)) R'→Rd L ⟨g,0+0+2,none⟩ (.int .i64 (p.ey:Int)):=fun L R' pl=>bP pl (by rw [hC];rfl)
 have aa5:=hl9 (cK g C sY (0,0)::dH [M,N]::lc (.slice a.al (s.gU w x).st.length a.cl) (s.gU w x).st::fT (.slice ef (a.ts++[(x,wp,wq)]).length k1) (a.ts++[(x,wp,wq)])::sH a.ga (s.gU w x).ord (s.gU w x).ag::R) _ .zero;have aa6:=ry (cK g C sY (0,0)::dH [M,N]::lc (.slice a.al (s.gU w x).st.length a.cl) (s.gU w x).st::fT (.slice ef (a.ts++[(x,wp,wq)]).length k1) (a.ts++[(x,wp,wq)])::sH a.ga (s.gU w x).ord (s.gU w x).ag::R) _ .zero;have QP:(s.kept++[x]).length=(a.ts++[(x,wp,wq)]).length:=by simp [Of]
 rw [Wd]
 by_cases hq:p.ey≤(s.kept++[x]).length
 rotate_left
 ·have hS:s.gC p w x=s.gU w x:=by unfold cP.gC;rw [aB hq]
  rw [hS];rw [QP] at hq
  refine bz (id:=5) [] mixed ?_
  (refine tM 0 ?_;refine tN 1 ?_;refine tF 2 ?_;refine tL 3 ?_;refine tk 4 _ rfl (bM rfl) ?_;refine tM 5 ?_;refine tN 6 ?_;refine tF 7 ?_;refine tF 8 ?_;refine tL 9 ?_;refine tk 10 (.bool false) rfl (cD.no (bR rfl rfl) zn) ?_)
  refine bf zK ?_;refine wB ?_;refine bT (lf g p retry n (s.gU w x)::R) rfl (cj ?_ (lY zq)) ⟨rfl,rfl⟩;rw [hC];exact zE
 have hS:s.gC p w x={ s.gU w x with done:=s.dT,dk:=s.kept++[x] }:=by unfold cP.gC;rw [aI hq]
 have er:=cP.IX (p:=p) ha.st Pt hw hr hh;rw [hS] at er ⊢
 rw [QP] at hq
 refine bz (id:=5) [] mixed ?_
 (refine tM 0 ?_;refine tN 1 ?_;refine tF 2 ?_;refine tL 3 ?_;refine tk 4 _ rfl (bM rfl) ?_;refine tM 5 ?_;refine tN 6 ?_;refine tF 7 ?_;refine tF 8 ?_;refine tL 9 ?_;refine tk 10 (.bool true) rfl (cD.iP (bR rfl rfl) zy) ?_)
 refine bf zK ?_;refine wB ?_;have SF:∀ (L R':List cJ),cQ L (cK g (eL.cells { a with ak:=ef,ck:=k1,ts:=a.ts++[(x,wp,wq)] } p retry (s.gU w x)) sY (0,0)) R'→dZ L g (0+6) (dS s.dT a.ur a.up a.uq):=fun L R' pl=>(bU pl).part 6 5
 have We:∀ (L R':List cJ),cQ L (cK g (eL.cells { a with ak:=ef,ck:=k1,ts:=a.ts++[(x,wp,wq)] } p retry (s.gU w x)) sY (0,0)) R'→Rd L ⟨g,0+12,none⟩ (.slice ef (a.ts++[(x,wp,wq)]).length k1):=fun L R' pl=>by rw [aC];exact bP pl rfl
 have SG:∀ (HY:Option Addr) (ce:Nat),eL.ok { a with ak:=ef,ck:=k1,ts:=a.ts++[(x,wp,wq)],dr:=a.ur,dp:=a.up,dq:=a.uq,ve:=.slice HY (a.ts++[(x,wp,wq)]).length ce } (dH [dH [M,N],fT (.slice HY (a.ts++[(x,wp,wq)]).length ce) (a.ts++[(x,wp,wq)])]) p retry n { s.gU w x with done:=s.dT,dk:=s.kept++[x] }:=fun HY ce=>by
  have Eu:cz [dH [dH [M,N],fT (.slice HY (a.ts++[(x,wp,wq)]).length ce) (a.ts++[(x,wp,wq)])]] [dH [M,N]]:=cj (cT (M:=[_,_]) (L:=[])) (bh bF);have O0:cz [dH [dH [M,N],fT (.slice HY (a.ts++[(x,wp,wq)]).length ce) (a.ts++[(x,wp,wq)])]] [fT (.slice HY (a.ts++[(x,wp,wq)]).length ce) (a.ts++[(x,wp,wq)])]:=cj (cT (M:=[_,_]) (L:=[])) (cz.drop (bh bF));exact ⟨zq.wU.cL Eu,zq.cur.cL Eu,zq.Ud,fun t ht=>(zq.QY t ht).cL Eu,zq.cur.cL Eu,⟨_,zq.Ud,cE.cL (bb .zero) O0,fun t ht=>(zq.QY t ht).cL Eu⟩,er,ha.pr,ha.low,ha.high⟩
 rw [hC];clear hl5 hl9 ry aa5 aa6 Wd hC;have he1:a.ts.length+1≤100:=by omega
 refine bk (id:=6) [14,15,16] R mixed ?_
 (refine tM 0 ?_;refine tM 1 ?_;refine tM 2 ?_;refine tN 3 ?_;refine tF 4 ?_)
 (refine tM 6 ?_;refine tN 7 ?_;refine tF 8 ?_)
 refine A.two 5 9 rfl rfl rfl rfl zK ?_ ?_
 ·refine bN (cD.dy rfl (SF _ _ zP) rfl) rfl ⟨fun _=>zE,?_⟩;refine tO 9 ?_;refine bN (bp rfl (We _ _ zP)) rfl ⟨fun _=>zE,?_⟩;refine tO 10 ?_;refine bg rfl rfl (qF _ e (.slice ef (a.ts++[(x,wp,wq)]).length k1) (a.ts++[(x,wp,wq)]) (bb zP) (fun t ht=>(zq.QY t ht).cL (cG zP)) zo) ?_;rintro _ _ ⟨HY,ce,rfl,rfl⟩;refine ⟨fun _=>zE,?_⟩;refine tN 11 ?_;refine tF 12 ?_;refine tO 13 ?_;refine zg ?_;refine ⟨fun _=>zE,?_⟩;refine tO 14 ?_;refine dV (bm rfl) ?_;refine tO 15 ?_;refine dV (ba rfl) ?_;refine tO 16 ?_;refine tg ?_;refine ⟨zN,?_⟩;refine bf zK ?_;refine bT (lf g p retry n { s.gU w x with done:=s.dT,dk:=s.kept++[x] }::R) rfl (cj ?_ (lY (SG HY ce))) ⟨rfl,rfl⟩;exact cj (ep (A:=dH [M,N]) (B:=fT (.slice HY (a.ts++[(x,wp,wq)]).length ce) (a.ts++[(x,wp,wq)])) zP zP) zE
 ·refine bN (bp rfl (We _ _ zP)) rfl ⟨fun _=>zE,?_⟩;refine A.two 5 10 rfl rfl rfl rfl zK ?_ ?_
  ·refine bN (cD.dy rfl (SF _ _ zP) rfl) rfl ⟨fun _=>zE,?_⟩;refine tO 10 ?_;refine bg rfl rfl (qF _ e (.slice ef (a.ts++[(x,wp,wq)]).length k1) (a.ts++[(x,wp,wq)]) (bb zP) (fun t ht=>(zq.QY t ht).cL (cG zP)) zo) ?_;rintro _ _ ⟨HY,ce,rfl,rfl⟩;refine ⟨fun _=>zE,?_⟩;refine tN 11 ?_;refine tF 12 ?_;refine tO 13 ?_;refine zg ?_;refine ⟨fun _=>zE,?_⟩;refine tO 14 ?_;refine dV (bm rfl) ?_;refine tO 15 ?_;refine dV (ba rfl) ?_;refine tO 16 ?_;refine tg ?_;refine ⟨zN,?_⟩;refine bf zK ?_;refine bT (lf g p retry n { s.gU w x with done:=s.dT,dk:=s.kept++[x] }::R) rfl (cj ?_ (lY (SG HY ce))) ⟨rfl,rfl⟩;exact cj (ep (A:=dH [M,N]) (B:=fT (.slice HY (a.ts++[(x,wp,wq)]).length ce) (a.ts++[(x,wp,wq)])) zP zP) zE
  ·refine bg rfl rfl (qF _ e (.slice ef (a.ts++[(x,wp,wq)]).length k1) (a.ts++[(x,wp,wq)]) (bb zP) (fun t ht=>(zq.QY t ht).cL (cG zP)) zo) ?_;rintro _ _ ⟨HY,ce,rfl,rfl⟩;refine ⟨fun _=>zE,?_⟩;refine tO 5 ?_;refine bN (cD.dy rfl (SF _ _ zP) rfl) rfl ⟨fun _=>zE,?_⟩;refine tN 11 ?_;refine tF 12 ?_;refine tO 13 ?_;refine zg ?_;refine ⟨fun _=>zE,?_⟩;refine tO 14 ?_;refine dV (bm rfl) ?_;refine tO 15 ?_;refine dV (ba rfl) ?_;refine tO 16 ?_;refine tg ?_;refine ⟨zN,?_⟩;refine bf zK ?_;refine bT (lf g p retry n { s.gU w x with done:=s.dT,dk:=s.kept++[x] }::R) rfl (cj ?_ (lY (SG HY ce))) ⟨rfl,rfl⟩;exact cj (ep (A:=dH [M,N]) (B:=fT (.slice HY (a.ts++[(x,wp,wq)]).length ce) (a.ts++[(x,wp,wq)])) zP zP) zE
theorem I2 {g:Nat} {p:jH} {retry n m:Nat} {s:cP} {R:List cJ} (h:n≤m):cz (lf g p retry n s::R) (lf g p retry m s::R) :=
 jF fun a=>jF fun M=>cj (cT (M:=Pu (a.ok M p retry n s)::pq g p retry s a M []) (L:=R)) (rZ fun h2=>lY (h2.mono h))
theorem uE (g:Nat) (p:jH) (retry n:Nat) (s:cP) (w:Nat) (vp vq:Value) (x:kN) (size now:Nat) (hx:fL R vp vq x.sig) (hxw:x.fY≤1000000) (hw:w≤1000000) (lm:size≤4294967296) (ht:now≤10000000) (hn:n≤999000) :
 Ct prog 254 #[pt g,.int .i64 (w:Int),.agg (iA x vp vq).toArray,.int .i64 (size:Int),.int .i64 (now:Int)] e (lf g p retry n s::R) (fun v' L'=>v'=.bool (s.Aw p w x size)∧L'=lf g p retry (n+1) (s.oc p w x size now)::R):=by
 refine vL fun a M ha=>?_
 have Fa:=ha.pr.fE;have mR:cz (pq g p retry s a M R) R:=zE;refine a7 (hx.cL mR).parts.one fun o6=>?_
 refine a7 (hx.cL mR).path.one fun o7=>?_
 have HA:cz (pq g p retry s a M R) [M]:=cG zP;refine a7 (cn (ha.cur.root.cL HA)) fun Nb=>?_
 refine a7 (cn (ha.wU.log.cL HA)) fun VY=>?_
 refine a7 (ha.wU.ew.cL HA).one fun XB=>?_
 refine a7 (pw (show cQ (pq g p retry s a M R) (lc (.slice a.al s.st.length a.cl) s.st) _ from zP)) ?_;rintro ⟨lL,c',lV,F4,TR,AV⟩
 cases lV
 have hlen:=ha.st.len;have gB:=lY (R:=R) (g:=g) (ha.mono (m:=n+1) zo);have lU:¬ s.rR w→s.Aw p w x size=false∧s.oc p w x size now=s:=fun h=>⟨by unfold cP.Aw;rw [aq (fun q=>h q.1)],by unfold cP.oc;rw [aI h]⟩
 refine a8 (args:=[_,_,_,_,_]) func254 rfl ntmps254 results254 rfl ?_
 by_cases BL:s.cur.isSome=true
 rotate_left
 ·obtain ⟨hB,hS⟩:=lU (fun h=>BL h.1);have hsf:s.cur.isSome=false:=by simpa using BL
  rw [hB,hS];dsimp only [pq,eL.cells] at gB ⊢
  rw [hsf] at gB ⊢
  (repeat (refine wA ?_;intros))
  exact aY (lf g p retry (n+1) s::R) rfl (cj zE gB) ⟨rfl,rfl⟩
 by_cases C4:w<s.st.length
 rotate_left
 ·obtain ⟨hB,hS⟩:=lU (fun h=>C4 h.2.1);rw [hB,hS];dsimp only [pq,eL.cells] at gB ⊢
  rw [BL] at gB ⊢
  (repeat (refine wA ?_;intros))
  exact aY (lf g p retry (n+1) s::R) rfl (cj zE gB) ⟨rfl,rfl⟩
 rcases AV with ⟨-,-,AV⟩|⟨gs,rL⟩
 ·omega
 have th:=np C4
 have OM:∀ (L R':List cJ),cQ L (lc (.slice (some ⟨gs,0,none⟩) s.st.length a.cl) s.st) R'→Rd L ⟨gs,0+w*3+2,none⟩ (.bool (s.st.getD w lq).kept):=fun L R' pl=>by
  have:=dZ.elem (bb pl) SA (ae C4);rw [th];exact this.Ov (k:=2) rfl
 have Xj:∀ (L R':List cJ),cQ L (lc (.slice (some ⟨gs,0,none⟩) s.st.length a.cl) s.st) R'→Rd L ⟨gs,0+w*3+0,none⟩ (.int .i64 ((s.st.getD w lq).size:Int)):=fun L R' pl=>by
  have:=dZ.elem (bb pl) SA (ae C4);rw [th];exact this.Ov (k:=0) rfl
 by_cases Pj:(s.st.getD w lq).kept=true
 ·obtain ⟨hB,hS⟩:=lU (fun h=>by have h2:=h.2.2;rw [Pj] at h2;cases h2);rw [hB,hS];rw [Pj] at OM
  dsimp only [pq,eL.cells] at gB ⊢
  rw [BL,rL] at gB ⊢
  (repeat' first|(refine bV rfl (OM _ _ zP) rfl ?_)|refine Za ?_|refine Zb ?_|apply Zc|apply Zd|apply Ze|apply Zf|refine Zg ?_|refine Zh ?_|refine Zi ?_|refine Zk ?_|refine Zm ?_|refine Zn ?_|refine Zy ?_|refine ZB ?_|refine ZK ?_|refine Yg fun _=>?_|refine Yx ?_|refine Yz ?_|apply YE|apply YF)
  exact aY (lf g p retry (n+1) s::R) rfl (cj zE gB) ⟨rfl,rfl⟩
 have Sp:(s.st.getD w lq).kept=false:=by simpa using Pj
 have hh:s.rR w:=⟨BL,C4,Sp⟩
 have Pt:w<p.ew.length:=by omega
 obtain ⟨c,hc⟩:=Option.isSome_iff_exists.1 BL;have IY:s.dT=c:=by unfold cP.dT;rw [hc];rfl
 have Xr:=ha.st.cur c hc;have Gc:s.dT.dc.right:=by rw [IY];exact Xr.1
 rw [Sp] at OM
 dsimp only [pq,eL.cells] at gB ⊢
 rw [BL,rL] at gB ⊢
 (repeat' first|refine W.u2 (id:=6) (fun _:Unit=>[(0,pt g),(1,.int .i64 (w:Int)),(3,.int .i64 (size:Int)),(4,.int .i64 (now:Int))]) (fun _=>cK g ([a.vl,a.vw,.int .i64 (p.ey:Int),.int .i64 (retry:Int),pt a.ga,.slice (some ⟨gs,0,none⟩) s.st.length a.cl]++dS s.dT a.ur a.up a.uq++[.bool true,.slice a.ak a.ts.length a.ck]++dS s.done a.dr a.dp a.dq++[a.ve]) sY (0,0)::M::lc (.slice (some ⟨gs,0,none⟩) s.st.length a.cl) s.st::fT (.slice a.ak a.ts.length a.ck) a.ts::sH a.ga s.ord s.ag::R) (fun _=>¬ s.wR p w x) ?_ ?_|(refine bV rfl (OM _ _ zP) rfl ?_)|refine Za ?_|refine Zb ?_|apply Zc|apply Zd|apply Ze|apply Zf|refine Zg ?_|refine Zh ?_|refine Zi ?_|refine Zk ?_|refine Zm ?_|refine Zn ?_|refine Zy ?_|refine ZB ?_|refine ZK ?_|refine Yg fun _=>?_|refine Yx ?_|refine YA ?_|apply YC)
 rotate_left
 ·refine ⟨?_⟩;rename_i g7
  (repeat (refine wA ?_;intros))
  refine bz (id:=3) [] mixed ?_
  have Wd:cz (cK g7 (iA x vp vq) nE (0,0)::cK g ([a.vl,a.vw,.int .i64 (p.ey:Int),.int .i64 (retry:Int),pt a.ga,.slice (some ⟨gs,0,none⟩) s.st.length a.cl]++dS s.dT a.ur a.up a.uq++[.bool true,.slice a.ak a.ts.length a.ck]++dS s.done a.dr a.dp a.dq++[a.ve]) sY (0,0)::M::lc (.slice (some ⟨gs,0,none⟩) s.st.length a.cl) s.st::fT (.slice a.ak a.ts.length a.ck) a.ts::sH a.ga s.ord s.ag::R) (lf g p retry n s::R):=by
   refine cj ?_ (lY ha);dsimp only [pq,eL.cells];rw [BL,rL];exact zE
  by_cases ft:s.wR p w x
  ·have hB:s.Aw p w x size=true:=by unfold cP.Aw;exact ay ⟨hh,.inl ft⟩
   have hS:s.oc p w x size now=s.gC p w x:=by unfold cP.oc;rw [aB (fun q=>q hh),aI ft]
   rw [hB,hS];have hxe:=ft.1
   (refine tF 0 ?_;refine tL 1 ?_;refine tM 2 ?_;refine tk 3 (.bool true) rfl (cD.iP (bW rfl rfl) zy) ?_;refine tM 4 ?_;refine dt 5 _ rfl (bu rfl) ?_;refine dt 6 _ rfl (bm rfl) ?_;refine dt 7 _ rfl (ba rfl) ?_;refine dt 8 _ rfl (cD.dg rfl zP zI zX) ?_;refine dt 9 _ rfl (bu rfl) ?_;refine dt 10 _ rfl (bm rfl) ?_;refine dt 11 _ rfl (ba rfl) ?_;refine dt 12 _ rfl (ba rfl) ?_;refine dt 13 _ rfl (cD.dg rfl zP zI zX) ?_;refine dt 14 _ rfl (cD.dy rfl zA zX) ?_)
   refine A.ru 15 rfl rfl zK ?_;refine bg rfl rfl (mb _ e a.vl a.vw a.ur vp vq p s.dT.dc x (ha.wU.cL (cG zP)) ha.pr (ha.cur.root.cL (cG zP)) Gc (hx.cL zE)) ?_;rintro _ _ ⟨rfl,rfl⟩;refine ⟨fun _=>zE,A.fR zE ?_⟩;rw [ay ft.2]
   (refine tk 16 _ rfl (bK rfl rfl) ?_)
   refine bf zK ?_;refine wB ?_;refine aZ rfl rfl (Ct.cL (Fh R e g p retry n s w vp vq x hx ft.1 ft.2.2.1 hh) Wd) ?_;rintro _ _ ⟨rfl,rfl⟩;refine wB ?_;refine aY (lf g p retry (n+1) (s.gC p w x)::R) rfl (I2 zo) ⟨rfl,rfl⟩
  by_cases aa8:x.fY=w
  ·have hnv:¬ x.ii p s.dT.dc:=fun h=>ft ⟨aa8,h⟩
   (refine tF 0 ?_;refine tL 1 ?_;refine tM 2 ?_;refine tk 3 (.bool true) rfl (cD.iP (bW rfl rfl) zy) ?_;refine tM 4 ?_;refine dt 5 _ rfl (bu rfl) ?_;refine dt 6 _ rfl (bm rfl) ?_;refine dt 7 _ rfl (ba rfl) ?_;refine dt 8 _ rfl (cD.dg rfl zP zI zX) ?_;refine dt 9 _ rfl (bu rfl) ?_;refine dt 10 _ rfl (bm rfl) ?_;refine dt 11 _ rfl (ba rfl) ?_;refine dt 12 _ rfl (ba rfl) ?_;refine dt 13 _ rfl (cD.dg rfl zP zI zX) ?_;refine dt 14 _ rfl (cD.dy rfl zA zX) ?_)
   refine A.ru 15 rfl rfl zK ?_;refine bg rfl rfl (mb _ e a.vl a.vw a.ur vp vq p s.dT.dc x (ha.wU.cL (cG zP)) ha.pr (ha.cur.root.cL (cG zP)) Gc (hx.cL zE)) ?_;rintro _ _ ⟨rfl,rfl⟩;refine ⟨fun _=>zE,A.fR zE ?_⟩;rw [aq hnv]
   (refine tk 16 _ rfl (bK rfl rfl) ?_)
   refine bf zK ?_;refine wB ?_;exact bJ () ft zS zE
  ·(refine tF 0 ?_;refine tL 1 ?_;refine tM 2 ?_;refine tk 3 (.bool false) rfl (cD.no (bW rfl rfl) zn) ?_;refine tM 4 ?_;refine bc 5 rfl rfl zK zE rfl ?_;refine bc 6 rfl rfl zK zE rfl ?_;refine bc 7 rfl rfl zK zE rfl ?_;refine bc 8 rfl rfl zK zE rfl ?_;refine bc 9 rfl rfl zK zE rfl ?_;refine bc 10 rfl rfl zK zE rfl ?_;refine bc 11 rfl rfl zK zE rfl ?_;refine bc 12 rfl rfl zK zE rfl ?_;refine bc 13 rfl rfl zK zE rfl ?_;refine bc 14 rfl rfl zK zE rfl ?_)
   refine bc 15 rfl rfl zK zE rfl ?_
   (refine tk 16 _ rfl (bI rfl rfl) ?_)
   refine bf zK ?_;refine wB ?_;exact bJ () ft zS zE
 rintro _ ft;have hgo:s.Aw p w x size=decide (s.turns w size):=by unfold cP.Aw;exact decide_eq_decide.2 ⟨fun h=>h.2.resolve_left ft,fun h=>⟨hh,.inr h⟩⟩
 have vK:s.oc p w x size now=if s.turns w size then s.Av w size now else s:=by unfold cP.oc;rw [aB (fun q=>q hh),aB ft]
 rw [hgo,vK];have jL:=fun n=>I0 C4 n
 have tI:(s.st.set w { s.st.getD w lq with size:=size }).length=s.st.length:=List.length_set;have pM:∀ y∈s.ag,y.fits:=fun y hy=>(ha.st.fits y hy).1
 have V9:=ha.st.BG;have Wa:=ha.st.ord;obtain ⟨z,hz⟩:∃ z,z=(s.st.getD w lq).size:=⟨_,rfl⟩
 rw [← hz] at Xj
 have Sq:s.turns w size↔size≤s.dT.dc.size∧size≠z:=by unfold cP.turns;rw [hz]
 clear OM;have afp:=Xj (lc (.slice (some ⟨gs,0,none⟩) s.st.length a.cl) s.st::fT (.slice a.ak a.ts.length a.ck) a.ts::sH a.ga s.ord s.ag::R) _ .zero
 by_cases Nh:s.turns w size
 rotate_left
 ·rw [aq Nh,aB Nh];have V7:¬ (size≤s.dT.dc.size∧size≠z):=fun q=>Nh (Sq.2 q)
  by_cases hle:size≤s.dT.dc.size
  ·have hze:size=z:=Decidable.not_not.1 fun q=>V7 ⟨hle,q⟩
   refine wB ?_;exact aY (lf g p retry (n+1) s::R) rfl (cj zE gB) ⟨rfl,rfl⟩
  ·refine wB ?_;exact aY (lf g p retry (n+1) s::R) rfl (cj zE gB) ⟨rfl,rfl⟩
 rw [ay Nh,aI Nh];obtain ⟨Oe,ht2⟩:=Sq.1 Nh;have aa9:=cP.IZ (now:=now) ha.st Pt Oe zo zo zo;have Ng:eL.ok a M p retry (n+1) (s.Av w size now):=⟨ha.wU,ha.cur,ha.Ud,ha.QY,ha.done,ha.dk,aa9,ha.pr,ha.low,ha.high⟩
 have Wf:=jL size;refine wB ?_;refine aZ rfl rfl (Ct.at zP (sI _ e g a.ga s.ord now w s.ag zR pM zo zo zo zo)) ?_;rintro _ _ ⟨rfl,rfl⟩;refine wB ?_
 have aba:(s.st.flatMap FW.cells).set (0+w*3+0) (.int .i64 (size:Int))=(s.Av w size now).st.flatMap FW.cells:=by
  rw [aC,Wf];rfl
 have SE:(s.Av w size now).st.length=s.st.length:=List.length_set;have abb:(s.Av w size now).dT=s.dT:=rfl;have abc:(s.Av w size now).cur=s.cur:=rfl;rw [aba];refine aY (lf g p retry (n+1) (s.Av w size now)::R) rfl (cj ?_ (lY Ng)) ⟨rfl,rfl⟩;dsimp only [pq,eL.cells,lc];rw [abb,abc,BL,SE,rL];exact zE
end Go.Proofs
namespace Go.Bs
theorem dZ.cL {L L':List cJ} {g o:Nat} {cs:List Value} (h:dZ L' g o cs) (f:cz L L'):dZ L g o cs:=fun j u hj=>(h j u hj).cL f
end Go.Bs
namespace Go.Proofs
open Go.Bs
attribute [local irreducible] Bs.cD Bs.Do Bs.O Bs.W Bs.Fin Bs.A Bs.Ct Bs.cE Bs.Rd Bs.Sat Bs.cK Bs.Ob Bs.dJ Bs.View Bs.cz Bs.Ex Bs.dH Bs.Pu Bs.eY Bs.dM Bs.dZ
theorem KT:vH.sig.fits:=⟨fun x hx=>absurd hx aP,fun x hx=>absurd hx aP⟩
theorem cP.ok.abd {s:cP} {k n:Nat} (h:s.ok k n):s.dT.sig.fits:=by
 unfold cP.dT
 cases hc:s.cur with
 | none=>exact KT
 | some c=>exact (h.cur c hc).2.fits
abbrev rE:TypeId:=87
abbrev I3:List Value:=dS vH nY nY nY
theorem HZ (R:List cJ) (e:World) (g:Nat) (p:jH) (retry n:Nat) (s:cP) :
 Ct Tryz.prog 175 #[pt g] e (lf g p retry n s::R) (fun v' L'=>∃ (N:cJ) (ur up uq:Value),v'=.tuple #[.agg (dS s.dT ur up uq).toArray,.bool s.cur.isSome]∧fj [N] ur up uq s.dT∧L'=N::lf g p retry n s::R):=by
 refine vL fun a M ha=>?_
 refine bH (args:=[_]) Tryz.func175 rfl Tryz.ntmps175 Tryz.results175 rfl ?_
 (repeat (refine wA ?_;intros))
 rename_i g2;refine bk (id:=1) [10] (pq g p retry s a M R) Tryz.mixed ?_
 (refine tM 0 ?_;refine tN 1 ?_;refine tF 2 ?_;refine tk 3 _ rfl (cD.dg rfl zP zI zX) ?_;refine tM 5 ?_;refine tN 6 ?_;refine tF 7 ?_;refine tL 8 ?_)
 refine tO 4 ?_;refine bg rfl rfl (gR _ e a.ur a.up a.uq s.dT (ha.cur.cL (cG zP)) ha.st.abd) ?_;rintro _ _ ⟨N,ur,up,uq,rfl,hN,rfl⟩;refine ⟨fun _=>zE,?_⟩;refine A.cB (cn (hN.root.cL (cG zP))) fun o8=>?_
 refine A.cB (hN.sig.cL (cG zP)).parts.one fun o9=>?_
 refine A.cB (hN.sig.cL (cG zP)).path.one fun Nb=>?_
 refine tO 9 ?_;refine zg ?_;refine ⟨fun _=>zE,?_⟩
 ((refine tO 10 ?_;refine dV (bj rfl) ?_))
 refine bf zK ?_;refine wB ?_;apply br
 ·exact zV
 exact ⟨N::lf g p retry n s::R,cj (show cz _ (N::pq g p retry s a M R) from zE) (bh (lY ha)),N,ur,up,uq,rfl,hN,rfl⟩
theorem Fi (R:List cJ) (e:World) (g:Nat) (p:jH) (retry n:Nat) (s:cP) :
 Ct Tryz.prog 182 #[pt g] e (lf g p retry n s::R) (fun v' L'=>(s.dk=[]→v'=.tuple #[.agg I3.toArray,nY,.bool false]∧L'=lf g p retry n s::R)∧(s.dk≠[]→∃ (N:cJ) (ur up uq vg:Value),v'=.tuple #[.agg (dS s.done ur up uq).toArray,vg,.bool true]∧fj [N] ur up uq s.done∧oW [N] vg s.dk∧L'=N::lf g p retry n s::R)):=by
 refine vL fun a M ha=>?_
 have Fa:=ha.pr.fE;have VA:=ha.st.KG;obtain ⟨ts,fy,Uc,J6⟩:=ha.dk;have oF:ts.length=s.dk.length:=by rw [← fy,ab]
 refine a7 ((Uc.cL (show cz (pq g p retry s a M R) [M] from cG zP)).shape zo) ?_;rintro ⟨⟨DE,cg,OZ,h3,h4,h5,h6⟩,_⟩;simp only [maxLen] at h4
 rw [OZ] at Uc
 have xM:pq g p retry s a M R=cK g (lE p a.vl a.vw++[.int .i64 (retry:Int),pt a.ga,.slice a.al s.st.length a.cl]++dS s.dT a.ur a.up a.uq++[.bool s.cur.isSome,.slice a.ak a.ts.length a.ck]++dS s.done a.dr a.dp a.dq++[.slice DE ts.length cg]) sY (0,0)::M::lc (.slice a.al s.st.length a.cl) s.st::fT (.slice a.ak a.ts.length a.ck) a.ts::sH a.ga s.ord s.ag::R:=by
  dsimp only [pq,eL.cells];rw [OZ]
 have gB:=lY (R:=R) (g:=g) ha;rw [xM] at gB ⊢
 refine bH (args:=[_]) Tryz.func182 rfl Tryz.ntmps182 Tryz.results182 rfl ?_
 by_cases he:s.dk=[]
 ·have u7:ts.length=0:=by rw [oF,he];rfl
  rw [u7] at gB ⊢
  (repeat (refine wA ?_;intros))
  apply br
  ·exact zV
  exact ⟨lf g p retry n s::R,cj zE gB,fun _=>⟨rfl,rfl⟩,fun h=>absurd he h⟩
 have qh:0<ts.length:=by rw [oF];exact List.length_pos_iff.2 he
 (repeat (refine wA ?_;intros))
 rename_i g2;refine bq (ι:=Nat × List jl × cJ × Option Addr × Nat) (fun j=>[(0,pt g),(2,pt g2),(5,.slice j.2.2.2.1 j.2.1.length j.2.2.2.2),(18,.slice DE ts.length cg),(19,.int .i64 (ts.length:Int)),(20,.int .i64 (j.1:Int))]) (fun j=>fT (.slice j.2.2.2.1 j.2.1.length j.2.2.2.2) j.2.1::j.2.2.1::cK g2 I3 rE (0,0)::cK g (lE p a.vl a.vw++[.int .i64 (retry:Int),pt a.ga,.slice a.al s.st.length a.cl]++dS s.dT a.ur a.up a.uq++[.bool s.cur.isSome,.slice a.ak a.ts.length a.ck]++dS s.done a.dr a.dp a.dq++[.slice DE ts.length cg]) sY (0,0)::M::lc (.slice a.al s.st.length a.cl) s.st::fT (.slice a.ak a.ts.length a.ck) a.ts::sH a.ga s.ord s.ag::R) (fun j=>j.1≤ts.length∧j.2.1.map (·.1)=s.dk.take j.1∧∀ t∈j.2.1,jl.ok [j.2.2.1] t) (fun j=>ts.length - j.1) (0,[],cH [],none,0) ⟨aH _,rfl,fun t ht=>by cases ht⟩ zS (cj (dL) (cj (du nE 4) zE)) ?_;rintro ⟨k,us,Mx,m5,cu⟩ ⟨hk,hJ,Sz⟩;dsimp only at hk hJ Sz ⊢
 have LD:us.length=k:=by have:=congrArg List.length hJ;rw [ab,aF] at this;omega
 by_cases cO:k<ts.length
 rotate_left
 ·rw [aG zo] at hJ
  (repeat' first|refine Za ?_|apply Zc|apply Zd|apply Ze|apply Zf|refine Zg ?_|refine Zh ?_|refine ZB ?_|refine YA ?_|apply YD|apply YG|apply YJ|(apply O.dg;exact rfl;exact zP;(first|(simp only [aC,Nat.add_zero,Nat.reduceAdd,List.drop_succ_cons,List.drop_zero,List.take_succ_cons,List.take_zero];done)|(simp only [aC,Nat.add_zero,Nat.reduceAdd,List.drop_succ_cons,List.drop_zero,List.take_succ_cons,List.take_zero];exact rfl));exact rfl;exact rfl))
  refine aZ rfl rfl (gR _ e a.dr a.dp a.dq s.done (ha.done.cL (cG zP)) ha.st.M6) ?_;rintro _ _ ⟨N,ur,up,uq,rfl,hN,rfl⟩;refine bn (cn (hN.root.cL (cG zP))) fun o8=>?_
  refine bn (hN.sig.cL (cG zP)).parts.one fun o9=>?_
  refine bn (hN.sig.cL (cG zP)).path.one fun Nb=>?_
  have ho:cz [dH [N,fT (.slice m5 us.length cu) us,Mx]] [N,fT (.slice m5 us.length cu) us,Mx]:=cT (M:=[_,_,_]) (L:=[]);refine wB ?_;apply br
  ·exact zV
  refine ⟨dH [N,fT (.slice m5 us.length cu) us,Mx]::lf g p retry n s::R,cj (rb (A:=N) (B:=fT (.slice m5 us.length cu) us) (C:=Mx) zP zP zP) (bh (cj zE gB)),fun h=>absurd h he,fun _=>⟨_,ur,up,uq,.slice m5 us.length cu,rfl,hN.cL (cj ho (cG .zero)),oW.cL ⟨us,hJ,bb (.succ .zero),fun t ht=>(Sz t ht).cL (cG zP)⟩ ho,rfl⟩⟩
 rcases h6 with h6|⟨gg,og,rfl⟩
 ·omega
 have G2:dZ [M] gg (og+k*4) (jl.cells (ts[k]'cO)):=dZ.elem Uc jl.len (ae cO);have ju:=J6 _ (az cO);have zh:k<s.dk.length:=by omega
 have EK:(ts[k]'cO).1=s.dk[k]'zh:=by
  have:=congrArg (fun l=>l[k]?) fy;simp only [aL,ae cO,ae zh,Option.map_some,Option.some.injEq] at this
  exact this
 have ft:s.dk.take (k+1)=s.dk.take k++[s.dk[k]'zh]:=aD zh;have JX:=(ha.st.dk _ (az zh)).2.fits;rw [← EK] at ft JX
 generalize ts[k]'cO=y at *
 obtain ⟨⟨w,sg⟩,vp,QO⟩:=y;obtain ⟨t1,t2⟩:=ju;dsimp only at t1 t2 JX ft G2
 refine W.cB (t1.cL (cG zP)).parts.one fun VY=>?_
 refine W.cB (t1.cL (cG zP)).path.one fun XB=>?_
 dsimp only [jl.cells] at G2
 have abe:∀ (L R':List cJ),cQ L M R'→dZ L gg (og+k*4) (iA ⟨w,sg⟩ vp QO):=fun L R' pl=>G2.cL (cG pl)
 (repeat' first|(refine O.dy rfl (abe _ _ zP) rfl rfl ?_)|refine Za ?_|apply Zc|apply Zd|apply Ze|apply Zf|refine Zj ?_|refine ZA ?_|refine Yh fun _=>?_|refine Yx ?_|refine Yz ?_|apply YB|apply YC|refine YR ?_|fail)
 refine aZ rfl rfl (oX _ e vp QO ⟨w,sg⟩ (t1.cL (cG zP)) JX) ?_;rintro _ _ ⟨N2,wp,wq,rfl,nk,rfl⟩;refine bn (nk.cL (cG zP)).parts.one fun o13=>?_
 refine bn (nk.cL (cG zP)).path.one fun o14=>?_
 (repeat (refine wA ?_;intros))
 refine bC (bo rfl rfl rfl (show cQ _ (fT (.slice m5 us.length cu) us) _ from zP) (bO (n:=4) (c:=1) zP rfl zl) rfl rfl zO zm zo fun ef k1 _=>?_)
 refine wB ?_;have eT:cz [dH [Mx,N2]] [Mx]:=cj (cT (M:=[_,_]) (L:=[])) (bh bF);have iH:cz [dH [Mx,N2]] [N2]:=cj (cT (M:=[_,_]) (L:=[])) (cz.drop (bh bF));refine bi (k+1,us++[(⟨w,sg⟩,wp,wq)],dH [Mx,N2],ef,k1) ⟨cO,by dsimp only;rw [ft,ah,hJ];rfl,fun t ht=>?_⟩ zd ?_ ?_
 ·rcases aJ.1 ht with ht|ht
  ·exact (Sz t ht).cL eT
  ·rw [an.1 ht];exact ⟨nk.cL iH,t2⟩
 ·simp only [aa,aj];exact zS
 ·simp only [fT,aa,aj,aW,aU,List.flatMap_nil,aK];exact cj (ep (A:=Mx) (B:=N2) zP zP) zE
end Go.Proofs
