/- Part 8 of a proof of this: TopKeys returns true for any arguments; nothing of the old memory is turned. No condition. -/
import Derived.Test.YtccekbdjebohcaaGreatK07
set_option linter.unusedVariables false
set_option linter.unusedSimpArgs false
namespace Go.Proofs
attribute [local irreducible] Bs.cD Bs.Do Bs.O Bs.W Bs.Fin Bs.A Bs.Ct Bs.cE Bs.Rd Bs.Sat Bs.cK Bs.Ob Bs.dE Bs.View Bs.cz Bs.Ex Bs.dI Bs.Pu Bs.eY Bs.dN Bs.dZ
open Go.Bs
open Tryz
variable (R:List cJ) (e:World)
abbrev AE.cells (a:AE):List Value:=[.int .i64 (a.jC:Int),.int .i64 (a.ord:Int),.int .i64 (a.il:Int)]
abbrev CY:TypeId:=377
abbrev Xz:TypeId:=364
abbrev qE:TypeId:=379
abbrev nF (v:Value) (l:List AE):cJ:=dE CY 3 v l.length (l.flatMap AE.cells)
theorem CZ (a:AE):a.cells.length=3:=rfl
theorem XA {l:List AE}:∀ c∈l.flatMap AE.cells,c.oneCell'=true:=r9 fun a _ c hc=>by
 simp only [AE.cells,aQ,aP,or_false] at hc
 rcases hc with rfl|rfl|rfl<;>rfl
theorem HO {l:List AE} {i:Nat} {a:AE} (h:i<l.length):(l.flatMap AE.cells).take (i*3)++a.cells++(l.flatMap AE.cells).drop (i*3+a.cells.length)=(l.set i a).flatMap AE.cells:=by
 rw [CZ,show i*3+3=(i+1)*3 by omega,mH CZ,xZ CZ,List.set_eq_take_append_cons_drop,aI h,aW,aU,aM]
theorem mh {l:List AE} {i:Nat} (h:i<l.length):l.getD i kg=l[i]'h:=by simp [List.getD,h]
theorem Sy {n:Nat} (h:n≤1000000000):prog.keyLits 1 3 [.int .i64 (n:Int)]=some [.int .i64 (n:Int)]:=by
 simp only [Program.keyLits,underlying3];rw [aI ⟨trivial,by simp [Lit.wf,IntKind.min,IntKind.max,IntKind.signed,IntKind.bits];omega⟩]
theorem Q2 (a:AE) (h:a.fits):prog.keyLits 2 CY (Value.agg a.cells.toArray).cells.toList=some [.int .i64 (a.jC:Int),.int .i64 (a.ord:Int),.int .i64 (a.il:Int)]:=by
 have h1:prog.keyLits 2 CY (Value.agg a.cells.toArray).cells.toList=Option.map List.flatten ((prog.keyLits 1 3 [.int .i64 (a.jC:Int)]).bind fun x=>(prog.keyLits 1 3 [.int .i64 (a.ord:Int)]).bind fun y=>(prog.keyLits 1 3 [.int .i64 (a.il:Int)]).bind fun z=>some [x,y,z]):=by kernel_rfl
 rw [h1,Sy h.1,Sy h.2.1,Sy h.2.2]
 rfl
theorem aa1 (a b:AE) (ha:a.fits) (hb:b.fits) (x y:Operand):∀ w,∃ r:Bool,((do eqGuard .eql CY x y (.agg a.cells.toArray) (.agg b.cells.toArray);binOp .eql CY (.agg a.cells.toArray) (.agg b.cells.toArray)):Sem Value).run prog w=.ok (.bool r) w:=fun w=>by
 have h1:(eqGuard .eql CY x y (.agg a.cells.toArray) (.agg b.cells.toArray)).run prog w=.ok () w:=by kernel_rfl
 obtain ⟨r,hr,-⟩:=run_equalIn_deep (P:=prog) 9990 10 CY zK w 2 2 (.agg a.cells.toArray) (.agg b.cells.toArray) _ _ zK zK (Q2 a ha) (Q2 b hb);have RI:(Op.equal CY (.agg a.cells.toArray) (.agg b.cells.toArray)).run prog w=.ok r w:=hr;refine ⟨r,?_⟩;rw [Sem.run_bind,h1];simp only [Result.andThen_ok,binOp];rw [Sem.run_bind,RI]
 rfl
instance : cI prog 339 339:=⟨call339⟩
theorem E9 (a b:AE) (ha:a.fits) (hb:b.fits) :
 Ct prog 339 #[.agg a.cells.toArray,.agg b.cells.toArray] e R (fun v' L'=>∃ z:Int,v'=.int .i64 z∧decide (z<0)=a.lt b∧R=L'):=by
 refine a8 (args:=[_,_]) func339 rfl ntmps339 results339 rfl ?_;have cO:a.lt b=decide (a.jC<b.jC∨(a.jC=b.jC∧a.ord<b.ord)):=rfl
 (repeat' first|refine Za ?_|refine Zb ?_|apply Zc|apply Zd|apply Ze|apply Zf|refine Zh ?_|refine Zi ?_|refine Zj ?_|refine Zl ?_|refine Zm ?_|refine Zn ?_|refine Zo ?_|refine ZC (fun _=>?_) fun _=>?_|refine ZO (fun _=>?_) fun _=>?_|refine Yg fun _=>?_|refine Yz ?_|refine YA ?_|apply YB|apply YE|apply YF|apply YI)
 all_goals first
  | (exact aY R rfl zE ⟨-1,rfl,by rw [cO,ay zo,ay zo],rfl⟩)
  | (
   refine bC (Do.Sw (aa1 a b ha hb _ _) rfl rfl rfl fun q=>?_)
   (repeat' first|(refine W.cond rfl ?_ ?_<;>intro _)|refine Zb ?_|apply Zc|apply Zd|apply Ze|apply Zf|apply YC|apply YE|apply YF|apply YH|apply YI)
   all_goals first
    | exact aY R rfl zE ⟨0,rfl,by rw [cO,aq zo,aq zo],rfl⟩
    | exact aY R rfl zE ⟨1,rfl,by rw [cO,aq zo,aq zo],rfl⟩)
theorem pn {v:Value} {l:List AE} {L R:List cJ} (p:cR L (nF v l) R):∀ h,dN L h→∃ ad c,v=.slice ad l.length c∧l.length≤c∧c≤maxLen∧((ad=none∧c=0∧l.length=0)∨∃ g,ad=some ⟨g,0,none⟩):=fun h hs=>(fP p h hs).1
theorem KM (ad:Option Addr) (n c:Nat) :
 Ct prog 336 #[.slice ad n c] e R (fun v' L'=>v'=.int .i64 (n:Int)∧R=L'):=by
 refine a8 (args:=[_]) func336 rfl ntmps336 results336 rfl ?_;refine wB ?_;exact aY R rfl zE ⟨rfl,rfl⟩
theorem HP (v:Value) (l:List AE) (i j:Nat) (hv:cE R 3 v l.length (l.flatMap AE.cells)) (hf:∀ a∈l,a.fits) (hi:i<l.length) (hj:j<l.length) :
 Ct prog 337 #[v,.int .i64 (i:Int),.int .i64 (j:Int)] e R (fun v' L'=>v'=.bool ((l.getD i kg).lt (l.getD j kg))∧R=L'):=by
 refine a7 (cE.shape hv zo) ?_;rintro ⟨⟨ad,c,rfl,h3,h4,h5,h6⟩,_⟩;rcases h6 with h6|⟨g,o,rfl⟩
 ·omega
 rw [mh hi,mh hj];have f1:=hf _ (aA hi);have f2:=hf _ (aA hj);have r1:dZ R g (o+i*3) (l[i]'hi).cells:=dZ.elem hv CZ (ab hi);have r2:dZ R g (o+j*3) (l[j]'hj).cells:=dZ.elem hv CZ (ab hj)
 generalize l[i]'hi=a at *
 generalize l[j]'hj=b at *
 refine a8 (args:=[_,_,_]) func337 rfl ntmps337 results337 rfl ?_;refine wB ?_;refine bk (id:=1) [10] R mixed ?_
 (refine tM 0 ?_;refine tM 1 ?_;refine tk 2 _ rfl (bD rfl rfl zo) ?_;refine tJ 3 ?_;refine tM 4 ?_;refine tM 5 ?_;refine tk 6 _ rfl (bD rfl rfl zo) ?_;refine tJ 7 ?_)
 refine tO 8 ?_;refine bg rfl rfl (E9 _ e a b f1 f2) ?_;rintro _ _ ⟨z,rfl,hz,rfl⟩;refine ⟨fun _=>zE,?_⟩;rw [← hz]
 (all_goals ((refine A.OB 9 rfl zK zE (cD.lss rfl rfl) rfl ?_ ?_<;>intro _));all_goals ((refine tO 10 ?_;refine dV (bj rfl) ?_)))
 all_goals refine bf zK ?_
 all_goals refine wB ?_
 all_goals first
  | exact aY R rfl zE ⟨by rw [ay (by assumption)];rfl,rfl⟩
  | exact aY R rfl zE ⟨by rw [aq (by assumption)];rfl,rfl⟩
theorem HQ (ad:Option Addr) (c:Nat) (l:List AE) (i j:Nat) (hi:i<l.length) (hj:j<l.length) :
 Ct prog 338 #[.slice ad l.length c,.int .i64 (i:Int),.int .i64 (j:Int)] e (nF (.slice ad l.length c) l::R) (fun v' L'=>v'=.tuple #[]∧L'=nF (.slice ad l.length c) (gK l i j)::R):=by
 refine a7 (pn .zero) ?_;rintro ⟨lM,c',hv,h3,h4,h5⟩
 cases hv
 rcases h5 with ⟨-,-,h5⟩|⟨g,rfl⟩
 ·omega
 have r1:∀ L,cE L 3 (.slice (some ⟨g,0,none⟩) l.length c) l.length (l.flatMap AE.cells)→dZ L g (0+i*3) (l[i]'hi).cells:=fun L hv=>dZ.elem hv CZ (ab hi)
 have r2:∀ L,cE L 3 (.slice (some ⟨g,0,none⟩) l.length c) l.length (l.flatMap AE.cells)→dZ L g (0+j*3) (l[j]'hj).cells:=fun L hv=>dZ.elem hv CZ (ab hj)
 have r3:=r1 _ (bb (show cR (nF (.slice (some ⟨g,0,none⟩) l.length c) l::R) (nF (.slice (some ⟨g,0,none⟩) l.length c) l) R from .zero));have r4:=r2 _ (bb (show cR (nF (.slice (some ⟨g,0,none⟩) l.length c) l::R) (nF (.slice (some ⟨g,0,none⟩) l.length c) l) R from .zero));clear r1 r2;have hsw:gK l i j=(l.set i (l[j]'hj)).set j (l[i]'hi):=by unfold gK;rw [mh hi,mh hj]
 rw [hsw];have fR:=HO (a:=l[j]'hj) hi;have m4:=HO (l:=l.set i (l[j]'hj)) (i:=j) (a:=l[i]'hi) (by rw [List.length_set];exact hj);have qi:(l.set i (l[j]'hj)).length=l.length:=List.length_set;have pH:((l.set i (l[j]'hj)).set j (l[i]'hi)).length=l.length:=by simp
 generalize l[i]'hi=a at *
 generalize l[j]'hj=b at *
 refine a8 (args:=[_,_,_]) func338 rfl ntmps338 results338 rfl ?_;have XB:∀ x:AE,∀ v∈x.cells,v.oneCell'=true:=fun x v hv=>by simp only [AE.cells,aQ,aP,or_false] at hv;rcases hv with rfl|rfl|rfl<;>rfl
 refine bk (id:=0) [14,15] R mixed ?_
 (refine tM 0 ?_;refine tM 1 ?_;refine tM 2 ?_;refine tM 3 ?_;refine tM 4 ?_;refine tM 5 ?_;refine tk 6 _ rfl (bD rfl rfl zo) ?_)
 refine tM 8 ?_;refine tM 9 ?_;refine tk 10 _ rfl (bD rfl rfl hi) ?_;refine A.two 7 11 rfl rfl rfl rfl zK ?_ ?_
 ·refine bN (cD.dy rfl r4 rfl) rfl ⟨fun _=>zE,?_⟩;refine tO 11 ?_;refine bN (cD.dy rfl r3 rfl) rfl ⟨fun _=>zE,?_⟩;refine tO 12 ?_;refine bN (bD rfl rfl hi) rfl ⟨fun _=>zE,?_⟩;refine tO 13 ?_;refine Do.ow rfl rfl rfl (XB _) .zero (by simp only [CZ];omega) ⟨fun _=>zE,?_⟩;rw [aC,fR];refine tO 14 ?_;refine bN (bD rfl rfl hj) rfl ⟨zN,?_⟩;refine tO 15 ?_;refine Do.ow rfl rfl rfl (XB _) .zero (by simp only [CZ];omega) ⟨zN,?_⟩;rw [aC,m4];refine bf zK ?_;refine bT (nF (.slice (some ⟨g,0,none⟩) l.length c) ((l.set i b).set j a)::R) rfl ?_ ⟨rfl,rfl⟩;simp only [nF,pH];exact zE
 ·refine bN (cD.dy rfl r3 rfl) rfl ⟨fun _=>zE,?_⟩;refine tO 7 ?_;refine bN (cD.dy rfl r4 rfl) rfl ⟨fun _=>zE,?_⟩;refine tO 12 ?_;refine bN (bD rfl rfl hi) rfl ⟨fun _=>zE,?_⟩;refine tO 13 ?_;refine Do.ow rfl rfl rfl (XB _) .zero (by simp only [CZ];omega) ⟨fun _=>zE,?_⟩;rw [aC,fR];refine tO 14 ?_;refine bN (bD rfl rfl hj) rfl ⟨zN,?_⟩;refine tO 15 ?_;refine Do.ow rfl rfl rfl (XB _) .zero (by simp only [CZ];omega) ⟨zN,?_⟩;rw [aC,m4];refine bf zK ?_;refine bT (nF (.slice (some ⟨g,0,none⟩) l.length c) ((l.set i b).set j a)::R) rfl ?_ ⟨rfl,rfl⟩;simp only [nF,pH];exact zE
theorem HR {P:Program} (w:World) (t:TypeId) (p:Addr) (name:String):(Builtin.ssaWrapNilChk_ #[t] t #[.pointer (some p),strVal "",strVal name]).run P w=.ok (.pointer (some p)) w:=rfl
theorem mZ {P:Program} {t el:TypeId} {name:String} {sig f:Nat} {p:Addr} {v:Value} (hm:((P.info? t).bind fun i=>i.methods.find? (·.name == name))=some ⟨name,sig,#[],some (f,false)⟩) (hu:P.underlying t=some (.pointer el)) (F8:∀ w,(isAgg el).run P w=.ok false w) (n:Nat) (w:World) (h:w.cell? p=some v) :
 (Go.method (n+1) t (.pointer (some p)) name).run P w=.ok (f,v) w:=by
 cases hi:P.info? t with
 | none=>rw [hi] at hm;cases hm
 | some i =>
  rw [hi] at hm
  simp only [Option.bind_some] at hm
  simp [Go.method,run_typeInfo w hi,hm,follow,receiverAt,run_underlying hu,Place.get,HR,asAddr,loadVar,F8,h]
theorem kI {P:Program} {t:TypeId} {name:String} {f:Nat} {u v:Value} {w:World} (h:(Go.method (P.types.size+99+1) t u name).run P w=.ok (f,v) w) (hc:∀ args w,(callFunc f args).run P w=.ok (.enter f args) w) (xs:List Value) :
 (Go.invoke (.fn (.method name) #[]) (.iface t u::xs).toArray).run P w=.ok (.enter f (v::xs).toArray) w:=by
 have h1:(Go.invoke (.fn (.method name) #[]) (.iface t u::xs).toArray).run P w=(callMethod (.iface t u) name ((.iface t u::xs).toArray.extract 1 (.iface t u::xs).toArray.size)).run P w:=rfl;rw [h1];have h2:(.iface t u::xs).toArray.extract 1 (.iface t u::xs).toArray.size=xs.toArray:=by simp
 rw [h2];have h3:Made.depth=99+1:=rfl;simp only [callMethod,Sem.run_bind,run_program,Result.andThen_ok,h3,← Nat.add_assoc];rw [h];simp only [Result.andThen_ok,hc]
 simp
theorem Sz (w:World) (p:Addr) (v:Value) (h:w.cell? p=some v):(Go.invoke (.fn (.method "Len") #[]) #[.iface qE (.pointer (some p))]).run prog w=.ok (.enter 336 #[v]) w:=by
 have h1:=mZ (P:=prog) (t:=qE) (el:=362) (name:= "Len") (sig:=36) (f:=336) zK underlying379 isAgg362 (prog.types.size+99) w h;exact kI h1 call336 []
theorem Ps (w:World) (p:Addr) (v x y:Value) (h:w.cell? p=some v):(Go.invoke (.fn (.method "Less") #[]) #[.iface qE (.pointer (some p)),x,y]).run prog w=.ok (.enter 337 #[v,x,y]) w:=by
 have h1:=mZ (P:=prog) (t:=qE) (el:=362) (name:= "Less") (sig:=406) (f:=337) zK underlying379 isAgg362 (prog.types.size+99) w h;exact kI h1 call337 [x,y]
theorem Pt (w:World) (p:Addr) (v x y:Value) (h:w.cell? p=some v):(Go.invoke (.fn (.method "Swap") #[]) #[.iface qE (.pointer (some p)),x,y]).run prog w=.ok (.enter 338 #[v,x,y]) w:=by
 have h1:=mZ (P:=prog) (t:=qE) (el:=362) (name:= "Swap") (sig:=331) (f:=338) zK underlying379 isAgg362 (prog.types.size+99) w h;exact kI h1 call338 [x,y]
theorem Pv (w:World) (p:Addr) (x:Value):(Go.invoke (.fn (.method "Push") #[]) #[.iface qE (.pointer (some p)),x]).run prog w=.ok (.enter 341 #[.pointer (some p),x]) w:=by kernel_rfl
theorem SA (w:World) (p:Addr):(Go.invoke (.fn (.method "Pop") #[]) #[.iface qE (.pointer (some p))]).run prog w=.ok (.enter 340 #[.pointer (some p)]) w:=by kernel_rfl
abbrev pL (g:Nat):Value:=.iface qE (pt g)
abbrev lK (g:Nat) (ad:Option Addr) (c o:Nat) (l:List AE) (R:List cJ):List cJ:=cK g [.slice ad l.length c,.int .i64 (o:Int)] Xz (0,0)::nF (.slice ad l.length c) l::R
theorem Do.C0 {N:Fr} {σ:Env} {e:World} {x:Operand} {d:Tmp} {pos:String} {af:Array Edge} {gd:Option (Nat × Bool)} {ty:TypeId} {K:Env→List cJ→Prop} {g:Nat} {ad:Option Addr} {c o:Nat} {l:List AE} {R:List cJ} {ats:Array TypeId}
 (h0:ev σ x=some (pL g)) (hd:Nat.blt d N.n=true) (k:K ((d,.int .i64 (l.length:Int))::σ) (lK g ad c o l R)) :
 Do prog N ⟨some d,.call { callee:=.invoke x "Len",args:=#[],argTypes:=ats },ty,pos,af,gd⟩ K σ e (lK g ad c o l R) :=
 Do.invoke (xs:=[]) (vs:=[]) h0 rfl hd (fun w hs=>Sz w _ _ ((bP .zero rfl).at hs)) (KM _ e ad l.length c) (by rintro _ _ ⟨rfl,rfl⟩;exact k)
theorem Do.qF {N:Fr} {σ:Env} {e:World} {x y z:Operand} {d:Tmp} {pos:String} {af:Array Edge} {gd:Option (Nat × Bool)} {ty:TypeId} {K:Env→List cJ→Prop} {g:Nat} {ad:Option Addr} {c o:Nat} {l:List AE} {R:List cJ} {ats:Array TypeId} {i j:Nat}
 (hf:∀ a∈l,a.fits) (h0:ev σ x=some (pL g)) (hy:ev σ y=some (.int .i64 (i:Int))) (hz:ev σ z=some (.int .i64 (j:Int))) (hd:Nat.blt d N.n=true) (hi:i<l.length) (hj:j<l.length) (k:K ((d,.bool ((l.getD i kg).lt (l.getD j kg)))::σ) (lK g ad c o l R)) :
 Do prog N ⟨some d,.call { callee:=.invoke x "Less",args:=#[y,z],argTypes:=ats },ty,pos,af,gd⟩ K σ e (lK g ad c o l R) :=
 Do.invoke (xs:=[y,z]) (vs:=[.int .i64 (i:Int),.int .i64 (j:Int)]) h0 (by simp only [pZ,hy,hz]) hd (fun w hs=>Ps w _ _ _ _ ((bP .zero rfl).at hs)) (HP _ e _ l i j (bb (.succ .zero)) hf hi hj) (by rintro _ _ ⟨rfl,rfl⟩;exact k)
theorem Do.zk {N:Fr} {σ:Env} {e:World} {x y z:Operand} {d:Tmp} {pos:String} {af:Array Edge} {gd:Option (Nat × Bool)} {ty:TypeId} {K:Env→List cJ→Prop} {g:Nat} {ad:Option Addr} {c o:Nat} {l:List AE} {R:List cJ} {ats:Array TypeId} {i j:Nat}
 (h0:ev σ x=some (pL g)) (hy:ev σ y=some (.int .i64 (i:Int))) (hz:ev σ z=some (.int .i64 (j:Int))) (hd:Nat.blt d N.n=true) (hi:i<l.length) (hj:j<l.length) (k:K ((d,.tuple #[])::σ) (lK g ad c o (gK l i j) R)) :
 Do prog N ⟨some d,.call { callee:=.invoke x "Swap",args:=#[y,z],argTypes:=ats },ty,pos,af,gd⟩ K σ e (lK g ad c o l R) :=
 Do.invoke (xs:=[y,z]) (vs:=[.int .i64 (i:Int),.int .i64 (j:Int)]) (Post:=fun v L'=>v=.tuple #[]∧L'=lK g ad c o (gK l i j) R) h0 (by simp only [pZ,hy,hz]) hd (fun w hs=>Pt w _ _ _ _ ((bP .zero rfl).at hs))
  ((
   Ct.at (.succ .zero) (HQ (cK g [.slice ad l.length c,.int .i64 (o:Int)] Xz (0,0)::R) e ad c l i j hi hj)).LN (by
   rintro _ _ ⟨rfl,rfl⟩;refine ⟨_,cj ?_ aX,rfl,rfl⟩;simp only [lK,dH];exact zE)) (by rintro _ _ ⟨rfl,rfl⟩;exact k)
theorem Nf (g:Nat) (ad:Option Addr) (c o:Nat) (l:List AE) (j:Nat) (hf:∀ a∈l,a.fits) (hj:j<l.length) (hl:l.length≤1000000) :
 Ct prog 314 #[pL g,.int .i64 (j:Int)] e (lK g ad c o l R) (fun v' L'=>v'=.tuple #[]∧L'=lK g ad c o (Oo j l j) R):=by
 refine a8 (args:=[_,_]) func314 rfl ntmps314 results314 rfl ?_;obtain ⟨fin,kM⟩:∃ f,f=Oo j l j:=⟨_,rfl⟩
 rw [← kM]
 (repeat (refine wA ?_;intros))
 refine bq (ι:=Nat × List AE × Nat) (fun i=>[(0,pL g),(1,.int .i64 (i.1:Int))]) (fun i=>lK g ad c o i.2.1 R) (fun i=>i.1<i.2.1.length∧i.2.1.length=l.length∧(∀ a∈i.2.1,a.fits)∧i.1≤i.2.2∧Oo i.2.2 i.2.1 i.1=fin) (fun i=>i.1) (j,l,j) ⟨hj,rfl,hf,aS _,kM.symm⟩ zS zE ?_;rintro ⟨j,l',n⟩ ⟨h1,h2,h3,h4,h5⟩;dsimp only at h1 h2 h3 h4 h5 ⊢
 by_cases hj0:j=0
 ·subst hj0
  have VV:l'=fin:=by
   rw [← h5]
   cases n with
   | zero=>rfl
   | succ n=>unfold Oo;rw [aI rfl]
  have hq:IntKind.i64.wrap ((((0:Nat):Int) - 1).tdiv 2)=((0:Nat):Int):=rfl
  (repeat' first|(refine bx _ (cD.Pr rfl rfl zo hq) rfl ?_)|refine Za ?_|refine Zb ?_|apply Zc|apply Zd|apply Ze|apply Zf|refine Zl ?_|refine Zo ?_|refine ZM ?_|refine ZU ?_|refine Yz ?_|apply YB|apply YD|apply YG|apply YJ|refine YK ?_|fail)
  rw [VV];exact bT (lK g ad c o fin R) rfl zE ⟨rfl,rfl⟩
 obtain ⟨m,rfl⟩:∃ m,n=m+1:=⟨n - 1,by omega⟩
 have hq:IntKind.i64.wrap (((j:Int) - 1).tdiv 2)=(((j - 1) / 2:Nat):Int):=by
  rw [Int.tdiv_eq_ediv_of_nonneg zo,wrap_i64 zo zo];omega
 have hp:(j - 1) / 2<j:=by omega
 have Ap:(if (l'.getD j kg).lt (l'.getD ((j - 1) / 2) kg) then Oo m (gK l' ((j - 1) / 2) j) ((j - 1) / 2) else l')=fin:=by rw [← h5];conv=>rhs;unfold Oo;rw [aB hj0]
 generalize (j - 1) / 2=p at *
 by_cases cO:(l'.getD j kg).lt (l'.getD p kg)=true
 ·rw [aI cO] at Ap
  (repeat' first|(refine bx _ (cD.Pr rfl rfl zo hq) rfl ?_)|(refine bC (Do.qF h3 rfl rfl rfl rfl h1 zo ?_);rw [cO])|refine bC (Do.zk rfl rfl rfl rfl zo h1 ?_)|refine Za ?_|refine Zb ?_|apply Zc|apply Zd|apply Ze|apply Zf|refine Zm ?_|refine Zn ?_|refine Zy ?_|refine ZN ?_|refine ZU ?_|refine YA ?_|apply YB|apply YC|apply YH)
  refine bi (p,gK l' p j,m) ⟨by dsimp only;rw [dH];omega,by dsimp only;rw [dH];exact h2,fun a ha=>h3 a ((la zo h1).mem_iff.1 ha),by dsimp only;omega,Ap⟩ (by dsimp only;exact hp) zS zE
 ·have hlf:(l'.getD j kg).lt (l'.getD p kg)=false:=by simpa using cO
  rw [aB cO] at Ap
  (repeat' first|(refine bx _ (cD.Pr rfl rfl zo hq) rfl ?_)|(refine bC (Do.qF h3 rfl rfl rfl rfl h1 zo ?_);rw [hlf])|refine Za ?_|refine Zb ?_|apply Zc|apply Zd|apply Ze|apply Zf|refine Zm ?_|refine Zn ?_|refine Zz ?_|refine ZN ?_|refine ZU ?_|refine Yz ?_|apply YB|apply YD|apply YG|apply YJ|refine YK ?_|fail)
  rw [Ap];exact bT (lK g ad c o fin R) rfl zE ⟨rfl,rfl⟩
theorem zp (g:Nat) (ad:Option Addr) (c o:Nat) (l:List AE) (i0 n:Nat) (hf:∀ a∈l,a.fits) (hi:i0<l.length) (hn:n≤l.length) (hl:l.length≤1000000) :
 Ct prog 308 #[pL g,.int .i64 (i0:Int),.int .i64 (n:Int)] e (lK g ad c o l R) (fun v' L'=>(∃ b:Bool,v'=.bool b)∧L'=lK g ad c o (lI n l i0 n) R):=by
 refine a8 (args:=[_,_,_]) func308 rfl ntmps308 results308 rfl ?_;obtain ⟨fin,kM⟩:∃ f,f=lI n l i0 n:=⟨_,rfl⟩
 rw [← kM];refine wB ?_;refine bq (ι:=Nat × List AE × Nat) (fun i=>[(0,pL g),(1,.int .i64 (i0:Int)),(2,.int .i64 (n:Int)),(7,.int .i64 (i.1:Int))]) (fun i=>lK g ad c o i.2.1 R) (fun i=>i.1<i.2.1.length∧i.2.1.length=l.length∧(∀ a∈i.2.1,a.fits)∧n≤i.1+i.2.2∧lI i.2.2 i.2.1 i.1 n=fin) (fun i=>n - i.1) (i0,l,n) ⟨hi,rfl,hf,by dsimp only;omega,kM.symm⟩ zS zE ?_;rintro ⟨i,l',f⟩ ⟨h1,h2,h3,h4,h5⟩;dsimp only at h1 h2 h3 h4 h5 ⊢
 have afi:∀ b:Bool,∃ b':Bool,(Value.bool b)=.bool b':=fun b=>⟨b,rfl⟩
 by_cases hk:n≤2*i+1
 ·have VV:l'=fin:=by
   rw [← h5]
   cases f with
   | zero=>rfl
   | succ f=>unfold lI;rw [aI hk]
  rw [VV]
  (repeat' first|refine Za ?_|refine Zb ?_|apply Zc|apply Zd|apply Ze|apply Zf|refine Zl ?_|refine Zo ?_|refine ZI (fun _=>?_) fun _=>?_|refine ZJ ?_|refine ZS ?_|refine ZW ?_|refine Yz ?_|apply YB|apply YD|apply YE|apply YG|apply YJ|refine YK ?_|fail)
  all_goals exact aY (lK g ad c o fin R) rfl zE ⟨⟨_,rfl⟩,rfl⟩
 obtain ⟨f,rfl⟩:∃ m,f=m+1:=⟨f - 1,by omega⟩
 have Ap:(if (l'.getD (za l' i n) kg).lt (l'.getD i kg) then lI f (gK l' i (za l' i n)) (za l' i n) n else l')=fin:=by rw [← h5];conv=>rhs;unfold lI;rw [aB hk]
 have h22:(2:Int)*(i:Int)+1+1=((2*i+2:Nat):Int):=by omega
 have XC:(2:Int)*(i:Int)+1=((2*i+1:Nat):Int):=by omega
 obtain ⟨k,KN⟩:∃ k,k=za l' i n:=⟨_,rfl⟩
 obtain ⟨k1,k2⟩:=CP (l:=l') (i:=i) (n:=n) zo;rw [← KN] at Ap k1 k2
 unfold za at KN
 (repeat' first|refine W.pF (id:=8) (fun _:Unit=>[(0,pL g),(1,.int .i64 (i0:Int)),(2,.int .i64 (n:Int)),(7,.int .i64 (i:Int)),(9,.int .i64 (k:Int))]) (fun _=>lK g ad c o l' R) (fun _=>True) ?_ ?_|refine Za ?_|refine Zb ?_|apply Zc|apply Zd|apply Ze|apply Zf|refine Zm ?_|refine Zn ?_|refine ZB ?_|refine ZK ?_|refine ZS ?_|refine ZW ?_|refine YA ?_|apply YB|apply YC)
 ·rintro _ _
  by_cases cO:(l'.getD k kg).lt (l'.getD i kg)=true
  ·rw [aI cO] at Ap
   (repeat' first|(refine bC (Do.qF h3 rfl rfl rfl rfl zo h1 ?_);rw [cO])|refine bC (Do.zk rfl rfl rfl rfl h1 zo ?_)|refine Za ?_|refine Zb ?_|apply Zc|apply Zd|apply Ze|apply Zf|refine Zy ?_|refine YA ?_|apply YC|apply YH)
   refine bi (k,gK l' i k,f) ⟨by dsimp only;rw [dH];omega,by dsimp only;rw [dH];exact h2,fun a ha=>h3 a ((la h1 zo).mem_iff.1 ha),by dsimp only;omega,Ap⟩ zd zS zE
  ·have hlf:(l'.getD k kg).lt (l'.getD i kg)=false:=by simpa using cO
   rw [aB cO] at Ap
   (repeat' first|(refine bC (Do.qF h3 rfl rfl rfl rfl zo h1 ?_);rw [hlf])|refine Za ?_|refine Zb ?_|apply Zc|apply Zd|apply Ze|apply Zf|refine Zz ?_|refine ZI (fun _=>?_) fun _=>?_|refine Yz ?_|apply YD|apply YE|apply YG|apply YJ|refine YK ?_|fail)
   all_goals rw [Ap]
   all_goals exact aY (lK g ad c o fin R) rfl zE ⟨⟨_,rfl⟩,rfl⟩
 ·refine ⟨?_⟩
  by_cases VW:2*i+2<n
  ·have Mw:=fun (N:Fr) (σ:Env) (x y z:Operand) (d:Tmp) (pos:String) (af:Array Edge) (gd:Option (Nat × Bool)) (ty:TypeId) (K:Env→List cJ→Prop) (ats:Array TypeId)=>Do.qF (N:=N) (σ:=σ) (e:=e) (x:=x) (y:=y) (z:=z) (d:=d) (pos:=pos) (af:=af) (gd:=gd) (ty:=ty) (K:=K) (g:=g) (ad:=ad) (c:=c) (o:=o) (l:=l') (R:=R) (ats:=ats) (i:=2*i+2) (j:=2*i+1) h3
   by_cases pH:(l'.getD (2*i+2) kg).lt (l'.getD (2*i+1) kg)=true
   ·rw [aI ⟨VW,pH⟩] at KN
    subst KN;rw [pH] at Mw
    (repeat' first|refine O.want rfl ?_|(refine bC (Mw _ _ _ _ _ _ _ _ _ _ _ _ rfl (congrArg (fun z=>some (Value.int .i64 z)) h22) (congrArg (fun z=>some (Value.int .i64 z)) XC) rfl zo zo ?_))|refine Za ?_|refine Zb ?_|apply Zc|apply Zd|apply Ze|apply Zf|refine Zl ?_|refine ZA ?_|refine ZS ?_|refine Yz ?_|fail)
    rw [h22];exact bJ () trivial zS zE
   ·have QH:(l'.getD (2*i+2) kg).lt (l'.getD (2*i+1) kg)=false:=by simpa using pH
    rw [aB (fun q=>pH q.2)] at KN
    subst KN;rw [QH] at Mw
    (repeat' first|refine O.want rfl ?_|(refine bC (Mw _ _ _ _ _ _ _ _ _ _ _ _ rfl (congrArg (fun z=>some (Value.int .i64 z)) h22) (congrArg (fun z=>some (Value.int .i64 z)) XC) rfl zo zo ?_))|refine Za ?_|refine Zb ?_|apply Zc|apply Zd|apply Ze|apply Zf|refine Zl ?_|refine ZA ?_|refine ZS ?_|refine YA ?_|apply YC)
    rw [XC];exact bJ () trivial zS zE
  ·rw [aB (fun q=>VW q.1)] at KN
   subst KN;refine wB ?_;rw [XC];exact bJ () trivial zS zE
theorem HS (g:Nat) (ad:Option Addr) (c o:Nat) (l:List AE) (hf:∀ a∈l,a.fits) (hl:l.length≤1000000) :
 Ct prog 306 #[pL g] e (lK g ad c o l R) (fun v' L'=>v'=.tuple #[]∧L'=lK g ad c o (uA (l.length / 2) l) R):=by
 refine a8 (args:=[_]) func306 rfl ntmps306 results306 rfl ?_;obtain ⟨fin,kM⟩:∃ f,f=uA (l.length / 2) l:=⟨_,rfl⟩
 rw [← kM]
 have hq:IntKind.i64.wrap ((l.length:Int).tdiv 2)=((l.length / 2:Nat):Int):=by
  rw [Int.tdiv_eq_ediv_of_nonneg zo,wrap_i64 zo zo];omega
 (repeat' first|refine bC (Do.C0 rfl rfl ?_)|(refine bx _ (cD.Pr rfl rfl zo hq) rfl ?_)|refine Za ?_|refine Zb ?_|apply Zc|apply Zd|apply Ze|apply Zf|refine ZU ?_|apply YB)
 refine bq (ι:=Nat × List AE) (fun i=>[(0,pL g),(2,.int .i64 (l.length:Int)),(3,.int .i64 ((i.1:Int) - 1))]) (fun i=>lK g ad c o i.2 R) (fun i=>i.1≤l.length∧i.2.length=l.length∧(∀ a∈i.2,a.fits)∧uA i.1 i.2=fin) (fun i=>i.1) (l.length / 2,l) ⟨by dsimp only;omega,rfl,hf,kM.symm⟩ zS zE ?_;rintro ⟨k,l'⟩ ⟨h1,h2,h3,h5⟩;dsimp only at h1 h2 h3 h5 ⊢
 cases k with
 | zero =>
  have VV:l'=fin:=h5;rw [VV];refine wB ?_;exact bT (lK g ad c o fin R) rfl zE ⟨rfl,rfl⟩
 | succ k =>
  have hk:((k+1:Nat):Int) - 1=(k:Int):=by omega
  rw [hk];refine wB ?_;refine aZ rfl rfl (zp R e g ad c o l' k l.length h3 zo zo zo) ?_;rintro _ _ ⟨⟨b,rfl⟩,rfl⟩;refine wB ?_;have hp:=mY l.length l' k l.length zo zo;refine bi (k,lI l.length l' k l.length) ⟨by dsimp only;omega,by dsimp only;rw [hp.length_eq,h2],fun a ha=>h3 a (hp.mem_iff.1 ha),by dsimp only;rw [← h5];conv=>rhs;unfold uA;rw [h2]⟩ zd zS zE
abbrev Uf (a:AE):Value:=.iface CY (.agg a.cells.toArray)
theorem VX:∀ w (v:Value),(Instr.makeInterface CY v).run prog w=.ok (.iface CY v) w:=fun w v=>by kernel_rfl
theorem HT:∀ w (v:Value),(Instr.makeInterface qE v).run prog w=.ok (.iface qE v) w:=fun w v=>by kernel_rfl
theorem VY:∀ w (v:Value),(Instr.typeAssert (.iface CY v) 20 CY false).run prog w=.ok v w:=fun w v=>by kernel_rfl
theorem HU (g:Nat) (ad:Option Addr) (c o:Nat) (l:List AE) (a:AE) (hl:l.length≤1000000) :
 Ct prog 341 #[pt g,Uf a] e (lK g ad c o l R) (fun v' L'=>v'=.tuple #[]∧∃ lM c',L'=lK g lM c' o (l++[a]) R):=by
 refine a8 (args:=[_,_]) func341 rfl ntmps341 results341 rfl ?_;refine bk (id:=0) [8,9] (cK g [.slice ad l.length c,.int .i64 (o:Int)] Xz (0,0)::R) mixed ?_
 (refine tM 0 ?_;refine tM 1 ?_;refine tN 2 ?_;refine tL 3 ?_;refine tM 4 ?_)
 refine tk 5 _ rfl (cD.typeAssert VY rfl) ?_;refine tO 6 ?_;refine bE (n:=3) (cs:=a.cells) rfl rfl rfl rfl zQ rfl (fun g1=>⟨fun _=>zE,?_⟩);refine tO 7 ?_;refine bo rfl rfl rfl (show cR _ (nF (.slice ad l.length c) l) _ from zP) (bO (n:=3) (c:=1) .zero rfl zl) rfl rfl (fun c hc=>by simp only [AE.cells,aQ,aP,or_false] at hc;rcases hc with rfl|rfl|rfl<;>rfl) zm zo fun ef k1 _=>⟨fun _=>zE,?_⟩
 refine tO 8 ?_;refine dV (bn rfl) ?_;refine tO 9 ?_;refine tf ?_;refine ⟨zN,?_⟩;refine bf zK ?_;refine bT (lK g ef k1 o (l++[a]) R) rfl ?_ ⟨rfl,ef,k1,rfl⟩;simp only [lK,nF,aa,aj,aW,aU,List.flatMap_nil,aK];exact zE
theorem HV (g:Nat) (ad:Option Addr) (c o:Nat) (l:List AE) (a:AE) (hf:∀ x∈l,x.fits) (ha:a.fits) (hl:l.length≤100000) :
 Ct prog 307 #[pL g,Uf a] e (lK g ad c o l R) (fun v' L'=>v'=.tuple #[]∧∃ lM c',L'=lK g lM c' o (pK l a) R):=by
 refine a8 (args:=[_,_]) func307 rfl ntmps307 results307 rfl ?_;refine wB ?_;refine bC (Do.invoke (xs:=[.tmp 5]) (vs:=[Uf a]) rfl rfl rfl (fun w hs=>Pv w _ _) (HU R e g ad c o l a zo) ?_)
 rintro _ _ ⟨rfl,ef,c1,rfl⟩;have hla:(l++[a]).length=l.length+1:=by simp
 (repeat' first|refine bC (Do.C0 rfl rfl ?_)|refine Za ?_|apply Zd|apply Ze|apply Zf|refine ZU ?_|fail)
 have DZ:((l++[a]).length:Int) - 1=(l.length:Int):=by simp
 have hup:=Nf R e g ef c1 o (l++[a]) l.length (fun x hx=>by
  rcases aJ.1 hx with hx|hx
  ·exact hf x hx
  ·rw [an.1 hx];exact ha) (by simp) (by simp;omega)
 rw [← DZ] at hup
 refine aZ rfl rfl hup ?_;rintro _ _ ⟨rfl,rfl⟩
 (repeat (refine wA ?_;intros))
 exact bT (lK g ef c1 o (pK l a) R) rfl zE ⟨rfl,ef,c1,rfl⟩
theorem KO (g:Nat) (ad:Option Addr) (c o:Nat) (l:List AE) (n:Nat) (hn:l.length=n+1) (hl:l.length≤1000000) :
 Ct prog 340 #[pt g] e (lK g ad c o l R) (fun v' L'=>v'=Uf (l.getD n kg)∧L'=lK g ad c o (l.take n) R):=by
 refine a7 (pn (.succ .zero)) ?_;rintro ⟨lM,c',hv,h3,h4,h5⟩
 cases hv
 rcases h5 with ⟨-,-,h5⟩|⟨gl,rfl⟩
 ·omega
 have BL:n<l.length:=by omega
 have r1:dZ (lK g (some ⟨gl,0,none⟩) c o l R) gl (0+n*3) (l[n]'BL).cells:=dZ.elem (bb (.succ .zero)) CZ (ab BL);rw [mh BL]
 generalize l[n]'BL=a at *
 have l3:(l.length:Int) - 1=(n:Int):=by omega
 have ft:(l.take n).length=n:=by rw [aF];omega
 refine a8 (args:=[_]) func340 rfl ntmps340 results340 rfl ?_;have tG:=nP (E:=CY) (n:=3) (ad:=some ⟨gl,0,none⟩) (k:=l.length) (lo:=n) (c:=c) (xs:=l.flatMap AE.cells) (R:=R) zo;rw [mH CZ] at tG
 (repeat' first|(refine bx _ (bD (i:=n) rfl (congrArg (fun z=>some (Value.int .i64 z)) l3) BL) rfl ?_)|(refine O.dy rfl r1 rfl rfl ?_)|(refine bx _ (bZ VX rfl) rfl ?_)|refine Za ?_|refine Zb ?_|apply Zc|apply Zd|apply Ze|apply Zf|refine Zg ?_|refine Zi ?_|refine Zj ?_|refine Zk ?_|refine ZU ?_|refine Yd ?_|refine Yh fun _=>?_|refine Yr ?_|apply YE|refine YR ?_|fail)
 rw [show ((l.length:Int) - 1).toNat=n by omega];refine aY (lK g (some ⟨gl,0,none⟩) c o (l.take n) R) rfl (cj (show cz _ (nF (.slice (some ⟨gl,0,none⟩) l.length c) l::cK g [.slice (some ⟨gl,0,none⟩) n c,.int .i64 (o:Int)] Xz (0,0)::R) from zE) (cj (nP (lo:=n) zo) ?_)) ⟨rfl,rfl⟩;rw [mH CZ];simp only [lK,nF,ft];exact zE
theorem KP (g:Nat) (ad:Option Addr) (c o:Nat) (l:List AE) (hf:∀ x∈l,x.fits) (hn:0<l.length) (hl:l.length≤100000) :
 Ct prog 288 #[pL g] e (lK g ad c o l R) (fun v' L'=>v'=Uf (l.getD 0 kg)∧L'=lK g ad c o (pU l) R):=by
 obtain ⟨n,AX⟩:∃ n,l.length=n+1:=⟨l.length - 1,by omega⟩
 have l3:(l.length:Int) - 1=(n:Int):=by omega
 have h1:=la (l:=l) (i:=0) (j:=n) zo zo;have h2:=mY n (gK l 0 n) 0 n (by rw [dH];omega) (by rw [dH];omega);have h3:=ze n (gK l 0 n) 0 n n (by rw [dH];omega) (by rw [dH];omega) zo (aS _)
 have h4:(gK l 0 n).getD n kg=l.getD 0 kg:=by
  unfold gK;rw [ax,List.getElem?_set_self (by simp;omega)]
  rfl
 have hlen:=h2.length_eq;rw [dH] at hlen
 have XD:pU l=(lI n (gK l 0 n) 0 n).take n:=by unfold pU;rw [show l.length - 1=n by omega]
 have XE:=KO R e g ad c o (lI n (gK l 0 n) 0 n) n zo zo;rw [h3,h4,← XD] at XE
 have XF:=zp R e g ad c o (gK l 0 n) 0 n (fun x hx=>hf x (h1.mem_iff.1 hx)) (by rw [dH];omega) (by rw [dH];omega) (by rw [dH];omega);rw [← l3] at XF
 refine a8 (args:=[_]) func288 rfl ntmps288 results288 rfl ?_
 (repeat' first|refine bC (Do.C0 rfl rfl ?_)|refine bC (Do.zk (i:=0) (j:=n) rfl rfl (congrArg (fun z=>some (Value.int .i64 z)) l3) rfl hn zo ?_)|refine Za ?_|refine Zb ?_|apply Zc|apply Zd|apply Ze|apply Zf|refine ZU ?_|fail)
 refine aZ rfl rfl XF ?_;rintro _ _ ⟨⟨b,rfl⟩,rfl⟩;refine wB ?_;refine bC (Do.invoke (xs:=[]) (vs:=[]) rfl rfl rfl (fun w hs=>SA w _) XE ?_)
 rintro _ _ ⟨rfl,rfl⟩;refine wB ?_;exact aY (lK g ad c o (pU l) R) rfl zE ⟨rfl,rfl⟩
def SB (g o:Nat) (l:List AE) (ad:Option Addr) (c:Nat):cJ:=dI (lK g ad c o l [])
def sG (g o:Nat) (l:List AE):cJ:=Ex fun ad=>Ex fun c=>SB g o l ad c
theorem HW {g o:Nat} {l:List AE} {R:List cJ} {P:Program} {f:FuncId} {args:Array Value} {e:World} {Post:Value→List cJ→Prop}
 (h:∀ ad c,Ct P f args e (lK g ad c o l R) Post):Ct P f args e (sG g o l::R) Post :=
 Ct.ex .zero fun ad=>Ct.ex .zero fun c=>(h ad c).cL (cT (M:=lK g ad c o l []) (L:=R))
theorem BM {g o:Nat} {l:List AE} {R:List cJ} {ad:Option Addr} {c:Nat}:cz (lK g ad c o l R) (sG g o l::R) :=
 cj (dR (M:=lK g ad c o l []) (L:=R)) (cj (fu (f:=fun c=>SB g o l ad c) c) (fu (f:=fun ad=>Ex fun c=>SB g o l ad c) ad))
theorem vJ :
 Ct prog 236 #[] e R (fun v' L'=>∃ g,v'=pt g∧L'=sG g 0 []::R):=by
 refine a8 (args:=[]) func236 rfl ntmps236 results236 rfl ?_
 (repeat (refine wA ?_;intros))
 rename_i g;exact aY (sG g 0 []::R) rfl (cj (bh (dv CY 3)) (BM (g:=g) (o:=0) (l:=[]) (ad:=none) (c:=0))) ⟨g,rfl,rfl⟩
theorem KQ (g o:Nat) (l:List AE) (t w:Nat) (hf:∀ x∈l,x.fits) (ht:t≤1000000000) (hw:w≤1000000000) (ho:o≤1000000000) (hl:l.length≤100000) :
 Ct prog 286 #[pt g,.int .i64 (t:Int),.int .i64 (w:Int)] e (sG g o l::R) (fun v' L'=>v'=.tuple #[]∧L'=sG g (o+1) (pK l ⟨t,o,w⟩)::R):=by
 refine HW fun ad c=>?_
 refine a8 (args:=[_,_,_]) func286 rfl ntmps286 results286 rfl ?_;refine W.seq ?_;refine bk (id:=0) [] R mixed ?_
 (refine tM 0 ?_;refine tN 1 ?_;refine tF 2 ?_;refine tM 4 ?_;refine tM 5 ?_;refine tN 6 ?_;refine tF 7 ?_)
 (refine tM 9 ?_)
 refine tk 3 _ rfl (bZ HT rfl) ?_;refine tO 8 ?_;refine bN (bp rfl zR) rfl ⟨fun _=>zE,?_⟩
 (refine tk 10 _ rfl (bL rfl zF) ?_)
 refine tk 11 (Uf ⟨t,o,w⟩) rfl (bZ VX rfl) ?_;refine tO 12 ?_;refine bg rfl rfl (HV R e g ad c o l ⟨t,o,w⟩ hf ⟨ht,ho,hw⟩ hl) ?_;rintro _ _ ⟨rfl,ef,c1,rfl⟩;refine ⟨fun _=>zE,?_⟩;refine bf zK ?_;refine wB ?_;exact bT (sG g (o+1) (pK l ⟨t,o,w⟩)::R) rfl (cj (show cz _ (lK g ef c1 (o+1) (pK l ⟨t,o,w⟩) R) from zE) BM) ⟨rfl,rfl⟩
theorem HX (g o:Nat) (ad:Option Addr) (c:Nat) (l:List AE) :
 Ct prog 287 #[pt g] e (lK g ad c o l R) (fun v' L'=>v'=.tuple #[.int .i64 ((l.getD 0 kg).jC:Int),.int .i64 ((l.getD 0 kg).il:Int),.bool (decide (0<l.length))]∧L'=lK g ad c o l R):=by
 refine a7 (pn (.succ .zero)) ?_;rintro ⟨lM,c',hv,h3,h4,h5⟩
 cases hv
 refine a8 (args:=[_]) func287 rfl ntmps287 results287 rfl ?_
 by_cases hz:l.length=0
 ·have u7:l=[]:=List.length_eq_zero_iff.1 hz;subst u7;refine wB ?_;exact aY (lK g ad c o [] R) rfl zE ⟨rfl,rfl⟩
 rcases h5 with ⟨-,-,h5⟩|⟨gl,rfl⟩
 ·omega
 have BL:0<l.length:=by omega
 have r1:dZ (lK g (some ⟨gl,0,none⟩) c o l R) gl (0+0*3) (l[0]'BL).cells:=dZ.elem (bb (.succ .zero)) CZ (ab BL);rw [mh BL,ay BL]
 generalize l[0]'BL=a at *
 have ra:Rd (lK g (some ⟨gl,0,none⟩) c o l R) ⟨gl,0+0+0,none⟩ (.int .i64 (a.jC:Int)):=r1.OC (k:=0) rfl;have rw':Rd (lK g (some ⟨gl,0,none⟩) c o l R) ⟨gl,0+0+2,none⟩ (.int .i64 (a.il:Int)):=r1.OC (k:=2) rfl;refine wB ?_;refine bk (id:=3) [15,16] (lK g (some ⟨gl,0,none⟩) c o l R) mixed ?_
 (refine tM 0 ?_;refine tN 1 ?_;refine tF 2 ?_;refine tL 3 ?_;refine tk 4 _ rfl (bD rfl rfl zo) ?_;refine tF 5 ?_;refine tL 6 ?_;refine tM 7 ?_;refine tN 8 ?_;refine tF 9 ?_;refine tL 10 ?_;refine tk 11 _ rfl (bD rfl rfl zo) ?_;refine tF 12 ?_;refine tL 13 ?_;refine tA 14 ?_;(refine tO 15 ?_;refine dV (bj rfl) ?_);(refine tO 16 ?_;refine dV (bj rfl) ?_))
 refine bf zK ?_;refine wB ?_;exact aY (lK g (some ⟨gl,0,none⟩) c o l R) rfl zE ⟨rfl,rfl⟩
theorem BN (g o:Nat) (l:List AE) (now:Int) (hf:∀ x∈l,x.fits) (hl:l.length≤100000) :
 Ct prog 247 #[pt g,.int .i64 now] e (sG g o l::R) (fun v' L'=>(¬ (0<l.length∧((l.getD 0 kg).jC:Int)≤now)∧v'=.tuple #[.int .i64 0,.bool false]∧L'=sG g o l::R)∨(0<l.length∧((l.getD 0 kg).jC:Int)≤now∧v'=.tuple #[.int .i64 ((l.getD 0 kg).il:Int),.bool true]∧L'=sG g o (pU l)::R)):=by
 refine HW fun ad c=>?_
 refine a8 (args:=[_,_]) func247 rfl ntmps247 results247 rfl ?_;refine wB ?_;refine aZ rfl rfl (HX R e g o ad c l) ?_;rintro _ _ ⟨rfl,rfl⟩
 by_cases hz:0<l.length
 rotate_left
 ·rw [aq hz];refine wB ?_;exact aY (sG g o l::R) rfl BM (.inl ⟨fun q=>hz q.1,rfl,rfl⟩)
 rw [ay hz]
 by_cases hle:((l.getD 0 kg).jC:Int)≤now
 rotate_left
 ·generalize (l.getD 0 kg).jC=jC at *
  refine wB ?_
  all_goals exact aY (sG g o l::R) rfl BM (.inl ⟨fun q=>hle q.2,rfl,rfl⟩)
 have XE:=KP R e g ad c o l hf hz hl
 generalize l.getD 0 kg=a at *
 have hfa:∀ w,(Instr.field CY (.agg #[.int .i64 (a.jC:Int),.int .i64 (a.ord:Int),.int .i64 (a.il:Int)]) 2).run prog w=.ok (.int .i64 (a.il:Int)) w:=fun w=>by kernel_rfl
 (repeat' first|(refine bx _ (bZ HT rfl) rfl ?_)|refine Za ?_|refine Zb ?_|apply Zc|apply Zd|apply Ze|apply Zf|refine Zg ?_|refine Zh ?_|refine Zm ?_|refine Zn ?_|refine Zy ?_|refine ZH ?_|refine YA ?_|apply YC|refine YN ?_|fail)
 refine aZ rfl rfl XE ?_;rintro _ _ ⟨rfl,rfl⟩
 (repeat' first|(refine bx _ (cD.typeAssert VY rfl) rfl ?_)|(refine bx _ (cD.Sx hfa rfl) rfl ?_)|refine Zb ?_|apply Ze|apply Zf|apply YE)
 exact aY (sG g o (pU l)::R) rfl BM (.inr ⟨hz,hle,rfl,rfl⟩)
theorem uB (a:AE) (gw w:Nat) (hg:Rd R ⟨gw,0,none⟩ (.int .i64 (w:Int))) :
 Ct prog 305 #[.agg a.cells.toArray,pt gw] e R (fun v' L'=>v'=.bool (decide (a.il=w))∧R=L'):=by
 refine a8 (args:=[_,_]) func305 rfl ntmps305 results305 rfl ?_
 (repeat' first|refine Zb ?_|apply Zc|apply Zd|apply Ze|apply Zf|refine Zh ?_|refine Zi ?_|refine ZO (fun _=>?_) fun _=>?_|refine Yg fun _=>?_|apply YE)
 all_goals first
  | exact aY R rfl zE ⟨by rw [ay zo];rfl,rfl⟩
  | exact aY R rfl zE ⟨by rw [aq zo];rfl,rfl⟩
end Go.Proofs
namespace Go.Proofs
attribute [local irreducible] Bs.cD Bs.Do Bs.O Bs.W Bs.Fin Bs.A Bs.Ct Bs.cE Bs.Rd Bs.Sat Bs.cK Bs.Ob Bs.dE Bs.View Bs.cz Bs.Ex Bs.dI Bs.Pu Bs.eY Bs.dN Bs.dZ
open Go.Bs
open Tryz
variable (R:List cJ) (e:World)
theorem Fa (v:Value) (l:List AE) (gw w:Nat) (hv:cE R 3 v l.length (l.flatMap AE.cells)) (hg:Rd R ⟨gw,0,none⟩ (.int .i64 (w:Int))) (hl:l.length≤100000) :
 Ct prog 313 #[v,.func (.func 305) #[] #[pt gw]] e R (fun v' L'=>(∃ k:Int,v'=.int .i64 k∧((k = -1∧∀ i,i<l.length→(l.getD i kg).il≠w)∨∃ j:Nat,k=j∧j<l.length∧(l.getD j kg).il=w∧∀ i,i<j→(l.getD i kg).il≠w))∧R=L'):=by
 refine a7 (hv.shape zo) ?_;rintro ⟨⟨ad,cap,rfl,h3,h4,h5,h6⟩,_⟩;refine a8 (args:=[_,_]) func313 rfl ntmps313 results313 rfl ?_;refine wB ?_;refine bq (ι:=Nat) (fun i=>[(0,.slice ad l.length cap),(1,.func (.func 305) #[] #[pt gw]),(7,.int .i64 (l.length:Int)),(8,.int .i64 (i:Int))]) (fun _=>R) (fun i=>i≤l.length∧∀ j,j<i→(l.getD j kg).il≠w) (fun i=>l.length - i) 0 ⟨aH _,fun j h=>absurd h (Nat.not_lt_zero j)⟩ zS aX ?_;rintro i ⟨h1,h2⟩
 by_cases cO:i<l.length
 rotate_left
 ·refine wB ?_;exact aY R rfl aX ⟨⟨-1,rfl,.inl ⟨rfl,fun j hj=>h2 j zo⟩⟩,rfl⟩
 rcases h6 with h6|⟨gl,ol,rfl⟩
 ·omega
 have hr:dZ R gl (ol+i*3) (l[i]'cO).cells:=dZ.elem hv CZ (ab cO);have tg:=mh cO
 generalize l[i]'cO=a at *
 (repeat' first|(refine O.dy rfl hr rfl rfl ?_)|refine Za ?_|refine Zb ?_|apply Zc|apply Zd|apply Ze|apply Zf|refine ZA ?_|refine Yx ?_|refine Yz ?_|apply YB|apply YC)
 refine bC (Do.gB (us:=[]) (ws:=[pt gw]) rfl rfl rfl (uB _ e a gw w hg) ?_)
 rintro _ _ ⟨rfl,rfl⟩
 by_cases hw:a.il=w
 ·rw [ay hw];refine wB ?_;exact aY R rfl aX ⟨⟨i,rfl,.inr ⟨i,rfl,cO,by rw [tg];exact hw,h2⟩⟩,rfl⟩
 ·rw [aq hw];refine wB ?_;refine bi (i+1) ⟨cO,fun j hj=>?_⟩ zo zS aX
  by_cases A3:j=i
  ·subst A3;rw [tg];exact hw
  ·exact h2 j zo
abbrev oA (w:Nat) (a:AE):Bool:=decide (a.il≠w)
theorem filter_all {l:List AE} {w:Nat} (h:∀ i,i<l.length→(l.getD i kg).il≠w):l.filter (oA w)=l:=List.filter_eq_self.2 fun a ha=>by
 obtain ⟨i,hi,rfl⟩:=List.mem_iff_getElem.1 ha;have:=h i hi;rw [mh hi] at this
 exact ay this
theorem KR (ad:Option Addr) (c:Nat) (l:List AE) (gw w:Nat) (hg:Rd R ⟨gw,0,none⟩ (.int .i64 (w:Int))) (hl:l.length≤100000) :
 Ct prog 304 #[.slice ad l.length c,.func (.func 305) #[] #[pt gw]] e (nF (.slice ad l.length c) l::R) (fun v' L'=>v'=.slice ad (l.filter (oA w)).length c∧L'=nF (.slice ad (l.filter (oA w)).length c) (l.filter (oA w))::R):=by
 refine a7 (pn .zero) ?_;rintro ⟨lM,c',hv,h3,h4,h5⟩
 cases hv
 refine a8 (args:=[_,_]) func304 rfl ntmps304 results304 rfl ?_;refine wB ?_;refine aZ rfl rfl (Fa _ e _ l gw w (bb .zero) hg.tail hl) ?_;rintro _ _ ⟨⟨k,rfl,hk⟩,rfl⟩;rcases hk with ⟨rfl,eT⟩|⟨k,rfl,Ol,hkw,hkb⟩
 ·rw [filter_all eT];refine wB ?_;exact aY (nF (.slice ad l.length c) l::R) rfl aX ⟨rfl,rfl⟩
 rcases h5 with ⟨-,-,h5⟩|⟨g,rfl⟩
 ·omega
 simp only [maxLen] at h4
 have Q3:((k:Int)+1)=((k+1:Nat):Int):=by omega
 have VZ:l.take k=(l.take (k+1)).filter (oA w):=by
  rw [aD Ol,List.filter_append];rw [mh Ol] at hkw
  rw [filter_all (l:=l.take k) (w:=w) (fun i hi=>by
   rw [aF] at hi
   have:=hkb i zo
   rwa [ax,List.getElem?_take_of_lt zo,← ax])]
  simp [oA,hkw]
 refine wB ?_;refine bq (ι:=Nat × Nat × List AE) (fun i=>[(0,.slice (some ⟨g,0,none⟩) l.length c),(1,.func (.func 305) #[] #[pt gw]),(5,.int .i64 (i.1:Int)),(6,.int .i64 (i.2.1:Int))]) (fun i=>dE CY 3 (.slice (some ⟨g,0,none⟩) l.length c) l.length (i.2.2.flatMap AE.cells)::R) (fun i=>i.1<i.2.1∧i.2.1≤l.length∧i.2.2.length=l.length∧i.2.2.take i.1=(l.take i.2.1).filter (oA w)∧i.2.2.drop i.2.1=l.drop i.2.1) (fun i=>l.length - i.2.1) (k,k+1,l) ⟨by dsimp only;omega,Ol,rfl,VZ,rfl⟩ zS zE ?_;rintro ⟨i,j,cur⟩ ⟨h1,h2,h6,h7,h8⟩;dsimp only at h1 h2 h6 h7 h8 ⊢
 by_cases cO:j<l.length
 rotate_left
 ·rw [aG (l:=l) zo] at h7
  have e2:(l.length:Int).toNat=l.length:=rfl;refine wB ?_;refine bC (Do.clear (o:=i*3) (g:=g) (c:=c) (kk:=l.length) rfl .zero rfl (by simp [Value.oneCell',Value.cells]) (by simp;omega) (.inr ?_) fun zs hz=>?_)
  ·unfold cutAt;rw [aB (by simp;omega)]
   simp [Addr.add_lit]
  have DF:(l.filter (oA w)).length=i:=by rw [← h7,aF];omega
  have hx:(cur.flatMap AE.cells).length=l.length*3:=by rw [A7 CZ,h6]
  have tG:=nP (E:=CY) (n:=3) (ad:=some ⟨g,0,none⟩) (k:=l.length) (lo:=i) (c:=c) (R:=R) (xs:=(cur.flatMap AE.cells).take (i*3)++zs++(cur.flatMap AE.cells).drop (i*3+(l.length - (i:Int).toNat)*3)) zo
  have jt:(((cur.flatMap AE.cells).take (i*3)++zs++(cur.flatMap AE.cells).drop (i*3+(l.length - (i:Int).toNat)*3)).take (i*3))=(l.filter (oA w)).flatMap AE.cells:=by
   rw [aM,List.take_append_of_le_length (by rw [aF];omega),List.take_take,Nat.min_self,mH CZ,h7]
  rw [jt] at tG
  refine wB ?_;refine aY (nF (.slice (some ⟨g,0,none⟩) (l.filter (oA w)).length c) (l.filter (oA w))::R) rfl (cj tG ?_) ⟨by rw [DF];rfl,rfl⟩;simp only [nF,DF];exact zE
 have hcj:cur[j]'zo=l[j]'cO:=by
  have:=congrArg (fun q=>q[0]?) h8;simp only [List.getElem?_drop,Nat.add_zero] at this
  rw [ab zo,ab cO] at this
  exact Option.some.inj this
 have ft:l.take (j+1)=l.take j++[l[j]'cO]:=aD cO
 have hr:dZ (dE CY 3 (.slice (some ⟨g,0,none⟩) l.length c) l.length (cur.flatMap AE.cells)::R) g (0+j*3) (l[j]'cO).cells:=by
  rw [← hcj];exact dZ.elem (bb .zero) CZ (ab zo)
 generalize l[j]'cO=a at *
 (repeat' first|(refine O.dy rfl hr rfl rfl ?_)|refine Za ?_|apply Zc|apply Zd|apply Ze|apply Zf|refine Zj ?_|refine Zk ?_|refine ZA ?_|refine Yh fun _=>?_|refine Yx ?_|refine Yz ?_|apply YB|apply YC|refine YR ?_|fail)
 rename_i gv;refine bC (Do.gB (us:=[]) (ws:=[pt gw]) rfl rfl rfl (uB _ e a gw w (hg.cL zE)) ?_)
 rintro _ _ ⟨rfl,rfl⟩;have hdj:cur.drop (j+1)=l.drop (j+1):=by rw [← List.drop_drop,← List.drop_drop,h8]
 by_cases hw:a.il=w
 ·rw [ay hw];refine wB ?_;refine bi (i,j+1,cur) ⟨by dsimp only;omega,cO,h6,?_,hdj⟩ zd zS zE;dsimp only;rw [ft,List.filter_append,← h7]
  simp [oA,hw]
 ·rw [aq hw];have eK:=HO (l:=cur) (i:=i) (a:=a) zo;refine wB ?_;refine bC (Do.ow rfl rfl rfl (by intro v hv;simp only [AE.cells,aQ,aP,or_false] at hv;rcases hv with rfl|rfl|rfl<;>rfl) (.succ .zero) (by simp only [aN,List.length_nil];omega) ?_)
  rw [aC,eK];refine wB ?_;refine bi (i+1,j+1,cur.set i a) ⟨by dsimp only;omega,cO,by dsimp only;rw [List.length_set];exact h6,?_,?_⟩ zd zS zE
  ·dsimp only;rw [ft,List.filter_append,← h7,List.take_set,aD zo,List.set_append_right _ _ (by simp;omega)]
   simp [oA,hw,Nat.min_eq_left (show i≤cur.length by omega)]
  ·dsimp only;rw [List.drop_set_of_lt zo,hdj]
theorem uC (g o:Nat) (l:List AE) (w:Nat) (hf:∀ x∈l,x.fits) (hl:l.length≤100000) :
 Ct prog 285 #[pt g,.int .i64 (w:Int)] e (sG g o l::R) (fun v' L'=>(∃ z:Int,v'=.int .i64 z)∧L'=sG g o (gL l w)::R):=by
 refine HW fun ad c=>?_
 have DF:(l.filter (oA w)).length≤l.length:=List.length_filter_le _ _;refine a8 (args:=[_,_]) func285 rfl ntmps285 results285 rfl ?_
 (repeat (refine wA ?_;intros))
 rename_i gw;refine aZ rfl rfl (Ct.at zP (KR _ e ad c l gw w zR hl)) ?_;rintro _ _ ⟨rfl,rfl⟩;have gy:=fun L:List cJ=>HS L e g ad c o (l.filter (oA w)) (fun x hx=>hf x (List.mem_filter.1 hx).1) zo
 have hca:gL l w=uA ((l.filter (oA w)).length / 2) (l.filter (oA w)):=rfl;have hpm:=(sD ((l.filter (oA w)).length / 2) (l.filter (oA w)) zo).length_eq
 generalize l.filter (oA w)=fl at *
 (repeat' first|(refine bx _ (bZ HT rfl) rfl ?_)|refine Za ?_|apply Zc|apply Zd|apply Ze|apply Zf|refine Zg ?_|refine Zh ?_|refine Yd ?_|fail)
 refine aZ rfl rfl ((gy (cK gw [.int .i64 (w:Int)] 3 (0,0)::R)).cL zE) ?_;rintro _ _ ⟨rfl,rfl⟩;rw [← hca] at hpm ⊢
 refine wB ?_;exact aY (sG g o (gL l w)::R) rfl (cj (show cz _ (lK g ad c o (gL l w) R) from zE) BM) ⟨⟨_,rfl⟩,rfl⟩
theorem mi (n:Nat) :
 Ct prog 118 #[.int .i64 (n:Int)] e R (fun v' L'=>v'=.bool (decide (n≤256))∧R=L'):=by
 refine a8 (args:=[_]) func118 rfl ntmps118 results118 rfl ?_
 by_cases h:n≤256
 ·rw [ay h];refine wB ?_
  all_goals exact aY R rfl aX ⟨rfl,rfl⟩
 ·rw [aq h];refine wB ?_
  all_goals exact aY R rfl aX ⟨rfl,rfl⟩
abbrev rC:TypeId:=109
theorem Fb (vl vw vm vp vr va vq vc:Value) (p:jG) (b:wR) (hp:j7 R vl vw p) (sW:p.right) (hb:rQ R vm vp vr va vq vc b) (hw:b.wf) :
 Ct prog 134 #[.agg (lE p vl vw).toArray,.agg (sE b vm vp vr va vq vc).toArray] e R (fun v' L'=>v'=.int .i64 (mg p b)∧R=L'):=by
 have SC:=hw.fi;have Gf:=hw.dc;refine a7 (cn hp.log) fun o1=>?_
 refine a7 hp.ew.one fun o2=>?_
 refine a7 (cn hb.fi) fun o3=>?_
 refine a7 hb.path.one fun o4=>?_
 refine a7 (cn hb.kP.root) fun o5=>?_
 refine a7 hb.kP.sig.parts.one fun o6=>?_
 refine a7 hb.kP.sig.path.one fun o7=>?_
 refine a7 hb.gs.one fun o8=>?_
 obtain ⟨ts,fy,V4,Hk⟩:=hb.path;refine a8 (args:=[_,_]) func134 rfl ntmps134 results134 rfl ?_
 (repeat (refine wA ?_;intros))
 rename_i g2 g3;refine aZ rfl rfl (kA _ e vm b.fi (hb.fi.cL zE) zo) ?_;rintro v1 _ ⟨mD,Kj⟩
 by_cases hm:jk b.fi
 rotate_left
 ·obtain ⟨rfl,rfl⟩:=Kj hm;have hE:mg p b=12:=by unfold mg;rw [aI hm]
  rw [hE]
  (repeat' first|refine Za ?_|refine Zb ?_|apply Zc|apply Zd|apply Ze|apply Zf|refine Zh ?_|refine Zj ?_|refine Yh fun _=>?_|apply YB|refine YN ?_|refine YR ?_|(apply O.df;exact rfl;exact zP;(first|(simp only [aC,Nat.add_zero,Nat.reduceAdd,List.drop_succ_cons,List.drop_zero,List.take_succ_cons,List.take_zero];done)|(simp only [aC,Nat.add_zero,Nat.reduceAdd,List.drop_succ_cons,List.drop_zero,List.take_succ_cons,List.take_zero];exact rfl));exact rfl;exact rfl))
  refine aZ rfl rfl (j8 _ e vl vw p (hp.cL zE) sW) ?_;rintro _ _ ⟨rfl,rfl⟩;refine wB ?_;exact aY R rfl zE ⟨rfl,rfl⟩
 obtain ⟨Mm,vf,vn,rfl,hf,hn,rfl⟩:=mD hm;refine bm (cn (hf.cL (cG zP))) fun o9=>?_
 refine bm (cn (hn.cL (cG zP))) fun Ng=>?_
 (repeat' first|refine Za ?_|refine Zb ?_|apply Zc|apply Zd|apply Ze|apply Zf|refine Zh ?_|refine Zj ?_|refine Yh fun _=>?_|apply YB|refine YN ?_|refine YR ?_|(apply O.df;exact rfl;exact zP;(first|(simp only [aC,Nat.add_zero,Nat.reduceAdd,List.drop_succ_cons,List.drop_zero,List.take_succ_cons,List.take_zero];done)|(simp only [aC,Nat.add_zero,Nat.reduceAdd,List.drop_succ_cons,List.drop_zero,List.take_succ_cons,List.take_zero];exact rfl));exact rfl;exact rfl))
 refine aZ rfl rfl (j8 _ e vl vw p (hp.cL zE) sW) ?_;rintro _ _ ⟨rfl,rfl⟩;have aa5:∀ L,dZ L g3 0 (sE b vm vp vr va vq vc)→dZ L g3 4 (dS b.kP vr va vq):=fun L h=>h.part 4 5
 have afn:∀ L,dZ L g3 0 (sE b vm vp vr va vq vc)→dZ L g3 1 [.int .i64 (b.idx:Int),.int .i64 (b.size:Int),vp]:=fun L h=>h.part 1 3
 (repeat' first|(refine O.dy rfl (aa5 _ (by (repeat first|exact bU .zero|apply dZ.tail);done)) rfl rfl ?_)|refine Za ?_|refine Zb ?_|apply Zc|apply Zd|apply Ze|apply Zf|refine Zh ?_|refine Zi ?_|refine Zy ?_|refine ZQ ?_|refine YA ?_|fail)
 refine aZ rfl rfl (kz _ e vl vr va vq p.log b.kP (hp.log.cL zE) (hb.kP.cL zE) Gf) ?_;rintro _ _ ⟨rfl,rfl⟩
 by_cases hv:b.kP.ii p.log
 rotate_left
 ·have hE:mg p b=30:=by unfold mg;rw [aB (fun q=>q hm),aI hv]
  rw [hE,aq hv];refine wB ?_;exact aY R rfl zE ⟨rfl,rfl⟩
 rw [ay hv];refine wB ?_;refine bz (id:=9) [] mixed ?_;have hE1:∀ q:Prop,(q↔(b.size=b.kP.dc.size∧pi b.idx b.size b.path (cY b.fi) b.kP.dc.root))→¬ q→mg p b=31:=fun q hq hn=>by unfold mg;rw [aB (fun q=>q hm),aB (fun q=>q hv),aI (fun h=>hn (hq.2 h))]
 by_cases hs:b.size=b.kP.dc.size
 rotate_left
 ·rw [hE1 _ Iff.rfl (fun h=>hs h.1)]
  (refine tF 0 ?_;refine tF 1 ?_;refine tL 2 ?_;refine tF 3 ?_;refine tL 4 ?_;refine tk 5 (.bool true) rfl (cD.iQ (cD.neq rfl rfl) zy) ?_;refine tM 6 ?_;refine bc 7 rfl rfl zK zE rfl ?_;refine bc 8 rfl rfl zK zE rfl ?_;refine bc 9 rfl rfl zK zE rfl ?_;refine bc 10 rfl rfl zK zE rfl ?_;refine bc 12 rfl rfl zK zE rfl ?_;refine bc 13 rfl rfl zK zE rfl ?_)
  refine bc 11 rfl rfl zK zE rfl ?_;refine bc 14 rfl rfl zK zE rfl ?_
  (refine bc 15 rfl rfl zK zE rfl ?_;refine tk 16 _ rfl (bK rfl rfl) ?_;refine tA 17 ?_)
  refine bf zK ?_;refine wB ?_;exact aY R rfl zE ⟨rfl,rfl⟩
 (refine tF 0 ?_;refine tF 1 ?_;refine tL 2 ?_;refine tF 3 ?_;refine tL 4 ?_;refine tk 5 (.bool false) rfl (cD.no (cD.neq rfl rfl) zn) ?_;refine tM 6 ?_;refine dt 7 _ rfl (ba rfl) ?_;refine dt 8 _ rfl (cD.df rfl zP zI zX) ?_;refine dt 9 _ rfl (ba rfl) ?_;refine dt 10 _ rfl (bp rfl zR) ?_;refine dt 12 _ rfl (ba rfl) ?_;refine dt 13 _ rfl (bp rfl zR) ?_)
 refine A.rv 11 rfl rfl zK ?_;refine bg rfl rfl (ug _ e vm b.fi (hb.fi.cL zE) zo) ?_;rintro _ _ ⟨LI,ki,rfl,rfl⟩;refine ⟨fun _=>zE,A.fS zE ?_⟩;refine A.rv 14 rfl rfl zK ?_;have VG:=hw.idx;have Om:=hw.size;refine bg rfl rfl (GY _ e (b.idx:Int) (b.size:Int) vp (.slice LI (cY b.fi).length ki) vr ts (cY b.fi) b.kP.dc.root zo zo (V4.cL zE) (fun x hx=>(Hk x hx).cL zE) (bb zP) (hb.kP.root.cL zE)) ?_;rintro _ _ ⟨rfl,rfl⟩;refine ⟨fun _=>zE,A.fS zE ?_⟩;have Oi:(qm (b.idx:Int) (b.size:Int) ts (cY b.fi)∧qn (b.idx:Int) (b.size:Int) ts (cY b.fi)=b.kP.dc.root)↔pi b.idx b.size b.path (cY b.fi) b.kP.dc.root:=by rw [← fy];exact HK
 rw [decide_eq_decide.2 Oi]
 by_cases Nh:pi b.idx b.size b.path (cY b.fi) b.kP.dc.root
 rotate_left
 ·rw [hE1 _ Iff.rfl (fun h=>Nh h.2),aq Nh]
  (refine dt 15 _ rfl (cD.p8 rfl) ?_;refine tk 16 _ rfl (bI rfl rfl) ?_;refine tA 17 ?_)
  refine bf zK ?_;refine wB ?_;exact aY R rfl zE ⟨rfl,rfl⟩
 rw [ay Nh]
 (refine dt 15 _ rfl (cD.jZ rfl) ?_;refine tk 16 _ rfl (bI rfl rfl) ?_;refine tA 17 ?_)
 refine bf zK ?_;refine wB ?_;refine aZ rfl rfl (Kc _ e vl vw vr vc p b.kP.dc b.eH (hp.cL zE) sW (hb.kP.root.cL zE) Gf (hb.gs.cL zE) (by have:=hw.fE;omega)) ?_;rintro _ _ ⟨rfl,rfl⟩
 by_cases HY:uf p b.kP.dc b.eH
 ·have hE:mg p b=0:=by unfold mg;rw [aB (fun q=>q hm),aB (fun q=>q hv),aB (fun q=>q ⟨hs,Nh⟩),aB (fun q=>q HY)]
  rw [hE,ay HY];refine wB ?_;exact aY R rfl zE ⟨rfl,rfl⟩
 ·have hE:mg p b=33:=by unfold mg;rw [aB (fun q=>q hm),aB (fun q=>q hv),aB (fun q=>q ⟨hs,Nh⟩),aI HY]
  rw [hE,aq HY];refine wB ?_;exact aY R rfl zE ⟨rfl,rfl⟩
theorem C1 (e:World) (v:Value) (ts:List ej) (f:FuncId) (ws:List Value) (St:Nat→List cJ) [i:cI prog f f] (hv:∀ i,cE (St i) 1 v ts.length (ts.map (·.1))) (hl:ts.length≤1000000)
 (hf:∀ (i:Nat) (h:i<ts.length),Ct prog f ([(ts[i]).1]++ws).toArray e (St i) (fun v' L'=>v'=.bool false∧L'=St (i+1))) :
 Ct prog 264 #[v,.func (.func f) #[] ws.toArray] e (St 0) (fun v' L'=>v'=.int .i64 (-1)∧L'=St ts.length):=by
 refine a7 ((hv 0).shape zo) ?_;rintro ⟨⟨ad,cap,rfl,h3,h4,h5,h6⟩,_⟩;refine a8 (args:=[_,_]) func264 rfl ntmps264 results264 rfl ?_;refine wB ?_;refine bq (ι:=Nat) (fun i=>[(0,.slice ad ts.length cap),(1,.func (.func f) #[] ws.toArray),(7,.int .i64 (ts.length:Int)),(8,.int .i64 (i:Int))]) (fun i=>St i) (fun i=>i≤ts.length) (fun i=>ts.length - i) 0 (aH _) zS aX ?_;rintro i h1
 by_cases cO:i<ts.length
 rotate_left
 ·rw [show i=ts.length by omega];refine wB ?_;exact aY (St ts.length) rfl aX ⟨rfl,rfl⟩
 rcases h6 with h6|⟨gl,ol,rfl⟩
 ·omega
 have hr:Rd (St i) ⟨gl,ol+i,none⟩ (ts[i]'cO).1:=(hv i).elem (by rw [aL,ab cO];rfl);have J0:=hf i cO
 generalize (ts[i]'cO).1=y at *
 (repeat' first|(refine bV rfl hr rfl ?_)|refine Za ?_|refine Zb ?_|apply Zc|apply Zd|apply Ze|apply Zf|refine ZA ?_|refine Yw ?_|refine Yz ?_|apply YB|apply YC)
 refine bC (Do.gB (us:=[]) (ws:=ws) rfl rfl rfl J0 ?_)
 rintro _ _ ⟨rfl,rfl⟩;refine wB ?_;exact bi (i+1) cO zo zS aX
theorem xm (e:World) (v:Value) (ts:List ej) (f:FuncId) (ws:List Value) (St:Nat→List cJ) [i:cI prog f f] (hv:∀ i,cE (St i) 1 v ts.length (ts.map (·.1))) (hl:ts.length≤1000000)
 (hf:∀ (i:Nat) (h:i<ts.length),Ct prog f ([(ts[i]).1]++ws).toArray e (St i) (fun v' L'=>v'=.bool false∧L'=St (i+1))) :
 Ct prog 203 #[v,.func (.func f) #[] ws.toArray] e (St 0) (fun v' L'=>v'=.bool false∧L'=St ts.length):=by
 refine a8 (args:=[_,_]) func203 rfl ntmps203 results203 rfl ?_;refine wB ?_;refine aZ rfl rfl (C1 e v ts f ws St hv hl hf) ?_;rintro _ _ ⟨rfl,rfl⟩;refine wB ?_;exact aY (St ts.length) rfl aX ⟨rfl,rfl⟩
theorem KS (g:Nat) (l m:du) (v:Value) (h:db R v m) (hk:l.length+m.length≤140737488355328) :
 Ct prog 123 #[pt g,v] e (Writer g l::R) (fun v' L'=>v'=.bool true∧L'=Writer g (l++m)::R):=by
 refine a7 (cn h.tail) fun o1=>?_
 refine a8 (args:=[_,_]) func123 rfl ntmps123 results123 rfl ?_;refine wB ?_;refine bC (Do.gB (us:=[]) (ws:=[]) rfl rfl rfl (hI R e g l m v h hk) ?_)
 rintro _ _ ⟨rfl,rfl⟩;refine wB ?_;exact aY (Writer g (l++m)::R) rfl aX ⟨rfl,rfl⟩
theorem vK {l:List du} {i:Nat} (h:i<l.length):(l.take (i+1)).flatten=(l.take i).flatten++l[i]'h:=by
 rw [aD h,List.flatten_append];simp
theorem C2 {l:List du} {i:Nat}:(l.take i).flatten.length≤l.flatten.length:=by
 conv=>rhs;rw [← List.take_append_drop i l,List.flatten_append,aa]
 omega
theorem Ax (g g3 g4:Nat) (l m:du) (v:Value) (h:db R v m) (hk:l.length+m.length≤140737488355328) :
 Ct prog 206 #[v,pt g4,pt g3] e (cK g4 [.func (.func 123) #[] #[]] 206 (0,0)::cK g3 [pt g] 151 (0,0)::Writer g l::R)
  (fun v' L'=>v'=.bool false∧L'=cK g4 [.func (.func 123) #[] #[]] 206 (0,0)::cK g3 [pt g] 151 (0,0)::Writer g (l++m)::R):=by
 refine a8 (args:=[_,_,_]) func206 rfl ntmps206 results206 rfl ?_;refine wB ?_;refine bC (Do.gB (us:=[]) (ws:=[]) rfl rfl rfl (Ct.at (.succ (.succ .zero)) (KS _ e g l m v (h.cL zE) hk)) ?_)
 rintro _ _ ⟨rfl,rfl⟩;refine wB ?_;exact aY (cK g4 [.func (.func 123) #[] #[]] 206 (0,0)::cK g3 [pt g] 151 (0,0)::Writer g (l++m)::R) rfl zE ⟨rfl,rfl⟩
theorem C3 (g:Nat) (l:du) (v:Value) (bs:List du) (hv:mO R v bs) (hl:bs.length≤1000) (hk:l.length+bs.flatten.length≤1000000) :
 Ct prog 122 #[pt g,.func (.func 123) #[] #[],v] e (Writer g l::R) (fun v' L'=>v'=.bool true∧L'=Writer g (l++bs.flatten)::R):=by
 refine a7 hv.tail.one fun o1=>?_
 obtain ⟨ts,rfl,tH,Hk⟩:=hv;rw [ae] at hl
 refine a8 (args:=[_,_,_]) func122 rfl ntmps122 results122 rfl ?_
 (repeat (refine wA ?_;intros))
 rename_i g3 g4
 have Oq:=xm e v ts 206 [pt g4,pt g3] (fun i=>cK g4 [.func (.func 123) #[] #[]] 206 (0,0)::cK g3 [pt g] 151 (0,0)::Writer g (l++((ts.map (·.2)).take i).flatten)::R) (fun i=>tH.cL zE) zo (fun i hi=>by
  have Om:i<(ts.map (·.2)).length:=by rw [ae];exact hi
  have XG:=vK Om;have hle:=C2 (l:=ts.map (·.2)) (i:=i+1);rw [XG,aa] at hle
  rw [XG,← aM];rw [List.getElem_map];rw [List.getElem_map] at hle
  exact Ax R e g g3 g4 _ _ _ (Hk _ (aA hi)) (by rw [aa];omega))
 rw [List.take_zero,List.flatten_nil,aK,aG (by rw [ae];omega)] at Oq
 refine aZ rfl rfl Oq ?_;rintro _ _ ⟨rfl,rfl⟩;refine wB ?_;exact aY (Writer g (l++(ts.map (·.2)).flatten)::R) rfl zE ⟨rfl,rfl⟩
theorem C4 (e:World) (v:Value) (ts:List jm) (f:FuncId) (ws:List Value) (St:Nat→List cJ) [i:cI prog f f] (hv:∀ i,cE (St i) 4 v ts.length (ts.flatMap jm.cells)) (hl:ts.length≤1000000)
 (hf:∀ (i:Nat) (h:i<ts.length),Ct prog f ([Value.agg (jm.cells ts[i]).toArray]++ws).toArray e (St i) (fun v' L'=>v'=.bool false∧L'=St (i+1))) :
 Ct prog 266 #[v,.func (.func f) #[] ws.toArray] e (St 0) (fun v' L'=>v'=.int .i64 (-1)∧L'=St ts.length):=by
 refine a7 ((hv 0).shape zo) ?_;rintro ⟨⟨ad,cap,rfl,h3,h4,h5,h6⟩,_⟩;refine a8 (args:=[_,_]) func266 rfl ntmps266 results266 rfl ?_;refine wB ?_;refine bq (ι:=Nat) (fun i=>[(0,.slice ad ts.length cap),(1,.func (.func f) #[] ws.toArray),(7,.int .i64 (ts.length:Int)),(8,.int .i64 (i:Int))]) (fun i=>St i) (fun i=>i≤ts.length) (fun i=>ts.length - i) 0 (aH _) zS aX ?_;rintro i h1
 by_cases cO:i<ts.length
 rotate_left
 ·rw [show i=ts.length by omega];refine wB ?_;exact aY (St ts.length) rfl aX ⟨rfl,rfl⟩
 rcases h6 with h6|⟨gl,ol,rfl⟩
 ·omega
 have hr:dZ (St i) gl (ol+i*4) (jm.cells (ts[i]'cO)):=dZ.elem (hv i) jm.len (ab cO);have J0:=hf i cO
 generalize ts[i]'cO=y at *
 (repeat' first|(refine O.dy rfl hr rfl rfl ?_)|refine Za ?_|refine Zb ?_|apply Zc|apply Zd|apply Ze|apply Zf|refine ZA ?_|refine Yx ?_|refine Yz ?_|apply YB|apply YC)
 refine bC (Do.gB (us:=[]) (ws:=ws) rfl rfl rfl J0 ?_)
 rintro _ _ ⟨rfl,rfl⟩;refine wB ?_;exact bi (i+1) cO zo zS aX
theorem xn (e:World) (v:Value) (ts:List jm) (f:FuncId) (ws:List Value) (St:Nat→List cJ) [i:cI prog f f] (hv:∀ i,cE (St i) 4 v ts.length (ts.flatMap jm.cells)) (hl:ts.length≤1000000)
 (hf:∀ (i:Nat) (h:i<ts.length),Ct prog f ([Value.agg (jm.cells ts[i]).toArray]++ws).toArray e (St i) (fun v' L'=>v'=.bool false∧L'=St (i+1))) :
 Ct prog 208 #[v,.func (.func f) #[] ws.toArray] e (St 0) (fun v' L'=>v'=.bool false∧L'=St ts.length):=by
 refine a8 (args:=[_,_]) func208 rfl ntmps208 results208 rfl ?_;refine wB ?_;refine aZ rfl rfl (C4 e v ts f ws St hv hl hf) ?_;rintro _ _ ⟨rfl,rfl⟩;refine wB ?_;exact aY (St ts.length) rfl aX ⟨rfl,rfl⟩
abbrev KT:Value:=.func (.func 126) #[] #[]
theorem C5 (g g3 g4:Nat) (l:du) (t:jm) (ht:jm.ok R t) (hw:t.1.fY<4) (hr:t.1.sig.right) (hk:l.length≤1000000) :
 Ct prog 209 #[.agg (jm.cells t).toArray,pt g4,pt g3] e (cK g4 [KT] 209 (0,0)::cK g3 [pt g] 151 (0,0)::Writer g l::R)
  (fun v' L'=>v'=.bool false∧L'=cK g4 [KT] 209 (0,0)::cK g3 [pt g] 151 (0,0)::Writer g (l++eU t.1)::R):=by
 obtain ⟨⟨w,sg⟩,up,uq⟩:=t;obtain ⟨t1,t2⟩:=ht;dsimp only at t1 t2 hw hr ⊢
 have mU:cz (cK g4 [KT] 209 (0,0)::cK g3 [pt g] 151 (0,0)::Writer g l::R) R:=zE;refine a7 (t1.cL mU).parts.one fun o4=>?_
 refine a7 (t1.cL mU).path.one fun o5=>?_
 refine a8 (args:=[_,_,_]) func209 rfl ntmps209 results209 rfl ?_
 (repeat (refine wA ?_;intros))
 refine bC (Do.gB (us:=[]) (ws:=[]) rfl rfl rfl (Ct.at zP (Bn _ e g l up uq ⟨w,sg⟩ (t1.cL zE) hw hr hk)) ?_)
 rintro _ _ ⟨rfl,rfl⟩;refine wB ?_;exact aY (cK g4 [KT] 209 (0,0)::cK g3 [pt g] 151 (0,0)::Writer g (l++eU ⟨w,sg⟩)::R) rfl zE ⟨rfl,rfl⟩
theorem Fc (g:Nat) (l:du) (v:Value) (gs:List kO) (hv:oW R v gs) (hl:gs.length≤1000) (hw:∀ x∈gs,x.fY<4) (hr:∀ x∈gs,x.sig.right) (hk:l.length+(lJ gs).length≤1000000) :
 Ct prog 125 #[pt g,KT,v] e (Writer g l::R) (fun v' L'=>v'=.bool true∧L'=Writer g (l++lJ gs)::R):=by
 refine a7 hv.tail.one fun o1=>?_
 obtain ⟨ts,rfl,tH,Hk⟩:=hv;rw [ae] at hl
 refine a8 (args:=[_,_,_]) func125 rfl ntmps125 results125 rfl ?_
 (repeat (refine wA ?_;intros))
 rename_i g3 g4
 have Oq:=xn e v ts 209 [pt g4,pt g3] (fun i=>cK g4 [KT] 209 (0,0)::cK g3 [pt g] 151 (0,0)::Writer g (l++(((ts.map (·.1)).map eU).take i).flatten)::R) (fun i=>tH.cL zE) zo (fun i hi=>by
  have Om:i<((ts.map (·.1)).map eU).length:=by rw [ae,ae];exact hi
  have XG:=vK Om;have hle:=C2 (l:=(ts.map (·.1)).map eU) (i:=i);have QV:=hk;unfold lJ at QV
  rw [XG,← aM,List.getElem_map,List.getElem_map];exact C5 R e g g3 g4 _ _ (Hk _ (aA hi)) (hw _ (aE.2 ⟨_,aA hi,rfl⟩)) (hr _ (aE.2 ⟨_,aA hi,rfl⟩)) (by rw [aa];omega))
 rw [List.take_zero,List.flatten_nil,aK,aG (by rw [ae,ae];omega)] at Oq
 refine aZ rfl rfl Oq ?_;rintro _ _ ⟨rfl,rfl⟩;refine wB ?_;exact aY (Writer g (l++lJ (ts.map (·.1)))::R) rfl zE ⟨rfl,rfl⟩
theorem C6 (vm vp vr va vq vc:Value) (b:wR) (hb:rQ R vm vp vr va vq vc b) (hw:b.wf) :
 Ct prog 50 #[.agg (sE b vm vp vr va vq vc).toArray] e R (fun v' L'=>∃ ad k,v'=.tuple #[.slice ad (fT b).length k,.int .i64 0]∧L'=cS (.slice ad (fT b).length k) (fT b)::R):=by
 have SC:=hw.fi;have h1:=hw.idx;have h2:=hw.size;have h3:=hw.DH;have h4:=hw.fE;have Gf:=hw.dc;have nK:=pj hw;have DF:=fa hw.jN;have tH:=iO hw.dc hw.sig;have CF:=rh hw.sigs;refine a7 (cn hb.fi) fun o3=>?_
 refine a7 hb.path.one fun o4=>?_
 refine a7 (cn hb.kP.root) fun o5=>?_
 refine a7 hb.kP.sig.parts.one fun o6=>?_
 refine a7 hb.kP.sig.path.one fun o7=>?_
 refine a7 hb.gs.one fun o8=>?_
 obtain ⟨ts,fy,V4,Hk⟩:=hb.path;have oH:ts.length=b.path.length:=by rw [← fy,ae]
 obtain ⟨gs,vL,Xu,J9⟩:=hb.gs;have V5:gs.length=b.eH.length:=by rw [← vL,ae]
 refine a7 (V4.shape zo) ?_;rintro ⟨⟨rP,cp,rfl,-,-,-,-⟩,_⟩;refine a7 (Xu.shape zo) ?_;rintro ⟨⟨adc,cc,rfl,-,-,-,-⟩,_⟩
 have O2:jF ts=true:=by
  unfold jF;rw [decide_eq_true_iff];refine ⟨by omega,fun a ha=>hw.jN _ ?_⟩;rw [← fy];exact aE.2 ⟨a,ha,rfl⟩
 refine a8 (args:=[_]) func50 rfl ntmps50 results50 rfl ?_
 (repeat (refine wA ?_;intros))
 rename_i g1;refine aZ rfl rfl (mi _ e b.idx) ?_;rintro _ _ ⟨rfl,rfl⟩;rw [ay h1];refine wB ?_;refine aZ rfl rfl (mi _ e b.size) ?_;rintro _ _ ⟨rfl,rfl⟩;rw [ay h2];refine wB ?_;refine aZ rfl rfl (nh _ e (.slice rP ts.length cp) ts (V4.cL zE) (fun x hx=>(Hk x hx).cL zE)) ?_;rintro _ _ ⟨rfl,rfl⟩;rw [O2];refine wB ?_;refine aZ rfl rfl (jh _ e) ?_;rintro _ _ ⟨gw,rfl,rfl⟩;refine wB ?_;refine aZ rfl rfl (x5 _ e gw [] b.fi vm (hb.fi.cL zE) (by simp only [List.length_nil];omega) SC) ?_;rintro _ _ ⟨rfl,rfl⟩;rw [show []++be (List.length b.fi) 2++b.fi=enc b.fi by simp [enc]];have el:=iy b.fi;refine wB ?_;refine aZ rfl rfl (gD _ e gw _ b.idx zo zo) ?_;rintro _ _ ⟨rfl,rfl⟩;refine wB ?_;refine aZ rfl rfl (gD _ e gw _ b.size zo (by simp only [aa,cX];omega)) ?_;rintro _ _ ⟨rfl,rfl⟩;refine wB ?_;rw [qp (n:=ts.length) zo];refine aZ rfl rfl (mz _ e gw _ _ (by simp only [aa,cX];omega)) ?_;rintro _ _ ⟨rfl,rfl⟩;refine wB ?_;refine aZ rfl rfl (C3 _ e gw _ (.slice rP ts.length cp) b.path ⟨ts,fy,V4.cL zE,fun x hx=>(Hk x hx).cL zE⟩ zo (by simp only [aa,cX,aj];omega)) ?_;rintro _ _ ⟨rfl,rfl⟩
 (repeat' first|refine Za ?_|apply Zc|apply Zd|apply Ze|apply Zf|refine Zh ?_|(apply O.df;exact rfl;exact zP;(first|(simp only [aC,Nat.add_zero,Nat.reduceAdd,List.drop_succ_cons,List.drop_zero,List.take_succ_cons,List.take_zero];done)|(simp only [aC,Nat.add_zero,Nat.reduceAdd,List.drop_succ_cons,List.drop_zero,List.take_succ_cons,List.take_zero];exact rfl));exact rfl;exact rfl))
 refine aZ rfl rfl (Bk _ e gw _ vr va vq b.kP (hb.kP.cL zE) hw.dc hw.sig (by simp only [aa,cX,aj];omega)) ?_;rintro _ _ ⟨rfl,rfl⟩;refine wB ?_;rw [qp (n:=gs.length) zo];refine aZ rfl rfl (mz _ e gw _ _ (by simp only [aa,cX,aj];omega)) ?_;rintro _ _ ⟨rfl,rfl⟩;refine wB ?_;refine aZ rfl rfl (Fc _ e gw _ (.slice adc gs.length cc) b.eH ⟨gs,vL,Xu.cL zE,fun x hx=>(J9 x hx).cL zE⟩ zo hw.ew hw.sigs (by simp only [aa,cX,aj];omega)) ?_;rintro _ _ ⟨rfl,rfl⟩
 have kM:enc b.fi++be b.idx 4++be b.size 4++[UInt8.ofNat ts.length]++b.path.flatten++hZ b.kP++[UInt8.ofNat gs.length]++lJ b.eH=fT b:=by
  unfold fT;rw [oH,V5];simp only [aM,List.cons_append,List.nil_append,List.singleton_append]
 rw [kM];refine wB ?_;refine aZ rfl rfl (hJ _ e gw (fT b) zo) ?_;rintro _ _ ⟨ad,k,rfl,rfl⟩;refine wB ?_;exact aY (cS (.slice ad (fT b).length k) (fT b)::R) rfl zE ⟨ad,k,rfl,rfl⟩
abbrev nG:TypeId:=96
abbrev fU (v:Value) (l:List jm):cJ:=dE nG 4 v l.length (l.flatMap jm.cells)
abbrev pM:List Value:=sE aa0 nY nY nY nY nY nY
theorem Ni {A B C D E F:cJ} {R:List cJ}:cz (A::B::C::D::E::F::R) (dI [A,B,C,D,E,F]::R):=dR (M:=[A,B,C,D,E,F])
end Go.Proofs
namespace Go.Proofs
attribute [local irreducible] Bs.cD Bs.Do Bs.O Bs.W Bs.Fin Bs.A Bs.Ct Bs.cE Bs.Rd Bs.Sat Bs.cK Bs.Ob Bs.dE Bs.View Bs.cz Bs.Ex Bs.dI Bs.Pu Bs.eY Bs.dN Bs.dZ
open Go.Bs
open Tryz
variable (R:List cJ) (e:World)
theorem po (gl ld lk:Nat) (seed:du) (ls:fM) (i:Nat) (vr va vq vg:Value) (s:jV) (gs:List kO) (hs:fj R vr va vq s) (hf:s.sig.fits) (vL:oW R vg gs) (Ug:∀ g∈gs,g.sig.fits) (CF:gs.length≤1000) (ln:s.dc.size≤ls.cF.length) (pH:ls.cF.length≤256) (hi:i≤1000000) :
 Ct prog 49 #[pt gl,.int .i64 (i:Int),.agg (dS s vr va vq).toArray,vg] e (cU gl ld lk seed ls::R)
  (fun v' L'=>(i<s.dc.size→∃ (M:cJ) (um up ur ua uq uc:Value),v'=.tuple #[.agg (sE ⟨ls.cF.getD i [],i,s.dc.size,iH ((ls.cF.take s.dc.size).map cY) i,s,gs⟩ um up ur ua uq uc).toArray,.int .i64 0]∧rQ [M] um up ur ua uq uc ⟨ls.cF.getD i [],i,s.dc.size,iH ((ls.cF.take s.dc.size).map cY) i,s,gs⟩∧L'=M::cU gl ld lk seed ls::R)
   ∧ (¬ i<s.dc.size→v'=.tuple #[.agg pM.toArray,.int .i64 22]∧L'=cU gl ld lk seed ls::R)):=by
 have mU:cz (cU gl ld lk seed ls::R) R:=zE;refine a7 (cn (hs.root.cL mU)) fun o5=>?_
 refine a7 (hs.sig.cL mU).parts.one fun o6=>?_
 refine a7 (hs.sig.cL mU).path.one fun o7=>?_
 obtain ⟨ts,fy,Uh,J9⟩:=vL;have oH:ts.length=gs.length:=by rw [← fy,ae]
 refine a7 ((Uh.cL mU).shape zo) ?_;rintro ⟨⟨DI,cg,rfl,h3,h4,h5,h6⟩,_⟩;simp only [maxLen] at h4
 refine bH (args:=[_,_,_,_]) func49 rfl ntmps49 results49 rfl ?_
 (repeat (refine wA ?_;intros))
 rename_i g6 g8;refine aZ rfl rfl (Ct.at zP (qy _ e gl ld lk seed ls (i:Int) zo)) ?_;rintro _ _ (⟨lT,rfl,rfl⟩|⟨hi0,VG,LI,ci,rfl,rfl⟩)
 ·have U6:¬ i<s.dc.size:=by omega
  refine wB ?_;apply br
  ·exact zV
  exact ⟨cU gl ld lk seed ls::R,zE,fun h=>absurd h U6,fun _=>⟨rfl,rfl⟩⟩
 rw [show ((i:Int)).toNat=i from rfl]
 by_cases Nj:i<s.dc.size
 rotate_left
 ·refine wB ?_;apply br
  ·exact zV
  exact ⟨cU gl ld lk seed ls::R,zE,fun h=>absurd h Nj,fun _=>⟨rfl,rfl⟩⟩
 refine wB ?_;refine aZ rfl rfl (Ct.at zP (Ks _ e gl ld lk seed ls i s.dc.size ln Nj)) ?_;rintro _ _ ⟨rP,cp,out,rfl,lu,rfl⟩
 generalize hpq:iH ((ls.cF.take s.dc.size).map cY) i=XH at *
 generalize sf:ls.cF.getD i []=item at *
 (repeat' first|refine W.pF (id:=10) (fun j:Nat × cJ × Value × Value × Value=>[(3,.slice DI ts.length cg),(8,pt g8),(9,.int .i64 0),(14,pt j.1)]) (fun j=>cK j.1 (sE ⟨item,i,s.dc.size,XH,s,[]⟩ (.slice LI item.length ci) (.slice rP out.length cp) j.2.2.1 j.2.2.2.1 j.2.2.2.2 nY) rC (0,0)::j.2.1::cS (.slice LI item.length ci) item::cV (.slice rP out.length cp) out::cH out::cU gl ld lk seed ls::cK g8 pM rC (0,0)::R) (fun j=>fj [j.2.1] j.2.2.1 j.2.2.2.1 j.2.2.2.2 s) ?_ ?_|refine Za ?_|refine Zb ?_|apply Zc|apply Zd|apply Ze|apply Zf|refine ZQ ?_|refine Yh fun _=>?_|refine YA ?_|apply YC|refine YN ?_|refine YR ?_|fail)
 rotate_left
 ·refine ⟨?_⟩;rename_i Ml;refine W.fe [(3,.slice DI ts.length cg),(6,pt g6),(8,pt g8),(9,.int .i64 0),(10,.slice LI item.length ci),(12,pt Ml)] zS ?_
  (repeat' first|refine Za ?_|refine Zb ?_|apply Zc|apply Zd|apply Ze|apply Zf|refine Zh ?_|refine Zi ?_|refine Zj ?_|refine Zk ?_|refine Zl ?_|refine Zm ?_|refine Zn ?_|refine Zo ?_|refine Zq ?_|refine Zs ?_|refine Zt ?_|refine Zu ?_|refine Zy ?_|refine Zz ?_|refine ZA ?_|refine ZB ?_|refine ZC (fun _=>?_) fun _=>?_|refine ZJ ?_|refine ZK ?_|refine ZM ?_|refine ZN ?_|refine ZO (fun _=>?_) fun _=>?_|refine ZP ?_|refine ZQ ?_|refine ZS ?_|refine Z7 ?_|refine Z8 ?_|refine Ya ?_|refine Yb ?_|refine Yd ?_|refine Ye ?_|refine Yg fun _=>?_|refine Yh fun _=>?_|refine Yi fun _=>?_|refine Ym ?_|refine Yw ?_|refine Yx ?_|refine Yy ?_|refine Yz ?_|refine YA ?_|apply YB|apply YC|apply YD|apply YE|apply YF|apply YG|apply YH|apply YI|apply YJ|refine YK ?_|refine YN ?_|refine YQ ?_|refine YR ?_|(apply O.df;exact rfl;exact zP;(first|(simp only [aC,Nat.add_zero,Nat.reduceAdd,List.drop_succ_cons,List.drop_zero,List.take_succ_cons,List.take_zero];done)|(simp only [aC,Nat.add_zero,Nat.reduceAdd,List.drop_succ_cons,List.drop_zero,List.take_succ_cons,List.take_zero];exact rfl));exact rfl;exact rfl))
  refine bk (id:=9) [6] (cK Ml [.int .i64 (i:Int),.int .i64 (s.dc.size:Int),.slice rP out.length cp] 40 (0,0)::cK g6 (dS s vr va vq) 87 (0,0)::R) mixed ?_
  (refine tM 0 ?_;refine tJ 1 ?_;refine tJ 2 ?_)
  refine A.two 3 5 rfl rfl rfl rfl zK ?_ ?_
  ·refine bg rfl rfl (gQ _ e vr va vq s (hs.cL zE) hf) ?_;rintro _ _ ⟨N,ur,ua,uq,rfl,hN,rfl⟩;refine ⟨fun _=>zE,?_⟩;refine A.cB (cn (hN.root.cL (cG zP))) fun o8=>?_
   refine A.cB (hN.sig.cL (cG zP)).parts.one fun o9=>?_
   refine A.cB (hN.sig.cL (cG zP)).path.one fun Ng=>?_
   (refine tk 4 _ rfl (bL rfl zF) ?_)
   refine tO 5 ?_;refine bQ (cs:=pM) rfl rfl fun Ay=>⟨fun _=>zE,?_⟩
   refine tO 6 ?_;refine zg ?_;refine ⟨zN,?_⟩;refine bf zK ?_;exact bJ (Ay,N,ur,ua,uq) hN zS zE
  ·refine bQ (cs:=pM) rfl rfl fun Ay=>⟨fun _=>zE,?_⟩
   refine tO 3 ?_;refine bg rfl rfl (gQ _ e vr va vq s (hs.cL zE) hf) ?_;rintro _ _ ⟨N,ur,ua,uq,rfl,hN,rfl⟩;refine ⟨fun _=>zE,?_⟩;refine A.cB (cn (hN.root.cL (cG zP))) fun o8=>?_
   refine A.cB (hN.sig.cL (cG zP)).parts.one fun o9=>?_
   refine A.cB (hN.sig.cL (cG zP)).path.one fun Ng=>?_
   (refine tk 4 _ rfl (bL rfl zF) ?_)
   refine tO 6 ?_;refine zg ?_;refine ⟨zN,?_⟩;refine bf zK ?_;exact bJ (Ay,N,ur,ua,uq) hN zS zE
 rintro ⟨Ay,N,ur,ua,uq⟩ hN;dsimp only at hN ⊢
 refine W.cB (cn (hN.root.cL (cG zP))) fun o8=>?_
 refine W.cB (hN.sig.cL (cG zP)).parts.one fun o9=>?_
 refine W.cB (hN.sig.cL (cG zP)).path.one fun Ng=>?_
 refine wB ?_;refine bq (ι:=Nat × List jm × cJ × Option Addr × Nat) (fun j=>[(8,pt g8),(9,.int .i64 0),(14,pt Ay),(54,.slice DI ts.length cg),(55,.int .i64 (ts.length:Int)),(56,.int .i64 (j.1:Int))]) (fun j=>cK Ay (sE ⟨item,i,s.dc.size,XH,s,[]⟩ (.slice LI item.length ci) (.slice rP out.length cp) ur ua uq (.slice j.2.2.2.1 j.2.1.length j.2.2.2.2)) rC (0,0)::fU (.slice j.2.2.2.1 j.2.1.length j.2.2.2.2) j.2.1::j.2.2.1::N::cS (.slice LI item.length ci) item::cV (.slice rP out.length cp) out::cH out::cU gl ld lk seed ls::cK g8 pM rC (0,0)::R) (fun j=>j.1≤ts.length∧j.2.1.map (·.1)=gs.take j.1∧∀ t∈j.2.1,jm.ok [j.2.2.1] t) (fun j=>ts.length - j.1) (0,[],cH [],none,0) ⟨aH _,rfl,fun t ht=>by cases ht⟩ zS (cj (dK) (cj (dv nG 4) zE)) ?_;rintro ⟨k,us,Mx,m7,cu⟩ ⟨hk,gF,SD⟩;dsimp only at hk gF SD ⊢
 have LG:us.length=k:=by have:=congrArg List.length gF;rw [ae,aF] at this;omega
 by_cases cO:k<ts.length
 rotate_left
 ·rw [aG zo] at gF
  obtain ⟨M,hM⟩:∃ M:cJ,M=dI [cS (.slice LI item.length ci) item,cV (.slice rP out.length cp) out,cH out,N,fU (.slice m7 us.length cu) us,Mx]:=⟨_,rfl⟩
  have ho:cz [M] [cS (.slice LI item.length ci) item,cV (.slice rP out.length cp) out,cH out,N,fU (.slice m7 us.length cu) us,Mx]:=by rw [hM];exact cT (M:=[_,_,_,_,_,_]) (L:=[])
  have tI:rQ [M] (.slice LI item.length ci) (.slice rP out.length cp) ur ua uq (.slice m7 us.length cu) ⟨item,i,s.dc.size,XH,s,gs⟩ :=
   ⟨(bb .zero).cL ho,mO.cL ⟨out,lu,bb (.succ .zero),dQ.dY (.succ (.succ .zero))⟩ ho,(hN.cL (cG zP)).cL ho,oW.cL ⟨us,gF,bb zP,fun t ht=>(SD t ht).cL (cG zP)⟩ ho⟩
  refine wB ?_;apply br
  ·exact zV
  refine ⟨M::cU gl ld lk seed ls::R,cj ?_ (by rw [hM];exact Ni),fun _=>⟨M,.slice LI item.length ci,.slice rP out.length cp,ur,ua,uq,.slice m7 us.length cu,rfl,tI,rfl⟩,fun h=>absurd Nj h⟩;exact zE
 rcases h6 with h6|⟨gg,og,rfl⟩
 ·omega
 have G5:dZ R gg (og+k*4) (jm.cells (ts[k]'cO)):=dZ.elem Uh jm.len (ab cO);have jt:=J9 _ (aA cO);have zj:k<gs.length:=by omega
 have EO:(ts[k]'cO).1=gs[k]'zj:=by
  have:=congrArg (fun l=>l[k]?) fy;simp only [aL,ab cO,ab zj,Option.map_some,Option.some.injEq] at this
  exact this
 have ft:gs.take (k+1)=gs.take k++[gs[k]'zj]:=aD zj;have J0:=Ug _ (aA zj);rw [← EO] at ft J0
 generalize ts[k]'cO=y at *
 obtain ⟨⟨w,sg⟩,up,QU⟩:=y;obtain ⟨t1,t2⟩:=jt;dsimp only at t1 t2 J0 ft G5
 refine W.cB (t1.cL zE).parts.one fun V6=>?_
 refine W.cB (t1.cL zE).path.one fun XI=>?_
 (repeat (refine wA ?_;intros))
 rename_i g16;have TT:List.length [Value.int .i64 (w:Int),.int .i64 (sg.idx:Int),up,QU]=4:=rfl;dsimp only [jm.cells];refine bk (id:=13) [6,7] (cK g16 (iA ⟨w,sg⟩ up QU) nG (0,0)::cK Ay (sE ⟨item,i,s.dc.size,XH,s,[]⟩ (.slice LI item.length ci) (.slice rP out.length cp) ur ua uq (.slice m7 us.length cu)) rC (0,0)::R) mixed ?_
 (refine tF 0 ?_;refine tL 1 ?_;refine tJ 2 ?_)
 refine tO 3 ?_;refine bg rfl rfl (oX _ e up QU ⟨w,sg⟩ (t1.cL zE) J0) ?_;rintro _ _ ⟨N2,wp,wq,rfl,nr,rfl⟩;refine ⟨fun _=>zE,?_⟩;refine A.cB (nr.cL (cG zP)).parts.one fun o13=>?_
 refine A.cB (nr.cL (cG zP)).path.one fun o14=>?_
 refine tO 4 ?_;refine bE (n:=4) (cs:=iA ⟨w,sg⟩ wp wq) rfl rfl rfl rfl zQ rfl (fun gb=>⟨fun _=>zE,?_⟩);refine tO 5 ?_;refine bo rfl rfl rfl (show cR _ (fU (.slice m7 us.length cu) us) _ from zP) (bO (n:=4) (c:=1) zP rfl zl) rfl rfl zO zm zo fun ef k1 _=>⟨fun _=>zE,?_⟩
 refine tO 6 ?_;refine dV (ba rfl) ?_;refine tO 7 ?_;refine tf ?_;refine ⟨zN,?_⟩;refine bf zK ?_;refine wB ?_;have eT:cz [dI [Mx,N2]] [Mx]:=cj (cT (M:=[_,_]) (L:=[])) (bh bF);have iI:cz [dI [Mx,N2]] [N2]:=cj (cT (M:=[_,_]) (L:=[])) (cz.drop (bh bF));refine bi (k+1,us++[(⟨w,sg⟩,wp,wq)],dI [Mx,N2],ef,k1) ⟨cO,by dsimp only;rw [ft,ah,gF];rfl,fun t ht=>?_⟩ zd zS ?_
 ·rcases aJ.1 ht with ht|ht
  ·exact (SD t ht).cL eT
  ·rw [an.1 ht];exact ⟨nr.cL iI,t2⟩
 ·simp only [fU,aa,aj,aW,aU,List.flatMap_nil,aK];exact cj (ep (A:=Mx) (B:=N2) zP zP) zE
abbrev sX:TypeId:=321
abbrev Pw:TypeId:=330
abbrev FW.cells (x:FW):List Value:=[.int .i64 (x.size:Int),.int .i64 (x.tries:Int),.bool x.kept]
theorem SE (x:FW):x.cells.length=3:=rfl
abbrev lf (v:Value) (l:List FW):cJ:=dE Pw 3 v l.length (l.flatMap FW.cells)
structure eM where
 ga:Nat
 vl:Value
 vw:Value
 al:Option Addr
 cl:Nat
 ur:Value
 up:Value
 uq:Value
 ak:Option Addr
 ck:Nat
 ts:List jm
 dr:Value
 dp:Value
 dq:Value
 ve:Value
structure eM.ok (a:eM) (M:cJ) (p:jG) (retry n:Nat) (s:cP):Prop where
 wV:j7 [M] a.vl a.vw p
 cur:fj [M] a.ur a.up a.uq s.dU
 Ui:a.ts.map (·.1)=s.kept
 Q4:∀ t∈a.ts,jm.ok [M] t
 done:fj [M] a.dr a.dp a.dq s.done
 dk:oW [M] a.ve s.dk
 st:s.ok p.ew.length n
 pr:p.right
 low:1≤retry
 high:retry≤100
abbrev eM.cells (a:eM) (p:jG) (retry:Nat) (s:cP):List Value:=lE p a.vl a.vw++[.int .i64 (retry:Int),pt a.ga,.slice a.al s.st.length a.cl]++dS s.dU a.ur a.up a.uq++[.bool s.cur.isSome,.slice a.ak a.ts.length a.ck]++dS s.done a.dr a.dp a.dq++[a.ve]
abbrev pq (g:Nat) (p:jG) (retry:Nat) (s:cP) (a:eM) (M:cJ) (R:List cJ):List cJ :=
 cK g (a.cells p retry s) sX (0,0)::M::lf (.slice a.al s.st.length a.cl) s.st::fU (.slice a.ak a.ts.length a.ck) a.ts::sG a.ga s.ord s.ag::R
def SF (g:Nat) (p:jG) (retry n:Nat) (s:cP) (a:eM) (M:cJ):cJ:=dI (Pu (a.ok M p retry n s)::pq g p retry s a M [])
def lh (g:Nat) (p:jG) (retry n:Nat) (s:cP):cJ:=Ex fun a=>Ex fun M=>SF g p retry n s a M
theorem vM {g:Nat} {p:jG} {retry n:Nat} {s:cP} {R:List cJ} {P:Program} {f:FuncId} {args:Array Value} {e:World} {Post:Value→List cJ→Prop}
 (h:∀ (a:eM) (M:cJ),a.ok M p retry n s→Ct P f args e (pq g p retry s a M R) Post):Ct P f args e (lh g p retry n s::R) Post :=
 Ct.ex .zero fun a=>Ct.ex .zero fun M=>Ct.cL (a7 (p:=a.ok M p retry n s) (fun w x=>(jR x).1) fun hp=>(h a M hp).cL (cz.drop aX)) (cT (M:=Pu (a.ok M p retry n s)::pq g p retry s a M []) (L:=R))
theorem lX {g:Nat} {p:jG} {retry n:Nat} {s:cP} {a:eM} {M:cJ} {R:List cJ} (h:a.ok M p retry n s):cz (pq g p retry s a M R) (lh g p retry n s::R) :=
 cj (na h) (cj (dR (M:=Pu (a.ok M p retry n s)::pq g p retry s a M []) (L:=R)) (cj (fu (f:=fun M=>SF g p retry n s a M) M) (fu (f:=fun a=>Ex fun M=>SF g p retry n s a M) a)))
theorem sH (g ga o t w:Nat) (l:List AE) (hg:Rd R ⟨g,4,none⟩ (pt ga)) (hf:∀ x∈l,x.fits) (ht:t≤1000000000) (hw:w≤1000000000) (ho:o≤1000000000) (hl:l.length≤100000) :
 Ct prog 246 #[pt g,.int .i64 (t:Int),.int .i64 (w:Int)] e (sG ga o l::R) (fun v' L'=>v'=.tuple #[]∧L'=sG ga (o+1) (pK (gL l w) ⟨t,o,w⟩)::R):=by
 have Cd:=HL (l:=l) (w:=w);refine a8 (args:=[_,_,_]) func246 rfl ntmps246 results246 rfl ?_
 (repeat' first|(refine bV rfl hg.tail rfl ?_)|refine Za ?_|apply Zc|apply Zd|refine Zg ?_|refine Zh ?_|fail)
 refine aZ rfl rfl (uC R e ga o l w hf hl) ?_;rintro _ _ ⟨⟨z,rfl⟩,rfl⟩
 (repeat' first|(refine bV rfl hg.tail rfl ?_)|refine Za ?_|apply Zd|apply Ze|apply Zf|refine Zg ?_|refine Zh ?_|fail)
 refine aZ rfl rfl (KQ R e ga o (gL l w) t w (fun x hx=>hf x (List.mem_filter.1 ((jy l w).mem_iff.1 hx)).1) ht hw ho zo) ?_;rintro _ _ ⟨rfl,rfl⟩
 (repeat (refine wA ?_;intros))
 exact bT (sG ga (o+1) (pK (gL l w) ⟨t,o,w⟩)::R) rfl aX ⟨rfl,rfl⟩
theorem pu (L:List cJ):fj L nY nY nY vI :=
 ⟨cE.nil _ _,CO L,⟨by decide,by decide⟩⟩
theorem zq {n:Nat} {x:FW}:(List.replicate n x).flatMap FW.cells=(List.replicate n (FW.cells x)).flatten:=by
 rw [List.flatMap_def,List.map_replicate]
theorem KU (vl vw:Value) (p:jG) (retry:Nat) (hp:j7 R vl vw p) (sW:p.right) (h1:1≤retry) (h2:retry≤100) :
 Ct prog 164 #[.agg (lE p vl vw).toArray,.int .i64 (retry:Int)] e R (fun v' L'=>∃ g,v'=.tuple #[pt g,.int .i64 0]∧L'=lh g p retry 0 (Au p.ew.length)::R):=by
 have Fe:=sW.fE;have V7:=sW.log;refine a7 (cn hp.log) fun o2=>?_
 refine a7 hp.ew.one fun o3=>?_
 obtain ⟨ts,fy,tH,Hk⟩:=hp.ew;have oH:ts.length=p.ew.length:=by rw [← fy,ae]
 refine a7 (tH.shape zo) ?_;rintro ⟨⟨HN,cw,rfl,-,-,-,-⟩,_⟩;refine a8 (args:=[_,_]) func164 rfl ntmps164 results164 rfl ?_
 (repeat (refine wA ?_;intros))
 rename_i g2;refine aZ rfl rfl (j8 _ e vl (.slice HN ts.length cw) p (hp.cL zE) sW) ?_;rintro _ _ ⟨rfl,rfl⟩;refine wB ?_;have Ff:=fun (L:List cJ) (h:cz L R)=>CX L e vl (.slice HN ts.length cw) p (hp.cL h) zo zo (fun b hb=>by have:=sW.kR b hb;omega)
 refine bk (id:=3) [10,11] (cK g2 (lE p vl (.slice HN ts.length cw)) 106 (0,0)::R) mixed ?_
 (refine tJ 0 ?_;refine tM 2 ?_;refine tF 4 ?_;refine tL 5 ?_;refine tk 6 _ rfl (bM rfl) ?_)
 refine A.two 1 7 rfl rfl rfl rfl zK ?_ ?_
 ·refine bg rfl rfl (Ff _ zE) ?_;rintro _ _ ⟨Mp,ul,uw,rfl,Gg,rfl⟩;refine ⟨fun _=>zE,?_⟩;refine A.cB (cn (Gg.log.cL (cG zP))) fun o4=>?_
  refine A.cB (Gg.ew.cL (cG zP)).one fun o5=>?_
  refine A.two 3 7 rfl rfl rfl rfl zK ?_ ?_
  ·refine bg rfl rfl (vJ _ e) ?_;rintro _ _ ⟨ga,rfl,rfl⟩;refine ⟨fun _=>zE,?_⟩;refine tO 7 ?_;refine Do.sF (c:=ts.length) (zs:=FW.cells lr) rfl rfl rfl rfl rfl rfl zm zo fun gs=>⟨fun _=>zE,?_⟩
   refine tk 8 _ rfl (bL rfl zF) ?_;refine tO 9 ?_;refine Do.box (cs:=eM.cells ⟨ga,ul,uw,some ⟨gs,0,none⟩,ts.length,nY,nY,nY,none,0,[],nY,nY,nY,nY⟩ p retry (Au ts.length)) rfl (by simp [Au,cP.dU,vI];rfl) rfl fun gf=>⟨fun _=>zE,?_⟩
   refine tO 10 ?_;refine dV (bj rfl) ?_;refine tO 11 ?_;refine dV (bj rfl) ?_;refine bf zK ?_;refine wB ?_
   have j1:eM.ok ⟨ga,ul,uw,some ⟨gs,0,none⟩,ts.length,nY,nY,nY,none,0,[],nY,nY,nY,nY⟩ Mp p retry 0 (Au ts.length) :=
    ⟨Gg,pu _,rfl,fun t ht=>absurd ht aP,pu _,⟨[],rfl,cE.nil _ _,fun t ht=>absurd ht aP⟩,by rw [oH];exact CS _,sW,h1,h2⟩
   rw [← oH];refine aY (lh gf p retry 0 (Au ts.length)::R) rfl (cj (cj (dv nG 4) ?_) (lX j1)) ⟨gf,rfl,rfl⟩;simp only [pq,lf,Au,List.length_replicate,← zq];exact zE
  ·refine Do.sF (c:=ts.length) (zs:=FW.cells lr) rfl rfl rfl rfl rfl rfl zm zo fun gs=>⟨fun _=>zE,?_⟩
   refine tO 3 ?_;refine bg rfl rfl (vJ _ e) ?_;rintro _ _ ⟨ga,rfl,rfl⟩;refine ⟨fun _=>zE,?_⟩;refine tk 8 _ rfl (bL rfl zF) ?_;refine tO 9 ?_;refine Do.box (cs:=eM.cells ⟨ga,ul,uw,some ⟨gs,0,none⟩,ts.length,nY,nY,nY,none,0,[],nY,nY,nY,nY⟩ p retry (Au ts.length)) rfl (by simp [Au,cP.dU,vI];rfl) rfl fun gf=>⟨fun _=>zE,?_⟩
   refine tO 10 ?_;refine dV (bj rfl) ?_;refine tO 11 ?_;refine dV (bj rfl) ?_;refine bf zK ?_;refine wB ?_
   have j1:eM.ok ⟨ga,ul,uw,some ⟨gs,0,none⟩,ts.length,nY,nY,nY,none,0,[],nY,nY,nY,nY⟩ Mp p retry 0 (Au ts.length) :=
    ⟨Gg,pu _,rfl,fun t ht=>absurd ht aP,pu _,⟨[],rfl,cE.nil _ _,fun t ht=>absurd ht aP⟩,by rw [oH];exact CS _,sW,h1,h2⟩
   rw [← oH];refine aY (lh gf p retry 0 (Au ts.length)::R) rfl (cj (cj (dv nG 4) ?_) (lX j1)) ⟨gf,rfl,rfl⟩;simp only [pq,lf,Au,List.length_replicate,← zq];exact zE
 ·refine Do.sF (c:=ts.length) (zs:=FW.cells lr) rfl rfl rfl rfl rfl rfl zm zo fun gs=>⟨fun _=>zE,?_⟩
  refine tO 1 ?_;refine bg rfl rfl (Ff _ zE) ?_;rintro _ _ ⟨Mp,ul,uw,rfl,Gg,rfl⟩;refine ⟨fun _=>zE,?_⟩;refine A.cB (cn (Gg.log.cL (cG zP))) fun o4=>?_
  refine A.cB (Gg.ew.cL (cG zP)).one fun o5=>?_
  refine tO 3 ?_;refine bg rfl rfl (vJ _ e) ?_;rintro _ _ ⟨ga,rfl,rfl⟩;refine ⟨fun _=>zE,?_⟩;refine tk 8 _ rfl (bL rfl zF) ?_;refine tO 9 ?_;refine Do.box (cs:=eM.cells ⟨ga,ul,uw,some ⟨gs,0,none⟩,ts.length,nY,nY,nY,none,0,[],nY,nY,nY,nY⟩ p retry (Au ts.length)) rfl (by simp [Au,cP.dU,vI];rfl) rfl fun gf=>⟨fun _=>zE,?_⟩
  refine tO 10 ?_;refine dV (bj rfl) ?_;refine tO 11 ?_;refine dV (bj rfl) ?_;refine bf zK ?_;refine wB ?_
  have j1:eM.ok ⟨ga,ul,uw,some ⟨gs,0,none⟩,ts.length,nY,nY,nY,none,0,[],nY,nY,nY,nY⟩ Mp p retry 0 (Au ts.length) :=
   ⟨Gg,pu _,rfl,fun t ht=>absurd ht aP,pu _,⟨[],rfl,cE.nil _ _,fun t ht=>absurd ht aP⟩,by rw [oH];exact CS _,sW,h1,h2⟩
  rw [← oH];refine aY (lh gf p retry 0 (Au ts.length)::R) rfl (cj (cj (dv nG 4) ?_) (lX j1)) ⟨gf,rfl,rfl⟩;simp only [pq,lf,Au,List.length_replicate,← zq];exact zE
theorem ns {l:List FW} {i:Nat} (h:i<l.length):l.getD i lr=l[i]'h:=by simp [List.getD,h]
theorem rj {α:Type} {f:α→List Value} {n:Nat} (hf:∀ a,(f a).length=n):∀ (l:List α) (i k:Nat) (h:i<l.length) (a:α) (v:Value),k<n→f a=(f (l[i]'h)).set k v→(l.flatMap f).set (i*n+k) v=(l.set i a).flatMap f
 | [],i,k,h,_,_,_,_=>absurd h (Nat.not_lt_zero i)
 | x::l,0,k,h,a,v,hk,he=>by
  rw [Nat.zero_mul,aC,aU,List.set_cons_zero,aU,List.set_append_left _ _ (by rw [hf];exact hk)];rw [show f a=(f x).set k v from he]
 | x::l,i+1,k,h,a,v,hk,he=>by
  rw [aU,List.set_cons_succ,aU,List.set_append_right _ _ (by rw [hf,Nat.add_mul];omega),hf]
  congr 1
  rw [show (i+1)*n+k - n=i*n+k by rw [Nat.add_mul];omega];exact rj hf l i k (by simpa using h) a v hk he
theorem Fg {l:List FW} {i:Nat} (h:i<l.length) (n:Nat):(l.flatMap FW.cells).set (i*3+1) (.int .i64 (n:Int))=(l.set i { l.getD i lr with tries:=n }).flatMap FW.cells :=
 rj SE l i 1 h _ _ zo (by rw [ns h];rfl)
theorem I3 {l:List FW} {i:Nat} (h:i<l.length) (n:Nat):(l.flatMap FW.cells).set (i*3+0) (.int .i64 (n:Int))=(l.set i { l.getD i lr with size:=n }).flatMap FW.cells :=
 rj SE l i 0 h _ _ zo (by rw [ns h];rfl)
theorem I4 {l:List FW} {i:Nat} (h:i<l.length) (b:Bool):(l.flatMap FW.cells).set (i*3+2) (.bool b)=(l.set i { l.getD i lr with kept:=b }).flatMap FW.cells :=
 rj SE l i 2 h _ _ zo (by rw [ns h];rfl)
theorem SG {l:List FW} {i:Nat} (h:i<l.length):((l.flatMap FW.cells).set (i*3+1) (.int .i64 0)).set (i*3+2) (.bool false)=(l.set i (l.getD i lr).off).flatMap FW.cells:=by
 rw [show (Value.int .i64 0)=.int .i64 ((0:Nat):Int) from rfl,Fg h,I4 (by rw [List.length_set];exact h),List.set_set]
 congr 2
 rw [ns (by rw [List.length_set];exact h),List.getElem_set_self]
 rfl
theorem pw {v:Value} {l:List FW} {L R:List cJ} (p:cR L (lf v l) R):∀ h,dN L h→∃ ad c,v=.slice ad l.length c∧l.length≤c∧c≤maxLen∧((ad=none∧c=0∧l.length=0)∨∃ g,ad=some ⟨g,0,none⟩):=fun h hs=>(fP p h hs).1
theorem eM.ok.mono {a:eM} {M:cJ} {p:jG} {retry n m:Nat} {s:cP} (h:a.ok M p retry n s) (hm:n≤m):a.ok M p retry m s:={ h with st:=h.st.mono hm }
theorem Fh (g:Nat) (p:jG) (retry n:Nat) (s:cP) (vr vp vq:Value) (x:jV) (now:Nat) (hx:fj R vr vp vq x) (KV:x.fits) (ht:now≤10000000) (hn:n≤999000) :
 Ct prog 172 #[pt g,.agg (dS x vr vp vq).toArray,.int .i64 (now:Int)] e (lh g p retry n s::R) (fun v' L'=>v'=.bool (decide (s.E7 p x))∧L'=lh g p retry (n+p.ew.length) (s.ie p x now)::R):=by
 refine vM fun a M ha=>?_
 have Fe:=ha.pr.fE;have mU:cz (pq g p retry s a M R) R:=zE;have HD:cz (pq g p retry s a M R) [M]:=cG zP;refine a7 (cn (hx.root.cL mU)) fun o5=>?_
 refine a7 (hx.sig.cL mU).parts.one fun o6=>?_
 refine a7 (hx.sig.cL mU).path.one fun o7=>?_
 refine a7 (cn (ha.wV.log.cL HD)) fun o8=>?_
 refine a7 (pw (show cR (pq g p retry s a M R) (lf (.slice a.al s.st.length a.cl) s.st) _ from zP)) ?_;rintro ⟨lM,c',lU,F7,TW,AY⟩
 cases lU
 have hlen:=ha.st.len;have Ag:1≤s.st.length:=by have:=ha.pr.low;have:=ha.pr.high;omega
 rcases AY with ⟨-,-,AY⟩|⟨gs,rL⟩
 ·omega
 refine a8 (args:=[_,_,_]) func172 rfl ntmps172 results172 rfl ?_;have hga:eM.ok a M p retry n s:=ha
 (repeat' first|refine W.u2 (id:=3) (fun j:Nat=>[(0,pt g),(2,.int .i64 (now:Int)),(4,pt j)]) (fun j=>cK j (dS x vr vp vq) 87 (0,0)::pq g p retry s a M R) (fun _=>s.E7 p x) ?_ ?_|refine Zb ?_|apply Zc|apply Zd|apply Ze|apply Zf|refine Yg fun _=>?_|fail)
 rotate_left
 ·refine ⟨?_⟩;rename_i g4
  (repeat (refine wA ?_;intros))
  refine bz (id:=1) [] mixed ?_
  (refine tM 0 ?_;refine tN 1 ?_;refine tF 2 ?_;refine tF 3 ?_;refine tL 4 ?_;refine tJ 5 ?_)
  refine tO 6 ?_;refine bg rfl rfl (kz _ e a.vl vr vp vq p.log x (ha.wV.log.cL (cG zP)) (hx.cL zE) KV.1) ?_;rintro _ _ ⟨rfl,rfl⟩;refine ⟨fun _=>zE,A.fS zE ?_⟩
  by_cases hb:s.E7 p x
  rotate_left
  ·have hS:s.ie p x now=s:=by unfold cP.ie;rw [aB hb]
   rw [hS,aq hb];have gy:=lX (R:=R) (g:=g) (ha.mono (m:=n+p.ew.length) zo)
   by_cases hv:x.ii p.log
   ·rw [ay hv]
    obtain ⟨c,hc,B9⟩:∃ c,s.cur=some c∧x.dc.size≤c.dc.size:=by
     by_cases h:∃ c,s.cur=some c∧x.dc.size≤c.dc.size
     ·exact h
     ·exact absurd ⟨hv,fun c hc hs=>h ⟨c,hc,hs⟩⟩ hb
    have I1:s.dU=c:=by unfold cP.dU;rw [hc];rfl
    have BO:s.cur.isSome=true:=by rw [hc];rfl
    dsimp only [pq,eM.cells] at gy ⊢
    rw [I1,BO] at gy ⊢
    (refine tk 7 _ rfl (cD.jZ rfl) ?_;refine tM 8 ?_;refine dt 9 _ rfl (bu rfl) ?_;refine dt 10 _ rfl (bn rfl) ?_;refine dt 11 _ rfl (ba rfl) ?_;refine dt 12 _ rfl (bp rfl zR) ?_;refine dt 13 _ rfl (bu rfl) ?_;refine dt 14 _ rfl (ba rfl) ?_;refine dt 15 _ rfl (ba rfl) ?_;refine dt 16 _ rfl (bp rfl zR) ?_;refine dt 17 _ rfl (bu rfl) ?_;refine dt 18 _ rfl (bn rfl) ?_;refine dt 19 _ rfl (ba rfl) ?_;refine dt 20 _ rfl (ba rfl) ?_;refine dt 21 _ rfl (ba rfl) ?_;refine dt 22 _ rfl (bp rfl zR) ?_;refine dt 23 (.bool true) rfl (cD.iQ (cD.leq rfl rfl) zy) ?_;refine dt 24 _ rfl (bK rfl rfl) ?_;refine tk 25 _ rfl (bI rfl rfl) ?_)
    refine bf zK ?_;refine wB ?_;exact aY (lh g p retry (n+p.ew.length) s::R) rfl (cj zE gy) ⟨rfl,rfl⟩
   ·rw [aq hv]
    (refine tk 7 _ rfl (cD.p8 rfl) ?_;refine tM 8 ?_;refine bc 9 rfl rfl zK zE rfl ?_;refine bc 10 rfl rfl zK zE rfl ?_;refine bc 11 rfl rfl zK zE rfl ?_;refine bc 12 rfl rfl zK zE rfl ?_;refine bc 13 rfl rfl zK zE rfl ?_;refine bc 14 rfl rfl zK zE rfl ?_;refine bc 15 rfl rfl zK zE rfl ?_;refine bc 16 rfl rfl zK zE rfl ?_;refine bc 17 rfl rfl zK zE rfl ?_;refine bc 18 rfl rfl zK zE rfl ?_;refine bc 19 rfl rfl zK zE rfl ?_;refine bc 20 rfl rfl zK zE rfl ?_;refine bc 21 rfl rfl zK zE rfl ?_;refine bc 22 rfl rfl zK zE rfl ?_;refine bc 23 rfl rfl zK zE rfl ?_;refine bc 24 rfl rfl zK zE rfl ?_;refine tk 25 _ rfl (bK rfl rfl) ?_)
    refine bf zK ?_;refine wB ?_;exact aY (lh g p retry (n+p.ew.length) s::R) rfl (cj (show cz _ (pq g p retry s a M R) from zE) gy) ⟨rfl,rfl⟩
  rw [ay hb.1]
  cases hc:s.cur with
  | none =>
   have BO:s.cur.isSome=false:=by rw [hc];rfl
   dsimp only [pq,eM.cells];rw [BO]
   (refine tk 7 _ rfl (cD.jZ rfl) ?_;refine tM 8 ?_;refine dt 9 _ rfl (bu rfl) ?_;refine dt 10 _ rfl (bn rfl) ?_;refine dt 11 _ rfl (ba rfl) ?_;refine dt 12 _ rfl (bp rfl zR) ?_;refine dt 13 _ rfl (bu rfl) ?_;refine bc 14 rfl rfl zK zE rfl ?_;refine bc 15 rfl rfl zK zE rfl ?_;refine bc 16 rfl rfl zK zE rfl ?_;refine bc 17 rfl rfl zK zE rfl ?_;refine bc 18 rfl rfl zK zE rfl ?_;refine bc 19 rfl rfl zK zE rfl ?_;refine bc 20 rfl rfl zK zE rfl ?_;refine bc 21 rfl rfl zK zE rfl ?_;refine bc 22 rfl rfl zK zE rfl ?_;refine bc 23 rfl rfl zK zE rfl ?_;refine dt 24 _ rfl (bI rfl rfl) ?_;refine tk 25 _ rfl (bI rfl rfl) ?_)
   refine bf zK ?_;refine wB ?_;exact bJ g4 hb zS zE
  | some c =>
   have I1:s.dU=c:=by unfold cP.dU;rw [hc];rfl
   have BO:s.cur.isSome=true:=by rw [hc];rfl
   have B9:=hb.2 c hc;dsimp only [pq,eM.cells];rw [I1,BO]
   (refine tk 7 _ rfl (cD.jZ rfl) ?_;refine tM 8 ?_;refine dt 9 _ rfl (bu rfl) ?_;refine dt 10 _ rfl (bn rfl) ?_;refine dt 11 _ rfl (ba rfl) ?_;refine dt 12 _ rfl (bp rfl zR) ?_;refine dt 13 _ rfl (bu rfl) ?_;refine dt 14 _ rfl (ba rfl) ?_;refine dt 15 _ rfl (ba rfl) ?_;refine dt 16 _ rfl (bp rfl zR) ?_;refine dt 17 _ rfl (bu rfl) ?_;refine dt 18 _ rfl (bn rfl) ?_;refine dt 19 _ rfl (ba rfl) ?_;refine dt 20 _ rfl (ba rfl) ?_;refine dt 21 _ rfl (ba rfl) ?_;refine dt 22 _ rfl (bp rfl zR) ?_;refine dt 23 (.bool false) rfl (cD.no (cD.leq rfl rfl) zn) ?_;refine dt 24 _ rfl (bK rfl rfl) ?_;refine tk 25 _ rfl (bI rfl rfl) ?_)
   refine bf zK ?_;refine wB ?_;exact bJ g4 hb zS zE
 rintro g4 hb;have hS:s.ie p x now=cP.lQ now s.st.length { s with cur:=some x,kept:=[] }:=by unfold cP.ie;rw [aI hb]
 rw [hS,ay hb];have D1:=cP.IZ ha.st KV hb;refine wB ?_;refine aZ rfl rfl (gQ _ e vr vp vq x (hx.cL zE) KV.2.fits) ?_;rintro _ _ ⟨N,ur,up,uq,rfl,hN,rfl⟩;refine bm (cn (hN.root.cL (cG zP))) fun o9=>?_
 refine bm (hN.sig.cL (cG zP)).parts.one fun Ng=>?_
 refine bm (hN.sig.cL (cG zP)).path.one fun V6=>?_
 refine wB ?_;obtain ⟨s1,fR⟩:∃ s1:cP,s1={ s with cur:=some x,kept:=[] }:=⟨_,rfl⟩
 rw [← fR] at D1 ⊢
 have hk1:s1.kept=[]:=by rw [fR]
 have HZ:s1.st=s.st:=by rw [fR]
 have qi:s1.st.length=p.ew.length:=by rw [HZ];exact hlen
 have SH:s1.dU=x:=by rw [fR];rfl
 have aa6:s1.cur.isSome=true:=by rw [fR];rfl
 have V9:s1.done=s.done:=by rw [fR]
 have aa7:s1.dk=s.dk:=by rw [fR]
 have hoN:=fun (j:Nat) (hj:j≤p.ew.length)=>cP.CU (now:=now) (k:=p.ew.length) zo zo j D1 hk1 hj zo
 have hoD:∀ j,(cP.lQ now j s1).done=s1.done∧(cP.lQ now j s1).dk=s1.dk:=fun j=>by
  induction j with
  | zero=>exact ⟨rfl,rfl⟩
  | succ j ih=>exact ih
 obtain ⟨C,hC⟩:∃ C:List Value,C=eM.cells { a with ur:=ur,up:=up,uq:=uq,ak:=none,ck:=0,ts:=[] } p retry s1:=⟨_,rfl⟩
 have hCg:C[4]?=some (pt a.ga):=by rw [hC];rfl
 have XJ:C[5]?=some (.slice a.al s.st.length a.cl):=by rw [hC,← HZ];rfl
 refine bq (ι:=Nat) (fun j=>[(0,pt g),(2,.int .i64 (now:Int)),(49,.int .i64 (s.st.length:Int)),(50,.int .i64 (j:Int))]) (fun j=>cK g C sX (0,0)::N::M::dE Pw 3 (.slice a.al s.st.length a.cl) s.st.length ((cP.lQ now j s1).st.flatMap FW.cells)::sG a.ga (cP.lQ now j s1).ord (cP.lQ now j s1).ag::R) (fun j=>j≤s.st.length) (fun j=>s.st.length - j) 0 (aH _) zS ?_ ?_
 ·dsimp only [cP.lQ];rw [HZ,hC];have e1:s1.ord=s.ord:=by rw [fR]
  have e2:s1.ag=s.ag:=by rw [fR]
  rw [e1,e2];dsimp only [eM.cells];rw [SH,aa6,HZ,V9];exact zE
 rintro j hj
 by_cases cO:j<s.st.length
 rotate_left
 ·have hje:j=s.st.length:=by omega
  subst hje;rw [hlen];obtain ⟨q1,q2,q3,q4⟩:=hoN p.ew.length (aS _);obtain ⟨q5,q6⟩:=hoD p.ew.length;have hq7:(cP.lQ now p.ew.length s1).dU=x:=by unfold cP.dU;rw [q4];exact SH
  have eT:cz [dI [M,N]] [M]:=cj (cT (M:=[_,_]) (L:=[])) (bh bF);have iI:cz [dI [M,N]] [N]:=cj (cT (M:=[_,_]) (L:=[])) (cz.drop (bh bF))
  have Nk:eM.ok { a with ur:=ur,up:=up,uq:=uq,ak:=none,ck:=0,ts:=[] } (dI [M,N]) p retry (n+p.ew.length) (cP.lQ now p.ew.length s1) :=
   ⟨ha.wV.cL eT,by rw [hq7];exact hN.cL iI,by rw [q2];rfl,fun t ht=>absurd ht aP,by rw [q5,V9];exact ha.done.cL eT,by rw [q6,aa7];exact ha.dk.cL eT,q1,ha.pr,ha.low,ha.high⟩
  refine wB ?_;refine aY (lh g p retry (n+p.ew.length) (cP.lQ now p.ew.length s1)::R) rfl (cj (cj (dv nG 4) ?_) (lX Nk)) ⟨rfl,rfl⟩;dsimp only [pq,eM.cells,lf];rw [hq7,q4,q5,q3,hC];dsimp only [eM.cells];rw [SH,qi];exact cj (ep (A:=M) (B:=N) zP zP) zE
 obtain ⟨q1,q2,q3,q4⟩:=hoN j zo;have hsj:(cP.lQ now j s1).st.length=s.st.length:=by rw [q3,HZ]
 have hlj:j<(cP.lQ now j s1).st.length:=by omega
 have eK:=SG hlj;have Bc:cP.lQ now (j+1) s1=(cP.lQ now j s1).Ss now j:=rfl
 generalize cP.lQ now j s1=sj at *
 rw [rL] at XJ ⊢
 have G5:=q1.BJ;have XK:∀ (L R':List cJ),cR L (cK g C sX (0,0)) R'→Rd L ⟨g,0+5,none⟩ (.slice (some ⟨gs,0,none⟩) s.st.length a.cl):=fun L R' pl=>by rw [aC];exact bP pl (by rw [iP];exact XJ)
 have XL:∀ (L R':List cJ),cR L (cK g C sX (0,0)) R'→Rd L ⟨g,4,none⟩ (pt a.ga):=fun L R' pl=>bP pl (by rw [iP];exact hCg)
 have hR3:=XK (cK g C sX (0,0)::R) R .zero;refine wB ?_;refine bk (id:=7) [13,14,15] (cK g C sX (0,0)::R) mixed ?_
 (refine tM 0 ?_;refine tN 1 ?_;refine tF 2 ?_;refine tL 3 ?_;refine tM 4 ?_;refine tM 5 ?_;refine tN 6 ?_;refine tF 7 ?_;refine tL 8 ?_;refine tM 9 ?_;refine tk 10 _ rfl (bD rfl rfl zo) ?_;refine tF 11 ?_)
 refine tO 12 ?_;refine Do.p9 rfl rfl rfl zP zo ⟨fun _=>zE,?_⟩;refine tO 13 ?_;refine bN (bD rfl rfl cO) rfl ⟨zN,?_⟩;refine tO 14 ?_;refine dV (ba rfl) ?_;refine tO 15 ?_;refine Do.p9 rfl rfl rfl .zero zo ⟨zN,?_⟩;rw [aC,eK];refine bf zK ?_;refine wB ?_;have pN:∀ y∈sj.ag,y.fits:=fun y hy=>(q1.fits y hy).1
 refine aZ rfl rfl (Ct.at zP (sH _ e g a.ga sj.ord now j sj.ag (XL _ _ zP) pN zo zo (by have:=q1.ord;omega) zo)) ?_;rintro _ _ ⟨rfl,rfl⟩;refine wB ?_;refine bi (j+1) cO zo zS ?_;rw [Bc];exact zE
abbrev Fi:TypeId:=265
abbrev KW (r:Nat × Nat):List Value:=[.int .i64 (r.1:Int),.int .i64 (r.2:Int)]
theorem Wa (r:Nat × Nat):(KW r).length=2:=rfl
abbrev uD (v:Value) (l:List (Nat × Nat)):cJ:=dE Fi 2 v l.length (l.flatMap KW)
theorem zr (retry now:Nat) (r:Nat × Nat):∀ (l:List (Nat × Nat)) (s:cP),cP.iq retry now (l++[r]) s=(cP.iq retry now l s).zh retry now r.1
 | [],_=>rfl
 | x::l,s=>zr retry now r l (s.zh retry now x.1)
theorem sI (retry now:Nat):∀ (l:List (Nat × Nat)) (s:cP),(cP.iq retry now l s).cur=s.cur∧(cP.iq retry now l s).kept=s.kept∧(cP.iq retry now l s).done=s.done∧(cP.iq retry now l s).dk=s.dk∧(cP.iq retry now l s).st.length=s.st.length
 | [],_=>⟨rfl,rfl,rfl,rfl,rfl⟩
 | x::l,s=>by
  obtain ⟨h1,h2,h3,h4,h5⟩:=sI retry now l (s.zh retry now x.1);refine ⟨h1,h2,h3,h4,h5.trans ?_⟩
  show (List.set _ _ _).length=_
  rw [List.length_set];rfl
theorem aba {retry tries:Nat} (h:retry≤100):IntKind.i64.wrap ((retry:Int)*2 ^ (min (if (3:Int)<(tries:Int) then (3:Int) else (tries:Int)).toNat IntKind.i64.bits))=((retry*2 ^ min tries 3:Nat):Int):=by
 have h1:(if (3:Int)<(tries:Int) then (3:Int) else (tries:Int)).toNat=min tries 3:=by split<;>omega
 have h2:min (min tries 3) IntKind.i64.bits=min tries 3:=Nat.min_eq_left (by have:IntKind.i64.bits=64:=rfl;omega);have h3:=Nat.mul_le_mul h (CV (n:=tries));rw [h1,h2,show (2:Int) ^ min tries 3=((2 ^ min tries 3:Nat):Int) by simp,← Int.natCast_mul];exact wrap_i64 zo zo
end Go.Proofs
namespace Go.Proofs
attribute [local irreducible] Bs.cD Bs.Do Bs.O Bs.W Bs.Fin Bs.A Bs.Ct Bs.cE Bs.Rd Bs.Sat Bs.cK Bs.Ob Bs.dE Bs.View Bs.cz Bs.Ex Bs.dI Bs.Pu Bs.eY Bs.dN Bs.dZ
open Go.Bs
open Tryz
variable (R:List cJ) (e:World)
theorem Fj (g:Nat) (p:jG) (retry n:Nat) (s:cP) (now:Nat) (ht:now≤10000000) (hn:n≤999000) :
 Ct prog 174 #[pt g,.int .i64 (now:Int)] e (lh g p retry n s::R) (fun v' L'=>∃ ad c,v'=.slice ad (s.lc now).length c∧L'=uD (.slice ad (s.lc now).length c) (s.lc now)::lh g p retry (n+p.ew.length) (s.kH retry now)::R):=by
 refine vM fun a M ha=>?_
 have Fe:=ha.pr.fE;refine a7 (pw (show cR (pq g p retry s a M R) (lf (.slice a.al s.st.length a.cl) s.st) _ from zP)) ?_;rintro ⟨lM,c',lU,F7,TW,AY⟩
 cases lU
 have hlen:=ha.st.len;have Ag:1≤s.st.length:=by have:=ha.pr.low;have:=ha.pr.high;omega
 rcases AY with ⟨-,-,AY⟩|⟨gs,rL⟩
 ·omega
 obtain ⟨D1,Wb,My⟩:=cP.Nb (now:=now) ha.st;obtain ⟨C,hC⟩:∃ C:List Value,C=eM.cells a p retry s:=⟨_,rfl⟩
 have hC3:C[3]?=some (.int .i64 (retry:Int)):=by rw [hC];rfl
 have hCg:C[4]?=some (pt a.ga):=by rw [hC];rfl
 have XJ:C[5]?=some (.slice (some ⟨gs,0,none⟩) s.st.length a.cl):=by rw [hC,← rL];rfl
 have hR0:∀ (L R':List cJ),cR L (cK g C sX (0,0)) R'→Rd L ⟨g,0+3,none⟩ (.int .i64 (retry:Int)):=fun L R' pl=>by rw [aC];exact bP pl (by rw [iP];exact hC3)
 have XK:∀ (L R':List cJ),cR L (cK g C sX (0,0)) R'→Rd L ⟨g,0+5,none⟩ (.slice (some ⟨gs,0,none⟩) s.st.length a.cl):=fun L R' pl=>by rw [aC];exact bP pl (by rw [iP];exact XJ)
 have XL:∀ (L R':List cJ),cR L (cK g C sX (0,0)) R'→Rd L ⟨g,4,none⟩ (pt a.ga):=fun L R' pl=>bP pl (by rw [iP];exact hCg)
 have hR3:∀ (L R':List cJ),cR L (cK g C sX (0,0)) R'→Rd L ⟨g,0+4,none⟩ (pt a.ga):=fun L R' pl=>by rw [aC];exact XL L R' pl
 dsimp only [pq];rw [← hC,rL];refine a8 (args:=[_,_]) func174 rfl ntmps174 results174 rfl ?_;refine wB ?_;refine bq (ι:=List AE × List Nat × Option Addr × Nat) (fun j=>[(0,pt g),(1,.int .i64 (now:Int)),(5,.slice j.2.2.1 j.2.1.length j.2.2.2)]) (fun j=>uD (.slice j.2.2.1 j.2.1.length j.2.2.2) (j.2.1.map fun w=>(w,(s.st.getD w lr).size))::sG a.ga s.ord j.1::cK g C sX (0,0)::M::lf (.slice (some ⟨gs,0,none⟩) s.st.length a.cl) s.st::fU (.slice a.ak a.ts.length a.ck) a.ts::R) (fun j=>(∀ y∈j.1,y.fits∧y.il<p.ew.length)∧j.1.length≤4∧j.2.1.length+j.1.length≤4∧nE now s.ag.length s.ag=(j.2.1++(nE now j.1.length j.1).1,(nE now j.1.length j.1).2)) (fun j=>j.1.length) (s.ag,[],none,0) ⟨ha.st.fits,by have:=ha.st.BJ;dsimp only;omega,by have:=ha.st.BJ;dsimp only [List.length_nil];omega,rfl⟩ zS (cj (dv Fi 2) zE) ?_;rintro ⟨l,ws,Px,co⟩ ⟨h1,h2,h3,h4⟩;dsimp only at h1 h2 h3 h4 ⊢
 by_cases E0:0<l.length∧((l.getD 0 kg).jC:Int)≤(now:Int)
 ·have oG:l≠[]:=fun q=>by rw [q] at E0;simp at E0
  have XD:=vH oG;have Cm:=E6 oG;have hww:(l.getD 0 kg).il<p.ew.length:=(h1 _ (XD.mem_iff.1 (List.mem_cons_self ..))).2;obtain ⟨m,hm⟩:∃ m,l.length=m+1:=⟨l.length - 1,by omega⟩
  have hd:nE now l.length l=((l.getD 0 kg).il::(nE now (pU l).length (pU l)).1,(nE now (pU l).length (pU l)).2):=by
   rw [hm,show (pU l).length=m by omega]
   conv=>lhs;unfold nE
   rw [aI ⟨E0.1,by omega⟩]
  rw [hd] at h4
  have hdu:=BN (cK g C sX (0,0)::uD (.slice Px ws.length co) (ws.map fun w=>(w,(s.st.getD w lr).size))::M::lf (.slice (some ⟨gs,0,none⟩) s.st.length a.cl) s.st::fU (.slice a.ak a.ts.length a.ck) a.ts::R) e a.ga s.ord l (now:Int) (fun y hy=>(h1 y hy).1) zo
  generalize (l.getD 0 kg).il=w at *
  have C7:w<s.st.length:=by omega
  have tg:=ns C7;obtain ⟨z,hz⟩:∃ z,z=(s.st.getD w lr).size:=⟨_,rfl⟩
  have Vv:∀ (L R':List cJ),cR L (lf (.slice (some ⟨gs,0,none⟩) s.st.length a.cl) s.st) R'→Rd L ⟨gs,0+w*3+0,none⟩ (.int .i64 (z:Int)):=fun L R' pl=>by
   have:=dZ.elem (bb pl) SE (ab C7);rw [hz,tg];exact this.OC (k:=0) rfl
  (repeat' first|(refine bV rfl (hR3 _ _ zP) rfl ?_)|refine Za ?_|apply Zc|apply Zd|refine Zg ?_|refine Zh ?_|apply YB)
  refine aZ rfl rfl (hdu.cL zE) ?_;rintro _ _ (⟨lT,-,-⟩|⟨-,-,rfl,rfl⟩)
  ·exact absurd E0 lT
  (repeat' first|(refine bV rfl (XK _ _ zP) rfl ?_)|(refine bV rfl (Vv _ _ zP) rfl ?_)|refine Za ?_|refine Zb ?_|apply Zc|apply Zd|apply Ze|apply Zf|refine Zg ?_|refine Zh ?_|refine Zy ?_|refine Ye ?_|refine Yi fun _=>?_|refine Yx ?_|refine YA ?_|apply YC|refine YN ?_|fail)
  refine bC (bo rfl rfl rfl (show cR _ (dE Fi 2 (.slice Px ws.length co) _ _) _ from zP) (bO (n:=2) (c:=1) zP rfl zl) rfl rfl zO (by simp only [maxLen,ae];omega) (by rw [ae];omega) fun ef k1 _=>?_)
  refine wB ?_;refine bi (pU l,ws++[w],ef,k1) ⟨fun y hy=>h1 y (XD.mem_iff.1 (aT _ hy)),by dsimp only;omega,by dsimp only;rw [aa,aj];omega,by dsimp only;rw [h4,aM];rfl⟩ zd ?_ ?_
  ·simp only [aa,aj,ae];exact zS
  ·simp only [uD,ah,List.map_cons,List.map_nil,aW,aU,List.flatMap_nil,aK,aa,aj,ae,← hz];exact zE
 have XF:nE now l.length l=([],l):=by
  cases hm:l.length with
  | zero=>rfl
  | succ m=>unfold nE;rw [aB (fun q=>E0 ⟨by omega,by omega⟩)]
 rw [XF] at h4
 rw [aK] at h4
 have XM:s.lc now=ws.map fun w=>(w,(s.st.getD w lr).size):=by unfold cP.lc;rw [h4]
 have Py:(nE now s.ag.length s.ag).2=l:=by rw [h4]
 have abc:s.kH retry now=cP.iq retry now (s.lc now) { s with ag:=l }:=by unfold cP.kH;rw [Py]
 rw [Py] at D1
 have C7:ws.length=(s.lc now).length:=by rw [XM,ae]
 rw [abc,C7];rw [← XM];have hdu:=BN (cK g C sX (0,0)::uD (.slice Px (s.lc now).length co) (s.lc now)::M::lf (.slice (some ⟨gs,0,none⟩) s.st.length a.cl) s.st::fU (.slice a.ak a.ts.length a.ck) a.ts::R) e a.ga s.ord l (now:Int) (fun y hy=>(h1 y hy).1) zo
 generalize s.lc now=rq at *
 (repeat' first|(refine bV rfl (hR3 _ _ zP) rfl ?_)|refine Za ?_|apply Zc|apply Zd|refine Zg ?_|refine Zh ?_|apply YB)
 refine aZ rfl rfl (hdu.cL zE) ?_;rintro _ _ (⟨-,rfl,rfl⟩|⟨q1,q2,-,-⟩)
 rotate_left
 ·exact absurd ⟨q1,q2⟩ E0
 refine wB ?_;obtain ⟨s0,Nl⟩:∃ s0:cP,s0={ s with ag:=l }:=⟨_,rfl⟩
 rw [← Nl] at D1 ⊢
 have tH:=fun i=>cP.zi (retry:=retry) (now:=now) (k:=p.ew.length) ha.high zo zo (rq.take i) D1 (fun r hr=>(Wb r (aR hr)).1) (by rw [aF];omega)
 have BO:=fun i=>sI retry now (rq.take i) s0
 refine bq (ι:=Nat) (fun j=>[(0,pt g),(1,.int .i64 (now:Int)),(5,.slice Px rq.length co),(35,.slice Px rq.length co),(36,.int .i64 (rq.length:Int)),(37,.int .i64 (j:Int))]) (fun j=>uD (.slice Px rq.length co) rq::sG a.ga (cP.iq retry now (rq.take j) s0).ord (cP.iq retry now (rq.take j) s0).ag::cK g C sX (0,0)::M::dE Pw 3 (.slice (some ⟨gs,0,none⟩) s.st.length a.cl) s.st.length ((cP.iq retry now (rq.take j) s0).st.flatMap FW.cells)::fU (.slice a.ak a.ts.length a.ck) a.ts::R) (fun j=>j≤rq.length) (fun j=>rq.length - j) 0 (aH _) zS ?_ ?_
 ·dsimp only [List.take_zero,cP.iq];rw [Nl];exact zE
 rintro j hj
 by_cases cO:j<rq.length
 rotate_left
 ·rw [aG zo];obtain ⟨w1,w2⟩:=tH rq.length;obtain ⟨v1,v2,v3,v4,v5⟩:=BO rq.length;rw [aG (aS _)] at w1 w2 v1 v2 v3 v4 v5
  have I1:(cP.iq retry now rq s0).dU=s.dU:=by rw [w2,Nl];rfl
  have Nk:eM.ok a M p retry (n+p.ew.length) (cP.iq retry now rq s0) :=
   ⟨ha.wV,by rw [I1];exact ha.cur,by rw [v2,Nl];exact ha.Ui,ha.Q4,by rw [v3,Nl];exact ha.done,by rw [v4,Nl];exact ha.dk,w1.mono zo,ha.pr,ha.low,ha.high⟩
  refine wB ?_;refine aY (uD (.slice Px rq.length co) rq::lh g p retry (n+p.ew.length) (cP.iq retry now rq s0)::R) rfl (cj ?_ (bh (lX Nk))) ⟨Px,co,rfl,rfl⟩;dsimp only [pq,eM.cells,lf];rw [I1,v1,v3,v5,rL,hC,Nl];dsimp only [eM.cells];rw [rL];exact zE
 have ft:rq.take (j+1)=rq.take j++[rq[j]'cO]:=aD cO;have Bc:cP.iq retry now (rq.take (j+1)) s0=(cP.iq retry now (rq.take j) s0).zh retry now (rq[j]'cO).1:=by rw [ft,zr]
 have QD:=(Wb _ (aA cO)).1;obtain ⟨w1,w2⟩:=tH j;obtain ⟨-,-,-,-,v5⟩:=BO j;have hsj:(cP.iq retry now (rq.take j) s0).st.length=s.st.length:=by rw [v5,Nl]
 have hlq:(rq.take j).length≤4:=by rw [aF];omega
 generalize cP.iq retry now (rq.take j) s0=sj at *
 refine W.cB ((bb (show cR _ (uD (.slice Px rq.length co) rq) _ from zP)).shape zo) ?_;rintro ⟨⟨lM,c',lU,wH,IX,Ap,uW⟩,_⟩
 cases lU
 rcases uW with uW|⟨gq,oq,rfl⟩
 ·omega
 have H0:∀ (L R':List cJ),cR L (uD (.slice (some ⟨gq,oq,none⟩) rq.length co) rq) R'→dZ L gq (oq+j*2) (KW (rq[j]'cO)):=fun L R' pl=>dZ.elem (bb pl) Wa (ab cO)
 generalize rq[j]'cO=r at *
 obtain ⟨w,z⟩:=r;dsimp only at QD H0 Bc
 dsimp only [KW] at H0
 have Pz:w<sj.st.length:=by omega
 obtain ⟨OS,hOS⟩:∃ OS:List cJ,OS=dE Pw 3 (.slice (some ⟨gs,0,none⟩) s.st.length a.cl) s.st.length (sj.st.flatMap FW.cells)::fU (.slice a.ak a.ts.length a.ck) a.ts::R:=⟨_,rfl⟩
 have tg:=ns Pz;obtain ⟨tr,Nm⟩:∃ tr,tr=(sj.st.getD w lr).tries:=⟨_,rfl⟩
 have rI:Rd (dE Pw 3 (.slice (some ⟨gs,0,none⟩) s.st.length a.cl) s.st.length (sj.st.flatMap FW.cells)::fU (.slice a.ak a.ts.length a.ck) a.ts::R) ⟨gs,0+w*3+1,none⟩ (.int .i64 (tr:Int)):=by
  have:=dZ.elem (bb (show cR (dE Pw 3 (.slice (some ⟨gs,0,none⟩) s.st.length a.cl) s.st.length (sj.st.flatMap FW.cells)::fU (.slice a.ak a.ts.length a.ck) a.ts::R) _ _ from .zero)) SE (ab Pz);rw [Nm,tg];exact this.OC (k:=1) rfl
 have EA:=XK (cK g C sX (0,0)::M::dE Pw 3 (.slice (some ⟨gs,0,none⟩) s.st.length a.cl) s.st.length (sj.st.flatMap FW.cells)::fU (.slice a.ak a.ts.length a.ck) a.ts::R) _ .zero;have hb0:=hR0 (cK g C sX (0,0)::M::dE Pw 3 (.slice (some ⟨gs,0,none⟩) s.st.length a.cl) s.st.length (sj.st.flatMap FW.cells)::fU (.slice a.ak a.ts.length a.ck) a.ts::R) _ .zero;have Is:=aba (retry:=retry) (tries:=tr) ha.high;have hp3:=Nat.mul_le_mul ha.high (CV (n:=tr));have Wc:tr≤1000000:=by rw [Nm];have:=w1.tries _ (qC Pz);omega
 (repeat' first|(refine O.dy rfl (H0 _ _ zP) rfl rfl ?_)|apply Zc|apply Zd|apply Ze|apply Zf|refine ZA ?_|refine Yh fun _=>?_|refine Yx ?_|refine Yz ?_|apply YB|apply YC|refine YR ?_|fail)
 rename_i g9;refine bz (id:=8) [7] mixed ?_
 (refine tM 0 ?_;refine tN 1 ?_;refine tF 2 ?_;refine tL 3 ?_;refine tF 4 ?_;refine tL 5 ?_;refine tk 6 _ rfl (bD rfl rfl zo) ?_;(refine tO 7 ?_;refine dV (bj rfl) ?_))
 refine bf zK ?_;refine wB ?_;refine bk (id:=9) [] (cK g9 [.int .i64 (w:Int),.int .i64 (z:Int)] Fi (0,0)::cK g C sX (0,0)::M::dE Pw 3 (.slice (some ⟨gs,0,none⟩) s.st.length a.cl) s.st.length (sj.st.flatMap FW.cells)::fU (.slice a.ak a.ts.length a.ck) a.ts::R) mixed ?_
 (refine tM 0 ?_;refine tM 1 ?_;refine tM 2 ?_;refine tN 3 ?_;refine tF 4 ?_;refine tL 5 ?_;refine tM 6 ?_;refine tN 7 ?_;refine tF 8 ?_;refine tL 9 ?_;refine tk 10 _ rfl (cD.min rfl rfl) ?_)
 refine bG 11 (.int .i64 ((retry*2 ^ min tr 3:Nat):Int)) rfl zK zE (Is ▸ cD.shl rfl rfl (by split<;>omega)) rfl ?_
 (refine tk 12 _ rfl (cD.kQ rfl rfl zo) ?_;refine tF 13 ?_;refine tL 14 ?_)
 have hpw:2 ^ min tr 3*retry≤800:=by rw [Nat.mul_comm];omega
 refine tO 15 ?_;have pN:∀ y∈sj.ag,y.fits:=fun y hy=>(w1.fits y hy).1
 have Wd:=w1.BJ;have We:=w1.ord;refine bg rfl rfl (Ct.at zP (sH _ e g a.ga sj.ord (now+retry*2 ^ min tr 3) w sj.ag (XL _ _ zP) pN zo zo zo zo)) ?_;rintro _ _ ⟨rfl,rfl⟩;refine ⟨fun _=>zE,?_⟩;refine bf zK ?_;have jL:=Fg Pz (tr+1)
 have Wf:(sj.st.flatMap FW.cells).set (0+w*3+1) (.int .i64 ((tr:Int)+1))=(cP.iq retry now (rq.take (j+1)) s0).st.flatMap FW.cells:=by
  rw [aC,Bc,show ((tr:Int)+1)=((tr+1:Nat):Int) by omega,jL,Nm]
  rfl
 have Py:(cP.iq retry now (rq.take (j+1)) s0).ag=pK (gL sj.ag w) ⟨now+retry*2 ^ min tr 3,sj.ord,w⟩:=by rw [Bc,Nm];rfl
 have Wg:(cP.iq retry now (rq.take (j+1)) s0).ord=sj.ord+1:=by rw [Bc];rfl
 refine wB ?_;rw [Wf];refine bi (j+1) cO zo zS ?_;rw [Py,Wg];exact zE
theorem jm.jX {L:List cJ} {ts:List jm} (h:∀ t∈ts,jm.ok L t):∀ x,dN L x→∀ c∈ts.flatMap jm.cells,c.oneCell'=true:=fun x hx=>r9 fun t ht c hc=>by
 have h1:=(h t ht).rd.parts.one x hx;have h2:=(h t ht).rd.path.one x hx;simp only [jm.cells,aQ,aP,or_false] at hc
 rcases hc with rfl|rfl|rfl|rfl
 ·rfl
 ·rfl
 ·exact h1
 ·exact h2
theorem qG (v:Value) (l:List jm) (h:cE R 4 v l.length (l.flatMap jm.cells)) (h1:∀ t∈l,jm.ok R t) (hl:l.length≤100000) :
 Ct prog 310 #[v] e R (fun v' L'=>∃ ad c,v'=.slice ad l.length c∧L'=fU (.slice ad l.length c) l::R):=by
 refine a7 (jm.jX h1) fun ho=>?_
 refine a7 (h.shape zo) ?_;rintro ⟨⟨ad,cap,rfl,h3,h4,h5,h6⟩,_⟩;refine a8 (args:=[_]) func310 rfl ntmps310 results310 rfl ?_
 cases ad with
 | none =>
  have u7:l=[]:=by
   have:=h5 rfl;exact List.eq_nil_of_length_eq_zero zo
  subst u7;refine wB ?_;exact aY _ rfl (dv _ _) ⟨_,_,rfl,rfl⟩
 | some a =>
  (repeat (refine wA ?_;intros))
  refine O.fo (hH (n:=4) (k:=0) (cap:=0) zo zl rfl) ?_;refine bC (bo rfl rfl rfl .zero h rfl rfl ho zm zo fun lM c' lU=>?_)
  refine wB ?_;refine aY _ rfl ?_ ⟨lM,c',by simp [AS],rfl⟩;simp only [aC];exact aX
theorem Fk (g:Nat) (p:jG) (retry n:Nat) (s:cP) (w:Nat) (vp vq:Value) (x:kO) (hx:fL R vp vq x.sig) (hw:x.fY=w) (hr:x.sig.right) (hh:s.rR w) :
 Ct prog 291 #[pt g,.int .i64 (w:Int),.agg (iA x vp vq).toArray] e (lh g p retry n s::R) (fun v' L'=>v'=.tuple #[]∧L'=lh g p retry n (s.fe p w x)::R):=by
 refine vM fun a M ha=>?_
 have Fe:=ha.pr.fE;have mU:cz (pq g p retry s a M R) R:=zE;refine a7 (hx.cL mU).parts.one fun o6=>?_
 refine a7 (hx.cL mU).path.one fun o7=>?_
 have HD:cz (pq g p retry s a M R) [M]:=cG zP;refine a7 (cn (ha.cur.root.cL HD)) fun Ng=>?_
 refine a7 (ha.cur.sig.cL HD).parts.one fun V6=>?_
 refine a7 (ha.cur.sig.cL HD).path.one fun XI=>?_
 refine a7 (pw (show cR (pq g p retry s a M R) (lf (.slice a.al s.st.length a.cl) s.st) _ from zP)) ?_;rintro ⟨lM,c',lU,F7,TW,AY⟩
 cases lU
 have hlen:=ha.st.len;have C7:=hh.2.1;rcases AY with ⟨-,-,AY⟩|⟨gs,rL⟩
 ·omega
 have PA:w<p.ew.length:=by omega
 have pT:=cP.E8 ha.st PA hw hr hh.2.2;have Ol:a.ts.length=s.kept.length:=by have:=congrArg List.length ha.Ui;rwa [ae] at this
 have Su:=ha.st.DH;have pN:∀ y∈s.ag,y.fits:=fun y hy=>(ha.st.fits y hy).1
 have Wd:=ha.st.BJ;have abd:x.fY<4294967296:=by omega
 dsimp only [pq,eM.cells];rw [rL];refine a8 (args:=[_,_,_]) func291 rfl ntmps291 results291 rfl ?_
 (repeat (refine wA ?_;intros))
 rename_i g5;refine bk (id:=2) [9,10,11] (cK g5 (iA x vp vq) nG (0,0)::cK g (eM.cells { a with al:=some ⟨gs,0,none⟩ } p retry s) sX (0,0)::R) mixed ?_
 (refine tM 0 ?_;refine tM 1 ?_;refine tN 2 ?_;refine tF 3 ?_;refine tL 4 ?_;refine tJ 5 ?_)
 refine tO 6 ?_;refine bg rfl rfl (oX _ e vp vq x (hx.cL zE) hr.fits) ?_;rintro _ _ ⟨N,wp,wq,rfl,hN,rfl⟩;refine ⟨fun _=>zE,?_⟩;refine A.cB (hN.cL (cG zP)).parts.one fun o8=>?_
 refine A.cB (hN.cL (cG zP)).path.one fun o9=>?_
 refine tO 7 ?_;refine bE (n:=4) (cs:=iA x wp wq) rfl rfl rfl rfl zQ rfl (fun gb=>⟨fun _=>zE,?_⟩);refine tO 8 ?_;refine bo rfl rfl rfl (show cR _ (fU (.slice a.ak a.ts.length a.ck) a.ts) _ from zP) (bO (n:=4) (c:=1) zP rfl zl) rfl rfl zO zm zo fun ef k1 _=>⟨fun _=>zE,?_⟩
 refine tO 9 ?_;refine dV (bn rfl) ?_;refine tO 10 ?_;refine dV (ba rfl) ?_;refine tO 11 ?_;refine tf ?_;refine ⟨zN,?_⟩;refine bf zK ?_
 have jL:((s.st.flatMap FW.cells).set (0+w*3+2) (.bool true)).set (0+w*3+0) (.int .i64 (s.dU.dc.size:Int))=(s.gT w x).st.flatMap FW.cells:=by
  rw [aC,I4 C7,I3 (by rw [List.length_set];exact C7),List.set_set]
  show _=(s.st.set w _).flatMap FW.cells
  congr 2
  rw [ns (by rw [List.length_set];exact C7),List.getElem_set_self]
 have SI:(s.gT w x).st.length=s.st.length:=List.length_set;refine wB ?_;rw [jL];refine aZ rfl rfl (Ct.at zP (uC _ e a.ga s.ord s.ag w pN zo)) ?_;rintro _ _ ⟨⟨z,rfl⟩,rfl⟩;refine wB ?_;have eT:cz [dI [M,N]] [M]:=cj (cT (M:=[_,_]) (L:=[])) (bh bF);have iI:cz [dI [M,N]] [N]:=cj (cT (M:=[_,_]) (L:=[])) (cz.drop (bh bF))
 have zt:eM.ok { a with ak:=ef,ck:=k1,ts:=a.ts++[(x,wp,wq)] } (dI [M,N]) p retry n (s.gT w x) :=
  ⟨ha.wV.cL eT,ha.cur.cL eT,by dsimp only;rw [ah,ha.Ui];rfl,fun t ht=>by
   rcases aJ.1 ht with ht|ht
   ·exact (ha.Q4 t ht).cL eT
   ·rw [an.1 ht];exact ⟨hN.cL iI,abd⟩,ha.done.cL eT,ha.dk.cL eT,pT,ha.pr,ha.low,ha.high⟩
 have abe:(a.ts++[(x,wp,wq)]).length=a.ts.length+1:=by simp
 obtain ⟨C,hC⟩:∃ C:List Value,C=eM.cells { a with ak:=ef,ck:=k1,ts:=a.ts++[(x,wp,wq)] } p retry (s.gT w x):=⟨_,rfl⟩
 obtain ⟨L1,Wh⟩:∃ L1:List cJ,L1=cK g C sX (0,0)::dI [M,N]::lf (.slice a.al (s.gT w x).st.length a.cl) (s.gT w x).st::fU (.slice ef (a.ts++[(x,wp,wq)]).length k1) (a.ts++[(x,wp,wq)])::sG a.ga (s.gT w x).ord (s.gT w x).ag::R:=⟨_,rfl⟩
 refine W.fe [(0,pt g)] zS ?_;refine W.fo (L':=L1) ?_ ?_
 ·rw [Wh,hC];dsimp only [eM.cells,lf,fU];rw [SI,rL,abe];simp only [aW,aU,List.flatMap_nil,aK];exact cj (ep (A:=M) (B:=N) zP zP) zE
 clear jL;have hl5:∀ (L R':List cJ),cR L (cK g C sX (0,0)) R'→dZ L g (0+6) (dS s.dU a.ur a.up a.uq):=fun L R' pl=>(bU pl).part 6 5 |> fun h=>by rw [hC] at h;exact h
 have hl9:∀ (L R':List cJ),cR L (cK g C sX (0,0)) R'→Rd L ⟨g,0+12,none⟩ (.slice ef (a.ts++[(x,wp,wq)]).length k1):=fun L R' pl=>by rw [aC];exact bP pl (by rw [hC];rfl)
 have pH:∀ (L R':List cJ),cR L (cK g C sX (0,0)) R'→Rd L ⟨g,0+0+2,none⟩ (.int .i64 (p.ey:Int)):=fun L R' pl=>bP pl (by rw [hC];rfl)
 have abf:=hl9 (cK g C sX (0,0)::dI [M,N]::lf (.slice a.al (s.gT w x).st.length a.cl) (s.gT w x).st::fU (.slice ef (a.ts++[(x,wp,wq)]).length k1) (a.ts++[(x,wp,wq)])::sG a.ga (s.gT w x).ord (s.gT w x).ag::R) _ .zero;have abg:=pH (cK g C sX (0,0)::dI [M,N]::lf (.slice a.al (s.gT w x).st.length a.cl) (s.gT w x).st::fU (.slice ef (a.ts++[(x,wp,wq)]).length k1) (a.ts++[(x,wp,wq)])::sG a.ga (s.gT w x).ord (s.gT w x).ag::R) _ .zero;have QV:(s.kept++[x]).length=(a.ts++[(x,wp,wq)]).length:=by simp [Ol]
 rw [Wh]
 by_cases hq:p.ey≤(s.kept++[x]).length
 rotate_left
 ·have hS:s.fe p w x=s.gT w x:=by unfold cP.fe;rw [aB hq]
  rw [hS];rw [QV] at hq
  refine bz (id:=5) [] mixed ?_
  (refine tM 0 ?_;refine tN 1 ?_;refine tF 2 ?_;refine tL 3 ?_;refine tk 4 _ rfl (bM rfl) ?_;refine tM 5 ?_;refine tN 6 ?_;refine tF 7 ?_;refine tF 8 ?_;refine tL 9 ?_;refine tk 10 (.bool false) rfl (cD.no (bR rfl rfl) zn) ?_)
  refine bf zK ?_;refine wB ?_;refine bT (lh g p retry n (s.gT w x)::R) rfl (cj ?_ (lX zt)) ⟨rfl,rfl⟩;rw [hC];exact zE
 have hS:s.fe p w x={ s.gT w x with done:=s.dU,dk:=s.kept++[x] }:=by unfold cP.fe;rw [aI hq]
 have er:=cP.I0 (p:=p) ha.st PA hw hr hh;rw [hS] at er ⊢
 rw [QV] at hq
 refine bz (id:=5) [] mixed ?_
 (refine tM 0 ?_;refine tN 1 ?_;refine tF 2 ?_;refine tL 3 ?_;refine tk 4 _ rfl (bM rfl) ?_;refine tM 5 ?_;refine tN 6 ?_;refine tF 7 ?_;refine tF 8 ?_;refine tL 9 ?_;refine tk 10 (.bool true) rfl (cD.iQ (bR rfl rfl) zy) ?_)
 refine bf zK ?_;refine wB ?_;have SJ:∀ (L R':List cJ),cR L (cK g (eM.cells { a with ak:=ef,ck:=k1,ts:=a.ts++[(x,wp,wq)] } p retry (s.gT w x)) sX (0,0)) R'→dZ L g (0+6) (dS s.dU a.ur a.up a.uq):=fun L R' pl=>(bU pl).part 6 5
 have Wi:∀ (L R':List cJ),cR L (cK g (eM.cells { a with ak:=ef,ck:=k1,ts:=a.ts++[(x,wp,wq)] } p retry (s.gT w x)) sX (0,0)) R'→Rd L ⟨g,0+12,none⟩ (.slice ef (a.ts++[(x,wp,wq)]).length k1):=fun L R' pl=>by rw [aC];exact bP pl rfl
 have SK:∀ (H2:Option Addr) (ce:Nat),eM.ok { a with ak:=ef,ck:=k1,ts:=a.ts++[(x,wp,wq)],dr:=a.ur,dp:=a.up,dq:=a.uq,ve:=.slice H2 (a.ts++[(x,wp,wq)]).length ce } (dI [dI [M,N],fU (.slice H2 (a.ts++[(x,wp,wq)]).length ce) (a.ts++[(x,wp,wq)])]) p retry n { s.gT w x with done:=s.dU,dk:=s.kept++[x] }:=fun H2 ce=>by
  have EA:cz [dI [dI [M,N],fU (.slice H2 (a.ts++[(x,wp,wq)]).length ce) (a.ts++[(x,wp,wq)])]] [dI [M,N]]:=cj (cT (M:=[_,_]) (L:=[])) (bh bF);have O6:cz [dI [dI [M,N],fU (.slice H2 (a.ts++[(x,wp,wq)]).length ce) (a.ts++[(x,wp,wq)])]] [fU (.slice H2 (a.ts++[(x,wp,wq)]).length ce) (a.ts++[(x,wp,wq)])]:=cj (cT (M:=[_,_]) (L:=[])) (cz.drop (bh bF));exact ⟨zt.wV.cL EA,zt.cur.cL EA,zt.Ui,fun t ht=>(zt.Q4 t ht).cL EA,zt.cur.cL EA,⟨_,zt.Ui,cE.cL (bb .zero) O6,fun t ht=>(zt.Q4 t ht).cL EA⟩,er,ha.pr,ha.low,ha.high⟩
 rw [hC];clear hl5 hl9 pH abf abg Wh hC;have he1:a.ts.length+1≤100:=by omega
 refine bk (id:=6) [14,15,16] R mixed ?_
 (refine tM 0 ?_;refine tM 1 ?_;refine tM 2 ?_;refine tN 3 ?_;refine tF 4 ?_)
 (refine tM 6 ?_;refine tN 7 ?_;refine tF 8 ?_)
 refine A.two 5 9 rfl rfl rfl rfl zK ?_ ?_
 ·refine bN (cD.dy rfl (SJ _ _ zP) rfl) rfl ⟨fun _=>zE,?_⟩;refine tO 9 ?_;refine bN (bp rfl (Wi _ _ zP)) rfl ⟨fun _=>zE,?_⟩;refine tO 10 ?_;refine bg rfl rfl (qG _ e (.slice ef (a.ts++[(x,wp,wq)]).length k1) (a.ts++[(x,wp,wq)]) (bb zP) (fun t ht=>(zt.Q4 t ht).cL (cG zP)) zo) ?_;rintro _ _ ⟨H2,ce,rfl,rfl⟩;refine ⟨fun _=>zE,?_⟩;refine tN 11 ?_;refine tF 12 ?_;refine tO 13 ?_;refine zg ?_;refine ⟨fun _=>zE,?_⟩;refine tO 14 ?_;refine dV (bn rfl) ?_;refine tO 15 ?_;refine dV (ba rfl) ?_;refine tO 16 ?_;refine tf ?_;refine ⟨zN,?_⟩;refine bf zK ?_;refine bT (lh g p retry n { s.gT w x with done:=s.dU,dk:=s.kept++[x] }::R) rfl (cj ?_ (lX (SK H2 ce))) ⟨rfl,rfl⟩;exact cj (ep (A:=dI [M,N]) (B:=fU (.slice H2 (a.ts++[(x,wp,wq)]).length ce) (a.ts++[(x,wp,wq)])) zP zP) zE
 ·refine bN (bp rfl (Wi _ _ zP)) rfl ⟨fun _=>zE,?_⟩;refine A.two 5 10 rfl rfl rfl rfl zK ?_ ?_
  ·refine bN (cD.dy rfl (SJ _ _ zP) rfl) rfl ⟨fun _=>zE,?_⟩;refine tO 10 ?_;refine bg rfl rfl (qG _ e (.slice ef (a.ts++[(x,wp,wq)]).length k1) (a.ts++[(x,wp,wq)]) (bb zP) (fun t ht=>(zt.Q4 t ht).cL (cG zP)) zo) ?_;rintro _ _ ⟨H2,ce,rfl,rfl⟩;refine ⟨fun _=>zE,?_⟩;refine tN 11 ?_;refine tF 12 ?_;refine tO 13 ?_;refine zg ?_;refine ⟨fun _=>zE,?_⟩;refine tO 14 ?_;refine dV (bn rfl) ?_;refine tO 15 ?_;refine dV (ba rfl) ?_;refine tO 16 ?_;refine tf ?_;refine ⟨zN,?_⟩;refine bf zK ?_;refine bT (lh g p retry n { s.gT w x with done:=s.dU,dk:=s.kept++[x] }::R) rfl (cj ?_ (lX (SK H2 ce))) ⟨rfl,rfl⟩;exact cj (ep (A:=dI [M,N]) (B:=fU (.slice H2 (a.ts++[(x,wp,wq)]).length ce) (a.ts++[(x,wp,wq)])) zP zP) zE
  ·refine bg rfl rfl (qG _ e (.slice ef (a.ts++[(x,wp,wq)]).length k1) (a.ts++[(x,wp,wq)]) (bb zP) (fun t ht=>(zt.Q4 t ht).cL (cG zP)) zo) ?_;rintro _ _ ⟨H2,ce,rfl,rfl⟩;refine ⟨fun _=>zE,?_⟩;refine tO 5 ?_;refine bN (cD.dy rfl (SJ _ _ zP) rfl) rfl ⟨fun _=>zE,?_⟩;refine tN 11 ?_;refine tF 12 ?_;refine tO 13 ?_;refine zg ?_;refine ⟨fun _=>zE,?_⟩;refine tO 14 ?_;refine dV (bn rfl) ?_;refine tO 15 ?_;refine dV (ba rfl) ?_;refine tO 16 ?_;refine tf ?_;refine ⟨zN,?_⟩;refine bf zK ?_;refine bT (lh g p retry n { s.gT w x with done:=s.dU,dk:=s.kept++[x] }::R) rfl (cj ?_ (lX (SK H2 ce))) ⟨rfl,rfl⟩;exact cj (ep (A:=dI [M,N]) (B:=fU (.slice H2 (a.ts++[(x,wp,wq)]).length ce) (a.ts++[(x,wp,wq)])) zP zP) zE
theorem I5 {g:Nat} {p:jG} {retry n m:Nat} {s:cP} {R:List cJ} (h:n≤m):cz (lh g p retry n s::R) (lh g p retry m s::R) :=
 jE fun a=>jE fun M=>cj (cT (M:=Pu (a.ok M p retry n s)::pq g p retry s a M []) (L:=R)) (rW fun h2=>lX (h2.mono h))
theorem uE (g:Nat) (p:jG) (retry n:Nat) (s:cP) (w:Nat) (vp vq:Value) (x:kO) (size now:Nat) (hx:fL R vp vq x.sig) (hxw:x.fY≤1000000) (hw:w≤1000000) (ln:size≤4294967296) (ht:now≤10000000) (hn:n≤999000) :
 Ct prog 254 #[pt g,.int .i64 (w:Int),.agg (iA x vp vq).toArray,.int .i64 (size:Int),.int .i64 (now:Int)] e (lh g p retry n s::R) (fun v' L'=>v'=.bool (s.Aw p w x size)∧L'=lh g p retry (n+1) (s.oo p w x size now)::R):=by
 refine vM fun a M ha=>?_
 have Fe:=ha.pr.fE;have mU:cz (pq g p retry s a M R) R:=zE;refine a7 (hx.cL mU).parts.one fun o6=>?_
 refine a7 (hx.cL mU).path.one fun o7=>?_
 have HD:cz (pq g p retry s a M R) [M]:=cG zP;refine a7 (cn (ha.cur.root.cL HD)) fun Ng=>?_
 refine a7 (cn (ha.wV.log.cL HD)) fun V6=>?_
 refine a7 (ha.wV.ew.cL HD).one fun XI=>?_
 refine a7 (pw (show cR (pq g p retry s a M R) (lf (.slice a.al s.st.length a.cl) s.st) _ from zP)) ?_;rintro ⟨lM,c',lU,F7,TW,AY⟩
 cases lU
 have hlen:=ha.st.len;have gy:=lX (R:=R) (g:=g) (ha.mono (m:=n+1) zo);have lT:¬ s.rR w→s.Aw p w x size=false∧s.oo p w x size now=s:=fun h=>⟨by unfold cP.Aw;rw [aq (fun q=>h q.1)],by unfold cP.oo;rw [aI h]⟩
 refine a8 (args:=[_,_,_,_,_]) func254 rfl ntmps254 results254 rfl ?_
 by_cases BO:s.cur.isSome=true
 rotate_left
 ·obtain ⟨hB,hS⟩:=lT (fun h=>BO h.1);have hsf:s.cur.isSome=false:=by simpa using BO
  rw [hB,hS];dsimp only [pq,eM.cells] at gy ⊢
  rw [hsf] at gy ⊢
  (repeat (refine wA ?_;intros))
  exact aY (lh g p retry (n+1) s::R) rfl (cj zE gy) ⟨rfl,rfl⟩
 by_cases C7:w<s.st.length
 rotate_left
 ·obtain ⟨hB,hS⟩:=lT (fun h=>C7 h.2.1);rw [hB,hS];dsimp only [pq,eM.cells] at gy ⊢
  rw [BO] at gy ⊢
  (repeat (refine wA ?_;intros))
  exact aY (lh g p retry (n+1) s::R) rfl (cj zE gy) ⟨rfl,rfl⟩
 rcases AY with ⟨-,-,AY⟩|⟨gs,rL⟩
 ·omega
 have tg:=ns C7
 have OU:∀ (L R':List cJ),cR L (lf (.slice (some ⟨gs,0,none⟩) s.st.length a.cl) s.st) R'→Rd L ⟨gs,0+w*3+2,none⟩ (.bool (s.st.getD w lr).kept):=fun L R' pl=>by
  have:=dZ.elem (bb pl) SE (ab C7);rw [tg];exact this.OC (k:=2) rfl
 have Xp:∀ (L R':List cJ),cR L (lf (.slice (some ⟨gs,0,none⟩) s.st.length a.cl) s.st) R'→Rd L ⟨gs,0+w*3+0,none⟩ (.int .i64 ((s.st.getD w lr).size:Int)):=fun L R' pl=>by
  have:=dZ.elem (bb pl) SE (ab C7);rw [tg];exact this.OC (k:=0) rfl
 by_cases Pp:(s.st.getD w lr).kept=true
 ·obtain ⟨hB,hS⟩:=lT (fun h=>by have h2:=h.2.2;rw [Pp] at h2;cases h2);rw [hB,hS];rw [Pp] at OU
  dsimp only [pq,eM.cells] at gy ⊢
  rw [BO,rL] at gy ⊢
  (repeat' first|(refine bV rfl (OU _ _ zP) rfl ?_)|refine Za ?_|refine Zb ?_|apply Zc|apply Zd|apply Ze|apply Zf|refine Zg ?_|refine Zh ?_|refine Zi ?_|refine Zk ?_|refine Zm ?_|refine Zn ?_|refine Zy ?_|refine ZB ?_|refine ZK ?_|refine Yg fun _=>?_|refine Yx ?_|refine Yz ?_|apply YE|apply YF)
  exact aY (lh g p retry (n+1) s::R) rfl (cj zE gy) ⟨rfl,rfl⟩
 have Su:(s.st.getD w lr).kept=false:=by simpa using Pp
 have hh:s.rR w:=⟨BO,C7,Su⟩
 have PA:w<p.ew.length:=by omega
 obtain ⟨c,hc⟩:=Option.isSome_iff_exists.1 BO;have I1:s.dU=c:=by unfold cP.dU;rw [hc];rfl
 have Xy:=ha.st.cur c hc;have Gf:s.dU.dc.right:=by rw [I1];exact Xy.1
 rw [Su] at OU
 dsimp only [pq,eM.cells] at gy ⊢
 rw [BO,rL] at gy ⊢
 (repeat' first|refine W.u2 (id:=6) (fun _:Unit=>[(0,pt g),(1,.int .i64 (w:Int)),(3,.int .i64 (size:Int)),(4,.int .i64 (now:Int))]) (fun _=>cK g ([a.vl,a.vw,.int .i64 (p.ey:Int),.int .i64 (retry:Int),pt a.ga,.slice (some ⟨gs,0,none⟩) s.st.length a.cl]++dS s.dU a.ur a.up a.uq++[.bool true,.slice a.ak a.ts.length a.ck]++dS s.done a.dr a.dp a.dq++[a.ve]) sX (0,0)::M::lf (.slice (some ⟨gs,0,none⟩) s.st.length a.cl) s.st::fU (.slice a.ak a.ts.length a.ck) a.ts::sG a.ga s.ord s.ag::R) (fun _=>¬ s.wS p w x) ?_ ?_|(refine bV rfl (OU _ _ zP) rfl ?_)|refine Za ?_|refine Zb ?_|apply Zc|apply Zd|apply Ze|apply Zf|refine Zg ?_|refine Zh ?_|refine Zi ?_|refine Zk ?_|refine Zm ?_|refine Zn ?_|refine Zy ?_|refine ZB ?_|refine ZK ?_|refine Yg fun _=>?_|refine Yx ?_|refine YA ?_|apply YC)
 rotate_left
 ·refine ⟨?_⟩;rename_i g7
  (repeat (refine wA ?_;intros))
  refine bz (id:=3) [] mixed ?_
  have Wh:cz (cK g7 (iA x vp vq) nG (0,0)::cK g ([a.vl,a.vw,.int .i64 (p.ey:Int),.int .i64 (retry:Int),pt a.ga,.slice (some ⟨gs,0,none⟩) s.st.length a.cl]++dS s.dU a.ur a.up a.uq++[.bool true,.slice a.ak a.ts.length a.ck]++dS s.done a.dr a.dp a.dq++[a.ve]) sX (0,0)::M::lf (.slice (some ⟨gs,0,none⟩) s.st.length a.cl) s.st::fU (.slice a.ak a.ts.length a.ck) a.ts::sG a.ga s.ord s.ag::R) (lh g p retry n s::R):=by
   refine cj ?_ (lX ha);dsimp only [pq,eM.cells];rw [BO,rL];exact zE
  by_cases ft:s.wS p w x
  ·have hB:s.Aw p w x size=true:=by unfold cP.Aw;exact ay ⟨hh,.inl ft⟩
   have hS:s.oo p w x size now=s.fe p w x:=by unfold cP.oo;rw [aB (fun q=>q hh),aI ft]
   rw [hB,hS];have hxe:=ft.1
   (refine tF 0 ?_;refine tL 1 ?_;refine tM 2 ?_;refine tk 3 (.bool true) rfl (cD.iQ (bW rfl rfl) zy) ?_;refine tM 4 ?_;refine dt 5 _ rfl (bu rfl) ?_;refine dt 6 _ rfl (bn rfl) ?_;refine dt 7 _ rfl (ba rfl) ?_;refine dt 8 _ rfl (cD.df rfl zP zI zX) ?_;refine dt 9 _ rfl (bu rfl) ?_;refine dt 10 _ rfl (bn rfl) ?_;refine dt 11 _ rfl (ba rfl) ?_;refine dt 12 _ rfl (ba rfl) ?_;refine dt 13 _ rfl (cD.df rfl zP zI zX) ?_;refine dt 14 _ rfl (cD.dy rfl zA zX) ?_)
   refine A.rv 15 rfl rfl zK ?_;refine bg rfl rfl (mb _ e a.vl a.vw a.ur vp vq p s.dU.dc x (ha.wV.cL (cG zP)) ha.pr (ha.cur.root.cL (cG zP)) Gf (hx.cL zE)) ?_;rintro _ _ ⟨rfl,rfl⟩;refine ⟨fun _=>zE,A.fS zE ?_⟩;rw [ay ft.2]
   (refine tk 16 _ rfl (bK rfl rfl) ?_)
   refine bf zK ?_;refine wB ?_;refine aZ rfl rfl (Ct.cL (Fk R e g p retry n s w vp vq x hx ft.1 ft.2.2.1 hh) Wh) ?_;rintro _ _ ⟨rfl,rfl⟩;refine wB ?_;refine aY (lh g p retry (n+1) (s.fe p w x)::R) rfl (I5 zo) ⟨rfl,rfl⟩
  by_cases abi:x.fY=w
  ·have hnv:¬ x.ii p s.dU.dc:=fun h=>ft ⟨abi,h⟩
   (refine tF 0 ?_;refine tL 1 ?_;refine tM 2 ?_;refine tk 3 (.bool true) rfl (cD.iQ (bW rfl rfl) zy) ?_;refine tM 4 ?_;refine dt 5 _ rfl (bu rfl) ?_;refine dt 6 _ rfl (bn rfl) ?_;refine dt 7 _ rfl (ba rfl) ?_;refine dt 8 _ rfl (cD.df rfl zP zI zX) ?_;refine dt 9 _ rfl (bu rfl) ?_;refine dt 10 _ rfl (bn rfl) ?_;refine dt 11 _ rfl (ba rfl) ?_;refine dt 12 _ rfl (ba rfl) ?_;refine dt 13 _ rfl (cD.df rfl zP zI zX) ?_;refine dt 14 _ rfl (cD.dy rfl zA zX) ?_)
   refine A.rv 15 rfl rfl zK ?_;refine bg rfl rfl (mb _ e a.vl a.vw a.ur vp vq p s.dU.dc x (ha.wV.cL (cG zP)) ha.pr (ha.cur.root.cL (cG zP)) Gf (hx.cL zE)) ?_;rintro _ _ ⟨rfl,rfl⟩;refine ⟨fun _=>zE,A.fS zE ?_⟩;rw [aq hnv]
   (refine tk 16 _ rfl (bK rfl rfl) ?_)
   refine bf zK ?_;refine wB ?_;exact bJ () ft zS zE
  ·(refine tF 0 ?_;refine tL 1 ?_;refine tM 2 ?_;refine tk 3 (.bool false) rfl (cD.no (bW rfl rfl) zn) ?_;refine tM 4 ?_;refine bc 5 rfl rfl zK zE rfl ?_;refine bc 6 rfl rfl zK zE rfl ?_;refine bc 7 rfl rfl zK zE rfl ?_;refine bc 8 rfl rfl zK zE rfl ?_;refine bc 9 rfl rfl zK zE rfl ?_;refine bc 10 rfl rfl zK zE rfl ?_;refine bc 11 rfl rfl zK zE rfl ?_;refine bc 12 rfl rfl zK zE rfl ?_;refine bc 13 rfl rfl zK zE rfl ?_;refine bc 14 rfl rfl zK zE rfl ?_)
   refine bc 15 rfl rfl zK zE rfl ?_
   (refine tk 16 _ rfl (bI rfl rfl) ?_)
   refine bf zK ?_;refine wB ?_;exact bJ () ft zS zE
 rintro _ ft;have hgo:s.Aw p w x size=decide (s.turns w size):=by unfold cP.Aw;exact decide_eq_decide.2 ⟨fun h=>h.2.resolve_left ft,fun h=>⟨hh,.inr h⟩⟩
 have vL:s.oo p w x size now=if s.turns w size then s.Av w size now else s:=by unfold cP.oo;rw [aB (fun q=>q hh),aB ft]
 rw [hgo,vL];have jL:=fun n=>I3 C7 n
 have tH:(s.st.set w { s.st.getD w lr with size:=size }).length=s.st.length:=List.length_set;have pN:∀ y∈s.ag,y.fits:=fun y hy=>(ha.st.fits y hy).1
 have Wd:=ha.st.BJ;have We:=ha.st.ord;obtain ⟨z,hz⟩:∃ z,z=(s.st.getD w lr).size:=⟨_,rfl⟩
 rw [← hz] at Xp
 have Sv:s.turns w size↔size≤s.dU.dc.size∧size≠z:=by unfold cP.turns;rw [hz]
 clear OU;have afz:=Xp (lf (.slice (some ⟨gs,0,none⟩) s.st.length a.cl) s.st::fU (.slice a.ak a.ts.length a.ck) a.ts::sG a.ga s.ord s.ag::R) _ .zero
 by_cases Nm:s.turns w size
 rotate_left
 ·rw [aq Nm,aB Nm];have Wc:¬ (size≤s.dU.dc.size∧size≠z):=fun q=>Nm (Sv.2 q)
  by_cases hle:size≤s.dU.dc.size
  ·have hze:size=z:=Decidable.not_not.1 fun q=>Wc ⟨hle,q⟩
   refine wB ?_;exact aY (lh g p retry (n+1) s::R) rfl (cj zE gy) ⟨rfl,rfl⟩
  ·refine wB ?_;exact aY (lh g p retry (n+1) s::R) rfl (cj zE gy) ⟨rfl,rfl⟩
 rw [ay Nm,aI Nm];obtain ⟨Ok,ht2⟩:=Sv.1 Nm;have abj:=cP.I2 (now:=now) ha.st PA Ok zo zo zo;have Nk:eM.ok a M p retry (n+1) (s.Av w size now):=⟨ha.wV,ha.cur,ha.Ui,ha.Q4,ha.done,ha.dk,abj,ha.pr,ha.low,ha.high⟩
 have Wj:=jL size;refine wB ?_;refine aZ rfl rfl (Ct.at zP (sH _ e g a.ga s.ord now w s.ag zR pN zo zo zo zo)) ?_;rintro _ _ ⟨rfl,rfl⟩;refine wB ?_
 have abk:(s.st.flatMap FW.cells).set (0+w*3+0) (.int .i64 (size:Int))=(s.Av w size now).st.flatMap FW.cells:=by
  rw [aC,Wj];rfl
 have SI:(s.Av w size now).st.length=s.st.length:=List.length_set;have abl:(s.Av w size now).dU=s.dU:=rfl;have abm:(s.Av w size now).cur=s.cur:=rfl;rw [abk];refine aY (lh g p retry (n+1) (s.Av w size now)::R) rfl (cj ?_ (lX Nk)) ⟨rfl,rfl⟩;dsimp only [pq,eM.cells,lf];rw [abl,abm,BO,SI,rL];exact zE
end Go.Proofs
namespace Go.Bs
theorem dZ.cL {L L':List cJ} {g o:Nat} {cs:List Value} (h:dZ L' g o cs) (f:cz L L'):dZ L g o cs:=fun j u hj=>(h j u hj).cL f
end Go.Bs
namespace Go.Proofs
open Go.Bs
attribute [local irreducible] Bs.cD Bs.Do Bs.O Bs.W Bs.Fin Bs.A Bs.Ct Bs.cE Bs.Rd Bs.Sat Bs.cK Bs.Ob Bs.dE Bs.View Bs.cz Bs.Ex Bs.dI Bs.Pu Bs.eY Bs.dN Bs.dZ
theorem KX:vI.sig.fits:=⟨fun x hx=>absurd hx aP,fun x hx=>absurd hx aP⟩
theorem cP.ok.abn {s:cP} {k n:Nat} (h:s.ok k n):s.dU.sig.fits:=by
 unfold cP.dU
 cases hc:s.cur with
 | none=>exact KX
 | some c=>exact (h.cur c hc).2.fits
abbrev rE:TypeId:=87
abbrev I6:List Value:=dS vI nY nY nY
theorem H3 (R:List cJ) (e:World) (g:Nat) (p:jG) (retry n:Nat) (s:cP) :
 Ct Tryz.prog 175 #[pt g] e (lh g p retry n s::R) (fun v' L'=>∃ (N:cJ) (ur up uq:Value),v'=.tuple #[.agg (dS s.dU ur up uq).toArray,.bool s.cur.isSome]∧fj [N] ur up uq s.dU∧L'=N::lh g p retry n s::R):=by
 refine vM fun a M ha=>?_
 refine bH (args:=[_]) Tryz.func175 rfl Tryz.ntmps175 Tryz.results175 rfl ?_
 (repeat (refine wA ?_;intros))
 rename_i g2;refine bk (id:=1) [10] (pq g p retry s a M R) Tryz.mixed ?_
 (refine tM 0 ?_;refine tN 1 ?_;refine tF 2 ?_;refine tk 3 _ rfl (cD.df rfl zP zI zX) ?_;refine tM 5 ?_;refine tN 6 ?_;refine tF 7 ?_;refine tL 8 ?_)
 refine tO 4 ?_;refine bg rfl rfl (gQ _ e a.ur a.up a.uq s.dU (ha.cur.cL (cG zP)) ha.st.abn) ?_;rintro _ _ ⟨N,ur,up,uq,rfl,hN,rfl⟩;refine ⟨fun _=>zE,?_⟩;refine A.cB (cn (hN.root.cL (cG zP))) fun o8=>?_
 refine A.cB (hN.sig.cL (cG zP)).parts.one fun o9=>?_
 refine A.cB (hN.sig.cL (cG zP)).path.one fun Ng=>?_
 refine tO 9 ?_;refine zg ?_;refine ⟨fun _=>zE,?_⟩
 ((refine tO 10 ?_;refine dV (bj rfl) ?_))
 refine bf zK ?_;refine wB ?_;apply br
 ·exact zV
 exact ⟨N::lh g p retry n s::R,cj (show cz _ (N::pq g p retry s a M R) from zE) (bh (lX ha)),N,ur,up,uq,rfl,hN,rfl⟩
theorem Fl (R:List cJ) (e:World) (g:Nat) (p:jG) (retry n:Nat) (s:cP) :
 Ct Tryz.prog 182 #[pt g] e (lh g p retry n s::R) (fun v' L'=>(s.dk=[]→v'=.tuple #[.agg I6.toArray,nY,.bool false]∧L'=lh g p retry n s::R)∧(s.dk≠[]→∃ (N:cJ) (ur up uq vg:Value),v'=.tuple #[.agg (dS s.done ur up uq).toArray,vg,.bool true]∧fj [N] ur up uq s.done∧oW [N] vg s.dk∧L'=N::lh g p retry n s::R)):=by
 refine vM fun a M ha=>?_
 have Fe:=ha.pr.fE;have VE:=ha.st.KK;obtain ⟨ts,fy,Uh,J9⟩:=ha.dk;have oH:ts.length=s.dk.length:=by rw [← fy,ae]
 refine a7 ((Uh.cL (show cz (pq g p retry s a M R) [M] from cG zP)).shape zo) ?_;rintro ⟨⟨DI,cg,O5,h3,h4,h5,h6⟩,_⟩;simp only [maxLen] at h4
 rw [O5] at Uh
 have xO:pq g p retry s a M R=cK g (lE p a.vl a.vw++[.int .i64 (retry:Int),pt a.ga,.slice a.al s.st.length a.cl]++dS s.dU a.ur a.up a.uq++[.bool s.cur.isSome,.slice a.ak a.ts.length a.ck]++dS s.done a.dr a.dp a.dq++[.slice DI ts.length cg]) sX (0,0)::M::lf (.slice a.al s.st.length a.cl) s.st::fU (.slice a.ak a.ts.length a.ck) a.ts::sG a.ga s.ord s.ag::R:=by
  dsimp only [pq,eM.cells];rw [O5]
 have gy:=lX (R:=R) (g:=g) ha;rw [xO] at gy ⊢
 refine bH (args:=[_]) Tryz.func182 rfl Tryz.ntmps182 Tryz.results182 rfl ?_
 by_cases he:s.dk=[]
 ·have u7:ts.length=0:=by rw [oH,he];rfl
  rw [u7] at gy ⊢
  (repeat (refine wA ?_;intros))
  apply br
  ·exact zV
  exact ⟨lh g p retry n s::R,cj zE gy,fun _=>⟨rfl,rfl⟩,fun h=>absurd he h⟩
 have qi:0<ts.length:=by rw [oH];exact List.length_pos_iff.2 he
 (repeat (refine wA ?_;intros))
 rename_i g2;refine bq (ι:=Nat × List jm × cJ × Option Addr × Nat) (fun j=>[(0,pt g),(2,pt g2),(5,.slice j.2.2.2.1 j.2.1.length j.2.2.2.2),(18,.slice DI ts.length cg),(19,.int .i64 (ts.length:Int)),(20,.int .i64 (j.1:Int))]) (fun j=>fU (.slice j.2.2.2.1 j.2.1.length j.2.2.2.2) j.2.1::j.2.2.1::cK g2 I6 rE (0,0)::cK g (lE p a.vl a.vw++[.int .i64 (retry:Int),pt a.ga,.slice a.al s.st.length a.cl]++dS s.dU a.ur a.up a.uq++[.bool s.cur.isSome,.slice a.ak a.ts.length a.ck]++dS s.done a.dr a.dp a.dq++[.slice DI ts.length cg]) sX (0,0)::M::lf (.slice a.al s.st.length a.cl) s.st::fU (.slice a.ak a.ts.length a.ck) a.ts::sG a.ga s.ord s.ag::R) (fun j=>j.1≤ts.length∧j.2.1.map (·.1)=s.dk.take j.1∧∀ t∈j.2.1,jm.ok [j.2.2.1] t) (fun j=>ts.length - j.1) (0,[],cH [],none,0) ⟨aH _,rfl,fun t ht=>by cases ht⟩ zS (cj (dK) (cj (dv nG 4) zE)) ?_;rintro ⟨k,us,Mx,m7,cu⟩ ⟨hk,gF,SD⟩;dsimp only at hk gF SD ⊢
 have LG:us.length=k:=by have:=congrArg List.length gF;rw [ae,aF] at this;omega
 by_cases cO:k<ts.length
 rotate_left
 ·rw [aG zo] at gF
  (repeat' first|refine Za ?_|apply Zc|apply Zd|apply Ze|apply Zf|refine Zg ?_|refine Zh ?_|refine ZB ?_|refine YA ?_|apply YD|apply YG|apply YJ|(apply O.df;exact rfl;exact zP;(first|(simp only [aC,Nat.add_zero,Nat.reduceAdd,List.drop_succ_cons,List.drop_zero,List.take_succ_cons,List.take_zero];done)|(simp only [aC,Nat.add_zero,Nat.reduceAdd,List.drop_succ_cons,List.drop_zero,List.take_succ_cons,List.take_zero];exact rfl));exact rfl;exact rfl))
  refine aZ rfl rfl (gQ _ e a.dr a.dp a.dq s.done (ha.done.cL (cG zP)) ha.st.Na) ?_;rintro _ _ ⟨N,ur,up,uq,rfl,hN,rfl⟩;refine bm (cn (hN.root.cL (cG zP))) fun o8=>?_
  refine bm (hN.sig.cL (cG zP)).parts.one fun o9=>?_
  refine bm (hN.sig.cL (cG zP)).path.one fun Ng=>?_
  have ho:cz [dI [N,fU (.slice m7 us.length cu) us,Mx]] [N,fU (.slice m7 us.length cu) us,Mx]:=cT (M:=[_,_,_]) (L:=[]);refine wB ?_;apply br
  ·exact zV
  refine ⟨dI [N,fU (.slice m7 us.length cu) us,Mx]::lh g p retry n s::R,cj (rb (A:=N) (B:=fU (.slice m7 us.length cu) us) (C:=Mx) zP zP zP) (bh (cj zE gy)),fun h=>absurd h he,fun _=>⟨_,ur,up,uq,.slice m7 us.length cu,rfl,hN.cL (cj ho (cG .zero)),oW.cL ⟨us,gF,bb (.succ .zero),fun t ht=>(SD t ht).cL (cG zP)⟩ ho,rfl⟩⟩
 rcases h6 with h6|⟨gg,og,rfl⟩
 ·omega
 have G5:dZ [M] gg (og+k*4) (jm.cells (ts[k]'cO)):=dZ.elem Uh jm.len (ab cO);have jt:=J9 _ (aA cO);have zj:k<s.dk.length:=by omega
 have EO:(ts[k]'cO).1=s.dk[k]'zj:=by
  have:=congrArg (fun l=>l[k]?) fy;simp only [aL,ab cO,ab zj,Option.map_some,Option.some.injEq] at this
  exact this
 have ft:s.dk.take (k+1)=s.dk.take k++[s.dk[k]'zj]:=aD zj;have J0:=(ha.st.dk _ (aA zj)).2.fits;rw [← EO] at ft J0
 generalize ts[k]'cO=y at *
 obtain ⟨⟨w,sg⟩,vp,QU⟩:=y;obtain ⟨t1,t2⟩:=jt;dsimp only at t1 t2 J0 ft G5
 refine W.cB (t1.cL (cG zP)).parts.one fun V6=>?_
 refine W.cB (t1.cL (cG zP)).path.one fun XI=>?_
 dsimp only [jm.cells] at G5
 have abo:∀ (L R':List cJ),cR L M R'→dZ L gg (og+k*4) (iA ⟨w,sg⟩ vp QU):=fun L R' pl=>G5.cL (cG pl)
 (repeat' first|(refine O.dy rfl (abo _ _ zP) rfl rfl ?_)|refine Za ?_|apply Zc|apply Zd|apply Ze|apply Zf|refine Zj ?_|refine ZA ?_|refine Yh fun _=>?_|refine Yx ?_|refine Yz ?_|apply YB|apply YC|refine YR ?_|fail)
 refine aZ rfl rfl (oX _ e vp QU ⟨w,sg⟩ (t1.cL (cG zP)) J0) ?_;rintro _ _ ⟨N2,wp,wq,rfl,nr,rfl⟩;refine bm (nr.cL (cG zP)).parts.one fun o13=>?_
 refine bm (nr.cL (cG zP)).path.one fun o14=>?_
 (repeat (refine wA ?_;intros))
 refine bC (bo rfl rfl rfl (show cR _ (fU (.slice m7 us.length cu) us) _ from zP) (bO (n:=4) (c:=1) zP rfl zl) rfl rfl zO zm zo fun ef k1 _=>?_)
 refine wB ?_;have eT:cz [dI [Mx,N2]] [Mx]:=cj (cT (M:=[_,_]) (L:=[])) (bh bF);have iI:cz [dI [Mx,N2]] [N2]:=cj (cT (M:=[_,_]) (L:=[])) (cz.drop (bh bF));refine bi (k+1,us++[(⟨w,sg⟩,wp,wq)],dI [Mx,N2],ef,k1) ⟨cO,by dsimp only;rw [ft,ah,gF];rfl,fun t ht=>?_⟩ zd ?_ ?_
 ·rcases aJ.1 ht with ht|ht
  ·exact (SD t ht).cL eT
  ·rw [an.1 ht];exact ⟨nr.cL iI,t2⟩
 ·simp only [aa,aj];exact zS
 ·simp only [fU,aa,aj,aW,aU,List.flatMap_nil,aK];exact cj (ep (A:=Mx) (B:=N2) zP zP) zE
end Go.Proofs
