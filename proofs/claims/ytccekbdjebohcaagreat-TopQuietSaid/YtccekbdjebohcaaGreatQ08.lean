/- Part 8 of a proof of this: TopQuiet returns true for any arguments; nothing of the old memory is turned. No condition. -/
import Derived.Test.YtccekbdjebohcaaGreatQ07
set_option linter.unusedVariables false
set_option linter.unusedSimpArgs false
namespace Go.Proofs
attribute [local irreducible] Bs.cE Bs.Do Bs.O Bs.W Bs.Fin Bs.A Bs.Ct Bs.cF Bs.Rd Bs.Sat Bs.cL Bs.Ob Bs.dJ Bs.View Bs.cB Bs.Ex Bs.dH Bs.Pu Bs.eZ Bs.dO Bs.dZ
open Go.Bs
open Tryz
variable (R:List cK) (e:World)
abbrev AE.cells (a:AE):List Value:=[.int .i64 (a.jD:Int),.int .i64 (a.ord:Int),.int .i64 (a.im:Int)]
abbrev CY:TypeId:=377
abbrev Xw:TypeId:=364
abbrev qE:TypeId:=379
abbrev nG (v:Value) (l:List AE):cK:=dJ CY 3 v l.length (l.flatMap AE.cells)
theorem CZ (a:AE):a.cells.length=3:=rfl
theorem Xx {l:List AE}:∀ c∈l.flatMap AE.cells,c.oneCell'=true:=r9 fun a _ c hc=>by
 simp only [AE.cells,aQ,aO,or_false] at hc
 rcases hc with rfl|rfl|rfl<;>rfl
theorem HO {l:List AE} {i:Nat} {a:AE} (h:i<l.length):(l.flatMap AE.cells).take (i*3)++a.cells++(l.flatMap AE.cells).drop (i*3+a.cells.length)=(l.set i a).flatMap AE.cells:=by
 rw [CZ,show i*3+3=(i+1)*3 by omega,mK CZ,xX CZ,List.set_eq_take_append_cons_drop,aI h,aW,aT,aM]
theorem mm {l:List AE} {i:Nat} (h:i<l.length):l.getD i kh=l[i]'h:=by simp [List.getD,h]
theorem Sz {n:Nat} (h:n≤1000000000):prog.keyLits 1 3 [.int .i64 (n:Int)]=some [.int .i64 (n:Int)]:=by
 simp only [Program.keyLits,underlying3];rw [aI ⟨trivial,by simp [Lit.wf,IntKind.min,IntKind.max,IntKind.signed,IntKind.bits];omega⟩]
theorem Q0 (a:AE) (h:a.fits):prog.keyLits 2 CY (Value.agg a.cells.toArray).cells.toList=some [.int .i64 (a.jD:Int),.int .i64 (a.ord:Int),.int .i64 (a.im:Int)]:=by
 have h1:prog.keyLits 2 CY (Value.agg a.cells.toArray).cells.toList=Option.map List.flatten ((prog.keyLits 1 3 [.int .i64 (a.jD:Int)]).bind fun x=>(prog.keyLits 1 3 [.int .i64 (a.ord:Int)]).bind fun y=>(prog.keyLits 1 3 [.int .i64 (a.im:Int)]).bind fun z=>some [x,y,z]):=by kernel_rfl
 rw [h1,Sz h.1,Sz h.2.1,Sz h.2.2]
 rfl
theorem aaS (a b:AE) (ha:a.fits) (hb:b.fits) (x y:Operand):∀ w,∃ r:Bool,((do eqGuard .eql CY x y (.agg a.cells.toArray) (.agg b.cells.toArray);binOp .eql CY (.agg a.cells.toArray) (.agg b.cells.toArray)):Sem Value).run prog w=.ok (.bool r) w:=fun w=>by
 have h1:(eqGuard .eql CY x y (.agg a.cells.toArray) (.agg b.cells.toArray)).run prog w=.ok () w:=by kernel_rfl
 obtain ⟨r,hr,-⟩:=run_equalIn_deep (P:=prog) 9990 10 CY zK w 2 2 (.agg a.cells.toArray) (.agg b.cells.toArray) _ _ zK zK (Q0 a ha) (Q0 b hb);have RI:(Op.equal CY (.agg a.cells.toArray) (.agg b.cells.toArray)).run prog w=.ok r w:=hr;refine ⟨r,?_⟩;rw [Sem.run_bind,h1];simp only [Result.andThen_ok,binOp];rw [Sem.run_bind,RI]
 rfl
instance : cJ prog 339 339:=⟨call339⟩
theorem Fc (a b:AE) (ha:a.fits) (hb:b.fits) :
 Ct prog 339 #[.agg a.cells.toArray,.agg b.cells.toArray] e R (fun v' L'=>∃ z:Int,v'=.int .i64 z∧decide (z<0)=a.lt b∧R=L'):=by
 refine a8 (args:=[_,_]) func339 rfl ntmps339 results339 rfl ?_;have cP:a.lt b=decide (a.jD<b.jD∨(a.jD=b.jD∧a.ord<b.ord)):=rfl
 (repeat' first|refine Za ?_|refine Zb ?_|apply Zc|apply Zd|apply Ze|apply Zf|refine Zh ?_|refine Zi ?_|refine Zj ?_|refine Zl ?_|refine Zm ?_|refine Zn ?_|refine Zo ?_|refine ZC (fun _=>?_) fun _=>?_|refine ZO (fun _=>?_) fun _=>?_|refine Yg fun _=>?_|refine Yz ?_|refine YA ?_|apply YB|apply YE|apply YF|apply YI)
 all_goals first
  | (exact aY R rfl zE ⟨-1,rfl,by rw [cP,ay zo,ay zo],rfl⟩)
  | (
   refine bC (Do.Sx (aaS a b ha hb _ _) rfl rfl rfl fun q=>?_)
   (repeat' first|(refine W.cond rfl ?_ ?_<;>intro _)|refine Zb ?_|apply Zc|apply Zd|apply Ze|apply Zf|apply YC|apply YE|apply YF|apply YH|apply YI)
   all_goals first
    | exact aY R rfl zE ⟨0,rfl,by rw [cP,aq zo,aq zo],rfl⟩
    | exact aY R rfl zE ⟨1,rfl,by rw [cP,aq zo,aq zo],rfl⟩)
theorem pw {v:Value} {l:List AE} {L R:List cK} (p:cR L (nG v l) R):∀ h,dO L h→∃ ad c,v=.slice ad l.length c∧l.length≤c∧c≤maxLen∧((ad=none∧c=0∧l.length=0)∨∃ g,ad=some ⟨g,0,none⟩):=fun h hs=>(fk p h hs).1
theorem KK (ad:Option Addr) (n c:Nat) :
 Ct prog 336 #[.slice ad n c] e R (fun v' L'=>v'=.int .i64 (n:Int)∧R=L'):=by
 refine a8 (args:=[_]) func336 rfl ntmps336 results336 rfl ?_;refine wB ?_;exact aY R rfl zE ⟨rfl,rfl⟩
theorem HP (v:Value) (l:List AE) (i j:Nat) (hv:cF R 3 v l.length (l.flatMap AE.cells)) (hf:∀ a∈l,a.fits) (hi:i<l.length) (hj:j<l.length) :
 Ct prog 337 #[v,.int .i64 (i:Int),.int .i64 (j:Int)] e R (fun v' L'=>v'=.bool ((l.getD i kh).lt (l.getD j kh))∧R=L'):=by
 refine a7 (cF.shape hv zo) ?_;rintro ⟨⟨ad,c,rfl,h3,h4,h5,h6⟩,_⟩;rcases h6 with h6|⟨g,o,rfl⟩
 ·omega
 rw [mm hi,mm hj];have f1:=hf _ (ax hi);have f2:=hf _ (ax hj);have r1:dZ R g (o+i*3) (l[i]'hi).cells:=dZ.elem hv CZ (ae hi);have r2:dZ R g (o+j*3) (l[j]'hj).cells:=dZ.elem hv CZ (ae hj)
 generalize l[i]'hi=a at *
 generalize l[j]'hj=b at *
 refine a8 (args:=[_,_,_]) func337 rfl ntmps337 results337 rfl ?_;refine wB ?_;refine bk (id:=1) [10] R mixed ?_
 (refine tM 0 ?_;refine tM 1 ?_;refine tk 2 _ rfl (bE rfl rfl zo) ?_;refine tJ 3 ?_;refine tM 4 ?_;refine tM 5 ?_;refine tk 6 _ rfl (bE rfl rfl zo) ?_;refine tJ 7 ?_)
 refine tO 8 ?_;refine bg rfl rfl (Fc _ e a b f1 f2) ?_;rintro _ _ ⟨z,rfl,hz,rfl⟩;refine ⟨fun _=>zE,?_⟩;rw [← hz]
 (all_goals ((refine A.Ox 9 rfl zK zE (cE.lss rfl rfl) rfl ?_ ?_<;>intro _));all_goals ((refine tO 10 ?_;refine dV (bj rfl) ?_)))
 all_goals refine bf zK ?_
 all_goals refine wB ?_
 all_goals first
  | exact aY R rfl zE ⟨by rw [ay (by assumption)];rfl,rfl⟩
  | exact aY R rfl zE ⟨by rw [aq (by assumption)];rfl,rfl⟩
theorem HQ (ad:Option Addr) (c:Nat) (l:List AE) (i j:Nat) (hi:i<l.length) (hj:j<l.length) :
 Ct prog 338 #[.slice ad l.length c,.int .i64 (i:Int),.int .i64 (j:Int)] e (nG (.slice ad l.length c) l::R) (fun v' L'=>v'=.tuple #[]∧L'=nG (.slice ad l.length c) (gL l i j)::R):=by
 refine a7 (pw .zero) ?_;rintro ⟨lO,c',hv,h3,h4,h5⟩
 cases hv
 rcases h5 with ⟨-,-,h5⟩|⟨g,rfl⟩
 ·omega
 have r1:∀ L,cF L 3 (.slice (some ⟨g,0,none⟩) l.length c) l.length (l.flatMap AE.cells)→dZ L g (0+i*3) (l[i]'hi).cells:=fun L hv=>dZ.elem hv CZ (ae hi)
 have r2:∀ L,cF L 3 (.slice (some ⟨g,0,none⟩) l.length c) l.length (l.flatMap AE.cells)→dZ L g (0+j*3) (l[j]'hj).cells:=fun L hv=>dZ.elem hv CZ (ae hj)
 have r3:=r1 _ (bb (show cR (nG (.slice (some ⟨g,0,none⟩) l.length c) l::R) (nG (.slice (some ⟨g,0,none⟩) l.length c) l) R from .zero));have r4:=r2 _ (bb (show cR (nG (.slice (some ⟨g,0,none⟩) l.length c) l::R) (nG (.slice (some ⟨g,0,none⟩) l.length c) l) R from .zero));clear r1 r2;have hsw:gL l i j=(l.set i (l[j]'hj)).set j (l[i]'hi):=by unfold gL;rw [mm hi,mm hj]
 rw [hsw];have fR:=HO (a:=l[j]'hj) hi;have mz:=HO (l:=l.set i (l[j]'hj)) (i:=j) (a:=l[i]'hi) (by rw [List.length_set];exact hj);have oR:(l.set i (l[j]'hj)).length=l.length:=List.length_set;have ry:((l.set i (l[j]'hj)).set j (l[i]'hi)).length=l.length:=by simp
 generalize l[i]'hi=a at *
 generalize l[j]'hj=b at *
 refine a8 (args:=[_,_,_]) func338 rfl ntmps338 results338 rfl ?_;have Xy:∀ x:AE,∀ v∈x.cells,v.oneCell'=true:=fun x v hv=>by simp only [AE.cells,aQ,aO,or_false] at hv;rcases hv with rfl|rfl|rfl<;>rfl
 refine bk (id:=0) [14,15] R mixed ?_
 (refine tM 0 ?_;refine tM 1 ?_;refine tM 2 ?_;refine tM 3 ?_;refine tM 4 ?_;refine tM 5 ?_;refine tk 6 _ rfl (bE rfl rfl zo) ?_)
 refine tM 8 ?_;refine tM 9 ?_;refine tk 10 _ rfl (bE rfl rfl hi) ?_;refine A.two 7 11 rfl rfl rfl rfl zK ?_ ?_
 ·refine bO (cE.dx rfl r4 rfl) rfl ⟨fun _=>zE,?_⟩;refine tO 11 ?_;refine bO (cE.dx rfl r3 rfl) rfl ⟨fun _=>zE,?_⟩;refine tO 12 ?_;refine bO (bE rfl rfl hi) rfl ⟨fun _=>zE,?_⟩;refine tO 13 ?_;refine Do.ow rfl rfl rfl (Xy _) .zero (by simp only [CZ];omega) ⟨fun _=>zE,?_⟩;rw [aC,fR];refine tO 14 ?_;refine bO (bE rfl rfl hj) rfl ⟨zN,?_⟩;refine tO 15 ?_;refine Do.ow rfl rfl rfl (Xy _) .zero (by simp only [CZ];omega) ⟨zN,?_⟩;rw [aC,mz];refine bf zK ?_;refine bU (nG (.slice (some ⟨g,0,none⟩) l.length c) ((l.set i b).set j a)::R) rfl ?_ ⟨rfl,rfl⟩;simp only [nG,ry];exact zE
 ·refine bO (cE.dx rfl r3 rfl) rfl ⟨fun _=>zE,?_⟩;refine tO 7 ?_;refine bO (cE.dx rfl r4 rfl) rfl ⟨fun _=>zE,?_⟩;refine tO 12 ?_;refine bO (bE rfl rfl hi) rfl ⟨fun _=>zE,?_⟩;refine tO 13 ?_;refine Do.ow rfl rfl rfl (Xy _) .zero (by simp only [CZ];omega) ⟨fun _=>zE,?_⟩;rw [aC,fR];refine tO 14 ?_;refine bO (bE rfl rfl hj) rfl ⟨zN,?_⟩;refine tO 15 ?_;refine Do.ow rfl rfl rfl (Xy _) .zero (by simp only [CZ];omega) ⟨zN,?_⟩;rw [aC,mz];refine bf zK ?_;refine bU (nG (.slice (some ⟨g,0,none⟩) l.length c) ((l.set i b).set j a)::R) rfl ?_ ⟨rfl,rfl⟩;simp only [nG,ry];exact zE
theorem HR {P:Program} (w:World) (t:TypeId) (p:Addr) (name:String):(Builtin.ssaWrapNilChk_ #[t] t #[.pointer (some p),strVal "",strVal name]).run P w=.ok (.pointer (some p)) w:=rfl
theorem m2 {P:Program} {t el:TypeId} {name:String} {sig f:Nat} {p:Addr} {v:Value} (hm:((P.info? t).bind fun i=>i.methods.find? (·.name == name))=some ⟨name,sig,#[],some (f,false)⟩) (hu:P.underlying t=some (.pointer el)) (DS:∀ w,(isAgg el).run P w=.ok false w) (n:Nat) (w:World) (h:w.cell? p=some v) :
 (Go.method (n+1) t (.pointer (some p)) name).run P w=.ok (f,v) w:=by
 cases hi:P.info? t with
 | none=>rw [hi] at hm;cases hm
 | some i =>
  rw [hi] at hm
  simp only [Option.bind_some] at hm
  simp [Go.method,run_typeInfo w hi,hm,follow,receiverAt,run_underlying hu,Place.get,HR,asAddr,loadVar,DS,h]
theorem kK {P:Program} {t:TypeId} {name:String} {f:Nat} {u v:Value} {w:World} (h:(Go.method (P.types.size+99+1) t u name).run P w=.ok (f,v) w) (hc:∀ args w,(callFunc f args).run P w=.ok (.enter f args) w) (xs:List Value) :
 (Go.invoke (.fn (.method name) #[]) (.iface t u::xs).toArray).run P w=.ok (.enter f (v::xs).toArray) w:=by
 have h1:(Go.invoke (.fn (.method name) #[]) (.iface t u::xs).toArray).run P w=(callMethod (.iface t u) name ((.iface t u::xs).toArray.extract 1 (.iface t u::xs).toArray.size)).run P w:=rfl;rw [h1];have h2:(.iface t u::xs).toArray.extract 1 (.iface t u::xs).toArray.size=xs.toArray:=by simp
 rw [h2];have h3:Made.depth=99+1:=rfl;simp only [callMethod,Sem.run_bind,run_program,Result.andThen_ok,h3,← Nat.add_assoc];rw [h];simp only [Result.andThen_ok,hc]
 simp
theorem SA (w:World) (p:Addr) (v:Value) (h:w.cell? p=some v):(Go.invoke (.fn (.method "Len") #[]) #[.iface qE (.pointer (some p))]).run prog w=.ok (.enter 336 #[v]) w:=by
 have h1:=m2 (P:=prog) (t:=qE) (el:=362) (name:= "Len") (sig:=36) (f:=336) zK underlying379 isAgg362 (prog.types.size+99) w h;exact kK h1 call336 []
theorem Pp (w:World) (p:Addr) (v x y:Value) (h:w.cell? p=some v):(Go.invoke (.fn (.method "Less") #[]) #[.iface qE (.pointer (some p)),x,y]).run prog w=.ok (.enter 337 #[v,x,y]) w:=by
 have h1:=m2 (P:=prog) (t:=qE) (el:=362) (name:= "Less") (sig:=406) (f:=337) zK underlying379 isAgg362 (prog.types.size+99) w h;exact kK h1 call337 [x,y]
theorem Pq (w:World) (p:Addr) (v x y:Value) (h:w.cell? p=some v):(Go.invoke (.fn (.method "Swap") #[]) #[.iface qE (.pointer (some p)),x,y]).run prog w=.ok (.enter 338 #[v,x,y]) w:=by
 have h1:=m2 (P:=prog) (t:=qE) (el:=362) (name:= "Swap") (sig:=331) (f:=338) zK underlying379 isAgg362 (prog.types.size+99) w h;exact kK h1 call338 [x,y]
theorem Pr (w:World) (p:Addr) (x:Value):(Go.invoke (.fn (.method "Push") #[]) #[.iface qE (.pointer (some p)),x]).run prog w=.ok (.enter 341 #[.pointer (some p),x]) w:=by kernel_rfl
theorem SB (w:World) (p:Addr):(Go.invoke (.fn (.method "Pop") #[]) #[.iface qE (.pointer (some p))]).run prog w=.ok (.enter 340 #[.pointer (some p)]) w:=by kernel_rfl
abbrev pN (g:Nat):Value:=.iface qE (pt g)
abbrev lL (g:Nat) (ad:Option Addr) (c o:Nat) (l:List AE) (R:List cK):List cK:=cL g [.slice ad l.length c,.int .i64 (o:Int)] Xw (0,0)::nG (.slice ad l.length c) l::R
theorem Do.C0 {N:Fr} {σ:Env} {e:World} {x:Operand} {d:Tmp} {pos:String} {af:Array Edge} {gd:Option (Nat × Bool)} {ty:TypeId} {K:Env→List cK→Prop} {g:Nat} {ad:Option Addr} {c o:Nat} {l:List AE} {R:List cK} {ats:Array TypeId}
 (h0:ev σ x=some (pN g)) (hd:Nat.blt d N.n=true) (k:K ((d,.int .i64 (l.length:Int))::σ) (lL g ad c o l R)) :
 Do prog N ⟨some d,.call { callee:=.invoke x "Len",args:=#[],argTypes:=ats },ty,pos,af,gd⟩ K σ e (lL g ad c o l R) :=
 Do.invoke (xs:=[]) (vs:=[]) h0 rfl hd (fun w hs=>SA w _ _ ((bQ .zero rfl).at hs)) (KK _ e ad l.length c) (by rintro _ _ ⟨rfl,rfl⟩;exact k)
theorem Do.qF {N:Fr} {σ:Env} {e:World} {x y z:Operand} {d:Tmp} {pos:String} {af:Array Edge} {gd:Option (Nat × Bool)} {ty:TypeId} {K:Env→List cK→Prop} {g:Nat} {ad:Option Addr} {c o:Nat} {l:List AE} {R:List cK} {ats:Array TypeId} {i j:Nat}
 (hf:∀ a∈l,a.fits) (h0:ev σ x=some (pN g)) (hy:ev σ y=some (.int .i64 (i:Int))) (hz:ev σ z=some (.int .i64 (j:Int))) (hd:Nat.blt d N.n=true) (hi:i<l.length) (hj:j<l.length) (k:K ((d,.bool ((l.getD i kh).lt (l.getD j kh)))::σ) (lL g ad c o l R)) :
 Do prog N ⟨some d,.call { callee:=.invoke x "Less",args:=#[y,z],argTypes:=ats },ty,pos,af,gd⟩ K σ e (lL g ad c o l R) :=
 Do.invoke (xs:=[y,z]) (vs:=[.int .i64 (i:Int),.int .i64 (j:Int)]) h0 (by simp only [p0,hy,hz]) hd (fun w hs=>Pp w _ _ _ _ ((bQ .zero rfl).at hs)) (HP _ e _ l i j (bb (.succ .zero)) hf hi hj) (by rintro _ _ ⟨rfl,rfl⟩;exact k)
theorem Do.zh {N:Fr} {σ:Env} {e:World} {x y z:Operand} {d:Tmp} {pos:String} {af:Array Edge} {gd:Option (Nat × Bool)} {ty:TypeId} {K:Env→List cK→Prop} {g:Nat} {ad:Option Addr} {c o:Nat} {l:List AE} {R:List cK} {ats:Array TypeId} {i j:Nat}
 (h0:ev σ x=some (pN g)) (hy:ev σ y=some (.int .i64 (i:Int))) (hz:ev σ z=some (.int .i64 (j:Int))) (hd:Nat.blt d N.n=true) (hi:i<l.length) (hj:j<l.length) (k:K ((d,.tuple #[])::σ) (lL g ad c o (gL l i j) R)) :
 Do prog N ⟨some d,.call { callee:=.invoke x "Swap",args:=#[y,z],argTypes:=ats },ty,pos,af,gd⟩ K σ e (lL g ad c o l R) :=
 Do.invoke (xs:=[y,z]) (vs:=[.int .i64 (i:Int),.int .i64 (j:Int)]) (Post:=fun v L'=>v=.tuple #[]∧L'=lL g ad c o (gL l i j) R) h0 (by simp only [p0,hy,hz]) hd (fun w hs=>Pq w _ _ _ _ ((bQ .zero rfl).at hs))
  ((
   Ct.at (.succ .zero) (HQ (cL g [.slice ad l.length c,.int .i64 (o:Int)] Xw (0,0)::R) e ad c l i j hi hj)).LK (by
   rintro _ _ ⟨rfl,rfl⟩;refine ⟨_,cn ?_ aX,rfl,rfl⟩;simp only [lL,dI];exact zE)) (by rintro _ _ ⟨rfl,rfl⟩;exact k)
theorem M9 (g:Nat) (ad:Option Addr) (c o:Nat) (l:List AE) (j:Nat) (hf:∀ a∈l,a.fits) (hj:j<l.length) (hl:l.length≤1000000) :
 Ct prog 314 #[pN g,.int .i64 (j:Int)] e (lL g ad c o l R) (fun v' L'=>v'=.tuple #[]∧L'=lL g ad c o (Ok j l j) R):=by
 refine a8 (args:=[_,_]) func314 rfl ntmps314 results314 rfl ?_;obtain ⟨fin,lR⟩:∃ f,f=Ok j l j:=⟨_,rfl⟩
 rw [← lR]
 (repeat (refine wA ?_;intros))
 refine bq (ι:=Nat × List AE × Nat) (fun i=>[(0,pN g),(1,.int .i64 (i.1:Int))]) (fun i=>lL g ad c o i.2.1 R) (fun i=>i.1<i.2.1.length∧i.2.1.length=l.length∧(∀ a∈i.2.1,a.fits)∧i.1≤i.2.2∧Ok i.2.2 i.2.1 i.1=fin) (fun i=>i.1) (j,l,j) ⟨hj,rfl,hf,aS _,lR.symm⟩ zS zE ?_;rintro ⟨j,l',n⟩ ⟨h1,h2,h3,h4,h5⟩;dsimp only at h1 h2 h3 h4 h5 ⊢
 by_cases hj0:j=0
 ·subst hj0
  have VT:l'=fin:=by
   rw [← h5]
   cases n with
   | zero=>rfl
   | succ n=>unfold Ok;rw [aI rfl]
  have hq:IntKind.i64.wrap ((((0:Nat):Int) - 1).tdiv 2)=((0:Nat):Int):=rfl
  (repeat' first|(refine bx _ (cE.Po rfl rfl zo hq) rfl ?_)|refine Za ?_|refine Zb ?_|apply Zc|apply Zd|apply Ze|apply Zf|refine Zl ?_|refine Zo ?_|refine ZM ?_|refine ZU ?_|refine Yz ?_|apply YB|apply YD|apply YG|apply YJ|refine YK ?_|fail)
  rw [VT];exact bU (lL g ad c o fin R) rfl zE ⟨rfl,rfl⟩
 obtain ⟨m,rfl⟩:∃ m,n=m+1:=⟨n - 1,by omega⟩
 have hq:IntKind.i64.wrap (((j:Int) - 1).tdiv 2)=(((j - 1) / 2:Nat):Int):=by
  rw [Int.tdiv_eq_ediv_of_nonneg zo,wrap_i64 zo zo];omega
 have hp:(j - 1) / 2<j:=by omega
 have Ao:(if (l'.getD j kh).lt (l'.getD ((j - 1) / 2) kh) then Ok m (gL l' ((j - 1) / 2) j) ((j - 1) / 2) else l')=fin:=by rw [← h5];conv=>rhs;unfold Ok;rw [aB hj0]
 generalize (j - 1) / 2=p at *
 by_cases cP:(l'.getD j kh).lt (l'.getD p kh)=true
 ·rw [aI cP] at Ao
  (repeat' first|(refine bx _ (cE.Po rfl rfl zo hq) rfl ?_)|(refine bC (Do.qF h3 rfl rfl rfl rfl h1 zo ?_);rw [cP])|refine bC (Do.zh rfl rfl rfl rfl zo h1 ?_)|refine Za ?_|refine Zb ?_|apply Zc|apply Zd|apply Ze|apply Zf|refine Zm ?_|refine Zn ?_|refine Zy ?_|refine ZN ?_|refine ZU ?_|refine YA ?_|apply YB|apply YC|apply YH)
  refine bi (p,gL l' p j,m) ⟨by dsimp only;rw [dI];omega,by dsimp only;rw [dI];exact h2,fun a ha=>h3 a ((lc zo h1).mem_iff.1 ha),by dsimp only;omega,Ao⟩ (by dsimp only;exact hp) zS zE
 ·have hlf:(l'.getD j kh).lt (l'.getD p kh)=false:=by simpa using cP
  rw [aB cP] at Ao
  (repeat' first|(refine bx _ (cE.Po rfl rfl zo hq) rfl ?_)|(refine bC (Do.qF h3 rfl rfl rfl rfl h1 zo ?_);rw [hlf])|refine Za ?_|refine Zb ?_|apply Zc|apply Zd|apply Ze|apply Zf|refine Zm ?_|refine Zn ?_|refine Zz ?_|refine ZN ?_|refine ZU ?_|refine Yz ?_|apply YB|apply YD|apply YG|apply YJ|refine YK ?_|fail)
  rw [Ao];exact bU (lL g ad c o fin R) rfl zE ⟨rfl,rfl⟩
theorem zi (g:Nat) (ad:Option Addr) (c o:Nat) (l:List AE) (i0 n:Nat) (hf:∀ a∈l,a.fits) (hi:i0<l.length) (hn:n≤l.length) (hl:l.length≤1000000) :
 Ct prog 308 #[pN g,.int .i64 (i0:Int),.int .i64 (n:Int)] e (lL g ad c o l R) (fun v' L'=>(∃ b:Bool,v'=.bool b)∧L'=lL g ad c o (lJ n l i0 n) R):=by
 refine a8 (args:=[_,_,_]) func308 rfl ntmps308 results308 rfl ?_;obtain ⟨fin,lR⟩:∃ f,f=lJ n l i0 n:=⟨_,rfl⟩
 rw [← lR];refine wB ?_;refine bq (ι:=Nat × List AE × Nat) (fun i=>[(0,pN g),(1,.int .i64 (i0:Int)),(2,.int .i64 (n:Int)),(7,.int .i64 (i.1:Int))]) (fun i=>lL g ad c o i.2.1 R) (fun i=>i.1<i.2.1.length∧i.2.1.length=l.length∧(∀ a∈i.2.1,a.fits)∧n≤i.1+i.2.2∧lJ i.2.2 i.2.1 i.1 n=fin) (fun i=>n - i.1) (i0,l,n) ⟨hi,rfl,hf,by dsimp only;omega,lR.symm⟩ zS zE ?_;rintro ⟨i,l',f⟩ ⟨h1,h2,h3,h4,h5⟩;dsimp only at h1 h2 h3 h4 h5 ⊢
 have ae7:∀ b:Bool,∃ b':Bool,(Value.bool b)=.bool b':=fun b=>⟨b,rfl⟩
 by_cases hk:n≤2*i+1
 ·have VT:l'=fin:=by
   rw [← h5]
   cases f with
   | zero=>rfl
   | succ f=>unfold lJ;rw [aI hk]
  rw [VT]
  (repeat' first|refine Za ?_|refine Zb ?_|apply Zc|apply Zd|apply Ze|apply Zf|refine Zl ?_|refine Zo ?_|refine ZI (fun _=>?_) fun _=>?_|refine ZJ ?_|refine ZS ?_|refine ZW ?_|refine Yz ?_|apply YB|apply YD|apply YE|apply YG|apply YJ|refine YK ?_|fail)
  all_goals exact aY (lL g ad c o fin R) rfl zE ⟨⟨_,rfl⟩,rfl⟩
 obtain ⟨f,rfl⟩:∃ m,f=m+1:=⟨f - 1,by omega⟩
 have Ao:(if (l'.getD (y7 l' i n) kh).lt (l'.getD i kh) then lJ f (gL l' i (y7 l' i n)) (y7 l' i n) n else l')=fin:=by rw [← h5];conv=>rhs;unfold lJ;rw [aB hk]
 have h22:(2:Int)*(i:Int)+1+1=((2*i+2:Nat):Int):=by omega
 have Xz:(2:Int)*(i:Int)+1=((2*i+1:Nat):Int):=by omega
 obtain ⟨k,KL⟩:∃ k,k=y7 l' i n:=⟨_,rfl⟩
 obtain ⟨k1,k2⟩:=CP (l:=l') (i:=i) (n:=n) zo;rw [← KL] at Ao k1 k2
 unfold y7 at KL
 (repeat' first|refine W.pJ (id:=8) (fun _:Unit=>[(0,pN g),(1,.int .i64 (i0:Int)),(2,.int .i64 (n:Int)),(7,.int .i64 (i:Int)),(9,.int .i64 (k:Int))]) (fun _=>lL g ad c o l' R) (fun _=>True) ?_ ?_|refine Za ?_|refine Zb ?_|apply Zc|apply Zd|apply Ze|apply Zf|refine Zm ?_|refine Zn ?_|refine ZB ?_|refine ZK ?_|refine ZS ?_|refine ZW ?_|refine YA ?_|apply YB|apply YC)
 ·rintro _ _
  by_cases cP:(l'.getD k kh).lt (l'.getD i kh)=true
  ·rw [aI cP] at Ao
   (repeat' first|(refine bC (Do.qF h3 rfl rfl rfl rfl zo h1 ?_);rw [cP])|refine bC (Do.zh rfl rfl rfl rfl h1 zo ?_)|refine Za ?_|refine Zb ?_|apply Zc|apply Zd|apply Ze|apply Zf|refine Zy ?_|refine YA ?_|apply YC|apply YH)
   refine bi (k,gL l' i k,f) ⟨by dsimp only;rw [dI];omega,by dsimp only;rw [dI];exact h2,fun a ha=>h3 a ((lc h1 zo).mem_iff.1 ha),by dsimp only;omega,Ao⟩ zd zS zE
  ·have hlf:(l'.getD k kh).lt (l'.getD i kh)=false:=by simpa using cP
   rw [aB cP] at Ao
   (repeat' first|(refine bC (Do.qF h3 rfl rfl rfl rfl zo h1 ?_);rw [hlf])|refine Za ?_|refine Zb ?_|apply Zc|apply Zd|apply Ze|apply Zf|refine Zz ?_|refine ZI (fun _=>?_) fun _=>?_|refine Yz ?_|apply YD|apply YE|apply YG|apply YJ|refine YK ?_|fail)
   all_goals rw [Ao]
   all_goals exact aY (lL g ad c o fin R) rfl zE ⟨⟨_,rfl⟩,rfl⟩
 ·refine ⟨?_⟩
  by_cases VU:2*i+2<n
  ·have Mr:=fun (N:Fr) (σ:Env) (x y z:Operand) (d:Tmp) (pos:String) (af:Array Edge) (gd:Option (Nat × Bool)) (ty:TypeId) (K:Env→List cK→Prop) (ats:Array TypeId)=>Do.qF (N:=N) (σ:=σ) (e:=e) (x:=x) (y:=y) (z:=z) (d:=d) (pos:=pos) (af:=af) (gd:=gd) (ty:=ty) (K:=K) (g:=g) (ad:=ad) (c:=c) (o:=o) (l:=l') (R:=R) (ats:=ats) (i:=2*i+2) (j:=2*i+1) h3
   by_cases ry:(l'.getD (2*i+2) kh).lt (l'.getD (2*i+1) kh)=true
   ·rw [aI ⟨VU,ry⟩] at KL
    subst KL;rw [ry] at Mr
    (repeat' first|refine O.want rfl ?_|(refine bC (Mr _ _ _ _ _ _ _ _ _ _ _ _ rfl (congrArg (fun z=>some (Value.int .i64 z)) h22) (congrArg (fun z=>some (Value.int .i64 z)) Xz) rfl zo zo ?_))|refine Za ?_|refine Zb ?_|apply Zc|apply Zd|apply Ze|apply Zf|refine Zl ?_|refine ZA ?_|refine ZS ?_|refine Yz ?_|fail)
    rw [h22];exact bK () trivial zS zE
   ·have QG:(l'.getD (2*i+2) kh).lt (l'.getD (2*i+1) kh)=false:=by simpa using ry
    rw [aB (fun q=>ry q.2)] at KL
    subst KL;rw [QG] at Mr
    (repeat' first|refine O.want rfl ?_|(refine bC (Mr _ _ _ _ _ _ _ _ _ _ _ _ rfl (congrArg (fun z=>some (Value.int .i64 z)) h22) (congrArg (fun z=>some (Value.int .i64 z)) Xz) rfl zo zo ?_))|refine Za ?_|refine Zb ?_|apply Zc|apply Zd|apply Ze|apply Zf|refine Zl ?_|refine ZA ?_|refine ZS ?_|refine YA ?_|apply YC)
    rw [Xz];exact bK () trivial zS zE
  ·rw [aB (fun q=>VU q.1)] at KL
   subst KL;refine wB ?_;rw [Xz];exact bK () trivial zS zE
theorem HS (g:Nat) (ad:Option Addr) (c o:Nat) (l:List AE) (hf:∀ a∈l,a.fits) (hl:l.length≤1000000) :
 Ct prog 306 #[pN g] e (lL g ad c o l R) (fun v' L'=>v'=.tuple #[]∧L'=lL g ad c o (uz (l.length / 2) l) R):=by
 refine a8 (args:=[_]) func306 rfl ntmps306 results306 rfl ?_;obtain ⟨fin,lR⟩:∃ f,f=uz (l.length / 2) l:=⟨_,rfl⟩
 rw [← lR]
 have hq:IntKind.i64.wrap ((l.length:Int).tdiv 2)=((l.length / 2:Nat):Int):=by
  rw [Int.tdiv_eq_ediv_of_nonneg zo,wrap_i64 zo zo];omega
 (repeat' first|refine bC (Do.C0 rfl rfl ?_)|(refine bx _ (cE.Po rfl rfl zo hq) rfl ?_)|refine Za ?_|refine Zb ?_|apply Zc|apply Zd|apply Ze|apply Zf|refine ZU ?_|apply YB)
 refine bq (ι:=Nat × List AE) (fun i=>[(0,pN g),(2,.int .i64 (l.length:Int)),(3,.int .i64 ((i.1:Int) - 1))]) (fun i=>lL g ad c o i.2 R) (fun i=>i.1≤l.length∧i.2.length=l.length∧(∀ a∈i.2,a.fits)∧uz i.1 i.2=fin) (fun i=>i.1) (l.length / 2,l) ⟨by dsimp only;omega,rfl,hf,lR.symm⟩ zS zE ?_;rintro ⟨k,l'⟩ ⟨h1,h2,h3,h5⟩;dsimp only at h1 h2 h3 h5 ⊢
 cases k with
 | zero =>
  have VT:l'=fin:=h5;rw [VT];refine wB ?_;exact bU (lL g ad c o fin R) rfl zE ⟨rfl,rfl⟩
 | succ k =>
  have hk:((k+1:Nat):Int) - 1=(k:Int):=by omega
  rw [hk];refine wB ?_;refine aZ rfl rfl (zi R e g ad c o l' k l.length h3 zo zo zo) ?_;rintro _ _ ⟨⟨b,rfl⟩,rfl⟩;refine wB ?_;have hp:=m1 l.length l' k l.length zo zo;refine bi (k,lJ l.length l' k l.length) ⟨by dsimp only;omega,by dsimp only;rw [hp.length_eq,h2],fun a ha=>h3 a (hp.mem_iff.1 ha),by dsimp only;rw [← h5];conv=>rhs;unfold uz;rw [h2]⟩ zd zS zE
abbrev Uc (a:AE):Value:=.iface CY (.agg a.cells.toArray)
theorem VV:∀ w (v:Value),(Instr.makeInterface CY v).run prog w=.ok (.iface CY v) w:=fun w v=>by kernel_rfl
theorem HT:∀ w (v:Value),(Instr.makeInterface qE v).run prog w=.ok (.iface qE v) w:=fun w v=>by kernel_rfl
theorem VW:∀ w (v:Value),(Instr.typeAssert (.iface CY v) 20 CY false).run prog w=.ok v w:=fun w v=>by kernel_rfl
theorem HU (g:Nat) (ad:Option Addr) (c o:Nat) (l:List AE) (a:AE) (hl:l.length≤1000000) :
 Ct prog 341 #[pt g,Uc a] e (lL g ad c o l R) (fun v' L'=>v'=.tuple #[]∧∃ lO c',L'=lL g lO c' o (l++[a]) R):=by
 refine a8 (args:=[_,_]) func341 rfl ntmps341 results341 rfl ?_;refine bk (id:=0) [8,9] (cL g [.slice ad l.length c,.int .i64 (o:Int)] Xw (0,0)::R) mixed ?_
 (refine tM 0 ?_;refine tM 1 ?_;refine tN 2 ?_;refine tL 3 ?_;refine tM 4 ?_)
 refine tk 5 _ rfl (cE.typeAssert VW rfl) ?_;refine tO 6 ?_;refine bF (n:=3) (cs:=a.cells) rfl rfl rfl rfl zQ rfl (fun g1=>⟨fun _=>zE,?_⟩);refine tO 7 ?_;refine bo rfl rfl rfl (show cR _ (nG (.slice ad l.length c) l) _ from zP) (bP (n:=3) (c:=1) .zero rfl zl) rfl rfl (fun c hc=>by simp only [AE.cells,aQ,aO,or_false] at hc;rcases hc with rfl|rfl|rfl<;>rfl) zm zo fun ei k1 _=>⟨fun _=>zE,?_⟩
 refine tO 8 ?_;refine dV (bm rfl) ?_;refine tO 9 ?_;refine tf ?_;refine ⟨zN,?_⟩;refine bf zK ?_;refine bU (lL g ei k1 o (l++[a]) R) rfl ?_ ⟨rfl,ei,k1,rfl⟩;simp only [lL,nG,aa,aj,aW,aT,List.flatMap_nil,aK];exact zE
theorem HV (g:Nat) (ad:Option Addr) (c o:Nat) (l:List AE) (a:AE) (hf:∀ x∈l,x.fits) (ha:a.fits) (hl:l.length≤100000) :
 Ct prog 307 #[pN g,Uc a] e (lL g ad c o l R) (fun v' L'=>v'=.tuple #[]∧∃ lO c',L'=lL g lO c' o (pM l a) R):=by
 refine a8 (args:=[_,_]) func307 rfl ntmps307 results307 rfl ?_;refine wB ?_;refine bC (Do.invoke (xs:=[.tmp 5]) (vs:=[Uc a]) rfl rfl rfl (fun w hs=>Pr w _ _) (HU R e g ad c o l a zo) ?_)
 rintro _ _ ⟨rfl,ei,c1,rfl⟩;have hla:(l++[a]).length=l.length+1:=by simp
 (repeat' first|refine bC (Do.C0 rfl rfl ?_)|refine Za ?_|apply Zd|apply Ze|apply Zf|refine ZU ?_|fail)
 have D0:((l++[a]).length:Int) - 1=(l.length:Int):=by simp
 have hup:=M9 R e g ei c1 o (l++[a]) l.length (fun x hx=>by
  rcases aJ.1 hx with hx|hx
  ·exact hf x hx
  ·rw [an.1 hx];exact ha) (by simp) (by simp;omega)
 rw [← D0] at hup
 refine aZ rfl rfl hup ?_;rintro _ _ ⟨rfl,rfl⟩
 (repeat (refine wA ?_;intros))
 exact bU (lL g ei c1 o (pM l a) R) rfl zE ⟨rfl,ei,c1,rfl⟩
theorem KM (g:Nat) (ad:Option Addr) (c o:Nat) (l:List AE) (n:Nat) (hn:l.length=n+1) (hl:l.length≤1000000) :
 Ct prog 340 #[pt g] e (lL g ad c o l R) (fun v' L'=>v'=Uc (l.getD n kh)∧L'=lL g ad c o (l.take n) R):=by
 refine a7 (pw (.succ .zero)) ?_;rintro ⟨lO,c',hv,h3,h4,h5⟩
 cases hv
 rcases h5 with ⟨-,-,h5⟩|⟨gl,rfl⟩
 ·omega
 have Ab:n<l.length:=by omega
 have r1:dZ (lL g (some ⟨gl,0,none⟩) c o l R) gl (0+n*3) (l[n]'Ab).cells:=dZ.elem (bb (.succ .zero)) CZ (ae Ab);rw [mm Ab]
 generalize l[n]'Ab=a at *
 have l8:(l.length:Int) - 1=(n:Int):=by omega
 have fq:(l.take n).length=n:=by rw [aF];omega
 refine a8 (args:=[_]) func340 rfl ntmps340 results340 rfl ?_;have tG:=nP (E:=CY) (n:=3) (ad:=some ⟨gl,0,none⟩) (k:=l.length) (lo:=n) (c:=c) (xs:=l.flatMap AE.cells) (R:=R) zo;rw [mK CZ] at tG
 (repeat' first|(refine bx _ (bE (i:=n) rfl (congrArg (fun z=>some (Value.int .i64 z)) l8) Ab) rfl ?_)|(refine O.dx rfl r1 rfl rfl ?_)|(refine bx _ (b7 VV rfl) rfl ?_)|refine Za ?_|refine Zb ?_|apply Zc|apply Zd|apply Ze|apply Zf|refine Zg ?_|refine Zi ?_|refine Zj ?_|refine Zk ?_|refine ZU ?_|refine Yd ?_|refine Yh fun _=>?_|refine Yr ?_|apply YE|refine YR ?_|fail)
 rw [show ((l.length:Int) - 1).toNat=n by omega];refine aY (lL g (some ⟨gl,0,none⟩) c o (l.take n) R) rfl (cn (show cB _ (nG (.slice (some ⟨gl,0,none⟩) l.length c) l::cL g [.slice (some ⟨gl,0,none⟩) n c,.int .i64 (o:Int)] Xw (0,0)::R) from zE) (cn (nP (lo:=n) zo) ?_)) ⟨rfl,rfl⟩;rw [mK CZ];simp only [lL,nG,fq];exact zE
theorem KN (g:Nat) (ad:Option Addr) (c o:Nat) (l:List AE) (hf:∀ x∈l,x.fits) (hn:0<l.length) (hl:l.length≤100000) :
 Ct prog 288 #[pN g] e (lL g ad c o l R) (fun v' L'=>v'=Uc (l.getD 0 kh)∧L'=lL g ad c o (pW l) R):=by
 obtain ⟨n,AX⟩:∃ n,l.length=n+1:=⟨l.length - 1,by omega⟩
 have l8:(l.length:Int) - 1=(n:Int):=by omega
 have h1:=lc (l:=l) (i:=0) (j:=n) zo zo;have h2:=m1 n (gL l 0 n) 0 n (by rw [dI];omega) (by rw [dI];omega);have h3:=y9 n (gL l 0 n) 0 n n (by rw [dI];omega) (by rw [dI];omega) zo (aS _)
 have h4:(gL l 0 n).getD n kh=l.getD 0 kh:=by
  unfold gL;rw [aA,List.getElem?_set_self (by simp;omega)]
  rfl
 have hlen:=h2.length_eq;rw [dI] at hlen
 have XA:pW l=(lJ n (gL l 0 n) 0 n).take n:=by unfold pW;rw [show l.length - 1=n by omega]
 have XB:=KM R e g ad c o (lJ n (gL l 0 n) 0 n) n zo zo;rw [h3,h4,← XA] at XB
 have XC:=zi R e g ad c o (gL l 0 n) 0 n (fun x hx=>hf x (h1.mem_iff.1 hx)) (by rw [dI];omega) (by rw [dI];omega) (by rw [dI];omega);rw [← l8] at XC
 refine a8 (args:=[_]) func288 rfl ntmps288 results288 rfl ?_
 (repeat' first|refine bC (Do.C0 rfl rfl ?_)|refine bC (Do.zh (i:=0) (j:=n) rfl rfl (congrArg (fun z=>some (Value.int .i64 z)) l8) rfl hn zo ?_)|refine Za ?_|refine Zb ?_|apply Zc|apply Zd|apply Ze|apply Zf|refine ZU ?_|fail)
 refine aZ rfl rfl XC ?_;rintro _ _ ⟨⟨b,rfl⟩,rfl⟩;refine wB ?_;refine bC (Do.invoke (xs:=[]) (vs:=[]) rfl rfl rfl (fun w hs=>SB w _) XB ?_)
 rintro _ _ ⟨rfl,rfl⟩;refine wB ?_;exact aY (lL g ad c o (pW l) R) rfl zE ⟨rfl,rfl⟩
def SC (g o:Nat) (l:List AE) (ad:Option Addr) (c:Nat):cK:=dH (lL g ad c o l [])
def sG (g o:Nat) (l:List AE):cK:=Ex fun ad=>Ex fun c=>SC g o l ad c
theorem HW {g o:Nat} {l:List AE} {R:List cK} {P:Program} {f:FuncId} {args:Array Value} {e:World} {Post:Value→List cK→Prop}
 (h:∀ ad c,Ct P f args e (lL g ad c o l R) Post):Ct P f args e (sG g o l::R) Post :=
 Ct.ex .zero fun ad=>Ct.ex .zero fun c=>(h ad c).cM (cU (M:=lL g ad c o l []) (L:=R))
theorem BL {g o:Nat} {l:List AE} {R:List cK} {ad:Option Addr} {c:Nat}:cB (lL g ad c o l R) (sG g o l::R) :=
 cn (dS (M:=lL g ad c o l []) (L:=R)) (cn (fx (f:=fun c=>SC g o l ad c) c) (fx (f:=fun ad=>Ex fun c=>SC g o l ad c) ad))
theorem vI :
 Ct prog 236 #[] e R (fun v' L'=>∃ g,v'=pt g∧L'=sG g 0 []::R):=by
 refine a8 (args:=[]) func236 rfl ntmps236 results236 rfl ?_
 (repeat (refine wA ?_;intros))
 rename_i g;exact aY (sG g 0 []::R) rfl (cn (bh (du CY 3)) (BL (g:=g) (o:=0) (l:=[]) (ad:=none) (c:=0))) ⟨g,rfl,rfl⟩
theorem KO (g o:Nat) (l:List AE) (t w:Nat) (hf:∀ x∈l,x.fits) (ht:t≤1000000000) (hw:w≤1000000000) (ho:o≤1000000000) (hl:l.length≤100000) :
 Ct prog 286 #[pt g,.int .i64 (t:Int),.int .i64 (w:Int)] e (sG g o l::R) (fun v' L'=>v'=.tuple #[]∧L'=sG g (o+1) (pM l ⟨t,o,w⟩)::R):=by
 refine HW fun ad c=>?_
 refine a8 (args:=[_,_,_]) func286 rfl ntmps286 results286 rfl ?_;refine W.seq ?_;refine bk (id:=0) [] R mixed ?_
 (refine tM 0 ?_;refine tN 1 ?_;refine tF 2 ?_;refine tM 4 ?_;refine tM 5 ?_;refine tN 6 ?_;refine tF 7 ?_)
 (refine tM 9 ?_)
 refine tk 3 _ rfl (b7 HT rfl) ?_;refine tO 8 ?_;refine bO (bp rfl zR) rfl ⟨fun _=>zE,?_⟩
 (refine tk 10 _ rfl (bM rfl zF) ?_)
 refine tk 11 (Uc ⟨t,o,w⟩) rfl (b7 VV rfl) ?_;refine tO 12 ?_;refine bg rfl rfl (HV R e g ad c o l ⟨t,o,w⟩ hf ⟨ht,ho,hw⟩ hl) ?_;rintro _ _ ⟨rfl,ei,c1,rfl⟩;refine ⟨fun _=>zE,?_⟩;refine bf zK ?_;refine wB ?_;exact bU (sG g (o+1) (pM l ⟨t,o,w⟩)::R) rfl (cn (show cB _ (lL g ei c1 (o+1) (pM l ⟨t,o,w⟩) R) from zE) BL) ⟨rfl,rfl⟩
theorem HX (g o:Nat) (ad:Option Addr) (c:Nat) (l:List AE) :
 Ct prog 287 #[pt g] e (lL g ad c o l R) (fun v' L'=>v'=.tuple #[.int .i64 ((l.getD 0 kh).jD:Int),.int .i64 ((l.getD 0 kh).im:Int),.bool (decide (0<l.length))]∧L'=lL g ad c o l R):=by
 refine a7 (pw (.succ .zero)) ?_;rintro ⟨lO,c',hv,h3,h4,h5⟩
 cases hv
 refine a8 (args:=[_]) func287 rfl ntmps287 results287 rfl ?_
 by_cases hz:l.length=0
 ·have u7:l=[]:=List.length_eq_zero_iff.1 hz;subst u7;refine wB ?_;exact aY (lL g ad c o [] R) rfl zE ⟨rfl,rfl⟩
 rcases h5 with ⟨-,-,h5⟩|⟨gl,rfl⟩
 ·omega
 have Ab:0<l.length:=by omega
 have r1:dZ (lL g (some ⟨gl,0,none⟩) c o l R) gl (0+0*3) (l[0]'Ab).cells:=dZ.elem (bb (.succ .zero)) CZ (ae Ab);rw [mm Ab,ay Ab]
 generalize l[0]'Ab=a at *
 have ra:Rd (lL g (some ⟨gl,0,none⟩) c o l R) ⟨gl,0+0+0,none⟩ (.int .i64 (a.jD:Int)):=r1.Oy (k:=0) rfl;have rw':Rd (lL g (some ⟨gl,0,none⟩) c o l R) ⟨gl,0+0+2,none⟩ (.int .i64 (a.im:Int)):=r1.Oy (k:=2) rfl;refine wB ?_;refine bk (id:=3) [15,16] (lL g (some ⟨gl,0,none⟩) c o l R) mixed ?_
 (refine tM 0 ?_;refine tN 1 ?_;refine tF 2 ?_;refine tL 3 ?_;refine tk 4 _ rfl (bE rfl rfl zo) ?_;refine tF 5 ?_;refine tL 6 ?_;refine tM 7 ?_;refine tN 8 ?_;refine tF 9 ?_;refine tL 10 ?_;refine tk 11 _ rfl (bE rfl rfl zo) ?_;refine tF 12 ?_;refine tL 13 ?_;refine tA 14 ?_;(refine tO 15 ?_;refine dV (bj rfl) ?_);(refine tO 16 ?_;refine dV (bj rfl) ?_))
 refine bf zK ?_;refine wB ?_;exact aY (lL g (some ⟨gl,0,none⟩) c o l R) rfl zE ⟨rfl,rfl⟩
theorem BM (g o:Nat) (l:List AE) (now:Int) (hf:∀ x∈l,x.fits) (hl:l.length≤100000) :
 Ct prog 247 #[pt g,.int .i64 now] e (sG g o l::R) (fun v' L'=>(¬ (0<l.length∧((l.getD 0 kh).jD:Int)≤now)∧v'=.tuple #[.int .i64 0,.bool false]∧L'=sG g o l::R)∨(0<l.length∧((l.getD 0 kh).jD:Int)≤now∧v'=.tuple #[.int .i64 ((l.getD 0 kh).im:Int),.bool true]∧L'=sG g o (pW l)::R)):=by
 refine HW fun ad c=>?_
 refine a8 (args:=[_,_]) func247 rfl ntmps247 results247 rfl ?_;refine wB ?_;refine aZ rfl rfl (HX R e g o ad c l) ?_;rintro _ _ ⟨rfl,rfl⟩
 by_cases hz:0<l.length
 rotate_left
 ·rw [aq hz];refine wB ?_;exact aY (sG g o l::R) rfl BL (.inl ⟨fun q=>hz q.1,rfl,rfl⟩)
 rw [ay hz]
 by_cases hle:((l.getD 0 kh).jD:Int)≤now
 rotate_left
 ·generalize (l.getD 0 kh).jD=jD at *
  refine wB ?_
  all_goals exact aY (sG g o l::R) rfl BL (.inl ⟨fun q=>hle q.2,rfl,rfl⟩)
 have XB:=KN R e g ad c o l hf hz hl
 generalize l.getD 0 kh=a at *
 have hfa:∀ w,(Instr.field CY (.agg #[.int .i64 (a.jD:Int),.int .i64 (a.ord:Int),.int .i64 (a.im:Int)]) 2).run prog w=.ok (.int .i64 (a.im:Int)) w:=fun w=>by kernel_rfl
 (repeat' first|(refine bx _ (b7 HT rfl) rfl ?_)|refine Za ?_|refine Zb ?_|apply Zc|apply Zd|apply Ze|apply Zf|refine Zg ?_|refine Zh ?_|refine Zm ?_|refine Zn ?_|refine Zy ?_|refine ZH ?_|refine YA ?_|apply YC|refine YN ?_|fail)
 refine aZ rfl rfl XB ?_;rintro _ _ ⟨rfl,rfl⟩
 (repeat' first|(refine bx _ (cE.typeAssert VW rfl) rfl ?_)|(refine bx _ (cE.Sy hfa rfl) rfl ?_)|refine Zb ?_|apply Ze|apply Zf|apply YE)
 exact aY (sG g o (pW l)::R) rfl BL (.inr ⟨hz,hle,rfl,rfl⟩)
theorem uA (a:AE) (gw w:Nat) (hg:Rd R ⟨gw,0,none⟩ (.int .i64 (w:Int))) :
 Ct prog 305 #[.agg a.cells.toArray,pt gw] e R (fun v' L'=>v'=.bool (decide (a.im=w))∧R=L'):=by
 refine a8 (args:=[_,_]) func305 rfl ntmps305 results305 rfl ?_
 (repeat' first|refine Zb ?_|apply Zc|apply Zd|apply Ze|apply Zf|refine Zh ?_|refine Zi ?_|refine ZO (fun _=>?_) fun _=>?_|refine Yg fun _=>?_|apply YE)
 all_goals first
  | exact aY R rfl zE ⟨by rw [ay zo];rfl,rfl⟩
  | exact aY R rfl zE ⟨by rw [aq zo];rfl,rfl⟩
end Go.Proofs
namespace Go.Proofs
attribute [local irreducible] Bs.cE Bs.Do Bs.O Bs.W Bs.Fin Bs.A Bs.Ct Bs.cF Bs.Rd Bs.Sat Bs.cL Bs.Ob Bs.dJ Bs.View Bs.cB Bs.Ex Bs.dH Bs.Pu Bs.eZ Bs.dO Bs.dZ
open Go.Bs
open Tryz
variable (R:List cK) (e:World)
theorem Fe (v:Value) (l:List AE) (gw w:Nat) (hv:cF R 3 v l.length (l.flatMap AE.cells)) (hg:Rd R ⟨gw,0,none⟩ (.int .i64 (w:Int))) (hl:l.length≤100000) :
 Ct prog 313 #[v,.func (.func 305) #[] #[pt gw]] e R (fun v' L'=>(∃ k:Int,v'=.int .i64 k∧((k = -1∧∀ i,i<l.length→(l.getD i kh).im≠w)∨∃ j:Nat,k=j∧j<l.length∧(l.getD j kh).im=w∧∀ i,i<j→(l.getD i kh).im≠w))∧R=L'):=by
 refine a7 (hv.shape zo) ?_;rintro ⟨⟨ad,cap,rfl,h3,h4,h5,h6⟩,_⟩;refine a8 (args:=[_,_]) func313 rfl ntmps313 results313 rfl ?_;refine wB ?_;refine bq (ι:=Nat) (fun i=>[(0,.slice ad l.length cap),(1,.func (.func 305) #[] #[pt gw]),(7,.int .i64 (l.length:Int)),(8,.int .i64 (i:Int))]) (fun _=>R) (fun i=>i≤l.length∧∀ j,j<i→(l.getD j kh).im≠w) (fun i=>l.length - i) 0 ⟨aH _,fun j h=>absurd h (Nat.not_lt_zero j)⟩ zS aX ?_;rintro i ⟨h1,h2⟩
 by_cases cP:i<l.length
 rotate_left
 ·refine wB ?_;exact aY R rfl aX ⟨⟨-1,rfl,.inl ⟨rfl,fun j hj=>h2 j zo⟩⟩,rfl⟩
 rcases h6 with h6|⟨gl,ol,rfl⟩
 ·omega
 have hr:dZ R gl (ol+i*3) (l[i]'cP).cells:=dZ.elem hv CZ (ae cP);have tg:=mm cP
 generalize l[i]'cP=a at *
 (repeat' first|(refine O.dx rfl hr rfl rfl ?_)|refine Za ?_|refine Zb ?_|apply Zc|apply Zd|apply Ze|apply Zf|refine ZA ?_|refine Yx ?_|refine Yz ?_|apply YB|apply YC)
 refine bC (Do.gD (us:=[]) (ws:=[pt gw]) rfl rfl rfl (uA _ e a gw w hg) ?_)
 rintro _ _ ⟨rfl,rfl⟩
 by_cases hw:a.im=w
 ·rw [ay hw];refine wB ?_;exact aY R rfl aX ⟨⟨i,rfl,.inr ⟨i,rfl,cP,by rw [tg];exact hw,h2⟩⟩,rfl⟩
 ·rw [aq hw];refine wB ?_;refine bi (i+1) ⟨cP,fun j hj=>?_⟩ zo zS aX
  by_cases A3:j=i
  ·subst A3;rw [tg];exact hw
  ·exact h2 j zo
abbrev oA (w:Nat) (a:AE):Bool:=decide (a.im≠w)
theorem filter_all {l:List AE} {w:Nat} (h:∀ i,i<l.length→(l.getD i kh).im≠w):l.filter (oA w)=l:=List.filter_eq_self.2 fun a ha=>by
 obtain ⟨i,hi,rfl⟩:=List.mem_iff_getElem.1 ha;have:=h i hi;rw [mm hi] at this
 exact ay this
theorem KP (ad:Option Addr) (c:Nat) (l:List AE) (gw w:Nat) (hg:Rd R ⟨gw,0,none⟩ (.int .i64 (w:Int))) (hl:l.length≤100000) :
 Ct prog 304 #[.slice ad l.length c,.func (.func 305) #[] #[pt gw]] e (nG (.slice ad l.length c) l::R) (fun v' L'=>v'=.slice ad (l.filter (oA w)).length c∧L'=nG (.slice ad (l.filter (oA w)).length c) (l.filter (oA w))::R):=by
 refine a7 (pw .zero) ?_;rintro ⟨lO,c',hv,h3,h4,h5⟩
 cases hv
 refine a8 (args:=[_,_]) func304 rfl ntmps304 results304 rfl ?_;refine wB ?_;refine aZ rfl rfl (Fe _ e _ l gw w (bb .zero) hg.tail hl) ?_;rintro _ _ ⟨⟨k,rfl,hk⟩,rfl⟩;rcases hk with ⟨rfl,eU⟩|⟨k,rfl,Oh,hkw,hkb⟩
 ·rw [filter_all eU];refine wB ?_;exact aY (nG (.slice ad l.length c) l::R) rfl aX ⟨rfl,rfl⟩
 rcases h5 with ⟨-,-,h5⟩|⟨g,rfl⟩
 ·omega
 simp only [maxLen] at h4
 have Q2:((k:Int)+1)=((k+1:Nat):Int):=by omega
 have VX:l.take k=(l.take (k+1)).filter (oA w):=by
  rw [aD Oh,List.filter_append];rw [mm Oh] at hkw
  rw [filter_all (l:=l.take k) (w:=w) (fun i hi=>by
   rw [aF] at hi
   have:=hkb i zo
   rwa [aA,List.getElem?_take_of_lt zo,← aA])]
  simp [oA,hkw]
 refine wB ?_;refine bq (ι:=Nat × Nat × List AE) (fun i=>[(0,.slice (some ⟨g,0,none⟩) l.length c),(1,.func (.func 305) #[] #[pt gw]),(5,.int .i64 (i.1:Int)),(6,.int .i64 (i.2.1:Int))]) (fun i=>dJ CY 3 (.slice (some ⟨g,0,none⟩) l.length c) l.length (i.2.2.flatMap AE.cells)::R) (fun i=>i.1<i.2.1∧i.2.1≤l.length∧i.2.2.length=l.length∧i.2.2.take i.1=(l.take i.2.1).filter (oA w)∧i.2.2.drop i.2.1=l.drop i.2.1) (fun i=>l.length - i.2.1) (k,k+1,l) ⟨by dsimp only;omega,Oh,rfl,VX,rfl⟩ zS zE ?_;rintro ⟨i,j,cur⟩ ⟨h1,h2,h6,h7,h8⟩;dsimp only at h1 h2 h6 h7 h8 ⊢
 by_cases cP:j<l.length
 rotate_left
 ·rw [aG (l:=l) zo] at h7
  have e2:(l.length:Int).toNat=l.length:=rfl;refine wB ?_;refine bC (Do.clear (o:=i*3) (g:=g) (c:=c) (kk:=l.length) rfl .zero rfl (by simp [Value.oneCell',Value.cells]) (by simp;omega) (.inr ?_) fun zs hz=>?_)
  ·unfold cutAt;rw [aB (by simp;omega)]
   simp [Addr.add_lit]
  have DF:(l.filter (oA w)).length=i:=by rw [← h7,aF];omega
  have hx:(cur.flatMap AE.cells).length=l.length*3:=by rw [A7 CZ,h6]
  have tG:=nP (E:=CY) (n:=3) (ad:=some ⟨g,0,none⟩) (k:=l.length) (lo:=i) (c:=c) (R:=R) (xs:=(cur.flatMap AE.cells).take (i*3)++zs++(cur.flatMap AE.cells).drop (i*3+(l.length - (i:Int).toNat)*3)) zo
  have ju:(((cur.flatMap AE.cells).take (i*3)++zs++(cur.flatMap AE.cells).drop (i*3+(l.length - (i:Int).toNat)*3)).take (i*3))=(l.filter (oA w)).flatMap AE.cells:=by
   rw [aM,List.take_append_of_le_length (by rw [aF];omega),List.take_take,Nat.min_self,mK CZ,h7]
  rw [ju] at tG
  refine wB ?_;refine aY (nG (.slice (some ⟨g,0,none⟩) (l.filter (oA w)).length c) (l.filter (oA w))::R) rfl (cn tG ?_) ⟨by rw [DF];rfl,rfl⟩;simp only [nG,DF];exact zE
 have hcj:cur[j]'zo=l[j]'cP:=by
  have:=congrArg (fun q=>q[0]?) h8;simp only [List.getElem?_drop,Nat.add_zero] at this
  rw [ae zo,ae cP] at this
  exact Option.some.inj this
 have fq:l.take (j+1)=l.take j++[l[j]'cP]:=aD cP
 have hr:dZ (dJ CY 3 (.slice (some ⟨g,0,none⟩) l.length c) l.length (cur.flatMap AE.cells)::R) g (0+j*3) (l[j]'cP).cells:=by
  rw [← hcj];exact dZ.elem (bb .zero) CZ (ae zo)
 generalize l[j]'cP=a at *
 (repeat' first|(refine O.dx rfl hr rfl rfl ?_)|refine Za ?_|apply Zc|apply Zd|apply Ze|apply Zf|refine Zj ?_|refine Zk ?_|refine ZA ?_|refine Yh fun _=>?_|refine Yx ?_|refine Yz ?_|apply YB|apply YC|refine YR ?_|fail)
 rename_i gv;refine bC (Do.gD (us:=[]) (ws:=[pt gw]) rfl rfl rfl (uA _ e a gw w (hg.cM zE)) ?_)
 rintro _ _ ⟨rfl,rfl⟩;have hdj:cur.drop (j+1)=l.drop (j+1):=by rw [← List.drop_drop,← List.drop_drop,h8]
 by_cases hw:a.im=w
 ·rw [ay hw];refine wB ?_;refine bi (i,j+1,cur) ⟨by dsimp only;omega,cP,h6,?_,hdj⟩ zd zS zE;dsimp only;rw [fq,List.filter_append,← h7]
  simp [oA,hw]
 ·rw [aq hw];have eK:=HO (l:=cur) (i:=i) (a:=a) zo;refine wB ?_;refine bC (Do.ow rfl rfl rfl (by intro v hv;simp only [AE.cells,aQ,aO,or_false] at hv;rcases hv with rfl|rfl|rfl<;>rfl) (.succ .zero) (by simp only [aN,List.length_nil];omega) ?_)
  rw [aC,eK];refine wB ?_;refine bi (i+1,j+1,cur.set i a) ⟨by dsimp only;omega,cP,by dsimp only;rw [List.length_set];exact h6,?_,?_⟩ zd zS zE
  ·dsimp only;rw [fq,List.filter_append,← h7,List.take_set,aD zo,List.set_append_right _ _ (by simp;omega)]
   simp [oA,hw,Nat.min_eq_left (show i≤cur.length by omega)]
  ·dsimp only;rw [List.drop_set_of_lt zo,hdj]
theorem uB (g o:Nat) (l:List AE) (w:Nat) (hf:∀ x∈l,x.fits) (hl:l.length≤100000) :
 Ct prog 285 #[pt g,.int .i64 (w:Int)] e (sG g o l::R) (fun v' L'=>(∃ z:Int,v'=.int .i64 z)∧L'=sG g o (gM l w)::R):=by
 refine HW fun ad c=>?_
 have DF:(l.filter (oA w)).length≤l.length:=List.length_filter_le _ _;refine a8 (args:=[_,_]) func285 rfl ntmps285 results285 rfl ?_
 (repeat (refine wA ?_;intros))
 rename_i gw;refine aZ rfl rfl (Ct.at zP (KP _ e ad c l gw w zR hl)) ?_;rintro _ _ ⟨rfl,rfl⟩;have gB:=fun L:List cK=>HS L e g ad c o (l.filter (oA w)) (fun x hx=>hf x (List.mem_filter.1 hx).1) zo
 have hca:gM l w=uz ((l.filter (oA w)).length / 2) (l.filter (oA w)):=rfl;have hpm:=(sD ((l.filter (oA w)).length / 2) (l.filter (oA w)) zo).length_eq
 generalize l.filter (oA w)=fl at *
 (repeat' first|(refine bx _ (b7 HT rfl) rfl ?_)|refine Za ?_|apply Zc|apply Zd|apply Ze|apply Zf|refine Zg ?_|refine Zh ?_|refine Yd ?_|fail)
 refine aZ rfl rfl ((gB (cL gw [.int .i64 (w:Int)] 3 (0,0)::R)).cM zE) ?_;rintro _ _ ⟨rfl,rfl⟩;rw [← hca] at hpm ⊢
 refine wB ?_;exact aY (sG g o (gM l w)::R) rfl (cn (show cB _ (lL g ad c o (gM l w) R) from zE) BL) ⟨⟨_,rfl⟩,rfl⟩
theorem mn (n:Nat) :
 Ct prog 118 #[.int .i64 (n:Int)] e R (fun v' L'=>v'=.bool (decide (n≤256))∧R=L'):=by
 refine a8 (args:=[_]) func118 rfl ntmps118 results118 rfl ?_
 by_cases h:n≤256
 ·rw [ay h];refine wB ?_
  all_goals exact aY R rfl aX ⟨rfl,rfl⟩
 ·rw [aq h];refine wB ?_
  all_goals exact aY R rfl aX ⟨rfl,rfl⟩
abbrev rC:TypeId:=109
theorem Ff (vl vw vm vp vr va vq vc:Value) (p:jH) (b:wQ) (hp:j8 R vl vw p) (sW:p.right) (hb:rQ R vm vp vr va vq vc b) (hw:b.wf) :
 Ct prog 134 #[.agg (lG p vl vw).toArray,.agg (sE b vm vp vr va vq vc).toArray] e R (fun v' L'=>v'=.int .i64 (mj p b)∧R=L'):=by
 have SD:=hw.fi;have Gf:=hw.dd;refine a7 (cz hp.log) fun o1=>?_
 refine a7 hp.ey.one fun o2=>?_
 refine a7 (cz hb.fi) fun o3=>?_
 refine a7 hb.path.one fun o4=>?_
 refine a7 (cz hb.kR.root) fun o5=>?_
 refine a7 hb.kR.sig.parts.one fun o6=>?_
 refine a7 hb.kR.sig.path.one fun o7=>?_
 refine a7 hb.gs.one fun o8=>?_
 obtain ⟨ts,fB,VY,Hk⟩:=hb.path;refine a8 (args:=[_,_]) func134 rfl ntmps134 results134 rfl ?_
 (repeat (refine wA ?_;intros))
 rename_i g2 g3;refine aZ rfl rfl (kB _ e vm b.fi (hb.fi.cM zE) zo) ?_;rintro v1 _ ⟨mG,Kh⟩
 by_cases hm:jm b.fi
 rotate_left
 ·obtain ⟨rfl,rfl⟩:=Kh hm;have hE:mj p b=12:=by unfold mj;rw [aI hm]
  rw [hE]
  (repeat' first|refine Za ?_|refine Zb ?_|apply Zc|apply Zd|apply Ze|apply Zf|refine Zh ?_|refine Zj ?_|refine Yh fun _=>?_|apply YB|refine YN ?_|refine YR ?_|(apply O.dh;exact rfl;exact zP;(first|(simp only [aC,Nat.add_zero,Nat.reduceAdd,List.drop_succ_cons,List.drop_zero,List.take_succ_cons,List.take_zero];done)|(simp only [aC,Nat.add_zero,Nat.reduceAdd,List.drop_succ_cons,List.drop_zero,List.take_succ_cons,List.take_zero];exact rfl));exact rfl;exact rfl))
  refine aZ rfl rfl (j9 _ e vl vw p (hp.cM zE) sW) ?_;rintro _ _ ⟨rfl,rfl⟩;refine wB ?_;exact aY R rfl zE ⟨rfl,rfl⟩
 obtain ⟨Mm,vf,vn,rfl,hf,hn,rfl⟩:=mG hm;refine bn (cz (hf.cM (cH zP))) fun o9=>?_
 refine bn (cz (hn.cM (cH zP))) fun Na=>?_
 (repeat' first|refine Za ?_|refine Zb ?_|apply Zc|apply Zd|apply Ze|apply Zf|refine Zh ?_|refine Zj ?_|refine Yh fun _=>?_|apply YB|refine YN ?_|refine YR ?_|(apply O.dh;exact rfl;exact zP;(first|(simp only [aC,Nat.add_zero,Nat.reduceAdd,List.drop_succ_cons,List.drop_zero,List.take_succ_cons,List.take_zero];done)|(simp only [aC,Nat.add_zero,Nat.reduceAdd,List.drop_succ_cons,List.drop_zero,List.take_succ_cons,List.take_zero];exact rfl));exact rfl;exact rfl))
 refine aZ rfl rfl (j9 _ e vl vw p (hp.cM zE) sW) ?_;rintro _ _ ⟨rfl,rfl⟩;have aaW:∀ L,dZ L g3 0 (sE b vm vp vr va vq vc)→dZ L g3 4 (dT b.kR vr va vq):=fun L h=>h.part 4 5
 have afc:∀ L,dZ L g3 0 (sE b vm vp vr va vq vc)→dZ L g3 1 [.int .i64 (b.idx:Int),.int .i64 (b.size:Int),vp]:=fun L h=>h.part 1 3
 (repeat' first|(refine O.dx rfl (aaW _ (by (repeat first|exact bV .zero|apply dZ.tail);done)) rfl rfl ?_)|refine Za ?_|refine Zb ?_|apply Zc|apply Zd|apply Ze|apply Zf|refine Zh ?_|refine Zi ?_|refine Zy ?_|refine ZQ ?_|refine YA ?_|fail)
 refine aZ rfl rfl (kA _ e vl vr va vq p.log b.kR (hp.log.cM zE) (hb.kR.cM zE) Gf) ?_;rintro _ _ ⟨rfl,rfl⟩
 by_cases hv:b.kR.hO p.log
 rotate_left
 ·have hE:mj p b=30:=by unfold mj;rw [aB (fun q=>q hm),aI hv]
  rw [hE,aq hv];refine wB ?_;exact aY R rfl zE ⟨rfl,rfl⟩
 rw [ay hv];refine wB ?_;refine bz (id:=9) [] mixed ?_;have hE1:∀ q:Prop,(q↔(b.size=b.kR.dd.size∧pq b.idx b.size b.path (cZ b.fi) b.kR.dd.root))→¬ q→mj p b=31:=fun q hq hn=>by unfold mj;rw [aB (fun q=>q hm),aB (fun q=>q hv),aI (fun h=>hn (hq.2 h))]
 by_cases hs:b.size=b.kR.dd.size
 rotate_left
 ·rw [hE1 _ Iff.rfl (fun h=>hs h.1)]
  (refine tF 0 ?_;refine tF 1 ?_;refine tL 2 ?_;refine tF 3 ?_;refine tL 4 ?_;refine tk 5 (.bool true) rfl (cE.iW (cE.neq rfl rfl) zy) ?_;refine tM 6 ?_;refine bc 7 rfl rfl zK zE rfl ?_;refine bc 8 rfl rfl zK zE rfl ?_;refine bc 9 rfl rfl zK zE rfl ?_;refine bc 10 rfl rfl zK zE rfl ?_;refine bc 12 rfl rfl zK zE rfl ?_;refine bc 13 rfl rfl zK zE rfl ?_)
  refine bc 11 rfl rfl zK zE rfl ?_;refine bc 14 rfl rfl zK zE rfl ?_
  (refine bc 15 rfl rfl zK zE rfl ?_;refine tk 16 _ rfl (bL rfl rfl) ?_;refine tA 17 ?_)
  refine bf zK ?_;refine wB ?_;exact aY R rfl zE ⟨rfl,rfl⟩
 (refine tF 0 ?_;refine tF 1 ?_;refine tL 2 ?_;refine tF 3 ?_;refine tL 4 ?_;refine tk 5 (.bool false) rfl (cE.no (cE.neq rfl rfl) zn) ?_;refine tM 6 ?_;refine dv 7 _ rfl (ba rfl) ?_;refine dv 8 _ rfl (cE.dh rfl zP zI zX) ?_;refine dv 9 _ rfl (ba rfl) ?_;refine dv 10 _ rfl (bp rfl zR) ?_;refine dv 12 _ rfl (ba rfl) ?_;refine dv 13 _ rfl (bp rfl zR) ?_)
 refine A.ru 11 rfl rfl zK ?_;refine bg rfl rfl (uf _ e vm b.fi (hb.fi.cM zE) zo) ?_;rintro _ _ ⟨LF,ki,rfl,rfl⟩;refine ⟨fun _=>zE,A.fS zE ?_⟩;refine A.ru 14 rfl rfl zK ?_;have VE:=hw.idx;have Oi:=hw.size;refine bg rfl rfl (GY _ e (b.idx:Int) (b.size:Int) vp (.slice LF (cZ b.fi).length ki) vr ts (cZ b.fi) b.kR.dd.root zo zo (VY.cM zE) (fun x hx=>(Hk x hx).cM zE) (bb zP) (hb.kR.root.cM zE)) ?_;rintro _ _ ⟨rfl,rfl⟩;refine ⟨fun _=>zE,A.fS zE ?_⟩;have Od:(qm (b.idx:Int) (b.size:Int) ts (cZ b.fi)∧qn (b.idx:Int) (b.size:Int) ts (cZ b.fi)=b.kR.dd.root)↔pq b.idx b.size b.path (cZ b.fi) b.kR.dd.root:=by rw [← fB];exact HK
 rw [decide_eq_decide.2 Od]
 by_cases Nb:pq b.idx b.size b.path (cZ b.fi) b.kR.dd.root
 rotate_left
 ·rw [hE1 _ Iff.rfl (fun h=>Nb h.2),aq Nb]
  (refine dv 15 _ rfl (cE.p9 rfl) ?_;refine tk 16 _ rfl (bJ rfl rfl) ?_;refine tA 17 ?_)
  refine bf zK ?_;refine wB ?_;exact aY R rfl zE ⟨rfl,rfl⟩
 rw [ay Nb]
 (refine dv 15 _ rfl (cE.jZ rfl) ?_;refine tk 16 _ rfl (bJ rfl rfl) ?_;refine tA 17 ?_)
 refine bf zK ?_;refine wB ?_;refine aZ rfl rfl (Ka _ e vl vw vr vc p b.kR.dd b.eJ (hp.cM zE) sW (hb.kR.root.cM zE) Gf (hb.gs.cM zE) (by have:=hw.fG;omega)) ?_;rintro _ _ ⟨rfl,rfl⟩
 by_cases HY:ue p b.kR.dd b.eJ
 ·have hE:mj p b=0:=by unfold mj;rw [aB (fun q=>q hm),aB (fun q=>q hv),aB (fun q=>q ⟨hs,Nb⟩),aB (fun q=>q HY)]
  rw [hE,ay HY];refine wB ?_;exact aY R rfl zE ⟨rfl,rfl⟩
 ·have hE:mj p b=33:=by unfold mj;rw [aB (fun q=>q hm),aB (fun q=>q hv),aB (fun q=>q ⟨hs,Nb⟩),aI HY]
  rw [hE,aq HY];refine wB ?_;exact aY R rfl zE ⟨rfl,rfl⟩
theorem C1 (e:World) (v:Value) (ts:List eo) (f:FuncId) (ws:List Value) (St:Nat→List cK) [i:cJ prog f f] (hv:∀ i,cF (St i) 1 v ts.length (ts.map (·.1))) (hl:ts.length≤1000000)
 (hf:∀ (i:Nat) (h:i<ts.length),Ct prog f ([(ts[i]).1]++ws).toArray e (St i) (fun v' L'=>v'=.bool false∧L'=St (i+1))) :
 Ct prog 264 #[v,.func (.func f) #[] ws.toArray] e (St 0) (fun v' L'=>v'=.int .i64 (-1)∧L'=St ts.length):=by
 refine a7 ((hv 0).shape zo) ?_;rintro ⟨⟨ad,cap,rfl,h3,h4,h5,h6⟩,_⟩;refine a8 (args:=[_,_]) func264 rfl ntmps264 results264 rfl ?_;refine wB ?_;refine bq (ι:=Nat) (fun i=>[(0,.slice ad ts.length cap),(1,.func (.func f) #[] ws.toArray),(7,.int .i64 (ts.length:Int)),(8,.int .i64 (i:Int))]) (fun i=>St i) (fun i=>i≤ts.length) (fun i=>ts.length - i) 0 (aH _) zS aX ?_;rintro i h1
 by_cases cP:i<ts.length
 rotate_left
 ·rw [show i=ts.length by omega];refine wB ?_;exact aY (St ts.length) rfl aX ⟨rfl,rfl⟩
 rcases h6 with h6|⟨gl,ol,rfl⟩
 ·omega
 have hr:Rd (St i) ⟨gl,ol+i,none⟩ (ts[i]'cP).1:=(hv i).elem (by rw [aL,ae cP];rfl);have JX:=hf i cP
 generalize (ts[i]'cP).1=y at *
 (repeat' first|(refine bW rfl hr rfl ?_)|refine Za ?_|refine Zb ?_|apply Zc|apply Zd|apply Ze|apply Zf|refine ZA ?_|refine Yw ?_|refine Yz ?_|apply YB|apply YC)
 refine bC (Do.gD (us:=[]) (ws:=ws) rfl rfl rfl JX ?_)
 rintro _ _ ⟨rfl,rfl⟩;refine wB ?_;exact bi (i+1) cP zo zS aX
theorem xn (e:World) (v:Value) (ts:List eo) (f:FuncId) (ws:List Value) (St:Nat→List cK) [i:cJ prog f f] (hv:∀ i,cF (St i) 1 v ts.length (ts.map (·.1))) (hl:ts.length≤1000000)
 (hf:∀ (i:Nat) (h:i<ts.length),Ct prog f ([(ts[i]).1]++ws).toArray e (St i) (fun v' L'=>v'=.bool false∧L'=St (i+1))) :
 Ct prog 203 #[v,.func (.func f) #[] ws.toArray] e (St 0) (fun v' L'=>v'=.bool false∧L'=St ts.length):=by
 refine a8 (args:=[_,_]) func203 rfl ntmps203 results203 rfl ?_;refine wB ?_;refine aZ rfl rfl (C1 e v ts f ws St hv hl hf) ?_;rintro _ _ ⟨rfl,rfl⟩;refine wB ?_;exact aY (St ts.length) rfl aX ⟨rfl,rfl⟩
theorem KQ (g:Nat) (l m:dw) (v:Value) (h:db R v m) (hk:l.length+m.length≤140737488355328) :
 Ct prog 123 #[pt g,v] e (Writer g l::R) (fun v' L'=>v'=.bool true∧L'=Writer g (l++m)::R):=by
 refine a7 (cz h.tail) fun o1=>?_
 refine a8 (args:=[_,_]) func123 rfl ntmps123 results123 rfl ?_;refine wB ?_;refine bC (Do.gD (us:=[]) (ws:=[]) rfl rfl rfl (hI R e g l m v h hk) ?_)
 rintro _ _ ⟨rfl,rfl⟩;refine wB ?_;exact aY (Writer g (l++m)::R) rfl aX ⟨rfl,rfl⟩
theorem vJ {l:List dw} {i:Nat} (h:i<l.length):(l.take (i+1)).flatten=(l.take i).flatten++l[i]'h:=by
 rw [aD h,List.flatten_append];simp
theorem C2 {l:List dw} {i:Nat}:(l.take i).flatten.length≤l.flatten.length:=by
 conv=>rhs;rw [← List.take_append_drop i l,List.flatten_append,aa]
 omega
theorem Aw (g g3 g4:Nat) (l m:dw) (v:Value) (h:db R v m) (hk:l.length+m.length≤140737488355328) :
 Ct prog 206 #[v,pt g4,pt g3] e (cL g4 [.func (.func 123) #[] #[]] 206 (0,0)::cL g3 [pt g] 151 (0,0)::Writer g l::R)
  (fun v' L'=>v'=.bool false∧L'=cL g4 [.func (.func 123) #[] #[]] 206 (0,0)::cL g3 [pt g] 151 (0,0)::Writer g (l++m)::R):=by
 refine a8 (args:=[_,_,_]) func206 rfl ntmps206 results206 rfl ?_;refine wB ?_;refine bC (Do.gD (us:=[]) (ws:=[]) rfl rfl rfl (Ct.at (.succ (.succ .zero)) (KQ _ e g l m v (h.cM zE) hk)) ?_)
 rintro _ _ ⟨rfl,rfl⟩;refine wB ?_;exact aY (cL g4 [.func (.func 123) #[] #[]] 206 (0,0)::cL g3 [pt g] 151 (0,0)::Writer g (l++m)::R) rfl zE ⟨rfl,rfl⟩
theorem C3 (g:Nat) (l:dw) (v:Value) (bs:List dw) (hv:mR R v bs) (hl:bs.length≤1000) (hk:l.length+bs.flatten.length≤1000000) :
 Ct prog 122 #[pt g,.func (.func 123) #[] #[],v] e (Writer g l::R) (fun v' L'=>v'=.bool true∧L'=Writer g (l++bs.flatten)::R):=by
 refine a7 hv.tail.one fun o1=>?_
 obtain ⟨ts,rfl,tH,Hk⟩:=hv;rw [ab] at hl
 refine a8 (args:=[_,_,_]) func122 rfl ntmps122 results122 rfl ?_
 (repeat (refine wA ?_;intros))
 rename_i g3 g4
 have Ol:=xn e v ts 206 [pt g4,pt g3] (fun i=>cL g4 [.func (.func 123) #[] #[]] 206 (0,0)::cL g3 [pt g] 151 (0,0)::Writer g (l++((ts.map (·.2)).take i).flatten)::R) (fun i=>tH.cM zE) zo (fun i hi=>by
  have Oi:i<(ts.map (·.2)).length:=by rw [ab];exact hi
  have XD:=vJ Oi;have hle:=C2 (l:=ts.map (·.2)) (i:=i+1);rw [XD,aa] at hle
  rw [XD,← aM];rw [List.getElem_map];rw [List.getElem_map] at hle
  exact Aw R e g g3 g4 _ _ _ (Hk _ (ax hi)) (by rw [aa];omega))
 rw [List.take_zero,List.flatten_nil,aK,aG (by rw [ab];omega)] at Ol
 refine aZ rfl rfl Ol ?_;rintro _ _ ⟨rfl,rfl⟩;refine wB ?_;exact aY (Writer g (l++(ts.map (·.2)).flatten)::R) rfl zE ⟨rfl,rfl⟩
theorem C4 (e:World) (v:Value) (ts:List jo) (f:FuncId) (ws:List Value) (St:Nat→List cK) [i:cJ prog f f] (hv:∀ i,cF (St i) 4 v ts.length (ts.flatMap jo.cells)) (hl:ts.length≤1000000)
 (hf:∀ (i:Nat) (h:i<ts.length),Ct prog f ([Value.agg (jo.cells ts[i]).toArray]++ws).toArray e (St i) (fun v' L'=>v'=.bool false∧L'=St (i+1))) :
 Ct prog 266 #[v,.func (.func f) #[] ws.toArray] e (St 0) (fun v' L'=>v'=.int .i64 (-1)∧L'=St ts.length):=by
 refine a7 ((hv 0).shape zo) ?_;rintro ⟨⟨ad,cap,rfl,h3,h4,h5,h6⟩,_⟩;refine a8 (args:=[_,_]) func266 rfl ntmps266 results266 rfl ?_;refine wB ?_;refine bq (ι:=Nat) (fun i=>[(0,.slice ad ts.length cap),(1,.func (.func f) #[] ws.toArray),(7,.int .i64 (ts.length:Int)),(8,.int .i64 (i:Int))]) (fun i=>St i) (fun i=>i≤ts.length) (fun i=>ts.length - i) 0 (aH _) zS aX ?_;rintro i h1
 by_cases cP:i<ts.length
 rotate_left
 ·rw [show i=ts.length by omega];refine wB ?_;exact aY (St ts.length) rfl aX ⟨rfl,rfl⟩
 rcases h6 with h6|⟨gl,ol,rfl⟩
 ·omega
 have hr:dZ (St i) gl (ol+i*4) (jo.cells (ts[i]'cP)):=dZ.elem (hv i) jo.len (ae cP);have JX:=hf i cP
 generalize ts[i]'cP=y at *
 (repeat' first|(refine O.dx rfl hr rfl rfl ?_)|refine Za ?_|refine Zb ?_|apply Zc|apply Zd|apply Ze|apply Zf|refine ZA ?_|refine Yx ?_|refine Yz ?_|apply YB|apply YC)
 refine bC (Do.gD (us:=[]) (ws:=ws) rfl rfl rfl JX ?_)
 rintro _ _ ⟨rfl,rfl⟩;refine wB ?_;exact bi (i+1) cP zo zS aX
theorem xo (e:World) (v:Value) (ts:List jo) (f:FuncId) (ws:List Value) (St:Nat→List cK) [i:cJ prog f f] (hv:∀ i,cF (St i) 4 v ts.length (ts.flatMap jo.cells)) (hl:ts.length≤1000000)
 (hf:∀ (i:Nat) (h:i<ts.length),Ct prog f ([Value.agg (jo.cells ts[i]).toArray]++ws).toArray e (St i) (fun v' L'=>v'=.bool false∧L'=St (i+1))) :
 Ct prog 208 #[v,.func (.func f) #[] ws.toArray] e (St 0) (fun v' L'=>v'=.bool false∧L'=St ts.length):=by
 refine a8 (args:=[_,_]) func208 rfl ntmps208 results208 rfl ?_;refine wB ?_;refine aZ rfl rfl (C4 e v ts f ws St hv hl hf) ?_;rintro _ _ ⟨rfl,rfl⟩;refine wB ?_;exact aY (St ts.length) rfl aX ⟨rfl,rfl⟩
abbrev KR:Value:=.func (.func 126) #[] #[]
theorem C5 (g g3 g4:Nat) (l:dw) (t:jo) (ht:jo.ok R t) (hw:t.1.fY<4) (hr:t.1.sig.right) (hk:l.length≤1000000) :
 Ct prog 209 #[.agg (jo.cells t).toArray,pt g4,pt g3] e (cL g4 [KR] 209 (0,0)::cL g3 [pt g] 151 (0,0)::Writer g l::R)
  (fun v' L'=>v'=.bool false∧L'=cL g4 [KR] 209 (0,0)::cL g3 [pt g] 151 (0,0)::Writer g (l++eV t.1)::R):=by
 obtain ⟨⟨w,sg⟩,up,uq⟩:=t;obtain ⟨t1,t2⟩:=ht;dsimp only at t1 t2 hw hr ⊢
 have mX:cB (cL g4 [KR] 209 (0,0)::cL g3 [pt g] 151 (0,0)::Writer g l::R) R:=zE;refine a7 (t1.cM mX).parts.one fun o4=>?_
 refine a7 (t1.cM mX).path.one fun o5=>?_
 refine a8 (args:=[_,_,_]) func209 rfl ntmps209 results209 rfl ?_
 (repeat (refine wA ?_;intros))
 refine bC (Do.gD (us:=[]) (ws:=[]) rfl rfl rfl (Ct.at zP (Bn _ e g l up uq ⟨w,sg⟩ (t1.cM zE) hw hr hk)) ?_)
 rintro _ _ ⟨rfl,rfl⟩;refine wB ?_;exact aY (cL g4 [KR] 209 (0,0)::cL g3 [pt g] 151 (0,0)::Writer g (l++eV ⟨w,sg⟩)::R) rfl zE ⟨rfl,rfl⟩
theorem Fg (g:Nat) (l:dw) (v:Value) (gs:List kQ) (hv:pa R v gs) (hl:gs.length≤1000) (hw:∀ x∈gs,x.fY<4) (hr:∀ x∈gs,x.sig.right) (hk:l.length+(lK gs).length≤1000000) :
 Ct prog 125 #[pt g,KR,v] e (Writer g l::R) (fun v' L'=>v'=.bool true∧L'=Writer g (l++lK gs)::R):=by
 refine a7 hv.tail.one fun o1=>?_
 obtain ⟨ts,rfl,tH,Hk⟩:=hv;rw [ab] at hl
 refine a8 (args:=[_,_,_]) func125 rfl ntmps125 results125 rfl ?_
 (repeat (refine wA ?_;intros))
 rename_i g3 g4
 have Ol:=xo e v ts 209 [pt g4,pt g3] (fun i=>cL g4 [KR] 209 (0,0)::cL g3 [pt g] 151 (0,0)::Writer g (l++(((ts.map (·.1)).map eV).take i).flatten)::R) (fun i=>tH.cM zE) zo (fun i hi=>by
  have Oi:i<((ts.map (·.1)).map eV).length:=by rw [ab,ab];exact hi
  have XD:=vJ Oi;have hle:=C2 (l:=(ts.map (·.1)).map eV) (i:=i);have QU:=hk;unfold lK at QU
  rw [XD,← aM,List.getElem_map,List.getElem_map];exact C5 R e g g3 g4 _ _ (Hk _ (ax hi)) (hw _ (aE.2 ⟨_,ax hi,rfl⟩)) (hr _ (aE.2 ⟨_,ax hi,rfl⟩)) (by rw [aa];omega))
 rw [List.take_zero,List.flatten_nil,aK,aG (by rw [ab,ab];omega)] at Ol
 refine aZ rfl rfl Ol ?_;rintro _ _ ⟨rfl,rfl⟩;refine wB ?_;exact aY (Writer g (l++lK (ts.map (·.1)))::R) rfl zE ⟨rfl,rfl⟩
theorem C6 (vm vp vr va vq vc:Value) (b:wQ) (hb:rQ R vm vp vr va vq vc b) (hw:b.wf) :
 Ct prog 50 #[.agg (sE b vm vp vr va vq vc).toArray] e R (fun v' L'=>∃ ad k,v'=.tuple #[.slice ad (fT b).length k,.int .i64 0]∧L'=cT (.slice ad (fT b).length k) (fT b)::R):=by
 have SD:=hw.fi;have h1:=hw.idx;have h2:=hw.size;have h3:=hw.DH;have h4:=hw.fG;have Gf:=hw.dd;have oT:=pu hw;have DF:=fc hw.jN;have tH:=iQ hw.dd hw.sig;have CF:=rh hw.sigs;refine a7 (cz hb.fi) fun o3=>?_
 refine a7 hb.path.one fun o4=>?_
 refine a7 (cz hb.kR.root) fun o5=>?_
 refine a7 hb.kR.sig.parts.one fun o6=>?_
 refine a7 hb.kR.sig.path.one fun o7=>?_
 refine a7 hb.gs.one fun o8=>?_
 obtain ⟨ts,fB,VY,Hk⟩:=hb.path;have oH:ts.length=b.path.length:=by rw [← fB,ab]
 obtain ⟨gs,vK,Xs,J6⟩:=hb.gs;have VZ:gs.length=b.eJ.length:=by rw [← vK,ab]
 refine a7 (VY.shape zo) ?_;rintro ⟨⟨rP,cp,rfl,-,-,-,-⟩,_⟩;refine a7 (Xs.shape zo) ?_;rintro ⟨⟨adc,cc,rfl,-,-,-,-⟩,_⟩
 have OZ:jG ts=true:=by
  unfold jG;rw [decide_eq_true_iff];refine ⟨by omega,fun a ha=>hw.jN _ ?_⟩;rw [← fB];exact aE.2 ⟨a,ha,rfl⟩
 refine a8 (args:=[_]) func50 rfl ntmps50 results50 rfl ?_
 (repeat (refine wA ?_;intros))
 rename_i g1;refine aZ rfl rfl (mn _ e b.idx) ?_;rintro _ _ ⟨rfl,rfl⟩;rw [ay h1];refine wB ?_;refine aZ rfl rfl (mn _ e b.size) ?_;rintro _ _ ⟨rfl,rfl⟩;rw [ay h2];refine wB ?_;refine aZ rfl rfl (nh _ e (.slice rP ts.length cp) ts (VY.cM zE) (fun x hx=>(Hk x hx).cM zE)) ?_;rintro _ _ ⟨rfl,rfl⟩;rw [OZ];refine wB ?_;refine aZ rfl rfl (jk _ e) ?_;rintro _ _ ⟨gw,rfl,rfl⟩;refine wB ?_;refine aZ rfl rfl (xZ _ e gw [] b.fi vm (hb.fi.cM zE) (by simp only [List.length_nil];omega) SD) ?_;rintro _ _ ⟨rfl,rfl⟩;rw [show []++be (List.length b.fi) 2++b.fi=enc b.fi by simp [enc]];have el:=iz b.fi;refine wB ?_;refine aZ rfl rfl (gF _ e gw _ b.idx zo zo) ?_;rintro _ _ ⟨rfl,rfl⟩;refine wB ?_;refine aZ rfl rfl (gF _ e gw _ b.size zo (by simp only [aa,cY];omega)) ?_;rintro _ _ ⟨rfl,rfl⟩;refine wB ?_;rw [qp (n:=ts.length) zo];refine aZ rfl rfl (mC _ e gw _ _ (by simp only [aa,cY];omega)) ?_;rintro _ _ ⟨rfl,rfl⟩;refine wB ?_;refine aZ rfl rfl (C3 _ e gw _ (.slice rP ts.length cp) b.path ⟨ts,fB,VY.cM zE,fun x hx=>(Hk x hx).cM zE⟩ zo (by simp only [aa,cY,aj];omega)) ?_;rintro _ _ ⟨rfl,rfl⟩
 (repeat' first|refine Za ?_|apply Zc|apply Zd|apply Ze|apply Zf|refine Zh ?_|(apply O.dh;exact rfl;exact zP;(first|(simp only [aC,Nat.add_zero,Nat.reduceAdd,List.drop_succ_cons,List.drop_zero,List.take_succ_cons,List.take_zero];done)|(simp only [aC,Nat.add_zero,Nat.reduceAdd,List.drop_succ_cons,List.drop_zero,List.take_succ_cons,List.take_zero];exact rfl));exact rfl;exact rfl))
 refine aZ rfl rfl (Bk _ e gw _ vr va vq b.kR (hb.kR.cM zE) hw.dd hw.sig (by simp only [aa,cY,aj];omega)) ?_;rintro _ _ ⟨rfl,rfl⟩;refine wB ?_;rw [qp (n:=gs.length) zo];refine aZ rfl rfl (mC _ e gw _ _ (by simp only [aa,cY,aj];omega)) ?_;rintro _ _ ⟨rfl,rfl⟩;refine wB ?_;refine aZ rfl rfl (Fg _ e gw _ (.slice adc gs.length cc) b.eJ ⟨gs,vK,Xs.cM zE,fun x hx=>(J6 x hx).cM zE⟩ zo hw.ey hw.sigs (by simp only [aa,cY,aj];omega)) ?_;rintro _ _ ⟨rfl,rfl⟩
 have lR:enc b.fi++be b.idx 4++be b.size 4++[UInt8.ofNat ts.length]++b.path.flatten++ic b.kR++[UInt8.ofNat gs.length]++lK b.eJ=fT b:=by
  unfold fT;rw [oH,VZ];simp only [aM,List.cons_append,List.nil_append,List.singleton_append]
 rw [lR];refine wB ?_;refine aZ rfl rfl (hJ _ e gw (fT b) zo) ?_;rintro _ _ ⟨ad,k,rfl,rfl⟩;refine wB ?_;exact aY (cT (.slice ad (fT b).length k) (fT b)::R) rfl zE ⟨ad,k,rfl,rfl⟩
abbrev nH:TypeId:=96
abbrev fU (v:Value) (l:List jo):cK:=dJ nH 4 v l.length (l.flatMap jo.cells)
abbrev pO:List Value:=sE aaR nY nY nY nY nY nY
theorem Nc {A B C D E F:cK} {R:List cK}:cB (A::B::C::D::E::F::R) (dH [A,B,C,D,E,F]::R):=dS (M:=[A,B,C,D,E,F])
end Go.Proofs
namespace Go.Proofs
attribute [local irreducible] Bs.cE Bs.Do Bs.O Bs.W Bs.Fin Bs.A Bs.Ct Bs.cF Bs.Rd Bs.Sat Bs.cL Bs.Ob Bs.dJ Bs.View Bs.cB Bs.Ex Bs.dH Bs.Pu Bs.eZ Bs.dO Bs.dZ
open Go.Bs
open Tryz
variable (R:List cK) (e:World)
theorem px (gl ld lk:Nat) (seed:dw) (ls:fW) (i:Nat) (vr va vq vg:Value) (s:j7) (gs:List kQ) (hs:fj R vr va vq s) (hf:s.sig.fits) (vK:pa R vg gs) (Ud:∀ g∈gs,g.sig.fits) (CF:gs.length≤1000) (lq:s.dd.size≤ls.cG.length) (ry:ls.cG.length≤256) (hi:i≤1000000) :
 Ct prog 49 #[pt gl,.int .i64 (i:Int),.agg (dT s vr va vq).toArray,vg] e (cW gl ld lk seed ls::R)
  (fun v' L'=>(i<s.dd.size→∃ (M:cK) (um up ur ua uq uc:Value),v'=.tuple #[.agg (sE ⟨ls.cG.getD i [],i,s.dd.size,iI ((ls.cG.take s.dd.size).map cZ) i,s,gs⟩ um up ur ua uq uc).toArray,.int .i64 0]∧rQ [M] um up ur ua uq uc ⟨ls.cG.getD i [],i,s.dd.size,iI ((ls.cG.take s.dd.size).map cZ) i,s,gs⟩∧L'=M::cW gl ld lk seed ls::R)
   ∧ (¬ i<s.dd.size→v'=.tuple #[.agg pO.toArray,.int .i64 22]∧L'=cW gl ld lk seed ls::R)):=by
 have mX:cB (cW gl ld lk seed ls::R) R:=zE;refine a7 (cz (hs.root.cM mX)) fun o5=>?_
 refine a7 (hs.sig.cM mX).parts.one fun o6=>?_
 refine a7 (hs.sig.cM mX).path.one fun o7=>?_
 obtain ⟨ts,fB,Ue,J6⟩:=vK;have oH:ts.length=gs.length:=by rw [← fB,ab]
 refine a7 ((Ue.cM mX).shape zo) ?_;rintro ⟨⟨DI,cg,rfl,h3,h4,h5,h6⟩,_⟩;simp only [maxLen] at h4
 refine bI (args:=[_,_,_,_]) func49 rfl ntmps49 results49 rfl ?_
 (repeat (refine wA ?_;intros))
 rename_i g6 g8;refine aZ rfl rfl (Ct.at zP (qy _ e gl ld lk seed ls (i:Int) zo)) ?_;rintro _ _ (⟨lY,rfl,rfl⟩|⟨Xq,VE,LF,ci,rfl,rfl⟩)
 ·have U4:¬ i<s.dd.size:=by omega
  refine wB ?_;apply br
  ·exact zV
  exact ⟨cW gl ld lk seed ls::R,zE,fun h=>absurd h U4,fun _=>⟨rfl,rfl⟩⟩
 rw [show ((i:Int)).toNat=i from rfl]
 by_cases Nd:i<s.dd.size
 rotate_left
 ·refine wB ?_;apply br
  ·exact zV
  exact ⟨cW gl ld lk seed ls::R,zE,fun h=>absurd h Nd,fun _=>⟨rfl,rfl⟩⟩
 refine wB ?_;refine aZ rfl rfl (Ct.at zP (Kq _ e gl ld lk seed ls i s.dd.size lq Nd)) ?_;rintro _ _ ⟨rP,cp,out,rfl,lx,rfl⟩
 generalize hpq:iI ((ls.cG.take s.dd.size).map cZ) i=XE at *
 generalize sf:ls.cG.getD i []=item at *
 (repeat' first|refine W.pJ (id:=10) (fun j:Nat × cK × Value × Value × Value=>[(3,.slice DI ts.length cg),(8,pt g8),(9,.int .i64 0),(14,pt j.1)]) (fun j=>cL j.1 (sE ⟨item,i,s.dd.size,XE,s,[]⟩ (.slice LF item.length ci) (.slice rP out.length cp) j.2.2.1 j.2.2.2.1 j.2.2.2.2 nY) rC (0,0)::j.2.1::cT (.slice LF item.length ci) item::cV (.slice rP out.length cp) out::cI out::cW gl ld lk seed ls::cL g8 pO rC (0,0)::R) (fun j=>fj [j.2.1] j.2.2.1 j.2.2.2.1 j.2.2.2.2 s) ?_ ?_|refine Za ?_|refine Zb ?_|apply Zc|apply Zd|apply Ze|apply Zf|refine ZQ ?_|refine Yh fun _=>?_|refine YA ?_|apply YC|refine YN ?_|refine YR ?_|fail)
 rotate_left
 ·refine ⟨?_⟩;rename_i Mg;refine W.gC [(3,.slice DI ts.length cg),(6,pt g6),(8,pt g8),(9,.int .i64 0),(10,.slice LF item.length ci),(12,pt Mg)] zS ?_
  (repeat' first|refine Za ?_|refine Zb ?_|apply Zc|apply Zd|apply Ze|apply Zf|refine Zh ?_|refine Zi ?_|refine Zj ?_|refine Zk ?_|refine Zl ?_|refine Zm ?_|refine Zn ?_|refine Zo ?_|refine Zq ?_|refine Zs ?_|refine Zt ?_|refine Zu ?_|refine Zy ?_|refine Zz ?_|refine ZA ?_|refine ZB ?_|refine ZC (fun _=>?_) fun _=>?_|refine ZJ ?_|refine ZK ?_|refine ZM ?_|refine ZN ?_|refine ZO (fun _=>?_) fun _=>?_|refine ZP ?_|refine ZQ ?_|refine ZS ?_|refine Z7 ?_|refine Z8 ?_|refine Yd ?_|refine Ye ?_|refine Yg fun _=>?_|refine Yh fun _=>?_|refine Yi fun _=>?_|refine Ym ?_|refine Yw ?_|refine Yx ?_|refine Yy ?_|refine Yz ?_|refine YA ?_|apply YB|apply YC|apply YD|apply YE|apply YF|apply YG|apply YH|apply YI|apply YJ|refine YK ?_|refine YN ?_|refine YQ ?_|refine YR ?_|(apply O.dh;exact rfl;exact zP;(first|(simp only [aC,Nat.add_zero,Nat.reduceAdd,List.drop_succ_cons,List.drop_zero,List.take_succ_cons,List.take_zero];done)|(simp only [aC,Nat.add_zero,Nat.reduceAdd,List.drop_succ_cons,List.drop_zero,List.take_succ_cons,List.take_zero];exact rfl));exact rfl;exact rfl))
  refine bk (id:=9) [6] (cL Mg [.int .i64 (i:Int),.int .i64 (s.dd.size:Int),.slice rP out.length cp] 40 (0,0)::cL g6 (dT s vr va vq) 87 (0,0)::R) mixed ?_
  (refine tM 0 ?_;refine tJ 1 ?_;refine tJ 2 ?_)
  refine A.two 3 5 rfl rfl rfl rfl zK ?_ ?_
  ·refine bg rfl rfl (gS _ e vr va vq s (hs.cM zE) hf) ?_;rintro _ _ ⟨N,ur,ua,uq,rfl,hN,rfl⟩;refine ⟨fun _=>zE,?_⟩;refine A.cC (cz (hN.root.cM (cH zP))) fun o8=>?_
   refine A.cC (hN.sig.cM (cH zP)).parts.one fun o9=>?_
   refine A.cC (hN.sig.cM (cH zP)).path.one fun Na=>?_
   (refine tk 4 _ rfl (bM rfl zF) ?_)
   refine tO 5 ?_;refine bR (cs:=pO) rfl rfl fun Ax=>⟨fun _=>zE,?_⟩
   refine tO 6 ?_;refine zg ?_;refine ⟨zN,?_⟩;refine bf zK ?_;exact bK (Ax,N,ur,ua,uq) hN zS zE
  ·refine bR (cs:=pO) rfl rfl fun Ax=>⟨fun _=>zE,?_⟩
   refine tO 3 ?_;refine bg rfl rfl (gS _ e vr va vq s (hs.cM zE) hf) ?_;rintro _ _ ⟨N,ur,ua,uq,rfl,hN,rfl⟩;refine ⟨fun _=>zE,?_⟩;refine A.cC (cz (hN.root.cM (cH zP))) fun o8=>?_
   refine A.cC (hN.sig.cM (cH zP)).parts.one fun o9=>?_
   refine A.cC (hN.sig.cM (cH zP)).path.one fun Na=>?_
   (refine tk 4 _ rfl (bM rfl zF) ?_)
   refine tO 6 ?_;refine zg ?_;refine ⟨zN,?_⟩;refine bf zK ?_;exact bK (Ax,N,ur,ua,uq) hN zS zE
 rintro ⟨Ax,N,ur,ua,uq⟩ hN;dsimp only at hN ⊢
 refine bD (cz (hN.root.cM (cH zP))) fun o8=>?_
 refine bD (hN.sig.cM (cH zP)).parts.one fun o9=>?_
 refine bD (hN.sig.cM (cH zP)).path.one fun Na=>?_
 refine wB ?_;refine bq (ι:=Nat × List jo × cK × Option Addr × Nat) (fun j=>[(8,pt g8),(9,.int .i64 0),(14,pt Ax),(54,.slice DI ts.length cg),(55,.int .i64 (ts.length:Int)),(56,.int .i64 (j.1:Int))]) (fun j=>cL Ax (sE ⟨item,i,s.dd.size,XE,s,[]⟩ (.slice LF item.length ci) (.slice rP out.length cp) ur ua uq (.slice j.2.2.2.1 j.2.1.length j.2.2.2.2)) rC (0,0)::fU (.slice j.2.2.2.1 j.2.1.length j.2.2.2.2) j.2.1::j.2.2.1::N::cT (.slice LF item.length ci) item::cV (.slice rP out.length cp) out::cI out::cW gl ld lk seed ls::cL g8 pO rC (0,0)::R) (fun j=>j.1≤ts.length∧j.2.1.map (·.1)=gs.take j.1∧∀ t∈j.2.1,jo.ok [j.2.2.1] t) (fun j=>ts.length - j.1) (0,[],cI [],none,0) ⟨aH _,rfl,fun t ht=>by cases ht⟩ zS (cn (dM) (cn (du nH 4) zE)) ?_;rintro ⟨k,us,Mx,m9,cu⟩ ⟨hk,hZ,SE⟩;dsimp only at hk hZ SE ⊢
 have LC:us.length=k:=by have:=congrArg List.length hZ;rw [ab,aF] at this;omega
 by_cases cP:k<ts.length
 rotate_left
 ·rw [aG zo] at hZ
  obtain ⟨M,hM⟩:∃ M:cK,M=dH [cT (.slice LF item.length ci) item,cV (.slice rP out.length cp) out,cI out,N,fU (.slice m9 us.length cu) us,Mx]:=⟨_,rfl⟩
  have ho:cB [M] [cT (.slice LF item.length ci) item,cV (.slice rP out.length cp) out,cI out,N,fU (.slice m9 us.length cu) us,Mx]:=by rw [hM];exact cU (M:=[_,_,_,_,_,_]) (L:=[])
  have tI:rQ [M] (.slice LF item.length ci) (.slice rP out.length cp) ur ua uq (.slice m9 us.length cu) ⟨item,i,s.dd.size,XE,s,gs⟩ :=
   ⟨(bb .zero).cM ho,mR.cM ⟨out,lx,bb (.succ .zero),dR.ef (.succ (.succ .zero))⟩ ho,(hN.cM (cH zP)).cM ho,pa.cM ⟨us,hZ,bb zP,fun t ht=>(SE t ht).cM (cH zP)⟩ ho⟩
  refine wB ?_;apply br
  ·exact zV
  refine ⟨M::cW gl ld lk seed ls::R,cn ?_ (by rw [hM];exact Nc),fun _=>⟨M,.slice LF item.length ci,.slice rP out.length cp,ur,ua,uq,.slice m9 us.length cu,rfl,tI,rfl⟩,fun h=>absurd Nd h⟩;exact zE
 rcases h6 with h6|⟨gg,og,rfl⟩
 ·omega
 have G5:dZ R gg (og+k*4) (jo.cells (ts[k]'cP)):=dZ.elem Ue jo.len (ae cP);have ju:=J6 _ (ax cP);have zf:k<gs.length:=by omega
 have EQ:(ts[k]'cP).1=gs[k]'zf:=by
  have:=congrArg (fun l=>l[k]?) fB;simp only [aL,ae cP,ae zf,Option.map_some,Option.some.injEq] at this
  exact this
 have fq:gs.take (k+1)=gs.take k++[gs[k]'zf]:=aD zf;have JX:=Ud _ (ax zf);rw [← EQ] at fq JX
 generalize ts[k]'cP=y at *
 obtain ⟨⟨w,sg⟩,up,QT⟩:=y;obtain ⟨t1,t2⟩:=ju;dsimp only at t1 t2 JX fq G5
 refine bD (t1.cM zE).parts.one fun V4=>?_
 refine bD (t1.cM zE).path.one fun XF=>?_
 (repeat (refine wA ?_;intros))
 rename_i g16;have TS:List.length [Value.int .i64 (w:Int),.int .i64 (sg.idx:Int),up,QT]=4:=rfl;dsimp only [jo.cells];refine bk (id:=13) [6,7] (cL g16 (iB ⟨w,sg⟩ up QT) nH (0,0)::cL Ax (sE ⟨item,i,s.dd.size,XE,s,[]⟩ (.slice LF item.length ci) (.slice rP out.length cp) ur ua uq (.slice m9 us.length cu)) rC (0,0)::R) mixed ?_
 (refine tF 0 ?_;refine tL 1 ?_;refine tJ 2 ?_)
 refine tO 3 ?_;refine bg rfl rfl (pb _ e up QT ⟨w,sg⟩ (t1.cM zE) JX) ?_;rintro _ _ ⟨N2,wp,wq,rfl,ns,rfl⟩;refine ⟨fun _=>zE,?_⟩;refine A.cC (ns.cM (cH zP)).parts.one fun o13=>?_
 refine A.cC (ns.cM (cH zP)).path.one fun o14=>?_
 refine tO 4 ?_;refine bF (n:=4) (cs:=iB ⟨w,sg⟩ wp wq) rfl rfl rfl rfl zQ rfl (fun gb=>⟨fun _=>zE,?_⟩);refine tO 5 ?_;refine bo rfl rfl rfl (show cR _ (fU (.slice m9 us.length cu) us) _ from zP) (bP (n:=4) (c:=1) zP rfl zl) rfl rfl zO zm zo fun ei k1 _=>⟨fun _=>zE,?_⟩
 refine tO 6 ?_;refine dV (ba rfl) ?_;refine tO 7 ?_;refine tf ?_;refine ⟨zN,?_⟩;refine bf zK ?_;refine wB ?_;have eU:cB [dH [Mx,N2]] [Mx]:=cn (cU (M:=[_,_]) (L:=[])) (bh bG);have iJ:cB [dH [Mx,N2]] [N2]:=cn (cU (M:=[_,_]) (L:=[])) (cB.drop (bh bG));refine bi (k+1,us++[(⟨w,sg⟩,wp,wq)],dH [Mx,N2],ei,k1) ⟨cP,by dsimp only;rw [fq,ah,hZ];rfl,fun t ht=>?_⟩ zd zS ?_
 ·rcases aJ.1 ht with ht|ht
  ·exact (SE t ht).cM eU
  ·rw [an.1 ht];exact ⟨ns.cM iJ,t2⟩
 ·simp only [fU,aa,aj,aW,aT,List.flatMap_nil,aK];exact cn (ea (A:=Mx) (B:=N2) zP zP) zE
abbrev sX:TypeId:=321
abbrev Ps:TypeId:=330
abbrev FW.cells (x:FW):List Value:=[.int .i64 (x.size:Int),.int .i64 (x.tries:Int),.bool x.kept]
theorem SF (x:FW):x.cells.length=3:=rfl
abbrev lh (v:Value) (l:List FW):cK:=dJ Ps 3 v l.length (l.flatMap FW.cells)
structure eM where
 ga:Nat
 vl:Value
 vw:Value
 al:Option Addr
 cl:Nat
 ur:Value
 up:Value
 uq:Value
 ak:Option Addr
 ck:Nat
 ts:List jo
 dr:Value
 dp:Value
 dq:Value
 ve:Value
structure eM.ok (a:eM) (M:cK) (p:jH) (retry n:Nat) (s:cQ):Prop where
 wU:j8 [M] a.vl a.vw p
 cur:fj [M] a.ur a.up a.uq s.dX
 Uf:a.ts.map (·.1)=s.kept
 Q3:∀ t∈a.ts,jo.ok [M] t
 done:fj [M] a.dr a.dp a.dq s.done
 dl:pa [M] a.ve s.dl
 st:s.ok p.ey.length n
 pr:p.right
 low:1≤retry
 high:retry≤100
abbrev eM.cells (a:eM) (p:jH) (retry:Nat) (s:cQ):List Value:=lG p a.vl a.vw++[.int .i64 (retry:Int),pt a.ga,.slice a.al s.st.length a.cl]++dT s.dX a.ur a.up a.uq++[.bool s.cur.isSome,.slice a.ak a.ts.length a.ck]++dT s.done a.dr a.dp a.dq++[a.ve]
abbrev py (g:Nat) (p:jH) (retry:Nat) (s:cQ) (a:eM) (M:cK) (R:List cK):List cK :=
 cL g (a.cells p retry s) sX (0,0)::M::lh (.slice a.al s.st.length a.cl) s.st::fU (.slice a.ak a.ts.length a.ck) a.ts::sG a.ga s.ord s.ag::R
def SG (g:Nat) (p:jH) (retry n:Nat) (s:cQ) (a:eM) (M:cK):cK:=dH (Pu (a.ok M p retry n s)::py g p retry s a M [])
def lj (g:Nat) (p:jH) (retry n:Nat) (s:cQ):cK:=Ex fun a=>Ex fun M=>SG g p retry n s a M
theorem vL {g:Nat} {p:jH} {retry n:Nat} {s:cQ} {R:List cK} {P:Program} {f:FuncId} {args:Array Value} {e:World} {Post:Value→List cK→Prop}
 (h:∀ (a:eM) (M:cK),a.ok M p retry n s→Ct P f args e (py g p retry s a M R) Post):Ct P f args e (lj g p retry n s::R) Post :=
 Ct.ex .zero fun a=>Ct.ex .zero fun M=>Ct.cM (a7 (p:=a.ok M p retry n s) (fun w x=>(jR x).1) fun hp=>(h a M hp).cM (cB.drop aX)) (cU (M:=Pu (a.ok M p retry n s)::py g p retry s a M []) (L:=R))
theorem l5 {g:Nat} {p:jH} {retry n:Nat} {s:cQ} {a:eM} {M:cK} {R:List cK} (h:a.ok M p retry n s):cB (py g p retry s a M R) (lj g p retry n s::R) :=
 cn (mI h) (cn (dS (M:=Pu (a.ok M p retry n s)::py g p retry s a M []) (L:=R)) (cn (fx (f:=fun M=>SG g p retry n s a M) M) (fx (f:=fun a=>Ex fun M=>SG g p retry n s a M) a)))
theorem sH (g ga o t w:Nat) (l:List AE) (hg:Rd R ⟨g,4,none⟩ (pt ga)) (hf:∀ x∈l,x.fits) (ht:t≤1000000000) (hw:w≤1000000000) (ho:o≤1000000000) (hl:l.length≤100000) :
 Ct prog 246 #[pt g,.int .i64 (t:Int),.int .i64 (w:Int)] e (sG ga o l::R) (fun v' L'=>v'=.tuple #[]∧L'=sG ga (o+1) (pM (gM l w) ⟨t,o,w⟩)::R):=by
 have Ce:=HL (l:=l) (w:=w);refine a8 (args:=[_,_,_]) func246 rfl ntmps246 results246 rfl ?_
 (repeat' first|(refine bW rfl hg.tail rfl ?_)|refine Za ?_|apply Zc|apply Zd|refine Zg ?_|refine Zh ?_|fail)
 refine aZ rfl rfl (uB R e ga o l w hf hl) ?_;rintro _ _ ⟨⟨z,rfl⟩,rfl⟩
 (repeat' first|(refine bW rfl hg.tail rfl ?_)|refine Za ?_|apply Zd|apply Ze|apply Zf|refine Zg ?_|refine Zh ?_|fail)
 refine aZ rfl rfl (KO R e ga o (gM l w) t w (fun x hx=>hf x (List.mem_filter.1 ((jz l w).mem_iff.1 hx)).1) ht hw ho zo) ?_;rintro _ _ ⟨rfl,rfl⟩
 (repeat (refine wA ?_;intros))
 exact bU (sG ga (o+1) (pM (gM l w) ⟨t,o,w⟩)::R) rfl aX ⟨rfl,rfl⟩
theorem pz (L:List cK):fj L nY nY nY vH :=
 ⟨cF.nil _ _,CO L,⟨by decide,by decide⟩⟩
theorem zj {n:Nat} {x:FW}:(List.replicate n x).flatMap FW.cells=(List.replicate n (FW.cells x)).flatten:=by
 rw [List.flatMap_def,List.map_replicate]
theorem KS (vl vw:Value) (p:jH) (retry:Nat) (hp:j8 R vl vw p) (sW:p.right) (h1:1≤retry) (h2:retry≤100) :
 Ct prog 164 #[.agg (lG p vl vw).toArray,.int .i64 (retry:Int)] e R (fun v' L'=>∃ g,v'=.tuple #[pt g,.int .i64 0]∧L'=lj g p retry 0 (At p.ey.length)::R):=by
 have Fh:=sW.fG;have V5:=sW.log;refine a7 (cz hp.log) fun o2=>?_
 refine a7 hp.ey.one fun o3=>?_
 obtain ⟨ts,fB,tH,Hk⟩:=hp.ey;have oH:ts.length=p.ey.length:=by rw [← fB,ab]
 refine a7 (tH.shape zo) ?_;rintro ⟨⟨HN,cw,rfl,-,-,-,-⟩,_⟩;refine a8 (args:=[_,_]) func164 rfl ntmps164 results164 rfl ?_
 (repeat (refine wA ?_;intros))
 rename_i g2;refine aZ rfl rfl (j9 _ e vl (.slice HN ts.length cw) p (hp.cM zE) sW) ?_;rintro _ _ ⟨rfl,rfl⟩;refine wB ?_;have Fi:=fun (L:List cK) (h:cB L R)=>CX L e vl (.slice HN ts.length cw) p (hp.cM h) zo zo (fun b hb=>by have:=sW.kT b hb;omega)
 refine bk (id:=3) [10,11] (cL g2 (lG p vl (.slice HN ts.length cw)) 106 (0,0)::R) mixed ?_
 (refine tJ 0 ?_;refine tM 2 ?_;refine tF 4 ?_;refine tL 5 ?_;refine tk 6 _ rfl (bN rfl) ?_)
 refine A.two 1 7 rfl rfl rfl rfl zK ?_ ?_
 ·refine bg rfl rfl (Fi _ zE) ?_;rintro _ _ ⟨Mp,ul,uw,rfl,Gg,rfl⟩;refine ⟨fun _=>zE,?_⟩;refine A.cC (cz (Gg.log.cM (cH zP))) fun o4=>?_
  refine A.cC (Gg.ey.cM (cH zP)).one fun o5=>?_
  refine A.two 3 7 rfl rfl rfl rfl zK ?_ ?_
  ·refine bg rfl rfl (vI _ e) ?_;rintro _ _ ⟨ga,rfl,rfl⟩;refine ⟨fun _=>zE,?_⟩;refine tO 7 ?_;refine Do.sF (c:=ts.length) (zs:=FW.cells lu) rfl rfl rfl rfl rfl rfl zm zo fun gs=>⟨fun _=>zE,?_⟩
   refine tk 8 _ rfl (bM rfl zF) ?_;refine tO 9 ?_;refine Do.box (cs:=eM.cells ⟨ga,ul,uw,some ⟨gs,0,none⟩,ts.length,nY,nY,nY,none,0,[],nY,nY,nY,nY⟩ p retry (At ts.length)) rfl (by simp [At,cQ.dX,vH];rfl) rfl fun gf=>⟨fun _=>zE,?_⟩
   refine tO 10 ?_;refine dV (bj rfl) ?_;refine tO 11 ?_;refine dV (bj rfl) ?_;refine bf zK ?_;refine wB ?_
   have j1:eM.ok ⟨ga,ul,uw,some ⟨gs,0,none⟩,ts.length,nY,nY,nY,none,0,[],nY,nY,nY,nY⟩ Mp p retry 0 (At ts.length) :=
    ⟨Gg,pz _,rfl,fun t ht=>absurd ht aO,pz _,⟨[],rfl,cF.nil _ _,fun t ht=>absurd ht aO⟩,by rw [oH];exact CS _,sW,h1,h2⟩
   rw [← oH];refine aY (lj gf p retry 0 (At ts.length)::R) rfl (cn (cn (du nH 4) ?_) (l5 j1)) ⟨gf,rfl,rfl⟩;simp only [py,lh,At,List.length_replicate,← zj];exact zE
  ·refine Do.sF (c:=ts.length) (zs:=FW.cells lu) rfl rfl rfl rfl rfl rfl zm zo fun gs=>⟨fun _=>zE,?_⟩
   refine tO 3 ?_;refine bg rfl rfl (vI _ e) ?_;rintro _ _ ⟨ga,rfl,rfl⟩;refine ⟨fun _=>zE,?_⟩;refine tk 8 _ rfl (bM rfl zF) ?_;refine tO 9 ?_;refine Do.box (cs:=eM.cells ⟨ga,ul,uw,some ⟨gs,0,none⟩,ts.length,nY,nY,nY,none,0,[],nY,nY,nY,nY⟩ p retry (At ts.length)) rfl (by simp [At,cQ.dX,vH];rfl) rfl fun gf=>⟨fun _=>zE,?_⟩
   refine tO 10 ?_;refine dV (bj rfl) ?_;refine tO 11 ?_;refine dV (bj rfl) ?_;refine bf zK ?_;refine wB ?_
   have j1:eM.ok ⟨ga,ul,uw,some ⟨gs,0,none⟩,ts.length,nY,nY,nY,none,0,[],nY,nY,nY,nY⟩ Mp p retry 0 (At ts.length) :=
    ⟨Gg,pz _,rfl,fun t ht=>absurd ht aO,pz _,⟨[],rfl,cF.nil _ _,fun t ht=>absurd ht aO⟩,by rw [oH];exact CS _,sW,h1,h2⟩
   rw [← oH];refine aY (lj gf p retry 0 (At ts.length)::R) rfl (cn (cn (du nH 4) ?_) (l5 j1)) ⟨gf,rfl,rfl⟩;simp only [py,lh,At,List.length_replicate,← zj];exact zE
 ·refine Do.sF (c:=ts.length) (zs:=FW.cells lu) rfl rfl rfl rfl rfl rfl zm zo fun gs=>⟨fun _=>zE,?_⟩
  refine tO 1 ?_;refine bg rfl rfl (Fi _ zE) ?_;rintro _ _ ⟨Mp,ul,uw,rfl,Gg,rfl⟩;refine ⟨fun _=>zE,?_⟩;refine A.cC (cz (Gg.log.cM (cH zP))) fun o4=>?_
  refine A.cC (Gg.ey.cM (cH zP)).one fun o5=>?_
  refine tO 3 ?_;refine bg rfl rfl (vI _ e) ?_;rintro _ _ ⟨ga,rfl,rfl⟩;refine ⟨fun _=>zE,?_⟩;refine tk 8 _ rfl (bM rfl zF) ?_;refine tO 9 ?_;refine Do.box (cs:=eM.cells ⟨ga,ul,uw,some ⟨gs,0,none⟩,ts.length,nY,nY,nY,none,0,[],nY,nY,nY,nY⟩ p retry (At ts.length)) rfl (by simp [At,cQ.dX,vH];rfl) rfl fun gf=>⟨fun _=>zE,?_⟩
  refine tO 10 ?_;refine dV (bj rfl) ?_;refine tO 11 ?_;refine dV (bj rfl) ?_;refine bf zK ?_;refine wB ?_
  have j1:eM.ok ⟨ga,ul,uw,some ⟨gs,0,none⟩,ts.length,nY,nY,nY,none,0,[],nY,nY,nY,nY⟩ Mp p retry 0 (At ts.length) :=
   ⟨Gg,pz _,rfl,fun t ht=>absurd ht aO,pz _,⟨[],rfl,cF.nil _ _,fun t ht=>absurd ht aO⟩,by rw [oH];exact CS _,sW,h1,h2⟩
  rw [← oH];refine aY (lj gf p retry 0 (At ts.length)::R) rfl (cn (cn (du nH 4) ?_) (l5 j1)) ⟨gf,rfl,rfl⟩;simp only [py,lh,At,List.length_replicate,← zj];exact zE
theorem nt {l:List FW} {i:Nat} (h:i<l.length):l.getD i lu=l[i]'h:=by simp [List.getD,h]
theorem rj {α:Type} {f:α→List Value} {n:Nat} (hf:∀ a,(f a).length=n):∀ (l:List α) (i k:Nat) (h:i<l.length) (a:α) (v:Value),k<n→f a=(f (l[i]'h)).set k v→(l.flatMap f).set (i*n+k) v=(l.set i a).flatMap f
 | [],i,k,h,_,_,_,_=>absurd h (Nat.not_lt_zero i)
 | x::l,0,k,h,a,v,hk,he=>by
  rw [Nat.zero_mul,aC,aT,List.set_cons_zero,aT,List.set_append_left _ _ (by rw [hf];exact hk)];rw [show f a=(f x).set k v from he]
 | x::l,i+1,k,h,a,v,hk,he=>by
  rw [aT,List.set_cons_succ,aT,List.set_append_right _ _ (by rw [hf,Nat.add_mul];omega),hf]
  congr 1
  rw [show (i+1)*n+k - n=i*n+k by rw [Nat.add_mul];omega];exact rj hf l i k (by simpa using h) a v hk he
theorem Fj {l:List FW} {i:Nat} (h:i<l.length) (n:Nat):(l.flatMap FW.cells).set (i*3+1) (.int .i64 (n:Int))=(l.set i { l.getD i lu with tries:=n }).flatMap FW.cells :=
 rj SF l i 1 h _ _ zo (by rw [nt h];rfl)
theorem I1 {l:List FW} {i:Nat} (h:i<l.length) (n:Nat):(l.flatMap FW.cells).set (i*3+0) (.int .i64 (n:Int))=(l.set i { l.getD i lu with size:=n }).flatMap FW.cells :=
 rj SF l i 0 h _ _ zo (by rw [nt h];rfl)
theorem I2 {l:List FW} {i:Nat} (h:i<l.length) (b:Bool):(l.flatMap FW.cells).set (i*3+2) (.bool b)=(l.set i { l.getD i lu with kept:=b }).flatMap FW.cells :=
 rj SF l i 2 h _ _ zo (by rw [nt h];rfl)
theorem SH {l:List FW} {i:Nat} (h:i<l.length):((l.flatMap FW.cells).set (i*3+1) (.int .i64 0)).set (i*3+2) (.bool false)=(l.set i (l.getD i lu).off).flatMap FW.cells:=by
 rw [show (Value.int .i64 0)=.int .i64 ((0:Nat):Int) from rfl,Fj h,I2 (by rw [List.length_set];exact h),List.set_set]
 congr 2
 rw [nt (by rw [List.length_set];exact h),List.getElem_set_self]
 rfl
theorem pA {v:Value} {l:List FW} {L R:List cK} (p:cR L (lh v l) R):∀ h,dO L h→∃ ad c,v=.slice ad l.length c∧l.length≤c∧c≤maxLen∧((ad=none∧c=0∧l.length=0)∨∃ g,ad=some ⟨g,0,none⟩):=fun h hs=>(fk p h hs).1
theorem eM.ok.mono {a:eM} {M:cK} {p:jH} {retry n m:Nat} {s:cQ} (h:a.ok M p retry n s) (hm:n≤m):a.ok M p retry m s:={ h with st:=h.st.mono hm }
theorem Fk (g:Nat) (p:jH) (retry n:Nat) (s:cQ) (vr vp vq:Value) (x:j7) (now:Nat) (hx:fj R vr vp vq x) (KT:x.fits) (ht:now≤10000000) (hn:n≤999000) :
 Ct prog 172 #[pt g,.agg (dT x vr vp vq).toArray,.int .i64 (now:Int)] e (lj g p retry n s::R) (fun v' L'=>v'=.bool (decide (s.Fa p x))∧L'=lj g p retry (n+p.ey.length) (s.ii p x now)::R):=by
 refine vL fun a M ha=>?_
 have Fh:=ha.pr.fG;have mX:cB (py g p retry s a M R) R:=zE;have HD:cB (py g p retry s a M R) [M]:=cH zP;refine a7 (cz (hx.root.cM mX)) fun o5=>?_
 refine a7 (hx.sig.cM mX).parts.one fun o6=>?_
 refine a7 (hx.sig.cM mX).path.one fun o7=>?_
 refine a7 (cz (ha.wU.log.cM HD)) fun o8=>?_
 refine a7 (pA (show cR (py g p retry s a M R) (lh (.slice a.al s.st.length a.cl) s.st) _ from zP)) ?_;rintro ⟨lO,c',lP,F8,TU,AY⟩
 cases lP
 have hlen:=ha.st.len;have Ae:1≤s.st.length:=by have:=ha.pr.low;have:=ha.pr.high;omega
 rcases AY with ⟨-,-,AY⟩|⟨gs,rL⟩
 ·omega
 refine a8 (args:=[_,_,_]) func172 rfl ntmps172 results172 rfl ?_;have hga:eM.ok a M p retry n s:=ha
 (repeat' first|refine W.u2 (id:=3) (fun j:Nat=>[(0,pt g),(2,.int .i64 (now:Int)),(4,pt j)]) (fun j=>cL j (dT x vr vp vq) 87 (0,0)::py g p retry s a M R) (fun _=>s.Fa p x) ?_ ?_|refine Zb ?_|apply Zc|apply Zd|apply Ze|apply Zf|refine Yg fun _=>?_|fail)
 rotate_left
 ·refine ⟨?_⟩;rename_i g4
  (repeat (refine wA ?_;intros))
  refine bz (id:=1) [] mixed ?_
  (refine tM 0 ?_;refine tN 1 ?_;refine tF 2 ?_;refine tF 3 ?_;refine tL 4 ?_;refine tJ 5 ?_)
  refine tO 6 ?_;refine bg rfl rfl (kA _ e a.vl vr vp vq p.log x (ha.wU.log.cM (cH zP)) (hx.cM zE) KT.1) ?_;rintro _ _ ⟨rfl,rfl⟩;refine ⟨fun _=>zE,A.fS zE ?_⟩
  by_cases hb:s.Fa p x
  rotate_left
  ·have hS:s.ii p x now=s:=by unfold cQ.ii;rw [aB hb]
   rw [hS,aq hb];have gB:=l5 (R:=R) (g:=g) (ha.mono (m:=n+p.ey.length) zo)
   by_cases hv:x.hO p.log
   ·rw [ay hv]
    obtain ⟨c,hc,Ca⟩:∃ c,s.cur=some c∧x.dd.size≤c.dd.size:=by
     by_cases h:∃ c,s.cur=some c∧x.dd.size≤c.dd.size
     ·exact h
     ·exact absurd ⟨hv,fun c hc hs=>h ⟨c,hc,hs⟩⟩ hb
    have IZ:s.dX=c:=by unfold cQ.dX;rw [hc];rfl
    have BN:s.cur.isSome=true:=by rw [hc];rfl
    dsimp only [py,eM.cells] at gB ⊢
    rw [IZ,BN] at gB ⊢
    (refine tk 7 _ rfl (cE.jZ rfl) ?_;refine tM 8 ?_;refine dv 9 _ rfl (bu rfl) ?_;refine dv 10 _ rfl (bm rfl) ?_;refine dv 11 _ rfl (ba rfl) ?_;refine dv 12 _ rfl (bp rfl zR) ?_;refine dv 13 _ rfl (bu rfl) ?_;refine dv 14 _ rfl (ba rfl) ?_;refine dv 15 _ rfl (ba rfl) ?_;refine dv 16 _ rfl (bp rfl zR) ?_;refine dv 17 _ rfl (bu rfl) ?_;refine dv 18 _ rfl (bm rfl) ?_;refine dv 19 _ rfl (ba rfl) ?_;refine dv 20 _ rfl (ba rfl) ?_;refine dv 21 _ rfl (ba rfl) ?_;refine dv 22 _ rfl (bp rfl zR) ?_;refine dv 23 (.bool true) rfl (cE.iW (cE.leq rfl rfl) zy) ?_;refine dv 24 _ rfl (bL rfl rfl) ?_;refine tk 25 _ rfl (bJ rfl rfl) ?_)
    refine bf zK ?_;refine wB ?_;exact aY (lj g p retry (n+p.ey.length) s::R) rfl (cn zE gB) ⟨rfl,rfl⟩
   ·rw [aq hv]
    (refine tk 7 _ rfl (cE.p9 rfl) ?_;refine tM 8 ?_;refine bc 9 rfl rfl zK zE rfl ?_;refine bc 10 rfl rfl zK zE rfl ?_;refine bc 11 rfl rfl zK zE rfl ?_;refine bc 12 rfl rfl zK zE rfl ?_;refine bc 13 rfl rfl zK zE rfl ?_;refine bc 14 rfl rfl zK zE rfl ?_;refine bc 15 rfl rfl zK zE rfl ?_;refine bc 16 rfl rfl zK zE rfl ?_;refine bc 17 rfl rfl zK zE rfl ?_;refine bc 18 rfl rfl zK zE rfl ?_;refine bc 19 rfl rfl zK zE rfl ?_;refine bc 20 rfl rfl zK zE rfl ?_;refine bc 21 rfl rfl zK zE rfl ?_;refine bc 22 rfl rfl zK zE rfl ?_;refine bc 23 rfl rfl zK zE rfl ?_;refine bc 24 rfl rfl zK zE rfl ?_;refine tk 25 _ rfl (bL rfl rfl) ?_)
    refine bf zK ?_;refine wB ?_;exact aY (lj g p retry (n+p.ey.length) s::R) rfl (cn (show cB _ (py g p retry s a M R) from zE) gB) ⟨rfl,rfl⟩
  rw [ay hb.1]
  cases hc:s.cur with
  | none =>
   have BN:s.cur.isSome=false:=by rw [hc];rfl
   dsimp only [py,eM.cells];rw [BN]
   (refine tk 7 _ rfl (cE.jZ rfl) ?_;refine tM 8 ?_;refine dv 9 _ rfl (bu rfl) ?_;refine dv 10 _ rfl (bm rfl) ?_;refine dv 11 _ rfl (ba rfl) ?_;refine dv 12 _ rfl (bp rfl zR) ?_;refine dv 13 _ rfl (bu rfl) ?_;refine bc 14 rfl rfl zK zE rfl ?_;refine bc 15 rfl rfl zK zE rfl ?_;refine bc 16 rfl rfl zK zE rfl ?_;refine bc 17 rfl rfl zK zE rfl ?_;refine bc 18 rfl rfl zK zE rfl ?_;refine bc 19 rfl rfl zK zE rfl ?_;refine bc 20 rfl rfl zK zE rfl ?_;refine bc 21 rfl rfl zK zE rfl ?_;refine bc 22 rfl rfl zK zE rfl ?_;refine bc 23 rfl rfl zK zE rfl ?_;refine dv 24 _ rfl (bJ rfl rfl) ?_;refine tk 25 _ rfl (bJ rfl rfl) ?_)
   refine bf zK ?_;refine wB ?_;exact bK g4 hb zS zE
  | some c =>
   have IZ:s.dX=c:=by unfold cQ.dX;rw [hc];rfl
   have BN:s.cur.isSome=true:=by rw [hc];rfl
   have Ca:=hb.2 c hc;dsimp only [py,eM.cells];rw [IZ,BN]
   (refine tk 7 _ rfl (cE.jZ rfl) ?_;refine tM 8 ?_;refine dv 9 _ rfl (bu rfl) ?_;refine dv 10 _ rfl (bm rfl) ?_;refine dv 11 _ rfl (ba rfl) ?_;refine dv 12 _ rfl (bp rfl zR) ?_;refine dv 13 _ rfl (bu rfl) ?_;refine dv 14 _ rfl (ba rfl) ?_;refine dv 15 _ rfl (ba rfl) ?_;refine dv 16 _ rfl (bp rfl zR) ?_;refine dv 17 _ rfl (bu rfl) ?_;refine dv 18 _ rfl (bm rfl) ?_;refine dv 19 _ rfl (ba rfl) ?_;refine dv 20 _ rfl (ba rfl) ?_;refine dv 21 _ rfl (ba rfl) ?_;refine dv 22 _ rfl (bp rfl zR) ?_;refine dv 23 (.bool false) rfl (cE.no (cE.leq rfl rfl) zn) ?_;refine dv 24 _ rfl (bL rfl rfl) ?_;refine tk 25 _ rfl (bJ rfl rfl) ?_)
   refine bf zK ?_;refine wB ?_;exact bK g4 hb zS zE
 rintro g4 hb;have hS:s.ii p x now=cQ.lU now s.st.length { s with cur:=some x,kept:=[] }:=by unfold cQ.ii;rw [aI hb]
 rw [hS,ay hb];have D2:=cQ.IX ha.st KT hb;refine wB ?_;refine aZ rfl rfl (gS _ e vr vp vq x (hx.cM zE) KT.2.fits) ?_;rintro _ _ ⟨N,ur,up,uq,rfl,hN,rfl⟩;refine bn (cz (hN.root.cM (cH zP))) fun o9=>?_
 refine bn (hN.sig.cM (cH zP)).parts.one fun Na=>?_
 refine bn (hN.sig.cM (cH zP)).path.one fun V4=>?_
 refine wB ?_;obtain ⟨s1,fR⟩:∃ s1:cQ,s1={ s with cur:=some x,kept:=[] }:=⟨_,rfl⟩
 rw [← fR] at D2 ⊢
 have Xr:s1.kept=[]:=by rw [fR]
 have HZ:s1.st=s.st:=by rw [fR]
 have oR:s1.st.length=p.ey.length:=by rw [HZ];exact hlen
 have SI:s1.dX=x:=by rw [fR];rfl
 have aaX:s1.cur.isSome=true:=by rw [fR];rfl
 have V6:s1.done=s.done:=by rw [fR]
 have aaY:s1.dl=s.dl:=by rw [fR]
 have hoN:=fun (j:Nat) (hj:j≤p.ey.length)=>cQ.CU (now:=now) (k:=p.ey.length) zo zo j D2 Xr hj zo
 have hoD:∀ j,(cQ.lU now j s1).done=s1.done∧(cQ.lU now j s1).dl=s1.dl:=fun j=>by
  induction j with
  | zero=>exact ⟨rfl,rfl⟩
  | succ j ih=>exact ih
 obtain ⟨C,hC⟩:∃ C:List Value,C=eM.cells { a with ur:=ur,up:=up,uq:=uq,ak:=none,ck:=0,ts:=[] } p retry s1:=⟨_,rfl⟩
 have hCg:C[4]?=some (pt a.ga):=by rw [hC];rfl
 have XG:C[5]?=some (.slice a.al s.st.length a.cl):=by rw [hC,← HZ];rfl
 refine bq (ι:=Nat) (fun j=>[(0,pt g),(2,.int .i64 (now:Int)),(49,.int .i64 (s.st.length:Int)),(50,.int .i64 (j:Int))]) (fun j=>cL g C sX (0,0)::N::M::dJ Ps 3 (.slice a.al s.st.length a.cl) s.st.length ((cQ.lU now j s1).st.flatMap FW.cells)::sG a.ga (cQ.lU now j s1).ord (cQ.lU now j s1).ag::R) (fun j=>j≤s.st.length) (fun j=>s.st.length - j) 0 (aH _) zS ?_ ?_
 ·dsimp only [cQ.lU];rw [HZ,hC];have e1:s1.ord=s.ord:=by rw [fR]
  have e2:s1.ag=s.ag:=by rw [fR]
  rw [e1,e2];dsimp only [eM.cells];rw [SI,aaX,HZ,V6];exact zE
 rintro j hj
 by_cases cP:j<s.st.length
 rotate_left
 ·have hje:j=s.st.length:=by omega
  subst hje;rw [hlen];obtain ⟨q1,q2,q3,q4⟩:=hoN p.ey.length (aS _);obtain ⟨q5,q6⟩:=hoD p.ey.length;have hq7:(cQ.lU now p.ey.length s1).dX=x:=by unfold cQ.dX;rw [q4];exact SI
  have eU:cB [dH [M,N]] [M]:=cn (cU (M:=[_,_]) (L:=[])) (bh bG);have iJ:cB [dH [M,N]] [N]:=cn (cU (M:=[_,_]) (L:=[])) (cB.drop (bh bG))
  have Nf:eM.ok { a with ur:=ur,up:=up,uq:=uq,ak:=none,ck:=0,ts:=[] } (dH [M,N]) p retry (n+p.ey.length) (cQ.lU now p.ey.length s1) :=
   ⟨ha.wU.cM eU,by rw [hq7];exact hN.cM iJ,by rw [q2];rfl,fun t ht=>absurd ht aO,by rw [q5,V6];exact ha.done.cM eU,by rw [q6,aaY];exact ha.dl.cM eU,q1,ha.pr,ha.low,ha.high⟩
  refine wB ?_;refine aY (lj g p retry (n+p.ey.length) (cQ.lU now p.ey.length s1)::R) rfl (cn (cn (du nH 4) ?_) (l5 Nf)) ⟨rfl,rfl⟩;dsimp only [py,eM.cells,lh];rw [hq7,q4,q5,q3,hC];dsimp only [eM.cells];rw [SI,oR];exact cn (ea (A:=M) (B:=N) zP zP) zE
 obtain ⟨q1,q2,q3,q4⟩:=hoN j zo;have hsj:(cQ.lU now j s1).st.length=s.st.length:=by rw [q3,HZ]
 have hlj:j<(cQ.lU now j s1).st.length:=by omega
 have eK:=SH hlj;have Bc:cQ.lU now (j+1) s1=(cQ.lU now j s1).Su now j:=rfl
 generalize cQ.lU now j s1=sj at *
 rw [rL] at XG ⊢
 have G5:=q1.BJ;have XH:∀ (L R':List cK),cR L (cL g C sX (0,0)) R'→Rd L ⟨g,0+5,none⟩ (.slice (some ⟨gs,0,none⟩) s.st.length a.cl):=fun L R' pl=>by rw [aC];exact bQ pl (by rw [iR];exact XG)
 have XI:∀ (L R':List cK),cR L (cL g C sX (0,0)) R'→Rd L ⟨g,4,none⟩ (pt a.ga):=fun L R' pl=>bQ pl (by rw [iR];exact hCg)
 have hR3:=XH (cL g C sX (0,0)::R) R .zero;refine wB ?_;refine bk (id:=7) [13,14,15] (cL g C sX (0,0)::R) mixed ?_
 (refine tM 0 ?_;refine tN 1 ?_;refine tF 2 ?_;refine tL 3 ?_;refine tM 4 ?_;refine tM 5 ?_;refine tN 6 ?_;refine tF 7 ?_;refine tL 8 ?_;refine tM 9 ?_;refine tk 10 _ rfl (bE rfl rfl zo) ?_;refine tF 11 ?_)
 refine tO 12 ?_;refine Do.qa rfl rfl rfl zP zo ⟨fun _=>zE,?_⟩;refine tO 13 ?_;refine bO (bE rfl rfl cP) rfl ⟨zN,?_⟩;refine tO 14 ?_;refine dV (ba rfl) ?_;refine tO 15 ?_;refine Do.qa rfl rfl rfl .zero zo ⟨zN,?_⟩;rw [aC,eK];refine bf zK ?_;refine wB ?_;have pP:∀ y∈sj.ag,y.fits:=fun y hy=>(q1.fits y hy).1
 refine aZ rfl rfl (Ct.at zP (sH _ e g a.ga sj.ord now j sj.ag (XI _ _ zP) pP zo zo (by have:=q1.ord;omega) zo)) ?_;rintro _ _ ⟨rfl,rfl⟩;refine wB ?_;refine bi (j+1) cP zo zS ?_;rw [Bc];exact zE
abbrev Fl:TypeId:=265
abbrev KU (r:Nat × Nat):List Value:=[.int .i64 (r.1:Int),.int .i64 (r.2:Int)]
theorem V7 (r:Nat × Nat):(KU r).length=2:=rfl
abbrev uC (v:Value) (l:List (Nat × Nat)):cK:=dJ Fl 2 v l.length (l.flatMap KU)
theorem zk (retry now:Nat) (r:Nat × Nat):∀ (l:List (Nat × Nat)) (s:cQ),cQ.ir retry now (l++[r]) s=(cQ.ir retry now l s).zc retry now r.1
 | [],_=>rfl
 | x::l,s=>zk retry now r l (s.zc retry now x.1)
theorem sI (retry now:Nat):∀ (l:List (Nat × Nat)) (s:cQ),(cQ.ir retry now l s).cur=s.cur∧(cQ.ir retry now l s).kept=s.kept∧(cQ.ir retry now l s).done=s.done∧(cQ.ir retry now l s).dl=s.dl∧(cQ.ir retry now l s).st.length=s.st.length
 | [],_=>⟨rfl,rfl,rfl,rfl,rfl⟩
 | x::l,s=>by
  obtain ⟨h1,h2,h3,h4,h5⟩:=sI retry now l (s.zc retry now x.1);refine ⟨h1,h2,h3,h4,h5.trans ?_⟩
  show (List.set _ _ _).length=_
  rw [List.length_set];rfl
theorem aa1 {retry tries:Nat} (h:retry≤100):IntKind.i64.wrap ((retry:Int)*2 ^ (min (if (3:Int)<(tries:Int) then (3:Int) else (tries:Int)).toNat IntKind.i64.bits))=((retry*2 ^ min tries 3:Nat):Int):=by
 have h1:(if (3:Int)<(tries:Int) then (3:Int) else (tries:Int)).toNat=min tries 3:=by split<;>omega
 have h2:min (min tries 3) IntKind.i64.bits=min tries 3:=Nat.min_eq_left (by have:IntKind.i64.bits=64:=rfl;omega);have h3:=Nat.mul_le_mul h (CV (n:=tries));rw [h1,h2,show (2:Int) ^ min tries 3=((2 ^ min tries 3:Nat):Int) by simp,← Int.natCast_mul];exact wrap_i64 zo zo
end Go.Proofs
namespace Go.Proofs
attribute [local irreducible] Bs.cE Bs.Do Bs.O Bs.W Bs.Fin Bs.A Bs.Ct Bs.cF Bs.Rd Bs.Sat Bs.cL Bs.Ob Bs.dJ Bs.View Bs.cB Bs.Ex Bs.dH Bs.Pu Bs.eZ Bs.dO Bs.dZ
open Go.Bs
open Tryz
variable (R:List cK) (e:World)
theorem Fm (g:Nat) (p:jH) (retry n:Nat) (s:cQ) (now:Nat) (ht:now≤10000000) (hn:n≤999000) :
 Ct prog 174 #[pt g,.int .i64 (now:Int)] e (lj g p retry n s::R) (fun v' L'=>∃ ad c,v'=.slice ad (s.lf now).length c∧L'=uC (.slice ad (s.lf now).length c) (s.lf now)::lj g p retry (n+p.ey.length) (s.kJ retry now)::R):=by
 refine vL fun a M ha=>?_
 have Fh:=ha.pr.fG;refine a7 (pA (show cR (py g p retry s a M R) (lh (.slice a.al s.st.length a.cl) s.st) _ from zP)) ?_;rintro ⟨lO,c',lP,F8,TU,AY⟩
 cases lP
 have hlen:=ha.st.len;have Ae:1≤s.st.length:=by have:=ha.pr.low;have:=ha.pr.high;omega
 rcases AY with ⟨-,-,AY⟩|⟨gs,rL⟩
 ·omega
 obtain ⟨D2,V9,Ms⟩:=cQ.M6 (now:=now) ha.st;obtain ⟨C,hC⟩:∃ C:List Value,C=eM.cells a p retry s:=⟨_,rfl⟩
 have hC3:C[3]?=some (.int .i64 (retry:Int)):=by rw [hC];rfl
 have hCg:C[4]?=some (pt a.ga):=by rw [hC];rfl
 have XG:C[5]?=some (.slice (some ⟨gs,0,none⟩) s.st.length a.cl):=by rw [hC,← rL];rfl
 have hR0:∀ (L R':List cK),cR L (cL g C sX (0,0)) R'→Rd L ⟨g,0+3,none⟩ (.int .i64 (retry:Int)):=fun L R' pl=>by rw [aC];exact bQ pl (by rw [iR];exact hC3)
 have XH:∀ (L R':List cK),cR L (cL g C sX (0,0)) R'→Rd L ⟨g,0+5,none⟩ (.slice (some ⟨gs,0,none⟩) s.st.length a.cl):=fun L R' pl=>by rw [aC];exact bQ pl (by rw [iR];exact XG)
 have XI:∀ (L R':List cK),cR L (cL g C sX (0,0)) R'→Rd L ⟨g,4,none⟩ (pt a.ga):=fun L R' pl=>bQ pl (by rw [iR];exact hCg)
 have hR3:∀ (L R':List cK),cR L (cL g C sX (0,0)) R'→Rd L ⟨g,0+4,none⟩ (pt a.ga):=fun L R' pl=>by rw [aC];exact XI L R' pl
 dsimp only [py];rw [← hC,rL];refine a8 (args:=[_,_]) func174 rfl ntmps174 results174 rfl ?_;refine wB ?_;refine bq (ι:=List AE × List Nat × Option Addr × Nat) (fun j=>[(0,pt g),(1,.int .i64 (now:Int)),(5,.slice j.2.2.1 j.2.1.length j.2.2.2)]) (fun j=>uC (.slice j.2.2.1 j.2.1.length j.2.2.2) (j.2.1.map fun w=>(w,(s.st.getD w lu).size))::sG a.ga s.ord j.1::cL g C sX (0,0)::M::lh (.slice (some ⟨gs,0,none⟩) s.st.length a.cl) s.st::fU (.slice a.ak a.ts.length a.ck) a.ts::R) (fun j=>(∀ y∈j.1,y.fits∧y.im<p.ey.length)∧j.1.length≤4∧j.2.1.length+j.1.length≤4∧nF now s.ag.length s.ag=(j.2.1++(nF now j.1.length j.1).1,(nF now j.1.length j.1).2)) (fun j=>j.1.length) (s.ag,[],none,0) ⟨ha.st.fits,by have:=ha.st.BJ;dsimp only;omega,by have:=ha.st.BJ;dsimp only [List.length_nil];omega,rfl⟩ zS (cn (du Fl 2) zE) ?_;rintro ⟨l,ws,Pt,co⟩ ⟨h1,h2,h3,h4⟩;dsimp only at h1 h2 h3 h4 ⊢
 by_cases E3:0<l.length∧((l.getD 0 kh).jD:Int)≤(now:Int)
 ·have oG:l≠[]:=fun q=>by rw [q] at E3;simp at E3
  have XA:=vG oG;have Cn:=E9 oG;have hww:(l.getD 0 kh).im<p.ey.length:=(h1 _ (XA.mem_iff.1 (List.mem_cons_self ..))).2;obtain ⟨m,hm⟩:∃ m,l.length=m+1:=⟨l.length - 1,by omega⟩
  have hd:nF now l.length l=((l.getD 0 kh).im::(nF now (pW l).length (pW l)).1,(nF now (pW l).length (pW l)).2):=by
   rw [hm,show (pW l).length=m by omega]
   conv=>lhs;unfold nF
   rw [aI ⟨E3.1,by omega⟩]
  rw [hd] at h4
  have hdu:=BM (cL g C sX (0,0)::uC (.slice Pt ws.length co) (ws.map fun w=>(w,(s.st.getD w lu).size))::M::lh (.slice (some ⟨gs,0,none⟩) s.st.length a.cl) s.st::fU (.slice a.ak a.ts.length a.ck) a.ts::R) e a.ga s.ord l (now:Int) (fun y hy=>(h1 y hy).1) zo
  generalize (l.getD 0 kh).im=w at *
  have C7:w<s.st.length:=by omega
  have tg:=nt C7;obtain ⟨z,hz⟩:∃ z,z=(s.st.getD w lu).size:=⟨_,rfl⟩
  have RO:∀ (L R':List cK),cR L (lh (.slice (some ⟨gs,0,none⟩) s.st.length a.cl) s.st) R'→Rd L ⟨gs,0+w*3+0,none⟩ (.int .i64 (z:Int)):=fun L R' pl=>by
   have:=dZ.elem (bb pl) SF (ae C7);rw [hz,tg];exact this.Oy (k:=0) rfl
  (repeat' first|(refine bW rfl (hR3 _ _ zP) rfl ?_)|refine Za ?_|apply Zc|apply Zd|refine Zg ?_|refine Zh ?_|apply YB)
  refine aZ rfl rfl (hdu.cM zE) ?_;rintro _ _ (⟨lY,-,-⟩|⟨-,-,rfl,rfl⟩)
  ·exact absurd E3 lY
  (repeat' first|(refine bW rfl (XH _ _ zP) rfl ?_)|(refine bW rfl (RO _ _ zP) rfl ?_)|refine Za ?_|refine Zb ?_|apply Zc|apply Zd|apply Ze|apply Zf|refine Zg ?_|refine Zh ?_|refine Zy ?_|refine Ye ?_|refine Yi fun _=>?_|refine Yx ?_|refine YA ?_|apply YC|refine YN ?_|fail)
  refine bC (bo rfl rfl rfl (show cR _ (dJ Fl 2 (.slice Pt ws.length co) _ _) _ from zP) (bP (n:=2) (c:=1) zP rfl zl) rfl rfl zO (by simp only [maxLen,ab];omega) (by rw [ab];omega) fun ei k1 _=>?_)
  refine wB ?_;refine bi (pW l,ws++[w],ei,k1) ⟨fun y hy=>h1 y (XA.mem_iff.1 (aU _ hy)),by dsimp only;omega,by dsimp only;rw [aa,aj];omega,by dsimp only;rw [h4,aM];rfl⟩ zd ?_ ?_
  ·simp only [aa,aj,ab];exact zS
  ·simp only [uC,ah,List.map_cons,List.map_nil,aW,aT,List.flatMap_nil,aK,aa,aj,ab,← hz];exact zE
 have XC:nF now l.length l=([],l):=by
  cases hm:l.length with
  | zero=>rfl
  | succ m=>unfold nF;rw [aB (fun q=>E3 ⟨by omega,by omega⟩)]
 rw [XC] at h4
 rw [aK] at h4
 have XJ:s.lf now=ws.map fun w=>(w,(s.st.getD w lu).size):=by unfold cQ.lf;rw [h4]
 have Pv:(nF now s.ag.length s.ag).2=l:=by rw [h4]
 have aa3:s.kJ retry now=cQ.ir retry now (s.lf now) { s with ag:=l }:=by unfold cQ.kJ;rw [Pv]
 rw [Pv] at D2
 have C7:ws.length=(s.lf now).length:=by rw [XJ,ab]
 rw [aa3,C7];rw [← XJ];have hdu:=BM (cL g C sX (0,0)::uC (.slice Pt (s.lf now).length co) (s.lf now)::M::lh (.slice (some ⟨gs,0,none⟩) s.st.length a.cl) s.st::fU (.slice a.ak a.ts.length a.ck) a.ts::R) e a.ga s.ord l (now:Int) (fun y hy=>(h1 y hy).1) zo
 generalize s.lf now=rq at *
 (repeat' first|(refine bW rfl (hR3 _ _ zP) rfl ?_)|refine Za ?_|apply Zc|apply Zd|refine Zg ?_|refine Zh ?_|apply YB)
 refine aZ rfl rfl (hdu.cM zE) ?_;rintro _ _ (⟨-,rfl,rfl⟩|⟨q1,q2,-,-⟩)
 rotate_left
 ·exact absurd ⟨q1,q2⟩ E3
 refine wB ?_;obtain ⟨s0,Q4⟩:∃ s0:cQ,s0={ s with ag:=l }:=⟨_,rfl⟩
 rw [← Q4] at D2 ⊢
 have tH:=fun i=>cQ.ze (retry:=retry) (now:=now) (k:=p.ey.length) ha.high zo zo (rq.take i) D2 (fun r hr=>(V9 r (aR hr)).1) (by rw [aF];omega)
 have BN:=fun i=>sI retry now (rq.take i) s0
 refine bq (ι:=Nat) (fun j=>[(0,pt g),(1,.int .i64 (now:Int)),(5,.slice Pt rq.length co),(35,.slice Pt rq.length co),(36,.int .i64 (rq.length:Int)),(37,.int .i64 (j:Int))]) (fun j=>uC (.slice Pt rq.length co) rq::sG a.ga (cQ.ir retry now (rq.take j) s0).ord (cQ.ir retry now (rq.take j) s0).ag::cL g C sX (0,0)::M::dJ Ps 3 (.slice (some ⟨gs,0,none⟩) s.st.length a.cl) s.st.length ((cQ.ir retry now (rq.take j) s0).st.flatMap FW.cells)::fU (.slice a.ak a.ts.length a.ck) a.ts::R) (fun j=>j≤rq.length) (fun j=>rq.length - j) 0 (aH _) zS ?_ ?_
 ·dsimp only [List.take_zero,cQ.ir];rw [Q4];exact zE
 rintro j hj
 by_cases cP:j<rq.length
 rotate_left
 ·rw [aG zo];obtain ⟨w1,w2⟩:=tH rq.length;obtain ⟨v1,v2,v3,v4,v5⟩:=BN rq.length;rw [aG (aS _)] at w1 w2 v1 v2 v3 v4 v5
  have IZ:(cQ.ir retry now rq s0).dX=s.dX:=by rw [w2,Q4];rfl
  have Nf:eM.ok a M p retry (n+p.ey.length) (cQ.ir retry now rq s0) :=
   ⟨ha.wU,by rw [IZ];exact ha.cur,by rw [v2,Q4];exact ha.Uf,ha.Q3,by rw [v3,Q4];exact ha.done,by rw [v4,Q4];exact ha.dl,w1.mono zo,ha.pr,ha.low,ha.high⟩
  refine wB ?_;refine aY (uC (.slice Pt rq.length co) rq::lj g p retry (n+p.ey.length) (cQ.ir retry now rq s0)::R) rfl (cn ?_ (bh (l5 Nf))) ⟨Pt,co,rfl,rfl⟩;dsimp only [py,eM.cells,lh];rw [IZ,v1,v3,v5,rL,hC,Q4];dsimp only [eM.cells];rw [rL];exact zE
 have fq:rq.take (j+1)=rq.take j++[rq[j]'cP]:=aD cP;have Bc:cQ.ir retry now (rq.take (j+1)) s0=(cQ.ir retry now (rq.take j) s0).zc retry now (rq[j]'cP).1:=by rw [fq,zk]
 have QC:=(V9 _ (ax cP)).1;obtain ⟨w1,w2⟩:=tH j;obtain ⟨-,-,-,-,v5⟩:=BN j;have hsj:(cQ.ir retry now (rq.take j) s0).st.length=s.st.length:=by rw [v5,Q4]
 have hlq:(rq.take j).length≤4:=by rw [aF];omega
 generalize cQ.ir retry now (rq.take j) s0=sj at *
 refine bD ((bb (show cR _ (uC (.slice Pt rq.length co) rq) _ from zP)).shape zo) ?_;rintro ⟨⟨lO,c',lP,wG,IV,Ao,uW⟩,_⟩
 cases lP
 rcases uW with uW|⟨gq,oq,rfl⟩
 ·omega
 have H0:∀ (L R':List cK),cR L (uC (.slice (some ⟨gq,oq,none⟩) rq.length co) rq) R'→dZ L gq (oq+j*2) (KU (rq[j]'cP)):=fun L R' pl=>dZ.elem (bb pl) V7 (ae cP)
 generalize rq[j]'cP=r at *
 obtain ⟨w,z⟩:=r;dsimp only at QC H0 Bc
 dsimp only [KU] at H0
 have Pw:w<sj.st.length:=by omega
 obtain ⟨OS,hOS⟩:∃ OS:List cK,OS=dJ Ps 3 (.slice (some ⟨gs,0,none⟩) s.st.length a.cl) s.st.length (sj.st.flatMap FW.cells)::fU (.slice a.ak a.ts.length a.ck) a.ts::R:=⟨_,rfl⟩
 have tg:=nt Pw;obtain ⟨tr,Ng⟩:∃ tr,tr=(sj.st.getD w lu).tries:=⟨_,rfl⟩
 have rI:Rd (dJ Ps 3 (.slice (some ⟨gs,0,none⟩) s.st.length a.cl) s.st.length (sj.st.flatMap FW.cells)::fU (.slice a.ak a.ts.length a.ck) a.ts::R) ⟨gs,0+w*3+1,none⟩ (.int .i64 (tr:Int)):=by
  have:=dZ.elem (bb (show cR (dJ Ps 3 (.slice (some ⟨gs,0,none⟩) s.st.length a.cl) s.st.length (sj.st.flatMap FW.cells)::fU (.slice a.ak a.ts.length a.ck) a.ts::R) _ _ from .zero)) SF (ae Pw);rw [Ng,tg];exact this.Oy (k:=1) rfl
 have EC:=XH (cL g C sX (0,0)::M::dJ Ps 3 (.slice (some ⟨gs,0,none⟩) s.st.length a.cl) s.st.length (sj.st.flatMap FW.cells)::fU (.slice a.ak a.ts.length a.ck) a.ts::R) _ .zero;have hb0:=hR0 (cL g C sX (0,0)::M::dJ Ps 3 (.slice (some ⟨gs,0,none⟩) s.st.length a.cl) s.st.length (sj.st.flatMap FW.cells)::fU (.slice a.ak a.ts.length a.ck) a.ts::R) _ .zero;have Is:=aa1 (retry:=retry) (tries:=tr) ha.high;have hp3:=Nat.mul_le_mul ha.high (CV (n:=tr));have Wa:tr≤1000000:=by rw [Ng];have:=w1.tries _ (qC Pw);omega
 (repeat' first|(refine O.dx rfl (H0 _ _ zP) rfl rfl ?_)|apply Zc|apply Zd|apply Ze|apply Zf|refine ZA ?_|refine Yh fun _=>?_|refine Yx ?_|refine Yz ?_|apply YB|apply YC|refine YR ?_|fail)
 rename_i g9;refine bz (id:=8) [7] mixed ?_
 (refine tM 0 ?_;refine tN 1 ?_;refine tF 2 ?_;refine tL 3 ?_;refine tF 4 ?_;refine tL 5 ?_;refine tk 6 _ rfl (bE rfl rfl zo) ?_;(refine tO 7 ?_;refine dV (bj rfl) ?_))
 refine bf zK ?_;refine wB ?_;refine bk (id:=9) [] (cL g9 [.int .i64 (w:Int),.int .i64 (z:Int)] Fl (0,0)::cL g C sX (0,0)::M::dJ Ps 3 (.slice (some ⟨gs,0,none⟩) s.st.length a.cl) s.st.length (sj.st.flatMap FW.cells)::fU (.slice a.ak a.ts.length a.ck) a.ts::R) mixed ?_
 (refine tM 0 ?_;refine tM 1 ?_;refine tM 2 ?_;refine tN 3 ?_;refine tF 4 ?_;refine tL 5 ?_;refine tM 6 ?_;refine tN 7 ?_;refine tF 8 ?_;refine tL 9 ?_;refine tk 10 _ rfl (cE.min rfl rfl) ?_)
 refine bH 11 (.int .i64 ((retry*2 ^ min tr 3:Nat):Int)) rfl zK zE (Is ▸ cE.shl rfl rfl (by split<;>omega)) rfl ?_
 (refine tk 12 _ rfl (cE.kS rfl rfl zo) ?_;refine tF 13 ?_;refine tL 14 ?_)
 have hpw:2 ^ min tr 3*retry≤800:=by rw [Nat.mul_comm];omega
 refine tO 15 ?_;have pP:∀ y∈sj.ag,y.fits:=fun y hy=>(w1.fits y hy).1
 have Wb:=w1.BJ;have Wc:=w1.ord;refine bg rfl rfl (Ct.at zP (sH _ e g a.ga sj.ord (now+retry*2 ^ min tr 3) w sj.ag (XI _ _ zP) pP zo zo zo zo)) ?_;rintro _ _ ⟨rfl,rfl⟩;refine ⟨fun _=>zE,?_⟩;refine bf zK ?_;have jL:=Fj Pw (tr+1)
 have Wd:(sj.st.flatMap FW.cells).set (0+w*3+1) (.int .i64 ((tr:Int)+1))=(cQ.ir retry now (rq.take (j+1)) s0).st.flatMap FW.cells:=by
  rw [aC,Bc,show ((tr:Int)+1)=((tr+1:Nat):Int) by omega,jL,Ng]
  rfl
 have Pv:(cQ.ir retry now (rq.take (j+1)) s0).ag=pM (gM sj.ag w) ⟨now+retry*2 ^ min tr 3,sj.ord,w⟩:=by rw [Bc,Ng];rfl
 have We:(cQ.ir retry now (rq.take (j+1)) s0).ord=sj.ord+1:=by rw [Bc];rfl
 refine wB ?_;rw [Wd];refine bi (j+1) cP zo zS ?_;rw [Pv,We];exact zE
theorem jo.jX {L:List cK} {ts:List jo} (h:∀ t∈ts,jo.ok L t):∀ x,dO L x→∀ c∈ts.flatMap jo.cells,c.oneCell'=true:=fun x hx=>r9 fun t ht c hc=>by
 have h1:=(h t ht).rd.parts.one x hx;have h2:=(h t ht).rd.path.one x hx;simp only [jo.cells,aQ,aO,or_false] at hc
 rcases hc with rfl|rfl|rfl|rfl
 ·rfl
 ·rfl
 ·exact h1
 ·exact h2
theorem qG (v:Value) (l:List jo) (h:cF R 4 v l.length (l.flatMap jo.cells)) (h1:∀ t∈l,jo.ok R t) (hl:l.length≤100000) :
 Ct prog 310 #[v] e R (fun v' L'=>∃ ad c,v'=.slice ad l.length c∧L'=fU (.slice ad l.length c) l::R):=by
 refine a7 (jo.jX h1) fun ho=>?_
 refine a7 (h.shape zo) ?_;rintro ⟨⟨ad,cap,rfl,h3,h4,h5,h6⟩,_⟩;refine a8 (args:=[_]) func310 rfl ntmps310 results310 rfl ?_
 cases ad with
 | none =>
  have u7:l=[]:=by
   have:=h5 rfl;exact List.eq_nil_of_length_eq_zero zo
  subst u7;refine wB ?_;exact aY _ rfl (du _ _) ⟨_,_,rfl,rfl⟩
 | some a =>
  (repeat (refine wA ?_;intros))
  refine O.fp (hH (n:=4) (k:=0) (cap:=0) zo zl rfl) ?_;refine bC (bo rfl rfl rfl .zero h rfl rfl ho zm zo fun lO c' lP=>?_)
  refine wB ?_;refine aY _ rfl ?_ ⟨lO,c',by simp [AS],rfl⟩;simp only [aC];exact aX
theorem Fo (g:Nat) (p:jH) (retry n:Nat) (s:cQ) (w:Nat) (vp vq:Value) (x:kQ) (hx:fN R vp vq x.sig) (hw:x.fY=w) (hr:x.sig.right) (hh:s.rR w) :
 Ct prog 291 #[pt g,.int .i64 (w:Int),.agg (iB x vp vq).toArray] e (lj g p retry n s::R) (fun v' L'=>v'=.tuple #[]∧L'=lj g p retry n (s.gC p w x)::R):=by
 refine vL fun a M ha=>?_
 have Fh:=ha.pr.fG;have mX:cB (py g p retry s a M R) R:=zE;refine a7 (hx.cM mX).parts.one fun o6=>?_
 refine a7 (hx.cM mX).path.one fun o7=>?_
 have HD:cB (py g p retry s a M R) [M]:=cH zP;refine a7 (cz (ha.cur.root.cM HD)) fun Na=>?_
 refine a7 (ha.cur.sig.cM HD).parts.one fun V4=>?_
 refine a7 (ha.cur.sig.cM HD).path.one fun XF=>?_
 refine a7 (pA (show cR (py g p retry s a M R) (lh (.slice a.al s.st.length a.cl) s.st) _ from zP)) ?_;rintro ⟨lO,c',lP,F8,TU,AY⟩
 cases lP
 have hlen:=ha.st.len;have C7:=hh.2.1;rcases AY with ⟨-,-,AY⟩|⟨gs,rL⟩
 ·omega
 have Px:w<p.ey.length:=by omega
 have pV:=cQ.Fb ha.st Px hw hr hh.2.2;have Oh:a.ts.length=s.kept.length:=by have:=congrArg List.length ha.Uf;rwa [ab] at this
 have Sv:=ha.st.DH;have pP:∀ y∈s.ag,y.fits:=fun y hy=>(ha.st.fits y hy).1
 have Wb:=ha.st.BJ;have aa4:x.fY<4294967296:=by omega
 dsimp only [py,eM.cells];rw [rL];refine a8 (args:=[_,_,_]) func291 rfl ntmps291 results291 rfl ?_
 (repeat (refine wA ?_;intros))
 rename_i g5;refine bk (id:=2) [9,10,11] (cL g5 (iB x vp vq) nH (0,0)::cL g (eM.cells { a with al:=some ⟨gs,0,none⟩ } p retry s) sX (0,0)::R) mixed ?_
 (refine tM 0 ?_;refine tM 1 ?_;refine tN 2 ?_;refine tF 3 ?_;refine tL 4 ?_;refine tJ 5 ?_)
 refine tO 6 ?_;refine bg rfl rfl (pb _ e vp vq x (hx.cM zE) hr.fits) ?_;rintro _ _ ⟨N,wp,wq,rfl,hN,rfl⟩;refine ⟨fun _=>zE,?_⟩;refine A.cC (hN.cM (cH zP)).parts.one fun o8=>?_
 refine A.cC (hN.cM (cH zP)).path.one fun o9=>?_
 refine tO 7 ?_;refine bF (n:=4) (cs:=iB x wp wq) rfl rfl rfl rfl zQ rfl (fun gb=>⟨fun _=>zE,?_⟩);refine tO 8 ?_;refine bo rfl rfl rfl (show cR _ (fU (.slice a.ak a.ts.length a.ck) a.ts) _ from zP) (bP (n:=4) (c:=1) zP rfl zl) rfl rfl zO zm zo fun ei k1 _=>⟨fun _=>zE,?_⟩
 refine tO 9 ?_;refine dV (bm rfl) ?_;refine tO 10 ?_;refine dV (ba rfl) ?_;refine tO 11 ?_;refine tf ?_;refine ⟨zN,?_⟩;refine bf zK ?_
 have jL:((s.st.flatMap FW.cells).set (0+w*3+2) (.bool true)).set (0+w*3+0) (.int .i64 (s.dX.dd.size:Int))=(s.gV w x).st.flatMap FW.cells:=by
  rw [aC,I2 C7,I1 (by rw [List.length_set];exact C7),List.set_set]
  show _=(s.st.set w _).flatMap FW.cells
  congr 2
  rw [nt (by rw [List.length_set];exact C7),List.getElem_set_self]
 have SJ:(s.gV w x).st.length=s.st.length:=List.length_set;refine wB ?_;rw [jL];refine aZ rfl rfl (Ct.at zP (uB _ e a.ga s.ord s.ag w pP zo)) ?_;rintro _ _ ⟨⟨z,rfl⟩,rfl⟩;refine wB ?_;have eU:cB [dH [M,N]] [M]:=cn (cU (M:=[_,_]) (L:=[])) (bh bG);have iJ:cB [dH [M,N]] [N]:=cn (cU (M:=[_,_]) (L:=[])) (cB.drop (bh bG))
 have zp:eM.ok { a with ak:=ei,ck:=k1,ts:=a.ts++[(x,wp,wq)] } (dH [M,N]) p retry n (s.gV w x) :=
  ⟨ha.wU.cM eU,ha.cur.cM eU,by dsimp only;rw [ah,ha.Uf];rfl,fun t ht=>by
   rcases aJ.1 ht with ht|ht
   ·exact (ha.Q3 t ht).cM eU
   ·rw [an.1 ht];exact ⟨hN.cM iJ,aa4⟩,ha.done.cM eU,ha.dl.cM eU,pV,ha.pr,ha.low,ha.high⟩
 have aa5:(a.ts++[(x,wp,wq)]).length=a.ts.length+1:=by simp
 obtain ⟨C,hC⟩:∃ C:List Value,C=eM.cells { a with ak:=ei,ck:=k1,ts:=a.ts++[(x,wp,wq)] } p retry (s.gV w x):=⟨_,rfl⟩
 obtain ⟨L1,Wf⟩:∃ L1:List cK,L1=cL g C sX (0,0)::dH [M,N]::lh (.slice a.al (s.gV w x).st.length a.cl) (s.gV w x).st::fU (.slice ei (a.ts++[(x,wp,wq)]).length k1) (a.ts++[(x,wp,wq)])::sG a.ga (s.gV w x).ord (s.gV w x).ag::R:=⟨_,rfl⟩
 refine W.gC [(0,pt g)] zS ?_;refine W.fp (L':=L1) ?_ ?_
 ·rw [Wf,hC];dsimp only [eM.cells,lh,fU];rw [SJ,rL,aa5];simp only [aW,aT,List.flatMap_nil,aK];exact cn (ea (A:=M) (B:=N) zP zP) zE
 clear jL;have hl5:∀ (L R':List cK),cR L (cL g C sX (0,0)) R'→dZ L g (0+6) (dT s.dX a.ur a.up a.uq):=fun L R' pl=>(bV pl).part 6 5 |> fun h=>by rw [hC] at h;exact h
 have hl9:∀ (L R':List cK),cR L (cL g C sX (0,0)) R'→Rd L ⟨g,0+12,none⟩ (.slice ei (a.ts++[(x,wp,wq)]).length k1):=fun L R' pl=>by rw [aC];exact bQ pl (by rw [hC];rfl)
 have ry:∀ (L R':List cK),cR L (cL g C sX (0,0)) R'→Rd L ⟨g,0+0+2,none⟩ (.int .i64 (p.ez:Int)):=fun L R' pl=>bQ pl (by rw [hC];rfl)
 have aa6:=hl9 (cL g C sX (0,0)::dH [M,N]::lh (.slice a.al (s.gV w x).st.length a.cl) (s.gV w x).st::fU (.slice ei (a.ts++[(x,wp,wq)]).length k1) (a.ts++[(x,wp,wq)])::sG a.ga (s.gV w x).ord (s.gV w x).ag::R) _ .zero;have aa7:=ry (cL g C sX (0,0)::dH [M,N]::lh (.slice a.al (s.gV w x).st.length a.cl) (s.gV w x).st::fU (.slice ei (a.ts++[(x,wp,wq)]).length k1) (a.ts++[(x,wp,wq)])::sG a.ga (s.gV w x).ord (s.gV w x).ag::R) _ .zero;have QU:(s.kept++[x]).length=(a.ts++[(x,wp,wq)]).length:=by simp [Oh]
 rw [Wf]
 by_cases hq:p.ez≤(s.kept++[x]).length
 rotate_left
 ·have hS:s.gC p w x=s.gV w x:=by unfold cQ.gC;rw [aB hq]
  rw [hS];rw [QU] at hq
  refine bz (id:=5) [] mixed ?_
  (refine tM 0 ?_;refine tN 1 ?_;refine tF 2 ?_;refine tL 3 ?_;refine tk 4 _ rfl (bN rfl) ?_;refine tM 5 ?_;refine tN 6 ?_;refine tF 7 ?_;refine tF 8 ?_;refine tL 9 ?_;refine tk 10 (.bool false) rfl (cE.no (bS rfl rfl) zn) ?_)
  refine bf zK ?_;refine wB ?_;refine bU (lj g p retry n (s.gV w x)::R) rfl (cn ?_ (l5 zp)) ⟨rfl,rfl⟩;rw [hC];exact zE
 have hS:s.gC p w x={ s.gV w x with done:=s.dX,dl:=s.kept++[x] }:=by unfold cQ.gC;rw [aI hq]
 have eu:=cQ.IY (p:=p) ha.st Px hw hr hh;rw [hS] at eu ⊢
 rw [QU] at hq
 refine bz (id:=5) [] mixed ?_
 (refine tM 0 ?_;refine tN 1 ?_;refine tF 2 ?_;refine tL 3 ?_;refine tk 4 _ rfl (bN rfl) ?_;refine tM 5 ?_;refine tN 6 ?_;refine tF 7 ?_;refine tF 8 ?_;refine tL 9 ?_;refine tk 10 (.bool true) rfl (cE.iW (bS rfl rfl) zy) ?_)
 refine bf zK ?_;refine wB ?_;have SK:∀ (L R':List cK),cR L (cL g (eM.cells { a with ak:=ei,ck:=k1,ts:=a.ts++[(x,wp,wq)] } p retry (s.gV w x)) sX (0,0)) R'→dZ L g (0+6) (dT s.dX a.ur a.up a.uq):=fun L R' pl=>(bV pl).part 6 5
 have Wg:∀ (L R':List cK),cR L (cL g (eM.cells { a with ak:=ei,ck:=k1,ts:=a.ts++[(x,wp,wq)] } p retry (s.gV w x)) sX (0,0)) R'→Rd L ⟨g,0+12,none⟩ (.slice ei (a.ts++[(x,wp,wq)]).length k1):=fun L R' pl=>by rw [aC];exact bQ pl rfl
 have SL:∀ (C8:Option Addr) (ce:Nat),eM.ok { a with ak:=ei,ck:=k1,ts:=a.ts++[(x,wp,wq)],dr:=a.ur,dp:=a.up,dq:=a.uq,ve:=.slice C8 (a.ts++[(x,wp,wq)]).length ce } (dH [dH [M,N],fU (.slice C8 (a.ts++[(x,wp,wq)]).length ce) (a.ts++[(x,wp,wq)])]) p retry n { s.gV w x with done:=s.dX,dl:=s.kept++[x] }:=fun C8 ce=>by
  have EC:cB [dH [dH [M,N],fU (.slice C8 (a.ts++[(x,wp,wq)]).length ce) (a.ts++[(x,wp,wq)])]] [dH [M,N]]:=cn (cU (M:=[_,_]) (L:=[])) (bh bG);have O2:cB [dH [dH [M,N],fU (.slice C8 (a.ts++[(x,wp,wq)]).length ce) (a.ts++[(x,wp,wq)])]] [fU (.slice C8 (a.ts++[(x,wp,wq)]).length ce) (a.ts++[(x,wp,wq)])]:=cn (cU (M:=[_,_]) (L:=[])) (cB.drop (bh bG));exact ⟨zp.wU.cM EC,zp.cur.cM EC,zp.Uf,fun t ht=>(zp.Q3 t ht).cM EC,zp.cur.cM EC,⟨_,zp.Uf,cF.cM (bb .zero) O2,fun t ht=>(zp.Q3 t ht).cM EC⟩,eu,ha.pr,ha.low,ha.high⟩
 rw [hC];clear hl5 hl9 ry aa6 aa7 Wf hC;have he1:a.ts.length+1≤100:=by omega
 refine bk (id:=6) [14,15,16] R mixed ?_
 (refine tM 0 ?_;refine tM 1 ?_;refine tM 2 ?_;refine tN 3 ?_;refine tF 4 ?_)
 (refine tM 6 ?_;refine tN 7 ?_;refine tF 8 ?_)
 refine A.two 5 9 rfl rfl rfl rfl zK ?_ ?_
 ·refine bO (cE.dx rfl (SK _ _ zP) rfl) rfl ⟨fun _=>zE,?_⟩;refine tO 9 ?_;refine bO (bp rfl (Wg _ _ zP)) rfl ⟨fun _=>zE,?_⟩;refine tO 10 ?_;refine bg rfl rfl (qG _ e (.slice ei (a.ts++[(x,wp,wq)]).length k1) (a.ts++[(x,wp,wq)]) (bb zP) (fun t ht=>(zp.Q3 t ht).cM (cH zP)) zo) ?_;rintro _ _ ⟨C8,ce,rfl,rfl⟩;refine ⟨fun _=>zE,?_⟩;refine tN 11 ?_;refine tF 12 ?_;refine tO 13 ?_;refine zg ?_;refine ⟨fun _=>zE,?_⟩;refine tO 14 ?_;refine dV (bm rfl) ?_;refine tO 15 ?_;refine dV (ba rfl) ?_;refine tO 16 ?_;refine tf ?_;refine ⟨zN,?_⟩;refine bf zK ?_;refine bU (lj g p retry n { s.gV w x with done:=s.dX,dl:=s.kept++[x] }::R) rfl (cn ?_ (l5 (SL C8 ce))) ⟨rfl,rfl⟩;exact cn (ea (A:=dH [M,N]) (B:=fU (.slice C8 (a.ts++[(x,wp,wq)]).length ce) (a.ts++[(x,wp,wq)])) zP zP) zE
 ·refine bO (bp rfl (Wg _ _ zP)) rfl ⟨fun _=>zE,?_⟩;refine A.two 5 10 rfl rfl rfl rfl zK ?_ ?_
  ·refine bO (cE.dx rfl (SK _ _ zP) rfl) rfl ⟨fun _=>zE,?_⟩;refine tO 10 ?_;refine bg rfl rfl (qG _ e (.slice ei (a.ts++[(x,wp,wq)]).length k1) (a.ts++[(x,wp,wq)]) (bb zP) (fun t ht=>(zp.Q3 t ht).cM (cH zP)) zo) ?_;rintro _ _ ⟨C8,ce,rfl,rfl⟩;refine ⟨fun _=>zE,?_⟩;refine tN 11 ?_;refine tF 12 ?_;refine tO 13 ?_;refine zg ?_;refine ⟨fun _=>zE,?_⟩;refine tO 14 ?_;refine dV (bm rfl) ?_;refine tO 15 ?_;refine dV (ba rfl) ?_;refine tO 16 ?_;refine tf ?_;refine ⟨zN,?_⟩;refine bf zK ?_;refine bU (lj g p retry n { s.gV w x with done:=s.dX,dl:=s.kept++[x] }::R) rfl (cn ?_ (l5 (SL C8 ce))) ⟨rfl,rfl⟩;exact cn (ea (A:=dH [M,N]) (B:=fU (.slice C8 (a.ts++[(x,wp,wq)]).length ce) (a.ts++[(x,wp,wq)])) zP zP) zE
  ·refine bg rfl rfl (qG _ e (.slice ei (a.ts++[(x,wp,wq)]).length k1) (a.ts++[(x,wp,wq)]) (bb zP) (fun t ht=>(zp.Q3 t ht).cM (cH zP)) zo) ?_;rintro _ _ ⟨C8,ce,rfl,rfl⟩;refine ⟨fun _=>zE,?_⟩;refine tO 5 ?_;refine bO (cE.dx rfl (SK _ _ zP) rfl) rfl ⟨fun _=>zE,?_⟩;refine tN 11 ?_;refine tF 12 ?_;refine tO 13 ?_;refine zg ?_;refine ⟨fun _=>zE,?_⟩;refine tO 14 ?_;refine dV (bm rfl) ?_;refine tO 15 ?_;refine dV (ba rfl) ?_;refine tO 16 ?_;refine tf ?_;refine ⟨zN,?_⟩;refine bf zK ?_;refine bU (lj g p retry n { s.gV w x with done:=s.dX,dl:=s.kept++[x] }::R) rfl (cn ?_ (l5 (SL C8 ce))) ⟨rfl,rfl⟩;exact cn (ea (A:=dH [M,N]) (B:=fU (.slice C8 (a.ts++[(x,wp,wq)]).length ce) (a.ts++[(x,wp,wq)])) zP zP) zE
theorem I3 {g:Nat} {p:jH} {retry n m:Nat} {s:cQ} {R:List cK} (h:n≤m):cB (lj g p retry n s::R) (lj g p retry m s::R) :=
 jF fun a=>jF fun M=>cn (cU (M:=Pu (a.ok M p retry n s)::py g p retry s a M []) (L:=R)) (rW fun h2=>l5 (h2.mono h))
theorem uD (g:Nat) (p:jH) (retry n:Nat) (s:cQ) (w:Nat) (vp vq:Value) (x:kQ) (size now:Nat) (hx:fN R vp vq x.sig) (hxw:x.fY≤1000000) (hw:w≤1000000) (lq:size≤4294967296) (ht:now≤10000000) (hn:n≤999000) :
 Ct prog 254 #[pt g,.int .i64 (w:Int),.agg (iB x vp vq).toArray,.int .i64 (size:Int),.int .i64 (now:Int)] e (lj g p retry n s::R) (fun v' L'=>v'=.bool (s.Av p w x size)∧L'=lj g p retry (n+1) (s.oo p w x size now)::R):=by
 refine vL fun a M ha=>?_
 have Fh:=ha.pr.fG;have mX:cB (py g p retry s a M R) R:=zE;refine a7 (hx.cM mX).parts.one fun o6=>?_
 refine a7 (hx.cM mX).path.one fun o7=>?_
 have HD:cB (py g p retry s a M R) [M]:=cH zP;refine a7 (cz (ha.cur.root.cM HD)) fun Na=>?_
 refine a7 (cz (ha.wU.log.cM HD)) fun V4=>?_
 refine a7 (ha.wU.ey.cM HD).one fun XF=>?_
 refine a7 (pA (show cR (py g p retry s a M R) (lh (.slice a.al s.st.length a.cl) s.st) _ from zP)) ?_;rintro ⟨lO,c',lP,F8,TU,AY⟩
 cases lP
 have hlen:=ha.st.len;have gB:=l5 (R:=R) (g:=g) (ha.mono (m:=n+1) zo);have lY:¬ s.rR w→s.Av p w x size=false∧s.oo p w x size now=s:=fun h=>⟨by unfold cQ.Av;rw [aq (fun q=>h q.1)],by unfold cQ.oo;rw [aI h]⟩
 refine a8 (args:=[_,_,_,_,_]) func254 rfl ntmps254 results254 rfl ?_
 by_cases BN:s.cur.isSome=true
 rotate_left
 ·obtain ⟨hB,hS⟩:=lY (fun h=>BN h.1);have hsf:s.cur.isSome=false:=by simpa using BN
  rw [hB,hS];dsimp only [py,eM.cells] at gB ⊢
  rw [hsf] at gB ⊢
  (repeat (refine wA ?_;intros))
  exact aY (lj g p retry (n+1) s::R) rfl (cn zE gB) ⟨rfl,rfl⟩
 by_cases C7:w<s.st.length
 rotate_left
 ·obtain ⟨hB,hS⟩:=lY (fun h=>C7 h.2.1);rw [hB,hS];dsimp only [py,eM.cells] at gB ⊢
  rw [BN] at gB ⊢
  (repeat (refine wA ?_;intros))
  exact aY (lj g p retry (n+1) s::R) rfl (cn zE gB) ⟨rfl,rfl⟩
 rcases AY with ⟨-,-,AY⟩|⟨gs,rL⟩
 ·omega
 have tg:=nt C7
 have OP:∀ (L R':List cK),cR L (lh (.slice (some ⟨gs,0,none⟩) s.st.length a.cl) s.st) R'→Rd L ⟨gs,0+w*3+2,none⟩ (.bool (s.st.getD w lu).kept):=fun L R' pl=>by
  have:=dZ.elem (bb pl) SF (ae C7);rw [tg];exact this.Oy (k:=2) rfl
 have Xl:∀ (L R':List cK),cR L (lh (.slice (some ⟨gs,0,none⟩) s.st.length a.cl) s.st) R'→Rd L ⟨gs,0+w*3+0,none⟩ (.int .i64 ((s.st.getD w lu).size:Int)):=fun L R' pl=>by
  have:=dZ.elem (bb pl) SF (ae C7);rw [tg];exact this.Oy (k:=0) rfl
 by_cases Pm:(s.st.getD w lu).kept=true
 ·obtain ⟨hB,hS⟩:=lY (fun h=>by have h2:=h.2.2;rw [Pm] at h2;cases h2);rw [hB,hS];rw [Pm] at OP
  dsimp only [py,eM.cells] at gB ⊢
  rw [BN,rL] at gB ⊢
  (repeat' first|(refine bW rfl (OP _ _ zP) rfl ?_)|refine Za ?_|refine Zb ?_|apply Zc|apply Zd|apply Ze|apply Zf|refine Zg ?_|refine Zh ?_|refine Zi ?_|refine Zk ?_|refine Zm ?_|refine Zn ?_|refine Zy ?_|refine ZB ?_|refine ZK ?_|refine Yg fun _=>?_|refine Yx ?_|refine Yz ?_|apply YE|apply YF)
  exact aY (lj g p retry (n+1) s::R) rfl (cn zE gB) ⟨rfl,rfl⟩
 have Sv:(s.st.getD w lu).kept=false:=by simpa using Pm
 have hh:s.rR w:=⟨BN,C7,Sv⟩
 have Px:w<p.ey.length:=by omega
 obtain ⟨c,hc⟩:=Option.isSome_iff_exists.1 BN;have IZ:s.dX=c:=by unfold cQ.dX;rw [hc];rfl
 have Xv:=ha.st.cur c hc;have Gf:s.dX.dd.right:=by rw [IZ];exact Xv.1
 rw [Sv] at OP
 dsimp only [py,eM.cells] at gB ⊢
 rw [BN,rL] at gB ⊢
 (repeat' first|refine W.u2 (id:=6) (fun _:Unit=>[(0,pt g),(1,.int .i64 (w:Int)),(3,.int .i64 (size:Int)),(4,.int .i64 (now:Int))]) (fun _=>cL g ([a.vl,a.vw,.int .i64 (p.ez:Int),.int .i64 (retry:Int),pt a.ga,.slice (some ⟨gs,0,none⟩) s.st.length a.cl]++dT s.dX a.ur a.up a.uq++[.bool true,.slice a.ak a.ts.length a.ck]++dT s.done a.dr a.dp a.dq++[a.ve]) sX (0,0)::M::lh (.slice (some ⟨gs,0,none⟩) s.st.length a.cl) s.st::fU (.slice a.ak a.ts.length a.ck) a.ts::sG a.ga s.ord s.ag::R) (fun _=>¬ s.wR p w x) ?_ ?_|(refine bW rfl (OP _ _ zP) rfl ?_)|refine Za ?_|refine Zb ?_|apply Zc|apply Zd|apply Ze|apply Zf|refine Zg ?_|refine Zh ?_|refine Zi ?_|refine Zk ?_|refine Zm ?_|refine Zn ?_|refine Zy ?_|refine ZB ?_|refine ZK ?_|refine Yg fun _=>?_|refine Yx ?_|refine YA ?_|apply YC)
 rotate_left
 ·refine ⟨?_⟩;rename_i g7
  (repeat (refine wA ?_;intros))
  refine bz (id:=3) [] mixed ?_
  have Wf:cB (cL g7 (iB x vp vq) nH (0,0)::cL g ([a.vl,a.vw,.int .i64 (p.ez:Int),.int .i64 (retry:Int),pt a.ga,.slice (some ⟨gs,0,none⟩) s.st.length a.cl]++dT s.dX a.ur a.up a.uq++[.bool true,.slice a.ak a.ts.length a.ck]++dT s.done a.dr a.dp a.dq++[a.ve]) sX (0,0)::M::lh (.slice (some ⟨gs,0,none⟩) s.st.length a.cl) s.st::fU (.slice a.ak a.ts.length a.ck) a.ts::sG a.ga s.ord s.ag::R) (lj g p retry n s::R):=by
   refine cn ?_ (l5 ha);dsimp only [py,eM.cells];rw [BN,rL];exact zE
  by_cases fq:s.wR p w x
  ·have hB:s.Av p w x size=true:=by unfold cQ.Av;exact ay ⟨hh,.inl fq⟩
   have hS:s.oo p w x size now=s.gC p w x:=by unfold cQ.oo;rw [aB (fun q=>q hh),aI fq]
   rw [hB,hS];have TZ:=fq.1
   (refine tF 0 ?_;refine tL 1 ?_;refine tM 2 ?_;refine tk 3 (.bool true) rfl (cE.iW (bX rfl rfl) zy) ?_;refine tM 4 ?_;refine dv 5 _ rfl (bu rfl) ?_;refine dv 6 _ rfl (bm rfl) ?_;refine dv 7 _ rfl (ba rfl) ?_;refine dv 8 _ rfl (cE.dh rfl zP zI zX) ?_;refine dv 9 _ rfl (bu rfl) ?_;refine dv 10 _ rfl (bm rfl) ?_;refine dv 11 _ rfl (ba rfl) ?_;refine dv 12 _ rfl (ba rfl) ?_;refine dv 13 _ rfl (cE.dh rfl zP zI zX) ?_;refine dv 14 _ rfl (cE.dx rfl zA zX) ?_)
   refine A.ru 15 rfl rfl zK ?_;refine bg rfl rfl (mg _ e a.vl a.vw a.ur vp vq p s.dX.dd x (ha.wU.cM (cH zP)) ha.pr (ha.cur.root.cM (cH zP)) Gf (hx.cM zE)) ?_;rintro _ _ ⟨rfl,rfl⟩;refine ⟨fun _=>zE,A.fS zE ?_⟩;rw [ay fq.2]
   (refine tk 16 _ rfl (bL rfl rfl) ?_)
   refine bf zK ?_;refine wB ?_;refine aZ rfl rfl (Ct.cM (Fo R e g p retry n s w vp vq x hx fq.1 fq.2.2.1 hh) Wf) ?_;rintro _ _ ⟨rfl,rfl⟩;refine wB ?_;refine aY (lj g p retry (n+1) (s.gC p w x)::R) rfl (I3 zo) ⟨rfl,rfl⟩
  by_cases aa9:x.fY=w
  ·have hnv:¬ x.hO p s.dX.dd:=fun h=>fq ⟨aa9,h⟩
   (refine tF 0 ?_;refine tL 1 ?_;refine tM 2 ?_;refine tk 3 (.bool true) rfl (cE.iW (bX rfl rfl) zy) ?_;refine tM 4 ?_;refine dv 5 _ rfl (bu rfl) ?_;refine dv 6 _ rfl (bm rfl) ?_;refine dv 7 _ rfl (ba rfl) ?_;refine dv 8 _ rfl (cE.dh rfl zP zI zX) ?_;refine dv 9 _ rfl (bu rfl) ?_;refine dv 10 _ rfl (bm rfl) ?_;refine dv 11 _ rfl (ba rfl) ?_;refine dv 12 _ rfl (ba rfl) ?_;refine dv 13 _ rfl (cE.dh rfl zP zI zX) ?_;refine dv 14 _ rfl (cE.dx rfl zA zX) ?_)
   refine A.ru 15 rfl rfl zK ?_;refine bg rfl rfl (mg _ e a.vl a.vw a.ur vp vq p s.dX.dd x (ha.wU.cM (cH zP)) ha.pr (ha.cur.root.cM (cH zP)) Gf (hx.cM zE)) ?_;rintro _ _ ⟨rfl,rfl⟩;refine ⟨fun _=>zE,A.fS zE ?_⟩;rw [aq hnv]
   (refine tk 16 _ rfl (bL rfl rfl) ?_)
   refine bf zK ?_;refine wB ?_;exact bK () fq zS zE
  ·(refine tF 0 ?_;refine tL 1 ?_;refine tM 2 ?_;refine tk 3 (.bool false) rfl (cE.no (bX rfl rfl) zn) ?_;refine tM 4 ?_;refine bc 5 rfl rfl zK zE rfl ?_;refine bc 6 rfl rfl zK zE rfl ?_;refine bc 7 rfl rfl zK zE rfl ?_;refine bc 8 rfl rfl zK zE rfl ?_;refine bc 9 rfl rfl zK zE rfl ?_;refine bc 10 rfl rfl zK zE rfl ?_;refine bc 11 rfl rfl zK zE rfl ?_;refine bc 12 rfl rfl zK zE rfl ?_;refine bc 13 rfl rfl zK zE rfl ?_;refine bc 14 rfl rfl zK zE rfl ?_)
   refine bc 15 rfl rfl zK zE rfl ?_
   (refine tk 16 _ rfl (bJ rfl rfl) ?_)
   refine bf zK ?_;refine wB ?_;exact bK () fq zS zE
 rintro _ fq;have hgo:s.Av p w x size=decide (s.turns w size):=by unfold cQ.Av;exact decide_eq_decide.2 ⟨fun h=>h.2.resolve_left fq,fun h=>⟨hh,.inr h⟩⟩
 have vK:s.oo p w x size now=if s.turns w size then s.Au w size now else s:=by unfold cQ.oo;rw [aB (fun q=>q hh),aB fq]
 rw [hgo,vK];have jL:=fun n=>I1 C7 n
 have tH:(s.st.set w { s.st.getD w lu with size:=size }).length=s.st.length:=List.length_set;have pP:∀ y∈s.ag,y.fits:=fun y hy=>(ha.st.fits y hy).1
 have Wb:=ha.st.BJ;have Wc:=ha.st.ord;obtain ⟨z,hz⟩:∃ z,z=(s.st.getD w lu).size:=⟨_,rfl⟩
 rw [← hz] at Xl
 have Sw:s.turns w size↔size≤s.dX.dd.size∧size≠z:=by unfold cQ.turns;rw [hz]
 clear OP;have afo:=Xl (lh (.slice (some ⟨gs,0,none⟩) s.st.length a.cl) s.st::fU (.slice a.ak a.ts.length a.ck) a.ts::sG a.ga s.ord s.ag::R) _ .zero
 by_cases Ng:s.turns w size
 rotate_left
 ·rw [aq Ng,aB Ng];have Wa:¬ (size≤s.dX.dd.size∧size≠z):=fun q=>Ng (Sw.2 q)
  by_cases hle:size≤s.dX.dd.size
  ·have hze:size=z:=Decidable.not_not.1 fun q=>Wa ⟨hle,q⟩
   refine wB ?_;exact aY (lj g p retry (n+1) s::R) rfl (cn zE gB) ⟨rfl,rfl⟩
  ·refine wB ?_;exact aY (lj g p retry (n+1) s::R) rfl (cn zE gB) ⟨rfl,rfl⟩
 rw [ay Ng,aI Ng];obtain ⟨Og,ht2⟩:=Sw.1 Ng;have aba:=cQ.I0 (now:=now) ha.st Px Og zo zo zo;have Nf:eM.ok a M p retry (n+1) (s.Au w size now):=⟨ha.wU,ha.cur,ha.Uf,ha.Q3,ha.done,ha.dl,aba,ha.pr,ha.low,ha.high⟩
 have Wh:=jL size;refine wB ?_;refine aZ rfl rfl (Ct.at zP (sH _ e g a.ga s.ord now w s.ag zR pP zo zo zo zo)) ?_;rintro _ _ ⟨rfl,rfl⟩;refine wB ?_
 have abb:(s.st.flatMap FW.cells).set (0+w*3+0) (.int .i64 (size:Int))=(s.Au w size now).st.flatMap FW.cells:=by
  rw [aC,Wh];rfl
 have SJ:(s.Au w size now).st.length=s.st.length:=List.length_set;have abc:(s.Au w size now).dX=s.dX:=rfl;have abd:(s.Au w size now).cur=s.cur:=rfl;rw [abb];refine aY (lj g p retry (n+1) (s.Au w size now)::R) rfl (cn ?_ (l5 Nf)) ⟨rfl,rfl⟩;dsimp only [py,eM.cells,lh];rw [abc,abd,BN,SJ,rL];exact zE
end Go.Proofs
namespace Go.Bs
theorem dZ.cM {L L':List cK} {g o:Nat} {cs:List Value} (h:dZ L' g o cs) (f:cB L L'):dZ L g o cs:=fun j u hj=>(h j u hj).cM f
end Go.Bs
namespace Go.Proofs
open Go.Bs
attribute [local irreducible] Bs.cE Bs.Do Bs.O Bs.W Bs.Fin Bs.A Bs.Ct Bs.cF Bs.Rd Bs.Sat Bs.cL Bs.Ob Bs.dJ Bs.View Bs.cB Bs.Ex Bs.dH Bs.Pu Bs.eZ Bs.dO Bs.dZ
theorem KV:vH.sig.fits:=⟨fun x hx=>absurd hx aO,fun x hx=>absurd hx aO⟩
theorem cQ.ok.abe {s:cQ} {k n:Nat} (h:s.ok k n):s.dX.sig.fits:=by
 unfold cQ.dX
 cases hc:s.cur with
 | none=>exact KV
 | some c=>exact (h.cur c hc).2.fits
abbrev rE:TypeId:=87
abbrev I4:List Value:=dT vH nY nY nY
theorem H2 (R:List cK) (e:World) (g:Nat) (p:jH) (retry n:Nat) (s:cQ) :
 Ct Tryz.prog 175 #[pt g] e (lj g p retry n s::R) (fun v' L'=>∃ (N:cK) (ur up uq:Value),v'=.tuple #[.agg (dT s.dX ur up uq).toArray,.bool s.cur.isSome]∧fj [N] ur up uq s.dX∧L'=N::lj g p retry n s::R):=by
 refine vL fun a M ha=>?_
 refine bI (args:=[_]) Tryz.func175 rfl Tryz.ntmps175 Tryz.results175 rfl ?_
 (repeat (refine wA ?_;intros))
 rename_i g2;refine bk (id:=1) [10] (py g p retry s a M R) Tryz.mixed ?_
 (refine tM 0 ?_;refine tN 1 ?_;refine tF 2 ?_;refine tk 3 _ rfl (cE.dh rfl zP zI zX) ?_;refine tM 5 ?_;refine tN 6 ?_;refine tF 7 ?_;refine tL 8 ?_)
 refine tO 4 ?_;refine bg rfl rfl (gS _ e a.ur a.up a.uq s.dX (ha.cur.cM (cH zP)) ha.st.abe) ?_;rintro _ _ ⟨N,ur,up,uq,rfl,hN,rfl⟩;refine ⟨fun _=>zE,?_⟩;refine A.cC (cz (hN.root.cM (cH zP))) fun o8=>?_
 refine A.cC (hN.sig.cM (cH zP)).parts.one fun o9=>?_
 refine A.cC (hN.sig.cM (cH zP)).path.one fun Na=>?_
 refine tO 9 ?_;refine zg ?_;refine ⟨fun _=>zE,?_⟩
 ((refine tO 10 ?_;refine dV (bj rfl) ?_))
 refine bf zK ?_;refine wB ?_;apply br
 ·exact zV
 exact ⟨N::lj g p retry n s::R,cn (show cB _ (N::py g p retry s a M R) from zE) (bh (l5 ha)),N,ur,up,uq,rfl,hN,rfl⟩
theorem Fp (R:List cK) (e:World) (g:Nat) (p:jH) (retry n:Nat) (s:cQ) :
 Ct Tryz.prog 182 #[pt g] e (lj g p retry n s::R) (fun v' L'=>(s.dl=[]→v'=.tuple #[.agg I4.toArray,nY,.bool false]∧L'=lj g p retry n s::R)∧(s.dl≠[]→∃ (N:cK) (ur up uq vg:Value),v'=.tuple #[.agg (dT s.done ur up uq).toArray,vg,.bool true]∧fj [N] ur up uq s.done∧pa [N] vg s.dl∧L'=N::lj g p retry n s::R)):=by
 refine vL fun a M ha=>?_
 have Fh:=ha.pr.fG;have VC:=ha.st.KI;obtain ⟨ts,fB,Ue,J6⟩:=ha.dl;have oH:ts.length=s.dl.length:=by rw [← fB,ab]
 refine a7 ((Ue.cM (show cB (py g p retry s a M R) [M] from cH zP)).shape zo) ?_;rintro ⟨⟨DI,cg,J9,h3,h4,h5,h6⟩,_⟩;simp only [maxLen] at h4
 rw [J9] at Ue
 have xN:py g p retry s a M R=cL g (lG p a.vl a.vw++[.int .i64 (retry:Int),pt a.ga,.slice a.al s.st.length a.cl]++dT s.dX a.ur a.up a.uq++[.bool s.cur.isSome,.slice a.ak a.ts.length a.ck]++dT s.done a.dr a.dp a.dq++[.slice DI ts.length cg]) sX (0,0)::M::lh (.slice a.al s.st.length a.cl) s.st::fU (.slice a.ak a.ts.length a.ck) a.ts::sG a.ga s.ord s.ag::R:=by
  dsimp only [py,eM.cells];rw [J9]
 have gB:=l5 (R:=R) (g:=g) ha;rw [xN] at gB ⊢
 refine bI (args:=[_]) Tryz.func182 rfl Tryz.ntmps182 Tryz.results182 rfl ?_
 by_cases he:s.dl=[]
 ·have u7:ts.length=0:=by rw [oH,he];rfl
  rw [u7] at gB ⊢
  (repeat (refine wA ?_;intros))
  apply br
  ·exact zV
  exact ⟨lj g p retry n s::R,cn zE gB,fun _=>⟨rfl,rfl⟩,fun h=>absurd he h⟩
 have oR:0<ts.length:=by rw [oH];exact List.length_pos_iff.2 he
 (repeat (refine wA ?_;intros))
 rename_i g2;refine bq (ι:=Nat × List jo × cK × Option Addr × Nat) (fun j=>[(0,pt g),(2,pt g2),(5,.slice j.2.2.2.1 j.2.1.length j.2.2.2.2),(18,.slice DI ts.length cg),(19,.int .i64 (ts.length:Int)),(20,.int .i64 (j.1:Int))]) (fun j=>fU (.slice j.2.2.2.1 j.2.1.length j.2.2.2.2) j.2.1::j.2.2.1::cL g2 I4 rE (0,0)::cL g (lG p a.vl a.vw++[.int .i64 (retry:Int),pt a.ga,.slice a.al s.st.length a.cl]++dT s.dX a.ur a.up a.uq++[.bool s.cur.isSome,.slice a.ak a.ts.length a.ck]++dT s.done a.dr a.dp a.dq++[.slice DI ts.length cg]) sX (0,0)::M::lh (.slice a.al s.st.length a.cl) s.st::fU (.slice a.ak a.ts.length a.ck) a.ts::sG a.ga s.ord s.ag::R) (fun j=>j.1≤ts.length∧j.2.1.map (·.1)=s.dl.take j.1∧∀ t∈j.2.1,jo.ok [j.2.2.1] t) (fun j=>ts.length - j.1) (0,[],cI [],none,0) ⟨aH _,rfl,fun t ht=>by cases ht⟩ zS (cn (dM) (cn (du nH 4) zE)) ?_;rintro ⟨k,us,Mx,m9,cu⟩ ⟨hk,hZ,SE⟩;dsimp only at hk hZ SE ⊢
 have LC:us.length=k:=by have:=congrArg List.length hZ;rw [ab,aF] at this;omega
 by_cases cP:k<ts.length
 rotate_left
 ·rw [aG zo] at hZ
  (repeat' first|refine Za ?_|apply Zc|apply Zd|apply Ze|apply Zf|refine Zg ?_|refine Zh ?_|refine ZB ?_|refine YA ?_|apply YD|apply YG|apply YJ|(apply O.dh;exact rfl;exact zP;(first|(simp only [aC,Nat.add_zero,Nat.reduceAdd,List.drop_succ_cons,List.drop_zero,List.take_succ_cons,List.take_zero];done)|(simp only [aC,Nat.add_zero,Nat.reduceAdd,List.drop_succ_cons,List.drop_zero,List.take_succ_cons,List.take_zero];exact rfl));exact rfl;exact rfl))
  refine aZ rfl rfl (gS _ e a.dr a.dp a.dq s.done (ha.done.cM (cH zP)) ha.st.M5) ?_;rintro _ _ ⟨N,ur,up,uq,rfl,hN,rfl⟩;refine bn (cz (hN.root.cM (cH zP))) fun o8=>?_
  refine bn (hN.sig.cM (cH zP)).parts.one fun o9=>?_
  refine bn (hN.sig.cM (cH zP)).path.one fun Na=>?_
  have ho:cB [dH [N,fU (.slice m9 us.length cu) us,Mx]] [N,fU (.slice m9 us.length cu) us,Mx]:=cU (M:=[_,_,_]) (L:=[]);refine wB ?_;apply br
  ·exact zV
  refine ⟨dH [N,fU (.slice m9 us.length cu) us,Mx]::lj g p retry n s::R,cn (rb (A:=N) (B:=fU (.slice m9 us.length cu) us) (C:=Mx) zP zP zP) (bh (cn zE gB)),fun h=>absurd h he,fun _=>⟨_,ur,up,uq,.slice m9 us.length cu,rfl,hN.cM (cn ho (cH .zero)),pa.cM ⟨us,hZ,bb (.succ .zero),fun t ht=>(SE t ht).cM (cH zP)⟩ ho,rfl⟩⟩
 rcases h6 with h6|⟨gg,og,rfl⟩
 ·omega
 have G5:dZ [M] gg (og+k*4) (jo.cells (ts[k]'cP)):=dZ.elem Ue jo.len (ae cP);have ju:=J6 _ (ax cP);have zf:k<s.dl.length:=by omega
 have EQ:(ts[k]'cP).1=s.dl[k]'zf:=by
  have:=congrArg (fun l=>l[k]?) fB;simp only [aL,ae cP,ae zf,Option.map_some,Option.some.injEq] at this
  exact this
 have fq:s.dl.take (k+1)=s.dl.take k++[s.dl[k]'zf]:=aD zf;have JX:=(ha.st.dl _ (ax zf)).2.fits;rw [← EQ] at fq JX
 generalize ts[k]'cP=y at *
 obtain ⟨⟨w,sg⟩,vp,QT⟩:=y;obtain ⟨t1,t2⟩:=ju;dsimp only at t1 t2 JX fq G5
 refine bD (t1.cM (cH zP)).parts.one fun V4=>?_
 refine bD (t1.cM (cH zP)).path.one fun XF=>?_
 dsimp only [jo.cells] at G5
 have abf:∀ (L R':List cK),cR L M R'→dZ L gg (og+k*4) (iB ⟨w,sg⟩ vp QT):=fun L R' pl=>G5.cM (cH pl)
 (repeat' first|(refine O.dx rfl (abf _ _ zP) rfl rfl ?_)|refine Za ?_|apply Zc|apply Zd|apply Ze|apply Zf|refine Zj ?_|refine ZA ?_|refine Yh fun _=>?_|refine Yx ?_|refine Yz ?_|apply YB|apply YC|refine YR ?_|fail)
 refine aZ rfl rfl (pb _ e vp QT ⟨w,sg⟩ (t1.cM (cH zP)) JX) ?_;rintro _ _ ⟨N2,wp,wq,rfl,ns,rfl⟩;refine bn (ns.cM (cH zP)).parts.one fun o13=>?_
 refine bn (ns.cM (cH zP)).path.one fun o14=>?_
 (repeat (refine wA ?_;intros))
 refine bC (bo rfl rfl rfl (show cR _ (fU (.slice m9 us.length cu) us) _ from zP) (bP (n:=4) (c:=1) zP rfl zl) rfl rfl zO zm zo fun ei k1 _=>?_)
 refine wB ?_;have eU:cB [dH [Mx,N2]] [Mx]:=cn (cU (M:=[_,_]) (L:=[])) (bh bG);have iJ:cB [dH [Mx,N2]] [N2]:=cn (cU (M:=[_,_]) (L:=[])) (cB.drop (bh bG));refine bi (k+1,us++[(⟨w,sg⟩,wp,wq)],dH [Mx,N2],ei,k1) ⟨cP,by dsimp only;rw [fq,ah,hZ];rfl,fun t ht=>?_⟩ zd ?_ ?_
 ·rcases aJ.1 ht with ht|ht
  ·exact (SE t ht).cM eU
  ·rw [an.1 ht];exact ⟨ns.cM iJ,t2⟩
 ·simp only [aa,aj];exact zS
 ·simp only [fU,aa,aj,aW,aT,List.flatMap_nil,aK];exact cn (ea (A:=Mx) (B:=N2) zP zP) zE
end Go.Proofs
