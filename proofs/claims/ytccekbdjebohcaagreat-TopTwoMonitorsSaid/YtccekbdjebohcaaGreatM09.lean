/- Part 9 of a proof of this: TopTwoMonitors returns true for any arguments; nothing of the old memory is turned. No condition. -/
import Derived.Test.YtccekbdjebohcaaGreatM08
set_option linter.unusedVariables false
set_option linter.unusedSimpArgs false
namespace Go.Proofs
attribute [local irreducible] Bs.cE Bs.Do Bs.O Bs.W Bs.Fin Bs.A Bs.Ct Bs.cF Bs.Rd Bs.Sat Bs.cM Bs.Ob Bs.dJ Bs.View Bs.cC Bs.Ex Bs.dI Bs.Pu Bs.eZ Bs.dK Bs.eh
open Go.Bs
open Tryz
variable (R:List cK) (e:World)
abbrev AE.cells (a:AE):List Value:=[.int .i64 (a.iB:Int),.int .i64 (a.ord:Int),.int .i64 (a.ik:Int)]
abbrev Cu:TypeId:=377
abbrev UH:TypeId:=364
abbrev qd:TypeId:=379
abbrev nt (v:Value) (l:List AE):cK:=dJ Cu 3 v l.length (l.flatMap AE.cells)
theorem Cv (a:AE):a.cells.length=3:=rfl
theorem UI {l:List AE}:∀ c∈l.flatMap AE.cells,c.oneCell'=true:=rv fun a _ c hc=>by
 simp only [AE.cells,aQ,aO,or_false] at hc
 rcases hc with rfl|rfl|rfl<;>rfl
theorem GO {l:List AE} {i:Nat} {a:AE} (h:i<l.length):(l.flatMap AE.cells).take (i*3)++a.cells++(l.flatMap AE.cells).drop (i*3+a.cells.length)=(l.set i a).flatMap AE.cells:=by
 rw [Cv,show i*3+3=(i+1)*3 by omega,mv Cv,wX Cv,List.set_eq_take_append_cons_drop,aH h,aW,aV,aM]
theorem l6 {l:List AE} {i:Nat} (h:i<l.length):l.getD i j9=l[i]'h:=by simp [List.getD,h]
theorem Qy {n:Nat} (h:n≤1000000000):prog.keyLits 1 3 [.int .i64 (n:Int)]=some [.int .i64 (n:Int)]:=by
 simp only [Program.keyLits,underlying3];rw [aH ⟨trivial,by simp [Lit.wf,IntKind.min,IntKind.max,IntKind.signed,IntKind.bits];omega⟩]
theorem O9 (a:AE) (h:a.fits):prog.keyLits 2 Cu (Value.agg a.cells.toArray).cells.toList=some [.int .i64 (a.iB:Int),.int .i64 (a.ord:Int),.int .i64 (a.ik:Int)]:=by
 have h1:prog.keyLits 2 Cu (Value.agg a.cells.toArray).cells.toList=Option.map List.flatten ((prog.keyLits 1 3 [.int .i64 (a.iB:Int)]).bind fun x=>(prog.keyLits 1 3 [.int .i64 (a.ord:Int)]).bind fun y=>(prog.keyLits 1 3 [.int .i64 (a.ik:Int)]).bind fun z=>some [x,y,z]):=by kernel_rfl
 rw [h1,Qy h.1,Qy h.2.1,Qy h.2.2]
 rfl
theorem WH (a b:AE) (ha:a.fits) (hb:b.fits) (x y:Operand):∀ w,∃ r:Bool,((do eqGuard .eql Cu x y (.agg a.cells.toArray) (.agg b.cells.toArray);binOp .eql Cu (.agg a.cells.toArray) (.agg b.cells.toArray)):Sem Value).run prog w=.ok (.bool r) w:=fun w=>by
 have h1:(eqGuard .eql Cu x y (.agg a.cells.toArray) (.agg b.cells.toArray)).run prog w=.ok () w:=by kernel_rfl
 obtain ⟨r,hr,-⟩:=run_equalIn_deep (P:=prog) 9990 10 Cu zK w 2 2 (.agg a.cells.toArray) (.agg b.cells.toArray) _ _ zK zK (O9 a ha) (O9 b hb);have KT:(Op.equal Cu (.agg a.cells.toArray) (.agg b.cells.toArray)).run prog w=.ok r w:=hr;refine ⟨r,?_⟩;rw [Sem.run_bind,h1];simp only [Result.andThen_ok,binOp];rw [Sem.run_bind,KT]
 rfl
instance : cJ prog 339 339:=⟨call339⟩
theorem Eu (a b:AE) (ha:a.fits) (hb:b.fits) :
 Ct prog 339 #[.agg a.cells.toArray,.agg b.cells.toArray] e R (fun v' L'=>∃ z:Int,v'=.int .i64 z∧decide (z<0)=a.lt b∧R=L'):=by
 refine a8 (args:=[_,_]) func339 rfl ntmps339 results339 rfl ?_;have cQ:a.lt b=decide (a.iB<b.iB∨(a.iB=b.iB∧a.ord<b.ord)):=rfl
 (repeat' first|refine Za ?_|refine Zb ?_|apply Zc|apply Zd|apply Ze|apply Zf|refine Zh ?_|refine Zi ?_|refine Zj ?_|refine Zl ?_|refine Zm ?_|refine Zn ?_|refine Zo ?_|refine ZC (fun _=>?_) fun _=>?_|refine ZO (fun _=>?_) fun _=>?_|refine Yg fun _=>?_|refine Yz ?_|refine YA ?_|apply YB|apply YE|apply YF|apply YI)
 all_goals first
  | (exact aY R rfl zE ⟨-1,rfl,by rw [cQ,ay zo,ay zo],rfl⟩)
  | (
   refine bD (Do.Qw (WH a b ha hb _ _) rfl rfl rfl fun q=>?_)
   (repeat' first|(refine W.cond rfl ?_ ?_<;>intro _)|refine Zb ?_|apply Zc|apply Zd|apply Ze|apply Zf|apply YC|apply YE|apply YF|apply YH|apply YI)
   all_goals first
    | exact aY R rfl zE ⟨0,rfl,by rw [cQ,aq zo,aq zo],rfl⟩
    | exact aY R rfl zE ⟨1,rfl,by rw [cQ,aq zo,aq zo],rfl⟩)
theorem oP {v:Value} {l:List AE} {L R:List cK} (p:cT L (nt v l) R):∀ h,dK L h→∃ ad c,v=.slice ad l.length c∧l.length≤c∧c≤maxLen∧((ad=none∧c=0∧l.length=0)∨∃ g,ad=some ⟨g,0,none⟩):=fun h hs=>(gx p h hs).1
theorem JJ (ad:Option Addr) (n c:Nat) :
 Ct prog 336 #[.slice ad n c] e R (fun v' L'=>v'=.int .i64 (n:Int)∧R=L'):=by
 refine a8 (args:=[_]) func336 rfl ntmps336 results336 rfl ?_;refine wB ?_;exact aY R rfl zE ⟨rfl,rfl⟩
theorem GP (v:Value) (l:List AE) (i j:Nat) (hv:cF R 3 v l.length (l.flatMap AE.cells)) (hf:∀ a∈l,a.fits) (hi:i<l.length) (hj:j<l.length) :
 Ct prog 337 #[v,.int .i64 (i:Int),.int .i64 (j:Int)] e R (fun v' L'=>v'=.bool ((l.getD i j9).lt (l.getD j j9))∧R=L'):=by
 refine a7 (cF.shape hv zo) ?_;rintro ⟨⟨ad,c,rfl,h3,h4,h5,h6⟩,_⟩;rcases h6 with h6|⟨g,o,rfl⟩
 ·omega
 rw [l6 hi,l6 hj];have f1:=hf _ (az hi);have f2:=hf _ (az hj);have r1:eh R g (o+i*3) (l[i]'hi).cells:=eh.elem hv Cv (ae hi);have r2:eh R g (o+j*3) (l[j]'hj).cells:=eh.elem hv Cv (ae hj)
 generalize l[i]'hi=a at *
 generalize l[j]'hj=b at *
 refine a8 (args:=[_,_,_]) func337 rfl ntmps337 results337 rfl ?_;refine wB ?_;refine bl (id:=1) [10] R mixed ?_
 (refine tM 0 ?_;refine tM 1 ?_;refine tk 2 _ rfl (cE.dQ rfl rfl zo) ?_;refine tJ 3 ?_;refine tM 4 ?_;refine tM 5 ?_;refine tk 6 _ rfl (cE.dQ rfl rfl zo) ?_;refine tJ 7 ?_)
 refine tO 8 ?_;refine bg rfl rfl (Eu _ e a b f1 f2) ?_;rintro _ _ ⟨z,rfl,hz,rfl⟩;refine ⟨fun _=>zE,?_⟩;rw [← hz]
 (all_goals ((refine A.M8 9 rfl zK zE (cE.lss rfl rfl) rfl ?_ ?_<;>intro _));all_goals ((refine tO 10 ?_;refine dV (bj rfl) ?_)))
 all_goals refine bf zK ?_
 all_goals refine wB ?_
 all_goals first
  | exact aY R rfl zE ⟨by rw [ay (by assumption)];rfl,rfl⟩
  | exact aY R rfl zE ⟨by rw [aq (by assumption)];rfl,rfl⟩
theorem GQ (ad:Option Addr) (c:Nat) (l:List AE) (i j:Nat) (hi:i<l.length) (hj:j<l.length) :
 Ct prog 338 #[.slice ad l.length c,.int .i64 (i:Int),.int .i64 (j:Int)] e (nt (.slice ad l.length c) l::R) (fun v' L'=>v'=.tuple #[]∧L'=nt (.slice ad l.length c) (gK l i j)::R):=by
 refine a7 (oP .zero) ?_;rintro ⟨lE,c',hv,h3,h4,h5⟩
 cases hv
 rcases h5 with ⟨-,-,h5⟩|⟨g,rfl⟩
 ·omega
 have r1:∀ L,cF L 3 (.slice (some ⟨g,0,none⟩) l.length c) l.length (l.flatMap AE.cells)→eh L g (0+i*3) (l[i]'hi).cells:=fun L hv=>eh.elem hv Cv (ae hi)
 have r2:∀ L,cF L 3 (.slice (some ⟨g,0,none⟩) l.length c) l.length (l.flatMap AE.cells)→eh L g (0+j*3) (l[j]'hj).cells:=fun L hv=>eh.elem hv Cv (ae hj)
 have r3:=r1 _ (ba (show cT (nt (.slice (some ⟨g,0,none⟩) l.length c) l::R) (nt (.slice (some ⟨g,0,none⟩) l.length c) l) R from .zero));have r4:=r2 _ (ba (show cT (nt (.slice (some ⟨g,0,none⟩) l.length c) l::R) (nt (.slice (some ⟨g,0,none⟩) l.length c) l) R from .zero));clear r1 r2;have hsw:gK l i j=(l.set i (l[j]'hj)).set j (l[i]'hi):=by unfold gK;rw [l6 hi,l6 hj]
 rw [hsw];have fy:=GO (a:=l[j]'hj) hi;have kY:=GO (l:=l.set i (l[j]'hj)) (i:=j) (a:=l[i]'hi) (by rw [List.length_set];exact hj);have qL:(l.set i (l[j]'hj)).length=l.length:=List.length_set;have qs:((l.set i (l[j]'hj)).set j (l[i]'hi)).length=l.length:=by simp
 generalize l[i]'hi=a at *
 generalize l[j]'hj=b at *
 refine a8 (args:=[_,_,_]) func338 rfl ntmps338 results338 rfl ?_;have UJ:∀ x:AE,∀ v∈x.cells,v.oneCell'=true:=fun x v hv=>by simp only [AE.cells,aQ,aO,or_false] at hv;rcases hv with rfl|rfl|rfl<;>rfl
 refine bl (id:=0) [14,15] R mixed ?_
 (refine tM 0 ?_;refine tM 1 ?_;refine tM 2 ?_;refine tM 3 ?_;refine tM 4 ?_;refine tM 5 ?_;refine tk 6 _ rfl (cE.dQ rfl rfl zo) ?_)
 refine tM 8 ?_;refine tM 9 ?_;refine tk 10 _ rfl (cE.dQ rfl rfl hi) ?_;refine A.two 7 11 rfl rfl rfl rfl zK ?_ ?_
 ·refine bP (cE.dD rfl r4 rfl) rfl ⟨fun _=>zE,?_⟩;refine tO 11 ?_;refine bP (cE.dD rfl r3 rfl) rfl ⟨fun _=>zE,?_⟩;refine tO 12 ?_;refine bP (cE.dQ rfl rfl hi) rfl ⟨fun _=>zE,?_⟩;refine tO 13 ?_;refine Do.nW rfl rfl rfl (UJ _) .zero (by simp only [Cv];omega) ⟨fun _=>zE,?_⟩;rw [aC,fy];refine tO 14 ?_;refine bP (cE.dQ rfl rfl hj) rfl ⟨zN,?_⟩;refine tO 15 ?_;refine Do.nW rfl rfl rfl (UJ _) .zero (by simp only [Cv];omega) ⟨zN,?_⟩;rw [aC,kY];refine bf zK ?_;refine bX (nt (.slice (some ⟨g,0,none⟩) l.length c) ((l.set i b).set j a)::R) rfl ?_ ⟨rfl,rfl⟩;simp only [nt,qs];exact zE
 ·refine bP (cE.dD rfl r3 rfl) rfl ⟨fun _=>zE,?_⟩;refine tO 7 ?_;refine bP (cE.dD rfl r4 rfl) rfl ⟨fun _=>zE,?_⟩;refine tO 12 ?_;refine bP (cE.dQ rfl rfl hi) rfl ⟨fun _=>zE,?_⟩;refine tO 13 ?_;refine Do.nW rfl rfl rfl (UJ _) .zero (by simp only [Cv];omega) ⟨fun _=>zE,?_⟩;rw [aC,fy];refine tO 14 ?_;refine bP (cE.dQ rfl rfl hj) rfl ⟨zN,?_⟩;refine tO 15 ?_;refine Do.nW rfl rfl rfl (UJ _) .zero (by simp only [Cv];omega) ⟨zN,?_⟩;rw [aC,kY];refine bf zK ?_;refine bX (nt (.slice (some ⟨g,0,none⟩) l.length c) ((l.set i b).set j a)::R) rfl ?_ ⟨rfl,rfl⟩;simp only [nt,qs];exact zE
theorem GR {P:Program} (w:World) (t:TypeId) (p:Addr) (name:String):(Builtin.ssaWrapNilChk_ #[t] t #[.pointer (some p),strVal "",strVal name]).run P w=.ok (.pointer (some p)) w:=rfl
theorem mK {P:Program} {t el:TypeId} {name:String} {sig f:Nat} {p:Addr} {v:Value} (hm:((P.info? t).bind fun i=>i.methods.find? (·.name == name))=some ⟨name,sig,#[],some (f,false)⟩) (hu:P.underlying t=some (.pointer el)) (Hv:∀ w,(isAgg el).run P w=.ok false w) (n:Nat) (w:World) (h:w.cell? p=some v) :
 (Go.method (n+1) t (.pointer (some p)) name).run P w=.ok (f,v) w:=by
 cases hi:P.info? t with
 | none=>rw [hi] at hm;cases hm
 | some i =>
  rw [hi] at hm
  simp only [Option.bind_some] at hm
  simp [Go.method,run_typeInfo w hi,hm,follow,receiverAt,run_underlying hu,Place.get,GR,asAddr,loadVar,Hv,h]
theorem kC {P:Program} {t:TypeId} {name:String} {f:Nat} {u v:Value} {w:World} (h:(Go.method (P.types.size+99+1) t u name).run P w=.ok (f,v) w) (hc:∀ args w,(callFunc f args).run P w=.ok (.enter f args) w) (xs:List Value) :
 (Go.invoke (.fn (.method name) #[]) (.iface t u::xs).toArray).run P w=.ok (.enter f (v::xs).toArray) w:=by
 have h1:(Go.invoke (.fn (.method name) #[]) (.iface t u::xs).toArray).run P w=(callMethod (.iface t u) name ((.iface t u::xs).toArray.extract 1 (.iface t u::xs).toArray.size)).run P w:=rfl;rw [h1];have h2:(.iface t u::xs).toArray.extract 1 (.iface t u::xs).toArray.size=xs.toArray:=by simp
 rw [h2];have h3:Made.depth=99+1:=rfl;simp only [callMethod,Sem.run_bind,run_program,Result.andThen_ok,h3,← Nat.add_assoc];rw [h];simp only [Result.andThen_ok,hc]
 simp
theorem Qz (w:World) (p:Addr) (v:Value) (h:w.cell? p=some v):(Go.invoke (.fn (.method "Len") #[]) #[.iface qd (.pointer (some p))]).run prog w=.ok (.enter 336 #[v]) w:=by
 have h1:=mK (P:=prog) (t:=qd) (el:=362) (name:= "Len") (sig:=36) (f:=336) zK underlying379 isAgg362 (prog.types.size+99) w h;exact kC h1 call336 []
theorem N0 (w:World) (p:Addr) (v x y:Value) (h:w.cell? p=some v):(Go.invoke (.fn (.method "Less") #[]) #[.iface qd (.pointer (some p)),x,y]).run prog w=.ok (.enter 337 #[v,x,y]) w:=by
 have h1:=mK (P:=prog) (t:=qd) (el:=362) (name:= "Less") (sig:=406) (f:=337) zK underlying379 isAgg362 (prog.types.size+99) w h;exact kC h1 call337 [x,y]
theorem N1 (w:World) (p:Addr) (v x y:Value) (h:w.cell? p=some v):(Go.invoke (.fn (.method "Swap") #[]) #[.iface qd (.pointer (some p)),x,y]).run prog w=.ok (.enter 338 #[v,x,y]) w:=by
 have h1:=mK (P:=prog) (t:=qd) (el:=362) (name:= "Swap") (sig:=331) (f:=338) zK underlying379 isAgg362 (prog.types.size+99) w h;exact kC h1 call338 [x,y]
theorem N3 (w:World) (p:Addr) (x:Value):(Go.invoke (.fn (.method "Push") #[]) #[.iface qd (.pointer (some p)),x]).run prog w=.ok (.enter 341 #[.pointer (some p),x]) w:=by kernel_rfl
theorem QB (w:World) (p:Addr):(Go.invoke (.fn (.method "Pop") #[]) #[.iface qd (.pointer (some p))]).run prog w=.ok (.enter 340 #[.pointer (some p)]) w:=by kernel_rfl
abbrev pe (g:Nat):Value:=.iface qd (pt g)
abbrev lx (g:Nat) (ad:Option Addr) (c o:Nat) (l:List AE) (R:List cK):List cK:=cM g [.slice ad l.length c,.int .i64 (o:Int)] UH (0,0)::nt (.slice ad l.length c) l::R
theorem Do.Cw {N:Fr} {σ:Env} {e:World} {x:Operand} {d:Tmp} {pos:String} {af:Array Edge} {gd:Option (Nat × Bool)} {ty:TypeId} {K:Env→List cK→Prop} {g:Nat} {ad:Option Addr} {c o:Nat} {l:List AE} {R:List cK} {ats:Array TypeId}
 (h0:ev σ x=some (pe g)) (hd:Nat.blt d N.n=true) (k:K ((d,.int .i64 (l.length:Int))::σ) (lx g ad c o l R)) :
 Do prog N ⟨some d,.call { callee:=.invoke x "Len",args:=#[],argTypes:=ats },ty,pos,af,gd⟩ K σ e (lx g ad c o l R) :=
 Do.invoke (xs:=[]) (vs:=[]) h0 rfl hd (fun w hs=>Qz w _ _ ((bR .zero rfl).at hs)) (JJ _ e ad l.length c) (by rintro _ _ ⟨rfl,rfl⟩;exact k)
theorem Do.qe {N:Fr} {σ:Env} {e:World} {x y z:Operand} {d:Tmp} {pos:String} {af:Array Edge} {gd:Option (Nat × Bool)} {ty:TypeId} {K:Env→List cK→Prop} {g:Nat} {ad:Option Addr} {c o:Nat} {l:List AE} {R:List cK} {ats:Array TypeId} {i j:Nat}
 (hf:∀ a∈l,a.fits) (h0:ev σ x=some (pe g)) (hy:ev σ y=some (.int .i64 (i:Int))) (hz:ev σ z=some (.int .i64 (j:Int))) (hd:Nat.blt d N.n=true) (hi:i<l.length) (hj:j<l.length) (k:K ((d,.bool ((l.getD i j9).lt (l.getD j j9)))::σ) (lx g ad c o l R)) :
 Do prog N ⟨some d,.call { callee:=.invoke x "Less",args:=#[y,z],argTypes:=ats },ty,pos,af,gd⟩ K σ e (lx g ad c o l R) :=
 Do.invoke (xs:=[y,z]) (vs:=[.int .i64 (i:Int),.int .i64 (j:Int)]) h0 (by simp only [py,hy,hz]) hd (fun w hs=>N0 w _ _ _ _ ((bR .zero rfl).at hs)) (GP _ e _ l i j (ba (.succ .zero)) hf hi hj) (by rintro _ _ ⟨rfl,rfl⟩;exact k)
theorem Do.yy {N:Fr} {σ:Env} {e:World} {x y z:Operand} {d:Tmp} {pos:String} {af:Array Edge} {gd:Option (Nat × Bool)} {ty:TypeId} {K:Env→List cK→Prop} {g:Nat} {ad:Option Addr} {c o:Nat} {l:List AE} {R:List cK} {ats:Array TypeId} {i j:Nat}
 (h0:ev σ x=some (pe g)) (hy:ev σ y=some (.int .i64 (i:Int))) (hz:ev σ z=some (.int .i64 (j:Int))) (hd:Nat.blt d N.n=true) (hi:i<l.length) (hj:j<l.length) (k:K ((d,.tuple #[])::σ) (lx g ad c o (gK l i j) R)) :
 Do prog N ⟨some d,.call { callee:=.invoke x "Swap",args:=#[y,z],argTypes:=ats },ty,pos,af,gd⟩ K σ e (lx g ad c o l R) :=
 Do.invoke (xs:=[y,z]) (vs:=[.int .i64 (i:Int),.int .i64 (j:Int)]) (Post:=fun v L'=>v=.tuple #[]∧L'=lx g ad c o (gK l i j) R) h0 (by simp only [py,hy,hz]) hd (fun w hs=>N1 w _ _ _ _ ((bR .zero rfl).at hs))
  ((
   Ct.at (.succ .zero) (GQ (cM g [.slice ad l.length c,.int .i64 (o:Int)] UH (0,0)::R) e ad c l i j hi hj)).RR (by
   rintro _ _ ⟨rfl,rfl⟩;refine ⟨_,cn ?_ aX,rfl,rfl⟩;simp only [lx,dH];exact zE)) (by rintro _ _ ⟨rfl,rfl⟩;exact k)
theorem LY (g:Nat) (ad:Option Addr) (c o:Nat) (l:List AE) (j:Nat) (hf:∀ a∈l,a.fits) (hj:j<l.length) (hl:l.length≤1000000) :
 Ct prog 314 #[pe g,.int .i64 (j:Int)] e (lx g ad c o l R) (fun v' L'=>v'=.tuple #[]∧L'=lx g ad c o (MW j l j) R):=by
 refine a8 (args:=[_,_]) func314 rfl ntmps314 results314 rfl ?_;obtain ⟨fin,kE⟩:∃ f,f=MW j l j:=⟨_,rfl⟩
 rw [← kE]
 (repeat (refine wA ?_;intros))
 refine br (ι:=Nat × List AE × Nat) (fun i=>[(0,pe g),(1,.int .i64 (i.1:Int))]) (fun i=>lx g ad c o i.2.1 R) (fun i=>i.1<i.2.1.length∧i.2.1.length=l.length∧(∀ a∈i.2.1,a.fits)∧i.1≤i.2.2∧MW i.2.2 i.2.1 i.1=fin) (fun i=>i.1) (j,l,j) ⟨hj,rfl,hf,aT _,kE.symm⟩ zS zE ?_;rintro ⟨j,l',n⟩ ⟨h1,h2,h3,h4,h5⟩;dsimp only at h1 h2 h3 h4 h5 ⊢
 by_cases Zv:j=0
 ·subst Zv
  have Tr:l'=fin:=by
   rw [← h5]
   cases n with
   | zero=>rfl
   | succ n=>unfold MW;rw [aH rfl]
  have hq:IntKind.i64.wrap ((((0:Nat):Int) - 1).tdiv 2)=((0:Nat):Int):=rfl
  (repeat' first|(refine bC _ (cE.NZ rfl rfl zo hq) rfl ?_)|refine Za ?_|refine Zb ?_|apply Zc|apply Zd|apply Ze|apply Zf|refine Zl ?_|refine Zo ?_|refine ZM ?_|refine ZU ?_|refine Yz ?_|apply YB|apply YD|apply YG|apply YJ|refine YK ?_|fail)
  rw [Tr];exact bX (lx g ad c o fin R) rfl zE ⟨rfl,rfl⟩
 obtain ⟨m,rfl⟩:∃ m,n=m+1:=⟨n - 1,by omega⟩
 have hq:IntKind.i64.wrap (((j:Int) - 1).tdiv 2)=(((j - 1) / 2:Nat):Int):=by
  rw [Int.tdiv_eq_ediv_of_nonneg zo,wrap_i64 zo zo];omega
 have hp:(j - 1) / 2<j:=by omega
 have zi:(if (l'.getD j j9).lt (l'.getD ((j - 1) / 2) j9) then MW m (gK l' ((j - 1) / 2) j) ((j - 1) / 2) else l')=fin:=by rw [← h5];conv=>rhs;unfold MW;rw [aB Zv]
 generalize (j - 1) / 2=p at *
 by_cases cQ:(l'.getD j j9).lt (l'.getD p j9)=true
 ·rw [aH cQ] at zi
  (repeat' first|(refine bC _ (cE.NZ rfl rfl zo hq) rfl ?_)|(refine bD (Do.qe h3 rfl rfl rfl rfl h1 zo ?_);rw [cQ])|refine bD (Do.yy rfl rfl rfl rfl zo h1 ?_)|refine Za ?_|refine Zb ?_|apply Zc|apply Zd|apply Ze|apply Zf|refine Zm ?_|refine Zn ?_|refine Zy ?_|refine ZN ?_|refine ZU ?_|refine YA ?_|apply YB|apply YC|apply YH)
  refine bi (p,gK l' p j,m) ⟨by dsimp only;rw [dH];omega,by dsimp only;rw [dH];exact h2,fun a ha=>h3 a ((kV zo h1).mem_iff.1 ha),by dsimp only;omega,zi⟩ (by dsimp only;exact hp) zS zE
 ·have WJ:(l'.getD j j9).lt (l'.getD p j9)=false:=by simpa using cQ
  rw [aB cQ] at zi
  (repeat' first|(refine bC _ (cE.NZ rfl rfl zo hq) rfl ?_)|(refine bD (Do.qe h3 rfl rfl rfl rfl h1 zo ?_);rw [WJ])|refine Za ?_|refine Zb ?_|apply Zc|apply Zd|apply Ze|apply Zf|refine Zm ?_|refine Zn ?_|refine Zz ?_|refine ZN ?_|refine ZU ?_|refine Yz ?_|apply YB|apply YD|apply YG|apply YJ|refine YK ?_|fail)
  rw [zi];exact bX (lx g ad c o fin R) rfl zE ⟨rfl,rfl⟩
theorem yz (g:Nat) (ad:Option Addr) (c o:Nat) (l:List AE) (i0 n:Nat) (hf:∀ a∈l,a.fits) (hi:i0<l.length) (hn:n≤l.length) (hl:l.length≤1000000) :
 Ct prog 308 #[pe g,.int .i64 (i0:Int),.int .i64 (n:Int)] e (lx g ad c o l R) (fun v' L'=>(∃ b:Bool,v'=.bool b)∧L'=lx g ad c o (lu n l i0 n) R):=by
 refine a8 (args:=[_,_,_]) func308 rfl ntmps308 results308 rfl ?_;obtain ⟨fin,kE⟩:∃ f,f=lu n l i0 n:=⟨_,rfl⟩
 rw [← kE];refine wB ?_;refine br (ι:=Nat × List AE × Nat) (fun i=>[(0,pe g),(1,.int .i64 (i0:Int)),(2,.int .i64 (n:Int)),(7,.int .i64 (i.1:Int))]) (fun i=>lx g ad c o i.2.1 R) (fun i=>i.1<i.2.1.length∧i.2.1.length=l.length∧(∀ a∈i.2.1,a.fits)∧n≤i.1+i.2.2∧lu i.2.2 i.2.1 i.1 n=fin) (fun i=>n - i.1) (i0,l,n) ⟨hi,rfl,hf,by dsimp only;omega,kE.symm⟩ zS zE ?_;rintro ⟨i,l',f⟩ ⟨h1,h2,h3,h4,h5⟩;dsimp only at h1 h2 h3 h4 h5 ⊢
 have abF:∀ b:Bool,∃ b':Bool,(Value.bool b)=.bool b':=fun b=>⟨b,rfl⟩
 by_cases hk:n≤2*i+1
 ·have Tr:l'=fin:=by
   rw [← h5]
   cases f with
   | zero=>rfl
   | succ f=>unfold lu;rw [aH hk]
  rw [Tr]
  (repeat' first|refine Za ?_|refine Zb ?_|apply Zc|apply Zd|apply Ze|apply Zf|refine Zl ?_|refine Zo ?_|refine ZI (fun _=>?_) fun _=>?_|refine ZJ ?_|refine ZS ?_|refine ZW ?_|refine Yz ?_|apply YB|apply YD|apply YE|apply YG|apply YJ|refine YK ?_|fail)
  all_goals exact aY (lx g ad c o fin R) rfl zE ⟨⟨_,rfl⟩,rfl⟩
 obtain ⟨f,rfl⟩:∃ m,f=m+1:=⟨f - 1,by omega⟩
 have zi:(if (l'.getD (yo l' i n) j9).lt (l'.getD i j9) then lu f (gK l' i (yo l' i n)) (yo l' i n) n else l')=fin:=by rw [← h5];conv=>rhs;unfold lu;rw [aB hk]
 have WK:(2:Int)*(i:Int)+1+1=((2*i+2:Nat):Int):=by omega
 have UK:(2:Int)*(i:Int)+1=((2*i+1:Nat):Int):=by omega
 obtain ⟨k,JK⟩:∃ k,k=yo l' i n:=⟨_,rfl⟩
 obtain ⟨k1,k2⟩:=Ck (l:=l') (i:=i) (n:=n) zo;rw [← JK] at zi k1 k2
 unfold yo at JK
 (repeat' first|refine W.oZ (id:=8) (fun _:Unit=>[(0,pe g),(1,.int .i64 (i0:Int)),(2,.int .i64 (n:Int)),(7,.int .i64 (i:Int)),(9,.int .i64 (k:Int))]) (fun _=>lx g ad c o l' R) (fun _=>True) ?_ ?_|refine Za ?_|refine Zb ?_|apply Zc|apply Zd|apply Ze|apply Zf|refine Zm ?_|refine Zn ?_|refine ZB ?_|refine ZK ?_|refine ZS ?_|refine ZW ?_|refine YA ?_|apply YB|apply YC)
 ·rintro _ _
  by_cases cQ:(l'.getD k j9).lt (l'.getD i j9)=true
  ·rw [aH cQ] at zi
   (repeat' first|(refine bD (Do.qe h3 rfl rfl rfl rfl zo h1 ?_);rw [cQ])|refine bD (Do.yy rfl rfl rfl rfl h1 zo ?_)|refine Za ?_|refine Zb ?_|apply Zc|apply Zd|apply Ze|apply Zf|refine Zy ?_|refine YA ?_|apply YC|apply YH)
   refine bi (k,gK l' i k,f) ⟨by dsimp only;rw [dH];omega,by dsimp only;rw [dH];exact h2,fun a ha=>h3 a ((kV h1 zo).mem_iff.1 ha),by dsimp only;omega,zi⟩ zd zS zE
  ·have WJ:(l'.getD k j9).lt (l'.getD i j9)=false:=by simpa using cQ
   rw [aB cQ] at zi
   (repeat' first|(refine bD (Do.qe h3 rfl rfl rfl rfl zo h1 ?_);rw [WJ])|refine Za ?_|refine Zb ?_|apply Zc|apply Zd|apply Ze|apply Zf|refine Zz ?_|refine ZI (fun _=>?_) fun _=>?_|refine Yz ?_|apply YD|apply YE|apply YG|apply YJ|refine YK ?_|fail)
   all_goals rw [zi]
   all_goals exact aY (lx g ad c o fin R) rfl zE ⟨⟨_,rfl⟩,rfl⟩
 ·refine ⟨?_⟩
  by_cases Ts:2*i+2<n
  ·have FN:=fun (N:Fr) (σ:Env) (x y z:Operand) (d:Tmp) (pos:String) (af:Array Edge) (gd:Option (Nat × Bool)) (ty:TypeId) (K:Env→List cK→Prop) (ats:Array TypeId)=>Do.qe (N:=N) (σ:=σ) (e:=e) (x:=x) (y:=y) (z:=z) (d:=d) (pos:=pos) (af:=af) (gd:=gd) (ty:=ty) (K:=K) (g:=g) (ad:=ad) (c:=c) (o:=o) (l:=l') (R:=R) (ats:=ats) (i:=2*i+2) (j:=2*i+1) h3
   by_cases qs:(l'.getD (2*i+2) j9).lt (l'.getD (2*i+1) j9)=true
   ·rw [aH ⟨Ts,qs⟩] at JK
    subst JK;rw [qs] at FN
    (repeat' first|refine O.want rfl ?_|(refine bD (FN _ _ _ _ _ _ _ _ _ _ _ _ rfl (congrArg (fun z=>some (Value.int .i64 z)) WK) (congrArg (fun z=>some (Value.int .i64 z)) UK) rfl zo zo ?_))|refine Za ?_|refine Zb ?_|apply Zc|apply Zd|apply Ze|apply Zf|refine Zl ?_|refine ZA ?_|refine ZS ?_|refine Yz ?_|fail)
    rw [WK];exact bH () trivial zS zE
   ·have ON:(l'.getD (2*i+2) j9).lt (l'.getD (2*i+1) j9)=false:=by simpa using qs
    rw [aB (fun q=>qs q.2)] at JK
    subst JK;rw [ON] at FN
    (repeat' first|refine O.want rfl ?_|(refine bD (FN _ _ _ _ _ _ _ _ _ _ _ _ rfl (congrArg (fun z=>some (Value.int .i64 z)) WK) (congrArg (fun z=>some (Value.int .i64 z)) UK) rfl zo zo ?_))|refine Za ?_|refine Zb ?_|apply Zc|apply Zd|apply Ze|apply Zf|refine Zl ?_|refine ZA ?_|refine ZS ?_|refine YA ?_|apply YC)
    rw [UK];exact bH () trivial zS zE
  ·rw [aB (fun q=>Ts q.1)] at JK
   subst JK;refine wB ?_;rw [UK];exact bH () trivial zS zE
theorem GS (g:Nat) (ad:Option Addr) (c o:Nat) (l:List AE) (hf:∀ a∈l,a.fits) (hl:l.length≤1000000) :
 Ct prog 306 #[pe g] e (lx g ad c o l R) (fun v' L'=>v'=.tuple #[]∧L'=lx g ad c o (tu (l.length / 2) l) R):=by
 refine a8 (args:=[_]) func306 rfl ntmps306 results306 rfl ?_;obtain ⟨fin,kE⟩:∃ f,f=tu (l.length / 2) l:=⟨_,rfl⟩
 rw [← kE]
 have hq:IntKind.i64.wrap ((l.length:Int).tdiv 2)=((l.length / 2:Nat):Int):=by
  rw [Int.tdiv_eq_ediv_of_nonneg zo,wrap_i64 zo zo];omega
 (repeat' first|refine bD (Do.Cw rfl rfl ?_)|(refine bC _ (cE.NZ rfl rfl zo hq) rfl ?_)|refine Za ?_|refine Zb ?_|apply Zc|apply Zd|apply Ze|apply Zf|refine ZU ?_|apply YB)
 refine br (ι:=Nat × List AE) (fun i=>[(0,pe g),(2,.int .i64 (l.length:Int)),(3,.int .i64 ((i.1:Int) - 1))]) (fun i=>lx g ad c o i.2 R) (fun i=>i.1≤l.length∧i.2.length=l.length∧(∀ a∈i.2,a.fits)∧tu i.1 i.2=fin) (fun i=>i.1) (l.length / 2,l) ⟨by dsimp only;omega,rfl,hf,kE.symm⟩ zS zE ?_;rintro ⟨k,l'⟩ ⟨h1,h2,h3,h5⟩;dsimp only at h1 h2 h3 h5 ⊢
 cases k with
 | zero =>
  have Tr:l'=fin:=h5;rw [Tr];refine wB ?_;exact bX (lx g ad c o fin R) rfl zE ⟨rfl,rfl⟩
 | succ k =>
  have hk:((k+1:Nat):Int) - 1=(k:Int):=by omega
  rw [hk];refine wB ?_;refine aZ rfl rfl (yz R e g ad c o l' k l.length h3 zo zo zo) ?_;rintro _ _ ⟨⟨b,rfl⟩,rfl⟩;refine wB ?_;have hp:=mJ l.length l' k l.length zo zo;refine bi (k,lu l.length l' k l.length) ⟨by dsimp only;omega,by dsimp only;rw [hp.length_eq,h2],fun a ha=>h3 a (hp.mem_iff.1 ha),by dsimp only;rw [← h5];conv=>rhs;unfold tu;rw [h2]⟩ zd zS zE
abbrev Rz (a:AE):Value:=.iface Cu (.agg a.cells.toArray)
theorem Tt:∀ w (v:Value),(Instr.makeInterface Cu v).run prog w=.ok (.iface Cu v) w:=fun w v=>by kernel_rfl
theorem GU:∀ w (v:Value),(Instr.makeInterface qd v).run prog w=.ok (.iface qd v) w:=fun w v=>by kernel_rfl
theorem Tu:∀ w (v:Value),(Instr.typeAssert (.iface Cu v) 20 Cu false).run prog w=.ok v w:=fun w v=>by kernel_rfl
theorem GV (g:Nat) (ad:Option Addr) (c o:Nat) (l:List AE) (a:AE) (hl:l.length≤1000000) :
 Ct prog 341 #[pt g,Rz a] e (lx g ad c o l R) (fun v' L'=>v'=.tuple #[]∧∃ lE c',L'=lx g lE c' o (l++[a]) R):=by
 refine a8 (args:=[_,_]) func341 rfl ntmps341 results341 rfl ?_;refine bl (id:=0) [8,9] (cM g [.slice ad l.length c,.int .i64 (o:Int)] UH (0,0)::R) mixed ?_
 (refine tM 0 ?_;refine tM 1 ?_;refine tN 2 ?_;refine tL 3 ?_;refine tM 4 ?_)
 refine tk 5 _ rfl (cE.typeAssert Tu rfl) ?_;refine tO 6 ?_;refine bF (n:=3) (cs:=a.cells) rfl rfl rfl rfl zQ rfl (fun g1=>⟨fun _=>zE,?_⟩);refine tO 7 ?_;refine bm rfl rfl rfl (show cT _ (nt (.slice ad l.length c) l) _ from zP) (bQ (n:=3) (c:=1) .zero rfl zl) rfl rfl (fun c hc=>by simp only [AE.cells,aQ,aO,or_false] at hc;rcases hc with rfl|rfl|rfl<;>rfl) zm zo fun dW k1 _=>⟨fun _=>zE,?_⟩
 refine tO 8 ?_;refine dV (bp rfl) ?_;refine tO 9 ?_;refine tZ ?_;refine ⟨zN,?_⟩;refine bf zK ?_;refine bX (lx g dW k1 o (l++[a]) R) rfl ?_ ⟨rfl,dW,k1,rfl⟩;simp only [lx,nt,aa,aj,aW,aV,List.flatMap_nil,aK];exact zE
theorem GW (g:Nat) (ad:Option Addr) (c o:Nat) (l:List AE) (a:AE) (hf:∀ x∈l,x.fits) (ha:a.fits) (hl:l.length≤100000) :
 Ct prog 307 #[pe g,Rz a] e (lx g ad c o l R) (fun v' L'=>v'=.tuple #[]∧∃ lE c',L'=lx g lE c' o (pd l a) R):=by
 refine a8 (args:=[_,_]) func307 rfl ntmps307 results307 rfl ?_;refine wB ?_;refine bD (Do.invoke (xs:=[.tmp 5]) (vs:=[Rz a]) rfl rfl rfl (fun w hs=>N3 w _ _) (GV R e g ad c o l a zo) ?_)
 rintro _ _ ⟨rfl,dW,c1,rfl⟩;have S5:(l++[a]).length=l.length+1:=by simp
 (repeat' first|refine bD (Do.Cw rfl rfl ?_)|refine Za ?_|apply Zd|apply Ze|apply Zf|refine ZU ?_|fail)
 have CZ:((l++[a]).length:Int) - 1=(l.length:Int):=by simp
 have WL:=LY R e g dW c1 o (l++[a]) l.length (fun x hx=>by
  rcases aJ.1 hx with hx|hx
  ·exact hf x hx
  ·rw [an.1 hx];exact ha) (by simp) (by simp;omega)
 rw [← CZ] at WL
 refine aZ rfl rfl WL ?_;rintro _ _ ⟨rfl,rfl⟩
 (repeat (refine wA ?_;intros))
 exact bX (lx g dW c1 o (pd l a) R) rfl zE ⟨rfl,dW,c1,rfl⟩
theorem JL (g:Nat) (ad:Option Addr) (c o:Nat) (l:List AE) (n:Nat) (hn:l.length=n+1) (hl:l.length≤1000000) :
 Ct prog 340 #[pt g] e (lx g ad c o l R) (fun v' L'=>v'=Rz (l.getD n j9)∧L'=lx g ad c o (l.take n) R):=by
 refine a7 (oP (.succ .zero)) ?_;rintro ⟨lE,c',hv,h3,h4,h5⟩
 cases hv
 rcases h5 with ⟨-,-,h5⟩|⟨gl,rfl⟩
 ·omega
 have A3:n<l.length:=by omega
 have r1:eh (lx g (some ⟨gl,0,none⟩) c o l R) gl (0+n*3) (l[n]'A3).cells:=eh.elem (ba (.succ .zero)) Cv (ae A3);rw [l6 A3]
 generalize l[n]'A3=a at *
 have lO:(l.length:Int) - 1=(n:Int):=by omega
 have fq:(l.take n).length=n:=by rw [aE];omega
 refine a8 (args:=[_]) func340 rfl ntmps340 results340 rfl ?_;have vP:=nC (E:=Cu) (n:=3) (ad:=some ⟨gl,0,none⟩) (k:=l.length) (lo:=n) (c:=c) (xs:=l.flatMap AE.cells) (R:=R) zo;rw [mv Cv] at vP
 (repeat' first|(refine bC _ (cE.dQ (i:=n) rfl (congrArg (fun z=>some (Value.int .i64 z)) lO) A3) rfl ?_)|(refine O.dD rfl r1 rfl rfl ?_)|(refine bC _ (b9 Tt rfl) rfl ?_)|refine Za ?_|refine Zb ?_|apply Zc|apply Zd|apply Ze|apply Zf|refine Zg ?_|refine Zi ?_|refine Zj ?_|refine Zk ?_|refine ZU ?_|refine Yd ?_|refine Yh fun _=>?_|refine Yr ?_|apply YE|refine YR ?_|fail)
 rw [show ((l.length:Int) - 1).toNat=n by omega];refine aY (lx g (some ⟨gl,0,none⟩) c o (l.take n) R) rfl (cn (show cC _ (nt (.slice (some ⟨gl,0,none⟩) l.length c) l::cM g [.slice (some ⟨gl,0,none⟩) n c,.int .i64 (o:Int)] UH (0,0)::R) from zE) (cn (nC (lo:=n) zo) ?_)) ⟨rfl,rfl⟩;rw [mv Cv];simp only [lx,nt,fq];exact zE
theorem JM (g:Nat) (ad:Option Addr) (c o:Nat) (l:List AE) (hf:∀ x∈l,x.fits) (hn:0<l.length) (hl:l.length≤100000) :
 Ct prog 288 #[pe g] e (lx g ad c o l R) (fun v' L'=>v'=Rz (l.getD 0 j9)∧L'=lx g ad c o (pu l) R):=by
 obtain ⟨n,Ad⟩:∃ n,l.length=n+1:=⟨l.length - 1,by omega⟩
 have lO:(l.length:Int) - 1=(n:Int):=by omega
 have h1:=kV (l:=l) (i:=0) (j:=n) zo zo;have h2:=mJ n (gK l 0 n) 0 n (by rw [dH];omega) (by rw [dH];omega);have h3:=yq n (gK l 0 n) 0 n n (by rw [dH];omega) (by rw [dH];omega) zo (aT _)
 have h4:(gK l 0 n).getD n j9=l.getD 0 j9:=by
  unfold gK;rw [aL,List.getElem?_set_self (by simp;omega)]
  rfl
 have hlen:=h2.length_eq;rw [dH] at hlen
 have UL:pu l=(lu n (gK l 0 n) 0 n).take n:=by unfold pu;rw [show l.length - 1=n by omega]
 have UM:=JL R e g ad c o (lu n (gK l 0 n) 0 n) n zo zo;rw [h3,h4,← UL] at UM
 have UN:=yz R e g ad c o (gK l 0 n) 0 n (fun x hx=>hf x (h1.mem_iff.1 hx)) (by rw [dH];omega) (by rw [dH];omega) (by rw [dH];omega);rw [← lO] at UN
 refine a8 (args:=[_]) func288 rfl ntmps288 results288 rfl ?_
 (repeat' first|refine bD (Do.Cw rfl rfl ?_)|refine bD (Do.yy (i:=0) (j:=n) rfl rfl (congrArg (fun z=>some (Value.int .i64 z)) lO) rfl hn zo ?_)|refine Za ?_|refine Zb ?_|apply Zc|apply Zd|apply Ze|apply Zf|refine ZU ?_|fail)
 refine aZ rfl rfl UN ?_;rintro _ _ ⟨⟨b,rfl⟩,rfl⟩;refine wB ?_;refine bD (Do.invoke (xs:=[]) (vs:=[]) rfl rfl rfl (fun w hs=>QB w _) UM ?_)
 rintro _ _ ⟨rfl,rfl⟩;refine wB ?_;exact aY (lx g ad c o (pu l) R) rfl zE ⟨rfl,rfl⟩
def QC (g o:Nat) (l:List AE) (ad:Option Addr) (c:Nat):cK:=dI (lx g ad c o l [])
def r7 (g o:Nat) (l:List AE):cK:=Ex fun ad=>Ex fun c=>QC g o l ad c
theorem GX {g o:Nat} {l:List AE} {R:List cK} {P:Program} {f:FuncId} {args:Array Value} {e:World} {Post:Value→List cK→Prop}
 (h:∀ ad c,Ct P f args e (lx g ad c o l R) Post):Ct P f args e (r7 g o l::R) Post :=
 Ct.ex .zero fun ad=>Ct.ex .zero fun c=>(h ad c).cN (cW (M:=lx g ad c o l []) (L:=R))
theorem A4 {g o:Nat} {l:List AE} {R:List cK} {ad:Option Addr} {c:Nat}:cC (lx g ad c o l R) (r7 g o l::R) :=
 cn (dN (M:=lx g ad c o l []) (L:=R)) (cn (fI (f:=fun c=>QC g o l ad c) c) (fI (f:=fun ad=>Ex fun c=>QC g o l ad c) ad))
theorem uJ :
 Ct prog 236 #[] e R (fun v' L'=>∃ g,v'=pt g∧L'=r7 g 0 []::R):=by
 refine a8 (args:=[]) func236 rfl ntmps236 results236 rfl ?_
 (repeat (refine wA ?_;intros))
 rename_i g;exact aY (r7 g 0 []::R) rfl (cn (bh (di Cu 3)) (A4 (g:=g) (o:=0) (l:=[]) (ad:=none) (c:=0))) ⟨g,rfl,rfl⟩
theorem JN (g o:Nat) (l:List AE) (t w:Nat) (hf:∀ x∈l,x.fits) (ht:t≤1000000000) (hw:w≤1000000000) (ho:o≤1000000000) (hl:l.length≤100000) :
 Ct prog 286 #[pt g,.int .i64 (t:Int),.int .i64 (w:Int)] e (r7 g o l::R) (fun v' L'=>v'=.tuple #[]∧L'=r7 g (o+1) (pd l ⟨t,o,w⟩)::R):=by
 refine GX fun ad c=>?_
 refine a8 (args:=[_,_,_]) func286 rfl ntmps286 results286 rfl ?_;refine W.seq ?_;refine bl (id:=0) [] R mixed ?_
 (refine tM 0 ?_;refine tN 1 ?_;refine tF 2 ?_;refine tM 4 ?_;refine tM 5 ?_;refine tN 6 ?_;refine tF 7 ?_)
 (refine tM 9 ?_)
 refine tk 3 _ rfl (b9 GU rfl) ?_;refine tO 8 ?_;refine bP (bq rfl zR) rfl ⟨fun _=>zE,?_⟩
 (refine tk 10 _ rfl (bL rfl zF) ?_)
 refine tk 11 (Rz ⟨t,o,w⟩) rfl (b9 Tt rfl) ?_;refine tO 12 ?_;refine bg rfl rfl (GW R e g ad c o l ⟨t,o,w⟩ hf ⟨ht,ho,hw⟩ hl) ?_;rintro _ _ ⟨rfl,dW,c1,rfl⟩;refine ⟨fun _=>zE,?_⟩;refine bf zK ?_;refine wB ?_;exact bX (r7 g (o+1) (pd l ⟨t,o,w⟩)::R) rfl (cn (show cC _ (lx g dW c1 (o+1) (pd l ⟨t,o,w⟩) R) from zE) A4) ⟨rfl,rfl⟩
theorem GY (g o:Nat) (ad:Option Addr) (c:Nat) (l:List AE) :
 Ct prog 287 #[pt g] e (lx g ad c o l R) (fun v' L'=>v'=.tuple #[.int .i64 ((l.getD 0 j9).iB:Int),.int .i64 ((l.getD 0 j9).ik:Int),.bool (decide (0<l.length))]∧L'=lx g ad c o l R):=by
 refine a7 (oP (.succ .zero)) ?_;rintro ⟨lE,c',hv,h3,h4,h5⟩
 cases hv
 refine a8 (args:=[_]) func287 rfl ntmps287 results287 rfl ?_
 by_cases hz:l.length=0
 ·have tR:l=[]:=List.length_eq_zero_iff.1 hz;subst tR;refine wB ?_;exact aY (lx g ad c o [] R) rfl zE ⟨rfl,rfl⟩
 rcases h5 with ⟨-,-,h5⟩|⟨gl,rfl⟩
 ·omega
 have A3:0<l.length:=by omega
 have r1:eh (lx g (some ⟨gl,0,none⟩) c o l R) gl (0+0*3) (l[0]'A3).cells:=eh.elem (ba (.succ .zero)) Cv (ae A3);rw [l6 A3,ay A3]
 generalize l[0]'A3=a at *
 have ra:Rd (lx g (some ⟨gl,0,none⟩) c o l R) ⟨gl,0+0+0,none⟩ (.int .i64 (a.iB:Int)):=r1.Na (k:=0) rfl;have rw':Rd (lx g (some ⟨gl,0,none⟩) c o l R) ⟨gl,0+0+2,none⟩ (.int .i64 (a.ik:Int)):=r1.Na (k:=2) rfl;refine wB ?_;refine bl (id:=3) [15,16] (lx g (some ⟨gl,0,none⟩) c o l R) mixed ?_
 (refine tM 0 ?_;refine tN 1 ?_;refine tF 2 ?_;refine tL 3 ?_;refine tk 4 _ rfl (cE.dQ rfl rfl zo) ?_;refine tF 5 ?_;refine tL 6 ?_;refine tM 7 ?_;refine tN 8 ?_;refine tF 9 ?_;refine tL 10 ?_;refine tk 11 _ rfl (cE.dQ rfl rfl zo) ?_;refine tF 12 ?_;refine tL 13 ?_;refine tA 14 ?_;(refine tO 15 ?_;refine dV (bj rfl) ?_);(refine tO 16 ?_;refine dV (bj rfl) ?_))
 refine bf zK ?_;refine wB ?_;exact aY (lx g (some ⟨gl,0,none⟩) c o l R) rfl zE ⟨rfl,rfl⟩
theorem A5 (g o:Nat) (l:List AE) (now:Int) (hf:∀ x∈l,x.fits) (hl:l.length≤100000) :
 Ct prog 247 #[pt g,.int .i64 now] e (r7 g o l::R) (fun v' L'=>(¬ (0<l.length∧((l.getD 0 j9).iB:Int)≤now)∧v'=.tuple #[.int .i64 0,.bool false]∧L'=r7 g o l::R)∨(0<l.length∧((l.getD 0 j9).iB:Int)≤now∧v'=.tuple #[.int .i64 ((l.getD 0 j9).ik:Int),.bool true]∧L'=r7 g o (pu l)::R)):=by
 refine GX fun ad c=>?_
 refine a8 (args:=[_,_]) func247 rfl ntmps247 results247 rfl ?_;refine wB ?_;refine aZ rfl rfl (GY R e g o ad c l) ?_;rintro _ _ ⟨rfl,rfl⟩
 by_cases hz:0<l.length
 rotate_left
 ·rw [aq hz];refine wB ?_;exact aY (r7 g o l::R) rfl A4 (.inl ⟨fun q=>hz q.1,rfl,rfl⟩)
 rw [ay hz]
 by_cases hle:((l.getD 0 j9).iB:Int)≤now
 rotate_left
 ·generalize (l.getD 0 j9).iB=iB at *
  refine wB ?_
  all_goals exact aY (r7 g o l::R) rfl A4 (.inl ⟨fun q=>hle q.2,rfl,rfl⟩)
 have UM:=JM R e g ad c o l hf hz hl
 generalize l.getD 0 j9=a at *
 have hfa:∀ w,(Instr.field Cu (.agg #[.int .i64 (a.iB:Int),.int .i64 (a.ord:Int),.int .i64 (a.ik:Int)]) 2).run prog w=.ok (.int .i64 (a.ik:Int)) w:=fun w=>by kernel_rfl
 (repeat' first|(refine bC _ (b9 GU rfl) rfl ?_)|refine Za ?_|refine Zb ?_|apply Zc|apply Zd|apply Ze|apply Zf|refine Zg ?_|refine Zh ?_|refine Zm ?_|refine Zn ?_|refine Zy ?_|refine ZH ?_|refine YA ?_|apply YC|refine YN ?_|fail)
 refine aZ rfl rfl UM ?_;rintro _ _ ⟨rfl,rfl⟩
 (repeat' first|(refine bC _ (cE.typeAssert Tu rfl) rfl ?_)|(refine bC _ (cE.Qx hfa rfl) rfl ?_)|refine Zb ?_|apply Ze|apply Zf|apply YE)
 exact aY (r7 g o (pu l)::R) rfl A4 (.inr ⟨hz,hle,rfl,rfl⟩)
theorem tw (a:AE) (gw w:Nat) (hg:Rd R ⟨gw,0,none⟩ (.int .i64 (w:Int))) :
 Ct prog 305 #[.agg a.cells.toArray,pt gw] e R (fun v' L'=>v'=.bool (decide (a.ik=w))∧R=L'):=by
 refine a8 (args:=[_,_]) func305 rfl ntmps305 results305 rfl ?_
 (repeat' first|refine Zb ?_|apply Zc|apply Zd|apply Ze|apply Zf|refine Zh ?_|refine Zi ?_|refine ZO (fun _=>?_) fun _=>?_|refine Yg fun _=>?_|apply YE)
 all_goals first
  | exact aY R rfl zE ⟨by rw [ay zo];rfl,rfl⟩
  | exact aY R rfl zE ⟨by rw [aq zo];rfl,rfl⟩
end Go.Proofs
namespace Go.Proofs
attribute [local irreducible] Bs.cE Bs.Do Bs.O Bs.W Bs.Fin Bs.A Bs.Ct Bs.cF Bs.Rd Bs.Sat Bs.cM Bs.Ob Bs.dJ Bs.View Bs.cC Bs.Ex Bs.dI Bs.Pu Bs.eZ Bs.dK Bs.eh
open Go.Bs
open Tryz
variable (R:List cK) (e:World)
theorem Ew (v:Value) (l:List AE) (gw w:Nat) (hv:cF R 3 v l.length (l.flatMap AE.cells)) (hg:Rd R ⟨gw,0,none⟩ (.int .i64 (w:Int))) (hl:l.length≤100000) :
 Ct prog 313 #[v,.func (.func 305) #[] #[pt gw]] e R (fun v' L'=>(∃ k:Int,v'=.int .i64 k∧((k = -1∧∀ i,i<l.length→(l.getD i j9).ik≠w)∨∃ j:Nat,k=j∧j<l.length∧(l.getD j j9).ik=w∧∀ i,i<j→(l.getD i j9).ik≠w))∧R=L'):=by
 refine a7 (hv.shape zo) ?_;rintro ⟨⟨ad,cap,rfl,h3,h4,h5,h6⟩,_⟩;refine a8 (args:=[_,_]) func313 rfl ntmps313 results313 rfl ?_;refine wB ?_;refine br (ι:=Nat) (fun i=>[(0,.slice ad l.length cap),(1,.func (.func 305) #[] #[pt gw]),(7,.int .i64 (l.length:Int)),(8,.int .i64 (i:Int))]) (fun _=>R) (fun i=>i≤l.length∧∀ j,j<i→(l.getD j j9).ik≠w) (fun i=>l.length - i) 0 ⟨aG _,fun j h=>absurd h (Nat.not_lt_zero j)⟩ zS aX ?_;rintro i ⟨h1,h2⟩
 by_cases cQ:i<l.length
 rotate_left
 ·refine wB ?_;exact aY R rfl aX ⟨⟨-1,rfl,.inl ⟨rfl,fun j hj=>h2 j zo⟩⟩,rfl⟩
 rcases h6 with h6|⟨gl,ol,rfl⟩
 ·omega
 have hr:eh R gl (ol+i*3) (l[i]'cQ).cells:=eh.elem hv Cv (ae cQ);have vO:=l6 cQ
 generalize l[i]'cQ=a at *
 (repeat' first|(refine O.dD rfl hr rfl rfl ?_)|refine Za ?_|refine Zb ?_|apply Zc|apply Zd|apply Ze|apply Zf|refine ZA ?_|refine Yx ?_|refine Yz ?_|apply YB|apply YC)
 refine bD (Do.gT (us:=[]) (ws:=[pt gw]) rfl rfl rfl (tw _ e a gw w hg) ?_)
 rintro _ _ ⟨rfl,rfl⟩
 by_cases hw:a.ik=w
 ·rw [ay hw];refine wB ?_;exact aY R rfl aX ⟨⟨i,rfl,.inr ⟨i,rfl,cQ,by rw [vO];exact hw,h2⟩⟩,rfl⟩
 ·rw [aq hw];refine wB ?_;refine bi (i+1) ⟨cQ,fun j hj=>?_⟩ zo zS aX
  by_cases Ah:j=i
  ·subst Ah;rw [vO];exact hw
  ·exact h2 j zo
abbrev nX (w:Nat) (a:AE):Bool:=decide (a.ik≠w)
theorem filter_all {l:List AE} {w:Nat} (h:∀ i,i<l.length→(l.getD i j9).ik≠w):l.filter (nX w)=l:=List.filter_eq_self.2 fun a ha=>by
 obtain ⟨i,hi,rfl⟩:=List.mem_iff_getElem.1 ha;have:=h i hi;rw [l6 hi] at this
 exact ay this
theorem JO (ad:Option Addr) (c:Nat) (l:List AE) (gw w:Nat) (hg:Rd R ⟨gw,0,none⟩ (.int .i64 (w:Int))) (hl:l.length≤100000) :
 Ct prog 304 #[.slice ad l.length c,.func (.func 305) #[] #[pt gw]] e (nt (.slice ad l.length c) l::R) (fun v' L'=>v'=.slice ad (l.filter (nX w)).length c∧L'=nt (.slice ad (l.filter (nX w)).length c) (l.filter (nX w))::R):=by
 refine a7 (oP .zero) ?_;rintro ⟨lE,c',hv,h3,h4,h5⟩
 cases hv
 refine a8 (args:=[_,_]) func304 rfl ntmps304 results304 rfl ?_;refine wB ?_;refine aZ rfl rfl (Ew _ e _ l gw w (ba .zero) hg.tail hl) ?_;rintro _ _ ⟨⟨k,rfl,hk⟩,rfl⟩;rcases hk with ⟨rfl,eW⟩|⟨k,rfl,DD,Zw,hkb⟩
 ·rw [filter_all eW];refine wB ?_;exact aY (nt (.slice ad l.length c) l::R) rfl aX ⟨rfl,rfl⟩
 rcases h5 with ⟨-,-,h5⟩|⟨g,rfl⟩
 ·omega
 simp only [maxLen] at h4
 have Pa:((k:Int)+1)=((k+1:Nat):Int):=by omega
 have Tv:l.take k=(l.take (k+1)).filter (nX w):=by
  rw [aA DD,List.filter_append];rw [l6 DD] at Zw
  rw [filter_all (l:=l.take k) (w:=w) (fun i hi=>by
   rw [aE] at hi
   have:=hkb i zo
   rwa [aL,List.getElem?_take_of_lt zo,← aL])]
  simp [nX,Zw]
 refine wB ?_;refine br (ι:=Nat × Nat × List AE) (fun i=>[(0,.slice (some ⟨g,0,none⟩) l.length c),(1,.func (.func 305) #[] #[pt gw]),(5,.int .i64 (i.1:Int)),(6,.int .i64 (i.2.1:Int))]) (fun i=>dJ Cu 3 (.slice (some ⟨g,0,none⟩) l.length c) l.length (i.2.2.flatMap AE.cells)::R) (fun i=>i.1<i.2.1∧i.2.1≤l.length∧i.2.2.length=l.length∧i.2.2.take i.1=(l.take i.2.1).filter (nX w)∧i.2.2.drop i.2.1=l.drop i.2.1) (fun i=>l.length - i.2.1) (k,k+1,l) ⟨by dsimp only;omega,DD,rfl,Tv,rfl⟩ zS zE ?_;rintro ⟨i,j,cur⟩ ⟨h1,h2,h6,h7,h8⟩;dsimp only at h1 h2 h6 h7 h8 ⊢
 by_cases cQ:j<l.length
 rotate_left
 ·rw [aF (l:=l) zo] at h7
  have e2:(l.length:Int).toNat=l.length:=rfl;refine wB ?_;refine bD (Do.clear (o:=i*3) (g:=g) (c:=c) (kk:=l.length) rfl .zero rfl (by simp [Value.oneCell',Value.cells]) (by simp;omega) (.inr ?_) fun zs hz=>?_)
  ·unfold cutAt;rw [aB (by simp;omega)]
   simp [Addr.add_lit]
  have CY:(l.filter (nX w)).length=i:=by rw [← h7,aE];omega
  have hx:(cur.flatMap AE.cells).length=l.length*3:=by rw [Ak Cv,h6]
  have vP:=nC (E:=Cu) (n:=3) (ad:=some ⟨g,0,none⟩) (k:=l.length) (lo:=i) (c:=c) (R:=R) (xs:=(cur.flatMap AE.cells).take (i*3)++zs++(cur.flatMap AE.cells).drop (i*3+(l.length - (i:Int).toNat)*3)) zo
  have js:(((cur.flatMap AE.cells).take (i*3)++zs++(cur.flatMap AE.cells).drop (i*3+(l.length - (i:Int).toNat)*3)).take (i*3))=(l.filter (nX w)).flatMap AE.cells:=by
   rw [aM,List.take_append_of_le_length (by rw [aE];omega),List.take_take,Nat.min_self,mv Cv,h7]
  rw [js] at vP
  refine wB ?_;refine aY (nt (.slice (some ⟨g,0,none⟩) (l.filter (nX w)).length c) (l.filter (nX w))::R) rfl (cn vP ?_) ⟨by rw [CY];rfl,rfl⟩;simp only [nt,CY];exact zE
 have hcj:cur[j]'zo=l[j]'cQ:=by
  have:=congrArg (fun q=>q[0]?) h8;simp only [List.getElem?_drop,Nat.add_zero] at this
  rw [ae zo,ae cQ] at this
  exact Option.some.inj this
 have fq:l.take (j+1)=l.take j++[l[j]'cQ]:=aA cQ
 have hr:eh (dJ Cu 3 (.slice (some ⟨g,0,none⟩) l.length c) l.length (cur.flatMap AE.cells)::R) g (0+j*3) (l[j]'cQ).cells:=by
  rw [← hcj];exact eh.elem (ba .zero) Cv (ae zo)
 generalize l[j]'cQ=a at *
 (repeat' first|(refine O.dD rfl hr rfl rfl ?_)|refine Za ?_|apply Zc|apply Zd|apply Ze|apply Zf|refine Zj ?_|refine Zk ?_|refine ZA ?_|refine Yh fun _=>?_|refine Yx ?_|refine Yz ?_|apply YB|apply YC|refine YR ?_|fail)
 rename_i gv;refine bD (Do.gT (us:=[]) (ws:=[pt gw]) rfl rfl rfl (tw _ e a gw w (hg.cN zE)) ?_)
 rintro _ _ ⟨rfl,rfl⟩;have Zx:cur.drop (j+1)=l.drop (j+1):=by rw [← List.drop_drop,← List.drop_drop,h8]
 by_cases hw:a.ik=w
 ·rw [ay hw];refine wB ?_;refine bi (i,j+1,cur) ⟨by dsimp only;omega,cQ,h6,?_,Zx⟩ zd zS zE;dsimp only;rw [fq,List.filter_append,← h7]
  simp [nX,hw]
 ·rw [aq hw];have ft:=GO (l:=cur) (i:=i) (a:=a) zo;refine wB ?_;refine bD (Do.nW rfl rfl rfl (by intro v hv;simp only [AE.cells,aQ,aO,or_false] at hv;rcases hv with rfl|rfl|rfl<;>rfl) (.succ .zero) (by simp only [aR,List.length_nil];omega) ?_)
  rw [aC,ft];refine wB ?_;refine bi (i+1,j+1,cur.set i a) ⟨by dsimp only;omega,cQ,by dsimp only;rw [List.length_set];exact h6,?_,?_⟩ zd zS zE
  ·dsimp only;rw [fq,List.filter_append,← h7,List.take_set,aA zo,List.set_append_right _ _ (by simp;omega)]
   simp [nX,hw,Nat.min_eq_left (show i≤cur.length by omega)]
  ·dsimp only;rw [List.drop_set_of_lt zo,Zx]
theorem tz (g o:Nat) (l:List AE) (w:Nat) (hf:∀ x∈l,x.fits) (hl:l.length≤100000) :
 Ct prog 285 #[pt g,.int .i64 (w:Int)] e (r7 g o l::R) (fun v' L'=>(∃ z:Int,v'=.int .i64 z)∧L'=r7 g o (gL l w)::R):=by
 refine GX fun ad c=>?_
 have CY:(l.filter (nX w)).length≤l.length:=List.length_filter_le _ _;refine a8 (args:=[_,_]) func285 rfl ntmps285 results285 rfl ?_
 (repeat (refine wA ?_;intros))
 rename_i gw;refine aZ rfl rfl (Ct.at zP (JO _ e ad c l gw w zR hl)) ?_;rintro _ _ ⟨rfl,rfl⟩;have fS:=fun L:List cK=>GS L e g ad c o (l.filter (nX w)) (fun x hx=>hf x (List.mem_filter.1 hx).1) zo
 have Yo:gL l w=tu ((l.filter (nX w)).length / 2) (l.filter (nX w)):=rfl;have hpm:=(rZ ((l.filter (nX w)).length / 2) (l.filter (nX w)) zo).length_eq
 generalize l.filter (nX w)=fl at *
 (repeat' first|(refine bC _ (b9 GU rfl) rfl ?_)|refine Za ?_|apply Zc|apply Zd|apply Ze|apply Zf|refine Zg ?_|refine Zh ?_|refine Yd ?_|fail)
 refine aZ rfl rfl ((fS (cM gw [.int .i64 (w:Int)] 3 (0,0)::R)).cN zE) ?_;rintro _ _ ⟨rfl,rfl⟩;rw [← Yo] at hpm ⊢
 refine wB ?_;exact aY (r7 g o (gL l w)::R) rfl (cn (show cC _ (lx g ad c o (gL l w) R) from zE) A4) ⟨⟨_,rfl⟩,rfl⟩
theorem l7 (n:Nat) :
 Ct prog 118 #[.int .i64 (n:Int)] e R (fun v' L'=>v'=.bool (decide (n≤256))∧R=L'):=by
 refine a8 (args:=[_]) func118 rfl ntmps118 results118 rfl ?_
 by_cases h:n≤256
 ·rw [ay h];refine wB ?_
  all_goals exact aY R rfl aX ⟨rfl,rfl⟩
 ·rw [aq h];refine wB ?_
  all_goals exact aY R rfl aX ⟨rfl,rfl⟩
abbrev qP:TypeId:=109
theorem Ey (vl vw vm vp vr va vq vc:Value) (p:jK) (b:vE) (hp:j3 R vl vw p) (sq:p.right) (hb:rh R vm vp vr va vq vc b) (hw:b.wf) :
 Ct prog 134 #[.agg (lq p vl vw).toArray,.agg (r5 b vm vp vr va vq vc).toArray] e R (fun v' L'=>v'=.int .i64 (l5 p b)∧R=L'):=by
 have QD:=hw.fk;have HT:=hw.dd;refine a7 (cz hp.log) fun o1=>?_
 refine a7 hp.ey.one fun o2=>?_
 refine a7 (cz hb.fk) fun o3=>?_
 refine a7 hb.path.one fun o4=>?_
 refine a7 (cz hb.kH.root) fun o5=>?_
 refine a7 hb.kH.sig.parts.one fun o6=>?_
 refine a7 hb.kH.sig.path.one fun o7=>?_
 refine a7 hb.gs.one fun o8=>?_
 obtain ⟨ts,fx,Tw,Gm⟩:=hb.path;refine a8 (args:=[_,_]) func134 rfl ntmps134 results134 rfl ?_
 (repeat (refine wA ?_;intros))
 rename_i g2 g3;refine aZ rfl rfl (kv _ e vm b.fk (hb.fk.cN zE) zo) ?_;rintro v1 _ ⟨lK,C2⟩
 by_cases hm:jm b.fk
 rotate_left
 ·obtain ⟨rfl,rfl⟩:=C2 hm;have hE:l5 p b=12:=by unfold l5;rw [aH hm]
  rw [hE]
  (repeat' first|refine Za ?_|refine Zb ?_|apply Zc|apply Zd|apply Ze|apply Zf|refine Zh ?_|refine Zj ?_|refine Yh fun _=>?_|apply YB|refine YN ?_|refine YR ?_|(apply O.dj;exact rfl;exact zP;(first|(simp only [aC,Nat.add_zero,Nat.reduceAdd,List.drop_succ_cons,List.drop_zero,List.take_succ_cons,List.take_zero];done)|(simp only [aC,Nat.add_zero,Nat.reduceAdd,List.drop_succ_cons,List.drop_zero,List.take_succ_cons,List.take_zero];exact rfl));exact rfl;exact rfl))
  refine aZ rfl rfl (j4 _ e vl vw p (hp.cN zE) sq) ?_;rintro _ _ ⟨rfl,rfl⟩;refine wB ?_;exact aY R rfl zE ⟨rfl,rfl⟩
 obtain ⟨Mm,vf,vn,rfl,hf,hn,rfl⟩:=lK hm;refine bo (cz (hf.cN (cH zP))) fun o9=>?_
 refine bo (cz (hn.cN (cH zP))) fun LZ=>?_
 (repeat' first|refine Za ?_|refine Zb ?_|apply Zc|apply Zd|apply Ze|apply Zf|refine Zh ?_|refine Zj ?_|refine Yh fun _=>?_|apply YB|refine YN ?_|refine YR ?_|(apply O.dj;exact rfl;exact zP;(first|(simp only [aC,Nat.add_zero,Nat.reduceAdd,List.drop_succ_cons,List.drop_zero,List.take_succ_cons,List.take_zero];done)|(simp only [aC,Nat.add_zero,Nat.reduceAdd,List.drop_succ_cons,List.drop_zero,List.take_succ_cons,List.take_zero];exact rfl));exact rfl;exact rfl))
 refine aZ rfl rfl (j4 _ e vl vw p (hp.cN zE) sq) ?_;rintro _ _ ⟨rfl,rfl⟩;have WN:∀ L,eh L g3 0 (r5 b vm vp vr va vq vc)→eh L g3 4 (dT b.kH vr va vq):=fun L h=>h.part 4 5
 have abK:∀ L,eh L g3 0 (r5 b vm vp vr va vq vc)→eh L g3 1 [.int .i64 (b.idx:Int),.int .i64 (b.size:Int),vp]:=fun L h=>h.part 1 3
 (repeat' first|(refine O.dD rfl (WN _ (by (repeat first|exact bW .zero|apply eh.tail);done)) rfl rfl ?_)|refine Za ?_|refine Zb ?_|apply Zc|apply Zd|apply Ze|apply Zf|refine Zh ?_|refine Zi ?_|refine Zy ?_|refine ZQ ?_|refine YA ?_|fail)
 refine aZ rfl rfl (ku _ e vl vr va vq p.log b.kH (hp.log.cN zE) (hb.kH.cN zE) HT) ?_;rintro _ _ ⟨rfl,rfl⟩
 by_cases hv:b.kH.hJ p.log
 rotate_left
 ·have hE:l5 p b=30:=by unfold l5;rw [aB (fun q=>q hm),aH hv]
  rw [hE,aq hv];refine wB ?_;exact aY R rfl zE ⟨rfl,rfl⟩
 rw [ay hv];refine wB ?_;refine bE (id:=9) [] mixed ?_;have ZF:∀ q:Prop,(q↔(b.size=b.kH.dd.size∧oN b.idx b.size b.path (cZ b.fk) b.kH.dd.root))→¬ q→l5 p b=31:=fun q hq hn=>by unfold l5;rw [aB (fun q=>q hm),aB (fun q=>q hv),aH (fun h=>hn (hq.2 h))]
 by_cases hs:b.size=b.kH.dd.size
 rotate_left
 ·rw [ZF _ Iff.rfl (fun h=>hs h.1)]
  (refine tF 0 ?_;refine tF 1 ?_;refine tL 2 ?_;refine tF 3 ?_;refine tL 4 ?_;refine tk 5 (.bool true) rfl (cE.iX (b8 rfl rfl) zy) ?_;refine tM 6 ?_;refine bc 7 rfl rfl zK zE rfl ?_;refine bc 8 rfl rfl zK zE rfl ?_;refine bc 9 rfl rfl zK zE rfl ?_;refine bc 10 rfl rfl zK zE rfl ?_;refine bc 12 rfl rfl zK zE rfl ?_;refine bc 13 rfl rfl zK zE rfl ?_)
  refine bc 11 rfl rfl zK zE rfl ?_;refine bc 14 rfl rfl zK zE rfl ?_
  (refine bc 15 rfl rfl zK zE rfl ?_;refine tk 16 _ rfl (bM rfl rfl) ?_;refine tA 17 ?_)
  refine bf zK ?_;refine wB ?_;exact aY R rfl zE ⟨rfl,rfl⟩
 (refine tF 0 ?_;refine tF 1 ?_;refine tL 2 ?_;refine tF 3 ?_;refine tL 4 ?_;refine tk 5 (.bool false) rfl (cE.no (b8 rfl rfl) zn) ?_;refine tM 6 ?_;refine du 7 _ rfl (bb rfl) ?_;refine du 8 _ rfl (cE.dj rfl zP zI zX) ?_;refine du 9 _ rfl (bb rfl) ?_;refine du 10 _ rfl (bq rfl zR) ?_;refine du 12 _ rfl (bb rfl) ?_;refine du 13 _ rfl (bq rfl zR) ?_)
 refine A.pi 11 rfl rfl zK ?_;refine bg rfl rfl (xI _ e vm b.fk (hb.fk.cN zE) zo) ?_;rintro _ _ ⟨Kw,ki,rfl,rfl⟩;refine ⟨fun _=>zE,A.fF zE ?_⟩;refine A.pi 14 rfl rfl zK ?_;have S9:=hw.idx;have MV:=hw.size;refine bg rfl rfl (FT _ e (b.idx:Int) (b.size:Int) vp (.slice Kw (cZ b.fk).length ki) vr ts (cZ b.fk) b.kH.dd.root zo zo (Tw.cN zE) (fun x hx=>(Gm x hx).cN zE) (ba zP) (hb.kH.root.cN zE)) ?_;rintro _ _ ⟨rfl,rfl⟩;refine ⟨fun _=>zE,A.fF zE ?_⟩;have MT:(pQ (b.idx:Int) (b.size:Int) ts (cZ b.fk)∧pR (b.idx:Int) (b.size:Int) ts (cZ b.fk)=b.kH.dd.root)↔oN b.idx b.size b.path (cZ b.fk) b.kH.dd.root:=by rw [← fx];exact GL
 rw [decide_eq_decide.2 MT]
 by_cases L3:oN b.idx b.size b.path (cZ b.fk) b.kH.dd.root
 rotate_left
 ·rw [ZF _ Iff.rfl (fun h=>L3 h.2),aq L3]
  (refine du 15 _ rfl (cE.pF rfl) ?_;refine tk 16 _ rfl (bJ rfl rfl) ?_;refine tA 17 ?_)
  refine bf zK ?_;refine wB ?_;exact aY R rfl zE ⟨rfl,rfl⟩
 rw [ay L3]
 (refine du 15 _ rfl (cE.jX rfl) ?_;refine tk 16 _ rfl (bJ rfl rfl) ?_;refine tA 17 ?_)
 refine bf zK ?_;refine wB ?_;refine aZ rfl rfl (I9 _ e vl vw vr vc p b.kH.dd b.eJ (hp.cN zE) sq (hb.kH.root.cN zE) HT (hb.gs.cN zE) (by have:=hw.iC;omega)) ?_;rintro _ _ ⟨rfl,rfl⟩
 by_cases GZ:sZ p b.kH.dd b.eJ
 ·have hE:l5 p b=0:=by unfold l5;rw [aB (fun q=>q hm),aB (fun q=>q hv),aB (fun q=>q ⟨hs,L3⟩),aB (fun q=>q GZ)]
  rw [hE,ay GZ];refine wB ?_;exact aY R rfl zE ⟨rfl,rfl⟩
 ·have hE:l5 p b=33:=by unfold l5;rw [aB (fun q=>q hm),aB (fun q=>q hv),aB (fun q=>q ⟨hs,L3⟩),aH GZ]
  rw [hE,aq GZ];refine wB ?_;exact aY R rfl zE ⟨rfl,rfl⟩
theorem Cx (e:World) (v:Value) (ts:List dX) (f:FuncId) (ws:List Value) (St:Nat→List cK) [i:cJ prog f f] (hv:∀ i,cF (St i) 1 v ts.length (ts.map (·.1))) (hl:ts.length≤1000000)
 (hf:∀ (i:Nat) (h:i<ts.length),Ct prog f ([(ts[i]).1]++ws).toArray e (St i) (fun v' L'=>v'=.bool false∧L'=St (i+1))) :
 Ct prog 264 #[v,.func (.func f) #[] ws.toArray] e (St 0) (fun v' L'=>v'=.int .i64 (-1)∧L'=St ts.length):=by
 refine a7 ((hv 0).shape zo) ?_;rintro ⟨⟨ad,cap,rfl,h3,h4,h5,h6⟩,_⟩;refine a8 (args:=[_,_]) func264 rfl ntmps264 results264 rfl ?_;refine wB ?_;refine br (ι:=Nat) (fun i=>[(0,.slice ad ts.length cap),(1,.func (.func f) #[] ws.toArray),(7,.int .i64 (ts.length:Int)),(8,.int .i64 (i:Int))]) (fun i=>St i) (fun i=>i≤ts.length) (fun i=>ts.length - i) 0 (aG _) zS aX ?_;rintro i h1
 by_cases cQ:i<ts.length
 rotate_left
 ·rw [show i=ts.length by omega];refine wB ?_;exact aY (St ts.length) rfl aX ⟨rfl,rfl⟩
 rcases h6 with h6|⟨gl,ol,rfl⟩
 ·omega
 have hr:Rd (St i) ⟨gl,ol+i,none⟩ (ts[i]'cQ).1:=(hv i).elem (by rw [aI,ae cQ];rfl);have IW:=hf i cQ
 generalize (ts[i]'cQ).1=y at *
 (repeat' first|(refine b7 rfl hr rfl ?_)|refine Za ?_|refine Zb ?_|apply Zc|apply Zd|apply Ze|apply Zf|refine ZA ?_|refine Yw ?_|refine Yz ?_|apply YB|apply YC)
 refine bD (Do.gT (us:=[]) (ws:=ws) rfl rfl rfl IW ?_)
 rintro _ _ ⟨rfl,rfl⟩;refine wB ?_;exact bi (i+1) cQ zo zS aX
theorem we (e:World) (v:Value) (ts:List dX) (f:FuncId) (ws:List Value) (St:Nat→List cK) [i:cJ prog f f] (hv:∀ i,cF (St i) 1 v ts.length (ts.map (·.1))) (hl:ts.length≤1000000)
 (hf:∀ (i:Nat) (h:i<ts.length),Ct prog f ([(ts[i]).1]++ws).toArray e (St i) (fun v' L'=>v'=.bool false∧L'=St (i+1))) :
 Ct prog 203 #[v,.func (.func f) #[] ws.toArray] e (St 0) (fun v' L'=>v'=.bool false∧L'=St ts.length):=by
 refine a8 (args:=[_,_]) func203 rfl ntmps203 results203 rfl ?_;refine wB ?_;refine aZ rfl rfl (Cx e v ts f ws St hv hl hf) ?_;rintro _ _ ⟨rfl,rfl⟩;refine wB ?_;exact aY (St ts.length) rfl aX ⟨rfl,rfl⟩
theorem JP (g:Nat) (l m:dA) (v:Value) (h:da R v m) (hk:l.length+m.length≤140737488355328) :
 Ct prog 123 #[pt g,v] e (Writer g l::R) (fun v' L'=>v'=.bool true∧L'=Writer g (l++m)::R):=by
 refine a7 (cz h.tail) fun o1=>?_
 refine a8 (args:=[_,_]) func123 rfl ntmps123 results123 rfl ?_;refine wB ?_;refine bD (Do.gT (us:=[]) (ws:=[]) rfl rfl rfl (hH R e g l m v h hk) ?_)
 rintro _ _ ⟨rfl,rfl⟩;refine wB ?_;exact aY (Writer g (l++m)::R) rfl aX ⟨rfl,rfl⟩
theorem uK {l:List dA} {i:Nat} (h:i<l.length):(l.take (i+1)).flatten=(l.take i).flatten++l[i]'h:=by
 rw [aA h,List.flatten_append];simp
theorem Cy {l:List dA} {i:Nat}:(l.take i).flatten.length≤l.flatten.length:=by
 conv=>rhs;rw [← List.take_append_drop i l,List.flatten_append,aa]
 omega
theorem zt (g g3 g4:Nat) (l m:dA) (v:Value) (h:da R v m) (hk:l.length+m.length≤140737488355328) :
 Ct prog 206 #[v,pt g4,pt g3] e (cM g4 [.func (.func 123) #[] #[]] 206 (0,0)::cM g3 [pt g] 151 (0,0)::Writer g l::R)
  (fun v' L'=>v'=.bool false∧L'=cM g4 [.func (.func 123) #[] #[]] 206 (0,0)::cM g3 [pt g] 151 (0,0)::Writer g (l++m)::R):=by
 refine a8 (args:=[_,_,_]) func206 rfl ntmps206 results206 rfl ?_;refine wB ?_;refine bD (Do.gT (us:=[]) (ws:=[]) rfl rfl rfl (Ct.at (.succ (.succ .zero)) (JP _ e g l m v (h.cN zE) hk)) ?_)
 rintro _ _ ⟨rfl,rfl⟩;refine wB ?_;exact aY (cM g4 [.func (.func 123) #[] #[]] 206 (0,0)::cM g3 [pt g] 151 (0,0)::Writer g (l++m)::R) rfl zE ⟨rfl,rfl⟩
theorem Cz (g:Nat) (l:dA) (v:Value) (bs:List dA) (hv:j8 R v bs) (hl:bs.length≤1000) (hk:l.length+bs.flatten.length≤1000000) :
 Ct prog 122 #[pt g,.func (.func 123) #[] #[],v] e (Writer g l::R) (fun v' L'=>v'=.bool true∧L'=Writer g (l++bs.flatten)::R):=by
 refine a7 hv.tail.one fun o1=>?_
 obtain ⟨ts,rfl,pa,Gm⟩:=hv;rw [ab] at hl
 refine a8 (args:=[_,_,_]) func122 rfl ntmps122 results122 rfl ?_
 (repeat (refine wA ?_;intros))
 rename_i g3 g4
 have MX:=we e v ts 206 [pt g4,pt g3] (fun i=>cM g4 [.func (.func 123) #[] #[]] 206 (0,0)::cM g3 [pt g] 151 (0,0)::Writer g (l++((ts.map (·.2)).take i).flatten)::R) (fun i=>pa.cN zE) zo (fun i hi=>by
  have MV:i<(ts.map (·.2)).length:=by rw [ab];exact hi
  have UO:=uK MV;have hle:=Cy (l:=ts.map (·.2)) (i:=i+1);rw [UO,aa] at hle
  rw [UO,← aM];rw [List.getElem_map];rw [List.getElem_map] at hle
  exact zt R e g g3 g4 _ _ _ (Gm _ (az hi)) (by rw [aa];omega))
 rw [List.take_zero,List.flatten_nil,aK,aF (by rw [ab];omega)] at MX
 refine aZ rfl rfl MX ?_;rintro _ _ ⟨rfl,rfl⟩;refine wB ?_;exact aY (Writer g (l++(ts.map (·.2)).flatten)::R) rfl zE ⟨rfl,rfl⟩
theorem CA (e:World) (v:Value) (ts:List jn) (f:FuncId) (ws:List Value) (St:Nat→List cK) [i:cJ prog f f] (hv:∀ i,cF (St i) 4 v ts.length (ts.flatMap jn.cells)) (hl:ts.length≤1000000)
 (hf:∀ (i:Nat) (h:i<ts.length),Ct prog f ([Value.agg (jn.cells ts[i]).toArray]++ws).toArray e (St i) (fun v' L'=>v'=.bool false∧L'=St (i+1))) :
 Ct prog 266 #[v,.func (.func f) #[] ws.toArray] e (St 0) (fun v' L'=>v'=.int .i64 (-1)∧L'=St ts.length):=by
 refine a7 ((hv 0).shape zo) ?_;rintro ⟨⟨ad,cap,rfl,h3,h4,h5,h6⟩,_⟩;refine a8 (args:=[_,_]) func266 rfl ntmps266 results266 rfl ?_;refine wB ?_;refine br (ι:=Nat) (fun i=>[(0,.slice ad ts.length cap),(1,.func (.func f) #[] ws.toArray),(7,.int .i64 (ts.length:Int)),(8,.int .i64 (i:Int))]) (fun i=>St i) (fun i=>i≤ts.length) (fun i=>ts.length - i) 0 (aG _) zS aX ?_;rintro i h1
 by_cases cQ:i<ts.length
 rotate_left
 ·rw [show i=ts.length by omega];refine wB ?_;exact aY (St ts.length) rfl aX ⟨rfl,rfl⟩
 rcases h6 with h6|⟨gl,ol,rfl⟩
 ·omega
 have hr:eh (St i) gl (ol+i*4) (jn.cells (ts[i]'cQ)):=eh.elem (hv i) jn.len (ae cQ);have IW:=hf i cQ
 generalize ts[i]'cQ=y at *
 (repeat' first|(refine O.dD rfl hr rfl rfl ?_)|refine Za ?_|refine Zb ?_|apply Zc|apply Zd|apply Ze|apply Zf|refine ZA ?_|refine Yx ?_|refine Yz ?_|apply YB|apply YC)
 refine bD (Do.gT (us:=[]) (ws:=ws) rfl rfl rfl IW ?_)
 rintro _ _ ⟨rfl,rfl⟩;refine wB ?_;exact bi (i+1) cQ zo zS aX
theorem wg (e:World) (v:Value) (ts:List jn) (f:FuncId) (ws:List Value) (St:Nat→List cK) [i:cJ prog f f] (hv:∀ i,cF (St i) 4 v ts.length (ts.flatMap jn.cells)) (hl:ts.length≤1000000)
 (hf:∀ (i:Nat) (h:i<ts.length),Ct prog f ([Value.agg (jn.cells ts[i]).toArray]++ws).toArray e (St i) (fun v' L'=>v'=.bool false∧L'=St (i+1))) :
 Ct prog 208 #[v,.func (.func f) #[] ws.toArray] e (St 0) (fun v' L'=>v'=.bool false∧L'=St ts.length):=by
 refine a8 (args:=[_,_]) func208 rfl ntmps208 results208 rfl ?_;refine wB ?_;refine aZ rfl rfl (CA e v ts f ws St hv hl hf) ?_;rintro _ _ ⟨rfl,rfl⟩;refine wB ?_;exact aY (St ts.length) rfl aX ⟨rfl,rfl⟩
abbrev JQ:Value:=.func (.func 126) #[] #[]
theorem CB (g g3 g4:Nat) (l:dA) (t:jn) (ht:jn.ok R t) (hw:t.1.gy<4) (hr:t.1.sig.right) (hk:l.length≤1000000) :
 Ct prog 209 #[.agg (jn.cells t).toArray,pt g4,pt g3] e (cM g4 [JQ] 209 (0,0)::cM g3 [pt g] 151 (0,0)::Writer g l::R)
  (fun v' L'=>v'=.bool false∧L'=cM g4 [JQ] 209 (0,0)::cM g3 [pt g] 151 (0,0)::Writer g (l++eU t.1)::R):=by
 obtain ⟨⟨w,sg⟩,up,uq⟩:=t;obtain ⟨t1,t2⟩:=ht;dsimp only at t1 t2 hw hr ⊢
 have mG:cC (cM g4 [JQ] 209 (0,0)::cM g3 [pt g] 151 (0,0)::Writer g l::R) R:=zE;refine a7 (t1.cN mG).parts.one fun o4=>?_
 refine a7 (t1.cN mG).path.one fun o5=>?_
 refine a8 (args:=[_,_,_]) func209 rfl ntmps209 results209 rfl ?_
 (repeat (refine wA ?_;intros))
 refine bD (Do.gT (us:=[]) (ws:=[]) rfl rfl rfl (Ct.at zP (AG _ e g l up uq ⟨w,sg⟩ (t1.cN zE) hw hr hk)) ?_)
 rintro _ _ ⟨rfl,rfl⟩;refine wB ?_;exact aY (cM g4 [JQ] 209 (0,0)::cM g3 [pt g] 151 (0,0)::Writer g (l++eU ⟨w,sg⟩)::R) rfl zE ⟨rfl,rfl⟩
theorem Ez (g:Nat) (l:dA) (v:Value) (gs:List kF) (hv:oC R v gs) (hl:gs.length≤1000) (hw:∀ x∈gs,x.gy<4) (hr:∀ x∈gs,x.sig.right) (hk:l.length+(lv gs).length≤1000000) :
 Ct prog 125 #[pt g,JQ,v] e (Writer g l::R) (fun v' L'=>v'=.bool true∧L'=Writer g (l++lv gs)::R):=by
 refine a7 hv.tail.one fun o1=>?_
 obtain ⟨ts,rfl,pa,Gm⟩:=hv;rw [ab] at hl
 refine a8 (args:=[_,_,_]) func125 rfl ntmps125 results125 rfl ?_
 (repeat (refine wA ?_;intros))
 rename_i g3 g4
 have MX:=wg e v ts 209 [pt g4,pt g3] (fun i=>cM g4 [JQ] 209 (0,0)::cM g3 [pt g] 151 (0,0)::Writer g (l++(((ts.map (·.1)).map eU).take i).flatten)::R) (fun i=>pa.cN zE) zo (fun i hi=>by
  have MV:i<((ts.map (·.1)).map eU).length:=by rw [ab,ab];exact hi
  have UO:=uK MV;have hle:=Cy (l:=(ts.map (·.1)).map eU) (i:=i);have O4:=hk;unfold lv at O4
  rw [UO,← aM,List.getElem_map,List.getElem_map];exact CB R e g g3 g4 _ _ (Gm _ (az hi)) (hw _ (aD.2 ⟨_,az hi,rfl⟩)) (hr _ (aD.2 ⟨_,az hi,rfl⟩)) (by rw [aa];omega))
 rw [List.take_zero,List.flatten_nil,aK,aF (by rw [ab,ab];omega)] at MX
 refine aZ rfl rfl MX ?_;rintro _ _ ⟨rfl,rfl⟩;refine wB ?_;exact aY (Writer g (l++lv (ts.map (·.1)))::R) rfl zE ⟨rfl,rfl⟩
theorem CC (vm vp vr va vq vc:Value) (b:vE) (hb:rh R vm vp vr va vq vc b) (hw:b.wf) :
 Ct prog 50 #[.agg (r5 b vm vp vr va vq vc).toArray] e R (fun v' L'=>∃ ad k,v'=.tuple #[.slice ad (fU b).length k,.int .i64 0]∧L'=cR (.slice ad (fU b).length k) (fU b)::R):=by
 have QD:=hw.fk;have h1:=hw.idx;have h2:=hw.size;have h3:=hw.Fc;have h4:=hw.iC;have HT:=hw.dd;have nZ:=oO hw;have CY:=fc hw.jD;have pa:=iN hw.dd hw.sig;have B6:=qG hw.sigs;refine a7 (cz hb.fk) fun o3=>?_
 refine a7 hb.path.one fun o4=>?_
 refine a7 (cz hb.kH.root) fun o5=>?_
 refine a7 hb.kH.sig.parts.one fun o6=>?_
 refine a7 hb.kH.sig.path.one fun o7=>?_
 refine a7 hb.gs.one fun o8=>?_
 obtain ⟨ts,fx,Tw,Gm⟩:=hb.path;have mw:ts.length=b.path.length:=by rw [← fx,ab]
 obtain ⟨gs,wI,UC,HH⟩:=hb.gs;have Tx:gs.length=b.eJ.length:=by rw [← wI,ab]
 refine a7 (Tw.shape zo) ?_;rintro ⟨⟨re,cp,rfl,-,-,-,-⟩,_⟩;refine a7 (UC.shape zo) ?_;rintro ⟨⟨adc,cc,rfl,-,-,-,-⟩,_⟩
 have Nw:jF ts=true:=by
  unfold jF;rw [decide_eq_true_iff];refine ⟨by omega,fun a ha=>hw.jD _ ?_⟩;rw [← fx];exact aD.2 ⟨a,ha,rfl⟩
 refine a8 (args:=[_]) func50 rfl ntmps50 results50 rfl ?_
 (repeat (refine wA ?_;intros))
 rename_i g1;refine aZ rfl rfl (l7 _ e b.idx) ?_;rintro _ _ ⟨rfl,rfl⟩;rw [ay h1];refine wB ?_;refine aZ rfl rfl (l7 _ e b.size) ?_;rintro _ _ ⟨rfl,rfl⟩;rw [ay h2];refine wB ?_;refine aZ rfl rfl (m0 _ e (.slice re ts.length cp) ts (Tw.cN zE) (fun x hx=>(Gm x hx).cN zE)) ?_;rintro _ _ ⟨rfl,rfl⟩;rw [Nw];refine wB ?_;refine aZ rfl rfl (ji _ e) ?_;rintro _ _ ⟨gw,rfl,rfl⟩;refine wB ?_;refine aZ rfl rfl (xf _ e gw [] b.fk vm (hb.fk.cN zE) (by simp only [List.length_nil];omega) QD) ?_;rintro _ _ ⟨rfl,rfl⟩;rw [show []++be (List.length b.fk) 2++b.fk=enc b.fk by simp [enc]];have el:=iw b.fk;refine wB ?_;refine aZ rfl rfl (gG _ e gw _ b.idx zo zo) ?_;rintro _ _ ⟨rfl,rfl⟩;refine wB ?_;refine aZ rfl rfl (gG _ e gw _ b.size zo (by simp only [aa,cY];omega)) ?_;rintro _ _ ⟨rfl,rfl⟩;refine wB ?_;rw [pY (n:=ts.length) zo];refine aZ rfl rfl (mm _ e gw _ _ (by simp only [aa,cY];omega)) ?_;rintro _ _ ⟨rfl,rfl⟩;refine wB ?_;refine aZ rfl rfl (Cz _ e gw _ (.slice re ts.length cp) b.path ⟨ts,fx,Tw.cN zE,fun x hx=>(Gm x hx).cN zE⟩ zo (by simp only [aa,cY,aj];omega)) ?_;rintro _ _ ⟨rfl,rfl⟩
 (repeat' first|refine Za ?_|apply Zc|apply Zd|apply Ze|apply Zf|refine Zh ?_|(apply O.dj;exact rfl;exact zP;(first|(simp only [aC,Nat.add_zero,Nat.reduceAdd,List.drop_succ_cons,List.drop_zero,List.take_succ_cons,List.take_zero];done)|(simp only [aC,Nat.add_zero,Nat.reduceAdd,List.drop_succ_cons,List.drop_zero,List.take_succ_cons,List.take_zero];exact rfl));exact rfl;exact rfl))
 refine aZ rfl rfl (AC _ e gw _ vr va vq b.kH (hb.kH.cN zE) hw.dd hw.sig (by simp only [aa,cY,aj];omega)) ?_;rintro _ _ ⟨rfl,rfl⟩;refine wB ?_;rw [pY (n:=gs.length) zo];refine aZ rfl rfl (mm _ e gw _ _ (by simp only [aa,cY,aj];omega)) ?_;rintro _ _ ⟨rfl,rfl⟩;refine wB ?_;refine aZ rfl rfl (Ez _ e gw _ (.slice adc gs.length cc) b.eJ ⟨gs,wI,UC.cN zE,fun x hx=>(HH x hx).cN zE⟩ zo hw.ey hw.sigs (by simp only [aa,cY,aj];omega)) ?_;rintro _ _ ⟨rfl,rfl⟩
 have kE:enc b.fk++be b.idx 4++be b.size 4++[UInt8.ofNat ts.length]++b.path.flatten++hZ b.kH++[UInt8.ofNat gs.length]++lv b.eJ=fU b:=by
  unfold fU;rw [mw,Tx];simp only [aM,List.cons_append,List.nil_append,List.singleton_append]
 rw [kE];refine wB ?_;refine aZ rfl rfl (hI _ e gw (fU b) zo) ?_;rintro _ _ ⟨ad,k,rfl,rfl⟩;refine wB ?_;exact aY (cR (.slice ad (fU b).length k) (fU b)::R) rfl zE ⟨ad,k,rfl,rfl⟩
abbrev nu:TypeId:=96
abbrev fV (v:Value) (l:List jn):cK:=dJ nu 4 v l.length (l.flatMap jn.cells)
abbrev pf:List Value:=r5 WG nY nY nY nY nY nY
theorem L4 {A B C D E F:cK} {R:List cK}:cC (A::B::C::D::E::F::R) (dI [A,B,C,D,E,F]::R):=dN (M:=[A,B,C,D,E,F])
end Go.Proofs
namespace Go.Proofs
attribute [local irreducible] Bs.cE Bs.Do Bs.O Bs.W Bs.Fin Bs.A Bs.Ct Bs.cF Bs.Rd Bs.Sat Bs.cM Bs.Ob Bs.dJ Bs.View Bs.cC Bs.Ex Bs.dI Bs.Pu Bs.eZ Bs.dK Bs.eh
open Go.Bs
open Tryz
variable (R:List cK) (e:World)
theorem oQ (gl ld lk:Nat) (seed:dA) (ls:gM) (i:Nat) (vr va vq vg:Value) (s:jU) (gs:List kF) (hs:ff R vr va vq s) (hf:s.sig.fits) (wI:oC R vg gs) (RA:∀ g∈gs,g.sig.fits) (B6:gs.length≤1000) (kD:s.dd.size≤ls.cI.length) (qs:ls.cI.length≤256) (hi:i≤1000000) :
 Ct prog 49 #[pt gl,.int .i64 (i:Int),.agg (dT s vr va vq).toArray,vg] e (db gl ld lk seed ls::R)
  (fun v' L'=>(i<s.dd.size→∃ (M:cK) (um up ur ua uq uc:Value),v'=.tuple #[.agg (r5 ⟨ls.cI.getD i [],i,s.dd.size,iF ((ls.cI.take s.dd.size).map cZ) i,s,gs⟩ um up ur ua uq uc).toArray,.int .i64 0]∧rh [M] um up ur ua uq uc ⟨ls.cI.getD i [],i,s.dd.size,iF ((ls.cI.take s.dd.size).map cZ) i,s,gs⟩∧L'=M::db gl ld lk seed ls::R)
   ∧ (¬ i<s.dd.size→v'=.tuple #[.agg pf.toArray,.int .i64 22]∧L'=db gl ld lk seed ls::R)):=by
 have mG:cC (db gl ld lk seed ls::R) R:=zE;refine a7 (cz (hs.root.cN mG)) fun o5=>?_
 refine a7 (hs.sig.cN mG).parts.one fun o6=>?_
 refine a7 (hs.sig.cN mG).path.one fun o7=>?_
 obtain ⟨ts,fx,RB,HH⟩:=wI;have mw:ts.length=gs.length:=by rw [← fx,ab]
 refine a7 ((RB.cN mG).shape zo) ?_;rintro ⟨⟨C3,cg,rfl,h3,h4,h5,h6⟩,_⟩;simp only [maxLen] at h4
 refine bI (args:=[_,_,_,_]) func49 rfl ntmps49 results49 rfl ?_
 (repeat (refine wA ?_;intros))
 rename_i g6 g8;refine aZ rfl rfl (Ct.at zP (vC _ e gl ld lk seed ls (i:Int) zo)) ?_;rintro _ _ (⟨lF,rfl,rfl⟩|⟨X2,S9,Kw,ci,rfl,rfl⟩)
 ·have SM:¬ i<s.dd.size:=by omega
  refine wB ?_;apply bB
  ·exact zV
  exact ⟨db gl ld lk seed ls::R,zE,fun h=>absurd h SM,fun _=>⟨rfl,rfl⟩⟩
 rw [show ((i:Int)).toNat=i from rfl]
 by_cases WO:i<s.dd.size
 rotate_left
 ·refine wB ?_;apply bB
  ·exact zV
  exact ⟨db gl ld lk seed ls::R,zE,fun h=>absurd h WO,fun _=>⟨rfl,rfl⟩⟩
 refine wB ?_;refine aZ rfl rfl (Ct.at zP (Jo _ e gl ld lk seed ls i s.dd.size kD WO)) ?_;rintro _ _ ⟨re,cp,out,rfl,lN,rfl⟩
 generalize hpq:iF ((ls.cI.take s.dd.size).map cZ) i=UP at *
 generalize sF:ls.cI.getD i []=item at *
 (repeat' first|refine W.oZ (id:=10) (fun j:Nat × cK × Value × Value × Value=>[(3,.slice C3 ts.length cg),(8,pt g8),(9,.int .i64 0),(14,pt j.1)]) (fun j=>cM j.1 (r5 ⟨item,i,s.dd.size,UP,s,[]⟩ (.slice Kw item.length ci) (.slice re out.length cp) j.2.2.1 j.2.2.2.1 j.2.2.2.2 nY) qP (0,0)::j.2.1::cR (.slice Kw item.length ci) item::cU (.slice re out.length cp) out::cG out::db gl ld lk seed ls::cM g8 pf qP (0,0)::R) (fun j=>ff [j.2.1] j.2.2.1 j.2.2.2.1 j.2.2.2.2 s) ?_ ?_|refine Za ?_|refine Zb ?_|apply Zc|apply Zd|apply Ze|apply Zf|refine ZQ ?_|refine Yh fun _=>?_|refine YA ?_|apply YC|refine YN ?_|refine YR ?_|fail)
 rotate_left
 ·refine ⟨?_⟩;rename_i KV;refine W.ir [(3,.slice C3 ts.length cg),(6,pt g6),(8,pt g8),(9,.int .i64 0),(10,.slice Kw item.length ci),(12,pt KV)] zS ?_
  (repeat' first|refine Za ?_|refine Zb ?_|apply Zc|apply Zd|apply Ze|apply Zf|refine Zh ?_|refine Zi ?_|refine Zj ?_|refine Zk ?_|refine Zl ?_|refine Zm ?_|refine Zn ?_|refine Zo ?_|refine Zq ?_|refine Zs ?_|refine Zt ?_|refine Zu ?_|refine Zy ?_|refine Zz ?_|refine ZA ?_|refine ZB ?_|refine ZC (fun _=>?_) fun _=>?_|refine ZJ ?_|refine ZK ?_|refine ZM ?_|refine ZN ?_|refine ZO (fun _=>?_) fun _=>?_|refine ZP ?_|refine ZQ ?_|refine ZS ?_|refine Z7 ?_|refine Z8 ?_|refine Yd ?_|refine Ye ?_|refine Yg fun _=>?_|refine Yh fun _=>?_|refine Yi fun _=>?_|refine Ym ?_|refine Yw ?_|refine Yx ?_|refine Yy ?_|refine Yz ?_|refine YA ?_|apply YB|apply YC|apply YD|apply YE|apply YF|apply YG|apply YH|apply YI|apply YJ|refine YK ?_|refine YN ?_|refine YQ ?_|refine YR ?_|(apply O.dj;exact rfl;exact zP;(first|(simp only [aC,Nat.add_zero,Nat.reduceAdd,List.drop_succ_cons,List.drop_zero,List.take_succ_cons,List.take_zero];done)|(simp only [aC,Nat.add_zero,Nat.reduceAdd,List.drop_succ_cons,List.drop_zero,List.take_succ_cons,List.take_zero];exact rfl));exact rfl;exact rfl))
  refine bl (id:=9) [6] (cM KV [.int .i64 (i:Int),.int .i64 (s.dd.size:Int),.slice re out.length cp] 40 (0,0)::cM g6 (dT s vr va vq) 87 (0,0)::R) mixed ?_
  (refine tM 0 ?_;refine tJ 1 ?_;refine tJ 2 ?_)
  refine A.two 3 5 rfl rfl rfl rfl zK ?_ ?_
  ·refine bg rfl rfl (iz _ e vr va vq s (hs.cN zE) hf) ?_;rintro _ _ ⟨N,ur,ua,uq,rfl,hN,rfl⟩;refine ⟨fun _=>zE,?_⟩;refine A.cB (cz (hN.root.cN (cH zP))) fun o8=>?_
   refine A.cB (hN.sig.cN (cH zP)).parts.one fun o9=>?_
   refine A.cB (hN.sig.cN (cH zP)).path.one fun LZ=>?_
   (refine tk 4 _ rfl (bL rfl zF) ?_)
   refine tO 5 ?_;refine bS (cs:=pf) rfl rfl fun zu=>⟨fun _=>zE,?_⟩
   refine tO 6 ?_;refine zg ?_;refine ⟨zN,?_⟩;refine bf zK ?_;exact bH (zu,N,ur,ua,uq) hN zS zE
  ·refine bS (cs:=pf) rfl rfl fun zu=>⟨fun _=>zE,?_⟩
   refine tO 3 ?_;refine bg rfl rfl (iz _ e vr va vq s (hs.cN zE) hf) ?_;rintro _ _ ⟨N,ur,ua,uq,rfl,hN,rfl⟩;refine ⟨fun _=>zE,?_⟩;refine A.cB (cz (hN.root.cN (cH zP))) fun o8=>?_
   refine A.cB (hN.sig.cN (cH zP)).parts.one fun o9=>?_
   refine A.cB (hN.sig.cN (cH zP)).path.one fun LZ=>?_
   (refine tk 4 _ rfl (bL rfl zF) ?_)
   refine tO 6 ?_;refine zg ?_;refine ⟨zN,?_⟩;refine bf zK ?_;exact bH (zu,N,ur,ua,uq) hN zS zE
 rintro ⟨zu,N,ur,ua,uq⟩ hN;dsimp only at hN ⊢
 refine bG (cz (hN.root.cN (cH zP))) fun o8=>?_
 refine bG (hN.sig.cN (cH zP)).parts.one fun o9=>?_
 refine bG (hN.sig.cN (cH zP)).path.one fun LZ=>?_
 refine wB ?_;refine br (ι:=Nat × List jn × cK × Option Addr × Nat) (fun j=>[(8,pt g8),(9,.int .i64 0),(14,pt zu),(54,.slice C3 ts.length cg),(55,.int .i64 (ts.length:Int)),(56,.int .i64 (j.1:Int))]) (fun j=>cM zu (r5 ⟨item,i,s.dd.size,UP,s,[]⟩ (.slice Kw item.length ci) (.slice re out.length cp) ur ua uq (.slice j.2.2.2.1 j.2.1.length j.2.2.2.2)) qP (0,0)::fV (.slice j.2.2.2.1 j.2.1.length j.2.2.2.2) j.2.1::j.2.2.1::N::cR (.slice Kw item.length ci) item::cU (.slice re out.length cp) out::cG out::db gl ld lk seed ls::cM g8 pf qP (0,0)::R) (fun j=>j.1≤ts.length∧j.2.1.map (·.1)=gs.take j.1∧∀ t∈j.2.1,jn.ok [j.2.2.1] t) (fun j=>ts.length - j.1) (0,[],cG [],none,0) ⟨aG _,rfl,fun t ht=>by cases ht⟩ zS (cn (dC) (cn (di nu 4) zE)) ?_;rintro ⟨k,us,Mx,mH,cu⟩ ⟨hk,fZ,QE⟩;dsimp only at hk fZ QE ⊢
 have HD:us.length=k:=by have:=congrArg List.length fZ;rw [ab,aE] at this;omega
 by_cases cQ:k<ts.length
 rotate_left
 ·rw [aF zo] at fZ
  obtain ⟨M,hM⟩:∃ M:cK,M=dI [cR (.slice Kw item.length ci) item,cU (.slice re out.length cp) out,cG out,N,fV (.slice mH us.length cu) us,Mx]:=⟨_,rfl⟩
  have ho:cC [M] [cR (.slice Kw item.length ci) item,cU (.slice re out.length cp) out,cG out,N,fV (.slice mH us.length cu) us,Mx]:=by rw [hM];exact cW (M:=[_,_,_,_,_,_]) (L:=[])
  have pK:rh [M] (.slice Kw item.length ci) (.slice re out.length cp) ur ua uq (.slice mH us.length cu) ⟨item,i,s.dd.size,UP,s,gs⟩ :=
   ⟨(ba .zero).cN ho,j8.cN ⟨out,lN,ba (.succ .zero),dE.ea (.succ (.succ .zero))⟩ ho,(hN.cN (cH zP)).cN ho,oC.cN ⟨us,fZ,ba zP,fun t ht=>(QE t ht).cN (cH zP)⟩ ho⟩
  refine wB ?_;apply bB
  ·exact zV
  refine ⟨M::db gl ld lk seed ls::R,cn ?_ (by rw [hM];exact L4),fun _=>⟨M,.slice Kw item.length ci,.slice re out.length cp,ur,ua,uq,.slice mH us.length cu,rfl,pK,rfl⟩,fun h=>absurd WO h⟩;exact zE
 rcases h6 with h6|⟨gg,og,rfl⟩
 ·omega
 have F5:eh R gg (og+k*4) (jn.cells (ts[k]'cQ)):=eh.elem RB jn.len (ae cQ);have js:=HH _ (az cQ);have yx:k<gs.length:=by omega
 have D6:(ts[k]'cQ).1=gs[k]'yx:=by
  have:=congrArg (fun l=>l[k]?) fx;simp only [aI,ae cQ,ae yx,Option.map_some,Option.some.injEq] at this
  exact this
 have fq:gs.take (k+1)=gs.take k++[gs[k]'yx]:=aA yx;have IW:=RA _ (az yx);rw [← D6] at fq IW
 generalize ts[k]'cQ=y at *
 obtain ⟨⟨w,sg⟩,up,O3⟩:=y;obtain ⟨t1,t2⟩:=js;dsimp only at t1 t2 IW fq F5
 refine bG (t1.cN zE).parts.one fun Ty=>?_
 refine bG (t1.cN zE).path.one fun UQ=>?_
 (repeat (refine wA ?_;intros))
 rename_i g16;have MN:List.length [Value.int .i64 (w:Int),.int .i64 (sg.idx:Int),up,O3]=4:=rfl;dsimp only [jn.cells];refine bl (id:=13) [6,7] (cM g16 (iy ⟨w,sg⟩ up O3) nu (0,0)::cM zu (r5 ⟨item,i,s.dd.size,UP,s,[]⟩ (.slice Kw item.length ci) (.slice re out.length cp) ur ua uq (.slice mH us.length cu)) qP (0,0)::R) mixed ?_
 (refine tF 0 ?_;refine tL 1 ?_;refine tJ 2 ?_)
 refine tO 3 ?_;refine bg rfl rfl (oD _ e up O3 ⟨w,sg⟩ (t1.cN zE) IW) ?_;rintro _ _ ⟨N2,wp,wq,rfl,m5,rfl⟩;refine ⟨fun _=>zE,?_⟩;refine A.cB (m5.cN (cH zP)).parts.one fun ZL=>?_
 refine A.cB (m5.cN (cH zP)).path.one fun ZR=>?_
 refine tO 4 ?_;refine bF (n:=4) (cs:=iy ⟨w,sg⟩ wp wq) rfl rfl rfl rfl zQ rfl (fun gb=>⟨fun _=>zE,?_⟩);refine tO 5 ?_;refine bm rfl rfl rfl (show cT _ (fV (.slice mH us.length cu) us) _ from zP) (bQ (n:=4) (c:=1) zP rfl zl) rfl rfl zO zm zo fun dW k1 _=>⟨fun _=>zE,?_⟩
 refine tO 6 ?_;refine dV (bb rfl) ?_;refine tO 7 ?_;refine tZ ?_;refine ⟨zN,?_⟩;refine bf zK ?_;refine wB ?_;have eW:cC [dI [Mx,N2]] [Mx]:=cn (cW (M:=[_,_]) (L:=[])) (bh bK);have iH:cC [dI [Mx,N2]] [N2]:=cn (cW (M:=[_,_]) (L:=[])) (cC.drop (bh bK));refine bi (k+1,us++[(⟨w,sg⟩,wp,wq)],dI [Mx,N2],dW,k1) ⟨cQ,by dsimp only;rw [fq,ah,fZ];rfl,fun t ht=>?_⟩ zd zS ?_
 ·rcases aJ.1 ht with ht|ht
  ·exact (QE t ht).cN eW
  ·rw [an.1 ht];exact ⟨m5.cN iH,t2⟩
 ·simp only [fV,aa,aj,aW,aV,List.flatMap_nil,aK];exact cn (eu (A:=Mx) (B:=N2) zP zP) zE
abbrev sr:TypeId:=321
abbrev N4:TypeId:=330
abbrev FW.cells (x:FW):List Value:=[.int .i64 (x.size:Int),.int .i64 (x.tries:Int),.bool x.kept]
theorem QF (x:FW):x.cells.length=3:=rfl
abbrev kX (v:Value) (l:List FW):cK:=dJ N4 3 v l.length (l.flatMap FW.cells)
structure eM where
 ga:Nat
 vl:Value
 vw:Value
 al:Option Addr
 cl:Nat
 ur:Value
 up:Value
 uq:Value
 ak:Option Addr
 ck:Nat
 ts:List jn
 dr:Value
 dp:Value
 dq:Value
 ve:Value
structure eM.ok (a:eM) (M:cK) (p:jK) (retry n:Nat) (s:cS):Prop where
 wJ:j3 [M] a.vl a.vw p
 cur:ff [M] a.ur a.up a.uq s.dY
 RC:a.ts.map (·.1)=s.kept
 Pb:∀ t∈a.ts,jn.ok [M] t
 done:ff [M] a.dr a.dp a.dq s.done
 dm:oC [M] a.ve s.dm
 st:s.ok p.ey.length n
 pr:p.right
 low:1≤retry
 high:retry≤100
abbrev eM.cells (a:eM) (p:jK) (retry:Nat) (s:cS):List Value:=lq p a.vl a.vw++[.int .i64 (retry:Int),pt a.ga,.slice a.al s.st.length a.cl]++dT s.dY a.ur a.up a.uq++[.bool s.cur.isSome,.slice a.ak a.ts.length a.ck]++dT s.done a.dr a.dp a.dq++[a.ve]
abbrev oR (g:Nat) (p:jK) (retry:Nat) (s:cS) (a:eM) (M:cK) (R:List cK):List cK :=
 cM g (a.cells p retry s) sr (0,0)::M::kX (.slice a.al s.st.length a.cl) s.st::fV (.slice a.ak a.ts.length a.ck) a.ts::r7 a.ga s.ord s.ag::R
def QG (g:Nat) (p:jK) (retry n:Nat) (s:cS) (a:eM) (M:cK):cK:=dI (Pu (a.ok M p retry n s)::oR g p retry s a M [])
def mq (g:Nat) (p:jK) (retry n:Nat) (s:cS):cK:=Ex fun a=>Ex fun M=>QG g p retry n s a M
theorem uL {g:Nat} {p:jK} {retry n:Nat} {s:cS} {R:List cK} {P:Program} {f:FuncId} {args:Array Value} {e:World} {Post:Value→List cK→Prop}
 (h:∀ (a:eM) (M:cK),a.ok M p retry n s→Ct P f args e (oR g p retry s a M R) Post):Ct P f args e (mq g p retry n s::R) Post :=
 Ct.ex .zero fun a=>Ct.ex .zero fun M=>Ct.cN (a7 (p:=a.ok M p retry n s) (fun w x=>(ke x).1) fun hp=>(h a M hp).cN (cC.drop aX)) (cW (M:=Pu (a.ok M p retry n s)::oR g p retry s a M []) (L:=R))
theorem lL {g:Nat} {p:jK} {retry n:Nat} {s:cS} {a:eM} {M:cK} {R:List cK} (h:a.ok M p retry n s):cC (oR g p retry s a M R) (mq g p retry n s::R) :=
 cn (oX h) (cn (dN (M:=Pu (a.ok M p retry n s)::oR g p retry s a M []) (L:=R)) (cn (fI (f:=fun M=>QG g p retry n s a M) M) (fI (f:=fun a=>Ex fun M=>QG g p retry n s a M) a)))
theorem r8 (g ga o t w:Nat) (l:List AE) (hg:Rd R ⟨g,4,none⟩ (pt ga)) (hf:∀ x∈l,x.fits) (ht:t≤1000000000) (hw:w≤1000000000) (ho:o≤1000000000) (hl:l.length≤100000) :
 Ct prog 246 #[pt g,.int .i64 (t:Int),.int .i64 (w:Int)] e (r7 ga o l::R) (fun v' L'=>v'=.tuple #[]∧L'=r7 ga (o+1) (pd (gL l w) ⟨t,o,w⟩)::R):=by
 have BB:=GM (l:=l) (w:=w);refine a8 (args:=[_,_,_]) func246 rfl ntmps246 results246 rfl ?_
 (repeat' first|(refine b7 rfl hg.tail rfl ?_)|refine Za ?_|apply Zc|apply Zd|refine Zg ?_|refine Zh ?_|fail)
 refine aZ rfl rfl (tz R e ga o l w hf hl) ?_;rintro _ _ ⟨⟨z,rfl⟩,rfl⟩
 (repeat' first|(refine b7 rfl hg.tail rfl ?_)|refine Za ?_|apply Zd|apply Ze|apply Zf|refine Zg ?_|refine Zh ?_|fail)
 refine aZ rfl rfl (JN R e ga o (gL l w) t w (fun x hx=>hf x (List.mem_filter.1 ((jA l w).mem_iff.1 hx)).1) ht hw ho zo) ?_;rintro _ _ ⟨rfl,rfl⟩
 (repeat (refine wA ?_;intros))
 exact bX (r7 ga (o+1) (pd (gL l w) ⟨t,o,w⟩)::R) rfl aX ⟨rfl,rfl⟩
theorem oS (L:List cK):ff L nY nY nY uI :=
 ⟨cF.nil _ _,Cj L,⟨by decide,by decide⟩⟩
theorem yA {n:Nat} {x:FW}:(List.replicate n x).flatMap FW.cells=(List.replicate n (FW.cells x)).flatten:=by
 rw [List.flatMap_def,List.map_replicate]
theorem JR (vl vw:Value) (p:jK) (retry:Nat) (hp:j3 R vl vw p) (sq:p.right) (h1:1≤retry) (h2:retry≤100) :
 Ct prog 164 #[.agg (lq p vl vw).toArray,.int .i64 (retry:Int)] e R (fun v' L'=>∃ g,v'=.tuple #[pt g,.int .i64 0]∧L'=mq g p retry 0 (zp p.ey.length)::R):=by
 have EA:=sq.iC;have Tz:=sq.log;refine a7 (cz hp.log) fun o2=>?_
 refine a7 hp.ey.one fun o3=>?_
 obtain ⟨ts,fx,pa,Gm⟩:=hp.ey;have mw:ts.length=p.ey.length:=by rw [← fx,ab]
 refine a7 (pa.shape zo) ?_;rintro ⟨⟨Fe,cw,rfl,-,-,-,-⟩,_⟩;refine a8 (args:=[_,_]) func164 rfl ntmps164 results164 rfl ?_
 (repeat (refine wA ?_;intros))
 rename_i g2;refine aZ rfl rfl (j4 _ e vl (.slice Fe ts.length cw) p (hp.cN zE) sq) ?_;rintro _ _ ⟨rfl,rfl⟩;refine wB ?_;have JS:=fun (L:List cK) (h:cC L R)=>Cs L e vl (.slice Fe ts.length cw) p (hp.cN h) zo zo (fun b hb=>by have:=sq.kI b hb;omega)
 refine bl (id:=3) [10,11] (cM g2 (lq p vl (.slice Fe ts.length cw)) 106 (0,0)::R) mixed ?_
 (refine tJ 0 ?_;refine tM 2 ?_;refine tF 4 ?_;refine tL 5 ?_;refine tk 6 _ rfl (bO rfl) ?_)
 refine A.two 1 7 rfl rfl rfl rfl zK ?_ ?_
 ·refine bg rfl rfl (JS _ zE) ?_;rintro _ _ ⟨Mp,ul,uw,rfl,Fa,rfl⟩;refine ⟨fun _=>zE,?_⟩;refine A.cB (cz (Fa.log.cN (cH zP))) fun o4=>?_
  refine A.cB (Fa.ey.cN (cH zP)).one fun o5=>?_
  refine A.two 3 7 rfl rfl rfl rfl zK ?_ ?_
  ·refine bg rfl rfl (uJ _ e) ?_;rintro _ _ ⟨ga,rfl,rfl⟩;refine ⟨fun _=>zE,?_⟩;refine tO 7 ?_;refine Do.r6 (c:=ts.length) (zs:=FW.cells k9) rfl rfl rfl rfl rfl rfl zm zo fun gs=>⟨fun _=>zE,?_⟩
   refine tk 8 _ rfl (bL rfl zF) ?_;refine tO 9 ?_;refine Do.box (cs:=eM.cells ⟨ga,ul,uw,some ⟨gs,0,none⟩,ts.length,nY,nY,nY,none,0,[],nY,nY,nY,nY⟩ p retry (zp ts.length)) rfl (by simp [zp,cS.dY,uI];rfl) rfl fun gf=>⟨fun _=>zE,?_⟩
   refine tO 10 ?_;refine dV (bj rfl) ?_;refine tO 11 ?_;refine dV (bj rfl) ?_;refine bf zK ?_;refine wB ?_
   have kQ:eM.ok ⟨ga,ul,uw,some ⟨gs,0,none⟩,ts.length,nY,nY,nY,none,0,[],nY,nY,nY,nY⟩ Mp p retry 0 (zp ts.length) :=
    ⟨Fa,oS _,rfl,fun t ht=>absurd ht aO,oS _,⟨[],rfl,cF.nil _ _,fun t ht=>absurd ht aO⟩,by rw [mw];exact Cn _,sq,h1,h2⟩
   rw [← mw];refine aY (mq gf p retry 0 (zp ts.length)::R) rfl (cn (cn (di nu 4) ?_) (lL kQ)) ⟨gf,rfl,rfl⟩;simp only [oR,kX,zp,List.length_replicate,← yA];exact zE
  ·refine Do.r6 (c:=ts.length) (zs:=FW.cells k9) rfl rfl rfl rfl rfl rfl zm zo fun gs=>⟨fun _=>zE,?_⟩
   refine tO 3 ?_;refine bg rfl rfl (uJ _ e) ?_;rintro _ _ ⟨ga,rfl,rfl⟩;refine ⟨fun _=>zE,?_⟩;refine tk 8 _ rfl (bL rfl zF) ?_;refine tO 9 ?_;refine Do.box (cs:=eM.cells ⟨ga,ul,uw,some ⟨gs,0,none⟩,ts.length,nY,nY,nY,none,0,[],nY,nY,nY,nY⟩ p retry (zp ts.length)) rfl (by simp [zp,cS.dY,uI];rfl) rfl fun gf=>⟨fun _=>zE,?_⟩
   refine tO 10 ?_;refine dV (bj rfl) ?_;refine tO 11 ?_;refine dV (bj rfl) ?_;refine bf zK ?_;refine wB ?_
   have kQ:eM.ok ⟨ga,ul,uw,some ⟨gs,0,none⟩,ts.length,nY,nY,nY,none,0,[],nY,nY,nY,nY⟩ Mp p retry 0 (zp ts.length) :=
    ⟨Fa,oS _,rfl,fun t ht=>absurd ht aO,oS _,⟨[],rfl,cF.nil _ _,fun t ht=>absurd ht aO⟩,by rw [mw];exact Cn _,sq,h1,h2⟩
   rw [← mw];refine aY (mq gf p retry 0 (zp ts.length)::R) rfl (cn (cn (di nu 4) ?_) (lL kQ)) ⟨gf,rfl,rfl⟩;simp only [oR,kX,zp,List.length_replicate,← yA];exact zE
 ·refine Do.r6 (c:=ts.length) (zs:=FW.cells k9) rfl rfl rfl rfl rfl rfl zm zo fun gs=>⟨fun _=>zE,?_⟩
  refine tO 1 ?_;refine bg rfl rfl (JS _ zE) ?_;rintro _ _ ⟨Mp,ul,uw,rfl,Fa,rfl⟩;refine ⟨fun _=>zE,?_⟩;refine A.cB (cz (Fa.log.cN (cH zP))) fun o4=>?_
  refine A.cB (Fa.ey.cN (cH zP)).one fun o5=>?_
  refine tO 3 ?_;refine bg rfl rfl (uJ _ e) ?_;rintro _ _ ⟨ga,rfl,rfl⟩;refine ⟨fun _=>zE,?_⟩;refine tk 8 _ rfl (bL rfl zF) ?_;refine tO 9 ?_;refine Do.box (cs:=eM.cells ⟨ga,ul,uw,some ⟨gs,0,none⟩,ts.length,nY,nY,nY,none,0,[],nY,nY,nY,nY⟩ p retry (zp ts.length)) rfl (by simp [zp,cS.dY,uI];rfl) rfl fun gf=>⟨fun _=>zE,?_⟩
  refine tO 10 ?_;refine dV (bj rfl) ?_;refine tO 11 ?_;refine dV (bj rfl) ?_;refine bf zK ?_;refine wB ?_
  have kQ:eM.ok ⟨ga,ul,uw,some ⟨gs,0,none⟩,ts.length,nY,nY,nY,none,0,[],nY,nY,nY,nY⟩ Mp p retry 0 (zp ts.length) :=
   ⟨Fa,oS _,rfl,fun t ht=>absurd ht aO,oS _,⟨[],rfl,cF.nil _ _,fun t ht=>absurd ht aO⟩,by rw [mw];exact Cn _,sq,h1,h2⟩
  rw [← mw];refine aY (mq gf p retry 0 (zp ts.length)::R) rfl (cn (cn (di nu 4) ?_) (lL kQ)) ⟨gf,rfl,rfl⟩;simp only [oR,kX,zp,List.length_replicate,← yA];exact zE
theorem m6 {l:List FW} {i:Nat} (h:i<l.length):l.getD i k9=l[i]'h:=by simp [List.getD,h]
theorem qI {α:Type} {f:α→List Value} {n:Nat} (hf:∀ a,(f a).length=n):∀ (l:List α) (i k:Nat) (h:i<l.length) (a:α) (v:Value),k<n→f a=(f (l[i]'h)).set k v→(l.flatMap f).set (i*n+k) v=(l.set i a).flatMap f
 | [],i,k,h,_,_,_,_=>absurd h (Nat.not_lt_zero i)
 | x::l,0,k,h,a,v,hk,he=>by
  rw [Nat.zero_mul,aC,aV,List.set_cons_zero,aV,List.set_append_left _ _ (by rw [hf];exact hk)];rw [show f a=(f x).set k v from he]
 | x::l,i+1,k,h,a,v,hk,he=>by
  rw [aV,List.set_cons_succ,aV,List.set_append_right _ _ (by rw [hf,Nat.add_mul];omega),hf]
  congr 1
  rw [show (i+1)*n+k - n=i*n+k by rw [Nat.add_mul];omega];exact qI hf l i k (by simpa using h) a v hk he
theorem EB {l:List FW} {i:Nat} (h:i<l.length) (n:Nat):(l.flatMap FW.cells).set (i*3+1) (.int .i64 (n:Int))=(l.set i { l.getD i k9 with tries:=n }).flatMap FW.cells :=
 qI QF l i 1 h _ _ zo (by rw [m6 h];rfl)
theorem H4 {l:List FW} {i:Nat} (h:i<l.length) (n:Nat):(l.flatMap FW.cells).set (i*3+0) (.int .i64 (n:Int))=(l.set i { l.getD i k9 with size:=n }).flatMap FW.cells :=
 qI QF l i 0 h _ _ zo (by rw [m6 h];rfl)
theorem H5 {l:List FW} {i:Nat} (h:i<l.length) (b:Bool):(l.flatMap FW.cells).set (i*3+2) (.bool b)=(l.set i { l.getD i k9 with kept:=b }).flatMap FW.cells :=
 qI QF l i 2 h _ _ zo (by rw [m6 h];rfl)
theorem QH {l:List FW} {i:Nat} (h:i<l.length):((l.flatMap FW.cells).set (i*3+1) (.int .i64 0)).set (i*3+2) (.bool false)=(l.set i (l.getD i k9).off).flatMap FW.cells:=by
 rw [show (Value.int .i64 0)=.int .i64 ((0:Nat):Int) from rfl,EB h,H5 (by rw [List.length_set];exact h),List.set_set]
 congr 2
 rw [m6 (by rw [List.length_set];exact h),List.getElem_set_self]
 rfl
theorem oT {v:Value} {l:List FW} {L R:List cK} (p:cT L (kX v l) R):∀ h,dK L h→∃ ad c,v=.slice ad l.length c∧l.length≤c∧c≤maxLen∧((ad=none∧c=0∧l.length=0)∨∃ g,ad=some ⟨g,0,none⟩):=fun h hs=>(gx p h hs).1
theorem eM.ok.mono {a:eM} {M:cK} {p:jK} {retry n m:Nat} {s:cS} (h:a.ok M p retry n s) (hm:n≤m):a.ok M p retry m s:={ h with st:=h.st.mono hm }
theorem EC (g:Nat) (p:jK) (retry n:Nat) (s:cS) (vr vp vq:Value) (x:jU) (now:Nat) (hx:ff R vr vp vq x) (MY:x.fits) (ht:now≤10000000) (hn:n≤999000) :
 Ct prog 172 #[pt g,.agg (dT x vr vp vq).toArray,.int .i64 (now:Int)] e (mq g p retry n s::R) (fun v' L'=>v'=.bool (decide (s.Es p x))∧L'=mq g p retry (n+p.ey.length) (s.ii p x now)::R):=by
 refine uL fun a M ha=>?_
 have EA:=ha.pr.iC;have mG:cC (oR g p retry s a M R) R:=zE;have GD:cC (oR g p retry s a M R) [M]:=cH zP;refine a7 (cz (hx.root.cN mG)) fun o5=>?_
 refine a7 (hx.sig.cN mG).parts.one fun o6=>?_
 refine a7 (hx.sig.cN mG).path.one fun o7=>?_
 refine a7 (cz (ha.wJ.log.cN GD)) fun o8=>?_
 refine a7 (oT (show cT (oR g p retry s a M R) (kX (.slice a.al s.st.length a.cl) s.st) _ from zP)) ?_;rintro ⟨lE,c',lG,CX,M7,Ae⟩
 cases lG
 have hlen:=ha.st.len;have yV:1≤s.st.length:=by have:=ha.pr.low;have:=ha.pr.high;omega
 rcases Ae with ⟨-,-,Ae⟩|⟨gs,qy⟩
 ·omega
 refine a8 (args:=[_,_,_]) func172 rfl ntmps172 results172 rfl ?_;have hga:eM.ok a M p retry n s:=ha
 (repeat' first|refine W.rn (id:=3) (fun j:Nat=>[(0,pt g),(2,.int .i64 (now:Int)),(4,pt j)]) (fun j=>cM j (dT x vr vp vq) 87 (0,0)::oR g p retry s a M R) (fun _=>s.Es p x) ?_ ?_|refine Zb ?_|apply Zc|apply Zd|apply Ze|apply Zf|refine Yg fun _=>?_|fail)
 rotate_left
 ·refine ⟨?_⟩;rename_i g4
  (repeat (refine wA ?_;intros))
  refine bE (id:=1) [] mixed ?_
  (refine tM 0 ?_;refine tN 1 ?_;refine tF 2 ?_;refine tF 3 ?_;refine tL 4 ?_;refine tJ 5 ?_)
  refine tO 6 ?_;refine bg rfl rfl (ku _ e a.vl vr vp vq p.log x (ha.wJ.log.cN (cH zP)) (hx.cN zE) MY.1) ?_;rintro _ _ ⟨rfl,rfl⟩;refine ⟨fun _=>zE,A.fF zE ?_⟩
  by_cases hb:s.Es p x
  rotate_left
  ·have hS:s.ii p x now=s:=by unfold cS.ii;rw [aB hb]
   rw [hS,aq hb];have fS:=lL (R:=R) (g:=g) (ha.mono (m:=n+p.ey.length) zo)
   by_cases hv:x.hJ p.log
   ·rw [ay hv]
    obtain ⟨c,hc,Iz⟩:∃ c,s.cur=some c∧x.dd.size≤c.dd.size:=by
     by_cases h:∃ c,s.cur=some c∧x.dd.size≤c.dd.size
     ·exact h
     ·exact absurd ⟨hv,fun c hc hs=>h ⟨c,hc,hs⟩⟩ hb
    have H2:s.dY=c:=by unfold cS.dY;rw [hc];rfl
    have A6:s.cur.isSome=true:=by rw [hc];rfl
    dsimp only [oR,eM.cells] at fS ⊢
    rw [H2,A6] at fS ⊢
    (refine tk 7 _ rfl (cE.jX rfl) ?_;refine tM 8 ?_;refine du 9 _ rfl (bw rfl) ?_;refine du 10 _ rfl (bp rfl) ?_;refine du 11 _ rfl (bb rfl) ?_;refine du 12 _ rfl (bq rfl zR) ?_;refine du 13 _ rfl (bw rfl) ?_;refine du 14 _ rfl (bb rfl) ?_;refine du 15 _ rfl (bb rfl) ?_;refine du 16 _ rfl (bq rfl zR) ?_;refine du 17 _ rfl (bw rfl) ?_;refine du 18 _ rfl (bp rfl) ?_;refine du 19 _ rfl (bb rfl) ?_;refine du 20 _ rfl (bb rfl) ?_;refine du 21 _ rfl (bb rfl) ?_;refine du 22 _ rfl (bq rfl zR) ?_;refine du 23 (.bool true) rfl (cE.iX (cE.leq rfl rfl) zy) ?_;refine du 24 _ rfl (bM rfl rfl) ?_;refine tk 25 _ rfl (bJ rfl rfl) ?_)
    refine bf zK ?_;refine wB ?_;exact aY (mq g p retry (n+p.ey.length) s::R) rfl (cn zE fS) ⟨rfl,rfl⟩
   ·rw [aq hv]
    (refine tk 7 _ rfl (cE.pF rfl) ?_;refine tM 8 ?_;refine bc 9 rfl rfl zK zE rfl ?_;refine bc 10 rfl rfl zK zE rfl ?_;refine bc 11 rfl rfl zK zE rfl ?_;refine bc 12 rfl rfl zK zE rfl ?_;refine bc 13 rfl rfl zK zE rfl ?_;refine bc 14 rfl rfl zK zE rfl ?_;refine bc 15 rfl rfl zK zE rfl ?_;refine bc 16 rfl rfl zK zE rfl ?_;refine bc 17 rfl rfl zK zE rfl ?_;refine bc 18 rfl rfl zK zE rfl ?_;refine bc 19 rfl rfl zK zE rfl ?_;refine bc 20 rfl rfl zK zE rfl ?_;refine bc 21 rfl rfl zK zE rfl ?_;refine bc 22 rfl rfl zK zE rfl ?_;refine bc 23 rfl rfl zK zE rfl ?_;refine bc 24 rfl rfl zK zE rfl ?_;refine tk 25 _ rfl (bM rfl rfl) ?_)
    refine bf zK ?_;refine wB ?_;exact aY (mq g p retry (n+p.ey.length) s::R) rfl (cn (show cC _ (oR g p retry s a M R) from zE) fS) ⟨rfl,rfl⟩
  rw [ay hb.1]
  cases hc:s.cur with
  | none =>
   have A6:s.cur.isSome=false:=by rw [hc];rfl
   dsimp only [oR,eM.cells];rw [A6]
   (refine tk 7 _ rfl (cE.jX rfl) ?_;refine tM 8 ?_;refine du 9 _ rfl (bw rfl) ?_;refine du 10 _ rfl (bp rfl) ?_;refine du 11 _ rfl (bb rfl) ?_;refine du 12 _ rfl (bq rfl zR) ?_;refine du 13 _ rfl (bw rfl) ?_;refine bc 14 rfl rfl zK zE rfl ?_;refine bc 15 rfl rfl zK zE rfl ?_;refine bc 16 rfl rfl zK zE rfl ?_;refine bc 17 rfl rfl zK zE rfl ?_;refine bc 18 rfl rfl zK zE rfl ?_;refine bc 19 rfl rfl zK zE rfl ?_;refine bc 20 rfl rfl zK zE rfl ?_;refine bc 21 rfl rfl zK zE rfl ?_;refine bc 22 rfl rfl zK zE rfl ?_;refine bc 23 rfl rfl zK zE rfl ?_;refine du 24 _ rfl (bJ rfl rfl) ?_;refine tk 25 _ rfl (bJ rfl rfl) ?_)
   refine bf zK ?_;refine wB ?_;exact bH g4 hb zS zE
  | some c =>
   have H2:s.dY=c:=by unfold cS.dY;rw [hc];rfl
   have A6:s.cur.isSome=true:=by rw [hc];rfl
   have Iz:=hb.2 c hc;dsimp only [oR,eM.cells];rw [H2,A6]
   (refine tk 7 _ rfl (cE.jX rfl) ?_;refine tM 8 ?_;refine du 9 _ rfl (bw rfl) ?_;refine du 10 _ rfl (bp rfl) ?_;refine du 11 _ rfl (bb rfl) ?_;refine du 12 _ rfl (bq rfl zR) ?_;refine du 13 _ rfl (bw rfl) ?_;refine du 14 _ rfl (bb rfl) ?_;refine du 15 _ rfl (bb rfl) ?_;refine du 16 _ rfl (bq rfl zR) ?_;refine du 17 _ rfl (bw rfl) ?_;refine du 18 _ rfl (bp rfl) ?_;refine du 19 _ rfl (bb rfl) ?_;refine du 20 _ rfl (bb rfl) ?_;refine du 21 _ rfl (bb rfl) ?_;refine du 22 _ rfl (bq rfl zR) ?_;refine du 23 (.bool false) rfl (cE.no (cE.leq rfl rfl) zn) ?_;refine du 24 _ rfl (bM rfl rfl) ?_;refine tk 25 _ rfl (bJ rfl rfl) ?_)
   refine bf zK ?_;refine wB ?_;exact bH g4 hb zS zE
 rintro g4 hb;have hS:s.ii p x now=cS.lD now s.st.length { s with cur:=some x,kept:=[] }:=by unfold cS.ii;rw [aH hb]
 rw [hS,ay hb];have DL:=cS.HZ ha.st MY hb;refine wB ?_;refine aZ rfl rfl (iz _ e vr vp vq x (hx.cN zE) MY.2.fits) ?_;rintro _ _ ⟨N,ur,up,uq,rfl,hN,rfl⟩;refine bo (cz (hN.root.cN (cH zP))) fun o9=>?_
 refine bo (hN.sig.cN (cH zP)).parts.one fun LZ=>?_
 refine bo (hN.sig.cN (cH zP)).path.one fun Ty=>?_
 refine wB ?_;obtain ⟨s1,fy⟩:∃ s1:cS,s1={ s with cur:=some x,kept:=[] }:=⟨_,rfl⟩
 rw [← fy] at DL ⊢
 have X3:s1.kept=[]:=by rw [fy]
 have G0:s1.st=s.st:=by rw [fy]
 have qL:s1.st.length=p.ey.length:=by rw [G0];exact hlen
 have QI:s1.dY=x:=by rw [fy];rfl
 have WR:s1.cur.isSome=true:=by rw [fy];rfl
 have TA:s1.done=s.done:=by rw [fy]
 have WS:s1.dm=s.dm:=by rw [fy]
 have ZT:=fun (j:Nat) (hj:j≤p.ey.length)=>cS.Cp (now:=now) (k:=p.ey.length) zo zo j DL X3 hj zo
 have hoD:∀ j,(cS.lD now j s1).done=s1.done∧(cS.lD now j s1).dm=s1.dm:=fun j=>by
  induction j with
  | zero=>exact ⟨rfl,rfl⟩
  | succ j ih=>exact ih
 obtain ⟨C,hC⟩:∃ C:List Value,C=eM.cells { a with ur:=ur,up:=up,uq:=uq,ak:=none,ck:=0,ts:=[] } p retry s1:=⟨_,rfl⟩
 have WT:C[4]?=some (pt a.ga):=by rw [hC];rfl
 have UR:C[5]?=some (.slice a.al s.st.length a.cl):=by rw [hC,← G0];rfl
 refine br (ι:=Nat) (fun j=>[(0,pt g),(2,.int .i64 (now:Int)),(49,.int .i64 (s.st.length:Int)),(50,.int .i64 (j:Int))]) (fun j=>cM g C sr (0,0)::N::M::dJ N4 3 (.slice a.al s.st.length a.cl) s.st.length ((cS.lD now j s1).st.flatMap FW.cells)::r7 a.ga (cS.lD now j s1).ord (cS.lD now j s1).ag::R) (fun j=>j≤s.st.length) (fun j=>s.st.length - j) 0 (aG _) zS ?_ ?_
 ·dsimp only [cS.lD];rw [G0,hC];have e1:s1.ord=s.ord:=by rw [fy]
  have e2:s1.ag=s.ag:=by rw [fy]
  rw [e1,e2];dsimp only [eM.cells];rw [QI,WR,G0,TA];exact zE
 rintro j hj
 by_cases cQ:j<s.st.length
 rotate_left
 ·have SH:j=s.st.length:=by omega
  subst SH;rw [hlen];obtain ⟨q1,q2,q3,q4⟩:=ZT p.ey.length (aT _);obtain ⟨q5,q6⟩:=hoD p.ey.length;have Z4:(cS.lD now p.ey.length s1).dY=x:=by unfold cS.dY;rw [q4];exact QI
  have eW:cC [dI [M,N]] [M]:=cn (cW (M:=[_,_]) (L:=[])) (bh bK);have iH:cC [dI [M,N]] [N]:=cn (cW (M:=[_,_]) (L:=[])) (cC.drop (bh bK))
  have L5:eM.ok { a with ur:=ur,up:=up,uq:=uq,ak:=none,ck:=0,ts:=[] } (dI [M,N]) p retry (n+p.ey.length) (cS.lD now p.ey.length s1) :=
   ⟨ha.wJ.cN eW,by rw [Z4];exact hN.cN iH,by rw [q2];rfl,fun t ht=>absurd ht aO,by rw [q5,TA];exact ha.done.cN eW,by rw [q6,WS];exact ha.dm.cN eW,q1,ha.pr,ha.low,ha.high⟩
  refine wB ?_;refine aY (mq g p retry (n+p.ey.length) (cS.lD now p.ey.length s1)::R) rfl (cn (cn (di nu 4) ?_) (lL L5)) ⟨rfl,rfl⟩;dsimp only [oR,eM.cells,kX];rw [Z4,q4,q5,q3,hC];dsimp only [eM.cells];rw [QI,qL];exact cn (eu (A:=M) (B:=N) zP zP) zE
 obtain ⟨q1,q2,q3,q4⟩:=ZT j zo;have hsj:(cS.lD now j s1).st.length=s.st.length:=by rw [q3,G0]
 have hlj:j<(cS.lD now j s1).st.length:=by omega
 have ft:=QH hlj;have Ao:cS.lD now (j+1) s1=(cS.lD now j s1).Qt now j:=rfl
 generalize cS.lD now j s1=sj at *
 rw [qy] at UR ⊢
 have F5:=q1.AY;have US:∀ (L R':List cK),cT L (cM g C sr (0,0)) R'→Rd L ⟨g,0+5,none⟩ (.slice (some ⟨gs,0,none⟩) s.st.length a.cl):=fun L R' pl=>by rw [aC];exact bR pl (by rw [hF];exact UR)
 have UT:∀ (L R':List cK),cT L (cM g C sr (0,0)) R'→Rd L ⟨g,4,none⟩ (pt a.ga):=fun L R' pl=>bR pl (by rw [hF];exact WT)
 have WU:=US (cM g C sr (0,0)::R) R .zero;refine wB ?_;refine bl (id:=7) [13,14,15] (cM g C sr (0,0)::R) mixed ?_
 (refine tM 0 ?_;refine tN 1 ?_;refine tF 2 ?_;refine tL 3 ?_;refine tM 4 ?_;refine tM 5 ?_;refine tN 6 ?_;refine tF 7 ?_;refine tL 8 ?_;refine tM 9 ?_;refine tk 10 _ rfl (cE.dQ rfl rfl zo) ?_;refine tF 11 ?_)
 refine tO 12 ?_;refine Do.pG rfl rfl rfl zP zo ⟨fun _=>zE,?_⟩;refine tO 13 ?_;refine bP (cE.dQ rfl rfl cQ) rfl ⟨zN,?_⟩;refine tO 14 ?_;refine dV (bb rfl) ?_;refine tO 15 ?_;refine Do.pG rfl rfl rfl .zero zo ⟨zN,?_⟩;rw [aC,ft];refine bf zK ?_;refine wB ?_;have ph:∀ y∈sj.ag,y.fits:=fun y hy=>(q1.fits y hy).1
 refine aZ rfl rfl (Ct.at zP (r8 _ e g a.ga sj.ord now j sj.ag (UT _ _ zP) ph zo zo (by have:=q1.ord;omega) zo)) ?_;rintro _ _ ⟨rfl,rfl⟩;refine wB ?_;refine bi (j+1) cQ zo zS ?_;rw [Ao];exact zE
abbrev ED:TypeId:=265
abbrev JT (r:Nat × Nat):List Value:=[.int .i64 (r.1:Int),.int .i64 (r.2:Int)]
theorem TB (r:Nat × Nat):(JT r).length=2:=rfl
abbrev tB (v:Value) (l:List (Nat × Nat)):cK:=dJ ED 2 v l.length (l.flatMap JT)
theorem yB (retry now:Nat) (r:Nat × Nat):∀ (l:List (Nat × Nat)) (s:cS),cS.iq retry now (l++[r]) s=(cS.iq retry now l s).yu retry now r.1
 | [],_=>rfl
 | x::l,s=>yB retry now r l (s.yu retry now x.1)
theorem r9 (retry now:Nat):∀ (l:List (Nat × Nat)) (s:cS),(cS.iq retry now l s).cur=s.cur∧(cS.iq retry now l s).kept=s.kept∧(cS.iq retry now l s).done=s.done∧(cS.iq retry now l s).dm=s.dm∧(cS.iq retry now l s).st.length=s.st.length
 | [],_=>⟨rfl,rfl,rfl,rfl,rfl⟩
 | x::l,s=>by
  obtain ⟨h1,h2,h3,h4,h5⟩:=r9 retry now l (s.yu retry now x.1);refine ⟨h1,h2,h3,h4,h5.trans ?_⟩
  show (List.set _ _ _).length=_
  rw [List.length_set];rfl
theorem WV {retry tries:Nat} (h:retry≤100):IntKind.i64.wrap ((retry:Int)*2 ^ (min (if (3:Int)<(tries:Int) then (3:Int) else (tries:Int)).toNat IntKind.i64.bits))=((retry*2 ^ min tries 3:Nat):Int):=by
 have h1:(if (3:Int)<(tries:Int) then (3:Int) else (tries:Int)).toNat=min tries 3:=by split<;>omega
 have h2:min (min tries 3) IntKind.i64.bits=min tries 3:=Nat.min_eq_left (by have:IntKind.i64.bits=64:=rfl;omega);have h3:=Nat.mul_le_mul h (Cq (n:=tries));rw [h1,h2,show (2:Int) ^ min tries 3=((2 ^ min tries 3:Nat):Int) by simp,← Int.natCast_mul];exact wrap_i64 zo zo
end Go.Proofs
namespace Go.Proofs
attribute [local irreducible] Bs.cE Bs.Do Bs.O Bs.W Bs.Fin Bs.A Bs.Ct Bs.cF Bs.Rd Bs.Sat Bs.cM Bs.Ob Bs.dJ Bs.View Bs.cC Bs.Ex Bs.dI Bs.Pu Bs.eZ Bs.dK Bs.eh
open Go.Bs
open Tryz
variable (R:List cK) (e:World)
theorem EE (g:Nat) (p:jK) (retry n:Nat) (s:cS) (now:Nat) (ht:now≤10000000) (hn:n≤999000) :
 Ct prog 174 #[pt g,.int .i64 (now:Int)] e (mq g p retry n s::R) (fun v' L'=>∃ ad c,v'=.slice ad (s.kW now).length c∧L'=tB (.slice ad (s.kW now).length c) (s.kW now)::mq g p retry (n+p.ey.length) (s.kB retry now)::R):=by
 refine uL fun a M ha=>?_
 have EA:=ha.pr.iC;refine a7 (oT (show cT (oR g p retry s a M R) (kX (.slice a.al s.st.length a.cl) s.st) _ from zP)) ?_;rintro ⟨lE,c',lG,CX,M7,Ae⟩
 cases lG
 have hlen:=ha.st.len;have yV:1≤s.st.length:=by have:=ha.pr.low;have:=ha.pr.high;omega
 rcases Ae with ⟨-,-,Ae⟩|⟨gs,qy⟩
 ·omega
 obtain ⟨DL,TC,MR⟩:=cS.LV (now:=now) ha.st;obtain ⟨C,hC⟩:∃ C:List Value,C=eM.cells a p retry s:=⟨_,rfl⟩
 have hC3:C[3]?=some (.int .i64 (retry:Int)):=by rw [hC];rfl
 have WT:C[4]?=some (pt a.ga):=by rw [hC];rfl
 have UR:C[5]?=some (.slice (some ⟨gs,0,none⟩) s.st.length a.cl):=by rw [hC,← qy];rfl
 have hR0:∀ (L R':List cK),cT L (cM g C sr (0,0)) R'→Rd L ⟨g,0+3,none⟩ (.int .i64 (retry:Int)):=fun L R' pl=>by rw [aC];exact bR pl (by rw [hF];exact hC3)
 have US:∀ (L R':List cK),cT L (cM g C sr (0,0)) R'→Rd L ⟨g,0+5,none⟩ (.slice (some ⟨gs,0,none⟩) s.st.length a.cl):=fun L R' pl=>by rw [aC];exact bR pl (by rw [hF];exact UR)
 have UT:∀ (L R':List cK),cT L (cM g C sr (0,0)) R'→Rd L ⟨g,4,none⟩ (pt a.ga):=fun L R' pl=>bR pl (by rw [hF];exact WT)
 have WU:∀ (L R':List cK),cT L (cM g C sr (0,0)) R'→Rd L ⟨g,0+4,none⟩ (pt a.ga):=fun L R' pl=>by rw [aC];exact UT L R' pl
 dsimp only [oR];rw [← hC,qy];refine a8 (args:=[_,_]) func174 rfl ntmps174 results174 rfl ?_;refine wB ?_;refine br (ι:=List AE × List Nat × Option Addr × Nat) (fun j=>[(0,pt g),(1,.int .i64 (now:Int)),(5,.slice j.2.2.1 j.2.1.length j.2.2.2)]) (fun j=>tB (.slice j.2.2.1 j.2.1.length j.2.2.2) (j.2.1.map fun w=>(w,(s.st.getD w k9).size))::r7 a.ga s.ord j.1::cM g C sr (0,0)::M::kX (.slice (some ⟨gs,0,none⟩) s.st.length a.cl) s.st::fV (.slice a.ak a.ts.length a.ck) a.ts::R) (fun j=>(∀ y∈j.1,y.fits∧y.ik<p.ey.length)∧j.1.length≤4∧j.2.1.length+j.1.length≤4∧nr now s.ag.length s.ag=(j.2.1++(nr now j.1.length j.1).1,(nr now j.1.length j.1).2)) (fun j=>j.1.length) (s.ag,[],none,0) ⟨ha.st.fits,by have:=ha.st.AY;dsimp only;omega,by have:=ha.st.AY;dsimp only [List.length_nil];omega,rfl⟩ zS (cn (di ED 2) zE) ?_;rintro ⟨l,ws,N5,co⟩ ⟨h1,h2,h3,h4⟩;dsimp only at h1 h2 h3 h4 ⊢
 by_cases Ek:0<l.length∧((l.getD 0 j9).iB:Int)≤(now:Int)
 ·have mV:l≠[]:=fun q=>by rw [q] at Ek;simp at Ek
  have UL:=uH mV;have yW:=Er mV;have hww:(l.getD 0 j9).ik<p.ey.length:=(h1 _ (UL.mem_iff.1 (List.mem_cons_self ..))).2;obtain ⟨m,hm⟩:∃ m,l.length=m+1:=⟨l.length - 1,by omega⟩
  have hd:nr now l.length l=((l.getD 0 j9).ik::(nr now (pu l).length (pu l)).1,(nr now (pu l).length (pu l)).2):=by
   rw [hm,show (pu l).length=m by omega]
   conv=>lhs;unfold nr
   rw [aH ⟨Ek.1,by omega⟩]
  rw [hd] at h4
  have WW:=A5 (cM g C sr (0,0)::tB (.slice N5 ws.length co) (ws.map fun w=>(w,(s.st.getD w k9).size))::M::kX (.slice (some ⟨gs,0,none⟩) s.st.length a.cl) s.st::fV (.slice a.ak a.ts.length a.ck) a.ts::R) e a.ga s.ord l (now:Int) (fun y hy=>(h1 y hy).1) zo
  generalize (l.getD 0 j9).ik=w at *
  have CD:w<s.st.length:=by omega
  have vO:=m6 CD;obtain ⟨z,hz⟩:∃ z,z=(s.st.getD w k9).size:=⟨_,rfl⟩
  have VL:∀ (L R':List cK),cT L (kX (.slice (some ⟨gs,0,none⟩) s.st.length a.cl) s.st) R'→Rd L ⟨gs,0+w*3+0,none⟩ (.int .i64 (z:Int)):=fun L R' pl=>by
   have:=eh.elem (ba pl) QF (ae CD);rw [hz,vO];exact this.Na (k:=0) rfl
  (repeat' first|(refine b7 rfl (WU _ _ zP) rfl ?_)|refine Za ?_|apply Zc|apply Zd|refine Zg ?_|refine Zh ?_|apply YB)
  refine aZ rfl rfl (WW.cN zE) ?_;rintro _ _ (⟨lF,-,-⟩|⟨-,-,rfl,rfl⟩)
  ·exact absurd Ek lF
  (repeat' first|(refine b7 rfl (US _ _ zP) rfl ?_)|(refine b7 rfl (VL _ _ zP) rfl ?_)|refine Za ?_|refine Zb ?_|apply Zc|apply Zd|apply Ze|apply Zf|refine Zg ?_|refine Zh ?_|refine Zy ?_|refine Ye ?_|refine Yi fun _=>?_|refine Yx ?_|refine YA ?_|apply YC|refine YN ?_|fail)
  refine bD (bm rfl rfl rfl (show cT _ (dJ ED 2 (.slice N5 ws.length co) _ _) _ from zP) (bQ (n:=2) (c:=1) zP rfl zl) rfl rfl zO (by simp only [maxLen,ab];omega) (by rw [ab];omega) fun dW k1 _=>?_)
  refine wB ?_;refine bi (pu l,ws++[w],dW,k1) ⟨fun y hy=>h1 y (UL.mem_iff.1 (aU _ hy)),by dsimp only;omega,by dsimp only;rw [aa,aj];omega,by dsimp only;rw [h4,aM];rfl⟩ zd ?_ ?_
  ·simp only [aa,aj,ab];exact zS
  ·simp only [tB,ah,List.map_cons,List.map_nil,aW,aV,List.flatMap_nil,aK,aa,aj,ab,← hz];exact zE
 have UN:nr now l.length l=([],l):=by
  cases hm:l.length with
  | zero=>rfl
  | succ m=>unfold nr;rw [aB (fun q=>Ek ⟨by omega,by omega⟩)]
 rw [UN] at h4
 rw [aK] at h4
 have RD:s.kW now=ws.map fun w=>(w,(s.st.getD w k9).size):=by unfold cS.kW;rw [h4]
 have N6:(nr now s.ag.length s.ag).2=l:=by rw [h4]
 have WY:s.kB retry now=cS.iq retry now (s.kW now) { s with ag:=l }:=by unfold cS.kB;rw [N6]
 rw [N6] at DL
 have CD:ws.length=(s.kW now).length:=by rw [RD,ab]
 rw [WY,CD];rw [← RD];have WW:=A5 (cM g C sr (0,0)::tB (.slice N5 (s.kW now).length co) (s.kW now)::M::kX (.slice (some ⟨gs,0,none⟩) s.st.length a.cl) s.st::fV (.slice a.ak a.ts.length a.ck) a.ts::R) e a.ga s.ord l (now:Int) (fun y hy=>(h1 y hy).1) zo
 generalize s.kW now=rq at *
 (repeat' first|(refine b7 rfl (WU _ _ zP) rfl ?_)|refine Za ?_|apply Zc|apply Zd|refine Zg ?_|refine Zh ?_|apply YB)
 refine aZ rfl rfl (WW.cN zE) ?_;rintro _ _ (⟨-,rfl,rfl⟩|⟨q1,q2,-,-⟩)
 rotate_left
 ·exact absurd ⟨q1,q2⟩ Ek
 refine wB ?_;obtain ⟨s0,Pc⟩:∃ s0:cS,s0={ s with ag:=l }:=⟨_,rfl⟩
 rw [← Pc] at DL ⊢
 have pa:=fun i=>cS.yw (retry:=retry) (now:=now) (k:=p.ey.length) ha.high zo zo (rq.take i) DL (fun r hr=>(TC r (aN hr)).1) (by rw [aE];omega)
 have A6:=fun i=>r9 retry now (rq.take i) s0
 refine br (ι:=Nat) (fun j=>[(0,pt g),(1,.int .i64 (now:Int)),(5,.slice N5 rq.length co),(35,.slice N5 rq.length co),(36,.int .i64 (rq.length:Int)),(37,.int .i64 (j:Int))]) (fun j=>tB (.slice N5 rq.length co) rq::r7 a.ga (cS.iq retry now (rq.take j) s0).ord (cS.iq retry now (rq.take j) s0).ag::cM g C sr (0,0)::M::dJ N4 3 (.slice (some ⟨gs,0,none⟩) s.st.length a.cl) s.st.length ((cS.iq retry now (rq.take j) s0).st.flatMap FW.cells)::fV (.slice a.ak a.ts.length a.ck) a.ts::R) (fun j=>j≤rq.length) (fun j=>rq.length - j) 0 (aG _) zS ?_ ?_
 ·dsimp only [List.take_zero,cS.iq];rw [Pc];exact zE
 rintro j hj
 by_cases cQ:j<rq.length
 rotate_left
 ·rw [aF zo];obtain ⟨w1,w2⟩:=pa rq.length;obtain ⟨v1,v2,v3,v4,v5⟩:=A6 rq.length;rw [aF (aT _)] at w1 w2 v1 v2 v3 v4 v5
  have H2:(cS.iq retry now rq s0).dY=s.dY:=by rw [w2,Pc];rfl
  have L5:eM.ok a M p retry (n+p.ey.length) (cS.iq retry now rq s0) :=
   ⟨ha.wJ,by rw [H2];exact ha.cur,by rw [v2,Pc];exact ha.RC,ha.Pb,by rw [v3,Pc];exact ha.done,by rw [v4,Pc];exact ha.dm,w1.mono zo,ha.pr,ha.low,ha.high⟩
  refine wB ?_;refine aY (tB (.slice N5 rq.length co) rq::mq g p retry (n+p.ey.length) (cS.iq retry now rq s0)::R) rfl (cn ?_ (bh (lL L5))) ⟨N5,co,rfl,rfl⟩;dsimp only [oR,eM.cells,kX];rw [H2,v1,v3,v5,qy,hC,Pc];dsimp only [eM.cells];rw [qy];exact zE
 have fq:rq.take (j+1)=rq.take j++[rq[j]'cQ]:=aA cQ;have Ao:cS.iq retry now (rq.take (j+1)) s0=(cS.iq retry now (rq.take j) s0).yu retry now (rq[j]'cQ).1:=by rw [fq,yB]
 have OK:=(TC _ (az cQ)).1;obtain ⟨w1,w2⟩:=pa j;obtain ⟨-,-,-,-,v5⟩:=A6 j;have hsj:(cS.iq retry now (rq.take j) s0).st.length=s.st.length:=by rw [v5,Pc]
 have hlq:(rq.take j).length≤4:=by rw [aE];omega
 generalize cS.iq retry now (rq.take j) s0=sj at *
 refine bG ((ba (show cT _ (tB (.slice N5 rq.length co) rq) _ from zP)).shape zo) ?_;rintro ⟨⟨lE,c',lG,yS,HX,zi,tS⟩,_⟩
 cases lG
 rcases tS with tS|⟨gq,oq,rfl⟩
 ·omega
 have G1:∀ (L R':List cK),cT L (tB (.slice (some ⟨gq,oq,none⟩) rq.length co) rq) R'→eh L gq (oq+j*2) (JT (rq[j]'cQ)):=fun L R' pl=>eh.elem (ba pl) TB (ae cQ)
 generalize rq[j]'cQ=r at *
 obtain ⟨w,z⟩:=r;dsimp only at OK G1 Ao
 dsimp only [JT] at G1
 have N7:w<sj.st.length:=by omega
 obtain ⟨OS,hOS⟩:∃ OS:List cK,OS=dJ N4 3 (.slice (some ⟨gs,0,none⟩) s.st.length a.cl) s.st.length (sj.st.flatMap FW.cells)::fV (.slice a.ak a.ts.length a.ck) a.ts::R:=⟨_,rfl⟩
 have vO:=m6 N7;obtain ⟨tr,L6⟩:∃ tr,tr=(sj.st.getD w k9).tries:=⟨_,rfl⟩
 have so:Rd (dJ N4 3 (.slice (some ⟨gs,0,none⟩) s.st.length a.cl) s.st.length (sj.st.flatMap FW.cells)::fV (.slice a.ak a.ts.length a.ck) a.ts::R) ⟨gs,0+w*3+1,none⟩ (.int .i64 (tr:Int)):=by
  have:=eh.elem (ba (show cT (dJ N4 3 (.slice (some ⟨gs,0,none⟩) s.st.length a.cl) s.st.length (sj.st.flatMap FW.cells)::fV (.slice a.ak a.ts.length a.ck) a.ts::R) _ _ from .zero)) QF (ae N7);rw [L6,vO];exact this.Na (k:=1) rfl
 have DT:=US (cM g C sr (0,0)::M::dJ N4 3 (.slice (some ⟨gs,0,none⟩) s.st.length a.cl) s.st.length (sj.st.flatMap FW.cells)::fV (.slice a.ak a.ts.length a.ck) a.ts::R) _ .zero;have Tb:=hR0 (cM g C sr (0,0)::M::dJ N4 3 (.slice (some ⟨gs,0,none⟩) s.st.length a.cl) s.st.length (sj.st.flatMap FW.cells)::fV (.slice a.ak a.ts.length a.ck) a.ts::R) _ .zero;have IC:=WV (retry:=retry) (tries:=tr) ha.high;have hp3:=Nat.mul_le_mul ha.high (Cq (n:=tr));have TD:tr≤1000000:=by rw [L6];have:=w1.tries _ (qb N7);omega
 (repeat' first|(refine O.dD rfl (G1 _ _ zP) rfl rfl ?_)|apply Zc|apply Zd|apply Ze|apply Zf|refine ZA ?_|refine Yh fun _=>?_|refine Yx ?_|refine Yz ?_|apply YB|apply YC|refine YR ?_|fail)
 rename_i g9;refine bE (id:=8) [7] mixed ?_
 (refine tM 0 ?_;refine tN 1 ?_;refine tF 2 ?_;refine tL 3 ?_;refine tF 4 ?_;refine tL 5 ?_;refine tk 6 _ rfl (cE.dQ rfl rfl zo) ?_;(refine tO 7 ?_;refine dV (bj rfl) ?_))
 refine bf zK ?_;refine wB ?_;refine bl (id:=9) [] (cM g9 [.int .i64 (w:Int),.int .i64 (z:Int)] ED (0,0)::cM g C sr (0,0)::M::dJ N4 3 (.slice (some ⟨gs,0,none⟩) s.st.length a.cl) s.st.length (sj.st.flatMap FW.cells)::fV (.slice a.ak a.ts.length a.ck) a.ts::R) mixed ?_
 (refine tM 0 ?_;refine tM 1 ?_;refine tM 2 ?_;refine tN 3 ?_;refine tF 4 ?_;refine tL 5 ?_;refine tM 6 ?_;refine tN 7 ?_;refine tF 8 ?_;refine tL 9 ?_;refine tk 10 _ rfl (cE.min rfl rfl) ?_)
 refine bN 11 (.int .i64 ((retry*2 ^ min tr 3:Nat):Int)) rfl zK zE (IC ▸ cE.shl rfl rfl (by split<;>omega)) rfl ?_
 (refine tk 12 _ rfl (cE.la rfl rfl zo) ?_;refine tF 13 ?_;refine tL 14 ?_)
 have hpw:2 ^ min tr 3*retry≤800:=by rw [Nat.mul_comm];omega
 refine tO 15 ?_;have ph:∀ y∈sj.ag,y.fits:=fun y hy=>(w1.fits y hy).1
 have TE:=w1.AY;have TF:=w1.ord;refine bg rfl rfl (Ct.at zP (r8 _ e g a.ga sj.ord (now+retry*2 ^ min tr 3) w sj.ag (UT _ _ zP) ph zo zo zo zo)) ?_;rintro _ _ ⟨rfl,rfl⟩;refine ⟨fun _=>zE,?_⟩;refine bf zK ?_;have jM:=EB N7 (tr+1)
 have TG:(sj.st.flatMap FW.cells).set (0+w*3+1) (.int .i64 ((tr:Int)+1))=(cS.iq retry now (rq.take (j+1)) s0).st.flatMap FW.cells:=by
  rw [aC,Ao,show ((tr:Int)+1)=((tr+1:Nat):Int) by omega,jM,L6]
  rfl
 have N6:(cS.iq retry now (rq.take (j+1)) s0).ag=pd (gL sj.ag w) ⟨now+retry*2 ^ min tr 3,sj.ord,w⟩:=by rw [Ao,L6];rfl
 have TH:(cS.iq retry now (rq.take (j+1)) s0).ord=sj.ord+1:=by rw [Ao];rfl
 refine wB ?_;rw [TG];refine bi (j+1) cQ zo zS ?_;rw [N6,TH];exact zE
theorem jn.TI {L:List cK} {ts:List jn} (h:∀ t∈ts,jn.ok L t):∀ x,dK L x→∀ c∈ts.flatMap jn.cells,c.oneCell'=true:=fun x hx=>rv fun t ht c hc=>by
 have h1:=(h t ht).rd.parts.one x hx;have h2:=(h t ht).rd.path.one x hx;simp only [jn.cells,aQ,aO,or_false] at hc
 rcases hc with rfl|rfl|rfl|rfl
 ·rfl
 ·rfl
 ·exact h1
 ·exact h2
theorem qf (v:Value) (l:List jn) (h:cF R 4 v l.length (l.flatMap jn.cells)) (h1:∀ t∈l,jn.ok R t) (hl:l.length≤100000) :
 Ct prog 310 #[v] e R (fun v' L'=>∃ ad c,v'=.slice ad l.length c∧L'=fV (.slice ad l.length c) l::R):=by
 refine a7 (jn.TI h1) fun ho=>?_
 refine a7 (h.shape zo) ?_;rintro ⟨⟨ad,cap,rfl,h3,h4,h5,h6⟩,_⟩;refine a8 (args:=[_]) func310 rfl ntmps310 results310 rfl ?_
 cases ad with
 | none =>
  have tR:l=[]:=by
   have:=h5 rfl;exact List.eq_nil_of_length_eq_zero zo
  subst tR;refine wB ?_;exact aY _ rfl (di _ _) ⟨_,_,rfl,rfl⟩
 | some a =>
  (repeat (refine wA ?_;intros))
  refine O.fo (fW (n:=4) (k:=0) (cap:=0) zo zl rfl) ?_;refine bD (bm rfl rfl rfl .zero h rfl rfl ho zm zo fun lE c' lG=>?_)
  refine wB ?_;refine aY _ rfl ?_ ⟨lE,c',by simp [z9],rfl⟩;simp only [aC];exact aX
theorem EF (g:Nat) (p:jK) (retry n:Nat) (s:cS) (w:Nat) (vp vq:Value) (x:kF) (hx:fK R vp vq x.sig) (hw:x.gy=w) (hr:x.sig.right) (hh:s.ri w) :
 Ct prog 291 #[pt g,.int .i64 (w:Int),.agg (iy x vp vq).toArray] e (mq g p retry n s::R) (fun v' L'=>v'=.tuple #[]∧L'=mq g p retry n (s.ir p w x)::R):=by
 refine uL fun a M ha=>?_
 have EA:=ha.pr.iC;have mG:cC (oR g p retry s a M R) R:=zE;refine a7 (hx.cN mG).parts.one fun o6=>?_
 refine a7 (hx.cN mG).path.one fun o7=>?_
 have GD:cC (oR g p retry s a M R) [M]:=cH zP;refine a7 (cz (ha.cur.root.cN GD)) fun LZ=>?_
 refine a7 (ha.cur.sig.cN GD).parts.one fun Ty=>?_
 refine a7 (ha.cur.sig.cN GD).path.one fun UQ=>?_
 refine a7 (oT (show cT (oR g p retry s a M R) (kX (.slice a.al s.st.length a.cl) s.st) _ from zP)) ?_;rintro ⟨lE,c',lG,CX,M7,Ae⟩
 cases lG
 have hlen:=ha.st.len;have CD:=hh.2.1;rcases Ae with ⟨-,-,Ae⟩|⟨gs,qy⟩
 ·omega
 have N8:w<p.ey.length:=by omega
 have qO:=cS.Et ha.st N8 hw hr hh.2.2;have DD:a.ts.length=s.kept.length:=by have:=congrArg List.length ha.RC;rwa [ab] at this
 have Qu:=ha.st.Fc;have ph:∀ y∈s.ag,y.fits:=fun y hy=>(ha.st.fits y hy).1
 have TE:=ha.st.AY;have WZ:x.gy<4294967296:=by omega
 dsimp only [oR,eM.cells];rw [qy];refine a8 (args:=[_,_,_]) func291 rfl ntmps291 results291 rfl ?_
 (repeat (refine wA ?_;intros))
 rename_i g5;refine bl (id:=2) [9,10,11] (cM g5 (iy x vp vq) nu (0,0)::cM g (eM.cells { a with al:=some ⟨gs,0,none⟩ } p retry s) sr (0,0)::R) mixed ?_
 (refine tM 0 ?_;refine tM 1 ?_;refine tN 2 ?_;refine tF 3 ?_;refine tL 4 ?_;refine tJ 5 ?_)
 refine tO 6 ?_;refine bg rfl rfl (oD _ e vp vq x (hx.cN zE) hr.fits) ?_;rintro _ _ ⟨N,wp,wq,rfl,hN,rfl⟩;refine ⟨fun _=>zE,?_⟩;refine A.cB (hN.cN (cH zP)).parts.one fun o8=>?_
 refine A.cB (hN.cN (cH zP)).path.one fun o9=>?_
 refine tO 7 ?_;refine bF (n:=4) (cs:=iy x wp wq) rfl rfl rfl rfl zQ rfl (fun gb=>⟨fun _=>zE,?_⟩);refine tO 8 ?_;refine bm rfl rfl rfl (show cT _ (fV (.slice a.ak a.ts.length a.ck) a.ts) _ from zP) (bQ (n:=4) (c:=1) zP rfl zl) rfl rfl zO zm zo fun dW k1 _=>⟨fun _=>zE,?_⟩
 refine tO 9 ?_;refine dV (bp rfl) ?_;refine tO 10 ?_;refine dV (bb rfl) ?_;refine tO 11 ?_;refine tZ ?_;refine ⟨zN,?_⟩;refine bf zK ?_
 have jM:((s.st.flatMap FW.cells).set (0+w*3+2) (.bool true)).set (0+w*3+0) (.int .i64 (s.dY.dd.size:Int))=(s.gU w x).st.flatMap FW.cells:=by
  rw [aC,H5 CD,H4 (by rw [List.length_set];exact CD),List.set_set]
  show _=(s.st.set w _).flatMap FW.cells
  congr 2
  rw [m6 (by rw [List.length_set];exact CD),List.getElem_set_self]
 have QJ:(s.gU w x).st.length=s.st.length:=List.length_set;refine wB ?_;rw [jM];refine aZ rfl rfl (Ct.at zP (tz _ e a.ga s.ord s.ag w ph zo)) ?_;rintro _ _ ⟨⟨z,rfl⟩,rfl⟩;refine wB ?_;have eW:cC [dI [M,N]] [M]:=cn (cW (M:=[_,_]) (L:=[])) (bh bK);have iH:cC [dI [M,N]] [N]:=cn (cW (M:=[_,_]) (L:=[])) (cC.drop (bh bK))
 have yC:eM.ok { a with ak:=dW,ck:=k1,ts:=a.ts++[(x,wp,wq)] } (dI [M,N]) p retry n (s.gU w x) :=
  ⟨ha.wJ.cN eW,ha.cur.cN eW,by dsimp only;rw [ah,ha.RC];rfl,fun t ht=>by
   rcases aJ.1 ht with ht|ht
   ·exact (ha.Pb t ht).cN eW
   ·rw [an.1 ht];exact ⟨hN.cN iH,WZ⟩,ha.done.cN eW,ha.dm.cN eW,qO,ha.pr,ha.low,ha.high⟩
 have W0:(a.ts++[(x,wp,wq)]).length=a.ts.length+1:=by simp
 obtain ⟨C,hC⟩:∃ C:List Value,C=eM.cells { a with ak:=dW,ck:=k1,ts:=a.ts++[(x,wp,wq)] } p retry (s.gU w x):=⟨_,rfl⟩
 obtain ⟨L1,TJ⟩:∃ L1:List cK,L1=cM g C sr (0,0)::dI [M,N]::kX (.slice a.al (s.gU w x).st.length a.cl) (s.gU w x).st::fV (.slice dW (a.ts++[(x,wp,wq)]).length k1) (a.ts++[(x,wp,wq)])::r7 a.ga (s.gU w x).ord (s.gU w x).ag::R:=⟨_,rfl⟩
 refine W.ir [(0,pt g)] zS ?_;refine W.fo (L':=L1) ?_ ?_
 ·rw [TJ,hC];dsimp only [eM.cells,kX,fV];rw [QJ,qy,W0];simp only [aW,aV,List.flatMap_nil,aK];exact cn (eu (A:=M) (B:=N) zP zP) zE
 clear jM;have Z5:∀ (L R':List cK),cT L (cM g C sr (0,0)) R'→eh L g (0+6) (dT s.dY a.ur a.up a.uq):=fun L R' pl=>(bW pl).part 6 5 |> fun h=>by rw [hC] at h;exact h
 have Z9:∀ (L R':List cK),cT L (cM g C sr (0,0)) R'→Rd L ⟨g,0+12,none⟩ (.slice dW (a.ts++[(x,wp,wq)]).length k1):=fun L R' pl=>by rw [aC];exact bR pl (by rw [hC];rfl)
 have qs:∀ (L R':List cK),cT L (cM g C sr (0,0)) R'→Rd L ⟨g,0+0+2,none⟩ (.int .i64 (p.eE:Int)):=fun L R' pl=>bR pl (by rw [hC];rfl)
 have W1:=Z9 (cM g C sr (0,0)::dI [M,N]::kX (.slice a.al (s.gU w x).st.length a.cl) (s.gU w x).st::fV (.slice dW (a.ts++[(x,wp,wq)]).length k1) (a.ts++[(x,wp,wq)])::r7 a.ga (s.gU w x).ord (s.gU w x).ag::R) _ .zero;have W2:=qs (cM g C sr (0,0)::dI [M,N]::kX (.slice a.al (s.gU w x).st.length a.cl) (s.gU w x).st::fV (.slice dW (a.ts++[(x,wp,wq)]).length k1) (a.ts++[(x,wp,wq)])::r7 a.ga (s.gU w x).ord (s.gU w x).ag::R) _ .zero;have O4:(s.kept++[x]).length=(a.ts++[(x,wp,wq)]).length:=by simp [DD]
 rw [TJ]
 by_cases hq:p.eE≤(s.kept++[x]).length
 rotate_left
 ·have hS:s.ir p w x=s.gU w x:=by unfold cS.ir;rw [aB hq]
  rw [hS];rw [O4] at hq
  refine bE (id:=5) [] mixed ?_
  (refine tM 0 ?_;refine tN 1 ?_;refine tF 2 ?_;refine tL 3 ?_;refine tk 4 _ rfl (bO rfl) ?_;refine tM 5 ?_;refine tN 6 ?_;refine tF 7 ?_;refine tF 8 ?_;refine tL 9 ?_;refine tk 10 (.bool false) rfl (cE.no (bU rfl rfl) zn) ?_)
  refine bf zK ?_;refine wB ?_;refine bX (mq g p retry n (s.gU w x)::R) rfl (cn ?_ (lL yC)) ⟨rfl,rfl⟩;rw [hC];exact zE
 have hS:s.ir p w x={ s.gU w x with done:=s.dY,dm:=s.kept++[x] }:=by unfold cS.ir;rw [aH hq]
 have eI:=cS.H0 (p:=p) ha.st N8 hw hr hh;rw [hS] at eI ⊢
 rw [O4] at hq
 refine bE (id:=5) [] mixed ?_
 (refine tM 0 ?_;refine tN 1 ?_;refine tF 2 ?_;refine tL 3 ?_;refine tk 4 _ rfl (bO rfl) ?_;refine tM 5 ?_;refine tN 6 ?_;refine tF 7 ?_;refine tF 8 ?_;refine tL 9 ?_;refine tk 10 (.bool true) rfl (cE.iX (bU rfl rfl) zy) ?_)
 refine bf zK ?_;refine wB ?_;have QK:∀ (L R':List cK),cT L (cM g (eM.cells { a with ak:=dW,ck:=k1,ts:=a.ts++[(x,wp,wq)] } p retry (s.gU w x)) sr (0,0)) R'→eh L g (0+6) (dT s.dY a.ur a.up a.uq):=fun L R' pl=>(bW pl).part 6 5
 have TK:∀ (L R':List cK),cT L (cM g (eM.cells { a with ak:=dW,ck:=k1,ts:=a.ts++[(x,wp,wq)] } p retry (s.gU w x)) sr (0,0)) R'→Rd L ⟨g,0+12,none⟩ (.slice dW (a.ts++[(x,wp,wq)]).length k1):=fun L R' pl=>by rw [aC];exact bR pl rfl
 have QL:∀ (G2:Option Addr) (ce:Nat),eM.ok { a with ak:=dW,ck:=k1,ts:=a.ts++[(x,wp,wq)],dr:=a.ur,dp:=a.up,dq:=a.uq,ve:=.slice G2 (a.ts++[(x,wp,wq)]).length ce } (dI [dI [M,N],fV (.slice G2 (a.ts++[(x,wp,wq)]).length ce) (a.ts++[(x,wp,wq)])]) p retry n { s.gU w x with done:=s.dY,dm:=s.kept++[x] }:=fun G2 ce=>by
  have DT:cC [dI [dI [M,N],fV (.slice G2 (a.ts++[(x,wp,wq)]).length ce) (a.ts++[(x,wp,wq)])]] [dI [M,N]]:=cn (cW (M:=[_,_]) (L:=[])) (bh bK);have NE:cC [dI [dI [M,N],fV (.slice G2 (a.ts++[(x,wp,wq)]).length ce) (a.ts++[(x,wp,wq)])]] [fV (.slice G2 (a.ts++[(x,wp,wq)]).length ce) (a.ts++[(x,wp,wq)])]:=cn (cW (M:=[_,_]) (L:=[])) (cC.drop (bh bK));exact ⟨yC.wJ.cN DT,yC.cur.cN DT,yC.RC,fun t ht=>(yC.Pb t ht).cN DT,yC.cur.cN DT,⟨_,yC.RC,cF.cN (ba .zero) NE,fun t ht=>(yC.Pb t ht).cN DT⟩,eI,ha.pr,ha.low,ha.high⟩
 rw [hC];clear Z5 Z9 qs W1 W2 TJ hC;have he1:a.ts.length+1≤100:=by omega
 refine bl (id:=6) [14,15,16] R mixed ?_
 (refine tM 0 ?_;refine tM 1 ?_;refine tM 2 ?_;refine tN 3 ?_;refine tF 4 ?_)
 (refine tM 6 ?_;refine tN 7 ?_;refine tF 8 ?_)
 refine A.two 5 9 rfl rfl rfl rfl zK ?_ ?_
 ·refine bP (cE.dD rfl (QK _ _ zP) rfl) rfl ⟨fun _=>zE,?_⟩;refine tO 9 ?_;refine bP (bq rfl (TK _ _ zP)) rfl ⟨fun _=>zE,?_⟩;refine tO 10 ?_;refine bg rfl rfl (qf _ e (.slice dW (a.ts++[(x,wp,wq)]).length k1) (a.ts++[(x,wp,wq)]) (ba zP) (fun t ht=>(yC.Pb t ht).cN (cH zP)) zo) ?_;rintro _ _ ⟨G2,ce,rfl,rfl⟩;refine ⟨fun _=>zE,?_⟩;refine tN 11 ?_;refine tF 12 ?_;refine tO 13 ?_;refine zg ?_;refine ⟨fun _=>zE,?_⟩;refine tO 14 ?_;refine dV (bp rfl) ?_;refine tO 15 ?_;refine dV (bb rfl) ?_;refine tO 16 ?_;refine tZ ?_;refine ⟨zN,?_⟩;refine bf zK ?_;refine bX (mq g p retry n { s.gU w x with done:=s.dY,dm:=s.kept++[x] }::R) rfl (cn ?_ (lL (QL G2 ce))) ⟨rfl,rfl⟩;exact cn (eu (A:=dI [M,N]) (B:=fV (.slice G2 (a.ts++[(x,wp,wq)]).length ce) (a.ts++[(x,wp,wq)])) zP zP) zE
 ·refine bP (bq rfl (TK _ _ zP)) rfl ⟨fun _=>zE,?_⟩;refine A.two 5 10 rfl rfl rfl rfl zK ?_ ?_
  ·refine bP (cE.dD rfl (QK _ _ zP) rfl) rfl ⟨fun _=>zE,?_⟩;refine tO 10 ?_;refine bg rfl rfl (qf _ e (.slice dW (a.ts++[(x,wp,wq)]).length k1) (a.ts++[(x,wp,wq)]) (ba zP) (fun t ht=>(yC.Pb t ht).cN (cH zP)) zo) ?_;rintro _ _ ⟨G2,ce,rfl,rfl⟩;refine ⟨fun _=>zE,?_⟩;refine tN 11 ?_;refine tF 12 ?_;refine tO 13 ?_;refine zg ?_;refine ⟨fun _=>zE,?_⟩;refine tO 14 ?_;refine dV (bp rfl) ?_;refine tO 15 ?_;refine dV (bb rfl) ?_;refine tO 16 ?_;refine tZ ?_;refine ⟨zN,?_⟩;refine bf zK ?_;refine bX (mq g p retry n { s.gU w x with done:=s.dY,dm:=s.kept++[x] }::R) rfl (cn ?_ (lL (QL G2 ce))) ⟨rfl,rfl⟩;exact cn (eu (A:=dI [M,N]) (B:=fV (.slice G2 (a.ts++[(x,wp,wq)]).length ce) (a.ts++[(x,wp,wq)])) zP zP) zE
  ·refine bg rfl rfl (qf _ e (.slice dW (a.ts++[(x,wp,wq)]).length k1) (a.ts++[(x,wp,wq)]) (ba zP) (fun t ht=>(yC.Pb t ht).cN (cH zP)) zo) ?_;rintro _ _ ⟨G2,ce,rfl,rfl⟩;refine ⟨fun _=>zE,?_⟩;refine tO 5 ?_;refine bP (cE.dD rfl (QK _ _ zP) rfl) rfl ⟨fun _=>zE,?_⟩;refine tN 11 ?_;refine tF 12 ?_;refine tO 13 ?_;refine zg ?_;refine ⟨fun _=>zE,?_⟩;refine tO 14 ?_;refine dV (bp rfl) ?_;refine tO 15 ?_;refine dV (bb rfl) ?_;refine tO 16 ?_;refine tZ ?_;refine ⟨zN,?_⟩;refine bf zK ?_;refine bX (mq g p retry n { s.gU w x with done:=s.dY,dm:=s.kept++[x] }::R) rfl (cn ?_ (lL (QL G2 ce))) ⟨rfl,rfl⟩;exact cn (eu (A:=dI [M,N]) (B:=fV (.slice G2 (a.ts++[(x,wp,wq)]).length ce) (a.ts++[(x,wp,wq)])) zP zP) zE
theorem H6 {g:Nat} {p:jK} {retry n m:Nat} {s:cS} {R:List cK} (h:n≤m):cC (mq g p retry n s::R) (mq g p retry m s::R) :=
 tW fun a=>tW fun M=>cn (cW (M:=Pu (a.ok M p retry n s)::oR g p retry s a M []) (L:=R)) (Pz fun h2=>lL (h2.mono h))
theorem tC (g:Nat) (p:jK) (retry n:Nat) (s:cS) (w:Nat) (vp vq:Value) (x:kF) (size now:Nat) (hx:fK R vp vq x.sig) (hxw:x.gy≤1000000) (hw:w≤1000000) (kD:size≤4294967296) (ht:now≤10000000) (hn:n≤999000) :
 Ct prog 254 #[pt g,.int .i64 (w:Int),.agg (iy x vp vq).toArray,.int .i64 (size:Int),.int .i64 (now:Int)] e (mq g p retry n s::R) (fun v' L'=>v'=.bool (s.zr p w x size)∧L'=mq g p retry (n+1) (s.nU p w x size now)::R):=by
 refine uL fun a M ha=>?_
 have EA:=ha.pr.iC;have mG:cC (oR g p retry s a M R) R:=zE;refine a7 (hx.cN mG).parts.one fun o6=>?_
 refine a7 (hx.cN mG).path.one fun o7=>?_
 have GD:cC (oR g p retry s a M R) [M]:=cH zP;refine a7 (cz (ha.cur.root.cN GD)) fun LZ=>?_
 refine a7 (cz (ha.wJ.log.cN GD)) fun Ty=>?_
 refine a7 (ha.wJ.ey.cN GD).one fun UQ=>?_
 refine a7 (oT (show cT (oR g p retry s a M R) (kX (.slice a.al s.st.length a.cl) s.st) _ from zP)) ?_;rintro ⟨lE,c',lG,CX,M7,Ae⟩
 cases lG
 have hlen:=ha.st.len;have fS:=lL (R:=R) (g:=g) (ha.mono (m:=n+1) zo);have lF:¬ s.ri w→s.zr p w x size=false∧s.nU p w x size now=s:=fun h=>⟨by unfold cS.zr;rw [aq (fun q=>h q.1)],by unfold cS.nU;rw [aH h]⟩
 refine a8 (args:=[_,_,_,_,_]) func254 rfl ntmps254 results254 rfl ?_
 by_cases A6:s.cur.isSome=true
 rotate_left
 ·obtain ⟨hB,hS⟩:=lF (fun h=>A6 h.1);have hsf:s.cur.isSome=false:=by simpa using A6
  rw [hB,hS];dsimp only [oR,eM.cells] at fS ⊢
  rw [hsf] at fS ⊢
  (repeat (refine wA ?_;intros))
  exact aY (mq g p retry (n+1) s::R) rfl (cn zE fS) ⟨rfl,rfl⟩
 by_cases CD:w<s.st.length
 rotate_left
 ·obtain ⟨hB,hS⟩:=lF (fun h=>CD h.2.1);rw [hB,hS];dsimp only [oR,eM.cells] at fS ⊢
  rw [A6] at fS ⊢
  (repeat (refine wA ?_;intros))
  exact aY (mq g p retry (n+1) s::R) rfl (cn zE fS) ⟨rfl,rfl⟩
 rcases Ae with ⟨-,-,Ae⟩|⟨gs,qy⟩
 ·omega
 have vO:=m6 CD
 have Nn:∀ (L R':List cK),cT L (kX (.slice (some ⟨gs,0,none⟩) s.st.length a.cl) s.st) R'→Rd L ⟨gs,0+w*3+2,none⟩ (.bool (s.st.getD w k9).kept):=fun L R' pl=>by
  have:=eh.elem (ba pl) QF (ae CD);rw [vO];exact this.Na (k:=2) rfl
 have Us:∀ (L R':List cK),cT L (kX (.slice (some ⟨gs,0,none⟩) s.st.length a.cl) s.st) R'→Rd L ⟨gs,0+w*3+0,none⟩ (.int .i64 ((s.st.getD w k9).size:Int)):=fun L R' pl=>by
  have:=eh.elem (ba pl) QF (ae CD);rw [vO];exact this.Na (k:=0) rfl
 by_cases NX:(s.st.getD w k9).kept=true
 ·obtain ⟨hB,hS⟩:=lF (fun h=>by have h2:=h.2.2;rw [NX] at h2;cases h2);rw [hB,hS];rw [NX] at Nn
  dsimp only [oR,eM.cells] at fS ⊢
  rw [A6,qy] at fS ⊢
  (repeat' first|(refine b7 rfl (Nn _ _ zP) rfl ?_)|refine Za ?_|refine Zb ?_|apply Zc|apply Zd|apply Ze|apply Zf|refine Zg ?_|refine Zh ?_|refine Zi ?_|refine Zk ?_|refine Zm ?_|refine Zn ?_|refine Zy ?_|refine ZB ?_|refine ZK ?_|refine Yg fun _=>?_|refine Yx ?_|refine Yz ?_|apply YE|apply YF)
  exact aY (mq g p retry (n+1) s::R) rfl (cn zE fS) ⟨rfl,rfl⟩
 have Qu:(s.st.getD w k9).kept=false:=by simpa using NX
 have hh:s.ri w:=⟨A6,CD,Qu⟩
 have N8:w<p.ey.length:=by omega
 obtain ⟨c,hc⟩:=Option.isSome_iff_exists.1 A6;have H2:s.dY=c:=by unfold cS.dY;rw [hc];rfl
 have UG:=ha.st.cur c hc;have HT:s.dY.dd.right:=by rw [H2];exact UG.1
 rw [Qu] at Nn
 dsimp only [oR,eM.cells] at fS ⊢
 rw [A6,qy] at fS ⊢
 (repeat' first|refine W.rn (id:=6) (fun _:Unit=>[(0,pt g),(1,.int .i64 (w:Int)),(3,.int .i64 (size:Int)),(4,.int .i64 (now:Int))]) (fun _=>cM g ([a.vl,a.vw,.int .i64 (p.eE:Int),.int .i64 (retry:Int),pt a.ga,.slice (some ⟨gs,0,none⟩) s.st.length a.cl]++dT s.dY a.ur a.up a.uq++[.bool true,.slice a.ak a.ts.length a.ck]++dT s.done a.dr a.dp a.dq++[a.ve]) sr (0,0)::M::kX (.slice (some ⟨gs,0,none⟩) s.st.length a.cl) s.st::fV (.slice a.ak a.ts.length a.ck) a.ts::r7 a.ga s.ord s.ag::R) (fun _=>¬ s.vF p w x) ?_ ?_|(refine b7 rfl (Nn _ _ zP) rfl ?_)|refine Za ?_|refine Zb ?_|apply Zc|apply Zd|apply Ze|apply Zf|refine Zg ?_|refine Zh ?_|refine Zi ?_|refine Zk ?_|refine Zm ?_|refine Zn ?_|refine Zy ?_|refine ZB ?_|refine ZK ?_|refine Yg fun _=>?_|refine Yx ?_|refine YA ?_|apply YC)
 rotate_left
 ·refine ⟨?_⟩;rename_i g7
  (repeat (refine wA ?_;intros))
  refine bE (id:=3) [] mixed ?_
  have TJ:cC (cM g7 (iy x vp vq) nu (0,0)::cM g ([a.vl,a.vw,.int .i64 (p.eE:Int),.int .i64 (retry:Int),pt a.ga,.slice (some ⟨gs,0,none⟩) s.st.length a.cl]++dT s.dY a.ur a.up a.uq++[.bool true,.slice a.ak a.ts.length a.ck]++dT s.done a.dr a.dp a.dq++[a.ve]) sr (0,0)::M::kX (.slice (some ⟨gs,0,none⟩) s.st.length a.cl) s.st::fV (.slice a.ak a.ts.length a.ck) a.ts::r7 a.ga s.ord s.ag::R) (mq g p retry n s::R):=by
   refine cn ?_ (lL ha);dsimp only [oR,eM.cells];rw [A6,qy];exact zE
  by_cases fq:s.vF p w x
  ·have hB:s.zr p w x size=true:=by unfold cS.zr;exact ay ⟨hh,.inl fq⟩
   have hS:s.nU p w x size now=s.ir p w x:=by unfold cS.nU;rw [aB (fun q=>q hh),aH fq]
   rw [hB,hS];have X8:=fq.1
   (refine tF 0 ?_;refine tL 1 ?_;refine tM 2 ?_;refine tk 3 (.bool true) rfl (cE.iX (bY rfl rfl) zy) ?_;refine tM 4 ?_;refine du 5 _ rfl (bw rfl) ?_;refine du 6 _ rfl (bp rfl) ?_;refine du 7 _ rfl (bb rfl) ?_;refine du 8 _ rfl (cE.dj rfl zP zI zX) ?_;refine du 9 _ rfl (bw rfl) ?_;refine du 10 _ rfl (bp rfl) ?_;refine du 11 _ rfl (bb rfl) ?_;refine du 12 _ rfl (bb rfl) ?_;refine du 13 _ rfl (cE.dj rfl zP zI zX) ?_;refine du 14 _ rfl (cE.dD rfl zA zX) ?_)
   refine A.pi 15 rfl rfl zK ?_;refine bg rfl rfl (lZ _ e a.vl a.vw a.ur vp vq p s.dY.dd x (ha.wJ.cN (cH zP)) ha.pr (ha.cur.root.cN (cH zP)) HT (hx.cN zE)) ?_;rintro _ _ ⟨rfl,rfl⟩;refine ⟨fun _=>zE,A.fF zE ?_⟩;rw [ay fq.2]
   (refine tk 16 _ rfl (bM rfl rfl) ?_)
   refine bf zK ?_;refine wB ?_;refine aZ rfl rfl (Ct.cN (EF R e g p retry n s w vp vq x hx fq.1 fq.2.2.1 hh) TJ) ?_;rintro _ _ ⟨rfl,rfl⟩;refine wB ?_;refine aY (mq g p retry (n+1) (s.ir p w x)::R) rfl (H6 zo) ⟨rfl,rfl⟩
  by_cases W3:x.gy=w
  ·have hnv:¬ x.hJ p s.dY.dd:=fun h=>fq ⟨W3,h⟩
   (refine tF 0 ?_;refine tL 1 ?_;refine tM 2 ?_;refine tk 3 (.bool true) rfl (cE.iX (bY rfl rfl) zy) ?_;refine tM 4 ?_;refine du 5 _ rfl (bw rfl) ?_;refine du 6 _ rfl (bp rfl) ?_;refine du 7 _ rfl (bb rfl) ?_;refine du 8 _ rfl (cE.dj rfl zP zI zX) ?_;refine du 9 _ rfl (bw rfl) ?_;refine du 10 _ rfl (bp rfl) ?_;refine du 11 _ rfl (bb rfl) ?_;refine du 12 _ rfl (bb rfl) ?_;refine du 13 _ rfl (cE.dj rfl zP zI zX) ?_;refine du 14 _ rfl (cE.dD rfl zA zX) ?_)
   refine A.pi 15 rfl rfl zK ?_;refine bg rfl rfl (lZ _ e a.vl a.vw a.ur vp vq p s.dY.dd x (ha.wJ.cN (cH zP)) ha.pr (ha.cur.root.cN (cH zP)) HT (hx.cN zE)) ?_;rintro _ _ ⟨rfl,rfl⟩;refine ⟨fun _=>zE,A.fF zE ?_⟩;rw [aq hnv]
   (refine tk 16 _ rfl (bM rfl rfl) ?_)
   refine bf zK ?_;refine wB ?_;exact bH () fq zS zE
  ·(refine tF 0 ?_;refine tL 1 ?_;refine tM 2 ?_;refine tk 3 (.bool false) rfl (cE.no (bY rfl rfl) zn) ?_;refine tM 4 ?_;refine bc 5 rfl rfl zK zE rfl ?_;refine bc 6 rfl rfl zK zE rfl ?_;refine bc 7 rfl rfl zK zE rfl ?_;refine bc 8 rfl rfl zK zE rfl ?_;refine bc 9 rfl rfl zK zE rfl ?_;refine bc 10 rfl rfl zK zE rfl ?_;refine bc 11 rfl rfl zK zE rfl ?_;refine bc 12 rfl rfl zK zE rfl ?_;refine bc 13 rfl rfl zK zE rfl ?_;refine bc 14 rfl rfl zK zE rfl ?_)
   refine bc 15 rfl rfl zK zE rfl ?_
   (refine tk 16 _ rfl (bJ rfl rfl) ?_)
   refine bf zK ?_;refine wB ?_;exact bH () fq zS zE
 rintro _ fq;have hgo:s.zr p w x size=decide (s.turns w size):=by unfold cS.zr;exact decide_eq_decide.2 ⟨fun h=>h.2.resolve_left fq,fun h=>⟨hh,.inr h⟩⟩
 have wI:s.nU p w x size now=if s.turns w size then s.zq w size now else s:=by unfold cS.nU;rw [aB (fun q=>q hh),aB fq]
 rw [hgo,wI];have jM:=fun n=>H4 CD n
 have pa:(s.st.set w { s.st.getD w k9 with size:=size }).length=s.st.length:=List.length_set;have ph:∀ y∈s.ag,y.fits:=fun y hy=>(ha.st.fits y hy).1
 have TE:=ha.st.AY;have TF:=ha.st.ord;obtain ⟨z,hz⟩:∃ z,z=(s.st.getD w k9).size:=⟨_,rfl⟩
 rw [← hz] at Us
 have Qv:s.turns w size↔size≤s.dY.dd.size∧size≠z:=by unfold cS.turns;rw [hz]
 clear Nn;have abU:=Us (kX (.slice (some ⟨gs,0,none⟩) s.st.length a.cl) s.st::fV (.slice a.ak a.ts.length a.ck) a.ts::r7 a.ga s.ord s.ag::R) _ .zero
 by_cases L6:s.turns w size
 rotate_left
 ·rw [aq L6,aB L6];have TD:¬ (size≤s.dY.dd.size∧size≠z):=fun q=>L6 (Qv.2 q)
  by_cases hle:size≤s.dY.dd.size
  ·have hze:size=z:=Decidable.not_not.1 fun q=>TD ⟨hle,q⟩
   refine wB ?_;exact aY (mq g p retry (n+1) s::R) rfl (cn zE fS) ⟨rfl,rfl⟩
  ·refine wB ?_;exact aY (mq g p retry (n+1) s::R) rfl (cn zE fS) ⟨rfl,rfl⟩
 rw [ay L6,aH L6];obtain ⟨HE,ht2⟩:=Qv.1 L6;have W4:=cS.H3 (now:=now) ha.st N8 HE zo zo zo;have L5:eM.ok a M p retry (n+1) (s.zq w size now):=⟨ha.wJ,ha.cur,ha.RC,ha.Pb,ha.done,ha.dm,W4,ha.pr,ha.low,ha.high⟩
 have TL:=jM size;refine wB ?_;refine aZ rfl rfl (Ct.at zP (r8 _ e g a.ga s.ord now w s.ag zR ph zo zo zo zo)) ?_;rintro _ _ ⟨rfl,rfl⟩;refine wB ?_
 have W5:(s.st.flatMap FW.cells).set (0+w*3+0) (.int .i64 (size:Int))=(s.zq w size now).st.flatMap FW.cells:=by
  rw [aC,TL];rfl
 have QJ:(s.zq w size now).st.length=s.st.length:=List.length_set;have W6:(s.zq w size now).dY=s.dY:=rfl;have W7:(s.zq w size now).cur=s.cur:=rfl;rw [W5];refine aY (mq g p retry (n+1) (s.zq w size now)::R) rfl (cn ?_ (lL L5)) ⟨rfl,rfl⟩;dsimp only [oR,eM.cells,kX];rw [W6,W7,A6,QJ,qy];exact zE
end Go.Proofs
namespace Go.Bs
theorem eh.cN {L L':List cK} {g o:Nat} {cs:List Value} (h:eh L' g o cs) (f:cC L L'):eh L g o cs:=fun j u hj=>(h j u hj).cN f
end Go.Bs
namespace Go.Proofs
open Go.Bs
attribute [local irreducible] Bs.cE Bs.Do Bs.O Bs.W Bs.Fin Bs.A Bs.Ct Bs.cF Bs.Rd Bs.Sat Bs.cM Bs.Ob Bs.dJ Bs.View Bs.cC Bs.Ex Bs.dI Bs.Pu Bs.eZ Bs.dK Bs.eh
theorem JU:uI.sig.fits:=⟨fun x hx=>absurd hx aO,fun x hx=>absurd hx aO⟩
theorem cS.ok.W8 {s:cS} {k n:Nat} (h:s.ok k n):s.dY.sig.fits:=by
 unfold cS.dY
 cases hc:s.cur with
 | none=>exact JU
 | some c=>exact (h.cur c hc).2.fits
abbrev qQ:TypeId:=87
abbrev H7:List Value:=dT uI nY nY nY
theorem G3 (R:List cK) (e:World) (g:Nat) (p:jK) (retry n:Nat) (s:cS) :
 Ct Tryz.prog 175 #[pt g] e (mq g p retry n s::R) (fun v' L'=>∃ (N:cK) (ur up uq:Value),v'=.tuple #[.agg (dT s.dY ur up uq).toArray,.bool s.cur.isSome]∧ff [N] ur up uq s.dY∧L'=N::mq g p retry n s::R):=by
 refine uL fun a M ha=>?_
 refine bI (args:=[_]) Tryz.func175 rfl Tryz.ntmps175 Tryz.results175 rfl ?_
 (repeat (refine wA ?_;intros))
 rename_i g2;refine bl (id:=1) [10] (oR g p retry s a M R) Tryz.mixed ?_
 (refine tM 0 ?_;refine tN 1 ?_;refine tF 2 ?_;refine tk 3 _ rfl (cE.dj rfl zP zI zX) ?_;refine tM 5 ?_;refine tN 6 ?_;refine tF 7 ?_;refine tL 8 ?_)
 refine tO 4 ?_;refine bg rfl rfl (iz _ e a.ur a.up a.uq s.dY (ha.cur.cN (cH zP)) ha.st.W8) ?_;rintro _ _ ⟨N,ur,up,uq,rfl,hN,rfl⟩;refine ⟨fun _=>zE,?_⟩;refine A.cB (cz (hN.root.cN (cH zP))) fun o8=>?_
 refine A.cB (hN.sig.cN (cH zP)).parts.one fun o9=>?_
 refine A.cB (hN.sig.cN (cH zP)).path.one fun LZ=>?_
 refine tO 9 ?_;refine zg ?_;refine ⟨fun _=>zE,?_⟩
 ((refine tO 10 ?_;refine dV (bj rfl) ?_))
 refine bf zK ?_;refine wB ?_;apply bB
 ·exact zV
 exact ⟨N::mq g p retry n s::R,cn (show cC _ (N::oR g p retry s a M R) from zE) (bh (lL ha)),N,ur,up,uq,rfl,hN,rfl⟩
theorem EG (R:List cK) (e:World) (g:Nat) (p:jK) (retry n:Nat) (s:cS) :
 Ct Tryz.prog 182 #[pt g] e (mq g p retry n s::R) (fun v' L'=>(s.dm=[]→v'=.tuple #[.agg H7.toArray,nY,.bool false]∧L'=mq g p retry n s::R)∧(s.dm≠[]→∃ (N:cK) (ur up uq vg:Value),v'=.tuple #[.agg (dT s.done ur up uq).toArray,vg,.bool true]∧ff [N] ur up uq s.done∧oC [N] vg s.dm∧L'=N::mq g p retry n s::R)):=by
 refine uL fun a M ha=>?_
 have EA:=ha.pr.iC;have UE:=ha.st.JH;obtain ⟨ts,fx,RB,HH⟩:=ha.dm;have mw:ts.length=s.dm.length:=by rw [← fx,ab]
 refine a7 ((RB.cN (show cC (oR g p retry s a M R) [M] from cH zP)).shape zo) ?_;rintro ⟨⟨C3,cg,ND,h3,h4,h5,h6⟩,_⟩;simp only [maxLen] at h4
 rw [ND] at RB
 have rl:oR g p retry s a M R=cM g (lq p a.vl a.vw++[.int .i64 (retry:Int),pt a.ga,.slice a.al s.st.length a.cl]++dT s.dY a.ur a.up a.uq++[.bool s.cur.isSome,.slice a.ak a.ts.length a.ck]++dT s.done a.dr a.dp a.dq++[.slice C3 ts.length cg]) sr (0,0)::M::kX (.slice a.al s.st.length a.cl) s.st::fV (.slice a.ak a.ts.length a.ck) a.ts::r7 a.ga s.ord s.ag::R:=by
  dsimp only [oR,eM.cells];rw [ND]
 have fS:=lL (R:=R) (g:=g) ha;rw [rl] at fS ⊢
 refine bI (args:=[_]) Tryz.func182 rfl Tryz.ntmps182 Tryz.results182 rfl ?_
 by_cases he:s.dm=[]
 ·have tR:ts.length=0:=by rw [mw,he];rfl
  rw [tR] at fS ⊢
  (repeat (refine wA ?_;intros))
  apply bB
  ·exact zV
  exact ⟨mq g p retry n s::R,cn zE fS,fun _=>⟨rfl,rfl⟩,fun h=>absurd he h⟩
 have qL:0<ts.length:=by rw [mw];exact List.length_pos_iff.2 he
 (repeat (refine wA ?_;intros))
 rename_i g2;refine br (ι:=Nat × List jn × cK × Option Addr × Nat) (fun j=>[(0,pt g),(2,pt g2),(5,.slice j.2.2.2.1 j.2.1.length j.2.2.2.2),(18,.slice C3 ts.length cg),(19,.int .i64 (ts.length:Int)),(20,.int .i64 (j.1:Int))]) (fun j=>fV (.slice j.2.2.2.1 j.2.1.length j.2.2.2.2) j.2.1::j.2.2.1::cM g2 H7 qQ (0,0)::cM g (lq p a.vl a.vw++[.int .i64 (retry:Int),pt a.ga,.slice a.al s.st.length a.cl]++dT s.dY a.ur a.up a.uq++[.bool s.cur.isSome,.slice a.ak a.ts.length a.ck]++dT s.done a.dr a.dp a.dq++[.slice C3 ts.length cg]) sr (0,0)::M::kX (.slice a.al s.st.length a.cl) s.st::fV (.slice a.ak a.ts.length a.ck) a.ts::r7 a.ga s.ord s.ag::R) (fun j=>j.1≤ts.length∧j.2.1.map (·.1)=s.dm.take j.1∧∀ t∈j.2.1,jn.ok [j.2.2.1] t) (fun j=>ts.length - j.1) (0,[],cG [],none,0) ⟨aG _,rfl,fun t ht=>by cases ht⟩ zS (cn (dC) (cn (di nu 4) zE)) ?_;rintro ⟨k,us,Mx,mH,cu⟩ ⟨hk,fZ,QE⟩;dsimp only at hk fZ QE ⊢
 have HD:us.length=k:=by have:=congrArg List.length fZ;rw [ab,aE] at this;omega
 by_cases cQ:k<ts.length
 rotate_left
 ·rw [aF zo] at fZ
  (repeat' first|refine Za ?_|apply Zc|apply Zd|apply Ze|apply Zf|refine Zg ?_|refine Zh ?_|refine ZB ?_|refine YA ?_|apply YD|apply YG|apply YJ|(apply O.dj;exact rfl;exact zP;(first|(simp only [aC,Nat.add_zero,Nat.reduceAdd,List.drop_succ_cons,List.drop_zero,List.take_succ_cons,List.take_zero];done)|(simp only [aC,Nat.add_zero,Nat.reduceAdd,List.drop_succ_cons,List.drop_zero,List.take_succ_cons,List.take_zero];exact rfl));exact rfl;exact rfl))
  refine aZ rfl rfl (iz _ e a.dr a.dp a.dq s.done (ha.done.cN (cH zP)) ha.st.LU) ?_;rintro _ _ ⟨N,ur,up,uq,rfl,hN,rfl⟩;refine bo (cz (hN.root.cN (cH zP))) fun o8=>?_
  refine bo (hN.sig.cN (cH zP)).parts.one fun o9=>?_
  refine bo (hN.sig.cN (cH zP)).path.one fun LZ=>?_
  have ho:cC [dI [N,fV (.slice mH us.length cu) us,Mx]] [N,fV (.slice mH us.length cu) us,Mx]:=cW (M:=[_,_,_]) (L:=[]);refine wB ?_;apply bB
  ·exact zV
  refine ⟨dI [N,fV (.slice mH us.length cu) us,Mx]::mq g p retry n s::R,cn (qE (A:=N) (B:=fV (.slice mH us.length cu) us) (C:=Mx) zP zP zP) (bh (cn zE fS)),fun h=>absurd h he,fun _=>⟨_,ur,up,uq,.slice mH us.length cu,rfl,hN.cN (cn ho (cH .zero)),oC.cN ⟨us,fZ,ba (.succ .zero),fun t ht=>(QE t ht).cN (cH zP)⟩ ho,rfl⟩⟩
 rcases h6 with h6|⟨gg,og,rfl⟩
 ·omega
 have F5:eh [M] gg (og+k*4) (jn.cells (ts[k]'cQ)):=eh.elem RB jn.len (ae cQ);have js:=HH _ (az cQ);have yx:k<s.dm.length:=by omega
 have D6:(ts[k]'cQ).1=s.dm[k]'yx:=by
  have:=congrArg (fun l=>l[k]?) fx;simp only [aI,ae cQ,ae yx,Option.map_some,Option.some.injEq] at this
  exact this
 have fq:s.dm.take (k+1)=s.dm.take k++[s.dm[k]'yx]:=aA yx;have IW:=(ha.st.dm _ (az yx)).2.fits;rw [← D6] at fq IW
 generalize ts[k]'cQ=y at *
 obtain ⟨⟨w,sg⟩,vp,O3⟩:=y;obtain ⟨t1,t2⟩:=js;dsimp only at t1 t2 IW fq F5
 refine bG (t1.cN (cH zP)).parts.one fun Ty=>?_
 refine bG (t1.cN (cH zP)).path.one fun UQ=>?_
 dsimp only [jn.cells] at F5
 have W9:∀ (L R':List cK),cT L M R'→eh L gg (og+k*4) (iy ⟨w,sg⟩ vp O3):=fun L R' pl=>F5.cN (cH pl)
 (repeat' first|(refine O.dD rfl (W9 _ _ zP) rfl rfl ?_)|refine Za ?_|apply Zc|apply Zd|apply Ze|apply Zf|refine Zj ?_|refine ZA ?_|refine Yh fun _=>?_|refine Yx ?_|refine Yz ?_|apply YB|apply YC|refine YR ?_|fail)
 refine aZ rfl rfl (oD _ e vp O3 ⟨w,sg⟩ (t1.cN (cH zP)) IW) ?_;rintro _ _ ⟨N2,wp,wq,rfl,m5,rfl⟩;refine bo (m5.cN (cH zP)).parts.one fun ZL=>?_
 refine bo (m5.cN (cH zP)).path.one fun ZR=>?_
 (repeat (refine wA ?_;intros))
 refine bD (bm rfl rfl rfl (show cT _ (fV (.slice mH us.length cu) us) _ from zP) (bQ (n:=4) (c:=1) zP rfl zl) rfl rfl zO zm zo fun dW k1 _=>?_)
 refine wB ?_;have eW:cC [dI [Mx,N2]] [Mx]:=cn (cW (M:=[_,_]) (L:=[])) (bh bK);have iH:cC [dI [Mx,N2]] [N2]:=cn (cW (M:=[_,_]) (L:=[])) (cC.drop (bh bK));refine bi (k+1,us++[(⟨w,sg⟩,wp,wq)],dI [Mx,N2],dW,k1) ⟨cQ,by dsimp only;rw [fq,ah,fZ];rfl,fun t ht=>?_⟩ zd ?_ ?_
 ·rcases aJ.1 ht with ht|ht
  ·exact (QE t ht).cN eW
  ·rw [an.1 ht];exact ⟨m5.cN iH,t2⟩
 ·simp only [aa,aj];exact zS
 ·simp only [fV,aa,aj,aW,aV,List.flatMap_nil,aK];exact cn (eu (A:=Mx) (B:=N2) zP zP) zE
end Go.Proofs
