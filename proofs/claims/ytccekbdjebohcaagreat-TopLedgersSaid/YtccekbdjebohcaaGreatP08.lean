/- Part 8 of a proof of this: TopLedgers returns true for any arguments; nothing of the old memory is turned. No condition. -/
import Derived.Test.YtccekbdjebohcaaGreatP07
set_option linter.unusedVariables false
set_option linter.unusedSimpArgs false
namespace Go.Proofs
attribute [local irreducible] Bs.Val Bs.Do Bs.O Bs.W Bs.Fin Bs.A Bs.Ct Bs.RdSl Bs.Rd Bs.Sat Bs.Blk Bs.Ob Bs.Own Bs.View Bs.Ent Bs.Ex Bs.All Bs.Pu Bs.Base Bs.sepL Bs.RdA
open Go.Bs
open Tryz
variable (R:List Res) (e:World)
abbrev AE.cells (a:AE):List Value:=[.int .i64 (a.at':Int),.int .i64 (a.ord:Int),.int .i64 (a.what:Int)]
abbrev tAE:TypeId:=377
abbrev tAg:TypeId:=364
abbrev tPile:TypeId:=379
abbrev OwnA (v:Value) (l:List AE):Res:=Own tAE 3 v l.length (l.flatMap AE.cells)
theorem ae3 (a:AE):a.cells.length=3:=rfl
theorem ae_ones {l:List AE}:∀ c∈l.flatMap AE.cells,c.oneCell'=true:=flatN_ones fun a _ c hc=>by
 simp only [AE.cells,List.mem_cons,List.not_mem_nil,or_false] at hc
 rcases hc with rfl|rfl|rfl<;>rfl
theorem ae_set {l:List AE} {i:Nat} {a:AE} (h:i<l.length):(l.flatMap AE.cells).take (i*3)++a.cells++(l.flatMap AE.cells).drop (i*3+a.cells.length)=(l.set i a).flatMap AE.cells:=by
 rw [ae3,show i*3+3=(i+1)*3 by omega,flatN_take ae3,flatN_drop ae3,List.set_eq_take_append_cons_drop,if_pos h,List.flatMap_append,List.flatMap_cons,List.append_assoc]
theorem getD_ae {l:List AE} {i:Nat} (h:i<l.length):l.getD i ae0=l[i]'h:=by simp [List.getD,h]
theorem litI {n:Nat} (h:n≤1000000000):prog.keyLits 1 3 [.int .i64 (n:Int)]=some [.int .i64 (n:Int)]:=by
 simp only [Program.keyLits,underlying3];rw [if_pos ⟨trivial,by simp [Lit.wf,IntKind.min,IntKind.max,IntKind.signed,IntKind.bits];omega⟩]
theorem litAE (a:AE) (h:a.fits):prog.keyLits 2 tAE (Value.agg a.cells.toArray).cells.toList=some [.int .i64 (a.at':Int),.int .i64 (a.ord:Int),.int .i64 (a.what:Int)]:=by
 have h1:prog.keyLits 2 tAE (Value.agg a.cells.toArray).cells.toList=Option.map List.flatten ((prog.keyLits 1 3 [.int .i64 (a.at':Int)]).bind fun x=>(prog.keyLits 1 3 [.int .i64 (a.ord:Int)]).bind fun y=>(prog.keyLits 1 3 [.int .i64 (a.what:Int)]).bind fun z=>some [x,y,z]):=by kernel_rfl
 rw [h1,litI h.1,litI h.2.1,litI h.2.2]
 rfl
theorem eqAE (a b:AE) (ha:a.fits) (hb:b.fits) (x y:Operand):∀ w,∃ r:Bool,((do eqGuard .eql tAE x y (.agg a.cells.toArray) (.agg b.cells.toArray);binOp .eql tAE (.agg a.cells.toArray) (.agg b.cells.toArray)):Sem Value).run prog w=.ok (.bool r) w:=fun w=>by
 have h1:(eqGuard .eql tAE x y (.agg a.cells.toArray) (.agg b.cells.toArray)).run prog w=.ok () w:=by kernel_rfl
 obtain ⟨r,hr,-⟩:=run_equalIn_deep (P:=prog) 9990 10 tAE zK w 2 2 (.agg a.cells.toArray) (.agg b.cells.toArray) _ _ zK zK (litAE a ha) (litAE b hb);have hr2:(Op.equal tAE (.agg a.cells.toArray) (.agg b.cells.toArray)).run prog w=.ok r w:=hr;refine ⟨r,?_⟩;rw [Sem.run_bind,h1];simp only [Result.andThen_ok,binOp];rw [Sem.run_bind,hr2]
 rfl
instance : CallT prog 339 339:=⟨call339⟩
theorem before_spec (a b:AE) (ha:a.fits) (hb:b.fits) :
 Ct prog 339 #[.agg a.cells.toArray,.agg b.cells.toArray] e R (fun v' L'=>∃ z:Int,v'=.int .i64 z∧decide (z<0)=a.lt b∧R=L'):=by
 refine Ct.enter (args:=[_,_]) func339 rfl ntmps339 results339 rfl ?_;have hlt:a.lt b=decide (a.at'<b.at'∨(a.at'=b.at'∧a.ord<b.ord)):=rfl
 (repeat' first|refine Za ?_|refine Zb ?_|apply Zc|apply Zd|apply Ze|apply Zf|refine Zh ?_|refine Zi ?_|refine Zj ?_|refine Zl ?_|refine Zm ?_|refine Zn ?_|refine Zo ?_|refine ZC (fun _=>?_) fun _=>?_|refine ZO (fun _=>?_) fun _=>?_|refine Yg fun _=>?_|refine Yz ?_|refine YA ?_|apply YB|apply YE|apply YF|apply YI)
 all_goals first
  | (exact Fin.ret R rfl zE ⟨-1,rfl,by rw [hlt,decide_eq_true zo,decide_eq_true zo],rfl⟩)
  | (
   refine O.do (Do.eqlAgg (eqAE a b ha hb _ _) rfl rfl rfl fun q=>?_)
   (repeat' first|(refine W.cond rfl ?_ ?_<;>intro _)|refine Zb ?_|apply Zc|apply Zd|apply Ze|apply Zf|apply YC|apply YE|apply YF|apply YH|apply YI)
   all_goals first
    | exact Fin.ret R rfl zE ⟨0,rfl,by rw [hlt,decide_eq_false zo,decide_eq_false zo],rfl⟩
    | exact Fin.ret R rfl zE ⟨1,rfl,by rw [hlt,decide_eq_false zo,decide_eq_false zo],rfl⟩)
theorem ownA_shape {v:Value} {l:List AE} {L R:List Res} (p:Pull L (OwnA v l) R):∀ h,sepL L h→∃ ad c,v=.slice ad l.length c∧l.length≤c∧c≤maxLen∧((ad=none∧c=0∧l.length=0)∨∃ g,ad=some ⟨g,0,none⟩):=fun h hs=>(own_shape p h hs).1
theorem plen_spec (ad:Option Addr) (n c:Nat) :
 Ct prog 336 #[.slice ad n c] e R (fun v' L'=>v'=.int .i64 (n:Int)∧R=L'):=by
 refine Ct.enter (args:=[_]) func336 rfl ntmps336 results336 rfl ?_;refine wB ?_;exact Fin.ret R rfl zE ⟨rfl,rfl⟩
theorem pless_spec (v:Value) (l:List AE) (i j:Nat) (hv:RdSl R 3 v l.length (l.flatMap AE.cells)) (hf:∀ a∈l,a.fits) (hi:i<l.length) (hj:j<l.length) :
 Ct prog 337 #[v,.int .i64 (i:Int),.int .i64 (j:Int)] e R (fun v' L'=>v'=.bool ((l.getD i ae0).lt (l.getD j ae0))∧R=L'):=by
 refine Ct.of_sep (RdSl.shape hv zo) ?_;rintro ⟨⟨ad,c,rfl,h3,h4,h5,h6⟩,_⟩;rcases h6 with h6|⟨g,o,rfl⟩
 ·omega
 rw [getD_ae hi,getD_ae hj];have f1:=hf _ (List.getElem_mem hi);have f2:=hf _ (List.getElem_mem hj);have r1:RdA R g (o+i*3) (l[i]'hi).cells:=RdA.elem hv ae3 (List.getElem?_eq_getElem hi);have r2:RdA R g (o+j*3) (l[j]'hj).cells:=RdA.elem hv ae3 (List.getElem?_eq_getElem hj)
 generalize l[i]'hi=a at *
 generalize l[j]'hj=b at *
 refine Ct.enter (args:=[_,_,_]) func337 rfl ntmps337 results337 rfl ?_;refine wB ?_;refine A.begin (id:=1) [10] R mixed ?_
 (refine tM 0 ?_;refine tM 1 ?_;refine tk 2 _ rfl (Val.indexAddrN rfl rfl zo) ?_;refine tJ 3 ?_;refine tM 4 ?_;refine tM 5 ?_;refine tk 6 _ rfl (Val.indexAddrN rfl rfl zo) ?_;refine tJ 7 ?_)
 refine tO 8 ?_;refine Do.call rfl rfl (before_spec _ e a b f1 f2) ?_;rintro _ _ ⟨z,rfl,hz,rfl⟩;refine ⟨fun _=>zE,?_⟩;rw [← hz]
 (all_goals ((refine A.takeDec 9 rfl zK zE (Val.lss rfl rfl) rfl ?_ ?_<;>intro _));all_goals ((refine tO 10 ?_;refine dV (Val.assign rfl) ?_)))
 all_goals refine A.done zK ?_
 all_goals refine wB ?_
 all_goals first
  | exact Fin.ret R rfl zE ⟨by rw [decide_eq_true (by assumption)];rfl,rfl⟩
  | exact Fin.ret R rfl zE ⟨by rw [decide_eq_false (by assumption)];rfl,rfl⟩
theorem pswap_spec (ad:Option Addr) (c:Nat) (l:List AE) (i j:Nat) (hi:i<l.length) (hj:j<l.length) :
 Ct prog 338 #[.slice ad l.length c,.int .i64 (i:Int),.int .i64 (j:Int)] e (OwnA (.slice ad l.length c) l::R) (fun v' L'=>v'=.tuple #[]∧L'=OwnA (.slice ad l.length c) (swapA l i j)::R):=by
 refine Ct.of_sep (ownA_shape .zero) ?_;rintro ⟨ad',c',hv,h3,h4,h5⟩
 cases hv
 rcases h5 with ⟨-,-,h5⟩|⟨g,rfl⟩
 ·omega
 have r1:∀ L,RdSl L 3 (.slice (some ⟨g,0,none⟩) l.length c) l.length (l.flatMap AE.cells)→RdA L g (0+i*3) (l[i]'hi).cells:=fun L hv=>RdA.elem hv ae3 (List.getElem?_eq_getElem hi)
 have r2:∀ L,RdSl L 3 (.slice (some ⟨g,0,none⟩) l.length c) l.length (l.flatMap AE.cells)→RdA L g (0+j*3) (l[j]'hj).cells:=fun L hv=>RdA.elem hv ae3 (List.getElem?_eq_getElem hj)
 have r3:=r1 _ (RdSl.own (show Pull (OwnA (.slice (some ⟨g,0,none⟩) l.length c) l::R) (OwnA (.slice (some ⟨g,0,none⟩) l.length c) l) R from .zero));have r4:=r2 _ (RdSl.own (show Pull (OwnA (.slice (some ⟨g,0,none⟩) l.length c) l::R) (OwnA (.slice (some ⟨g,0,none⟩) l.length c) l) R from .zero));clear r1 r2;have hsw:swapA l i j=(l.set i (l[j]'hj)).set j (l[i]'hi):=by unfold swapA;rw [getD_ae hi,getD_ae hj]
 rw [hsw];have hs1:=ae_set (a:=l[j]'hj) hi;have hs2:=ae_set (l:=l.set i (l[j]'hj)) (i:=j) (a:=l[i]'hi) (by rw [List.length_set];exact hj);have hl1:(l.set i (l[j]'hj)).length=l.length:=List.length_set;have hl2:((l.set i (l[j]'hj)).set j (l[i]'hi)).length=l.length:=by simp
 generalize l[i]'hi=a at *
 generalize l[j]'hj=b at *
 refine Ct.enter (args:=[_,_,_]) func338 rfl ntmps338 results338 rfl ?_;have h1v:∀ x:AE,∀ v∈x.cells,v.oneCell'=true:=fun x v hv=>by simp only [AE.cells,List.mem_cons,List.not_mem_nil,or_false] at hv;rcases hv with rfl|rfl|rfl<;>rfl
 refine A.begin (id:=0) [14,15] R mixed ?_
 (refine tM 0 ?_;refine tM 1 ?_;refine tM 2 ?_;refine tM 3 ?_;refine tM 4 ?_;refine tM 5 ?_;refine tk 6 _ rfl (Val.indexAddrN rfl rfl zo) ?_)
 refine tM 8 ?_;refine tM 9 ?_;refine tk 10 _ rfl (Val.indexAddrN rfl rfl hi) ?_;refine A.two 7 11 rfl rfl rfl rfl zK ?_ ?_
 ·refine Do.val (Val.loadAggR rfl r4 rfl) rfl ⟨fun _=>zE,?_⟩;refine tO 11 ?_;refine Do.val (Val.loadAggR rfl r3 rfl) rfl ⟨fun _=>zE,?_⟩;refine tO 12 ?_;refine Do.val (Val.indexAddrN rfl rfl hi) rfl ⟨fun _=>zE,?_⟩;refine tO 13 ?_;refine Do.storePart rfl rfl rfl (h1v _) .zero (by simp only [ae3];omega) ⟨fun _=>zE,?_⟩;rw [Nat.zero_add,hs1];refine tO 14 ?_;refine Do.val (Val.indexAddrN rfl rfl hj) rfl ⟨zN,?_⟩;refine tO 15 ?_;refine Do.storePart rfl rfl rfl (h1v _) .zero (by simp only [ae3];omega) ⟨zN,?_⟩;rw [Nat.zero_add,hs2];refine A.done zK ?_;refine Fin.stop (OwnA (.slice (some ⟨g,0,none⟩) l.length c) ((l.set i b).set j a)::R) rfl ?_ ⟨rfl,rfl⟩;simp only [OwnA,hl2];exact zE
 ·refine Do.val (Val.loadAggR rfl r3 rfl) rfl ⟨fun _=>zE,?_⟩;refine tO 7 ?_;refine Do.val (Val.loadAggR rfl r4 rfl) rfl ⟨fun _=>zE,?_⟩;refine tO 12 ?_;refine Do.val (Val.indexAddrN rfl rfl hi) rfl ⟨fun _=>zE,?_⟩;refine tO 13 ?_;refine Do.storePart rfl rfl rfl (h1v _) .zero (by simp only [ae3];omega) ⟨fun _=>zE,?_⟩;rw [Nat.zero_add,hs1];refine tO 14 ?_;refine Do.val (Val.indexAddrN rfl rfl hj) rfl ⟨zN,?_⟩;refine tO 15 ?_;refine Do.storePart rfl rfl rfl (h1v _) .zero (by simp only [ae3];omega) ⟨zN,?_⟩;rw [Nat.zero_add,hs2];refine A.done zK ?_;refine Fin.stop (OwnA (.slice (some ⟨g,0,none⟩) l.length c) ((l.set i b).set j a)::R) rfl ?_ ⟨rfl,rfl⟩;simp only [OwnA,hl2];exact zE
theorem run_nilchk {P:Program} (w:World) (t:TypeId) (p:Addr) (name:String):(Builtin.ssaWrapNilChk_ #[t] t #[.pointer (some p),strVal "",strVal name]).run P w=.ok (.pointer (some p)) w:=rfl
theorem run_method_val {P:Program} {t el:TypeId} {name:String} {sig f:Nat} {p:Addr} {v:Value} (hm:((P.info? t).bind fun i=>i.methods.find? (·.name == name))=some ⟨name,sig,#[],some (f,false)⟩) (hu:P.underlying t=some (.pointer el)) (hel:∀ w,(isAgg el).run P w=.ok false w) (n:Nat) (w:World) (h:w.cell? p=some v) :
 (Go.method (n+1) t (.pointer (some p)) name).run P w=.ok (f,v) w:=by
 cases hi:P.info? t with
 | none=>rw [hi] at hm;cases hm
 | some i =>
  rw [hi] at hm
  simp only [Option.bind_some] at hm
  simp [Go.method,run_typeInfo w hi,hm,follow,receiverAt,run_underlying hu,Place.get,run_nilchk,asAddr,loadVar,hel,h]
theorem run_invoke_method {P:Program} {t:TypeId} {name:String} {f:Nat} {u v:Value} {w:World} (h:(Go.method (P.types.size+99+1) t u name).run P w=.ok (f,v) w) (hc:∀ args w,(callFunc f args).run P w=.ok (.enter f args) w) (xs:List Value) :
 (Go.invoke (.fn (.method name) #[]) (.iface t u::xs).toArray).run P w=.ok (.enter f (v::xs).toArray) w:=by
 have h1:(Go.invoke (.fn (.method name) #[]) (.iface t u::xs).toArray).run P w=(callMethod (.iface t u) name ((.iface t u::xs).toArray.extract 1 (.iface t u::xs).toArray.size)).run P w:=rfl;rw [h1];have h2:(.iface t u::xs).toArray.extract 1 (.iface t u::xs).toArray.size=xs.toArray:=by simp
 rw [h2];have h3:Made.depth=99+1:=rfl;simp only [callMethod,Sem.run_bind,run_program,Result.andThen_ok,h3,← Nat.add_assoc];rw [h];simp only [Result.andThen_ok,hc]
 simp
theorem invLen (w:World) (p:Addr) (v:Value) (h:w.cell? p=some v):(Go.invoke (.fn (.method "Len") #[]) #[.iface tPile (.pointer (some p))]).run prog w=.ok (.enter 336 #[v]) w:=by
 have h1:=run_method_val (P:=prog) (t:=tPile) (el:=362) (name:= "Len") (sig:=36) (f:=336) zK underlying379 isAgg362 (prog.types.size+99) w h;exact run_invoke_method h1 call336 []
theorem invLess (w:World) (p:Addr) (v x y:Value) (h:w.cell? p=some v):(Go.invoke (.fn (.method "Less") #[]) #[.iface tPile (.pointer (some p)),x,y]).run prog w=.ok (.enter 337 #[v,x,y]) w:=by
 have h1:=run_method_val (P:=prog) (t:=tPile) (el:=362) (name:= "Less") (sig:=406) (f:=337) zK underlying379 isAgg362 (prog.types.size+99) w h;exact run_invoke_method h1 call337 [x,y]
theorem invSwap (w:World) (p:Addr) (v x y:Value) (h:w.cell? p=some v):(Go.invoke (.fn (.method "Swap") #[]) #[.iface tPile (.pointer (some p)),x,y]).run prog w=.ok (.enter 338 #[v,x,y]) w:=by
 have h1:=run_method_val (P:=prog) (t:=tPile) (el:=362) (name:= "Swap") (sig:=331) (f:=338) zK underlying379 isAgg362 (prog.types.size+99) w h;exact run_invoke_method h1 call338 [x,y]
theorem invPush (w:World) (p:Addr) (x:Value):(Go.invoke (.fn (.method "Push") #[]) #[.iface tPile (.pointer (some p)),x]).run prog w=.ok (.enter 341 #[.pointer (some p),x]) w:=by kernel_rfl
theorem invPop (w:World) (p:Addr):(Go.invoke (.fn (.method "Pop") #[]) #[.iface tPile (.pointer (some p))]).run prog w=.ok (.enter 340 #[.pointer (some p)]) w:=by kernel_rfl
abbrev pileV (g:Nat):Value:=.iface tPile (pt g)
abbrev agM (g:Nat) (ad:Option Addr) (c o:Nat) (l:List AE) (R:List Res):List Res:=Blk g [.slice ad l.length c,.int .i64 (o:Int)] tAg (0,0)::OwnA (.slice ad l.length c) l::R
theorem Do.pileLen {N:Fr} {σ:Env} {e:World} {x:Operand} {d:Tmp} {pos:String} {af:Array Edge} {gd:Option (Nat × Bool)} {ty:TypeId} {K:Env→List Res→Prop} {g:Nat} {ad:Option Addr} {c o:Nat} {l:List AE} {R:List Res} {ats:Array TypeId}
 (h0:ev σ x=some (pileV g)) (hd:Nat.blt d N.n=true) (k:K ((d,.int .i64 (l.length:Int))::σ) (agM g ad c o l R)) :
 Do prog N ⟨some d,.call { callee:=.invoke x "Len",args:=#[],argTypes:=ats },ty,pos,af,gd⟩ K σ e (agM g ad c o l R) :=
 Do.invoke (xs:=[]) (vs:=[]) h0 rfl hd (fun w hs=>invLen w _ _ ((Rd.blk .zero rfl).at hs)) (plen_spec _ e ad l.length c) (by rintro _ _ ⟨rfl,rfl⟩;exact k)
theorem Do.pileLess {N:Fr} {σ:Env} {e:World} {x y z:Operand} {d:Tmp} {pos:String} {af:Array Edge} {gd:Option (Nat × Bool)} {ty:TypeId} {K:Env→List Res→Prop} {g:Nat} {ad:Option Addr} {c o:Nat} {l:List AE} {R:List Res} {ats:Array TypeId} {i j:Nat}
 (hf:∀ a∈l,a.fits) (h0:ev σ x=some (pileV g)) (hy:ev σ y=some (.int .i64 (i:Int))) (hz:ev σ z=some (.int .i64 (j:Int))) (hd:Nat.blt d N.n=true) (hi:i<l.length) (hj:j<l.length) (k:K ((d,.bool ((l.getD i ae0).lt (l.getD j ae0)))::σ) (agM g ad c o l R)) :
 Do prog N ⟨some d,.call { callee:=.invoke x "Less",args:=#[y,z],argTypes:=ats },ty,pos,af,gd⟩ K σ e (agM g ad c o l R) :=
 Do.invoke (xs:=[y,z]) (vs:=[.int .i64 (i:Int),.int .i64 (j:Int)]) h0 (by simp only [evs,hy,hz]) hd (fun w hs=>invLess w _ _ _ _ ((Rd.blk .zero rfl).at hs)) (pless_spec _ e _ l i j (RdSl.own (.succ .zero)) hf hi hj) (by rintro _ _ ⟨rfl,rfl⟩;exact k)
theorem Do.pileSwap {N:Fr} {σ:Env} {e:World} {x y z:Operand} {d:Tmp} {pos:String} {af:Array Edge} {gd:Option (Nat × Bool)} {ty:TypeId} {K:Env→List Res→Prop} {g:Nat} {ad:Option Addr} {c o:Nat} {l:List AE} {R:List Res} {ats:Array TypeId} {i j:Nat}
 (h0:ev σ x=some (pileV g)) (hy:ev σ y=some (.int .i64 (i:Int))) (hz:ev σ z=some (.int .i64 (j:Int))) (hd:Nat.blt d N.n=true) (hi:i<l.length) (hj:j<l.length) (k:K ((d,.tuple #[])::σ) (agM g ad c o (swapA l i j) R)) :
 Do prog N ⟨some d,.call { callee:=.invoke x "Swap",args:=#[y,z],argTypes:=ats },ty,pos,af,gd⟩ K σ e (agM g ad c o l R) :=
 Do.invoke (xs:=[y,z]) (vs:=[.int .i64 (i:Int),.int .i64 (j:Int)]) (Post:=fun v L'=>v=.tuple #[]∧L'=agM g ad c o (swapA l i j) R) h0 (by simp only [evs,hy,hz]) hd (fun w hs=>invSwap w _ _ _ _ ((Rd.blk .zero rfl).at hs))
  ((
   Ct.at (.succ .zero) (pswap_spec (Blk g [.slice ad l.length c,.int .i64 (o:Int)] tAg (0,0)::R) e ad c l i j hi hj)).weak (by
   rintro _ _ ⟨rfl,rfl⟩;refine ⟨_,Ent.trans ?_ Ent.rfl,rfl,rfl⟩;simp only [agM,swapA_length];exact zE)) (by rintro _ _ ⟨rfl,rfl⟩;exact k)
theorem hup_spec (g:Nat) (ad:Option Addr) (c o:Nat) (l:List AE) (j:Nat) (hf:∀ a∈l,a.fits) (hj:j<l.length) (hl:l.length≤1000000) :
 Ct prog 314 #[pileV g,.int .i64 (j:Int)] e (agM g ad c o l R) (fun v' L'=>v'=.tuple #[]∧L'=agM g ad c o (hUp j l j) R):=by
 refine Ct.enter (args:=[_,_]) func314 rfl ntmps314 results314 rfl ?_;obtain ⟨fin,hfin⟩:∃ f,f=hUp j l j:=⟨_,rfl⟩
 rw [← hfin]
 (repeat (refine wA ?_;intros))
 refine W.loop (ι:=Nat × List AE × Nat) (fun i=>[(0,pileV g),(1,.int .i64 (i.1:Int))]) (fun i=>agM g ad c o i.2.1 R) (fun i=>i.1<i.2.1.length∧i.2.1.length=l.length∧(∀ a∈i.2.1,a.fits)∧i.1≤i.2.2∧hUp i.2.2 i.2.1 i.1=fin) (fun i=>i.1) (j,l,j) ⟨hj,rfl,hf,Nat.le_refl _,hfin.symm⟩ zS zE ?_;rintro ⟨j,l',n⟩ ⟨h1,h2,h3,h4,h5⟩;dsimp only at h1 h2 h3 h4 h5 ⊢
 by_cases hj0:j=0
 ·subst hj0
  have hfe:l'=fin:=by
   rw [← h5]
   cases n with
   | zero=>rfl
   | succ n=>unfold hUp;rw [if_pos rfl]
  have hq:IntKind.i64.wrap ((((0:Nat):Int) - 1).tdiv 2)=((0:Nat):Int):=rfl
  (repeat' first|(refine O.val _ (Val.quoE rfl rfl zo hq) rfl ?_)|refine Za ?_|refine Zb ?_|apply Zc|apply Zd|apply Ze|apply Zf|refine Zl ?_|refine Zo ?_|refine ZM ?_|refine ZU ?_|refine Yz ?_|apply YB|apply YD|apply YG|apply YJ|refine YK ?_|fail)
  rw [hfe];exact Fin.stop (agM g ad c o fin R) rfl zE ⟨rfl,rfl⟩
 obtain ⟨m,rfl⟩:∃ m,n=m+1:=⟨n - 1,by omega⟩
 have hq:IntKind.i64.wrap (((j:Int) - 1).tdiv 2)=(((j - 1) / 2:Nat):Int):=by
  rw [Int.tdiv_eq_ediv_of_nonneg zo,wrap_i64 zo zo];omega
 have hp:(j - 1) / 2<j:=by omega
 have h5':(if (l'.getD j ae0).lt (l'.getD ((j - 1) / 2) ae0) then hUp m (swapA l' ((j - 1) / 2) j) ((j - 1) / 2) else l')=fin:=by rw [← h5];conv=>rhs;unfold hUp;rw [if_neg hj0]
 generalize (j - 1) / 2=p at *
 by_cases hlt:(l'.getD j ae0).lt (l'.getD p ae0)=true
 ·rw [if_pos hlt] at h5'
  (repeat' first|(refine O.val _ (Val.quoE rfl rfl zo hq) rfl ?_)|(refine O.do (Do.pileLess h3 rfl rfl rfl rfl h1 zo ?_);rw [hlt])|refine O.do (Do.pileSwap rfl rfl rfl rfl zo h1 ?_)|refine Za ?_|refine Zb ?_|apply Zc|apply Zd|apply Ze|apply Zf|refine Zm ?_|refine Zn ?_|refine Zy ?_|refine ZN ?_|refine ZU ?_|refine YA ?_|apply YB|apply YC|apply YH)
  refine Fin.round (p,swapA l' p j,m) ⟨by dsimp only;rw [swapA_length];omega,by dsimp only;rw [swapA_length];exact h2,fun a ha=>h3 a ((swapA_perm zo h1).mem_iff.1 ha),by dsimp only;omega,h5'⟩ (by dsimp only;exact hp) zS zE
 ·have hlf:(l'.getD j ae0).lt (l'.getD p ae0)=false:=by simpa using hlt
  rw [if_neg hlt] at h5'
  (repeat' first|(refine O.val _ (Val.quoE rfl rfl zo hq) rfl ?_)|(refine O.do (Do.pileLess h3 rfl rfl rfl rfl h1 zo ?_);rw [hlf])|refine Za ?_|refine Zb ?_|apply Zc|apply Zd|apply Ze|apply Zf|refine Zm ?_|refine Zn ?_|refine Zz ?_|refine ZN ?_|refine ZU ?_|refine Yz ?_|apply YB|apply YD|apply YG|apply YJ|refine YK ?_|fail)
  rw [h5'];exact Fin.stop (agM g ad c o fin R) rfl zE ⟨rfl,rfl⟩
theorem hdown_spec (g:Nat) (ad:Option Addr) (c o:Nat) (l:List AE) (i0 n:Nat) (hf:∀ a∈l,a.fits) (hi:i0<l.length) (hn:n≤l.length) (hl:l.length≤1000000) :
 Ct prog 308 #[pileV g,.int .i64 (i0:Int),.int .i64 (n:Int)] e (agM g ad c o l R) (fun v' L'=>(∃ b:Bool,v'=.bool b)∧L'=agM g ad c o (hDown n l i0 n) R):=by
 refine Ct.enter (args:=[_,_,_]) func308 rfl ntmps308 results308 rfl ?_;obtain ⟨fin,hfin⟩:∃ f,f=hDown n l i0 n:=⟨_,rfl⟩
 rw [← hfin];refine wB ?_;refine W.loop (ι:=Nat × List AE × Nat) (fun i=>[(0,pileV g),(1,.int .i64 (i0:Int)),(2,.int .i64 (n:Int)),(7,.int .i64 (i.1:Int))]) (fun i=>agM g ad c o i.2.1 R) (fun i=>i.1<i.2.1.length∧i.2.1.length=l.length∧(∀ a∈i.2.1,a.fits)∧n≤i.1+i.2.2∧hDown i.2.2 i.2.1 i.1 n=fin) (fun i=>n - i.1) (i0,l,n) ⟨hi,rfl,hf,by dsimp only;omega,hfin.symm⟩ zS zE ?_;rintro ⟨i,l',f⟩ ⟨h1,h2,h3,h4,h5⟩;dsimp only at h1 h2 h3 h4 h5 ⊢
 have fin1:∀ b:Bool,∃ b':Bool,(Value.bool b)=.bool b':=fun b=>⟨b,rfl⟩
 by_cases hk:n≤2*i+1
 ·have hfe:l'=fin:=by
   rw [← h5]
   cases f with
   | zero=>rfl
   | succ f=>unfold hDown;rw [if_pos hk]
  rw [hfe]
  (repeat' first|refine Za ?_|refine Zb ?_|apply Zc|apply Zd|apply Ze|apply Zf|refine Zl ?_|refine Zo ?_|refine ZI (fun _=>?_) fun _=>?_|refine ZJ ?_|refine ZS ?_|refine ZW ?_|refine Yz ?_|apply YB|apply YD|apply YE|apply YG|apply YJ|refine YK ?_|fail)
  all_goals exact Fin.ret (agM g ad c o fin R) rfl zE ⟨⟨_,rfl⟩,rfl⟩
 obtain ⟨f,rfl⟩:∃ m,f=m+1:=⟨f - 1,by omega⟩
 have h5':(if (l'.getD (hKid l' i n) ae0).lt (l'.getD i ae0) then hDown f (swapA l' i (hKid l' i n)) (hKid l' i n) n else l')=fin:=by rw [← h5];conv=>rhs;unfold hDown;rw [if_neg hk]
 have h22:(2:Int)*(i:Int)+1+1=((2*i+2:Nat):Int):=by omega
 have h21:(2:Int)*(i:Int)+1=((2*i+1:Nat):Int):=by omega
 obtain ⟨k,hke⟩:∃ k,k=hKid l' i n:=⟨_,rfl⟩
 obtain ⟨k1,k2⟩:=hKid_lt (l:=l') (i:=i) (n:=n) zo;rw [← hke] at h5' k1 k2
 unfold hKid at hke
 (repeat' first|refine W.meetS (id:=8) (fun _:Unit=>[(0,pileV g),(1,.int .i64 (i0:Int)),(2,.int .i64 (n:Int)),(7,.int .i64 (i:Int)),(9,.int .i64 (k:Int))]) (fun _=>agM g ad c o l' R) (fun _=>True) ?_ ?_|refine Za ?_|refine Zb ?_|apply Zc|apply Zd|apply Ze|apply Zf|refine Zm ?_|refine Zn ?_|refine ZB ?_|refine ZK ?_|refine ZS ?_|refine ZW ?_|refine YA ?_|apply YB|apply YC)
 ·rintro _ _
  by_cases hlt:(l'.getD k ae0).lt (l'.getD i ae0)=true
  ·rw [if_pos hlt] at h5'
   (repeat' first|(refine O.do (Do.pileLess h3 rfl rfl rfl rfl zo h1 ?_);rw [hlt])|refine O.do (Do.pileSwap rfl rfl rfl rfl h1 zo ?_)|refine Za ?_|refine Zb ?_|apply Zc|apply Zd|apply Ze|apply Zf|refine Zy ?_|refine YA ?_|apply YC|apply YH)
   refine Fin.round (k,swapA l' i k,f) ⟨by dsimp only;rw [swapA_length];omega,by dsimp only;rw [swapA_length];exact h2,fun a ha=>h3 a ((swapA_perm h1 zo).mem_iff.1 ha),by dsimp only;omega,h5'⟩ zd zS zE
  ·have hlf:(l'.getD k ae0).lt (l'.getD i ae0)=false:=by simpa using hlt
   rw [if_neg hlt] at h5'
   (repeat' first|(refine O.do (Do.pileLess h3 rfl rfl rfl rfl zo h1 ?_);rw [hlf])|refine Za ?_|refine Zb ?_|apply Zc|apply Zd|apply Ze|apply Zf|refine Zz ?_|refine ZI (fun _=>?_) fun _=>?_|refine Yz ?_|apply YD|apply YE|apply YG|apply YJ|refine YK ?_|fail)
   all_goals rw [h5']
   all_goals exact Fin.ret (agM g ad c o fin R) rfl zE ⟨⟨_,rfl⟩,rfl⟩
 ·refine ⟨?_⟩
  by_cases hkid:2*i+2<n
  ·have hls:=fun (N:Fr) (σ:Env) (x y z:Operand) (d:Tmp) (pos:String) (af:Array Edge) (gd:Option (Nat × Bool)) (ty:TypeId) (K:Env→List Res→Prop) (ats:Array TypeId)=>Do.pileLess (N:=N) (σ:=σ) (e:=e) (x:=x) (y:=y) (z:=z) (d:=d) (pos:=pos) (af:=af) (gd:=gd) (ty:=ty) (K:=K) (g:=g) (ad:=ad) (c:=c) (o:=o) (l:=l') (R:=R) (ats:=ats) (i:=2*i+2) (j:=2*i+1) h3
   by_cases hl2:(l'.getD (2*i+2) ae0).lt (l'.getD (2*i+1) ae0)=true
   ·rw [if_pos ⟨hkid,hl2⟩] at hke
    subst hke;rw [hl2] at hls
    (repeat' first|refine O.want rfl ?_|(refine O.do (hls _ _ _ _ _ _ _ _ _ _ _ _ rfl (congrArg (fun z=>some (Value.int .i64 z)) h22) (congrArg (fun z=>some (Value.int .i64 z)) h21) rfl zo zo ?_))|refine Za ?_|refine Zb ?_|apply Zc|apply Zd|apply Ze|apply Zf|refine Zl ?_|refine ZA ?_|refine ZS ?_|refine Yz ?_|fail)
    rw [h22];exact Fin.meet () trivial zS zE
   ·have hl3:(l'.getD (2*i+2) ae0).lt (l'.getD (2*i+1) ae0)=false:=by simpa using hl2
    rw [if_neg (fun q=>hl2 q.2)] at hke
    subst hke;rw [hl3] at hls
    (repeat' first|refine O.want rfl ?_|(refine O.do (hls _ _ _ _ _ _ _ _ _ _ _ _ rfl (congrArg (fun z=>some (Value.int .i64 z)) h22) (congrArg (fun z=>some (Value.int .i64 z)) h21) rfl zo zo ?_))|refine Za ?_|refine Zb ?_|apply Zc|apply Zd|apply Ze|apply Zf|refine Zl ?_|refine ZA ?_|refine ZS ?_|refine YA ?_|apply YC)
    rw [h21];exact Fin.meet () trivial zS zE
  ·rw [if_neg (fun q=>hkid q.1)] at hke
   subst hke;refine wB ?_;rw [h21];exact Fin.meet () trivial zS zE
theorem hinit_spec (g:Nat) (ad:Option Addr) (c o:Nat) (l:List AE) (hf:∀ a∈l,a.fits) (hl:l.length≤1000000) :
 Ct prog 306 #[pileV g] e (agM g ad c o l R) (fun v' L'=>v'=.tuple #[]∧L'=agM g ad c o (hInit (l.length / 2) l) R):=by
 refine Ct.enter (args:=[_]) func306 rfl ntmps306 results306 rfl ?_;obtain ⟨fin,hfin⟩:∃ f,f=hInit (l.length / 2) l:=⟨_,rfl⟩
 rw [← hfin]
 have hq:IntKind.i64.wrap ((l.length:Int).tdiv 2)=((l.length / 2:Nat):Int):=by
  rw [Int.tdiv_eq_ediv_of_nonneg zo,wrap_i64 zo zo];omega
 (repeat' first|refine O.do (Do.pileLen rfl rfl ?_)|(refine O.val _ (Val.quoE rfl rfl zo hq) rfl ?_)|refine Za ?_|refine Zb ?_|apply Zc|apply Zd|apply Ze|apply Zf|refine ZU ?_|apply YB)
 refine W.loop (ι:=Nat × List AE) (fun i=>[(0,pileV g),(2,.int .i64 (l.length:Int)),(3,.int .i64 ((i.1:Int) - 1))]) (fun i=>agM g ad c o i.2 R) (fun i=>i.1≤l.length∧i.2.length=l.length∧(∀ a∈i.2,a.fits)∧hInit i.1 i.2=fin) (fun i=>i.1) (l.length / 2,l) ⟨by dsimp only;omega,rfl,hf,hfin.symm⟩ zS zE ?_;rintro ⟨k,l'⟩ ⟨h1,h2,h3,h5⟩;dsimp only at h1 h2 h3 h5 ⊢
 cases k with
 | zero =>
  have hfe:l'=fin:=h5;rw [hfe];refine wB ?_;exact Fin.stop (agM g ad c o fin R) rfl zE ⟨rfl,rfl⟩
 | succ k =>
  have hk:((k+1:Nat):Int) - 1=(k:Int):=by omega
  rw [hk];refine wB ?_;refine O.call rfl rfl (hdown_spec R e g ad c o l' k l.length h3 zo zo zo) ?_;rintro _ _ ⟨⟨b,rfl⟩,rfl⟩;refine wB ?_;have hp:=hDown_perm l.length l' k l.length zo zo;refine Fin.round (k,hDown l.length l' k l.length) ⟨by dsimp only;omega,by dsimp only;rw [hp.length_eq,h2],fun a ha=>h3 a (hp.mem_iff.1 ha),by dsimp only;rw [← h5];conv=>rhs;unfold hInit;rw [h2]⟩ zd zS zE
abbrev aeV (a:AE):Value:=.iface tAE (.agg a.cells.toArray)
theorem mkAE:∀ w (v:Value),(Instr.makeInterface tAE v).run prog w=.ok (.iface tAE v) w:=fun w v=>by kernel_rfl
theorem mkPile:∀ w (v:Value),(Instr.makeInterface tPile v).run prog w=.ok (.iface tPile v) w:=fun w v=>by kernel_rfl
theorem asAE:∀ w (v:Value),(Instr.typeAssert (.iface tAE v) 20 tAE false).run prog w=.ok v w:=fun w v=>by kernel_rfl
theorem ppush_spec (g:Nat) (ad:Option Addr) (c o:Nat) (l:List AE) (a:AE) (hl:l.length≤1000000) :
 Ct prog 341 #[pt g,aeV a] e (agM g ad c o l R) (fun v' L'=>v'=.tuple #[]∧∃ ad' c',L'=agM g ad' c' o (l++[a]) R):=by
 refine Ct.enter (args:=[_,_]) func341 rfl ntmps341 results341 rfl ?_;refine A.begin (id:=0) [8,9] (Blk g [.slice ad l.length c,.int .i64 (o:Int)] tAg (0,0)::R) mixed ?_
 (refine tM 0 ?_;refine tM 1 ?_;refine tN 2 ?_;refine tL 3 ?_;refine tM 4 ?_)
 refine tk 5 _ rfl (Val.typeAssert asAE rfl) ?_;refine tO 6 ?_;refine Do.buildSlice (n:=3) (cs:=a.cells) rfl rfl rfl rfl zQ rfl (fun g1=>⟨fun _=>zE,?_⟩);refine tO 7 ?_;refine Do.append rfl rfl rfl (show Pull _ (OwnA (.slice ad l.length c) l) _ from zP) (RdSl.blkN (n:=3) (c:=1) .zero rfl zl) rfl rfl (fun c hc=>by simp only [AE.cells,List.mem_cons,List.not_mem_nil,or_false] at hc;rcases hc with rfl|rfl|rfl<;>rfl) zm zo fun ad1 k1 _=>⟨fun _=>zE,?_⟩
 refine tO 8 ?_;refine dV (Val.nilCheck rfl) ?_;refine tO 9 ?_;refine zs1 ?_;refine ⟨zN,?_⟩;refine A.done zK ?_;refine Fin.stop (agM g ad1 k1 o (l++[a]) R) rfl ?_ ⟨rfl,ad1,k1,rfl⟩;simp only [agM,OwnA,List.length_append,List.length_singleton,List.flatMap_append,List.flatMap_cons,List.flatMap_nil,List.append_nil];exact zE
theorem hpush_spec (g:Nat) (ad:Option Addr) (c o:Nat) (l:List AE) (a:AE) (hf:∀ x∈l,x.fits) (ha:a.fits) (hl:l.length≤100000) :
 Ct prog 307 #[pileV g,aeV a] e (agM g ad c o l R) (fun v' L'=>v'=.tuple #[]∧∃ ad' c',L'=agM g ad' c' o (hPush l a) R):=by
 refine Ct.enter (args:=[_,_]) func307 rfl ntmps307 results307 rfl ?_;refine wB ?_;refine O.do (Do.invoke (xs:=[.tmp 5]) (vs:=[aeV a]) rfl rfl rfl (fun w hs=>invPush w _ _) (ppush_spec R e g ad c o l a zo) ?_)
 rintro _ _ ⟨rfl,ad1,c1,rfl⟩;have hla:(l++[a]).length=l.length+1:=by simp
 (repeat' first|refine O.do (Do.pileLen rfl rfl ?_)|refine Za ?_|apply Zd|apply Ze|apply Zf|refine ZU ?_|fail)
 have hll:((l++[a]).length:Int) - 1=(l.length:Int):=by simp
 have hup:=hup_spec R e g ad1 c1 o (l++[a]) l.length (fun x hx=>by
  rcases List.mem_append.1 hx with hx|hx
  ·exact hf x hx
  ·rw [List.mem_singleton.1 hx];exact ha) (by simp) (by simp;omega)
 rw [← hll] at hup
 refine O.call rfl rfl hup ?_;rintro _ _ ⟨rfl,rfl⟩
 (repeat (refine wA ?_;intros))
 exact Fin.stop (agM g ad1 c1 o (hPush l a) R) rfl zE ⟨rfl,ad1,c1,rfl⟩
theorem ppop_spec (g:Nat) (ad:Option Addr) (c o:Nat) (l:List AE) (n:Nat) (hn:l.length=n+1) (hl:l.length≤1000000) :
 Ct prog 340 #[pt g] e (agM g ad c o l R) (fun v' L'=>v'=aeV (l.getD n ae0)∧L'=agM g ad c o (l.take n) R):=by
 refine Ct.of_sep (ownA_shape (.succ .zero)) ?_;rintro ⟨ad',c',hv,h3,h4,h5⟩
 cases hv
 rcases h5 with ⟨-,-,h5⟩|⟨gl,rfl⟩
 ·omega
 have hnl:n<l.length:=by omega
 have r1:RdA (agM g (some ⟨gl,0,none⟩) c o l R) gl (0+n*3) (l[n]'hnl).cells:=RdA.elem (RdSl.own (.succ .zero)) ae3 (List.getElem?_eq_getElem hnl);rw [getD_ae hnl]
 generalize l[n]'hnl=a at *
 have hsub:(l.length:Int) - 1=(n:Int):=by omega
 have htk:(l.take n).length=n:=by rw [List.length_take];omega
 refine Ct.enter (args:=[_]) func340 rfl ntmps340 results340 rfl ?_;have hcut:=own_cutHi (E:=tAE) (n:=3) (ad:=some ⟨gl,0,none⟩) (k:=l.length) (lo:=n) (c:=c) (xs:=l.flatMap AE.cells) (R:=R) zo;rw [flatN_take ae3] at hcut
 (repeat' first|(refine O.val _ (Val.indexAddrN (i:=n) rfl (congrArg (fun z=>some (Value.int .i64 z)) hsub) hnl) rfl ?_)|(refine O.loadAggR rfl r1 rfl rfl ?_)|(refine O.val _ (Val.makeInterface mkAE rfl) rfl ?_)|refine Za ?_|refine Zb ?_|apply Zc|apply Zd|apply Ze|apply Zf|refine Zg ?_|refine Zi ?_|refine Zj ?_|refine Zk ?_|refine ZU ?_|refine Yd ?_|refine Yh fun _=>?_|refine Yr ?_|apply YE|refine YR ?_|fail)
 rw [show ((l.length:Int) - 1).toNat=n by omega];refine Fin.ret (agM g (some ⟨gl,0,none⟩) c o (l.take n) R) rfl (Ent.trans (show Ent _ (OwnA (.slice (some ⟨gl,0,none⟩) l.length c) l::Blk g [.slice (some ⟨gl,0,none⟩) n c,.int .i64 (o:Int)] tAg (0,0)::R) from zE) (Ent.trans (own_cutHi (lo:=n) zo) ?_)) ⟨rfl,rfl⟩;rw [flatN_take ae3];simp only [agM,OwnA,htk];exact zE
theorem hpop_spec (g:Nat) (ad:Option Addr) (c o:Nat) (l:List AE) (hf:∀ x∈l,x.fits) (hn:0<l.length) (hl:l.length≤100000) :
 Ct prog 288 #[pileV g] e (agM g ad c o l R) (fun v' L'=>v'=aeV (l.getD 0 ae0)∧L'=agM g ad c o (hPop l) R):=by
 obtain ⟨n,hn1⟩:∃ n,l.length=n+1:=⟨l.length - 1,by omega⟩
 have hsub:(l.length:Int) - 1=(n:Int):=by omega
 have h1:=swapA_perm (l:=l) (i:=0) (j:=n) zo zo;have h2:=hDown_perm n (swapA l 0 n) 0 n (by rw [swapA_length];omega) (by rw [swapA_length];omega);have h3:=hDown_at n (swapA l 0 n) 0 n n (by rw [swapA_length];omega) (by rw [swapA_length];omega) zo (Nat.le_refl _)
 have h4:(swapA l 0 n).getD n ae0=l.getD 0 ae0:=by
  unfold swapA;rw [List.getD_eq_getElem?_getD,List.getElem?_set_self (by simp;omega)]
  rfl
 have hlen:=h2.length_eq;rw [swapA_length] at hlen
 have hpp:hPop l=(hDown n (swapA l 0 n) 0 n).take n:=by unfold hPop;rw [show l.length - 1=n by omega]
 have hpo:=ppop_spec R e g ad c o (hDown n (swapA l 0 n) 0 n) n zo zo;rw [h3,h4,← hpp] at hpo
 have hdn:=hdown_spec R e g ad c o (swapA l 0 n) 0 n (fun x hx=>hf x (h1.mem_iff.1 hx)) (by rw [swapA_length];omega) (by rw [swapA_length];omega) (by rw [swapA_length];omega);rw [← hsub] at hdn
 refine Ct.enter (args:=[_]) func288 rfl ntmps288 results288 rfl ?_
 (repeat' first|refine O.do (Do.pileLen rfl rfl ?_)|refine O.do (Do.pileSwap (i:=0) (j:=n) rfl rfl (congrArg (fun z=>some (Value.int .i64 z)) hsub) rfl hn zo ?_)|refine Za ?_|refine Zb ?_|apply Zc|apply Zd|apply Ze|apply Zf|refine ZU ?_|fail)
 refine O.call rfl rfl hdn ?_;rintro _ _ ⟨⟨b,rfl⟩,rfl⟩;refine wB ?_;refine O.do (Do.invoke (xs:=[]) (vs:=[]) rfl rfl rfl (fun w hs=>invPop w _) hpo ?_)
 rintro _ _ ⟨rfl,rfl⟩;refine wB ?_;exact Fin.ret (agM g ad c o (hPop l) R) rfl zE ⟨rfl,rfl⟩
def AgAt (g o:Nat) (l:List AE) (ad:Option Addr) (c:Nat):Res:=All (agM g ad c o l [])
def Agd (g o:Nat) (l:List AE):Res:=Ex fun ad=>Ex fun c=>AgAt g o l ad c
theorem ag_out {g o:Nat} {l:List AE} {R:List Res} {P:Program} {f:FuncId} {args:Array Value} {e:World} {Post:Value→List Res→Prop}
 (h:∀ ad c,Ct P f args e (agM g ad c o l R) Post):Ct P f args e (Agd g o l::R) Post :=
 Ct.ex .zero fun ad=>Ct.ex .zero fun c=>(h ad c).ent (all_out (M:=agM g ad c o l []) (L:=R))
theorem ag_in {g o:Nat} {l:List AE} {R:List Res} {ad:Option Addr} {c:Nat}:Ent (agM g ad c o l R) (Agd g o l::R) :=
 Ent.trans (all_in (M:=agM g ad c o l []) (L:=R)) (Ent.trans (ex_in (f:=fun c=>AgAt g o l ad c) c) (ex_in (f:=fun ad=>Ex fun c=>AgAt g o l ad c) ad))
theorem anew_spec :
 Ct prog 236 #[] e R (fun v' L'=>∃ g,v'=pt g∧L'=Agd g 0 []::R):=by
 refine Ct.enter (args:=[]) func236 rfl ntmps236 results236 rfl ?_
 (repeat (refine wA ?_;intros))
 rename_i g;exact Fin.ret (Agd g 0 []::R) rfl (Ent.trans (Ent.cons (own_nil tAE 3)) (ag_in (g:=g) (o:=0) (l:=[]) (ad:=none) (c:=0))) ⟨g,rfl,rfl⟩
theorem aadd_spec (g o:Nat) (l:List AE) (t w:Nat) (hf:∀ x∈l,x.fits) (ht:t≤1000000000) (hw:w≤1000000000) (ho:o≤1000000000) (hl:l.length≤100000) :
 Ct prog 286 #[pt g,.int .i64 (t:Int),.int .i64 (w:Int)] e (Agd g o l::R) (fun v' L'=>v'=.tuple #[]∧L'=Agd g (o+1) (hPush l ⟨t,o,w⟩)::R):=by
 refine ag_out fun ad c=>?_
 refine Ct.enter (args:=[_,_,_]) func286 rfl ntmps286 results286 rfl ?_;refine W.seq ?_;refine A.begin (id:=0) [] R mixed ?_
 (refine tM 0 ?_;refine tN 1 ?_;refine tF 2 ?_;refine tM 4 ?_;refine tM 5 ?_;refine tN 6 ?_;refine tF 7 ?_)
 (refine tM 9 ?_)
 refine tk 3 _ rfl (Val.makeInterface mkPile rfl) ?_;refine tO 8 ?_;refine Do.val (Val.load rfl zR) rfl ⟨fun _=>zE,?_⟩
 (refine tk 10 _ rfl (Val.build rfl zF) ?_)
 refine tk 11 (aeV ⟨t,o,w⟩) rfl (Val.makeInterface mkAE rfl) ?_;refine tO 12 ?_;refine Do.call rfl rfl (hpush_spec R e g ad c o l ⟨t,o,w⟩ hf ⟨ht,ho,hw⟩ hl) ?_;rintro _ _ ⟨rfl,ad1,c1,rfl⟩;refine ⟨fun _=>zE,?_⟩;refine A.done zK ?_;refine wB ?_;exact Fin.stop (Agd g (o+1) (hPush l ⟨t,o,w⟩)::R) rfl (Ent.trans (show Ent _ (agM g ad1 c1 (o+1) (hPush l ⟨t,o,w⟩) R) from zE) ag_in) ⟨rfl,rfl⟩
theorem anext_spec (g o:Nat) (ad:Option Addr) (c:Nat) (l:List AE) :
 Ct prog 287 #[pt g] e (agM g ad c o l R) (fun v' L'=>v'=.tuple #[.int .i64 ((l.getD 0 ae0).at':Int),.int .i64 ((l.getD 0 ae0).what:Int),.bool (decide (0<l.length))]∧L'=agM g ad c o l R):=by
 refine Ct.of_sep (ownA_shape (.succ .zero)) ?_;rintro ⟨ad',c',hv,h3,h4,h5⟩
 cases hv
 refine Ct.enter (args:=[_]) func287 rfl ntmps287 results287 rfl ?_
 by_cases hz:l.length=0
 ·have hl0:l=[]:=List.length_eq_zero_iff.1 hz;subst hl0;refine wB ?_;exact Fin.ret (agM g ad c o [] R) rfl zE ⟨rfl,rfl⟩
 rcases h5 with ⟨-,-,h5⟩|⟨gl,rfl⟩
 ·omega
 have hnl:0<l.length:=by omega
 have r1:RdA (agM g (some ⟨gl,0,none⟩) c o l R) gl (0+0*3) (l[0]'hnl).cells:=RdA.elem (RdSl.own (.succ .zero)) ae3 (List.getElem?_eq_getElem hnl);rw [getD_ae hnl,decide_eq_true hnl]
 generalize l[0]'hnl=a at *
 have ra:Rd (agM g (some ⟨gl,0,none⟩) c o l R) ⟨gl,0+0+0,none⟩ (.int .i64 (a.at':Int)):=r1.at0 (k:=0) rfl;have rw':Rd (agM g (some ⟨gl,0,none⟩) c o l R) ⟨gl,0+0+2,none⟩ (.int .i64 (a.what:Int)):=r1.at0 (k:=2) rfl;refine wB ?_;refine A.begin (id:=3) [15,16] (agM g (some ⟨gl,0,none⟩) c o l R) mixed ?_
 (refine tM 0 ?_;refine tN 1 ?_;refine tF 2 ?_;refine tL 3 ?_;refine tk 4 _ rfl (Val.indexAddrN rfl rfl zo) ?_;refine tF 5 ?_;refine tL 6 ?_;refine tM 7 ?_;refine tN 8 ?_;refine tF 9 ?_;refine tL 10 ?_;refine tk 11 _ rfl (Val.indexAddrN rfl rfl zo) ?_;refine tF 12 ?_;refine tL 13 ?_;refine tA 14 ?_;(refine tO 15 ?_;refine dV (Val.assign rfl) ?_);(refine tO 16 ?_;refine dV (Val.assign rfl) ?_))
 refine A.done zK ?_;refine wB ?_;exact Fin.ret (agM g (some ⟨gl,0,none⟩) c o l R) rfl zE ⟨rfl,rfl⟩
theorem adue_spec (g o:Nat) (l:List AE) (now:Int) (hf:∀ x∈l,x.fits) (hl:l.length≤100000) :
 Ct prog 247 #[pt g,.int .i64 now] e (Agd g o l::R) (fun v' L'=>(¬ (0<l.length∧((l.getD 0 ae0).at':Int)≤now)∧v'=.tuple #[.int .i64 0,.bool false]∧L'=Agd g o l::R)∨(0<l.length∧((l.getD 0 ae0).at':Int)≤now∧v'=.tuple #[.int .i64 ((l.getD 0 ae0).what:Int),.bool true]∧L'=Agd g o (hPop l)::R)):=by
 refine ag_out fun ad c=>?_
 refine Ct.enter (args:=[_,_]) func247 rfl ntmps247 results247 rfl ?_;refine wB ?_;refine O.call rfl rfl (anext_spec R e g o ad c l) ?_;rintro _ _ ⟨rfl,rfl⟩
 by_cases hz:0<l.length
 rotate_left
 ·rw [decide_eq_false hz];refine wB ?_;exact Fin.ret (Agd g o l::R) rfl ag_in (.inl ⟨fun q=>hz q.1,rfl,rfl⟩)
 rw [decide_eq_true hz]
 by_cases hle:((l.getD 0 ae0).at':Int)≤now
 rotate_left
 ·generalize (l.getD 0 ae0).at'=at' at *
  refine wB ?_
  all_goals exact Fin.ret (Agd g o l::R) rfl ag_in (.inl ⟨fun q=>hle q.2,rfl,rfl⟩)
 have hpo:=hpop_spec R e g ad c o l hf hz hl
 generalize l.getD 0 ae0=a at *
 have hfa:∀ w,(Instr.field tAE (.agg #[.int .i64 (a.at':Int),.int .i64 (a.ord:Int),.int .i64 (a.what:Int)]) 2).run prog w=.ok (.int .i64 (a.what:Int)) w:=fun w=>by kernel_rfl
 (repeat' first|(refine O.val _ (Val.makeInterface mkPile rfl) rfl ?_)|refine Za ?_|refine Zb ?_|apply Zc|apply Zd|apply Ze|apply Zf|refine Zg ?_|refine Zh ?_|refine Zm ?_|refine Zn ?_|refine Zy ?_|refine ZH ?_|refine YA ?_|apply YC|refine YN ?_|fail)
 refine O.call rfl rfl hpo ?_;rintro _ _ ⟨rfl,rfl⟩
 (repeat' first|(refine O.val _ (Val.typeAssert asAE rfl) rfl ?_)|(refine O.val _ (Val.field3 hfa rfl) rfl ?_)|refine Zb ?_|apply Ze|apply Zf|apply YE)
 exact Fin.ret (Agd g o (hPop l)::R) rfl ag_in (.inr ⟨hz,hle,rfl,rfl⟩)
theorem cancel1_spec (a:AE) (gw w:Nat) (hg:Rd R ⟨gw,0,none⟩ (.int .i64 (w:Int))) :
 Ct prog 305 #[.agg a.cells.toArray,pt gw] e R (fun v' L'=>v'=.bool (decide (a.what=w))∧R=L'):=by
 refine Ct.enter (args:=[_,_]) func305 rfl ntmps305 results305 rfl ?_
 (repeat' first|refine Zb ?_|apply Zc|apply Zd|apply Ze|apply Zf|refine Zh ?_|refine Zi ?_|refine ZO (fun _=>?_) fun _=>?_|refine Yg fun _=>?_|apply YE)
 all_goals first
  | exact Fin.ret R rfl zE ⟨by rw [decide_eq_true zo];rfl,rfl⟩
  | exact Fin.ret R rfl zE ⟨by rw [decide_eq_false zo];rfl,rfl⟩
end Go.Proofs
namespace Go.Proofs
attribute [local irreducible] Bs.Val Bs.Do Bs.O Bs.W Bs.Fin Bs.A Bs.Ct Bs.RdSl Bs.Rd Bs.Sat Bs.Blk Bs.Ob Bs.Own Bs.View Bs.Ent Bs.Ex Bs.All Bs.Pu Bs.Base Bs.sepL Bs.RdA
open Go.Bs
open Tryz
variable (R:List Res) (e:World)
theorem aindex_spec (v:Value) (l:List AE) (gw w:Nat) (hv:RdSl R 3 v l.length (l.flatMap AE.cells)) (hg:Rd R ⟨gw,0,none⟩ (.int .i64 (w:Int))) (hl:l.length≤100000) :
 Ct prog 313 #[v,.func (.func 305) #[] #[pt gw]] e R (fun v' L'=>(∃ k:Int,v'=.int .i64 k∧((k = -1∧∀ i,i<l.length→(l.getD i ae0).what≠w)∨∃ j:Nat,k=j∧j<l.length∧(l.getD j ae0).what=w∧∀ i,i<j→(l.getD i ae0).what≠w))∧R=L'):=by
 refine Ct.of_sep (hv.shape zo) ?_;rintro ⟨⟨ad,cap,rfl,h3,h4,h5,h6⟩,_⟩;refine Ct.enter (args:=[_,_]) func313 rfl ntmps313 results313 rfl ?_;refine wB ?_;refine W.loop (ι:=Nat) (fun i=>[(0,.slice ad l.length cap),(1,.func (.func 305) #[] #[pt gw]),(7,.int .i64 (l.length:Int)),(8,.int .i64 (i:Int))]) (fun _=>R) (fun i=>i≤l.length∧∀ j,j<i→(l.getD j ae0).what≠w) (fun i=>l.length - i) 0 ⟨Nat.zero_le _,fun j h=>absurd h (Nat.not_lt_zero j)⟩ zS Ent.rfl ?_;rintro i ⟨h1,h2⟩
 by_cases hlt:i<l.length
 rotate_left
 ·refine wB ?_;exact Fin.ret R rfl Ent.rfl ⟨⟨-1,rfl,.inl ⟨rfl,fun j hj=>h2 j zo⟩⟩,rfl⟩
 rcases h6 with h6|⟨gl,ol,rfl⟩
 ·omega
 have hr:RdA R gl (ol+i*3) (l[i]'hlt).cells:=RdA.elem hv ae3 (List.getElem?_eq_getElem hlt);have hgd:=getD_ae hlt
 generalize l[i]'hlt=a at *
 (repeat' first|(refine O.loadAggR rfl hr rfl rfl ?_)|refine Za ?_|refine Zb ?_|apply Zc|apply Zd|apply Ze|apply Zf|refine ZA ?_|refine Yx ?_|refine Yz ?_|apply YB|apply YC)
 refine O.do (Do.callV (us:=[]) (ws:=[pt gw]) rfl rfl rfl (cancel1_spec _ e a gw w hg) ?_)
 rintro _ _ ⟨rfl,rfl⟩
 by_cases hw:a.what=w
 ·rw [decide_eq_true hw];refine wB ?_;exact Fin.ret R rfl Ent.rfl ⟨⟨i,rfl,.inr ⟨i,rfl,hlt,by rw [hgd];exact hw,h2⟩⟩,rfl⟩
 ·rw [decide_eq_false hw];refine wB ?_;refine Fin.round (i+1) ⟨hlt,fun j hj=>?_⟩ zo zS Ent.rfl
  by_cases hji:j=i
  ·subst hji;rw [hgd];exact hw
  ·exact h2 j zo
abbrev notW (w:Nat) (a:AE):Bool:=decide (a.what≠w)
theorem filter_all {l:List AE} {w:Nat} (h:∀ i,i<l.length→(l.getD i ae0).what≠w):l.filter (notW w)=l:=List.filter_eq_self.2 fun a ha=>by
 obtain ⟨i,hi,rfl⟩:=List.mem_iff_getElem.1 ha;have:=h i hi;rw [getD_ae hi] at this
 exact decide_eq_true this
theorem adel_spec (ad:Option Addr) (c:Nat) (l:List AE) (gw w:Nat) (hg:Rd R ⟨gw,0,none⟩ (.int .i64 (w:Int))) (hl:l.length≤100000) :
 Ct prog 304 #[.slice ad l.length c,.func (.func 305) #[] #[pt gw]] e (OwnA (.slice ad l.length c) l::R) (fun v' L'=>v'=.slice ad (l.filter (notW w)).length c∧L'=OwnA (.slice ad (l.filter (notW w)).length c) (l.filter (notW w))::R):=by
 refine Ct.of_sep (ownA_shape .zero) ?_;rintro ⟨ad',c',hv,h3,h4,h5⟩
 cases hv
 refine Ct.enter (args:=[_,_]) func304 rfl ntmps304 results304 rfl ?_;refine wB ?_;refine O.call rfl rfl (aindex_spec _ e _ l gw w (RdSl.own .zero) hg.tail hl) ?_;rintro _ _ ⟨⟨k,rfl,hk⟩,rfl⟩;rcases hk with ⟨rfl,hall⟩|⟨k,rfl,hkl,hkw,hkb⟩
 ·rw [filter_all hall];refine wB ?_;exact Fin.ret (OwnA (.slice ad l.length c) l::R) rfl Ent.rfl ⟨rfl,rfl⟩
 rcases h5 with ⟨-,-,h5⟩|⟨g,rfl⟩
 ·omega
 simp only [maxLen] at h4
 have hlen1:((k:Int)+1)=((k+1:Nat):Int):=by omega
 have hinit:l.take k=(l.take (k+1)).filter (notW w):=by
  rw [List.take_succ_eq_append_getElem hkl,List.filter_append];rw [getD_ae hkl] at hkw
  rw [filter_all (l:=l.take k) (w:=w) (fun i hi=>by
   rw [List.length_take] at hi
   have:=hkb i zo
   rwa [List.getD_eq_getElem?_getD,List.getElem?_take_of_lt zo,← List.getD_eq_getElem?_getD])]
  simp [notW,hkw]
 refine wB ?_;refine W.loop (ι:=Nat × Nat × List AE) (fun i=>[(0,.slice (some ⟨g,0,none⟩) l.length c),(1,.func (.func 305) #[] #[pt gw]),(5,.int .i64 (i.1:Int)),(6,.int .i64 (i.2.1:Int))]) (fun i=>Own tAE 3 (.slice (some ⟨g,0,none⟩) l.length c) l.length (i.2.2.flatMap AE.cells)::R) (fun i=>i.1<i.2.1∧i.2.1≤l.length∧i.2.2.length=l.length∧i.2.2.take i.1=(l.take i.2.1).filter (notW w)∧i.2.2.drop i.2.1=l.drop i.2.1) (fun i=>l.length - i.2.1) (k,k+1,l) ⟨by dsimp only;omega,hkl,rfl,hinit,rfl⟩ zS zE ?_;rintro ⟨i,j,cur⟩ ⟨h1,h2,h6,h7,h8⟩;dsimp only at h1 h2 h6 h7 h8 ⊢
 by_cases hlt:j<l.length
 rotate_left
 ·rw [List.take_of_length_le (l:=l) zo] at h7
  have e2:(l.length:Int).toNat=l.length:=rfl;refine wB ?_;refine O.do (Do.clear (o:=i*3) (g:=g) (c:=c) (kk:=l.length) rfl .zero rfl (by simp [Value.oneCell',Value.cells]) (by simp;omega) (.inr ?_) fun zs hz=>?_)
  ·unfold cutAt;rw [if_neg (by simp;omega)]
   simp [Addr.add_lit]
  have hfl:(l.filter (notW w)).length=i:=by rw [← h7,List.length_take];omega
  have hx:(cur.flatMap AE.cells).length=l.length*3:=by rw [flatN_len ae3,h6]
  have hcut:=own_cutHi (E:=tAE) (n:=3) (ad:=some ⟨g,0,none⟩) (k:=l.length) (lo:=i) (c:=c) (R:=R) (xs:=(cur.flatMap AE.cells).take (i*3)++zs++(cur.flatMap AE.cells).drop (i*3+(l.length - (i:Int).toNat)*3)) zo
  have hti:(((cur.flatMap AE.cells).take (i*3)++zs++(cur.flatMap AE.cells).drop (i*3+(l.length - (i:Int).toNat)*3)).take (i*3))=(l.filter (notW w)).flatMap AE.cells:=by
   rw [List.append_assoc,List.take_append_of_le_length (by rw [List.length_take];omega),List.take_take,Nat.min_self,flatN_take ae3,h7]
  rw [hti] at hcut
  refine wB ?_;refine Fin.ret (OwnA (.slice (some ⟨g,0,none⟩) (l.filter (notW w)).length c) (l.filter (notW w))::R) rfl (Ent.trans hcut ?_) ⟨by rw [hfl];rfl,rfl⟩;simp only [OwnA,hfl];exact zE
 have hcj:cur[j]'zo=l[j]'hlt:=by
  have:=congrArg (fun q=>q[0]?) h8;simp only [List.getElem?_drop,Nat.add_zero] at this
  rw [List.getElem?_eq_getElem zo,List.getElem?_eq_getElem hlt] at this
  exact Option.some.inj this
 have htk:l.take (j+1)=l.take j++[l[j]'hlt]:=List.take_succ_eq_append_getElem hlt
 have hr:RdA (Own tAE 3 (.slice (some ⟨g,0,none⟩) l.length c) l.length (cur.flatMap AE.cells)::R) g (0+j*3) (l[j]'hlt).cells:=by
  rw [← hcj];exact RdA.elem (RdSl.own .zero) ae3 (List.getElem?_eq_getElem zo)
 generalize l[j]'hlt=a at *
 (repeat' first|(refine O.loadAggR rfl hr rfl rfl ?_)|refine Za ?_|apply Zc|apply Zd|apply Ze|apply Zf|refine Zj ?_|refine Zk ?_|refine ZA ?_|refine Yh fun _=>?_|refine Yx ?_|refine Yz ?_|apply YB|apply YC|refine YR ?_|fail)
 rename_i gv;refine O.do (Do.callV (us:=[]) (ws:=[pt gw]) rfl rfl rfl (cancel1_spec _ e a gw w (hg.ent zE)) ?_)
 rintro _ _ ⟨rfl,rfl⟩;have hdj:cur.drop (j+1)=l.drop (j+1):=by rw [← List.drop_drop,← List.drop_drop,h8]
 by_cases hw:a.what=w
 ·rw [decide_eq_true hw];refine wB ?_;refine Fin.round (i,j+1,cur) ⟨by dsimp only;omega,hlt,h6,?_,hdj⟩ zd zS zE;dsimp only;rw [htk,List.filter_append,← h7]
  simp [notW,hw]
 ·rw [decide_eq_false hw];have hst:=ae_set (l:=cur) (i:=i) (a:=a) zo;refine wB ?_;refine O.do (Do.storePart rfl rfl rfl (by intro v hv;simp only [AE.cells,List.mem_cons,List.not_mem_nil,or_false] at hv;rcases hv with rfl|rfl|rfl<;>rfl) (.succ .zero) (by simp only [List.length_cons,List.length_nil];omega) ?_)
  rw [Nat.zero_add,hst];refine wB ?_;refine Fin.round (i+1,j+1,cur.set i a) ⟨by dsimp only;omega,hlt,by dsimp only;rw [List.length_set];exact h6,?_,?_⟩ zd zS zE
  ·dsimp only;rw [htk,List.filter_append,← h7,List.take_set,List.take_succ_eq_append_getElem zo,List.set_append_right _ _ (by simp;omega)]
   simp [notW,hw,Nat.min_eq_left (show i≤cur.length by omega)]
  ·dsimp only;rw [List.drop_set_of_lt zo,hdj]
theorem acancel_spec (g o:Nat) (l:List AE) (w:Nat) (hf:∀ x∈l,x.fits) (hl:l.length≤100000) :
 Ct prog 285 #[pt g,.int .i64 (w:Int)] e (Agd g o l::R) (fun v' L'=>(∃ z:Int,v'=.int .i64 z)∧L'=Agd g o (cancelA l w)::R):=by
 refine ag_out fun ad c=>?_
 have hfl:(l.filter (notW w)).length≤l.length:=List.length_filter_le _ _;refine Ct.enter (args:=[_,_]) func285 rfl ntmps285 results285 rfl ?_
 (repeat (refine wA ?_;intros))
 rename_i gw;refine O.call rfl rfl (Ct.at zP (adel_spec _ e ad c l gw w zR hl)) ?_;rintro _ _ ⟨rfl,rfl⟩;have hin:=fun L:List Res=>hinit_spec L e g ad c o (l.filter (notW w)) (fun x hx=>hf x (List.mem_filter.1 hx).1) zo
 have hca:cancelA l w=hInit ((l.filter (notW w)).length / 2) (l.filter (notW w)):=rfl;have hpm:=(hInit_perm ((l.filter (notW w)).length / 2) (l.filter (notW w)) zo).length_eq
 generalize l.filter (notW w)=fl at *
 (repeat' first|(refine O.val _ (Val.makeInterface mkPile rfl) rfl ?_)|refine Za ?_|apply Zc|apply Zd|apply Ze|apply Zf|refine Zg ?_|refine Zh ?_|refine Yd ?_|fail)
 refine O.call rfl rfl ((hin (Blk gw [.int .i64 (w:Int)] 3 (0,0)::R)).ent zE) ?_;rintro _ _ ⟨rfl,rfl⟩;rw [← hca] at hpm ⊢
 refine wB ?_;exact Fin.ret (Agd g o (cancelA l w)::R) rfl (Ent.trans (show Ent _ (agM g ad c o (cancelA l w) R) from zE) ag_in) ⟨⟨_,rfl⟩,rfl⟩
theorem bNumber_spec (n:Nat) :
 Ct prog 118 #[.int .i64 (n:Int)] e R (fun v' L'=>v'=.bool (decide (n≤256))∧R=L'):=by
 refine Ct.enter (args:=[_]) func118 rfl ntmps118 results118 rfl ?_
 by_cases h:n≤256
 ·rw [decide_eq_true h];refine wB ?_
  all_goals exact Fin.ret R rfl Ent.rfl ⟨rfl,rfl⟩
 ·rw [decide_eq_false h];refine wB ?_
  all_goals exact Fin.ret R rfl Ent.rfl ⟨rfl,rfl⟩
abbrev tBun:TypeId:=109
theorem bCheck_spec (vl vw vm vp vr va vq vc:Value) (p:Pol) (b:Bun) (hp:RdPol R vl vw p) (hpr:p.right) (hb:RdBun R vm vp vr va vq vc b) (hw:b.wf) :
 Ct prog 134 #[.agg (polC p vl vw).toArray,.agg (bunC b vm vp vr va vq vc).toArray] e R (fun v' L'=>v'=.int .i64 (chkB p b)∧R=L'):=by
 have hbm:=hw.man;have hcr:=hw.chk;refine Ct.of_sep (RdB.one hp.log) fun o1=>?_
 refine Ct.of_sep hp.wits.one fun o2=>?_
 refine Ct.of_sep (RdB.one hb.man) fun o3=>?_
 refine Ct.of_sep hb.path.one fun o4=>?_
 refine Ct.of_sep (RdB.one hb.sgd.root) fun o5=>?_
 refine Ct.of_sep hb.sgd.sig.parts.one fun o6=>?_
 refine Ct.of_sep hb.sgd.sig.path.one fun o7=>?_
 refine Ct.of_sep hb.gs.one fun o8=>?_
 obtain ⟨ts,hts,hvp,htt⟩:=hb.path;refine Ct.enter (args:=[_,_]) func134 rfl ntmps134 results134 rfl ?_
 (repeat (refine wA ?_;intros))
 rename_i g2 g3;refine O.call rfl rfl (mDecode_spec _ e vm b.man (hb.man.ent zE) zo) ?_;rintro v1 _ ⟨hd1,hd2⟩
 by_cases hm:manOk b.man
 rotate_left
 ·obtain ⟨rfl,rfl⟩:=hd2 hm;have hE:chkB p b=12:=by unfold chkB;rw [if_pos hm]
  rw [hE]
  (repeat' first|refine Za ?_|refine Zb ?_|apply Zc|apply Zd|apply Ze|apply Zf|refine Zh ?_|refine Zj ?_|refine Yh fun _=>?_|apply YB|refine YN ?_|refine YR ?_|(apply O.loadAggB;exact rfl;exact zP;(first|(simp only [Nat.zero_add,Nat.add_zero,Nat.reduceAdd,List.drop_succ_cons,List.drop_zero,List.take_succ_cons,List.take_zero];done)|(simp only [Nat.zero_add,Nat.add_zero,Nat.reduceAdd,List.drop_succ_cons,List.drop_zero,List.take_succ_cons,List.take_zero];exact rfl));exact rfl;exact rfl))
  refine O.call rfl rfl (gRight_spec _ e vl vw p (hp.ent zE) hpr) ?_;rintro _ _ ⟨rfl,rfl⟩;refine wB ?_;exact Fin.ret R rfl zE ⟨rfl,rfl⟩
 obtain ⟨Mm,vf,vn,rfl,hf,hn,rfl⟩:=hd1 hm;refine O.of_sep (RdB.one (hf.ent (one_in zP))) fun o9=>?_
 refine O.of_sep (RdB.one (hn.ent (one_in zP))) fun o10=>?_
 (repeat' first|refine Za ?_|refine Zb ?_|apply Zc|apply Zd|apply Ze|apply Zf|refine Zh ?_|refine Zj ?_|refine Yh fun _=>?_|apply YB|refine YN ?_|refine YR ?_|(apply O.loadAggB;exact rfl;exact zP;(first|(simp only [Nat.zero_add,Nat.add_zero,Nat.reduceAdd,List.drop_succ_cons,List.drop_zero,List.take_succ_cons,List.take_zero];done)|(simp only [Nat.zero_add,Nat.add_zero,Nat.reduceAdd,List.drop_succ_cons,List.drop_zero,List.take_succ_cons,List.take_zero];exact rfl));exact rfl;exact rfl))
 refine O.call rfl rfl (gRight_spec _ e vl vw p (hp.ent zE) hpr) ?_;rintro _ _ ⟨rfl,rfl⟩;have hrag:∀ L,RdA L g3 0 (bunC b vm vp vr va vq vc)→RdA L g3 4 (sgdC b.sgd vr va vq):=fun L h=>h.part 4 5
 have hrap:∀ L,RdA L g3 0 (bunC b vm vp vr va vq vc)→RdA L g3 1 [.int .i64 (b.idx:Int),.int .i64 (b.size:Int),vp]:=fun L h=>h.part 1 3
 (repeat' first|(refine O.loadAggR rfl (hrag _ (by (repeat first|exact RdA.whole .zero|apply RdA.tail);done)) rfl rfl ?_)|refine Za ?_|refine Zb ?_|apply Zc|apply Zd|apply Ze|apply Zf|refine Zh ?_|refine Zi ?_|refine Zy ?_|refine ZQ ?_|refine YA ?_|fail)
 refine O.call rfl rfl (cVerify_spec _ e vl vr va vq p.log b.sgd (hp.log.ent zE) (hb.sgd.ent zE) hcr) ?_;rintro _ _ ⟨rfl,rfl⟩
 by_cases hv:b.sgd.ver p.log
 rotate_left
 ·have hE:chkB p b=30:=by unfold chkB;rw [if_neg (fun q=>q hm),if_pos hv]
  rw [hE,decide_eq_false hv];refine wB ?_;exact Fin.ret R rfl zE ⟨rfl,rfl⟩
 rw [decide_eq_true hv];refine wB ?_;refine A.start (id:=9) [] mixed ?_;have hE1:∀ q:Prop,(q↔(b.size=b.sgd.chk.size∧proofP b.idx b.size b.path (leafP b.man) b.sgd.chk.root))→¬ q→chkB p b=31:=fun q hq hn=>by unfold chkB;rw [if_neg (fun q=>q hm),if_neg (fun q=>q hv),if_pos (fun h=>hn (hq.2 h))]
 by_cases hs:b.size=b.sgd.chk.size
 rotate_left
 ·rw [hE1 _ Iff.rfl (fun h=>hs h.1)]
  (refine tF 0 ?_;refine tF 1 ?_;refine tL 2 ?_;refine tF 3 ?_;refine tL 4 ?_;refine tk 5 (.bool true) rfl (Val.yes (Val.neq rfl rfl) zy) ?_;refine tM 6 ?_;refine A.takeN 7 rfl rfl zK zE rfl ?_;refine A.takeN 8 rfl rfl zK zE rfl ?_;refine A.takeN 9 rfl rfl zK zE rfl ?_;refine A.takeN 10 rfl rfl zK zE rfl ?_;refine A.takeN 12 rfl rfl zK zE rfl ?_;refine A.takeN 13 rfl rfl zK zE rfl ?_)
  refine A.takeN 11 rfl rfl zK zE rfl ?_;refine A.takeN 14 rfl rfl zK zE rfl ?_
  (refine A.takeN 15 rfl rfl zK zE rfl ?_;refine tk 16 _ rfl (Val.pick_t rfl rfl) ?_;refine tA 17 ?_)
  refine A.done zK ?_;refine wB ?_;exact Fin.ret R rfl zE ⟨rfl,rfl⟩
 (refine tF 0 ?_;refine tF 1 ?_;refine tL 2 ?_;refine tF 3 ?_;refine tL 4 ?_;refine tk 5 (.bool false) rfl (Val.no (Val.neq rfl rfl) zn) ?_;refine tM 6 ?_;refine tkG 7 _ rfl (Val.fieldAddr rfl) ?_;refine tkG 8 _ rfl (Val.loadAggB rfl zP zI zX) ?_;refine tkG 9 _ rfl (Val.fieldAddr rfl) ?_;refine tkG 10 _ rfl (Val.load rfl zR) ?_;refine tkG 12 _ rfl (Val.fieldAddr rfl) ?_;refine tkG 13 _ rfl (Val.load rfl zR) ?_)
 refine A.oneG 11 rfl rfl zK ?_;refine Do.call rfl rfl (mID_spec _ e vm b.man (hb.man.ent zE) zo) ?_;rintro _ _ ⟨adi,ki,rfl,rfl⟩;refine ⟨fun _=>zE,A.regrow zE ?_⟩;refine A.oneG 14 rfl rfl zK ?_;have hi1:=hw.idx;have hi2:=hw.size;refine Do.call rfl rfl (check_spec _ e (b.idx:Int) (b.size:Int) vp (.slice adi (leafP b.man).length ki) vr ts (leafP b.man) b.sgd.chk.root zo zo (hvp.ent zE) (fun x hx=>(htt x hx).ent zE) (RdSl.own zP) (hb.sgd.root.ent zE)) ?_;rintro _ _ ⟨rfl,rfl⟩;refine ⟨fun _=>zE,A.regrow zE ?_⟩;have hpi:(LeadOk (b.idx:Int) (b.size:Int) ts (leafP b.man)∧LeadTo (b.idx:Int) (b.size:Int) ts (leafP b.man)=b.sgd.chk.root)↔proofP b.idx b.size b.path (leafP b.man) b.sgd.chk.root:=by rw [← hts];exact proofP_iff
 rw [decide_eq_decide.2 hpi]
 by_cases hpr2:proofP b.idx b.size b.path (leafP b.man) b.sgd.chk.root
 rotate_left
 ·rw [hE1 _ Iff.rfl (fun h=>hpr2 h.2),decide_eq_false hpr2]
  (refine tkG 15 _ rfl (Val.not_f rfl) ?_;refine tk 16 _ rfl (Val.pick_f rfl rfl) ?_;refine tA 17 ?_)
  refine A.done zK ?_;refine wB ?_;exact Fin.ret R rfl zE ⟨rfl,rfl⟩
 rw [decide_eq_true hpr2]
 (refine tkG 15 _ rfl (Val.not_t rfl) ?_;refine tk 16 _ rfl (Val.pick_f rfl rfl) ?_;refine tA 17 ?_)
 refine A.done zK ?_;refine wB ?_;refine O.call rfl rfl (gMet_spec _ e vl vw vr vc p b.sgd.chk b.cosigs (hp.ent zE) hpr (hb.sgd.root.ent zE) hcr (hb.gs.ent zE) (by have:=hw.most;omega)) ?_;rintro _ _ ⟨rfl,rfl⟩
 by_cases hmet:metP p b.sgd.chk b.cosigs
 ·have hE:chkB p b=0:=by unfold chkB;rw [if_neg (fun q=>q hm),if_neg (fun q=>q hv),if_neg (fun q=>q ⟨hs,hpr2⟩),if_neg (fun q=>q hmet)]
  rw [hE,decide_eq_true hmet];refine wB ?_;exact Fin.ret R rfl zE ⟨rfl,rfl⟩
 ·have hE:chkB p b=33:=by unfold chkB;rw [if_neg (fun q=>q hm),if_neg (fun q=>q hv),if_neg (fun q=>q ⟨hs,hpr2⟩),if_pos hmet]
  rw [hE,decide_eq_false hmet];refine wB ?_;exact Fin.ret R rfl zE ⟨rfl,rfl⟩
theorem indexSt_spec (e:World) (v:Value) (ts:List Txt) (f:FuncId) (ws:List Value) (St:Nat→List Res) [i:CallT prog f f] (hv:∀ i,RdSl (St i) 1 v ts.length (ts.map (·.1))) (hl:ts.length≤1000000)
 (hf:∀ (i:Nat) (h:i<ts.length),Ct prog f ([(ts[i]).1]++ws).toArray e (St i) (fun v' L'=>v'=.bool false∧L'=St (i+1))) :
 Ct prog 264 #[v,.func (.func f) #[] ws.toArray] e (St 0) (fun v' L'=>v'=.int .i64 (-1)∧L'=St ts.length):=by
 refine Ct.of_sep ((hv 0).shape zo) ?_;rintro ⟨⟨ad,cap,rfl,h3,h4,h5,h6⟩,_⟩;refine Ct.enter (args:=[_,_]) func264 rfl ntmps264 results264 rfl ?_;refine wB ?_;refine W.loop (ι:=Nat) (fun i=>[(0,.slice ad ts.length cap),(1,.func (.func f) #[] ws.toArray),(7,.int .i64 (ts.length:Int)),(8,.int .i64 (i:Int))]) (fun i=>St i) (fun i=>i≤ts.length) (fun i=>ts.length - i) 0 (Nat.zero_le _) zS Ent.rfl ?_;rintro i h1
 by_cases hlt:i<ts.length
 rotate_left
 ·rw [show i=ts.length by omega];refine wB ?_;exact Fin.ret (St ts.length) rfl Ent.rfl ⟨rfl,rfl⟩
 rcases h6 with h6|⟨gl,ol,rfl⟩
 ·omega
 have hr:Rd (St i) ⟨gl,ol+i,none⟩ (ts[i]'hlt).1:=(hv i).elem (by rw [List.getElem?_map,List.getElem?_eq_getElem hlt];rfl);have hfi:=hf i hlt
 generalize (ts[i]'hlt).1=y at *
 (repeat' first|(refine O.load rfl hr rfl ?_)|refine Za ?_|refine Zb ?_|apply Zc|apply Zd|apply Ze|apply Zf|refine ZA ?_|refine Yw ?_|refine Yz ?_|apply YB|apply YC)
 refine O.do (Do.callV (us:=[]) (ws:=ws) rfl rfl rfl hfi ?_)
 rintro _ _ ⟨rfl,rfl⟩;refine wB ?_;exact Fin.round (i+1) hlt zo zS Ent.rfl
theorem containsSt_spec (e:World) (v:Value) (ts:List Txt) (f:FuncId) (ws:List Value) (St:Nat→List Res) [i:CallT prog f f] (hv:∀ i,RdSl (St i) 1 v ts.length (ts.map (·.1))) (hl:ts.length≤1000000)
 (hf:∀ (i:Nat) (h:i<ts.length),Ct prog f ([(ts[i]).1]++ws).toArray e (St i) (fun v' L'=>v'=.bool false∧L'=St (i+1))) :
 Ct prog 203 #[v,.func (.func f) #[] ws.toArray] e (St 0) (fun v' L'=>v'=.bool false∧L'=St ts.length):=by
 refine Ct.enter (args:=[_,_]) func203 rfl ntmps203 results203 rfl ?_;refine wB ?_;refine O.call rfl rfl (indexSt_spec e v ts f ws St hv hl hf) ?_;rintro _ _ ⟨rfl,rfl⟩;refine wB ?_;exact Fin.ret (St ts.length) rfl Ent.rfl ⟨rfl,rfl⟩
theorem bRaw_spec (g:Nat) (l m:Bts) (v:Value) (h:RdB R v m) (hk:l.length+m.length≤140737488355328) :
 Ct prog 123 #[pt g,v] e (Writer g l::R) (fun v' L'=>v'=.bool true∧L'=Writer g (l++m)::R):=by
 refine Ct.of_sep (RdB.one h.tail) fun o1=>?_
 refine Ct.enter (args:=[_,_]) func123 rfl ntmps123 results123 rfl ?_;refine wB ?_;refine O.do (Do.callV (us:=[]) (ws:=[]) rfl rfl rfl (raw_spec R e g l m v h hk) ?_)
 rintro _ _ ⟨rfl,rfl⟩;refine wB ?_;exact Fin.ret (Writer g (l++m)::R) rfl Ent.rfl ⟨rfl,rfl⟩
theorem flat_take {l:List Bts} {i:Nat} (h:i<l.length):(l.take (i+1)).flatten=(l.take i).flatten++l[i]'h:=by
 rw [List.take_succ_eq_append_getElem h,List.flatten_append];simp
theorem flat_le {l:List Bts} {i:Nat}:(l.take i).flatten.length≤l.flatten.length:=by
 conv=>rhs;rw [← List.take_append_drop i l,List.flatten_append,List.length_append]
 omega
theorem bAllRaw1_spec (g g3 g4:Nat) (l m:Bts) (v:Value) (h:RdB R v m) (hk:l.length+m.length≤140737488355328) :
 Ct prog 206 #[v,pt g4,pt g3] e (Blk g4 [.func (.func 123) #[] #[]] 206 (0,0)::Blk g3 [pt g] 151 (0,0)::Writer g l::R)
  (fun v' L'=>v'=.bool false∧L'=Blk g4 [.func (.func 123) #[] #[]] 206 (0,0)::Blk g3 [pt g] 151 (0,0)::Writer g (l++m)::R):=by
 refine Ct.enter (args:=[_,_,_]) func206 rfl ntmps206 results206 rfl ?_;refine wB ?_;refine O.do (Do.callV (us:=[]) (ws:=[]) rfl rfl rfl (Ct.at (.succ (.succ .zero)) (bRaw_spec _ e g l m v (h.ent zE) hk)) ?_)
 rintro _ _ ⟨rfl,rfl⟩;refine wB ?_;exact Fin.ret (Blk g4 [.func (.func 123) #[] #[]] 206 (0,0)::Blk g3 [pt g] 151 (0,0)::Writer g (l++m)::R) rfl zE ⟨rfl,rfl⟩
theorem bAllRaw_spec (g:Nat) (l:Bts) (v:Value) (bs:List Bts) (hv:RdTs R v bs) (hl:bs.length≤1000) (hk:l.length+bs.flatten.length≤1000000) :
 Ct prog 122 #[pt g,.func (.func 123) #[] #[],v] e (Writer g l::R) (fun v' L'=>v'=.bool true∧L'=Writer g (l++bs.flatten)::R):=by
 refine Ct.of_sep hv.tail.one fun o1=>?_
 obtain ⟨ts,rfl,hsl,htt⟩:=hv;rw [List.length_map] at hl
 refine Ct.enter (args:=[_,_,_]) func122 rfl ntmps122 results122 rfl ?_
 (repeat (refine wA ?_;intros))
 rename_i g3 g4
 have hco:=containsSt_spec e v ts 206 [pt g4,pt g3] (fun i=>Blk g4 [.func (.func 123) #[] #[]] 206 (0,0)::Blk g3 [pt g] 151 (0,0)::Writer g (l++((ts.map (·.2)).take i).flatten)::R) (fun i=>hsl.ent zE) zo (fun i hi=>by
  have hi2:i<(ts.map (·.2)).length:=by rw [List.length_map];exact hi
  have hft:=flat_take hi2;have hle:=flat_le (l:=ts.map (·.2)) (i:=i+1);rw [hft,List.length_append] at hle
  rw [hft,← List.append_assoc];rw [List.getElem_map];rw [List.getElem_map] at hle
  exact bAllRaw1_spec R e g g3 g4 _ _ _ (htt _ (List.getElem_mem hi)) (by rw [List.length_append];omega))
 rw [List.take_zero,List.flatten_nil,List.append_nil,List.take_of_length_le (by rw [List.length_map];omega)] at hco
 refine O.call rfl rfl hco ?_;rintro _ _ ⟨rfl,rfl⟩;refine wB ?_;exact Fin.ret (Writer g (l++(ts.map (·.2)).flatten)::R) rfl zE ⟨rfl,rfl⟩
theorem indexGs_spec (e:World) (v:Value) (ts:List GAt) (f:FuncId) (ws:List Value) (St:Nat→List Res) [i:CallT prog f f] (hv:∀ i,RdSl (St i) 4 v ts.length (ts.flatMap GAt.cells)) (hl:ts.length≤1000000)
 (hf:∀ (i:Nat) (h:i<ts.length),Ct prog f ([Value.agg (GAt.cells ts[i]).toArray]++ws).toArray e (St i) (fun v' L'=>v'=.bool false∧L'=St (i+1))) :
 Ct prog 266 #[v,.func (.func f) #[] ws.toArray] e (St 0) (fun v' L'=>v'=.int .i64 (-1)∧L'=St ts.length):=by
 refine Ct.of_sep ((hv 0).shape zo) ?_;rintro ⟨⟨ad,cap,rfl,h3,h4,h5,h6⟩,_⟩;refine Ct.enter (args:=[_,_]) func266 rfl ntmps266 results266 rfl ?_;refine wB ?_;refine W.loop (ι:=Nat) (fun i=>[(0,.slice ad ts.length cap),(1,.func (.func f) #[] ws.toArray),(7,.int .i64 (ts.length:Int)),(8,.int .i64 (i:Int))]) (fun i=>St i) (fun i=>i≤ts.length) (fun i=>ts.length - i) 0 (Nat.zero_le _) zS Ent.rfl ?_;rintro i h1
 by_cases hlt:i<ts.length
 rotate_left
 ·rw [show i=ts.length by omega];refine wB ?_;exact Fin.ret (St ts.length) rfl Ent.rfl ⟨rfl,rfl⟩
 rcases h6 with h6|⟨gl,ol,rfl⟩
 ·omega
 have hr:RdA (St i) gl (ol+i*4) (GAt.cells (ts[i]'hlt)):=RdA.elem (hv i) GAt.len (List.getElem?_eq_getElem hlt);have hfi:=hf i hlt
 generalize ts[i]'hlt=y at *
 (repeat' first|(refine O.loadAggR rfl hr rfl rfl ?_)|refine Za ?_|refine Zb ?_|apply Zc|apply Zd|apply Ze|apply Zf|refine ZA ?_|refine Yx ?_|refine Yz ?_|apply YB|apply YC)
 refine O.do (Do.callV (us:=[]) (ws:=ws) rfl rfl rfl hfi ?_)
 rintro _ _ ⟨rfl,rfl⟩;refine wB ?_;exact Fin.round (i+1) hlt zo zS Ent.rfl
theorem containsGs_spec (e:World) (v:Value) (ts:List GAt) (f:FuncId) (ws:List Value) (St:Nat→List Res) [i:CallT prog f f] (hv:∀ i,RdSl (St i) 4 v ts.length (ts.flatMap GAt.cells)) (hl:ts.length≤1000000)
 (hf:∀ (i:Nat) (h:i<ts.length),Ct prog f ([Value.agg (GAt.cells ts[i]).toArray]++ws).toArray e (St i) (fun v' L'=>v'=.bool false∧L'=St (i+1))) :
 Ct prog 208 #[v,.func (.func f) #[] ws.toArray] e (St 0) (fun v' L'=>v'=.bool false∧L'=St ts.length):=by
 refine Ct.enter (args:=[_,_]) func208 rfl ntmps208 results208 rfl ?_;refine wB ?_;refine O.call rfl rfl (indexGs_spec e v ts f ws St hv hl hf) ?_;rintro _ _ ⟨rfl,rfl⟩;refine wB ?_;exact Fin.ret (St ts.length) rfl Ent.rfl ⟨rfl,rfl⟩
abbrev putF:Value:=.func (.func 126) #[] #[]
theorem bAllGs1_spec (g g3 g4:Nat) (l:Bts) (t:GAt) (ht:GAt.ok R t) (hw:t.1.wit<4) (hr:t.1.sig.right) (hk:l.length≤1000000) :
 Ct prog 209 #[.agg (GAt.cells t).toArray,pt g4,pt g3] e (Blk g4 [putF] 209 (0,0)::Blk g3 [pt g] 151 (0,0)::Writer g l::R)
  (fun v' L'=>v'=.bool false∧L'=Blk g4 [putF] 209 (0,0)::Blk g3 [pt g] 151 (0,0)::Writer g (l++encCsg t.1)::R):=by
 obtain ⟨⟨w,sg⟩,up,uq⟩:=t;obtain ⟨t1,t2⟩:=ht;dsimp only at t1 t2 hw hr ⊢
 have hfr:Ent (Blk g4 [putF] 209 (0,0)::Blk g3 [pt g] 151 (0,0)::Writer g l::R) R:=zE;refine Ct.of_sep (t1.ent hfr).parts.one fun o4=>?_
 refine Ct.of_sep (t1.ent hfr).path.one fun o5=>?_
 refine Ct.enter (args:=[_,_,_]) func209 rfl ntmps209 results209 rfl ?_
 (repeat (refine wA ?_;intros))
 refine O.do (Do.callV (us:=[]) (ws:=[]) rfl rfl rfl (Ct.at zP (gPut_spec _ e g l up uq ⟨w,sg⟩ (t1.ent zE) hw hr hk)) ?_)
 rintro _ _ ⟨rfl,rfl⟩;refine wB ?_;exact Fin.ret (Blk g4 [putF] 209 (0,0)::Blk g3 [pt g] 151 (0,0)::Writer g (l++encCsg ⟨w,sg⟩)::R) rfl zE ⟨rfl,rfl⟩
theorem bAllGs_spec (g:Nat) (l:Bts) (v:Value) (gs:List Csg) (hv:RdGs R v gs) (hl:gs.length≤1000) (hw:∀ x∈gs,x.wit<4) (hr:∀ x∈gs,x.sig.right) (hk:l.length+(encGs gs).length≤1000000) :
 Ct prog 125 #[pt g,putF,v] e (Writer g l::R) (fun v' L'=>v'=.bool true∧L'=Writer g (l++encGs gs)::R):=by
 refine Ct.of_sep hv.tail.one fun o1=>?_
 obtain ⟨ts,rfl,hsl,htt⟩:=hv;rw [List.length_map] at hl
 refine Ct.enter (args:=[_,_,_]) func125 rfl ntmps125 results125 rfl ?_
 (repeat (refine wA ?_;intros))
 rename_i g3 g4
 have hco:=containsGs_spec e v ts 209 [pt g4,pt g3] (fun i=>Blk g4 [putF] 209 (0,0)::Blk g3 [pt g] 151 (0,0)::Writer g (l++(((ts.map (·.1)).map encCsg).take i).flatten)::R) (fun i=>hsl.ent zE) zo (fun i hi=>by
  have hi2:i<((ts.map (·.1)).map encCsg).length:=by rw [List.length_map,List.length_map];exact hi
  have hft:=flat_take hi2;have hle:=flat_le (l:=(ts.map (·.1)).map encCsg) (i:=i);have hkk:=hk;unfold encGs at hkk
  rw [hft,← List.append_assoc,List.getElem_map,List.getElem_map];exact bAllGs1_spec R e g g3 g4 _ _ (htt _ (List.getElem_mem hi)) (hw _ (List.mem_map.2 ⟨_,List.getElem_mem hi,rfl⟩)) (hr _ (List.mem_map.2 ⟨_,List.getElem_mem hi,rfl⟩)) (by rw [List.length_append];omega))
 rw [List.take_zero,List.flatten_nil,List.append_nil,List.take_of_length_le (by rw [List.length_map,List.length_map];omega)] at hco
 refine O.call rfl rfl hco ?_;rintro _ _ ⟨rfl,rfl⟩;refine wB ?_;exact Fin.ret (Writer g (l++encGs (ts.map (·.1)))::R) rfl zE ⟨rfl,rfl⟩
theorem bEncode_spec (vm vp vr va vq vc:Value) (b:Bun) (hb:RdBun R vm vp vr va vq vc b) (hw:b.wf) :
 Ct prog 50 #[.agg (bunC b vm vp vr va vq vc).toArray] e R (fun v' L'=>∃ ad k,v'=.tuple #[.slice ad (encBun b).length k,.int .i64 0]∧L'=OwnB (.slice ad (encBun b).length k) (encBun b)::R):=by
 have hbm:=hw.man;have h1:=hw.idx;have h2:=hw.size;have h3:=hw.few;have h4:=hw.most;have hcr:=hw.chk;have hbl:=encBun_len hw;have hfl:=flatten_len hw.h32;have hsl:=encSgd_length hw.chk hw.sig;have hgl:=encGs_len hw.sigs;refine Ct.of_sep (RdB.one hb.man) fun o3=>?_
 refine Ct.of_sep hb.path.one fun o4=>?_
 refine Ct.of_sep (RdB.one hb.sgd.root) fun o5=>?_
 refine Ct.of_sep hb.sgd.sig.parts.one fun o6=>?_
 refine Ct.of_sep hb.sgd.sig.path.one fun o7=>?_
 refine Ct.of_sep hb.gs.one fun o8=>?_
 obtain ⟨ts,hts,hvp,htt⟩:=hb.path;have htl:ts.length=b.path.length:=by rw [← hts,List.length_map]
 obtain ⟨gs,hgs,hvc,hgt⟩:=hb.gs;have hgsl:gs.length=b.cosigs.length:=by rw [← hgs,List.length_map]
 refine Ct.of_sep (hvp.shape zo) ?_;rintro ⟨⟨adp,cp,rfl,-,-,-,-⟩,_⟩;refine Ct.of_sep (hvc.shape zo) ?_;rintro ⟨⟨adc,cc,rfl,-,-,-,-⟩,_⟩
 have hrp:rightP ts=true:=by
  unfold rightP;rw [decide_eq_true_iff];refine ⟨by omega,fun a ha=>hw.h32 _ ?_⟩;rw [← hts];exact List.mem_map.2 ⟨a,ha,rfl⟩
 refine Ct.enter (args:=[_]) func50 rfl ntmps50 results50 rfl ?_
 (repeat (refine wA ?_;intros))
 rename_i g1;refine O.call rfl rfl (bNumber_spec _ e b.idx) ?_;rintro _ _ ⟨rfl,rfl⟩;rw [decide_eq_true h1];refine wB ?_;refine O.call rfl rfl (bNumber_spec _ e b.size) ?_;rintro _ _ ⟨rfl,rfl⟩;rw [decide_eq_true h2];refine wB ?_;refine O.call rfl rfl (rightP_spec _ e (.slice adp ts.length cp) ts (hvp.ent zE) (fun x hx=>(htt x hx).ent zE)) ?_;rintro _ _ ⟨rfl,rfl⟩;rw [hrp];refine wB ?_;refine O.call rfl rfl (new_spec _ e) ?_;rintro _ _ ⟨gw,rfl,rfl⟩;refine wB ?_;refine O.call rfl rfl (bytes_spec _ e gw [] b.man vm (hb.man.ent zE) (by simp only [List.length_nil];omega) hbm) ?_;rintro _ _ ⟨rfl,rfl⟩;rw [show []++be (List.length b.man) 2++b.man=enc b.man by simp [enc]];have el:=enc_length b.man;refine wB ?_;refine O.call rfl rfl (num_spec _ e gw _ b.idx zo zo) ?_;rintro _ _ ⟨rfl,rfl⟩;refine wB ?_;refine O.call rfl rfl (num_spec _ e gw _ b.size zo (by simp only [List.length_append,be_length];omega)) ?_;rintro _ _ ⟨rfl,rfl⟩;refine wB ?_;rw [u8_nat (n:=ts.length) zo];refine O.call rfl rfl (byte_spec _ e gw _ _ (by simp only [List.length_append,be_length];omega)) ?_;rintro _ _ ⟨rfl,rfl⟩;refine wB ?_;refine O.call rfl rfl (bAllRaw_spec _ e gw _ (.slice adp ts.length cp) b.path ⟨ts,hts,hvp.ent zE,fun x hx=>(htt x hx).ent zE⟩ zo (by simp only [List.length_append,be_length,List.length_singleton];omega)) ?_;rintro _ _ ⟨rfl,rfl⟩
 (repeat' first|refine Za ?_|apply Zc|apply Zd|apply Ze|apply Zf|refine Zh ?_|(apply O.loadAggB;exact rfl;exact zP;(first|(simp only [Nat.zero_add,Nat.add_zero,Nat.reduceAdd,List.drop_succ_cons,List.drop_zero,List.take_succ_cons,List.take_zero];done)|(simp only [Nat.zero_add,Nat.add_zero,Nat.reduceAdd,List.drop_succ_cons,List.drop_zero,List.take_succ_cons,List.take_zero];exact rfl));exact rfl;exact rfl))
 refine O.call rfl rfl (cPut_spec _ e gw _ vr va vq b.sgd (hb.sgd.ent zE) hw.chk hw.sig (by simp only [List.length_append,be_length,List.length_singleton];omega)) ?_;rintro _ _ ⟨rfl,rfl⟩;refine wB ?_;rw [u8_nat (n:=gs.length) zo];refine O.call rfl rfl (byte_spec _ e gw _ _ (by simp only [List.length_append,be_length,List.length_singleton];omega)) ?_;rintro _ _ ⟨rfl,rfl⟩;refine wB ?_;refine O.call rfl rfl (bAllGs_spec _ e gw _ (.slice adc gs.length cc) b.cosigs ⟨gs,hgs,hvc.ent zE,fun x hx=>(hgt x hx).ent zE⟩ zo hw.wits hw.sigs (by simp only [List.length_append,be_length,List.length_singleton];omega)) ?_;rintro _ _ ⟨rfl,rfl⟩
 have hfin:enc b.man++be b.idx 4++be b.size 4++[UInt8.ofNat ts.length]++b.path.flatten++encSgd b.sgd++[UInt8.ofNat gs.length]++encGs b.cosigs=encBun b:=by
  unfold encBun;rw [htl,hgsl];simp only [List.append_assoc,List.cons_append,List.nil_append,List.singleton_append]
 rw [hfin];refine wB ?_;refine O.call rfl rfl (done_spec _ e gw (encBun b) zo) ?_;rintro _ _ ⟨ad,k,rfl,rfl⟩;refine wB ?_;exact Fin.ret (OwnB (.slice ad (encBun b).length k) (encBun b)::R) rfl zE ⟨ad,k,rfl,rfl⟩
abbrev tCsg:TypeId:=96
abbrev OwnG (v:Value) (l:List GAt):Res:=Own tCsg 4 v l.length (l.flatMap GAt.cells)
abbrev bun0C:List Value:=bunC bun0 nY nY nY nY nY nY
theorem sixAll {A B C D E F:Res} {R:List Res}:Ent (A::B::C::D::E::F::R) (All [A,B,C,D,E,F]::R):=all_in (M:=[A,B,C,D,E,F])
end Go.Proofs
namespace Go.Proofs
attribute [local irreducible] Bs.Val Bs.Do Bs.O Bs.W Bs.Fin Bs.A Bs.Ct Bs.RdSl Bs.Rd Bs.Sat Bs.Blk Bs.Ob Bs.Own Bs.View Bs.Ent Bs.Ex Bs.All Bs.Pu Bs.Base Bs.sepL Bs.RdA
open Go.Bs
open Tryz
variable (R:List Res) (e:World)
theorem bMake_spec (gl ld lk:Nat) (seed:Bts) (ls:LSt) (i:Nat) (vr va vq vg:Value) (s:Sgd) (gs:List Csg) (hs:RdSgd R vr va vq s) (hf:s.sig.fits) (hgs:RdGs R vg gs) (hgf:∀ g∈gs,g.sig.fits) (hgl:gs.length≤1000) (hsz:s.chk.size≤ls.items.length) (hl2:ls.items.length≤256) (hi:i≤1000000) :
 Ct prog 49 #[pt gl,.int .i64 (i:Int),.agg (sgdC s vr va vq).toArray,vg] e (LedgerR gl ld lk seed ls::R)
  (fun v' L'=>(i<s.chk.size→∃ (M:Res) (um up ur ua uq uc:Value),v'=.tuple #[.agg (bunC ⟨ls.items.getD i [],i,s.chk.size,pathP ((ls.items.take s.chk.size).map leafP) i,s,gs⟩ um up ur ua uq uc).toArray,.int .i64 0]∧RdBun [M] um up ur ua uq uc ⟨ls.items.getD i [],i,s.chk.size,pathP ((ls.items.take s.chk.size).map leafP) i,s,gs⟩∧L'=M::LedgerR gl ld lk seed ls::R)
   ∧ (¬ i<s.chk.size→v'=.tuple #[.agg bun0C.toArray,.int .i64 22]∧L'=LedgerR gl ld lk seed ls::R)):=by
 have hfr:Ent (LedgerR gl ld lk seed ls::R) R:=zE;refine Ct.of_sep (RdB.one (hs.root.ent hfr)) fun o5=>?_
 refine Ct.of_sep (hs.sig.ent hfr).parts.one fun o6=>?_
 refine Ct.of_sep (hs.sig.ent hfr).path.one fun o7=>?_
 obtain ⟨ts,hts,hvg,hgt⟩:=hgs;have htl:ts.length=gs.length:=by rw [← hts,List.length_map]
 refine Ct.of_sep ((hvg.ent hfr).shape zo) ?_;rintro ⟨⟨adg,cg,rfl,h3,h4,h5,h6⟩,_⟩;simp only [maxLen] at h4
 refine Ct.enterC (args:=[_,_,_,_]) func49 rfl ntmps49 results49 rfl ?_
 (repeat (refine wA ?_;intros))
 rename_i g6 g8;refine O.call rfl rfl (Ct.at zP (lEntry_spec _ e gl ld lk seed ls (i:Int) zo)) ?_;rintro _ _ (⟨hno,rfl,rfl⟩|⟨hi0,hi1,adi,ci,rfl,rfl⟩)
 ·have hns:¬ i<s.chk.size:=by omega
  refine wB ?_;apply Fin.retC
  ·exact zV
  exact ⟨LedgerR gl ld lk seed ls::R,zE,fun h=>absurd h hns,fun _=>⟨rfl,rfl⟩⟩
 rw [show ((i:Int)).toNat=i from rfl]
 by_cases his:i<s.chk.size
 rotate_left
 ·refine wB ?_;apply Fin.retC
  ·exact zV
  exact ⟨LedgerR gl ld lk seed ls::R,zE,fun h=>absurd h his,fun _=>⟨rfl,rfl⟩⟩
 refine wB ?_;refine O.call rfl rfl (Ct.at zP (lInc_spec _ e gl ld lk seed ls i s.chk.size hsz his)) ?_;rintro _ _ ⟨adp,cp,out,rfl,hout,rfl⟩
 generalize hpq:pathP ((ls.items.take s.chk.size).map leafP) i=pth at *
 generalize hit:ls.items.getD i []=item at *
 (repeat' first|refine W.meetS (id:=10) (fun j:Nat × Res × Value × Value × Value=>[(3,.slice adg ts.length cg),(8,pt g8),(9,.int .i64 0),(14,pt j.1)]) (fun j=>Blk j.1 (bunC ⟨item,i,s.chk.size,pth,s,[]⟩ (.slice adi item.length ci) (.slice adp out.length cp) j.2.2.1 j.2.2.2.1 j.2.2.2.2 nY) tBun (0,0)::j.2.1::OwnB (.slice adi item.length ci) item::OwnT (.slice adp out.length cp) out::Items out::LedgerR gl ld lk seed ls::Blk g8 bun0C tBun (0,0)::R) (fun j=>RdSgd [j.2.1] j.2.2.1 j.2.2.2.1 j.2.2.2.2 s) ?_ ?_|refine Za ?_|refine Zb ?_|apply Zc|apply Zd|apply Ze|apply Zf|refine ZQ ?_|refine Yh fun _=>?_|refine YA ?_|apply YC|refine YN ?_|refine YR ?_|fail)
 rotate_left
 ·refine ⟨?_⟩;rename_i g12;refine W.keep [(3,.slice adg ts.length cg),(6,pt g6),(8,pt g8),(9,.int .i64 0),(10,.slice adi item.length ci),(12,pt g12)] zS ?_
  (repeat' first|refine Za ?_|refine Zb ?_|apply Zc|apply Zd|apply Ze|apply Zf|refine Zh ?_|refine Zi ?_|refine Zj ?_|refine Zk ?_|refine Zl ?_|refine Zm ?_|refine Zn ?_|refine Zo ?_|refine Zq ?_|refine Zs ?_|refine Zt ?_|refine Zu ?_|refine Zy ?_|refine Zz ?_|refine ZA ?_|refine ZB ?_|refine ZC (fun _=>?_) fun _=>?_|refine ZJ ?_|refine ZK ?_|refine ZM ?_|refine ZN ?_|refine ZO (fun _=>?_) fun _=>?_|refine ZP ?_|refine ZQ ?_|refine ZS ?_|refine Z7 ?_|refine Z8 ?_|refine Yd ?_|refine Ye ?_|refine Yg fun _=>?_|refine Yh fun _=>?_|refine Yi fun _=>?_|refine Ym ?_|refine Yw ?_|refine Yx ?_|refine Yy ?_|refine Yz ?_|refine YA ?_|apply YB|apply YC|apply YD|apply YE|apply YF|apply YG|apply YH|apply YI|apply YJ|refine YK ?_|refine YN ?_|refine YQ ?_|refine YR ?_|(apply O.loadAggB;exact rfl;exact zP;(first|(simp only [Nat.zero_add,Nat.add_zero,Nat.reduceAdd,List.drop_succ_cons,List.drop_zero,List.take_succ_cons,List.take_zero];done)|(simp only [Nat.zero_add,Nat.add_zero,Nat.reduceAdd,List.drop_succ_cons,List.drop_zero,List.take_succ_cons,List.take_zero];exact rfl));exact rfl;exact rfl))
  refine A.begin (id:=9) [6] (Blk g12 [.int .i64 (i:Int),.int .i64 (s.chk.size:Int),.slice adp out.length cp] 40 (0,0)::Blk g6 (sgdC s vr va vq) 87 (0,0)::R) mixed ?_
  (refine tM 0 ?_;refine tJ 1 ?_;refine tJ 2 ?_)
  refine A.two 3 5 rfl rfl rfl rfl zK ?_ ?_
  ·refine Do.call rfl rfl (cCopy_spec _ e vr va vq s (hs.ent zE) hf) ?_;rintro _ _ ⟨N,ur,ua,uq,rfl,hN,rfl⟩;refine ⟨fun _=>zE,?_⟩;refine A.of_sep (RdB.one (hN.root.ent (one_in zP))) fun o8=>?_
   refine A.of_sep (hN.sig.ent (one_in zP)).parts.one fun o9=>?_
   refine A.of_sep (hN.sig.ent (one_in zP)).path.one fun o10=>?_
   (refine tk 4 _ rfl (Val.build rfl zF) ?_)
   refine tO 5 ?_;refine Do.alloc (cs:=bun0C) rfl rfl fun g14=>⟨fun _=>zE,?_⟩
   refine tO 6 ?_;refine zg ?_;refine ⟨zN,?_⟩;refine A.done zK ?_;exact Fin.meet (g14,N,ur,ua,uq) hN zS zE
  ·refine Do.alloc (cs:=bun0C) rfl rfl fun g14=>⟨fun _=>zE,?_⟩
   refine tO 3 ?_;refine Do.call rfl rfl (cCopy_spec _ e vr va vq s (hs.ent zE) hf) ?_;rintro _ _ ⟨N,ur,ua,uq,rfl,hN,rfl⟩;refine ⟨fun _=>zE,?_⟩;refine A.of_sep (RdB.one (hN.root.ent (one_in zP))) fun o8=>?_
   refine A.of_sep (hN.sig.ent (one_in zP)).parts.one fun o9=>?_
   refine A.of_sep (hN.sig.ent (one_in zP)).path.one fun o10=>?_
   (refine tk 4 _ rfl (Val.build rfl zF) ?_)
   refine tO 6 ?_;refine zg ?_;refine ⟨zN,?_⟩;refine A.done zK ?_;exact Fin.meet (g14,N,ur,ua,uq) hN zS zE
 rintro ⟨g14,N,ur,ua,uq⟩ hN;dsimp only at hN ⊢
 refine W.of_sep (RdB.one (hN.root.ent (one_in zP))) fun o8=>?_
 refine W.of_sep (hN.sig.ent (one_in zP)).parts.one fun o9=>?_
 refine W.of_sep (hN.sig.ent (one_in zP)).path.one fun o10=>?_
 refine wB ?_;refine W.loop (ι:=Nat × List GAt × Res × Option Addr × Nat) (fun j=>[(8,pt g8),(9,.int .i64 0),(14,pt g14),(54,.slice adg ts.length cg),(55,.int .i64 (ts.length:Int)),(56,.int .i64 (j.1:Int))]) (fun j=>Blk g14 (bunC ⟨item,i,s.chk.size,pth,s,[]⟩ (.slice adi item.length ci) (.slice adp out.length cp) ur ua uq (.slice j.2.2.2.1 j.2.1.length j.2.2.2.2)) tBun (0,0)::OwnG (.slice j.2.2.2.1 j.2.1.length j.2.2.2.2) j.2.1::j.2.2.1::N::OwnB (.slice adi item.length ci) item::OwnT (.slice adp out.length cp) out::Items out::LedgerR gl ld lk seed ls::Blk g8 bun0C tBun (0,0)::R) (fun j=>j.1≤ts.length∧j.2.1.map (·.1)=gs.take j.1∧∀ t∈j.2.1,GAt.ok [j.2.2.1] t) (fun j=>ts.length - j.1) (0,[],Items [],none,0) ⟨Nat.zero_le _,rfl,fun t ht=>by cases ht⟩ zS (Ent.trans (items_nil) (Ent.trans (own_nil tCsg 4) zE)) ?_;rintro ⟨k,us,Mx,adu,cu⟩ ⟨hk,hus,hut⟩;dsimp only at hk hus hut ⊢
 have hul:us.length=k:=by have:=congrArg List.length hus;rw [List.length_map,List.length_take] at this;omega
 by_cases hlt:k<ts.length
 rotate_left
 ·rw [List.take_of_length_le zo] at hus
  obtain ⟨M,hM⟩:∃ M:Res,M=All [OwnB (.slice adi item.length ci) item,OwnT (.slice adp out.length cp) out,Items out,N,OwnG (.slice adu us.length cu) us,Mx]:=⟨_,rfl⟩
  have ho:Ent [M] [OwnB (.slice adi item.length ci) item,OwnT (.slice adp out.length cp) out,Items out,N,OwnG (.slice adu us.length cu) us,Mx]:=by rw [hM];exact all_out (M:=[_,_,_,_,_,_]) (L:=[])
  have hrb:RdBun [M] (.slice adi item.length ci) (.slice adp out.length cp) ur ua uq (.slice adu us.length cu) ⟨item,i,s.chk.size,pth,s,gs⟩ :=
   ⟨(RdSl.own .zero).ent ho,RdTs.ent ⟨out,hout,RdSl.own (.succ .zero),Txts.pull (.succ (.succ .zero))⟩ ho,(hN.ent (one_in zP)).ent ho,RdGs.ent ⟨us,hus,RdSl.own zP,fun t ht=>(hut t ht).ent (one_in zP)⟩ ho⟩
  refine wB ?_;apply Fin.retC
  ·exact zV
  refine ⟨M::LedgerR gl ld lk seed ls::R,Ent.trans ?_ (by rw [hM];exact sixAll),fun _=>⟨M,.slice adi item.length ci,.slice adp out.length cp,ur,ua,uq,.slice adu us.length cu,rfl,hrb,rfl⟩,fun h=>absurd his h⟩;exact zE
 rcases h6 with h6|⟨gg,og,rfl⟩
 ·omega
 have hag:RdA R gg (og+k*4) (GAt.cells (ts[k]'hlt)):=RdA.elem hvg GAt.len (List.getElem?_eq_getElem hlt);have hti:=hgt _ (List.getElem_mem hlt);have hgk:k<gs.length:=by omega
 have hgi:(ts[k]'hlt).1=gs[k]'hgk:=by
  have:=congrArg (fun l=>l[k]?) hts;simp only [List.getElem?_map,List.getElem?_eq_getElem hlt,List.getElem?_eq_getElem hgk,Option.map_some,Option.some.injEq] at this
  exact this
 have htk:gs.take (k+1)=gs.take k++[gs[k]'hgk]:=List.take_succ_eq_append_getElem hgk;have hfi:=hgf _ (List.getElem_mem hgk);rw [← hgi] at htk hfi
 generalize ts[k]'hlt=y at *
 obtain ⟨⟨w,sg⟩,up,uq2⟩:=y;obtain ⟨t1,t2⟩:=hti;dsimp only at t1 t2 hfi htk hag
 refine W.of_sep (t1.ent zE).parts.one fun o11=>?_
 refine W.of_sep (t1.ent zE).path.one fun o12=>?_
 (repeat (refine wA ?_;intros))
 rename_i g16;have hcm:List.length [Value.int .i64 (w:Int),.int .i64 (sg.idx:Int),up,uq2]=4:=rfl;dsimp only [GAt.cells];refine A.begin (id:=13) [6,7] (Blk g16 (csgC ⟨w,sg⟩ up uq2) tCsg (0,0)::Blk g14 (bunC ⟨item,i,s.chk.size,pth,s,[]⟩ (.slice adi item.length ci) (.slice adp out.length cp) ur ua uq (.slice adu us.length cu)) tBun (0,0)::R) mixed ?_
 (refine tF 0 ?_;refine tL 1 ?_;refine tJ 2 ?_)
 refine tO 3 ?_;refine Do.call rfl rfl (gCopy_spec _ e up uq2 ⟨w,sg⟩ (t1.ent zE) hfi) ?_;rintro _ _ ⟨N2,wp,wq,rfl,hN2,rfl⟩;refine ⟨fun _=>zE,?_⟩;refine A.of_sep (hN2.ent (one_in zP)).parts.one fun o13=>?_
 refine A.of_sep (hN2.ent (one_in zP)).path.one fun o14=>?_
 refine tO 4 ?_;refine Do.buildSlice (n:=4) (cs:=csgC ⟨w,sg⟩ wp wq) rfl rfl rfl rfl zQ rfl (fun gb=>⟨fun _=>zE,?_⟩);refine tO 5 ?_;refine Do.append rfl rfl rfl (show Pull _ (OwnG (.slice adu us.length cu) us) _ from zP) (RdSl.blkN (n:=4) (c:=1) zP rfl zl) rfl rfl zO zm zo fun ad1 k1 _=>⟨fun _=>zE,?_⟩
 refine tO 6 ?_;refine dV (Val.fieldAddr rfl) ?_;refine tO 7 ?_;refine zs1 ?_;refine ⟨zN,?_⟩;refine A.done zK ?_;refine wB ?_;have hall:Ent [All [Mx,N2]] [Mx]:=Ent.trans (all_out (M:=[_,_]) (L:=[])) (Ent.cons Ent.nil);have hall2:Ent [All [Mx,N2]] [N2]:=Ent.trans (all_out (M:=[_,_]) (L:=[])) (Ent.drop (Ent.cons Ent.nil));refine Fin.round (k+1,us++[(⟨w,sg⟩,wp,wq)],All [Mx,N2],ad1,k1) ⟨hlt,by dsimp only;rw [htk,List.map_append,hus];rfl,fun t ht=>?_⟩ zd zS ?_
 ·rcases List.mem_append.1 ht with ht|ht
  ·exact (hut t ht).ent hall
  ·rw [List.mem_singleton.1 ht];exact ⟨hN2.ent hall2,t2⟩
 ·simp only [OwnG,List.length_append,List.length_singleton,List.flatMap_append,List.flatMap_cons,List.flatMap_nil,List.append_nil];exact Ent.trans (pull2_all (A:=Mx) (B:=N2) zP zP) zE
abbrev tFd:TypeId:=321
abbrev tFw:TypeId:=330
abbrev FW.cells (x:FW):List Value:=[.int .i64 (x.size:Int),.int .i64 (x.tries:Int),.bool x.kept]
theorem fw3 (x:FW):x.cells.length=3:=rfl
abbrev OwnS (v:Value) (l:List FW):Res:=Own tFw 3 v l.length (l.flatMap FW.cells)
structure FdMem where
 ga:Nat
 vl:Value
 vw:Value
 al:Option Addr
 cl:Nat
 ur:Value
 up:Value
 uq:Value
 ak:Option Addr
 ck:Nat
 ts:List GAt
 dr:Value
 dp:Value
 dq:Value
 ve:Value
structure FdMem.ok (a:FdMem) (M:Res) (p:Pol) (retry n:Nat) (s:FdSt):Prop where
 pol:RdPol [M] a.vl a.vw p
 cur:RdSgd [M] a.ur a.up a.uq s.curV
 kts:a.ts.map (·.1)=s.kept
 kok:∀ t∈a.ts,GAt.ok [M] t
 done:RdSgd [M] a.dr a.dp a.dq s.done
 enough:RdGs [M] a.ve s.enough
 st:s.ok p.wits.length n
 pr:p.right
 low:1≤retry
 high:retry≤100
abbrev FdMem.cells (a:FdMem) (p:Pol) (retry:Nat) (s:FdSt):List Value:=polC p a.vl a.vw++[.int .i64 (retry:Int),pt a.ga,.slice a.al s.st.length a.cl]++sgdC s.curV a.ur a.up a.uq++[.bool s.cur.isSome,.slice a.ak a.ts.length a.ck]++sgdC s.done a.dr a.dp a.dq++[a.ve]
abbrev fdM (g:Nat) (p:Pol) (retry:Nat) (s:FdSt) (a:FdMem) (M:Res) (R:List Res):List Res :=
 Blk g (a.cells p retry s) tFd (0,0)::M::OwnS (.slice a.al s.st.length a.cl) s.st::OwnG (.slice a.ak a.ts.length a.ck) a.ts::Agd a.ga s.ord s.ag::R
def FdAt (g:Nat) (p:Pol) (retry n:Nat) (s:FdSt) (a:FdMem) (M:Res):Res:=All (Pu (a.ok M p retry n s)::fdM g p retry s a M [])
def FdR (g:Nat) (p:Pol) (retry n:Nat) (s:FdSt):Res:=Ex fun a=>Ex fun M=>FdAt g p retry n s a M
theorem fd_out {g:Nat} {p:Pol} {retry n:Nat} {s:FdSt} {R:List Res} {P:Program} {f:FuncId} {args:Array Value} {e:World} {Post:Value→List Res→Prop}
 (h:∀ (a:FdMem) (M:Res),a.ok M p retry n s→Ct P f args e (fdM g p retry s a M R) Post):Ct P f args e (FdR g p retry n s::R) Post :=
 Ct.ex .zero fun a=>Ct.ex .zero fun M=>Ct.ent (Ct.of_sep (p:=a.ok M p retry n s) (fun w x=>(pu_out x).1) fun hp=>(h a M hp).ent (Ent.drop Ent.rfl)) (all_out (M:=Pu (a.ok M p retry n s)::fdM g p retry s a M []) (L:=R))
theorem fd_in {g:Nat} {p:Pol} {retry n:Nat} {s:FdSt} {a:FdMem} {M:Res} {R:List Res} (h:a.ok M p retry n s):Ent (fdM g p retry s a M R) (FdR g p retry n s::R) :=
 Ent.trans (pu_in h) (Ent.trans (all_in (M:=Pu (a.ok M p retry n s)::fdM g p retry s a M []) (L:=R)) (Ent.trans (ex_in (f:=fun M=>FdAt g p retry n s a M) M) (ex_in (f:=fun a=>Ex fun M=>FdAt g p retry n s a M) a)))
theorem fplan_spec (g ga o t w:Nat) (l:List AE) (hg:Rd R ⟨g,4,none⟩ (pt ga)) (hf:∀ x∈l,x.fits) (ht:t≤1000000000) (hw:w≤1000000000) (ho:o≤1000000000) (hl:l.length≤100000) :
 Ct prog 246 #[pt g,.int .i64 (t:Int),.int .i64 (w:Int)] e (Agd ga o l::R) (fun v' L'=>v'=.tuple #[]∧L'=Agd ga (o+1) (hPush (cancelA l w) ⟨t,o,w⟩)::R):=by
 have hcl:=cancel_len (l:=l) (w:=w);refine Ct.enter (args:=[_,_,_]) func246 rfl ntmps246 results246 rfl ?_
 (repeat' first|(refine O.load rfl hg.tail rfl ?_)|refine Za ?_|apply Zc|apply Zd|refine Zg ?_|refine Zh ?_|fail)
 refine O.call rfl rfl (acancel_spec R e ga o l w hf hl) ?_;rintro _ _ ⟨⟨z,rfl⟩,rfl⟩
 (repeat' first|(refine O.load rfl hg.tail rfl ?_)|refine Za ?_|apply Zd|apply Ze|apply Zf|refine Zg ?_|refine Zh ?_|fail)
 refine O.call rfl rfl (aadd_spec R e ga o (cancelA l w) t w (fun x hx=>hf x (List.mem_filter.1 ((cancelA_perm l w).mem_iff.1 hx)).1) ht hw ho zo) ?_;rintro _ _ ⟨rfl,rfl⟩
 (repeat (refine wA ?_;intros))
 exact Fin.stop (Agd ga (o+1) (hPush (cancelA l w) ⟨t,o,w⟩)::R) rfl Ent.rfl ⟨rfl,rfl⟩
theorem sgdZ_rd (L:List Res):RdSgd L nY nY nY sgdZ :=
 ⟨RdSl.nil _ _,csg0_rd L,⟨by decide,by decide⟩⟩
theorem flat_rep {n:Nat} {x:FW}:(List.replicate n x).flatMap FW.cells=(List.replicate n (FW.cells x)).flatten:=by
 rw [List.flatMap_def,List.map_replicate]
theorem fNew_spec (vl vw:Value) (p:Pol) (retry:Nat) (hp:RdPol R vl vw p) (hpr:p.right) (h1:1≤retry) (h2:retry≤100) :
 Ct prog 164 #[.agg (polC p vl vw).toArray,.int .i64 (retry:Int)] e R (fun v' L'=>∃ g,v'=.tuple #[pt g,.int .i64 0]∧L'=FdR g p retry 0 (fd0 p.wits.length)::R):=by
 have hmost:=hpr.most;have hlog:=hpr.log;refine Ct.of_sep (RdB.one hp.log) fun o2=>?_
 refine Ct.of_sep hp.wits.one fun o3=>?_
 obtain ⟨ts,hts,hsl,htt⟩:=hp.wits;have htl:ts.length=p.wits.length:=by rw [← hts,List.length_map]
 refine Ct.of_sep (hsl.shape zo) ?_;rintro ⟨⟨adw,cw,rfl,-,-,-,-⟩,_⟩;refine Ct.enter (args:=[_,_]) func164 rfl ntmps164 results164 rfl ?_
 (repeat (refine wA ?_;intros))
 rename_i g2;refine O.call rfl rfl (gRight_spec _ e vl (.slice adw ts.length cw) p (hp.ent zE) hpr) ?_;rintro _ _ ⟨rfl,rfl⟩;refine wB ?_;have hpol:=fun (L:List Res) (h:Ent L R)=>fPolicy_spec L e vl (.slice adw ts.length cw) p (hp.ent h) zo zo (fun b hb=>by have:=hpr.sizes b hb;omega)
 refine A.begin (id:=3) [10,11] (Blk g2 (polC p vl (.slice adw ts.length cw)) 106 (0,0)::R) mixed ?_
 (refine tJ 0 ?_;refine tM 2 ?_;refine tF 4 ?_;refine tL 5 ?_;refine tk 6 _ rfl (Val.len rfl) ?_)
 refine A.two 1 7 rfl rfl rfl rfl zK ?_ ?_
 ·refine Do.call rfl rfl (hpol _ zE) ?_;rintro _ _ ⟨Mp,ul,uw,rfl,hMp,rfl⟩;refine ⟨fun _=>zE,?_⟩;refine A.of_sep (RdB.one (hMp.log.ent (one_in zP))) fun o4=>?_
  refine A.of_sep (hMp.wits.ent (one_in zP)).one fun o5=>?_
  refine A.two 3 7 rfl rfl rfl rfl zK ?_ ?_
  ·refine Do.call rfl rfl (anew_spec _ e) ?_;rintro _ _ ⟨ga,rfl,rfl⟩;refine ⟨fun _=>zE,?_⟩;refine tO 7 ?_;refine Do.makeSliceN (c:=ts.length) (zs:=FW.cells fwZ) rfl rfl rfl rfl rfl rfl zm zo fun gs=>⟨fun _=>zE,?_⟩
   refine tk 8 _ rfl (Val.build rfl zF) ?_;refine tO 9 ?_;refine Do.box (cs:=FdMem.cells ⟨ga,ul,uw,some ⟨gs,0,none⟩,ts.length,nY,nY,nY,none,0,[],nY,nY,nY,nY⟩ p retry (fd0 ts.length)) rfl (by simp [fd0,FdSt.curV,sgdZ];rfl) rfl fun gf=>⟨fun _=>zE,?_⟩
   refine tO 10 ?_;refine dV (Val.assign rfl) ?_;refine tO 11 ?_;refine dV (Val.assign rfl) ?_;refine A.done zK ?_;refine wB ?_
   have hok:FdMem.ok ⟨ga,ul,uw,some ⟨gs,0,none⟩,ts.length,nY,nY,nY,none,0,[],nY,nY,nY,nY⟩ Mp p retry 0 (fd0 ts.length) :=
    ⟨hMp,sgdZ_rd _,rfl,fun t ht=>absurd ht List.not_mem_nil,sgdZ_rd _,⟨[],rfl,RdSl.nil _ _,fun t ht=>absurd ht List.not_mem_nil⟩,by rw [htl];exact fd0_ok _,hpr,h1,h2⟩
   rw [← htl];refine Fin.ret (FdR gf p retry 0 (fd0 ts.length)::R) rfl (Ent.trans (Ent.trans (own_nil tCsg 4) ?_) (fd_in hok)) ⟨gf,rfl,rfl⟩;simp only [fdM,OwnS,fd0,List.length_replicate,← flat_rep];exact zE
  ·refine Do.makeSliceN (c:=ts.length) (zs:=FW.cells fwZ) rfl rfl rfl rfl rfl rfl zm zo fun gs=>⟨fun _=>zE,?_⟩
   refine tO 3 ?_;refine Do.call rfl rfl (anew_spec _ e) ?_;rintro _ _ ⟨ga,rfl,rfl⟩;refine ⟨fun _=>zE,?_⟩;refine tk 8 _ rfl (Val.build rfl zF) ?_;refine tO 9 ?_;refine Do.box (cs:=FdMem.cells ⟨ga,ul,uw,some ⟨gs,0,none⟩,ts.length,nY,nY,nY,none,0,[],nY,nY,nY,nY⟩ p retry (fd0 ts.length)) rfl (by simp [fd0,FdSt.curV,sgdZ];rfl) rfl fun gf=>⟨fun _=>zE,?_⟩
   refine tO 10 ?_;refine dV (Val.assign rfl) ?_;refine tO 11 ?_;refine dV (Val.assign rfl) ?_;refine A.done zK ?_;refine wB ?_
   have hok:FdMem.ok ⟨ga,ul,uw,some ⟨gs,0,none⟩,ts.length,nY,nY,nY,none,0,[],nY,nY,nY,nY⟩ Mp p retry 0 (fd0 ts.length) :=
    ⟨hMp,sgdZ_rd _,rfl,fun t ht=>absurd ht List.not_mem_nil,sgdZ_rd _,⟨[],rfl,RdSl.nil _ _,fun t ht=>absurd ht List.not_mem_nil⟩,by rw [htl];exact fd0_ok _,hpr,h1,h2⟩
   rw [← htl];refine Fin.ret (FdR gf p retry 0 (fd0 ts.length)::R) rfl (Ent.trans (Ent.trans (own_nil tCsg 4) ?_) (fd_in hok)) ⟨gf,rfl,rfl⟩;simp only [fdM,OwnS,fd0,List.length_replicate,← flat_rep];exact zE
 ·refine Do.makeSliceN (c:=ts.length) (zs:=FW.cells fwZ) rfl rfl rfl rfl rfl rfl zm zo fun gs=>⟨fun _=>zE,?_⟩
  refine tO 1 ?_;refine Do.call rfl rfl (hpol _ zE) ?_;rintro _ _ ⟨Mp,ul,uw,rfl,hMp,rfl⟩;refine ⟨fun _=>zE,?_⟩;refine A.of_sep (RdB.one (hMp.log.ent (one_in zP))) fun o4=>?_
  refine A.of_sep (hMp.wits.ent (one_in zP)).one fun o5=>?_
  refine tO 3 ?_;refine Do.call rfl rfl (anew_spec _ e) ?_;rintro _ _ ⟨ga,rfl,rfl⟩;refine ⟨fun _=>zE,?_⟩;refine tk 8 _ rfl (Val.build rfl zF) ?_;refine tO 9 ?_;refine Do.box (cs:=FdMem.cells ⟨ga,ul,uw,some ⟨gs,0,none⟩,ts.length,nY,nY,nY,none,0,[],nY,nY,nY,nY⟩ p retry (fd0 ts.length)) rfl (by simp [fd0,FdSt.curV,sgdZ];rfl) rfl fun gf=>⟨fun _=>zE,?_⟩
  refine tO 10 ?_;refine dV (Val.assign rfl) ?_;refine tO 11 ?_;refine dV (Val.assign rfl) ?_;refine A.done zK ?_;refine wB ?_
  have hok:FdMem.ok ⟨ga,ul,uw,some ⟨gs,0,none⟩,ts.length,nY,nY,nY,none,0,[],nY,nY,nY,nY⟩ Mp p retry 0 (fd0 ts.length) :=
   ⟨hMp,sgdZ_rd _,rfl,fun t ht=>absurd ht List.not_mem_nil,sgdZ_rd _,⟨[],rfl,RdSl.nil _ _,fun t ht=>absurd ht List.not_mem_nil⟩,by rw [htl];exact fd0_ok _,hpr,h1,h2⟩
  rw [← htl];refine Fin.ret (FdR gf p retry 0 (fd0 ts.length)::R) rfl (Ent.trans (Ent.trans (own_nil tCsg 4) ?_) (fd_in hok)) ⟨gf,rfl,rfl⟩;simp only [fdM,OwnS,fd0,List.length_replicate,← flat_rep];exact zE
theorem getD_fw {l:List FW} {i:Nat} (h:i<l.length):l.getD i fwZ=l[i]'h:=by simp [List.getD,h]
theorem flatN_set {α:Type} {f:α→List Value} {n:Nat} (hf:∀ a,(f a).length=n):∀ (l:List α) (i k:Nat) (h:i<l.length) (a:α) (v:Value),k<n→f a=(f (l[i]'h)).set k v→(l.flatMap f).set (i*n+k) v=(l.set i a).flatMap f
 | [],i,k,h,_,_,_,_=>absurd h (Nat.not_lt_zero i)
 | x::l,0,k,h,a,v,hk,he=>by
  rw [Nat.zero_mul,Nat.zero_add,List.flatMap_cons,List.set_cons_zero,List.flatMap_cons,List.set_append_left _ _ (by rw [hf];exact hk)];rw [show f a=(f x).set k v from he]
 | x::l,i+1,k,h,a,v,hk,he=>by
  rw [List.flatMap_cons,List.set_cons_succ,List.flatMap_cons,List.set_append_right _ _ (by rw [hf,Nat.add_mul];omega),hf]
  congr 1
  rw [show (i+1)*n+k - n=i*n+k by rw [Nat.add_mul];omega];exact flatN_set hf l i k (by simpa using h) a v hk he
theorem fw_tries {l:List FW} {i:Nat} (h:i<l.length) (n:Nat):(l.flatMap FW.cells).set (i*3+1) (.int .i64 (n:Int))=(l.set i { l.getD i fwZ with tries:=n }).flatMap FW.cells :=
 flatN_set fw3 l i 1 h _ _ zo (by rw [getD_fw h];rfl)
theorem fw_size {l:List FW} {i:Nat} (h:i<l.length) (n:Nat):(l.flatMap FW.cells).set (i*3+0) (.int .i64 (n:Int))=(l.set i { l.getD i fwZ with size:=n }).flatMap FW.cells :=
 flatN_set fw3 l i 0 h _ _ zo (by rw [getD_fw h];rfl)
theorem fw_kept {l:List FW} {i:Nat} (h:i<l.length) (b:Bool):(l.flatMap FW.cells).set (i*3+2) (.bool b)=(l.set i { l.getD i fwZ with kept:=b }).flatMap FW.cells :=
 flatN_set fw3 l i 2 h _ _ zo (by rw [getD_fw h];rfl)
theorem fw_off {l:List FW} {i:Nat} (h:i<l.length):((l.flatMap FW.cells).set (i*3+1) (.int .i64 0)).set (i*3+2) (.bool false)=(l.set i (l.getD i fwZ).off).flatMap FW.cells:=by
 rw [show (Value.int .i64 0)=.int .i64 ((0:Nat):Int) from rfl,fw_tries h,fw_kept (by rw [List.length_set];exact h),List.set_set]
 congr 2
 rw [getD_fw (by rw [List.length_set];exact h),List.getElem_set_self]
 rfl
theorem ownS_shape {v:Value} {l:List FW} {L R:List Res} (p:Pull L (OwnS v l) R):∀ h,sepL L h→∃ ad c,v=.slice ad l.length c∧l.length≤c∧c≤maxLen∧((ad=none∧c=0∧l.length=0)∨∃ g,ad=some ⟨g,0,none⟩):=fun h hs=>(own_shape p h hs).1
theorem FdMem.ok.mono {a:FdMem} {M:Res} {p:Pol} {retry n m:Nat} {s:FdSt} (h:a.ok M p retry n s) (hm:n≤m):a.ok M p retry m s:={ h with st:=h.st.mono hm }
theorem fOffer_spec (g:Nat) (p:Pol) (retry n:Nat) (s:FdSt) (vr vp vq:Value) (x:Sgd) (now:Nat) (hx:RdSgd R vr vp vq x) (hxf:x.fits) (ht:now≤10000000) (hn:n≤999000) :
 Ct prog 172 #[pt g,.agg (sgdC x vr vp vq).toArray,.int .i64 (now:Int)] e (FdR g p retry n s::R) (fun v' L'=>v'=.bool (decide (s.offB p x))∧L'=FdR g p retry (n+p.wits.length) (s.offS p x now)::R):=by
 refine fd_out fun a M ha=>?_
 have hmost:=ha.pr.most;have hfr:Ent (fdM g p retry s a M R) R:=zE;have hfm:Ent (fdM g p retry s a M R) [M]:=one_in zP;refine Ct.of_sep (RdB.one (hx.root.ent hfr)) fun o5=>?_
 refine Ct.of_sep (hx.sig.ent hfr).parts.one fun o6=>?_
 refine Ct.of_sep (hx.sig.ent hfr).path.one fun o7=>?_
 refine Ct.of_sep (RdB.one (ha.pol.log.ent hfm)) fun o8=>?_
 refine Ct.of_sep (ownS_shape (show Pull (fdM g p retry s a M R) (OwnS (.slice a.al s.st.length a.cl) s.st) _ from zP)) ?_;rintro ⟨ad',c',hv',hs3,hs4,hs5⟩
 cases hv'
 have hlen:=ha.st.len;have hpos:1≤s.st.length:=by have:=ha.pr.low;have:=ha.pr.high;omega
 rcases hs5 with ⟨-,-,hs5⟩|⟨gs,hal⟩
 ·omega
 refine Ct.enter (args:=[_,_,_]) func172 rfl ntmps172 results172 rfl ?_;have hga:FdMem.ok a M p retry n s:=ha
 (repeat' first|refine W.meet27 (id:=3) (fun j:Nat=>[(0,pt g),(2,.int .i64 (now:Int)),(4,pt j)]) (fun j=>Blk j (sgdC x vr vp vq) 87 (0,0)::fdM g p retry s a M R) (fun _=>s.offB p x) ?_ ?_|refine Zb ?_|apply Zc|apply Zd|apply Ze|apply Zf|refine Yg fun _=>?_|fail)
 rotate_left
 ·refine ⟨?_⟩;rename_i g4
  (repeat (refine wA ?_;intros))
  refine A.start (id:=1) [] mixed ?_
  (refine tM 0 ?_;refine tN 1 ?_;refine tF 2 ?_;refine tF 3 ?_;refine tL 4 ?_;refine tJ 5 ?_)
  refine tO 6 ?_;refine Do.call rfl rfl (cVerify_spec _ e a.vl vr vp vq p.log x (ha.pol.log.ent (one_in zP)) (hx.ent zE) hxf.1) ?_;rintro _ _ ⟨rfl,rfl⟩;refine ⟨fun _=>zE,A.regrow zE ?_⟩
  by_cases hb:s.offB p x
  rotate_left
  ·have hS:s.offS p x now=s:=by unfold FdSt.offS;rw [if_neg hb]
   rw [hS,decide_eq_false hb];have hin:=fd_in (R:=R) (g:=g) (ha.mono (m:=n+p.wits.length) zo)
   by_cases hv:x.ver p.log
   ·rw [decide_eq_true hv]
    obtain ⟨c,hc,hcs⟩:∃ c,s.cur=some c∧x.chk.size≤c.chk.size:=by
     by_cases h:∃ c,s.cur=some c∧x.chk.size≤c.chk.size
     ·exact h
     ·exact absurd ⟨hv,fun c hc hs=>h ⟨c,hc,hs⟩⟩ hb
    have hcv:s.curV=c:=by unfold FdSt.curV;rw [hc];rfl
    have hsm:s.cur.isSome=true:=by rw [hc];rfl
    dsimp only [fdM,FdMem.cells] at hin ⊢
    rw [hcv,hsm] at hin ⊢
    (refine tk 7 _ rfl (Val.not_t rfl) ?_;refine tM 8 ?_;refine tkG 9 _ rfl (Val.move rfl) ?_;refine tkG 10 _ rfl (Val.nilCheck rfl) ?_;refine tkG 11 _ rfl (Val.fieldAddr rfl) ?_;refine tkG 12 _ rfl (Val.load rfl zR) ?_;refine tkG 13 _ rfl (Val.move rfl) ?_;refine tkG 14 _ rfl (Val.fieldAddr rfl) ?_;refine tkG 15 _ rfl (Val.fieldAddr rfl) ?_;refine tkG 16 _ rfl (Val.load rfl zR) ?_;refine tkG 17 _ rfl (Val.move rfl) ?_;refine tkG 18 _ rfl (Val.nilCheck rfl) ?_;refine tkG 19 _ rfl (Val.fieldAddr rfl) ?_;refine tkG 20 _ rfl (Val.fieldAddr rfl) ?_;refine tkG 21 _ rfl (Val.fieldAddr rfl) ?_;refine tkG 22 _ rfl (Val.load rfl zR) ?_;refine tkG 23 (.bool true) rfl (Val.yes (Val.leq rfl rfl) zy) ?_;refine tkG 24 _ rfl (Val.pick_t rfl rfl) ?_;refine tk 25 _ rfl (Val.pick_f rfl rfl) ?_)
    refine A.done zK ?_;refine wB ?_;exact Fin.ret (FdR g p retry (n+p.wits.length) s::R) rfl (Ent.trans zE hin) ⟨rfl,rfl⟩
   ·rw [decide_eq_false hv]
    (refine tk 7 _ rfl (Val.not_f rfl) ?_;refine tM 8 ?_;refine A.takeN 9 rfl rfl zK zE rfl ?_;refine A.takeN 10 rfl rfl zK zE rfl ?_;refine A.takeN 11 rfl rfl zK zE rfl ?_;refine A.takeN 12 rfl rfl zK zE rfl ?_;refine A.takeN 13 rfl rfl zK zE rfl ?_;refine A.takeN 14 rfl rfl zK zE rfl ?_;refine A.takeN 15 rfl rfl zK zE rfl ?_;refine A.takeN 16 rfl rfl zK zE rfl ?_;refine A.takeN 17 rfl rfl zK zE rfl ?_;refine A.takeN 18 rfl rfl zK zE rfl ?_;refine A.takeN 19 rfl rfl zK zE rfl ?_;refine A.takeN 20 rfl rfl zK zE rfl ?_;refine A.takeN 21 rfl rfl zK zE rfl ?_;refine A.takeN 22 rfl rfl zK zE rfl ?_;refine A.takeN 23 rfl rfl zK zE rfl ?_;refine A.takeN 24 rfl rfl zK zE rfl ?_;refine tk 25 _ rfl (Val.pick_t rfl rfl) ?_)
    refine A.done zK ?_;refine wB ?_;exact Fin.ret (FdR g p retry (n+p.wits.length) s::R) rfl (Ent.trans (show Ent _ (fdM g p retry s a M R) from zE) hin) ⟨rfl,rfl⟩
  rw [decide_eq_true hb.1]
  cases hc:s.cur with
  | none =>
   have hsm:s.cur.isSome=false:=by rw [hc];rfl
   dsimp only [fdM,FdMem.cells];rw [hsm]
   (refine tk 7 _ rfl (Val.not_t rfl) ?_;refine tM 8 ?_;refine tkG 9 _ rfl (Val.move rfl) ?_;refine tkG 10 _ rfl (Val.nilCheck rfl) ?_;refine tkG 11 _ rfl (Val.fieldAddr rfl) ?_;refine tkG 12 _ rfl (Val.load rfl zR) ?_;refine tkG 13 _ rfl (Val.move rfl) ?_;refine A.takeN 14 rfl rfl zK zE rfl ?_;refine A.takeN 15 rfl rfl zK zE rfl ?_;refine A.takeN 16 rfl rfl zK zE rfl ?_;refine A.takeN 17 rfl rfl zK zE rfl ?_;refine A.takeN 18 rfl rfl zK zE rfl ?_;refine A.takeN 19 rfl rfl zK zE rfl ?_;refine A.takeN 20 rfl rfl zK zE rfl ?_;refine A.takeN 21 rfl rfl zK zE rfl ?_;refine A.takeN 22 rfl rfl zK zE rfl ?_;refine A.takeN 23 rfl rfl zK zE rfl ?_;refine tkG 24 _ rfl (Val.pick_f rfl rfl) ?_;refine tk 25 _ rfl (Val.pick_f rfl rfl) ?_)
   refine A.done zK ?_;refine wB ?_;exact Fin.meet g4 hb zS zE
  | some c =>
   have hcv:s.curV=c:=by unfold FdSt.curV;rw [hc];rfl
   have hsm:s.cur.isSome=true:=by rw [hc];rfl
   have hcs:=hb.2 c hc;dsimp only [fdM,FdMem.cells];rw [hcv,hsm]
   (refine tk 7 _ rfl (Val.not_t rfl) ?_;refine tM 8 ?_;refine tkG 9 _ rfl (Val.move rfl) ?_;refine tkG 10 _ rfl (Val.nilCheck rfl) ?_;refine tkG 11 _ rfl (Val.fieldAddr rfl) ?_;refine tkG 12 _ rfl (Val.load rfl zR) ?_;refine tkG 13 _ rfl (Val.move rfl) ?_;refine tkG 14 _ rfl (Val.fieldAddr rfl) ?_;refine tkG 15 _ rfl (Val.fieldAddr rfl) ?_;refine tkG 16 _ rfl (Val.load rfl zR) ?_;refine tkG 17 _ rfl (Val.move rfl) ?_;refine tkG 18 _ rfl (Val.nilCheck rfl) ?_;refine tkG 19 _ rfl (Val.fieldAddr rfl) ?_;refine tkG 20 _ rfl (Val.fieldAddr rfl) ?_;refine tkG 21 _ rfl (Val.fieldAddr rfl) ?_;refine tkG 22 _ rfl (Val.load rfl zR) ?_;refine tkG 23 (.bool false) rfl (Val.no (Val.leq rfl rfl) zn) ?_;refine tkG 24 _ rfl (Val.pick_t rfl rfl) ?_;refine tk 25 _ rfl (Val.pick_f rfl rfl) ?_)
   refine A.done zK ?_;refine wB ?_;exact Fin.meet g4 hb zS zE
 rintro g4 hb;have hS:s.offS p x now=FdSt.offN now s.st.length { s with cur:=some x,kept:=[] }:=by unfold FdSt.offS;rw [if_pos hb]
 rw [hS,decide_eq_true hb];have hok0:=FdSt.off0_ok ha.st hxf hb;refine wB ?_;refine O.call rfl rfl (cCopy_spec _ e vr vp vq x (hx.ent zE) hxf.2.fits) ?_;rintro _ _ ⟨N,ur,up,uq,rfl,hN,rfl⟩;refine O.of_sep (RdB.one (hN.root.ent (one_in zP))) fun o9=>?_
 refine O.of_sep (hN.sig.ent (one_in zP)).parts.one fun o10=>?_
 refine O.of_sep (hN.sig.ent (one_in zP)).path.one fun o11=>?_
 refine wB ?_;obtain ⟨s1,hs1⟩:∃ s1:FdSt,s1={ s with cur:=some x,kept:=[] }:=⟨_,rfl⟩
 rw [← hs1] at hok0 ⊢
 have hk1:s1.kept=[]:=by rw [hs1]
 have hst1:s1.st=s.st:=by rw [hs1]
 have hl1:s1.st.length=p.wits.length:=by rw [hst1];exact hlen
 have hcv1:s1.curV=x:=by rw [hs1];rfl
 have hsm1:s1.cur.isSome=true:=by rw [hs1];rfl
 have hdn1:s1.done=s.done:=by rw [hs1]
 have hen1:s1.enough=s.enough:=by rw [hs1]
 have hoN:=fun (j:Nat) (hj:j≤p.wits.length)=>FdSt.offN_ok (now:=now) (k:=p.wits.length) zo zo j hok0 hk1 hj zo
 have hoD:∀ j,(FdSt.offN now j s1).done=s1.done∧(FdSt.offN now j s1).enough=s1.enough:=fun j=>by
  induction j with
  | zero=>exact ⟨rfl,rfl⟩
  | succ j ih=>exact ih
 obtain ⟨C,hC⟩:∃ C:List Value,C=FdMem.cells { a with ur:=ur,up:=up,uq:=uq,ak:=none,ck:=0,ts:=[] } p retry s1:=⟨_,rfl⟩
 have hCg:C[4]?=some (pt a.ga):=by rw [hC];rfl
 have hCs:C[5]?=some (.slice a.al s.st.length a.cl):=by rw [hC,← hst1];rfl
 refine W.loop (ι:=Nat) (fun j=>[(0,pt g),(2,.int .i64 (now:Int)),(49,.int .i64 (s.st.length:Int)),(50,.int .i64 (j:Int))]) (fun j=>Blk g C tFd (0,0)::N::M::Own tFw 3 (.slice a.al s.st.length a.cl) s.st.length ((FdSt.offN now j s1).st.flatMap FW.cells)::Agd a.ga (FdSt.offN now j s1).ord (FdSt.offN now j s1).ag::R) (fun j=>j≤s.st.length) (fun j=>s.st.length - j) 0 (Nat.zero_le _) zS ?_ ?_
 ·dsimp only [FdSt.offN];rw [hst1,hC];have e1:s1.ord=s.ord:=by rw [hs1]
  have e2:s1.ag=s.ag:=by rw [hs1]
  rw [e1,e2];dsimp only [FdMem.cells];rw [hcv1,hsm1,hst1,hdn1];exact zE
 rintro j hj
 by_cases hlt:j<s.st.length
 rotate_left
 ·have hje:j=s.st.length:=by omega
  subst hje;rw [hlen];obtain ⟨q1,q2,q3,q4⟩:=hoN p.wits.length (Nat.le_refl _);obtain ⟨q5,q6⟩:=hoD p.wits.length;have hq7:(FdSt.offN now p.wits.length s1).curV=x:=by unfold FdSt.curV;rw [q4];exact hcv1
  have hall:Ent [All [M,N]] [M]:=Ent.trans (all_out (M:=[_,_]) (L:=[])) (Ent.cons Ent.nil);have hall2:Ent [All [M,N]] [N]:=Ent.trans (all_out (M:=[_,_]) (L:=[])) (Ent.drop (Ent.cons Ent.nil))
  have hokF:FdMem.ok { a with ur:=ur,up:=up,uq:=uq,ak:=none,ck:=0,ts:=[] } (All [M,N]) p retry (n+p.wits.length) (FdSt.offN now p.wits.length s1) :=
   ⟨ha.pol.ent hall,by rw [hq7];exact hN.ent hall2,by rw [q2];rfl,fun t ht=>absurd ht List.not_mem_nil,by rw [q5,hdn1];exact ha.done.ent hall,by rw [q6,hen1];exact ha.enough.ent hall,q1,ha.pr,ha.low,ha.high⟩
  refine wB ?_;refine Fin.ret (FdR g p retry (n+p.wits.length) (FdSt.offN now p.wits.length s1)::R) rfl (Ent.trans (Ent.trans (own_nil tCsg 4) ?_) (fd_in hokF)) ⟨rfl,rfl⟩;dsimp only [fdM,FdMem.cells,OwnS];rw [hq7,q4,q5,q3,hC];dsimp only [FdMem.cells];rw [hcv1,hl1];exact Ent.trans (pull2_all (A:=M) (B:=N) zP zP) zE
 obtain ⟨q1,q2,q3,q4⟩:=hoN j zo;have hsj:(FdSt.offN now j s1).st.length=s.st.length:=by rw [q3,hst1]
 have hlj:j<(FdSt.offN now j s1).st.length:=by omega
 have hst:=fw_off hlj;have hnx:FdSt.offN now (j+1) s1=(FdSt.offN now j s1).off1 now j:=rfl
 generalize FdSt.offN now j s1=sj at *
 rw [hal] at hCs ⊢
 have hag:=q1.aglen;have hR1:∀ (L R':List Res),Pull L (Blk g C tFd (0,0)) R'→Rd L ⟨g,0+5,none⟩ (.slice (some ⟨gs,0,none⟩) s.st.length a.cl):=fun L R' pl=>by rw [Nat.zero_add];exact Rd.blk pl (by rw [nth_eq];exact hCs)
 have hR2:∀ (L R':List Res),Pull L (Blk g C tFd (0,0)) R'→Rd L ⟨g,4,none⟩ (pt a.ga):=fun L R' pl=>Rd.blk pl (by rw [nth_eq];exact hCg)
 have hR3:=hR1 (Blk g C tFd (0,0)::R) R .zero;refine wB ?_;refine A.begin (id:=7) [13,14,15] (Blk g C tFd (0,0)::R) mixed ?_
 (refine tM 0 ?_;refine tN 1 ?_;refine tF 2 ?_;refine tL 3 ?_;refine tM 4 ?_;refine tM 5 ?_;refine tN 6 ?_;refine tF 7 ?_;refine tL 8 ?_;refine tM 9 ?_;refine tk 10 _ rfl (Val.indexAddrN rfl rfl zo) ?_;refine tF 11 ?_)
 refine tO 12 ?_;refine Do.storeOwn rfl rfl rfl zP zo ⟨fun _=>zE,?_⟩;refine tO 13 ?_;refine Do.val (Val.indexAddrN rfl rfl hlt) rfl ⟨zN,?_⟩;refine tO 14 ?_;refine dV (Val.fieldAddr rfl) ?_;refine tO 15 ?_;refine Do.storeOwn rfl rfl rfl .zero zo ⟨zN,?_⟩;rw [Nat.zero_add,hst];refine A.done zK ?_;refine wB ?_;have hfit:∀ y∈sj.ag,y.fits:=fun y hy=>(q1.fits y hy).1
 refine O.call rfl rfl (Ct.at zP (fplan_spec _ e g a.ga sj.ord now j sj.ag (hR2 _ _ zP) hfit zo zo (by have:=q1.ord;omega) zo)) ?_;rintro _ _ ⟨rfl,rfl⟩;refine wB ?_;refine Fin.round (j+1) hlt zo zS ?_;rw [hnx];exact zE
abbrev tReq:TypeId:=265
abbrev reqC (r:Nat × Nat):List Value:=[.int .i64 (r.1:Int),.int .i64 (r.2:Int)]
theorem req2 (r:Nat × Nat):(reqC r).length=2:=rfl
abbrev OwnQ (v:Value) (l:List (Nat × Nat)):Res:=Own tReq 2 v l.length (l.flatMap reqC)
theorem stepL_snoc (retry now:Nat) (r:Nat × Nat):∀ (l:List (Nat × Nat)) (s:FdSt),FdSt.stepL retry now (l++[r]) s=(FdSt.stepL retry now l s).step1 retry now r.1
 | [],_=>rfl
 | x::l,s=>stepL_snoc retry now r l (s.step1 retry now x.1)
theorem stepL_same (retry now:Nat):∀ (l:List (Nat × Nat)) (s:FdSt),(FdSt.stepL retry now l s).cur=s.cur∧(FdSt.stepL retry now l s).kept=s.kept∧(FdSt.stepL retry now l s).done=s.done∧(FdSt.stepL retry now l s).enough=s.enough∧(FdSt.stepL retry now l s).st.length=s.st.length
 | [],_=>⟨rfl,rfl,rfl,rfl,rfl⟩
 | x::l,s=>by
  obtain ⟨h1,h2,h3,h4,h5⟩:=stepL_same retry now l (s.step1 retry now x.1);refine ⟨h1,h2,h3,h4,h5.trans ?_⟩
  show (List.set _ _ _).length=_
  rw [List.length_set];rfl
theorem shl3 {retry tries:Nat} (h:retry≤100):IntKind.i64.wrap ((retry:Int)*2 ^ (min (if (3:Int)<(tries:Int) then (3:Int) else (tries:Int)).toNat IntKind.i64.bits))=((retry*2 ^ min tries 3:Nat):Int):=by
 have h1:(if (3:Int)<(tries:Int) then (3:Int) else (tries:Int)).toNat=min tries 3:=by split<;>omega
 have h2:min (min tries 3) IntKind.i64.bits=min tries 3:=Nat.min_eq_left (by have:IntKind.i64.bits=64:=rfl;omega);have h3:=Nat.mul_le_mul h (pow3_le (n:=tries));rw [h1,h2,show (2:Int) ^ min tries 3=((2 ^ min tries 3:Nat):Int) by simp,← Int.natCast_mul];exact wrap_i64 zo zo
end Go.Proofs
namespace Go.Proofs
attribute [local irreducible] Bs.Val Bs.Do Bs.O Bs.W Bs.Fin Bs.A Bs.Ct Bs.RdSl Bs.Rd Bs.Sat Bs.Blk Bs.Ob Bs.Own Bs.View Bs.Ent Bs.Ex Bs.All Bs.Pu Bs.Base Bs.sepL Bs.RdA
open Go.Bs
open Tryz
variable (R:List Res) (e:World)
theorem fdStep_spec (g:Nat) (p:Pol) (retry n:Nat) (s:FdSt) (now:Nat) (ht:now≤10000000) (hn:n≤999000) :
 Ct prog 174 #[pt g,.int .i64 (now:Int)] e (FdR g p retry n s::R) (fun v' L'=>∃ ad c,v'=.slice ad (s.reqs now).length c∧L'=OwnQ (.slice ad (s.reqs now).length c) (s.reqs now)::FdR g p retry (n+p.wits.length) (s.stepS retry now)::R):=by
 refine fd_out fun a M ha=>?_
 have hmost:=ha.pr.most;refine Ct.of_sep (ownS_shape (show Pull (fdM g p retry s a M R) (OwnS (.slice a.al s.st.length a.cl) s.st) _ from zP)) ?_;rintro ⟨ad',c',hv',hs3,hs4,hs5⟩
 cases hv'
 have hlen:=ha.st.len;have hpos:1≤s.st.length:=by have:=ha.pr.low;have:=ha.pr.high;omega
 rcases hs5 with ⟨-,-,hs5⟩|⟨gs,hal⟩
 ·omega
 obtain ⟨hok0,hreq,hrl⟩:=FdSt.due_ok (now:=now) ha.st;obtain ⟨C,hC⟩:∃ C:List Value,C=FdMem.cells a p retry s:=⟨_,rfl⟩
 have hC3:C[3]?=some (.int .i64 (retry:Int)):=by rw [hC];rfl
 have hCg:C[4]?=some (pt a.ga):=by rw [hC];rfl
 have hCs:C[5]?=some (.slice (some ⟨gs,0,none⟩) s.st.length a.cl):=by rw [hC,← hal];rfl
 have hR0:∀ (L R':List Res),Pull L (Blk g C tFd (0,0)) R'→Rd L ⟨g,0+3,none⟩ (.int .i64 (retry:Int)):=fun L R' pl=>by rw [Nat.zero_add];exact Rd.blk pl (by rw [nth_eq];exact hC3)
 have hR1:∀ (L R':List Res),Pull L (Blk g C tFd (0,0)) R'→Rd L ⟨g,0+5,none⟩ (.slice (some ⟨gs,0,none⟩) s.st.length a.cl):=fun L R' pl=>by rw [Nat.zero_add];exact Rd.blk pl (by rw [nth_eq];exact hCs)
 have hR2:∀ (L R':List Res),Pull L (Blk g C tFd (0,0)) R'→Rd L ⟨g,4,none⟩ (pt a.ga):=fun L R' pl=>Rd.blk pl (by rw [nth_eq];exact hCg)
 have hR3:∀ (L R':List Res),Pull L (Blk g C tFd (0,0)) R'→Rd L ⟨g,0+4,none⟩ (pt a.ga):=fun L R' pl=>by rw [Nat.zero_add];exact hR2 L R' pl
 dsimp only [fdM];rw [← hC,hal];refine Ct.enter (args:=[_,_]) func174 rfl ntmps174 results174 rfl ?_;refine wB ?_;refine W.loop (ι:=List AE × List Nat × Option Addr × Nat) (fun j=>[(0,pt g),(1,.int .i64 (now:Int)),(5,.slice j.2.2.1 j.2.1.length j.2.2.2)]) (fun j=>OwnQ (.slice j.2.2.1 j.2.1.length j.2.2.2) (j.2.1.map fun w=>(w,(s.st.getD w fwZ).size))::Agd a.ga s.ord j.1::Blk g C tFd (0,0)::M::OwnS (.slice (some ⟨gs,0,none⟩) s.st.length a.cl) s.st::OwnG (.slice a.ak a.ts.length a.ck) a.ts::R) (fun j=>(∀ y∈j.1,y.fits∧y.what<p.wits.length)∧j.1.length≤4∧j.2.1.length+j.1.length≤4∧dueA now s.ag.length s.ag=(j.2.1++(dueA now j.1.length j.1).1,(dueA now j.1.length j.1).2)) (fun j=>j.1.length) (s.ag,[],none,0) ⟨ha.st.fits,by have:=ha.st.aglen;dsimp only;omega,by have:=ha.st.aglen;dsimp only [List.length_nil];omega,rfl⟩ zS (Ent.trans (own_nil tReq 2) zE) ?_;rintro ⟨l,ws,ado,co⟩ ⟨h1,h2,h3,h4⟩;dsimp only at h1 h2 h3 h4 ⊢
 by_cases hdue:0<l.length∧((l.getD 0 ae0).at':Int)≤(now:Int)
 ·have hne:l≠[]:=fun q=>by rw [q] at hdue;simp at hdue
  have hpp:=hPop_perm hne;have hpl:=hPop_length hne;have hww:(l.getD 0 ae0).what<p.wits.length:=(h1 _ (hpp.mem_iff.1 (List.mem_cons_self ..))).2;obtain ⟨m,hm⟩:∃ m,l.length=m+1:=⟨l.length - 1,by omega⟩
  have hd:dueA now l.length l=((l.getD 0 ae0).what::(dueA now (hPop l).length (hPop l)).1,(dueA now (hPop l).length (hPop l)).2):=by
   rw [hm,show (hPop l).length=m by omega]
   conv=>lhs;unfold dueA
   rw [if_pos ⟨hdue.1,by omega⟩]
  rw [hd] at h4
  have hdu:=adue_spec (Blk g C tFd (0,0)::OwnQ (.slice ado ws.length co) (ws.map fun w=>(w,(s.st.getD w fwZ).size))::M::OwnS (.slice (some ⟨gs,0,none⟩) s.st.length a.cl) s.st::OwnG (.slice a.ak a.ts.length a.ck) a.ts::R) e a.ga s.ord l (now:Int) (fun y hy=>(h1 y hy).1) zo
  generalize (l.getD 0 ae0).what=w at *
  have hwl:w<s.st.length:=by omega
  have hgd:=getD_fw hwl;obtain ⟨z,hz⟩:∃ z,z=(s.st.getD w fwZ).size:=⟨_,rfl⟩
  have hra:∀ (L R':List Res),Pull L (OwnS (.slice (some ⟨gs,0,none⟩) s.st.length a.cl) s.st) R'→Rd L ⟨gs,0+w*3+0,none⟩ (.int .i64 (z:Int)):=fun L R' pl=>by
   have:=RdA.elem (RdSl.own pl) fw3 (List.getElem?_eq_getElem hwl);rw [hz,hgd];exact this.at0 (k:=0) rfl
  (repeat' first|(refine O.load rfl (hR3 _ _ zP) rfl ?_)|refine Za ?_|apply Zc|apply Zd|refine Zg ?_|refine Zh ?_|apply YB)
  refine O.call rfl rfl (hdu.ent zE) ?_;rintro _ _ (⟨hno,-,-⟩|⟨-,-,rfl,rfl⟩)
  ·exact absurd hdue hno
  (repeat' first|(refine O.load rfl (hR1 _ _ zP) rfl ?_)|(refine O.load rfl (hra _ _ zP) rfl ?_)|refine Za ?_|refine Zb ?_|apply Zc|apply Zd|apply Ze|apply Zf|refine Zg ?_|refine Zh ?_|refine Zy ?_|refine Ye ?_|refine Yi fun _=>?_|refine Yx ?_|refine YA ?_|apply YC|refine YN ?_|fail)
  refine O.do (Do.append rfl rfl rfl (show Pull _ (Own tReq 2 (.slice ado ws.length co) _ _) _ from zP) (RdSl.blkN (n:=2) (c:=1) zP rfl zl) rfl rfl zO (by simp only [maxLen,List.length_map];omega) (by rw [List.length_map];omega) fun ad1 k1 _=>?_)
  refine wB ?_;refine Fin.round (hPop l,ws++[w],ad1,k1) ⟨fun y hy=>h1 y (hpp.mem_iff.1 (List.mem_cons_of_mem _ hy)),by dsimp only;omega,by dsimp only;rw [List.length_append,List.length_singleton];omega,by dsimp only;rw [h4,List.append_assoc];rfl⟩ zd ?_ ?_
  ·simp only [List.length_append,List.length_singleton,List.length_map];exact zS
  ·simp only [OwnQ,List.map_append,List.map_cons,List.map_nil,List.flatMap_append,List.flatMap_cons,List.flatMap_nil,List.append_nil,List.length_append,List.length_singleton,List.length_map,← hz];exact zE
 have hdn:dueA now l.length l=([],l):=by
  cases hm:l.length with
  | zero=>rfl
  | succ m=>unfold dueA;rw [if_neg (fun q=>hdue ⟨by omega,by omega⟩)]
 rw [hdn] at h4
 rw [List.append_nil] at h4
 have hrq:s.reqs now=ws.map fun w=>(w,(s.st.getD w fwZ).size):=by unfold FdSt.reqs;rw [h4]
 have hag2:(dueA now s.ag.length s.ag).2=l:=by rw [h4]
 have hstS:s.stepS retry now=FdSt.stepL retry now (s.reqs now) { s with ag:=l }:=by unfold FdSt.stepS;rw [hag2]
 rw [hag2] at hok0
 have hwl:ws.length=(s.reqs now).length:=by rw [hrq,List.length_map]
 rw [hstS,hwl];rw [← hrq];have hdu:=adue_spec (Blk g C tFd (0,0)::OwnQ (.slice ado (s.reqs now).length co) (s.reqs now)::M::OwnS (.slice (some ⟨gs,0,none⟩) s.st.length a.cl) s.st::OwnG (.slice a.ak a.ts.length a.ck) a.ts::R) e a.ga s.ord l (now:Int) (fun y hy=>(h1 y hy).1) zo
 generalize s.reqs now=rq at *
 (repeat' first|(refine O.load rfl (hR3 _ _ zP) rfl ?_)|refine Za ?_|apply Zc|apply Zd|refine Zg ?_|refine Zh ?_|apply YB)
 refine O.call rfl rfl (hdu.ent zE) ?_;rintro _ _ (⟨-,rfl,rfl⟩|⟨q1,q2,-,-⟩)
 rotate_left
 ·exact absurd ⟨q1,q2⟩ hdue
 refine wB ?_;obtain ⟨s0,hs0⟩:∃ s0:FdSt,s0={ s with ag:=l }:=⟨_,rfl⟩
 rw [← hs0] at hok0 ⊢
 have hsl:=fun i=>FdSt.stepL_ok (retry:=retry) (now:=now) (k:=p.wits.length) ha.high zo zo (rq.take i) hok0 (fun r hr=>(hreq r (List.mem_of_mem_take hr)).1) (by rw [List.length_take];omega)
 have hsm:=fun i=>stepL_same retry now (rq.take i) s0
 refine W.loop (ι:=Nat) (fun j=>[(0,pt g),(1,.int .i64 (now:Int)),(5,.slice ado rq.length co),(35,.slice ado rq.length co),(36,.int .i64 (rq.length:Int)),(37,.int .i64 (j:Int))]) (fun j=>OwnQ (.slice ado rq.length co) rq::Agd a.ga (FdSt.stepL retry now (rq.take j) s0).ord (FdSt.stepL retry now (rq.take j) s0).ag::Blk g C tFd (0,0)::M::Own tFw 3 (.slice (some ⟨gs,0,none⟩) s.st.length a.cl) s.st.length ((FdSt.stepL retry now (rq.take j) s0).st.flatMap FW.cells)::OwnG (.slice a.ak a.ts.length a.ck) a.ts::R) (fun j=>j≤rq.length) (fun j=>rq.length - j) 0 (Nat.zero_le _) zS ?_ ?_
 ·dsimp only [List.take_zero,FdSt.stepL];rw [hs0];exact zE
 rintro j hj
 by_cases hlt:j<rq.length
 rotate_left
 ·rw [List.take_of_length_le zo];obtain ⟨w1,w2⟩:=hsl rq.length;obtain ⟨v1,v2,v3,v4,v5⟩:=hsm rq.length;rw [List.take_of_length_le (Nat.le_refl _)] at w1 w2 v1 v2 v3 v4 v5
  have hcv:(FdSt.stepL retry now rq s0).curV=s.curV:=by rw [w2,hs0];rfl
  have hokF:FdMem.ok a M p retry (n+p.wits.length) (FdSt.stepL retry now rq s0) :=
   ⟨ha.pol,by rw [hcv];exact ha.cur,by rw [v2,hs0];exact ha.kts,ha.kok,by rw [v3,hs0];exact ha.done,by rw [v4,hs0];exact ha.enough,w1.mono zo,ha.pr,ha.low,ha.high⟩
  refine wB ?_;refine Fin.ret (OwnQ (.slice ado rq.length co) rq::FdR g p retry (n+p.wits.length) (FdSt.stepL retry now rq s0)::R) rfl (Ent.trans ?_ (Ent.cons (fd_in hokF))) ⟨ado,co,rfl,rfl⟩;dsimp only [fdM,FdMem.cells,OwnS];rw [hcv,v1,v3,v5,hal,hC,hs0];dsimp only [FdMem.cells];rw [hal];exact zE
 have htk:rq.take (j+1)=rq.take j++[rq[j]'hlt]:=List.take_succ_eq_append_getElem hlt;have hnx:FdSt.stepL retry now (rq.take (j+1)) s0=(FdSt.stepL retry now (rq.take j) s0).step1 retry now (rq[j]'hlt).1:=by rw [htk,stepL_snoc]
 have hrw:=(hreq _ (List.getElem_mem hlt)).1;obtain ⟨w1,w2⟩:=hsl j;obtain ⟨-,-,-,-,v5⟩:=hsm j;have hsj:(FdSt.stepL retry now (rq.take j) s0).st.length=s.st.length:=by rw [v5,hs0]
 have hlq:(rq.take j).length≤4:=by rw [List.length_take];omega
 generalize FdSt.stepL retry now (rq.take j) s0=sj at *
 refine W.of_sep ((RdSl.own (show Pull _ (OwnQ (.slice ado rq.length co) rq) _ from zP)).shape zo) ?_;rintro ⟨⟨ad',c',hv',h3',h4',h5',h6'⟩,_⟩
 cases hv'
 rcases h6' with h6'|⟨gq,oq,rfl⟩
 ·omega
 have hrq2:∀ (L R':List Res),Pull L (OwnQ (.slice (some ⟨gq,oq,none⟩) rq.length co) rq) R'→RdA L gq (oq+j*2) (reqC (rq[j]'hlt)):=fun L R' pl=>RdA.elem (RdSl.own pl) req2 (List.getElem?_eq_getElem hlt)
 generalize rq[j]'hlt=r at *
 obtain ⟨w,z⟩:=r;dsimp only at hrw hrq2 hnx
 dsimp only [reqC] at hrq2
 have hwl2:w<sj.st.length:=by omega
 obtain ⟨OS,hOS⟩:∃ OS:List Res,OS=Own tFw 3 (.slice (some ⟨gs,0,none⟩) s.st.length a.cl) s.st.length (sj.st.flatMap FW.cells)::OwnG (.slice a.ak a.ts.length a.ck) a.ts::R:=⟨_,rfl⟩
 have hgd:=getD_fw hwl2;obtain ⟨tr,htr⟩:∃ tr,tr=(sj.st.getD w fwZ).tries:=⟨_,rfl⟩
 have hrt:Rd (Own tFw 3 (.slice (some ⟨gs,0,none⟩) s.st.length a.cl) s.st.length (sj.st.flatMap FW.cells)::OwnG (.slice a.ak a.ts.length a.ck) a.ts::R) ⟨gs,0+w*3+1,none⟩ (.int .i64 (tr:Int)):=by
  have:=RdA.elem (RdSl.own (show Pull (Own tFw 3 (.slice (some ⟨gs,0,none⟩) s.st.length a.cl) s.st.length (sj.st.flatMap FW.cells)::OwnG (.slice a.ak a.ts.length a.ck) a.ts::R) _ _ from .zero)) fw3 (List.getElem?_eq_getElem hwl2);rw [htr,hgd];exact this.at0 (k:=1) rfl
 have hb1:=hR1 (Blk g C tFd (0,0)::M::Own tFw 3 (.slice (some ⟨gs,0,none⟩) s.st.length a.cl) s.st.length (sj.st.flatMap FW.cells)::OwnG (.slice a.ak a.ts.length a.ck) a.ts::R) _ .zero;have hb0:=hR0 (Blk g C tFd (0,0)::M::Own tFw 3 (.slice (some ⟨gs,0,none⟩) s.st.length a.cl) s.st.length (sj.st.flatMap FW.cells)::OwnG (.slice a.ak a.ts.length a.ck) a.ts::R) _ .zero;have hsh:=shl3 (retry:=retry) (tries:=tr) ha.high;have hp3:=Nat.mul_le_mul ha.high (pow3_le (n:=tr));have htr2:tr≤1000000:=by rw [htr];have:=w1.tries _ (fw_mem hwl2);omega
 (repeat' first|(refine O.loadAggR rfl (hrq2 _ _ zP) rfl rfl ?_)|apply Zc|apply Zd|apply Ze|apply Zf|refine ZA ?_|refine Yh fun _=>?_|refine Yx ?_|refine Yz ?_|apply YB|apply YC|refine YR ?_|fail)
 rename_i g9;refine A.start (id:=8) [7] mixed ?_
 (refine tM 0 ?_;refine tN 1 ?_;refine tF 2 ?_;refine tL 3 ?_;refine tF 4 ?_;refine tL 5 ?_;refine tk 6 _ rfl (Val.indexAddrN rfl rfl zo) ?_;(refine tO 7 ?_;refine dV (Val.assign rfl) ?_))
 refine A.done zK ?_;refine wB ?_;refine A.begin (id:=9) [] (Blk g9 [.int .i64 (w:Int),.int .i64 (z:Int)] tReq (0,0)::Blk g C tFd (0,0)::M::Own tFw 3 (.slice (some ⟨gs,0,none⟩) s.st.length a.cl) s.st.length (sj.st.flatMap FW.cells)::OwnG (.slice a.ak a.ts.length a.ck) a.ts::R) mixed ?_
 (refine tM 0 ?_;refine tM 1 ?_;refine tM 2 ?_;refine tN 3 ?_;refine tF 4 ?_;refine tL 5 ?_;refine tM 6 ?_;refine tN 7 ?_;refine tF 8 ?_;refine tL 9 ?_;refine tk 10 _ rfl (Val.min rfl rfl) ?_)
 refine A.take 11 (.int .i64 ((retry*2 ^ min tr 3:Nat):Int)) rfl zK zE (hsh ▸ Val.shl rfl rfl (by split<;>omega)) rfl ?_
 (refine tk 12 _ rfl (Val.add64 rfl rfl zo) ?_;refine tF 13 ?_;refine tL 14 ?_)
 have hpw:2 ^ min tr 3*retry≤800:=by rw [Nat.mul_comm];omega
 refine tO 15 ?_;have hfit:∀ y∈sj.ag,y.fits:=fun y hy=>(w1.fits y hy).1
 have hagl:=w1.aglen;have hordl:=w1.ord;refine Do.call rfl rfl (Ct.at zP (fplan_spec _ e g a.ga sj.ord (now+retry*2 ^ min tr 3) w sj.ag (hR2 _ _ zP) hfit zo zo zo zo)) ?_;rintro _ _ ⟨rfl,rfl⟩;refine ⟨fun _=>zE,?_⟩;refine A.done zK ?_;have hset:=fw_tries hwl2 (tr+1)
 have hset2:(sj.st.flatMap FW.cells).set (0+w*3+1) (.int .i64 ((tr:Int)+1))=(FdSt.stepL retry now (rq.take (j+1)) s0).st.flatMap FW.cells:=by
  rw [Nat.zero_add,hnx,show ((tr:Int)+1)=((tr+1:Nat):Int) by omega,hset,htr]
  rfl
 have hag2:(FdSt.stepL retry now (rq.take (j+1)) s0).ag=hPush (cancelA sj.ag w) ⟨now+retry*2 ^ min tr 3,sj.ord,w⟩:=by rw [hnx,htr];rfl
 have hord2:(FdSt.stepL retry now (rq.take (j+1)) s0).ord=sj.ord+1:=by rw [hnx];rfl
 refine wB ?_;rw [hset2];refine Fin.round (j+1) hlt zo zS ?_;rw [hag2,hord2];exact zE
theorem GAt.ones {L:List Res} {ts:List GAt} (h:∀ t∈ts,GAt.ok L t):∀ x,sepL L x→∀ c∈ts.flatMap GAt.cells,c.oneCell'=true:=fun x hx=>flatN_ones fun t ht c hc=>by
 have h1:=(h t ht).rd.parts.one x hx;have h2:=(h t ht).rd.path.one x hx;simp only [GAt.cells,List.mem_cons,List.not_mem_nil,or_false] at hc
 rcases hc with rfl|rfl|rfl|rfl
 ·rfl
 ·rfl
 ·exact h1
 ·exact h2
theorem cloneG_spec (v:Value) (l:List GAt) (h:RdSl R 4 v l.length (l.flatMap GAt.cells)) (h1:∀ t∈l,GAt.ok R t) (hl:l.length≤100000) :
 Ct prog 310 #[v] e R (fun v' L'=>∃ ad c,v'=.slice ad l.length c∧L'=OwnG (.slice ad l.length c) l::R):=by
 refine Ct.of_sep (GAt.ones h1) fun ho=>?_
 refine Ct.of_sep (h.shape zo) ?_;rintro ⟨⟨ad,cap,rfl,h3,h4,h5,h6⟩,_⟩;refine Ct.enter (args:=[_]) func310 rfl ntmps310 results310 rfl ?_
 cases ad with
 | none =>
  have hl0:l=[]:=by
   have:=h5 rfl;exact List.eq_nil_of_length_eq_zero zo
  subst hl0;refine wB ?_;exact Fin.ret _ rfl (own_nil _ _) ⟨_,_,rfl,rfl⟩
 | some a =>
  (repeat (refine wA ?_;intros))
  refine O.ent1 (own_in (n:=4) (k:=0) (cap:=0) zo zl rfl) ?_;refine O.do (Do.append rfl rfl rfl .zero h rfl rfl ho zm zo fun ad' c' hv'=>?_)
  refine wB ?_;refine Fin.ret _ rfl ?_ ⟨ad',c',by simp [tup],rfl⟩;simp only [Nat.zero_add];exact Ent.rfl
theorem fdKeep_spec (g:Nat) (p:Pol) (retry n:Nat) (s:FdSt) (w:Nat) (vp vq:Value) (x:Csg) (hx:RdSig R vp vq x.sig) (hw:x.wit=w) (hr:x.sig.right) (hh:s.hears w) :
 Ct prog 291 #[pt g,.int .i64 (w:Int),.agg (csgC x vp vq).toArray] e (FdR g p retry n s::R) (fun v' L'=>v'=.tuple #[]∧L'=FdR g p retry n (s.keep p w x)::R):=by
 refine fd_out fun a M ha=>?_
 have hmost:=ha.pr.most;have hfr:Ent (fdM g p retry s a M R) R:=zE;refine Ct.of_sep (hx.ent hfr).parts.one fun o6=>?_
 refine Ct.of_sep (hx.ent hfr).path.one fun o7=>?_
 have hfm:Ent (fdM g p retry s a M R) [M]:=one_in zP;refine Ct.of_sep (RdB.one (ha.cur.root.ent hfm)) fun o10=>?_
 refine Ct.of_sep (ha.cur.sig.ent hfm).parts.one fun o11=>?_
 refine Ct.of_sep (ha.cur.sig.ent hfm).path.one fun o12=>?_
 refine Ct.of_sep (ownS_shape (show Pull (fdM g p retry s a M R) (OwnS (.slice a.al s.st.length a.cl) s.st) _ from zP)) ?_;rintro ⟨ad',c',hv',hs3,hs4,hs5⟩
 cases hv'
 have hlen:=ha.st.len;have hwl:=hh.2.1;rcases hs5 with ⟨-,-,hs5⟩|⟨gs,hal⟩
 ·omega
 have hwk:w<p.wits.length:=by omega
 have hok1:=FdSt.keep1_ok ha.st hwk hw hr hh.2.2;have hkl:a.ts.length=s.kept.length:=by have:=congrArg List.length ha.kts;rwa [List.length_map] at this
 have hkf:=ha.st.few;have hfit:∀ y∈s.ag,y.fits:=fun y hy=>(ha.st.fits y hy).1
 have hagl:=ha.st.aglen;have hx32:x.wit<4294967296:=by omega
 dsimp only [fdM,FdMem.cells];rw [hal];refine Ct.enter (args:=[_,_,_]) func291 rfl ntmps291 results291 rfl ?_
 (repeat (refine wA ?_;intros))
 rename_i g5;refine A.begin (id:=2) [9,10,11] (Blk g5 (csgC x vp vq) tCsg (0,0)::Blk g (FdMem.cells { a with al:=some ⟨gs,0,none⟩ } p retry s) tFd (0,0)::R) mixed ?_
 (refine tM 0 ?_;refine tM 1 ?_;refine tN 2 ?_;refine tF 3 ?_;refine tL 4 ?_;refine tJ 5 ?_)
 refine tO 6 ?_;refine Do.call rfl rfl (gCopy_spec _ e vp vq x (hx.ent zE) hr.fits) ?_;rintro _ _ ⟨N,wp,wq,rfl,hN,rfl⟩;refine ⟨fun _=>zE,?_⟩;refine A.of_sep (hN.ent (one_in zP)).parts.one fun o8=>?_
 refine A.of_sep (hN.ent (one_in zP)).path.one fun o9=>?_
 refine tO 7 ?_;refine Do.buildSlice (n:=4) (cs:=csgC x wp wq) rfl rfl rfl rfl zQ rfl (fun gb=>⟨fun _=>zE,?_⟩);refine tO 8 ?_;refine Do.append rfl rfl rfl (show Pull _ (OwnG (.slice a.ak a.ts.length a.ck) a.ts) _ from zP) (RdSl.blkN (n:=4) (c:=1) zP rfl zl) rfl rfl zO zm zo fun ad1 k1 _=>⟨fun _=>zE,?_⟩
 refine tO 9 ?_;refine dV (Val.nilCheck rfl) ?_;refine tO 10 ?_;refine dV (Val.fieldAddr rfl) ?_;refine tO 11 ?_;refine zs1 ?_;refine ⟨zN,?_⟩;refine A.done zK ?_
 have hset:((s.st.flatMap FW.cells).set (0+w*3+2) (.bool true)).set (0+w*3+0) (.int .i64 (s.curV.chk.size:Int))=(s.keep1 w x).st.flatMap FW.cells:=by
  rw [Nat.zero_add,fw_kept hwl,fw_size (by rw [List.length_set];exact hwl),List.set_set]
  show _=(s.st.set w _).flatMap FW.cells
  congr 2
  rw [getD_fw (by rw [List.length_set];exact hwl),List.getElem_set_self]
 have hstl:(s.keep1 w x).st.length=s.st.length:=List.length_set;refine wB ?_;rw [hset];refine O.call rfl rfl (Ct.at zP (acancel_spec _ e a.ga s.ord s.ag w hfit zo)) ?_;rintro _ _ ⟨⟨z,rfl⟩,rfl⟩;refine wB ?_;have hall:Ent [All [M,N]] [M]:=Ent.trans (all_out (M:=[_,_]) (L:=[])) (Ent.cons Ent.nil);have hall2:Ent [All [M,N]] [N]:=Ent.trans (all_out (M:=[_,_]) (L:=[])) (Ent.drop (Ent.cons Ent.nil))
 have hokA:FdMem.ok { a with ak:=ad1,ck:=k1,ts:=a.ts++[(x,wp,wq)] } (All [M,N]) p retry n (s.keep1 w x) :=
  ⟨ha.pol.ent hall,ha.cur.ent hall,by dsimp only;rw [List.map_append,ha.kts];rfl,fun t ht=>by
   rcases List.mem_append.1 ht with ht|ht
   ·exact (ha.kok t ht).ent hall
   ·rw [List.mem_singleton.1 ht];exact ⟨hN.ent hall2,hx32⟩,ha.done.ent hall,ha.enough.ent hall,hok1,ha.pr,ha.low,ha.high⟩
 have hkl1:(a.ts++[(x,wp,wq)]).length=a.ts.length+1:=by simp
 obtain ⟨C,hC⟩:∃ C:List Value,C=FdMem.cells { a with ak:=ad1,ck:=k1,ts:=a.ts++[(x,wp,wq)] } p retry (s.keep1 w x):=⟨_,rfl⟩
 obtain ⟨L1,hL1⟩:∃ L1:List Res,L1=Blk g C tFd (0,0)::All [M,N]::OwnS (.slice a.al (s.keep1 w x).st.length a.cl) (s.keep1 w x).st::OwnG (.slice ad1 (a.ts++[(x,wp,wq)]).length k1) (a.ts++[(x,wp,wq)])::Agd a.ga (s.keep1 w x).ord (s.keep1 w x).ag::R:=⟨_,rfl⟩
 refine W.keep [(0,pt g)] zS ?_;refine W.ent1 (L':=L1) ?_ ?_
 ·rw [hL1,hC];dsimp only [FdMem.cells,OwnS,OwnG];rw [hstl,hal,hkl1];simp only [List.flatMap_append,List.flatMap_cons,List.flatMap_nil,List.append_nil];exact Ent.trans (pull2_all (A:=M) (B:=N) zP zP) zE
 clear hset;have hl5:∀ (L R':List Res),Pull L (Blk g C tFd (0,0)) R'→RdA L g (0+6) (sgdC s.curV a.ur a.up a.uq):=fun L R' pl=>(RdA.whole pl).part 6 5 |> fun h=>by rw [hC] at h;exact h
 have hl9:∀ (L R':List Res),Pull L (Blk g C tFd (0,0)) R'→Rd L ⟨g,0+12,none⟩ (.slice ad1 (a.ts++[(x,wp,wq)]).length k1):=fun L R' pl=>by rw [Nat.zero_add];exact Rd.blk pl (by rw [hC];rfl)
 have hl2:∀ (L R':List Res),Pull L (Blk g C tFd (0,0)) R'→Rd L ⟨g,0+0+2,none⟩ (.int .i64 (p.quorum:Int)):=fun L R' pl=>Rd.blk pl (by rw [hC];rfl)
 have hl9':=hl9 (Blk g C tFd (0,0)::All [M,N]::OwnS (.slice a.al (s.keep1 w x).st.length a.cl) (s.keep1 w x).st::OwnG (.slice ad1 (a.ts++[(x,wp,wq)]).length k1) (a.ts++[(x,wp,wq)])::Agd a.ga (s.keep1 w x).ord (s.keep1 w x).ag::R) _ .zero;have hl2':=hl2 (Blk g C tFd (0,0)::All [M,N]::OwnS (.slice a.al (s.keep1 w x).st.length a.cl) (s.keep1 w x).st::OwnG (.slice ad1 (a.ts++[(x,wp,wq)]).length k1) (a.ts++[(x,wp,wq)])::Agd a.ga (s.keep1 w x).ord (s.keep1 w x).ag::R) _ .zero;have hkk:(s.kept++[x]).length=(a.ts++[(x,wp,wq)]).length:=by simp [hkl]
 rw [hL1]
 by_cases hq:p.quorum≤(s.kept++[x]).length
 rotate_left
 ·have hS:s.keep p w x=s.keep1 w x:=by unfold FdSt.keep;rw [if_neg hq]
  rw [hS];rw [hkk] at hq
  refine A.start (id:=5) [] mixed ?_
  (refine tM 0 ?_;refine tN 1 ?_;refine tF 2 ?_;refine tL 3 ?_;refine tk 4 _ rfl (Val.len rfl) ?_;refine tM 5 ?_;refine tN 6 ?_;refine tF 7 ?_;refine tF 8 ?_;refine tL 9 ?_;refine tk 10 (.bool false) rfl (Val.no (Val.geq rfl rfl) zn) ?_)
  refine A.done zK ?_;refine wB ?_;refine Fin.stop (FdR g p retry n (s.keep1 w x)::R) rfl (Ent.trans ?_ (fd_in hokA)) ⟨rfl,rfl⟩;rw [hC];exact zE
 have hS:s.keep p w x={ s.keep1 w x with done:=s.curV,enough:=s.kept++[x] }:=by unfold FdSt.keep;rw [if_pos hq]
 have hok2:=FdSt.keep_ok (p:=p) ha.st hwk hw hr hh;rw [hS] at hok2 ⊢
 rw [hkk] at hq
 refine A.start (id:=5) [] mixed ?_
 (refine tM 0 ?_;refine tN 1 ?_;refine tF 2 ?_;refine tL 3 ?_;refine tk 4 _ rfl (Val.len rfl) ?_;refine tM 5 ?_;refine tN 6 ?_;refine tF 7 ?_;refine tF 8 ?_;refine tL 9 ?_;refine tk 10 (.bool true) rfl (Val.yes (Val.geq rfl rfl) zy) ?_)
 refine A.done zK ?_;refine wB ?_;have hl5x:∀ (L R':List Res),Pull L (Blk g (FdMem.cells { a with ak:=ad1,ck:=k1,ts:=a.ts++[(x,wp,wq)] } p retry (s.keep1 w x)) tFd (0,0)) R'→RdA L g (0+6) (sgdC s.curV a.ur a.up a.uq):=fun L R' pl=>(RdA.whole pl).part 6 5
 have hl9x:∀ (L R':List Res),Pull L (Blk g (FdMem.cells { a with ak:=ad1,ck:=k1,ts:=a.ts++[(x,wp,wq)] } p retry (s.keep1 w x)) tFd (0,0)) R'→Rd L ⟨g,0+12,none⟩ (.slice ad1 (a.ts++[(x,wp,wq)]).length k1):=fun L R' pl=>by rw [Nat.zero_add];exact Rd.blk pl rfl
 have hokB:∀ (ade:Option Addr) (ce:Nat),FdMem.ok { a with ak:=ad1,ck:=k1,ts:=a.ts++[(x,wp,wq)],dr:=a.ur,dp:=a.up,dq:=a.uq,ve:=.slice ade (a.ts++[(x,wp,wq)]).length ce } (All [All [M,N],OwnG (.slice ade (a.ts++[(x,wp,wq)]).length ce) (a.ts++[(x,wp,wq)])]) p retry n { s.keep1 w x with done:=s.curV,enough:=s.kept++[x] }:=fun ade ce=>by
  have hb1:Ent [All [All [M,N],OwnG (.slice ade (a.ts++[(x,wp,wq)]).length ce) (a.ts++[(x,wp,wq)])]] [All [M,N]]:=Ent.trans (all_out (M:=[_,_]) (L:=[])) (Ent.cons Ent.nil);have hb2:Ent [All [All [M,N],OwnG (.slice ade (a.ts++[(x,wp,wq)]).length ce) (a.ts++[(x,wp,wq)])]] [OwnG (.slice ade (a.ts++[(x,wp,wq)]).length ce) (a.ts++[(x,wp,wq)])]:=Ent.trans (all_out (M:=[_,_]) (L:=[])) (Ent.drop (Ent.cons Ent.nil));exact ⟨hokA.pol.ent hb1,hokA.cur.ent hb1,hokA.kts,fun t ht=>(hokA.kok t ht).ent hb1,hokA.cur.ent hb1,⟨_,hokA.kts,RdSl.ent (RdSl.own .zero) hb2,fun t ht=>(hokA.kok t ht).ent hb1⟩,hok2,ha.pr,ha.low,ha.high⟩
 rw [hC];clear hl5 hl9 hl2 hl9' hl2' hL1 hC;have he1:a.ts.length+1≤100:=by omega
 refine A.begin (id:=6) [14,15,16] R mixed ?_
 (refine tM 0 ?_;refine tM 1 ?_;refine tM 2 ?_;refine tN 3 ?_;refine tF 4 ?_)
 (refine tM 6 ?_;refine tN 7 ?_;refine tF 8 ?_)
 refine A.two 5 9 rfl rfl rfl rfl zK ?_ ?_
 ·refine Do.val (Val.loadAggR rfl (hl5x _ _ zP) rfl) rfl ⟨fun _=>zE,?_⟩;refine tO 9 ?_;refine Do.val (Val.load rfl (hl9x _ _ zP)) rfl ⟨fun _=>zE,?_⟩;refine tO 10 ?_;refine Do.call rfl rfl (cloneG_spec _ e (.slice ad1 (a.ts++[(x,wp,wq)]).length k1) (a.ts++[(x,wp,wq)]) (RdSl.own zP) (fun t ht=>(hokA.kok t ht).ent (one_in zP)) zo) ?_;rintro _ _ ⟨ade,ce,rfl,rfl⟩;refine ⟨fun _=>zE,?_⟩;refine tN 11 ?_;refine tF 12 ?_;refine tO 13 ?_;refine zg ?_;refine ⟨fun _=>zE,?_⟩;refine tO 14 ?_;refine dV (Val.nilCheck rfl) ?_;refine tO 15 ?_;refine dV (Val.fieldAddr rfl) ?_;refine tO 16 ?_;refine zs1 ?_;refine ⟨zN,?_⟩;refine A.done zK ?_;refine Fin.stop (FdR g p retry n { s.keep1 w x with done:=s.curV,enough:=s.kept++[x] }::R) rfl (Ent.trans ?_ (fd_in (hokB ade ce))) ⟨rfl,rfl⟩;exact Ent.trans (pull2_all (A:=All [M,N]) (B:=OwnG (.slice ade (a.ts++[(x,wp,wq)]).length ce) (a.ts++[(x,wp,wq)])) zP zP) zE
 ·refine Do.val (Val.load rfl (hl9x _ _ zP)) rfl ⟨fun _=>zE,?_⟩;refine A.two 5 10 rfl rfl rfl rfl zK ?_ ?_
  ·refine Do.val (Val.loadAggR rfl (hl5x _ _ zP) rfl) rfl ⟨fun _=>zE,?_⟩;refine tO 10 ?_;refine Do.call rfl rfl (cloneG_spec _ e (.slice ad1 (a.ts++[(x,wp,wq)]).length k1) (a.ts++[(x,wp,wq)]) (RdSl.own zP) (fun t ht=>(hokA.kok t ht).ent (one_in zP)) zo) ?_;rintro _ _ ⟨ade,ce,rfl,rfl⟩;refine ⟨fun _=>zE,?_⟩;refine tN 11 ?_;refine tF 12 ?_;refine tO 13 ?_;refine zg ?_;refine ⟨fun _=>zE,?_⟩;refine tO 14 ?_;refine dV (Val.nilCheck rfl) ?_;refine tO 15 ?_;refine dV (Val.fieldAddr rfl) ?_;refine tO 16 ?_;refine zs1 ?_;refine ⟨zN,?_⟩;refine A.done zK ?_;refine Fin.stop (FdR g p retry n { s.keep1 w x with done:=s.curV,enough:=s.kept++[x] }::R) rfl (Ent.trans ?_ (fd_in (hokB ade ce))) ⟨rfl,rfl⟩;exact Ent.trans (pull2_all (A:=All [M,N]) (B:=OwnG (.slice ade (a.ts++[(x,wp,wq)]).length ce) (a.ts++[(x,wp,wq)])) zP zP) zE
  ·refine Do.call rfl rfl (cloneG_spec _ e (.slice ad1 (a.ts++[(x,wp,wq)]).length k1) (a.ts++[(x,wp,wq)]) (RdSl.own zP) (fun t ht=>(hokA.kok t ht).ent (one_in zP)) zo) ?_;rintro _ _ ⟨ade,ce,rfl,rfl⟩;refine ⟨fun _=>zE,?_⟩;refine tO 5 ?_;refine Do.val (Val.loadAggR rfl (hl5x _ _ zP) rfl) rfl ⟨fun _=>zE,?_⟩;refine tN 11 ?_;refine tF 12 ?_;refine tO 13 ?_;refine zg ?_;refine ⟨fun _=>zE,?_⟩;refine tO 14 ?_;refine dV (Val.nilCheck rfl) ?_;refine tO 15 ?_;refine dV (Val.fieldAddr rfl) ?_;refine tO 16 ?_;refine zs1 ?_;refine ⟨zN,?_⟩;refine A.done zK ?_;refine Fin.stop (FdR g p retry n { s.keep1 w x with done:=s.curV,enough:=s.kept++[x] }::R) rfl (Ent.trans ?_ (fd_in (hokB ade ce))) ⟨rfl,rfl⟩;exact Ent.trans (pull2_all (A:=All [M,N]) (B:=OwnG (.slice ade (a.ts++[(x,wp,wq)]).length ce) (a.ts++[(x,wp,wq)])) zP zP) zE
theorem fd_mono {g:Nat} {p:Pol} {retry n m:Nat} {s:FdSt} {R:List Res} (h:n≤m):Ent (FdR g p retry n s::R) (FdR g p retry m s::R) :=
 ent_ex fun a=>ent_ex fun M=>Ent.trans (all_out (M:=Pu (a.ok M p retry n s)::fdM g p retry s a M []) (L:=R)) (ent_pu fun h2=>fd_in (h2.mono h))
theorem fdReply_spec (g:Nat) (p:Pol) (retry n:Nat) (s:FdSt) (w:Nat) (vp vq:Value) (x:Csg) (size now:Nat) (hx:RdSig R vp vq x.sig) (hxw:x.wit≤1000000) (hw:w≤1000000) (hsz:size≤4294967296) (ht:now≤10000000) (hn:n≤999000) :
 Ct prog 254 #[pt g,.int .i64 (w:Int),.agg (csgC x vp vq).toArray,.int .i64 (size:Int),.int .i64 (now:Int)] e (FdR g p retry n s::R) (fun v' L'=>v'=.bool (s.repB p w x size)∧L'=FdR g p retry (n+1) (s.repS p w x size now)::R):=by
 refine fd_out fun a M ha=>?_
 have hmost:=ha.pr.most;have hfr:Ent (fdM g p retry s a M R) R:=zE;refine Ct.of_sep (hx.ent hfr).parts.one fun o6=>?_
 refine Ct.of_sep (hx.ent hfr).path.one fun o7=>?_
 have hfm:Ent (fdM g p retry s a M R) [M]:=one_in zP;refine Ct.of_sep (RdB.one (ha.cur.root.ent hfm)) fun o10=>?_
 refine Ct.of_sep (RdB.one (ha.pol.log.ent hfm)) fun o11=>?_
 refine Ct.of_sep (ha.pol.wits.ent hfm).one fun o12=>?_
 refine Ct.of_sep (ownS_shape (show Pull (fdM g p retry s a M R) (OwnS (.slice a.al s.st.length a.cl) s.st) _ from zP)) ?_;rintro ⟨ad',c',hv',hs3,hs4,hs5⟩
 cases hv'
 have hlen:=ha.st.len;have hin:=fd_in (R:=R) (g:=g) (ha.mono (m:=n+1) zo);have hno:¬ s.hears w→s.repB p w x size=false∧s.repS p w x size now=s:=fun h=>⟨by unfold FdSt.repB;rw [decide_eq_false (fun q=>h q.1)],by unfold FdSt.repS;rw [if_pos h]⟩
 refine Ct.enter (args:=[_,_,_,_,_]) func254 rfl ntmps254 results254 rfl ?_
 by_cases hsm:s.cur.isSome=true
 rotate_left
 ·obtain ⟨hB,hS⟩:=hno (fun h=>hsm h.1);have hsf:s.cur.isSome=false:=by simpa using hsm
  rw [hB,hS];dsimp only [fdM,FdMem.cells] at hin ⊢
  rw [hsf] at hin ⊢
  (repeat (refine wA ?_;intros))
  exact Fin.ret (FdR g p retry (n+1) s::R) rfl (Ent.trans zE hin) ⟨rfl,rfl⟩
 by_cases hwl:w<s.st.length
 rotate_left
 ·obtain ⟨hB,hS⟩:=hno (fun h=>hwl h.2.1);rw [hB,hS];dsimp only [fdM,FdMem.cells] at hin ⊢
  rw [hsm] at hin ⊢
  (repeat (refine wA ?_;intros))
  exact Fin.ret (FdR g p retry (n+1) s::R) rfl (Ent.trans zE hin) ⟨rfl,rfl⟩
 rcases hs5 with ⟨-,-,hs5⟩|⟨gs,hal⟩
 ·omega
 have hgd:=getD_fw hwl
 have hrk:∀ (L R':List Res),Pull L (OwnS (.slice (some ⟨gs,0,none⟩) s.st.length a.cl) s.st) R'→Rd L ⟨gs,0+w*3+2,none⟩ (.bool (s.st.getD w fwZ).kept):=fun L R' pl=>by
  have:=RdA.elem (RdSl.own pl) fw3 (List.getElem?_eq_getElem hwl);rw [hgd];exact this.at0 (k:=2) rfl
 have hrs:∀ (L R':List Res),Pull L (OwnS (.slice (some ⟨gs,0,none⟩) s.st.length a.cl) s.st) R'→Rd L ⟨gs,0+w*3+0,none⟩ (.int .i64 ((s.st.getD w fwZ).size:Int)):=fun L R' pl=>by
  have:=RdA.elem (RdSl.own pl) fw3 (List.getElem?_eq_getElem hwl);rw [hgd];exact this.at0 (k:=0) rfl
 by_cases hkp:(s.st.getD w fwZ).kept=true
 ·obtain ⟨hB,hS⟩:=hno (fun h=>by have h2:=h.2.2;rw [hkp] at h2;cases h2);rw [hB,hS];rw [hkp] at hrk
  dsimp only [fdM,FdMem.cells] at hin ⊢
  rw [hsm,hal] at hin ⊢
  (repeat' first|(refine O.load rfl (hrk _ _ zP) rfl ?_)|refine Za ?_|refine Zb ?_|apply Zc|apply Zd|apply Ze|apply Zf|refine Zg ?_|refine Zh ?_|refine Zi ?_|refine Zk ?_|refine Zm ?_|refine Zn ?_|refine Zy ?_|refine ZB ?_|refine ZK ?_|refine Yg fun _=>?_|refine Yx ?_|refine Yz ?_|apply YE|apply YF)
  exact Fin.ret (FdR g p retry (n+1) s::R) rfl (Ent.trans zE hin) ⟨rfl,rfl⟩
 have hkf:(s.st.getD w fwZ).kept=false:=by simpa using hkp
 have hh:s.hears w:=⟨hsm,hwl,hkf⟩
 have hwk:w<p.wits.length:=by omega
 obtain ⟨c,hc⟩:=Option.isSome_iff_exists.1 hsm;have hcv:s.curV=c:=by unfold FdSt.curV;rw [hc];rfl
 have hcf:=ha.st.cur c hc;have hcr:s.curV.chk.right:=by rw [hcv];exact hcf.1
 rw [hkf] at hrk
 dsimp only [fdM,FdMem.cells] at hin ⊢
 rw [hsm,hal] at hin ⊢
 (repeat' first|refine W.meet27 (id:=6) (fun _:Unit=>[(0,pt g),(1,.int .i64 (w:Int)),(3,.int .i64 (size:Int)),(4,.int .i64 (now:Int))]) (fun _=>Blk g ([a.vl,a.vw,.int .i64 (p.quorum:Int),.int .i64 (retry:Int),pt a.ga,.slice (some ⟨gs,0,none⟩) s.st.length a.cl]++sgdC s.curV a.ur a.up a.uq++[.bool true,.slice a.ak a.ts.length a.ck]++sgdC s.done a.dr a.dp a.dq++[a.ve]) tFd (0,0)::M::OwnS (.slice (some ⟨gs,0,none⟩) s.st.length a.cl) s.st::OwnG (.slice a.ak a.ts.length a.ck) a.ts::Agd a.ga s.ord s.ag::R) (fun _=>¬ s.takes p w x) ?_ ?_|(refine O.load rfl (hrk _ _ zP) rfl ?_)|refine Za ?_|refine Zb ?_|apply Zc|apply Zd|apply Ze|apply Zf|refine Zg ?_|refine Zh ?_|refine Zi ?_|refine Zk ?_|refine Zm ?_|refine Zn ?_|refine Zy ?_|refine ZB ?_|refine ZK ?_|refine Yg fun _=>?_|refine Yx ?_|refine YA ?_|apply YC)
 rotate_left
 ·refine ⟨?_⟩;rename_i g7
  (repeat (refine wA ?_;intros))
  refine A.start (id:=3) [] mixed ?_
  have hL1:Ent (Blk g7 (csgC x vp vq) tCsg (0,0)::Blk g ([a.vl,a.vw,.int .i64 (p.quorum:Int),.int .i64 (retry:Int),pt a.ga,.slice (some ⟨gs,0,none⟩) s.st.length a.cl]++sgdC s.curV a.ur a.up a.uq++[.bool true,.slice a.ak a.ts.length a.ck]++sgdC s.done a.dr a.dp a.dq++[a.ve]) tFd (0,0)::M::OwnS (.slice (some ⟨gs,0,none⟩) s.st.length a.cl) s.st::OwnG (.slice a.ak a.ts.length a.ck) a.ts::Agd a.ga s.ord s.ag::R) (FdR g p retry n s::R):=by
   refine Ent.trans ?_ (fd_in ha);dsimp only [fdM,FdMem.cells];rw [hsm,hal];exact zE
  by_cases htk:s.takes p w x
  ·have hB:s.repB p w x size=true:=by unfold FdSt.repB;exact decide_eq_true ⟨hh,.inl htk⟩
   have hS:s.repS p w x size now=s.keep p w x:=by unfold FdSt.repS;rw [if_neg (fun q=>q hh),if_pos htk]
   rw [hB,hS];have hxe:=htk.1
   (refine tF 0 ?_;refine tL 1 ?_;refine tM 2 ?_;refine tk 3 (.bool true) rfl (Val.yes (Val.eql rfl rfl) zy) ?_;refine tM 4 ?_;refine tkG 5 _ rfl (Val.move rfl) ?_;refine tkG 6 _ rfl (Val.nilCheck rfl) ?_;refine tkG 7 _ rfl (Val.fieldAddr rfl) ?_;refine tkG 8 _ rfl (Val.loadAggB rfl zP zI zX) ?_;refine tkG 9 _ rfl (Val.move rfl) ?_;refine tkG 10 _ rfl (Val.nilCheck rfl) ?_;refine tkG 11 _ rfl (Val.fieldAddr rfl) ?_;refine tkG 12 _ rfl (Val.fieldAddr rfl) ?_;refine tkG 13 _ rfl (Val.loadAggB rfl zP zI zX) ?_;refine tkG 14 _ rfl (Val.loadAggR rfl zA zX) ?_)
   refine A.oneG 15 rfl rfl zK ?_;refine Do.call rfl rfl (gVerify_spec _ e a.vl a.vw a.ur vp vq p s.curV.chk x (ha.pol.ent (one_in zP)) ha.pr (ha.cur.root.ent (one_in zP)) hcr (hx.ent zE)) ?_;rintro _ _ ⟨rfl,rfl⟩;refine ⟨fun _=>zE,A.regrow zE ?_⟩;rw [decide_eq_true htk.2]
   (refine tk 16 _ rfl (Val.pick_t rfl rfl) ?_)
   refine A.done zK ?_;refine wB ?_;refine O.call rfl rfl (Ct.ent (fdKeep_spec R e g p retry n s w vp vq x hx htk.1 htk.2.2.1 hh) hL1) ?_;rintro _ _ ⟨rfl,rfl⟩;refine wB ?_;refine Fin.ret (FdR g p retry (n+1) (s.keep p w x)::R) rfl (fd_mono zo) ⟨rfl,rfl⟩
  by_cases hxw2:x.wit=w
  ·have hnv:¬ x.ver p s.curV.chk:=fun h=>htk ⟨hxw2,h⟩
   (refine tF 0 ?_;refine tL 1 ?_;refine tM 2 ?_;refine tk 3 (.bool true) rfl (Val.yes (Val.eql rfl rfl) zy) ?_;refine tM 4 ?_;refine tkG 5 _ rfl (Val.move rfl) ?_;refine tkG 6 _ rfl (Val.nilCheck rfl) ?_;refine tkG 7 _ rfl (Val.fieldAddr rfl) ?_;refine tkG 8 _ rfl (Val.loadAggB rfl zP zI zX) ?_;refine tkG 9 _ rfl (Val.move rfl) ?_;refine tkG 10 _ rfl (Val.nilCheck rfl) ?_;refine tkG 11 _ rfl (Val.fieldAddr rfl) ?_;refine tkG 12 _ rfl (Val.fieldAddr rfl) ?_;refine tkG 13 _ rfl (Val.loadAggB rfl zP zI zX) ?_;refine tkG 14 _ rfl (Val.loadAggR rfl zA zX) ?_)
   refine A.oneG 15 rfl rfl zK ?_;refine Do.call rfl rfl (gVerify_spec _ e a.vl a.vw a.ur vp vq p s.curV.chk x (ha.pol.ent (one_in zP)) ha.pr (ha.cur.root.ent (one_in zP)) hcr (hx.ent zE)) ?_;rintro _ _ ⟨rfl,rfl⟩;refine ⟨fun _=>zE,A.regrow zE ?_⟩;rw [decide_eq_false hnv]
   (refine tk 16 _ rfl (Val.pick_t rfl rfl) ?_)
   refine A.done zK ?_;refine wB ?_;exact Fin.meet () htk zS zE
  ·(refine tF 0 ?_;refine tL 1 ?_;refine tM 2 ?_;refine tk 3 (.bool false) rfl (Val.no (Val.eql rfl rfl) zn) ?_;refine tM 4 ?_;refine A.takeN 5 rfl rfl zK zE rfl ?_;refine A.takeN 6 rfl rfl zK zE rfl ?_;refine A.takeN 7 rfl rfl zK zE rfl ?_;refine A.takeN 8 rfl rfl zK zE rfl ?_;refine A.takeN 9 rfl rfl zK zE rfl ?_;refine A.takeN 10 rfl rfl zK zE rfl ?_;refine A.takeN 11 rfl rfl zK zE rfl ?_;refine A.takeN 12 rfl rfl zK zE rfl ?_;refine A.takeN 13 rfl rfl zK zE rfl ?_;refine A.takeN 14 rfl rfl zK zE rfl ?_)
   refine A.takeN 15 rfl rfl zK zE rfl ?_
   (refine tk 16 _ rfl (Val.pick_f rfl rfl) ?_)
   refine A.done zK ?_;refine wB ?_;exact Fin.meet () htk zS zE
 rintro _ htk;have hgo:s.repB p w x size=decide (s.turns w size):=by unfold FdSt.repB;exact decide_eq_decide.2 ⟨fun h=>h.2.resolve_left htk,fun h=>⟨hh,.inr h⟩⟩
 have hgs:s.repS p w x size now=if s.turns w size then s.turn w size now else s:=by unfold FdSt.repS;rw [if_neg (fun q=>q hh),if_neg htk]
 rw [hgo,hgs];have hset:=fun n=>fw_size hwl n
 have hsl:(s.st.set w { s.st.getD w fwZ with size:=size }).length=s.st.length:=List.length_set;have hfit:∀ y∈s.ag,y.fits:=fun y hy=>(ha.st.fits y hy).1
 have hagl:=ha.st.aglen;have hordl:=ha.st.ord;obtain ⟨z,hz⟩:∃ z,z=(s.st.getD w fwZ).size:=⟨_,rfl⟩
 rw [← hz] at hrs
 have htn:s.turns w size↔size≤s.curV.chk.size∧size≠z:=by unfold FdSt.turns;rw [hz]
 clear hrk;have hrs':=hrs (OwnS (.slice (some ⟨gs,0,none⟩) s.st.length a.cl) s.st::OwnG (.slice a.ak a.ts.length a.ck) a.ts::Agd a.ga s.ord s.ag::R) _ .zero
 by_cases htr:s.turns w size
 rotate_left
 ·rw [decide_eq_false htr,if_neg htr];have htr2:¬ (size≤s.curV.chk.size∧size≠z):=fun q=>htr (htn.2 q)
  by_cases hle:size≤s.curV.chk.size
  ·have hze:size=z:=Decidable.not_not.1 fun q=>htr2 ⟨hle,q⟩
   refine wB ?_;exact Fin.ret (FdR g p retry (n+1) s::R) rfl (Ent.trans zE hin) ⟨rfl,rfl⟩
  ·refine wB ?_;exact Fin.ret (FdR g p retry (n+1) s::R) rfl (Ent.trans zE hin) ⟨rfl,rfl⟩
 rw [decide_eq_true htr,if_pos htr];obtain ⟨ht1,ht2⟩:=htn.1 htr;have hokT:=FdSt.turn_ok (now:=now) ha.st hwk ht1 zo zo zo;have hokF:FdMem.ok a M p retry (n+1) (s.turn w size now):=⟨ha.pol,ha.cur,ha.kts,ha.kok,ha.done,ha.enough,hokT,ha.pr,ha.low,ha.high⟩
 have hset0:=hset size;refine wB ?_;refine O.call rfl rfl (Ct.at zP (fplan_spec _ e g a.ga s.ord now w s.ag zR hfit zo zo zo zo)) ?_;rintro _ _ ⟨rfl,rfl⟩;refine wB ?_
 have hseq:(s.st.flatMap FW.cells).set (0+w*3+0) (.int .i64 (size:Int))=(s.turn w size now).st.flatMap FW.cells:=by
  rw [Nat.zero_add,hset0];rfl
 have hstl:(s.turn w size now).st.length=s.st.length:=List.length_set;have hcvT:(s.turn w size now).curV=s.curV:=rfl;have hcuT:(s.turn w size now).cur=s.cur:=rfl;rw [hseq];refine Fin.ret (FdR g p retry (n+1) (s.turn w size now)::R) rfl (Ent.trans ?_ (fd_in hokF)) ⟨rfl,rfl⟩;dsimp only [fdM,FdMem.cells,OwnS];rw [hcvT,hcuT,hsm,hstl,hal];exact zE
end Go.Proofs
namespace Go.Bs
theorem RdA.ent {L L':List Res} {g o:Nat} {cs:List Value} (h:RdA L' g o cs) (f:Ent L L'):RdA L g o cs:=fun j u hj=>(h j u hj).ent f
end Go.Bs
namespace Go.Proofs
open Go.Bs
attribute [local irreducible] Bs.Val Bs.Do Bs.O Bs.W Bs.Fin Bs.A Bs.Ct Bs.RdSl Bs.Rd Bs.Sat Bs.Blk Bs.Ob Bs.Own Bs.View Bs.Ent Bs.Ex Bs.All Bs.Pu Bs.Base Bs.sepL Bs.RdA
theorem sgdZ_fits:sgdZ.sig.fits:=⟨fun x hx=>absurd hx List.not_mem_nil,fun x hx=>absurd hx List.not_mem_nil⟩
theorem FdSt.ok.curF {s:FdSt} {k n:Nat} (h:s.ok k n):s.curV.sig.fits:=by
 unfold FdSt.curV
 cases hc:s.cur with
 | none=>exact sgdZ_fits
 | some c=>exact (h.cur c hc).2.fits
abbrev tSgd:TypeId:=87
abbrev sgdZC:List Value:=sgdC sgdZ nY nY nY
theorem fdCur_spec (R:List Res) (e:World) (g:Nat) (p:Pol) (retry n:Nat) (s:FdSt) :
 Ct Tryz.prog 175 #[pt g] e (FdR g p retry n s::R) (fun v' L'=>∃ (N:Res) (ur up uq:Value),v'=.tuple #[.agg (sgdC s.curV ur up uq).toArray,.bool s.cur.isSome]∧RdSgd [N] ur up uq s.curV∧L'=N::FdR g p retry n s::R):=by
 refine fd_out fun a M ha=>?_
 refine Ct.enterC (args:=[_]) Tryz.func175 rfl Tryz.ntmps175 Tryz.results175 rfl ?_
 (repeat (refine wA ?_;intros))
 rename_i g2;refine A.begin (id:=1) [10] (fdM g p retry s a M R) Tryz.mixed ?_
 (refine tM 0 ?_;refine tN 1 ?_;refine tF 2 ?_;refine tk 3 _ rfl (Val.loadAggB rfl zP zI zX) ?_;refine tM 5 ?_;refine tN 6 ?_;refine tF 7 ?_;refine tL 8 ?_)
 refine tO 4 ?_;refine Do.call rfl rfl (cCopy_spec _ e a.ur a.up a.uq s.curV (ha.cur.ent (one_in zP)) ha.st.curF) ?_;rintro _ _ ⟨N,ur,up,uq,rfl,hN,rfl⟩;refine ⟨fun _=>zE,?_⟩;refine A.of_sep (RdB.one (hN.root.ent (one_in zP))) fun o8=>?_
 refine A.of_sep (hN.sig.ent (one_in zP)).parts.one fun o9=>?_
 refine A.of_sep (hN.sig.ent (one_in zP)).path.one fun o10=>?_
 refine tO 9 ?_;refine zg ?_;refine ⟨fun _=>zE,?_⟩
 ((refine tO 10 ?_;refine dV (Val.assign rfl) ?_))
 refine A.done zK ?_;refine wB ?_;apply Fin.retC
 ·exact zV
 exact ⟨N::FdR g p retry n s::R,Ent.trans (show Ent _ (N::fdM g p retry s a M R) from zE) (Ent.cons (fd_in ha)),N,ur,up,uq,rfl,hN,rfl⟩
theorem fdDone_spec (R:List Res) (e:World) (g:Nat) (p:Pol) (retry n:Nat) (s:FdSt) :
 Ct Tryz.prog 182 #[pt g] e (FdR g p retry n s::R) (fun v' L'=>(s.enough=[]→v'=.tuple #[.agg sgdZC.toArray,nY,.bool false]∧L'=FdR g p retry n s::R)∧(s.enough≠[]→∃ (N:Res) (ur up uq vg:Value),v'=.tuple #[.agg (sgdC s.done ur up uq).toArray,vg,.bool true]∧RdSgd [N] ur up uq s.done∧RdGs [N] vg s.enough∧L'=N::FdR g p retry n s::R)):=by
 refine fd_out fun a M ha=>?_
 have hmost:=ha.pr.most;have hfw:=ha.st.few2;obtain ⟨ts,hts,hvg,hgt⟩:=ha.enough;have htl:ts.length=s.enough.length:=by rw [← hts,List.length_map]
 refine Ct.of_sep ((hvg.ent (show Ent (fdM g p retry s a M R) [M] from one_in zP)).shape zo) ?_;rintro ⟨⟨adg,cg,hve,h3,h4,h5,h6⟩,_⟩;simp only [maxLen] at h4
 rw [hve] at hvg
 have hcells:fdM g p retry s a M R=Blk g (polC p a.vl a.vw++[.int .i64 (retry:Int),pt a.ga,.slice a.al s.st.length a.cl]++sgdC s.curV a.ur a.up a.uq++[.bool s.cur.isSome,.slice a.ak a.ts.length a.ck]++sgdC s.done a.dr a.dp a.dq++[.slice adg ts.length cg]) tFd (0,0)::M::OwnS (.slice a.al s.st.length a.cl) s.st::OwnG (.slice a.ak a.ts.length a.ck) a.ts::Agd a.ga s.ord s.ag::R:=by
  dsimp only [fdM,FdMem.cells];rw [hve]
 have hin:=fd_in (R:=R) (g:=g) ha;rw [hcells] at hin ⊢
 refine Ct.enterC (args:=[_]) Tryz.func182 rfl Tryz.ntmps182 Tryz.results182 rfl ?_
 by_cases he:s.enough=[]
 ·have hl0:ts.length=0:=by rw [htl,he];rfl
  rw [hl0] at hin ⊢
  (repeat (refine wA ?_;intros))
  apply Fin.retC
  ·exact zV
  exact ⟨FdR g p retry n s::R,Ent.trans zE hin,fun _=>⟨rfl,rfl⟩,fun h=>absurd he h⟩
 have hl1:0<ts.length:=by rw [htl];exact List.length_pos_iff.2 he
 (repeat (refine wA ?_;intros))
 rename_i g2;refine W.loop (ι:=Nat × List GAt × Res × Option Addr × Nat) (fun j=>[(0,pt g),(2,pt g2),(5,.slice j.2.2.2.1 j.2.1.length j.2.2.2.2),(18,.slice adg ts.length cg),(19,.int .i64 (ts.length:Int)),(20,.int .i64 (j.1:Int))]) (fun j=>OwnG (.slice j.2.2.2.1 j.2.1.length j.2.2.2.2) j.2.1::j.2.2.1::Blk g2 sgdZC tSgd (0,0)::Blk g (polC p a.vl a.vw++[.int .i64 (retry:Int),pt a.ga,.slice a.al s.st.length a.cl]++sgdC s.curV a.ur a.up a.uq++[.bool s.cur.isSome,.slice a.ak a.ts.length a.ck]++sgdC s.done a.dr a.dp a.dq++[.slice adg ts.length cg]) tFd (0,0)::M::OwnS (.slice a.al s.st.length a.cl) s.st::OwnG (.slice a.ak a.ts.length a.ck) a.ts::Agd a.ga s.ord s.ag::R) (fun j=>j.1≤ts.length∧j.2.1.map (·.1)=s.enough.take j.1∧∀ t∈j.2.1,GAt.ok [j.2.2.1] t) (fun j=>ts.length - j.1) (0,[],Items [],none,0) ⟨Nat.zero_le _,rfl,fun t ht=>by cases ht⟩ zS (Ent.trans (items_nil) (Ent.trans (own_nil tCsg 4) zE)) ?_;rintro ⟨k,us,Mx,adu,cu⟩ ⟨hk,hus,hut⟩;dsimp only at hk hus hut ⊢
 have hul:us.length=k:=by have:=congrArg List.length hus;rw [List.length_map,List.length_take] at this;omega
 by_cases hlt:k<ts.length
 rotate_left
 ·rw [List.take_of_length_le zo] at hus
  (repeat' first|refine Za ?_|apply Zc|apply Zd|apply Ze|apply Zf|refine Zg ?_|refine Zh ?_|refine ZB ?_|refine YA ?_|apply YD|apply YG|apply YJ|(apply O.loadAggB;exact rfl;exact zP;(first|(simp only [Nat.zero_add,Nat.add_zero,Nat.reduceAdd,List.drop_succ_cons,List.drop_zero,List.take_succ_cons,List.take_zero];done)|(simp only [Nat.zero_add,Nat.add_zero,Nat.reduceAdd,List.drop_succ_cons,List.drop_zero,List.take_succ_cons,List.take_zero];exact rfl));exact rfl;exact rfl))
  refine O.call rfl rfl (cCopy_spec _ e a.dr a.dp a.dq s.done (ha.done.ent (one_in zP)) ha.st.doneF) ?_;rintro _ _ ⟨N,ur,up,uq,rfl,hN,rfl⟩;refine O.of_sep (RdB.one (hN.root.ent (one_in zP))) fun o8=>?_
  refine O.of_sep (hN.sig.ent (one_in zP)).parts.one fun o9=>?_
  refine O.of_sep (hN.sig.ent (one_in zP)).path.one fun o10=>?_
  have ho:Ent [All [N,OwnG (.slice adu us.length cu) us,Mx]] [N,OwnG (.slice adu us.length cu) us,Mx]:=all_out (M:=[_,_,_]) (L:=[]);refine wB ?_;apply Fin.retC
  ·exact zV
  refine ⟨All [N,OwnG (.slice adu us.length cu) us,Mx]::FdR g p retry n s::R,Ent.trans (pull3_all (A:=N) (B:=OwnG (.slice adu us.length cu) us) (C:=Mx) zP zP zP) (Ent.cons (Ent.trans zE hin)),fun h=>absurd h he,fun _=>⟨_,ur,up,uq,.slice adu us.length cu,rfl,hN.ent (Ent.trans ho (one_in .zero)),RdGs.ent ⟨us,hus,RdSl.own (.succ .zero),fun t ht=>(hut t ht).ent (one_in zP)⟩ ho,rfl⟩⟩
 rcases h6 with h6|⟨gg,og,rfl⟩
 ·omega
 have hag:RdA [M] gg (og+k*4) (GAt.cells (ts[k]'hlt)):=RdA.elem hvg GAt.len (List.getElem?_eq_getElem hlt);have hti:=hgt _ (List.getElem_mem hlt);have hgk:k<s.enough.length:=by omega
 have hgi:(ts[k]'hlt).1=s.enough[k]'hgk:=by
  have:=congrArg (fun l=>l[k]?) hts;simp only [List.getElem?_map,List.getElem?_eq_getElem hlt,List.getElem?_eq_getElem hgk,Option.map_some,Option.some.injEq] at this
  exact this
 have htk:s.enough.take (k+1)=s.enough.take k++[s.enough[k]'hgk]:=List.take_succ_eq_append_getElem hgk;have hfi:=(ha.st.enough _ (List.getElem_mem hgk)).2.fits;rw [← hgi] at htk hfi
 generalize ts[k]'hlt=y at *
 obtain ⟨⟨w,sg⟩,vp,uq2⟩:=y;obtain ⟨t1,t2⟩:=hti;dsimp only at t1 t2 hfi htk hag
 refine W.of_sep (t1.ent (one_in zP)).parts.one fun o11=>?_
 refine W.of_sep (t1.ent (one_in zP)).path.one fun o12=>?_
 dsimp only [GAt.cells] at hag
 have hagL:∀ (L R':List Res),Pull L M R'→RdA L gg (og+k*4) (csgC ⟨w,sg⟩ vp uq2):=fun L R' pl=>hag.ent (one_in pl)
 (repeat' first|(refine O.loadAggR rfl (hagL _ _ zP) rfl rfl ?_)|refine Za ?_|apply Zc|apply Zd|apply Ze|apply Zf|refine Zj ?_|refine ZA ?_|refine Yh fun _=>?_|refine Yx ?_|refine Yz ?_|apply YB|apply YC|refine YR ?_|fail)
 refine O.call rfl rfl (gCopy_spec _ e vp uq2 ⟨w,sg⟩ (t1.ent (one_in zP)) hfi) ?_;rintro _ _ ⟨N2,wp,wq,rfl,hN2,rfl⟩;refine O.of_sep (hN2.ent (one_in zP)).parts.one fun o13=>?_
 refine O.of_sep (hN2.ent (one_in zP)).path.one fun o14=>?_
 (repeat (refine wA ?_;intros))
 refine O.do (Do.append rfl rfl rfl (show Pull _ (OwnG (.slice adu us.length cu) us) _ from zP) (RdSl.blkN (n:=4) (c:=1) zP rfl zl) rfl rfl zO zm zo fun ad1 k1 _=>?_)
 refine wB ?_;have hall:Ent [All [Mx,N2]] [Mx]:=Ent.trans (all_out (M:=[_,_]) (L:=[])) (Ent.cons Ent.nil);have hall2:Ent [All [Mx,N2]] [N2]:=Ent.trans (all_out (M:=[_,_]) (L:=[])) (Ent.drop (Ent.cons Ent.nil));refine Fin.round (k+1,us++[(⟨w,sg⟩,wp,wq)],All [Mx,N2],ad1,k1) ⟨hlt,by dsimp only;rw [htk,List.map_append,hus];rfl,fun t ht=>?_⟩ zd ?_ ?_
 ·rcases List.mem_append.1 ht with ht|ht
  ·exact (hut t ht).ent hall
  ·rw [List.mem_singleton.1 ht];exact ⟨hN2.ent hall2,t2⟩
 ·simp only [List.length_append,List.length_singleton];exact zS
 ·simp only [OwnG,List.length_append,List.length_singleton,List.flatMap_append,List.flatMap_cons,List.flatMap_nil,List.append_nil];exact Ent.trans (pull2_all (A:=Mx) (B:=N2) zP zP) zE
end Go.Proofs
