/- Part 5 of a proof of this: TopQuiet returns true for any arguments; nothing of the old memory is turned. No condition. -/
import Derived.Test.YtccekbdjebohcaaGreatQ04
set_option linter.unusedVariables false
set_option linter.unusedSimpArgs false
namespace Go.Bs
theorem xg {P:Program} {w:World} (t u ty e:TypeId) (i:TypeInfo) (z:Value) (ht:P.underlying t=some (.slice e)) (hu:P.underlying u=some (.int .i64)) (hi:P.info? e=some i) (hz:i.zero=some z)
 (n:Nat) (h0:0<n) (Ir:n≤1000000) (Ru:i.size=1) (h48:n*i.bytes≤140737488355328) :
 (Builtin.append_ #[t,u] ty #[nY,.int .i64 (n:Int)]).run P w =
  .ok (.slice (some ⟨w.heap.size,0,none⟩) n (grownCap w n 0 e)) (w.drew.alloc (.cells (Builtin.zeroCells z.cells n++Builtin.zeroCells z.cells (grownCap w n 0 e - n)) e)):=by
 have hn:n≠0:=by omega
 have hw:IntKind.i64.wrap (n:Int)=(n:Int):=wrap_i64 zo zo;have h1:¬ ((n:Int)<0):=by omega
 have h2:¬ (281474976710656<(n:Int)*(i.bytes:Int)):=by
  have:((n*i.bytes:Nat):Int)=(n:Int)*(i.bytes:Int):=by simp
  rw [← this];omega
 have h3:¬ (9223372036854775807<(n:Int)):=by omega
 have h4:¬ (281474976710656<Builtin.nextslicecap n 0*i.bytes):=by rw [nextslicecap_zero h0];omega
 simp [Builtin.append_,run_underlying ht,run_underlying hu,sizeOf,typeInfo,zeroValue,hi,hz,Ru,asInt,asIntOf,hw,h1,h2,h3,h4,hn,Nat.pos_iff_ne_zero.1 h0,Question.forced,run_firstCells_none,newRow,grownCap]
section
variable {P:Program} {N:Fr} {Q:fP} {σ:Env} {e:World} {L:List cK} {all:Array Oper} {rest:List Oper}
variable {d:Nat} {ty:TypeId} {pos:String} {af:Array Edge} {gd:Option (Nat × Bool)} {K:Env→List cK→Prop} {x y:Operand}
theorem Do.GZ {t u el b n:Nat} {z:Value} [i:jv P t el 1] [j:rV P el z 1 b] [q:iw P u .i64] (hx:ev σ x=some nY) (hy:ev σ y=some (.int .i64 (n:Int))) (hd:Nat.blt d N.n=true) (h0:0<n) (Ir:n≤1000000) (hb:n*b≤140737488355328) (hz:z.cells.size=1)
 (kk:∀ g c,n≤c→K ((d,.slice (some ⟨g,0,none⟩) n c)::σ) (dJ el 1 (.slice (some ⟨g,0,none⟩) 0 c) 0 []::L)) :
 Do P N ⟨some d,.call { callee:=.builtin .append,args:=#[x,y],argTypes:=#[t,u] },ty,pos,af,gd⟩ K σ e L:=fun a w ha hs K' Q' hK=>by
 obtain ⟨ti,t1,t2,t3,t4⟩:=j.parts;have hr:=xg (P:=P) (w:=w) t u ty el ti z i.lX q.lX t1 t2 n h0 Ir t3 (by rw [t4];exact hb);refine e6 (v:=.slice (some ⟨w.heap.size,0,none⟩) n (grownCap w n 0 el)) (w':=w.drew.alloc (.cells (Builtin.zeroCells z.cells n++Builtin.zeroCells z.cells (grownCap w n 0 el - n)) el)) (by simp [execOp,resolve,invoke,builtin,ha.ev hx,ha.ev hy,hr]) ?_;have Qj:=grownCap_ge w n 0 el;have TS:grownCap w n 0 el≤maxLen:=grownCap_le_maxLen w n 0 el zm;refine hK _ _ _ _ (kk w.heap.size (grownCap w n 0 el) Qj) (ha.put hd _) ?_;have F8:Sat e (cL _ _ el (0,0)::L) _:=(((hs.drawn _:Sat e L w.drew)).alloc (.cells (Builtin.zeroCells z.cells n++Builtin.zeroCells z.cells (grownCap w n 0 el - n)) el)).cM (ta _ _ _ _)
 have lq:(Builtin.zeroCells z.cells n++Builtin.zeroCells z.cells (grownCap w n 0 el - n)).toList.length=grownCap w n 0 el*1:=by
  simp only [Array.length_toList,Array.size_append,size_zeroCells,hz]
  omega
 have gB:=hH (E:=el) (n:=1) (k:=0) (g:=w.heap.size) (R:=L) (aH _) TS lq;simp only [Nat.zero_mul,List.take_zero] at gB
 exact F8.cM gB
theorem cE.cap {t:TypeId} {el n l c:Nat} {ad:Option Addr} {ats:List TypeId} [i:jv P t el n] (h:ev σ x=some (.slice ad l c)) :
 cE P N (.call { callee:=.builtin .cap,args:=#[x],argTypes:=(t::ats).toArray }) ty (.int .i64 c) σ e L:=fun a w ha _ _ _ _ _=>by
 simp [execOp,resolve,invoke,builtin,Builtin.cap_,ha.ev h,run_underlying i.lX,goInt]
end
end Go.Bs
namespace Go.Proofs
open Go.Bs
attribute [local irreducible] Bs.cE Bs.Do Bs.O Bs.W Bs.Fin Bs.A Bs.Ct Bs.cF Bs.Rd Bs.Sat Bs.cL Bs.Ob Bs.dJ Bs.View Bs.cB Bs.Ex Bs.dH Bs.Pu Bs.eZ Bs.dO Bs.dZ
theorem Cw (R:List cK) (e:World) (n:Nat) (h0:0<n) (hn:n≤100000) :
 Ct Tryz.prog 298 #[nY,.int .i64 (n:Int)] e R (fun v' L'=>∃ ad c,v'=.slice ad 0 c∧L'=dJ eA 1 (.slice ad 0 c) 0 []::R):=by
 refine a8 (args:=[_,_]) Tryz.func298 rfl Tryz.ntmps298 Tryz.results298 rfl ?_
 (repeat' first|(refine bx _ (cE.cap (ats:=[]) rfl) rfl ?_)|refine Za ?_|refine Zb ?_|apply Zc|apply Zd|apply Ze|apply Zf|refine Zk ?_|refine ZB ?_|refine ZG ?_|refine ZU ?_|refine Yr ?_|refine Yz ?_|refine YA ?_|apply YC)
 refine bC (Do.GZ (n:=n) (z:=nY) rfl rfl rfl h0 zo zo rfl fun g c hc=>?_)
 refine wB ?_;exact aY _ rfl aX ⟨_,_,rfl,rfl⟩
theorem Ez (R:List cK) (e:World) (g:Nat) (va vb:Value) (a b:List eo) (T:Nat) (fz:Nat × Nat) (hg:cF R 1 (.slice (some ⟨g,0,none⟩) 2 2) 2 [va,vb]) (ha:cF R 1 va a.length (a.map (·.1))) (hb:cF R 1 vb b.length (b.map (·.1))) (hta:dR R a) (htb:dR R b) (hl:a.length≤1000) (ry:b.length≤1000) (hp:0<a.length+b.length) :
 Ct Tryz.prog 265 #[.slice (some ⟨g,0,none⟩) 2 2] e R (fun v' L'=>∃ ad c,v'=.slice ad (a++b).length c∧L'=cV (.slice ad (a++b).length c) (a++b)::R):=by
 refine a7 (ha.shape zo) ?_;rintro ⟨⟨ada,ca,rfl,a3,a4,a5,a6⟩,_⟩;refine a7 (hb.shape zo) ?_;rintro ⟨⟨Vz,cb,rfl,b3,b4,b5,b6⟩,_⟩;refine a7 (Em hta) fun oa=>?_
 refine a7 (Em htb) fun ob=>?_
 have QB:Rd R ⟨g,0+0,none⟩ (.slice ada a.length ca):=hg.elem (j:=0) rfl;have OQ:Rd R ⟨g,0+1,none⟩ (.slice Vz b.length cb):=hg.elem (j:=1) rfl;refine a8 (args:=[_]) Tryz.func265 rfl Tryz.ntmps265 Tryz.results265 rfl ?_;refine wB ?_;refine bq (ι:=Nat × Nat) (fun i=>[(0,.slice (some ⟨g,0,none⟩) 2 2),(3,.int .i64 (i.2:Int)),(9,.slice (some ⟨g,0,none⟩) 2 2),(10,.int .i64 2),(11,.int .i64 (i.1:Int))]) (fun _=>R) (fun i=>i.1≤2∧i.2=if i.1=0 then 0 else if i.1=1 then a.length else a.length+b.length) (fun i=>2 - i.1) (0,0) ⟨by omega,rfl⟩ zS aX ?_;rintro ⟨i,m⟩ ⟨hi,hm⟩;dsimp only at hi hm ⊢
 match i,hi with
 | 0,_ =>
  have hm:m=0:=hm;subst hm;refine wB ?_;rw [show ((0:Nat):Int)+(a.length:Int)=(a.length:Int) by omega];exact bi (1,a.length) ⟨by dsimp only;omega,rfl⟩ zd zS aX
 | 1,_ =>
  have hm:m=a.length:=hm;subst hm;refine wB ?_;exact bi (2,a.length+b.length) ⟨by dsimp only;omega,rfl⟩ zd zS aX
 | 2,_ =>
  have hm:m=a.length+b.length:=hm;subst hm;refine wB ?_;refine aZ rfl rfl (Cw R e (a.length+b.length) hp zo) ?_;rintro _ _ ⟨J7,c0,rfl,rfl⟩;refine wB ?_;refine bq (ι:=Nat × List eo × Option Addr × Nat) (fun i=>[(6,.slice i.2.2.1 i.2.1.length i.2.2.2),(25,.slice (some ⟨g,0,none⟩) 2 2),(26,.int .i64 2),(27,.int .i64 (i.1:Int))]) (fun i=>cV (.slice i.2.2.1 i.2.1.length i.2.2.2) i.2.1::R) (fun i=>i.1≤2∧i.2.1=if i.1=0 then [] else if i.1=1 then a else a++b) (fun i=>2 - i.1) (0,[],J7,c0) ⟨by omega,rfl⟩ zS aX ?_;rintro ⟨i,ts,ad,c⟩ ⟨hi,fB⟩;dsimp only at hi fB ⊢
  match i,hi with
  | 0,_ =>
   have fB:ts=[]:=fB;subst fB;refine wB ?_;refine bC (bo rfl rfl rfl .zero ha rfl rfl oa (by simp only [List.length_nil,maxLen];omega) (by simp only [List.length_nil];omega) fun jB c4 _=>?_)
   rw [show ([]:List eo).length+a.length=a.length by simp];refine wB ?_;exact bi (1,a,jB,c4) ⟨by dsimp only;omega,rfl⟩ zd zS aX
  | 1,_ =>
   have fB:ts=a:=fB;subst fB;refine wB ?_;refine bC (bo rfl rfl rfl .zero hb rfl rfl ob zm zo fun jB c4 _=>?_)
   refine wB ?_;refine bi (2,ts++b,jB,c4) ⟨by dsimp only;omega,rfl⟩ zd ?_ ?_
   ·dsimp only;rw [aa];exact zS
   ·simp only [cV,aa,ah];exact aX
  | 2,_ =>
   have fB:ts=a++b:=fB;subst fB;refine wB ?_;exact aY _ rfl aX ⟨ad,c,rfl,rfl⟩
theorem ub (R:List cK) (e:World) (vp vq:Value) (s:xc) (hs:fN R vp vq s) (hr:s.right) :
 Ct Tryz.prog 207 #[.agg (yo s vp vq).toArray] e R (fun v' L'=>∃ ad c,v'=.tuple #[.slice ad (fI s).length c,.int .i64 0]∧L'=cT (.slice ad (fI s).length c) (fI s)::R):=by
 obtain ⟨q1,q2,q3,q4,q5⟩:=id hr;obtain ⟨ts,e1,r1,t1⟩:=hs.parts;obtain ⟨us,e2,r2,t2⟩:=hs.path;have oR:ts.length=64:=by rw [← q2,← e1,ab]
 have ry:us.length=4:=by rw [← q4,← e2,ab]
 have jN:∀ a∈ts++us,a.2.length=32:=fun a ha=>by
  rcases aJ.1 ha with h|h
  ·exact oV e1 q3 a h
  ·exact oV e2 q5 a h
 refine a7 hs.parts.one fun o1=>?_
 refine a7 hs.path.one fun o2=>?_
 refine a8 (args:=[_]) Tryz.func207 rfl Tryz.ntmps207 Tryz.results207 rfl ?_
 (repeat (refine wA ?_;intros))
 rename_i g;refine aZ rfl rfl (qo _ e vp vq s hs.tail) ?_;rintro _ _ ⟨rfl,rfl⟩;rw [ay hr];refine wB ?_;refine aZ rfl rfl (jk _ e) ?_;rintro _ _ ⟨gw,rfl,rfl⟩;refine wB ?_;refine aZ rfl rfl (gF _ e gw [] s.idx zo (by simp)) ?_;rintro _ _ ⟨rfl,rfl⟩
 (repeat' first|(apply bZ;exact rfl;exact rfl;exact rfl;exact .one (eR o1) rfl (.one (eR o2) rfl .nil);exact rfl;exact rfl;intro _)|apply Zc|apply Zd|apply Ze|apply Zf|refine Zh ?_|refine Zi ?_|fail)
 rename_i gl;refine aZ rfl rfl (Ez _ e gl vp vq ts us 0 (0,0) (bB .zero rfl zl) r1.tail.tail.tail r2.tail.tail.tail (dR.tail (dR.tail (dR.tail t1))) (dR.tail (dR.tail (dR.tail t2))) zo zo zo) ?_;rintro _ _ ⟨ad,c,rfl,rfl⟩;refine bn (fk .zero) ?_;rintro ⟨⟨a,cc,hq,wa,wZ,Ml⟩,_⟩;obtain ⟨rfl,_,rfl⟩:=Value.slice.inj hq;clear hq;simp only [maxLen] at wZ
 have rL:(ts++us).length=68:=by rw [aa];omega
 have RW:dR R (ts++us):=fun x hx=>by
  rcases aJ.1 hx with h|h
  ·exact t1 x h
  ·exact t2 x h
 have VA:(((ts++us).map (·.2)).flatten)=s.parts.flatten++s.path.flatten:=by rw [ah,List.flatten_append,e1,e2]
 generalize ts++us=ws at *
 refine wB ?_;refine bq (ι:=Nat) (fun i=>[(4,pt gw),(21,.slice ad ws.length c),(22,.int .i64 (ws.length:Int)),(23,.int .i64 (i:Int))]) (fun i=>Writer gw (be s.idx 4++((ws.map (·.2)).take i).flatten)::cV (.slice ad ws.length c) ws::R) (fun i=>i≤ws.length) (fun i=>ws.length - i) 0 (aH _) zS zE ?_;intro i hi
 have DF:=nW (l:=(ws.map (·.2)).take i) (fun a ha=>by
  obtain ⟨x,hx,rfl⟩:=aE.1 (aR ha);exact jN x hx)
 rw [aF,ab] at DF
 have T6:=cY s.idx 4
 by_cases cP:i<ws.length
 rotate_left
 ·have JT:i=ws.length:=by omega
  subst JT;rw [aG (by rw [ab];exact aS _),VA] at *
  refine wB ?_;refine aZ rfl rfl (hJ _ e gw _ (by rw [aa];omega)) ?_;rintro _ _ ⟨dW,c2,rfl,rfl⟩;refine wB ?_;exact aY (cT (.slice dW (fI s).length c2) (fI s)::R) rfl zE ⟨dW,c2,rfl,rfl⟩
 rcases Ml with ⟨_,_,h0⟩|⟨p,rfl⟩
 ·omega
 have hrr:Rd (cV (.slice (some ⟨p,0,none⟩) ws.length c) ws::R) ⟨p,0+i,none⟩ (ws[i]'cP).1:=(bb .zero).elem (by rw [aL,ae cP];rfl);have ju:=RW _ (ax cP);have OH:=jN _ (ax cP)
 have kz:be s.idx 4++((ws.map (·.2)).take i).flatten++(ws[i]'cP).2=be s.idx 4++((ws.map (·.2)).take (i+1)).flatten:=by
  rw [aD (by rw [ab];exact cP),List.getElem_map,List.flatten_append,aM]
  simp
 generalize ws[i]'cP=y at *
 obtain ⟨yv,yb⟩:=y;dsimp only at hrr ju OH kz
 refine wB ?_;refine aZ rfl rfl (hI _ e gw _ yb yv ju.tail (by rw [aa];omega)) ?_;rintro _ _ ⟨rfl,rfl⟩;rw [kz];refine wB ?_;exact bi (i+1) cP zo zS aX
end Go.Proofs
namespace Go.Bs
section
variable {P:Program} {N:Fr} {Q:fP} {σ:Env} {e:World} {L:List cK} {all:Array Oper} {rest:List Oper}
variable {d:Nat} {op:Op} {ty:TypeId} {pos:String} {af:Array Edge} {x:Operand} {t:TypeId}
theorem cE.dh {n g o:Nat} {xs cs:List Value} {T:TypeId} {fz:Nat × Nat} {R:List cK} [i:jd P t n] (h:ev σ x=some (.pointer (some ⟨g,o,none⟩))) (p:cR L (cL g xs T fz) R) (hc:(xs.drop o).take n=cs) (hl:cs.length=n):cE P N (.load t x) ty (.agg cs.toArray) σ e L :=
 cE.dx h (dZ.fQ p ⟨n,hc⟩) hl
theorem O.dh {n g o:Nat} {xs cs:List Value} {T:TypeId} {fz:Nat × Nat} {R:List cK} [i:jd P t n] (h:ev σ x=some (.pointer (some ⟨g,o,none⟩))) (p:cR L (cL g xs T fz) R) (hc:(xs.drop o).take n=cs) (hl:cs.length=n) (hd:Nat.blt d N.n=true) (kk:O P N all rest Q ((d,.agg cs.toArray)::σ) e L) :
 O P N all (⟨some d,.load t x,ty,pos,af,none⟩::rest) Q σ e L:=bx _ (cE.dh h p hc hl) hd kk
end
end Go.Bs
namespace Go.Proofs
open Go.Bs
structure jg where
 size:Nat
 root:List UInt8
 deriving DecidableEq
def jg.right (c:jg):Prop:=c.size≤256∧c.root.length=32
instance (c:jg):Decidable c.right:=by unfold jg.right;infer_instance
def yu:List UInt8:=[98,114,111,97,100,115,104,101,101,116,32,99,104,101,99,107]
def yw:List UInt8:=[98,114,111,97,100,115,104,101,101,116,32,99,111,115,105,103,110]
def lF (c:jg):List UInt8:=yu++be c.size 4++c.root
def l3 (c:jg):List UInt8:=yw++be c.size 4++c.root
structure j7 where
 dd:jg
 sig:xc
 deriving DecidableEq
def j7.hO (s:j7) (je:List UInt8):Prop:=s.dd.right∧xd je (lF s.dd) s.sig
instance (s:j7) (je:List UInt8):Decidable (s.hO je):=by unfold j7.hO;infer_instance
def yx (seed:List UInt8) (i:Nat) (c:jg):j7:=⟨c,rK seed i (lF c)⟩
theorem J8 {seed:List UInt8} {i:Nat} {c:jg} (hc:c.right) (hi:i<16):(yx seed i c).hO (kP seed):=⟨hc,yi hi⟩
structure kQ where
 fY:Nat
 sig:xc
 deriving DecidableEq
def Bj (seed:List UInt8) (i w:Nat) (c:jg):kQ:=⟨w,rK seed i (l3 c)⟩
def ic (s:j7):List UInt8:=be s.dd.size 4++(s.dd.root++fI s.sig)
def eV (g:kQ):List UInt8:=UInt8.ofNat g.fY::fI g.sig
abbrev iT (c:jg) (vr:Value):List Value:=[.int .i64 (c.size:Int),vr]
abbrev dT (s:j7) (vr vp vq:Value):List Value:=[.int .i64 (s.dd.size:Int),vr,.int .i64 (s.sig.idx:Int),vp,vq]
abbrev iB (g:kQ) (vp vq:Value):List Value:=[.int .i64 (g.fY:Int),.int .i64 (g.sig.idx:Int),vp,vq]
structure fj (L:List cK) (vr vp vq:Value) (s:j7):Prop where
 root:db L vr s.dd.root
 sig:fN L vp vq s.sig
 small:s.dd.size<4294967296∧s.dd.root.length≤1000000
theorem fj.cM {L L':List cK} {vr vp vq:Value} {s:j7} (h:fj L' vr vp vq s) (f:cB L L'):fj L vr vp vq s:=⟨h.root.cM f,h.sig.cM f,h.small⟩
theorem xx {M:List cK} {v:Value} {b:List UInt8} (h:db M v b):db [dH M] v b:=RT h
theorem vC {M:List cK} {vr vp vq:Value} {s:j7} (h:fj M vr vp vq s):fj [dH M] vr vp vq s:=h.cM (cn (cU (L:=[])) (by rw [aK];exact aX))
theorem oY {c:jg} (h:c.right):(lF c).length=52:=by unfold lF;rw [aa,aa,cY,h.2];rfl
theorem oZ {c:jg} (h:c.right):(l3 c).length=53:=by unfold l3;rw [aa,aa,cY,h.2];rfl
theorem iQ {s:j7} (h:s.dd.right) (h2:s.sig.right):(ic s).length=2216:=by unfold ic;rw [aa,aa,cY,h.2,gR h2]
theorem lr {g:kQ} (h:g.sig.right):(eV g).length=2181:=by unfold eV;rw [aN,gR h]
end Go.Proofs
namespace Go.Proofs
attribute [local irreducible] Bs.cE Bs.Do Bs.O Bs.W Bs.Fin Bs.A Bs.Ct Bs.cF Bs.Rd Bs.Sat Bs.cL Bs.Ob Bs.dJ Bs.View Bs.cB Bs.Ex Bs.dH Bs.Pu Bs.eZ Bs.dO Bs.dZ
open Go.Bs
open Tryz
variable (R:List cK) (e:World)
theorem gI (vr:Value) (c:jg) (hv:db R vr c.root) :
 Ct prog 107 #[.agg (iT c vr).toArray] e R (fun v' L'=>v'=.bool (decide c.right)∧R=L'):=by
 refine a7 (cF.shape hv zo) ?_;rintro ⟨⟨ad,cap,rfl,h3,h4,h5,h6⟩,_⟩;refine a8 (args:=[_]) func107 rfl ntmps107 results107 rfl ?_
 by_cases h1:c.size≤256
 rotate_left
 ·rw [aq (fun q:c.right=>h1 q.1)]
  (repeat (refine wA ?_;intros))
  exact aY R rfl zE ⟨rfl,rfl⟩
 by_cases h2:c.root.length=32
 ·rw [ay (show c.right from ⟨h1,h2⟩)]
  (repeat (refine wA ?_;intros))
  exact aY R rfl zE ⟨rfl,rfl⟩
 ·rw [aq (fun q:c.right=>h2 q.2)]
  (repeat (refine wA ?_;intros))
  exact aY R rfl zE ⟨rfl,rfl⟩
theorem yy (vr:Value) (c:jg) (hv:db R vr c.root) (hc:c.right) :
 Ct prog 43 #[.agg (iT c vr).toArray] e R (fun v' L'=>∃ ad k,v'=.slice ad (lF c).length k∧L'=cT (.slice ad (lF c).length k) (lF c)::R):=by
 have wa:=hc.1;have wZ:=hc.2;refine a7 (cz hv) fun ho=>?_
 refine a8 (args:=[_]) func43 rfl ntmps43 results43 rfl ?_
 (repeat (refine wA ?_;intros))
 rename_i g;refine aZ rfl rfl (gI _ e vr c hv.tail) ?_;rintro _ _ ⟨rfl,rfl⟩;rw [ay hc];refine wB ?_;refine aZ rfl rfl (jk _ e) ?_;rintro _ _ ⟨gw,rfl,rfl⟩
 (repeat (refine wA ?_;intros))
 rename_i gt;refine O.fp (show cB _ (Writer gw []::cL gt (yu.map u8) oP (16,17)::cL g (iT c vr) 83 (0,0)::R) from bw (.succ .zero) aX) ?_;refine aZ rfl rfl (hI _ e gw [] yu _ (bB .zero rfl zl) (by decide)) ?_;rintro _ _ ⟨rfl,rfl⟩;refine wB ?_;refine aZ rfl rfl (gF _ e gw _ c.size zo (by decide)) ?_;rintro _ _ ⟨rfl,rfl⟩;refine wB ?_;refine aZ rfl rfl (hI _ e gw _ c.root vr hv.tail.tail (by rw [aa,cY];simp only [List.nil_append,show yu.length=16 from rfl];omega)) ?_;rintro _ _ ⟨rfl,rfl⟩;rw [show []++yu++be c.size 4++c.root=lF c by simp [lF]];refine wB ?_;refine aZ rfl rfl (hJ _ e gw _ (by rw [oY hc];omega)) ?_;rintro _ _ ⟨ad,k,rfl,rfl⟩;refine wB ?_;exact aY (cT (.slice ad (lF c).length k) (lF c)::R) rfl zE ⟨ad,k,rfl,rfl⟩
theorem yz (va vb:Value) (a b:jg) (ha:db R va a.root) (hb:db R vb b.root) :
 Ct prog 195 #[.agg (iT a va).toArray,.agg (iT b vb).toArray] e R (fun v' L'=>v'=.bool (decide (a=b))∧R=L'):=by
 have O1:a=b↔a.size=b.size∧a.root=b.root:=by cases a;cases b;simp
 refine a8 (args:=[_,_]) func195 rfl ntmps195 results195 rfl ?_
 by_cases h1:a.size=b.size
 rotate_left
 ·rw [aq (fun q=>h1 (O1.1 q).1)]
  (repeat (refine wA ?_;intros))
  exact aY R rfl zE ⟨rfl,rfl⟩
 (repeat (refine wA ?_;intros))
 refine aZ rfl rfl (iP _ e va vb a.root b.root ha.tail.tail hb.tail.tail) ?_;rintro _ _ ⟨rfl,rfl⟩;rw [show decide (a.root=b.root)=decide (a=b) from decide_eq_decide.2 (by rw [O1];exact ⟨fun q=>⟨h1,q⟩,fun q=>q.2⟩)];refine wB ?_;exact aY R rfl zE ⟨rfl,rfl⟩
theorem gS (vr vp vq:Value) (s:j7) (hs:fj R vr vp vq s) (hr:s.sig.fits) :
 Ct prog 102 #[.agg (dT s vr vp vq).toArray] e R (fun v' L'=>∃ (M:cK) (ur up uq:Value),v'=.agg (dT s ur up uq).toArray∧fj [M] ur up uq s∧L'=M::R):=by
 obtain ⟨h1,h2,h3⟩:=hs;refine a7 (cz h1) fun o1=>?_
 refine a7 h2.parts.one fun o2=>?_
 refine a7 h2.path.one fun o3=>?_
 refine bI (args:=[_]) func102 rfl ntmps102 results102 rfl ?_
 (repeat (refine wA ?_;intros))
 rename_i g1 g2;refine bk (id:=1) [12] (cL g1 (dT s vr vp vq) 87 (0,0)::R) mixed ?_
 (refine tF 0 ?_;refine tF 1 ?_;refine tL 2 ?_;refine tF 3 ?_;refine tF 4 ?_;refine tL 5 ?_;refine tF 8 ?_;refine tk 9 _ rfl (cE.dh rfl zP zI zX) ?_)
 refine tO 6 ?_;refine bg rfl rfl (dy _ e vr s.dd.root h1.tail.tail zo) ?_;rintro _ _ ⟨ei,c1,rfl,wa,rfl⟩;refine ⟨fun _=>zE,?_⟩
 (refine tk 7 _ rfl (bM rfl zF) ?_)
 refine tO 10 ?_;refine bg rfl rfl (yr _ e vp vq s.sig h2.tail.tail.tail hr) ?_;rintro _ _ ⟨M,up,uq,rfl,hM,rfl⟩;refine ⟨fun _=>zE,?_⟩;refine A.cC (hM.cM zE).parts.one fun o4=>?_
 refine A.cC (hM.cM zE).path.one fun o5=>?_
 (refine tk 11 _ rfl (bM rfl zF) ?_;(refine tO 12 ?_;refine zg ?_;refine ⟨zN,?_⟩))
 refine bf zK ?_;refine wB ?_;apply br
 ·exact zV
 refine ⟨dH [cT (.slice ei s.dd.root.length c1) s.dd.root,M]::R,cn (show cB _ (cT (.slice ei s.dd.root.length c1) s.dd.root::M::R) from zE) (dS (M:=[_,_])),dH [cT (.slice ei s.dd.root.length c1) s.dd.root,M],.slice ei s.dd.root.length c1,up,uq,rfl,vC ⟨bb .zero,hM.cM (cB.drop aX),h3⟩,rfl⟩
theorem kA (v vr vp vq:Value) (je:List UInt8) (s:j7) (hv:db R v je) (hs:fj R vr vp vq s) (hc:s.dd.right) :
 Ct prog 98 #[v,.agg (dT s vr vp vq).toArray] e R (fun v' L'=>v'=.bool (decide (s.hO je))∧R=L'):=by
 obtain ⟨h1,h2,h3⟩:=hs;refine a7 (cz hv) fun o0=>?_
 refine a7 (cz h1) fun o1=>?_
 refine a7 h2.parts.one fun o2=>?_
 refine a7 h2.path.one fun o3=>?_
 have oT:=oY hc;refine a8 (args:=[_,_]) func98 rfl ntmps98 results98 rfl ?_
 (repeat (refine wA ?_;intros))
 rename_i g1;refine bk (id:=1) [12] (cL g1 (dT s vr vp vq) 87 (0,0)::R) mixed ?_
 (refine tF 0 ?_;refine tk 1 _ rfl (cE.dh rfl zP zI zX) ?_)
 refine tO 2 ?_;refine bg rfl rfl (gI _ e vr s.dd (h1.cM zE)) ?_;rintro _ _ ⟨rfl,rfl⟩;refine ⟨fun _=>zE,A.fS zE ?_⟩;rw [ay hc]
 (refine tM 3 ?_;refine dv 4 _ rfl (bu rfl) ?_;refine dv 5 _ rfl (ba rfl) ?_;refine dv 6 _ rfl (cE.dh rfl zP zI zX) ?_;refine dv 8 _ rfl (ba rfl) ?_;refine dv 9 _ rfl (cE.dh rfl zP zI zX) ?_)
 refine A.ru 7 rfl rfl zK ?_;refine bg rfl rfl (yy _ e vr s.dd (h1.cM zE) hc) ?_;rintro _ _ ⟨ad,k,rfl,rfl⟩;refine ⟨fun _=>zE,A.fS zE ?_⟩;refine A.ru 10 rfl rfl zK ?_;refine bg rfl rfl (tX _ e v (.slice ad (lF s.dd).length k) vp vq je (lF s.dd) s.sig (hv.cM zE) (bb zP) zo (h2.cM zE)) ?_;rintro _ _ ⟨rfl,rfl⟩;refine ⟨fun _=>zE,A.fS zE ?_⟩;rw [show decide (xd je (lF s.dd) s.sig)=decide (s.hO je) from decide_eq_decide.2 ⟨fun q=>⟨hc,q⟩,fun q=>q.2⟩]
 (refine tk 11 _ rfl (bL rfl rfl) ?_;(refine tO 12 ?_;refine dV (bj rfl) ?_))
 refine bf zK ?_;refine wB ?_;exact aY R rfl zE ⟨rfl,rfl⟩
theorem G0 (v vr:Value) (seed:List UInt8) (i:Nat) (c:jg) (hv:db R v seed) (JV:seed.length=32) (hi:i<16) (hr:db R vr c.root) (hc:c.right) :
 Ct prog 245 #[v,.int .i64 (i:Int),.agg (iT c vr).toArray] e R (fun v' L'=>∃ (M:cK) (ur up uq:Value),v'=.tuple #[.agg (dT (yx seed i c) ur up uq).toArray,.int .i64 0]∧fj [M] ur up uq (yx seed i c)∧L'=M::R):=by
 refine a7 (cz hv) fun o0=>?_
 refine a7 (cz hr) fun o1=>?_
 have oT:=oY hc;have wa:=hc.1;have wZ:=hc.2;refine bI (args:=[_,_,_]) func245 rfl ntmps245 results245 rfl ?_
 (repeat (refine wA ?_;intros))
 rename_i g1 g2;refine aZ rfl rfl (gI _ e vr c (hr.cM zE)) ?_;rintro _ _ ⟨rfl,rfl⟩;rw [ay hc];refine wB ?_;refine aZ rfl rfl (yy _ e vr c (hr.cM zE) hc) ?_;rintro _ _ ⟨ad,k,rfl,rfl⟩
 (repeat' first|refine Za ?_|refine Zb ?_|apply Zc|apply Zd|apply Ze|apply Zf|refine Zh ?_|refine Zi ?_|refine Zj ?_|refine Zu ?_|refine Zy ?_|refine Zz ?_|refine ZP ?_|refine ZQ ?_|refine Yd ?_|refine Ye ?_|refine Yg fun _=>?_|refine Yh fun _=>?_|refine Yz ?_|refine YA ?_|apply YC|apply YE|apply YF|refine YN ?_|refine YQ ?_|refine YR ?_|(apply O.dh;exact rfl;exact zP;(first|(simp only [aC,Nat.add_zero,Nat.reduceAdd,List.drop_succ_cons,List.drop_zero,List.take_succ_cons,List.take_zero];done)|(simp only [aC,Nat.add_zero,Nat.reduceAdd,List.drop_succ_cons,List.drop_zero,List.take_succ_cons,List.take_zero];exact rfl));exact rfl;exact rfl))
 refine aZ rfl rfl (yq _ e v (.slice ad (lF c).length k) seed (lF c) i (hv.cM zE) JV hi (bb zP) zo) ?_;rintro _ _ ⟨M,vp,vq,rfl,hM,rfl⟩;refine bn (hM.cM zE).parts.one fun o4=>?_
 refine bn (hM.cM zE).path.one fun o5=>?_
 (repeat (refine wA ?_;intros))
 rename_i g3;refine bk (id:=6) [8,9] (cL g1 (iT c vr) 83 (0,0)::cL g3 (yo (rK seed i (lF c)) vp vq) 85 (0,0)::M::R) mixed ?_
 (refine tF 0 ?_;refine tL 1 ?_;refine tF 2 ?_;refine tL 3 ?_;refine tJ 6 ?_)
 refine tO 4 ?_;refine bg rfl rfl (dy _ e vr c.root (hr.cM zE) zo) ?_;rintro _ _ ⟨ei,c1,rfl,wa,rfl⟩;refine ⟨fun _=>zE,?_⟩
 (refine tk 5 _ rfl (bM rfl zF) ?_;refine tk 7 _ rfl (bM rfl zF) ?_;(refine tO 8 ?_;refine zg ?_;refine ⟨zN,?_⟩);(refine tO 9 ?_;refine dV (bj rfl) ?_))
 refine bf zK ?_;refine wB ?_;apply br
 ·exact zV
 refine ⟨dH [cT (.slice ei c.root.length c1) c.root,M]::R,cn (show cB _ (cT (.slice ei c.root.length c1) c.root::M::R) from zE) (dS (M:=[_,_])),dH [cT (.slice ei c.root.length c1) c.root,M],.slice ei c.root.length c1,vp,vq,rfl,vC ⟨bb .zero,hM.cM (cB.drop aX),⟨by show c.size<_;omega,by show c.root.length≤_;omega⟩⟩,rfl⟩
theorem Bk (g:Nat) (l:List UInt8) (vr vp vq:Value) (s:j7) (hs:fj R vr vp vq s) (hc:s.dd.right) (hr:s.sig.right) (hl:l.length≤1000000) :
 Ct prog 124 #[pt g,.agg (dT s vr vp vq).toArray] e (Writer g l::R) (fun v' L'=>v'=.bool true∧L'=Writer g (l++ic s)::R):=by
 obtain ⟨h1,h2,h3⟩:=hs;refine a7 (cz h1.tail) fun o1=>?_
 refine a7 (h2.tail).parts.one fun o2=>?_
 refine a7 (h2.tail).path.one fun o3=>?_
 have DS:=gR hr;have wa:=hc.1;have wZ:=hc.2;refine a8 (args:=[_,_]) func124 rfl ntmps124 results124 rfl ?_
 (repeat' first|refine Zb ?_|apply Zc|apply Zd|apply Ze|apply Zf|refine Zh ?_|refine Yg fun _=>?_|(apply O.dh;exact rfl;exact zP;(first|(simp only [aC,Nat.add_zero,Nat.reduceAdd,List.drop_succ_cons,List.drop_zero,List.take_succ_cons,List.take_zero];done)|(simp only [aC,Nat.add_zero,Nat.reduceAdd,List.drop_succ_cons,List.drop_zero,List.take_succ_cons,List.take_zero];exact rfl));exact rfl;exact rfl))
 rename_i g1;refine aZ rfl rfl (ub _ e vp vq s.sig (h2.cM zE) hr) ?_;rintro _ _ ⟨ad,k,rfl,rfl⟩
 (repeat' first|refine Za ?_|refine Zb ?_|apply Zc|apply Zd|apply Ze|apply Zf|refine Zh ?_|refine Zm ?_|refine Zn ?_|refine Zq ?_|refine ZQ ?_|refine YN ?_|(apply O.dh;exact rfl;exact zP;(first|(simp only [aC,Nat.add_zero,Nat.reduceAdd,List.drop_succ_cons,List.drop_zero,List.take_succ_cons,List.take_zero];done)|(simp only [aC,Nat.add_zero,Nat.reduceAdd,List.drop_succ_cons,List.drop_zero,List.take_succ_cons,List.take_zero];exact rfl));exact rfl;exact rfl))
 refine aZ rfl rfl (gI _ e vr s.dd (h1.cM zE)) ?_;rintro _ _ ⟨rfl,rfl⟩;rw [ay hc];refine wB ?_;refine aZ rfl rfl (Ct.at zP (gF _ e g l s.dd.size zo zo)) ?_;rintro _ _ ⟨rfl,rfl⟩;refine wB ?_;refine aZ rfl rfl (hI _ e g _ s.dd.root vr (h1.cM zE) (by rw [aa,cY];omega)) ?_;rintro _ _ ⟨rfl,rfl⟩;refine wB ?_;refine aZ rfl rfl (hI _ e g _ (fI s.sig) (.slice ad (fI s.sig).length k) (bb zP) (by rw [aa,aa,cY];omega)) ?_;rintro _ _ ⟨rfl,rfl⟩;rw [show l++be s.dd.size 4++s.dd.root++fI s.sig=l++ic s by simp [ic]];refine wB ?_;exact aY (Writer g (l++ic s)::R) rfl zE ⟨rfl,rfl⟩
theorem Bl (g:Nat) (s:j7) (r:List UInt8) (hc:s.dd.right) (hr:s.sig.right) (hl:r.length≤1000000) :
 Ct prog 212 #[pt g] e (Reader g ⟨ic s++r,false⟩::R) (fun v' L'=>∃ (M:cK) (ur up uq:Value),v'=.tuple #[.agg (dT s ur up uq).toArray,.bool true]∧fj [M] ur up uq s∧L'=Reader g ⟨r,false⟩::M::R):=by
 have DS:=gR hr;have wa:=hc.1;have wZ:=hc.2;rw [show ic s++r=be s.dd.size 4++(s.dd.root++(fI s.sig++r)) by simp [ic]];refine bI (args:=[_]) func212 rfl ntmps212 results212 rfl ?_
 (repeat (refine wA ?_;intros))
 refine aZ rfl rfl (Ct.at zP (tD _ e g s.dd.size _ zo)) ?_;rintro _ _ ⟨rfl,rfl⟩;refine wB ?_;refine aZ rfl rfl (x8 _ e g 32 s.dd.root _ wZ (by rw [aa,aa];omega)) ?_;rintro _ _ ⟨ei,c1,rfl,rfl⟩
 (repeat (refine wA ?_;intros))
 refine aZ rfl rfl (Ct.at zP (x8 _ e g 2180 (fI s.sig) r DS (by rw [aa];omega))) ?_;rintro _ _ ⟨dW,c2,rfl,rfl⟩
 (repeat' first|refine Za ?_|refine Zb ?_|apply Zc|apply Zd|apply Ze|apply Zf|refine Zi ?_|refine Zj ?_|refine Zl ?_|refine Zm ?_|refine Zn ?_|refine Zo ?_|refine Zq ?_|refine Zs ?_|refine Zt ?_|refine Zu ?_|refine Zy ?_|refine Zz ?_|refine ZM ?_|refine ZN ?_|refine ZO (fun _=>?_) fun _=>?_|refine ZP ?_|refine ZQ ?_|refine ZY ?_|refine ZZ ?_|refine Z6 ?_|refine Z7 ?_|refine Z8 ?_|refine Yd ?_|refine Ye ?_|refine Yf ?_|refine Yh fun _=>?_|refine Yz ?_|refine YA ?_|apply YC|apply YE|apply YF|refine YN ?_|refine YQ ?_|refine YR ?_|(apply O.dh;exact rfl;exact zP;(first|(simp only [aC,Nat.add_zero,Nat.reduceAdd,List.drop_succ_cons,List.drop_zero,List.take_succ_cons,List.take_zero];done)|(simp only [aC,Nat.add_zero,Nat.reduceAdd,List.drop_succ_cons,List.drop_zero,List.take_succ_cons,List.take_zero];exact rfl));exact rfl;exact rfl))
 refine aZ rfl rfl (tZ _ e (.slice dW (fI s.sig).length c2) s.sig (bb .zero) hr) ?_;rintro _ _ ⟨M,vp,vq,rfl,hM,rfl⟩;refine bn (hM.cM zE).parts.one fun o4=>?_
 refine bn (hM.cM zE).path.one fun o5=>?_
 (repeat (refine wA ?_;intros))
 refine aZ rfl rfl (gI _ e (.slice ei s.dd.root.length c1) s.dd (bb zP)) ?_;rintro _ _ ⟨rfl,rfl⟩;rw [ay hc];refine wB ?_;apply br
 ·exact zV
 refine ⟨Reader g ⟨r,false⟩::dH [cT (.slice ei s.dd.root.length c1) s.dd.root,M]::R,cn (show cB _ (cT (.slice ei s.dd.root.length c1) s.dd.root::M::Reader g ⟨r,false⟩::R) from zE) (cn (dS (M:=[_,_])) zE),dH [cT (.slice ei s.dd.root.length c1) s.dd.root,M],.slice ei s.dd.root.length c1,vp,vq,rfl,vC ⟨bb .zero,hM.cM (cB.drop aX),⟨by omega,by omega⟩⟩,rfl⟩
end Go.Proofs
namespace Go.Proofs
open Go.Bs
structure jH where
 log:List UInt8
 ey:List (List UInt8)
 ez:Nat
structure jH.right (p:jH):Prop where
 log:p.log.length=32
 low:1≤p.ez
 high:p.ez≤p.ey.length
 fG:p.ey.length≤4
 kT:∀ w∈p.ey,w.length=32
 apart:p.ey.Nodup
def kQ.hO (g:kQ) (p:jH) (c:jg):Prop:=g.fY<p.ey.length∧xd (p.ey.getD g.fY []) (l3 c) g.sig
instance (g:kQ) (p:jH) (c:jg):Decidable (g.hO p c):=by unfold kQ.hO;infer_instance
def countP (p:jH) (c:jg):List kQ→List Nat→Nat
 | [],_=>0
 | g::l,seen=>if g.fY<4∧¬ g.fY∈seen∧g.hO p c then 1+countP p c l (g.fY::seen) else countP p c l seen
def ue (p:jH) (c:jg) (l:List kQ):Prop:=p.ez≤countP p c l []
instance (p:jH) (c:jg) (l:List kQ):Decidable (ue p c l):=by unfold ue;infer_instance
abbrev lG (p:jH) (vl vw:Value):List Value:=[vl,vw,.int .i64 (p.ez:Int)]
structure j8 (L:List cK) (vl vw:Value) (p:jH):Prop where
 log:db L vl p.log
 ey:mR L vw p.ey
theorem j8.cM {L L':List cK} {vl vw:Value} {p:jH} (h:j8 L' vl vw p) (f:cB L L'):j8 L vl vw p:=⟨h.log.cM f,h.ey.cM f⟩
abbrev jo:=kQ × Value × Value
abbrev jo.cells (t:jo):List Value:=iB t.1 t.2.1 t.2.2
structure jo.ok (L:List cK) (t:jo):Prop where
 rd:fN L t.2.1 t.2.2 t.1.sig
 small:t.1.fY<4294967296
def pa (L:List cK) (v:Value) (gs:List kQ):Prop:=∃ ts:List jo,ts.map (·.1)=gs∧cF L 4 v ts.length (ts.flatMap jo.cells)∧∀ t∈ts,jo.ok L t
theorem pa.cM {L L':List cK} {v:Value} {gs:List kQ} (h:pa L' v gs) (f:cB L L'):pa L v gs:=by
 obtain ⟨ts,h1,h2,h3⟩:=h;exact ⟨ts,h1,h2.cM f,fun t ht=>⟨(h3 t ht).rd.cM f,(h3 t ht).small⟩⟩
theorem pa.tail {A:cK} {L:List cK} {v:Value} {gs:List kQ} (h:pa L v gs):pa (A::L) v gs:=h.cM (cB.drop aX)
theorem pa.one {L:List cK} {v:Value} {gs:List kQ} (h:pa L v gs):∀ x,dO L x→v.oneCell'=true:=by
 obtain ⟨ts,h1,h2,h3⟩:=h;intro x hx;obtain ⟨⟨ad,c,rfl,_⟩,_⟩:=h2.shape zo x hx
 rfl
theorem jo.len (t:jo):t.cells.length=4:=rfl
end Go.Proofs
namespace Go.Proofs
attribute [local irreducible] Bs.cE Bs.Do Bs.O Bs.W Bs.Fin Bs.A Bs.Ct Bs.cF Bs.Rd Bs.Sat Bs.cL Bs.Ob Bs.dJ Bs.View Bs.cB Bs.Ex Bs.dH Bs.Pu Bs.eZ Bs.dO Bs.dZ
open Go.Bs
open Tryz
variable (R:List cK) (e:World)
theorem Bm (v:Value) (b:List UInt8) (hv:db R v b) :
 Ct prog 201 #[v] e R (fun v' L'=>v'=.bool (decide (b.length=32))∧R=L'):=by
 refine a7 (cF.shape hv zo) ?_;rintro ⟨⟨ad,cap,rfl,h3,h4,h5,h6⟩,_⟩;refine a8 (args:=[_]) func201 rfl ntmps201 results201 rfl ?_
 by_cases h:b.length=32
 ·rw [ay h];refine wB ?_;exact aY R rfl aX ⟨rfl,rfl⟩
 ·rw [aq h];refine wB ?_;exact aY R rfl aX ⟨rfl,rfl⟩
theorem qX (n:Nat) :
 Ct prog 197 #[.int .i64 (n:Int)] e R (fun v' L'=>v'=.bool (decide (n<4))∧R=L'):=by
 refine a8 (args:=[_]) func197 rfl ntmps197 results197 rfl ?_
 by_cases h:n<4
 ·rw [ay h];refine wB ?_;exact aY R rfl aX ⟨rfl,rfl⟩
 ·rw [aq h];refine wB ?_;exact aY R rfl aX ⟨rfl,rfl⟩
theorem Cx (v w:Value) (b a:List UInt8) (g:Nat) (hg:Rd R ⟨g,0,none⟩ w) (hv:db R v b) (hw:db R w a) :
 Ct prog 202 #[v,pt g] e R (fun v' L'=>v'=.bool (decide (b=a))∧R=L'):=by
 refine a8 (args:=[_,_]) func202 rfl ntmps202 results202 rfl ?_;refine wB ?_;refine aZ rfl rfl (iP _ e v w b a hv hw) ?_;rintro _ _ ⟨rfl,rfl⟩;refine wB ?_;exact aY R rfl aX ⟨rfl,rfl⟩
theorem G1 {l:List (List UInt8)} (h:l.Nodup) {i j:Nat} (hj:j<i) (hi:i<l.length):l.getD j []≠l.getD i []:=by
 rw [aA,aA,ae zo,ae hi];simp only [Option.getD_some];intro he;exact List.pairwise_iff_getElem.1 h j i zo hi hj he
theorem j9 (vl vw:Value) (p:jH) (hp:j8 R vl vw p) (hr:p.right) :
 Ct prog 116 #[.agg (lG p vl vw).toArray] e R (fun v' L'=>v'=.bool true∧R=L'):=by
 obtain ⟨q1,q2,q3,q4,q5,q6⟩:=hr;obtain ⟨h1,ts,fB,hv,ht⟩:=hp;have hl:p.ey.length=ts.length:=by rw [← fB,ab]
 refine a7 (cz h1) fun o1=>?_
 refine a7 (hv.shape zo) ?_;rintro ⟨⟨wm,cap,rfl,h3,h4,h5,h6⟩,_⟩;simp only [maxLen] at h4
 refine a8 (args:=[_]) func116 rfl ntmps116 results116 rfl ?_
 (repeat (refine wA ?_;intros))
 rename_i g1;refine aZ rfl rfl (Bm _ e vl p.log (h1.cM zE)) ?_;rintro _ _ ⟨rfl,rfl⟩;rw [ay q1];refine wB ?_;refine bq (ι:=Nat) (fun i=>[(1,pt g1),(34,.slice wm ts.length cap),(35,.int .i64 (ts.length:Int)),(36,.int .i64 (i:Int))]) (fun i=>cL g1 (lG p vl (.slice wm ts.length cap)) 106 (0,0)::R) (fun i=>i≤ts.length) (fun i=>ts.length - i) 0 (aH _) zS zE ?_;intro i hi
 by_cases cP:i<ts.length
 rotate_left
 ·refine wB ?_;exact aY R rfl zE ⟨rfl,rfl⟩
 rcases h6 with h6|⟨gl,ol,rfl⟩
 ·omega
 have hr:Rd R ⟨gl,ol+i,none⟩ (ts[i]'cP).1:=hv.elem (by rw [aL,ae cP];rfl);have ju:=ht _ (ax cP);have z7:(ts[i]'cP).2.length=32:=q5 _ (by rw [← fB];exact aE.2 ⟨_,ax cP,rfl⟩)
 have hdi:∀ j,j<i→∀ hj:j<ts.length,(ts[j]'hj).2≠(ts[i]'cP).2:=fun j hj Gb=>by
  have:=G1 q6 hj zo;rw [← fB,fa Gb,fa cP] at this
  exact this
 generalize ts[i]'cP=y at *
 obtain ⟨yv,b⟩:=y;dsimp only at hr ju z7 hdi
 refine bD (cz ju.tail) fun oy=>?_
 (repeat (refine wA ?_;intros))
 rename_i g2;refine aZ rfl rfl (Bm _ e yv b (ju.cM zE)) ?_;rintro _ _ ⟨rfl,rfl⟩;rw [ay z7];refine wB ?_
 have Xs:∀ A B,cF (A::B::R) 1 (.slice (some ⟨gl,ol,none⟩) i cap) (ts.take i).length ((ts.take i).map (·.1)):=fun A B=>by
  have:=(hv.p7 (hi:=i) zo).tail (A:=B) |>.tail (A:=A)
  rw [Nat.mul_one] at this
  rw [aF,Nat.min_eq_left zo,List.map_take];exact this
 rw [Int.toNat_natCast]
 have hc:=qk (cL g2 [yv] eA (0,0)::cL g1 (lG p vl (.slice (some ⟨gl,ol,none⟩) ts.length cap)) 106 (0,0)::R) e (.slice (some ⟨gl,ol,none⟩) i cap) (ts.take i) 202 [] [pt g2] (fun j=>decide (((ts.take i).map (·.2)).getD j []=b)) (Xs _ _) (by rw [aF];omega) (fun j hj=>by
  rw [fa hj];exact Cx _ e _ yv _ b g2 (bQ .zero rfl) ((ht _ (aR (ax hj))).tail.tail) ju.tail.tail)
 rw [aq (fun ⟨j,hj,h⟩=>by
  rw [fa hj] at h
  rw [aF] at hj
  rw [List.getElem_take] at h
  exact hdi j zo zo (of_decide_eq_true h))] at hc
 refine aZ rfl rfl hc ?_;rintro _ _ ⟨rfl,rfl⟩;refine wB ?_;exact bi (i+1) cP zo zS zE
theorem pb (vp vq:Value) (g:kQ) (hs:fN R vp vq g.sig) (hr:g.sig.fits) :
 Ct prog 114 #[.agg (iB g vp vq).toArray] e R (fun v' L'=>∃ (M:cK) (up uq:Value),v'=.agg (iB g up uq).toArray∧fN [M] up uq g.sig∧L'=M::R):=by
 refine a7 hs.parts.one fun o2=>?_
 refine a7 hs.path.one fun o3=>?_
 refine bI (args:=[_]) func114 rfl ntmps114 results114 rfl ?_
 (repeat (refine wA ?_;intros))
 rename_i g1 g2;refine bk (id:=1) [6] (cL g1 (iB g vp vq) 96 (0,0)::R) mixed ?_
 (refine tF 0 ?_;refine tL 1 ?_;refine tF 2 ?_;refine tk 3 _ rfl (cE.dh rfl zP zI zX) ?_)
 refine tO 4 ?_;refine bg rfl rfl (yr _ e vp vq g.sig (hs.cM zE) hr) ?_;rintro _ _ ⟨M,up,uq,rfl,hM,rfl⟩;refine ⟨fun _=>zE,?_⟩;refine A.cC (hM.cM zE).parts.one fun o4=>?_
 refine A.cC (hM.cM zE).path.one fun o5=>?_
 (refine tk 5 _ rfl (bM rfl zF) ?_;(refine tO 6 ?_;refine zg ?_;refine ⟨zN,?_⟩))
 refine bf zK ?_;refine wB ?_;apply br
 ·exact zV
 exact ⟨M::R,zE,M,up,uq,rfl,hM,rfl⟩
theorem yA (vr:Value) (c:jg) (hv:db R vr c.root) (hc:c.right) :
 Ct prog 199 #[.agg (iT c vr).toArray] e R (fun v' L'=>∃ ad k,v'=.slice ad (l3 c).length k∧L'=cT (.slice ad (l3 c).length k) (l3 c)::R):=by
 have wa:=hc.1;have wZ:=hc.2;refine a7 (cz hv) fun ho=>?_
 refine a8 (args:=[_]) func199 rfl ntmps199 results199 rfl ?_
 (repeat (refine wA ?_;intros))
 rename_i g;refine aZ rfl rfl (gI _ e vr c hv.tail) ?_;rintro _ _ ⟨rfl,rfl⟩;rw [ay hc];refine wB ?_;refine aZ rfl rfl (jk _ e) ?_;rintro _ _ ⟨gw,rfl,rfl⟩
 (repeat (refine wA ?_;intros))
 rename_i gt;refine O.fp (show cB _ (Writer gw []::cL gt (yw.map u8) oP (17,18)::cL g (iT c vr) 83 (0,0)::R) from bw (.succ .zero) aX) ?_;refine aZ rfl rfl (hI _ e gw [] yw _ (bB .zero rfl zl) (by decide)) ?_;rintro _ _ ⟨rfl,rfl⟩;refine wB ?_;refine aZ rfl rfl (gF _ e gw _ c.size zo (by decide)) ?_;rintro _ _ ⟨rfl,rfl⟩;refine wB ?_;refine aZ rfl rfl (hI _ e gw _ c.root vr hv.tail.tail (by rw [aa,cY];simp only [List.nil_append,show yw.length=17 from rfl];omega)) ?_;rintro _ _ ⟨rfl,rfl⟩;rw [show []++yw++be c.size 4++c.root=l3 c by simp [l3]];refine wB ?_;refine aZ rfl rfl (hJ _ e gw _ (by rw [oZ hc];omega)) ?_;rintro _ _ ⟨ad,k,rfl,rfl⟩;refine wB ?_;exact aY (cT (.slice ad (l3 c).length k) (l3 c)::R) rfl zE ⟨ad,k,rfl,rfl⟩
theorem G2 (v vr:Value) (seed:List UInt8) (i n:Nat) (c:jg) (hv:db R v seed) (JV:seed.length=32) (hi:i<16) (hn:n<4) (hr:db R vr c.root) (hc:c.right) :
 Ct prog 113 #[v,.int .i64 (i:Int),.int .i64 (n:Int),.agg (iT c vr).toArray] e R (fun v' L'=>∃ (M:cK) (up uq:Value),v'=.tuple #[.agg (iB (Bj seed i n c) up uq).toArray,.int .i64 0]∧fN [M] up uq (Bj seed i n c).sig∧L'=M::R):=by
 refine a7 (cz hv) fun o0=>?_
 refine a7 (cz hr) fun o1=>?_
 have oT:=oZ hc;have wa:=hc.1;have wZ:=hc.2;refine bI (args:=[_,_,_,_]) func113 rfl ntmps113 results113 rfl ?_
 (repeat (refine wA ?_;intros))
 rename_i g1 g2;refine aZ rfl rfl (qX _ e n) ?_;rintro _ _ ⟨rfl,rfl⟩;rw [ay hn];refine wB ?_;refine aZ rfl rfl (gI _ e vr c (hr.cM zE)) ?_;rintro _ _ ⟨rfl,rfl⟩;rw [ay hc];refine wB ?_;refine aZ rfl rfl (yA _ e vr c (hr.cM zE) hc) ?_;rintro _ _ ⟨ad,k,rfl,rfl⟩
 (repeat' first|refine Za ?_|refine Zb ?_|apply Zc|apply Zd|apply Ze|apply Zf|refine Zi ?_|refine Zj ?_|refine Zu ?_|refine Zy ?_|refine Zz ?_|refine ZP ?_|refine ZQ ?_|refine Yd ?_|refine Ye ?_|refine Yg fun _=>?_|refine Yh fun _=>?_|refine Yz ?_|refine YA ?_|apply YB|apply YC|apply YE|apply YF|apply YH|apply YI|refine YN ?_|refine YQ ?_|refine YR ?_|(apply O.dh;exact rfl;exact zP;(first|(simp only [aC,Nat.add_zero,Nat.reduceAdd,List.drop_succ_cons,List.drop_zero,List.take_succ_cons,List.take_zero];done)|(simp only [aC,Nat.add_zero,Nat.reduceAdd,List.drop_succ_cons,List.drop_zero,List.take_succ_cons,List.take_zero];exact rfl));exact rfl;exact rfl))
 refine aZ rfl rfl (yq _ e v (.slice ad (l3 c).length k) seed (l3 c) i (hv.cM zE) JV hi (bb zP) zo) ?_;rintro _ _ ⟨M,vp,vq,rfl,hM,rfl⟩;refine bn (hM.cM zE).parts.one fun o4=>?_
 refine bn (hM.cM zE).path.one fun o5=>?_
 (repeat (refine wA ?_;intros))
 apply br
 ·exact zV
 exact ⟨M::R,zE,M,vp,vq,rfl,hM,rfl⟩
theorem qp {n:Nat} (h:n<256):Value.int .u8 (n:Int)=u8 (UInt8.ofNat n):=by
 unfold u8;rw [UInt8.toNat_ofNat',Nat.mod_eq_of_lt zo]
theorem Bn (g:Nat) (l:List UInt8) (vp vq:Value) (s:kQ) (hs:fN R vp vq s.sig) (hn:s.fY<4) (hr:s.sig.right) (hl:l.length≤1000000) :
 Ct prog 126 #[pt g,.agg (iB s vp vq).toArray] e (Writer g l::R) (fun v' L'=>v'=.bool true∧L'=Writer g (l++eV s)::R):=by
 refine a7 (hs.tail).parts.one fun o2=>?_
 refine a7 (hs.tail).path.one fun o3=>?_
 have DS:=gR hr;refine a8 (args:=[_,_]) func126 rfl ntmps126 results126 rfl ?_
 (repeat' first|refine Zb ?_|apply Zc|apply Zd|apply Ze|apply Zf|refine Zh ?_|refine Yg fun _=>?_|(apply O.dh;exact rfl;exact zP;(first|(simp only [aC,Nat.add_zero,Nat.reduceAdd,List.drop_succ_cons,List.drop_zero,List.take_succ_cons,List.take_zero];done)|(simp only [aC,Nat.add_zero,Nat.reduceAdd,List.drop_succ_cons,List.drop_zero,List.take_succ_cons,List.take_zero];exact rfl));exact rfl;exact rfl))
 rename_i g1;refine aZ rfl rfl (ub _ e vp vq s.sig (hs.cM zE) hr) ?_;rintro _ _ ⟨ad,k,rfl,rfl⟩;refine wB ?_;refine aZ rfl rfl (qX _ e s.fY) ?_;rintro _ _ ⟨rfl,rfl⟩;rw [ay hn];refine wB ?_;rw [qp zo]
 (repeat' first|refine Za ?_|refine Zb ?_|apply Zc|apply Zd|apply Ze|apply Zf|refine Zh ?_|refine Zi ?_|refine Zj ?_|refine Zl ?_|refine Zm ?_|refine Zn ?_|refine Zo ?_|refine Zq ?_|refine Zs ?_|refine Zt ?_|refine Zu ?_|refine Zy ?_|refine Zz ?_|refine ZM ?_|refine ZN ?_|refine ZO (fun _=>?_) fun _=>?_|refine ZP ?_|refine ZQ ?_|refine ZY ?_|refine ZZ ?_|refine Z6 ?_|refine Z7 ?_|refine Z8 ?_|refine Yf ?_|refine Yg fun _=>?_|refine Yz ?_|refine YA ?_|apply YC|apply YE|apply YF|refine YN ?_|(apply O.dh;exact rfl;exact zP;(first|(simp only [aC,Nat.add_zero,Nat.reduceAdd,List.drop_succ_cons,List.drop_zero,List.take_succ_cons,List.take_zero];done)|(simp only [aC,Nat.add_zero,Nat.reduceAdd,List.drop_succ_cons,List.drop_zero,List.take_succ_cons,List.take_zero];exact rfl));exact rfl;exact rfl))
 refine aZ rfl rfl (Ct.at zP (mC _ e g l (UInt8.ofNat s.fY) zo)) ?_;rintro _ _ ⟨rfl,rfl⟩;refine wB ?_;refine aZ rfl rfl (hI _ e g _ (fI s.sig) (.slice ad (fI s.sig).length k) (bb zP) (by rw [aa,aj];omega)) ?_;rintro _ _ ⟨rfl,rfl⟩;rw [show l++[UInt8.ofNat s.fY]++fI s.sig=l++eV s by simp [eV]];refine wB ?_;exact aY (Writer g (l++eV s)::R) rfl zE ⟨rfl,rfl⟩
theorem Bo (g:Nat) (s:kQ) (r:List UInt8) (hn:s.fY<4) (hr:s.sig.right) (hl:r.length≤1000000) :
 Ct prog 213 #[pt g] e (Reader g ⟨eV s++r,false⟩::R) (fun v' L'=>∃ (M:cK) (up uq:Value),v'=.tuple #[.agg (iB s up uq).toArray,.bool true]∧fN [M] up uq s.sig∧L'=Reader g ⟨r,false⟩::M::R):=by
 have DS:=gR hr;rw [show eV s++r=UInt8.ofNat s.fY::(fI s.sig++r) by simp [eV]];refine bI (args:=[_]) func213 rfl ntmps213 results213 rfl ?_
 (repeat (refine wA ?_;intros))
 refine aZ rfl rfl (Ct.at zP (vo _ e g (UInt8.ofNat s.fY) _)) ?_;rintro _ _ ⟨rfl,rfl⟩;rw [← qp zo];refine wB ?_;refine aZ rfl rfl (x8 _ e g 2180 (fI s.sig) r DS (by rw [aa];omega)) ?_;rintro _ _ ⟨dW,c2,rfl,rfl⟩
 (repeat' first|refine Za ?_|refine Zb ?_|apply Zc|apply Zd|apply Ze|apply Zf|refine Zi ?_|refine Zj ?_|refine Zl ?_|refine Zm ?_|refine Zn ?_|refine Zo ?_|refine Zq ?_|refine Zs ?_|refine Zt ?_|refine Zu ?_|refine Zy ?_|refine Zz ?_|refine ZM ?_|refine ZN ?_|refine ZO (fun _=>?_) fun _=>?_|refine ZP ?_|refine ZQ ?_|refine ZY ?_|refine ZZ ?_|refine Z6 ?_|refine Z7 ?_|refine Z8 ?_|refine Yd ?_|refine Ye ?_|refine Yf ?_|refine Yh fun _=>?_|refine Yz ?_|refine YA ?_|apply YC|apply YE|apply YF|refine YN ?_|refine YQ ?_|refine YR ?_|(apply O.dh;exact rfl;exact zP;(first|(simp only [aC,Nat.add_zero,Nat.reduceAdd,List.drop_succ_cons,List.drop_zero,List.take_succ_cons,List.take_zero];done)|(simp only [aC,Nat.add_zero,Nat.reduceAdd,List.drop_succ_cons,List.drop_zero,List.take_succ_cons,List.take_zero];exact rfl));exact rfl;exact rfl))
 refine aZ rfl rfl (tZ _ e (.slice dW (fI s.sig).length c2) s.sig (bb .zero) hr) ?_;rintro _ _ ⟨M,vp,vq,rfl,hM,rfl⟩;refine bn (hM.cM zE).parts.one fun o4=>?_
 refine bn (hM.cM zE).path.one fun o5=>?_
 (repeat (refine wA ?_;intros))
 refine aZ rfl rfl (qX _ e s.fY) ?_;rintro _ _ ⟨rfl,rfl⟩;rw [ay hn];refine wB ?_;apply br
 ·exact zV
 exact ⟨Reader g ⟨r,false⟩::M::R,zE,M,vp,vq,rfl,hM,rfl⟩
theorem mg (vl vw vr vp vq:Value) (p:jH) (c:jg) (g:kQ) (hp:j8 R vl vw p) (sW:p.right) (hr:db R vr c.root) (hc:c.right) (hs:fN R vp vq g.sig) :
 Ct prog 290 #[.agg (lG p vl vw).toArray,.agg (iT c vr).toArray,.agg (iB g vp vq).toArray] e R (fun v' L'=>v'=.bool (decide (g.hO p c))∧R=L'):=by
 have oT:=oZ hc;have aez:=sW.fG;have hp0:=hp;obtain ⟨h1,ts,fB,hv,ht⟩:=hp0;have hl:p.ey.length=ts.length:=by rw [← fB,ab]
 refine a7 (cz h1) fun o1=>?_
 refine a7 (cz hr) fun o2=>?_
 refine a7 hs.parts.one fun o3=>?_
 refine a7 hs.path.one fun o4=>?_
 refine a7 (hv.shape zo) ?_;rintro ⟨⟨wm,cap,rfl,h3,h4,h5,h6⟩,_⟩;simp only [maxLen] at h4
 refine a8 (args:=[_,_,_]) func290 rfl ntmps290 results290 rfl ?_
 (repeat (refine wA ?_;intros))
 rename_i g1 g2 g3;refine aZ rfl rfl (j9 _ e vl _ p (hp.cM zE) sW) ?_;rintro _ _ ⟨rfl,rfl⟩;refine wB ?_;refine aZ rfl rfl (gI _ e vr c (hr.cM zE)) ?_;rintro _ _ ⟨rfl,rfl⟩;rw [ay hc]
 by_cases hw:g.fY<ts.length
 rotate_left
 ·rw [aq (fun q:g.hO p c=>hw (by rw [← hl];exact q.1))];refine wB ?_;exact aY R rfl zE ⟨rfl,rfl⟩
 rcases h6 with h6|⟨gl,ol,rfl⟩
 ·omega
 have iX:Rd R ⟨gl,ol+g.fY,none⟩ (ts[g.fY]'hw).1:=hv.elem (by rw [aL,ae hw];rfl);have ju:=ht _ (ax hw);have tg:p.ey.getD g.fY []=(ts[g.fY]'hw).2:=by rw [← fB,fa hw]
 generalize ts[g.fY]'hw=y at *
 obtain ⟨yv,b⟩:=y;dsimp only at iX ju tg
 refine wB ?_;refine bk (id:=3) [11] (cL g1 (lG p vl (.slice (some ⟨gl,ol,none⟩) ts.length cap)) 106 (0,0)::cL g2 (iT c vr) 83 (0,0)::cL g3 (iB g vp vq) 96 (0,0)::R) mixed ?_
 (refine tF 0 ?_;refine tL 1 ?_;refine tF 2 ?_;refine tL 3 ?_;refine tk 4 _ rfl (cE.iy rfl rfl zo) ?_;refine tL 5 ?_;refine tJ 6 ?_;refine tF 8 ?_;refine tk 9 _ rfl (cE.dh rfl zP zI zX) ?_)
 refine tO 7 ?_;refine bg rfl rfl (yA _ e vr c (hr.cM zE) hc) ?_;rintro _ _ ⟨ad,k,rfl,rfl⟩;refine ⟨fun _=>zE,A.fS zE ?_⟩;refine tO 10 ?_;refine bg rfl rfl (tX _ e yv (.slice ad (l3 c).length k) vp vq b (l3 c) g.sig (ju.cM zE) (bb zP) zo (hs.cM zE)) ?_;rintro _ _ ⟨rfl,rfl⟩;refine ⟨fun _=>zE,A.fS zE ?_⟩;rw [show decide (xd b (l3 c) g.sig)=decide (g.hO p c) from decide_eq_decide.2 ⟨fun q=>⟨by rw [hl];exact hw,by rw [tg];exact q⟩,fun q=>by have:=q.2;rw [tg] at this;exact this⟩]
 ((refine tO 11 ?_;refine dV (bj rfl) ?_))
 refine bf zK ?_;refine wB ?_;exact aY R rfl zE ⟨rfl,rfl⟩
theorem wC (va vb:Value) (a b:List (List UInt8)) (ha:mR R va a) (hb:mR R vb b) (hla:a.length≤1000000) (hlb:b.length≤1000000) :
 Ct prog 309 #[va,vb,.func (.func 99) #[] #[]] e R (fun v' L'=>v'=.bool (decide (a=b))∧R=L'):=by
 obtain ⟨ts,rfl,hv,ht⟩:=ha;obtain ⟨us,rfl,hw,hu⟩:=hb;rw [ab] at hla hlb
 refine a7 (hv.shape zo) ?_;rintro ⟨⟨ei,VB,rfl,h3,h4,h5,h6⟩,_⟩;refine a7 (hw.shape zo) ?_;rintro ⟨⟨dW,Ad,rfl,w3,w4,w5,w6⟩,_⟩;refine a8 (args:=[_,_,_]) func309 rfl ntmps309 results309 rfl ?_
 by_cases h:ts.length=us.length
 rotate_left
 ·rw [aq (fun q=>h (by have:=congrArg List.length q;simpa using this))];refine wB ?_;exact aY R rfl aX ⟨rfl,rfl⟩
 refine wB ?_;refine bq (ι:=Nat) (fun i=>[(0,.slice ei ts.length VB),(1,.slice dW us.length Ad),(2,.func (.func 99) #[] #[]),(15,.slice ei ts.length VB),(16,.int .i64 (ts.length:Int)),(17,.int .i64 (i:Int))]) (fun _=>R) (fun i=>i≤ts.length∧(ts.map (·.2)).take i=(us.map (·.2)).take i) (fun i=>ts.length - i) 0 ⟨aH _,by simp⟩ zS aX ?_;rintro i ⟨hi,fq⟩
 by_cases cP:i<ts.length
 rotate_left
 ·rw [aG (by rw [ab];omega),aG (by rw [ab];omega)] at fq
  rw [ay fq];refine wB ?_;exact aY R rfl aX ⟨rfl,rfl⟩
 rcases h6 with h6|⟨gl,ol,rfl⟩
 ·omega
 rcases w6 with w6|⟨gm,om,rfl⟩
 ·omega
 have QL:i<us.length:=by omega
 have OQ:Rd R ⟨gl,ol+i,none⟩ (ts[i]'cP).1:=hv.elem (by rw [aL,ae cP];rfl);have RI:Rd R ⟨gm,om+i,none⟩ (us[i]'QL).1:=hw.elem (by rw [aL,ae QL];rfl);have Og:=ht _ (ax cP);have hu1:=hu _ (ax QL)
 have hn:(ts[i]'cP).2=(us[i]'QL).2→(ts.map (·.2)).take (i+1)=(us.map (·.2)).take (i+1):=fun q=>by
  rw [aD (by rw [ab];exact cP),aD (by rw [ab];exact QL),fq,List.getElem_map,List.getElem_map,q]
 have oG:¬ (ts[i]'cP).2=(us[i]'QL).2→¬ ts.map (·.2)=us.map (·.2):=fun q r=>q (by
  have:=congrArg (fun l=>l.getD i []) r
  rwa [fa cP,fa QL] at this)
 generalize ts[i]'cP=y at *
 generalize us[i]'QL=z at *
 obtain ⟨yv,yb⟩:=y;obtain ⟨zv,zb⟩:=z;dsimp only at OQ RI Og hu1 hn oG
 refine wB ?_;refine O.gD (us:=[]) (ws:=[]) rfl rfl rfl (iP _ e yv zv yb zb Og hu1) ?_;rintro _ _ ⟨rfl,rfl⟩
 by_cases Xt:yb=zb
 rotate_left
 ·rw [aq Xt,aq (oG Xt)];refine wB ?_;exact aY R rfl aX ⟨rfl,rfl⟩
 rw [ay Xt];refine wB ?_;exact bi (i+1) ⟨cP,hn Xt⟩ zo zS aX
theorem G3 (vp vq up uq:Value) (a b:xc) (ha:fN R vp vq a) (hb:fN R up uq b) :
 Ct prog 289 #[.agg (yo a vp vq).toArray,.agg (yo b up uq).toArray] e R (fun v' L'=>v'=.bool (decide (a=b))∧R=L'):=by
 have O1:a=b↔a.idx=b.idx∧a.parts=b.parts∧a.path=b.path:=by cases a;cases b;simp
 obtain ⟨a1,a2,a3⟩:=ha;obtain ⟨b1,b2,b3⟩:=hb;refine a7 a1.one fun o1=>?_
 refine a7 a2.one fun o2=>?_
 refine a7 b1.one fun o3=>?_
 refine a7 b2.one fun o4=>?_
 refine a8 (args:=[_,_]) func289 rfl ntmps289 results289 rfl ?_
 by_cases h1:a.idx=b.idx
 rotate_left
 ·rw [aq (fun q=>h1 (O1.1 q).1)]
  (repeat (refine wA ?_;intros))
  exact aY R rfl zE ⟨rfl,rfl⟩
 (repeat (refine wA ?_;intros))
 refine aZ rfl rfl (wC _ e vp up a.parts b.parts (a1.cM zE) (b1.cM zE) zo zo) ?_;rintro _ _ ⟨rfl,rfl⟩
 by_cases h2:a.parts=b.parts
 rotate_left
 ·rw [aq h2,aq (fun q=>h2 (O1.1 q).2.1)];refine wB ?_;exact aY R rfl zE ⟨rfl,rfl⟩
 rw [ay h2];refine wB ?_;refine aZ rfl rfl (wC _ e vq uq a.path b.path (a2.cM zE) (b2.cM zE) zo zo) ?_;rintro _ _ ⟨rfl,rfl⟩;rw [show decide (a.path=b.path)=decide (a=b) from decide_eq_decide.2 (by rw [O1];exact ⟨fun q=>⟨h1,h2,q⟩,fun q=>q.2.2⟩)];refine wB ?_;exact aY R rfl zE ⟨rfl,rfl⟩
theorem G4 (vp vq up uq:Value) (a b:kQ) (ha:fN R vp vq a.sig) (hb:fN R up uq b.sig) :
 Ct prog 253 #[.agg (iB a vp vq).toArray,.agg (iB b up uq).toArray] e R (fun v' L'=>v'=.bool (decide (a=b))∧R=L'):=by
 have O1:a=b↔a.fY=b.fY∧a.sig=b.sig:=by cases a;cases b;simp
 refine a7 ha.parts.one fun o1=>?_
 refine a7 ha.path.one fun o2=>?_
 refine a7 hb.parts.one fun o3=>?_
 refine a7 hb.path.one fun o4=>?_
 refine a8 (args:=[_,_]) func253 rfl ntmps253 results253 rfl ?_
 by_cases h1:a.fY=b.fY
 rotate_left
 ·rw [aq (fun q=>h1 (O1.1 q).1)]
  (repeat (refine wA ?_;intros))
  exact aY R rfl zE ⟨rfl,rfl⟩
 (repeat' first|refine Za ?_|refine Zb ?_|apply Zc|apply Zd|apply Ze|apply Zf|refine Zh ?_|refine Zi ?_|refine Zn ?_|refine ZM ?_|refine Yg fun _=>?_|(apply O.dh;exact rfl;exact zP;(first|(simp only [aC,Nat.add_zero,Nat.reduceAdd,List.drop_succ_cons,List.drop_zero,List.take_succ_cons,List.take_zero];done)|(simp only [aC,Nat.add_zero,Nat.reduceAdd,List.drop_succ_cons,List.drop_zero,List.take_succ_cons,List.take_zero];exact rfl));exact rfl;exact rfl))
 refine aZ rfl rfl (G3 _ e vp vq up uq a.sig b.sig (ha.cM zE) (hb.cM zE)) ?_;rintro _ _ ⟨rfl,rfl⟩;rw [show decide (a.sig=b.sig)=decide (a=b) from decide_eq_decide.2 (by rw [O1];exact ⟨fun q=>⟨h1,q⟩,fun q=>q.2⟩)];refine wB ?_;exact aY R rfl zE ⟨rfl,rfl⟩
def rM (s:List Nat):List Value:=[.bool (decide (0∈s)),.bool (decide (1∈s)),.bool (decide (2∈s)),.bool (decide (3∈s))]
theorem nX {s:List Nat}:rM s=[.bool (decide (0∈s)),.bool (decide (1∈s)),.bool (decide (2∈s)),.bool (decide (3∈s))]:=rfl
theorem RX {s:List Nat}:rM (0::s)=[.bool true,.bool (decide (1∈s)),.bool (decide (2∈s)),.bool (decide (3∈s))]:=by simp [rM]
theorem RY {s:List Nat}:rM (1::s)=[.bool (decide (0∈s)),.bool true,.bool (decide (2∈s)),.bool (decide (3∈s))]:=by simp [rM]
theorem RZ {s:List Nat}:rM (2::s)=[.bool (decide (0∈s)),.bool (decide (1∈s)),.bool true,.bool (decide (3∈s))]:=by simp [rM]
theorem R5 {s:List Nat}:rM (3::s)=[.bool (decide (0∈s)),.bool (decide (1∈s)),.bool (decide (2∈s)),.bool true]:=by simp [rM]
theorem countP_cons {p:jH} {c:jg} {g:kQ} {l:List kQ} {s:List Nat}:countP p c (g::l) s=if g.fY<4∧¬ g.fY∈s∧g.hO p c then 1+countP p c l (g.fY::s) else countP p c l s:=by rw [countP]
theorem EA (vl vw vr v:Value) (p:jH) (c:jg) (gs:List kQ) (hp:j8 R vl vw p) (sW:p.right) (hr:db R vr c.root) (hc:c.right) (hs:pa R v gs) (hl:gs.length≤1000) :
 Ct prog 301 #[.agg (lG p vl vw).toArray,.agg (iT c vr).toArray,v,.func (.func 290) #[] #[]] e R (fun v' L'=>v'=.int .i64 (countP p c gs []:Nat)∧R=L'):=by
 obtain ⟨ts,rfl,hv,ht⟩:=hs;rw [ab] at hl
 refine a7 (cz hp.log) fun o1=>?_
 refine a7 hp.ey.one fun o2=>?_
 refine a7 (cz hr) fun o3=>?_
 refine a7 (hv.shape zo) ?_;rintro ⟨⟨wm,cap,rfl,h3,h4,h5,h6⟩,_⟩;simp only [maxLen] at h4
 refine a8 (args:=[_,_,_,_]) func301 rfl ntmps301 results301 rfl ?_
 (repeat (refine wA ?_;intros))
 rename_i g1 g2 g3;refine bq (ι:=Nat × Nat × List Nat) (fun i=>[(3,.func (.func 290) #[] #[]),(4,pt g1),(5,pt g2),(9,.int .i64 (i.2.1:Int)),(10,pt g3),(13,.slice wm ts.length cap),(14,.int .i64 (ts.length:Int)),(15,.int .i64 (i.1:Int))]) (fun i=>cL g3 (rM i.2.2) 402 (0,0)::cL g2 (iT c vr) 83 (0,0)::cL g1 (lG p vl vw) 106 (0,0)::R) (fun i=>i.1≤ts.length∧i.2.1≤i.1∧i.2.1+countP p c ((ts.map (·.1)).drop i.1) i.2.2=countP p c (ts.map (·.1)) []) (fun i=>ts.length - i.1) (0,0,[]) ⟨aH _,aS _,by simp⟩ zS zE ?_;rintro ⟨i,n,s⟩ ⟨hi,hn,z8⟩;dsimp only at hi hn z8
 by_cases cP:i<ts.length
 rotate_left
 ·rw [List.drop_eq_nil_of_le (by rw [ab];omega)] at z8
  simp only [countP,Nat.add_zero] at z8
  rw [← z8];refine wB ?_;exact aY R rfl zE ⟨rfl,rfl⟩
 rcases h6 with h6|⟨gl,ol,rfl⟩
 ·omega
 have G5:dZ R gl (ol+i*4) (jo.cells (ts[i]'cP)):=dZ.elem hv jo.len (ae cP);have ju:=ht _ (ax cP);have Eg:(ts.map (·.1)).drop i=(ts[i]'cP).1::(ts.map (·.1)).drop (i+1):=by rw [List.drop_eq_getElem_cons (by rw [ab];exact cP),List.getElem_map]
 generalize ts[i]'cP=y at *
 obtain ⟨⟨w,sg⟩,up,uq⟩:=y;rw [Eg,countP_cons] at z8
 obtain ⟨Mv,aao⟩:=ju;dsimp only at z8 G5 Mv aao
 refine bD (Mv.cM zE).parts.one fun o4=>?_
 refine bD (Mv.cM zE).path.one fun o5=>?_
 (repeat (refine wA ?_;intros))
 rename_i g4;refine aZ rfl rfl (qX _ e w) ?_;rintro _ _ ⟨rfl,rfl⟩
 by_cases hw:w<4
 rotate_left
 ·rw [aq hw];rw [aB (fun q=>hw q.1)] at z8
  refine wB ?_;exact bi (i+1,n,s) ⟨cP,by dsimp only;omega,z8⟩ zd zS zE
 rw [ay hw]
 by_cases OY:w∈s
 ·rw [aB (fun q=>q.2.1 OY)] at z8
  rcases (show w=0∨w=1∨w=2∨w=3 by omega) with rfl|rfl|rfl|rfl
  all_goals
   simp only [nX (s:=s),ay OY]
   (repeat' first|refine Y2 ?_|refine Za ?_|apply Zd|apply Ze|apply Zf|refine Zh ?_|refine Zi ?_|refine Zl ?_|refine Zm ?_|refine Zn ?_|refine Zo ?_|refine Zy ?_|refine ZS ?_|refine YA ?_|apply YC|apply YH)
   refine bi (i+1,n,s) ⟨cP,by dsimp only;omega,z8⟩ zd zS ?_;simp only [nX (s:=s),ay OY];exact zE
 by_cases J9:kQ.hO ⟨w,sg⟩ p c
 ·rw [aI ⟨hw,OY,J9⟩,← Nat.add_assoc] at z8
  rcases (show w=0∨w=1∨w=2∨w=3 by omega) with rfl|rfl|rfl|rfl
  all_goals
   simp only [nX (s:=s),aq OY]
   (repeat' first|refine Y2 ?_|refine Za ?_|refine Zh ?_|refine Zi ?_|refine Zj ?_|refine Zl ?_|refine Zn ?_|refine Zz ?_|fail)
   refine O.gD (us:=[]) (ws:=[]) rfl rfl rfl (mg _ e vl vw vr up uq p c ⟨_,sg⟩ (hp.cM zE) sW (hr.cM zE) hc (Mv.cM zE)) ?_;rintro _ _ ⟨rfl,rfl⟩;rw [ay J9]
   (repeat' first|refine Y2 ?_|refine Za ?_|refine Zb ?_|apply Zc|apply Zd|apply Ze|apply Zf|refine Zh ?_|refine Zi ?_|refine Zl ?_|refine ZS ?_|refine Yd ?_|refine Yz ?_|apply YH)
   refine bi (i+1,n+1,_::s) ⟨cP,by dsimp only;omega,z8⟩ zd zS ?_;dsimp only
   first|rw [RX]|rw [RY]|rw [RZ]|rw [R5]
   exact zE
 ·rw [aB (fun q=>J9 q.2.2)] at z8
  rcases (show w=0∨w=1∨w=2∨w=3 by omega) with rfl|rfl|rfl|rfl
  all_goals
   simp only [nX (s:=s),aq OY]
   (repeat' first|refine Y2 ?_|refine Za ?_|refine Zh ?_|refine Zi ?_|refine Zj ?_|refine Zl ?_|refine Zn ?_|refine Zz ?_|fail)
   refine O.gD (us:=[]) (ws:=[]) rfl rfl rfl (mg _ e vl vw vr up uq p c ⟨_,sg⟩ (hp.cM zE) sW (hr.cM zE) hc (Mv.cM zE)) ?_;rintro _ _ ⟨rfl,rfl⟩;rw [aq J9];refine wB ?_;refine bi (i+1,n,s) ⟨cP,by dsimp only;omega,z8⟩ zd zS ?_;simp only [nX (s:=s),aq OY];exact zE
theorem EB (vl vw vr v:Value) (p:jH) (c:jg) (gs:List kQ) (hp:j8 R vl vw p) (sW:p.right) (hr:db R vr c.root) (hc:c.right) (hs:pa R v gs) (hl:gs.length≤1000) :
 Ct prog 269 #[.agg (lG p vl vw).toArray,.agg (iT c vr).toArray,v] e R (fun v' L'=>v'=.int .i64 (countP p c gs []:Nat)∧R=L'):=by
 refine a7 (cz hp.log) fun o1=>?_
 refine a7 hp.ey.one fun o2=>?_
 refine a7 (cz hr) fun o3=>?_
 refine a8 (args:=[_,_,_]) func269 rfl ntmps269 results269 rfl ?_
 (repeat (refine wA ?_;intros))
 refine aZ rfl rfl (EA _ e vl vw vr v p c gs (hp.cM zE) sW (hr.cM zE) hc (hs.cM zE) hl) ?_;rintro _ _ ⟨rfl,rfl⟩;refine wB ?_;exact aY R rfl zE ⟨rfl,rfl⟩
theorem Ka (vl vw vr v:Value) (p:jH) (c:jg) (gs:List kQ) (hp:j8 R vl vw p) (sW:p.right) (hr:db R vr c.root) (hc:c.right) (hs:pa R v gs) (hl:gs.length≤1000) :
 Ct prog 215 #[.agg (lG p vl vw).toArray,.agg (iT c vr).toArray,v] e R (fun v' L'=>v'=.bool (decide (ue p c gs))∧R=L'):=by
 refine a7 (cz hp.log) fun o1=>?_
 refine a7 hp.ey.one fun o2=>?_
 refine a7 (cz hr) fun o3=>?_
 refine a8 (args:=[_,_,_]) func215 rfl ntmps215 results215 rfl ?_
 (repeat (refine wA ?_;intros))
 rename_i g1 g2;refine bk (id:=1) [11] (cL g1 (lG p vl vw) 106 (0,0)::cL g2 (iT c vr) 83 (0,0)::R) mixed ?_
 (refine tJ 0 ?_)
 refine tO 1 ?_;refine bg rfl rfl (j9 _ e vl vw p (hp.cM zE) sW) ?_;rintro _ _ ⟨rfl,rfl⟩;refine ⟨fun _=>zE,A.fS zE ?_⟩
 (refine tM 2 ?_;refine dv 3 _ rfl (cE.dx rfl zA zX) ?_;refine dv 4 _ rfl (cE.dx rfl zA zX) ?_;refine dv 5 _ rfl (bu rfl) ?_;refine dv 7 _ rfl (ba rfl) ?_;refine dv 8 _ rfl (bp rfl zR) ?_)
 refine A.ru 6 rfl rfl zK ?_;refine bg rfl rfl (EB _ e vl vw vr v p c gs (hp.cM zE) sW (hr.cM zE) hc (hs.cM zE) hl) ?_;rintro _ _ ⟨rfl,rfl⟩;refine ⟨fun _=>zE,A.fS zE ?_⟩
 by_cases hm:ue p c gs
 ·have Cg:=hm;unfold ue at Cg
  rw [ay hm]
  (refine dv 9 (.bool true) rfl (cE.iW (bS rfl rfl) zy) ?_;refine tk 10 _ rfl (bL rfl rfl) ?_;(refine tO 11 ?_;refine dV (bj rfl) ?_))
  refine bf zK ?_;refine wB ?_;exact aY R rfl zE ⟨rfl,rfl⟩
 ·have Cg:=hm;unfold ue at Cg
  rw [aq hm]
  (refine dv 9 (.bool false) rfl (cE.no (bS rfl rfl) zn) ?_;refine tk 10 _ rfl (bL rfl rfl) ?_;(refine tO 11 ?_;refine dV (bj rfl) ?_))
  refine bf zK ?_;refine wB ?_;exact aY R rfl zE ⟨rfl,rfl⟩
theorem G6 (l:List UInt8) (hl:l.length≤1000000) :
 Ct prog 200 #[.string (str l)] e R (fun v' L'=>v'=.bool (decide (pK l))∧R=L'):=by
 have lq:=sZ l;refine a8 (args:=[_]) func200 rfl ntmps200 results200 rfl ?_
 by_cases h1:1≤l.length
 rotate_left
 ·rw [aq (fun q:pK l=>h1 q.1)];refine wB ?_;exact aY R rfl aX ⟨rfl,rfl⟩
 by_cases h2:l.length≤20
 rotate_left
 ·rw [aq (fun q:pK l=>h2 q.2.1)];refine wB ?_;exact aY R rfl aX ⟨rfl,rfl⟩
 refine wB ?_;refine bq (ι:=Nat) (fun i=>[(0,.string (str l)),(13,.int .i64 ((str l).size:Int)),(14,.int .i64 (i:Int))]) (fun _=>R) (fun i=>i≤l.length∧∀ b∈l.take i,97≤b.toNat∧b.toNat≤122) (fun i=>l.length - i) 0 ⟨aH _,fun b hb=>by simp at hb⟩ zS aX ?_;rintro i ⟨hi,eU⟩
 by_cases cP:i<l.length
 rotate_left
 ·rw [aG zo] at eU
  rw [ay (show pK l from ⟨h1,h2,eU⟩)];refine wB ?_;exact aY R rfl aX ⟨rfl,rfl⟩
 have J2:∃ h:i<(str l).size,(str l)[i].toNat=(l[i]'cP).toNat:=⟨by omega,rfl⟩
 refine wB ?_;refine O.GL rfl rfl J2 rfl ?_
 by_cases h3:97≤(l[i]'cP).toNat
 rotate_left
 ·rw [aq (fun q:pK l=>h3 (q.2.2 _ (ax cP)).1)];refine wB ?_;exact aY R rfl aX ⟨rfl,rfl⟩
 refine wB ?_;refine O.GL rfl rfl J2 rfl ?_
 by_cases h4:(l[i]'cP).toNat≤122
 rotate_left
 ·rw [aq (fun q:pK l=>h4 (q.2.2 _ (ax cP)).2)];refine wB ?_;exact aY R rfl aX ⟨rfl,rfl⟩
 refine wB ?_
 exact bi (i+1) ⟨cP,fun b hb=>by
  rw [aD cP] at hb
  rcases aJ.1 hb with hb|hb
  ·exact eU b hb
  ·rw [an.1 hb];exact ⟨h3,h4⟩⟩ zo zS aX
theorem wD (vf vn:Value) (m:DE) (hf:db R vf m.fw) (hn:db R vn m.notes) (hl:m.name.length≤1000000) :
 Ct prog 115 #[.agg (tQ m vf vn).toArray] e R (fun v' L'=>v'=.bool (decide m.right)∧R=L'):=by
 refine a7 (cF.shape hf zo) ?_;rintro ⟨⟨ad,cap,rfl,h3,h4,h5,h6⟩,_⟩;refine a7 (cF.shape hn zo) ?_;rintro ⟨⟨dW,Ad,rfl,w3,w4,w5,w6⟩,_⟩;refine a8 (args:=[_]) func115 rfl ntmps115 results115 rfl ?_
 (repeat (refine wA ?_;intros))
 refine aZ rfl rfl (G6 _ e m.name hl) ?_;rintro _ _ ⟨rfl,rfl⟩
 by_cases h1:pK m.name
 rotate_left
 ·rw [aq h1,aq (fun q:m.right=>h1 q.1)];refine wB ?_;exact aY R rfl zE ⟨rfl,rfl⟩
 rw [ay h1]
 by_cases h2:0<m.hO
 rotate_left
 ·rw [aq (fun q:m.right=>h2 q.2.1)];refine wB ?_;exact aY R rfl zE ⟨rfl,rfl⟩
 by_cases h3:m.fw.length=32
 rotate_left
 ·rw [aq (fun q:m.right=>h3 q.2.2.1)];refine wB ?_;exact aY R rfl zE ⟨rfl,rfl⟩
 by_cases h4:m.notes.length≤64
 rotate_left
 ·rw [aq (fun q:m.right=>h4 q.2.2.2)];refine wB ?_;exact aY R rfl zE ⟨rfl,rfl⟩
 rw [ay (show m.right from ⟨h1,h2,h3,h4⟩)];refine wB ?_;exact aY R rfl zE ⟨rfl,rfl⟩
theorem uf (v:Value) (b:List UInt8) (hv:db R v b) (hb:b.length≤1000000) :
 Ct prog 168 #[v] e R (fun v' L'=>∃ ad c,v'=.slice ad (cZ b).length c∧L'=cT (.slice ad (cZ b).length c) (cZ b)::R):=by
 refine a8 (args:=[_]) func168 rfl ntmps168 results168 rfl ?_;refine wB ?_;refine aZ rfl rfl (qU _ e v b hv zo) ?_;rintro _ _ ⟨ad,c,rfl,rfl⟩;refine wB ?_;exact aY _ rfl aX ⟨ad,c,rfl,rfl⟩
abbrev iZ:List Value:=[.string (str []),.int .u32 0,nY,nY]
def Mw (m:DE) (v:Value) (_:Nat→Value):List cK:=match v with|.agg #[_,_,vf,vn]=>[cT vf m.fw,cT vn m.notes]|_=>[]
theorem kB (v:Value) (b:List UInt8) (hv:db R v b) (hb:b.length≤1000000) :
 Ct prog 51 #[v] e R (fun v' L'=>(jm b→∃ (M:cK) (vf vn:Value),v'=.tuple #[.agg (tQ (dC b) vf vn).toArray,.int .i64 0]∧db [M] vf (dC b).fw∧db [M] vn (dC b).notes∧L'=M::R)∧(¬ jm b→v'=.tuple #[.agg iZ.toArray,.int .i64 12]∧L'=R)):=by
 refine bI (args:=[_]) func51 rfl ntmps51 results51 rfl ?_
 (repeat (refine wA ?_;intros))
 rename_i g2;refine aZ rfl rfl (jx _ e v b hv.tail zo) ?_;rintro _ _ ⟨gr,rfl,rfl⟩;refine wB ?_;refine aZ rfl rfl (x6 _ e gr (GN b)) ?_;rintro _ _ ⟨rfl,rfl⟩;refine wB ?_;have oR:(yg b).left.length≤1000000:=Nat.le_trans (eY.ji _ _) hb;have ry:(En b).left.length≤1000000:=Nat.le_trans (eY.ji _ _) (Nat.le_trans (eY.ji _ _) oR);have QG:(Eo b).left.length≤1000000:=Nat.le_trans (eY.ji _ _) ry;have T7:(Ep b).left.length≤1000000:=Nat.le_trans (eY.ji _ _) QG;refine W.gC [(2,pt g2),(3,.int .i64 0),(4,pt gr),(5,.int .u8 ((GN b).num 1:Nat))] zS ?_;refine bk (id:=3) [11] (cL g2 iZ 67 (0,0)::R) mixed ?_;refine tM 3 ?_;refine tM 5 ?_;refine tM 7 ?_;refine tM 0 ?_;refine A.Ve (n:=1) (Vi 0 11 0 (pt gr) [Reader gr (yg b)]) _ (L0:=cL g2 iZ 67 (0,0)::R) [
  ⟨1,12,[0],[0],fun v _=>∃ ad c,v=.slice ad (dC b).name.length c,[(1,fun _ _=>[Reader gr (En b)]),(2,fun v _=>[cT v (dC b).name])]⟩,
  ⟨2,13,[1],[2],fun v _=>v=.string (str (dC b).name),[]⟩,
  ⟨4,15,[1],[1],fun v _=>v=.int .u32 ((dC b).hO:Int),[(3,fun _ _=>[Reader gr (Eo b)])]⟩,
  ⟨6,17,[4],[3],fun v _=>∃ ad c,v=.slice ad (dC b).fw.length c,[(4,fun _ _=>[Reader gr (Ep b)]),(5,fun v _=>[cT v (dC b).fw])]⟩,
  ⟨8,19,[6],[4],fun v _=>∃ ad c,v=.slice ad (dC b).notes.length c,[(6,fun _ _=>[Reader gr (si b)]),(7,fun v _=>[cT v (dC b).notes])]⟩,
  ⟨9,20,[2,4,6,8],[5,7],fun v _=>∃ ad c dW c2,v=.agg (tQ (dC b) (.slice ad (dC b).fw.length c) (.slice dW (dC b).notes.length c2)).toArray,[(9,Mw (dC b))]⟩,
  L8 10 6 8 67 iZ] 7 rfl rfl zK zK zK rfl ?_ rfl zE ?_
 ·refine dm ?_ (dm ?_ (dm ?_ (dm ?_ (dm ?_ (dm ?_ (dm ?_ qg))))))
  ·refine ⟨_,rfl,.inl rfl,fun V σr M h3 hy=>?_⟩;obtain ⟨s,Gc⟩:=hy _ (az (i:=0) rfl) (az (i:=0) rfl) (fy rfl);dsimp only at s Gc
   rw [Gc] at s
   refine bT (show cB _ (Reader gr (yg b)::(M++(cL g2 iZ 67 (0,0)::R))) from aX) ?_;refine bg (xs:=[.tmp 11,.const (.int .i64 20)]) (vs:=[pt gr,.int .i64 20]) (by simp [p0,ev,s]) rfl (qi _ e gr (yg b) 20 zo) ?_;rintro _ _ ⟨ad,c,rfl,rfl⟩;exact ⟨_,rfl,⟨ad,c,rfl⟩,bw (.succ .zero) (bh aX)⟩
  ·refine ⟨_,rfl,.inl rfl,fun V σr M h3 hy=>?_⟩;obtain ⟨s,Gc⟩:=hy _ (az (i:=1) rfl) (az (i:=0) rfl) (fy rfl);dsimp only at s Gc
   refine bT (show cB _ (cT (V 1) (dC b).name::(M++(cL g2 iZ 67 (0,0)::R))) from aX) ?_;exact bO (v:=.string (str (dC b).name)) (b9 s (bb .zero)) rfl ⟨_,rfl,rfl,cB.drop aX⟩
  ·refine ⟨_,rfl,.inl rfl,fun V σr M h3 hy=>?_⟩;refine bT (show cB _ (Reader gr (En b)::(M++(cL g2 iZ 67 (0,0)::R))) from aX) ?_;refine bg (OK (h3 14 _ rfl)) rfl (qT _ e gr (En b)) ?_;rintro _ _ ⟨rfl,rfl⟩;exact ⟨_,rfl,rfl,aX⟩
  ·refine ⟨_,rfl,.inl rfl,fun V σr M h3 hy=>?_⟩;have s:=h3 16 _ rfl;refine bT (show cB _ (Reader gr (Eo b)::(M++(cL g2 iZ 67 (0,0)::R))) from aX) ?_;refine bg (xs:=[.tmp 16,.const (.int .i64 32)]) (vs:=[pt gr,.int .i64 32]) (by simp [p0,ev,s]) rfl (nS _ e gr (Eo b) 32 zo) ?_;rintro _ _ ⟨ad,c,rfl,rfl⟩;exact ⟨_,rfl,⟨ad,c,rfl⟩,bw (.succ .zero) (bh aX)⟩
  ·refine ⟨_,rfl,.inl rfl,fun V σr M h3 hy=>?_⟩;have s:=h3 18 _ rfl;refine bT (show cB _ (Reader gr (Ep b)::(M++(cL g2 iZ 67 (0,0)::R))) from aX) ?_;refine bg (xs:=[.tmp 18,.const (.int .i64 64)]) (vs:=[pt gr,.int .i64 64]) (by simp [p0,ev,s]) rfl (qi _ e gr (Ep b) 64 zo) ?_;rintro _ _ ⟨ad,c,rfl,rfl⟩;exact ⟨_,rfl,⟨ad,c,rfl⟩,bw (.succ .zero) (bh aX)⟩
  ·refine ⟨_,rfl,.inl rfl,fun V σr M h3 hy=>?_⟩;obtain ⟨s2,QI⟩:=hy _ (az (i:=2) rfl) (az (i:=0) rfl) (fy rfl);obtain ⟨s4,R6⟩:=hy _ (az (i:=3) rfl) (az (i:=1) rfl) (fy rfl);obtain ⟨s6,ad,c,IH⟩:=hy _ (az (i:=4) rfl) (az (i:=2) rfl) (fy rfl);obtain ⟨s8,dW,c2,T8⟩:=hy _ (az (i:=5) rfl) (az (i:=3) rfl) (fy rfl);dsimp only at s2 QI s4 R6 s6 IH s8 T8
   refine bT (show cB _ (cT (V 6) (dC b).fw::cT (V 8) (dC b).notes::(M++(cL g2 iZ 67 (0,0)::R))) from aX) ?_;rw [QI] at s2
   rw [R6] at s4
   rw [IH] at s6 ⊢
   rw [T8] at s8 ⊢
   refine bO (v:=.agg (tQ (dC b) (.slice ad (dC b).fw.length c) (.slice dW (dC b).notes.length c2)).toArray) (bM (parts:=[(0,.tmp 13),(1,.tmp 15),(2,.tmp 17),(3,.tmp 19)]) (vs:=[(0,.string (str (dC b).name)),(1,.int .u32 ((dC b).hO:Int)),(2,.slice ad (dC b).fw.length c),(3,.slice dW (dC b).notes.length c2)]) (by simp [uU,ev,s2,s4,s6,s8]) (by simp [Instr.fill,Value.cells])) rfl ⟨_,rfl,⟨ad,c,dW,c2,rfl⟩,aX⟩
  ·exact Ci rfl (.inl rfl) rfl rfl rfl
 intro V hV;obtain ⟨ad,c,dW,c2,v9⟩:=hV _ (az (i:=6) rfl);obtain ⟨gm,v10⟩:=hV _ (az (i:=7) rfl);clear hV;dsimp only at v9 v10
 refine A.fp (show cB _ ((Reader gr (si b)::(Mw (dC b) (V 9) V++(Ch iZ 67 (V 10) V++[])))++(cL g2 iZ 67 (0,0)::R)) from aX) ?_;rw [v9,v10];refine A.fp (show cB _ (Reader gr (si b)::cT (.slice ad (dC b).fw.length c) (dC b).fw::cT (.slice dW (dC b).notes.length c2) (dC b).notes::cL gm iZ 67 (0,0)::cL g2 iZ 67 (0,0)::R) from aX) ?_;simp only [kX,Nat.reduceLT,if_true,List.cons_append,List.nil_append];rw [v9,v10]
 ((refine tO 11 ?_;refine zg ?_;refine ⟨zN,?_⟩))
 refine bf zK ?_
 by_cases h1:(GN b).num 1=77
 rotate_left
 ·have lY:¬ jm b:=fun q=>h1 q.1
  refine wB ?_;apply br
  ·exact zV
  exact ⟨R,zE,fun q=>absurd q lY,fun _=>⟨rfl,rfl⟩⟩
 rw [h1];refine wB ?_;refine aZ rfl rfl (A9 _ e gr (si b)) ?_;rintro _ _ ⟨rfl,rfl⟩
 by_cases h2:(si b).bad=false∧(si b).left=[]
 rotate_left
 ·have lY:¬ jm b:=fun q=>h2 q.2.1
  rw [show (!(si b).bad && decide ((si b).left=[]))=false by
   cases hb:(si b).bad with
   | true=>rfl
   | false=>rw [aq (fun q=>h2 ⟨hb,q⟩)];rfl]
  refine wB ?_;apply br
  ·exact zV
  exact ⟨R,zE,fun q=>absurd q lY,fun _=>⟨rfl,rfl⟩⟩
 rw [show (!(si b).bad && decide ((si b).left=[]))=true by rw [h2.1,ay h2.2];rfl];refine wB ?_;refine aZ rfl rfl (wD _ e _ _ (dC b) (bb zP) (bb zP) (by have:=eY.take_length ((yg b).next 2) ((yg b).len 20);have h3:=eY.ji (yg b) 2;unfold dC eY.bytes;dsimp only;omega)) ?_;rintro _ _ ⟨rfl,rfl⟩
 by_cases h3:(dC b).right
 rotate_left
 ·have lY:¬ jm b:=fun q=>h3 q.2.2
  rw [aq h3];refine wB ?_;apply br
  ·exact zV
  exact ⟨R,zE,fun q=>absurd q lY,fun _=>⟨rfl,rfl⟩⟩
 rw [ay h3];refine wB ?_;apply br
 ·exact zV
 exact ⟨dH [cT (.slice ad (dC b).fw.length c) (dC b).fw,cT (.slice dW (dC b).notes.length c2) (dC b).notes]::R,cn (show cB _ (cT (.slice ad (dC b).fw.length c) (dC b).fw::cT (.slice dW (dC b).notes.length c2) (dC b).notes::R) from zE) (dS (M:=[_,_])),fun _=>⟨_,_,_,rfl,xx (bb .zero),xx (bb (.succ .zero)),rfl⟩,fun q=>absurd ⟨h1,h2,h3⟩ q⟩
end Go.Proofs
namespace Go.Bs
theorem My (l:List UInt8) (i:Nat):(str l).extract 0 i=str (l.take i):=by
 apply ByteArray.ext
 simp [str,ByteArray.data_extract]
theorem cE.R7 {P:Program} {N:Fr} {ty:TypeId} {σ:Env} {e:World} {L:List cK} {x y:Operand} {t:TypeId} {l:List UInt8} {i:Nat} {k:IntKind} [q:u0 P t] (h:ev σ x=some (.string (str l))) (h1:ev σ y=some (.int k (i:Int))) (hi:i≤l.length) :
 cE P N (.slice t x none (some y) none) ty (.string (str (l.take i))) σ e L:=fun a w ha _ _ _ _ _=>by
 have hs:=sZ l;simp only [execOp,ha.ev h,ha.ev h1,Option.map_none,Option.map_some]
 simp [Instr.sliceAt,Instr.slice,run_underlying q.lX,Instr.sliceBounds,Instr.sliceBound,asIntOf,hs,hi]
 exact My l i
end Go.Bs
namespace Go.Proofs
open Go.Bs
attribute [local irreducible] Bs.cE Bs.Do Bs.O Bs.W Bs.Fin Bs.A Bs.Ct Bs.cF Bs.Rd Bs.Sat Bs.cL Bs.Ob Bs.dJ Bs.View Bs.cB Bs.Ex Bs.dH Bs.Pu Bs.eZ Bs.dO Bs.dZ
theorem rN (R:List cK) (e:World) (ad:Option Addr) (c:Nat) (b x:List UInt8) (v:Value) (hv:db R v x) (hx:x.length≤65535) (hl:b.length≤1000000) :
 Ct Tryz.prog 147 #[.slice ad b.length c,v] e (cT (.slice ad b.length c) b::R) (fun v' L'=>∃ ad c,v'=.slice ad (b++enc x).length c∧L'=cT (.slice ad (b++enc x).length c) (b++enc x)::R):=by
 refine a7 (cF.shape (cF.tail hv) zo) ?_;rintro ⟨⟨qq,cx,rfl,h3,h4,h5,h6⟩,_⟩;refine a8 (args:=[_,_]) Tryz.func147 rfl Tryz.ntmps147 Tryz.results147 rfl ?_
 (repeat (refine wA ?_;intros))
 have e1:[Value.int .u8 (IntKind.u8.wrap ((x.length:Int).fdiv (2 ^ min (8:Int).toNat IntKind.i64.bits))),.int .u8 (IntKind.u8.wrap (x.length:Int))]=(be x.length 2).map u8:=by
  have a3:=mQ x.length 8 64 zo;have b:=Er x.length
  show [Value.int .u8 (IntKind.u8.wrap ((x.length:Int).fdiv (2 ^ min 8 64))),.int .u8 (IntKind.u8.wrap (x.length:Int))]=_
  rw [a3,b]
  simp [be,u8]
 rw [e1];refine bC (bo rfl rfl rfl (.succ .zero) (bB .zero (by rw [ab,cY]) zl) rfl rfl lQ zm zo fun dW c2 _=>?_)
 (repeat (refine wA ?_;intros))
 refine bC (bo rfl rfl rfl .zero (hv.cM zE) rfl rfl lQ zm zo fun eE c3 _=>?_)
 refine wB ?_;have e2:(b++enc x).length=b.length+2+x.length:=by rw [aa,iz];omega
 refine aY (cT (.slice eE (b++enc x).length c3) (b++enc x)::R) rfl ?_ ⟨eE,c3,by rw [e2];rfl,rfl⟩;unfold cT;rw [e2];unfold enc;rw [ah,ah,← aM];exact zE
theorem Cy (R:List cK) (e:World) (vf vn:Value) (m:DE) (hf:db R vf m.fw) (hn:db R vn m.notes) (hr:m.right) (hv:m.hO<4294967296) :
 Ct Tryz.prog 71 #[.agg (tQ m vf vn).toArray] e R (fun v' L'=>∃ ad c,v'=.slice ad (lS m).length c∧L'=cT (.slice ad (lS m).length c) (lS m)::R):=by
 obtain ⟨q1,q2,q3,q4⟩:=id hr;have q5:=q1.2.1;refine a7 (cz hf) fun o1=>?_
 refine a7 (cz hn) fun o2=>?_
 refine a8 (args:=[_]) Tryz.func71 rfl Tryz.ntmps71 Tryz.results71 rfl ?_
 (repeat (refine wA ?_;intros))
 rename_i g1;refine bk (id:=1) [8] (cL g1 (tQ m vf vn) 67 (0,0)::R) Tryz.mixed ?_
 (refine tF 1 ?_;refine tL 2 ?_)
 refine tF 5 ?_;refine tL 6 ?_;refine A.OJ (n:=3) [L9 0 4 0 oP ([77].map u8),Gz 3 7 1 m.name] 2 rfl zK zK ?_ zE ?_
 ·refine dm ?_ (dm ?_ qg)
  ·exact Cj (z:=.int .u8 0) (parts:=[(0,.const (.int .u8 77))]) rfl (.inl rfl) rfl rfl (fun σr h=>rfl) rfl rfl zQ rfl rfl
  ·exact JK rfl (.inl rfl) rfl rfl (fun σr h=>h _ _ rfl) zm
 intro V hV;obtain ⟨g4,v0⟩:=hV _ (az (i:=0) rfl);obtain ⟨eE,c3,v3⟩:=hV _ (az (i:=1) rfl);clear hV;dsimp only at v0 v3
 refine A.fp (show cB _ ((tB oP ([77].map u8) (V 0) V++([View 1 (V 3) m.name.length (m.name.map u8)]++[]))++(cL g1 (tQ m vf vn) 67 (0,0)::R)) from aX) ?_;simp only [kX,Nat.reduceLT,if_true,List.cons_append,List.nil_append];rw [v0,v3];refine A.fp (show cB _ (cT (.slice (some ⟨g4,0,none⟩) [(77:UInt8)].length 1) [77]::View 1 (.slice eE m.name.length c3) m.name.length (m.name.map u8)::cL g1 (tQ m vf vn) 67 (0,0)::R) from ?_) ?_
 ·exact hH (E:=oP) (n:=1) (k:=1) (g:=g4) (cap:=1) (cur:=[u8 77]) zo zl (by simp)
 refine tO 4 ?_;refine bg rfl rfl (rN _ e (some ⟨g4,0,none⟩) 1 [77] m.name (.slice eE m.name.length c3) (cF.view .zero) zo (by decide)) ?_;rintro _ _ ⟨jB,c4,rfl,rfl⟩;refine ⟨fun _=>zE,?_⟩;have en:=iz m.name;have e7:(([77]:List UInt8)++enc m.name).length≤30:=by rw [aa,en];simp only [aN,List.length_nil];omega
 generalize EC:([77]:List UInt8)++enc m.name=b1 at *
 refine tO 7 ?_;refine bg rfl rfl (Es _ e jB c4 b1 m.hO hv zo) ?_;rintro _ _ ⟨QD,c5,rfl,rfl⟩;refine ⟨fun _=>zE,?_⟩
 ((refine tO 8 ?_;refine dV (bj rfl) ?_))
 refine bf zK ?_;have eb:(b1++be m.hO 4).length≤40:=by rw [aa,cY];omega
 generalize O2:b1++be m.hO 4=b2 at *
 refine wB ?_;refine bk (id:=2) [7] (cL g1 (tQ m vf vn) 67 (0,0)::R) Tryz.mixed ?_
 (refine tM 0 ?_;refine tF 1 ?_;refine tL 2 ?_;refine tF 4 ?_;refine tL 5 ?_)
 refine tO 3 ?_;refine bo rfl rfl rfl zP (hf.cM zE) rfl rfl lQ zm zo fun GH c6 _=>?_
 refine ⟨fun _=>zE,?_⟩;refine A.fp (show cB _ (cT (.slice GH (b2++m.fw).length c6) (b2++m.fw)::cL g1 (tQ m vf vn) 67 (0,0)::R) from ?_) ?_
 ·unfold cT;rw [aa,ah];exact zE
 have e9:(b2++m.fw).length=b2.length+32:=by rw [aa,q3]
 rw [show Value.slice GH (b2.length+m.fw.length) c6=.slice GH (b2++m.fw).length c6 by rw [aa]];refine tO 6 ?_;refine bg rfl rfl (rN _ e GH c6 (b2++m.fw) m.notes vn (hn.cM zE) zo zo) ?_;rintro _ _ ⟨QE,c7,rfl,rfl⟩;refine ⟨fun _=>zE,?_⟩
 ((refine tO 7 ?_;refine dV (bj rfl) ?_))
 refine bf zK ?_
 have lR:b2++m.fw++enc m.notes=lS m:=by
  rw [← O2,← EC];unfold lS
  simp
 rw [lR];refine wB ?_;exact aY (cT (.slice QE (lS m).length c7) (lS m)::R) rfl zE ⟨QE,c7,rfl,rfl⟩
def wE (n:Int):UInt8:=UInt8.ofNat (n % 256).toNat
theorem yB (n:Int):Value.int .u8 (IntKind.u8.wrap n)=u8 (wE n):=by
 unfold u8 wE;rw [UInt8.toNat_ofNat',Nat.mod_eq_of_lt (by have:=Int.emod_lt_of_pos n (show (0:Int)<256 by omega);omega),Int.toNat_of_nonneg (Int.emod_nonneg n zo)];unfold IntKind.wrap
 simp [IntKind.bits,IntKind.signed]
def wF (n:Int):List UInt8:=ek 98 [[wE (within n 0 100000)]]
theorem G7 (R:List cK) (e:World) (n:Int) (hn:-9223372036854775808≤n∧n≤9223372036854775807) :
 Ct Tryz.prog 94 #[.int .i64 n] e R (fun v' L'=>∃ ad c,v'=.slice ad (wF n).length c∧L'=cT (.slice ad (wF n).length c) (wF n)::R):=by
 refine a8 (args:=[_]) Tryz.func94 rfl Tryz.ntmps94 Tryz.results94 rfl ?_;refine wB ?_;refine aZ rfl rfl (eB _ e n 0 100000 hn zo) ?_;rintro _ _ ⟨rfl,rfl⟩
 (repeat (refine wA ?_;intros))
 rw [yB]
 (repeat (refine wA ?_;intros))
 rename_i g1 g2
 refine aZ rfl rfl (ye _ e 98 _ [(.slice (some ⟨g1,0,none⟩) 1 1,[wE (within n 0 100000)])] (bB .zero rfl zl) (fun a ha=>by
  rw [an.1 ha]
  exact bB (.succ .zero) rfl zl) (fun a ha=>by
  rw [an.1 ha]
  show 1≤1000000
  decide) (by simp)) ?_
 rintro _ _ ⟨ad,c,rfl,rfl⟩;rw [show ek 98 ([((.slice (some ⟨g1,0,none⟩) 1 1:Value),[wE (within n 0 100000)])].map (·.2))=wF n from rfl]
 generalize wF n=x
 refine wB ?_;exact aY (cT (.slice ad x.length c) x::R) rfl zE ⟨ad,c,rfl,rfl⟩
theorem Cz (n:Int):(wF n).length=32:=dg _ _
def R8:List (List UInt8):=[[112,117,109,112],[118,97,108,118,101],[97],[103,97,117,103,101,111,102,116,104,101,108,111,110,103,101,115,116,110,97,109]]
def mh (n v f:Int):DE:=⟨R8.getD ((within n 0 1000).tmod 4).toNat [],(1+(within v 0 100000).tmod 9).toNat,wF (f.tmod 4),[wE f]⟩
theorem mT (n v f:Int):(mh n v f).right∧(mh n v f).hO<4294967296:=by
 have h1:=dt n 0 1000 zo;have h2:=dt v 0 100000 zo;have h3:=Int.tmod_lt_of_pos (within n 0 1000) (show (0:Int)<4 by omega);have h4:=Int.tmod_nonneg 4 h1.1;have h5:=Int.tmod_lt_of_pos (within v 0 100000) (show (0:Int)<9 by omega);have h6:=Int.tmod_nonneg 9 h2.1;refine ⟨⟨?_,?_,Cz _,?_⟩,?_⟩
 ·unfold mh;dsimp only
  generalize ((within n 0 1000).tmod 4)=k at *
  rcases (show k=0∨k=1∨k=2∨k=3 by omega) with rfl|rfl|rfl|rfl<;>decide
 ·unfold mh;dsimp only;omega
 ·unfold mh;simp
 ·unfold mh;dsimp only;omega
def mU (n v f:Int):List UInt8:=lS (mh n v f)
abbrev xy:List Value:=[.string (str [112,117,109,112]),.string (str [118,97,108,118,101]),.string (str [97]),.string (str [103,97,117,103,101,111,102,116,104,101,108,111,110,103,101,115,116,110,97,109])]
def ED (v:Value) (_:Nat→Value):List cK:=match v with|.pointer (some ⟨g,_,_⟩)=>[cL g xy 9 (0,0)]|_=>[]
def II (m:DE) (v:Value) (_:Nat→Value):List cK:=match v with|.agg #[_,_,vf,.slice (some ⟨g,_,_⟩) _ _]=>[cT vf m.fw,cL g (m.notes.map u8) oP (0,0)]|_=>[]
theorem Kb (R:List cK) (e:World) (n v f:Int) (hn:-9223372036854775808≤n∧n≤9223372036854775807) (hv:-9223372036854775808≤v∧v≤9223372036854775807) (hf:-9223372036854775808≤f∧f≤9223372036854775807) :
 Ct Tryz.prog 32 #[.int .i64 n,.int .i64 v,.int .i64 f] e R (fun v' L'=>∃ (M:cK) (vf vn:Value),v'=.agg (tQ (mh n v f) vf vn).toArray∧db [M] vf (mh n v f).fw∧db [M] vn (mh n v f).notes∧L'=M::R):=by
 have h1:=dt n 0 1000 zo;have h2:=dt v 0 100000 zo;have h3:=Int.tmod_lt_of_pos (within n 0 1000) (show (0:Int)<4 by omega);have h4:=Int.tmod_nonneg 4 h1.1;have h5:=Int.tmod_lt_of_pos (within v 0 100000) (show (0:Int)<9 by omega);have h6:=Int.tmod_nonneg 9 h2.1;have h7:=Int.tmod_lt_of_pos f (show (0:Int)<4 by omega)
 have h8:-4<f.tmod 4:=by
  rcases Int.le_total 0 f with h0|h0
  ·have:=Int.tmod_nonneg 4 h0;omega
  ·have h3:=Int.tmod_lt_of_pos (-f) (show 0<(4:Int) by omega);rw [Int.neg_tmod] at h3;omega
 refine bI (args:=[_,_,_]) Tryz.func32 rfl Tryz.ntmps32 Tryz.results32 rfl ?_
 (repeat (refine wA ?_;intros))
 rename_i g2;refine bk (id:=1) [19] (cL g2 iZ 67 (0,0)::R) Tryz.mixed ?_;refine tk 0 _ rfl (cE.R7 (i:=20) (l:=[103,97,117,103,101,111,102,116,104,101,108,111,110,103,101,115,116,110,97,109,101]) rfl rfl (by decide)) ?_;refine tM 2 ?_;refine tM 7 ?_;refine tM 12 ?_
 (refine tk 13 _ rfl (cE.rem rfl rfl zo) ?_;refine tM 15 ?_;refine tk 16 _ rfl (cE.jP rfl) ?_)
 rw [yB];obtain ⟨k,hk⟩:∃ k:Nat,(within n 0 1000).tmod 4=(k:Int):=⟨((within n 0 1000).tmod 4).toNat,by omega⟩
 have hk4:k<4:=by omega
 have O3:∃ s,xy[k]?=some (.string (str s))∧s=(mh n v f).name:=by
  unfold mh;rw [hk,Int.toNat_natCast];rcases (show k=0∨k=1∨k=2∨k=3 by omega) with rfl|rfl|rfl|rfl<;>exact ⟨_,rfl,rfl⟩
 obtain ⟨nm,O3,aap⟩:=O3;have pS:1+(within v 0 100000).tmod 9=(((mh n v f).hO:Nat):Int):=by unfold mh;dsimp only;omega
 have acI:=(mT n v f).2;have VC:wF (f.tmod 4)=(mh n v f).fw:=rfl;have lY:[wE f]=(mh n v f).notes:=rfl;have R9:(mh n v f).notes.length=1:=rfl
 generalize mh n v f=m at *
 refine A.OJ (n:=1) [
  L9 1 8 0 9 xy,
  tC 3 10 [] (.int .i64 (within n 0 1000)),
  tC 4 11 [3] (.int .i64 (k:Int)),
  ⟨5,12,[1,4],[0],fun v _=>∃ g,v=.pointer (some ⟨g,k,none⟩),[(1,ED)]⟩,
  ⟨6,13,[5],[1],fun v _=>v=.string (str m.name),[]⟩,
  tC 8 15 [] (.int .i64 (within v 0 100000)),
  tC 9 16 [8] (.int .i64 ((within v 0 100000).tmod 9)),
  tC 10 17 [9] (.int .i64 ((m.hO:Nat):Int)),
  tC 11 18 [10] (.int .u32 ((m.hO:Nat):Int)),
  ⟨14,21,[],[],fun v _=>∃ ad c,v=.slice ad m.fw.length c,[(2,fun v _=>[cT v m.fw])]⟩,
  L9 17 24 3 oP (m.notes.map u8),
  ⟨18,25,[6,11,14,17],[2,3],fun v _=>∃ ad c g,v=.agg (tQ m (.slice ad m.fw.length c) (.slice (some ⟨g,0,none⟩) 1 1)).toArray,[(4,II m)]⟩] 12 rfl zK zK ?_ zE ?_
 ·refine dm ?_ (dm ?_ (dm ?_ (dm ?_ (dm ?_ (dm ?_ (dm ?_ (dm ?_ (dm ?_ (dm ?_ (dm ?_ (dm ?_ qg)))))))))))
  ·refine Cj (z:=.string (str [])) (len:=4) (parts:=[(0,.const (.string (str [112,117,109,112]))),(1,.const (.string (str [118,97,108,118,101]))),(2,.const (.string (str [97]))),(3,.tmp 7)]) (vs:=[(0,.string (str [112,117,109,112])),(1,.string (str [118,97,108,118,101])),(2,.string (str [97])),(3,.string (str [103,97,117,103,101,111,102,116,104,101,108,111,110,103,101,115,116,110,97,109]))]) rfl (.inl rfl) rfl rfl (fun σr h=>?_) rfl rfl zQ rfl rfl;have s:=h 7 _ rfl;simp only [uU,ev,s]
   rfl
  ·refine ⟨_,rfl,.inl rfl,fun V σr M h3 hy=>?_⟩;have s:=h3 9 _ rfl;refine bT (show cB _ (M++(cL g2 iZ 67 (0,0)::R)) from aX) ?_;refine bg (xs:=[.tmp 9,.const (.int .i64 0),.const (.int .i64 1000)]) (vs:=[.int .i64 n,.int .i64 0,.int .i64 1000]) (by simp [p0,ev,s]) rfl (eB _ e n 0 1000 hn zo) ?_;rintro _ _ ⟨rfl,rfl⟩;exact ⟨_,rfl,rfl,aX⟩
  ·refine qf rfl (.inl rfl) rfl rfl fun V σr L wG hy _=>?_
   obtain ⟨s,Gc⟩:=hy _ (az (i:=1) rfl) (az (i:=0) rfl) (fy rfl);dsimp only at s Gc
   rw [Gc] at s
   rw [← hk];exact cE.rem s rfl (by decide)
  ·refine ⟨_,rfl,.inl rfl,fun V σr M wG hy=>?_⟩;obtain ⟨s1,g,QM⟩:=hy _ (az (i:=0) rfl) (az (i:=0) rfl) (fy rfl);obtain ⟨s4,R6⟩:=hy _ (az (i:=2) rfl) (az (i:=1) rfl) (fy rfl);dsimp only at s1 QM s4 R6
   refine bT (show cB _ ((tB 9 xy (V 1) V++[])++(M++(cL g2 iZ 67 (0,0)::R))) from aX) ?_;rw [QM] at s1 ⊢
   rw [R6] at s4
   exact bO (cE.iy s1 s4 (by show k<4;omega)) rfl ⟨_,rfl,⟨g,by simp⟩,aX⟩
  ·refine ⟨_,rfl,.inl rfl,fun V σr M wG hy=>?_⟩;obtain ⟨s5,g,QN⟩:=hy _ (az (i:=3) rfl) (az (i:=0) rfl) (fy rfl);dsimp only at s5 QN
   refine bT (show cB _ ((ED (V 5) V++[])++(M++(cL g2 iZ 67 (0,0)::R))) from aX) ?_;rw [QN] at s5 ⊢
   exact bO (bp s5 (by rw [← aap];exact bQ .zero (by rw [iR];exact O3))) rfl ⟨_,rfl,rfl,cB.drop aX⟩
  ·refine ⟨_,rfl,.inl rfl,fun V σr M wG hy=>?_⟩;have s:=wG 14 _ rfl;refine bT (show cB _ (M++(cL g2 iZ 67 (0,0)::R)) from aX) ?_;refine bg (xs:=[.tmp 14,.const (.int .i64 0),.const (.int .i64 100000)]) (vs:=[.int .i64 v,.int .i64 0,.int .i64 100000]) (by simp [p0,ev,s]) rfl (eB _ e v 0 100000 hv zo) ?_;rintro _ _ ⟨rfl,rfl⟩;exact ⟨_,rfl,rfl,aX⟩
  ·refine qf rfl (.inl rfl) rfl rfl fun V σr L wG hy _=>?_
   obtain ⟨s,Gc⟩:=hy _ (az (i:=5) rfl) (az (i:=0) rfl) (fy rfl);dsimp only at s Gc
   rw [Gc] at s
   exact cE.rem s rfl (by decide)
  ·refine qf rfl (.inl rfl) rfl rfl fun V σr L wG hy _=>?_
   obtain ⟨s,Gc⟩:=hy _ (az (i:=6) rfl) (az (i:=0) rfl) (fy rfl);dsimp only at s Gc
   rw [Gc] at s
   rw [← pS];exact cE.kS rfl s zo
  ·refine qf rfl (.inl rfl) rfl rfl fun V σr L wG hy _=>?_
   obtain ⟨s,Gc⟩:=hy _ (az (i:=7) rfl) (az (i:=0) rfl) (fy rfl);dsimp only at s Gc
   rw [Gc] at s
   exact cE.xQ s (wrap_u32 zo zo)
  ·refine ⟨_,rfl,.inl rfl,fun V σr M wG hy=>?_⟩;refine bT (show cB _ (M++(cL g2 iZ 67 (0,0)::R)) from aX) ?_;have hk:=G7 (M++(cL g2 iZ 67 (0,0)::R)) e (f.tmod 4) zo;rw [VC] at hk
   refine bg (OK (wG 20 _ rfl)) rfl hk ?_;rintro _ _ ⟨ad,c,rfl,rfl⟩;exact ⟨_,rfl,⟨ad,c,rfl⟩,aX⟩
  ·rw [← lY];refine Cj (z:=.int .u8 0) (len:=1) (parts:=[(0,.tmp 23)]) (vs:=[(0,u8 (wE f))]) rfl (.inl rfl) rfl rfl (fun σr h=>?_) rfl rfl zQ rfl rfl;have s:=h 23 _ rfl;simp only [uU,ev,s]
  ·refine ⟨_,rfl,.inl rfl,fun V σr M wG hy=>?_⟩;obtain ⟨s6,IH⟩:=hy _ (az (i:=4) rfl) (az (i:=0) rfl) (fy rfl);obtain ⟨Mz,Kc⟩:=hy _ (az (i:=8) rfl) (az (i:=1) rfl) (fy rfl);obtain ⟨MA,ad,c,VD⟩:=hy _ (az (i:=9) rfl) (az (i:=2) rfl) (fy rfl);obtain ⟨Sa,g,Sb⟩:=hy _ (az (i:=10) rfl) (az (i:=3) rfl) (fy rfl);dsimp only at s6 IH Mz Kc MA VD Sa Sb
   refine bT (show cB _ (([cT (V 14) m.fw]++(tB oP (m.notes.map u8) (V 17) V++[]))++(M++(cL g2 iZ 67 (0,0)::R))) from aX) ?_;rw [IH] at s6
   rw [Kc] at Mz
   rw [VD] at MA ⊢
   rw [ab,R9] at Sb
   rw [Sb] at Sa ⊢
   refine bO (v:=.agg (tQ m (.slice ad m.fw.length c) (.slice (some ⟨g,0,none⟩) 1 1)).toArray) (bM (parts:=[(0,.tmp 13),(1,.tmp 18),(2,.tmp 21),(3,.tmp 24)]) (vs:=[(0,.string (str m.name)),(1,.int .u32 (m.hO:Int)),(2,.slice ad m.fw.length c),(3,.slice (some ⟨g,0,none⟩) 1 1)]) (by simp [uU,ev,s6,Mz,MA,Sa]) (by simp [Instr.fill,Value.cells])) rfl ⟨_,rfl,⟨ad,c,g,rfl⟩,aX⟩
 intro V hV;obtain ⟨ad,c,g,v18⟩:=hV _ (az (i:=11) rfl);clear hV;dsimp only at v18
 refine A.fp (show cB _ ((II m (V 18) V++[])++(cL g2 iZ 67 (0,0)::R)) from aX) ?_;rw [v18];refine A.fp (show cB _ (cT (.slice ad m.fw.length c) m.fw::cL g (m.notes.map u8) oP (0,0)::cL g2 iZ 67 (0,0)::R) from aX) ?_;simp only [kX,Nat.reduceLT,if_true,List.cons_append,List.nil_append];rw [v18]
 ((refine tO 19 ?_;refine zg ?_;refine ⟨zN,?_⟩))
 refine bf zK ?_;refine wB ?_;apply br
 ·exact zV
 refine ⟨dH [cT (.slice ad m.fw.length c) m.fw,cL g (m.notes.map u8) oP (0,0)]::R,cn (show cB _ (cT (.slice ad m.fw.length c) m.fw::cL g (m.notes.map u8) oP (0,0)::R) from zE) (dS (M:=[_,_])),_,_,_,rfl,xx (bb .zero),xx ?_,rfl⟩;unfold db;rw [R9];exact bB (.succ .zero) (by rw [ab,R9]) zl
theorem yC (R:List cK) (e:World) (n v f:Int) (hn:-9223372036854775808≤n∧n≤9223372036854775807) (hv:-9223372036854775808≤v∧v≤9223372036854775807) (hf:-9223372036854775808≤f∧f≤9223372036854775807) :
 Ct Tryz.prog 14 #[.int .i64 n,.int .i64 v,.int .i64 f] e R (fun v' L'=>∃ ad c,v'=.slice ad (mU n v f).length c∧L'=cT (.slice ad (mU n v f).length c) (mU n v f)::R):=by
 refine a8 (args:=[_,_,_]) Tryz.func14 rfl Tryz.ntmps14 Tryz.results14 rfl ?_;refine wB ?_;refine aZ rfl rfl (Kb _ e n v f hn hv hf) ?_;rintro _ _ ⟨M,vf,vn,rfl,QO,AX,rfl⟩;refine wB ?_;refine aZ rfl rfl (Cy _ e vf vn (mh n v f) (QO.cM zE) (AX.cM zE) (mT n v f).1 (mT n v f).2) ?_;rintro _ _ ⟨ad,c,rfl,rfl⟩;rw [show lS (mh n v f)=mU n v f from rfl]
 generalize mU n v f=x
 refine wB ?_;exact aY (cT (.slice ad x.length c) x::R) rfl zE ⟨ad,c,rfl,rfl⟩
end Go.Proofs
namespace Go.Proofs
attribute [local irreducible] Bs.cE Bs.Do Bs.O Bs.W Bs.Fin Bs.A Bs.Ct Bs.cF Bs.Rd Bs.Sat Bs.cL Bs.Ob Bs.dJ Bs.View Bs.cB Bs.Ex Bs.dH Bs.Pu Bs.eZ Bs.dO Bs.dZ
open Go.Bs
open Tryz
variable (R:List cK) (e:World)
def jp (l:List eo):List UInt8:=(l.map fun a=>enc a.2).flatten
theorem wH {l:List eo} {i:Nat} (h:i<l.length):jp (l.take (i+1))=jp (l.take i)++enc (l[i]'h).2:=by
 simp only [jp];rw [aD h];simp only [ah,List.map_cons,List.map_nil,List.flatten_append,List.flatten_cons,List.flatten_nil,aK]
theorem EE (l:List eo) (i:Nat):(jp (l.take i)).length≤(jp l).length:=by
 conv=>rhs;rw [← List.take_append_drop i l]
 simp only [jp,ah,List.flatten_append,aa]
 omega
theorem Kd (g:Nat) (l:List UInt8) (v:Value) (ts:List eo) (k:Nat) (hv:cF R 1 v ts.length (ts.map (·.1))) (ht:dR R ts) (hk:k≤ts.length)
 (hl:l.length+(jp (ts.take k)).length≤140737488355328) (hs:∀ a∈ts.take k,a.2.length≤65535) (hb:∀ h:k<ts.length,65535<(ts[k]'h).2.length) :
 Ct prog 149 #[v,.func (.func 120) #[pt g] #[]] e (Writer g l::R) (fun v' L'=>v'=.bool (decide (k=ts.length))∧L'=Writer g (l++jp (ts.take k))::R):=by
 refine a7 (hv.tail.shape zo) ?_;rintro ⟨⟨ad,cap,rfl,h3,h4,h5,h6⟩,_⟩;simp only [maxLen] at h4
 refine a8 (args:=[_,_]) func149 rfl ntmps149 results149 rfl ?_;refine wB ?_;refine bq (ι:=Nat) (fun i=>[(1,.func (.func 120) #[pt g] #[]),(7,.slice ad ts.length cap),(8,.int .i64 ts.length),(9,.int .i64 i)])
  (fun i=>Writer g (l++jp (ts.take i))::R) (fun i=>i≤k) (fun i=>k - i) 0 (aH _) (cD rfl (cD rfl (cD rfl (cD rfl de)))) (by simp [jp];exact aX) ?_
 intro i hi
 by_cases cP:i<ts.length
 ·rcases h6 with h6|⟨gl,ol,rfl⟩
  ·omega
  have iX:Rd R ⟨gl,ol+i,none⟩ (ts[i]'cP).1:=cF.elem hv (by rw [aL,ae cP];rfl);have ti:=ht _ (ax cP)
  by_cases wv:i<k
  ·have hsi:=hs (ts[i]'cP) (by rw [List.mem_take_iff_getElem];exact ⟨i,by omega,rfl⟩)
   have hm:(jp (ts.take (i+1))).length≤(jp (ts.take k)).length:=by
    have:=EE (ts.take k) (i+1)
    rwa [List.take_take,Nat.min_eq_left zo] at this
   rw [wH cP,aa,iz] at hm
   refine wB ?_;refine O.gD (us:=[_]) (ws:=[]) rfl rfl rfl (xZ _ e g _ (ts[i]'cP).2 _ ti (by rw [aa];omega) hsi) ?_;rintro _ _ ⟨rfl,rfl⟩;refine wB ?_;refine bi (i+1) wv (by show k - (i+1)<k - i;omega) (cD rfl (cD rfl (cD rfl (cD rfl de)))) ?_;rw [wH cP,enc];simp only [aM];exact aX
  ·have Qm:i=k:=by omega
   subst Qm;refine wB ?_;refine O.gD (us:=[_]) (ws:=[]) rfl rfl rfl (GA _ e g _ (ts[i]'cP).2 _ ti (hb cP)) ?_;rintro _ _ ⟨rfl,rfl⟩;refine wB ?_;exact aY _ rfl aX ⟨by simp [show i≠ts.length by omega];rfl,rfl⟩
 ·have Qm:i=k:=by omega
  subst Qm;have:i=ts.length:=by omega
  subst this;refine wB ?_;exact aY _ rfl aX ⟨by simp;rfl,rfl⟩
theorem G8 (g:Nat) (l:List UInt8) (v:Value) (ts:List eo) (k:Nat) (hv:cF R 1 v ts.length (ts.map (·.1))) (ht:dR R ts) (hk:k≤ts.length)
 (hl:l.length+(jp (ts.take k)).length≤140737488355328) (hs:∀ a∈ts.take k,a.2.length≤65535) (hb:∀ h:k<ts.length,65535<(ts[k]'h).2.length) :
 Ct prog 75 #[pt g,v] e (Writer g l::R) (fun v' L'=>v'=.bool (decide (k=ts.length))∧L'=Writer g (l++jp (ts.take k))::R):=by
 refine a8 (args:=[_,_]) func75 rfl ntmps75 results75 rfl ?_;refine wB ?_;refine aZ rfl rfl (Kd R e g l v ts k hv ht hk hl hs hb) ?_;rintro _ _ ⟨rfl,rfl⟩;refine wB ?_;exact aY _ rfl aX ⟨rfl,rfl⟩
structure eT where
 b:List UInt8
 gT:Nat
 rO:Nat
 ug:Nat
 down:Bool
def eT.ok (s:eT):Prop:=s.b.length≤1048576∧s.rO≤1048576∧s.gT≤s.b.length∧s.ug≤9223372036854775807
def G9 (g:Nat) (s:eT) (ad:Option Addr) (c:Nat):cK:=dH [cL g [.slice ad s.b.length c,.int .i64 s.gT,.int .i64 s.rO,.int .i64 s.ug,.bool s.down] 226 (0,0),cT (.slice ad s.b.length c) s.b]
def df (g:Nat) (s:eT):cK:=Ex fun ad=>Ex fun c=>G9 g s ad c
theorem qt {g:Nat} {s:eT} {R:List cK} {P:Program} {f:FuncId} {args:Array Value} {e:World} {Post:Value→List cK→Prop}
 (h:∀ ad c,Ct P f args e (cL g [.slice ad s.b.length c,.int .i64 s.gT,.int .i64 s.rO,.int .i64 s.ug,.bool s.down] 226 (0,0)::cT (.slice ad s.b.length c) s.b::R) Post):Ct P f args e (df g s::R) Post :=
 Ct.ex .zero fun ad=>Ct.ex .zero fun c=>(h ad c).cM cU
theorem vD {g:Nat} {s:eT} {R:List cK} {P:Program} {N:Fr} {all:Array Oper} {l:List Oper} {Q:fP} {σ:Env} {e:World}
 (h:∀ ad c,O P N all l Q σ e (cL g [.slice ad s.b.length c,.int .i64 s.gT,.int .i64 s.rO,.int .i64 s.ug,.bool s.down] 226 (0,0)::cT (.slice ad s.b.length c) s.b::R)):O P N all l Q σ e (df g s::R) :=
 O.ex .zero fun ad=>O.ex .zero fun c=>(h ad c).cM cU
theorem kC {g c:Nat} {ad:Option Addr} {s:eT} {R:List cK}:cB (cL g [.slice ad s.b.length c,.int .i64 s.gT,.int .i64 s.rO,.int .i64 s.ug,.bool s.down] 226 (0,0)::cT (.slice ad s.b.length c) s.b::R) (df g s::R) :=
 cn (dS (M:=[_,_])) (cn (fx (f:=fun c=>G9 g s ad c) c) (fx (f:=fun ad=>Ex fun c=>G9 g s ad c) ad))
theorem kD {g c sy li ar:Nat} {dn:Bool} {ad:Option Addr} {b:List UInt8} {R:List cK}:cB (cL g [.slice ad b.length c,.int .i64 (sy:Int),.int .i64 (li:Int),.int .i64 (ar:Int),.bool dn] 226 (0,0)::cT (.slice ad b.length c) b::R) (df g ⟨b,sy,li,ar,dn⟩::R):=kC (s:=⟨b,sy,li,ar,dn⟩)
theorem Ke (n:Nat) (hn:n≤1048576) :
 Ct prog 63 #[.int .i64 n] e R (fun v' L'=>∃ g,v'=.tuple #[pt g,.int .i64 0]∧L'=df g ⟨[],0,n,0,false⟩::R):=by
 refine a8 (args:=[_]) func63 rfl ntmps63 results63 rfl ?_
 (repeat (refine wA ?_;intros))
 exact aY _ rfl ((bh (du oP 1)).trans (kC (s:=⟨[],0,n,0,false⟩))) ⟨_,rfl,rfl⟩
def eT.pow (s:eT):eT:=if s.ug > 0 then { s with ug:=s.ug - 1,down:=decide (s.ug - 1=0) } else s
theorem qu (g:Nat) (s:eT) (h:s.ok) :
 Ct prog 224 #[pt g] e (df g s::R) (fun v' L'=>v'=.bool (!s.pow.down)∧L'=df g s.pow::R):=by
 obtain ⟨b,sy,li,ar,dn⟩:=s;obtain ⟨h1,h2,h3,h4⟩:=h;refine qt fun ad c=>?_
 refine a8 (args:=[_]) func224 rfl ntmps224 results224 rfl ?_;dsimp only at h1 h2 h3 h4 ⊢
 match ar with
 | 0 =>
  have h0:((0:Nat):Int)=0:=rfl
  cases dn <;>
  ·refine wB ?_;exact aY _ rfl (kC (s:=⟨b,sy,li,0,_⟩)) ⟨rfl,rfl⟩
 | 1 =>
  have h0:((1:Nat):Int)=1:=rfl;refine wB ?_;exact aY _ rfl (kC (s:=⟨b,sy,li,0,true⟩)) ⟨rfl,rfl⟩
 | k+2 =>
  have h0:((k+2:Nat):Int) - 1=((k+1:Nat):Int):=by omega
  refine wB ?_;rw [h0];exact aY _ rfl (kC (s:=⟨b,sy,li,k+1,false⟩)) ⟨rfl,rfl⟩
theorem eT.CA {s:eT} (h:s.ok):s.pow.ok:=by
 unfold eT.ok at *
 unfold eT.pow
 split
 ·dsimp only;omega
 ·exact h
theorem eT.IJ (s:eT):s.pow.b=s.b∧s.pow.rO=s.rO∧s.pow.gT=s.gT:=by
 unfold eT.pow;split<;>exact ⟨rfl,rfl,rfl⟩
def eT.EF (s:eT) (m:List UInt8):eT:=if s.down=true∨s.rO<s.b.length+m.length then s.pow else { s.pow with b:=s.b++m }
def eT.pT (s:eT) (m:List UInt8):Int:=if s.down=true∨s.rO<s.b.length+m.length then 13 else if s.pow.down then 13 else 0
theorem CB (g:Nat) (s:eT) (m:List UInt8) (v:Value) (h:s.ok) (hv:db R v m) (hm:m.length≤140737488351232) :
 Ct prog 227 #[pt g,v] e (df g s::R) (fun v' L'=>v'=.int .i64 (s.pT m)∧L'=df g (s.EF m)::R):=by
 refine a7 (cF.shape (db.tail hv) zo) ?_;rintro ⟨⟨ei,c1,rfl,g3,g4,g5,g6⟩,_⟩;have j1:=eT.CA h;have hb:=eT.IJ s;refine qt fun ad c=>?_
 refine a8 (args:=[_,_]) func227 rfl ntmps227 results227 rfl ?_;refine wB ?_;refine O.fp (kC (s:=s)) ?_;refine aZ rfl rfl (qu R e g s h) ?_;rintro _ _ ⟨rfl,rfl⟩;clear ad c;refine vD fun ad c=>?_
 generalize hp:s.pow=p at *
 obtain ⟨b,sy,li,ar,dn⟩:=p;obtain ⟨sb,ss,sl,sa,sd⟩:=s;dsimp only at hb
 obtain ⟨rfl,rfl,rfl⟩:=hb;obtain ⟨h1,h2,h3,h4⟩:=j1;dsimp only at h1 h2 h3 h4 ⊢
 cases sd with
 | true =>
  (repeat' first|refine Zb ?_|apply Zc|apply Zd|apply Ze|apply Zf|refine Yz ?_|apply YE|apply YF|(refine bz (id:=3) [] mixed ?_;all_goals (refine tM 0 ?_);all_goals (refine tM 1 ?_);all_goals (first|refine dv 2 _ rfl (bu rfl) ?_|refine bc 2 rfl rfl zK aX rfl ?_);all_goals (first|refine dv 3 _ rfl (bN rfl) ?_|refine bc 3 rfl rfl zK aX rfl ?_);all_goals (first|refine dv 4 _ rfl (bu rfl) ?_|refine bc 4 rfl rfl zK aX rfl ?_);all_goals (first|refine dv 5 _ rfl (bm rfl) ?_|refine bc 5 rfl rfl zK aX rfl ?_);all_goals (first|refine dv 6 _ rfl (ba rfl) ?_|refine bc 6 rfl rfl zK aX rfl ?_);all_goals (first|refine dv 7 _ rfl (bp rfl zR) ?_|refine bc 7 rfl rfl zK aX rfl ?_);all_goals (first|refine dv 8 _ rfl (bu rfl) ?_|refine bc 8 rfl rfl zK aX rfl ?_);all_goals (first|refine dv 9 _ rfl (bm rfl) ?_|refine bc 9 rfl rfl zK aX rfl ?_);all_goals (first|refine dv 10 _ rfl (ba rfl) ?_|refine bc 10 rfl rfl zK aX rfl ?_);all_goals (first|refine dv 11 _ rfl (bp rfl zR) ?_|refine bc 11 rfl rfl zK aX rfl ?_);all_goals (first|refine dv 12 _ rfl (bN rfl) ?_|refine bc 12 rfl rfl zK aX rfl ?_);all_goals (first|refine dv 13 _ rfl (cE.jA rfl rfl zo) ?_|refine bc 13 rfl rfl zK aX rfl ?_);all_goals (first|refine dv 14 (.bool true) rfl (cE.iW (cE.gtr rfl rfl) zy) ?_|refine dv 14 (.bool false) rfl (cE.no (cE.gtr rfl rfl) zn) ?_|refine bc 14 rfl rfl zK aX rfl ?_);all_goals (first|refine tk 15 _ rfl (bL rfl rfl) ?_|refine tk 15 _ rfl (bJ rfl rfl) ?_);all_goals (refine bf zK ?_)))
  exact aY _ rfl kD ⟨by simp [eT.pT];rfl,by simp [eT.EF,hp]⟩
 | false =>
  by_cases hl:li<b.length+m.length
  ·(repeat' first|refine Zb ?_|apply Zc|apply Zd|apply Ze|apply Zf|refine Yz ?_|apply YE|apply YF|(refine bz (id:=3) [] mixed ?_;all_goals (refine tM 0 ?_);all_goals (refine tM 1 ?_);all_goals (first|refine dv 2 _ rfl (bu rfl) ?_|refine bc 2 rfl rfl zK aX rfl ?_);all_goals (first|refine dv 3 _ rfl (bN rfl) ?_|refine bc 3 rfl rfl zK aX rfl ?_);all_goals (first|refine dv 4 _ rfl (bu rfl) ?_|refine bc 4 rfl rfl zK aX rfl ?_);all_goals (first|refine dv 5 _ rfl (bm rfl) ?_|refine bc 5 rfl rfl zK aX rfl ?_);all_goals (first|refine dv 6 _ rfl (ba rfl) ?_|refine bc 6 rfl rfl zK aX rfl ?_);all_goals (first|refine dv 7 _ rfl (bp rfl zR) ?_|refine bc 7 rfl rfl zK aX rfl ?_);all_goals (first|refine dv 8 _ rfl (bu rfl) ?_|refine bc 8 rfl rfl zK aX rfl ?_);all_goals (first|refine dv 9 _ rfl (bm rfl) ?_|refine bc 9 rfl rfl zK aX rfl ?_);all_goals (first|refine dv 10 _ rfl (ba rfl) ?_|refine bc 10 rfl rfl zK aX rfl ?_);all_goals (first|refine dv 11 _ rfl (bp rfl zR) ?_|refine bc 11 rfl rfl zK aX rfl ?_);all_goals (first|refine dv 12 _ rfl (bN rfl) ?_|refine bc 12 rfl rfl zK aX rfl ?_);all_goals (first|refine dv 13 _ rfl (cE.jA rfl rfl zo) ?_|refine bc 13 rfl rfl zK aX rfl ?_);all_goals (first|refine dv 14 (.bool true) rfl (cE.iW (cE.gtr rfl rfl) zy) ?_|refine dv 14 (.bool false) rfl (cE.no (cE.gtr rfl rfl) zn) ?_|refine bc 14 rfl rfl zK aX rfl ?_);all_goals (first|refine tk 15 _ rfl (bL rfl rfl) ?_|refine tk 15 _ rfl (bJ rfl rfl) ?_);all_goals (refine bf zK ?_)))
   exact aY _ rfl kD ⟨by simp [eT.pT,hl];rfl,by simp [eT.EF,hp,hl]⟩
  ·(repeat' first|refine Za ?_|refine Zb ?_|apply Zc|apply Zd|apply Ze|apply Zf|refine Zg ?_|refine Zh ?_|refine Zi ?_|refine YA ?_|apply YC|(refine bz (id:=3) [] mixed ?_;all_goals (refine tM 0 ?_);all_goals (refine tM 1 ?_);all_goals (first|refine dv 2 _ rfl (bu rfl) ?_|refine bc 2 rfl rfl zK aX rfl ?_);all_goals (first|refine dv 3 _ rfl (bN rfl) ?_|refine bc 3 rfl rfl zK aX rfl ?_);all_goals (first|refine dv 4 _ rfl (bu rfl) ?_|refine bc 4 rfl rfl zK aX rfl ?_);all_goals (first|refine dv 5 _ rfl (bm rfl) ?_|refine bc 5 rfl rfl zK aX rfl ?_);all_goals (first|refine dv 6 _ rfl (ba rfl) ?_|refine bc 6 rfl rfl zK aX rfl ?_);all_goals (first|refine dv 7 _ rfl (bp rfl zR) ?_|refine bc 7 rfl rfl zK aX rfl ?_);all_goals (first|refine dv 8 _ rfl (bu rfl) ?_|refine bc 8 rfl rfl zK aX rfl ?_);all_goals (first|refine dv 9 _ rfl (bm rfl) ?_|refine bc 9 rfl rfl zK aX rfl ?_);all_goals (first|refine dv 10 _ rfl (ba rfl) ?_|refine bc 10 rfl rfl zK aX rfl ?_);all_goals (first|refine dv 11 _ rfl (bp rfl zR) ?_|refine bc 11 rfl rfl zK aX rfl ?_);all_goals (first|refine dv 12 _ rfl (bN rfl) ?_|refine bc 12 rfl rfl zK aX rfl ?_);all_goals (first|refine dv 13 _ rfl (cE.jA rfl rfl zo) ?_|refine bc 13 rfl rfl zK aX rfl ?_);all_goals (first|refine dv 14 (.bool true) rfl (cE.iW (cE.gtr rfl rfl) zy) ?_|refine dv 14 (.bool false) rfl (cE.no (cE.gtr rfl rfl) zn) ?_|refine bc 14 rfl rfl zK aX rfl ?_);all_goals (first|refine tk 15 _ rfl (bL rfl rfl) ?_|refine tk 15 _ rfl (bJ rfl rfl) ?_);all_goals (refine bf zK ?_)))
   refine bC (bo rfl rfl rfl (.succ .zero) (cF.tail hv) rfl rfl lQ zm zo fun lO c' lP=>?_)
   cases dn with
   | true =>
    refine wB ?_;refine aY _ rfl ?_ ⟨by simp [eT.pT,hl,hp];rfl,by simp [eT.EF,hp,hl];rfl⟩;rw [← ah,← aa];exact cn (bw (.succ .zero) aX) (kC (s:=⟨b++m,sy,li,ar,true⟩))
   | false =>
    refine wB ?_;refine aY _ rfl ?_ ⟨by simp [eT.pT,hl,hp];rfl,by simp [eT.EF,hp,hl];rfl⟩;rw [← ah,← aa];exact cn (bw (.succ .zero) aX) (kC (s:=⟨b++m,sy,li,ar,false⟩))
theorem eT.Bp {b m:List UInt8} {sy li:Nat} (h:b.length+m.length≤li):eT.EF ⟨b,sy,li,0,false⟩ m=⟨b++m,sy,li,0,false⟩∧eT.pT ⟨b,sy,li,0,false⟩ m=0:=by
 have h1:¬ li<b.length+m.length:=by omega
 simp [eT.EF,eT.pT,eT.pow,h1]
theorem eT.Sc {s:eT} (h:s.ok) (m:List UInt8):(s.EF m).ok:=by
 have h1:=eT.CA h;have h2:=eT.IJ s;unfold eT.EF
 split
 ·exact h1
 ·rename_i h3;obtain ⟨a,b,c,d⟩:=h1;refine ⟨?_,b,?_,d⟩
  ·simp only [aa];have:=h.2.1
   simp at h3;omega
  ·simp only [aa];rw [h2.1] at c;omega
def eT.O4 (s:eT):eT:=if s.pow.down then s.pow else { s.pow with gT:=s.b.length }
def eT.CC (s:eT):Int:=if s.pow.down then 13 else 0
theorem Ha (g:Nat) (s:eT) (h:s.ok) :
 Ct prog 228 #[pt g] e (df g s::R) (fun v' L'=>v'=.int .i64 s.CC∧L'=df g s.O4::R):=by
 have j1:=eT.CA h;have hb:=eT.IJ s;refine a8 (args:=[_]) func228 rfl ntmps228 results228 rfl ?_;refine wB ?_;refine aZ rfl rfl (qu R e g s h) ?_;rintro _ _ ⟨rfl,rfl⟩;refine vD fun ad c=>?_
 have e1:s.O4=if s.pow.down then s.pow else { s.pow with gT:=s.b.length }:=rfl
 have e2:s.CC=if s.pow.down then 13 else 0:=rfl
 generalize hp:s.pow=p at *
 obtain ⟨b,sy,li,ar,dn⟩:=p;obtain ⟨h1,h2,h3,h4⟩:=j1;dsimp only at h1 h2 h3 h4 hb e1 e2 ⊢
 obtain ⟨EC,_,_⟩:=hb
 cases dn with
 | true =>
  rw [e1,e2];refine wB ?_;exact aY _ rfl kD ⟨rfl,rfl⟩
 | false =>
  rw [e1,e2];refine wB ?_;refine aY _ rfl kD ⟨rfl,?_⟩;rw [← EC]
  rfl
def eT.cut (s:eT) (n:Int):eT:=if s.down∨n<0∨(s.b.length:Int)<n then s else if s.pow.down then s.pow else { s.pow with b:=s.b.take n.toNat,gT:=n.toNat }
def eT.xh (s:eT) (n:Int):Int:=if s.down then 13 else if n<0∨(s.b.length:Int)<n then 1 else if s.pow.down then 13 else 0
theorem Bq (g:Nat) (s:eT) (n:Int) (h:s.ok) :
 Ct prog 142 #[pt g,.int .i64 n] e (df g s::R) (fun v' L'=>v'=.int .i64 (s.xh n)∧L'=df g (s.cut n)::R):=by
 have j1:=eT.CA h;have hb:=eT.IJ s;refine qt fun ad c=>?_
 refine a8 (args:=[_,_]) func142 rfl ntmps142 results142 rfl ?_;obtain ⟨b,sy,li,ar,dn⟩:=s;dsimp only at hb ⊢
 cases dn with
 | true =>
  refine wB ?_;exact aY _ rfl kD ⟨rfl,by simp [eT.cut]⟩
 | false =>
  by_cases h0:n<0
  ·refine wB ?_;exact aY _ rfl kD ⟨by simp [eT.xh,h0];rfl,by simp [eT.cut,h0]⟩
  ·by_cases hn:(b.length:Int)<n
   ·refine wB ?_;exact aY _ rfl kD ⟨by simp [eT.xh,hn];rfl,by simp [eT.cut,hn]⟩
   ·refine wB ?_;refine O.fp kD ?_;refine aZ rfl rfl (qu R e g ⟨b,sy,li,ar,false⟩ h) ?_;rintro _ _ ⟨rfl,rfl⟩;refine vD fun ad c=>?_
    refine bn (tz (.succ .zero)) ?_;rintro ⟨_,_,hv,g1,g2⟩
    cases hv
    have e1:eT.cut ⟨b,sy,li,ar,false⟩ n=if (eT.pow ⟨b,sy,li,ar,false⟩).down then eT.pow ⟨b,sy,li,ar,false⟩ else { eT.pow ⟨b,sy,li,ar,false⟩ with b:=b.take n.toNat,gT:=n.toNat }:=by simp [eT.cut,h0,hn]
    have e2:eT.xh ⟨b,sy,li,ar,false⟩ n=if (eT.pow ⟨b,sy,li,ar,false⟩).down then 13 else 0:=by simp [eT.xh,h0,hn]
    rw [e1,e2];clear e1 e2
    generalize eT.pow ⟨b,sy,li,ar,false⟩=p at *
    obtain ⟨b1,sy1,li1,ar1,dn1⟩:=p;obtain ⟨h1,h2,h3,h4⟩:=j1;dsimp only at h1 h2 h3 h4 hb g1 ⊢
    obtain ⟨rfl,rfl,rfl⟩:=hb;have F9:n.toNat≤b1.length:=by omega
    have Xm:n=(n.toNat:Int):=by omega
    cases dn1 with
    | true =>
     refine wB ?_;exact aY _ rfl kD ⟨rfl,rfl⟩
    | false =>
     refine wB ?_;refine aY _ rfl (cn ?_ (kC (ad:=ad) (c:=c) (s:=⟨b1.take n.toNat,n.toNat,li1,ar1,false⟩))) ⟨rfl,rfl⟩;have e3:(b1.take n.toNat).length=n.toNat:=by rw [aF];omega
     have e4:=D3 (R:=R) (ad:=ad) (c:=c) F9;dsimp only;rw [e3] at e4 ⊢
     rw [← Xm];exact bh e4
def eT.kept (s:eT) (gC:Int):Nat:=(min (max gC 0) ((s.b.length:Int) - s.gT)).toNat
def eT.ka (s:eT) (gC:Int):eT:=⟨s.b.take (s.gT+s.kept gC),s.gT+s.kept gC,s.rO,0,false⟩
theorem EG (g:Nat) (s:eT) (n:Int) (h:s.ok) :
 Ct prog 183 #[pt g,.int .i64 n] e (df g s::R) (fun v' L'=>v'=.tuple #[]∧L'=df g (s.ka n)::R):=by
 obtain ⟨h1,h2,h3,h4⟩:=h;refine qt fun ad c=>?_
 refine a7 (tz (.succ .zero)) ?_;rintro ⟨_,_,hv,g1,g2⟩
 cases hv
 refine a8 (args:=[_,_]) func183 rfl ntmps183 results183 rfl ?_
 have hk:(s.kept n:Int)=(if (s.b.length:Int) - s.gT<(if 0 > n then 0 else n) then (s.b.length:Int) - s.gT else (if 0 > n then 0 else n)):=by
  unfold eT.kept
  omega
 have xu:s.gT+s.kept n≤s.b.length:=by unfold eT.kept;omega
 (repeat' first|refine Za ?_|apply Zc|apply Zd|apply Ze|apply Zf|refine Zg ?_|refine Zh ?_|refine Zi ?_|refine Zk ?_|refine Yd ?_|(refine bz (id:=0) [13] mixed ?_;all_goals (refine tM 0 ?_);all_goals (refine tk 1 _ rfl (cE.max rfl rfl) ?_);all_goals (refine tM 2 ?_);all_goals (refine tN 3 ?_);all_goals (refine tF 4 ?_);all_goals (refine tL 5 ?_);all_goals (refine tk 6 _ rfl (bN rfl) ?_);all_goals (refine tM 7 ?_);all_goals (refine tN 8 ?_);all_goals (refine tF 9 ?_);all_goals (refine tL 10 ?_);all_goals (refine tk 11 _ rfl (cE.jA rfl rfl zo) ?_);all_goals (refine tk 12 _ rfl (cE.min rfl rfl) ?_);all_goals ((refine tO 13 ?_;refine dV (bj rfl) ?_));all_goals (refine bf zK ?_))|(refine bz (id:=1) [12,13,14] mixed ?_;all_goals (refine tM 0 ?_);all_goals (refine tM 1 ?_);all_goals (refine tN 2 ?_);all_goals (refine tF 3 ?_);all_goals (refine tL 4 ?_);all_goals (refine tM 5 ?_);all_goals (refine tN 6 ?_);all_goals (refine tF 7 ?_);all_goals (refine tL 8 ?_);all_goals (refine tM 9 ?_);all_goals (refine tk 10 _ rfl (cE.kS rfl rfl zo) ?_);all_goals (refine tk 11 _ rfl (cE.iV rfl rfl zo zo) ?_);all_goals ((refine tO 12 ?_;refine dV (bm rfl) ?_));all_goals ((refine tO 13 ?_;refine dV (ba rfl) ?_));all_goals ((refine tO 14 ?_;refine tf ?_;refine ⟨zN,?_⟩));all_goals (refine bf zK ?_)))
 rw [← hk];have e1:((s.gT:Int)+(s.kept n:Int)).toNat=s.gT+s.kept n:=by omega
 rw [e1];refine bU _ rfl (cn ?_ (kC (ad:=ad) (c:=c) (s:=s.ka n))) ⟨rfl,rfl⟩;have e3:(s.b.take (s.gT+s.kept n)).length=s.gT+s.kept n:=by rw [aF];omega
 have e4:=D3 (R:=R) (ad:=ad) (c:=c) xu;simp only [eT.ka];rw [e3] at e4 ⊢
 exact bh e4
theorem EH (g:Nat) (s:eT) (h:s.ok) :
 Ct prog 139 #[pt g] e (df g s::R) (fun v' L'=>∃ ad c,v'=.slice ad s.b.length c∧L'=cT (.slice ad s.b.length c) s.b::df g s::R):=by
 have:=h.1;refine qt fun ad c=>?_
 refine a8 (args:=[_]) func139 rfl ntmps139 results139 rfl ?_;refine wB ?_;refine aZ rfl rfl (dy _ e _ s.b (bb (.succ .zero)) zo) ?_;rintro _ _ ⟨lO,c',rfl,rfl⟩;refine wB ?_;exact aY _ rfl (bh kC) ⟨_,_,rfl,rfl⟩
end Go.Proofs
namespace Go.Proofs
open Go.Bs
def CD (n:Nat):Nat:=4294967295 - n
theorem MB {n:Nat} (h:n<4294967296):Go.bits .xor .u32 IntKind.u32.max (n:Int)=(CD n:Int):=by
 unfold Go.bits CD;simp only [IntKind.bits]
 have e1:(BitVec.ofInt 32 IntKind.u32.max ^^^ BitVec.ofInt 32 (n:Int)).toNat=4294967295 - n:=by
  have h2:BitVec.ofInt 32 IntKind.u32.max=BitVec.allOnes 32:=by decide
  rw [h2,BitVec.allOnes_xor,BitVec.toNat_not,BitVec.ofInt_natCast,BitVec.toNat_ofNat,Nat.mod_eq_of_lt (show n<2 ^ 32 by omega)]
 exact (congrArg (fun z:Nat=>IntKind.u32.wrap (z:Int)) e1).trans (wrap_u32 zo zo)
theorem cE.QP {P:Program} {N:Fr} {σ:Env} {e:World} {L:List cK} {t ty:TypeId} {x:Operand} {n:Nat} (hx:ev σ x=some (.int .u32 (n:Int))) (hn:n<4294967296):cE P N (.unOp .xor t x) ty (.int .u32 (CD n:Int)) σ e L:=fun a w ha _ _ _ _ _=>by
 rw [← MB hn]
 simp [execOp,ha.ev hx,Op.unary,Op.intBits,Go.bits,IntKind.signed]
theorem Ct.to {P:Program} {f:FuncId} {args:Array Value} {e:World} {L X Y:List cK} {a:Value} (h:Ct P f args e L (fun v' L'=>v'=a∧L'=Y)) (g:cB Y X):Ct P f args e L (fun v' L'=>v'=a∧L'=X) :=
 fun w hs=>(h w hs).mono fun x w' ⟨v,L',h1,h2,h4⟩=>⟨v,X,h1,⟨h2.1,rfl⟩,(h2.2 ▸ h4).cM g⟩
end Go.Proofs
namespace Go.Proofs
attribute [local irreducible] Bs.cE Bs.Do Bs.O Bs.W Bs.Fin Bs.A Bs.Ct Bs.cF Bs.Rd Bs.Sat Bs.cL Bs.Ob Bs.dJ Bs.View Bs.cB Bs.Ex Bs.dH Bs.Pu Bs.eZ Bs.dO Bs.dZ
open Go.Bs
open Tryz
variable (R:List cK) (e:World)
theorem Hb (n:Nat):CD n<4294967296:=by unfold CD;omega
def fD (m:List UInt8):List UInt8:=be m.length 4++be (CD m.length) 4++m
theorem gJ (m:List UInt8):(fD m).length=m.length+8:=by simp [fD,cY];omega
abbrev jh (gj gd k:Nat):cK:=cL gj [pt gd,.int .i64 (k:Int)] 233 (0,0)
theorem EI (g:Nat) (s:eY) :
 Ct prog 141 #[pt g] e (Reader g s::R) (fun v' L'=>v'=.tuple #[.int .i64 (s.num 4:Int),.bool (decide (s.num 4=CD ((s.next 4).num 4)∧s.num 4≤65535))]∧L'=Reader g ((s.next 4).next 4)::R):=by
 have h1:s.num 4<4294967296:=tu _;have h2:(s.next 4).num 4<4294967296:=tu _;have h3:=Hb ((s.next 4).num 4);refine a8 (args:=[_]) func141 rfl ntmps141 results141 rfl ?_;refine wB ?_;refine aZ rfl rfl (qT R e g s) ?_;rintro _ _ ⟨rfl,rfl⟩
 (repeat (refine wA ?_;intros))
 refine aZ rfl rfl (qT R e g _) ?_;rintro _ _ ⟨rfl,rfl⟩
 generalize s.num 4=n at *
 generalize (s.next 4).num 4=m at *
 refine wB ?_;refine bx _ (cE.QP rfl h2) rfl ?_
 by_cases g1:n=CD m
 ·by_cases g2:n≤65535
  ·refine wB ?_;exact aY _ rfl aX ⟨by rw [ay ⟨g1,g2⟩];rfl,rfl⟩
  ·refine wB ?_;exact aY _ rfl aX ⟨by rw [aq (fun h=>g2 h.2)];rfl,rfl⟩
 ·refine wB ?_;exact aY _ rfl aX ⟨by rw [aq (fun h=>g1 h.1)];rfl,rfl⟩
theorem MC (gj gd k:Nat) (s:eT) (m:List UInt8) (v:Value) (hs:s.ok) (hv:db R v m) (hm:m.length≤65535) (hk:k≤1000000000000) :
 Ct prog 152 #[pt gj,v] e (jh gj gd k::df gd s::R) (fun v' L'=>v'=.int .i64 (s.pT (fD m))∧L'=jh gj gd (if s.pT (fD m)=0 then k+1 else k)::df gd (s.EF (fD m))::R):=by
 refine a7 (hv.tail.tail.shape zo) ?_;rintro ⟨⟨ad,cap,rfl,h3,h4,h5,h6⟩,_⟩;have h1:=Hb m.length;refine a8 (args:=[_,_]) func152 rfl ntmps152 results152 rfl ?_;refine wB ?_;refine aZ rfl rfl (jk _ e) ?_;rintro _ _ ⟨gw,rfl,rfl⟩;refine wB ?_;refine aZ rfl rfl (gF _ e gw [] m.length zo (by simp)) ?_;rintro _ _ ⟨rfl,rfl⟩;refine wB ?_;refine bx _ (cE.QP rfl zo) rfl ?_
 (repeat' first|refine Za ?_|refine Zb ?_|apply Zc|apply Zd|apply Ze|apply Zf|refine Zg ?_|refine Zh ?_|refine Zi ?_|refine Zj ?_|refine Zk ?_|refine Zq ?_|refine Zs ?_|refine Zt ?_|refine ZG ?_|refine ZH ?_|refine ZI (fun _=>?_) fun _=>?_|refine ZM ?_|refine ZN ?_|refine ZO (fun _=>?_) fun _=>?_|refine ZS ?_|refine ZY ?_|refine ZZ ?_|refine Z6 ?_|refine Z7 ?_|refine Z8 ?_|refine Yd ?_|refine Yf ?_|refine Ym ?_|refine Yz ?_|refine YA ?_|apply YC|apply YE|apply YF|refine YQ ?_|refine YR ?_|(apply O.dh;exact rfl;exact zP;(first|(simp only [aC,Nat.add_zero,Nat.reduceAdd,List.drop_succ_cons,List.drop_zero,List.take_succ_cons,List.take_zero];done)|(simp only [aC,Nat.add_zero,Nat.reduceAdd,List.drop_succ_cons,List.drop_zero,List.take_succ_cons,List.take_zero];exact rfl));exact rfl;exact rfl))
 refine aZ rfl rfl (gF _ e gw _ (CD m.length) h1 (by simp [cY])) ?_;rintro _ _ ⟨rfl,rfl⟩;refine wB ?_;refine aZ rfl rfl (hI _ e gw _ m _ hv.tail.tail (by simp [cY];omega)) ?_;rintro _ _ ⟨rfl,rfl⟩;have Hc:[]++be m.length 4++be (CD m.length) 4++m=fD m:=by simp [fD]
 rw [Hc];have Ms:=gJ m
 generalize fD m=b at *
 refine wB ?_;refine bk (id:=8) [7] [jh gj gd k] mixed ?_
 (refine tM 0 ?_;refine tN 1 ?_;refine tF 2 ?_;refine tL 3 ?_;refine tM 4 ?_)
 refine tO 5 ?_;refine bg rfl rfl (hJ _ e gw b zo) ?_;rintro _ _ ⟨dW,c2,rfl,rfl⟩;refine ⟨fun _=>zE,?_⟩;refine tO 6 ?_;refine bg rfl rfl (Ct.at (.succ (.succ (.succ .zero))) (CB _ e gd s b _ hs (bb .zero) zo)) ?_;rintro _ _ ⟨rfl,rfl⟩;refine ⟨fun _=>zE,?_⟩;refine tO 7 ?_;refine dV (bj rfl) ?_;refine bf zK ?_
 by_cases h0:s.pT b=0
 ·rw [aI h0];refine wB ?_;exact aY _ rfl zE ⟨rfl,rfl⟩
 ·rw [aB h0];refine wB ?_;exact aY _ rfl zE ⟨rfl,rfl⟩
theorem Hd (gj gd k:Nat) (s:eT) (hs:s.ok) :
 Ct prog 153 #[pt gj] e (jh gj gd k::df gd s::R) (fun v' L'=>v'=.int .i64 s.CC∧L'=jh gj gd k::df gd s.O4::R):=by
 refine a8 (args:=[_]) func153 rfl ntmps153 results153 rfl ?_;refine wB ?_;refine aZ rfl rfl (Ct.at (.succ .zero) (Ha _ e gd s hs)) ?_;rintro _ _ ⟨rfl,rfl⟩;refine wB ?_;exact aY _ rfl zE ⟨rfl,rfl⟩
def EJ (s:eT) (m:List UInt8):Int:=if s.pT (fD m)=0 then (s.EF (fD m)).CC else s.pT (fD m)
def Kf (s:eT) (m:List UInt8):eT:=if s.pT (fD m)=0 then (s.EF (fD m)).O4 else s.EF (fD m)
def EK (s:eT) (m:List UInt8) (k:Nat):Nat:=if s.pT (fD m)=0 then k+1 else k
abbrev He (gj:Nat):Value:=.func (.func 152) #[pt gj] #[]
theorem Kg (gj:Nat) (ad:Option Addr) (n c:Nat) :
 Ct prog 151 #[He gj,.slice ad n c] e R (fun v' L'=>∃ b1 b2 T1 T2,v'=.func (.func 226) #[] #[pt b1,pt b2]∧L'=cL b1 [He gj] T1 (0,0)::cL b2 [.slice ad n c] T2 (0,0)::R):=by
 refine a8 (args:=[_,_]) func151 rfl ntmps151 results151 rfl ?_
 (repeat (refine wA ?_;intros))
 rename_i b1 b2;exact aY _ rfl (show cB _ (cL b1 [He gj] _ (0,0)::cL b2 [.slice ad n c] _ (0,0)::R) from zE) ⟨b1,b2,_,_,rfl,rfl⟩
theorem MD (gj gd k b1 b2 T1 T2:Nat) (s:eT) (m:List UInt8) (ad:Option Addr) (n c:Nat) (hs:s.ok) (hv:db R (.slice ad n c) m) (hm:m.length≤65535) (hk:k≤1000000000000) :
 Ct prog 226 #[pt b1,pt b2] e (jh gj gd k::df gd s::cL b1 [He gj] T1 (0,0)::cL b2 [.slice ad n c] T2 (0,0)::R) (fun v' L'=>v'=.int .i64 (s.pT (fD m))∧L'=jh gj gd (EK s m k)::df gd (s.EF (fD m))::cL b1 [He gj] T1 (0,0)::cL b2 [.slice ad n c] T2 (0,0)::R):=by
 refine a8 (args:=[_,_]) func226 rfl ntmps226 results226 rfl ?_;refine wB ?_;refine O.gD (us:=[_]) (ws:=[]) rfl rfl rfl (MC _ e gj gd k s m _ hs hv.tail.tail hm hk) ?_;rintro _ _ ⟨rfl,rfl⟩;refine wB ?_;exact aY _ rfl aX ⟨rfl,rfl⟩
abbrev Ak (b1 b2:Nat):Value:=.func (.func 226) #[] #[pt b1,pt b2]
abbrev Al (gj:Nat):Value:=.func (.func 153) #[pt gj] #[]
theorem Hf (gj gd k k2 gs b1 b2 T:Nat) (s s2:eT) (e1:Int) (mz:s2.ok)
 (h1:Ct prog 226 #[pt b1,pt b2] e (jh gj gd k::df gd s::cL gs [Ak b1 b2,Al gj] T (0,0)::R) (fun v' L'=>v'=.int .i64 e1∧L'=jh gj gd k2::df gd s2::cL gs [Ak b1 b2,Al gj] T (0,0)::R)) :
 Ct prog 150 #[.slice (some ⟨gs,0,none⟩) 2 2] e (jh gj gd k::df gd s::cL gs [Ak b1 b2,Al gj] T (0,0)::R) (fun v' L'=>v'=.int .i64 (if e1=0 then s2.CC else e1)∧L'=jh gj gd k2::df gd (if e1=0 then s2.O4 else s2)::R):=by
 refine a8 (args:=[_]) func150 rfl ntmps150 results150 rfl ?_;refine wB ?_;refine bq (ι:=Nat) (fun i=>[(6,.slice (some ⟨gs,0,none⟩) 2 2),(7,.int .i64 2),(8,.int .i64 (i:Int))]) (fun i=>if i=0 then jh gj gd k::df gd s::cL gs [Ak b1 b2,Al gj] T (0,0)::R else if i=1 then jh gj gd k2::df gd s2::cL gs [Ak b1 b2,Al gj] T (0,0)::R else jh gj gd k2::df gd s2.O4::R) (fun i=>i≤2∧(0<i→e1=0)∧(1<i→s2.CC=0)) (fun i=>2 - i) 0 ⟨by omega,by omega,by omega⟩ (cD rfl (cD rfl (cD rfl de))) (by rw [aI rfl];exact aX) ?_;rintro i ⟨hi,VE,Oi⟩;rcases (show i=0∨i=1∨i=2 by omega) with rfl|rfl|rfl
 ·rw [aI rfl];have hr:Rd (jh gj gd k::df gd s::cL gs [Ak b1 b2,Al gj] T (0,0)::R) ⟨gs,0+0,none⟩ (Ak b1 b2):=(bQ .zero rfl).tail.tail;refine wB ?_;refine O.gD (us:=[]) (ws:=[_,_]) rfl rfl rfl h1 ?_;rintro _ _ ⟨rfl,rfl⟩
  by_cases h0:e1=0
  ·refine wB ?_;exact bi 1 ⟨by omega,fun _=>h0,by omega⟩ zo (cD rfl (cD rfl (cD rfl de))) (by rw [aB (show ¬ (1:Nat)=0 by omega),aI (show (1:Nat)=1 from rfl)];exact zE)
  ·rw [aB h0,aB h0];refine wB ?_;exact aY _ rfl zE ⟨rfl,rfl⟩
 ·rw [aB (show ¬ (1:Nat)=0 by omega),aI (show (1:Nat)=1 from rfl)];have h0:=VE zo;have hr:Rd (jh gj gd k2::df gd s2::cL gs [Ak b1 b2,Al gj] T (0,0)::R) ⟨gs,0+1,none⟩ (Al gj):=(bQ .zero rfl).tail.tail;refine wB ?_;refine O.gD (us:=[_]) (ws:=[]) rfl rfl rfl (Hd _ e gj gd k2 s2 mz) ?_;rintro _ _ ⟨rfl,rfl⟩
  by_cases h3:s2.CC=0
  ·refine wB ?_;exact bi 2 ⟨by omega,fun _=>h0,fun _=>h3⟩ zo (cD rfl (cD rfl (cD rfl de))) (by rw [aB (show ¬ (2:Nat)=0 by omega),aB (show ¬ (2:Nat)=1 by omega)];exact zE)
  ·rw [aI h0,aI h0];refine wB ?_;exact aY _ rfl zE ⟨rfl,rfl⟩
 ·rw [aB (show ¬ (2:Nat)=0 by omega),aB (show ¬ (2:Nat)=1 by omega),aI (VE zo),aI (VE zo),Oi zo];refine wB ?_;exact aY _ rfl zE ⟨rfl,rfl⟩
theorem nZ (gj gd k:Nat) (s:eT) (m:List UInt8) (v:Value) (hs:s.ok) (hv:db R v m) (hm:m.length≤65535) (hk:k≤1000000000000) :
 Ct prog 76 #[pt gj,v] e (jh gj gd k::df gd s::R) (fun v' L'=>v'=.int .i64 (EJ s m)∧L'=jh gj gd (EK s m k)::df gd (Kf s m)::R):=by
 refine a7 (hv.tail.tail.shape zo) ?_;rintro ⟨⟨ad,cap,rfl,h3,h4,h5,h6⟩,_⟩;refine a8 (args:=[_,_]) func76 rfl ntmps76 results76 rfl ?_;refine wB ?_;refine aZ rfl rfl (Kg _ e gj ad m.length cap) ?_;rintro _ _ ⟨b1,b2,T1,T2,rfl,rfl⟩
 (repeat (refine wA ?_;intros))
 rename_i gs;refine O.fp (show cB _ (jh gj gd k::df gd s::cL gs [Ak b1 b2,Al gj] _ (0,0)::cL b1 [He gj] T1 (0,0)::cL b2 [.slice ad m.length cap] T2 (0,0)::R) from zE) ?_;refine aZ rfl rfl (Hf (cL b1 [He gj] T1 (0,0)::cL b2 [.slice ad m.length cap] T2 (0,0)::R) e gj gd k (EK s m k) gs b1 b2 _ s (s.EF (fD m)) (s.pT (fD m)) (eT.Sc hs _) ?_) ?_
 ·exact Ct.to (Ct.cM (MD (cL gs [Ak b1 b2,Al gj] _ (0,0)::R) e gj gd k b1 b2 T1 T2 s m ad m.length cap hs hv.tail hm hk) zE) zE
 rintro _ _ ⟨rfl,rfl⟩;refine wB ?_;exact aY _ rfl zE ⟨rfl,rfl⟩
end Go.Proofs
namespace Go.Proofs
open Go.Bs
def mG (b:List UInt8):Nat:=numOf (b.take 4)
def Kh (b:List UInt8):Nat:=numOf ((b.drop 4).take 4)
def pc (b:List UInt8):Prop:=mG b=CD (Kh b)∧mG b≤65535
instance (b:List UInt8):Decidable (pc b):=inferInstanceAs (Decidable (_∧_))
def dB (b:List UInt8):List (List UInt8) × Nat × Bool :=
 if h:b.length<8 then ([],0,true)
 else if pc b then
  (if b.length - 8<mG b then ([],0,true)
  else ((b.drop 8).take (mG b)::(dB (b.drop (8+mG b))).1,8+mG b+(dB (b.drop (8+mG b))).2.1,(dB (b.drop (8+mG b))).2.2))
 else ([],0,false)
 termination_by b.length
 decreasing_by all_goals (rw [aP];omega)
theorem ni {b:List UInt8} (h:b.length<8):dB b=([],0,true):=by rw [dB,dif_pos h]
theorem Br {b:List UInt8} (h:¬ b.length<8) (h2:¬ pc b):dB b=([],0,false):=by rw [dB,dif_neg h,aB h2]
theorem yD {b:List UInt8} (h:¬ b.length<8) (h2:pc b) (h3:b.length - 8<mG b):dB b=([],0,true):=by rw [dB,dif_neg h,aI h2,aI h3]
theorem sq {b:List UInt8} (h:¬ b.length<8) (h2:pc b) (h3:¬ b.length - 8<mG b):dB b=((b.drop 8).take (mG b)::(dB (b.drop (8+mG b))).1,8+mG b+(dB (b.drop (8+mG b))).2.1,(dB (b.drop (8+mG b))).2.2):=by
 rw [dB,dif_neg h,aI h2,aB h3]
theorem aar {b:List UInt8} (h:¬ b.length<8):eY.num ⟨b,false⟩ 4=mG b∧eY.next ⟨b,false⟩ 4=⟨b.drop 4,false⟩∧eY.num ⟨b.drop 4,false⟩ 4=Kh b∧eY.next ⟨b.drop 4,false⟩ 4=⟨b.drop 8,false⟩:=by
 have f1:eY.fits ⟨b,false⟩ 4=true:=by simp [eY.fits];omega
 have f2:eY.fits ⟨b.drop 4,false⟩ 4=true:=by simp [eY.fits];omega
 refine ⟨?_,?_,?_,?_⟩
 ·unfold eY.num eY.take mG;rw [aI f1];rfl
 ·unfold eY.next;rw [aI f1];rfl
 ·unfold eY.num eY.take Kh;rw [aI f2];rfl
 ·unfold eY.next;rw [aI f2,List.drop_drop];rfl
theorem aas {b:List UInt8} {n:Nat} (h:n≤b.length):eY.take ⟨b,false⟩ (n:Int)=b.take n∧eY.next ⟨b,false⟩ (n:Int)=⟨b.drop n,false⟩:=by
 have f1:eY.fits ⟨b,false⟩ (n:Int)=true:=by simp [eY.fits];omega
 refine ⟨?_,?_⟩
 ·unfold eY.take;rw [aI f1];rfl
 ·unfold eY.next;rw [aI f1];rfl
def yE (b:List UInt8) (k:Nat) (out:List (List UInt8)):Prop:=k≤b.length∧out.length≤k∧dB b=(out++(dB (b.drop k)).1,k+(dB (b.drop k)).2.1,(dB (b.drop k)).2.2)
theorem CE (b:List UInt8):yE b 0 []:=⟨aH _,aS _,by simp⟩
theorem Hg {b:List UInt8} {k:Nat} {out:List (List UInt8)} {ok:Bool} (h:yE b k out) (h2:dB (b.drop k)=([],0,ok)):dB b=(out,k,ok):=by rw [h.2.2,h2];simp
theorem EL {b:List UInt8} {k:Nat} {out:List (List UInt8)} (h:yE b k out) (h1:¬ (b.drop k).length<8) (h2:pc (b.drop k)) (h3:¬ (b.drop k).length - 8<mG (b.drop k)) :
 yE b (k+(8+mG (b.drop k))) (out++[((b.drop k).drop 8).take (mG (b.drop k))]):=by
 obtain ⟨a1,a2,a3⟩:=h;have hn:=sq h1 h2 h3;rw [aP] at h1 h3
 refine ⟨by omega,by simp;omega,?_⟩;rw [a3,hn,show b.drop (k+(8+mG (b.drop k)))=(b.drop k).drop (8+mG (b.drop k)) from List.drop_drop.symm];simp only [aM,List.singleton_append,Nat.add_assoc]
theorem ME (b:List UInt8):(dB b).2.1≤b.length:=by
 generalize hn:b.length=n
 induction n using Nat.strongRecOn generalizing b with
 | _ n ih =>
  by_cases h:b.length<8
  ·rw [ni h];exact aH _
  ·by_cases h2:pc b
   ·by_cases h3:b.length - 8<mG b
    ·rw [yD h h2 h3];exact aH _
    ·rw [sq h h2 h3];have:=ih (b.drop (8+mG b)).length (by rw [aP];omega) (b.drop (8+mG b)) rfl;rw [aP] at this
     show 8+mG b+_≤n
     omega
   ·rw [Br h h2];exact aH _
def nB (l:List eo):cK:=dH (l.map fun a=>cT a.1 a.2)
theorem MF {R:List cK}:cB R (nB []::R):=dS (M:=[])
theorem EM {l m:List eo} {R:List cK}:cB (nB l::nB m::R) (nB (l++m)::R):=by
 unfold nB;rw [ah];exact all_append
theorem Hh {l m:List eo} {R:List cK}:cB (nB (l++m)::R) (nB l::nB m::R):=by
 unfold nB;rw [ah];exact A6
theorem MG {a:eo} {R:List cK}:cB (cT a.1 a.2::R) (nB [a]::R):=dS (M:=[cT a.1 a.2])
theorem MH {a:eo} {R:List cK}:cB (nB [a]::R) (cT a.1 a.2::R):=cU (M:=[cT a.1 a.2])
theorem yF:∀ {l:List eo} {R:List cK},cB (nB l::R) (cI l::R)
 | [],R=>aX
 | a::l,R=>by
  have h1:cB (nB (a::l)::R) (nB [a]::nB l::R):=Hh (l:=[a]) (m:=l);have h2:cB (cI [a]::cI l::R) (cI (a::l)::R):=eL (l:=[a]) (m:=l);exact h1.trans (MH.trans (jw.trans ((bh yF).trans h2)))
end Go.Proofs
namespace Go.Proofs
attribute [local irreducible] Bs.cE Bs.Do Bs.O Bs.W Bs.Fin Bs.A Bs.Ct Bs.cF Bs.Rd Bs.Sat Bs.cL Bs.Ob Bs.dJ Bs.View Bs.cB Bs.Ex Bs.dH Bs.Pu Bs.eZ Bs.dO Bs.dZ
open Go.Bs
open Tryz
variable (R:List cK) (e:World)
def uh (s:eT):eT:=if (dB s.b).2.1=s.b.length then s else s.cut ((dB s.b).2.1:Int)
def Bt (s:eT):Int:=if (dB s.b).2.1=s.b.length then 0 else s.xh ((dB s.b).2.1:Int)
def Sd (gd:Nat) (s:eT) (R:List cK) (v':Value) (L':List cK):Prop :=
 ((dB s.b).2.2=false∧v'=.tuple #[.pointer none,nY,.int .i64 14]∧L'=df gd s::R) ∨
 ((dB s.b).2.2=true∧Bt s≠0∧v'=.tuple #[.pointer none,nY,.int .i64 (Bt s)]∧L'=df gd (uh s)::R) ∨
 ((dB s.b).2.2=true∧Bt s=0∧∃ (gj:Nat) (ad:Option Addr) (c:Nat) (ts:List eo),v'=.tuple #[pt gj,.slice ad ts.length c,.int .i64 0]∧ts.map (·.2)=(dB s.b).1∧L'=jh gj gd ts.length::cV (.slice ad ts.length c) ts::cI ts::df gd (uh s)::R)
def O5 (gd:Nat) (s:eT) (R:List cK) (v':Value) (L':List cK):Prop :=
 ((dB s.b).2.2=false∧v'=.tuple #[.pointer none,nY,.int .i64 14]∧L'=df gd s::R) ∨
 ((dB s.b).2.2=true∧Bt s≠0∧v'=.tuple #[.pointer none,nY,.int .i64 (Bt s)]∧L'=df gd (uh s)::R) ∨
 ((dB s.b).2.2=true∧Bt s=0∧∃ (gj:Nat) (ad:Option Addr) (c:Nat) (ts:List eo),v'=.tuple #[pt gj,.slice ad ts.length c,.int .i64 0]∧ts.map (·.2)=(dB s.b).1∧L'=jh gj gd ts.length::cV (.slice ad ts.length c) ts::nB ts::df gd (uh s)::R)
theorem EN (gd:Nat) (s:eT) (hs:s.ok) :
 Ct prog 65 #[pt gd] e (df gd s::R) (O5 gd s R):=by
 have oT:=hs.1;refine a8 (args:=[_]) func65 rfl ntmps65 results65 rfl ?_;refine wB ?_;refine aZ rfl rfl (EH _ e gd s hs) ?_;rintro _ _ ⟨Vz,cb,rfl,rfl⟩
 (repeat' first|refine Za ?_|refine Zb ?_|apply Zc|apply Zd|apply Ze|apply Zf|refine Zk ?_|refine Zq ?_|refine Zs ?_|refine Zt ?_|refine Zu ?_|refine Zy ?_|refine Zz ?_|refine ZA ?_|refine ZB ?_|refine ZC (fun _=>?_) fun _=>?_|refine ZG ?_|refine ZH ?_|refine ZI (fun _=>?_) fun _=>?_|refine ZM ?_|refine ZN ?_|refine ZO (fun _=>?_) fun _=>?_|refine ZP ?_|refine ZQ ?_|refine ZS ?_|refine Z7 ?_|refine Z8 ?_|refine Ye ?_|refine Yg fun _=>?_|refine Yi fun _=>?_|refine Ym ?_|refine Yz ?_|refine YA ?_|apply YB|apply YC|apply YD|apply YE|apply YF|apply YG|apply YH|apply YI|apply YJ|refine YK ?_|refine YN ?_|fail)
 refine aZ rfl rfl (jx _ e _ s.b (bb .zero) zo) ?_;rintro _ _ ⟨gr,rfl,rfl⟩;refine wB ?_;refine bq (ι:=Nat × List eo × Option Addr × Nat) (fun i=>[(0,pt gd),(6,pt gr),(7,.int .i64 (i.1:Int)),(5,.slice i.2.2.1 i.2.1.length i.2.2.2)]) (fun i=>cV (.slice i.2.2.1 i.2.1.length i.2.2.2) i.2.1::nB i.2.1::Reader gr ⟨s.b.drop i.1,false⟩::df gd s::R) (fun i=>yE s.b i.1 (i.2.1.map (·.2))) (fun i=>s.b.length - i.1) (0,[],none,0) (CE s.b) (cD rfl (cD rfl (cD rfl (cD rfl de)))) ((du eA 1).trans ((bh MF).trans zE)) ?_;rintro ⟨k,out,ad,c⟩ EO;dsimp only at EO ⊢
 have hk:=EO.1;have Et:=EO.2.1;rw [ab] at Et
 have Ms:(s.b.drop k).length=s.b.length - k:=aP;have nf:=EL EO;have Hi:=fun ok=>Hg (ok:=ok) EO
 generalize Mu:s.b.drop k=b at *
 refine wB ?_;refine aZ rfl rfl (Ct.at zP (se _ e gr _)) ?_;rintro _ _ ⟨rfl,rfl⟩;dsimp only
 by_cases h0:b.length=0
 ·have he:=Hi true (ni zo);have oG:k=s.b.length:=by omega
  have hE:Bt s=0:=by unfold Bt;rw [he];exact aI oG
  have hS:uh s=s:=by unfold uh;rw [he];exact aI oG
  (repeat (refine wA ?_;intros))
  rename_i gj;refine aY (jh gj gd out.length::cV (.slice ad out.length c) out::nB out::df gd (uh s)::R) rfl (by rw [hS];exact zE) (.inr (.inr ⟨by rw [he],hE,gj,ad,c,out,rfl,by rw [he],rfl⟩))
 refine wB ?_;refine aZ rfl rfl (Ct.at zP (se _ e gr _)) ?_;rintro _ _ ⟨rfl,rfl⟩;dsimp only
 by_cases h8:b.length<8
 ·skip
  have he:=Hi true (ni h8);have oG:k≠s.b.length:=by omega
  have hE:Bt s=s.xh k:=by unfold Bt;rw [he];exact aB oG
  have hS:uh s=s.cut k:=by unfold uh;rw [he];exact aB oG
  refine wB ?_;refine aZ rfl rfl (Ct.at zP (Bq _ e gd s k hs)) ?_;rintro _ _ ⟨rfl,rfl⟩
  by_cases hz:s.xh k=0
  ·(repeat (refine wA ?_;intros))
   rename_i gj;refine aY (jh gj gd out.length::cV (.slice ad out.length c) out::nB out::df gd (uh s)::R) rfl (by rw [hS];exact zE) (.inr (.inr ⟨by rw [he],by rw [hE,hz],gj,ad,c,out,rfl,by rw [he],rfl⟩))
  ·refine wB ?_;exact aY (df gd (uh s)::R) rfl (by rw [hS];exact zE) (.inr (.inl ⟨by rw [he],by rw [hE];exact hz,by rw [hE];rfl,rfl⟩))
 obtain ⟨f1,f2,f3,f4⟩:=aar h8;refine wB ?_;refine aZ rfl rfl (EI _ e gr ⟨b,false⟩) ?_;rw [f2,f3,f4,f1];rintro _ _ ⟨rfl,rfl⟩;have AX:mG b<4294967296:=tu _
 by_cases hg:pc b
 rotate_left
 ·have he:=Hi false (Br h8 hg);rw [aq (show ¬ (mG b=CD (Kh b)∧mG b≤65535) from hg)];refine wB ?_;exact aY (df gd s::R) rfl zE (.inl ⟨by rw [he],rfl,rfl⟩)
 rw [ay (show mG b=CD (Kh b)∧mG b≤65535 from hg)];have UJ:=hg.2;refine wB ?_;refine aZ rfl rfl (se _ e gr _) ?_;rintro _ _ ⟨rfl,rfl⟩;dsimp only;have hl8:(b.drop 8).length=b.length - 8:=aP
 by_cases cP:(b.drop 8).length<mG b
 ·skip
  have he:=Hi true (yD h8 hg zo);have oG:k≠s.b.length:=by omega
  have hE:Bt s=s.xh k:=by unfold Bt;rw [he];exact aB oG
  have hS:uh s=s.cut k:=by unfold uh;rw [he];exact aB oG
  refine wB ?_;refine aZ rfl rfl (Ct.at zP (Bq _ e gd s k hs)) ?_;rintro _ _ ⟨rfl,rfl⟩
  by_cases hz:s.xh k=0
  ·(repeat (refine wA ?_;intros))
   rename_i gj;refine aY (jh gj gd out.length::cV (.slice ad out.length c) out::nB out::df gd (uh s)::R) rfl (by rw [hS];exact zE) (.inr (.inr ⟨by rw [he],by rw [hE,hz],gj,ad,c,out,rfl,by rw [he],rfl⟩))
  ·refine wB ?_;exact aY (df gd (uh s)::R) rfl (by rw [hS];exact zE) (.inr (.inl ⟨by rw [he],by rw [hE];exact hz,by rw [hE];rfl,rfl⟩))
 obtain ⟨g1,g2⟩:=aas (b:=b.drop 8) (n:=mG b) zo;have eK:=nf h8 hg zo;have oH:((b.drop 8).take (mG b)).length=mG b:=by rw [aF];omega
 refine wB ?_;refine aZ rfl rfl (nS _ e gr ⟨b.drop 8,false⟩ (mG b) zd) ?_;rw [g1,g2,List.drop_drop];rintro _ _ ⟨eE,c3,rfl,rfl⟩
 generalize (b.drop 8).take (mG b)=t at *
 (repeat (refine wA ?_;intros))
 refine bC (bo rfl rfl rfl zP (bB .zero rfl zl) rfl rfl zO zm zo fun jB c4 _=>?_)
 refine wB ?_;refine bi (k+(8+mG b),out++[(.slice eE t.length c3,t)],jB,c4) ?_ ?_ ?_ ?_
 ·dsimp only;rw [ah];exact eK
 ·dsimp only;omega
 ·dsimp only;rw [aa,aj];exact cD rfl (cD rfl (cD rfl (cD rfl de)))
 ·dsimp only;have GG:s.b.drop (k+(8+mG b))=b.drop (8+mG b):=by rw [← Mu,List.drop_drop]
  rw [GG];refine cn (show cB _ (cT (.slice eE t.length c3) t::nB out::dJ eA 1 (.slice jB (out.length+1) c4) (out.length+1) (out.map (·.1)++[.slice eE t.length c3])::Reader gr ⟨b.drop (8+mG b),false⟩::df gd s::R) from zE) (cn (MG (a:=(.slice eE t.length c3,t))) (cn (bw (.succ .zero) aX) (cn EM ?_)));simp only [cV,aa,aj,ah,List.map_cons,List.map_nil];exact zE
theorem yG (gd:Nat) (s:eT) (hs:s.ok) :
 Ct prog 65 #[pt gd] e (df gd s::R) (Sd gd s R) :=
 (EN R e gd s hs).LK fun v L' h=>by
  rcases h with h|h|⟨h1,h2,gj,ad,c,ts,h3,h4,rfl⟩
  ·exact ⟨_,aX,.inl h⟩
  ·exact ⟨_,aX,.inr (.inl h)⟩
  ·exact ⟨_,bh (bh yF),.inr (.inr ⟨h1,h2,gj,ad,c,ts,h3,h4,rfl⟩)⟩
def ff (n:Nat):List UInt8:=[UInt8.ofNat n]
def EP (l:List (List UInt8)):Prop:=l.length≤16∧∀ i (h:i<l.length),l[i]=ff i
abbrev mi (gb gj k:Nat):cK:=cL gb [pt gj,.int .i64 (k:Int)] 228 (0,0)
def O6 (gd:Nat) (s:eT) (R:List cK) (v':Value) (L':List cK):Prop :=
 ((dB s.b).2.2=false∧v'=.tuple #[.pointer none,.int .i64 14]∧L'=df gd s::R) ∨
 ((dB s.b).2.2=true∧Bt s≠0∧v'=.tuple #[.pointer none,.int .i64 (Bt s)]∧L'=df gd (uh s)::R) ∨
 ((dB s.b).2.2=true∧Bt s=0∧¬ EP (dB s.b).1∧v'=.tuple #[.pointer none,.int .i64 14]∧L'=df gd (uh s)::R) ∨
 ((dB s.b).2.2=true∧Bt s=0∧EP (dB s.b).1∧∃ gb gj:Nat,v'=.tuple #[pt gb,.int .i64 0]∧L'=mi gb gj (dB s.b).1.length::jh gj gd (dB s.b).1.length::df gd (uh s)::R)
theorem Hj (gd:Nat) (s:eT) (hs:s.ok) :
 Ct prog 64 #[pt gd] e (df gd s::R) (O6 gd s R):=by
 have oT:=hs.1;refine a8 (args:=[_]) func64 rfl ntmps64 results64 rfl ?_;refine wB ?_;refine aZ rfl rfl (yG _ e gd s hs) ?_;rintro _ _ (⟨h1,rfl,rfl⟩|⟨h1,h2,rfl,rfl⟩|⟨h1,h2,gj,ad,c,ts,rfl,hd,rfl⟩)
 ·refine wB ?_;exact aY _ rfl aX (.inl ⟨h1,rfl,rfl⟩)
 ·refine wB ?_;exact aY _ rfl aX (.inr (.inl ⟨h1,h2,rfl,rfl⟩))
 refine wB ?_;refine bD (fk (.succ .zero)) ?_;rintro ⟨⟨a,c',hq,hca,hcb,Ml⟩,_⟩;obtain ⟨rfl,_,rfl⟩:=Value.slice.inj hq;clear hq;simp only [maxLen] at hcb
 have Hk:dR (jh gj gd ts.length::cV (.slice ad ts.length c) ts::cI ts::df gd (uh s)::R) ts:=dR.tail (dR.tail eH);refine bq (ι:=Nat) (fun i=>[(4,pt gj),(5,.slice ad ts.length c),(18,.slice ad ts.length c),(19,.int .i64 (ts.length:Int)),(20,.int .i64 (i:Int))]) (fun i=>jh gj gd ts.length::cV (.slice ad ts.length c) ts::cI ts::df gd (uh s)::R) (fun i=>i≤ts.length∧i≤16∧∀ j (h:j<ts.length),j<i→(ts[j]).2=ff j) (fun i=>ts.length - i) 0 ⟨aH _,aH _,fun j _ h=>absurd h (Nat.not_lt_zero j)⟩ zS aX ?_;rintro i ⟨hi,aeF,Qm⟩;have hlen:ts.length=(dB s.b).1.length:=by simpa using congrArg List.length hd
 have EQ:∀ j (h:j<ts.length),(dB s.b).1[j]'zo=(ts[j]).2:=fun j h=>by
  have:(ts.map (·.2))[j]'(by simpa using h)=(dB s.b).1[j]'zo:=by simp only [hd]
  rw [← this,List.getElem_map]
 by_cases cP:i<ts.length
 rotate_left
 ·have hk:EP (dB s.b).1:=⟨by omega,fun j h=>by rw [EQ j zo];exact Qm j zo zo⟩
  (repeat (refine wA ?_;intros))
  rename_i gb;refine aY (mi gb gj (dB s.b).1.length::jh gj gd (dB s.b).1.length::df gd (uh s)::R) rfl (by rw [← hlen];exact zE) (.inr (.inr (.inr ⟨h1,h2,hk,gb,gj,rfl,rfl⟩)))
 rcases Ml with ⟨_,_,h0⟩|⟨p,rfl⟩
 ·omega
 have ju:=Hk _ (ax cP);have CF:=EQ i cP;have hr:Rd (jh gj gd ts.length::cV (.slice (some ⟨p,0,none⟩) ts.length c) ts::cI ts::df gd (uh s)::R) ⟨p,0+i,none⟩ (ts[i]'cP).1:=Rd.tail ((bb .zero).elem (by rw [aL,ae cP];rfl))
 have O7:(i≥16∨(ts[i]'cP).2≠ff i)→¬ EP (dB s.b).1:=fun h hk=>by
  rcases h with h|h
  ·have:=hk.1;omega
  ·exact h (by rw [← CF];exact hk.2 i zo)
 have n7:(ts[i]'cP).2=ff i→∀ j (h:j<ts.length),j<i+1→(ts[j]).2=ff j:=fun hh j hj h=>by
  by_cases A3:j=i
  ·subst A3;exact hh
  ·exact Qm j hj zo
 clear CF
 generalize ts[i]'cP=y at *
 obtain ⟨tv,tb⟩:=y;dsimp only at ju hr O7 n7
 refine bD (cF.shape ju zo) ?_;rintro ⟨⟨adt,ct,rfl,_,_,_,hq⟩,_⟩
 by_cases OX:i<16
 rotate_left
 ·refine wB ?_;exact aY (df gd (uh s)::R) rfl zE (.inr (.inr (.inl ⟨h1,h2,O7 (.inl zo),rfl,rfl⟩)))
 by_cases EC:tb.length=1
 rotate_left
 ·refine wB ?_;exact aY (df gd (uh s)::R) rfl zE (.inr (.inr (.inl ⟨h1,h2,O7 (.inr (fun h=>EC (by rw [h];rfl))),rfl,rfl⟩)))
 match tb,EC with
 | [b0],_ =>
 rcases hq with hq|⟨q,o,rfl⟩
 ·cases hq
 have tI:=ju.elem (j:=0) rfl;unfold u8 at tI
 have aeG:b0.toNat<256:=b0.toNat_lt
 by_cases z7:b0.toNat=i
 ·refine wB ?_;have hk:[b0]=ff i:=by rw [← z7];simp [ff]
  exact bi (i+1) ⟨cP,by omega,n7 hk⟩ zo zS zE
 ·refine wB ?_;refine aY (df gd (uh s)::R) rfl zE (.inr (.inr (.inl ⟨h1,h2,O7 (.inr (fun h=>z7 ?_)),rfl,rfl⟩)));have h3:=(List.cons.inj h).1;rw [h3,UInt8.toNat_ofNat_of_lt' (show i<256 by omega)]
def ER (k:Nat) (s:eT):Int:=if 16≤k then 23 else EJ s (ff k)
def IK (k:Nat) (s:eT):Nat:=if 16≤k then k else if EJ s (ff k)=0 then k+1 else k
def IM (k:Nat) (s:eT):eT:=if 16≤k then s else Kf s (ff k)
def IN (k j:Nat) (s:eT):Nat:=if 16≤k then j else EK s (ff k) j
def takeN (k:Nat) (s:eT):Int:=if ER k s=0 then k else 0
theorem yH (gb gj gd k j:Nat) (s:eT) (hs:s.ok) (hk:k≤16) (hj:j≤1000000000000) :
 Ct prog 112 #[pt gb] e (mi gb gj k::jh gj gd j::df gd s::R) (fun v' L'=>v'=.tuple #[.int .i64 (takeN k s),.int .i64 (ER k s)]∧L'=mi gb gj (IK k s)::jh gj gd (IN k j s)::df gd (IM k s)::R):=by
 refine a8 (args:=[_]) func112 rfl ntmps112 results112 rfl ?_
 by_cases OX:16≤k
 ·simp only [takeN,ER,IK,IM,IN,aI OX];refine wB ?_;exact aY _ rfl aX ⟨by simp [AS],rfl⟩
 simp only [takeN,ER,IK,IM,IN,aB OX]
 (repeat (refine wA ?_;intros))
 rename_i gl
 have hb8:Value.int .u8 (k:Int)=u8 (UInt8.ofNat k):=by
  unfold u8;rw [UInt8.toNat_ofNat_of_lt' (show k<256 by omega)]
 rw [hb8];have iX:db (cL gl [u8 (UInt8.ofNat k)] oP (0,0)::mi gb gj k::R) (.slice (some ⟨gl,0,none⟩) 1 1) (ff k):=bB .zero rfl zl;refine O.fp (show cB _ (jh gj gd j::df gd s::cL gl [u8 (UInt8.ofNat k)] oP (0,0)::mi gb gj k::R) from zE) ?_;refine aZ rfl rfl (nZ _ e gj gd j s (ff k) _ hs iX (by simp [ff]) hj) ?_;rintro _ _ ⟨rfl,rfl⟩
 by_cases h0:EJ s (ff k)=0
 ·rw [aI h0,aI h0,h0];refine wB ?_;exact aY _ rfl zE ⟨rfl,rfl⟩
 ·rw [aB h0,aB h0];refine wB ?_;exact aY _ rfl zE ⟨rfl,rfl⟩
def dz (b:List UInt8):eT:=⟨b,b.length,1048576,0,false⟩
theorem ES {b:List UInt8} (h:b.length≤1048576):(dz b).ok:=⟨h,aS _,aS _,aH _⟩
theorem op0 {b:List UInt8}:Bt (dz b)=0∧uh (dz b)=dz (b.take (dB b).2.1):=by
 have h:=ME b
 have hc:eT.cut (dz b) ((dB b).2.1:Int)=dz (b.take (dB b).2.1)∧eT.xh (dz b) ((dB b).2.1:Int)=0:=by
  have h2:¬ ((b.length:Int)<((dB b).2.1:Int)):=by omega
  simp [eT.cut,eT.xh,dz,eT.pow,h2,aF,Nat.min_eq_left h]
  omega
 unfold Bt uh
 by_cases h2:(dB b).2.1=b.length
 ·rw [aI (show (dB (dz b).b).2.1=(dz b).b.length from h2),aI (show (dB (dz b).b).2.1=(dz b).b.length from h2),h2];exact ⟨rfl,by rw [aG (aS _)]⟩
 ·rw [aB (show ¬ (dB (dz b).b).2.1=(dz b).b.length from h2),aB (show ¬ (dB (dz b).b).2.1=(dz b).b.length from h2)];exact ⟨hc.2,hc.1⟩
def O8 (gd:Nat) (b:List UInt8) (R:List cK) (v':Value) (L':List cK):Prop :=
 ((dB b).2.2=false∧v'=.tuple #[.pointer none,nY,.int .i64 14]∧L'=df gd (dz b)::R) ∨
 ((dB b).2.2=true∧∃ (gj:Nat) (ad:Option Addr) (c:Nat) (ts:List eo),v'=.tuple #[pt gj,.slice ad ts.length c,.int .i64 0]∧ts.map (·.2)=(dB b).1∧L'=jh gj gd ts.length::cV (.slice ad ts.length c) ts::cI ts::df gd (dz (b.take (dB b).2.1))::R)
theorem nj (gd:Nat) (b:List UInt8) (hb:b.length≤1048576) :
 Ct prog 65 #[pt gd] e (df gd (dz b)::R) (O8 gd b R) :=
 (yG R e gd (dz b) (ES hb)).mono fun v' L' h=>by
  obtain ⟨h1,h2⟩:=op0 (b:=b);rcases h with ⟨a1,a2,a3⟩|⟨a1,a2,_⟩|⟨a1,_,gj,ad,c,ts,a3,a4,a5⟩
  ·exact .inl ⟨a1,a2,a3⟩
  ·exact absurd h1 a2
  ·exact .inr ⟨a1,gj,ad,c,ts,a3,a4,by rw [a5,h2]⟩
def eW (l:List (List UInt8)):List UInt8:=l.flatMap fD
theorem kE {l:List (List UInt8)} {n:Nat} (h:∀ m∈l,m.length≤n):(eW l).length≤l.length*(n+8):=by
 induction l with
 | nil=>simp [eW]
 | cons m l ih =>
  have h1:=ih fun x hx=>h x (aU _ hx)
  have h2:=h m (List.mem_cons_self ..)
  show (fD m++eW l).length≤_
  rw [aa,gJ,aN,Nat.add_mul]
  omega
theorem n8 (l:List (List UInt8)) (m:List UInt8):eW (l++[m])=eW l++fD m:=by simp [eW]
end Go.Proofs
