/- Part 5 of a proof of this: TopKeys returns true for any arguments; nothing of the old memory is turned. No condition. -/
import Derived.Test.YtccekbdjebohcaaGreatK04
set_option linter.unusedVariables false
set_option linter.unusedSimpArgs false
namespace Go.Bs
theorem xf {P:Program} {w:World} (t u ty e:TypeId) (i:TypeInfo) (z:Value) (ht:P.underlying t=some (.slice e)) (hu:P.underlying u=some (.int .i64)) (hi:P.info? e=some i) (hz:i.zero=some z)
 (n:Nat) (h0:0<n) (Ir:n≤1000000) (Ru:i.size=1) (h48:n*i.bytes≤140737488355328) :
 (Builtin.append_ #[t,u] ty #[nY,.int .i64 (n:Int)]).run P w =
  .ok (.slice (some ⟨w.heap.size,0,none⟩) n (grownCap w n 0 e)) (w.drew.alloc (.cells (Builtin.zeroCells z.cells n++Builtin.zeroCells z.cells (grownCap w n 0 e - n)) e)):=by
 have hn:n≠0:=by omega
 have hw:IntKind.i64.wrap (n:Int)=(n:Int):=wrap_i64 zo zo;have h1:¬ ((n:Int)<0):=by omega
 have h2:¬ (281474976710656<(n:Int)*(i.bytes:Int)):=by
  have:((n*i.bytes:Nat):Int)=(n:Int)*(i.bytes:Int):=by simp
  rw [← this];omega
 have h3:¬ (9223372036854775807<(n:Int)):=by omega
 have h4:¬ (281474976710656<Builtin.nextslicecap n 0*i.bytes):=by rw [nextslicecap_zero h0];omega
 simp [Builtin.append_,run_underlying ht,run_underlying hu,sizeOf,typeInfo,zeroValue,hi,hz,Ru,asInt,asIntOf,hw,h1,h2,h3,h4,hn,Nat.pos_iff_ne_zero.1 h0,Question.forced,run_firstCells_none,newRow,grownCap]
section
variable {P:Program} {N:Fr} {Q:fO} {σ:Env} {e:World} {L:List cJ} {all:Array Oper} {rest:List Oper}
variable {d:Nat} {ty:TypeId} {pos:String} {af:Array Edge} {gd:Option (Nat × Bool)} {K:Env→List cJ→Prop} {x y:Operand}
theorem Do.GZ {t u el b n:Nat} {z:Value} [i:je P t el 1] [j:ru P el z 1 b] [q:iu P u .i64] (hx:ev σ x=some nY) (hy:ev σ y=some (.int .i64 (n:Int))) (hd:Nat.blt d N.n=true) (h0:0<n) (Ir:n≤1000000) (hb:n*b≤140737488355328) (hz:z.cells.size=1)
 (kk:∀ g c,n≤c→K ((d,.slice (some ⟨g,0,none⟩) n c)::σ) (dE el 1 (.slice (some ⟨g,0,none⟩) 0 c) 0 []::L)) :
 Do P N ⟨some d,.call { callee:=.builtin .append,args:=#[x,y],argTypes:=#[t,u] },ty,pos,af,gd⟩ K σ e L:=fun a w ha hs K' Q' hK=>by
 obtain ⟨ti,t1,t2,t3,t4⟩:=j.parts;have hr:=xf (P:=P) (w:=w) t u ty el ti z i.lS q.lS t1 t2 n h0 Ir t3 (by rw [t4];exact hb);refine eZ (v:=.slice (some ⟨w.heap.size,0,none⟩) n (grownCap w n 0 el)) (w':=w.drew.alloc (.cells (Builtin.zeroCells z.cells n++Builtin.zeroCells z.cells (grownCap w n 0 el - n)) el)) (by simp [execOp,resolve,invoke,builtin,ha.ev hx,ha.ev hy,hr]) ?_;have Ql:=grownCap_ge w n 0 el;have TT:grownCap w n 0 el≤maxLen:=grownCap_le_maxLen w n 0 el zm;refine hK _ _ _ _ (kk w.heap.size (grownCap w n 0 el) Ql) (ha.put hd _) ?_;have F7:Sat e (cK _ _ el (0,0)::L) _:=(((hs.drawn _:Sat e L w.drew)).alloc (.cells (Builtin.zeroCells z.cells n++Builtin.zeroCells z.cells (grownCap w n 0 el - n)) el)).cL (ta _ _ _ _)
 have ln:(Builtin.zeroCells z.cells n++Builtin.zeroCells z.cells (grownCap w n 0 el - n)).toList.length=grownCap w n 0 el*1:=by
  simp only [Array.length_toList,Array.size_append,size_zeroCells,hz]
  omega
 have gy:=hH (E:=el) (n:=1) (k:=0) (g:=w.heap.size) (R:=L) (aH _) TT ln;simp only [Nat.zero_mul,List.take_zero] at gy
 exact F7.cL gy
theorem cD.cap {t:TypeId} {el n l c:Nat} {ad:Option Addr} {ats:List TypeId} [i:je P t el n] (h:ev σ x=some (.slice ad l c)) :
 cD P N (.call { callee:=.builtin .cap,args:=#[x],argTypes:=(t::ats).toArray }) ty (.int .i64 c) σ e L:=fun a w ha _ _ _ _ _=>by
 simp [execOp,resolve,invoke,builtin,Builtin.cap_,ha.ev h,run_underlying i.lS,goInt]
end
end Go.Bs
namespace Go.Proofs
open Go.Bs
attribute [local irreducible] Bs.cD Bs.Do Bs.O Bs.W Bs.Fin Bs.A Bs.Ct Bs.cE Bs.Rd Bs.Sat Bs.cK Bs.Ob Bs.dE Bs.View Bs.cz Bs.Ex Bs.dI Bs.Pu Bs.eY Bs.dN Bs.dZ
theorem Cw (R:List cJ) (e:World) (n:Nat) (h0:0<n) (hn:n≤100000) :
 Ct Tryz.prog 298 #[nY,.int .i64 (n:Int)] e R (fun v' L'=>∃ ad c,v'=.slice ad 0 c∧L'=dE ez 1 (.slice ad 0 c) 0 []::R):=by
 refine a8 (args:=[_,_]) Tryz.func298 rfl Tryz.ntmps298 Tryz.results298 rfl ?_
 (repeat' first|(refine bx _ (cD.cap (ats:=[]) rfl) rfl ?_)|refine Za ?_|refine Zb ?_|apply Zc|apply Zd|apply Ze|apply Zf|refine Zk ?_|refine ZB ?_|refine ZG ?_|refine ZU ?_|refine Yr ?_|refine Yz ?_|refine YA ?_|apply YC)
 refine bC (Do.GZ (n:=n) (z:=nY) rfl rfl rfl h0 zo zo rfl fun g c hc=>?_)
 refine wB ?_;exact aY _ rfl aX ⟨_,_,rfl,rfl⟩
theorem Ew (R:List cJ) (e:World) (g:Nat) (va vb:Value) (a b:List ej) (T:Nat) (fz:Nat × Nat) (hg:cE R 1 (.slice (some ⟨g,0,none⟩) 2 2) 2 [va,vb]) (ha:cE R 1 va a.length (a.map (·.1))) (hb:cE R 1 vb b.length (b.map (·.1))) (hta:dQ R a) (htb:dQ R b) (hl:a.length≤1000) (pH:b.length≤1000) (hp:0<a.length+b.length) :
 Ct Tryz.prog 265 #[.slice (some ⟨g,0,none⟩) 2 2] e R (fun v' L'=>∃ ad c,v'=.slice ad (a++b).length c∧L'=cV (.slice ad (a++b).length c) (a++b)::R):=by
 refine a7 (ha.shape zo) ?_;rintro ⟨⟨ada,ca,rfl,a3,a4,a5,a6⟩,_⟩;refine a7 (hb.shape zo) ?_;rintro ⟨⟨T7,cb,rfl,b3,b4,b5,b6⟩,_⟩;refine a7 (Ek hta) fun oa=>?_
 refine a7 (Ek htb) fun ob=>?_
 have hr0:Rd R ⟨g,0+0,none⟩ (.slice ada a.length ca):=hg.elem (j:=0) rfl;have OV:Rd R ⟨g,0+1,none⟩ (.slice T7 b.length cb):=hg.elem (j:=1) rfl;refine a8 (args:=[_]) Tryz.func265 rfl Tryz.ntmps265 Tryz.results265 rfl ?_;refine wB ?_;refine bq (ι:=Nat × Nat) (fun i=>[(0,.slice (some ⟨g,0,none⟩) 2 2),(3,.int .i64 (i.2:Int)),(9,.slice (some ⟨g,0,none⟩) 2 2),(10,.int .i64 2),(11,.int .i64 (i.1:Int))]) (fun _=>R) (fun i=>i.1≤2∧i.2=if i.1=0 then 0 else if i.1=1 then a.length else a.length+b.length) (fun i=>2 - i.1) (0,0) ⟨by omega,rfl⟩ zS aX ?_;rintro ⟨i,m⟩ ⟨hi,hm⟩;dsimp only at hi hm ⊢
 match i,hi with
 | 0,_ =>
  have hm:m=0:=hm;subst hm;refine wB ?_;rw [show ((0:Nat):Int)+(a.length:Int)=(a.length:Int) by omega];exact bi (1,a.length) ⟨by dsimp only;omega,rfl⟩ zd zS aX
 | 1,_ =>
  have hm:m=a.length:=hm;subst hm;refine wB ?_;exact bi (2,a.length+b.length) ⟨by dsimp only;omega,rfl⟩ zd zS aX
 | 2,_ =>
  have hm:m=a.length+b.length:=hm;subst hm;refine wB ?_;refine aZ rfl rfl (Cw R e (a.length+b.length) hp zo) ?_;rintro _ _ ⟨MA,c0,rfl,rfl⟩;refine wB ?_;refine bq (ι:=Nat × List ej × Option Addr × Nat) (fun i=>[(6,.slice i.2.2.1 i.2.1.length i.2.2.2),(25,.slice (some ⟨g,0,none⟩) 2 2),(26,.int .i64 2),(27,.int .i64 (i.1:Int))]) (fun i=>cV (.slice i.2.2.1 i.2.1.length i.2.2.2) i.2.1::R) (fun i=>i.1≤2∧i.2.1=if i.1=0 then [] else if i.1=1 then a else a++b) (fun i=>2 - i.1) (0,[],MA,c0) ⟨by omega,rfl⟩ zS aX ?_;rintro ⟨i,ts,ad,c⟩ ⟨hi,fy⟩;dsimp only at hi fy ⊢
  match i,hi with
  | 0,_ =>
   have fy:ts=[]:=fy;subst fy;refine wB ?_;refine bC (bo rfl rfl rfl .zero ha rfl rfl oa (by simp only [List.length_nil,maxLen];omega) (by simp only [List.length_nil];omega) fun jA c4 _=>?_)
   rw [show ([]:List ej).length+a.length=a.length by simp];refine wB ?_;exact bi (1,a,jA,c4) ⟨by dsimp only;omega,rfl⟩ zd zS aX
  | 1,_ =>
   have fy:ts=a:=fy;subst fy;refine wB ?_;refine bC (bo rfl rfl rfl .zero hb rfl rfl ob zm zo fun jA c4 _=>?_)
   refine wB ?_;refine bi (2,ts++b,jA,c4) ⟨by dsimp only;omega,rfl⟩ zd ?_ ?_
   ·dsimp only;rw [aa];exact zS
   ·simp only [cV,aa,ah];exact aX
  | 2,_ =>
   have fy:ts=a++b:=fy;subst fy;refine wB ?_;exact aY _ rfl aX ⟨ad,c,rfl,rfl⟩
theorem ub (R:List cJ) (e:World) (vp vq:Value) (s:xa) (hs:fL R vp vq s) (hr:s.right) :
 Ct Tryz.prog 207 #[.agg (yq s vp vq).toArray] e R (fun v' L'=>∃ ad c,v'=.tuple #[.slice ad (fG s).length c,.int .i64 0]∧L'=cS (.slice ad (fG s).length c) (fG s)::R):=by
 obtain ⟨q1,q2,q3,q4,q5⟩:=id hr;obtain ⟨ts,e1,r1,t1⟩:=hs.parts;obtain ⟨us,e2,r2,t2⟩:=hs.path;have qi:ts.length=64:=by rw [← q2,← e1,ae]
 have pH:us.length=4:=by rw [← q4,← e2,ae]
 have jN:∀ a∈ts++us,a.2.length=32:=fun a ha=>by
  rcases aJ.1 ha with h|h
  ·exact oS e1 q3 a h
  ·exact oS e2 q5 a h
 refine a7 hs.parts.one fun o1=>?_
 refine a7 hs.path.one fun o2=>?_
 refine a8 (args:=[_]) Tryz.func207 rfl Tryz.ntmps207 Tryz.results207 rfl ?_
 (repeat (refine wA ?_;intros))
 rename_i g;refine aZ rfl rfl (qo _ e vp vq s hs.tail) ?_;rintro _ _ ⟨rfl,rfl⟩;rw [ay hr];refine wB ?_;refine aZ rfl rfl (jh _ e) ?_;rintro _ _ ⟨gw,rfl,rfl⟩;refine wB ?_;refine aZ rfl rfl (gD _ e gw [] s.idx zo (by simp)) ?_;rintro _ _ ⟨rfl,rfl⟩
 (repeat' first|(apply bY;exact rfl;exact rfl;exact rfl;exact .one (eQ o1) rfl (.one (eQ o2) rfl .nil);exact rfl;exact rfl;intro _)|apply Zc|apply Zd|apply Ze|apply Zf|refine Zh ?_|refine Zi ?_|fail)
 rename_i gl;refine aZ rfl rfl (Ew _ e gl vp vq ts us 0 (0,0) (bB .zero rfl zl) r1.tail.tail.tail r2.tail.tail.tail (dQ.tail (dQ.tail (dQ.tail t1))) (dQ.tail (dQ.tail (dQ.tail t2))) zo zo zo) ?_;rintro _ _ ⟨ad,c,rfl,rfl⟩;refine bm (fP .zero) ?_;rintro ⟨⟨a,cc,hq,wY,xu,Ms⟩,_⟩;obtain ⟨rfl,_,rfl⟩:=Value.slice.inj hq;clear hq;simp only [maxLen] at xu
 have rL:(ts++us).length=68:=by rw [aa];omega
 have RV:dQ R (ts++us):=fun x hx=>by
  rcases aJ.1 hx with h|h
  ·exact t1 x h
  ·exact t2 x h
 have VC:(((ts++us).map (·.2)).flatten)=s.parts.flatten++s.path.flatten:=by rw [ah,List.flatten_append,e1,e2]
 generalize ts++us=ws at *
 refine wB ?_;refine bq (ι:=Nat) (fun i=>[(4,pt gw),(21,.slice ad ws.length c),(22,.int .i64 (ws.length:Int)),(23,.int .i64 (i:Int))]) (fun i=>Writer gw (be s.idx 4++((ws.map (·.2)).take i).flatten)::cV (.slice ad ws.length c) ws::R) (fun i=>i≤ws.length) (fun i=>ws.length - i) 0 (aH _) zS zE ?_;intro i hi
 have DF:=nW (l:=(ws.map (·.2)).take i) (fun a ha=>by
  obtain ⟨x,hx,rfl⟩:=aE.1 (aR ha);exact jN x hx)
 rw [aF,ae] at DF
 have T8:=cX s.idx 4
 by_cases cO:i<ws.length
 rotate_left
 ·have JW:i=ws.length:=by omega
  subst JW;rw [aG (by rw [ae];exact aS _),VC] at *
  refine wB ?_;refine aZ rfl rfl (hJ _ e gw _ (by rw [aa];omega)) ?_;rintro _ _ ⟨dW,c2,rfl,rfl⟩;refine wB ?_;exact aY (cS (.slice dW (fG s).length c2) (fG s)::R) rfl zE ⟨dW,c2,rfl,rfl⟩
 rcases Ms with ⟨_,_,h0⟩|⟨p,rfl⟩
 ·omega
 have hrr:Rd (cV (.slice (some ⟨p,0,none⟩) ws.length c) ws::R) ⟨p,0+i,none⟩ (ws[i]'cO).1:=(bb .zero).elem (by rw [aL,ab cO];rfl);have jt:=RV _ (aA cO);have OM:=jN _ (aA cO)
 have ky:be s.idx 4++((ws.map (·.2)).take i).flatten++(ws[i]'cO).2=be s.idx 4++((ws.map (·.2)).take (i+1)).flatten:=by
  rw [aD (by rw [ae];exact cO),List.getElem_map,List.flatten_append,aM]
  simp
 generalize ws[i]'cO=y at *
 obtain ⟨yv,yb⟩:=y;dsimp only at hrr jt OM ky
 refine wB ?_;refine aZ rfl rfl (hI _ e gw _ yb yv jt.tail (by rw [aa];omega)) ?_;rintro _ _ ⟨rfl,rfl⟩;rw [ky];refine wB ?_;exact bi (i+1) cO zo zS aX
end Go.Proofs
namespace Go.Bs
section
variable {P:Program} {N:Fr} {Q:fO} {σ:Env} {e:World} {L:List cJ} {all:Array Oper} {rest:List Oper}
variable {d:Nat} {op:Op} {ty:TypeId} {pos:String} {af:Array Edge} {x:Operand} {t:TypeId}
theorem cD.df {n g o:Nat} {xs cs:List Value} {T:TypeId} {fz:Nat × Nat} {R:List cJ} [i:jf P t n] (h:ev σ x=some (.pointer (some ⟨g,o,none⟩))) (p:cR L (cK g xs T fz) R) (hc:(xs.drop o).take n=cs) (hl:cs.length=n):cD P N (.load t x) ty (.agg cs.toArray) σ e L :=
 cD.dy h (dZ.fQ p ⟨n,hc⟩) hl
theorem O.df {n g o:Nat} {xs cs:List Value} {T:TypeId} {fz:Nat × Nat} {R:List cJ} [i:jf P t n] (h:ev σ x=some (.pointer (some ⟨g,o,none⟩))) (p:cR L (cK g xs T fz) R) (hc:(xs.drop o).take n=cs) (hl:cs.length=n) (hd:Nat.blt d N.n=true) (kk:O P N all rest Q ((d,.agg cs.toArray)::σ) e L) :
 O P N all (⟨some d,.load t x,ty,pos,af,none⟩::rest) Q σ e L:=bx _ (cD.df h p hc hl) hd kk
end
end Go.Bs
namespace Go.Proofs
open Go.Bs
structure jc where
 size:Nat
 root:List UInt8
 deriving DecidableEq
def jc.right (c:jc):Prop:=c.size≤256∧c.root.length=32
instance (c:jc):Decidable c.right:=by unfold jc.right;infer_instance
def yw:List UInt8:=[98,114,111,97,100,115,104,101,101,116,32,99,104,101,99,107]
def yx:List UInt8:=[98,114,111,97,100,115,104,101,101,116,32,99,111,115,105,103,110]
def hO (c:jc):List UInt8:=yw++be c.size 4++c.root
def lW (c:jc):List UInt8:=yx++be c.size 4++c.root
structure jV where
 dc:jc
 sig:xa
 deriving DecidableEq
def jV.ii (s:jV) (iG:List UInt8):Prop:=s.dc.right∧xc iG (hO s.dc) s.sig
instance (s:jV) (iG:List UInt8):Decidable (s.ii iG):=by unfold jV.ii;infer_instance
def ue (seed:List UInt8) (i:Nat) (c:jc):jV:=⟨c,rK seed i (hO c)⟩
theorem Kb {seed:List UInt8} {i:Nat} {c:jc} (hc:c.right) (hi:i<16):(ue seed i c).ii (kN seed):=⟨hc,yl hi⟩
structure kO where
 fY:Nat
 sig:xa
 deriving DecidableEq
def Bj (seed:List UInt8) (i w:Nat) (c:jc):kO:=⟨w,rK seed i (lW c)⟩
def hZ (s:jV):List UInt8:=be s.dc.size 4++(s.dc.root++fG s.sig)
def eU (g:kO):List UInt8:=UInt8.ofNat g.fY::fG g.sig
abbrev iS (c:jc) (vr:Value):List Value:=[.int .i64 (c.size:Int),vr]
abbrev dS (s:jV) (vr vp vq:Value):List Value:=[.int .i64 (s.dc.size:Int),vr,.int .i64 (s.sig.idx:Int),vp,vq]
abbrev iA (g:kO) (vp vq:Value):List Value:=[.int .i64 (g.fY:Int),.int .i64 (g.sig.idx:Int),vp,vq]
structure fj (L:List cJ) (vr vp vq:Value) (s:jV):Prop where
 root:db L vr s.dc.root
 sig:fL L vp vq s.sig
 small:s.dc.size<4294967296∧s.dc.root.length≤1000000
theorem fj.cL {L L':List cJ} {vr vp vq:Value} {s:jV} (h:fj L' vr vp vq s) (f:cz L L'):fj L vr vp vq s:=⟨h.root.cL f,h.sig.cL f,h.small⟩
theorem xx {M:List cJ} {v:Value} {b:List UInt8} (h:db M v b):db [dI M] v b:=RS h
theorem vD {M:List cJ} {vr vp vq:Value} {s:jV} (h:fj M vr vp vq s):fj [dI M] vr vp vq s:=h.cL (cj (cT (L:=[])) (by rw [aK];exact aX))
theorem ma {c:jc} (h:c.right):(hO c).length=52:=by unfold hO;rw [aa,aa,cX,h.2];rfl
theorem oV {c:jc} (h:c.right):(lW c).length=53:=by unfold lW;rw [aa,aa,cX,h.2];rfl
theorem iO {s:jV} (h:s.dc.right) (h2:s.sig.right):(hZ s).length=2216:=by unfold hZ;rw [aa,aa,cX,h.2,gP h2]
theorem lq {g:kO} (h:g.sig.right):(eU g).length=2181:=by unfold eU;rw [aN,gP h]
end Go.Proofs
namespace Go.Proofs
attribute [local irreducible] Bs.cD Bs.Do Bs.O Bs.W Bs.Fin Bs.A Bs.Ct Bs.cE Bs.Rd Bs.Sat Bs.cK Bs.Ob Bs.dE Bs.View Bs.cz Bs.Ex Bs.dI Bs.Pu Bs.eY Bs.dN Bs.dZ
open Go.Bs
open Tryz
variable (R:List cJ) (e:World)
theorem gH (vr:Value) (c:jc) (hv:db R vr c.root) :
 Ct prog 107 #[.agg (iS c vr).toArray] e R (fun v' L'=>v'=.bool (decide c.right)∧R=L'):=by
 refine a7 (cE.shape hv zo) ?_;rintro ⟨⟨ad,cap,rfl,h3,h4,h5,h6⟩,_⟩;refine a8 (args:=[_]) func107 rfl ntmps107 results107 rfl ?_
 by_cases h1:c.size≤256
 rotate_left
 ·rw [aq (fun q:c.right=>h1 q.1)]
  (repeat (refine wA ?_;intros))
  exact aY R rfl zE ⟨rfl,rfl⟩
 by_cases h2:c.root.length=32
 ·rw [ay (show c.right from ⟨h1,h2⟩)]
  (repeat (refine wA ?_;intros))
  exact aY R rfl zE ⟨rfl,rfl⟩
 ·rw [aq (fun q:c.right=>h2 q.2)]
  (repeat (refine wA ?_;intros))
  exact aY R rfl zE ⟨rfl,rfl⟩
theorem sq (vr:Value) (c:jc) (hv:db R vr c.root) (hc:c.right) :
 Ct prog 43 #[.agg (iS c vr).toArray] e R (fun v' L'=>∃ ad k,v'=.slice ad (hO c).length k∧L'=cS (.slice ad (hO c).length k) (hO c)::R):=by
 have wY:=hc.1;have xu:=hc.2;refine a7 (cn hv) fun ho=>?_
 refine a8 (args:=[_]) func43 rfl ntmps43 results43 rfl ?_
 (repeat (refine wA ?_;intros))
 rename_i g;refine aZ rfl rfl (gH _ e vr c hv.tail) ?_;rintro _ _ ⟨rfl,rfl⟩;rw [ay hc];refine wB ?_;refine aZ rfl rfl (jh _ e) ?_;rintro _ _ ⟨gw,rfl,rfl⟩
 (repeat (refine wA ?_;intros))
 rename_i gt;refine O.fo (show cz _ (Writer gw []::cK gt (yw.map u8) pG (16,17)::cK g (iS c vr) 83 (0,0)::R) from bw (.succ .zero) aX) ?_;refine aZ rfl rfl (hI _ e gw [] yw _ (bB .zero rfl zl) (by decide)) ?_;rintro _ _ ⟨rfl,rfl⟩;refine wB ?_;refine aZ rfl rfl (gD _ e gw _ c.size zo (by decide)) ?_;rintro _ _ ⟨rfl,rfl⟩;refine wB ?_;refine aZ rfl rfl (hI _ e gw _ c.root vr hv.tail.tail (by rw [aa,cX];simp only [List.nil_append,show yw.length=16 from rfl];omega)) ?_;rintro _ _ ⟨rfl,rfl⟩;rw [show []++yw++be c.size 4++c.root=hO c by simp [hO]];refine wB ?_;refine aZ rfl rfl (hJ _ e gw _ (by rw [ma hc];omega)) ?_;rintro _ _ ⟨ad,k,rfl,rfl⟩;refine wB ?_;exact aY (cS (.slice ad (hO c).length k) (hO c)::R) rfl zE ⟨ad,k,rfl,rfl⟩
theorem yy (va vb:Value) (a b:jc) (ha:db R va a.root) (hb:db R vb b.root) :
 Ct prog 195 #[.agg (iS a va).toArray,.agg (iS b vb).toArray] e R (fun v' L'=>v'=.bool (decide (a=b))∧R=L'):=by
 have O4:a=b↔a.size=b.size∧a.root=b.root:=by cases a;cases b;simp
 refine a8 (args:=[_,_]) func195 rfl ntmps195 results195 rfl ?_
 by_cases h1:a.size=b.size
 rotate_left
 ·rw [aq (fun q=>h1 (O4.1 q).1)]
  (repeat (refine wA ?_;intros))
  exact aY R rfl zE ⟨rfl,rfl⟩
 (repeat (refine wA ?_;intros))
 refine aZ rfl rfl (iN _ e va vb a.root b.root ha.tail.tail hb.tail.tail) ?_;rintro _ _ ⟨rfl,rfl⟩;rw [show decide (a.root=b.root)=decide (a=b) from decide_eq_decide.2 (by rw [O4];exact ⟨fun q=>⟨h1,q⟩,fun q=>q.2⟩)];refine wB ?_;exact aY R rfl zE ⟨rfl,rfl⟩
theorem gQ (vr vp vq:Value) (s:jV) (hs:fj R vr vp vq s) (hr:s.sig.fits) :
 Ct prog 102 #[.agg (dS s vr vp vq).toArray] e R (fun v' L'=>∃ (M:cJ) (ur up uq:Value),v'=.agg (dS s ur up uq).toArray∧fj [M] ur up uq s∧L'=M::R):=by
 obtain ⟨h1,h2,h3⟩:=hs;refine a7 (cn h1) fun o1=>?_
 refine a7 h2.parts.one fun o2=>?_
 refine a7 h2.path.one fun o3=>?_
 refine bH (args:=[_]) func102 rfl ntmps102 results102 rfl ?_
 (repeat (refine wA ?_;intros))
 rename_i g1 g2;refine bk (id:=1) [12] (cK g1 (dS s vr vp vq) 87 (0,0)::R) mixed ?_
 (refine tF 0 ?_;refine tF 1 ?_;refine tL 2 ?_;refine tF 3 ?_;refine tF 4 ?_;refine tL 5 ?_;refine tF 8 ?_;refine tk 9 _ rfl (cD.df rfl zP zI zX) ?_)
 refine tO 6 ?_;refine bg rfl rfl (dw _ e vr s.dc.root h1.tail.tail zo) ?_;rintro _ _ ⟨ef,c1,rfl,wY,rfl⟩;refine ⟨fun _=>zE,?_⟩
 (refine tk 7 _ rfl (bL rfl zF) ?_)
 refine tO 10 ?_;refine bg rfl rfl (yu _ e vp vq s.sig h2.tail.tail.tail hr) ?_;rintro _ _ ⟨M,up,uq,rfl,hM,rfl⟩;refine ⟨fun _=>zE,?_⟩;refine A.cB (hM.cL zE).parts.one fun o4=>?_
 refine A.cB (hM.cL zE).path.one fun o5=>?_
 (refine tk 11 _ rfl (bL rfl zF) ?_;(refine tO 12 ?_;refine zg ?_;refine ⟨zN,?_⟩))
 refine bf zK ?_;refine wB ?_;apply br
 ·exact zV
 refine ⟨dI [cS (.slice ef s.dc.root.length c1) s.dc.root,M]::R,cj (show cz _ (cS (.slice ef s.dc.root.length c1) s.dc.root::M::R) from zE) (dR (M:=[_,_])),dI [cS (.slice ef s.dc.root.length c1) s.dc.root,M],.slice ef s.dc.root.length c1,up,uq,rfl,vD ⟨bb .zero,hM.cL (cz.drop aX),h3⟩,rfl⟩
theorem kz (v vr vp vq:Value) (iG:List UInt8) (s:jV) (hv:db R v iG) (hs:fj R vr vp vq s) (hc:s.dc.right) :
 Ct prog 98 #[v,.agg (dS s vr vp vq).toArray] e R (fun v' L'=>v'=.bool (decide (s.ii iG))∧R=L'):=by
 obtain ⟨h1,h2,h3⟩:=hs;refine a7 (cn hv) fun o0=>?_
 refine a7 (cn h1) fun o1=>?_
 refine a7 h2.parts.one fun o2=>?_
 refine a7 h2.path.one fun o3=>?_
 have nK:=ma hc;refine a8 (args:=[_,_]) func98 rfl ntmps98 results98 rfl ?_
 (repeat (refine wA ?_;intros))
 rename_i g1;refine bk (id:=1) [12] (cK g1 (dS s vr vp vq) 87 (0,0)::R) mixed ?_
 (refine tF 0 ?_;refine tk 1 _ rfl (cD.df rfl zP zI zX) ?_)
 refine tO 2 ?_;refine bg rfl rfl (gH _ e vr s.dc (h1.cL zE)) ?_;rintro _ _ ⟨rfl,rfl⟩;refine ⟨fun _=>zE,A.fS zE ?_⟩;rw [ay hc]
 (refine tM 3 ?_;refine dt 4 _ rfl (bu rfl) ?_;refine dt 5 _ rfl (ba rfl) ?_;refine dt 6 _ rfl (cD.df rfl zP zI zX) ?_;refine dt 8 _ rfl (ba rfl) ?_;refine dt 9 _ rfl (cD.df rfl zP zI zX) ?_)
 refine A.rv 7 rfl rfl zK ?_;refine bg rfl rfl (sq _ e vr s.dc (h1.cL zE) hc) ?_;rintro _ _ ⟨ad,k,rfl,rfl⟩;refine ⟨fun _=>zE,A.fS zE ?_⟩;refine A.rv 10 rfl rfl zK ?_;refine bg rfl rfl (tX _ e v (.slice ad (hO s.dc).length k) vp vq iG (hO s.dc) s.sig (hv.cL zE) (bb zP) zo (h2.cL zE)) ?_;rintro _ _ ⟨rfl,rfl⟩;refine ⟨fun _=>zE,A.fS zE ?_⟩;rw [show decide (xc iG (hO s.dc) s.sig)=decide (s.ii iG) from decide_eq_decide.2 ⟨fun q=>⟨hc,q⟩,fun q=>q.2⟩]
 (refine tk 11 _ rfl (bK rfl rfl) ?_;(refine tO 12 ?_;refine dV (bj rfl) ?_))
 refine bf zK ?_;refine wB ?_;exact aY R rfl zE ⟨rfl,rfl⟩
theorem G0 (v vr:Value) (seed:List UInt8) (i:Nat) (c:jc) (hv:db R v seed) (JY:seed.length=32) (hi:i<16) (hr:db R vr c.root) (hc:c.right) :
 Ct prog 245 #[v,.int .i64 (i:Int),.agg (iS c vr).toArray] e R (fun v' L'=>∃ (M:cJ) (ur up uq:Value),v'=.tuple #[.agg (dS (ue seed i c) ur up uq).toArray,.int .i64 0]∧fj [M] ur up uq (ue seed i c)∧L'=M::R):=by
 refine a7 (cn hv) fun o0=>?_
 refine a7 (cn hr) fun o1=>?_
 have nK:=ma hc;have wY:=hc.1;have xu:=hc.2;refine bH (args:=[_,_,_]) func245 rfl ntmps245 results245 rfl ?_
 (repeat (refine wA ?_;intros))
 rename_i g1 g2;refine aZ rfl rfl (gH _ e vr c (hr.cL zE)) ?_;rintro _ _ ⟨rfl,rfl⟩;rw [ay hc];refine wB ?_;refine aZ rfl rfl (sq _ e vr c (hr.cL zE) hc) ?_;rintro _ _ ⟨ad,k,rfl,rfl⟩
 (repeat' first|refine Za ?_|refine Zb ?_|apply Zc|apply Zd|apply Ze|apply Zf|refine Zh ?_|refine Zi ?_|refine Zj ?_|refine Zu ?_|refine Zy ?_|refine Zz ?_|refine ZP ?_|refine ZQ ?_|refine Ya ?_|refine Yb ?_|refine Yd ?_|refine Ye ?_|refine Yg fun _=>?_|refine Yh fun _=>?_|refine Yz ?_|refine YA ?_|apply YC|apply YE|apply YF|refine YN ?_|refine YQ ?_|refine YR ?_|(apply O.df;exact rfl;exact zP;(first|(simp only [aC,Nat.add_zero,Nat.reduceAdd,List.drop_succ_cons,List.drop_zero,List.take_succ_cons,List.take_zero];done)|(simp only [aC,Nat.add_zero,Nat.reduceAdd,List.drop_succ_cons,List.drop_zero,List.take_succ_cons,List.take_zero];exact rfl));exact rfl;exact rfl))
 refine aZ rfl rfl (yr _ e v (.slice ad (hO c).length k) seed (hO c) i (hv.cL zE) JY hi (bb zP) zo) ?_;rintro _ _ ⟨M,vp,vq,rfl,hM,rfl⟩;refine bm (hM.cL zE).parts.one fun o4=>?_
 refine bm (hM.cL zE).path.one fun o5=>?_
 (repeat (refine wA ?_;intros))
 rename_i g3;refine bk (id:=6) [8,9] (cK g1 (iS c vr) 83 (0,0)::cK g3 (yq (rK seed i (hO c)) vp vq) 85 (0,0)::M::R) mixed ?_
 (refine tF 0 ?_;refine tL 1 ?_;refine tF 2 ?_;refine tL 3 ?_;refine tJ 6 ?_)
 refine tO 4 ?_;refine bg rfl rfl (dw _ e vr c.root (hr.cL zE) zo) ?_;rintro _ _ ⟨ef,c1,rfl,wY,rfl⟩;refine ⟨fun _=>zE,?_⟩
 (refine tk 5 _ rfl (bL rfl zF) ?_;refine tk 7 _ rfl (bL rfl zF) ?_;(refine tO 8 ?_;refine zg ?_;refine ⟨zN,?_⟩);(refine tO 9 ?_;refine dV (bj rfl) ?_))
 refine bf zK ?_;refine wB ?_;apply br
 ·exact zV
 refine ⟨dI [cS (.slice ef c.root.length c1) c.root,M]::R,cj (show cz _ (cS (.slice ef c.root.length c1) c.root::M::R) from zE) (dR (M:=[_,_])),dI [cS (.slice ef c.root.length c1) c.root,M],.slice ef c.root.length c1,vp,vq,rfl,vD ⟨bb .zero,hM.cL (cz.drop aX),⟨by show c.size<_;omega,by show c.root.length≤_;omega⟩⟩,rfl⟩
theorem Bk (g:Nat) (l:List UInt8) (vr vp vq:Value) (s:jV) (hs:fj R vr vp vq s) (hc:s.dc.right) (hr:s.sig.right) (hl:l.length≤1000000) :
 Ct prog 124 #[pt g,.agg (dS s vr vp vq).toArray] e (Writer g l::R) (fun v' L'=>v'=.bool true∧L'=Writer g (l++hZ s)::R):=by
 obtain ⟨h1,h2,h3⟩:=hs;refine a7 (cn h1.tail) fun o1=>?_
 refine a7 (h2.tail).parts.one fun o2=>?_
 refine a7 (h2.tail).path.one fun o3=>?_
 have F8:=gP hr;have wY:=hc.1;have xu:=hc.2;refine a8 (args:=[_,_]) func124 rfl ntmps124 results124 rfl ?_
 (repeat' first|refine Zb ?_|apply Zc|apply Zd|apply Ze|apply Zf|refine Zh ?_|refine Yg fun _=>?_|(apply O.df;exact rfl;exact zP;(first|(simp only [aC,Nat.add_zero,Nat.reduceAdd,List.drop_succ_cons,List.drop_zero,List.take_succ_cons,List.take_zero];done)|(simp only [aC,Nat.add_zero,Nat.reduceAdd,List.drop_succ_cons,List.drop_zero,List.take_succ_cons,List.take_zero];exact rfl));exact rfl;exact rfl))
 rename_i g1;refine aZ rfl rfl (ub _ e vp vq s.sig (h2.cL zE) hr) ?_;rintro _ _ ⟨ad,k,rfl,rfl⟩
 (repeat' first|refine Za ?_|refine Zb ?_|apply Zc|apply Zd|apply Ze|apply Zf|refine Zh ?_|refine Zm ?_|refine Zn ?_|refine Zq ?_|refine ZQ ?_|refine YN ?_|(apply O.df;exact rfl;exact zP;(first|(simp only [aC,Nat.add_zero,Nat.reduceAdd,List.drop_succ_cons,List.drop_zero,List.take_succ_cons,List.take_zero];done)|(simp only [aC,Nat.add_zero,Nat.reduceAdd,List.drop_succ_cons,List.drop_zero,List.take_succ_cons,List.take_zero];exact rfl));exact rfl;exact rfl))
 refine aZ rfl rfl (gH _ e vr s.dc (h1.cL zE)) ?_;rintro _ _ ⟨rfl,rfl⟩;rw [ay hc];refine wB ?_;refine aZ rfl rfl (Ct.at zP (gD _ e g l s.dc.size zo zo)) ?_;rintro _ _ ⟨rfl,rfl⟩;refine wB ?_;refine aZ rfl rfl (hI _ e g _ s.dc.root vr (h1.cL zE) (by rw [aa,cX];omega)) ?_;rintro _ _ ⟨rfl,rfl⟩;refine wB ?_;refine aZ rfl rfl (hI _ e g _ (fG s.sig) (.slice ad (fG s.sig).length k) (bb zP) (by rw [aa,aa,cX];omega)) ?_;rintro _ _ ⟨rfl,rfl⟩;rw [show l++be s.dc.size 4++s.dc.root++fG s.sig=l++hZ s by simp [hZ]];refine wB ?_;exact aY (Writer g (l++hZ s)::R) rfl zE ⟨rfl,rfl⟩
theorem Bl (g:Nat) (s:jV) (r:List UInt8) (hc:s.dc.right) (hr:s.sig.right) (hl:r.length≤1000000) :
 Ct prog 212 #[pt g] e (Reader g ⟨hZ s++r,false⟩::R) (fun v' L'=>∃ (M:cJ) (ur up uq:Value),v'=.tuple #[.agg (dS s ur up uq).toArray,.bool true]∧fj [M] ur up uq s∧L'=Reader g ⟨r,false⟩::M::R):=by
 have F8:=gP hr;have wY:=hc.1;have xu:=hc.2;rw [show hZ s++r=be s.dc.size 4++(s.dc.root++(fG s.sig++r)) by simp [hZ]];refine bH (args:=[_]) func212 rfl ntmps212 results212 rfl ?_
 (repeat (refine wA ?_;intros))
 refine aZ rfl rfl (Ct.at zP (tD _ e g s.dc.size _ zo)) ?_;rintro _ _ ⟨rfl,rfl⟩;refine wB ?_;refine aZ rfl rfl (ya _ e g 32 s.dc.root _ xu (by rw [aa,aa];omega)) ?_;rintro _ _ ⟨ef,c1,rfl,rfl⟩
 (repeat (refine wA ?_;intros))
 refine aZ rfl rfl (Ct.at zP (ya _ e g 2180 (fG s.sig) r F8 (by rw [aa];omega))) ?_;rintro _ _ ⟨dW,c2,rfl,rfl⟩
 (repeat' first|refine Za ?_|refine Zb ?_|apply Zc|apply Zd|apply Ze|apply Zf|refine Zi ?_|refine Zj ?_|refine Zl ?_|refine Zm ?_|refine Zn ?_|refine Zo ?_|refine Zq ?_|refine Zs ?_|refine Zt ?_|refine Zu ?_|refine Zy ?_|refine Zz ?_|refine ZM ?_|refine ZN ?_|refine ZO (fun _=>?_) fun _=>?_|refine ZP ?_|refine ZQ ?_|refine ZY ?_|refine ZZ ?_|refine Z6 ?_|refine Z7 ?_|refine Z8 ?_|refine Ya ?_|refine Yb ?_|refine Yd ?_|refine Ye ?_|refine Yf ?_|refine Yh fun _=>?_|refine Yz ?_|refine YA ?_|apply YC|apply YE|apply YF|refine YN ?_|refine YQ ?_|refine YR ?_|(apply O.df;exact rfl;exact zP;(first|(simp only [aC,Nat.add_zero,Nat.reduceAdd,List.drop_succ_cons,List.drop_zero,List.take_succ_cons,List.take_zero];done)|(simp only [aC,Nat.add_zero,Nat.reduceAdd,List.drop_succ_cons,List.drop_zero,List.take_succ_cons,List.take_zero];exact rfl));exact rfl;exact rfl))
 refine aZ rfl rfl (tZ _ e (.slice dW (fG s.sig).length c2) s.sig (bb .zero) hr) ?_;rintro _ _ ⟨M,vp,vq,rfl,hM,rfl⟩;refine bm (hM.cL zE).parts.one fun o4=>?_
 refine bm (hM.cL zE).path.one fun o5=>?_
 (repeat (refine wA ?_;intros))
 refine aZ rfl rfl (gH _ e (.slice ef s.dc.root.length c1) s.dc (bb zP)) ?_;rintro _ _ ⟨rfl,rfl⟩;rw [ay hc];refine wB ?_;apply br
 ·exact zV
 refine ⟨Reader g ⟨r,false⟩::dI [cS (.slice ef s.dc.root.length c1) s.dc.root,M]::R,cj (show cz _ (cS (.slice ef s.dc.root.length c1) s.dc.root::M::Reader g ⟨r,false⟩::R) from zE) (cj (dR (M:=[_,_])) zE),dI [cS (.slice ef s.dc.root.length c1) s.dc.root,M],.slice ef s.dc.root.length c1,vp,vq,rfl,vD ⟨bb .zero,hM.cL (cz.drop aX),⟨by omega,by omega⟩⟩,rfl⟩
end Go.Proofs
namespace Go.Proofs
open Go.Bs
structure jG where
 log:List UInt8
 ew:List (List UInt8)
 ey:Nat
structure jG.right (p:jG):Prop where
 log:p.log.length=32
 low:1≤p.ey
 high:p.ey≤p.ew.length
 fE:p.ew.length≤4
 kR:∀ w∈p.ew,w.length=32
 apart:p.ew.Nodup
def kO.ii (g:kO) (p:jG) (c:jc):Prop:=g.fY<p.ew.length∧xc (p.ew.getD g.fY []) (lW c) g.sig
instance (g:kO) (p:jG) (c:jc):Decidable (g.ii p c):=by unfold kO.ii;infer_instance
def countP (p:jG) (c:jc):List kO→List Nat→Nat
 | [],_=>0
 | g::l,seen=>if g.fY<4∧¬ g.fY∈seen∧g.ii p c then 1+countP p c l (g.fY::seen) else countP p c l seen
def uf (p:jG) (c:jc) (l:List kO):Prop:=p.ey≤countP p c l []
instance (p:jG) (c:jc) (l:List kO):Decidable (uf p c l):=by unfold uf;infer_instance
abbrev lE (p:jG) (vl vw:Value):List Value:=[vl,vw,.int .i64 (p.ey:Int)]
structure j7 (L:List cJ) (vl vw:Value) (p:jG):Prop where
 log:db L vl p.log
 ew:mO L vw p.ew
theorem j7.cL {L L':List cJ} {vl vw:Value} {p:jG} (h:j7 L' vl vw p) (f:cz L L'):j7 L vl vw p:=⟨h.log.cL f,h.ew.cL f⟩
abbrev jm:=kO × Value × Value
abbrev jm.cells (t:jm):List Value:=iA t.1 t.2.1 t.2.2
structure jm.ok (L:List cJ) (t:jm):Prop where
 rd:fL L t.2.1 t.2.2 t.1.sig
 small:t.1.fY<4294967296
def oW (L:List cJ) (v:Value) (gs:List kO):Prop:=∃ ts:List jm,ts.map (·.1)=gs∧cE L 4 v ts.length (ts.flatMap jm.cells)∧∀ t∈ts,jm.ok L t
theorem oW.cL {L L':List cJ} {v:Value} {gs:List kO} (h:oW L' v gs) (f:cz L L'):oW L v gs:=by
 obtain ⟨ts,h1,h2,h3⟩:=h;exact ⟨ts,h1,h2.cL f,fun t ht=>⟨(h3 t ht).rd.cL f,(h3 t ht).small⟩⟩
theorem oW.tail {A:cJ} {L:List cJ} {v:Value} {gs:List kO} (h:oW L v gs):oW (A::L) v gs:=h.cL (cz.drop aX)
theorem oW.one {L:List cJ} {v:Value} {gs:List kO} (h:oW L v gs):∀ x,dN L x→v.oneCell'=true:=by
 obtain ⟨ts,h1,h2,h3⟩:=h;intro x hx;obtain ⟨⟨ad,c,rfl,_⟩,_⟩:=h2.shape zo x hx
 rfl
theorem jm.len (t:jm):t.cells.length=4:=rfl
end Go.Proofs
namespace Go.Proofs
attribute [local irreducible] Bs.cD Bs.Do Bs.O Bs.W Bs.Fin Bs.A Bs.Ct Bs.cE Bs.Rd Bs.Sat Bs.cK Bs.Ob Bs.dE Bs.View Bs.cz Bs.Ex Bs.dI Bs.Pu Bs.eY Bs.dN Bs.dZ
open Go.Bs
open Tryz
variable (R:List cJ) (e:World)
theorem Bm (v:Value) (b:List UInt8) (hv:db R v b) :
 Ct prog 201 #[v] e R (fun v' L'=>v'=.bool (decide (b.length=32))∧R=L'):=by
 refine a7 (cE.shape hv zo) ?_;rintro ⟨⟨ad,cap,rfl,h3,h4,h5,h6⟩,_⟩;refine a8 (args:=[_]) func201 rfl ntmps201 results201 rfl ?_
 by_cases h:b.length=32
 ·rw [ay h];refine wB ?_;exact aY R rfl aX ⟨rfl,rfl⟩
 ·rw [aq h];refine wB ?_;exact aY R rfl aX ⟨rfl,rfl⟩
theorem qX (n:Nat) :
 Ct prog 197 #[.int .i64 (n:Int)] e R (fun v' L'=>v'=.bool (decide (n<4))∧R=L'):=by
 refine a8 (args:=[_]) func197 rfl ntmps197 results197 rfl ?_
 by_cases h:n<4
 ·rw [ay h];refine wB ?_;exact aY R rfl aX ⟨rfl,rfl⟩
 ·rw [aq h];refine wB ?_;exact aY R rfl aX ⟨rfl,rfl⟩
theorem Cx (v w:Value) (b a:List UInt8) (g:Nat) (hg:Rd R ⟨g,0,none⟩ w) (hv:db R v b) (hw:db R w a) :
 Ct prog 202 #[v,pt g] e R (fun v' L'=>v'=.bool (decide (b=a))∧R=L'):=by
 refine a8 (args:=[_,_]) func202 rfl ntmps202 results202 rfl ?_;refine wB ?_;refine aZ rfl rfl (iN _ e v w b a hv hw) ?_;rintro _ _ ⟨rfl,rfl⟩;refine wB ?_;exact aY R rfl aX ⟨rfl,rfl⟩
theorem G1 {l:List (List UInt8)} (h:l.Nodup) {i j:Nat} (hj:j<i) (hi:i<l.length):l.getD j []≠l.getD i []:=by
 rw [ax,ax,ab zo,ab hi];simp only [Option.getD_some];intro he;exact List.pairwise_iff_getElem.1 h j i zo hi hj he
theorem j8 (vl vw:Value) (p:jG) (hp:j7 R vl vw p) (hr:p.right) :
 Ct prog 116 #[.agg (lE p vl vw).toArray] e R (fun v' L'=>v'=.bool true∧R=L'):=by
 obtain ⟨q1,q2,q3,q4,q5,q6⟩:=hr;obtain ⟨h1,ts,fy,hv,ht⟩:=hp;have hl:p.ew.length=ts.length:=by rw [← fy,ae]
 refine a7 (cn h1) fun o1=>?_
 refine a7 (hv.shape zo) ?_;rintro ⟨⟨wu,cap,rfl,h3,h4,h5,h6⟩,_⟩;simp only [maxLen] at h4
 refine a8 (args:=[_]) func116 rfl ntmps116 results116 rfl ?_
 (repeat (refine wA ?_;intros))
 rename_i g1;refine aZ rfl rfl (Bm _ e vl p.log (h1.cL zE)) ?_;rintro _ _ ⟨rfl,rfl⟩;rw [ay q1];refine wB ?_;refine bq (ι:=Nat) (fun i=>[(1,pt g1),(34,.slice wu ts.length cap),(35,.int .i64 (ts.length:Int)),(36,.int .i64 (i:Int))]) (fun i=>cK g1 (lE p vl (.slice wu ts.length cap)) 106 (0,0)::R) (fun i=>i≤ts.length) (fun i=>ts.length - i) 0 (aH _) zS zE ?_;intro i hi
 by_cases cO:i<ts.length
 rotate_left
 ·refine wB ?_;exact aY R rfl zE ⟨rfl,rfl⟩
 rcases h6 with h6|⟨gl,ol,rfl⟩
 ·omega
 have hr:Rd R ⟨gl,ol+i,none⟩ (ts[i]'cO).1:=hv.elem (by rw [aL,ab cO];rfl);have jt:=ht _ (aA cO);have Aa:(ts[i]'cO).2.length=32:=q5 _ (by rw [← fy];exact aE.2 ⟨_,aA cO,rfl⟩)
 have hdi:∀ j,j<i→∀ hj:j<ts.length,(ts[j]'hj).2≠(ts[i]'cO).2:=fun j hj Gb=>by
  have:=G1 q6 hj zo;rw [← fy,e6 Gb,e6 cO] at this
  exact this
 generalize ts[i]'cO=y at *
 obtain ⟨yv,b⟩:=y;dsimp only at hr jt Aa hdi
 refine W.cB (cn jt.tail) fun oy=>?_
 (repeat (refine wA ?_;intros))
 rename_i g2;refine aZ rfl rfl (Bm _ e yv b (jt.cL zE)) ?_;rintro _ _ ⟨rfl,rfl⟩;rw [ay Aa];refine wB ?_
 have Xu:∀ A B,cE (A::B::R) 1 (.slice (some ⟨gl,ol,none⟩) i cap) (ts.take i).length ((ts.take i).map (·.1)):=fun A B=>by
  have:=(hv.p6 (hi:=i) zo).tail (A:=B) |>.tail (A:=A)
  rw [Nat.mul_one] at this
  rw [aF,Nat.min_eq_left zo,List.map_take];exact this
 rw [Int.toNat_natCast]
 have hc:=qk (cK g2 [yv] ez (0,0)::cK g1 (lE p vl (.slice (some ⟨gl,ol,none⟩) ts.length cap)) 106 (0,0)::R) e (.slice (some ⟨gl,ol,none⟩) i cap) (ts.take i) 202 [] [pt g2] (fun j=>decide (((ts.take i).map (·.2)).getD j []=b)) (Xu _ _) (by rw [aF];omega) (fun j hj=>by
  rw [e6 hj];exact Cx _ e _ yv _ b g2 (bP .zero rfl) ((ht _ (aR (aA hj))).tail.tail) jt.tail.tail)
 rw [aq (fun ⟨j,hj,h⟩=>by
  rw [e6 hj] at h
  rw [aF] at hj
  rw [List.getElem_take] at h
  exact hdi j zo zo (of_decide_eq_true h))] at hc
 refine aZ rfl rfl hc ?_;rintro _ _ ⟨rfl,rfl⟩;refine wB ?_;exact bi (i+1) cO zo zS zE
theorem oX (vp vq:Value) (g:kO) (hs:fL R vp vq g.sig) (hr:g.sig.fits) :
 Ct prog 114 #[.agg (iA g vp vq).toArray] e R (fun v' L'=>∃ (M:cJ) (up uq:Value),v'=.agg (iA g up uq).toArray∧fL [M] up uq g.sig∧L'=M::R):=by
 refine a7 hs.parts.one fun o2=>?_
 refine a7 hs.path.one fun o3=>?_
 refine bH (args:=[_]) func114 rfl ntmps114 results114 rfl ?_
 (repeat (refine wA ?_;intros))
 rename_i g1 g2;refine bk (id:=1) [6] (cK g1 (iA g vp vq) 96 (0,0)::R) mixed ?_
 (refine tF 0 ?_;refine tL 1 ?_;refine tF 2 ?_;refine tk 3 _ rfl (cD.df rfl zP zI zX) ?_)
 refine tO 4 ?_;refine bg rfl rfl (yu _ e vp vq g.sig (hs.cL zE) hr) ?_;rintro _ _ ⟨M,up,uq,rfl,hM,rfl⟩;refine ⟨fun _=>zE,?_⟩;refine A.cB (hM.cL zE).parts.one fun o4=>?_
 refine A.cB (hM.cL zE).path.one fun o5=>?_
 (refine tk 5 _ rfl (bL rfl zF) ?_;(refine tO 6 ?_;refine zg ?_;refine ⟨zN,?_⟩))
 refine bf zK ?_;refine wB ?_;apply br
 ·exact zV
 exact ⟨M::R,zE,M,up,uq,rfl,hM,rfl⟩
theorem yz (vr:Value) (c:jc) (hv:db R vr c.root) (hc:c.right) :
 Ct prog 199 #[.agg (iS c vr).toArray] e R (fun v' L'=>∃ ad k,v'=.slice ad (lW c).length k∧L'=cS (.slice ad (lW c).length k) (lW c)::R):=by
 have wY:=hc.1;have xu:=hc.2;refine a7 (cn hv) fun ho=>?_
 refine a8 (args:=[_]) func199 rfl ntmps199 results199 rfl ?_
 (repeat (refine wA ?_;intros))
 rename_i g;refine aZ rfl rfl (gH _ e vr c hv.tail) ?_;rintro _ _ ⟨rfl,rfl⟩;rw [ay hc];refine wB ?_;refine aZ rfl rfl (jh _ e) ?_;rintro _ _ ⟨gw,rfl,rfl⟩
 (repeat (refine wA ?_;intros))
 rename_i gt;refine O.fo (show cz _ (Writer gw []::cK gt (yx.map u8) pG (17,18)::cK g (iS c vr) 83 (0,0)::R) from bw (.succ .zero) aX) ?_;refine aZ rfl rfl (hI _ e gw [] yx _ (bB .zero rfl zl) (by decide)) ?_;rintro _ _ ⟨rfl,rfl⟩;refine wB ?_;refine aZ rfl rfl (gD _ e gw _ c.size zo (by decide)) ?_;rintro _ _ ⟨rfl,rfl⟩;refine wB ?_;refine aZ rfl rfl (hI _ e gw _ c.root vr hv.tail.tail (by rw [aa,cX];simp only [List.nil_append,show yx.length=17 from rfl];omega)) ?_;rintro _ _ ⟨rfl,rfl⟩;rw [show []++yx++be c.size 4++c.root=lW c by simp [lW]];refine wB ?_;refine aZ rfl rfl (hJ _ e gw _ (by rw [oV hc];omega)) ?_;rintro _ _ ⟨ad,k,rfl,rfl⟩;refine wB ?_;exact aY (cS (.slice ad (lW c).length k) (lW c)::R) rfl zE ⟨ad,k,rfl,rfl⟩
theorem G2 (v vr:Value) (seed:List UInt8) (i n:Nat) (c:jc) (hv:db R v seed) (JY:seed.length=32) (hi:i<16) (hn:n<4) (hr:db R vr c.root) (hc:c.right) :
 Ct prog 113 #[v,.int .i64 (i:Int),.int .i64 (n:Int),.agg (iS c vr).toArray] e R (fun v' L'=>∃ (M:cJ) (up uq:Value),v'=.tuple #[.agg (iA (Bj seed i n c) up uq).toArray,.int .i64 0]∧fL [M] up uq (Bj seed i n c).sig∧L'=M::R):=by
 refine a7 (cn hv) fun o0=>?_
 refine a7 (cn hr) fun o1=>?_
 have nK:=oV hc;have wY:=hc.1;have xu:=hc.2;refine bH (args:=[_,_,_,_]) func113 rfl ntmps113 results113 rfl ?_
 (repeat (refine wA ?_;intros))
 rename_i g1 g2;refine aZ rfl rfl (qX _ e n) ?_;rintro _ _ ⟨rfl,rfl⟩;rw [ay hn];refine wB ?_;refine aZ rfl rfl (gH _ e vr c (hr.cL zE)) ?_;rintro _ _ ⟨rfl,rfl⟩;rw [ay hc];refine wB ?_;refine aZ rfl rfl (yz _ e vr c (hr.cL zE) hc) ?_;rintro _ _ ⟨ad,k,rfl,rfl⟩
 (repeat' first|refine Za ?_|refine Zb ?_|apply Zc|apply Zd|apply Ze|apply Zf|refine Zi ?_|refine Zj ?_|refine Zu ?_|refine Zy ?_|refine Zz ?_|refine ZP ?_|refine ZQ ?_|refine Ya ?_|refine Yb ?_|refine Yd ?_|refine Ye ?_|refine Yg fun _=>?_|refine Yh fun _=>?_|refine Yz ?_|refine YA ?_|apply YB|apply YC|apply YE|apply YF|apply YH|apply YI|refine YN ?_|refine YQ ?_|refine YR ?_|(apply O.df;exact rfl;exact zP;(first|(simp only [aC,Nat.add_zero,Nat.reduceAdd,List.drop_succ_cons,List.drop_zero,List.take_succ_cons,List.take_zero];done)|(simp only [aC,Nat.add_zero,Nat.reduceAdd,List.drop_succ_cons,List.drop_zero,List.take_succ_cons,List.take_zero];exact rfl));exact rfl;exact rfl))
 refine aZ rfl rfl (yr _ e v (.slice ad (lW c).length k) seed (lW c) i (hv.cL zE) JY hi (bb zP) zo) ?_;rintro _ _ ⟨M,vp,vq,rfl,hM,rfl⟩;refine bm (hM.cL zE).parts.one fun o4=>?_
 refine bm (hM.cL zE).path.one fun o5=>?_
 (repeat (refine wA ?_;intros))
 apply br
 ·exact zV
 exact ⟨M::R,zE,M,vp,vq,rfl,hM,rfl⟩
theorem qp {n:Nat} (h:n<256):Value.int .u8 (n:Int)=u8 (UInt8.ofNat n):=by
 unfold u8;rw [UInt8.toNat_ofNat',Nat.mod_eq_of_lt zo]
theorem Bn (g:Nat) (l:List UInt8) (vp vq:Value) (s:kO) (hs:fL R vp vq s.sig) (hn:s.fY<4) (hr:s.sig.right) (hl:l.length≤1000000) :
 Ct prog 126 #[pt g,.agg (iA s vp vq).toArray] e (Writer g l::R) (fun v' L'=>v'=.bool true∧L'=Writer g (l++eU s)::R):=by
 refine a7 (hs.tail).parts.one fun o2=>?_
 refine a7 (hs.tail).path.one fun o3=>?_
 have F8:=gP hr;refine a8 (args:=[_,_]) func126 rfl ntmps126 results126 rfl ?_
 (repeat' first|refine Zb ?_|apply Zc|apply Zd|apply Ze|apply Zf|refine Zh ?_|refine Yg fun _=>?_|(apply O.df;exact rfl;exact zP;(first|(simp only [aC,Nat.add_zero,Nat.reduceAdd,List.drop_succ_cons,List.drop_zero,List.take_succ_cons,List.take_zero];done)|(simp only [aC,Nat.add_zero,Nat.reduceAdd,List.drop_succ_cons,List.drop_zero,List.take_succ_cons,List.take_zero];exact rfl));exact rfl;exact rfl))
 rename_i g1;refine aZ rfl rfl (ub _ e vp vq s.sig (hs.cL zE) hr) ?_;rintro _ _ ⟨ad,k,rfl,rfl⟩;refine wB ?_;refine aZ rfl rfl (qX _ e s.fY) ?_;rintro _ _ ⟨rfl,rfl⟩;rw [ay hn];refine wB ?_;rw [qp zo]
 (repeat' first|refine Za ?_|refine Zb ?_|apply Zc|apply Zd|apply Ze|apply Zf|refine Zh ?_|refine Zi ?_|refine Zj ?_|refine Zl ?_|refine Zm ?_|refine Zn ?_|refine Zo ?_|refine Zq ?_|refine Zs ?_|refine Zt ?_|refine Zu ?_|refine Zy ?_|refine Zz ?_|refine ZM ?_|refine ZN ?_|refine ZO (fun _=>?_) fun _=>?_|refine ZP ?_|refine ZQ ?_|refine ZY ?_|refine ZZ ?_|refine Z6 ?_|refine Z7 ?_|refine Z8 ?_|refine Ya ?_|refine Yb ?_|refine Yf ?_|refine Yg fun _=>?_|refine Yz ?_|refine YA ?_|apply YC|apply YE|apply YF|refine YN ?_|(apply O.df;exact rfl;exact zP;(first|(simp only [aC,Nat.add_zero,Nat.reduceAdd,List.drop_succ_cons,List.drop_zero,List.take_succ_cons,List.take_zero];done)|(simp only [aC,Nat.add_zero,Nat.reduceAdd,List.drop_succ_cons,List.drop_zero,List.take_succ_cons,List.take_zero];exact rfl));exact rfl;exact rfl))
 refine aZ rfl rfl (Ct.at zP (mz _ e g l (UInt8.ofNat s.fY) zo)) ?_;rintro _ _ ⟨rfl,rfl⟩;refine wB ?_;refine aZ rfl rfl (hI _ e g _ (fG s.sig) (.slice ad (fG s.sig).length k) (bb zP) (by rw [aa,aj];omega)) ?_;rintro _ _ ⟨rfl,rfl⟩;rw [show l++[UInt8.ofNat s.fY]++fG s.sig=l++eU s by simp [eU]];refine wB ?_;exact aY (Writer g (l++eU s)::R) rfl zE ⟨rfl,rfl⟩
theorem Bo (g:Nat) (s:kO) (r:List UInt8) (hn:s.fY<4) (hr:s.sig.right) (hl:r.length≤1000000) :
 Ct prog 213 #[pt g] e (Reader g ⟨eU s++r,false⟩::R) (fun v' L'=>∃ (M:cJ) (up uq:Value),v'=.tuple #[.agg (iA s up uq).toArray,.bool true]∧fL [M] up uq s.sig∧L'=Reader g ⟨r,false⟩::M::R):=by
 have F8:=gP hr;rw [show eU s++r=UInt8.ofNat s.fY::(fG s.sig++r) by simp [eU]];refine bH (args:=[_]) func213 rfl ntmps213 results213 rfl ?_
 (repeat (refine wA ?_;intros))
 refine aZ rfl rfl (Ct.at zP (vo _ e g (UInt8.ofNat s.fY) _)) ?_;rintro _ _ ⟨rfl,rfl⟩;rw [← qp zo];refine wB ?_;refine aZ rfl rfl (ya _ e g 2180 (fG s.sig) r F8 (by rw [aa];omega)) ?_;rintro _ _ ⟨dW,c2,rfl,rfl⟩
 (repeat' first|refine Za ?_|refine Zb ?_|apply Zc|apply Zd|apply Ze|apply Zf|refine Zi ?_|refine Zj ?_|refine Zl ?_|refine Zm ?_|refine Zn ?_|refine Zo ?_|refine Zq ?_|refine Zs ?_|refine Zt ?_|refine Zu ?_|refine Zy ?_|refine Zz ?_|refine ZM ?_|refine ZN ?_|refine ZO (fun _=>?_) fun _=>?_|refine ZP ?_|refine ZQ ?_|refine ZY ?_|refine ZZ ?_|refine Z6 ?_|refine Z7 ?_|refine Z8 ?_|refine Ya ?_|refine Yb ?_|refine Yd ?_|refine Ye ?_|refine Yf ?_|refine Yh fun _=>?_|refine Yz ?_|refine YA ?_|apply YC|apply YE|apply YF|refine YN ?_|refine YQ ?_|refine YR ?_|(apply O.df;exact rfl;exact zP;(first|(simp only [aC,Nat.add_zero,Nat.reduceAdd,List.drop_succ_cons,List.drop_zero,List.take_succ_cons,List.take_zero];done)|(simp only [aC,Nat.add_zero,Nat.reduceAdd,List.drop_succ_cons,List.drop_zero,List.take_succ_cons,List.take_zero];exact rfl));exact rfl;exact rfl))
 refine aZ rfl rfl (tZ _ e (.slice dW (fG s.sig).length c2) s.sig (bb .zero) hr) ?_;rintro _ _ ⟨M,vp,vq,rfl,hM,rfl⟩;refine bm (hM.cL zE).parts.one fun o4=>?_
 refine bm (hM.cL zE).path.one fun o5=>?_
 (repeat (refine wA ?_;intros))
 refine aZ rfl rfl (qX _ e s.fY) ?_;rintro _ _ ⟨rfl,rfl⟩;rw [ay hn];refine wB ?_;apply br
 ·exact zV
 exact ⟨Reader g ⟨r,false⟩::M::R,zE,M,vp,vq,rfl,hM,rfl⟩
theorem mb (vl vw vr vp vq:Value) (p:jG) (c:jc) (g:kO) (hp:j7 R vl vw p) (sW:p.right) (hr:db R vr c.root) (hc:c.right) (hs:fL R vp vq g.sig) :
 Ct prog 290 #[.agg (lE p vl vw).toArray,.agg (iS c vr).toArray,.agg (iA g vp vq).toArray] e R (fun v' L'=>v'=.bool (decide (g.ii p c))∧R=L'):=by
 have nK:=oV hc;have aeK:=sW.fE;have hp0:=hp;obtain ⟨h1,ts,fy,hv,ht⟩:=hp0;have hl:p.ew.length=ts.length:=by rw [← fy,ae]
 refine a7 (cn h1) fun o1=>?_
 refine a7 (cn hr) fun o2=>?_
 refine a7 hs.parts.one fun o3=>?_
 refine a7 hs.path.one fun o4=>?_
 refine a7 (hv.shape zo) ?_;rintro ⟨⟨wu,cap,rfl,h3,h4,h5,h6⟩,_⟩;simp only [maxLen] at h4
 refine a8 (args:=[_,_,_]) func290 rfl ntmps290 results290 rfl ?_
 (repeat (refine wA ?_;intros))
 rename_i g1 g2 g3;refine aZ rfl rfl (j8 _ e vl _ p (hp.cL zE) sW) ?_;rintro _ _ ⟨rfl,rfl⟩;refine wB ?_;refine aZ rfl rfl (gH _ e vr c (hr.cL zE)) ?_;rintro _ _ ⟨rfl,rfl⟩;rw [ay hc]
 by_cases hw:g.fY<ts.length
 rotate_left
 ·rw [aq (fun q:g.ii p c=>hw (by rw [← hl];exact q.1))];refine wB ?_;exact aY R rfl zE ⟨rfl,rfl⟩
 rcases h6 with h6|⟨gl,ol,rfl⟩
 ·omega
 have jw:Rd R ⟨gl,ol+g.fY,none⟩ (ts[g.fY]'hw).1:=hv.elem (by rw [aL,ab hw];rfl);have jt:=ht _ (aA hw);have tg:p.ew.getD g.fY []=(ts[g.fY]'hw).2:=by rw [← fy,e6 hw]
 generalize ts[g.fY]'hw=y at *
 obtain ⟨yv,b⟩:=y;dsimp only at jw jt tg
 refine wB ?_;refine bk (id:=3) [11] (cK g1 (lE p vl (.slice (some ⟨gl,ol,none⟩) ts.length cap)) 106 (0,0)::cK g2 (iS c vr) 83 (0,0)::cK g3 (iA g vp vq) 96 (0,0)::R) mixed ?_
 (refine tF 0 ?_;refine tL 1 ?_;refine tF 2 ?_;refine tL 3 ?_;refine tk 4 _ rfl (cD.ix rfl rfl zo) ?_;refine tL 5 ?_;refine tJ 6 ?_;refine tF 8 ?_;refine tk 9 _ rfl (cD.df rfl zP zI zX) ?_)
 refine tO 7 ?_;refine bg rfl rfl (yz _ e vr c (hr.cL zE) hc) ?_;rintro _ _ ⟨ad,k,rfl,rfl⟩;refine ⟨fun _=>zE,A.fS zE ?_⟩;refine tO 10 ?_;refine bg rfl rfl (tX _ e yv (.slice ad (lW c).length k) vp vq b (lW c) g.sig (jt.cL zE) (bb zP) zo (hs.cL zE)) ?_;rintro _ _ ⟨rfl,rfl⟩;refine ⟨fun _=>zE,A.fS zE ?_⟩;rw [show decide (xc b (lW c) g.sig)=decide (g.ii p c) from decide_eq_decide.2 ⟨fun q=>⟨by rw [hl];exact hw,by rw [tg];exact q⟩,fun q=>by have:=q.2;rw [tg] at this;exact this⟩]
 ((refine tO 11 ?_;refine dV (bj rfl) ?_))
 refine bf zK ?_;refine wB ?_;exact aY R rfl zE ⟨rfl,rfl⟩
theorem wD (va vb:Value) (a b:List (List UInt8)) (ha:mO R va a) (hb:mO R vb b) (hla:a.length≤1000000) (hlb:b.length≤1000000) :
 Ct prog 309 #[va,vb,.func (.func 99) #[] #[]] e R (fun v' L'=>v'=.bool (decide (a=b))∧R=L'):=by
 obtain ⟨ts,rfl,hv,ht⟩:=ha;obtain ⟨us,rfl,hw,hu⟩:=hb;rw [ae] at hla hlb
 refine a7 (hv.shape zo) ?_;rintro ⟨⟨ef,VD,rfl,h3,h4,h5,h6⟩,_⟩;refine a7 (hw.shape zo) ?_;rintro ⟨⟨dW,Af,rfl,w3,w4,w5,w6⟩,_⟩;refine a8 (args:=[_,_,_]) func309 rfl ntmps309 results309 rfl ?_
 by_cases h:ts.length=us.length
 rotate_left
 ·rw [aq (fun q=>h (by have:=congrArg List.length q;simpa using this))];refine wB ?_;exact aY R rfl aX ⟨rfl,rfl⟩
 refine wB ?_;refine bq (ι:=Nat) (fun i=>[(0,.slice ef ts.length VD),(1,.slice dW us.length Af),(2,.func (.func 99) #[] #[]),(15,.slice ef ts.length VD),(16,.int .i64 (ts.length:Int)),(17,.int .i64 (i:Int))]) (fun _=>R) (fun i=>i≤ts.length∧(ts.map (·.2)).take i=(us.map (·.2)).take i) (fun i=>ts.length - i) 0 ⟨aH _,by simp⟩ zS aX ?_;rintro i ⟨hi,ft⟩
 by_cases cO:i<ts.length
 rotate_left
 ·rw [aG (by rw [ae];omega),aG (by rw [ae];omega)] at ft
  rw [ay ft];refine wB ?_;exact aY R rfl aX ⟨rfl,rfl⟩
 rcases h6 with h6|⟨gl,ol,rfl⟩
 ·omega
 rcases w6 with w6|⟨gm,om,rfl⟩
 ·omega
 have QM:i<us.length:=by omega
 have OV:Rd R ⟨gl,ol+i,none⟩ (ts[i]'cO).1:=hv.elem (by rw [aL,ab cO];rfl);have RI:Rd R ⟨gm,om+i,none⟩ (us[i]'QM).1:=hw.elem (by rw [aL,ab QM];rfl);have Ok:=ht _ (aA cO);have hu1:=hu _ (aA QM)
 have hn:(ts[i]'cO).2=(us[i]'QM).2→(ts.map (·.2)).take (i+1)=(us.map (·.2)).take (i+1):=fun q=>by
  rw [aD (by rw [ae];exact cO),aD (by rw [ae];exact QM),ft,List.getElem_map,List.getElem_map,q]
 have oG:¬ (ts[i]'cO).2=(us[i]'QM).2→¬ ts.map (·.2)=us.map (·.2):=fun q r=>q (by
  have:=congrArg (fun l=>l.getD i []) r
  rwa [e6 cO,e6 QM] at this)
 generalize ts[i]'cO=y at *
 generalize us[i]'QM=z at *
 obtain ⟨yv,yb⟩:=y;obtain ⟨zv,zb⟩:=z;dsimp only at OV RI Ok hu1 hn oG
 refine wB ?_;refine O.gB (us:=[]) (ws:=[]) rfl rfl rfl (iN _ e yv zv yb zb Ok hu1) ?_;rintro _ _ ⟨rfl,rfl⟩
 by_cases Xv:yb=zb
 rotate_left
 ·rw [aq Xv,aq (oG Xv)];refine wB ?_;exact aY R rfl aX ⟨rfl,rfl⟩
 rw [ay Xv];refine wB ?_;exact bi (i+1) ⟨cO,hn Xv⟩ zo zS aX
theorem G3 (vp vq up uq:Value) (a b:xa) (ha:fL R vp vq a) (hb:fL R up uq b) :
 Ct prog 289 #[.agg (yq a vp vq).toArray,.agg (yq b up uq).toArray] e R (fun v' L'=>v'=.bool (decide (a=b))∧R=L'):=by
 have O4:a=b↔a.idx=b.idx∧a.parts=b.parts∧a.path=b.path:=by cases a;cases b;simp
 obtain ⟨a1,a2,a3⟩:=ha;obtain ⟨b1,b2,b3⟩:=hb;refine a7 a1.one fun o1=>?_
 refine a7 a2.one fun o2=>?_
 refine a7 b1.one fun o3=>?_
 refine a7 b2.one fun o4=>?_
 refine a8 (args:=[_,_]) func289 rfl ntmps289 results289 rfl ?_
 by_cases h1:a.idx=b.idx
 rotate_left
 ·rw [aq (fun q=>h1 (O4.1 q).1)]
  (repeat (refine wA ?_;intros))
  exact aY R rfl zE ⟨rfl,rfl⟩
 (repeat (refine wA ?_;intros))
 refine aZ rfl rfl (wD _ e vp up a.parts b.parts (a1.cL zE) (b1.cL zE) zo zo) ?_;rintro _ _ ⟨rfl,rfl⟩
 by_cases h2:a.parts=b.parts
 rotate_left
 ·rw [aq h2,aq (fun q=>h2 (O4.1 q).2.1)];refine wB ?_;exact aY R rfl zE ⟨rfl,rfl⟩
 rw [ay h2];refine wB ?_;refine aZ rfl rfl (wD _ e vq uq a.path b.path (a2.cL zE) (b2.cL zE) zo zo) ?_;rintro _ _ ⟨rfl,rfl⟩;rw [show decide (a.path=b.path)=decide (a=b) from decide_eq_decide.2 (by rw [O4];exact ⟨fun q=>⟨h1,h2,q⟩,fun q=>q.2.2⟩)];refine wB ?_;exact aY R rfl zE ⟨rfl,rfl⟩
theorem G4 (vp vq up uq:Value) (a b:kO) (ha:fL R vp vq a.sig) (hb:fL R up uq b.sig) :
 Ct prog 253 #[.agg (iA a vp vq).toArray,.agg (iA b up uq).toArray] e R (fun v' L'=>v'=.bool (decide (a=b))∧R=L'):=by
 have O4:a=b↔a.fY=b.fY∧a.sig=b.sig:=by cases a;cases b;simp
 refine a7 ha.parts.one fun o1=>?_
 refine a7 ha.path.one fun o2=>?_
 refine a7 hb.parts.one fun o3=>?_
 refine a7 hb.path.one fun o4=>?_
 refine a8 (args:=[_,_]) func253 rfl ntmps253 results253 rfl ?_
 by_cases h1:a.fY=b.fY
 rotate_left
 ·rw [aq (fun q=>h1 (O4.1 q).1)]
  (repeat (refine wA ?_;intros))
  exact aY R rfl zE ⟨rfl,rfl⟩
 (repeat' first|refine Za ?_|refine Zb ?_|apply Zc|apply Zd|apply Ze|apply Zf|refine Zh ?_|refine Zi ?_|refine Zn ?_|refine ZM ?_|refine Yg fun _=>?_|(apply O.df;exact rfl;exact zP;(first|(simp only [aC,Nat.add_zero,Nat.reduceAdd,List.drop_succ_cons,List.drop_zero,List.take_succ_cons,List.take_zero];done)|(simp only [aC,Nat.add_zero,Nat.reduceAdd,List.drop_succ_cons,List.drop_zero,List.take_succ_cons,List.take_zero];exact rfl));exact rfl;exact rfl))
 refine aZ rfl rfl (G3 _ e vp vq up uq a.sig b.sig (ha.cL zE) (hb.cL zE)) ?_;rintro _ _ ⟨rfl,rfl⟩;rw [show decide (a.sig=b.sig)=decide (a=b) from decide_eq_decide.2 (by rw [O4];exact ⟨fun q=>⟨h1,q⟩,fun q=>q.2⟩)];refine wB ?_;exact aY R rfl zE ⟨rfl,rfl⟩
def rM (s:List Nat):List Value:=[.bool (decide (0∈s)),.bool (decide (1∈s)),.bool (decide (2∈s)),.bool (decide (3∈s))]
theorem nX {s:List Nat}:rM s=[.bool (decide (0∈s)),.bool (decide (1∈s)),.bool (decide (2∈s)),.bool (decide (3∈s))]:=rfl
theorem RW {s:List Nat}:rM (0::s)=[.bool true,.bool (decide (1∈s)),.bool (decide (2∈s)),.bool (decide (3∈s))]:=by simp [rM]
theorem RX {s:List Nat}:rM (1::s)=[.bool (decide (0∈s)),.bool true,.bool (decide (2∈s)),.bool (decide (3∈s))]:=by simp [rM]
theorem RY {s:List Nat}:rM (2::s)=[.bool (decide (0∈s)),.bool (decide (1∈s)),.bool true,.bool (decide (3∈s))]:=by simp [rM]
theorem RZ {s:List Nat}:rM (3::s)=[.bool (decide (0∈s)),.bool (decide (1∈s)),.bool (decide (2∈s)),.bool true]:=by simp [rM]
theorem countP_cons {p:jG} {c:jc} {g:kO} {l:List kO} {s:List Nat}:countP p c (g::l) s=if g.fY<4∧¬ g.fY∈s∧g.ii p c then 1+countP p c l (g.fY::s) else countP p c l s:=by rw [countP]
theorem Ey (vl vw vr v:Value) (p:jG) (c:jc) (gs:List kO) (hp:j7 R vl vw p) (sW:p.right) (hr:db R vr c.root) (hc:c.right) (hs:oW R v gs) (hl:gs.length≤1000) :
 Ct prog 301 #[.agg (lE p vl vw).toArray,.agg (iS c vr).toArray,v,.func (.func 290) #[] #[]] e R (fun v' L'=>v'=.int .i64 (countP p c gs []:Nat)∧R=L'):=by
 obtain ⟨ts,rfl,hv,ht⟩:=hs;rw [ae] at hl
 refine a7 (cn hp.log) fun o1=>?_
 refine a7 hp.ew.one fun o2=>?_
 refine a7 (cn hr) fun o3=>?_
 refine a7 (hv.shape zo) ?_;rintro ⟨⟨wu,cap,rfl,h3,h4,h5,h6⟩,_⟩;simp only [maxLen] at h4
 refine a8 (args:=[_,_,_,_]) func301 rfl ntmps301 results301 rfl ?_
 (repeat (refine wA ?_;intros))
 rename_i g1 g2 g3;refine bq (ι:=Nat × Nat × List Nat) (fun i=>[(3,.func (.func 290) #[] #[]),(4,pt g1),(5,pt g2),(9,.int .i64 (i.2.1:Int)),(10,pt g3),(13,.slice wu ts.length cap),(14,.int .i64 (ts.length:Int)),(15,.int .i64 (i.1:Int))]) (fun i=>cK g3 (rM i.2.2) 402 (0,0)::cK g2 (iS c vr) 83 (0,0)::cK g1 (lE p vl vw) 106 (0,0)::R) (fun i=>i.1≤ts.length∧i.2.1≤i.1∧i.2.1+countP p c ((ts.map (·.1)).drop i.1) i.2.2=countP p c (ts.map (·.1)) []) (fun i=>ts.length - i.1) (0,0,[]) ⟨aH _,aS _,by simp⟩ zS zE ?_;rintro ⟨i,n,s⟩ ⟨hi,hn,Ab⟩;dsimp only at hi hn Ab
 by_cases cO:i<ts.length
 rotate_left
 ·rw [List.drop_eq_nil_of_le (by rw [ae];omega)] at Ab
  simp only [countP,Nat.add_zero] at Ab
  rw [← Ab];refine wB ?_;exact aY R rfl zE ⟨rfl,rfl⟩
 rcases h6 with h6|⟨gl,ol,rfl⟩
 ·omega
 have G5:dZ R gl (ol+i*4) (jm.cells (ts[i]'cO)):=dZ.elem hv jm.len (ab cO);have jt:=ht _ (aA cO);have Ef:(ts.map (·.1)).drop i=(ts[i]'cO).1::(ts.map (·.1)).drop (i+1):=by rw [List.drop_eq_getElem_cons (by rw [ae];exact cO),List.getElem_map]
 generalize ts[i]'cO=y at *
 obtain ⟨⟨w,sg⟩,up,uq⟩:=y;rw [Ef,countP_cons] at Ab
 obtain ⟨MB,aax⟩:=jt;dsimp only at Ab G5 MB aax
 refine W.cB (MB.cL zE).parts.one fun o4=>?_
 refine W.cB (MB.cL zE).path.one fun o5=>?_
 (repeat (refine wA ?_;intros))
 rename_i g4;refine aZ rfl rfl (qX _ e w) ?_;rintro _ _ ⟨rfl,rfl⟩
 by_cases hw:w<4
 rotate_left
 ·rw [aq hw];rw [aB (fun q=>hw q.1)] at Ab
  refine wB ?_;exact bi (i+1,n,s) ⟨cO,by dsimp only;omega,Ab⟩ zd zS zE
 rw [ay hw]
 by_cases O1:w∈s
 ·rw [aB (fun q=>q.2.1 O1)] at Ab
  rcases (show w=0∨w=1∨w=2∨w=3 by omega) with rfl|rfl|rfl|rfl
  all_goals
   simp only [nX (s:=s),ay O1]
   (repeat' first|refine Y2 ?_|refine Za ?_|apply Zd|apply Ze|apply Zf|refine Zh ?_|refine Zi ?_|refine Zl ?_|refine Zm ?_|refine Zn ?_|refine Zo ?_|refine Zy ?_|refine ZS ?_|refine YA ?_|apply YC|apply YH)
   refine bi (i+1,n,s) ⟨cO,by dsimp only;omega,Ab⟩ zd zS ?_;simp only [nX (s:=s),ay O1];exact zE
 by_cases O5:kO.ii ⟨w,sg⟩ p c
 ·rw [aI ⟨hw,O1,O5⟩,← Nat.add_assoc] at Ab
  rcases (show w=0∨w=1∨w=2∨w=3 by omega) with rfl|rfl|rfl|rfl
  all_goals
   simp only [nX (s:=s),aq O1]
   (repeat' first|refine Y2 ?_|refine Za ?_|refine Zh ?_|refine Zi ?_|refine Zj ?_|refine Zl ?_|refine Zn ?_|refine Zz ?_|fail)
   refine O.gB (us:=[]) (ws:=[]) rfl rfl rfl (mb _ e vl vw vr up uq p c ⟨_,sg⟩ (hp.cL zE) sW (hr.cL zE) hc (MB.cL zE)) ?_;rintro _ _ ⟨rfl,rfl⟩;rw [ay O5]
   (repeat' first|refine Y2 ?_|refine Za ?_|refine Zb ?_|apply Zc|apply Zd|apply Ze|apply Zf|refine Zh ?_|refine Zi ?_|refine Zl ?_|refine ZS ?_|refine Yd ?_|refine Yz ?_|apply YH)
   refine bi (i+1,n+1,_::s) ⟨cO,by dsimp only;omega,Ab⟩ zd zS ?_;dsimp only
   first|rw [RW]|rw [RX]|rw [RY]|rw [RZ]
   exact zE
 ·rw [aB (fun q=>O5 q.2.2)] at Ab
  rcases (show w=0∨w=1∨w=2∨w=3 by omega) with rfl|rfl|rfl|rfl
  all_goals
   simp only [nX (s:=s),aq O1]
   (repeat' first|refine Y2 ?_|refine Za ?_|refine Zh ?_|refine Zi ?_|refine Zj ?_|refine Zl ?_|refine Zn ?_|refine Zz ?_|fail)
   refine O.gB (us:=[]) (ws:=[]) rfl rfl rfl (mb _ e vl vw vr up uq p c ⟨_,sg⟩ (hp.cL zE) sW (hr.cL zE) hc (MB.cL zE)) ?_;rintro _ _ ⟨rfl,rfl⟩;rw [aq O5];refine wB ?_;refine bi (i+1,n,s) ⟨cO,by dsimp only;omega,Ab⟩ zd zS ?_;simp only [nX (s:=s),aq O1];exact zE
theorem Ez (vl vw vr v:Value) (p:jG) (c:jc) (gs:List kO) (hp:j7 R vl vw p) (sW:p.right) (hr:db R vr c.root) (hc:c.right) (hs:oW R v gs) (hl:gs.length≤1000) :
 Ct prog 269 #[.agg (lE p vl vw).toArray,.agg (iS c vr).toArray,v] e R (fun v' L'=>v'=.int .i64 (countP p c gs []:Nat)∧R=L'):=by
 refine a7 (cn hp.log) fun o1=>?_
 refine a7 hp.ew.one fun o2=>?_
 refine a7 (cn hr) fun o3=>?_
 refine a8 (args:=[_,_,_]) func269 rfl ntmps269 results269 rfl ?_
 (repeat (refine wA ?_;intros))
 refine aZ rfl rfl (Ey _ e vl vw vr v p c gs (hp.cL zE) sW (hr.cL zE) hc (hs.cL zE) hl) ?_;rintro _ _ ⟨rfl,rfl⟩;refine wB ?_;exact aY R rfl zE ⟨rfl,rfl⟩
theorem Kc (vl vw vr v:Value) (p:jG) (c:jc) (gs:List kO) (hp:j7 R vl vw p) (sW:p.right) (hr:db R vr c.root) (hc:c.right) (hs:oW R v gs) (hl:gs.length≤1000) :
 Ct prog 215 #[.agg (lE p vl vw).toArray,.agg (iS c vr).toArray,v] e R (fun v' L'=>v'=.bool (decide (uf p c gs))∧R=L'):=by
 refine a7 (cn hp.log) fun o1=>?_
 refine a7 hp.ew.one fun o2=>?_
 refine a7 (cn hr) fun o3=>?_
 refine a8 (args:=[_,_,_]) func215 rfl ntmps215 results215 rfl ?_
 (repeat (refine wA ?_;intros))
 rename_i g1 g2;refine bk (id:=1) [11] (cK g1 (lE p vl vw) 106 (0,0)::cK g2 (iS c vr) 83 (0,0)::R) mixed ?_
 (refine tJ 0 ?_)
 refine tO 1 ?_;refine bg rfl rfl (j8 _ e vl vw p (hp.cL zE) sW) ?_;rintro _ _ ⟨rfl,rfl⟩;refine ⟨fun _=>zE,A.fS zE ?_⟩
 (refine tM 2 ?_;refine dt 3 _ rfl (cD.dy rfl zA zX) ?_;refine dt 4 _ rfl (cD.dy rfl zA zX) ?_;refine dt 5 _ rfl (bu rfl) ?_;refine dt 7 _ rfl (ba rfl) ?_;refine dt 8 _ rfl (bp rfl zR) ?_)
 refine A.rv 6 rfl rfl zK ?_;refine bg rfl rfl (Ez _ e vl vw vr v p c gs (hp.cL zE) sW (hr.cL zE) hc (hs.cL zE) hl) ?_;rintro _ _ ⟨rfl,rfl⟩;refine ⟨fun _=>zE,A.fS zE ?_⟩
 by_cases hm:uf p c gs
 ·have Cf:=hm;unfold uf at Cf
  rw [ay hm]
  (refine dt 9 (.bool true) rfl (cD.iQ (bR rfl rfl) zy) ?_;refine tk 10 _ rfl (bK rfl rfl) ?_;(refine tO 11 ?_;refine dV (bj rfl) ?_))
  refine bf zK ?_;refine wB ?_;exact aY R rfl zE ⟨rfl,rfl⟩
 ·have Cf:=hm;unfold uf at Cf
  rw [aq hm]
  (refine dt 9 (.bool false) rfl (cD.no (bR rfl rfl) zn) ?_;refine tk 10 _ rfl (bK rfl rfl) ?_;(refine tO 11 ?_;refine dV (bj rfl) ?_))
  refine bf zK ?_;refine wB ?_;exact aY R rfl zE ⟨rfl,rfl⟩
theorem G6 (l:List UInt8) (hl:l.length≤1000000) :
 Ct prog 200 #[.string (str l)] e R (fun v' L'=>v'=.bool (decide (pI l))∧R=L'):=by
 have ln:=sZ l;refine a8 (args:=[_]) func200 rfl ntmps200 results200 rfl ?_
 by_cases h1:1≤l.length
 rotate_left
 ·rw [aq (fun q:pI l=>h1 q.1)];refine wB ?_;exact aY R rfl aX ⟨rfl,rfl⟩
 by_cases h2:l.length≤20
 rotate_left
 ·rw [aq (fun q:pI l=>h2 q.2.1)];refine wB ?_;exact aY R rfl aX ⟨rfl,rfl⟩
 refine wB ?_;refine bq (ι:=Nat) (fun i=>[(0,.string (str l)),(13,.int .i64 ((str l).size:Int)),(14,.int .i64 (i:Int))]) (fun _=>R) (fun i=>i≤l.length∧∀ b∈l.take i,97≤b.toNat∧b.toNat≤122) (fun i=>l.length - i) 0 ⟨aH _,fun b hb=>by simp at hb⟩ zS aX ?_;rintro i ⟨hi,eT⟩
 by_cases cO:i<l.length
 rotate_left
 ·rw [aG zo] at eT
  rw [ay (show pI l from ⟨h1,h2,eT⟩)];refine wB ?_;exact aY R rfl aX ⟨rfl,rfl⟩
 have J5:∃ h:i<(str l).size,(str l)[i].toNat=(l[i]'cO).toNat:=⟨by omega,rfl⟩
 refine wB ?_;refine O.GL rfl rfl J5 rfl ?_
 by_cases h3:97≤(l[i]'cO).toNat
 rotate_left
 ·rw [aq (fun q:pI l=>h3 (q.2.2 _ (aA cO)).1)];refine wB ?_;exact aY R rfl aX ⟨rfl,rfl⟩
 refine wB ?_;refine O.GL rfl rfl J5 rfl ?_
 by_cases h4:(l[i]'cO).toNat≤122
 rotate_left
 ·rw [aq (fun q:pI l=>h4 (q.2.2 _ (aA cO)).2)];refine wB ?_;exact aY R rfl aX ⟨rfl,rfl⟩
 refine wB ?_
 exact bi (i+1) ⟨cO,fun b hb=>by
  rw [aD cO] at hb
  rcases aJ.1 hb with hb|hb
  ·exact eT b hb
  ·rw [an.1 hb];exact ⟨h3,h4⟩⟩ zo zS aX
theorem wE (vf vn:Value) (m:DD) (hf:db R vf m.fw) (hn:db R vn m.notes) (hl:m.name.length≤1000000) :
 Ct prog 115 #[.agg (tQ m vf vn).toArray] e R (fun v' L'=>v'=.bool (decide m.right)∧R=L'):=by
 refine a7 (cE.shape hf zo) ?_;rintro ⟨⟨ad,cap,rfl,h3,h4,h5,h6⟩,_⟩;refine a7 (cE.shape hn zo) ?_;rintro ⟨⟨dW,Af,rfl,w3,w4,w5,w6⟩,_⟩;refine a8 (args:=[_]) func115 rfl ntmps115 results115 rfl ?_
 (repeat (refine wA ?_;intros))
 refine aZ rfl rfl (G6 _ e m.name hl) ?_;rintro _ _ ⟨rfl,rfl⟩
 by_cases h1:pI m.name
 rotate_left
 ·rw [aq h1,aq (fun q:m.right=>h1 q.1)];refine wB ?_;exact aY R rfl zE ⟨rfl,rfl⟩
 rw [ay h1]
 by_cases h2:0<m.ii
 rotate_left
 ·rw [aq (fun q:m.right=>h2 q.2.1)];refine wB ?_;exact aY R rfl zE ⟨rfl,rfl⟩
 by_cases h3:m.fw.length=32
 rotate_left
 ·rw [aq (fun q:m.right=>h3 q.2.2.1)];refine wB ?_;exact aY R rfl zE ⟨rfl,rfl⟩
 by_cases h4:m.notes.length≤64
 rotate_left
 ·rw [aq (fun q:m.right=>h4 q.2.2.2)];refine wB ?_;exact aY R rfl zE ⟨rfl,rfl⟩
 rw [ay (show m.right from ⟨h1,h2,h3,h4⟩)];refine wB ?_;exact aY R rfl zE ⟨rfl,rfl⟩
theorem ug (v:Value) (b:List UInt8) (hv:db R v b) (hb:b.length≤1000000) :
 Ct prog 168 #[v] e R (fun v' L'=>∃ ad c,v'=.slice ad (cY b).length c∧L'=cS (.slice ad (cY b).length c) (cY b)::R):=by
 refine a8 (args:=[_]) func168 rfl ntmps168 results168 rfl ?_;refine wB ?_;refine aZ rfl rfl (qU _ e v b hv zo) ?_;rintro _ _ ⟨ad,c,rfl,rfl⟩;refine wB ?_;exact aY _ rfl aX ⟨ad,c,rfl,rfl⟩
abbrev iX:List Value:=[.string (str []),.int .u32 0,nY,nY]
def MC (m:DD) (v:Value) (_:Nat→Value):List cJ:=match v with|.agg #[_,_,vf,vn]=>[cS vf m.fw,cS vn m.notes]|_=>[]
theorem kA (v:Value) (b:List UInt8) (hv:db R v b) (hb:b.length≤1000000) :
 Ct prog 51 #[v] e R (fun v' L'=>(jk b→∃ (M:cJ) (vf vn:Value),v'=.tuple #[.agg (tQ (dB b) vf vn).toArray,.int .i64 0]∧db [M] vf (dB b).fw∧db [M] vn (dB b).notes∧L'=M::R)∧(¬ jk b→v'=.tuple #[.agg iX.toArray,.int .i64 12]∧L'=R)):=by
 refine bH (args:=[_]) func51 rfl ntmps51 results51 rfl ?_
 (repeat (refine wA ?_;intros))
 rename_i g2;refine aZ rfl rfl (jv _ e v b hv.tail zo) ?_;rintro _ _ ⟨gr,rfl,rfl⟩;refine wB ?_;refine aZ rfl rfl (x9 _ e gr (GN b)) ?_;rintro _ _ ⟨rfl,rfl⟩;refine wB ?_;have qi:(yi b).left.length≤1000000:=Nat.le_trans (eX.jg _ _) hb;have pH:(El b).left.length≤1000000:=Nat.le_trans (eX.jg _ _) (Nat.le_trans (eX.jg _ _) qi);have QH:(Em b).left.length≤1000000:=Nat.le_trans (eX.jg _ _) pH;have T9:(En b).left.length≤1000000:=Nat.le_trans (eX.jg _ _) QH;refine W.fe [(2,pt g2),(3,.int .i64 0),(4,pt gr),(5,.int .u8 ((GN b).num 1:Nat))] zS ?_;refine bk (id:=3) [11] (cK g2 iX 67 (0,0)::R) mixed ?_;refine tM 3 ?_;refine tM 5 ?_;refine tM 7 ?_;refine tM 0 ?_;refine A.Vg (n:=1) (Vk 0 11 0 (pt gr) [Reader gr (yi b)]) _ (L0:=cK g2 iX 67 (0,0)::R) [
  ⟨1,12,[0],[0],fun v _=>∃ ad c,v=.slice ad (dB b).name.length c,[(1,fun _ _=>[Reader gr (El b)]),(2,fun v _=>[cS v (dB b).name])]⟩,
  ⟨2,13,[1],[2],fun v _=>v=.string (str (dB b).name),[]⟩,
  ⟨4,15,[1],[1],fun v _=>v=.int .u32 ((dB b).ii:Int),[(3,fun _ _=>[Reader gr (Em b)])]⟩,
  ⟨6,17,[4],[3],fun v _=>∃ ad c,v=.slice ad (dB b).fw.length c,[(4,fun _ _=>[Reader gr (En b)]),(5,fun v _=>[cS v (dB b).fw])]⟩,
  ⟨8,19,[6],[4],fun v _=>∃ ad c,v=.slice ad (dB b).notes.length c,[(6,fun _ _=>[Reader gr (si b)]),(7,fun v _=>[cS v (dB b).notes])]⟩,
  ⟨9,20,[2,4,6,8],[5,7],fun v _=>∃ ad c dW c2,v=.agg (tQ (dB b) (.slice ad (dB b).fw.length c) (.slice dW (dB b).notes.length c2)).toArray,[(9,MC (dB b))]⟩,
  Me 10 6 8 67 iX] 7 rfl rfl zK zK zK rfl ?_ rfl zE ?_
 ·refine dl ?_ (dl ?_ (dl ?_ (dl ?_ (dl ?_ (dl ?_ (dl ?_ qf))))))
  ·refine ⟨_,rfl,.inl rfl,fun V σr M h3 hy=>?_⟩;obtain ⟨s,Gc⟩:=hy _ (az (i:=0) rfl) (az (i:=0) rfl) (fx rfl);dsimp only at s Gc
   rw [Gc] at s
   refine bS (show cz _ (Reader gr (yi b)::(M++(cK g2 iX 67 (0,0)::R))) from aX) ?_;refine bg (xs:=[.tmp 11,.const (.int .i64 20)]) (vs:=[pt gr,.int .i64 20]) (by simp [pZ,ev,s]) rfl (qh _ e gr (yi b) 20 zo) ?_;rintro _ _ ⟨ad,c,rfl,rfl⟩;exact ⟨_,rfl,⟨ad,c,rfl⟩,bw (.succ .zero) (bh aX)⟩
  ·refine ⟨_,rfl,.inl rfl,fun V σr M h3 hy=>?_⟩;obtain ⟨s,Gc⟩:=hy _ (az (i:=1) rfl) (az (i:=0) rfl) (fx rfl);dsimp only at s Gc
   refine bS (show cz _ (cS (V 1) (dB b).name::(M++(cK g2 iX 67 (0,0)::R))) from aX) ?_;exact bN (v:=.string (str (dB b).name)) (b8 s (bb .zero)) rfl ⟨_,rfl,rfl,cz.drop aX⟩
  ·refine ⟨_,rfl,.inl rfl,fun V σr M h3 hy=>?_⟩;refine bS (show cz _ (Reader gr (El b)::(M++(cK g2 iX 67 (0,0)::R))) from aX) ?_;refine bg (OO (h3 14 _ rfl)) rfl (qT _ e gr (El b)) ?_;rintro _ _ ⟨rfl,rfl⟩;exact ⟨_,rfl,rfl,aX⟩
  ·refine ⟨_,rfl,.inl rfl,fun V σr M h3 hy=>?_⟩;have s:=h3 16 _ rfl;refine bS (show cz _ (Reader gr (Em b)::(M++(cK g2 iX 67 (0,0)::R))) from aX) ?_;refine bg (xs:=[.tmp 16,.const (.int .i64 32)]) (vs:=[pt gr,.int .i64 32]) (by simp [pZ,ev,s]) rfl (nS _ e gr (Em b) 32 zo) ?_;rintro _ _ ⟨ad,c,rfl,rfl⟩;exact ⟨_,rfl,⟨ad,c,rfl⟩,bw (.succ .zero) (bh aX)⟩
  ·refine ⟨_,rfl,.inl rfl,fun V σr M h3 hy=>?_⟩;have s:=h3 18 _ rfl;refine bS (show cz _ (Reader gr (En b)::(M++(cK g2 iX 67 (0,0)::R))) from aX) ?_;refine bg (xs:=[.tmp 18,.const (.int .i64 64)]) (vs:=[pt gr,.int .i64 64]) (by simp [pZ,ev,s]) rfl (qh _ e gr (En b) 64 zo) ?_;rintro _ _ ⟨ad,c,rfl,rfl⟩;exact ⟨_,rfl,⟨ad,c,rfl⟩,bw (.succ .zero) (bh aX)⟩
  ·refine ⟨_,rfl,.inl rfl,fun V σr M h3 hy=>?_⟩;obtain ⟨s2,QJ⟩:=hy _ (az (i:=2) rfl) (az (i:=0) rfl) (fx rfl);obtain ⟨s4,R5⟩:=hy _ (az (i:=3) rfl) (az (i:=1) rfl) (fx rfl);obtain ⟨s6,ad,c,IJ⟩:=hy _ (az (i:=4) rfl) (az (i:=2) rfl) (fx rfl);obtain ⟨s8,dW,c2,Ua⟩:=hy _ (az (i:=5) rfl) (az (i:=3) rfl) (fx rfl);dsimp only at s2 QJ s4 R5 s6 IJ s8 Ua
   refine bS (show cz _ (cS (V 6) (dB b).fw::cS (V 8) (dB b).notes::(M++(cK g2 iX 67 (0,0)::R))) from aX) ?_;rw [QJ] at s2
   rw [R5] at s4
   rw [IJ] at s6 ⊢
   rw [Ua] at s8 ⊢
   refine bN (v:=.agg (tQ (dB b) (.slice ad (dB b).fw.length c) (.slice dW (dB b).notes.length c2)).toArray) (bL (parts:=[(0,.tmp 13),(1,.tmp 15),(2,.tmp 17),(3,.tmp 19)]) (vs:=[(0,.string (str (dB b).name)),(1,.int .u32 ((dB b).ii:Int)),(2,.slice ad (dB b).fw.length c),(3,.slice dW (dB b).notes.length c2)]) (by simp [uU,ev,s2,s4,s6,s8]) (by simp [Instr.fill,Value.cells])) rfl ⟨_,rfl,⟨ad,c,dW,c2,rfl⟩,aX⟩
  ·exact Ch rfl (.inl rfl) rfl rfl rfl
 intro V hV;obtain ⟨ad,c,dW,c2,v9⟩:=hV _ (az (i:=6) rfl);obtain ⟨gm,v10⟩:=hV _ (az (i:=7) rfl);clear hV;dsimp only at v9 v10
 refine A.fo (show cz _ ((Reader gr (si b)::(MC (dB b) (V 9) V++(Cg iX 67 (V 10) V++[])))++(cK g2 iX 67 (0,0)::R)) from aX) ?_;rw [v9,v10];refine A.fo (show cz _ (Reader gr (si b)::cS (.slice ad (dB b).fw.length c) (dB b).fw::cS (.slice dW (dB b).notes.length c2) (dB b).notes::cK gm iX 67 (0,0)::cK g2 iX 67 (0,0)::R) from aX) ?_;simp only [kW,Nat.reduceLT,if_true,List.cons_append,List.nil_append];rw [v9,v10]
 ((refine tO 11 ?_;refine zg ?_;refine ⟨zN,?_⟩))
 refine bf zK ?_
 by_cases h1:(GN b).num 1=77
 rotate_left
 ·have lT:¬ jk b:=fun q=>h1 q.1
  refine wB ?_;apply br
  ·exact zV
  exact ⟨R,zE,fun q=>absurd q lT,fun _=>⟨rfl,rfl⟩⟩
 rw [h1];refine wB ?_;refine aZ rfl rfl (A9 _ e gr (si b)) ?_;rintro _ _ ⟨rfl,rfl⟩
 by_cases h2:(si b).bad=false∧(si b).left=[]
 rotate_left
 ·have lT:¬ jk b:=fun q=>h2 q.2.1
  rw [show (!(si b).bad && decide ((si b).left=[]))=false by
   cases hb:(si b).bad with
   | true=>rfl
   | false=>rw [aq (fun q=>h2 ⟨hb,q⟩)];rfl]
  refine wB ?_;apply br
  ·exact zV
  exact ⟨R,zE,fun q=>absurd q lT,fun _=>⟨rfl,rfl⟩⟩
 rw [show (!(si b).bad && decide ((si b).left=[]))=true by rw [h2.1,ay h2.2];rfl];refine wB ?_;refine aZ rfl rfl (wE _ e _ _ (dB b) (bb zP) (bb zP) (by have:=eX.take_length ((yi b).next 2) ((yi b).len 20);have h3:=eX.jg (yi b) 2;unfold dB eX.bytes;dsimp only;omega)) ?_;rintro _ _ ⟨rfl,rfl⟩
 by_cases h3:(dB b).right
 rotate_left
 ·have lT:¬ jk b:=fun q=>h3 q.2.2
  rw [aq h3];refine wB ?_;apply br
  ·exact zV
  exact ⟨R,zE,fun q=>absurd q lT,fun _=>⟨rfl,rfl⟩⟩
 rw [ay h3];refine wB ?_;apply br
 ·exact zV
 exact ⟨dI [cS (.slice ad (dB b).fw.length c) (dB b).fw,cS (.slice dW (dB b).notes.length c2) (dB b).notes]::R,cj (show cz _ (cS (.slice ad (dB b).fw.length c) (dB b).fw::cS (.slice dW (dB b).notes.length c2) (dB b).notes::R) from zE) (dR (M:=[_,_])),fun _=>⟨_,_,_,rfl,xx (bb .zero),xx (bb (.succ .zero)),rfl⟩,fun q=>absurd ⟨h1,h2,h3⟩ q⟩
end Go.Proofs
namespace Go.Bs
theorem MD (l:List UInt8) (i:Nat):(str l).extract 0 i=str (l.take i):=by
 apply ByteArray.ext
 simp [str,ByteArray.data_extract]
theorem cD.R6 {P:Program} {N:Fr} {ty:TypeId} {σ:Env} {e:World} {L:List cJ} {x y:Operand} {t:TypeId} {l:List UInt8} {i:Nat} {k:IntKind} [q:u0 P t] (h:ev σ x=some (.string (str l))) (h1:ev σ y=some (.int k (i:Int))) (hi:i≤l.length) :
 cD P N (.slice t x none (some y) none) ty (.string (str (l.take i))) σ e L:=fun a w ha _ _ _ _ _=>by
 have hs:=sZ l;simp only [execOp,ha.ev h,ha.ev h1,Option.map_none,Option.map_some]
 simp [Instr.sliceAt,Instr.slice,run_underlying q.lS,Instr.sliceBounds,Instr.sliceBound,asIntOf,hs,hi]
 exact MD l i
end Go.Bs
namespace Go.Proofs
open Go.Bs
attribute [local irreducible] Bs.cD Bs.Do Bs.O Bs.W Bs.Fin Bs.A Bs.Ct Bs.cE Bs.Rd Bs.Sat Bs.cK Bs.Ob Bs.dE Bs.View Bs.cz Bs.Ex Bs.dI Bs.Pu Bs.eY Bs.dN Bs.dZ
theorem rN (R:List cJ) (e:World) (ad:Option Addr) (c:Nat) (b x:List UInt8) (v:Value) (hv:db R v x) (hx:x.length≤65535) (hl:b.length≤1000000) :
 Ct Tryz.prog 147 #[.slice ad b.length c,v] e (cS (.slice ad b.length c) b::R) (fun v' L'=>∃ ad c,v'=.slice ad (b++enc x).length c∧L'=cS (.slice ad (b++enc x).length c) (b++enc x)::R):=by
 refine a7 (cE.shape (cE.tail hv) zo) ?_;rintro ⟨⟨qq,cx,rfl,h3,h4,h5,h6⟩,_⟩;refine a8 (args:=[_,_]) Tryz.func147 rfl Tryz.ntmps147 Tryz.results147 rfl ?_
 (repeat (refine wA ?_;intros))
 have e1:[Value.int .u8 (IntKind.u8.wrap ((x.length:Int).fdiv (2 ^ min (8:Int).toNat IntKind.i64.bits))),.int .u8 (IntKind.u8.wrap (x.length:Int))]=(be x.length 2).map u8:=by
  have a3:=mN x.length 8 64 zo;have b:=Eo x.length
  show [Value.int .u8 (IntKind.u8.wrap ((x.length:Int).fdiv (2 ^ min 8 64))),.int .u8 (IntKind.u8.wrap (x.length:Int))]=_
  rw [a3,b]
  simp [be,u8]
 rw [e1];refine bC (bo rfl rfl rfl (.succ .zero) (bB .zero (by rw [ae,cX]) zl) rfl rfl mG zm zo fun dW c2 _=>?_)
 (repeat (refine wA ?_;intros))
 refine bC (bo rfl rfl rfl .zero (hv.cL zE) rfl rfl mG zm zo fun eJ c3 _=>?_)
 refine wB ?_;have e2:(b++enc x).length=b.length+2+x.length:=by rw [aa,iy];omega
 refine aY (cS (.slice eJ (b++enc x).length c3) (b++enc x)::R) rfl ?_ ⟨eJ,c3,by rw [e2];rfl,rfl⟩;unfold cS;rw [e2];unfold enc;rw [ah,ah,← aM];exact zE
theorem Cy (R:List cJ) (e:World) (vf vn:Value) (m:DD) (hf:db R vf m.fw) (hn:db R vn m.notes) (hr:m.right) (hv:m.ii<4294967296) :
 Ct Tryz.prog 71 #[.agg (tQ m vf vn).toArray] e R (fun v' L'=>∃ ad c,v'=.slice ad (lO m).length c∧L'=cS (.slice ad (lO m).length c) (lO m)::R):=by
 obtain ⟨q1,q2,q3,q4⟩:=id hr;have q5:=q1.2.1;refine a7 (cn hf) fun o1=>?_
 refine a7 (cn hn) fun o2=>?_
 refine a8 (args:=[_]) Tryz.func71 rfl Tryz.ntmps71 Tryz.results71 rfl ?_
 (repeat (refine wA ?_;intros))
 rename_i g1;refine bk (id:=1) [8] (cK g1 (tQ m vf vn) 67 (0,0)::R) Tryz.mixed ?_
 (refine tF 1 ?_;refine tL 2 ?_)
 refine tF 5 ?_;refine tL 6 ?_;refine A.ON (n:=3) [Mf 0 4 0 pG ([77].map u8),Gz 3 7 1 m.name] 2 rfl zK zK ?_ zE ?_
 ·refine dl ?_ (dl ?_ qf)
  ·exact Ci (z:=.int .u8 0) (parts:=[(0,.const (.int .u8 77))]) rfl (.inl rfl) rfl rfl (fun σr h=>rfl) rfl rfl zQ rfl rfl
  ·exact JN rfl (.inl rfl) rfl rfl (fun σr h=>h _ _ rfl) zm
 intro V hV;obtain ⟨g4,v0⟩:=hV _ (az (i:=0) rfl);obtain ⟨eJ,c3,v3⟩:=hV _ (az (i:=1) rfl);clear hV;dsimp only at v0 v3
 refine A.fo (show cz _ ((tB pG ([77].map u8) (V 0) V++([View 1 (V 3) m.name.length (m.name.map u8)]++[]))++(cK g1 (tQ m vf vn) 67 (0,0)::R)) from aX) ?_;simp only [kW,Nat.reduceLT,if_true,List.cons_append,List.nil_append];rw [v0,v3];refine A.fo (show cz _ (cS (.slice (some ⟨g4,0,none⟩) [(77:UInt8)].length 1) [77]::View 1 (.slice eJ m.name.length c3) m.name.length (m.name.map u8)::cK g1 (tQ m vf vn) 67 (0,0)::R) from ?_) ?_
 ·exact hH (E:=pG) (n:=1) (k:=1) (g:=g4) (cap:=1) (cur:=[u8 77]) zo zl (by simp)
 refine tO 4 ?_;refine bg rfl rfl (rN _ e (some ⟨g4,0,none⟩) 1 [77] m.name (.slice eJ m.name.length c3) (cE.view .zero) zo (by decide)) ?_;rintro _ _ ⟨jA,c4,rfl,rfl⟩;refine ⟨fun _=>zE,?_⟩;have en:=iy m.name;have e7:(([77]:List UInt8)++enc m.name).length≤30:=by rw [aa,en];simp only [aN,List.length_nil];omega
 generalize EA:([77]:List UInt8)++enc m.name=b1 at *
 refine tO 7 ?_;refine bg rfl rfl (Ep _ e jA c4 b1 m.ii hv zo) ?_;rintro _ _ ⟨QE,c5,rfl,rfl⟩;refine ⟨fun _=>zE,?_⟩
 ((refine tO 8 ?_;refine dV (bj rfl) ?_))
 refine bf zK ?_;have eb:(b1++be m.ii 4).length≤40:=by rw [aa,cX];omega
 generalize O6:b1++be m.ii 4=b2 at *
 refine wB ?_;refine bk (id:=2) [7] (cK g1 (tQ m vf vn) 67 (0,0)::R) Tryz.mixed ?_
 (refine tM 0 ?_;refine tF 1 ?_;refine tL 2 ?_;refine tF 4 ?_;refine tL 5 ?_)
 refine tO 3 ?_;refine bo rfl rfl rfl zP (hf.cL zE) rfl rfl mG zm zo fun GH c6 _=>?_
 refine ⟨fun _=>zE,?_⟩;refine A.fo (show cz _ (cS (.slice GH (b2++m.fw).length c6) (b2++m.fw)::cK g1 (tQ m vf vn) 67 (0,0)::R) from ?_) ?_
 ·unfold cS;rw [aa,ah];exact zE
 have e9:(b2++m.fw).length=b2.length+32:=by rw [aa,q3]
 rw [show Value.slice GH (b2.length+m.fw.length) c6=.slice GH (b2++m.fw).length c6 by rw [aa]];refine tO 6 ?_;refine bg rfl rfl (rN _ e GH c6 (b2++m.fw) m.notes vn (hn.cL zE) zo zo) ?_;rintro _ _ ⟨QF,c7,rfl,rfl⟩;refine ⟨fun _=>zE,?_⟩
 ((refine tO 7 ?_;refine dV (bj rfl) ?_))
 refine bf zK ?_
 have kM:b2++m.fw++enc m.notes=lO m:=by
  rw [← O6,← EA];unfold lO
  simp
 rw [kM];refine wB ?_;exact aY (cS (.slice QF (lO m).length c7) (lO m)::R) rfl zE ⟨QF,c7,rfl,rfl⟩
def wF (n:Int):UInt8:=UInt8.ofNat (n % 256).toNat
theorem yA (n:Int):Value.int .u8 (IntKind.u8.wrap n)=u8 (wF n):=by
 unfold u8 wF;rw [UInt8.toNat_ofNat',Nat.mod_eq_of_lt (by have:=Int.emod_lt_of_pos n (show (0:Int)<256 by omega);omega),Int.toNat_of_nonneg (Int.emod_nonneg n zo)];unfold IntKind.wrap
 simp [IntKind.bits,IntKind.signed]
def wG (n:Int):List UInt8:=ei 98 [[wF (within n 0 100000)]]
theorem G7 (R:List cJ) (e:World) (n:Int) (hn:-9223372036854775808≤n∧n≤9223372036854775807) :
 Ct Tryz.prog 94 #[.int .i64 n] e R (fun v' L'=>∃ ad c,v'=.slice ad (wG n).length c∧L'=cS (.slice ad (wG n).length c) (wG n)::R):=by
 refine a8 (args:=[_]) Tryz.func94 rfl Tryz.ntmps94 Tryz.results94 rfl ?_;refine wB ?_;refine aZ rfl rfl (eA _ e n 0 100000 hn zo) ?_;rintro _ _ ⟨rfl,rfl⟩
 (repeat (refine wA ?_;intros))
 rw [yA]
 (repeat (refine wA ?_;intros))
 rename_i g1 g2
 refine aZ rfl rfl (yh _ e 98 _ [(.slice (some ⟨g1,0,none⟩) 1 1,[wF (within n 0 100000)])] (bB .zero rfl zl) (fun a ha=>by
  rw [an.1 ha]
  exact bB (.succ .zero) rfl zl) (fun a ha=>by
  rw [an.1 ha]
  show 1≤1000000
  decide) (by simp)) ?_
 rintro _ _ ⟨ad,c,rfl,rfl⟩;rw [show ei 98 ([((.slice (some ⟨g1,0,none⟩) 1 1:Value),[wF (within n 0 100000)])].map (·.2))=wG n from rfl]
 generalize wG n=x
 refine wB ?_;exact aY (cS (.slice ad x.length c) x::R) rfl zE ⟨ad,c,rfl,rfl⟩
theorem Cz (n:Int):(wG n).length=32:=dg _ _
def R7:List (List UInt8):=[[112,117,109,112],[118,97,108,118,101],[97],[103,97,117,103,101,111,102,116,104,101,108,111,110,103,101,115,116,110,97,109]]
def me (n v f:Int):DD:=⟨R7.getD ((within n 0 1000).tmod 4).toNat [],(1+(within v 0 100000).tmod 9).toNat,wG (f.tmod 4),[wF f]⟩
theorem mQ (n v f:Int):(me n v f).right∧(me n v f).ii<4294967296:=by
 have h1:=dm n 0 1000 zo;have h2:=dm v 0 100000 zo;have h3:=Int.tmod_lt_of_pos (within n 0 1000) (show (0:Int)<4 by omega);have h4:=Int.tmod_nonneg 4 h1.1;have h5:=Int.tmod_lt_of_pos (within v 0 100000) (show (0:Int)<9 by omega);have h6:=Int.tmod_nonneg 9 h2.1;refine ⟨⟨?_,?_,Cz _,?_⟩,?_⟩
 ·unfold me;dsimp only
  generalize ((within n 0 1000).tmod 4)=k at *
  rcases (show k=0∨k=1∨k=2∨k=3 by omega) with rfl|rfl|rfl|rfl<;>decide
 ·unfold me;dsimp only;omega
 ·unfold me;simp
 ·unfold me;dsimp only;omega
def mR (n v f:Int):List UInt8:=lO (me n v f)
abbrev xy:List Value:=[.string (str [112,117,109,112]),.string (str [118,97,108,118,101]),.string (str [97]),.string (str [103,97,117,103,101,111,102,116,104,101,108,111,110,103,101,115,116,110,97,109])]
def EB (v:Value) (_:Nat→Value):List cJ:=match v with|.pointer (some ⟨g,_,_⟩)=>[cK g xy 9 (0,0)]|_=>[]
def IK (m:DD) (v:Value) (_:Nat→Value):List cJ:=match v with|.agg #[_,_,vf,.slice (some ⟨g,_,_⟩) _ _]=>[cS vf m.fw,cK g (m.notes.map u8) pG (0,0)]|_=>[]
theorem Kd (R:List cJ) (e:World) (n v f:Int) (hn:-9223372036854775808≤n∧n≤9223372036854775807) (hv:-9223372036854775808≤v∧v≤9223372036854775807) (hf:-9223372036854775808≤f∧f≤9223372036854775807) :
 Ct Tryz.prog 32 #[.int .i64 n,.int .i64 v,.int .i64 f] e R (fun v' L'=>∃ (M:cJ) (vf vn:Value),v'=.agg (tQ (me n v f) vf vn).toArray∧db [M] vf (me n v f).fw∧db [M] vn (me n v f).notes∧L'=M::R):=by
 have h1:=dm n 0 1000 zo;have h2:=dm v 0 100000 zo;have h3:=Int.tmod_lt_of_pos (within n 0 1000) (show (0:Int)<4 by omega);have h4:=Int.tmod_nonneg 4 h1.1;have h5:=Int.tmod_lt_of_pos (within v 0 100000) (show (0:Int)<9 by omega);have h6:=Int.tmod_nonneg 9 h2.1;have h7:=Int.tmod_lt_of_pos f (show (0:Int)<4 by omega)
 have h8:-4<f.tmod 4:=by
  rcases Int.le_total 0 f with h0|h0
  ·have:=Int.tmod_nonneg 4 h0;omega
  ·have h3:=Int.tmod_lt_of_pos (-f) (show 0<(4:Int) by omega);rw [Int.neg_tmod] at h3;omega
 refine bH (args:=[_,_,_]) Tryz.func32 rfl Tryz.ntmps32 Tryz.results32 rfl ?_
 (repeat (refine wA ?_;intros))
 rename_i g2;refine bk (id:=1) [19] (cK g2 iX 67 (0,0)::R) Tryz.mixed ?_;refine tk 0 _ rfl (cD.R6 (i:=20) (l:=[103,97,117,103,101,111,102,116,104,101,108,111,110,103,101,115,116,110,97,109,101]) rfl rfl (by decide)) ?_;refine tM 2 ?_;refine tM 7 ?_;refine tM 12 ?_
 (refine tk 13 _ rfl (cD.rem rfl rfl zo) ?_;refine tM 15 ?_;refine tk 16 _ rfl (cD.jP rfl) ?_)
 rw [yA];obtain ⟨k,hk⟩:∃ k:Nat,(within n 0 1000).tmod 4=(k:Int):=⟨((within n 0 1000).tmod 4).toNat,by omega⟩
 have hk4:k<4:=by omega
 have O7:∃ s,xy[k]?=some (.string (str s))∧s=(me n v f).name:=by
  unfold me;rw [hk,Int.toNat_natCast];rcases (show k=0∨k=1∨k=2∨k=3 by omega) with rfl|rfl|rfl|rfl<;>exact ⟨_,rfl,rfl⟩
 obtain ⟨nm,O7,aay⟩:=O7;have pQ:1+(within v 0 100000).tmod 9=(((me n v f).ii:Nat):Int):=by unfold me;dsimp only;omega
 have acU:=(mQ n v f).2;have VE:wG (f.tmod 4)=(me n v f).fw:=rfl;have lT:[wF f]=(me n v f).notes:=rfl;have R8:(me n v f).notes.length=1:=rfl
 generalize me n v f=m at *
 refine A.ON (n:=1) [
  Mf 1 8 0 9 xy,
  tC 3 10 [] (.int .i64 (within n 0 1000)),
  tC 4 11 [3] (.int .i64 (k:Int)),
  ⟨5,12,[1,4],[0],fun v _=>∃ g,v=.pointer (some ⟨g,k,none⟩),[(1,EB)]⟩,
  ⟨6,13,[5],[1],fun v _=>v=.string (str m.name),[]⟩,
  tC 8 15 [] (.int .i64 (within v 0 100000)),
  tC 9 16 [8] (.int .i64 ((within v 0 100000).tmod 9)),
  tC 10 17 [9] (.int .i64 ((m.ii:Nat):Int)),
  tC 11 18 [10] (.int .u32 ((m.ii:Nat):Int)),
  ⟨14,21,[],[],fun v _=>∃ ad c,v=.slice ad m.fw.length c,[(2,fun v _=>[cS v m.fw])]⟩,
  Mf 17 24 3 pG (m.notes.map u8),
  ⟨18,25,[6,11,14,17],[2,3],fun v _=>∃ ad c g,v=.agg (tQ m (.slice ad m.fw.length c) (.slice (some ⟨g,0,none⟩) 1 1)).toArray,[(4,IK m)]⟩] 12 rfl zK zK ?_ zE ?_
 ·refine dl ?_ (dl ?_ (dl ?_ (dl ?_ (dl ?_ (dl ?_ (dl ?_ (dl ?_ (dl ?_ (dl ?_ (dl ?_ (dl ?_ qf)))))))))))
  ·refine Ci (z:=.string (str [])) (len:=4) (parts:=[(0,.const (.string (str [112,117,109,112]))),(1,.const (.string (str [118,97,108,118,101]))),(2,.const (.string (str [97]))),(3,.tmp 7)]) (vs:=[(0,.string (str [112,117,109,112])),(1,.string (str [118,97,108,118,101])),(2,.string (str [97])),(3,.string (str [103,97,117,103,101,111,102,116,104,101,108,111,110,103,101,115,116,110,97,109]))]) rfl (.inl rfl) rfl rfl (fun σr h=>?_) rfl rfl zQ rfl rfl;have s:=h 7 _ rfl;simp only [uU,ev,s]
   rfl
  ·refine ⟨_,rfl,.inl rfl,fun V σr M h3 hy=>?_⟩;have s:=h3 9 _ rfl;refine bS (show cz _ (M++(cK g2 iX 67 (0,0)::R)) from aX) ?_;refine bg (xs:=[.tmp 9,.const (.int .i64 0),.const (.int .i64 1000)]) (vs:=[.int .i64 n,.int .i64 0,.int .i64 1000]) (by simp [pZ,ev,s]) rfl (eA _ e n 0 1000 hn zo) ?_;rintro _ _ ⟨rfl,rfl⟩;exact ⟨_,rfl,rfl,aX⟩
  ·refine qe rfl (.inl rfl) rfl rfl fun V σr L wH hy _=>?_
   obtain ⟨s,Gc⟩:=hy _ (az (i:=1) rfl) (az (i:=0) rfl) (fx rfl);dsimp only at s Gc
   rw [Gc] at s
   rw [← hk];exact cD.rem s rfl (by decide)
  ·refine ⟨_,rfl,.inl rfl,fun V σr M wH hy=>?_⟩;obtain ⟨s1,g,QN⟩:=hy _ (az (i:=0) rfl) (az (i:=0) rfl) (fx rfl);obtain ⟨s4,R5⟩:=hy _ (az (i:=2) rfl) (az (i:=1) rfl) (fx rfl);dsimp only at s1 QN s4 R5
   refine bS (show cz _ ((tB 9 xy (V 1) V++[])++(M++(cK g2 iX 67 (0,0)::R))) from aX) ?_;rw [QN] at s1 ⊢
   rw [R5] at s4
   exact bN (cD.ix s1 s4 (by show k<4;omega)) rfl ⟨_,rfl,⟨g,by simp⟩,aX⟩
  ·refine ⟨_,rfl,.inl rfl,fun V σr M wH hy=>?_⟩;obtain ⟨s5,g,QO⟩:=hy _ (az (i:=3) rfl) (az (i:=0) rfl) (fx rfl);dsimp only at s5 QO
   refine bS (show cz _ ((EB (V 5) V++[])++(M++(cK g2 iX 67 (0,0)::R))) from aX) ?_;rw [QO] at s5 ⊢
   exact bN (bp s5 (by rw [← aay];exact bP .zero (by rw [iP];exact O7))) rfl ⟨_,rfl,rfl,cz.drop aX⟩
  ·refine ⟨_,rfl,.inl rfl,fun V σr M wH hy=>?_⟩;have s:=wH 14 _ rfl;refine bS (show cz _ (M++(cK g2 iX 67 (0,0)::R)) from aX) ?_;refine bg (xs:=[.tmp 14,.const (.int .i64 0),.const (.int .i64 100000)]) (vs:=[.int .i64 v,.int .i64 0,.int .i64 100000]) (by simp [pZ,ev,s]) rfl (eA _ e v 0 100000 hv zo) ?_;rintro _ _ ⟨rfl,rfl⟩;exact ⟨_,rfl,rfl,aX⟩
  ·refine qe rfl (.inl rfl) rfl rfl fun V σr L wH hy _=>?_
   obtain ⟨s,Gc⟩:=hy _ (az (i:=5) rfl) (az (i:=0) rfl) (fx rfl);dsimp only at s Gc
   rw [Gc] at s
   exact cD.rem s rfl (by decide)
  ·refine qe rfl (.inl rfl) rfl rfl fun V σr L wH hy _=>?_
   obtain ⟨s,Gc⟩:=hy _ (az (i:=6) rfl) (az (i:=0) rfl) (fx rfl);dsimp only at s Gc
   rw [Gc] at s
   rw [← pQ];exact cD.kQ rfl s zo
  ·refine qe rfl (.inl rfl) rfl rfl fun V σr L wH hy _=>?_
   obtain ⟨s,Gc⟩:=hy _ (az (i:=7) rfl) (az (i:=0) rfl) (fx rfl);dsimp only at s Gc
   rw [Gc] at s
   exact cD.xS s (wrap_u32 zo zo)
  ·refine ⟨_,rfl,.inl rfl,fun V σr M wH hy=>?_⟩;refine bS (show cz _ (M++(cK g2 iX 67 (0,0)::R)) from aX) ?_;have hk:=G7 (M++(cK g2 iX 67 (0,0)::R)) e (f.tmod 4) zo;rw [VE] at hk
   refine bg (OO (wH 20 _ rfl)) rfl hk ?_;rintro _ _ ⟨ad,c,rfl,rfl⟩;exact ⟨_,rfl,⟨ad,c,rfl⟩,aX⟩
  ·rw [← lT];refine Ci (z:=.int .u8 0) (len:=1) (parts:=[(0,.tmp 23)]) (vs:=[(0,u8 (wF f))]) rfl (.inl rfl) rfl rfl (fun σr h=>?_) rfl rfl zQ rfl rfl;have s:=h 23 _ rfl;simp only [uU,ev,s]
  ·refine ⟨_,rfl,.inl rfl,fun V σr M wH hy=>?_⟩;obtain ⟨s6,IJ⟩:=hy _ (az (i:=4) rfl) (az (i:=0) rfl) (fx rfl);obtain ⟨ME,Ke⟩:=hy _ (az (i:=8) rfl) (az (i:=1) rfl) (fx rfl);obtain ⟨MF,ad,c,VF⟩:=hy _ (az (i:=9) rfl) (az (i:=2) rfl) (fx rfl);obtain ⟨R9,g,Sa⟩:=hy _ (az (i:=10) rfl) (az (i:=3) rfl) (fx rfl);dsimp only at s6 IJ ME Ke MF VF R9 Sa
   refine bS (show cz _ (([cS (V 14) m.fw]++(tB pG (m.notes.map u8) (V 17) V++[]))++(M++(cK g2 iX 67 (0,0)::R))) from aX) ?_;rw [IJ] at s6
   rw [Ke] at ME
   rw [VF] at MF ⊢
   rw [ae,R8] at Sa
   rw [Sa] at R9 ⊢
   refine bN (v:=.agg (tQ m (.slice ad m.fw.length c) (.slice (some ⟨g,0,none⟩) 1 1)).toArray) (bL (parts:=[(0,.tmp 13),(1,.tmp 18),(2,.tmp 21),(3,.tmp 24)]) (vs:=[(0,.string (str m.name)),(1,.int .u32 (m.ii:Int)),(2,.slice ad m.fw.length c),(3,.slice (some ⟨g,0,none⟩) 1 1)]) (by simp [uU,ev,s6,ME,MF,R9]) (by simp [Instr.fill,Value.cells])) rfl ⟨_,rfl,⟨ad,c,g,rfl⟩,aX⟩
 intro V hV;obtain ⟨ad,c,g,v18⟩:=hV _ (az (i:=11) rfl);clear hV;dsimp only at v18
 refine A.fo (show cz _ ((IK m (V 18) V++[])++(cK g2 iX 67 (0,0)::R)) from aX) ?_;rw [v18];refine A.fo (show cz _ (cS (.slice ad m.fw.length c) m.fw::cK g (m.notes.map u8) pG (0,0)::cK g2 iX 67 (0,0)::R) from aX) ?_;simp only [kW,Nat.reduceLT,if_true,List.cons_append,List.nil_append];rw [v18]
 ((refine tO 19 ?_;refine zg ?_;refine ⟨zN,?_⟩))
 refine bf zK ?_;refine wB ?_;apply br
 ·exact zV
 refine ⟨dI [cS (.slice ad m.fw.length c) m.fw,cK g (m.notes.map u8) pG (0,0)]::R,cj (show cz _ (cS (.slice ad m.fw.length c) m.fw::cK g (m.notes.map u8) pG (0,0)::R) from zE) (dR (M:=[_,_])),_,_,_,rfl,xx (bb .zero),xx ?_,rfl⟩;unfold db;rw [R8];exact bB (.succ .zero) (by rw [ae,R8]) zl
theorem yB (R:List cJ) (e:World) (n v f:Int) (hn:-9223372036854775808≤n∧n≤9223372036854775807) (hv:-9223372036854775808≤v∧v≤9223372036854775807) (hf:-9223372036854775808≤f∧f≤9223372036854775807) :
 Ct Tryz.prog 14 #[.int .i64 n,.int .i64 v,.int .i64 f] e R (fun v' L'=>∃ ad c,v'=.slice ad (mR n v f).length c∧L'=cS (.slice ad (mR n v f).length c) (mR n v f)::R):=by
 refine a8 (args:=[_,_,_]) Tryz.func14 rfl Tryz.ntmps14 Tryz.results14 rfl ?_;refine wB ?_;refine aZ rfl rfl (Kd _ e n v f hn hv hf) ?_;rintro _ _ ⟨M,vf,vn,rfl,QP,AX,rfl⟩;refine wB ?_;refine aZ rfl rfl (Cy _ e vf vn (me n v f) (QP.cL zE) (AX.cL zE) (mQ n v f).1 (mQ n v f).2) ?_;rintro _ _ ⟨ad,c,rfl,rfl⟩;rw [show lO (me n v f)=mR n v f from rfl]
 generalize mR n v f=x
 refine wB ?_;exact aY (cS (.slice ad x.length c) x::R) rfl zE ⟨ad,c,rfl,rfl⟩
end Go.Proofs
namespace Go.Proofs
attribute [local irreducible] Bs.cD Bs.Do Bs.O Bs.W Bs.Fin Bs.A Bs.Ct Bs.cE Bs.Rd Bs.Sat Bs.cK Bs.Ob Bs.dE Bs.View Bs.cz Bs.Ex Bs.dI Bs.Pu Bs.eY Bs.dN Bs.dZ
open Go.Bs
open Tryz
variable (R:List cJ) (e:World)
def jn (l:List ej):List UInt8:=(l.map fun a=>enc a.2).flatten
theorem wI {l:List ej} {i:Nat} (h:i<l.length):jn (l.take (i+1))=jn (l.take i)++enc (l[i]'h).2:=by
 simp only [jn];rw [aD h];simp only [ah,List.map_cons,List.map_nil,List.flatten_append,List.flatten_cons,List.flatten_nil,aK]
theorem EC (l:List ej) (i:Nat):(jn (l.take i)).length≤(jn l).length:=by
 conv=>rhs;rw [← List.take_append_drop i l]
 simp only [jn,ah,List.flatten_append,aa]
 omega
theorem Kf (g:Nat) (l:List UInt8) (v:Value) (ts:List ej) (k:Nat) (hv:cE R 1 v ts.length (ts.map (·.1))) (ht:dQ R ts) (hk:k≤ts.length)
 (hl:l.length+(jn (ts.take k)).length≤140737488355328) (hs:∀ a∈ts.take k,a.2.length≤65535) (hb:∀ h:k<ts.length,65535<(ts[k]'h).2.length) :
 Ct prog 149 #[v,.func (.func 120) #[pt g] #[]] e (Writer g l::R) (fun v' L'=>v'=.bool (decide (k=ts.length))∧L'=Writer g (l++jn (ts.take k))::R):=by
 refine a7 (hv.tail.shape zo) ?_;rintro ⟨⟨ad,cap,rfl,h3,h4,h5,h6⟩,_⟩;simp only [maxLen] at h4
 refine a8 (args:=[_,_]) func149 rfl ntmps149 results149 rfl ?_;refine wB ?_;refine bq (ι:=Nat) (fun i=>[(1,.func (.func 120) #[pt g] #[]),(7,.slice ad ts.length cap),(8,.int .i64 ts.length),(9,.int .i64 i)])
  (fun i=>Writer g (l++jn (ts.take i))::R) (fun i=>i≤k) (fun i=>k - i) 0 (aH _) (cC rfl (cC rfl (cC rfl (cC rfl dd)))) (by simp [jn];exact aX) ?_
 intro i hi
 by_cases cO:i<ts.length
 ·rcases h6 with h6|⟨gl,ol,rfl⟩
  ·omega
  have jw:Rd R ⟨gl,ol+i,none⟩ (ts[i]'cO).1:=cE.elem hv (by rw [aL,ab cO];rfl);have ti:=ht _ (aA cO)
  by_cases vB:i<k
  ·have hsi:=hs (ts[i]'cO) (by rw [List.mem_take_iff_getElem];exact ⟨i,by omega,rfl⟩)
   have hm:(jn (ts.take (i+1))).length≤(jn (ts.take k)).length:=by
    have:=EC (ts.take k) (i+1)
    rwa [List.take_take,Nat.min_eq_left zo] at this
   rw [wI cO,aa,iy] at hm
   refine wB ?_;refine O.gB (us:=[_]) (ws:=[]) rfl rfl rfl (x5 _ e g _ (ts[i]'cO).2 _ ti (by rw [aa];omega) hsi) ?_;rintro _ _ ⟨rfl,rfl⟩;refine wB ?_;refine bi (i+1) vB (by show k - (i+1)<k - i;omega) (cC rfl (cC rfl (cC rfl (cC rfl dd)))) ?_;rw [wI cO,enc];simp only [aM];exact aX
  ·have Qo:i=k:=by omega
   subst Qo;refine wB ?_;refine O.gB (us:=[_]) (ws:=[]) rfl rfl rfl (GA _ e g _ (ts[i]'cO).2 _ ti (hb cO)) ?_;rintro _ _ ⟨rfl,rfl⟩;refine wB ?_;exact aY _ rfl aX ⟨by simp [show i≠ts.length by omega];rfl,rfl⟩
 ·have Qo:i=k:=by omega
  subst Qo;have:i=ts.length:=by omega
  subst this;refine wB ?_;exact aY _ rfl aX ⟨by simp;rfl,rfl⟩
theorem G8 (g:Nat) (l:List UInt8) (v:Value) (ts:List ej) (k:Nat) (hv:cE R 1 v ts.length (ts.map (·.1))) (ht:dQ R ts) (hk:k≤ts.length)
 (hl:l.length+(jn (ts.take k)).length≤140737488355328) (hs:∀ a∈ts.take k,a.2.length≤65535) (hb:∀ h:k<ts.length,65535<(ts[k]'h).2.length) :
 Ct prog 75 #[pt g,v] e (Writer g l::R) (fun v' L'=>v'=.bool (decide (k=ts.length))∧L'=Writer g (l++jn (ts.take k))::R):=by
 refine a8 (args:=[_,_]) func75 rfl ntmps75 results75 rfl ?_;refine wB ?_;refine aZ rfl rfl (Kf R e g l v ts k hv ht hk hl hs hb) ?_;rintro _ _ ⟨rfl,rfl⟩;refine wB ?_;exact aY _ rfl aX ⟨rfl,rfl⟩
structure eS where
 b:List UInt8
 gR:Nat
 rO:Nat
 uh:Nat
 down:Bool
def eS.ok (s:eS):Prop:=s.b.length≤1048576∧s.rO≤1048576∧s.gR≤s.b.length∧s.uh≤9223372036854775807
def G9 (g:Nat) (s:eS) (ad:Option Addr) (c:Nat):cJ:=dI [cK g [.slice ad s.b.length c,.int .i64 s.gR,.int .i64 s.rO,.int .i64 s.uh,.bool s.down] 226 (0,0),cS (.slice ad s.b.length c) s.b]
def de (g:Nat) (s:eS):cJ:=Ex fun ad=>Ex fun c=>G9 g s ad c
theorem qt {g:Nat} {s:eS} {R:List cJ} {P:Program} {f:FuncId} {args:Array Value} {e:World} {Post:Value→List cJ→Prop}
 (h:∀ ad c,Ct P f args e (cK g [.slice ad s.b.length c,.int .i64 s.gR,.int .i64 s.rO,.int .i64 s.uh,.bool s.down] 226 (0,0)::cS (.slice ad s.b.length c) s.b::R) Post):Ct P f args e (de g s::R) Post :=
 Ct.ex .zero fun ad=>Ct.ex .zero fun c=>(h ad c).cL cT
theorem vE {g:Nat} {s:eS} {R:List cJ} {P:Program} {N:Fr} {all:Array Oper} {l:List Oper} {Q:fO} {σ:Env} {e:World}
 (h:∀ ad c,O P N all l Q σ e (cK g [.slice ad s.b.length c,.int .i64 s.gR,.int .i64 s.rO,.int .i64 s.uh,.bool s.down] 226 (0,0)::cS (.slice ad s.b.length c) s.b::R)):O P N all l Q σ e (de g s::R) :=
 O.ex .zero fun ad=>O.ex .zero fun c=>(h ad c).cL cT
theorem kB {g c:Nat} {ad:Option Addr} {s:eS} {R:List cJ}:cz (cK g [.slice ad s.b.length c,.int .i64 s.gR,.int .i64 s.rO,.int .i64 s.uh,.bool s.down] 226 (0,0)::cS (.slice ad s.b.length c) s.b::R) (de g s::R) :=
 cj (dR (M:=[_,_])) (cj (fu (f:=fun c=>G9 g s ad c) c) (fu (f:=fun ad=>Ex fun c=>G9 g s ad c) ad))
theorem kC {g c sy li ar:Nat} {dn:Bool} {ad:Option Addr} {b:List UInt8} {R:List cJ}:cz (cK g [.slice ad b.length c,.int .i64 (sy:Int),.int .i64 (li:Int),.int .i64 (ar:Int),.bool dn] 226 (0,0)::cS (.slice ad b.length c) b::R) (de g ⟨b,sy,li,ar,dn⟩::R):=kB (s:=⟨b,sy,li,ar,dn⟩)
theorem Kg (n:Nat) (hn:n≤1048576) :
 Ct prog 63 #[.int .i64 n] e R (fun v' L'=>∃ g,v'=.tuple #[pt g,.int .i64 0]∧L'=de g ⟨[],0,n,0,false⟩::R):=by
 refine a8 (args:=[_]) func63 rfl ntmps63 results63 rfl ?_
 (repeat (refine wA ?_;intros))
 exact aY _ rfl ((bh (dv pG 1)).trans (kB (s:=⟨[],0,n,0,false⟩))) ⟨_,rfl,rfl⟩
def eS.pow (s:eS):eS:=if s.uh > 0 then { s with uh:=s.uh - 1,down:=decide (s.uh - 1=0) } else s
theorem qu (g:Nat) (s:eS) (h:s.ok) :
 Ct prog 224 #[pt g] e (de g s::R) (fun v' L'=>v'=.bool (!s.pow.down)∧L'=de g s.pow::R):=by
 obtain ⟨b,sy,li,ar,dn⟩:=s;obtain ⟨h1,h2,h3,h4⟩:=h;refine qt fun ad c=>?_
 refine a8 (args:=[_]) func224 rfl ntmps224 results224 rfl ?_;dsimp only at h1 h2 h3 h4 ⊢
 match ar with
 | 0 =>
  have h0:((0:Nat):Int)=0:=rfl
  cases dn <;>
  ·refine wB ?_;exact aY _ rfl (kB (s:=⟨b,sy,li,0,_⟩)) ⟨rfl,rfl⟩
 | 1 =>
  have h0:((1:Nat):Int)=1:=rfl;refine wB ?_;exact aY _ rfl (kB (s:=⟨b,sy,li,0,true⟩)) ⟨rfl,rfl⟩
 | k+2 =>
  have h0:((k+2:Nat):Int) - 1=((k+1:Nat):Int):=by omega
  refine wB ?_;rw [h0];exact aY _ rfl (kB (s:=⟨b,sy,li,k+1,false⟩)) ⟨rfl,rfl⟩
theorem eS.CA {s:eS} (h:s.ok):s.pow.ok:=by
 unfold eS.ok at *
 unfold eS.pow
 split
 ·dsimp only;omega
 ·exact h
theorem eS.IM (s:eS):s.pow.b=s.b∧s.pow.rO=s.rO∧s.pow.gR=s.gR:=by
 unfold eS.pow;split<;>exact ⟨rfl,rfl,rfl⟩
def eS.ED (s:eS) (m:List UInt8):eS:=if s.down=true∨s.rO<s.b.length+m.length then s.pow else { s.pow with b:=s.b++m }
def eS.pR (s:eS) (m:List UInt8):Int:=if s.down=true∨s.rO<s.b.length+m.length then 13 else if s.pow.down then 13 else 0
theorem CB (g:Nat) (s:eS) (m:List UInt8) (v:Value) (h:s.ok) (hv:db R v m) (hm:m.length≤140737488351232) :
 Ct prog 227 #[pt g,v] e (de g s::R) (fun v' L'=>v'=.int .i64 (s.pR m)∧L'=de g (s.ED m)::R):=by
 refine a7 (cE.shape (db.tail hv) zo) ?_;rintro ⟨⟨ef,c1,rfl,g3,g4,g5,g6⟩,_⟩;have j1:=eS.CA h;have hb:=eS.IM s;refine qt fun ad c=>?_
 refine a8 (args:=[_,_]) func227 rfl ntmps227 results227 rfl ?_;refine wB ?_;refine O.fo (kB (s:=s)) ?_;refine aZ rfl rfl (qu R e g s h) ?_;rintro _ _ ⟨rfl,rfl⟩;clear ad c;refine vE fun ad c=>?_
 generalize hp:s.pow=p at *
 obtain ⟨b,sy,li,ar,dn⟩:=p;obtain ⟨sb,ss,sl,sa,sd⟩:=s;dsimp only at hb
 obtain ⟨rfl,rfl,rfl⟩:=hb;obtain ⟨h1,h2,h3,h4⟩:=j1;dsimp only at h1 h2 h3 h4 ⊢
 cases sd with
 | true =>
  (repeat' first|refine Zb ?_|apply Zc|apply Zd|apply Ze|apply Zf|refine Yz ?_|apply YE|apply YF|(refine bz (id:=3) [] mixed ?_;all_goals (refine tM 0 ?_);all_goals (refine tM 1 ?_);all_goals (first|refine dt 2 _ rfl (bu rfl) ?_|refine bc 2 rfl rfl zK aX rfl ?_);all_goals (first|refine dt 3 _ rfl (bM rfl) ?_|refine bc 3 rfl rfl zK aX rfl ?_);all_goals (first|refine dt 4 _ rfl (bu rfl) ?_|refine bc 4 rfl rfl zK aX rfl ?_);all_goals (first|refine dt 5 _ rfl (bn rfl) ?_|refine bc 5 rfl rfl zK aX rfl ?_);all_goals (first|refine dt 6 _ rfl (ba rfl) ?_|refine bc 6 rfl rfl zK aX rfl ?_);all_goals (first|refine dt 7 _ rfl (bp rfl zR) ?_|refine bc 7 rfl rfl zK aX rfl ?_);all_goals (first|refine dt 8 _ rfl (bu rfl) ?_|refine bc 8 rfl rfl zK aX rfl ?_);all_goals (first|refine dt 9 _ rfl (bn rfl) ?_|refine bc 9 rfl rfl zK aX rfl ?_);all_goals (first|refine dt 10 _ rfl (ba rfl) ?_|refine bc 10 rfl rfl zK aX rfl ?_);all_goals (first|refine dt 11 _ rfl (bp rfl zR) ?_|refine bc 11 rfl rfl zK aX rfl ?_);all_goals (first|refine dt 12 _ rfl (bM rfl) ?_|refine bc 12 rfl rfl zK aX rfl ?_);all_goals (first|refine dt 13 _ rfl (cD.jz rfl rfl zo) ?_|refine bc 13 rfl rfl zK aX rfl ?_);all_goals (first|refine dt 14 (.bool true) rfl (cD.iQ (cD.gtr rfl rfl) zy) ?_|refine dt 14 (.bool false) rfl (cD.no (cD.gtr rfl rfl) zn) ?_|refine bc 14 rfl rfl zK aX rfl ?_);all_goals (first|refine tk 15 _ rfl (bK rfl rfl) ?_|refine tk 15 _ rfl (bI rfl rfl) ?_);all_goals (refine bf zK ?_)))
  exact aY _ rfl kC ⟨by simp [eS.pR];rfl,by simp [eS.ED,hp]⟩
 | false =>
  by_cases hl:li<b.length+m.length
  ·(repeat' first|refine Zb ?_|apply Zc|apply Zd|apply Ze|apply Zf|refine Yz ?_|apply YE|apply YF|(refine bz (id:=3) [] mixed ?_;all_goals (refine tM 0 ?_);all_goals (refine tM 1 ?_);all_goals (first|refine dt 2 _ rfl (bu rfl) ?_|refine bc 2 rfl rfl zK aX rfl ?_);all_goals (first|refine dt 3 _ rfl (bM rfl) ?_|refine bc 3 rfl rfl zK aX rfl ?_);all_goals (first|refine dt 4 _ rfl (bu rfl) ?_|refine bc 4 rfl rfl zK aX rfl ?_);all_goals (first|refine dt 5 _ rfl (bn rfl) ?_|refine bc 5 rfl rfl zK aX rfl ?_);all_goals (first|refine dt 6 _ rfl (ba rfl) ?_|refine bc 6 rfl rfl zK aX rfl ?_);all_goals (first|refine dt 7 _ rfl (bp rfl zR) ?_|refine bc 7 rfl rfl zK aX rfl ?_);all_goals (first|refine dt 8 _ rfl (bu rfl) ?_|refine bc 8 rfl rfl zK aX rfl ?_);all_goals (first|refine dt 9 _ rfl (bn rfl) ?_|refine bc 9 rfl rfl zK aX rfl ?_);all_goals (first|refine dt 10 _ rfl (ba rfl) ?_|refine bc 10 rfl rfl zK aX rfl ?_);all_goals (first|refine dt 11 _ rfl (bp rfl zR) ?_|refine bc 11 rfl rfl zK aX rfl ?_);all_goals (first|refine dt 12 _ rfl (bM rfl) ?_|refine bc 12 rfl rfl zK aX rfl ?_);all_goals (first|refine dt 13 _ rfl (cD.jz rfl rfl zo) ?_|refine bc 13 rfl rfl zK aX rfl ?_);all_goals (first|refine dt 14 (.bool true) rfl (cD.iQ (cD.gtr rfl rfl) zy) ?_|refine dt 14 (.bool false) rfl (cD.no (cD.gtr rfl rfl) zn) ?_|refine bc 14 rfl rfl zK aX rfl ?_);all_goals (first|refine tk 15 _ rfl (bK rfl rfl) ?_|refine tk 15 _ rfl (bI rfl rfl) ?_);all_goals (refine bf zK ?_)))
   exact aY _ rfl kC ⟨by simp [eS.pR,hl];rfl,by simp [eS.ED,hp,hl]⟩
  ·(repeat' first|refine Za ?_|refine Zb ?_|apply Zc|apply Zd|apply Ze|apply Zf|refine Zg ?_|refine Zh ?_|refine Zi ?_|refine YA ?_|apply YC|(refine bz (id:=3) [] mixed ?_;all_goals (refine tM 0 ?_);all_goals (refine tM 1 ?_);all_goals (first|refine dt 2 _ rfl (bu rfl) ?_|refine bc 2 rfl rfl zK aX rfl ?_);all_goals (first|refine dt 3 _ rfl (bM rfl) ?_|refine bc 3 rfl rfl zK aX rfl ?_);all_goals (first|refine dt 4 _ rfl (bu rfl) ?_|refine bc 4 rfl rfl zK aX rfl ?_);all_goals (first|refine dt 5 _ rfl (bn rfl) ?_|refine bc 5 rfl rfl zK aX rfl ?_);all_goals (first|refine dt 6 _ rfl (ba rfl) ?_|refine bc 6 rfl rfl zK aX rfl ?_);all_goals (first|refine dt 7 _ rfl (bp rfl zR) ?_|refine bc 7 rfl rfl zK aX rfl ?_);all_goals (first|refine dt 8 _ rfl (bu rfl) ?_|refine bc 8 rfl rfl zK aX rfl ?_);all_goals (first|refine dt 9 _ rfl (bn rfl) ?_|refine bc 9 rfl rfl zK aX rfl ?_);all_goals (first|refine dt 10 _ rfl (ba rfl) ?_|refine bc 10 rfl rfl zK aX rfl ?_);all_goals (first|refine dt 11 _ rfl (bp rfl zR) ?_|refine bc 11 rfl rfl zK aX rfl ?_);all_goals (first|refine dt 12 _ rfl (bM rfl) ?_|refine bc 12 rfl rfl zK aX rfl ?_);all_goals (first|refine dt 13 _ rfl (cD.jz rfl rfl zo) ?_|refine bc 13 rfl rfl zK aX rfl ?_);all_goals (first|refine dt 14 (.bool true) rfl (cD.iQ (cD.gtr rfl rfl) zy) ?_|refine dt 14 (.bool false) rfl (cD.no (cD.gtr rfl rfl) zn) ?_|refine bc 14 rfl rfl zK aX rfl ?_);all_goals (first|refine tk 15 _ rfl (bK rfl rfl) ?_|refine tk 15 _ rfl (bI rfl rfl) ?_);all_goals (refine bf zK ?_)))
   refine bC (bo rfl rfl rfl (.succ .zero) (cE.tail hv) rfl rfl mG zm zo fun lM c' lU=>?_)
   cases dn with
   | true =>
    refine wB ?_;refine aY _ rfl ?_ ⟨by simp [eS.pR,hl,hp];rfl,by simp [eS.ED,hp,hl];rfl⟩;rw [← ah,← aa];exact cj (bw (.succ .zero) aX) (kB (s:=⟨b++m,sy,li,ar,true⟩))
   | false =>
    refine wB ?_;refine aY _ rfl ?_ ⟨by simp [eS.pR,hl,hp];rfl,by simp [eS.ED,hp,hl];rfl⟩;rw [← ah,← aa];exact cj (bw (.succ .zero) aX) (kB (s:=⟨b++m,sy,li,ar,false⟩))
theorem eS.Bp {b m:List UInt8} {sy li:Nat} (h:b.length+m.length≤li):eS.ED ⟨b,sy,li,0,false⟩ m=⟨b++m,sy,li,0,false⟩∧eS.pR ⟨b,sy,li,0,false⟩ m=0:=by
 have h1:¬ li<b.length+m.length:=by omega
 simp [eS.ED,eS.pR,eS.pow,h1]
theorem eS.Sb {s:eS} (h:s.ok) (m:List UInt8):(s.ED m).ok:=by
 have h1:=eS.CA h;have h2:=eS.IM s;unfold eS.ED
 split
 ·exact h1
 ·rename_i h3;obtain ⟨a,b,c,d⟩:=h1;refine ⟨?_,b,?_,d⟩
  ·simp only [aa];have:=h.2.1
   simp at h3;omega
  ·simp only [aa];rw [h2.1] at c;omega
def eS.O8 (s:eS):eS:=if s.pow.down then s.pow else { s.pow with gR:=s.b.length }
def eS.CC (s:eS):Int:=if s.pow.down then 13 else 0
theorem Ha (g:Nat) (s:eS) (h:s.ok) :
 Ct prog 228 #[pt g] e (de g s::R) (fun v' L'=>v'=.int .i64 s.CC∧L'=de g s.O8::R):=by
 have j1:=eS.CA h;have hb:=eS.IM s;refine a8 (args:=[_]) func228 rfl ntmps228 results228 rfl ?_;refine wB ?_;refine aZ rfl rfl (qu R e g s h) ?_;rintro _ _ ⟨rfl,rfl⟩;refine vE fun ad c=>?_
 have e1:s.O8=if s.pow.down then s.pow else { s.pow with gR:=s.b.length }:=rfl
 have e2:s.CC=if s.pow.down then 13 else 0:=rfl
 generalize hp:s.pow=p at *
 obtain ⟨b,sy,li,ar,dn⟩:=p;obtain ⟨h1,h2,h3,h4⟩:=j1;dsimp only at h1 h2 h3 h4 hb e1 e2 ⊢
 obtain ⟨EA,_,_⟩:=hb
 cases dn with
 | true =>
  rw [e1,e2];refine wB ?_;exact aY _ rfl kC ⟨rfl,rfl⟩
 | false =>
  rw [e1,e2];refine wB ?_;refine aY _ rfl kC ⟨rfl,?_⟩;rw [← EA]
  rfl
def eS.cut (s:eS) (n:Int):eS:=if s.down∨n<0∨(s.b.length:Int)<n then s else if s.pow.down then s.pow else { s.pow with b:=s.b.take n.toNat,gR:=n.toNat }
def eS.xg (s:eS) (n:Int):Int:=if s.down then 13 else if n<0∨(s.b.length:Int)<n then 1 else if s.pow.down then 13 else 0
theorem Bq (g:Nat) (s:eS) (n:Int) (h:s.ok) :
 Ct prog 142 #[pt g,.int .i64 n] e (de g s::R) (fun v' L'=>v'=.int .i64 (s.xg n)∧L'=de g (s.cut n)::R):=by
 have j1:=eS.CA h;have hb:=eS.IM s;refine qt fun ad c=>?_
 refine a8 (args:=[_,_]) func142 rfl ntmps142 results142 rfl ?_;obtain ⟨b,sy,li,ar,dn⟩:=s;dsimp only at hb ⊢
 cases dn with
 | true =>
  refine wB ?_;exact aY _ rfl kC ⟨rfl,by simp [eS.cut]⟩
 | false =>
  by_cases h0:n<0
  ·refine wB ?_;exact aY _ rfl kC ⟨by simp [eS.xg,h0];rfl,by simp [eS.cut,h0]⟩
  ·by_cases hn:(b.length:Int)<n
   ·refine wB ?_;exact aY _ rfl kC ⟨by simp [eS.xg,hn];rfl,by simp [eS.cut,hn]⟩
   ·refine wB ?_;refine O.fo kC ?_;refine aZ rfl rfl (qu R e g ⟨b,sy,li,ar,false⟩ h) ?_;rintro _ _ ⟨rfl,rfl⟩;refine vE fun ad c=>?_
    refine bm (tz (.succ .zero)) ?_;rintro ⟨_,_,hv,g1,g2⟩
    cases hv
    have e1:eS.cut ⟨b,sy,li,ar,false⟩ n=if (eS.pow ⟨b,sy,li,ar,false⟩).down then eS.pow ⟨b,sy,li,ar,false⟩ else { eS.pow ⟨b,sy,li,ar,false⟩ with b:=b.take n.toNat,gR:=n.toNat }:=by simp [eS.cut,h0,hn]
    have e2:eS.xg ⟨b,sy,li,ar,false⟩ n=if (eS.pow ⟨b,sy,li,ar,false⟩).down then 13 else 0:=by simp [eS.xg,h0,hn]
    rw [e1,e2];clear e1 e2
    generalize eS.pow ⟨b,sy,li,ar,false⟩=p at *
    obtain ⟨b1,sy1,li1,ar1,dn1⟩:=p;obtain ⟨h1,h2,h3,h4⟩:=j1;dsimp only at h1 h2 h3 h4 hb g1 ⊢
    obtain ⟨rfl,rfl,rfl⟩:=hb;have F9:n.toNat≤b1.length:=by omega
    have Xq:n=(n.toNat:Int):=by omega
    cases dn1 with
    | true =>
     refine wB ?_;exact aY _ rfl kC ⟨rfl,rfl⟩
    | false =>
     refine wB ?_;refine aY _ rfl (cj ?_ (kB (ad:=ad) (c:=c) (s:=⟨b1.take n.toNat,n.toNat,li1,ar1,false⟩))) ⟨rfl,rfl⟩;have e3:(b1.take n.toNat).length=n.toNat:=by rw [aF];omega
     have e4:=D2 (R:=R) (ad:=ad) (c:=c) F9;dsimp only;rw [e3] at e4 ⊢
     rw [← Xq];exact bh e4
def eS.kept (s:eS) (fe:Int):Nat:=(min (max fe 0) ((s.b.length:Int) - s.gR)).toNat
def eS.j9 (s:eS) (fe:Int):eS:=⟨s.b.take (s.gR+s.kept fe),s.gR+s.kept fe,s.rO,0,false⟩
theorem EE (g:Nat) (s:eS) (n:Int) (h:s.ok) :
 Ct prog 183 #[pt g,.int .i64 n] e (de g s::R) (fun v' L'=>v'=.tuple #[]∧L'=de g (s.j9 n)::R):=by
 obtain ⟨h1,h2,h3,h4⟩:=h;refine qt fun ad c=>?_
 refine a7 (tz (.succ .zero)) ?_;rintro ⟨_,_,hv,g1,g2⟩
 cases hv
 refine a8 (args:=[_,_]) func183 rfl ntmps183 results183 rfl ?_
 have hk:(s.kept n:Int)=(if (s.b.length:Int) - s.gR<(if 0 > n then 0 else n) then (s.b.length:Int) - s.gR else (if 0 > n then 0 else n)):=by
  unfold eS.kept
  omega
 have xP:s.gR+s.kept n≤s.b.length:=by unfold eS.kept;omega
 (repeat' first|refine Za ?_|apply Zc|apply Zd|apply Ze|apply Zf|refine Zg ?_|refine Zh ?_|refine Zi ?_|refine Zk ?_|refine Yd ?_|(refine bz (id:=0) [13] mixed ?_;all_goals (refine tM 0 ?_);all_goals (refine tk 1 _ rfl (cD.max rfl rfl) ?_);all_goals (refine tM 2 ?_);all_goals (refine tN 3 ?_);all_goals (refine tF 4 ?_);all_goals (refine tL 5 ?_);all_goals (refine tk 6 _ rfl (bM rfl) ?_);all_goals (refine tM 7 ?_);all_goals (refine tN 8 ?_);all_goals (refine tF 9 ?_);all_goals (refine tL 10 ?_);all_goals (refine tk 11 _ rfl (cD.jz rfl rfl zo) ?_);all_goals (refine tk 12 _ rfl (cD.min rfl rfl) ?_);all_goals ((refine tO 13 ?_;refine dV (bj rfl) ?_));all_goals (refine bf zK ?_))|(refine bz (id:=1) [12,13,14] mixed ?_;all_goals (refine tM 0 ?_);all_goals (refine tM 1 ?_);all_goals (refine tN 2 ?_);all_goals (refine tF 3 ?_);all_goals (refine tL 4 ?_);all_goals (refine tM 5 ?_);all_goals (refine tN 6 ?_);all_goals (refine tF 7 ?_);all_goals (refine tL 8 ?_);all_goals (refine tM 9 ?_);all_goals (refine tk 10 _ rfl (cD.kQ rfl rfl zo) ?_);all_goals (refine tk 11 _ rfl (cD.iV rfl rfl zo zo) ?_);all_goals ((refine tO 12 ?_;refine dV (bn rfl) ?_));all_goals ((refine tO 13 ?_;refine dV (ba rfl) ?_));all_goals ((refine tO 14 ?_;refine tf ?_;refine ⟨zN,?_⟩));all_goals (refine bf zK ?_)))
 rw [← hk];have e1:((s.gR:Int)+(s.kept n:Int)).toNat=s.gR+s.kept n:=by omega
 rw [e1];refine bT _ rfl (cj ?_ (kB (ad:=ad) (c:=c) (s:=s.j9 n))) ⟨rfl,rfl⟩;have e3:(s.b.take (s.gR+s.kept n)).length=s.gR+s.kept n:=by rw [aF];omega
 have e4:=D2 (R:=R) (ad:=ad) (c:=c) xP;simp only [eS.j9];rw [e3] at e4 ⊢
 exact bh e4
theorem EF (g:Nat) (s:eS) (h:s.ok) :
 Ct prog 139 #[pt g] e (de g s::R) (fun v' L'=>∃ ad c,v'=.slice ad s.b.length c∧L'=cS (.slice ad s.b.length c) s.b::de g s::R):=by
 have:=h.1;refine qt fun ad c=>?_
 refine a8 (args:=[_]) func139 rfl ntmps139 results139 rfl ?_;refine wB ?_;refine aZ rfl rfl (dw _ e _ s.b (bb (.succ .zero)) zo) ?_;rintro _ _ ⟨lM,c',rfl,rfl⟩;refine wB ?_;exact aY _ rfl (bh kB) ⟨_,_,rfl,rfl⟩
end Go.Proofs
namespace Go.Proofs
open Go.Bs
def CD (n:Nat):Nat:=4294967295 - n
theorem MG {n:Nat} (h:n<4294967296):Go.bits .xor .u32 IntKind.u32.max (n:Int)=(CD n:Int):=by
 unfold Go.bits CD;simp only [IntKind.bits]
 have e1:(BitVec.ofInt 32 IntKind.u32.max ^^^ BitVec.ofInt 32 (n:Int)).toNat=4294967295 - n:=by
  have h2:BitVec.ofInt 32 IntKind.u32.max=BitVec.allOnes 32:=by decide
  rw [h2,BitVec.allOnes_xor,BitVec.toNat_not,BitVec.ofInt_natCast,BitVec.toNat_ofNat,Nat.mod_eq_of_lt (show n<2 ^ 32 by omega)]
 exact (congrArg (fun z:Nat=>IntKind.u32.wrap (z:Int)) e1).trans (wrap_u32 zo zo)
theorem cD.QQ {P:Program} {N:Fr} {σ:Env} {e:World} {L:List cJ} {t ty:TypeId} {x:Operand} {n:Nat} (hx:ev σ x=some (.int .u32 (n:Int))) (hn:n<4294967296):cD P N (.unOp .xor t x) ty (.int .u32 (CD n:Int)) σ e L:=fun a w ha _ _ _ _ _=>by
 rw [← MG hn]
 simp [execOp,ha.ev hx,Op.unary,Op.intBits,Go.bits,IntKind.signed]
theorem Ct.to {P:Program} {f:FuncId} {args:Array Value} {e:World} {L X Y:List cJ} {a:Value} (h:Ct P f args e L (fun v' L'=>v'=a∧L'=Y)) (g:cz Y X):Ct P f args e L (fun v' L'=>v'=a∧L'=X) :=
 fun w hs=>(h w hs).mono fun x w' ⟨v,L',h1,h2,h4⟩=>⟨v,X,h1,⟨h2.1,rfl⟩,(h2.2 ▸ h4).cL g⟩
end Go.Proofs
namespace Go.Proofs
attribute [local irreducible] Bs.cD Bs.Do Bs.O Bs.W Bs.Fin Bs.A Bs.Ct Bs.cE Bs.Rd Bs.Sat Bs.cK Bs.Ob Bs.dE Bs.View Bs.cz Bs.Ex Bs.dI Bs.Pu Bs.eY Bs.dN Bs.dZ
open Go.Bs
open Tryz
variable (R:List cJ) (e:World)
theorem Hb (n:Nat):CD n<4294967296:=by unfold CD;omega
def fB (m:List UInt8):List UInt8:=be m.length 4++be (CD m.length) 4++m
theorem gI (m:List UInt8):(fB m).length=m.length+8:=by simp [fB,cX];omega
abbrev jd (gj gd k:Nat):cJ:=cK gj [pt gd,.int .i64 (k:Int)] 233 (0,0)
theorem EG (g:Nat) (s:eX) :
 Ct prog 141 #[pt g] e (Reader g s::R) (fun v' L'=>v'=.tuple #[.int .i64 (s.num 4:Int),.bool (decide (s.num 4=CD ((s.next 4).num 4)∧s.num 4≤65535))]∧L'=Reader g ((s.next 4).next 4)::R):=by
 have h1:s.num 4<4294967296:=tu _;have h2:(s.next 4).num 4<4294967296:=tu _;have h3:=Hb ((s.next 4).num 4);refine a8 (args:=[_]) func141 rfl ntmps141 results141 rfl ?_;refine wB ?_;refine aZ rfl rfl (qT R e g s) ?_;rintro _ _ ⟨rfl,rfl⟩
 (repeat (refine wA ?_;intros))
 refine aZ rfl rfl (qT R e g _) ?_;rintro _ _ ⟨rfl,rfl⟩
 generalize s.num 4=n at *
 generalize (s.next 4).num 4=m at *
 refine wB ?_;refine bx _ (cD.QQ rfl h2) rfl ?_
 by_cases g1:n=CD m
 ·by_cases g2:n≤65535
  ·refine wB ?_;exact aY _ rfl aX ⟨by rw [ay ⟨g1,g2⟩];rfl,rfl⟩
  ·refine wB ?_;exact aY _ rfl aX ⟨by rw [aq (fun h=>g2 h.2)];rfl,rfl⟩
 ·refine wB ?_;exact aY _ rfl aX ⟨by rw [aq (fun h=>g1 h.1)];rfl,rfl⟩
theorem MH (gj gd k:Nat) (s:eS) (m:List UInt8) (v:Value) (hs:s.ok) (hv:db R v m) (hm:m.length≤65535) (hk:k≤1000000000000) :
 Ct prog 152 #[pt gj,v] e (jd gj gd k::de gd s::R) (fun v' L'=>v'=.int .i64 (s.pR (fB m))∧L'=jd gj gd (if s.pR (fB m)=0 then k+1 else k)::de gd (s.ED (fB m))::R):=by
 refine a7 (hv.tail.tail.shape zo) ?_;rintro ⟨⟨ad,cap,rfl,h3,h4,h5,h6⟩,_⟩;have h1:=Hb m.length;refine a8 (args:=[_,_]) func152 rfl ntmps152 results152 rfl ?_;refine wB ?_;refine aZ rfl rfl (jh _ e) ?_;rintro _ _ ⟨gw,rfl,rfl⟩;refine wB ?_;refine aZ rfl rfl (gD _ e gw [] m.length zo (by simp)) ?_;rintro _ _ ⟨rfl,rfl⟩;refine wB ?_;refine bx _ (cD.QQ rfl zo) rfl ?_
 (repeat' first|refine Za ?_|refine Zb ?_|apply Zc|apply Zd|apply Ze|apply Zf|refine Zg ?_|refine Zh ?_|refine Zi ?_|refine Zj ?_|refine Zk ?_|refine Zq ?_|refine Zs ?_|refine Zt ?_|refine ZG ?_|refine ZH ?_|refine ZI (fun _=>?_) fun _=>?_|refine ZM ?_|refine ZN ?_|refine ZO (fun _=>?_) fun _=>?_|refine ZS ?_|refine ZY ?_|refine ZZ ?_|refine Z6 ?_|refine Z7 ?_|refine Z8 ?_|refine Yd ?_|refine Yf ?_|refine Ym ?_|refine Yz ?_|refine YA ?_|apply YC|apply YE|apply YF|refine YQ ?_|refine YR ?_|(apply O.df;exact rfl;exact zP;(first|(simp only [aC,Nat.add_zero,Nat.reduceAdd,List.drop_succ_cons,List.drop_zero,List.take_succ_cons,List.take_zero];done)|(simp only [aC,Nat.add_zero,Nat.reduceAdd,List.drop_succ_cons,List.drop_zero,List.take_succ_cons,List.take_zero];exact rfl));exact rfl;exact rfl))
 refine aZ rfl rfl (gD _ e gw _ (CD m.length) h1 (by simp [cX])) ?_;rintro _ _ ⟨rfl,rfl⟩;refine wB ?_;refine aZ rfl rfl (hI _ e gw _ m _ hv.tail.tail (by simp [cX];omega)) ?_;rintro _ _ ⟨rfl,rfl⟩;have Hc:[]++be m.length 4++be (CD m.length) 4++m=fB m:=by simp [fB]
 rw [Hc];have My:=gI m
 generalize fB m=b at *
 refine wB ?_;refine bk (id:=8) [7] [jd gj gd k] mixed ?_
 (refine tM 0 ?_;refine tN 1 ?_;refine tF 2 ?_;refine tL 3 ?_;refine tM 4 ?_)
 refine tO 5 ?_;refine bg rfl rfl (hJ _ e gw b zo) ?_;rintro _ _ ⟨dW,c2,rfl,rfl⟩;refine ⟨fun _=>zE,?_⟩;refine tO 6 ?_;refine bg rfl rfl (Ct.at (.succ (.succ (.succ .zero))) (CB _ e gd s b _ hs (bb .zero) zo)) ?_;rintro _ _ ⟨rfl,rfl⟩;refine ⟨fun _=>zE,?_⟩;refine tO 7 ?_;refine dV (bj rfl) ?_;refine bf zK ?_
 by_cases h0:s.pR b=0
 ·rw [aI h0];refine wB ?_;exact aY _ rfl zE ⟨rfl,rfl⟩
 ·rw [aB h0];refine wB ?_;exact aY _ rfl zE ⟨rfl,rfl⟩
theorem Hd (gj gd k:Nat) (s:eS) (hs:s.ok) :
 Ct prog 153 #[pt gj] e (jd gj gd k::de gd s::R) (fun v' L'=>v'=.int .i64 s.CC∧L'=jd gj gd k::de gd s.O8::R):=by
 refine a8 (args:=[_]) func153 rfl ntmps153 results153 rfl ?_;refine wB ?_;refine aZ rfl rfl (Ct.at (.succ .zero) (Ha _ e gd s hs)) ?_;rintro _ _ ⟨rfl,rfl⟩;refine wB ?_;exact aY _ rfl zE ⟨rfl,rfl⟩
def EH (s:eS) (m:List UInt8):Int:=if s.pR (fB m)=0 then (s.ED (fB m)).CC else s.pR (fB m)
def Kh (s:eS) (m:List UInt8):eS:=if s.pR (fB m)=0 then (s.ED (fB m)).O8 else s.ED (fB m)
def EI (s:eS) (m:List UInt8) (k:Nat):Nat:=if s.pR (fB m)=0 then k+1 else k
abbrev He (gj:Nat):Value:=.func (.func 152) #[pt gj] #[]
theorem Ki (gj:Nat) (ad:Option Addr) (n c:Nat) :
 Ct prog 151 #[He gj,.slice ad n c] e R (fun v' L'=>∃ b1 b2 T1 T2,v'=.func (.func 226) #[] #[pt b1,pt b2]∧L'=cK b1 [He gj] T1 (0,0)::cK b2 [.slice ad n c] T2 (0,0)::R):=by
 refine a8 (args:=[_,_]) func151 rfl ntmps151 results151 rfl ?_
 (repeat (refine wA ?_;intros))
 rename_i b1 b2;exact aY _ rfl (show cz _ (cK b1 [He gj] _ (0,0)::cK b2 [.slice ad n c] _ (0,0)::R) from zE) ⟨b1,b2,_,_,rfl,rfl⟩
theorem MI (gj gd k b1 b2 T1 T2:Nat) (s:eS) (m:List UInt8) (ad:Option Addr) (n c:Nat) (hs:s.ok) (hv:db R (.slice ad n c) m) (hm:m.length≤65535) (hk:k≤1000000000000) :
 Ct prog 226 #[pt b1,pt b2] e (jd gj gd k::de gd s::cK b1 [He gj] T1 (0,0)::cK b2 [.slice ad n c] T2 (0,0)::R) (fun v' L'=>v'=.int .i64 (s.pR (fB m))∧L'=jd gj gd (EI s m k)::de gd (s.ED (fB m))::cK b1 [He gj] T1 (0,0)::cK b2 [.slice ad n c] T2 (0,0)::R):=by
 refine a8 (args:=[_,_]) func226 rfl ntmps226 results226 rfl ?_;refine wB ?_;refine O.gB (us:=[_]) (ws:=[]) rfl rfl rfl (MH _ e gj gd k s m _ hs hv.tail.tail hm hk) ?_;rintro _ _ ⟨rfl,rfl⟩;refine wB ?_;exact aY _ rfl aX ⟨rfl,rfl⟩
abbrev Al (b1 b2:Nat):Value:=.func (.func 226) #[] #[pt b1,pt b2]
abbrev Am (gj:Nat):Value:=.func (.func 153) #[pt gj] #[]
theorem Hf (gj gd k k2 gs b1 b2 T:Nat) (s s2:eS) (e1:Int) (m4:s2.ok)
 (h1:Ct prog 226 #[pt b1,pt b2] e (jd gj gd k::de gd s::cK gs [Al b1 b2,Am gj] T (0,0)::R) (fun v' L'=>v'=.int .i64 e1∧L'=jd gj gd k2::de gd s2::cK gs [Al b1 b2,Am gj] T (0,0)::R)) :
 Ct prog 150 #[.slice (some ⟨gs,0,none⟩) 2 2] e (jd gj gd k::de gd s::cK gs [Al b1 b2,Am gj] T (0,0)::R) (fun v' L'=>v'=.int .i64 (if e1=0 then s2.CC else e1)∧L'=jd gj gd k2::de gd (if e1=0 then s2.O8 else s2)::R):=by
 refine a8 (args:=[_]) func150 rfl ntmps150 results150 rfl ?_;refine wB ?_;refine bq (ι:=Nat) (fun i=>[(6,.slice (some ⟨gs,0,none⟩) 2 2),(7,.int .i64 2),(8,.int .i64 (i:Int))]) (fun i=>if i=0 then jd gj gd k::de gd s::cK gs [Al b1 b2,Am gj] T (0,0)::R else if i=1 then jd gj gd k2::de gd s2::cK gs [Al b1 b2,Am gj] T (0,0)::R else jd gj gd k2::de gd s2.O8::R) (fun i=>i≤2∧(0<i→e1=0)∧(1<i→s2.CC=0)) (fun i=>2 - i) 0 ⟨by omega,by omega,by omega⟩ (cC rfl (cC rfl (cC rfl dd))) (by rw [aI rfl];exact aX) ?_;rintro i ⟨hi,VG,Om⟩;rcases (show i=0∨i=1∨i=2 by omega) with rfl|rfl|rfl
 ·rw [aI rfl];have hr:Rd (jd gj gd k::de gd s::cK gs [Al b1 b2,Am gj] T (0,0)::R) ⟨gs,0+0,none⟩ (Al b1 b2):=(bP .zero rfl).tail.tail;refine wB ?_;refine O.gB (us:=[]) (ws:=[_,_]) rfl rfl rfl h1 ?_;rintro _ _ ⟨rfl,rfl⟩
  by_cases h0:e1=0
  ·refine wB ?_;exact bi 1 ⟨by omega,fun _=>h0,by omega⟩ zo (cC rfl (cC rfl (cC rfl dd))) (by rw [aB (show ¬ (1:Nat)=0 by omega),aI (show (1:Nat)=1 from rfl)];exact zE)
  ·rw [aB h0,aB h0];refine wB ?_;exact aY _ rfl zE ⟨rfl,rfl⟩
 ·rw [aB (show ¬ (1:Nat)=0 by omega),aI (show (1:Nat)=1 from rfl)];have h0:=VG zo;have hr:Rd (jd gj gd k2::de gd s2::cK gs [Al b1 b2,Am gj] T (0,0)::R) ⟨gs,0+1,none⟩ (Am gj):=(bP .zero rfl).tail.tail;refine wB ?_;refine O.gB (us:=[_]) (ws:=[]) rfl rfl rfl (Hd _ e gj gd k2 s2 m4) ?_;rintro _ _ ⟨rfl,rfl⟩
  by_cases h3:s2.CC=0
  ·refine wB ?_;exact bi 2 ⟨by omega,fun _=>h0,fun _=>h3⟩ zo (cC rfl (cC rfl (cC rfl dd))) (by rw [aB (show ¬ (2:Nat)=0 by omega),aB (show ¬ (2:Nat)=1 by omega)];exact zE)
  ·rw [aI h0,aI h0];refine wB ?_;exact aY _ rfl zE ⟨rfl,rfl⟩
 ·rw [aB (show ¬ (2:Nat)=0 by omega),aB (show ¬ (2:Nat)=1 by omega),aI (VG zo),aI (VG zo),Om zo];refine wB ?_;exact aY _ rfl zE ⟨rfl,rfl⟩
theorem nZ (gj gd k:Nat) (s:eS) (m:List UInt8) (v:Value) (hs:s.ok) (hv:db R v m) (hm:m.length≤65535) (hk:k≤1000000000000) :
 Ct prog 76 #[pt gj,v] e (jd gj gd k::de gd s::R) (fun v' L'=>v'=.int .i64 (EH s m)∧L'=jd gj gd (EI s m k)::de gd (Kh s m)::R):=by
 refine a7 (hv.tail.tail.shape zo) ?_;rintro ⟨⟨ad,cap,rfl,h3,h4,h5,h6⟩,_⟩;refine a8 (args:=[_,_]) func76 rfl ntmps76 results76 rfl ?_;refine wB ?_;refine aZ rfl rfl (Ki _ e gj ad m.length cap) ?_;rintro _ _ ⟨b1,b2,T1,T2,rfl,rfl⟩
 (repeat (refine wA ?_;intros))
 rename_i gs;refine O.fo (show cz _ (jd gj gd k::de gd s::cK gs [Al b1 b2,Am gj] _ (0,0)::cK b1 [He gj] T1 (0,0)::cK b2 [.slice ad m.length cap] T2 (0,0)::R) from zE) ?_;refine aZ rfl rfl (Hf (cK b1 [He gj] T1 (0,0)::cK b2 [.slice ad m.length cap] T2 (0,0)::R) e gj gd k (EI s m k) gs b1 b2 _ s (s.ED (fB m)) (s.pR (fB m)) (eS.Sb hs _) ?_) ?_
 ·exact Ct.to (Ct.cL (MI (cK gs [Al b1 b2,Am gj] _ (0,0)::R) e gj gd k b1 b2 T1 T2 s m ad m.length cap hs hv.tail hm hk) zE) zE
 rintro _ _ ⟨rfl,rfl⟩;refine wB ?_;exact aY _ rfl zE ⟨rfl,rfl⟩
end Go.Proofs
namespace Go.Proofs
open Go.Bs
def mD (b:List UInt8):Nat:=numOf (b.take 4)
def Kj (b:List UInt8):Nat:=numOf ((b.drop 4).take 4)
def oY (b:List UInt8):Prop:=mD b=CD (Kj b)∧mD b≤65535
instance (b:List UInt8):Decidable (oY b):=inferInstanceAs (Decidable (_∧_))
def dA (b:List UInt8):List (List UInt8) × Nat × Bool :=
 if h:b.length<8 then ([],0,true)
 else if oY b then
  (if b.length - 8<mD b then ([],0,true)
  else ((b.drop 8).take (mD b)::(dA (b.drop (8+mD b))).1,8+mD b+(dA (b.drop (8+mD b))).2.1,(dA (b.drop (8+mD b))).2.2))
 else ([],0,false)
 termination_by b.length
 decreasing_by all_goals (rw [aO];omega)
theorem ni {b:List UInt8} (h:b.length<8):dA b=([],0,true):=by rw [dA,dif_pos h]
theorem Br {b:List UInt8} (h:¬ b.length<8) (h2:¬ oY b):dA b=([],0,false):=by rw [dA,dif_neg h,aB h2]
theorem yC {b:List UInt8} (h:¬ b.length<8) (h2:oY b) (h3:b.length - 8<mD b):dA b=([],0,true):=by rw [dA,dif_neg h,aI h2,aI h3]
theorem sr {b:List UInt8} (h:¬ b.length<8) (h2:oY b) (h3:¬ b.length - 8<mD b):dA b=((b.drop 8).take (mD b)::(dA (b.drop (8+mD b))).1,8+mD b+(dA (b.drop (8+mD b))).2.1,(dA (b.drop (8+mD b))).2.2):=by
 rw [dA,dif_neg h,aI h2,aB h3]
theorem aaA {b:List UInt8} (h:¬ b.length<8):eX.num ⟨b,false⟩ 4=mD b∧eX.next ⟨b,false⟩ 4=⟨b.drop 4,false⟩∧eX.num ⟨b.drop 4,false⟩ 4=Kj b∧eX.next ⟨b.drop 4,false⟩ 4=⟨b.drop 8,false⟩:=by
 have f1:eX.fits ⟨b,false⟩ 4=true:=by simp [eX.fits];omega
 have f2:eX.fits ⟨b.drop 4,false⟩ 4=true:=by simp [eX.fits];omega
 refine ⟨?_,?_,?_,?_⟩
 ·unfold eX.num eX.take mD;rw [aI f1];rfl
 ·unfold eX.next;rw [aI f1];rfl
 ·unfold eX.num eX.take Kj;rw [aI f2];rfl
 ·unfold eX.next;rw [aI f2,List.drop_drop];rfl
theorem aaB {b:List UInt8} {n:Nat} (h:n≤b.length):eX.take ⟨b,false⟩ (n:Int)=b.take n∧eX.next ⟨b,false⟩ (n:Int)=⟨b.drop n,false⟩:=by
 have f1:eX.fits ⟨b,false⟩ (n:Int)=true:=by simp [eX.fits];omega
 refine ⟨?_,?_⟩
 ·unfold eX.take;rw [aI f1];rfl
 ·unfold eX.next;rw [aI f1];rfl
def yD (b:List UInt8) (k:Nat) (out:List (List UInt8)):Prop:=k≤b.length∧out.length≤k∧dA b=(out++(dA (b.drop k)).1,k+(dA (b.drop k)).2.1,(dA (b.drop k)).2.2)
theorem CE (b:List UInt8):yD b 0 []:=⟨aH _,aS _,by simp⟩
theorem Hg {b:List UInt8} {k:Nat} {out:List (List UInt8)} {ok:Bool} (h:yD b k out) (h2:dA (b.drop k)=([],0,ok)):dA b=(out,k,ok):=by rw [h.2.2,h2];simp
theorem EJ {b:List UInt8} {k:Nat} {out:List (List UInt8)} (h:yD b k out) (h1:¬ (b.drop k).length<8) (h2:oY (b.drop k)) (h3:¬ (b.drop k).length - 8<mD (b.drop k)) :
 yD b (k+(8+mD (b.drop k))) (out++[((b.drop k).drop 8).take (mD (b.drop k))]):=by
 obtain ⟨a1,a2,a3⟩:=h;have hn:=sr h1 h2 h3;rw [aO] at h1 h3
 refine ⟨by omega,by simp;omega,?_⟩;rw [a3,hn,show b.drop (k+(8+mD (b.drop k)))=(b.drop k).drop (8+mD (b.drop k)) from List.drop_drop.symm];simp only [aM,List.singleton_append,Nat.add_assoc]
theorem MJ (b:List UInt8):(dA b).2.1≤b.length:=by
 generalize hn:b.length=n
 induction n using Nat.strongRecOn generalizing b with
 | _ n ih =>
  by_cases h:b.length<8
  ·rw [ni h];exact aH _
  ·by_cases h2:oY b
   ·by_cases h3:b.length - 8<mD b
    ·rw [yC h h2 h3];exact aH _
    ·rw [sr h h2 h3];have:=ih (b.drop (8+mD b)).length (by rw [aO];omega) (b.drop (8+mD b)) rfl;rw [aO] at this
     show 8+mD b+_≤n
     omega
   ·rw [Br h h2];exact aH _
def nA (l:List ej):cJ:=dI (l.map fun a=>cS a.1 a.2)
theorem MK {R:List cJ}:cz R (nA []::R):=dR (M:=[])
theorem EK {l m:List ej} {R:List cJ}:cz (nA l::nA m::R) (nA (l++m)::R):=by
 unfold nA;rw [ah];exact all_append
theorem Hh {l m:List ej} {R:List cJ}:cz (nA (l++m)::R) (nA l::nA m::R):=by
 unfold nA;rw [ah];exact A6
theorem ML {a:ej} {R:List cJ}:cz (cS a.1 a.2::R) (nA [a]::R):=dR (M:=[cS a.1 a.2])
theorem MM {a:ej} {R:List cJ}:cz (nA [a]::R) (cS a.1 a.2::R):=cT (M:=[cS a.1 a.2])
theorem yE:∀ {l:List ej} {R:List cJ},cz (nA l::R) (cH l::R)
 | [],R=>aX
 | a::l,R=>by
  have h1:cz (nA (a::l)::R) (nA [a]::nA l::R):=Hh (l:=[a]) (m:=l);have h2:cz (cH [a]::cH l::R) (cH (a::l)::R):=eL (l:=[a]) (m:=l);exact h1.trans (MM.trans (ju.trans ((bh yE).trans h2)))
end Go.Proofs
namespace Go.Proofs
attribute [local irreducible] Bs.cD Bs.Do Bs.O Bs.W Bs.Fin Bs.A Bs.Ct Bs.cE Bs.Rd Bs.Sat Bs.cK Bs.Ob Bs.dE Bs.View Bs.cz Bs.Ex Bs.dI Bs.Pu Bs.eY Bs.dN Bs.dZ
open Go.Bs
open Tryz
variable (R:List cJ) (e:World)
def ui (s:eS):eS:=if (dA s.b).2.1=s.b.length then s else s.cut ((dA s.b).2.1:Int)
def Bt (s:eS):Int:=if (dA s.b).2.1=s.b.length then 0 else s.xg ((dA s.b).2.1:Int)
def Sc (gd:Nat) (s:eS) (R:List cJ) (v':Value) (L':List cJ):Prop :=
 ((dA s.b).2.2=false∧v'=.tuple #[.pointer none,nY,.int .i64 14]∧L'=de gd s::R) ∨
 ((dA s.b).2.2=true∧Bt s≠0∧v'=.tuple #[.pointer none,nY,.int .i64 (Bt s)]∧L'=de gd (ui s)::R) ∨
 ((dA s.b).2.2=true∧Bt s=0∧∃ (gj:Nat) (ad:Option Addr) (c:Nat) (ts:List ej),v'=.tuple #[pt gj,.slice ad ts.length c,.int .i64 0]∧ts.map (·.2)=(dA s.b).1∧L'=jd gj gd ts.length::cV (.slice ad ts.length c) ts::cH ts::de gd (ui s)::R)
def O9 (gd:Nat) (s:eS) (R:List cJ) (v':Value) (L':List cJ):Prop :=
 ((dA s.b).2.2=false∧v'=.tuple #[.pointer none,nY,.int .i64 14]∧L'=de gd s::R) ∨
 ((dA s.b).2.2=true∧Bt s≠0∧v'=.tuple #[.pointer none,nY,.int .i64 (Bt s)]∧L'=de gd (ui s)::R) ∨
 ((dA s.b).2.2=true∧Bt s=0∧∃ (gj:Nat) (ad:Option Addr) (c:Nat) (ts:List ej),v'=.tuple #[pt gj,.slice ad ts.length c,.int .i64 0]∧ts.map (·.2)=(dA s.b).1∧L'=jd gj gd ts.length::cV (.slice ad ts.length c) ts::nA ts::de gd (ui s)::R)
theorem EL (gd:Nat) (s:eS) (hs:s.ok) :
 Ct prog 65 #[pt gd] e (de gd s::R) (O9 gd s R):=by
 have nK:=hs.1;refine a8 (args:=[_]) func65 rfl ntmps65 results65 rfl ?_;refine wB ?_;refine aZ rfl rfl (EF _ e gd s hs) ?_;rintro _ _ ⟨T7,cb,rfl,rfl⟩
 (repeat' first|refine Za ?_|refine Zb ?_|apply Zc|apply Zd|apply Ze|apply Zf|refine Zk ?_|refine Zq ?_|refine Zs ?_|refine Zt ?_|refine Zu ?_|refine Zy ?_|refine Zz ?_|refine ZA ?_|refine ZB ?_|refine ZC (fun _=>?_) fun _=>?_|refine ZG ?_|refine ZH ?_|refine ZI (fun _=>?_) fun _=>?_|refine ZM ?_|refine ZN ?_|refine ZO (fun _=>?_) fun _=>?_|refine ZP ?_|refine ZQ ?_|refine ZS ?_|refine Z7 ?_|refine Z8 ?_|refine Ya ?_|refine Yb ?_|refine Ye ?_|refine Yg fun _=>?_|refine Yi fun _=>?_|refine Ym ?_|refine Yz ?_|refine YA ?_|apply YB|apply YC|apply YD|apply YE|apply YF|apply YG|apply YH|apply YI|apply YJ|refine YK ?_|refine YN ?_|fail)
 refine aZ rfl rfl (jv _ e _ s.b (bb .zero) zo) ?_;rintro _ _ ⟨gr,rfl,rfl⟩;refine wB ?_;refine bq (ι:=Nat × List ej × Option Addr × Nat) (fun i=>[(0,pt gd),(6,pt gr),(7,.int .i64 (i.1:Int)),(5,.slice i.2.2.1 i.2.1.length i.2.2.2)]) (fun i=>cV (.slice i.2.2.1 i.2.1.length i.2.2.2) i.2.1::nA i.2.1::Reader gr ⟨s.b.drop i.1,false⟩::de gd s::R) (fun i=>yD s.b i.1 (i.2.1.map (·.2))) (fun i=>s.b.length - i.1) (0,[],none,0) (CE s.b) (cC rfl (cC rfl (cC rfl (cC rfl dd)))) ((dv ez 1).trans ((bh MK).trans zE)) ?_;rintro ⟨k,out,ad,c⟩ EM;dsimp only at EM ⊢
 have hk:=EM.1;have Er:=EM.2.1;rw [ae] at Er
 have My:(s.b.drop k).length=s.b.length - k:=aO;have nf:=EJ EM;have Hi:=fun ok=>Hg (ok:=ok) EM
 generalize Mz:s.b.drop k=b at *
 refine wB ?_;refine aZ rfl rfl (Ct.at zP (se _ e gr _)) ?_;rintro _ _ ⟨rfl,rfl⟩;dsimp only
 by_cases h0:b.length=0
 ·have he:=Hi true (ni zo);have oG:k=s.b.length:=by omega
  have hE:Bt s=0:=by unfold Bt;rw [he];exact aI oG
  have hS:ui s=s:=by unfold ui;rw [he];exact aI oG
  (repeat (refine wA ?_;intros))
  rename_i gj;refine aY (jd gj gd out.length::cV (.slice ad out.length c) out::nA out::de gd (ui s)::R) rfl (by rw [hS];exact zE) (.inr (.inr ⟨by rw [he],hE,gj,ad,c,out,rfl,by rw [he],rfl⟩))
 refine wB ?_;refine aZ rfl rfl (Ct.at zP (se _ e gr _)) ?_;rintro _ _ ⟨rfl,rfl⟩;dsimp only
 by_cases h8:b.length<8
 ·skip
  have he:=Hi true (ni h8);have oG:k≠s.b.length:=by omega
  have hE:Bt s=s.xg k:=by unfold Bt;rw [he];exact aB oG
  have hS:ui s=s.cut k:=by unfold ui;rw [he];exact aB oG
  refine wB ?_;refine aZ rfl rfl (Ct.at zP (Bq _ e gd s k hs)) ?_;rintro _ _ ⟨rfl,rfl⟩
  by_cases hz:s.xg k=0
  ·(repeat (refine wA ?_;intros))
   rename_i gj;refine aY (jd gj gd out.length::cV (.slice ad out.length c) out::nA out::de gd (ui s)::R) rfl (by rw [hS];exact zE) (.inr (.inr ⟨by rw [he],by rw [hE,hz],gj,ad,c,out,rfl,by rw [he],rfl⟩))
  ·refine wB ?_;exact aY (de gd (ui s)::R) rfl (by rw [hS];exact zE) (.inr (.inl ⟨by rw [he],by rw [hE];exact hz,by rw [hE];rfl,rfl⟩))
 obtain ⟨f1,f2,f3,f4⟩:=aaA h8;refine wB ?_;refine aZ rfl rfl (EG _ e gr ⟨b,false⟩) ?_;rw [f2,f3,f4,f1];rintro _ _ ⟨rfl,rfl⟩;have AX:mD b<4294967296:=tu _
 by_cases hg:oY b
 rotate_left
 ·have he:=Hi false (Br h8 hg);rw [aq (show ¬ (mD b=CD (Kj b)∧mD b≤65535) from hg)];refine wB ?_;exact aY (de gd s::R) rfl zE (.inl ⟨by rw [he],rfl,rfl⟩)
 rw [ay (show mD b=CD (Kj b)∧mD b≤65535 from hg)];have UL:=hg.2;refine wB ?_;refine aZ rfl rfl (se _ e gr _) ?_;rintro _ _ ⟨rfl,rfl⟩;dsimp only;have hl8:(b.drop 8).length=b.length - 8:=aO
 by_cases cO:(b.drop 8).length<mD b
 ·skip
  have he:=Hi true (yC h8 hg zo);have oG:k≠s.b.length:=by omega
  have hE:Bt s=s.xg k:=by unfold Bt;rw [he];exact aB oG
  have hS:ui s=s.cut k:=by unfold ui;rw [he];exact aB oG
  refine wB ?_;refine aZ rfl rfl (Ct.at zP (Bq _ e gd s k hs)) ?_;rintro _ _ ⟨rfl,rfl⟩
  by_cases hz:s.xg k=0
  ·(repeat (refine wA ?_;intros))
   rename_i gj;refine aY (jd gj gd out.length::cV (.slice ad out.length c) out::nA out::de gd (ui s)::R) rfl (by rw [hS];exact zE) (.inr (.inr ⟨by rw [he],by rw [hE,hz],gj,ad,c,out,rfl,by rw [he],rfl⟩))
  ·refine wB ?_;exact aY (de gd (ui s)::R) rfl (by rw [hS];exact zE) (.inr (.inl ⟨by rw [he],by rw [hE];exact hz,by rw [hE];rfl,rfl⟩))
 obtain ⟨g1,g2⟩:=aaB (b:=b.drop 8) (n:=mD b) zo;have eK:=nf h8 hg zo;have oH:((b.drop 8).take (mD b)).length=mD b:=by rw [aF];omega
 refine wB ?_;refine aZ rfl rfl (nS _ e gr ⟨b.drop 8,false⟩ (mD b) zd) ?_;rw [g1,g2,List.drop_drop];rintro _ _ ⟨eJ,c3,rfl,rfl⟩
 generalize (b.drop 8).take (mD b)=t at *
 (repeat (refine wA ?_;intros))
 refine bC (bo rfl rfl rfl zP (bB .zero rfl zl) rfl rfl zO zm zo fun jA c4 _=>?_)
 refine wB ?_;refine bi (k+(8+mD b),out++[(.slice eJ t.length c3,t)],jA,c4) ?_ ?_ ?_ ?_
 ·dsimp only;rw [ah];exact eK
 ·dsimp only;omega
 ·dsimp only;rw [aa,aj];exact cC rfl (cC rfl (cC rfl (cC rfl dd)))
 ·dsimp only;have GG:s.b.drop (k+(8+mD b))=b.drop (8+mD b):=by rw [← Mz,List.drop_drop]
  rw [GG];refine cj (show cz _ (cS (.slice eJ t.length c3) t::nA out::dE ez 1 (.slice jA (out.length+1) c4) (out.length+1) (out.map (·.1)++[.slice eJ t.length c3])::Reader gr ⟨b.drop (8+mD b),false⟩::de gd s::R) from zE) (cj (ML (a:=(.slice eJ t.length c3,t))) (cj (bw (.succ .zero) aX) (cj EK ?_)));simp only [cV,aa,aj,ah,List.map_cons,List.map_nil];exact zE
theorem yF (gd:Nat) (s:eS) (hs:s.ok) :
 Ct prog 65 #[pt gd] e (de gd s::R) (Sc gd s R) :=
 (EL R e gd s hs).LN fun v L' h=>by
  rcases h with h|h|⟨h1,h2,gj,ad,c,ts,h3,h4,rfl⟩
  ·exact ⟨_,aX,.inl h⟩
  ·exact ⟨_,aX,.inr (.inl h)⟩
  ·exact ⟨_,bh (bh yE),.inr (.inr ⟨h1,h2,gj,ad,c,ts,h3,h4,rfl⟩)⟩
def ff (n:Nat):List UInt8:=[UInt8.ofNat n]
def EN (l:List (List UInt8)):Prop:=l.length≤16∧∀ i (h:i<l.length),l[i]=ff i
abbrev lF (gb gj k:Nat):cJ:=cK gb [pt gj,.int .i64 (k:Int)] 228 (0,0)
def Pa (gd:Nat) (s:eS) (R:List cJ) (v':Value) (L':List cJ):Prop :=
 ((dA s.b).2.2=false∧v'=.tuple #[.pointer none,.int .i64 14]∧L'=de gd s::R) ∨
 ((dA s.b).2.2=true∧Bt s≠0∧v'=.tuple #[.pointer none,.int .i64 (Bt s)]∧L'=de gd (ui s)::R) ∨
 ((dA s.b).2.2=true∧Bt s=0∧¬ EN (dA s.b).1∧v'=.tuple #[.pointer none,.int .i64 14]∧L'=de gd (ui s)::R) ∨
 ((dA s.b).2.2=true∧Bt s=0∧EN (dA s.b).1∧∃ gb gj:Nat,v'=.tuple #[pt gb,.int .i64 0]∧L'=lF gb gj (dA s.b).1.length::jd gj gd (dA s.b).1.length::de gd (ui s)::R)
theorem Hj (gd:Nat) (s:eS) (hs:s.ok) :
 Ct prog 64 #[pt gd] e (de gd s::R) (Pa gd s R):=by
 have nK:=hs.1;refine a8 (args:=[_]) func64 rfl ntmps64 results64 rfl ?_;refine wB ?_;refine aZ rfl rfl (yF _ e gd s hs) ?_;rintro _ _ (⟨h1,rfl,rfl⟩|⟨h1,h2,rfl,rfl⟩|⟨h1,h2,gj,ad,c,ts,rfl,hd,rfl⟩)
 ·refine wB ?_;exact aY _ rfl aX (.inl ⟨h1,rfl,rfl⟩)
 ·refine wB ?_;exact aY _ rfl aX (.inr (.inl ⟨h1,h2,rfl,rfl⟩))
 refine wB ?_;refine W.cB (fP (.succ .zero)) ?_;rintro ⟨⟨a,c',hq,hca,hcb,Ms⟩,_⟩;obtain ⟨rfl,_,rfl⟩:=Value.slice.inj hq;clear hq;simp only [maxLen] at hcb
 have Hk:dQ (jd gj gd ts.length::cV (.slice ad ts.length c) ts::cH ts::de gd (ui s)::R) ts:=dQ.tail (dQ.tail eF);refine bq (ι:=Nat) (fun i=>[(4,pt gj),(5,.slice ad ts.length c),(18,.slice ad ts.length c),(19,.int .i64 (ts.length:Int)),(20,.int .i64 (i:Int))]) (fun i=>jd gj gd ts.length::cV (.slice ad ts.length c) ts::cH ts::de gd (ui s)::R) (fun i=>i≤ts.length∧i≤16∧∀ j (h:j<ts.length),j<i→(ts[j]).2=ff j) (fun i=>ts.length - i) 0 ⟨aH _,aH _,fun j _ h=>absurd h (Nat.not_lt_zero j)⟩ zS aX ?_;rintro i ⟨hi,aeQ,Qo⟩;have hlen:ts.length=(dA s.b).1.length:=by simpa using congrArg List.length hd
 have EO:∀ j (h:j<ts.length),(dA s.b).1[j]'zo=(ts[j]).2:=fun j h=>by
  have:(ts.map (·.2))[j]'(by simpa using h)=(dA s.b).1[j]'zo:=by simp only [hd]
  rw [← this,List.getElem_map]
 by_cases cO:i<ts.length
 rotate_left
 ·have hk:EN (dA s.b).1:=⟨by omega,fun j h=>by rw [EO j zo];exact Qo j zo zo⟩
  (repeat (refine wA ?_;intros))
  rename_i gb;refine aY (lF gb gj (dA s.b).1.length::jd gj gd (dA s.b).1.length::de gd (ui s)::R) rfl (by rw [← hlen];exact zE) (.inr (.inr (.inr ⟨h1,h2,hk,gb,gj,rfl,rfl⟩)))
 rcases Ms with ⟨_,_,h0⟩|⟨p,rfl⟩
 ·omega
 have jt:=Hk _ (aA cO);have CF:=EO i cO;have hr:Rd (jd gj gd ts.length::cV (.slice (some ⟨p,0,none⟩) ts.length c) ts::cH ts::de gd (ui s)::R) ⟨p,0+i,none⟩ (ts[i]'cO).1:=Rd.tail ((bb .zero).elem (by rw [aL,ab cO];rfl))
 have Pb:(i≥16∨(ts[i]'cO).2≠ff i)→¬ EN (dA s.b).1:=fun h hk=>by
  rcases h with h|h
  ·have:=hk.1;omega
  ·exact h (by rw [← CF];exact hk.2 i zo)
 have n7:(ts[i]'cO).2=ff i→∀ j (h:j<ts.length),j<i+1→(ts[j]).2=ff j:=fun hh j hj h=>by
  by_cases A3:j=i
  ·subst A3;exact hh
  ·exact Qo j hj zo
 clear CF
 generalize ts[i]'cO=y at *
 obtain ⟨tv,tb⟩:=y;dsimp only at jt hr Pb n7
 refine W.cB (cE.shape jt zo) ?_;rintro ⟨⟨adt,ct,rfl,_,_,_,hq⟩,_⟩
 by_cases IH:i<16
 rotate_left
 ·refine wB ?_;exact aY (de gd (ui s)::R) rfl zE (.inr (.inr (.inl ⟨h1,h2,Pb (.inl zo),rfl,rfl⟩)))
 by_cases EA:tb.length=1
 rotate_left
 ·refine wB ?_;exact aY (de gd (ui s)::R) rfl zE (.inr (.inr (.inl ⟨h1,h2,Pb (.inr (fun h=>EA (by rw [h];rfl))),rfl,rfl⟩)))
 match tb,EA with
 | [b0],_ =>
 rcases hq with hq|⟨q,o,rfl⟩
 ·cases hq
 have tI:=jt.elem (j:=0) rfl;unfold u8 at tI
 have aeR:b0.toNat<256:=b0.toNat_lt
 by_cases Aa:b0.toNat=i
 ·refine wB ?_;have hk:[b0]=ff i:=by rw [← Aa];simp [ff]
  exact bi (i+1) ⟨cO,by omega,n7 hk⟩ zo zS zE
 ·refine wB ?_;refine aY (de gd (ui s)::R) rfl zE (.inr (.inr (.inl ⟨h1,h2,Pb (.inr (fun h=>Aa ?_)),rfl,rfl⟩)));have h3:=(List.cons.inj h).1;rw [h3,UInt8.toNat_ofNat_of_lt' (show i<256 by omega)]
def EP (k:Nat) (s:eS):Int:=if 16≤k then 23 else EH s (ff k)
def IN (k:Nat) (s:eS):Nat:=if 16≤k then k else if EH s (ff k)=0 then k+1 else k
def IQ (k:Nat) (s:eS):eS:=if 16≤k then s else Kh s (ff k)
def IR (k j:Nat) (s:eS):Nat:=if 16≤k then j else EI s (ff k) j
def takeN (k:Nat) (s:eS):Int:=if EP k s=0 then k else 0
theorem yG (gb gj gd k j:Nat) (s:eS) (hs:s.ok) (hk:k≤16) (hj:j≤1000000000000) :
 Ct prog 112 #[pt gb] e (lF gb gj k::jd gj gd j::de gd s::R) (fun v' L'=>v'=.tuple #[.int .i64 (takeN k s),.int .i64 (EP k s)]∧L'=lF gb gj (IN k s)::jd gj gd (IR k j s)::de gd (IQ k s)::R):=by
 refine a8 (args:=[_]) func112 rfl ntmps112 results112 rfl ?_
 by_cases IH:16≤k
 ·simp only [takeN,EP,IN,IQ,IR,aI IH];refine wB ?_;exact aY _ rfl aX ⟨by simp [AS],rfl⟩
 simp only [takeN,EP,IN,IQ,IR,aB IH]
 (repeat (refine wA ?_;intros))
 rename_i gl
 have hb8:Value.int .u8 (k:Int)=u8 (UInt8.ofNat k):=by
  unfold u8;rw [UInt8.toNat_ofNat_of_lt' (show k<256 by omega)]
 rw [hb8];have jw:db (cK gl [u8 (UInt8.ofNat k)] pG (0,0)::lF gb gj k::R) (.slice (some ⟨gl,0,none⟩) 1 1) (ff k):=bB .zero rfl zl;refine O.fo (show cz _ (jd gj gd j::de gd s::cK gl [u8 (UInt8.ofNat k)] pG (0,0)::lF gb gj k::R) from zE) ?_;refine aZ rfl rfl (nZ _ e gj gd j s (ff k) _ hs jw (by simp [ff]) hj) ?_;rintro _ _ ⟨rfl,rfl⟩
 by_cases h0:EH s (ff k)=0
 ·rw [aI h0,aI h0,h0];refine wB ?_;exact aY _ rfl zE ⟨rfl,rfl⟩
 ·rw [aB h0,aB h0];refine wB ?_;exact aY _ rfl zE ⟨rfl,rfl⟩
theorem Hl (gb gj k:Nat) (hk:k≤16) :
 Ct prog 109 #[pt gb] e (lF gb gj k::R) (fun v' L'=>v'=.int .i64 (16 - (k:Int))∧L'=lF gb gj k::R):=by
 refine a8 (args:=[_]) func109 rfl ntmps109 results109 rfl ?_;refine wB ?_;exact aY _ rfl aX ⟨rfl,rfl⟩
def dx (b:List UInt8):eS:=⟨b,b.length,1048576,0,false⟩
theorem EQ {b:List UInt8} (h:b.length≤1048576):(dx b).ok:=⟨h,aS _,aS _,aH _⟩
theorem op0 {b:List UInt8}:Bt (dx b)=0∧ui (dx b)=dx (b.take (dA b).2.1):=by
 have h:=MJ b
 have hc:eS.cut (dx b) ((dA b).2.1:Int)=dx (b.take (dA b).2.1)∧eS.xg (dx b) ((dA b).2.1:Int)=0:=by
  have h2:¬ ((b.length:Int)<((dA b).2.1:Int)):=by omega
  simp [eS.cut,eS.xg,dx,eS.pow,h2,aF,Nat.min_eq_left h]
  omega
 unfold Bt ui
 by_cases h2:(dA b).2.1=b.length
 ·rw [aI (show (dA (dx b).b).2.1=(dx b).b.length from h2),aI (show (dA (dx b).b).2.1=(dx b).b.length from h2),h2];exact ⟨rfl,by rw [aG (aS _)]⟩
 ·rw [aB (show ¬ (dA (dx b).b).2.1=(dx b).b.length from h2),aB (show ¬ (dA (dx b).b).2.1=(dx b).b.length from h2)];exact ⟨hc.2,hc.1⟩
def Pc (gd:Nat) (b:List UInt8) (R:List cJ) (v':Value) (L':List cJ):Prop :=
 ((dA b).2.2=false∧v'=.tuple #[.pointer none,nY,.int .i64 14]∧L'=de gd (dx b)::R) ∨
 ((dA b).2.2=true∧∃ (gj:Nat) (ad:Option Addr) (c:Nat) (ts:List ej),v'=.tuple #[pt gj,.slice ad ts.length c,.int .i64 0]∧ts.map (·.2)=(dA b).1∧L'=jd gj gd ts.length::cV (.slice ad ts.length c) ts::cH ts::de gd (dx (b.take (dA b).2.1))::R)
theorem nj (gd:Nat) (b:List UInt8) (hb:b.length≤1048576) :
 Ct prog 65 #[pt gd] e (de gd (dx b)::R) (Pc gd b R) :=
 (yF R e gd (dx b) (EQ hb)).mono fun v' L' h=>by
  obtain ⟨h1,h2⟩:=op0 (b:=b);rcases h with ⟨a1,a2,a3⟩|⟨a1,a2,_⟩|⟨a1,_,gj,ad,c,ts,a3,a4,a5⟩
  ·exact .inl ⟨a1,a2,a3⟩
  ·exact absurd h1 a2
  ·exact .inr ⟨a1,gj,ad,c,ts,a3,a4,by rw [a5,h2]⟩
def eV (l:List (List UInt8)):List UInt8:=l.flatMap fB
theorem kD {l:List (List UInt8)} {n:Nat} (h:∀ m∈l,m.length≤n):(eV l).length≤l.length*(n+8):=by
 induction l with
 | nil=>simp [eV]
 | cons m l ih =>
  have h1:=ih fun x hx=>h x (aT _ hx)
  have h2:=h m (List.mem_cons_self ..)
  show (fB m++eV l).length≤_
  rw [aa,gI,aN,Nat.add_mul]
  omega
theorem n8 (l:List (List UInt8)) (m:List UInt8):eV (l++[m])=eV l++fB m:=by simp [eV]
end Go.Proofs
