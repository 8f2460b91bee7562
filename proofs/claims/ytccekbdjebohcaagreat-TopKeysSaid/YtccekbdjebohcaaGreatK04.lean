/- Part 4 of a proof of this: TopKeys returns true for any arguments; nothing of the old memory is turned. No condition. -/
import Derived.Test.YtccekbdjebohcaaGreatK03
set_option linter.unusedVariables false
set_option linter.unusedSimpArgs false
namespace Go.Proofs
attribute [local irreducible] Bs.cD Bs.Do Bs.O Bs.W Bs.Fin Bs.A Bs.Ct Bs.cE Bs.Rd Bs.Sat Bs.cK Bs.Ob Bs.dE Bs.View Bs.cz Bs.Ex Bs.dI Bs.Pu Bs.eY Bs.dN Bs.dZ
open Go.Bs
open Tryz
def OY (Y:List UInt8):Nat→S8
 | 0=>uV
 | k+1=>ji (OY Y k) ((Y.drop (64*k)).take 64)
theorem Eg (Y:List UInt8):∀ k,64*k≤Y.length→iW uV Y=iW (OY Y k) (Y.drop (64*k))
 | 0,_=>rfl
 | k+1,h=>by
  have h1:(Y.drop (64*k)).length=Y.length - 64*k:=aO;rw [Eg Y k zo,oQ zo,List.drop_drop]
  rfl
set_option maxHeartbeats 2000000 in
theorem tK (R:List cJ) (e:World) (v:Value) (b:List UInt8) (hv:db R v b) (hb:b.length≤1000000000000) :
 Ct prog 154 #[v] e R (fun v' L'=>∃ ad c,v'=.slice ad (sh b).length c∧L'=cS (.slice ad (sh b).length c) (sh b)::R):=by
 refine a7 (hv.shape zo) ?_;rintro ⟨⟨ad,cap,rfl,h3,h4,h5,h6⟩,_⟩;simp only [maxLen] at h4
 refine Ct.RF (args:=[_]) func154 rfl ntmps154 rfl ?_
 (repeat' first|apply WM.seq|apply Fin.D7|(refine O.mF (cs:=uV.cells) rfl rfl rfl zQ rfl ?_)|(refine b9 (cs:=(List.replicate 8 (0:UInt32)).map cW) rfl rfl ?_;intro _)|(refine O.ek (vs:=uV.cells) rfl rfl rfl (gC uV.list) .zero (eC rfl) ?_)|refine Zb ?_|apply Zd|apply Ze)
 rename_i g3;refine aZ rfl rfl (JR _ e) ?_;rintro _ _ ⟨rfl,rfl⟩
 (repeat' first|apply WM.seq|apply Fin.D7|(refine b9 (cs:=(List.replicate 64 (0:UInt32)).map cW) rfl rfl ?_;intro _)|(refine O.ek (vs:=kw.map cW) rfl rfl rfl (gC kw) .zero (eC rfl) ?_)|refine Za ?_|apply Zd|apply Ze)
 rename_i g4;refine aZ rfl rfl (dw _ e _ b hv.tail.tail zo) ?_;rintro _ _ ⟨eJ,c3,rfl,rfl⟩
 (repeat (refine wA ?_;intros))
 refine bC (bo rfl rfl rfl (.succ .zero) (bB .zero rfl zl) rfl rfl zO zm zo fun jA c4 _=>?_)
 (repeat' first|apply WM.seq|apply Fin.D7|refine Zb ?_|apply Ze|apply YB)
 refine bq (ι:=Nat × Option Addr × Nat) (fun i=>[(5,.slice i.2.1 (b.length+1+i.1) i.2.2),(3,pt g3),(4,pt g4),(0,.slice ad b.length cap)])
  (fun i=>dE pG 1 (.slice i.2.1 (b.length+1+i.1) i.2.2) (b.length+1+i.1) ((b++128::List.replicate i.1 0).map u8)::cK g3 uV.cells 296 (0,0)::cK g4 (kw.map cW) 297 (0,0)::R)
  (fun i=>i.1≤zs b.length) (fun i=>zs b.length - i.1) (0,jA,c4)
  (aH _) (cC rfl (cC rfl (cC rfl (cC rfl dd)))) (by dsimp only;rw [ah];exact zE) ?_
 rintro ⟨z,QE,c5⟩ hz;dsimp only at hz ⊢
 have aac:zs b.length<64:=by unfold zs;omega
 have hzd:zs b.length=(119 - b.length % 64) % 64:=rfl;have htm:=Mn (b.length+1+z)
 by_cases hzt:z<zs b.length
 ·(repeat (refine wA ?_;intros))
  refine bC (bo rfl rfl rfl (.succ .zero) (bB .zero rfl zl) rfl rfl zO zm zo fun GH c6 _=>?_)
  refine wB ?_;refine bi (z+1,GH,c6) hzt zd (cC rfl (cC rfl (cC rfl (cC rfl dd)))) ?_;dsimp only
  have he:(b++128::List.replicate (z+1) (0:UInt8)).map u8=(b++128::List.replicate z 0).map u8++[.int .u8 0]:=by
   rw [List.replicate_succ',show b++128::(List.replicate z 0++[0])=(b++128::List.replicate z (0:UInt8))++[0] by simp,ah]
   rfl
  rw [he];exact zE
 obtain rfl:z=zs b.length:=by omega
 have Vq:(b++128::List.replicate (zs b.length) (0:UInt8)).length=b.length+1+zs b.length:=by simp;omega
 have Mo:∀ m,(b++128::List.replicate (zs b.length) (0:UInt8))++m=b++128::(List.replicate (zs b.length) 0++m):=fun m=>by simp
 rw [← Vq] at htm ⊢
 have hXb:(b++128::List.replicate (zs b.length) (0:UInt8)).length≤1000000000128:=by omega
 have aaf:(b++128::List.replicate (zs b.length) (0:UInt8)).length % 64=56:=by omega
 have GI:sh b=gW (iW uV (b++128::(List.replicate (zs b.length) 0++ly b.length))):=rfl;rw [← Mo] at GI
 clear Mo Vq
 generalize b++128::List.replicate (zs b.length) (0:UInt8)=X at *
 have h8:(ly b.length).length=8:=cX _ _
 (repeat' first|apply WM.seq|apply Fin.D7|refine Za ?_|refine Zb ?_|apply Zc|apply Zd|apply Ze|apply Zf|refine Zk ?_|refine ZQ ?_|refine YA ?_|apply YB|apply YD|apply YG|apply YJ|refine YL ?_|fail)
 refine bq (ι:=Nat × Option Addr × Nat) (fun i=>[(6,.int .i64 (7 - (i.1:Int))),(5,.slice i.2.1 (X.length+i.1) i.2.2),(3,pt g3),(4,pt g4),(0,.slice ad b.length cap)])
  (fun i=>dE pG 1 (.slice i.2.1 (X.length+i.1) i.2.2) (X.length+i.1) ((X++(ly b.length).take i.1).map u8)::cK g3 uV.cells 296 (0,0)::cK g4 (kw.map cW) 297 (0,0)::R)
  (fun i=>i.1≤8) (fun i=>8 - i.1) (0,QE,c5)
  (aH _) (cC rfl (cC rfl (cC rfl (cC rfl (cC rfl dd))))) (by dsimp only;rw [List.take_zero,aK];exact zE) ?_
 rintro ⟨m,QF,c7⟩ hm;dsimp only at hm ⊢
 by_cases RL:m<8
 ·have Ee:=Bg b.length m RL zo;have Vr:=RK b.length zo
  have Vs:IntKind.u64.wrap ((b.length:Int)*8)=((b.length*8:Nat):Int):=by
   rw [← RK (b.length*8) zo];rfl
  (repeat' first|(apply O.jP;exact rfl;exact rfl)|refine Za ?_|apply Zc|apply Zd|apply Ze|apply Zf|refine Zk ?_|refine ZJ ?_|refine ZW ?_|refine ZX ?_|refine Z1 ?_|refine Yi fun _=>?_|refine Yz ?_|apply YB|apply YC)
  rw [Vr,Vs,show IntKind.u64.bits=64 from rfl,Ee];have Ef:=Cl (b.length*8) 8 m RL;have nf:(ly b.length).take (m+1)=(ly b.length).take m++[UInt8.ofNat (b.length*8 / 256 ^ (7 - m))]:=Bf Ef;clear Ee Ef
  generalize UInt8.ofNat (b.length*8 / 256 ^ (7 - m))=cc at *
  have ft:(X++(ly b.length).take (m+1)).map u8=(X++(ly b.length).take m).map u8++[u8 cc]:=by
   rw [nf,← aM,ah];rfl
  generalize X++(ly b.length).take m=Y at *
  refine bC (bo rfl rfl rfl (.succ .zero) (bB .zero rfl zl) rfl rfl zO zm zo fun GH c6 _=>?_)
  refine wB ?_;refine bi (m+1,GH,c6) RL zd ?_ ?_
  ·dsimp only;rw [show (7 - ((m+1:Nat):Int))=7 - (m:Int) - 1 by omega];exact cC rfl (cC rfl (cC rfl (cC rfl (cC rfl dd))))
  ·dsimp only;rw [ft];exact zE
 obtain rfl:m=8:=by omega
 rw [aG zo];have hYl:(X++ly b.length).length=X.length+8:=by rw [aa,h8]
 have aah:(X++ly b.length).length % 64=0:=by omega
 have hYb:(X++ly b.length).length≤1000000001000:=by omega
 have acL:0<(X++ly b.length).length:=by omega
 rw [← hYl]
 generalize X++ly b.length=Y at *
 (repeat' first|apply WM.Zx|apply Fin.D7|refine Za ?_|apply Zc|apply Zd|apply Ze|apply Zf|refine ZK ?_|refine YA ?_|apply YD|apply YG|apply YJ)
 refine bm (tz .zero) ?_;rintro ⟨ad8,c8,hq,OW,Mq⟩;obtain ⟨rfl,_,rfl⟩:=Value.slice.inj hq;clear hq;simp only [maxLen] at Mq
 refine bm (fP .zero) ?_;rintro ⟨⟨ad9,c9,hq,_,_,Ms⟩,_⟩;obtain ⟨rfl,_,rfl⟩:=Value.slice.inj hq;clear hq
 obtain ⟨gl,rfl⟩:∃ gl,QF=some ⟨gl,0,none⟩:=by
  rcases Ms with ⟨_,_,h0⟩|h0
  ·omega
  ·exact h0
 clear Ms;refine aZ rfl rfl (GK _ e (some ⟨gl,0,none⟩) Y.length c7) ?_;rintro _ _ ⟨gs,gn,rfl,rfl⟩
 (repeat' first|apply Fin.tw|apply Ze)
 obtain ⟨m,Vu⟩:∃ m,Y.length=64*m:=⟨Y.length / 64,by omega⟩
 refine WB.range (lb:=[pt gs,pt gn]) results154 rfl (cK gs [.slice (some ⟨gl,0,none⟩) Y.length c7] 30 (0,0)::cK gn [.int .i64 64] 3 (0,0)::cS (.slice (some ⟨gl,0,none⟩) Y.length c7) Y::cK g3 (OY Y m).cells 296 (0,0)::cK g4 (kw.map cW) 297 (0,0)::R) ?_ ?_
 ·intro l D r h1 h2 h3 h4 h5 hr;refine JT e l gs gn m gl 0 c7 Y (fun k=>Lp l r::Df D::cK gs [.slice (some ⟨gl,0,none⟩) Y.length c7] 30 (0,0)::cK gn [.int .i64 64] 3 (0,0)::cS (.slice (some ⟨gl,0,none⟩) Y.length c7) Y::cK g3 (OY Y k).cells 296 (0,0)::cK g4 (kw.map cW) 297 (0,0)::R) Vu zo OW (fun k=>zR) (fun k=>zR) ?_;intro k hk;have sW:∀ {A B C D':cJ} {L:List cJ},db (A::B::C::D'::cS (.slice (some ⟨gl,0,none⟩) Y.length c7) Y::L) (.slice (some ⟨gl,0+64*k,none⟩) 64 64) ((Y.drop (64*k)).take 64):=OX (db.tail (db.tail (db.tail (db.tail (bb .zero))))) Vu OW hk
  have Cm:((Y.drop (64*k)).take 64).length=64:=by rw [aF,aO];omega
  have eK:OY Y (k+1)=ji (OY Y k) ((Y.drop (64*k)).take 64):=rfl;rw [eK]
  generalize OY Y k=S at *
  generalize (Y.drop (64*k)).take 64=B at *
  refine Rt.mk h1 h2 h3 rfl rfl hr ?_;refine WI.code h4 ?_;refine WI.region ?_;refine OI.val _ rfl (bj rfl) rfl ?_;refine OI.nil ?_;refine Fin.Zv aX ?_;refine WI.code h5 ?_;refine WI.block ?_;refine WI.region ?_;refine OI.val _ rfl (cD.dy (cs:=S.cells) rfl (by (repeat first|exact bU .zero|apply dZ.tail);done) rfl) rfl ?_;refine OI.val _ rfl (bu rfl) rfl ?_;refine OI.do rfl (bg rfl rfl (Mk _ e S _ B g4 sW Cm (by (repeat first|exact bU .zero|apply dZ.tail);done)) ?_)
  rintro _ _ ⟨rfl,rfl⟩
  generalize ji S B=S2 at *
  refine OI.do rfl (Do.ek (vs:=S2.cells) rfl rfl (jx S2) (gC S2.list) zU (eC ((jx S).trans (jx S2).symm)) ?_)
  refine OI.nil ?_;refine Fin.sY ?_;exact Fin.Zr zE
 intro D
 have QG:iW uV Y=OY Y m:=by
  rw [Eg Y m zo];exact vv (by rw [aO];omega)
 rw [GI,QG];clear QG GI
 generalize OY Y m=V at *
 have Be:V.list.length=8:=rfl;refine wB ?_;refine bC (Do.U2 (el:=pG) (nn:=1) (z:=.int .u8 0) (b:=1) (c:=32) rfl rfl rfl zl zo fun go=>?_)
 (repeat' first|(refine O.dy (cs:=V.cells) rfl (by (repeat first|exact bU .zero|apply dZ.tail);done) rfl rfl ?_)|refine Za ?_|refine Zb ?_|apply Zc|apply Zd|apply Ze|apply Zf|apply YB)
 rw [S8.nT];refine bq (ι:=Nat × Option Addr × Nat) (fun i=>[(47,.int .i64 (i.1:Int)),(46,.agg (V.list.map cW).toArray),(8,.slice i.2.1 (4*i.1) i.2.2)])
  (fun i=>dE pG 1 (.slice i.2.1 (4*i.1) i.2.2) (4*i.1) (((V.list.take i.1).flatMap ik).map u8)::Df D::R)
  (fun i=>i.1≤8) (fun i=>8 - i.1) (0,some ⟨go,0,none⟩,32)
  (aH _) (cC rfl (cC rfl (cC rfl dd))) zE ?_
 rintro ⟨j,GJ,RM⟩ hj;dsimp only at hj ⊢
 by_cases LC:j<8
 ·have hr:(V.list.map cW)[j]?=some (cW (V.list.getD j 0)):=by
   have Ck:j<V.list.length:=LC;rw [aL,ab Ck,ax,ab Ck];rfl
  have eK:((V.list.take (j+1)).flatMap ik).map u8=((V.list.take j).flatMap ik).map u8++(ik (V.list.getD j 0)).map u8:=by
   have Ck:j<V.list.length:=LC;rw [aD Ck,aW,ah,ax,ab Ck]
   rfl
  generalize V.list.getD j 0=x at *
  (repeat' first|refine YY ?_|refine Y0 ?_|refine Y4 ?_|refine Za ?_|refine Zb ?_|apply Zc|apply Zd|apply Ze|apply Zf|refine ZA ?_|refine Yi fun _=>?_|refine Yz ?_|apply YB|apply YC)
  refine bC (bo rfl rfl rfl (.succ .zero) (bB .zero rfl zl) rfl rfl zO zm zo fun Mr Vt _=>?_)
  refine wB ?_;refine bi (j+1,Mr,Vt) LC zd ?_ ?_
  ·dsimp only;rw [Nat.mul_add];exact cC rfl (cC rfl (cC rfl dd))
  ·dsimp only;rw [eK,Nat.mul_add];exact (show cz _ (dE pG 1 (.slice Mr (4*j+4*1) Vt) (4*j+4*1) (((V.list.take j).flatMap ik).map u8++(ik x).map u8)::Df D::R) from zE)
 obtain rfl:j=8:=by omega
 rw [aG zo];refine wB ?_;exact aY (Df D::cS (.slice GJ (gW V).length RM) (gW V)::R) rfl (show cz (dE pG 1 (.slice GJ 32 RM) 32 ((gW V).map u8)::Df D::R) _ from zE) ⟨_,rfl,GJ,RM,rfl,rfl⟩
end Go.Proofs
namespace Go.Bs
def l7 (n:Nat):Nat:=if n=0 then 0 else n.log2+1
theorem yg (n k:Nat) (h:2 ^ k≤n):l7 (n / 2 ^ k)+k=l7 n:=by
 have h0:0<2 ^ k:=Nat.two_pow_pos k;have h1:n≠0:=by omega
 have h2:n / 2 ^ k≠0:=by
  have:=Nat.div_pos h h0
  omega
 unfold l7;rw [aB h1,aB h2];have h3:k≤n.log2:=(Nat.le_log2 h1).2 h
 have h4:(n / 2 ^ k).log2=n.log2 - k:=by
  rw [Nat.log2_eq_iff h2]
  constructor
  ·rw [Nat.le_div_iff_mul_le h0,← Nat.pow_add,Nat.sub_add_cancel h3];exact Nat.log2_self_le h1
  ·rw [Nat.div_lt_iff_lt_mul h0,← Nat.pow_add,show n.log2 - k+1+k=n.log2+1 by omega];exact Nat.lt_log2_self
 omega
def mK:List UInt8:=(List.range 256).map fun i=>UInt8.ofNat (l7 i)
section
variable {P:Program} {N:Fr} {Q:fO} {σ:Env} {e:World} {L:List cJ} {all:Array Oper} {rest:List Oper} {d:Nat} {ty:TypeId} {pos:String} {af:Array Edge}
theorem O.GL {x y:Operand} {t:TypeId} {s:ByteArray} {k:IntKind} {i c:Nat} [q:u0 P t] (h:ev σ x=some (.string s)) (h1:ev σ y=some (.int k (i:Int))) (hl:∃ h:i<s.size,s[i].toNat=c) (hd:Nat.blt d N.n=true)
 (kk:O P N all rest Q ((d,.int .u8 (c:Int))::σ) e L):O P N all (⟨some d,.index t x y,ty,pos,af,none⟩::rest) Q σ e L:=by
 obtain ⟨h2,h3⟩:=hl;refine bx _ ?_ hd kk;have:=cD.Ro (P:=P) (N:=N) (ty:=ty) (e:=e) (L:=L) (t:=t) h h1 h2;rw [h3] at this
 exact this
end
theorem nx:mK.length=256:=by simp [mK]
theorem JU (y:Nat) (hy:y<256):(mK[y]'(by rw [nx];exact hy)).toNat=l7 y:=by
 have h1:∀ m:_root_.Fin 256,(mK[m.1]'(by rw [nx];exact m.2)).toNat=l7 m.1:=by decide +kernel
 exact h1 ⟨y,hy⟩
theorem Mt (m s:Nat) (t:Nat) (h:s≤t):((m:Int)).fdiv (2 ^ (min ((s:Int)).toNat t))=((m / 2 ^ s:Nat):Int):=by
 rw [Int.toNat_natCast,Nat.min_eq_left h,Int.fdiv_eq_ediv_of_nonneg _ (Int.pow_nonneg (by decide))]
 simp
end Go.Bs
namespace Go.Proofs
open Go.Bs
attribute [local irreducible] Bs.cD Bs.Do Bs.O Bs.W Bs.Fin Bs.A Bs.Ct Bs.cE Bs.Rd Bs.Sat Bs.cK Bs.Ob Bs.dE Bs.View Bs.cz Bs.Ex Bs.dI Bs.Pu Bs.eY Bs.dN Bs.dZ
set_option maxRecDepth 100000 in
theorem GM (R:List cJ) (e:World) (x:Nat) (hx:x<18446744073709551616) :
 Ct Tryz.prog 278 #[.int .u64 (x:Int)] e R (fun v' L'=>v'=.int .i64 (l7 x:Int)∧R=L'):=by
 refine a8 (args:=[_]) Tryz.func278 rfl Tryz.ntmps278 Tryz.results278 rfl ?_
 (repeat' first|refine W.pF (id:=4) (fun i:Nat × Nat=>[(0,.int .u64 (i.1:Int)),(2,.int .i64 (i.2:Int))]) (fun _=>R) (fun i=>i.1<4294967296∧l7 i.1+i.2=l7 x∧i.2≤32) ?_ ?_|refine Zb ?_|apply Zc|apply Zd|apply Ze|apply Zf)
 rotate_left
 ·refine ⟨?_⟩
  by_cases h:4294967296≤x
  ·refine wB ?_;refine bJ (x / 4294967296,32) ⟨by dsimp only;omega,yg x 32 h,by dsimp only;omega⟩ (cC ?_ (cC rfl dd)) aX;exact congrArg (fun z=>some (Value.int .u64 z)) (Mt x 32 64 zo)
  ·refine wB ?_;exact bJ (x,0) ⟨by dsimp only;omega,rfl,by dsimp only;omega⟩ (cC rfl (cC rfl dd)) aX
 rintro ⟨x2,n2⟩ ⟨IG,pH,F9⟩;dsimp only at IG pH F9 ⊢
 (repeat' first|refine W.pF (id:=7) (fun i:Nat × Nat=>[(0,.int .u64 (i.1:Int)),(2,.int .i64 (i.2:Int))]) (fun _=>R) (fun i=>i.1<65536∧l7 i.1+i.2=l7 x∧i.2≤48) ?_ ?_)
 rotate_left
 ·refine ⟨?_⟩
  by_cases h:65536≤x2
  ·have:l7 (x2 / 65536)+16=l7 x2:=yg x2 16 h;refine wB ?_;refine bJ (x2 / 65536,n2+16) ⟨by dsimp only;omega,by dsimp only;omega,by dsimp only;omega⟩ (cC ?_ (cC rfl dd)) aX;exact congrArg (fun z=>some (Value.int .u64 z)) (Mt x2 16 64 zo)
  ·refine wB ?_;exact bJ (x2,n2) ⟨by dsimp only;omega,pH,by dsimp only;omega⟩ (cC rfl (cC rfl dd)) aX
 rintro ⟨x3,n3⟩ ⟨hx3,QH,Xq⟩;dsimp only at hx3 QH Xq ⊢
 clear IG pH F9
 (repeat' first|refine W.u2 (id:=10) (fun i:Nat × Nat=>[(0,.int .u64 (i.1:Int)),(2,.int .i64 (i.2:Int))]) (fun _=>R) (fun i=>i.1<256∧l7 i.1+i.2=l7 x∧i.2≤56) ?_ ?_)
 rotate_left
 ·refine ⟨?_⟩
  by_cases h:256≤x3
  ·have:l7 (x3 / 256)+8=l7 x3:=yg x3 8 h;refine wB ?_;refine bJ (x3 / 256,n3+8) ⟨by dsimp only;omega,by dsimp only;omega,by dsimp only;omega⟩ (cC ?_ (cC rfl dd)) aX;exact congrArg (fun z=>some (Value.int .u64 z)) (Mt x3 8 64 zo)
  ·refine wB ?_;exact bJ (x3,n3) ⟨by dsimp only;omega,QH,by dsimp only;omega⟩ (cC rfl (cC rfl dd)) aX
 rintro ⟨y,n⟩ ⟨hy,hl,hn⟩;dsimp only at hy hl hn ⊢
 clear hx3 QH Xq;have oH:mK.length=256:=by simp [mK]
 have jt:∀ (h:y<(str mK).size),((str mK)[y]'h).toNat=l7 y:=fun h=>by
  have h1:(str mK)[y]'h=mK[y]'zo:=rfl;rw [h1];exact JU y hy
 have hw8:IntKind.u8.wrap (y:Int)=(y:Int):=wrap_u8 zo zo;refine wB ?_;refine O.GL (s:=str mK) (c:=l7 y) zK rfl ⟨by rw [sZ,nx];exact hy,jt _⟩ rfl ?_
 have hl8:l7 y≤8:=by
  unfold l7
  split
  ·omega
  ·rename_i h0;have:y.log2<8:=(Nat.log2_lt h0).2 hy
   omega
 refine wB ?_;exact aY R rfl aX ⟨by rw [← hl,Int.natCast_add,Int.add_comm];rfl,rfl⟩
theorem Mu (R:List cJ) (e:World) (x:Nat) (hx:x<18446744073709551616) :
 Ct Tryz.prog 232 #[.int .u64 (x:Int)] e R (fun v' L'=>v'=.int .i64 (l7 x:Int)∧R=L'):=by
 refine a8 (args:=[_]) Tryz.func232 rfl Tryz.ntmps232 Tryz.results232 rfl ?_;refine wB ?_;refine aZ rfl rfl (GM R e x hx) ?_;rintro _ _ ⟨rfl,rfl⟩;refine wB ?_;exact aY R rfl aX ⟨rfl,rfl⟩
end Go.Proofs
namespace Go.Proofs
attribute [local irreducible] Bs.cD Bs.Do Bs.O Bs.W Bs.Fin Bs.A Bs.Ct Bs.cE Bs.Rd Bs.Sat Bs.cK Bs.Ob Bs.dE Bs.View Bs.cz Bs.Ex Bs.dI Bs.Pu Bs.eY Bs.dN Bs.dZ
open Go.Bs
open Tryz
def within (n lo hi:Int):Int:=if n≥lo∧n≤hi then n else lo+(if n.tmod (hi - lo+1)<0 then n.tmod (hi - lo+1)+hi - lo+1 else n.tmod (hi - lo+1))
theorem dm (n lo hi:Int) (h:lo≤hi):lo≤within n lo hi∧within n lo hi≤hi:=by
 unfold within;have h1:=Int.tmod_lt_of_pos n (show 0<hi - lo+1 by omega)
 have h2:-(hi - lo+1)<n.tmod (hi - lo+1):=by
  rcases Int.le_total 0 n with h0|h0
  ·have:=Int.tmod_nonneg (hi - lo+1) h0;omega
  ·have h3:=Int.tmod_lt_of_pos (-n) (show 0<hi - lo+1 by omega);rw [Int.neg_tmod] at h3;omega
 split
 ·omega
 ·split<;>omega
theorem eA (R:List cJ) (e:World) (n lo hi:Int) (hn:-9223372036854775808≤n∧n≤9223372036854775807) (hl:-4611686018427387904≤lo∧lo≤hi∧hi≤1099511627776∧hi - lo≤1099511627776) :
 Ct prog 24 #[.int .i64 n,.int .i64 lo,.int .i64 hi] e R (fun v' L'=>v'=.int .i64 (within n lo hi)∧R=L'):=by
 refine a8 (args:=[_,_,_]) func24 rfl ntmps24 results24 rfl ?_;have h1:=Int.tmod_lt_of_pos n (show 0<hi - lo+1 by omega)
 have h2:-(hi - lo+1)<n.tmod (hi - lo+1):=by
  rcases Int.le_total 0 n with h0|h0
  ·have:=Int.tmod_nonneg (hi - lo+1) h0;omega
  ·have h3:=Int.tmod_lt_of_pos (-n) (show 0<hi - lo+1 by omega);rw [Int.neg_tmod] at h3;omega
 have hw:within n lo hi=if n≥lo∧n≤hi then n else lo+(if n.tmod (hi - lo+1)<0 then n.tmod (hi - lo+1)+hi - lo+1 else n.tmod (hi - lo+1)):=rfl
 by_cases ha:n≥lo
 ·by_cases hb:n≤hi
  ·refine wB ?_;exact aY _ rfl aX ⟨by rw [hw,aI ⟨ha,hb⟩];rfl,rfl⟩
  ·by_cases hc:n.tmod (hi - lo+1)<0
   ·refine wB ?_;exact aY _ rfl aX ⟨by rw [hw,aB (fun h=>hb h.2),aI hc];rfl,rfl⟩
   ·refine wB ?_;exact aY _ rfl aX ⟨by rw [hw,aB (fun h=>hb h.2),aB hc];rfl,rfl⟩
 ·by_cases hc:n.tmod (hi - lo+1)<0
  ·refine wB ?_;exact aY _ rfl aX ⟨by rw [hw,aB (fun h=>ha h.1),aI hc];rfl,rfl⟩
  ·refine wB ?_;exact aY _ rfl aX ⟨by rw [hw,aB (fun h=>ha h.1),aB hc];rfl,rfl⟩
theorem Mv (R:List cJ) (e:World) (v:Value) (l:List UInt8) (n:Nat) (h:db R v l) (hn:n<1099511627776) :
 Ct prog 185 #[v,.int .i64 n] e R (fun v' L'=>(∀ L,db L v l→db L v' (l.take n))∧v'.oneCell'=true∧R=L'):=by
 refine a7 (h.shape zo) ?_;rintro ⟨⟨ad,cap,rfl,h3,h4,h5,h6⟩,_⟩;simp only [maxLen] at h4
 refine a8 (args:=[_,_]) func185 rfl ntmps185 results185 rfl ?_
 by_cases hl:n<l.length
 ·refine wB ?_;refine aY _ rfl aX ⟨fun L h=>?_,rfl,rfl⟩;have:=cE.p6 h (hi:=n) zo;unfold db;rw [aF,Nat.min_eq_left zo];rw [Nat.mul_one,← List.map_take] at this
  exact this
 ·refine wB ?_;refine aY _ rfl aX ⟨fun L h=>?_,rfl,rfl⟩;rw [aG zo];exact h
def rJ (l:List ej):List UInt8:=(l.map (·.2)).flatten
theorem Cn {m:Nat}:∀ {l:List ej},(∀ a∈l,a.2.length≤m)→(rJ l).length≤m*l.length
 | [],_=>by simp [rJ]
 | a::l,h=>by
  have h1:=h a (List.mem_cons_self ..);have h2:=Cn (l:=l) fun b hb=>h b (aT _ hb)
  simp only [rJ,List.map_cons,List.flatten_cons,aa,aN,Nat.mul_add,Nat.mul_one] at h2 ⊢
  omega
theorem Eh {l:List ej} {i:Nat} (h:i<l.length):rJ (l.take (i+1))=rJ (l.take i)++(l[i]'h).2:=by
 simp only [rJ];rw [aD h];simp only [ah,List.map_cons,List.map_nil,List.flatten_append,List.flatten_cons,List.flatten_nil,aK]
end Go.Proofs
namespace Go.Bs
def cN (n:Nat):Nat:=if n<2 then 0 else 2 ^ (n - 1).log2
def Co (n:Int):Int:=if n<2 then 0 else (cN n.toNat:Int)
theorem kY (n:Nat):Co (n:Int)=(cN n:Int):=by
 unfold Co cN
 by_cases h:n<2
 ·rw [aI zo,aI h];rfl
 ·rw [aB zo,Int.toNat_natCast]
theorem dz {n:Nat} (h:2≤n):1≤cN n∧cN n<n∧n≤2*cN n:=by
 unfold cN;rw [aB zo];have h1:=Nat.log2_self_le (n:=n - 1) zo;have h2:=Nat.lt_log2_self (n:=n - 1);rw [Nat.pow_succ] at h2
 have h3:=Nat.two_pow_pos (n - 1).log2
 omega
def ei (t:UInt8) (l:List (List UInt8)):List UInt8:=sh (t::l.flatten)
def cY (b:List UInt8):List UInt8:=ei 0 [b]
def eG (l r:List UInt8):List UInt8:=ei 1 [l,r]
def ea (l:List (List UInt8)):List UInt8 :=
 if h:l.length<2 then (match l with|[]=>sh []|a::_=>a) else eG (ea (l.take (cN l.length))) (ea (l.drop (cN l.length)))
 termination_by l.length
 decreasing_by
 ·have:=dz (n:=l.length) zo;rw [aF];omega
 ·have:=dz (n:=l.length) zo;rw [aO];omega
theorem kZ:ea []=sh []:=by rw [ea,dif_pos (by simp)]
theorem nU (a:List UInt8):ea [a]=a:=by rw [ea,dif_pos (by simp)]
theorem jU {l:List (List UInt8)} (h:2≤l.length):ea l=eG (ea (l.take (cN l.length))) (ea (l.drop (cN l.length))):=by rw [ea,dif_neg zo]
theorem dg (t:UInt8) (l:List (List UInt8)):(ei t l).length=32:=jT _
theorem tP {l:List (List UInt8)} {m:Nat} (hm:32≤m) (h:∀ a∈l,a.length≤m):(ea l).length≤m:=by
 match l,h with
 | [],_=>rw [kZ,jT];exact hm
 | [a],h=>rw [nU];exact h a (an.2 rfl)
 | a::b::r,_=>rw [jU (by simp)];unfold eG;rw [dg];exact hm
end Go.Bs
namespace Go.Proofs
open Go.Bs
attribute [local irreducible] Bs.cD Bs.Do Bs.O Bs.W Bs.Fin Bs.A Bs.Ct Bs.cE Bs.Rd Bs.Sat Bs.cK Bs.Ob Bs.dE Bs.View Bs.cz Bs.Ex Bs.dI Bs.Pu Bs.eY Bs.dN Bs.dZ
theorem mL (R:List cJ) (e:World) (n:Int) (hn:-9223372036854775808≤n∧n≤9223372036854775807) :
 Ct Tryz.prog 155 #[.int .i64 n] e R (fun v' L'=>v'=.int .i64 (Co n)∧R=L'):=by
 refine a8 (args:=[_]) Tryz.func155 rfl Tryz.ntmps155 Tryz.results155 rfl ?_
 by_cases h:n<2
 ·refine wB ?_;exact aY R rfl aX ⟨by unfold Co;rw [aI h];rfl,rfl⟩
 obtain ⟨m,rfl⟩:=Int.eq_ofNat_of_zero_le (show 0≤n by omega)
 have hw:IntKind.u64.wrap ((m:Int) - 1)=((m - 1:Nat):Int):=by
  rw [show (m:Int) - 1=((m - 1:Nat):Int) by omega];exact RK _ zo
 have hl:l7 (m - 1)=(m - 1).log2+1:=by unfold l7;rw [aB zo]
 have hb:(m - 1).log2<63:=(Nat.log2_lt zo).2 zo;have hp:2 ^ (m - 1).log2≤m - 1:=Nat.log2_self_le zo;refine wB ?_;rw [hw];refine aZ rfl rfl (Mu R e (m - 1) zo) ?_;rintro _ _ ⟨rfl,rfl⟩;rw [hl];refine wB ?_;refine aY R rfl aX ⟨?_,rfl⟩;rw [kY];unfold cN;rw [aB zo]
 show Value.int _ _=Value.int _ _
 congr 1
 rw [show ((((m - 1).log2+1:Nat):Int) - 1).toNat=(m - 1).log2 by omega,show IntKind.i64.bits=64 from rfl,Nat.min_eq_left zo,Int.one_mul];have e1:(2:Int) ^ (m - 1).log2=((2 ^ (m - 1).log2:Nat):Int):=by simp
 rw [e1];clear e1
 generalize 2 ^ (m - 1).log2=q at *
 exact wrap_i64 zo zo
theorem fc (R:List cJ) (e:World) (t:UInt8) (v:Value) (ts:List ej) (hv:cE R 1 v ts.length (ts.map (·.1))) (ht:dQ R ts) (hb:∀ a∈ts,a.2.length≤1000000) (hl:ts.length≤10000) :
 Ct Tryz.prog 189 #[u8 t,v] e R (fun v' L'=>∃ ad c,v'=.slice ad (ei t (ts.map (·.2))).length c∧L'=cS (.slice ad (ei t (ts.map (·.2))).length c) (ei t (ts.map (·.2)))::R):=by
 refine a7 (hv.shape zo) ?_;rintro ⟨⟨ad,cap,rfl,h3,h4,h5,h6⟩,_⟩;simp only [maxLen] at h4
 have Cd:∀ i,(rJ (ts.take i)).length≤10000000000:=fun i=>by
  have h1:=Cn (l:=ts.take i) (m:=1000000) (fun a ha=>hb a (aR ha));rw [aF] at h1
  have h2:1000000*min i ts.length≤1000000*10000:=Nat.mul_le_mul_left _ zo
  omega
 refine a8 (args:=[_,_]) Tryz.func189 rfl Tryz.ntmps189 Tryz.results189 rfl ?_
 (repeat (refine wA ?_;intros))
 refine W.fo (cj (hH (n:=1) (k:=1) (cap:=1) zo zl (by simp)) aX) ?_;refine bq (ι:=Nat × Option Addr × Nat) (fun i=>[(12,.int .i64 (i.1:Int)),(11,.int .i64 (ts.length:Int)),(10,.slice ad ts.length cap),(5,.slice i.2.1 (1+(rJ (ts.take i.1)).length) i.2.2)])
  (fun i=>dE pG 1 (.slice i.2.1 (1+(rJ (ts.take i.1)).length) i.2.2) (1+(rJ (ts.take i.1)).length) ((t::rJ (ts.take i.1)).map u8)::R) (fun i=>i.1≤ts.length) (fun i=>ts.length - i.1) (0,_,1) (aH _) (cC rfl (cC rfl (cC rfl (cC rfl dd)))) aX ?_
 rintro ⟨i,dW,c2⟩ hi;dsimp only at hi ⊢
 have hci:=Cd i
 by_cases cO:i<ts.length
 ·rcases h6 with h6|⟨gl,ol,rfl⟩
  ·omega
  have hr:Rd R ⟨gl,ol+i,none⟩ (ts[i]'cO).1:=hv.elem (by rw [aL,ab cO];rfl);have jt:=ht _ (aA cO);have Aa:=hb _ (aA cO);have Ab:=Eh cO
  generalize ts[i]'cO=y at *
  obtain ⟨yv,yt⟩:=y;dsimp only at jt Aa Ab hr
  refine wB ?_;refine bC (bo rfl rfl rfl .zero jt rfl rfl mG zm zo fun eJ c3 _=>?_)
  refine wB ?_;refine bi (i+1,eJ,c3) cO zd ?_ ?_
  ·dsimp only;rw [Ab,aa,← Nat.add_assoc];exact cC rfl (cC rfl (cC rfl (cC rfl dd)))
  ·dsimp only;rw [Ab,aa,← Nat.add_assoc,← List.cons_append,ah];exact zE
 rw [aG zo] at hci ⊢
 have htg:ei t (ts.map (·.2))=sh (t::rJ ts):=rfl;rw [htg]
 have tI:db (dE pG 1 (.slice dW (1+(rJ ts).length) c2) (1+(rJ ts).length) ((t::rJ ts).map u8)::R) (.slice dW (1+(rJ ts).length) c2) (t::rJ ts):=by
  unfold db;rw [aN,Nat.add_comm];exact bb .zero
 refine wB ?_;refine aZ rfl rfl (tK _ e _ _ tI (by rw [aN];omega)) ?_;rintro _ _ ⟨jA,c4,rfl,rfl⟩;refine wB ?_;exact aY (cS (.slice jA (sh (t::rJ ts)).length c4) (sh (t::rJ ts))::R) rfl zE ⟨jA,c4,rfl,rfl⟩
theorem yh (R:List cJ) (e:World) (t:UInt8) (v:Value) (ts:List ej) (hv:cE R 1 v ts.length (ts.map (·.1))) (ht:dQ R ts) (hb:∀ a∈ts,a.2.length≤1000000) (hl:ts.length≤10000) :
 Ct Tryz.prog 70 #[u8 t,v] e R (fun v' L'=>∃ ad c,v'=.slice ad (ei t (ts.map (·.2))).length c∧L'=cS (.slice ad (ei t (ts.map (·.2))).length c) (ei t (ts.map (·.2)))::R):=by
 refine a7 (hv.shape zo) ?_;rintro ⟨⟨ad,cap,rfl,h3,h4,h5,h6⟩,_⟩;simp only [maxLen] at h4
 have Cd:∀ i,(rJ (ts.take i)).length≤10000000000:=fun i=>by
  have h1:=Cn (l:=ts.take i) (m:=1000000) (fun a ha=>hb a (aR ha));rw [aF] at h1
  have h2:1000000*min i ts.length≤1000000*10000:=Nat.mul_le_mul_left _ zo
  omega
 refine a8 (args:=[_,_]) Tryz.func70 rfl Tryz.ntmps70 Tryz.results70 rfl ?_
 (repeat (refine wA ?_;intros))
 refine W.fo (cj (hH (n:=1) (k:=1) (cap:=1) zo zl (by simp)) aX) ?_;refine bq (ι:=Nat × Option Addr × Nat) (fun i=>[(6,.int .i64 (i.1:Int)),(1,.slice ad ts.length cap),(5,.slice i.2.1 (1+(rJ (ts.take i.1)).length) i.2.2)])
  (fun i=>dE pG 1 (.slice i.2.1 (1+(rJ (ts.take i.1)).length) i.2.2) (1+(rJ (ts.take i.1)).length) ((t::rJ (ts.take i.1)).map u8)::R) (fun i=>i.1≤ts.length) (fun i=>ts.length - i.1) (0,_,1) (aH _) (cC rfl (cC rfl (cC rfl dd))) aX ?_
 rintro ⟨i,dW,c2⟩ hi;dsimp only at hi ⊢
 have hci:=Cd i
 by_cases cO:i<ts.length
 ·rcases h6 with h6|⟨gl,ol,rfl⟩
  ·omega
  have hr:Rd R ⟨gl,ol+i,none⟩ (ts[i]'cO).1:=hv.elem (by rw [aL,ab cO];rfl);have jt:=ht _ (aA cO);have Aa:=hb _ (aA cO);have Ab:=Eh cO
  generalize ts[i]'cO=y at *
  obtain ⟨yv,yt⟩:=y;dsimp only at jt Aa Ab hr
  refine wB ?_;refine bC (bo rfl rfl rfl .zero jt rfl rfl mG zm zo fun eJ c3 _=>?_)
  refine wB ?_;refine bi (i+1,eJ,c3) cO zd ?_ ?_
  ·dsimp only;rw [Ab,aa,← Nat.add_assoc];exact cC rfl (cC rfl (cC rfl dd))
  ·dsimp only;rw [Ab,aa,← Nat.add_assoc,← List.cons_append,ah];exact zE
 rw [aG zo] at hci ⊢
 have htg:ei t (ts.map (·.2))=sh (t::rJ ts):=rfl;rw [htg]
 have tI:db (dE pG 1 (.slice dW (1+(rJ ts).length) c2) (1+(rJ ts).length) ((t::rJ ts).map u8)::R) (.slice dW (1+(rJ ts).length) c2) (t::rJ ts):=by
  unfold db;rw [aN,Nat.add_comm];exact bb .zero
 refine wB ?_;refine aZ rfl rfl (JS _ e _ _ tI (by rw [aN];omega)) ?_;rintro _ _ ⟨jA,c4,rfl,rfl⟩;refine wB ?_;exact aY (cS (.slice jA (sh (t::rJ ts)).length c4) (sh (t::rJ ts))::R) rfl zE ⟨jA,c4,rfl,rfl⟩
theorem qU (R:List cJ) (e:World) (v:Value) (b:List UInt8) (hv:db R v b) (hb:b.length≤1000000) :
 Ct Tryz.prog 101 #[v] e R (fun v' L'=>∃ ad c,v'=.slice ad (cY b).length c∧L'=cS (.slice ad (cY b).length c) (cY b)::R):=by
 refine a7 (cn hv) fun ho=>?_
 refine a8 (args:=[_]) Tryz.func101 rfl Tryz.ntmps101 Tryz.results101 rfl ?_
 (repeat' first|(apply bY;exact rfl;exact rfl;exact rfl;exact .one (eQ ho) rfl .nil;exact rfl;exact rfl;intro _)|refine Za ?_|refine Zb ?_|apply Zc|apply Zd|apply Ze|apply Zf)
 refine aZ rfl rfl (fc _ e 0 _ [(v,b)] (bB .zero rfl zl) (fun a ha=>by rw [an.1 ha];exact hv.tail) (fun a ha=>by rw [an.1 ha];exact hb) (by simp)) ?_;rintro _ _ ⟨ad,c,rfl,rfl⟩;refine wB ?_;exact aY (cS (.slice ad (cY b).length c) (cY b)::R) rfl zE ⟨ad,c,rfl,rfl⟩
theorem mB (R:List cJ) (e:World) (v u:Value) (b c:List UInt8) (hv:db R v b) (hu:db R u c) (hb:b.length≤1000000) (hc:c.length≤1000000) :
 Ct Tryz.prog 156 #[v,u] e R (fun v' L'=>∃ ad k,v'=.slice ad (eG b c).length k∧L'=cS (.slice ad (eG b c).length k) (eG b c)::R):=by
 refine a7 (cn hv) fun ho=>?_
 refine a7 (cn hu) fun ho2=>?_
 refine a8 (args:=[_,_]) Tryz.func156 rfl Tryz.ntmps156 Tryz.results156 rfl ?_
 (repeat' first|(apply bY;exact rfl;exact rfl;exact rfl;exact .one (eQ ho) rfl (.one (eQ ho2) rfl .nil);exact rfl;exact rfl;intro _)|refine Za ?_|refine Zb ?_|apply Zc|apply Zd|apply Ze|apply Zf)
 refine aZ rfl rfl (fc _ e 1 _ [(v,b),(u,c)] (bB .zero rfl zl) (fun a ha=>?_) (fun a ha=>?_) (by simp)) ?_
 ·rcases aQ.1 ha with rfl|ha
  ·exact hv.tail
  ·rw [an.1 ha];exact hu.tail
 ·rcases aQ.1 ha with rfl|ha
  ·exact hb
  ·rw [an.1 ha];exact hc
 rintro _ _ ⟨ad,k,rfl,rfl⟩;refine wB ?_;exact aY (cS (.slice ad (eG b c).length k) (eG b c)::R) rfl zE ⟨ad,k,rfl,rfl⟩
end Go.Proofs
namespace Go.Proofs
attribute [local irreducible] Bs.cD Bs.Do Bs.O Bs.W Bs.Fin Bs.A Bs.Ct Bs.cE Bs.Rd Bs.Sat Bs.cK Bs.Ob Bs.dE Bs.View Bs.cz Bs.Ex Bs.dI Bs.Pu Bs.eY Bs.dN Bs.dZ
open Go.Bs
open Tryz
theorem k6 {L:List cJ} {ad:Option Addr} {c k:Nat} {ts:List ej} (h:cE L 1 (.slice ad ts.length c) ts.length (ts.map (·.1))) (hk:k≤ts.length):cE L 1 (.slice ad k c) (ts.take k).length ((ts.take k).map (·.1)):=by
 have:=cE.p6 h hk;rw [Nat.mul_one,← List.map_take] at this
 rw [aF,Nat.min_eq_left hk];exact this
theorem vz {L:List cJ} {ad:Option Addr} {c k:Nat} {ts:List ej} (h:cE L 1 (.slice ad ts.length c) ts.length (ts.map (·.1))) (hk:k≤ts.length):cE L 1 (.slice (cutAt ad c k 1) (ts.length - k) (c - k)) (ts.drop k).length ((ts.drop k).map (·.1)):=by
 have:=cE.rG h hk;rw [Nat.mul_one,← List.map_drop] at this
 rw [aO];exact this
theorem jM {L:List cJ} {a b:List ej} (h:dQ L a) (hs:∀ x∈b,x∈a):dQ L b:=fun x hx=>h x (hs x hx)
theorem j4:∀ (n:Nat) (R:List cJ) (e:World) (v:Value) (ts:List ej),ts.length=n→cE R 1 v ts.length (ts.map (·.1))→dQ R ts→(∀ a∈ts,a.2.length≤1000000)→ts.length≤1000000 →
 Ct prog 78 #[v] e R (fun v' L'=>∃ ad c,v'=.slice ad (ea (ts.map (·.2))).length c∧L'=cS (.slice ad (ea (ts.map (·.2))).length c) (ea (ts.map (·.2)))::R):=by
 intro n
 induction n using Nat.strongRecOn with
 | _ n ih =>
 intro R e v ts hn hv ht hb hl;refine a7 (hv.shape zo) ?_;rintro ⟨⟨ad,cap,rfl,h3,h4,h5,h6⟩,_⟩;simp only [maxLen] at h4
 refine a8 (args:=[_]) func78 rfl ntmps78 results78 rfl ?_
 by_cases h0:ts.length=0
 ·obtain rfl:ts=[]:=List.eq_nil_of_length_eq_zero h0;refine wB ?_;refine aZ rfl rfl (tK _ e _ [] (db.nil _) (by simp)) ?_;rintro _ _ ⟨dW,c2,rfl,rfl⟩;refine wB ?_;exact aY (cS (.slice dW (sh []).length c2) (sh [])::R) rfl zE ⟨dW,c2,by rw [List.map_nil,kZ];rfl,by rw [List.map_nil,kZ]⟩
 by_cases h1:ts.length=1
 ·obtain ⟨a,rfl⟩:=List.length_eq_one_iff.1 h1;rcases h6 with h6|⟨gl,ol,rfl⟩
  ·omega
  have hr:Rd R ⟨gl,ol+0,none⟩ a.1:=hv.elem rfl;have hta:=ht a (an.2 rfl);have T6:=hb a (an.2 rfl);refine wB ?_;refine bC <| Do.fo (dv pG 1) (bo (v:=nY) (k:=0) rfl rfl rfl .zero hta rfl rfl mG zm zo fun eJ c3 _=>?_)
  simp only [aC,List.nil_append];have Vv:ea ([a].map (·.2))=a.2:=nU _;rw [Vv];refine wB ?_;exact aY (cS (.slice eJ a.2.length c3) a.2::R) rfl zE ⟨eJ,c3,rfl,rfl⟩
 have hs:=dz (n:=ts.length) zo;refine wB ?_;refine aZ rfl rfl (mL R e ts.length zo) ?_;rintro _ _ ⟨rfl,rfl⟩;rw [kY];have rI:=jU (l:=ts.map (·.2)) (by rw [ae];omega);rw [ae,← List.map_take,← List.map_drop] at rI
 have qi:=tP (l:=(ts.take (cN ts.length)).map (·.2)) (m:=1000000) zo (fun a ha=>by obtain ⟨x,hx,rfl⟩:=aE.1 ha;exact hb x (aR hx));have pH:=tP (l:=(ts.drop (cN ts.length)).map (·.2)) (m:=1000000) zo (fun a ha=>by obtain ⟨x,hx,rfl⟩:=aE.1 ha;exact hb x (aV hx));have Ei:=k6 hv (k:=cN ts.length) zo;have Cp:=vz hv (k:=cN ts.length) zo
 generalize cN ts.length=k at *
 have QI:(ts.take k).length=k:=by rw [aF];omega
 have Ej:(ts.drop k).length=ts.length - k:=aO;refine wB ?_;refine bz (id:=7) [9] mixed ?_
 (refine tM 0 ?_;refine tM 1 ?_;refine tk 2 _ rfl (cD.iV rfl rfl zo zo) ?_;refine tM 4 ?_;refine tM 5 ?_;refine tk 6 _ rfl (cD.lm rfl rfl zo zo) ?_)
 refine tO 3 ?_;refine bg rfl rfl (ih k zo R e _ (ts.take k) QI Ei (jM ht fun x hx=>aR hx) (fun a ha=>hb a (aR ha)) zo) ?_;rintro _ _ ⟨ef,c1,rfl,rfl⟩;refine ⟨fun _=>zE,?_⟩;refine tO 7 ?_;refine bg rfl rfl (ih (ts.length - k) zo _ e _ (ts.drop k) Ej Cp.tail (dQ.tail (jM ht fun x hx=>aV hx)) (fun a ha=>hb a (aV ha)) zo) ?_;rintro _ _ ⟨dW,c2,rfl,rfl⟩;refine ⟨fun _=>zE,?_⟩;refine tO 8 ?_;refine bg rfl rfl (mB _ e _ _ _ _ (bb (.succ .zero)) (bb .zero) qi pH) ?_;rintro _ _ ⟨eJ,c3,rfl,rfl⟩;refine ⟨fun _=>zE,?_⟩;rw [← rI]
 ((refine tO 9 ?_;refine dV (bj rfl) ?_))
 refine bf zK ?_;refine wB ?_;exact aY (cS (.slice eJ (ea (ts.map (·.2))).length c3) (ea (ts.map (·.2)))::R) rfl zE ⟨eJ,c3,rfl,rfl⟩
theorem dQ.dY {L R:List cJ} {l:List ej} (p:cR L (cH l) R):dQ L l:=fun a ha=>(eF (R:=R) a ha).cL p.out
theorem Ek {L:List cJ} {l:List ej} (h:dQ L l):∀ x,dN L x→∀ c∈l.map (·.1),c.oneCell'=true:=fun x hx c hc=>by
 obtain ⟨a,ha,rfl⟩:=aE.1 hc;exact cn (h a ha) x hx
end Go.Proofs
namespace Go.Bs
end Go.Bs
namespace Go.Proofs
open Go.Bs
attribute [local irreducible] Bs.cD Bs.Do Bs.O Bs.W Bs.Fin Bs.A Bs.Ct Bs.cE Bs.Rd Bs.Sat Bs.cK Bs.Ob Bs.dE Bs.View Bs.cz Bs.Ex Bs.dI Bs.Pu Bs.eY Bs.dN Bs.dZ
theorem fZ {ad:Option Addr} {c:Nat} {out:List ej} {v:Value} {b:List UInt8} {R:List cJ} :
 cz (dE ez 1 (.slice ad (out.length+1) c) (out.length+1) (out.map (·.1)++[v])::cS v b::cH out::R) (cV (.slice ad (out++[(v,b)]).length c) (out++[(v,b)])::cH (out++[(v,b)])::R):=by
 unfold cV;rw [aa,aj,ah];refine bh (cj (ju (a:=(v,b))) (cj (bw (.succ .zero) aX) eL))
end Go.Proofs
namespace Go.Proofs
open Go.Bs
structure DD where
 name:List UInt8
 ii:Nat
 fw:List UInt8
 notes:List UInt8
 deriving DecidableEq
def pI (l:List UInt8):Prop:=1≤l.length∧l.length≤20∧∀ b∈l,97≤b.toNat∧b.toNat≤122
instance Xr (l:List UInt8):Decidable (pI l):=by unfold pI;infer_instance
def DD.right (m:DD):Prop:=pI m.name∧0<m.ii∧m.fw.length=32∧m.notes.length≤64
instance aan (m:DD):Decidable m.right:=by unfold DD.right;infer_instance
abbrev tQ (m:DD) (vf vn:Value):List Value:=[.string (str m.name),.int .u32 (m.ii:Int),vf,vn]
def lO (m:DD):List UInt8:=77::(enc m.name++(be m.ii 4++(m.fw++enc m.notes)))
def GN (b:List UInt8):eX:=⟨b,false⟩
def yi (b:List UInt8):eX:=(GN b).next 1
def El (b:List UInt8):eX:=(yi b).tw 20
def Em (b:List UInt8):eX:=(El b).next 4
def En (b:List UInt8):eX:=(Em b).next 32
def si (b:List UInt8):eX:=(En b).tw 64
def dB (b:List UInt8):DD:=⟨(yi b).bytes 20,(El b).num 4,(Em b).take 32,(En b).bytes 64⟩
def jk (b:List UInt8):Prop:=(GN b).num 1=77∧((si b).bad=false∧(si b).left=[])∧(dB b).right
instance Vw (b:List UInt8):Decidable (jk b):=by unfold jk;infer_instance
theorem wk {m:DD}:(lO m).length=m.name.length+m.fw.length+m.notes.length+9:=by
 unfold lO;rw [aN,aa,aa,aa,iy,iy,cX]
 omega
theorem OZ {n:Nat} {r:List UInt8} (h:n<4294967296):eX.num ⟨be n 4++r,false⟩ 4=n∧eX.next ⟨be n 4++r,false⟩ 4=⟨r,false⟩:=by
 have h1:=j3 (a:=be n 4) (rest:=r);rw [cX] at h1
 exact ⟨by rw [eX.num];show numOf (eX.take _ ((4:Nat):Int))=n;rw [h1.1];exact qR n h,h1.2⟩
theorem O0 {m:DD} (h:m.right) (hv:m.ii<4294967296):jk (lO m)∧dB (lO m)=m:=by
 obtain ⟨h1,h2,h3,h4⟩:=id h
 have e1:(GN (lO m)).num 1=77∧yi (lO m)=⟨enc m.name++(be m.ii 4++(m.fw++enc m.notes)),false⟩:=by
  unfold yi GN lO
  generalize enc m.name++(be m.ii 4++(m.fw++enc m.notes))=r
  have q:=j3 (a:=[(77:UInt8)]) (rest:=r);refine ⟨?_,q.2⟩;unfold eX.num;have q1:eX.take ⟨77::r,false⟩ 1=[77]:=q.1;rw [q1];rfl
 have e2:=u9 m.name (be m.ii 4++(m.fw++enc m.notes)) 20 (by have:=h1.2.1;omega) (by have:=h1.2.1;omega);have e3:=OZ (r:=m.fw++enc m.notes) hv;have e4:=j3 (a:=m.fw) (rest:=enc m.notes);rw [h3] at e4
 have e5:=u9 m.notes [] 64 zo zo;rw [aK] at e5
 have f2:El (lO m)=⟨be m.ii 4++(m.fw++enc m.notes),false⟩:=by unfold El;rw [e1.2];exact e2.2
 have f3:Em (lO m)=⟨m.fw++enc m.notes,false⟩:=by unfold Em;rw [f2];exact e3.2
 have f4:En (lO m)=⟨enc m.notes,false⟩:=by unfold En;rw [f3];exact e4.2
 have f5:si (lO m)=⟨[],false⟩:=by unfold si;rw [f4];exact e5.2
 have fm:dB (lO m)=m:=by
  unfold dB;rw [e1.2,f2,f3,f4,e2.1,e3.1,e5.1];have:=e4.1;rw [show (32:Int)=((32:Nat):Int) from rfl,this]
 exact ⟨⟨e1.1,by rw [f5];exact ⟨rfl,rfl⟩,by rw [fm];exact h⟩,fm⟩
def fh (iD:List UInt8):UInt32:=wd (ei 13 [iD]) 0
def nV (d:UInt32) (bit side:Nat):Bool:=decide (IntKind.i64.wrap (Go.bits .and .u32 ((d >>> UInt32.ofNat (31 - (bit:Int)).toNat).toNat:Int) 1)=(side:Int))
def fF (seed:List UInt8) (key bit side:Nat):List UInt8:=ei 10 [seed,be key 4++[UInt8.ofNat bit,UInt8.ofNat side]]
def kv (seed:List UInt8) (key bit side:Nat):List UInt8:=ei 11 [fF seed key bit side]
def jB (c:Nat→Nat→Bool) (seed:List UInt8) (key n:Nat):List UInt8:=if c (n / 2) (n % 2) then fF seed key (n / 2) (n % 2) else kv seed key (n / 2) (n % 2)
def ny (c:Nat→Nat→Bool) (seed:List UInt8) (key:Nat):List (List UInt8):=(List.range 64).map (jB c seed key)
def iz (seed:List UInt8) (key:Nat):List UInt8:=ei 12 (ny (fun _ _=>false) seed key)
def qV (seed:List UInt8) (key:Nat) (iD:List UInt8):List (List UInt8):=ny (nV (fh iD)) seed key
def iE (d:UInt32) (l:List (List UInt8)) (n:Nat):List UInt8:=if nV d (n / 2) (n % 2) then ei 11 [l.getD n []] else l.getD n []
def iF (iD:List UInt8) (l:List (List UInt8)):List UInt8:=ei 12 ((List.range 64).map (iE (fh iD) l))
theorem tR (c:Nat→Nat→Bool) (seed:List UInt8) (key n:Nat):(jB c seed key n).length=32:=by
 unfold jB;split
 ·exact dg _ _
 ·exact dg _ _
theorem nz (c:Nat→Nat→Bool) (seed:List UInt8) (key:Nat):(ny c seed key).length=64:=by simp [ny]
theorem tS {c:Nat→Nat→Bool} {seed:List UInt8} {key:Nat}:∀ a∈ny c seed key,a.length=32:=fun a ha=>by
 obtain ⟨n,_,rfl⟩:=aE.1 ha;exact tR _ _ _ _
theorem Cq (seed:List UInt8) (key:Nat) (iD:List UInt8):iF iD (qV seed key iD)=iz seed key:=by
 unfold iF iz ny
 congr 1
 apply List.map_congr_left;intro n hn;have hn:=List.mem_range.1 hn
 have hg:(qV seed key iD).getD n []=jB (nV (fh iD)) seed key n:=by
  unfold qV ny;rw [ax,aL,List.getElem?_range hn]
  rfl
 have hR:jB (fun _ _=>false) seed key n=kv seed key (n / 2) (n % 2):=aB Bool.false_ne_true;rw [hR];unfold iE;rw [hg]
 cases hc:nV (fh iD) (n / 2) (n % 2) with
 | true =>
  have hP:jB (nV (fh iD)) seed key n=fF seed key (n / 2) (n % 2):=by unfold jB;rw [hc];exact aI rfl
  rw [hP,aI rfl,kv]
 | false =>
  have hP:jB (nV (fh iD)) seed key n=kv seed key (n / 2) (n % 2):=by unfold jB;rw [hc];exact aB (by decide)
  rw [hP,aB (by decide)]
def iR:List (List UInt8)→List (List UInt8)
 | a::b::r=>ei 14 [a,b]::iR r
 | _=>[]
def eW (seed:List UInt8):List (List UInt8):=(List.range 16).map (iz seed)
def pP (l:List (List UInt8)):Nat→List (List UInt8)
 | 0=>l
 | n+1=>iR (pP l n)
def kN (seed:List UInt8):List UInt8:=(pP (eW seed) 4).getD 0 []
def yj (l:List (List UInt8)) (i:Nat):List (List UInt8):=(List.range 4).map fun h=>(pP l h).getD ((i / 2 ^ h) ^^^ 1) []
structure xa where
 idx:Nat
 parts:List (List UInt8)
 path:List (List UInt8)
 deriving DecidableEq
def rK (seed:List UInt8) (i:Nat) (iD:List UInt8):xa:=⟨i,qV seed i iD,yj (eW seed) i⟩
def xa.right (s:xa):Prop:=s.idx<16∧s.parts.length=64∧(∀ a∈s.parts,a.length=32)∧s.path.length=4∧∀ a∈s.path,a.length=32
instance (s:xa):Decidable s.right:=by unfold xa.right;infer_instance
def lV:Nat→List UInt8→List (List UInt8)→List UInt8
 | _,t,[]=>t
 | i,t,o::r=>lV (i / 2) (if i % 2=0 then ei 14 [t,o] else ei 14 [o,t]) r
def xc (iG iD:List UInt8) (s:xa):Prop:=s.right∧lV s.idx (iF iD s.parts) s.path=iG
instance (iG iD:List UInt8) (s:xa):Decidable (xc iG iD s):=by unfold xc;infer_instance
theorem iM:∀ l:List (List UInt8),(iR l).length=l.length / 2
 | []=>by simp [iR]
 | [_]=>by simp [iR]
 | _::_::r=>by simp only [iR,aN,iM r];omega
theorem sk:∀ (l:List (List UInt8)) (i:Nat),2*i+1<l.length→(iR l).getD i []=ei 14 [l.getD (2*i) [],l.getD (2*i+1) []]
 | [],i,h=>by simp at h
 | [_],i,h=>by simp at h
 | a::b::r,0,_=>rfl
 | a::b::r,i+1,h=>by
  have:=sk r i (by simp only [aN] at h;omega)
  show (iR r).getD i []=_
  rw [this]
  rfl
theorem tT:∀ l:List (List UInt8),∀ a∈iR l,a.length=32
 | [],a,h=>by cases h
 | [_],a,h=>by cases h
 | x::y::r,a,h=>by
  rcases aQ.1 h with rfl|h
  ·exact dg _ _
  ·exact tT r a h
theorem mM {l:List (List UInt8)} (hl:l.length=16):∀ n,n≤4→(pP l n).length=2 ^ (4 - n):=by
 intro n hn
 match n,hn with
 | 0,_=>exact hl
 | 1,_=>simp [pP,iM,hl]
 | 2,_=>simp [pP,iM,hl]
 | 3,_=>simp [pP,iM,hl]
 | 4,_=>simp [pP,iM,hl]
theorem kx (seed:List UInt8):(eW seed).length=16:=by simp [eW]
theorem ng {seed:List UInt8}:∀ a∈eW seed,a.length=32:=fun a ha=>by
 obtain ⟨n,_,rfl⟩:=aE.1 ha;exact dg _ _
theorem qW {l:List (List UInt8)} (h:∀ a∈l,a.length=32):∀ n,∀ a∈pP l n,a.length=32
 | 0=>h
 | n+1=>tT _
theorem vA {l:List (List UInt8)} {i:Nat} (h:∀ a∈l,a.length=32) (hi:i<l.length):(l.getD i []).length=32:=by
 rw [ax,ab hi];exact h _ (aA hi)
theorem j5 (seed:List UInt8):(kN seed).length=32:=vA (qW ng 4) (by rw [mM (kx seed) 4 zo];decide)
theorem RO:∀ {n:Nat},n<16→n ^^^ 1=if n % 2=0 then n+1 else n - 1:=by decide
theorem oR {l:List (List UInt8)} {i:Nat} (hi:i<l.length) (IH:i<16) (he:l.length % 2=0):(if i % 2=0 then ei 14 [l.getD i [],l.getD (i ^^^ 1) []] else ei 14 [l.getD (i ^^^ 1) [],l.getD i []])=(iR l).getD (i / 2) []:=by
 rw [sk l (i / 2) zo,RO IH]
 split
 ·rename_i h;rw [show 2*(i / 2)=i by omega]
 ·rename_i h;rw [show 2*(i / 2)+1=i by omega,show 2*(i / 2)=i - 1 by omega]
theorem JV (seed:List UInt8) {i:Nat} (hi:i<16):lV i ((eW seed).getD i []) (yj (eW seed) i)=kN seed:=by
 have hl:=mM (kx seed);have s0:=oR (l:=pP (eW seed) 0) (i:=i) (by rw [hl 0 zo];simpa using hi) zo (by rw [hl 0 zo]);have s1:=oR (l:=pP (eW seed) 1) (i:=i / 2) (by rw [hl 1 zo];simp;omega) zo (by rw [hl 1 zo]);have s2:=oR (l:=pP (eW seed) 2) (i:=i / 2 / 2) (by rw [hl 2 zo];simp;omega) zo (by rw [hl 2 zo]);have s3:=oR (l:=pP (eW seed) 3) (i:=i / 2 / 2 / 2) (by rw [hl 3 zo];simp;omega) zo (by rw [hl 3 zo])
 show lV i ((pP (eW seed) 0).getD i []) [(pP (eW seed) 0).getD ((i / 2 ^ 0) ^^^ 1) [],(pP (eW seed) 1).getD ((i / 2 ^ 1) ^^^ 1) [],(pP (eW seed) 2).getD ((i / 2 ^ 2) ^^^ 1) [],(pP (eW seed) 3).getD ((i / 2 ^ 3) ^^^ 1) []]=_
 rw [show i / 2 ^ 0=i by simp,show i / 2 ^ 1=i / 2 by simp,show i / 2 ^ 2=i / 2 / 2 by rw [Nat.div_div_eq_div_mul],show i / 2 ^ 3=i / 2 / 2 / 2 by rw [Nat.div_div_eq_div_mul,Nat.div_div_eq_div_mul]];simp only [lV];rw [s0]
 show (if i / 2 / 2 / 2 % 2=0 then ei 14 [if i / 2 / 2 % 2=0 then ei 14 [if i / 2 % 2=0 then ei 14 [(pP (eW seed) 1).getD (i / 2) [],_] else ei 14 [_,(pP (eW seed) 1).getD (i / 2) []],_] else ei 14 [_,if i / 2 % 2=0 then ei 14 [(pP (eW seed) 1).getD (i / 2) [],_] else ei 14 [_,(pP (eW seed) 1).getD (i / 2) []]],_] else ei 14 [_,if i / 2 / 2 % 2=0 then ei 14 [if i / 2 % 2=0 then ei 14 [(pP (eW seed) 1).getD (i / 2) [],_] else ei 14 [_,(pP (eW seed) 1).getD (i / 2) []],_] else ei 14 [_,if i / 2 % 2=0 then ei 14 [(pP (eW seed) 1).getD (i / 2) [],_] else ei 14 [_,(pP (eW seed) 1).getD (i / 2) []]]])=_
 rw [s1]
 show (if i / 2 / 2 / 2 % 2=0 then ei 14 [if i / 2 / 2 % 2=0 then ei 14 [(pP (eW seed) 2).getD (i / 2 / 2) [],_] else ei 14 [_,(pP (eW seed) 2).getD (i / 2 / 2) []],_] else ei 14 [_,if i / 2 / 2 % 2=0 then ei 14 [(pP (eW seed) 2).getD (i / 2 / 2) [],_] else ei 14 [_,(pP (eW seed) 2).getD (i / 2 / 2) []]])=_
 rw [s2]
 show (if i / 2 / 2 / 2 % 2=0 then ei 14 [(pP (eW seed) 3).getD (i / 2 / 2 / 2) [],_] else ei 14 [_,(pP (eW seed) 3).getD (i / 2 / 2 / 2) []])=_
 rw [s3];rw [show i / 2 / 2 / 2 / 2=0 by omega]
 rfl
theorem lz (l:List (List UInt8)) (i:Nat):(yj l i).length=4:=by simp [yj]
theorem GO {seed:List UInt8} {i:Nat} (hi:i<16):∀ a∈yj (eW seed) i,a.length=32:=fun a ha=>by
 obtain ⟨h,hh,rfl⟩:=aE.1 ha;have hh:=List.mem_range.1 hh;refine vA (qW ng h) ?_;rw [mM (kx seed) h zo,RO (Nat.lt_of_le_of_lt (Nat.div_le_self _ _) hi)]
 match h,hh with
 | 0,_=>simp;split<;>omega
 | 1,_=>simp;split<;>omega
 | 2,_=>simp;split<;>omega
 | 3,_=>simp;split<;>omega
theorem j6 {seed iD:List UInt8} {i:Nat} (hi:i<16):(rK seed i iD).right:=⟨hi,nz _ _ _,tS,lz _ _,GO hi⟩
theorem yl {seed iD:List UInt8} {i:Nat} (hi:i<16):xc (kN seed) iD (rK seed i iD):=by
 refine ⟨j6 hi,?_⟩
 show lV i (iF iD (qV seed i iD)) (yj (eW seed) i)=_
 rw [Cq,← JV seed hi]
 congr 1
 unfold eW;rw [ax,aL,List.getElem?_range hi]
 rfl
end Go.Proofs
namespace Go.Proofs
attribute [local irreducible] Bs.cD Bs.Do Bs.O Bs.W Bs.Fin Bs.A Bs.Ct Bs.cE Bs.Rd Bs.Sat Bs.cK Bs.Ob Bs.dE Bs.View Bs.cz Bs.Ex Bs.dI Bs.Pu Bs.eY Bs.dN Bs.dZ
open Go.Bs
open Tryz
variable (R:List cJ) (e:World)
theorem mN (n j b:Nat) (hj:j≤b):IntKind.u8.wrap ((n:Int).fdiv (2 ^ (min j b)))=((UInt8.ofNat (n / 2 ^ j)).toNat:Int):=by
 rw [Nat.min_eq_left hj,Int.fdiv_eq_ediv_of_nonneg _ (by exact Int.le_of_lt (Int.pow_pos zo))];have h2:(2:Int) ^ j=((2 ^ j:Nat):Int):=by simp
 rw [h2,← Int.natCast_ediv];unfold IntKind.wrap
 simp [IntKind.bits,IntKind.signed]
theorem Eo (n:Nat):IntKind.u8.wrap (n:Int)=((UInt8.ofNat n).toNat:Int):=by
 unfold IntKind.wrap
 simp [IntKind.bits,IntKind.signed]
theorem Ep (ad:Option Addr) (c:Nat) (b:List UInt8) (n:Nat) (hn:n<4294967296) (hl:b.length+4≤140737488355328) :
 Ct prog 146 #[.slice ad b.length c,.int .u32 n] e (cS (.slice ad b.length c) b::R) (fun v' L'=>∃ ad c,v'=.slice ad (b++be n 4).length c∧L'=cS (.slice ad (b++be n 4).length c) (b++be n 4)::R):=by
 refine a8 (args:=[_,_]) func146 rfl ntmps146 results146 rfl ?_
 (repeat (refine wA ?_;intros))
 have e1:[Value.int .u8 (IntKind.u8.wrap ((n:Int).fdiv (2 ^ min (24:Int).toNat IntKind.u32.bits))),.int .u8 (IntKind.u8.wrap ((n:Int).fdiv (2 ^ min (16:Int).toNat IntKind.u32.bits))),.int .u8 (IntKind.u8.wrap ((n:Int).fdiv (2 ^ min (8:Int).toNat IntKind.u32.bits))),.int .u8 (IntKind.u8.wrap (n:Int))]=(be n 4).map u8:=by
  have a1:=mN n 24 32 zo;have a2:=mN n 16 32 zo;have a3:=mN n 8 32 zo;have b:=Eo n
  show [Value.int .u8 (IntKind.u8.wrap ((n:Int).fdiv (2 ^ min 24 32))),.int .u8 (IntKind.u8.wrap ((n:Int).fdiv (2 ^ min 16 32))),.int .u8 (IntKind.u8.wrap ((n:Int).fdiv (2 ^ min 8 32))),.int .u8 (IntKind.u8.wrap (n:Int))]=_
  rw [a1,a2,a3,b]
  simp [be,u8]
 rw [e1];refine bC (bo rfl rfl rfl (.succ .zero) (bB .zero (by rw [ae,cX]) zl) rfl rfl mG zm zo fun dW c2 _=>?_)
 refine wB ?_;have e2:(b++be n 4).length=b.length+4:=by rw [aa,cX]
 refine aY (cS (.slice dW (b++be n 4).length c2) (b++be n 4)::R) rfl ?_ ⟨dW,c2,by rw [e2];rfl,rfl⟩;unfold cS;rw [e2,ah];exact zE
def dF (l:List UInt8) (i:Nat):UInt32:=(l.take i).foldl (fun a c=>(a <<< UInt32.ofNat (Int.toNat 8)) ||| c.toUInt32) 0
theorem dF4 {h:List UInt8} (hl:4≤h.length):dF h 4=wd h 0:=by
 rcases h with _|⟨c0,_|⟨c1,_|⟨c2,_|⟨c3,r⟩⟩⟩⟩
 ·simp at hl
 ·simp at hl
 ·simp at hl
 ·simp at hl
 ·simp only [dF,List.take_succ_cons,List.take_zero,List.foldl_cons,List.foldl_nil];rw [IF];simp only [wd,Nat.mul_zero,aC,List.getD_cons_zero,List.getD_cons_succ]
theorem wm (v:Value) (b:List UInt8) (hv:db R v b) (hb:b.length≤1000000) :
 Ct prog 293 #[v] e R (fun v' L'=>v'=cW (fh b)∧R=L'):=by
 refine a7 (cn hv) fun ho=>?_
 refine a8 (args:=[_]) func293 rfl ntmps293 results293 rfl ?_
 (repeat' first|(apply bY;exact rfl;exact rfl;exact rfl;exact .one (eQ ho) rfl .nil;exact rfl;exact rfl;intro _)|refine Za ?_|refine Zb ?_|apply Zc|apply Zd|apply Ze|apply Zf)
 rename_i g;refine aZ rfl rfl (fc _ e 13 _ [(v,b)] (bB .zero rfl zl) (fun a ha=>by rw [an.1 ha];exact hv.tail) (fun a ha=>by rw [an.1 ha];exact hb) (by simp)) ?_;rintro _ _ ⟨ad,c,rfl,rfl⟩;rw [show [(v,b)].map (·.2)=[b] from rfl];have hl:=dg 13 [b];have hd:fh b=wd (ei 13 [b]) 0:=rfl
 generalize ei 13 [b]=h at *
 refine bm (fP .zero) ?_;rintro ⟨⟨a,cc,hq,wY,xu,Ms⟩,_⟩;obtain ⟨rfl,_,rfl⟩:=Value.slice.inj hq;simp only [maxLen] at xu
 rcases Ms with ⟨_,_,h0⟩|⟨p,rfl⟩
 ·omega
 have hf:∀ i (hi:i<h.length),dF h (i+1)=(dF h i <<< UInt32.ofNat (Int.toNat 8)) ||| (h[i]'hi).toUInt32:=fun i hi=>by
  unfold dF;rw [aD hi,List.foldl_append]
  rfl
 have h4:dF h 4=wd h 0:=dF4 zo;refine wB ?_;refine bq (ι:=Nat) (fun i=>[(3,cW (dF h i)),(9,.slice (some ⟨p,0,none⟩) 4 c),(10,.int .i64 4),(11,.int .i64 (i:Int))]) (fun _=>cS (.slice (some ⟨p,0,none⟩) h.length c) h::cK g [v] 30 (0,0)::R) (fun i=>i≤4) (fun i=>4 - i) 0 zo zS aX ?_;intro i hi
 by_cases cO:i<4
 ·have Ac:i<h.length:=by omega
  have hr:Rd (cS (.slice (some ⟨p,0,none⟩) h.length c) h::cK g [v] 30 (0,0)::R) ⟨p,0+i,none⟩ (u8 (h[i]'Ac)):=db.elem (bb .zero) (ab Ac);have hs:=hf i Ac
  generalize h[i]'Ac=b0 at *
  generalize hx1:dF h (i+1)=x1 at *
  generalize dF h i=x0 at *
  clear h4 hd hf
  (repeat' first|refine YV ?_|refine YX ?_|refine Y1 ?_|refine Za ?_|refine Zb ?_|apply Zc|apply Zd|apply Ze|apply Zf|refine Zi ?_|refine ZA ?_|refine ZS ?_|refine Yw ?_|refine Yz ?_|apply YB|apply YC|apply YH)
  rw [← hs,← hx1];exact bi (i+1) cO zo zS aX
 ·have JW:i=4:=by omega
  subst JW;refine wB ?_;refine aY R rfl zE ⟨?_,rfl⟩;rw [hd,← h4]
  rfl
theorem Bh (d:UInt32) (bit side:Nat) (hb:bit<32) (hs:side<2) :
 Ct prog 294 #[cW d,.int .i64 (bit:Int),.int .i64 (side:Int)] e R (fun v' L'=>v'=.bool (nV d bit side)∧R=L'):=by
 refine a8 (args:=[_,_,_]) func294 rfl ntmps294 results294 rfl ?_;have ht:nV d bit side=decide (IntKind.i64.wrap (Go.bits .and .u32 ((d >>> UInt32.ofNat (31 - (bit:Int)).toNat).toNat:Int) 1)=(side:Int)):=rfl;rw [ht]
 by_cases h:IntKind.i64.wrap (Go.bits .and .u32 ((d >>> UInt32.ofNat (31 - (bit:Int)).toNat).toNat:Int) 1)=(side:Int)
 ·rw [ay h]
  (repeat' first|(apply O.xT;exact rfl;exact rfl;omega;exact rfl)|refine Za ?_|refine Zb ?_|apply Zc|apply Zd|apply Ze|apply Zf|refine ZM ?_|refine ZU ?_|refine ZZ ?_|refine Z2 ?_|apply YE)
  exact aY R rfl aX ⟨rfl,rfl⟩
 ·rw [aq h]
  (repeat' first|(apply O.xT;exact rfl;exact rfl;omega;exact rfl)|refine Za ?_|refine Zb ?_|apply Zc|apply Zd|apply Ze|apply Zf|refine ZN ?_|refine ZU ?_|refine ZZ ?_|refine Z2 ?_|apply YE)
  exact aY R rfl aX ⟨rfl,rfl⟩
theorem wo (v:Value) (seed:List UInt8) (key bit side:Nat) (hv:db R v seed) (hs:seed.length≤1000) (hk:key<16) (hb:bit<32) (hd:side<2) :
 Ct prog 297 #[v,.int .i64 (key:Int),.int .i64 (bit:Int),.int .i64 (side:Int)] e R (fun v' L'=>∃ ad c,v'=.slice ad (fF seed key bit side).length c∧L'=cS (.slice ad (fF seed key bit side).length c) (fF seed key bit side)::R):=by
 refine a7 (cn hv) fun ho=>?_
 refine a8 (args:=[_,_,_,_]) func297 rfl ntmps297 results297 rfl ?_
 (repeat' first|(apply bY;exact rfl;exact rfl;exact rfl;exact .one (eQ ho) rfl (.one rfl rfl .nil);exact rfl;exact rfl;intro _)|refine Za ?_|refine Zb ?_|apply Zc|apply Zd|apply Ze|apply Zf|refine ZY ?_|refine ZZ ?_|refine Z1 ?_|refine Yi fun _=>?_|fail)
 rename_i g g2
 have e1:[Value.int .u8 (IntKind.u8.wrap ((key:Int).fdiv (2 ^ min (24:Int).toNat IntKind.u32.bits))),.int .u8 (IntKind.u8.wrap ((key:Int).fdiv (2 ^ min (16:Int).toNat IntKind.u32.bits))),.int .u8 (IntKind.u8.wrap ((key:Int).fdiv (2 ^ min (8:Int).toNat IntKind.u32.bits))),.int .u8 (key:Int),.int .u8 (bit:Int),.int .u8 (side:Int)]=(be key 4++[UInt8.ofNat bit,UInt8.ofNat side]).map u8:=by
  have a1:=mN key 24 32 zo;have a2:=mN key 16 32 zo;have a3:=mN key 8 32 zo
  show [Value.int .u8 (IntKind.u8.wrap ((key:Int).fdiv (2 ^ min 24 32))),.int .u8 (IntKind.u8.wrap ((key:Int).fdiv (2 ^ min 16 32))),.int .u8 (IntKind.u8.wrap ((key:Int).fdiv (2 ^ min 8 32))),.int .u8 (key:Int),.int .u8 (bit:Int),.int .u8 (side:Int)]=_
  rw [a1,a2,a3]
  simp [be,u8,UInt8.toNat_ofNat_of_lt' (show key<256 by omega),UInt8.toNat_ofNat_of_lt' (show bit<256 by omega),UInt8.toNat_ofNat_of_lt' (show side<256 by omega),Nat.mod_eq_of_lt (show key<256 by omega),Nat.mod_eq_of_lt (show bit<256 by omega),Nat.mod_eq_of_lt (show side<256 by omega)]
 rw [e1];have h6:(be key 4++[UInt8.ofNat bit,UInt8.ofNat side]).length=6:=by rw [aa,cX];rfl
 have hr:db (cK g2 [v,.slice (some ⟨g,0,none⟩) 6 6] 30 (0,0)::cK g ((be key 4++[UInt8.ofNat bit,UInt8.ofNat side]).map u8) pG (0,0)::R) (.slice (some ⟨g,0,none⟩) 6 6) (be key 4++[UInt8.ofNat bit,UInt8.ofNat side]):=by
  have h:=bB (L:=cK g2 [v,.slice (some ⟨g,0,none⟩) 6 6] 30 (0,0)::cK g ((be key 4++[UInt8.ofNat bit,UInt8.ofNat side]).map u8) pG (0,0)::R) (k:=6) (.succ .zero) (by rw [ae];exact h6) zl;unfold db;rw [h6];exact h
 refine aZ rfl rfl (fc _ e 10 _ [(v,seed),(.slice (some ⟨g,0,none⟩) 6 6,be key 4++[UInt8.ofNat bit,UInt8.ofNat side])] (bB .zero rfl zl) (fun a ha=>by
  simp only [aQ,aP,or_false] at ha
  rcases ha with rfl|rfl
  ·exact hv.tail.tail
  ·exact hr) (fun a ha=>by
  simp only [aQ,aP,or_false] at ha
  rcases ha with rfl|rfl
  ·dsimp only;omega
  ·dsimp only;omega) (by simp)) ?_
 rintro _ _ ⟨ad,c,rfl,rfl⟩;refine wB ?_;exact aY (cS (.slice ad (fF seed key bit side).length c) (fF seed key bit side)::R) rfl zE ⟨ad,c,rfl,rfl⟩
theorem GP (v:Value) (seed:List UInt8) (key bit side:Nat) (hv:db R v seed) (hs:seed.length≤1000) (hk:key<16) (hb:bit<32) (hd:side<2) :
 Ct prog 273 #[v,.int .i64 (key:Int),.int .i64 (bit:Int),.int .i64 (side:Int)] e R (fun v' L'=>∃ ad c,v'=.slice ad (kv seed key bit side).length c∧L'=cS (.slice ad (kv seed key bit side).length c) (kv seed key bit side)::R):=by
 refine a8 (args:=[_,_,_,_]) func273 rfl ntmps273 results273 rfl ?_;refine wB ?_;refine aZ rfl rfl (wo _ e v seed key bit side hv hs hk hb hd) ?_;rintro _ _ ⟨ad,c,rfl,rfl⟩;have hr:∀ L,db (cS (.slice ad (fF seed key bit side).length c) (fF seed key bit side)::L) (.slice ad (fF seed key bit side).length c) (fF seed key bit side):=fun L=>bb .zero
 have hl:(fF seed key bit side).length=32:=dg _ _
 (repeat (refine wA ?_;intros))
 rename_i g;refine aZ rfl rfl (fc _ e 11 _ [(.slice ad (fF seed key bit side).length c,fF seed key bit side)] (bB .zero rfl zl) (fun a ha=>by rw [an.1 ha];exact (hr _).tail) (fun a ha=>by rw [an.1 ha];dsimp only;omega) (by simp)) ?_;rintro _ _ ⟨dW,c2,rfl,rfl⟩;refine wB ?_;exact aY (cS (.slice dW (kv seed key bit side).length c2) (kv seed key bit side)::R) rfl zE ⟨dW,c2,rfl,rfl⟩
abbrev Cr:Value:=.func (.func 297) #[] #[]
abbrev GQ:Value:=.func (.func 273) #[] #[]
theorem JX (c:Nat→Nat→Bool) (seed:List UInt8) (key bit side:Nat) (hs:side<2):jB c seed key (2*bit+side)=if c bit side then fF seed key bit side else kv seed key bit side:=by
 unfold jB;rw [show (2*bit+side) / 2=bit by omega,show (2*bit+side) % 2=side by omega]
theorem ym (v:Value) (seed:List UInt8) (key:Nat) (f:FuncId) (ws:List Value) (ch:Nat→Nat→Bool) [i:cI prog f f] (hv:db R v seed) (hs:seed.length≤1000) (hk:key<16)
 (hch:∀ (M:List cJ) (bit side:Nat),bit<32→side<2→Ct prog f (([]:List Value)++[Value.int .i64 (bit:Int),Value.int .i64 (side:Int)]++ws).toArray e (M++R) (fun v' L'=>v'=(if ch bit side then Cr else GQ)∧M++R=L')) :
 Ct prog 271 #[v,.int .i64 (key:Int),.func (.func f) #[] ws.toArray] e R (fun v' L'=>∃ ad c ts,v'=.slice ad ts.length c∧ts.map (·.2)=ny ch seed key∧L'=cV (.slice ad ts.length c) ts::cH ts::R):=by
 refine a8 (args:=[_,_,_]) func271 rfl ntmps271 results271 rfl ?_;refine wB ?_;refine bq (ι:=Nat × List ej × Option Addr × Nat) (fun i=>[(0,v),(1,.int .i64 (key:Int)),(2,.func (.func f) #[] ws.toArray),(7,.slice i.2.2.1 i.2.1.length i.2.2.2),(10,.int .i64 (i.1:Int))]) (fun i=>cV (.slice i.2.2.1 i.2.1.length i.2.2.2) i.2.1::cH i.2.1::R) (fun i=>i.1≤32∧i.2.1.map (·.2)=(List.range (2*i.1)).map (jB ch seed key)) (fun i=>32 - i.1) (0,[],none,0) ⟨by omega,rfl⟩ zS (cj dK (dv ez 1)) ?_;rintro ⟨bit,ts,ad,c⟩ ⟨hb,fy⟩;dsimp only at hb fy ⊢
 by_cases cO:bit<32
 rotate_left
 ·have GR:bit=32:=by omega
  subst GR;refine wB ?_;exact aY _ rfl aX ⟨ad,c,ts,rfl,fy,rfl⟩
 refine wB ?_;refine bq (ι:=Nat × List ej × Option Addr × Nat) (fun i=>[(0,v),(1,.int .i64 (key:Int)),(2,.func (.func f) #[] ws.toArray),(7,.slice i.2.2.1 i.2.1.length i.2.2.2),(8,.int .i64 (bit:Int)),(10,.int .i64 (bit:Int)),(13,.int .i64 (i.1:Int))]) (fun i=>cV (.slice i.2.2.1 i.2.1.length i.2.2.2) i.2.1::cH i.2.1::R) (fun i=>i.1≤2∧i.2.1.map (·.2)=(List.range (2*bit+i.1)).map (jB ch seed key)) (fun i=>2 - i.1) (0,ts,ad,c) ⟨by omega,fy⟩ zS aX ?_;clear fy;rintro ⟨side,us,dW,c2⟩ ⟨JY,gF⟩;dsimp only at JY gF ⊢
 by_cases lB:side<2
 rotate_left
 ·have O1:side=2:=by omega
  subst O1;refine wB ?_;exact bi (bit+1,us,dW,c2) ⟨cO,gF⟩ zd zS aX
 have LG:us.length=2*bit+side:=by simpa using congrArg List.length gF
 have nf:=JX ch seed key bit side lB;have Cm:=tR ch seed key (2*bit+side)
 have kM:∀ (w:Value) (b:List UInt8),b=jB ch seed key (2*bit+side)→(us++[(w,b)]).map (·.2)=(List.range (2*bit+(side+1))).map (jB ch seed key):=fun w b h=>by
  rw [ah,gF,show 2*bit+(side+1)=(2*bit+side)+1 by omega,List.range_succ,ah,h]
  rfl
 refine wB ?_;refine bC (Do.gB (us:=[]) (ws:=ws) rfl rfl rfl (hch [cV (.slice dW us.length c2) us,cH us] bit side cO lB) ?_)
 rintro _ _ ⟨rfl,rfl⟩;have QJ:db (cV (.slice dW us.length c2) us::cH us::R) v seed:=hv.tail.tail
 cases hc:ch bit side with
 | true =>
  rw [hc] at nf
  (repeat (refine wA ?_;intros))
  refine bC (Do.gB (us:=[]) (ws:=[]) rfl rfl rfl (wo (cV (.slice dW us.length c2) us::cH us::R) e v seed key bit side QJ hs hk cO lB) ?_)
  rintro _ _ ⟨eJ,c3,rfl,rfl⟩;rw [show fF seed key bit side=jB ch seed key (2*bit+side) from nf.symm]
  generalize jB ch seed key (2*bit+side)=b at *
  (repeat (refine wA ?_;intros))
  rename_i g;refine bC (bo rfl rfl rfl (.succ (.succ .zero)) (bB .zero rfl zl) rfl rfl zO zm zo fun jA c4 _=>?_)
  refine wB ?_;refine bi (side+1,us++[(.slice eJ b.length c3,b)],jA,c4) ⟨lB,kM _ _ rfl⟩ zd ?_ ?_
  ·dsimp only;rw [aa,aj];exact zS
  ·exact cj (show cz _ (dE ez 1 (.slice jA (us.length+1) c4) (us.length+1) (us.map (·.1)++[.slice eJ b.length c3])::cS (.slice eJ b.length c3) b::cH us::R) from zE) fZ
 | false =>
  rw [hc] at nf
  (repeat (refine wA ?_;intros))
  refine bC (Do.gB (us:=[]) (ws:=[]) rfl rfl rfl (GP (cV (.slice dW us.length c2) us::cH us::R) e v seed key bit side QJ hs hk cO lB) ?_)
  rintro _ _ ⟨eJ,c3,rfl,rfl⟩;rw [show kv seed key bit side=jB ch seed key (2*bit+side) from nf.symm]
  generalize jB ch seed key (2*bit+side)=b at *
  (repeat (refine wA ?_;intros))
  rename_i g;refine bC (bo rfl rfl rfl (.succ (.succ .zero)) (bB .zero rfl zl) rfl rfl zO zm zo fun jA c4 _=>?_)
  refine wB ?_;refine bi (side+1,us++[(.slice eJ b.length c3,b)],jA,c4) ⟨lB,kM _ _ rfl⟩ zd ?_ ?_
  ·dsimp only;rw [aa,aj];exact zS
  ·exact cj (show cz _ (dE ez 1 (.slice jA (us.length+1) c4) (us.length+1) (us.map (·.1)++[.slice eJ b.length c3])::cS (.slice eJ b.length c3) b::cH us::R) from zE) fZ
theorem oS {ts:List ej} {l:List (List UInt8)} (h:ts.map (·.2)=l) {m:Nat} (hl:∀ a∈l,a.length=m):∀ a∈ts,a.2.length=m:=fun a ha=>hl _ (by rw [← h];exact aE.2 ⟨a,ha,rfl⟩)
theorem JZ (M:List cJ) (e:World) (bit side:Nat) :
 Ct prog 272 #[.int .i64 (bit:Int),.int .i64 (side:Int)] e M (fun v' L'=>v'=(if (fun _ _=>false:Nat→Nat→Bool) bit side then Cr else GQ)∧M=L'):=by
 refine a8 (args:=[_,_]) func272 rfl ntmps272 results272 rfl ?_;refine wB ?_;exact aY M rfl aX ⟨rfl,rfl⟩
theorem GS (M:List cJ) (R:List cJ) (e:World) (g T:Nat) (d:UInt32) (bit side:Nat) (hb:bit<32) (hs:side<2) :
 Ct prog 296 #[.int .i64 (bit:Int),.int .i64 (side:Int),pt g] e (M++cK g [cW d] T (0,0)::R) (fun v' L'=>v'=(if nV d bit side then Cr else GQ)∧M++cK g [cW d] T (0,0)::R=L'):=by
 refine a8 (args:=[_,_,_]) func296 rfl ntmps296 results296 rfl ?_;have hr:Rd (M++cK g [cW d] T (0,0)::R) ⟨g,0,none⟩ (cW d):=bP (Mc .zero) rfl;refine wB ?_;refine aZ rfl rfl (Bh _ e d bit side hb hs) ?_;rintro _ _ ⟨rfl,rfl⟩
 cases nV d bit side with
 | true =>
  refine wB ?_;exact aY _ rfl aX ⟨rfl,rfl⟩
 | false =>
  refine wB ?_;exact aY _ rfl aX ⟨rfl,rfl⟩
theorem xd (v:Value) (seed:List UInt8) (key:Nat) (hv:db R v seed) (hs:seed.length≤1000) (hk:key<16) :
 Ct prog 225 #[v,.int .i64 (key:Int)] e R (fun v' L'=>∃ ad c,v'=.slice ad (iz seed key).length c∧L'=cS (.slice ad (iz seed key).length c) (iz seed key)::R):=by
 refine a8 (args:=[_,_]) func225 rfl ntmps225 results225 rfl ?_;refine wB ?_;refine aZ rfl rfl (ym R e v seed key 272 [] (fun _ _=>false) hv hs hk (fun M bit side _ _=>JZ _ e bit side)) ?_;rintro _ _ ⟨ad,c,ts,rfl,fy,rfl⟩;have jN:=oS fy tS;have Ck:ts.length=64:=by have:=congrArg List.length fy;rw [ae,nz] at this;exact this
 refine wB ?_;refine aZ rfl rfl (fc _ e 12 _ ts (bb .zero) (dQ.tail eF) (fun a ha=>by have:=jN a ha;omega) zo) ?_;rintro _ _ ⟨dW,c2,rfl,rfl⟩;rw [fy];refine wB ?_;exact aY (cS (.slice dW (iz seed key).length c2) (iz seed key)::R) rfl zE ⟨dW,c2,rfl,rfl⟩
theorem Ai (v u:Value) (seed iD:List UInt8) (key:Nat) (hv:db R v seed) (hs:seed.length≤1000) (hk:key<16) (hu:db R u iD) (hm:iD.length≤1000000) :
 Ct prog 263 #[v,.int .i64 (key:Int),u] e R (fun v' L'=>∃ ad c ts,v'=.slice ad ts.length c∧ts.map (·.2)=qV seed key iD∧L'=cV (.slice ad ts.length c) ts::cH ts::R):=by
 refine a8 (args:=[_,_,_]) func263 rfl ntmps263 results263 rfl ?_;refine wB ?_;refine aZ rfl rfl (wm R e u iD hu hm) ?_;rintro _ _ ⟨rfl,rfl⟩
 (repeat (refine wA ?_;intros))
 rename_i g;refine aZ rfl rfl (ym _ e v seed key 296 [pt g] (nV (fh iD)) hv.tail hs hk (fun M bit side hb hs=>GS M R e g _ (fh iD) bit side hb hs)) ?_;rintro _ _ ⟨ad,c,ts,rfl,fy,rfl⟩;refine wB ?_;exact aY (cV (.slice ad ts.length c) ts::cH ts::R) rfl zE ⟨ad,c,ts,rfl,fy,rfl⟩
theorem Aj (u v:Value) (iD:List UInt8) (ts:List ej) (hu:db R u iD) (hm:iD.length≤1000000) (hv:cE R 1 v ts.length (ts.map (·.1))) (ht:dQ R ts) (Ck:ts.length=64) (jN:∀ a∈ts,a.2.length=32) :
 Ct prog 258 #[u,v] e R (fun v' L'=>∃ ad c,v'=.tuple #[.slice ad (iF iD (ts.map (·.2))).length c,.bool true]∧L'=cS (.slice ad (iF iD (ts.map (·.2))).length c) (iF iD (ts.map (·.2)))::R):=by
 refine a7 (hv.shape zo) ?_;rintro ⟨⟨wu,cap,rfl,h3,h4,h5,h6⟩,_⟩;simp only [maxLen] at h4
 rcases h6 with h6|⟨gl,ol,rfl⟩
 ·omega
 refine a8 (args:=[_,_]) func258 rfl ntmps258 results258 rfl ?_;refine wB ?_;refine aZ rfl rfl (wm R e u iD hu hm) ?_;rintro _ _ ⟨rfl,rfl⟩;refine wB ?_;refine bq (ι:=Nat × List ej × List ej × Option Addr × Nat) (fun i=>[(6,cW (fh iD)),(7,.slice i.2.2.2.1 i.2.1.length i.2.2.2.2),(15,.slice (some ⟨gl,ol,none⟩) ts.length cap),(16,.int .i64 (ts.length:Int)),(17,.int .i64 (i.1:Int))]) (fun i=>cV (.slice i.2.2.2.1 i.2.1.length i.2.2.2.2) i.2.1::cH i.2.2.1::R) (fun i=>i.1≤ts.length∧i.2.1.map (·.2)=(List.range i.1).map (iE (fh iD) (ts.map (·.2)))∧∀ x∈i.2.1,x∈i.2.2.1∨db R x.1 x.2) (fun i=>ts.length - i.1) (0,[],[],none,0) ⟨aH _,rfl,fun x h=>by cases h⟩ zS (cj dK (dv ez 1)) ?_;rintro ⟨i,out,news,ad,c⟩ ⟨hi,lu,jw⟩;dsimp only at hi lu jw ⊢
 have Er:out.length=i:=by simpa using congrArg List.length lu
 by_cases cO:i<ts.length
 rotate_left
 ·have JW:i=64:=by omega
  rw [JW] at lu
  have ln:∀ a∈out,a.2.length≤1000000:=fun a ha=>by
   have:a.2∈(List.range 64).map (iE (fh iD) (ts.map (·.2))):=by rw [← lu];exact aE.2 ⟨a,ha,rfl⟩
   obtain ⟨n,hn,h⟩:=aE.1 this;have hn:=List.mem_range.1 hn;rw [← h];unfold iE
   split
   ·rw [dg];omega
   ·rw [vA (fun a ha=>by obtain ⟨x,hx,rfl⟩:=aE.1 ha;exact jN x hx) (by rw [ae];omega)];omega
  refine wB ?_
  refine aZ rfl rfl (fc _ e 12 _ out (bb .zero) (fun x hx=>by
   rcases jw x hx with h|h
   ·exact (eF (l:=news) x h).tail
   ·exact h.tail.tail) ln zo) ?_
  rintro _ _ ⟨dW,c2,rfl,rfl⟩;rw [lu,show ei 12 ((List.range 64).map (iE (fh iD) (ts.map (·.2))))=iF iD (ts.map (·.2)) from rfl];clear ln jw lu
  generalize iF iD (ts.map (·.2))=b at *
  refine wB ?_;exact aY (cS (.slice dW b.length c2) b::R) rfl zE ⟨dW,c2,rfl,rfl⟩
 have hr:Rd R ⟨gl,ol+i,none⟩ (ts[i]'cO).1:=hv.elem (by rw [aL,ab cO];rfl);have jt:=ht _ (aA cO);have aaq:=jN _ (aA cO);have tg:(ts.map (·.2)).getD i []=(ts[i]'cO).2:=by rw [ax,aL,ab cO];rfl
 have ky:∀ (w:Value) (b:List UInt8),b=iE (fh iD) (ts.map (·.2)) i→(out++[(w,b)]).map (·.2)=(List.range (i+1)).map (iE (fh iD) (ts.map (·.2))):=fun w b h=>by
  rw [ah,lu,List.range_succ,ah,h]
  rfl
 have O2:iE (fh iD) (ts.map (·.2)) i=if nV (fh iD) (i / 2) (i % 2) then ei 11 [(ts[i]'cO).2] else (ts[i]'cO).2:=by unfold iE;rw [tg]
 generalize ts[i]'cO=y at *
 obtain ⟨yv,yt⟩:=y;dsimp only at jt aaq hr O2
 refine W.cB (cE.shape jt.tail.tail zo) ?_;rintro ⟨⟨Xs,cy,rfl,_,_,_,_⟩,_⟩;have hoy:(Value.slice Xs yt.length cy).oneCell'=true:=rfl;have q2:((i:Int)).tdiv 2=((i / 2:Nat):Int):=by rw [Int.tdiv_eq_ediv_of_nonneg zo];omega
 have r2:((i:Int)).tmod 2=((i % 2:Nat):Int):=by rw [Int.tmod_eq_emod_of_nonneg zo];omega
 refine wB ?_;rw [show IntKind.i64.wrap (((i:Int)).tdiv 2)=((i / 2:Nat):Int) by rw [q2];exact wrap_i64 zo zo,r2];refine aZ rfl rfl (Bh _ e (fh iD) (i / 2) (i % 2) zo zo) ?_;rintro _ _ ⟨rfl,rfl⟩
 cases hc:nV (fh iD) (i / 2) (i % 2) with
 | true =>
  rw [hc] at O2
  (repeat (refine wA ?_;intros))
  rename_i g;refine aZ rfl rfl (fc _ e 11 _ [(.slice Xs yt.length cy,yt)] (bB .zero rfl zl) (fun a ha=>by rw [an.1 ha];exact jt.tail.tail.tail) (fun a ha=>by rw [an.1 ha];dsimp only;omega) (by simp)) ?_;rintro _ _ ⟨eJ,c3,rfl,rfl⟩;rw [show ei 11 ([((.slice Xs yt.length cy:Value),yt)].map (·.2))=ei 11 [yt] from rfl,show ei 11 [yt]=iE (fh iD) (ts.map (·.2)) i from O2.symm]
  generalize iE (fh iD) (ts.map (·.2)) i=b at *
  (repeat (refine wA ?_;intros))
  rename_i g2;refine bC (bo rfl rfl rfl (.succ (.succ (.succ .zero))) (bB .zero rfl zl) rfl rfl zO zm zo fun jA c4 _=>?_)
  refine wB ?_;refine bi (i+1,out++[(.slice eJ b.length c3,b)],news++[(.slice eJ b.length c3,b)],jA,c4) ⟨cO,ky _ _ rfl,fun x hx=>?_⟩ zd ?_ ?_
  ·rcases aJ.1 hx with h|h
   ·rcases jw x h with h|h
    ·exact .inl (List.mem_append_left _ h)
    ·exact .inr h
   ·exact .inl (List.mem_append_right _ h)
  ·dsimp only;rw [aa,aj];exact zS
  ·refine cj (show cz _ (cS (.slice eJ b.length c3) b::cH news::dE ez 1 (.slice jA (out.length+1) c4) (out.length+1) (out.map (·.1)++[.slice eJ b.length c3])::R) from zE) (cj (ju (a:=(.slice eJ b.length c3,b))) (cj (bw (.succ .zero) aX) (cj eL ?_)));simp only [cV,aa,aj,ah,List.map_cons,List.map_nil];exact zE
 | false =>
  rw [hc] at O2
  (repeat (refine wA ?_;intros))
  rename_i g2;refine bC (bo rfl rfl rfl (.succ .zero) (bB .zero rfl zl) rfl rfl zO zm zo fun jA c4 _=>?_)
  refine wB ?_;refine bi (i+1,out++[(.slice Xs yt.length cy,yt)],news,jA,c4) ⟨cO,ky _ _ O2.symm,fun x hx=>?_⟩ zd ?_ ?_
  ·rcases aJ.1 hx with h|h
   ·exact jw x h
   ·rw [an.1 h];exact .inr jt
  ·dsimp only;rw [aa,aj];exact zS
  ·simp only [cV,aa,aj,ah,List.map_cons,List.map_nil];exact zE
def mO (L:List cJ) (v:Value) (bs:List (List UInt8)):Prop:=∃ ts:List ej,ts.map (·.2)=bs∧cE L 1 v ts.length (ts.map (·.1))∧dQ L ts
theorem mO.cL {L L':List cJ} {v:Value} {bs:List (List UInt8)} (h:mO L' v bs) (f:cz L L'):mO L v bs:=by
 obtain ⟨ts,h1,h2,h3⟩:=h;exact ⟨ts,h1,h2.cL f,fun a ha=>(h3 a ha).cL f⟩
theorem mO.tail {A:cJ} {L:List cJ} {v:Value} {bs:List (List UInt8)} (h:mO L v bs):mO (A::L) v bs:=h.cL (cz.drop aX)
theorem mO.one {L:List cJ} {v:Value} {bs:List (List UInt8)} (h:mO L v bs):∀ x,dN L x→v.oneCell'=true:=fun x hx=>by
 obtain ⟨ts,_,h2,_⟩:=h;obtain ⟨⟨ad,cap,rfl,_⟩,_⟩:=h2.shape zo x hx
 rfl
theorem wv (v:Value) (ts:List ej) (f:FuncId) (us ws:List Value) (p:Nat→Bool) [i:cI prog f f] (hv:cE R 1 v ts.length (ts.map (·.1))) (hl:ts.length≤1000000)
 (hf:∀ (i:Nat) (h:i<ts.length),Ct prog f (us++[(ts[i]).1]++ws).toArray e R (fun v' L'=>v'=.bool (p i)∧R=L')) :
 Ct prog 264 #[v,.func (.func f) us.toArray ws.toArray] e R (fun v' L'=>(∃ k:Int,v'=.int .i64 k∧((k = -1∧∀ i,i<ts.length→p i=false)∨(∃ j:Nat,k=j∧j<ts.length∧p j=true∧∀ i,i<j→p i=false)))∧R=L'):=by
 refine a7 (hv.shape zo) ?_;rintro ⟨⟨ad,cap,rfl,h3,h4,h5,h6⟩,_⟩;refine a8 (args:=[_,_]) func264 rfl ntmps264 results264 rfl ?_;refine wB ?_;refine bq (ι:=Nat) (fun i=>[(0,.slice ad ts.length cap),(1,.func (.func f) us.toArray ws.toArray),(7,.int .i64 (ts.length:Int)),(8,.int .i64 (i:Int))]) (fun _=>R) (fun i=>i≤ts.length∧∀ j,j<i→p j=false) (fun i=>ts.length - i) 0 ⟨aH _,fun j h=>absurd h (Nat.not_lt_zero j)⟩ zS aX ?_;rintro i ⟨h1,h2⟩
 by_cases cO:i<ts.length
 rotate_left
 ·refine wB ?_;exact aY R rfl aX ⟨⟨-1,rfl,.inl ⟨rfl,fun j hj=>h2 j zo⟩⟩,rfl⟩
 rcases h6 with h6|⟨gl,ol,rfl⟩
 ·omega
 have hr:Rd R ⟨gl,ol+i,none⟩ (ts[i]'cO).1:=hv.elem (by rw [aL,ab cO];rfl);have J0:=hf i cO
 generalize (ts[i]'cO).1=y at *
 refine wB ?_;refine O.gB (us:=us) (ws:=ws) rfl rfl rfl J0 ?_;rintro _ _ ⟨rfl,rfl⟩
 cases hp:p i with
 | false =>
  refine wB ?_;refine bi (i+1) ⟨cO,fun j hj=>?_⟩ zo zS aX
  by_cases A3:j=i
  ·subst A3;exact hp
  ·exact h2 j zo
 | true =>
  refine wB ?_;exact aY R rfl aX ⟨⟨i,rfl,.inr ⟨i,rfl,cO,hp,h2⟩⟩,rfl⟩
theorem qk (v:Value) (ts:List ej) (f:FuncId) (us ws:List Value) (p:Nat→Bool) [i:cI prog f f] (hv:cE R 1 v ts.length (ts.map (·.1))) (hl:ts.length≤1000000)
 (hf:∀ (i:Nat) (h:i<ts.length),Ct prog f (us++[(ts[i]).1]++ws).toArray e R (fun v' L'=>v'=.bool (p i)∧R=L')) :
 Ct prog 203 #[v,.func (.func f) us.toArray ws.toArray] e R (fun v' L'=>v'=.bool (decide (∃ i,i<ts.length∧p i=true))∧R=L'):=by
 refine a8 (args:=[_,_]) func203 rfl ntmps203 results203 rfl ?_;refine wB ?_;refine aZ rfl rfl (wv _ e v ts f us ws p hv hl hf) ?_;rintro _ _ ⟨⟨k,rfl,hk⟩,rfl⟩;rcases hk with ⟨rfl,hk⟩|⟨j,rfl,hj,hp,_⟩
 ·rw [aq (fun ⟨i,h1,h2⟩=>by rw [hk i h1] at h2;cases h2)];refine wB ?_;exact aY R rfl aX ⟨rfl,rfl⟩
 ·rw [ay ⟨j,hj,hp⟩];refine wB ?_;exact aY R rfl aX ⟨rfl,rfl⟩
theorem pJ (v:Value) (seed:List UInt8) (hv:db R v seed) (hs:seed.length≤1000) :
 Ct prog 143 #[v] e R (fun v' L'=>∃ ad c ts,v'=.slice ad ts.length c∧ts.map (·.2)=eW seed∧L'=cV (.slice ad ts.length c) ts::cH ts::R):=by
 refine a8 (args:=[_]) func143 rfl ntmps143 results143 rfl ?_;refine wB ?_;refine bq (ι:=Nat × List ej × Option Addr × Nat) (fun i=>[(0,v),(3,.slice i.2.2.1 i.2.1.length i.2.2.2),(5,.int .i64 (i.1:Int))]) (fun i=>cV (.slice i.2.2.1 i.2.1.length i.2.2.2) i.2.1::cH i.2.1::R) (fun i=>i.1≤16∧i.2.1.map (·.2)=(List.range i.1).map (iz seed)) (fun i=>16 - i.1) (0,[],none,0) ⟨by omega,rfl⟩ zS (cj dK (dv ez 1)) ?_;rintro ⟨i,ts,ad,c⟩ ⟨hi,fy⟩;dsimp only at hi fy ⊢
 have Er:ts.length=i:=by simpa using congrArg List.length fy
 by_cases cO:i<16
 rotate_left
 ·have JW:i=16:=by omega
  subst JW;refine wB ?_;exact aY _ rfl aX ⟨ad,c,ts,rfl,fy,rfl⟩
 have ky:∀ (w:Value),(ts++[(w,iz seed i)]).map (·.2)=(List.range (i+1)).map (iz seed):=fun w=>by
  rw [ah,fy,List.range_succ,ah]
  rfl
 have Vx:=xd (cV (.slice ad ts.length c) ts::cH ts::R) e v seed i hv.tail.tail hs cO
 generalize iz seed i=b at *
 refine wB ?_;refine aZ rfl rfl Vx ?_;rintro _ _ ⟨eJ,c3,rfl,rfl⟩
 (repeat (refine wA ?_;intros))
 refine bC (bo rfl rfl rfl (.succ (.succ .zero)) (bB .zero rfl zl) rfl rfl zO zm zo fun jA c4 _=>?_)
 refine wB ?_;refine bi (i+1,ts++[(.slice eJ b.length c3,b)],jA,c4) ⟨cO,ky _⟩ zd ?_ ?_
 ·dsimp only;rw [aa,aj];exact zS
 ·exact cj (show cz _ (dE ez 1 (.slice jA (ts.length+1) c4) (ts.length+1) (ts.map (·.1)++[.slice eJ b.length c3])::cS (.slice eJ b.length c3) b::cH ts::R) from zE) fZ
theorem e6 {ts:List ej} {i:Nat} (h:i<ts.length):(ts.map (·.2)).getD i []=(ts[i]'h).2:=by
 rw [ax,aL,ab h];rfl
theorem yn (v:Value) (ts:List ej) (hv:cE R 1 v ts.length (ts.map (·.1))) (ht:dQ R ts) (jN:∀ a∈ts,a.2.length=32) (hl:ts.length≤16) :
 Ct prog 144 #[v] e R (fun v' L'=>∃ ad c us,v'=.slice ad us.length c∧us.map (·.2)=iR (ts.map (·.2))∧L'=cV (.slice ad us.length c) us::cH us::R):=by
 refine a7 (hv.shape zo) ?_;rintro ⟨⟨wu,cap,rfl,h3,h4,h5,h6⟩,_⟩;simp only [maxLen] at h4
 have rL:=iM (ts.map (·.2));rw [ae] at rL
 refine a8 (args:=[_]) func144 rfl ntmps144 results144 rfl ?_;refine wB ?_;refine bq (ι:=Nat × List ej × Option Addr × Nat) (fun i=>[(0,.slice wu ts.length cap),(3,.slice i.2.2.1 i.2.1.length i.2.2.2),(4,.int .i64 (2*(i.1:Int)))]) (fun i=>cV (.slice i.2.2.1 i.2.1.length i.2.2.2) i.2.1::cH i.2.1::R) (fun i=>2*i.1≤ts.length∧i.2.1.map (·.2)=(iR (ts.map (·.2))).take i.1) (fun i=>ts.length - i.1) (0,[],none,0) ⟨by omega,by simp⟩ zS (cj dK (dv ez 1)) ?_;rintro ⟨i,us,ad,c⟩ ⟨hi,gF⟩;dsimp only at hi gF ⊢
 have Er:us.length=i:=by have:=congrArg List.length gF;rw [ae,aF] at this;omega
 by_cases cO:2*i+1<ts.length
 rotate_left
 ·rw [aG zo] at gF
  refine wB ?_;exact aY _ rfl aX ⟨ad,c,us,rfl,gF,rfl⟩
 have ha:=sk (ts.map (·.2)) i (by rw [ae];exact cO);rw [e6 (show 2*i<ts.length by omega),e6 cO] at ha
 have ky:∀ (w:Value) (b:List UInt8),b=(iR (ts.map (·.2))).getD i []→(us++[(w,b)]).map (·.2)=(iR (ts.map (·.2))).take (i+1):=fun w b h=>by
  rw [ah,gF,aD zo,h]
  congr 1
  rw [ax,ab zo]
  rfl
 rcases h6 with h6|⟨gl,ol,rfl⟩
 ·omega
 have hr0:Rd R ⟨gl,ol+2*i,none⟩ (ts[2*i]'zo).1:=hv.elem (by rw [aL,ab zo];rfl);have OV:Rd R ⟨gl,ol+(2*i+1),none⟩ (ts[2*i+1]'cO).1:=hv.elem (by rw [aL,ab cO];rfl);have O3:=ht _ (aA (show 2*i<ts.length by omega));have Ok:=ht _ (aA cO);have hz0:=jN _ (aA (show 2*i<ts.length by omega));have Ru:=jN _ (aA cO)
 generalize ts[2*i]'zo=y0 at *
 generalize ts[2*i+1]'cO=y1 at *
 obtain ⟨v0,b0⟩:=y0;obtain ⟨v1,b1⟩:=y1;dsimp only at hr0 OV O3 Ok hz0 Ru ha
 refine W.cB (cn O3.tail.tail) fun ho0=>?_
 refine W.cB (cn Ok.tail.tail) fun Xt=>?_
 rw [show (2*(i:Int))=((2*i:Nat):Int) by omega];refine wB ?_;refine bk (id:=5) [14] (cH us::R) mixed ?_
 (refine tM 0 ?_;refine tM 1 ?_;refine tM 2 ?_;refine tk 3 _ rfl (cD.ix rfl rfl zo) ?_;refine tL 4 ?_;refine tM 5 ?_;refine tM 6 ?_;refine tk 7 _ rfl (cD.kQ rfl rfl zo) ?_;refine tk 8 _ rfl (cD.ix rfl rfl zo) ?_;refine tL 9 ?_)
 refine tO 10 ?_;refine bE (n:=1) (z:=nY) (cs:=[v0,v1]) rfl rfl rfl rfl (.one (eQ ho0) rfl (.one (eQ Xt) rfl .nil)) rfl (fun gb=>⟨fun _=>zE,?_⟩);refine tO 11 ?_
 refine bg rfl rfl (fc _ e 14 _ [(v0,b0),(v1,b1)] (bB .zero rfl zl) (fun a ha=>by
  simp only [aQ,aP,or_false] at ha
  rcases ha with rfl|rfl
  ·exact O3.tail.tail.tail
  ·exact Ok.tail.tail.tail) (fun a ha=>by
  simp only [aQ,aP,or_false] at ha
  rcases ha with rfl|rfl
  ·dsimp only;omega
  ·dsimp only;omega) (by simp)) ?_
 rintro _ _ ⟨eJ,c3,rfl,rfl⟩;rw [show ei 14 ([(v0,b0),(v1,b1)].map (·.2))=ei 14 [b0,b1] from rfl,← ha]
 generalize (iR (ts.map (·.2))).getD i []=b at *
 refine ⟨fun _=>zE,?_⟩;refine tO 12 ?_;refine bE (n:=1) (z:=nY) (cs:=[.slice eJ b.length c3]) rfl rfl rfl rfl (.one rfl rfl .nil) rfl (fun gc=>⟨fun _=>zE,?_⟩);refine tO 13 ?_;refine bo rfl rfl rfl (.succ (.succ (.succ .zero))) (bB .zero rfl zl) rfl rfl zO zm zo fun jA c4 _=>⟨fun _=>zE,?_⟩
 ((refine tO 14 ?_;refine dV (bj rfl) ?_))
 refine bf zK ?_;refine wB ?_;refine bi (i+1,us++[(.slice eJ b.length c3,b)],jA,c4) ⟨by dsimp only;omega,ky _ _ rfl⟩ zd ?_ ?_
 ·dsimp only;rw [aa,aj,show (2*((i+1:Nat):Int))=((2*i:Nat):Int)+2 by omega];exact zS
 ·exact cj (show cz _ (dE ez 1 (.slice jA (us.length+1) c4) (us.length+1) (us.map (·.1)++[.slice eJ b.length c3])::cS (.slice eJ b.length c3) b::cH us::R) from zE) fZ
theorem l8 (v:Value) (seed:List UInt8) (hv:db R v seed) (hs:seed.length=32) :
 Ct prog 67 #[v] e R (fun v' L'=>∃ M:cJ,L'=M::R∧db [M] v' (kN seed)):=by
 refine a7 (cE.shape hv zo) ?_;rintro ⟨⟨wu,cap,rfl,_,_,_,_⟩,_⟩;refine a8 (args:=[_]) func67 rfl ntmps67 results67 rfl ?_;refine wB ?_;refine aZ rfl rfl (pJ _ e _ seed hv zo) ?_;rintro _ _ ⟨ad,c,ts,rfl,fy,rfl⟩;have DZ:=mM (kx seed);have Mw:=qW (ng (seed:=seed));refine wB ?_;refine bq (ι:=Nat × List ej × Option Addr × Nat) (fun i=>[(3,.slice i.2.2.1 i.2.1.length i.2.2.2),(9,.int .i64 (i.1:Int))]) (fun i=>cV (.slice i.2.2.1 i.2.1.length i.2.2.2) i.2.1::cH i.2.1::R) (fun i=>i.1≤4∧i.2.1.map (·.2)=pP (eW seed) i.1) (fun i=>4 - i.1) (0,ts,ad,c) ⟨by omega,fy⟩ zS aX ?_;clear fy;rintro ⟨i,us,dW,c2⟩ ⟨hi,gF⟩;dsimp only at hi gF ⊢
 have LG:us.length=2 ^ (4 - i):=by have:=congrArg List.length gF;rw [ae,DZ i hi] at this;exact this
 have aar:us.length≤16:=by rw [LG];exact Nat.le_trans (Nat.pow_le_pow_right zo (show 4 - i≤4 by omega)) (by decide)
 by_cases cO:i<4
 ·refine wB ?_;refine aZ rfl rfl (yn _ e _ us (bb .zero) (dQ.tail eF) (oS gF (Mw i)) aar) ?_;rintro _ _ ⟨eJ,c3,ws,rfl,LF,rfl⟩;refine wB ?_;exact bi (i+1,ws,eJ,c3) ⟨cO,by dsimp only;rw [LF,gF];rfl⟩ zd zS zE
 have JW:i=4:=by omega
 subst JW;have h1:us.length=1:=LG;refine W.cB (D3 .zero zo) ?_;rintro ⟨p,rfl⟩;have h0:0<us.length:=by omega
 have hr:Rd (cV (.slice (some ⟨p,0,none⟩) us.length c2) us::cH us::R) ⟨p,0,none⟩ (us[0]'h0).1:=by
  have:=(bb (L:=cV (.slice (some ⟨p,0,none⟩) us.length c2) us::cH us::R) .zero).elem (j:=0) (u:=(us[0]'h0).1) (by rw [aL,ab h0];rfl);exact this
 have sf:db [cH us] (us[0]'h0).1 (us[0]'h0).2:=eF _ (aA h0);have Cs:(us[0]'h0).2=kN seed:=by rw [← e6 h0,gF];rfl
 rw [Cs] at sf
 generalize (us[0]'h0).1=w at *
 refine wB ?_;exact aY (cH us::R) rfl zE ⟨cH us,rfl,sf⟩
end Go.Proofs
namespace Go.Bs
def iH (l:List (List UInt8)) (i:Nat):List (List UInt8) :=
 if h:2≤l.length then
  if i<cN l.length then iH (l.take (cN l.length)) i++[ea (l.drop (cN l.length))]
  else iH (l.drop (cN l.length)) (i - cN l.length)++[ea (l.take (cN l.length))]
 else []
 termination_by l.length
 decreasing_by
 ·have:=dz h;rw [aF];omega
 ·have:=dz h;rw [aO];omega
def jl (n i:Nat):Nat :=
 if h:2≤n then
  if i<cN n then jl (cN n) i+1 else jl (n - cN n) (i - cN n)+1
 else 0
 termination_by n
 decreasing_by
 ·have:=dz h;omega
 ·have:=dz h;omega
def lC (p:List (List UInt8)):List UInt8:=p.getLast?.getD []
def lD (n i:Nat) (p:List (List UInt8)) (x:List UInt8):List UInt8 :=
 if h:2≤n then
  if i<cN n then eG (lD (cN n) i p.dropLast x) (lC p) else eG (lC p) (lD (n - cN n) (i - cN n) p.dropLast x)
 else x
 termination_by n
 decreasing_by
 ·have:=dz h;omega
 ·have:=dz h;omega
theorem sm {l:List (List UInt8)} {i:Nat} (h:¬ 2≤l.length):iH l i=[]:=by rw [iH,dif_neg h]
theorem tU {l:List (List UInt8)} {i:Nat} (h:2≤l.length) (hi:i<cN l.length):iH l i=iH (l.take (cN l.length)) i++[ea (l.drop (cN l.length))]:=by rw [iH,dif_pos h,aI hi]
theorem tV {l:List (List UInt8)} {i:Nat} (h:2≤l.length) (hi:¬ i<cN l.length):iH l i=iH (l.drop (cN l.length)) (i - cN l.length)++[ea (l.take (cN l.length))]:=by rw [iH,dif_pos h,aB hi]
theorem oT {n i:Nat} (h:¬ 2≤n):jl n i=0:=by rw [jl,dif_neg h]
theorem yo {n i:Nat} (h:2≤n) (hi:i<cN n):jl n i=jl (cN n) i+1:=by rw [jl,dif_pos h,aI hi]
theorem yp {n i:Nat} (h:2≤n) (hi:¬ i<cN n):jl n i=jl (n - cN n) (i - cN n)+1:=by rw [jl,dif_pos h,aB hi]
theorem sn {n i:Nat} {p:List (List UInt8)} {x:List UInt8} (h:¬ 2≤n):lD n i p x=x:=by rw [lD,dif_neg h]
theorem Es {n i:Nat} {p:List (List UInt8)} {x:List UInt8} (h:2≤n) (hi:i<cN n):lD n i p x=eG (lD (cN n) i p.dropLast x) (lC p):=by rw [lD,dif_pos h,aI hi]
theorem Et {n i:Nat} {p:List (List UInt8)} {x:List UInt8} (h:2≤n) (hi:¬ i<cN n):lD n i p x=eG (lC p) (lD (n - cN n) (i - cN n) p.dropLast x):=by rw [lD,dif_pos h,aB hi]
theorem mP (p:List (List UInt8)) (a:List UInt8):lC (p++[a])=a:=by simp [lC]
theorem oU:∀ (n:Nat) (l:List (List UInt8)) (i:Nat),l.length=n→(iH l i).length=jl l.length i:=by
 intro n
 induction n using Nat.strongRecOn with
 | ind n ih =>
  intro l i hn
  by_cases h:2≤l.length
  ·have hs:=dz h
   by_cases hi:i<cN l.length
   ·have e1:(l.take (cN l.length)).length=cN l.length:=by rw [aF];omega
    rw [tU h hi,yo h hi,aa,aj,ih _ (by omega) _ i e1,e1]
   ·have e1:(l.drop (cN l.length)).length=l.length - cN l.length:=aO;rw [tV h hi,yp h hi,aa,aj,ih _ (by omega) _ _ e1,e1]
  ·rw [sm h,oT h];rfl
theorem GU:∀ (n:Nat) (l:List (List UInt8)) (i:Nat) (x:List UInt8),l.length=n→i<l.length→lD l.length i (iH l i) x=ea (l.set i x):=by
 intro n
 induction n using Nat.strongRecOn with
 | ind n ih =>
  intro l i x hn Ac
  by_cases h:2≤l.length
  ·have hs:=dz h;have rI:=jU (l:=l.set i x) (by rw [List.length_set];exact h);rw [List.length_set] at rI
   by_cases hi:i<cN l.length
   ·have e1:(l.take (cN l.length)).length=cN l.length:=by rw [aF];omega
    have e2:=ih _ (by omega) (l.take (cN l.length)) i x e1 (by omega);rw [e1] at e2
    rw [Es h hi,tU h hi,mP,List.dropLast_concat,e2,rI,List.take_set,List.drop_set_of_lt hi]
   ·have e1:(l.drop (cN l.length)).length=l.length - cN l.length:=aO;have e2:=ih _ (by omega) (l.drop (cN l.length)) (i - cN l.length) x e1 (by omega);rw [e1] at e2
    rw [Et h hi,tV h hi,mP,List.dropLast_concat,e2,rI,List.take_set_of_le (by omega),List.drop_set];rw [aB hi]
  ·rw [sn h]
   match l,h,Ac with
   | [a],_,Ac =>
    obtain rfl:i=0:=by simp at Ac;omega
    rw [List.set_cons_zero,nU]
   | [],_,Ac=>simp at Ac
   | _::_::_,h,_=>simp at h
theorem gG {l:List (List UInt8)} (h:∀ a∈l,a.length=32):(ea l).length=32:=by
 match l,h with
 | [],_=>rw [kZ,jT]
 | [a],h=>rw [nU];exact h a (an.2 rfl)
 | a::b::r,_=>rw [jU (by simp)];exact dg _ _
theorem GV:∀ (n:Nat) (l:List (List UInt8)) (i:Nat),l.length=n→(∀ a∈l,a.length=32)→∀ a∈iH l i,a.length=32:=by
 intro n
 induction n using Nat.strongRecOn with
 | ind n ih =>
  intro l i hn hh a ha
  by_cases h:2≤l.length
  ·have hs:=dz h
   by_cases hi:i<cN l.length
   ·rw [tU h hi] at ha
    rcases aJ.1 ha with q|q
    ·exact ih _ (by rw [aF];omega) _ i rfl (fun b hb=>hh b (aR hb)) a q
    ·rw [an.1 q];exact gG fun b hb=>hh b (aV hb)
   ·rw [tV h hi] at ha
    rcases aJ.1 ha with q|q
    ·exact ih _ (by rw [aO];omega) _ _ rfl (fun b hb=>hh b (aV hb)) a q
    ·rw [an.1 q];exact gG fun b hb=>hh b (aR hb)
  ·rw [sm h] at ha;cases ha
theorem wy {n t:Nat} (h:n≤2 ^ (t+1)) (h2:2≤n):cN n≤2 ^ t:=by
 unfold cN;rw [aB (by omega)];refine Nat.pow_le_pow_right (by omega) ?_;have:(n - 1).log2<t+1:=(Nat.log2_lt (by omega)).2 (by omega)
 omega
theorem ql:∀ (t n i:Nat),n≤2 ^ t→jl n i≤t
 | 0,n,i,h=>by rw [oT (by rw [Nat.pow_zero] at h;omega)];exact aS _
 | t+1,n,i,h=>by
  by_cases h2:2≤n
  ·have hs:=dz h2;have hh:=wy h h2
   by_cases hi:i<cN n
   ·rw [yo h2 hi];have:=ql t _ i hh;omega
   ·rw [yp h2 hi];have:=ql t (n - cN n) (i - cN n) (by omega);omega
  ·rw [oT h2];omega
end Go.Bs
namespace Go.Proofs
attribute [local irreducible] Bs.cD Bs.Do Bs.O Bs.W Bs.Fin Bs.A Bs.Ct Bs.cE Bs.Rd Bs.Sat Bs.cK Bs.Ob Bs.dE Bs.View Bs.cz Bs.Ex Bs.dI Bs.Pu Bs.eY Bs.dN Bs.dZ
open Go.Bs
open Tryz
variable (R:List cJ) (e:World)
theorem J1:∀ (n:Nat) (R:List cJ) (e:World) (v:Value) (ts:List ej) (i:Nat),ts.length=n→cE R 1 v ts.length (ts.map (·.1))→dQ R ts→(∀ a∈ts,a.2.length≤1000000)→ts.length≤1000000→i≤1000000 →
 Ct prog 157 #[v,.int .i64 (i:Int)] e R (fun v' L'=>∃ ad c out,v'=.slice ad out.length c∧out.map (·.2)=iH (ts.map (·.2)) i∧L'=cV (.slice ad out.length c) out::cH out::R):=by
 intro n
 induction n using Nat.strongRecOn with
 | _ n ih =>
 intro R e v ts i hn hv ht hb hl hi0;refine a7 (hv.shape zo) ?_;rintro ⟨⟨ad,cap,rfl,h3,h4,h5,h6⟩,_⟩;simp only [maxLen] at h4
 refine a8 (args:=[_,_]) func157 rfl ntmps157 results157 rfl ?_;refine wB ?_;refine aZ rfl rfl (mL R e ts.length zo) ?_;rintro _ _ ⟨rfl,rfl⟩;rw [kY]
 by_cases h2:2≤ts.length
 rotate_left
 ·have h0:cN ts.length=0:=by unfold cN;rw [aI zo]
  rw [h0];refine wB ?_;exact aY (cV nY []::cH []::R) rfl (cj dK (dv _ _)) ⟨none,0,[],rfl,by rw [sm (by rw [ae];exact h2)];rfl,rfl⟩
 have hs:=dz h2;have vy:=fun h=>tU (l:=ts.map (·.2)) (i:=i) (by rw [ae];exact h2) h
 have J2:=fun h=>tV (l:=ts.map (·.2)) (i:=i) (by rw [ae];exact h2) h
 rw [ae,← List.map_take,← List.map_drop] at vy J2
 have Ei:=k6 hv (k:=cN ts.length) zo;have Cp:=vz hv (k:=cN ts.length) zo
 generalize cN ts.length=k at *
 have QI:(ts.take k).length=k:=by rw [aF];omega
 have Ej:(ts.drop k).length=ts.length - k:=aO
 by_cases vB:i<k
 ·refine wB ?_;refine bz (id:=5) [11] mixed ?_
  (refine tM 0 ?_;refine tM 1 ?_;refine tk 2 _ rfl (cD.iV rfl rfl zo zo) ?_;refine tM 3 ?_;refine tM 5 ?_;refine tM 6 ?_;refine tk 7 _ rfl (cD.lm rfl rfl zo zo) ?_)
  refine tO 4 ?_;refine bg rfl rfl (ih k zo R e _ (ts.take k) i QI Ei (jM ht fun x hx=>aR hx) (fun a ha=>hb a (aR ha)) zo hi0) ?_;rintro _ _ ⟨ef,c1,out,rfl,ho,rfl⟩
  have Er:out.length≤1000000:=by
   have h7:=congrArg List.length ho;rw [ae,oU _ _ _ rfl] at h7
   have:=ql 20 (ts.take k).length i zo;rw [ae] at h7
   omega
  refine ⟨fun _=>zE,?_⟩;refine tO 8 ?_;refine bg rfl rfl (j4 (ts.length - k) _ e _ (ts.drop k) Ej Cp.tail.tail (dQ.tail (dQ.tail (jM ht fun x hx=>aV hx))) (fun a ha=>hb a (aV ha)) zo) ?_;rintro _ _ ⟨dW,c2,rfl,rfl⟩;refine ⟨fun _=>zE,?_⟩
  generalize rI:ea ((ts.drop k).map (·.2))=rt at *
  refine tO 9 ?_;refine bE (n:=1) rfl rfl rfl rfl zQ rfl (fun g2=>⟨fun _=>zE,?_⟩);refine tO 10 ?_;refine bo rfl rfl rfl (.succ (.succ .zero)) (bO (n:=1) (c:=1) .zero rfl zl) rfl rfl zO zm zo fun eJ c3 _=>⟨fun _=>zE,?_⟩
  ((refine tO 11 ?_;refine dV (bj rfl) ?_))
  refine bf zK ?_;refine wB ?_;refine aY (cV (.slice eJ (out++[((Value.slice dW rt.length c2,rt):ej)]).length c3) (out++[((Value.slice dW rt.length c2,rt):ej)])::cH (out++[((Value.slice dW rt.length c2,rt):ej)])::R) rfl (cj zE fZ) ⟨eJ,c3,out++[((Value.slice dW rt.length c2,rt):ej)],by rw [aa,aj];rfl,by rw [ah,ho,vy vB];rfl,rfl⟩
 ·refine wB ?_;refine bz (id:=6) [13] mixed ?_
  (refine tM 0 ?_;refine tM 1 ?_;refine tk 2 _ rfl (cD.lm rfl rfl zo zo) ?_;refine tM 3 ?_;refine tM 4 ?_;refine tk 5 _ rfl (cD.jz rfl rfl zo) ?_;refine tM 7 ?_;refine tM 8 ?_;refine tk 9 _ rfl (cD.iV rfl rfl zo zo) ?_)
  rw [show ((i:Nat):Int) - ((k:Nat):Int)=((i - k:Nat):Int) by omega];refine tO 6 ?_;refine bg rfl rfl (ih (ts.length - k) zo R e _ (ts.drop k) (i - k) Ej Cp (jM ht fun x hx=>aV hx) (fun a ha=>hb a (aV ha)) zo zo) ?_;rintro _ _ ⟨ef,c1,out,rfl,ho,rfl⟩
  have Er:out.length≤1000000:=by
   have h7:=congrArg List.length ho;rw [ae,oU _ _ _ rfl] at h7
   have:=ql 20 (ts.drop k).length (i - k) zo;rw [ae] at h7
   omega
  refine ⟨fun _=>zE,?_⟩;refine tO 10 ?_;refine bg rfl rfl (j4 k _ e _ (ts.take k) QI Ei.tail.tail (dQ.tail (dQ.tail (jM ht fun x hx=>aR hx))) (fun a ha=>hb a (aR ha)) zo) ?_;rintro _ _ ⟨dW,c2,rfl,rfl⟩;refine ⟨fun _=>zE,?_⟩
  generalize rI:ea ((ts.take k).map (·.2))=rt at *
  refine tO 11 ?_;refine bE (n:=1) rfl rfl rfl rfl zQ rfl (fun g2=>⟨fun _=>zE,?_⟩);refine tO 12 ?_;refine bo rfl rfl rfl (.succ (.succ .zero)) (bO (n:=1) (c:=1) .zero rfl zl) rfl rfl zO zm zo fun eJ c3 _=>⟨fun _=>zE,?_⟩
  ((refine tO 13 ?_;refine dV (bj rfl) ?_))
  refine bf zK ?_;refine wB ?_;refine aY (cV (.slice eJ (out++[((Value.slice dW rt.length c2,rt):ej)]).length c3) (out++[((Value.slice dW rt.length c2,rt):ej)])::cH (out++[((Value.slice dW rt.length c2,rt):ej)])::R) rfl (cj zE fZ) ⟨eJ,c3,out++[((Value.slice dW rt.length c2,rt):ej)],by rw [aa,aj];rfl,by rw [ah,ho,J2 vB];rfl,rfl⟩
theorem Cu (v:Value) (ts:List ej) (n:Int) (hn:-9223372036854775808≤n∧n≤9223372036854775807) (hv:cE R 1 v ts.length (ts.map (·.1))) (ht:dQ R ts) (hb:∀ a∈ts,a.2.length≤1000000) (hl:ts.length≤1000000) :
 Ct prog 79 #[v,.int .i64 n] e R (fun v' L' =>
  (¬ (0≤n∧n<ts.length)∧v'=.tuple #[.agg #[.int .i64 0,.int .i64 0,nY],.int .i64 1]∧R=L') ∨
  (0≤n∧n<ts.length∧∃ ad c out,v'=.tuple #[.agg #[.int .i64 n,.int .i64 (ts.length:Int),.slice ad out.length c],.int .i64 0]∧out.map (·.2)=iH (ts.map (·.2)) n.toNat∧L'=cV (.slice ad out.length c) out::cH out::R)):=by
 refine a7 (hv.shape zo) ?_;rintro ⟨⟨ad,cap,rfl,h3,h4,h5,h6⟩,_⟩;refine bH (args:=[_,_]) func79 rfl ntmps79 results79 rfl ?_
 by_cases j1:0≤n∧n<ts.length
 rotate_left
 ·by_cases h0:n<0
  ·(repeat (refine wA ?_;intros))
   apply br;exact zV;exact ⟨R,zE,.inl ⟨j1,rfl,rfl⟩⟩
  ·(repeat (refine wA ?_;intros))
   apply br;exact zV;exact ⟨R,zE,.inl ⟨j1,rfl,rfl⟩⟩
 obtain ⟨h0,cO⟩:=j1;obtain ⟨m,rfl⟩:=Int.eq_ofNat_of_zero_le h0;rw [Int.toNat_natCast]
 (repeat (refine wA ?_;intros))
 refine aZ rfl rfl (J1 ts.length _ e _ ts m rfl hv.tail ht.tail hb hl zo) ?_;rintro _ _ ⟨ef,c1,out,rfl,ho,rfl⟩;refine wB ?_;apply br;exact zV;exact ⟨cV (.slice ef out.length c1) out::cH out::R,zE,.inr ⟨h0,cO,ef,c1,out,rfl,ho,rfl⟩⟩
theorem tW (v:Value) (b:List UInt8) (hv:db R v b) :
 Ct prog 205 #[v] e R (fun v' L'=>v'=.bool (decide (b.length=32))∧R=L'):=by
 refine a7 (cE.shape hv zo) ?_;rintro ⟨⟨ad,cap,rfl,h3,h4,h5,h6⟩,_⟩;refine a8 (args:=[_]) func205 rfl ntmps205 results205 rfl ?_
 by_cases h:b.length=32
 ·rw [ay h];refine wB ?_;exact aY R rfl aX ⟨rfl,rfl⟩
 ·rw [aq h];refine wB ?_;exact aY R rfl aX ⟨rfl,rfl⟩
theorem J3 (v:Value) (b:List UInt8) (hv:db R v b) :
 Ct prog 204 #[v] e R (fun v' L'=>v'=.bool (!decide (b.length=32))∧R=L'):=by
 refine a8 (args:=[_]) func204 rfl ntmps204 results204 rfl ?_;refine wB ?_;refine aZ rfl rfl (tW _ e v b hv) ?_;rintro _ _ ⟨rfl,rfl⟩
 by_cases h:b.length=32
 ·rw [ay h];refine wB ?_;exact aY R rfl aX ⟨rfl,rfl⟩
 ·rw [aq h];refine wB ?_;exact aY R rfl aX ⟨rfl,rfl⟩
theorem GW (v:Value) (ts:List ej) (hv:cE R 1 v ts.length (ts.map (·.1))) (ht:dQ R ts) (hl:ts.length≤1000000) :
 Ct prog 264 #[v,.func (.func 204) #[] #[]] e R (fun v' L'=>(∃ k:Int,v'=.int .i64 k∧(0≤k↔¬ ∀ a∈ts,a.2.length=32))∧R=L'):=by
 refine a7 (hv.shape zo) ?_;rintro ⟨⟨ad,cap,rfl,h3,h4,h5,h6⟩,_⟩;refine a8 (args:=[_,_]) func264 rfl ntmps264 results264 rfl ?_;refine wB ?_;refine bq (ι:=Nat) (fun i=>[(0,.slice ad ts.length cap),(1,.func (.func 204) #[] #[]),(7,.int .i64 (ts.length:Int)),(8,.int .i64 (i:Int))]) (fun _=>R) (fun i=>i≤ts.length∧∀ a∈ts.take i,a.2.length=32) (fun i=>ts.length - i) 0 ⟨aH _,fun a ha=>(by cases ha)⟩ (cC rfl (cC rfl (cC rfl (cC rfl dd)))) aX ?_;rintro i ⟨h1,h2⟩
 by_cases cO:i<ts.length
 rotate_left
 ·rw [aG zo] at h2
  refine wB ?_;exact aY R rfl aX ⟨⟨-1,rfl,⟨fun h=>absurd h (by decide),fun h=>absurd h2 h⟩⟩,rfl⟩
 rcases h6 with h6|⟨gl,ol,rfl⟩
 ·omega
 have hr:Rd R ⟨gl,ol+i,none⟩ (ts[i]'cO).1:=hv.elem (by rw [aL,ab cO];rfl);have hm:=aA cO;have hx:=ht _ hm;have ft:ts.take (i+1)=ts.take i++[ts[i]'cO]:=aD cO
 generalize ts[i]'cO=y at *
 refine wB ?_;refine O.gB (us:=[]) (ws:=[]) rfl rfl rfl (J3 R e y.1 y.2 hx) ?_;rintro _ _ ⟨rfl,rfl⟩
 by_cases jN:y.2.length=32
 ·rw [ay jN];refine wB ?_;refine bi (i+1) ⟨cO,fun a ha=>?_⟩ zo (cC rfl (cC rfl (cC rfl (cC rfl dd)))) aX;rw [ft] at ha
  rcases aJ.1 ha with q|q
  ·exact h2 a q
  ·rw [an.1 q];exact jN
 ·rw [aq jN];refine wB ?_;exact aY R rfl aX ⟨⟨i,rfl,⟨fun _ h=>jN (h y hm),fun _=>by omega⟩⟩,rfl⟩
theorem Ak (v:Value) (ts:List ej) (hv:cE R 1 v ts.length (ts.map (·.1))) (ht:dQ R ts) (hl:ts.length≤1000000) :
 Ct prog 203 #[v,.func (.func 204) #[] #[]] e R (fun v' L'=>v'=.bool (!decide (∀ a∈ts,a.2.length=32))∧R=L'):=by
 refine a8 (args:=[_,_]) func203 rfl ntmps203 results203 rfl ?_;refine wB ?_;refine aZ rfl rfl (GW _ e v ts hv ht hl) ?_;rintro _ _ ⟨⟨k,rfl,hk⟩,rfl⟩
 by_cases h:∀ a∈ts,a.2.length=32
 ·rw [ay h];have:¬ 0≤k:=fun h0=>hk.1 h0 h
  refine wB ?_;exact aY R rfl aX ⟨rfl,rfl⟩
 ·rw [aq h];have:=hk.2 h;refine wB ?_;exact aY R rfl aX ⟨rfl,rfl⟩
def jF (l:List ej):Bool:=decide (l.length≤16∧∀ a∈l,a.2.length=32)
theorem nh (v:Value) (ts:List ej) (hv:cE R 1 v ts.length (ts.map (·.1))) (ht:dQ R ts) :
 Ct prog 119 #[v] e R (fun v' L'=>v'=.bool (jF ts)∧R=L'):=by
 refine a7 (hv.shape zo) ?_;rintro ⟨⟨ad,cap,rfl,h3,h4,h5,h6⟩,_⟩;refine a8 (args:=[_]) func119 rfl ntmps119 results119 rfl ?_
 by_cases hl:ts.length≤16
 rotate_left
 ·rw [show jF ts=false from aq fun h=>hl h.1];refine wB ?_;exact aY R rfl aX ⟨rfl,rfl⟩
 refine wB ?_;refine aZ rfl rfl (Ak _ e _ ts hv ht zo) ?_;rintro _ _ ⟨rfl,rfl⟩
 by_cases h:∀ a∈ts,a.2.length=32
 ·rw [ay h,show jF ts=true from ay ⟨hl,h⟩];refine wB ?_;exact aY R rfl aX ⟨rfl,rfl⟩
 ·rw [aq h,show jF ts=false from aq fun q=>h q.2];refine wB ?_;exact aY R rfl aX ⟨rfl,rfl⟩
theorem vC (ad:Option Addr) (cap:Nat) (ts:List ej) (hv:cE R 1 (.slice ad ts.length cap) ts.length (ts.map (·.1))) (hl:ts.length≤1000000) :
 Ct prog 312 #[.slice ad ts.length cap] e R (fun v' L'=>((ts=[]∧v'=.tuple #[nY,nY,.bool false])∨(∃ us a,ts=us++[a]∧v'=.tuple #[.slice ad us.length cap,a.1,.bool true]))∧R=L'):=by
 refine a7 (hv.shape zo) ?_;rintro ⟨⟨lM,Rr,hq,h3,h4,h5,h6⟩,_⟩;obtain ⟨rfl,_,rfl⟩:=Value.slice.inj hq;clear hq;simp only [maxLen] at h4
 refine a8 (args:=[_]) func312 rfl ntmps312 results312 rfl ?_
 obtain rfl|⟨us,a,rfl⟩:ts=[]∨∃ us a,ts=us++[a]:=by
  rcases List.eq_nil_or_concat ts with h|⟨us,a,h⟩
  ·exact .inl h
  ·exact .inr ⟨us,a,by rw [h,List.concat_eq_append]⟩
 ·have e0:((([]:List ej).length:Nat):Int)=0:=rfl;refine wB ?_;exact aY R rfl aX ⟨.inl ⟨rfl,rfl⟩,rfl⟩
 have qi:(us++[a]).length=us.length+1:=by rw [aa,aj]
 rcases h6 with h6|⟨gl,ol,rfl⟩
 ·omega
 have hr:Rd R ⟨gl,ol+us.length,none⟩ a.1:=hv.elem (by simp);have e1:(((us++[a]).length:Nat):Int) - 1=(us.length:Int):=by omega
 refine wB ?_;rw [e1]
 (repeat' first|refine Za ?_|refine Zb ?_|apply Zc|apply Zd|apply Ze|apply Zf|refine Zi ?_|refine Zj ?_|refine Zk ?_|refine ZA ?_|refine ZB ?_|refine ZC (fun _=>?_) fun _=>?_|refine ZU ?_|refine ZV ?_|refine Ym ?_|refine Yr ?_|refine Ys ?_|refine Yt ?_|refine Yw ?_|refine Yx ?_|refine Yy ?_|refine Yz ?_|refine YA ?_|apply YC|apply YE|apply YF|(apply O.df;exact rfl;exact zP;(first|(simp only [aC,Nat.add_zero,Nat.reduceAdd,List.drop_succ_cons,List.drop_zero,List.take_succ_cons,List.take_zero];done)|(simp only [aC,Nat.add_zero,Nat.reduceAdd,List.drop_succ_cons,List.drop_zero,List.take_succ_cons,List.take_zero];exact rfl));exact rfl;exact rfl))
 refine bz (id:=4) [8,9] mixed ?_
 (refine tM 0 ?_;refine tM 1 ?_;refine tk 2 _ rfl (cD.iV rfl rfl zo zo) ?_;refine tM 3 ?_;refine tM 4 ?_;refine tk 5 _ rfl (cD.ix rfl rfl zo) ?_;refine tL 6 ?_;refine tA 7 ?_;(refine tO 8 ?_;refine dV (bj rfl) ?_);(refine tO 9 ?_;refine dV (bj rfl) ?_))
 refine bf zK ?_;refine wB ?_;exact aY R rfl aX ⟨.inr ⟨us,a,rfl,rfl⟩,rfl⟩
theorem mC (us:List ej) (a:ej):lC ((us++[a]).map (·.2))=a.2:=by rw [ah];exact mP _ _
theorem l9 (us:List ej) (a:ej):((us++[a]).map (·.2)).dropLast=us.map (·.2):=by rw [ah];exact List.dropLast_concat
theorem II {R:List cJ} {ad:Option Addr} {cap:Nat} {us:List ej} {a:ej} (h:cE R 1 (.slice ad (us++[a]).length cap) (us++[a]).length ((us++[a]).map (·.1))):cE R 1 (.slice ad us.length cap) us.length (us.map (·.1)):=by
 have:=k6 h (k:=us.length) (by simp)
 rwa [List.take_left'] at this
 rfl
theorem J4:∀ (m:Nat) (R:List cJ) (e:World) (ad:Option Addr) (cap:Nat) (ts:List ej) (i n:Nat) (v:Value) (b:List UInt8),ts.length=m→cE R 1 (.slice ad ts.length cap) ts.length (ts.map (·.1))→dQ R ts→(∀ a∈ts,a.2.length≤1000000)→ts.length≤1000000→n<9223372036854775808→i<9223372036854775808→db R v b→b.length≤1000000 →
 Ct prog 300 #[.slice ad ts.length cap,.int .i64 (i:Int),.int .i64 (n:Int),v] e R (fun v' L'=>∃ lM c t,v'=.tuple #[.slice lM t.length c,.bool (decide (ts.length=jl n i))]∧(ts.length=jl n i→t=lD n i (ts.map (·.2)) b)∧t.length≤1000000∧L'=cS (.slice lM t.length c) t::R):=by
 intro m
 induction m using Nat.strongRecOn with
 | _ m ih =>
 intro R e ad cap ts i n v b hm hv ht ln hl hn hi hb nK;refine a8 (args:=[_,_,_,_]) func300 rfl ntmps300 results300 rfl ?_;refine wB ?_;refine aZ rfl rfl (mL R e n zo) ?_;rintro _ _ ⟨rfl,rfl⟩;rw [kY]
 by_cases h2:2≤n
 rotate_left
 ·have h0:cN n=0:=by unfold cN;rw [aI zo]
  rw [h0];have Ga:=oT (i:=i) h2;refine wB ?_;refine aZ rfl rfl (dw _ e _ b hb zo) ?_;rintro _ _ ⟨ef,c1,rfl,rfl⟩
  by_cases u7:ts.length=0
  ·refine wB ?_;exact aY (cS (.slice ef b.length c1) b::R) rfl aX ⟨ef,c1,b,by rw [Ga,ay u7];rfl,fun _=>(sn h2).symm,nK,rfl⟩
  ·refine wB ?_;exact aY (cS (.slice ef b.length c1) b::R) rfl aX ⟨ef,c1,b,by rw [Ga,aq u7];rfl,fun _=>(sn h2).symm,nK,rfl⟩
 have hs:=dz h2;have vy:=fun h=>yo (i:=i) h2 h
 have J2:=fun h=>yp (i:=i) h2 h
 have RP:=fun p h=>Es (i:=i) (p:=p) (x:=b) h2 h
 have RQ:=fun p h=>Et (i:=i) (p:=p) (x:=b) h2 h
 have Ag:0<jl n i:=by
  by_cases h:i<cN n
  ·rw [vy h];omega
  ·rw [J2 h];omega
 generalize cN n=k at *
 refine wB ?_;refine aZ rfl rfl (vC _ e ad cap ts hv hl) ?_;rintro _ _ ⟨⟨rfl,rfl⟩|⟨us,a,rfl,rfl⟩,rfl⟩
 ·refine wB ?_;exact aY (cS nY []::R) rfl (dv _ _) ⟨none,0,[],by rw [aq (by simp;omega)];rfl,fun h=>(by simp at h;omega),by simp,rfl⟩
 have qi:(us++[a]).length=us.length+1:=by rw [aa,aj]
 have jw:=II hv;have Vy:dQ R us:=fun x hx=>ht x (aJ.2 (.inl hx))
 have ha:db R a.1 a.2:=ht a (aJ.2 (.inr (an.2 rfl)));have rL:=ln a (aJ.2 (.inr (an.2 rfl)));have Vz:∀ x∈us,x.2.length≤1000000:=fun x hx=>ln x (aJ.2 (.inl hx))
 by_cases vB:i<k
 ·refine wB ?_;refine aZ rfl rfl (ih us.length zo R e ad cap us i k v b rfl jw Vy Vz zo zo hi hb nK) ?_;rintro _ _ ⟨ef,c1,t,rfl,h7,h8,rfl⟩;refine wB ?_;refine aZ rfl rfl (mB _ e _ _ _ _ (bb .zero) ha.tail h8 rL) ?_;rintro _ _ ⟨eJ,c3,rfl,rfl⟩;refine wB ?_;refine aY (cS (.slice eJ (eG t a.2).length c3) (eG t a.2)::R) rfl zE ⟨eJ,c3,eG t a.2,?_,fun h=>?_,by rw [eG,dg];omega,rfl⟩
  ·rw [qi,vy vB,decide_eq_decide.2 (show us.length=jl k i↔us.length+1=jl k i+1 by omega)];rfl
  ·rw [qi,vy vB] at h
   rw [h7 zo,RP _ vB,l9,mC]
 ·refine wB ?_;rw [show ((i:Nat):Int) - ((k:Nat):Int)=((i - k:Nat):Int) by omega,show ((n:Nat):Int) - ((k:Nat):Int)=((n - k:Nat):Int) by omega];refine aZ rfl rfl (ih us.length zo R e ad cap us (i - k) (n - k) v b rfl jw Vy Vz zo zo zo hb nK) ?_;rintro _ _ ⟨ef,c1,t,rfl,h7,h8,rfl⟩;refine wB ?_;refine aZ rfl rfl (mB _ e _ _ _ _ ha.tail (bb .zero) rL h8) ?_;rintro _ _ ⟨eJ,c3,rfl,rfl⟩;refine wB ?_;refine aY (cS (.slice eJ (eG a.2 t).length c3) (eG a.2 t)::R) rfl zE ⟨eJ,c3,eG a.2 t,?_,fun h=>?_,by rw [eG,dg];omega,rfl⟩
  ·rw [qi,J2 vB,decide_eq_decide.2 (show us.length=jl (n - k) (i - k)↔us.length+1=jl (n - k) (i - k)+1 by omega)];rfl
  ·rw [qi,J2 vB] at h
   rw [h7 zo,RQ _ vB,l9,mC]
def qm (idx size:Int) (ts:List ej) (b:List UInt8):Prop:=jF ts=true∧b.length=32∧0≤idx∧idx<size∧ts.length=jl size.toNat idx.toNat
instance (idx size:Int) (ts:List ej) (b:List UInt8):Decidable (qm idx size ts b):=by unfold qm;infer_instance
abbrev qn (idx size:Int) (ts:List ej) (b:List UInt8):List UInt8:=lD size.toNat idx.toNat (ts.map (·.2)) b
theorem so {ts:List ej}:jF ts=true↔ts.length≤16∧∀ a∈ts,a.2.length=32:=decide_eq_true_iff
theorem GX (idx size:Int) (vp vb:Value) (ts:List ej) (b:List UInt8) (h1:-9223372036854775808≤idx∧idx≤9223372036854775807) (h2:-9223372036854775808≤size∧size≤9223372036854775807) (hv:cE R 1 vp ts.length (ts.map (·.1))) (ht:dQ R ts) (hb:db R vb b) :
 Ct prog 268 #[.agg #[.int .i64 idx,.int .i64 size,vp],vb] e R (fun v' L' =>
  (qm idx size ts b∧∃ ad c,v'=.tuple #[.slice ad (qn idx size ts b).length c,.bool true]∧L'=cS (.slice ad (qn idx size ts b).length c) (qn idx size ts b)::R) ∨
  (¬ qm idx size ts b∧v'=.tuple #[nY,.bool false]∧R=L')):=by
 refine a7 (hv.shape zo) ?_;rintro ⟨⟨ad,cap,rfl,h3,h4,h5,h6⟩,_⟩;refine a8 (args:=[_,_]) func268 rfl ntmps268 results268 rfl ?_
 (repeat (refine wA ?_;intros))
 rename_i g;refine aZ rfl rfl (nh _ e _ ts hv.tail ht.tail) ?_;rintro _ _ ⟨rfl,rfl⟩
 by_cases hr:jF ts=true
 rotate_left
 ·rw [show jF ts=false by simpa using hr];refine wB ?_;exact aY R rfl zE (.inr ⟨fun h=>hr h.1,rfl,rfl⟩)
 rw [hr];obtain ⟨r1,r2⟩:=so.1 hr;refine wB ?_;refine aZ rfl rfl (tW _ e _ b hb.tail) ?_;rintro _ _ ⟨rfl,rfl⟩
 by_cases jN:b.length=32
 rotate_left
 ·rw [aq jN];refine wB ?_;exact aY R rfl zE (.inr ⟨fun h=>jN h.2.1,rfl,rfl⟩)
 rw [ay jN]
 by_cases h0:0≤idx
 rotate_left
 ·refine wB ?_;exact aY R rfl zE (.inr ⟨fun h=>h0 h.2.2.1,rfl,rfl⟩)
 by_cases cO:idx<size
 rotate_left
 ·refine wB ?_;exact aY R rfl zE (.inr ⟨fun h=>cO h.2.2.2.1,rfl,rfl⟩)
 obtain ⟨i,rfl⟩:=Int.eq_ofNat_of_zero_le h0;obtain ⟨n,rfl⟩:=Int.eq_ofNat_of_zero_le (show 0≤size by omega);refine wB ?_;refine aZ rfl rfl (J4 ts.length _ e ad cap ts i n vb b rfl hv.tail ht.tail (fun a ha=>by have:=r2 a ha;omega) zo zo zo hb.tail zo) ?_;rintro _ _ ⟨ef,c1,t,rfl,h7,h8,rfl⟩
 by_cases Ga:ts.length=jl n i
 ·rw [ay Ga];have h9:=h7 Ga;subst h9;refine wB ?_;exact aY (cS (.slice ef (lD n i (ts.map (·.2)) b).length c1) (lD n i (ts.map (·.2)) b)::R) rfl zE (.inl ⟨⟨hr,jN,h0,cO,Ga⟩,ef,c1,rfl,rfl⟩)
 ·rw [aq Ga];refine wB ?_;exact aY R rfl zE (.inr ⟨fun h=>Ga h.2.2.2.2,rfl,rfl⟩)
theorem iN (va vb:Value) (a b:List UInt8) (ha:db R va a) (hb:db R vb b) :
 Ct prog 99 #[va,vb] e R (fun v' L'=>v'=.bool (decide (a=b))∧R=L'):=by
 refine a8 (args:=[_,_]) func99 rfl ntmps99 results99 rfl ?_
 have eq:Ct prog 188 #[va,vb] e R (fun v' L'=>v'=.bool (decide (a=b))∧R=L'):=by
  refine a8 (args:=[_,_]) func188 rfl ntmps188 results188 rfl ?_
  by_cases h:a=b
  ·rw [ay h];subst h;refine wB ?_;exact aY R rfl aX ⟨rfl,rfl⟩
  ·rw [aq h];refine wB ?_;exact aY R rfl aX ⟨rfl,rfl⟩
 refine wB ?_;refine aZ rfl rfl eq ?_;rintro _ _ ⟨rfl,rfl⟩;refine wB ?_;exact aY R rfl aX ⟨rfl,rfl⟩
theorem GY (idx size:Int) (vp vb vr:Value) (ts:List ej) (b r:List UInt8) (h1:-9223372036854775808≤idx∧idx≤9223372036854775807) (h2:-9223372036854775808≤size∧size≤9223372036854775807) (hv:cE R 1 vp ts.length (ts.map (·.1))) (ht:dQ R ts) (hb:db R vb b) (hr:db R vr r) :
 Ct prog 214 #[.agg #[.int .i64 idx,.int .i64 size,vp],vb,vr] e R (fun v' L'=>v'=.bool (decide (qm idx size ts b∧qn idx size ts b=r))∧R=L'):=by
 refine a7 (hv.shape zo) ?_;rintro ⟨⟨ad,cap,rfl,h3,h4,h5,h6⟩,_⟩;refine a8 (args:=[_,_,_]) func214 rfl ntmps214 results214 rfl ?_
 (repeat (refine wA ?_;intros))
 rename_i g;refine aZ rfl rfl (GX _ e idx size _ vb ts b h1 h2 hv.tail ht.tail hb.tail) ?_;rintro _ _ (⟨j1,ef,c1,rfl,rfl⟩|⟨j1,rfl,rfl⟩)
 ·refine wB ?_;refine aZ rfl rfl (iN _ e _ _ _ _ (bb .zero) hr.tail.tail) ?_;rintro _ _ ⟨rfl,rfl⟩
  by_cases h:qn idx size ts b=r
  ·rw [ay h,ay ⟨j1,h⟩];refine wB ?_;exact aY R rfl zE ⟨rfl,rfl⟩
  ·rw [aq h,aq fun q=>h q.2];refine wB ?_;exact aY R rfl zE ⟨rfl,rfl⟩
 ·rw [aq fun q=>j1 q.1];refine wB ?_;exact aY R rfl zE ⟨rfl,rfl⟩
def Eu (bs:List (List UInt8)) (n:Nat):Prop:=bs.length=n∧∀ a∈bs,a.length=32
instance (bs:List (List UInt8)) (n:Nat):Decidable (Eu bs n):=by unfold Eu;infer_instance
theorem Cv (v:Value) (b:List UInt8) (hv:db R v b) :
 Ct prog 311 #[v] e R (fun v' L'=>v'=.bool (!decide (b.length=32))∧R=L'):=by
 refine a7 (cE.shape hv zo) ?_;rintro ⟨⟨ad,cap,rfl,h3,h4,h5,h6⟩,_⟩;refine a8 (args:=[_]) func311 rfl ntmps311 results311 rfl ?_
 by_cases h:b.length=32
 ·rw [ay h];refine wB ?_;exact aY R rfl aX ⟨rfl,rfl⟩
 ·rw [aq h];refine wB ?_;exact aY R rfl aX ⟨rfl,rfl⟩
theorem wz (v:Value) (bs:List (List UInt8)) (n:Nat) (hv:mO R v bs) (hl:bs.length≤1000000) (hn:n≤1000000) :
 Ct prog 292 #[v,.int .i64 (n:Int)] e R (fun v' L'=>v'=.bool (decide (Eu bs n))∧R=L'):=by
 obtain ⟨ts,rfl,hv,ht⟩:=hv;rw [ae] at hl
 refine a7 (hv.shape zo) ?_;rintro ⟨⟨ad,cap,rfl,h3,h4,h5,h6⟩,_⟩;refine a8 (args:=[_,_]) func292 rfl ntmps292 results292 rfl ?_
 by_cases h:ts.length=n
 rotate_left
 ·rw [aq (fun q:Eu _ _=>h (by simpa using q.1))];refine wB ?_;exact aY R rfl aX ⟨rfl,rfl⟩
 refine wB ?_;refine aZ rfl rfl (qk R e _ ts 311 [] [] (fun i=>!decide (((ts.map (·.2)).getD i []).length=32)) hv hl (fun i hi=>?_)) ?_
 ·rw [e6 hi];exact Cv R e _ _ (ht _ (aA hi))
 rintro _ _ ⟨rfl,rfl⟩
 by_cases h2:∀ a∈ts.map (·.2),a.length=32
 ·rw [ay (show Eu _ _ from ⟨by rw [ae];exact h,h2⟩),aq (fun ⟨i,q1,q2⟩=>by rw [e6 q1] at q2;simp [h2 _ (aE.2 ⟨_,aA q1,rfl⟩)] at q2)];refine wB ?_;exact aY R rfl aX ⟨rfl,rfl⟩
 ·rw [aq (fun q:Eu _ _=>h2 q.2),ay (by
   refine Classical.byContradiction fun lT=>h2 fun a ha=>?_
   obtain ⟨x,hx,rfl⟩:=aE.1 ha;obtain ⟨i,hi,rfl⟩:=List.mem_iff_getElem.1 hx;refine Classical.byContradiction fun hl=>lT ⟨i,hi,?_⟩
   rw [e6 hi,aq hl];rfl)]
  refine wB ?_;exact aY R rfl aX ⟨rfl,rfl⟩
abbrev yq (s:xa) (vp vq:Value):List Value:=[.int .i64 (s.idx:Int),vp,vq]
structure fL (L:List cJ) (vp vq:Value) (s:xa):Prop where
 parts:mO L vp s.parts
 path:mO L vq s.path
 small:s.idx<4294967296∧s.parts.length≤1000000∧s.path.length≤1000000
theorem fL.cL {L L':List cJ} {vp vq:Value} {s:xa} (h:fL L' vp vq s) (f:cz L L'):fL L vp vq s:=⟨h.parts.cL f,h.path.cL f,h.small⟩
theorem fL.tail {A:cJ} {L:List cJ} {vp vq:Value} {s:xa} (h:fL L vp vq s):fL (A::L) vp vq s:=h.cL (cz.drop aX)
theorem qo (vp vq:Value) (s:xa) (hs:fL R vp vq s) :
 Ct prog 257 #[.agg (yq s vp vq).toArray] e R (fun v' L'=>v'=.bool (decide s.right)∧R=L'):=by
 obtain ⟨h1,h2,h3,h4,h5⟩:=hs;refine a7 h1.one fun o1=>?_
 refine a7 h2.one fun o2=>?_
 refine a8 (args:=[_]) func257 rfl ntmps257 results257 rfl ?_
 by_cases hi:s.idx<16
 rotate_left
 ·rw [aq (fun q:s.right=>hi q.1)]
  (repeat (refine wA ?_;intros))
  exact aY R rfl zE ⟨rfl,rfl⟩
 (repeat (refine wA ?_;intros))
 refine aZ rfl rfl (wz _ e vp s.parts 64 h1.tail h4 zo) ?_;rintro _ _ ⟨rfl,rfl⟩
 by_cases ha:Eu s.parts 64
 rotate_left
 ·rw [aq ha,aq (fun q:s.right=>ha ⟨q.2.1,q.2.2.1⟩)];refine wB ?_;exact aY R rfl zE ⟨rfl,rfl⟩
 rw [ay ha];refine wB ?_;refine aZ rfl rfl (wz _ e vq s.path 4 h2.tail h5 zo) ?_;rintro _ _ ⟨rfl,rfl⟩
 by_cases hb:Eu s.path 4
 rotate_left
 ·rw [aq hb,aq (fun q:s.right=>hb ⟨q.2.2.2.1,q.2.2.2.2⟩)];refine wB ?_;exact aY R rfl zE ⟨rfl,rfl⟩
 rw [ay hb,ay (show s.right from ⟨hi,ha.1,ha.2,hb.1,hb.2⟩)];refine wB ?_;exact aY R rfl zE ⟨rfl,rfl⟩
theorem xe (iD:List UInt8) (l:List (List UInt8)):(iF iD l).length=32:=dg _ _
set_option maxHeartbeats 400000 in
theorem tX (v u vp vq:Value) (iG iD:List UInt8) (s:xa) (hv:db R v iG) (hu:db R u iD) (hm:iD.length≤1000000) (hs:fL R vp vq s) :
 Ct prog 187 #[v,u,.agg (yq s vp vq).toArray] e R (fun v' L'=>v'=.bool (decide (xc iG iD s))∧R=L'):=by
 refine a7 hs.parts.one fun o1=>?_
 refine a7 hs.path.one fun o2=>?_
 refine a8 (args:=[_,_,_]) func187 rfl ntmps187 results187 rfl ?_
 (repeat (refine wA ?_;intros))
 rename_i g;refine aZ rfl rfl (qo _ e vp vq s hs.tail) ?_;rintro _ _ ⟨rfl,rfl⟩
 by_cases hr:s.right
 rotate_left
 ·rw [aq hr,aq (fun q:xc iG iD s=>hr q.1)];refine wB ?_;exact aY R rfl zE ⟨rfl,rfl⟩
 rw [ay hr];obtain ⟨q1,q2,q3,q4,q5⟩:=id hr;obtain ⟨ts,e1,r1,t1⟩:=hs.parts;obtain ⟨us,e2,r2,t2⟩:=hs.path;have qi:ts.length=64:=by rw [← q2,← e1,ae]
 have pH:us.length=4:=by rw [← q4,← e2,ae]
 have Ru:=oS e1 q3;have T0:=oS e2 q5;refine wB ?_;refine aZ rfl rfl (Aj _ e u vp iD ts hu.tail hm r1.tail (dQ.tail t1) qi Ru) ?_;rintro _ _ ⟨ad,c,rfl,rfl⟩;rw [e1];have My:=xe iD s.parts;have pQ:xc iG iD s↔lV s.idx (iF iD s.parts) s.path=iG:=⟨fun q=>q.2,fun q=>⟨hr,q⟩⟩
 generalize iF iD s.parts=b0 at *
 refine bm (r2.tail.tail.shape zo) ?_;rintro ⟨⟨adq,cq,rfl,w3,w4,w5,w6⟩,_⟩;simp only [maxLen] at w4
 refine wB ?_;refine bq (ι:=Nat × Nat × List UInt8 × Option Addr × Nat) (fun i=>[(0,v),(7,.slice i.2.2.2.1 i.2.2.1.length i.2.2.2.2),(8,.bool true),(9,.int .i64 (i.2.1:Int)),(25,.slice adq us.length cq),(26,.int .i64 (us.length:Int)),(27,.int .i64 (i.1:Int))]) (fun i=>cS (.slice i.2.2.2.1 i.2.2.1.length i.2.2.2.2) i.2.2.1::R) (fun i=>i.1≤us.length∧i.2.1<16∧i.2.2.1.length=32∧lV i.2.1 i.2.2.1 (s.path.drop i.1)=lV s.idx b0 s.path) (fun i=>us.length - i.1) (0,s.idx,b0,ad,c) ⟨aH _,q1,My,rfl⟩ zS zE ?_;rintro ⟨i,jC,b,dW,c2⟩ ⟨hi,J5,nK,Cd⟩;dsimp only at hi J5 nK Cd ⊢
 by_cases cO:i<us.length
 rotate_left
 ·have hd:s.path.drop i=[]:=List.drop_eq_nil_of_le zo;rw [hd] at Cd
  have Cd:b=lV s.idx b0 s.path:=Cd;refine wB ?_;refine aZ rfl rfl (iN _ e _ v b iG (bb .zero) hv.tail) ?_;rintro _ _ ⟨rfl,rfl⟩;rw [show decide (b=iG)=decide (xc iG iD s) from decide_eq_decide.2 (by rw [pQ,← Cd])];refine wB ?_;exact aY R rfl zE ⟨rfl,rfl⟩
 rcases w6 with w6|⟨gl,ol,rfl⟩
 ·omega
 have hrr:Rd R ⟨gl,ol+i,none⟩ (us[i]'cO).1:=r2.elem (by rw [aL,ab cO];rfl);have jt:=t2 _ (aA cO);have OM:=T0 _ (aA cO)
 have Ef:s.path.drop i=(us[i]'cO).2::s.path.drop (i+1):=by
  rw [← e2];rw [List.drop_eq_getElem_cons (by rw [ae];exact cO),List.getElem_map]
 generalize us[i]'cO=y at *
 obtain ⟨yv,yb⟩:=y;dsimp only at hrr jt OM Ef
 rw [Ef] at Cd
 have Cp:IntKind.i64.wrap (((jC:Int)).tdiv 2)=((jC / 2:Nat):Int):=by
  rw [Int.tdiv_eq_ediv_of_nonneg zo,show (jC:Int) / 2=((jC / 2:Nat):Int) by omega];exact wrap_i64 zo zo
 have RI:((jC:Int)).tmod 2=((jC % 2:Nat):Int):=by rw [Int.tmod_eq_emod_of_nonneg zo];omega
 refine W.cB (cn jt.tail) fun oy=>?_
 by_cases DE:jC % 2=0
 ·have RR:lV (jC / 2) (ei 14 [b,yb]) (s.path.drop (i+1))=lV s.idx b0 s.path:=by rw [← Cd];show _=lV (jC / 2) (if jC % 2=0 then _ else _) _;rw [aI DE]
  (repeat' first|(apply bY;exact rfl;exact rfl;exact rfl;exact .one rfl rfl (.one (eQ oy) rfl .nil);exact rfl;exact rfl;intro _)|refine Za ?_|refine Zb ?_|apply Zc|apply Zd|apply Ze|apply Zf|refine Zi ?_|refine ZA ?_|refine ZM ?_|refine Yw ?_|refine Yz ?_|apply YB|apply YC|refine YL ?_|fail)
  rename_i g2
  refine aZ rfl rfl (fc _ e 14 _ [(.slice dW b.length c2,b),(yv,yb)] (bB .zero rfl zl) (fun a ha=>by
   simp only [aQ,aP,or_false] at ha
   rcases ha with rfl|rfl
   ·exact db.tail (bb .zero)
   ·exact jt.tail.tail) (fun a ha=>by
   simp only [aQ,aP,or_false] at ha
   rcases ha with rfl|rfl
   ·dsimp only;omega
   ·dsimp only;omega) (by simp)) ?_
  rintro _ _ ⟨eJ,c3,rfl,rfl⟩;rw [show ei 14 ([((.slice dW b.length c2:Value),b),(yv,yb)].map (·.2))=ei 14 [b,yb] from rfl];have oH:=dg 14 [b,yb]
  generalize ei 14 [b,yb]=b3 at *
  refine wB ?_;rw [Cp];exact bi (i+1,jC / 2,b3,eJ,c3) ⟨cO,by dsimp only;omega,oH,RR⟩ zd zS zE
 ·have RR:lV (jC / 2) (ei 14 [yb,b]) (s.path.drop (i+1))=lV s.idx b0 s.path:=by rw [← Cd];show _=lV (jC / 2) (if jC % 2=0 then _ else _) _;rw [aB DE]
  (repeat' first|(apply bY;exact rfl;exact rfl;exact rfl;exact .one (eQ oy) rfl (.one rfl rfl .nil);exact rfl;exact rfl;intro _)|refine Za ?_|refine Zb ?_|apply Zc|apply Zd|apply Ze|apply Zf|refine Zi ?_|refine ZA ?_|refine ZN ?_|refine Yw ?_|refine Yz ?_|refine YA ?_|apply YB|apply YC|refine YL ?_|fail)
  rename_i g2
  refine aZ rfl rfl (fc _ e 14 _ [(yv,yb),(.slice dW b.length c2,b)] (bB .zero rfl zl) (fun a ha=>by
   simp only [aQ,aP,or_false] at ha
   rcases ha with rfl|rfl
   ·exact jt.tail.tail
   ·exact db.tail (bb .zero)) (fun a ha=>by
   simp only [aQ,aP,or_false] at ha
   rcases ha with rfl|rfl
   ·dsimp only;omega
   ·dsimp only;omega) (by simp)) ?_
  rintro _ _ ⟨eJ,c3,rfl,rfl⟩;rw [show ei 14 ([(yv,yb),((.slice dW b.length c2:Value),b)].map (·.2))=ei 14 [yb,b] from rfl];have oH:=dg 14 [yb,b]
  generalize ei 14 [yb,b]=b3 at *
  refine wB ?_;rw [Cp];exact bi (i+1,jC / 2,b3,eJ,c3) ⟨cO,by dsimp only;omega,oH,RR⟩ zd zS zE
theorem wC (v:Value) (bs:List (List UInt8)) (hv:mO R v bs) (hl:bs.length≤1000000) (hb:∀ b∈bs,b.length≤1000000) :
 Ct prog 259 #[v] e R (fun v' L'=>∃ ad c us,v'=.slice ad us.length c∧us.map (·.2)=bs∧L'=cV (.slice ad us.length c) us::cH us::R):=by
 obtain ⟨ts,rfl,hv,ht⟩:=hv;rw [ae] at hl
 have hb:∀ a∈ts,a.2.length≤1000000:=fun a ha=>hb _ (aE.2 ⟨a,ha,rfl⟩)
 refine a7 (hv.shape zo) ?_;rintro ⟨⟨wu,cap,rfl,h3,h4,h5,h6⟩,_⟩;simp only [maxLen] at h4
 refine a8 (args:=[_]) func259 rfl ntmps259 results259 rfl ?_;refine wB ?_;refine bq (ι:=Nat × List ej × Option Addr × Nat) (fun i=>[(3,.slice i.2.2.1 i.2.1.length i.2.2.2),(6,.slice wu ts.length cap),(7,.int .i64 (ts.length:Int)),(8,.int .i64 (i.1:Int))]) (fun i=>cV (.slice i.2.2.1 i.2.1.length i.2.2.2) i.2.1::cH i.2.1::R) (fun i=>i.1≤ts.length∧i.2.1.map (·.2)=(ts.map (·.2)).take i.1) (fun i=>ts.length - i.1) (0,[],none,0) ⟨aH _,by simp⟩ zS (cj dK (dv ez 1)) ?_;rintro ⟨i,us,ad,c⟩ ⟨hi,gF⟩;dsimp only at hi gF ⊢
 have Er:us.length=i:=by have:=congrArg List.length gF;rw [ae,aF,ae] at this;omega
 by_cases cO:i<ts.length
 rotate_left
 ·rw [aG (by rw [ae];omega)] at gF
  refine wB ?_;exact aY _ rfl aX ⟨ad,c,us,rfl,gF,rfl⟩
 rcases h6 with h6|⟨gl,ol,rfl⟩
 ·omega
 have hr:Rd R ⟨gl,ol+i,none⟩ (ts[i]'cO).1:=hv.elem (by rw [aL,ab cO];rfl);have jt:=ht _ (aA cO);have Aa:=hb _ (aA cO)
 have ky:∀ w:Value,(us++[(w,(ts[i]'cO).2)]).map (·.2)=(ts.map (·.2)).take (i+1):=fun w=>by
  rw [ah,gF,aD (by rw [ae];exact cO),List.getElem_map]
  rfl
 generalize ts[i]'cO=y at *
 obtain ⟨yv,b⟩:=y;dsimp only at hr jt Aa ky
 refine wB ?_;refine aZ rfl rfl (dw _ e yv b jt.tail.tail zo) ?_;rintro _ _ ⟨eJ,c3,rfl,rfl⟩
 (repeat (refine wA ?_;intros))
 refine bC (bo rfl rfl rfl (.succ (.succ .zero)) (bB .zero rfl zl) rfl rfl zO zm zo fun jA c4 _=>?_)
 refine wB ?_;refine bi (i+1,us++[(.slice eJ b.length c3,b)],jA,c4) ⟨cO,ky _⟩ zd ?_ ?_
 ·dsimp only;rw [aa,aj];exact zS
 ·exact cj (show cz _ (dE ez 1 (.slice jA (us.length+1) c4) (us.length+1) (us.map (·.1)++[.slice eJ b.length c3])::cS (.slice eJ b.length c3) b::cH us::R) from zE) fZ
theorem J6:∀ n:Nat,n<16→Go.bits .xor .i64 (n:Int) 1=((n ^^^ 1:Nat):Int):=by decide
theorem RS {M:List cJ} {n k:Nat} {v:Value} {xs:List Value} (h:cE M n v k xs):cE [dI M] n v k xs:=h.cL (cj (cT (L:=[])) (by rw [aK];exact aX))
theorem tY {M:List cJ} {v:Value} {bs:List (List UInt8)} (h:mO M v bs):mO [dI M] v bs:=h.cL (cj (cT (L:=[])) (by rw [aK];exact aX))
theorem J7 {l:List (List UInt8)} {i h:Nat} (hh:h<4):(yj l i).take (h+1)=(yj l i).take h++[(pP l h).getD ((i / 2 ^ h) ^^^ 1) []]:=by
 rw [aD (by rw [lz];exact hh)]
 congr 2
 unfold yj;rw [List.getElem_map,List.getElem_range]
theorem RT {n m:Nat} (h:n<2 ^ m) (hm:0<m) (IH:n<16):n ^^^ 1<2 ^ m:=by
 obtain ⟨k,rfl⟩:∃ k,m=k+1:=⟨m - 1,by omega⟩
 rw [RO IH];rw [Nat.pow_succ] at h ⊢
 split<;>omega
set_option maxHeartbeats 1000000 in
theorem yr (v u:Value) (seed iD:List UInt8) (i:Nat) (hv:db R v seed) (hs:seed.length=32) (hi:i<16) (hu:db R u iD) (hm:iD.length≤1000000) :
 Ct prog 198 #[v,.int .i64 (i:Int),u] e R (fun v' L'=>∃ (M:cJ) (vp vq:Value),v'=.tuple #[.agg (yq (rK seed i iD) vp vq).toArray,.int .i64 0]∧fL [M] vp vq (rK seed i iD)∧L'=M::R):=by
 refine a7 (cE.shape hv zo) ?_;rintro ⟨⟨wu,cap,rfl,_,_,_,_⟩,_⟩;refine bH (args:=[_,_,_]) func198 rfl ntmps198 results198 rfl ?_
 (repeat (refine wA ?_;intros))
 rename_i g6;refine aZ rfl rfl (Ai _ e _ u seed iD i hv.tail zo hi hu.tail hm) ?_;rintro _ _ ⟨ef,c1,ts,rfl,fy,rfl⟩
 (repeat (refine wA ?_;intros))
 rename_i g8;refine aZ rfl rfl (pJ _ e _ seed hv.tail.tail.tail.tail zo) ?_;rintro _ _ ⟨dW,c2,ls,rfl,Mw,rfl⟩;have DZ:=mM (kx seed);refine wB ?_;refine bq (ι:=Nat × List ej × (Option Addr × Nat) × List ej × (Option Addr × Nat) × List ej) (fun j=>[(6,pt g6),(8,pt g8),(9,.slice j.2.2.1.1 j.2.1.length j.2.2.1.2),(10,.int .i64 ((i / 2 ^ j.1:Nat):Int))])
  (fun j=>cK g8 [.int .i64 (i:Int),.slice ef ts.length c1,.slice j.2.2.2.2.1.1 j.2.2.2.1.length j.2.2.2.2.1.2] 85 (0,0)::cV (.slice j.2.2.2.2.1.1 j.2.2.2.1.length j.2.2.2.2.1.2) j.2.2.2.1::cV (.slice j.2.2.1.1 j.2.1.length j.2.2.1.2) j.2.1::cH j.2.2.2.2.2::cK g6 [.int .i64 0,nY,nY] 85 (0,0)::cV (.slice ef ts.length c1) ts::cH ts::R)
  (fun j=>j.1≤4∧j.2.1.map (·.2)=pP (eW seed) j.1∧j.2.2.2.1.map (·.2)=(yj (eW seed) i).take j.1∧(∀ x∈j.2.1,x∈j.2.2.2.2.2)∧(∀ x∈j.2.2.2.1,x∈j.2.2.2.2.2)) (fun j=>4 - j.1) (0,ls,(dW,c2),[],(none,0),ls) ⟨by omega,Mw,by simp,fun x h=>h,fun x h=>by cases h⟩ (by rw [show i / 2 ^ 0=i by simp];exact zS) (cj (dv ez 1) zE) ?_
 clear Mw;rintro ⟨h,ks,⟨eJ,c3⟩,ps,⟨jA,c4⟩,K⟩ ⟨hh,J8,QK,hkK,hpK⟩;dsimp only at hh J8 QK hkK hpK ⊢
 have Ol:ks.length=2 ^ (4 - h):=by have:=congrArg List.length J8;rw [ae,DZ h hh] at this;exact this
 have Cm:ps.length=h:=by have:=congrArg List.length QK;rw [ae,aF,lz] at this;omega
 by_cases cO:h<4
 rotate_left
 ·have hhe:h=4:=by omega
  subst hhe;have hk1:ks.length=1:=Ol;rw [aG (by rw [lz];omega)] at QK
  refine wB ?_;apply br
  ·exact zV
  refine ⟨dI [cV (.slice ef ts.length c1) ts,cH ts,cV (.slice jA ps.length c4) ps,cH K]::R,cj (show cz _ (cV (.slice ef ts.length c1) ts::cH ts::cV (.slice jA ps.length c4) ps::cH K::R) from zE) (dR (M:=[_,_,_,_])),dI [cV (.slice ef ts.length c1) ts,cH ts,cV (.slice jA ps.length c4) ps,cH K],.slice ef ts.length c1,.slice jA ps.length c4,rfl,⟨tY ⟨ts,fy,bb .zero,dQ.tail eF⟩,tY ⟨ps,QK,bb (.succ (.succ .zero)),fun x hx=>(eF (l:=K) x (hpK x hx)).tail.tail.tail⟩,?_⟩,rfl⟩;refine ⟨by show i<_;omega,?_,?_⟩
  ·rw [show (rK seed i iD).parts.length=64 from nz _ _ _];omega
  ·rw [show (rK seed i iD).path.length=4 from lz _ _];omega
 have J5:i / 2 ^ h<2 ^ (4 - h):=by
  rw [Nat.div_lt_iff_lt_mul (Nat.two_pow_pos h),← Nat.pow_add,show 4 - h+h=4 by omega];exact hi
 have QL:i / 2 ^ h<16:=Nat.lt_of_le_of_lt (Nat.div_le_self _ _) hi;have hx1:=J6 (i / 2 ^ h) QL;have RU:=RT J5 zo QL;rw [← Ol] at RU
 have J9:1<ks.length:=by rw [Ol];exact Nat.one_lt_two_pow zo
 have Ka:ks.length≤16:=by rw [Ol];exact Nat.le_trans (Nat.pow_le_pow_right zo (show 4 - h≤4 by omega)) (by decide)
 have nf:=J7 (l:=eW seed) (i:=i) cO;rw [← J8,e6 RU] at nf
 have ky:(ps++[ks[(i / 2 ^ h) ^^^ 1]'RU]).map (·.2)=(yj (eW seed) i).take (h+1):=by rw [ah,QK,nf];rfl
 have ry:=hkK _ (aA RU);have VA:i / 2 ^ (h+1)=i / 2 ^ h / 2:=by rw [Nat.pow_succ,Nat.div_div_eq_div_mul]
 clear J5 nf
 generalize i / 2 ^ h=a at *
 have hdiv:IntKind.i64.wrap (((a:Nat):Int).tdiv 2)=((i / 2 ^ (h+1):Nat):Int):=by
  rw [VA,Int.tdiv_eq_ediv_of_nonneg zo,show ((a:Nat):Int) / 2=((a / 2:Nat):Int) by omega];exact wrap_i64 zo zo
 have rL:a ^^^ 1<17:=by omega
 refine W.cB (D3 (.succ (.succ .zero)) zo) ?_;rintro ⟨p3,rfl⟩;have OU:Rd (cV (.slice (some ⟨p3,0,none⟩) ks.length c3) ks::cH K::cK g6 [.int .i64 0,nY,nY] 85 (0,0)::cV (.slice ef ts.length c1) ts::cH ts::R) ⟨p3,0+(a ^^^ 1),none⟩ (ks[a ^^^ 1]'RU).1:=(bb .zero).elem (by rw [aL,ab RU];rfl)
 generalize ks[a ^^^ 1]'RU=y at *
 obtain ⟨yv,yb⟩:=y;dsimp only at OU ky
 have sf:db (cH K::cK g6 [.int .i64 0,nY,nY] 85 (0,0)::cV (.slice ef ts.length c1) ts::cH ts::R) yv yb:=eF (l:=K) (yv,yb) ry;refine W.cB (cn sf.tail.tail.tail) fun oy=>?_
 generalize a ^^^ 1=x1 at *
 refine wB ?_;refine W.fo (bw (.succ .zero) aX) ?_;refine bk (id:=10) [9,10] (cK g8 [.int .i64 (i:Int),.slice ef ts.length c1,.slice jA ps.length c4] 85 (0,0)::cV (.slice (some ⟨p3,0,none⟩) ks.length c3) ks::cH K::cK g6 [.int .i64 0,nY,nY] 85 (0,0)::cV (.slice ef ts.length c1) ts::cH ts::R) mixed ?_
 (refine tF 0 ?_;refine tL 1 ?_;refine tM 2 ?_;refine tM 3 ?_;refine tk 4 _ rfl (cD.bits _ (by simp) rfl rfl) ?_)
 rw [hx1]
 (refine tk 5 _ rfl (cD.ix rfl rfl zo) ?_;refine tL 6 ?_)
 refine tO 7 ?_;refine bE (n:=1) (z:=nY) (cs:=[yv]) rfl rfl rfl rfl (.one (eQ oy) rfl .nil) rfl (fun gb=>⟨fun _=>zE,?_⟩);refine tO 8 ?_;refine bo rfl rfl rfl (.succ .zero) (bB .zero rfl zl) rfl rfl zO zm zo fun QE c5 _=>⟨fun _=>zE,?_⟩
 ((refine tO 9 ?_;refine dV (ba rfl) ?_);(refine tO 10 ?_;refine tf ?_;refine ⟨zN,?_⟩))
 refine bf zK ?_;refine wB ?_;refine aZ rfl rfl (yn _ e _ ks (bb (.succ (.succ (.succ .zero)))) (fun x hx=>(eF (l:=K) x (hkK x hx)).tail.tail.tail.tail) (oS J8 (qW ng h)) Ka) ?_;rintro _ _ ⟨GH,c6,ws,rfl,LF,rfl⟩;refine wB ?_;rw [hdiv];refine bi (h+1,ws,(GH,c6),ps++[(yv,yb)],(QE,c5),K++ws) ⟨by dsimp only;omega,by dsimp only;rw [LF,J8];rfl,ky,fun x hx=>List.mem_append_right _ hx,fun x hx=>?_⟩ zd ?_ ?_
 ·rcases aJ.1 hx with h|h
  ·exact List.mem_append_left _ (hpK x h)
  ·rw [an.1 h];exact List.mem_append_left _ ry
 ·dsimp only;exact zS
 ·dsimp only;simp only [cV,aa,aj,ah,List.map_cons,List.map_nil];refine cj (show cz _ (cH K::cH ws::cK g8 [.int .i64 (i:Int),.slice ef ts.length c1,.slice QE (ps.length+1) c5] 85 (0,0)::dE ez 1 (.slice QE (ps.length+1) c5) (ps.length+1) (ps.map (·.1)++[yv])::cV (.slice GH ws.length c6) ws::cK g6 [.int .i64 0,nY,nY] 85 (0,0)::cV (.slice ef ts.length c1) ts::cH ts::R) from zE) (cj eL zE)
def xa.fits (s:xa):Prop:=(∀ a∈s.parts,a.length≤1000000)∧∀ a∈s.path,a.length≤1000000
theorem xa.right.fits {s:xa} (h:s.right):s.fits:=⟨fun a ha=>by have:=h.2.2.1 a ha;omega,fun a ha=>by have:=h.2.2.2.2 a ha;omega⟩
theorem yu (vp vq:Value) (s:xa) (hs:fL R vp vq s) (hr:s.fits) :
 Ct prog 190 #[.agg (yq s vp vq).toArray] e R (fun v' L'=>∃ (M:cJ) (up uq:Value),v'=.agg (yq s up uq).toArray∧fL [M] up uq s∧L'=M::R):=by
 obtain ⟨h1,h2,h3⟩:=hs;obtain ⟨q3,q5⟩:=hr;refine a7 h1.one fun o1=>?_
 refine a7 h2.one fun o2=>?_
 refine bH (args:=[_]) func190 rfl ntmps190 results190 rfl ?_
 (repeat (refine wA ?_;intros))
 rename_i g1 g2;refine bk (id:=1) [9] (cK g1 (yq s vp vq) 85 (0,0)::R) mixed ?_
 (refine tF 0 ?_;refine tL 1 ?_;refine tF 2 ?_;refine tL 3 ?_;refine tF 5 ?_;refine tL 6 ?_)
 refine tO 4 ?_;refine bg rfl rfl (wC _ e vp s.parts h1.tail.tail zo q3) ?_;rintro _ _ ⟨ef,c1,us,rfl,gF,rfl⟩;refine ⟨fun _=>zE,?_⟩;refine tO 7 ?_;refine bg rfl rfl (wC _ e vq s.path h2.tail.tail.tail.tail zo q5) ?_;rintro _ _ ⟨dW,c2,ws,rfl,LF,rfl⟩;refine ⟨fun _=>zE,?_⟩
 (refine tk 8 _ rfl (bL rfl zF) ?_;(refine tO 9 ?_;refine zg ?_;refine ⟨zN,?_⟩))
 refine bf zK ?_;refine wB ?_;apply br
 ·exact zV
 refine ⟨dI [cV (.slice ef us.length c1) us,cH us,cV (.slice dW ws.length c2) ws,cH ws]::R,cj (show cz _ (cV (.slice ef us.length c1) us::cH us::cV (.slice dW ws.length c2) ws::cH ws::R) from zE) (dR (M:=[_,_,_,_])),dI [cV (.slice ef us.length c1) us,cH us,cV (.slice dW ws.length c2) ws,cH ws],.slice ef us.length c1,.slice dW ws.length c2,rfl,⟨tY ⟨us,gF,bb .zero,dQ.tail eF⟩,tY ⟨ws,LF,bb (.succ (.succ .zero)),dQ.tail (dQ.tail (dQ.tail eF))⟩,h3⟩,rfl⟩
theorem nW {l:List (List UInt8)} (h:∀ a∈l,a.length=32):l.flatten.length=32*l.length:=by
 induction l with
 | nil=>rfl
 | cons a l ih =>
  rw [List.flatten_cons,aa,ih fun b hb=>h b (aT _ hb),h a (List.mem_cons_self ..),aN]
  omega
theorem Bi (g:Nat) (bs:List (List UInt8)) (r:List UInt8) (jN:∀ a∈bs,a.length=32) (hl:bs.length≤1000) (hr:r.length≤1000000) :
 Ct prog 299 #[pt g,.int .i64 (bs.length:Int)] e (Reader g ⟨bs.flatten++r,false⟩::R) (fun v' L'=>∃ ad c us,v'=.slice ad us.length c∧us.map (·.2)=bs∧L'=Reader g ⟨r,false⟩::cV (.slice ad us.length c) us::cH us::R):=by
 refine a8 (args:=[_,_]) func299 rfl ntmps299 results299 rfl ?_;refine wB ?_;refine bq (ι:=Nat × List ej × Option Addr × Nat) (fun i=>[(0,pt g),(5,.slice i.2.2.1 i.2.1.length i.2.2.2),(6,.int .i64 (bs.length:Int)),(7,.int .i64 (i.1:Int))]) (fun i=>Reader g ⟨(bs.drop i.1).flatten++r,false⟩::cV (.slice i.2.2.1 i.2.1.length i.2.2.2) i.2.1::cH i.2.1::R) (fun i=>i.1≤bs.length∧i.2.1.map (·.2)=bs.take i.1) (fun i=>bs.length - i.1) (0,[],none,0) ⟨aH _,by simp⟩ zS (cj dK (cj (dv ez 1) zE)) ?_;rintro ⟨i,us,ad,c⟩ ⟨hi,gF⟩;dsimp only at hi gF ⊢
 have Er:us.length=i:=by have:=congrArg List.length gF;rw [ae,aF] at this;omega
 by_cases cO:i<bs.length
 rotate_left
 ·have JW:i=bs.length:=by omega
  subst JW;rw [aG (aS _)] at gF
  rw [show (bs.drop bs.length).flatten++r=r by simp];refine wB ?_;exact aY _ rfl aX ⟨ad,c,us,rfl,gF,rfl⟩
 have Ef:bs.drop i=bs[i]'cO::bs.drop (i+1):=List.drop_eq_getElem_cons cO;have hz:=jN _ (aA cO)
 have ky:∀ w:Value,(us++[(w,bs[i]'cO)]).map (·.2)=bs.take (i+1):=fun w=>by
  rw [ah,gF,aD cO];rfl
 have DF:((bs.drop (i+1)).flatten++r).length≤1100000:=by
  rw [aa,nW (fun a ha=>jN a (aV ha)),aO];omega
 rw [Ef,List.flatten_cons,aM]
 generalize bs[i]'cO=b at *
 generalize Mz:(bs.drop (i+1)).flatten++r=rest at *
 refine wB ?_;refine aZ rfl rfl (ya _ e g 32 b rest hz (by rw [aa];omega)) ?_;rintro _ _ ⟨eJ,c3,rfl,rfl⟩
 (repeat (refine wA ?_;intros))
 refine bC (bo rfl rfl rfl (.succ (.succ (.succ .zero))) (bB .zero rfl zl) rfl rfl zO zm zo fun jA c4 _=>?_)
 refine wB ?_;refine bi (i+1,us++[(.slice eJ b.length c3,b)],jA,c4) ⟨cO,ky _⟩ zd ?_ ?_
 ·dsimp only;rw [aa,aj];exact zS
 ·dsimp only;rw [Mz];exact cj (show cz _ (dE ez 1 (.slice jA (us.length+1) c4) (us.length+1) (us.map (·.1)++[.slice eJ b.length c3])::cS (.slice eJ b.length c3) b::cH us::Reader g ⟨rest,false⟩::R) from zE) (cj fZ zE)
def fG (s:xa):List UInt8:=be s.idx 4++(s.parts.flatten++s.path.flatten)
theorem gP {s:xa} (h:s.right):(fG s).length=2180:=by
 obtain ⟨h1,h2,h3,h4,h5⟩:=h;unfold fG;rw [aa,aa,cX,nW h3,nW h5,h2,h4]
theorem tZ (v:Value) (s:xa) (hv:db R v (fG s)) (hr:s.right) :
 Ct prog 267 #[v] e R (fun v' L'=>∃ (M:cJ) (vp vq:Value),v'=.tuple #[.agg (yq s vp vq).toArray,.int .i64 0]∧fL [M] vp vq s∧L'=M::R):=by
 have F8:=gP hr;obtain ⟨q1,q2,q3,q4,q5⟩:=id hr;refine bH (args:=[_]) func267 rfl ntmps267 results267 rfl ?_
 (repeat (refine wA ?_;intros))
 rename_i g2;refine aZ rfl rfl (jv _ e v (fG s) hv.tail zo) ?_;rintro _ _ ⟨gr,rfl,rfl⟩;unfold fG;have hfp:=nW q3;have hfq:=nW q5;refine wB ?_;refine aZ rfl rfl (tD _ e gr s.idx (s.parts.flatten++s.path.flatten) zo) ?_;rintro _ _ ⟨rfl,rfl⟩;have h1:=Bi (cK g2 [.int .i64 0,nY,nY] 85 (0,0)::R) e gr s.parts s.path.flatten q3 zo zo;rw [q2] at h1
 refine wB ?_;refine aZ rfl rfl h1 ?_;rintro _ _ ⟨ef,c1,us,rfl,gF,rfl⟩;have h2:=Bi (cV (.slice ef us.length c1) us::cH us::cK g2 [.int .i64 0,nY,nY] 85 (0,0)::R) e gr s.path [] q5 zo (by simp);rw [q4,aK] at h2
 (repeat (refine wA ?_;intros))
 refine aZ rfl rfl h2 ?_;rintro _ _ ⟨dW,c2,ws,rfl,LF,rfl⟩
 (repeat (refine wA ?_;intros))
 rename_i g5;refine aZ rfl rfl (Ct.at (.succ .zero) (yc _ e gr [])) ?_;rintro _ _ ⟨rfl,rfl⟩;have VB:∀ L:List cJ,fL (cV (.slice dW ws.length c2) ws::cH ws::cV (.slice ef us.length c1) us::cH us::L) (.slice ef us.length c1) (.slice dW ws.length c2) s:=fun L=>⟨⟨us,gF,bb (.succ (.succ .zero)),dQ.tail (dQ.tail (dQ.tail eF))⟩,⟨ws,LF,bb .zero,dQ.tail eF⟩,⟨by omega,by omega,by omega⟩⟩
 refine wB ?_;refine aZ rfl rfl (qo _ e _ _ s (VB _).tail.tail) ?_;rintro _ _ ⟨rfl,rfl⟩;rw [ay hr];refine wB ?_;apply br
 ·exact zV
 refine ⟨dI [cV (.slice dW ws.length c2) ws,cH ws,cV (.slice ef us.length c1) us,cH us]::R,cj (show cz _ (cV (.slice dW ws.length c2) ws::cH ws::cV (.slice ef us.length c1) us::cH us::R) from zE) (dR (M:=[_,_,_,_])),dI [cV (.slice dW ws.length c2) ws,cH ws,cV (.slice ef us.length c1) us,cH us],.slice ef us.length c1,.slice dW ws.length c2,rfl,?_,rfl⟩;exact (VB []).cL (cj (cT (L:=[])) (by rw [aK];exact aX))
end Go.Proofs
