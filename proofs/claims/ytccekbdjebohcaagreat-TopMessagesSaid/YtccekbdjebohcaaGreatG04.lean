/- Part 4 of a proof of this: TopMessages returns true for any arguments; nothing of the old memory is turned. No condition. -/
import Derived.Test.YtccekbdjebohcaaGreatG03
set_option linter.unusedVariables false
set_option linter.unusedSimpArgs false
namespace Go.Proofs
attribute [local irreducible] Bs.cD Bs.Do Bs.O Bs.W Bs.Fin Bs.A Bs.Ct Bs.cE Bs.Rd Bs.Sat Bs.cK Bs.Ob Bs.dJ Bs.View Bs.cz Bs.Ex Bs.dH Bs.Pu Bs.eY Bs.dM Bs.dZ
open Go.Bs
open Tryz
def OQ (Y:List UInt8):Nat→S8
 | 0=>uV
 | k+1=>jh (OQ Y k) ((Y.drop (64*k)).take 64)
theorem Ec (Y:List UInt8):∀ k,64*k≤Y.length→iV uV Y=iV (OQ Y k) (Y.drop (64*k))
 | 0,_=>rfl
 | k+1,h=>by
  have h1:(Y.drop (64*k)).length=Y.length - 64*k:=aO;rw [Ec Y k zo,oO zo,List.drop_drop]
  rfl
set_option maxHeartbeats 2000000 in
theorem tP (R:List cJ) (e:World) (v:Value) (b:List UInt8) (hv:db R v b) (hb:b.length≤1000000000000) :
 Ct prog 154 #[v] e R (fun v' L'=>∃ ad c,v'=.slice ad (sk b).length c∧L'=cR (.slice ad (sk b).length c) (sk b)::R):=by
 refine a7 (hv.shape zo) ?_;rintro ⟨⟨ad,cap,rfl,h3,h4,h5,h6⟩,_⟩;simp only [maxLen] at h4
 refine Ct.RB (args:=[_]) func154 rfl ntmps154 rfl ?_
 (repeat' first|apply WM.seq|apply Fin.D3|(refine O.mC (cs:=uV.cells) rfl rfl rfl zQ rfl ?_)|(refine b9 (cs:=(List.replicate 8 (0:UInt32)).map cW) rfl rfl ?_;intro _)|(refine O.ek (vs:=uV.cells) rfl rfl rfl (gE uV.list) .zero (eC rfl) ?_)|refine Zb ?_|apply Zd|apply Ze)
 rename_i g3;refine aZ rfl rfl (JO _ e) ?_;rintro _ _ ⟨rfl,rfl⟩
 (repeat' first|apply WM.seq|apply Fin.D3|(refine b9 (cs:=(List.replicate 64 (0:UInt32)).map cW) rfl rfl ?_;intro _)|(refine O.ek (vs:=kw.map cW) rfl rfl rfl (gE kw) .zero (eC rfl) ?_)|refine Za ?_|apply Zd|apply Ze)
 rename_i g4;refine aZ rfl rfl (dw _ e _ b hv.tail.tail zo) ?_;rintro _ _ ⟨eI,c3,rfl,rfl⟩
 (repeat (refine wA ?_;intros))
 refine bC (bo rfl rfl rfl (.succ .zero) (bB .zero rfl zl) rfl rfl zO zm zo fun jB c4 _=>?_)
 (repeat' first|apply WM.seq|apply Fin.D3|refine Zb ?_|apply Ze|apply YB)
 refine bq (ι:=Nat × Option Addr × Nat) (fun i=>[(5,.slice i.2.1 (b.length+1+i.1) i.2.2),(3,pt g3),(4,pt g4),(0,.slice ad b.length cap)])
  (fun i=>dJ pG 1 (.slice i.2.1 (b.length+1+i.1) i.2.2) (b.length+1+i.1) ((b++128::List.replicate i.1 0).map u8)::cK g3 uV.cells 296 (0,0)::cK g4 (kw.map cW) 297 (0,0)::R)
  (fun i=>i.1≤zs b.length) (fun i=>zs b.length - i.1) (0,jB,c4)
  (aH _) (cC rfl (cC rfl (cC rfl (cC rfl dd)))) (by dsimp only;rw [ah];exact zE) ?_
 rintro ⟨z,Qy,c5⟩ hz;dsimp only at hz ⊢
 have Zx:zs b.length<64:=by unfold zs;omega
 have hzd:zs b.length=(119 - b.length % 64) % 64:=rfl;have ZF:=Mh (b.length+1+z)
 by_cases ZL:z<zs b.length
 ·(repeat (refine wA ?_;intros))
  refine bC (bo rfl rfl rfl (.succ .zero) (bB .zero rfl zl) rfl rfl zO zm zo fun GD c6 _=>?_)
  refine wB ?_;refine bi (z+1,GD,c6) ZL zd (cC rfl (cC rfl (cC rfl (cC rfl dd)))) ?_;dsimp only
  have he:(b++128::List.replicate (z+1) (0:UInt8)).map u8=(b++128::List.replicate z 0).map u8++[.int .u8 0]:=by
   rw [List.replicate_succ',show b++128::(List.replicate z 0++[0])=(b++128::List.replicate z (0:UInt8))++[0] by simp,ah]
   rfl
  rw [he];exact zE
 obtain rfl:z=zs b.length:=by omega
 have Vl:(b++128::List.replicate (zs b.length) (0:UInt8)).length=b.length+1+zs b.length:=by simp;omega
 have Mi:∀ m,(b++128::List.replicate (zs b.length) (0:UInt8))++m=b++128::(List.replicate (zs b.length) 0++m):=fun m=>by simp
 rw [← Vl] at ZF ⊢
 have hXb:(b++128::List.replicate (zs b.length) (0:UInt8)).length≤1000000000128:=by omega
 have ZR:(b++128::List.replicate (zs b.length) (0:UInt8)).length % 64=56:=by omega
 have GF:sk b=gX (iV uV (b++128::(List.replicate (zs b.length) 0++lx b.length))):=rfl;rw [← Mi] at GF
 clear Mi Vl
 generalize b++128::List.replicate (zs b.length) (0:UInt8)=X at *
 have h8:(lx b.length).length=8:=cX _ _
 (repeat' first|apply WM.seq|apply Fin.D3|refine Za ?_|refine Zb ?_|apply Zc|apply Zd|apply Ze|apply Zf|refine Zk ?_|refine ZQ ?_|refine YA ?_|apply YB|apply YD|apply YG|apply YJ|refine YL ?_|fail)
 refine bq (ι:=Nat × Option Addr × Nat) (fun i=>[(6,.int .i64 (7 - (i.1:Int))),(5,.slice i.2.1 (X.length+i.1) i.2.2),(3,pt g3),(4,pt g4),(0,.slice ad b.length cap)])
  (fun i=>dJ pG 1 (.slice i.2.1 (X.length+i.1) i.2.2) (X.length+i.1) ((X++(lx b.length).take i.1).map u8)::cK g3 uV.cells 296 (0,0)::cK g4 (kw.map cW) 297 (0,0)::R)
  (fun i=>i.1≤8) (fun i=>8 - i.1) (0,Qy,c5)
  (aH _) (cC rfl (cC rfl (cC rfl (cC rfl (cC rfl dd))))) (by dsimp only;rw [List.take_zero,aK];exact zE) ?_
 rintro ⟨m,Qz,c7⟩ hm;dsimp only at hm ⊢
 by_cases RH:m<8
 ·have Ea:=Bd b.length m RH zo;have Vm:=RG b.length zo
  have Vn:IntKind.u64.wrap ((b.length:Int)*8)=((b.length*8:Nat):Int):=by
   rw [← RG (b.length*8) zo];rfl
  (repeat' first|(apply O.jO;exact rfl;exact rfl)|refine Za ?_|apply Zc|apply Zd|apply Ze|apply Zf|refine Zk ?_|refine ZJ ?_|refine ZW ?_|refine ZX ?_|refine Z1 ?_|refine Yi fun _=>?_|refine Yz ?_|apply YB|apply YC)
  rw [Vm,Vn,show IntKind.u64.bits=64 from rfl,Ea];have Eb:=Ci (b.length*8) 8 m RH;have na:(lx b.length).take (m+1)=(lx b.length).take m++[UInt8.ofNat (b.length*8 / 256 ^ (7 - m))]:=Bc Eb;clear Ea Eb
  generalize UInt8.ofNat (b.length*8 / 256 ^ (7 - m))=cc at *
  have ft:(X++(lx b.length).take (m+1)).map u8=(X++(lx b.length).take m).map u8++[u8 cc]:=by
   rw [na,← aM,ah];rfl
  generalize X++(lx b.length).take m=Y at *
  refine bC (bo rfl rfl rfl (.succ .zero) (bB .zero rfl zl) rfl rfl zO zm zo fun GD c6 _=>?_)
  refine wB ?_;refine bi (m+1,GD,c6) RH zd ?_ ?_
  ·dsimp only;rw [show (7 - ((m+1:Nat):Int))=7 - (m:Int) - 1 by omega];exact cC rfl (cC rfl (cC rfl (cC rfl (cC rfl dd))))
  ·dsimp only;rw [ft];exact zE
 obtain rfl:m=8:=by omega
 rw [aG zo];have ZT:(X++lx b.length).length=X.length+8:=by rw [aa,h8]
 have Z4:(X++lx b.length).length % 64=0:=by omega
 have hYb:(X++lx b.length).length≤1000000001000:=by omega
 have acA:0<(X++lx b.length).length:=by omega
 rw [← ZT]
 generalize X++lx b.length=Y at *
 (repeat' first|apply WM.YS|apply Fin.D3|refine Za ?_|apply Zc|apply Zd|apply Ze|apply Zf|refine ZK ?_|refine YA ?_|apply YD|apply YG|apply YJ)
 refine bn (tB .zero) ?_;rintro ⟨Z5,c8,hq,OO,Mj⟩;obtain ⟨rfl,_,rfl⟩:=Value.slice.inj hq;clear hq;simp only [maxLen] at Mj
 refine bn (fO .zero) ?_;rintro ⟨⟨ad9,c9,hq,_,_,Ml⟩,_⟩;obtain ⟨rfl,_,rfl⟩:=Value.slice.inj hq;clear hq
 obtain ⟨gl,rfl⟩:∃ gl,Qz=some ⟨gl,0,none⟩:=by
  rcases Ml with ⟨_,_,h0⟩|h0
  ·omega
  ·exact h0
 clear Ml;refine aZ rfl rfl (GH _ e (some ⟨gl,0,none⟩) Y.length c7) ?_;rintro _ _ ⟨gs,gn,rfl,rfl⟩
 (repeat' first|apply Fin.tz|apply Ze)
 obtain ⟨m,Vp⟩:∃ m,Y.length=64*m:=⟨Y.length / 64,by omega⟩
 refine WB.range (lb:=[pt gs,pt gn]) results154 rfl (cK gs [.slice (some ⟨gl,0,none⟩) Y.length c7] 30 (0,0)::cK gn [.int .i64 64] 3 (0,0)::cR (.slice (some ⟨gl,0,none⟩) Y.length c7) Y::cK g3 (OQ Y m).cells 296 (0,0)::cK g4 (kw.map cW) 297 (0,0)::R) ?_ ?_
 ·intro l D r h1 h2 h3 h4 h5 hr;refine JQ e l gs gn m gl 0 c7 Y (fun k=>Lp l r::Df D::cK gs [.slice (some ⟨gl,0,none⟩) Y.length c7] 30 (0,0)::cK gn [.int .i64 64] 3 (0,0)::cR (.slice (some ⟨gl,0,none⟩) Y.length c7) Y::cK g3 (OQ Y k).cells 296 (0,0)::cK g4 (kw.map cW) 297 (0,0)::R) Vp zo OO (fun k=>zR) (fun k=>zR) ?_;intro k hk;have sX:∀ {A B C D':cJ} {L:List cJ},db (A::B::C::D'::cR (.slice (some ⟨gl,0,none⟩) Y.length c7) Y::L) (.slice (some ⟨gl,0+64*k,none⟩) 64 64) ((Y.drop (64*k)).take 64):=OP (db.tail (db.tail (db.tail (db.tail (bb .zero))))) Vp OO hk
  have Cj:((Y.drop (64*k)).take 64).length=64:=by rw [aF,aO];omega
  have eJ:OQ Y (k+1)=jh (OQ Y k) ((Y.drop (64*k)).take 64):=rfl;rw [eJ]
  generalize OQ Y k=S at *
  generalize (Y.drop (64*k)).take 64=B at *
  refine Rt.mk h1 h2 h3 rfl rfl hr ?_;refine WI.code h4 ?_;refine WI.region ?_;refine OI.val _ rfl (bj rfl) rfl ?_;refine OI.nil ?_;refine Fin.Yv aX ?_;refine WI.code h5 ?_;refine WI.block ?_;refine WI.region ?_;refine OI.val _ rfl (cD.dy (cs:=S.cells) rfl (by (repeat first|exact bU .zero|apply dZ.tail);done) rfl) rfl ?_;refine OI.val _ rfl (bu rfl) rfl ?_;refine OI.do rfl (bg rfl rfl (Mf _ e S _ B g4 sX Cj (by (repeat first|exact bU .zero|apply dZ.tail);done)) ?_)
  rintro _ _ ⟨rfl,rfl⟩
  generalize jh S B=S2 at *
  refine OI.do rfl (Do.ek (vs:=S2.cells) rfl rfl (jy S2) (gE S2.list) zU (eC ((jy S).trans (jy S2).symm)) ?_)
  refine OI.nil ?_;refine Fin.sZ ?_;exact Fin.Yq zE
 intro D
 have QB:iV uV Y=OQ Y m:=by
  rw [Ec Y m zo];exact vv (by rw [aO];omega)
 rw [GF,QB];clear QB GF
 generalize OQ Y m=V at *
 have Bb:V.list.length=8:=rfl;refine wB ?_;refine bC (Do.UX (el:=pG) (nn:=1) (z:=.int .u8 0) (b:=1) (c:=32) rfl rfl rfl zl zo fun go=>?_)
 (repeat' first|(refine O.dy (cs:=V.cells) rfl (by (repeat first|exact bU .zero|apply dZ.tail);done) rfl rfl ?_)|refine Za ?_|refine Zb ?_|apply Zc|apply Zd|apply Ze|apply Zf|apply YB)
 rw [S8.nQ];refine bq (ι:=Nat × Option Addr × Nat) (fun i=>[(47,.int .i64 (i.1:Int)),(46,.agg (V.list.map cW).toArray),(8,.slice i.2.1 (4*i.1) i.2.2)])
  (fun i=>dJ pG 1 (.slice i.2.1 (4*i.1) i.2.2) (4*i.1) (((V.list.take i.1).flatMap ik).map u8)::Df D::R)
  (fun i=>i.1≤8) (fun i=>8 - i.1) (0,some ⟨go,0,none⟩,32)
  (aH _) (cC rfl (cC rfl (cC rfl dd))) zE ?_
 rintro ⟨j,GG,RI⟩ hj;dsimp only at hj ⊢
 by_cases LA:j<8
 ·have hr:(V.list.map cW)[j]?=some (cW (V.list.getD j 0)):=by
   have Ch:j<V.list.length:=LA;rw [aL,ae Ch,aA,ae Ch];rfl
  have eJ:((V.list.take (j+1)).flatMap ik).map u8=((V.list.take j).flatMap ik).map u8++(ik (V.list.getD j 0)).map u8:=by
   have Ch:j<V.list.length:=LA;rw [aD Ch,aW,ah,aA,ae Ch]
   rfl
  generalize V.list.getD j 0=x at *
  (repeat' first|refine YY ?_|refine Y0 ?_|refine Y4 ?_|refine Za ?_|refine Zb ?_|apply Zc|apply Zd|apply Ze|apply Zf|refine ZA ?_|refine Yi fun _=>?_|refine Yz ?_|apply YB|apply YC)
  refine bC (bo rfl rfl rfl (.succ .zero) (bB .zero rfl zl) rfl rfl zO zm zo fun Mk Vo _=>?_)
  refine wB ?_;refine bi (j+1,Mk,Vo) LA zd ?_ ?_
  ·dsimp only;rw [Nat.mul_add];exact cC rfl (cC rfl (cC rfl dd))
  ·dsimp only;rw [eJ,Nat.mul_add];exact (show cz _ (dJ pG 1 (.slice Mk (4*j+4*1) Vo) (4*j+4*1) (((V.list.take j).flatMap ik).map u8++(ik x).map u8)::Df D::R) from zE)
 obtain rfl:j=8:=by omega
 rw [aG zo];refine wB ?_;exact aY (Df D::cR (.slice GG (gX V).length RI) (gX V)::R) rfl (show cz (dJ pG 1 (.slice GG 32 RI) 32 ((gX V).map u8)::Df D::R) _ from zE) ⟨_,rfl,GG,RI,rfl,rfl⟩
end Go.Proofs
namespace Go.Bs
def l8 (n:Nat):Nat:=if n=0 then 0 else n.log2+1
theorem yd (n k:Nat) (h:2 ^ k≤n):l8 (n / 2 ^ k)+k=l8 n:=by
 have h0:0<2 ^ k:=Nat.two_pow_pos k;have h1:n≠0:=by omega
 have h2:n / 2 ^ k≠0:=by
  have:=Nat.div_pos h h0
  omega
 unfold l8;rw [aB h1,aB h2];have h3:k≤n.log2:=(Nat.le_log2 h1).2 h
 have h4:(n / 2 ^ k).log2=n.log2 - k:=by
  rw [Nat.log2_eq_iff h2]
  constructor
  ·rw [Nat.le_div_iff_mul_le h0,← Nat.pow_add,Nat.sub_add_cancel h3];exact Nat.log2_self_le h1
  ·rw [Nat.div_lt_iff_lt_mul h0,← Nat.pow_add,show n.log2 - k+1+k=n.log2+1 by omega];exact Nat.lt_log2_self
 omega
def mH:List UInt8:=(List.range 256).map fun i=>UInt8.ofNat (l8 i)
section
variable {P:Program} {N:Fr} {Q:fN} {σ:Env} {e:World} {L:List cJ} {all:Array Oper} {rest:List Oper} {d:Nat} {ty:TypeId} {pos:String} {af:Array Edge}
theorem O.GI {x y:Operand} {t:TypeId} {s:ByteArray} {k:IntKind} {i c:Nat} [q:u0 P t] (h:ev σ x=some (.string s)) (h1:ev σ y=some (.int k (i:Int))) (hl:∃ h:i<s.size,s[i].toNat=c) (hd:Nat.blt d N.n=true)
 (kk:O P N all rest Q ((d,.int .u8 (c:Int))::σ) e L):O P N all (⟨some d,.index t x y,ty,pos,af,none⟩::rest) Q σ e L:=by
 obtain ⟨h2,h3⟩:=hl;refine bx _ ?_ hd kk;have:=cD.Rk (P:=P) (N:=N) (ty:=ty) (e:=e) (L:=L) (t:=t) h h1 h2;rw [h3] at this
 exact this
end
theorem nu:mH.length=256:=by simp [mH]
theorem JR (y:Nat) (hy:y<256):(mH[y]'(by rw [nu];exact hy)).toNat=l8 y:=by
 have h1:∀ m:_root_.Fin 256,(mH[m.1]'(by rw [nu];exact m.2)).toNat=l8 m.1:=by decide +kernel
 exact h1 ⟨y,hy⟩
theorem Mn (m s:Nat) (t:Nat) (h:s≤t):((m:Int)).fdiv (2 ^ (min ((s:Int)).toNat t))=((m / 2 ^ s:Nat):Int):=by
 rw [Int.toNat_natCast,Nat.min_eq_left h,Int.fdiv_eq_ediv_of_nonneg _ (Int.pow_nonneg (by decide))]
 simp
end Go.Bs
namespace Go.Proofs
open Go.Bs
attribute [local irreducible] Bs.cD Bs.Do Bs.O Bs.W Bs.Fin Bs.A Bs.Ct Bs.cE Bs.Rd Bs.Sat Bs.cK Bs.Ob Bs.dJ Bs.View Bs.cz Bs.Ex Bs.dH Bs.Pu Bs.eY Bs.dM Bs.dZ
set_option maxRecDepth 100000 in
theorem GJ (R:List cJ) (e:World) (x:Nat) (hx:x<18446744073709551616) :
 Ct Tryz.prog 278 #[.int .u64 (x:Int)] e R (fun v' L'=>v'=.int .i64 (l8 x:Int)∧R=L'):=by
 refine a8 (args:=[_]) Tryz.func278 rfl Tryz.ntmps278 Tryz.results278 rfl ?_
 (repeat' first|refine W.pF (id:=4) (fun i:Nat × Nat=>[(0,.int .u64 (i.1:Int)),(2,.int .i64 (i.2:Int))]) (fun _=>R) (fun i=>i.1<4294967296∧l8 i.1+i.2=l8 x∧i.2≤32) ?_ ?_|refine Zb ?_|apply Zc|apply Zd|apply Ze|apply Zf)
 rotate_left
 ·refine ⟨?_⟩
  by_cases h:4294967296≤x
  ·refine wB ?_;refine bJ (x / 4294967296,32) ⟨by dsimp only;omega,yd x 32 h,by dsimp only;omega⟩ (cC ?_ (cC rfl dd)) aX;exact congrArg (fun z=>some (Value.int .u64 z)) (Mn x 32 64 zo)
  ·refine wB ?_;exact bJ (x,0) ⟨by dsimp only;omega,rfl,by dsimp only;omega⟩ (cC rfl (cC rfl dd)) aX
 rintro ⟨x2,n2⟩ ⟨IE,ry,F6⟩;dsimp only at IE ry F6 ⊢
 (repeat' first|refine W.pF (id:=7) (fun i:Nat × Nat=>[(0,.int .u64 (i.1:Int)),(2,.int .i64 (i.2:Int))]) (fun _=>R) (fun i=>i.1<65536∧l8 i.1+i.2=l8 x∧i.2≤48) ?_ ?_)
 rotate_left
 ·refine ⟨?_⟩
  by_cases h:65536≤x2
  ·have:l8 (x2 / 65536)+16=l8 x2:=yd x2 16 h;refine wB ?_;refine bJ (x2 / 65536,n2+16) ⟨by dsimp only;omega,by dsimp only;omega,by dsimp only;omega⟩ (cC ?_ (cC rfl dd)) aX;exact congrArg (fun z=>some (Value.int .u64 z)) (Mn x2 16 64 zo)
  ·refine wB ?_;exact bJ (x2,n2) ⟨by dsimp only;omega,ry,by dsimp only;omega⟩ (cC rfl (cC rfl dd)) aX
 rintro ⟨x3,n3⟩ ⟨hx3,QC,Xk⟩;dsimp only at hx3 QC Xk ⊢
 clear IE ry F6
 (repeat' first|refine W.u2 (id:=10) (fun i:Nat × Nat=>[(0,.int .u64 (i.1:Int)),(2,.int .i64 (i.2:Int))]) (fun _=>R) (fun i=>i.1<256∧l8 i.1+i.2=l8 x∧i.2≤56) ?_ ?_)
 rotate_left
 ·refine ⟨?_⟩
  by_cases h:256≤x3
  ·have:l8 (x3 / 256)+8=l8 x3:=yd x3 8 h;refine wB ?_;refine bJ (x3 / 256,n3+8) ⟨by dsimp only;omega,by dsimp only;omega,by dsimp only;omega⟩ (cC ?_ (cC rfl dd)) aX;exact congrArg (fun z=>some (Value.int .u64 z)) (Mn x3 8 64 zo)
  ·refine wB ?_;exact bJ (x3,n3) ⟨by dsimp only;omega,QC,by dsimp only;omega⟩ (cC rfl (cC rfl dd)) aX
 rintro ⟨y,n⟩ ⟨hy,hl,hn⟩;dsimp only at hy hl hn ⊢
 clear hx3 QC Xk;have oF:mH.length=256:=by simp [mH]
 have ju:∀ (h:y<(str mH).size),((str mH)[y]'h).toNat=l8 y:=fun h=>by
  have h1:(str mH)[y]'h=mH[y]'zo:=rfl;rw [h1];exact JR y hy
 have hw8:IntKind.u8.wrap (y:Int)=(y:Int):=wrap_u8 zo zo;refine wB ?_;refine O.GI (s:=str mH) (c:=l8 y) zK rfl ⟨by rw [ta,nu];exact hy,ju _⟩ rfl ?_
 have hl8:l8 y≤8:=by
  unfold l8
  split
  ·omega
  ·rename_i h0;have:y.log2<8:=(Nat.log2_lt h0).2 hy
   omega
 refine wB ?_;exact aY R rfl aX ⟨by rw [← hl,Int.natCast_add,Int.add_comm];rfl,rfl⟩
theorem Mo (R:List cJ) (e:World) (x:Nat) (hx:x<18446744073709551616) :
 Ct Tryz.prog 232 #[.int .u64 (x:Int)] e R (fun v' L'=>v'=.int .i64 (l8 x:Int)∧R=L'):=by
 refine a8 (args:=[_]) Tryz.func232 rfl Tryz.ntmps232 Tryz.results232 rfl ?_;refine wB ?_;refine aZ rfl rfl (GJ R e x hx) ?_;rintro _ _ ⟨rfl,rfl⟩;refine wB ?_;exact aY R rfl aX ⟨rfl,rfl⟩
end Go.Proofs
namespace Go.Proofs
attribute [local irreducible] Bs.cD Bs.Do Bs.O Bs.W Bs.Fin Bs.A Bs.Ct Bs.cE Bs.Rd Bs.Sat Bs.cK Bs.Ob Bs.dJ Bs.View Bs.cz Bs.Ex Bs.dH Bs.Pu Bs.eY Bs.dM Bs.dZ
open Go.Bs
open Tryz
def within (n lo hi:Int):Int:=if n≥lo∧n≤hi then n else lo+(if n.tmod (hi - lo+1)<0 then n.tmod (hi - lo+1)+hi - lo+1 else n.tmod (hi - lo+1))
theorem dm (n lo hi:Int) (h:lo≤hi):lo≤within n lo hi∧within n lo hi≤hi:=by
 unfold within;have h1:=Int.tmod_lt_of_pos n (show 0<hi - lo+1 by omega)
 have h2:-(hi - lo+1)<n.tmod (hi - lo+1):=by
  rcases Int.le_total 0 n with h0|h0
  ·have:=Int.tmod_nonneg (hi - lo+1) h0;omega
  ·have h3:=Int.tmod_lt_of_pos (-n) (show 0<hi - lo+1 by omega);rw [Int.neg_tmod] at h3;omega
 split
 ·omega
 ·split<;>omega
theorem eA (R:List cJ) (e:World) (n lo hi:Int) (hn:-9223372036854775808≤n∧n≤9223372036854775807) (hl:-4611686018427387904≤lo∧lo≤hi∧hi≤1099511627776∧hi - lo≤1099511627776) :
 Ct prog 24 #[.int .i64 n,.int .i64 lo,.int .i64 hi] e R (fun v' L'=>v'=.int .i64 (within n lo hi)∧R=L'):=by
 refine a8 (args:=[_,_,_]) func24 rfl ntmps24 results24 rfl ?_;have h1:=Int.tmod_lt_of_pos n (show 0<hi - lo+1 by omega)
 have h2:-(hi - lo+1)<n.tmod (hi - lo+1):=by
  rcases Int.le_total 0 n with h0|h0
  ·have:=Int.tmod_nonneg (hi - lo+1) h0;omega
  ·have h3:=Int.tmod_lt_of_pos (-n) (show 0<hi - lo+1 by omega);rw [Int.neg_tmod] at h3;omega
 have hw:within n lo hi=if n≥lo∧n≤hi then n else lo+(if n.tmod (hi - lo+1)<0 then n.tmod (hi - lo+1)+hi - lo+1 else n.tmod (hi - lo+1)):=rfl
 by_cases ha:n≥lo
 ·by_cases hb:n≤hi
  ·refine wB ?_;exact aY _ rfl aX ⟨by rw [hw,aI ⟨ha,hb⟩];rfl,rfl⟩
  ·by_cases hc:n.tmod (hi - lo+1)<0
   ·refine wB ?_;exact aY _ rfl aX ⟨by rw [hw,aB (fun h=>hb h.2),aI hc];rfl,rfl⟩
   ·refine wB ?_;exact aY _ rfl aX ⟨by rw [hw,aB (fun h=>hb h.2),aB hc];rfl,rfl⟩
 ·by_cases hc:n.tmod (hi - lo+1)<0
  ·refine wB ?_;exact aY _ rfl aX ⟨by rw [hw,aB (fun h=>ha h.1),aI hc];rfl,rfl⟩
  ·refine wB ?_;exact aY _ rfl aX ⟨by rw [hw,aB (fun h=>ha h.1),aB hc];rfl,rfl⟩
theorem Mq (R:List cJ) (e:World) (v:Value) (l:List UInt8) (n:Nat) (h:db R v l) (hn:n<1099511627776) :
 Ct prog 185 #[v,.int .i64 n] e R (fun v' L'=>(∀ L,db L v l→db L v' (l.take n))∧v'.oneCell'=true∧R=L'):=by
 refine a7 (h.shape zo) ?_;rintro ⟨⟨ad,cap,rfl,h3,h4,h5,h6⟩,_⟩;simp only [maxLen] at h4
 refine a8 (args:=[_,_]) func185 rfl ntmps185 results185 rfl ?_
 by_cases hl:n<l.length
 ·refine wB ?_;refine aY _ rfl aX ⟨fun L h=>?_,rfl,rfl⟩;have:=cE.p5 h (hi:=n) zo;unfold db;rw [aF,Nat.min_eq_left zo];rw [Nat.mul_one,← List.map_take] at this
  exact this
 ·refine wB ?_;refine aY _ rfl aX ⟨fun L h=>?_,rfl,rfl⟩;rw [aG zo];exact h
def rJ (l:List ej):List UInt8:=(l.map (·.2)).flatten
theorem Ck {m:Nat}:∀ {l:List ej},(∀ a∈l,a.2.length≤m)→(rJ l).length≤m*l.length
 | [],_=>by simp [rJ]
 | a::l,h=>by
  have h1:=h a (List.mem_cons_self ..);have h2:=Ck (l:=l) fun b hb=>h b (aT _ hb)
  simp only [rJ,List.map_cons,List.flatten_cons,aa,aN,Nat.mul_add,Nat.mul_one] at h2 ⊢
  omega
theorem Ed {l:List ej} {i:Nat} (h:i<l.length):rJ (l.take (i+1))=rJ (l.take i)++(l[i]'h).2:=by
 simp only [rJ];rw [aD h];simp only [ah,List.map_cons,List.map_nil,List.flatten_append,List.flatten_cons,List.flatten_nil,aK]
end Go.Proofs
namespace Go.Bs
def cN (n:Nat):Nat:=if n<2 then 0 else 2 ^ (n - 1).log2
def Cl (n:Int):Int:=if n<2 then 0 else (cN n.toNat:Int)
theorem kX (n:Nat):Cl (n:Int)=(cN n:Int):=by
 unfold Cl cN
 by_cases h:n<2
 ·rw [aI zo,aI h];rfl
 ·rw [aB zo,Int.toNat_natCast]
theorem dz {n:Nat} (h:2≤n):1≤cN n∧cN n<n∧n≤2*cN n:=by
 unfold cN;rw [aB zo];have h1:=Nat.log2_self_le (n:=n - 1) zo;have h2:=Nat.lt_log2_self (n:=n - 1);rw [Nat.pow_succ] at h2
 have h3:=Nat.two_pow_pos (n - 1).log2
 omega
def ei (t:UInt8) (l:List (List UInt8)):List UInt8:=sk (t::l.flatten)
def cY (b:List UInt8):List UInt8:=ei 0 [b]
def eG (l r:List UInt8):List UInt8:=ei 1 [l,r]
def ea (l:List (List UInt8)):List UInt8 :=
 if h:l.length<2 then (match l with|[]=>sk []|a::_=>a) else eG (ea (l.take (cN l.length))) (ea (l.drop (cN l.length)))
 termination_by l.length
 decreasing_by
 ·have:=dz (n:=l.length) zo;rw [aF];omega
 ·have:=dz (n:=l.length) zo;rw [aO];omega
theorem kY:ea []=sk []:=by rw [ea,dif_pos (by simp)]
theorem nR (a:List UInt8):ea [a]=a:=by rw [ea,dif_pos (by simp)]
theorem jT {l:List (List UInt8)} (h:2≤l.length):ea l=eG (ea (l.take (cN l.length))) (ea (l.drop (cN l.length))):=by rw [ea,dif_neg zo]
theorem df (t:UInt8) (l:List (List UInt8)):(ei t l).length=32:=jS _
theorem tQ {l:List (List UInt8)} {m:Nat} (hm:32≤m) (h:∀ a∈l,a.length≤m):(ea l).length≤m:=by
 match l,h with
 | [],_=>rw [kY,jS];exact hm
 | [a],h=>rw [nR];exact h a (an.2 rfl)
 | a::b::r,_=>rw [jT (by simp)];unfold eG;rw [df];exact hm
end Go.Bs
namespace Go.Proofs
open Go.Bs
attribute [local irreducible] Bs.cD Bs.Do Bs.O Bs.W Bs.Fin Bs.A Bs.Ct Bs.cE Bs.Rd Bs.Sat Bs.cK Bs.Ob Bs.dJ Bs.View Bs.cz Bs.Ex Bs.dH Bs.Pu Bs.eY Bs.dM Bs.dZ
theorem mI (R:List cJ) (e:World) (n:Int) (hn:-9223372036854775808≤n∧n≤9223372036854775807) :
 Ct Tryz.prog 155 #[.int .i64 n] e R (fun v' L'=>v'=.int .i64 (Cl n)∧R=L'):=by
 refine a8 (args:=[_]) Tryz.func155 rfl Tryz.ntmps155 Tryz.results155 rfl ?_
 by_cases h:n<2
 ·refine wB ?_;exact aY R rfl aX ⟨by unfold Cl;rw [aI h];rfl,rfl⟩
 obtain ⟨m,rfl⟩:=Int.eq_ofNat_of_zero_le (show 0≤n by omega)
 have hw:IntKind.u64.wrap ((m:Int) - 1)=((m - 1:Nat):Int):=by
  rw [show (m:Int) - 1=((m - 1:Nat):Int) by omega];exact RG _ zo
 have hl:l8 (m - 1)=(m - 1).log2+1:=by unfold l8;rw [aB zo]
 have hb:(m - 1).log2<63:=(Nat.log2_lt zo).2 zo;have hp:2 ^ (m - 1).log2≤m - 1:=Nat.log2_self_le zo;refine wB ?_;rw [hw];refine aZ rfl rfl (Mo R e (m - 1) zo) ?_;rintro _ _ ⟨rfl,rfl⟩;rw [hl];refine wB ?_;refine aY R rfl aX ⟨?_,rfl⟩;rw [kX];unfold cN;rw [aB zo]
 show Value.int _ _=Value.int _ _
 congr 1
 rw [show ((((m - 1).log2+1:Nat):Int) - 1).toNat=(m - 1).log2 by omega,show IntKind.i64.bits=64 from rfl,Nat.min_eq_left zo,Int.one_mul];have e1:(2:Int) ^ (m - 1).log2=((2 ^ (m - 1).log2:Nat):Int):=by simp
 rw [e1];clear e1
 generalize 2 ^ (m - 1).log2=q at *
 exact wrap_i64 zo zo
theorem fe (R:List cJ) (e:World) (t:UInt8) (v:Value) (ts:List ej) (hv:cE R 1 v ts.length (ts.map (·.1))) (ht:dP R ts) (hb:∀ a∈ts,a.2.length≤1000000) (hl:ts.length≤10000) :
 Ct Tryz.prog 189 #[u8 t,v] e R (fun v' L'=>∃ ad c,v'=.slice ad (ei t (ts.map (·.2))).length c∧L'=cR (.slice ad (ei t (ts.map (·.2))).length c) (ei t (ts.map (·.2)))::R):=by
 refine a7 (hv.shape zo) ?_;rintro ⟨⟨ad,cap,rfl,h3,h4,h5,h6⟩,_⟩;simp only [maxLen] at h4
 have Ca:∀ i,(rJ (ts.take i)).length≤10000000000:=fun i=>by
  have h1:=Ck (l:=ts.take i) (m:=1000000) (fun a ha=>hb a (aR ha));rw [aF] at h1
  have h2:1000000*min i ts.length≤1000000*10000:=Nat.mul_le_mul_left _ zo
  omega
 refine a8 (args:=[_,_]) Tryz.func189 rfl Tryz.ntmps189 Tryz.results189 rfl ?_
 (repeat (refine wA ?_;intros))
 refine W.fo (cj (hF (n:=1) (k:=1) (cap:=1) zo zl (by simp)) aX) ?_;refine bq (ι:=Nat × Option Addr × Nat) (fun i=>[(12,.int .i64 (i.1:Int)),(11,.int .i64 (ts.length:Int)),(10,.slice ad ts.length cap),(5,.slice i.2.1 (1+(rJ (ts.take i.1)).length) i.2.2)])
  (fun i=>dJ pG 1 (.slice i.2.1 (1+(rJ (ts.take i.1)).length) i.2.2) (1+(rJ (ts.take i.1)).length) ((t::rJ (ts.take i.1)).map u8)::R) (fun i=>i.1≤ts.length) (fun i=>ts.length - i.1) (0,_,1) (aH _) (cC rfl (cC rfl (cC rfl (cC rfl dd)))) aX ?_
 rintro ⟨i,dW,c2⟩ hi;dsimp only at hi ⊢
 have Z9:=Ca i
 by_cases cO:i<ts.length
 ·rcases h6 with h6|⟨gl,ol,rfl⟩
  ·omega
  have hr:Rd R ⟨gl,ol+i,none⟩ (ts[i]'cO).1:=hv.elem (by rw [aL,ae cO];rfl);have ju:=ht _ (az cO);have z9:=hb _ (az cO);have Aa:=Ed cO
  generalize ts[i]'cO=y at *
  obtain ⟨yv,yt⟩:=y;dsimp only at ju z9 Aa hr
  refine wB ?_;refine bC (bo rfl rfl rfl .zero ju rfl rfl mD zm zo fun eI c3 _=>?_)
  refine wB ?_;refine bi (i+1,eI,c3) cO zd ?_ ?_
  ·dsimp only;rw [Aa,aa,← Nat.add_assoc];exact cC rfl (cC rfl (cC rfl (cC rfl dd)))
  ·dsimp only;rw [Aa,aa,← Nat.add_assoc,← List.cons_append,ah];exact zE
 rw [aG zo] at Z9 ⊢
 have htg:ei t (ts.map (·.2))=sk (t::rJ ts):=rfl;rw [htg]
 have tK:db (dJ pG 1 (.slice dW (1+(rJ ts).length) c2) (1+(rJ ts).length) ((t::rJ ts).map u8)::R) (.slice dW (1+(rJ ts).length) c2) (t::rJ ts):=by
  unfold db;rw [aN,Nat.add_comm];exact bb .zero
 refine wB ?_;refine aZ rfl rfl (tP _ e _ _ tK (by rw [aN];omega)) ?_;rintro _ _ ⟨jB,c4,rfl,rfl⟩;refine wB ?_;exact aY (cR (.slice jB (sk (t::rJ ts)).length c4) (sk (t::rJ ts))::R) rfl zE ⟨jB,c4,rfl,rfl⟩
theorem ye (R:List cJ) (e:World) (t:UInt8) (v:Value) (ts:List ej) (hv:cE R 1 v ts.length (ts.map (·.1))) (ht:dP R ts) (hb:∀ a∈ts,a.2.length≤1000000) (hl:ts.length≤10000) :
 Ct Tryz.prog 70 #[u8 t,v] e R (fun v' L'=>∃ ad c,v'=.slice ad (ei t (ts.map (·.2))).length c∧L'=cR (.slice ad (ei t (ts.map (·.2))).length c) (ei t (ts.map (·.2)))::R):=by
 refine a7 (hv.shape zo) ?_;rintro ⟨⟨ad,cap,rfl,h3,h4,h5,h6⟩,_⟩;simp only [maxLen] at h4
 have Ca:∀ i,(rJ (ts.take i)).length≤10000000000:=fun i=>by
  have h1:=Ck (l:=ts.take i) (m:=1000000) (fun a ha=>hb a (aR ha));rw [aF] at h1
  have h2:1000000*min i ts.length≤1000000*10000:=Nat.mul_le_mul_left _ zo
  omega
 refine a8 (args:=[_,_]) Tryz.func70 rfl Tryz.ntmps70 Tryz.results70 rfl ?_
 (repeat (refine wA ?_;intros))
 refine W.fo (cj (hF (n:=1) (k:=1) (cap:=1) zo zl (by simp)) aX) ?_;refine bq (ι:=Nat × Option Addr × Nat) (fun i=>[(6,.int .i64 (i.1:Int)),(1,.slice ad ts.length cap),(5,.slice i.2.1 (1+(rJ (ts.take i.1)).length) i.2.2)])
  (fun i=>dJ pG 1 (.slice i.2.1 (1+(rJ (ts.take i.1)).length) i.2.2) (1+(rJ (ts.take i.1)).length) ((t::rJ (ts.take i.1)).map u8)::R) (fun i=>i.1≤ts.length) (fun i=>ts.length - i.1) (0,_,1) (aH _) (cC rfl (cC rfl (cC rfl dd))) aX ?_
 rintro ⟨i,dW,c2⟩ hi;dsimp only at hi ⊢
 have Z9:=Ca i
 by_cases cO:i<ts.length
 ·rcases h6 with h6|⟨gl,ol,rfl⟩
  ·omega
  have hr:Rd R ⟨gl,ol+i,none⟩ (ts[i]'cO).1:=hv.elem (by rw [aL,ae cO];rfl);have ju:=ht _ (az cO);have z9:=hb _ (az cO);have Aa:=Ed cO
  generalize ts[i]'cO=y at *
  obtain ⟨yv,yt⟩:=y;dsimp only at ju z9 Aa hr
  refine wB ?_;refine bC (bo rfl rfl rfl .zero ju rfl rfl mD zm zo fun eI c3 _=>?_)
  refine wB ?_;refine bi (i+1,eI,c3) cO zd ?_ ?_
  ·dsimp only;rw [Aa,aa,← Nat.add_assoc];exact cC rfl (cC rfl (cC rfl dd))
  ·dsimp only;rw [Aa,aa,← Nat.add_assoc,← List.cons_append,ah];exact zE
 rw [aG zo] at Z9 ⊢
 have htg:ei t (ts.map (·.2))=sk (t::rJ ts):=rfl;rw [htg]
 have tK:db (dJ pG 1 (.slice dW (1+(rJ ts).length) c2) (1+(rJ ts).length) ((t::rJ ts).map u8)::R) (.slice dW (1+(rJ ts).length) c2) (t::rJ ts):=by
  unfold db;rw [aN,Nat.add_comm];exact bb .zero
 refine wB ?_;refine aZ rfl rfl (JP _ e _ _ tK (by rw [aN];omega)) ?_;rintro _ _ ⟨jB,c4,rfl,rfl⟩;refine wB ?_;exact aY (cR (.slice jB (sk (t::rJ ts)).length c4) (sk (t::rJ ts))::R) rfl zE ⟨jB,c4,rfl,rfl⟩
theorem qU (R:List cJ) (e:World) (v:Value) (b:List UInt8) (hv:db R v b) (hb:b.length≤1000000) :
 Ct Tryz.prog 101 #[v] e R (fun v' L'=>∃ ad c,v'=.slice ad (cY b).length c∧L'=cR (.slice ad (cY b).length c) (cY b)::R):=by
 refine a7 (cn hv) fun ho=>?_
 refine a8 (args:=[_]) Tryz.func101 rfl Tryz.ntmps101 Tryz.results101 rfl ?_
 (repeat' first|(apply bY;exact rfl;exact rfl;exact rfl;exact .one (eQ ho) rfl .nil;exact rfl;exact rfl;intro _)|refine Za ?_|refine Zb ?_|apply Zc|apply Zd|apply Ze|apply Zf)
 refine aZ rfl rfl (fe _ e 0 _ [(v,b)] (bB .zero rfl zl) (fun a ha=>by rw [an.1 ha];exact hv.tail) (fun a ha=>by rw [an.1 ha];exact hb) (by simp)) ?_;rintro _ _ ⟨ad,c,rfl,rfl⟩;refine wB ?_;exact aY (cR (.slice ad (cY b).length c) (cY b)::R) rfl zE ⟨ad,c,rfl,rfl⟩
theorem my (R:List cJ) (e:World) (v u:Value) (b c:List UInt8) (hv:db R v b) (hu:db R u c) (hb:b.length≤1000000) (hc:c.length≤1000000) :
 Ct Tryz.prog 156 #[v,u] e R (fun v' L'=>∃ ad k,v'=.slice ad (eG b c).length k∧L'=cR (.slice ad (eG b c).length k) (eG b c)::R):=by
 refine a7 (cn hv) fun ho=>?_
 refine a7 (cn hu) fun ho2=>?_
 refine a8 (args:=[_,_]) Tryz.func156 rfl Tryz.ntmps156 Tryz.results156 rfl ?_
 (repeat' first|(apply bY;exact rfl;exact rfl;exact rfl;exact .one (eQ ho) rfl (.one (eQ ho2) rfl .nil);exact rfl;exact rfl;intro _)|refine Za ?_|refine Zb ?_|apply Zc|apply Zd|apply Ze|apply Zf)
 refine aZ rfl rfl (fe _ e 1 _ [(v,b),(u,c)] (bB .zero rfl zl) (fun a ha=>?_) (fun a ha=>?_) (by simp)) ?_
 ·rcases aQ.1 ha with rfl|ha
  ·exact hv.tail
  ·rw [an.1 ha];exact hu.tail
 ·rcases aQ.1 ha with rfl|ha
  ·exact hb
  ·rw [an.1 ha];exact hc
 rintro _ _ ⟨ad,k,rfl,rfl⟩;refine wB ?_;exact aY (cR (.slice ad (eG b c).length k) (eG b c)::R) rfl zE ⟨ad,k,rfl,rfl⟩
end Go.Proofs
namespace Go.Proofs
attribute [local irreducible] Bs.cD Bs.Do Bs.O Bs.W Bs.Fin Bs.A Bs.Ct Bs.cE Bs.Rd Bs.Sat Bs.cK Bs.Ob Bs.dJ Bs.View Bs.cz Bs.Ex Bs.dH Bs.Pu Bs.eY Bs.dM Bs.dZ
open Go.Bs
open Tryz
theorem kZ {L:List cJ} {ad:Option Addr} {c k:Nat} {ts:List ej} (h:cE L 1 (.slice ad ts.length c) ts.length (ts.map (·.1))) (hk:k≤ts.length):cE L 1 (.slice ad k c) (ts.take k).length ((ts.take k).map (·.1)):=by
 have:=cE.p5 h hk;rw [Nat.mul_one,← List.map_take] at this
 rw [aF,Nat.min_eq_left hk];exact this
theorem vz {L:List cJ} {ad:Option Addr} {c k:Nat} {ts:List ej} (h:cE L 1 (.slice ad ts.length c) ts.length (ts.map (·.1))) (hk:k≤ts.length):cE L 1 (.slice (cutAt ad c k 1) (ts.length - k) (c - k)) (ts.drop k).length ((ts.drop k).map (·.1)):=by
 have:=cE.rG h hk;rw [Nat.mul_one,← List.map_drop] at this
 rw [aO];exact this
theorem jM {L:List cJ} {a b:List ej} (h:dP L a) (hs:∀ x∈b,x∈a):dP L b:=fun x hx=>h x (hs x hx)
theorem j3:∀ (n:Nat) (R:List cJ) (e:World) (v:Value) (ts:List ej),ts.length=n→cE R 1 v ts.length (ts.map (·.1))→dP R ts→(∀ a∈ts,a.2.length≤1000000)→ts.length≤1000000 →
 Ct prog 78 #[v] e R (fun v' L'=>∃ ad c,v'=.slice ad (ea (ts.map (·.2))).length c∧L'=cR (.slice ad (ea (ts.map (·.2))).length c) (ea (ts.map (·.2)))::R):=by
 intro n
 induction n using Nat.strongRecOn with
 | _ n ih =>
 intro R e v ts hn hv ht hb hl;refine a7 (hv.shape zo) ?_;rintro ⟨⟨ad,cap,rfl,h3,h4,h5,h6⟩,_⟩;simp only [maxLen] at h4
 refine a8 (args:=[_]) func78 rfl ntmps78 results78 rfl ?_
 by_cases h0:ts.length=0
 ·obtain rfl:ts=[]:=List.eq_nil_of_length_eq_zero h0;refine wB ?_;refine aZ rfl rfl (tP _ e _ [] (db.nil _) (by simp)) ?_;rintro _ _ ⟨dW,c2,rfl,rfl⟩;refine wB ?_;exact aY (cR (.slice dW (sk []).length c2) (sk [])::R) rfl zE ⟨dW,c2,by rw [List.map_nil,kY];rfl,by rw [List.map_nil,kY]⟩
 by_cases h1:ts.length=1
 ·obtain ⟨a,rfl⟩:=List.length_eq_one_iff.1 h1;rcases h6 with h6|⟨gl,ol,rfl⟩
  ·omega
  have hr:Rd R ⟨gl,ol+0,none⟩ a.1:=hv.elem rfl;have hta:=ht a (an.2 rfl);have T0:=hb a (an.2 rfl);refine wB ?_;refine bC <| Do.fo (du pG 1) (bo (v:=nY) (k:=0) rfl rfl rfl .zero hta rfl rfl mD zm zo fun eI c3 _=>?_)
  simp only [aC,List.nil_append];have Vq:ea ([a].map (·.2))=a.2:=nR _;rw [Vq];refine wB ?_;exact aY (cR (.slice eI a.2.length c3) a.2::R) rfl zE ⟨eI,c3,rfl,rfl⟩
 have hs:=dz (n:=ts.length) zo;refine wB ?_;refine aZ rfl rfl (mI R e ts.length zo) ?_;rintro _ _ ⟨rfl,rfl⟩;rw [kX];have rI:=jT (l:=ts.map (·.2)) (by rw [ab];omega);rw [ab,← List.map_take,← List.map_drop] at rI
 have qh:=tQ (l:=(ts.take (cN ts.length)).map (·.2)) (m:=1000000) zo (fun a ha=>by obtain ⟨x,hx,rfl⟩:=aE.1 ha;exact hb x (aR hx));have ry:=tQ (l:=(ts.drop (cN ts.length)).map (·.2)) (m:=1000000) zo (fun a ha=>by obtain ⟨x,hx,rfl⟩:=aE.1 ha;exact hb x (aV hx));have Ee:=kZ hv (k:=cN ts.length) zo;have Cm:=vz hv (k:=cN ts.length) zo
 generalize cN ts.length=k at *
 have QD:(ts.take k).length=k:=by rw [aF];omega
 have Ef:(ts.drop k).length=ts.length - k:=aO;refine wB ?_;refine bz (id:=7) [9] mixed ?_
 (refine tM 0 ?_;refine tM 1 ?_;refine tk 2 _ rfl (cD.iU rfl rfl zo zo) ?_;refine tM 4 ?_;refine tM 5 ?_;refine tk 6 _ rfl (cD.ll rfl rfl zo zo) ?_)
 refine tO 3 ?_;refine bg rfl rfl (ih k zo R e _ (ts.take k) QD Ee (jM ht fun x hx=>aR hx) (fun a ha=>hb a (aR ha)) zo) ?_;rintro _ _ ⟨ef,c1,rfl,rfl⟩;refine ⟨fun _=>zE,?_⟩;refine tO 7 ?_;refine bg rfl rfl (ih (ts.length - k) zo _ e _ (ts.drop k) Ef Cm.tail (dP.tail (jM ht fun x hx=>aV hx)) (fun a ha=>hb a (aV ha)) zo) ?_;rintro _ _ ⟨dW,c2,rfl,rfl⟩;refine ⟨fun _=>zE,?_⟩;refine tO 8 ?_;refine bg rfl rfl (my _ e _ _ _ _ (bb (.succ .zero)) (bb .zero) qh ry) ?_;rintro _ _ ⟨eI,c3,rfl,rfl⟩;refine ⟨fun _=>zE,?_⟩;rw [← rI]
 ((refine tO 9 ?_;refine dV (bj rfl) ?_))
 refine bf zK ?_;refine wB ?_;exact aY (cR (.slice eI (ea (ts.map (·.2))).length c3) (ea (ts.map (·.2)))::R) rfl zE ⟨eI,c3,rfl,rfl⟩
theorem dP.dY {L R:List cJ} {l:List ej} (p:cQ L (cH l) R):dP L l:=fun a ha=>(eF (R:=R) a ha).cL p.out
theorem Eg {L:List cJ} {l:List ej} (h:dP L l):∀ x,dM L x→∀ c∈l.map (·.1),c.oneCell'=true:=fun x hx c hc=>by
 obtain ⟨a,ha,rfl⟩:=aE.1 hc;exact cn (h a ha) x hx
end Go.Proofs
namespace Go.Bs
end Go.Bs
namespace Go.Proofs
open Go.Bs
attribute [local irreducible] Bs.cD Bs.Do Bs.O Bs.W Bs.Fin Bs.A Bs.Ct Bs.cE Bs.Rd Bs.Sat Bs.cK Bs.Ob Bs.dJ Bs.View Bs.cz Bs.Ex Bs.dH Bs.Pu Bs.eY Bs.dM Bs.dZ
theorem gh {ad:Option Addr} {c:Nat} {out:List ej} {v:Value} {b:List UInt8} {R:List cJ} :
 cz (dJ ez 1 (.slice ad (out.length+1) c) (out.length+1) (out.map (·.1)++[v])::cR v b::cH out::R) (cU (.slice ad (out++[(v,b)]).length c) (out++[(v,b)])::cH (out++[(v,b)])::R):=by
 unfold cU;rw [aa,aj,ah];refine bh (cj (jv (a:=(v,b))) (cj (bw (.succ .zero) aX) eK))
end Go.Proofs
namespace Go.Proofs
open Go.Bs
structure Dz where
 name:List UInt8
 ii:Nat
 fw:List UInt8
 notes:List UInt8
 deriving DecidableEq
def pH (l:List UInt8):Prop:=1≤l.length∧l.length≤20∧∀ b∈l,97≤b.toNat∧b.toNat≤122
instance Xl (l:List UInt8):Decidable (pH l):=by unfold pH;infer_instance
def Dz.right (m:Dz):Prop:=pH m.name∧0<m.ii∧m.fw.length=32∧m.notes.length≤64
instance aad (m:Dz):Decidable m.right:=by unfold Dz.right;infer_instance
abbrev tR (m:Dz) (vf vn:Value):List Value:=[.string (str m.name),.int .u32 (m.ii:Int),vf,vn]
def lO (m:Dz):List UInt8:=77::(enc m.name++(be m.ii 4++(m.fw++enc m.notes)))
def GK (b:List UInt8):eX:=⟨b,false⟩
def yg (b:List UInt8):eX:=(GK b).next 1
def Eh (b:List UInt8):eX:=(yg b).tz 20
def Ei (b:List UInt8):eX:=(Eh b).next 4
def Ej (b:List UInt8):eX:=(Ei b).next 32
def sm (b:List UInt8):eX:=(Ej b).tz 64
def dB (b:List UInt8):Dz:=⟨(yg b).bytes 20,(Eh b).num 4,(Ei b).take 32,(Ej b).bytes 64⟩
def ji (b:List UInt8):Prop:=(GK b).num 1=77∧((sm b).bad=false∧(sm b).left=[])∧(dB b).right
instance Vr (b:List UInt8):Decidable (ji b):=by unfold ji;infer_instance
theorem wi {m:Dz}:(lO m).length=m.name.length+m.fw.length+m.notes.length+9:=by
 unfold lO;rw [aN,aa,aa,aa,iy,iy,cX]
 omega
theorem OR {n:Nat} {r:List UInt8} (h:n<4294967296):eX.num ⟨be n 4++r,false⟩ 4=n∧eX.next ⟨be n 4++r,false⟩ 4=⟨r,false⟩:=by
 have h1:=j1 (a:=be n 4) (rest:=r);rw [cX] at h1
 exact ⟨by rw [eX.num];show numOf (eX.take _ ((4:Nat):Int))=n;rw [h1.1];exact qR n h,h1.2⟩
theorem OT {m:Dz} (h:m.right) (hv:m.ii<4294967296):ji (lO m)∧dB (lO m)=m:=by
 obtain ⟨h1,h2,h3,h4⟩:=id h
 have e1:(GK (lO m)).num 1=77∧yg (lO m)=⟨enc m.name++(be m.ii 4++(m.fw++enc m.notes)),false⟩:=by
  unfold yg GK lO
  generalize enc m.name++(be m.ii 4++(m.fw++enc m.notes))=r
  have q:=j1 (a:=[(77:UInt8)]) (rest:=r);refine ⟨?_,q.2⟩;unfold eX.num;have q1:eX.take ⟨77::r,false⟩ 1=[77]:=q.1;rw [q1];rfl
 have e2:=u9 m.name (be m.ii 4++(m.fw++enc m.notes)) 20 (by have:=h1.2.1;omega) (by have:=h1.2.1;omega);have e3:=OR (r:=m.fw++enc m.notes) hv;have e4:=j1 (a:=m.fw) (rest:=enc m.notes);rw [h3] at e4
 have e5:=u9 m.notes [] 64 zo zo;rw [aK] at e5
 have f2:Eh (lO m)=⟨be m.ii 4++(m.fw++enc m.notes),false⟩:=by unfold Eh;rw [e1.2];exact e2.2
 have f3:Ei (lO m)=⟨m.fw++enc m.notes,false⟩:=by unfold Ei;rw [f2];exact e3.2
 have f4:Ej (lO m)=⟨enc m.notes,false⟩:=by unfold Ej;rw [f3];exact e4.2
 have f5:sm (lO m)=⟨[],false⟩:=by unfold sm;rw [f4];exact e5.2
 have fm:dB (lO m)=m:=by
  unfold dB;rw [e1.2,f2,f3,f4,e2.1,e3.1,e5.1];have:=e4.1;rw [show (32:Int)=((32:Nat):Int) from rfl,this]
 exact ⟨⟨e1.1,by rw [f5];exact ⟨rfl,rfl⟩,by rw [fm];exact h⟩,fm⟩
def fh (iD:List UInt8):UInt32:=wd (ei 13 [iD]) 0
def nS (d:UInt32) (bit side:Nat):Bool:=decide (IntKind.i64.wrap (Go.bits .and .u32 ((d >>> UInt32.ofNat (31 - (bit:Int)).toNat).toNat:Int) 1)=(side:Int))
def fF (seed:List UInt8) (key bit side:Nat):List UInt8:=ei 10 [seed,be key 4++[UInt8.ofNat bit,UInt8.ofNat side]]
def ku (seed:List UInt8) (key bit side:Nat):List UInt8:=ei 11 [fF seed key bit side]
def jC (c:Nat→Nat→Bool) (seed:List UInt8) (key n:Nat):List UInt8:=if c (n / 2) (n % 2) then fF seed key (n / 2) (n % 2) else ku seed key (n / 2) (n % 2)
def nv (c:Nat→Nat→Bool) (seed:List UInt8) (key:Nat):List (List UInt8):=(List.range 64).map (jC c seed key)
def iz (seed:List UInt8) (key:Nat):List UInt8:=ei 12 (nv (fun _ _=>false) seed key)
def qV (seed:List UInt8) (key:Nat) (iD:List UInt8):List (List UInt8):=nv (nS (fh iD)) seed key
def iE (d:UInt32) (l:List (List UInt8)) (n:Nat):List UInt8:=if nS d (n / 2) (n % 2) then ei 11 [l.getD n []] else l.getD n []
def iF (iD:List UInt8) (l:List (List UInt8)):List UInt8:=ei 12 ((List.range 64).map (iE (fh iD) l))
theorem tS (c:Nat→Nat→Bool) (seed:List UInt8) (key n:Nat):(jC c seed key n).length=32:=by
 unfold jC;split
 ·exact df _ _
 ·exact df _ _
theorem nx (c:Nat→Nat→Bool) (seed:List UInt8) (key:Nat):(nv c seed key).length=64:=by simp [nv]
theorem tT {c:Nat→Nat→Bool} {seed:List UInt8} {key:Nat}:∀ a∈nv c seed key,a.length=32:=fun a ha=>by
 obtain ⟨n,_,rfl⟩:=aE.1 ha;exact tS _ _ _ _
theorem Cn (seed:List UInt8) (key:Nat) (iD:List UInt8):iF iD (qV seed key iD)=iz seed key:=by
 unfold iF iz nv
 congr 1
 apply List.map_congr_left;intro n hn;have hn:=List.mem_range.1 hn
 have hg:(qV seed key iD).getD n []=jC (nS (fh iD)) seed key n:=by
  unfold qV nv;rw [aA,aL,List.getElem?_range hn]
  rfl
 have hR:jC (fun _ _=>false) seed key n=ku seed key (n / 2) (n % 2):=aB Bool.false_ne_true;rw [hR];unfold iE;rw [hg]
 cases hc:nS (fh iD) (n / 2) (n % 2) with
 | true =>
  have hP:jC (nS (fh iD)) seed key n=fF seed key (n / 2) (n % 2):=by unfold jC;rw [hc];exact aI rfl
  rw [hP,aI rfl,ku]
 | false =>
  have hP:jC (nS (fh iD)) seed key n=ku seed key (n / 2) (n % 2):=by unfold jC;rw [hc];exact aB (by decide)
  rw [hP,aB (by decide)]
def iQ:List (List UInt8)→List (List UInt8)
 | a::b::r=>ei 14 [a,b]::iQ r
 | _=>[]
def eW (seed:List UInt8):List (List UInt8):=(List.range 16).map (iz seed)
def pO (l:List (List UInt8)):Nat→List (List UInt8)
 | 0=>l
 | n+1=>iQ (pO l n)
def kM (seed:List UInt8):List UInt8:=(pO (eW seed) 4).getD 0 []
def yh (l:List (List UInt8)) (i:Nat):List (List UInt8):=(List.range 4).map fun h=>(pO l h).getD ((i / 2 ^ h) ^^^ 1) []
structure wZ where
 idx:Nat
 parts:List (List UInt8)
 path:List (List UInt8)
 deriving DecidableEq
def rK (seed:List UInt8) (i:Nat) (iD:List UInt8):wZ:=⟨i,qV seed i iD,yh (eW seed) i⟩
def wZ.right (s:wZ):Prop:=s.idx<16∧s.parts.length=64∧(∀ a∈s.parts,a.length=32)∧s.path.length=4∧∀ a∈s.path,a.length=32
instance (s:wZ):Decidable s.right:=by unfold wZ.right;infer_instance
def lW:Nat→List UInt8→List (List UInt8)→List UInt8
 | _,t,[]=>t
 | i,t,o::r=>lW (i / 2) (if i % 2=0 then ei 14 [t,o] else ei 14 [o,t]) r
def xa (ja iD:List UInt8) (s:wZ):Prop:=s.right∧lW s.idx (iF iD s.parts) s.path=ja
instance (ja iD:List UInt8) (s:wZ):Decidable (xa ja iD s):=by unfold xa;infer_instance
theorem iL:∀ l:List (List UInt8),(iQ l).length=l.length / 2
 | []=>by simp [iQ]
 | [_]=>by simp [iQ]
 | _::_::r=>by simp only [iQ,aN,iL r];omega
theorem sn:∀ (l:List (List UInt8)) (i:Nat),2*i+1<l.length→(iQ l).getD i []=ei 14 [l.getD (2*i) [],l.getD (2*i+1) []]
 | [],i,h=>by simp at h
 | [_],i,h=>by simp at h
 | a::b::r,0,_=>rfl
 | a::b::r,i+1,h=>by
  have:=sn r i (by simp only [aN] at h;omega)
  show (iQ r).getD i []=_
  rw [this]
  rfl
theorem tU:∀ l:List (List UInt8),∀ a∈iQ l,a.length=32
 | [],a,h=>by cases h
 | [_],a,h=>by cases h
 | x::y::r,a,h=>by
  rcases aQ.1 h with rfl|h
  ·exact df _ _
  ·exact tU r a h
theorem mJ {l:List (List UInt8)} (hl:l.length=16):∀ n,n≤4→(pO l n).length=2 ^ (4 - n):=by
 intro n hn
 match n,hn with
 | 0,_=>exact hl
 | 1,_=>simp [pO,iL,hl]
 | 2,_=>simp [pO,iL,hl]
 | 3,_=>simp [pO,iL,hl]
 | 4,_=>simp [pO,iL,hl]
theorem kv (seed:List UInt8):(eW seed).length=16:=by simp [eW]
theorem nc {seed:List UInt8}:∀ a∈eW seed,a.length=32:=fun a ha=>by
 obtain ⟨n,_,rfl⟩:=aE.1 ha;exact df _ _
theorem qW {l:List (List UInt8)} (h:∀ a∈l,a.length=32):∀ n,∀ a∈pO l n,a.length=32
 | 0=>h
 | n+1=>tU _
theorem vA {l:List (List UInt8)} {i:Nat} (h:∀ a∈l,a.length=32) (hi:i<l.length):(l.getD i []).length=32:=by
 rw [aA,ae hi];exact h _ (az hi)
theorem j4 (seed:List UInt8):(kM seed).length=32:=vA (qW nc 4) (by rw [mJ (kv seed) 4 zo];decide)
theorem RK:∀ {n:Nat},n<16→n ^^^ 1=if n % 2=0 then n+1 else n - 1:=by decide
theorem oQ {l:List (List UInt8)} {i:Nat} (hi:i<l.length) (OU:i<16) (he:l.length % 2=0):(if i % 2=0 then ei 14 [l.getD i [],l.getD (i ^^^ 1) []] else ei 14 [l.getD (i ^^^ 1) [],l.getD i []])=(iQ l).getD (i / 2) []:=by
 rw [sn l (i / 2) zo,RK OU]
 split
 ·rename_i h;rw [show 2*(i / 2)=i by omega]
 ·rename_i h;rw [show 2*(i / 2)+1=i by omega,show 2*(i / 2)=i - 1 by omega]
theorem JS (seed:List UInt8) {i:Nat} (hi:i<16):lW i ((eW seed).getD i []) (yh (eW seed) i)=kM seed:=by
 have hl:=mJ (kv seed);have s0:=oQ (l:=pO (eW seed) 0) (i:=i) (by rw [hl 0 zo];simpa using hi) zo (by rw [hl 0 zo]);have s1:=oQ (l:=pO (eW seed) 1) (i:=i / 2) (by rw [hl 1 zo];simp;omega) zo (by rw [hl 1 zo]);have s2:=oQ (l:=pO (eW seed) 2) (i:=i / 2 / 2) (by rw [hl 2 zo];simp;omega) zo (by rw [hl 2 zo]);have s3:=oQ (l:=pO (eW seed) 3) (i:=i / 2 / 2 / 2) (by rw [hl 3 zo];simp;omega) zo (by rw [hl 3 zo])
 show lW i ((pO (eW seed) 0).getD i []) [(pO (eW seed) 0).getD ((i / 2 ^ 0) ^^^ 1) [],(pO (eW seed) 1).getD ((i / 2 ^ 1) ^^^ 1) [],(pO (eW seed) 2).getD ((i / 2 ^ 2) ^^^ 1) [],(pO (eW seed) 3).getD ((i / 2 ^ 3) ^^^ 1) []]=_
 rw [show i / 2 ^ 0=i by simp,show i / 2 ^ 1=i / 2 by simp,show i / 2 ^ 2=i / 2 / 2 by rw [Nat.div_div_eq_div_mul],show i / 2 ^ 3=i / 2 / 2 / 2 by rw [Nat.div_div_eq_div_mul,Nat.div_div_eq_div_mul]];simp only [lW];rw [s0]
 show (if i / 2 / 2 / 2 % 2=0 then ei 14 [if i / 2 / 2 % 2=0 then ei 14 [if i / 2 % 2=0 then ei 14 [(pO (eW seed) 1).getD (i / 2) [],_] else ei 14 [_,(pO (eW seed) 1).getD (i / 2) []],_] else ei 14 [_,if i / 2 % 2=0 then ei 14 [(pO (eW seed) 1).getD (i / 2) [],_] else ei 14 [_,(pO (eW seed) 1).getD (i / 2) []]],_] else ei 14 [_,if i / 2 / 2 % 2=0 then ei 14 [if i / 2 % 2=0 then ei 14 [(pO (eW seed) 1).getD (i / 2) [],_] else ei 14 [_,(pO (eW seed) 1).getD (i / 2) []],_] else ei 14 [_,if i / 2 % 2=0 then ei 14 [(pO (eW seed) 1).getD (i / 2) [],_] else ei 14 [_,(pO (eW seed) 1).getD (i / 2) []]]])=_
 rw [s1]
 show (if i / 2 / 2 / 2 % 2=0 then ei 14 [if i / 2 / 2 % 2=0 then ei 14 [(pO (eW seed) 2).getD (i / 2 / 2) [],_] else ei 14 [_,(pO (eW seed) 2).getD (i / 2 / 2) []],_] else ei 14 [_,if i / 2 / 2 % 2=0 then ei 14 [(pO (eW seed) 2).getD (i / 2 / 2) [],_] else ei 14 [_,(pO (eW seed) 2).getD (i / 2 / 2) []]])=_
 rw [s2]
 show (if i / 2 / 2 / 2 % 2=0 then ei 14 [(pO (eW seed) 3).getD (i / 2 / 2 / 2) [],_] else ei 14 [_,(pO (eW seed) 3).getD (i / 2 / 2 / 2) []])=_
 rw [s3];rw [show i / 2 / 2 / 2 / 2=0 by omega]
 rfl
theorem ly (l:List (List UInt8)) (i:Nat):(yh l i).length=4:=by simp [yh]
theorem GL {seed:List UInt8} {i:Nat} (hi:i<16):∀ a∈yh (eW seed) i,a.length=32:=fun a ha=>by
 obtain ⟨h,hh,rfl⟩:=aE.1 ha;have hh:=List.mem_range.1 hh;refine vA (qW nc h) ?_;rw [mJ (kv seed) h zo,RK (Nat.lt_of_le_of_lt (Nat.div_le_self _ _) hi)]
 match h,hh with
 | 0,_=>simp;split<;>omega
 | 1,_=>simp;split<;>omega
 | 2,_=>simp;split<;>omega
 | 3,_=>simp;split<;>omega
theorem j5 {seed iD:List UInt8} {i:Nat} (hi:i<16):(rK seed i iD).right:=⟨hi,nx _ _ _,tT,ly _ _,GL hi⟩
theorem yi {seed iD:List UInt8} {i:Nat} (hi:i<16):xa (kM seed) iD (rK seed i iD):=by
 refine ⟨j5 hi,?_⟩
 show lW i (iF iD (qV seed i iD)) (yh (eW seed) i)=_
 rw [Cn,← JS seed hi]
 congr 1
 unfold eW;rw [aA,aL,List.getElem?_range hi]
 rfl
end Go.Proofs
namespace Go.Proofs
attribute [local irreducible] Bs.cD Bs.Do Bs.O Bs.W Bs.Fin Bs.A Bs.Ct Bs.cE Bs.Rd Bs.Sat Bs.cK Bs.Ob Bs.dJ Bs.View Bs.cz Bs.Ex Bs.dH Bs.Pu Bs.eY Bs.dM Bs.dZ
open Go.Bs
open Tryz
variable (R:List cJ) (e:World)
theorem mK (n j b:Nat) (hj:j≤b):IntKind.u8.wrap ((n:Int).fdiv (2 ^ (min j b)))=((UInt8.ofNat (n / 2 ^ j)).toNat:Int):=by
 rw [Nat.min_eq_left hj,Int.fdiv_eq_ediv_of_nonneg _ (by exact Int.le_of_lt (Int.pow_pos zo))];have h2:(2:Int) ^ j=((2 ^ j:Nat):Int):=by simp
 rw [h2,← Int.natCast_ediv];unfold IntKind.wrap
 simp [IntKind.bits,IntKind.signed]
theorem Ek (n:Nat):IntKind.u8.wrap (n:Int)=((UInt8.ofNat n).toNat:Int):=by
 unfold IntKind.wrap
 simp [IntKind.bits,IntKind.signed]
theorem El (ad:Option Addr) (c:Nat) (b:List UInt8) (n:Nat) (hn:n<4294967296) (hl:b.length+4≤140737488355328) :
 Ct prog 146 #[.slice ad b.length c,.int .u32 n] e (cR (.slice ad b.length c) b::R) (fun v' L'=>∃ ad c,v'=.slice ad (b++be n 4).length c∧L'=cR (.slice ad (b++be n 4).length c) (b++be n 4)::R):=by
 refine a8 (args:=[_,_]) func146 rfl ntmps146 results146 rfl ?_
 (repeat (refine wA ?_;intros))
 have e1:[Value.int .u8 (IntKind.u8.wrap ((n:Int).fdiv (2 ^ min (24:Int).toNat IntKind.u32.bits))),.int .u8 (IntKind.u8.wrap ((n:Int).fdiv (2 ^ min (16:Int).toNat IntKind.u32.bits))),.int .u8 (IntKind.u8.wrap ((n:Int).fdiv (2 ^ min (8:Int).toNat IntKind.u32.bits))),.int .u8 (IntKind.u8.wrap (n:Int))]=(be n 4).map u8:=by
  have a1:=mK n 24 32 zo;have a2:=mK n 16 32 zo;have a3:=mK n 8 32 zo;have b:=Ek n
  show [Value.int .u8 (IntKind.u8.wrap ((n:Int).fdiv (2 ^ min 24 32))),.int .u8 (IntKind.u8.wrap ((n:Int).fdiv (2 ^ min 16 32))),.int .u8 (IntKind.u8.wrap ((n:Int).fdiv (2 ^ min 8 32))),.int .u8 (IntKind.u8.wrap (n:Int))]=_
  rw [a1,a2,a3,b]
  simp [be,u8]
 rw [e1];refine bC (bo rfl rfl rfl (.succ .zero) (bB .zero (by rw [ab,cX]) zl) rfl rfl mD zm zo fun dW c2 _=>?_)
 refine wB ?_;have e2:(b++be n 4).length=b.length+4:=by rw [aa,cX]
 refine aY (cR (.slice dW (b++be n 4).length c2) (b++be n 4)::R) rfl ?_ ⟨dW,c2,by rw [e2];rfl,rfl⟩;unfold cR;rw [e2,ah];exact zE
def dF (l:List UInt8) (i:Nat):UInt32:=(l.take i).foldl (fun a c=>(a <<< UInt32.ofNat (Int.toNat 8)) ||| c.toUInt32) 0
theorem dF4 {h:List UInt8} (hl:4≤h.length):dF h 4=wd h 0:=by
 rcases h with _|⟨c0,_|⟨c1,_|⟨c2,_|⟨c3,r⟩⟩⟩⟩
 ·simp at hl
 ·simp at hl
 ·simp at hl
 ·simp at hl
 ·simp only [dF,List.take_succ_cons,List.take_zero,List.foldl_cons,List.foldl_nil];rw [ID];simp only [wd,Nat.mul_zero,aC,List.getD_cons_zero,List.getD_cons_succ]
theorem wj (v:Value) (b:List UInt8) (hv:db R v b) (hb:b.length≤1000000) :
 Ct prog 293 #[v] e R (fun v' L'=>v'=cW (fh b)∧R=L'):=by
 refine a7 (cn hv) fun ho=>?_
 refine a8 (args:=[_]) func293 rfl ntmps293 results293 rfl ?_
 (repeat' first|(apply bY;exact rfl;exact rfl;exact rfl;exact .one (eQ ho) rfl .nil;exact rfl;exact rfl;intro _)|refine Za ?_|refine Zb ?_|apply Zc|apply Zd|apply Ze|apply Zf)
 rename_i g;refine aZ rfl rfl (fe _ e 13 _ [(v,b)] (bB .zero rfl zl) (fun a ha=>by rw [an.1 ha];exact hv.tail) (fun a ha=>by rw [an.1 ha];exact hb) (by simp)) ?_;rintro _ _ ⟨ad,c,rfl,rfl⟩;rw [show [(v,b)].map (·.2)=[b] from rfl];have hl:=df 13 [b];have hd:fh b=wd (ei 13 [b]) 0:=rfl
 generalize ei 13 [b]=h at *
 refine bn (fO .zero) ?_;rintro ⟨⟨a,cc,hq,wX,xr,Ml⟩,_⟩;obtain ⟨rfl,_,rfl⟩:=Value.slice.inj hq;simp only [maxLen] at xr
 rcases Ml with ⟨_,_,h0⟩|⟨p,rfl⟩
 ·omega
 have hf:∀ i (hi:i<h.length),dF h (i+1)=(dF h i <<< UInt32.ofNat (Int.toNat 8)) ||| (h[i]'hi).toUInt32:=fun i hi=>by
  unfold dF;rw [aD hi,List.foldl_append]
  rfl
 have h4:dF h 4=wd h 0:=dF4 zo;refine wB ?_;refine bq (ι:=Nat) (fun i=>[(3,cW (dF h i)),(9,.slice (some ⟨p,0,none⟩) 4 c),(10,.int .i64 4),(11,.int .i64 (i:Int))]) (fun _=>cR (.slice (some ⟨p,0,none⟩) h.length c) h::cK g [v] 30 (0,0)::R) (fun i=>i≤4) (fun i=>4 - i) 0 zo zS aX ?_;intro i hi
 by_cases cO:i<4
 ·have Ah:i<h.length:=by omega
  have hr:Rd (cR (.slice (some ⟨p,0,none⟩) h.length c) h::cK g [v] 30 (0,0)::R) ⟨p,0+i,none⟩ (u8 (h[i]'Ah)):=db.elem (bb .zero) (ae Ah);have hs:=hf i Ah
  generalize h[i]'Ah=b0 at *
  generalize hx1:dF h (i+1)=x1 at *
  generalize dF h i=x0 at *
  clear h4 hd hf
  (repeat' first|refine YV ?_|refine YX ?_|refine Y1 ?_|refine Za ?_|refine Zb ?_|apply Zc|apply Zd|apply Ze|apply Zf|refine Zi ?_|refine ZA ?_|refine ZS ?_|refine Yw ?_|refine Yz ?_|apply YB|apply YC|apply YH)
  rw [← hs,← hx1];exact bi (i+1) cO zo zS aX
 ·have JT:i=4:=by omega
  subst JT;refine wB ?_;refine aY R rfl zE ⟨?_,rfl⟩;rw [hd,← h4]
  rfl
theorem Be (d:UInt32) (bit side:Nat) (hb:bit<32) (hs:side<2) :
 Ct prog 294 #[cW d,.int .i64 (bit:Int),.int .i64 (side:Int)] e R (fun v' L'=>v'=.bool (nS d bit side)∧R=L'):=by
 refine a8 (args:=[_,_,_]) func294 rfl ntmps294 results294 rfl ?_;have ht:nS d bit side=decide (IntKind.i64.wrap (Go.bits .and .u32 ((d >>> UInt32.ofNat (31 - (bit:Int)).toNat).toNat:Int) 1)=(side:Int)):=rfl;rw [ht]
 by_cases h:IntKind.i64.wrap (Go.bits .and .u32 ((d >>> UInt32.ofNat (31 - (bit:Int)).toNat).toNat:Int) 1)=(side:Int)
 ·rw [ay h]
  (repeat' first|(apply O.xR;exact rfl;exact rfl;omega;exact rfl)|refine Za ?_|refine Zb ?_|apply Zc|apply Zd|apply Ze|apply Zf|refine ZM ?_|refine ZU ?_|refine ZZ ?_|refine Z2 ?_|apply YE)
  exact aY R rfl aX ⟨rfl,rfl⟩
 ·rw [aq h]
  (repeat' first|(apply O.xR;exact rfl;exact rfl;omega;exact rfl)|refine Za ?_|refine Zb ?_|apply Zc|apply Zd|apply Ze|apply Zf|refine ZN ?_|refine ZU ?_|refine ZZ ?_|refine Z2 ?_|apply YE)
  exact aY R rfl aX ⟨rfl,rfl⟩
theorem wk (v:Value) (seed:List UInt8) (key bit side:Nat) (hv:db R v seed) (hs:seed.length≤1000) (hk:key<16) (hb:bit<32) (hd:side<2) :
 Ct prog 297 #[v,.int .i64 (key:Int),.int .i64 (bit:Int),.int .i64 (side:Int)] e R (fun v' L'=>∃ ad c,v'=.slice ad (fF seed key bit side).length c∧L'=cR (.slice ad (fF seed key bit side).length c) (fF seed key bit side)::R):=by
 refine a7 (cn hv) fun ho=>?_
 refine a8 (args:=[_,_,_,_]) func297 rfl ntmps297 results297 rfl ?_
 (repeat' first|(apply bY;exact rfl;exact rfl;exact rfl;exact .one (eQ ho) rfl (.one rfl rfl .nil);exact rfl;exact rfl;intro _)|refine Za ?_|refine Zb ?_|apply Zc|apply Zd|apply Ze|apply Zf|refine ZY ?_|refine ZZ ?_|refine Z1 ?_|refine Yi fun _=>?_|fail)
 rename_i g g2
 have e1:[Value.int .u8 (IntKind.u8.wrap ((key:Int).fdiv (2 ^ min (24:Int).toNat IntKind.u32.bits))),.int .u8 (IntKind.u8.wrap ((key:Int).fdiv (2 ^ min (16:Int).toNat IntKind.u32.bits))),.int .u8 (IntKind.u8.wrap ((key:Int).fdiv (2 ^ min (8:Int).toNat IntKind.u32.bits))),.int .u8 (key:Int),.int .u8 (bit:Int),.int .u8 (side:Int)]=(be key 4++[UInt8.ofNat bit,UInt8.ofNat side]).map u8:=by
  have a1:=mK key 24 32 zo;have a2:=mK key 16 32 zo;have a3:=mK key 8 32 zo
  show [Value.int .u8 (IntKind.u8.wrap ((key:Int).fdiv (2 ^ min 24 32))),.int .u8 (IntKind.u8.wrap ((key:Int).fdiv (2 ^ min 16 32))),.int .u8 (IntKind.u8.wrap ((key:Int).fdiv (2 ^ min 8 32))),.int .u8 (key:Int),.int .u8 (bit:Int),.int .u8 (side:Int)]=_
  rw [a1,a2,a3]
  simp [be,u8,UInt8.toNat_ofNat_of_lt' (show key<256 by omega),UInt8.toNat_ofNat_of_lt' (show bit<256 by omega),UInt8.toNat_ofNat_of_lt' (show side<256 by omega),Nat.mod_eq_of_lt (show key<256 by omega),Nat.mod_eq_of_lt (show bit<256 by omega),Nat.mod_eq_of_lt (show side<256 by omega)]
 rw [e1];have h6:(be key 4++[UInt8.ofNat bit,UInt8.ofNat side]).length=6:=by rw [aa,cX];rfl
 have hr:db (cK g2 [v,.slice (some ⟨g,0,none⟩) 6 6] 30 (0,0)::cK g ((be key 4++[UInt8.ofNat bit,UInt8.ofNat side]).map u8) pG (0,0)::R) (.slice (some ⟨g,0,none⟩) 6 6) (be key 4++[UInt8.ofNat bit,UInt8.ofNat side]):=by
  have h:=bB (L:=cK g2 [v,.slice (some ⟨g,0,none⟩) 6 6] 30 (0,0)::cK g ((be key 4++[UInt8.ofNat bit,UInt8.ofNat side]).map u8) pG (0,0)::R) (k:=6) (.succ .zero) (by rw [ab];exact h6) zl;unfold db;rw [h6];exact h
 refine aZ rfl rfl (fe _ e 10 _ [(v,seed),(.slice (some ⟨g,0,none⟩) 6 6,be key 4++[UInt8.ofNat bit,UInt8.ofNat side])] (bB .zero rfl zl) (fun a ha=>by
  simp only [aQ,aP,or_false] at ha
  rcases ha with rfl|rfl
  ·exact hv.tail.tail
  ·exact hr) (fun a ha=>by
  simp only [aQ,aP,or_false] at ha
  rcases ha with rfl|rfl
  ·dsimp only;omega
  ·dsimp only;omega) (by simp)) ?_
 rintro _ _ ⟨ad,c,rfl,rfl⟩;refine wB ?_;exact aY (cR (.slice ad (fF seed key bit side).length c) (fF seed key bit side)::R) rfl zE ⟨ad,c,rfl,rfl⟩
theorem GM (v:Value) (seed:List UInt8) (key bit side:Nat) (hv:db R v seed) (hs:seed.length≤1000) (hk:key<16) (hb:bit<32) (hd:side<2) :
 Ct prog 273 #[v,.int .i64 (key:Int),.int .i64 (bit:Int),.int .i64 (side:Int)] e R (fun v' L'=>∃ ad c,v'=.slice ad (ku seed key bit side).length c∧L'=cR (.slice ad (ku seed key bit side).length c) (ku seed key bit side)::R):=by
 refine a8 (args:=[_,_,_,_]) func273 rfl ntmps273 results273 rfl ?_;refine wB ?_;refine aZ rfl rfl (wk _ e v seed key bit side hv hs hk hb hd) ?_;rintro _ _ ⟨ad,c,rfl,rfl⟩;have hr:∀ L,db (cR (.slice ad (fF seed key bit side).length c) (fF seed key bit side)::L) (.slice ad (fF seed key bit side).length c) (fF seed key bit side):=fun L=>bb .zero
 have hl:(fF seed key bit side).length=32:=df _ _
 (repeat (refine wA ?_;intros))
 rename_i g;refine aZ rfl rfl (fe _ e 11 _ [(.slice ad (fF seed key bit side).length c,fF seed key bit side)] (bB .zero rfl zl) (fun a ha=>by rw [an.1 ha];exact (hr _).tail) (fun a ha=>by rw [an.1 ha];dsimp only;omega) (by simp)) ?_;rintro _ _ ⟨dW,c2,rfl,rfl⟩;refine wB ?_;exact aY (cR (.slice dW (ku seed key bit side).length c2) (ku seed key bit side)::R) rfl zE ⟨dW,c2,rfl,rfl⟩
abbrev Co:Value:=.func (.func 297) #[] #[]
abbrev GN:Value:=.func (.func 273) #[] #[]
theorem JU (c:Nat→Nat→Bool) (seed:List UInt8) (key bit side:Nat) (hs:side<2):jC c seed key (2*bit+side)=if c bit side then fF seed key bit side else ku seed key bit side:=by
 unfold jC;rw [show (2*bit+side) / 2=bit by omega,show (2*bit+side) % 2=side by omega]
theorem yj (v:Value) (seed:List UInt8) (key:Nat) (f:FuncId) (ws:List Value) (ch:Nat→Nat→Bool) [i:cI prog f f] (hv:db R v seed) (hs:seed.length≤1000) (hk:key<16)
 (hch:∀ (M:List cJ) (bit side:Nat),bit<32→side<2→Ct prog f (([]:List Value)++[Value.int .i64 (bit:Int),Value.int .i64 (side:Int)]++ws).toArray e (M++R) (fun v' L'=>v'=(if ch bit side then Co else GN)∧M++R=L')) :
 Ct prog 271 #[v,.int .i64 (key:Int),.func (.func f) #[] ws.toArray] e R (fun v' L'=>∃ ad c ts,v'=.slice ad ts.length c∧ts.map (·.2)=nv ch seed key∧L'=cU (.slice ad ts.length c) ts::cH ts::R):=by
 refine a8 (args:=[_,_,_]) func271 rfl ntmps271 results271 rfl ?_;refine wB ?_;refine bq (ι:=Nat × List ej × Option Addr × Nat) (fun i=>[(0,v),(1,.int .i64 (key:Int)),(2,.func (.func f) #[] ws.toArray),(7,.slice i.2.2.1 i.2.1.length i.2.2.2),(10,.int .i64 (i.1:Int))]) (fun i=>cU (.slice i.2.2.1 i.2.1.length i.2.2.2) i.2.1::cH i.2.1::R) (fun i=>i.1≤32∧i.2.1.map (·.2)=(List.range (2*i.1)).map (jC ch seed key)) (fun i=>32 - i.1) (0,[],none,0) ⟨by omega,rfl⟩ zS (cj dL (du ez 1)) ?_;rintro ⟨bit,ts,ad,c⟩ ⟨hb,fy⟩;dsimp only at hb fy ⊢
 by_cases cO:bit<32
 rotate_left
 ·have GO:bit=32:=by omega
  subst GO;refine wB ?_;exact aY _ rfl aX ⟨ad,c,ts,rfl,fy,rfl⟩
 refine wB ?_;refine bq (ι:=Nat × List ej × Option Addr × Nat) (fun i=>[(0,v),(1,.int .i64 (key:Int)),(2,.func (.func f) #[] ws.toArray),(7,.slice i.2.2.1 i.2.1.length i.2.2.2),(8,.int .i64 (bit:Int)),(10,.int .i64 (bit:Int)),(13,.int .i64 (i.1:Int))]) (fun i=>cU (.slice i.2.2.1 i.2.1.length i.2.2.2) i.2.1::cH i.2.1::R) (fun i=>i.1≤2∧i.2.1.map (·.2)=(List.range (2*bit+i.1)).map (jC ch seed key)) (fun i=>2 - i.1) (0,ts,ad,c) ⟨by omega,fy⟩ zS aX ?_;clear fy;rintro ⟨side,us,dW,c2⟩ ⟨JV,hJ⟩;dsimp only at JV hJ ⊢
 by_cases lz:side<2
 rotate_left
 ·have OV:side=2:=by omega
  subst OV;refine wB ?_;exact bi (bit+1,us,dW,c2) ⟨cO,hJ⟩ zd zS aX
 have LD:us.length=2*bit+side:=by simpa using congrArg List.length hJ
 have na:=JU ch seed key bit side lz;have Cj:=tS ch seed key (2*bit+side)
 have lM:∀ (w:Value) (b:List UInt8),b=jC ch seed key (2*bit+side)→(us++[(w,b)]).map (·.2)=(List.range (2*bit+(side+1))).map (jC ch seed key):=fun w b h=>by
  rw [ah,hJ,show 2*bit+(side+1)=(2*bit+side)+1 by omega,List.range_succ,ah,h]
  rfl
 refine wB ?_;refine bC (Do.gD (us:=[]) (ws:=ws) rfl rfl rfl (hch [cU (.slice dW us.length c2) us,cH us] bit side cO lz) ?_)
 rintro _ _ ⟨rfl,rfl⟩;have QE:db (cU (.slice dW us.length c2) us::cH us::R) v seed:=hv.tail.tail
 cases hc:ch bit side with
 | true =>
  rw [hc] at na
  (repeat (refine wA ?_;intros))
  refine bC (Do.gD (us:=[]) (ws:=[]) rfl rfl rfl (wk (cU (.slice dW us.length c2) us::cH us::R) e v seed key bit side QE hs hk cO lz) ?_)
  rintro _ _ ⟨eI,c3,rfl,rfl⟩;rw [show fF seed key bit side=jC ch seed key (2*bit+side) from na.symm]
  generalize jC ch seed key (2*bit+side)=b at *
  (repeat (refine wA ?_;intros))
  rename_i g;refine bC (bo rfl rfl rfl (.succ (.succ .zero)) (bB .zero rfl zl) rfl rfl zO zm zo fun jB c4 _=>?_)
  refine wB ?_;refine bi (side+1,us++[(.slice eI b.length c3,b)],jB,c4) ⟨lz,lM _ _ rfl⟩ zd ?_ ?_
  ·dsimp only;rw [aa,aj];exact zS
  ·exact cj (show cz _ (dJ ez 1 (.slice jB (us.length+1) c4) (us.length+1) (us.map (·.1)++[.slice eI b.length c3])::cR (.slice eI b.length c3) b::cH us::R) from zE) gh
 | false =>
  rw [hc] at na
  (repeat (refine wA ?_;intros))
  refine bC (Do.gD (us:=[]) (ws:=[]) rfl rfl rfl (GM (cU (.slice dW us.length c2) us::cH us::R) e v seed key bit side QE hs hk cO lz) ?_)
  rintro _ _ ⟨eI,c3,rfl,rfl⟩;rw [show ku seed key bit side=jC ch seed key (2*bit+side) from na.symm]
  generalize jC ch seed key (2*bit+side)=b at *
  (repeat (refine wA ?_;intros))
  rename_i g;refine bC (bo rfl rfl rfl (.succ (.succ .zero)) (bB .zero rfl zl) rfl rfl zO zm zo fun jB c4 _=>?_)
  refine wB ?_;refine bi (side+1,us++[(.slice eI b.length c3,b)],jB,c4) ⟨lz,lM _ _ rfl⟩ zd ?_ ?_
  ·dsimp only;rw [aa,aj];exact zS
  ·exact cj (show cz _ (dJ ez 1 (.slice jB (us.length+1) c4) (us.length+1) (us.map (·.1)++[.slice eI b.length c3])::cR (.slice eI b.length c3) b::cH us::R) from zE) gh
theorem oR {ts:List ej} {l:List (List UInt8)} (h:ts.map (·.2)=l) {m:Nat} (hl:∀ a∈l,a.length=m):∀ a∈ts,a.2.length=m:=fun a ha=>hl _ (by rw [← h];exact aE.2 ⟨a,ha,rfl⟩)
theorem JW (M:List cJ) (e:World) (bit side:Nat) :
 Ct prog 272 #[.int .i64 (bit:Int),.int .i64 (side:Int)] e M (fun v' L'=>v'=(if (fun _ _=>false:Nat→Nat→Bool) bit side then Co else GN)∧M=L'):=by
 refine a8 (args:=[_,_]) func272 rfl ntmps272 results272 rfl ?_;refine wB ?_;exact aY M rfl aX ⟨rfl,rfl⟩
theorem GP (M:List cJ) (R:List cJ) (e:World) (g T:Nat) (d:UInt32) (bit side:Nat) (hb:bit<32) (hs:side<2) :
 Ct prog 296 #[.int .i64 (bit:Int),.int .i64 (side:Int),pt g] e (M++cK g [cW d] T (0,0)::R) (fun v' L'=>v'=(if nS d bit side then Co else GN)∧M++cK g [cW d] T (0,0)::R=L'):=by
 refine a8 (args:=[_,_,_]) func296 rfl ntmps296 results296 rfl ?_;have hr:Rd (M++cK g [cW d] T (0,0)::R) ⟨g,0,none⟩ (cW d):=bP (L7 .zero) rfl;refine wB ?_;refine aZ rfl rfl (Be _ e d bit side hb hs) ?_;rintro _ _ ⟨rfl,rfl⟩
 cases nS d bit side with
 | true =>
  refine wB ?_;exact aY _ rfl aX ⟨rfl,rfl⟩
 | false =>
  refine wB ?_;exact aY _ rfl aX ⟨rfl,rfl⟩
theorem xc (v:Value) (seed:List UInt8) (key:Nat) (hv:db R v seed) (hs:seed.length≤1000) (hk:key<16) :
 Ct prog 225 #[v,.int .i64 (key:Int)] e R (fun v' L'=>∃ ad c,v'=.slice ad (iz seed key).length c∧L'=cR (.slice ad (iz seed key).length c) (iz seed key)::R):=by
 refine a8 (args:=[_,_]) func225 rfl ntmps225 results225 rfl ?_;refine wB ?_;refine aZ rfl rfl (yj R e v seed key 272 [] (fun _ _=>false) hv hs hk (fun M bit side _ _=>JW _ e bit side)) ?_;rintro _ _ ⟨ad,c,ts,rfl,fy,rfl⟩;have jN:=oR fy tT;have Ch:ts.length=64:=by have:=congrArg List.length fy;rw [ab,nx] at this;exact this
 refine wB ?_;refine aZ rfl rfl (fe _ e 12 _ ts (bb .zero) (dP.tail eF) (fun a ha=>by have:=jN a ha;omega) zo) ?_;rintro _ _ ⟨dW,c2,rfl,rfl⟩;rw [fy];refine wB ?_;exact aY (cR (.slice dW (iz seed key).length c2) (iz seed key)::R) rfl zE ⟨dW,c2,rfl,rfl⟩
theorem Ai (v u:Value) (seed iD:List UInt8) (key:Nat) (hv:db R v seed) (hs:seed.length≤1000) (hk:key<16) (hu:db R u iD) (hm:iD.length≤1000000) :
 Ct prog 263 #[v,.int .i64 (key:Int),u] e R (fun v' L'=>∃ ad c ts,v'=.slice ad ts.length c∧ts.map (·.2)=qV seed key iD∧L'=cU (.slice ad ts.length c) ts::cH ts::R):=by
 refine a8 (args:=[_,_,_]) func263 rfl ntmps263 results263 rfl ?_;refine wB ?_;refine aZ rfl rfl (wj R e u iD hu hm) ?_;rintro _ _ ⟨rfl,rfl⟩
 (repeat (refine wA ?_;intros))
 rename_i g;refine aZ rfl rfl (yj _ e v seed key 296 [pt g] (nS (fh iD)) hv.tail hs hk (fun M bit side hb hs=>GP M R e g _ (fh iD) bit side hb hs)) ?_;rintro _ _ ⟨ad,c,ts,rfl,fy,rfl⟩;refine wB ?_;exact aY (cU (.slice ad ts.length c) ts::cH ts::R) rfl zE ⟨ad,c,ts,rfl,fy,rfl⟩
theorem Aj (u v:Value) (iD:List UInt8) (ts:List ej) (hu:db R u iD) (hm:iD.length≤1000000) (hv:cE R 1 v ts.length (ts.map (·.1))) (ht:dP R ts) (Ch:ts.length=64) (jN:∀ a∈ts,a.2.length=32) :
 Ct prog 258 #[u,v] e R (fun v' L'=>∃ ad c,v'=.tuple #[.slice ad (iF iD (ts.map (·.2))).length c,.bool true]∧L'=cR (.slice ad (iF iD (ts.map (·.2))).length c) (iF iD (ts.map (·.2)))::R):=by
 refine a7 (hv.shape zo) ?_;rintro ⟨⟨wm,cap,rfl,h3,h4,h5,h6⟩,_⟩;simp only [maxLen] at h4
 rcases h6 with h6|⟨gl,ol,rfl⟩
 ·omega
 refine a8 (args:=[_,_]) func258 rfl ntmps258 results258 rfl ?_;refine wB ?_;refine aZ rfl rfl (wj R e u iD hu hm) ?_;rintro _ _ ⟨rfl,rfl⟩;refine wB ?_;refine bq (ι:=Nat × List ej × List ej × Option Addr × Nat) (fun i=>[(6,cW (fh iD)),(7,.slice i.2.2.2.1 i.2.1.length i.2.2.2.2),(15,.slice (some ⟨gl,ol,none⟩) ts.length cap),(16,.int .i64 (ts.length:Int)),(17,.int .i64 (i.1:Int))]) (fun i=>cU (.slice i.2.2.2.1 i.2.1.length i.2.2.2.2) i.2.1::cH i.2.2.1::R) (fun i=>i.1≤ts.length∧i.2.1.map (·.2)=(List.range i.1).map (iE (fh iD) (ts.map (·.2)))∧∀ x∈i.2.1,x∈i.2.2.1∨db R x.1 x.2) (fun i=>ts.length - i.1) (0,[],[],none,0) ⟨aH _,rfl,fun x h=>by cases h⟩ zS (cj dL (du ez 1)) ?_;rintro ⟨i,out,news,ad,c⟩ ⟨hi,lr,jx⟩;dsimp only at hi lr jx ⊢
 have Em:out.length=i:=by simpa using congrArg List.length lr
 by_cases cO:i<ts.length
 rotate_left
 ·have JT:i=64:=by omega
  rw [JT] at lr
  have lm:∀ a∈out,a.2.length≤1000000:=fun a ha=>by
   have:a.2∈(List.range 64).map (iE (fh iD) (ts.map (·.2))):=by rw [← lr];exact aE.2 ⟨a,ha,rfl⟩
   obtain ⟨n,hn,h⟩:=aE.1 this;have hn:=List.mem_range.1 hn;rw [← h];unfold iE
   split
   ·rw [df];omega
   ·rw [vA (fun a ha=>by obtain ⟨x,hx,rfl⟩:=aE.1 ha;exact jN x hx) (by rw [ab];omega)];omega
  refine wB ?_
  refine aZ rfl rfl (fe _ e 12 _ out (bb .zero) (fun x hx=>by
   rcases jx x hx with h|h
   ·exact (eF (l:=news) x h).tail
   ·exact h.tail.tail) lm zo) ?_
  rintro _ _ ⟨dW,c2,rfl,rfl⟩;rw [lr,show ei 12 ((List.range 64).map (iE (fh iD) (ts.map (·.2))))=iF iD (ts.map (·.2)) from rfl];clear lm jx lr
  generalize iF iD (ts.map (·.2))=b at *
  refine wB ?_;exact aY (cR (.slice dW b.length c2) b::R) rfl zE ⟨dW,c2,rfl,rfl⟩
 have hr:Rd R ⟨gl,ol+i,none⟩ (ts[i]'cO).1:=hv.elem (by rw [aL,ae cO];rfl);have ju:=ht _ (az cO);have aag:=jN _ (az cO);have th:(ts.map (·.2)).getD i []=(ts[i]'cO).2:=by rw [aA,aL,ae cO];rfl
 have kx:∀ (w:Value) (b:List UInt8),b=iE (fh iD) (ts.map (·.2)) i→(out++[(w,b)]).map (·.2)=(List.range (i+1)).map (iE (fh iD) (ts.map (·.2))):=fun w b h=>by
  rw [ah,lr,List.range_succ,ah,h]
  rfl
 have OW:iE (fh iD) (ts.map (·.2)) i=if nS (fh iD) (i / 2) (i % 2) then ei 11 [(ts[i]'cO).2] else (ts[i]'cO).2:=by unfold iE;rw [th]
 generalize ts[i]'cO=y at *
 obtain ⟨yv,yt⟩:=y;dsimp only at ju aag hr OW
 refine W.cB (cE.shape ju.tail.tail zo) ?_;rintro ⟨⟨Xm,cy,rfl,_,_,_,_⟩,_⟩;have hoy:(Value.slice Xm yt.length cy).oneCell'=true:=rfl;have q2:((i:Int)).tdiv 2=((i / 2:Nat):Int):=by rw [Int.tdiv_eq_ediv_of_nonneg zo];omega
 have r2:((i:Int)).tmod 2=((i % 2:Nat):Int):=by rw [Int.tmod_eq_emod_of_nonneg zo];omega
 refine wB ?_;rw [show IntKind.i64.wrap (((i:Int)).tdiv 2)=((i / 2:Nat):Int) by rw [q2];exact wrap_i64 zo zo,r2];refine aZ rfl rfl (Be _ e (fh iD) (i / 2) (i % 2) zo zo) ?_;rintro _ _ ⟨rfl,rfl⟩
 cases hc:nS (fh iD) (i / 2) (i % 2) with
 | true =>
  rw [hc] at OW
  (repeat (refine wA ?_;intros))
  rename_i g;refine aZ rfl rfl (fe _ e 11 _ [(.slice Xm yt.length cy,yt)] (bB .zero rfl zl) (fun a ha=>by rw [an.1 ha];exact ju.tail.tail.tail) (fun a ha=>by rw [an.1 ha];dsimp only;omega) (by simp)) ?_;rintro _ _ ⟨eI,c3,rfl,rfl⟩;rw [show ei 11 ([((.slice Xm yt.length cy:Value),yt)].map (·.2))=ei 11 [yt] from rfl,show ei 11 [yt]=iE (fh iD) (ts.map (·.2)) i from OW.symm]
  generalize iE (fh iD) (ts.map (·.2)) i=b at *
  (repeat (refine wA ?_;intros))
  rename_i g2;refine bC (bo rfl rfl rfl (.succ (.succ (.succ .zero))) (bB .zero rfl zl) rfl rfl zO zm zo fun jB c4 _=>?_)
  refine wB ?_;refine bi (i+1,out++[(.slice eI b.length c3,b)],news++[(.slice eI b.length c3,b)],jB,c4) ⟨cO,kx _ _ rfl,fun x hx=>?_⟩ zd ?_ ?_
  ·rcases aJ.1 hx with h|h
   ·rcases jx x h with h|h
    ·exact .inl (List.mem_append_left _ h)
    ·exact .inr h
   ·exact .inl (List.mem_append_right _ h)
  ·dsimp only;rw [aa,aj];exact zS
  ·refine cj (show cz _ (cR (.slice eI b.length c3) b::cH news::dJ ez 1 (.slice jB (out.length+1) c4) (out.length+1) (out.map (·.1)++[.slice eI b.length c3])::R) from zE) (cj (jv (a:=(.slice eI b.length c3,b))) (cj (bw (.succ .zero) aX) (cj eK ?_)));simp only [cU,aa,aj,ah,List.map_cons,List.map_nil];exact zE
 | false =>
  rw [hc] at OW
  (repeat (refine wA ?_;intros))
  rename_i g2;refine bC (bo rfl rfl rfl (.succ .zero) (bB .zero rfl zl) rfl rfl zO zm zo fun jB c4 _=>?_)
  refine wB ?_;refine bi (i+1,out++[(.slice Xm yt.length cy,yt)],news,jB,c4) ⟨cO,kx _ _ OW.symm,fun x hx=>?_⟩ zd ?_ ?_
  ·rcases aJ.1 hx with h|h
   ·exact jx x h
   ·rw [an.1 h];exact .inr ju
  ·dsimp only;rw [aa,aj];exact zS
  ·simp only [cU,aa,aj,ah,List.map_cons,List.map_nil];exact zE
def mL (L:List cJ) (v:Value) (bs:List (List UInt8)):Prop:=∃ ts:List ej,ts.map (·.2)=bs∧cE L 1 v ts.length (ts.map (·.1))∧dP L ts
theorem mL.cL {L L':List cJ} {v:Value} {bs:List (List UInt8)} (h:mL L' v bs) (f:cz L L'):mL L v bs:=by
 obtain ⟨ts,h1,h2,h3⟩:=h;exact ⟨ts,h1,h2.cL f,fun a ha=>(h3 a ha).cL f⟩
theorem mL.tail {A:cJ} {L:List cJ} {v:Value} {bs:List (List UInt8)} (h:mL L v bs):mL (A::L) v bs:=h.cL (cz.drop aX)
theorem mL.one {L:List cJ} {v:Value} {bs:List (List UInt8)} (h:mL L v bs):∀ x,dM L x→v.oneCell'=true:=fun x hx=>by
 obtain ⟨ts,_,h2,_⟩:=h;obtain ⟨⟨ad,cap,rfl,_⟩,_⟩:=h2.shape zo x hx
 rfl
theorem wo (v:Value) (ts:List ej) (f:FuncId) (us ws:List Value) (p:Nat→Bool) [i:cI prog f f] (hv:cE R 1 v ts.length (ts.map (·.1))) (hl:ts.length≤1000000)
 (hf:∀ (i:Nat) (h:i<ts.length),Ct prog f (us++[(ts[i]).1]++ws).toArray e R (fun v' L'=>v'=.bool (p i)∧R=L')) :
 Ct prog 264 #[v,.func (.func f) us.toArray ws.toArray] e R (fun v' L'=>(∃ k:Int,v'=.int .i64 k∧((k = -1∧∀ i,i<ts.length→p i=false)∨(∃ j:Nat,k=j∧j<ts.length∧p j=true∧∀ i,i<j→p i=false)))∧R=L'):=by
 refine a7 (hv.shape zo) ?_;rintro ⟨⟨ad,cap,rfl,h3,h4,h5,h6⟩,_⟩;refine a8 (args:=[_,_]) func264 rfl ntmps264 results264 rfl ?_;refine wB ?_;refine bq (ι:=Nat) (fun i=>[(0,.slice ad ts.length cap),(1,.func (.func f) us.toArray ws.toArray),(7,.int .i64 (ts.length:Int)),(8,.int .i64 (i:Int))]) (fun _=>R) (fun i=>i≤ts.length∧∀ j,j<i→p j=false) (fun i=>ts.length - i) 0 ⟨aH _,fun j h=>absurd h (Nat.not_lt_zero j)⟩ zS aX ?_;rintro i ⟨h1,h2⟩
 by_cases cO:i<ts.length
 rotate_left
 ·refine wB ?_;exact aY R rfl aX ⟨⟨-1,rfl,.inl ⟨rfl,fun j hj=>h2 j zo⟩⟩,rfl⟩
 rcases h6 with h6|⟨gl,ol,rfl⟩
 ·omega
 have hr:Rd R ⟨gl,ol+i,none⟩ (ts[i]'cO).1:=hv.elem (by rw [aL,ae cO];rfl);have JX:=hf i cO
 generalize (ts[i]'cO).1=y at *
 refine wB ?_;refine O.gD (us:=us) (ws:=ws) rfl rfl rfl JX ?_;rintro _ _ ⟨rfl,rfl⟩
 cases hp:p i with
 | false =>
  refine wB ?_;refine bi (i+1) ⟨cO,fun j hj=>?_⟩ zo zS aX
  by_cases AX:j=i
  ·subst AX;exact hp
  ·exact h2 j zo
 | true =>
  refine wB ?_;exact aY R rfl aX ⟨⟨i,rfl,.inr ⟨i,rfl,cO,hp,h2⟩⟩,rfl⟩
theorem qj (v:Value) (ts:List ej) (f:FuncId) (us ws:List Value) (p:Nat→Bool) [i:cI prog f f] (hv:cE R 1 v ts.length (ts.map (·.1))) (hl:ts.length≤1000000)
 (hf:∀ (i:Nat) (h:i<ts.length),Ct prog f (us++[(ts[i]).1]++ws).toArray e R (fun v' L'=>v'=.bool (p i)∧R=L')) :
 Ct prog 203 #[v,.func (.func f) us.toArray ws.toArray] e R (fun v' L'=>v'=.bool (decide (∃ i,i<ts.length∧p i=true))∧R=L'):=by
 refine a8 (args:=[_,_]) func203 rfl ntmps203 results203 rfl ?_;refine wB ?_;refine aZ rfl rfl (wo _ e v ts f us ws p hv hl hf) ?_;rintro _ _ ⟨⟨k,rfl,hk⟩,rfl⟩;rcases hk with ⟨rfl,hk⟩|⟨j,rfl,hj,hp,_⟩
 ·rw [aq (fun ⟨i,h1,h2⟩=>by rw [hk i h1] at h2;cases h2)];refine wB ?_;exact aY R rfl aX ⟨rfl,rfl⟩
 ·rw [ay ⟨j,hj,hp⟩];refine wB ?_;exact aY R rfl aX ⟨rfl,rfl⟩
theorem pI (v:Value) (seed:List UInt8) (hv:db R v seed) (hs:seed.length≤1000) :
 Ct prog 143 #[v] e R (fun v' L'=>∃ ad c ts,v'=.slice ad ts.length c∧ts.map (·.2)=eW seed∧L'=cU (.slice ad ts.length c) ts::cH ts::R):=by
 refine a8 (args:=[_]) func143 rfl ntmps143 results143 rfl ?_;refine wB ?_;refine bq (ι:=Nat × List ej × Option Addr × Nat) (fun i=>[(0,v),(3,.slice i.2.2.1 i.2.1.length i.2.2.2),(5,.int .i64 (i.1:Int))]) (fun i=>cU (.slice i.2.2.1 i.2.1.length i.2.2.2) i.2.1::cH i.2.1::R) (fun i=>i.1≤16∧i.2.1.map (·.2)=(List.range i.1).map (iz seed)) (fun i=>16 - i.1) (0,[],none,0) ⟨by omega,rfl⟩ zS (cj dL (du ez 1)) ?_;rintro ⟨i,ts,ad,c⟩ ⟨hi,fy⟩;dsimp only at hi fy ⊢
 have Em:ts.length=i:=by simpa using congrArg List.length fy
 by_cases cO:i<16
 rotate_left
 ·have JT:i=16:=by omega
  subst JT;refine wB ?_;exact aY _ rfl aX ⟨ad,c,ts,rfl,fy,rfl⟩
 have kx:∀ (w:Value),(ts++[(w,iz seed i)]).map (·.2)=(List.range (i+1)).map (iz seed):=fun w=>by
  rw [ah,fy,List.range_succ,ah]
  rfl
 have Vs:=xc (cU (.slice ad ts.length c) ts::cH ts::R) e v seed i hv.tail.tail hs cO
 generalize iz seed i=b at *
 refine wB ?_;refine aZ rfl rfl Vs ?_;rintro _ _ ⟨eI,c3,rfl,rfl⟩
 (repeat (refine wA ?_;intros))
 refine bC (bo rfl rfl rfl (.succ (.succ .zero)) (bB .zero rfl zl) rfl rfl zO zm zo fun jB c4 _=>?_)
 refine wB ?_;refine bi (i+1,ts++[(.slice eI b.length c3,b)],jB,c4) ⟨cO,kx _⟩ zd ?_ ?_
 ·dsimp only;rw [aa,aj];exact zS
 ·exact cj (show cz _ (dJ ez 1 (.slice jB (ts.length+1) c4) (ts.length+1) (ts.map (·.1)++[.slice eI b.length c3])::cR (.slice eI b.length c3) b::cH ts::R) from zE) gh
theorem fa {ts:List ej} {i:Nat} (h:i<ts.length):(ts.map (·.2)).getD i []=(ts[i]'h).2:=by
 rw [aA,aL,ae h];rfl
theorem yl (v:Value) (ts:List ej) (hv:cE R 1 v ts.length (ts.map (·.1))) (ht:dP R ts) (jN:∀ a∈ts,a.2.length=32) (hl:ts.length≤16) :
 Ct prog 144 #[v] e R (fun v' L'=>∃ ad c us,v'=.slice ad us.length c∧us.map (·.2)=iQ (ts.map (·.2))∧L'=cU (.slice ad us.length c) us::cH us::R):=by
 refine a7 (hv.shape zo) ?_;rintro ⟨⟨wm,cap,rfl,h3,h4,h5,h6⟩,_⟩;simp only [maxLen] at h4
 have rL:=iL (ts.map (·.2));rw [ab] at rL
 refine a8 (args:=[_]) func144 rfl ntmps144 results144 rfl ?_;refine wB ?_;refine bq (ι:=Nat × List ej × Option Addr × Nat) (fun i=>[(0,.slice wm ts.length cap),(3,.slice i.2.2.1 i.2.1.length i.2.2.2),(4,.int .i64 (2*(i.1:Int)))]) (fun i=>cU (.slice i.2.2.1 i.2.1.length i.2.2.2) i.2.1::cH i.2.1::R) (fun i=>2*i.1≤ts.length∧i.2.1.map (·.2)=(iQ (ts.map (·.2))).take i.1) (fun i=>ts.length - i.1) (0,[],none,0) ⟨by omega,by simp⟩ zS (cj dL (du ez 1)) ?_;rintro ⟨i,us,ad,c⟩ ⟨hi,hJ⟩;dsimp only at hi hJ ⊢
 have Em:us.length=i:=by have:=congrArg List.length hJ;rw [ab,aF] at this;omega
 by_cases cO:2*i+1<ts.length
 rotate_left
 ·rw [aG zo] at hJ
  refine wB ?_;exact aY _ rfl aX ⟨ad,c,us,rfl,hJ,rfl⟩
 have ha:=sn (ts.map (·.2)) i (by rw [ab];exact cO);rw [fa (show 2*i<ts.length by omega),fa cO] at ha
 have kx:∀ (w:Value) (b:List UInt8),b=(iQ (ts.map (·.2))).getD i []→(us++[(w,b)]).map (·.2)=(iQ (ts.map (·.2))).take (i+1):=fun w b h=>by
  rw [ah,hJ,aD zo,h]
  congr 1
  rw [aA,ae zo]
  rfl
 rcases h6 with h6|⟨gl,ol,rfl⟩
 ·omega
 have TZ:Rd R ⟨gl,ol+2*i,none⟩ (ts[2*i]'zo).1:=hv.elem (by rw [aL,ae zo];rfl);have ON:Rd R ⟨gl,ol+(2*i+1),none⟩ (ts[2*i+1]'cO).1:=hv.elem (by rw [aL,ae cO];rfl);have OX:=ht _ (az (show 2*i<ts.length by omega));have Oe:=ht _ (az cO);have hz0:=jN _ (az (show 2*i<ts.length by omega));have Rp:=jN _ (az cO)
 generalize ts[2*i]'zo=y0 at *
 generalize ts[2*i+1]'cO=y1 at *
 obtain ⟨v0,b0⟩:=y0;obtain ⟨v1,b1⟩:=y1;dsimp only at TZ ON OX Oe hz0 Rp ha
 refine W.cB (cn OX.tail.tail) fun ho0=>?_
 refine W.cB (cn Oe.tail.tail) fun Xn=>?_
 rw [show (2*(i:Int))=((2*i:Nat):Int) by omega];refine wB ?_;refine bk (id:=5) [14] (cH us::R) mixed ?_
 (refine tM 0 ?_;refine tM 1 ?_;refine tM 2 ?_;refine tk 3 _ rfl (cD.ix rfl rfl zo) ?_;refine tL 4 ?_;refine tM 5 ?_;refine tM 6 ?_;refine tk 7 _ rfl (cD.kP rfl rfl zo) ?_;refine tk 8 _ rfl (cD.ix rfl rfl zo) ?_;refine tL 9 ?_)
 refine tO 10 ?_;refine bE (n:=1) (z:=nY) (cs:=[v0,v1]) rfl rfl rfl rfl (.one (eQ ho0) rfl (.one (eQ Xn) rfl .nil)) rfl (fun gb=>⟨fun _=>zE,?_⟩);refine tO 11 ?_
 refine bg rfl rfl (fe _ e 14 _ [(v0,b0),(v1,b1)] (bB .zero rfl zl) (fun a ha=>by
  simp only [aQ,aP,or_false] at ha
  rcases ha with rfl|rfl
  ·exact OX.tail.tail.tail
  ·exact Oe.tail.tail.tail) (fun a ha=>by
  simp only [aQ,aP,or_false] at ha
  rcases ha with rfl|rfl
  ·dsimp only;omega
  ·dsimp only;omega) (by simp)) ?_
 rintro _ _ ⟨eI,c3,rfl,rfl⟩;rw [show ei 14 ([(v0,b0),(v1,b1)].map (·.2))=ei 14 [b0,b1] from rfl,← ha]
 generalize (iQ (ts.map (·.2))).getD i []=b at *
 refine ⟨fun _=>zE,?_⟩;refine tO 12 ?_;refine bE (n:=1) (z:=nY) (cs:=[.slice eI b.length c3]) rfl rfl rfl rfl (.one rfl rfl .nil) rfl (fun gc=>⟨fun _=>zE,?_⟩);refine tO 13 ?_;refine bo rfl rfl rfl (.succ (.succ (.succ .zero))) (bB .zero rfl zl) rfl rfl zO zm zo fun jB c4 _=>⟨fun _=>zE,?_⟩
 ((refine tO 14 ?_;refine dV (bj rfl) ?_))
 refine bf zK ?_;refine wB ?_;refine bi (i+1,us++[(.slice eI b.length c3,b)],jB,c4) ⟨by dsimp only;omega,kx _ _ rfl⟩ zd ?_ ?_
 ·dsimp only;rw [aa,aj,show (2*((i+1:Nat):Int))=((2*i:Nat):Int)+2 by omega];exact zS
 ·exact cj (show cz _ (dJ ez 1 (.slice jB (us.length+1) c4) (us.length+1) (us.map (·.1)++[.slice eI b.length c3])::cR (.slice eI b.length c3) b::cH us::R) from zE) gh
theorem l9 (v:Value) (seed:List UInt8) (hv:db R v seed) (hs:seed.length=32) :
 Ct prog 67 #[v] e R (fun v' L'=>∃ M:cJ,L'=M::R∧db [M] v' (kM seed)):=by
 refine a7 (cE.shape hv zo) ?_;rintro ⟨⟨wm,cap,rfl,_,_,_,_⟩,_⟩;refine a8 (args:=[_]) func67 rfl ntmps67 results67 rfl ?_;refine wB ?_;refine aZ rfl rfl (pI _ e _ seed hv zo) ?_;rintro _ _ ⟨ad,c,ts,rfl,fy,rfl⟩;have DV:=mJ (kv seed);have Mr:=qW (nc (seed:=seed));refine wB ?_;refine bq (ι:=Nat × List ej × Option Addr × Nat) (fun i=>[(3,.slice i.2.2.1 i.2.1.length i.2.2.2),(9,.int .i64 (i.1:Int))]) (fun i=>cU (.slice i.2.2.1 i.2.1.length i.2.2.2) i.2.1::cH i.2.1::R) (fun i=>i.1≤4∧i.2.1.map (·.2)=pO (eW seed) i.1) (fun i=>4 - i.1) (0,ts,ad,c) ⟨by omega,fy⟩ zS aX ?_;clear fy;rintro ⟨i,us,dW,c2⟩ ⟨hi,hJ⟩;dsimp only at hi hJ ⊢
 have LD:us.length=2 ^ (4 - i):=by have:=congrArg List.length hJ;rw [ab,DV i hi] at this;exact this
 have aah:us.length≤16:=by rw [LD];exact Nat.le_trans (Nat.pow_le_pow_right zo (show 4 - i≤4 by omega)) (by decide)
 by_cases cO:i<4
 ·refine wB ?_;refine aZ rfl rfl (yl _ e _ us (bb .zero) (dP.tail eF) (oR hJ (Mr i)) aah) ?_;rintro _ _ ⟨eI,c3,ws,rfl,LC,rfl⟩;refine wB ?_;exact bi (i+1,ws,eI,c3) ⟨cO,by dsimp only;rw [LC,hJ];rfl⟩ zd zS zE
 have JT:i=4:=by omega
 subst JT;have h1:us.length=1:=LD;refine W.cB (DZ .zero zo) ?_;rintro ⟨p,rfl⟩;have h0:0<us.length:=by omega
 have hr:Rd (cU (.slice (some ⟨p,0,none⟩) us.length c2) us::cH us::R) ⟨p,0,none⟩ (us[0]'h0).1:=by
  have:=(bb (L:=cU (.slice (some ⟨p,0,none⟩) us.length c2) us::cH us::R) .zero).elem (j:=0) (u:=(us[0]'h0).1) (by rw [aL,ae h0];rfl);exact this
 have si:db [cH us] (us[0]'h0).1 (us[0]'h0).2:=eF _ (az h0);have Cp:(us[0]'h0).2=kM seed:=by rw [← fa h0,hJ];rfl
 rw [Cp] at si
 generalize (us[0]'h0).1=w at *
 refine wB ?_;exact aY (cH us::R) rfl zE ⟨cH us,rfl,si⟩
end Go.Proofs
namespace Go.Bs
def iG (l:List (List UInt8)) (i:Nat):List (List UInt8) :=
 if h:2≤l.length then
  if i<cN l.length then iG (l.take (cN l.length)) i++[ea (l.drop (cN l.length))]
  else iG (l.drop (cN l.length)) (i - cN l.length)++[ea (l.take (cN l.length))]
 else []
 termination_by l.length
 decreasing_by
 ·have:=dz h;rw [aF];omega
 ·have:=dz h;rw [aO];omega
def jk (n i:Nat):Nat :=
 if h:2≤n then
  if i<cN n then jk (cN n) i+1 else jk (n - cN n) (i - cN n)+1
 else 0
 termination_by n
 decreasing_by
 ·have:=dz h;omega
 ·have:=dz h;omega
def lB (p:List (List UInt8)):List UInt8:=p.getLast?.getD []
def lC (n i:Nat) (p:List (List UInt8)) (x:List UInt8):List UInt8 :=
 if h:2≤n then
  if i<cN n then eG (lC (cN n) i p.dropLast x) (lB p) else eG (lB p) (lC (n - cN n) (i - cN n) p.dropLast x)
 else x
 termination_by n
 decreasing_by
 ·have:=dz h;omega
 ·have:=dz h;omega
theorem so {l:List (List UInt8)} {i:Nat} (h:¬ 2≤l.length):iG l i=[]:=by rw [iG,dif_neg h]
theorem tV {l:List (List UInt8)} {i:Nat} (h:2≤l.length) (hi:i<cN l.length):iG l i=iG (l.take (cN l.length)) i++[ea (l.drop (cN l.length))]:=by rw [iG,dif_pos h,aI hi]
theorem tW {l:List (List UInt8)} {i:Nat} (h:2≤l.length) (hi:¬ i<cN l.length):iG l i=iG (l.drop (cN l.length)) (i - cN l.length)++[ea (l.take (cN l.length))]:=by rw [iG,dif_pos h,aB hi]
theorem oS {n i:Nat} (h:¬ 2≤n):jk n i=0:=by rw [jk,dif_neg h]
theorem ym {n i:Nat} (h:2≤n) (hi:i<cN n):jk n i=jk (cN n) i+1:=by rw [jk,dif_pos h,aI hi]
theorem yn {n i:Nat} (h:2≤n) (hi:¬ i<cN n):jk n i=jk (n - cN n) (i - cN n)+1:=by rw [jk,dif_pos h,aB hi]
theorem sq {n i:Nat} {p:List (List UInt8)} {x:List UInt8} (h:¬ 2≤n):lC n i p x=x:=by rw [lC,dif_neg h]
theorem En {n i:Nat} {p:List (List UInt8)} {x:List UInt8} (h:2≤n) (hi:i<cN n):lC n i p x=eG (lC (cN n) i p.dropLast x) (lB p):=by rw [lC,dif_pos h,aI hi]
theorem Eo {n i:Nat} {p:List (List UInt8)} {x:List UInt8} (h:2≤n) (hi:¬ i<cN n):lC n i p x=eG (lB p) (lC (n - cN n) (i - cN n) p.dropLast x):=by rw [lC,dif_pos h,aB hi]
theorem mM (p:List (List UInt8)) (a:List UInt8):lB (p++[a])=a:=by simp [lB]
theorem oT:∀ (n:Nat) (l:List (List UInt8)) (i:Nat),l.length=n→(iG l i).length=jk l.length i:=by
 intro n
 induction n using Nat.strongRecOn with
 | ind n ih =>
  intro l i hn
  by_cases h:2≤l.length
  ·have hs:=dz h
   by_cases hi:i<cN l.length
   ·have e1:(l.take (cN l.length)).length=cN l.length:=by rw [aF];omega
    rw [tV h hi,ym h hi,aa,aj,ih _ (by omega) _ i e1,e1]
   ·have e1:(l.drop (cN l.length)).length=l.length - cN l.length:=aO;rw [tW h hi,yn h hi,aa,aj,ih _ (by omega) _ _ e1,e1]
  ·rw [so h,oS h];rfl
theorem GQ:∀ (n:Nat) (l:List (List UInt8)) (i:Nat) (x:List UInt8),l.length=n→i<l.length→lC l.length i (iG l i) x=ea (l.set i x):=by
 intro n
 induction n using Nat.strongRecOn with
 | ind n ih =>
  intro l i x hn Ah
  by_cases h:2≤l.length
  ·have hs:=dz h;have rI:=jT (l:=l.set i x) (by rw [List.length_set];exact h);rw [List.length_set] at rI
   by_cases hi:i<cN l.length
   ·have e1:(l.take (cN l.length)).length=cN l.length:=by rw [aF];omega
    have e2:=ih _ (by omega) (l.take (cN l.length)) i x e1 (by omega);rw [e1] at e2
    rw [En h hi,tV h hi,mM,List.dropLast_concat,e2,rI,List.take_set,List.drop_set_of_lt hi]
   ·have e1:(l.drop (cN l.length)).length=l.length - cN l.length:=aO;have e2:=ih _ (by omega) (l.drop (cN l.length)) (i - cN l.length) x e1 (by omega);rw [e1] at e2
    rw [Eo h hi,tW h hi,mM,List.dropLast_concat,e2,rI,List.take_set_of_le (by omega),List.drop_set];rw [aB hi]
  ·rw [sq h]
   match l,h,Ah with
   | [a],_,Ah =>
    obtain rfl:i=0:=by simp at Ah;omega
    rw [List.set_cons_zero,nR]
   | [],_,Ah=>simp at Ah
   | _::_::_,h,_=>simp at h
theorem gH {l:List (List UInt8)} (h:∀ a∈l,a.length=32):(ea l).length=32:=by
 match l,h with
 | [],_=>rw [kY,jS]
 | [a],h=>rw [nR];exact h a (an.2 rfl)
 | a::b::r,_=>rw [jT (by simp)];exact df _ _
theorem GR:∀ (n:Nat) (l:List (List UInt8)) (i:Nat),l.length=n→(∀ a∈l,a.length=32)→∀ a∈iG l i,a.length=32:=by
 intro n
 induction n using Nat.strongRecOn with
 | ind n ih =>
  intro l i hn hh a ha
  by_cases h:2≤l.length
  ·have hs:=dz h
   by_cases hi:i<cN l.length
   ·rw [tV h hi] at ha
    rcases aJ.1 ha with q|q
    ·exact ih _ (by rw [aF];omega) _ i rfl (fun b hb=>hh b (aR hb)) a q
    ·rw [an.1 q];exact gH fun b hb=>hh b (aV hb)
   ·rw [tW h hi] at ha
    rcases aJ.1 ha with q|q
    ·exact ih _ (by rw [aO];omega) _ _ rfl (fun b hb=>hh b (aV hb)) a q
    ·rw [an.1 q];exact gH fun b hb=>hh b (aR hb)
  ·rw [so h] at ha;cases ha
theorem wu {n t:Nat} (h:n≤2 ^ (t+1)) (h2:2≤n):cN n≤2 ^ t:=by
 unfold cN;rw [aB (by omega)];refine Nat.pow_le_pow_right (by omega) ?_;have:(n - 1).log2<t+1:=(Nat.log2_lt (by omega)).2 (by omega)
 omega
theorem qk:∀ (t n i:Nat),n≤2 ^ t→jk n i≤t
 | 0,n,i,h=>by rw [oS (by rw [Nat.pow_zero] at h;omega)];exact aS _
 | t+1,n,i,h=>by
  by_cases h2:2≤n
  ·have hs:=dz h2;have hh:=wu h h2
   by_cases hi:i<cN n
   ·rw [ym h2 hi];have:=qk t _ i hh;omega
   ·rw [yn h2 hi];have:=qk t (n - cN n) (i - cN n) (by omega);omega
  ·rw [oS h2];omega
end Go.Bs
namespace Go.Proofs
attribute [local irreducible] Bs.cD Bs.Do Bs.O Bs.W Bs.Fin Bs.A Bs.Ct Bs.cE Bs.Rd Bs.Sat Bs.cK Bs.Ob Bs.dJ Bs.View Bs.cz Bs.Ex Bs.dH Bs.Pu Bs.eY Bs.dM Bs.dZ
open Go.Bs
open Tryz
variable (R:List cJ) (e:World)
theorem JY:∀ (n:Nat) (R:List cJ) (e:World) (v:Value) (ts:List ej) (i:Nat),ts.length=n→cE R 1 v ts.length (ts.map (·.1))→dP R ts→(∀ a∈ts,a.2.length≤1000000)→ts.length≤1000000→i≤1000000 →
 Ct prog 157 #[v,.int .i64 (i:Int)] e R (fun v' L'=>∃ ad c out,v'=.slice ad out.length c∧out.map (·.2)=iG (ts.map (·.2)) i∧L'=cU (.slice ad out.length c) out::cH out::R):=by
 intro n
 induction n using Nat.strongRecOn with
 | _ n ih =>
 intro R e v ts i hn hv ht hb hl hi0;refine a7 (hv.shape zo) ?_;rintro ⟨⟨ad,cap,rfl,h3,h4,h5,h6⟩,_⟩;simp only [maxLen] at h4
 refine a8 (args:=[_,_]) func157 rfl ntmps157 results157 rfl ?_;refine wB ?_;refine aZ rfl rfl (mI R e ts.length zo) ?_;rintro _ _ ⟨rfl,rfl⟩;rw [kX]
 by_cases h2:2≤ts.length
 rotate_left
 ·have h0:cN ts.length=0:=by unfold cN;rw [aI zo]
  rw [h0];refine wB ?_;exact aY (cU nY []::cH []::R) rfl (cj dL (du _ _)) ⟨none,0,[],rfl,by rw [so (by rw [ab];exact h2)];rfl,rfl⟩
 have hs:=dz h2;have vy:=fun h=>tV (l:=ts.map (·.2)) (i:=i) (by rw [ab];exact h2) h
 have JZ:=fun h=>tW (l:=ts.map (·.2)) (i:=i) (by rw [ab];exact h2) h
 rw [ab,← List.map_take,← List.map_drop] at vy JZ
 have Ee:=kZ hv (k:=cN ts.length) zo;have Cm:=vz hv (k:=cN ts.length) zo
 generalize cN ts.length=k at *
 have QD:(ts.take k).length=k:=by rw [aF];omega
 have Ef:(ts.drop k).length=ts.length - k:=aO
 by_cases wv:i<k
 ·refine wB ?_;refine bz (id:=5) [11] mixed ?_
  (refine tM 0 ?_;refine tM 1 ?_;refine tk 2 _ rfl (cD.iU rfl rfl zo zo) ?_;refine tM 3 ?_;refine tM 5 ?_;refine tM 6 ?_;refine tk 7 _ rfl (cD.ll rfl rfl zo zo) ?_)
  refine tO 4 ?_;refine bg rfl rfl (ih k zo R e _ (ts.take k) i QD Ee (jM ht fun x hx=>aR hx) (fun a ha=>hb a (aR ha)) zo hi0) ?_;rintro _ _ ⟨ef,c1,out,rfl,ho,rfl⟩
  have Em:out.length≤1000000:=by
   have h7:=congrArg List.length ho;rw [ab,oT _ _ _ rfl] at h7
   have:=qk 20 (ts.take k).length i zo;rw [ab] at h7
   omega
  refine ⟨fun _=>zE,?_⟩;refine tO 8 ?_;refine bg rfl rfl (j3 (ts.length - k) _ e _ (ts.drop k) Ef Cm.tail.tail (dP.tail (dP.tail (jM ht fun x hx=>aV hx))) (fun a ha=>hb a (aV ha)) zo) ?_;rintro _ _ ⟨dW,c2,rfl,rfl⟩;refine ⟨fun _=>zE,?_⟩
  generalize rI:ea ((ts.drop k).map (·.2))=rt at *
  refine tO 9 ?_;refine bE (n:=1) rfl rfl rfl rfl zQ rfl (fun g2=>⟨fun _=>zE,?_⟩);refine tO 10 ?_;refine bo rfl rfl rfl (.succ (.succ .zero)) (bO (n:=1) (c:=1) .zero rfl zl) rfl rfl zO zm zo fun eI c3 _=>⟨fun _=>zE,?_⟩
  ((refine tO 11 ?_;refine dV (bj rfl) ?_))
  refine bf zK ?_;refine wB ?_;refine aY (cU (.slice eI (out++[((Value.slice dW rt.length c2,rt):ej)]).length c3) (out++[((Value.slice dW rt.length c2,rt):ej)])::cH (out++[((Value.slice dW rt.length c2,rt):ej)])::R) rfl (cj zE gh) ⟨eI,c3,out++[((Value.slice dW rt.length c2,rt):ej)],by rw [aa,aj];rfl,by rw [ah,ho,vy wv];rfl,rfl⟩
 ·refine wB ?_;refine bz (id:=6) [13] mixed ?_
  (refine tM 0 ?_;refine tM 1 ?_;refine tk 2 _ rfl (cD.ll rfl rfl zo zo) ?_;refine tM 3 ?_;refine tM 4 ?_;refine tk 5 _ rfl (cD.jA rfl rfl zo) ?_;refine tM 7 ?_;refine tM 8 ?_;refine tk 9 _ rfl (cD.iU rfl rfl zo zo) ?_)
  rw [show ((i:Nat):Int) - ((k:Nat):Int)=((i - k:Nat):Int) by omega];refine tO 6 ?_;refine bg rfl rfl (ih (ts.length - k) zo R e _ (ts.drop k) (i - k) Ef Cm (jM ht fun x hx=>aV hx) (fun a ha=>hb a (aV ha)) zo zo) ?_;rintro _ _ ⟨ef,c1,out,rfl,ho,rfl⟩
  have Em:out.length≤1000000:=by
   have h7:=congrArg List.length ho;rw [ab,oT _ _ _ rfl] at h7
   have:=qk 20 (ts.drop k).length (i - k) zo;rw [ab] at h7
   omega
  refine ⟨fun _=>zE,?_⟩;refine tO 10 ?_;refine bg rfl rfl (j3 k _ e _ (ts.take k) QD Ee.tail.tail (dP.tail (dP.tail (jM ht fun x hx=>aR hx))) (fun a ha=>hb a (aR ha)) zo) ?_;rintro _ _ ⟨dW,c2,rfl,rfl⟩;refine ⟨fun _=>zE,?_⟩
  generalize rI:ea ((ts.take k).map (·.2))=rt at *
  refine tO 11 ?_;refine bE (n:=1) rfl rfl rfl rfl zQ rfl (fun g2=>⟨fun _=>zE,?_⟩);refine tO 12 ?_;refine bo rfl rfl rfl (.succ (.succ .zero)) (bO (n:=1) (c:=1) .zero rfl zl) rfl rfl zO zm zo fun eI c3 _=>⟨fun _=>zE,?_⟩
  ((refine tO 13 ?_;refine dV (bj rfl) ?_))
  refine bf zK ?_;refine wB ?_;refine aY (cU (.slice eI (out++[((Value.slice dW rt.length c2,rt):ej)]).length c3) (out++[((Value.slice dW rt.length c2,rt):ej)])::cH (out++[((Value.slice dW rt.length c2,rt):ej)])::R) rfl (cj zE gh) ⟨eI,c3,out++[((Value.slice dW rt.length c2,rt):ej)],by rw [aa,aj];rfl,by rw [ah,ho,JZ wv];rfl,rfl⟩
theorem Cq (v:Value) (ts:List ej) (n:Int) (hn:-9223372036854775808≤n∧n≤9223372036854775807) (hv:cE R 1 v ts.length (ts.map (·.1))) (ht:dP R ts) (hb:∀ a∈ts,a.2.length≤1000000) (hl:ts.length≤1000000) :
 Ct prog 79 #[v,.int .i64 n] e R (fun v' L' =>
  (¬ (0≤n∧n<ts.length)∧v'=.tuple #[.agg #[.int .i64 0,.int .i64 0,nY],.int .i64 1]∧R=L') ∨
  (0≤n∧n<ts.length∧∃ ad c out,v'=.tuple #[.agg #[.int .i64 n,.int .i64 (ts.length:Int),.slice ad out.length c],.int .i64 0]∧out.map (·.2)=iG (ts.map (·.2)) n.toNat∧L'=cU (.slice ad out.length c) out::cH out::R)):=by
 refine a7 (hv.shape zo) ?_;rintro ⟨⟨ad,cap,rfl,h3,h4,h5,h6⟩,_⟩;refine bH (args:=[_,_]) func79 rfl ntmps79 results79 rfl ?_
 by_cases j0:0≤n∧n<ts.length
 rotate_left
 ·by_cases h0:n<0
  ·(repeat (refine wA ?_;intros))
   apply br;exact zV;exact ⟨R,zE,.inl ⟨j0,rfl,rfl⟩⟩
  ·(repeat (refine wA ?_;intros))
   apply br;exact zV;exact ⟨R,zE,.inl ⟨j0,rfl,rfl⟩⟩
 obtain ⟨h0,cO⟩:=j0;obtain ⟨m,rfl⟩:=Int.eq_ofNat_of_zero_le h0;rw [Int.toNat_natCast]
 (repeat (refine wA ?_;intros))
 refine aZ rfl rfl (JY ts.length _ e _ ts m rfl hv.tail ht.tail hb hl zo) ?_;rintro _ _ ⟨ef,c1,out,rfl,ho,rfl⟩;refine wB ?_;apply br;exact zV;exact ⟨cU (.slice ef out.length c1) out::cH out::R,zE,.inr ⟨h0,cO,ef,c1,out,rfl,ho,rfl⟩⟩
theorem tX (v:Value) (b:List UInt8) (hv:db R v b) :
 Ct prog 205 #[v] e R (fun v' L'=>v'=.bool (decide (b.length=32))∧R=L'):=by
 refine a7 (cE.shape hv zo) ?_;rintro ⟨⟨ad,cap,rfl,h3,h4,h5,h6⟩,_⟩;refine a8 (args:=[_]) func205 rfl ntmps205 results205 rfl ?_
 by_cases h:b.length=32
 ·rw [ay h];refine wB ?_;exact aY R rfl aX ⟨rfl,rfl⟩
 ·rw [aq h];refine wB ?_;exact aY R rfl aX ⟨rfl,rfl⟩
theorem J0 (v:Value) (b:List UInt8) (hv:db R v b) :
 Ct prog 204 #[v] e R (fun v' L'=>v'=.bool (!decide (b.length=32))∧R=L'):=by
 refine a8 (args:=[_]) func204 rfl ntmps204 results204 rfl ?_;refine wB ?_;refine aZ rfl rfl (tX _ e v b hv) ?_;rintro _ _ ⟨rfl,rfl⟩
 by_cases h:b.length=32
 ·rw [ay h];refine wB ?_;exact aY R rfl aX ⟨rfl,rfl⟩
 ·rw [aq h];refine wB ?_;exact aY R rfl aX ⟨rfl,rfl⟩
theorem GS (v:Value) (ts:List ej) (hv:cE R 1 v ts.length (ts.map (·.1))) (ht:dP R ts) (hl:ts.length≤1000000) :
 Ct prog 264 #[v,.func (.func 204) #[] #[]] e R (fun v' L'=>(∃ k:Int,v'=.int .i64 k∧(0≤k↔¬ ∀ a∈ts,a.2.length=32))∧R=L'):=by
 refine a7 (hv.shape zo) ?_;rintro ⟨⟨ad,cap,rfl,h3,h4,h5,h6⟩,_⟩;refine a8 (args:=[_,_]) func264 rfl ntmps264 results264 rfl ?_;refine wB ?_;refine bq (ι:=Nat) (fun i=>[(0,.slice ad ts.length cap),(1,.func (.func 204) #[] #[]),(7,.int .i64 (ts.length:Int)),(8,.int .i64 (i:Int))]) (fun _=>R) (fun i=>i≤ts.length∧∀ a∈ts.take i,a.2.length=32) (fun i=>ts.length - i) 0 ⟨aH _,fun a ha=>(by cases ha)⟩ (cC rfl (cC rfl (cC rfl (cC rfl dd)))) aX ?_;rintro i ⟨h1,h2⟩
 by_cases cO:i<ts.length
 rotate_left
 ·rw [aG zo] at h2
  refine wB ?_;exact aY R rfl aX ⟨⟨-1,rfl,⟨fun h=>absurd h (by decide),fun h=>absurd h2 h⟩⟩,rfl⟩
 rcases h6 with h6|⟨gl,ol,rfl⟩
 ·omega
 have hr:Rd R ⟨gl,ol+i,none⟩ (ts[i]'cO).1:=hv.elem (by rw [aL,ae cO];rfl);have hm:=az cO;have hx:=ht _ hm;have ft:ts.take (i+1)=ts.take i++[ts[i]'cO]:=aD cO
 generalize ts[i]'cO=y at *
 refine wB ?_;refine O.gD (us:=[]) (ws:=[]) rfl rfl rfl (J0 R e y.1 y.2 hx) ?_;rintro _ _ ⟨rfl,rfl⟩
 by_cases jN:y.2.length=32
 ·rw [ay jN];refine wB ?_;refine bi (i+1) ⟨cO,fun a ha=>?_⟩ zo (cC rfl (cC rfl (cC rfl (cC rfl dd)))) aX;rw [ft] at ha
  rcases aJ.1 ha with q|q
  ·exact h2 a q
  ·rw [an.1 q];exact jN
 ·rw [aq jN];refine wB ?_;exact aY R rfl aX ⟨⟨i,rfl,⟨fun _ h=>jN (h y hm),fun _=>by omega⟩⟩,rfl⟩
theorem Ak (v:Value) (ts:List ej) (hv:cE R 1 v ts.length (ts.map (·.1))) (ht:dP R ts) (hl:ts.length≤1000000) :
 Ct prog 203 #[v,.func (.func 204) #[] #[]] e R (fun v' L'=>v'=.bool (!decide (∀ a∈ts,a.2.length=32))∧R=L'):=by
 refine a8 (args:=[_,_]) func203 rfl ntmps203 results203 rfl ?_;refine wB ?_;refine aZ rfl rfl (GS _ e v ts hv ht hl) ?_;rintro _ _ ⟨⟨k,rfl,hk⟩,rfl⟩
 by_cases h:∀ a∈ts,a.2.length=32
 ·rw [ay h];have:¬ 0≤k:=fun h0=>hk.1 h0 h
  refine wB ?_;exact aY R rfl aX ⟨rfl,rfl⟩
 ·rw [aq h];have:=hk.2 h;refine wB ?_;exact aY R rfl aX ⟨rfl,rfl⟩
def jG (l:List ej):Bool:=decide (l.length≤16∧∀ a∈l,a.2.length=32)
theorem nd (v:Value) (ts:List ej) (hv:cE R 1 v ts.length (ts.map (·.1))) (ht:dP R ts) :
 Ct prog 119 #[v] e R (fun v' L'=>v'=.bool (jG ts)∧R=L'):=by
 refine a7 (hv.shape zo) ?_;rintro ⟨⟨ad,cap,rfl,h3,h4,h5,h6⟩,_⟩;refine a8 (args:=[_]) func119 rfl ntmps119 results119 rfl ?_
 by_cases hl:ts.length≤16
 rotate_left
 ·rw [show jG ts=false from aq fun h=>hl h.1];refine wB ?_;exact aY R rfl aX ⟨rfl,rfl⟩
 refine wB ?_;refine aZ rfl rfl (Ak _ e _ ts hv ht zo) ?_;rintro _ _ ⟨rfl,rfl⟩
 by_cases h:∀ a∈ts,a.2.length=32
 ·rw [ay h,show jG ts=true from ay ⟨hl,h⟩];refine wB ?_;exact aY R rfl aX ⟨rfl,rfl⟩
 ·rw [aq h,show jG ts=false from aq fun q=>h q.2];refine wB ?_;exact aY R rfl aX ⟨rfl,rfl⟩
theorem vB (ad:Option Addr) (cap:Nat) (ts:List ej) (hv:cE R 1 (.slice ad ts.length cap) ts.length (ts.map (·.1))) (hl:ts.length≤1000000) :
 Ct prog 312 #[.slice ad ts.length cap] e R (fun v' L'=>((ts=[]∧v'=.tuple #[nY,nY,.bool false])∨(∃ us a,ts=us++[a]∧v'=.tuple #[.slice ad us.length cap,a.1,.bool true]))∧R=L'):=by
 refine a7 (hv.shape zo) ?_;rintro ⟨⟨lL,Rn,hq,h3,h4,h5,h6⟩,_⟩;obtain ⟨rfl,_,rfl⟩:=Value.slice.inj hq;clear hq;simp only [maxLen] at h4
 refine a8 (args:=[_]) func312 rfl ntmps312 results312 rfl ?_
 obtain rfl|⟨us,a,rfl⟩:ts=[]∨∃ us a,ts=us++[a]:=by
  rcases List.eq_nil_or_concat ts with h|⟨us,a,h⟩
  ·exact .inl h
  ·exact .inr ⟨us,a,by rw [h,List.concat_eq_append]⟩
 ·have e0:((([]:List ej).length:Nat):Int)=0:=rfl;refine wB ?_;exact aY R rfl aX ⟨.inl ⟨rfl,rfl⟩,rfl⟩
 have qh:(us++[a]).length=us.length+1:=by rw [aa,aj]
 rcases h6 with h6|⟨gl,ol,rfl⟩
 ·omega
 have hr:Rd R ⟨gl,ol+us.length,none⟩ a.1:=hv.elem (by simp);have e1:(((us++[a]).length:Nat):Int) - 1=(us.length:Int):=by omega
 refine wB ?_;rw [e1]
 (repeat' first|refine Za ?_|refine Zb ?_|apply Zc|apply Zd|apply Ze|apply Zf|refine Zi ?_|refine Zj ?_|refine Zk ?_|refine ZA ?_|refine ZB ?_|refine ZC (fun _=>?_) fun _=>?_|refine ZU ?_|refine ZV ?_|refine Ym ?_|refine Yr ?_|refine Ys ?_|refine Yt ?_|refine Yw ?_|refine Yx ?_|refine Yy ?_|refine Yz ?_|refine YA ?_|apply YC|apply YE|apply YF|(apply O.dg;exact rfl;exact zP;(first|(simp only [aC,Nat.add_zero,Nat.reduceAdd,List.drop_succ_cons,List.drop_zero,List.take_succ_cons,List.take_zero];done)|(simp only [aC,Nat.add_zero,Nat.reduceAdd,List.drop_succ_cons,List.drop_zero,List.take_succ_cons,List.take_zero];exact rfl));exact rfl;exact rfl))
 refine bz (id:=4) [8,9] mixed ?_
 (refine tM 0 ?_;refine tM 1 ?_;refine tk 2 _ rfl (cD.iU rfl rfl zo zo) ?_;refine tM 3 ?_;refine tM 4 ?_;refine tk 5 _ rfl (cD.ix rfl rfl zo) ?_;refine tL 6 ?_;refine tA 7 ?_;(refine tO 8 ?_;refine dV (bj rfl) ?_);(refine tO 9 ?_;refine dV (bj rfl) ?_))
 refine bf zK ?_;refine wB ?_;exact aY R rfl aX ⟨.inr ⟨us,a,rfl,rfl⟩,rfl⟩
theorem mz (us:List ej) (a:ej):lB ((us++[a]).map (·.2))=a.2:=by rw [ah];exact mM _ _
theorem ma (us:List ej) (a:ej):((us++[a]).map (·.2)).dropLast=us.map (·.2):=by rw [ah];exact List.dropLast_concat
theorem IF {R:List cJ} {ad:Option Addr} {cap:Nat} {us:List ej} {a:ej} (h:cE R 1 (.slice ad (us++[a]).length cap) (us++[a]).length ((us++[a]).map (·.1))):cE R 1 (.slice ad us.length cap) us.length (us.map (·.1)):=by
 have:=kZ h (k:=us.length) (by simp)
 rwa [List.take_left'] at this
 rfl
theorem J1:∀ (m:Nat) (R:List cJ) (e:World) (ad:Option Addr) (cap:Nat) (ts:List ej) (i n:Nat) (v:Value) (b:List UInt8),ts.length=m→cE R 1 (.slice ad ts.length cap) ts.length (ts.map (·.1))→dP R ts→(∀ a∈ts,a.2.length≤1000000)→ts.length≤1000000→n<9223372036854775808→i<9223372036854775808→db R v b→b.length≤1000000 →
 Ct prog 300 #[.slice ad ts.length cap,.int .i64 (i:Int),.int .i64 (n:Int),v] e R (fun v' L'=>∃ lL c t,v'=.tuple #[.slice lL t.length c,.bool (decide (ts.length=jk n i))]∧(ts.length=jk n i→t=lC n i (ts.map (·.2)) b)∧t.length≤1000000∧L'=cR (.slice lL t.length c) t::R):=by
 intro m
 induction m using Nat.strongRecOn with
 | _ m ih =>
 intro R e ad cap ts i n v b hm hv ht lm hl hn hi hb oP;refine a8 (args:=[_,_,_,_]) func300 rfl ntmps300 results300 rfl ?_;refine wB ?_;refine aZ rfl rfl (mI R e n zo) ?_;rintro _ _ ⟨rfl,rfl⟩;rw [kX]
 by_cases h2:2≤n
 rotate_left
 ·have h0:cN n=0:=by unfold cN;rw [aI zo]
  rw [h0];have F7:=oS (i:=i) h2;refine wB ?_;refine aZ rfl rfl (dw _ e _ b hb zo) ?_;rintro _ _ ⟨ef,c1,rfl,rfl⟩
  by_cases u7:ts.length=0
  ·refine wB ?_;exact aY (cR (.slice ef b.length c1) b::R) rfl aX ⟨ef,c1,b,by rw [F7,ay u7];rfl,fun _=>(sq h2).symm,oP,rfl⟩
  ·refine wB ?_;exact aY (cR (.slice ef b.length c1) b::R) rfl aX ⟨ef,c1,b,by rw [F7,aq u7];rfl,fun _=>(sq h2).symm,oP,rfl⟩
 have hs:=dz h2;have vy:=fun h=>ym (i:=i) h2 h
 have JZ:=fun h=>yn (i:=i) h2 h
 have RL:=fun p h=>En (i:=i) (p:=p) (x:=b) h2 h
 have RM:=fun p h=>Eo (i:=i) (p:=p) (x:=b) h2 h
 have Af:0<jk n i:=by
  by_cases h:i<cN n
  ·rw [vy h];omega
  ·rw [JZ h];omega
 generalize cN n=k at *
 refine wB ?_;refine aZ rfl rfl (vB _ e ad cap ts hv hl) ?_;rintro _ _ ⟨⟨rfl,rfl⟩|⟨us,a,rfl,rfl⟩,rfl⟩
 ·refine wB ?_;exact aY (cR nY []::R) rfl (du _ _) ⟨none,0,[],by rw [aq (by simp;omega)];rfl,fun h=>(by simp at h;omega),by simp,rfl⟩
 have qh:(us++[a]).length=us.length+1:=by rw [aa,aj]
 have jx:=IF hv;have Vt:dP R us:=fun x hx=>ht x (aJ.2 (.inl hx))
 have ha:db R a.1 a.2:=ht a (aJ.2 (.inr (an.2 rfl)));have rL:=lm a (aJ.2 (.inr (an.2 rfl)));have Vu:∀ x∈us,x.2.length≤1000000:=fun x hx=>lm x (aJ.2 (.inl hx))
 by_cases wv:i<k
 ·refine wB ?_;refine aZ rfl rfl (ih us.length zo R e ad cap us i k v b rfl jx Vt Vu zo zo hi hb oP) ?_;rintro _ _ ⟨ef,c1,t,rfl,h7,h8,rfl⟩;refine wB ?_;refine aZ rfl rfl (my _ e _ _ _ _ (bb .zero) ha.tail h8 rL) ?_;rintro _ _ ⟨eI,c3,rfl,rfl⟩;refine wB ?_;refine aY (cR (.slice eI (eG t a.2).length c3) (eG t a.2)::R) rfl zE ⟨eI,c3,eG t a.2,?_,fun h=>?_,by rw [eG,df];omega,rfl⟩
  ·rw [qh,vy wv,decide_eq_decide.2 (show us.length=jk k i↔us.length+1=jk k i+1 by omega)];rfl
  ·rw [qh,vy wv] at h
   rw [h7 zo,RL _ wv,ma,mz]
 ·refine wB ?_;rw [show ((i:Nat):Int) - ((k:Nat):Int)=((i - k:Nat):Int) by omega,show ((n:Nat):Int) - ((k:Nat):Int)=((n - k:Nat):Int) by omega];refine aZ rfl rfl (ih us.length zo R e ad cap us (i - k) (n - k) v b rfl jx Vt Vu zo zo zo hb oP) ?_;rintro _ _ ⟨ef,c1,t,rfl,h7,h8,rfl⟩;refine wB ?_;refine aZ rfl rfl (my _ e _ _ _ _ ha.tail (bb .zero) rL h8) ?_;rintro _ _ ⟨eI,c3,rfl,rfl⟩;refine wB ?_;refine aY (cR (.slice eI (eG a.2 t).length c3) (eG a.2 t)::R) rfl zE ⟨eI,c3,eG a.2 t,?_,fun h=>?_,by rw [eG,df];omega,rfl⟩
  ·rw [qh,JZ wv,decide_eq_decide.2 (show us.length=jk (n - k) (i - k)↔us.length+1=jk (n - k) (i - k)+1 by omega)];rfl
  ·rw [qh,JZ wv] at h
   rw [h7 zo,RM _ wv,ma,mz]
def ql (idx size:Int) (ts:List ej) (b:List UInt8):Prop:=jG ts=true∧b.length=32∧0≤idx∧idx<size∧ts.length=jk size.toNat idx.toNat
instance (idx size:Int) (ts:List ej) (b:List UInt8):Decidable (ql idx size ts b):=by unfold ql;infer_instance
abbrev qm (idx size:Int) (ts:List ej) (b:List UInt8):List UInt8:=lC size.toNat idx.toNat (ts.map (·.2)) b
theorem sr {ts:List ej}:jG ts=true↔ts.length≤16∧∀ a∈ts,a.2.length=32:=decide_eq_true_iff
theorem GU (idx size:Int) (vp vb:Value) (ts:List ej) (b:List UInt8) (h1:-9223372036854775808≤idx∧idx≤9223372036854775807) (h2:-9223372036854775808≤size∧size≤9223372036854775807) (hv:cE R 1 vp ts.length (ts.map (·.1))) (ht:dP R ts) (hb:db R vb b) :
 Ct prog 268 #[.agg #[.int .i64 idx,.int .i64 size,vp],vb] e R (fun v' L' =>
  (ql idx size ts b∧∃ ad c,v'=.tuple #[.slice ad (qm idx size ts b).length c,.bool true]∧L'=cR (.slice ad (qm idx size ts b).length c) (qm idx size ts b)::R) ∨
  (¬ ql idx size ts b∧v'=.tuple #[nY,.bool false]∧R=L')):=by
 refine a7 (hv.shape zo) ?_;rintro ⟨⟨ad,cap,rfl,h3,h4,h5,h6⟩,_⟩;refine a8 (args:=[_,_]) func268 rfl ntmps268 results268 rfl ?_
 (repeat (refine wA ?_;intros))
 rename_i g;refine aZ rfl rfl (nd _ e _ ts hv.tail ht.tail) ?_;rintro _ _ ⟨rfl,rfl⟩
 by_cases hr:jG ts=true
 rotate_left
 ·rw [show jG ts=false by simpa using hr];refine wB ?_;exact aY R rfl zE (.inr ⟨fun h=>hr h.1,rfl,rfl⟩)
 rw [hr];obtain ⟨r1,r2⟩:=sr.1 hr;refine wB ?_;refine aZ rfl rfl (tX _ e _ b hb.tail) ?_;rintro _ _ ⟨rfl,rfl⟩
 by_cases jN:b.length=32
 rotate_left
 ·rw [aq jN];refine wB ?_;exact aY R rfl zE (.inr ⟨fun h=>jN h.2.1,rfl,rfl⟩)
 rw [ay jN]
 by_cases h0:0≤idx
 rotate_left
 ·refine wB ?_;exact aY R rfl zE (.inr ⟨fun h=>h0 h.2.2.1,rfl,rfl⟩)
 by_cases cO:idx<size
 rotate_left
 ·refine wB ?_;exact aY R rfl zE (.inr ⟨fun h=>cO h.2.2.2.1,rfl,rfl⟩)
 obtain ⟨i,rfl⟩:=Int.eq_ofNat_of_zero_le h0;obtain ⟨n,rfl⟩:=Int.eq_ofNat_of_zero_le (show 0≤size by omega);refine wB ?_;refine aZ rfl rfl (J1 ts.length _ e ad cap ts i n vb b rfl hv.tail ht.tail (fun a ha=>by have:=r2 a ha;omega) zo zo zo hb.tail zo) ?_;rintro _ _ ⟨ef,c1,t,rfl,h7,h8,rfl⟩
 by_cases F7:ts.length=jk n i
 ·rw [ay F7];have h9:=h7 F7;subst h9;refine wB ?_;exact aY (cR (.slice ef (lC n i (ts.map (·.2)) b).length c1) (lC n i (ts.map (·.2)) b)::R) rfl zE (.inl ⟨⟨hr,jN,h0,cO,F7⟩,ef,c1,rfl,rfl⟩)
 ·rw [aq F7];refine wB ?_;exact aY R rfl zE (.inr ⟨fun h=>F7 h.2.2.2.2,rfl,rfl⟩)
theorem iM (va vb:Value) (a b:List UInt8) (ha:db R va a) (hb:db R vb b) :
 Ct prog 99 #[va,vb] e R (fun v' L'=>v'=.bool (decide (a=b))∧R=L'):=by
 refine a8 (args:=[_,_]) func99 rfl ntmps99 results99 rfl ?_
 have eq:Ct prog 188 #[va,vb] e R (fun v' L'=>v'=.bool (decide (a=b))∧R=L'):=by
  refine a8 (args:=[_,_]) func188 rfl ntmps188 results188 rfl ?_
  by_cases h:a=b
  ·rw [ay h];subst h;refine wB ?_;exact aY R rfl aX ⟨rfl,rfl⟩
  ·rw [aq h];refine wB ?_;exact aY R rfl aX ⟨rfl,rfl⟩
 refine wB ?_;refine aZ rfl rfl eq ?_;rintro _ _ ⟨rfl,rfl⟩;refine wB ?_;exact aY R rfl aX ⟨rfl,rfl⟩
theorem GV (idx size:Int) (vp vb vr:Value) (ts:List ej) (b r:List UInt8) (h1:-9223372036854775808≤idx∧idx≤9223372036854775807) (h2:-9223372036854775808≤size∧size≤9223372036854775807) (hv:cE R 1 vp ts.length (ts.map (·.1))) (ht:dP R ts) (hb:db R vb b) (hr:db R vr r) :
 Ct prog 214 #[.agg #[.int .i64 idx,.int .i64 size,vp],vb,vr] e R (fun v' L'=>v'=.bool (decide (ql idx size ts b∧qm idx size ts b=r))∧R=L'):=by
 refine a7 (hv.shape zo) ?_;rintro ⟨⟨ad,cap,rfl,h3,h4,h5,h6⟩,_⟩;refine a8 (args:=[_,_,_]) func214 rfl ntmps214 results214 rfl ?_
 (repeat (refine wA ?_;intros))
 rename_i g;refine aZ rfl rfl (GU _ e idx size _ vb ts b h1 h2 hv.tail ht.tail hb.tail) ?_;rintro _ _ (⟨j0,ef,c1,rfl,rfl⟩|⟨j0,rfl,rfl⟩)
 ·refine wB ?_;refine aZ rfl rfl (iM _ e _ _ _ _ (bb .zero) hr.tail.tail) ?_;rintro _ _ ⟨rfl,rfl⟩
  by_cases h:qm idx size ts b=r
  ·rw [ay h,ay ⟨j0,h⟩];refine wB ?_;exact aY R rfl zE ⟨rfl,rfl⟩
  ·rw [aq h,aq fun q=>h q.2];refine wB ?_;exact aY R rfl zE ⟨rfl,rfl⟩
 ·rw [aq fun q=>j0 q.1];refine wB ?_;exact aY R rfl zE ⟨rfl,rfl⟩
def Ep (bs:List (List UInt8)) (n:Nat):Prop:=bs.length=n∧∀ a∈bs,a.length=32
instance (bs:List (List UInt8)) (n:Nat):Decidable (Ep bs n):=by unfold Ep;infer_instance
theorem Cr (v:Value) (b:List UInt8) (hv:db R v b) :
 Ct prog 311 #[v] e R (fun v' L'=>v'=.bool (!decide (b.length=32))∧R=L'):=by
 refine a7 (cE.shape hv zo) ?_;rintro ⟨⟨ad,cap,rfl,h3,h4,h5,h6⟩,_⟩;refine a8 (args:=[_]) func311 rfl ntmps311 results311 rfl ?_
 by_cases h:b.length=32
 ·rw [ay h];refine wB ?_;exact aY R rfl aX ⟨rfl,rfl⟩
 ·rw [aq h];refine wB ?_;exact aY R rfl aX ⟨rfl,rfl⟩
theorem wy (v:Value) (bs:List (List UInt8)) (n:Nat) (hv:mL R v bs) (hl:bs.length≤1000000) (hn:n≤1000000) :
 Ct prog 292 #[v,.int .i64 (n:Int)] e R (fun v' L'=>v'=.bool (decide (Ep bs n))∧R=L'):=by
 obtain ⟨ts,rfl,hv,ht⟩:=hv;rw [ab] at hl
 refine a7 (hv.shape zo) ?_;rintro ⟨⟨ad,cap,rfl,h3,h4,h5,h6⟩,_⟩;refine a8 (args:=[_,_]) func292 rfl ntmps292 results292 rfl ?_
 by_cases h:ts.length=n
 rotate_left
 ·rw [aq (fun q:Ep _ _=>h (by simpa using q.1))];refine wB ?_;exact aY R rfl aX ⟨rfl,rfl⟩
 refine wB ?_;refine aZ rfl rfl (qj R e _ ts 311 [] [] (fun i=>!decide (((ts.map (·.2)).getD i []).length=32)) hv hl (fun i hi=>?_)) ?_
 ·rw [fa hi];exact Cr R e _ _ (ht _ (az hi))
 rintro _ _ ⟨rfl,rfl⟩
 by_cases h2:∀ a∈ts.map (·.2),a.length=32
 ·rw [ay (show Ep _ _ from ⟨by rw [ab];exact h,h2⟩),aq (fun ⟨i,q1,q2⟩=>by rw [fa q1] at q2;simp [h2 _ (aE.2 ⟨_,az q1,rfl⟩)] at q2)];refine wB ?_;exact aY R rfl aX ⟨rfl,rfl⟩
 ·rw [aq (fun q:Ep _ _=>h2 q.2),ay (by
   refine Classical.byContradiction fun lU=>h2 fun a ha=>?_
   obtain ⟨x,hx,rfl⟩:=aE.1 ha;obtain ⟨i,hi,rfl⟩:=List.mem_iff_getElem.1 hx;refine Classical.byContradiction fun hl=>lU ⟨i,hi,?_⟩
   rw [fa hi,aq hl];rfl)]
  refine wB ?_;exact aY R rfl aX ⟨rfl,rfl⟩
abbrev yo (s:wZ) (vp vq:Value):List Value:=[.int .i64 (s.idx:Int),vp,vq]
structure fL (L:List cJ) (vp vq:Value) (s:wZ):Prop where
 parts:mL L vp s.parts
 path:mL L vq s.path
 small:s.idx<4294967296∧s.parts.length≤1000000∧s.path.length≤1000000
theorem fL.cL {L L':List cJ} {vp vq:Value} {s:wZ} (h:fL L' vp vq s) (f:cz L L'):fL L vp vq s:=⟨h.parts.cL f,h.path.cL f,h.small⟩
theorem fL.tail {A:cJ} {L:List cJ} {vp vq:Value} {s:wZ} (h:fL L vp vq s):fL (A::L) vp vq s:=h.cL (cz.drop aX)
theorem qn (vp vq:Value) (s:wZ) (hs:fL R vp vq s) :
 Ct prog 257 #[.agg (yo s vp vq).toArray] e R (fun v' L'=>v'=.bool (decide s.right)∧R=L'):=by
 obtain ⟨h1,h2,h3,h4,h5⟩:=hs;refine a7 h1.one fun o1=>?_
 refine a7 h2.one fun o2=>?_
 refine a8 (args:=[_]) func257 rfl ntmps257 results257 rfl ?_
 by_cases hi:s.idx<16
 rotate_left
 ·rw [aq (fun q:s.right=>hi q.1)]
  (repeat (refine wA ?_;intros))
  exact aY R rfl zE ⟨rfl,rfl⟩
 (repeat (refine wA ?_;intros))
 refine aZ rfl rfl (wy _ e vp s.parts 64 h1.tail h4 zo) ?_;rintro _ _ ⟨rfl,rfl⟩
 by_cases ha:Ep s.parts 64
 rotate_left
 ·rw [aq ha,aq (fun q:s.right=>ha ⟨q.2.1,q.2.2.1⟩)];refine wB ?_;exact aY R rfl zE ⟨rfl,rfl⟩
 rw [ay ha];refine wB ?_;refine aZ rfl rfl (wy _ e vq s.path 4 h2.tail h5 zo) ?_;rintro _ _ ⟨rfl,rfl⟩
 by_cases hb:Ep s.path 4
 rotate_left
 ·rw [aq hb,aq (fun q:s.right=>hb ⟨q.2.2.2.1,q.2.2.2.2⟩)];refine wB ?_;exact aY R rfl zE ⟨rfl,rfl⟩
 rw [ay hb,ay (show s.right from ⟨hi,ha.1,ha.2,hb.1,hb.2⟩)];refine wB ?_;exact aY R rfl zE ⟨rfl,rfl⟩
theorem xd (iD:List UInt8) (l:List (List UInt8)):(iF iD l).length=32:=df _ _
set_option maxHeartbeats 400000 in
theorem tY (v u vp vq:Value) (ja iD:List UInt8) (s:wZ) (hv:db R v ja) (hu:db R u iD) (hm:iD.length≤1000000) (hs:fL R vp vq s) :
 Ct prog 187 #[v,u,.agg (yo s vp vq).toArray] e R (fun v' L'=>v'=.bool (decide (xa ja iD s))∧R=L'):=by
 refine a7 hs.parts.one fun o1=>?_
 refine a7 hs.path.one fun o2=>?_
 refine a8 (args:=[_,_,_]) func187 rfl ntmps187 results187 rfl ?_
 (repeat (refine wA ?_;intros))
 rename_i g;refine aZ rfl rfl (qn _ e vp vq s hs.tail) ?_;rintro _ _ ⟨rfl,rfl⟩
 by_cases hr:s.right
 rotate_left
 ·rw [aq hr,aq (fun q:xa ja iD s=>hr q.1)];refine wB ?_;exact aY R rfl zE ⟨rfl,rfl⟩
 rw [ay hr];obtain ⟨q1,q2,q3,q4,q5⟩:=id hr;obtain ⟨ts,e1,r1,t1⟩:=hs.parts;obtain ⟨us,e2,r2,t2⟩:=hs.path;have qh:ts.length=64:=by rw [← q2,← e1,ab]
 have ry:us.length=4:=by rw [← q4,← e2,ab]
 have Rp:=oR e1 q3;have TV:=oR e2 q5;refine wB ?_;refine aZ rfl rfl (Aj _ e u vp iD ts hu.tail hm r1.tail (dP.tail t1) qh Rp) ?_;rintro _ _ ⟨ad,c,rfl,rfl⟩;rw [e1];have Ms:=xd iD s.parts;have pP:xa ja iD s↔lW s.idx (iF iD s.parts) s.path=ja:=⟨fun q=>q.2,fun q=>⟨hr,q⟩⟩
 generalize iF iD s.parts=b0 at *
 refine bn (r2.tail.tail.shape zo) ?_;rintro ⟨⟨adq,cq,rfl,w3,w4,w5,w6⟩,_⟩;simp only [maxLen] at w4
 refine wB ?_;refine bq (ι:=Nat × Nat × List UInt8 × Option Addr × Nat) (fun i=>[(0,v),(7,.slice i.2.2.2.1 i.2.2.1.length i.2.2.2.2),(8,.bool true),(9,.int .i64 (i.2.1:Int)),(25,.slice adq us.length cq),(26,.int .i64 (us.length:Int)),(27,.int .i64 (i.1:Int))]) (fun i=>cR (.slice i.2.2.2.1 i.2.2.1.length i.2.2.2.2) i.2.2.1::R) (fun i=>i.1≤us.length∧i.2.1<16∧i.2.2.1.length=32∧lW i.2.1 i.2.2.1 (s.path.drop i.1)=lW s.idx b0 s.path) (fun i=>us.length - i.1) (0,s.idx,b0,ad,c) ⟨aH _,q1,Ms,rfl⟩ zS zE ?_;rintro ⟨i,jD,b,dW,c2⟩ ⟨hi,J2,oP,Ca⟩;dsimp only at hi J2 oP Ca ⊢
 by_cases cO:i<us.length
 rotate_left
 ·have hd:s.path.drop i=[]:=List.drop_eq_nil_of_le zo;rw [hd] at Ca
  have Ca:b=lW s.idx b0 s.path:=Ca;refine wB ?_;refine aZ rfl rfl (iM _ e _ v b ja (bb .zero) hv.tail) ?_;rintro _ _ ⟨rfl,rfl⟩;rw [show decide (b=ja)=decide (xa ja iD s) from decide_eq_decide.2 (by rw [pP,← Ca])];refine wB ?_;exact aY R rfl zE ⟨rfl,rfl⟩
 rcases w6 with w6|⟨gl,ol,rfl⟩
 ·omega
 have hrr:Rd R ⟨gl,ol+i,none⟩ (us[i]'cO).1:=r2.elem (by rw [aL,ae cO];rfl);have ju:=t2 _ (az cO);have OE:=TV _ (az cO)
 have Eb:s.path.drop i=(us[i]'cO).2::s.path.drop (i+1):=by
  rw [← e2];rw [List.drop_eq_getElem_cons (by rw [ab];exact cO),List.getElem_map]
 generalize us[i]'cO=y at *
 obtain ⟨yv,yb⟩:=y;dsimp only at hrr ju OE Eb
 rw [Eb] at Ca
 have Cm:IntKind.i64.wrap (((jD:Int)).tdiv 2)=((jD / 2:Nat):Int):=by
  rw [Int.tdiv_eq_ediv_of_nonneg zo,show (jD:Int) / 2=((jD / 2:Nat):Int) by omega];exact wrap_i64 zo zo
 have RE:((jD:Int)).tmod 2=((jD % 2:Nat):Int):=by rw [Int.tmod_eq_emod_of_nonneg zo];omega
 refine W.cB (cn ju.tail) fun oy=>?_
 by_cases DA:jD % 2=0
 ·have RN:lW (jD / 2) (ei 14 [b,yb]) (s.path.drop (i+1))=lW s.idx b0 s.path:=by rw [← Ca];show _=lW (jD / 2) (if jD % 2=0 then _ else _) _;rw [aI DA]
  (repeat' first|(apply bY;exact rfl;exact rfl;exact rfl;exact .one rfl rfl (.one (eQ oy) rfl .nil);exact rfl;exact rfl;intro _)|refine Za ?_|refine Zb ?_|apply Zc|apply Zd|apply Ze|apply Zf|refine Zi ?_|refine ZA ?_|refine ZM ?_|refine Yw ?_|refine Yz ?_|apply YB|apply YC|refine YL ?_|fail)
  rename_i g2
  refine aZ rfl rfl (fe _ e 14 _ [(.slice dW b.length c2,b),(yv,yb)] (bB .zero rfl zl) (fun a ha=>by
   simp only [aQ,aP,or_false] at ha
   rcases ha with rfl|rfl
   ·exact db.tail (bb .zero)
   ·exact ju.tail.tail) (fun a ha=>by
   simp only [aQ,aP,or_false] at ha
   rcases ha with rfl|rfl
   ·dsimp only;omega
   ·dsimp only;omega) (by simp)) ?_
  rintro _ _ ⟨eI,c3,rfl,rfl⟩;rw [show ei 14 ([((.slice dW b.length c2:Value),b),(yv,yb)].map (·.2))=ei 14 [b,yb] from rfl];have oF:=df 14 [b,yb]
  generalize ei 14 [b,yb]=b3 at *
  refine wB ?_;rw [Cm];exact bi (i+1,jD / 2,b3,eI,c3) ⟨cO,by dsimp only;omega,oF,RN⟩ zd zS zE
 ·have RN:lW (jD / 2) (ei 14 [yb,b]) (s.path.drop (i+1))=lW s.idx b0 s.path:=by rw [← Ca];show _=lW (jD / 2) (if jD % 2=0 then _ else _) _;rw [aB DA]
  (repeat' first|(apply bY;exact rfl;exact rfl;exact rfl;exact .one (eQ oy) rfl (.one rfl rfl .nil);exact rfl;exact rfl;intro _)|refine Za ?_|refine Zb ?_|apply Zc|apply Zd|apply Ze|apply Zf|refine Zi ?_|refine ZA ?_|refine ZN ?_|refine Yw ?_|refine Yz ?_|refine YA ?_|apply YB|apply YC|refine YL ?_|fail)
  rename_i g2
  refine aZ rfl rfl (fe _ e 14 _ [(yv,yb),(.slice dW b.length c2,b)] (bB .zero rfl zl) (fun a ha=>by
   simp only [aQ,aP,or_false] at ha
   rcases ha with rfl|rfl
   ·exact ju.tail.tail
   ·exact db.tail (bb .zero)) (fun a ha=>by
   simp only [aQ,aP,or_false] at ha
   rcases ha with rfl|rfl
   ·dsimp only;omega
   ·dsimp only;omega) (by simp)) ?_
  rintro _ _ ⟨eI,c3,rfl,rfl⟩;rw [show ei 14 ([(yv,yb),((.slice dW b.length c2:Value),b)].map (·.2))=ei 14 [yb,b] from rfl];have oF:=df 14 [yb,b]
  generalize ei 14 [yb,b]=b3 at *
  refine wB ?_;rw [Cm];exact bi (i+1,jD / 2,b3,eI,c3) ⟨cO,by dsimp only;omega,oF,RN⟩ zd zS zE
theorem wz (v:Value) (bs:List (List UInt8)) (hv:mL R v bs) (hl:bs.length≤1000000) (hb:∀ b∈bs,b.length≤1000000) :
 Ct prog 259 #[v] e R (fun v' L'=>∃ ad c us,v'=.slice ad us.length c∧us.map (·.2)=bs∧L'=cU (.slice ad us.length c) us::cH us::R):=by
 obtain ⟨ts,rfl,hv,ht⟩:=hv;rw [ab] at hl
 have hb:∀ a∈ts,a.2.length≤1000000:=fun a ha=>hb _ (aE.2 ⟨a,ha,rfl⟩)
 refine a7 (hv.shape zo) ?_;rintro ⟨⟨wm,cap,rfl,h3,h4,h5,h6⟩,_⟩;simp only [maxLen] at h4
 refine a8 (args:=[_]) func259 rfl ntmps259 results259 rfl ?_;refine wB ?_;refine bq (ι:=Nat × List ej × Option Addr × Nat) (fun i=>[(3,.slice i.2.2.1 i.2.1.length i.2.2.2),(6,.slice wm ts.length cap),(7,.int .i64 (ts.length:Int)),(8,.int .i64 (i.1:Int))]) (fun i=>cU (.slice i.2.2.1 i.2.1.length i.2.2.2) i.2.1::cH i.2.1::R) (fun i=>i.1≤ts.length∧i.2.1.map (·.2)=(ts.map (·.2)).take i.1) (fun i=>ts.length - i.1) (0,[],none,0) ⟨aH _,by simp⟩ zS (cj dL (du ez 1)) ?_;rintro ⟨i,us,ad,c⟩ ⟨hi,hJ⟩;dsimp only at hi hJ ⊢
 have Em:us.length=i:=by have:=congrArg List.length hJ;rw [ab,aF,ab] at this;omega
 by_cases cO:i<ts.length
 rotate_left
 ·rw [aG (by rw [ab];omega)] at hJ
  refine wB ?_;exact aY _ rfl aX ⟨ad,c,us,rfl,hJ,rfl⟩
 rcases h6 with h6|⟨gl,ol,rfl⟩
 ·omega
 have hr:Rd R ⟨gl,ol+i,none⟩ (ts[i]'cO).1:=hv.elem (by rw [aL,ae cO];rfl);have ju:=ht _ (az cO);have z9:=hb _ (az cO)
 have kx:∀ w:Value,(us++[(w,(ts[i]'cO).2)]).map (·.2)=(ts.map (·.2)).take (i+1):=fun w=>by
  rw [ah,hJ,aD (by rw [ab];exact cO),List.getElem_map]
  rfl
 generalize ts[i]'cO=y at *
 obtain ⟨yv,b⟩:=y;dsimp only at hr ju z9 kx
 refine wB ?_;refine aZ rfl rfl (dw _ e yv b ju.tail.tail zo) ?_;rintro _ _ ⟨eI,c3,rfl,rfl⟩
 (repeat (refine wA ?_;intros))
 refine bC (bo rfl rfl rfl (.succ (.succ .zero)) (bB .zero rfl zl) rfl rfl zO zm zo fun jB c4 _=>?_)
 refine wB ?_;refine bi (i+1,us++[(.slice eI b.length c3,b)],jB,c4) ⟨cO,kx _⟩ zd ?_ ?_
 ·dsimp only;rw [aa,aj];exact zS
 ·exact cj (show cz _ (dJ ez 1 (.slice jB (us.length+1) c4) (us.length+1) (us.map (·.1)++[.slice eI b.length c3])::cR (.slice eI b.length c3) b::cH us::R) from zE) gh
theorem J3:∀ n:Nat,n<16→Go.bits .xor .i64 (n:Int) 1=((n ^^^ 1:Nat):Int):=by decide
theorem RO {M:List cJ} {n k:Nat} {v:Value} {xs:List Value} (h:cE M n v k xs):cE [dH M] n v k xs:=h.cL (cj (cT (L:=[])) (by rw [aK];exact aX))
theorem tZ {M:List cJ} {v:Value} {bs:List (List UInt8)} (h:mL M v bs):mL [dH M] v bs:=h.cL (cj (cT (L:=[])) (by rw [aK];exact aX))
theorem J4 {l:List (List UInt8)} {i h:Nat} (hh:h<4):(yh l i).take (h+1)=(yh l i).take h++[(pO l h).getD ((i / 2 ^ h) ^^^ 1) []]:=by
 rw [aD (by rw [ly];exact hh)]
 congr 2
 unfold yh;rw [List.getElem_map,List.getElem_range]
theorem RP {n m:Nat} (h:n<2 ^ m) (hm:0<m) (OU:n<16):n ^^^ 1<2 ^ m:=by
 obtain ⟨k,rfl⟩:∃ k,m=k+1:=⟨m - 1,by omega⟩
 rw [RK OU];rw [Nat.pow_succ] at h ⊢
 split<;>omega
set_option maxHeartbeats 1000000 in
theorem yp (v u:Value) (seed iD:List UInt8) (i:Nat) (hv:db R v seed) (hs:seed.length=32) (hi:i<16) (hu:db R u iD) (hm:iD.length≤1000000) :
 Ct prog 198 #[v,.int .i64 (i:Int),u] e R (fun v' L'=>∃ (M:cJ) (vp vq:Value),v'=.tuple #[.agg (yo (rK seed i iD) vp vq).toArray,.int .i64 0]∧fL [M] vp vq (rK seed i iD)∧L'=M::R):=by
 refine a7 (cE.shape hv zo) ?_;rintro ⟨⟨wm,cap,rfl,_,_,_,_⟩,_⟩;refine bH (args:=[_,_,_]) func198 rfl ntmps198 results198 rfl ?_
 (repeat (refine wA ?_;intros))
 rename_i g6;refine aZ rfl rfl (Ai _ e _ u seed iD i hv.tail zo hi hu.tail hm) ?_;rintro _ _ ⟨ef,c1,ts,rfl,fy,rfl⟩
 (repeat (refine wA ?_;intros))
 rename_i g8;refine aZ rfl rfl (pI _ e _ seed hv.tail.tail.tail.tail zo) ?_;rintro _ _ ⟨dW,c2,ls,rfl,Mr,rfl⟩;have DV:=mJ (kv seed);refine wB ?_;refine bq (ι:=Nat × List ej × (Option Addr × Nat) × List ej × (Option Addr × Nat) × List ej) (fun j=>[(6,pt g6),(8,pt g8),(9,.slice j.2.2.1.1 j.2.1.length j.2.2.1.2),(10,.int .i64 ((i / 2 ^ j.1:Nat):Int))])
  (fun j=>cK g8 [.int .i64 (i:Int),.slice ef ts.length c1,.slice j.2.2.2.2.1.1 j.2.2.2.1.length j.2.2.2.2.1.2] 85 (0,0)::cU (.slice j.2.2.2.2.1.1 j.2.2.2.1.length j.2.2.2.2.1.2) j.2.2.2.1::cU (.slice j.2.2.1.1 j.2.1.length j.2.2.1.2) j.2.1::cH j.2.2.2.2.2::cK g6 [.int .i64 0,nY,nY] 85 (0,0)::cU (.slice ef ts.length c1) ts::cH ts::R)
  (fun j=>j.1≤4∧j.2.1.map (·.2)=pO (eW seed) j.1∧j.2.2.2.1.map (·.2)=(yh (eW seed) i).take j.1∧(∀ x∈j.2.1,x∈j.2.2.2.2.2)∧(∀ x∈j.2.2.2.1,x∈j.2.2.2.2.2)) (fun j=>4 - j.1) (0,ls,(dW,c2),[],(none,0),ls) ⟨by omega,Mr,by simp,fun x h=>h,fun x h=>by cases h⟩ (by rw [show i / 2 ^ 0=i by simp];exact zS) (cj (du ez 1) zE) ?_
 clear Mr;rintro ⟨h,ks,⟨eI,c3⟩,ps,⟨jB,c4⟩,K⟩ ⟨hh,J5,QF,hkK,hpK⟩;dsimp only at hh J5 QF hkK hpK ⊢
 have Of:ks.length=2 ^ (4 - h):=by have:=congrArg List.length J5;rw [ab,DV h hh] at this;exact this
 have Cj:ps.length=h:=by have:=congrArg List.length QF;rw [ab,aF,ly] at this;omega
 by_cases cO:h<4
 rotate_left
 ·have hhe:h=4:=by omega
  subst hhe;have hk1:ks.length=1:=Of;rw [aG (by rw [ly];omega)] at QF
  refine wB ?_;apply br
  ·exact zV
  refine ⟨dH [cU (.slice ef ts.length c1) ts,cH ts,cU (.slice jB ps.length c4) ps,cH K]::R,cj (show cz _ (cU (.slice ef ts.length c1) ts::cH ts::cU (.slice jB ps.length c4) ps::cH K::R) from zE) (dQ (M:=[_,_,_,_])),dH [cU (.slice ef ts.length c1) ts,cH ts,cU (.slice jB ps.length c4) ps,cH K],.slice ef ts.length c1,.slice jB ps.length c4,rfl,⟨tZ ⟨ts,fy,bb .zero,dP.tail eF⟩,tZ ⟨ps,QF,bb (.succ (.succ .zero)),fun x hx=>(eF (l:=K) x (hpK x hx)).tail.tail.tail⟩,?_⟩,rfl⟩;refine ⟨by show i<_;omega,?_,?_⟩
  ·rw [show (rK seed i iD).parts.length=64 from nx _ _ _];omega
  ·rw [show (rK seed i iD).path.length=4 from ly _ _];omega
 have J2:i / 2 ^ h<2 ^ (4 - h):=by
  rw [Nat.div_lt_iff_lt_mul (Nat.two_pow_pos h),← Nat.pow_add,show 4 - h+h=4 by omega];exact hi
 have QG:i / 2 ^ h<16:=Nat.lt_of_le_of_lt (Nat.div_le_self _ _) hi;have hx1:=J3 (i / 2 ^ h) QG;have RQ:=RP J2 zo QG;rw [← Of] at RQ
 have J6:1<ks.length:=by rw [Of];exact Nat.one_lt_two_pow zo
 have Mt:ks.length≤16:=by rw [Of];exact Nat.le_trans (Nat.pow_le_pow_right zo (show 4 - h≤4 by omega)) (by decide)
 have na:=J4 (l:=eW seed) (i:=i) cO;rw [← J5,fa RQ] at na
 have kx:(ps++[ks[(i / 2 ^ h) ^^^ 1]'RQ]).map (·.2)=(yh (eW seed) i).take (h+1):=by rw [ah,QF,na];rfl
 have rv:=hkK _ (az RQ);have Vv:i / 2 ^ (h+1)=i / 2 ^ h / 2:=by rw [Nat.pow_succ,Nat.div_div_eq_div_mul]
 clear J2 na
 generalize i / 2 ^ h=a at *
 have hdiv:IntKind.i64.wrap (((a:Nat):Int).tdiv 2)=((i / 2 ^ (h+1):Nat):Int):=by
  rw [Vv,Int.tdiv_eq_ediv_of_nonneg zo,show ((a:Nat):Int) / 2=((a / 2:Nat):Int) by omega];exact wrap_i64 zo zo
 have rL:a ^^^ 1<17:=by omega
 refine W.cB (DZ (.succ (.succ .zero)) zo) ?_;rintro ⟨p3,rfl⟩;have OM:Rd (cU (.slice (some ⟨p3,0,none⟩) ks.length c3) ks::cH K::cK g6 [.int .i64 0,nY,nY] 85 (0,0)::cU (.slice ef ts.length c1) ts::cH ts::R) ⟨p3,0+(a ^^^ 1),none⟩ (ks[a ^^^ 1]'RQ).1:=(bb .zero).elem (by rw [aL,ae RQ];rfl)
 generalize ks[a ^^^ 1]'RQ=y at *
 obtain ⟨yv,yb⟩:=y;dsimp only at OM kx
 have si:db (cH K::cK g6 [.int .i64 0,nY,nY] 85 (0,0)::cU (.slice ef ts.length c1) ts::cH ts::R) yv yb:=eF (l:=K) (yv,yb) rv;refine W.cB (cn si.tail.tail.tail) fun oy=>?_
 generalize a ^^^ 1=x1 at *
 refine wB ?_;refine W.fo (bw (.succ .zero) aX) ?_;refine bk (id:=10) [9,10] (cK g8 [.int .i64 (i:Int),.slice ef ts.length c1,.slice jB ps.length c4] 85 (0,0)::cU (.slice (some ⟨p3,0,none⟩) ks.length c3) ks::cH K::cK g6 [.int .i64 0,nY,nY] 85 (0,0)::cU (.slice ef ts.length c1) ts::cH ts::R) mixed ?_
 (refine tF 0 ?_;refine tL 1 ?_;refine tM 2 ?_;refine tM 3 ?_;refine tk 4 _ rfl (cD.bits _ (by simp) rfl rfl) ?_)
 rw [hx1]
 (refine tk 5 _ rfl (cD.ix rfl rfl zo) ?_;refine tL 6 ?_)
 refine tO 7 ?_;refine bE (n:=1) (z:=nY) (cs:=[yv]) rfl rfl rfl rfl (.one (eQ oy) rfl .nil) rfl (fun gb=>⟨fun _=>zE,?_⟩);refine tO 8 ?_;refine bo rfl rfl rfl (.succ .zero) (bB .zero rfl zl) rfl rfl zO zm zo fun Qy c5 _=>⟨fun _=>zE,?_⟩
 ((refine tO 9 ?_;refine dV (ba rfl) ?_);(refine tO 10 ?_;refine tg ?_;refine ⟨zN,?_⟩))
 refine bf zK ?_;refine wB ?_;refine aZ rfl rfl (yl _ e _ ks (bb (.succ (.succ (.succ .zero)))) (fun x hx=>(eF (l:=K) x (hkK x hx)).tail.tail.tail.tail) (oR J5 (qW nc h)) Mt) ?_;rintro _ _ ⟨GD,c6,ws,rfl,LC,rfl⟩;refine wB ?_;rw [hdiv];refine bi (h+1,ws,(GD,c6),ps++[(yv,yb)],(Qy,c5),K++ws) ⟨by dsimp only;omega,by dsimp only;rw [LC,J5];rfl,kx,fun x hx=>List.mem_append_right _ hx,fun x hx=>?_⟩ zd ?_ ?_
 ·rcases aJ.1 hx with h|h
  ·exact List.mem_append_left _ (hpK x h)
  ·rw [an.1 h];exact List.mem_append_left _ rv
 ·dsimp only;exact zS
 ·dsimp only;simp only [cU,aa,aj,ah,List.map_cons,List.map_nil];refine cj (show cz _ (cH K::cH ws::cK g8 [.int .i64 (i:Int),.slice ef ts.length c1,.slice Qy (ps.length+1) c5] 85 (0,0)::dJ ez 1 (.slice Qy (ps.length+1) c5) (ps.length+1) (ps.map (·.1)++[yv])::cU (.slice GD ws.length c6) ws::cK g6 [.int .i64 0,nY,nY] 85 (0,0)::cU (.slice ef ts.length c1) ts::cH ts::R) from zE) (cj eK zE)
def wZ.fits (s:wZ):Prop:=(∀ a∈s.parts,a.length≤1000000)∧∀ a∈s.path,a.length≤1000000
theorem wZ.right.fits {s:wZ} (h:s.right):s.fits:=⟨fun a ha=>by have:=h.2.2.1 a ha;omega,fun a ha=>by have:=h.2.2.2.2 a ha;omega⟩
theorem yq (vp vq:Value) (s:wZ) (hs:fL R vp vq s) (hr:s.fits) :
 Ct prog 190 #[.agg (yo s vp vq).toArray] e R (fun v' L'=>∃ (M:cJ) (up uq:Value),v'=.agg (yo s up uq).toArray∧fL [M] up uq s∧L'=M::R):=by
 obtain ⟨h1,h2,h3⟩:=hs;obtain ⟨q3,q5⟩:=hr;refine a7 h1.one fun o1=>?_
 refine a7 h2.one fun o2=>?_
 refine bH (args:=[_]) func190 rfl ntmps190 results190 rfl ?_
 (repeat (refine wA ?_;intros))
 rename_i g1 g2;refine bk (id:=1) [9] (cK g1 (yo s vp vq) 85 (0,0)::R) mixed ?_
 (refine tF 0 ?_;refine tL 1 ?_;refine tF 2 ?_;refine tL 3 ?_;refine tF 5 ?_;refine tL 6 ?_)
 refine tO 4 ?_;refine bg rfl rfl (wz _ e vp s.parts h1.tail.tail zo q3) ?_;rintro _ _ ⟨ef,c1,us,rfl,hJ,rfl⟩;refine ⟨fun _=>zE,?_⟩;refine tO 7 ?_;refine bg rfl rfl (wz _ e vq s.path h2.tail.tail.tail.tail zo q5) ?_;rintro _ _ ⟨dW,c2,ws,rfl,LC,rfl⟩;refine ⟨fun _=>zE,?_⟩
 (refine tk 8 _ rfl (bL rfl zF) ?_;(refine tO 9 ?_;refine zg ?_;refine ⟨zN,?_⟩))
 refine bf zK ?_;refine wB ?_;apply br
 ·exact zV
 refine ⟨dH [cU (.slice ef us.length c1) us,cH us,cU (.slice dW ws.length c2) ws,cH ws]::R,cj (show cz _ (cU (.slice ef us.length c1) us::cH us::cU (.slice dW ws.length c2) ws::cH ws::R) from zE) (dQ (M:=[_,_,_,_])),dH [cU (.slice ef us.length c1) us,cH us,cU (.slice dW ws.length c2) ws,cH ws],.slice ef us.length c1,.slice dW ws.length c2,rfl,⟨tZ ⟨us,hJ,bb .zero,dP.tail eF⟩,tZ ⟨ws,LC,bb (.succ (.succ .zero)),dP.tail (dP.tail (dP.tail eF))⟩,h3⟩,rfl⟩
theorem nT {l:List (List UInt8)} (h:∀ a∈l,a.length=32):l.flatten.length=32*l.length:=by
 induction l with
 | nil=>rfl
 | cons a l ih =>
  rw [List.flatten_cons,aa,ih fun b hb=>h b (aT _ hb),h a (List.mem_cons_self ..),aN]
  omega
theorem Bf (g:Nat) (bs:List (List UInt8)) (r:List UInt8) (jN:∀ a∈bs,a.length=32) (hl:bs.length≤1000) (hr:r.length≤1000000) :
 Ct prog 299 #[pt g,.int .i64 (bs.length:Int)] e (Reader g ⟨bs.flatten++r,false⟩::R) (fun v' L'=>∃ ad c us,v'=.slice ad us.length c∧us.map (·.2)=bs∧L'=Reader g ⟨r,false⟩::cU (.slice ad us.length c) us::cH us::R):=by
 refine a8 (args:=[_,_]) func299 rfl ntmps299 results299 rfl ?_;refine wB ?_;refine bq (ι:=Nat × List ej × Option Addr × Nat) (fun i=>[(0,pt g),(5,.slice i.2.2.1 i.2.1.length i.2.2.2),(6,.int .i64 (bs.length:Int)),(7,.int .i64 (i.1:Int))]) (fun i=>Reader g ⟨(bs.drop i.1).flatten++r,false⟩::cU (.slice i.2.2.1 i.2.1.length i.2.2.2) i.2.1::cH i.2.1::R) (fun i=>i.1≤bs.length∧i.2.1.map (·.2)=bs.take i.1) (fun i=>bs.length - i.1) (0,[],none,0) ⟨aH _,by simp⟩ zS (cj dL (cj (du ez 1) zE)) ?_;rintro ⟨i,us,ad,c⟩ ⟨hi,hJ⟩;dsimp only at hi hJ ⊢
 have Em:us.length=i:=by have:=congrArg List.length hJ;rw [ab,aF] at this;omega
 by_cases cO:i<bs.length
 rotate_left
 ·have JT:i=bs.length:=by omega
  subst JT;rw [aG (aS _)] at hJ
  rw [show (bs.drop bs.length).flatten++r=r by simp];refine wB ?_;exact aY _ rfl aX ⟨ad,c,us,rfl,hJ,rfl⟩
 have Eb:bs.drop i=bs[i]'cO::bs.drop (i+1):=List.drop_eq_getElem_cons cO;have hz:=jN _ (az cO)
 have kx:∀ w:Value,(us++[(w,bs[i]'cO)]).map (·.2)=bs.take (i+1):=fun w=>by
  rw [ah,hJ,aD cO];rfl
 have DB:((bs.drop (i+1)).flatten++r).length≤1100000:=by
  rw [aa,nT (fun a ha=>jN a (aV ha)),aO];omega
 rw [Eb,List.flatten_cons,aM]
 generalize bs[i]'cO=b at *
 generalize Mu:(bs.drop (i+1)).flatten++r=rest at *
 refine wB ?_;refine aZ rfl rfl (x8 _ e g 32 b rest hz (by rw [aa];omega)) ?_;rintro _ _ ⟨eI,c3,rfl,rfl⟩
 (repeat (refine wA ?_;intros))
 refine bC (bo rfl rfl rfl (.succ (.succ (.succ .zero))) (bB .zero rfl zl) rfl rfl zO zm zo fun jB c4 _=>?_)
 refine wB ?_;refine bi (i+1,us++[(.slice eI b.length c3,b)],jB,c4) ⟨cO,kx _⟩ zd ?_ ?_
 ·dsimp only;rw [aa,aj];exact zS
 ·dsimp only;rw [Mu];exact cj (show cz _ (dJ ez 1 (.slice jB (us.length+1) c4) (us.length+1) (us.map (·.1)++[.slice eI b.length c3])::cR (.slice eI b.length c3) b::cH us::Reader g ⟨rest,false⟩::R) from zE) (cj gh zE)
def fG (s:wZ):List UInt8:=be s.idx 4++(s.parts.flatten++s.path.flatten)
theorem gQ {s:wZ} (h:s.right):(fG s).length=2180:=by
 obtain ⟨h1,h2,h3,h4,h5⟩:=h;unfold fG;rw [aa,aa,cX,nT h3,nT h5,h2,h4]
theorem ub (v:Value) (s:wZ) (hv:db R v (fG s)) (hr:s.right) :
 Ct prog 267 #[v] e R (fun v' L'=>∃ (M:cJ) (vp vq:Value),v'=.tuple #[.agg (yo s vp vq).toArray,.int .i64 0]∧fL [M] vp vq s∧L'=M::R):=by
 have F5:=gQ hr;obtain ⟨q1,q2,q3,q4,q5⟩:=id hr;refine bH (args:=[_]) func267 rfl ntmps267 results267 rfl ?_
 (repeat (refine wA ?_;intros))
 rename_i g2;refine aZ rfl rfl (jw _ e v (fG s) hv.tail zo) ?_;rintro _ _ ⟨gr,rfl,rfl⟩;unfold fG;have hfp:=nT q3;have hfq:=nT q5;refine wB ?_;refine aZ rfl rfl (tE _ e gr s.idx (s.parts.flatten++s.path.flatten) zo) ?_;rintro _ _ ⟨rfl,rfl⟩;have h1:=Bf (cK g2 [.int .i64 0,nY,nY] 85 (0,0)::R) e gr s.parts s.path.flatten q3 zo zo;rw [q2] at h1
 refine wB ?_;refine aZ rfl rfl h1 ?_;rintro _ _ ⟨ef,c1,us,rfl,hJ,rfl⟩;have h2:=Bf (cU (.slice ef us.length c1) us::cH us::cK g2 [.int .i64 0,nY,nY] 85 (0,0)::R) e gr s.path [] q5 zo (by simp);rw [q4,aK] at h2
 (repeat (refine wA ?_;intros))
 refine aZ rfl rfl h2 ?_;rintro _ _ ⟨dW,c2,ws,rfl,LC,rfl⟩
 (repeat (refine wA ?_;intros))
 rename_i g5;refine aZ rfl rfl (Ct.at (.succ .zero) (x9 _ e gr [])) ?_;rintro _ _ ⟨rfl,rfl⟩;have Vw:∀ L:List cJ,fL (cU (.slice dW ws.length c2) ws::cH ws::cU (.slice ef us.length c1) us::cH us::L) (.slice ef us.length c1) (.slice dW ws.length c2) s:=fun L=>⟨⟨us,hJ,bb (.succ (.succ .zero)),dP.tail (dP.tail (dP.tail eF))⟩,⟨ws,LC,bb .zero,dP.tail eF⟩,⟨by omega,by omega,by omega⟩⟩
 refine wB ?_;refine aZ rfl rfl (qn _ e _ _ s (Vw _).tail.tail) ?_;rintro _ _ ⟨rfl,rfl⟩;rw [ay hr];refine wB ?_;apply br
 ·exact zV
 refine ⟨dH [cU (.slice dW ws.length c2) ws,cH ws,cU (.slice ef us.length c1) us,cH us]::R,cj (show cz _ (cU (.slice dW ws.length c2) ws::cH ws::cU (.slice ef us.length c1) us::cH us::R) from zE) (dQ (M:=[_,_,_,_])),dH [cU (.slice dW ws.length c2) ws,cH ws,cU (.slice ef us.length c1) us,cH us],.slice ef us.length c1,.slice dW ws.length c2,rfl,?_,rfl⟩;exact (Vw []).cL (cj (cT (L:=[])) (by rw [aK];exact aX))
end Go.Proofs
