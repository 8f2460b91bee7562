/- Part 4 of a proof of this: TopQuiet returns true for any arguments; nothing of the old memory is turned. No condition. -/
import Derived.Test.YtccekbdjebohcaaGreatQ03
set_option linter.unusedVariables false
set_option linter.unusedSimpArgs false
namespace Go.Proofs
attribute [local irreducible] Bs.cE Bs.Do Bs.O Bs.W Bs.Fin Bs.A Bs.Ct Bs.cF Bs.Rd Bs.Sat Bs.cL Bs.Ob Bs.dJ Bs.View Bs.cB Bs.Ex Bs.dH Bs.Pu Bs.eZ Bs.dO Bs.dZ
open Go.Bs
open Tryz
def OU (Y:List UInt8):Nat→S8
 | 0=>uV
 | k+1=>jl (OU Y k) ((Y.drop (64*k)).take 64)
theorem Eh (Y:List UInt8):∀ k,64*k≤Y.length→iY uV Y=iY (OU Y k) (Y.drop (64*k))
 | 0,_=>rfl
 | k+1,h=>by
  have h1:(Y.drop (64*k)).length=Y.length - 64*k:=aP;rw [Eh Y k zo,oS zo,List.drop_drop]
  rfl
set_option maxHeartbeats 2000000 in
theorem tK (R:List cK) (e:World) (v:Value) (b:List UInt8) (hv:db R v b) (hb:b.length≤1000000000000) :
 Ct prog 154 #[v] e R (fun v' L'=>∃ ad c,v'=.slice ad (sh b).length c∧L'=cT (.slice ad (sh b).length c) (sh b)::R):=by
 refine a7 (hv.shape zo) ?_;rintro ⟨⟨ad,cap,rfl,h3,h4,h5,h6⟩,_⟩;simp only [maxLen] at h4
 refine Ct.RF (args:=[_]) func154 rfl ntmps154 rfl ?_
 (repeat' first|apply WM.seq|apply Fin.D8|(refine O.mJ (cs:=uV.cells) rfl rfl rfl zQ rfl ?_)|(refine cj (cs:=(List.replicate 8 (0:UInt32)).map cX) rfl rfl ?_;intro _)|(refine O.ep (vs:=uV.cells) rfl rfl rfl (gE uV.list) .zero (eD rfl) ?_)|refine Zb ?_|apply Zd|apply Ze)
 rename_i g3;refine aZ rfl rfl (JO _ e) ?_;rintro _ _ ⟨rfl,rfl⟩
 (repeat' first|apply WM.seq|apply Fin.D8|(refine cj (cs:=(List.replicate 64 (0:UInt32)).map cX) rfl rfl ?_;intro _)|(refine O.ep (vs:=kw.map cX) rfl rfl rfl (gE kw) .zero (eD rfl) ?_)|refine Za ?_|apply Zd|apply Ze)
 rename_i g4;refine aZ rfl rfl (dy _ e _ b hv.tail.tail zo) ?_;rintro _ _ ⟨eE,c3,rfl,rfl⟩
 (repeat (refine wA ?_;intros))
 refine bC (bo rfl rfl rfl (.succ .zero) (bB .zero rfl zl) rfl rfl zO zm zo fun jB c4 _=>?_)
 (repeat' first|apply WM.seq|apply Fin.D8|refine Zb ?_|apply Ze|apply YB)
 refine bq (ι:=Nat × Option Addr × Nat) (fun i=>[(5,.slice i.2.1 (b.length+1+i.1) i.2.2),(3,pt g3),(4,pt g4),(0,.slice ad b.length cap)])
  (fun i=>dJ oP 1 (.slice i.2.1 (b.length+1+i.1) i.2.2) (b.length+1+i.1) ((b++128::List.replicate i.1 0).map u8)::cL g3 uV.cells 296 (0,0)::cL g4 (kw.map cX) 297 (0,0)::R)
  (fun i=>i.1≤zs b.length) (fun i=>zs b.length - i.1) (0,jB,c4)
  (aH _) (cD rfl (cD rfl (cD rfl (cD rfl de)))) (by dsimp only;rw [ah];exact zE) ?_
 rintro ⟨z,QD,c5⟩ hz;dsimp only at hz ⊢
 have ZR:zs b.length<64:=by unfold zs;omega
 have hzd:zs b.length=(119 - b.length % 64) % 64:=rfl;have ZT:=Mh (b.length+1+z)
 by_cases Z4:z<zs b.length
 ·(repeat (refine wA ?_;intros))
  refine bC (bo rfl rfl rfl (.succ .zero) (bB .zero rfl zl) rfl rfl zO zm zo fun GH c6 _=>?_)
  refine wB ?_;refine bi (z+1,GH,c6) Z4 zd (cD rfl (cD rfl (cD rfl (cD rfl de)))) ?_;dsimp only
  have he:(b++128::List.replicate (z+1) (0:UInt8)).map u8=(b++128::List.replicate z 0).map u8++[.int .u8 0]:=by
   rw [List.replicate_succ',show b++128::(List.replicate z 0++[0])=(b++128::List.replicate z (0:UInt8))++[0] by simp,ah]
   rfl
  rw [he];exact zE
 obtain rfl:z=zs b.length:=by omega
 have Vo:(b++128::List.replicate (zs b.length) (0:UInt8)).length=b.length+1+zs b.length:=by simp;omega
 have Mi:∀ m,(b++128::List.replicate (zs b.length) (0:UInt8))++m=b++128::(List.replicate (zs b.length) 0++m):=fun m=>by simp
 rw [← Vo] at ZT ⊢
 have hXb:(b++128::List.replicate (zs b.length) (0:UInt8)).length≤1000000000128:=by omega
 have Z5:(b++128::List.replicate (zs b.length) (0:UInt8)).length % 64=56:=by omega
 have GI:sh b=gY (iY uV (b++128::(List.replicate (zs b.length) 0++lB b.length))):=rfl;rw [← Mi] at GI
 clear Mi Vo
 generalize b++128::List.replicate (zs b.length) (0:UInt8)=X at *
 have h8:(lB b.length).length=8:=cY _ _
 (repeat' first|apply WM.seq|apply Fin.D8|refine Za ?_|refine Zb ?_|apply Zc|apply Zd|apply Ze|apply Zf|refine Zk ?_|refine ZQ ?_|refine YA ?_|apply YB|apply YD|apply YG|apply YJ|refine YL ?_|fail)
 refine bq (ι:=Nat × Option Addr × Nat) (fun i=>[(6,.int .i64 (7 - (i.1:Int))),(5,.slice i.2.1 (X.length+i.1) i.2.2),(3,pt g3),(4,pt g4),(0,.slice ad b.length cap)])
  (fun i=>dJ oP 1 (.slice i.2.1 (X.length+i.1) i.2.2) (X.length+i.1) ((X++(lB b.length).take i.1).map u8)::cL g3 uV.cells 296 (0,0)::cL g4 (kw.map cX) 297 (0,0)::R)
  (fun i=>i.1≤8) (fun i=>8 - i.1) (0,QD,c5)
  (aH _) (cD rfl (cD rfl (cD rfl (cD rfl (cD rfl de))))) (by dsimp only;rw [List.take_zero,aK];exact zE) ?_
 rintro ⟨m,QE,c7⟩ hm;dsimp only at hm ⊢
 by_cases RL:m<8
 ·have Ef:=Bg b.length m RL zo;have Vp:=RK b.length zo
  have Vq:IntKind.u64.wrap ((b.length:Int)*8)=((b.length*8:Nat):Int):=by
   rw [← RK (b.length*8) zo];rfl
  (repeat' first|(apply O.jP;exact rfl;exact rfl)|refine Za ?_|apply Zc|apply Zd|apply Ze|apply Zf|refine Zk ?_|refine ZJ ?_|refine ZW ?_|refine ZX ?_|refine Z1 ?_|refine Yi fun _=>?_|refine Yz ?_|apply YB|apply YC)
  rw [Vp,Vq,show IntKind.u64.bits=64 from rfl,Ef];have Eg:=Cm (b.length*8) 8 m RL;have nf:(lB b.length).take (m+1)=(lB b.length).take m++[UInt8.ofNat (b.length*8 / 256 ^ (7 - m))]:=Bf Eg;clear Ef Eg
  generalize UInt8.ofNat (b.length*8 / 256 ^ (7 - m))=cc at *
  have fq:(X++(lB b.length).take (m+1)).map u8=(X++(lB b.length).take m).map u8++[u8 cc]:=by
   rw [nf,← aM,ah];rfl
  generalize X++(lB b.length).take m=Y at *
  refine bC (bo rfl rfl rfl (.succ .zero) (bB .zero rfl zl) rfl rfl zO zm zo fun GH c6 _=>?_)
  refine wB ?_;refine bi (m+1,GH,c6) RL zd ?_ ?_
  ·dsimp only;rw [show (7 - ((m+1:Nat):Int))=7 - (m:Int) - 1 by omega];exact cD rfl (cD rfl (cD rfl (cD rfl (cD rfl de))))
  ·dsimp only;rw [fq];exact zE
 obtain rfl:m=8:=by omega
 rw [aG zo];have Z9:(X++lB b.length).length=X.length+8:=by rw [aa,h8]
 have aaa:(X++lB b.length).length % 64=0:=by omega
 have hYb:(X++lB b.length).length≤1000000001000:=by omega
 have acA:0<(X++lB b.length).length:=by omega
 rw [← Z9]
 generalize X++lB b.length=Y at *
 (repeat' first|apply WM.Y8|apply Fin.D8|refine Za ?_|apply Zc|apply Zd|apply Ze|apply Zf|refine ZK ?_|refine YA ?_|apply YD|apply YG|apply YJ)
 refine bn (tz .zero) ?_;rintro ⟨ad8,c8,hq,OR,Mj⟩;obtain ⟨rfl,_,rfl⟩:=Value.slice.inj hq;clear hq;simp only [maxLen] at Mj
 refine bn (fk .zero) ?_;rintro ⟨⟨ad9,c9,hq,_,_,Ml⟩,_⟩;obtain ⟨rfl,_,rfl⟩:=Value.slice.inj hq;clear hq
 obtain ⟨gl,rfl⟩:∃ gl,QE=some ⟨gl,0,none⟩:=by
  rcases Ml with ⟨_,_,h0⟩|h0
  ·omega
  ·exact h0
 clear Ml;refine aZ rfl rfl (GK _ e (some ⟨gl,0,none⟩) Y.length c7) ?_;rintro _ _ ⟨gs,gn,rfl,rfl⟩
 (repeat' first|apply Fin.tw|apply Ze)
 obtain ⟨m,Vs⟩:∃ m,Y.length=64*m:=⟨Y.length / 64,by omega⟩
 refine WB.range (lb:=[pt gs,pt gn]) results154 rfl (cL gs [.slice (some ⟨gl,0,none⟩) Y.length c7] 30 (0,0)::cL gn [.int .i64 64] 3 (0,0)::cT (.slice (some ⟨gl,0,none⟩) Y.length c7) Y::cL g3 (OU Y m).cells 296 (0,0)::cL g4 (kw.map cX) 297 (0,0)::R) ?_ ?_
 ·intro l D r h1 h2 h3 h4 h5 hr;refine JQ e l gs gn m gl 0 c7 Y (fun k=>Lp l r::Df D::cL gs [.slice (some ⟨gl,0,none⟩) Y.length c7] 30 (0,0)::cL gn [.int .i64 64] 3 (0,0)::cT (.slice (some ⟨gl,0,none⟩) Y.length c7) Y::cL g3 (OU Y k).cells 296 (0,0)::cL g4 (kw.map cX) 297 (0,0)::R) Vs zo OR (fun k=>zR) (fun k=>zR) ?_;intro k hk;have sW:∀ {A B C D':cK} {L:List cK},db (A::B::C::D'::cT (.slice (some ⟨gl,0,none⟩) Y.length c7) Y::L) (.slice (some ⟨gl,0+64*k,none⟩) 64 64) ((Y.drop (64*k)).take 64):=OT (db.tail (db.tail (db.tail (db.tail (bb .zero))))) Vs OR hk
  have Cn:((Y.drop (64*k)).take 64).length=64:=by rw [aF,aP];omega
  have eK:OU Y (k+1)=jl (OU Y k) ((Y.drop (64*k)).take 64):=rfl;rw [eK]
  generalize OU Y k=S at *
  generalize (Y.drop (64*k)).take 64=B at *
  refine Rt.mk h1 h2 h3 rfl rfl hr ?_;refine WI.code h4 ?_;refine WI.region ?_;refine OI.val _ rfl (bj rfl) rfl ?_;refine OI.nil ?_;refine Fin.Y6 aX ?_;refine WI.code h5 ?_;refine WI.block ?_;refine WI.region ?_;refine OI.val _ rfl (cE.dx (cs:=S.cells) rfl (by (repeat first|exact bV .zero|apply dZ.tail);done) rfl) rfl ?_;refine OI.val _ rfl (bu rfl) rfl ?_;refine OI.do rfl (bg rfl rfl (Mf _ e S _ B g4 sW Cn (by (repeat first|exact bV .zero|apply dZ.tail);done)) ?_)
  rintro _ _ ⟨rfl,rfl⟩
  generalize jl S B=S2 at *
  refine OI.do rfl (Do.ep (vs:=S2.cells) rfl rfl (jy S2) (gE S2.list) zU (eD ((jy S).trans (jy S2).symm)) ?_)
  refine OI.nil ?_;refine Fin.sY ?_;exact Fin.YS zE
 intro D
 have QF:iY uV Y=OU Y m:=by
  rw [Eh Y m zo];exact vv (by rw [aP];omega)
 rw [GI,QF];clear QF GI
 generalize OU Y m=V at *
 have Be:V.list.length=8:=rfl;refine wB ?_;refine bC (Do.U0 (el:=oP) (nn:=1) (z:=.int .u8 0) (b:=1) (c:=32) rfl rfl rfl zl zo fun go=>?_)
 (repeat' first|(refine O.dx (cs:=V.cells) rfl (by (repeat first|exact bV .zero|apply dZ.tail);done) rfl rfl ?_)|refine Za ?_|refine Zb ?_|apply Zc|apply Zd|apply Ze|apply Zf|apply YB)
 rw [S8.nT];refine bq (ι:=Nat × Option Addr × Nat) (fun i=>[(47,.int .i64 (i.1:Int)),(46,.agg (V.list.map cX).toArray),(8,.slice i.2.1 (4*i.1) i.2.2)])
  (fun i=>dJ oP 1 (.slice i.2.1 (4*i.1) i.2.2) (4*i.1) (((V.list.take i.1).flatMap il).map u8)::Df D::R)
  (fun i=>i.1≤8) (fun i=>8 - i.1) (0,some ⟨go,0,none⟩,32)
  (aH _) (cD rfl (cD rfl (cD rfl de))) zE ?_
 rintro ⟨j,GJ,RM⟩ hj;dsimp only at hj ⊢
 by_cases Lz:j<8
 ·have hr:(V.list.map cX)[j]?=some (cX (V.list.getD j 0)):=by
   have Cl:j<V.list.length:=Lz;rw [aL,ae Cl,aA,ae Cl];rfl
  have eK:((V.list.take (j+1)).flatMap il).map u8=((V.list.take j).flatMap il).map u8++(il (V.list.getD j 0)).map u8:=by
   have Cl:j<V.list.length:=Lz;rw [aD Cl,aW,ah,aA,ae Cl]
   rfl
  generalize V.list.getD j 0=x at *
  (repeat' first|refine YY ?_|refine Y0 ?_|refine Y4 ?_|refine Za ?_|refine Zb ?_|apply Zc|apply Zd|apply Ze|apply Zf|refine ZA ?_|refine Yi fun _=>?_|refine Yz ?_|apply YB|apply YC)
  refine bC (bo rfl rfl rfl (.succ .zero) (bB .zero rfl zl) rfl rfl zO zm zo fun Mk Vr _=>?_)
  refine wB ?_;refine bi (j+1,Mk,Vr) Lz zd ?_ ?_
  ·dsimp only;rw [Nat.mul_add];exact cD rfl (cD rfl (cD rfl de))
  ·dsimp only;rw [eK,Nat.mul_add];exact (show cB _ (dJ oP 1 (.slice Mk (4*j+4*1) Vr) (4*j+4*1) (((V.list.take j).flatMap il).map u8++(il x).map u8)::Df D::R) from zE)
 obtain rfl:j=8:=by omega
 rw [aG zo];refine wB ?_;exact aY (Df D::cT (.slice GJ (gY V).length RM) (gY V)::R) rfl (show cB (dJ oP 1 (.slice GJ 32 RM) 32 ((gY V).map u8)::Df D::R) _ from zE) ⟨_,rfl,GJ,RM,rfl,rfl⟩
end Go.Proofs
namespace Go.Bs
def mb (n:Nat):Nat:=if n=0 then 0 else n.log2+1
theorem yd (n k:Nat) (h:2 ^ k≤n):mb (n / 2 ^ k)+k=mb n:=by
 have h0:0<2 ^ k:=Nat.two_pow_pos k;have h1:n≠0:=by omega
 have h2:n / 2 ^ k≠0:=by
  have:=Nat.div_pos h h0
  omega
 unfold mb;rw [aB h1,aB h2];have h3:k≤n.log2:=(Nat.le_log2 h1).2 h
 have h4:(n / 2 ^ k).log2=n.log2 - k:=by
  rw [Nat.log2_eq_iff h2]
  constructor
  ·rw [Nat.le_div_iff_mul_le h0,← Nat.pow_add,Nat.sub_add_cancel h3];exact Nat.log2_self_le h1
  ·rw [Nat.div_lt_iff_lt_mul h0,← Nat.pow_add,show n.log2 - k+1+k=n.log2+1 by omega];exact Nat.lt_log2_self
 omega
def mN:List UInt8:=(List.range 256).map fun i=>UInt8.ofNat (mb i)
section
variable {P:Program} {N:Fr} {Q:fP} {σ:Env} {e:World} {L:List cK} {all:Array Oper} {rest:List Oper} {d:Nat} {ty:TypeId} {pos:String} {af:Array Edge}
theorem O.GL {x y:Operand} {t:TypeId} {s:ByteArray} {k:IntKind} {i c:Nat} [q:u0 P t] (h:ev σ x=some (.string s)) (h1:ev σ y=some (.int k (i:Int))) (hl:∃ h:i<s.size,s[i].toNat=c) (hd:Nat.blt d N.n=true)
 (kk:O P N all rest Q ((d,.int .u8 (c:Int))::σ) e L):O P N all (⟨some d,.index t x y,ty,pos,af,none⟩::rest) Q σ e L:=by
 obtain ⟨h2,h3⟩:=hl;refine bx _ ?_ hd kk;have:=cE.Ro (P:=P) (N:=N) (ty:=ty) (e:=e) (L:=L) (t:=t) h h1 h2;rw [h3] at this
 exact this
end
theorem ny:mN.length=256:=by simp [mN]
theorem JR (y:Nat) (hy:y<256):(mN[y]'(by rw [ny];exact hy)).toNat=mb y:=by
 have h1:∀ m:_root_.Fin 256,(mN[m.1]'(by rw [ny];exact m.2)).toNat=mb m.1:=by decide +kernel
 exact h1 ⟨y,hy⟩
theorem Mn (m s:Nat) (t:Nat) (h:s≤t):((m:Int)).fdiv (2 ^ (min ((s:Int)).toNat t))=((m / 2 ^ s:Nat):Int):=by
 rw [Int.toNat_natCast,Nat.min_eq_left h,Int.fdiv_eq_ediv_of_nonneg _ (Int.pow_nonneg (by decide))]
 simp
end Go.Bs
namespace Go.Proofs
open Go.Bs
attribute [local irreducible] Bs.cE Bs.Do Bs.O Bs.W Bs.Fin Bs.A Bs.Ct Bs.cF Bs.Rd Bs.Sat Bs.cL Bs.Ob Bs.dJ Bs.View Bs.cB Bs.Ex Bs.dH Bs.Pu Bs.eZ Bs.dO Bs.dZ
set_option maxRecDepth 100000 in
theorem GM (R:List cK) (e:World) (x:Nat) (hx:x<18446744073709551616) :
 Ct Tryz.prog 278 #[.int .u64 (x:Int)] e R (fun v' L'=>v'=.int .i64 (mb x:Int)∧R=L'):=by
 refine a8 (args:=[_]) Tryz.func278 rfl Tryz.ntmps278 Tryz.results278 rfl ?_
 (repeat' first|refine W.pJ (id:=4) (fun i:Nat × Nat=>[(0,.int .u64 (i.1:Int)),(2,.int .i64 (i.2:Int))]) (fun _=>R) (fun i=>i.1<4294967296∧mb i.1+i.2=mb x∧i.2≤32) ?_ ?_|refine Zb ?_|apply Zc|apply Zd|apply Ze|apply Zf)
 rotate_left
 ·refine ⟨?_⟩
  by_cases h:4294967296≤x
  ·refine wB ?_;refine bK (x / 4294967296,32) ⟨by dsimp only;omega,yd x 32 h,by dsimp only;omega⟩ (cD ?_ (cD rfl de)) aX;exact congrArg (fun z=>some (Value.int .u64 z)) (Mn x 32 64 zo)
  ·refine wB ?_;exact bK (x,0) ⟨by dsimp only;omega,rfl,by dsimp only;omega⟩ (cD rfl (cD rfl de)) aX
 rintro ⟨x2,n2⟩ ⟨Ei,ry,F9⟩;dsimp only at Ei ry F9 ⊢
 (repeat' first|refine W.pJ (id:=7) (fun i:Nat × Nat=>[(0,.int .u64 (i.1:Int)),(2,.int .i64 (i.2:Int))]) (fun _=>R) (fun i=>i.1<65536∧mb i.1+i.2=mb x∧i.2≤48) ?_ ?_)
 rotate_left
 ·refine ⟨?_⟩
  by_cases h:65536≤x2
  ·have:mb (x2 / 65536)+16=mb x2:=yd x2 16 h;refine wB ?_;refine bK (x2 / 65536,n2+16) ⟨by dsimp only;omega,by dsimp only;omega,by dsimp only;omega⟩ (cD ?_ (cD rfl de)) aX;exact congrArg (fun z=>some (Value.int .u64 z)) (Mn x2 16 64 zo)
  ·refine wB ?_;exact bK (x2,n2) ⟨by dsimp only;omega,ry,by dsimp only;omega⟩ (cD rfl (cD rfl de)) aX
 rintro ⟨x3,n3⟩ ⟨hx3,QG,Xm⟩;dsimp only at hx3 QG Xm ⊢
 clear Ei ry F9
 (repeat' first|refine W.u2 (id:=10) (fun i:Nat × Nat=>[(0,.int .u64 (i.1:Int)),(2,.int .i64 (i.2:Int))]) (fun _=>R) (fun i=>i.1<256∧mb i.1+i.2=mb x∧i.2≤56) ?_ ?_)
 rotate_left
 ·refine ⟨?_⟩
  by_cases h:256≤x3
  ·have:mb (x3 / 256)+8=mb x3:=yd x3 8 h;refine wB ?_;refine bK (x3 / 256,n3+8) ⟨by dsimp only;omega,by dsimp only;omega,by dsimp only;omega⟩ (cD ?_ (cD rfl de)) aX;exact congrArg (fun z=>some (Value.int .u64 z)) (Mn x3 8 64 zo)
  ·refine wB ?_;exact bK (x3,n3) ⟨by dsimp only;omega,QG,by dsimp only;omega⟩ (cD rfl (cD rfl de)) aX
 rintro ⟨y,n⟩ ⟨hy,hl,hn⟩;dsimp only at hy hl hn ⊢
 clear hx3 QG Xm;have oH:mN.length=256:=by simp [mN]
 have ju:∀ (h:y<(str mN).size),((str mN)[y]'h).toNat=mb y:=fun h=>by
  have h1:(str mN)[y]'h=mN[y]'zo:=rfl;rw [h1];exact JR y hy
 have hw8:IntKind.u8.wrap (y:Int)=(y:Int):=wrap_u8 zo zo;refine wB ?_;refine O.GL (s:=str mN) (c:=mb y) zK rfl ⟨by rw [sZ,ny];exact hy,ju _⟩ rfl ?_
 have hl8:mb y≤8:=by
  unfold mb
  split
  ·omega
  ·rename_i h0;have:y.log2<8:=(Nat.log2_lt h0).2 hy
   omega
 refine wB ?_;exact aY R rfl aX ⟨by rw [← hl,Int.natCast_add,Int.add_comm];rfl,rfl⟩
theorem Mo (R:List cK) (e:World) (x:Nat) (hx:x<18446744073709551616) :
 Ct Tryz.prog 232 #[.int .u64 (x:Int)] e R (fun v' L'=>v'=.int .i64 (mb x:Int)∧R=L'):=by
 refine a8 (args:=[_]) Tryz.func232 rfl Tryz.ntmps232 Tryz.results232 rfl ?_;refine wB ?_;refine aZ rfl rfl (GM R e x hx) ?_;rintro _ _ ⟨rfl,rfl⟩;refine wB ?_;exact aY R rfl aX ⟨rfl,rfl⟩
end Go.Proofs
namespace Go.Proofs
attribute [local irreducible] Bs.cE Bs.Do Bs.O Bs.W Bs.Fin Bs.A Bs.Ct Bs.cF Bs.Rd Bs.Sat Bs.cL Bs.Ob Bs.dJ Bs.View Bs.cB Bs.Ex Bs.dH Bs.Pu Bs.eZ Bs.dO Bs.dZ
open Go.Bs
open Tryz
def within (n lo hi:Int):Int:=if n≥lo∧n≤hi then n else lo+(if n.tmod (hi - lo+1)<0 then n.tmod (hi - lo+1)+hi - lo+1 else n.tmod (hi - lo+1))
theorem dt (n lo hi:Int) (h:lo≤hi):lo≤within n lo hi∧within n lo hi≤hi:=by
 unfold within;have h1:=Int.tmod_lt_of_pos n (show 0<hi - lo+1 by omega)
 have h2:-(hi - lo+1)<n.tmod (hi - lo+1):=by
  rcases Int.le_total 0 n with h0|h0
  ·have:=Int.tmod_nonneg (hi - lo+1) h0;omega
  ·have h3:=Int.tmod_lt_of_pos (-n) (show 0<hi - lo+1 by omega);rw [Int.neg_tmod] at h3;omega
 split
 ·omega
 ·split<;>omega
theorem eB (R:List cK) (e:World) (n lo hi:Int) (hn:-9223372036854775808≤n∧n≤9223372036854775807) (hl:-4611686018427387904≤lo∧lo≤hi∧hi≤1099511627776∧hi - lo≤1099511627776) :
 Ct prog 24 #[.int .i64 n,.int .i64 lo,.int .i64 hi] e R (fun v' L'=>v'=.int .i64 (within n lo hi)∧R=L'):=by
 refine a8 (args:=[_,_,_]) func24 rfl ntmps24 results24 rfl ?_;have h1:=Int.tmod_lt_of_pos n (show 0<hi - lo+1 by omega)
 have h2:-(hi - lo+1)<n.tmod (hi - lo+1):=by
  rcases Int.le_total 0 n with h0|h0
  ·have:=Int.tmod_nonneg (hi - lo+1) h0;omega
  ·have h3:=Int.tmod_lt_of_pos (-n) (show 0<hi - lo+1 by omega);rw [Int.neg_tmod] at h3;omega
 have hw:within n lo hi=if n≥lo∧n≤hi then n else lo+(if n.tmod (hi - lo+1)<0 then n.tmod (hi - lo+1)+hi - lo+1 else n.tmod (hi - lo+1)):=rfl
 by_cases ha:n≥lo
 ·by_cases hb:n≤hi
  ·refine wB ?_;exact aY _ rfl aX ⟨by rw [hw,aI ⟨ha,hb⟩];rfl,rfl⟩
  ·by_cases hc:n.tmod (hi - lo+1)<0
   ·refine wB ?_;exact aY _ rfl aX ⟨by rw [hw,aB (fun h=>hb h.2),aI hc];rfl,rfl⟩
   ·refine wB ?_;exact aY _ rfl aX ⟨by rw [hw,aB (fun h=>hb h.2),aB hc];rfl,rfl⟩
 ·by_cases hc:n.tmod (hi - lo+1)<0
  ·refine wB ?_;exact aY _ rfl aX ⟨by rw [hw,aB (fun h=>ha h.1),aI hc];rfl,rfl⟩
  ·refine wB ?_;exact aY _ rfl aX ⟨by rw [hw,aB (fun h=>ha h.1),aB hc];rfl,rfl⟩
theorem Mq (R:List cK) (e:World) (v:Value) (l:List UInt8) (n:Nat) (h:db R v l) (hn:n<1099511627776) :
 Ct prog 185 #[v,.int .i64 n] e R (fun v' L'=>(∀ L,db L v l→db L v' (l.take n))∧v'.oneCell'=true∧R=L'):=by
 refine a7 (h.shape zo) ?_;rintro ⟨⟨ad,cap,rfl,h3,h4,h5,h6⟩,_⟩;simp only [maxLen] at h4
 refine a8 (args:=[_,_]) func185 rfl ntmps185 results185 rfl ?_
 by_cases hl:n<l.length
 ·refine wB ?_;refine aY _ rfl aX ⟨fun L h=>?_,rfl,rfl⟩;have:=cF.p7 h (hi:=n) zo;unfold db;rw [aF,Nat.min_eq_left zo];rw [Nat.mul_one,← List.map_take] at this
  exact this
 ·refine wB ?_;refine aY _ rfl aX ⟨fun L h=>?_,rfl,rfl⟩;rw [aG zo];exact h
def rJ (l:List eo):List UInt8:=(l.map (·.2)).flatten
theorem Co {m:Nat}:∀ {l:List eo},(∀ a∈l,a.2.length≤m)→(rJ l).length≤m*l.length
 | [],_=>by simp [rJ]
 | a::l,h=>by
  have h1:=h a (List.mem_cons_self ..);have h2:=Co (l:=l) fun b hb=>h b (aU _ hb)
  simp only [rJ,List.map_cons,List.flatten_cons,aa,aN,Nat.mul_add,Nat.mul_one] at h2 ⊢
  omega
theorem Ej {l:List eo} {i:Nat} (h:i<l.length):rJ (l.take (i+1))=rJ (l.take i)++(l[i]'h).2:=by
 simp only [rJ];rw [aD h];simp only [ah,List.map_cons,List.map_nil,List.flatten_append,List.flatten_cons,List.flatten_nil,aK]
end Go.Proofs
namespace Go.Bs
def cO (n:Nat):Nat:=if n<2 then 0 else 2 ^ (n - 1).log2
def Cp (n:Int):Int:=if n<2 then 0 else (cO n.toNat:Int)
theorem kZ (n:Nat):Cp (n:Int)=(cO n:Int):=by
 unfold Cp cO
 by_cases h:n<2
 ·rw [aI zo,aI h];rfl
 ·rw [aB zo,Int.toNat_natCast]
theorem dA {n:Nat} (h:2≤n):1≤cO n∧cO n<n∧n≤2*cO n:=by
 unfold cO;rw [aB zo];have h1:=Nat.log2_self_le (n:=n - 1) zo;have h2:=Nat.lt_log2_self (n:=n - 1);rw [Nat.pow_succ] at h2
 have h3:=Nat.two_pow_pos (n - 1).log2
 omega
def ek (t:UInt8) (l:List (List UInt8)):List UInt8:=sh (t::l.flatten)
def cZ (b:List UInt8):List UInt8:=ek 0 [b]
def eI (l r:List UInt8):List UInt8:=ek 1 [l,r]
def eg (l:List (List UInt8)):List UInt8 :=
 if h:l.length<2 then (match l with|[]=>sh []|a::_=>a) else eI (eg (l.take (cO l.length))) (eg (l.drop (cO l.length)))
 termination_by l.length
 decreasing_by
 ·have:=dA (n:=l.length) zo;rw [aF];omega
 ·have:=dA (n:=l.length) zo;rw [aP];omega
theorem k6:eg []=sh []:=by rw [eg,dif_pos (by simp)]
theorem nU (a:List UInt8):eg [a]=a:=by rw [eg,dif_pos (by simp)]
theorem jU {l:List (List UInt8)} (h:2≤l.length):eg l=eI (eg (l.take (cO l.length))) (eg (l.drop (cO l.length))):=by rw [eg,dif_neg zo]
theorem dg (t:UInt8) (l:List (List UInt8)):(ek t l).length=32:=jT _
theorem tP {l:List (List UInt8)} {m:Nat} (hm:32≤m) (h:∀ a∈l,a.length≤m):(eg l).length≤m:=by
 match l,h with
 | [],_=>rw [k6,jT];exact hm
 | [a],h=>rw [nU];exact h a (an.2 rfl)
 | a::b::r,_=>rw [jU (by simp)];unfold eI;rw [dg];exact hm
end Go.Bs
namespace Go.Proofs
open Go.Bs
attribute [local irreducible] Bs.cE Bs.Do Bs.O Bs.W Bs.Fin Bs.A Bs.Ct Bs.cF Bs.Rd Bs.Sat Bs.cL Bs.Ob Bs.dJ Bs.View Bs.cB Bs.Ex Bs.dH Bs.Pu Bs.eZ Bs.dO Bs.dZ
theorem mO (R:List cK) (e:World) (n:Int) (hn:-9223372036854775808≤n∧n≤9223372036854775807) :
 Ct Tryz.prog 155 #[.int .i64 n] e R (fun v' L'=>v'=.int .i64 (Cp n)∧R=L'):=by
 refine a8 (args:=[_]) Tryz.func155 rfl Tryz.ntmps155 Tryz.results155 rfl ?_
 by_cases h:n<2
 ·refine wB ?_;exact aY R rfl aX ⟨by unfold Cp;rw [aI h];rfl,rfl⟩
 obtain ⟨m,rfl⟩:=Int.eq_ofNat_of_zero_le (show 0≤n by omega)
 have hw:IntKind.u64.wrap ((m:Int) - 1)=((m - 1:Nat):Int):=by
  rw [show (m:Int) - 1=((m - 1:Nat):Int) by omega];exact RK _ zo
 have hl:mb (m - 1)=(m - 1).log2+1:=by unfold mb;rw [aB zo]
 have hb:(m - 1).log2<63:=(Nat.log2_lt zo).2 zo;have hp:2 ^ (m - 1).log2≤m - 1:=Nat.log2_self_le zo;refine wB ?_;rw [hw];refine aZ rfl rfl (Mo R e (m - 1) zo) ?_;rintro _ _ ⟨rfl,rfl⟩;rw [hl];refine wB ?_;refine aY R rfl aX ⟨?_,rfl⟩;rw [kZ];unfold cO;rw [aB zo]
 show Value.int _ _=Value.int _ _
 congr 1
 rw [show ((((m - 1).log2+1:Nat):Int) - 1).toNat=(m - 1).log2 by omega,show IntKind.i64.bits=64 from rfl,Nat.min_eq_left zo,Int.one_mul];have e1:(2:Int) ^ (m - 1).log2=((2 ^ (m - 1).log2:Nat):Int):=by simp
 rw [e1];clear e1
 generalize 2 ^ (m - 1).log2=q at *
 exact wrap_i64 zo zo
theorem fe (R:List cK) (e:World) (t:UInt8) (v:Value) (ts:List eo) (hv:cF R 1 v ts.length (ts.map (·.1))) (ht:dR R ts) (hb:∀ a∈ts,a.2.length≤1000000) (hl:ts.length≤10000) :
 Ct Tryz.prog 189 #[u8 t,v] e R (fun v' L'=>∃ ad c,v'=.slice ad (ek t (ts.map (·.2))).length c∧L'=cT (.slice ad (ek t (ts.map (·.2))).length c) (ek t (ts.map (·.2)))::R):=by
 refine a7 (hv.shape zo) ?_;rintro ⟨⟨ad,cap,rfl,h3,h4,h5,h6⟩,_⟩;simp only [maxLen] at h4
 have Ce:∀ i,(rJ (ts.take i)).length≤10000000000:=fun i=>by
  have h1:=Co (l:=ts.take i) (m:=1000000) (fun a ha=>hb a (aR ha));rw [aF] at h1
  have h2:1000000*min i ts.length≤1000000*10000:=Nat.mul_le_mul_left _ zo
  omega
 refine a8 (args:=[_,_]) Tryz.func189 rfl Tryz.ntmps189 Tryz.results189 rfl ?_
 (repeat (refine wA ?_;intros))
 refine W.fp (cn (hH (n:=1) (k:=1) (cap:=1) zo zl (by simp)) aX) ?_;refine bq (ι:=Nat × Option Addr × Nat) (fun i=>[(12,.int .i64 (i.1:Int)),(11,.int .i64 (ts.length:Int)),(10,.slice ad ts.length cap),(5,.slice i.2.1 (1+(rJ (ts.take i.1)).length) i.2.2)])
  (fun i=>dJ oP 1 (.slice i.2.1 (1+(rJ (ts.take i.1)).length) i.2.2) (1+(rJ (ts.take i.1)).length) ((t::rJ (ts.take i.1)).map u8)::R) (fun i=>i.1≤ts.length) (fun i=>ts.length - i.1) (0,_,1) (aH _) (cD rfl (cD rfl (cD rfl (cD rfl de)))) aX ?_
 rintro ⟨i,dW,c2⟩ hi;dsimp only at hi ⊢
 have hci:=Ce i
 by_cases cP:i<ts.length
 ·rcases h6 with h6|⟨gl,ol,rfl⟩
  ·omega
  have hr:Rd R ⟨gl,ol+i,none⟩ (ts[i]'cP).1:=hv.elem (by rw [aL,ae cP];rfl);have ju:=ht _ (ax cP);have z7:=hb _ (ax cP);have z8:=Ej cP
  generalize ts[i]'cP=y at *
  obtain ⟨yv,yt⟩:=y;dsimp only at ju z7 z8 hr
  refine wB ?_;refine bC (bo rfl rfl rfl .zero ju rfl rfl lQ zm zo fun eE c3 _=>?_)
  refine wB ?_;refine bi (i+1,eE,c3) cP zd ?_ ?_
  ·dsimp only;rw [z8,aa,← Nat.add_assoc];exact cD rfl (cD rfl (cD rfl (cD rfl de)))
  ·dsimp only;rw [z8,aa,← Nat.add_assoc,← List.cons_append,ah];exact zE
 rw [aG zo] at hci ⊢
 have htg:ek t (ts.map (·.2))=sh (t::rJ ts):=rfl;rw [htg]
 have tI:db (dJ oP 1 (.slice dW (1+(rJ ts).length) c2) (1+(rJ ts).length) ((t::rJ ts).map u8)::R) (.slice dW (1+(rJ ts).length) c2) (t::rJ ts):=by
  unfold db;rw [aN,Nat.add_comm];exact bb .zero
 refine wB ?_;refine aZ rfl rfl (tK _ e _ _ tI (by rw [aN];omega)) ?_;rintro _ _ ⟨jB,c4,rfl,rfl⟩;refine wB ?_;exact aY (cT (.slice jB (sh (t::rJ ts)).length c4) (sh (t::rJ ts))::R) rfl zE ⟨jB,c4,rfl,rfl⟩
theorem ye (R:List cK) (e:World) (t:UInt8) (v:Value) (ts:List eo) (hv:cF R 1 v ts.length (ts.map (·.1))) (ht:dR R ts) (hb:∀ a∈ts,a.2.length≤1000000) (hl:ts.length≤10000) :
 Ct Tryz.prog 70 #[u8 t,v] e R (fun v' L'=>∃ ad c,v'=.slice ad (ek t (ts.map (·.2))).length c∧L'=cT (.slice ad (ek t (ts.map (·.2))).length c) (ek t (ts.map (·.2)))::R):=by
 refine a7 (hv.shape zo) ?_;rintro ⟨⟨ad,cap,rfl,h3,h4,h5,h6⟩,_⟩;simp only [maxLen] at h4
 have Ce:∀ i,(rJ (ts.take i)).length≤10000000000:=fun i=>by
  have h1:=Co (l:=ts.take i) (m:=1000000) (fun a ha=>hb a (aR ha));rw [aF] at h1
  have h2:1000000*min i ts.length≤1000000*10000:=Nat.mul_le_mul_left _ zo
  omega
 refine a8 (args:=[_,_]) Tryz.func70 rfl Tryz.ntmps70 Tryz.results70 rfl ?_
 (repeat (refine wA ?_;intros))
 refine W.fp (cn (hH (n:=1) (k:=1) (cap:=1) zo zl (by simp)) aX) ?_;refine bq (ι:=Nat × Option Addr × Nat) (fun i=>[(6,.int .i64 (i.1:Int)),(1,.slice ad ts.length cap),(5,.slice i.2.1 (1+(rJ (ts.take i.1)).length) i.2.2)])
  (fun i=>dJ oP 1 (.slice i.2.1 (1+(rJ (ts.take i.1)).length) i.2.2) (1+(rJ (ts.take i.1)).length) ((t::rJ (ts.take i.1)).map u8)::R) (fun i=>i.1≤ts.length) (fun i=>ts.length - i.1) (0,_,1) (aH _) (cD rfl (cD rfl (cD rfl de))) aX ?_
 rintro ⟨i,dW,c2⟩ hi;dsimp only at hi ⊢
 have hci:=Ce i
 by_cases cP:i<ts.length
 ·rcases h6 with h6|⟨gl,ol,rfl⟩
  ·omega
  have hr:Rd R ⟨gl,ol+i,none⟩ (ts[i]'cP).1:=hv.elem (by rw [aL,ae cP];rfl);have ju:=ht _ (ax cP);have z7:=hb _ (ax cP);have z8:=Ej cP
  generalize ts[i]'cP=y at *
  obtain ⟨yv,yt⟩:=y;dsimp only at ju z7 z8 hr
  refine wB ?_;refine bC (bo rfl rfl rfl .zero ju rfl rfl lQ zm zo fun eE c3 _=>?_)
  refine wB ?_;refine bi (i+1,eE,c3) cP zd ?_ ?_
  ·dsimp only;rw [z8,aa,← Nat.add_assoc];exact cD rfl (cD rfl (cD rfl de))
  ·dsimp only;rw [z8,aa,← Nat.add_assoc,← List.cons_append,ah];exact zE
 rw [aG zo] at hci ⊢
 have htg:ek t (ts.map (·.2))=sh (t::rJ ts):=rfl;rw [htg]
 have tI:db (dJ oP 1 (.slice dW (1+(rJ ts).length) c2) (1+(rJ ts).length) ((t::rJ ts).map u8)::R) (.slice dW (1+(rJ ts).length) c2) (t::rJ ts):=by
  unfold db;rw [aN,Nat.add_comm];exact bb .zero
 refine wB ?_;refine aZ rfl rfl (JP _ e _ _ tI (by rw [aN];omega)) ?_;rintro _ _ ⟨jB,c4,rfl,rfl⟩;refine wB ?_;exact aY (cT (.slice jB (sh (t::rJ ts)).length c4) (sh (t::rJ ts))::R) rfl zE ⟨jB,c4,rfl,rfl⟩
theorem qU (R:List cK) (e:World) (v:Value) (b:List UInt8) (hv:db R v b) (hb:b.length≤1000000) :
 Ct Tryz.prog 101 #[v] e R (fun v' L'=>∃ ad c,v'=.slice ad (cZ b).length c∧L'=cT (.slice ad (cZ b).length c) (cZ b)::R):=by
 refine a7 (cz hv) fun ho=>?_
 refine a8 (args:=[_]) Tryz.func101 rfl Tryz.ntmps101 Tryz.results101 rfl ?_
 (repeat' first|(apply bZ;exact rfl;exact rfl;exact rfl;exact .one (eR ho) rfl .nil;exact rfl;exact rfl;intro _)|refine Za ?_|refine Zb ?_|apply Zc|apply Zd|apply Ze|apply Zf)
 refine aZ rfl rfl (fe _ e 0 _ [(v,b)] (bB .zero rfl zl) (fun a ha=>by rw [an.1 ha];exact hv.tail) (fun a ha=>by rw [an.1 ha];exact hb) (by simp)) ?_;rintro _ _ ⟨ad,c,rfl,rfl⟩;refine wB ?_;exact aY (cT (.slice ad (cZ b).length c) (cZ b)::R) rfl zE ⟨ad,c,rfl,rfl⟩
theorem mE (R:List cK) (e:World) (v u:Value) (b c:List UInt8) (hv:db R v b) (hu:db R u c) (hb:b.length≤1000000) (hc:c.length≤1000000) :
 Ct Tryz.prog 156 #[v,u] e R (fun v' L'=>∃ ad k,v'=.slice ad (eI b c).length k∧L'=cT (.slice ad (eI b c).length k) (eI b c)::R):=by
 refine a7 (cz hv) fun ho=>?_
 refine a7 (cz hu) fun ho2=>?_
 refine a8 (args:=[_,_]) Tryz.func156 rfl Tryz.ntmps156 Tryz.results156 rfl ?_
 (repeat' first|(apply bZ;exact rfl;exact rfl;exact rfl;exact .one (eR ho) rfl (.one (eR ho2) rfl .nil);exact rfl;exact rfl;intro _)|refine Za ?_|refine Zb ?_|apply Zc|apply Zd|apply Ze|apply Zf)
 refine aZ rfl rfl (fe _ e 1 _ [(v,b),(u,c)] (bB .zero rfl zl) (fun a ha=>?_) (fun a ha=>?_) (by simp)) ?_
 ·rcases aQ.1 ha with rfl|ha
  ·exact hv.tail
  ·rw [an.1 ha];exact hu.tail
 ·rcases aQ.1 ha with rfl|ha
  ·exact hb
  ·rw [an.1 ha];exact hc
 rintro _ _ ⟨ad,k,rfl,rfl⟩;refine wB ?_;exact aY (cT (.slice ad (eI b c).length k) (eI b c)::R) rfl zE ⟨ad,k,rfl,rfl⟩
end Go.Proofs
namespace Go.Proofs
attribute [local irreducible] Bs.cE Bs.Do Bs.O Bs.W Bs.Fin Bs.A Bs.Ct Bs.cF Bs.Rd Bs.Sat Bs.cL Bs.Ob Bs.dJ Bs.View Bs.cB Bs.Ex Bs.dH Bs.Pu Bs.eZ Bs.dO Bs.dZ
open Go.Bs
open Tryz
theorem k7 {L:List cK} {ad:Option Addr} {c k:Nat} {ts:List eo} (h:cF L 1 (.slice ad ts.length c) ts.length (ts.map (·.1))) (hk:k≤ts.length):cF L 1 (.slice ad k c) (ts.take k).length ((ts.take k).map (·.1)):=by
 have:=cF.p7 h hk;rw [Nat.mul_one,← List.map_take] at this
 rw [aF,Nat.min_eq_left hk];exact this
theorem vz {L:List cK} {ad:Option Addr} {c k:Nat} {ts:List eo} (h:cF L 1 (.slice ad ts.length c) ts.length (ts.map (·.1))) (hk:k≤ts.length):cF L 1 (.slice (cutAt ad c k 1) (ts.length - k) (c - k)) (ts.drop k).length ((ts.drop k).map (·.1)):=by
 have:=cF.rG h hk;rw [Nat.mul_one,← List.map_drop] at this
 rw [aP];exact this
theorem jM {L:List cK} {a b:List eo} (h:dR L a) (hs:∀ x∈b,x∈a):dR L b:=fun x hx=>h x (hs x hx)
theorem j4:∀ (n:Nat) (R:List cK) (e:World) (v:Value) (ts:List eo),ts.length=n→cF R 1 v ts.length (ts.map (·.1))→dR R ts→(∀ a∈ts,a.2.length≤1000000)→ts.length≤1000000 →
 Ct prog 78 #[v] e R (fun v' L'=>∃ ad c,v'=.slice ad (eg (ts.map (·.2))).length c∧L'=cT (.slice ad (eg (ts.map (·.2))).length c) (eg (ts.map (·.2)))::R):=by
 intro n
 induction n using Nat.strongRecOn with
 | _ n ih =>
 intro R e v ts hn hv ht hb hl;refine a7 (hv.shape zo) ?_;rintro ⟨⟨ad,cap,rfl,h3,h4,h5,h6⟩,_⟩;simp only [maxLen] at h4
 refine a8 (args:=[_]) func78 rfl ntmps78 results78 rfl ?_
 by_cases h0:ts.length=0
 ·obtain rfl:ts=[]:=List.eq_nil_of_length_eq_zero h0;refine wB ?_;refine aZ rfl rfl (tK _ e _ [] (db.nil _) (by simp)) ?_;rintro _ _ ⟨dW,c2,rfl,rfl⟩;refine wB ?_;exact aY (cT (.slice dW (sh []).length c2) (sh [])::R) rfl zE ⟨dW,c2,by rw [List.map_nil,k6];rfl,by rw [List.map_nil,k6]⟩
 by_cases h1:ts.length=1
 ·obtain ⟨a,rfl⟩:=List.length_eq_one_iff.1 h1;rcases h6 with h6|⟨gl,ol,rfl⟩
  ·omega
  have hr:Rd R ⟨gl,ol+0,none⟩ a.1:=hv.elem rfl;have hta:=ht a (an.2 rfl);have T5:=hb a (an.2 rfl);refine wB ?_;refine bC <| Do.fp (du oP 1) (bo (v:=nY) (k:=0) rfl rfl rfl .zero hta rfl rfl lQ zm zo fun eE c3 _=>?_)
  simp only [aC,List.nil_append];have RO:eg ([a].map (·.2))=a.2:=nU _;rw [RO];refine wB ?_;exact aY (cT (.slice eE a.2.length c3) a.2::R) rfl zE ⟨eE,c3,rfl,rfl⟩
 have hs:=dA (n:=ts.length) zo;refine wB ?_;refine aZ rfl rfl (mO R e ts.length zo) ?_;rintro _ _ ⟨rfl,rfl⟩;rw [kZ];have rI:=jU (l:=ts.map (·.2)) (by rw [ab];omega);rw [ab,← List.map_take,← List.map_drop] at rI
 have oR:=tP (l:=(ts.take (cO ts.length)).map (·.2)) (m:=1000000) zo (fun a ha=>by obtain ⟨x,hx,rfl⟩:=aE.1 ha;exact hb x (aR hx));have ry:=tP (l:=(ts.drop (cO ts.length)).map (·.2)) (m:=1000000) zo (fun a ha=>by obtain ⟨x,hx,rfl⟩:=aE.1 ha;exact hb x (aV hx));have Ek:=k7 hv (k:=cO ts.length) zo;have z9:=vz hv (k:=cO ts.length) zo
 generalize cO ts.length=k at *
 have QH:(ts.take k).length=k:=by rw [aF];omega
 have El:(ts.drop k).length=ts.length - k:=aP;refine wB ?_;refine bz (id:=7) [9] mixed ?_
 (refine tM 0 ?_;refine tM 1 ?_;refine tk 2 _ rfl (cE.iV rfl rfl zo zo) ?_;refine tM 4 ?_;refine tM 5 ?_;refine tk 6 _ rfl (cE.ln rfl rfl zo zo) ?_)
 refine tO 3 ?_;refine bg rfl rfl (ih k zo R e _ (ts.take k) QH Ek (jM ht fun x hx=>aR hx) (fun a ha=>hb a (aR ha)) zo) ?_;rintro _ _ ⟨ei,c1,rfl,rfl⟩;refine ⟨fun _=>zE,?_⟩;refine tO 7 ?_;refine bg rfl rfl (ih (ts.length - k) zo _ e _ (ts.drop k) El z9.tail (dR.tail (jM ht fun x hx=>aV hx)) (fun a ha=>hb a (aV ha)) zo) ?_;rintro _ _ ⟨dW,c2,rfl,rfl⟩;refine ⟨fun _=>zE,?_⟩;refine tO 8 ?_;refine bg rfl rfl (mE _ e _ _ _ _ (bb (.succ .zero)) (bb .zero) oR ry) ?_;rintro _ _ ⟨eE,c3,rfl,rfl⟩;refine ⟨fun _=>zE,?_⟩;rw [← rI]
 ((refine tO 9 ?_;refine dV (bj rfl) ?_))
 refine bf zK ?_;refine wB ?_;exact aY (cT (.slice eE (eg (ts.map (·.2))).length c3) (eg (ts.map (·.2)))::R) rfl zE ⟨eE,c3,rfl,rfl⟩
theorem dR.ef {L R:List cK} {l:List eo} (p:cR L (cI l) R):dR L l:=fun a ha=>(eH (R:=R) a ha).cM p.out
theorem Em {L:List cK} {l:List eo} (h:dR L l):∀ x,dO L x→∀ c∈l.map (·.1),c.oneCell'=true:=fun x hx c hc=>by
 obtain ⟨a,ha,rfl⟩:=aE.1 hc;exact cz (h a ha) x hx
end Go.Proofs
namespace Go.Bs
end Go.Bs
namespace Go.Proofs
open Go.Bs
attribute [local irreducible] Bs.cE Bs.Do Bs.O Bs.W Bs.Fin Bs.A Bs.Ct Bs.cF Bs.Rd Bs.Sat Bs.cL Bs.Ob Bs.dJ Bs.View Bs.cB Bs.Ex Bs.dH Bs.Pu Bs.eZ Bs.dO Bs.dZ
theorem gh {ad:Option Addr} {c:Nat} {out:List eo} {v:Value} {b:List UInt8} {R:List cK} :
 cB (dJ eA 1 (.slice ad (out.length+1) c) (out.length+1) (out.map (·.1)++[v])::cT v b::cI out::R) (cV (.slice ad (out++[(v,b)]).length c) (out++[(v,b)])::cI (out++[(v,b)])::R):=by
 unfold cV;rw [aa,aj,ah];refine bh (cn (jw (a:=(v,b))) (cn (bw (.succ .zero) aX) eL))
end Go.Proofs
namespace Go.Proofs
open Go.Bs
structure DE where
 name:List UInt8
 hO:Nat
 fw:List UInt8
 notes:List UInt8
 deriving DecidableEq
def pK (l:List UInt8):Prop:=1≤l.length∧l.length≤20∧∀ b∈l,97≤b.toNat∧b.toNat≤122
instance Xn (l:List UInt8):Decidable (pK l):=by unfold pK;infer_instance
def DE.right (m:DE):Prop:=pK m.name∧0<m.hO∧m.fw.length=32∧m.notes.length≤64
instance aag (m:DE):Decidable m.right:=by unfold DE.right;infer_instance
abbrev tQ (m:DE) (vf vn:Value):List Value:=[.string (str m.name),.int .u32 (m.hO:Int),vf,vn]
def lS (m:DE):List UInt8:=77::(enc m.name++(be m.hO 4++(m.fw++enc m.notes)))
def GN (b:List UInt8):eY:=⟨b,false⟩
def yg (b:List UInt8):eY:=(GN b).next 1
def En (b:List UInt8):eY:=(yg b).tw 20
def Eo (b:List UInt8):eY:=(En b).next 4
def Ep (b:List UInt8):eY:=(Eo b).next 32
def si (b:List UInt8):eY:=(Ep b).tw 64
def dC (b:List UInt8):DE:=⟨(yg b).bytes 20,(En b).num 4,(Eo b).take 32,(Ep b).bytes 64⟩
def jm (b:List UInt8):Prop:=(GN b).num 1=77∧((si b).bad=false∧(si b).left=[])∧(dC b).right
instance Vt (b:List UInt8):Decidable (jm b):=by unfold jm;infer_instance
theorem wi {m:DE}:(lS m).length=m.name.length+m.fw.length+m.notes.length+9:=by
 unfold lS;rw [aN,aa,aa,aa,iz,iz,cY]
 omega
theorem OV {n:Nat} {r:List UInt8} (h:n<4294967296):eY.num ⟨be n 4++r,false⟩ 4=n∧eY.next ⟨be n 4++r,false⟩ 4=⟨r,false⟩:=by
 have h1:=j3 (a:=be n 4) (rest:=r);rw [cY] at h1
 exact ⟨by rw [eY.num];show numOf (eY.take _ ((4:Nat):Int))=n;rw [h1.1];exact qR n h,h1.2⟩
theorem OW {m:DE} (h:m.right) (hv:m.hO<4294967296):jm (lS m)∧dC (lS m)=m:=by
 obtain ⟨h1,h2,h3,h4⟩:=id h
 have e1:(GN (lS m)).num 1=77∧yg (lS m)=⟨enc m.name++(be m.hO 4++(m.fw++enc m.notes)),false⟩:=by
  unfold yg GN lS
  generalize enc m.name++(be m.hO 4++(m.fw++enc m.notes))=r
  have q:=j3 (a:=[(77:UInt8)]) (rest:=r);refine ⟨?_,q.2⟩;unfold eY.num;have q1:eY.take ⟨77::r,false⟩ 1=[77]:=q.1;rw [q1];rfl
 have e2:=u9 m.name (be m.hO 4++(m.fw++enc m.notes)) 20 (by have:=h1.2.1;omega) (by have:=h1.2.1;omega);have e3:=OV (r:=m.fw++enc m.notes) hv;have e4:=j3 (a:=m.fw) (rest:=enc m.notes);rw [h3] at e4
 have e5:=u9 m.notes [] 64 zo zo;rw [aK] at e5
 have f2:En (lS m)=⟨be m.hO 4++(m.fw++enc m.notes),false⟩:=by unfold En;rw [e1.2];exact e2.2
 have f3:Eo (lS m)=⟨m.fw++enc m.notes,false⟩:=by unfold Eo;rw [f2];exact e3.2
 have f4:Ep (lS m)=⟨enc m.notes,false⟩:=by unfold Ep;rw [f3];exact e4.2
 have f5:si (lS m)=⟨[],false⟩:=by unfold si;rw [f4];exact e5.2
 have fm:dC (lS m)=m:=by
  unfold dC;rw [e1.2,f2,f3,f4,e2.1,e3.1,e5.1];have:=e4.1;rw [show (32:Int)=((32:Nat):Int) from rfl,this]
 exact ⟨⟨e1.1,by rw [f5];exact ⟨rfl,rfl⟩,by rw [fm];exact h⟩,fm⟩
def fh (iE:List UInt8):UInt32:=wd (ek 13 [iE]) 0
def nV (d:UInt32) (bit side:Nat):Bool:=decide (IntKind.i64.wrap (Go.bits .and .u32 ((d >>> UInt32.ofNat (31 - (bit:Int)).toNat).toNat:Int) 1)=(side:Int))
def fH (seed:List UInt8) (key bit side:Nat):List UInt8:=ek 10 [seed,be key 4++[UInt8.ofNat bit,UInt8.ofNat side]]
def kx (seed:List UInt8) (key bit side:Nat):List UInt8:=ek 11 [fH seed key bit side]
def jC (c:Nat→Nat→Bool) (seed:List UInt8) (key n:Nat):List UInt8:=if c (n / 2) (n % 2) then fH seed key (n / 2) (n % 2) else kx seed key (n / 2) (n % 2)
def nz (c:Nat→Nat→Bool) (seed:List UInt8) (key:Nat):List (List UInt8):=(List.range 64).map (jC c seed key)
def iA (seed:List UInt8) (key:Nat):List UInt8:=ek 12 (nz (fun _ _=>false) seed key)
def qV (seed:List UInt8) (key:Nat) (iE:List UInt8):List (List UInt8):=nz (nV (fh iE)) seed key
def iF (d:UInt32) (l:List (List UInt8)) (n:Nat):List UInt8:=if nV d (n / 2) (n % 2) then ek 11 [l.getD n []] else l.getD n []
def iG (iE:List UInt8) (l:List (List UInt8)):List UInt8:=ek 12 ((List.range 64).map (iF (fh iE) l))
theorem tR (c:Nat→Nat→Bool) (seed:List UInt8) (key n:Nat):(jC c seed key n).length=32:=by
 unfold jC;split
 ·exact dg _ _
 ·exact dg _ _
theorem nA (c:Nat→Nat→Bool) (seed:List UInt8) (key:Nat):(nz c seed key).length=64:=by simp [nz]
theorem tS {c:Nat→Nat→Bool} {seed:List UInt8} {key:Nat}:∀ a∈nz c seed key,a.length=32:=fun a ha=>by
 obtain ⟨n,_,rfl⟩:=aE.1 ha;exact tR _ _ _ _
theorem Cq (seed:List UInt8) (key:Nat) (iE:List UInt8):iG iE (qV seed key iE)=iA seed key:=by
 unfold iG iA nz
 congr 1
 apply List.map_congr_left;intro n hn;have hn:=List.mem_range.1 hn
 have hg:(qV seed key iE).getD n []=jC (nV (fh iE)) seed key n:=by
  unfold qV nz;rw [aA,aL,List.getElem?_range hn]
  rfl
 have hR:jC (fun _ _=>false) seed key n=kx seed key (n / 2) (n % 2):=aB Bool.false_ne_true;rw [hR];unfold iF;rw [hg]
 cases hc:nV (fh iE) (n / 2) (n % 2) with
 | true =>
  have hP:jC (nV (fh iE)) seed key n=fH seed key (n / 2) (n % 2):=by unfold jC;rw [hc];exact aI rfl
  rw [hP,aI rfl,kx]
 | false =>
  have hP:jC (nV (fh iE)) seed key n=kx seed key (n / 2) (n % 2):=by unfold jC;rw [hc];exact aB (by decide)
  rw [hP,aB (by decide)]
def iS:List (List UInt8)→List (List UInt8)
 | a::b::r=>ek 14 [a,b]::iS r
 | _=>[]
def eX (seed:List UInt8):List (List UInt8):=(List.range 16).map (iA seed)
def pR (l:List (List UInt8)):Nat→List (List UInt8)
 | 0=>l
 | n+1=>iS (pR l n)
def kP (seed:List UInt8):List UInt8:=(pR (eX seed) 4).getD 0 []
def yh (l:List (List UInt8)) (i:Nat):List (List UInt8):=(List.range 4).map fun h=>(pR l h).getD ((i / 2 ^ h) ^^^ 1) []
structure xc where
 idx:Nat
 parts:List (List UInt8)
 path:List (List UInt8)
 deriving DecidableEq
def rK (seed:List UInt8) (i:Nat) (iE:List UInt8):xc:=⟨i,qV seed i iE,yh (eX seed) i⟩
def xc.right (s:xc):Prop:=s.idx<16∧s.parts.length=64∧(∀ a∈s.parts,a.length=32)∧s.path.length=4∧∀ a∈s.path,a.length=32
instance (s:xc):Decidable s.right:=by unfold xc.right;infer_instance
def lZ:Nat→List UInt8→List (List UInt8)→List UInt8
 | _,t,[]=>t
 | i,t,o::r=>lZ (i / 2) (if i % 2=0 then ek 14 [t,o] else ek 14 [o,t]) r
def xd (je iE:List UInt8) (s:xc):Prop:=s.right∧lZ s.idx (iG iE s.parts) s.path=je
instance (je iE:List UInt8) (s:xc):Decidable (xd je iE s):=by unfold xd;infer_instance
theorem iO:∀ l:List (List UInt8),(iS l).length=l.length / 2
 | []=>by simp [iS]
 | [_]=>by simp [iS]
 | _::_::r=>by simp only [iS,aN,iO r];omega
theorem sk:∀ (l:List (List UInt8)) (i:Nat),2*i+1<l.length→(iS l).getD i []=ek 14 [l.getD (2*i) [],l.getD (2*i+1) []]
 | [],i,h=>by simp at h
 | [_],i,h=>by simp at h
 | a::b::r,0,_=>rfl
 | a::b::r,i+1,h=>by
  have:=sk r i (by simp only [aN] at h;omega)
  show (iS r).getD i []=_
  rw [this]
  rfl
theorem tT:∀ l:List (List UInt8),∀ a∈iS l,a.length=32
 | [],a,h=>by cases h
 | [_],a,h=>by cases h
 | x::y::r,a,h=>by
  rcases aQ.1 h with rfl|h
  ·exact dg _ _
  ·exact tT r a h
theorem mP {l:List (List UInt8)} (hl:l.length=16):∀ n,n≤4→(pR l n).length=2 ^ (4 - n):=by
 intro n hn
 match n,hn with
 | 0,_=>exact hl
 | 1,_=>simp [pR,iO,hl]
 | 2,_=>simp [pR,iO,hl]
 | 3,_=>simp [pR,iO,hl]
 | 4,_=>simp [pR,iO,hl]
theorem ky (seed:List UInt8):(eX seed).length=16:=by simp [eX]
theorem ng {seed:List UInt8}:∀ a∈eX seed,a.length=32:=fun a ha=>by
 obtain ⟨n,_,rfl⟩:=aE.1 ha;exact dg _ _
theorem qW {l:List (List UInt8)} (h:∀ a∈l,a.length=32):∀ n,∀ a∈pR l n,a.length=32
 | 0=>h
 | n+1=>tT _
theorem vA {l:List (List UInt8)} {i:Nat} (h:∀ a∈l,a.length=32) (hi:i<l.length):(l.getD i []).length=32:=by
 rw [aA,ae hi];exact h _ (ax hi)
theorem j5 (seed:List UInt8):(kP seed).length=32:=vA (qW ng 4) (by rw [mP (ky seed) 4 zo];decide)
theorem RP:∀ {n:Nat},n<16→n ^^^ 1=if n % 2=0 then n+1 else n - 1:=by decide
theorem oU {l:List (List UInt8)} {i:Nat} (hi:i<l.length) (OX:i<16) (he:l.length % 2=0):(if i % 2=0 then ek 14 [l.getD i [],l.getD (i ^^^ 1) []] else ek 14 [l.getD (i ^^^ 1) [],l.getD i []])=(iS l).getD (i / 2) []:=by
 rw [sk l (i / 2) zo,RP OX]
 split
 ·rename_i h;rw [show 2*(i / 2)=i by omega]
 ·rename_i h;rw [show 2*(i / 2)+1=i by omega,show 2*(i / 2)=i - 1 by omega]
theorem JS (seed:List UInt8) {i:Nat} (hi:i<16):lZ i ((eX seed).getD i []) (yh (eX seed) i)=kP seed:=by
 have hl:=mP (ky seed);have s0:=oU (l:=pR (eX seed) 0) (i:=i) (by rw [hl 0 zo];simpa using hi) zo (by rw [hl 0 zo]);have s1:=oU (l:=pR (eX seed) 1) (i:=i / 2) (by rw [hl 1 zo];simp;omega) zo (by rw [hl 1 zo]);have s2:=oU (l:=pR (eX seed) 2) (i:=i / 2 / 2) (by rw [hl 2 zo];simp;omega) zo (by rw [hl 2 zo]);have s3:=oU (l:=pR (eX seed) 3) (i:=i / 2 / 2 / 2) (by rw [hl 3 zo];simp;omega) zo (by rw [hl 3 zo])
 show lZ i ((pR (eX seed) 0).getD i []) [(pR (eX seed) 0).getD ((i / 2 ^ 0) ^^^ 1) [],(pR (eX seed) 1).getD ((i / 2 ^ 1) ^^^ 1) [],(pR (eX seed) 2).getD ((i / 2 ^ 2) ^^^ 1) [],(pR (eX seed) 3).getD ((i / 2 ^ 3) ^^^ 1) []]=_
 rw [show i / 2 ^ 0=i by simp,show i / 2 ^ 1=i / 2 by simp,show i / 2 ^ 2=i / 2 / 2 by rw [Nat.div_div_eq_div_mul],show i / 2 ^ 3=i / 2 / 2 / 2 by rw [Nat.div_div_eq_div_mul,Nat.div_div_eq_div_mul]];simp only [lZ];rw [s0]
 show (if i / 2 / 2 / 2 % 2=0 then ek 14 [if i / 2 / 2 % 2=0 then ek 14 [if i / 2 % 2=0 then ek 14 [(pR (eX seed) 1).getD (i / 2) [],_] else ek 14 [_,(pR (eX seed) 1).getD (i / 2) []],_] else ek 14 [_,if i / 2 % 2=0 then ek 14 [(pR (eX seed) 1).getD (i / 2) [],_] else ek 14 [_,(pR (eX seed) 1).getD (i / 2) []]],_] else ek 14 [_,if i / 2 / 2 % 2=0 then ek 14 [if i / 2 % 2=0 then ek 14 [(pR (eX seed) 1).getD (i / 2) [],_] else ek 14 [_,(pR (eX seed) 1).getD (i / 2) []],_] else ek 14 [_,if i / 2 % 2=0 then ek 14 [(pR (eX seed) 1).getD (i / 2) [],_] else ek 14 [_,(pR (eX seed) 1).getD (i / 2) []]]])=_
 rw [s1]
 show (if i / 2 / 2 / 2 % 2=0 then ek 14 [if i / 2 / 2 % 2=0 then ek 14 [(pR (eX seed) 2).getD (i / 2 / 2) [],_] else ek 14 [_,(pR (eX seed) 2).getD (i / 2 / 2) []],_] else ek 14 [_,if i / 2 / 2 % 2=0 then ek 14 [(pR (eX seed) 2).getD (i / 2 / 2) [],_] else ek 14 [_,(pR (eX seed) 2).getD (i / 2 / 2) []]])=_
 rw [s2]
 show (if i / 2 / 2 / 2 % 2=0 then ek 14 [(pR (eX seed) 3).getD (i / 2 / 2 / 2) [],_] else ek 14 [_,(pR (eX seed) 3).getD (i / 2 / 2 / 2) []])=_
 rw [s3];rw [show i / 2 / 2 / 2 / 2=0 by omega]
 rfl
theorem lC (l:List (List UInt8)) (i:Nat):(yh l i).length=4:=by simp [yh]
theorem GO {seed:List UInt8} {i:Nat} (hi:i<16):∀ a∈yh (eX seed) i,a.length=32:=fun a ha=>by
 obtain ⟨h,hh,rfl⟩:=aE.1 ha;have hh:=List.mem_range.1 hh;refine vA (qW ng h) ?_;rw [mP (ky seed) h zo,RP (Nat.lt_of_le_of_lt (Nat.div_le_self _ _) hi)]
 match h,hh with
 | 0,_=>simp;split<;>omega
 | 1,_=>simp;split<;>omega
 | 2,_=>simp;split<;>omega
 | 3,_=>simp;split<;>omega
theorem j6 {seed iE:List UInt8} {i:Nat} (hi:i<16):(rK seed i iE).right:=⟨hi,nA _ _ _,tS,lC _ _,GO hi⟩
theorem yi {seed iE:List UInt8} {i:Nat} (hi:i<16):xd (kP seed) iE (rK seed i iE):=by
 refine ⟨j6 hi,?_⟩
 show lZ i (iG iE (qV seed i iE)) (yh (eX seed) i)=_
 rw [Cq,← JS seed hi]
 congr 1
 unfold eX;rw [aA,aL,List.getElem?_range hi]
 rfl
end Go.Proofs
namespace Go.Proofs
attribute [local irreducible] Bs.cE Bs.Do Bs.O Bs.W Bs.Fin Bs.A Bs.Ct Bs.cF Bs.Rd Bs.Sat Bs.cL Bs.Ob Bs.dJ Bs.View Bs.cB Bs.Ex Bs.dH Bs.Pu Bs.eZ Bs.dO Bs.dZ
open Go.Bs
open Tryz
variable (R:List cK) (e:World)
theorem mQ (n j b:Nat) (hj:j≤b):IntKind.u8.wrap ((n:Int).fdiv (2 ^ (min j b)))=((UInt8.ofNat (n / 2 ^ j)).toNat:Int):=by
 rw [Nat.min_eq_left hj,Int.fdiv_eq_ediv_of_nonneg _ (by exact Int.le_of_lt (Int.pow_pos zo))];have h2:(2:Int) ^ j=((2 ^ j:Nat):Int):=by simp
 rw [h2,← Int.natCast_ediv];unfold IntKind.wrap
 simp [IntKind.bits,IntKind.signed]
theorem Er (n:Nat):IntKind.u8.wrap (n:Int)=((UInt8.ofNat n).toNat:Int):=by
 unfold IntKind.wrap
 simp [IntKind.bits,IntKind.signed]
theorem Es (ad:Option Addr) (c:Nat) (b:List UInt8) (n:Nat) (hn:n<4294967296) (hl:b.length+4≤140737488355328) :
 Ct prog 146 #[.slice ad b.length c,.int .u32 n] e (cT (.slice ad b.length c) b::R) (fun v' L'=>∃ ad c,v'=.slice ad (b++be n 4).length c∧L'=cT (.slice ad (b++be n 4).length c) (b++be n 4)::R):=by
 refine a8 (args:=[_,_]) func146 rfl ntmps146 results146 rfl ?_
 (repeat (refine wA ?_;intros))
 have e1:[Value.int .u8 (IntKind.u8.wrap ((n:Int).fdiv (2 ^ min (24:Int).toNat IntKind.u32.bits))),.int .u8 (IntKind.u8.wrap ((n:Int).fdiv (2 ^ min (16:Int).toNat IntKind.u32.bits))),.int .u8 (IntKind.u8.wrap ((n:Int).fdiv (2 ^ min (8:Int).toNat IntKind.u32.bits))),.int .u8 (IntKind.u8.wrap (n:Int))]=(be n 4).map u8:=by
  have a1:=mQ n 24 32 zo;have a2:=mQ n 16 32 zo;have a3:=mQ n 8 32 zo;have b:=Er n
  show [Value.int .u8 (IntKind.u8.wrap ((n:Int).fdiv (2 ^ min 24 32))),.int .u8 (IntKind.u8.wrap ((n:Int).fdiv (2 ^ min 16 32))),.int .u8 (IntKind.u8.wrap ((n:Int).fdiv (2 ^ min 8 32))),.int .u8 (IntKind.u8.wrap (n:Int))]=_
  rw [a1,a2,a3,b]
  simp [be,u8]
 rw [e1];refine bC (bo rfl rfl rfl (.succ .zero) (bB .zero (by rw [ab,cY]) zl) rfl rfl lQ zm zo fun dW c2 _=>?_)
 refine wB ?_;have e2:(b++be n 4).length=b.length+4:=by rw [aa,cY]
 refine aY (cT (.slice dW (b++be n 4).length c2) (b++be n 4)::R) rfl ?_ ⟨dW,c2,by rw [e2];rfl,rfl⟩;unfold cT;rw [e2,ah];exact zE
def dF (l:List UInt8) (i:Nat):UInt32:=(l.take i).foldl (fun a c=>(a <<< UInt32.ofNat (Int.toNat 8)) ||| c.toUInt32) 0
theorem dF4 {h:List UInt8} (hl:4≤h.length):dF h 4=wd h 0:=by
 rcases h with _|⟨c0,_|⟨c1,_|⟨c2,_|⟨c3,r⟩⟩⟩⟩
 ·simp at hl
 ·simp at hl
 ·simp at hl
 ·simp at hl
 ·simp only [dF,List.take_succ_cons,List.take_zero,List.foldl_cons,List.foldl_nil];rw [IF];simp only [wd,Nat.mul_zero,aC,List.getD_cons_zero,List.getD_cons_succ]
theorem wj (v:Value) (b:List UInt8) (hv:db R v b) (hb:b.length≤1000000) :
 Ct prog 293 #[v] e R (fun v' L'=>v'=cX (fh b)∧R=L'):=by
 refine a7 (cz hv) fun ho=>?_
 refine a8 (args:=[_]) func293 rfl ntmps293 results293 rfl ?_
 (repeat' first|(apply bZ;exact rfl;exact rfl;exact rfl;exact .one (eR ho) rfl .nil;exact rfl;exact rfl;intro _)|refine Za ?_|refine Zb ?_|apply Zc|apply Zd|apply Ze|apply Zf)
 rename_i g;refine aZ rfl rfl (fe _ e 13 _ [(v,b)] (bB .zero rfl zl) (fun a ha=>by rw [an.1 ha];exact hv.tail) (fun a ha=>by rw [an.1 ha];exact hb) (by simp)) ?_;rintro _ _ ⟨ad,c,rfl,rfl⟩;rw [show [(v,b)].map (·.2)=[b] from rfl];have hl:=dg 13 [b];have hd:fh b=wd (ek 13 [b]) 0:=rfl
 generalize ek 13 [b]=h at *
 refine bn (fk .zero) ?_;rintro ⟨⟨a,cc,hq,wa,wZ,Ml⟩,_⟩;obtain ⟨rfl,_,rfl⟩:=Value.slice.inj hq;simp only [maxLen] at wZ
 rcases Ml with ⟨_,_,h0⟩|⟨p,rfl⟩
 ·omega
 have hf:∀ i (hi:i<h.length),dF h (i+1)=(dF h i <<< UInt32.ofNat (Int.toNat 8)) ||| (h[i]'hi).toUInt32:=fun i hi=>by
  unfold dF;rw [aD hi,List.foldl_append]
  rfl
 have h4:dF h 4=wd h 0:=dF4 zo;refine wB ?_;refine bq (ι:=Nat) (fun i=>[(3,cX (dF h i)),(9,.slice (some ⟨p,0,none⟩) 4 c),(10,.int .i64 4),(11,.int .i64 (i:Int))]) (fun _=>cT (.slice (some ⟨p,0,none⟩) h.length c) h::cL g [v] 30 (0,0)::R) (fun i=>i≤4) (fun i=>4 - i) 0 zo zS aX ?_;intro i hi
 by_cases cP:i<4
 ·have Ag:i<h.length:=by omega
  have hr:Rd (cT (.slice (some ⟨p,0,none⟩) h.length c) h::cL g [v] 30 (0,0)::R) ⟨p,0+i,none⟩ (u8 (h[i]'Ag)):=db.elem (bb .zero) (ae Ag);have hs:=hf i Ag
  generalize h[i]'Ag=b0 at *
  generalize Of:dF h (i+1)=x1 at *
  generalize dF h i=x0 at *
  clear h4 hd hf
  (repeat' first|refine YV ?_|refine YX ?_|refine Y1 ?_|refine Za ?_|refine Zb ?_|apply Zc|apply Zd|apply Ze|apply Zf|refine Zi ?_|refine ZA ?_|refine ZS ?_|refine Yw ?_|refine Yz ?_|apply YB|apply YC|apply YH)
  rw [← hs,← Of];exact bi (i+1) cP zo zS aX
 ·have JT:i=4:=by omega
  subst JT;refine wB ?_;refine aY R rfl zE ⟨?_,rfl⟩;rw [hd,← h4]
  rfl
theorem Bh (d:UInt32) (bit side:Nat) (hb:bit<32) (hs:side<2) :
 Ct prog 294 #[cX d,.int .i64 (bit:Int),.int .i64 (side:Int)] e R (fun v' L'=>v'=.bool (nV d bit side)∧R=L'):=by
 refine a8 (args:=[_,_,_]) func294 rfl ntmps294 results294 rfl ?_;have ht:nV d bit side=decide (IntKind.i64.wrap (Go.bits .and .u32 ((d >>> UInt32.ofNat (31 - (bit:Int)).toNat).toNat:Int) 1)=(side:Int)):=rfl;rw [ht]
 by_cases h:IntKind.i64.wrap (Go.bits .and .u32 ((d >>> UInt32.ofNat (31 - (bit:Int)).toNat).toNat:Int) 1)=(side:Int)
 ·rw [ay h]
  (repeat' first|(apply O.xR;exact rfl;exact rfl;omega;exact rfl)|refine Za ?_|refine Zb ?_|apply Zc|apply Zd|apply Ze|apply Zf|refine ZM ?_|refine ZU ?_|refine ZZ ?_|refine Z2 ?_|apply YE)
  exact aY R rfl aX ⟨rfl,rfl⟩
 ·rw [aq h]
  (repeat' first|(apply O.xR;exact rfl;exact rfl;omega;exact rfl)|refine Za ?_|refine Zb ?_|apply Zc|apply Zd|apply Ze|apply Zf|refine ZN ?_|refine ZU ?_|refine ZZ ?_|refine Z2 ?_|apply YE)
  exact aY R rfl aX ⟨rfl,rfl⟩
theorem wk (v:Value) (seed:List UInt8) (key bit side:Nat) (hv:db R v seed) (hs:seed.length≤1000) (hk:key<16) (hb:bit<32) (hd:side<2) :
 Ct prog 297 #[v,.int .i64 (key:Int),.int .i64 (bit:Int),.int .i64 (side:Int)] e R (fun v' L'=>∃ ad c,v'=.slice ad (fH seed key bit side).length c∧L'=cT (.slice ad (fH seed key bit side).length c) (fH seed key bit side)::R):=by
 refine a7 (cz hv) fun ho=>?_
 refine a8 (args:=[_,_,_,_]) func297 rfl ntmps297 results297 rfl ?_
 (repeat' first|(apply bZ;exact rfl;exact rfl;exact rfl;exact .one (eR ho) rfl (.one rfl rfl .nil);exact rfl;exact rfl;intro _)|refine Za ?_|refine Zb ?_|apply Zc|apply Zd|apply Ze|apply Zf|refine ZY ?_|refine ZZ ?_|refine Z1 ?_|refine Yi fun _=>?_|fail)
 rename_i g g2
 have e1:[Value.int .u8 (IntKind.u8.wrap ((key:Int).fdiv (2 ^ min (24:Int).toNat IntKind.u32.bits))),.int .u8 (IntKind.u8.wrap ((key:Int).fdiv (2 ^ min (16:Int).toNat IntKind.u32.bits))),.int .u8 (IntKind.u8.wrap ((key:Int).fdiv (2 ^ min (8:Int).toNat IntKind.u32.bits))),.int .u8 (key:Int),.int .u8 (bit:Int),.int .u8 (side:Int)]=(be key 4++[UInt8.ofNat bit,UInt8.ofNat side]).map u8:=by
  have a1:=mQ key 24 32 zo;have a2:=mQ key 16 32 zo;have a3:=mQ key 8 32 zo
  show [Value.int .u8 (IntKind.u8.wrap ((key:Int).fdiv (2 ^ min 24 32))),.int .u8 (IntKind.u8.wrap ((key:Int).fdiv (2 ^ min 16 32))),.int .u8 (IntKind.u8.wrap ((key:Int).fdiv (2 ^ min 8 32))),.int .u8 (key:Int),.int .u8 (bit:Int),.int .u8 (side:Int)]=_
  rw [a1,a2,a3]
  simp [be,u8,UInt8.toNat_ofNat_of_lt' (show key<256 by omega),UInt8.toNat_ofNat_of_lt' (show bit<256 by omega),UInt8.toNat_ofNat_of_lt' (show side<256 by omega),Nat.mod_eq_of_lt (show key<256 by omega),Nat.mod_eq_of_lt (show bit<256 by omega),Nat.mod_eq_of_lt (show side<256 by omega)]
 rw [e1];have h6:(be key 4++[UInt8.ofNat bit,UInt8.ofNat side]).length=6:=by rw [aa,cY];rfl
 have hr:db (cL g2 [v,.slice (some ⟨g,0,none⟩) 6 6] 30 (0,0)::cL g ((be key 4++[UInt8.ofNat bit,UInt8.ofNat side]).map u8) oP (0,0)::R) (.slice (some ⟨g,0,none⟩) 6 6) (be key 4++[UInt8.ofNat bit,UInt8.ofNat side]):=by
  have h:=bB (L:=cL g2 [v,.slice (some ⟨g,0,none⟩) 6 6] 30 (0,0)::cL g ((be key 4++[UInt8.ofNat bit,UInt8.ofNat side]).map u8) oP (0,0)::R) (k:=6) (.succ .zero) (by rw [ab];exact h6) zl;unfold db;rw [h6];exact h
 refine aZ rfl rfl (fe _ e 10 _ [(v,seed),(.slice (some ⟨g,0,none⟩) 6 6,be key 4++[UInt8.ofNat bit,UInt8.ofNat side])] (bB .zero rfl zl) (fun a ha=>by
  simp only [aQ,aO,or_false] at ha
  rcases ha with rfl|rfl
  ·exact hv.tail.tail
  ·exact hr) (fun a ha=>by
  simp only [aQ,aO,or_false] at ha
  rcases ha with rfl|rfl
  ·dsimp only;omega
  ·dsimp only;omega) (by simp)) ?_
 rintro _ _ ⟨ad,c,rfl,rfl⟩;refine wB ?_;exact aY (cT (.slice ad (fH seed key bit side).length c) (fH seed key bit side)::R) rfl zE ⟨ad,c,rfl,rfl⟩
theorem GP (v:Value) (seed:List UInt8) (key bit side:Nat) (hv:db R v seed) (hs:seed.length≤1000) (hk:key<16) (hb:bit<32) (hd:side<2) :
 Ct prog 273 #[v,.int .i64 (key:Int),.int .i64 (bit:Int),.int .i64 (side:Int)] e R (fun v' L'=>∃ ad c,v'=.slice ad (kx seed key bit side).length c∧L'=cT (.slice ad (kx seed key bit side).length c) (kx seed key bit side)::R):=by
 refine a8 (args:=[_,_,_,_]) func273 rfl ntmps273 results273 rfl ?_;refine wB ?_;refine aZ rfl rfl (wk _ e v seed key bit side hv hs hk hb hd) ?_;rintro _ _ ⟨ad,c,rfl,rfl⟩;have hr:∀ L,db (cT (.slice ad (fH seed key bit side).length c) (fH seed key bit side)::L) (.slice ad (fH seed key bit side).length c) (fH seed key bit side):=fun L=>bb .zero
 have hl:(fH seed key bit side).length=32:=dg _ _
 (repeat (refine wA ?_;intros))
 rename_i g;refine aZ rfl rfl (fe _ e 11 _ [(.slice ad (fH seed key bit side).length c,fH seed key bit side)] (bB .zero rfl zl) (fun a ha=>by rw [an.1 ha];exact (hr _).tail) (fun a ha=>by rw [an.1 ha];dsimp only;omega) (by simp)) ?_;rintro _ _ ⟨dW,c2,rfl,rfl⟩;refine wB ?_;exact aY (cT (.slice dW (kx seed key bit side).length c2) (kx seed key bit side)::R) rfl zE ⟨dW,c2,rfl,rfl⟩
abbrev Cr:Value:=.func (.func 297) #[] #[]
abbrev GQ:Value:=.func (.func 273) #[] #[]
theorem JU (c:Nat→Nat→Bool) (seed:List UInt8) (key bit side:Nat) (hs:side<2):jC c seed key (2*bit+side)=if c bit side then fH seed key bit side else kx seed key bit side:=by
 unfold jC;rw [show (2*bit+side) / 2=bit by omega,show (2*bit+side) % 2=side by omega]
theorem yj (v:Value) (seed:List UInt8) (key:Nat) (f:FuncId) (ws:List Value) (ch:Nat→Nat→Bool) [i:cJ prog f f] (hv:db R v seed) (hs:seed.length≤1000) (hk:key<16)
 (hch:∀ (M:List cK) (bit side:Nat),bit<32→side<2→Ct prog f (([]:List Value)++[Value.int .i64 (bit:Int),Value.int .i64 (side:Int)]++ws).toArray e (M++R) (fun v' L'=>v'=(if ch bit side then Cr else GQ)∧M++R=L')) :
 Ct prog 271 #[v,.int .i64 (key:Int),.func (.func f) #[] ws.toArray] e R (fun v' L'=>∃ ad c ts,v'=.slice ad ts.length c∧ts.map (·.2)=nz ch seed key∧L'=cV (.slice ad ts.length c) ts::cI ts::R):=by
 refine a8 (args:=[_,_,_]) func271 rfl ntmps271 results271 rfl ?_;refine wB ?_;refine bq (ι:=Nat × List eo × Option Addr × Nat) (fun i=>[(0,v),(1,.int .i64 (key:Int)),(2,.func (.func f) #[] ws.toArray),(7,.slice i.2.2.1 i.2.1.length i.2.2.2),(10,.int .i64 (i.1:Int))]) (fun i=>cV (.slice i.2.2.1 i.2.1.length i.2.2.2) i.2.1::cI i.2.1::R) (fun i=>i.1≤32∧i.2.1.map (·.2)=(List.range (2*i.1)).map (jC ch seed key)) (fun i=>32 - i.1) (0,[],none,0) ⟨by omega,rfl⟩ zS (cn dM (du eA 1)) ?_;rintro ⟨bit,ts,ad,c⟩ ⟨hb,fB⟩;dsimp only at hb fB ⊢
 by_cases cP:bit<32
 rotate_left
 ·have GR:bit=32:=by omega
  subst GR;refine wB ?_;exact aY _ rfl aX ⟨ad,c,ts,rfl,fB,rfl⟩
 refine wB ?_;refine bq (ι:=Nat × List eo × Option Addr × Nat) (fun i=>[(0,v),(1,.int .i64 (key:Int)),(2,.func (.func f) #[] ws.toArray),(7,.slice i.2.2.1 i.2.1.length i.2.2.2),(8,.int .i64 (bit:Int)),(10,.int .i64 (bit:Int)),(13,.int .i64 (i.1:Int))]) (fun i=>cV (.slice i.2.2.1 i.2.1.length i.2.2.2) i.2.1::cI i.2.1::R) (fun i=>i.1≤2∧i.2.1.map (·.2)=(List.range (2*bit+i.1)).map (jC ch seed key)) (fun i=>2 - i.1) (0,ts,ad,c) ⟨by omega,fB⟩ zS aX ?_;clear fB;rintro ⟨side,us,dW,c2⟩ ⟨JV,hZ⟩;dsimp only at JV hZ ⊢
 by_cases iH:side<2
 rotate_left
 ·have OY:side=2:=by omega
  subst OY;refine wB ?_;exact bi (bit+1,us,dW,c2) ⟨cP,hZ⟩ zd zS aX
 have LC:us.length=2*bit+side:=by simpa using congrArg List.length hZ
 have nf:=JU ch seed key bit side iH;have Cn:=tR ch seed key (2*bit+side)
 have lR:∀ (w:Value) (b:List UInt8),b=jC ch seed key (2*bit+side)→(us++[(w,b)]).map (·.2)=(List.range (2*bit+(side+1))).map (jC ch seed key):=fun w b h=>by
  rw [ah,hZ,show 2*bit+(side+1)=(2*bit+side)+1 by omega,List.range_succ,ah,h]
  rfl
 refine wB ?_;refine bC (Do.gD (us:=[]) (ws:=ws) rfl rfl rfl (hch [cV (.slice dW us.length c2) us,cI us] bit side cP iH) ?_)
 rintro _ _ ⟨rfl,rfl⟩;have QI:db (cV (.slice dW us.length c2) us::cI us::R) v seed:=hv.tail.tail
 cases hc:ch bit side with
 | true =>
  rw [hc] at nf
  (repeat (refine wA ?_;intros))
  refine bC (Do.gD (us:=[]) (ws:=[]) rfl rfl rfl (wk (cV (.slice dW us.length c2) us::cI us::R) e v seed key bit side QI hs hk cP iH) ?_)
  rintro _ _ ⟨eE,c3,rfl,rfl⟩;rw [show fH seed key bit side=jC ch seed key (2*bit+side) from nf.symm]
  generalize jC ch seed key (2*bit+side)=b at *
  (repeat (refine wA ?_;intros))
  rename_i g;refine bC (bo rfl rfl rfl (.succ (.succ .zero)) (bB .zero rfl zl) rfl rfl zO zm zo fun jB c4 _=>?_)
  refine wB ?_;refine bi (side+1,us++[(.slice eE b.length c3,b)],jB,c4) ⟨iH,lR _ _ rfl⟩ zd ?_ ?_
  ·dsimp only;rw [aa,aj];exact zS
  ·exact cn (show cB _ (dJ eA 1 (.slice jB (us.length+1) c4) (us.length+1) (us.map (·.1)++[.slice eE b.length c3])::cT (.slice eE b.length c3) b::cI us::R) from zE) gh
 | false =>
  rw [hc] at nf
  (repeat (refine wA ?_;intros))
  refine bC (Do.gD (us:=[]) (ws:=[]) rfl rfl rfl (GP (cV (.slice dW us.length c2) us::cI us::R) e v seed key bit side QI hs hk cP iH) ?_)
  rintro _ _ ⟨eE,c3,rfl,rfl⟩;rw [show kx seed key bit side=jC ch seed key (2*bit+side) from nf.symm]
  generalize jC ch seed key (2*bit+side)=b at *
  (repeat (refine wA ?_;intros))
  rename_i g;refine bC (bo rfl rfl rfl (.succ (.succ .zero)) (bB .zero rfl zl) rfl rfl zO zm zo fun jB c4 _=>?_)
  refine wB ?_;refine bi (side+1,us++[(.slice eE b.length c3,b)],jB,c4) ⟨iH,lR _ _ rfl⟩ zd ?_ ?_
  ·dsimp only;rw [aa,aj];exact zS
  ·exact cn (show cB _ (dJ eA 1 (.slice jB (us.length+1) c4) (us.length+1) (us.map (·.1)++[.slice eE b.length c3])::cT (.slice eE b.length c3) b::cI us::R) from zE) gh
theorem oV {ts:List eo} {l:List (List UInt8)} (h:ts.map (·.2)=l) {m:Nat} (hl:∀ a∈l,a.length=m):∀ a∈ts,a.2.length=m:=fun a ha=>hl _ (by rw [← h];exact aE.2 ⟨a,ha,rfl⟩)
theorem JW (M:List cK) (e:World) (bit side:Nat) :
 Ct prog 272 #[.int .i64 (bit:Int),.int .i64 (side:Int)] e M (fun v' L'=>v'=(if (fun _ _=>false:Nat→Nat→Bool) bit side then Cr else GQ)∧M=L'):=by
 refine a8 (args:=[_,_]) func272 rfl ntmps272 results272 rfl ?_;refine wB ?_;exact aY M rfl aX ⟨rfl,rfl⟩
theorem GS (M:List cK) (R:List cK) (e:World) (g T:Nat) (d:UInt32) (bit side:Nat) (hb:bit<32) (hs:side<2) :
 Ct prog 296 #[.int .i64 (bit:Int),.int .i64 (side:Int),pt g] e (M++cL g [cX d] T (0,0)::R) (fun v' L'=>v'=(if nV d bit side then Cr else GQ)∧M++cL g [cX d] T (0,0)::R=L'):=by
 refine a8 (args:=[_,_,_]) func296 rfl ntmps296 results296 rfl ?_;have hr:Rd (M++cL g [cX d] T (0,0)::R) ⟨g,0,none⟩ (cX d):=bQ (L7 .zero) rfl;refine wB ?_;refine aZ rfl rfl (Bh _ e d bit side hb hs) ?_;rintro _ _ ⟨rfl,rfl⟩
 cases nV d bit side with
 | true =>
  refine wB ?_;exact aY _ rfl aX ⟨rfl,rfl⟩
 | false =>
  refine wB ?_;exact aY _ rfl aX ⟨rfl,rfl⟩
theorem xe (v:Value) (seed:List UInt8) (key:Nat) (hv:db R v seed) (hs:seed.length≤1000) (hk:key<16) :
 Ct prog 225 #[v,.int .i64 (key:Int)] e R (fun v' L'=>∃ ad c,v'=.slice ad (iA seed key).length c∧L'=cT (.slice ad (iA seed key).length c) (iA seed key)::R):=by
 refine a8 (args:=[_,_]) func225 rfl ntmps225 results225 rfl ?_;refine wB ?_;refine aZ rfl rfl (yj R e v seed key 272 [] (fun _ _=>false) hv hs hk (fun M bit side _ _=>JW _ e bit side)) ?_;rintro _ _ ⟨ad,c,ts,rfl,fB,rfl⟩;have jN:=oV fB tS;have Cl:ts.length=64:=by have:=congrArg List.length fB;rw [ab,nA] at this;exact this
 refine wB ?_;refine aZ rfl rfl (fe _ e 12 _ ts (bb .zero) (dR.tail eH) (fun a ha=>by have:=jN a ha;omega) zo) ?_;rintro _ _ ⟨dW,c2,rfl,rfl⟩;rw [fB];refine wB ?_;exact aY (cT (.slice dW (iA seed key).length c2) (iA seed key)::R) rfl zE ⟨dW,c2,rfl,rfl⟩
theorem Ah (v u:Value) (seed iE:List UInt8) (key:Nat) (hv:db R v seed) (hs:seed.length≤1000) (hk:key<16) (hu:db R u iE) (hm:iE.length≤1000000) :
 Ct prog 263 #[v,.int .i64 (key:Int),u] e R (fun v' L'=>∃ ad c ts,v'=.slice ad ts.length c∧ts.map (·.2)=qV seed key iE∧L'=cV (.slice ad ts.length c) ts::cI ts::R):=by
 refine a8 (args:=[_,_,_]) func263 rfl ntmps263 results263 rfl ?_;refine wB ?_;refine aZ rfl rfl (wj R e u iE hu hm) ?_;rintro _ _ ⟨rfl,rfl⟩
 (repeat (refine wA ?_;intros))
 rename_i g;refine aZ rfl rfl (yj _ e v seed key 296 [pt g] (nV (fh iE)) hv.tail hs hk (fun M bit side hb hs=>GS M R e g _ (fh iE) bit side hb hs)) ?_;rintro _ _ ⟨ad,c,ts,rfl,fB,rfl⟩;refine wB ?_;exact aY (cV (.slice ad ts.length c) ts::cI ts::R) rfl zE ⟨ad,c,ts,rfl,fB,rfl⟩
theorem Ai (u v:Value) (iE:List UInt8) (ts:List eo) (hu:db R u iE) (hm:iE.length≤1000000) (hv:cF R 1 v ts.length (ts.map (·.1))) (ht:dR R ts) (Cl:ts.length=64) (jN:∀ a∈ts,a.2.length=32) :
 Ct prog 258 #[u,v] e R (fun v' L'=>∃ ad c,v'=.tuple #[.slice ad (iG iE (ts.map (·.2))).length c,.bool true]∧L'=cT (.slice ad (iG iE (ts.map (·.2))).length c) (iG iE (ts.map (·.2)))::R):=by
 refine a7 (hv.shape zo) ?_;rintro ⟨⟨wm,cap,rfl,h3,h4,h5,h6⟩,_⟩;simp only [maxLen] at h4
 rcases h6 with h6|⟨gl,ol,rfl⟩
 ·omega
 refine a8 (args:=[_,_]) func258 rfl ntmps258 results258 rfl ?_;refine wB ?_;refine aZ rfl rfl (wj R e u iE hu hm) ?_;rintro _ _ ⟨rfl,rfl⟩;refine wB ?_;refine bq (ι:=Nat × List eo × List eo × Option Addr × Nat) (fun i=>[(6,cX (fh iE)),(7,.slice i.2.2.2.1 i.2.1.length i.2.2.2.2),(15,.slice (some ⟨gl,ol,none⟩) ts.length cap),(16,.int .i64 (ts.length:Int)),(17,.int .i64 (i.1:Int))]) (fun i=>cV (.slice i.2.2.2.1 i.2.1.length i.2.2.2.2) i.2.1::cI i.2.2.1::R) (fun i=>i.1≤ts.length∧i.2.1.map (·.2)=(List.range i.1).map (iF (fh iE) (ts.map (·.2)))∧∀ x∈i.2.1,x∈i.2.2.1∨db R x.1 x.2) (fun i=>ts.length - i.1) (0,[],[],none,0) ⟨aH _,rfl,fun x h=>by cases h⟩ zS (cn dM (du eA 1)) ?_;rintro ⟨i,out,news,ad,c⟩ ⟨hi,lx,iX⟩;dsimp only at hi lx iX ⊢
 have Et:out.length=i:=by simpa using congrArg List.length lx
 by_cases cP:i<ts.length
 rotate_left
 ·have JT:i=64:=by omega
  rw [JT] at lx
  have lq:∀ a∈out,a.2.length≤1000000:=fun a ha=>by
   have:a.2∈(List.range 64).map (iF (fh iE) (ts.map (·.2))):=by rw [← lx];exact aE.2 ⟨a,ha,rfl⟩
   obtain ⟨n,hn,h⟩:=aE.1 this;have hn:=List.mem_range.1 hn;rw [← h];unfold iF
   split
   ·rw [dg];omega
   ·rw [vA (fun a ha=>by obtain ⟨x,hx,rfl⟩:=aE.1 ha;exact jN x hx) (by rw [ab];omega)];omega
  refine wB ?_
  refine aZ rfl rfl (fe _ e 12 _ out (bb .zero) (fun x hx=>by
   rcases iX x hx with h|h
   ·exact (eH (l:=news) x h).tail
   ·exact h.tail.tail) lq zo) ?_
  rintro _ _ ⟨dW,c2,rfl,rfl⟩;rw [lx,show ek 12 ((List.range 64).map (iF (fh iE) (ts.map (·.2))))=iG iE (ts.map (·.2)) from rfl];clear lq iX lx
  generalize iG iE (ts.map (·.2))=b at *
  refine wB ?_;exact aY (cT (.slice dW b.length c2) b::R) rfl zE ⟨dW,c2,rfl,rfl⟩
 have hr:Rd R ⟨gl,ol+i,none⟩ (ts[i]'cP).1:=hv.elem (by rw [aL,ae cP];rfl);have ju:=ht _ (ax cP);have aai:=jN _ (ax cP);have tg:(ts.map (·.2)).getD i []=(ts[i]'cP).2:=by rw [aA,aL,ae cP];rfl
 have kz:∀ (w:Value) (b:List UInt8),b=iF (fh iE) (ts.map (·.2)) i→(out++[(w,b)]).map (·.2)=(List.range (i+1)).map (iF (fh iE) (ts.map (·.2))):=fun w b h=>by
  rw [ah,lx,List.range_succ,ah,h]
  rfl
 have OZ:iF (fh iE) (ts.map (·.2)) i=if nV (fh iE) (i / 2) (i % 2) then ek 11 [(ts[i]'cP).2] else (ts[i]'cP).2:=by unfold iF;rw [tg]
 generalize ts[i]'cP=y at *
 obtain ⟨yv,yt⟩:=y;dsimp only at ju aai hr OZ
 refine bD (cF.shape ju.tail.tail zo) ?_;rintro ⟨⟨Xo,cy,rfl,_,_,_,_⟩,_⟩;have hoy:(Value.slice Xo yt.length cy).oneCell'=true:=rfl;have q2:((i:Int)).tdiv 2=((i / 2:Nat):Int):=by rw [Int.tdiv_eq_ediv_of_nonneg zo];omega
 have r2:((i:Int)).tmod 2=((i % 2:Nat):Int):=by rw [Int.tmod_eq_emod_of_nonneg zo];omega
 refine wB ?_;rw [show IntKind.i64.wrap (((i:Int)).tdiv 2)=((i / 2:Nat):Int) by rw [q2];exact wrap_i64 zo zo,r2];refine aZ rfl rfl (Bh _ e (fh iE) (i / 2) (i % 2) zo zo) ?_;rintro _ _ ⟨rfl,rfl⟩
 cases hc:nV (fh iE) (i / 2) (i % 2) with
 | true =>
  rw [hc] at OZ
  (repeat (refine wA ?_;intros))
  rename_i g;refine aZ rfl rfl (fe _ e 11 _ [(.slice Xo yt.length cy,yt)] (bB .zero rfl zl) (fun a ha=>by rw [an.1 ha];exact ju.tail.tail.tail) (fun a ha=>by rw [an.1 ha];dsimp only;omega) (by simp)) ?_;rintro _ _ ⟨eE,c3,rfl,rfl⟩;rw [show ek 11 ([((.slice Xo yt.length cy:Value),yt)].map (·.2))=ek 11 [yt] from rfl,show ek 11 [yt]=iF (fh iE) (ts.map (·.2)) i from OZ.symm]
  generalize iF (fh iE) (ts.map (·.2)) i=b at *
  (repeat (refine wA ?_;intros))
  rename_i g2;refine bC (bo rfl rfl rfl (.succ (.succ (.succ .zero))) (bB .zero rfl zl) rfl rfl zO zm zo fun jB c4 _=>?_)
  refine wB ?_;refine bi (i+1,out++[(.slice eE b.length c3,b)],news++[(.slice eE b.length c3,b)],jB,c4) ⟨cP,kz _ _ rfl,fun x hx=>?_⟩ zd ?_ ?_
  ·rcases aJ.1 hx with h|h
   ·rcases iX x h with h|h
    ·exact .inl (List.mem_append_left _ h)
    ·exact .inr h
   ·exact .inl (List.mem_append_right _ h)
  ·dsimp only;rw [aa,aj];exact zS
  ·refine cn (show cB _ (cT (.slice eE b.length c3) b::cI news::dJ eA 1 (.slice jB (out.length+1) c4) (out.length+1) (out.map (·.1)++[.slice eE b.length c3])::R) from zE) (cn (jw (a:=(.slice eE b.length c3,b))) (cn (bw (.succ .zero) aX) (cn eL ?_)));simp only [cV,aa,aj,ah,List.map_cons,List.map_nil];exact zE
 | false =>
  rw [hc] at OZ
  (repeat (refine wA ?_;intros))
  rename_i g2;refine bC (bo rfl rfl rfl (.succ .zero) (bB .zero rfl zl) rfl rfl zO zm zo fun jB c4 _=>?_)
  refine wB ?_;refine bi (i+1,out++[(.slice Xo yt.length cy,yt)],news,jB,c4) ⟨cP,kz _ _ OZ.symm,fun x hx=>?_⟩ zd ?_ ?_
  ·rcases aJ.1 hx with h|h
   ·exact iX x h
   ·rw [an.1 h];exact .inr ju
  ·dsimp only;rw [aa,aj];exact zS
  ·simp only [cV,aa,aj,ah,List.map_cons,List.map_nil];exact zE
def mR (L:List cK) (v:Value) (bs:List (List UInt8)):Prop:=∃ ts:List eo,ts.map (·.2)=bs∧cF L 1 v ts.length (ts.map (·.1))∧dR L ts
theorem mR.cM {L L':List cK} {v:Value} {bs:List (List UInt8)} (h:mR L' v bs) (f:cB L L'):mR L v bs:=by
 obtain ⟨ts,h1,h2,h3⟩:=h;exact ⟨ts,h1,h2.cM f,fun a ha=>(h3 a ha).cM f⟩
theorem mR.tail {A:cK} {L:List cK} {v:Value} {bs:List (List UInt8)} (h:mR L v bs):mR (A::L) v bs:=h.cM (cB.drop aX)
theorem mR.one {L:List cK} {v:Value} {bs:List (List UInt8)} (h:mR L v bs):∀ x,dO L x→v.oneCell'=true:=fun x hx=>by
 obtain ⟨ts,_,h2,_⟩:=h;obtain ⟨⟨ad,cap,rfl,_⟩,_⟩:=h2.shape zo x hx
 rfl
theorem wo (v:Value) (ts:List eo) (f:FuncId) (us ws:List Value) (p:Nat→Bool) [i:cJ prog f f] (hv:cF R 1 v ts.length (ts.map (·.1))) (hl:ts.length≤1000000)
 (hf:∀ (i:Nat) (h:i<ts.length),Ct prog f (us++[(ts[i]).1]++ws).toArray e R (fun v' L'=>v'=.bool (p i)∧R=L')) :
 Ct prog 264 #[v,.func (.func f) us.toArray ws.toArray] e R (fun v' L'=>(∃ k:Int,v'=.int .i64 k∧((k = -1∧∀ i,i<ts.length→p i=false)∨(∃ j:Nat,k=j∧j<ts.length∧p j=true∧∀ i,i<j→p i=false)))∧R=L'):=by
 refine a7 (hv.shape zo) ?_;rintro ⟨⟨ad,cap,rfl,h3,h4,h5,h6⟩,_⟩;refine a8 (args:=[_,_]) func264 rfl ntmps264 results264 rfl ?_;refine wB ?_;refine bq (ι:=Nat) (fun i=>[(0,.slice ad ts.length cap),(1,.func (.func f) us.toArray ws.toArray),(7,.int .i64 (ts.length:Int)),(8,.int .i64 (i:Int))]) (fun _=>R) (fun i=>i≤ts.length∧∀ j,j<i→p j=false) (fun i=>ts.length - i) 0 ⟨aH _,fun j h=>absurd h (Nat.not_lt_zero j)⟩ zS aX ?_;rintro i ⟨h1,h2⟩
 by_cases cP:i<ts.length
 rotate_left
 ·refine wB ?_;exact aY R rfl aX ⟨⟨-1,rfl,.inl ⟨rfl,fun j hj=>h2 j zo⟩⟩,rfl⟩
 rcases h6 with h6|⟨gl,ol,rfl⟩
 ·omega
 have hr:Rd R ⟨gl,ol+i,none⟩ (ts[i]'cP).1:=hv.elem (by rw [aL,ae cP];rfl);have JX:=hf i cP
 generalize (ts[i]'cP).1=y at *
 refine wB ?_;refine O.gD (us:=us) (ws:=ws) rfl rfl rfl JX ?_;rintro _ _ ⟨rfl,rfl⟩
 cases hp:p i with
 | false =>
  refine wB ?_;refine bi (i+1) ⟨cP,fun j hj=>?_⟩ zo zS aX
  by_cases A3:j=i
  ·subst A3;exact hp
  ·exact h2 j zo
 | true =>
  refine wB ?_;exact aY R rfl aX ⟨⟨i,rfl,.inr ⟨i,rfl,cP,hp,h2⟩⟩,rfl⟩
theorem qk (v:Value) (ts:List eo) (f:FuncId) (us ws:List Value) (p:Nat→Bool) [i:cJ prog f f] (hv:cF R 1 v ts.length (ts.map (·.1))) (hl:ts.length≤1000000)
 (hf:∀ (i:Nat) (h:i<ts.length),Ct prog f (us++[(ts[i]).1]++ws).toArray e R (fun v' L'=>v'=.bool (p i)∧R=L')) :
 Ct prog 203 #[v,.func (.func f) us.toArray ws.toArray] e R (fun v' L'=>v'=.bool (decide (∃ i,i<ts.length∧p i=true))∧R=L'):=by
 refine a8 (args:=[_,_]) func203 rfl ntmps203 results203 rfl ?_;refine wB ?_;refine aZ rfl rfl (wo _ e v ts f us ws p hv hl hf) ?_;rintro _ _ ⟨⟨k,rfl,hk⟩,rfl⟩;rcases hk with ⟨rfl,hk⟩|⟨j,rfl,hj,hp,_⟩
 ·rw [aq (fun ⟨i,h1,h2⟩=>by rw [hk i h1] at h2;cases h2)];refine wB ?_;exact aY R rfl aX ⟨rfl,rfl⟩
 ·rw [ay ⟨j,hj,hp⟩];refine wB ?_;exact aY R rfl aX ⟨rfl,rfl⟩
theorem pL (v:Value) (seed:List UInt8) (hv:db R v seed) (hs:seed.length≤1000) :
 Ct prog 143 #[v] e R (fun v' L'=>∃ ad c ts,v'=.slice ad ts.length c∧ts.map (·.2)=eX seed∧L'=cV (.slice ad ts.length c) ts::cI ts::R):=by
 refine a8 (args:=[_]) func143 rfl ntmps143 results143 rfl ?_;refine wB ?_;refine bq (ι:=Nat × List eo × Option Addr × Nat) (fun i=>[(0,v),(3,.slice i.2.2.1 i.2.1.length i.2.2.2),(5,.int .i64 (i.1:Int))]) (fun i=>cV (.slice i.2.2.1 i.2.1.length i.2.2.2) i.2.1::cI i.2.1::R) (fun i=>i.1≤16∧i.2.1.map (·.2)=(List.range i.1).map (iA seed)) (fun i=>16 - i.1) (0,[],none,0) ⟨by omega,rfl⟩ zS (cn dM (du eA 1)) ?_;rintro ⟨i,ts,ad,c⟩ ⟨hi,fB⟩;dsimp only at hi fB ⊢
 have Et:ts.length=i:=by simpa using congrArg List.length fB
 by_cases cP:i<16
 rotate_left
 ·have JT:i=16:=by omega
  subst JT;refine wB ?_;exact aY _ rfl aX ⟨ad,c,ts,rfl,fB,rfl⟩
 have kz:∀ (w:Value),(ts++[(w,iA seed i)]).map (·.2)=(List.range (i+1)).map (iA seed):=fun w=>by
  rw [ah,fB,List.range_succ,ah]
  rfl
 have Vu:=xe (cV (.slice ad ts.length c) ts::cI ts::R) e v seed i hv.tail.tail hs cP
 generalize iA seed i=b at *
 refine wB ?_;refine aZ rfl rfl Vu ?_;rintro _ _ ⟨eE,c3,rfl,rfl⟩
 (repeat (refine wA ?_;intros))
 refine bC (bo rfl rfl rfl (.succ (.succ .zero)) (bB .zero rfl zl) rfl rfl zO zm zo fun jB c4 _=>?_)
 refine wB ?_;refine bi (i+1,ts++[(.slice eE b.length c3,b)],jB,c4) ⟨cP,kz _⟩ zd ?_ ?_
 ·dsimp only;rw [aa,aj];exact zS
 ·exact cn (show cB _ (dJ eA 1 (.slice jB (ts.length+1) c4) (ts.length+1) (ts.map (·.1)++[.slice eE b.length c3])::cT (.slice eE b.length c3) b::cI ts::R) from zE) gh
theorem fa {ts:List eo} {i:Nat} (h:i<ts.length):(ts.map (·.2)).getD i []=(ts[i]'h).2:=by
 rw [aA,aL,ae h];rfl
theorem yl (v:Value) (ts:List eo) (hv:cF R 1 v ts.length (ts.map (·.1))) (ht:dR R ts) (jN:∀ a∈ts,a.2.length=32) (hl:ts.length≤16) :
 Ct prog 144 #[v] e R (fun v' L'=>∃ ad c us,v'=.slice ad us.length c∧us.map (·.2)=iS (ts.map (·.2))∧L'=cV (.slice ad us.length c) us::cI us::R):=by
 refine a7 (hv.shape zo) ?_;rintro ⟨⟨wm,cap,rfl,h3,h4,h5,h6⟩,_⟩;simp only [maxLen] at h4
 have rL:=iO (ts.map (·.2));rw [ab] at rL
 refine a8 (args:=[_]) func144 rfl ntmps144 results144 rfl ?_;refine wB ?_;refine bq (ι:=Nat × List eo × Option Addr × Nat) (fun i=>[(0,.slice wm ts.length cap),(3,.slice i.2.2.1 i.2.1.length i.2.2.2),(4,.int .i64 (2*(i.1:Int)))]) (fun i=>cV (.slice i.2.2.1 i.2.1.length i.2.2.2) i.2.1::cI i.2.1::R) (fun i=>2*i.1≤ts.length∧i.2.1.map (·.2)=(iS (ts.map (·.2))).take i.1) (fun i=>ts.length - i.1) (0,[],none,0) ⟨by omega,by simp⟩ zS (cn dM (du eA 1)) ?_;rintro ⟨i,us,ad,c⟩ ⟨hi,hZ⟩;dsimp only at hi hZ ⊢
 have Et:us.length=i:=by have:=congrArg List.length hZ;rw [ab,aF] at this;omega
 by_cases cP:2*i+1<ts.length
 rotate_left
 ·rw [aG zo] at hZ
  refine wB ?_;exact aY _ rfl aX ⟨ad,c,us,rfl,hZ,rfl⟩
 have ha:=sk (ts.map (·.2)) i (by rw [ab];exact cP);rw [fa (show 2*i<ts.length by omega),fa cP] at ha
 have kz:∀ (w:Value) (b:List UInt8),b=(iS (ts.map (·.2))).getD i []→(us++[(w,b)]).map (·.2)=(iS (ts.map (·.2))).take (i+1):=fun w b h=>by
  rw [ah,hZ,aD zo,h]
  congr 1
  rw [aA,ae zo]
  rfl
 rcases h6 with h6|⟨gl,ol,rfl⟩
 ·omega
 have QB:Rd R ⟨gl,ol+2*i,none⟩ (ts[2*i]'zo).1:=hv.elem (by rw [aL,ae zo];rfl);have OQ:Rd R ⟨gl,ol+(2*i+1),none⟩ (ts[2*i+1]'cP).1:=hv.elem (by rw [aL,ae cP];rfl);have O0:=ht _ (ax (show 2*i<ts.length by omega));have Og:=ht _ (ax cP);have hz0:=jN _ (ax (show 2*i<ts.length by omega));have Ru:=jN _ (ax cP)
 generalize ts[2*i]'zo=y0 at *
 generalize ts[2*i+1]'cP=y1 at *
 obtain ⟨v0,b0⟩:=y0;obtain ⟨v1,b1⟩:=y1;dsimp only at QB OQ O0 Og hz0 Ru ha
 refine bD (cz O0.tail.tail) fun ho0=>?_
 refine bD (cz Og.tail.tail) fun Xp=>?_
 rw [show (2*(i:Int))=((2*i:Nat):Int) by omega];refine wB ?_;refine bk (id:=5) [14] (cI us::R) mixed ?_
 (refine tM 0 ?_;refine tM 1 ?_;refine tM 2 ?_;refine tk 3 _ rfl (cE.iy rfl rfl zo) ?_;refine tL 4 ?_;refine tM 5 ?_;refine tM 6 ?_;refine tk 7 _ rfl (cE.kS rfl rfl zo) ?_;refine tk 8 _ rfl (cE.iy rfl rfl zo) ?_;refine tL 9 ?_)
 refine tO 10 ?_;refine bF (n:=1) (z:=nY) (cs:=[v0,v1]) rfl rfl rfl rfl (.one (eR ho0) rfl (.one (eR Xp) rfl .nil)) rfl (fun gb=>⟨fun _=>zE,?_⟩);refine tO 11 ?_
 refine bg rfl rfl (fe _ e 14 _ [(v0,b0),(v1,b1)] (bB .zero rfl zl) (fun a ha=>by
  simp only [aQ,aO,or_false] at ha
  rcases ha with rfl|rfl
  ·exact O0.tail.tail.tail
  ·exact Og.tail.tail.tail) (fun a ha=>by
  simp only [aQ,aO,or_false] at ha
  rcases ha with rfl|rfl
  ·dsimp only;omega
  ·dsimp only;omega) (by simp)) ?_
 rintro _ _ ⟨eE,c3,rfl,rfl⟩;rw [show ek 14 ([(v0,b0),(v1,b1)].map (·.2))=ek 14 [b0,b1] from rfl,← ha]
 generalize (iS (ts.map (·.2))).getD i []=b at *
 refine ⟨fun _=>zE,?_⟩;refine tO 12 ?_;refine bF (n:=1) (z:=nY) (cs:=[.slice eE b.length c3]) rfl rfl rfl rfl (.one rfl rfl .nil) rfl (fun gc=>⟨fun _=>zE,?_⟩);refine tO 13 ?_;refine bo rfl rfl rfl (.succ (.succ (.succ .zero))) (bB .zero rfl zl) rfl rfl zO zm zo fun jB c4 _=>⟨fun _=>zE,?_⟩
 ((refine tO 14 ?_;refine dV (bj rfl) ?_))
 refine bf zK ?_;refine wB ?_;refine bi (i+1,us++[(.slice eE b.length c3,b)],jB,c4) ⟨by dsimp only;omega,kz _ _ rfl⟩ zd ?_ ?_
 ·dsimp only;rw [aa,aj,show (2*((i+1:Nat):Int))=((2*i:Nat):Int)+2 by omega];exact zS
 ·exact cn (show cB _ (dJ eA 1 (.slice jB (us.length+1) c4) (us.length+1) (us.map (·.1)++[.slice eE b.length c3])::cT (.slice eE b.length c3) b::cI us::R) from zE) gh
theorem me (v:Value) (seed:List UInt8) (hv:db R v seed) (hs:seed.length=32) :
 Ct prog 67 #[v] e R (fun v' L'=>∃ M:cK,L'=M::R∧db [M] v' (kP seed)):=by
 refine a7 (cF.shape hv zo) ?_;rintro ⟨⟨wm,cap,rfl,_,_,_,_⟩,_⟩;refine a8 (args:=[_]) func67 rfl ntmps67 results67 rfl ?_;refine wB ?_;refine aZ rfl rfl (pL _ e _ seed hv zo) ?_;rintro _ _ ⟨ad,c,ts,rfl,fB,rfl⟩;have D0:=mP (ky seed);have Mr:=qW (ng (seed:=seed));refine wB ?_;refine bq (ι:=Nat × List eo × Option Addr × Nat) (fun i=>[(3,.slice i.2.2.1 i.2.1.length i.2.2.2),(9,.int .i64 (i.1:Int))]) (fun i=>cV (.slice i.2.2.1 i.2.1.length i.2.2.2) i.2.1::cI i.2.1::R) (fun i=>i.1≤4∧i.2.1.map (·.2)=pR (eX seed) i.1) (fun i=>4 - i.1) (0,ts,ad,c) ⟨by omega,fB⟩ zS aX ?_;clear fB;rintro ⟨i,us,dW,c2⟩ ⟨hi,hZ⟩;dsimp only at hi hZ ⊢
 have LC:us.length=2 ^ (4 - i):=by have:=congrArg List.length hZ;rw [ab,D0 i hi] at this;exact this
 have aaj:us.length≤16:=by rw [LC];exact Nat.le_trans (Nat.pow_le_pow_right zo (show 4 - i≤4 by omega)) (by decide)
 by_cases cP:i<4
 ·refine wB ?_;refine aZ rfl rfl (yl _ e _ us (bb .zero) (dR.tail eH) (oV hZ (Mr i)) aaj) ?_;rintro _ _ ⟨eE,c3,ws,rfl,LB,rfl⟩;refine wB ?_;exact bi (i+1,ws,eE,c3) ⟨cP,by dsimp only;rw [LB,hZ];rfl⟩ zd zS zE
 have JT:i=4:=by omega
 subst JT;have h1:us.length=1:=LC;refine bD (D4 .zero zo) ?_;rintro ⟨p,rfl⟩;have h0:0<us.length:=by omega
 have hr:Rd (cV (.slice (some ⟨p,0,none⟩) us.length c2) us::cI us::R) ⟨p,0,none⟩ (us[0]'h0).1:=by
  have:=(bb (L:=cV (.slice (some ⟨p,0,none⟩) us.length c2) us::cI us::R) .zero).elem (j:=0) (u:=(us[0]'h0).1) (by rw [aL,ae h0];rfl);exact this
 have sf:db [cI us] (us[0]'h0).1 (us[0]'h0).2:=eH _ (ax h0);have Cs:(us[0]'h0).2=kP seed:=by rw [← fa h0,hZ];rfl
 rw [Cs] at sf
 generalize (us[0]'h0).1=w at *
 refine wB ?_;exact aY (cI us::R) rfl zE ⟨cI us,rfl,sf⟩
end Go.Proofs
namespace Go.Bs
def iI (l:List (List UInt8)) (i:Nat):List (List UInt8) :=
 if h:2≤l.length then
  if i<cO l.length then iI (l.take (cO l.length)) i++[eg (l.drop (cO l.length))]
  else iI (l.drop (cO l.length)) (i - cO l.length)++[eg (l.take (cO l.length))]
 else []
 termination_by l.length
 decreasing_by
 ·have:=dA h;rw [aF];omega
 ·have:=dA h;rw [aP];omega
def jn (n i:Nat):Nat :=
 if h:2≤n then
  if i<cO n then jn (cO n) i+1 else jn (n - cO n) (i - cO n)+1
 else 0
 termination_by n
 decreasing_by
 ·have:=dA h;omega
 ·have:=dA h;omega
def lD (p:List (List UInt8)):List UInt8:=p.getLast?.getD []
def lE (n i:Nat) (p:List (List UInt8)) (x:List UInt8):List UInt8 :=
 if h:2≤n then
  if i<cO n then eI (lE (cO n) i p.dropLast x) (lD p) else eI (lD p) (lE (n - cO n) (i - cO n) p.dropLast x)
 else x
 termination_by n
 decreasing_by
 ·have:=dA h;omega
 ·have:=dA h;omega
theorem sm {l:List (List UInt8)} {i:Nat} (h:¬ 2≤l.length):iI l i=[]:=by rw [iI,dif_neg h]
theorem tU {l:List (List UInt8)} {i:Nat} (h:2≤l.length) (hi:i<cO l.length):iI l i=iI (l.take (cO l.length)) i++[eg (l.drop (cO l.length))]:=by rw [iI,dif_pos h,aI hi]
theorem tV {l:List (List UInt8)} {i:Nat} (h:2≤l.length) (hi:¬ i<cO l.length):iI l i=iI (l.drop (cO l.length)) (i - cO l.length)++[eg (l.take (cO l.length))]:=by rw [iI,dif_pos h,aB hi]
theorem oW {n i:Nat} (h:¬ 2≤n):jn n i=0:=by rw [jn,dif_neg h]
theorem ym {n i:Nat} (h:2≤n) (hi:i<cO n):jn n i=jn (cO n) i+1:=by rw [jn,dif_pos h,aI hi]
theorem yn {n i:Nat} (h:2≤n) (hi:¬ i<cO n):jn n i=jn (n - cO n) (i - cO n)+1:=by rw [jn,dif_pos h,aB hi]
theorem sn {n i:Nat} {p:List (List UInt8)} {x:List UInt8} (h:¬ 2≤n):lE n i p x=x:=by rw [lE,dif_neg h]
theorem Eu {n i:Nat} {p:List (List UInt8)} {x:List UInt8} (h:2≤n) (hi:i<cO n):lE n i p x=eI (lE (cO n) i p.dropLast x) (lD p):=by rw [lE,dif_pos h,aI hi]
theorem Ew {n i:Nat} {p:List (List UInt8)} {x:List UInt8} (h:2≤n) (hi:¬ i<cO n):lE n i p x=eI (lD p) (lE (n - cO n) (i - cO n) p.dropLast x):=by rw [lE,dif_pos h,aB hi]
theorem mS (p:List (List UInt8)) (a:List UInt8):lD (p++[a])=a:=by simp [lD]
theorem oX:∀ (n:Nat) (l:List (List UInt8)) (i:Nat),l.length=n→(iI l i).length=jn l.length i:=by
 intro n
 induction n using Nat.strongRecOn with
 | ind n ih =>
  intro l i hn
  by_cases h:2≤l.length
  ·have hs:=dA h
   by_cases hi:i<cO l.length
   ·have e1:(l.take (cO l.length)).length=cO l.length:=by rw [aF];omega
    rw [tU h hi,ym h hi,aa,aj,ih _ (by omega) _ i e1,e1]
   ·have e1:(l.drop (cO l.length)).length=l.length - cO l.length:=aP;rw [tV h hi,yn h hi,aa,aj,ih _ (by omega) _ _ e1,e1]
  ·rw [sm h,oW h];rfl
theorem GU:∀ (n:Nat) (l:List (List UInt8)) (i:Nat) (x:List UInt8),l.length=n→i<l.length→lE l.length i (iI l i) x=eg (l.set i x):=by
 intro n
 induction n using Nat.strongRecOn with
 | ind n ih =>
  intro l i x hn Ag
  by_cases h:2≤l.length
  ·have hs:=dA h;have rI:=jU (l:=l.set i x) (by rw [List.length_set];exact h);rw [List.length_set] at rI
   by_cases hi:i<cO l.length
   ·have e1:(l.take (cO l.length)).length=cO l.length:=by rw [aF];omega
    have e2:=ih _ (by omega) (l.take (cO l.length)) i x e1 (by omega);rw [e1] at e2
    rw [Eu h hi,tU h hi,mS,List.dropLast_concat,e2,rI,List.take_set,List.drop_set_of_lt hi]
   ·have e1:(l.drop (cO l.length)).length=l.length - cO l.length:=aP;have e2:=ih _ (by omega) (l.drop (cO l.length)) (i - cO l.length) x e1 (by omega);rw [e1] at e2
    rw [Ew h hi,tV h hi,mS,List.dropLast_concat,e2,rI,List.take_set_of_le (by omega),List.drop_set];rw [aB hi]
  ·rw [sn h]
   match l,h,Ag with
   | [a],_,Ag =>
    obtain rfl:i=0:=by simp at Ag;omega
    rw [List.set_cons_zero,nU]
   | [],_,Ag=>simp at Ag
   | _::_::_,h,_=>simp at h
theorem gH {l:List (List UInt8)} (h:∀ a∈l,a.length=32):(eg l).length=32:=by
 match l,h with
 | [],_=>rw [k6,jT]
 | [a],h=>rw [nU];exact h a (an.2 rfl)
 | a::b::r,_=>rw [jU (by simp)];exact dg _ _
theorem GV:∀ (n:Nat) (l:List (List UInt8)) (i:Nat),l.length=n→(∀ a∈l,a.length=32)→∀ a∈iI l i,a.length=32:=by
 intro n
 induction n using Nat.strongRecOn with
 | ind n ih =>
  intro l i hn hh a ha
  by_cases h:2≤l.length
  ·have hs:=dA h
   by_cases hi:i<cO l.length
   ·rw [tU h hi] at ha
    rcases aJ.1 ha with q|q
    ·exact ih _ (by rw [aF];omega) _ i rfl (fun b hb=>hh b (aR hb)) a q
    ·rw [an.1 q];exact gH fun b hb=>hh b (aV hb)
   ·rw [tV h hi] at ha
    rcases aJ.1 ha with q|q
    ·exact ih _ (by rw [aP];omega) _ _ rfl (fun b hb=>hh b (aV hb)) a q
    ·rw [an.1 q];exact gH fun b hb=>hh b (aR hb)
  ·rw [sm h] at ha;cases ha
theorem wu {n t:Nat} (h:n≤2 ^ (t+1)) (h2:2≤n):cO n≤2 ^ t:=by
 unfold cO;rw [aB (by omega)];refine Nat.pow_le_pow_right (by omega) ?_;have:(n - 1).log2<t+1:=(Nat.log2_lt (by omega)).2 (by omega)
 omega
theorem ql:∀ (t n i:Nat),n≤2 ^ t→jn n i≤t
 | 0,n,i,h=>by rw [oW (by rw [Nat.pow_zero] at h;omega)];exact aS _
 | t+1,n,i,h=>by
  by_cases h2:2≤n
  ·have hs:=dA h2;have hh:=wu h h2
   by_cases hi:i<cO n
   ·rw [ym h2 hi];have:=ql t _ i hh;omega
   ·rw [yn h2 hi];have:=ql t (n - cO n) (i - cO n) (by omega);omega
  ·rw [oW h2];omega
end Go.Bs
namespace Go.Proofs
attribute [local irreducible] Bs.cE Bs.Do Bs.O Bs.W Bs.Fin Bs.A Bs.Ct Bs.cF Bs.Rd Bs.Sat Bs.cL Bs.Ob Bs.dJ Bs.View Bs.cB Bs.Ex Bs.dH Bs.Pu Bs.eZ Bs.dO Bs.dZ
open Go.Bs
open Tryz
variable (R:List cK) (e:World)
theorem JY:∀ (n:Nat) (R:List cK) (e:World) (v:Value) (ts:List eo) (i:Nat),ts.length=n→cF R 1 v ts.length (ts.map (·.1))→dR R ts→(∀ a∈ts,a.2.length≤1000000)→ts.length≤1000000→i≤1000000 →
 Ct prog 157 #[v,.int .i64 (i:Int)] e R (fun v' L'=>∃ ad c out,v'=.slice ad out.length c∧out.map (·.2)=iI (ts.map (·.2)) i∧L'=cV (.slice ad out.length c) out::cI out::R):=by
 intro n
 induction n using Nat.strongRecOn with
 | _ n ih =>
 intro R e v ts i hn hv ht hb hl Xq;refine a7 (hv.shape zo) ?_;rintro ⟨⟨ad,cap,rfl,h3,h4,h5,h6⟩,_⟩;simp only [maxLen] at h4
 refine a8 (args:=[_,_]) func157 rfl ntmps157 results157 rfl ?_;refine wB ?_;refine aZ rfl rfl (mO R e ts.length zo) ?_;rintro _ _ ⟨rfl,rfl⟩;rw [kZ]
 by_cases h2:2≤ts.length
 rotate_left
 ·have h0:cO ts.length=0:=by unfold cO;rw [aI zo]
  rw [h0];refine wB ?_;exact aY (cV nY []::cI []::R) rfl (cn dM (du _ _)) ⟨none,0,[],rfl,by rw [sm (by rw [ab];exact h2)];rfl,rfl⟩
 have hs:=dA h2;have vy:=fun h=>tU (l:=ts.map (·.2)) (i:=i) (by rw [ab];exact h2) h
 have JZ:=fun h=>tV (l:=ts.map (·.2)) (i:=i) (by rw [ab];exact h2) h
 rw [ab,← List.map_take,← List.map_drop] at vy JZ
 have Ek:=k7 hv (k:=cO ts.length) zo;have z9:=vz hv (k:=cO ts.length) zo
 generalize cO ts.length=k at *
 have QH:(ts.take k).length=k:=by rw [aF];omega
 have El:(ts.drop k).length=ts.length - k:=aP
 by_cases wv:i<k
 ·refine wB ?_;refine bz (id:=5) [11] mixed ?_
  (refine tM 0 ?_;refine tM 1 ?_;refine tk 2 _ rfl (cE.iV rfl rfl zo zo) ?_;refine tM 3 ?_;refine tM 5 ?_;refine tM 6 ?_;refine tk 7 _ rfl (cE.ln rfl rfl zo zo) ?_)
  refine tO 4 ?_;refine bg rfl rfl (ih k zo R e _ (ts.take k) i QH Ek (jM ht fun x hx=>aR hx) (fun a ha=>hb a (aR ha)) zo Xq) ?_;rintro _ _ ⟨ei,c1,out,rfl,ho,rfl⟩
  have Et:out.length≤1000000:=by
   have h7:=congrArg List.length ho;rw [ab,oX _ _ _ rfl] at h7
   have:=ql 20 (ts.take k).length i zo;rw [ab] at h7
   omega
  refine ⟨fun _=>zE,?_⟩;refine tO 8 ?_;refine bg rfl rfl (j4 (ts.length - k) _ e _ (ts.drop k) El z9.tail.tail (dR.tail (dR.tail (jM ht fun x hx=>aV hx))) (fun a ha=>hb a (aV ha)) zo) ?_;rintro _ _ ⟨dW,c2,rfl,rfl⟩;refine ⟨fun _=>zE,?_⟩
  generalize rI:eg ((ts.drop k).map (·.2))=rt at *
  refine tO 9 ?_;refine bF (n:=1) rfl rfl rfl rfl zQ rfl (fun g2=>⟨fun _=>zE,?_⟩);refine tO 10 ?_;refine bo rfl rfl rfl (.succ (.succ .zero)) (bP (n:=1) (c:=1) .zero rfl zl) rfl rfl zO zm zo fun eE c3 _=>⟨fun _=>zE,?_⟩
  ((refine tO 11 ?_;refine dV (bj rfl) ?_))
  refine bf zK ?_;refine wB ?_;refine aY (cV (.slice eE (out++[((Value.slice dW rt.length c2,rt):eo)]).length c3) (out++[((Value.slice dW rt.length c2,rt):eo)])::cI (out++[((Value.slice dW rt.length c2,rt):eo)])::R) rfl (cn zE gh) ⟨eE,c3,out++[((Value.slice dW rt.length c2,rt):eo)],by rw [aa,aj];rfl,by rw [ah,ho,vy wv];rfl,rfl⟩
 ·refine wB ?_;refine bz (id:=6) [13] mixed ?_
  (refine tM 0 ?_;refine tM 1 ?_;refine tk 2 _ rfl (cE.ln rfl rfl zo zo) ?_;refine tM 3 ?_;refine tM 4 ?_;refine tk 5 _ rfl (cE.jA rfl rfl zo) ?_;refine tM 7 ?_;refine tM 8 ?_;refine tk 9 _ rfl (cE.iV rfl rfl zo zo) ?_)
  rw [show ((i:Nat):Int) - ((k:Nat):Int)=((i - k:Nat):Int) by omega];refine tO 6 ?_;refine bg rfl rfl (ih (ts.length - k) zo R e _ (ts.drop k) (i - k) El z9 (jM ht fun x hx=>aV hx) (fun a ha=>hb a (aV ha)) zo zo) ?_;rintro _ _ ⟨ei,c1,out,rfl,ho,rfl⟩
  have Et:out.length≤1000000:=by
   have h7:=congrArg List.length ho;rw [ab,oX _ _ _ rfl] at h7
   have:=ql 20 (ts.drop k).length (i - k) zo;rw [ab] at h7
   omega
  refine ⟨fun _=>zE,?_⟩;refine tO 10 ?_;refine bg rfl rfl (j4 k _ e _ (ts.take k) QH Ek.tail.tail (dR.tail (dR.tail (jM ht fun x hx=>aR hx))) (fun a ha=>hb a (aR ha)) zo) ?_;rintro _ _ ⟨dW,c2,rfl,rfl⟩;refine ⟨fun _=>zE,?_⟩
  generalize rI:eg ((ts.take k).map (·.2))=rt at *
  refine tO 11 ?_;refine bF (n:=1) rfl rfl rfl rfl zQ rfl (fun g2=>⟨fun _=>zE,?_⟩);refine tO 12 ?_;refine bo rfl rfl rfl (.succ (.succ .zero)) (bP (n:=1) (c:=1) .zero rfl zl) rfl rfl zO zm zo fun eE c3 _=>⟨fun _=>zE,?_⟩
  ((refine tO 13 ?_;refine dV (bj rfl) ?_))
  refine bf zK ?_;refine wB ?_;refine aY (cV (.slice eE (out++[((Value.slice dW rt.length c2,rt):eo)]).length c3) (out++[((Value.slice dW rt.length c2,rt):eo)])::cI (out++[((Value.slice dW rt.length c2,rt):eo)])::R) rfl (cn zE gh) ⟨eE,c3,out++[((Value.slice dW rt.length c2,rt):eo)],by rw [aa,aj];rfl,by rw [ah,ho,JZ wv];rfl,rfl⟩
theorem Cu (v:Value) (ts:List eo) (n:Int) (hn:-9223372036854775808≤n∧n≤9223372036854775807) (hv:cF R 1 v ts.length (ts.map (·.1))) (ht:dR R ts) (hb:∀ a∈ts,a.2.length≤1000000) (hl:ts.length≤1000000) :
 Ct prog 79 #[v,.int .i64 n] e R (fun v' L' =>
  (¬ (0≤n∧n<ts.length)∧v'=.tuple #[.agg #[.int .i64 0,.int .i64 0,nY],.int .i64 1]∧R=L') ∨
  (0≤n∧n<ts.length∧∃ ad c out,v'=.tuple #[.agg #[.int .i64 n,.int .i64 (ts.length:Int),.slice ad out.length c],.int .i64 0]∧out.map (·.2)=iI (ts.map (·.2)) n.toNat∧L'=cV (.slice ad out.length c) out::cI out::R)):=by
 refine a7 (hv.shape zo) ?_;rintro ⟨⟨ad,cap,rfl,h3,h4,h5,h6⟩,_⟩;refine bI (args:=[_,_]) func79 rfl ntmps79 results79 rfl ?_
 by_cases j1:0≤n∧n<ts.length
 rotate_left
 ·by_cases h0:n<0
  ·(repeat (refine wA ?_;intros))
   apply br;exact zV;exact ⟨R,zE,.inl ⟨j1,rfl,rfl⟩⟩
  ·(repeat (refine wA ?_;intros))
   apply br;exact zV;exact ⟨R,zE,.inl ⟨j1,rfl,rfl⟩⟩
 obtain ⟨h0,cP⟩:=j1;obtain ⟨m,rfl⟩:=Int.eq_ofNat_of_zero_le h0;rw [Int.toNat_natCast]
 (repeat (refine wA ?_;intros))
 refine aZ rfl rfl (JY ts.length _ e _ ts m rfl hv.tail ht.tail hb hl zo) ?_;rintro _ _ ⟨ei,c1,out,rfl,ho,rfl⟩;refine wB ?_;apply br;exact zV;exact ⟨cV (.slice ei out.length c1) out::cI out::R,zE,.inr ⟨h0,cP,ei,c1,out,rfl,ho,rfl⟩⟩
theorem tW (v:Value) (b:List UInt8) (hv:db R v b) :
 Ct prog 205 #[v] e R (fun v' L'=>v'=.bool (decide (b.length=32))∧R=L'):=by
 refine a7 (cF.shape hv zo) ?_;rintro ⟨⟨ad,cap,rfl,h3,h4,h5,h6⟩,_⟩;refine a8 (args:=[_]) func205 rfl ntmps205 results205 rfl ?_
 by_cases h:b.length=32
 ·rw [ay h];refine wB ?_;exact aY R rfl aX ⟨rfl,rfl⟩
 ·rw [aq h];refine wB ?_;exact aY R rfl aX ⟨rfl,rfl⟩
theorem J0 (v:Value) (b:List UInt8) (hv:db R v b) :
 Ct prog 204 #[v] e R (fun v' L'=>v'=.bool (!decide (b.length=32))∧R=L'):=by
 refine a8 (args:=[_]) func204 rfl ntmps204 results204 rfl ?_;refine wB ?_;refine aZ rfl rfl (tW _ e v b hv) ?_;rintro _ _ ⟨rfl,rfl⟩
 by_cases h:b.length=32
 ·rw [ay h];refine wB ?_;exact aY R rfl aX ⟨rfl,rfl⟩
 ·rw [aq h];refine wB ?_;exact aY R rfl aX ⟨rfl,rfl⟩
theorem GW (v:Value) (ts:List eo) (hv:cF R 1 v ts.length (ts.map (·.1))) (ht:dR R ts) (hl:ts.length≤1000000) :
 Ct prog 264 #[v,.func (.func 204) #[] #[]] e R (fun v' L'=>(∃ k:Int,v'=.int .i64 k∧(0≤k↔¬ ∀ a∈ts,a.2.length=32))∧R=L'):=by
 refine a7 (hv.shape zo) ?_;rintro ⟨⟨ad,cap,rfl,h3,h4,h5,h6⟩,_⟩;refine a8 (args:=[_,_]) func264 rfl ntmps264 results264 rfl ?_;refine wB ?_;refine bq (ι:=Nat) (fun i=>[(0,.slice ad ts.length cap),(1,.func (.func 204) #[] #[]),(7,.int .i64 (ts.length:Int)),(8,.int .i64 (i:Int))]) (fun _=>R) (fun i=>i≤ts.length∧∀ a∈ts.take i,a.2.length=32) (fun i=>ts.length - i) 0 ⟨aH _,fun a ha=>(by cases ha)⟩ (cD rfl (cD rfl (cD rfl (cD rfl de)))) aX ?_;rintro i ⟨h1,h2⟩
 by_cases cP:i<ts.length
 rotate_left
 ·rw [aG zo] at h2
  refine wB ?_;exact aY R rfl aX ⟨⟨-1,rfl,⟨fun h=>absurd h (by decide),fun h=>absurd h2 h⟩⟩,rfl⟩
 rcases h6 with h6|⟨gl,ol,rfl⟩
 ·omega
 have hr:Rd R ⟨gl,ol+i,none⟩ (ts[i]'cP).1:=hv.elem (by rw [aL,ae cP];rfl);have hm:=ax cP;have hx:=ht _ hm;have fq:ts.take (i+1)=ts.take i++[ts[i]'cP]:=aD cP
 generalize ts[i]'cP=y at *
 refine wB ?_;refine O.gD (us:=[]) (ws:=[]) rfl rfl rfl (J0 R e y.1 y.2 hx) ?_;rintro _ _ ⟨rfl,rfl⟩
 by_cases jN:y.2.length=32
 ·rw [ay jN];refine wB ?_;refine bi (i+1) ⟨cP,fun a ha=>?_⟩ zo (cD rfl (cD rfl (cD rfl (cD rfl de)))) aX;rw [fq] at ha
  rcases aJ.1 ha with q|q
  ·exact h2 a q
  ·rw [an.1 q];exact jN
 ·rw [aq jN];refine wB ?_;exact aY R rfl aX ⟨⟨i,rfl,⟨fun _ h=>jN (h y hm),fun _=>by omega⟩⟩,rfl⟩
theorem Aj (v:Value) (ts:List eo) (hv:cF R 1 v ts.length (ts.map (·.1))) (ht:dR R ts) (hl:ts.length≤1000000) :
 Ct prog 203 #[v,.func (.func 204) #[] #[]] e R (fun v' L'=>v'=.bool (!decide (∀ a∈ts,a.2.length=32))∧R=L'):=by
 refine a8 (args:=[_,_]) func203 rfl ntmps203 results203 rfl ?_;refine wB ?_;refine aZ rfl rfl (GW _ e v ts hv ht hl) ?_;rintro _ _ ⟨⟨k,rfl,hk⟩,rfl⟩
 by_cases h:∀ a∈ts,a.2.length=32
 ·rw [ay h];have:¬ 0≤k:=fun h0=>hk.1 h0 h
  refine wB ?_;exact aY R rfl aX ⟨rfl,rfl⟩
 ·rw [aq h];have:=hk.2 h;refine wB ?_;exact aY R rfl aX ⟨rfl,rfl⟩
def jG (l:List eo):Bool:=decide (l.length≤16∧∀ a∈l,a.2.length=32)
theorem nh (v:Value) (ts:List eo) (hv:cF R 1 v ts.length (ts.map (·.1))) (ht:dR R ts) :
 Ct prog 119 #[v] e R (fun v' L'=>v'=.bool (jG ts)∧R=L'):=by
 refine a7 (hv.shape zo) ?_;rintro ⟨⟨ad,cap,rfl,h3,h4,h5,h6⟩,_⟩;refine a8 (args:=[_]) func119 rfl ntmps119 results119 rfl ?_
 by_cases hl:ts.length≤16
 rotate_left
 ·rw [show jG ts=false from aq fun h=>hl h.1];refine wB ?_;exact aY R rfl aX ⟨rfl,rfl⟩
 refine wB ?_;refine aZ rfl rfl (Aj _ e _ ts hv ht zo) ?_;rintro _ _ ⟨rfl,rfl⟩
 by_cases h:∀ a∈ts,a.2.length=32
 ·rw [ay h,show jG ts=true from ay ⟨hl,h⟩];refine wB ?_;exact aY R rfl aX ⟨rfl,rfl⟩
 ·rw [aq h,show jG ts=false from aq fun q=>h q.2];refine wB ?_;exact aY R rfl aX ⟨rfl,rfl⟩
theorem vB (ad:Option Addr) (cap:Nat) (ts:List eo) (hv:cF R 1 (.slice ad ts.length cap) ts.length (ts.map (·.1))) (hl:ts.length≤1000000) :
 Ct prog 312 #[.slice ad ts.length cap] e R (fun v' L'=>((ts=[]∧v'=.tuple #[nY,nY,.bool false])∨(∃ us a,ts=us++[a]∧v'=.tuple #[.slice ad us.length cap,a.1,.bool true]))∧R=L'):=by
 refine a7 (hv.shape zo) ?_;rintro ⟨⟨lO,Rr,hq,h3,h4,h5,h6⟩,_⟩;obtain ⟨rfl,_,rfl⟩:=Value.slice.inj hq;clear hq;simp only [maxLen] at h4
 refine a8 (args:=[_]) func312 rfl ntmps312 results312 rfl ?_
 obtain rfl|⟨us,a,rfl⟩:ts=[]∨∃ us a,ts=us++[a]:=by
  rcases List.eq_nil_or_concat ts with h|⟨us,a,h⟩
  ·exact .inl h
  ·exact .inr ⟨us,a,by rw [h,List.concat_eq_append]⟩
 ·have e0:((([]:List eo).length:Nat):Int)=0:=rfl;refine wB ?_;exact aY R rfl aX ⟨.inl ⟨rfl,rfl⟩,rfl⟩
 have oR:(us++[a]).length=us.length+1:=by rw [aa,aj]
 rcases h6 with h6|⟨gl,ol,rfl⟩
 ·omega
 have hr:Rd R ⟨gl,ol+us.length,none⟩ a.1:=hv.elem (by simp);have e1:(((us++[a]).length:Nat):Int) - 1=(us.length:Int):=by omega
 refine wB ?_;rw [e1]
 (repeat' first|refine Za ?_|refine Zb ?_|apply Zc|apply Zd|apply Ze|apply Zf|refine Zi ?_|refine Zj ?_|refine Zk ?_|refine ZA ?_|refine ZB ?_|refine ZC (fun _=>?_) fun _=>?_|refine ZU ?_|refine ZV ?_|refine Ym ?_|refine Yr ?_|refine Ys ?_|refine Yt ?_|refine Yw ?_|refine Yx ?_|refine Yy ?_|refine Yz ?_|refine YA ?_|apply YC|apply YE|apply YF|(apply O.dh;exact rfl;exact zP;(first|(simp only [aC,Nat.add_zero,Nat.reduceAdd,List.drop_succ_cons,List.drop_zero,List.take_succ_cons,List.take_zero];done)|(simp only [aC,Nat.add_zero,Nat.reduceAdd,List.drop_succ_cons,List.drop_zero,List.take_succ_cons,List.take_zero];exact rfl));exact rfl;exact rfl))
 refine bz (id:=4) [8,9] mixed ?_
 (refine tM 0 ?_;refine tM 1 ?_;refine tk 2 _ rfl (cE.iV rfl rfl zo zo) ?_;refine tM 3 ?_;refine tM 4 ?_;refine tk 5 _ rfl (cE.iy rfl rfl zo) ?_;refine tL 6 ?_;refine tA 7 ?_;(refine tO 8 ?_;refine dV (bj rfl) ?_);(refine tO 9 ?_;refine dV (bj rfl) ?_))
 refine bf zK ?_;refine wB ?_;exact aY R rfl aX ⟨.inr ⟨us,a,rfl,rfl⟩,rfl⟩
theorem mF (us:List eo) (a:eo):lD ((us++[a]).map (·.2))=a.2:=by rw [ah];exact mS _ _
theorem mf (us:List eo) (a:eo):((us++[a]).map (·.2)).dropLast=us.map (·.2):=by rw [ah];exact List.dropLast_concat
theorem IG {R:List cK} {ad:Option Addr} {cap:Nat} {us:List eo} {a:eo} (h:cF R 1 (.slice ad (us++[a]).length cap) (us++[a]).length ((us++[a]).map (·.1))):cF R 1 (.slice ad us.length cap) us.length (us.map (·.1)):=by
 have:=k7 h (k:=us.length) (by simp)
 rwa [List.take_left'] at this
 rfl
theorem J1:∀ (m:Nat) (R:List cK) (e:World) (ad:Option Addr) (cap:Nat) (ts:List eo) (i n:Nat) (v:Value) (b:List UInt8),ts.length=m→cF R 1 (.slice ad ts.length cap) ts.length (ts.map (·.1))→dR R ts→(∀ a∈ts,a.2.length≤1000000)→ts.length≤1000000→n<9223372036854775808→i<9223372036854775808→db R v b→b.length≤1000000 →
 Ct prog 300 #[.slice ad ts.length cap,.int .i64 (i:Int),.int .i64 (n:Int),v] e R (fun v' L'=>∃ lO c t,v'=.tuple #[.slice lO t.length c,.bool (decide (ts.length=jn n i))]∧(ts.length=jn n i→t=lE n i (ts.map (·.2)) b)∧t.length≤1000000∧L'=cT (.slice lO t.length c) t::R):=by
 intro m
 induction m using Nat.strongRecOn with
 | _ m ih =>
 intro R e ad cap ts i n v b hm hv ht lq hl hn hi hb oT;refine a8 (args:=[_,_,_,_]) func300 rfl ntmps300 results300 rfl ?_;refine wB ?_;refine aZ rfl rfl (mO R e n zo) ?_;rintro _ _ ⟨rfl,rfl⟩;rw [kZ]
 by_cases h2:2≤n
 rotate_left
 ·have h0:cO n=0:=by unfold cO;rw [aI zo]
  rw [h0];have Ga:=oW (i:=i) h2;refine wB ?_;refine aZ rfl rfl (dy _ e _ b hb zo) ?_;rintro _ _ ⟨ei,c1,rfl,rfl⟩
  by_cases u7:ts.length=0
  ·refine wB ?_;exact aY (cT (.slice ei b.length c1) b::R) rfl aX ⟨ei,c1,b,by rw [Ga,ay u7];rfl,fun _=>(sn h2).symm,oT,rfl⟩
  ·refine wB ?_;exact aY (cT (.slice ei b.length c1) b::R) rfl aX ⟨ei,c1,b,by rw [Ga,aq u7];rfl,fun _=>(sn h2).symm,oT,rfl⟩
 have hs:=dA h2;have vy:=fun h=>ym (i:=i) h2 h
 have JZ:=fun h=>yn (i:=i) h2 h
 have RQ:=fun p h=>Eu (i:=i) (p:=p) (x:=b) h2 h
 have RR:=fun p h=>Ew (i:=i) (p:=p) (x:=b) h2 h
 have Ae:0<jn n i:=by
  by_cases h:i<cO n
  ·rw [vy h];omega
  ·rw [JZ h];omega
 generalize cO n=k at *
 refine wB ?_;refine aZ rfl rfl (vB _ e ad cap ts hv hl) ?_;rintro _ _ ⟨⟨rfl,rfl⟩|⟨us,a,rfl,rfl⟩,rfl⟩
 ·refine wB ?_;exact aY (cT nY []::R) rfl (du _ _) ⟨none,0,[],by rw [aq (by simp;omega)];rfl,fun h=>(by simp at h;omega),by simp,rfl⟩
 have oR:(us++[a]).length=us.length+1:=by rw [aa,aj]
 have iX:=IG hv;have Vv:dR R us:=fun x hx=>ht x (aJ.2 (.inl hx))
 have ha:db R a.1 a.2:=ht a (aJ.2 (.inr (an.2 rfl)));have rL:=lq a (aJ.2 (.inr (an.2 rfl)));have Vw:∀ x∈us,x.2.length≤1000000:=fun x hx=>lq x (aJ.2 (.inl hx))
 by_cases wv:i<k
 ·refine wB ?_;refine aZ rfl rfl (ih us.length zo R e ad cap us i k v b rfl iX Vv Vw zo zo hi hb oT) ?_;rintro _ _ ⟨ei,c1,t,rfl,h7,h8,rfl⟩;refine wB ?_;refine aZ rfl rfl (mE _ e _ _ _ _ (bb .zero) ha.tail h8 rL) ?_;rintro _ _ ⟨eE,c3,rfl,rfl⟩;refine wB ?_;refine aY (cT (.slice eE (eI t a.2).length c3) (eI t a.2)::R) rfl zE ⟨eE,c3,eI t a.2,?_,fun h=>?_,by rw [eI,dg];omega,rfl⟩
  ·rw [oR,vy wv,decide_eq_decide.2 (show us.length=jn k i↔us.length+1=jn k i+1 by omega)];rfl
  ·rw [oR,vy wv] at h
   rw [h7 zo,RQ _ wv,mf,mF]
 ·refine wB ?_;rw [show ((i:Nat):Int) - ((k:Nat):Int)=((i - k:Nat):Int) by omega,show ((n:Nat):Int) - ((k:Nat):Int)=((n - k:Nat):Int) by omega];refine aZ rfl rfl (ih us.length zo R e ad cap us (i - k) (n - k) v b rfl iX Vv Vw zo zo zo hb oT) ?_;rintro _ _ ⟨ei,c1,t,rfl,h7,h8,rfl⟩;refine wB ?_;refine aZ rfl rfl (mE _ e _ _ _ _ ha.tail (bb .zero) rL h8) ?_;rintro _ _ ⟨eE,c3,rfl,rfl⟩;refine wB ?_;refine aY (cT (.slice eE (eI a.2 t).length c3) (eI a.2 t)::R) rfl zE ⟨eE,c3,eI a.2 t,?_,fun h=>?_,by rw [eI,dg];omega,rfl⟩
  ·rw [oR,JZ wv,decide_eq_decide.2 (show us.length=jn (n - k) (i - k)↔us.length+1=jn (n - k) (i - k)+1 by omega)];rfl
  ·rw [oR,JZ wv] at h
   rw [h7 zo,RR _ wv,mf,mF]
def qm (idx size:Int) (ts:List eo) (b:List UInt8):Prop:=jG ts=true∧b.length=32∧0≤idx∧idx<size∧ts.length=jn size.toNat idx.toNat
instance (idx size:Int) (ts:List eo) (b:List UInt8):Decidable (qm idx size ts b):=by unfold qm;infer_instance
abbrev qn (idx size:Int) (ts:List eo) (b:List UInt8):List UInt8:=lE size.toNat idx.toNat (ts.map (·.2)) b
theorem so {ts:List eo}:jG ts=true↔ts.length≤16∧∀ a∈ts,a.2.length=32:=decide_eq_true_iff
theorem GX (idx size:Int) (vp vb:Value) (ts:List eo) (b:List UInt8) (h1:-9223372036854775808≤idx∧idx≤9223372036854775807) (h2:-9223372036854775808≤size∧size≤9223372036854775807) (hv:cF R 1 vp ts.length (ts.map (·.1))) (ht:dR R ts) (hb:db R vb b) :
 Ct prog 268 #[.agg #[.int .i64 idx,.int .i64 size,vp],vb] e R (fun v' L' =>
  (qm idx size ts b∧∃ ad c,v'=.tuple #[.slice ad (qn idx size ts b).length c,.bool true]∧L'=cT (.slice ad (qn idx size ts b).length c) (qn idx size ts b)::R) ∨
  (¬ qm idx size ts b∧v'=.tuple #[nY,.bool false]∧R=L')):=by
 refine a7 (hv.shape zo) ?_;rintro ⟨⟨ad,cap,rfl,h3,h4,h5,h6⟩,_⟩;refine a8 (args:=[_,_]) func268 rfl ntmps268 results268 rfl ?_
 (repeat (refine wA ?_;intros))
 rename_i g;refine aZ rfl rfl (nh _ e _ ts hv.tail ht.tail) ?_;rintro _ _ ⟨rfl,rfl⟩
 by_cases hr:jG ts=true
 rotate_left
 ·rw [show jG ts=false by simpa using hr];refine wB ?_;exact aY R rfl zE (.inr ⟨fun h=>hr h.1,rfl,rfl⟩)
 rw [hr];obtain ⟨r1,r2⟩:=so.1 hr;refine wB ?_;refine aZ rfl rfl (tW _ e _ b hb.tail) ?_;rintro _ _ ⟨rfl,rfl⟩
 by_cases jN:b.length=32
 rotate_left
 ·rw [aq jN];refine wB ?_;exact aY R rfl zE (.inr ⟨fun h=>jN h.2.1,rfl,rfl⟩)
 rw [ay jN]
 by_cases h0:0≤idx
 rotate_left
 ·refine wB ?_;exact aY R rfl zE (.inr ⟨fun h=>h0 h.2.2.1,rfl,rfl⟩)
 by_cases cP:idx<size
 rotate_left
 ·refine wB ?_;exact aY R rfl zE (.inr ⟨fun h=>cP h.2.2.2.1,rfl,rfl⟩)
 obtain ⟨i,rfl⟩:=Int.eq_ofNat_of_zero_le h0;obtain ⟨n,rfl⟩:=Int.eq_ofNat_of_zero_le (show 0≤size by omega);refine wB ?_;refine aZ rfl rfl (J1 ts.length _ e ad cap ts i n vb b rfl hv.tail ht.tail (fun a ha=>by have:=r2 a ha;omega) zo zo zo hb.tail zo) ?_;rintro _ _ ⟨ei,c1,t,rfl,h7,h8,rfl⟩
 by_cases Ga:ts.length=jn n i
 ·rw [ay Ga];have h9:=h7 Ga;subst h9;refine wB ?_;exact aY (cT (.slice ei (lE n i (ts.map (·.2)) b).length c1) (lE n i (ts.map (·.2)) b)::R) rfl zE (.inl ⟨⟨hr,jN,h0,cP,Ga⟩,ei,c1,rfl,rfl⟩)
 ·rw [aq Ga];refine wB ?_;exact aY R rfl zE (.inr ⟨fun h=>Ga h.2.2.2.2,rfl,rfl⟩)
theorem iP (va vb:Value) (a b:List UInt8) (ha:db R va a) (hb:db R vb b) :
 Ct prog 99 #[va,vb] e R (fun v' L'=>v'=.bool (decide (a=b))∧R=L'):=by
 refine a8 (args:=[_,_]) func99 rfl ntmps99 results99 rfl ?_
 have eq:Ct prog 188 #[va,vb] e R (fun v' L'=>v'=.bool (decide (a=b))∧R=L'):=by
  refine a8 (args:=[_,_]) func188 rfl ntmps188 results188 rfl ?_
  by_cases h:a=b
  ·rw [ay h];subst h;refine wB ?_;exact aY R rfl aX ⟨rfl,rfl⟩
  ·rw [aq h];refine wB ?_;exact aY R rfl aX ⟨rfl,rfl⟩
 refine wB ?_;refine aZ rfl rfl eq ?_;rintro _ _ ⟨rfl,rfl⟩;refine wB ?_;exact aY R rfl aX ⟨rfl,rfl⟩
theorem GY (idx size:Int) (vp vb vr:Value) (ts:List eo) (b r:List UInt8) (h1:-9223372036854775808≤idx∧idx≤9223372036854775807) (h2:-9223372036854775808≤size∧size≤9223372036854775807) (hv:cF R 1 vp ts.length (ts.map (·.1))) (ht:dR R ts) (hb:db R vb b) (hr:db R vr r) :
 Ct prog 214 #[.agg #[.int .i64 idx,.int .i64 size,vp],vb,vr] e R (fun v' L'=>v'=.bool (decide (qm idx size ts b∧qn idx size ts b=r))∧R=L'):=by
 refine a7 (hv.shape zo) ?_;rintro ⟨⟨ad,cap,rfl,h3,h4,h5,h6⟩,_⟩;refine a8 (args:=[_,_,_]) func214 rfl ntmps214 results214 rfl ?_
 (repeat (refine wA ?_;intros))
 rename_i g;refine aZ rfl rfl (GX _ e idx size _ vb ts b h1 h2 hv.tail ht.tail hb.tail) ?_;rintro _ _ (⟨j1,ei,c1,rfl,rfl⟩|⟨j1,rfl,rfl⟩)
 ·refine wB ?_;refine aZ rfl rfl (iP _ e _ _ _ _ (bb .zero) hr.tail.tail) ?_;rintro _ _ ⟨rfl,rfl⟩
  by_cases h:qn idx size ts b=r
  ·rw [ay h,ay ⟨j1,h⟩];refine wB ?_;exact aY R rfl zE ⟨rfl,rfl⟩
  ·rw [aq h,aq fun q=>h q.2];refine wB ?_;exact aY R rfl zE ⟨rfl,rfl⟩
 ·rw [aq fun q=>j1 q.1];refine wB ?_;exact aY R rfl zE ⟨rfl,rfl⟩
def Ey (bs:List (List UInt8)) (n:Nat):Prop:=bs.length=n∧∀ a∈bs,a.length=32
instance (bs:List (List UInt8)) (n:Nat):Decidable (Ey bs n):=by unfold Ey;infer_instance
theorem Cv (v:Value) (b:List UInt8) (hv:db R v b) :
 Ct prog 311 #[v] e R (fun v' L'=>v'=.bool (!decide (b.length=32))∧R=L'):=by
 refine a7 (cF.shape hv zo) ?_;rintro ⟨⟨ad,cap,rfl,h3,h4,h5,h6⟩,_⟩;refine a8 (args:=[_]) func311 rfl ntmps311 results311 rfl ?_
 by_cases h:b.length=32
 ·rw [ay h];refine wB ?_;exact aY R rfl aX ⟨rfl,rfl⟩
 ·rw [aq h];refine wB ?_;exact aY R rfl aX ⟨rfl,rfl⟩
theorem wy (v:Value) (bs:List (List UInt8)) (n:Nat) (hv:mR R v bs) (hl:bs.length≤1000000) (hn:n≤1000000) :
 Ct prog 292 #[v,.int .i64 (n:Int)] e R (fun v' L'=>v'=.bool (decide (Ey bs n))∧R=L'):=by
 obtain ⟨ts,rfl,hv,ht⟩:=hv;rw [ab] at hl
 refine a7 (hv.shape zo) ?_;rintro ⟨⟨ad,cap,rfl,h3,h4,h5,h6⟩,_⟩;refine a8 (args:=[_,_]) func292 rfl ntmps292 results292 rfl ?_
 by_cases h:ts.length=n
 rotate_left
 ·rw [aq (fun q:Ey _ _=>h (by simpa using q.1))];refine wB ?_;exact aY R rfl aX ⟨rfl,rfl⟩
 refine wB ?_;refine aZ rfl rfl (qk R e _ ts 311 [] [] (fun i=>!decide (((ts.map (·.2)).getD i []).length=32)) hv hl (fun i hi=>?_)) ?_
 ·rw [fa hi];exact Cv R e _ _ (ht _ (ax hi))
 rintro _ _ ⟨rfl,rfl⟩
 by_cases h2:∀ a∈ts.map (·.2),a.length=32
 ·rw [ay (show Ey _ _ from ⟨by rw [ab];exact h,h2⟩),aq (fun ⟨i,q1,q2⟩=>by rw [fa q1] at q2;simp [h2 _ (aE.2 ⟨_,ax q1,rfl⟩)] at q2)];refine wB ?_;exact aY R rfl aX ⟨rfl,rfl⟩
 ·rw [aq (fun q:Ey _ _=>h2 q.2),ay (by
   refine Classical.byContradiction fun lY=>h2 fun a ha=>?_
   obtain ⟨x,hx,rfl⟩:=aE.1 ha;obtain ⟨i,hi,rfl⟩:=List.mem_iff_getElem.1 hx;refine Classical.byContradiction fun hl=>lY ⟨i,hi,?_⟩
   rw [fa hi,aq hl];rfl)]
  refine wB ?_;exact aY R rfl aX ⟨rfl,rfl⟩
abbrev yo (s:xc) (vp vq:Value):List Value:=[.int .i64 (s.idx:Int),vp,vq]
structure fN (L:List cK) (vp vq:Value) (s:xc):Prop where
 parts:mR L vp s.parts
 path:mR L vq s.path
 small:s.idx<4294967296∧s.parts.length≤1000000∧s.path.length≤1000000
theorem fN.cM {L L':List cK} {vp vq:Value} {s:xc} (h:fN L' vp vq s) (f:cB L L'):fN L vp vq s:=⟨h.parts.cM f,h.path.cM f,h.small⟩
theorem fN.tail {A:cK} {L:List cK} {vp vq:Value} {s:xc} (h:fN L vp vq s):fN (A::L) vp vq s:=h.cM (cB.drop aX)
theorem qo (vp vq:Value) (s:xc) (hs:fN R vp vq s) :
 Ct prog 257 #[.agg (yo s vp vq).toArray] e R (fun v' L'=>v'=.bool (decide s.right)∧R=L'):=by
 obtain ⟨h1,h2,h3,h4,h5⟩:=hs;refine a7 h1.one fun o1=>?_
 refine a7 h2.one fun o2=>?_
 refine a8 (args:=[_]) func257 rfl ntmps257 results257 rfl ?_
 by_cases hi:s.idx<16
 rotate_left
 ·rw [aq (fun q:s.right=>hi q.1)]
  (repeat (refine wA ?_;intros))
  exact aY R rfl zE ⟨rfl,rfl⟩
 (repeat (refine wA ?_;intros))
 refine aZ rfl rfl (wy _ e vp s.parts 64 h1.tail h4 zo) ?_;rintro _ _ ⟨rfl,rfl⟩
 by_cases ha:Ey s.parts 64
 rotate_left
 ·rw [aq ha,aq (fun q:s.right=>ha ⟨q.2.1,q.2.2.1⟩)];refine wB ?_;exact aY R rfl zE ⟨rfl,rfl⟩
 rw [ay ha];refine wB ?_;refine aZ rfl rfl (wy _ e vq s.path 4 h2.tail h5 zo) ?_;rintro _ _ ⟨rfl,rfl⟩
 by_cases hb:Ey s.path 4
 rotate_left
 ·rw [aq hb,aq (fun q:s.right=>hb ⟨q.2.2.2.1,q.2.2.2.2⟩)];refine wB ?_;exact aY R rfl zE ⟨rfl,rfl⟩
 rw [ay hb,ay (show s.right from ⟨hi,ha.1,ha.2,hb.1,hb.2⟩)];refine wB ?_;exact aY R rfl zE ⟨rfl,rfl⟩
theorem xf (iE:List UInt8) (l:List (List UInt8)):(iG iE l).length=32:=dg _ _
set_option maxHeartbeats 400000 in
theorem tX (v u vp vq:Value) (je iE:List UInt8) (s:xc) (hv:db R v je) (hu:db R u iE) (hm:iE.length≤1000000) (hs:fN R vp vq s) :
 Ct prog 187 #[v,u,.agg (yo s vp vq).toArray] e R (fun v' L'=>v'=.bool (decide (xd je iE s))∧R=L'):=by
 refine a7 hs.parts.one fun o1=>?_
 refine a7 hs.path.one fun o2=>?_
 refine a8 (args:=[_,_,_]) func187 rfl ntmps187 results187 rfl ?_
 (repeat (refine wA ?_;intros))
 rename_i g;refine aZ rfl rfl (qo _ e vp vq s hs.tail) ?_;rintro _ _ ⟨rfl,rfl⟩
 by_cases hr:s.right
 rotate_left
 ·rw [aq hr,aq (fun q:xd je iE s=>hr q.1)];refine wB ?_;exact aY R rfl zE ⟨rfl,rfl⟩
 rw [ay hr];obtain ⟨q1,q2,q3,q4,q5⟩:=id hr;obtain ⟨ts,e1,r1,t1⟩:=hs.parts;obtain ⟨us,e2,r2,t2⟩:=hs.path;have oR:ts.length=64:=by rw [← q2,← e1,ab]
 have ry:us.length=4:=by rw [← q4,← e2,ab]
 have Ru:=oV e1 q3;have TY:=oV e2 q5;refine wB ?_;refine aZ rfl rfl (Ai _ e u vp iE ts hu.tail hm r1.tail (dR.tail t1) oR Ru) ?_;rintro _ _ ⟨ad,c,rfl,rfl⟩;rw [e1];have Ms:=xf iE s.parts;have pS:xd je iE s↔lZ s.idx (iG iE s.parts) s.path=je:=⟨fun q=>q.2,fun q=>⟨hr,q⟩⟩
 generalize iG iE s.parts=b0 at *
 refine bn (r2.tail.tail.shape zo) ?_;rintro ⟨⟨adq,cq,rfl,w3,w4,w5,w6⟩,_⟩;simp only [maxLen] at w4
 refine wB ?_;refine bq (ι:=Nat × Nat × List UInt8 × Option Addr × Nat) (fun i=>[(0,v),(7,.slice i.2.2.2.1 i.2.2.1.length i.2.2.2.2),(8,.bool true),(9,.int .i64 (i.2.1:Int)),(25,.slice adq us.length cq),(26,.int .i64 (us.length:Int)),(27,.int .i64 (i.1:Int))]) (fun i=>cT (.slice i.2.2.2.1 i.2.2.1.length i.2.2.2.2) i.2.2.1::R) (fun i=>i.1≤us.length∧i.2.1<16∧i.2.2.1.length=32∧lZ i.2.1 i.2.2.1 (s.path.drop i.1)=lZ s.idx b0 s.path) (fun i=>us.length - i.1) (0,s.idx,b0,ad,c) ⟨aH _,q1,Ms,rfl⟩ zS zE ?_;rintro ⟨i,jD,b,dW,c2⟩ ⟨hi,J2,oT,Ce⟩;dsimp only at hi J2 oT Ce ⊢
 by_cases cP:i<us.length
 rotate_left
 ·have hd:s.path.drop i=[]:=List.drop_eq_nil_of_le zo;rw [hd] at Ce
  have Ce:b=lZ s.idx b0 s.path:=Ce;refine wB ?_;refine aZ rfl rfl (iP _ e _ v b je (bb .zero) hv.tail) ?_;rintro _ _ ⟨rfl,rfl⟩;rw [show decide (b=je)=decide (xd je iE s) from decide_eq_decide.2 (by rw [pS,← Ce])];refine wB ?_;exact aY R rfl zE ⟨rfl,rfl⟩
 rcases w6 with w6|⟨gl,ol,rfl⟩
 ·omega
 have hrr:Rd R ⟨gl,ol+i,none⟩ (us[i]'cP).1:=r2.elem (by rw [aL,ae cP];rfl);have ju:=t2 _ (ax cP);have OH:=TY _ (ax cP)
 have Eg:s.path.drop i=(us[i]'cP).2::s.path.drop (i+1):=by
  rw [← e2];rw [List.drop_eq_getElem_cons (by rw [ab];exact cP),List.getElem_map]
 generalize us[i]'cP=y at *
 obtain ⟨yv,yb⟩:=y;dsimp only at hrr ju OH Eg
 rw [Eg] at Ce
 have z9:IntKind.i64.wrap (((jD:Int)).tdiv 2)=((jD / 2:Nat):Int):=by
  rw [Int.tdiv_eq_ediv_of_nonneg zo,show (jD:Int) / 2=((jD / 2:Nat):Int) by omega];exact wrap_i64 zo zo
 have RI:((jD:Int)).tmod 2=((jD % 2:Nat):Int):=by rw [Int.tmod_eq_emod_of_nonneg zo];omega
 refine bD (cz ju.tail) fun oy=>?_
 by_cases yp:jD % 2=0
 ·have RS:lZ (jD / 2) (ek 14 [b,yb]) (s.path.drop (i+1))=lZ s.idx b0 s.path:=by rw [← Ce];show _=lZ (jD / 2) (if jD % 2=0 then _ else _) _;rw [aI yp]
  (repeat' first|(apply bZ;exact rfl;exact rfl;exact rfl;exact .one rfl rfl (.one (eR oy) rfl .nil);exact rfl;exact rfl;intro _)|refine Za ?_|refine Zb ?_|apply Zc|apply Zd|apply Ze|apply Zf|refine Zi ?_|refine ZA ?_|refine ZM ?_|refine Yw ?_|refine Yz ?_|apply YB|apply YC|refine YL ?_|fail)
  rename_i g2
  refine aZ rfl rfl (fe _ e 14 _ [(.slice dW b.length c2,b),(yv,yb)] (bB .zero rfl zl) (fun a ha=>by
   simp only [aQ,aO,or_false] at ha
   rcases ha with rfl|rfl
   ·exact db.tail (bb .zero)
   ·exact ju.tail.tail) (fun a ha=>by
   simp only [aQ,aO,or_false] at ha
   rcases ha with rfl|rfl
   ·dsimp only;omega
   ·dsimp only;omega) (by simp)) ?_
  rintro _ _ ⟨eE,c3,rfl,rfl⟩;rw [show ek 14 ([((.slice dW b.length c2:Value),b),(yv,yb)].map (·.2))=ek 14 [b,yb] from rfl];have oH:=dg 14 [b,yb]
  generalize ek 14 [b,yb]=b3 at *
  refine wB ?_;rw [z9];exact bi (i+1,jD / 2,b3,eE,c3) ⟨cP,by dsimp only;omega,oH,RS⟩ zd zS zE
 ·have RS:lZ (jD / 2) (ek 14 [yb,b]) (s.path.drop (i+1))=lZ s.idx b0 s.path:=by rw [← Ce];show _=lZ (jD / 2) (if jD % 2=0 then _ else _) _;rw [aB yp]
  (repeat' first|(apply bZ;exact rfl;exact rfl;exact rfl;exact .one (eR oy) rfl (.one rfl rfl .nil);exact rfl;exact rfl;intro _)|refine Za ?_|refine Zb ?_|apply Zc|apply Zd|apply Ze|apply Zf|refine Zi ?_|refine ZA ?_|refine ZN ?_|refine Yw ?_|refine Yz ?_|refine YA ?_|apply YB|apply YC|refine YL ?_|fail)
  rename_i g2
  refine aZ rfl rfl (fe _ e 14 _ [(yv,yb),(.slice dW b.length c2,b)] (bB .zero rfl zl) (fun a ha=>by
   simp only [aQ,aO,or_false] at ha
   rcases ha with rfl|rfl
   ·exact ju.tail.tail
   ·exact db.tail (bb .zero)) (fun a ha=>by
   simp only [aQ,aO,or_false] at ha
   rcases ha with rfl|rfl
   ·dsimp only;omega
   ·dsimp only;omega) (by simp)) ?_
  rintro _ _ ⟨eE,c3,rfl,rfl⟩;rw [show ek 14 ([(yv,yb),((.slice dW b.length c2:Value),b)].map (·.2))=ek 14 [yb,b] from rfl];have oH:=dg 14 [yb,b]
  generalize ek 14 [yb,b]=b3 at *
  refine wB ?_;rw [z9];exact bi (i+1,jD / 2,b3,eE,c3) ⟨cP,by dsimp only;omega,oH,RS⟩ zd zS zE
theorem wz (v:Value) (bs:List (List UInt8)) (hv:mR R v bs) (hl:bs.length≤1000000) (hb:∀ b∈bs,b.length≤1000000) :
 Ct prog 259 #[v] e R (fun v' L'=>∃ ad c us,v'=.slice ad us.length c∧us.map (·.2)=bs∧L'=cV (.slice ad us.length c) us::cI us::R):=by
 obtain ⟨ts,rfl,hv,ht⟩:=hv;rw [ab] at hl
 have hb:∀ a∈ts,a.2.length≤1000000:=fun a ha=>hb _ (aE.2 ⟨a,ha,rfl⟩)
 refine a7 (hv.shape zo) ?_;rintro ⟨⟨wm,cap,rfl,h3,h4,h5,h6⟩,_⟩;simp only [maxLen] at h4
 refine a8 (args:=[_]) func259 rfl ntmps259 results259 rfl ?_;refine wB ?_;refine bq (ι:=Nat × List eo × Option Addr × Nat) (fun i=>[(3,.slice i.2.2.1 i.2.1.length i.2.2.2),(6,.slice wm ts.length cap),(7,.int .i64 (ts.length:Int)),(8,.int .i64 (i.1:Int))]) (fun i=>cV (.slice i.2.2.1 i.2.1.length i.2.2.2) i.2.1::cI i.2.1::R) (fun i=>i.1≤ts.length∧i.2.1.map (·.2)=(ts.map (·.2)).take i.1) (fun i=>ts.length - i.1) (0,[],none,0) ⟨aH _,by simp⟩ zS (cn dM (du eA 1)) ?_;rintro ⟨i,us,ad,c⟩ ⟨hi,hZ⟩;dsimp only at hi hZ ⊢
 have Et:us.length=i:=by have:=congrArg List.length hZ;rw [ab,aF,ab] at this;omega
 by_cases cP:i<ts.length
 rotate_left
 ·rw [aG (by rw [ab];omega)] at hZ
  refine wB ?_;exact aY _ rfl aX ⟨ad,c,us,rfl,hZ,rfl⟩
 rcases h6 with h6|⟨gl,ol,rfl⟩
 ·omega
 have hr:Rd R ⟨gl,ol+i,none⟩ (ts[i]'cP).1:=hv.elem (by rw [aL,ae cP];rfl);have ju:=ht _ (ax cP);have z7:=hb _ (ax cP)
 have kz:∀ w:Value,(us++[(w,(ts[i]'cP).2)]).map (·.2)=(ts.map (·.2)).take (i+1):=fun w=>by
  rw [ah,hZ,aD (by rw [ab];exact cP),List.getElem_map]
  rfl
 generalize ts[i]'cP=y at *
 obtain ⟨yv,b⟩:=y;dsimp only at hr ju z7 kz
 refine wB ?_;refine aZ rfl rfl (dy _ e yv b ju.tail.tail zo) ?_;rintro _ _ ⟨eE,c3,rfl,rfl⟩
 (repeat (refine wA ?_;intros))
 refine bC (bo rfl rfl rfl (.succ (.succ .zero)) (bB .zero rfl zl) rfl rfl zO zm zo fun jB c4 _=>?_)
 refine wB ?_;refine bi (i+1,us++[(.slice eE b.length c3,b)],jB,c4) ⟨cP,kz _⟩ zd ?_ ?_
 ·dsimp only;rw [aa,aj];exact zS
 ·exact cn (show cB _ (dJ eA 1 (.slice jB (us.length+1) c4) (us.length+1) (us.map (·.1)++[.slice eE b.length c3])::cT (.slice eE b.length c3) b::cI us::R) from zE) gh
theorem J3:∀ n:Nat,n<16→Go.bits .xor .i64 (n:Int) 1=((n ^^^ 1:Nat):Int):=by decide
theorem RT {M:List cK} {n k:Nat} {v:Value} {xs:List Value} (h:cF M n v k xs):cF [dH M] n v k xs:=h.cM (cn (cU (L:=[])) (by rw [aK];exact aX))
theorem tY {M:List cK} {v:Value} {bs:List (List UInt8)} (h:mR M v bs):mR [dH M] v bs:=h.cM (cn (cU (L:=[])) (by rw [aK];exact aX))
theorem J4 {l:List (List UInt8)} {i h:Nat} (hh:h<4):(yh l i).take (h+1)=(yh l i).take h++[(pR l h).getD ((i / 2 ^ h) ^^^ 1) []]:=by
 rw [aD (by rw [lC];exact hh)]
 congr 2
 unfold yh;rw [List.getElem_map,List.getElem_range]
theorem RU {n m:Nat} (h:n<2 ^ m) (hm:0<m) (OX:n<16):n ^^^ 1<2 ^ m:=by
 obtain ⟨k,rfl⟩:∃ k,m=k+1:=⟨m - 1,by omega⟩
 rw [RP OX];rw [Nat.pow_succ] at h ⊢
 split<;>omega
set_option maxHeartbeats 1000000 in
theorem yq (v u:Value) (seed iE:List UInt8) (i:Nat) (hv:db R v seed) (hs:seed.length=32) (hi:i<16) (hu:db R u iE) (hm:iE.length≤1000000) :
 Ct prog 198 #[v,.int .i64 (i:Int),u] e R (fun v' L'=>∃ (M:cK) (vp vq:Value),v'=.tuple #[.agg (yo (rK seed i iE) vp vq).toArray,.int .i64 0]∧fN [M] vp vq (rK seed i iE)∧L'=M::R):=by
 refine a7 (cF.shape hv zo) ?_;rintro ⟨⟨wm,cap,rfl,_,_,_,_⟩,_⟩;refine bI (args:=[_,_,_]) func198 rfl ntmps198 results198 rfl ?_
 (repeat (refine wA ?_;intros))
 rename_i g6;refine aZ rfl rfl (Ah _ e _ u seed iE i hv.tail zo hi hu.tail hm) ?_;rintro _ _ ⟨ei,c1,ts,rfl,fB,rfl⟩
 (repeat (refine wA ?_;intros))
 rename_i g8;refine aZ rfl rfl (pL _ e _ seed hv.tail.tail.tail.tail zo) ?_;rintro _ _ ⟨dW,c2,ls,rfl,Mr,rfl⟩;have D0:=mP (ky seed);refine wB ?_;refine bq (ι:=Nat × List eo × (Option Addr × Nat) × List eo × (Option Addr × Nat) × List eo) (fun j=>[(6,pt g6),(8,pt g8),(9,.slice j.2.2.1.1 j.2.1.length j.2.2.1.2),(10,.int .i64 ((i / 2 ^ j.1:Nat):Int))])
  (fun j=>cL g8 [.int .i64 (i:Int),.slice ei ts.length c1,.slice j.2.2.2.2.1.1 j.2.2.2.1.length j.2.2.2.2.1.2] 85 (0,0)::cV (.slice j.2.2.2.2.1.1 j.2.2.2.1.length j.2.2.2.2.1.2) j.2.2.2.1::cV (.slice j.2.2.1.1 j.2.1.length j.2.2.1.2) j.2.1::cI j.2.2.2.2.2::cL g6 [.int .i64 0,nY,nY] 85 (0,0)::cV (.slice ei ts.length c1) ts::cI ts::R)
  (fun j=>j.1≤4∧j.2.1.map (·.2)=pR (eX seed) j.1∧j.2.2.2.1.map (·.2)=(yh (eX seed) i).take j.1∧(∀ x∈j.2.1,x∈j.2.2.2.2.2)∧(∀ x∈j.2.2.2.1,x∈j.2.2.2.2.2)) (fun j=>4 - j.1) (0,ls,(dW,c2),[],(none,0),ls) ⟨by omega,Mr,by simp,fun x h=>h,fun x h=>by cases h⟩ (by rw [show i / 2 ^ 0=i by simp];exact zS) (cn (du eA 1) zE) ?_
 clear Mr;rintro ⟨h,ks,⟨eE,c3⟩,ps,⟨jB,c4⟩,K⟩ ⟨hh,J5,QJ,hkK,hpK⟩;dsimp only at hh J5 QJ hkK hpK ⊢
 have Oh:ks.length=2 ^ (4 - h):=by have:=congrArg List.length J5;rw [ab,D0 h hh] at this;exact this
 have Cn:ps.length=h:=by have:=congrArg List.length QJ;rw [ab,aF,lC] at this;omega
 by_cases cP:h<4
 rotate_left
 ·have hhe:h=4:=by omega
  subst hhe;have Xr:ks.length=1:=Oh;rw [aG (by rw [lC];omega)] at QJ
  refine wB ?_;apply br
  ·exact zV
  refine ⟨dH [cV (.slice ei ts.length c1) ts,cI ts,cV (.slice jB ps.length c4) ps,cI K]::R,cn (show cB _ (cV (.slice ei ts.length c1) ts::cI ts::cV (.slice jB ps.length c4) ps::cI K::R) from zE) (dS (M:=[_,_,_,_])),dH [cV (.slice ei ts.length c1) ts,cI ts,cV (.slice jB ps.length c4) ps,cI K],.slice ei ts.length c1,.slice jB ps.length c4,rfl,⟨tY ⟨ts,fB,bb .zero,dR.tail eH⟩,tY ⟨ps,QJ,bb (.succ (.succ .zero)),fun x hx=>(eH (l:=K) x (hpK x hx)).tail.tail.tail⟩,?_⟩,rfl⟩;refine ⟨by show i<_;omega,?_,?_⟩
  ·rw [show (rK seed i iE).parts.length=64 from nA _ _ _];omega
  ·rw [show (rK seed i iE).path.length=4 from lC _ _];omega
 have J2:i / 2 ^ h<2 ^ (4 - h):=by
  rw [Nat.div_lt_iff_lt_mul (Nat.two_pow_pos h),← Nat.pow_add,show 4 - h+h=4 by omega];exact hi
 have QK:i / 2 ^ h<16:=Nat.lt_of_le_of_lt (Nat.div_le_self _ _) hi;have Of:=J3 (i / 2 ^ h) QK;have RV:=RU J2 zo QK;rw [← Oh] at RV
 have J6:1<ks.length:=by rw [Oh];exact Nat.one_lt_two_pow zo
 have Mt:ks.length≤16:=by rw [Oh];exact Nat.le_trans (Nat.pow_le_pow_right zo (show 4 - h≤4 by omega)) (by decide)
 have nf:=J4 (l:=eX seed) (i:=i) cP;rw [← J5,fa RV] at nf
 have kz:(ps++[ks[(i / 2 ^ h) ^^^ 1]'RV]).map (·.2)=(yh (eX seed) i).take (h+1):=by rw [ah,QJ,nf];rfl
 have rv:=hkK _ (ax RV);have Vx:i / 2 ^ (h+1)=i / 2 ^ h / 2:=by rw [Nat.pow_succ,Nat.div_div_eq_div_mul]
 clear J2 nf
 generalize i / 2 ^ h=a at *
 have hdiv:IntKind.i64.wrap (((a:Nat):Int).tdiv 2)=((i / 2 ^ (h+1):Nat):Int):=by
  rw [Vx,Int.tdiv_eq_ediv_of_nonneg zo,show ((a:Nat):Int) / 2=((a / 2:Nat):Int) by omega];exact wrap_i64 zo zo
 have rL:a ^^^ 1<17:=by omega
 refine bD (D4 (.succ (.succ .zero)) zo) ?_;rintro ⟨p3,rfl⟩;have OP:Rd (cV (.slice (some ⟨p3,0,none⟩) ks.length c3) ks::cI K::cL g6 [.int .i64 0,nY,nY] 85 (0,0)::cV (.slice ei ts.length c1) ts::cI ts::R) ⟨p3,0+(a ^^^ 1),none⟩ (ks[a ^^^ 1]'RV).1:=(bb .zero).elem (by rw [aL,ae RV];rfl)
 generalize ks[a ^^^ 1]'RV=y at *
 obtain ⟨yv,yb⟩:=y;dsimp only at OP kz
 have sf:db (cI K::cL g6 [.int .i64 0,nY,nY] 85 (0,0)::cV (.slice ei ts.length c1) ts::cI ts::R) yv yb:=eH (l:=K) (yv,yb) rv;refine bD (cz sf.tail.tail.tail) fun oy=>?_
 generalize a ^^^ 1=x1 at *
 refine wB ?_;refine W.fp (bw (.succ .zero) aX) ?_;refine bk (id:=10) [9,10] (cL g8 [.int .i64 (i:Int),.slice ei ts.length c1,.slice jB ps.length c4] 85 (0,0)::cV (.slice (some ⟨p3,0,none⟩) ks.length c3) ks::cI K::cL g6 [.int .i64 0,nY,nY] 85 (0,0)::cV (.slice ei ts.length c1) ts::cI ts::R) mixed ?_
 (refine tF 0 ?_;refine tL 1 ?_;refine tM 2 ?_;refine tM 3 ?_;refine tk 4 _ rfl (cE.bits _ (by simp) rfl rfl) ?_)
 rw [Of]
 (refine tk 5 _ rfl (cE.iy rfl rfl zo) ?_;refine tL 6 ?_)
 refine tO 7 ?_;refine bF (n:=1) (z:=nY) (cs:=[yv]) rfl rfl rfl rfl (.one (eR oy) rfl .nil) rfl (fun gb=>⟨fun _=>zE,?_⟩);refine tO 8 ?_;refine bo rfl rfl rfl (.succ .zero) (bB .zero rfl zl) rfl rfl zO zm zo fun QD c5 _=>⟨fun _=>zE,?_⟩
 ((refine tO 9 ?_;refine dV (ba rfl) ?_);(refine tO 10 ?_;refine tf ?_;refine ⟨zN,?_⟩))
 refine bf zK ?_;refine wB ?_;refine aZ rfl rfl (yl _ e _ ks (bb (.succ (.succ (.succ .zero)))) (fun x hx=>(eH (l:=K) x (hkK x hx)).tail.tail.tail.tail) (oV J5 (qW ng h)) Mt) ?_;rintro _ _ ⟨GH,c6,ws,rfl,LB,rfl⟩;refine wB ?_;rw [hdiv];refine bi (h+1,ws,(GH,c6),ps++[(yv,yb)],(QD,c5),K++ws) ⟨by dsimp only;omega,by dsimp only;rw [LB,J5];rfl,kz,fun x hx=>List.mem_append_right _ hx,fun x hx=>?_⟩ zd ?_ ?_
 ·rcases aJ.1 hx with h|h
  ·exact List.mem_append_left _ (hpK x h)
  ·rw [an.1 h];exact List.mem_append_left _ rv
 ·dsimp only;exact zS
 ·dsimp only;simp only [cV,aa,aj,ah,List.map_cons,List.map_nil];refine cn (show cB _ (cI K::cI ws::cL g8 [.int .i64 (i:Int),.slice ei ts.length c1,.slice QD (ps.length+1) c5] 85 (0,0)::dJ eA 1 (.slice QD (ps.length+1) c5) (ps.length+1) (ps.map (·.1)++[yv])::cV (.slice GH ws.length c6) ws::cL g6 [.int .i64 0,nY,nY] 85 (0,0)::cV (.slice ei ts.length c1) ts::cI ts::R) from zE) (cn eL zE)
def xc.fits (s:xc):Prop:=(∀ a∈s.parts,a.length≤1000000)∧∀ a∈s.path,a.length≤1000000
theorem xc.right.fits {s:xc} (h:s.right):s.fits:=⟨fun a ha=>by have:=h.2.2.1 a ha;omega,fun a ha=>by have:=h.2.2.2.2 a ha;omega⟩
theorem yr (vp vq:Value) (s:xc) (hs:fN R vp vq s) (hr:s.fits) :
 Ct prog 190 #[.agg (yo s vp vq).toArray] e R (fun v' L'=>∃ (M:cK) (up uq:Value),v'=.agg (yo s up uq).toArray∧fN [M] up uq s∧L'=M::R):=by
 obtain ⟨h1,h2,h3⟩:=hs;obtain ⟨q3,q5⟩:=hr;refine a7 h1.one fun o1=>?_
 refine a7 h2.one fun o2=>?_
 refine bI (args:=[_]) func190 rfl ntmps190 results190 rfl ?_
 (repeat (refine wA ?_;intros))
 rename_i g1 g2;refine bk (id:=1) [9] (cL g1 (yo s vp vq) 85 (0,0)::R) mixed ?_
 (refine tF 0 ?_;refine tL 1 ?_;refine tF 2 ?_;refine tL 3 ?_;refine tF 5 ?_;refine tL 6 ?_)
 refine tO 4 ?_;refine bg rfl rfl (wz _ e vp s.parts h1.tail.tail zo q3) ?_;rintro _ _ ⟨ei,c1,us,rfl,hZ,rfl⟩;refine ⟨fun _=>zE,?_⟩;refine tO 7 ?_;refine bg rfl rfl (wz _ e vq s.path h2.tail.tail.tail.tail zo q5) ?_;rintro _ _ ⟨dW,c2,ws,rfl,LB,rfl⟩;refine ⟨fun _=>zE,?_⟩
 (refine tk 8 _ rfl (bM rfl zF) ?_;(refine tO 9 ?_;refine zg ?_;refine ⟨zN,?_⟩))
 refine bf zK ?_;refine wB ?_;apply br
 ·exact zV
 refine ⟨dH [cV (.slice ei us.length c1) us,cI us,cV (.slice dW ws.length c2) ws,cI ws]::R,cn (show cB _ (cV (.slice ei us.length c1) us::cI us::cV (.slice dW ws.length c2) ws::cI ws::R) from zE) (dS (M:=[_,_,_,_])),dH [cV (.slice ei us.length c1) us,cI us,cV (.slice dW ws.length c2) ws,cI ws],.slice ei us.length c1,.slice dW ws.length c2,rfl,⟨tY ⟨us,hZ,bb .zero,dR.tail eH⟩,tY ⟨ws,LB,bb (.succ (.succ .zero)),dR.tail (dR.tail (dR.tail eH))⟩,h3⟩,rfl⟩
theorem nW {l:List (List UInt8)} (h:∀ a∈l,a.length=32):l.flatten.length=32*l.length:=by
 induction l with
 | nil=>rfl
 | cons a l ih =>
  rw [List.flatten_cons,aa,ih fun b hb=>h b (aU _ hb),h a (List.mem_cons_self ..),aN]
  omega
theorem Bi (g:Nat) (bs:List (List UInt8)) (r:List UInt8) (jN:∀ a∈bs,a.length=32) (hl:bs.length≤1000) (hr:r.length≤1000000) :
 Ct prog 299 #[pt g,.int .i64 (bs.length:Int)] e (Reader g ⟨bs.flatten++r,false⟩::R) (fun v' L'=>∃ ad c us,v'=.slice ad us.length c∧us.map (·.2)=bs∧L'=Reader g ⟨r,false⟩::cV (.slice ad us.length c) us::cI us::R):=by
 refine a8 (args:=[_,_]) func299 rfl ntmps299 results299 rfl ?_;refine wB ?_;refine bq (ι:=Nat × List eo × Option Addr × Nat) (fun i=>[(0,pt g),(5,.slice i.2.2.1 i.2.1.length i.2.2.2),(6,.int .i64 (bs.length:Int)),(7,.int .i64 (i.1:Int))]) (fun i=>Reader g ⟨(bs.drop i.1).flatten++r,false⟩::cV (.slice i.2.2.1 i.2.1.length i.2.2.2) i.2.1::cI i.2.1::R) (fun i=>i.1≤bs.length∧i.2.1.map (·.2)=bs.take i.1) (fun i=>bs.length - i.1) (0,[],none,0) ⟨aH _,by simp⟩ zS (cn dM (cn (du eA 1) zE)) ?_;rintro ⟨i,us,ad,c⟩ ⟨hi,hZ⟩;dsimp only at hi hZ ⊢
 have Et:us.length=i:=by have:=congrArg List.length hZ;rw [ab,aF] at this;omega
 by_cases cP:i<bs.length
 rotate_left
 ·have JT:i=bs.length:=by omega
  subst JT;rw [aG (aS _)] at hZ
  rw [show (bs.drop bs.length).flatten++r=r by simp];refine wB ?_;exact aY _ rfl aX ⟨ad,c,us,rfl,hZ,rfl⟩
 have Eg:bs.drop i=bs[i]'cP::bs.drop (i+1):=List.drop_eq_getElem_cons cP;have hz:=jN _ (ax cP)
 have kz:∀ w:Value,(us++[(w,bs[i]'cP)]).map (·.2)=bs.take (i+1):=fun w=>by
  rw [ah,hZ,aD cP];rfl
 have DF:((bs.drop (i+1)).flatten++r).length≤1100000:=by
  rw [aa,nW (fun a ha=>jN a (aV ha)),aP];omega
 rw [Eg,List.flatten_cons,aM]
 generalize bs[i]'cP=b at *
 generalize Mu:(bs.drop (i+1)).flatten++r=rest at *
 refine wB ?_;refine aZ rfl rfl (x8 _ e g 32 b rest hz (by rw [aa];omega)) ?_;rintro _ _ ⟨eE,c3,rfl,rfl⟩
 (repeat (refine wA ?_;intros))
 refine bC (bo rfl rfl rfl (.succ (.succ (.succ .zero))) (bB .zero rfl zl) rfl rfl zO zm zo fun jB c4 _=>?_)
 refine wB ?_;refine bi (i+1,us++[(.slice eE b.length c3,b)],jB,c4) ⟨cP,kz _⟩ zd ?_ ?_
 ·dsimp only;rw [aa,aj];exact zS
 ·dsimp only;rw [Mu];exact cn (show cB _ (dJ eA 1 (.slice jB (us.length+1) c4) (us.length+1) (us.map (·.1)++[.slice eE b.length c3])::cT (.slice eE b.length c3) b::cI us::Reader g ⟨rest,false⟩::R) from zE) (cn gh zE)
def fI (s:xc):List UInt8:=be s.idx 4++(s.parts.flatten++s.path.flatten)
theorem gR {s:xc} (h:s.right):(fI s).length=2180:=by
 obtain ⟨h1,h2,h3,h4,h5⟩:=h;unfold fI;rw [aa,aa,cY,nW h3,nW h5,h2,h4]
theorem tZ (v:Value) (s:xc) (hv:db R v (fI s)) (hr:s.right) :
 Ct prog 267 #[v] e R (fun v' L'=>∃ (M:cK) (vp vq:Value),v'=.tuple #[.agg (yo s vp vq).toArray,.int .i64 0]∧fN [M] vp vq s∧L'=M::R):=by
 have DS:=gR hr;obtain ⟨q1,q2,q3,q4,q5⟩:=id hr;refine bI (args:=[_]) func267 rfl ntmps267 results267 rfl ?_
 (repeat (refine wA ?_;intros))
 rename_i g2;refine aZ rfl rfl (jx _ e v (fI s) hv.tail zo) ?_;rintro _ _ ⟨gr,rfl,rfl⟩;unfold fI;have hfp:=nW q3;have hfq:=nW q5;refine wB ?_;refine aZ rfl rfl (tD _ e gr s.idx (s.parts.flatten++s.path.flatten) zo) ?_;rintro _ _ ⟨rfl,rfl⟩;have h1:=Bi (cL g2 [.int .i64 0,nY,nY] 85 (0,0)::R) e gr s.parts s.path.flatten q3 zo zo;rw [q2] at h1
 refine wB ?_;refine aZ rfl rfl h1 ?_;rintro _ _ ⟨ei,c1,us,rfl,hZ,rfl⟩;have h2:=Bi (cV (.slice ei us.length c1) us::cI us::cL g2 [.int .i64 0,nY,nY] 85 (0,0)::R) e gr s.path [] q5 zo (by simp);rw [q4,aK] at h2
 (repeat (refine wA ?_;intros))
 refine aZ rfl rfl h2 ?_;rintro _ _ ⟨dW,c2,ws,rfl,LB,rfl⟩
 (repeat (refine wA ?_;intros))
 rename_i g5;refine aZ rfl rfl (Ct.at (.succ .zero) (x9 _ e gr [])) ?_;rintro _ _ ⟨rfl,rfl⟩;have Vy:∀ L:List cK,fN (cV (.slice dW ws.length c2) ws::cI ws::cV (.slice ei us.length c1) us::cI us::L) (.slice ei us.length c1) (.slice dW ws.length c2) s:=fun L=>⟨⟨us,hZ,bb (.succ (.succ .zero)),dR.tail (dR.tail (dR.tail eH))⟩,⟨ws,LB,bb .zero,dR.tail eH⟩,⟨by omega,by omega,by omega⟩⟩
 refine wB ?_;refine aZ rfl rfl (qo _ e _ _ s (Vy _).tail.tail) ?_;rintro _ _ ⟨rfl,rfl⟩;rw [ay hr];refine wB ?_;apply br
 ·exact zV
 refine ⟨dH [cV (.slice dW ws.length c2) ws,cI ws,cV (.slice ei us.length c1) us,cI us]::R,cn (show cB _ (cV (.slice dW ws.length c2) ws::cI ws::cV (.slice ei us.length c1) us::cI us::R) from zE) (dS (M:=[_,_,_,_])),dH [cV (.slice dW ws.length c2) ws,cI ws,cV (.slice ei us.length c1) us,cI us],.slice ei us.length c1,.slice dW ws.length c2,rfl,?_,rfl⟩;exact (Vy []).cM (cn (cU (L:=[])) (by rw [aK];exact aX))
end Go.Proofs
