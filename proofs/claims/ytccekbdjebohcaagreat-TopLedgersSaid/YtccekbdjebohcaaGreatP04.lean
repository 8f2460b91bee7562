/- Part 4 of a proof of this: TopLedgers returns true for any arguments; nothing of the old memory is turned. No condition. -/
import Derived.Test.YtccekbdjebohcaaGreatP03
set_option linter.unusedVariables false
set_option linter.unusedSimpArgs false
namespace Go.Proofs
attribute [local irreducible] Bs.Val Bs.Do Bs.O Bs.W Bs.Fin Bs.A Bs.Ct Bs.RdSl Bs.Rd Bs.Sat Bs.Blk Bs.Ob Bs.Own Bs.View Bs.Ent Bs.Ex Bs.All Bs.Pu Bs.Base Bs.sepL Bs.RdA
open Go.Bs
open Tryz
def stK (Y:List UInt8):Nat→S8
 | 0=>h0P
 | k+1=>blockP (stK Y k) ((Y.drop (64*k)).take 64)
theorem stK_fold (Y:List UInt8):∀ k,64*k≤Y.length→foldB h0P Y=foldB (stK Y k) (Y.drop (64*k))
 | 0,_=>rfl
 | k+1,h=>by
  have h1:(Y.drop (64*k)).length=Y.length - 64*k:=List.length_drop;rw [stK_fold Y k zo,foldB_step zo,List.drop_drop]
  rfl
set_option maxHeartbeats 2000000 in
theorem sum_spec (R:List Res) (e:World) (v:Value) (b:List UInt8) (hv:RdB R v b) (hb:b.length≤1000000000000) :
 Ct prog 154 #[v] e R (fun v' L'=>∃ ad c,v'=.slice ad (sha b).length c∧L'=OwnB (.slice ad (sha b).length c) (sha b)::R):=by
 refine Ct.of_sep (hv.shape zo) ?_;rintro ⟨⟨ad,cap,rfl,h3,h4,h5,h6⟩,_⟩;simp only [maxLen] at h4
 refine Ct.enterM (args:=[_]) func154 rfl ntmps154 rfl ?_
 (repeat' first|apply WM.seq|apply Fin.nextM|(refine O.buildArr (cs:=h0P.cells) rfl rfl rfl zQ rfl ?_)|(refine O.alloc (cs:=(List.replicate 8 (0:UInt32)).map u32v) rfl rfl ?_;intro _)|(refine O.storeAgg (vs:=h0P.cells) rfl rfl rfl (u32v_one h0P.list) .zero (setAts_whole rfl) ?_)|refine Zb ?_|apply Zd|apply Ze)
 rename_i g3;refine O.call rfl rfl (keys_spec _ e) ?_;rintro _ _ ⟨rfl,rfl⟩
 (repeat' first|apply WM.seq|apply Fin.nextM|(refine O.alloc (cs:=(List.replicate 64 (0:UInt32)).map u32v) rfl rfl ?_;intro _)|(refine O.storeAgg (vs:=kw.map u32v) rfl rfl rfl (u32v_one kw) .zero (setAts_whole rfl) ?_)|refine Za ?_|apply Zd|apply Ze)
 rename_i g4;refine O.call rfl rfl (clone_spec _ e _ b hv.tail.tail zo) ?_;rintro _ _ ⟨ad3,c3,rfl,rfl⟩
 (repeat (refine wA ?_;intros))
 refine O.do (Do.append rfl rfl rfl (.succ .zero) (RdSl.blk .zero rfl zl) rfl rfl zO zm zo fun ad4 c4 _=>?_)
 (repeat' first|apply WM.seq|apply Fin.nextM|refine Zb ?_|apply Ze|apply YB)
 refine W.loop (ι:=Nat × Option Addr × Nat) (fun i=>[(5,.slice i.2.1 (b.length+1+i.1) i.2.2),(3,pt g3),(4,pt g4),(0,.slice ad b.length cap)])
  (fun i=>Own tU8 1 (.slice i.2.1 (b.length+1+i.1) i.2.2) (b.length+1+i.1) ((b++128::List.replicate i.1 0).map u8)::Blk g3 h0P.cells 296 (0,0)::Blk g4 (kw.map u32v) 297 (0,0)::R)
  (fun i=>i.1≤zs b.length) (fun i=>zs b.length - i.1) (0,ad4,c4)
  (Nat.zero_le _) (sub_cons rfl (sub_cons rfl (sub_cons rfl (sub_cons rfl sub_nil)))) (by dsimp only;rw [List.map_append];exact zE) ?_
 rintro ⟨z,ad5,c5⟩ hz;dsimp only at hz ⊢
 have hz64:zs b.length<64:=by unfold zs;omega
 have hzd:zs b.length=(119 - b.length % 64) % 64:=rfl;have htm:=tmod64 (b.length+1+z)
 by_cases hzt:z<zs b.length
 ·(repeat (refine wA ?_;intros))
  refine O.do (Do.append rfl rfl rfl (.succ .zero) (RdSl.blk .zero rfl zl) rfl rfl zO zm zo fun ad6 c6 _=>?_)
  refine wB ?_;refine Fin.round (z+1,ad6,c6) hzt zd (sub_cons rfl (sub_cons rfl (sub_cons rfl (sub_cons rfl sub_nil)))) ?_;dsimp only
  have he:(b++128::List.replicate (z+1) (0:UInt8)).map u8=(b++128::List.replicate z 0).map u8++[.int .u8 0]:=by
   rw [List.replicate_succ',show b++128::(List.replicate z 0++[0])=(b++128::List.replicate z (0:UInt8))++[0] by simp,List.map_append]
   rfl
  rw [he];exact zE
 obtain rfl:z=zs b.length:=by omega
 have hXl:(b++128::List.replicate (zs b.length) (0:UInt8)).length=b.length+1+zs b.length:=by simp;omega
 have hpad:∀ m,(b++128::List.replicate (zs b.length) (0:UInt8))++m=b++128::(List.replicate (zs b.length) 0++m):=fun m=>by simp
 rw [← hXl] at htm ⊢
 have hXb:(b++128::List.replicate (zs b.length) (0:UInt8)).length≤1000000000128:=by omega
 have hX56:(b++128::List.replicate (zs b.length) (0:UInt8)).length % 64=56:=by omega
 have hsha:sha b=outP (foldB h0P (b++128::(List.replicate (zs b.length) 0++len8 b.length))):=rfl;rw [← hpad] at hsha
 clear hpad hXl
 generalize b++128::List.replicate (zs b.length) (0:UInt8)=X at *
 have h8:(len8 b.length).length=8:=be_length _ _
 (repeat' first|apply WM.seq|apply Fin.nextM|refine Za ?_|refine Zb ?_|apply Zc|apply Zd|apply Ze|apply Zf|refine Zk ?_|refine ZQ ?_|refine YA ?_|apply YB|apply YD|apply YG|apply YJ|refine YL ?_|fail)
 refine W.loop (ι:=Nat × Option Addr × Nat) (fun i=>[(6,.int .i64 (7 - (i.1:Int))),(5,.slice i.2.1 (X.length+i.1) i.2.2),(3,pt g3),(4,pt g4),(0,.slice ad b.length cap)])
  (fun i=>Own tU8 1 (.slice i.2.1 (X.length+i.1) i.2.2) (X.length+i.1) ((X++(len8 b.length).take i.1).map u8)::Blk g3 h0P.cells 296 (0,0)::Blk g4 (kw.map u32v) 297 (0,0)::R)
  (fun i=>i.1≤8) (fun i=>8 - i.1) (0,ad5,c5)
  (Nat.zero_le _) (sub_cons rfl (sub_cons rfl (sub_cons rfl (sub_cons rfl (sub_cons rfl sub_nil))))) (by dsimp only;rw [List.take_zero,List.append_nil];exact zE) ?_
 rintro ⟨m,ad7,c7⟩ hm;dsimp only at hm ⊢
 by_cases hmt:m<8
 ·have hbyte:=len8_byte b.length m hmt zo;have hw1:=w64 b.length zo
  have hw2:IntKind.u64.wrap ((b.length:Int)*8)=((b.length*8:Nat):Int):=by
   rw [← w64 (b.length*8) zo];rfl
  (repeat' first|(apply O.convInt;exact rfl;exact rfl)|refine Za ?_|apply Zc|apply Zd|apply Ze|apply Zf|refine Zk ?_|refine ZJ ?_|refine ZW ?_|refine ZX ?_|refine Z1 ?_|refine Yi fun _=>?_|refine Yz ?_|apply YB|apply YC)
  rw [hw1,hw2,show IntKind.u64.bits=64 from rfl,hbyte];have hdr:=be_drop (b.length*8) 8 m hmt;have hstep:(len8 b.length).take (m+1)=(len8 b.length).take m++[UInt8.ofNat (b.length*8 / 256 ^ (7 - m))]:=take_step hdr;clear hbyte hdr
  generalize UInt8.ofNat (b.length*8 / 256 ^ (7 - m))=cc at *
  have htk:(X++(len8 b.length).take (m+1)).map u8=(X++(len8 b.length).take m).map u8++[u8 cc]:=by
   rw [hstep,← List.append_assoc,List.map_append];rfl
  generalize X++(len8 b.length).take m=Y at *
  refine O.do (Do.append rfl rfl rfl (.succ .zero) (RdSl.blk .zero rfl zl) rfl rfl zO zm zo fun ad6 c6 _=>?_)
  refine wB ?_;refine Fin.round (m+1,ad6,c6) hmt zd ?_ ?_
  ·dsimp only;rw [show (7 - ((m+1:Nat):Int))=7 - (m:Int) - 1 by omega];exact sub_cons rfl (sub_cons rfl (sub_cons rfl (sub_cons rfl (sub_cons rfl sub_nil))))
  ·dsimp only;rw [htk];exact zE
 obtain rfl:m=8:=by omega
 rw [List.take_of_length_le zo];have hYl:(X++len8 b.length).length=X.length+8:=by rw [List.length_append,h8]
 have hY64:(X++len8 b.length).length % 64=0:=by omega
 have hYb:(X++len8 b.length).length≤1000000001000:=by omega
 have hYpos:0<(X++len8 b.length).length:=by omega
 rw [← hYl]
 generalize X++len8 b.length=Y at *
 (repeat' first|apply WM.seqB|apply Fin.nextM|refine Za ?_|apply Zc|apply Zd|apply Ze|apply Zf|refine ZK ?_|refine YA ?_|apply YD|apply YG|apply YJ)
 refine O.of_sep (ownB_cap .zero) ?_;rintro ⟨ad8,c8,hq,hcap,hcap2⟩;obtain ⟨rfl,_,rfl⟩:=Value.slice.inj hq;clear hq;simp only [maxLen] at hcap2
 refine O.of_sep (own_shape .zero) ?_;rintro ⟨⟨ad9,c9,hq,_,_,hqq⟩,_⟩;obtain ⟨rfl,_,rfl⟩:=Value.slice.inj hq;clear hq
 obtain ⟨gl,rfl⟩:∃ gl,ad7=some ⟨gl,0,none⟩:=by
  rcases hqq with ⟨_,_,h0⟩|h0
  ·omega
  ·exact h0
 clear hqq;refine O.call rfl rfl (chunk_spec _ e (some ⟨gl,0,none⟩) Y.length c7) ?_;rintro _ _ ⟨gs,gn,rfl,rfl⟩
 (repeat' first|apply Fin.nextB|apply Ze)
 obtain ⟨m,hm64⟩:∃ m,Y.length=64*m:=⟨Y.length / 64,by omega⟩
 refine WB.range (lb:=[pt gs,pt gn]) results154 rfl (Blk gs [.slice (some ⟨gl,0,none⟩) Y.length c7] 30 (0,0)::Blk gn [.int .i64 64] 3 (0,0)::OwnB (.slice (some ⟨gl,0,none⟩) Y.length c7) Y::Blk g3 (stK Y m).cells 296 (0,0)::Blk g4 (kw.map u32v) 297 (0,0)::R) ?_ ?_
 ·intro l D r h1 h2 h3 h4 h5 hr;refine iter_spec e l gs gn m gl 0 c7 Y (fun k=>Lp l r::Df D::Blk gs [.slice (some ⟨gl,0,none⟩) Y.length c7] 30 (0,0)::Blk gn [.int .i64 64] 3 (0,0)::OwnB (.slice (some ⟨gl,0,none⟩) Y.length c7) Y::Blk g3 (stK Y k).cells 296 (0,0)::Blk g4 (kw.map u32v) 297 (0,0)::R) hm64 zo hcap (fun k=>zR) (fun k=>zR) ?_;intro k hk;have hpr:∀ {A B C D':Res} {L:List Res},RdB (A::B::C::D'::OwnB (.slice (some ⟨gl,0,none⟩) Y.length c7) Y::L) (.slice (some ⟨gl,0+64*k,none⟩) 64 64) ((Y.drop (64*k)).take 64):=part_rd (RdB.tail (RdB.tail (RdB.tail (RdB.tail (RdSl.own .zero))))) hm64 hcap hk
  have hpl:((Y.drop (64*k)).take 64).length=64:=by rw [List.length_take,List.length_drop];omega
  have hst:stK Y (k+1)=blockP (stK Y k) ((Y.drop (64*k)).take 64):=rfl;rw [hst]
  generalize stK Y k=S at *
  generalize (Y.drop (64*k)).take 64=B at *
  refine Rt.mk h1 h2 h3 rfl rfl hr ?_;refine WI.code h4 ?_;refine WI.region ?_;refine OI.val _ rfl (Val.assign rfl) rfl ?_;refine OI.nil ?_;refine Fin.endA Ent.rfl ?_;refine WI.code h5 ?_;refine WI.block ?_;refine WI.region ?_;refine OI.val _ rfl (Val.loadAggR (cs:=S.cells) rfl (by (repeat first|exact RdA.whole .zero|apply RdA.tail);done) rfl) rfl ?_;refine OI.val _ rfl (Val.move rfl) rfl ?_;refine OI.do rfl (Do.call rfl rfl (mix_spec _ e S _ B g4 hpr hpl (by (repeat first|exact RdA.whole .zero|apply RdA.tail);done)) ?_)
  rintro _ _ ⟨rfl,rfl⟩
  generalize blockP S B=S2 at *
  refine OI.do rfl (Do.storeAgg (vs:=S2.cells) rfl rfl (cells_len S2) (u32v_one S2.list) zU (setAts_whole ((cells_len S).trans (cells_len S2).symm)) ?_)
  refine OI.nil ?_;refine Fin.block_normal ?_;exact Fin.endR zE
 intro D
 have hfold:foldB h0P Y=stK Y m:=by
  rw [stK_fold Y m zo];exact foldB_end (by rw [List.length_drop];omega)
 rw [hsha,hfold];clear hfold hsha
 generalize stK Y m=V at *
 have hvl:V.list.length=8:=rfl;refine wB ?_;refine O.do (Do.make0 (el:=tU8) (nn:=1) (z:=.int .u8 0) (b:=1) (c:=32) rfl rfl rfl zl zo fun go=>?_)
 (repeat' first|(refine O.loadAggR (cs:=V.cells) rfl (by (repeat first|exact RdA.whole .zero|apply RdA.tail);done) rfl rfl ?_)|refine Za ?_|refine Zb ?_|apply Zc|apply Zd|apply Ze|apply Zf|apply YB)
 rw [S8.cells_eq];refine W.loop (ι:=Nat × Option Addr × Nat) (fun i=>[(47,.int .i64 (i.1:Int)),(46,.agg (V.list.map u32v).toArray),(8,.slice i.2.1 (4*i.1) i.2.2)])
  (fun i=>Own tU8 1 (.slice i.2.1 (4*i.1) i.2.2) (4*i.1) (((V.list.take i.1).flatMap outW).map u8)::Df D::R)
  (fun i=>i.1≤8) (fun i=>8 - i.1) (0,some ⟨go,0,none⟩,32)
  (Nat.zero_le _) (sub_cons rfl (sub_cons rfl (sub_cons rfl sub_nil))) zE ?_
 rintro ⟨j,ad10,c10⟩ hj;dsimp only at hj ⊢
 by_cases hjt:j<8
 ·have hr:(V.list.map u32v)[j]?=some (u32v (V.list.getD j 0)):=by
   have h64:j<V.list.length:=hjt;rw [List.getElem?_map,List.getElem?_eq_getElem h64,List.getD_eq_getElem?_getD,List.getElem?_eq_getElem h64];rfl
  have hst:((V.list.take (j+1)).flatMap outW).map u8=((V.list.take j).flatMap outW).map u8++(outW (V.list.getD j 0)).map u8:=by
   have h64:j<V.list.length:=hjt;rw [List.take_succ_eq_append_getElem h64,List.flatMap_append,List.map_append,List.getD_eq_getElem?_getD,List.getElem?_eq_getElem h64]
   rfl
  generalize V.list.getD j 0=x at *
  (repeat' first|refine YY ?_|refine Y0 ?_|refine Y4 ?_|refine Za ?_|refine Zb ?_|apply Zc|apply Zd|apply Ze|apply Zf|refine ZA ?_|refine Yi fun _=>?_|refine Yz ?_|apply YB|apply YC)
  refine O.do (Do.append rfl rfl rfl (.succ .zero) (RdSl.blk .zero rfl zl) rfl rfl zO zm zo fun ad11 c11 _=>?_)
  refine wB ?_;refine Fin.round (j+1,ad11,c11) hjt zd ?_ ?_
  ·dsimp only;rw [Nat.mul_add];exact sub_cons rfl (sub_cons rfl (sub_cons rfl sub_nil))
  ·dsimp only;rw [hst,Nat.mul_add];exact (show Ent _ (Own tU8 1 (.slice ad11 (4*j+4*1) c11) (4*j+4*1) (((V.list.take j).flatMap outW).map u8++(outW x).map u8)::Df D::R) from zE)
 obtain rfl:j=8:=by omega
 rw [List.take_of_length_le zo];refine wB ?_;exact Fin.ret (Df D::OwnB (.slice ad10 (outP V).length c10) (outP V)::R) rfl (show Ent (Own tU8 1 (.slice ad10 32 c10) 32 ((outP V).map u8)::Df D::R) _ from zE) ⟨_,rfl,ad10,c10,rfl,rfl⟩
end Go.Proofs
namespace Go.Bs
def lenP (n:Nat):Nat:=if n=0 then 0 else n.log2+1
theorem lenP_div (n k:Nat) (h:2 ^ k≤n):lenP (n / 2 ^ k)+k=lenP n:=by
 have h0:0<2 ^ k:=Nat.two_pow_pos k;have h1:n≠0:=by omega
 have h2:n / 2 ^ k≠0:=by
  have:=Nat.div_pos h h0
  omega
 unfold lenP;rw [if_neg h1,if_neg h2];have h3:k≤n.log2:=(Nat.le_log2 h1).2 h
 have h4:(n / 2 ^ k).log2=n.log2 - k:=by
  rw [Nat.log2_eq_iff h2]
  constructor
  ·rw [Nat.le_div_iff_mul_le h0,← Nat.pow_add,Nat.sub_add_cancel h3];exact Nat.log2_self_le h1
  ·rw [Nat.div_lt_iff_lt_mul h0,← Nat.pow_add,show n.log2 - k+1+k=n.log2+1 by omega];exact Nat.lt_log2_self
 omega
def lenTab:List UInt8:=(List.range 256).map fun i=>UInt8.ofNat (lenP i)
section
variable {P:Program} {N:Fr} {Q:Goal} {σ:Env} {e:World} {L:List Res} {all:Array Oper} {rest:List Oper} {d:Nat} {ty:TypeId} {pos:String} {af:Array Edge}
theorem O.indexS {x y:Operand} {t:TypeId} {s:ByteArray} {k:IntKind} {i c:Nat} [q:StrT P t] (h:ev σ x=some (.string s)) (h1:ev σ y=some (.int k (i:Int))) (hl:∃ h:i<s.size,s[i].toNat=c) (hd:Nat.blt d N.n=true)
 (kk:O P N all rest Q ((d,.int .u8 (c:Int))::σ) e L):O P N all (⟨some d,.index t x y,ty,pos,af,none⟩::rest) Q σ e L:=by
 obtain ⟨h2,h3⟩:=hl;refine O.val _ ?_ hd kk;have:=Val.index1 (P:=P) (N:=N) (ty:=ty) (e:=e) (L:=L) (t:=t) h h1 h2;rw [h3] at this
 exact this
end
theorem lenTab_length:lenTab.length=256:=by simp [lenTab]
theorem lenTab_at (y:Nat) (hy:y<256):(lenTab[y]'(by rw [lenTab_length];exact hy)).toNat=lenP y:=by
 have h1:∀ m:_root_.Fin 256,(lenTab[m.1]'(by rw [lenTab_length];exact m.2)).toNat=lenP m.1:=by decide +kernel
 exact h1 ⟨y,hy⟩
theorem fdivN (m s:Nat) (t:Nat) (h:s≤t):((m:Int)).fdiv (2 ^ (min ((s:Int)).toNat t))=((m / 2 ^ s:Nat):Int):=by
 rw [Int.toNat_natCast,Nat.min_eq_left h,Int.fdiv_eq_ediv_of_nonneg _ (Int.pow_nonneg (by decide))]
 simp
end Go.Bs
namespace Go.Proofs
open Go.Bs
attribute [local irreducible] Bs.Val Bs.Do Bs.O Bs.W Bs.Fin Bs.A Bs.Ct Bs.RdSl Bs.Rd Bs.Sat Bs.Blk Bs.Ob Bs.Own Bs.View Bs.Ent Bs.Ex Bs.All Bs.Pu Bs.Base Bs.sepL Bs.RdA
set_option maxRecDepth 100000 in
theorem len64_spec (R:List Res) (e:World) (x:Nat) (hx:x<18446744073709551616) :
 Ct Tryz.prog 278 #[.int .u64 (x:Int)] e R (fun v' L'=>v'=.int .i64 (lenP x:Int)∧R=L'):=by
 refine Ct.enter (args:=[_]) Tryz.func278 rfl Tryz.ntmps278 Tryz.results278 rfl ?_
 (repeat' first|refine W.meetS (id:=4) (fun i:Nat × Nat=>[(0,.int .u64 (i.1:Int)),(2,.int .i64 (i.2:Int))]) (fun _=>R) (fun i=>i.1<4294967296∧lenP i.1+i.2=lenP x∧i.2≤32) ?_ ?_|refine Zb ?_|apply Zc|apply Zd|apply Ze|apply Zf)
 rotate_left
 ·refine ⟨?_⟩
  by_cases h:4294967296≤x
  ·refine wB ?_;refine Fin.meet (x / 4294967296,32) ⟨by dsimp only;omega,lenP_div x 32 h,by dsimp only;omega⟩ (sub_cons ?_ (sub_cons rfl sub_nil)) Ent.rfl;exact congrArg (fun z=>some (Value.int .u64 z)) (fdivN x 32 64 zo)
  ·refine wB ?_;exact Fin.meet (x,0) ⟨by dsimp only;omega,rfl,by dsimp only;omega⟩ (sub_cons rfl (sub_cons rfl sub_nil)) Ent.rfl
 rintro ⟨x2,n2⟩ ⟨hx2,hl2,hn2⟩;dsimp only at hx2 hl2 hn2 ⊢
 (repeat' first|refine W.meetS (id:=7) (fun i:Nat × Nat=>[(0,.int .u64 (i.1:Int)),(2,.int .i64 (i.2:Int))]) (fun _=>R) (fun i=>i.1<65536∧lenP i.1+i.2=lenP x∧i.2≤48) ?_ ?_)
 rotate_left
 ·refine ⟨?_⟩
  by_cases h:65536≤x2
  ·have:lenP (x2 / 65536)+16=lenP x2:=lenP_div x2 16 h;refine wB ?_;refine Fin.meet (x2 / 65536,n2+16) ⟨by dsimp only;omega,by dsimp only;omega,by dsimp only;omega⟩ (sub_cons ?_ (sub_cons rfl sub_nil)) Ent.rfl;exact congrArg (fun z=>some (Value.int .u64 z)) (fdivN x2 16 64 zo)
  ·refine wB ?_;exact Fin.meet (x2,n2) ⟨by dsimp only;omega,hl2,by dsimp only;omega⟩ (sub_cons rfl (sub_cons rfl sub_nil)) Ent.rfl
 rintro ⟨x3,n3⟩ ⟨hx3,hl3,hn3⟩;dsimp only at hx3 hl3 hn3 ⊢
 clear hx2 hl2 hn2
 (repeat' first|refine W.meet27 (id:=10) (fun i:Nat × Nat=>[(0,.int .u64 (i.1:Int)),(2,.int .i64 (i.2:Int))]) (fun _=>R) (fun i=>i.1<256∧lenP i.1+i.2=lenP x∧i.2≤56) ?_ ?_)
 rotate_left
 ·refine ⟨?_⟩
  by_cases h:256≤x3
  ·have:lenP (x3 / 256)+8=lenP x3:=lenP_div x3 8 h;refine wB ?_;refine Fin.meet (x3 / 256,n3+8) ⟨by dsimp only;omega,by dsimp only;omega,by dsimp only;omega⟩ (sub_cons ?_ (sub_cons rfl sub_nil)) Ent.rfl;exact congrArg (fun z=>some (Value.int .u64 z)) (fdivN x3 8 64 zo)
  ·refine wB ?_;exact Fin.meet (x3,n3) ⟨by dsimp only;omega,hl3,by dsimp only;omega⟩ (sub_cons rfl (sub_cons rfl sub_nil)) Ent.rfl
 rintro ⟨y,n⟩ ⟨hy,hl,hn⟩;dsimp only at hy hl hn ⊢
 clear hx3 hl3 hn3;have htl:lenTab.length=256:=by simp [lenTab]
 have hti:∀ (h:y<(str lenTab).size),((str lenTab)[y]'h).toNat=lenP y:=fun h=>by
  have h1:(str lenTab)[y]'h=lenTab[y]'zo:=rfl;rw [h1];exact lenTab_at y hy
 have hw8:IntKind.u8.wrap (y:Int)=(y:Int):=wrap_u8 zo zo;refine wB ?_;refine O.indexS (s:=str lenTab) (c:=lenP y) zK rfl ⟨by rw [size_str,lenTab_length];exact hy,hti _⟩ rfl ?_
 have hl8:lenP y≤8:=by
  unfold lenP
  split
  ·omega
  ·rename_i h0;have:y.log2<8:=(Nat.log2_lt h0).2 hy
   omega
 refine wB ?_;exact Fin.ret R rfl Ent.rfl ⟨by rw [← hl,Int.natCast_add,Int.add_comm];rfl,rfl⟩
theorem len_spec (R:List Res) (e:World) (x:Nat) (hx:x<18446744073709551616) :
 Ct Tryz.prog 232 #[.int .u64 (x:Int)] e R (fun v' L'=>v'=.int .i64 (lenP x:Int)∧R=L'):=by
 refine Ct.enter (args:=[_]) Tryz.func232 rfl Tryz.ntmps232 Tryz.results232 rfl ?_;refine wB ?_;refine O.call rfl rfl (len64_spec R e x hx) ?_;rintro _ _ ⟨rfl,rfl⟩;refine wB ?_;exact Fin.ret R rfl Ent.rfl ⟨rfl,rfl⟩
end Go.Proofs
namespace Go.Proofs
attribute [local irreducible] Bs.Val Bs.Do Bs.O Bs.W Bs.Fin Bs.A Bs.Ct Bs.RdSl Bs.Rd Bs.Sat Bs.Blk Bs.Ob Bs.Own Bs.View Bs.Ent Bs.Ex Bs.All Bs.Pu Bs.Base Bs.sepL Bs.RdA
open Go.Bs
open Tryz
def within (n lo hi:Int):Int:=if n≥lo∧n≤hi then n else lo+(if n.tmod (hi - lo+1)<0 then n.tmod (hi - lo+1)+hi - lo+1 else n.tmod (hi - lo+1))
theorem within_bounds (n lo hi:Int) (h:lo≤hi):lo≤within n lo hi∧within n lo hi≤hi:=by
 unfold within;have h1:=Int.tmod_lt_of_pos n (show 0<hi - lo+1 by omega)
 have h2:-(hi - lo+1)<n.tmod (hi - lo+1):=by
  rcases Int.le_total 0 n with h0|h0
  ·have:=Int.tmod_nonneg (hi - lo+1) h0;omega
  ·have h3:=Int.tmod_lt_of_pos (-n) (show 0<hi - lo+1 by omega);rw [Int.neg_tmod] at h3;omega
 split
 ·omega
 ·split<;>omega
theorem within_spec (R:List Res) (e:World) (n lo hi:Int) (hn:-9223372036854775808≤n∧n≤9223372036854775807) (hl:-4611686018427387904≤lo∧lo≤hi∧hi≤1099511627776∧hi - lo≤1099511627776) :
 Ct prog 24 #[.int .i64 n,.int .i64 lo,.int .i64 hi] e R (fun v' L'=>v'=.int .i64 (within n lo hi)∧R=L'):=by
 refine Ct.enter (args:=[_,_,_]) func24 rfl ntmps24 results24 rfl ?_;have h1:=Int.tmod_lt_of_pos n (show 0<hi - lo+1 by omega)
 have h2:-(hi - lo+1)<n.tmod (hi - lo+1):=by
  rcases Int.le_total 0 n with h0|h0
  ·have:=Int.tmod_nonneg (hi - lo+1) h0;omega
  ·have h3:=Int.tmod_lt_of_pos (-n) (show 0<hi - lo+1 by omega);rw [Int.neg_tmod] at h3;omega
 have hw:within n lo hi=if n≥lo∧n≤hi then n else lo+(if n.tmod (hi - lo+1)<0 then n.tmod (hi - lo+1)+hi - lo+1 else n.tmod (hi - lo+1)):=rfl
 by_cases ha:n≥lo
 ·by_cases hb:n≤hi
  ·refine wB ?_;exact Fin.ret _ rfl Ent.rfl ⟨by rw [hw,if_pos ⟨ha,hb⟩];rfl,rfl⟩
  ·by_cases hc:n.tmod (hi - lo+1)<0
   ·refine wB ?_;exact Fin.ret _ rfl Ent.rfl ⟨by rw [hw,if_neg (fun h=>hb h.2),if_pos hc];rfl,rfl⟩
   ·refine wB ?_;exact Fin.ret _ rfl Ent.rfl ⟨by rw [hw,if_neg (fun h=>hb h.2),if_neg hc];rfl,rfl⟩
 ·by_cases hc:n.tmod (hi - lo+1)<0
  ·refine wB ?_;exact Fin.ret _ rfl Ent.rfl ⟨by rw [hw,if_neg (fun h=>ha h.1),if_pos hc];rfl,rfl⟩
  ·refine wB ?_;exact Fin.ret _ rfl Ent.rfl ⟨by rw [hw,if_neg (fun h=>ha h.1),if_neg hc];rfl,rfl⟩
def cat (l:List Txt):List UInt8:=(l.map (·.2)).flatten
theorem cat_len {m:Nat}:∀ {l:List Txt},(∀ a∈l,a.2.length≤m)→(cat l).length≤m*l.length
 | [],_=>by simp [cat]
 | a::l,h=>by
  have h1:=h a (List.mem_cons_self ..);have h2:=cat_len (l:=l) fun b hb=>h b (List.mem_cons_of_mem _ hb)
  simp only [cat,List.map_cons,List.flatten_cons,List.length_append,List.length_cons,Nat.mul_add,Nat.mul_one] at h2 ⊢
  omega
theorem cat_take {l:List Txt} {i:Nat} (h:i<l.length):cat (l.take (i+1))=cat (l.take i)++(l[i]'h).2:=by
 simp only [cat];rw [List.take_succ_eq_append_getElem h];simp only [List.map_append,List.map_cons,List.map_nil,List.flatten_append,List.flatten_cons,List.flatten_nil,List.append_nil]
end Go.Proofs
namespace Go.Bs
def splitP (n:Nat):Nat:=if n<2 then 0 else 2 ^ (n - 1).log2
def splitI (n:Int):Int:=if n<2 then 0 else (splitP n.toNat:Int)
theorem splitI_nat (n:Nat):splitI (n:Int)=(splitP n:Int):=by
 unfold splitI splitP
 by_cases h:n<2
 ·rw [if_pos zo,if_pos h];rfl
 ·rw [if_neg zo,Int.toNat_natCast]
theorem splitP_spec {n:Nat} (h:2≤n):1≤splitP n∧splitP n<n∧n≤2*splitP n:=by
 unfold splitP;rw [if_neg zo];have h1:=Nat.log2_self_le (n:=n - 1) zo;have h2:=Nat.lt_log2_self (n:=n - 1);rw [Nat.pow_succ] at h2
 have h3:=Nat.two_pow_pos (n - 1).log2
 omega
def tagP (t:UInt8) (l:List (List UInt8)):List UInt8:=sha (t::l.flatten)
def leafP (b:List UInt8):List UInt8:=tagP 0 [b]
def nodeP (l r:List UInt8):List UInt8:=tagP 1 [l,r]
def rootP (l:List (List UInt8)):List UInt8 :=
 if h:l.length<2 then (match l with|[]=>sha []|a::_=>a) else nodeP (rootP (l.take (splitP l.length))) (rootP (l.drop (splitP l.length)))
 termination_by l.length
 decreasing_by
 ·have:=splitP_spec (n:=l.length) zo;rw [List.length_take];omega
 ·have:=splitP_spec (n:=l.length) zo;rw [List.length_drop];omega
theorem rootP_nil:rootP []=sha []:=by rw [rootP,dif_pos (by simp)]
theorem rootP_one (a:List UInt8):rootP [a]=a:=by rw [rootP,dif_pos (by simp)]
theorem rootP_more {l:List (List UInt8)} (h:2≤l.length):rootP l=nodeP (rootP (l.take (splitP l.length))) (rootP (l.drop (splitP l.length))):=by rw [rootP,dif_neg zo]
theorem tagP_length (t:UInt8) (l:List (List UInt8)):(tagP t l).length=32:=sha_length _
theorem rootP_length {l:List (List UInt8)} {m:Nat} (hm:32≤m) (h:∀ a∈l,a.length≤m):(rootP l).length≤m:=by
 match l,h with
 | [],_=>rw [rootP_nil,sha_length];exact hm
 | [a],h=>rw [rootP_one];exact h a (List.mem_singleton.2 rfl)
 | a::b::r,_=>rw [rootP_more (by simp)];unfold nodeP;rw [tagP_length];exact hm
end Go.Bs
namespace Go.Proofs
open Go.Bs
attribute [local irreducible] Bs.Val Bs.Do Bs.O Bs.W Bs.Fin Bs.A Bs.Ct Bs.RdSl Bs.Rd Bs.Sat Bs.Blk Bs.Ob Bs.Own Bs.View Bs.Ent Bs.Ex Bs.All Bs.Pu Bs.Base Bs.sepL Bs.RdA
theorem split_spec (R:List Res) (e:World) (n:Int) (hn:-9223372036854775808≤n∧n≤9223372036854775807) :
 Ct Tryz.prog 155 #[.int .i64 n] e R (fun v' L'=>v'=.int .i64 (splitI n)∧R=L'):=by
 refine Ct.enter (args:=[_]) Tryz.func155 rfl Tryz.ntmps155 Tryz.results155 rfl ?_
 by_cases h:n<2
 ·refine wB ?_;exact Fin.ret R rfl Ent.rfl ⟨by unfold splitI;rw [if_pos h];rfl,rfl⟩
 obtain ⟨m,rfl⟩:=Int.eq_ofNat_of_zero_le (show 0≤n by omega)
 have hw:IntKind.u64.wrap ((m:Int) - 1)=((m - 1:Nat):Int):=by
  rw [show (m:Int) - 1=((m - 1:Nat):Int) by omega];exact w64 _ zo
 have hl:lenP (m - 1)=(m - 1).log2+1:=by unfold lenP;rw [if_neg zo]
 have hb:(m - 1).log2<63:=(Nat.log2_lt zo).2 zo;have hp:2 ^ (m - 1).log2≤m - 1:=Nat.log2_self_le zo;refine wB ?_;rw [hw];refine O.call rfl rfl (len_spec R e (m - 1) zo) ?_;rintro _ _ ⟨rfl,rfl⟩;rw [hl];refine wB ?_;refine Fin.ret R rfl Ent.rfl ⟨?_,rfl⟩;rw [splitI_nat];unfold splitP;rw [if_neg zo]
 show Value.int _ _=Value.int _ _
 congr 1
 rw [show ((((m - 1).log2+1:Nat):Int) - 1).toNat=(m - 1).log2 by omega,show IntKind.i64.bits=64 from rfl,Nat.min_eq_left zo,Int.one_mul];have e1:(2:Int) ^ (m - 1).log2=((2 ^ (m - 1).log2:Nat):Int):=by simp
 rw [e1];clear e1
 generalize 2 ^ (m - 1).log2=q at *
 exact wrap_i64 zo zo
theorem tagged_spec (R:List Res) (e:World) (t:UInt8) (v:Value) (ts:List Txt) (hv:RdSl R 1 v ts.length (ts.map (·.1))) (ht:Txts R ts) (hb:∀ a∈ts,a.2.length≤1000000) (hl:ts.length≤10000) :
 Ct Tryz.prog 189 #[u8 t,v] e R (fun v' L'=>∃ ad c,v'=.slice ad (tagP t (ts.map (·.2))).length c∧L'=OwnB (.slice ad (tagP t (ts.map (·.2))).length c) (tagP t (ts.map (·.2)))::R):=by
 refine Ct.of_sep (hv.shape zo) ?_;rintro ⟨⟨ad,cap,rfl,h3,h4,h5,h6⟩,_⟩;simp only [maxLen] at h4
 have hcl:∀ i,(cat (ts.take i)).length≤10000000000:=fun i=>by
  have h1:=cat_len (l:=ts.take i) (m:=1000000) (fun a ha=>hb a (List.mem_of_mem_take ha));rw [List.length_take] at h1
  have h2:1000000*min i ts.length≤1000000*10000:=Nat.mul_le_mul_left _ zo
  omega
 refine Ct.enter (args:=[_,_]) Tryz.func189 rfl Tryz.ntmps189 Tryz.results189 rfl ?_
 (repeat (refine wA ?_;intros))
 refine W.ent1 (Ent.trans (own_in (n:=1) (k:=1) (cap:=1) zo zl (by simp)) Ent.rfl) ?_;refine W.loop (ι:=Nat × Option Addr × Nat) (fun i=>[(12,.int .i64 (i.1:Int)),(11,.int .i64 (ts.length:Int)),(10,.slice ad ts.length cap),(5,.slice i.2.1 (1+(cat (ts.take i.1)).length) i.2.2)])
  (fun i=>Own tU8 1 (.slice i.2.1 (1+(cat (ts.take i.1)).length) i.2.2) (1+(cat (ts.take i.1)).length) ((t::cat (ts.take i.1)).map u8)::R) (fun i=>i.1≤ts.length) (fun i=>ts.length - i.1) (0,_,1) (Nat.zero_le _) (sub_cons rfl (sub_cons rfl (sub_cons rfl (sub_cons rfl sub_nil)))) Ent.rfl ?_
 rintro ⟨i,ad2,c2⟩ hi;dsimp only at hi ⊢
 have hci:=hcl i
 by_cases hlt:i<ts.length
 ·rcases h6 with h6|⟨gl,ol,rfl⟩
  ·omega
  have hr:Rd R ⟨gl,ol+i,none⟩ (ts[i]'hlt).1:=hv.elem (by rw [List.getElem?_map,List.getElem?_eq_getElem hlt];rfl);have hti:=ht _ (List.getElem_mem hlt);have hbi:=hb _ (List.getElem_mem hlt);have hct:=cat_take hlt
  generalize ts[i]'hlt=y at *
  obtain ⟨yv,yt⟩:=y;dsimp only at hti hbi hct hr
  refine wB ?_;refine O.do (Do.append rfl rfl rfl .zero hti rfl rfl u8_one zm zo fun ad3 c3 _=>?_)
  refine wB ?_;refine Fin.round (i+1,ad3,c3) hlt zd ?_ ?_
  ·dsimp only;rw [hct,List.length_append,← Nat.add_assoc];exact sub_cons rfl (sub_cons rfl (sub_cons rfl (sub_cons rfl sub_nil)))
  ·dsimp only;rw [hct,List.length_append,← Nat.add_assoc,← List.cons_append,List.map_append];exact zE
 rw [List.take_of_length_le zo] at hci ⊢
 have htg:tagP t (ts.map (·.2))=sha (t::cat ts):=rfl;rw [htg]
 have hrb:RdB (Own tU8 1 (.slice ad2 (1+(cat ts).length) c2) (1+(cat ts).length) ((t::cat ts).map u8)::R) (.slice ad2 (1+(cat ts).length) c2) (t::cat ts):=by
  unfold RdB;rw [List.length_cons,Nat.add_comm];exact RdSl.own .zero
 refine wB ?_;refine O.call rfl rfl (sum_spec _ e _ _ hrb (by rw [List.length_cons];omega)) ?_;rintro _ _ ⟨ad4,c4,rfl,rfl⟩;refine wB ?_;exact Fin.ret (OwnB (.slice ad4 (sha (t::cat ts)).length c4) (sha (t::cat ts))::R) rfl zE ⟨ad4,c4,rfl,rfl⟩
theorem refTagged_spec (R:List Res) (e:World) (t:UInt8) (v:Value) (ts:List Txt) (hv:RdSl R 1 v ts.length (ts.map (·.1))) (ht:Txts R ts) (hb:∀ a∈ts,a.2.length≤1000000) (hl:ts.length≤10000) :
 Ct Tryz.prog 70 #[u8 t,v] e R (fun v' L'=>∃ ad c,v'=.slice ad (tagP t (ts.map (·.2))).length c∧L'=OwnB (.slice ad (tagP t (ts.map (·.2))).length c) (tagP t (ts.map (·.2)))::R):=by
 refine Ct.of_sep (hv.shape zo) ?_;rintro ⟨⟨ad,cap,rfl,h3,h4,h5,h6⟩,_⟩;simp only [maxLen] at h4
 have hcl:∀ i,(cat (ts.take i)).length≤10000000000:=fun i=>by
  have h1:=cat_len (l:=ts.take i) (m:=1000000) (fun a ha=>hb a (List.mem_of_mem_take ha));rw [List.length_take] at h1
  have h2:1000000*min i ts.length≤1000000*10000:=Nat.mul_le_mul_left _ zo
  omega
 refine Ct.enter (args:=[_,_]) Tryz.func70 rfl Tryz.ntmps70 Tryz.results70 rfl ?_
 (repeat (refine wA ?_;intros))
 refine W.ent1 (Ent.trans (own_in (n:=1) (k:=1) (cap:=1) zo zl (by simp)) Ent.rfl) ?_;refine W.loop (ι:=Nat × Option Addr × Nat) (fun i=>[(6,.int .i64 (i.1:Int)),(1,.slice ad ts.length cap),(5,.slice i.2.1 (1+(cat (ts.take i.1)).length) i.2.2)])
  (fun i=>Own tU8 1 (.slice i.2.1 (1+(cat (ts.take i.1)).length) i.2.2) (1+(cat (ts.take i.1)).length) ((t::cat (ts.take i.1)).map u8)::R) (fun i=>i.1≤ts.length) (fun i=>ts.length - i.1) (0,_,1) (Nat.zero_le _) (sub_cons rfl (sub_cons rfl (sub_cons rfl sub_nil))) Ent.rfl ?_
 rintro ⟨i,ad2,c2⟩ hi;dsimp only at hi ⊢
 have hci:=hcl i
 by_cases hlt:i<ts.length
 ·rcases h6 with h6|⟨gl,ol,rfl⟩
  ·omega
  have hr:Rd R ⟨gl,ol+i,none⟩ (ts[i]'hlt).1:=hv.elem (by rw [List.getElem?_map,List.getElem?_eq_getElem hlt];rfl);have hti:=ht _ (List.getElem_mem hlt);have hbi:=hb _ (List.getElem_mem hlt);have hct:=cat_take hlt
  generalize ts[i]'hlt=y at *
  obtain ⟨yv,yt⟩:=y;dsimp only at hti hbi hct hr
  refine wB ?_;refine O.do (Do.append rfl rfl rfl .zero hti rfl rfl u8_one zm zo fun ad3 c3 _=>?_)
  refine wB ?_;refine Fin.round (i+1,ad3,c3) hlt zd ?_ ?_
  ·dsimp only;rw [hct,List.length_append,← Nat.add_assoc];exact sub_cons rfl (sub_cons rfl (sub_cons rfl sub_nil))
  ·dsimp only;rw [hct,List.length_append,← Nat.add_assoc,← List.cons_append,List.map_append];exact zE
 rw [List.take_of_length_le zo] at hci ⊢
 have htg:tagP t (ts.map (·.2))=sha (t::cat ts):=rfl;rw [htg]
 have hrb:RdB (Own tU8 1 (.slice ad2 (1+(cat ts).length) c2) (1+(cat ts).length) ((t::cat ts).map u8)::R) (.slice ad2 (1+(cat ts).length) c2) (t::cat ts):=by
  unfold RdB;rw [List.length_cons,Nat.add_comm];exact RdSl.own .zero
 refine wB ?_;refine O.call rfl rfl (sum2_spec _ e _ _ hrb (by rw [List.length_cons];omega)) ?_;rintro _ _ ⟨ad4,c4,rfl,rfl⟩;refine wB ?_;exact Fin.ret (OwnB (.slice ad4 (sha (t::cat ts)).length c4) (sha (t::cat ts))::R) rfl zE ⟨ad4,c4,rfl,rfl⟩
theorem leaf_spec (R:List Res) (e:World) (v:Value) (b:List UInt8) (hv:RdB R v b) (hb:b.length≤1000000) :
 Ct Tryz.prog 101 #[v] e R (fun v' L'=>∃ ad c,v'=.slice ad (leafP b).length c∧L'=OwnB (.slice ad (leafP b).length c) (leafP b)::R):=by
 refine Ct.of_sep (RdB.one hv) fun ho=>?_
 refine Ct.enter (args:=[_]) Tryz.func101 rfl Tryz.ntmps101 Tryz.results101 rfl ?_
 (repeat' first|(apply O.buildSlice;exact rfl;exact rfl;exact rfl;exact .one (cells_one ho) rfl .nil;exact rfl;exact rfl;intro _)|refine Za ?_|refine Zb ?_|apply Zc|apply Zd|apply Ze|apply Zf)
 refine O.call rfl rfl (tagged_spec _ e 0 _ [(v,b)] (RdSl.blk .zero rfl zl) (fun a ha=>by rw [List.mem_singleton.1 ha];exact hv.tail) (fun a ha=>by rw [List.mem_singleton.1 ha];exact hb) (by simp)) ?_;rintro _ _ ⟨ad,c,rfl,rfl⟩;refine wB ?_;exact Fin.ret (OwnB (.slice ad (leafP b).length c) (leafP b)::R) rfl zE ⟨ad,c,rfl,rfl⟩
theorem node_spec (R:List Res) (e:World) (v u:Value) (b c:List UInt8) (hv:RdB R v b) (hu:RdB R u c) (hb:b.length≤1000000) (hc:c.length≤1000000) :
 Ct Tryz.prog 156 #[v,u] e R (fun v' L'=>∃ ad k,v'=.slice ad (nodeP b c).length k∧L'=OwnB (.slice ad (nodeP b c).length k) (nodeP b c)::R):=by
 refine Ct.of_sep (RdB.one hv) fun ho=>?_
 refine Ct.of_sep (RdB.one hu) fun ho2=>?_
 refine Ct.enter (args:=[_,_]) Tryz.func156 rfl Tryz.ntmps156 Tryz.results156 rfl ?_
 (repeat' first|(apply O.buildSlice;exact rfl;exact rfl;exact rfl;exact .one (cells_one ho) rfl (.one (cells_one ho2) rfl .nil);exact rfl;exact rfl;intro _)|refine Za ?_|refine Zb ?_|apply Zc|apply Zd|apply Ze|apply Zf)
 refine O.call rfl rfl (tagged_spec _ e 1 _ [(v,b),(u,c)] (RdSl.blk .zero rfl zl) (fun a ha=>?_) (fun a ha=>?_) (by simp)) ?_
 ·rcases List.mem_cons.1 ha with rfl|ha
  ·exact hv.tail
  ·rw [List.mem_singleton.1 ha];exact hu.tail
 ·rcases List.mem_cons.1 ha with rfl|ha
  ·exact hb
  ·rw [List.mem_singleton.1 ha];exact hc
 rintro _ _ ⟨ad,k,rfl,rfl⟩;refine wB ?_;exact Fin.ret (OwnB (.slice ad (nodeP b c).length k) (nodeP b c)::R) rfl zE ⟨ad,k,rfl,rfl⟩
end Go.Proofs
namespace Go.Proofs
attribute [local irreducible] Bs.Val Bs.Do Bs.O Bs.W Bs.Fin Bs.A Bs.Ct Bs.RdSl Bs.Rd Bs.Sat Bs.Blk Bs.Ob Bs.Own Bs.View Bs.Ent Bs.Ex Bs.All Bs.Pu Bs.Base Bs.sepL Bs.RdA
open Go.Bs
open Tryz
theorem take_mapT {L:List Res} {ad:Option Addr} {c k:Nat} {ts:List Txt} (h:RdSl L 1 (.slice ad ts.length c) ts.length (ts.map (·.1))) (hk:k≤ts.length):RdSl L 1 (.slice ad k c) (ts.take k).length ((ts.take k).map (·.1)):=by
 have:=RdSl.cutHi h hk;rw [Nat.mul_one,← List.map_take] at this
 rw [List.length_take,Nat.min_eq_left hk];exact this
theorem drop_mapT {L:List Res} {ad:Option Addr} {c k:Nat} {ts:List Txt} (h:RdSl L 1 (.slice ad ts.length c) ts.length (ts.map (·.1))) (hk:k≤ts.length):RdSl L 1 (.slice (cutAt ad c k 1) (ts.length - k) (c - k)) (ts.drop k).length ((ts.drop k).map (·.1)):=by
 have:=RdSl.cutLo h hk;rw [Nat.mul_one,← List.map_drop] at this
 rw [List.length_drop];exact this
theorem txts_sub {L:List Res} {a b:List Txt} (h:Txts L a) (hs:∀ x∈b,x∈a):Txts L b:=fun x hx=>h x (hs x hx)
theorem root_spec:∀ (n:Nat) (R:List Res) (e:World) (v:Value) (ts:List Txt),ts.length=n→RdSl R 1 v ts.length (ts.map (·.1))→Txts R ts→(∀ a∈ts,a.2.length≤1000000)→ts.length≤1000000 →
 Ct prog 78 #[v] e R (fun v' L'=>∃ ad c,v'=.slice ad (rootP (ts.map (·.2))).length c∧L'=OwnB (.slice ad (rootP (ts.map (·.2))).length c) (rootP (ts.map (·.2)))::R):=by
 intro n
 induction n using Nat.strongRecOn with
 | _ n ih =>
 intro R e v ts hn hv ht hb hl;refine Ct.of_sep (hv.shape zo) ?_;rintro ⟨⟨ad,cap,rfl,h3,h4,h5,h6⟩,_⟩;simp only [maxLen] at h4
 refine Ct.enter (args:=[_]) func78 rfl ntmps78 results78 rfl ?_
 by_cases h0:ts.length=0
 ·obtain rfl:ts=[]:=List.eq_nil_of_length_eq_zero h0;refine wB ?_;refine O.call rfl rfl (sum_spec _ e _ [] (RdB.nil _) (by simp)) ?_;rintro _ _ ⟨ad2,c2,rfl,rfl⟩;refine wB ?_;exact Fin.ret (OwnB (.slice ad2 (sha []).length c2) (sha [])::R) rfl zE ⟨ad2,c2,by rw [List.map_nil,rootP_nil];rfl,by rw [List.map_nil,rootP_nil]⟩
 by_cases h1:ts.length=1
 ·obtain ⟨a,rfl⟩:=List.length_eq_one_iff.1 h1;rcases h6 with h6|⟨gl,ol,rfl⟩
  ·omega
  have hr:Rd R ⟨gl,ol+0,none⟩ a.1:=hv.elem rfl;have hta:=ht a (List.mem_singleton.2 rfl);have hba:=hb a (List.mem_singleton.2 rfl);refine wB ?_;refine O.do <| Do.ent1 (own_nil tU8 1) (Do.append (v:=nY) (k:=0) rfl rfl rfl .zero hta rfl rfl u8_one zm zo fun ad3 c3 _=>?_)
  simp only [Nat.zero_add,List.nil_append];have hra:rootP ([a].map (·.2))=a.2:=rootP_one _;rw [hra];refine wB ?_;exact Fin.ret (OwnB (.slice ad3 a.2.length c3) a.2::R) rfl zE ⟨ad3,c3,rfl,rfl⟩
 have hs:=splitP_spec (n:=ts.length) zo;refine wB ?_;refine O.call rfl rfl (split_spec R e ts.length zo) ?_;rintro _ _ ⟨rfl,rfl⟩;rw [splitI_nat];have hrt:=rootP_more (l:=ts.map (·.2)) (by rw [List.length_map];omega);rw [List.length_map,← List.map_take,← List.map_drop] at hrt
 have hl1:=rootP_length (l:=(ts.take (splitP ts.length)).map (·.2)) (m:=1000000) zo (fun a ha=>by obtain ⟨x,hx,rfl⟩:=List.mem_map.1 ha;exact hb x (List.mem_of_mem_take hx));have hl2:=rootP_length (l:=(ts.drop (splitP ts.length)).map (·.2)) (m:=1000000) zo (fun a ha=>by obtain ⟨x,hx,rfl⟩:=List.mem_map.1 ha;exact hb x (List.mem_of_mem_drop hx));have hq1:=take_mapT hv (k:=splitP ts.length) zo;have hq2:=drop_mapT hv (k:=splitP ts.length) zo
 generalize splitP ts.length=k at *
 have hlk:(ts.take k).length=k:=by rw [List.length_take];omega
 have hlk2:(ts.drop k).length=ts.length - k:=List.length_drop;refine wB ?_;refine A.start (id:=7) [9] mixed ?_
 (refine tM 0 ?_;refine tM 1 ?_;refine tk 2 _ rfl (Val.sliceHi rfl rfl zo zo) ?_;refine tM 4 ?_;refine tM 5 ?_;refine tk 6 _ rfl (Val.sliceLo rfl rfl zo zo) ?_)
 refine tO 3 ?_;refine Do.call rfl rfl (ih k zo R e _ (ts.take k) hlk hq1 (txts_sub ht fun x hx=>List.mem_of_mem_take hx) (fun a ha=>hb a (List.mem_of_mem_take ha)) zo) ?_;rintro _ _ ⟨ad1,c1,rfl,rfl⟩;refine ⟨fun _=>zE,?_⟩;refine tO 7 ?_;refine Do.call rfl rfl (ih (ts.length - k) zo _ e _ (ts.drop k) hlk2 hq2.tail (Txts.tail (txts_sub ht fun x hx=>List.mem_of_mem_drop hx)) (fun a ha=>hb a (List.mem_of_mem_drop ha)) zo) ?_;rintro _ _ ⟨ad2,c2,rfl,rfl⟩;refine ⟨fun _=>zE,?_⟩;refine tO 8 ?_;refine Do.call rfl rfl (node_spec _ e _ _ _ _ (RdSl.own (.succ .zero)) (RdSl.own .zero) hl1 hl2) ?_;rintro _ _ ⟨ad3,c3,rfl,rfl⟩;refine ⟨fun _=>zE,?_⟩;rw [← hrt]
 ((refine tO 9 ?_;refine dV (Val.assign rfl) ?_))
 refine A.done zK ?_;refine wB ?_;exact Fin.ret (OwnB (.slice ad3 (rootP (ts.map (·.2))).length c3) (rootP (ts.map (·.2)))::R) rfl zE ⟨ad3,c3,rfl,rfl⟩
theorem Txts.pull {L R:List Res} {l:List Txt} (p:Pull L (Items l) R):Txts L l:=fun a ha=>(items_rd (R:=R) a ha).ent p.out
theorem txt_ones {L:List Res} {l:List Txt} (h:Txts L l):∀ x,sepL L x→∀ c∈l.map (·.1),c.oneCell'=true:=fun x hx c hc=>by
 obtain ⟨a,ha,rfl⟩:=List.mem_map.1 hc;exact RdB.one (h a ha) x hx
theorem lists_spec (R:List Res) (e:World) (va vb:Value) (a b:List Txt) (ha:RdSl R 1 va a.length (a.map (·.1))) (hb:RdSl R 1 vb b.length (b.map (·.1))) (hta:Txts R a) (htb:Txts R b) (h:a.map (·.2)=b.map (·.2)) (hl:a.length≤1000000) :
 Ct prog 20 #[va,vb] e R (fun v' L'=>v'=.bool true∧R=L'):=by
 have hlen:a.length=b.length:=by simpa using congrArg List.length h
 refine Ct.of_sep (ha.shape zo) ?_;rintro ⟨⟨ad1,cap1,rfl,a3,a4,a5,a6⟩,_⟩;refine Ct.of_sep (hb.shape zo) ?_;rintro ⟨⟨ad2,cap2,rfl,b3,b4,b5,b6⟩,_⟩;refine Ct.enter (args:=[_,_]) func20 rfl ntmps20 results20 rfl ?_;refine wB ?_;refine W.loop (ι:=Nat) (fun i=>[(0,.slice ad1 a.length cap1),(1,.slice ad2 b.length cap2),(5,.int .i64 (i:Int))]) (fun _=>R) (fun i=>i≤a.length) (fun i=>a.length - i) 0 (Nat.zero_le _) (sub_cons rfl (sub_cons rfl (sub_cons rfl sub_nil))) Ent.rfl ?_;intro i hi
 by_cases hlt:i<a.length
 ·rcases a6 with a6|⟨gl,ol,rfl⟩
  ·omega
  rcases b6 with b6|⟨gm,om,rfl⟩
  ·omega
  have hlt2:i<b.length:=by omega
  have hta:=hta _ (List.getElem_mem hlt);have htb:=htb _ (List.getElem_mem hlt2)
  have hxy:(a[i]'hlt).2=(b[i]'hlt2).2:=by
   have h1:=congrArg (fun z=>z[i]?) h
   simpa [List.getElem?_eq_getElem hlt,List.getElem?_eq_getElem hlt2] using h1
  have hra:Rd R ⟨gl,ol+i,none⟩ (a[i]'hlt).1:=ha.elem (by rw [List.getElem?_map,List.getElem?_eq_getElem hlt];rfl);have hrb:Rd R ⟨gm,om+i,none⟩ (b[i]'hlt2).1:=hb.elem (by rw [List.getElem?_map,List.getElem?_eq_getElem hlt2];rfl)
  generalize a[i]'hlt=x at *
  generalize b[i]'hlt2=y at *
  obtain ⟨xv,xt⟩:=x;obtain ⟨yv,yt⟩:=y;dsimp only at hta htb hxy hra hrb
  subst hxy
  (repeat' first|refine Za ?_|refine Zb ?_|apply Zc|apply Zd|apply Ze|apply Zf|refine Zk ?_|refine ZA ?_|refine ZS ?_|refine Yz ?_|refine YA ?_|apply YB|apply YC|apply YH|(refine A.start (id:=6) [] mixed ?_;all_goals (refine tM 0 ?_);all_goals (refine tM 1 ?_);all_goals (refine tk 2 _ rfl (Val.indexAddr1 rfl rfl zo) ?_);all_goals (refine tL 3 ?_);all_goals (refine tk 4 _ rfl (Val.bytes rfl zB) ?_);all_goals (refine tM 5 ?_);all_goals (refine tM 6 ?_);all_goals (refine tk 7 _ rfl (Val.indexAddr1 rfl rfl zo) ?_);all_goals (refine tL 8 ?_);all_goals (refine tk 9 _ rfl (Val.bytes rfl zB) ?_);all_goals (refine tk 10 (.bool false) rfl (Val.no (Val.neqStr rfl rfl) zn) ?_);all_goals (refine A.done zK ?_)))
  exact Fin.round (i+1) hlt zo (sub_cons rfl (sub_cons rfl (sub_cons rfl sub_nil))) zE
 ·refine wB ?_;exact Fin.ret R rfl Ent.rfl ⟨rfl,rfl⟩
end Go.Proofs
namespace Go.Bs
end Go.Bs
namespace Go.Proofs
open Go.Bs
attribute [local irreducible] Bs.Val Bs.Do Bs.O Bs.W Bs.Fin Bs.A Bs.Ct Bs.RdSl Bs.Rd Bs.Sat Bs.Blk Bs.Ob Bs.Own Bs.View Bs.Ent Bs.Ex Bs.All Bs.Pu Bs.Base Bs.sepL Bs.RdA
theorem grow_txts {ad:Option Addr} {c:Nat} {out:List Txt} {v:Value} {b:List UInt8} {R:List Res} :
 Ent (Own tTxts 1 (.slice ad (out.length+1) c) (out.length+1) (out.map (·.1)++[v])::OwnB v b::Items out::R) (OwnT (.slice ad (out++[(v,b)]).length c) (out++[(v,b)])::Items (out++[(v,b)])::R):=by
 unfold OwnT;rw [List.length_append,List.length_singleton,List.map_append];refine Ent.cons (Ent.trans (items_own (a:=(v,b))) (Ent.trans (Ent.pull (.succ .zero) Ent.rfl) items_append))
end Go.Proofs
namespace Go.Proofs
open Go.Bs
structure Man where
 name:List UInt8
 ver:Nat
 fw:List UInt8
 notes:List UInt8
 deriving DecidableEq
def nameP (l:List UInt8):Prop:=1≤l.length∧l.length≤20∧∀ b∈l,97≤b.toNat∧b.toNat≤122
instance nameDec (l:List UInt8):Decidable (nameP l):=by unfold nameP;infer_instance
def Man.right (m:Man):Prop:=nameP m.name∧0<m.ver∧m.fw.length=32∧m.notes.length≤64
instance manDec (m:Man):Decidable m.right:=by unfold Man.right;infer_instance
abbrev manC (m:Man) (vf vn:Value):List Value:=[.string (str m.name),.int .u32 (m.ver:Int),vf,vn]
def encM (m:Man):List UInt8:=77::(enc m.name++(be m.ver 4++(m.fw++enc m.notes)))
def man0 (b:List UInt8):RSt:=⟨b,false⟩
def man1 (b:List UInt8):RSt:=(man0 b).next 1
def man2 (b:List UInt8):RSt:=(man1 b).nextB 20
def man3 (b:List UInt8):RSt:=(man2 b).next 4
def man4 (b:List UInt8):RSt:=(man3 b).next 32
def man5 (b:List UInt8):RSt:=(man4 b).nextB 64
def manOf (b:List UInt8):Man:=⟨(man1 b).bytes 20,(man2 b).num 4,(man3 b).take 32,(man4 b).bytes 64⟩
def manOk (b:List UInt8):Prop:=(man0 b).num 1=77∧((man5 b).bad=false∧(man5 b).left=[])∧(manOf b).right
instance manOkDec (b:List UInt8):Decidable (manOk b):=by unfold manOk;infer_instance
theorem encM_length {m:Man}:(encM m).length=m.name.length+m.fw.length+m.notes.length+9:=by
 unfold encM;rw [List.length_cons,List.length_append,List.length_append,List.length_append,enc_length,enc_length,be_length]
 omega
theorem num_be4 {n:Nat} {r:List UInt8} (h:n<4294967296):RSt.num ⟨be n 4++r,false⟩ 4=n∧RSt.next ⟨be n 4++r,false⟩ 4=⟨r,false⟩:=by
 have h1:=take_fits (a:=be n 4) (rest:=r);rw [be_length] at h1
 exact ⟨by rw [RSt.num];show numOf (RSt.take _ ((4:Nat):Int))=n;rw [h1.1];exact numOf_be4 n h,h1.2⟩
theorem man_enc {m:Man} (h:m.right) (hv:m.ver<4294967296):manOk (encM m)∧manOf (encM m)=m:=by
 obtain ⟨h1,h2,h3,h4⟩:=id h
 have e1:(man0 (encM m)).num 1=77∧man1 (encM m)=⟨enc m.name++(be m.ver 4++(m.fw++enc m.notes)),false⟩:=by
  unfold man1 man0 encM
  generalize enc m.name++(be m.ver 4++(m.fw++enc m.notes))=r
  have q:=take_fits (a:=[(77:UInt8)]) (rest:=r);refine ⟨?_,q.2⟩;unfold RSt.num;have q1:RSt.take ⟨77::r,false⟩ 1=[77]:=q.1;rw [q1];rfl
 have e2:=bytes_enc m.name (be m.ver 4++(m.fw++enc m.notes)) 20 (by have:=h1.2.1;omega) (by have:=h1.2.1;omega);have e3:=num_be4 (r:=m.fw++enc m.notes) hv;have e4:=take_fits (a:=m.fw) (rest:=enc m.notes);rw [h3] at e4
 have e5:=bytes_enc m.notes [] 64 zo zo;rw [List.append_nil] at e5
 have f2:man2 (encM m)=⟨be m.ver 4++(m.fw++enc m.notes),false⟩:=by unfold man2;rw [e1.2];exact e2.2
 have f3:man3 (encM m)=⟨m.fw++enc m.notes,false⟩:=by unfold man3;rw [f2];exact e3.2
 have f4:man4 (encM m)=⟨enc m.notes,false⟩:=by unfold man4;rw [f3];exact e4.2
 have f5:man5 (encM m)=⟨[],false⟩:=by unfold man5;rw [f4];exact e5.2
 have fm:manOf (encM m)=m:=by
  unfold manOf;rw [e1.2,f2,f3,f4,e2.1,e3.1,e5.1];have:=e4.1;rw [show (32:Int)=((32:Nat):Int) from rfl,this]
 exact ⟨⟨e1.1,by rw [f5];exact ⟨rfl,rfl⟩,by rw [fm];exact h⟩,fm⟩
def digestP (msg:List UInt8):UInt32:=wd (tagP 13 [msg]) 0
def toldP (d:UInt32) (bit side:Nat):Bool:=decide (IntKind.i64.wrap (Go.bits .and .u32 ((d >>> UInt32.ofNat (31 - (bit:Int)).toNat).toNat:Int) 1)=(side:Int))
def secretP (seed:List UInt8) (key bit side:Nat):List UInt8:=tagP 10 [seed,be key 4++[UInt8.ofNat bit,UInt8.ofNat side]]
def shownP (seed:List UInt8) (key bit side:Nat):List UInt8:=tagP 11 [secretP seed key bit side]
def partP (c:Nat→Nat→Bool) (seed:List UInt8) (key n:Nat):List UInt8:=if c (n / 2) (n % 2) then secretP seed key (n / 2) (n % 2) else shownP seed key (n / 2) (n % 2)
def partsP (c:Nat→Nat→Bool) (seed:List UInt8) (key:Nat):List (List UInt8):=(List.range 64).map (partP c seed key)
def oncePub (seed:List UInt8) (key:Nat):List UInt8:=tagP 12 (partsP (fun _ _=>false) seed key)
def onceSig (seed:List UInt8) (key:Nat) (msg:List UInt8):List (List UInt8):=partsP (toldP (digestP msg)) seed key
def rootPart (d:UInt32) (l:List (List UInt8)) (n:Nat):List UInt8:=if toldP d (n / 2) (n % 2) then tagP 11 [l.getD n []] else l.getD n []
def onceRoot (msg:List UInt8) (l:List (List UInt8)):List UInt8:=tagP 12 ((List.range 64).map (rootPart (digestP msg) l))
theorem partP_length (c:Nat→Nat→Bool) (seed:List UInt8) (key n:Nat):(partP c seed key n).length=32:=by
 unfold partP;split
 ·exact tagP_length _ _
 ·exact tagP_length _ _
theorem partsP_length (c:Nat→Nat→Bool) (seed:List UInt8) (key:Nat):(partsP c seed key).length=64:=by simp [partsP]
theorem partsP_sizes {c:Nat→Nat→Bool} {seed:List UInt8} {key:Nat}:∀ a∈partsP c seed key,a.length=32:=fun a ha=>by
 obtain ⟨n,_,rfl⟩:=List.mem_map.1 ha;exact partP_length _ _ _ _
theorem onceRoot_sig (seed:List UInt8) (key:Nat) (msg:List UInt8):onceRoot msg (onceSig seed key msg)=oncePub seed key:=by
 unfold onceRoot oncePub partsP
 congr 1
 apply List.map_congr_left;intro n hn;have hn:=List.mem_range.1 hn
 have hg:(onceSig seed key msg).getD n []=partP (toldP (digestP msg)) seed key n:=by
  unfold onceSig partsP;rw [List.getD_eq_getElem?_getD,List.getElem?_map,List.getElem?_range hn]
  rfl
 have hR:partP (fun _ _=>false) seed key n=shownP seed key (n / 2) (n % 2):=if_neg Bool.false_ne_true;rw [hR];unfold rootPart;rw [hg]
 cases hc:toldP (digestP msg) (n / 2) (n % 2) with
 | true =>
  have hP:partP (toldP (digestP msg)) seed key n=secretP seed key (n / 2) (n % 2):=by unfold partP;rw [hc];exact if_pos rfl
  rw [hP,if_pos rfl,shownP]
 | false =>
  have hP:partP (toldP (digestP msg)) seed key n=shownP seed key (n / 2) (n % 2):=by unfold partP;rw [hc];exact if_neg (by decide)
  rw [hP,if_neg (by decide)]
def aboveP:List (List UInt8)→List (List UInt8)
 | a::b::r=>tagP 14 [a,b]::aboveP r
 | _=>[]
def keysL (seed:List UInt8):List (List UInt8):=(List.range 16).map (oncePub seed)
def lev (l:List (List UInt8)):Nat→List (List UInt8)
 | 0=>l
 | n+1=>aboveP (lev l n)
def pubP (seed:List UInt8):List UInt8:=(lev (keysL seed) 4).getD 0 []
def wayP (l:List (List UInt8)) (i:Nat):List (List UInt8):=(List.range 4).map fun h=>(lev l h).getD ((i / 2 ^ h) ^^^ 1) []
structure Sig where
 idx:Nat
 parts:List (List UInt8)
 path:List (List UInt8)
 deriving DecidableEq
def signP (seed:List UInt8) (i:Nat) (msg:List UInt8):Sig:=⟨i,onceSig seed i msg,wayP (keysL seed) i⟩
def Sig.right (s:Sig):Prop:=s.idx<16∧s.parts.length=64∧(∀ a∈s.parts,a.length=32)∧s.path.length=4∧∀ a∈s.path,a.length=32
instance (s:Sig):Decidable s.right:=by unfold Sig.right;infer_instance
def climb:Nat→List UInt8→List (List UInt8)→List UInt8
 | _,t,[]=>t
 | i,t,o::r=>climb (i / 2) (if i % 2=0 then tagP 14 [t,o] else tagP 14 [o,t]) r
def verP (pub msg:List UInt8) (s:Sig):Prop:=s.right∧climb s.idx (onceRoot msg s.parts) s.path=pub
instance (pub msg:List UInt8) (s:Sig):Decidable (verP pub msg s):=by unfold verP;infer_instance
theorem aboveP_length:∀ l:List (List UInt8),(aboveP l).length=l.length / 2
 | []=>by simp [aboveP]
 | [_]=>by simp [aboveP]
 | _::_::r=>by simp only [aboveP,List.length_cons,aboveP_length r];omega
theorem aboveP_get:∀ (l:List (List UInt8)) (i:Nat),2*i+1<l.length→(aboveP l).getD i []=tagP 14 [l.getD (2*i) [],l.getD (2*i+1) []]
 | [],i,h=>by simp at h
 | [_],i,h=>by simp at h
 | a::b::r,0,_=>rfl
 | a::b::r,i+1,h=>by
  have:=aboveP_get r i (by simp only [List.length_cons] at h;omega)
  show (aboveP r).getD i []=_
  rw [this]
  rfl
theorem aboveP_sizes:∀ l:List (List UInt8),∀ a∈aboveP l,a.length=32
 | [],a,h=>by cases h
 | [_],a,h=>by cases h
 | x::y::r,a,h=>by
  rcases List.mem_cons.1 h with rfl|h
  ·exact tagP_length _ _
  ·exact aboveP_sizes r a h
theorem lev_length {l:List (List UInt8)} (hl:l.length=16):∀ n,n≤4→(lev l n).length=2 ^ (4 - n):=by
 intro n hn
 match n,hn with
 | 0,_=>exact hl
 | 1,_=>simp [lev,aboveP_length,hl]
 | 2,_=>simp [lev,aboveP_length,hl]
 | 3,_=>simp [lev,aboveP_length,hl]
 | 4,_=>simp [lev,aboveP_length,hl]
theorem keysL_length (seed:List UInt8):(keysL seed).length=16:=by simp [keysL]
theorem keysL_sizes {seed:List UInt8}:∀ a∈keysL seed,a.length=32:=fun a ha=>by
 obtain ⟨n,_,rfl⟩:=List.mem_map.1 ha;exact tagP_length _ _
theorem lev_sizes {l:List (List UInt8)} (h:∀ a∈l,a.length=32):∀ n,∀ a∈lev l n,a.length=32
 | 0=>h
 | n+1=>aboveP_sizes _
theorem getD_size {l:List (List UInt8)} {i:Nat} (h:∀ a∈l,a.length=32) (hi:i<l.length):(l.getD i []).length=32:=by
 rw [List.getD_eq_getElem?_getD,List.getElem?_eq_getElem hi];exact h _ (List.getElem_mem hi)
theorem pubP_length (seed:List UInt8):(pubP seed).length=32:=getD_size (lev_sizes keysL_sizes 4) (by rw [lev_length (keysL_length seed) 4 zo];decide)
theorem xor1:∀ {n:Nat},n<16→n ^^^ 1=if n % 2=0 then n+1 else n - 1:=by decide
theorem climb_step {l:List (List UInt8)} {i:Nat} (hi:i<l.length) (h16:i<16) (he:l.length % 2=0):(if i % 2=0 then tagP 14 [l.getD i [],l.getD (i ^^^ 1) []] else tagP 14 [l.getD (i ^^^ 1) [],l.getD i []])=(aboveP l).getD (i / 2) []:=by
 rw [aboveP_get l (i / 2) zo,xor1 h16]
 split
 ·rename_i h;rw [show 2*(i / 2)=i by omega]
 ·rename_i h;rw [show 2*(i / 2)+1=i by omega,show 2*(i / 2)=i - 1 by omega]
theorem climb_way (seed:List UInt8) {i:Nat} (hi:i<16):climb i ((keysL seed).getD i []) (wayP (keysL seed) i)=pubP seed:=by
 have hl:=lev_length (keysL_length seed);have s0:=climb_step (l:=lev (keysL seed) 0) (i:=i) (by rw [hl 0 zo];simpa using hi) zo (by rw [hl 0 zo]);have s1:=climb_step (l:=lev (keysL seed) 1) (i:=i / 2) (by rw [hl 1 zo];simp;omega) zo (by rw [hl 1 zo]);have s2:=climb_step (l:=lev (keysL seed) 2) (i:=i / 2 / 2) (by rw [hl 2 zo];simp;omega) zo (by rw [hl 2 zo]);have s3:=climb_step (l:=lev (keysL seed) 3) (i:=i / 2 / 2 / 2) (by rw [hl 3 zo];simp;omega) zo (by rw [hl 3 zo])
 show climb i ((lev (keysL seed) 0).getD i []) [(lev (keysL seed) 0).getD ((i / 2 ^ 0) ^^^ 1) [],(lev (keysL seed) 1).getD ((i / 2 ^ 1) ^^^ 1) [],(lev (keysL seed) 2).getD ((i / 2 ^ 2) ^^^ 1) [],(lev (keysL seed) 3).getD ((i / 2 ^ 3) ^^^ 1) []]=_
 rw [show i / 2 ^ 0=i by simp,show i / 2 ^ 1=i / 2 by simp,show i / 2 ^ 2=i / 2 / 2 by rw [Nat.div_div_eq_div_mul],show i / 2 ^ 3=i / 2 / 2 / 2 by rw [Nat.div_div_eq_div_mul,Nat.div_div_eq_div_mul]];simp only [climb];rw [s0]
 show (if i / 2 / 2 / 2 % 2=0 then tagP 14 [if i / 2 / 2 % 2=0 then tagP 14 [if i / 2 % 2=0 then tagP 14 [(lev (keysL seed) 1).getD (i / 2) [],_] else tagP 14 [_,(lev (keysL seed) 1).getD (i / 2) []],_] else tagP 14 [_,if i / 2 % 2=0 then tagP 14 [(lev (keysL seed) 1).getD (i / 2) [],_] else tagP 14 [_,(lev (keysL seed) 1).getD (i / 2) []]],_] else tagP 14 [_,if i / 2 / 2 % 2=0 then tagP 14 [if i / 2 % 2=0 then tagP 14 [(lev (keysL seed) 1).getD (i / 2) [],_] else tagP 14 [_,(lev (keysL seed) 1).getD (i / 2) []],_] else tagP 14 [_,if i / 2 % 2=0 then tagP 14 [(lev (keysL seed) 1).getD (i / 2) [],_] else tagP 14 [_,(lev (keysL seed) 1).getD (i / 2) []]]])=_
 rw [s1]
 show (if i / 2 / 2 / 2 % 2=0 then tagP 14 [if i / 2 / 2 % 2=0 then tagP 14 [(lev (keysL seed) 2).getD (i / 2 / 2) [],_] else tagP 14 [_,(lev (keysL seed) 2).getD (i / 2 / 2) []],_] else tagP 14 [_,if i / 2 / 2 % 2=0 then tagP 14 [(lev (keysL seed) 2).getD (i / 2 / 2) [],_] else tagP 14 [_,(lev (keysL seed) 2).getD (i / 2 / 2) []]])=_
 rw [s2]
 show (if i / 2 / 2 / 2 % 2=0 then tagP 14 [(lev (keysL seed) 3).getD (i / 2 / 2 / 2) [],_] else tagP 14 [_,(lev (keysL seed) 3).getD (i / 2 / 2 / 2) []])=_
 rw [s3];rw [show i / 2 / 2 / 2 / 2=0 by omega]
 rfl
theorem wayP_length (l:List (List UInt8)) (i:Nat):(wayP l i).length=4:=by simp [wayP]
theorem wayP_sizes {seed:List UInt8} {i:Nat} (hi:i<16):∀ a∈wayP (keysL seed) i,a.length=32:=fun a ha=>by
 obtain ⟨h,hh,rfl⟩:=List.mem_map.1 ha;have hh:=List.mem_range.1 hh;refine getD_size (lev_sizes keysL_sizes h) ?_;rw [lev_length (keysL_length seed) h zo,xor1 (Nat.lt_of_le_of_lt (Nat.div_le_self _ _) hi)]
 match h,hh with
 | 0,_=>simp;split<;>omega
 | 1,_=>simp;split<;>omega
 | 2,_=>simp;split<;>omega
 | 3,_=>simp;split<;>omega
theorem signP_right {seed msg:List UInt8} {i:Nat} (hi:i<16):(signP seed i msg).right:=⟨hi,partsP_length _ _ _,partsP_sizes,wayP_length _ _,wayP_sizes hi⟩
theorem ver_sign {seed msg:List UInt8} {i:Nat} (hi:i<16):verP (pubP seed) msg (signP seed i msg):=by
 refine ⟨signP_right hi,?_⟩
 show climb i (onceRoot msg (onceSig seed i msg)) (wayP (keysL seed) i)=_
 rw [onceRoot_sig,← climb_way seed hi]
 congr 1
 unfold keysL;rw [List.getD_eq_getElem?_getD,List.getElem?_map,List.getElem?_range hi]
 rfl
end Go.Proofs
namespace Go.Proofs
attribute [local irreducible] Bs.Val Bs.Do Bs.O Bs.W Bs.Fin Bs.A Bs.Ct Bs.RdSl Bs.Rd Bs.Sat Bs.Blk Bs.Ob Bs.Own Bs.View Bs.Ent Bs.Ex Bs.All Bs.Pu Bs.Base Bs.sepL Bs.RdA
open Go.Bs
open Tryz
variable (R:List Res) (e:World)
theorem shr_byte (n j b:Nat) (hj:j≤b):IntKind.u8.wrap ((n:Int).fdiv (2 ^ (min j b)))=((UInt8.ofNat (n / 2 ^ j)).toNat:Int):=by
 rw [Nat.min_eq_left hj,Int.fdiv_eq_ediv_of_nonneg _ (by exact Int.le_of_lt (Int.pow_pos zo))];have h2:(2:Int) ^ j=((2 ^ j:Nat):Int):=by simp
 rw [h2,← Int.natCast_ediv];unfold IntKind.wrap
 simp [IntKind.bits,IntKind.signed]
theorem low_byte (n:Nat):IntKind.u8.wrap (n:Int)=((UInt8.ofNat n).toNat:Int):=by
 unfold IntKind.wrap
 simp [IntKind.bits,IntKind.signed]
theorem refNum_spec (ad:Option Addr) (c:Nat) (b:List UInt8) (n:Nat) (hn:n<4294967296) (hl:b.length+4≤140737488355328) :
 Ct prog 146 #[.slice ad b.length c,.int .u32 n] e (OwnB (.slice ad b.length c) b::R) (fun v' L'=>∃ ad c,v'=.slice ad (b++be n 4).length c∧L'=OwnB (.slice ad (b++be n 4).length c) (b++be n 4)::R):=by
 refine Ct.enter (args:=[_,_]) func146 rfl ntmps146 results146 rfl ?_
 (repeat (refine wA ?_;intros))
 have e1:[Value.int .u8 (IntKind.u8.wrap ((n:Int).fdiv (2 ^ min (24:Int).toNat IntKind.u32.bits))),.int .u8 (IntKind.u8.wrap ((n:Int).fdiv (2 ^ min (16:Int).toNat IntKind.u32.bits))),.int .u8 (IntKind.u8.wrap ((n:Int).fdiv (2 ^ min (8:Int).toNat IntKind.u32.bits))),.int .u8 (IntKind.u8.wrap (n:Int))]=(be n 4).map u8:=by
  have a1:=shr_byte n 24 32 zo;have a2:=shr_byte n 16 32 zo;have a3:=shr_byte n 8 32 zo;have b:=low_byte n
  show [Value.int .u8 (IntKind.u8.wrap ((n:Int).fdiv (2 ^ min 24 32))),.int .u8 (IntKind.u8.wrap ((n:Int).fdiv (2 ^ min 16 32))),.int .u8 (IntKind.u8.wrap ((n:Int).fdiv (2 ^ min 8 32))),.int .u8 (IntKind.u8.wrap (n:Int))]=_
  rw [a1,a2,a3,b]
  simp [be,u8]
 rw [e1];refine O.do (Do.append rfl rfl rfl (.succ .zero) (RdSl.blk .zero (by rw [List.length_map,be_length]) zl) rfl rfl u8_one zm zo fun ad2 c2 _=>?_)
 refine wB ?_;have e2:(b++be n 4).length=b.length+4:=by rw [List.length_append,be_length]
 refine Fin.ret (OwnB (.slice ad2 (b++be n 4).length c2) (b++be n 4)::R) rfl ?_ ⟨ad2,c2,by rw [e2];rfl,rfl⟩;unfold OwnB;rw [e2,List.map_append];exact zE
def dF (l:List UInt8) (i:Nat):UInt32:=(l.take i).foldl (fun a c=>(a <<< UInt32.ofNat (Int.toNat 8)) ||| c.toUInt32) 0
theorem dF4 {h:List UInt8} (hl:4≤h.length):dF h 4=wd h 0:=by
 rcases h with _|⟨c0,_|⟨c1,_|⟨c2,_|⟨c3,r⟩⟩⟩⟩
 ·simp at hl
 ·simp at hl
 ·simp at hl
 ·simp at hl
 ·simp only [dF,List.take_succ_cons,List.take_zero,List.foldl_cons,List.foldl_nil];rw [wd_step];simp only [wd,Nat.mul_zero,Nat.zero_add,List.getD_cons_zero,List.getD_cons_succ]
theorem digest_spec (v:Value) (b:List UInt8) (hv:RdB R v b) (hb:b.length≤1000000) :
 Ct prog 293 #[v] e R (fun v' L'=>v'=u32v (digestP b)∧R=L'):=by
 refine Ct.of_sep (RdB.one hv) fun ho=>?_
 refine Ct.enter (args:=[_]) func293 rfl ntmps293 results293 rfl ?_
 (repeat' first|(apply O.buildSlice;exact rfl;exact rfl;exact rfl;exact .one (cells_one ho) rfl .nil;exact rfl;exact rfl;intro _)|refine Za ?_|refine Zb ?_|apply Zc|apply Zd|apply Ze|apply Zf)
 rename_i g;refine O.call rfl rfl (tagged_spec _ e 13 _ [(v,b)] (RdSl.blk .zero rfl zl) (fun a ha=>by rw [List.mem_singleton.1 ha];exact hv.tail) (fun a ha=>by rw [List.mem_singleton.1 ha];exact hb) (by simp)) ?_;rintro _ _ ⟨ad,c,rfl,rfl⟩;rw [show [(v,b)].map (·.2)=[b] from rfl];have hl:=tagP_length 13 [b];have hd:digestP b=wd (tagP 13 [b]) 0:=rfl
 generalize tagP 13 [b]=h at *
 refine O.of_sep (own_shape .zero) ?_;rintro ⟨⟨a,cc,hq,hc1,hc2,hqq⟩,_⟩;obtain ⟨rfl,_,rfl⟩:=Value.slice.inj hq;simp only [maxLen] at hc2
 rcases hqq with ⟨_,_,h0⟩|⟨p,rfl⟩
 ·omega
 have hf:∀ i (hi:i<h.length),dF h (i+1)=(dF h i <<< UInt32.ofNat (Int.toNat 8)) ||| (h[i]'hi).toUInt32:=fun i hi=>by
  unfold dF;rw [List.take_succ_eq_append_getElem hi,List.foldl_append]
  rfl
 have h4:dF h 4=wd h 0:=dF4 zo;refine wB ?_;refine W.loop (ι:=Nat) (fun i=>[(3,u32v (dF h i)),(9,.slice (some ⟨p,0,none⟩) 4 c),(10,.int .i64 4),(11,.int .i64 (i:Int))]) (fun _=>OwnB (.slice (some ⟨p,0,none⟩) h.length c) h::Blk g [v] 30 (0,0)::R) (fun i=>i≤4) (fun i=>4 - i) 0 zo zS Ent.rfl ?_;intro i hi
 by_cases hlt:i<4
 ·have hil:i<h.length:=by omega
  have hr:Rd (OwnB (.slice (some ⟨p,0,none⟩) h.length c) h::Blk g [v] 30 (0,0)::R) ⟨p,0+i,none⟩ (u8 (h[i]'hil)):=RdB.elem (RdSl.own .zero) (List.getElem?_eq_getElem hil);have hs:=hf i hil
  generalize h[i]'hil=b0 at *
  generalize hx1:dF h (i+1)=x1 at *
  generalize dF h i=x0 at *
  clear h4 hd hf
  (repeat' first|refine YV ?_|refine YX ?_|refine Y1 ?_|refine Za ?_|refine Zb ?_|apply Zc|apply Zd|apply Ze|apply Zf|refine Zi ?_|refine ZA ?_|refine ZS ?_|refine Yw ?_|refine Yz ?_|apply YB|apply YC|apply YH)
  rw [← hs,← hx1];exact Fin.round (i+1) hlt zo zS Ent.rfl
 ·have hie:i=4:=by omega
  subst hie;refine wB ?_;refine Fin.ret R rfl zE ⟨?_,rfl⟩;rw [hd,← h4]
  rfl
theorem told_spec (d:UInt32) (bit side:Nat) (hb:bit<32) (hs:side<2) :
 Ct prog 294 #[u32v d,.int .i64 (bit:Int),.int .i64 (side:Int)] e R (fun v' L'=>v'=.bool (toldP d bit side)∧R=L'):=by
 refine Ct.enter (args:=[_,_,_]) func294 rfl ntmps294 results294 rfl ?_;have ht:toldP d bit side=decide (IntKind.i64.wrap (Go.bits .and .u32 ((d >>> UInt32.ofNat (31 - (bit:Int)).toNat).toNat:Int) 1)=(side:Int)):=rfl;rw [ht]
 by_cases h:IntKind.i64.wrap (Go.bits .and .u32 ((d >>> UInt32.ofNat (31 - (bit:Int)).toNat).toNat:Int) 1)=(side:Int)
 ·rw [decide_eq_true h]
  (repeat' first|(apply O.shrU;exact rfl;exact rfl;omega;exact rfl)|refine Za ?_|refine Zb ?_|apply Zc|apply Zd|apply Ze|apply Zf|refine ZM ?_|refine ZU ?_|refine ZZ ?_|refine Z2 ?_|apply YE)
  exact Fin.ret R rfl Ent.rfl ⟨rfl,rfl⟩
 ·rw [decide_eq_false h]
  (repeat' first|(apply O.shrU;exact rfl;exact rfl;omega;exact rfl)|refine Za ?_|refine Zb ?_|apply Zc|apply Zd|apply Ze|apply Zf|refine ZN ?_|refine ZU ?_|refine ZZ ?_|refine Z2 ?_|apply YE)
  exact Fin.ret R rfl Ent.rfl ⟨rfl,rfl⟩
theorem secret_spec (v:Value) (seed:List UInt8) (key bit side:Nat) (hv:RdB R v seed) (hs:seed.length≤1000) (hk:key<16) (hb:bit<32) (hd:side<2) :
 Ct prog 297 #[v,.int .i64 (key:Int),.int .i64 (bit:Int),.int .i64 (side:Int)] e R (fun v' L'=>∃ ad c,v'=.slice ad (secretP seed key bit side).length c∧L'=OwnB (.slice ad (secretP seed key bit side).length c) (secretP seed key bit side)::R):=by
 refine Ct.of_sep (RdB.one hv) fun ho=>?_
 refine Ct.enter (args:=[_,_,_,_]) func297 rfl ntmps297 results297 rfl ?_
 (repeat' first|(apply O.buildSlice;exact rfl;exact rfl;exact rfl;exact .one (cells_one ho) rfl (.one rfl rfl .nil);exact rfl;exact rfl;intro _)|refine Za ?_|refine Zb ?_|apply Zc|apply Zd|apply Ze|apply Zf|refine ZY ?_|refine ZZ ?_|refine Z1 ?_|refine Yi fun _=>?_|fail)
 rename_i g g2
 have e1:[Value.int .u8 (IntKind.u8.wrap ((key:Int).fdiv (2 ^ min (24:Int).toNat IntKind.u32.bits))),.int .u8 (IntKind.u8.wrap ((key:Int).fdiv (2 ^ min (16:Int).toNat IntKind.u32.bits))),.int .u8 (IntKind.u8.wrap ((key:Int).fdiv (2 ^ min (8:Int).toNat IntKind.u32.bits))),.int .u8 (key:Int),.int .u8 (bit:Int),.int .u8 (side:Int)]=(be key 4++[UInt8.ofNat bit,UInt8.ofNat side]).map u8:=by
  have a1:=shr_byte key 24 32 zo;have a2:=shr_byte key 16 32 zo;have a3:=shr_byte key 8 32 zo
  show [Value.int .u8 (IntKind.u8.wrap ((key:Int).fdiv (2 ^ min 24 32))),.int .u8 (IntKind.u8.wrap ((key:Int).fdiv (2 ^ min 16 32))),.int .u8 (IntKind.u8.wrap ((key:Int).fdiv (2 ^ min 8 32))),.int .u8 (key:Int),.int .u8 (bit:Int),.int .u8 (side:Int)]=_
  rw [a1,a2,a3]
  simp [be,u8,UInt8.toNat_ofNat_of_lt' (show key<256 by omega),UInt8.toNat_ofNat_of_lt' (show bit<256 by omega),UInt8.toNat_ofNat_of_lt' (show side<256 by omega),Nat.mod_eq_of_lt (show key<256 by omega),Nat.mod_eq_of_lt (show bit<256 by omega),Nat.mod_eq_of_lt (show side<256 by omega)]
 rw [e1];have h6:(be key 4++[UInt8.ofNat bit,UInt8.ofNat side]).length=6:=by rw [List.length_append,be_length];rfl
 have hr:RdB (Blk g2 [v,.slice (some ⟨g,0,none⟩) 6 6] 30 (0,0)::Blk g ((be key 4++[UInt8.ofNat bit,UInt8.ofNat side]).map u8) tU8 (0,0)::R) (.slice (some ⟨g,0,none⟩) 6 6) (be key 4++[UInt8.ofNat bit,UInt8.ofNat side]):=by
  have h:=RdSl.blk (L:=Blk g2 [v,.slice (some ⟨g,0,none⟩) 6 6] 30 (0,0)::Blk g ((be key 4++[UInt8.ofNat bit,UInt8.ofNat side]).map u8) tU8 (0,0)::R) (k:=6) (.succ .zero) (by rw [List.length_map];exact h6) zl;unfold RdB;rw [h6];exact h
 refine O.call rfl rfl (tagged_spec _ e 10 _ [(v,seed),(.slice (some ⟨g,0,none⟩) 6 6,be key 4++[UInt8.ofNat bit,UInt8.ofNat side])] (RdSl.blk .zero rfl zl) (fun a ha=>by
  simp only [List.mem_cons,List.not_mem_nil,or_false] at ha
  rcases ha with rfl|rfl
  ·exact hv.tail.tail
  ·exact hr) (fun a ha=>by
  simp only [List.mem_cons,List.not_mem_nil,or_false] at ha
  rcases ha with rfl|rfl
  ·dsimp only;omega
  ·dsimp only;omega) (by simp)) ?_
 rintro _ _ ⟨ad,c,rfl,rfl⟩;refine wB ?_;exact Fin.ret (OwnB (.slice ad (secretP seed key bit side).length c) (secretP seed key bit side)::R) rfl zE ⟨ad,c,rfl,rfl⟩
theorem shown_spec (v:Value) (seed:List UInt8) (key bit side:Nat) (hv:RdB R v seed) (hs:seed.length≤1000) (hk:key<16) (hb:bit<32) (hd:side<2) :
 Ct prog 273 #[v,.int .i64 (key:Int),.int .i64 (bit:Int),.int .i64 (side:Int)] e R (fun v' L'=>∃ ad c,v'=.slice ad (shownP seed key bit side).length c∧L'=OwnB (.slice ad (shownP seed key bit side).length c) (shownP seed key bit side)::R):=by
 refine Ct.enter (args:=[_,_,_,_]) func273 rfl ntmps273 results273 rfl ?_;refine wB ?_;refine O.call rfl rfl (secret_spec _ e v seed key bit side hv hs hk hb hd) ?_;rintro _ _ ⟨ad,c,rfl,rfl⟩;have hr:∀ L,RdB (OwnB (.slice ad (secretP seed key bit side).length c) (secretP seed key bit side)::L) (.slice ad (secretP seed key bit side).length c) (secretP seed key bit side):=fun L=>RdSl.own .zero
 have hl:(secretP seed key bit side).length=32:=tagP_length _ _
 (repeat (refine wA ?_;intros))
 rename_i g;refine O.call rfl rfl (tagged_spec _ e 11 _ [(.slice ad (secretP seed key bit side).length c,secretP seed key bit side)] (RdSl.blk .zero rfl zl) (fun a ha=>by rw [List.mem_singleton.1 ha];exact (hr _).tail) (fun a ha=>by rw [List.mem_singleton.1 ha];dsimp only;omega) (by simp)) ?_;rintro _ _ ⟨ad2,c2,rfl,rfl⟩;refine wB ?_;exact Fin.ret (OwnB (.slice ad2 (shownP seed key bit side).length c2) (shownP seed key bit side)::R) rfl zE ⟨ad2,c2,rfl,rfl⟩
abbrev secretV:Value:=.func (.func 297) #[] #[]
abbrev shownV:Value:=.func (.func 273) #[] #[]
theorem part_step (c:Nat→Nat→Bool) (seed:List UInt8) (key bit side:Nat) (hs:side<2):partP c seed key (2*bit+side)=if c bit side then secretP seed key bit side else shownP seed key bit side:=by
 unfold partP;rw [show (2*bit+side) / 2=bit by omega,show (2*bit+side) % 2=side by omega]
theorem parts_spec (v:Value) (seed:List UInt8) (key:Nat) (f:FuncId) (ws:List Value) (ch:Nat→Nat→Bool) [i:CallT prog f f] (hv:RdB R v seed) (hs:seed.length≤1000) (hk:key<16)
 (hch:∀ (M:List Res) (bit side:Nat),bit<32→side<2→Ct prog f (([]:List Value)++[Value.int .i64 (bit:Int),Value.int .i64 (side:Int)]++ws).toArray e (M++R) (fun v' L'=>v'=(if ch bit side then secretV else shownV)∧M++R=L')) :
 Ct prog 271 #[v,.int .i64 (key:Int),.func (.func f) #[] ws.toArray] e R (fun v' L'=>∃ ad c ts,v'=.slice ad ts.length c∧ts.map (·.2)=partsP ch seed key∧L'=OwnT (.slice ad ts.length c) ts::Items ts::R):=by
 refine Ct.enter (args:=[_,_,_]) func271 rfl ntmps271 results271 rfl ?_;refine wB ?_;refine W.loop (ι:=Nat × List Txt × Option Addr × Nat) (fun i=>[(0,v),(1,.int .i64 (key:Int)),(2,.func (.func f) #[] ws.toArray),(7,.slice i.2.2.1 i.2.1.length i.2.2.2),(10,.int .i64 (i.1:Int))]) (fun i=>OwnT (.slice i.2.2.1 i.2.1.length i.2.2.2) i.2.1::Items i.2.1::R) (fun i=>i.1≤32∧i.2.1.map (·.2)=(List.range (2*i.1)).map (partP ch seed key)) (fun i=>32 - i.1) (0,[],none,0) ⟨by omega,rfl⟩ zS (Ent.trans items_nil (own_nil tTxts 1)) ?_;rintro ⟨bit,ts,ad,c⟩ ⟨hb,hts⟩;dsimp only at hb hts ⊢
 by_cases hlt:bit<32
 rotate_left
 ·have hbe:bit=32:=by omega
  subst hbe;refine wB ?_;exact Fin.ret _ rfl Ent.rfl ⟨ad,c,ts,rfl,hts,rfl⟩
 refine wB ?_;refine W.loop (ι:=Nat × List Txt × Option Addr × Nat) (fun i=>[(0,v),(1,.int .i64 (key:Int)),(2,.func (.func f) #[] ws.toArray),(7,.slice i.2.2.1 i.2.1.length i.2.2.2),(8,.int .i64 (bit:Int)),(10,.int .i64 (bit:Int)),(13,.int .i64 (i.1:Int))]) (fun i=>OwnT (.slice i.2.2.1 i.2.1.length i.2.2.2) i.2.1::Items i.2.1::R) (fun i=>i.1≤2∧i.2.1.map (·.2)=(List.range (2*bit+i.1)).map (partP ch seed key)) (fun i=>2 - i.1) (0,ts,ad,c) ⟨by omega,hts⟩ zS Ent.rfl ?_;clear hts;rintro ⟨side,us,ad2,c2⟩ ⟨hsd,hus⟩;dsimp only at hsd hus ⊢
 by_cases hlt2:side<2
 rotate_left
 ·have hse:side=2:=by omega
  subst hse;refine wB ?_;exact Fin.round (bit+1,us,ad2,c2) ⟨hlt,hus⟩ zd zS Ent.rfl
 have hul:us.length=2*bit+side:=by simpa using congrArg List.length hus
 have hstep:=part_step ch seed key bit side hlt2;have hpl:=partP_length ch seed key (2*bit+side)
 have hfin:∀ (w:Value) (b:List UInt8),b=partP ch seed key (2*bit+side)→(us++[(w,b)]).map (·.2)=(List.range (2*bit+(side+1))).map (partP ch seed key):=fun w b h=>by
  rw [List.map_append,hus,show 2*bit+(side+1)=(2*bit+side)+1 by omega,List.range_succ,List.map_append,h]
  rfl
 refine wB ?_;refine O.do (Do.callV (us:=[]) (ws:=ws) rfl rfl rfl (hch [OwnT (.slice ad2 us.length c2) us,Items us] bit side hlt hlt2) ?_)
 rintro _ _ ⟨rfl,rfl⟩;have hv2:RdB (OwnT (.slice ad2 us.length c2) us::Items us::R) v seed:=hv.tail.tail
 cases hc:ch bit side with
 | true =>
  rw [hc] at hstep
  (repeat (refine wA ?_;intros))
  refine O.do (Do.callV (us:=[]) (ws:=[]) rfl rfl rfl (secret_spec (OwnT (.slice ad2 us.length c2) us::Items us::R) e v seed key bit side hv2 hs hk hlt hlt2) ?_)
  rintro _ _ ⟨ad3,c3,rfl,rfl⟩;rw [show secretP seed key bit side=partP ch seed key (2*bit+side) from hstep.symm]
  generalize partP ch seed key (2*bit+side)=b at *
  (repeat (refine wA ?_;intros))
  rename_i g;refine O.do (Do.append rfl rfl rfl (.succ (.succ .zero)) (RdSl.blk .zero rfl zl) rfl rfl zO zm zo fun ad4 c4 _=>?_)
  refine wB ?_;refine Fin.round (side+1,us++[(.slice ad3 b.length c3,b)],ad4,c4) ⟨hlt2,hfin _ _ rfl⟩ zd ?_ ?_
  ·dsimp only;rw [List.length_append,List.length_singleton];exact zS
  ·exact Ent.trans (show Ent _ (Own tTxts 1 (.slice ad4 (us.length+1) c4) (us.length+1) (us.map (·.1)++[.slice ad3 b.length c3])::OwnB (.slice ad3 b.length c3) b::Items us::R) from zE) grow_txts
 | false =>
  rw [hc] at hstep
  (repeat (refine wA ?_;intros))
  refine O.do (Do.callV (us:=[]) (ws:=[]) rfl rfl rfl (shown_spec (OwnT (.slice ad2 us.length c2) us::Items us::R) e v seed key bit side hv2 hs hk hlt hlt2) ?_)
  rintro _ _ ⟨ad3,c3,rfl,rfl⟩;rw [show shownP seed key bit side=partP ch seed key (2*bit+side) from hstep.symm]
  generalize partP ch seed key (2*bit+side)=b at *
  (repeat (refine wA ?_;intros))
  rename_i g;refine O.do (Do.append rfl rfl rfl (.succ (.succ .zero)) (RdSl.blk .zero rfl zl) rfl rfl zO zm zo fun ad4 c4 _=>?_)
  refine wB ?_;refine Fin.round (side+1,us++[(.slice ad3 b.length c3,b)],ad4,c4) ⟨hlt2,hfin _ _ rfl⟩ zd ?_ ?_
  ·dsimp only;rw [List.length_append,List.length_singleton];exact zS
  ·exact Ent.trans (show Ent _ (Own tTxts 1 (.slice ad4 (us.length+1) c4) (us.length+1) (us.map (·.1)++[.slice ad3 b.length c3])::OwnB (.slice ad3 b.length c3) b::Items us::R) from zE) grow_txts
theorem txt_len {ts:List Txt} {l:List (List UInt8)} (h:ts.map (·.2)=l) {m:Nat} (hl:∀ a∈l,a.length=m):∀ a∈ts,a.2.length=m:=fun a ha=>hl _ (by rw [← h];exact List.mem_map.2 ⟨a,ha,rfl⟩)
theorem choosePub (M:List Res) (e:World) (bit side:Nat) :
 Ct prog 272 #[.int .i64 (bit:Int),.int .i64 (side:Int)] e M (fun v' L'=>v'=(if (fun _ _=>false:Nat→Nat→Bool) bit side then secretV else shownV)∧M=L'):=by
 refine Ct.enter (args:=[_,_]) func272 rfl ntmps272 results272 rfl ?_;refine wB ?_;exact Fin.ret M rfl Ent.rfl ⟨rfl,rfl⟩
theorem chooseSign (M:List Res) (R:List Res) (e:World) (g T:Nat) (d:UInt32) (bit side:Nat) (hb:bit<32) (hs:side<2) :
 Ct prog 296 #[.int .i64 (bit:Int),.int .i64 (side:Int),pt g] e (M++Blk g [u32v d] T (0,0)::R) (fun v' L'=>v'=(if toldP d bit side then secretV else shownV)∧M++Blk g [u32v d] T (0,0)::R=L'):=by
 refine Ct.enter (args:=[_,_,_]) func296 rfl ntmps296 results296 rfl ?_;have hr:Rd (M++Blk g [u32v d] T (0,0)::R) ⟨g,0,none⟩ (u32v d):=Rd.blk (pull_mid .zero) rfl;refine wB ?_;refine O.call rfl rfl (told_spec _ e d bit side hb hs) ?_;rintro _ _ ⟨rfl,rfl⟩
 cases toldP d bit side with
 | true =>
  refine wB ?_;exact Fin.ret _ rfl Ent.rfl ⟨rfl,rfl⟩
 | false =>
  refine wB ?_;exact Fin.ret _ rfl Ent.rfl ⟨rfl,rfl⟩
theorem oncePublic_spec (v:Value) (seed:List UInt8) (key:Nat) (hv:RdB R v seed) (hs:seed.length≤1000) (hk:key<16) :
 Ct prog 225 #[v,.int .i64 (key:Int)] e R (fun v' L'=>∃ ad c,v'=.slice ad (oncePub seed key).length c∧L'=OwnB (.slice ad (oncePub seed key).length c) (oncePub seed key)::R):=by
 refine Ct.enter (args:=[_,_]) func225 rfl ntmps225 results225 rfl ?_;refine wB ?_;refine O.call rfl rfl (parts_spec R e v seed key 272 [] (fun _ _=>false) hv hs hk (fun M bit side _ _=>choosePub _ e bit side)) ?_;rintro _ _ ⟨ad,c,ts,rfl,hts,rfl⟩;have h32:=txt_len hts partsP_sizes;have h64:ts.length=64:=by have:=congrArg List.length hts;rw [List.length_map,partsP_length] at this;exact this
 refine wB ?_;refine O.call rfl rfl (tagged_spec _ e 12 _ ts (RdSl.own .zero) (Txts.tail items_rd) (fun a ha=>by have:=h32 a ha;omega) zo) ?_;rintro _ _ ⟨ad2,c2,rfl,rfl⟩;rw [hts];refine wB ?_;exact Fin.ret (OwnB (.slice ad2 (oncePub seed key).length c2) (oncePub seed key)::R) rfl zE ⟨ad2,c2,rfl,rfl⟩
theorem onceSign_spec (v u:Value) (seed msg:List UInt8) (key:Nat) (hv:RdB R v seed) (hs:seed.length≤1000) (hk:key<16) (hu:RdB R u msg) (hm:msg.length≤1000000) :
 Ct prog 263 #[v,.int .i64 (key:Int),u] e R (fun v' L'=>∃ ad c ts,v'=.slice ad ts.length c∧ts.map (·.2)=onceSig seed key msg∧L'=OwnT (.slice ad ts.length c) ts::Items ts::R):=by
 refine Ct.enter (args:=[_,_,_]) func263 rfl ntmps263 results263 rfl ?_;refine wB ?_;refine O.call rfl rfl (digest_spec R e u msg hu hm) ?_;rintro _ _ ⟨rfl,rfl⟩
 (repeat (refine wA ?_;intros))
 rename_i g;refine O.call rfl rfl (parts_spec _ e v seed key 296 [pt g] (toldP (digestP msg)) hv.tail hs hk (fun M bit side hb hs=>chooseSign M R e g _ (digestP msg) bit side hb hs)) ?_;rintro _ _ ⟨ad,c,ts,rfl,hts,rfl⟩;refine wB ?_;exact Fin.ret (OwnT (.slice ad ts.length c) ts::Items ts::R) rfl zE ⟨ad,c,ts,rfl,hts,rfl⟩
theorem onceRoot_spec (u v:Value) (msg:List UInt8) (ts:List Txt) (hu:RdB R u msg) (hm:msg.length≤1000000) (hv:RdSl R 1 v ts.length (ts.map (·.1))) (ht:Txts R ts) (h64:ts.length=64) (h32:∀ a∈ts,a.2.length=32) :
 Ct prog 258 #[u,v] e R (fun v' L'=>∃ ad c,v'=.tuple #[.slice ad (onceRoot msg (ts.map (·.2))).length c,.bool true]∧L'=OwnB (.slice ad (onceRoot msg (ts.map (·.2))).length c) (onceRoot msg (ts.map (·.2)))::R):=by
 refine Ct.of_sep (hv.shape zo) ?_;rintro ⟨⟨adv,cap,rfl,h3,h4,h5,h6⟩,_⟩;simp only [maxLen] at h4
 rcases h6 with h6|⟨gl,ol,rfl⟩
 ·omega
 refine Ct.enter (args:=[_,_]) func258 rfl ntmps258 results258 rfl ?_;refine wB ?_;refine O.call rfl rfl (digest_spec R e u msg hu hm) ?_;rintro _ _ ⟨rfl,rfl⟩;refine wB ?_;refine W.loop (ι:=Nat × List Txt × List Txt × Option Addr × Nat) (fun i=>[(6,u32v (digestP msg)),(7,.slice i.2.2.2.1 i.2.1.length i.2.2.2.2),(15,.slice (some ⟨gl,ol,none⟩) ts.length cap),(16,.int .i64 (ts.length:Int)),(17,.int .i64 (i.1:Int))]) (fun i=>OwnT (.slice i.2.2.2.1 i.2.1.length i.2.2.2.2) i.2.1::Items i.2.2.1::R) (fun i=>i.1≤ts.length∧i.2.1.map (·.2)=(List.range i.1).map (rootPart (digestP msg) (ts.map (·.2)))∧∀ x∈i.2.1,x∈i.2.2.1∨RdB R x.1 x.2) (fun i=>ts.length - i.1) (0,[],[],none,0) ⟨Nat.zero_le _,rfl,fun x h=>by cases h⟩ zS (Ent.trans items_nil (own_nil tTxts 1)) ?_;rintro ⟨i,out,news,ad,c⟩ ⟨hi,hout,hrd⟩;dsimp only at hi hout hrd ⊢
 have hol:out.length=i:=by simpa using congrArg List.length hout
 by_cases hlt:i<ts.length
 rotate_left
 ·have hie:i=64:=by omega
  rw [hie] at hout
  have hsz:∀ a∈out,a.2.length≤1000000:=fun a ha=>by
   have:a.2∈(List.range 64).map (rootPart (digestP msg) (ts.map (·.2))):=by rw [← hout];exact List.mem_map.2 ⟨a,ha,rfl⟩
   obtain ⟨n,hn,h⟩:=List.mem_map.1 this;have hn:=List.mem_range.1 hn;rw [← h];unfold rootPart
   split
   ·rw [tagP_length];omega
   ·rw [getD_size (fun a ha=>by obtain ⟨x,hx,rfl⟩:=List.mem_map.1 ha;exact h32 x hx) (by rw [List.length_map];omega)];omega
  refine wB ?_
  refine O.call rfl rfl (tagged_spec _ e 12 _ out (RdSl.own .zero) (fun x hx=>by
   rcases hrd x hx with h|h
   ·exact (items_rd (l:=news) x h).tail
   ·exact h.tail.tail) hsz zo) ?_
  rintro _ _ ⟨ad2,c2,rfl,rfl⟩;rw [hout,show tagP 12 ((List.range 64).map (rootPart (digestP msg) (ts.map (·.2))))=onceRoot msg (ts.map (·.2)) from rfl];clear hsz hrd hout
  generalize onceRoot msg (ts.map (·.2))=b at *
  refine wB ?_;exact Fin.ret (OwnB (.slice ad2 b.length c2) b::R) rfl zE ⟨ad2,c2,rfl,rfl⟩
 have hr:Rd R ⟨gl,ol+i,none⟩ (ts[i]'hlt).1:=hv.elem (by rw [List.getElem?_map,List.getElem?_eq_getElem hlt];rfl);have hti:=ht _ (List.getElem_mem hlt);have hti3:=h32 _ (List.getElem_mem hlt);have hgd:(ts.map (·.2)).getD i []=(ts[i]'hlt).2:=by rw [List.getD_eq_getElem?_getD,List.getElem?_map,List.getElem?_eq_getElem hlt];rfl
 have hnext:∀ (w:Value) (b:List UInt8),b=rootPart (digestP msg) (ts.map (·.2)) i→(out++[(w,b)]).map (·.2)=(List.range (i+1)).map (rootPart (digestP msg) (ts.map (·.2))):=fun w b h=>by
  rw [List.map_append,hout,List.range_succ,List.map_append,h]
  rfl
 have hrp:rootPart (digestP msg) (ts.map (·.2)) i=if toldP (digestP msg) (i / 2) (i % 2) then tagP 11 [(ts[i]'hlt).2] else (ts[i]'hlt).2:=by unfold rootPart;rw [hgd]
 generalize ts[i]'hlt=y at *
 obtain ⟨yv,yt⟩:=y;dsimp only at hti hti3 hr hrp
 refine W.of_sep (RdSl.shape hti.tail.tail zo) ?_;rintro ⟨⟨ady,cy,rfl,_,_,_,_⟩,_⟩;have hoy:(Value.slice ady yt.length cy).oneCell'=true:=rfl;have q2:((i:Int)).tdiv 2=((i / 2:Nat):Int):=by rw [Int.tdiv_eq_ediv_of_nonneg zo];omega
 have r2:((i:Int)).tmod 2=((i % 2:Nat):Int):=by rw [Int.tmod_eq_emod_of_nonneg zo];omega
 refine wB ?_;rw [show IntKind.i64.wrap (((i:Int)).tdiv 2)=((i / 2:Nat):Int) by rw [q2];exact wrap_i64 zo zo,r2];refine O.call rfl rfl (told_spec _ e (digestP msg) (i / 2) (i % 2) zo zo) ?_;rintro _ _ ⟨rfl,rfl⟩
 cases hc:toldP (digestP msg) (i / 2) (i % 2) with
 | true =>
  rw [hc] at hrp
  (repeat (refine wA ?_;intros))
  rename_i g;refine O.call rfl rfl (tagged_spec _ e 11 _ [(.slice ady yt.length cy,yt)] (RdSl.blk .zero rfl zl) (fun a ha=>by rw [List.mem_singleton.1 ha];exact hti.tail.tail.tail) (fun a ha=>by rw [List.mem_singleton.1 ha];dsimp only;omega) (by simp)) ?_;rintro _ _ ⟨ad3,c3,rfl,rfl⟩;rw [show tagP 11 ([((.slice ady yt.length cy:Value),yt)].map (·.2))=tagP 11 [yt] from rfl,show tagP 11 [yt]=rootPart (digestP msg) (ts.map (·.2)) i from hrp.symm]
  generalize rootPart (digestP msg) (ts.map (·.2)) i=b at *
  (repeat (refine wA ?_;intros))
  rename_i g2;refine O.do (Do.append rfl rfl rfl (.succ (.succ (.succ .zero))) (RdSl.blk .zero rfl zl) rfl rfl zO zm zo fun ad4 c4 _=>?_)
  refine wB ?_;refine Fin.round (i+1,out++[(.slice ad3 b.length c3,b)],news++[(.slice ad3 b.length c3,b)],ad4,c4) ⟨hlt,hnext _ _ rfl,fun x hx=>?_⟩ zd ?_ ?_
  ·rcases List.mem_append.1 hx with h|h
   ·rcases hrd x h with h|h
    ·exact .inl (List.mem_append_left _ h)
    ·exact .inr h
   ·exact .inl (List.mem_append_right _ h)
  ·dsimp only;rw [List.length_append,List.length_singleton];exact zS
  ·refine Ent.trans (show Ent _ (OwnB (.slice ad3 b.length c3) b::Items news::Own tTxts 1 (.slice ad4 (out.length+1) c4) (out.length+1) (out.map (·.1)++[.slice ad3 b.length c3])::R) from zE) (Ent.trans (items_own (a:=(.slice ad3 b.length c3,b))) (Ent.trans (Ent.pull (.succ .zero) Ent.rfl) (Ent.trans items_append ?_)));simp only [OwnT,List.length_append,List.length_singleton,List.map_append,List.map_cons,List.map_nil];exact zE
 | false =>
  rw [hc] at hrp
  (repeat (refine wA ?_;intros))
  rename_i g2;refine O.do (Do.append rfl rfl rfl (.succ .zero) (RdSl.blk .zero rfl zl) rfl rfl zO zm zo fun ad4 c4 _=>?_)
  refine wB ?_;refine Fin.round (i+1,out++[(.slice ady yt.length cy,yt)],news,ad4,c4) ⟨hlt,hnext _ _ hrp.symm,fun x hx=>?_⟩ zd ?_ ?_
  ·rcases List.mem_append.1 hx with h|h
   ·exact hrd x h
   ·rw [List.mem_singleton.1 h];exact .inr hti
  ·dsimp only;rw [List.length_append,List.length_singleton];exact zS
  ·simp only [OwnT,List.length_append,List.length_singleton,List.map_append,List.map_cons,List.map_nil];exact zE
def RdTs (L:List Res) (v:Value) (bs:List (List UInt8)):Prop:=∃ ts:List Txt,ts.map (·.2)=bs∧RdSl L 1 v ts.length (ts.map (·.1))∧Txts L ts
theorem RdTs.ent {L L':List Res} {v:Value} {bs:List (List UInt8)} (h:RdTs L' v bs) (f:Ent L L'):RdTs L v bs:=by
 obtain ⟨ts,h1,h2,h3⟩:=h;exact ⟨ts,h1,h2.ent f,fun a ha=>(h3 a ha).ent f⟩
theorem RdTs.tail {A:Res} {L:List Res} {v:Value} {bs:List (List UInt8)} (h:RdTs L v bs):RdTs (A::L) v bs:=h.ent (Ent.drop Ent.rfl)
theorem RdTs.one {L:List Res} {v:Value} {bs:List (List UInt8)} (h:RdTs L v bs):∀ x,sepL L x→v.oneCell'=true:=fun x hx=>by
 obtain ⟨ts,_,h2,_⟩:=h;obtain ⟨⟨ad,cap,rfl,_⟩,_⟩:=h2.shape zo x hx
 rfl
theorem indexF_spec (v:Value) (ts:List Txt) (f:FuncId) (us ws:List Value) (p:Nat→Bool) [i:CallT prog f f] (hv:RdSl R 1 v ts.length (ts.map (·.1))) (hl:ts.length≤1000000)
 (hf:∀ (i:Nat) (h:i<ts.length),Ct prog f (us++[(ts[i]).1]++ws).toArray e R (fun v' L'=>v'=.bool (p i)∧R=L')) :
 Ct prog 264 #[v,.func (.func f) us.toArray ws.toArray] e R (fun v' L'=>(∃ k:Int,v'=.int .i64 k∧((k = -1∧∀ i,i<ts.length→p i=false)∨(∃ j:Nat,k=j∧j<ts.length∧p j=true∧∀ i,i<j→p i=false)))∧R=L'):=by
 refine Ct.of_sep (hv.shape zo) ?_;rintro ⟨⟨ad,cap,rfl,h3,h4,h5,h6⟩,_⟩;refine Ct.enter (args:=[_,_]) func264 rfl ntmps264 results264 rfl ?_;refine wB ?_;refine W.loop (ι:=Nat) (fun i=>[(0,.slice ad ts.length cap),(1,.func (.func f) us.toArray ws.toArray),(7,.int .i64 (ts.length:Int)),(8,.int .i64 (i:Int))]) (fun _=>R) (fun i=>i≤ts.length∧∀ j,j<i→p j=false) (fun i=>ts.length - i) 0 ⟨Nat.zero_le _,fun j h=>absurd h (Nat.not_lt_zero j)⟩ zS Ent.rfl ?_;rintro i ⟨h1,h2⟩
 by_cases hlt:i<ts.length
 rotate_left
 ·refine wB ?_;exact Fin.ret R rfl Ent.rfl ⟨⟨-1,rfl,.inl ⟨rfl,fun j hj=>h2 j zo⟩⟩,rfl⟩
 rcases h6 with h6|⟨gl,ol,rfl⟩
 ·omega
 have hr:Rd R ⟨gl,ol+i,none⟩ (ts[i]'hlt).1:=hv.elem (by rw [List.getElem?_map,List.getElem?_eq_getElem hlt];rfl);have hfi:=hf i hlt
 generalize (ts[i]'hlt).1=y at *
 refine wB ?_;refine O.callV (us:=us) (ws:=ws) rfl rfl rfl hfi ?_;rintro _ _ ⟨rfl,rfl⟩
 cases hp:p i with
 | false =>
  refine wB ?_;refine Fin.round (i+1) ⟨hlt,fun j hj=>?_⟩ zo zS Ent.rfl
  by_cases hji:j=i
  ·subst hji;exact hp
  ·exact h2 j zo
 | true =>
  refine wB ?_;exact Fin.ret R rfl Ent.rfl ⟨⟨i,rfl,.inr ⟨i,rfl,hlt,hp,h2⟩⟩,rfl⟩
theorem containsF_spec (v:Value) (ts:List Txt) (f:FuncId) (us ws:List Value) (p:Nat→Bool) [i:CallT prog f f] (hv:RdSl R 1 v ts.length (ts.map (·.1))) (hl:ts.length≤1000000)
 (hf:∀ (i:Nat) (h:i<ts.length),Ct prog f (us++[(ts[i]).1]++ws).toArray e R (fun v' L'=>v'=.bool (p i)∧R=L')) :
 Ct prog 203 #[v,.func (.func f) us.toArray ws.toArray] e R (fun v' L'=>v'=.bool (decide (∃ i,i<ts.length∧p i=true))∧R=L'):=by
 refine Ct.enter (args:=[_,_]) func203 rfl ntmps203 results203 rfl ?_;refine wB ?_;refine O.call rfl rfl (indexF_spec _ e v ts f us ws p hv hl hf) ?_;rintro _ _ ⟨⟨k,rfl,hk⟩,rfl⟩;rcases hk with ⟨rfl,hk⟩|⟨j,rfl,hj,hp,_⟩
 ·rw [decide_eq_false (fun ⟨i,h1,h2⟩=>by rw [hk i h1] at h2;cases h2)];refine wB ?_;exact Fin.ret R rfl Ent.rfl ⟨rfl,rfl⟩
 ·rw [decide_eq_true ⟨j,hj,hp⟩];refine wB ?_;exact Fin.ret R rfl Ent.rfl ⟨rfl,rfl⟩
theorem signLeaves_spec (v:Value) (seed:List UInt8) (hv:RdB R v seed) (hs:seed.length≤1000) :
 Ct prog 143 #[v] e R (fun v' L'=>∃ ad c ts,v'=.slice ad ts.length c∧ts.map (·.2)=keysL seed∧L'=OwnT (.slice ad ts.length c) ts::Items ts::R):=by
 refine Ct.enter (args:=[_]) func143 rfl ntmps143 results143 rfl ?_;refine wB ?_;refine W.loop (ι:=Nat × List Txt × Option Addr × Nat) (fun i=>[(0,v),(3,.slice i.2.2.1 i.2.1.length i.2.2.2),(5,.int .i64 (i.1:Int))]) (fun i=>OwnT (.slice i.2.2.1 i.2.1.length i.2.2.2) i.2.1::Items i.2.1::R) (fun i=>i.1≤16∧i.2.1.map (·.2)=(List.range i.1).map (oncePub seed)) (fun i=>16 - i.1) (0,[],none,0) ⟨by omega,rfl⟩ zS (Ent.trans items_nil (own_nil tTxts 1)) ?_;rintro ⟨i,ts,ad,c⟩ ⟨hi,hts⟩;dsimp only at hi hts ⊢
 have hol:ts.length=i:=by simpa using congrArg List.length hts
 by_cases hlt:i<16
 rotate_left
 ·have hie:i=16:=by omega
  subst hie;refine wB ?_;exact Fin.ret _ rfl Ent.rfl ⟨ad,c,ts,rfl,hts,rfl⟩
 have hnext:∀ (w:Value),(ts++[(w,oncePub seed i)]).map (·.2)=(List.range (i+1)).map (oncePub seed):=fun w=>by
  rw [List.map_append,hts,List.range_succ,List.map_append]
  rfl
 have hcall:=oncePublic_spec (OwnT (.slice ad ts.length c) ts::Items ts::R) e v seed i hv.tail.tail hs hlt
 generalize oncePub seed i=b at *
 refine wB ?_;refine O.call rfl rfl hcall ?_;rintro _ _ ⟨ad3,c3,rfl,rfl⟩
 (repeat (refine wA ?_;intros))
 refine O.do (Do.append rfl rfl rfl (.succ (.succ .zero)) (RdSl.blk .zero rfl zl) rfl rfl zO zm zo fun ad4 c4 _=>?_)
 refine wB ?_;refine Fin.round (i+1,ts++[(.slice ad3 b.length c3,b)],ad4,c4) ⟨hlt,hnext _⟩ zd ?_ ?_
 ·dsimp only;rw [List.length_append,List.length_singleton];exact zS
 ·exact Ent.trans (show Ent _ (Own tTxts 1 (.slice ad4 (ts.length+1) c4) (ts.length+1) (ts.map (·.1)++[.slice ad3 b.length c3])::OwnB (.slice ad3 b.length c3) b::Items ts::R) from zE) grow_txts
theorem getD_txt {ts:List Txt} {i:Nat} (h:i<ts.length):(ts.map (·.2)).getD i []=(ts[i]'h).2:=by
 rw [List.getD_eq_getElem?_getD,List.getElem?_map,List.getElem?_eq_getElem h];rfl
theorem above_spec (v:Value) (ts:List Txt) (hv:RdSl R 1 v ts.length (ts.map (·.1))) (ht:Txts R ts) (h32:∀ a∈ts,a.2.length=32) (hl:ts.length≤16) :
 Ct prog 144 #[v] e R (fun v' L'=>∃ ad c us,v'=.slice ad us.length c∧us.map (·.2)=aboveP (ts.map (·.2))∧L'=OwnT (.slice ad us.length c) us::Items us::R):=by
 refine Ct.of_sep (hv.shape zo) ?_;rintro ⟨⟨adv,cap,rfl,h3,h4,h5,h6⟩,_⟩;simp only [maxLen] at h4
 have hal:=aboveP_length (ts.map (·.2));rw [List.length_map] at hal
 refine Ct.enter (args:=[_]) func144 rfl ntmps144 results144 rfl ?_;refine wB ?_;refine W.loop (ι:=Nat × List Txt × Option Addr × Nat) (fun i=>[(0,.slice adv ts.length cap),(3,.slice i.2.2.1 i.2.1.length i.2.2.2),(4,.int .i64 (2*(i.1:Int)))]) (fun i=>OwnT (.slice i.2.2.1 i.2.1.length i.2.2.2) i.2.1::Items i.2.1::R) (fun i=>2*i.1≤ts.length∧i.2.1.map (·.2)=(aboveP (ts.map (·.2))).take i.1) (fun i=>ts.length - i.1) (0,[],none,0) ⟨by omega,by simp⟩ zS (Ent.trans items_nil (own_nil tTxts 1)) ?_;rintro ⟨i,us,ad,c⟩ ⟨hi,hus⟩;dsimp only at hi hus ⊢
 have hol:us.length=i:=by have:=congrArg List.length hus;rw [List.length_map,List.length_take] at this;omega
 by_cases hlt:2*i+1<ts.length
 rotate_left
 ·rw [List.take_of_length_le zo] at hus
  refine wB ?_;exact Fin.ret _ rfl Ent.rfl ⟨ad,c,us,rfl,hus,rfl⟩
 have ha:=aboveP_get (ts.map (·.2)) i (by rw [List.length_map];exact hlt);rw [getD_txt (show 2*i<ts.length by omega),getD_txt hlt] at ha
 have hnext:∀ (w:Value) (b:List UInt8),b=(aboveP (ts.map (·.2))).getD i []→(us++[(w,b)]).map (·.2)=(aboveP (ts.map (·.2))).take (i+1):=fun w b h=>by
  rw [List.map_append,hus,List.take_succ_eq_append_getElem zo,h]
  congr 1
  rw [List.getD_eq_getElem?_getD,List.getElem?_eq_getElem zo]
  rfl
 rcases h6 with h6|⟨gl,ol,rfl⟩
 ·omega
 have hr0:Rd R ⟨gl,ol+2*i,none⟩ (ts[2*i]'zo).1:=hv.elem (by rw [List.getElem?_map,List.getElem?_eq_getElem zo];rfl);have hr1:Rd R ⟨gl,ol+(2*i+1),none⟩ (ts[2*i+1]'hlt).1:=hv.elem (by rw [List.getElem?_map,List.getElem?_eq_getElem hlt];rfl);have ht0:=ht _ (List.getElem_mem (show 2*i<ts.length by omega));have ht1:=ht _ (List.getElem_mem hlt);have hz0:=h32 _ (List.getElem_mem (show 2*i<ts.length by omega));have hz1:=h32 _ (List.getElem_mem hlt)
 generalize ts[2*i]'zo=y0 at *
 generalize ts[2*i+1]'hlt=y1 at *
 obtain ⟨v0,b0⟩:=y0;obtain ⟨v1,b1⟩:=y1;dsimp only at hr0 hr1 ht0 ht1 hz0 hz1 ha
 refine W.of_sep (RdB.one ht0.tail.tail) fun ho0=>?_
 refine W.of_sep (RdB.one ht1.tail.tail) fun ho1=>?_
 rw [show (2*(i:Int))=((2*i:Nat):Int) by omega];refine wB ?_;refine A.begin (id:=5) [14] (Items us::R) mixed ?_
 (refine tM 0 ?_;refine tM 1 ?_;refine tM 2 ?_;refine tk 3 _ rfl (Val.indexAddr1 rfl rfl zo) ?_;refine tL 4 ?_;refine tM 5 ?_;refine tM 6 ?_;refine tk 7 _ rfl (Val.add64 rfl rfl zo) ?_;refine tk 8 _ rfl (Val.indexAddr1 rfl rfl zo) ?_;refine tL 9 ?_)
 refine tO 10 ?_;refine Do.buildSlice (n:=1) (z:=nY) (cs:=[v0,v1]) rfl rfl rfl rfl (.one (cells_one ho0) rfl (.one (cells_one ho1) rfl .nil)) rfl (fun gb=>⟨fun _=>zE,?_⟩);refine tO 11 ?_
 refine Do.call rfl rfl (tagged_spec _ e 14 _ [(v0,b0),(v1,b1)] (RdSl.blk .zero rfl zl) (fun a ha=>by
  simp only [List.mem_cons,List.not_mem_nil,or_false] at ha
  rcases ha with rfl|rfl
  ·exact ht0.tail.tail.tail
  ·exact ht1.tail.tail.tail) (fun a ha=>by
  simp only [List.mem_cons,List.not_mem_nil,or_false] at ha
  rcases ha with rfl|rfl
  ·dsimp only;omega
  ·dsimp only;omega) (by simp)) ?_
 rintro _ _ ⟨ad3,c3,rfl,rfl⟩;rw [show tagP 14 ([(v0,b0),(v1,b1)].map (·.2))=tagP 14 [b0,b1] from rfl,← ha]
 generalize (aboveP (ts.map (·.2))).getD i []=b at *
 refine ⟨fun _=>zE,?_⟩;refine tO 12 ?_;refine Do.buildSlice (n:=1) (z:=nY) (cs:=[.slice ad3 b.length c3]) rfl rfl rfl rfl (.one rfl rfl .nil) rfl (fun gc=>⟨fun _=>zE,?_⟩);refine tO 13 ?_;refine Do.append rfl rfl rfl (.succ (.succ (.succ .zero))) (RdSl.blk .zero rfl zl) rfl rfl zO zm zo fun ad4 c4 _=>⟨fun _=>zE,?_⟩
 ((refine tO 14 ?_;refine dV (Val.assign rfl) ?_))
 refine A.done zK ?_;refine wB ?_;refine Fin.round (i+1,us++[(.slice ad3 b.length c3,b)],ad4,c4) ⟨by dsimp only;omega,hnext _ _ rfl⟩ zd ?_ ?_
 ·dsimp only;rw [List.length_append,List.length_singleton,show (2*((i+1:Nat):Int))=((2*i:Nat):Int)+2 by omega];exact zS
 ·exact Ent.trans (show Ent _ (Own tTxts 1 (.slice ad4 (us.length+1) c4) (us.length+1) (us.map (·.1)++[.slice ad3 b.length c3])::OwnB (.slice ad3 b.length c3) b::Items us::R) from zE) grow_txts
theorem sPublic_spec (v:Value) (seed:List UInt8) (hv:RdB R v seed) (hs:seed.length=32) :
 Ct prog 67 #[v] e R (fun v' L'=>∃ M:Res,L'=M::R∧RdB [M] v' (pubP seed)):=by
 refine Ct.of_sep (RdSl.shape hv zo) ?_;rintro ⟨⟨adv,cap,rfl,_,_,_,_⟩,_⟩;refine Ct.enter (args:=[_]) func67 rfl ntmps67 results67 rfl ?_;refine wB ?_;refine O.call rfl rfl (signLeaves_spec _ e _ seed hv zo) ?_;rintro _ _ ⟨ad,c,ts,rfl,hts,rfl⟩;have hll:=lev_length (keysL_length seed);have hls:=lev_sizes (keysL_sizes (seed:=seed));refine wB ?_;refine W.loop (ι:=Nat × List Txt × Option Addr × Nat) (fun i=>[(3,.slice i.2.2.1 i.2.1.length i.2.2.2),(9,.int .i64 (i.1:Int))]) (fun i=>OwnT (.slice i.2.2.1 i.2.1.length i.2.2.2) i.2.1::Items i.2.1::R) (fun i=>i.1≤4∧i.2.1.map (·.2)=lev (keysL seed) i.1) (fun i=>4 - i.1) (0,ts,ad,c) ⟨by omega,hts⟩ zS Ent.rfl ?_;clear hts;rintro ⟨i,us,ad2,c2⟩ ⟨hi,hus⟩;dsimp only at hi hus ⊢
 have hul:us.length=2 ^ (4 - i):=by have:=congrArg List.length hus;rw [List.length_map,hll i hi] at this;exact this
 have hu16:us.length≤16:=by rw [hul];exact Nat.le_trans (Nat.pow_le_pow_right zo (show 4 - i≤4 by omega)) (by decide)
 by_cases hlt:i<4
 ·refine wB ?_;refine O.call rfl rfl (above_spec _ e _ us (RdSl.own .zero) (Txts.tail items_rd) (txt_len hus (hls i)) hu16) ?_;rintro _ _ ⟨ad3,c3,ws,rfl,hws,rfl⟩;refine wB ?_;exact Fin.round (i+1,ws,ad3,c3) ⟨hlt,by dsimp only;rw [hws,hus];rfl⟩ zd zS zE
 have hie:i=4:=by omega
 subst hie;have h1:us.length=1:=hul;refine W.of_sep (own_addr .zero zo) ?_;rintro ⟨p,rfl⟩;have h0:0<us.length:=by omega
 have hr:Rd (OwnT (.slice (some ⟨p,0,none⟩) us.length c2) us::Items us::R) ⟨p,0,none⟩ (us[0]'h0).1:=by
  have:=(RdSl.own (L:=OwnT (.slice (some ⟨p,0,none⟩) us.length c2) us::Items us::R) .zero).elem (j:=0) (u:=(us[0]'h0).1) (by rw [List.getElem?_map,List.getElem?_eq_getElem h0];rfl);exact this
 have hit:RdB [Items us] (us[0]'h0).1 (us[0]'h0).2:=items_rd _ (List.getElem_mem h0);have hpub:(us[0]'h0).2=pubP seed:=by rw [← getD_txt h0,hus];rfl
 rw [hpub] at hit
 generalize (us[0]'h0).1=w at *
 refine wB ?_;exact Fin.ret (Items us::R) rfl zE ⟨Items us,rfl,hit⟩
end Go.Proofs
namespace Go.Bs
def pathP (l:List (List UInt8)) (i:Nat):List (List UInt8) :=
 if h:2≤l.length then
  if i<splitP l.length then pathP (l.take (splitP l.length)) i++[rootP (l.drop (splitP l.length))]
  else pathP (l.drop (splitP l.length)) (i - splitP l.length)++[rootP (l.take (splitP l.length))]
 else []
 termination_by l.length
 decreasing_by
 ·have:=splitP_spec h;rw [List.length_take];omega
 ·have:=splitP_spec h;rw [List.length_drop];omega
def longP (n i:Nat):Nat :=
 if h:2≤n then
  if i<splitP n then longP (splitP n) i+1 else longP (n - splitP n) (i - splitP n)+1
 else 0
 termination_by n
 decreasing_by
 ·have:=splitP_spec h;omega
 ·have:=splitP_spec h;omega
def lastP (p:List (List UInt8)):List UInt8:=p.getLast?.getD []
def leadP (n i:Nat) (p:List (List UInt8)) (x:List UInt8):List UInt8 :=
 if h:2≤n then
  if i<splitP n then nodeP (leadP (splitP n) i p.dropLast x) (lastP p) else nodeP (lastP p) (leadP (n - splitP n) (i - splitP n) p.dropLast x)
 else x
 termination_by n
 decreasing_by
 ·have:=splitP_spec h;omega
 ·have:=splitP_spec h;omega
theorem pathP_none {l:List (List UInt8)} {i:Nat} (h:¬ 2≤l.length):pathP l i=[]:=by rw [pathP,dif_neg h]
theorem pathP_lo {l:List (List UInt8)} {i:Nat} (h:2≤l.length) (hi:i<splitP l.length):pathP l i=pathP (l.take (splitP l.length)) i++[rootP (l.drop (splitP l.length))]:=by rw [pathP,dif_pos h,if_pos hi]
theorem pathP_hi {l:List (List UInt8)} {i:Nat} (h:2≤l.length) (hi:¬ i<splitP l.length):pathP l i=pathP (l.drop (splitP l.length)) (i - splitP l.length)++[rootP (l.take (splitP l.length))]:=by rw [pathP,dif_pos h,if_neg hi]
theorem longP_none {n i:Nat} (h:¬ 2≤n):longP n i=0:=by rw [longP,dif_neg h]
theorem longP_lo {n i:Nat} (h:2≤n) (hi:i<splitP n):longP n i=longP (splitP n) i+1:=by rw [longP,dif_pos h,if_pos hi]
theorem longP_hi {n i:Nat} (h:2≤n) (hi:¬ i<splitP n):longP n i=longP (n - splitP n) (i - splitP n)+1:=by rw [longP,dif_pos h,if_neg hi]
theorem leadP_none {n i:Nat} {p:List (List UInt8)} {x:List UInt8} (h:¬ 2≤n):leadP n i p x=x:=by rw [leadP,dif_neg h]
theorem leadP_lo {n i:Nat} {p:List (List UInt8)} {x:List UInt8} (h:2≤n) (hi:i<splitP n):leadP n i p x=nodeP (leadP (splitP n) i p.dropLast x) (lastP p):=by rw [leadP,dif_pos h,if_pos hi]
theorem leadP_hi {n i:Nat} {p:List (List UInt8)} {x:List UInt8} (h:2≤n) (hi:¬ i<splitP n):leadP n i p x=nodeP (lastP p) (leadP (n - splitP n) (i - splitP n) p.dropLast x):=by rw [leadP,dif_pos h,if_neg hi]
theorem lastP_snoc (p:List (List UInt8)) (a:List UInt8):lastP (p++[a])=a:=by simp [lastP]
theorem pathP_length:∀ (n:Nat) (l:List (List UInt8)) (i:Nat),l.length=n→(pathP l i).length=longP l.length i:=by
 intro n
 induction n using Nat.strongRecOn with
 | ind n ih =>
  intro l i hn
  by_cases h:2≤l.length
  ·have hs:=splitP_spec h
   by_cases hi:i<splitP l.length
   ·have e1:(l.take (splitP l.length)).length=splitP l.length:=by rw [List.length_take];omega
    rw [pathP_lo h hi,longP_lo h hi,List.length_append,List.length_singleton,ih _ (by omega) _ i e1,e1]
   ·have e1:(l.drop (splitP l.length)).length=l.length - splitP l.length:=List.length_drop;rw [pathP_hi h hi,longP_hi h hi,List.length_append,List.length_singleton,ih _ (by omega) _ _ e1,e1]
  ·rw [pathP_none h,longP_none h];rfl
theorem leadP_path:∀ (n:Nat) (l:List (List UInt8)) (i:Nat) (x:List UInt8),l.length=n→i<l.length→leadP l.length i (pathP l i) x=rootP (l.set i x):=by
 intro n
 induction n using Nat.strongRecOn with
 | ind n ih =>
  intro l i x hn hil
  by_cases h:2≤l.length
  ·have hs:=splitP_spec h;have hrt:=rootP_more (l:=l.set i x) (by rw [List.length_set];exact h);rw [List.length_set] at hrt
   by_cases hi:i<splitP l.length
   ·have e1:(l.take (splitP l.length)).length=splitP l.length:=by rw [List.length_take];omega
    have e2:=ih _ (by omega) (l.take (splitP l.length)) i x e1 (by omega);rw [e1] at e2
    rw [leadP_lo h hi,pathP_lo h hi,lastP_snoc,List.dropLast_concat,e2,hrt,List.take_set,List.drop_set_of_lt hi]
   ·have e1:(l.drop (splitP l.length)).length=l.length - splitP l.length:=List.length_drop;have e2:=ih _ (by omega) (l.drop (splitP l.length)) (i - splitP l.length) x e1 (by omega);rw [e1] at e2
    rw [leadP_hi h hi,pathP_hi h hi,lastP_snoc,List.dropLast_concat,e2,hrt,List.take_set_of_le (by omega),List.drop_set];rw [if_neg hi]
  ·rw [leadP_none h]
   match l,h,hil with
   | [a],_,hil =>
    obtain rfl:i=0:=by simp at hil;omega
    rw [List.set_cons_zero,rootP_one]
   | [],_,hil=>simp at hil
   | _::_::_,h,_=>simp at h
theorem hashes_root {l:List (List UInt8)} (h:∀ a∈l,a.length=32):(rootP l).length=32:=by
 match l,h with
 | [],_=>rw [rootP_nil,sha_length]
 | [a],h=>rw [rootP_one];exact h a (List.mem_singleton.2 rfl)
 | a::b::r,_=>rw [rootP_more (by simp)];exact tagP_length _ _
theorem pathP_hash:∀ (n:Nat) (l:List (List UInt8)) (i:Nat),l.length=n→(∀ a∈l,a.length=32)→∀ a∈pathP l i,a.length=32:=by
 intro n
 induction n using Nat.strongRecOn with
 | ind n ih =>
  intro l i hn hh a ha
  by_cases h:2≤l.length
  ·have hs:=splitP_spec h
   by_cases hi:i<splitP l.length
   ·rw [pathP_lo h hi] at ha
    rcases List.mem_append.1 ha with q|q
    ·exact ih _ (by rw [List.length_take];omega) _ i rfl (fun b hb=>hh b (List.mem_of_mem_take hb)) a q
    ·rw [List.mem_singleton.1 q];exact hashes_root fun b hb=>hh b (List.mem_of_mem_drop hb)
   ·rw [pathP_hi h hi] at ha
    rcases List.mem_append.1 ha with q|q
    ·exact ih _ (by rw [List.length_drop];omega) _ _ rfl (fun b hb=>hh b (List.mem_of_mem_drop hb)) a q
    ·rw [List.mem_singleton.1 q];exact hashes_root fun b hb=>hh b (List.mem_of_mem_take hb)
  ·rw [pathP_none h] at ha;cases ha
theorem splitP_half {n t:Nat} (h:n≤2 ^ (t+1)) (h2:2≤n):splitP n≤2 ^ t:=by
 unfold splitP;rw [if_neg (by omega)];refine Nat.pow_le_pow_right (by omega) ?_;have:(n - 1).log2<t+1:=(Nat.log2_lt (by omega)).2 (by omega)
 omega
theorem longP_le:∀ (t n i:Nat),n≤2 ^ t→longP n i≤t
 | 0,n,i,h=>by rw [longP_none (by rw [Nat.pow_zero] at h;omega)];exact Nat.le_refl _
 | t+1,n,i,h=>by
  by_cases h2:2≤n
  ·have hs:=splitP_spec h2;have hh:=splitP_half h h2
   by_cases hi:i<splitP n
   ·rw [longP_lo h2 hi];have:=longP_le t _ i hh;omega
   ·rw [longP_hi h2 hi];have:=longP_le t (n - splitP n) (i - splitP n) (by omega);omega
  ·rw [longP_none h2];omega
end Go.Bs
namespace Go.Proofs
attribute [local irreducible] Bs.Val Bs.Do Bs.O Bs.W Bs.Fin Bs.A Bs.Ct Bs.RdSl Bs.Rd Bs.Sat Bs.Blk Bs.Ob Bs.Own Bs.View Bs.Ent Bs.Ex Bs.All Bs.Pu Bs.Base Bs.sepL Bs.RdA
open Go.Bs
open Tryz
variable (R:List Res) (e:World)
theorem path_spec:∀ (n:Nat) (R:List Res) (e:World) (v:Value) (ts:List Txt) (i:Nat),ts.length=n→RdSl R 1 v ts.length (ts.map (·.1))→Txts R ts→(∀ a∈ts,a.2.length≤1000000)→ts.length≤1000000→i≤1000000 →
 Ct prog 157 #[v,.int .i64 (i:Int)] e R (fun v' L'=>∃ ad c out,v'=.slice ad out.length c∧out.map (·.2)=pathP (ts.map (·.2)) i∧L'=OwnT (.slice ad out.length c) out::Items out::R):=by
 intro n
 induction n using Nat.strongRecOn with
 | _ n ih =>
 intro R e v ts i hn hv ht hb hl hi0;refine Ct.of_sep (hv.shape zo) ?_;rintro ⟨⟨ad,cap,rfl,h3,h4,h5,h6⟩,_⟩;simp only [maxLen] at h4
 refine Ct.enter (args:=[_,_]) func157 rfl ntmps157 results157 rfl ?_;refine wB ?_;refine O.call rfl rfl (split_spec R e ts.length zo) ?_;rintro _ _ ⟨rfl,rfl⟩;rw [splitI_nat]
 by_cases h2:2≤ts.length
 rotate_left
 ·have h0:splitP ts.length=0:=by unfold splitP;rw [if_pos zo]
  rw [h0];refine wB ?_;exact Fin.ret (OwnT nY []::Items []::R) rfl (Ent.trans items_nil (own_nil _ _)) ⟨none,0,[],rfl,by rw [pathP_none (by rw [List.length_map];exact h2)];rfl,rfl⟩
 have hs:=splitP_spec h2;have hlo:=fun h=>pathP_lo (l:=ts.map (·.2)) (i:=i) (by rw [List.length_map];exact h2) h
 have hhi:=fun h=>pathP_hi (l:=ts.map (·.2)) (i:=i) (by rw [List.length_map];exact h2) h
 rw [List.length_map,← List.map_take,← List.map_drop] at hlo hhi
 have hq1:=take_mapT hv (k:=splitP ts.length) zo;have hq2:=drop_mapT hv (k:=splitP ts.length) zo
 generalize splitP ts.length=k at *
 have hlk:(ts.take k).length=k:=by rw [List.length_take];omega
 have hlk2:(ts.drop k).length=ts.length - k:=List.length_drop
 by_cases hik:i<k
 ·refine wB ?_;refine A.start (id:=5) [11] mixed ?_
  (refine tM 0 ?_;refine tM 1 ?_;refine tk 2 _ rfl (Val.sliceHi rfl rfl zo zo) ?_;refine tM 3 ?_;refine tM 5 ?_;refine tM 6 ?_;refine tk 7 _ rfl (Val.sliceLo rfl rfl zo zo) ?_)
  refine tO 4 ?_;refine Do.call rfl rfl (ih k zo R e _ (ts.take k) i hlk hq1 (txts_sub ht fun x hx=>List.mem_of_mem_take hx) (fun a ha=>hb a (List.mem_of_mem_take ha)) zo hi0) ?_;rintro _ _ ⟨ad1,c1,out,rfl,ho,rfl⟩
  have hol:out.length≤1000000:=by
   have h7:=congrArg List.length ho;rw [List.length_map,pathP_length _ _ _ rfl] at h7
   have:=longP_le 20 (ts.take k).length i zo;rw [List.length_map] at h7
   omega
  refine ⟨fun _=>zE,?_⟩;refine tO 8 ?_;refine Do.call rfl rfl (root_spec (ts.length - k) _ e _ (ts.drop k) hlk2 hq2.tail.tail (Txts.tail (Txts.tail (txts_sub ht fun x hx=>List.mem_of_mem_drop hx))) (fun a ha=>hb a (List.mem_of_mem_drop ha)) zo) ?_;rintro _ _ ⟨ad2,c2,rfl,rfl⟩;refine ⟨fun _=>zE,?_⟩
  generalize hrt:rootP ((ts.drop k).map (·.2))=rt at *
  refine tO 9 ?_;refine Do.buildSlice (n:=1) rfl rfl rfl rfl zQ rfl (fun g2=>⟨fun _=>zE,?_⟩);refine tO 10 ?_;refine Do.append rfl rfl rfl (.succ (.succ .zero)) (RdSl.blkN (n:=1) (c:=1) .zero rfl zl) rfl rfl zO zm zo fun ad3 c3 _=>⟨fun _=>zE,?_⟩
  ((refine tO 11 ?_;refine dV (Val.assign rfl) ?_))
  refine A.done zK ?_;refine wB ?_;refine Fin.ret (OwnT (.slice ad3 (out++[((Value.slice ad2 rt.length c2,rt):Txt)]).length c3) (out++[((Value.slice ad2 rt.length c2,rt):Txt)])::Items (out++[((Value.slice ad2 rt.length c2,rt):Txt)])::R) rfl (Ent.trans zE grow_txts) ⟨ad3,c3,out++[((Value.slice ad2 rt.length c2,rt):Txt)],by rw [List.length_append,List.length_singleton];rfl,by rw [List.map_append,ho,hlo hik];rfl,rfl⟩
 ·refine wB ?_;refine A.start (id:=6) [13] mixed ?_
  (refine tM 0 ?_;refine tM 1 ?_;refine tk 2 _ rfl (Val.sliceLo rfl rfl zo zo) ?_;refine tM 3 ?_;refine tM 4 ?_;refine tk 5 _ rfl (Val.sub64 rfl rfl zo) ?_;refine tM 7 ?_;refine tM 8 ?_;refine tk 9 _ rfl (Val.sliceHi rfl rfl zo zo) ?_)
  rw [show ((i:Nat):Int) - ((k:Nat):Int)=((i - k:Nat):Int) by omega];refine tO 6 ?_;refine Do.call rfl rfl (ih (ts.length - k) zo R e _ (ts.drop k) (i - k) hlk2 hq2 (txts_sub ht fun x hx=>List.mem_of_mem_drop hx) (fun a ha=>hb a (List.mem_of_mem_drop ha)) zo zo) ?_;rintro _ _ ⟨ad1,c1,out,rfl,ho,rfl⟩
  have hol:out.length≤1000000:=by
   have h7:=congrArg List.length ho;rw [List.length_map,pathP_length _ _ _ rfl] at h7
   have:=longP_le 20 (ts.drop k).length (i - k) zo;rw [List.length_map] at h7
   omega
  refine ⟨fun _=>zE,?_⟩;refine tO 10 ?_;refine Do.call rfl rfl (root_spec k _ e _ (ts.take k) hlk hq1.tail.tail (Txts.tail (Txts.tail (txts_sub ht fun x hx=>List.mem_of_mem_take hx))) (fun a ha=>hb a (List.mem_of_mem_take ha)) zo) ?_;rintro _ _ ⟨ad2,c2,rfl,rfl⟩;refine ⟨fun _=>zE,?_⟩
  generalize hrt:rootP ((ts.take k).map (·.2))=rt at *
  refine tO 11 ?_;refine Do.buildSlice (n:=1) rfl rfl rfl rfl zQ rfl (fun g2=>⟨fun _=>zE,?_⟩);refine tO 12 ?_;refine Do.append rfl rfl rfl (.succ (.succ .zero)) (RdSl.blkN (n:=1) (c:=1) .zero rfl zl) rfl rfl zO zm zo fun ad3 c3 _=>⟨fun _=>zE,?_⟩
  ((refine tO 13 ?_;refine dV (Val.assign rfl) ?_))
  refine A.done zK ?_;refine wB ?_;refine Fin.ret (OwnT (.slice ad3 (out++[((Value.slice ad2 rt.length c2,rt):Txt)]).length c3) (out++[((Value.slice ad2 rt.length c2,rt):Txt)])::Items (out++[((Value.slice ad2 rt.length c2,rt):Txt)])::R) rfl (Ent.trans zE grow_txts) ⟨ad3,c3,out++[((Value.slice ad2 rt.length c2,rt):Txt)],by rw [List.length_append,List.length_singleton];rfl,by rw [List.map_append,ho,hhi hik];rfl,rfl⟩
theorem include_spec (v:Value) (ts:List Txt) (n:Int) (hn:-9223372036854775808≤n∧n≤9223372036854775807) (hv:RdSl R 1 v ts.length (ts.map (·.1))) (ht:Txts R ts) (hb:∀ a∈ts,a.2.length≤1000000) (hl:ts.length≤1000000) :
 Ct prog 79 #[v,.int .i64 n] e R (fun v' L' =>
  (¬ (0≤n∧n<ts.length)∧v'=.tuple #[.agg #[.int .i64 0,.int .i64 0,nY],.int .i64 1]∧R=L') ∨
  (0≤n∧n<ts.length∧∃ ad c out,v'=.tuple #[.agg #[.int .i64 n,.int .i64 (ts.length:Int),.slice ad out.length c],.int .i64 0]∧out.map (·.2)=pathP (ts.map (·.2)) n.toNat∧L'=OwnT (.slice ad out.length c) out::Items out::R)):=by
 refine Ct.of_sep (hv.shape zo) ?_;rintro ⟨⟨ad,cap,rfl,h3,h4,h5,h6⟩,_⟩;refine Ct.enterC (args:=[_,_]) func79 rfl ntmps79 results79 rfl ?_
 by_cases hok:0≤n∧n<ts.length
 rotate_left
 ·by_cases h0:n<0
  ·(repeat (refine wA ?_;intros))
   apply Fin.retC;exact zV;exact ⟨R,zE,.inl ⟨hok,rfl,rfl⟩⟩
  ·(repeat (refine wA ?_;intros))
   apply Fin.retC;exact zV;exact ⟨R,zE,.inl ⟨hok,rfl,rfl⟩⟩
 obtain ⟨h0,hlt⟩:=hok;obtain ⟨m,rfl⟩:=Int.eq_ofNat_of_zero_le h0;rw [Int.toNat_natCast]
 (repeat (refine wA ?_;intros))
 refine O.call rfl rfl (path_spec ts.length _ e _ ts m rfl hv.tail ht.tail hb hl zo) ?_;rintro _ _ ⟨ad1,c1,out,rfl,ho,rfl⟩;refine wB ?_;apply Fin.retC;exact zV;exact ⟨OwnT (.slice ad1 out.length c1) out::Items out::R,zE,.inr ⟨h0,hlt,ad1,c1,out,rfl,ho,rfl⟩⟩
theorem is_spec (v:Value) (b:List UInt8) (hv:RdB R v b) :
 Ct prog 205 #[v] e R (fun v' L'=>v'=.bool (decide (b.length=32))∧R=L'):=by
 refine Ct.of_sep (RdSl.shape hv zo) ?_;rintro ⟨⟨ad,cap,rfl,h3,h4,h5,h6⟩,_⟩;refine Ct.enter (args:=[_]) func205 rfl ntmps205 results205 rfl ?_
 by_cases h:b.length=32
 ·rw [decide_eq_true h];refine wB ?_;exact Fin.ret R rfl Ent.rfl ⟨rfl,rfl⟩
 ·rw [decide_eq_false h];refine wB ?_;exact Fin.ret R rfl Ent.rfl ⟨rfl,rfl⟩
theorem isnt_spec (v:Value) (b:List UInt8) (hv:RdB R v b) :
 Ct prog 204 #[v] e R (fun v' L'=>v'=.bool (!decide (b.length=32))∧R=L'):=by
 refine Ct.enter (args:=[_]) func204 rfl ntmps204 results204 rfl ?_;refine wB ?_;refine O.call rfl rfl (is_spec _ e v b hv) ?_;rintro _ _ ⟨rfl,rfl⟩
 by_cases h:b.length=32
 ·rw [decide_eq_true h];refine wB ?_;exact Fin.ret R rfl Ent.rfl ⟨rfl,rfl⟩
 ·rw [decide_eq_false h];refine wB ?_;exact Fin.ret R rfl Ent.rfl ⟨rfl,rfl⟩
theorem index_spec (v:Value) (ts:List Txt) (hv:RdSl R 1 v ts.length (ts.map (·.1))) (ht:Txts R ts) (hl:ts.length≤1000000) :
 Ct prog 264 #[v,.func (.func 204) #[] #[]] e R (fun v' L'=>(∃ k:Int,v'=.int .i64 k∧(0≤k↔¬ ∀ a∈ts,a.2.length=32))∧R=L'):=by
 refine Ct.of_sep (hv.shape zo) ?_;rintro ⟨⟨ad,cap,rfl,h3,h4,h5,h6⟩,_⟩;refine Ct.enter (args:=[_,_]) func264 rfl ntmps264 results264 rfl ?_;refine wB ?_;refine W.loop (ι:=Nat) (fun i=>[(0,.slice ad ts.length cap),(1,.func (.func 204) #[] #[]),(7,.int .i64 (ts.length:Int)),(8,.int .i64 (i:Int))]) (fun _=>R) (fun i=>i≤ts.length∧∀ a∈ts.take i,a.2.length=32) (fun i=>ts.length - i) 0 ⟨Nat.zero_le _,fun a ha=>(by cases ha)⟩ (sub_cons rfl (sub_cons rfl (sub_cons rfl (sub_cons rfl sub_nil)))) Ent.rfl ?_;rintro i ⟨h1,h2⟩
 by_cases hlt:i<ts.length
 rotate_left
 ·rw [List.take_of_length_le zo] at h2
  refine wB ?_;exact Fin.ret R rfl Ent.rfl ⟨⟨-1,rfl,⟨fun h=>absurd h (by decide),fun h=>absurd h2 h⟩⟩,rfl⟩
 rcases h6 with h6|⟨gl,ol,rfl⟩
 ·omega
 have hr:Rd R ⟨gl,ol+i,none⟩ (ts[i]'hlt).1:=hv.elem (by rw [List.getElem?_map,List.getElem?_eq_getElem hlt];rfl);have hm:=List.getElem_mem hlt;have hx:=ht _ hm;have htk:ts.take (i+1)=ts.take i++[ts[i]'hlt]:=List.take_succ_eq_append_getElem hlt
 generalize ts[i]'hlt=y at *
 refine wB ?_;refine O.callV (us:=[]) (ws:=[]) rfl rfl rfl (isnt_spec R e y.1 y.2 hx) ?_;rintro _ _ ⟨rfl,rfl⟩
 by_cases h32:y.2.length=32
 ·rw [decide_eq_true h32];refine wB ?_;refine Fin.round (i+1) ⟨hlt,fun a ha=>?_⟩ zo (sub_cons rfl (sub_cons rfl (sub_cons rfl (sub_cons rfl sub_nil)))) Ent.rfl;rw [htk] at ha
  rcases List.mem_append.1 ha with q|q
  ·exact h2 a q
  ·rw [List.mem_singleton.1 q];exact h32
 ·rw [decide_eq_false h32];refine wB ?_;exact Fin.ret R rfl Ent.rfl ⟨⟨i,rfl,⟨fun _ h=>h32 (h y hm),fun _=>by omega⟩⟩,rfl⟩
theorem contains_spec (v:Value) (ts:List Txt) (hv:RdSl R 1 v ts.length (ts.map (·.1))) (ht:Txts R ts) (hl:ts.length≤1000000) :
 Ct prog 203 #[v,.func (.func 204) #[] #[]] e R (fun v' L'=>v'=.bool (!decide (∀ a∈ts,a.2.length=32))∧R=L'):=by
 refine Ct.enter (args:=[_,_]) func203 rfl ntmps203 results203 rfl ?_;refine wB ?_;refine O.call rfl rfl (index_spec _ e v ts hv ht hl) ?_;rintro _ _ ⟨⟨k,rfl,hk⟩,rfl⟩
 by_cases h:∀ a∈ts,a.2.length=32
 ·rw [decide_eq_true h];have:¬ 0≤k:=fun h0=>hk.1 h0 h
  refine wB ?_;exact Fin.ret R rfl Ent.rfl ⟨rfl,rfl⟩
 ·rw [decide_eq_false h];have:=hk.2 h;refine wB ?_;exact Fin.ret R rfl Ent.rfl ⟨rfl,rfl⟩
def rightP (l:List Txt):Bool:=decide (l.length≤16∧∀ a∈l,a.2.length=32)
theorem rightP_spec (v:Value) (ts:List Txt) (hv:RdSl R 1 v ts.length (ts.map (·.1))) (ht:Txts R ts) :
 Ct prog 119 #[v] e R (fun v' L'=>v'=.bool (rightP ts)∧R=L'):=by
 refine Ct.of_sep (hv.shape zo) ?_;rintro ⟨⟨ad,cap,rfl,h3,h4,h5,h6⟩,_⟩;refine Ct.enter (args:=[_]) func119 rfl ntmps119 results119 rfl ?_
 by_cases hl:ts.length≤16
 rotate_left
 ·rw [show rightP ts=false from decide_eq_false fun h=>hl h.1];refine wB ?_;exact Fin.ret R rfl Ent.rfl ⟨rfl,rfl⟩
 refine wB ?_;refine O.call rfl rfl (contains_spec _ e _ ts hv ht zo) ?_;rintro _ _ ⟨rfl,rfl⟩
 by_cases h:∀ a∈ts,a.2.length=32
 ·rw [decide_eq_true h,show rightP ts=true from decide_eq_true ⟨hl,h⟩];refine wB ?_;exact Fin.ret R rfl Ent.rfl ⟨rfl,rfl⟩
 ·rw [decide_eq_false h,show rightP ts=false from decide_eq_false fun q=>h q.2];refine wB ?_;exact Fin.ret R rfl Ent.rfl ⟨rfl,rfl⟩
theorem last_spec (ad:Option Addr) (cap:Nat) (ts:List Txt) (hv:RdSl R 1 (.slice ad ts.length cap) ts.length (ts.map (·.1))) (hl:ts.length≤1000000) :
 Ct prog 312 #[.slice ad ts.length cap] e R (fun v' L'=>((ts=[]∧v'=.tuple #[nY,nY,.bool false])∨(∃ us a,ts=us++[a]∧v'=.tuple #[.slice ad us.length cap,a.1,.bool true]))∧R=L'):=by
 refine Ct.of_sep (hv.shape zo) ?_;rintro ⟨⟨ad',cap',hq,h3,h4,h5,h6⟩,_⟩;obtain ⟨rfl,_,rfl⟩:=Value.slice.inj hq;clear hq;simp only [maxLen] at h4
 refine Ct.enter (args:=[_]) func312 rfl ntmps312 results312 rfl ?_
 obtain rfl|⟨us,a,rfl⟩:ts=[]∨∃ us a,ts=us++[a]:=by
  rcases List.eq_nil_or_concat ts with h|⟨us,a,h⟩
  ·exact .inl h
  ·exact .inr ⟨us,a,by rw [h,List.concat_eq_append]⟩
 ·have e0:((([]:List Txt).length:Nat):Int)=0:=rfl;refine wB ?_;exact Fin.ret R rfl Ent.rfl ⟨.inl ⟨rfl,rfl⟩,rfl⟩
 have hl1:(us++[a]).length=us.length+1:=by rw [List.length_append,List.length_singleton]
 rcases h6 with h6|⟨gl,ol,rfl⟩
 ·omega
 have hr:Rd R ⟨gl,ol+us.length,none⟩ a.1:=hv.elem (by simp);have e1:(((us++[a]).length:Nat):Int) - 1=(us.length:Int):=by omega
 refine wB ?_;rw [e1]
 (repeat' first|refine Za ?_|refine Zb ?_|apply Zc|apply Zd|apply Ze|apply Zf|refine Zi ?_|refine Zj ?_|refine Zk ?_|refine ZA ?_|refine ZB ?_|refine ZC (fun _=>?_) fun _=>?_|refine ZU ?_|refine ZV ?_|refine Ym ?_|refine Yr ?_|refine Ys ?_|refine Yt ?_|refine Yw ?_|refine Yx ?_|refine Yy ?_|refine Yz ?_|refine YA ?_|apply YC|apply YE|apply YF|(apply O.loadAggB;exact rfl;exact zP;(first|(simp only [Nat.zero_add,Nat.add_zero,Nat.reduceAdd,List.drop_succ_cons,List.drop_zero,List.take_succ_cons,List.take_zero];done)|(simp only [Nat.zero_add,Nat.add_zero,Nat.reduceAdd,List.drop_succ_cons,List.drop_zero,List.take_succ_cons,List.take_zero];exact rfl));exact rfl;exact rfl))
 refine A.start (id:=4) [8,9] mixed ?_
 (refine tM 0 ?_;refine tM 1 ?_;refine tk 2 _ rfl (Val.sliceHi rfl rfl zo zo) ?_;refine tM 3 ?_;refine tM 4 ?_;refine tk 5 _ rfl (Val.indexAddr1 rfl rfl zo) ?_;refine tL 6 ?_;refine tA 7 ?_;(refine tO 8 ?_;refine dV (Val.assign rfl) ?_);(refine tO 9 ?_;refine dV (Val.assign rfl) ?_))
 refine A.done zK ?_;refine wB ?_;exact Fin.ret R rfl Ent.rfl ⟨.inr ⟨us,a,rfl,rfl⟩,rfl⟩
theorem lastP_map (us:List Txt) (a:Txt):lastP ((us++[a]).map (·.2))=a.2:=by rw [List.map_append];exact lastP_snoc _ _
theorem dropLast_map (us:List Txt) (a:Txt):((us++[a]).map (·.2)).dropLast=us.map (·.2):=by rw [List.map_append];exact List.dropLast_concat
theorem init_rd {R:List Res} {ad:Option Addr} {cap:Nat} {us:List Txt} {a:Txt} (h:RdSl R 1 (.slice ad (us++[a]).length cap) (us++[a]).length ((us++[a]).map (·.1))):RdSl R 1 (.slice ad us.length cap) us.length (us.map (·.1)):=by
 have:=take_mapT h (k:=us.length) (by simp)
 rwa [List.take_left'] at this
 rfl
theorem lead_spec:∀ (m:Nat) (R:List Res) (e:World) (ad:Option Addr) (cap:Nat) (ts:List Txt) (i n:Nat) (v:Value) (b:List UInt8),ts.length=m→RdSl R 1 (.slice ad ts.length cap) ts.length (ts.map (·.1))→Txts R ts→(∀ a∈ts,a.2.length≤1000000)→ts.length≤1000000→n<9223372036854775808→i<9223372036854775808→RdB R v b→b.length≤1000000 →
 Ct prog 300 #[.slice ad ts.length cap,.int .i64 (i:Int),.int .i64 (n:Int),v] e R (fun v' L'=>∃ ad' c t,v'=.tuple #[.slice ad' t.length c,.bool (decide (ts.length=longP n i))]∧(ts.length=longP n i→t=leadP n i (ts.map (·.2)) b)∧t.length≤1000000∧L'=OwnB (.slice ad' t.length c) t::R):=by
 intro m
 induction m using Nat.strongRecOn with
 | _ m ih =>
 intro R e ad cap ts i n v b hm hv ht hsz hl hn hi hb hbl;refine Ct.enter (args:=[_,_,_,_]) func300 rfl ntmps300 results300 rfl ?_;refine wB ?_;refine O.call rfl rfl (split_spec R e n zo) ?_;rintro _ _ ⟨rfl,rfl⟩;rw [splitI_nat]
 by_cases h2:2≤n
 rotate_left
 ·have h0:splitP n=0:=by unfold splitP;rw [if_pos zo]
  rw [h0];have hlg:=longP_none (i:=i) h2;refine wB ?_;refine O.call rfl rfl (clone_spec _ e _ b hb zo) ?_;rintro _ _ ⟨ad1,c1,rfl,rfl⟩
  by_cases hl0:ts.length=0
  ·refine wB ?_;exact Fin.ret (OwnB (.slice ad1 b.length c1) b::R) rfl Ent.rfl ⟨ad1,c1,b,by rw [hlg,decide_eq_true hl0];rfl,fun _=>(leadP_none h2).symm,hbl,rfl⟩
  ·refine wB ?_;exact Fin.ret (OwnB (.slice ad1 b.length c1) b::R) rfl Ent.rfl ⟨ad1,c1,b,by rw [hlg,decide_eq_false hl0];rfl,fun _=>(leadP_none h2).symm,hbl,rfl⟩
 have hs:=splitP_spec h2;have hlo:=fun h=>longP_lo (i:=i) h2 h
 have hhi:=fun h=>longP_hi (i:=i) h2 h
 have hplo:=fun p h=>leadP_lo (i:=i) (p:=p) (x:=b) h2 h
 have hphi:=fun p h=>leadP_hi (i:=i) (p:=p) (x:=b) h2 h
 have hpos:0<longP n i:=by
  by_cases h:i<splitP n
  ·rw [hlo h];omega
  ·rw [hhi h];omega
 generalize splitP n=k at *
 refine wB ?_;refine O.call rfl rfl (last_spec _ e ad cap ts hv hl) ?_;rintro _ _ ⟨⟨rfl,rfl⟩|⟨us,a,rfl,rfl⟩,rfl⟩
 ·refine wB ?_;exact Fin.ret (OwnB nY []::R) rfl (own_nil _ _) ⟨none,0,[],by rw [decide_eq_false (by simp;omega)];rfl,fun h=>(by simp at h;omega),by simp,rfl⟩
 have hl1:(us++[a]).length=us.length+1:=by rw [List.length_append,List.length_singleton]
 have hrd:=init_rd hv;have hTu:Txts R us:=fun x hx=>ht x (List.mem_append.2 (.inl hx))
 have ha:RdB R a.1 a.2:=ht a (List.mem_append.2 (.inr (List.mem_singleton.2 rfl)));have hal:=hsz a (List.mem_append.2 (.inr (List.mem_singleton.2 rfl)));have hsu:∀ x∈us,x.2.length≤1000000:=fun x hx=>hsz x (List.mem_append.2 (.inl hx))
 by_cases hik:i<k
 ·refine wB ?_;refine O.call rfl rfl (ih us.length zo R e ad cap us i k v b rfl hrd hTu hsu zo zo hi hb hbl) ?_;rintro _ _ ⟨ad1,c1,t,rfl,h7,h8,rfl⟩;refine wB ?_;refine O.call rfl rfl (node_spec _ e _ _ _ _ (RdSl.own .zero) ha.tail h8 hal) ?_;rintro _ _ ⟨ad3,c3,rfl,rfl⟩;refine wB ?_;refine Fin.ret (OwnB (.slice ad3 (nodeP t a.2).length c3) (nodeP t a.2)::R) rfl zE ⟨ad3,c3,nodeP t a.2,?_,fun h=>?_,by rw [nodeP,tagP_length];omega,rfl⟩
  ·rw [hl1,hlo hik,decide_eq_decide.2 (show us.length=longP k i↔us.length+1=longP k i+1 by omega)];rfl
  ·rw [hl1,hlo hik] at h
   rw [h7 zo,hplo _ hik,dropLast_map,lastP_map]
 ·refine wB ?_;rw [show ((i:Nat):Int) - ((k:Nat):Int)=((i - k:Nat):Int) by omega,show ((n:Nat):Int) - ((k:Nat):Int)=((n - k:Nat):Int) by omega];refine O.call rfl rfl (ih us.length zo R e ad cap us (i - k) (n - k) v b rfl hrd hTu hsu zo zo zo hb hbl) ?_;rintro _ _ ⟨ad1,c1,t,rfl,h7,h8,rfl⟩;refine wB ?_;refine O.call rfl rfl (node_spec _ e _ _ _ _ ha.tail (RdSl.own .zero) hal h8) ?_;rintro _ _ ⟨ad3,c3,rfl,rfl⟩;refine wB ?_;refine Fin.ret (OwnB (.slice ad3 (nodeP a.2 t).length c3) (nodeP a.2 t)::R) rfl zE ⟨ad3,c3,nodeP a.2 t,?_,fun h=>?_,by rw [nodeP,tagP_length];omega,rfl⟩
  ·rw [hl1,hhi hik,decide_eq_decide.2 (show us.length=longP (n - k) (i - k)↔us.length+1=longP (n - k) (i - k)+1 by omega)];rfl
  ·rw [hl1,hhi hik] at h
   rw [h7 zo,hphi _ hik,dropLast_map,lastP_map]
def LeadOk (idx size:Int) (ts:List Txt) (b:List UInt8):Prop:=rightP ts=true∧b.length=32∧0≤idx∧idx<size∧ts.length=longP size.toNat idx.toNat
instance (idx size:Int) (ts:List Txt) (b:List UInt8):Decidable (LeadOk idx size ts b):=by unfold LeadOk;infer_instance
abbrev LeadTo (idx size:Int) (ts:List Txt) (b:List UInt8):List UInt8:=leadP size.toNat idx.toNat (ts.map (·.2)) b
theorem rightP_iff {ts:List Txt}:rightP ts=true↔ts.length≤16∧∀ a∈ts,a.2.length=32:=decide_eq_true_iff
theorem pLead_spec (idx size:Int) (vp vb:Value) (ts:List Txt) (b:List UInt8) (h1:-9223372036854775808≤idx∧idx≤9223372036854775807) (h2:-9223372036854775808≤size∧size≤9223372036854775807) (hv:RdSl R 1 vp ts.length (ts.map (·.1))) (ht:Txts R ts) (hb:RdB R vb b) :
 Ct prog 268 #[.agg #[.int .i64 idx,.int .i64 size,vp],vb] e R (fun v' L' =>
  (LeadOk idx size ts b∧∃ ad c,v'=.tuple #[.slice ad (LeadTo idx size ts b).length c,.bool true]∧L'=OwnB (.slice ad (LeadTo idx size ts b).length c) (LeadTo idx size ts b)::R) ∨
  (¬ LeadOk idx size ts b∧v'=.tuple #[nY,.bool false]∧R=L')):=by
 refine Ct.of_sep (hv.shape zo) ?_;rintro ⟨⟨ad,cap,rfl,h3,h4,h5,h6⟩,_⟩;refine Ct.enter (args:=[_,_]) func268 rfl ntmps268 results268 rfl ?_
 (repeat (refine wA ?_;intros))
 rename_i g;refine O.call rfl rfl (rightP_spec _ e _ ts hv.tail ht.tail) ?_;rintro _ _ ⟨rfl,rfl⟩
 by_cases hr:rightP ts=true
 rotate_left
 ·rw [show rightP ts=false by simpa using hr];refine wB ?_;exact Fin.ret R rfl zE (.inr ⟨fun h=>hr h.1,rfl,rfl⟩)
 rw [hr];obtain ⟨r1,r2⟩:=rightP_iff.1 hr;refine wB ?_;refine O.call rfl rfl (is_spec _ e _ b hb.tail) ?_;rintro _ _ ⟨rfl,rfl⟩
 by_cases h32:b.length=32
 rotate_left
 ·rw [decide_eq_false h32];refine wB ?_;exact Fin.ret R rfl zE (.inr ⟨fun h=>h32 h.2.1,rfl,rfl⟩)
 rw [decide_eq_true h32]
 by_cases h0:0≤idx
 rotate_left
 ·refine wB ?_;exact Fin.ret R rfl zE (.inr ⟨fun h=>h0 h.2.2.1,rfl,rfl⟩)
 by_cases hlt:idx<size
 rotate_left
 ·refine wB ?_;exact Fin.ret R rfl zE (.inr ⟨fun h=>hlt h.2.2.2.1,rfl,rfl⟩)
 obtain ⟨i,rfl⟩:=Int.eq_ofNat_of_zero_le h0;obtain ⟨n,rfl⟩:=Int.eq_ofNat_of_zero_le (show 0≤size by omega);refine wB ?_;refine O.call rfl rfl (lead_spec ts.length _ e ad cap ts i n vb b rfl hv.tail ht.tail (fun a ha=>by have:=r2 a ha;omega) zo zo zo hb.tail zo) ?_;rintro _ _ ⟨ad1,c1,t,rfl,h7,h8,rfl⟩
 by_cases hlg:ts.length=longP n i
 ·rw [decide_eq_true hlg];have h9:=h7 hlg;subst h9;refine wB ?_;exact Fin.ret (OwnB (.slice ad1 (leadP n i (ts.map (·.2)) b).length c1) (leadP n i (ts.map (·.2)) b)::R) rfl zE (.inl ⟨⟨hr,h32,h0,hlt,hlg⟩,ad1,c1,rfl,rfl⟩)
 ·rw [decide_eq_false hlg];refine wB ?_;exact Fin.ret R rfl zE (.inr ⟨fun h=>hlg h.2.2.2.2,rfl,rfl⟩)
theorem same_spec (va vb:Value) (a b:List UInt8) (ha:RdB R va a) (hb:RdB R vb b) :
 Ct prog 99 #[va,vb] e R (fun v' L'=>v'=.bool (decide (a=b))∧R=L'):=by
 refine Ct.enter (args:=[_,_]) func99 rfl ntmps99 results99 rfl ?_
 have eq:Ct prog 188 #[va,vb] e R (fun v' L'=>v'=.bool (decide (a=b))∧R=L'):=by
  refine Ct.enter (args:=[_,_]) func188 rfl ntmps188 results188 rfl ?_
  by_cases h:a=b
  ·rw [decide_eq_true h];subst h;refine wB ?_;exact Fin.ret R rfl Ent.rfl ⟨rfl,rfl⟩
  ·rw [decide_eq_false h];refine wB ?_;exact Fin.ret R rfl Ent.rfl ⟨rfl,rfl⟩
 refine wB ?_;refine O.call rfl rfl eq ?_;rintro _ _ ⟨rfl,rfl⟩;refine wB ?_;exact Fin.ret R rfl Ent.rfl ⟨rfl,rfl⟩
theorem check_spec (idx size:Int) (vp vb vr:Value) (ts:List Txt) (b r:List UInt8) (h1:-9223372036854775808≤idx∧idx≤9223372036854775807) (h2:-9223372036854775808≤size∧size≤9223372036854775807) (hv:RdSl R 1 vp ts.length (ts.map (·.1))) (ht:Txts R ts) (hb:RdB R vb b) (hr:RdB R vr r) :
 Ct prog 214 #[.agg #[.int .i64 idx,.int .i64 size,vp],vb,vr] e R (fun v' L'=>v'=.bool (decide (LeadOk idx size ts b∧LeadTo idx size ts b=r))∧R=L'):=by
 refine Ct.of_sep (hv.shape zo) ?_;rintro ⟨⟨ad,cap,rfl,h3,h4,h5,h6⟩,_⟩;refine Ct.enter (args:=[_,_,_]) func214 rfl ntmps214 results214 rfl ?_
 (repeat (refine wA ?_;intros))
 rename_i g;refine O.call rfl rfl (pLead_spec _ e idx size _ vb ts b h1 h2 hv.tail ht.tail hb.tail) ?_;rintro _ _ (⟨hok,ad1,c1,rfl,rfl⟩|⟨hok,rfl,rfl⟩)
 ·refine wB ?_;refine O.call rfl rfl (same_spec _ e _ _ _ _ (RdSl.own .zero) hr.tail.tail) ?_;rintro _ _ ⟨rfl,rfl⟩
  by_cases h:LeadTo idx size ts b=r
  ·rw [decide_eq_true h,decide_eq_true ⟨hok,h⟩];refine wB ?_;exact Fin.ret R rfl zE ⟨rfl,rfl⟩
  ·rw [decide_eq_false h,decide_eq_false fun q=>h q.2];refine wB ?_;exact Fin.ret R rfl zE ⟨rfl,rfl⟩
 ·rw [decide_eq_false fun q=>hok q.1];refine wB ?_;exact Fin.ret R rfl zE ⟨rfl,rfl⟩
def allH (bs:List (List UInt8)) (n:Nat):Prop:=bs.length=n∧∀ a∈bs,a.length=32
instance (bs:List (List UInt8)) (n:Nat):Decidable (allH bs n):=by unfold allH;infer_instance
theorem hashes1_spec (v:Value) (b:List UInt8) (hv:RdB R v b) :
 Ct prog 311 #[v] e R (fun v' L'=>v'=.bool (!decide (b.length=32))∧R=L'):=by
 refine Ct.of_sep (RdSl.shape hv zo) ?_;rintro ⟨⟨ad,cap,rfl,h3,h4,h5,h6⟩,_⟩;refine Ct.enter (args:=[_]) func311 rfl ntmps311 results311 rfl ?_
 by_cases h:b.length=32
 ·rw [decide_eq_true h];refine wB ?_;exact Fin.ret R rfl Ent.rfl ⟨rfl,rfl⟩
 ·rw [decide_eq_false h];refine wB ?_;exact Fin.ret R rfl Ent.rfl ⟨rfl,rfl⟩
theorem hashes_spec (v:Value) (bs:List (List UInt8)) (n:Nat) (hv:RdTs R v bs) (hl:bs.length≤1000000) (hn:n≤1000000) :
 Ct prog 292 #[v,.int .i64 (n:Int)] e R (fun v' L'=>v'=.bool (decide (allH bs n))∧R=L'):=by
 obtain ⟨ts,rfl,hv,ht⟩:=hv;rw [List.length_map] at hl
 refine Ct.of_sep (hv.shape zo) ?_;rintro ⟨⟨ad,cap,rfl,h3,h4,h5,h6⟩,_⟩;refine Ct.enter (args:=[_,_]) func292 rfl ntmps292 results292 rfl ?_
 by_cases h:ts.length=n
 rotate_left
 ·rw [decide_eq_false (fun q:allH _ _=>h (by simpa using q.1))];refine wB ?_;exact Fin.ret R rfl Ent.rfl ⟨rfl,rfl⟩
 refine wB ?_;refine O.call rfl rfl (containsF_spec R e _ ts 311 [] [] (fun i=>!decide (((ts.map (·.2)).getD i []).length=32)) hv hl (fun i hi=>?_)) ?_
 ·rw [getD_txt hi];exact hashes1_spec R e _ _ (ht _ (List.getElem_mem hi))
 rintro _ _ ⟨rfl,rfl⟩
 by_cases h2:∀ a∈ts.map (·.2),a.length=32
 ·rw [decide_eq_true (show allH _ _ from ⟨by rw [List.length_map];exact h,h2⟩),decide_eq_false (fun ⟨i,q1,q2⟩=>by rw [getD_txt q1] at q2;simp [h2 _ (List.mem_map.2 ⟨_,List.getElem_mem q1,rfl⟩)] at q2)];refine wB ?_;exact Fin.ret R rfl Ent.rfl ⟨rfl,rfl⟩
 ·rw [decide_eq_false (fun q:allH _ _=>h2 q.2),decide_eq_true (by
   refine Classical.byContradiction fun hno=>h2 fun a ha=>?_
   obtain ⟨x,hx,rfl⟩:=List.mem_map.1 ha;obtain ⟨i,hi,rfl⟩:=List.mem_iff_getElem.1 hx;refine Classical.byContradiction fun hl=>hno ⟨i,hi,?_⟩
   rw [getD_txt hi,decide_eq_false hl];rfl)]
  refine wB ?_;exact Fin.ret R rfl Ent.rfl ⟨rfl,rfl⟩
abbrev sigC (s:Sig) (vp vq:Value):List Value:=[.int .i64 (s.idx:Int),vp,vq]
structure RdSig (L:List Res) (vp vq:Value) (s:Sig):Prop where
 parts:RdTs L vp s.parts
 path:RdTs L vq s.path
 small:s.idx<4294967296∧s.parts.length≤1000000∧s.path.length≤1000000
theorem RdSig.ent {L L':List Res} {vp vq:Value} {s:Sig} (h:RdSig L' vp vq s) (f:Ent L L'):RdSig L vp vq s:=⟨h.parts.ent f,h.path.ent f,h.small⟩
theorem RdSig.tail {A:Res} {L:List Res} {vp vq:Value} {s:Sig} (h:RdSig L vp vq s):RdSig (A::L) vp vq s:=h.ent (Ent.drop Ent.rfl)
theorem sRight_spec (vp vq:Value) (s:Sig) (hs:RdSig R vp vq s) :
 Ct prog 257 #[.agg (sigC s vp vq).toArray] e R (fun v' L'=>v'=.bool (decide s.right)∧R=L'):=by
 obtain ⟨h1,h2,h3,h4,h5⟩:=hs;refine Ct.of_sep h1.one fun o1=>?_
 refine Ct.of_sep h2.one fun o2=>?_
 refine Ct.enter (args:=[_]) func257 rfl ntmps257 results257 rfl ?_
 by_cases hi:s.idx<16
 rotate_left
 ·rw [decide_eq_false (fun q:s.right=>hi q.1)]
  (repeat (refine wA ?_;intros))
  exact Fin.ret R rfl zE ⟨rfl,rfl⟩
 (repeat (refine wA ?_;intros))
 refine O.call rfl rfl (hashes_spec _ e vp s.parts 64 h1.tail h4 zo) ?_;rintro _ _ ⟨rfl,rfl⟩
 by_cases ha:allH s.parts 64
 rotate_left
 ·rw [decide_eq_false ha,decide_eq_false (fun q:s.right=>ha ⟨q.2.1,q.2.2.1⟩)];refine wB ?_;exact Fin.ret R rfl zE ⟨rfl,rfl⟩
 rw [decide_eq_true ha];refine wB ?_;refine O.call rfl rfl (hashes_spec _ e vq s.path 4 h2.tail h5 zo) ?_;rintro _ _ ⟨rfl,rfl⟩
 by_cases hb:allH s.path 4
 rotate_left
 ·rw [decide_eq_false hb,decide_eq_false (fun q:s.right=>hb ⟨q.2.2.2.1,q.2.2.2.2⟩)];refine wB ?_;exact Fin.ret R rfl zE ⟨rfl,rfl⟩
 rw [decide_eq_true hb,decide_eq_true (show s.right from ⟨hi,ha.1,ha.2,hb.1,hb.2⟩)];refine wB ?_;exact Fin.ret R rfl zE ⟨rfl,rfl⟩
theorem onceRoot_length (msg:List UInt8) (l:List (List UInt8)):(onceRoot msg l).length=32:=tagP_length _ _
set_option maxHeartbeats 400000 in
theorem sVerify_spec (v u vp vq:Value) (pub msg:List UInt8) (s:Sig) (hv:RdB R v pub) (hu:RdB R u msg) (hm:msg.length≤1000000) (hs:RdSig R vp vq s) :
 Ct prog 187 #[v,u,.agg (sigC s vp vq).toArray] e R (fun v' L'=>v'=.bool (decide (verP pub msg s))∧R=L'):=by
 refine Ct.of_sep hs.parts.one fun o1=>?_
 refine Ct.of_sep hs.path.one fun o2=>?_
 refine Ct.enter (args:=[_,_,_]) func187 rfl ntmps187 results187 rfl ?_
 (repeat (refine wA ?_;intros))
 rename_i g;refine O.call rfl rfl (sRight_spec _ e vp vq s hs.tail) ?_;rintro _ _ ⟨rfl,rfl⟩
 by_cases hr:s.right
 rotate_left
 ·rw [decide_eq_false hr,decide_eq_false (fun q:verP pub msg s=>hr q.1)];refine wB ?_;exact Fin.ret R rfl zE ⟨rfl,rfl⟩
 rw [decide_eq_true hr];obtain ⟨q1,q2,q3,q4,q5⟩:=id hr;obtain ⟨ts,e1,r1,t1⟩:=hs.parts;obtain ⟨us,e2,r2,t2⟩:=hs.path;have hl1:ts.length=64:=by rw [← q2,← e1,List.length_map]
 have hl2:us.length=4:=by rw [← q4,← e2,List.length_map]
 have hz1:=txt_len e1 q3;have hz2:=txt_len e2 q5;refine wB ?_;refine O.call rfl rfl (onceRoot_spec _ e u vp msg ts hu.tail hm r1.tail (Txts.tail t1) hl1 hz1) ?_;rintro _ _ ⟨ad,c,rfl,rfl⟩;rw [e1];have hrl:=onceRoot_length msg s.parts;have hver:verP pub msg s↔climb s.idx (onceRoot msg s.parts) s.path=pub:=⟨fun q=>q.2,fun q=>⟨hr,q⟩⟩
 generalize onceRoot msg s.parts=b0 at *
 refine O.of_sep (r2.tail.tail.shape zo) ?_;rintro ⟨⟨adq,cq,rfl,w3,w4,w5,w6⟩,_⟩;simp only [maxLen] at w4
 refine wB ?_;refine W.loop (ι:=Nat × Nat × List UInt8 × Option Addr × Nat) (fun i=>[(0,v),(7,.slice i.2.2.2.1 i.2.2.1.length i.2.2.2.2),(8,.bool true),(9,.int .i64 (i.2.1:Int)),(25,.slice adq us.length cq),(26,.int .i64 (us.length:Int)),(27,.int .i64 (i.1:Int))]) (fun i=>OwnB (.slice i.2.2.2.1 i.2.2.1.length i.2.2.2.2) i.2.2.1::R) (fun i=>i.1≤us.length∧i.2.1<16∧i.2.2.1.length=32∧climb i.2.1 i.2.2.1 (s.path.drop i.1)=climb s.idx b0 s.path) (fun i=>us.length - i.1) (0,s.idx,b0,ad,c) ⟨Nat.zero_le _,q1,hrl,rfl⟩ zS zE ?_;rintro ⟨i,at',b,ad2,c2⟩ ⟨hi,hat,hbl,hcl⟩;dsimp only at hi hat hbl hcl ⊢
 by_cases hlt:i<us.length
 rotate_left
 ·have hd:s.path.drop i=[]:=List.drop_eq_nil_of_le zo;rw [hd] at hcl
  have hcl:b=climb s.idx b0 s.path:=hcl;refine wB ?_;refine O.call rfl rfl (same_spec _ e _ v b pub (RdSl.own .zero) hv.tail) ?_;rintro _ _ ⟨rfl,rfl⟩;rw [show decide (b=pub)=decide (verP pub msg s) from decide_eq_decide.2 (by rw [hver,← hcl])];refine wB ?_;exact Fin.ret R rfl zE ⟨rfl,rfl⟩
 rcases w6 with w6|⟨gl,ol,rfl⟩
 ·omega
 have hrr:Rd R ⟨gl,ol+i,none⟩ (us[i]'hlt).1:=r2.elem (by rw [List.getElem?_map,List.getElem?_eq_getElem hlt];rfl);have hti:=t2 _ (List.getElem_mem hlt);have hzi:=hz2 _ (List.getElem_mem hlt)
 have hdr:s.path.drop i=(us[i]'hlt).2::s.path.drop (i+1):=by
  rw [← e2];rw [List.drop_eq_getElem_cons (by rw [List.length_map];exact hlt),List.getElem_map]
 generalize us[i]'hlt=y at *
 obtain ⟨yv,yb⟩:=y;dsimp only at hrr hti hzi hdr
 rw [hdr] at hcl
 have hq2:IntKind.i64.wrap (((at':Int)).tdiv 2)=((at' / 2:Nat):Int):=by
  rw [Int.tdiv_eq_ediv_of_nonneg zo,show (at':Int) / 2=((at' / 2:Nat):Int) by omega];exact wrap_i64 zo zo
 have hr2:((at':Int)).tmod 2=((at' % 2:Nat):Int):=by rw [Int.tmod_eq_emod_of_nonneg zo];omega
 refine W.of_sep (RdB.one hti.tail) fun oy=>?_
 by_cases hev:at' % 2=0
 ·have hcl2:climb (at' / 2) (tagP 14 [b,yb]) (s.path.drop (i+1))=climb s.idx b0 s.path:=by rw [← hcl];show _=climb (at' / 2) (if at' % 2=0 then _ else _) _;rw [if_pos hev]
  (repeat' first|(apply O.buildSlice;exact rfl;exact rfl;exact rfl;exact .one rfl rfl (.one (cells_one oy) rfl .nil);exact rfl;exact rfl;intro _)|refine Za ?_|refine Zb ?_|apply Zc|apply Zd|apply Ze|apply Zf|refine Zi ?_|refine ZA ?_|refine ZM ?_|refine Yw ?_|refine Yz ?_|apply YB|apply YC|refine YL ?_|fail)
  rename_i g2
  refine O.call rfl rfl (tagged_spec _ e 14 _ [(.slice ad2 b.length c2,b),(yv,yb)] (RdSl.blk .zero rfl zl) (fun a ha=>by
   simp only [List.mem_cons,List.not_mem_nil,or_false] at ha
   rcases ha with rfl|rfl
   ·exact RdB.tail (RdSl.own .zero)
   ·exact hti.tail.tail) (fun a ha=>by
   simp only [List.mem_cons,List.not_mem_nil,or_false] at ha
   rcases ha with rfl|rfl
   ·dsimp only;omega
   ·dsimp only;omega) (by simp)) ?_
  rintro _ _ ⟨ad3,c3,rfl,rfl⟩;rw [show tagP 14 ([((.slice ad2 b.length c2:Value),b),(yv,yb)].map (·.2))=tagP 14 [b,yb] from rfl];have htl:=tagP_length 14 [b,yb]
  generalize tagP 14 [b,yb]=b3 at *
  refine wB ?_;rw [hq2];exact Fin.round (i+1,at' / 2,b3,ad3,c3) ⟨hlt,by dsimp only;omega,htl,hcl2⟩ zd zS zE
 ·have hcl2:climb (at' / 2) (tagP 14 [yb,b]) (s.path.drop (i+1))=climb s.idx b0 s.path:=by rw [← hcl];show _=climb (at' / 2) (if at' % 2=0 then _ else _) _;rw [if_neg hev]
  (repeat' first|(apply O.buildSlice;exact rfl;exact rfl;exact rfl;exact .one (cells_one oy) rfl (.one rfl rfl .nil);exact rfl;exact rfl;intro _)|refine Za ?_|refine Zb ?_|apply Zc|apply Zd|apply Ze|apply Zf|refine Zi ?_|refine ZA ?_|refine ZN ?_|refine Yw ?_|refine Yz ?_|refine YA ?_|apply YB|apply YC|refine YL ?_|fail)
  rename_i g2
  refine O.call rfl rfl (tagged_spec _ e 14 _ [(yv,yb),(.slice ad2 b.length c2,b)] (RdSl.blk .zero rfl zl) (fun a ha=>by
   simp only [List.mem_cons,List.not_mem_nil,or_false] at ha
   rcases ha with rfl|rfl
   ·exact hti.tail.tail
   ·exact RdB.tail (RdSl.own .zero)) (fun a ha=>by
   simp only [List.mem_cons,List.not_mem_nil,or_false] at ha
   rcases ha with rfl|rfl
   ·dsimp only;omega
   ·dsimp only;omega) (by simp)) ?_
  rintro _ _ ⟨ad3,c3,rfl,rfl⟩;rw [show tagP 14 ([(yv,yb),((.slice ad2 b.length c2:Value),b)].map (·.2))=tagP 14 [yb,b] from rfl];have htl:=tagP_length 14 [yb,b]
  generalize tagP 14 [yb,b]=b3 at *
  refine wB ?_;rw [hq2];exact Fin.round (i+1,at' / 2,b3,ad3,c3) ⟨hlt,by dsimp only;omega,htl,hcl2⟩ zd zS zE
theorem clones_spec (v:Value) (bs:List (List UInt8)) (hv:RdTs R v bs) (hl:bs.length≤1000000) (hb:∀ b∈bs,b.length≤1000000) :
 Ct prog 259 #[v] e R (fun v' L'=>∃ ad c us,v'=.slice ad us.length c∧us.map (·.2)=bs∧L'=OwnT (.slice ad us.length c) us::Items us::R):=by
 obtain ⟨ts,rfl,hv,ht⟩:=hv;rw [List.length_map] at hl
 have hb:∀ a∈ts,a.2.length≤1000000:=fun a ha=>hb _ (List.mem_map.2 ⟨a,ha,rfl⟩)
 refine Ct.of_sep (hv.shape zo) ?_;rintro ⟨⟨adv,cap,rfl,h3,h4,h5,h6⟩,_⟩;simp only [maxLen] at h4
 refine Ct.enter (args:=[_]) func259 rfl ntmps259 results259 rfl ?_;refine wB ?_;refine W.loop (ι:=Nat × List Txt × Option Addr × Nat) (fun i=>[(3,.slice i.2.2.1 i.2.1.length i.2.2.2),(6,.slice adv ts.length cap),(7,.int .i64 (ts.length:Int)),(8,.int .i64 (i.1:Int))]) (fun i=>OwnT (.slice i.2.2.1 i.2.1.length i.2.2.2) i.2.1::Items i.2.1::R) (fun i=>i.1≤ts.length∧i.2.1.map (·.2)=(ts.map (·.2)).take i.1) (fun i=>ts.length - i.1) (0,[],none,0) ⟨Nat.zero_le _,by simp⟩ zS (Ent.trans items_nil (own_nil tTxts 1)) ?_;rintro ⟨i,us,ad,c⟩ ⟨hi,hus⟩;dsimp only at hi hus ⊢
 have hol:us.length=i:=by have:=congrArg List.length hus;rw [List.length_map,List.length_take,List.length_map] at this;omega
 by_cases hlt:i<ts.length
 rotate_left
 ·rw [List.take_of_length_le (by rw [List.length_map];omega)] at hus
  refine wB ?_;exact Fin.ret _ rfl Ent.rfl ⟨ad,c,us,rfl,hus,rfl⟩
 rcases h6 with h6|⟨gl,ol,rfl⟩
 ·omega
 have hr:Rd R ⟨gl,ol+i,none⟩ (ts[i]'hlt).1:=hv.elem (by rw [List.getElem?_map,List.getElem?_eq_getElem hlt];rfl);have hti:=ht _ (List.getElem_mem hlt);have hbi:=hb _ (List.getElem_mem hlt)
 have hnext:∀ w:Value,(us++[(w,(ts[i]'hlt).2)]).map (·.2)=(ts.map (·.2)).take (i+1):=fun w=>by
  rw [List.map_append,hus,List.take_succ_eq_append_getElem (by rw [List.length_map];exact hlt),List.getElem_map]
  rfl
 generalize ts[i]'hlt=y at *
 obtain ⟨yv,b⟩:=y;dsimp only at hr hti hbi hnext
 refine wB ?_;refine O.call rfl rfl (clone_spec _ e yv b hti.tail.tail zo) ?_;rintro _ _ ⟨ad3,c3,rfl,rfl⟩
 (repeat (refine wA ?_;intros))
 refine O.do (Do.append rfl rfl rfl (.succ (.succ .zero)) (RdSl.blk .zero rfl zl) rfl rfl zO zm zo fun ad4 c4 _=>?_)
 refine wB ?_;refine Fin.round (i+1,us++[(.slice ad3 b.length c3,b)],ad4,c4) ⟨hlt,hnext _⟩ zd ?_ ?_
 ·dsimp only;rw [List.length_append,List.length_singleton];exact zS
 ·exact Ent.trans (show Ent _ (Own tTxts 1 (.slice ad4 (us.length+1) c4) (us.length+1) (us.map (·.1)++[.slice ad3 b.length c3])::OwnB (.slice ad3 b.length c3) b::Items us::R) from zE) grow_txts
theorem bits_xor1:∀ n:Nat,n<16→Go.bits .xor .i64 (n:Int) 1=((n ^^^ 1:Nat):Int):=by decide
theorem rd_all {M:List Res} {n k:Nat} {v:Value} {xs:List Value} (h:RdSl M n v k xs):RdSl [All M] n v k xs:=h.ent (Ent.trans (all_out (L:=[])) (by rw [List.append_nil];exact Ent.rfl))
theorem rdts_all {M:List Res} {v:Value} {bs:List (List UInt8)} (h:RdTs M v bs):RdTs [All M] v bs:=h.ent (Ent.trans (all_out (L:=[])) (by rw [List.append_nil];exact Ent.rfl))
theorem wayP_take {l:List (List UInt8)} {i h:Nat} (hh:h<4):(wayP l i).take (h+1)=(wayP l i).take h++[(lev l h).getD ((i / 2 ^ h) ^^^ 1) []]:=by
 rw [List.take_succ_eq_append_getElem (by rw [wayP_length];exact hh)]
 congr 2
 unfold wayP;rw [List.getElem_map,List.getElem_range]
theorem xor_lt {n m:Nat} (h:n<2 ^ m) (hm:0<m) (h16:n<16):n ^^^ 1<2 ^ m:=by
 obtain ⟨k,rfl⟩:∃ k,m=k+1:=⟨m - 1,by omega⟩
 rw [xor1 h16];rw [Nat.pow_succ] at h ⊢
 split<;>omega
set_option maxHeartbeats 1000000 in
theorem sSign_spec (v u:Value) (seed msg:List UInt8) (i:Nat) (hv:RdB R v seed) (hs:seed.length=32) (hi:i<16) (hu:RdB R u msg) (hm:msg.length≤1000000) :
 Ct prog 198 #[v,.int .i64 (i:Int),u] e R (fun v' L'=>∃ (M:Res) (vp vq:Value),v'=.tuple #[.agg (sigC (signP seed i msg) vp vq).toArray,.int .i64 0]∧RdSig [M] vp vq (signP seed i msg)∧L'=M::R):=by
 refine Ct.of_sep (RdSl.shape hv zo) ?_;rintro ⟨⟨adv,cap,rfl,_,_,_,_⟩,_⟩;refine Ct.enterC (args:=[_,_,_]) func198 rfl ntmps198 results198 rfl ?_
 (repeat (refine wA ?_;intros))
 rename_i g6;refine O.call rfl rfl (onceSign_spec _ e _ u seed msg i hv.tail zo hi hu.tail hm) ?_;rintro _ _ ⟨ad1,c1,ts,rfl,hts,rfl⟩
 (repeat (refine wA ?_;intros))
 rename_i g8;refine O.call rfl rfl (signLeaves_spec _ e _ seed hv.tail.tail.tail.tail zo) ?_;rintro _ _ ⟨ad2,c2,ls,rfl,hls,rfl⟩;have hll:=lev_length (keysL_length seed);refine wB ?_;refine W.loop (ι:=Nat × List Txt × (Option Addr × Nat) × List Txt × (Option Addr × Nat) × List Txt) (fun j=>[(6,pt g6),(8,pt g8),(9,.slice j.2.2.1.1 j.2.1.length j.2.2.1.2),(10,.int .i64 ((i / 2 ^ j.1:Nat):Int))])
  (fun j=>Blk g8 [.int .i64 (i:Int),.slice ad1 ts.length c1,.slice j.2.2.2.2.1.1 j.2.2.2.1.length j.2.2.2.2.1.2] 85 (0,0)::OwnT (.slice j.2.2.2.2.1.1 j.2.2.2.1.length j.2.2.2.2.1.2) j.2.2.2.1::OwnT (.slice j.2.2.1.1 j.2.1.length j.2.2.1.2) j.2.1::Items j.2.2.2.2.2::Blk g6 [.int .i64 0,nY,nY] 85 (0,0)::OwnT (.slice ad1 ts.length c1) ts::Items ts::R)
  (fun j=>j.1≤4∧j.2.1.map (·.2)=lev (keysL seed) j.1∧j.2.2.2.1.map (·.2)=(wayP (keysL seed) i).take j.1∧(∀ x∈j.2.1,x∈j.2.2.2.2.2)∧(∀ x∈j.2.2.2.1,x∈j.2.2.2.2.2)) (fun j=>4 - j.1) (0,ls,(ad2,c2),[],(none,0),ls) ⟨by omega,hls,by simp,fun x h=>h,fun x h=>by cases h⟩ (by rw [show i / 2 ^ 0=i by simp];exact zS) (Ent.trans (own_nil tTxts 1) zE) ?_
 clear hls;rintro ⟨h,ks,⟨ad3,c3⟩,ps,⟨ad4,c4⟩,K⟩ ⟨hh,hks,hps,hkK,hpK⟩;dsimp only at hh hks hps hkK hpK ⊢
 have hkl:ks.length=2 ^ (4 - h):=by have:=congrArg List.length hks;rw [List.length_map,hll h hh] at this;exact this
 have hpl:ps.length=h:=by have:=congrArg List.length hps;rw [List.length_map,List.length_take,wayP_length] at this;omega
 by_cases hlt:h<4
 rotate_left
 ·have hhe:h=4:=by omega
  subst hhe;have hk1:ks.length=1:=hkl;rw [List.take_of_length_le (by rw [wayP_length];omega)] at hps
  refine wB ?_;apply Fin.retC
  ·exact zV
  refine ⟨All [OwnT (.slice ad1 ts.length c1) ts,Items ts,OwnT (.slice ad4 ps.length c4) ps,Items K]::R,Ent.trans (show Ent _ (OwnT (.slice ad1 ts.length c1) ts::Items ts::OwnT (.slice ad4 ps.length c4) ps::Items K::R) from zE) (all_in (M:=[_,_,_,_])),All [OwnT (.slice ad1 ts.length c1) ts,Items ts,OwnT (.slice ad4 ps.length c4) ps,Items K],.slice ad1 ts.length c1,.slice ad4 ps.length c4,rfl,⟨rdts_all ⟨ts,hts,RdSl.own .zero,Txts.tail items_rd⟩,rdts_all ⟨ps,hps,RdSl.own (.succ (.succ .zero)),fun x hx=>(items_rd (l:=K) x (hpK x hx)).tail.tail.tail⟩,?_⟩,rfl⟩;refine ⟨by show i<_;omega,?_,?_⟩
  ·rw [show (signP seed i msg).parts.length=64 from partsP_length _ _ _];omega
  ·rw [show (signP seed i msg).path.length=4 from wayP_length _ _];omega
 have hat:i / 2 ^ h<2 ^ (4 - h):=by
  rw [Nat.div_lt_iff_lt_mul (Nat.two_pow_pos h),← Nat.pow_add,show 4 - h+h=4 by omega];exact hi
 have hat16:i / 2 ^ h<16:=Nat.lt_of_le_of_lt (Nat.div_le_self _ _) hi;have hx1:=bits_xor1 (i / 2 ^ h) hat16;have hxl:=xor_lt hat zo hat16;rw [← hkl] at hxl
 have hgt:1<ks.length:=by rw [hkl];exact Nat.one_lt_two_pow zo
 have hk16:ks.length≤16:=by rw [hkl];exact Nat.le_trans (Nat.pow_le_pow_right zo (show 4 - h≤4 by omega)) (by decide)
 have hstep:=wayP_take (l:=keysL seed) (i:=i) hlt;rw [← hks,getD_txt hxl] at hstep
 have hnext:(ps++[ks[(i / 2 ^ h) ^^^ 1]'hxl]).map (·.2)=(wayP (keysL seed) i).take (h+1):=by rw [List.map_append,hps,hstep];rfl
 have hmem:=hkK _ (List.getElem_mem hxl);have hsucc:i / 2 ^ (h+1)=i / 2 ^ h / 2:=by rw [Nat.pow_succ,Nat.div_div_eq_div_mul]
 clear hat hstep
 generalize i / 2 ^ h=a at *
 have hdiv:IntKind.i64.wrap (((a:Nat):Int).tdiv 2)=((i / 2 ^ (h+1):Nat):Int):=by
  rw [hsucc,Int.tdiv_eq_ediv_of_nonneg zo,show ((a:Nat):Int) / 2=((a / 2:Nat):Int) by omega];exact wrap_i64 zo zo
 have hal:a ^^^ 1<17:=by omega
 refine W.of_sep (own_addr (.succ (.succ .zero)) zo) ?_;rintro ⟨p3,rfl⟩;have hrk:Rd (OwnT (.slice (some ⟨p3,0,none⟩) ks.length c3) ks::Items K::Blk g6 [.int .i64 0,nY,nY] 85 (0,0)::OwnT (.slice ad1 ts.length c1) ts::Items ts::R) ⟨p3,0+(a ^^^ 1),none⟩ (ks[a ^^^ 1]'hxl).1:=(RdSl.own .zero).elem (by rw [List.getElem?_map,List.getElem?_eq_getElem hxl];rfl)
 generalize ks[a ^^^ 1]'hxl=y at *
 obtain ⟨yv,yb⟩:=y;dsimp only at hrk hnext
 have hit:RdB (Items K::Blk g6 [.int .i64 0,nY,nY] 85 (0,0)::OwnT (.slice ad1 ts.length c1) ts::Items ts::R) yv yb:=items_rd (l:=K) (yv,yb) hmem;refine W.of_sep (RdB.one hit.tail.tail.tail) fun oy=>?_
 generalize a ^^^ 1=x1 at *
 refine wB ?_;refine W.ent1 (Ent.pull (.succ .zero) Ent.rfl) ?_;refine A.begin (id:=10) [9,10] (Blk g8 [.int .i64 (i:Int),.slice ad1 ts.length c1,.slice ad4 ps.length c4] 85 (0,0)::OwnT (.slice (some ⟨p3,0,none⟩) ks.length c3) ks::Items K::Blk g6 [.int .i64 0,nY,nY] 85 (0,0)::OwnT (.slice ad1 ts.length c1) ts::Items ts::R) mixed ?_
 (refine tF 0 ?_;refine tL 1 ?_;refine tM 2 ?_;refine tM 3 ?_;refine tk 4 _ rfl (Val.bits _ (by simp) rfl rfl) ?_)
 rw [hx1]
 (refine tk 5 _ rfl (Val.indexAddr1 rfl rfl zo) ?_;refine tL 6 ?_)
 refine tO 7 ?_;refine Do.buildSlice (n:=1) (z:=nY) (cs:=[yv]) rfl rfl rfl rfl (.one (cells_one oy) rfl .nil) rfl (fun gb=>⟨fun _=>zE,?_⟩);refine tO 8 ?_;refine Do.append rfl rfl rfl (.succ .zero) (RdSl.blk .zero rfl zl) rfl rfl zO zm zo fun ad5 c5 _=>⟨fun _=>zE,?_⟩
 ((refine tO 9 ?_;refine dV (Val.fieldAddr rfl) ?_);(refine tO 10 ?_;refine zs1 ?_;refine ⟨zN,?_⟩))
 refine A.done zK ?_;refine wB ?_;refine O.call rfl rfl (above_spec _ e _ ks (RdSl.own (.succ (.succ (.succ .zero)))) (fun x hx=>(items_rd (l:=K) x (hkK x hx)).tail.tail.tail.tail) (txt_len hks (lev_sizes keysL_sizes h)) hk16) ?_;rintro _ _ ⟨ad6,c6,ws,rfl,hws,rfl⟩;refine wB ?_;rw [hdiv];refine Fin.round (h+1,ws,(ad6,c6),ps++[(yv,yb)],(ad5,c5),K++ws) ⟨by dsimp only;omega,by dsimp only;rw [hws,hks];rfl,hnext,fun x hx=>List.mem_append_right _ hx,fun x hx=>?_⟩ zd ?_ ?_
 ·rcases List.mem_append.1 hx with h|h
  ·exact List.mem_append_left _ (hpK x h)
  ·rw [List.mem_singleton.1 h];exact List.mem_append_left _ hmem
 ·dsimp only;exact zS
 ·dsimp only;simp only [OwnT,List.length_append,List.length_singleton,List.map_append,List.map_cons,List.map_nil];refine Ent.trans (show Ent _ (Items K::Items ws::Blk g8 [.int .i64 (i:Int),.slice ad1 ts.length c1,.slice ad5 (ps.length+1) c5] 85 (0,0)::Own tTxts 1 (.slice ad5 (ps.length+1) c5) (ps.length+1) (ps.map (·.1)++[yv])::OwnT (.slice ad6 ws.length c6) ws::Blk g6 [.int .i64 0,nY,nY] 85 (0,0)::OwnT (.slice ad1 ts.length c1) ts::Items ts::R) from zE) (Ent.trans items_append zE)
def Sig.fits (s:Sig):Prop:=(∀ a∈s.parts,a.length≤1000000)∧∀ a∈s.path,a.length≤1000000
theorem Sig.right.fits {s:Sig} (h:s.right):s.fits:=⟨fun a ha=>by have:=h.2.2.1 a ha;omega,fun a ha=>by have:=h.2.2.2.2 a ha;omega⟩
theorem sCopy_spec (vp vq:Value) (s:Sig) (hs:RdSig R vp vq s) (hr:s.fits) :
 Ct prog 190 #[.agg (sigC s vp vq).toArray] e R (fun v' L'=>∃ (M:Res) (up uq:Value),v'=.agg (sigC s up uq).toArray∧RdSig [M] up uq s∧L'=M::R):=by
 obtain ⟨h1,h2,h3⟩:=hs;obtain ⟨q3,q5⟩:=hr;refine Ct.of_sep h1.one fun o1=>?_
 refine Ct.of_sep h2.one fun o2=>?_
 refine Ct.enterC (args:=[_]) func190 rfl ntmps190 results190 rfl ?_
 (repeat (refine wA ?_;intros))
 rename_i g1 g2;refine A.begin (id:=1) [9] (Blk g1 (sigC s vp vq) 85 (0,0)::R) mixed ?_
 (refine tF 0 ?_;refine tL 1 ?_;refine tF 2 ?_;refine tL 3 ?_;refine tF 5 ?_;refine tL 6 ?_)
 refine tO 4 ?_;refine Do.call rfl rfl (clones_spec _ e vp s.parts h1.tail.tail zo q3) ?_;rintro _ _ ⟨ad1,c1,us,rfl,hus,rfl⟩;refine ⟨fun _=>zE,?_⟩;refine tO 7 ?_;refine Do.call rfl rfl (clones_spec _ e vq s.path h2.tail.tail.tail.tail zo q5) ?_;rintro _ _ ⟨ad2,c2,ws,rfl,hws,rfl⟩;refine ⟨fun _=>zE,?_⟩
 (refine tk 8 _ rfl (Val.build rfl zF) ?_;(refine tO 9 ?_;refine zg ?_;refine ⟨zN,?_⟩))
 refine A.done zK ?_;refine wB ?_;apply Fin.retC
 ·exact zV
 refine ⟨All [OwnT (.slice ad1 us.length c1) us,Items us,OwnT (.slice ad2 ws.length c2) ws,Items ws]::R,Ent.trans (show Ent _ (OwnT (.slice ad1 us.length c1) us::Items us::OwnT (.slice ad2 ws.length c2) ws::Items ws::R) from zE) (all_in (M:=[_,_,_,_])),All [OwnT (.slice ad1 us.length c1) us,Items us,OwnT (.slice ad2 ws.length c2) ws,Items ws],.slice ad1 us.length c1,.slice ad2 ws.length c2,rfl,⟨rdts_all ⟨us,hus,RdSl.own .zero,Txts.tail items_rd⟩,rdts_all ⟨ws,hws,RdSl.own (.succ (.succ .zero)),Txts.tail (Txts.tail (Txts.tail items_rd))⟩,h3⟩,rfl⟩
theorem flat_len {l:List (List UInt8)} (h:∀ a∈l,a.length=32):l.flatten.length=32*l.length:=by
 induction l with
 | nil=>rfl
 | cons a l ih =>
  rw [List.flatten_cons,List.length_append,ih fun b hb=>h b (List.mem_cons_of_mem _ hb),h a (List.mem_cons_self ..),List.length_cons]
  omega
theorem some_spec (g:Nat) (bs:List (List UInt8)) (r:List UInt8) (h32:∀ a∈bs,a.length=32) (hl:bs.length≤1000) (hr:r.length≤1000000) :
 Ct prog 299 #[pt g,.int .i64 (bs.length:Int)] e (Reader g ⟨bs.flatten++r,false⟩::R) (fun v' L'=>∃ ad c us,v'=.slice ad us.length c∧us.map (·.2)=bs∧L'=Reader g ⟨r,false⟩::OwnT (.slice ad us.length c) us::Items us::R):=by
 refine Ct.enter (args:=[_,_]) func299 rfl ntmps299 results299 rfl ?_;refine wB ?_;refine W.loop (ι:=Nat × List Txt × Option Addr × Nat) (fun i=>[(0,pt g),(5,.slice i.2.2.1 i.2.1.length i.2.2.2),(6,.int .i64 (bs.length:Int)),(7,.int .i64 (i.1:Int))]) (fun i=>Reader g ⟨(bs.drop i.1).flatten++r,false⟩::OwnT (.slice i.2.2.1 i.2.1.length i.2.2.2) i.2.1::Items i.2.1::R) (fun i=>i.1≤bs.length∧i.2.1.map (·.2)=bs.take i.1) (fun i=>bs.length - i.1) (0,[],none,0) ⟨Nat.zero_le _,by simp⟩ zS (Ent.trans items_nil (Ent.trans (own_nil tTxts 1) zE)) ?_;rintro ⟨i,us,ad,c⟩ ⟨hi,hus⟩;dsimp only at hi hus ⊢
 have hol:us.length=i:=by have:=congrArg List.length hus;rw [List.length_map,List.length_take] at this;omega
 by_cases hlt:i<bs.length
 rotate_left
 ·have hie:i=bs.length:=by omega
  subst hie;rw [List.take_of_length_le (Nat.le_refl _)] at hus
  rw [show (bs.drop bs.length).flatten++r=r by simp];refine wB ?_;exact Fin.ret _ rfl Ent.rfl ⟨ad,c,us,rfl,hus,rfl⟩
 have hdr:bs.drop i=bs[i]'hlt::bs.drop (i+1):=List.drop_eq_getElem_cons hlt;have hz:=h32 _ (List.getElem_mem hlt)
 have hnext:∀ w:Value,(us++[(w,bs[i]'hlt)]).map (·.2)=bs.take (i+1):=fun w=>by
  rw [List.map_append,hus,List.take_succ_eq_append_getElem hlt];rfl
 have hfl:((bs.drop (i+1)).flatten++r).length≤1100000:=by
  rw [List.length_append,flat_len (fun a ha=>h32 a (List.mem_of_mem_drop ha)),List.length_drop];omega
 rw [hdr,List.flatten_cons,List.append_assoc]
 generalize bs[i]'hlt=b at *
 generalize hrest:(bs.drop (i+1)).flatten++r=rest at *
 refine wB ?_;refine O.call rfl rfl (rrawB _ e g 32 b rest hz (by rw [List.length_append];omega)) ?_;rintro _ _ ⟨ad3,c3,rfl,rfl⟩
 (repeat (refine wA ?_;intros))
 refine O.do (Do.append rfl rfl rfl (.succ (.succ (.succ .zero))) (RdSl.blk .zero rfl zl) rfl rfl zO zm zo fun ad4 c4 _=>?_)
 refine wB ?_;refine Fin.round (i+1,us++[(.slice ad3 b.length c3,b)],ad4,c4) ⟨hlt,hnext _⟩ zd ?_ ?_
 ·dsimp only;rw [List.length_append,List.length_singleton];exact zS
 ·dsimp only;rw [hrest];exact Ent.trans (show Ent _ (Own tTxts 1 (.slice ad4 (us.length+1) c4) (us.length+1) (us.map (·.1)++[.slice ad3 b.length c3])::OwnB (.slice ad3 b.length c3) b::Items us::Reader g ⟨rest,false⟩::R) from zE) (Ent.trans grow_txts zE)
def encSig (s:Sig):List UInt8:=be s.idx 4++(s.parts.flatten++s.path.flatten)
theorem encSig_length {s:Sig} (h:s.right):(encSig s).length=2180:=by
 obtain ⟨h1,h2,h3,h4,h5⟩:=h;unfold encSig;rw [List.length_append,List.length_append,be_length,flat_len h3,flat_len h5,h2,h4]
theorem sDecode_spec (v:Value) (s:Sig) (hv:RdB R v (encSig s)) (hr:s.right) :
 Ct prog 267 #[v] e R (fun v' L'=>∃ (M:Res) (vp vq:Value),v'=.tuple #[.agg (sigC s vp vq).toArray,.int .i64 0]∧RdSig [M] vp vq s∧L'=M::R):=by
 have hel:=encSig_length hr;obtain ⟨q1,q2,q3,q4,q5⟩:=id hr;refine Ct.enterC (args:=[_]) func267 rfl ntmps267 results267 rfl ?_
 (repeat (refine wA ?_;intros))
 rename_i g2;refine O.call rfl rfl (read_spec _ e v (encSig s) hv.tail zo) ?_;rintro _ _ ⟨gr,rfl,rfl⟩;unfold encSig;have hfp:=flat_len q3;have hfq:=flat_len q5;refine wB ?_;refine O.call rfl rfl (rnumB _ e gr s.idx (s.parts.flatten++s.path.flatten) zo) ?_;rintro _ _ ⟨rfl,rfl⟩;have h1:=some_spec (Blk g2 [.int .i64 0,nY,nY] 85 (0,0)::R) e gr s.parts s.path.flatten q3 zo zo;rw [q2] at h1
 refine wB ?_;refine O.call rfl rfl h1 ?_;rintro _ _ ⟨ad1,c1,us,rfl,hus,rfl⟩;have h2:=some_spec (OwnT (.slice ad1 us.length c1) us::Items us::Blk g2 [.int .i64 0,nY,nY] 85 (0,0)::R) e gr s.path [] q5 zo (by simp);rw [q4,List.append_nil] at h2
 (repeat (refine wA ?_;intros))
 refine O.call rfl rfl h2 ?_;rintro _ _ ⟨ad2,c2,ws,rfl,hws,rfl⟩
 (repeat (refine wA ?_;intros))
 rename_i g5;refine O.call rfl rfl (Ct.at (.succ .zero) (rendB _ e gr [])) ?_;rintro _ _ ⟨rfl,rfl⟩;have hsig:∀ L:List Res,RdSig (OwnT (.slice ad2 ws.length c2) ws::Items ws::OwnT (.slice ad1 us.length c1) us::Items us::L) (.slice ad1 us.length c1) (.slice ad2 ws.length c2) s:=fun L=>⟨⟨us,hus,RdSl.own (.succ (.succ .zero)),Txts.tail (Txts.tail (Txts.tail items_rd))⟩,⟨ws,hws,RdSl.own .zero,Txts.tail items_rd⟩,⟨by omega,by omega,by omega⟩⟩
 refine wB ?_;refine O.call rfl rfl (sRight_spec _ e _ _ s (hsig _).tail.tail) ?_;rintro _ _ ⟨rfl,rfl⟩;rw [decide_eq_true hr];refine wB ?_;apply Fin.retC
 ·exact zV
 refine ⟨All [OwnT (.slice ad2 ws.length c2) ws,Items ws,OwnT (.slice ad1 us.length c1) us,Items us]::R,Ent.trans (show Ent _ (OwnT (.slice ad2 ws.length c2) ws::Items ws::OwnT (.slice ad1 us.length c1) us::Items us::R) from zE) (all_in (M:=[_,_,_,_])),All [OwnT (.slice ad2 ws.length c2) ws,Items ws,OwnT (.slice ad1 us.length c1) us,Items us],.slice ad1 us.length c1,.slice ad2 ws.length c2,rfl,?_,rfl⟩;exact (hsig []).ent (Ent.trans (all_out (L:=[])) (by rw [List.append_nil];exact Ent.rfl))
end Go.Proofs
