/- Part 4 of a proof of this: TopTwoMonitors returns true for any arguments; nothing of the old memory is turned. No condition. -/
import Derived.Test.YtccekbdjebohcaaGreatM03
set_option linter.unusedVariables false
set_option linter.unusedSimpArgs false
namespace Go.Proofs
attribute [local irreducible] Bs.cE Bs.Do Bs.O Bs.W Bs.Fin Bs.A Bs.Ct Bs.cF Bs.Rd Bs.Sat Bs.cM Bs.Ob Bs.dJ Bs.View Bs.cC Bs.Ex Bs.dI Bs.Pu Bs.eZ Bs.dK Bs.eh
open Go.Bs
open Tryz
variable (R:List cK) (e:World)
def xh (g:Nat) (s:eY) (ad:Option Addr) (c:Nat):cK:=dI [cM g [.slice ad s.left.length c,.bool s.bad] 289 (0,0),View 1 (.slice ad s.left.length c) s.left.length (s.left.map u8)]
def Reader (g:Nat) (s:eY):cK:=Ex fun ad=>Ex fun c=>xh g s ad c
theorem mz {g:Nat} {s:eY} {R:List cK} {P:Program} {f:FuncId} {args:Array Value} {e:World} {Post:Value→List cK→Prop}
 (h:∀ ad c,Ct P f args e (cM g [.slice ad s.left.length c,.bool s.bad] 289 (0,0)::View 1 (.slice ad s.left.length c) s.left.length (s.left.map u8)::R) Post):Ct P f args e (Reader g s::R) Post :=
 Ct.ex .zero fun ad=>Ct.ex .zero fun c=>(h ad c).cN cW
theorem iK {g c:Nat} {ad:Option Addr} {s:eY} {R:List cK}:cC (cM g [.slice ad s.left.length c,.bool s.bad] 289 (0,0)::View 1 (.slice ad s.left.length c) s.left.length (s.left.map u8)::R) (Reader g s::R) :=
 cn (dN (M:=[_,_])) (cn (fI (f:=fun c=>xh g s ad c) c) (fI (f:=fun ad=>Ex fun c=>xh g s ad c) ad))
theorem xj {n:Nat} {L:List cK}:cC L (View n nY 0 []::L):=(di 0 n).trans wQ
theorem jz (v:Value) (l:List UInt8) (h:da R v l) (hk:l.length≤140737488355328) :
 Ct prog 127 #[v] e R (fun v' L'=>∃ g,v'=pt g∧L'=Reader g ⟨l,false⟩::R):=by
 refine a8 (args:=[_]) func127 rfl ntmps127 results127 rfl ?_;refine wB ?_;refine aZ rfl rfl (dy R e v l h hk) ?_;rintro _ _ ⟨ad,c,rfl,rfl⟩
 (repeat (refine wA ?_;intros))
 exact aY _ rfl ((bh wQ).trans (iK (s:=⟨l,false⟩))) ⟨_,rfl,rfl⟩
theorem Dz (g:Nat) (s:eY) (n:Int) (hf:s.fits n=true) :
 Ct prog 211 #[pt g,.int .i64 n] e (Reader g s::R) (fun v' L'=>∃ ad c,v'=.slice ad n.toNat c ∧
  L'=cM g [.slice (cutAt ad c n.toNat 1) (s.left.length - n.toNat) (c - n.toNat),.bool false] 289 (0,0)::View 1 (.slice ad s.left.length c) s.left.length (s.left.map u8)::R):=by
 obtain ⟨l,bad⟩:=s;simp only [eY.fits,Bool.and_eq_true,Bool.not_eq_true',decide_eq_true_eq] at hf
 obtain ⟨⟨rfl,h0⟩,h1⟩:=hf;refine mz fun ad c=>?_
 refine a7 (cF.shape (cF.view (.succ .zero)) zo) ?_;rintro ⟨⟨lE,c',hv,h3,h4,h5,h6⟩,_⟩
 cases hv
 dsimp only at h1 h3 ⊢
 refine a8 (args:=[_,_]) func211 rfl ntmps211 results211 rfl ?_;refine wB ?_;exact aY _ rfl aX ⟨_,_,rfl,rfl⟩
theorem HC (g:Nat) (s:eY) (n:Int) (hf:s.fits n=false) :
 Ct prog 211 #[pt g,.int .i64 n] e (Reader g s::R) (fun v' L'=>v'=nY∧L'=Reader g ⟨[],true⟩::R):=by
 obtain ⟨l,bad⟩:=s;refine mz fun ad c=>?_
 dsimp only;refine a8 (args:=[_,_]) func211 rfl ntmps211 results211 rfl ?_
 cases bad with
 | true =>
  refine wB ?_;exact aY _ rfl ((bh (cC.drop xj)).trans (iK (s:=⟨[],true⟩))) ⟨rfl,rfl⟩
 | false =>
  simp only [eY.fits,Bool.not_false,Bool.true_and,Bool.and_eq_false_iff,decide_eq_false_iff_not] at hf
  by_cases h0:n<0
  ·refine wB ?_;exact aY _ rfl ((bh (cC.drop xj)).trans (iK (s:=⟨[],true⟩))) ⟨rfl,rfl⟩
  ·refine wB ?_;exact aY _ rfl ((bh (cC.drop xj)).trans (iK (s:=⟨[],true⟩))) ⟨rfl,rfl⟩
theorem Au {g c:Nat} {ad:Option Addr} {l:List UInt8} {k:Nat} {R:List cK} (h:k≤l.length) :
 cC (cM g [.slice (cutAt ad c k 1) (l.length - k) (c - k),.bool false] 289 (0,0)::View 1 (.slice ad l.length c) l.length (l.map u8)::R) (Reader g ⟨l.drop k,false⟩::R):=by
 refine (bh (Fj h)).trans ?_;have e1:(l.drop k).length=l.length - k:=by simp
 have e2:(l.map u8).drop (k*1)=(l.drop k).map u8:=by simp
 rw [e2,← e1];exact iK (s:=⟨l.drop k,false⟩)
theorem Nt (m c:Nat) (hc:c<256):Go.bits .or .u32 (IntKind.u32.wrap ((m:Int)*2 ^ (min (8:Int).toNat 32))) (IntKind.u32.wrap (c:Int))=(((m*256) % 4294967296+c:Nat):Int):=by
 rw [wrap_u32 (n:=(c:Int)) zo zo]
 have e0:IntKind.u32.wrap ((m:Int)*2 ^ (min (8:Int).toNat 32))=(((m*256) % 4294967296:Nat):Int):=by
  have:(2:Int) ^ (min (8:Int).toNat 32)=256:=by decide
  rw [this];unfold IntKind.wrap
  simp [IntKind.bits,IntKind.signed]
 rw [e0];have e1:m*256 % 4294967296=2 ^ 8*(m % 16777216):=by omega
 unfold Go.bits;simp only [IntKind.bits]
 have e2:(BitVec.ofInt 32 ((m*256 % 4294967296:Nat):Int) ||| BitVec.ofInt 32 (c:Int)).toNat=m*256 % 4294967296+c:=by
  rw [BitVec.toNat_or,BitVec.ofInt_natCast,BitVec.ofInt_natCast,BitVec.toNat_ofNat,BitVec.toNat_ofNat];rw [Nat.mod_eq_of_lt (show m*256 % 4294967296<2 ^ 32 by omega),Nat.mod_eq_of_lt (show c<2 ^ 32 by omega),e1];exact (Nat.two_pow_add_eq_or_of_lt zo _).symm
 exact (congrArg (fun x:Nat=>IntKind.u32.wrap (x:Int)) e2).trans (wrap_u32 zo zo)
theorem oo (g:Nat) (s:eY) (n:Nat) :
 Ct prog 210 #[pt g,.int .i64 n] e (Reader g s::R) (fun v' L'=>v'=.int .u32 (s.num n)∧L'=Reader g (s.next n)::R):=by
 refine a8 (args:=[_,_]) func210 rfl ntmps210 results210 rfl ?_;refine wB ?_
 cases hf:s.fits n with
 | false =>
  refine aZ rfl rfl (HC R e g s n hf) ?_;rintro _ _ ⟨rfl,rfl⟩;refine wB ?_;refine br (ι:=Unit) (fun _=>[(5,.int .u32 0),(11,.int .i64 0),(12,.int .i64 0)]) (fun _=>Reader g ⟨[],true⟩::R) (fun _=>True) (fun _=>0) () trivial (cD rfl (cD rfl (cD rfl dc))) aX ?_;intro _ _;refine wB ?_;refine aY _ rfl aX ⟨?_,?_⟩
  ·simp [z9,eY.num,eY.take,hf,numOf]
  ·simp [eY.next,hf]
 | true =>
  refine aZ rfl rfl (Dz R e g s n hf) ?_;rintro _ _ ⟨ad,c,rfl,rfl⟩
  have hn:n≤s.left.length:=by
   simp only [eY.fits,Bool.and_eq_true,decide_eq_true_eq] at hf
   omega
  obtain ⟨l,bad⟩:=s;dsimp only at hn
  simp only [Int.toNat_natCast]
  generalize hB:View 1 (.slice ad l.length c) l.length (l.map u8)=B
  have kh:∀ A,da (A::B::R) (.slice ad n c) (l.take n):=fun A=>by
   subst hB;exact da.qV (cF.view (.succ .zero)) hn
  have hlen:(l.take n).length=n:=by simp;omega
  refine wB ?_;refine bG (cF.shape (kh _) zo) ?_;rintro ⟨⟨lE,c',hv,h3,h4,h5,h6⟩,_⟩;rw [hlen] at hv h3 h6
  cases hv
  simp only [maxLen] at h4
  refine br (ι:=Nat) (fun i=>[(5,.int .u32 (numOf (l.take i))),(10,.slice ad n c),(11,.int .i64 n),(12,.int .i64 i)])
   (fun _=>cM g [.slice (cutAt ad c n 1) (l.length - n) (c - n),.bool false] 289 (0,0)::B::R) (fun i=>i≤n) (fun i=>n - i) 0 (aG _) (cD rfl (cD rfl (cD rfl (cD rfl dc)))) aX ?_
  intro i hi
  by_cases cQ:i<n
  ·have hc:=(l[i]'zo).toNat_lt;rcases h6 with h6|⟨gb,ob,rfl⟩
   ·omega
   have sx:=da.elem (kh (cM g [.slice (cutAt (some ⟨gb,ob,none⟩) c n 1) (l.length - n) (c - n),.bool false] 289 (0,0))) (j:=i) (b:=l[i]'zo) (by simp [cQ]);refine wB ?_
   have e5:numOf (l.take (i+1))=(numOf (l.take i)*256) % 4294967296+(l[i]'zo).toNat:=by
    rw [aA zo,wV]
   refine bi (i+1) ?_ ?_ (cD ?_ (cD rfl (cD rfl (cD rfl dc)))) aX
   ·exact cQ
   ·show n - (i+1)<n - i
    omega
   ·rw [e5];rw [← Nt (numOf (l.take i)) _ hc,wrap_u32 (n:=((l[i]'zo).toNat:Int)) zo zo]
    rfl
  ·have fS:i=n:=by omega
   subst fS;refine wB ?_;subst hB;refine aY _ rfl (Au hn) ⟨?_,?_⟩
   ·simp [z9,eY.num,eY.take,hf]
   ·simp [eY.next,hf]
theorem qv (g:Nat) (s:eY) :
 Ct prog 130 #[pt g] e (Reader g s::R) (fun v' L'=>v'=.int .u32 (s.num 4)∧L'=Reader g (s.next 4)::R):=by
 refine a8 (args:=[_]) func130 rfl ntmps130 results130 rfl ?_;refine wB ?_;refine aZ rfl rfl (oo R e g s 4) ?_;rintro _ _ ⟨rfl,rfl⟩;refine wB ?_;exact aY _ rfl aX ⟨rfl,rfl⟩
theorem IR (l:List UInt8) (h:l.length≤1):numOf l<256:=by
 match l,h with
 | [],_=>simp [numOf]
 | [c],_=>have:=c.toNat_lt;simp [numOf];omega
theorem xk (g:Nat) (s:eY) :
 Ct prog 128 #[pt g] e (Reader g s::R) (fun v' L'=>v'=.int .u8 (s.num 1)∧L'=Reader g (s.next 1)::R):=by
 refine a8 (args:=[_]) func128 rfl ntmps128 results128 rfl ?_
 have h1:s.num ((1:Nat):Int)<256:=IR _ (by
  unfold eY.take
  split
  ·simp;omega
  ·exact aG _)
 refine wB ?_;refine aZ rfl rfl (oo R e g s 1) ?_;rintro _ _ ⟨rfl,rfl⟩;refine wB ?_;refine aY _ rfl aX ⟨?_,rfl⟩
 rfl
theorem nI (g:Nat) (s:eY) (n:Int) (hk:s.left.length≤140737488355328) :
 Ct prog 131 #[pt g,.int .i64 n] e (Reader g s::R) (fun v' L'=>∃ ad c,v'=.slice ad (s.take n).length c∧L'=cR (.slice ad (s.take n).length c) (s.take n)::Reader g (s.next n)::R):=by
 refine a8 (args:=[_,_]) func131 rfl ntmps131 results131 rfl ?_;refine wB ?_
 cases hf:s.fits n with
 | false =>
  refine aZ rfl rfl (HC R e g s n hf) ?_;rintro _ _ ⟨rfl,rfl⟩;refine wB ?_;refine aZ rfl rfl (dy _ e _ [] (da.nil _) (aG _)) ?_;rintro _ _ ⟨ad,c,rfl,rfl⟩;refine wB ?_;have e1:s.take n=[]:=by simp [eY.take,hf]
  have e2:s.next n=⟨[],true⟩:=by simp [eY.next,hf]
  exact aY _ rfl aX ⟨ad,c,by rw [e1];rfl,by rw [e1,e2]⟩
 | true =>
  refine aZ rfl rfl (Dz R e g s n hf) ?_;rintro _ _ ⟨ad,c,rfl,rfl⟩
  have hn:n.toNat≤s.left.length:=by
   simp only [eY.fits,Bool.and_eq_true,decide_eq_true_eq] at hf
   omega
  have e1:s.take n=s.left.take n.toNat:=by simp [eY.take,hf]
  have e2:s.next n=⟨s.left.drop n.toNat,false⟩:=by simp [eY.next,hf]
  refine wB ?_;refine aZ rfl rfl (dy _ e _ (s.left.take n.toNat) (da.qV (cF.view (.succ .zero)) hn) (by simp;omega)) ?_;rintro _ _ ⟨lE,c',rfl,rfl⟩;refine wB ?_;exact aY _ rfl (bh (Au hn)) ⟨lE,c',by rw [e1];rfl,by rw [e1,e2]⟩
theorem pM (g:Nat) (s:eY) (iC:Int) (hk:s.left.length≤140737488355328) :
 Ct prog 129 #[pt g,.int .i64 iC] e (Reader g s::R) (fun v' L'=>∃ ad c,v'=.slice ad (s.bytes iC).length c∧L'=cR (.slice ad (s.bytes iC).length c) (s.bytes iC)::Reader g (s.sE iC)::R):=by
 refine a8 (args:=[_,_]) func129 rfl ntmps129 results129 rfl ?_;have h2:=sD (s.take 2);have h3:=s.jc 2;refine wB ?_;refine aZ rfl rfl (oo R e g s 2) ?_;rintro _ _ ⟨rfl,rfl⟩;have e1:IntKind.i64.wrap ((s.num 2:Nat):Int)=s.num 2:=wrap_i64 zo (by unfold eY.num;omega);have e2:((2:Nat):Int)=2:=rfl;simp only [e2];have h4:s.num 2<4294967296:=h2
 by_cases hm:(s.num 2:Int) > max iC 0
 ·have hl:s.len iC = -1:=by simp only [eY.len,aH hm]
  have hm':(if (0:Int) > iC then 0 else iC)<(s.num 2:Int):=by split<;>omega
  refine wB ?_;refine aZ rfl rfl (nI R e g _ (-1) zo) ?_;rintro _ _ ⟨ad,c,rfl,rfl⟩;refine wB ?_;exact aY _ rfl aX ⟨ad,c,by simp only [eY.bytes,hl];rfl,by simp only [eY.bytes,eY.sE,hl]⟩
 ·have hl:s.len iC=s.num 2:=by simp only [eY.len,aB hm]
  have hm':¬ (if (0:Int) > iC then 0 else iC)<(s.num 2:Int):=by split<;>omega
  refine wB ?_;refine aZ rfl rfl (nI R e g _ (s.num 2) zo) ?_;rintro _ _ ⟨ad,c,rfl,rfl⟩;refine wB ?_;exact aY _ rfl aX ⟨ad,c,by simp only [eY.bytes,hl];rfl,by simp only [eY.bytes,eY.sE,hl]⟩
theorem uv (g:Nat) (s:eY) :
 Ct prog 145 #[pt g] e (Reader g s::R) (fun v' L'=>v'=.bool s.bad∧L'=Reader g s::R):=by
 refine mz fun ad c=>?_
 refine a8 (args:=[_]) func145 rfl ntmps145 results145 rfl ?_;refine wB ?_;exact aY _ rfl iK ⟨rfl,rfl⟩
theorem rF (g:Nat) (s:eY) :
 Ct prog 140 #[pt g] e (Reader g s::R) (fun v' L'=>v'=.int .i64 s.left.length∧L'=Reader g s::R):=by
 refine mz fun ad c=>?_
 refine a8 (args:=[_]) func140 rfl ntmps140 results140 rfl ?_;refine wB ?_;exact aY _ rfl iK ⟨rfl,rfl⟩
theorem Av (g:Nat) (s:eY) :
 Ct prog 132 #[pt g] e (Reader g s::R) (fun v' L'=>v'=.bool (!s.bad && decide (s.left=[]))∧L'=Reader g s::R):=by
 obtain ⟨l,bad⟩:=s;refine mz fun ad c=>?_
 refine a8 (args:=[_]) func132 rfl ntmps132 results132 rfl ?_;dsimp only
 cases bad with
 | true =>
  refine wB ?_;exact aY _ rfl (iK (s:=⟨l,true⟩)) ⟨rfl,rfl⟩
 | false =>
  cases l with
  | nil =>
   have h0:(([]:List UInt8).length:Int)=0:=rfl;refine wB ?_;exact aY _ rfl (iK (s:=⟨_,false⟩)) ⟨rfl,rfl⟩
  | cons x l =>
   have h0:¬ (((x::l).length:Int)=0):=by simp;omega
   refine wB ?_;exact aY _ rfl (iK (s:=⟨_,false⟩)) ⟨rfl,rfl⟩
theorem jO (n j b:Nat) (hj:j≤b):IntKind.u8.wrap ((n:Int).fdiv (2 ^ (min j b)))=((UInt8.ofNat (n / 2 ^ j)).toNat:Int):=by
 rw [Nat.min_eq_left hj,Int.fdiv_eq_ediv_of_nonneg _ (by exact Int.le_of_lt (Int.pow_pos zo))];have h2:(2:Int) ^ j=((2 ^ j:Nat):Int):=by simp
 rw [h2,← Int.natCast_ediv];unfold IntKind.wrap
 simp [IntKind.bits,IntKind.signed]
theorem xl (n:Nat):IntKind.u8.wrap (n:Int)=((UInt8.ofNat n).toNat:Int):=by
 unfold IntKind.wrap
 simp [IntKind.bits,IntKind.signed]
theorem u0 (ad:Option Addr) (c:Nat) (b:List UInt8) (n:Nat) (hn:n<4294967296) (hl:b.length+4≤140737488355328) :
 Ct prog 146 #[.slice ad b.length c,.int .u32 n] e (cR (.slice ad b.length c) b::R) (fun v' L'=>∃ ad c,v'=.slice ad (b++be n 4).length c∧L'=cR (.slice ad (b++be n 4).length c) (b++be n 4)::R):=by
 refine a8 (args:=[_,_]) func146 rfl ntmps146 results146 rfl ?_
 (repeat (refine wA ?_;intros))
 have e1:[Value.int .u8 (IntKind.u8.wrap ((n:Int).fdiv (2 ^ min (24:Int).toNat IntKind.u32.bits))),.int .u8 (IntKind.u8.wrap ((n:Int).fdiv (2 ^ min (16:Int).toNat IntKind.u32.bits))),.int .u8 (IntKind.u8.wrap ((n:Int).fdiv (2 ^ min (8:Int).toNat IntKind.u32.bits))),.int .u8 (IntKind.u8.wrap (n:Int))]=(be n 4).map u8:=by
  have a1:=jO n 24 32 zo;have a2:=jO n 16 32 zo;have a3:=jO n 8 32 zo;have b:=xl n
  show [Value.int .u8 (IntKind.u8.wrap ((n:Int).fdiv (2 ^ min 24 32))),.int .u8 (IntKind.u8.wrap ((n:Int).fdiv (2 ^ min 16 32))),.int .u8 (IntKind.u8.wrap ((n:Int).fdiv (2 ^ min 8 32))),.int .u8 (IntKind.u8.wrap (n:Int))]=_
  rw [a1,a2,a3,b]
  simp [be,u8]
 rw [e1];refine bD (bm rfl rfl rfl (.succ .zero) (bu .zero (by rw [ab,cY]) zl) rfl rfl jS zm zo fun dS c2 _=>?_)
 refine wB ?_;have e2:(b++be n 4).length=b.length+4:=by rw [aa,cY]
 refine aY (cR (.slice dS (b++be n 4).length c2) (b++be n 4)::R) rfl ?_ ⟨dS,c2,by rw [e2];rfl,rfl⟩;unfold cR;rw [e2,ah];exact zE
def dF (l:List UInt8) (i:Nat):UInt32:=(l.take i).foldl (fun a c=>(a <<< UInt32.ofNat (Int.toNat 8)) ||| c.toUInt32) 0
theorem dF4 {h:List UInt8} (hl:4≤h.length):dF h 4=wd h 0:=by
 rcases h with _|⟨c0,_|⟨c1,_|⟨c2,_|⟨c3,r⟩⟩⟩⟩
 ·simp at hl
 ·simp at hl
 ·simp at hl
 ·simp at hl
 ·simp only [dF,List.take_succ_cons,List.take_zero,List.foldl_cons,List.foldl_nil];rw [Hz];simp only [wd,Nat.mul_zero,aC,List.getD_cons_zero,List.getD_cons_succ]
theorem u1 (v:Value) (b:List UInt8) (hv:da R v b) (hb:b.length≤1000000) :
 Ct prog 293 #[v] e R (fun v' L'=>v'=cX (eT b)∧R=L'):=by
 refine a7 (cz hv) fun ho=>?_
 refine a8 (args:=[_]) func293 rfl ntmps293 results293 rfl ?_
 (repeat' first|(apply bZ;exact rfl;exact rfl;exact rfl;exact .one (dU ho) rfl .nil;exact rfl;exact rfl;intro _)|refine Za ?_|refine Zb ?_|apply Zc|apply Zd|apply Ze|apply Zf)
 rename_i g;refine aZ rfl rfl (fe _ e 13 _ [(v,b)] (bu .zero rfl zl) (fun a ha=>by rw [an.1 ha];exact hv.tail) (fun a ha=>by rw [an.1 ha];exact hb) (by simp)) ?_;rintro _ _ ⟨ad,c,rfl,rfl⟩;rw [show [(v,b)].map (·.2)=[b] from rfl];have hl:=de 13 [b];have hd:eT b=wd (ez 13 [b]) 0:=rfl
 generalize ez 13 [b]=h at *
 refine bo (gx .zero) ?_;rintro ⟨⟨a,cc,hq,tQ,rm,MQ⟩,_⟩;obtain ⟨rfl,_,rfl⟩:=Value.slice.inj hq;simp only [maxLen] at rm
 rcases MQ with ⟨_,_,h0⟩|⟨p,rfl⟩
 ·omega
 have hf:∀ i (hi:i<h.length),dF h (i+1)=(dF h i <<< UInt32.ofNat (Int.toNat 8)) ||| (h[i]'hi).toUInt32:=fun i hi=>by
  unfold dF;rw [aA hi,List.foldl_append]
  rfl
 have h4:dF h 4=wd h 0:=dF4 zo;refine wB ?_;refine br (ι:=Nat) (fun i=>[(3,cX (dF h i)),(9,.slice (some ⟨p,0,none⟩) 4 c),(10,.int .i64 4),(11,.int .i64 (i:Int))]) (fun _=>cR (.slice (some ⟨p,0,none⟩) h.length c) h::cM g [v] 30 (0,0)::R) (fun i=>i≤4) (fun i=>4 - i) 0 zo zS aX ?_;intro i hi
 by_cases cQ:i<4
 ·have FI:i<h.length:=by omega
  have hr:Rd (cR (.slice (some ⟨p,0,none⟩) h.length c) h::cM g [v] 30 (0,0)::R) ⟨p,0+i,none⟩ (u8 (h[i]'FI)):=da.elem (ba .zero) (ae FI);have hs:=hf i FI
  generalize h[i]'FI=b0 at *
  generalize SF:dF h (i+1)=x1 at *
  generalize dF h i=x0 at *
  clear h4 hd hf
  (repeat' first|refine YV ?_|refine YX ?_|refine Y1 ?_|refine Za ?_|refine Zb ?_|apply Zc|apply Zd|apply Ze|apply Zf|refine Zi ?_|refine ZA ?_|refine ZS ?_|refine Yw ?_|refine Yz ?_|apply YB|apply YC|apply YH)
  rw [← hs,← SF];exact bi (i+1) cQ zo zS aX
 ·have IS:i=4:=by omega
  subst IS;refine wB ?_;refine aY R rfl zE ⟨?_,rfl⟩;rw [hd,← h4]
  rfl
theorem Aw (d:UInt32) (bit side:Nat) (hb:bit<32) (hs:side<2) :
 Ct prog 294 #[cX d,.int .i64 (bit:Int),.int .i64 (side:Int)] e R (fun v' L'=>v'=.bool (jf d bit side)∧R=L'):=by
 refine a8 (args:=[_,_,_]) func294 rfl ntmps294 results294 rfl ?_;have ht:jf d bit side=decide (IntKind.i64.wrap (Go.bits .and .u32 ((d >>> UInt32.ofNat (31 - (bit:Int)).toNat).toNat:Int) 1)=(side:Int)):=rfl;rw [ht]
 by_cases h:IntKind.i64.wrap (Go.bits .and .u32 ((d >>> UInt32.ofNat (31 - (bit:Int)).toNat).toNat:Int) 1)=(side:Int)
 ·rw [ay h]
  (repeat' first|(apply O.tY;exact rfl;exact rfl;omega;exact rfl)|refine Za ?_|refine Zb ?_|apply Zc|apply Zd|apply Ze|apply Zf|refine ZM ?_|refine ZU ?_|refine ZZ ?_|refine Z2 ?_|apply YE)
  exact aY R rfl aX ⟨rfl,rfl⟩
 ·rw [aq h]
  (repeat' first|(apply O.tY;exact rfl;exact rfl;omega;exact rfl)|refine Za ?_|refine Zb ?_|apply Zc|apply Zd|apply Ze|apply Zf|refine ZN ?_|refine ZU ?_|refine ZZ ?_|refine Z2 ?_|apply YE)
  exact aY R rfl aX ⟨rfl,rfl⟩
theorem u2 (v:Value) (seed:List UInt8) (key bit side:Nat) (hv:da R v seed) (hs:seed.length≤1000) (hk:key<16) (hb:bit<32) (hd:side<2) :
 Ct prog 297 #[v,.int .i64 (key:Int),.int .i64 (bit:Int),.int .i64 (side:Int)] e R (fun v' L'=>∃ ad c,v'=.slice ad (eB seed key bit side).length c∧L'=cR (.slice ad (eB seed key bit side).length c) (eB seed key bit side)::R):=by
 refine a7 (cz hv) fun ho=>?_
 refine a8 (args:=[_,_,_,_]) func297 rfl ntmps297 results297 rfl ?_
 (repeat' first|(apply bZ;exact rfl;exact rfl;exact rfl;exact .one (dU ho) rfl (.one rfl rfl .nil);exact rfl;exact rfl;intro _)|refine Za ?_|refine Zb ?_|apply Zc|apply Zd|apply Ze|apply Zf|refine ZY ?_|refine ZZ ?_|refine Z1 ?_|refine Yi fun _=>?_|fail)
 rename_i g g2
 have e1:[Value.int .u8 (IntKind.u8.wrap ((key:Int).fdiv (2 ^ min (24:Int).toNat IntKind.u32.bits))),.int .u8 (IntKind.u8.wrap ((key:Int).fdiv (2 ^ min (16:Int).toNat IntKind.u32.bits))),.int .u8 (IntKind.u8.wrap ((key:Int).fdiv (2 ^ min (8:Int).toNat IntKind.u32.bits))),.int .u8 (key:Int),.int .u8 (bit:Int),.int .u8 (side:Int)]=(be key 4++[UInt8.ofNat bit,UInt8.ofNat side]).map u8:=by
  have a1:=jO key 24 32 zo;have a2:=jO key 16 32 zo;have a3:=jO key 8 32 zo
  show [Value.int .u8 (IntKind.u8.wrap ((key:Int).fdiv (2 ^ min 24 32))),.int .u8 (IntKind.u8.wrap ((key:Int).fdiv (2 ^ min 16 32))),.int .u8 (IntKind.u8.wrap ((key:Int).fdiv (2 ^ min 8 32))),.int .u8 (key:Int),.int .u8 (bit:Int),.int .u8 (side:Int)]=_
  rw [a1,a2,a3]
  simp [be,u8,UInt8.toNat_ofNat_of_lt' (show key<256 by omega),UInt8.toNat_ofNat_of_lt' (show bit<256 by omega),UInt8.toNat_ofNat_of_lt' (show side<256 by omega),Nat.mod_eq_of_lt (show key<256 by omega),Nat.mod_eq_of_lt (show bit<256 by omega),Nat.mod_eq_of_lt (show side<256 by omega)]
 rw [e1];have h6:(be key 4++[UInt8.ofNat bit,UInt8.ofNat side]).length=6:=by rw [aa,cY];rfl
 have hr:da (cM g2 [v,.slice (some ⟨g,0,none⟩) 6 6] 30 (0,0)::cM g ((be key 4++[UInt8.ofNat bit,UInt8.ofNat side]).map u8) na (0,0)::R) (.slice (some ⟨g,0,none⟩) 6 6) (be key 4++[UInt8.ofNat bit,UInt8.ofNat side]):=by
  have h:=bu (L:=cM g2 [v,.slice (some ⟨g,0,none⟩) 6 6] 30 (0,0)::cM g ((be key 4++[UInt8.ofNat bit,UInt8.ofNat side]).map u8) na (0,0)::R) (k:=6) (.succ .zero) (by rw [ab];exact h6) zl;unfold da;rw [h6];exact h
 refine aZ rfl rfl (fe _ e 10 _ [(v,seed),(.slice (some ⟨g,0,none⟩) 6 6,be key 4++[UInt8.ofNat bit,UInt8.ofNat side])] (bu .zero rfl zl) (fun a ha=>by
  simp only [aQ,aO,or_false] at ha
  rcases ha with rfl|rfl
  ·exact hv.tail.tail
  ·exact hr) (fun a ha=>by
  simp only [aQ,aO,or_false] at ha
  rcases ha with rfl|rfl
  ·dsimp only;omega
  ·dsimp only;omega) (by simp)) ?_
 rintro _ _ ⟨ad,c,rfl,rfl⟩;refine wB ?_;exact aY (cR (.slice ad (eB seed key bit side).length c) (eB seed key bit side)::R) rfl zE ⟨ad,c,rfl,rfl⟩
theorem FJ (v:Value) (seed:List UInt8) (key bit side:Nat) (hv:da R v seed) (hs:seed.length≤1000) (hk:key<16) (hb:bit<32) (hd:side<2) :
 Ct prog 273 #[v,.int .i64 (key:Int),.int .i64 (bit:Int),.int .i64 (side:Int)] e R (fun v' L'=>∃ ad c,v'=.slice ad (fT seed key bit side).length c∧L'=cR (.slice ad (fT seed key bit side).length c) (fT seed key bit side)::R):=by
 refine a8 (args:=[_,_,_,_]) func273 rfl ntmps273 results273 rfl ?_;refine wB ?_;refine aZ rfl rfl (u2 _ e v seed key bit side hv hs hk hb hd) ?_;rintro _ _ ⟨ad,c,rfl,rfl⟩;have hr:∀ L,da (cR (.slice ad (eB seed key bit side).length c) (eB seed key bit side)::L) (.slice ad (eB seed key bit side).length c) (eB seed key bit side):=fun L=>ba .zero
 have hl:(eB seed key bit side).length=32:=de _ _
 (repeat (refine wA ?_;intros))
 rename_i g;refine aZ rfl rfl (fe _ e 11 _ [(.slice ad (eB seed key bit side).length c,eB seed key bit side)] (bu .zero rfl zl) (fun a ha=>by rw [an.1 ha];exact (hr _).tail) (fun a ha=>by rw [an.1 ha];dsimp only;omega) (by simp)) ?_;rintro _ _ ⟨dS,c2,rfl,rfl⟩;refine wB ?_;exact aY (cR (.slice dS (fT seed key bit side).length c2) (fT seed key bit side)::R) rfl zE ⟨dS,c2,rfl,rfl⟩
abbrev BG:Value:=.func (.func 297) #[] #[]
abbrev FK:Value:=.func (.func 273) #[] #[]
theorem qw (c:Nat→Nat→Bool) (seed:List UInt8) (key bit side:Nat) (hs:side<2):gD c seed key (2*bit+side)=if c bit side then eB seed key bit side else fT seed key bit side:=by
 unfold gD;rw [show (2*bit+side) / 2=bit by omega,show (2*bit+side) % 2=side by omega]
theorem xm (v:Value) (seed:List UInt8) (key:Nat) (f:FuncId) (ws:List Value) (ch:Nat→Nat→Bool) [i:cJ prog f f] (hv:da R v seed) (hs:seed.length≤1000) (hk:key<16)
 (VM:∀ (M:List cK) (bit side:Nat),bit<32→side<2→Ct prog f (([]:List Value)++[Value.int .i64 (bit:Int),Value.int .i64 (side:Int)]++ws).toArray e (M++R) (fun v' L'=>v'=(if ch bit side then BG else FK)∧M++R=L')) :
 Ct prog 271 #[v,.int .i64 (key:Int),.func (.func f) #[] ws.toArray] e R (fun v' L'=>∃ ad c ts,v'=.slice ad ts.length c∧ts.map (·.2)=nd ch seed key∧L'=cU (.slice ad ts.length c) ts::cG ts::R):=by
 refine a8 (args:=[_,_,_]) func271 rfl ntmps271 results271 rfl ?_;refine wB ?_;refine br (ι:=Nat × List dX × Option Addr × Nat) (fun i=>[(0,v),(1,.int .i64 (key:Int)),(2,.func (.func f) #[] ws.toArray),(7,.slice i.2.2.1 i.2.1.length i.2.2.2),(10,.int .i64 (i.1:Int))]) (fun i=>cU (.slice i.2.2.1 i.2.1.length i.2.2.2) i.2.1::cG i.2.1::R) (fun i=>i.1≤32∧i.2.1.map (·.2)=(List.range (2*i.1)).map (gD ch seed key)) (fun i=>32 - i.1) (0,[],none,0) ⟨by omega,rfl⟩ zS (cn dC (di dZ 1)) ?_;rintro ⟨bit,ts,ad,c⟩ ⟨hb,fx⟩;dsimp only at hb fx ⊢
 by_cases cQ:bit<32
 rotate_left
 ·have BH:bit=32:=by omega
  subst BH;refine wB ?_;exact aY _ rfl aX ⟨ad,c,ts,rfl,fx,rfl⟩
 refine wB ?_;refine br (ι:=Nat × List dX × Option Addr × Nat) (fun i=>[(0,v),(1,.int .i64 (key:Int)),(2,.func (.func f) #[] ws.toArray),(7,.slice i.2.2.1 i.2.1.length i.2.2.2),(8,.int .i64 (bit:Int)),(10,.int .i64 (bit:Int)),(13,.int .i64 (i.1:Int))]) (fun i=>cU (.slice i.2.2.1 i.2.1.length i.2.2.2) i.2.1::cG i.2.1::R) (fun i=>i.1≤2∧i.2.1.map (·.2)=(List.range (2*bit+i.1)).map (gD ch seed key)) (fun i=>2 - i.1) (0,ts,ad,c) ⟨by omega,fx⟩ zS aX ?_;clear fx;rintro ⟨side,us,dS,c2⟩ ⟨FL,fZ⟩;dsimp only at FL fZ ⊢
 by_cases jP:side<2
 rotate_left
 ·have K3:side=2:=by omega
  subst K3;refine wB ?_;exact bi (bit+1,us,dS,c2) ⟨cQ,fZ⟩ zd zS aX
 have HD:us.length=2*bit+side:=by simpa using congrArg List.length fZ
 have jC:=qw ch seed key bit side jP;have yW:=oc ch seed key (2*bit+side)
 have kE:∀ (w:Value) (b:List UInt8),b=gD ch seed key (2*bit+side)→(us++[(w,b)]).map (·.2)=(List.range (2*bit+(side+1))).map (gD ch seed key):=fun w b h=>by
  rw [ah,fZ,show 2*bit+(side+1)=(2*bit+side)+1 by omega,List.range_succ,ah,h]
  rfl
 refine wB ?_;refine bD (Do.gT (us:=[]) (ws:=ws) rfl rfl rfl (VM [cU (.slice dS us.length c2) us,cG us] bit side cQ jP) ?_)
 rintro _ _ ⟨rfl,rfl⟩;have Kq:da (cU (.slice dS us.length c2) us::cG us::R) v seed:=hv.tail.tail
 cases hc:ch bit side with
 | true =>
  rw [hc] at jC
  (repeat (refine wA ?_;intros))
  refine bD (Do.gT (us:=[]) (ws:=[]) rfl rfl rfl (u2 (cU (.slice dS us.length c2) us::cG us::R) e v seed key bit side Kq hs hk cQ jP) ?_)
  rintro _ _ ⟨ep,c3,rfl,rfl⟩;rw [show eB seed key bit side=gD ch seed key (2*bit+side) from jC.symm]
  generalize gD ch seed key (2*bit+side)=b at *
  (repeat (refine wA ?_;intros))
  rename_i g;refine bD (bm rfl rfl rfl (.succ (.succ .zero)) (bu .zero rfl zl) rfl rfl zO zm zo fun gZ c4 _=>?_)
  refine wB ?_;refine bi (side+1,us++[(.slice ep b.length c3,b)],gZ,c4) ⟨jP,kE _ _ rfl⟩ zd ?_ ?_
  ·dsimp only;rw [aa,aj];exact zS
  ·exact cn (show cC _ (dJ dZ 1 (.slice gZ (us.length+1) c4) (us.length+1) (us.map (·.1)++[.slice ep b.length c3])::cR (.slice ep b.length c3) b::cG us::R) from zE) eV
 | false =>
  rw [hc] at jC
  (repeat (refine wA ?_;intros))
  refine bD (Do.gT (us:=[]) (ws:=[]) rfl rfl rfl (FJ (cU (.slice dS us.length c2) us::cG us::R) e v seed key bit side Kq hs hk cQ jP) ?_)
  rintro _ _ ⟨ep,c3,rfl,rfl⟩;rw [show fT seed key bit side=gD ch seed key (2*bit+side) from jC.symm]
  generalize gD ch seed key (2*bit+side)=b at *
  (repeat (refine wA ?_;intros))
  rename_i g;refine bD (bm rfl rfl rfl (.succ (.succ .zero)) (bu .zero rfl zl) rfl rfl zO zm zo fun gZ c4 _=>?_)
  refine wB ?_;refine bi (side+1,us++[(.slice ep b.length c3,b)],gZ,c4) ⟨jP,kE _ _ rfl⟩ zd ?_ ?_
  ·dsimp only;rw [aa,aj];exact zS
  ·exact cn (show cC _ (dJ dZ 1 (.slice gZ (us.length+1) c4) (us.length+1) (us.map (·.1)++[.slice ep b.length c3])::cR (.slice ep b.length c3) b::cG us::R) from zE) eV
end Go.Proofs
namespace Go.Bs
structure DOp where
 i:Nat
 d:Nat
 kj:List Nat
 ok:Value→Prop
 mem:Value→List cK
section
variable (P:Program) (N:Fr) (ops:Array Oper) (e:World) (σ0:Env) (L0:List cK)
def sL (o:Oper):Prop:=o.guard=none∨∃ j want,o.guard=some (j,want)∧pz σ0 ops j want=some true
end
def qx (o:Oper) (k:Nat):Bool:=o.after.any fun ed=>Region.binds .any ed && ed.on == k
theorem lT {o:Oper} {k:Nat} (h:qx o k=true):∃ ed∈o.after,Region.binds .any ed=true∧ed.on=k:=by
 obtain ⟨ed,h1,h2⟩:=Array.any_eq_true'.1 h;simp only [Bool.and_eq_true,beq_iff_eq] at h2
 exact ⟨ed,h1,h2.1,h2.2⟩
theorem ux:∀ {U W:List Nat},U.Nodup→(∀ i∈U,i∈W)→U.length≤W.length
 | [],W,_,_=>aG _
 | x::r,W,hn,hs=>by
  have h1:=List.nodup_cons.1 hn;have h2:r.length≤(W.erase x).length:=ux h1.2 fun i hi=>(List.mem_erase_of_ne (by rintro rfl;exact h1.1 hi)).2 (hs i (aU _ hi))
  have h3:=List.length_erase_of_mem (hs x (List.mem_cons_self ..));have h4:=List.length_pos_of_mem (hs x (List.mem_cons_self ..));rw [aR]
  omega
theorem IT {U W:List Nat} (hn:U.Nodup) (hs:∀ i∈U,i∈W) (hl:W.length≤U.length):∀ i∈W,i∈U:=fun i hi=>by
 refine Classical.byContradiction fun lF=>?_
 have h2:=ux (W:=W.erase i) hn fun j hj=>(List.mem_erase_of_ne (by rintro rfl;exact lF hj)).2 (hs j hj)
 have h3:=List.length_erase_of_mem hi;have h4:=List.length_pos_of_mem hi
 omega
theorem km {L0:List cK}:∀ (L:List cK),cC (L++L0) L0
 | []=>aX
 | _::L=>cC.drop (km L)
section
variable {P:Program} {N:Fr} {ops:Array Oper} {e:World} {σ0:Env} {L0:List cK} {T:List Nat} {R0:List cK} {n:Nat} {l0:Array Bool} {Q:fM}
end
end Go.Bs
namespace Go.Proofs
open Go.Bs
section
variable {P:Program} {N:Fr} {ops:Array Oper} {e:World} {σ0:Env} {L0:List cK} {D:List DOp}
theorem Nu {σ:Env} {k:Nat} {v:Value} (h:get σ k=some v):py σ [.tmp k]=some [v]:=by simp [py,ev,h]
theorem bV {o:Oper} {K:Env→List cK→Prop} {σ:Env} {L L':List cK} (f:cC L L') (h:Do P N o K σ e L'):Do P N o K σ e L:=fun a w ha hs=>h a w ha (hs.cN f)
theorem Do.Rs {o:Oper} {K:Env→List cK→Prop} {σ:Env} {α:Sort _} {f:α→cK} {R:List cK} (h:∀ x,Do P N o K σ e (f x::R)):Do P N o K σ e (Ex f::R):=fun a w ha hs=>by
 obtain ⟨x,hx⟩:=wO hs.2.2.2;exact h x a w ha ⟨hs.1,hs.2.1,hs.2.2.1,hx⟩
theorem Do.SG {o:Oper} {K:Env→List cK→Prop} {σ:Env} {p:Prop} {R:List cK} (h:p→Do P N o K σ e R):Do P N o K σ e (Pu p::R):=fun a w ha hs=>by
 obtain ⟨hp,hx⟩:=ke hs.2.2.2;exact h hp a w ha ⟨hs.1,hs.2.1,hs.2.2.1,hx⟩
theorem Do.Nv {o:Oper} {K:Env→List cK→Prop} {σ:Env} {L:List cK} {p:Prop} (f:∀ h,dK L h→p) (h:p→Do P N o K σ e L):Do P N o K σ e L:=fun a w ha hs=>h (f _ hs.2.2.2) a w ha hs
theorem K4 {M L R:List cK} {A:cK} (p:cT L A R):cT (M++L) A (M++R):=by
 induction M with
 | nil=>exact p
 | cons _ _ ih=>exact .succ ih
end
end Go.Proofs
namespace Go.Proofs
attribute [local irreducible] Bs.cE Bs.Do Bs.O Bs.W Bs.Fin Bs.A Bs.Ct Bs.cF Bs.Rd Bs.Sat Bs.cM Bs.Ob Bs.dJ Bs.View Bs.cC Bs.Ex Bs.dI Bs.Pu Bs.eZ Bs.dK Bs.eh
open Go.Bs
open Tryz
variable (R:List cK) (e:World)
theorem lU {ts:List dX} {l:List (List UInt8)} (h:ts.map (·.2)=l) {m:Nat} (hl:∀ a∈l,a.length=m):∀ a∈ts,a.2.length=m:=fun a ha=>hl _ (by rw [← h];exact aD.2 ⟨a,ha,rfl⟩)
theorem IU (M:List cK) (e:World) (bit side:Nat) :
 Ct prog 272 #[.int .i64 (bit:Int),.int .i64 (side:Int)] e M (fun v' L'=>v'=(if (fun _ _=>false:Nat→Nat→Bool) bit side then BG else FK)∧M=L'):=by
 refine a8 (args:=[_,_]) func272 rfl ntmps272 results272 rfl ?_;refine wB ?_;exact aY M rfl aX ⟨rfl,rfl⟩
theorem FM (M:List cK) (R:List cK) (e:World) (g T:Nat) (d:UInt32) (bit side:Nat) (hb:bit<32) (hs:side<2) :
 Ct prog 296 #[.int .i64 (bit:Int),.int .i64 (side:Int),pt g] e (M++cM g [cX d] T (0,0)::R) (fun v' L'=>v'=(if jf d bit side then BG else FK)∧M++cM g [cX d] T (0,0)::R=L'):=by
 refine a8 (args:=[_,_,_]) func296 rfl ntmps296 results296 rfl ?_;have hr:Rd (M++cM g [cX d] T (0,0)::R) ⟨g,0,none⟩ (cX d):=bR (K4 .zero) rfl;refine wB ?_;refine aZ rfl rfl (Aw _ e d bit side hb hs) ?_;rintro _ _ ⟨rfl,rfl⟩
 cases jf d bit side with
 | true =>
  refine wB ?_;exact aY _ rfl aX ⟨rfl,rfl⟩
 | false =>
  refine wB ?_;exact aY _ rfl aX ⟨rfl,rfl⟩
theorem vT (v:Value) (seed:List UInt8) (key:Nat) (hv:da R v seed) (hs:seed.length≤1000) (hk:key<16) :
 Ct prog 225 #[v,.int .i64 (key:Int)] e R (fun v' L'=>∃ ad c,v'=.slice ad (fN seed key).length c∧L'=cR (.slice ad (fN seed key).length c) (fN seed key)::R):=by
 refine a8 (args:=[_,_]) func225 rfl ntmps225 results225 rfl ?_;refine wB ?_;refine aZ rfl rfl (xm R e v seed key 272 [] (fun _ _=>false) hv hs hk (fun M bit side _ _=>IU _ e bit side)) ?_;rintro _ _ ⟨ad,c,ts,rfl,fx,rfl⟩;have jD:=lU fx sI;have By:ts.length=64:=by have:=congrArg List.length fx;rw [ab,kZ] at this;exact this
 refine wB ?_;refine aZ rfl rfl (fe _ e 12 _ ts (ba .zero) (dE.tail ef) (fun a ha=>by have:=jD a ha;omega) zo) ?_;rintro _ _ ⟨dS,c2,rfl,rfl⟩;rw [fx];refine wB ?_;exact aY (cR (.slice dS (fN seed key).length c2) (fN seed key)::R) rfl zE ⟨dS,c2,rfl,rfl⟩
theorem y5 (v u:Value) (seed fY:List UInt8) (key:Nat) (hv:da R v seed) (hs:seed.length≤1000) (hk:key<16) (hu:da R u fY) (hm:fY.length≤1000000) :
 Ct prog 263 #[v,.int .i64 (key:Int),u] e R (fun v' L'=>∃ ad c ts,v'=.slice ad ts.length c∧ts.map (·.2)=mY seed key fY∧L'=cU (.slice ad ts.length c) ts::cG ts::R):=by
 refine a8 (args:=[_,_,_]) func263 rfl ntmps263 results263 rfl ?_;refine wB ?_;refine aZ rfl rfl (u1 R e u fY hu hm) ?_;rintro _ _ ⟨rfl,rfl⟩
 (repeat (refine wA ?_;intros))
 rename_i g;refine aZ rfl rfl (xm _ e v seed key 296 [pt g] (jf (eT fY)) hv.tail hs hk (fun M bit side hb hs=>FM M R e g _ (eT fY) bit side hb hs)) ?_;rintro _ _ ⟨ad,c,ts,rfl,fx,rfl⟩;refine wB ?_;exact aY (cU (.slice ad ts.length c) ts::cG ts::R) rfl zE ⟨ad,c,ts,rfl,fx,rfl⟩
theorem y6 (u v:Value) (fY:List UInt8) (ts:List dX) (hu:da R u fY) (hm:fY.length≤1000000) (hv:cF R 1 v ts.length (ts.map (·.1))) (ht:dE R ts) (By:ts.length=64) (jD:∀ a∈ts,a.2.length=32) :
 Ct prog 258 #[u,v] e R (fun v' L'=>∃ ad c,v'=.tuple #[.slice ad (iE fY (ts.map (·.2))).length c,.bool true]∧L'=cR (.slice ad (iE fY (ts.map (·.2))).length c) (iE fY (ts.map (·.2)))::R):=by
 refine a7 (hv.shape zo) ?_;rintro ⟨⟨ot,cap,rfl,h3,h4,h5,h6⟩,_⟩;simp only [maxLen] at h4
 rcases h6 with h6|⟨gl,ol,rfl⟩
 ·omega
 refine a8 (args:=[_,_]) func258 rfl ntmps258 results258 rfl ?_;refine wB ?_;refine aZ rfl rfl (u1 R e u fY hu hm) ?_;rintro _ _ ⟨rfl,rfl⟩;refine wB ?_;refine br (ι:=Nat × List dX × List dX × Option Addr × Nat) (fun i=>[(6,cX (eT fY)),(7,.slice i.2.2.2.1 i.2.1.length i.2.2.2.2),(15,.slice (some ⟨gl,ol,none⟩) ts.length cap),(16,.int .i64 (ts.length:Int)),(17,.int .i64 (i.1:Int))]) (fun i=>cU (.slice i.2.2.2.1 i.2.1.length i.2.2.2.2) i.2.1::cG i.2.2.1::R) (fun i=>i.1≤ts.length∧i.2.1.map (·.2)=(List.range i.1).map (iD (eT fY) (ts.map (·.2)))∧∀ x∈i.2.1,x∈i.2.2.1∨da R x.1 x.2) (fun i=>ts.length - i.1) (0,[],[],none,0) ⟨aG _,rfl,fun x h=>by cases h⟩ zS (cn dC (di dZ 1)) ?_;rintro ⟨i,out,news,ad,c⟩ ⟨hi,lN,kh⟩;dsimp only at hi lN kh ⊢
 have y7:out.length=i:=by simpa using congrArg List.length lN
 by_cases cQ:i<ts.length
 rotate_left
 ·have IS:i=64:=by omega
  rw [IS] at lN
  have kD:∀ a∈out,a.2.length≤1000000:=fun a ha=>by
   have:a.2∈(List.range 64).map (iD (eT fY) (ts.map (·.2))):=by rw [← lN];exact aD.2 ⟨a,ha,rfl⟩
   obtain ⟨n,hn,h⟩:=aD.1 this;have hn:=List.mem_range.1 hn;rw [← h];unfold iD
   split
   ·rw [de];omega
   ·rw [uo (fun a ha=>by obtain ⟨x,hx,rfl⟩:=aD.1 ha;exact jD x hx) (by rw [ab];omega)];omega
  refine wB ?_
  refine aZ rfl rfl (fe _ e 12 _ out (ba .zero) (fun x hx=>by
   rcases kh x hx with h|h
   ·exact (ef (l:=news) x h).tail
   ·exact h.tail.tail) kD zo) ?_
  rintro _ _ ⟨dS,c2,rfl,rfl⟩;rw [lN,show ez 12 ((List.range 64).map (iD (eT fY) (ts.map (·.2))))=iE fY (ts.map (·.2)) from rfl];clear kD kh lN
  generalize iE fY (ts.map (·.2))=b at *
  refine wB ?_;exact aY (cR (.slice dS b.length c2) b::R) rfl zE ⟨dS,c2,rfl,rfl⟩
 have hr:Rd R ⟨gl,ol+i,none⟩ (ts[i]'cQ).1:=hv.elem (by rw [aI,ae cQ];rfl);have js:=ht _ (az cQ);have VN:=jD _ (az cQ);have vO:(ts.map (·.2)).getD i []=(ts[i]'cQ).2:=by rw [aL,aI,ae cQ];rfl
 have jk:∀ (w:Value) (b:List UInt8),b=iD (eT fY) (ts.map (·.2)) i→(out++[(w,b)]).map (·.2)=(List.range (i+1)).map (iD (eT fY) (ts.map (·.2))):=fun w b h=>by
  rw [ah,lN,List.range_succ,ah,h]
  rfl
 have Nw:iD (eT fY) (ts.map (·.2)) i=if jf (eT fY) (i / 2) (i % 2) then ez 11 [(ts[i]'cQ).2] else (ts[i]'cQ).2:=by unfold iD;rw [vO]
 generalize ts[i]'cQ=y at *
 obtain ⟨yv,yt⟩:=y;dsimp only at js VN hr Nw
 refine bG (cF.shape js.tail.tail zo) ?_;rintro ⟨⟨Uw,cy,rfl,_,_,_,_⟩,_⟩;have hoy:(Value.slice Uw yt.length cy).oneCell'=true:=rfl;have q2:((i:Int)).tdiv 2=((i / 2:Nat):Int):=by rw [Int.tdiv_eq_ediv_of_nonneg zo];omega
 have r2:((i:Int)).tmod 2=((i % 2:Nat):Int):=by rw [Int.tmod_eq_emod_of_nonneg zo];omega
 refine wB ?_;rw [show IntKind.i64.wrap (((i:Int)).tdiv 2)=((i / 2:Nat):Int) by rw [q2];exact wrap_i64 zo zo,r2];refine aZ rfl rfl (Aw _ e (eT fY) (i / 2) (i % 2) zo zo) ?_;rintro _ _ ⟨rfl,rfl⟩
 cases hc:jf (eT fY) (i / 2) (i % 2) with
 | true =>
  rw [hc] at Nw
  (repeat (refine wA ?_;intros))
  rename_i g;refine aZ rfl rfl (fe _ e 11 _ [(.slice Uw yt.length cy,yt)] (bu .zero rfl zl) (fun a ha=>by rw [an.1 ha];exact js.tail.tail.tail) (fun a ha=>by rw [an.1 ha];dsimp only;omega) (by simp)) ?_;rintro _ _ ⟨ep,c3,rfl,rfl⟩;rw [show ez 11 ([((.slice Uw yt.length cy:Value),yt)].map (·.2))=ez 11 [yt] from rfl,show ez 11 [yt]=iD (eT fY) (ts.map (·.2)) i from Nw.symm]
  generalize iD (eT fY) (ts.map (·.2)) i=b at *
  (repeat (refine wA ?_;intros))
  rename_i g2;refine bD (bm rfl rfl rfl (.succ (.succ (.succ .zero))) (bu .zero rfl zl) rfl rfl zO zm zo fun gZ c4 _=>?_)
  refine wB ?_;refine bi (i+1,out++[(.slice ep b.length c3,b)],news++[(.slice ep b.length c3,b)],gZ,c4) ⟨cQ,jk _ _ rfl,fun x hx=>?_⟩ zd ?_ ?_
  ·rcases aJ.1 hx with h|h
   ·rcases kh x h with h|h
    ·exact .inl (List.mem_append_left _ h)
    ·exact .inr h
   ·exact .inl (List.mem_append_right _ h)
  ·dsimp only;rw [aa,aj];exact zS
  ·refine cn (show cC _ (cR (.slice ep b.length c3) b::cG news::dJ dZ 1 (.slice gZ (out.length+1) c4) (out.length+1) (out.map (·.1)++[.slice ep b.length c3])::R) from zE) (cn (jx (a:=(.slice ep b.length c3,b))) (cn (bz (.succ .zero) aX) (cn eK ?_)));simp only [cU,aa,aj,ah,List.map_cons,List.map_nil];exact zE
 | false =>
  rw [hc] at Nw
  (repeat (refine wA ?_;intros))
  rename_i g2;refine bD (bm rfl rfl rfl (.succ .zero) (bu .zero rfl zl) rfl rfl zO zm zo fun gZ c4 _=>?_)
  refine wB ?_;refine bi (i+1,out++[(.slice Uw yt.length cy,yt)],news,gZ,c4) ⟨cQ,jk _ _ Nw.symm,fun x hx=>?_⟩ zd ?_ ?_
  ·rcases aJ.1 hx with h|h
   ·exact kh x h
   ·rw [an.1 h];exact .inr js
  ·dsimp only;rw [aa,aj];exact zS
  ·simp only [cU,aa,aj,ah,List.map_cons,List.map_nil];exact zE
theorem wrap_u64 {n:Int} (h0:0≤n) (h1:n<18446744073709551616):IntKind.u64.wrap n=n:=by
 unfold IntKind.wrap;simp only [IntKind.bits,IntKind.signed]
 simp
 omega
theorem xn (v:Value) (b:List UInt8) (hv:da R v b) (hb:b.length≤1000000) :
 Ct prog 260 #[v] e R (fun v' L'=>v'=cX (eT b)∧R=L'):=by
 refine a7 (cz hv) fun ho=>?_
 refine a8 (args:=[_]) func260 rfl ntmps260 results260 rfl ?_
 (repeat' first|(apply bZ;exact rfl;exact rfl;exact rfl;exact .one (dU ho) rfl .nil;exact rfl;exact rfl;intro _)|refine Za ?_|refine Zb ?_|apply Zc|apply Zd|apply Ze|apply Zf)
 rename_i g;refine aZ rfl rfl (fa _ e 13 _ [(v,b)] (bu .zero rfl zl) (fun a ha=>by rw [an.1 ha];exact hv.tail) (fun a ha=>by rw [an.1 ha];exact hb) (by simp)) ?_;rintro _ _ ⟨ad,c,rfl,rfl⟩;rw [show [(v,b)].map (·.2)=[b] from rfl];have hl:=de 13 [b];have hd:eT b=wd (ez 13 [b]) 0:=rfl
 generalize ez 13 [b]=h at *
 refine bo (gx .zero) ?_;rintro ⟨⟨a,cc,hq,tQ,rm,MQ⟩,_⟩;obtain ⟨rfl,_,rfl⟩:=Value.slice.inj hq;simp only [maxLen] at rm
 rcases MQ with ⟨_,_,h0⟩|⟨p,rfl⟩
 ·omega
 have pK:∀ m:Nat,m<h.length→Rd (cR (.slice (some ⟨p,0,none⟩) h.length c) h::cM g [v] 30 (0,0)::R) ⟨p,0+m,none⟩ (u8 (h.getD m 0)):=fun m hm =>
  da.elem (ba .zero) (by rw [aL,ae hm];rfl)
 have MP:=pK 0 zo;have Ko:=pK 1 zo;have KT:=pK 2 zo;have Ut:=pK 3 zo;have Vz:wd h 0=((((h.getD 0 0).toUInt32 <<< UInt32.ofNat (Int.toNat 24)) ||| ((h.getD 1 0).toUInt32 <<< UInt32.ofNat (Int.toNat 16))) ||| ((h.getD 2 0).toUInt32 <<< UInt32.ofNat (Int.toNat 8))) ||| (h.getD 3 0).toUInt32:=rfl
 clear pK
 generalize h.getD 0 0=c0 at *
 generalize h.getD 1 0=c1 at *
 generalize h.getD 2 0=c2 at *
 generalize h.getD 3 0=c3 at *
 rw [hl] at *
 refine wB ?_;refine bE (id:=2) [22] mixed ?_
 (refine tM 0 ?_;refine tk 1 _ rfl (bT rfl rfl zo zo) ?_;refine tL 2 ?_;refine tk 3 _ rfl (cE.ms rfl) ?_;refine tk 4 _ rfl (cE.wT rfl rfl zo) ?_;refine tM 5 ?_;refine tk 6 _ rfl (bT rfl rfl zo zo) ?_;refine tL 7 ?_;refine tk 8 _ rfl (cE.ms rfl) ?_;refine tk 9 _ rfl (cE.wT rfl rfl zo) ?_;refine tk 10 _ rfl (cE.Nh rfl rfl) ?_;refine tM 11 ?_;refine tk 12 _ rfl (bT rfl rfl zo zo) ?_;refine tL 13 ?_;refine tk 14 _ rfl (cE.ms rfl) ?_;refine tk 15 _ rfl (cE.wT rfl rfl zo) ?_;refine tk 16 _ rfl (cE.Nh rfl rfl) ?_;refine tM 17 ?_;refine tk 18 _ rfl (bT rfl rfl zo zo) ?_;refine tL 19 ?_;refine tk 20 _ rfl (cE.ms rfl) ?_;refine tk 21 _ rfl (cE.Nh rfl rfl) ?_)
 refine tO 22 ?_;refine dV (bj rfl) ?_;refine bf zK ?_;refine wB ?_;exact aY R rfl zE ⟨by rw [hd,Vz];rfl,rfl⟩
theorem BI (n:Nat) (hn:n<4294967296) :
 Ct prog 146 #[nY,.int .u32 n] e R (fun v' L'=>∃ ad c,v'=.slice ad (be n 4).length c∧L'=cR (.slice ad (be n 4).length c) (be n 4)::R) :=
 Ct.cN (u0 R e none 0 [] n hn (by simp)) (di na 1)
theorem pN (v:Value) (seed:List UInt8) (key bit side:Nat) (hv:da R v seed) (hs:seed.length≤1000) (hk:key<16) (hb:bit<32) (hd:side<2) :
 Ct prog 256 #[v,.int .i64 (key:Int),.int .i64 (bit:Int),.int .i64 (side:Int)] e R (fun v' L'=>∃ ad c,v'=.slice ad (eB seed key bit side).length c∧L'=cR (.slice ad (eB seed key bit side).length c) (eB seed key bit side)::R):=by
 refine a7 (cz hv) fun ho=>?_
 refine a8 (args:=[_,_,_,_]) func256 rfl ntmps256 results256 rfl ?_;refine wB ?_;refine aZ rfl rfl (BI _ e key zo) ?_;rintro _ _ ⟨K5,k0,rfl,rfl⟩;have nZ:=cY key 4;have VO:eB seed key bit side=ez 10 [seed,be key 4,[UInt8.ofNat bit,UInt8.ofNat side]]:=by simp [eB,ez]
 rw [VO]
 generalize be key 4=bk at *
 (repeat' first|(apply bZ;exact rfl;exact rfl;exact rfl;exact .one (dU ho) rfl (.one rfl rfl (.one rfl rfl .nil));exact rfl;exact rfl;intro _)|refine Za ?_|refine ZY ?_|refine Yi fun _=>?_|fail)
 rename_i g g2
 have e1:[Value.int .u8 (bit:Int),.int .u8 (side:Int)]=[UInt8.ofNat bit,UInt8.ofNat side].map u8:=by
  simp [u8,UInt8.toNat_ofNat_of_lt' (show bit<256 by omega),UInt8.toNat_ofNat_of_lt' (show side<256 by omega),Nat.mod_eq_of_lt (show bit<256 by omega),Nat.mod_eq_of_lt (show side<256 by omega)]
 rw [e1]
 refine aZ rfl rfl (fa _ e 10 _ [(v,seed),(.slice K5 bk.length k0,bk),(.slice (some ⟨g,0,none⟩) 2 2,[UInt8.ofNat bit,UInt8.ofNat side])] (bu .zero rfl zl) (fun a ha=>by
  simp only [aQ,aO,or_false] at ha
  rcases ha with rfl|rfl|rfl
  ·exact cF.cN hv zE
  ·exact ba zP
  ·exact bu (.succ .zero) rfl zl) (fun a ha=>by
  simp only [aQ,aO,or_false] at ha
  rcases ha with rfl|rfl|rfl
  ·dsimp only;omega
  ·dsimp only;omega
  ·dsimp only;simp) (by simp)) ?_
 rintro _ _ ⟨ad,c,rfl,rfl⟩;rw [show [(v,seed),(.slice K5 bk.length k0,bk),(.slice (some ⟨g,0,none⟩) 2 2,[UInt8.ofNat bit,UInt8.ofNat side])].map (·.2)=[seed,bk,[UInt8.ofNat bit,UInt8.ofNat side]] from rfl]
 generalize ez 10 [seed,bk,[UInt8.ofNat bit,UInt8.ofNat side]]=z
 refine wB ?_;exact aY (cR (.slice ad z.length c) z::R) rfl zE ⟨ad,c,rfl,rfl⟩
theorem ng (v:Value) (seed:List UInt8) (key bit side:Nat) (hv:da R v seed) (hs:seed.length≤1000) (hk:key<16) (hb:bit<32) (hd:side<2) :
 Ct prog 186 #[v,.int .i64 (key:Int),.int .i64 (bit:Int),.int .i64 (side:Int)] e R (fun v' L'=>∃ ad c,v'=.slice ad (fT seed key bit side).length c∧L'=cR (.slice ad (fT seed key bit side).length c) (fT seed key bit side)::R):=by
 refine a8 (args:=[_,_,_,_]) func186 rfl ntmps186 results186 rfl ?_;refine wB ?_;refine aZ rfl rfl (pN _ e v seed key bit side hv hs hk hb hd) ?_;rintro _ _ ⟨ad,c,rfl,rfl⟩;have hr:∀ L,da (cR (.slice ad (eB seed key bit side).length c) (eB seed key bit side)::L) (.slice ad (eB seed key bit side).length c) (eB seed key bit side):=fun L=>ba .zero
 have hl:(eB seed key bit side).length=32:=de _ _
 (repeat (refine wA ?_;intros))
 rename_i g;refine aZ rfl rfl (fa _ e 11 _ [(.slice ad (eB seed key bit side).length c,eB seed key bit side)] (bu .zero rfl zl) (fun a ha=>by rw [an.1 ha];exact (hr _).tail) (fun a ha=>by rw [an.1 ha];dsimp only;omega) (by simp)) ?_;rintro _ _ ⟨dS,c2,rfl,rfl⟩;refine wB ?_;exact aY (cR (.slice dS (fT seed key bit side).length c2) (fT seed key bit side)::R) rfl zE ⟨dS,c2,rfl,rfl⟩
def mZ (seed:List UInt8) (key n:Nat):List UInt8:=((List.range n).map (gD (fun _ _=>false) seed key)).flatten
theorem rG (seed:List UInt8) (key n:Nat):mZ seed key (n+1)=mZ seed key n++gD (fun _ _=>false) seed key n:=by
 unfold mZ;rw [List.range_succ,ah,List.flatten_append];simp
theorem BJ (seed:List UInt8) (key n:Nat):(mZ seed key n).length=32*n:=by
 induction n with
 | zero=>rfl
 | succ n ih=>rw [rG,aa,ih,oc];omega
theorem IV (seed:List UInt8) (key j:Nat):mZ seed key (2*(j+1))=mZ seed key (2*j)++fT seed key j 0++fT seed key j 1:=by
 have h0:=qw (fun _ _=>false) seed key j 0 zo;have h1:=qw (fun _ _=>false) seed key j 1 zo;rw [show 2*(j+1)=2*j+1+1 by omega,rG,rG,h1,show 2*j=2*j+0 from rfl,h0]
 rfl
theorem vU (v:Value) (seed:List UInt8) (key:Nat) (hv:da R v seed) (hs:seed.length≤1000) (hk:key<16) :
 Ct prog 97 #[v,.int .i64 (key:Int)] e R (fun v' L'=>∃ ad c,v'=.slice ad (fN seed key).length c∧L'=cR (.slice ad (fN seed key).length c) (fN seed key)::R):=by
 refine a8 (args:=[_,_]) func97 rfl ntmps97 results97 rfl ?_;refine wB ?_;refine br (ι:=Nat × Option Addr × Nat) (fun i=>[(0,v),(1,.int .i64 (key:Int)),(5,.slice i.2.1 (mZ seed key (2*i.1)).length i.2.2),(6,.int .i64 (i.1:Int))]) (fun i=>cR (.slice i.2.1 (mZ seed key (2*i.1)).length i.2.2) (mZ seed key (2*i.1))::R) (fun i=>i.1≤32) (fun i=>32 - i.1) (0,none,0) zd zS (di na 1) ?_;rintro ⟨j,ad,c⟩ hj;dsimp only at hj ⊢
 have CY:=BJ seed key (2*j)
 by_cases cQ:j<32
 ·have VP:=IV seed key j;have tR:(fT seed key j 0).length=32:=de _ _;have qL:(fT seed key j 1).length=32:=de _ _
  generalize mZ seed key (2*j)=b at *
  generalize Ux:mZ seed key (2*(j+1))=b2 at *
  refine wB ?_;refine aZ rfl rfl (ng _ e v seed key j 0 hv.tail hs hk cQ zo) ?_;rintro _ _ ⟨dS,c2,rfl,rfl⟩
  generalize fT seed key j 0=x0 at *
  (repeat' first|refine Za ?_|refine Zb ?_|apply Zc|apply Zd|apply Ze|apply Zf|refine ZA ?_|refine ZB ?_|refine ZC (fun _=>?_) fun _=>?_|refine ZS ?_|refine Yi fun _=>?_|refine Yz ?_|refine YA ?_|apply YB|apply YC|apply YD|apply YE|apply YF|apply YG|apply YH|apply YI|apply YJ|refine YK ?_|fail)
  refine bD (bm rfl rfl rfl (show cT _ (cR (.slice ad b.length c) b) _ from zP) (ba zP) rfl rfl jS zm zo fun ep c3 _=>?_)
  rw [← aa,← ah]
  (repeat (refine wA ?_;intros))
  refine aZ rfl rfl (ng _ e v seed key j 1 (cF.cN hv zE) hs hk cQ zo) ?_;rintro _ _ ⟨gZ,c4,rfl,rfl⟩
  generalize fT seed key j 1=x1 at *
  have ON:(b++x0).length=64*j+32:=by rw [aa];omega
  generalize b++x0=b1 at *
  (repeat' first|refine Za ?_|refine Zb ?_|apply Zc|apply Zd|apply Ze|apply Zf|refine ZA ?_|refine ZB ?_|refine ZC (fun _=>?_) fun _=>?_|refine ZS ?_|refine Yi fun _=>?_|refine Yz ?_|refine YA ?_|apply YB|apply YC|apply YD|apply YE|apply YF|apply YG|apply YH|apply YI|apply YJ|refine YK ?_|fail)
  refine bD (bm rfl rfl rfl (show cT _ (cR (.slice ep b1.length c3) b1) _ from zP) (ba zP) rfl rfl jS zm zo fun Kp c5 _=>?_)
  rw [← aa,← ah,← VP];refine wB ?_;subst Ux;exact bi (j+1,Kp,c5) cQ zd zS zE
 ·have SH:j=32:=by omega
  subst SH;have xo:fN seed key=ez 12 [mZ seed key (2*32)]:=by simp [fN,nd,mZ,ez]
  rw [xo]
  generalize mZ seed key (2*32)=b at *
  (repeat (refine wA ?_;intros))
  rename_i g;refine aZ rfl rfl (fa _ e 12 _ [(.slice ad b.length c,b)] (bu .zero rfl zl) (fun a ha=>by rw [an.1 ha];exact ba zP) (fun a ha=>by rw [an.1 ha];dsimp only;omega) (by simp)) ?_;rintro _ _ ⟨dS,c2,rfl,rfl⟩;rw [show [(Value.slice ad b.length c,b)].map (·.2)=[b] from rfl]
  generalize ez 12 [b]=z
  refine wB ?_;exact aY (cR (.slice dS z.length c2) z::R) rfl zE ⟨dS,c2,rfl,rfl⟩
theorem uy (v u:Value) (seed fY:List UInt8) (key:Nat) (hv:da R v seed) (hs:seed.length≤1000) (hk:key<16) (hu:da R u fY) (hm:fY.length≤1000000) :
 Ct prog 193 #[v,.int .i64 (key:Int),u] e R (fun v' L'=>∃ ad c ts,v'=.slice ad ts.length c∧ts.map (·.2)=mY seed key fY∧L'=cU (.slice ad ts.length c) ts::cG ts::R):=by
 refine a8 (args:=[_,_,_]) func193 rfl ntmps193 results193 rfl ?_;refine wB ?_;refine aZ rfl rfl (xn R e u fY hu hm) ?_;rintro _ _ ⟨rfl,rfl⟩;unfold mY nd
 generalize eT fY=dg
 refine wB ?_;refine br (ι:=Nat × List dX × Option Addr × Nat) (fun i=>[(0,v),(1,.int .i64 (key:Int)),(7,cX dg),(8,.slice i.2.2.1 i.2.1.length i.2.2.2),(9,.int .i64 (i.1:Int))]) (fun i=>cU (.slice i.2.2.1 i.2.1.length i.2.2.2) i.2.1::cG i.2.1::R) (fun i=>i.1≤32∧i.2.1.map (·.2)=(List.range (2*i.1)).map (gD (jf dg) seed key)) (fun i=>32 - i.1) (0,[],none,0) ⟨by omega,rfl⟩ zS (cn dC (di dZ 1)) ?_;rintro ⟨bit,ts,ad,c⟩ ⟨hb,fx⟩;dsimp only at hb fx ⊢
 by_cases cQ:bit<32
 rotate_left
 ·have BH:bit=32:=by omega
  subst BH;refine wB ?_;exact aY _ rfl aX ⟨ad,c,ts,rfl,fx,rfl⟩
 refine wB ?_;refine br (ι:=Nat × List dX × Option Addr × Nat) (fun i=>[(0,v),(1,.int .i64 (key:Int)),(7,cX dg),(8,.slice i.2.2.1 i.2.1.length i.2.2.2),(9,.int .i64 (bit:Int)),(10,.int .i64 (i.1:Int))]) (fun i=>cU (.slice i.2.2.1 i.2.1.length i.2.2.2) i.2.1::cG i.2.1::R) (fun i=>i.1≤2∧i.2.1.map (·.2)=(List.range (2*bit+i.1)).map (gD (jf dg) seed key)) (fun i=>2 - i.1) (0,ts,ad,c) ⟨by omega,fx⟩ zS aX ?_;clear fx;rintro ⟨side,us,dS,c2⟩ ⟨FL,fZ⟩;dsimp only at FL fZ ⊢
 by_cases jP:side<2
 rotate_left
 ·have K3:side=2:=by omega
  subst K3;refine wB ?_;exact bi (bit+1,us,dS,c2) ⟨cQ,fZ⟩ zd zS aX
 have HD:us.length=2*bit+side:=by simpa using congrArg List.length fZ
 have jC:=qw (jf dg) seed key bit side jP
 have kE:∀ (w:Value) (b:List UInt8),b=gD (jf dg) seed key (2*bit+side)→(us++[(w,b)]).map (·.2)=(List.range (2*bit+(side+1))).map (gD (jf dg) seed key):=fun w b h=>by
  rw [ah,fZ,show 2*bit+(side+1)=(2*bit+side)+1 by omega,List.range_succ,ah,h]
  rfl
 have Kq:da (cU (.slice dS us.length c2) us::cG us::R) v seed:=hv.tail.tail;have ht:jf dg bit side=decide (IntKind.i64.wrap (Go.bits .and .u32 ((dg >>> UInt32.ofNat (31 - (bit:Int)).toNat).toNat:Int) 1)=(side:Int)):=rfl
 by_cases h:IntKind.i64.wrap (Go.bits .and .u32 ((dg >>> UInt32.ofNat (31 - (bit:Int)).toNat).toNat:Int) 1)=(side:Int)
 ·rw [ht,ay h,aH rfl] at jC
  (repeat' first|(apply O.nD;exact rfl;exact wrap_u64 zo zo;exact rfl)|(apply O.tY;exact rfl;exact rfl;omega;exact rfl)|refine Za ?_|apply Zc|apply Zd|apply Ze|apply Zf|refine ZA ?_|refine ZM ?_|refine ZU ?_|refine ZZ ?_|refine Z2 ?_|refine Yz ?_|apply YB|apply YC)
  refine aZ rfl rfl (pN (cU (.slice dS us.length c2) us::cG us::R) e v seed key bit side Kq hs hk cQ jP) ?_;rintro _ _ ⟨ep,c3,rfl,rfl⟩;rw [show eB seed key bit side=gD (jf dg) seed key (2*bit+side) from jC.symm]
  generalize gD (jf dg) seed key (2*bit+side)=b at *
  (repeat (refine wA ?_;intros))
  rename_i g;refine bD (bm rfl rfl rfl (.succ (.succ .zero)) (bu .zero rfl zl) rfl rfl zO zm zo fun gZ c4 _=>?_)
  refine wB ?_;refine bi (side+1,us++[(.slice ep b.length c3,b)],gZ,c4) ⟨jP,kE _ _ rfl⟩ zd ?_ ?_
  ·dsimp only;rw [aa,aj];exact zS
  ·exact cn (show cC _ (dJ dZ 1 (.slice gZ (us.length+1) c4) (us.length+1) (us.map (·.1)++[.slice ep b.length c3])::cR (.slice ep b.length c3) b::cG us::R) from zE) eV
 ·rw [ht,aq h,aB (by simp)] at jC
  (repeat' first|(apply O.nD;exact rfl;exact wrap_u64 zo zo;exact rfl)|(apply O.tY;exact rfl;exact rfl;omega;exact rfl)|refine Za ?_|apply Zc|apply Zd|apply Ze|apply Zf|refine ZA ?_|refine ZN ?_|refine ZU ?_|refine ZZ ?_|refine Z2 ?_|refine Yz ?_|refine YA ?_|apply YB|apply YC)
  refine aZ rfl rfl (ng (cU (.slice dS us.length c2) us::cG us::R) e v seed key bit side Kq hs hk cQ jP) ?_;rintro _ _ ⟨ep,c3,rfl,rfl⟩;rw [show fT seed key bit side=gD (jf dg) seed key (2*bit+side) from jC.symm]
  generalize gD (jf dg) seed key (2*bit+side)=b at *
  (repeat (refine wA ?_;intros))
  rename_i g;refine bD (bm rfl rfl rfl (.succ (.succ .zero)) (bu .zero rfl zl) rfl rfl zO zm zo fun gZ c4 _=>?_)
  refine wB ?_;refine bi (side+1,us++[(.slice ep b.length c3,b)],gZ,c4) ⟨jP,kE _ _ rfl⟩ zd ?_ ?_
  ·dsimp only;rw [aa,aj];exact zS
  ·exact cn (show cC _ (dJ dZ 1 (.slice gZ (us.length+1) c4) (us.length+1) (us.map (·.1)++[.slice ep b.length c3])::cR (.slice ep b.length c3) b::cG us::R) from zE) eV
def j8 (L:List cK) (v:Value) (bs:List (List UInt8)):Prop:=∃ ts:List dX,ts.map (·.2)=bs∧cF L 1 v ts.length (ts.map (·.1))∧dE L ts
theorem j8.cN {L L':List cK} {v:Value} {bs:List (List UInt8)} (h:j8 L' v bs) (f:cC L L'):j8 L v bs:=by
 obtain ⟨ts,h1,h2,h3⟩:=h;exact ⟨ts,h1,h2.cN f,fun a ha=>(h3 a ha).cN f⟩
theorem j8.tail {A:cK} {L:List cK} {v:Value} {bs:List (List UInt8)} (h:j8 L v bs):j8 (A::L) v bs:=h.cN (cC.drop aX)
theorem j8.one {L:List cK} {v:Value} {bs:List (List UInt8)} (h:j8 L v bs):∀ x,dK L x→v.oneCell'=true:=fun x hx=>by
 obtain ⟨ts,_,h2,_⟩:=h;obtain ⟨⟨ad,cap,rfl,_⟩,_⟩:=h2.shape zo x hx
 rfl
theorem u3 (v:Value) (ts:List dX) (f:FuncId) (us ws:List Value) (p:Nat→Bool) [i:cJ prog f f] (hv:cF R 1 v ts.length (ts.map (·.1))) (hl:ts.length≤1000000)
 (hf:∀ (i:Nat) (h:i<ts.length),Ct prog f (us++[(ts[i]).1]++ws).toArray e R (fun v' L'=>v'=.bool (p i)∧R=L')) :
 Ct prog 264 #[v,.func (.func f) us.toArray ws.toArray] e R (fun v' L'=>(∃ k:Int,v'=.int .i64 k∧((k = -1∧∀ i,i<ts.length→p i=false)∨(∃ j:Nat,k=j∧j<ts.length∧p j=true∧∀ i,i<j→p i=false)))∧R=L'):=by
 refine a7 (hv.shape zo) ?_;rintro ⟨⟨ad,cap,rfl,h3,h4,h5,h6⟩,_⟩;refine a8 (args:=[_,_]) func264 rfl ntmps264 results264 rfl ?_;refine wB ?_;refine br (ι:=Nat) (fun i=>[(0,.slice ad ts.length cap),(1,.func (.func f) us.toArray ws.toArray),(7,.int .i64 (ts.length:Int)),(8,.int .i64 (i:Int))]) (fun _=>R) (fun i=>i≤ts.length∧∀ j,j<i→p j=false) (fun i=>ts.length - i) 0 ⟨aG _,fun j h=>absurd h (Nat.not_lt_zero j)⟩ zS aX ?_;rintro i ⟨h1,h2⟩
 by_cases cQ:i<ts.length
 rotate_left
 ·refine wB ?_;exact aY R rfl aX ⟨⟨-1,rfl,.inl ⟨rfl,fun j hj=>h2 j zo⟩⟩,rfl⟩
 rcases h6 with h6|⟨gl,ol,rfl⟩
 ·omega
 have hr:Rd R ⟨gl,ol+i,none⟩ (ts[i]'cQ).1:=hv.elem (by rw [aI,ae cQ];rfl);have IW:=hf i cQ
 generalize (ts[i]'cQ).1=y at *
 refine wB ?_;refine O.gT (us:=us) (ws:=ws) rfl rfl rfl IW ?_;rintro _ _ ⟨rfl,rfl⟩
 cases hp:p i with
 | false =>
  refine wB ?_;refine bi (i+1) ⟨cQ,fun j hj=>?_⟩ zo zS aX
  by_cases Ah:j=i
  ·subst Ah;exact hp
  ·exact h2 j zo
 | true =>
  refine wB ?_;exact aY R rfl aX ⟨⟨i,rfl,.inr ⟨i,rfl,cQ,hp,h2⟩⟩,rfl⟩
theorem pO (v:Value) (ts:List dX) (f:FuncId) (us ws:List Value) (p:Nat→Bool) [i:cJ prog f f] (hv:cF R 1 v ts.length (ts.map (·.1))) (hl:ts.length≤1000000)
 (hf:∀ (i:Nat) (h:i<ts.length),Ct prog f (us++[(ts[i]).1]++ws).toArray e R (fun v' L'=>v'=.bool (p i)∧R=L')) :
 Ct prog 203 #[v,.func (.func f) us.toArray ws.toArray] e R (fun v' L'=>v'=.bool (decide (∃ i,i<ts.length∧p i=true))∧R=L'):=by
 refine a8 (args:=[_,_]) func203 rfl ntmps203 results203 rfl ?_;refine wB ?_;refine aZ rfl rfl (u3 _ e v ts f us ws p hv hl hf) ?_;rintro _ _ ⟨⟨k,rfl,hk⟩,rfl⟩;rcases hk with ⟨rfl,hk⟩|⟨j,rfl,hj,hp,_⟩
 ·rw [aq (fun ⟨i,h1,h2⟩=>by rw [hk i h1] at h2;cases h2)];refine wB ?_;exact aY R rfl aX ⟨rfl,rfl⟩
 ·rw [ay ⟨j,hj,hp⟩];refine wB ?_;exact aY R rfl aX ⟨rfl,rfl⟩
theorem pb (v:Value) (seed:List UInt8) (hv:da R v seed) (hs:seed.length≤1000) :
 Ct prog 143 #[v] e R (fun v' L'=>∃ ad c ts,v'=.slice ad ts.length c∧ts.map (·.2)=er seed∧L'=cU (.slice ad ts.length c) ts::cG ts::R):=by
 refine a8 (args:=[_]) func143 rfl ntmps143 results143 rfl ?_;refine wB ?_;refine br (ι:=Nat × List dX × Option Addr × Nat) (fun i=>[(0,v),(3,.slice i.2.2.1 i.2.1.length i.2.2.2),(5,.int .i64 (i.1:Int))]) (fun i=>cU (.slice i.2.2.1 i.2.1.length i.2.2.2) i.2.1::cG i.2.1::R) (fun i=>i.1≤16∧i.2.1.map (·.2)=(List.range i.1).map (fN seed)) (fun i=>16 - i.1) (0,[],none,0) ⟨by omega,rfl⟩ zS (cn dC (di dZ 1)) ?_;rintro ⟨i,ts,ad,c⟩ ⟨hi,fx⟩;dsimp only at hi fx ⊢
 have y7:ts.length=i:=by simpa using congrArg List.length fx
 by_cases cQ:i<16
 rotate_left
 ·have IS:i=16:=by omega
  subst IS;refine wB ?_;exact aY _ rfl aX ⟨ad,c,ts,rfl,fx,rfl⟩
 have jk:∀ (w:Value),(ts++[(w,fN seed i)]).map (·.2)=(List.range (i+1)).map (fN seed):=fun w=>by
  rw [ah,fx,List.range_succ,ah]
  rfl
 have SI:=vT (cU (.slice ad ts.length c) ts::cG ts::R) e v seed i hv.tail.tail hs cQ
 generalize fN seed i=b at *
 refine wB ?_;refine aZ rfl rfl SI ?_;rintro _ _ ⟨ep,c3,rfl,rfl⟩
 (repeat (refine wA ?_;intros))
 refine bD (bm rfl rfl rfl (.succ (.succ .zero)) (bu .zero rfl zl) rfl rfl zO zm zo fun gZ c4 _=>?_)
 refine wB ?_;refine bi (i+1,ts++[(.slice ep b.length c3,b)],gZ,c4) ⟨cQ,jk _⟩ zd ?_ ?_
 ·dsimp only;rw [aa,aj];exact zS
 ·exact cn (show cC _ (dJ dZ 1 (.slice gZ (ts.length+1) c4) (ts.length+1) (ts.map (·.1)++[.slice ep b.length c3])::cR (.slice ep b.length c3) b::cG ts::R) from zE) eV
theorem eR {ts:List dX} {i:Nat} (h:i<ts.length):(ts.map (·.2)).getD i []=(ts[i]'h).2:=by
 rw [aL,aI,ae h];rfl
theorem xp (v:Value) (ts:List dX) (hv:cF R 1 v ts.length (ts.map (·.1))) (ht:dE R ts) (jD:∀ a∈ts,a.2.length=32) (hl:ts.length≤16) :
 Ct prog 144 #[v] e R (fun v' L'=>∃ ad c us,v'=.slice ad us.length c∧us.map (·.2)=ix (ts.map (·.2))∧L'=cU (.slice ad us.length c) us::cG us::R):=by
 refine a7 (hv.shape zo) ?_;rintro ⟨⟨ot,cap,rfl,h3,h4,h5,h6⟩,_⟩;simp only [maxLen] at h4
 have qy:=gO (ts.map (·.2));rw [ab] at qy
 refine a8 (args:=[_]) func144 rfl ntmps144 results144 rfl ?_;refine wB ?_;refine br (ι:=Nat × List dX × Option Addr × Nat) (fun i=>[(0,.slice ot ts.length cap),(3,.slice i.2.2.1 i.2.1.length i.2.2.2),(4,.int .i64 (2*(i.1:Int)))]) (fun i=>cU (.slice i.2.2.1 i.2.1.length i.2.2.2) i.2.1::cG i.2.1::R) (fun i=>2*i.1≤ts.length∧i.2.1.map (·.2)=(ix (ts.map (·.2))).take i.1) (fun i=>ts.length - i.1) (0,[],none,0) ⟨by omega,by simp⟩ zS (cn dC (di dZ 1)) ?_;rintro ⟨i,us,ad,c⟩ ⟨hi,fZ⟩;dsimp only at hi fZ ⊢
 have y7:us.length=i:=by have:=congrArg List.length fZ;rw [ab,aE] at this;omega
 by_cases cQ:2*i+1<ts.length
 rotate_left
 ·rw [aF zo] at fZ
  refine wB ?_;exact aY _ rfl aX ⟨ad,c,us,rfl,fZ,rfl⟩
 have ha:=oe (ts.map (·.2)) i (by rw [ab];exact cQ);rw [eR (show 2*i<ts.length by omega),eR cQ] at ha
 have jk:∀ (w:Value) (b:List UInt8),b=(ix (ts.map (·.2))).getD i []→(us++[(w,b)]).map (·.2)=(ix (ts.map (·.2))).take (i+1):=fun w b h=>by
  rw [ah,fZ,aA zo,h]
  congr 1
  rw [aL,ae zo]
  rfl
 rcases h6 with h6|⟨gl,ol,rfl⟩
 ·omega
 have MP:Rd R ⟨gl,ol+2*i,none⟩ (ts[2*i]'zo).1:=hv.elem (by rw [aI,ae zo];rfl);have Ko:Rd R ⟨gl,ol+(2*i+1),none⟩ (ts[2*i+1]'cQ).1:=hv.elem (by rw [aI,ae cQ];rfl);have IX:=ht _ (az (show 2*i<ts.length by omega));have HE:=ht _ (az cQ);have Uy:=jD _ (az (show 2*i<ts.length by omega));have M9:=jD _ (az cQ)
 generalize ts[2*i]'zo=y0 at *
 generalize ts[2*i+1]'cQ=y1 at *
 obtain ⟨v0,b0⟩:=y0;obtain ⟨v1,b1⟩:=y1;dsimp only at MP Ko IX HE Uy M9 ha
 refine bG (cz IX.tail.tail) fun VQ=>?_
 refine bG (cz HE.tail.tail) fun Ru=>?_
 rw [show (2*(i:Int))=((2*i:Nat):Int) by omega];refine wB ?_;refine bl (id:=5) [14] (cG us::R) mixed ?_
 (refine tM 0 ?_;refine tM 1 ?_;refine tM 2 ?_;refine tk 3 _ rfl (cE.fp rfl rfl zo) ?_;refine tL 4 ?_;refine tM 5 ?_;refine tM 6 ?_;refine tk 7 _ rfl (cE.la rfl rfl zo) ?_;refine tk 8 _ rfl (cE.fp rfl rfl zo) ?_;refine tL 9 ?_)
 refine tO 10 ?_;refine bF (n:=1) (z:=nY) (cs:=[v0,v1]) rfl rfl rfl rfl (.one (dU VQ) rfl (.one (dU Ru) rfl .nil)) rfl (fun gb=>⟨fun _=>zE,?_⟩);refine tO 11 ?_
 refine bg rfl rfl (fe _ e 14 _ [(v0,b0),(v1,b1)] (bu .zero rfl zl) (fun a ha=>by
  simp only [aQ,aO,or_false] at ha
  rcases ha with rfl|rfl
  ·exact IX.tail.tail.tail
  ·exact HE.tail.tail.tail) (fun a ha=>by
  simp only [aQ,aO,or_false] at ha
  rcases ha with rfl|rfl
  ·dsimp only;omega
  ·dsimp only;omega) (by simp)) ?_
 rintro _ _ ⟨ep,c3,rfl,rfl⟩;rw [show ez 14 ([(v0,b0),(v1,b1)].map (·.2))=ez 14 [b0,b1] from rfl,← ha]
 generalize (ix (ts.map (·.2))).getD i []=b at *
 refine ⟨fun _=>zE,?_⟩;refine tO 12 ?_;refine bF (n:=1) (z:=nY) (cs:=[.slice ep b.length c3]) rfl rfl rfl rfl (.one rfl rfl .nil) rfl (fun gc=>⟨fun _=>zE,?_⟩);refine tO 13 ?_;refine bm rfl rfl rfl (.succ (.succ (.succ .zero))) (bu .zero rfl zl) rfl rfl zO zm zo fun gZ c4 _=>⟨fun _=>zE,?_⟩
 ((refine tO 14 ?_;refine dV (bj rfl) ?_))
 refine bf zK ?_;refine wB ?_;refine bi (i+1,us++[(.slice ep b.length c3,b)],gZ,c4) ⟨by dsimp only;omega,jk _ _ rfl⟩ zd ?_ ?_
 ·dsimp only;rw [aa,aj,show (2*((i+1:Nat):Int))=((2*i:Nat):Int)+2 by omega];exact zS
 ·exact cn (show cC _ (dJ dZ 1 (.slice gZ (us.length+1) c4) (us.length+1) (us.map (·.1)++[.slice ep b.length c3])::cR (.slice ep b.length c3) b::cG us::R) from zE) eV
theorem lV (v:Value) (seed:List UInt8) (hv:da R v seed) (hs:seed.length=32) :
 Ct prog 67 #[v] e R (fun v' L'=>∃ M:cK,L'=M::R∧da [M] v' (fu seed)):=by
 refine a7 (cF.shape hv zo) ?_;rintro ⟨⟨ot,cap,rfl,_,_,_,_⟩,_⟩;refine a8 (args:=[_]) func67 rfl ntmps67 results67 rfl ?_;refine wB ?_;refine aZ rfl rfl (pb _ e _ seed hv zo) ?_;rintro _ _ ⟨ad,c,ts,rfl,fx,rfl⟩;have CZ:=jg (gE seed);have FN:=nH (lh (seed:=seed));refine wB ?_;refine br (ι:=Nat × List dX × Option Addr × Nat) (fun i=>[(3,.slice i.2.2.1 i.2.1.length i.2.2.2),(9,.int .i64 (i.1:Int))]) (fun i=>cU (.slice i.2.2.1 i.2.1.length i.2.2.2) i.2.1::cG i.2.1::R) (fun i=>i.1≤4∧i.2.1.map (·.2)=nf (er seed) i.1) (fun i=>4 - i.1) (0,ts,ad,c) ⟨by omega,fx⟩ zS aX ?_;clear fx;rintro ⟨i,us,dS,c2⟩ ⟨hi,fZ⟩;dsimp only at hi fZ ⊢
 have HD:us.length=2 ^ (4 - i):=by have:=congrArg List.length fZ;rw [ab,CZ i hi] at this;exact this
 have VR:us.length≤16:=by rw [HD];exact Nat.le_trans (Nat.pow_le_pow_right zo (show 4 - i≤4 by omega)) (by decide)
 by_cases cQ:i<4
 ·refine wB ?_;refine aZ rfl rfl (xp _ e _ us (ba .zero) (dE.tail ef) (lU fZ (FN i)) VR) ?_;rintro _ _ ⟨ep,c3,ws,rfl,Kn,rfl⟩;refine wB ?_;exact bi (i+1,ws,ep,c3) ⟨cQ,by dsimp only;rw [Kn,fZ];rfl⟩ zd zS zE
 have IS:i=4:=by omega
 subst IS;have h1:us.length=1:=HD;refine bG (De .zero zo) ?_;rintro ⟨p,rfl⟩;have h0:0<us.length:=by omega
 have hr:Rd (cU (.slice (some ⟨p,0,none⟩) us.length c2) us::cG us::R) ⟨p,0,none⟩ (us[0]'h0).1:=by
  have:=(ba (L:=cU (.slice (some ⟨p,0,none⟩) us.length c2) us::cG us::R) .zero).elem (j:=0) (u:=(us[0]'h0).1) (by rw [aI,ae h0];rfl);exact this
 have sF:da [cG us] (us[0]'h0).1 (us[0]'h0).2:=ef _ (az h0);have xo:(us[0]'h0).2=fu seed:=by rw [← eR h0,fZ];rfl
 rw [xo] at sF
 generalize (us[0]'h0).1=w at *
 refine wB ?_;exact aY (cG us::R) rfl zE ⟨cG us,rfl,sF⟩
end Go.Proofs
namespace Go.Bs
def iF (l:List (List UInt8)) (i:Nat):List (List UInt8) :=
 if h:2≤l.length then
  if i<cO l.length then iF (l.take (cO l.length)) i++[dR (l.drop (cO l.length))]
  else iF (l.drop (cO l.length)) (i - cO l.length)++[dR (l.take (cO l.length))]
 else []
 termination_by l.length
 decreasing_by
 ·have:=dw h;rw [aE];omega
 ·have:=dw h;rw [aP];omega
def jl (n i:Nat):Nat :=
 if h:2≤n then
  if i<cO n then jl (cO n) i+1 else jl (n - cO n) (i - cO n)+1
 else 0
 termination_by n
 decreasing_by
 ·have:=dw h;omega
 ·have:=dw h;omega
def ll (p:List (List UInt8)):List UInt8:=p.getLast?.getD []
def lm (n i:Nat) (p:List (List UInt8)) (x:List UInt8):List UInt8 :=
 if h:2≤n then
  if i<cO n then ew (lm (cO n) i p.dropLast x) (ll p) else ew (ll p) (lm (n - cO n) (i - cO n) p.dropLast x)
 else x
 termination_by n
 decreasing_by
 ·have:=dw h;omega
 ·have:=dw h;omega
theorem rH {l:List (List UInt8)} {i:Nat} (h:¬ 2≤l.length):iF l i=[]:=by rw [iF,dif_neg h]
theorem sM {l:List (List UInt8)} {i:Nat} (h:2≤l.length) (hi:i<cO l.length):iF l i=iF (l.take (cO l.length)) i++[dR (l.drop (cO l.length))]:=by rw [iF,dif_pos h,aH hi]
theorem sN {l:List (List UInt8)} {i:Nat} (h:2≤l.length) (hi:¬ i<cO l.length):iF l i=iF (l.drop (cO l.length)) (i - cO l.length)++[dR (l.take (cO l.length))]:=by rw [iF,dif_pos h,aB hi]
theorem ow {n i:Nat} (h:¬ 2≤n):jl n i=0:=by rw [jl,dif_neg h]
theorem xq {n i:Nat} (h:2≤n) (hi:i<cO n):jl n i=jl (cO n) i+1:=by rw [jl,dif_pos h,aH hi]
theorem xr {n i:Nat} (h:2≤n) (hi:¬ i<cO n):jl n i=jl (n - cO n) (i - cO n)+1:=by rw [jl,dif_pos h,aB hi]
theorem rI {n i:Nat} {p:List (List UInt8)} {x:List UInt8} (h:¬ 2≤n):lm n i p x=x:=by rw [lm,dif_neg h]
theorem DA {n i:Nat} {p:List (List UInt8)} {x:List UInt8} (h:2≤n) (hi:i<cO n):lm n i p x=ew (lm (cO n) i p.dropLast x) (ll p):=by rw [lm,dif_pos h,aH hi]
theorem DB {n i:Nat} {p:List (List UInt8)} {x:List UInt8} (h:2≤n) (hi:¬ i<cO n):lm n i p x=ew (ll p) (lm (n - cO n) (i - cO n) p.dropLast x):=by rw [lm,dif_pos h,aB hi]
theorem mA (p:List (List UInt8)) (a:List UInt8):ll (p++[a])=a:=by simp [ll]
theorem oA:∀ (n:Nat) (l:List (List UInt8)) (i:Nat),l.length=n→(iF l i).length=jl l.length i:=by
 intro n
 induction n using Nat.strongRecOn with
 | ind n ih =>
  intro l i hn
  by_cases h:2≤l.length
  ·have hs:=dw h
   by_cases hi:i<cO l.length
   ·have e1:(l.take (cO l.length)).length=cO l.length:=by rw [aE];omega
    rw [sM h hi,xq h hi,aa,aj,ih _ (by omega) _ i e1,e1]
   ·have e1:(l.drop (cO l.length)).length=l.length - cO l.length:=aP;rw [sN h hi,xr h hi,aa,aj,ih _ (by omega) _ _ e1,e1]
  ·rw [rH h,ow h];rfl
theorem FO:∀ (n:Nat) (l:List (List UInt8)) (i:Nat) (x:List UInt8),l.length=n→i<l.length→lm l.length i (iF l i) x=dR (l.set i x):=by
 intro n
 induction n using Nat.strongRecOn with
 | ind n ih =>
  intro l i x hn FI
  by_cases h:2≤l.length
  ·have hs:=dw h;have so:=je (l:=l.set i x) (by rw [List.length_set];exact h);rw [List.length_set] at so
   by_cases hi:i<cO l.length
   ·have e1:(l.take (cO l.length)).length=cO l.length:=by rw [aE];omega
    have e2:=ih _ (by omega) (l.take (cO l.length)) i x e1 (by omega);rw [e1] at e2
    rw [DA h hi,sM h hi,mA,List.dropLast_concat,e2,so,List.take_set,List.drop_set_of_lt hi]
   ·have e1:(l.drop (cO l.length)).length=l.length - cO l.length:=aP;have e2:=ih _ (by omega) (l.drop (cO l.length)) (i - cO l.length) x e1 (by omega);rw [e1] at e2
    rw [DB h hi,sN h hi,mA,List.dropLast_concat,e2,so,List.take_set_of_le (by omega),List.drop_set];rw [aB hi]
  ·rw [rI h]
   match l,h,FI with
   | [a],_,FI =>
    obtain rfl:i=0:=by simp at FI;omega
    rw [List.set_cons_zero,mh]
   | [],_,FI=>simp at FI
   | _::_::_,h,_=>simp at h
theorem gH {l:List (List UInt8)} (h:∀ a∈l,a.length=32):(dR l).length=32:=by
 match l,h with
 | [],_=>rw [j0,jT]
 | [a],h=>rw [mh];exact h a (an.2 rfl)
 | a::b::r,_=>rw [je (by simp)];exact de _ _
theorem FP:∀ (n:Nat) (l:List (List UInt8)) (i:Nat),l.length=n→(∀ a∈l,a.length=32)→∀ a∈iF l i,a.length=32:=by
 intro n
 induction n using Nat.strongRecOn with
 | ind n ih =>
  intro l i hn hh a ha
  by_cases h:2≤l.length
  ·have hs:=dw h
   by_cases hi:i<cO l.length
   ·rw [sM h hi] at ha
    rcases aJ.1 ha with q|q
    ·exact ih _ (by rw [aE];omega) _ i rfl (fun b hb=>hh b (aN hb)) a q
    ·rw [an.1 q];exact gH fun b hb=>hh b (aS hb)
   ·rw [sN h hi] at ha
    rcases aJ.1 ha with q|q
    ·exact ih _ (by rw [aP];omega) _ _ rfl (fun b hb=>hh b (aS hb)) a q
    ·rw [an.1 q];exact gH fun b hb=>hh b (aN hb)
  ·rw [rH h] at ha;cases ha
theorem u4 {n t:Nat} (h:n≤2 ^ (t+1)) (h2:2≤n):cO n≤2 ^ t:=by
 unfold cO;rw [aB (by omega)];refine Nat.pow_le_pow_right (by omega) ?_;have:(n - 1).log2<t+1:=(Nat.log2_lt (by omega)).2 (by omega)
 omega
theorem pP:∀ (t n i:Nat),n≤2 ^ t→jl n i≤t
 | 0,n,i,h=>by rw [ow (by rw [Nat.pow_zero] at h;omega)];exact aT _
 | t+1,n,i,h=>by
  by_cases h2:2≤n
  ·have hs:=dw h2;have hh:=u4 h h2
   by_cases hi:i<cO n
   ·rw [xq h2 hi];have:=pP t _ i hh;omega
   ·rw [xr h2 hi];have:=pP t (n - cO n) (i - cO n) (by omega);omega
  ·rw [ow h2];omega
end Go.Bs
namespace Go.Proofs
attribute [local irreducible] Bs.cE Bs.Do Bs.O Bs.W Bs.Fin Bs.A Bs.Ct Bs.cF Bs.Rd Bs.Sat Bs.cM Bs.Ob Bs.dJ Bs.View Bs.cC Bs.Ex Bs.dI Bs.Pu Bs.eZ Bs.dK Bs.eh
open Go.Bs
open Tryz
variable (R:List cK) (e:World)
theorem IY:∀ (n:Nat) (R:List cK) (e:World) (v:Value) (ts:List dX) (i:Nat),ts.length=n→cF R 1 v ts.length (ts.map (·.1))→dE R ts→(∀ a∈ts,a.2.length≤1000000)→ts.length≤1000000→i≤1000000 →
 Ct prog 157 #[v,.int .i64 (i:Int)] e R (fun v' L'=>∃ ad c out,v'=.slice ad out.length c∧out.map (·.2)=iF (ts.map (·.2)) i∧L'=cU (.slice ad out.length c) out::cG out::R):=by
 intro n
 induction n using Nat.strongRecOn with
 | _ n ih =>
 intro R e v ts i hn hv ht hb hl X2;refine a7 (hv.shape zo) ?_;rintro ⟨⟨ad,cap,rfl,h3,h4,h5,h6⟩,_⟩;simp only [maxLen] at h4
 refine a8 (args:=[_,_]) func157 rfl ntmps157 results157 rfl ?_;refine wB ?_;refine aZ rfl rfl (my R e ts.length zo) ?_;rintro _ _ ⟨rfl,rfl⟩;rw [jd]
 by_cases h2:2≤ts.length
 rotate_left
 ·have h0:cO ts.length=0:=by unfold cO;rw [aH zo]
  rw [h0];refine wB ?_;exact aY (cU nY []::cG []::R) rfl (cn dC (di _ _)) ⟨none,0,[],rfl,by rw [rH (by rw [ab];exact h2)];rfl,rfl⟩
 have hs:=dw h2;have ui:=fun h=>sM (l:=ts.map (·.2)) (i:=i) (by rw [ab];exact h2) h
 have IZ:=fun h=>sN (l:=ts.map (·.2)) (i:=i) (by rw [ab];exact h2) h
 rw [ab,← List.map_take,← List.map_drop] at ui IZ
 have BF:=iJ hv (k:=cO ts.length) zo;have yY:=mj hv (k:=cO ts.length) zo
 generalize cO ts.length=k at *
 have K2:(ts.take k).length=k:=by rw [aE];omega
 have yZ:(ts.drop k).length=ts.length - k:=aP
 by_cases xt:i<k
 ·refine wB ?_;refine bE (id:=5) [11] mixed ?_
  (refine tM 0 ?_;refine tM 1 ?_;refine tk 2 _ rfl (cE.gY rfl rfl zo zo) ?_;refine tM 3 ?_;refine tM 5 ?_;refine tM 6 ?_;refine tk 7 _ rfl (cE.jw rfl rfl zo zo) ?_)
  refine tO 4 ?_;refine bg rfl rfl (ih k zo R e _ (ts.take k) i K2 BF (gF ht fun x hx=>aN hx) (fun a ha=>hb a (aN ha)) zo X2) ?_;rintro _ _ ⟨dW,c1,out,rfl,ho,rfl⟩
  have y7:out.length≤1000000:=by
   have h7:=congrArg List.length ho;rw [ab,oA _ _ _ rfl] at h7
   have:=pP 20 (ts.take k).length i zo;rw [ab] at h7
   omega
  refine ⟨fun _=>zE,?_⟩;refine tO 8 ?_;refine bg rfl rfl (j1 (ts.length - k) _ e _ (ts.drop k) yZ yY.tail.tail (dE.tail (dE.tail (gF ht fun x hx=>aS hx))) (fun a ha=>hb a (aS ha)) zo) ?_;rintro _ _ ⟨dS,c2,rfl,rfl⟩;refine ⟨fun _=>zE,?_⟩
  generalize so:dR ((ts.drop k).map (·.2))=rt at *
  refine tO 9 ?_;refine bF (n:=1) rfl rfl rfl rfl zQ rfl (fun g2=>⟨fun _=>zE,?_⟩);refine tO 10 ?_;refine bm rfl rfl rfl (.succ (.succ .zero)) (bQ (n:=1) (c:=1) .zero rfl zl) rfl rfl zO zm zo fun ep c3 _=>⟨fun _=>zE,?_⟩
  ((refine tO 11 ?_;refine dV (bj rfl) ?_))
  refine bf zK ?_;refine wB ?_;refine aY (cU (.slice ep (out++[((Value.slice dS rt.length c2,rt):dX)]).length c3) (out++[((Value.slice dS rt.length c2,rt):dX)])::cG (out++[((Value.slice dS rt.length c2,rt):dX)])::R) rfl (cn zE eV) ⟨ep,c3,out++[((Value.slice dS rt.length c2,rt):dX)],by rw [aa,aj];rfl,by rw [ah,ho,ui xt];rfl,rfl⟩
 ·refine wB ?_;refine bE (id:=6) [13] mixed ?_
  (refine tM 0 ?_;refine tM 1 ?_;refine tk 2 _ rfl (cE.jw rfl rfl zo zo) ?_;refine tM 3 ?_;refine tM 4 ?_;refine tk 5 _ rfl (cE.jL rfl rfl zo) ?_;refine tM 7 ?_;refine tM 8 ?_;refine tk 9 _ rfl (cE.gY rfl rfl zo zo) ?_)
  rw [show ((i:Nat):Int) - ((k:Nat):Int)=((i - k:Nat):Int) by omega];refine tO 6 ?_;refine bg rfl rfl (ih (ts.length - k) zo R e _ (ts.drop k) (i - k) yZ yY (gF ht fun x hx=>aS hx) (fun a ha=>hb a (aS ha)) zo zo) ?_;rintro _ _ ⟨dW,c1,out,rfl,ho,rfl⟩
  have y7:out.length≤1000000:=by
   have h7:=congrArg List.length ho;rw [ab,oA _ _ _ rfl] at h7
   have:=pP 20 (ts.drop k).length (i - k) zo;rw [ab] at h7
   omega
  refine ⟨fun _=>zE,?_⟩;refine tO 10 ?_;refine bg rfl rfl (j1 k _ e _ (ts.take k) K2 BF.tail.tail (dE.tail (dE.tail (gF ht fun x hx=>aN hx))) (fun a ha=>hb a (aN ha)) zo) ?_;rintro _ _ ⟨dS,c2,rfl,rfl⟩;refine ⟨fun _=>zE,?_⟩
  generalize so:dR ((ts.take k).map (·.2))=rt at *
  refine tO 11 ?_;refine bF (n:=1) rfl rfl rfl rfl zQ rfl (fun g2=>⟨fun _=>zE,?_⟩);refine tO 12 ?_;refine bm rfl rfl rfl (.succ (.succ .zero)) (bQ (n:=1) (c:=1) .zero rfl zl) rfl rfl zO zm zo fun ep c3 _=>⟨fun _=>zE,?_⟩
  ((refine tO 13 ?_;refine dV (bj rfl) ?_))
  refine bf zK ?_;refine wB ?_;refine aY (cU (.slice ep (out++[((Value.slice dS rt.length c2,rt):dX)]).length c3) (out++[((Value.slice dS rt.length c2,rt):dX)])::cG (out++[((Value.slice dS rt.length c2,rt):dX)])::R) rfl (cn zE eV) ⟨ep,c3,out++[((Value.slice dS rt.length c2,rt):dX)],by rw [aa,aj];rfl,by rw [ah,ho,IZ xt];rfl,rfl⟩
theorem BK (v:Value) (ts:List dX) (n:Int) (hn:-9223372036854775808≤n∧n≤9223372036854775807) (hv:cF R 1 v ts.length (ts.map (·.1))) (ht:dE R ts) (hb:∀ a∈ts,a.2.length≤1000000) (hl:ts.length≤1000000) :
 Ct prog 79 #[v,.int .i64 n] e R (fun v' L' =>
  (¬ (0≤n∧n<ts.length)∧v'=.tuple #[.agg #[.int .i64 0,.int .i64 0,nY],.int .i64 1]∧R=L') ∨
  (0≤n∧n<ts.length∧∃ ad c out,v'=.tuple #[.agg #[.int .i64 n,.int .i64 (ts.length:Int),.slice ad out.length c],.int .i64 0]∧out.map (·.2)=iF (ts.map (·.2)) n.toNat∧L'=cU (.slice ad out.length c) out::cG out::R)):=by
 refine a7 (hv.shape zo) ?_;rintro ⟨⟨ad,cap,rfl,h3,h4,h5,h6⟩,_⟩;refine bI (args:=[_,_]) func79 rfl ntmps79 results79 rfl ?_
 by_cases kQ:0≤n∧n<ts.length
 rotate_left
 ·by_cases h0:n<0
  ·(repeat (refine wA ?_;intros))
   apply bB;exact zV;exact ⟨R,zE,.inl ⟨kQ,rfl,rfl⟩⟩
  ·(repeat (refine wA ?_;intros))
   apply bB;exact zV;exact ⟨R,zE,.inl ⟨kQ,rfl,rfl⟩⟩
 obtain ⟨h0,cQ⟩:=kQ;obtain ⟨m,rfl⟩:=Int.eq_ofNat_of_zero_le h0;rw [Int.toNat_natCast]
 (repeat (refine wA ?_;intros))
 refine aZ rfl rfl (IY ts.length _ e _ ts m rfl hv.tail ht.tail hb hl zo) ?_;rintro _ _ ⟨dW,c1,out,rfl,ho,rfl⟩;refine wB ?_;apply bB;exact zV;exact ⟨cU (.slice dW out.length c1) out::cG out::R,zE,.inr ⟨h0,cQ,dW,c1,out,rfl,ho,rfl⟩⟩
theorem sO (v:Value) (b:List UInt8) (hv:da R v b) :
 Ct prog 205 #[v] e R (fun v' L'=>v'=.bool (decide (b.length=32))∧R=L'):=by
 refine a7 (cF.shape hv zo) ?_;rintro ⟨⟨ad,cap,rfl,h3,h4,h5,h6⟩,_⟩;refine a8 (args:=[_]) func205 rfl ntmps205 results205 rfl ?_
 by_cases h:b.length=32
 ·rw [ay h];refine wB ?_;exact aY R rfl aX ⟨rfl,rfl⟩
 ·rw [aq h];refine wB ?_;exact aY R rfl aX ⟨rfl,rfl⟩
theorem I0 (v:Value) (b:List UInt8) (hv:da R v b) :
 Ct prog 204 #[v] e R (fun v' L'=>v'=.bool (!decide (b.length=32))∧R=L'):=by
 refine a8 (args:=[_]) func204 rfl ntmps204 results204 rfl ?_;refine wB ?_;refine aZ rfl rfl (sO _ e v b hv) ?_;rintro _ _ ⟨rfl,rfl⟩
 by_cases h:b.length=32
 ·rw [ay h];refine wB ?_;exact aY R rfl aX ⟨rfl,rfl⟩
 ·rw [aq h];refine wB ?_;exact aY R rfl aX ⟨rfl,rfl⟩
theorem FQ (v:Value) (ts:List dX) (hv:cF R 1 v ts.length (ts.map (·.1))) (ht:dE R ts) (hl:ts.length≤1000000) :
 Ct prog 264 #[v,.func (.func 204) #[] #[]] e R (fun v' L'=>(∃ k:Int,v'=.int .i64 k∧(0≤k↔¬ ∀ a∈ts,a.2.length=32))∧R=L'):=by
 refine a7 (hv.shape zo) ?_;rintro ⟨⟨ad,cap,rfl,h3,h4,h5,h6⟩,_⟩;refine a8 (args:=[_,_]) func264 rfl ntmps264 results264 rfl ?_;refine wB ?_;refine br (ι:=Nat) (fun i=>[(0,.slice ad ts.length cap),(1,.func (.func 204) #[] #[]),(7,.int .i64 (ts.length:Int)),(8,.int .i64 (i:Int))]) (fun _=>R) (fun i=>i≤ts.length∧∀ a∈ts.take i,a.2.length=32) (fun i=>ts.length - i) 0 ⟨aG _,fun a ha=>(by cases ha)⟩ (cD rfl (cD rfl (cD rfl (cD rfl dc)))) aX ?_;rintro i ⟨h1,h2⟩
 by_cases cQ:i<ts.length
 rotate_left
 ·rw [aF zo] at h2
  refine wB ?_;exact aY R rfl aX ⟨⟨-1,rfl,⟨fun h=>absurd h (by decide),fun h=>absurd h2 h⟩⟩,rfl⟩
 rcases h6 with h6|⟨gl,ol,rfl⟩
 ·omega
 have hr:Rd R ⟨gl,ol+i,none⟩ (ts[i]'cQ).1:=hv.elem (by rw [aI,ae cQ];rfl);have hm:=az cQ;have hx:=ht _ hm;have fq:ts.take (i+1)=ts.take i++[ts[i]'cQ]:=aA cQ
 generalize ts[i]'cQ=y at *
 refine wB ?_;refine O.gT (us:=[]) (ws:=[]) rfl rfl rfl (I0 R e y.1 y.2 hx) ?_;rintro _ _ ⟨rfl,rfl⟩
 by_cases jD:y.2.length=32
 ·rw [ay jD];refine wB ?_;refine bi (i+1) ⟨cQ,fun a ha=>?_⟩ zo (cD rfl (cD rfl (cD rfl (cD rfl dc)))) aX;rw [fq] at ha
  rcases aJ.1 ha with q|q
  ·exact h2 a q
  ·rw [an.1 q];exact jD
 ·rw [aq jD];refine wB ?_;exact aY R rfl aX ⟨⟨i,rfl,⟨fun _ h=>jD (h y hm),fun _=>by omega⟩⟩,rfl⟩
theorem y8 (v:Value) (ts:List dX) (hv:cF R 1 v ts.length (ts.map (·.1))) (ht:dE R ts) (hl:ts.length≤1000000) :
 Ct prog 203 #[v,.func (.func 204) #[] #[]] e R (fun v' L'=>v'=.bool (!decide (∀ a∈ts,a.2.length=32))∧R=L'):=by
 refine a8 (args:=[_,_]) func203 rfl ntmps203 results203 rfl ?_;refine wB ?_;refine aZ rfl rfl (FQ _ e v ts hv ht hl) ?_;rintro _ _ ⟨⟨k,rfl,hk⟩,rfl⟩
 by_cases h:∀ a∈ts,a.2.length=32
 ·rw [ay h];have:¬ 0≤k:=fun h0=>hk.1 h0 h
  refine wB ?_;exact aY R rfl aX ⟨rfl,rfl⟩
 ·rw [aq h];have:=hk.2 h;refine wB ?_;exact aY R rfl aX ⟨rfl,rfl⟩
def jF (l:List dX):Bool:=decide (l.length≤16∧∀ a∈l,a.2.length=32)
theorem m0 (v:Value) (ts:List dX) (hv:cF R 1 v ts.length (ts.map (·.1))) (ht:dE R ts) :
 Ct prog 119 #[v] e R (fun v' L'=>v'=.bool (jF ts)∧R=L'):=by
 refine a7 (hv.shape zo) ?_;rintro ⟨⟨ad,cap,rfl,h3,h4,h5,h6⟩,_⟩;refine a8 (args:=[_]) func119 rfl ntmps119 results119 rfl ?_
 by_cases hl:ts.length≤16
 rotate_left
 ·rw [show jF ts=false from aq fun h=>hl h.1];refine wB ?_;exact aY R rfl aX ⟨rfl,rfl⟩
 refine wB ?_;refine aZ rfl rfl (y8 _ e _ ts hv ht zo) ?_;rintro _ _ ⟨rfl,rfl⟩
 by_cases h:∀ a∈ts,a.2.length=32
 ·rw [ay h,show jF ts=true from ay ⟨hl,h⟩];refine wB ?_;exact aY R rfl aX ⟨rfl,rfl⟩
 ·rw [aq h,show jF ts=false from aq fun q=>h q.2];refine wB ?_;exact aY R rfl aX ⟨rfl,rfl⟩
theorem uz (ad:Option Addr) (cap:Nat) (ts:List dX) (hv:cF R 1 (.slice ad ts.length cap) ts.length (ts.map (·.1))) (hl:ts.length≤1000000) :
 Ct prog 312 #[.slice ad ts.length cap] e R (fun v' L'=>((ts=[]∧v'=.tuple #[nY,nY,.bool false])∨(∃ us a,ts=us++[a]∧v'=.tuple #[.slice ad us.length cap,a.1,.bool true]))∧R=L'):=by
 refine a7 (hv.shape zo) ?_;rintro ⟨⟨lE,PA,hq,h3,h4,h5,h6⟩,_⟩;obtain ⟨rfl,_,rfl⟩:=Value.slice.inj hq;clear hq;simp only [maxLen] at h4
 refine a8 (args:=[_]) func312 rfl ntmps312 results312 rfl ?_
 obtain rfl|⟨us,a,rfl⟩:ts=[]∨∃ us a,ts=us++[a]:=by
  rcases List.eq_nil_or_concat ts with h|⟨us,a,h⟩
  ·exact .inl h
  ·exact .inr ⟨us,a,by rw [h,List.concat_eq_append]⟩
 ·have e0:((([]:List dX).length:Nat):Int)=0:=rfl;refine wB ?_;exact aY R rfl aX ⟨.inl ⟨rfl,rfl⟩,rfl⟩
 have qL:(us++[a]).length=us.length+1:=by rw [aa,aj]
 rcases h6 with h6|⟨gl,ol,rfl⟩
 ·omega
 have hr:Rd R ⟨gl,ol+us.length,none⟩ a.1:=hv.elem (by simp);have e1:(((us++[a]).length:Nat):Int) - 1=(us.length:Int):=by omega
 refine wB ?_;rw [e1]
 (repeat' first|refine Za ?_|refine Zb ?_|apply Zc|apply Zd|apply Ze|apply Zf|refine Zi ?_|refine Zj ?_|refine Zk ?_|refine ZA ?_|refine ZB ?_|refine ZC (fun _=>?_) fun _=>?_|refine ZU ?_|refine ZV ?_|refine Ym ?_|refine Yr ?_|refine Ys ?_|refine Yt ?_|refine Yw ?_|refine Yx ?_|refine Yy ?_|refine Yz ?_|refine YA ?_|apply YC|apply YE|apply YF|(apply O.dj;exact rfl;exact zP;(first|(simp only [aC,Nat.add_zero,Nat.reduceAdd,List.drop_succ_cons,List.drop_zero,List.take_succ_cons,List.take_zero];done)|(simp only [aC,Nat.add_zero,Nat.reduceAdd,List.drop_succ_cons,List.drop_zero,List.take_succ_cons,List.take_zero];exact rfl));exact rfl;exact rfl))
 refine bE (id:=4) [8,9] mixed ?_
 (refine tM 0 ?_;refine tM 1 ?_;refine tk 2 _ rfl (cE.gY rfl rfl zo zo) ?_;refine tM 3 ?_;refine tM 4 ?_;refine tk 5 _ rfl (cE.fp rfl rfl zo) ?_;refine tL 6 ?_;refine tA 7 ?_;(refine tO 8 ?_;refine dV (bj rfl) ?_);(refine tO 9 ?_;refine dV (bj rfl) ?_))
 refine bf zK ?_;refine wB ?_;exact aY R rfl aX ⟨.inr ⟨us,a,rfl,rfl⟩,rfl⟩
theorem mn (us:List dX) (a:dX):ll ((us++[a]).map (·.2))=a.2:=by rw [ah];exact mA _ _
theorem lW (us:List dX) (a:dX):((us++[a]).map (·.2)).dropLast=us.map (·.2):=by rw [ah];exact List.dropLast_concat
theorem HF {R:List cK} {ad:Option Addr} {cap:Nat} {us:List dX} {a:dX} (h:cF R 1 (.slice ad (us++[a]).length cap) (us++[a]).length ((us++[a]).map (·.1))):cF R 1 (.slice ad us.length cap) us.length (us.map (·.1)):=by
 have:=iJ h (k:=us.length) (by simp)
 rwa [List.take_left'] at this
 rfl
theorem I1:∀ (m:Nat) (R:List cK) (e:World) (ad:Option Addr) (cap:Nat) (ts:List dX) (i n:Nat) (v:Value) (b:List UInt8),ts.length=m→cF R 1 (.slice ad ts.length cap) ts.length (ts.map (·.1))→dE R ts→(∀ a∈ts,a.2.length≤1000000)→ts.length≤1000000→n<9223372036854775808→i<9223372036854775808→da R v b→b.length≤1000000 →
 Ct prog 300 #[.slice ad ts.length cap,.int .i64 (i:Int),.int .i64 (n:Int),v] e R (fun v' L'=>∃ lE c t,v'=.tuple #[.slice lE t.length c,.bool (decide (ts.length=jl n i))]∧(ts.length=jl n i→t=lm n i (ts.map (·.2)) b)∧t.length≤1000000∧L'=cR (.slice lE t.length c) t::R):=by
 intro m
 induction m using Nat.strongRecOn with
 | _ m ih =>
 intro R e ad cap ts i n v b hm hv ht kD hl hn hi hb nZ;refine a8 (args:=[_,_,_,_]) func300 rfl ntmps300 results300 rfl ?_;refine wB ?_;refine aZ rfl rfl (my R e n zo) ?_;rintro _ _ ⟨rfl,rfl⟩;rw [jd]
 by_cases h2:2≤n
 rotate_left
 ·have h0:cO n=0:=by unfold cO;rw [aH zo]
  rw [h0];have E7:=ow (i:=i) h2;refine wB ?_;refine aZ rfl rfl (dy _ e _ b hb zo) ?_;rintro _ _ ⟨dW,c1,rfl,rfl⟩
  by_cases tR:ts.length=0
  ·refine wB ?_;exact aY (cR (.slice dW b.length c1) b::R) rfl aX ⟨dW,c1,b,by rw [E7,ay tR];rfl,fun _=>(rI h2).symm,nZ,rfl⟩
  ·refine wB ?_;exact aY (cR (.slice dW b.length c1) b::R) rfl aX ⟨dW,c1,b,by rw [E7,aq tR];rfl,fun _=>(rI h2).symm,nZ,rfl⟩
 have hs:=dw h2;have ui:=fun h=>xq (i:=i) h2 h
 have IZ:=fun h=>xr (i:=i) h2 h
 have PS:=fun p h=>DA (i:=i) (p:=p) (x:=b) h2 h
 have PT:=fun p h=>DB (i:=i) (p:=p) (x:=b) h2 h
 have yV:0<jl n i:=by
  by_cases h:i<cO n
  ·rw [ui h];omega
  ·rw [IZ h];omega
 generalize cO n=k at *
 refine wB ?_;refine aZ rfl rfl (uz _ e ad cap ts hv hl) ?_;rintro _ _ ⟨⟨rfl,rfl⟩|⟨us,a,rfl,rfl⟩,rfl⟩
 ·refine wB ?_;exact aY (cR nY []::R) rfl (di _ _) ⟨none,0,[],by rw [aq (by simp;omega)];rfl,fun h=>(by simp at h;omega),by simp,rfl⟩
 have qL:(us++[a]).length=us.length+1:=by rw [aa,aj]
 have kh:=HF hv;have SJ:dE R us:=fun x hx=>ht x (aJ.2 (.inl hx))
 have ha:da R a.1 a.2:=ht a (aJ.2 (.inr (an.2 rfl)));have qy:=kD a (aJ.2 (.inr (an.2 rfl)));have SK:∀ x∈us,x.2.length≤1000000:=fun x hx=>kD x (aJ.2 (.inl hx))
 by_cases xt:i<k
 ·refine wB ?_;refine aZ rfl rfl (ih us.length zo R e ad cap us i k v b rfl kh SJ SK zo zo hi hb nZ) ?_;rintro _ _ ⟨dW,c1,t,rfl,h7,h8,rfl⟩;refine wB ?_;refine aZ rfl rfl (mi _ e _ _ _ _ (ba .zero) ha.tail h8 qy) ?_;rintro _ _ ⟨ep,c3,rfl,rfl⟩;refine wB ?_;refine aY (cR (.slice ep (ew t a.2).length c3) (ew t a.2)::R) rfl zE ⟨ep,c3,ew t a.2,?_,fun h=>?_,by rw [ew,de];omega,rfl⟩
  ·rw [qL,ui xt,decide_eq_decide.2 (show us.length=jl k i↔us.length+1=jl k i+1 by omega)];rfl
  ·rw [qL,ui xt] at h
   rw [h7 zo,PS _ xt,lW,mn]
 ·refine wB ?_;rw [show ((i:Nat):Int) - ((k:Nat):Int)=((i - k:Nat):Int) by omega,show ((n:Nat):Int) - ((k:Nat):Int)=((n - k:Nat):Int) by omega];refine aZ rfl rfl (ih us.length zo R e ad cap us (i - k) (n - k) v b rfl kh SJ SK zo zo zo hb nZ) ?_;rintro _ _ ⟨dW,c1,t,rfl,h7,h8,rfl⟩;refine wB ?_;refine aZ rfl rfl (mi _ e _ _ _ _ ha.tail (ba .zero) qy h8) ?_;rintro _ _ ⟨ep,c3,rfl,rfl⟩;refine wB ?_;refine aY (cR (.slice ep (ew a.2 t).length c3) (ew a.2 t)::R) rfl zE ⟨ep,c3,ew a.2 t,?_,fun h=>?_,by rw [ew,de];omega,rfl⟩
  ·rw [qL,IZ xt,decide_eq_decide.2 (show us.length=jl (n - k) (i - k)↔us.length+1=jl (n - k) (i - k)+1 by omega)];rfl
  ·rw [qL,IZ xt] at h
   rw [h7 zo,PT _ xt,lW,mn]
def pQ (idx size:Int) (ts:List dX) (b:List UInt8):Prop:=jF ts=true∧b.length=32∧0≤idx∧idx<size∧ts.length=jl size.toNat idx.toNat
instance (idx size:Int) (ts:List dX) (b:List UInt8):Decidable (pQ idx size ts b):=by unfold pQ;infer_instance
abbrev pR (idx size:Int) (ts:List dX) (b:List UInt8):List UInt8:=lm size.toNat idx.toNat (ts.map (·.2)) b
theorem rJ {ts:List dX}:jF ts=true↔ts.length≤16∧∀ a∈ts,a.2.length=32:=decide_eq_true_iff
theorem FR (idx size:Int) (vp vb:Value) (ts:List dX) (b:List UInt8) (h1:-9223372036854775808≤idx∧idx≤9223372036854775807) (h2:-9223372036854775808≤size∧size≤9223372036854775807) (hv:cF R 1 vp ts.length (ts.map (·.1))) (ht:dE R ts) (hb:da R vb b) :
 Ct prog 268 #[.agg #[.int .i64 idx,.int .i64 size,vp],vb] e R (fun v' L' =>
  (pQ idx size ts b∧∃ ad c,v'=.tuple #[.slice ad (pR idx size ts b).length c,.bool true]∧L'=cR (.slice ad (pR idx size ts b).length c) (pR idx size ts b)::R) ∨
  (¬ pQ idx size ts b∧v'=.tuple #[nY,.bool false]∧R=L')):=by
 refine a7 (hv.shape zo) ?_;rintro ⟨⟨ad,cap,rfl,h3,h4,h5,h6⟩,_⟩;refine a8 (args:=[_,_]) func268 rfl ntmps268 results268 rfl ?_
 (repeat (refine wA ?_;intros))
 rename_i g;refine aZ rfl rfl (m0 _ e _ ts hv.tail ht.tail) ?_;rintro _ _ ⟨rfl,rfl⟩
 by_cases hr:jF ts=true
 rotate_left
 ·rw [show jF ts=false by simpa using hr];refine wB ?_;exact aY R rfl zE (.inr ⟨fun h=>hr h.1,rfl,rfl⟩)
 rw [hr];obtain ⟨r1,r2⟩:=rJ.1 hr;refine wB ?_;refine aZ rfl rfl (sO _ e _ b hb.tail) ?_;rintro _ _ ⟨rfl,rfl⟩
 by_cases jD:b.length=32
 rotate_left
 ·rw [aq jD];refine wB ?_;exact aY R rfl zE (.inr ⟨fun h=>jD h.2.1,rfl,rfl⟩)
 rw [ay jD]
 by_cases h0:0≤idx
 rotate_left
 ·refine wB ?_;exact aY R rfl zE (.inr ⟨fun h=>h0 h.2.2.1,rfl,rfl⟩)
 by_cases cQ:idx<size
 rotate_left
 ·refine wB ?_;exact aY R rfl zE (.inr ⟨fun h=>cQ h.2.2.2.1,rfl,rfl⟩)
 obtain ⟨i,rfl⟩:=Int.eq_ofNat_of_zero_le h0;obtain ⟨n,rfl⟩:=Int.eq_ofNat_of_zero_le (show 0≤size by omega);refine wB ?_;refine aZ rfl rfl (I1 ts.length _ e ad cap ts i n vb b rfl hv.tail ht.tail (fun a ha=>by have:=r2 a ha;omega) zo zo zo hb.tail zo) ?_;rintro _ _ ⟨dW,c1,t,rfl,h7,h8,rfl⟩
 by_cases E7:ts.length=jl n i
 ·rw [ay E7];have h9:=h7 E7;subst h9;refine wB ?_;exact aY (cR (.slice dW (lm n i (ts.map (·.2)) b).length c1) (lm n i (ts.map (·.2)) b)::R) rfl zE (.inl ⟨⟨hr,jD,h0,cQ,E7⟩,dW,c1,rfl,rfl⟩)
 ·rw [aq E7];refine wB ?_;exact aY R rfl zE (.inr ⟨fun h=>E7 h.2.2.2.2,rfl,rfl⟩)
theorem iL (va vb:Value) (a b:List UInt8) (ha:da R va a) (hb:da R vb b) :
 Ct prog 99 #[va,vb] e R (fun v' L'=>v'=.bool (decide (a=b))∧R=L'):=by
 refine a8 (args:=[_,_]) func99 rfl ntmps99 results99 rfl ?_
 have eq:Ct prog 188 #[va,vb] e R (fun v' L'=>v'=.bool (decide (a=b))∧R=L'):=by
  refine a8 (args:=[_,_]) func188 rfl ntmps188 results188 rfl ?_
  by_cases h:a=b
  ·rw [ay h];subst h;refine wB ?_;exact aY R rfl aX ⟨rfl,rfl⟩
  ·rw [aq h];refine wB ?_;exact aY R rfl aX ⟨rfl,rfl⟩
 refine wB ?_;refine aZ rfl rfl eq ?_;rintro _ _ ⟨rfl,rfl⟩;refine wB ?_;exact aY R rfl aX ⟨rfl,rfl⟩
theorem FT (idx size:Int) (vp vb vr:Value) (ts:List dX) (b r:List UInt8) (h1:-9223372036854775808≤idx∧idx≤9223372036854775807) (h2:-9223372036854775808≤size∧size≤9223372036854775807) (hv:cF R 1 vp ts.length (ts.map (·.1))) (ht:dE R ts) (hb:da R vb b) (hr:da R vr r) :
 Ct prog 214 #[.agg #[.int .i64 idx,.int .i64 size,vp],vb,vr] e R (fun v' L'=>v'=.bool (decide (pQ idx size ts b∧pR idx size ts b=r))∧R=L'):=by
 refine a7 (hv.shape zo) ?_;rintro ⟨⟨ad,cap,rfl,h3,h4,h5,h6⟩,_⟩;refine a8 (args:=[_,_,_]) func214 rfl ntmps214 results214 rfl ?_
 (repeat (refine wA ?_;intros))
 rename_i g;refine aZ rfl rfl (FR _ e idx size _ vb ts b h1 h2 hv.tail ht.tail hb.tail) ?_;rintro _ _ (⟨kQ,dW,c1,rfl,rfl⟩|⟨kQ,rfl,rfl⟩)
 ·refine wB ?_;refine aZ rfl rfl (iL _ e _ _ _ _ (ba .zero) hr.tail.tail) ?_;rintro _ _ ⟨rfl,rfl⟩
  by_cases h:pR idx size ts b=r
  ·rw [ay h,ay ⟨kQ,h⟩];refine wB ?_;exact aY R rfl zE ⟨rfl,rfl⟩
  ·rw [aq h,aq fun q=>h q.2];refine wB ?_;exact aY R rfl zE ⟨rfl,rfl⟩
 ·rw [aq fun q=>kQ q.1];refine wB ?_;exact aY R rfl zE ⟨rfl,rfl⟩
def DC (bs:List (List UInt8)) (n:Nat):Prop:=bs.length=n∧∀ a∈bs,a.length=32
instance (bs:List (List UInt8)) (n:Nat):Decidable (DC bs n):=by unfold DC;infer_instance
theorem BL (v:Value) (b:List UInt8) (hv:da R v b) :
 Ct prog 311 #[v] e R (fun v' L'=>v'=.bool (!decide (b.length=32))∧R=L'):=by
 refine a7 (cF.shape hv zo) ?_;rintro ⟨⟨ad,cap,rfl,h3,h4,h5,h6⟩,_⟩;refine a8 (args:=[_]) func311 rfl ntmps311 results311 rfl ?_
 by_cases h:b.length=32
 ·rw [ay h];refine wB ?_;exact aY R rfl aX ⟨rfl,rfl⟩
 ·rw [aq h];refine wB ?_;exact aY R rfl aX ⟨rfl,rfl⟩
theorem u5 (v:Value) (bs:List (List UInt8)) (n:Nat) (hv:j8 R v bs) (hl:bs.length≤1000000) (hn:n≤1000000) :
 Ct prog 292 #[v,.int .i64 (n:Int)] e R (fun v' L'=>v'=.bool (decide (DC bs n))∧R=L'):=by
 obtain ⟨ts,rfl,hv,ht⟩:=hv;rw [ab] at hl
 refine a7 (hv.shape zo) ?_;rintro ⟨⟨ad,cap,rfl,h3,h4,h5,h6⟩,_⟩;refine a8 (args:=[_,_]) func292 rfl ntmps292 results292 rfl ?_
 by_cases h:ts.length=n
 rotate_left
 ·rw [aq (fun q:DC _ _=>h (by simpa using q.1))];refine wB ?_;exact aY R rfl aX ⟨rfl,rfl⟩
 refine wB ?_;refine aZ rfl rfl (pO R e _ ts 311 [] [] (fun i=>!decide (((ts.map (·.2)).getD i []).length=32)) hv hl (fun i hi=>?_)) ?_
 ·rw [eR hi];exact BL R e _ _ (ht _ (az hi))
 rintro _ _ ⟨rfl,rfl⟩
 by_cases h2:∀ a∈ts.map (·.2),a.length=32
 ·rw [ay (show DC _ _ from ⟨by rw [ab];exact h,h2⟩),aq (fun ⟨i,q1,q2⟩=>by rw [eR q1] at q2;simp [h2 _ (aD.2 ⟨_,az q1,rfl⟩)] at q2)];refine wB ?_;exact aY R rfl aX ⟨rfl,rfl⟩
 ·rw [aq (fun q:DC _ _=>h2 q.2),ay (by
   refine Classical.byContradiction fun lF=>h2 fun a ha=>?_
   obtain ⟨x,hx,rfl⟩:=aD.1 ha;obtain ⟨i,hi,rfl⟩:=List.mem_iff_getElem.1 hx;refine Classical.byContradiction fun hl=>lF ⟨i,hi,?_⟩
   rw [eR hi,aq hl];rfl)]
  refine wB ?_;exact aY R rfl aX ⟨rfl,rfl⟩
abbrev vV (s:vR) (vp vq:Value):List Value:=[.int .i64 (s.idx:Int),vp,vq]
structure fK (L:List cK) (vp vq:Value) (s:vR):Prop where
 parts:j8 L vp s.parts
 path:j8 L vq s.path
 small:s.idx<4294967296∧s.parts.length≤1000000∧s.path.length≤1000000
theorem fK.cN {L L':List cK} {vp vq:Value} {s:vR} (h:fK L' vp vq s) (f:cC L L'):fK L vp vq s:=⟨h.parts.cN f,h.path.cN f,h.small⟩
theorem fK.tail {A:cK} {L:List cK} {vp vq:Value} {s:vR} (h:fK L vp vq s):fK (A::L) vp vq s:=h.cN (cC.drop aX)
theorem pS (vp vq:Value) (s:vR) (hs:fK R vp vq s) :
 Ct prog 257 #[.agg (vV s vp vq).toArray] e R (fun v' L'=>v'=.bool (decide s.right)∧R=L'):=by
 obtain ⟨h1,h2,h3,h4,h5⟩:=hs;refine a7 h1.one fun o1=>?_
 refine a7 h2.one fun o2=>?_
 refine a8 (args:=[_]) func257 rfl ntmps257 results257 rfl ?_
 by_cases hi:s.idx<16
 rotate_left
 ·rw [aq (fun q:s.right=>hi q.1)]
  (repeat (refine wA ?_;intros))
  exact aY R rfl zE ⟨rfl,rfl⟩
 (repeat (refine wA ?_;intros))
 refine aZ rfl rfl (u5 _ e vp s.parts 64 h1.tail h4 zo) ?_;rintro _ _ ⟨rfl,rfl⟩
 by_cases ha:DC s.parts 64
 rotate_left
 ·rw [aq ha,aq (fun q:s.right=>ha ⟨q.2.1,q.2.2.1⟩)];refine wB ?_;exact aY R rfl zE ⟨rfl,rfl⟩
 rw [ay ha];refine wB ?_;refine aZ rfl rfl (u5 _ e vq s.path 4 h2.tail h5 zo) ?_;rintro _ _ ⟨rfl,rfl⟩
 by_cases hb:DC s.path 4
 rotate_left
 ·rw [aq hb,aq (fun q:s.right=>hb ⟨q.2.2.2.1,q.2.2.2.2⟩)];refine wB ?_;exact aY R rfl zE ⟨rfl,rfl⟩
 rw [ay hb,ay (show s.right from ⟨hi,ha.1,ha.2,hb.1,hb.2⟩)];refine wB ?_;exact aY R rfl zE ⟨rfl,rfl⟩
theorem vW (fY:List UInt8) (l:List (List UInt8)):(iE fY l).length=32:=de _ _
set_option maxHeartbeats 400000 in
theorem sP (v u vp vq:Value) (iY fY:List UInt8) (s:vR) (hv:da R v iY) (hu:da R u fY) (hm:fY.length≤1000000) (hs:fK R vp vq s) :
 Ct prog 187 #[v,u,.agg (vV s vp vq).toArray] e R (fun v' L'=>v'=.bool (decide (vS iY fY s))∧R=L'):=by
 refine a7 hs.parts.one fun o1=>?_
 refine a7 hs.path.one fun o2=>?_
 refine a8 (args:=[_,_,_]) func187 rfl ntmps187 results187 rfl ?_
 (repeat (refine wA ?_;intros))
 rename_i g;refine aZ rfl rfl (pS _ e vp vq s hs.tail) ?_;rintro _ _ ⟨rfl,rfl⟩
 by_cases hr:s.right
 rotate_left
 ·rw [aq hr,aq (fun q:vS iY fY s=>hr q.1)];refine wB ?_;exact aY R rfl zE ⟨rfl,rfl⟩
 rw [ay hr];obtain ⟨q1,q2,q3,q4,q5⟩:=id hr;obtain ⟨ts,e1,r1,t1⟩:=hs.parts;obtain ⟨us,e2,r2,t2⟩:=hs.path;have qL:ts.length=64:=by rw [← q2,← e1,ab]
 have qs:us.length=4:=by rw [← q4,← e2,ab]
 have M9:=lU e1 q3;have Rv:=lU e2 q5;refine wB ?_;refine aZ rfl rfl (y6 _ e u vp fY ts hu.tail hm r1.tail (dE.tail t1) qL M9) ?_;rintro _ _ ⟨ad,c,rfl,rfl⟩;rw [e1];have MR:=vW fY s.parts;have pk:vS iY fY s↔lI s.idx (iE fY s.parts) s.path=iY:=⟨fun q=>q.2,fun q=>⟨hr,q⟩⟩
 generalize iE fY s.parts=b0 at *
 refine bo (r2.tail.tail.shape zo) ?_;rintro ⟨⟨adq,cq,rfl,w3,w4,w5,w6⟩,_⟩;simp only [maxLen] at w4
 refine wB ?_;refine br (ι:=Nat × Nat × List UInt8 × Option Addr × Nat) (fun i=>[(0,v),(7,.slice i.2.2.2.1 i.2.2.1.length i.2.2.2.2),(8,.bool true),(9,.int .i64 (i.2.1:Int)),(25,.slice adq us.length cq),(26,.int .i64 (us.length:Int)),(27,.int .i64 (i.1:Int))]) (fun i=>cR (.slice i.2.2.2.1 i.2.2.1.length i.2.2.2.2) i.2.2.1::R) (fun i=>i.1≤us.length∧i.2.1<16∧i.2.2.1.length=32∧lI i.2.1 i.2.2.1 (s.path.drop i.1)=lI s.idx b0 s.path) (fun i=>us.length - i.1) (0,s.idx,b0,ad,c) ⟨aG _,q1,MR,rfl⟩ zS zE ?_;rintro ⟨i,iB,b,dS,c2⟩ ⟨hi,C0,nZ,BB⟩;dsimp only at hi C0 nZ BB ⊢
 by_cases cQ:i<us.length
 rotate_left
 ·have hd:s.path.drop i=[]:=List.drop_eq_nil_of_le zo;rw [hd] at BB
  have BB:b=lI s.idx b0 s.path:=BB;refine wB ?_;refine aZ rfl rfl (iL _ e _ v b iY (ba .zero) hv.tail) ?_;rintro _ _ ⟨rfl,rfl⟩;rw [show decide (b=iY)=decide (vS iY fY s) from decide_eq_decide.2 (by rw [pk,← BB])];refine wB ?_;exact aY R rfl zE ⟨rfl,rfl⟩
 rcases w6 with w6|⟨gl,ol,rfl⟩
 ·omega
 have VS:Rd R ⟨gl,ol+i,none⟩ (us[i]'cQ).1:=r2.elem (by rw [aI,ae cQ];rfl);have js:=t2 _ (az cQ);have Nx:=Rv _ (az cQ)
 have Du:s.path.drop i=(us[i]'cQ).2::s.path.drop (i+1):=by
  rw [← e2];rw [List.drop_eq_getElem_cons (by rw [ab];exact cQ),List.getElem_map]
 generalize us[i]'cQ=y at *
 obtain ⟨yv,yb⟩:=y;dsimp only at VS js Nx Du
 rw [Du] at BB
 have yY:IntKind.i64.wrap (((iB:Int)).tdiv 2)=((iB / 2:Nat):Int):=by
  rw [Int.tdiv_eq_ediv_of_nonneg zo,show (iB:Int) / 2=((iB / 2:Nat):Int) by omega];exact wrap_i64 zo zo
 have KT:((iB:Int)).tmod 2=((iB % 2:Nat):Int):=by rw [Int.tmod_eq_emod_of_nonneg zo];omega
 refine bG (cz js.tail) fun oy=>?_
 by_cases Kr:iB % 2=0
 ·have PU:lI (iB / 2) (ez 14 [b,yb]) (s.path.drop (i+1))=lI s.idx b0 s.path:=by rw [← BB];show _=lI (iB / 2) (if iB % 2=0 then _ else _) _;rw [aH Kr]
  (repeat' first|(apply bZ;exact rfl;exact rfl;exact rfl;exact .one rfl rfl (.one (dU oy) rfl .nil);exact rfl;exact rfl;intro _)|refine Za ?_|refine Zb ?_|apply Zc|apply Zd|apply Ze|apply Zf|refine Zi ?_|refine ZA ?_|refine ZM ?_|refine Yw ?_|refine Yz ?_|apply YB|apply YC|refine YL ?_|fail)
  rename_i g2
  refine aZ rfl rfl (fe _ e 14 _ [(.slice dS b.length c2,b),(yv,yb)] (bu .zero rfl zl) (fun a ha=>by
   simp only [aQ,aO,or_false] at ha
   rcases ha with rfl|rfl
   ·exact da.tail (ba .zero)
   ·exact js.tail.tail) (fun a ha=>by
   simp only [aQ,aO,or_false] at ha
   rcases ha with rfl|rfl
   ·dsimp only;omega
   ·dsimp only;omega) (by simp)) ?_
  rintro _ _ ⟨ep,c3,rfl,rfl⟩;rw [show ez 14 ([((.slice dS b.length c2:Value),b),(yv,yb)].map (·.2))=ez 14 [b,yb] from rfl];have mw:=de 14 [b,yb]
  generalize ez 14 [b,yb]=b3 at *
  refine wB ?_;rw [yY];exact bi (i+1,iB / 2,b3,ep,c3) ⟨cQ,by dsimp only;omega,mw,PU⟩ zd zS zE
 ·have PU:lI (iB / 2) (ez 14 [yb,b]) (s.path.drop (i+1))=lI s.idx b0 s.path:=by rw [← BB];show _=lI (iB / 2) (if iB % 2=0 then _ else _) _;rw [aB Kr]
  (repeat' first|(apply bZ;exact rfl;exact rfl;exact rfl;exact .one (dU oy) rfl (.one rfl rfl .nil);exact rfl;exact rfl;intro _)|refine Za ?_|refine Zb ?_|apply Zc|apply Zd|apply Ze|apply Zf|refine Zi ?_|refine ZA ?_|refine ZN ?_|refine Yw ?_|refine Yz ?_|refine YA ?_|apply YB|apply YC|refine YL ?_|fail)
  rename_i g2
  refine aZ rfl rfl (fe _ e 14 _ [(yv,yb),(.slice dS b.length c2,b)] (bu .zero rfl zl) (fun a ha=>by
   simp only [aQ,aO,or_false] at ha
   rcases ha with rfl|rfl
   ·exact js.tail.tail
   ·exact da.tail (ba .zero)) (fun a ha=>by
   simp only [aQ,aO,or_false] at ha
   rcases ha with rfl|rfl
   ·dsimp only;omega
   ·dsimp only;omega) (by simp)) ?_
  rintro _ _ ⟨ep,c3,rfl,rfl⟩;rw [show ez 14 ([(yv,yb),((.slice dS b.length c2:Value),b)].map (·.2))=ez 14 [yb,b] from rfl];have mw:=de 14 [yb,b]
  generalize ez 14 [yb,b]=b3 at *
  refine wB ?_;rw [yY];exact bi (i+1,iB / 2,b3,ep,c3) ⟨cQ,by dsimp only;omega,mw,PU⟩ zd zS zE
theorem u6 (v:Value) (bs:List (List UInt8)) (hv:j8 R v bs) (hl:bs.length≤1000000) (hb:∀ b∈bs,b.length≤1000000) :
 Ct prog 259 #[v] e R (fun v' L'=>∃ ad c us,v'=.slice ad us.length c∧us.map (·.2)=bs∧L'=cU (.slice ad us.length c) us::cG us::R):=by
 obtain ⟨ts,rfl,hv,ht⟩:=hv;rw [ab] at hl
 have hb:∀ a∈ts,a.2.length≤1000000:=fun a ha=>hb _ (aD.2 ⟨a,ha,rfl⟩)
 refine a7 (hv.shape zo) ?_;rintro ⟨⟨ot,cap,rfl,h3,h4,h5,h6⟩,_⟩;simp only [maxLen] at h4
 refine a8 (args:=[_]) func259 rfl ntmps259 results259 rfl ?_;refine wB ?_;refine br (ι:=Nat × List dX × Option Addr × Nat) (fun i=>[(3,.slice i.2.2.1 i.2.1.length i.2.2.2),(6,.slice ot ts.length cap),(7,.int .i64 (ts.length:Int)),(8,.int .i64 (i.1:Int))]) (fun i=>cU (.slice i.2.2.1 i.2.1.length i.2.2.2) i.2.1::cG i.2.1::R) (fun i=>i.1≤ts.length∧i.2.1.map (·.2)=(ts.map (·.2)).take i.1) (fun i=>ts.length - i.1) (0,[],none,0) ⟨aG _,by simp⟩ zS (cn dC (di dZ 1)) ?_;rintro ⟨i,us,ad,c⟩ ⟨hi,fZ⟩;dsimp only at hi fZ ⊢
 have y7:us.length=i:=by have:=congrArg List.length fZ;rw [ab,aE,ab] at this;omega
 by_cases cQ:i<ts.length
 rotate_left
 ·rw [aF (by rw [ab];omega)] at fZ
  refine wB ?_;exact aY _ rfl aX ⟨ad,c,us,rfl,fZ,rfl⟩
 rcases h6 with h6|⟨gl,ol,rfl⟩
 ·omega
 have hr:Rd R ⟨gl,ol+i,none⟩ (ts[i]'cQ).1:=hv.elem (by rw [aI,ae cQ];rfl);have js:=ht _ (az cQ);have vQ:=hb _ (az cQ)
 have jk:∀ w:Value,(us++[(w,(ts[i]'cQ).2)]).map (·.2)=(ts.map (·.2)).take (i+1):=fun w=>by
  rw [ah,fZ,aA (by rw [ab];exact cQ),List.getElem_map]
  rfl
 generalize ts[i]'cQ=y at *
 obtain ⟨yv,b⟩:=y;dsimp only at hr js vQ jk
 refine wB ?_;refine aZ rfl rfl (dy _ e yv b js.tail.tail zo) ?_;rintro _ _ ⟨ep,c3,rfl,rfl⟩
 (repeat (refine wA ?_;intros))
 refine bD (bm rfl rfl rfl (.succ (.succ .zero)) (bu .zero rfl zl) rfl rfl zO zm zo fun gZ c4 _=>?_)
 refine wB ?_;refine bi (i+1,us++[(.slice ep b.length c3,b)],gZ,c4) ⟨cQ,jk _⟩ zd ?_ ?_
 ·dsimp only;rw [aa,aj];exact zS
 ·exact cn (show cC _ (dJ dZ 1 (.slice gZ (us.length+1) c4) (us.length+1) (us.map (·.1)++[.slice ep b.length c3])::cR (.slice ep b.length c3) b::cG us::R) from zE) eV
theorem Ax:∀ n:Nat,n<16→Go.bits .xor .i64 (n:Int) 1=((n ^^^ 1:Nat):Int):=by decide
theorem BM {M:List cK} {n k:Nat} {v:Value} {xs:List Value} (h:cF M n v k xs):cF [dI M] n v k xs:=h.cN (cn (cW (L:=[])) (by rw [aK];exact aX))
theorem kq {M:List cK} {v:Value} {bs:List (List UInt8)} (h:j8 M v bs):j8 [dI M] v bs:=h.cN (cn (cW (L:=[])) (by rw [aK];exact aX))
theorem Ay {l:List (List UInt8)} {i h:Nat} (hh:h<4):(uk l i).take (h+1)=(uk l i).take h++[(nf l h).getD ((i / 2 ^ h) ^^^ 1) []]:=by
 rw [aA (by rw [im];exact hh)]
 congr 2
 unfold uk;rw [List.getElem_map,List.getElem_range]
theorem K6 {n m:Nat} (h:n<2 ^ m) (hm:0<m) (Ns:n<16):n ^^^ 1<2 ^ m:=by
 obtain ⟨k,rfl⟩:∃ k,m=k+1:=⟨m - 1,by omega⟩
 rw [PQ Ns];rw [Nat.pow_succ] at h ⊢
 split<;>omega
set_option maxHeartbeats 1000000 in
theorem xu (v u:Value) (seed fY:List UInt8) (i:Nat) (hv:da R v seed) (hs:seed.length=32) (hi:i<16) (hu:da R u fY) (hm:fY.length≤1000000) :
 Ct prog 198 #[v,.int .i64 (i:Int),u] e R (fun v' L'=>∃ (M:cK) (vp vq:Value),v'=.tuple #[.agg (vV (lH seed i fY) vp vq).toArray,.int .i64 0]∧fK [M] vp vq (lH seed i fY)∧L'=M::R):=by
 refine a7 (cF.shape hv zo) ?_;rintro ⟨⟨ot,cap,rfl,_,_,_,_⟩,_⟩;refine bI (args:=[_,_,_]) func198 rfl ntmps198 results198 rfl ?_
 (repeat (refine wA ?_;intros))
 rename_i g6;refine aZ rfl rfl (y5 _ e _ u seed fY i hv.tail zo hi hu.tail hm) ?_;rintro _ _ ⟨dW,c1,ts,rfl,fx,rfl⟩
 (repeat (refine wA ?_;intros))
 rename_i g8;refine aZ rfl rfl (pb _ e _ seed hv.tail.tail.tail.tail zo) ?_;rintro _ _ ⟨dS,c2,ls,rfl,FN,rfl⟩;have CZ:=jg (gE seed);refine wB ?_;refine br (ι:=Nat × List dX × (Option Addr × Nat) × List dX × (Option Addr × Nat) × List dX) (fun j=>[(6,pt g6),(8,pt g8),(9,.slice j.2.2.1.1 j.2.1.length j.2.2.1.2),(10,.int .i64 ((i / 2 ^ j.1:Nat):Int))])
  (fun j=>cM g8 [.int .i64 (i:Int),.slice dW ts.length c1,.slice j.2.2.2.2.1.1 j.2.2.2.1.length j.2.2.2.2.1.2] 85 (0,0)::cU (.slice j.2.2.2.2.1.1 j.2.2.2.1.length j.2.2.2.2.1.2) j.2.2.2.1::cU (.slice j.2.2.1.1 j.2.1.length j.2.2.1.2) j.2.1::cG j.2.2.2.2.2::cM g6 [.int .i64 0,nY,nY] 85 (0,0)::cU (.slice dW ts.length c1) ts::cG ts::R)
  (fun j=>j.1≤4∧j.2.1.map (·.2)=nf (er seed) j.1∧j.2.2.2.1.map (·.2)=(uk (er seed) i).take j.1∧(∀ x∈j.2.1,x∈j.2.2.2.2.2)∧(∀ x∈j.2.2.2.1,x∈j.2.2.2.2.2)) (fun j=>4 - j.1) (0,ls,(dS,c2),[],(none,0),ls) ⟨by omega,FN,by simp,fun x h=>h,fun x h=>by cases h⟩ (by rw [show i / 2 ^ 0=i by simp];exact zS) (cn (di dZ 1) zE) ?_
 clear FN;rintro ⟨h,ks,⟨ep,c3⟩,ps,⟨gZ,c4⟩,K⟩ ⟨hh,I2,HG,VT,VU⟩;dsimp only at hh I2 HG VT VU ⊢
 have DD:ks.length=2 ^ (4 - h):=by have:=congrArg List.length I2;rw [ab,CZ h hh] at this;exact this
 have yW:ps.length=h:=by have:=congrArg List.length HG;rw [ab,aE,im] at this;omega
 by_cases cQ:h<4
 rotate_left
 ·have VV:h=4:=by omega
  subst VV;have X3:ks.length=1:=DD;rw [aF (by rw [im];omega)] at HG
  refine wB ?_;apply bB
  ·exact zV
  refine ⟨dI [cU (.slice dW ts.length c1) ts,cG ts,cU (.slice gZ ps.length c4) ps,cG K]::R,cn (show cC _ (cU (.slice dW ts.length c1) ts::cG ts::cU (.slice gZ ps.length c4) ps::cG K::R) from zE) (dN (M:=[_,_,_,_])),dI [cU (.slice dW ts.length c1) ts,cG ts,cU (.slice gZ ps.length c4) ps,cG K],.slice dW ts.length c1,.slice gZ ps.length c4,rfl,⟨kq ⟨ts,fx,ba .zero,dE.tail ef⟩,kq ⟨ps,HG,ba (.succ (.succ .zero)),fun x hx=>(ef (l:=K) x (VU x hx)).tail.tail.tail⟩,?_⟩,rfl⟩;refine ⟨by show i<_;omega,?_,?_⟩
  ·rw [show (lH seed i fY).parts.length=64 from kZ _ _ _];omega
  ·rw [show (lH seed i fY).path.length=4 from im _ _];omega
 have C0:i / 2 ^ h<2 ^ (4 - h):=by
  rw [Nat.div_lt_iff_lt_mul (Nat.two_pow_pos h),← Nat.pow_add,show 4 - h+h=4 by omega];exact hi
 have DE:i / 2 ^ h<16:=Nat.lt_of_le_of_lt (Nat.div_le_self _ _) hi;have SF:=Ax (i / 2 ^ h) DE;have MS:=K6 C0 zo DE;rw [← DD] at MS
 have HH:1<ks.length:=by rw [DD];exact Nat.one_lt_two_pow zo
 have I3:ks.length≤16:=by rw [DD];exact Nat.le_trans (Nat.pow_le_pow_right zo (show 4 - h≤4 by omega)) (by decide)
 have jC:=Ay (l:=er seed) (i:=i) cQ;rw [← I2,eR MS] at jC
 have jk:(ps++[ks[(i / 2 ^ h) ^^^ 1]'MS]).map (·.2)=(uk (er seed) i).take (h+1):=by rw [ah,HG,jC];rfl
 have sC:=VT _ (az MS);have SL:i / 2 ^ (h+1)=i / 2 ^ h / 2:=by rw [Nat.pow_succ,Nat.div_div_eq_div_mul]
 clear C0 jC
 generalize i / 2 ^ h=a at *
 have hdiv:IntKind.i64.wrap (((a:Nat):Int).tdiv 2)=((i / 2 ^ (h+1):Nat):Int):=by
  rw [SL,Int.tdiv_eq_ediv_of_nonneg zo,show ((a:Nat):Int) / 2=((a / 2:Nat):Int) by omega];exact wrap_i64 zo zo
 have qy:a ^^^ 1<17:=by omega
 refine bG (De (.succ (.succ .zero)) zo) ?_;rintro ⟨p3,rfl⟩;have Nn:Rd (cU (.slice (some ⟨p3,0,none⟩) ks.length c3) ks::cG K::cM g6 [.int .i64 0,nY,nY] 85 (0,0)::cU (.slice dW ts.length c1) ts::cG ts::R) ⟨p3,0+(a ^^^ 1),none⟩ (ks[a ^^^ 1]'MS).1:=(ba .zero).elem (by rw [aI,ae MS];rfl)
 generalize ks[a ^^^ 1]'MS=y at *
 obtain ⟨yv,yb⟩:=y;dsimp only at Nn jk
 have sF:da (cG K::cM g6 [.int .i64 0,nY,nY] 85 (0,0)::cU (.slice dW ts.length c1) ts::cG ts::R) yv yb:=ef (l:=K) (yv,yb) sC;refine bG (cz sF.tail.tail.tail) fun oy=>?_
 generalize a ^^^ 1=x1 at *
 refine wB ?_;refine W.fo (bz (.succ .zero) aX) ?_;refine bl (id:=10) [9,10] (cM g8 [.int .i64 (i:Int),.slice dW ts.length c1,.slice gZ ps.length c4] 85 (0,0)::cU (.slice (some ⟨p3,0,none⟩) ks.length c3) ks::cG K::cM g6 [.int .i64 0,nY,nY] 85 (0,0)::cU (.slice dW ts.length c1) ts::cG ts::R) mixed ?_
 (refine tF 0 ?_;refine tL 1 ?_;refine tM 2 ?_;refine tM 3 ?_;refine tk 4 _ rfl (cE.bits _ (by simp) rfl rfl) ?_)
 rw [SF]
 (refine tk 5 _ rfl (cE.fp rfl rfl zo) ?_;refine tL 6 ?_)
 refine tO 7 ?_;refine bF (n:=1) (z:=nY) (cs:=[yv]) rfl rfl rfl rfl (.one (dU oy) rfl .nil) rfl (fun gb=>⟨fun _=>zE,?_⟩);refine tO 8 ?_;refine bm rfl rfl rfl (.succ .zero) (bu .zero rfl zl) rfl rfl zO zm zo fun Kp c5 _=>⟨fun _=>zE,?_⟩
 ((refine tO 9 ?_;refine dV (bb rfl) ?_);(refine tO 10 ?_;refine tZ ?_;refine ⟨zN,?_⟩))
 refine bf zK ?_;refine wB ?_;refine aZ rfl rfl (xp _ e _ ks (ba (.succ (.succ (.succ .zero)))) (fun x hx=>(ef (l:=K) x (VT x hx)).tail.tail.tail.tail) (lU I2 (nH lh h)) I3) ?_;rintro _ _ ⟨Fz,c6,ws,rfl,Kn,rfl⟩;refine wB ?_;rw [hdiv];refine bi (h+1,ws,(Fz,c6),ps++[(yv,yb)],(Kp,c5),K++ws) ⟨by dsimp only;omega,by dsimp only;rw [Kn,I2];rfl,jk,fun x hx=>List.mem_append_right _ hx,fun x hx=>?_⟩ zd ?_ ?_
 ·rcases aJ.1 hx with h|h
  ·exact List.mem_append_left _ (VU x h)
  ·rw [an.1 h];exact List.mem_append_left _ sC
 ·dsimp only;exact zS
 ·dsimp only;simp only [cU,aa,aj,ah,List.map_cons,List.map_nil];refine cn (show cC _ (cG K::cG ws::cM g8 [.int .i64 (i:Int),.slice dW ts.length c1,.slice Kp (ps.length+1) c5] 85 (0,0)::dJ dZ 1 (.slice Kp (ps.length+1) c5) (ps.length+1) (ps.map (·.1)++[yv])::cU (.slice Fz ws.length c6) ws::cM g6 [.int .i64 0,nY,nY] 85 (0,0)::cU (.slice dW ts.length c1) ts::cG ts::R) from zE) (cn eK zE)
def vR.fits (s:vR):Prop:=(∀ a∈s.parts,a.length≤1000000)∧∀ a∈s.path,a.length≤1000000
theorem vR.right.fits {s:vR} (h:s.right):s.fits:=⟨fun a ha=>by have:=h.2.2.1 a ha;omega,fun a ha=>by have:=h.2.2.2.2 a ha;omega⟩
theorem xx (vp vq:Value) (s:vR) (hs:fK R vp vq s) (hr:s.fits) :
 Ct prog 190 #[.agg (vV s vp vq).toArray] e R (fun v' L'=>∃ (M:cK) (up uq:Value),v'=.agg (vV s up uq).toArray∧fK [M] up uq s∧L'=M::R):=by
 obtain ⟨h1,h2,h3⟩:=hs;obtain ⟨q3,q5⟩:=hr;refine a7 h1.one fun o1=>?_
 refine a7 h2.one fun o2=>?_
 refine bI (args:=[_]) func190 rfl ntmps190 results190 rfl ?_
 (repeat (refine wA ?_;intros))
 rename_i g1 g2;refine bl (id:=1) [9] (cM g1 (vV s vp vq) 85 (0,0)::R) mixed ?_
 (refine tF 0 ?_;refine tL 1 ?_;refine tF 2 ?_;refine tL 3 ?_;refine tF 5 ?_;refine tL 6 ?_)
 refine tO 4 ?_;refine bg rfl rfl (u6 _ e vp s.parts h1.tail.tail zo q3) ?_;rintro _ _ ⟨dW,c1,us,rfl,fZ,rfl⟩;refine ⟨fun _=>zE,?_⟩;refine tO 7 ?_;refine bg rfl rfl (u6 _ e vq s.path h2.tail.tail.tail.tail zo q5) ?_;rintro _ _ ⟨dS,c2,ws,rfl,Kn,rfl⟩;refine ⟨fun _=>zE,?_⟩
 (refine tk 8 _ rfl (bL rfl zF) ?_;(refine tO 9 ?_;refine zg ?_;refine ⟨zN,?_⟩))
 refine bf zK ?_;refine wB ?_;apply bB
 ·exact zV
 refine ⟨dI [cU (.slice dW us.length c1) us,cG us,cU (.slice dS ws.length c2) ws,cG ws]::R,cn (show cC _ (cU (.slice dW us.length c1) us::cG us::cU (.slice dS ws.length c2) ws::cG ws::R) from zE) (dN (M:=[_,_,_,_])),dI [cU (.slice dW us.length c1) us,cG us,cU (.slice dS ws.length c2) ws,cG ws],.slice dW us.length c1,.slice dS ws.length c2,rfl,⟨kq ⟨us,fZ,ba .zero,dE.tail ef⟩,kq ⟨ws,Kn,ba (.succ (.succ .zero)),dE.tail (dE.tail (dE.tail ef))⟩,h3⟩,rfl⟩
end Go.Proofs
