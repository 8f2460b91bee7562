/- Part 7 of a proof of this: TopQuiet returns true for any arguments; nothing of the old memory is turned. No condition. -/
import Derived.Test.YtccekbdjebohcaaGreatQ06
set_option linter.unusedVariables false
set_option linter.unusedSimpArgs false
namespace Go.Proofs
attribute [local irreducible] Bs.cE Bs.Do Bs.O Bs.W Bs.Fin Bs.A Bs.Ct Bs.cF Bs.Rd Bs.Sat Bs.cL Bs.Ob Bs.dJ Bs.View Bs.cB Bs.Ex Bs.dH Bs.Pu Bs.eZ Bs.dO Bs.dZ
open Go.Bs
open Tryz
variable (R:List cK) (e:World)
structure pi where
 recs:List dw
 q:List (dw × Int)
structure m8 where
 room:Nat
 size:Nat
 wait:Nat
structure m8.ok (c:m8):Prop where
 room:1≤c.room∧c.room≤16
 size:1≤c.size∧c.size≤8
 wait:c.wait≤1000
structure pi.ok (s:pi):Prop where
 size:s.recs.length≤1000
 oh:∀ b∈s.recs,jm b∧b.length≤200
 BH:s.q.length≤1000
 pj:∀ x∈s.q,x.1.length≤200
 wP:∀ x∈s.q,-9223372036854775808≤x.2∧x.2≤1000000
abbrev yV:TypeId:=221
structure yW where
 gj:Nat
 gq:Nat
 ar:Option Addr
 cr:Nat
 ts:List eo
 l:List jI
structure yW.ok (a:yW) (M:cK) (c:m8) (s:pi):Prop where
 recs:a.ts.map (·.2)=s.recs
 yO:dR [M] a.ts
 QX:a.l.map (fun m=>(m.b,m.jD))=s.q
 st:s.ok
 xE:c.ok
abbrev DG (g d gl:Nat) (c:m8) (s:pi) (a:yW) (M:cK) (R:List cK):List cK :=
 cL g [pt a.gj,pt gl,pt a.gq,.int .i64 (c.room:Int),.slice a.ar a.ts.length a.cr] yV (0,0)::cV (.slice a.ar a.ts.length a.cr) a.ts::M::jh a.gj d s.recs.length::df d (dz (eW s.recs))::xD a.gq c.room c.size c.wait a.l::R
def CK (g d gl:Nat) (c:m8) (s:pi) (a:yW) (M:cK):cK:=dH (Pu (a.ok M c s)::DG g d gl c s a M [])
def ej (g d gl:Nat) (c:m8) (s:pi):cK:=Ex fun a=>Ex fun M=>CK g d gl c s a M
theorem yX {g d gl:Nat} {c:m8} {s:pi} {R:List cK} {P:Program} {f:FuncId} {args:Array Value} {e:World} {Post:Value→List cK→Prop}
 (h:∀ (a:yW) (M:cK),a.ok M c s→Ct P f args e (DG g d gl c s a M R) Post):Ct P f args e (ej g d gl c s::R) Post :=
 Ct.ex .zero fun a=>Ct.ex .zero fun M=>Ct.cM (a7 (p:=a.ok M c s) (fun w x=>(jR x).1) fun hp=>(h a M hp).cM (cB.drop aX)) (cU (M:=Pu (a.ok M c s)::DG g d gl c s a M []) (L:=R))
theorem qB {g d gl:Nat} {c:m8} {s:pi} {a:yW} {M:cK} {R:List cK} (h:a.ok M c s):cB (DG g d gl c s a M R) (ej g d gl c s::R) :=
 cn (mI h) (cn (dS (M:=Pu (a.ok M c s)::DG g d gl c s a M []) (L:=R)) (cn (fx (f:=fun M=>CK g d gl c s a M) M) (fx (f:=fun a=>Ex fun M=>CK g d gl c s a M) a)))
theorem yW.ok.len {a:yW} {M:cK} {c:m8} {s:pi} (h:a.ok M c s):a.ts.length=s.recs.length∧a.l.length=s.q.length:=by
 have h1:=congrArg List.length h.recs;have h2:=congrArg List.length h.QX;rw [ab] at h1 h2
 exact ⟨h1,h2⟩
theorem kI (g d gl:Nat) (c:m8) (s:pi) :
 Ct prog 60 #[pt g] e (ej g d gl c s::R) (fun v' L'=>v'=.int .i64 (s.recs.length:Int)∧L'=ej g d gl c s::R):=by
 refine yX fun a M ha=>?_
 obtain ⟨l1,l2⟩:=ha.len;refine a8 (args:=[_]) func60 rfl ntmps60 results60 rfl ?_;refine wB ?_;exact aY _ rfl (qB ha) ⟨by rw [l1];rfl,rfl⟩
theorem HB (v w:Value) (b a:List UInt8) (g:Nat) (hg:Rd R ⟨g,0,none⟩ w) (hv:db R v b) (hw:db R w a) :
 Ct prog 282 #[v,pt g] e R (fun v' L'=>v'=.bool (decide (b=a))∧R=L'):=by
 refine a8 (args:=[_,_]) func282 rfl ntmps282 results282 rfl ?_;refine wB ?_;refine aZ rfl rfl (iP _ e v w b a hv hw) ?_;rintro _ _ ⟨rfl,rfl⟩;refine wB ?_;exact aY R rfl aX ⟨rfl,rfl⟩
def CL (l:List dw) (b:dw):Int:=if b∈l then (lT l b:Int) else -1
theorem KD {l:List dw} {b:dw} (h:∀ i,i<l.length→decide (l.getD i []=b)=false):CL l b = -1:=by
 unfold CL;rw [aB (fun hm=>?_)];obtain ⟨i,hi,rfl⟩:=List.mem_iff_getElem.1 hm;have:=h i hi;rw [aA,ae hi] at this
 simp at this
theorem BI {b:dw}:∀ {l:List dw} {j:Nat},j<l.length→decide (l.getD j []=b)=true→(∀ i,i<j→decide (l.getD i []=b)=false)→CL l b=(j:Int)
 | [],j,h,_,_=>by simp at h
 | x::l,0,_,h,_=>by
  have hx:x=b:=by simpa using h
  unfold CL lT;rw [aI (by rw [hx];exact List.mem_cons_self ..),hx]
  simp
 | x::l,j+1,hj,h,hn=>by
  have hx:¬ x=b:=by simpa using hn 0 (Nat.succ_pos _)
  have ih:=BI (b:=b) (l:=l) (j:=j) (by simpa using hj) (by simpa using h) (fun i hi=>by simpa using hn (i+1) (Nat.succ_lt_succ hi));unfold CL at ih ⊢
  by_cases hm:b∈l
  ·rw [aI hm] at ih
   rw [aI (aU _ hm)];unfold lT at ih ⊢
   rw [List.idxOf_cons,show (x == b)=false by simpa using hx];simp only [cond_false]
   omega
  ·rw [aB hm] at ih
   omega
theorem Ap (g d gl:Nat) (c:m8) (s:pi) (v:Value) (b:dw) (hv:db R v b) :
 Ct prog 239 #[pt g,v] e (ej g d gl c s::R) (fun v' L'=>v'=.int .i64 (CL s.recs b)∧L'=ej g d gl c s::R):=by
 refine yX fun a M ha=>?_
 obtain ⟨l1,l2⟩:=ha.len;have lq:=ha.st.size;refine a7 (cF.shape (hv.cM (show cB (DG g d gl c s a M R) R from zE)) zo) ?_;rintro ⟨⟨av,cv,rfl,-,-,-,-⟩,_⟩;refine a8 (args:=[_,_]) func239 rfl ntmps239 results239 rfl ?_
 (repeat (refine wA ?_;intros))
 rename_i g3
 have hi:=wo (cL g3 [.slice av b.length cv] eA (0,0)::DG g d gl c s a M R) e (.slice a.ar a.ts.length a.cr) a.ts 282 [] [pt g3] (fun i=>decide ((a.ts.map (·.2)).getD i []=b)) (bb zP) zo (fun i hi=>by
  rw [fa hi];exact HB _ e _ (.slice av b.length cv) _ b g3 (bQ .zero rfl) ((ha.yO _ (ax hi)).cM (cH zP)) (hv.cM zE))
 refine aZ rfl rfl hi ?_;rintro _ _ ⟨⟨z,rfl,hz⟩,rfl⟩
 have OH:z=CL s.recs b:=by
  rw [← ha.recs];rcases hz with ⟨rfl,hz⟩|⟨j,rfl,hj,Gb,hj3⟩
  ·exact (KD (fun i hi=>hz i (by rw [ab] at hi;exact hi))).symm
  ·exact (BI (by rw [ab];exact hj) Gb hj3).symm
 subst OH;refine wB ?_;exact aY (ej g d gl c s::R) rfl (cn (show cB _ (DG g d gl c s a M R) from zE) (qB ha)) ⟨rfl,rfl⟩
def rB:Int:=-9223372036854775808
def iq (cG:List dw) (recs:List dw):List dw:=recs.filter fun b=>decide (¬ b∈cG)
theorem yY {cG:List dw} {b:dw} {l:List dw}:iq cG (l++[b])=if b∈cG then iq cG l else iq cG l++[b]:=by
 unfold iq;rw [List.filter_append]
 by_cases h:b∈cG<;>simp [h]
theorem HC (d gl ld lk:Nat) (seed:dw) (ls:fW) (c:m8) (recs:List dw) (hc:c.ok) (hl:recs.length≤1000) (hg:∀ b∈recs,jm b∧b.length≤200) :
 Ct prog 233 #[pt d,pt gl,.int .i64 (c.room:Int),.int .i64 (c.size:Int),.int .i64 (c.wait:Int)] e (df d (dz (eW recs))::cW gl ld lk seed ls::R) (fun v' L'=>∃ g,v'=.tuple #[pt g,.int .i64 0]∧L'=ej g d gl c ⟨recs,(iq ls.cG recs).map fun b=>(b,rB)⟩::cW gl ld lk seed ls::R):=by
 have xk:=kE (l:=recs) (n:=200) (fun m hm=>(hg m hm).2);have Hw:∀ m∈recs,m.length≤65535:=fun m hm=>by have:=(hg m hm).2;omega
 have EO:=n9 recs Hw;refine a8 (args:=[_,_,_,_,_]) func233 rfl ntmps233 results233 rfl ?_;refine wB ?_;refine aZ rfl rfl (Ky _ e c.room c.size c.wait ⟨hc.room,hc.size,hc.wait⟩) ?_;rintro _ _ ⟨gq,rfl,rfl⟩;refine wB ?_;refine aZ rfl rfl (Ct.at (.succ .zero) (nj _ e d (eW recs) zo)) ?_;rintro _ _ (⟨h1,-⟩|⟨-,gj,uv,cr,ts,rfl,fB,rfl⟩)
 ·rw [EO] at h1;cases h1
 rw [EO] at fB ⊢
 rw [show (eW recs).take (eW recs).length=eW recs from List.take_length];dsimp only at fB
 have oH:ts.length=recs.length:=by have:=congrArg List.length fB;rwa [ab] at this
 (repeat (refine wA ?_;intros))
 rename_i g0;refine bq (ι:=Nat × List eo × Option Addr × Nat) (fun i=>[(1,pt gl),(12,pt gq),(16,pt g0),(17,.slice i.2.2.1 i.2.1.length i.2.2.2),(52,.slice uv ts.length cr),(53,.int .i64 (ts.length:Int)),(54,.int .i64 (i.1:Int))]) (fun i=>cV (.slice i.2.2.1 i.2.1.length i.2.2.2) i.2.1::cI ts::cV (.slice uv ts.length cr) ts::jh gj d ts.length::df d (dz (eW recs))::cW gl ld lk seed ls::xD gq c.room c.size c.wait []::cL g0 [pt gj,pt gl,pt gq,.int .i64 (c.room:Int),.slice uv ts.length cr] yV (0,0)::R) (fun i=>i.1≤ts.length∧i.2.1.map (·.2)=iq ls.cG (recs.take i.1)∧∀ x∈i.2.1,x∈ts) (fun i=>ts.length - i.1) (0,[],none,0) ⟨aH _,by simp [iq],fun x hx=>by cases hx⟩ zS (cn (du eA 1) zE) ?_;rintro ⟨i,fs,af,cf⟩ ⟨hi,BF,HD⟩;dsimp only at hi BF HD ⊢
 have DF:fs.length≤i:=by
  have:=congrArg List.length BF;rw [ab] at this
  have h2:=List.length_filter_le (fun b=>decide (¬ b∈ls.cG)) (recs.take i);rw [aF] at h2
  unfold iq at this
  omega
 by_cases cP:i<ts.length
 rotate_left
 ·rw [aG zo] at BF
  refine wB ?_
  have VP:=Hz (cV (.slice af fs.length cf) fs::cI ts::cV (.slice uv ts.length cr) ts::jh gj d ts.length::df d (dz (eW recs))::cW gl ld lk seed ls::cL g0 [pt gj,pt gl,pt gq,.int .i64 (c.room:Int),.slice uv ts.length cr] yV (0,0)::R) e gq c.room c.size c.wait [] (.slice af fs.length cf) fs (bb .zero) (fun x hx=>dR.ef (.succ .zero) x (HD x hx)) (fun x hx=>by
   have:=(hg x.2 (by rw [← fB];exact aE.2 ⟨x,HD x hx,rfl⟩)).2
   omega) (by rw [List.length_nil];omega)
  refine aZ rfl rfl (VP.cM zE) ?_;rintro _ _ ⟨rfl,l',oR,ry,rfl⟩;rw [aK]
  have hq:l'.map (fun m=>(m.b,m.jD))=(iq ls.cG recs).map fun b=>(b,rB):=by
   rw [← BF,← oR,List.map_map];exact List.map_congr_left fun m hm=>by show (m.b,m.jD)=(m.b,rB);rw [ry m hm];rfl
  have j1:yW.ok ⟨gj,gq,uv,cr,ts,l'⟩ (cI ts) c ⟨recs,(iq ls.cG recs).map fun b=>(b,rB)⟩ :=
   ⟨fB,eH,hq,⟨hl,hg,by rw [ab];unfold iq;exact Nat.le_trans (List.length_filter_le _ _) hl,fun x hx=>by
    obtain ⟨b,hb,rfl⟩:=aE.1 hx
    exact (hg b (List.mem_filter.1 hb |>.1)).2,fun x hx=>by
    obtain ⟨b,hb,rfl⟩:=aE.1 hx
    show -9223372036854775808≤rB∧rB≤1000000
    unfold rB
    omega⟩,hc⟩
  refine wB ?_;refine aY (ej g0 d gl c ⟨recs,(iq ls.cG recs).map fun b=>(b,rB)⟩::cW gl ld lk seed ls::R) rfl (cn ?_ (qB j1)) ⟨g0,rfl,rfl⟩;dsimp only [DG];rw [← oH];exact zE
 have pg:i<recs.length:=by omega
 have ju:(ts[i]'cP).2=recs[i]'pg:=by
  have:=congrArg (fun l=>l[i]?) fB;simp only [aL,ae cP,ae pg,Option.map_some,Option.some.injEq] at this
  exact this
 have fq:recs.take (i+1)=recs.take i++[recs[i]'pg]:=aD pg;obtain ⟨EQ,CF⟩:=hg _ (ax pg);have rv:ts[i]'cP∈ts:=ax cP;rw [← ju] at fq EQ CF
 refine bD ((bb (show cR _ (cV (.slice uv ts.length cr) ts) _ from zP)).shape zo) ?_;rintro ⟨⟨lO,c',lP,wG,IV,Ao,uW⟩,_⟩
 cases lP
 simp only [maxLen] at IV
 rcases uW with uW|⟨gr,or',rfl⟩
 ·omega
 have iX:∀ L R',cR L (cV (.slice (some ⟨gr,or',none⟩) ts.length cr) ts) R'→Rd L ⟨gr,or'+i,none⟩ (ts[i]'cP).1:=fun L R' p=>(bb p).elem (by rw [aL,ae cP];rfl)
 have sf:∀ L R',cR L (cI ts) R'→db L (ts[i]'cP).1 (ts[i]'cP).2:=fun L R' p=>dR.ef p _ (ax cP)
 generalize ts[i]'cP=y at *
 obtain ⟨yv,b⟩:=y;dsimp only at iX sf ju fq EQ CF
 refine bD (cz (sf _ _ zP)) fun oy=>?_
 refine wB ?_;refine bW rfl (iX _ _ zP) rfl ?_;refine wB ?_;refine aZ rfl rfl (kB _ e yv b (sf _ _ zP) zo) ?_;rintro v1 _ ⟨hd,-⟩;obtain ⟨Md,vf,vn,rfl,QO,AX,rfl⟩:=hd EQ;refine bn (cz (QO.cM (cH zP))) fun o6=>?_
 refine bn (cz (AX.cM (cH zP))) fun o7=>?_
 (repeat (refine wA ?_;intros))
 refine aZ rfl rfl (Ct.at zP (sB _ e gl ld lk seed ls yv b (sf _ _ zP))) ?_;rintro _ _ ⟨rfl,rfl⟩
 by_cases gB:b∈ls.cG
 ·have hw:iq ls.cG (recs.take (i+1))=iq ls.cG (recs.take i):=by rw [fq,yY,aI gB]
  rw [aI gB,ay gB];refine wB ?_;exact bi (i+1,fs,af,cf) ⟨cP,by dsimp only;rw [hw];exact BF,HD⟩ zd zS zE
 ·have hw:iq ls.cG (recs.take (i+1))=iq ls.cG (recs.take i)++[b]:=by rw [fq,yY,aB gB]
  rw [aB gB,aq gB]
  (repeat (refine wA ?_;intros))
  refine bC (bo rfl rfl rfl zP (bB .zero rfl zl) rfl rfl (fun c hc=>by rw [an.1 hc];exact oy) zm zo fun ei k1 _=>?_)
  refine wB ?_;refine bi (i+1,fs++[(yv,b)],ei,k1) ⟨cP,by dsimp only;rw [hw,ah,BF];rfl,fun x hx=>?_⟩ zd ?_ ?_
  ·rcases aJ.1 hx with hx|hx
   ·exact HD x hx
   ·rw [an.1 hx];exact rv
  ·dsimp only;rw [aa,aj];exact zS
  ·simp only [cV,aa,aj,ah,List.map_cons,List.map_nil];exact zE
theorem ea {L R R':List cK} {A B:cK} (p:cR L A R) (q:cR R B R'):cB L (dH [A,B]::R'):=cn p.out (cn (bh q.out) (dS (M:=[A,B])))
theorem rb {L R R' R2:List cK} {A B C:cK} (p:cR L A R) (q:cR R B R') (r:cR R' C R2):cB L (dH [A,B,C]::R2):=cn p.out (cn (bh (cn q.out (bh r.out))) (dS (M:=[A,B,C])))
def pi.fE (c:m8) (cG:List dw) (s:pi) (b:dw) (now:Int):Int × Int × pi :=
 if ¬ jm b then (4,0,s) else if b∈cG then (2,(lT cG b:Int),s) else if b∈s.q.map (·.1) then (1,CL s.recs b,s) else if c.room≤s.q.length then (3,0,s) else (1,(s.recs.length:Int),⟨s.recs++[b],s.q++[(b,now)]⟩)
theorem MV {l:List jI} {q:List (dw × Int)} (h:l.map (fun m=>(m.b,m.jD))=q) (b:dw):hasB l b=decide (b∈q.map (·.1)):=by
 rw [← h,List.map_map];unfold hasB;rw [Bool.eq_iff_iff,List.any_eq_true,decide_eq_true_iff,aE]
 constructor
 ·rintro ⟨x,hx,h⟩;exact ⟨x,hx,of_decide_eq_true h⟩
 ·rintro ⟨x,hx,h⟩;exact ⟨x,hx,ay h⟩
theorem ux (g d gl ld lk:Nat) (seed:dw) (ls:fW) (c:m8) (s:pi) (v:Value) (b:dw) (now:Int) (hv:db R v b) (hb:b.length≤200) (hn:0≤now∧now≤1000000) (h1:s.recs.length<1000) (h2:s.q.length<1000) :
 Ct prog 166 #[pt g,v,.int .i64 now] e (ej g d gl c s::cW gl ld lk seed ls::R) (fun v' L'=>v'=.agg #[.int .i64 (s.fE c ls.cG b now).1,.int .i64 (s.fE c ls.cG b now).2.1]∧L'=ej g d gl c (s.fE c ls.cG b now).2.2::cW gl ld lk seed ls::R):=by
 refine yX fun a M ha=>?_
 obtain ⟨l1,l2⟩:=ha.len;refine bI (args:=[_,_,_]) func166 rfl ntmps166 results166 rfl ?_
 (repeat (refine wA ?_;intros))
 rename_i g6;refine aZ rfl rfl (kB _ e v b (hv.cM zE) zo) ?_;rintro v1 _ ⟨hd,Kh⟩
 by_cases hm:jm b
 rotate_left
 ·obtain ⟨rfl,rfl⟩:=Kh hm;have l8:s.fE c ls.cG b now=(4,0,s):=by unfold pi.fE;rw [aI hm]
  rw [l8]
  (repeat (refine wA ?_;intros))
  refine aZ rfl rfl (Ct.at zP (sB _ e gl ld lk seed ls v b (hv.cM zE))) ?_;rintro _ _ ⟨rfl,rfl⟩;refine wB ?_;apply br
  ·exact zV
  exact ⟨ej g d gl c s::cW gl ld lk seed ls::R,cn (show cB _ (DG g d gl c s a M (cW gl ld lk seed ls::R)) from zE) (qB ha),rfl,rfl⟩
 obtain ⟨Md,vf,vn,rfl,QO,AX,rfl⟩:=hd hm;refine bn (cz (QO.cM (cH zP))) fun o6=>?_
 refine bn (cz (AX.cM (cH zP))) fun o7=>?_
 (repeat (refine wA ?_;intros))
 refine aZ rfl rfl (Ct.at zP (sB _ e gl ld lk seed ls v b (hv.cM zE))) ?_;rintro _ _ ⟨rfl,rfl⟩
 by_cases gB:b∈ls.cG
 ·have l8:s.fE c ls.cG b now=(2,(lT ls.cG b:Int),s):=by unfold pi.fE;rw [aB (fun q=>q hm),aI gB]
  rw [l8,aI gB,ay gB];refine wB ?_;apply br
  ·exact zV
  exact ⟨ej g d gl c s::cW gl ld lk seed ls::R,cn (show cB _ (DG g d gl c s a M (cW gl ld lk seed ls::R)) from zE) (qB ha),rfl,rfl⟩
 rw [aB gB,aq gB];refine wB ?_;refine aZ rfl rfl (Ct.at zP (KC _ e a.gq c.room c.size c.wait a.l v b (hv.cM zE) (by have:=ha.st.BH;omega))) ?_;rintro _ _ ⟨rfl,rfl⟩;rw [MV ha.QX]
 by_cases hq:b∈s.q.map (·.1)
 ·have l8:s.fE c ls.cG b now=(1,CL s.recs b,s):=by unfold pi.fE;rw [aB (fun q=>q hm),aB gB,aI hq]
  rw [l8,ay hq];refine wB ?_;refine aZ rfl rfl (Ct.cM (Ap (cL g6 [.int .i64 0,.int .i64 0] 254 (0,0)::cW gl ld lk seed ls::R) e g d gl c s v b (hv.cM zE)) (cn (show cB _ (DG g d gl c s a M (cL g6 [.int .i64 0,.int .i64 0] 254 (0,0)::cW gl ld lk seed ls::R)) from zE) (qB ha))) ?_;rintro _ _ ⟨rfl,rfl⟩;refine wB ?_;apply br
  ·exact zV
  exact ⟨ej g d gl c s::cW gl ld lk seed ls::R,zE,rfl,rfl⟩
 rw [aq hq];have xk:=kE (l:=s.recs) (n:=200) (fun m hm=>(ha.st.oh m hm).2);have Ms:s.recs.length≤(eW s.recs).length:=CI _;have xa:(eW s.recs).length+b.length+8≤1048576:=by omega
 obtain ⟨p1,p2,p3⟩:=add_plain (m:=b) (sy:=(eW s.recs).length) xa;refine wB ?_;refine bk (id:=9) [] (cL g [pt a.gj,pt gl,pt a.gq,.int .i64 (c.room:Int),.slice a.ar a.ts.length a.cr] yV (0,0)::R) mixed ?_
 (refine tM 0 ?_;refine tN 1 ?_;refine tF 2 ?_;refine tL 3 ?_;refine tM 5 ?_;refine tN 6 ?_;refine tF 7 ?_;refine tL 8 ?_)
 refine tO 4 ?_;refine bg rfl rfl (Ct.at zP (Kz _ e a.gq c.room c.size c.wait a.l)) ?_;rintro _ _ ⟨rfl,rfl⟩;refine ⟨fun _=>zE,?_⟩
 by_cases wb:c.room≤s.q.length
 ·have l8:s.fE c ls.cG b now=(3,0,s):=by unfold pi.fE;rw [aB (fun q=>q hm),aB gB,aB hq,aI wb]
  rw [l8]
  (refine tk 9 (.bool true) rfl (cE.iW (bS rfl rfl) zy) ?_;refine tM 10 ?_;refine bc 11 rfl rfl zK zE rfl ?_;refine bc 12 rfl rfl zK zE rfl ?_;refine bc 13 rfl rfl zK zE rfl ?_;refine bc 14 rfl rfl zK zE rfl ?_;refine bc 15 rfl rfl zK zE rfl ?_)
  refine bc 16 rfl rfl zK zE rfl ?_
  (refine bc 17 rfl rfl zK zE rfl ?_;refine tk 18 _ rfl (bL rfl rfl) ?_;refine tA 19 ?_)
  refine bf zK ?_;refine wB ?_;apply br
  ·exact zV
  exact ⟨ej g d gl c s::cW gl ld lk seed ls::R,cn (show cB _ (DG g d gl c s a M (cW gl ld lk seed ls::R)) from zE) (qB ha),rfl,rfl⟩
 have l8:s.fE c ls.cG b now=(1,(s.recs.length:Int),⟨s.recs++[b],s.q++[(b,now)]⟩):=by unfold pi.fE;rw [aB (fun q=>q hm),aB gB,aB hq,aB wb]
 rw [l8]
 (refine tk 9 (.bool false) rfl (cE.no (bS rfl rfl) zn) ?_;refine tM 10 ?_;refine dv 11 _ rfl (bu rfl) ?_;refine dv 12 _ rfl (bm rfl) ?_;refine dv 13 _ rfl (ba rfl) ?_;refine dv 14 _ rfl (bp rfl zR) ?_;refine dv 15 _ rfl (bu rfl) ?_)
 refine A.ru 16 rfl rfl zK ?_;have MR:=fun L:List cK=>fun Sl:db L v b=>nZ L e a.gj d s.recs.length (nk (eW s.recs) (eW s.recs).length) b v (ui zo (aS _)) Sl zo zo
 rw [p1,p2,p3] at MR
 refine bg rfl rfl (Ct.AR zP zP (MR _ (hv.cM zE))) ?_;rintro _ _ ⟨rfl,rfl⟩;refine ⟨fun _=>zE,?_⟩
 (refine dv 17 (.bool false) rfl (cE.no (cE.neq rfl rfl) zn) ?_;refine tk 18 _ rfl (bJ rfl rfl) ?_;refine tA 19 ?_)
 refine bf zK ?_;refine wB ?_;refine W.gC [(0,pt g),(1,v),(2,.int .i64 now),(6,pt g6)] zS ?_;refine bk (id:=11) [9,10,11] (cL g [pt a.gj,pt gl,pt a.gq,.int .i64 (c.room:Int),.slice a.ar a.ts.length a.cr] yV (0,0)::R) mixed ?_
 (refine tM 0 ?_;refine tM 1 ?_;refine tN 2 ?_;refine tF 3 ?_;refine tL 4 ?_;refine tM 5 ?_)
 refine tO 6 ?_;refine bg rfl rfl (dy _ e v b (hv.cM zE) zo) ?_;rintro _ _ ⟨ei,k1,rfl,rfl⟩;refine ⟨fun _=>zE,?_⟩;refine tO 7 ?_;refine bF (n:=1) (z:=nY) (cs:=[.slice ei b.length k1]) rfl rfl rfl rfl zQ rfl (fun g1=>⟨fun _=>zE,?_⟩);refine tO 8 ?_;refine bo rfl rfl rfl zP (bB .zero rfl zl) rfl rfl zO zm zo fun dW k2 _=>?_
 refine ⟨fun _=>zE,?_⟩
 ((refine tO 9 ?_;refine dV (bm rfl) ?_);(refine tO 10 ?_;refine dV (ba rfl) ?_);(refine tO 11 ?_;refine tf ?_;refine ⟨zN,?_⟩))
 refine bf zK ?_;refine wB ?_;refine aZ rfl rfl (Ct.at zP (KA _ e a.gq c.room c.size c.wait a.l v b now (hv.cM zE) zo zo (by have:=ha.xE.room;omega))) ?_;rintro _ _ (⟨-,rfl,v2,rfl⟩|⟨lY,-,-⟩)
 rotate_left
 ·exact absurd zo lY
 refine wB ?_;obtain ⟨M2,CJ⟩:∃ M2:cK,M2=dH [M,cT (.slice ei b.length k1) b]:=⟨_,rfl⟩
 have eU:cB [M2] [M]:=by rw [CJ];exact cn (cU (M:=[_,_]) (L:=[])) (bh bG)
 have iJ:cB [M2] [cT (.slice ei b.length k1) b]:=by rw [CJ];exact cn (cU (M:=[_,_]) (L:=[])) (cB.drop (bh bG))
 have j1:yW.ok ⟨a.gj,a.gq,dW,k2,a.ts++[(.slice ei b.length k1,b)],a.l++[⟨v2,b,now⟩]⟩ M2 c ⟨s.recs++[b],s.q++[(b,now)]⟩:=by
  refine ⟨?_,fun x hx=>?_,?_,⟨?_,fun x hx=>?_,?_,fun x hx=>?_,fun x hx=>?_⟩,ha.xE⟩
  ·show (a.ts++[((.slice ei b.length k1:Value),b)]).map (·.2)=_
   rw [ah,ha.recs];rfl
  ·rcases aJ.1 hx with hx|hx
   ·exact (ha.yO x hx).cM eU
   ·rw [an.1 hx];exact cF.cM (bb .zero) iJ
  ·show (a.l++[(⟨v2,b,now⟩:jI)]).map (fun m=>(m.b,m.jD))=_
   rw [ah,ha.QX];rfl
  ·rw [aa];show _+1≤_;omega
  ·rcases aJ.1 hx with hx|hx
   ·exact ha.st.oh x hx
   ·rw [an.1 hx];exact ⟨hm,hb⟩
  ·rw [aa];show _+1≤_;omega
  ·rcases aJ.1 hx with hx|hx
   ·exact ha.st.pj x hx
   ·rw [an.1 hx];exact hb
  ·rcases aJ.1 hx with hx|hx
   ·exact ha.st.wP x hx
   ·rw [an.1 hx]
    show -9223372036854775808≤now∧now≤1000000
    omega
 apply br
 ·exact zV
 refine ⟨ej g d gl c ⟨s.recs++[b],s.q++[(b,now)]⟩::cW gl ld lk seed ls::R,cn ?_ (qB j1),by rw [l1];rfl,rfl⟩;have aaK:eW (s.recs++[b])=eW s.recs++fD b:=n8 _ _;simp only [DG,cV,aa,aj,ah,List.map_cons,List.map_nil,aaK];rw [CJ];exact cn (ea (A:=M) (B:=cT (.slice ei b.length k1) b) zP zP) zE
def MW (q:List (dw × Int)) (s w:Nat) (now:Int):Bool:=match q with
 | []=>false
 | x::_=>decide (s≤q.length∨x.2 = -9223372036854775808∨(x.2≤now∧(w:Int)≤now - x.2))
theorem VQ {l:List jI} {q:List (dw × Int)} (h:l.map (fun m=>(m.b,m.jD))=q) (s w:Nat) (now:Int):due l s w now=MW q s w now:=by
 cases l with
 | nil=>rw [← h];rfl
 | cons m l=>rw [← h];simp [due,MW]
def pi.pn (c:m8) (s:pi) (now:Int):Bool:=MW s.q c.size c.wait now
def pi.yZ (c:m8) (s:pi):pi:={ s with q:=s.q.drop c.size }
def pi.some (c:m8) (s:pi):List dw:=(s.q.take c.size).map (·.1)
theorem HE (g d gl ld lk:Nat) (seed:dw) (ls:fW) (c:m8) (s:pi) (now:Int) (hn:0≤now∧now≤1000000) (hc:ls.cG.length+(ls.fresh (s.some c)).length≤256) :
 Ct prog 169 #[pt g,.int .i64 now] e (ej g d gl c s::cW gl ld lk seed ls::R) (fun v' L'=>(s.pn c now=false∧v'=.tuple #[nY,.int .i64 0]∧L'=ej g d gl c s::cW gl ld lk seed ls::R)∨(s.pn c now=true∧∃ (ao:Option Addr) (co:Nat),v'=.tuple #[.slice ao (s.some c).length co,.int .i64 0]∧L'=ej g d gl c (s.yZ c)::cW gl ld lk seed (ls.add (s.some c))::R)):=by
 refine yX fun a M ha=>?_
 obtain ⟨l1,l2⟩:=ha.len;have hqs:=ha.st.BH;have Ca:=ha.xE.size;refine a8 (args:=[_,_]) func169 rfl ntmps169 results169 rfl ?_;refine wB ?_
 have J2:∀ m∈a.l,-9223372036854775808≤m.jD∧m.jD≤9223372036854775807:=fun m hm=>by
  have:=ha.st.wP (m.b,m.jD) (by rw [← ha.QX];exact aE.2 ⟨m,hm,rfl⟩);dsimp only at this
  omega
 have oT:∀ m∈a.l,m.b.length≤200:=fun m hm=>ha.st.pj (m.b,m.jD) (by rw [← ha.QX];exact aE.2 ⟨m,hm,rfl⟩)
 refine aZ rfl rfl (Ct.at zP (KB _ e a.gq c.room c.size c.wait a.l now (by have:=ha.xE.wait;omega) zo zo zo J2)) ?_;rintro _ _ ⟨rfl,rfl⟩;have E3:due a.l c.size c.wait now=s.pn c now:=VQ ha.QX _ _ _;rw [E3]
 cases hd:s.pn c now with
 | false =>
  refine wB ?_;exact aY (ej g d gl c s::cW gl ld lk seed ls::R) rfl (cn (show cB _ (DG g d gl c s a M (cW gl ld lk seed ls::R)) from zE) (qB ha)) (.inl ⟨rfl,rfl,rfl⟩)
 | true =>
  refine wB ?_;refine aZ rfl rfl (Ct.at zP (Hy _ e a.gq c.room c.size c.wait a.l (fun m hm=>by have:=oT m hm;omega) zo zo)) ?_;rintro _ _ ⟨ad,k,ts,rfl,fB,rfl⟩;refine wB ?_
  have Am:ts.map (·.2)=s.some c:=by
   rw [fB];unfold pi.some;rw [← ha.QX,← List.map_take,List.map_map]
   rfl
  have oH:ts.length=(s.some c).length:=by rw [← Am,ab]
  have aeX:ts.length≤8:=by have:=congrArg List.length fB;rw [ab,ab,aF] at this;omega
  have Is:∀ x∈ts,x.2.length≤200:=fun x hx=>by
   have:x.2∈(a.l.take c.size).map jI.b:=by rw [← fB];exact aE.2 ⟨x,hx,rfl⟩
   obtain ⟨m,hm,hmb⟩:=aE.1 this;rw [← hmb];exact oT m (aR hm)
  have qj:=fun L:List cK=>fun (h1:cF L 1 (.slice ad ts.length k) ts.length (ts.map (·.1))) (h2:dR L ts)=>Kt L e gl ld lk seed ls (.slice ad ts.length k) ts h1 h2 zo Is (by rw [Am];exact hc)
  rw [Am] at qj
  refine aZ rfl rfl (Ct.at zP (qj _ (bb zP) (dR.ef zP))) ?_;rintro _ _ ⟨ao,co,outs,rfl,lx,rfl⟩;have Et:outs.length=(s.some c).length:=by rw [lx,ab]
  rw [Et];refine wB ?_
  have j1:yW.ok { a with l:=a.l.drop c.size } M c (s.yZ c):=by
   refine ⟨ha.recs,ha.yO,?_,⟨ha.st.size,ha.st.oh,?_,fun x hx=>ha.st.pj x (aV hx),fun x hx=>ha.st.wP x (aV hx)⟩,ha.xE⟩
   ·show (a.l.drop c.size).map (fun m=>(m.b,m.jD))=s.q.drop c.size
    rw [List.map_drop,ha.QX]
   ·show (s.q.drop c.size).length≤1000
    rw [aP];omega
  exact aY (ej g d gl c (s.yZ c)::cW gl ld lk seed (ls.add (s.some c))::R) rfl (cn (show cB _ (DG g d gl c (s.yZ c) { a with l:=a.l.drop c.size } M (cW gl ld lk seed (ls.add (s.some c))::R)) from zE) (qB j1)) (.inr ⟨rfl,ao,co,rfl,rfl⟩)
theorem Aq (g d gl:Nat) (c:m8) (s:pi) (n:Nat) (hn:n<s.recs.length) :
 Ct prog 255 #[pt g,.int .i64 (n:Int)] e (ej g d gl c s::R) (fun v' L'=>∃ ad k,v'=.tuple #[.slice ad (s.recs.getD n []).length k,.bool true]∧L'=cT (.slice ad (s.recs.getD n []).length k) (s.recs.getD n [])::ej g d gl c s::R):=by
 refine yX fun a M ha=>?_
 obtain ⟨l1,l2⟩:=ha.len;have lq:=ha.st.size;obtain ⟨gj,gq,ar,cr,ts,l⟩:=a;dsimp only at l1 l2
 have LA:n<ts.length:=by omega
 refine a7 ((bb (show cR _ (cV (.slice ar ts.length cr) ts) _ from zP)).shape zo) ?_;rintro ⟨⟨lO,c',hv,h3,h4,h5,h6⟩,_⟩
 cases hv
 rcases h6 with h6|⟨gr,orr,rfl⟩
 ·omega
 have iX:∀ L R',cR L (cV (.slice (some ⟨gr,orr,none⟩) ts.length cr) ts) R'→Rd L ⟨gr,orr+n,none⟩ (ts[n]'LA).1:=fun L R' p=>(bb p).elem (by rw [aL,ae LA];rfl)
 have ju:=ha.yO _ (ax LA);have tg:s.recs.getD n []=(ts[n]'LA).2:=by rw [← ha.recs];exact fa LA
 have Is:=(ha.st.oh _ (show (ts[n]'LA).2∈s.recs by rw [← ha.recs];exact aE.2 ⟨_,ax LA,rfl⟩)).2;rw [tg]
 generalize ts[n]'LA=y at *
 obtain ⟨yv,b⟩:=y;dsimp only at iX ju Is ⊢
 refine a8 (args:=[_,_]) func255 rfl ntmps255 results255 rfl ?_;dsimp only [DG];refine wB ?_;refine bW rfl (iX _ _ zP) rfl ?_;refine aZ rfl rfl (dy _ e yv b (ju.cM (cH zP)) zo) ?_;rintro _ _ ⟨ad,k,rfl,rfl⟩;refine wB ?_;exact aY (cT (.slice ad b.length k) b::ej g d gl c s::R) rfl (bh (qB ha)) ⟨ad,k,rfl,rfl⟩
theorem E4:∀ (q:Nat) (R:List cK) (e:World) (ad:Option Addr) (cap:Nat) (ts:List eo) (m n:Nat) (w:Bool) (v:Value) (old:List UInt8),ts.length=q→cF R 1 (.slice ad ts.length cap) ts.length (ts.map (·.1))→dR R ts→(∀ a∈ts,a.2.length≤1000000)→ts.length≤1000000→n<9223372036854775808→1≤m→m≤n→db R v old→old.length≤1000000 →
 Ct prog 295 #[.slice ad ts.length cap,.int .i64 (m:Int),.int .i64 (n:Int),v,.bool w] e R (fun v' L'=>∃ (As:List cK) (v1 v2:Value) (a b:List UInt8),v'=.tuple #[v1,v2,.bool (decide (ts.length=io m n w))]∧(ts.length=io m n w→(a,b)=iC m n w (ts.map (·.2)) old)∧a.length≤1000000∧b.length≤1000000∧L'=As++R∧db (As++R) v1 a∧db (As++R) v2 b):=by
 intro q
 induction q using Nat.strongRecOn with
 | _ q ih =>
 intro R e ad cap ts m n w v old hq hv ht lq hl hn T9 Cg hb oT;refine a8 (args:=[_,_,_,_,_]) func295 rfl ntmps295 results295 rfl ?_
 by_cases he:m=n
 ·subst he
  cases w
  ·refine wB ?_;refine aZ rfl rfl (vB _ e ad cap ts hv hl) ?_;rintro _ _ ⟨⟨rfl,rfl⟩|⟨us,a,rfl,rfl⟩,rfl⟩
   ·refine wB ?_;exact aY R rfl aX ⟨[],nY,nY,[],[],by rw [la,aq (by simp)];rfl,fun h=>(by rw [la] at h;simp at h),by simp,by simp,rfl,db.nil _,db.nil _⟩
   have ha:db R a.1 a.2:=ht a (aJ.2 (.inr (an.2 rfl)));have rL:=lq a (aJ.2 (.inr (an.2 rfl)))
   by_cases h0:us.length=0
   ·refine wB ?_;exact aY R rfl aX ⟨[],a.1,a.1,a.2,a.2,by rw [la,ay (by rw [aa,aj,h0])];rfl,fun h=>(by rw [qx,mF]),rL,rL,rfl,ha,ha⟩
   ·refine wB ?_;exact aY R rfl aX ⟨[],a.1,a.1,a.2,a.2,by rw [la,aq (by rw [aa,aj];omega)];rfl,fun h=>(by rw [qx,mF]),rL,rL,rfl,ha,ha⟩
  ·by_cases h0:ts.length=0
   ·refine wB ?_;exact aY R rfl aX ⟨[],v,v,old,old,by rw [qZ,ay h0];rfl,fun h=>(by rw [sx]),oT,oT,rfl,hb,hb⟩
   ·refine wB ?_;exact aY R rfl aX ⟨[],v,v,old,old,by rw [qZ,aq h0];rfl,fun h=>(by rw [sx]),oT,oT,rfl,hb,hb⟩
 have h2:2≤n:=by omega
 have hs:=dA h2;have vy:=fun h=>yM (w:=w) he h2 h
 have JZ:=fun h=>yN (w:=w) he h2 h
 have RQ:=fun p h=>Bz (w:=w) (p:=p) (old:=old) he h2 h
 have RR:=fun p h=>BA (w:=w) (p:=p) (old:=old) he h2 h
 have Ae:0<io m n w:=by
  by_cases h:m≤cO n
  ·rw [vy h];omega
  ·rw [JZ h];omega
 refine wB ?_;refine aZ rfl rfl (vB _ e ad cap ts hv hl) ?_;rintro _ _ ⟨⟨rfl,rfl⟩|⟨us,a,rfl,rfl⟩,rfl⟩
 ·refine wB ?_;exact aY R rfl aX ⟨[],nY,nY,[],[],by rw [aq (by simp;omega)];rfl,fun h=>(by simp at h;omega),by simp,by simp,rfl,db.nil _,db.nil _⟩
 have oR:(us++[a]).length=us.length+1:=by rw [aa,aj]
 have iX:=IG hv;have Vv:dR R us:=fun x hx=>ht x (aJ.2 (.inl hx))
 have ha:db R a.1 a.2:=ht a (aJ.2 (.inr (an.2 rfl)));have rL:=lq a (aJ.2 (.inr (an.2 rfl)));have Vw:∀ x∈us,x.2.length≤1000000:=fun x hx=>lq x (aJ.2 (.inl hx))
 refine wB ?_;refine aZ rfl rfl (mO R e n zo) ?_;rintro _ _ ⟨rfl,rfl⟩;rw [kZ]
 generalize cO n=k at *
 have Sm:∀ {v:Value} {b:List UInt8} (h:db R v b) (As:List cK),db (As++R) v b:=fun h As=>by
  induction As with
  | nil=>exact h
  | cons A As ih=>exact ih.tail
 by_cases wv:m≤k
 ·refine wB ?_;refine aZ rfl rfl (ih us.length zo R e ad cap us m k w v old rfl iX Vv Vw zo zo T9 wv hb oT) ?_;rintro _ _ ⟨As,v1,v2,x,y,rfl,h7,h8,h9,rfl,Oj,VR⟩;refine wB ?_;refine aZ rfl rfl (mE _ e _ _ _ _ VR (Sm ha As) h9 rL) ?_;rintro _ _ ⟨eE,c3,rfl,rfl⟩;refine wB ?_;refine aY (cT (.slice eE (eI y a.2).length c3) (eI y a.2)::(As++R)) rfl aX ⟨cT (.slice eE (eI y a.2).length c3) (eI y a.2)::As,v1,.slice eE (eI y a.2).length c3,x,eI y a.2,?_,fun h=>?_,h8,by rw [eI,dg];omega,rfl,Oj.tail,bb .zero⟩
  ·rw [oR,vy wv,decide_eq_decide.2 (show us.length=io m k w↔us.length+1=io m k w+1 by omega)];rfl
  ·rw [oR,vy wv] at h
   rw [RQ _ wv,mf,mF,← h7 zo]
 ·refine wB ?_;rw [show ((m:Nat):Int) - ((k:Nat):Int)=((m - k:Nat):Int) by omega,show ((n:Nat):Int) - ((k:Nat):Int)=((n - k:Nat):Int) by omega];refine aZ rfl rfl (ih us.length zo R e ad cap us (m - k) (n - k) false v old rfl iX Vv Vw zo zo zo zo hb oT) ?_;rintro _ _ ⟨As,v1,v2,x,y,rfl,h7,h8,h9,rfl,Oj,VR⟩;refine wB ?_;refine aZ rfl rfl (mE _ e _ _ _ _ (Sm ha As) Oj rL h8) ?_;rintro _ _ ⟨eE,c3,rfl,rfl⟩
  (repeat (refine wA ?_;intros))
  refine aZ rfl rfl (mE _ e _ _ _ _ (Sm ha As).tail VR.tail rL h9) ?_;rintro _ _ ⟨jB,c4,rfl,rfl⟩;refine wB ?_;refine aY (cT (.slice jB (eI a.2 y).length c4) (eI a.2 y)::cT (.slice eE (eI a.2 x).length c3) (eI a.2 x)::(As++R)) rfl aX ⟨cT (.slice jB (eI a.2 y).length c4) (eI a.2 y)::cT (.slice eE (eI a.2 x).length c3) (eI a.2 x)::As,.slice eE (eI a.2 x).length c3,.slice jB (eI a.2 y).length c4,eI a.2 x,eI a.2 y,?_,fun h=>?_,by rw [eI,dg];omega,by rw [eI,dg];omega,rfl,bb (.succ .zero),bb .zero⟩
  ·rw [oR,JZ wv,decide_eq_decide.2 (show us.length=io (m - k) (n - k) false↔us.length+1=io (m - k) (n - k) false+1 by omega)];rfl
  ·rw [oR,JZ wv] at h
   rw [RR _ wv,mf,mF,← h7 zo]
def y4 (n m:Int) (ts:List eo) (old:List UInt8):Prop:=jG ts=true∧0<n∧n<m∧old.length=32∧ts.length=io n.toNat m.toNat true
instance (n m:Int) (ts:List eo) (old:List UInt8):Decidable (y4 n m ts old):=by unfold y4;infer_instance
abbrev mZ (n m:Int) (ts:List eo) (old:List UInt8):List UInt8 × List UInt8:=iC n.toNat m.toNat true (ts.map (·.2)) old
theorem E5 (n m:Int) (vp vb:Value) (ts:List eo) (b:List UInt8) (h1:-9223372036854775808≤n∧n≤9223372036854775807) (h2:-9223372036854775808≤m∧m≤9223372036854775807) (hv:cF R 1 vp ts.length (ts.map (·.1))) (ht:dR R ts) (hb:db R vb b) :
 Ct prog 262 #[.agg #[.int .i64 n,.int .i64 m,vp],vb] e R (fun v' L' =>
  (y4 n m ts b∧∃ ad c lO c',v'=.tuple #[.slice ad (mZ n m ts b).1.length c,.slice lO (mZ n m ts b).2.length c',.bool true]∧L'=cT (.slice lO (mZ n m ts b).2.length c') (mZ n m ts b).2::cT (.slice ad (mZ n m ts b).1.length c) (mZ n m ts b).1::R) ∨
  (¬ y4 n m ts b∧v'=.tuple #[nY,nY,.bool false]∧R=L')):=by
 refine a7 (hv.shape zo) ?_;rintro ⟨⟨ad,cap,rfl,h3,h4,h5,h6⟩,_⟩;refine a8 (args:=[_,_]) func262 rfl ntmps262 results262 rfl ?_
 (repeat (refine wA ?_;intros))
 rename_i g;refine aZ rfl rfl (nh _ e _ ts hv.tail ht.tail) ?_;rintro _ _ ⟨rfl,rfl⟩
 by_cases hr:jG ts=true
 rotate_left
 ·rw [show jG ts=false by simpa using hr];refine wB ?_;exact aY R rfl zE (.inr ⟨fun h=>hr h.1,rfl,rfl⟩)
 rw [hr];obtain ⟨r1,r2⟩:=so.1 hr
 by_cases h0:0<n
 rotate_left
 ·refine wB ?_;exact aY R rfl zE (.inr ⟨fun h=>h0 h.2.1,rfl,rfl⟩)
 by_cases cP:n<m
 rotate_left
 ·refine wB ?_;exact aY R rfl zE (.inr ⟨fun h=>cP h.2.2.1,rfl,rfl⟩)
 refine wB ?_;refine aZ rfl rfl (tW _ e _ b hb.tail) ?_;rintro _ _ ⟨rfl,rfl⟩
 by_cases jN:b.length=32
 rotate_left
 ·rw [aq jN];refine wB ?_;exact aY R rfl zE (.inr ⟨fun h=>jN h.2.2.2.1,rfl,rfl⟩)
 rw [ay jN];obtain ⟨i,rfl⟩:=Int.eq_ofNat_of_zero_le (show 0≤n by omega);obtain ⟨j,rfl⟩:=Int.eq_ofNat_of_zero_le (show 0≤m by omega);refine wB ?_;refine aZ rfl rfl (E4 ts.length _ e ad cap ts i j true vb b rfl hv.tail ht.tail (fun a ha=>by have:=r2 a ha;omega) zo zo zo zo hb.tail zo) ?_;rintro _ _ ⟨As,v1,v2,x,y,rfl,h7,h8,h9,rfl,Oj,VR⟩
 have QY:∀ (As:List cK) (M:List cK),cB (As++M) M:=fun As M=>by
  induction As with
  | nil=>exact aX
  | cons A As ih=>exact cB.drop ih
 by_cases Ga:ts.length=io i j true
 ·rw [ay Ga];have Ub:=h7 Ga;have e1:mZ (i:Int) (j:Int) ts b=(x,y):=Ub.symm;rw [e1];dsimp only;refine wB ?_;refine aZ rfl rfl (dy _ e _ x Oj zo) ?_;rintro _ _ ⟨ei,c1,rfl,rfl⟩
  (repeat (refine wA ?_;intros))
  refine aZ rfl rfl (dy _ e _ y VR.tail zo) ?_;rintro _ _ ⟨dW,c2,rfl,rfl⟩;refine wB ?_;exact aY (cT (.slice dW y.length c2) y::cT (.slice ei x.length c1) x::R) rfl (bh (bh (cn (QY As _) (cB.drop aX)))) (.inl ⟨⟨hr,h0,cP,jN,Ga⟩,ei,c1,dW,c2,rfl,rfl⟩)
 ·rw [aq Ga];refine wB ?_;exact aY R rfl (cn (QY As _) (cB.drop aX)) (.inr ⟨fun h=>Ga h.2.2.2.2,rfl,rfl⟩)
def po (n m:Int) (ts:List eo) (old now:List UInt8):Prop :=
 (n=m∧0≤n∧ts.length=0∧old.length=32∧old=now)∨(n=0∧n<m∧ts.length=0∧old=sh []∧now.length=32)∨(y4 n m ts old∧(mZ n m ts old).1=old∧(mZ n m ts old).2=now)
instance (n m:Int) (ts:List eo) (old now:List UInt8):Decidable (po n m ts old now):=by unfold po;infer_instance
theorem y5 (n m:Int) (vp vb vn:Value) (ts:List eo) (b now:List UInt8) (h1:-9223372036854775808≤n∧n≤9223372036854775807) (h2:-9223372036854775808≤m∧m≤9223372036854775807) (hv:cF R 1 vp ts.length (ts.map (·.1))) (ht:dR R ts) (hb:db R vb b) (hw:db R vn now) :
 Ct prog 196 #[.agg #[.int .i64 n,.int .i64 m,vp],vb,vn] e R (fun v' L'=>v'=.bool (decide (po n m ts b now))∧R=L'):=by
 refine a7 (hv.shape zo) ?_;rintro ⟨⟨ad,cap,rfl,h3,h4,h5,h6⟩,_⟩;refine a8 (args:=[_,_,_]) func196 rfl ntmps196 results196 rfl ?_
 by_cases h0:0≤n
 rotate_left
 ·rw [aq (by rintro (h|h|h);(omega);(omega);(have:=h.1.2.1;omega))]
  (repeat (refine wA ?_;intros))
  exact aY R rfl zE ⟨rfl,rfl⟩
 by_cases J6:n≤m
 rotate_left
 ·rw [aq (by rintro (h|h|h);(omega);(omega);(have:=h.1.2.2.1;omega))]
  (repeat (refine wA ?_;intros))
  exact aY R rfl zE ⟨rfl,rfl⟩
 by_cases he:n=m
 ·by_cases u7:ts.length=0
  rotate_left
  ·rw [aq (by rintro (h|h|h);(omega);(omega);(have:=h.1.2.2.1;omega))]
   (repeat (refine wA ?_;intros))
   exact aY R rfl zE ⟨rfl,rfl⟩
  (repeat (refine wA ?_;intros))
  refine aZ rfl rfl (tW _ e _ b hb.tail) ?_;rintro _ _ ⟨rfl,rfl⟩
  by_cases jN:b.length=32
  rotate_left
  ·rw [aq jN,aq (by rintro (h|h|h);(omega);(omega);(have:=h.1.2.2.1;omega))];refine wB ?_;exact aY R rfl zE ⟨rfl,rfl⟩
  rw [ay jN];refine wB ?_;refine aZ rfl rfl (iP _ e _ _ b now hb.tail hw.tail) ?_;rintro _ _ ⟨rfl,rfl⟩
  by_cases hs:b=now
  ·rw [ay hs,ay (.inl ⟨he,h0,u7,jN,hs⟩)];refine wB ?_;exact aY R rfl zE ⟨rfl,rfl⟩
  ·rw [aq hs,aq (by rintro (h|h|h);(exact hs h.2.2.2.2);(omega);(have:=h.1.2.2.1;omega))];refine wB ?_;exact aY R rfl zE ⟨rfl,rfl⟩
 by_cases hz:n=0
 ·by_cases u7:ts.length=0
  rotate_left
  ·rw [aq (by rintro (h|h|h);(omega);(omega);(have:=h.1.2.1;omega))]
   (repeat (refine wA ?_;intros))
   exact aY R rfl zE ⟨rfl,rfl⟩
  (repeat (refine wA ?_;intros))
  refine aZ rfl rfl (tK _ e _ [] (db.nil _) (by simp)) ?_;rintro _ _ ⟨dW,c2,rfl,rfl⟩
  (repeat (refine wA ?_;intros))
  refine aZ rfl rfl (iP _ e _ _ b (sh []) hb.tail.tail (bb .zero)) ?_;rintro _ _ ⟨rfl,rfl⟩
  by_cases hs:b=sh []
  rotate_left
  ·rw [aq hs,aq (by rintro (h|h|h);(omega);(exact hs h.2.2.2.1);(have:=h.1.2.1;omega))];refine wB ?_;exact aY R rfl zE ⟨rfl,rfl⟩
  rw [ay hs];refine wB ?_;refine aZ rfl rfl (tW _ e _ now hw.tail.tail) ?_;rintro _ _ ⟨rfl,rfl⟩
  by_cases jN:now.length=32
  ·rw [ay jN,ay (.inr (.inl ⟨hz,by omega,u7,hs,jN⟩))];refine wB ?_;exact aY R rfl zE ⟨rfl,rfl⟩
  ·rw [aq jN,aq (by rintro (h|h|h);(omega);(exact jN h.2.2.2.2);(have:=h.1.2.1;omega))];refine wB ?_;exact aY R rfl zE ⟨rfl,rfl⟩
 (repeat (refine wA ?_;intros))
 refine aZ rfl rfl (E5 _ e n m _ vb ts b h1 h2 hv.tail ht.tail hb.tail) ?_;rintro _ _ (⟨j1,ei,c1,dW,c2,rfl,rfl⟩|⟨j1,rfl,rfl⟩)
 rotate_left
 ·rw [aq (by rintro (h|h|h);(omega);(omega);(exact j1 h.1))];refine wB ?_;exact aY R rfl zE ⟨rfl,rfl⟩
 refine wB ?_;refine aZ rfl rfl (iP _ e _ _ _ b (bb (.succ .zero)) hb.tail.tail.tail) ?_;rintro _ _ ⟨rfl,rfl⟩
 by_cases hs:(mZ n m ts b).1=b
 rotate_left
 ·rw [aq hs,aq (by rintro (h|h|h);(omega);(omega);(exact hs h.2.1))];refine wB ?_;exact aY R rfl zE ⟨rfl,rfl⟩
 rw [ay hs];refine wB ?_;refine aZ rfl rfl (iP _ e _ _ _ now (bb .zero) hw.tail.tail.tail) ?_;rintro _ _ ⟨rfl,rfl⟩
 by_cases mz:(mZ n m ts b).2=now
 ·rw [ay mz,ay (.inr (.inr ⟨j1,hs,mz⟩))];refine wB ?_;exact aY R rfl zE ⟨rfl,rfl⟩
 ·rw [aq mz,aq (by rintro (h|h|h);(omega);(omega);(exact mz h.2.2))];refine wB ?_;exact aY R rfl zE ⟨rfl,rfl⟩
theorem KE (l:List (List UInt8)):ja l l.length=[]:=by rw [ja,aB zo]
theorem HF (l:List (List UInt8)):ja l 0=[]:=by rw [ja,aB zo]
theorem MX {ts out:List eo} {m:Nat} (ho:out.map (·.2)=ja (ts.map (·.2)) m) (hm:m≤ts.length) (hl:ts.length≤32768):out.length≤16:=by
 have h1:=congrArg List.length ho;rw [ab] at h1
 by_cases gB:0<m∧m<(ts.map (·.2)).length
 ·rw [ja,aI gB,lI _ m _ true rfl zo zo] at h1
  have:=oe 15 (ts.map (·.2)).length m true (by rw [ab];omega)
  omega
 ·rw [ja,aB gB,List.length_nil] at h1
  omega
theorem xF {ts out:List eo} {m:Nat} (ho:out.map (·.2)=ja (ts.map (·.2)) m) (hm:m≤ts.length) (jN:∀ a∈ts,a.2.length=32) (hl:ts.length≤32768) :
 po (m:Int) (ts.length:Int) out (eg ((ts.take m).map (·.2))) (eg (ts.map (·.2))):=by
 have h3:∀ a∈ts.map (·.2),a.length=32:=fun a ha=>by
  obtain ⟨y,hy,rfl⟩:=aE.1 ha;exact jN y hy
 have Pe:=MX ho hm hl
 by_cases he:m=ts.length
 ·subst he;have e1:=KE (ts.map (·.2));rw [ab] at e1
  rw [e1] at ho
  have h0:out.length=0:=by have:=congrArg List.length ho;simpa using this
  rw [List.take_length];exact .inl ⟨rfl,by omega,h0,gH h3,rfl⟩
 by_cases hz:m=0
 ·subst hz;rw [HF] at ho
  have h0:out.length=0:=by have:=congrArg List.length ho;simpa using this
  exact .inr (.inl ⟨rfl,by omega,h0,by rw [List.take_zero];exact k6,gH h3⟩)
 have gB:0<m∧m<(ts.map (·.2)).length:=⟨by omega,by rw [ab];omega⟩
 rw [ja,aI gB] at ho
 have h1:out.length=io m ts.length true:=by
  have:=congrArg List.length ho
  rwa [ab,lI _ m _ true rfl zo zo,ab] at this
 have h4:∀ a∈out,a.2.length=32:=fun a ha=>by
  have:a.2∈out.map (·.2):=aE.2 ⟨a,ha,rfl⟩;rw [ho] at this
  exact BB _ _ _ _ rfl h3 _ this
 have h5:=Hr (ts.map (·.2)).length m (ts.map (·.2)) true (eg ((ts.take m).map (·.2))) rfl zo zo (fun _=>by rw [List.map_take]);rw [ab,← ho] at h5
 have h6:((ts.take m).map (·.2))=(ts.map (·.2)).take m:=List.map_take;refine .inr (.inr ⟨⟨so.2 ⟨Pe,h4⟩,by omega,by omega,gH fun a ha=>h3 a (aR (h6 ▸ ha)),h1⟩,?_,?_⟩)
 ·exact (congrArg Prod.fst h5).trans (by rw [h6])
 ·exact congrArg Prod.snd h5
structure eQ where
 recs:List jg
 keys:Nat
 dE:kQ
 some:Bool
def Sn:jg:=⟨0,sh []⟩
def gZ:kQ:=⟨0,⟨0,[],[]⟩⟩
def eQ.c (s:eQ):jg:=s.recs.getLast?.getD Sn
def recC (c:jg):dw:=be c.size 4++c.root
def eQ.jb (s:eQ):dw:=eW (s.recs.map recC)
structure eQ.ok (s:eQ):Prop where
 right:∀ c∈s.recs,c.right
 Ar:(s.recs.map (·.size)).Pairwise (·<·)
 pos:∀ c∈s.recs,0<c.size
 keys:s.keys≤16
 fits:s.dE.sig.fits
theorem jr {c:jg} (h:c.right):(recC c).length=36:=by unfold recC;rw [aa,cY,h.2]
theorem eQ.uy {s:eQ} (h:s.ok):s.c.right:=by
 unfold eQ.c
 cases hl:s.recs.getLast? with
 | none=>exact ⟨aH _,jT _⟩
 | some c=>exact h.right c (List.mem_of_getLast? hl)
theorem KF (vr:Value) (c:jg) (hv:db R vr c.root) (hc:c.right) :
 Ct prog 111 #[.agg (iT c vr).toArray] e R (fun v' L'=>∃ ad k,v'=.slice ad (recC c).length k∧L'=cT (.slice ad (recC c).length k) (recC c)::R):=by
 have wa:=hc.1;have wZ:=hc.2;refine a7 (cz hv) fun ho=>?_
 refine a8 (args:=[_]) func111 rfl ntmps111 results111 rfl ?_
 (repeat (refine wA ?_;intros))
 refine aZ rfl rfl (jk _ e) ?_;rintro _ _ ⟨gw,rfl,rfl⟩;refine wB ?_;refine aZ rfl rfl (gF _ e gw [] c.size zo (by decide)) ?_;rintro _ _ ⟨rfl,rfl⟩;refine wB ?_;refine aZ rfl rfl (hI _ e gw _ c.root vr (hv.cM zE) (by rw [aa,cY];simp only [List.length_nil];omega)) ?_;rintro _ _ ⟨rfl,rfl⟩;rw [show []++be c.size 4++c.root=recC c by simp [recC]];refine wB ?_;refine aZ rfl rfl (hJ _ e gw _ (by rw [jr hc];omega)) ?_;rintro _ _ ⟨ad,k,rfl,rfl⟩;refine wB ?_;exact aY (cT (.slice ad (recC c).length k) (recC c)::R) rfl zE ⟨ad,k,rfl,rfl⟩
abbrev HG:TypeId:=194
structure nD where
 gj:Nat
 gb:Nat
 gk:Nat
 vs:Value
 vl:Value
 vp:Value
 vr:Value
 up:Value
 uq:Value
structure nD.ok (a:nD) (M:cK) (seed log:dw) (s:eQ):Prop where
 wO:db [M] a.vs seed
 So:db [M] a.vl log
 root:db [M] a.vr s.c.root
 sig:fN [M] a.up a.uq s.dE.sig
 st:s.ok
 sd:seed.length=32
 lg:log.length=32
abbrev nD.cells (a:nD) (id:Nat) (s:eQ):List Value:=[pt a.gj,pt a.gb,.int .i64 (id:Int),a.vs,a.vl,a.vp]++iT s.c a.vr++iB s.dE a.up a.uq++[.bool s.some]
abbrev iK (g d k id:Nat) (s:eQ) (a:nD) (M:cK) (R:List cK):List cK :=
 cL g (a.cells id s) HG (0,0)::M::jh a.gj d s.recs.length::df d (dz s.jb)::mi a.gb a.gk s.keys::jh a.gk k s.keys::df k (er s.keys 1048576)::R
def MY (g d k id:Nat) (seed log:dw) (s:eQ) (a:nD) (M:cK):cK:=dH (Pu (a.ok M seed log s)::iK g d k id s a M [])
def nE (g d k id:Nat) (seed log:dw) (s:eQ):cK:=Ex fun a=>Ex fun M=>MY g d k id seed log s a M
theorem IW {g d k id:Nat} {seed log:dw} {s:eQ} {R:List cK} {P:Program} {f:FuncId} {args:Array Value} {e:World} {Post:Value→List cK→Prop}
 (h:∀ (a:nD) (M:cK),a.ok M seed log s→Ct P f args e (iK g d k id s a M R) Post):Ct P f args e (nE g d k id seed log s::R) Post :=
 Ct.ex .zero fun a=>Ct.ex .zero fun M=>Ct.cM (a7 (p:=a.ok M seed log s) (fun w x=>(jR x).1) fun hp=>(h a M hp).cM (cB.drop aX)) (cU (M:=Pu (a.ok M seed log s)::iK g d k id s a M []) (L:=R))
theorem vF {g d k id:Nat} {seed log:dw} {s:eQ} {a:nD} {M:cK} {R:List cK} (h:a.ok M seed log s):cB (iK g d k id s a M R) (nE g d k id seed log s::R) :=
 cn (mI h) (cn (dS (M:=Pu (a.ok M seed log s)::iK g d k id s a M []) (L:=R)) (cn (fx (f:=fun M=>MY g d k id seed log s a M) M) (fx (f:=fun a=>Ex fun M=>MY g d k id seed log s a M) a)))
theorem E6 (g d k id:Nat) (seed log:dw) (s:eQ) :
 Ct prog 252 #[pt g] e (nE g d k id seed log s::R) (fun v' L'=>∃ ad c,v'=.agg (iT s.c (.slice ad s.c.root.length c)).toArray∧L'=cT (.slice ad s.c.root.length c) s.c.root::nE g d k id seed log s::R):=by
 refine IW fun a M ha=>?_
 have Gf:=(eQ.uy ha.st).2;refine bI (args:=[_]) func252 rfl ntmps252 results252 rfl ?_
 (repeat (refine wA ?_;intros))
 rename_i g2;refine bk (id:=1) [12] (iK g d k id s a M R) mixed ?_
 (refine tM 0 ?_;refine tN 1 ?_;refine tF 2 ?_;refine tF 3 ?_;refine tL 4 ?_;refine tM 5 ?_;refine tN 6 ?_;refine tF 7 ?_;refine tF 8 ?_;refine tL 9 ?_)
 refine tO 10 ?_;refine bg rfl rfl (dy _ e a.vr s.c.root (ha.root.cM (cH zP)) zo) ?_;rintro _ _ ⟨ad,c,rfl,rfl⟩;refine ⟨fun _=>zE,?_⟩
 (refine tk 11 _ rfl (bM rfl zF) ?_;(refine tO 12 ?_;refine zg ?_;refine ⟨zN,?_⟩))
 refine bf zK ?_;refine wB ?_;apply br
 ·exact zV
 exact ⟨cT (.slice ad s.c.root.length c) s.c.root::nE g d k id seed log s::R,cn (show cB _ (cT (.slice ad s.c.root.length c) s.c.root::iK g d k id s a M R) from zE) (bh (vF ha)),ad,c,rfl,rfl⟩
def eQ.js (s:eQ) (c:jg) (n m:Nat) (ts:List eo):Int:=if c.size<s.c.size then 32 else if c.size=s.c.size then (if c=s.c then 0 else 34) else if n=s.c.size∧m=c.size∧po n m ts s.c.root c.root then 0 else 31
theorem E7 (g d k id:Nat) (seed log:dw) (s:eQ) (a:nD) (M:cK) (ha:a.ok M seed log s) (vr vp:Value) (c:jg) (n m:Nat) (ts:List eo) (hr:db R vr c.root) (hc:c.right) (hn:n≤1000000) (hm:m≤1000000) (hv:cF R 1 vp ts.length (ts.map (·.1))) (ht:dR R ts) :
 Ct prog 110 #[pt g,.agg (iT c vr).toArray,.agg #[.int .i64 (n:Int),.int .i64 (m:Int),vp]] e (iK g d k id s a M R) (fun v' L'=>v'=.int .i64 (s.js c n m ts)∧L'=iK g d k id s a M R):=by
 have Sk:=eQ.uy ha.st;have fR:=Sk.1;have wa:=hc.1;refine a7 (cz (hr.cM (show cB (iK g d k id s a M R) R from zE))) fun o1=>?_
 refine a7 (cF.shape (hv.cM (show cB (iK g d k id s a M R) R from zE)) zo) ?_;rintro ⟨⟨rP,cp,rfl,-,-,-,-⟩,_⟩;refine a8 (args:=[_,_,_]) func110 rfl ntmps110 results110 rfl ?_
 (repeat (refine wA ?_;intros))
 rename_i g4 g5;refine bk (id:=1) [] (cL g5 [.int .i64 (n:Int),.int .i64 (m:Int),.slice rP ts.length cp] 102 (0,0)::cL g4 (iT c vr) 83 (0,0)::iK g d k id s a M R) mixed ?_
 by_cases h1:c.size<s.c.size
 ·have hE:s.js c n m ts=32:=by unfold eQ.js;rw [aI h1]
  rw [hE]
  (refine tF 0 ?_;refine tL 1 ?_;refine tM 2 ?_;refine tN 3 ?_;refine tF 4 ?_;refine tF 5 ?_;refine tL 6 ?_;refine tk 7 (.bool true) rfl (cE.iW (cE.lss rfl rfl) zy) ?_;refine tA 8 ?_)
  refine bf zK ?_;refine wB ?_;exact aY (iK g d k id s a M R) rfl zE ⟨rfl,rfl⟩
 (refine tF 0 ?_;refine tL 1 ?_;refine tM 2 ?_;refine tN 3 ?_;refine tF 4 ?_;refine tF 5 ?_;refine tL 6 ?_;refine tk 7 (.bool false) rfl (cE.no (cE.lss rfl rfl) zn) ?_;refine tA 8 ?_)
 refine bf zK ?_;refine wB ?_;refine bk (id:=3) [] (cL g5 [.int .i64 (n:Int),.int .i64 (m:Int),.slice rP ts.length cp] 102 (0,0)::cL g4 (iT c vr) 83 (0,0)::iK g d k id s a M R) mixed ?_
 by_cases h2:c.size=s.c.size
 ·(refine tF 0 ?_;refine tL 1 ?_;refine tM 2 ?_;refine tN 3 ?_;refine tF 4 ?_;refine tF 5 ?_;refine tL 6 ?_;refine tk 7 (.bool true) rfl (cE.iW (bX rfl rfl) zy) ?_;refine tM 8 ?_;refine dv 9 _ rfl (cE.dx rfl zA zX) ?_;refine dv 10 _ rfl (bu rfl) ?_;refine dv 11 _ rfl (bm rfl) ?_;refine dv 12 _ rfl (ba rfl) ?_;refine dv 13 _ rfl (cE.dh rfl zP zI zX) ?_)
  refine A.ru 14 rfl rfl zK ?_;refine bg rfl rfl (yz _ e vr a.vr c s.c (hr.cM zE) (ha.root.cM (cH zP))) ?_;rintro _ _ ⟨rfl,rfl⟩;refine ⟨fun _=>zE,A.fS zE ?_⟩
  by_cases h3:c=s.c
  ·have hE:s.js c n m ts=0:=by unfold eQ.js;rw [aB h1,aI h2,aI h3]
   rw [hE,ay h3]
   (refine dv 15 _ rfl (cE.jZ rfl) ?_;refine tk 16 _ rfl (bL rfl rfl) ?_;refine tA 17 ?_)
   refine bf zK ?_;refine wB ?_;refine bk (id:=5) [] (cL g4 (iT c vr) 83 (0,0)::iK g d k id s a M R) mixed ?_
   (refine tF 0 ?_;refine tL 1 ?_;refine tM 2 ?_;refine tN 3 ?_;refine tF 4 ?_;refine tF 5 ?_;refine tL 6 ?_;refine tk 7 (.bool true) rfl (cE.iW (bX rfl rfl) zy) ?_;refine tA 8 ?_)
   refine bf zK ?_;refine wB ?_;exact aY (iK g d k id s a M R) rfl zE ⟨rfl,rfl⟩
  ·have hE:s.js c n m ts=34:=by unfold eQ.js;rw [aB h1,aI h2,aB h3]
   rw [hE,aq h3]
   (refine dv 15 _ rfl (cE.p9 rfl) ?_;refine tk 16 _ rfl (bL rfl rfl) ?_;refine tA 17 ?_)
   refine bf zK ?_;refine wB ?_;exact aY (iK g d k id s a M R) rfl zE ⟨rfl,rfl⟩
 (refine tF 0 ?_;refine tL 1 ?_;refine tM 2 ?_;refine tN 3 ?_;refine tF 4 ?_;refine tF 5 ?_;refine tL 6 ?_;refine tk 7 (.bool false) rfl (cE.no (bX rfl rfl) zn) ?_;refine tM 8 ?_;refine bc 9 rfl rfl zK zE rfl ?_;refine bc 10 rfl rfl zK zE rfl ?_;refine bc 11 rfl rfl zK zE rfl ?_;refine bc 12 rfl rfl zK zE rfl ?_;refine bc 13 rfl rfl zK zE rfl ?_)
 refine bc 14 rfl rfl zK zE rfl ?_
 (refine bc 15 rfl rfl zK zE rfl ?_;refine tk 16 _ rfl (bJ rfl rfl) ?_;refine tA 17 ?_)
 refine bf zK ?_;refine wB ?_;refine bk (id:=5) [] (cL g4 (iT c vr) 83 (0,0)::iK g d k id s a M R) mixed ?_
 (refine tF 0 ?_;refine tL 1 ?_;refine tM 2 ?_;refine tN 3 ?_;refine tF 4 ?_;refine tF 5 ?_;refine tL 6 ?_;refine tk 7 (.bool false) rfl (cE.no (bX rfl rfl) zn) ?_;refine tA 8 ?_)
 refine bf zK ?_;refine wB ?_;refine bk (id:=7) [] (cL g5 [.int .i64 (n:Int),.int .i64 (m:Int),.slice rP ts.length cp] 102 (0,0)::cL g4 (iT c vr) 83 (0,0)::iK g d k id s a M R) mixed ?_;have Pf:s.js c n m ts=if n=s.c.size∧m=c.size∧po n m ts s.c.root c.root then 0 else 31:=by unfold eQ.js;rw [aB h1,aB h2]
 by_cases h3:n=s.c.size
 rotate_left
 ·have hE:s.js c n m ts=31:=by rw [Pf,aB (fun q=>h3 q.1)]
  rw [hE]
  (refine tF 0 ?_;refine tL 1 ?_;refine tM 2 ?_;refine tN 3 ?_;refine tF 4 ?_;refine tF 5 ?_;refine tL 6 ?_;refine tk 7 (.bool true) rfl (cE.iW (cE.neq rfl rfl) zy) ?_;refine tM 8 ?_;refine bc 9 rfl rfl zK zE rfl ?_;refine bc 10 rfl rfl zK zE rfl ?_;refine bc 11 rfl rfl zK zE rfl ?_;refine bc 12 rfl rfl zK zE rfl ?_;refine bc 13 rfl rfl zK zE rfl ?_;refine tk 14 _ rfl (bL rfl rfl) ?_;refine tM 15 ?_;refine bc 16 rfl rfl zK zE rfl ?_;refine bc 17 rfl rfl zK zE rfl ?_;refine bc 18 rfl rfl zK zE rfl ?_;refine bc 19 rfl rfl zK zE rfl ?_;refine bc 20 rfl rfl zK zE rfl ?_;refine bc 21 rfl rfl zK zE rfl ?_;refine bc 22 rfl rfl zK zE rfl ?_;refine bc 23 rfl rfl zK zE rfl ?_)
  refine bc 24 rfl rfl zK zE rfl ?_
  (refine bc 25 rfl rfl zK zE rfl ?_;refine tk 26 _ rfl (bL rfl rfl) ?_;refine tA 27 ?_)
  refine bf zK ?_;refine wB ?_;exact aY (iK g d k id s a M R) rfl zE ⟨rfl,rfl⟩
 by_cases h4:m=c.size
 rotate_left
 ·have hE:s.js c n m ts=31:=by rw [Pf,aB (fun q=>h4 q.2.1)]
  rw [hE]
  (refine tF 0 ?_;refine tL 1 ?_;refine tM 2 ?_;refine tN 3 ?_;refine tF 4 ?_;refine tF 5 ?_;refine tL 6 ?_;refine tk 7 (.bool false) rfl (cE.no (cE.neq rfl rfl) zn) ?_;refine tM 8 ?_;refine dv 9 _ rfl (ba rfl) ?_;refine dv 10 _ rfl (bp rfl zR) ?_;refine dv 11 _ rfl (ba rfl) ?_;refine dv 12 _ rfl (bp rfl zR) ?_;refine dv 13 (.bool true) rfl (cE.iW (cE.neq rfl rfl) zy) ?_;refine tk 14 _ rfl (bJ rfl rfl) ?_;refine tM 15 ?_;refine bc 16 rfl rfl zK zE rfl ?_;refine bc 17 rfl rfl zK zE rfl ?_;refine bc 18 rfl rfl zK zE rfl ?_;refine bc 19 rfl rfl zK zE rfl ?_;refine bc 20 rfl rfl zK zE rfl ?_;refine bc 21 rfl rfl zK zE rfl ?_;refine bc 22 rfl rfl zK zE rfl ?_;refine bc 23 rfl rfl zK zE rfl ?_)
  refine bc 24 rfl rfl zK zE rfl ?_
  (refine bc 25 rfl rfl zK zE rfl ?_;refine tk 26 _ rfl (bL rfl rfl) ?_;refine tA 27 ?_)
  refine bf zK ?_;refine wB ?_;exact aY (iK g d k id s a M R) rfl zE ⟨rfl,rfl⟩
 (refine tF 0 ?_;refine tL 1 ?_;refine tM 2 ?_;refine tN 3 ?_;refine tF 4 ?_;refine tF 5 ?_;refine tL 6 ?_;refine tk 7 (.bool false) rfl (cE.no (cE.neq rfl rfl) zn) ?_;refine tM 8 ?_;refine dv 9 _ rfl (ba rfl) ?_;refine dv 10 _ rfl (bp rfl zR) ?_;refine dv 11 _ rfl (ba rfl) ?_;refine dv 12 _ rfl (bp rfl zR) ?_;refine dv 13 (.bool false) rfl (cE.no (cE.neq rfl rfl) zn) ?_;refine tk 14 _ rfl (bJ rfl rfl) ?_;refine tM 15 ?_;refine dv 16 _ rfl (cE.dx rfl zA zX) ?_;refine dv 17 _ rfl (bu rfl) ?_;refine dv 18 _ rfl (bm rfl) ?_;refine dv 19 _ rfl (ba rfl) ?_;refine dv 20 _ rfl (ba rfl) ?_;refine dv 21 _ rfl (bp rfl zR) ?_;refine dv 22 _ rfl (ba rfl) ?_;refine dv 23 _ rfl (bp rfl zR) ?_)
 refine A.ru 24 rfl rfl zK ?_;refine bg rfl rfl (y5 _ e (n:Int) (m:Int) (.slice rP ts.length cp) a.vr vr ts s.c.root c.root zo zo (hv.cM zE) (fun x hx=>(ht x hx).cM zE) (ha.root.cM (cH zP)) (hr.cM zE)) ?_;rintro _ _ ⟨rfl,rfl⟩;refine ⟨fun _=>zE,A.fS zE ?_⟩
 by_cases h5:po n m ts s.c.root c.root
 ·have hE:s.js c n m ts=0:=by rw [Pf,aI ⟨h3,h4,h5⟩]
  rw [hE,ay h5]
  (refine dv 25 _ rfl (cE.jZ rfl) ?_;refine tk 26 _ rfl (bJ rfl rfl) ?_;refine tA 27 ?_)
  refine bf zK ?_;refine wB ?_;exact aY (iK g d k id s a M R) rfl zE ⟨rfl,rfl⟩
 ·have hE:s.js c n m ts=31:=by rw [Pf,aB (fun q=>h5 q.2.2)]
  rw [hE,aq h5]
  (refine dv 25 _ rfl (cE.p9 rfl) ?_;refine tk 26 _ rfl (bJ rfl rfl) ?_;refine tA 27 ?_)
  refine bf zK ?_;refine wB ?_;exact aY (iK g d k id s a M R) rfl zE ⟨rfl,rfl⟩
end Go.Proofs
namespace Go.Bs
theorem cE.Sp {P:Program} {N:Fr} {ty:TypeId} {σ:Env} {e:World} {L:List cK} {x:Operand} {t:TypeId} {f n off:Nat} {cs ds:List Value} (hr:∀ w (cs:Array Value),(Instr.field t (.agg cs) f).run P w=.ok (.agg (cs.extract off (off+n))) w) (h:ev σ x=some (.agg cs.toArray)) (hd:(cs.drop off).take n=ds) :
 cE P N (.field t x f) ty (.agg ds.toArray) σ e L:=fun a w ha _ _ _ _ _=>by
 subst hd;have h2:=hr w cs.toArray
 simp [execOp,ha.ev h,h2]
end Go.Bs
namespace Go.Proofs
open Go.Bs
attribute [local irreducible] Bs.cE Bs.Do Bs.O Bs.W Bs.Fin Bs.A Bs.Ct Bs.cF Bs.Rd Bs.Sat Bs.cL Bs.Ob Bs.dJ Bs.View Bs.cB Bs.Ex Bs.dH Bs.Pu Bs.eZ Bs.dO Bs.dZ
theorem Pg:∀ w (cs:Array Value),(Instr.field 87 (.agg cs) 0).run Tryz.prog w=.ok (.agg (cs.extract 0 (0+2))) w:=fun w cs=>by
 simp [Instr.field,Tryz.runUnderlying87,asAgg,part,Tryz.isAgg83,Tryz.sizeOf83]
def eQ.grow (s:eQ) (c:jg):eQ:=if s.c.size<c.size then { s with recs:=s.recs++[c],some:=false } else s
def eQ.cos (seed:dw) (id:Nat) (s:eQ):eQ × Bool:=if s.some=true then (s,true) else if s.keys<16 then ({ s with keys:=s.keys+1,dE:=Bj seed s.keys id s.c,some:=true },true) else (s,false)
def eQ.y6 (seed log:dw) (id:Nat) (s:eQ) (x:j7) (n m:Nat) (ts:List eo):Int:=if ¬ x.hO log then 30 else if s.js x.dd n m ts≠0 then s.js x.dd n m ts else if ((s.grow x.dd).cos seed id).2=true then 0 else 23
def eQ.xl (seed log:dw) (id:Nat) (s:eQ) (x:j7) (n m:Nat) (ts:List eo):eQ:=if ¬ x.hO log then s else if s.js x.dd n m ts≠0 then s else ((s.grow x.dd).cos seed id).1
theorem eQ.MZ (s:eQ) (c:jg) (b:Bool):eQ.c { s with recs:=s.recs++[c],some:=b }=c:=by simp [eQ.c]
theorem eQ.Sq {s:eQ} {c:jg} {n m:Nat} {ts:List eo} (h:s.js c n m ts=0):(s.grow c).c=c:=by
 unfold eQ.grow
 split
 ·exact eQ.MZ s c false
 ·rename_i h1;unfold eQ.js at h
  by_cases h2:c.size<s.c.size
  ·rw [aI h2] at h;cases h
  ·rw [aB h2,aI zo] at h
   by_cases h3:c=s.c
   ·exact h3.symm
   ·rw [aB h3] at h;cases h
theorem eQ.xF {s:eQ} {c:jg} (h:s.ok) (hc:c.right):(s.grow c).ok:=by
 unfold eQ.grow
 split
 ·rename_i h1;refine ⟨fun x hx=>?_,?_,fun x hx=>?_,h.keys,h.fits⟩
  ·rcases aJ.1 hx with hx|hx
   ·exact h.right x hx
   ·rw [an.1 hx];exact hc
  ·show ((s.recs++[c]).map (·.size)).Pairwise (·<·)
   rw [ah];refine List.pairwise_append.2 ⟨h.Ar,by simp,fun a ha b hb=>?_⟩;obtain ⟨y,hy,rfl⟩:=aE.1 ha;rw [List.map_cons,List.map_nil,an] at hb
   subst hb;refine Nat.lt_of_le_of_lt ?_ h1;unfold eQ.c
   cases hl:s.recs.getLast? with
   | none=>rw [List.getLast?_eq_none_iff] at hl;rw [hl] at hy;cases hy
   | some z =>
    obtain ⟨A,hA⟩:=List.getLast?_eq_some_iff.1 hl;have hr:=h.Ar;rw [hA,ah] at hr
    rw [hA] at hy
    rcases aJ.1 hy with hy|hy
    ·exact Nat.le_of_lt ((List.pairwise_append.1 hr).2.2 _ (aE.2 ⟨y,hy,rfl⟩) _ (aE.2 ⟨z,an.2 rfl,rfl⟩))
    ·rw [an.1 hy];exact aS _
  ·rcases aJ.1 hx with hx|hx
   ·exact h.pos x hx
   ·rw [an.1 hx];omega
 ·exact h
abbrev aaL:Value:=.agg (iB gZ nY nY).toArray
theorem CM (R:List cK) (e:World) (g d k id:Nat) (seed log:dw) (s:eQ) (vr vp vq vg:Value) (x:j7) (n m:Nat) (ts:List eo) (hx:fj R vr vp vq x) (hc:x.dd.right) (hf:x.sig.fits) (hid:id<4) (hn:n≤1000000) (hm:m≤1000000) (hv:cF R 1 vg ts.length (ts.map (·.1))) (ht:dR R ts) (lq:s.recs.length≤1000) :
 Ct Tryz.prog 46 #[pt g,.agg (dT x vr vp vq).toArray,.agg #[.int .i64 (n:Int),.int .i64 (m:Int),vg]] e (nE g d k id seed log s::R) (fun v' L'=>(s.y6 seed log id x n m ts=0→∃ (N:cK) (up uq:Value),v'=.tuple #[.agg (iB (s.xl seed log id x n m ts).dE up uq).toArray,.int .i64 0]∧fN [N] up uq (s.xl seed log id x n m ts).dE.sig∧L'=N::nE g d k id seed log (s.xl seed log id x n m ts)::R)∧(s.y6 seed log id x n m ts≠0→v'=.tuple #[aaL,.int .i64 (s.y6 seed log id x n m ts)]∧L'=nE g d k id seed log (s.xl seed log id x n m ts)::R)):=by
 refine IW fun a M ha=>?_
 have Sk:=eQ.uy ha.st;have X2:=hx;obtain ⟨x1,x2,x3⟩:=X2;have mX:cB (iK g d k id s a M R) R:=zE;refine a7 (cz (x1.cM mX)) fun o1=>?_
 refine a7 (x2.cM mX).parts.one fun o2=>?_
 refine a7 (x2.cM mX).path.one fun o3=>?_
 refine a7 (cF.shape (hv.cM mX) zo) ?_;rintro ⟨⟨rP,cp,rfl,-,-,-,-⟩,_⟩;refine bI (args:=[_,_,_]) Tryz.func46 rfl Tryz.ntmps46 Tryz.results46 rfl ?_
 (repeat (refine wA ?_;intros))
 rename_i g4 g5 g6;refine bk (id:=1) [] (cL g4 (dT x vr vp vq) 87 (0,0)::iK g d k id s a M R) Tryz.mixed ?_
 (refine tM 0 ?_;refine tN 1 ?_;refine tF 2 ?_;refine tL 3 ?_;refine tJ 4 ?_)
 refine tO 5 ?_;refine bg rfl rfl (kA _ e a.vl vr vp vq log x (ha.So.cM (cH zP)) (hx.cM zE) hc) ?_;rintro _ _ ⟨rfl,rfl⟩;refine ⟨fun _=>zE,A.fS zE ?_⟩
 by_cases pS:x.hO log
 rotate_left
 ·have hE:s.y6 seed log id x n m ts=30:=by unfold eQ.y6;rw [aI pS]
  have hS:s.xl seed log id x n m ts=s:=by unfold eQ.xl;rw [aI pS]
  rw [hE,hS,aq pS]
  (refine tk 6 _ rfl (cE.p9 rfl) ?_)
  refine bf zK ?_;refine wB ?_;apply br
  ·exact zV
  exact ⟨nE g d k id seed log s::R,cn (show cB _ (iK g d k id s a M R) from zE) (vF ha),(fun h=>by cases h),fun _=>⟨rfl,rfl⟩⟩
 rw [ay pS]
 (refine tk 6 _ rfl (cE.jZ rfl) ?_)
 refine bf zK ?_
 (repeat' first|refine Za ?_|apply Zc|apply Zd|apply Zf|refine Zh ?_|refine Zj ?_|refine YA ?_|apply YC|(apply O.dh;exact rfl;exact zP;(first|(simp only [aC,Nat.add_zero,Nat.reduceAdd,List.drop_succ_cons,List.drop_zero,List.take_succ_cons,List.take_zero];done)|(simp only [aC,Nat.add_zero,Nat.reduceAdd,List.drop_succ_cons,List.drop_zero,List.take_succ_cons,List.take_zero];exact rfl));exact rfl;exact rfl))
 refine aZ rfl rfl ((E7 (cL g6 (iB gZ nY nY) 96 (0,0)::cL g5 [.int .i64 (n:Int),.int .i64 (m:Int),.slice rP ts.length cp] 102 (0,0)::cL g4 (dT x vr vp vq) 87 (0,0)::R) e g d k id seed log s a M ha vr (.slice rP ts.length cp) x.dd n m ts (x1.cM zE) hc hn hm (hv.cM zE) (fun y hy=>(ht y hy).cM zE)).cM zE) ?_;rintro _ _ ⟨rfl,rfl⟩
 by_cases hg:s.js x.dd n m ts=0
 rotate_left
 ·have hE:s.y6 seed log id x n m ts=s.js x.dd n m ts:=by unfold eQ.y6;rw [aB (fun q=>q pS),aI hg]
  have hS:s.xl seed log id x n m ts=s:=by unfold eQ.xl;rw [aB (fun q=>q pS),aI hg]
  rw [hE,hS]
  generalize s.js x.dd n m ts=E at *
  refine wB ?_;apply br
  ·exact zV
  exact ⟨nE g d k id seed log s::R,cn (show cB _ (iK g d k id s a M R) from zE) (vF ha),fun h=>absurd h hg,fun _=>⟨rfl,rfl⟩⟩
 rw [hg];obtain ⟨s1,fR⟩:∃ s1:eQ,s1=s.grow x.dd:=⟨_,rfl⟩
 have pV:s1.ok:=by rw [fR];exact eQ.xF ha.st hc
 have wa:s1.c=x.dd:=by rw [fR];exact eQ.Sq hg
 have hE:s.y6 seed log id x n m ts=if (s1.cos seed id).2=true then 0 else 23:=by unfold eQ.y6;rw [aB (fun q=>q pS),aB (fun q=>q hg),← fR]
 have hS:s.xl seed log id x n m ts=(s1.cos seed id).1:=by unfold eQ.xl;rw [aB (fun q=>q pS),aB (fun q=>q hg),← fR]
 rw [hE,hS]
 (repeat' first|refine W.pJ (id:=11) (fun _:nD × cK=>[(0,pt g),(6,pt g6),(7,.int .i64 0)]) (fun i=>cL g6 (iB gZ nY nY) 96 (0,0)::iK g d k id s1 i.1 i.2 R) (fun i=>i.1.ok i.2 seed log s1) ?_ ?_|refine Za ?_|refine Zb ?_|apply Zc|apply Zd|apply Ze|apply Zf|refine ZQ ?_|refine YA ?_|apply YC)
 rotate_left
 ·refine ⟨?_⟩
  (repeat (refine wA ?_;intros))
  refine bk (id:=6) [] (cL g4 (dT x vr vp vq) 87 (0,0)::cL g (a.cells id s) HG (0,0)::R) Tryz.mixed ?_
  by_cases Sr:s.c.size<x.dd.size
  rotate_left
  ·have Ge:s1=s:=by rw [fR];unfold eQ.grow;rw [aB Sr]
   (refine tF 0 ?_;refine tF 1 ?_;refine tL 2 ?_;refine tM 3 ?_;refine tN 4 ?_;refine tF 5 ?_;refine tF 6 ?_;refine tL 7 ?_;refine tk 8 (.bool false) rfl (cE.no (cE.gtr rfl rfl) zn) ?_)
   refine bf zK ?_;refine wB ?_;rw [Ge];exact bK (a,M) ha zS zE
  have Ge:s1={ s with recs:=s.recs++[x.dd],some:=false }:=by rw [fR];unfold eQ.grow;rw [aI Sr]
  have Ms:=jr hc
  have xk:=kE (l:=s.recs.map recC) (n:=36) (fun r hr=>by
   obtain ⟨y,hy,rfl⟩:=aE.1 hr;rw [jr (ha.st.right y hy)];exact aS _)
  rw [ab] at xk
  obtain ⟨p1,p2,p3⟩:=add_plain (b:=s.jb) (m:=recC x.dd) (sy:=s.jb.length) (by unfold eQ.jb;omega)
  (refine tF 0 ?_;refine tF 1 ?_;refine tL 2 ?_;refine tM 3 ?_;refine tN 4 ?_;refine tF 5 ?_;refine tF 6 ?_;refine tL 7 ?_;refine tk 8 (.bool true) rfl (cE.iW (cE.gtr rfl rfl) zy) ?_)
  refine bf zK ?_;refine wB ?_;refine bk (id:=7) [8] (cL g4 (dT x vr vp vq) 87 (0,0)::cL g (a.cells id s) HG (0,0)::R) Tryz.mixed ?_
  (refine tM 0 ?_;refine tN 1 ?_;refine tF 2 ?_;refine tL 3 ?_;refine tF 4 ?_;refine tk 5 _ rfl (cE.dh rfl zP zI zX) ?_)
  refine tO 6 ?_;refine bg rfl rfl (KF _ e vr x.dd (x1.cM zE) hc) ?_;rintro _ _ ⟨uv,kr,rfl,rfl⟩;refine ⟨fun _=>zE,?_⟩;have MR:=fun L:List cK=>fun Sl:db L (.slice uv (recC x.dd).length kr) (recC x.dd)=>nZ L e a.gj d s.recs.length (nk s.jb s.jb.length) (recC x.dd) (.slice uv (recC x.dd).length kr) (ui (by unfold eQ.jb;omega) (aS _)) Sl zo zo
  rw [p1,p2,p3] at MR
  refine tO 7 ?_;refine bg rfl rfl (Ct.AR zP zP (MR _ (bb zP))) ?_;rintro _ _ ⟨rfl,rfl⟩;refine ⟨fun _=>zE,?_⟩
  ((refine tO 8 ?_;refine dV (bj rfl) ?_))
  refine bf zK ?_;refine wB ?_;refine aZ rfl rfl (gS _ e vr vp vq x (hx.cM zE) hf) ?_;rintro _ _ ⟨N,ur,up,uq,rfl,hN,rfl⟩;refine bn (cz (hN.root.cM (cH zP))) fun o4=>?_
  (repeat' first|refine Za ?_|refine Zb ?_|apply Zc|apply Zd|apply Ze|apply Zf|refine Zg ?_|refine Zh ?_|refine Zi ?_|refine Zj ?_|refine Zu ?_|refine Zy ?_|refine Zz ?_|refine ZG ?_|refine ZH ?_|refine ZI (fun _=>?_) fun _=>?_|refine ZP ?_|refine ZQ ?_|refine Yd ?_|refine Ye ?_|refine Yg fun _=>?_|refine Yh fun _=>?_|refine Yz ?_|refine YA ?_|apply YC|apply YE|apply YF|refine YN ?_|refine YQ ?_|refine YR ?_|(apply O.dh;exact rfl;exact zP;(first|(simp only [aC,Nat.add_zero,Nat.reduceAdd,List.drop_succ_cons,List.drop_zero,List.take_succ_cons,List.take_zero];done)|(simp only [aC,Nat.add_zero,Nat.reduceAdd,List.drop_succ_cons,List.drop_zero,List.take_succ_cons,List.take_zero];exact rfl));exact rfl;exact rfl))
  refine bx _ (cE.Sp (n:=2) (off:=0) (cs:=dT x ur up uq) (ds:=iT x.dd ur) Pg rfl rfl) rfl ?_;refine wB ?_;have QZ:s1.some=false:=by rw [Ge]
  obtain ⟨M2,CJ⟩:∃ M2:cK,M2=dH [M,N]:=⟨_,rfl⟩
  have eU:cB [M2] [M]:=by rw [CJ];exact cn (cU (M:=[_,_]) (L:=[])) (bh bG)
  have iJ:cB [M2] [N]:=by rw [CJ];exact cn (cU (M:=[_,_]) (L:=[])) (cB.drop (bh bG))
  have Ht:nD.ok { a with vr:=ur } M2 seed log s1:=by
   refine ⟨ha.wO.cM eU,ha.So.cM eU,?_,?_,pV,ha.sd,ha.lg⟩
   ·rw [wa];exact hN.root.cM iJ
   ·rw [Ge];exact ha.sig.cM eU
  have VN:s1.jb=s.jb++fD (recC x.dd):=by
   rw [Ge];unfold eQ.jb;rw [ah,List.map_cons,List.map_nil,n8]
  have aaM:s1.recs.length=s.recs.length+1:=by rw [Ge];simp
  have QU:s1.keys=s.keys:=by rw [Ge]
  have Ua:s1.dE=s.dE:=by rw [Ge]
  refine bK ({ a with vr:=ur },M2) Ht zS ?_;dsimp only [iK,nD.cells];rw [VN,aaM,QU,Ua,wa,QZ,CJ];exact cn (ea (A:=M) (B:=N) zP zP) zE
 rintro ⟨a1,M1⟩ Ht;dsimp only at Ht ⊢
 have aaN:=eQ.uy pV;clear ha hE hS
 (repeat' first|refine W.u2 (id:=17) (fun _:nD × cK=>[(0,pt g),(6,pt g6),(7,.int .i64 0)]) (fun i=>cL g6 (iB gZ nY nY) 96 (0,0)::iK g d k id (s1.cos seed id).1 i.1 i.2 R) (fun i=>i.1.ok i.2 seed log (s1.cos seed id).1∧(s1.cos seed id).2=true) ?_ ?_)
 ·rintro ⟨a2,M2⟩ ⟨LD,Ca⟩;dsimp only at LD ⊢
  rw [aI Ca]
  (repeat' first|refine Za ?_|apply Zc|apply Zd|refine Zg ?_|refine Zh ?_|(apply O.dh;exact rfl;exact zP;(first|(simp only [aC,Nat.add_zero,Nat.reduceAdd,List.drop_succ_cons,List.drop_zero,List.take_succ_cons,List.take_zero];done)|(simp only [aC,Nat.add_zero,Nat.reduceAdd,List.drop_succ_cons,List.drop_zero,List.take_succ_cons,List.take_zero];exact rfl));exact rfl;exact rfl))
  refine aZ rfl rfl (pb _ e a2.up a2.uq (s1.cos seed id).1.dE (LD.sig.cM (cH zP)) LD.st.fits) ?_;rintro _ _ ⟨N,up,uq,rfl,hN,rfl⟩;refine bn (hN.cM (cH zP)).parts.one fun o4=>?_
  refine bn (hN.cM (cH zP)).path.one fun o5=>?_
  refine wB ?_;apply br
  ·exact zV
  exact ⟨N::nE g d k id seed log (s1.cos seed id).1::R,cn (show cB _ (N::iK g d k id (s1.cos seed id).1 a2 M2 R) from zE) (bh (vF LD)),fun _=>⟨N,up,uq,rfl,hN,rfl⟩,fun h=>absurd rfl h⟩
 refine ⟨?_⟩
 by_cases QZ:s1.some=true
 ·have M0:s1.cos seed id=(s1,true):=by unfold eQ.cos;rw [aI QZ]
  rw [M0];dsimp only [iK,nD.cells];rw [QZ];refine wB ?_;refine bK (a1,M1) ⟨Ht,rfl⟩ zS ?_;simp only [iK,nD.cells,QZ];exact zE
 have Ss:s1.some=false:=by simpa using QZ
 by_cases hk:s1.keys<16
 rotate_left
 ·have Mt:s1.keys=16:=by have:=pV.keys;omega
  have M0:s1.cos seed id=(s1,false):=by unfold eQ.cos;rw [aB QZ,aB hk]
  rw [M0];have fq:=wK (cL g6 (iB gZ nY nY) 96 (0,0)::cL g (a1.cells id s1) HG (0,0)::M1::jh a1.gj d s1.recs.length::df d (dz s1.jb)::R) e a1.gb a1.gk k 1048576 zo zo;rw [← Mt] at fq
  dsimp only [iK,nD.cells] at fq ⊢
  rw [Ss] at fq ⊢
  refine wB ?_;refine aZ rfl rfl (fq.cM zE) ?_;rintro _ _ ⟨rfl,rfl⟩;refine wB ?_;apply br
  ·exact zV
  refine ⟨nE g d k id seed log s1::R,cn ?_ (vF Ht),(fun h=>by simp at h),fun _=>⟨rfl,rfl⟩⟩;simp only [iK,nD.cells,Ss];exact zE
 have M0:s1.cos seed id=({ s1 with keys:=s1.keys+1,dE:=Bj seed s1.keys id s1.c,some:=true },true):=by unfold eQ.cos;rw [aB QZ,aI hk]
 rw [M0];have fq:=wJ (cL g6 (iB gZ nY nY) 96 (0,0)::cL g (a1.cells id s1) HG (0,0)::M1::jh a1.gj d s1.recs.length::df d (dz s1.jb)::R) e a1.gb a1.gk k s1.keys 1048576 hk zo zo;dsimp only [iK,nD.cells] at fq ⊢
 rw [Ss] at fq ⊢
 refine wB ?_;refine aZ rfl rfl (fq.cM zE) ?_;rintro _ _ ⟨rfl,rfl⟩;refine wB ?_;refine W.gC [(0,pt g),(6,pt g6),(7,.int .i64 0),(10,.int .i64 (s1.keys:Int))] zS ?_;refine bk (id:=15) [18,19,20] (cL g (a1.cells id { s1 with some:=false }) HG (0,0)::M1::R) Tryz.mixed ?_
 (refine tM 0 ?_;refine tM 1 ?_;refine tN 2 ?_;refine tF 3 ?_;refine tL 4 ?_;refine tM 5 ?_;refine tM 6 ?_;refine tN 7 ?_;refine tF 8 ?_;refine tL 9 ?_;refine tM 10 ?_;refine tN 11 ?_;refine tF 12 ?_;refine tk 13 _ rfl (cE.dh rfl zP zI zX) ?_)
 refine tO 14 ?_;refine bg rfl rfl (G2 _ e a1.vs a1.vr seed s1.keys id s1.c (Ht.wO.cM (cH zP)) Ht.sd hk hid (Ht.root.cM (cH zP)) aaN) ?_;rintro _ _ ⟨N,up,uq,rfl,hN,rfl⟩;refine ⟨fun _=>zE,?_⟩;refine A.cC (hN.cM (cH zP)).parts.one fun o4=>?_
 refine A.cC (hN.cM (cH zP)).path.one fun o5=>?_
 refine tM 15 ?_;refine tk 16 _ rfl (bl rfl rfl) ?_;have eU:cB [dH [M1,N]] [M1]:=cn (cU (M:=[_,_]) (L:=[])) (bh bG);have iJ:cB [dH [M1,N]] [N]:=cn (cU (M:=[_,_]) (L:=[])) (cB.drop (bh bG))
 have eu:nD.ok { a1 with up:=up,uq:=uq } (dH [M1,N]) seed log { s1 with keys:=s1.keys+1,dE:=Bj seed s1.keys id s1.c,some:=true } :=
  ⟨Ht.wO.cM eU,Ht.So.cM eU,Ht.root.cM eU,hN.cM iJ,⟨pV.right,pV.Ar,pV.pos,hk,(j6 hk).fits⟩,Ht.sd,Ht.lg⟩
 refine A.two 17 18 rfl rfl rfl rfl zK ?_ ?_
 ·refine bO (bl rfl rfl) rfl ⟨fun _=>zE,?_⟩;refine tO 18 ?_;refine dV (bm rfl) ?_;refine tO 19 ?_;refine dV (ba rfl) ?_;refine tO 20 ?_;refine Do.ep rfl rfl rfl zO zU zW ⟨zN,?_⟩;refine bf zK ?_;refine wB ?_;refine bK ({ a1 with up:=up,uq:=uq },dH [M1,N]) ⟨eu,rfl⟩ zS ?_;exact cn (ea (A:=M1) (B:=N) zP zP) zE
 ·refine dV (bm rfl) ?_;refine A.two 17 19 rfl rfl rfl rfl zK ?_ ?_
  ·refine bO (bl rfl rfl) rfl ⟨zN,?_⟩;refine tO 19 ?_;refine dV (ba rfl) ?_;refine tO 20 ?_;refine Do.ep rfl rfl rfl zO zU zW ⟨zN,?_⟩;refine bf zK ?_;refine wB ?_;refine bK ({ a1 with up:=up,uq:=uq },dH [M1,N]) ⟨eu,rfl⟩ zS ?_;exact cn (ea (A:=M1) (B:=N) zP zP) zE
  ·refine dV (ba rfl) ?_;refine A.two 17 20 rfl rfl rfl rfl zK ?_ ?_
   ·refine bO (bl rfl rfl) rfl ⟨zN,?_⟩;refine tO 20 ?_;refine Do.ep rfl rfl rfl zO zU zW ⟨zN,?_⟩;refine bf zK ?_;refine wB ?_;refine bK ({ a1 with up:=up,uq:=uq },dH [M1,N]) ⟨eu,rfl⟩ zS ?_;exact cn (ea (A:=M1) (B:=N) zP zP) zE
   ·refine Do.ep rfl rfl rfl zO zU zW ⟨zN,?_⟩;refine tO 17 ?_;refine bO (bl rfl rfl) rfl ⟨zN,?_⟩;refine bf zK ?_;refine wB ?_;refine bK ({ a1 with up:=up,uq:=uq },dH [M1,N]) ⟨eu,rfl⟩ zS ?_;exact cn (ea (A:=M1) (B:=N) zP zP) zE
end Go.Proofs
namespace Go.Proofs
attribute [local irreducible] Bs.cE Bs.Do Bs.O Bs.W Bs.Fin Bs.A Bs.Ct Bs.cF Bs.Rd Bs.Sat Bs.cL Bs.Ob Bs.dJ Bs.View Bs.cB Bs.Ex Bs.dH Bs.Pu Bs.eZ Bs.dO Bs.dZ
open Go.Bs
open Tryz
def CN (l:List jg):jg:=l.getLast?.getD Sn
theorem KG (l:List jg) (c:jg):CN (l++[c])=c:=by simp [CN]
theorem HH {l:List jg} (h:∀ c∈l,c.right):(CN l).right:=by
 unfold CN
 cases hl:l.getLast? with
 | none=>exact ⟨aH _,jT _⟩
 | some c=>exact h c (List.mem_of_getLast? hl)
theorem Ph {l:List jg} {c:jg} (h:((l++[c]).map (·.size)).Pairwise (·<·)) (h0:0<c.size):(CN l).size<c.size:=by
 unfold CN
 cases hl:l.getLast? with
 | none=>exact h0
 | some z =>
  obtain ⟨A,hA⟩:=List.getLast?_eq_some_iff.1 hl;rw [ah] at h
  exact (List.pairwise_append.1 h).2.2 _ (aE.2 ⟨z,List.mem_of_getLast? hl,rfl⟩) _ (by simp)
theorem re:gZ.sig.fits:=⟨fun x hx=>absurd hx aO,fun x hx=>absurd hx aO⟩
theorem CO (L:List cK):fN L nY nY gZ.sig :=
 ⟨⟨[],rfl,cF.nil _ _,fun x hx=>absurd hx aO⟩,⟨[],rfl,cF.nil _ _,fun x hx=>absurd hx aO⟩,⟨by decide,by decide,by decide⟩⟩
theorem rf {L R R' R2 R3:List cK} {A B C D:cK} (p:cR L A R) (q:cR R B R') (r:cR R' C R2) (u:cR R2 D R3):cB L (dH [A,B,C,D]::R3):=cn p.out (cn (bh (cn q.out (bh (cn r.out (bh u.out))))) (dS (M:=[A,B,C,D])))
theorem HI (R:List cK) (e:World) (d k id:Nat) (v u:Value) (seed log:dw) (s:eQ) (hv:db R v seed) (hu:db R u log) (JV:seed.length=32) (Ga:log.length=32) (hid:id<4) (hs:s.ok) (lq:s.recs.length≤1000) :
 Ct prog 234 #[pt d,pt k,.int .i64 (id:Int),v,u] e (df d (dz s.jb)::df k (er s.keys 1048576)::R) (fun v' L'=>∃ g,v'=.tuple #[pt g,.int .i64 0]∧L'=nE g d k id seed log { s with dE:=gZ,some:=false }::R):=by
 have hsk:=hs.keys
 have xk:=kE (l:=s.recs.map recC) (n:=36) (fun r hr=>by
  obtain ⟨y,hy,rfl⟩:=aE.1 hr;rw [jr (hs.right y hy)];exact aS _)
 rw [ab] at xk
 have Hw:∀ m∈s.recs.map recC,m.length≤65535:=fun m hm=>by
  obtain ⟨y,hy,rfl⟩:=aE.1 hm;rw [jr (hs.right y hy)]
  decide
 have EO:=n9 (s.recs.map recC) Hw;have mX:cB (df d (dz s.jb)::df k (er s.keys 1048576)::R) R:=zE;refine a7 (cF.shape (hv.cM mX) zo) ?_;rintro ⟨⟨av,cv,rfl,-,-,-,-⟩,_⟩;refine a7 (cF.shape (hu.cM mX) zo) ?_;rintro ⟨⟨au,cu,rfl,-,-,-,-⟩,_⟩;refine a8 (args:=[_,_,_,_,_]) func234 rfl ntmps234 results234 rfl ?_;refine wB ?_;refine aZ rfl rfl (Ct.at (.succ .zero) (wI _ e k s.keys 1048576 hsk zo zo)) ?_;rintro _ _ ⟨gb,gk,rfl,rfl⟩;refine wB ?_;refine aZ rfl rfl (Ct.at (.succ (.succ (.succ .zero))) (nj _ e d s.jb (by unfold eQ.jb;omega))) ?_;rintro _ _ (⟨h1,-⟩|⟨-,gj,uv,cr,ts,rfl,fB,rfl⟩)
 ·rw [show dB s.jb=dB (eW (s.recs.map recC)) from rfl,EO] at h1;cases h1
 rw [show dB s.jb=dB (eW (s.recs.map recC)) from rfl,EO] at fB ⊢
 rw [show s.jb.take (eW (s.recs.map recC)).length=s.jb from List.take_length];dsimp only at fB
 have oH:ts.length=s.recs.length:=by have:=congrArg List.length fB;rw [ab,ab] at this;exact this
 refine wB ?_;refine aZ rfl rfl (dy _ e _ seed (hv.cM zE) zo) ?_;rintro _ _ ⟨Aa,cs,rfl,rfl⟩
 (repeat (refine wA ?_;intros))
 refine aZ rfl rfl (dy _ e _ log (hu.cM zE) zo) ?_;rintro _ _ ⟨xm,cl,rfl,rfl⟩
 (repeat (refine wA ?_;intros))
 refine aZ rfl rfl (me _ e _ seed (hv.cM zE) JV) ?_;rintro vp _ ⟨Mp,rfl,Gg⟩;refine bn (cF.shape (Gg.cM (cH zP)) zo) ?_;rintro ⟨⟨rP,cp,rfl,-,-,-,-⟩,_⟩
 (repeat' first|refine Za ?_|refine Zb ?_|apply Zc|apply Zd|apply Ze|apply Zf|refine Zg ?_|refine Zh ?_|refine Zi ?_|refine Zj ?_|refine Zk ?_|refine Zl ?_|refine Zm ?_|refine Zn ?_|refine Zo ?_|refine Zu ?_|refine Zy ?_|refine Zz ?_|refine ZA ?_|refine ZB ?_|refine ZC (fun _=>?_) fun _=>?_|refine ZD ?_|refine ZE ?_|refine ZJ ?_|refine ZK ?_|refine ZP ?_|refine ZQ ?_|refine ZS ?_|refine ZY ?_|refine ZZ ?_|refine Z6 ?_|refine Yd ?_|refine Ye ?_|refine Yf ?_|refine Yg fun _=>?_|refine Yh fun _=>?_|refine Ym ?_|refine Yw ?_|refine Yx ?_|refine Yy ?_|refine Yz ?_|refine YA ?_|apply YB|apply YC|apply YD|apply YE|apply YF|apply YG|apply YH|apply YI|apply YJ|refine YK ?_|refine YN ?_|refine YQ ?_|refine YR ?_|(apply O.dh;exact rfl;exact zP;(first|(simp only [aC,Nat.add_zero,Nat.reduceAdd,List.drop_succ_cons,List.drop_zero,List.take_succ_cons,List.take_zero];done)|(simp only [aC,Nat.add_zero,Nat.reduceAdd,List.drop_succ_cons,List.drop_zero,List.take_succ_cons,List.take_zero];exact rfl));exact rfl;exact rfl))
 refine aZ rfl rfl (tK _ e nY [] (cF.nil _ _) (by decide)) ?_;rintro _ _ ⟨J7,c0,rfl,rfl⟩;have tH:=jT [];have hc0:CN []=⟨0,sh []⟩:=rfl
 generalize sh []=VS at *
 (repeat (refine wA ?_;intros))
 rename_i g0;refine bq (ι:=Nat × jg × Option Addr × Nat) (fun i=>[(16,pt g0),(67,.slice uv ts.length cr),(68,.int .i64 (ts.length:Int)),(69,.int .i64 (i.1:Int))]) (fun j=>(fun i:jg × Option Addr × Nat=>cL g0 [pt gj,pt gb,.int .i64 (id:Int),.slice Aa seed.length cs,.slice xm log.length cl,.slice rP (kP seed).length cp,.int .i64 (i.1.size:Int),.slice i.2.1 i.1.root.length i.2.2,.int .i64 0,.int .i64 0,nY,nY,.bool false] HG (0,0)::cT (.slice i.2.1 i.1.root.length i.2.2) i.1.root::cI ts::cV (.slice uv ts.length cr) ts::cT (.slice Aa seed.length cs) seed::cT (.slice xm log.length cl) log::Mp::jh gj d ts.length::df d (dz s.jb)::mi gb gk s.keys::jh gk k s.keys::df k (er s.keys 1048576)::R) j.2) (fun i=>i.1≤ts.length∧i.2.1=CN (s.recs.take i.1)) (fun i=>ts.length - i.1) (0,⟨0,VS⟩,J7,c0) ⟨aH _,by rw [List.take_zero];exact hc0.symm⟩ zS zE ?_;rintro ⟨i,c,adc,kc⟩ ⟨hi,HJ⟩;dsimp only at hi HJ ⊢
 have Gf:c.right:=by rw [HJ];exact HH (fun x hx=>hs.right x (aR hx))
 have ae1:=Gf.1;have aaD:=Gf.2
 by_cases cP:i<ts.length
 rotate_left
 ·rw [aG zo] at HJ
  obtain ⟨M,hM⟩:∃ M:cK,M=dH [cT (.slice adc c.root.length kc) c.root,cT (.slice Aa seed.length cs) seed,cT (.slice xm log.length cl) log,Mp]:=⟨_,rfl⟩
  have ho:cB [M] [cT (.slice adc c.root.length kc) c.root,cT (.slice Aa seed.length cs) seed,cT (.slice xm log.length cl) log,Mp]:=by rw [hM];exact cU (M:=[_,_,_,_]) (L:=[])
  have Sk:eQ.c { s with dE:=gZ,some:=false }=c:=HJ.symm
  have j1:nD.ok ⟨gj,gb,gk,.slice Aa seed.length cs,.slice xm log.length cl,.slice rP (kP seed).length cp,.slice adc c.root.length kc,nY,nY⟩ M seed log { s with dE:=gZ,some:=false } :=
   ⟨(bb zP).cM ho,(bb zP).cM ho,by rw [Sk];exact (bb .zero).cM ho,CO _,⟨hs.right,hs.Ar,hs.pos,hs.keys,re⟩,JV,Ga⟩
  refine wB ?_;refine aY (nE g0 d k id seed log { s with dE:=gZ,some:=false }::R) rfl (cn ?_ (vF j1)) ⟨g0,rfl,rfl⟩;dsimp only [iK,nD.cells];rw [Sk,hM,← oH];exact cn (rf (A:=cT (.slice adc c.root.length kc) c.root) (B:=cT (.slice Aa seed.length cs) seed) (C:=cT (.slice xm log.length cl) log) (D:=Mp) zP zP zP zP) zE
 have pg:i<s.recs.length:=by omega
 have ju:(ts[i]'cP).2=recC (s.recs[i]'pg):=by
  have:=congrArg (fun l=>l[i]?) fB;simp only [aL,ae cP,ae pg,Option.map_some,Option.some.injEq] at this
  exact this
 have fq:s.recs.take (i+1)=s.recs.take i++[s.recs[i]'pg]:=aD pg;have Kv:=hs.right _ (ax pg);have Od:=hs.pos _ (ax pg)
 have Ce:c.size<(s.recs[i]'pg).size:=by
  rw [HJ];refine Ph ?_ Od;rw [← fq];exact hs.Ar.sublist ((List.take_sublist _ _).map _)
 have hcn:CN (s.recs.take (i+1))=s.recs[i]'pg:=by rw [fq,KG]
 refine bD ((bb (show cR _ (cV (.slice uv ts.length cr) ts) _ from zP)).shape zo) ?_;rintro ⟨⟨lO,c',lP,wG,IV,Ao,uW⟩,_⟩
 cases lP
 simp only [maxLen] at IV
 rcases uW with uW|⟨gr,or',rfl⟩
 ·omega
 have iX:∀ L R',cR L (cV (.slice (some ⟨gr,or',none⟩) ts.length cr) ts) R'→Rd L ⟨gr,or'+i,none⟩ (ts[i]'cP).1:=fun L R' p=>(bb p).elem (by rw [aL,ae cP];rfl)
 have sf:∀ L R',cR L (cI ts) R'→db L (ts[i]'cP).1 (ts[i]'cP).2:=fun L R' p=>dR.ef p _ (ax cP)
 generalize s.recs[i]'pg=n at *
 generalize ts[i]'cP=y at *
 obtain ⟨yv,b⟩:=y;dsimp only at iX sf ju
 subst ju;have AX:=Kv.1;have F9:=Kv.2;have oT:(recC n).length=36:=jr Kv;have Hc:recC n=be n.size 4++(n.root++[]):=by simp [recC]
 refine bD (cz (sf _ _ zP)) fun oy=>?_
 refine wB ?_;refine bW rfl (iX _ _ zP) rfl ?_;refine wB ?_;refine aZ rfl rfl (jx _ e yv (recC n) (sf _ _ zP) zo) ?_;rintro _ _ ⟨gr2,rfl,rfl⟩;rw [Hc];refine wB ?_;refine aZ rfl rfl (tD _ e gr2 n.size _ zo) ?_;rintro _ _ ⟨rfl,rfl⟩;refine wB ?_;have aaP:=fun L:List cK=>x8 L e gr2 32 n.root [] F9 (by rw [aK];omega)
 refine aZ rfl rfl (aaP _) ?_;rintro _ _ ⟨adn,kn,rfl,rfl⟩
 (repeat (refine wA ?_;intros))
 refine bz (id:=15) [] mixed ?_
 (refine tM 0 ?_)
 refine tO 1 ?_;refine bg rfl rfl (Ct.at zP (x9 _ e gr2 [])) ?_;rintro _ _ ⟨rfl,rfl⟩;refine ⟨fun _=>zE,A.fS zE ?_⟩;rw [ay rfl]
 (refine tk 2 _ rfl (cE.jZ rfl) ?_;refine tM 3 ?_;refine dv 4 _ rfl (cE.dx rfl zA zX) ?_)
 refine A.ru 5 rfl rfl zK ?_;refine bg rfl rfl (gI _ e (.slice adn n.root.length kn) n (bb zP)) ?_;rintro _ _ ⟨rfl,rfl⟩;refine ⟨fun _=>zE,A.fS zE ?_⟩;rw [ay Kv]
 (refine dv 6 _ rfl (cE.jZ rfl) ?_;refine tk 7 _ rfl (bJ rfl rfl) ?_;refine tM 8 ?_;refine dv 9 _ rfl (ba rfl) ?_;refine dv 10 _ rfl (bp rfl zR) ?_;refine dv 11 _ rfl (bu rfl) ?_;refine dv 12 _ rfl (bm rfl) ?_;refine dv 13 _ rfl (ba rfl) ?_;refine dv 14 _ rfl (ba rfl) ?_;refine dv 15 _ rfl (bp rfl zR) ?_;refine dv 16 (.bool false) rfl (cE.no (cE.leq rfl rfl) zn) ?_;refine tk 17 _ rfl (bJ rfl rfl) ?_)
 refine bf zK ?_;refine wB ?_;refine bi (i+1,n,adn,kn) ⟨cP,hcn.symm⟩ zd zS zE
end Go.Proofs
namespace Go.Proofs
structure AE where
 jD:Nat
 ord:Nat
 im:Nat
 deriving DecidableEq
def kh:AE:=⟨0,0,0⟩
def AE.lt (a b:AE):Bool:=decide (a.jD<b.jD∨(a.jD=b.jD∧a.ord<b.ord))
def AE.fits (a:AE):Prop:=a.jD≤1000000000∧a.ord≤1000000000∧a.im≤1000000000
def gL (l:List AE) (i j:Nat):List AE:=(l.set i (l.getD j kh)).set j (l.getD i kh)
theorem dI (l:List AE) (i j:Nat):(gL l i j).length=l.length:=by simp [gL]
def Ok:Nat→List AE→Nat→List AE
 | 0,l,_=>l
 | n+1,l,j=>if j=0 then l else if (l.getD j kh).lt (l.getD ((j - 1) / 2) kh) then Ok n (gL l ((j - 1) / 2) j) ((j - 1) / 2) else l
def y7 (l:List AE) (i n:Nat):Nat:=if 2*i+2<n∧(l.getD (2*i+2) kh).lt (l.getD (2*i+1) kh)=true then 2*i+2 else 2*i+1
def lJ:Nat→List AE→Nat→Nat→List AE
 | 0,l,_,_=>l
 | f+1,l,i,n=>if n≤2*i+1 then l else if (l.getD (y7 l i n) kh).lt (l.getD i kh) then lJ f (gL l i (y7 l i n)) (y7 l i n) n else l
def uz:Nat→List AE→List AE
 | 0,l=>l
 | k+1,l=>uz k (lJ l.length l k l.length)
def pM (l:List AE) (a:AE):List AE:=Ok l.length (l++[a]) l.length
def pW (l:List AE):List AE:=(lJ (l.length - 1) (gL l 0 (l.length - 1)) 0 (l.length - 1)).take (l.length - 1)
def gM (l:List AE) (w:Nat):List AE:=uz ((l.filter fun a=>decide (a.im≠w)).length / 2) (l.filter fun a=>decide (a.im≠w))
theorem M4 {α:Type} [DecidableEq α]:∀ (l:List α) (i j:Nat) (hi:i<l.length) (hj:j<l.length),((l.set i l[j]).set j l[i]).Perm l:=fun l i j hi hj=>by
 rw [List.perm_iff_count];intro a
 by_cases h:i=j
 ·subst h;simp
 ·rw [List.count_set (by simpa using hj),List.count_set hi];have h1:(l.set i l[j])[j]'(by simpa using hj)=l[j]:=by simp [List.getElem_set,h]
  rw [h1];have c1:0<List.count l[i] l:=List.count_pos_iff.2 (ax hi);have c2:0<List.count l[j] l:=List.count_pos_iff.2 (ax hj)
  by_cases e1:l[i]=a
  ·by_cases e2:l[j]=a
   ·simp only [e1,e2,beq_self_eq_true,if_true] at c1 c2 ⊢;omega
   ·have e2':(l[j] == a)=false:=by simpa using e2
    simp only [e1,e2',beq_self_eq_true,if_true,Bool.false_eq_true,if_false] at c1 c2 ⊢;omega
  ·have e1':(l[i] == a)=false:=by simpa using e1
   by_cases e2:l[j]=a
   ·simp only [e1',e2,beq_self_eq_true,if_true,Bool.false_eq_true,if_false] at c1 c2 ⊢;omega
   ·have e2':(l[j] == a)=false:=by simpa using e2
    simp only [e1',e2',Bool.false_eq_true,if_false] at c1 c2 ⊢;omega
theorem lc {l:List AE} {i j:Nat} (hi:i<l.length) (hj:j<l.length):(gL l i j).Perm l:=by
 have h1:l.getD j kh=l[j]:=by simp [List.getD,hj]
 have h2:l.getD i kh=l[i]:=by simp [List.getD,hi]
 unfold gL;rw [h1,h2];exact M4 l i j hi hj
theorem E8:∀ (n:Nat) (l:List AE) (j:Nat),j<l.length→(Ok n l j).Perm l
 | 0,_,_,_=>List.Perm.refl _
 | n+1,l,j,h=>by
  unfold Ok
  split
  ·exact List.Perm.refl _
  ·split
   ·exact (E8 n _ _ (by rw [dI];omega)).trans (lc (by omega) h)
   ·exact List.Perm.refl _
theorem CP {l:List AE} {i n:Nat} (h:2*i+1<n):y7 l i n<n∧i<y7 l i n:=by
 unfold y7
 split<;>omega
theorem m1:∀ (f:Nat) (l:List AE) (i n:Nat),i<l.length→n≤l.length→(lJ f l i n).Perm l
 | 0,_,_,_,_,_=>List.Perm.refl _
 | f+1,l,i,n,h,hn=>by
  unfold lJ
  split
  ·exact List.Perm.refl _
  ·rename_i h1;obtain ⟨h2,h3⟩:=CP (l:=l) (i:=i) (n:=n) (by omega)
   split
   ·exact (m1 f _ _ _ (by rw [dI];omega) (by rw [dI];exact hn)).trans (lc h (by omega))
   ·exact List.Perm.refl _
theorem sD:∀ (k:Nat) (l:List AE),k≤l.length→(uz k l).Perm l
 | 0,_,_=>List.Perm.refl _
 | k+1,l,h=>by
  unfold uz;have h1:=m1 l.length l k l.length (by omega) (aS _);exact (sD k _ (by rw [h1.length_eq];omega)).trans h1
theorem y8 (l:List AE) (a:AE):(pM l a).Perm (l++[a]):=E8 _ _ _ (by simp)
theorem jz (l:List AE) (w:Nat):(gM l w).Perm (l.filter fun a=>decide (a.im≠w)):=sD _ _ (by omega)
theorem y9:∀ (f:Nat) (l:List AE) (i n k:Nat),i<l.length→n≤l.length→i<n∨n≤2*i+1→n≤k→(lJ f l i n).getD k kh=l.getD k kh
 | 0,_,_,_,_,_,_,_,_=>rfl
 | f+1,l,i,n,k,h,hn,hi,hk=>by
  unfold lJ
  split
  ·rfl
  ·rename_i h1;obtain ⟨h2,h3⟩:=CP (l:=l) (i:=i) (n:=n) (by omega)
   split
   ·rw [y9 f _ _ _ k (by rw [dI];omega) (by rw [dI];exact hn) (.inl h2) hk];unfold gL;rw [aA,List.getElem?_set_ne (by omega),List.getElem?_set_ne (by omega),← aA]
   ·rfl
theorem vG {l:List AE} (h:l≠[]):(l.getD 0 kh::pW l).Perm l:=by
 have hl:0<l.length:=List.length_pos_iff.2 h;have h1:=lc (l:=l) (i:=0) (j:=l.length - 1) hl (by omega);have h2:=m1 (l.length - 1) (gL l 0 (l.length - 1)) 0 (l.length - 1) (by rw [dI];exact hl) (by rw [dI];omega);have h3:=y9 (l.length - 1) (gL l 0 (l.length - 1)) 0 (l.length - 1) (l.length - 1) (by rw [dI];exact hl) (by rw [dI];omega) (by omega) (aS _)
 have h4:(gL l 0 (l.length - 1)).getD (l.length - 1) kh=l.getD 0 kh:=by
  unfold gL;rw [aA,List.getElem?_set_self (by simp;omega)]
  rfl
 have hlen:=(h2.trans h1).length_eq
 generalize hD:lJ (l.length - 1) (gL l 0 (l.length - 1)) 0 (l.length - 1)=D at *
 have h5:D=D.take (l.length - 1)++[D.getD (l.length - 1) kh]:=by
  conv=>lhs;rw [← List.take_append_drop (l.length - 1) D]
  congr 1
  have hd:l.length - 1<D.length:=by omega
  rw [List.drop_eq_getElem_cons hd,List.drop_eq_nil_of_le (by omega)]
  simp [List.getD,hd]
 rw [h3,h4] at h5
 have h6:=h2.trans h1;rw [h5] at h6
 unfold pW;rw [hD];exact (List.perm_append_comm (l₁:=[l.getD 0 kh]) (l₂:=D.take (l.length - 1))).trans h6
theorem E9 {l:List AE} (h:l≠[]):(pW l).length+1=l.length:=by have:=(vG h).length_eq;simpa using this
end Go.Proofs
namespace Go.Proofs
open Go.Bs
structure wQ where
 fi:dw
 idx:Nat
 size:Nat
 path:List dw
 kR:j7
 eJ:List kQ
def aaR:wQ:=⟨[],0,0,[],⟨⟨0,[]⟩,⟨0,[],[]⟩⟩,[]⟩
structure wQ.wf (b:wQ):Prop where
 fi:b.fi.length≤65535
 idx:b.idx≤256
 size:b.size≤256
 DH:b.path.length≤16
 jN:∀ a∈b.path,a.length=32
 dd:b.kR.dd.right
 sig:b.kR.sig.right
 fG:b.eJ.length≤255
 ey:∀ g∈b.eJ,g.fY<4
 sigs:∀ g∈b.eJ,g.sig.right
def lK (gs:List kQ):dw:=(gs.map eV).flatten
def fT (b:wQ):dw:=enc b.fi++(be b.idx 4++(be b.size 4++(UInt8.ofNat b.path.length::(b.path.flatten++(ic b.kR++(UInt8.ofNat b.eJ.length::lK b.eJ))))))
def pq (idx size:Nat) (path:List dw) (leaf root:dw):Prop:=(path.length≤16∧∀ a∈path,a.length=32)∧leaf.length=32∧idx<size∧path.length=jn size idx∧lE size idx path leaf=root
instance (idx size:Nat) (path:List dw) (leaf root:dw):Decidable (pq idx size path leaf root):=by unfold pq;infer_instance
theorem HK {idx size:Nat} {ts:List eo} {leaf root:dw}:(qm (idx:Int) (size:Int) ts leaf∧qn (idx:Int) (size:Int) ts leaf=root)↔pq idx size (ts.map (·.2)) leaf root:=by
 unfold qm pq qn jG;rw [decide_eq_true_iff,ab];have h1:(∀ a∈ts,a.2.length=32)↔∀ a∈ts.map (·.2),a.length=32:=⟨fun h a ha=>by obtain ⟨x,hx,rfl⟩:=aE.1 ha;exact h x hx,fun h a ha=>h _ (aE.2 ⟨a,ha,rfl⟩)⟩
 rw [h1];simp only [Int.toNat_natCast]
 constructor
 ·rintro ⟨⟨a,b,c,d,e⟩,f⟩;exact ⟨a,b,by omega,e,f⟩
 ·rintro ⟨a,b,c,e,f⟩;exact ⟨⟨a,b,by omega,by omega,e⟩,f⟩
def mj (p:jH) (b:wQ):Int:=if ¬ jm b.fi then 12 else if ¬ b.kR.hO p.log then 30 else if ¬ (b.size=b.kR.dd.size∧pq b.idx b.size b.path (cZ b.fi) b.kR.dd.root) then 31 else if ¬ ue p b.kR.dd b.eJ then 33 else 0
abbrev sE (b:wQ) (vm vp vr va vq vc:Value):List Value:=[vm,.int .i64 (b.idx:Int),.int .i64 (b.size:Int),vp,.int .i64 (b.kR.dd.size:Int),vr,.int .i64 (b.kR.sig.idx:Int),va,vq,vc]
structure rQ (L:List cK) (vm vp vr va vq vc:Value) (b:wQ):Prop where
 fi:db L vm b.fi
 path:mR L vp b.path
 kR:fj L vr va vq b.kR
 gs:pa L vc b.eJ
theorem rQ.cM {L L':List cK} {vm vp vr va vq vc:Value} {b:wQ} (h:rQ L' vm vp vr va vq vc b) (f:cB L L'):rQ L vm vp vr va vq vc b:=⟨h.fi.cM f,h.path.cM f,h.kR.cM f,h.gs.cM f⟩
theorem jo.ok.cM {L L':List cK} {t:jo} (h:jo.ok L' t) (f:cB L L'):jo.ok L t:=⟨h.rd.cM f,h.small⟩
theorem fc {l:List dw} {n:Nat} (h:∀ a∈l,a.length=n):l.flatten.length=l.length*n:=by
 induction l with
 | nil=>simp
 | cons x l ih =>
  rw [List.flatten_cons,aa,h x (List.mem_cons_self ..),ih (fun a ha=>h a (aU _ ha)),aN,Nat.add_mul];omega
theorem rh {gs:List kQ} (h:∀ g∈gs,g.sig.right):(lK gs).length=gs.length*2181:=by
 unfold lK;rw [fc (n:=2181) (fun a ha=>by obtain ⟨g,hg,rfl⟩:=aE.1 ha;exact lr (h g hg)),ab]
theorem pu {b:wQ} (h:b.wf):(fT b).length≤1000000:=by
 have h1:=h.fi;have h2:=h.DH;have h3:=h.fG;unfold fT;simp only [aa,aN,cY,fc h.jN,iQ h.dd h.sig,rh h.sigs,enc]
 omega
structure FW where
 size:Nat
 tries:Nat
 kept:Bool
structure cQ where
 ag:List AE
 ord:Nat
 st:List FW
 cur:Option j7
 kept:List kQ
 done:j7
 dl:List kQ
def vH:j7:=⟨⟨0,[]⟩,⟨0,[],[]⟩⟩
def lu:FW:=⟨0,0,false⟩
def cQ.dX (s:cQ):j7:=s.cur.getD vH
def At (k:Nat):cQ:=⟨[],0,List.replicate k lu,none,[],vH,[]⟩
def j7.fits (x:j7):Prop:=x.dd.right∧x.sig.right
structure cQ.ok (s:cQ) (k n:Nat):Prop where
 len:s.st.length=k
 fits:∀ a∈s.ag,a.fits∧a.im<k
 CQ:(s.ag.map (·.im)).Nodup
 ord:s.ord≤n
 tries:∀ x∈s.st,x.tries≤n
 kT:∀ x∈s.st,x.size≤s.dX.dd.size
 cur:∀ x,s.cur=some x→x.fits
 kept:∀ g∈s.kept,g.fY<k∧g.sig.right∧(s.st.getD g.fY lu).kept=true
 za:(s.kept.map (·.fY)).Nodup
 done:s.dl≠[]→s.done.fits
 M5:s.done.sig.fits
 dl:∀ g∈s.dl,g.fY<k∧g.sig.right
 CR:(s.dl.map (·.fY)).Nodup
def cQ.Pj (s:cQ) (t w:Nat):cQ:={ s with ag:=pM (gM s.ag w) ⟨t,s.ord,w⟩,ord:=s.ord+1 }
def FW.off (x:FW):FW:={ x with tries:=0,kept:=false }
def cQ.Su (s:cQ) (now w:Nat):cQ:=cQ.Pj { s with st:=s.st.set w (s.st.getD w lu).off } now w
def cQ.lU (now:Nat):Nat→cQ→cQ
 | 0,s=>s
 | n+1,s=>(s.lU now n).Su now n
def cQ.Fa (p:jH) (s:cQ) (x:j7):Prop:=x.hO p.log∧∀ c,s.cur=some c→¬ x.dd.size≤c.dd.size
instance (p:jH) (s:cQ) (x:j7):Decidable (s.Fa p x):=by
 unfold cQ.Fa
 cases s.cur with
 | none=>exact decidable_of_iff (x.hO p.log) ⟨fun h=>⟨h,fun c hc=>by cases hc⟩,fun h=>h.1⟩
 | some c=>exact decidable_of_iff (x.hO p.log∧¬ x.dd.size≤c.dd.size) ⟨fun h=>⟨h.1,fun d hd=>by cases hd;exact h.2⟩,fun h=>⟨h.1,h.2 c rfl⟩⟩
def cQ.ii (p:jH) (s:cQ) (x:j7) (now:Nat):cQ:=if s.Fa p x then cQ.lU now s.st.length { s with cur:=some x,kept:=[] } else s
def nF (now:Nat):Nat→List AE→List Nat × List AE
 | 0,l=>([],l)
 | n+1,l=>if 0<l.length∧(l.getD 0 kh).jD≤now then ((l.getD 0 kh).im::(nF now n (pW l)).1,(nF now n (pW l)).2) else ([],l)
def cQ.lf (s:cQ) (now:Nat):List (Nat × Nat):=(nF now s.ag.length s.ag).1.map fun w=>(w,(s.st.getD w lu).size)
def cQ.zc (retry now:Nat) (s:cQ) (w:Nat):cQ :=
 let s2:=s.Pj (now+retry*2 ^ min (s.st.getD w lu).tries 3) w
 {s2 with st:=s2.st.set w { s2.st.getD w lu with tries:=(s2.st.getD w lu).tries+1 } }
def cQ.ir (retry now:Nat):List (Nat × Nat)→cQ→cQ
 | [],s=>s
 | r::l,s=>ir retry now l (s.zc retry now r.1)
def cQ.kJ (retry:Nat) (s:cQ) (now:Nat):cQ:=cQ.ir retry now (s.lf now) { s with ag:=(nF now s.ag.length s.ag).2 }
def cQ.gV (s:cQ) (w:Nat) (g:kQ):cQ:={ s with kept:=s.kept++[g],st:=s.st.set w { s.st.getD w lu with size:=s.dX.dd.size,kept:=true },ag:=gM s.ag w }
def cQ.gC (p:jH) (s:cQ) (w:Nat) (g:kQ):cQ:=if p.ez≤(s.kept++[g]).length then { s.gV w g with done:=s.dX,dl:=s.kept++[g] } else s.gV w g
def cQ.rR (s:cQ) (w:Nat):Prop:=s.cur.isSome=true∧w<s.st.length∧(s.st.getD w lu).kept=false
instance (s:cQ) (w:Nat):Decidable (s.rR w):=by unfold cQ.rR;infer_instance
def cQ.wR (p:jH) (s:cQ) (w:Nat) (g:kQ):Prop:=g.fY=w∧g.hO p s.dX.dd
instance (p:jH) (s:cQ) (w:Nat) (g:kQ):Decidable (s.wR p w g):=by unfold cQ.wR;infer_instance
def cQ.turns (s:cQ) (w size:Nat):Prop:=size≤s.dX.dd.size∧size≠(s.st.getD w lu).size
instance (s:cQ) (w size:Nat):Decidable (s.turns w size):=by unfold cQ.turns;infer_instance
def cQ.Au (s:cQ) (w size now:Nat):cQ:=cQ.Pj { s with st:=s.st.set w { s.st.getD w lu with size:=size } } now w
def cQ.Av (p:jH) (s:cQ) (w:Nat) (g:kQ) (size:Nat):Bool:=decide (s.rR w∧(s.wR p w g∨s.turns w size))
def cQ.oo (p:jH) (s:cQ) (w:Nat) (g:kQ) (size now:Nat):cQ:=if ¬ s.rR w then s else if s.wR p w g then s.gC p w g else if s.turns w size then s.Au w size now else s
theorem Pk {l:List AE} {t o w k:Nat} (h:∀ a∈l,a.fits∧a.im<k) (ht:t≤1000000000) (ho:o≤1000000000) (hw:w<k) (hk:k≤1000):∀ a∈pM (gM l w) ⟨t,o,w⟩,a.fits∧a.im<k:=fun a ha=>by
 have h1:=(y8 (gM l w) ⟨t,o,w⟩).mem_iff.1 ha;rcases aJ.1 h1 with h1|h1
 ·exact h a (List.mem_filter.1 ((jz l w).mem_iff.1 h1)).1
 ·rw [an.1 h1];exact ⟨⟨ht,ho,by show w≤_;omega⟩,hw⟩
theorem KH {l:List AE} {w k:Nat} (h:∀ a∈l,a.fits∧a.im<k):∀ a∈gM l w,a.fits∧a.im<k:=fun a ha=>h a (List.mem_filter.1 ((jz l w).mem_iff.1 ha)).1
theorem HL {l:List AE} {w:Nat}:(gM l w).length≤l.length:=by rw [(jz l w).length_eq];exact List.length_filter_le _ _
theorem ot:∀ (k:Nat) (l:List Nat),l.Nodup→(∀ x∈l,x<k)→l.length≤k
 | 0,l,_,h=>by
  cases l with
  | nil=>simp
  | cons a l=>exact absurd (h a (List.mem_cons_self ..)) (Nat.not_lt_zero a)
 | k+1,l,hn,h=>by
  have h1:=ot k (l.filter fun x=>decide (x≠k)) (hn.filter _) (fun x hx=>by
   obtain ⟨h2,h3⟩:=List.mem_filter.1 hx;have:=h x h2;have:=of_decide_eq_true h3
   omega)
  have h2:l.length=(l.filter fun x=>decide (x≠k)).length+(l.filter fun x=>!decide (x≠k)).length:=by
   rw [← aa,(List.filter_append_perm _ l).length_eq]
  have h3:(l.filter fun x=>!decide (x≠k)).length≤1:=by
   have h4:∀ y∈l.filter (fun x=>!decide (x≠k)),y=k:=fun y hy=>by
    have:=(List.mem_filter.1 hy).2
    simpa using this
   have h5:=hn.filter fun x=>!decide (x≠k)
   cases hq:l.filter (fun x=>!decide (x≠k)) with
   | nil=>simp
   | cons a q =>
    cases q with
    | nil=>simp
    | cons b q =>
     rw [hq] at h4 h5
     have e1:=h4 a (List.mem_cons_self ..);have e2:=h4 b (aU _ (List.mem_cons_self ..));rw [e1,e2] at h5
     simp at h5
  omega
theorem cQ.ok.BJ {s:cQ} {k n:Nat} (h:s.ok k n):s.ag.length≤k:=by
 have:=ot k (s.ag.map (·.im)) h.CQ (fun x hx=>by obtain ⟨a,ha,rfl⟩:=aE.1 hx;exact (h.fits a ha).2)
 rwa [ab] at this
theorem cQ.ok.DH {s:cQ} {k n:Nat} (h:s.ok k n):s.kept.length≤k:=by
 have:=ot k (s.kept.map (·.fY)) h.za (fun x hx=>by obtain ⟨a,ha,rfl⟩:=aE.1 hx;exact (h.kept a ha).1)
 rwa [ab] at this
theorem cQ.ok.KI {s:cQ} {k n:Nat} (h:s.ok k n):s.dl.length≤k:=by
 have:=ot k (s.dl.map (·.fY)) h.CR (fun x hx=>by obtain ⟨a,ha,rfl⟩:=aE.1 hx;exact (h.dl a ha).1)
 rwa [ab] at this
theorem cQ.ok.mono {s:cQ} {k n m:Nat} (h:s.ok k n) (hm:n≤m):s.ok k m:={ h with ord:=Nat.le_trans h.ord hm,tries:=fun x hx=>Nat.le_trans (h.tries x hx) hm }
theorem CS (k:Nat):(At k).ok k 0 where
 len:=List.length_replicate
 fits:=fun a ha=>absurd ha aO
 CQ:=List.nodup_nil
 ord:=aS _
 tries:=fun x hx=>by have:=(List.mem_replicate.1 hx).2;subst this;exact aS _
 kT:=fun x hx=>by have:=(List.mem_replicate.1 hx).2;subst this;exact aH _
 cur:=fun x hx=>nomatch hx
 kept:=fun g hg=>absurd hg aO
 za:=List.nodup_nil
 done:=fun h=>absurd rfl h
 M5:=⟨fun x hx=>absurd hx aO,fun x hx=>absurd hx aO⟩
 dl:=fun g hg=>absurd hg aO
 CR:=List.nodup_nil
theorem wS {l:List AE} {w:Nat} (h:(l.map (·.im)).Nodup):((gM l w).map (·.im)).Nodup:=by
 rw [((jz l w).map _).nodup_iff];exact h.sublist (List.filter_sublist.map _)
theorem KJ {l:List AE} {t o w:Nat} (h:(l.map (·.im)).Nodup):((pM (gM l w) ⟨t,o,w⟩).map (·.im)).Nodup:=by
 rw [((y8 _ _).map _).nodup_iff,ah];refine List.nodup_append.2 ⟨wS h,by simp,fun a ha b hb=>?_⟩;rw [List.map_cons,List.map_nil,an] at hb
 subst hb;obtain ⟨x,hx,rfl⟩:=aE.1 ha;exact of_decide_eq_true (List.mem_filter.1 ((jz l _).mem_iff.1 hx)).2
theorem cQ.CT {s:cQ} {k n t w:Nat} (h:s.ok k n) (ht:t≤1000000000) (hw:w<k) (hk:k≤1000) (hn:n≤1000000):(s.Pj t w).ok k (n+1) :=
 {h.mono (Nat.le_succ n) with
  fits:=Pk h.fits ht (by have:=h.ord;omega) hw hk
  CQ:=KJ h.CQ
  ord:=by have:=h.ord;show s.ord+1≤n+1;omega }
theorem qC {l:List FW} {w:Nat} (h:w<l.length):l.getD w lu∈l:=by
 have:l.getD w lu=l[w]:=by simp [List.getD,h]
 rw [this];exact ax h
theorem qD {l:List FW} {w:Nat} {x:FW} {P:FW→Prop} (h:∀ y∈l,P y) (hx:P x):∀ y∈l.set w x,P y:=fun y hy=>by
 rcases List.mem_or_eq_of_mem_set hy with hy|rfl
 ·exact h y hy
 ·exact hx
theorem HM {l:List FW} {w:Nat} {x:FW} (h:w<l.length) (v:Nat):(l.set w x).getD v lu=if v=w then x else l.getD v lu:=by
 rw [aA,List.getElem?_set]
 by_cases e:v=w
 ·subst e;rw [aI rfl,aI rfl,aI h];rfl
 ·rw [aB (fun q=>e q.symm),aB e,aA]
theorem cQ.Pl {s:cQ} {k n now w:Nat} (h:s.ok k n) (Pm:s.kept=[]) (ht:now≤1000000000) (hw:w<k) (hk:k≤1000) (hn:n≤1000000):(s.Su now w).ok k (n+1):=by
 have hl:w<s.st.length:=by rw [h.len];exact hw
 refine cQ.CT (s:={ s with st:=s.st.set w (s.st.getD w lu).off }) ?_ ht hw hk hn
 exact { h with
  len:=by show (s.st.set w _).length=k;rw [List.length_set];exact h.len
  tries:=qD h.tries (aH _)
  kT:=qD h.kT (show (s.st.getD w lu).size≤_ from h.kT (s.st.getD w lu) (qC hl))
  kept:=fun g hg=>by rw [show cQ.kept { s with st:=s.st.set w (s.st.getD w lu).off }=[] from Pm] at hg;cases hg }
theorem cQ.CU {now k:Nat} (hk:k≤1000) (ht:now≤1000000000):∀ (m:Nat) {s:cQ} {n:Nat},s.ok k n→s.kept=[]→m≤k→n+m≤1000000→(cQ.lU now m s).ok k (n+m)∧(cQ.lU now m s).kept=[]∧(cQ.lU now m s).st.length=s.st.length∧(cQ.lU now m s).cur=s.cur
 | 0,s,n,h,Pm,_,_=>⟨h,Pm,rfl,rfl⟩
 | m+1,s,n,h,Pm,hm,hn=>by
  obtain ⟨h1,h2,h3,h4⟩:=cQ.CU hk ht m h Pm zo zo;have e1:n+m≤1000000:=by omega
  exact ⟨cQ.Pl h1 h2 ht zo hk e1,h2,by show (List.set _ _ _).length=_;rw [List.length_set];exact h3,h4⟩
theorem cQ.IX {s:cQ} {k n:Nat} {p:jH} {x:j7} (h:s.ok k n) (hx:x.fits) (hb:s.Fa p x):cQ.ok { s with cur:=some x,kept:=[] } k n :=
 {h with
  kT:=fun y hy=>by
   have h1:=h.kT y hy
   show y.size≤x.dd.size
   cases hc:s.cur with
   | none=>rw [show s.dX=vH by unfold cQ.dX;rw [hc];rfl] at h1;exact Nat.le_trans h1 (aH _)
   | some c =>
    rw [show s.dX=c by unfold cQ.dX;rw [hc];rfl] at h1
    have:=hb.2 c hc
    omega
  cur:=fun y hy=>by cases hy;exact hx
  kept:=fun g hg=>by cases hg
  za:=List.nodup_nil }
theorem cQ.xG {s:cQ} {k n now:Nat} {p:jH} {x:j7} (h:s.ok k n) (hx:x.fits) (ht:now≤1000000000) (hk:k≤1000) (hn:n+k≤1000000):(s.ii p x now).ok k (n+k):=by
 unfold cQ.ii
 split
 ·rename_i hb;rw [h.len];exact (cQ.CU hk ht k (cQ.IX h hx hb) rfl (aS _) hn).1
 ·exact h.mono zo
theorem ri (now:Nat):∀ (m:Nat) (l:List AE),((nF now m l).1++(nF now m l).2.map (·.im)).Perm (l.map (·.im))∧∀ a∈(nF now m l).2,a∈l
 | 0,l=>⟨List.Perm.refl _,fun a ha=>ha⟩
 | m+1,l=>by
  unfold nF
  split
  ·rename_i h;have oG:l≠[]:=fun q=>by rw [q] at h;simp at h
   obtain ⟨h1,h2⟩:=ri now m (pW l);have h3:=vG oG;refine ⟨?_,fun a ha=>h3.mem_iff.1 (aU _ (h2 a ha))⟩;refine List.Perm.trans (List.Perm.cons _ h1) ?_;exact h3.map (·.im)
  ·exact ⟨List.Perm.refl _,fun a ha=>ha⟩
theorem cQ.M6 {s:cQ} {k n now:Nat} (h:s.ok k n):cQ.ok { s with ag:=(nF now s.ag.length s.ag).2 } k n∧(∀ r∈s.lf now,r.1<k∧r.2≤s.dX.dd.size)∧(s.lf now).length≤k:=by
 obtain ⟨h1,h2⟩:=ri now s.ag.length s.ag;have hu:=h1.nodup_iff.2 h.CQ
 have hm:∀ w∈(nF now s.ag.length s.ag).1,w<k:=fun w hw=>by
  have:=h1.mem_iff.1 (List.mem_append_left _ hw);obtain ⟨a,ha,rfl⟩:=aE.1 this;exact (h.fits a ha).2
 refine ⟨{ h with fits:=fun a ha=>h.fits a (h2 a ha),CQ:=(List.nodup_append.1 hu).2.1 },fun r hr=>?_,?_⟩
 ·obtain ⟨w,hw,rfl⟩:=aE.1 hr;exact ⟨hm w hw,h.kT _ (qC (by rw [h.len];exact hm w hw))⟩
 ·unfold cQ.lf;rw [ab];exact ot k _ (List.nodup_append.1 hu).1 hm
theorem CV {n:Nat}:2 ^ min n 3≤8:=by
 have:min n 3≤3:=Nat.min_le_right _ _
 calc 2 ^ min n 3≤2 ^ 3:=Nat.pow_le_pow_right zo this
  _=8:=rfl
theorem cQ.M7 {s:cQ} {k n retry now w:Nat} (h:s.ok k n) (hr:retry≤100) (ht:now≤10000000) (hw:w<k) (hk:k≤1000) (hn:n≤1000000):(s.zc retry now w).ok k (n+1)∧(s.zc retry now w).dX=s.dX:=by
 have hp:retry*2 ^ min (s.st.getD w lu).tries 3≤800:=by
  have:=Nat.mul_le_mul hr (CV (n:=(s.st.getD w lu).tries));omega
 have h2:=cQ.CT (t:=now+retry*2 ^ min (s.st.getD w lu).tries 3) h zo hw hk hn;have hl:w<s.st.length:=by rw [h.len];exact hw
 refine ⟨?_,rfl⟩
 exact { h2 with
  len:=by show (s.st.set w _).length=k;rw [List.length_set];exact h.len
  tries:=qD h2.tries (by have:=h.tries _ (qC hl);show (s.st.getD w lu).tries+1≤n+1;omega)
  kT:=qD h2.kT (show (s.st.getD w lu).size≤_ from h.kT (s.st.getD w lu) (qC hl))
  kept:=fun g hg=>by
   obtain ⟨h3,h4,h5⟩:=h.kept g hg;refine ⟨h3,h4,?_⟩
   show ((s.st.set w _).getD g.fY lu).kept=true
   rw [HM hl]
   split
   ·rename_i e;rw [e] at h5;exact h5
   ·exact h5 }
theorem cQ.ze {k retry now:Nat} (hr:retry≤100) (ht:now≤10000000) (hk:k≤1000):∀ (l:List (Nat × Nat)) {s:cQ} {n:Nat},s.ok k n→(∀ r∈l,r.1<k)→n+l.length≤1000000→(cQ.ir retry now l s).ok k (n+l.length)∧(cQ.ir retry now l s).dX=s.dX
 | [],s,n,h,_,_=>⟨h,rfl⟩
 | r::l,s,n,h,hl,hn=>by
  rw [aN] at hn
  obtain ⟨h1,h2⟩:=cQ.M7 (w:=r.1) h hr ht (hl r (List.mem_cons_self ..)) hk zo;obtain ⟨h3,h4⟩:=cQ.ze hr ht hk l h1 (fun x hx=>hl x (aU _ hx)) zo;exact ⟨h3.mono (by rw [aN];omega),h4.trans h2⟩
theorem cQ.M8 {s:cQ} {k n retry now:Nat} (h:s.ok k n) (hr:retry≤100) (ht:now≤10000000) (hk:k≤1000) (hn:n+k≤1000000):(s.kJ retry now).ok k (n+k):=by
 obtain ⟨h1,h2,h3⟩:=cQ.M6 (now:=now) h;exact (cQ.ze hr ht hk (s.lf now) h1 (fun r hr=>(h2 r hr).1) zo).1.mono zo
theorem cQ.Fb {s:cQ} {k n w:Nat} {g:kQ} (h:s.ok k n) (hw:w<k) (hg:g.fY=w) (hr:g.sig.right) (Sv:(s.st.getD w lu).kept=false):(s.gV w g).ok k n:=by
 have hl:w<s.st.length:=by rw [h.len];exact hw
 exact { h with
  len:=by show (s.st.set w _).length=k;rw [List.length_set];exact h.len
  fits:=KH h.fits
  CQ:=wS h.CQ
  tries:=qD h.tries (show (s.st.getD w lu).tries≤_ from h.tries (s.st.getD w lu) (qC hl))
  kT:=qD h.kT (aS _)
  kept:=fun q hq=>by
   show q.fY<k∧q.sig.right∧((s.st.set w _).getD q.fY lu).kept=true
   rw [HM hl];rcases aJ.1 hq with hq|hq
   ·obtain ⟨h3,h4,h5⟩:=h.kept q hq;refine ⟨h3,h4,?_⟩
    split
    ·rfl
    ·exact h5
   ·rw [an.1 hq];exact ⟨by rw [hg];exact hw,hr,by rw [aI hg]⟩
  za:=by
   show ((s.kept++[g]).map (·.fY)).Nodup
   rw [ah];refine List.nodup_append.2 ⟨h.za,by simp,fun a ha b hb=>?_⟩;rw [List.map_cons,List.map_nil,an] at hb
   subst hb;rintro rfl;obtain ⟨q,hq,hqe⟩:=aE.1 ha;have h5:=(h.kept q hq).2.2;rw [hqe,hg,Sv] at h5
   cases h5 }
theorem cQ.IY {s:cQ} {k n w:Nat} {g:kQ} {p:jH} (h:s.ok k n) (hw:w<k) (hg:g.fY=w) (hr:g.sig.right) (hh:s.rR w):(s.gC p w g).ok k n:=by
 have h1:=cQ.Fb h hw hg hr hh.2.2;unfold cQ.gC
 split
 ·obtain ⟨c,hc⟩:=Option.isSome_iff_exists.1 hh.1;have IZ:s.dX=c:=by unfold cQ.dX;rw [hc];rfl
  have Xv:=h.cur c hc
  exact { h1 with
   done:=fun _=>by show s.dX.fits;rw [IZ];exact Xv
   M5:=by show s.dX.sig.fits;rw [IZ];exact Xv.2.fits
   dl:=fun q hq=>⟨(h1.kept q hq).1,(h1.kept q hq).2.1⟩
   CR:=h1.za }
 ·exact h1
theorem cQ.I0 {s:cQ} {k n w size now:Nat} (h:s.ok k n) (hw:w<k) (hs:size≤s.dX.dd.size) (ht:now≤1000000000) (hk:k≤1000) (hn:n≤1000000):(s.Au w size now).ok k (n+1):=by
 have hl:w<s.st.length:=by rw [h.len];exact hw
 refine cQ.CT (s:={ s with st:=s.st.set w { s.st.getD w lu with size:=size } }) ?_ ht hw hk hn
 exact { h with
  len:=by show (s.st.set w _).length=k;rw [List.length_set];exact h.len
  tries:=qD h.tries (show (s.st.getD w lu).tries≤_ from h.tries (s.st.getD w lu) (qC hl))
  kT:=qD h.kT hs
  kept:=fun g hg=>by
   obtain ⟨h3,h4,h5⟩:=h.kept g hg;refine ⟨h3,h4,?_⟩
   show ((s.st.set w _).getD g.fY lu).kept=true
   rw [HM hl]
   split
   ·rename_i e;rw [e] at h5;exact h5
   ·exact h5 }
theorem cQ.Pn {s:cQ} {k n w size now:Nat} {g:kQ} {p:jH} (h:s.ok k n) (hr:g.hO p s.dX.dd→g.sig.right) (ht:now≤1000000000) (hk:k≤1000) (hn:n≤1000000):(s.oo p w g size now).ok k (n+1):=by
 unfold cQ.oo
 split
 ·exact h.mono zo
 ·rename_i hh;have hh2:=Decidable.not_not.1 hh;have hw:w<k:=by have:=hh2.2.1;rw [h.len] at this;exact this
  split
  ·rename_i fq;exact (cQ.IY h hw fq.1 (hr fq.2) hh2).mono zo
  ·split
   ·rename_i Sw;exact cQ.I0 h hw Sw.1 ht hk hn
   ·exact h.mono zo
end Go.Proofs
namespace Go.Proofs
attribute [local irreducible] Bs.cE Bs.Do Bs.O Bs.W Bs.Fin Bs.A Bs.Ct Bs.cF Bs.Rd Bs.Sat Bs.cL Bs.Ob Bs.dJ Bs.View Bs.cB Bs.Ex Bs.dH Bs.Pu Bs.eZ Bs.dO Bs.dZ
open Go.Bs
open Tryz
theorem CW (R:List cK) (e:World) (vl vw:Value) (p:jH) (hp:j8 R vl vw p) (hl:p.log.length≤1000000) (hn:p.ey.length≤1000) (hb:∀ b∈p.ey,b.length≤1000000) :
 Ct prog 117 #[.agg (lG p vl vw).toArray] e R (fun v' L'=>∃ (M:cK) (ul uw:Value),v'=.agg (lG p ul uw).toArray∧j8 [M] ul uw p∧L'=M::R):=by
 refine a7 (cz hp.log) fun o1=>?_
 refine a7 hp.ey.one fun o2=>?_
 obtain ⟨ts,fB,tH,Hk⟩:=hp.ey;have oH:ts.length=p.ey.length:=by rw [← fB,ab]
 refine a7 (tH.shape zo) ?_;rintro ⟨⟨HN,cw,rfl,h3,h4,h5,h6⟩,_⟩;simp only [maxLen] at h4
 refine bI (args:=[_]) func117 rfl ntmps117 results117 rfl ?_
 (repeat' first|refine W.pJ (id:=2) (fun j:Nat × Nat × Nat × Option Addr × Nat=>[(1,pt j.1),(2,pt j.2.1),(3,pt j.2.2.1)]) (fun j=>cL j.2.2.1 [.slice j.2.2.2.1 p.log.length j.2.2.2.2,nY,.int .i64 (p.ez:Int)] 106 (0,0)::cT (.slice j.2.2.2.1 p.log.length j.2.2.2.2) p.log::cL j.1 (lG p vl (.slice HN ts.length cw)) 106 (0,0)::cL j.2.1 [nY,nY,.int .i64 0] 106 (0,0)::R) (fun _=>True) ?_ ?_|apply Zc|apply Zd|apply Ze|apply Zf|refine Yg fun _=>?_|refine Yh fun _=>?_|fail)
 rotate_left
 ·refine ⟨?_⟩;rename_i g1 g2
  (repeat' first|refine Za ?_|refine Zb ?_|apply Zc|apply Zd|apply Ze|apply Zf|refine Zh ?_|refine Zi ?_|refine Zj ?_|refine Zk ?_|refine ZA ?_|refine ZB ?_|refine ZC (fun _=>?_) fun _=>?_|refine ZS ?_|refine Yd ?_|refine Ye ?_|refine Yg fun _=>?_|refine Yh fun _=>?_|refine Yi fun _=>?_|refine Ym ?_|refine Yw ?_|refine Yx ?_|refine Yy ?_|refine Yz ?_|refine YA ?_|apply YB|apply YC|apply YD|apply YE|apply YF|apply YG|apply YH|apply YI|apply YJ|refine YK ?_|refine YQ ?_|refine YR ?_|(apply O.dh;exact rfl;exact zP;(first|(simp only [aC,Nat.add_zero,Nat.reduceAdd,List.drop_succ_cons,List.drop_zero,List.take_succ_cons,List.take_zero];done)|(simp only [aC,Nat.add_zero,Nat.reduceAdd,List.drop_succ_cons,List.drop_zero,List.take_succ_cons,List.take_zero];exact rfl));exact rfl;exact rfl))
  refine bk (id:=1) [7] (cL g1 (lG p vl (.slice HN ts.length cw)) 106 (0,0)::R) mixed ?_
  (refine tF 0 ?_;refine tL 1 ?_;refine tF 3 ?_;refine tL 4 ?_)
  refine A.two 2 6 rfl rfl rfl rfl zK ?_ ?_
  ·refine bg rfl rfl (dy _ e vl p.log (hp.log.cM zE) zo) ?_;rintro _ _ ⟨ad,c,rfl,rfl⟩;refine ⟨fun _=>zE,?_⟩;refine tk 5 _ rfl (bM rfl zF) ?_;refine tO 6 ?_;refine bR (cs:=[nY,nY,.int .i64 0]) rfl rfl fun g3=>⟨fun _=>zE,?_⟩
   refine tO 7 ?_;refine zg ?_;refine ⟨zN,?_⟩;refine bf zK ?_;exact bK (g1,g2,g3,ad,c) trivial zS zE
  ·refine bR (cs:=[nY,nY,.int .i64 0]) rfl rfl fun g3=>⟨fun _=>zE,?_⟩
   refine tO 2 ?_;refine bg rfl rfl (dy _ e vl p.log (hp.log.cM zE) zo) ?_;rintro _ _ ⟨ad,c,rfl,rfl⟩;refine ⟨fun _=>zE,?_⟩;refine tk 5 _ rfl (bM rfl zF) ?_;refine tO 7 ?_;refine zg ?_;refine ⟨zN,?_⟩;refine bf zK ?_;exact bK (g1,g2,g3,ad,c) trivial zS zE
 rintro ⟨g1,g2,g3,xm,cl⟩ _;dsimp only;refine wB ?_;refine bq (ι:=Nat × List eo × Option Addr × Nat) (fun j=>[(2,pt g2),(3,pt g3),(13,.slice HN ts.length cw),(14,.int .i64 (ts.length:Int)),(15,.int .i64 (j.1:Int))]) (fun j=>cL g3 [.slice xm p.log.length cl,.slice j.2.2.1 j.2.1.length j.2.2.2,.int .i64 (p.ez:Int)] 106 (0,0)::cV (.slice j.2.2.1 j.2.1.length j.2.2.2) j.2.1::cI j.2.1::cT (.slice xm p.log.length cl) p.log::cL g2 [nY,nY,.int .i64 0] 106 (0,0)::R) (fun j=>j.1≤ts.length∧j.2.1.map (·.2)=p.ey.take j.1) (fun j=>ts.length - j.1) (0,[],none,0) ⟨aH _,rfl⟩ zS (cn (dM) (cn (du eA 1) zE)) ?_;rintro ⟨j,us,m9,cu⟩ ⟨hj,hZ⟩;dsimp only at hj hZ ⊢
 have LC:us.length=j:=by have:=congrArg List.length hZ;rw [ab,aF] at this;omega
 by_cases cP:j<ts.length
 rotate_left
 ·rw [aG zo] at hZ
  obtain ⟨M,hM⟩:∃ M:cK,M=dH [cT (.slice xm p.log.length cl) p.log,cV (.slice m9 us.length cu) us,cI us]:=⟨_,rfl⟩
  have ho:cB [M] [cT (.slice xm p.log.length cl) p.log,cV (.slice m9 us.length cu) us,cI us]:=by rw [hM];exact cU (M:=[_,_,_]) (L:=[])
  refine wB ?_;apply br
  ·exact zV
  exact ⟨M::R,cn (show cB _ (cT (.slice xm p.log.length cl) p.log::cV (.slice m9 us.length cu) us::cI us::R) from zE) (by rw [hM];exact dS (M:=[_,_,_])),M,_,_,rfl,⟨(bb .zero).cM ho,mR.cM ⟨us,hZ,bb (.succ .zero),dR.ef (.succ (.succ .zero))⟩ ho⟩,rfl⟩
 rcases h6 with h6|⟨gg,og,rfl⟩
 ·omega
 have zf:j<p.ey.length:=by omega
 have hr:Rd R ⟨gg,og+j,none⟩ (ts[j]'cP).1:=tH.elem (by rw [aL,ae cP];rfl);have hx:=Hk _ (ax cP)
 have EQ:(ts[j]'cP).2=p.ey[j]'zf:=by
  have:=congrArg (fun l=>l[j]?) fB;simp only [aL,ae cP,ae zf,Option.map_some,Option.some.injEq] at this
  exact this
 have fq:p.ey.take (j+1)=p.ey.take j++[p.ey[j]'zf]:=aD zf;have z7:=hb _ (ax zf);rw [← EQ] at fq z7
 generalize ts[j]'cP=y at *
 obtain ⟨yv,x⟩:=y;dsimp only at hr hx fq z7
 refine bD (cz (hx.cM zE)) fun o3=>?_
 (repeat' first|(refine bW rfl (hr.cM zE) rfl ?_)|refine Zb ?_|apply Zc|apply Zd|apply Ze|apply Zf|refine ZA ?_|refine Yw ?_|refine Yz ?_|apply YB|apply YC)
 refine bk (id:=5) [6,7] (cL g3 [.slice xm p.log.length cl,.slice m9 us.length cu,.int .i64 (p.ez:Int)] 106 (0,0)::R) mixed ?_
 (refine tF 0 ?_;refine tL 1 ?_;refine tM 2 ?_)
 refine tO 3 ?_;refine bg rfl rfl (dy _ e yv x (hx.cM zE) zo) ?_;rintro _ _ ⟨qq,cx,rfl,rfl⟩;refine ⟨fun _=>zE,?_⟩;refine tO 4 ?_;refine bF (n:=1) (cs:=[.slice qq x.length cx]) rfl rfl rfl rfl zQ rfl (fun gb=>⟨fun _=>zE,?_⟩);refine tO 5 ?_;refine bo rfl rfl rfl (show cR _ (cV (.slice m9 us.length cu) us) _ from zP) (bP (n:=1) (c:=1) zP rfl zl) rfl rfl zO zm zo fun ei k1 _=>⟨fun _=>zE,?_⟩
 refine tO 6 ?_;refine dV (ba rfl) ?_;refine tO 7 ?_;refine tf ?_;refine ⟨zN,?_⟩;refine bf zK ?_;refine wB ?_;refine bi (j+1,us++[(.slice qq x.length cx,x)],ei,k1) ⟨cP,by dsimp only;rw [fq,ah,hZ];rfl⟩ zd zS ?_;simp only [cV,aa,aj,ah,List.map_cons,List.map_nil];exact cn (cn (show cB _ (cT (.slice qq x.length cx) x::cI us::dJ eA 1 (.slice ei (us.length+1) k1) (us.length+1) (us.map (·.1)++[.slice qq x.length cx])::cL g3 [.slice xm p.log.length cl,.slice ei (us.length+1) k1,.int .i64 (p.ez:Int)] 106 (0,0)::cT (.slice xm p.log.length cl) p.log::cL g2 [nY,nY,.int .i64 0] 106 (0,0)::R) from zE) jq) zE
theorem CX (R:List cK) (e:World) (vl vw:Value) (p:jH) (hp:j8 R vl vw p) (hl:p.log.length≤1000000) (hn:p.ey.length≤1000) (hb:∀ b∈p.ey,b.length≤1000000) :
 Ct prog 235 #[.agg (lG p vl vw).toArray] e R (fun v' L'=>∃ (M:cK) (ul uw:Value),v'=.agg (lG p ul uw).toArray∧j8 [M] ul uw p∧L'=M::R):=by
 refine a7 (cz hp.log) fun o1=>?_
 refine a7 hp.ey.one fun o2=>?_
 obtain ⟨ts,fB,tH,Hk⟩:=hp.ey;have oH:ts.length=p.ey.length:=by rw [← fB,ab]
 refine a7 (tH.shape zo) ?_;rintro ⟨⟨HN,cw,rfl,h3,h4,h5,h6⟩,_⟩;simp only [maxLen] at h4
 refine bI (args:=[_]) func235 rfl ntmps235 results235 rfl ?_
 (repeat' first|refine W.pJ (id:=2) (fun j:Nat × Nat × Nat × Option Addr × Nat=>[(1,pt j.1),(2,pt j.2.1),(3,pt j.2.2.1)]) (fun j=>cL j.2.2.1 [.slice j.2.2.2.1 p.log.length j.2.2.2.2,nY,.int .i64 (p.ez:Int)] 106 (0,0)::cT (.slice j.2.2.2.1 p.log.length j.2.2.2.2) p.log::cL j.1 (lG p vl (.slice HN ts.length cw)) 106 (0,0)::cL j.2.1 [nY,nY,.int .i64 0] 106 (0,0)::R) (fun _=>True) ?_ ?_|apply Zc|apply Zd|apply Ze|apply Zf|refine Yg fun _=>?_|refine Yh fun _=>?_|fail)
 rotate_left
 ·refine ⟨?_⟩;rename_i g1 g2
  (repeat' first|refine Za ?_|refine Zb ?_|apply Zc|apply Zd|apply Ze|apply Zf|refine Zh ?_|refine Zi ?_|refine Zj ?_|refine Zk ?_|refine ZA ?_|refine ZB ?_|refine ZC (fun _=>?_) fun _=>?_|refine ZS ?_|refine Yd ?_|refine Ye ?_|refine Yg fun _=>?_|refine Yh fun _=>?_|refine Yi fun _=>?_|refine Ym ?_|refine Yw ?_|refine Yx ?_|refine Yy ?_|refine Yz ?_|refine YA ?_|apply YB|apply YC|apply YD|apply YE|apply YF|apply YG|apply YH|apply YI|apply YJ|refine YK ?_|refine YQ ?_|refine YR ?_|(apply O.dh;exact rfl;exact zP;(first|(simp only [aC,Nat.add_zero,Nat.reduceAdd,List.drop_succ_cons,List.drop_zero,List.take_succ_cons,List.take_zero];done)|(simp only [aC,Nat.add_zero,Nat.reduceAdd,List.drop_succ_cons,List.drop_zero,List.take_succ_cons,List.take_zero];exact rfl));exact rfl;exact rfl))
  refine bk (id:=1) [7] (cL g1 (lG p vl (.slice HN ts.length cw)) 106 (0,0)::R) mixed ?_
  (refine tF 0 ?_;refine tL 1 ?_;refine tF 3 ?_;refine tL 4 ?_)
  refine A.two 2 6 rfl rfl rfl rfl zK ?_ ?_
  ·refine bg rfl rfl (dy _ e vl p.log (hp.log.cM zE) zo) ?_;rintro _ _ ⟨ad,c,rfl,rfl⟩;refine ⟨fun _=>zE,?_⟩;refine tk 5 _ rfl (bM rfl zF) ?_;refine tO 6 ?_;refine bR (cs:=[nY,nY,.int .i64 0]) rfl rfl fun g3=>⟨fun _=>zE,?_⟩
   refine tO 7 ?_;refine zg ?_;refine ⟨zN,?_⟩;refine bf zK ?_;exact bK (g1,g2,g3,ad,c) trivial zS zE
  ·refine bR (cs:=[nY,nY,.int .i64 0]) rfl rfl fun g3=>⟨fun _=>zE,?_⟩
   refine tO 2 ?_;refine bg rfl rfl (dy _ e vl p.log (hp.log.cM zE) zo) ?_;rintro _ _ ⟨ad,c,rfl,rfl⟩;refine ⟨fun _=>zE,?_⟩;refine tk 5 _ rfl (bM rfl zF) ?_;refine tO 7 ?_;refine zg ?_;refine ⟨zN,?_⟩;refine bf zK ?_;exact bK (g1,g2,g3,ad,c) trivial zS zE
 rintro ⟨g1,g2,g3,xm,cl⟩ _;dsimp only;refine wB ?_;refine bq (ι:=Nat × List eo × Option Addr × Nat) (fun j=>[(2,pt g2),(3,pt g3),(13,.slice HN ts.length cw),(14,.int .i64 (ts.length:Int)),(15,.int .i64 (j.1:Int))]) (fun j=>cL g3 [.slice xm p.log.length cl,.slice j.2.2.1 j.2.1.length j.2.2.2,.int .i64 (p.ez:Int)] 106 (0,0)::cV (.slice j.2.2.1 j.2.1.length j.2.2.2) j.2.1::cI j.2.1::cT (.slice xm p.log.length cl) p.log::cL g2 [nY,nY,.int .i64 0] 106 (0,0)::R) (fun j=>j.1≤ts.length∧j.2.1.map (·.2)=p.ey.take j.1) (fun j=>ts.length - j.1) (0,[],none,0) ⟨aH _,rfl⟩ zS (cn (dM) (cn (du eA 1) zE)) ?_;rintro ⟨j,us,m9,cu⟩ ⟨hj,hZ⟩;dsimp only at hj hZ ⊢
 have LC:us.length=j:=by have:=congrArg List.length hZ;rw [ab,aF] at this;omega
 by_cases cP:j<ts.length
 rotate_left
 ·rw [aG zo] at hZ
  obtain ⟨M,hM⟩:∃ M:cK,M=dH [cT (.slice xm p.log.length cl) p.log,cV (.slice m9 us.length cu) us,cI us]:=⟨_,rfl⟩
  have ho:cB [M] [cT (.slice xm p.log.length cl) p.log,cV (.slice m9 us.length cu) us,cI us]:=by rw [hM];exact cU (M:=[_,_,_]) (L:=[])
  refine wB ?_;apply br
  ·exact zV
  exact ⟨M::R,cn (show cB _ (cT (.slice xm p.log.length cl) p.log::cV (.slice m9 us.length cu) us::cI us::R) from zE) (by rw [hM];exact dS (M:=[_,_,_])),M,_,_,rfl,⟨(bb .zero).cM ho,mR.cM ⟨us,hZ,bb (.succ .zero),dR.ef (.succ (.succ .zero))⟩ ho⟩,rfl⟩
 rcases h6 with h6|⟨gg,og,rfl⟩
 ·omega
 have zf:j<p.ey.length:=by omega
 have hr:Rd R ⟨gg,og+j,none⟩ (ts[j]'cP).1:=tH.elem (by rw [aL,ae cP];rfl);have hx:=Hk _ (ax cP)
 have EQ:(ts[j]'cP).2=p.ey[j]'zf:=by
  have:=congrArg (fun l=>l[j]?) fB;simp only [aL,ae cP,ae zf,Option.map_some,Option.some.injEq] at this
  exact this
 have fq:p.ey.take (j+1)=p.ey.take j++[p.ey[j]'zf]:=aD zf;have z7:=hb _ (ax zf);rw [← EQ] at fq z7
 generalize ts[j]'cP=y at *
 obtain ⟨yv,x⟩:=y;dsimp only at hr hx fq z7
 refine bD (cz (hx.cM zE)) fun o3=>?_
 (repeat' first|(refine bW rfl (hr.cM zE) rfl ?_)|refine Zb ?_|apply Zc|apply Zd|apply Ze|apply Zf|refine ZA ?_|refine Yw ?_|refine Yz ?_|apply YB|apply YC)
 refine bk (id:=5) [6,7] (cL g3 [.slice xm p.log.length cl,.slice m9 us.length cu,.int .i64 (p.ez:Int)] 106 (0,0)::R) mixed ?_
 (refine tF 0 ?_;refine tL 1 ?_;refine tM 2 ?_)
 refine tO 3 ?_;refine bg rfl rfl (dy _ e yv x (hx.cM zE) zo) ?_;rintro _ _ ⟨qq,cx,rfl,rfl⟩;refine ⟨fun _=>zE,?_⟩;refine tO 4 ?_;refine bF (n:=1) (cs:=[.slice qq x.length cx]) rfl rfl rfl rfl zQ rfl (fun gb=>⟨fun _=>zE,?_⟩);refine tO 5 ?_;refine bo rfl rfl rfl (show cR _ (cV (.slice m9 us.length cu) us) _ from zP) (bP (n:=1) (c:=1) zP rfl zl) rfl rfl zO zm zo fun ei k1 _=>⟨fun _=>zE,?_⟩
 refine tO 6 ?_;refine dV (ba rfl) ?_;refine tO 7 ?_;refine tf ?_;refine ⟨zN,?_⟩;refine bf zK ?_;refine wB ?_;refine bi (j+1,us++[(.slice qq x.length cx,x)],ei,k1) ⟨cP,by dsimp only;rw [fq,ah,hZ];rfl⟩ zd zS ?_;simp only [cV,aa,aj,ah,List.map_cons,List.map_nil];exact cn (cn (show cB _ (cT (.slice qq x.length cx) x::cI us::dJ eA 1 (.slice ei (us.length+1) k1) (us.length+1) (us.map (·.1)++[.slice qq x.length cx])::cL g3 [.slice xm p.log.length cl,.slice ei (us.length+1) k1,.int .i64 (p.ez:Int)] 106 (0,0)::cT (.slice xm p.log.length cl) p.log::cL g2 [nY,nY,.int .i64 0] 106 (0,0)::R) from zE) jq) zE
end Go.Proofs
namespace Go.Bs
section
variable {P:Program} {N:Fr} {ty:TypeId} {σ:Env} {e:World} {L:List cK} {x:Operand} {d:Tmp} {pos:String} {af:Array Edge} {gd:Option (Nat × Bool)} {K:Env→List cK→Prop}
theorem b7 {t:TypeId} {v:Value} (hr:∀ w (v:Value),(Instr.makeInterface t v).run P w=.ok (.iface t v) w) (h:ev σ x=some v):cE P N (.makeInterface t x) ty (.iface t v) σ e L:=fun a w ha hs _ _ _ _=>by
 simp [execOp,ha.ev h,hr]
theorem cE.typeAssert {s t:TypeId} {v:Value} (hr:∀ w (v:Value),(Instr.typeAssert (.iface t v) s t false).run P w=.ok v w) (h:ev σ x=some (.iface t v)):cE P N (.typeAssert x s t false) ty v σ e L:=fun a w ha hs _ _ _ _=>by
 simp [execOp,ha.ev h,hr]
theorem Do.invoke {g:FuncId} {name:String} {xs:List Operand} {vs:List Value} {ats:Array TypeId} {t:TypeId} {v r:Value} {Post:Value→List cK→Prop}
 (h0:ev σ x=some (.iface t v)) (hx:p0 σ xs=some vs) (hd:Nat.blt d N.n=true)
 (hm:∀ w,Sat e L w→(Go.invoke (.fn (.method name) #[]) (.iface t v::vs).toArray).run P w=.ok (.enter g (r::vs).toArray) w)
 (h:Ct P g (r::vs).toArray e L Post) (k:∀ v L',Post v L'→K ((d,v)::σ) L') :
 Do P N ⟨some d,.call { callee:=.invoke x name,args:=xs.toArray,argTypes:=ats },ty,pos,af,gd⟩ K σ e L:=by
 intro a w ha hs K' Q' hK;unfold Oper.wp
 have h1:execOp a.eval ⟨some d,.call { callee:=.invoke x name,args:=xs.toArray,argTypes:=ats },ty,pos,af,gd⟩=Go.invoke (.fn (.method name) #[]) (.iface t v::vs).toArray:=by
  have h2:(#[a.eval x]++xs.toArray.map a.eval:Array Value)=(.iface t v::vs).toArray:=by simp [ha.ev h0,ha.p0 hx]
  simp only [execOp,resolve];rw [h2]
  rfl
 rw [h1,hm w hs,Oper.upon_enter];refine (h w hs).mono ?_;rintro x w' ⟨v,L',rfl,hp,oF⟩;exact hK _ _ _ _ (k v L' hp) (ha.put hd v) oF
theorem Do.Sx {t t':TypeId} {y:Operand} {v u:Value} (hr:∀ w,∃ b:Bool,((do eqGuard .eql t x y v u;binOp .eql t v u):Sem Value).run P w=.ok (.bool b) w) (h:ev σ x=some v) (h1:ev σ y=some u) (hd:Nat.blt d N.n=true) (k:∀ b:Bool,K ((d,.bool b)::σ) L) :
 Do P N ⟨some d,.binOp .eql t x y t',ty,pos,af,gd⟩ K σ e L:=fun a w ha hs K' Q' hK=>by
 obtain ⟨b,hb⟩:=hr w;refine e6 (v:=.bool b) (w':=w) ?_ (hK _ _ _ _ (k b) (ha.put hd _) hs);simp only [execOp,ha.ev h,ha.ev h1];rw [Sem.run_bind,hb]
 rfl
theorem wT:∀ (vs cs:List Value) (o:Nat),o+vs.length≤cs.length→ix cs o vs (cs.take o++vs++cs.drop (o+vs.length))
 | [],cs,o,_=>by simpa using ix.nil (l:=cs) (n:=o)
 | v::vs,cs,o,h=>by
  rw [aN] at h
  have h1:=wT vs (cs.set o v) (o+1) (by rw [List.length_set];omega)
  have h2:(cs.set o v).take (o+1)++vs++(cs.set o v).drop (o+1+vs.length)=cs.take o++(v::vs)++cs.drop (o+(v::vs).length):=by
   rw [List.take_set,List.drop_set_of_lt (by omega)];rw [aD (by omega),List.set_append_right _ _ (by simp;omega)]
   simp [Nat.min_eq_left (show o≤cs.length by omega),Nat.add_assoc,Nat.add_comm 1]
  rw [h2] at h1
  exact ix.cons (gy.of v (by omega)) h1
theorem Do.ow {t n kk nn o c g:Nat} {y:Operand} {vs xs:List Value} {E:TypeId} {R:List cK} [i:jd P t n] (h:ev σ x=some (.pointer (some ⟨g,o,none⟩))) (h1:ev σ y=some (.agg vs.toArray)) (hn:vs.length=n) (hv:∀ v∈vs,v.oneCell'=true)
 (p:cR L (dJ E nn (.slice (some ⟨g,0,none⟩) kk c) kk xs) R) (ho:o+n≤kk*nn)
 (k:K σ (dJ E nn (.slice (some ⟨g,0,none⟩) kk c) kk (xs.take o++vs++xs.drop (o+vs.length))::R)) :
 Do P N ⟨none,.store t x y,ty,pos,af,gd⟩ K σ e L:=fun a w ha hs K' Q' hK=>by
 have fR:=hs.cM p.out;obtain ⟨hl,hA⟩:=oJ fR.2.2.2;rcases hA with ⟨lP,_⟩|⟨g',Rr,cur,lP,r1,r2,r3,r4,hB⟩
 ·cases lP
 cases lP
 have mz:Sat e (cL g cur E (0,0)::R) w:=⟨hs.1,hs.2.1,hs.2.2.1,hB⟩
 have hle:kk*nn≤cur.length:=by rw [r3];exact Nat.mul_le_mul_right _ r1
 obtain ⟨w',e1,e2⟩:=p8 (P:=P) (off:=o) (i:=0) (wT vs cur o (by omega)) rfl mz hv
 have gB:=hH (R:=R) (E:=E) (n:=nn) (g:=g) (k:=kk) (cap:=c) (cur:=cur.take o++vs++cur.drop (o+vs.length)) r1 r2 (by
  simp only [aa,aF,aP];omega)
 rw [u3 cur vs o (kk*nn) (by omega) hle,r4] at gB
 refine l9 (w':=w') ?_ (hK _ _ _ _ k ha (e2.cM gB))
 simp [execOp,ha.ev h,ha.ev h1,Instr.storeAt,Instr.sureAddr,storeVar,Value.cells,i.B8,hn,e1]
theorem cE.Po {t t':TypeId} {y:Operand} {k:IntKind} {m n r:Int} (h:ev σ x=some (.int k m)) (h1:ev σ y=some (.int k n)) (h0:n≠0) (hr:k.wrap (m.tdiv n)=r):cE P N (.binOp .quo t x y t') ty (.int k r) σ e L:=hr ▸ cE.quo h h1 h0
theorem cE.Sy {t f:Nat} {a b c v:Value} (hr:∀ w,(Instr.field t (.agg #[a,b,c]) f).run P w=.ok v w) (h:ev σ x=some (.agg [a,b,c].toArray)):cE P N (.field t x f) ty v σ e L:=fun w a ha _ _ _ _ _=>by
 have h2:=hr
 simp [execOp,ha.ev h,h2]
theorem BK (zs:List Value) (hz:0<zs.length):∀ c:Nat,(madeCells zs.toArray (c*zs.length)).toList=(List.replicate c zs).flatten
 | 0=>by simp [madeCells]
 | c+1=>by
  have ih:=BK zs hz c;simp only [madeCells,Array.toList_map,Array.toList_range,List.size_toArray] at ih ⊢
  rw [Nat.add_mul,Nat.one_mul,List.range_add,ah,ih,List.replicate_succ',List.flatten_append]
  congr 1
  rw [List.map_map];simp only [List.flatten_cons,List.flatten_nil,aK];apply List.ext_getElem?;intro q;rw [aL]
  by_cases hq:q<zs.length
  ·have h1:(c*zs.length+q) % zs.length=q:=by rw [Nat.mul_comm,Nat.mul_add_mod,Nat.mod_eq_of_lt hq]
   rw [List.getElem?_range hq]
   simp [hq,h1,Function.comp]
  ·rw [List.getElem?_eq_none (l:=List.range _) (by simpa using hq),List.getElem?_eq_none (by omega)]
   rfl
theorem Do.sF {t el nn b c:Nat} {z:Value} {zs:List Value} {y:Operand} {k1 k2:IntKind} [i:jv P t el nn] [j:rV P el z nn b] (hx:ev σ x=some (.int k1 (c:Int))) (hy:ev σ y=some (.int k2 (c:Int))) (hd:Nat.blt d N.n=true) (hz:z.cells=zs.toArray) (hn:zs.length=nn) (h0:Nat.blt 0 nn=true) (Ir:c≤maxLen) (hb:c*b≤140737488355328)
 (kk:∀ g,K ((d,.slice (some ⟨g,0,none⟩) c c)::σ) (dJ el nn (.slice (some ⟨g,0,none⟩) c c) c ((List.replicate c zs).flatten)::L)) :
 Do P N ⟨some d,.makeSlice t x y,ty,pos,af,gd⟩ K σ e L:=fun a w ha hs K' Q' hK=>by
 obtain ⟨ti,t1,t2,t3,t4⟩:=j.parts;subst t4
 have tc:(ti.bytes:Int)*(c:Int)≤281474976710656:=by
  have h:((ti.bytes*c:Nat):Int)≤281474976710656:=by rw [Nat.mul_comm];omega
  rwa [Int.natCast_mul] at h
 have hr:=run_make (P:=P) w t el ti z i.lX t1 t2 k1 k2 c c (by omega) (Int.le_refl _) tc (by simp only [maxLen] at Ir;omega);simp only [Int.toNat_natCast,t3] at hr
 have h0':0<zs.length:=by rw [hn,← Nat.blt_eq];exact h0
 have hm:(madeCells z.cells (c*nn)).toList=(List.replicate c zs).flatten:=by rw [hz,← hn];exact BK zs h0' c
 refine e6 (w':=w.alloc (.cells (madeCells z.cells (c*nn)) el)) (v:=.slice (some ⟨w.heap.size,0,none⟩) c c) (by simp [execOp,ha.ev hx,ha.ev hy,hr]) (hK _ _ _ _ (kk _) (ha.put hd _) ?_);have F8:=(hs.alloc (.cells (madeCells z.cells (c*nn)) el)).cM (ta _ _ _ _);rw [hm] at F8
 have hlen:((List.replicate c zs).flatten).length=c*nn:=by simp [List.length_flatten,hn]
 have gB:=hH (E:=el) (n:=nn) (g:=w.heap.size) (k:=c) (cap:=c) (cur:=(List.replicate c zs).flatten) (R:=L) (aS _) Ir hlen;rw [aG (by omega)] at gB
 exact F8.cM gB
end
end Go.Bs
