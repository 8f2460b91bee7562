/- Part 7 of a proof of this: TopKeys returns true for any arguments; nothing of the old memory is turned. No condition. -/
import Derived.Test.YtccekbdjebohcaaGreatK06
set_option linter.unusedVariables false
set_option linter.unusedSimpArgs false
namespace Go.Proofs
attribute [local irreducible] Bs.cD Bs.Do Bs.O Bs.W Bs.Fin Bs.A Bs.Ct Bs.cE Bs.Rd Bs.Sat Bs.cK Bs.Ob Bs.dE Bs.View Bs.cz Bs.Ex Bs.dI Bs.Pu Bs.eY Bs.dN Bs.dZ
open Go.Bs
open Tryz
variable (R:List cJ) (e:World)
structure pe where
 recs:List du
 q:List (du × Int)
structure m6 where
 room:Nat
 size:Nat
 wait:Nat
structure m6.ok (c:m6):Prop where
 room:1≤c.room∧c.room≤16
 size:1≤c.size∧c.size≤8
 wait:c.wait≤1000
structure pe.ok (s:pe):Prop where
 size:s.recs.length≤1000
 oh:∀ b∈s.recs,jk b∧b.length≤200
 BH:s.q.length≤1000
 pf:∀ x∈s.q,x.1.length≤200
 wQ:∀ x∈s.q,-9223372036854775808≤x.2∧x.2≤1000000
abbrev yY:TypeId:=221
structure yZ where
 gj:Nat
 gq:Nat
 ar:Option Addr
 cr:Nat
 ts:List ej
 l:List jI
structure yZ.ok (a:yZ) (M:cJ) (c:m6) (s:pe):Prop where
 recs:a.ts.map (·.2)=s.recs
 yO:dQ [M] a.ts
 QY:a.l.map (fun m=>(m.b,m.jC))=s.q
 st:s.ok
 xE:c.ok
abbrev DG (g d gl:Nat) (c:m6) (s:pe) (a:yZ) (M:cJ) (R:List cJ):List cJ :=
 cK g [pt a.gj,pt gl,pt a.gq,.int .i64 (c.room:Int),.slice a.ar a.ts.length a.cr] yY (0,0)::cV (.slice a.ar a.ts.length a.cr) a.ts::M::jd a.gj d s.recs.length::de d (dx (eV s.recs))::xD a.gq c.room c.size c.wait a.l::R
def CK (g d gl:Nat) (c:m6) (s:pe) (a:yZ) (M:cJ):cJ:=dI (Pu (a.ok M c s)::DG g d gl c s a M [])
def eg (g d gl:Nat) (c:m6) (s:pe):cJ:=Ex fun a=>Ex fun M=>CK g d gl c s a M
theorem y4 {g d gl:Nat} {c:m6} {s:pe} {R:List cJ} {P:Program} {f:FuncId} {args:Array Value} {e:World} {Post:Value→List cJ→Prop}
 (h:∀ (a:yZ) (M:cJ),a.ok M c s→Ct P f args e (DG g d gl c s a M R) Post):Ct P f args e (eg g d gl c s::R) Post :=
 Ct.ex .zero fun a=>Ct.ex .zero fun M=>Ct.cL (a7 (p:=a.ok M c s) (fun w x=>(jR x).1) fun hp=>(h a M hp).cL (cz.drop aX)) (cT (M:=Pu (a.ok M c s)::DG g d gl c s a M []) (L:=R))
theorem qB {g d gl:Nat} {c:m6} {s:pe} {a:yZ} {M:cJ} {R:List cJ} (h:a.ok M c s):cz (DG g d gl c s a M R) (eg g d gl c s::R) :=
 cj (na h) (cj (dR (M:=Pu (a.ok M c s)::DG g d gl c s a M []) (L:=R)) (cj (fu (f:=fun M=>CK g d gl c s a M) M) (fu (f:=fun a=>Ex fun M=>CK g d gl c s a M) a)))
theorem yZ.ok.len {a:yZ} {M:cJ} {c:m6} {s:pe} (h:a.ok M c s):a.ts.length=s.recs.length∧a.l.length=s.q.length:=by
 have h1:=congrArg List.length h.recs;have h2:=congrArg List.length h.QY;rw [ae] at h1 h2
 exact ⟨h1,h2⟩
theorem mW (g d gl:Nat) (c:m6) (s:pe) :
 Ct prog 60 #[pt g] e (eg g d gl c s::R) (fun v' L'=>v'=.int .i64 (s.recs.length:Int)∧L'=eg g d gl c s::R):=by
 refine y4 fun a M ha=>?_
 obtain ⟨l1,l2⟩:=ha.len;refine a8 (args:=[_]) func60 rfl ntmps60 results60 rfl ?_;refine wB ?_;exact aY _ rfl (qB ha) ⟨by rw [l1];rfl,rfl⟩
theorem HB (v w:Value) (b a:List UInt8) (g:Nat) (hg:Rd R ⟨g,0,none⟩ w) (hv:db R v b) (hw:db R w a) :
 Ct prog 282 #[v,pt g] e R (fun v' L'=>v'=.bool (decide (b=a))∧R=L'):=by
 refine a8 (args:=[_,_]) func282 rfl ntmps282 results282 rfl ?_;refine wB ?_;refine aZ rfl rfl (iN _ e v w b a hv hw) ?_;rintro _ _ ⟨rfl,rfl⟩;refine wB ?_;exact aY R rfl aX ⟨rfl,rfl⟩
def CL (l:List du) (b:du):Int:=if b∈l then (lP l b:Int) else -1
theorem KF {l:List du} {b:du} (h:∀ i,i<l.length→decide (l.getD i []=b)=false):CL l b = -1:=by
 unfold CL;rw [aB (fun hm=>?_)];obtain ⟨i,hi,rfl⟩:=List.mem_iff_getElem.1 hm;have:=h i hi;rw [ax,ab hi] at this
 simp at this
theorem BI {b:du}:∀ {l:List du} {j:Nat},j<l.length→decide (l.getD j []=b)=true→(∀ i,i<j→decide (l.getD i []=b)=false)→CL l b=(j:Int)
 | [],j,h,_,_=>by simp at h
 | x::l,0,_,h,_=>by
  have hx:x=b:=by simpa using h
  unfold CL lP;rw [aI (by rw [hx];exact List.mem_cons_self ..),hx]
  simp
 | x::l,j+1,hj,h,hn=>by
  have hx:¬ x=b:=by simpa using hn 0 (Nat.succ_pos _)
  have ih:=BI (b:=b) (l:=l) (j:=j) (by simpa using hj) (by simpa using h) (fun i hi=>by simpa using hn (i+1) (Nat.succ_lt_succ hi));unfold CL at ih ⊢
  by_cases hm:b∈l
  ·rw [aI hm] at ih
   rw [aI (aT _ hm)];unfold lP at ih ⊢
   rw [List.idxOf_cons,show (x == b)=false by simpa using hx];simp only [cond_false]
   omega
  ·rw [aB hm] at ih
   omega
theorem Aq (g d gl:Nat) (c:m6) (s:pe) (v:Value) (b:du) (hv:db R v b) :
 Ct prog 239 #[pt g,v] e (eg g d gl c s::R) (fun v' L'=>v'=.int .i64 (CL s.recs b)∧L'=eg g d gl c s::R):=by
 refine y4 fun a M ha=>?_
 obtain ⟨l1,l2⟩:=ha.len;have ln:=ha.st.size;refine a7 (cE.shape (hv.cL (show cz (DG g d gl c s a M R) R from zE)) zo) ?_;rintro ⟨⟨av,cv,rfl,-,-,-,-⟩,_⟩;refine a8 (args:=[_,_]) func239 rfl ntmps239 results239 rfl ?_
 (repeat (refine wA ?_;intros))
 rename_i g3
 have hi:=wv (cK g3 [.slice av b.length cv] ez (0,0)::DG g d gl c s a M R) e (.slice a.ar a.ts.length a.cr) a.ts 282 [] [pt g3] (fun i=>decide ((a.ts.map (·.2)).getD i []=b)) (bb zP) zo (fun i hi=>by
  rw [e6 hi];exact HB _ e _ (.slice av b.length cv) _ b g3 (bP .zero rfl) ((ha.yO _ (aA hi)).cL (cG zP)) (hv.cL zE))
 refine aZ rfl rfl hi ?_;rintro _ _ ⟨⟨z,rfl,hz⟩,rfl⟩
 have OM:z=CL s.recs b:=by
  rw [← ha.recs];rcases hz with ⟨rfl,hz⟩|⟨j,rfl,hj,Gb,hj3⟩
  ·exact (KF (fun i hi=>hz i (by rw [ae] at hi;exact hi))).symm
  ·exact (BI (by rw [ae];exact hj) Gb hj3).symm
 subst OM;refine wB ?_;exact aY (eg g d gl c s::R) rfl (cj (show cz _ (DG g d gl c s a M R) from zE) (qB ha)) ⟨rfl,rfl⟩
def rB:Int:=-9223372036854775808
def io (cF:List du) (recs:List du):List du:=recs.filter fun b=>decide (¬ b∈cF)
theorem y5 {cF:List du} {b:du} {l:List du}:io cF (l++[b])=if b∈cF then io cF l else io cF l++[b]:=by
 unfold io;rw [List.filter_append]
 by_cases h:b∈cF<;>simp [h]
theorem HC (d gl ld lk:Nat) (seed:du) (ls:fM) (c:m6) (recs:List du) (hc:c.ok) (hl:recs.length≤1000) (hg:∀ b∈recs,jk b∧b.length≤200) :
 Ct prog 233 #[pt d,pt gl,.int .i64 (c.room:Int),.int .i64 (c.size:Int),.int .i64 (c.wait:Int)] e (de d (dx (eV recs))::cU gl ld lk seed ls::R) (fun v' L'=>∃ g,v'=.tuple #[pt g,.int .i64 0]∧L'=eg g d gl c ⟨recs,(io ls.cF recs).map fun b=>(b,rB)⟩::cU gl ld lk seed ls::R):=by
 have xj:=kD (l:=recs) (n:=200) (fun m hm=>(hg m hm).2);have Hw:∀ m∈recs,m.length≤65535:=fun m hm=>by have:=(hg m hm).2;omega
 have EM:=n9 recs Hw;refine a8 (args:=[_,_,_,_,_]) func233 rfl ntmps233 results233 rfl ?_;refine wB ?_;refine aZ rfl rfl (KA _ e c.room c.size c.wait ⟨hc.room,hc.size,hc.wait⟩) ?_;rintro _ _ ⟨gq,rfl,rfl⟩;refine wB ?_;refine aZ rfl rfl (Ct.at (.succ .zero) (nj _ e d (eV recs) zo)) ?_;rintro _ _ (⟨h1,-⟩|⟨-,gj,ux,cr,ts,rfl,fy,rfl⟩)
 ·rw [EM] at h1;cases h1
 rw [EM] at fy ⊢
 rw [show (eV recs).take (eV recs).length=eV recs from List.take_length];dsimp only at fy
 have oH:ts.length=recs.length:=by have:=congrArg List.length fy;rwa [ae] at this
 (repeat (refine wA ?_;intros))
 rename_i g0;refine bq (ι:=Nat × List ej × Option Addr × Nat) (fun i=>[(1,pt gl),(12,pt gq),(16,pt g0),(17,.slice i.2.2.1 i.2.1.length i.2.2.2),(52,.slice ux ts.length cr),(53,.int .i64 (ts.length:Int)),(54,.int .i64 (i.1:Int))]) (fun i=>cV (.slice i.2.2.1 i.2.1.length i.2.2.2) i.2.1::cH ts::cV (.slice ux ts.length cr) ts::jd gj d ts.length::de d (dx (eV recs))::cU gl ld lk seed ls::xD gq c.room c.size c.wait []::cK g0 [pt gj,pt gl,pt gq,.int .i64 (c.room:Int),.slice ux ts.length cr] yY (0,0)::R) (fun i=>i.1≤ts.length∧i.2.1.map (·.2)=io ls.cF (recs.take i.1)∧∀ x∈i.2.1,x∈ts) (fun i=>ts.length - i.1) (0,[],none,0) ⟨aH _,by simp [io],fun x hx=>by cases hx⟩ zS (cj (dv ez 1) zE) ?_;rintro ⟨i,fs,af,cf⟩ ⟨hi,BF,HD⟩;dsimp only at hi BF HD ⊢
 have DF:fs.length≤i:=by
  have:=congrArg List.length BF;rw [ae] at this
  have h2:=List.length_filter_le (fun b=>decide (¬ b∈ls.cF)) (recs.take i);rw [aF] at h2
  unfold io at this
  omega
 by_cases cO:i<ts.length
 rotate_left
 ·rw [aG zo] at BF
  refine wB ?_
  have VR:=Hz (cV (.slice af fs.length cf) fs::cH ts::cV (.slice ux ts.length cr) ts::jd gj d ts.length::de d (dx (eV recs))::cU gl ld lk seed ls::cK g0 [pt gj,pt gl,pt gq,.int .i64 (c.room:Int),.slice ux ts.length cr] yY (0,0)::R) e gq c.room c.size c.wait [] (.slice af fs.length cf) fs (bb .zero) (fun x hx=>dQ.dY (.succ .zero) x (HD x hx)) (fun x hx=>by
   have:=(hg x.2 (by rw [← fy];exact aE.2 ⟨x,HD x hx,rfl⟩)).2
   omega) (by rw [List.length_nil];omega)
  refine aZ rfl rfl (VR.cL zE) ?_;rintro _ _ ⟨rfl,l',qi,pH,rfl⟩;rw [aK]
  have hq:l'.map (fun m=>(m.b,m.jC))=(io ls.cF recs).map fun b=>(b,rB):=by
   rw [← BF,← qi,List.map_map];exact List.map_congr_left fun m hm=>by show (m.b,m.jC)=(m.b,rB);rw [pH m hm];rfl
  have j1:yZ.ok ⟨gj,gq,ux,cr,ts,l'⟩ (cH ts) c ⟨recs,(io ls.cF recs).map fun b=>(b,rB)⟩ :=
   ⟨fy,eF,hq,⟨hl,hg,by rw [ae];unfold io;exact Nat.le_trans (List.length_filter_le _ _) hl,fun x hx=>by
    obtain ⟨b,hb,rfl⟩:=aE.1 hx
    exact (hg b (List.mem_filter.1 hb |>.1)).2,fun x hx=>by
    obtain ⟨b,hb,rfl⟩:=aE.1 hx
    show -9223372036854775808≤rB∧rB≤1000000
    unfold rB
    omega⟩,hc⟩
  refine wB ?_;refine aY (eg g0 d gl c ⟨recs,(io ls.cF recs).map fun b=>(b,rB)⟩::cU gl ld lk seed ls::R) rfl (cj ?_ (qB j1)) ⟨g0,rfl,rfl⟩;dsimp only [DG];rw [← oH];exact zE
 have pc:i<recs.length:=by omega
 have jt:(ts[i]'cO).2=recs[i]'pc:=by
  have:=congrArg (fun l=>l[i]?) fy;simp only [aL,ab cO,ab pc,Option.map_some,Option.some.injEq] at this
  exact this
 have ft:recs.take (i+1)=recs.take i++[recs[i]'pc]:=aD pc;obtain ⟨EO,CF⟩:=hg _ (aA pc);have ry:ts[i]'cO∈ts:=aA cO;rw [← jt] at ft EO CF
 refine W.cB ((bb (show cR _ (cV (.slice ux ts.length cr) ts) _ from zP)).shape zo) ?_;rintro ⟨⟨lM,c',lU,wH,IX,Ap,uW⟩,_⟩
 cases lU
 simp only [maxLen] at IX
 rcases uW with uW|⟨gr,or',rfl⟩
 ·omega
 have jw:∀ L R',cR L (cV (.slice (some ⟨gr,or',none⟩) ts.length cr) ts) R'→Rd L ⟨gr,or'+i,none⟩ (ts[i]'cO).1:=fun L R' p=>(bb p).elem (by rw [aL,ab cO];rfl)
 have sf:∀ L R',cR L (cH ts) R'→db L (ts[i]'cO).1 (ts[i]'cO).2:=fun L R' p=>dQ.dY p _ (aA cO)
 generalize ts[i]'cO=y at *
 obtain ⟨yv,b⟩:=y;dsimp only at jw sf jt ft EO CF
 refine W.cB (cn (sf _ _ zP)) fun oy=>?_
 refine wB ?_;refine bV rfl (jw _ _ zP) rfl ?_;refine wB ?_;refine aZ rfl rfl (kA _ e yv b (sf _ _ zP) zo) ?_;rintro v1 _ ⟨hd,-⟩;obtain ⟨Md,vf,vn,rfl,QP,AX,rfl⟩:=hd EO;refine bm (cn (QP.cL (cG zP))) fun o6=>?_
 refine bm (cn (AX.cL (cG zP))) fun o7=>?_
 (repeat (refine wA ?_;intros))
 refine aZ rfl rfl (Ct.at zP (sB _ e gl ld lk seed ls yv b (sf _ _ zP))) ?_;rintro _ _ ⟨rfl,rfl⟩
 by_cases gy:b∈ls.cF
 ·have hw:io ls.cF (recs.take (i+1))=io ls.cF (recs.take i):=by rw [ft,y5,aI gy]
  rw [aI gy,ay gy];refine wB ?_;exact bi (i+1,fs,af,cf) ⟨cO,by dsimp only;rw [hw];exact BF,HD⟩ zd zS zE
 ·have hw:io ls.cF (recs.take (i+1))=io ls.cF (recs.take i)++[b]:=by rw [ft,y5,aB gy]
  rw [aB gy,aq gy]
  (repeat (refine wA ?_;intros))
  refine bC (bo rfl rfl rfl zP (bB .zero rfl zl) rfl rfl (fun c hc=>by rw [an.1 hc];exact oy) zm zo fun ef k1 _=>?_)
  refine wB ?_;refine bi (i+1,fs++[(yv,b)],ef,k1) ⟨cO,by dsimp only;rw [hw,ah,BF];rfl,fun x hx=>?_⟩ zd ?_ ?_
  ·rcases aJ.1 hx with hx|hx
   ·exact HD x hx
   ·rw [an.1 hx];exact ry
  ·dsimp only;rw [aa,aj];exact zS
  ·simp only [cV,aa,aj,ah,List.map_cons,List.map_nil];exact zE
theorem ep {L R R':List cJ} {A B:cJ} (p:cR L A R) (q:cR R B R'):cz L (dI [A,B]::R'):=cj p.out (cj (bh q.out) (dR (M:=[A,B])))
theorem rb {L R R' R2:List cJ} {A B C:cJ} (p:cR L A R) (q:cR R B R') (r:cR R' C R2):cz L (dI [A,B,C]::R2):=cj p.out (cj (bh (cj q.out (bh r.out))) (dR (M:=[A,B,C])))
def pe.fC (c:m6) (cF:List du) (s:pe) (b:du) (now:Int):Int × Int × pe :=
 if ¬ jk b then (4,0,s) else if b∈cF then (2,(lP cF b:Int),s) else if b∈s.q.map (·.1) then (1,CL s.recs b,s) else if c.room≤s.q.length then (3,0,s) else (1,(s.recs.length:Int),⟨s.recs++[b],s.q++[(b,now)]⟩)
theorem M0 {l:List jI} {q:List (du × Int)} (h:l.map (fun m=>(m.b,m.jC))=q) (b:du):hasB l b=decide (b∈q.map (·.1)):=by
 rw [← h,List.map_map];unfold hasB;rw [Bool.eq_iff_iff,List.any_eq_true,decide_eq_true_iff,aE]
 constructor
 ·rintro ⟨x,hx,h⟩;exact ⟨x,hx,of_decide_eq_true h⟩
 ·rintro ⟨x,hx,h⟩;exact ⟨x,hx,ay h⟩
theorem uy (g d gl ld lk:Nat) (seed:du) (ls:fM) (c:m6) (s:pe) (v:Value) (b:du) (now:Int) (hv:db R v b) (hb:b.length≤200) (hn:0≤now∧now≤1000000) (h1:s.recs.length<1000) (h2:s.q.length<1000) :
 Ct prog 166 #[pt g,v,.int .i64 now] e (eg g d gl c s::cU gl ld lk seed ls::R) (fun v' L'=>v'=.agg #[.int .i64 (s.fC c ls.cF b now).1,.int .i64 (s.fC c ls.cF b now).2.1]∧L'=eg g d gl c (s.fC c ls.cF b now).2.2::cU gl ld lk seed ls::R):=by
 refine y4 fun a M ha=>?_
 obtain ⟨l1,l2⟩:=ha.len;refine bH (args:=[_,_,_]) func166 rfl ntmps166 results166 rfl ?_
 (repeat (refine wA ?_;intros))
 rename_i g6;refine aZ rfl rfl (kA _ e v b (hv.cL zE) zo) ?_;rintro v1 _ ⟨hd,Kj⟩
 by_cases hm:jk b
 rotate_left
 ·obtain ⟨rfl,rfl⟩:=Kj hm;have l3:s.fC c ls.cF b now=(4,0,s):=by unfold pe.fC;rw [aI hm]
  rw [l3]
  (repeat (refine wA ?_;intros))
  refine aZ rfl rfl (Ct.at zP (sB _ e gl ld lk seed ls v b (hv.cL zE))) ?_;rintro _ _ ⟨rfl,rfl⟩;refine wB ?_;apply br
  ·exact zV
  exact ⟨eg g d gl c s::cU gl ld lk seed ls::R,cj (show cz _ (DG g d gl c s a M (cU gl ld lk seed ls::R)) from zE) (qB ha),rfl,rfl⟩
 obtain ⟨Md,vf,vn,rfl,QP,AX,rfl⟩:=hd hm;refine bm (cn (QP.cL (cG zP))) fun o6=>?_
 refine bm (cn (AX.cL (cG zP))) fun o7=>?_
 (repeat (refine wA ?_;intros))
 refine aZ rfl rfl (Ct.at zP (sB _ e gl ld lk seed ls v b (hv.cL zE))) ?_;rintro _ _ ⟨rfl,rfl⟩
 by_cases gy:b∈ls.cF
 ·have l3:s.fC c ls.cF b now=(2,(lP ls.cF b:Int),s):=by unfold pe.fC;rw [aB (fun q=>q hm),aI gy]
  rw [l3,aI gy,ay gy];refine wB ?_;apply br
  ·exact zV
  exact ⟨eg g d gl c s::cU gl ld lk seed ls::R,cj (show cz _ (DG g d gl c s a M (cU gl ld lk seed ls::R)) from zE) (qB ha),rfl,rfl⟩
 rw [aB gy,aq gy];refine wB ?_;refine aZ rfl rfl (Ct.at zP (KE _ e a.gq c.room c.size c.wait a.l v b (hv.cL zE) (by have:=ha.st.BH;omega))) ?_;rintro _ _ ⟨rfl,rfl⟩;rw [M0 ha.QY]
 by_cases hq:b∈s.q.map (·.1)
 ·have l3:s.fC c ls.cF b now=(1,CL s.recs b,s):=by unfold pe.fC;rw [aB (fun q=>q hm),aB gy,aI hq]
  rw [l3,ay hq];refine wB ?_;refine aZ rfl rfl (Ct.cL (Aq (cK g6 [.int .i64 0,.int .i64 0] 254 (0,0)::cU gl ld lk seed ls::R) e g d gl c s v b (hv.cL zE)) (cj (show cz _ (DG g d gl c s a M (cK g6 [.int .i64 0,.int .i64 0] 254 (0,0)::cU gl ld lk seed ls::R)) from zE) (qB ha))) ?_;rintro _ _ ⟨rfl,rfl⟩;refine wB ?_;apply br
  ·exact zV
  exact ⟨eg g d gl c s::cU gl ld lk seed ls::R,zE,rfl,rfl⟩
 rw [aq hq];have xj:=kD (l:=s.recs) (n:=200) (fun m hm=>(ha.st.oh m hm).2);have My:s.recs.length≤(eV s.recs).length:=CI _;have wZ:(eV s.recs).length+b.length+8≤1048576:=by omega
 obtain ⟨p1,p2,p3⟩:=add_plain (m:=b) (sy:=(eV s.recs).length) wZ;refine wB ?_;refine bk (id:=9) [] (cK g [pt a.gj,pt gl,pt a.gq,.int .i64 (c.room:Int),.slice a.ar a.ts.length a.cr] yY (0,0)::R) mixed ?_
 (refine tM 0 ?_;refine tN 1 ?_;refine tF 2 ?_;refine tL 3 ?_;refine tM 5 ?_;refine tN 6 ?_;refine tF 7 ?_;refine tL 8 ?_)
 refine tO 4 ?_;refine bg rfl rfl (Ct.at zP (KB _ e a.gq c.room c.size c.wait a.l)) ?_;rintro _ _ ⟨rfl,rfl⟩;refine ⟨fun _=>zE,?_⟩
 by_cases we:c.room≤s.q.length
 ·have l3:s.fC c ls.cF b now=(3,0,s):=by unfold pe.fC;rw [aB (fun q=>q hm),aB gy,aB hq,aI we]
  rw [l3]
  (refine tk 9 (.bool true) rfl (cD.iQ (bR rfl rfl) zy) ?_;refine tM 10 ?_;refine bc 11 rfl rfl zK zE rfl ?_;refine bc 12 rfl rfl zK zE rfl ?_;refine bc 13 rfl rfl zK zE rfl ?_;refine bc 14 rfl rfl zK zE rfl ?_;refine bc 15 rfl rfl zK zE rfl ?_)
  refine bc 16 rfl rfl zK zE rfl ?_
  (refine bc 17 rfl rfl zK zE rfl ?_;refine tk 18 _ rfl (bK rfl rfl) ?_;refine tA 19 ?_)
  refine bf zK ?_;refine wB ?_;apply br
  ·exact zV
  exact ⟨eg g d gl c s::cU gl ld lk seed ls::R,cj (show cz _ (DG g d gl c s a M (cU gl ld lk seed ls::R)) from zE) (qB ha),rfl,rfl⟩
 have l3:s.fC c ls.cF b now=(1,(s.recs.length:Int),⟨s.recs++[b],s.q++[(b,now)]⟩):=by unfold pe.fC;rw [aB (fun q=>q hm),aB gy,aB hq,aB we]
 rw [l3]
 (refine tk 9 (.bool false) rfl (cD.no (bR rfl rfl) zn) ?_;refine tM 10 ?_;refine dt 11 _ rfl (bu rfl) ?_;refine dt 12 _ rfl (bn rfl) ?_;refine dt 13 _ rfl (ba rfl) ?_;refine dt 14 _ rfl (bp rfl zR) ?_;refine dt 15 _ rfl (bu rfl) ?_)
 refine A.rv 16 rfl rfl zK ?_;have MW:=fun L:List cJ=>fun Sk:db L v b=>nZ L e a.gj d s.recs.length (nk (eV s.recs) (eV s.recs).length) b v (uj zo (aS _)) Sk zo zo
 rw [p1,p2,p3] at MW
 refine bg rfl rfl (Ct.AR zP zP (MW _ (hv.cL zE))) ?_;rintro _ _ ⟨rfl,rfl⟩;refine ⟨fun _=>zE,?_⟩
 (refine dt 17 (.bool false) rfl (cD.no (cD.neq rfl rfl) zn) ?_;refine tk 18 _ rfl (bI rfl rfl) ?_;refine tA 19 ?_)
 refine bf zK ?_;refine wB ?_;refine W.fe [(0,pt g),(1,v),(2,.int .i64 now),(6,pt g6)] zS ?_;refine bk (id:=11) [9,10,11] (cK g [pt a.gj,pt gl,pt a.gq,.int .i64 (c.room:Int),.slice a.ar a.ts.length a.cr] yY (0,0)::R) mixed ?_
 (refine tM 0 ?_;refine tM 1 ?_;refine tN 2 ?_;refine tF 3 ?_;refine tL 4 ?_;refine tM 5 ?_)
 refine tO 6 ?_;refine bg rfl rfl (dw _ e v b (hv.cL zE) zo) ?_;rintro _ _ ⟨ef,k1,rfl,rfl⟩;refine ⟨fun _=>zE,?_⟩;refine tO 7 ?_;refine bE (n:=1) (z:=nY) (cs:=[.slice ef b.length k1]) rfl rfl rfl rfl zQ rfl (fun g1=>⟨fun _=>zE,?_⟩);refine tO 8 ?_;refine bo rfl rfl rfl zP (bB .zero rfl zl) rfl rfl zO zm zo fun dW k2 _=>?_
 refine ⟨fun _=>zE,?_⟩
 ((refine tO 9 ?_;refine dV (bn rfl) ?_);(refine tO 10 ?_;refine dV (ba rfl) ?_);(refine tO 11 ?_;refine tf ?_;refine ⟨zN,?_⟩))
 refine bf zK ?_;refine wB ?_;refine aZ rfl rfl (Ct.at zP (KC _ e a.gq c.room c.size c.wait a.l v b now (hv.cL zE) zo zo (by have:=ha.xE.room;omega))) ?_;rintro _ _ (⟨-,rfl,v2,rfl⟩|⟨lT,-,-⟩)
 rotate_left
 ·exact absurd zo lT
 refine wB ?_;obtain ⟨M2,CJ⟩:∃ M2:cJ,M2=dI [M,cS (.slice ef b.length k1) b]:=⟨_,rfl⟩
 have eT:cz [M2] [M]:=by rw [CJ];exact cj (cT (M:=[_,_]) (L:=[])) (bh bF)
 have iI:cz [M2] [cS (.slice ef b.length k1) b]:=by rw [CJ];exact cj (cT (M:=[_,_]) (L:=[])) (cz.drop (bh bF))
 have j1:yZ.ok ⟨a.gj,a.gq,dW,k2,a.ts++[(.slice ef b.length k1,b)],a.l++[⟨v2,b,now⟩]⟩ M2 c ⟨s.recs++[b],s.q++[(b,now)]⟩:=by
  refine ⟨?_,fun x hx=>?_,?_,⟨?_,fun x hx=>?_,?_,fun x hx=>?_,fun x hx=>?_⟩,ha.xE⟩
  ·show (a.ts++[((.slice ef b.length k1:Value),b)]).map (·.2)=_
   rw [ah,ha.recs];rfl
  ·rcases aJ.1 hx with hx|hx
   ·exact (ha.yO x hx).cL eT
   ·rw [an.1 hx];exact cE.cL (bb .zero) iI
  ·show (a.l++[(⟨v2,b,now⟩:jI)]).map (fun m=>(m.b,m.jC))=_
   rw [ah,ha.QY];rfl
  ·rw [aa];show _+1≤_;omega
  ·rcases aJ.1 hx with hx|hx
   ·exact ha.st.oh x hx
   ·rw [an.1 hx];exact ⟨hm,hb⟩
  ·rw [aa];show _+1≤_;omega
  ·rcases aJ.1 hx with hx|hx
   ·exact ha.st.pf x hx
   ·rw [an.1 hx];exact hb
  ·rcases aJ.1 hx with hx|hx
   ·exact ha.st.wQ x hx
   ·rw [an.1 hx]
    show -9223372036854775808≤now∧now≤1000000
    omega
 apply br
 ·exact zV
 refine ⟨eg g d gl c ⟨s.recs++[b],s.q++[(b,now)]⟩::cU gl ld lk seed ls::R,cj ?_ (qB j1),by rw [l1];rfl,rfl⟩;have aaT:eV (s.recs++[b])=eV s.recs++fB b:=n8 _ _;simp only [DG,cV,aa,aj,ah,List.map_cons,List.map_nil,aaT];rw [CJ];exact cj (ep (A:=M) (B:=cS (.slice ef b.length k1) b) zP zP) zE
def M4 (q:List (du × Int)) (s w:Nat) (now:Int):Bool:=match q with
 | []=>false
 | x::_=>decide (s≤q.length∨x.2 = -9223372036854775808∨(x.2≤now∧(w:Int)≤now - x.2))
theorem VS {l:List jI} {q:List (du × Int)} (h:l.map (fun m=>(m.b,m.jC))=q) (s w:Nat) (now:Int):due l s w now=M4 q s w now:=by
 cases l with
 | nil=>rw [← h];rfl
 | cons m l=>rw [← h];simp [due,M4]
def pe.pg (c:m6) (s:pe) (now:Int):Bool:=M4 s.q c.size c.wait now
def pe.y6 (c:m6) (s:pe):pe:={ s with q:=s.q.drop c.size }
def pe.some (c:m6) (s:pe):List du:=(s.q.take c.size).map (·.1)
theorem HE (g d gl ld lk:Nat) (seed:du) (ls:fM) (c:m6) (s:pe) (now:Int) (hn:0≤now∧now≤1000000) (hc:ls.cF.length+(ls.fresh (s.some c)).length≤256) :
 Ct prog 169 #[pt g,.int .i64 now] e (eg g d gl c s::cU gl ld lk seed ls::R) (fun v' L'=>(s.pg c now=false∧v'=.tuple #[nY,.int .i64 0]∧L'=eg g d gl c s::cU gl ld lk seed ls::R)∨(s.pg c now=true∧∃ (ao:Option Addr) (co:Nat),v'=.tuple #[.slice ao (s.some c).length co,.int .i64 0]∧L'=eg g d gl c (s.y6 c)::cU gl ld lk seed (ls.add (s.some c))::R)):=by
 refine y4 fun a M ha=>?_
 obtain ⟨l1,l2⟩:=ha.len;have hqs:=ha.st.BH;have B9:=ha.xE.size;refine a8 (args:=[_,_]) func169 rfl ntmps169 results169 rfl ?_;refine wB ?_
 have J5:∀ m∈a.l,-9223372036854775808≤m.jC∧m.jC≤9223372036854775807:=fun m hm=>by
  have:=ha.st.wQ (m.b,m.jC) (by rw [← ha.QY];exact aE.2 ⟨m,hm,rfl⟩);dsimp only at this
  omega
 have nK:∀ m∈a.l,m.b.length≤200:=fun m hm=>ha.st.pf (m.b,m.jC) (by rw [← ha.QY];exact aE.2 ⟨m,hm,rfl⟩)
 refine aZ rfl rfl (Ct.at zP (KD _ e a.gq c.room c.size c.wait a.l now (by have:=ha.xE.wait;omega) zo zo zo J5)) ?_;rintro _ _ ⟨rfl,rfl⟩;have E0:due a.l c.size c.wait now=s.pg c now:=VS ha.QY _ _ _;rw [E0]
 cases hd:s.pg c now with
 | false =>
  refine wB ?_;exact aY (eg g d gl c s::cU gl ld lk seed ls::R) rfl (cj (show cz _ (DG g d gl c s a M (cU gl ld lk seed ls::R)) from zE) (qB ha)) (.inl ⟨rfl,rfl,rfl⟩)
 | true =>
  refine wB ?_;refine aZ rfl rfl (Ct.at zP (Hy _ e a.gq c.room c.size c.wait a.l (fun m hm=>by have:=nK m hm;omega) zo zo)) ?_;rintro _ _ ⟨ad,k,ts,rfl,fy,rfl⟩;refine wB ?_
  have An:ts.map (·.2)=s.some c:=by
   rw [fy];unfold pe.some;rw [← ha.QY,← List.map_take,List.map_map]
   rfl
  have oH:ts.length=(s.some c).length:=by rw [← An,ae]
  have afa:ts.length≤8:=by have:=congrArg List.length fy;rw [ae,ae,aF] at this;omega
  have Is:∀ x∈ts,x.2.length≤200:=fun x hx=>by
   have:x.2∈(a.l.take c.size).map jI.b:=by rw [← fy];exact aE.2 ⟨x,hx,rfl⟩
   obtain ⟨m,hm,hmb⟩:=aE.1 this;rw [← hmb];exact nK m (aR hm)
  have qj:=fun L:List cJ=>fun (h1:cE L 1 (.slice ad ts.length k) ts.length (ts.map (·.1))) (h2:dQ L ts)=>Kv L e gl ld lk seed ls (.slice ad ts.length k) ts h1 h2 zo Is (by rw [An];exact hc)
  rw [An] at qj
  refine aZ rfl rfl (Ct.at zP (qj _ (bb zP) (dQ.dY zP))) ?_;rintro _ _ ⟨ao,co,outs,rfl,lu,rfl⟩;have Er:outs.length=(s.some c).length:=by rw [lu,ae]
  rw [Er];refine wB ?_
  have j1:yZ.ok { a with l:=a.l.drop c.size } M c (s.y6 c):=by
   refine ⟨ha.recs,ha.yO,?_,⟨ha.st.size,ha.st.oh,?_,fun x hx=>ha.st.pf x (aV hx),fun x hx=>ha.st.wQ x (aV hx)⟩,ha.xE⟩
   ·show (a.l.drop c.size).map (fun m=>(m.b,m.jC))=s.q.drop c.size
    rw [List.map_drop,ha.QY]
   ·show (s.q.drop c.size).length≤1000
    rw [aO];omega
  exact aY (eg g d gl c (s.y6 c)::cU gl ld lk seed (ls.add (s.some c))::R) rfl (cj (show cz _ (DG g d gl c (s.y6 c) { a with l:=a.l.drop c.size } M (cU gl ld lk seed (ls.add (s.some c))::R)) from zE) (qB j1)) (.inr ⟨rfl,ao,co,rfl,rfl⟩)
theorem Ar (g d gl:Nat) (c:m6) (s:pe) (n:Nat) (hn:n<s.recs.length) :
 Ct prog 255 #[pt g,.int .i64 (n:Int)] e (eg g d gl c s::R) (fun v' L'=>∃ ad k,v'=.tuple #[.slice ad (s.recs.getD n []).length k,.bool true]∧L'=cS (.slice ad (s.recs.getD n []).length k) (s.recs.getD n [])::eg g d gl c s::R):=by
 refine y4 fun a M ha=>?_
 obtain ⟨l1,l2⟩:=ha.len;have ln:=ha.st.size;obtain ⟨gj,gq,ar,cr,ts,l⟩:=a;dsimp only at l1 l2
 have LD:n<ts.length:=by omega
 refine a7 ((bb (show cR _ (cV (.slice ar ts.length cr) ts) _ from zP)).shape zo) ?_;rintro ⟨⟨lM,c',hv,h3,h4,h5,h6⟩,_⟩
 cases hv
 rcases h6 with h6|⟨gr,orr,rfl⟩
 ·omega
 have jw:∀ L R',cR L (cV (.slice (some ⟨gr,orr,none⟩) ts.length cr) ts) R'→Rd L ⟨gr,orr+n,none⟩ (ts[n]'LD).1:=fun L R' p=>(bb p).elem (by rw [aL,ab LD];rfl)
 have jt:=ha.yO _ (aA LD);have tg:s.recs.getD n []=(ts[n]'LD).2:=by rw [← ha.recs];exact e6 LD
 have Is:=(ha.st.oh _ (show (ts[n]'LD).2∈s.recs by rw [← ha.recs];exact aE.2 ⟨_,aA LD,rfl⟩)).2;rw [tg]
 generalize ts[n]'LD=y at *
 obtain ⟨yv,b⟩:=y;dsimp only at jw jt Is ⊢
 refine a8 (args:=[_,_]) func255 rfl ntmps255 results255 rfl ?_;dsimp only [DG];refine wB ?_;refine bV rfl (jw _ _ zP) rfl ?_;refine aZ rfl rfl (dw _ e yv b (jt.cL (cG zP)) zo) ?_;rintro _ _ ⟨ad,k,rfl,rfl⟩;refine wB ?_;exact aY (cS (.slice ad b.length k) b::eg g d gl c s::R) rfl (bh (qB ha)) ⟨ad,k,rfl,rfl⟩
theorem E1:∀ (q:Nat) (R:List cJ) (e:World) (ad:Option Addr) (cap:Nat) (ts:List ej) (m n:Nat) (w:Bool) (v:Value) (old:List UInt8),ts.length=q→cE R 1 (.slice ad ts.length cap) ts.length (ts.map (·.1))→dQ R ts→(∀ a∈ts,a.2.length≤1000000)→ts.length≤1000000→n<9223372036854775808→1≤m→m≤n→db R v old→old.length≤1000000 →
 Ct prog 295 #[.slice ad ts.length cap,.int .i64 (m:Int),.int .i64 (n:Int),v,.bool w] e R (fun v' L'=>∃ (As:List cJ) (v1 v2:Value) (a b:List UInt8),v'=.tuple #[v1,v2,.bool (decide (ts.length=im m n w))]∧(ts.length=im m n w→(a,b)=iB m n w (ts.map (·.2)) old)∧a.length≤1000000∧b.length≤1000000∧L'=As++R∧db (As++R) v1 a∧db (As++R) v2 b):=by
 intro q
 induction q using Nat.strongRecOn with
 | _ q ih =>
 intro R e ad cap ts m n w v old hq hv ht ln hl hn Uc Cf hb nK;refine a8 (args:=[_,_,_,_,_]) func295 rfl ntmps295 results295 rfl ?_
 by_cases he:m=n
 ·subst he
  cases w
  ·refine wB ?_;refine aZ rfl rfl (vC _ e ad cap ts hv hl) ?_;rintro _ _ ⟨⟨rfl,rfl⟩|⟨us,a,rfl,rfl⟩,rfl⟩
   ·refine wB ?_;exact aY R rfl aX ⟨[],nY,nY,[],[],by rw [k8,aq (by simp)];rfl,fun h=>(by rw [k8] at h;simp at h),by simp,by simp,rfl,db.nil _,db.nil _⟩
   have ha:db R a.1 a.2:=ht a (aJ.2 (.inr (an.2 rfl)));have rL:=ln a (aJ.2 (.inr (an.2 rfl)))
   by_cases h0:us.length=0
   ·refine wB ?_;exact aY R rfl aX ⟨[],a.1,a.1,a.2,a.2,by rw [k8,ay (by rw [aa,aj,h0])];rfl,fun h=>(by rw [qx,mC]),rL,rL,rfl,ha,ha⟩
   ·refine wB ?_;exact aY R rfl aX ⟨[],a.1,a.1,a.2,a.2,by rw [k8,aq (by rw [aa,aj];omega)];rfl,fun h=>(by rw [qx,mC]),rL,rL,rfl,ha,ha⟩
  ·by_cases h0:ts.length=0
   ·refine wB ?_;exact aY R rfl aX ⟨[],v,v,old,old,by rw [qZ,ay h0];rfl,fun h=>(by rw [sz]),nK,nK,rfl,hb,hb⟩
   ·refine wB ?_;exact aY R rfl aX ⟨[],v,v,old,old,by rw [qZ,aq h0];rfl,fun h=>(by rw [sz]),nK,nK,rfl,hb,hb⟩
 have h2:2≤n:=by omega
 have hs:=dz h2;have vy:=fun h=>yM (w:=w) he h2 h
 have J2:=fun h=>yN (w:=w) he h2 h
 have RP:=fun p h=>Bz (w:=w) (p:=p) (old:=old) he h2 h
 have RQ:=fun p h=>BA (w:=w) (p:=p) (old:=old) he h2 h
 have Ag:0<im m n w:=by
  by_cases h:m≤cN n
  ·rw [vy h];omega
  ·rw [J2 h];omega
 refine wB ?_;refine aZ rfl rfl (vC _ e ad cap ts hv hl) ?_;rintro _ _ ⟨⟨rfl,rfl⟩|⟨us,a,rfl,rfl⟩,rfl⟩
 ·refine wB ?_;exact aY R rfl aX ⟨[],nY,nY,[],[],by rw [aq (by simp;omega)];rfl,fun h=>(by simp at h;omega),by simp,by simp,rfl,db.nil _,db.nil _⟩
 have qi:(us++[a]).length=us.length+1:=by rw [aa,aj]
 have jw:=II hv;have Vy:dQ R us:=fun x hx=>ht x (aJ.2 (.inl hx))
 have ha:db R a.1 a.2:=ht a (aJ.2 (.inr (an.2 rfl)));have rL:=ln a (aJ.2 (.inr (an.2 rfl)));have Vz:∀ x∈us,x.2.length≤1000000:=fun x hx=>ln x (aJ.2 (.inl hx))
 refine wB ?_;refine aZ rfl rfl (mL R e n zo) ?_;rintro _ _ ⟨rfl,rfl⟩;rw [kY]
 generalize cN n=k at *
 have Sl:∀ {v:Value} {b:List UInt8} (h:db R v b) (As:List cJ),db (As++R) v b:=fun h As=>by
  induction As with
  | nil=>exact h
  | cons A As ih=>exact ih.tail
 by_cases vB:m≤k
 ·refine wB ?_;refine aZ rfl rfl (ih us.length zo R e ad cap us m k w v old rfl jw Vy Vz zo zo Uc vB hb nK) ?_;rintro _ _ ⟨As,v1,v2,x,y,rfl,h7,h8,h9,rfl,On,VT⟩;refine wB ?_;refine aZ rfl rfl (mB _ e _ _ _ _ VT (Sl ha As) h9 rL) ?_;rintro _ _ ⟨eJ,c3,rfl,rfl⟩;refine wB ?_;refine aY (cS (.slice eJ (eG y a.2).length c3) (eG y a.2)::(As++R)) rfl aX ⟨cS (.slice eJ (eG y a.2).length c3) (eG y a.2)::As,v1,.slice eJ (eG y a.2).length c3,x,eG y a.2,?_,fun h=>?_,h8,by rw [eG,dg];omega,rfl,On.tail,bb .zero⟩
  ·rw [qi,vy vB,decide_eq_decide.2 (show us.length=im m k w↔us.length+1=im m k w+1 by omega)];rfl
  ·rw [qi,vy vB] at h
   rw [RP _ vB,l9,mC,← h7 zo]
 ·refine wB ?_;rw [show ((m:Nat):Int) - ((k:Nat):Int)=((m - k:Nat):Int) by omega,show ((n:Nat):Int) - ((k:Nat):Int)=((n - k:Nat):Int) by omega];refine aZ rfl rfl (ih us.length zo R e ad cap us (m - k) (n - k) false v old rfl jw Vy Vz zo zo zo zo hb nK) ?_;rintro _ _ ⟨As,v1,v2,x,y,rfl,h7,h8,h9,rfl,On,VT⟩;refine wB ?_;refine aZ rfl rfl (mB _ e _ _ _ _ (Sl ha As) On rL h8) ?_;rintro _ _ ⟨eJ,c3,rfl,rfl⟩
  (repeat (refine wA ?_;intros))
  refine aZ rfl rfl (mB _ e _ _ _ _ (Sl ha As).tail VT.tail rL h9) ?_;rintro _ _ ⟨jA,c4,rfl,rfl⟩;refine wB ?_;refine aY (cS (.slice jA (eG a.2 y).length c4) (eG a.2 y)::cS (.slice eJ (eG a.2 x).length c3) (eG a.2 x)::(As++R)) rfl aX ⟨cS (.slice jA (eG a.2 y).length c4) (eG a.2 y)::cS (.slice eJ (eG a.2 x).length c3) (eG a.2 x)::As,.slice eJ (eG a.2 x).length c3,.slice jA (eG a.2 y).length c4,eG a.2 x,eG a.2 y,?_,fun h=>?_,by rw [eG,dg];omega,by rw [eG,dg];omega,rfl,bb (.succ .zero),bb .zero⟩
  ·rw [qi,J2 vB,decide_eq_decide.2 (show us.length=im (m - k) (n - k) false↔us.length+1=im (m - k) (n - k) false+1 by omega)];rfl
  ·rw [qi,J2 vB] at h
   rw [RQ _ vB,l9,mC,← h7 zo]
def y7 (n m:Int) (ts:List ej) (old:List UInt8):Prop:=jF ts=true∧0<n∧n<m∧old.length=32∧ts.length=im n.toNat m.toNat true
instance (n m:Int) (ts:List ej) (old:List UInt8):Decidable (y7 n m ts old):=by unfold y7;infer_instance
abbrev mX (n m:Int) (ts:List ej) (old:List UInt8):List UInt8 × List UInt8:=iB n.toNat m.toNat true (ts.map (·.2)) old
theorem E2 (n m:Int) (vp vb:Value) (ts:List ej) (b:List UInt8) (h1:-9223372036854775808≤n∧n≤9223372036854775807) (h2:-9223372036854775808≤m∧m≤9223372036854775807) (hv:cE R 1 vp ts.length (ts.map (·.1))) (ht:dQ R ts) (hb:db R vb b) :
 Ct prog 262 #[.agg #[.int .i64 n,.int .i64 m,vp],vb] e R (fun v' L' =>
  (y7 n m ts b∧∃ ad c lM c',v'=.tuple #[.slice ad (mX n m ts b).1.length c,.slice lM (mX n m ts b).2.length c',.bool true]∧L'=cS (.slice lM (mX n m ts b).2.length c') (mX n m ts b).2::cS (.slice ad (mX n m ts b).1.length c) (mX n m ts b).1::R) ∨
  (¬ y7 n m ts b∧v'=.tuple #[nY,nY,.bool false]∧R=L')):=by
 refine a7 (hv.shape zo) ?_;rintro ⟨⟨ad,cap,rfl,h3,h4,h5,h6⟩,_⟩;refine a8 (args:=[_,_]) func262 rfl ntmps262 results262 rfl ?_
 (repeat (refine wA ?_;intros))
 rename_i g;refine aZ rfl rfl (nh _ e _ ts hv.tail ht.tail) ?_;rintro _ _ ⟨rfl,rfl⟩
 by_cases hr:jF ts=true
 rotate_left
 ·rw [show jF ts=false by simpa using hr];refine wB ?_;exact aY R rfl zE (.inr ⟨fun h=>hr h.1,rfl,rfl⟩)
 rw [hr];obtain ⟨r1,r2⟩:=so.1 hr
 by_cases h0:0<n
 rotate_left
 ·refine wB ?_;exact aY R rfl zE (.inr ⟨fun h=>h0 h.2.1,rfl,rfl⟩)
 by_cases cO:n<m
 rotate_left
 ·refine wB ?_;exact aY R rfl zE (.inr ⟨fun h=>cO h.2.2.1,rfl,rfl⟩)
 refine wB ?_;refine aZ rfl rfl (tW _ e _ b hb.tail) ?_;rintro _ _ ⟨rfl,rfl⟩
 by_cases jN:b.length=32
 rotate_left
 ·rw [aq jN];refine wB ?_;exact aY R rfl zE (.inr ⟨fun h=>jN h.2.2.2.1,rfl,rfl⟩)
 rw [ay jN];obtain ⟨i,rfl⟩:=Int.eq_ofNat_of_zero_le (show 0≤n by omega);obtain ⟨j,rfl⟩:=Int.eq_ofNat_of_zero_le (show 0≤m by omega);refine wB ?_;refine aZ rfl rfl (E1 ts.length _ e ad cap ts i j true vb b rfl hv.tail ht.tail (fun a ha=>by have:=r2 a ha;omega) zo zo zo zo hb.tail zo) ?_;rintro _ _ ⟨As,v1,v2,x,y,rfl,h7,h8,h9,rfl,On,VT⟩
 have QZ:∀ (As:List cJ) (M:List cJ),cz (As++M) M:=fun As M=>by
  induction As with
  | nil=>exact aX
  | cons A As ih=>exact cz.drop ih
 by_cases Ga:ts.length=im i j true
 ·rw [ay Ga];have Ue:=h7 Ga;have e1:mX (i:Int) (j:Int) ts b=(x,y):=Ue.symm;rw [e1];dsimp only;refine wB ?_;refine aZ rfl rfl (dw _ e _ x On zo) ?_;rintro _ _ ⟨ef,c1,rfl,rfl⟩
  (repeat (refine wA ?_;intros))
  refine aZ rfl rfl (dw _ e _ y VT.tail zo) ?_;rintro _ _ ⟨dW,c2,rfl,rfl⟩;refine wB ?_;exact aY (cS (.slice dW y.length c2) y::cS (.slice ef x.length c1) x::R) rfl (bh (bh (cj (QZ As _) (cz.drop aX)))) (.inl ⟨⟨hr,h0,cO,jN,Ga⟩,ef,c1,dW,c2,rfl,rfl⟩)
 ·rw [aq Ga];refine wB ?_;exact aY R rfl (cj (QZ As _) (cz.drop aX)) (.inr ⟨fun h=>Ga h.2.2.2.2,rfl,rfl⟩)
def ph (n m:Int) (ts:List ej) (old now:List UInt8):Prop :=
 (n=m∧0≤n∧ts.length=0∧old.length=32∧old=now)∨(n=0∧n<m∧ts.length=0∧old=sh []∧now.length=32)∨(y7 n m ts old∧(mX n m ts old).1=old∧(mX n m ts old).2=now)
instance (n m:Int) (ts:List ej) (old now:List UInt8):Decidable (ph n m ts old now):=by unfold ph;infer_instance
theorem y8 (n m:Int) (vp vb vn:Value) (ts:List ej) (b now:List UInt8) (h1:-9223372036854775808≤n∧n≤9223372036854775807) (h2:-9223372036854775808≤m∧m≤9223372036854775807) (hv:cE R 1 vp ts.length (ts.map (·.1))) (ht:dQ R ts) (hb:db R vb b) (hw:db R vn now) :
 Ct prog 196 #[.agg #[.int .i64 n,.int .i64 m,vp],vb,vn] e R (fun v' L'=>v'=.bool (decide (ph n m ts b now))∧R=L'):=by
 refine a7 (hv.shape zo) ?_;rintro ⟨⟨ad,cap,rfl,h3,h4,h5,h6⟩,_⟩;refine a8 (args:=[_,_,_]) func196 rfl ntmps196 results196 rfl ?_
 by_cases h0:0≤n
 rotate_left
 ·rw [aq (by rintro (h|h|h);(omega);(omega);(have:=h.1.2.1;omega))]
  (repeat (refine wA ?_;intros))
  exact aY R rfl zE ⟨rfl,rfl⟩
 by_cases J9:n≤m
 rotate_left
 ·rw [aq (by rintro (h|h|h);(omega);(omega);(have:=h.1.2.2.1;omega))]
  (repeat (refine wA ?_;intros))
  exact aY R rfl zE ⟨rfl,rfl⟩
 by_cases he:n=m
 ·by_cases u7:ts.length=0
  rotate_left
  ·rw [aq (by rintro (h|h|h);(omega);(omega);(have:=h.1.2.2.1;omega))]
   (repeat (refine wA ?_;intros))
   exact aY R rfl zE ⟨rfl,rfl⟩
  (repeat (refine wA ?_;intros))
  refine aZ rfl rfl (tW _ e _ b hb.tail) ?_;rintro _ _ ⟨rfl,rfl⟩
  by_cases jN:b.length=32
  rotate_left
  ·rw [aq jN,aq (by rintro (h|h|h);(omega);(omega);(have:=h.1.2.2.1;omega))];refine wB ?_;exact aY R rfl zE ⟨rfl,rfl⟩
  rw [ay jN];refine wB ?_;refine aZ rfl rfl (iN _ e _ _ b now hb.tail hw.tail) ?_;rintro _ _ ⟨rfl,rfl⟩
  by_cases hs:b=now
  ·rw [ay hs,ay (.inl ⟨he,h0,u7,jN,hs⟩)];refine wB ?_;exact aY R rfl zE ⟨rfl,rfl⟩
  ·rw [aq hs,aq (by rintro (h|h|h);(exact hs h.2.2.2.2);(omega);(have:=h.1.2.2.1;omega))];refine wB ?_;exact aY R rfl zE ⟨rfl,rfl⟩
 by_cases hz:n=0
 ·by_cases u7:ts.length=0
  rotate_left
  ·rw [aq (by rintro (h|h|h);(omega);(omega);(have:=h.1.2.1;omega))]
   (repeat (refine wA ?_;intros))
   exact aY R rfl zE ⟨rfl,rfl⟩
  (repeat (refine wA ?_;intros))
  refine aZ rfl rfl (tK _ e _ [] (db.nil _) (by simp)) ?_;rintro _ _ ⟨dW,c2,rfl,rfl⟩
  (repeat (refine wA ?_;intros))
  refine aZ rfl rfl (iN _ e _ _ b (sh []) hb.tail.tail (bb .zero)) ?_;rintro _ _ ⟨rfl,rfl⟩
  by_cases hs:b=sh []
  rotate_left
  ·rw [aq hs,aq (by rintro (h|h|h);(omega);(exact hs h.2.2.2.1);(have:=h.1.2.1;omega))];refine wB ?_;exact aY R rfl zE ⟨rfl,rfl⟩
  rw [ay hs];refine wB ?_;refine aZ rfl rfl (tW _ e _ now hw.tail.tail) ?_;rintro _ _ ⟨rfl,rfl⟩
  by_cases jN:now.length=32
  ·rw [ay jN,ay (.inr (.inl ⟨hz,by omega,u7,hs,jN⟩))];refine wB ?_;exact aY R rfl zE ⟨rfl,rfl⟩
  ·rw [aq jN,aq (by rintro (h|h|h);(omega);(exact jN h.2.2.2.2);(have:=h.1.2.1;omega))];refine wB ?_;exact aY R rfl zE ⟨rfl,rfl⟩
 (repeat (refine wA ?_;intros))
 refine aZ rfl rfl (E2 _ e n m _ vb ts b h1 h2 hv.tail ht.tail hb.tail) ?_;rintro _ _ (⟨j1,ef,c1,dW,c2,rfl,rfl⟩|⟨j1,rfl,rfl⟩)
 rotate_left
 ·rw [aq (by rintro (h|h|h);(omega);(omega);(exact j1 h.1))];refine wB ?_;exact aY R rfl zE ⟨rfl,rfl⟩
 refine wB ?_;refine aZ rfl rfl (iN _ e _ _ _ b (bb (.succ .zero)) hb.tail.tail.tail) ?_;rintro _ _ ⟨rfl,rfl⟩
 by_cases hs:(mX n m ts b).1=b
 rotate_left
 ·rw [aq hs,aq (by rintro (h|h|h);(omega);(omega);(exact hs h.2.1))];refine wB ?_;exact aY R rfl zE ⟨rfl,rfl⟩
 rw [ay hs];refine wB ?_;refine aZ rfl rfl (iN _ e _ _ _ now (bb .zero) hw.tail.tail.tail) ?_;rintro _ _ ⟨rfl,rfl⟩
 by_cases m4:(mX n m ts b).2=now
 ·rw [ay m4,ay (.inr (.inr ⟨j1,hs,m4⟩))];refine wB ?_;exact aY R rfl zE ⟨rfl,rfl⟩
 ·rw [aq m4,aq (by rintro (h|h|h);(omega);(omega);(exact m4 h.2.2))];refine wB ?_;exact aY R rfl zE ⟨rfl,rfl⟩
theorem KG (l:List (List UInt8)):iY l l.length=[]:=by rw [iY,aB zo]
theorem HF (l:List (List UInt8)):iY l 0=[]:=by rw [iY,aB zo]
theorem M5 {ts out:List ej} {m:Nat} (ho:out.map (·.2)=iY (ts.map (·.2)) m) (hm:m≤ts.length) (hl:ts.length≤32768):out.length≤16:=by
 have h1:=congrArg List.length ho;rw [ae] at h1
 by_cases gy:0<m∧m<(ts.map (·.2)).length
 ·rw [iY,aI gy,lH _ m _ true rfl zo zo] at h1
  have:=oe 15 (ts.map (·.2)).length m true (by rw [ae];omega)
  omega
 ·rw [iY,aB gy,List.length_nil] at h1
  omega
theorem xF {ts out:List ej} {m:Nat} (ho:out.map (·.2)=iY (ts.map (·.2)) m) (hm:m≤ts.length) (jN:∀ a∈ts,a.2.length=32) (hl:ts.length≤32768) :
 ph (m:Int) (ts.length:Int) out (ea ((ts.take m).map (·.2))) (ea (ts.map (·.2))):=by
 have h3:∀ a∈ts.map (·.2),a.length=32:=fun a ha=>by
  obtain ⟨y,hy,rfl⟩:=aE.1 ha;exact jN y hy
 have Ph:=M5 ho hm hl
 by_cases he:m=ts.length
 ·subst he;have e1:=KG (ts.map (·.2));rw [ae] at e1
  rw [e1] at ho
  have h0:out.length=0:=by have:=congrArg List.length ho;simpa using this
  rw [List.take_length];exact .inl ⟨rfl,by omega,h0,gG h3,rfl⟩
 by_cases hz:m=0
 ·subst hz;rw [HF] at ho
  have h0:out.length=0:=by have:=congrArg List.length ho;simpa using this
  exact .inr (.inl ⟨rfl,by omega,h0,by rw [List.take_zero];exact kZ,gG h3⟩)
 have gy:0<m∧m<(ts.map (·.2)).length:=⟨by omega,by rw [ae];omega⟩
 rw [iY,aI gy] at ho
 have h1:out.length=im m ts.length true:=by
  have:=congrArg List.length ho
  rwa [ae,lH _ m _ true rfl zo zo,ae] at this
 have h4:∀ a∈out,a.2.length=32:=fun a ha=>by
  have:a.2∈out.map (·.2):=aE.2 ⟨a,ha,rfl⟩;rw [ho] at this
  exact BB _ _ _ _ rfl h3 _ this
 have h5:=Hs (ts.map (·.2)).length m (ts.map (·.2)) true (ea ((ts.take m).map (·.2))) rfl zo zo (fun _=>by rw [List.map_take]);rw [ae,← ho] at h5
 have h6:((ts.take m).map (·.2))=(ts.map (·.2)).take m:=List.map_take;refine .inr (.inr ⟨⟨so.2 ⟨Ph,h4⟩,by omega,by omega,gG fun a ha=>h3 a (aR (h6 ▸ ha)),h1⟩,?_,?_⟩)
 ·exact (congrArg Prod.fst h5).trans (by rw [h6])
 ·exact congrArg Prod.snd h5
structure eP where
 recs:List jc
 keys:Nat
 dC:kO
 some:Bool
def Sm:jc:=⟨0,sh []⟩
def gY:kO:=⟨0,⟨0,[],[]⟩⟩
def eP.c (s:eP):jc:=s.recs.getLast?.getD Sm
def recC (c:jc):du:=be c.size 4++c.root
def eP.jb (s:eP):du:=eV (s.recs.map recC)
structure eP.ok (s:eP):Prop where
 right:∀ c∈s.recs,c.right
 At:(s.recs.map (·.size)).Pairwise (·<·)
 pos:∀ c∈s.recs,0<c.size
 keys:s.keys≤16
 fits:s.dC.sig.fits
theorem jp {c:jc} (h:c.right):(recC c).length=36:=by unfold recC;rw [aa,cX,h.2]
theorem eP.uz {s:eP} (h:s.ok):s.c.right:=by
 unfold eP.c
 cases hl:s.recs.getLast? with
 | none=>exact ⟨aH _,jT _⟩
 | some c=>exact h.right c (List.mem_of_getLast? hl)
theorem KH (vr:Value) (c:jc) (hv:db R vr c.root) (hc:c.right) :
 Ct prog 111 #[.agg (iS c vr).toArray] e R (fun v' L'=>∃ ad k,v'=.slice ad (recC c).length k∧L'=cS (.slice ad (recC c).length k) (recC c)::R):=by
 have wY:=hc.1;have xu:=hc.2;refine a7 (cn hv) fun ho=>?_
 refine a8 (args:=[_]) func111 rfl ntmps111 results111 rfl ?_
 (repeat (refine wA ?_;intros))
 refine aZ rfl rfl (jh _ e) ?_;rintro _ _ ⟨gw,rfl,rfl⟩;refine wB ?_;refine aZ rfl rfl (gD _ e gw [] c.size zo (by decide)) ?_;rintro _ _ ⟨rfl,rfl⟩;refine wB ?_;refine aZ rfl rfl (hI _ e gw _ c.root vr (hv.cL zE) (by rw [aa,cX];simp only [List.length_nil];omega)) ?_;rintro _ _ ⟨rfl,rfl⟩;rw [show []++be c.size 4++c.root=recC c by simp [recC]];refine wB ?_;refine aZ rfl rfl (hJ _ e gw _ (by rw [jp hc];omega)) ?_;rintro _ _ ⟨ad,k,rfl,rfl⟩;refine wB ?_;exact aY (cS (.slice ad (recC c).length k) (recC c)::R) rfl zE ⟨ad,k,rfl,rfl⟩
abbrev HG:TypeId:=194
structure nC where
 gj:Nat
 gb:Nat
 gk:Nat
 vs:Value
 vl:Value
 vp:Value
 vr:Value
 up:Value
 uq:Value
structure nC.ok (a:nC) (M:cJ) (seed log:du) (s:eP):Prop where
 wP:db [M] a.vs seed
 Sn:db [M] a.vl log
 root:db [M] a.vr s.c.root
 sig:fL [M] a.up a.uq s.dC.sig
 st:s.ok
 sd:seed.length=32
 lg:log.length=32
abbrev nC.cells (a:nC) (id:Nat) (s:eP):List Value:=[pt a.gj,pt a.gb,.int .i64 (id:Int),a.vs,a.vl,a.vp]++iS s.c a.vr++iA s.dC a.up a.uq++[.bool s.some]
abbrev iJ (g d k id:Nat) (s:eP) (a:nC) (M:cJ) (R:List cJ):List cJ :=
 cK g (a.cells id s) HG (0,0)::M::jd a.gj d s.recs.length::de d (dx s.jb)::lF a.gb a.gk s.keys::jd a.gk k s.keys::de k (eo s.keys 1048576)::R
def M6 (g d k id:Nat) (seed log:du) (s:eP) (a:nC) (M:cJ):cJ:=dI (Pu (a.ok M seed log s)::iJ g d k id s a M [])
def nD (g d k id:Nat) (seed log:du) (s:eP):cJ:=Ex fun a=>Ex fun M=>M6 g d k id seed log s a M
theorem IY {g d k id:Nat} {seed log:du} {s:eP} {R:List cJ} {P:Program} {f:FuncId} {args:Array Value} {e:World} {Post:Value→List cJ→Prop}
 (h:∀ (a:nC) (M:cJ),a.ok M seed log s→Ct P f args e (iJ g d k id s a M R) Post):Ct P f args e (nD g d k id seed log s::R) Post :=
 Ct.ex .zero fun a=>Ct.ex .zero fun M=>Ct.cL (a7 (p:=a.ok M seed log s) (fun w x=>(jR x).1) fun hp=>(h a M hp).cL (cz.drop aX)) (cT (M:=Pu (a.ok M seed log s)::iJ g d k id s a M []) (L:=R))
theorem vG {g d k id:Nat} {seed log:du} {s:eP} {a:nC} {M:cJ} {R:List cJ} (h:a.ok M seed log s):cz (iJ g d k id s a M R) (nD g d k id seed log s::R) :=
 cj (na h) (cj (dR (M:=Pu (a.ok M seed log s)::iJ g d k id s a M []) (L:=R)) (cj (fu (f:=fun M=>M6 g d k id seed log s a M) M) (fu (f:=fun a=>Ex fun M=>M6 g d k id seed log s a M) a)))
theorem E3 (g d k id:Nat) (seed log:du) (s:eP) :
 Ct prog 252 #[pt g] e (nD g d k id seed log s::R) (fun v' L'=>∃ ad c,v'=.agg (iS s.c (.slice ad s.c.root.length c)).toArray∧L'=cS (.slice ad s.c.root.length c) s.c.root::nD g d k id seed log s::R):=by
 refine IY fun a M ha=>?_
 have Gf:=(eP.uz ha.st).2;refine bH (args:=[_]) func252 rfl ntmps252 results252 rfl ?_
 (repeat (refine wA ?_;intros))
 rename_i g2;refine bk (id:=1) [12] (iJ g d k id s a M R) mixed ?_
 (refine tM 0 ?_;refine tN 1 ?_;refine tF 2 ?_;refine tF 3 ?_;refine tL 4 ?_;refine tM 5 ?_;refine tN 6 ?_;refine tF 7 ?_;refine tF 8 ?_;refine tL 9 ?_)
 refine tO 10 ?_;refine bg rfl rfl (dw _ e a.vr s.c.root (ha.root.cL (cG zP)) zo) ?_;rintro _ _ ⟨ad,c,rfl,rfl⟩;refine ⟨fun _=>zE,?_⟩
 (refine tk 11 _ rfl (bL rfl zF) ?_;(refine tO 12 ?_;refine zg ?_;refine ⟨zN,?_⟩))
 refine bf zK ?_;refine wB ?_;apply br
 ·exact zV
 exact ⟨cS (.slice ad s.c.root.length c) s.c.root::nD g d k id seed log s::R,cj (show cz _ (cS (.slice ad s.c.root.length c) s.c.root::iJ g d k id s a M R) from zE) (bh (vG ha)),ad,c,rfl,rfl⟩
def eP.jq (s:eP) (c:jc) (n m:Nat) (ts:List ej):Int:=if c.size<s.c.size then 32 else if c.size=s.c.size then (if c=s.c then 0 else 34) else if n=s.c.size∧m=c.size∧ph n m ts s.c.root c.root then 0 else 31
theorem E4 (g d k id:Nat) (seed log:du) (s:eP) (a:nC) (M:cJ) (ha:a.ok M seed log s) (vr vp:Value) (c:jc) (n m:Nat) (ts:List ej) (hr:db R vr c.root) (hc:c.right) (hn:n≤1000000) (hm:m≤1000000) (hv:cE R 1 vp ts.length (ts.map (·.1))) (ht:dQ R ts) :
 Ct prog 110 #[pt g,.agg (iS c vr).toArray,.agg #[.int .i64 (n:Int),.int .i64 (m:Int),vp]] e (iJ g d k id s a M R) (fun v' L'=>v'=.int .i64 (s.jq c n m ts)∧L'=iJ g d k id s a M R):=by
 have Sj:=eP.uz ha.st;have fR:=Sj.1;have wY:=hc.1;refine a7 (cn (hr.cL (show cz (iJ g d k id s a M R) R from zE))) fun o1=>?_
 refine a7 (cE.shape (hv.cL (show cz (iJ g d k id s a M R) R from zE)) zo) ?_;rintro ⟨⟨rP,cp,rfl,-,-,-,-⟩,_⟩;refine a8 (args:=[_,_,_]) func110 rfl ntmps110 results110 rfl ?_
 (repeat (refine wA ?_;intros))
 rename_i g4 g5;refine bk (id:=1) [] (cK g5 [.int .i64 (n:Int),.int .i64 (m:Int),.slice rP ts.length cp] 102 (0,0)::cK g4 (iS c vr) 83 (0,0)::iJ g d k id s a M R) mixed ?_
 by_cases h1:c.size<s.c.size
 ·have hE:s.jq c n m ts=32:=by unfold eP.jq;rw [aI h1]
  rw [hE]
  (refine tF 0 ?_;refine tL 1 ?_;refine tM 2 ?_;refine tN 3 ?_;refine tF 4 ?_;refine tF 5 ?_;refine tL 6 ?_;refine tk 7 (.bool true) rfl (cD.iQ (cD.lss rfl rfl) zy) ?_;refine tA 8 ?_)
  refine bf zK ?_;refine wB ?_;exact aY (iJ g d k id s a M R) rfl zE ⟨rfl,rfl⟩
 (refine tF 0 ?_;refine tL 1 ?_;refine tM 2 ?_;refine tN 3 ?_;refine tF 4 ?_;refine tF 5 ?_;refine tL 6 ?_;refine tk 7 (.bool false) rfl (cD.no (cD.lss rfl rfl) zn) ?_;refine tA 8 ?_)
 refine bf zK ?_;refine wB ?_;refine bk (id:=3) [] (cK g5 [.int .i64 (n:Int),.int .i64 (m:Int),.slice rP ts.length cp] 102 (0,0)::cK g4 (iS c vr) 83 (0,0)::iJ g d k id s a M R) mixed ?_
 by_cases h2:c.size=s.c.size
 ·(refine tF 0 ?_;refine tL 1 ?_;refine tM 2 ?_;refine tN 3 ?_;refine tF 4 ?_;refine tF 5 ?_;refine tL 6 ?_;refine tk 7 (.bool true) rfl (cD.iQ (bW rfl rfl) zy) ?_;refine tM 8 ?_;refine dt 9 _ rfl (cD.dy rfl zA zX) ?_;refine dt 10 _ rfl (bu rfl) ?_;refine dt 11 _ rfl (bn rfl) ?_;refine dt 12 _ rfl (ba rfl) ?_;refine dt 13 _ rfl (cD.df rfl zP zI zX) ?_)
  refine A.rv 14 rfl rfl zK ?_;refine bg rfl rfl (yy _ e vr a.vr c s.c (hr.cL zE) (ha.root.cL (cG zP))) ?_;rintro _ _ ⟨rfl,rfl⟩;refine ⟨fun _=>zE,A.fS zE ?_⟩
  by_cases h3:c=s.c
  ·have hE:s.jq c n m ts=0:=by unfold eP.jq;rw [aB h1,aI h2,aI h3]
   rw [hE,ay h3]
   (refine dt 15 _ rfl (cD.jZ rfl) ?_;refine tk 16 _ rfl (bK rfl rfl) ?_;refine tA 17 ?_)
   refine bf zK ?_;refine wB ?_;refine bk (id:=5) [] (cK g4 (iS c vr) 83 (0,0)::iJ g d k id s a M R) mixed ?_
   (refine tF 0 ?_;refine tL 1 ?_;refine tM 2 ?_;refine tN 3 ?_;refine tF 4 ?_;refine tF 5 ?_;refine tL 6 ?_;refine tk 7 (.bool true) rfl (cD.iQ (bW rfl rfl) zy) ?_;refine tA 8 ?_)
   refine bf zK ?_;refine wB ?_;exact aY (iJ g d k id s a M R) rfl zE ⟨rfl,rfl⟩
  ·have hE:s.jq c n m ts=34:=by unfold eP.jq;rw [aB h1,aI h2,aB h3]
   rw [hE,aq h3]
   (refine dt 15 _ rfl (cD.p8 rfl) ?_;refine tk 16 _ rfl (bK rfl rfl) ?_;refine tA 17 ?_)
   refine bf zK ?_;refine wB ?_;exact aY (iJ g d k id s a M R) rfl zE ⟨rfl,rfl⟩
 (refine tF 0 ?_;refine tL 1 ?_;refine tM 2 ?_;refine tN 3 ?_;refine tF 4 ?_;refine tF 5 ?_;refine tL 6 ?_;refine tk 7 (.bool false) rfl (cD.no (bW rfl rfl) zn) ?_;refine tM 8 ?_;refine bc 9 rfl rfl zK zE rfl ?_;refine bc 10 rfl rfl zK zE rfl ?_;refine bc 11 rfl rfl zK zE rfl ?_;refine bc 12 rfl rfl zK zE rfl ?_;refine bc 13 rfl rfl zK zE rfl ?_)
 refine bc 14 rfl rfl zK zE rfl ?_
 (refine bc 15 rfl rfl zK zE rfl ?_;refine tk 16 _ rfl (bI rfl rfl) ?_;refine tA 17 ?_)
 refine bf zK ?_;refine wB ?_;refine bk (id:=5) [] (cK g4 (iS c vr) 83 (0,0)::iJ g d k id s a M R) mixed ?_
 (refine tF 0 ?_;refine tL 1 ?_;refine tM 2 ?_;refine tN 3 ?_;refine tF 4 ?_;refine tF 5 ?_;refine tL 6 ?_;refine tk 7 (.bool false) rfl (cD.no (bW rfl rfl) zn) ?_;refine tA 8 ?_)
 refine bf zK ?_;refine wB ?_;refine bk (id:=7) [] (cK g5 [.int .i64 (n:Int),.int .i64 (m:Int),.slice rP ts.length cp] 102 (0,0)::cK g4 (iS c vr) 83 (0,0)::iJ g d k id s a M R) mixed ?_;have Pj:s.jq c n m ts=if n=s.c.size∧m=c.size∧ph n m ts s.c.root c.root then 0 else 31:=by unfold eP.jq;rw [aB h1,aB h2]
 by_cases h3:n=s.c.size
 rotate_left
 ·have hE:s.jq c n m ts=31:=by rw [Pj,aB (fun q=>h3 q.1)]
  rw [hE]
  (refine tF 0 ?_;refine tL 1 ?_;refine tM 2 ?_;refine tN 3 ?_;refine tF 4 ?_;refine tF 5 ?_;refine tL 6 ?_;refine tk 7 (.bool true) rfl (cD.iQ (cD.neq rfl rfl) zy) ?_;refine tM 8 ?_;refine bc 9 rfl rfl zK zE rfl ?_;refine bc 10 rfl rfl zK zE rfl ?_;refine bc 11 rfl rfl zK zE rfl ?_;refine bc 12 rfl rfl zK zE rfl ?_;refine bc 13 rfl rfl zK zE rfl ?_;refine tk 14 _ rfl (bK rfl rfl) ?_;refine tM 15 ?_;refine bc 16 rfl rfl zK zE rfl ?_;refine bc 17 rfl rfl zK zE rfl ?_;refine bc 18 rfl rfl zK zE rfl ?_;refine bc 19 rfl rfl zK zE rfl ?_;refine bc 20 rfl rfl zK zE rfl ?_;refine bc 21 rfl rfl zK zE rfl ?_;refine bc 22 rfl rfl zK zE rfl ?_;refine bc 23 rfl rfl zK zE rfl ?_)
  refine bc 24 rfl rfl zK zE rfl ?_
  (refine bc 25 rfl rfl zK zE rfl ?_;refine tk 26 _ rfl (bK rfl rfl) ?_;refine tA 27 ?_)
  refine bf zK ?_;refine wB ?_;exact aY (iJ g d k id s a M R) rfl zE ⟨rfl,rfl⟩
 by_cases h4:m=c.size
 rotate_left
 ·have hE:s.jq c n m ts=31:=by rw [Pj,aB (fun q=>h4 q.2.1)]
  rw [hE]
  (refine tF 0 ?_;refine tL 1 ?_;refine tM 2 ?_;refine tN 3 ?_;refine tF 4 ?_;refine tF 5 ?_;refine tL 6 ?_;refine tk 7 (.bool false) rfl (cD.no (cD.neq rfl rfl) zn) ?_;refine tM 8 ?_;refine dt 9 _ rfl (ba rfl) ?_;refine dt 10 _ rfl (bp rfl zR) ?_;refine dt 11 _ rfl (ba rfl) ?_;refine dt 12 _ rfl (bp rfl zR) ?_;refine dt 13 (.bool true) rfl (cD.iQ (cD.neq rfl rfl) zy) ?_;refine tk 14 _ rfl (bI rfl rfl) ?_;refine tM 15 ?_;refine bc 16 rfl rfl zK zE rfl ?_;refine bc 17 rfl rfl zK zE rfl ?_;refine bc 18 rfl rfl zK zE rfl ?_;refine bc 19 rfl rfl zK zE rfl ?_;refine bc 20 rfl rfl zK zE rfl ?_;refine bc 21 rfl rfl zK zE rfl ?_;refine bc 22 rfl rfl zK zE rfl ?_;refine bc 23 rfl rfl zK zE rfl ?_)
  refine bc 24 rfl rfl zK zE rfl ?_
  (refine bc 25 rfl rfl zK zE rfl ?_;refine tk 26 _ rfl (bK rfl rfl) ?_;refine tA 27 ?_)
  refine bf zK ?_;refine wB ?_;exact aY (iJ g d k id s a M R) rfl zE ⟨rfl,rfl⟩
 (refine tF 0 ?_;refine tL 1 ?_;refine tM 2 ?_;refine tN 3 ?_;refine tF 4 ?_;refine tF 5 ?_;refine tL 6 ?_;refine tk 7 (.bool false) rfl (cD.no (cD.neq rfl rfl) zn) ?_;refine tM 8 ?_;refine dt 9 _ rfl (ba rfl) ?_;refine dt 10 _ rfl (bp rfl zR) ?_;refine dt 11 _ rfl (ba rfl) ?_;refine dt 12 _ rfl (bp rfl zR) ?_;refine dt 13 (.bool false) rfl (cD.no (cD.neq rfl rfl) zn) ?_;refine tk 14 _ rfl (bI rfl rfl) ?_;refine tM 15 ?_;refine dt 16 _ rfl (cD.dy rfl zA zX) ?_;refine dt 17 _ rfl (bu rfl) ?_;refine dt 18 _ rfl (bn rfl) ?_;refine dt 19 _ rfl (ba rfl) ?_;refine dt 20 _ rfl (ba rfl) ?_;refine dt 21 _ rfl (bp rfl zR) ?_;refine dt 22 _ rfl (ba rfl) ?_;refine dt 23 _ rfl (bp rfl zR) ?_)
 refine A.rv 24 rfl rfl zK ?_;refine bg rfl rfl (y8 _ e (n:Int) (m:Int) (.slice rP ts.length cp) a.vr vr ts s.c.root c.root zo zo (hv.cL zE) (fun x hx=>(ht x hx).cL zE) (ha.root.cL (cG zP)) (hr.cL zE)) ?_;rintro _ _ ⟨rfl,rfl⟩;refine ⟨fun _=>zE,A.fS zE ?_⟩
 by_cases h5:ph n m ts s.c.root c.root
 ·have hE:s.jq c n m ts=0:=by rw [Pj,aI ⟨h3,h4,h5⟩]
  rw [hE,ay h5]
  (refine dt 25 _ rfl (cD.jZ rfl) ?_;refine tk 26 _ rfl (bI rfl rfl) ?_;refine tA 27 ?_)
  refine bf zK ?_;refine wB ?_;exact aY (iJ g d k id s a M R) rfl zE ⟨rfl,rfl⟩
 ·have hE:s.jq c n m ts=31:=by rw [Pj,aB (fun q=>h5 q.2.2)]
  rw [hE,aq h5]
  (refine dt 25 _ rfl (cD.p8 rfl) ?_;refine tk 26 _ rfl (bI rfl rfl) ?_;refine tA 27 ?_)
  refine bf zK ?_;refine wB ?_;exact aY (iJ g d k id s a M R) rfl zE ⟨rfl,rfl⟩
end Go.Proofs
namespace Go.Bs
theorem cD.So {P:Program} {N:Fr} {ty:TypeId} {σ:Env} {e:World} {L:List cJ} {x:Operand} {t:TypeId} {f n off:Nat} {cs ds:List Value} (hr:∀ w (cs:Array Value),(Instr.field t (.agg cs) f).run P w=.ok (.agg (cs.extract off (off+n))) w) (h:ev σ x=some (.agg cs.toArray)) (hd:(cs.drop off).take n=ds) :
 cD P N (.field t x f) ty (.agg ds.toArray) σ e L:=fun a w ha _ _ _ _ _=>by
 subst hd;have h2:=hr w cs.toArray
 simp [execOp,ha.ev h,h2]
end Go.Bs
namespace Go.Proofs
open Go.Bs
attribute [local irreducible] Bs.cD Bs.Do Bs.O Bs.W Bs.Fin Bs.A Bs.Ct Bs.cE Bs.Rd Bs.Sat Bs.cK Bs.Ob Bs.dE Bs.View Bs.cz Bs.Ex Bs.dI Bs.Pu Bs.eY Bs.dN Bs.dZ
theorem Pk:∀ w (cs:Array Value),(Instr.field 87 (.agg cs) 0).run Tryz.prog w=.ok (.agg (cs.extract 0 (0+2))) w:=fun w cs=>by
 simp [Instr.field,Tryz.runUnderlying87,asAgg,part,Tryz.isAgg83,Tryz.sizeOf83]
def eP.grow (s:eP) (c:jc):eP:=if s.c.size<c.size then { s with recs:=s.recs++[c],some:=false } else s
def eP.cos (seed:du) (id:Nat) (s:eP):eP × Bool:=if s.some=true then (s,true) else if s.keys<16 then ({ s with keys:=s.keys+1,dC:=Bj seed s.keys id s.c,some:=true },true) else (s,false)
def eP.y9 (seed log:du) (id:Nat) (s:eP) (x:jV) (n m:Nat) (ts:List ej):Int:=if ¬ x.ii log then 30 else if s.jq x.dc n m ts≠0 then s.jq x.dc n m ts else if ((s.grow x.dc).cos seed id).2=true then 0 else 23
def eP.xk (seed log:du) (id:Nat) (s:eP) (x:jV) (n m:Nat) (ts:List ej):eP:=if ¬ x.ii log then s else if s.jq x.dc n m ts≠0 then s else ((s.grow x.dc).cos seed id).1
theorem eP.M7 (s:eP) (c:jc) (b:Bool):eP.c { s with recs:=s.recs++[c],some:=b }=c:=by simp [eP.c]
theorem eP.Sp {s:eP} {c:jc} {n m:Nat} {ts:List ej} (h:s.jq c n m ts=0):(s.grow c).c=c:=by
 unfold eP.grow
 split
 ·exact eP.M7 s c false
 ·rename_i h1;unfold eP.jq at h
  by_cases h2:c.size<s.c.size
  ·rw [aI h2] at h;cases h
  ·rw [aB h2,aI zo] at h
   by_cases h3:c=s.c
   ·exact h3.symm
   ·rw [aB h3] at h;cases h
theorem eP.xF {s:eP} {c:jc} (h:s.ok) (hc:c.right):(s.grow c).ok:=by
 unfold eP.grow
 split
 ·rename_i h1;refine ⟨fun x hx=>?_,?_,fun x hx=>?_,h.keys,h.fits⟩
  ·rcases aJ.1 hx with hx|hx
   ·exact h.right x hx
   ·rw [an.1 hx];exact hc
  ·show ((s.recs++[c]).map (·.size)).Pairwise (·<·)
   rw [ah];refine List.pairwise_append.2 ⟨h.At,by simp,fun a ha b hb=>?_⟩;obtain ⟨y,hy,rfl⟩:=aE.1 ha;rw [List.map_cons,List.map_nil,an] at hb
   subst hb;refine Nat.lt_of_le_of_lt ?_ h1;unfold eP.c
   cases hl:s.recs.getLast? with
   | none=>rw [List.getLast?_eq_none_iff] at hl;rw [hl] at hy;cases hy
   | some z =>
    obtain ⟨A,hA⟩:=List.getLast?_eq_some_iff.1 hl;have hr:=h.At;rw [hA,ah] at hr
    rw [hA] at hy
    rcases aJ.1 hy with hy|hy
    ·exact Nat.le_of_lt ((List.pairwise_append.1 hr).2.2 _ (aE.2 ⟨y,hy,rfl⟩) _ (aE.2 ⟨z,an.2 rfl,rfl⟩))
    ·rw [an.1 hy];exact aS _
  ·rcases aJ.1 hx with hx|hx
   ·exact h.pos x hx
   ·rw [an.1 hx];omega
 ·exact h
abbrev aaU:Value:=.agg (iA gY nY nY).toArray
theorem CM (R:List cJ) (e:World) (g d k id:Nat) (seed log:du) (s:eP) (vr vp vq vg:Value) (x:jV) (n m:Nat) (ts:List ej) (hx:fj R vr vp vq x) (hc:x.dc.right) (hf:x.sig.fits) (Xx:id<4) (hn:n≤1000000) (hm:m≤1000000) (hv:cE R 1 vg ts.length (ts.map (·.1))) (ht:dQ R ts) (ln:s.recs.length≤1000) :
 Ct Tryz.prog 46 #[pt g,.agg (dS x vr vp vq).toArray,.agg #[.int .i64 (n:Int),.int .i64 (m:Int),vg]] e (nD g d k id seed log s::R) (fun v' L'=>(s.y9 seed log id x n m ts=0→∃ (N:cJ) (up uq:Value),v'=.tuple #[.agg (iA (s.xk seed log id x n m ts).dC up uq).toArray,.int .i64 0]∧fL [N] up uq (s.xk seed log id x n m ts).dC.sig∧L'=N::nD g d k id seed log (s.xk seed log id x n m ts)::R)∧(s.y9 seed log id x n m ts≠0→v'=.tuple #[aaU,.int .i64 (s.y9 seed log id x n m ts)]∧L'=nD g d k id seed log (s.xk seed log id x n m ts)::R)):=by
 refine IY fun a M ha=>?_
 have Sj:=eP.uz ha.st;have TV:=hx;obtain ⟨x1,x2,x3⟩:=TV;have mU:cz (iJ g d k id s a M R) R:=zE;refine a7 (cn (x1.cL mU)) fun o1=>?_
 refine a7 (x2.cL mU).parts.one fun o2=>?_
 refine a7 (x2.cL mU).path.one fun o3=>?_
 refine a7 (cE.shape (hv.cL mU) zo) ?_;rintro ⟨⟨rP,cp,rfl,-,-,-,-⟩,_⟩;refine bH (args:=[_,_,_]) Tryz.func46 rfl Tryz.ntmps46 Tryz.results46 rfl ?_
 (repeat (refine wA ?_;intros))
 rename_i g4 g5 g6;refine bk (id:=1) [] (cK g4 (dS x vr vp vq) 87 (0,0)::iJ g d k id s a M R) Tryz.mixed ?_
 (refine tM 0 ?_;refine tN 1 ?_;refine tF 2 ?_;refine tL 3 ?_;refine tJ 4 ?_)
 refine tO 5 ?_;refine bg rfl rfl (kz _ e a.vl vr vp vq log x (ha.Sn.cL (cG zP)) (hx.cL zE) hc) ?_;rintro _ _ ⟨rfl,rfl⟩;refine ⟨fun _=>zE,A.fS zE ?_⟩
 by_cases pQ:x.ii log
 rotate_left
 ·have hE:s.y9 seed log id x n m ts=30:=by unfold eP.y9;rw [aI pQ]
  have hS:s.xk seed log id x n m ts=s:=by unfold eP.xk;rw [aI pQ]
  rw [hE,hS,aq pQ]
  (refine tk 6 _ rfl (cD.p8 rfl) ?_)
  refine bf zK ?_;refine wB ?_;apply br
  ·exact zV
  exact ⟨nD g d k id seed log s::R,cj (show cz _ (iJ g d k id s a M R) from zE) (vG ha),(fun h=>by cases h),fun _=>⟨rfl,rfl⟩⟩
 rw [ay pQ]
 (refine tk 6 _ rfl (cD.jZ rfl) ?_)
 refine bf zK ?_
 (repeat' first|refine Za ?_|apply Zc|apply Zd|apply Zf|refine Zh ?_|refine Zj ?_|refine YA ?_|apply YC|(apply O.df;exact rfl;exact zP;(first|(simp only [aC,Nat.add_zero,Nat.reduceAdd,List.drop_succ_cons,List.drop_zero,List.take_succ_cons,List.take_zero];done)|(simp only [aC,Nat.add_zero,Nat.reduceAdd,List.drop_succ_cons,List.drop_zero,List.take_succ_cons,List.take_zero];exact rfl));exact rfl;exact rfl))
 refine aZ rfl rfl ((E4 (cK g6 (iA gY nY nY) 96 (0,0)::cK g5 [.int .i64 (n:Int),.int .i64 (m:Int),.slice rP ts.length cp] 102 (0,0)::cK g4 (dS x vr vp vq) 87 (0,0)::R) e g d k id seed log s a M ha vr (.slice rP ts.length cp) x.dc n m ts (x1.cL zE) hc hn hm (hv.cL zE) (fun y hy=>(ht y hy).cL zE)).cL zE) ?_;rintro _ _ ⟨rfl,rfl⟩
 by_cases hg:s.jq x.dc n m ts=0
 rotate_left
 ·have hE:s.y9 seed log id x n m ts=s.jq x.dc n m ts:=by unfold eP.y9;rw [aB (fun q=>q pQ),aI hg]
  have hS:s.xk seed log id x n m ts=s:=by unfold eP.xk;rw [aB (fun q=>q pQ),aI hg]
  rw [hE,hS]
  generalize s.jq x.dc n m ts=E at *
  refine wB ?_;apply br
  ·exact zV
  exact ⟨nD g d k id seed log s::R,cj (show cz _ (iJ g d k id s a M R) from zE) (vG ha),fun h=>absurd h hg,fun _=>⟨rfl,rfl⟩⟩
 rw [hg];obtain ⟨s1,fR⟩:∃ s1:eP,s1=s.grow x.dc:=⟨_,rfl⟩
 have pT:s1.ok:=by rw [fR];exact eP.xF ha.st hc
 have wY:s1.c=x.dc:=by rw [fR];exact eP.Sp hg
 have hE:s.y9 seed log id x n m ts=if (s1.cos seed id).2=true then 0 else 23:=by unfold eP.y9;rw [aB (fun q=>q pQ),aB (fun q=>q hg),← fR]
 have hS:s.xk seed log id x n m ts=(s1.cos seed id).1:=by unfold eP.xk;rw [aB (fun q=>q pQ),aB (fun q=>q hg),← fR]
 rw [hE,hS]
 (repeat' first|refine W.pF (id:=11) (fun _:nC × cJ=>[(0,pt g),(6,pt g6),(7,.int .i64 0)]) (fun i=>cK g6 (iA gY nY nY) 96 (0,0)::iJ g d k id s1 i.1 i.2 R) (fun i=>i.1.ok i.2 seed log s1) ?_ ?_|refine Za ?_|refine Zb ?_|apply Zc|apply Zd|apply Ze|apply Zf|refine ZQ ?_|refine YA ?_|apply YC)
 rotate_left
 ·refine ⟨?_⟩
  (repeat (refine wA ?_;intros))
  refine bk (id:=6) [] (cK g4 (dS x vr vp vq) 87 (0,0)::cK g (a.cells id s) HG (0,0)::R) Tryz.mixed ?_
  by_cases Sq:s.c.size<x.dc.size
  rotate_left
  ·have Ge:s1=s:=by rw [fR];unfold eP.grow;rw [aB Sq]
   (refine tF 0 ?_;refine tF 1 ?_;refine tL 2 ?_;refine tM 3 ?_;refine tN 4 ?_;refine tF 5 ?_;refine tF 6 ?_;refine tL 7 ?_;refine tk 8 (.bool false) rfl (cD.no (cD.gtr rfl rfl) zn) ?_)
   refine bf zK ?_;refine wB ?_;rw [Ge];exact bJ (a,M) ha zS zE
  have Ge:s1={ s with recs:=s.recs++[x.dc],some:=false }:=by rw [fR];unfold eP.grow;rw [aI Sq]
  have My:=jp hc
  have xj:=kD (l:=s.recs.map recC) (n:=36) (fun r hr=>by
   obtain ⟨y,hy,rfl⟩:=aE.1 hr;rw [jp (ha.st.right y hy)];exact aS _)
  rw [ae] at xj
  obtain ⟨p1,p2,p3⟩:=add_plain (b:=s.jb) (m:=recC x.dc) (sy:=s.jb.length) (by unfold eP.jb;omega)
  (refine tF 0 ?_;refine tF 1 ?_;refine tL 2 ?_;refine tM 3 ?_;refine tN 4 ?_;refine tF 5 ?_;refine tF 6 ?_;refine tL 7 ?_;refine tk 8 (.bool true) rfl (cD.iQ (cD.gtr rfl rfl) zy) ?_)
  refine bf zK ?_;refine wB ?_;refine bk (id:=7) [8] (cK g4 (dS x vr vp vq) 87 (0,0)::cK g (a.cells id s) HG (0,0)::R) Tryz.mixed ?_
  (refine tM 0 ?_;refine tN 1 ?_;refine tF 2 ?_;refine tL 3 ?_;refine tF 4 ?_;refine tk 5 _ rfl (cD.df rfl zP zI zX) ?_)
  refine tO 6 ?_;refine bg rfl rfl (KH _ e vr x.dc (x1.cL zE) hc) ?_;rintro _ _ ⟨ux,kr,rfl,rfl⟩;refine ⟨fun _=>zE,?_⟩;have MW:=fun L:List cJ=>fun Sk:db L (.slice ux (recC x.dc).length kr) (recC x.dc)=>nZ L e a.gj d s.recs.length (nk s.jb s.jb.length) (recC x.dc) (.slice ux (recC x.dc).length kr) (uj (by unfold eP.jb;omega) (aS _)) Sk zo zo
  rw [p1,p2,p3] at MW
  refine tO 7 ?_;refine bg rfl rfl (Ct.AR zP zP (MW _ (bb zP))) ?_;rintro _ _ ⟨rfl,rfl⟩;refine ⟨fun _=>zE,?_⟩
  ((refine tO 8 ?_;refine dV (bj rfl) ?_))
  refine bf zK ?_;refine wB ?_;refine aZ rfl rfl (gQ _ e vr vp vq x (hx.cL zE) hf) ?_;rintro _ _ ⟨N,ur,up,uq,rfl,hN,rfl⟩;refine bm (cn (hN.root.cL (cG zP))) fun o4=>?_
  (repeat' first|refine Za ?_|refine Zb ?_|apply Zc|apply Zd|apply Ze|apply Zf|refine Zg ?_|refine Zh ?_|refine Zi ?_|refine Zj ?_|refine Zu ?_|refine Zy ?_|refine Zz ?_|refine ZG ?_|refine ZH ?_|refine ZI (fun _=>?_) fun _=>?_|refine ZP ?_|refine ZQ ?_|refine Ya ?_|refine Yb ?_|refine Yd ?_|refine Ye ?_|refine Yg fun _=>?_|refine Yh fun _=>?_|refine Yz ?_|refine YA ?_|apply YC|apply YE|apply YF|refine YN ?_|refine YQ ?_|refine YR ?_|(apply O.df;exact rfl;exact zP;(first|(simp only [aC,Nat.add_zero,Nat.reduceAdd,List.drop_succ_cons,List.drop_zero,List.take_succ_cons,List.take_zero];done)|(simp only [aC,Nat.add_zero,Nat.reduceAdd,List.drop_succ_cons,List.drop_zero,List.take_succ_cons,List.take_zero];exact rfl));exact rfl;exact rfl))
  refine bx _ (cD.So (n:=2) (off:=0) (cs:=dS x ur up uq) (ds:=iS x.dc ur) Pk rfl rfl) rfl ?_;refine wB ?_;have Q0:s1.some=false:=by rw [Ge]
  obtain ⟨M2,CJ⟩:∃ M2:cJ,M2=dI [M,N]:=⟨_,rfl⟩
  have eT:cz [M2] [M]:=by rw [CJ];exact cj (cT (M:=[_,_]) (L:=[])) (bh bF)
  have iI:cz [M2] [N]:=by rw [CJ];exact cj (cT (M:=[_,_]) (L:=[])) (cz.drop (bh bF))
  have Ht:nC.ok { a with vr:=ur } M2 seed log s1:=by
   refine ⟨ha.wP.cL eT,ha.Sn.cL eT,?_,?_,pT,ha.sd,ha.lg⟩
   ·rw [wY];exact hN.root.cL iI
   ·rw [Ge];exact ha.sig.cL eT
  have VP:s1.jb=s.jb++fB (recC x.dc):=by
   rw [Ge];unfold eP.jb;rw [ah,List.map_cons,List.map_nil,n8]
  have aaV:s1.recs.length=s.recs.length+1:=by rw [Ge];simp
  have QV:s1.keys=s.keys:=by rw [Ge]
  have Ud:s1.dC=s.dC:=by rw [Ge]
  refine bJ ({ a with vr:=ur },M2) Ht zS ?_;dsimp only [iJ,nC.cells];rw [VP,aaV,QV,Ud,wY,Q0,CJ];exact cj (ep (A:=M) (B:=N) zP zP) zE
 rintro ⟨a1,M1⟩ Ht;dsimp only at Ht ⊢
 have aaW:=eP.uz pT;clear ha hE hS
 (repeat' first|refine W.u2 (id:=17) (fun _:nC × cJ=>[(0,pt g),(6,pt g6),(7,.int .i64 0)]) (fun i=>cK g6 (iA gY nY nY) 96 (0,0)::iJ g d k id (s1.cos seed id).1 i.1 i.2 R) (fun i=>i.1.ok i.2 seed log (s1.cos seed id).1∧(s1.cos seed id).2=true) ?_ ?_)
 ·rintro ⟨a2,M2⟩ ⟨LH,B9⟩;dsimp only at LH ⊢
  rw [aI B9]
  (repeat' first|refine Za ?_|apply Zc|apply Zd|refine Zg ?_|refine Zh ?_|(apply O.df;exact rfl;exact zP;(first|(simp only [aC,Nat.add_zero,Nat.reduceAdd,List.drop_succ_cons,List.drop_zero,List.take_succ_cons,List.take_zero];done)|(simp only [aC,Nat.add_zero,Nat.reduceAdd,List.drop_succ_cons,List.drop_zero,List.take_succ_cons,List.take_zero];exact rfl));exact rfl;exact rfl))
  refine aZ rfl rfl (oX _ e a2.up a2.uq (s1.cos seed id).1.dC (LH.sig.cL (cG zP)) LH.st.fits) ?_;rintro _ _ ⟨N,up,uq,rfl,hN,rfl⟩;refine bm (hN.cL (cG zP)).parts.one fun o4=>?_
  refine bm (hN.cL (cG zP)).path.one fun o5=>?_
  refine wB ?_;apply br
  ·exact zV
  exact ⟨N::nD g d k id seed log (s1.cos seed id).1::R,cj (show cz _ (N::iJ g d k id (s1.cos seed id).1 a2 M2 R) from zE) (bh (vG LH)),fun _=>⟨N,up,uq,rfl,hN,rfl⟩,fun h=>absurd rfl h⟩
 refine ⟨?_⟩
 by_cases Q0:s1.some=true
 ·have M8:s1.cos seed id=(s1,true):=by unfold eP.cos;rw [aI Q0]
  rw [M8];dsimp only [iJ,nC.cells];rw [Q0];refine wB ?_;refine bJ (a1,M1) ⟨Ht,rfl⟩ zS ?_;simp only [iJ,nC.cells,Q0];exact zE
 have Sr:s1.some=false:=by simpa using Q0
 by_cases hk:s1.keys<16
 rotate_left
 ·have Ka:s1.keys=16:=by have:=pT.keys;omega
  have M8:s1.cos seed id=(s1,false):=by unfold eP.cos;rw [aB Q0,aB hk]
  rw [M8];have ft:=wL (cK g6 (iA gY nY nY) 96 (0,0)::cK g (a1.cells id s1) HG (0,0)::M1::jd a1.gj d s1.recs.length::de d (dx s1.jb)::R) e a1.gb a1.gk k 1048576 zo zo;rw [← Ka] at ft
  dsimp only [iJ,nC.cells] at ft ⊢
  rw [Sr] at ft ⊢
  refine wB ?_;refine aZ rfl rfl (ft.cL zE) ?_;rintro _ _ ⟨rfl,rfl⟩;refine wB ?_;apply br
  ·exact zV
  refine ⟨nD g d k id seed log s1::R,cj ?_ (vG Ht),(fun h=>by simp at h),fun _=>⟨rfl,rfl⟩⟩;simp only [iJ,nC.cells,Sr];exact zE
 have M8:s1.cos seed id=({ s1 with keys:=s1.keys+1,dC:=Bj seed s1.keys id s1.c,some:=true },true):=by unfold eP.cos;rw [aB Q0,aI hk]
 rw [M8];have ft:=wK (cK g6 (iA gY nY nY) 96 (0,0)::cK g (a1.cells id s1) HG (0,0)::M1::jd a1.gj d s1.recs.length::de d (dx s1.jb)::R) e a1.gb a1.gk k s1.keys 1048576 hk zo zo;dsimp only [iJ,nC.cells] at ft ⊢
 rw [Sr] at ft ⊢
 refine wB ?_;refine aZ rfl rfl (ft.cL zE) ?_;rintro _ _ ⟨rfl,rfl⟩;refine wB ?_;refine W.fe [(0,pt g),(6,pt g6),(7,.int .i64 0),(10,.int .i64 (s1.keys:Int))] zS ?_;refine bk (id:=15) [18,19,20] (cK g (a1.cells id { s1 with some:=false }) HG (0,0)::M1::R) Tryz.mixed ?_
 (refine tM 0 ?_;refine tM 1 ?_;refine tN 2 ?_;refine tF 3 ?_;refine tL 4 ?_;refine tM 5 ?_;refine tM 6 ?_;refine tN 7 ?_;refine tF 8 ?_;refine tL 9 ?_;refine tM 10 ?_;refine tN 11 ?_;refine tF 12 ?_;refine tk 13 _ rfl (cD.df rfl zP zI zX) ?_)
 refine tO 14 ?_;refine bg rfl rfl (G2 _ e a1.vs a1.vr seed s1.keys id s1.c (Ht.wP.cL (cG zP)) Ht.sd hk Xx (Ht.root.cL (cG zP)) aaW) ?_;rintro _ _ ⟨N,up,uq,rfl,hN,rfl⟩;refine ⟨fun _=>zE,?_⟩;refine A.cB (hN.cL (cG zP)).parts.one fun o4=>?_
 refine A.cB (hN.cL (cG zP)).path.one fun o5=>?_
 refine tM 15 ?_;refine tk 16 _ rfl (bl rfl rfl) ?_;have eT:cz [dI [M1,N]] [M1]:=cj (cT (M:=[_,_]) (L:=[])) (bh bF);have iI:cz [dI [M1,N]] [N]:=cj (cT (M:=[_,_]) (L:=[])) (cz.drop (bh bF))
 have er:nC.ok { a1 with up:=up,uq:=uq } (dI [M1,N]) seed log { s1 with keys:=s1.keys+1,dC:=Bj seed s1.keys id s1.c,some:=true } :=
  ⟨Ht.wP.cL eT,Ht.Sn.cL eT,Ht.root.cL eT,hN.cL iI,⟨pT.right,pT.At,pT.pos,hk,(j6 hk).fits⟩,Ht.sd,Ht.lg⟩
 refine A.two 17 18 rfl rfl rfl rfl zK ?_ ?_
 ·refine bN (bl rfl rfl) rfl ⟨fun _=>zE,?_⟩;refine tO 18 ?_;refine dV (bn rfl) ?_;refine tO 19 ?_;refine dV (ba rfl) ?_;refine tO 20 ?_;refine Do.ek rfl rfl rfl zO zU zW ⟨zN,?_⟩;refine bf zK ?_;refine wB ?_;refine bJ ({ a1 with up:=up,uq:=uq },dI [M1,N]) ⟨er,rfl⟩ zS ?_;exact cj (ep (A:=M1) (B:=N) zP zP) zE
 ·refine dV (bn rfl) ?_;refine A.two 17 19 rfl rfl rfl rfl zK ?_ ?_
  ·refine bN (bl rfl rfl) rfl ⟨zN,?_⟩;refine tO 19 ?_;refine dV (ba rfl) ?_;refine tO 20 ?_;refine Do.ek rfl rfl rfl zO zU zW ⟨zN,?_⟩;refine bf zK ?_;refine wB ?_;refine bJ ({ a1 with up:=up,uq:=uq },dI [M1,N]) ⟨er,rfl⟩ zS ?_;exact cj (ep (A:=M1) (B:=N) zP zP) zE
  ·refine dV (ba rfl) ?_;refine A.two 17 20 rfl rfl rfl rfl zK ?_ ?_
   ·refine bN (bl rfl rfl) rfl ⟨zN,?_⟩;refine tO 20 ?_;refine Do.ek rfl rfl rfl zO zU zW ⟨zN,?_⟩;refine bf zK ?_;refine wB ?_;refine bJ ({ a1 with up:=up,uq:=uq },dI [M1,N]) ⟨er,rfl⟩ zS ?_;exact cj (ep (A:=M1) (B:=N) zP zP) zE
   ·refine Do.ek rfl rfl rfl zO zU zW ⟨zN,?_⟩;refine tO 17 ?_;refine bN (bl rfl rfl) rfl ⟨zN,?_⟩;refine bf zK ?_;refine wB ?_;refine bJ ({ a1 with up:=up,uq:=uq },dI [M1,N]) ⟨er,rfl⟩ zS ?_;exact cj (ep (A:=M1) (B:=N) zP zP) zE
end Go.Proofs
namespace Go.Proofs
attribute [local irreducible] Bs.cD Bs.Do Bs.O Bs.W Bs.Fin Bs.A Bs.Ct Bs.cE Bs.Rd Bs.Sat Bs.cK Bs.Ob Bs.dE Bs.View Bs.cz Bs.Ex Bs.dI Bs.Pu Bs.eY Bs.dN Bs.dZ
open Go.Bs
open Tryz
def CN (l:List jc):jc:=l.getLast?.getD Sm
theorem KI (l:List jc) (c:jc):CN (l++[c])=c:=by simp [CN]
theorem HH {l:List jc} (h:∀ c∈l,c.right):(CN l).right:=by
 unfold CN
 cases hl:l.getLast? with
 | none=>exact ⟨aH _,jT _⟩
 | some c=>exact h c (List.mem_of_getLast? hl)
theorem Pl {l:List jc} {c:jc} (h:((l++[c]).map (·.size)).Pairwise (·<·)) (h0:0<c.size):(CN l).size<c.size:=by
 unfold CN
 cases hl:l.getLast? with
 | none=>exact h0
 | some z =>
  obtain ⟨A,hA⟩:=List.getLast?_eq_some_iff.1 hl;rw [ah] at h
  exact (List.pairwise_append.1 h).2.2 _ (aE.2 ⟨z,List.mem_of_getLast? hl,rfl⟩) _ (by simp)
theorem re:gY.sig.fits:=⟨fun x hx=>absurd hx aP,fun x hx=>absurd hx aP⟩
theorem CO (L:List cJ):fL L nY nY gY.sig :=
 ⟨⟨[],rfl,cE.nil _ _,fun x hx=>absurd hx aP⟩,⟨[],rfl,cE.nil _ _,fun x hx=>absurd hx aP⟩,⟨by decide,by decide,by decide⟩⟩
theorem rf {L R R' R2 R3:List cJ} {A B C D:cJ} (p:cR L A R) (q:cR R B R') (r:cR R' C R2) (u:cR R2 D R3):cz L (dI [A,B,C,D]::R3):=cj p.out (cj (bh (cj q.out (bh (cj r.out (bh u.out))))) (dR (M:=[A,B,C,D])))
theorem HI (R:List cJ) (e:World) (d k id:Nat) (v u:Value) (seed log:du) (s:eP) (hv:db R v seed) (hu:db R u log) (JY:seed.length=32) (Ga:log.length=32) (Xx:id<4) (hs:s.ok) (ln:s.recs.length≤1000) :
 Ct prog 234 #[pt d,pt k,.int .i64 (id:Int),v,u] e (de d (dx s.jb)::de k (eo s.keys 1048576)::R) (fun v' L'=>∃ g,v'=.tuple #[pt g,.int .i64 0]∧L'=nD g d k id seed log { s with dC:=gY,some:=false }::R):=by
 have hsk:=hs.keys
 have xj:=kD (l:=s.recs.map recC) (n:=36) (fun r hr=>by
  obtain ⟨y,hy,rfl⟩:=aE.1 hr;rw [jp (hs.right y hy)];exact aS _)
 rw [ae] at xj
 have Hw:∀ m∈s.recs.map recC,m.length≤65535:=fun m hm=>by
  obtain ⟨y,hy,rfl⟩:=aE.1 hm;rw [jp (hs.right y hy)]
  decide
 have EM:=n9 (s.recs.map recC) Hw;have mU:cz (de d (dx s.jb)::de k (eo s.keys 1048576)::R) R:=zE;refine a7 (cE.shape (hv.cL mU) zo) ?_;rintro ⟨⟨av,cv,rfl,-,-,-,-⟩,_⟩;refine a7 (cE.shape (hu.cL mU) zo) ?_;rintro ⟨⟨au,cu,rfl,-,-,-,-⟩,_⟩;refine a8 (args:=[_,_,_,_,_]) func234 rfl ntmps234 results234 rfl ?_;refine wB ?_;refine aZ rfl rfl (Ct.at (.succ .zero) (wJ _ e k s.keys 1048576 hsk zo zo)) ?_;rintro _ _ ⟨gb,gk,rfl,rfl⟩;refine wB ?_;refine aZ rfl rfl (Ct.at (.succ (.succ (.succ .zero))) (nj _ e d s.jb (by unfold eP.jb;omega))) ?_;rintro _ _ (⟨h1,-⟩|⟨-,gj,ux,cr,ts,rfl,fy,rfl⟩)
 ·rw [show dA s.jb=dA (eV (s.recs.map recC)) from rfl,EM] at h1;cases h1
 rw [show dA s.jb=dA (eV (s.recs.map recC)) from rfl,EM] at fy ⊢
 rw [show s.jb.take (eV (s.recs.map recC)).length=s.jb from List.take_length];dsimp only at fy
 have oH:ts.length=s.recs.length:=by have:=congrArg List.length fy;rw [ae,ae] at this;exact this
 refine wB ?_;refine aZ rfl rfl (dw _ e _ seed (hv.cL zE) zo) ?_;rintro _ _ ⟨Ad,cs,rfl,rfl⟩
 (repeat (refine wA ?_;intros))
 refine aZ rfl rfl (dw _ e _ log (hu.cL zE) zo) ?_;rintro _ _ ⟨xl,cl,rfl,rfl⟩
 (repeat (refine wA ?_;intros))
 refine aZ rfl rfl (l8 _ e _ seed (hv.cL zE) JY) ?_;rintro vp _ ⟨Mp,rfl,Gg⟩;refine bm (cE.shape (Gg.cL (cG zP)) zo) ?_;rintro ⟨⟨rP,cp,rfl,-,-,-,-⟩,_⟩
 (repeat' first|refine Za ?_|refine Zb ?_|apply Zc|apply Zd|apply Ze|apply Zf|refine Zg ?_|refine Zh ?_|refine Zi ?_|refine Zj ?_|refine Zk ?_|refine Zl ?_|refine Zm ?_|refine Zn ?_|refine Zo ?_|refine Zu ?_|refine Zy ?_|refine Zz ?_|refine ZA ?_|refine ZB ?_|refine ZC (fun _=>?_) fun _=>?_|refine ZD ?_|refine ZE ?_|refine ZJ ?_|refine ZK ?_|refine ZP ?_|refine ZQ ?_|refine ZS ?_|refine ZY ?_|refine ZZ ?_|refine Z6 ?_|refine Ya ?_|refine Yb ?_|refine Yd ?_|refine Ye ?_|refine Yf ?_|refine Yg fun _=>?_|refine Yh fun _=>?_|refine Ym ?_|refine Yw ?_|refine Yx ?_|refine Yy ?_|refine Yz ?_|refine YA ?_|apply YB|apply YC|apply YD|apply YE|apply YF|apply YG|apply YH|apply YI|apply YJ|refine YK ?_|refine YN ?_|refine YQ ?_|refine YR ?_|(apply O.df;exact rfl;exact zP;(first|(simp only [aC,Nat.add_zero,Nat.reduceAdd,List.drop_succ_cons,List.drop_zero,List.take_succ_cons,List.take_zero];done)|(simp only [aC,Nat.add_zero,Nat.reduceAdd,List.drop_succ_cons,List.drop_zero,List.take_succ_cons,List.take_zero];exact rfl));exact rfl;exact rfl))
 refine aZ rfl rfl (tK _ e nY [] (cE.nil _ _) (by decide)) ?_;rintro _ _ ⟨MA,c0,rfl,rfl⟩;have tH:=jT [];have hc0:CN []=⟨0,sh []⟩:=rfl
 generalize sh []=VU at *
 (repeat (refine wA ?_;intros))
 rename_i g0;refine bq (ι:=Nat × jc × Option Addr × Nat) (fun i=>[(16,pt g0),(67,.slice ux ts.length cr),(68,.int .i64 (ts.length:Int)),(69,.int .i64 (i.1:Int))]) (fun j=>(fun i:jc × Option Addr × Nat=>cK g0 [pt gj,pt gb,.int .i64 (id:Int),.slice Ad seed.length cs,.slice xl log.length cl,.slice rP (kN seed).length cp,.int .i64 (i.1.size:Int),.slice i.2.1 i.1.root.length i.2.2,.int .i64 0,.int .i64 0,nY,nY,.bool false] HG (0,0)::cS (.slice i.2.1 i.1.root.length i.2.2) i.1.root::cH ts::cV (.slice ux ts.length cr) ts::cS (.slice Ad seed.length cs) seed::cS (.slice xl log.length cl) log::Mp::jd gj d ts.length::de d (dx s.jb)::lF gb gk s.keys::jd gk k s.keys::de k (eo s.keys 1048576)::R) j.2) (fun i=>i.1≤ts.length∧i.2.1=CN (s.recs.take i.1)) (fun i=>ts.length - i.1) (0,⟨0,VU⟩,MA,c0) ⟨aH _,by rw [List.take_zero];exact hc0.symm⟩ zS zE ?_;rintro ⟨i,c,adc,kc⟩ ⟨hi,HJ⟩;dsimp only at hi HJ ⊢
 have Gf:c.right:=by rw [HJ];exact HH (fun x hx=>hs.right x (aR hx))
 have afd:=Gf.1;have aaM:=Gf.2
 by_cases cO:i<ts.length
 rotate_left
 ·rw [aG zo] at HJ
  obtain ⟨M,hM⟩:∃ M:cJ,M=dI [cS (.slice adc c.root.length kc) c.root,cS (.slice Ad seed.length cs) seed,cS (.slice xl log.length cl) log,Mp]:=⟨_,rfl⟩
  have ho:cz [M] [cS (.slice adc c.root.length kc) c.root,cS (.slice Ad seed.length cs) seed,cS (.slice xl log.length cl) log,Mp]:=by rw [hM];exact cT (M:=[_,_,_,_]) (L:=[])
  have Sj:eP.c { s with dC:=gY,some:=false }=c:=HJ.symm
  have j1:nC.ok ⟨gj,gb,gk,.slice Ad seed.length cs,.slice xl log.length cl,.slice rP (kN seed).length cp,.slice adc c.root.length kc,nY,nY⟩ M seed log { s with dC:=gY,some:=false } :=
   ⟨(bb zP).cL ho,(bb zP).cL ho,by rw [Sj];exact (bb .zero).cL ho,CO _,⟨hs.right,hs.At,hs.pos,hs.keys,re⟩,JY,Ga⟩
  refine wB ?_;refine aY (nD g0 d k id seed log { s with dC:=gY,some:=false }::R) rfl (cj ?_ (vG j1)) ⟨g0,rfl,rfl⟩;dsimp only [iJ,nC.cells];rw [Sj,hM,← oH];exact cj (rf (A:=cS (.slice adc c.root.length kc) c.root) (B:=cS (.slice Ad seed.length cs) seed) (C:=cS (.slice xl log.length cl) log) (D:=Mp) zP zP zP zP) zE
 have pc:i<s.recs.length:=by omega
 have jt:(ts[i]'cO).2=recC (s.recs[i]'pc):=by
  have:=congrArg (fun l=>l[i]?) fy;simp only [aL,ab cO,ab pc,Option.map_some,Option.some.injEq] at this
  exact this
 have ft:s.recs.take (i+1)=s.recs.take i++[s.recs[i]'pc]:=aD pc;have Kx:=hs.right _ (aA pc);have Oi:=hs.pos _ (aA pc)
 have Cd:c.size<(s.recs[i]'pc).size:=by
  rw [HJ];refine Pl ?_ Oi;rw [← ft];exact hs.At.sublist ((List.take_sublist _ _).map _)
 have hcn:CN (s.recs.take (i+1))=s.recs[i]'pc:=by rw [ft,KI]
 refine W.cB ((bb (show cR _ (cV (.slice ux ts.length cr) ts) _ from zP)).shape zo) ?_;rintro ⟨⟨lM,c',lU,wH,IX,Ap,uW⟩,_⟩
 cases lU
 simp only [maxLen] at IX
 rcases uW with uW|⟨gr,or',rfl⟩
 ·omega
 have jw:∀ L R',cR L (cV (.slice (some ⟨gr,or',none⟩) ts.length cr) ts) R'→Rd L ⟨gr,or'+i,none⟩ (ts[i]'cO).1:=fun L R' p=>(bb p).elem (by rw [aL,ab cO];rfl)
 have sf:∀ L R',cR L (cH ts) R'→db L (ts[i]'cO).1 (ts[i]'cO).2:=fun L R' p=>dQ.dY p _ (aA cO)
 generalize s.recs[i]'pc=n at *
 generalize ts[i]'cO=y at *
 obtain ⟨yv,b⟩:=y;dsimp only at jw sf jt
 subst jt;have AX:=Kx.1;have F9:=Kx.2;have nK:(recC n).length=36:=jp Kx;have Hc:recC n=be n.size 4++(n.root++[]):=by simp [recC]
 refine W.cB (cn (sf _ _ zP)) fun oy=>?_
 refine wB ?_;refine bV rfl (jw _ _ zP) rfl ?_;refine wB ?_;refine aZ rfl rfl (jv _ e yv (recC n) (sf _ _ zP) zo) ?_;rintro _ _ ⟨gr2,rfl,rfl⟩;rw [Hc];refine wB ?_;refine aZ rfl rfl (tD _ e gr2 n.size _ zo) ?_;rintro _ _ ⟨rfl,rfl⟩;refine wB ?_;have aaY:=fun L:List cJ=>ya L e gr2 32 n.root [] F9 (by rw [aK];omega)
 refine aZ rfl rfl (aaY _) ?_;rintro _ _ ⟨adn,kn,rfl,rfl⟩
 (repeat (refine wA ?_;intros))
 refine bz (id:=15) [] mixed ?_
 (refine tM 0 ?_)
 refine tO 1 ?_;refine bg rfl rfl (Ct.at zP (yc _ e gr2 [])) ?_;rintro _ _ ⟨rfl,rfl⟩;refine ⟨fun _=>zE,A.fS zE ?_⟩;rw [ay rfl]
 (refine tk 2 _ rfl (cD.jZ rfl) ?_;refine tM 3 ?_;refine dt 4 _ rfl (cD.dy rfl zA zX) ?_)
 refine A.rv 5 rfl rfl zK ?_;refine bg rfl rfl (gH _ e (.slice adn n.root.length kn) n (bb zP)) ?_;rintro _ _ ⟨rfl,rfl⟩;refine ⟨fun _=>zE,A.fS zE ?_⟩;rw [ay Kx]
 (refine dt 6 _ rfl (cD.jZ rfl) ?_;refine tk 7 _ rfl (bI rfl rfl) ?_;refine tM 8 ?_;refine dt 9 _ rfl (ba rfl) ?_;refine dt 10 _ rfl (bp rfl zR) ?_;refine dt 11 _ rfl (bu rfl) ?_;refine dt 12 _ rfl (bn rfl) ?_;refine dt 13 _ rfl (ba rfl) ?_;refine dt 14 _ rfl (ba rfl) ?_;refine dt 15 _ rfl (bp rfl zR) ?_;refine dt 16 (.bool false) rfl (cD.no (cD.leq rfl rfl) zn) ?_;refine tk 17 _ rfl (bI rfl rfl) ?_)
 refine bf zK ?_;refine wB ?_;refine bi (i+1,n,adn,kn) ⟨cO,hcn.symm⟩ zd zS zE
end Go.Proofs
namespace Go.Proofs
structure AE where
 jC:Nat
 ord:Nat
 il:Nat
 deriving DecidableEq
def kg:AE:=⟨0,0,0⟩
def AE.lt (a b:AE):Bool:=decide (a.jC<b.jC∨(a.jC=b.jC∧a.ord<b.ord))
def AE.fits (a:AE):Prop:=a.jC≤1000000000∧a.ord≤1000000000∧a.il≤1000000000
def gK (l:List AE) (i j:Nat):List AE:=(l.set i (l.getD j kg)).set j (l.getD i kg)
theorem dH (l:List AE) (i j:Nat):(gK l i j).length=l.length:=by simp [gK]
def Oo:Nat→List AE→Nat→List AE
 | 0,l,_=>l
 | n+1,l,j=>if j=0 then l else if (l.getD j kg).lt (l.getD ((j - 1) / 2) kg) then Oo n (gK l ((j - 1) / 2) j) ((j - 1) / 2) else l
def za (l:List AE) (i n:Nat):Nat:=if 2*i+2<n∧(l.getD (2*i+2) kg).lt (l.getD (2*i+1) kg)=true then 2*i+2 else 2*i+1
def lI:Nat→List AE→Nat→Nat→List AE
 | 0,l,_,_=>l
 | f+1,l,i,n=>if n≤2*i+1 then l else if (l.getD (za l i n) kg).lt (l.getD i kg) then lI f (gK l i (za l i n)) (za l i n) n else l
def uA:Nat→List AE→List AE
 | 0,l=>l
 | k+1,l=>uA k (lI l.length l k l.length)
def pK (l:List AE) (a:AE):List AE:=Oo l.length (l++[a]) l.length
def pU (l:List AE):List AE:=(lI (l.length - 1) (gK l 0 (l.length - 1)) 0 (l.length - 1)).take (l.length - 1)
def gL (l:List AE) (w:Nat):List AE:=uA ((l.filter fun a=>decide (a.il≠w)).length / 2) (l.filter fun a=>decide (a.il≠w))
theorem M9 {α:Type} [DecidableEq α]:∀ (l:List α) (i j:Nat) (hi:i<l.length) (hj:j<l.length),((l.set i l[j]).set j l[i]).Perm l:=fun l i j hi hj=>by
 rw [List.perm_iff_count];intro a
 by_cases h:i=j
 ·subst h;simp
 ·rw [List.count_set (by simpa using hj),List.count_set hi];have h1:(l.set i l[j])[j]'(by simpa using hj)=l[j]:=by simp [List.getElem_set,h]
  rw [h1];have c1:0<List.count l[i] l:=List.count_pos_iff.2 (aA hi);have c2:0<List.count l[j] l:=List.count_pos_iff.2 (aA hj)
  by_cases e1:l[i]=a
  ·by_cases e2:l[j]=a
   ·simp only [e1,e2,beq_self_eq_true,if_true] at c1 c2 ⊢;omega
   ·have e2':(l[j] == a)=false:=by simpa using e2
    simp only [e1,e2',beq_self_eq_true,if_true,Bool.false_eq_true,if_false] at c1 c2 ⊢;omega
  ·have e1':(l[i] == a)=false:=by simpa using e1
   by_cases e2:l[j]=a
   ·simp only [e1',e2,beq_self_eq_true,if_true,Bool.false_eq_true,if_false] at c1 c2 ⊢;omega
   ·have e2':(l[j] == a)=false:=by simpa using e2
    simp only [e1',e2',Bool.false_eq_true,if_false] at c1 c2 ⊢;omega
theorem la {l:List AE} {i j:Nat} (hi:i<l.length) (hj:j<l.length):(gK l i j).Perm l:=by
 have h1:l.getD j kg=l[j]:=by simp [List.getD,hj]
 have h2:l.getD i kg=l[i]:=by simp [List.getD,hi]
 unfold gK;rw [h1,h2];exact M9 l i j hi hj
theorem E5:∀ (n:Nat) (l:List AE) (j:Nat),j<l.length→(Oo n l j).Perm l
 | 0,_,_,_=>List.Perm.refl _
 | n+1,l,j,h=>by
  unfold Oo
  split
  ·exact List.Perm.refl _
  ·split
   ·exact (E5 n _ _ (by rw [dH];omega)).trans (la (by omega) h)
   ·exact List.Perm.refl _
theorem CP {l:List AE} {i n:Nat} (h:2*i+1<n):za l i n<n∧i<za l i n:=by
 unfold za
 split<;>omega
theorem mY:∀ (f:Nat) (l:List AE) (i n:Nat),i<l.length→n≤l.length→(lI f l i n).Perm l
 | 0,_,_,_,_,_=>List.Perm.refl _
 | f+1,l,i,n,h,hn=>by
  unfold lI
  split
  ·exact List.Perm.refl _
  ·rename_i h1;obtain ⟨h2,h3⟩:=CP (l:=l) (i:=i) (n:=n) (by omega)
   split
   ·exact (mY f _ _ _ (by rw [dH];omega) (by rw [dH];exact hn)).trans (la h (by omega))
   ·exact List.Perm.refl _
theorem sD:∀ (k:Nat) (l:List AE),k≤l.length→(uA k l).Perm l
 | 0,_,_=>List.Perm.refl _
 | k+1,l,h=>by
  unfold uA;have h1:=mY l.length l k l.length (by omega) (aS _);exact (sD k _ (by rw [h1.length_eq];omega)).trans h1
theorem zc (l:List AE) (a:AE):(pK l a).Perm (l++[a]):=E5 _ _ _ (by simp)
theorem jy (l:List AE) (w:Nat):(gL l w).Perm (l.filter fun a=>decide (a.il≠w)):=sD _ _ (by omega)
theorem ze:∀ (f:Nat) (l:List AE) (i n k:Nat),i<l.length→n≤l.length→i<n∨n≤2*i+1→n≤k→(lI f l i n).getD k kg=l.getD k kg
 | 0,_,_,_,_,_,_,_,_=>rfl
 | f+1,l,i,n,k,h,hn,hi,hk=>by
  unfold lI
  split
  ·rfl
  ·rename_i h1;obtain ⟨h2,h3⟩:=CP (l:=l) (i:=i) (n:=n) (by omega)
   split
   ·rw [ze f _ _ _ k (by rw [dH];omega) (by rw [dH];exact hn) (.inl h2) hk];unfold gK;rw [ax,List.getElem?_set_ne (by omega),List.getElem?_set_ne (by omega),← ax]
   ·rfl
theorem vH {l:List AE} (h:l≠[]):(l.getD 0 kg::pU l).Perm l:=by
 have hl:0<l.length:=List.length_pos_iff.2 h;have h1:=la (l:=l) (i:=0) (j:=l.length - 1) hl (by omega);have h2:=mY (l.length - 1) (gK l 0 (l.length - 1)) 0 (l.length - 1) (by rw [dH];exact hl) (by rw [dH];omega);have h3:=ze (l.length - 1) (gK l 0 (l.length - 1)) 0 (l.length - 1) (l.length - 1) (by rw [dH];exact hl) (by rw [dH];omega) (by omega) (aS _)
 have h4:(gK l 0 (l.length - 1)).getD (l.length - 1) kg=l.getD 0 kg:=by
  unfold gK;rw [ax,List.getElem?_set_self (by simp;omega)]
  rfl
 have hlen:=(h2.trans h1).length_eq
 generalize hD:lI (l.length - 1) (gK l 0 (l.length - 1)) 0 (l.length - 1)=D at *
 have h5:D=D.take (l.length - 1)++[D.getD (l.length - 1) kg]:=by
  conv=>lhs;rw [← List.take_append_drop (l.length - 1) D]
  congr 1
  have hd:l.length - 1<D.length:=by omega
  rw [List.drop_eq_getElem_cons hd,List.drop_eq_nil_of_le (by omega)]
  simp [List.getD,hd]
 rw [h3,h4] at h5
 have h6:=h2.trans h1;rw [h5] at h6
 unfold pU;rw [hD];exact (List.perm_append_comm (l₁:=[l.getD 0 kg]) (l₂:=D.take (l.length - 1))).trans h6
theorem E6 {l:List AE} (h:l≠[]):(pU l).length+1=l.length:=by have:=(vH h).length_eq;simpa using this
end Go.Proofs
namespace Go.Proofs
open Go.Bs
structure wR where
 fi:du
 idx:Nat
 size:Nat
 path:List du
 kP:jV
 eH:List kO
def aa0:wR:=⟨[],0,0,[],⟨⟨0,[]⟩,⟨0,[],[]⟩⟩,[]⟩
structure wR.wf (b:wR):Prop where
 fi:b.fi.length≤65535
 idx:b.idx≤256
 size:b.size≤256
 DH:b.path.length≤16
 jN:∀ a∈b.path,a.length=32
 dc:b.kP.dc.right
 sig:b.kP.sig.right
 fE:b.eH.length≤255
 ew:∀ g∈b.eH,g.fY<4
 sigs:∀ g∈b.eH,g.sig.right
def lJ (gs:List kO):du:=(gs.map eU).flatten
def fT (b:wR):du:=enc b.fi++(be b.idx 4++(be b.size 4++(UInt8.ofNat b.path.length::(b.path.flatten++(hZ b.kP++(UInt8.ofNat b.eH.length::lJ b.eH))))))
def pi (idx size:Nat) (path:List du) (leaf root:du):Prop:=(path.length≤16∧∀ a∈path,a.length=32)∧leaf.length=32∧idx<size∧path.length=jl size idx∧lD size idx path leaf=root
instance (idx size:Nat) (path:List du) (leaf root:du):Decidable (pi idx size path leaf root):=by unfold pi;infer_instance
theorem HK {idx size:Nat} {ts:List ej} {leaf root:du}:(qm (idx:Int) (size:Int) ts leaf∧qn (idx:Int) (size:Int) ts leaf=root)↔pi idx size (ts.map (·.2)) leaf root:=by
 unfold qm pi qn jF;rw [decide_eq_true_iff,ae];have h1:(∀ a∈ts,a.2.length=32)↔∀ a∈ts.map (·.2),a.length=32:=⟨fun h a ha=>by obtain ⟨x,hx,rfl⟩:=aE.1 ha;exact h x hx,fun h a ha=>h _ (aE.2 ⟨a,ha,rfl⟩)⟩
 rw [h1];simp only [Int.toNat_natCast]
 constructor
 ·rintro ⟨⟨a,b,c,d,e⟩,f⟩;exact ⟨a,b,by omega,e,f⟩
 ·rintro ⟨a,b,c,e,f⟩;exact ⟨⟨a,b,by omega,by omega,e⟩,f⟩
def mg (p:jG) (b:wR):Int:=if ¬ jk b.fi then 12 else if ¬ b.kP.ii p.log then 30 else if ¬ (b.size=b.kP.dc.size∧pi b.idx b.size b.path (cY b.fi) b.kP.dc.root) then 31 else if ¬ uf p b.kP.dc b.eH then 33 else 0
abbrev sE (b:wR) (vm vp vr va vq vc:Value):List Value:=[vm,.int .i64 (b.idx:Int),.int .i64 (b.size:Int),vp,.int .i64 (b.kP.dc.size:Int),vr,.int .i64 (b.kP.sig.idx:Int),va,vq,vc]
structure rQ (L:List cJ) (vm vp vr va vq vc:Value) (b:wR):Prop where
 fi:db L vm b.fi
 path:mO L vp b.path
 kP:fj L vr va vq b.kP
 gs:oW L vc b.eH
theorem rQ.cL {L L':List cJ} {vm vp vr va vq vc:Value} {b:wR} (h:rQ L' vm vp vr va vq vc b) (f:cz L L'):rQ L vm vp vr va vq vc b:=⟨h.fi.cL f,h.path.cL f,h.kP.cL f,h.gs.cL f⟩
theorem jm.ok.cL {L L':List cJ} {t:jm} (h:jm.ok L' t) (f:cz L L'):jm.ok L t:=⟨h.rd.cL f,h.small⟩
theorem fa {l:List du} {n:Nat} (h:∀ a∈l,a.length=n):l.flatten.length=l.length*n:=by
 induction l with
 | nil=>simp
 | cons x l ih =>
  rw [List.flatten_cons,aa,h x (List.mem_cons_self ..),ih (fun a ha=>h a (aT _ ha)),aN,Nat.add_mul];omega
theorem rh {gs:List kO} (h:∀ g∈gs,g.sig.right):(lJ gs).length=gs.length*2181:=by
 unfold lJ;rw [fa (n:=2181) (fun a ha=>by obtain ⟨g,hg,rfl⟩:=aE.1 ha;exact lq (h g hg)),ae]
theorem pj {b:wR} (h:b.wf):(fT b).length≤1000000:=by
 have h1:=h.fi;have h2:=h.DH;have h3:=h.fE;unfold fT;simp only [aa,aN,cX,fa h.jN,iO h.dc h.sig,rh h.sigs,enc]
 omega
structure FW where
 size:Nat
 tries:Nat
 kept:Bool
structure cP where
 ag:List AE
 ord:Nat
 st:List FW
 cur:Option jV
 kept:List kO
 done:jV
 dk:List kO
def vI:jV:=⟨⟨0,[]⟩,⟨0,[],[]⟩⟩
def lr:FW:=⟨0,0,false⟩
def cP.dU (s:cP):jV:=s.cur.getD vI
def Au (k:Nat):cP:=⟨[],0,List.replicate k lr,none,[],vI,[]⟩
def jV.fits (x:jV):Prop:=x.dc.right∧x.sig.right
structure cP.ok (s:cP) (k n:Nat):Prop where
 len:s.st.length=k
 fits:∀ a∈s.ag,a.fits∧a.il<k
 CQ:(s.ag.map (·.il)).Nodup
 ord:s.ord≤n
 tries:∀ x∈s.st,x.tries≤n
 kR:∀ x∈s.st,x.size≤s.dU.dc.size
 cur:∀ x,s.cur=some x→x.fits
 kept:∀ g∈s.kept,g.fY<k∧g.sig.right∧(s.st.getD g.fY lr).kept=true
 zf:(s.kept.map (·.fY)).Nodup
 done:s.dk≠[]→s.done.fits
 Na:s.done.sig.fits
 dk:∀ g∈s.dk,g.fY<k∧g.sig.right
 CR:(s.dk.map (·.fY)).Nodup
def cP.Pm (s:cP) (t w:Nat):cP:={ s with ag:=pK (gL s.ag w) ⟨t,s.ord,w⟩,ord:=s.ord+1 }
def FW.off (x:FW):FW:={ x with tries:=0,kept:=false }
def cP.Ss (s:cP) (now w:Nat):cP:=cP.Pm { s with st:=s.st.set w (s.st.getD w lr).off } now w
def cP.lQ (now:Nat):Nat→cP→cP
 | 0,s=>s
 | n+1,s=>(s.lQ now n).Ss now n
def cP.E7 (p:jG) (s:cP) (x:jV):Prop:=x.ii p.log∧∀ c,s.cur=some c→¬ x.dc.size≤c.dc.size
instance (p:jG) (s:cP) (x:jV):Decidable (s.E7 p x):=by
 unfold cP.E7
 cases s.cur with
 | none=>exact decidable_of_iff (x.ii p.log) ⟨fun h=>⟨h,fun c hc=>by cases hc⟩,fun h=>h.1⟩
 | some c=>exact decidable_of_iff (x.ii p.log∧¬ x.dc.size≤c.dc.size) ⟨fun h=>⟨h.1,fun d hd=>by cases hd;exact h.2⟩,fun h=>⟨h.1,h.2 c rfl⟩⟩
def cP.ie (p:jG) (s:cP) (x:jV) (now:Nat):cP:=if s.E7 p x then cP.lQ now s.st.length { s with cur:=some x,kept:=[] } else s
def nE (now:Nat):Nat→List AE→List Nat × List AE
 | 0,l=>([],l)
 | n+1,l=>if 0<l.length∧(l.getD 0 kg).jC≤now then ((l.getD 0 kg).il::(nE now n (pU l)).1,(nE now n (pU l)).2) else ([],l)
def cP.lc (s:cP) (now:Nat):List (Nat × Nat):=(nE now s.ag.length s.ag).1.map fun w=>(w,(s.st.getD w lr).size)
def cP.zh (retry now:Nat) (s:cP) (w:Nat):cP :=
 let s2:=s.Pm (now+retry*2 ^ min (s.st.getD w lr).tries 3) w
 {s2 with st:=s2.st.set w { s2.st.getD w lr with tries:=(s2.st.getD w lr).tries+1 } }
def cP.iq (retry now:Nat):List (Nat × Nat)→cP→cP
 | [],s=>s
 | r::l,s=>iq retry now l (s.zh retry now r.1)
def cP.kH (retry:Nat) (s:cP) (now:Nat):cP:=cP.iq retry now (s.lc now) { s with ag:=(nE now s.ag.length s.ag).2 }
def cP.gT (s:cP) (w:Nat) (g:kO):cP:={ s with kept:=s.kept++[g],st:=s.st.set w { s.st.getD w lr with size:=s.dU.dc.size,kept:=true },ag:=gL s.ag w }
def cP.fe (p:jG) (s:cP) (w:Nat) (g:kO):cP:=if p.ey≤(s.kept++[g]).length then { s.gT w g with done:=s.dU,dk:=s.kept++[g] } else s.gT w g
def cP.rR (s:cP) (w:Nat):Prop:=s.cur.isSome=true∧w<s.st.length∧(s.st.getD w lr).kept=false
instance (s:cP) (w:Nat):Decidable (s.rR w):=by unfold cP.rR;infer_instance
def cP.wS (p:jG) (s:cP) (w:Nat) (g:kO):Prop:=g.fY=w∧g.ii p s.dU.dc
instance (p:jG) (s:cP) (w:Nat) (g:kO):Decidable (s.wS p w g):=by unfold cP.wS;infer_instance
def cP.turns (s:cP) (w size:Nat):Prop:=size≤s.dU.dc.size∧size≠(s.st.getD w lr).size
instance (s:cP) (w size:Nat):Decidable (s.turns w size):=by unfold cP.turns;infer_instance
def cP.Av (s:cP) (w size now:Nat):cP:=cP.Pm { s with st:=s.st.set w { s.st.getD w lr with size:=size } } now w
def cP.Aw (p:jG) (s:cP) (w:Nat) (g:kO) (size:Nat):Bool:=decide (s.rR w∧(s.wS p w g∨s.turns w size))
def cP.oo (p:jG) (s:cP) (w:Nat) (g:kO) (size now:Nat):cP:=if ¬ s.rR w then s else if s.wS p w g then s.fe p w g else if s.turns w size then s.Av w size now else s
theorem Pn {l:List AE} {t o w k:Nat} (h:∀ a∈l,a.fits∧a.il<k) (ht:t≤1000000000) (ho:o≤1000000000) (hw:w<k) (hk:k≤1000):∀ a∈pK (gL l w) ⟨t,o,w⟩,a.fits∧a.il<k:=fun a ha=>by
 have h1:=(zc (gL l w) ⟨t,o,w⟩).mem_iff.1 ha;rcases aJ.1 h1 with h1|h1
 ·exact h a (List.mem_filter.1 ((jy l w).mem_iff.1 h1)).1
 ·rw [an.1 h1];exact ⟨⟨ht,ho,by show w≤_;omega⟩,hw⟩
theorem KJ {l:List AE} {w k:Nat} (h:∀ a∈l,a.fits∧a.il<k):∀ a∈gL l w,a.fits∧a.il<k:=fun a ha=>h a (List.mem_filter.1 ((jy l w).mem_iff.1 ha)).1
theorem HL {l:List AE} {w:Nat}:(gL l w).length≤l.length:=by rw [(jy l w).length_eq];exact List.length_filter_le _ _
theorem ot:∀ (k:Nat) (l:List Nat),l.Nodup→(∀ x∈l,x<k)→l.length≤k
 | 0,l,_,h=>by
  cases l with
  | nil=>simp
  | cons a l=>exact absurd (h a (List.mem_cons_self ..)) (Nat.not_lt_zero a)
 | k+1,l,hn,h=>by
  have h1:=ot k (l.filter fun x=>decide (x≠k)) (hn.filter _) (fun x hx=>by
   obtain ⟨h2,h3⟩:=List.mem_filter.1 hx;have:=h x h2;have:=of_decide_eq_true h3
   omega)
  have h2:l.length=(l.filter fun x=>decide (x≠k)).length+(l.filter fun x=>!decide (x≠k)).length:=by
   rw [← aa,(List.filter_append_perm _ l).length_eq]
  have h3:(l.filter fun x=>!decide (x≠k)).length≤1:=by
   have h4:∀ y∈l.filter (fun x=>!decide (x≠k)),y=k:=fun y hy=>by
    have:=(List.mem_filter.1 hy).2
    simpa using this
   have h5:=hn.filter fun x=>!decide (x≠k)
   cases hq:l.filter (fun x=>!decide (x≠k)) with
   | nil=>simp
   | cons a q =>
    cases q with
    | nil=>simp
    | cons b q =>
     rw [hq] at h4 h5
     have e1:=h4 a (List.mem_cons_self ..);have e2:=h4 b (aT _ (List.mem_cons_self ..));rw [e1,e2] at h5
     simp at h5
  omega
theorem cP.ok.BJ {s:cP} {k n:Nat} (h:s.ok k n):s.ag.length≤k:=by
 have:=ot k (s.ag.map (·.il)) h.CQ (fun x hx=>by obtain ⟨a,ha,rfl⟩:=aE.1 hx;exact (h.fits a ha).2)
 rwa [ae] at this
theorem cP.ok.DH {s:cP} {k n:Nat} (h:s.ok k n):s.kept.length≤k:=by
 have:=ot k (s.kept.map (·.fY)) h.zf (fun x hx=>by obtain ⟨a,ha,rfl⟩:=aE.1 hx;exact (h.kept a ha).1)
 rwa [ae] at this
theorem cP.ok.KK {s:cP} {k n:Nat} (h:s.ok k n):s.dk.length≤k:=by
 have:=ot k (s.dk.map (·.fY)) h.CR (fun x hx=>by obtain ⟨a,ha,rfl⟩:=aE.1 hx;exact (h.dk a ha).1)
 rwa [ae] at this
theorem cP.ok.mono {s:cP} {k n m:Nat} (h:s.ok k n) (hm:n≤m):s.ok k m:={ h with ord:=Nat.le_trans h.ord hm,tries:=fun x hx=>Nat.le_trans (h.tries x hx) hm }
theorem CS (k:Nat):(Au k).ok k 0 where
 len:=List.length_replicate
 fits:=fun a ha=>absurd ha aP
 CQ:=List.nodup_nil
 ord:=aS _
 tries:=fun x hx=>by have:=(List.mem_replicate.1 hx).2;subst this;exact aS _
 kR:=fun x hx=>by have:=(List.mem_replicate.1 hx).2;subst this;exact aH _
 cur:=fun x hx=>nomatch hx
 kept:=fun g hg=>absurd hg aP
 zf:=List.nodup_nil
 done:=fun h=>absurd rfl h
 Na:=⟨fun x hx=>absurd hx aP,fun x hx=>absurd hx aP⟩
 dk:=fun g hg=>absurd hg aP
 CR:=List.nodup_nil
theorem wT {l:List AE} {w:Nat} (h:(l.map (·.il)).Nodup):((gL l w).map (·.il)).Nodup:=by
 rw [((jy l w).map _).nodup_iff];exact h.sublist (List.filter_sublist.map _)
theorem KL {l:List AE} {t o w:Nat} (h:(l.map (·.il)).Nodup):((pK (gL l w) ⟨t,o,w⟩).map (·.il)).Nodup:=by
 rw [((zc _ _).map _).nodup_iff,ah];refine List.nodup_append.2 ⟨wT h,by simp,fun a ha b hb=>?_⟩;rw [List.map_cons,List.map_nil,an] at hb
 subst hb;obtain ⟨x,hx,rfl⟩:=aE.1 ha;exact of_decide_eq_true (List.mem_filter.1 ((jy l _).mem_iff.1 hx)).2
theorem cP.CT {s:cP} {k n t w:Nat} (h:s.ok k n) (ht:t≤1000000000) (hw:w<k) (hk:k≤1000) (hn:n≤1000000):(s.Pm t w).ok k (n+1) :=
 {h.mono (Nat.le_succ n) with
  fits:=Pn h.fits ht (by have:=h.ord;omega) hw hk
  CQ:=KL h.CQ
  ord:=by have:=h.ord;show s.ord+1≤n+1;omega }
theorem qC {l:List FW} {w:Nat} (h:w<l.length):l.getD w lr∈l:=by
 have:l.getD w lr=l[w]:=by simp [List.getD,h]
 rw [this];exact aA h
theorem qD {l:List FW} {w:Nat} {x:FW} {P:FW→Prop} (h:∀ y∈l,P y) (hx:P x):∀ y∈l.set w x,P y:=fun y hy=>by
 rcases List.mem_or_eq_of_mem_set hy with hy|rfl
 ·exact h y hy
 ·exact hx
theorem HM {l:List FW} {w:Nat} {x:FW} (h:w<l.length) (v:Nat):(l.set w x).getD v lr=if v=w then x else l.getD v lr:=by
 rw [ax,List.getElem?_set]
 by_cases e:v=w
 ·subst e;rw [aI rfl,aI rfl,aI h];rfl
 ·rw [aB (fun q=>e q.symm),aB e,ax]
theorem cP.Po {s:cP} {k n now w:Nat} (h:s.ok k n) (Pp:s.kept=[]) (ht:now≤1000000000) (hw:w<k) (hk:k≤1000) (hn:n≤1000000):(s.Ss now w).ok k (n+1):=by
 have hl:w<s.st.length:=by rw [h.len];exact hw
 refine cP.CT (s:={ s with st:=s.st.set w (s.st.getD w lr).off }) ?_ ht hw hk hn
 exact { h with
  len:=by show (s.st.set w _).length=k;rw [List.length_set];exact h.len
  tries:=qD h.tries (aH _)
  kR:=qD h.kR (show (s.st.getD w lr).size≤_ from h.kR (s.st.getD w lr) (qC hl))
  kept:=fun g hg=>by rw [show cP.kept { s with st:=s.st.set w (s.st.getD w lr).off }=[] from Pp] at hg;cases hg }
theorem cP.CU {now k:Nat} (hk:k≤1000) (ht:now≤1000000000):∀ (m:Nat) {s:cP} {n:Nat},s.ok k n→s.kept=[]→m≤k→n+m≤1000000→(cP.lQ now m s).ok k (n+m)∧(cP.lQ now m s).kept=[]∧(cP.lQ now m s).st.length=s.st.length∧(cP.lQ now m s).cur=s.cur
 | 0,s,n,h,Pp,_,_=>⟨h,Pp,rfl,rfl⟩
 | m+1,s,n,h,Pp,hm,hn=>by
  obtain ⟨h1,h2,h3,h4⟩:=cP.CU hk ht m h Pp zo zo;have e1:n+m≤1000000:=by omega
  exact ⟨cP.Po h1 h2 ht zo hk e1,h2,by show (List.set _ _ _).length=_;rw [List.length_set];exact h3,h4⟩
theorem cP.IZ {s:cP} {k n:Nat} {p:jG} {x:jV} (h:s.ok k n) (hx:x.fits) (hb:s.E7 p x):cP.ok { s with cur:=some x,kept:=[] } k n :=
 {h with
  kR:=fun y hy=>by
   have h1:=h.kR y hy
   show y.size≤x.dc.size
   cases hc:s.cur with
   | none=>rw [show s.dU=vI by unfold cP.dU;rw [hc];rfl] at h1;exact Nat.le_trans h1 (aH _)
   | some c =>
    rw [show s.dU=c by unfold cP.dU;rw [hc];rfl] at h1
    have:=hb.2 c hc
    omega
  cur:=fun y hy=>by cases hy;exact hx
  kept:=fun g hg=>by cases hg
  zf:=List.nodup_nil }
theorem cP.xG {s:cP} {k n now:Nat} {p:jG} {x:jV} (h:s.ok k n) (hx:x.fits) (ht:now≤1000000000) (hk:k≤1000) (hn:n+k≤1000000):(s.ie p x now).ok k (n+k):=by
 unfold cP.ie
 split
 ·rename_i hb;rw [h.len];exact (cP.CU hk ht k (cP.IZ h hx hb) rfl (aS _) hn).1
 ·exact h.mono zo
theorem ri (now:Nat):∀ (m:Nat) (l:List AE),((nE now m l).1++(nE now m l).2.map (·.il)).Perm (l.map (·.il))∧∀ a∈(nE now m l).2,a∈l
 | 0,l=>⟨List.Perm.refl _,fun a ha=>ha⟩
 | m+1,l=>by
  unfold nE
  split
  ·rename_i h;have oG:l≠[]:=fun q=>by rw [q] at h;simp at h
   obtain ⟨h1,h2⟩:=ri now m (pU l);have h3:=vH oG;refine ⟨?_,fun a ha=>h3.mem_iff.1 (aT _ (h2 a ha))⟩;refine List.Perm.trans (List.Perm.cons _ h1) ?_;exact h3.map (·.il)
  ·exact ⟨List.Perm.refl _,fun a ha=>ha⟩
theorem cP.Nb {s:cP} {k n now:Nat} (h:s.ok k n):cP.ok { s with ag:=(nE now s.ag.length s.ag).2 } k n∧(∀ r∈s.lc now,r.1<k∧r.2≤s.dU.dc.size)∧(s.lc now).length≤k:=by
 obtain ⟨h1,h2⟩:=ri now s.ag.length s.ag;have hu:=h1.nodup_iff.2 h.CQ
 have hm:∀ w∈(nE now s.ag.length s.ag).1,w<k:=fun w hw=>by
  have:=h1.mem_iff.1 (List.mem_append_left _ hw);obtain ⟨a,ha,rfl⟩:=aE.1 this;exact (h.fits a ha).2
 refine ⟨{ h with fits:=fun a ha=>h.fits a (h2 a ha),CQ:=(List.nodup_append.1 hu).2.1 },fun r hr=>?_,?_⟩
 ·obtain ⟨w,hw,rfl⟩:=aE.1 hr;exact ⟨hm w hw,h.kR _ (qC (by rw [h.len];exact hm w hw))⟩
 ·unfold cP.lc;rw [ae];exact ot k _ (List.nodup_append.1 hu).1 hm
theorem CV {n:Nat}:2 ^ min n 3≤8:=by
 have:min n 3≤3:=Nat.min_le_right _ _
 calc 2 ^ min n 3≤2 ^ 3:=Nat.pow_le_pow_right zo this
  _=8:=rfl
theorem cP.Nc {s:cP} {k n retry now w:Nat} (h:s.ok k n) (hr:retry≤100) (ht:now≤10000000) (hw:w<k) (hk:k≤1000) (hn:n≤1000000):(s.zh retry now w).ok k (n+1)∧(s.zh retry now w).dU=s.dU:=by
 have hp:retry*2 ^ min (s.st.getD w lr).tries 3≤800:=by
  have:=Nat.mul_le_mul hr (CV (n:=(s.st.getD w lr).tries));omega
 have h2:=cP.CT (t:=now+retry*2 ^ min (s.st.getD w lr).tries 3) h zo hw hk hn;have hl:w<s.st.length:=by rw [h.len];exact hw
 refine ⟨?_,rfl⟩
 exact { h2 with
  len:=by show (s.st.set w _).length=k;rw [List.length_set];exact h.len
  tries:=qD h2.tries (by have:=h.tries _ (qC hl);show (s.st.getD w lr).tries+1≤n+1;omega)
  kR:=qD h2.kR (show (s.st.getD w lr).size≤_ from h.kR (s.st.getD w lr) (qC hl))
  kept:=fun g hg=>by
   obtain ⟨h3,h4,h5⟩:=h.kept g hg;refine ⟨h3,h4,?_⟩
   show ((s.st.set w _).getD g.fY lr).kept=true
   rw [HM hl]
   split
   ·rename_i e;rw [e] at h5;exact h5
   ·exact h5 }
theorem cP.zi {k retry now:Nat} (hr:retry≤100) (ht:now≤10000000) (hk:k≤1000):∀ (l:List (Nat × Nat)) {s:cP} {n:Nat},s.ok k n→(∀ r∈l,r.1<k)→n+l.length≤1000000→(cP.iq retry now l s).ok k (n+l.length)∧(cP.iq retry now l s).dU=s.dU
 | [],s,n,h,_,_=>⟨h,rfl⟩
 | r::l,s,n,h,hl,hn=>by
  rw [aN] at hn
  obtain ⟨h1,h2⟩:=cP.Nc (w:=r.1) h hr ht (hl r (List.mem_cons_self ..)) hk zo;obtain ⟨h3,h4⟩:=cP.zi hr ht hk l h1 (fun x hx=>hl x (aT _ hx)) zo;exact ⟨h3.mono (by rw [aN];omega),h4.trans h2⟩
theorem cP.Nd {s:cP} {k n retry now:Nat} (h:s.ok k n) (hr:retry≤100) (ht:now≤10000000) (hk:k≤1000) (hn:n+k≤1000000):(s.kH retry now).ok k (n+k):=by
 obtain ⟨h1,h2,h3⟩:=cP.Nb (now:=now) h;exact (cP.zi hr ht hk (s.lc now) h1 (fun r hr=>(h2 r hr).1) zo).1.mono zo
theorem cP.E8 {s:cP} {k n w:Nat} {g:kO} (h:s.ok k n) (hw:w<k) (hg:g.fY=w) (hr:g.sig.right) (Su:(s.st.getD w lr).kept=false):(s.gT w g).ok k n:=by
 have hl:w<s.st.length:=by rw [h.len];exact hw
 exact { h with
  len:=by show (s.st.set w _).length=k;rw [List.length_set];exact h.len
  fits:=KJ h.fits
  CQ:=wT h.CQ
  tries:=qD h.tries (show (s.st.getD w lr).tries≤_ from h.tries (s.st.getD w lr) (qC hl))
  kR:=qD h.kR (aS _)
  kept:=fun q hq=>by
   show q.fY<k∧q.sig.right∧((s.st.set w _).getD q.fY lr).kept=true
   rw [HM hl];rcases aJ.1 hq with hq|hq
   ·obtain ⟨h3,h4,h5⟩:=h.kept q hq;refine ⟨h3,h4,?_⟩
    split
    ·rfl
    ·exact h5
   ·rw [an.1 hq];exact ⟨by rw [hg];exact hw,hr,by rw [aI hg]⟩
  zf:=by
   show ((s.kept++[g]).map (·.fY)).Nodup
   rw [ah];refine List.nodup_append.2 ⟨h.zf,by simp,fun a ha b hb=>?_⟩;rw [List.map_cons,List.map_nil,an] at hb
   subst hb;rintro rfl;obtain ⟨q,hq,hqe⟩:=aE.1 ha;have h5:=(h.kept q hq).2.2;rw [hqe,hg,Su] at h5
   cases h5 }
theorem cP.I0 {s:cP} {k n w:Nat} {g:kO} {p:jG} (h:s.ok k n) (hw:w<k) (hg:g.fY=w) (hr:g.sig.right) (hh:s.rR w):(s.fe p w g).ok k n:=by
 have h1:=cP.E8 h hw hg hr hh.2.2;unfold cP.fe
 split
 ·obtain ⟨c,hc⟩:=Option.isSome_iff_exists.1 hh.1;have I1:s.dU=c:=by unfold cP.dU;rw [hc];rfl
  have Xy:=h.cur c hc
  exact { h1 with
   done:=fun _=>by show s.dU.fits;rw [I1];exact Xy
   Na:=by show s.dU.sig.fits;rw [I1];exact Xy.2.fits
   dk:=fun q hq=>⟨(h1.kept q hq).1,(h1.kept q hq).2.1⟩
   CR:=h1.zf }
 ·exact h1
theorem cP.I2 {s:cP} {k n w size now:Nat} (h:s.ok k n) (hw:w<k) (hs:size≤s.dU.dc.size) (ht:now≤1000000000) (hk:k≤1000) (hn:n≤1000000):(s.Av w size now).ok k (n+1):=by
 have hl:w<s.st.length:=by rw [h.len];exact hw
 refine cP.CT (s:={ s with st:=s.st.set w { s.st.getD w lr with size:=size } }) ?_ ht hw hk hn
 exact { h with
  len:=by show (s.st.set w _).length=k;rw [List.length_set];exact h.len
  tries:=qD h.tries (show (s.st.getD w lr).tries≤_ from h.tries (s.st.getD w lr) (qC hl))
  kR:=qD h.kR hs
  kept:=fun g hg=>by
   obtain ⟨h3,h4,h5⟩:=h.kept g hg;refine ⟨h3,h4,?_⟩
   show ((s.st.set w _).getD g.fY lr).kept=true
   rw [HM hl]
   split
   ·rename_i e;rw [e] at h5;exact h5
   ·exact h5 }
theorem cP.Pq {s:cP} {k n w size now:Nat} {g:kO} {p:jG} (h:s.ok k n) (hr:g.ii p s.dU.dc→g.sig.right) (ht:now≤1000000000) (hk:k≤1000) (hn:n≤1000000):(s.oo p w g size now).ok k (n+1):=by
 unfold cP.oo
 split
 ·exact h.mono zo
 ·rename_i hh;have hh2:=Decidable.not_not.1 hh;have hw:w<k:=by have:=hh2.2.1;rw [h.len] at this;exact this
  split
  ·rename_i ft;exact (cP.I0 h hw ft.1 (hr ft.2) hh2).mono zo
  ·split
   ·rename_i Sv;exact cP.I2 h hw Sv.1 ht hk hn
   ·exact h.mono zo
end Go.Proofs
namespace Go.Proofs
attribute [local irreducible] Bs.cD Bs.Do Bs.O Bs.W Bs.Fin Bs.A Bs.Ct Bs.cE Bs.Rd Bs.Sat Bs.cK Bs.Ob Bs.dE Bs.View Bs.cz Bs.Ex Bs.dI Bs.Pu Bs.eY Bs.dN Bs.dZ
open Go.Bs
open Tryz
theorem CW (R:List cJ) (e:World) (vl vw:Value) (p:jG) (hp:j7 R vl vw p) (hl:p.log.length≤1000000) (hn:p.ew.length≤1000) (hb:∀ b∈p.ew,b.length≤1000000) :
 Ct prog 117 #[.agg (lE p vl vw).toArray] e R (fun v' L'=>∃ (M:cJ) (ul uw:Value),v'=.agg (lE p ul uw).toArray∧j7 [M] ul uw p∧L'=M::R):=by
 refine a7 (cn hp.log) fun o1=>?_
 refine a7 hp.ew.one fun o2=>?_
 obtain ⟨ts,fy,tH,Hk⟩:=hp.ew;have oH:ts.length=p.ew.length:=by rw [← fy,ae]
 refine a7 (tH.shape zo) ?_;rintro ⟨⟨HN,cw,rfl,h3,h4,h5,h6⟩,_⟩;simp only [maxLen] at h4
 refine bH (args:=[_]) func117 rfl ntmps117 results117 rfl ?_
 (repeat' first|refine W.pF (id:=2) (fun j:Nat × Nat × Nat × Option Addr × Nat=>[(1,pt j.1),(2,pt j.2.1),(3,pt j.2.2.1)]) (fun j=>cK j.2.2.1 [.slice j.2.2.2.1 p.log.length j.2.2.2.2,nY,.int .i64 (p.ey:Int)] 106 (0,0)::cS (.slice j.2.2.2.1 p.log.length j.2.2.2.2) p.log::cK j.1 (lE p vl (.slice HN ts.length cw)) 106 (0,0)::cK j.2.1 [nY,nY,.int .i64 0] 106 (0,0)::R) (fun _=>True) ?_ ?_|apply Zc|apply Zd|apply Ze|apply Zf|refine Yg fun _=>?_|refine Yh fun _=>?_|fail)
 rotate_left
 ·refine ⟨?_⟩;rename_i g1 g2
  (repeat' first|refine Za ?_|refine Zb ?_|apply Zc|apply Zd|apply Ze|apply Zf|refine Zh ?_|refine Zi ?_|refine Zj ?_|refine Zk ?_|refine ZA ?_|refine ZB ?_|refine ZC (fun _=>?_) fun _=>?_|refine ZS ?_|refine Yd ?_|refine Ye ?_|refine Yg fun _=>?_|refine Yh fun _=>?_|refine Yi fun _=>?_|refine Ym ?_|refine Yw ?_|refine Yx ?_|refine Yy ?_|refine Yz ?_|refine YA ?_|apply YB|apply YC|apply YD|apply YE|apply YF|apply YG|apply YH|apply YI|apply YJ|refine YK ?_|refine YQ ?_|refine YR ?_|(apply O.df;exact rfl;exact zP;(first|(simp only [aC,Nat.add_zero,Nat.reduceAdd,List.drop_succ_cons,List.drop_zero,List.take_succ_cons,List.take_zero];done)|(simp only [aC,Nat.add_zero,Nat.reduceAdd,List.drop_succ_cons,List.drop_zero,List.take_succ_cons,List.take_zero];exact rfl));exact rfl;exact rfl))
  refine bk (id:=1) [7] (cK g1 (lE p vl (.slice HN ts.length cw)) 106 (0,0)::R) mixed ?_
  (refine tF 0 ?_;refine tL 1 ?_;refine tF 3 ?_;refine tL 4 ?_)
  refine A.two 2 6 rfl rfl rfl rfl zK ?_ ?_
  ·refine bg rfl rfl (dw _ e vl p.log (hp.log.cL zE) zo) ?_;rintro _ _ ⟨ad,c,rfl,rfl⟩;refine ⟨fun _=>zE,?_⟩;refine tk 5 _ rfl (bL rfl zF) ?_;refine tO 6 ?_;refine bQ (cs:=[nY,nY,.int .i64 0]) rfl rfl fun g3=>⟨fun _=>zE,?_⟩
   refine tO 7 ?_;refine zg ?_;refine ⟨zN,?_⟩;refine bf zK ?_;exact bJ (g1,g2,g3,ad,c) trivial zS zE
  ·refine bQ (cs:=[nY,nY,.int .i64 0]) rfl rfl fun g3=>⟨fun _=>zE,?_⟩
   refine tO 2 ?_;refine bg rfl rfl (dw _ e vl p.log (hp.log.cL zE) zo) ?_;rintro _ _ ⟨ad,c,rfl,rfl⟩;refine ⟨fun _=>zE,?_⟩;refine tk 5 _ rfl (bL rfl zF) ?_;refine tO 7 ?_;refine zg ?_;refine ⟨zN,?_⟩;refine bf zK ?_;exact bJ (g1,g2,g3,ad,c) trivial zS zE
 rintro ⟨g1,g2,g3,xl,cl⟩ _;dsimp only;refine wB ?_;refine bq (ι:=Nat × List ej × Option Addr × Nat) (fun j=>[(2,pt g2),(3,pt g3),(13,.slice HN ts.length cw),(14,.int .i64 (ts.length:Int)),(15,.int .i64 (j.1:Int))]) (fun j=>cK g3 [.slice xl p.log.length cl,.slice j.2.2.1 j.2.1.length j.2.2.2,.int .i64 (p.ey:Int)] 106 (0,0)::cV (.slice j.2.2.1 j.2.1.length j.2.2.2) j.2.1::cH j.2.1::cS (.slice xl p.log.length cl) p.log::cK g2 [nY,nY,.int .i64 0] 106 (0,0)::R) (fun j=>j.1≤ts.length∧j.2.1.map (·.2)=p.ew.take j.1) (fun j=>ts.length - j.1) (0,[],none,0) ⟨aH _,rfl⟩ zS (cj (dK) (cj (dv ez 1) zE)) ?_;rintro ⟨j,us,m7,cu⟩ ⟨hj,gF⟩;dsimp only at hj gF ⊢
 have LG:us.length=j:=by have:=congrArg List.length gF;rw [ae,aF] at this;omega
 by_cases cO:j<ts.length
 rotate_left
 ·rw [aG zo] at gF
  obtain ⟨M,hM⟩:∃ M:cJ,M=dI [cS (.slice xl p.log.length cl) p.log,cV (.slice m7 us.length cu) us,cH us]:=⟨_,rfl⟩
  have ho:cz [M] [cS (.slice xl p.log.length cl) p.log,cV (.slice m7 us.length cu) us,cH us]:=by rw [hM];exact cT (M:=[_,_,_]) (L:=[])
  refine wB ?_;apply br
  ·exact zV
  exact ⟨M::R,cj (show cz _ (cS (.slice xl p.log.length cl) p.log::cV (.slice m7 us.length cu) us::cH us::R) from zE) (by rw [hM];exact dR (M:=[_,_,_])),M,_,_,rfl,⟨(bb .zero).cL ho,mO.cL ⟨us,gF,bb (.succ .zero),dQ.dY (.succ (.succ .zero))⟩ ho⟩,rfl⟩
 rcases h6 with h6|⟨gg,og,rfl⟩
 ·omega
 have zj:j<p.ew.length:=by omega
 have hr:Rd R ⟨gg,og+j,none⟩ (ts[j]'cO).1:=tH.elem (by rw [aL,ab cO];rfl);have hx:=Hk _ (aA cO)
 have EO:(ts[j]'cO).2=p.ew[j]'zj:=by
  have:=congrArg (fun l=>l[j]?) fy;simp only [aL,ab cO,ab zj,Option.map_some,Option.some.injEq] at this
  exact this
 have ft:p.ew.take (j+1)=p.ew.take j++[p.ew[j]'zj]:=aD zj;have Aa:=hb _ (aA zj);rw [← EO] at ft Aa
 generalize ts[j]'cO=y at *
 obtain ⟨yv,x⟩:=y;dsimp only at hr hx ft Aa
 refine W.cB (cn (hx.cL zE)) fun o3=>?_
 (repeat' first|(refine bV rfl (hr.cL zE) rfl ?_)|refine Zb ?_|apply Zc|apply Zd|apply Ze|apply Zf|refine ZA ?_|refine Yw ?_|refine Yz ?_|apply YB|apply YC)
 refine bk (id:=5) [6,7] (cK g3 [.slice xl p.log.length cl,.slice m7 us.length cu,.int .i64 (p.ey:Int)] 106 (0,0)::R) mixed ?_
 (refine tF 0 ?_;refine tL 1 ?_;refine tM 2 ?_)
 refine tO 3 ?_;refine bg rfl rfl (dw _ e yv x (hx.cL zE) zo) ?_;rintro _ _ ⟨qq,cx,rfl,rfl⟩;refine ⟨fun _=>zE,?_⟩;refine tO 4 ?_;refine bE (n:=1) (cs:=[.slice qq x.length cx]) rfl rfl rfl rfl zQ rfl (fun gb=>⟨fun _=>zE,?_⟩);refine tO 5 ?_;refine bo rfl rfl rfl (show cR _ (cV (.slice m7 us.length cu) us) _ from zP) (bO (n:=1) (c:=1) zP rfl zl) rfl rfl zO zm zo fun ef k1 _=>⟨fun _=>zE,?_⟩
 refine tO 6 ?_;refine dV (ba rfl) ?_;refine tO 7 ?_;refine tf ?_;refine ⟨zN,?_⟩;refine bf zK ?_;refine wB ?_;refine bi (j+1,us++[(.slice qq x.length cx,x)],ef,k1) ⟨cO,by dsimp only;rw [ft,ah,gF];rfl⟩ zd zS ?_;simp only [cV,aa,aj,ah,List.map_cons,List.map_nil];exact cj (cj (show cz _ (cS (.slice qq x.length cx) x::cH us::dE ez 1 (.slice ef (us.length+1) k1) (us.length+1) (us.map (·.1)++[.slice qq x.length cx])::cK g3 [.slice xl p.log.length cl,.slice ef (us.length+1) k1,.int .i64 (p.ey:Int)] 106 (0,0)::cS (.slice xl p.log.length cl) p.log::cK g2 [nY,nY,.int .i64 0] 106 (0,0)::R) from zE) jo) zE
theorem CX (R:List cJ) (e:World) (vl vw:Value) (p:jG) (hp:j7 R vl vw p) (hl:p.log.length≤1000000) (hn:p.ew.length≤1000) (hb:∀ b∈p.ew,b.length≤1000000) :
 Ct prog 235 #[.agg (lE p vl vw).toArray] e R (fun v' L'=>∃ (M:cJ) (ul uw:Value),v'=.agg (lE p ul uw).toArray∧j7 [M] ul uw p∧L'=M::R):=by
 refine a7 (cn hp.log) fun o1=>?_
 refine a7 hp.ew.one fun o2=>?_
 obtain ⟨ts,fy,tH,Hk⟩:=hp.ew;have oH:ts.length=p.ew.length:=by rw [← fy,ae]
 refine a7 (tH.shape zo) ?_;rintro ⟨⟨HN,cw,rfl,h3,h4,h5,h6⟩,_⟩;simp only [maxLen] at h4
 refine bH (args:=[_]) func235 rfl ntmps235 results235 rfl ?_
 (repeat' first|refine W.pF (id:=2) (fun j:Nat × Nat × Nat × Option Addr × Nat=>[(1,pt j.1),(2,pt j.2.1),(3,pt j.2.2.1)]) (fun j=>cK j.2.2.1 [.slice j.2.2.2.1 p.log.length j.2.2.2.2,nY,.int .i64 (p.ey:Int)] 106 (0,0)::cS (.slice j.2.2.2.1 p.log.length j.2.2.2.2) p.log::cK j.1 (lE p vl (.slice HN ts.length cw)) 106 (0,0)::cK j.2.1 [nY,nY,.int .i64 0] 106 (0,0)::R) (fun _=>True) ?_ ?_|apply Zc|apply Zd|apply Ze|apply Zf|refine Yg fun _=>?_|refine Yh fun _=>?_|fail)
 rotate_left
 ·refine ⟨?_⟩;rename_i g1 g2
  (repeat' first|refine Za ?_|refine Zb ?_|apply Zc|apply Zd|apply Ze|apply Zf|refine Zh ?_|refine Zi ?_|refine Zj ?_|refine Zk ?_|refine ZA ?_|refine ZB ?_|refine ZC (fun _=>?_) fun _=>?_|refine ZS ?_|refine Yd ?_|refine Ye ?_|refine Yg fun _=>?_|refine Yh fun _=>?_|refine Yi fun _=>?_|refine Ym ?_|refine Yw ?_|refine Yx ?_|refine Yy ?_|refine Yz ?_|refine YA ?_|apply YB|apply YC|apply YD|apply YE|apply YF|apply YG|apply YH|apply YI|apply YJ|refine YK ?_|refine YQ ?_|refine YR ?_|(apply O.df;exact rfl;exact zP;(first|(simp only [aC,Nat.add_zero,Nat.reduceAdd,List.drop_succ_cons,List.drop_zero,List.take_succ_cons,List.take_zero];done)|(simp only [aC,Nat.add_zero,Nat.reduceAdd,List.drop_succ_cons,List.drop_zero,List.take_succ_cons,List.take_zero];exact rfl));exact rfl;exact rfl))
  refine bk (id:=1) [7] (cK g1 (lE p vl (.slice HN ts.length cw)) 106 (0,0)::R) mixed ?_
  (refine tF 0 ?_;refine tL 1 ?_;refine tF 3 ?_;refine tL 4 ?_)
  refine A.two 2 6 rfl rfl rfl rfl zK ?_ ?_
  ·refine bg rfl rfl (dw _ e vl p.log (hp.log.cL zE) zo) ?_;rintro _ _ ⟨ad,c,rfl,rfl⟩;refine ⟨fun _=>zE,?_⟩;refine tk 5 _ rfl (bL rfl zF) ?_;refine tO 6 ?_;refine bQ (cs:=[nY,nY,.int .i64 0]) rfl rfl fun g3=>⟨fun _=>zE,?_⟩
   refine tO 7 ?_;refine zg ?_;refine ⟨zN,?_⟩;refine bf zK ?_;exact bJ (g1,g2,g3,ad,c) trivial zS zE
  ·refine bQ (cs:=[nY,nY,.int .i64 0]) rfl rfl fun g3=>⟨fun _=>zE,?_⟩
   refine tO 2 ?_;refine bg rfl rfl (dw _ e vl p.log (hp.log.cL zE) zo) ?_;rintro _ _ ⟨ad,c,rfl,rfl⟩;refine ⟨fun _=>zE,?_⟩;refine tk 5 _ rfl (bL rfl zF) ?_;refine tO 7 ?_;refine zg ?_;refine ⟨zN,?_⟩;refine bf zK ?_;exact bJ (g1,g2,g3,ad,c) trivial zS zE
 rintro ⟨g1,g2,g3,xl,cl⟩ _;dsimp only;refine wB ?_;refine bq (ι:=Nat × List ej × Option Addr × Nat) (fun j=>[(2,pt g2),(3,pt g3),(13,.slice HN ts.length cw),(14,.int .i64 (ts.length:Int)),(15,.int .i64 (j.1:Int))]) (fun j=>cK g3 [.slice xl p.log.length cl,.slice j.2.2.1 j.2.1.length j.2.2.2,.int .i64 (p.ey:Int)] 106 (0,0)::cV (.slice j.2.2.1 j.2.1.length j.2.2.2) j.2.1::cH j.2.1::cS (.slice xl p.log.length cl) p.log::cK g2 [nY,nY,.int .i64 0] 106 (0,0)::R) (fun j=>j.1≤ts.length∧j.2.1.map (·.2)=p.ew.take j.1) (fun j=>ts.length - j.1) (0,[],none,0) ⟨aH _,rfl⟩ zS (cj (dK) (cj (dv ez 1) zE)) ?_;rintro ⟨j,us,m7,cu⟩ ⟨hj,gF⟩;dsimp only at hj gF ⊢
 have LG:us.length=j:=by have:=congrArg List.length gF;rw [ae,aF] at this;omega
 by_cases cO:j<ts.length
 rotate_left
 ·rw [aG zo] at gF
  obtain ⟨M,hM⟩:∃ M:cJ,M=dI [cS (.slice xl p.log.length cl) p.log,cV (.slice m7 us.length cu) us,cH us]:=⟨_,rfl⟩
  have ho:cz [M] [cS (.slice xl p.log.length cl) p.log,cV (.slice m7 us.length cu) us,cH us]:=by rw [hM];exact cT (M:=[_,_,_]) (L:=[])
  refine wB ?_;apply br
  ·exact zV
  exact ⟨M::R,cj (show cz _ (cS (.slice xl p.log.length cl) p.log::cV (.slice m7 us.length cu) us::cH us::R) from zE) (by rw [hM];exact dR (M:=[_,_,_])),M,_,_,rfl,⟨(bb .zero).cL ho,mO.cL ⟨us,gF,bb (.succ .zero),dQ.dY (.succ (.succ .zero))⟩ ho⟩,rfl⟩
 rcases h6 with h6|⟨gg,og,rfl⟩
 ·omega
 have zj:j<p.ew.length:=by omega
 have hr:Rd R ⟨gg,og+j,none⟩ (ts[j]'cO).1:=tH.elem (by rw [aL,ab cO];rfl);have hx:=Hk _ (aA cO)
 have EO:(ts[j]'cO).2=p.ew[j]'zj:=by
  have:=congrArg (fun l=>l[j]?) fy;simp only [aL,ab cO,ab zj,Option.map_some,Option.some.injEq] at this
  exact this
 have ft:p.ew.take (j+1)=p.ew.take j++[p.ew[j]'zj]:=aD zj;have Aa:=hb _ (aA zj);rw [← EO] at ft Aa
 generalize ts[j]'cO=y at *
 obtain ⟨yv,x⟩:=y;dsimp only at hr hx ft Aa
 refine W.cB (cn (hx.cL zE)) fun o3=>?_
 (repeat' first|(refine bV rfl (hr.cL zE) rfl ?_)|refine Zb ?_|apply Zc|apply Zd|apply Ze|apply Zf|refine ZA ?_|refine Yw ?_|refine Yz ?_|apply YB|apply YC)
 refine bk (id:=5) [6,7] (cK g3 [.slice xl p.log.length cl,.slice m7 us.length cu,.int .i64 (p.ey:Int)] 106 (0,0)::R) mixed ?_
 (refine tF 0 ?_;refine tL 1 ?_;refine tM 2 ?_)
 refine tO 3 ?_;refine bg rfl rfl (dw _ e yv x (hx.cL zE) zo) ?_;rintro _ _ ⟨qq,cx,rfl,rfl⟩;refine ⟨fun _=>zE,?_⟩;refine tO 4 ?_;refine bE (n:=1) (cs:=[.slice qq x.length cx]) rfl rfl rfl rfl zQ rfl (fun gb=>⟨fun _=>zE,?_⟩);refine tO 5 ?_;refine bo rfl rfl rfl (show cR _ (cV (.slice m7 us.length cu) us) _ from zP) (bO (n:=1) (c:=1) zP rfl zl) rfl rfl zO zm zo fun ef k1 _=>⟨fun _=>zE,?_⟩
 refine tO 6 ?_;refine dV (ba rfl) ?_;refine tO 7 ?_;refine tf ?_;refine ⟨zN,?_⟩;refine bf zK ?_;refine wB ?_;refine bi (j+1,us++[(.slice qq x.length cx,x)],ef,k1) ⟨cO,by dsimp only;rw [ft,ah,gF];rfl⟩ zd zS ?_;simp only [cV,aa,aj,ah,List.map_cons,List.map_nil];exact cj (cj (show cz _ (cS (.slice qq x.length cx) x::cH us::dE ez 1 (.slice ef (us.length+1) k1) (us.length+1) (us.map (·.1)++[.slice qq x.length cx])::cK g3 [.slice xl p.log.length cl,.slice ef (us.length+1) k1,.int .i64 (p.ey:Int)] 106 (0,0)::cS (.slice xl p.log.length cl) p.log::cK g2 [nY,nY,.int .i64 0] 106 (0,0)::R) from zE) jo) zE
end Go.Proofs
namespace Go.Bs
section
variable {P:Program} {N:Fr} {ty:TypeId} {σ:Env} {e:World} {L:List cJ} {x:Operand} {d:Tmp} {pos:String} {af:Array Edge} {gd:Option (Nat × Bool)} {K:Env→List cJ→Prop}
theorem bZ {t:TypeId} {v:Value} (hr:∀ w (v:Value),(Instr.makeInterface t v).run P w=.ok (.iface t v) w) (h:ev σ x=some v):cD P N (.makeInterface t x) ty (.iface t v) σ e L:=fun a w ha hs _ _ _ _=>by
 simp [execOp,ha.ev h,hr]
theorem cD.typeAssert {s t:TypeId} {v:Value} (hr:∀ w (v:Value),(Instr.typeAssert (.iface t v) s t false).run P w=.ok v w) (h:ev σ x=some (.iface t v)):cD P N (.typeAssert x s t false) ty v σ e L:=fun a w ha hs _ _ _ _=>by
 simp [execOp,ha.ev h,hr]
theorem Do.invoke {g:FuncId} {name:String} {xs:List Operand} {vs:List Value} {ats:Array TypeId} {t:TypeId} {v r:Value} {Post:Value→List cJ→Prop}
 (h0:ev σ x=some (.iface t v)) (hx:pZ σ xs=some vs) (hd:Nat.blt d N.n=true)
 (hm:∀ w,Sat e L w→(Go.invoke (.fn (.method name) #[]) (.iface t v::vs).toArray).run P w=.ok (.enter g (r::vs).toArray) w)
 (h:Ct P g (r::vs).toArray e L Post) (k:∀ v L',Post v L'→K ((d,v)::σ) L') :
 Do P N ⟨some d,.call { callee:=.invoke x name,args:=xs.toArray,argTypes:=ats },ty,pos,af,gd⟩ K σ e L:=by
 intro a w ha hs K' Q' hK;unfold Oper.wp
 have h1:execOp a.eval ⟨some d,.call { callee:=.invoke x name,args:=xs.toArray,argTypes:=ats },ty,pos,af,gd⟩=Go.invoke (.fn (.method name) #[]) (.iface t v::vs).toArray:=by
  have h2:(#[a.eval x]++xs.toArray.map a.eval:Array Value)=(.iface t v::vs).toArray:=by simp [ha.ev h0,ha.pZ hx]
  simp only [execOp,resolve];rw [h2]
  rfl
 rw [h1,hm w hs,Oper.upon_enter];refine (h w hs).mono ?_;rintro x w' ⟨v,L',rfl,hp,oF⟩;exact hK _ _ _ _ (k v L' hp) (ha.put hd v) oF
theorem Do.Sw {t t':TypeId} {y:Operand} {v u:Value} (hr:∀ w,∃ b:Bool,((do eqGuard .eql t x y v u;binOp .eql t v u):Sem Value).run P w=.ok (.bool b) w) (h:ev σ x=some v) (h1:ev σ y=some u) (hd:Nat.blt d N.n=true) (k:∀ b:Bool,K ((d,.bool b)::σ) L) :
 Do P N ⟨some d,.binOp .eql t x y t',ty,pos,af,gd⟩ K σ e L:=fun a w ha hs K' Q' hK=>by
 obtain ⟨b,hb⟩:=hr w;refine eZ (v:=.bool b) (w':=w) ?_ (hK _ _ _ _ (k b) (ha.put hd _) hs);simp only [execOp,ha.ev h,ha.ev h1];rw [Sem.run_bind,hb]
 rfl
theorem wU:∀ (vs cs:List Value) (o:Nat),o+vs.length≤cs.length→iw cs o vs (cs.take o++vs++cs.drop (o+vs.length))
 | [],cs,o,_=>by simpa using iw.nil (l:=cs) (n:=o)
 | v::vs,cs,o,h=>by
  rw [aN] at h
  have h1:=wU vs (cs.set o v) (o+1) (by rw [List.length_set];omega)
  have h2:(cs.set o v).take (o+1)++vs++(cs.set o v).drop (o+1+vs.length)=cs.take o++(v::vs)++cs.drop (o+(v::vs).length):=by
   rw [List.take_set,List.drop_set_of_lt (by omega)];rw [aD (by omega),List.set_append_right _ _ (by simp;omega)]
   simp [Nat.min_eq_left (show o≤cs.length by omega),Nat.add_assoc,Nat.add_comm 1]
  rw [h2] at h1
  exact iw.cons (gx.of v (by omega)) h1
theorem Do.ow {t n kk nn o c g:Nat} {y:Operand} {vs xs:List Value} {E:TypeId} {R:List cJ} [i:jf P t n] (h:ev σ x=some (.pointer (some ⟨g,o,none⟩))) (h1:ev σ y=some (.agg vs.toArray)) (hn:vs.length=n) (hv:∀ v∈vs,v.oneCell'=true)
 (p:cR L (dE E nn (.slice (some ⟨g,0,none⟩) kk c) kk xs) R) (ho:o+n≤kk*nn)
 (k:K σ (dE E nn (.slice (some ⟨g,0,none⟩) kk c) kk (xs.take o++vs++xs.drop (o+vs.length))::R)) :
 Do P N ⟨none,.store t x y,ty,pos,af,gd⟩ K σ e L:=fun a w ha hs K' Q' hK=>by
 have fR:=hs.cL p.out;obtain ⟨hl,hA⟩:=oJ fR.2.2.2;rcases hA with ⟨lU,_⟩|⟨g',Rr,cur,lU,r1,r2,r3,r4,hB⟩
 ·cases lU
 cases lU
 have m4:Sat e (cK g cur E (0,0)::R) w:=⟨hs.1,hs.2.1,hs.2.2.1,hB⟩
 have hle:kk*nn≤cur.length:=by rw [r3];exact Nat.mul_le_mul_right _ r1
 obtain ⟨w',e1,e2⟩:=p7 (P:=P) (off:=o) (i:=0) (wU vs cur o (by omega)) rfl m4 hv
 have gy:=hH (R:=R) (E:=E) (n:=nn) (g:=g) (k:=kk) (cap:=c) (cur:=cur.take o++vs++cur.drop (o+vs.length)) r1 r2 (by
  simp only [aa,aF,aO];omega)
 rw [u3 cur vs o (kk*nn) (by omega) hle,r4] at gy
 refine l5 (w':=w') ?_ (hK _ _ _ _ k ha (e2.cL gy))
 simp [execOp,ha.ev h,ha.ev h1,Instr.storeAt,Instr.sureAddr,storeVar,Value.cells,i.B7,hn,e1]
theorem cD.Pr {t t':TypeId} {y:Operand} {k:IntKind} {m n r:Int} (h:ev σ x=some (.int k m)) (h1:ev σ y=some (.int k n)) (h0:n≠0) (hr:k.wrap (m.tdiv n)=r):cD P N (.binOp .quo t x y t') ty (.int k r) σ e L:=hr ▸ cD.quo h h1 h0
theorem cD.Sx {t f:Nat} {a b c v:Value} (hr:∀ w,(Instr.field t (.agg #[a,b,c]) f).run P w=.ok v w) (h:ev σ x=some (.agg [a,b,c].toArray)):cD P N (.field t x f) ty v σ e L:=fun w a ha _ _ _ _ _=>by
 have h2:=hr
 simp [execOp,ha.ev h,h2]
theorem BK (zs:List Value) (hz:0<zs.length):∀ c:Nat,(madeCells zs.toArray (c*zs.length)).toList=(List.replicate c zs).flatten
 | 0=>by simp [madeCells]
 | c+1=>by
  have ih:=BK zs hz c;simp only [madeCells,Array.toList_map,Array.toList_range,List.size_toArray] at ih ⊢
  rw [Nat.add_mul,Nat.one_mul,List.range_add,ah,ih,List.replicate_succ',List.flatten_append]
  congr 1
  rw [List.map_map];simp only [List.flatten_cons,List.flatten_nil,aK];apply List.ext_getElem?;intro q;rw [aL]
  by_cases hq:q<zs.length
  ·have h1:(c*zs.length+q) % zs.length=q:=by rw [Nat.mul_comm,Nat.mul_add_mod,Nat.mod_eq_of_lt hq]
   rw [List.getElem?_range hq]
   simp [hq,h1,Function.comp]
  ·rw [List.getElem?_eq_none (l:=List.range _) (by simpa using hq),List.getElem?_eq_none (by omega)]
   rfl
theorem Do.sF {t el nn b c:Nat} {z:Value} {zs:List Value} {y:Operand} {k1 k2:IntKind} [i:je P t el nn] [j:ru P el z nn b] (hx:ev σ x=some (.int k1 (c:Int))) (hy:ev σ y=some (.int k2 (c:Int))) (hd:Nat.blt d N.n=true) (hz:z.cells=zs.toArray) (hn:zs.length=nn) (h0:Nat.blt 0 nn=true) (Ir:c≤maxLen) (hb:c*b≤140737488355328)
 (kk:∀ g,K ((d,.slice (some ⟨g,0,none⟩) c c)::σ) (dE el nn (.slice (some ⟨g,0,none⟩) c c) c ((List.replicate c zs).flatten)::L)) :
 Do P N ⟨some d,.makeSlice t x y,ty,pos,af,gd⟩ K σ e L:=fun a w ha hs K' Q' hK=>by
 obtain ⟨ti,t1,t2,t3,t4⟩:=j.parts;subst t4
 have tc:(ti.bytes:Int)*(c:Int)≤281474976710656:=by
  have h:((ti.bytes*c:Nat):Int)≤281474976710656:=by rw [Nat.mul_comm];omega
  rwa [Int.natCast_mul] at h
 have hr:=run_make (P:=P) w t el ti z i.lS t1 t2 k1 k2 c c (by omega) (Int.le_refl _) tc (by simp only [maxLen] at Ir;omega);simp only [Int.toNat_natCast,t3] at hr
 have h0':0<zs.length:=by rw [hn,← Nat.blt_eq];exact h0
 have hm:(madeCells z.cells (c*nn)).toList=(List.replicate c zs).flatten:=by rw [hz,← hn];exact BK zs h0' c
 refine eZ (w':=w.alloc (.cells (madeCells z.cells (c*nn)) el)) (v:=.slice (some ⟨w.heap.size,0,none⟩) c c) (by simp [execOp,ha.ev hx,ha.ev hy,hr]) (hK _ _ _ _ (kk _) (ha.put hd _) ?_);have F7:=(hs.alloc (.cells (madeCells z.cells (c*nn)) el)).cL (ta _ _ _ _);rw [hm] at F7
 have hlen:((List.replicate c zs).flatten).length=c*nn:=by simp [List.length_flatten,hn]
 have gy:=hH (E:=el) (n:=nn) (g:=w.heap.size) (k:=c) (cap:=c) (cur:=(List.replicate c zs).flatten) (R:=L) (aS _) Ir hlen;rw [aG (by omega)] at gy
 exact F7.cL gy
end
end Go.Bs
