/- Part 8 of a proof of this: TopTwoMonitors returns true for any arguments; nothing of the old memory is turned. No condition. -/
import Derived.Test.YtccekbdjebohcaaGreatM07
set_option linter.unusedVariables false
set_option linter.unusedSimpArgs false
namespace Go.Proofs
attribute [local irreducible] Bs.cE Bs.Do Bs.O Bs.W Bs.Fin Bs.A Bs.Ct Bs.cF Bs.Rd Bs.Sat Bs.cM Bs.Ob Bs.dJ Bs.View Bs.cC Bs.Ex Bs.dI Bs.Pu Bs.eZ Bs.dK Bs.eh
open Go.Bs
open Tryz
variable (R:List cK) (e:World)
structure pq where
 recs:List dA
 q:List (dA × Int)
structure nS where
 room:Nat
 size:Nat
 wait:Nat
structure nS.ok (c:nS):Prop where
 room:1≤c.room∧c.room≤16
 size:1≤c.size∧c.size≤8
 wait:c.wait≤1000
structure pq.ok (s:pq):Prop where
 size:s.recs.length≤1000
 uE:∀ b∈s.recs,jm b∧b.length≤200
 Ej:s.q.length≤1000
 p9:∀ x∈s.q,x.1.length≤200
 ye:∀ x∈s.q,-9223372036854775808≤x.2∧x.2≤1000000
abbrev yg:TypeId:=221
structure yh where
 gj:Nat
 gq:Nat
 ar:Option Addr
 cr:Nat
 ts:List dX
 l:List jG
structure yh.ok (a:yh) (M:cK) (c:nS) (s:pq):Prop where
 recs:a.ts.map (·.2)=s.recs
 zf:dE [M] a.ts
 O6:a.l.map (fun m=>(m.b,m.iB))=s.q
 st:s.ok
 Cc:c.ok
abbrev Fb (g d gl:Nat) (c:nS) (s:pq) (a:yh) (M:cK) (R:List cK):List cK :=
 cM g [pt a.gj,pt gl,pt a.gq,.int .i64 (c.room:Int),.slice a.ar a.ts.length a.cr] yg (0,0)::cU (.slice a.ar a.ts.length a.cr) a.ts::M::iZ a.gj d s.recs.length::dl d (dM (fi s.recs))::wF a.gq c.room c.size c.wait a.l::R
def Cd (g d gl:Nat) (c:nS) (s:pq) (a:yh) (M:cK):cK:=dI (Pu (a.ok M c s)::Fb g d gl c s a M [])
def eS (g d gl:Nat) (c:nS) (s:pq):cK:=Ex fun a=>Ex fun M=>Cd g d gl c s a M
theorem Ce {g d gl:Nat} {c:nS} {s:pq} {R:List cK} {P:Program} {f:FuncId} {args:Array Value} {e:World} {Post:Value→List cK→Prop}
 (h:∀ (a:yh) (M:cK),a.ok M c s→Ct P f args e (Fb g d gl c s a M R) Post):Ct P f args e (eS g d gl c s::R) Post :=
 Ct.ex .zero fun a=>Ct.ex .zero fun M=>Ct.cN (a7 (p:=a.ok M c s) (fun w x=>(ke x).1) fun hp=>(h a M hp).cN (cC.drop aX)) (cW (M:=Pu (a.ok M c s)::Fb g d gl c s a M []) (L:=R))
theorem rf {g d gl:Nat} {c:nS} {s:pq} {a:yh} {M:cK} {R:List cK} (h:a.ok M c s):cC (Fb g d gl c s a M R) (eS g d gl c s::R) :=
 cn (oX h) (cn (dN (M:=Pu (a.ok M c s)::Fb g d gl c s a M []) (L:=R)) (cn (fI (f:=fun M=>Cd g d gl c s a M) M) (fI (f:=fun a=>Ex fun M=>Cd g d gl c s a M) a)))
theorem yh.ok.len {a:yh} {M:cK} {c:nS} {s:pq} (h:a.ok M c s):a.ts.length=s.recs.length∧a.l.length=s.q.length:=by
 have h1:=congrArg List.length h.recs;have h2:=congrArg List.length h.O6;rw [ab] at h1 h2
 exact ⟨h1,h2⟩
theorem qa (g d gl:Nat) (c:nS) (s:pq) :
 Ct prog 60 #[pt g] e (eS g d gl c s::R) (fun v' L'=>v'=.int .i64 (s.recs.length:Int)∧L'=eS g d gl c s::R):=by
 refine Ce fun a M ha=>?_
 obtain ⟨l1,l2⟩:=ha.len;refine a8 (args:=[_]) func60 rfl ntmps60 results60 rfl ?_;refine wB ?_;exact aY _ rfl (rf ha) ⟨by rw [l1];rfl,rfl⟩
theorem GB (v w:Value) (b a:List UInt8) (g:Nat) (hg:Rd R ⟨g,0,none⟩ w) (hv:da R v b) (hw:da R w a) :
 Ct prog 282 #[v,pt g] e R (fun v' L'=>v'=.bool (decide (b=a))∧R=L'):=by
 refine a8 (args:=[_,_]) func282 rfl ntmps282 results282 rfl ?_;refine wB ?_;refine aZ rfl rfl (iL _ e v w b a hv hw) ?_;rintro _ _ ⟨rfl,rfl⟩;refine wB ?_;exact aY R rfl aX ⟨rfl,rfl⟩
def Cf (l:List dA) (b:dA):Int:=if b∈l then (lC l b:Int) else -1
theorem JC {l:List dA} {b:dA} (h:∀ i,i<l.length→decide (l.getD i []=b)=false):Cf l b = -1:=by
 unfold Cf;rw [aB (fun hm=>?_)];obtain ⟨i,hi,rfl⟩:=List.mem_iff_getElem.1 hm;have:=h i hi;rw [aL,ae hi] at this
 simp at this
theorem AX {b:dA}:∀ {l:List dA} {j:Nat},j<l.length→decide (l.getD j []=b)=true→(∀ i,i<j→decide (l.getD i []=b)=false)→Cf l b=(j:Int)
 | [],j,h,_,_=>by simp at h
 | x::l,0,_,h,_=>by
  have hx:x=b:=by simpa using h
  unfold Cf lC;rw [aH (by rw [hx];exact List.mem_cons_self ..),hx]
  simp
 | x::l,j+1,hj,h,hn=>by
  have hx:¬ x=b:=by simpa using hn 0 (Nat.succ_pos _)
  have ih:=AX (b:=b) (l:=l) (j:=j) (by simpa using hj) (by simpa using h) (fun i hi=>by simpa using hn (i+1) (Nat.succ_lt_succ hi));unfold Cf at ih ⊢
  by_cases hm:b∈l
  ·rw [aH hm] at ih
   rw [aH (aU _ hm)];unfold lC at ih ⊢
   rw [List.idxOf_cons,show (x == b)=false by simpa using hx];simp only [cond_false]
   omega
  ·rw [aB hm] at ih
   omega
theorem zj (g d gl:Nat) (c:nS) (s:pq) (v:Value) (b:dA) (hv:da R v b) :
 Ct prog 239 #[pt g,v] e (eS g d gl c s::R) (fun v' L'=>v'=.int .i64 (Cf s.recs b)∧L'=eS g d gl c s::R):=by
 refine Ce fun a M ha=>?_
 obtain ⟨l1,l2⟩:=ha.len;have kD:=ha.st.size;refine a7 (cF.shape (hv.cN (show cC (Fb g d gl c s a M R) R from zE)) zo) ?_;rintro ⟨⟨av,cv,rfl,-,-,-,-⟩,_⟩;refine a8 (args:=[_,_]) func239 rfl ntmps239 results239 rfl ?_
 (repeat (refine wA ?_;intros))
 rename_i g3
 have hi:=u3 (cM g3 [.slice av b.length cv] dZ (0,0)::Fb g d gl c s a M R) e (.slice a.ar a.ts.length a.cr) a.ts 282 [] [pt g3] (fun i=>decide ((a.ts.map (·.2)).getD i []=b)) (ba zP) zo (fun i hi=>by
  rw [eR hi];exact GB _ e _ (.slice av b.length cv) _ b g3 (bR .zero rfl) ((ha.zf _ (az hi)).cN (cH zP)) (hv.cN zE))
 refine aZ rfl rfl hi ?_;rintro _ _ ⟨⟨z,rfl,hz⟩,rfl⟩
 have Nx:z=Cf s.recs b:=by
  rw [← ha.recs];rcases hz with ⟨rfl,hz⟩|⟨j,rfl,hj,Lg,hj3⟩
  ·exact (JC (fun i hi=>hz i (by rw [ab] at hi;exact hi))).symm
  ·exact (AX (by rw [ab];exact hj) Lg hj3).symm
 subst Nx;refine wB ?_;exact aY (eS g d gl c s::R) rfl (cn (show cC _ (Fb g d gl c s a M R) from zE) (rf ha)) ⟨rfl,rfl⟩
def zk:Int:=-9223372036854775808
def kJ (cI:List dA) (recs:List dA):List dA:=recs.filter fun b=>decide (¬ b∈cI)
theorem yi {cI:List dA} {b:dA} {l:List dA}:kJ cI (l++[b])=if b∈cI then kJ cI l else kJ cI l++[b]:=by
 unfold kJ;rw [List.filter_append]
 by_cases h:b∈cI<;>simp [h]
theorem GC (d gl ld lk:Nat) (seed:dA) (ls:gM) (c:nS) (recs:List dA) (hc:c.ok) (hl:recs.length≤1000) (hg:∀ b∈recs,jm b∧b.length≤200) :
 Ct prog 233 #[pt d,pt gl,.int .i64 (c.room:Int),.int .i64 (c.size:Int),.int .i64 (c.wait:Int)] e (dl d (dM (fi recs))::db gl ld lk seed ls::R) (fun v' L'=>∃ g,v'=.tuple #[pt g,.int .i64 0]∧L'=eS g d gl c ⟨recs,(kJ ls.cI recs).map fun b=>(b,zk)⟩::db gl ld lk seed ls::R):=by
 have xU:=nN (l:=recs) (n:=200) (fun m hm=>(hg m hm).2);have Gx:∀ m∈recs,m.length≤65535:=fun m hm=>by have:=(hg m hm).2;omega
 have D4:=nP recs Gx;refine a8 (args:=[_,_,_,_,_]) func233 rfl ntmps233 results233 rfl ?_;refine wB ?_;refine aZ rfl rfl (Jx _ e c.room c.size c.wait ⟨hc.room,hc.size,hc.wait⟩) ?_;rintro _ _ ⟨gq,rfl,rfl⟩;refine wB ?_;refine aZ rfl rfl (Ct.at (.succ .zero) (m2 _ e d (fi recs) zo)) ?_;rintro _ _ (⟨h1,-⟩|⟨-,gj,qN,cr,ts,rfl,fx,rfl⟩)
 ·rw [D4] at h1;cases h1
 rw [D4] at fx ⊢
 rw [show (fi recs).take (fi recs).length=fi recs from List.take_length];dsimp only at fx
 have mw:ts.length=recs.length:=by have:=congrArg List.length fx;rwa [ab] at this
 (repeat (refine wA ?_;intros))
 rename_i g0;refine br (ι:=Nat × List dX × Option Addr × Nat) (fun i=>[(1,pt gl),(12,pt gq),(16,pt g0),(17,.slice i.2.2.1 i.2.1.length i.2.2.2),(52,.slice qN ts.length cr),(53,.int .i64 (ts.length:Int)),(54,.int .i64 (i.1:Int))]) (fun i=>cU (.slice i.2.2.1 i.2.1.length i.2.2.2) i.2.1::cG ts::cU (.slice qN ts.length cr) ts::iZ gj d ts.length::dl d (dM (fi recs))::db gl ld lk seed ls::wF gq c.room c.size c.wait []::cM g0 [pt gj,pt gl,pt gq,.int .i64 (c.room:Int),.slice qN ts.length cr] yg (0,0)::R) (fun i=>i.1≤ts.length∧i.2.1.map (·.2)=kJ ls.cI (recs.take i.1)∧∀ x∈i.2.1,x∈ts) (fun i=>ts.length - i.1) (0,[],none,0) ⟨aG _,by simp [kJ],fun x hx=>by cases hx⟩ zS (cn (di dZ 1) zE) ?_;rintro ⟨i,fs,af,cf⟩ ⟨hi,AV,GD⟩;dsimp only at hi AV GD ⊢
 have CY:fs.length≤i:=by
  have:=congrArg List.length AV;rw [ab] at this
  have h2:=List.length_filter_le (fun b=>decide (¬ b∈ls.cI)) (recs.take i);rw [aE] at h2
  unfold kJ at this
  omega
 by_cases cQ:i<ts.length
 rotate_left
 ·rw [aF zo] at AV
  refine wB ?_
  have Tm:=Gz (cU (.slice af fs.length cf) fs::cG ts::cU (.slice qN ts.length cr) ts::iZ gj d ts.length::dl d (dM (fi recs))::db gl ld lk seed ls::cM g0 [pt gj,pt gl,pt gq,.int .i64 (c.room:Int),.slice qN ts.length cr] yg (0,0)::R) e gq c.room c.size c.wait [] (.slice af fs.length cf) fs (ba .zero) (fun x hx=>dE.ea (.succ .zero) x (GD x hx)) (fun x hx=>by
   have:=(hg x.2 (by rw [← fx];exact aD.2 ⟨x,GD x hx,rfl⟩)).2
   omega) (by rw [List.length_nil];omega)
  refine aZ rfl rfl (Tm.cN zE) ?_;rintro _ _ ⟨rfl,l',qL,qs,rfl⟩;rw [aK]
  have hq:l'.map (fun m=>(m.b,m.iB))=(kJ ls.cI recs).map fun b=>(b,zk):=by
   rw [← AV,← qL,List.map_map];exact List.map_congr_left fun m hm=>by show (m.b,m.iB)=(m.b,zk);rw [qs m hm];rfl
  have kQ:yh.ok ⟨gj,gq,qN,cr,ts,l'⟩ (cG ts) c ⟨recs,(kJ ls.cI recs).map fun b=>(b,zk)⟩ :=
   ⟨fx,ef,hq,⟨hl,hg,by rw [ab];unfold kJ;exact Nat.le_trans (List.length_filter_le _ _) hl,fun x hx=>by
    obtain ⟨b,hb,rfl⟩:=aD.1 hx
    exact (hg b (List.mem_filter.1 hb |>.1)).2,fun x hx=>by
    obtain ⟨b,hb,rfl⟩:=aD.1 hx
    show -9223372036854775808≤zk∧zk≤1000000
    unfold zk
    omega⟩,hc⟩
  refine wB ?_;refine aY (eS g0 d gl c ⟨recs,(kJ ls.cI recs).map fun b=>(b,zk)⟩::db gl ld lk seed ls::R) rfl (cn ?_ (rf kQ)) ⟨g0,rfl,rfl⟩;dsimp only [Fb];rw [← mw];exact zE
 have oI:i<recs.length:=by omega
 have js:(ts[i]'cQ).2=recs[i]'oI:=by
  have:=congrArg (fun l=>l[i]?) fx;simp only [aI,ae cQ,ae oI,Option.map_some,Option.some.injEq] at this
  exact this
 have fq:recs.take (i+1)=recs.take i++[recs[i]'oI]:=aA oI;obtain ⟨D6,B6⟩:=hg _ (az oI);have sC:ts[i]'cQ∈ts:=az cQ;rw [← js] at fq D6 B6
 refine bG ((ba (show cT _ (cU (.slice qN ts.length cr) ts) _ from zP)).shape zo) ?_;rintro ⟨⟨lE,c',lG,yS,HX,zi,tS⟩,_⟩
 cases lG
 simp only [maxLen] at HX
 rcases tS with tS|⟨gr,or',rfl⟩
 ·omega
 have kh:∀ L R',cT L (cU (.slice (some ⟨gr,or',none⟩) ts.length cr) ts) R'→Rd L ⟨gr,or'+i,none⟩ (ts[i]'cQ).1:=fun L R' p=>(ba p).elem (by rw [aI,ae cQ];rfl)
 have sF:∀ L R',cT L (cG ts) R'→da L (ts[i]'cQ).1 (ts[i]'cQ).2:=fun L R' p=>dE.ea p _ (az cQ)
 generalize ts[i]'cQ=y at *
 obtain ⟨yv,b⟩:=y;dsimp only at kh sF js fq D6 B6
 refine bG (cz (sF _ _ zP)) fun oy=>?_
 refine wB ?_;refine b7 rfl (kh _ _ zP) rfl ?_;refine wB ?_;refine aZ rfl rfl (kv _ e yv b (sF _ _ zP) zo) ?_;rintro v1 _ ⟨hd,-⟩;obtain ⟨Md,vf,vn,rfl,OZ,Ad,rfl⟩:=hd D6;refine bo (cz (OZ.cN (cH zP))) fun o6=>?_
 refine bo (cz (Ad.cN (cH zP))) fun o7=>?_
 (repeat (refine wA ?_;intros))
 refine aZ rfl rfl (Ct.at zP (rW _ e gl ld lk seed ls yv b (sF _ _ zP))) ?_;rintro _ _ ⟨rfl,rfl⟩
 by_cases fS:b∈ls.cI
 ·have hw:kJ ls.cI (recs.take (i+1))=kJ ls.cI (recs.take i):=by rw [fq,yi,aH fS]
  rw [aH fS,ay fS];refine wB ?_;exact bi (i+1,fs,af,cf) ⟨cQ,by dsimp only;rw [hw];exact AV,GD⟩ zd zS zE
 ·have hw:kJ ls.cI (recs.take (i+1))=kJ ls.cI (recs.take i)++[b]:=by rw [fq,yi,aB fS]
  rw [aB fS,aq fS]
  (repeat (refine wA ?_;intros))
  refine bD (bm rfl rfl rfl zP (bu .zero rfl zl) rfl rfl (fun c hc=>by rw [an.1 hc];exact oy) zm zo fun dW k1 _=>?_)
  refine wB ?_;refine bi (i+1,fs++[(yv,b)],dW,k1) ⟨cQ,by dsimp only;rw [hw,ah,AV];rfl,fun x hx=>?_⟩ zd ?_ ?_
  ·rcases aJ.1 hx with hx|hx
   ·exact GD x hx
   ·rw [an.1 hx];exact sC
  ·dsimp only;rw [aa,aj];exact zS
  ·simp only [cU,aa,aj,ah,List.map_cons,List.map_nil];exact zE
theorem eu {L R R':List cK} {A B:cK} (p:cT L A R) (q:cT R B R'):cC L (dI [A,B]::R'):=cn p.out (cn (bh q.out) (dN (M:=[A,B])))
theorem qE {L R R' R2:List cK} {A B C:cK} (p:cT L A R) (q:cT R B R') (r:cT R' C R2):cC L (dI [A,B,C]::R2):=cn p.out (cn (bh (cn q.out (bh r.out))) (dN (M:=[A,B,C])))
def pq.fH (c:nS) (cI:List dA) (s:pq) (b:dA) (now:Int):Int × Int × pq :=
 if ¬ jm b then (4,0,s) else if b∈cI then (2,(lC cI b:Int),s) else if b∈s.q.map (·.1) then (1,Cf s.recs b,s) else if c.room≤s.q.length then (3,0,s) else (1,(s.recs.length:Int),⟨s.recs++[b],s.q++[(b,now)]⟩)
theorem LM {l:List jG} {q:List (dA × Int)} (h:l.map (fun m=>(m.b,m.iB))=q) (b:dA):hasB l b=decide (b∈q.map (·.1)):=by
 rw [← h,List.map_map];unfold hasB;rw [Bool.eq_iff_iff,List.any_eq_true,decide_eq_true_iff,aD]
 constructor
 ·rintro ⟨x,hx,h⟩;exact ⟨x,hx,of_decide_eq_true h⟩
 ·rintro ⟨x,hx,h⟩;exact ⟨x,hx,ay h⟩
theorem tn (g d gl ld lk:Nat) (seed:dA) (ls:gM) (c:nS) (s:pq) (v:Value) (b:dA) (now:Int) (hv:da R v b) (hb:b.length≤200) (hn:0≤now∧now≤1000000) (h1:s.recs.length<1000) (h2:s.q.length<1000) :
 Ct prog 166 #[pt g,v,.int .i64 now] e (eS g d gl c s::db gl ld lk seed ls::R) (fun v' L'=>v'=.agg #[.int .i64 (s.fH c ls.cI b now).1,.int .i64 (s.fH c ls.cI b now).2.1]∧L'=eS g d gl c (s.fH c ls.cI b now).2.2::db gl ld lk seed ls::R):=by
 refine Ce fun a M ha=>?_
 obtain ⟨l1,l2⟩:=ha.len;refine bI (args:=[_,_,_]) func166 rfl ntmps166 results166 rfl ?_
 (repeat (refine wA ?_;intros))
 rename_i g6;refine aZ rfl rfl (kv _ e v b (hv.cN zE) zo) ?_;rintro v1 _ ⟨hd,C2⟩
 by_cases hm:jm b
 rotate_left
 ·obtain ⟨rfl,rfl⟩:=C2 hm;have lO:s.fH c ls.cI b now=(4,0,s):=by unfold pq.fH;rw [aH hm]
  rw [lO]
  (repeat (refine wA ?_;intros))
  refine aZ rfl rfl (Ct.at zP (rW _ e gl ld lk seed ls v b (hv.cN zE))) ?_;rintro _ _ ⟨rfl,rfl⟩;refine wB ?_;apply bB
  ·exact zV
  exact ⟨eS g d gl c s::db gl ld lk seed ls::R,cn (show cC _ (Fb g d gl c s a M (db gl ld lk seed ls::R)) from zE) (rf ha),rfl,rfl⟩
 obtain ⟨Md,vf,vn,rfl,OZ,Ad,rfl⟩:=hd hm;refine bo (cz (OZ.cN (cH zP))) fun o6=>?_
 refine bo (cz (Ad.cN (cH zP))) fun o7=>?_
 (repeat (refine wA ?_;intros))
 refine aZ rfl rfl (Ct.at zP (rW _ e gl ld lk seed ls v b (hv.cN zE))) ?_;rintro _ _ ⟨rfl,rfl⟩
 by_cases fS:b∈ls.cI
 ·have lO:s.fH c ls.cI b now=(2,(lC ls.cI b:Int),s):=by unfold pq.fH;rw [aB (fun q=>q hm),aH fS]
  rw [lO,aH fS,ay fS];refine wB ?_;apply bB
  ·exact zV
  exact ⟨eS g d gl c s::db gl ld lk seed ls::R,cn (show cC _ (Fb g d gl c s a M (db gl ld lk seed ls::R)) from zE) (rf ha),rfl,rfl⟩
 rw [aB fS,aq fS];refine wB ?_;refine aZ rfl rfl (Ct.at zP (JB _ e a.gq c.room c.size c.wait a.l v b (hv.cN zE) (by have:=ha.st.Ej;omega))) ?_;rintro _ _ ⟨rfl,rfl⟩;rw [LM ha.O6]
 by_cases hq:b∈s.q.map (·.1)
 ·have lO:s.fH c ls.cI b now=(1,Cf s.recs b,s):=by unfold pq.fH;rw [aB (fun q=>q hm),aB fS,aH hq]
  rw [lO,ay hq];refine wB ?_;refine aZ rfl rfl (Ct.cN (zj (cM g6 [.int .i64 0,.int .i64 0] 254 (0,0)::db gl ld lk seed ls::R) e g d gl c s v b (hv.cN zE)) (cn (show cC _ (Fb g d gl c s a M (cM g6 [.int .i64 0,.int .i64 0] 254 (0,0)::db gl ld lk seed ls::R)) from zE) (rf ha))) ?_;rintro _ _ ⟨rfl,rfl⟩;refine wB ?_;apply bB
  ·exact zV
  exact ⟨eS g d gl c s::db gl ld lk seed ls::R,zE,rfl,rfl⟩
 rw [aq hq];have xU:=nN (l:=s.recs) (n:=200) (fun m hm=>(ha.st.uE m hm).2);have MR:s.recs.length≤(fi s.recs).length:=Ca _;have vN:(fi s.recs).length+b.length+8≤1048576:=by omega
 obtain ⟨p1,p2,p3⟩:=add_plain (m:=b) (sy:=(fi s.recs).length) vN;refine wB ?_;refine bl (id:=9) [] (cM g [pt a.gj,pt gl,pt a.gq,.int .i64 (c.room:Int),.slice a.ar a.ts.length a.cr] yg (0,0)::R) mixed ?_
 (refine tM 0 ?_;refine tN 1 ?_;refine tF 2 ?_;refine tL 3 ?_;refine tM 5 ?_;refine tN 6 ?_;refine tF 7 ?_;refine tL 8 ?_)
 refine tO 4 ?_;refine bg rfl rfl (Ct.at zP (Jy _ e a.gq c.room c.size c.wait a.l)) ?_;rintro _ _ ⟨rfl,rfl⟩;refine ⟨fun _=>zE,?_⟩
 by_cases pD:c.room≤s.q.length
 ·have lO:s.fH c ls.cI b now=(3,0,s):=by unfold pq.fH;rw [aB (fun q=>q hm),aB fS,aB hq,aH pD]
  rw [lO]
  (refine tk 9 (.bool true) rfl (cE.iX (bU rfl rfl) zy) ?_;refine tM 10 ?_;refine bc 11 rfl rfl zK zE rfl ?_;refine bc 12 rfl rfl zK zE rfl ?_;refine bc 13 rfl rfl zK zE rfl ?_;refine bc 14 rfl rfl zK zE rfl ?_;refine bc 15 rfl rfl zK zE rfl ?_)
  refine bc 16 rfl rfl zK zE rfl ?_
  (refine bc 17 rfl rfl zK zE rfl ?_;refine tk 18 _ rfl (bM rfl rfl) ?_;refine tA 19 ?_)
  refine bf zK ?_;refine wB ?_;apply bB
  ·exact zV
  exact ⟨eS g d gl c s::db gl ld lk seed ls::R,cn (show cC _ (Fb g d gl c s a M (db gl ld lk seed ls::R)) from zE) (rf ha),rfl,rfl⟩
 have lO:s.fH c ls.cI b now=(1,(s.recs.length:Int),⟨s.recs++[b],s.q++[(b,now)]⟩):=by unfold pq.fH;rw [aB (fun q=>q hm),aB fS,aB hq,aB pD]
 rw [lO]
 (refine tk 9 (.bool false) rfl (cE.no (bU rfl rfl) zn) ?_;refine tM 10 ?_;refine du 11 _ rfl (bw rfl) ?_;refine du 12 _ rfl (bp rfl) ?_;refine du 13 _ rfl (bb rfl) ?_;refine du 14 _ rfl (bq rfl zR) ?_;refine du 15 _ rfl (bw rfl) ?_)
 refine A.pi 16 rfl rfl zK ?_;have LI:=fun L:List cK=>fun Ql:da L v b=>nL L e a.gj d s.recs.length (m3 (fi s.recs) (fi s.recs).length) b v (tf zo (aT _)) Ql zo zo
 rw [p1,p2,p3] at LI
 refine bg rfl rfl (Ct.C9 zP zP (LI _ (hv.cN zE))) ?_;rintro _ _ ⟨rfl,rfl⟩;refine ⟨fun _=>zE,?_⟩
 (refine du 17 (.bool false) rfl (cE.no (b8 rfl rfl) zn) ?_;refine tk 18 _ rfl (bJ rfl rfl) ?_;refine tA 19 ?_)
 refine bf zK ?_;refine wB ?_;refine W.ir [(0,pt g),(1,v),(2,.int .i64 now),(6,pt g6)] zS ?_;refine bl (id:=11) [9,10,11] (cM g [pt a.gj,pt gl,pt a.gq,.int .i64 (c.room:Int),.slice a.ar a.ts.length a.cr] yg (0,0)::R) mixed ?_
 (refine tM 0 ?_;refine tM 1 ?_;refine tN 2 ?_;refine tF 3 ?_;refine tL 4 ?_;refine tM 5 ?_)
 refine tO 6 ?_;refine bg rfl rfl (dy _ e v b (hv.cN zE) zo) ?_;rintro _ _ ⟨dW,k1,rfl,rfl⟩;refine ⟨fun _=>zE,?_⟩;refine tO 7 ?_;refine bF (n:=1) (z:=nY) (cs:=[.slice dW b.length k1]) rfl rfl rfl rfl zQ rfl (fun g1=>⟨fun _=>zE,?_⟩);refine tO 8 ?_;refine bm rfl rfl rfl zP (bu .zero rfl zl) rfl rfl zO zm zo fun dS k2 _=>?_
 refine ⟨fun _=>zE,?_⟩
 ((refine tO 9 ?_;refine dV (bp rfl) ?_);(refine tO 10 ?_;refine dV (bb rfl) ?_);(refine tO 11 ?_;refine tZ ?_;refine ⟨zN,?_⟩))
 refine bf zK ?_;refine wB ?_;refine aZ rfl rfl (Ct.at zP (Jz _ e a.gq c.room c.size c.wait a.l v b now (hv.cN zE) zo zo (by have:=ha.Cc.room;omega))) ?_;rintro _ _ (⟨-,rfl,v2,rfl⟩|⟨lF,-,-⟩)
 rotate_left
 ·exact absurd zo lF
 refine wB ?_;obtain ⟨M2,Cb⟩:∃ M2:cK,M2=dI [M,cR (.slice dW b.length k1) b]:=⟨_,rfl⟩
 have eW:cC [M2] [M]:=by rw [Cb];exact cn (cW (M:=[_,_]) (L:=[])) (bh bK)
 have iH:cC [M2] [cR (.slice dW b.length k1) b]:=by rw [Cb];exact cn (cW (M:=[_,_]) (L:=[])) (cC.drop (bh bK))
 have kQ:yh.ok ⟨a.gj,a.gq,dS,k2,a.ts++[(.slice dW b.length k1,b)],a.l++[⟨v2,b,now⟩]⟩ M2 c ⟨s.recs++[b],s.q++[(b,now)]⟩:=by
  refine ⟨?_,fun x hx=>?_,?_,⟨?_,fun x hx=>?_,?_,fun x hx=>?_,fun x hx=>?_⟩,ha.Cc⟩
  ·show (a.ts++[((.slice dW b.length k1:Value),b)]).map (·.2)=_
   rw [ah,ha.recs];rfl
  ·rcases aJ.1 hx with hx|hx
   ·exact (ha.zf x hx).cN eW
   ·rw [an.1 hx];exact cF.cN (ba .zero) iH
  ·show (a.l++[(⟨v2,b,now⟩:jG)]).map (fun m=>(m.b,m.iB))=_
   rw [ah,ha.O6];rfl
  ·rw [aa];show _+1≤_;omega
  ·rcases aJ.1 hx with hx|hx
   ·exact ha.st.uE x hx
   ·rw [an.1 hx];exact ⟨hm,hb⟩
  ·rw [aa];show _+1≤_;omega
  ·rcases aJ.1 hx with hx|hx
   ·exact ha.st.p9 x hx
   ·rw [an.1 hx];exact hb
  ·rcases aJ.1 hx with hx|hx
   ·exact ha.st.ye x hx
   ·rw [an.1 hx]
    show -9223372036854775808≤now∧now≤1000000
    omega
 apply bB
 ·exact zV
 refine ⟨eS g d gl c ⟨s.recs++[b],s.q++[(b,now)]⟩::db gl ld lk seed ls::R,cn ?_ (rf kQ),by rw [l1];rfl,rfl⟩;have Wx:fi (s.recs++[b])=fi s.recs++fG b:=nO _ _;simp only [Fb,cU,aa,aj,ah,List.map_cons,List.map_nil,Wx];rw [Cb];exact cn (eu (A:=M) (B:=cR (.slice dW b.length k1) b) zP zP) zE
def LN (q:List (dA × Int)) (s w:Nat) (now:Int):Bool:=match q with
 | []=>false
 | x::_=>decide (s≤q.length∨x.2 = -9223372036854775808∨(x.2≤now∧(w:Int)≤now - x.2))
theorem Tn {l:List jG} {q:List (dA × Int)} (h:l.map (fun m=>(m.b,m.iB))=q) (s w:Nat) (now:Int):due l s w now=LN q s w now:=by
 cases l with
 | nil=>rw [← h];rfl
 | cons m l=>rw [← h];simp [due,LN]
def pq.oL (c:nS) (s:pq) (now:Int):Bool:=LN s.q c.size c.wait now
def pq.yj (c:nS) (s:pq):pq:={ s with q:=s.q.drop c.size }
def pq.some (c:nS) (s:pq):List dA:=(s.q.take c.size).map (·.1)
theorem GF (g d gl ld lk:Nat) (seed:dA) (ls:gM) (c:nS) (s:pq) (now:Int) (hn:0≤now∧now≤1000000) (hc:ls.cI.length+(ls.fresh (s.some c)).length≤256) :
 Ct prog 169 #[pt g,.int .i64 now] e (eS g d gl c s::db gl ld lk seed ls::R) (fun v' L'=>(s.oL c now=false∧v'=.tuple #[nY,.int .i64 0]∧L'=eS g d gl c s::db gl ld lk seed ls::R)∨(s.oL c now=true∧∃ (ao:Option Addr) (co:Nat),v'=.tuple #[.slice ao (s.some c).length co,.int .i64 0]∧L'=eS g d gl c (s.yj c)::db gl ld lk seed (ls.add (s.some c))::R)):=by
 refine Ce fun a M ha=>?_
 obtain ⟨l1,l2⟩:=ha.len;have hqs:=ha.st.Ej;have Iz:=ha.Cc.size;refine a8 (args:=[_,_]) func169 rfl ntmps169 results169 rfl ?_;refine wB ?_
 have C0:∀ m∈a.l,-9223372036854775808≤m.iB∧m.iB≤9223372036854775807:=fun m hm=>by
  have:=ha.st.ye (m.b,m.iB) (by rw [← ha.O6];exact aD.2 ⟨m,hm,rfl⟩);dsimp only at this
  omega
 have nZ:∀ m∈a.l,m.b.length≤200:=fun m hm=>ha.st.p9 (m.b,m.iB) (by rw [← ha.O6];exact aD.2 ⟨m,hm,rfl⟩)
 refine aZ rfl rfl (Ct.at zP (JA _ e a.gq c.room c.size c.wait a.l now (by have:=ha.Cc.wait;omega) zo zo zo C0)) ?_;rintro _ _ ⟨rfl,rfl⟩;have Ek:due a.l c.size c.wait now=s.oL c now:=Tn ha.O6 _ _ _;rw [Ek]
 cases hd:s.oL c now with
 | false =>
  refine wB ?_;exact aY (eS g d gl c s::db gl ld lk seed ls::R) rfl (cn (show cC _ (Fb g d gl c s a M (db gl ld lk seed ls::R)) from zE) (rf ha)) (.inl ⟨rfl,rfl,rfl⟩)
 | true =>
  refine wB ?_;refine aZ rfl rfl (Ct.at zP (Gy _ e a.gq c.room c.size c.wait a.l (fun m hm=>by have:=nZ m hm;omega) zo zo)) ?_;rintro _ _ ⟨ad,k,ts,rfl,fx,rfl⟩;refine wB ?_
  have ze:ts.map (·.2)=s.some c:=by
   rw [fx];unfold pq.some;rw [← ha.O6,← List.map_take,List.map_map]
   rfl
  have mw:ts.length=(s.some c).length:=by rw [← ze,ab]
  have abw:ts.length≤8:=by have:=congrArg List.length fx;rw [ab,ab,aE] at this;omega
  have IC:∀ x∈ts,x.2.length≤200:=fun x hx=>by
   have:x.2∈(a.l.take c.size).map jG.b:=by rw [← fx];exact aD.2 ⟨x,hx,rfl⟩
   obtain ⟨m,hm,hmb⟩:=aD.1 this;rw [← hmb];exact nZ m (aN hm)
  have pJ:=fun L:List cK=>fun (h1:cF L 1 (.slice ad ts.length k) ts.length (ts.map (·.1))) (h2:dE L ts)=>Js L e gl ld lk seed ls (.slice ad ts.length k) ts h1 h2 zo IC (by rw [ze];exact hc)
  rw [ze] at pJ
  refine aZ rfl rfl (Ct.at zP (pJ _ (ba zP) (dE.ea zP))) ?_;rintro _ _ ⟨ao,co,outs,rfl,lN,rfl⟩;have y7:outs.length=(s.some c).length:=by rw [lN,ab]
  rw [y7];refine wB ?_
  have kQ:yh.ok { a with l:=a.l.drop c.size } M c (s.yj c):=by
   refine ⟨ha.recs,ha.zf,?_,⟨ha.st.size,ha.st.uE,?_,fun x hx=>ha.st.p9 x (aS hx),fun x hx=>ha.st.ye x (aS hx)⟩,ha.Cc⟩
   ·show (a.l.drop c.size).map (fun m=>(m.b,m.iB))=s.q.drop c.size
    rw [List.map_drop,ha.O6]
   ·show (s.q.drop c.size).length≤1000
    rw [aP];omega
  exact aY (eS g d gl c (s.yj c)::db gl ld lk seed (ls.add (s.some c))::R) rfl (cn (show cC _ (Fb g d gl c (s.yj c) { a with l:=a.l.drop c.size } M (db gl ld lk seed (ls.add (s.some c))::R)) from zE) (rf kQ)) (.inr ⟨rfl,ao,co,rfl,rfl⟩)
theorem El:∀ (q:Nat) (R:List cK) (e:World) (ad:Option Addr) (cap:Nat) (ts:List dX) (m n:Nat) (w:Bool) (v:Value) (old:List UInt8),ts.length=q→cF R 1 (.slice ad ts.length cap) ts.length (ts.map (·.1))→dE R ts→(∀ a∈ts,a.2.length≤1000000)→ts.length≤1000000→n<9223372036854775808→1≤m→m≤n→da R v old→old.length≤1000000 →
 Ct prog 295 #[.slice ad ts.length cap,.int .i64 (m:Int),.int .i64 (n:Int),v,.bool w] e R (fun v' L'=>∃ (As:List cK) (v1 v2:Value) (a b:List UInt8),v'=.tuple #[v1,v2,.bool (decide (ts.length=io m n w))]∧(ts.length=io m n w→(a,b)=iA m n w (ts.map (·.2)) old)∧a.length≤1000000∧b.length≤1000000∧L'=As++R∧da (As++R) v1 a∧da (As++R) v2 b):=by
 intro q
 induction q using Nat.strongRecOn with
 | _ q ih =>
 intro R e ad cap ts m n w v old hq hv ht kD hl hn Nr BP hb nZ;refine a8 (args:=[_,_,_,_,_]) func295 rfl ntmps295 results295 rfl ?_
 by_cases he:m=n
 ·subst he
  cases w
  ·refine wB ?_;refine aZ rfl rfl (uz _ e ad cap ts hv hl) ?_;rintro _ _ ⟨⟨rfl,rfl⟩|⟨us,a,rfl,rfl⟩,rfl⟩
   ·refine wB ?_;exact aY R rfl aX ⟨[],nY,nY,[],[],by rw [kU,aq (by simp)];rfl,fun h=>(by rw [kU] at h;simp at h),by simp,by simp,rfl,da.nil _,da.nil _⟩
   have ha:da R a.1 a.2:=ht a (aJ.2 (.inr (an.2 rfl)));have qy:=kD a (aJ.2 (.inr (an.2 rfl)))
   by_cases h0:us.length=0
   ·refine wB ?_;exact aY R rfl aX ⟨[],a.1,a.1,a.2,a.2,by rw [kU,ay (by rw [aa,aj,h0])];rfl,fun h=>(by rw [p7,mn]),qy,qy,rfl,ha,ha⟩
   ·refine wB ?_;exact aY R rfl aX ⟨[],a.1,a.1,a.2,a.2,by rw [kU,aq (by rw [aa,aj];omega)];rfl,fun h=>(by rw [p7,mn]),qy,qy,rfl,ha,ha⟩
  ·by_cases h0:ts.length=0
   ·refine wB ?_;exact aY R rfl aX ⟨[],v,v,old,old,by rw [qC,ay h0];rfl,fun h=>(by rw [rU]),nZ,nZ,rfl,hb,hb⟩
   ·refine wB ?_;exact aY R rfl aX ⟨[],v,v,old,old,by rw [qC,aq h0];rfl,fun h=>(by rw [rU]),nZ,nZ,rfl,hb,hb⟩
 have h2:2≤n:=by omega
 have hs:=dw h2;have ui:=fun h=>xW (w:=w) he h2 h
 have IZ:=fun h=>xX (w:=w) he h2 h
 have PS:=fun p h=>AQ (w:=w) (p:=p) (old:=old) he h2 h
 have PT:=fun p h=>AR (w:=w) (p:=p) (old:=old) he h2 h
 have yV:0<io m n w:=by
  by_cases h:m≤cO n
  ·rw [ui h];omega
  ·rw [IZ h];omega
 refine wB ?_;refine aZ rfl rfl (uz _ e ad cap ts hv hl) ?_;rintro _ _ ⟨⟨rfl,rfl⟩|⟨us,a,rfl,rfl⟩,rfl⟩
 ·refine wB ?_;exact aY R rfl aX ⟨[],nY,nY,[],[],by rw [aq (by simp;omega)];rfl,fun h=>(by simp at h;omega),by simp,by simp,rfl,da.nil _,da.nil _⟩
 have qL:(us++[a]).length=us.length+1:=by rw [aa,aj]
 have kh:=HF hv;have SJ:dE R us:=fun x hx=>ht x (aJ.2 (.inl hx))
 have ha:da R a.1 a.2:=ht a (aJ.2 (.inr (an.2 rfl)));have qy:=kD a (aJ.2 (.inr (an.2 rfl)));have SK:∀ x∈us,x.2.length≤1000000:=fun x hx=>kD x (aJ.2 (.inl hx))
 refine wB ?_;refine aZ rfl rfl (my R e n zo) ?_;rintro _ _ ⟨rfl,rfl⟩;rw [jd]
 generalize cO n=k at *
 have Qm:∀ {v:Value} {b:List UInt8} (h:da R v b) (As:List cK),da (As++R) v b:=fun h As=>by
  induction As with
  | nil=>exact h
  | cons A As ih=>exact ih.tail
 by_cases xt:m≤k
 ·refine wB ?_;refine aZ rfl rfl (ih us.length zo R e ad cap us m k w v old rfl kh SJ SK zo zo Nr xt hb nZ) ?_;rintro _ _ ⟨As,v1,v2,x,y,rfl,h7,h8,h9,rfl,To,Tp⟩;refine wB ?_;refine aZ rfl rfl (mi _ e _ _ _ _ Tp (Qm ha As) h9 qy) ?_;rintro _ _ ⟨ep,c3,rfl,rfl⟩;refine wB ?_;refine aY (cR (.slice ep (ew y a.2).length c3) (ew y a.2)::(As++R)) rfl aX ⟨cR (.slice ep (ew y a.2).length c3) (ew y a.2)::As,v1,.slice ep (ew y a.2).length c3,x,ew y a.2,?_,fun h=>?_,h8,by rw [ew,de];omega,rfl,To.tail,ba .zero⟩
  ·rw [qL,ui xt,decide_eq_decide.2 (show us.length=io m k w↔us.length+1=io m k w+1 by omega)];rfl
  ·rw [qL,ui xt] at h
   rw [PS _ xt,lW,mn,← h7 zo]
 ·refine wB ?_;rw [show ((m:Nat):Int) - ((k:Nat):Int)=((m - k:Nat):Int) by omega,show ((n:Nat):Int) - ((k:Nat):Int)=((n - k:Nat):Int) by omega];refine aZ rfl rfl (ih us.length zo R e ad cap us (m - k) (n - k) false v old rfl kh SJ SK zo zo zo zo hb nZ) ?_;rintro _ _ ⟨As,v1,v2,x,y,rfl,h7,h8,h9,rfl,To,Tp⟩;refine wB ?_;refine aZ rfl rfl (mi _ e _ _ _ _ (Qm ha As) To qy h8) ?_;rintro _ _ ⟨ep,c3,rfl,rfl⟩
  (repeat (refine wA ?_;intros))
  refine aZ rfl rfl (mi _ e _ _ _ _ (Qm ha As).tail Tp.tail qy h9) ?_;rintro _ _ ⟨gZ,c4,rfl,rfl⟩;refine wB ?_;refine aY (cR (.slice gZ (ew a.2 y).length c4) (ew a.2 y)::cR (.slice ep (ew a.2 x).length c3) (ew a.2 x)::(As++R)) rfl aX ⟨cR (.slice gZ (ew a.2 y).length c4) (ew a.2 y)::cR (.slice ep (ew a.2 x).length c3) (ew a.2 x)::As,.slice ep (ew a.2 x).length c3,.slice gZ (ew a.2 y).length c4,ew a.2 x,ew a.2 y,?_,fun h=>?_,by rw [ew,de];omega,by rw [ew,de];omega,rfl,ba (.succ .zero),ba .zero⟩
  ·rw [qL,IZ xt,decide_eq_decide.2 (show us.length=io (m - k) (n - k) false↔us.length+1=io (m - k) (n - k) false+1 by omega)];rfl
  ·rw [qL,IZ xt] at h
   rw [PT _ xt,lW,mn,← h7 zo]
def yl (n m:Int) (ts:List dX) (old:List UInt8):Prop:=jF ts=true∧0<n∧n<m∧old.length=32∧ts.length=io n.toNat m.toNat true
instance (n m:Int) (ts:List dX) (old:List UInt8):Decidable (yl n m ts old):=by unfold yl;infer_instance
abbrev mI (n m:Int) (ts:List dX) (old:List UInt8):List UInt8 × List UInt8:=iA n.toNat m.toNat true (ts.map (·.2)) old
theorem Em (n m:Int) (vp vb:Value) (ts:List dX) (b:List UInt8) (h1:-9223372036854775808≤n∧n≤9223372036854775807) (h2:-9223372036854775808≤m∧m≤9223372036854775807) (hv:cF R 1 vp ts.length (ts.map (·.1))) (ht:dE R ts) (hb:da R vb b) :
 Ct prog 262 #[.agg #[.int .i64 n,.int .i64 m,vp],vb] e R (fun v' L' =>
  (yl n m ts b∧∃ ad c lE c',v'=.tuple #[.slice ad (mI n m ts b).1.length c,.slice lE (mI n m ts b).2.length c',.bool true]∧L'=cR (.slice lE (mI n m ts b).2.length c') (mI n m ts b).2::cR (.slice ad (mI n m ts b).1.length c) (mI n m ts b).1::R) ∨
  (¬ yl n m ts b∧v'=.tuple #[nY,nY,.bool false]∧R=L')):=by
 refine a7 (hv.shape zo) ?_;rintro ⟨⟨ad,cap,rfl,h3,h4,h5,h6⟩,_⟩;refine a8 (args:=[_,_]) func262 rfl ntmps262 results262 rfl ?_
 (repeat (refine wA ?_;intros))
 rename_i g;refine aZ rfl rfl (m0 _ e _ ts hv.tail ht.tail) ?_;rintro _ _ ⟨rfl,rfl⟩
 by_cases hr:jF ts=true
 rotate_left
 ·rw [show jF ts=false by simpa using hr];refine wB ?_;exact aY R rfl zE (.inr ⟨fun h=>hr h.1,rfl,rfl⟩)
 rw [hr];obtain ⟨r1,r2⟩:=rJ.1 hr
 by_cases h0:0<n
 rotate_left
 ·refine wB ?_;exact aY R rfl zE (.inr ⟨fun h=>h0 h.2.1,rfl,rfl⟩)
 by_cases cQ:n<m
 rotate_left
 ·refine wB ?_;exact aY R rfl zE (.inr ⟨fun h=>cQ h.2.2.1,rfl,rfl⟩)
 refine wB ?_;refine aZ rfl rfl (sO _ e _ b hb.tail) ?_;rintro _ _ ⟨rfl,rfl⟩
 by_cases jD:b.length=32
 rotate_left
 ·rw [aq jD];refine wB ?_;exact aY R rfl zE (.inr ⟨fun h=>jD h.2.2.2.1,rfl,rfl⟩)
 rw [ay jD];obtain ⟨i,rfl⟩:=Int.eq_ofNat_of_zero_le (show 0≤n by omega);obtain ⟨j,rfl⟩:=Int.eq_ofNat_of_zero_le (show 0≤m by omega);refine wB ?_;refine aZ rfl rfl (El ts.length _ e ad cap ts i j true vb b rfl hv.tail ht.tail (fun a ha=>by have:=r2 a ha;omega) zo zo zo zo hb.tail zo) ?_;rintro _ _ ⟨As,v1,v2,x,y,rfl,h7,h8,h9,rfl,To,Tp⟩
 have O7:∀ (As:List cK) (M:List cK),cC (As++M) M:=fun As M=>by
  induction As with
  | nil=>exact aX
  | cons A As ih=>exact cC.drop ih
 by_cases E7:ts.length=io i j true
 ·rw [ay E7];have h12:=h7 E7;have e1:mI (i:Int) (j:Int) ts b=(x,y):=h12.symm;rw [e1];dsimp only;refine wB ?_;refine aZ rfl rfl (dy _ e _ x To zo) ?_;rintro _ _ ⟨dW,c1,rfl,rfl⟩
  (repeat (refine wA ?_;intros))
  refine aZ rfl rfl (dy _ e _ y Tp.tail zo) ?_;rintro _ _ ⟨dS,c2,rfl,rfl⟩;refine wB ?_;exact aY (cR (.slice dS y.length c2) y::cR (.slice dW x.length c1) x::R) rfl (bh (bh (cn (O7 As _) (cC.drop aX)))) (.inl ⟨⟨hr,h0,cQ,jD,E7⟩,dW,c1,dS,c2,rfl,rfl⟩)
 ·rw [aq E7];refine wB ?_;exact aY R rfl (cn (O7 As _) (cC.drop aX)) (.inr ⟨fun h=>E7 h.2.2.2.2,rfl,rfl⟩)
def oM (n m:Int) (ts:List dX) (old now:List UInt8):Prop :=
 (n=m∧0≤n∧ts.length=0∧old.length=32∧old=now)∨(n=0∧n<m∧ts.length=0∧old=rB []∧now.length=32)∨(yl n m ts old∧(mI n m ts old).1=old∧(mI n m ts old).2=now)
instance (n m:Int) (ts:List dX) (old now:List UInt8):Decidable (oM n m ts old now):=by unfold oM;infer_instance
theorem ym (n m:Int) (vp vb vn:Value) (ts:List dX) (b now:List UInt8) (h1:-9223372036854775808≤n∧n≤9223372036854775807) (h2:-9223372036854775808≤m∧m≤9223372036854775807) (hv:cF R 1 vp ts.length (ts.map (·.1))) (ht:dE R ts) (hb:da R vb b) (hw:da R vn now) :
 Ct prog 196 #[.agg #[.int .i64 n,.int .i64 m,vp],vb,vn] e R (fun v' L'=>v'=.bool (decide (oM n m ts b now))∧R=L'):=by
 refine a7 (hv.shape zo) ?_;rintro ⟨⟨ad,cap,rfl,h3,h4,h5,h6⟩,_⟩;refine a8 (args:=[_,_,_]) func196 rfl ntmps196 results196 rfl ?_
 by_cases h0:0≤n
 rotate_left
 ·rw [aq (by rintro (h|h|h);(omega);(omega);(have:=h.1.2.1;omega))]
  (repeat (refine wA ?_;intros))
  exact aY R rfl zE ⟨rfl,rfl⟩
 by_cases HH:n≤m
 rotate_left
 ·rw [aq (by rintro (h|h|h);(omega);(omega);(have:=h.1.2.2.1;omega))]
  (repeat (refine wA ?_;intros))
  exact aY R rfl zE ⟨rfl,rfl⟩
 by_cases he:n=m
 ·by_cases tR:ts.length=0
  rotate_left
  ·rw [aq (by rintro (h|h|h);(omega);(omega);(have:=h.1.2.2.1;omega))]
   (repeat (refine wA ?_;intros))
   exact aY R rfl zE ⟨rfl,rfl⟩
  (repeat (refine wA ?_;intros))
  refine aZ rfl rfl (sO _ e _ b hb.tail) ?_;rintro _ _ ⟨rfl,rfl⟩
  by_cases jD:b.length=32
  rotate_left
  ·rw [aq jD,aq (by rintro (h|h|h);(omega);(omega);(have:=h.1.2.2.1;omega))];refine wB ?_;exact aY R rfl zE ⟨rfl,rfl⟩
  rw [ay jD];refine wB ?_;refine aZ rfl rfl (iL _ e _ _ b now hb.tail hw.tail) ?_;rintro _ _ ⟨rfl,rfl⟩
  by_cases hs:b=now
  ·rw [ay hs,ay (.inl ⟨he,h0,tR,jD,hs⟩)];refine wB ?_;exact aY R rfl zE ⟨rfl,rfl⟩
  ·rw [aq hs,aq (by rintro (h|h|h);(exact hs h.2.2.2.2);(omega);(have:=h.1.2.2.1;omega))];refine wB ?_;exact aY R rfl zE ⟨rfl,rfl⟩
 by_cases hz:n=0
 ·by_cases tR:ts.length=0
  rotate_left
  ·rw [aq (by rintro (h|h|h);(omega);(omega);(have:=h.1.2.1;omega))]
   (repeat (refine wA ?_;intros))
   exact aY R rfl zE ⟨rfl,rfl⟩
  (repeat (refine wA ?_;intros))
  refine aZ rfl rfl (sH _ e _ [] (da.nil _) (by simp)) ?_;rintro _ _ ⟨dS,c2,rfl,rfl⟩
  (repeat (refine wA ?_;intros))
  refine aZ rfl rfl (iL _ e _ _ b (rB []) hb.tail.tail (ba .zero)) ?_;rintro _ _ ⟨rfl,rfl⟩
  by_cases hs:b=rB []
  rotate_left
  ·rw [aq hs,aq (by rintro (h|h|h);(omega);(exact hs h.2.2.2.1);(have:=h.1.2.1;omega))];refine wB ?_;exact aY R rfl zE ⟨rfl,rfl⟩
  rw [ay hs];refine wB ?_;refine aZ rfl rfl (sO _ e _ now hw.tail.tail) ?_;rintro _ _ ⟨rfl,rfl⟩
  by_cases jD:now.length=32
  ·rw [ay jD,ay (.inr (.inl ⟨hz,by omega,tR,hs,jD⟩))];refine wB ?_;exact aY R rfl zE ⟨rfl,rfl⟩
  ·rw [aq jD,aq (by rintro (h|h|h);(omega);(exact jD h.2.2.2.2);(have:=h.1.2.1;omega))];refine wB ?_;exact aY R rfl zE ⟨rfl,rfl⟩
 (repeat (refine wA ?_;intros))
 refine aZ rfl rfl (Em _ e n m _ vb ts b h1 h2 hv.tail ht.tail hb.tail) ?_;rintro _ _ (⟨kQ,dW,c1,dS,c2,rfl,rfl⟩|⟨kQ,rfl,rfl⟩)
 rotate_left
 ·rw [aq (by rintro (h|h|h);(omega);(omega);(exact kQ h.1))];refine wB ?_;exact aY R rfl zE ⟨rfl,rfl⟩
 refine wB ?_;refine aZ rfl rfl (iL _ e _ _ _ b (ba (.succ .zero)) hb.tail.tail.tail) ?_;rintro _ _ ⟨rfl,rfl⟩
 by_cases hs:(mI n m ts b).1=b
 rotate_left
 ·rw [aq hs,aq (by rintro (h|h|h);(omega);(omega);(exact hs h.2.1))];refine wB ?_;exact aY R rfl zE ⟨rfl,rfl⟩
 rw [ay hs];refine wB ?_;refine aZ rfl rfl (iL _ e _ _ _ now (ba .zero) hw.tail.tail.tail) ?_;rintro _ _ ⟨rfl,rfl⟩
 by_cases kY:(mI n m ts b).2=now
 ·rw [ay kY,ay (.inr (.inr ⟨kQ,hs,kY⟩))];refine wB ?_;exact aY R rfl zE ⟨rfl,rfl⟩
 ·rw [aq kY,aq (by rintro (h|h|h);(omega);(omega);(exact kY h.2.2))];refine wB ?_;exact aY R rfl zE ⟨rfl,rfl⟩
theorem JD (l:List (List UInt8)):iS l l.length=[]:=by rw [iS,aB zo]
theorem GG (l:List (List UInt8)):iS l 0=[]:=by rw [iS,aB zo]
theorem LO {ts out:List dX} {m:Nat} (ho:out.map (·.2)=iS (ts.map (·.2)) m) (hm:m≤ts.length) (hl:ts.length≤32768):out.length≤16:=by
 have h1:=congrArg List.length ho;rw [ab] at h1
 by_cases fS:0<m∧m<(ts.map (·.2)).length
 ·rw [iS,aH fS,lr _ m _ true rfl zo zo] at h1
  have:=nR 15 (ts.map (·.2)).length m true (by rw [ab];omega)
  omega
 ·rw [iS,aB fS,List.length_nil] at h1
  omega
theorem wG {ts out:List dX} {m:Nat} (ho:out.map (·.2)=iS (ts.map (·.2)) m) (hm:m≤ts.length) (jD:∀ a∈ts,a.2.length=32) (hl:ts.length≤32768) :
 oM (m:Int) (ts.length:Int) out (dR ((ts.take m).map (·.2))) (dR (ts.map (·.2))):=by
 have h3:∀ a∈ts.map (·.2),a.length=32:=fun a ha=>by
  obtain ⟨y,hy,rfl⟩:=aD.1 ha;exact jD y hy
 have NQ:=LO ho hm hl
 by_cases he:m=ts.length
 ·subst he;have e1:=JD (ts.map (·.2));rw [ab] at e1
  rw [e1] at ho
  have h0:out.length=0:=by have:=congrArg List.length ho;simpa using this
  rw [List.take_length];exact .inl ⟨rfl,by omega,h0,gH h3,rfl⟩
 by_cases hz:m=0
 ·subst hz;rw [GG] at ho
  have h0:out.length=0:=by have:=congrArg List.length ho;simpa using this
  exact .inr (.inl ⟨rfl,by omega,h0,by rw [List.take_zero];exact j0,gH h3⟩)
 have fS:0<m∧m<(ts.map (·.2)).length:=⟨by omega,by rw [ab];omega⟩
 rw [iS,aH fS] at ho
 have h1:out.length=io m ts.length true:=by
  have:=congrArg List.length ho
  rwa [ab,lr _ m _ true rfl zo zo,ab] at this
 have h4:∀ a∈out,a.2.length=32:=fun a ha=>by
  have:a.2∈out.map (·.2):=aD.2 ⟨a,ha,rfl⟩;rw [ho] at this
  exact AS _ _ _ _ rfl h3 _ this
 have h5:=Gt (ts.map (·.2)).length m (ts.map (·.2)) true (dR ((ts.take m).map (·.2))) rfl zo zo (fun _=>by rw [List.map_take]);rw [ab,← ho] at h5
 have h6:((ts.take m).map (·.2))=(ts.map (·.2)).take m:=List.map_take;refine .inr (.inr ⟨⟨rJ.2 ⟨NQ,h4⟩,by omega,by omega,gH fun a ha=>h3 a (aN (h6 ▸ ha)),h1⟩,?_,?_⟩)
 ·exact (congrArg Prod.fst h5).trans (by rw [h6])
 ·exact congrArg Prod.snd h5
structure eX where
 recs:List iM
 keys:Nat
 dO:kF
 some:Bool
def Qn:iM:=⟨0,rB []⟩
def ig:kF:=⟨0,⟨0,[],[]⟩⟩
def eX.c (s:eX):iM:=s.recs.getLast?.getD Qn
def recC (c:iM):dA:=be c.size 4++c.root
def eX.jb (s:eX):dA:=fi (s.recs.map recC)
structure eX.ok (s:eX):Prop where
 right:∀ c∈s.recs,c.right
 Cg:(s.recs.map (·.size)).Pairwise (·<·)
 pos:∀ c∈s.recs,0<c.size
 keys:s.keys≤16
 fits:s.dO.sig.fits
theorem j6 {c:iM} (h:c.right):(recC c).length=36:=by unfold recC;rw [aa,cY,h.2]
theorem eX.tt {s:eX} (h:s.ok):s.c.right:=by
 unfold eX.c
 cases hl:s.recs.getLast? with
 | none=>exact ⟨aG _,jT _⟩
 | some c=>exact h.right c (List.mem_of_getLast? hl)
theorem JE (vr:Value) (c:iM) (hv:da R vr c.root) (hc:c.right) :
 Ct prog 111 #[.agg (gX c vr).toArray] e R (fun v' L'=>∃ ad k,v'=.slice ad (recC c).length k∧L'=cR (.slice ad (recC c).length k) (recC c)::R):=by
 have tQ:=hc.1;have rm:=hc.2;refine a7 (cz hv) fun ho=>?_
 refine a8 (args:=[_]) func111 rfl ntmps111 results111 rfl ?_
 (repeat (refine wA ?_;intros))
 refine aZ rfl rfl (ji _ e) ?_;rintro _ _ ⟨gw,rfl,rfl⟩;refine wB ?_;refine aZ rfl rfl (gG _ e gw [] c.size zo (by decide)) ?_;rintro _ _ ⟨rfl,rfl⟩;refine wB ?_;refine aZ rfl rfl (hH _ e gw _ c.root vr (hv.cN zE) (by rw [aa,cY];simp only [List.length_nil];omega)) ?_;rintro _ _ ⟨rfl,rfl⟩;rw [show []++be c.size 4++c.root=recC c by simp [recC]];refine wB ?_;refine aZ rfl rfl (hI _ e gw _ (by rw [j6 hc];omega)) ?_;rintro _ _ ⟨ad,k,rfl,rfl⟩;refine wB ?_;exact aY (cR (.slice ad (recC c).length k) (recC c)::R) rfl zE ⟨ad,k,rfl,rfl⟩
abbrev GH:TypeId:=194
structure np where
 gj:Nat
 gb:Nat
 gk:Nat
 vs:Value
 vl:Value
 vp:Value
 vr:Value
 up:Value
 uq:Value
structure np.ok (a:np) (M:cK) (seed log:dA) (s:eX):Prop where
 vB:da [M] a.vs seed
 Qo:da [M] a.vl log
 root:da [M] a.vr s.c.root
 sig:fK [M] a.up a.uq s.dO.sig
 st:s.ok
 sd:seed.length=32
 lg:log.length=32
abbrev np.cells (a:np) (id:Nat) (s:eX):List Value:=[pt a.gj,pt a.gb,.int .i64 (id:Int),a.vs,a.vl,a.vp]++gX s.c a.vr++iy s.dO a.up a.uq++[.bool s.some]
abbrev iP (g d k id:Nat) (s:eX) (a:np) (M:cK) (R:List cK):List cK :=
 cM g (a.cells id s) GH (0,0)::M::iZ a.gj d s.recs.length::dl d (dM s.jb)::l3 a.gb a.gk s.keys::iZ a.gk k s.keys::dl k (eH s.keys 1048576)::R
def LP (g d k id:Nat) (seed log:dA) (s:eX) (a:np) (M:cK):cK:=dI (Pu (a.ok M seed log s)::iP g d k id s a M [])
def nT (g d k id:Nat) (seed log:dA) (s:eX):cK:=Ex fun a=>Ex fun M=>LP g d k id seed log s a M
theorem HY {g d k id:Nat} {seed log:dA} {s:eX} {R:List cK} {P:Program} {f:FuncId} {args:Array Value} {e:World} {Post:Value→List cK→Prop}
 (h:∀ (a:np) (M:cK),a.ok M seed log s→Ct P f args e (iP g d k id s a M R) Post):Ct P f args e (nT g d k id seed log s::R) Post :=
 Ct.ex .zero fun a=>Ct.ex .zero fun M=>Ct.cN (a7 (p:=a.ok M seed log s) (fun w x=>(ke x).1) fun hp=>(h a M hp).cN (cC.drop aX)) (cW (M:=Pu (a.ok M seed log s)::iP g d k id s a M []) (L:=R))
theorem uF {g d k id:Nat} {seed log:dA} {s:eX} {a:np} {M:cK} {R:List cK} (h:a.ok M seed log s):cC (iP g d k id s a M R) (nT g d k id seed log s::R) :=
 cn (oX h) (cn (dN (M:=Pu (a.ok M seed log s)::iP g d k id s a M []) (L:=R)) (cn (fI (f:=fun M=>LP g d k id seed log s a M) M) (fI (f:=fun a=>Ex fun M=>LP g d k id seed log s a M) a)))
theorem En (g d k id:Nat) (seed log:dA) (s:eX) :
 Ct prog 252 #[pt g] e (nT g d k id seed log s::R) (fun v' L'=>∃ ad c,v'=.agg (gX s.c (.slice ad s.c.root.length c)).toArray∧L'=cR (.slice ad s.c.root.length c) s.c.root::nT g d k id seed log s::R):=by
 refine HY fun a M ha=>?_
 have HT:=(eX.tt ha.st).2;refine bI (args:=[_]) func252 rfl ntmps252 results252 rfl ?_
 (repeat (refine wA ?_;intros))
 rename_i g2;refine bl (id:=1) [12] (iP g d k id s a M R) mixed ?_
 (refine tM 0 ?_;refine tN 1 ?_;refine tF 2 ?_;refine tF 3 ?_;refine tL 4 ?_;refine tM 5 ?_;refine tN 6 ?_;refine tF 7 ?_;refine tF 8 ?_;refine tL 9 ?_)
 refine tO 10 ?_;refine bg rfl rfl (dy _ e a.vr s.c.root (ha.root.cN (cH zP)) zo) ?_;rintro _ _ ⟨ad,c,rfl,rfl⟩;refine ⟨fun _=>zE,?_⟩
 (refine tk 11 _ rfl (bL rfl zF) ?_;(refine tO 12 ?_;refine zg ?_;refine ⟨zN,?_⟩))
 refine bf zK ?_;refine wB ?_;apply bB
 ·exact zV
 exact ⟨cR (.slice ad s.c.root.length c) s.c.root::nT g d k id seed log s::R,cn (show cC _ (cR (.slice ad s.c.root.length c) s.c.root::iP g d k id s a M R) from zE) (bh (uF ha)),ad,c,rfl,rfl⟩
def eX.jq (s:eX) (c:iM) (n m:Nat) (ts:List dX):Int:=if c.size<s.c.size then 32 else if c.size=s.c.size then (if c=s.c then 0 else 34) else if n=s.c.size∧m=c.size∧oM n m ts s.c.root c.root then 0 else 31
theorem Eo (g d k id:Nat) (seed log:dA) (s:eX) (a:np) (M:cK) (ha:a.ok M seed log s) (vr vp:Value) (c:iM) (n m:Nat) (ts:List dX) (hr:da R vr c.root) (hc:c.right) (hn:n≤1000000) (hm:m≤1000000) (hv:cF R 1 vp ts.length (ts.map (·.1))) (ht:dE R ts) :
 Ct prog 110 #[pt g,.agg (gX c vr).toArray,.agg #[.int .i64 (n:Int),.int .i64 (m:Int),vp]] e (iP g d k id s a M R) (fun v' L'=>v'=.int .i64 (s.jq c n m ts)∧L'=iP g d k id s a M R):=by
 have Qj:=eX.tt ha.st;have fy:=Qj.1;have tQ:=hc.1;refine a7 (cz (hr.cN (show cC (iP g d k id s a M R) R from zE))) fun o1=>?_
 refine a7 (cF.shape (hv.cN (show cC (iP g d k id s a M R) R from zE)) zo) ?_;rintro ⟨⟨re,cp,rfl,-,-,-,-⟩,_⟩;refine a8 (args:=[_,_,_]) func110 rfl ntmps110 results110 rfl ?_
 (repeat (refine wA ?_;intros))
 rename_i g4 g5;refine bl (id:=1) [] (cM g5 [.int .i64 (n:Int),.int .i64 (m:Int),.slice re ts.length cp] 102 (0,0)::cM g4 (gX c vr) 83 (0,0)::iP g d k id s a M R) mixed ?_
 by_cases h1:c.size<s.c.size
 ·have hE:s.jq c n m ts=32:=by unfold eX.jq;rw [aH h1]
  rw [hE]
  (refine tF 0 ?_;refine tL 1 ?_;refine tM 2 ?_;refine tN 3 ?_;refine tF 4 ?_;refine tF 5 ?_;refine tL 6 ?_;refine tk 7 (.bool true) rfl (cE.iX (cE.lss rfl rfl) zy) ?_;refine tA 8 ?_)
  refine bf zK ?_;refine wB ?_;exact aY (iP g d k id s a M R) rfl zE ⟨rfl,rfl⟩
 (refine tF 0 ?_;refine tL 1 ?_;refine tM 2 ?_;refine tN 3 ?_;refine tF 4 ?_;refine tF 5 ?_;refine tL 6 ?_;refine tk 7 (.bool false) rfl (cE.no (cE.lss rfl rfl) zn) ?_;refine tA 8 ?_)
 refine bf zK ?_;refine wB ?_;refine bl (id:=3) [] (cM g5 [.int .i64 (n:Int),.int .i64 (m:Int),.slice re ts.length cp] 102 (0,0)::cM g4 (gX c vr) 83 (0,0)::iP g d k id s a M R) mixed ?_
 by_cases h2:c.size=s.c.size
 ·(refine tF 0 ?_;refine tL 1 ?_;refine tM 2 ?_;refine tN 3 ?_;refine tF 4 ?_;refine tF 5 ?_;refine tL 6 ?_;refine tk 7 (.bool true) rfl (cE.iX (bY rfl rfl) zy) ?_;refine tM 8 ?_;refine du 9 _ rfl (cE.dD rfl zA zX) ?_;refine du 10 _ rfl (bw rfl) ?_;refine du 11 _ rfl (bp rfl) ?_;refine du 12 _ rfl (bb rfl) ?_;refine du 13 _ rfl (cE.dj rfl zP zI zX) ?_)
  refine A.pi 14 rfl rfl zK ?_;refine bg rfl rfl (xG _ e vr a.vr c s.c (hr.cN zE) (ha.root.cN (cH zP))) ?_;rintro _ _ ⟨rfl,rfl⟩;refine ⟨fun _=>zE,A.fF zE ?_⟩
  by_cases h3:c=s.c
  ·have hE:s.jq c n m ts=0:=by unfold eX.jq;rw [aB h1,aH h2,aH h3]
   rw [hE,ay h3]
   (refine du 15 _ rfl (cE.jX rfl) ?_;refine tk 16 _ rfl (bM rfl rfl) ?_;refine tA 17 ?_)
   refine bf zK ?_;refine wB ?_;refine bl (id:=5) [] (cM g4 (gX c vr) 83 (0,0)::iP g d k id s a M R) mixed ?_
   (refine tF 0 ?_;refine tL 1 ?_;refine tM 2 ?_;refine tN 3 ?_;refine tF 4 ?_;refine tF 5 ?_;refine tL 6 ?_;refine tk 7 (.bool true) rfl (cE.iX (bY rfl rfl) zy) ?_;refine tA 8 ?_)
   refine bf zK ?_;refine wB ?_;exact aY (iP g d k id s a M R) rfl zE ⟨rfl,rfl⟩
  ·have hE:s.jq c n m ts=34:=by unfold eX.jq;rw [aB h1,aH h2,aB h3]
   rw [hE,aq h3]
   (refine du 15 _ rfl (cE.pF rfl) ?_;refine tk 16 _ rfl (bM rfl rfl) ?_;refine tA 17 ?_)
   refine bf zK ?_;refine wB ?_;exact aY (iP g d k id s a M R) rfl zE ⟨rfl,rfl⟩
 (refine tF 0 ?_;refine tL 1 ?_;refine tM 2 ?_;refine tN 3 ?_;refine tF 4 ?_;refine tF 5 ?_;refine tL 6 ?_;refine tk 7 (.bool false) rfl (cE.no (bY rfl rfl) zn) ?_;refine tM 8 ?_;refine bc 9 rfl rfl zK zE rfl ?_;refine bc 10 rfl rfl zK zE rfl ?_;refine bc 11 rfl rfl zK zE rfl ?_;refine bc 12 rfl rfl zK zE rfl ?_;refine bc 13 rfl rfl zK zE rfl ?_)
 refine bc 14 rfl rfl zK zE rfl ?_
 (refine bc 15 rfl rfl zK zE rfl ?_;refine tk 16 _ rfl (bJ rfl rfl) ?_;refine tA 17 ?_)
 refine bf zK ?_;refine wB ?_;refine bl (id:=5) [] (cM g4 (gX c vr) 83 (0,0)::iP g d k id s a M R) mixed ?_
 (refine tF 0 ?_;refine tL 1 ?_;refine tM 2 ?_;refine tN 3 ?_;refine tF 4 ?_;refine tF 5 ?_;refine tL 6 ?_;refine tk 7 (.bool false) rfl (cE.no (bY rfl rfl) zn) ?_;refine tA 8 ?_)
 refine bf zK ?_;refine wB ?_;refine bl (id:=7) [] (cM g5 [.int .i64 (n:Int),.int .i64 (m:Int),.slice re ts.length cp] 102 (0,0)::cM g4 (gX c vr) 83 (0,0)::iP g d k id s a M R) mixed ?_;have NR:s.jq c n m ts=if n=s.c.size∧m=c.size∧oM n m ts s.c.root c.root then 0 else 31:=by unfold eX.jq;rw [aB h1,aB h2]
 by_cases h3:n=s.c.size
 rotate_left
 ·have hE:s.jq c n m ts=31:=by rw [NR,aB (fun q=>h3 q.1)]
  rw [hE]
  (refine tF 0 ?_;refine tL 1 ?_;refine tM 2 ?_;refine tN 3 ?_;refine tF 4 ?_;refine tF 5 ?_;refine tL 6 ?_;refine tk 7 (.bool true) rfl (cE.iX (b8 rfl rfl) zy) ?_;refine tM 8 ?_;refine bc 9 rfl rfl zK zE rfl ?_;refine bc 10 rfl rfl zK zE rfl ?_;refine bc 11 rfl rfl zK zE rfl ?_;refine bc 12 rfl rfl zK zE rfl ?_;refine bc 13 rfl rfl zK zE rfl ?_;refine tk 14 _ rfl (bM rfl rfl) ?_;refine tM 15 ?_;refine bc 16 rfl rfl zK zE rfl ?_;refine bc 17 rfl rfl zK zE rfl ?_;refine bc 18 rfl rfl zK zE rfl ?_;refine bc 19 rfl rfl zK zE rfl ?_;refine bc 20 rfl rfl zK zE rfl ?_;refine bc 21 rfl rfl zK zE rfl ?_;refine bc 22 rfl rfl zK zE rfl ?_;refine bc 23 rfl rfl zK zE rfl ?_)
  refine bc 24 rfl rfl zK zE rfl ?_
  (refine bc 25 rfl rfl zK zE rfl ?_;refine tk 26 _ rfl (bM rfl rfl) ?_;refine tA 27 ?_)
  refine bf zK ?_;refine wB ?_;exact aY (iP g d k id s a M R) rfl zE ⟨rfl,rfl⟩
 by_cases h4:m=c.size
 rotate_left
 ·have hE:s.jq c n m ts=31:=by rw [NR,aB (fun q=>h4 q.2.1)]
  rw [hE]
  (refine tF 0 ?_;refine tL 1 ?_;refine tM 2 ?_;refine tN 3 ?_;refine tF 4 ?_;refine tF 5 ?_;refine tL 6 ?_;refine tk 7 (.bool false) rfl (cE.no (b8 rfl rfl) zn) ?_;refine tM 8 ?_;refine du 9 _ rfl (bb rfl) ?_;refine du 10 _ rfl (bq rfl zR) ?_;refine du 11 _ rfl (bb rfl) ?_;refine du 12 _ rfl (bq rfl zR) ?_;refine du 13 (.bool true) rfl (cE.iX (b8 rfl rfl) zy) ?_;refine tk 14 _ rfl (bJ rfl rfl) ?_;refine tM 15 ?_;refine bc 16 rfl rfl zK zE rfl ?_;refine bc 17 rfl rfl zK zE rfl ?_;refine bc 18 rfl rfl zK zE rfl ?_;refine bc 19 rfl rfl zK zE rfl ?_;refine bc 20 rfl rfl zK zE rfl ?_;refine bc 21 rfl rfl zK zE rfl ?_;refine bc 22 rfl rfl zK zE rfl ?_;refine bc 23 rfl rfl zK zE rfl ?_)
  refine bc 24 rfl rfl zK zE rfl ?_
  (refine bc 25 rfl rfl zK zE rfl ?_;refine tk 26 _ rfl (bM rfl rfl) ?_;refine tA 27 ?_)
  refine bf zK ?_;refine wB ?_;exact aY (iP g d k id s a M R) rfl zE ⟨rfl,rfl⟩
 (refine tF 0 ?_;refine tL 1 ?_;refine tM 2 ?_;refine tN 3 ?_;refine tF 4 ?_;refine tF 5 ?_;refine tL 6 ?_;refine tk 7 (.bool false) rfl (cE.no (b8 rfl rfl) zn) ?_;refine tM 8 ?_;refine du 9 _ rfl (bb rfl) ?_;refine du 10 _ rfl (bq rfl zR) ?_;refine du 11 _ rfl (bb rfl) ?_;refine du 12 _ rfl (bq rfl zR) ?_;refine du 13 (.bool false) rfl (cE.no (b8 rfl rfl) zn) ?_;refine tk 14 _ rfl (bJ rfl rfl) ?_;refine tM 15 ?_;refine du 16 _ rfl (cE.dD rfl zA zX) ?_;refine du 17 _ rfl (bw rfl) ?_;refine du 18 _ rfl (bp rfl) ?_;refine du 19 _ rfl (bb rfl) ?_;refine du 20 _ rfl (bb rfl) ?_;refine du 21 _ rfl (bq rfl zR) ?_;refine du 22 _ rfl (bb rfl) ?_;refine du 23 _ rfl (bq rfl zR) ?_)
 refine A.pi 24 rfl rfl zK ?_;refine bg rfl rfl (ym _ e (n:Int) (m:Int) (.slice re ts.length cp) a.vr vr ts s.c.root c.root zo zo (hv.cN zE) (fun x hx=>(ht x hx).cN zE) (ha.root.cN (cH zP)) (hr.cN zE)) ?_;rintro _ _ ⟨rfl,rfl⟩;refine ⟨fun _=>zE,A.fF zE ?_⟩
 by_cases h5:oM n m ts s.c.root c.root
 ·have hE:s.jq c n m ts=0:=by rw [NR,aH ⟨h3,h4,h5⟩]
  rw [hE,ay h5]
  (refine du 25 _ rfl (cE.jX rfl) ?_;refine tk 26 _ rfl (bJ rfl rfl) ?_;refine tA 27 ?_)
  refine bf zK ?_;refine wB ?_;exact aY (iP g d k id s a M R) rfl zE ⟨rfl,rfl⟩
 ·have hE:s.jq c n m ts=31:=by rw [NR,aB (fun q=>h5 q.2.2)]
  rw [hE,aq h5]
  (refine du 25 _ rfl (cE.pF rfl) ?_;refine tk 26 _ rfl (bJ rfl rfl) ?_;refine tA 27 ?_)
  refine bf zK ?_;refine wB ?_;exact aY (iP g d k id s a M R) rfl zE ⟨rfl,rfl⟩
end Go.Proofs
namespace Go.Bs
theorem cE.Qp {P:Program} {N:Fr} {ty:TypeId} {σ:Env} {e:World} {L:List cK} {x:Operand} {t:TypeId} {f n off:Nat} {cs ds:List Value} (hr:∀ w (cs:Array Value),(Instr.field t (.agg cs) f).run P w=.ok (.agg (cs.extract off (off+n))) w) (h:ev σ x=some (.agg cs.toArray)) (hd:(cs.drop off).take n=ds) :
 cE P N (.field t x f) ty (.agg ds.toArray) σ e L:=fun a w ha _ _ _ _ _=>by
 subst hd;have h2:=hr w cs.toArray
 simp [execOp,ha.ev h,h2]
end Go.Bs
namespace Go.Proofs
open Go.Bs
attribute [local irreducible] Bs.cE Bs.Do Bs.O Bs.W Bs.Fin Bs.A Bs.Ct Bs.cF Bs.Rd Bs.Sat Bs.cM Bs.Ob Bs.dJ Bs.View Bs.cC Bs.Ex Bs.dI Bs.Pu Bs.eZ Bs.dK Bs.eh
theorem NS:∀ w (cs:Array Value),(Instr.field 87 (.agg cs) 0).run Tryz.prog w=.ok (.agg (cs.extract 0 (0+2))) w:=fun w cs=>by
 simp [Instr.field,Tryz.runUnderlying87,asAgg,part,Tryz.isAgg83,Tryz.sizeOf83]
def eX.grow (s:eX) (c:iM):eX:=if s.c.size<c.size then { s with recs:=s.recs++[c],some:=false } else s
def eX.cos (seed:dA) (id:Nat) (s:eX):eX × Bool:=if s.some=true then (s,true) else if s.keys<16 then ({ s with keys:=s.keys+1,dO:=AB seed s.keys id s.c,some:=true },true) else (s,false)
def eX.yn (seed log:dA) (id:Nat) (s:eX) (x:jU) (n m:Nat) (ts:List dX):Int:=if ¬ x.hJ log then 30 else if s.jq x.dd n m ts≠0 then s.jq x.dd n m ts else if ((s.grow x.dd).cos seed id).2=true then 0 else 23
def eX.wc (seed log:dA) (id:Nat) (s:eX) (x:jU) (n m:Nat) (ts:List dX):eX:=if ¬ x.hJ log then s else if s.jq x.dd n m ts≠0 then s else ((s.grow x.dd).cos seed id).1
theorem eX.LQ (s:eX) (c:iM) (b:Bool):eX.c { s with recs:=s.recs++[c],some:=b }=c:=by simp [eX.c]
theorem eX.Qq {s:eX} {c:iM} {n m:Nat} {ts:List dX} (h:s.jq c n m ts=0):(s.grow c).c=c:=by
 unfold eX.grow
 split
 ·exact eX.LQ s c false
 ·rename_i h1;unfold eX.jq at h
  by_cases h2:c.size<s.c.size
  ·rw [aH h2] at h;cases h
  ·rw [aB h2,aH zo] at h
   by_cases h3:c=s.c
   ·exact h3.symm
   ·rw [aB h3] at h;cases h
theorem eX.wG {s:eX} {c:iM} (h:s.ok) (hc:c.right):(s.grow c).ok:=by
 unfold eX.grow
 split
 ·rename_i h1;refine ⟨fun x hx=>?_,?_,fun x hx=>?_,h.keys,h.fits⟩
  ·rcases aJ.1 hx with hx|hx
   ·exact h.right x hx
   ·rw [an.1 hx];exact hc
  ·show ((s.recs++[c]).map (·.size)).Pairwise (·<·)
   rw [ah];refine List.pairwise_append.2 ⟨h.Cg,by simp,fun a ha b hb=>?_⟩;obtain ⟨y,hy,rfl⟩:=aD.1 ha;rw [List.map_cons,List.map_nil,an] at hb
   subst hb;refine Nat.lt_of_le_of_lt ?_ h1;unfold eX.c
   cases hl:s.recs.getLast? with
   | none=>rw [List.getLast?_eq_none_iff] at hl;rw [hl] at hy;cases hy
   | some z =>
    obtain ⟨A,hA⟩:=List.getLast?_eq_some_iff.1 hl;have hr:=h.Cg;rw [hA,ah] at hr
    rw [hA] at hy
    rcases aJ.1 hy with hy|hy
    ·exact Nat.le_of_lt ((List.pairwise_append.1 hr).2.2 _ (aD.2 ⟨y,hy,rfl⟩) _ (aD.2 ⟨z,an.2 rfl,rfl⟩))
    ·rw [an.1 hy];exact aT _
  ·rcases aJ.1 hx with hx|hx
   ·exact h.pos x hx
   ·rw [an.1 hx];omega
 ·exact h
abbrev Wy:Value:=.agg (iy ig nY nY).toArray
theorem Ch (R:List cK) (e:World) (g d k id:Nat) (seed log:dA) (s:eX) (vr vp vq vg:Value) (x:jU) (n m:Nat) (ts:List dX) (hx:ff R vr vp vq x) (hc:x.dd.right) (hf:x.sig.fits) (Y8:id<4) (hn:n≤1000000) (hm:m≤1000000) (hv:cF R 1 vg ts.length (ts.map (·.1))) (ht:dE R ts) (kD:s.recs.length≤1000) :
 Ct Tryz.prog 46 #[pt g,.agg (dT x vr vp vq).toArray,.agg #[.int .i64 (n:Int),.int .i64 (m:Int),vg]] e (nT g d k id seed log s::R) (fun v' L'=>(s.yn seed log id x n m ts=0→∃ (N:cK) (up uq:Value),v'=.tuple #[.agg (iy (s.wc seed log id x n m ts).dO up uq).toArray,.int .i64 0]∧fK [N] up uq (s.wc seed log id x n m ts).dO.sig∧L'=N::nT g d k id seed log (s.wc seed log id x n m ts)::R)∧(s.yn seed log id x n m ts≠0→v'=.tuple #[Wy,.int .i64 (s.yn seed log id x n m ts)]∧L'=nT g d k id seed log (s.wc seed log id x n m ts)::R)):=by
 refine HY fun a M ha=>?_
 have Qj:=eX.tt ha.st;have Vb:=hx;obtain ⟨x1,x2,x3⟩:=Vb;have mG:cC (iP g d k id s a M R) R:=zE;refine a7 (cz (x1.cN mG)) fun o1=>?_
 refine a7 (x2.cN mG).parts.one fun o2=>?_
 refine a7 (x2.cN mG).path.one fun o3=>?_
 refine a7 (cF.shape (hv.cN mG) zo) ?_;rintro ⟨⟨re,cp,rfl,-,-,-,-⟩,_⟩;refine bI (args:=[_,_,_]) Tryz.func46 rfl Tryz.ntmps46 Tryz.results46 rfl ?_
 (repeat (refine wA ?_;intros))
 rename_i g4 g5 g6;refine bl (id:=1) [] (cM g4 (dT x vr vp vq) 87 (0,0)::iP g d k id s a M R) Tryz.mixed ?_
 (refine tM 0 ?_;refine tN 1 ?_;refine tF 2 ?_;refine tL 3 ?_;refine tJ 4 ?_)
 refine tO 5 ?_;refine bg rfl rfl (ku _ e a.vl vr vp vq log x (ha.Qo.cN (cH zP)) (hx.cN zE) hc) ?_;rintro _ _ ⟨rfl,rfl⟩;refine ⟨fun _=>zE,A.fF zE ?_⟩
 by_cases pk:x.hJ log
 rotate_left
 ·have hE:s.yn seed log id x n m ts=30:=by unfold eX.yn;rw [aH pk]
  have hS:s.wc seed log id x n m ts=s:=by unfold eX.wc;rw [aH pk]
  rw [hE,hS,aq pk]
  (refine tk 6 _ rfl (cE.pF rfl) ?_)
  refine bf zK ?_;refine wB ?_;apply bB
  ·exact zV
  exact ⟨nT g d k id seed log s::R,cn (show cC _ (iP g d k id s a M R) from zE) (uF ha),(fun h=>by cases h),fun _=>⟨rfl,rfl⟩⟩
 rw [ay pk]
 (refine tk 6 _ rfl (cE.jX rfl) ?_)
 refine bf zK ?_
 (repeat' first|refine Za ?_|apply Zc|apply Zd|apply Zf|refine Zh ?_|refine Zj ?_|refine YA ?_|apply YC|(apply O.dj;exact rfl;exact zP;(first|(simp only [aC,Nat.add_zero,Nat.reduceAdd,List.drop_succ_cons,List.drop_zero,List.take_succ_cons,List.take_zero];done)|(simp only [aC,Nat.add_zero,Nat.reduceAdd,List.drop_succ_cons,List.drop_zero,List.take_succ_cons,List.take_zero];exact rfl));exact rfl;exact rfl))
 refine aZ rfl rfl ((Eo (cM g6 (iy ig nY nY) 96 (0,0)::cM g5 [.int .i64 (n:Int),.int .i64 (m:Int),.slice re ts.length cp] 102 (0,0)::cM g4 (dT x vr vp vq) 87 (0,0)::R) e g d k id seed log s a M ha vr (.slice re ts.length cp) x.dd n m ts (x1.cN zE) hc hn hm (hv.cN zE) (fun y hy=>(ht y hy).cN zE)).cN zE) ?_;rintro _ _ ⟨rfl,rfl⟩
 by_cases hg:s.jq x.dd n m ts=0
 rotate_left
 ·have hE:s.yn seed log id x n m ts=s.jq x.dd n m ts:=by unfold eX.yn;rw [aB (fun q=>q pk),aH hg]
  have hS:s.wc seed log id x n m ts=s:=by unfold eX.wc;rw [aB (fun q=>q pk),aH hg]
  rw [hE,hS]
  generalize s.jq x.dd n m ts=E at *
  refine wB ?_;apply bB
  ·exact zV
  exact ⟨nT g d k id seed log s::R,cn (show cC _ (iP g d k id s a M R) from zE) (uF ha),fun h=>absurd h hg,fun _=>⟨rfl,rfl⟩⟩
 rw [hg];obtain ⟨s1,fy⟩:∃ s1:eX,s1=s.grow x.dd:=⟨_,rfl⟩
 have qO:s1.ok:=by rw [fy];exact eX.wG ha.st hc
 have tQ:s1.c=x.dd:=by rw [fy];exact eX.Qq hg
 have hE:s.yn seed log id x n m ts=if (s1.cos seed id).2=true then 0 else 23:=by unfold eX.yn;rw [aB (fun q=>q pk),aB (fun q=>q hg),← fy]
 have hS:s.wc seed log id x n m ts=(s1.cos seed id).1:=by unfold eX.wc;rw [aB (fun q=>q pk),aB (fun q=>q hg),← fy]
 rw [hE,hS]
 (repeat' first|refine W.oZ (id:=11) (fun _:np × cK=>[(0,pt g),(6,pt g6),(7,.int .i64 0)]) (fun i=>cM g6 (iy ig nY nY) 96 (0,0)::iP g d k id s1 i.1 i.2 R) (fun i=>i.1.ok i.2 seed log s1) ?_ ?_|refine Za ?_|refine Zb ?_|apply Zc|apply Zd|apply Ze|apply Zf|refine ZQ ?_|refine YA ?_|apply YC)
 rotate_left
 ·refine ⟨?_⟩
  (repeat (refine wA ?_;intros))
  refine bl (id:=6) [] (cM g4 (dT x vr vp vq) 87 (0,0)::cM g (a.cells id s) GH (0,0)::R) Tryz.mixed ?_
  by_cases Qr:s.c.size<x.dd.size
  rotate_left
  ·have E9:s1=s:=by rw [fy];unfold eX.grow;rw [aB Qr]
   (refine tF 0 ?_;refine tF 1 ?_;refine tL 2 ?_;refine tM 3 ?_;refine tN 4 ?_;refine tF 5 ?_;refine tF 6 ?_;refine tL 7 ?_;refine tk 8 (.bool false) rfl (cE.no (cE.gtr rfl rfl) zn) ?_)
   refine bf zK ?_;refine wB ?_;rw [E9];exact bH (a,M) ha zS zE
  have E9:s1={ s with recs:=s.recs++[x.dd],some:=false }:=by rw [fy];unfold eX.grow;rw [aH Qr]
  have MR:=j6 hc
  have xU:=nN (l:=s.recs.map recC) (n:=36) (fun r hr=>by
   obtain ⟨y,hy,rfl⟩:=aD.1 hr;rw [j6 (ha.st.right y hy)];exact aT _)
  rw [ab] at xU
  obtain ⟨p1,p2,p3⟩:=add_plain (b:=s.jb) (m:=recC x.dd) (sy:=s.jb.length) (by unfold eX.jb;omega)
  (refine tF 0 ?_;refine tF 1 ?_;refine tL 2 ?_;refine tM 3 ?_;refine tN 4 ?_;refine tF 5 ?_;refine tF 6 ?_;refine tL 7 ?_;refine tk 8 (.bool true) rfl (cE.iX (cE.gtr rfl rfl) zy) ?_)
  refine bf zK ?_;refine wB ?_;refine bl (id:=7) [8] (cM g4 (dT x vr vp vq) 87 (0,0)::cM g (a.cells id s) GH (0,0)::R) Tryz.mixed ?_
  (refine tM 0 ?_;refine tN 1 ?_;refine tF 2 ?_;refine tL 3 ?_;refine tF 4 ?_;refine tk 5 _ rfl (cE.dj rfl zP zI zX) ?_)
  refine tO 6 ?_;refine bg rfl rfl (JE _ e vr x.dd (x1.cN zE) hc) ?_;rintro _ _ ⟨qN,kr,rfl,rfl⟩;refine ⟨fun _=>zE,?_⟩;have LI:=fun L:List cK=>fun Ql:da L (.slice qN (recC x.dd).length kr) (recC x.dd)=>nL L e a.gj d s.recs.length (m3 s.jb s.jb.length) (recC x.dd) (.slice qN (recC x.dd).length kr) (tf (by unfold eX.jb;omega) (aT _)) Ql zo zo
  rw [p1,p2,p3] at LI
  refine tO 7 ?_;refine bg rfl rfl (Ct.C9 zP zP (LI _ (ba zP))) ?_;rintro _ _ ⟨rfl,rfl⟩;refine ⟨fun _=>zE,?_⟩
  ((refine tO 8 ?_;refine dV (bj rfl) ?_))
  refine bf zK ?_;refine wB ?_;refine aZ rfl rfl (iz _ e vr vp vq x (hx.cN zE) hf) ?_;rintro _ _ ⟨N,ur,up,uq,rfl,hN,rfl⟩;refine bo (cz (hN.root.cN (cH zP))) fun o4=>?_
  (repeat' first|refine Za ?_|refine Zb ?_|apply Zc|apply Zd|apply Ze|apply Zf|refine Zg ?_|refine Zh ?_|refine Zi ?_|refine Zj ?_|refine Zu ?_|refine Zy ?_|refine Zz ?_|refine ZG ?_|refine ZH ?_|refine ZI (fun _=>?_) fun _=>?_|refine ZP ?_|refine ZQ ?_|refine Yd ?_|refine Ye ?_|refine Yg fun _=>?_|refine Yh fun _=>?_|refine Yz ?_|refine YA ?_|apply YC|apply YE|apply YF|refine YN ?_|refine YQ ?_|refine YR ?_|(apply O.dj;exact rfl;exact zP;(first|(simp only [aC,Nat.add_zero,Nat.reduceAdd,List.drop_succ_cons,List.drop_zero,List.take_succ_cons,List.take_zero];done)|(simp only [aC,Nat.add_zero,Nat.reduceAdd,List.drop_succ_cons,List.drop_zero,List.take_succ_cons,List.take_zero];exact rfl));exact rfl;exact rfl))
  refine bC _ (cE.Qp (n:=2) (off:=0) (cs:=dT x ur up uq) (ds:=gX x.dd ur) NS rfl rfl) rfl ?_;refine wB ?_;have O8:s1.some=false:=by rw [E9]
  obtain ⟨M2,Cb⟩:∃ M2:cK,M2=dI [M,N]:=⟨_,rfl⟩
  have eW:cC [M2] [M]:=by rw [Cb];exact cn (cW (M:=[_,_]) (L:=[])) (bh bK)
  have iH:cC [M2] [N]:=by rw [Cb];exact cn (cW (M:=[_,_]) (L:=[])) (cC.drop (bh bK))
  have Gv:np.ok { a with vr:=ur } M2 seed log s1:=by
   refine ⟨ha.vB.cN eW,ha.Qo.cN eW,?_,?_,qO,ha.sd,ha.lg⟩
   ·rw [tQ];exact hN.root.cN iH
   ·rw [E9];exact ha.sig.cN eW
  have Wt:s1.jb=s.jb++fG (recC x.dd):=by
   rw [E9];unfold eX.jb;rw [ah,List.map_cons,List.map_nil,nO]
  have Wz:s1.recs.length=s.recs.length+1:=by rw [E9];simp
  have O4:s1.keys=s.keys:=by rw [E9]
  have HU:s1.dO=s.dO:=by rw [E9]
  refine bH ({ a with vr:=ur },M2) Gv zS ?_;dsimp only [iP,np.cells];rw [Wt,Wz,O4,HU,tQ,O8,Cb];exact cn (eu (A:=M) (B:=N) zP zP) zE
 rintro ⟨a1,M1⟩ Gv;dsimp only at Gv ⊢
 have WA:=eX.tt qO;clear ha hE hS
 (repeat' first|refine W.rn (id:=17) (fun _:np × cK=>[(0,pt g),(6,pt g6),(7,.int .i64 0)]) (fun i=>cM g6 (iy ig nY nY) 96 (0,0)::iP g d k id (s1.cos seed id).1 i.1 i.2 R) (fun i=>i.1.ok i.2 seed log (s1.cos seed id).1∧(s1.cos seed id).2=true) ?_ ?_)
 ·rintro ⟨a2,M2⟩ ⟨Ku,Iz⟩;dsimp only at Ku ⊢
  rw [aH Iz]
  (repeat' first|refine Za ?_|apply Zc|apply Zd|refine Zg ?_|refine Zh ?_|(apply O.dj;exact rfl;exact zP;(first|(simp only [aC,Nat.add_zero,Nat.reduceAdd,List.drop_succ_cons,List.drop_zero,List.take_succ_cons,List.take_zero];done)|(simp only [aC,Nat.add_zero,Nat.reduceAdd,List.drop_succ_cons,List.drop_zero,List.take_succ_cons,List.take_zero];exact rfl));exact rfl;exact rfl))
  refine aZ rfl rfl (oD _ e a2.up a2.uq (s1.cos seed id).1.dO (Ku.sig.cN (cH zP)) Ku.st.fits) ?_;rintro _ _ ⟨N,up,uq,rfl,hN,rfl⟩;refine bo (hN.cN (cH zP)).parts.one fun o4=>?_
  refine bo (hN.cN (cH zP)).path.one fun o5=>?_
  refine wB ?_;apply bB
  ·exact zV
  exact ⟨N::nT g d k id seed log (s1.cos seed id).1::R,cn (show cC _ (N::iP g d k id (s1.cos seed id).1 a2 M2 R) from zE) (bh (uF Ku)),fun _=>⟨N,up,uq,rfl,hN,rfl⟩,fun h=>absurd rfl h⟩
 refine ⟨?_⟩
 by_cases O8:s1.some=true
 ·have LR:s1.cos seed id=(s1,true):=by unfold eX.cos;rw [aH O8]
  rw [LR];dsimp only [iP,np.cells];rw [O8];refine wB ?_;refine bH (a1,M1) ⟨Gv,rfl⟩ zS ?_;simp only [iP,np.cells,O8];exact zE
 have Qs:s1.some=false:=by simpa using O8
 by_cases hk:s1.keys<16
 rotate_left
 ·have I3:s1.keys=16:=by have:=qO.keys;omega
  have LR:s1.cos seed id=(s1,false):=by unfold eX.cos;rw [aB O8,aB hk]
  rw [LR];have fq:=vx (cM g6 (iy ig nY nY) 96 (0,0)::cM g (a1.cells id s1) GH (0,0)::M1::iZ a1.gj d s1.recs.length::dl d (dM s1.jb)::R) e a1.gb a1.gk k 1048576 zo zo;rw [← I3] at fq
  dsimp only [iP,np.cells] at fq ⊢
  rw [Qs] at fq ⊢
  refine wB ?_;refine aZ rfl rfl (fq.cN zE) ?_;rintro _ _ ⟨rfl,rfl⟩;refine wB ?_;apply bB
  ·exact zV
  refine ⟨nT g d k id seed log s1::R,cn ?_ (uF Gv),(fun h=>by simp at h),fun _=>⟨rfl,rfl⟩⟩;simp only [iP,np.cells,Qs];exact zE
 have LR:s1.cos seed id=({ s1 with keys:=s1.keys+1,dO:=AB seed s1.keys id s1.c,some:=true },true):=by unfold eX.cos;rw [aB O8,aH hk]
 rw [LR];have fq:=vv (cM g6 (iy ig nY nY) 96 (0,0)::cM g (a1.cells id s1) GH (0,0)::M1::iZ a1.gj d s1.recs.length::dl d (dM s1.jb)::R) e a1.gb a1.gk k s1.keys 1048576 hk zo zo;dsimp only [iP,np.cells] at fq ⊢
 rw [Qs] at fq ⊢
 refine wB ?_;refine aZ rfl rfl (fq.cN zE) ?_;rintro _ _ ⟨rfl,rfl⟩;refine wB ?_;refine W.ir [(0,pt g),(6,pt g6),(7,.int .i64 0),(10,.int .i64 (s1.keys:Int))] zS ?_;refine bl (id:=15) [18,19,20] (cM g (a1.cells id { s1 with some:=false }) GH (0,0)::M1::R) Tryz.mixed ?_
 (refine tM 0 ?_;refine tM 1 ?_;refine tN 2 ?_;refine tF 3 ?_;refine tL 4 ?_;refine tM 5 ?_;refine tM 6 ?_;refine tN 7 ?_;refine tF 8 ?_;refine tL 9 ?_;refine tM 10 ?_;refine tN 11 ?_;refine tF 12 ?_;refine tk 13 _ rfl (cE.dj rfl zP zI zX) ?_)
 refine tO 14 ?_;refine bg rfl rfl (F2 _ e a1.vs a1.vr seed s1.keys id s1.c (Gv.vB.cN (cH zP)) Gv.sd hk Y8 (Gv.root.cN (cH zP)) WA) ?_;rintro _ _ ⟨N,up,uq,rfl,hN,rfl⟩;refine ⟨fun _=>zE,?_⟩;refine A.cB (hN.cN (cH zP)).parts.one fun o4=>?_
 refine A.cB (hN.cN (cH zP)).path.one fun o5=>?_
 refine tM 15 ?_;refine tk 16 _ rfl (bn rfl rfl) ?_;have eW:cC [dI [M1,N]] [M1]:=cn (cW (M:=[_,_]) (L:=[])) (bh bK);have iH:cC [dI [M1,N]] [N]:=cn (cW (M:=[_,_]) (L:=[])) (cC.drop (bh bK))
 have eI:np.ok { a1 with up:=up,uq:=uq } (dI [M1,N]) seed log { s1 with keys:=s1.keys+1,dO:=AB seed s1.keys id s1.c,some:=true } :=
  ⟨Gv.vB.cN eW,Gv.Qo.cN eW,Gv.root.cN eW,hN.cN iH,⟨qO.right,qO.Cg,qO.pos,hk,(jh hk).fits⟩,Gv.sd,Gv.lg⟩
 refine A.two 17 18 rfl rfl rfl rfl zK ?_ ?_
 ·refine bP (bn rfl rfl) rfl ⟨fun _=>zE,?_⟩;refine tO 18 ?_;refine dV (bp rfl) ?_;refine tO 19 ?_;refine dV (bb rfl) ?_;refine tO 20 ?_;refine Do.ej rfl rfl rfl zO zU zW ⟨zN,?_⟩;refine bf zK ?_;refine wB ?_;refine bH ({ a1 with up:=up,uq:=uq },dI [M1,N]) ⟨eI,rfl⟩ zS ?_;exact cn (eu (A:=M1) (B:=N) zP zP) zE
 ·refine dV (bp rfl) ?_;refine A.two 17 19 rfl rfl rfl rfl zK ?_ ?_
  ·refine bP (bn rfl rfl) rfl ⟨zN,?_⟩;refine tO 19 ?_;refine dV (bb rfl) ?_;refine tO 20 ?_;refine Do.ej rfl rfl rfl zO zU zW ⟨zN,?_⟩;refine bf zK ?_;refine wB ?_;refine bH ({ a1 with up:=up,uq:=uq },dI [M1,N]) ⟨eI,rfl⟩ zS ?_;exact cn (eu (A:=M1) (B:=N) zP zP) zE
  ·refine dV (bb rfl) ?_;refine A.two 17 20 rfl rfl rfl rfl zK ?_ ?_
   ·refine bP (bn rfl rfl) rfl ⟨zN,?_⟩;refine tO 20 ?_;refine Do.ej rfl rfl rfl zO zU zW ⟨zN,?_⟩;refine bf zK ?_;refine wB ?_;refine bH ({ a1 with up:=up,uq:=uq },dI [M1,N]) ⟨eI,rfl⟩ zS ?_;exact cn (eu (A:=M1) (B:=N) zP zP) zE
   ·refine Do.ej rfl rfl rfl zO zU zW ⟨zN,?_⟩;refine tO 17 ?_;refine bP (bn rfl rfl) rfl ⟨zN,?_⟩;refine bf zK ?_;refine wB ?_;refine bH ({ a1 with up:=up,uq:=uq },dI [M1,N]) ⟨eI,rfl⟩ zS ?_;exact cn (eu (A:=M1) (B:=N) zP zP) zE
end Go.Proofs
namespace Go.Proofs
attribute [local irreducible] Bs.cE Bs.Do Bs.O Bs.W Bs.Fin Bs.A Bs.Ct Bs.cF Bs.Rd Bs.Sat Bs.cM Bs.Ob Bs.dJ Bs.View Bs.cC Bs.Ex Bs.dI Bs.Pu Bs.eZ Bs.dK Bs.eh
open Go.Bs
open Tryz
def Ci (l:List iM):iM:=l.getLast?.getD Qn
theorem JF (l:List iM) (c:iM):Ci (l++[c])=c:=by simp [Ci]
theorem GI {l:List iM} (h:∀ c∈l,c.right):(Ci l).right:=by
 unfold Ci
 cases hl:l.getLast? with
 | none=>exact ⟨aG _,jT _⟩
 | some c=>exact h c (List.mem_of_getLast? hl)
theorem NT {l:List iM} {c:iM} (h:((l++[c]).map (·.size)).Pairwise (·<·)) (h0:0<c.size):(Ci l).size<c.size:=by
 unfold Ci
 cases hl:l.getLast? with
 | none=>exact h0
 | some z =>
  obtain ⟨A,hA⟩:=List.getLast?_eq_some_iff.1 hl;rw [ah] at h
  exact (List.pairwise_append.1 h).2.2 _ (aD.2 ⟨z,List.mem_of_getLast? hl,rfl⟩) _ (by simp)
theorem uG:ig.sig.fits:=⟨fun x hx=>absurd hx aO,fun x hx=>absurd hx aO⟩
theorem Cj (L:List cK):fK L nY nY ig.sig :=
 ⟨⟨[],rfl,cF.nil _ _,fun x hx=>absurd hx aO⟩,⟨[],rfl,cF.nil _ _,fun x hx=>absurd hx aO⟩,⟨by decide,by decide,by decide⟩⟩
theorem qF {L R R' R2 R3:List cK} {A B C D:cK} (p:cT L A R) (q:cT R B R') (r:cT R' C R2) (u:cT R2 D R3):cC L (dI [A,B,C,D]::R3):=cn p.out (cn (bh (cn q.out (bh (cn r.out (bh u.out))))) (dN (M:=[A,B,C,D])))
theorem GJ (R:List cK) (e:World) (d k id:Nat) (v u:Value) (seed log:dA) (s:eX) (hv:da R v seed) (hu:da R u log) (FL:seed.length=32) (E7:log.length=32) (Y8:id<4) (hs:s.ok) (kD:s.recs.length≤1000) :
 Ct prog 234 #[pt d,pt k,.int .i64 (id:Int),v,u] e (dl d (dM s.jb)::dl k (eH s.keys 1048576)::R) (fun v' L'=>∃ g,v'=.tuple #[pt g,.int .i64 0]∧L'=nT g d k id seed log { s with dO:=ig,some:=false }::R):=by
 have Wu:=hs.keys
 have xU:=nN (l:=s.recs.map recC) (n:=36) (fun r hr=>by
  obtain ⟨y,hy,rfl⟩:=aD.1 hr;rw [j6 (hs.right y hy)];exact aT _)
 rw [ab] at xU
 have Gx:∀ m∈s.recs.map recC,m.length≤65535:=fun m hm=>by
  obtain ⟨y,hy,rfl⟩:=aD.1 hm;rw [j6 (hs.right y hy)]
  decide
 have D4:=nP (s.recs.map recC) Gx;have mG:cC (dl d (dM s.jb)::dl k (eH s.keys 1048576)::R) R:=zE;refine a7 (cF.shape (hv.cN mG) zo) ?_;rintro ⟨⟨av,cv,rfl,-,-,-,-⟩,_⟩;refine a7 (cF.shape (hu.cN mG) zo) ?_;rintro ⟨⟨au,cu,rfl,-,-,-,-⟩,_⟩;refine a8 (args:=[_,_,_,_,_]) func234 rfl ntmps234 results234 rfl ?_;refine wB ?_;refine aZ rfl rfl (Ct.at (.succ .zero) (vo _ e k s.keys 1048576 Wu zo zo)) ?_;rintro _ _ ⟨gb,gk,rfl,rfl⟩;refine wB ?_;refine aZ rfl rfl (Ct.at (.succ (.succ (.succ .zero))) (m2 _ e d s.jb (by unfold eX.jb;omega))) ?_;rintro _ _ (⟨h1,-⟩|⟨-,gj,qN,cr,ts,rfl,fx,rfl⟩)
 ·rw [show dz s.jb=dz (fi (s.recs.map recC)) from rfl,D4] at h1;cases h1
 rw [show dz s.jb=dz (fi (s.recs.map recC)) from rfl,D4] at fx ⊢
 rw [show s.jb.take (fi (s.recs.map recC)).length=s.jb from List.take_length];dsimp only at fx
 have mw:ts.length=s.recs.length:=by have:=congrArg List.length fx;rw [ab,ab] at this;exact this
 refine wB ?_;refine aZ rfl rfl (dy _ e _ seed (hv.cN zE) zo) ?_;rintro _ _ ⟨yT,cs,rfl,rfl⟩
 (repeat (refine wA ?_;intros))
 refine aZ rfl rfl (dy _ e _ log (hu.cN zE) zo) ?_;rintro _ _ ⟨uu,cl,rfl,rfl⟩
 (repeat (refine wA ?_;intros))
 refine aZ rfl rfl (lV _ e _ seed (hv.cN zE) FL) ?_;rintro vp _ ⟨Mp,rfl,Fa⟩;refine bo (cF.shape (Fa.cN (cH zP)) zo) ?_;rintro ⟨⟨re,cp,rfl,-,-,-,-⟩,_⟩
 (repeat' first|refine Za ?_|refine Zb ?_|apply Zc|apply Zd|apply Ze|apply Zf|refine Zg ?_|refine Zh ?_|refine Zi ?_|refine Zj ?_|refine Zk ?_|refine Zl ?_|refine Zm ?_|refine Zn ?_|refine Zo ?_|refine Zu ?_|refine Zy ?_|refine Zz ?_|refine ZA ?_|refine ZB ?_|refine ZC (fun _=>?_) fun _=>?_|refine ZD ?_|refine ZE ?_|refine ZJ ?_|refine ZK ?_|refine ZP ?_|refine ZQ ?_|refine ZS ?_|refine ZY ?_|refine ZZ ?_|refine Z6 ?_|refine Yd ?_|refine Ye ?_|refine Yf ?_|refine Yg fun _=>?_|refine Yh fun _=>?_|refine Ym ?_|refine Yw ?_|refine Yx ?_|refine Yy ?_|refine Yz ?_|refine YA ?_|apply YB|apply YC|apply YD|apply YE|apply YF|apply YG|apply YH|apply YI|apply YJ|refine YK ?_|refine YN ?_|refine YQ ?_|refine YR ?_|(apply O.dj;exact rfl;exact zP;(first|(simp only [aC,Nat.add_zero,Nat.reduceAdd,List.drop_succ_cons,List.drop_zero,List.take_succ_cons,List.take_zero];done)|(simp only [aC,Nat.add_zero,Nat.reduceAdd,List.drop_succ_cons,List.drop_zero,List.take_succ_cons,List.take_zero];exact rfl));exact rfl;exact rfl))
 refine aZ rfl rfl (sH _ e nY [] (cF.nil _ _) (by decide)) ?_;rintro _ _ ⟨K5,c0,rfl,rfl⟩;have pa:=jT [];have hc0:Ci []=⟨0,rB []⟩:=rfl
 generalize rB []=Tq at *
 (repeat (refine wA ?_;intros))
 rename_i g0;refine br (ι:=Nat × iM × Option Addr × Nat) (fun i=>[(16,pt g0),(67,.slice qN ts.length cr),(68,.int .i64 (ts.length:Int)),(69,.int .i64 (i.1:Int))]) (fun j=>(fun i:iM × Option Addr × Nat=>cM g0 [pt gj,pt gb,.int .i64 (id:Int),.slice yT seed.length cs,.slice uu log.length cl,.slice re (fu seed).length cp,.int .i64 (i.1.size:Int),.slice i.2.1 i.1.root.length i.2.2,.int .i64 0,.int .i64 0,nY,nY,.bool false] GH (0,0)::cR (.slice i.2.1 i.1.root.length i.2.2) i.1.root::cG ts::cU (.slice qN ts.length cr) ts::cR (.slice yT seed.length cs) seed::cR (.slice uu log.length cl) log::Mp::iZ gj d ts.length::dl d (dM s.jb)::l3 gb gk s.keys::iZ gk k s.keys::dl k (eH s.keys 1048576)::R) j.2) (fun i=>i.1≤ts.length∧i.2.1=Ci (s.recs.take i.1)) (fun i=>ts.length - i.1) (0,⟨0,Tq⟩,K5,c0) ⟨aG _,by rw [List.take_zero];exact hc0.symm⟩ zS zE ?_;rintro ⟨i,c,adc,kc⟩ ⟨hi,GK⟩;dsimp only at hi GK ⊢
 have HT:c.right:=by rw [GK];exact GI (fun x hx=>hs.right x (aN hx))
 have abA:=HT.1;have Wo:=HT.2
 by_cases cQ:i<ts.length
 rotate_left
 ·rw [aF zo] at GK
  obtain ⟨M,hM⟩:∃ M:cK,M=dI [cR (.slice adc c.root.length kc) c.root,cR (.slice yT seed.length cs) seed,cR (.slice uu log.length cl) log,Mp]:=⟨_,rfl⟩
  have ho:cC [M] [cR (.slice adc c.root.length kc) c.root,cR (.slice yT seed.length cs) seed,cR (.slice uu log.length cl) log,Mp]:=by rw [hM];exact cW (M:=[_,_,_,_]) (L:=[])
  have Qj:eX.c { s with dO:=ig,some:=false }=c:=GK.symm
  have kQ:np.ok ⟨gj,gb,gk,.slice yT seed.length cs,.slice uu log.length cl,.slice re (fu seed).length cp,.slice adc c.root.length kc,nY,nY⟩ M seed log { s with dO:=ig,some:=false } :=
   ⟨(ba zP).cN ho,(ba zP).cN ho,by rw [Qj];exact (ba .zero).cN ho,Cj _,⟨hs.right,hs.Cg,hs.pos,hs.keys,uG⟩,FL,E7⟩
  refine wB ?_;refine aY (nT g0 d k id seed log { s with dO:=ig,some:=false }::R) rfl (cn ?_ (uF kQ)) ⟨g0,rfl,rfl⟩;dsimp only [iP,np.cells];rw [Qj,hM,← mw];exact cn (qF (A:=cR (.slice adc c.root.length kc) c.root) (B:=cR (.slice yT seed.length cs) seed) (C:=cR (.slice uu log.length cl) log) (D:=Mp) zP zP zP zP) zE
 have oI:i<s.recs.length:=by omega
 have js:(ts[i]'cQ).2=recC (s.recs[i]'oI):=by
  have:=congrArg (fun l=>l[i]?) fx;simp only [aI,ae cQ,ae oI,Option.map_some,Option.some.injEq] at this
  exact this
 have fq:s.recs.take (i+1)=s.recs.take i++[s.recs[i]'oI]:=aA oI;have Ju:=hs.right _ (az oI);have MT:=hs.pos _ (az oI)
 have BB:c.size<(s.recs[i]'oI).size:=by
  rw [GK];refine NT ?_ MT;rw [← fq];exact hs.Cg.sublist ((List.take_sublist _ _).map _)
 have hcn:Ci (s.recs.take (i+1))=s.recs[i]'oI:=by rw [fq,JF]
 refine bG ((ba (show cT _ (cU (.slice qN ts.length cr) ts) _ from zP)).shape zo) ?_;rintro ⟨⟨lE,c',lG,yS,HX,zi,tS⟩,_⟩
 cases lG
 simp only [maxLen] at HX
 rcases tS with tS|⟨gr,or',rfl⟩
 ·omega
 have kh:∀ L R',cT L (cU (.slice (some ⟨gr,or',none⟩) ts.length cr) ts) R'→Rd L ⟨gr,or'+i,none⟩ (ts[i]'cQ).1:=fun L R' p=>(ba p).elem (by rw [aI,ae cQ];rfl)
 have sF:∀ L R',cT L (cG ts) R'→da L (ts[i]'cQ).1 (ts[i]'cQ).2:=fun L R' p=>dE.ea p _ (az cQ)
 generalize s.recs[i]'oI=n at *
 generalize ts[i]'cQ=y at *
 obtain ⟨yv,b⟩:=y;dsimp only at kh sF js
 subst js;have Ad:=Ju.1;have E6:=Ju.2;have nZ:(recC n).length=36:=j6 Ju;have Ge:recC n=be n.size 4++(n.root++[]):=by simp [recC]
 refine bG (cz (sF _ _ zP)) fun oy=>?_
 refine wB ?_;refine b7 rfl (kh _ _ zP) rfl ?_;refine wB ?_;refine aZ rfl rfl (jz _ e yv (recC n) (sF _ _ zP) zo) ?_;rintro _ _ ⟨WC,rfl,rfl⟩;rw [Ge];refine wB ?_;refine aZ rfl rfl (sV _ e WC n.size _ zo) ?_;rintro _ _ ⟨rfl,rfl⟩;refine wB ?_;have WD:=fun L:List cK=>xB L e WC 32 n.root [] E6 (by rw [aK];omega)
 refine aZ rfl rfl (WD _) ?_;rintro _ _ ⟨Y9,kn,rfl,rfl⟩
 (repeat (refine wA ?_;intros))
 refine bE (id:=15) [] mixed ?_
 (refine tM 0 ?_)
 refine tO 1 ?_;refine bg rfl rfl (Ct.at zP (xC _ e WC [])) ?_;rintro _ _ ⟨rfl,rfl⟩;refine ⟨fun _=>zE,A.fF zE ?_⟩;rw [ay rfl]
 (refine tk 2 _ rfl (cE.jX rfl) ?_;refine tM 3 ?_;refine du 4 _ rfl (cE.dD rfl zA zX) ?_)
 refine A.pi 5 rfl rfl zK ?_;refine bg rfl rfl (gI _ e (.slice Y9 n.root.length kn) n (ba zP)) ?_;rintro _ _ ⟨rfl,rfl⟩;refine ⟨fun _=>zE,A.fF zE ?_⟩;rw [ay Ju]
 (refine du 6 _ rfl (cE.jX rfl) ?_;refine tk 7 _ rfl (bJ rfl rfl) ?_;refine tM 8 ?_;refine du 9 _ rfl (bb rfl) ?_;refine du 10 _ rfl (bq rfl zR) ?_;refine du 11 _ rfl (bw rfl) ?_;refine du 12 _ rfl (bp rfl) ?_;refine du 13 _ rfl (bb rfl) ?_;refine du 14 _ rfl (bb rfl) ?_;refine du 15 _ rfl (bq rfl zR) ?_;refine du 16 (.bool false) rfl (cE.no (cE.leq rfl rfl) zn) ?_;refine tk 17 _ rfl (bJ rfl rfl) ?_)
 refine bf zK ?_;refine wB ?_;refine bi (i+1,n,Y9,kn) ⟨cQ,hcn.symm⟩ zd zS zE
end Go.Proofs
namespace Go.Proofs
structure AE where
 iB:Nat
 ord:Nat
 ik:Nat
 deriving DecidableEq
def j9:AE:=⟨0,0,0⟩
def AE.lt (a b:AE):Bool:=decide (a.iB<b.iB∨(a.iB=b.iB∧a.ord<b.ord))
def AE.fits (a:AE):Prop:=a.iB≤1000000000∧a.ord≤1000000000∧a.ik≤1000000000
def gK (l:List AE) (i j:Nat):List AE:=(l.set i (l.getD j j9)).set j (l.getD i j9)
theorem dH (l:List AE) (i j:Nat):(gK l i j).length=l.length:=by simp [gK]
def MW:Nat→List AE→Nat→List AE
 | 0,l,_=>l
 | n+1,l,j=>if j=0 then l else if (l.getD j j9).lt (l.getD ((j - 1) / 2) j9) then MW n (gK l ((j - 1) / 2) j) ((j - 1) / 2) else l
def yo (l:List AE) (i n:Nat):Nat:=if 2*i+2<n∧(l.getD (2*i+2) j9).lt (l.getD (2*i+1) j9)=true then 2*i+2 else 2*i+1
def lu:Nat→List AE→Nat→Nat→List AE
 | 0,l,_,_=>l
 | f+1,l,i,n=>if n≤2*i+1 then l else if (l.getD (yo l i n) j9).lt (l.getD i j9) then lu f (gK l i (yo l i n)) (yo l i n) n else l
def tu:Nat→List AE→List AE
 | 0,l=>l
 | k+1,l=>tu k (lu l.length l k l.length)
def pd (l:List AE) (a:AE):List AE:=MW l.length (l++[a]) l.length
def pu (l:List AE):List AE:=(lu (l.length - 1) (gK l 0 (l.length - 1)) 0 (l.length - 1)).take (l.length - 1)
def gL (l:List AE) (w:Nat):List AE:=tu ((l.filter fun a=>decide (a.ik≠w)).length / 2) (l.filter fun a=>decide (a.ik≠w))
theorem LS {α:Type} [DecidableEq α]:∀ (l:List α) (i j:Nat) (hi:i<l.length) (hj:j<l.length),((l.set i l[j]).set j l[i]).Perm l:=fun l i j hi hj=>by
 rw [List.perm_iff_count];intro a
 by_cases h:i=j
 ·subst h;simp
 ·rw [List.count_set (by simpa using hj),List.count_set hi];have h1:(l.set i l[j])[j]'(by simpa using hj)=l[j]:=by simp [List.getElem_set,h]
  rw [h1];have c1:0<List.count l[i] l:=List.count_pos_iff.2 (az hi);have c2:0<List.count l[j] l:=List.count_pos_iff.2 (az hj)
  by_cases e1:l[i]=a
  ·by_cases e2:l[j]=a
   ·simp only [e1,e2,beq_self_eq_true,if_true] at c1 c2 ⊢;omega
   ·have WE:(l[j] == a)=false:=by simpa using e2
    simp only [e1,WE,beq_self_eq_true,if_true,Bool.false_eq_true,if_false] at c1 c2 ⊢;omega
  ·have Zp:(l[i] == a)=false:=by simpa using e1
   by_cases e2:l[j]=a
   ·simp only [Zp,e2,beq_self_eq_true,if_true,Bool.false_eq_true,if_false] at c1 c2 ⊢;omega
   ·have WE:(l[j] == a)=false:=by simpa using e2
    simp only [Zp,WE,Bool.false_eq_true,if_false] at c1 c2 ⊢;omega
theorem kV {l:List AE} {i j:Nat} (hi:i<l.length) (hj:j<l.length):(gK l i j).Perm l:=by
 have h1:l.getD j j9=l[j]:=by simp [List.getD,hj]
 have h2:l.getD i j9=l[i]:=by simp [List.getD,hi]
 unfold gK;rw [h1,h2];exact LS l i j hi hj
theorem Ep:∀ (n:Nat) (l:List AE) (j:Nat),j<l.length→(MW n l j).Perm l
 | 0,_,_,_=>List.Perm.refl _
 | n+1,l,j,h=>by
  unfold MW
  split
  ·exact List.Perm.refl _
  ·split
   ·exact (Ep n _ _ (by rw [dH];omega)).trans (kV (by omega) h)
   ·exact List.Perm.refl _
theorem Ck {l:List AE} {i n:Nat} (h:2*i+1<n):yo l i n<n∧i<yo l i n:=by
 unfold yo
 split<;>omega
theorem mJ:∀ (f:Nat) (l:List AE) (i n:Nat),i<l.length→n≤l.length→(lu f l i n).Perm l
 | 0,_,_,_,_,_=>List.Perm.refl _
 | f+1,l,i,n,h,hn=>by
  unfold lu
  split
  ·exact List.Perm.refl _
  ·rename_i h1;obtain ⟨h2,h3⟩:=Ck (l:=l) (i:=i) (n:=n) (by omega)
   split
   ·exact (mJ f _ _ _ (by rw [dH];omega) (by rw [dH];exact hn)).trans (kV h (by omega))
   ·exact List.Perm.refl _
theorem rZ:∀ (k:Nat) (l:List AE),k≤l.length→(tu k l).Perm l
 | 0,_,_=>List.Perm.refl _
 | k+1,l,h=>by
  unfold tu;have h1:=mJ l.length l k l.length (by omega) (aT _);exact (rZ k _ (by rw [h1.length_eq];omega)).trans h1
theorem yp (l:List AE) (a:AE):(pd l a).Perm (l++[a]):=Ep _ _ _ (by simp)
theorem jA (l:List AE) (w:Nat):(gL l w).Perm (l.filter fun a=>decide (a.ik≠w)):=rZ _ _ (by omega)
theorem yq:∀ (f:Nat) (l:List AE) (i n k:Nat),i<l.length→n≤l.length→i<n∨n≤2*i+1→n≤k→(lu f l i n).getD k j9=l.getD k j9
 | 0,_,_,_,_,_,_,_,_=>rfl
 | f+1,l,i,n,k,h,hn,hi,hk=>by
  unfold lu
  split
  ·rfl
  ·rename_i h1;obtain ⟨h2,h3⟩:=Ck (l:=l) (i:=i) (n:=n) (by omega)
   split
   ·rw [yq f _ _ _ k (by rw [dH];omega) (by rw [dH];exact hn) (.inl h2) hk];unfold gK;rw [aL,List.getElem?_set_ne (by omega),List.getElem?_set_ne (by omega),← aL]
   ·rfl
theorem uH {l:List AE} (h:l≠[]):(l.getD 0 j9::pu l).Perm l:=by
 have hl:0<l.length:=List.length_pos_iff.2 h;have h1:=kV (l:=l) (i:=0) (j:=l.length - 1) hl (by omega);have h2:=mJ (l.length - 1) (gK l 0 (l.length - 1)) 0 (l.length - 1) (by rw [dH];exact hl) (by rw [dH];omega);have h3:=yq (l.length - 1) (gK l 0 (l.length - 1)) 0 (l.length - 1) (l.length - 1) (by rw [dH];exact hl) (by rw [dH];omega) (by omega) (aT _)
 have h4:(gK l 0 (l.length - 1)).getD (l.length - 1) j9=l.getD 0 j9:=by
  unfold gK;rw [aL,List.getElem?_set_self (by simp;omega)]
  rfl
 have hlen:=(h2.trans h1).length_eq
 generalize hD:lu (l.length - 1) (gK l 0 (l.length - 1)) 0 (l.length - 1)=D at *
 have h5:D=D.take (l.length - 1)++[D.getD (l.length - 1) j9]:=by
  conv=>lhs;rw [← List.take_append_drop (l.length - 1) D]
  congr 1
  have hd:l.length - 1<D.length:=by omega
  rw [List.drop_eq_getElem_cons hd,List.drop_eq_nil_of_le (by omega)]
  simp [List.getD,hd]
 rw [h3,h4] at h5
 have h6:=h2.trans h1;rw [h5] at h6
 unfold pu;rw [hD];exact (List.perm_append_comm (l₁:=[l.getD 0 j9]) (l₂:=D.take (l.length - 1))).trans h6
theorem Er {l:List AE} (h:l≠[]):(pu l).length+1=l.length:=by have:=(uH h).length_eq;simpa using this
end Go.Proofs
namespace Go.Proofs
open Go.Bs
structure vE where
 fk:dA
 idx:Nat
 size:Nat
 path:List dA
 kH:jU
 eJ:List kF
def WG:vE:=⟨[],0,0,[],⟨⟨0,[]⟩,⟨0,[],[]⟩⟩,[]⟩
structure vE.wf (b:vE):Prop where
 fk:b.fk.length≤65535
 idx:b.idx≤256
 size:b.size≤256
 Fc:b.path.length≤16
 jD:∀ a∈b.path,a.length=32
 dd:b.kH.dd.right
 sig:b.kH.sig.right
 iC:b.eJ.length≤255
 ey:∀ g∈b.eJ,g.gy<4
 sigs:∀ g∈b.eJ,g.sig.right
def lv (gs:List kF):dA:=(gs.map eU).flatten
def fU (b:vE):dA:=enc b.fk++(be b.idx 4++(be b.size 4++(UInt8.ofNat b.path.length::(b.path.flatten++(hZ b.kH++(UInt8.ofNat b.eJ.length::lv b.eJ))))))
def oN (idx size:Nat) (path:List dA) (leaf root:dA):Prop:=(path.length≤16∧∀ a∈path,a.length=32)∧leaf.length=32∧idx<size∧path.length=jl size idx∧lm size idx path leaf=root
instance (idx size:Nat) (path:List dA) (leaf root:dA):Decidable (oN idx size path leaf root):=by unfold oN;infer_instance
theorem GL {idx size:Nat} {ts:List dX} {leaf root:dA}:(pQ (idx:Int) (size:Int) ts leaf∧pR (idx:Int) (size:Int) ts leaf=root)↔oN idx size (ts.map (·.2)) leaf root:=by
 unfold pQ oN pR jF;rw [decide_eq_true_iff,ab];have h1:(∀ a∈ts,a.2.length=32)↔∀ a∈ts.map (·.2),a.length=32:=⟨fun h a ha=>by obtain ⟨x,hx,rfl⟩:=aD.1 ha;exact h x hx,fun h a ha=>h _ (aD.2 ⟨a,ha,rfl⟩)⟩
 rw [h1];simp only [Int.toNat_natCast]
 constructor
 ·rintro ⟨⟨a,b,c,d,e⟩,f⟩;exact ⟨a,b,by omega,e,f⟩
 ·rintro ⟨a,b,c,e,f⟩;exact ⟨⟨a,b,by omega,by omega,e⟩,f⟩
def l5 (p:jK) (b:vE):Int:=if ¬ jm b.fk then 12 else if ¬ b.kH.hJ p.log then 30 else if ¬ (b.size=b.kH.dd.size∧oN b.idx b.size b.path (cZ b.fk) b.kH.dd.root) then 31 else if ¬ sZ p b.kH.dd b.eJ then 33 else 0
abbrev r5 (b:vE) (vm vp vr va vq vc:Value):List Value:=[vm,.int .i64 (b.idx:Int),.int .i64 (b.size:Int),vp,.int .i64 (b.kH.dd.size:Int),vr,.int .i64 (b.kH.sig.idx:Int),va,vq,vc]
structure rh (L:List cK) (vm vp vr va vq vc:Value) (b:vE):Prop where
 fk:da L vm b.fk
 path:j8 L vp b.path
 kH:ff L vr va vq b.kH
 gs:oC L vc b.eJ
theorem rh.cN {L L':List cK} {vm vp vr va vq vc:Value} {b:vE} (h:rh L' vm vp vr va vq vc b) (f:cC L L'):rh L vm vp vr va vq vc b:=⟨h.fk.cN f,h.path.cN f,h.kH.cN f,h.gs.cN f⟩
theorem jn.ok.cN {L L':List cK} {t:jn} (h:jn.ok L' t) (f:cC L L'):jn.ok L t:=⟨h.rd.cN f,h.small⟩
theorem fc {l:List dA} {n:Nat} (h:∀ a∈l,a.length=n):l.flatten.length=l.length*n:=by
 induction l with
 | nil=>simp
 | cons x l ih =>
  rw [List.flatten_cons,aa,h x (List.mem_cons_self ..),ih (fun a ha=>h a (aU _ ha)),aR,Nat.add_mul];omega
theorem qG {gs:List kF} (h:∀ g∈gs,g.sig.right):(lv gs).length=gs.length*2181:=by
 unfold lv;rw [fc (n:=2181) (fun a ha=>by obtain ⟨g,hg,rfl⟩:=aD.1 ha;exact k6 (h g hg)),ab]
theorem oO {b:vE} (h:b.wf):(fU b).length≤1000000:=by
 have h1:=h.fk;have h2:=h.Fc;have h3:=h.iC;unfold fU;simp only [aa,aR,cY,fc h.jD,iN h.dd h.sig,qG h.sigs,enc]
 omega
structure FW where
 size:Nat
 tries:Nat
 kept:Bool
structure cS where
 ag:List AE
 ord:Nat
 st:List FW
 cur:Option jU
 kept:List kF
 done:jU
 dm:List kF
def uI:jU:=⟨⟨0,[]⟩,⟨0,[],[]⟩⟩
def k9:FW:=⟨0,0,false⟩
def cS.dY (s:cS):jU:=s.cur.getD uI
def zp (k:Nat):cS:=⟨[],0,List.replicate k k9,none,[],uI,[]⟩
def jU.fits (x:jU):Prop:=x.dd.right∧x.sig.right
structure cS.ok (s:cS) (k n:Nat):Prop where
 len:s.st.length=k
 fits:∀ a∈s.ag,a.fits∧a.ik<k
 Cl:(s.ag.map (·.ik)).Nodup
 ord:s.ord≤n
 tries:∀ x∈s.st,x.tries≤n
 kI:∀ x∈s.st,x.size≤s.dY.dd.size
 cur:∀ x,s.cur=some x→x.fits
 kept:∀ g∈s.kept,g.gy<k∧g.sig.right∧(s.st.getD g.gy k9).kept=true
 yr:(s.kept.map (·.gy)).Nodup
 done:s.dm≠[]→s.done.fits
 LU:s.done.sig.fits
 dm:∀ g∈s.dm,g.gy<k∧g.sig.right
 Cm:(s.dm.map (·.gy)).Nodup
def cS.NU (s:cS) (t w:Nat):cS:={ s with ag:=pd (gL s.ag w) ⟨t,s.ord,w⟩,ord:=s.ord+1 }
def FW.off (x:FW):FW:={ x with tries:=0,kept:=false }
def cS.Qt (s:cS) (now w:Nat):cS:=cS.NU { s with st:=s.st.set w (s.st.getD w k9).off } now w
def cS.lD (now:Nat):Nat→cS→cS
 | 0,s=>s
 | n+1,s=>(s.lD now n).Qt now n
def cS.Es (p:jK) (s:cS) (x:jU):Prop:=x.hJ p.log∧∀ c,s.cur=some c→¬ x.dd.size≤c.dd.size
instance (p:jK) (s:cS) (x:jU):Decidable (s.Es p x):=by
 unfold cS.Es
 cases s.cur with
 | none=>exact decidable_of_iff (x.hJ p.log) ⟨fun h=>⟨h,fun c hc=>by cases hc⟩,fun h=>h.1⟩
 | some c=>exact decidable_of_iff (x.hJ p.log∧¬ x.dd.size≤c.dd.size) ⟨fun h=>⟨h.1,fun d hd=>by cases hd;exact h.2⟩,fun h=>⟨h.1,h.2 c rfl⟩⟩
def cS.ii (p:jK) (s:cS) (x:jU) (now:Nat):cS:=if s.Es p x then cS.lD now s.st.length { s with cur:=some x,kept:=[] } else s
def nr (now:Nat):Nat→List AE→List Nat × List AE
 | 0,l=>([],l)
 | n+1,l=>if 0<l.length∧(l.getD 0 j9).iB≤now then ((l.getD 0 j9).ik::(nr now n (pu l)).1,(nr now n (pu l)).2) else ([],l)
def cS.kW (s:cS) (now:Nat):List (Nat × Nat):=(nr now s.ag.length s.ag).1.map fun w=>(w,(s.st.getD w k9).size)
def cS.yu (retry now:Nat) (s:cS) (w:Nat):cS :=
 let s2:=s.NU (now+retry*2 ^ min (s.st.getD w k9).tries 3) w
 {s2 with st:=s2.st.set w { s2.st.getD w k9 with tries:=(s2.st.getD w k9).tries+1 } }
def cS.iq (retry now:Nat):List (Nat × Nat)→cS→cS
 | [],s=>s
 | r::l,s=>iq retry now l (s.yu retry now r.1)
def cS.kB (retry:Nat) (s:cS) (now:Nat):cS:=cS.iq retry now (s.kW now) { s with ag:=(nr now s.ag.length s.ag).2 }
def cS.gU (s:cS) (w:Nat) (g:kF):cS:={ s with kept:=s.kept++[g],st:=s.st.set w { s.st.getD w k9 with size:=s.dY.dd.size,kept:=true },ag:=gL s.ag w }
def cS.ir (p:jK) (s:cS) (w:Nat) (g:kF):cS:=if p.eE≤(s.kept++[g]).length then { s.gU w g with done:=s.dY,dm:=s.kept++[g] } else s.gU w g
def cS.ri (s:cS) (w:Nat):Prop:=s.cur.isSome=true∧w<s.st.length∧(s.st.getD w k9).kept=false
instance (s:cS) (w:Nat):Decidable (s.ri w):=by unfold cS.ri;infer_instance
def cS.vF (p:jK) (s:cS) (w:Nat) (g:kF):Prop:=g.gy=w∧g.hJ p s.dY.dd
instance (p:jK) (s:cS) (w:Nat) (g:kF):Decidable (s.vF p w g):=by unfold cS.vF;infer_instance
def cS.turns (s:cS) (w size:Nat):Prop:=size≤s.dY.dd.size∧size≠(s.st.getD w k9).size
instance (s:cS) (w size:Nat):Decidable (s.turns w size):=by unfold cS.turns;infer_instance
def cS.zq (s:cS) (w size now:Nat):cS:=cS.NU { s with st:=s.st.set w { s.st.getD w k9 with size:=size } } now w
def cS.zr (p:jK) (s:cS) (w:Nat) (g:kF) (size:Nat):Bool:=decide (s.ri w∧(s.vF p w g∨s.turns w size))
def cS.nU (p:jK) (s:cS) (w:Nat) (g:kF) (size now:Nat):cS:=if ¬ s.ri w then s else if s.vF p w g then s.ir p w g else if s.turns w size then s.zq w size now else s
theorem NV {l:List AE} {t o w k:Nat} (h:∀ a∈l,a.fits∧a.ik<k) (ht:t≤1000000000) (ho:o≤1000000000) (hw:w<k) (hk:k≤1000):∀ a∈pd (gL l w) ⟨t,o,w⟩,a.fits∧a.ik<k:=fun a ha=>by
 have h1:=(yp (gL l w) ⟨t,o,w⟩).mem_iff.1 ha;rcases aJ.1 h1 with h1|h1
 ·exact h a (List.mem_filter.1 ((jA l w).mem_iff.1 h1)).1
 ·rw [an.1 h1];exact ⟨⟨ht,ho,by show w≤_;omega⟩,hw⟩
theorem JG {l:List AE} {w k:Nat} (h:∀ a∈l,a.fits∧a.ik<k):∀ a∈gL l w,a.fits∧a.ik<k:=fun a ha=>h a (List.mem_filter.1 ((jA l w).mem_iff.1 ha)).1
theorem GM {l:List AE} {w:Nat}:(gL l w).length≤l.length:=by rw [(jA l w).length_eq];exact List.length_filter_le _ _
theorem nV:∀ (k:Nat) (l:List Nat),l.Nodup→(∀ x∈l,x<k)→l.length≤k
 | 0,l,_,h=>by
  cases l with
  | nil=>simp
  | cons a l=>exact absurd (h a (List.mem_cons_self ..)) (Nat.not_lt_zero a)
 | k+1,l,hn,h=>by
  have h1:=nV k (l.filter fun x=>decide (x≠k)) (hn.filter _) (fun x hx=>by
   obtain ⟨h2,h3⟩:=List.mem_filter.1 hx;have:=h x h2;have:=of_decide_eq_true h3
   omega)
  have h2:l.length=(l.filter fun x=>decide (x≠k)).length+(l.filter fun x=>!decide (x≠k)).length:=by
   rw [← aa,(List.filter_append_perm _ l).length_eq]
  have h3:(l.filter fun x=>!decide (x≠k)).length≤1:=by
   have h4:∀ y∈l.filter (fun x=>!decide (x≠k)),y=k:=fun y hy=>by
    have:=(List.mem_filter.1 hy).2
    simpa using this
   have h5:=hn.filter fun x=>!decide (x≠k)
   cases hq:l.filter (fun x=>!decide (x≠k)) with
   | nil=>simp
   | cons a q =>
    cases q with
    | nil=>simp
    | cons b q =>
     rw [hq] at h4 h5
     have e1:=h4 a (List.mem_cons_self ..);have e2:=h4 b (aU _ (List.mem_cons_self ..));rw [e1,e2] at h5
     simp at h5
  omega
theorem cS.ok.AY {s:cS} {k n:Nat} (h:s.ok k n):s.ag.length≤k:=by
 have:=nV k (s.ag.map (·.ik)) h.Cl (fun x hx=>by obtain ⟨a,ha,rfl⟩:=aD.1 hx;exact (h.fits a ha).2)
 rwa [ab] at this
theorem cS.ok.Fc {s:cS} {k n:Nat} (h:s.ok k n):s.kept.length≤k:=by
 have:=nV k (s.kept.map (·.gy)) h.yr (fun x hx=>by obtain ⟨a,ha,rfl⟩:=aD.1 hx;exact (h.kept a ha).1)
 rwa [ab] at this
theorem cS.ok.JH {s:cS} {k n:Nat} (h:s.ok k n):s.dm.length≤k:=by
 have:=nV k (s.dm.map (·.gy)) h.Cm (fun x hx=>by obtain ⟨a,ha,rfl⟩:=aD.1 hx;exact (h.dm a ha).1)
 rwa [ab] at this
theorem cS.ok.mono {s:cS} {k n m:Nat} (h:s.ok k n) (hm:n≤m):s.ok k m:={ h with ord:=Nat.le_trans h.ord hm,tries:=fun x hx=>Nat.le_trans (h.tries x hx) hm }
theorem Cn (k:Nat):(zp k).ok k 0 where
 len:=List.length_replicate
 fits:=fun a ha=>absurd ha aO
 Cl:=List.nodup_nil
 ord:=aT _
 tries:=fun x hx=>by have:=(List.mem_replicate.1 hx).2;subst this;exact aT _
 kI:=fun x hx=>by have:=(List.mem_replicate.1 hx).2;subst this;exact aG _
 cur:=fun x hx=>nomatch hx
 kept:=fun g hg=>absurd hg aO
 yr:=List.nodup_nil
 done:=fun h=>absurd rfl h
 LU:=⟨fun x hx=>absurd hx aO,fun x hx=>absurd hx aO⟩
 dm:=fun g hg=>absurd hg aO
 Cm:=List.nodup_nil
theorem vG {l:List AE} {w:Nat} (h:(l.map (·.ik)).Nodup):((gL l w).map (·.ik)).Nodup:=by
 rw [((jA l w).map _).nodup_iff];exact h.sublist (List.filter_sublist.map _)
theorem JI {l:List AE} {t o w:Nat} (h:(l.map (·.ik)).Nodup):((pd (gL l w) ⟨t,o,w⟩).map (·.ik)).Nodup:=by
 rw [((yp _ _).map _).nodup_iff,ah];refine List.nodup_append.2 ⟨vG h,by simp,fun a ha b hb=>?_⟩;rw [List.map_cons,List.map_nil,an] at hb
 subst hb;obtain ⟨x,hx,rfl⟩:=aD.1 ha;exact of_decide_eq_true (List.mem_filter.1 ((jA l _).mem_iff.1 hx)).2
theorem cS.Co {s:cS} {k n t w:Nat} (h:s.ok k n) (ht:t≤1000000000) (hw:w<k) (hk:k≤1000) (hn:n≤1000000):(s.NU t w).ok k (n+1) :=
 {h.mono (Nat.le_succ n) with
  fits:=NV h.fits ht (by have:=h.ord;omega) hw hk
  Cl:=JI h.Cl
  ord:=by have:=h.ord;show s.ord+1≤n+1;omega }
theorem qb {l:List FW} {w:Nat} (h:w<l.length):l.getD w k9∈l:=by
 have:l.getD w k9=l[w]:=by simp [List.getD,h]
 rw [this];exact az h
theorem qc {l:List FW} {w:Nat} {x:FW} {P:FW→Prop} (h:∀ y∈l,P y) (hx:P x):∀ y∈l.set w x,P y:=fun y hy=>by
 rcases List.mem_or_eq_of_mem_set hy with hy|rfl
 ·exact h y hy
 ·exact hx
theorem GN {l:List FW} {w:Nat} {x:FW} (h:w<l.length) (v:Nat):(l.set w x).getD v k9=if v=w then x else l.getD v k9:=by
 rw [aL,List.getElem?_set]
 by_cases e:v=w
 ·subst e;rw [aH rfl,aH rfl,aH h];rfl
 ·rw [aB (fun q=>e q.symm),aB e,aL]
theorem cS.NW {s:cS} {k n now w:Nat} (h:s.ok k n) (NX:s.kept=[]) (ht:now≤1000000000) (hw:w<k) (hk:k≤1000) (hn:n≤1000000):(s.Qt now w).ok k (n+1):=by
 have hl:w<s.st.length:=by rw [h.len];exact hw
 refine cS.Co (s:={ s with st:=s.st.set w (s.st.getD w k9).off }) ?_ ht hw hk hn
 exact { h with
  len:=by show (s.st.set w _).length=k;rw [List.length_set];exact h.len
  tries:=qc h.tries (aG _)
  kI:=qc h.kI (show (s.st.getD w k9).size≤_ from h.kI (s.st.getD w k9) (qb hl))
  kept:=fun g hg=>by rw [show cS.kept { s with st:=s.st.set w (s.st.getD w k9).off }=[] from NX] at hg;cases hg }
theorem cS.Cp {now k:Nat} (hk:k≤1000) (ht:now≤1000000000):∀ (m:Nat) {s:cS} {n:Nat},s.ok k n→s.kept=[]→m≤k→n+m≤1000000→(cS.lD now m s).ok k (n+m)∧(cS.lD now m s).kept=[]∧(cS.lD now m s).st.length=s.st.length∧(cS.lD now m s).cur=s.cur
 | 0,s,n,h,NX,_,_=>⟨h,NX,rfl,rfl⟩
 | m+1,s,n,h,NX,hm,hn=>by
  obtain ⟨h1,h2,h3,h4⟩:=cS.Cp hk ht m h NX zo zo;have e1:n+m≤1000000:=by omega
  exact ⟨cS.NW h1 h2 ht zo hk e1,h2,by show (List.set _ _ _).length=_;rw [List.length_set];exact h3,h4⟩
theorem cS.HZ {s:cS} {k n:Nat} {p:jK} {x:jU} (h:s.ok k n) (hx:x.fits) (hb:s.Es p x):cS.ok { s with cur:=some x,kept:=[] } k n :=
 {h with
  kI:=fun y hy=>by
   have h1:=h.kI y hy
   show y.size≤x.dd.size
   cases hc:s.cur with
   | none=>rw [show s.dY=uI by unfold cS.dY;rw [hc];rfl] at h1;exact Nat.le_trans h1 (aG _)
   | some c =>
    rw [show s.dY=c by unfold cS.dY;rw [hc];rfl] at h1
    have:=hb.2 c hc
    omega
  cur:=fun y hy=>by cases hy;exact hx
  kept:=fun g hg=>by cases hg
  yr:=List.nodup_nil }
theorem cS.wH {s:cS} {k n now:Nat} {p:jK} {x:jU} (h:s.ok k n) (hx:x.fits) (ht:now≤1000000000) (hk:k≤1000) (hn:n+k≤1000000):(s.ii p x now).ok k (n+k):=by
 unfold cS.ii
 split
 ·rename_i hb;rw [h.len];exact (cS.Cp hk ht k (cS.HZ h hx hb) rfl (aT _) hn).1
 ·exact h.mono zo
theorem qH (now:Nat):∀ (m:Nat) (l:List AE),((nr now m l).1++(nr now m l).2.map (·.ik)).Perm (l.map (·.ik))∧∀ a∈(nr now m l).2,a∈l
 | 0,l=>⟨List.Perm.refl _,fun a ha=>ha⟩
 | m+1,l=>by
  unfold nr
  split
  ·rename_i h;have mV:l≠[]:=fun q=>by rw [q] at h;simp at h
   obtain ⟨h1,h2⟩:=qH now m (pu l);have h3:=uH mV;refine ⟨?_,fun a ha=>h3.mem_iff.1 (aU _ (h2 a ha))⟩;refine List.Perm.trans (List.Perm.cons _ h1) ?_;exact h3.map (·.ik)
  ·exact ⟨List.Perm.refl _,fun a ha=>ha⟩
theorem cS.LV {s:cS} {k n now:Nat} (h:s.ok k n):cS.ok { s with ag:=(nr now s.ag.length s.ag).2 } k n∧(∀ r∈s.kW now,r.1<k∧r.2≤s.dY.dd.size)∧(s.kW now).length≤k:=by
 obtain ⟨h1,h2⟩:=qH now s.ag.length s.ag;have hu:=h1.nodup_iff.2 h.Cl
 have hm:∀ w∈(nr now s.ag.length s.ag).1,w<k:=fun w hw=>by
  have:=h1.mem_iff.1 (List.mem_append_left _ hw);obtain ⟨a,ha,rfl⟩:=aD.1 this;exact (h.fits a ha).2
 refine ⟨{ h with fits:=fun a ha=>h.fits a (h2 a ha),Cl:=(List.nodup_append.1 hu).2.1 },fun r hr=>?_,?_⟩
 ·obtain ⟨w,hw,rfl⟩:=aD.1 hr;exact ⟨hm w hw,h.kI _ (qb (by rw [h.len];exact hm w hw))⟩
 ·unfold cS.kW;rw [ab];exact nV k _ (List.nodup_append.1 hu).1 hm
theorem Cq {n:Nat}:2 ^ min n 3≤8:=by
 have:min n 3≤3:=Nat.min_le_right _ _
 calc 2 ^ min n 3≤2 ^ 3:=Nat.pow_le_pow_right zo this
  _=8:=rfl
theorem cS.LW {s:cS} {k n retry now w:Nat} (h:s.ok k n) (hr:retry≤100) (ht:now≤10000000) (hw:w<k) (hk:k≤1000) (hn:n≤1000000):(s.yu retry now w).ok k (n+1)∧(s.yu retry now w).dY=s.dY:=by
 have hp:retry*2 ^ min (s.st.getD w k9).tries 3≤800:=by
  have:=Nat.mul_le_mul hr (Cq (n:=(s.st.getD w k9).tries));omega
 have h2:=cS.Co (t:=now+retry*2 ^ min (s.st.getD w k9).tries 3) h zo hw hk hn;have hl:w<s.st.length:=by rw [h.len];exact hw
 refine ⟨?_,rfl⟩
 exact { h2 with
  len:=by show (s.st.set w _).length=k;rw [List.length_set];exact h.len
  tries:=qc h2.tries (by have:=h.tries _ (qb hl);show (s.st.getD w k9).tries+1≤n+1;omega)
  kI:=qc h2.kI (show (s.st.getD w k9).size≤_ from h.kI (s.st.getD w k9) (qb hl))
  kept:=fun g hg=>by
   obtain ⟨h3,h4,h5⟩:=h.kept g hg;refine ⟨h3,h4,?_⟩
   show ((s.st.set w _).getD g.gy k9).kept=true
   rw [GN hl]
   split
   ·rename_i e;rw [e] at h5;exact h5
   ·exact h5 }
theorem cS.yw {k retry now:Nat} (hr:retry≤100) (ht:now≤10000000) (hk:k≤1000):∀ (l:List (Nat × Nat)) {s:cS} {n:Nat},s.ok k n→(∀ r∈l,r.1<k)→n+l.length≤1000000→(cS.iq retry now l s).ok k (n+l.length)∧(cS.iq retry now l s).dY=s.dY
 | [],s,n,h,_,_=>⟨h,rfl⟩
 | r::l,s,n,h,hl,hn=>by
  rw [aR] at hn
  obtain ⟨h1,h2⟩:=cS.LW (w:=r.1) h hr ht (hl r (List.mem_cons_self ..)) hk zo;obtain ⟨h3,h4⟩:=cS.yw hr ht hk l h1 (fun x hx=>hl x (aU _ hx)) zo;exact ⟨h3.mono (by rw [aR];omega),h4.trans h2⟩
theorem cS.LX {s:cS} {k n retry now:Nat} (h:s.ok k n) (hr:retry≤100) (ht:now≤10000000) (hk:k≤1000) (hn:n+k≤1000000):(s.kB retry now).ok k (n+k):=by
 obtain ⟨h1,h2,h3⟩:=cS.LV (now:=now) h;exact (cS.yw hr ht hk (s.kW now) h1 (fun r hr=>(h2 r hr).1) zo).1.mono zo
theorem cS.Et {s:cS} {k n w:Nat} {g:kF} (h:s.ok k n) (hw:w<k) (hg:g.gy=w) (hr:g.sig.right) (Qu:(s.st.getD w k9).kept=false):(s.gU w g).ok k n:=by
 have hl:w<s.st.length:=by rw [h.len];exact hw
 exact { h with
  len:=by show (s.st.set w _).length=k;rw [List.length_set];exact h.len
  fits:=JG h.fits
  Cl:=vG h.Cl
  tries:=qc h.tries (show (s.st.getD w k9).tries≤_ from h.tries (s.st.getD w k9) (qb hl))
  kI:=qc h.kI (aT _)
  kept:=fun q hq=>by
   show q.gy<k∧q.sig.right∧((s.st.set w _).getD q.gy k9).kept=true
   rw [GN hl];rcases aJ.1 hq with hq|hq
   ·obtain ⟨h3,h4,h5⟩:=h.kept q hq;refine ⟨h3,h4,?_⟩
    split
    ·rfl
    ·exact h5
   ·rw [an.1 hq];exact ⟨by rw [hg];exact hw,hr,by rw [aH hg]⟩
  yr:=by
   show ((s.kept++[g]).map (·.gy)).Nodup
   rw [ah];refine List.nodup_append.2 ⟨h.yr,by simp,fun a ha b hb=>?_⟩;rw [List.map_cons,List.map_nil,an] at hb
   subst hb;rintro rfl;obtain ⟨q,hq,hqe⟩:=aD.1 ha;have h5:=(h.kept q hq).2.2;rw [hqe,hg,Qu] at h5
   cases h5 }
theorem cS.H0 {s:cS} {k n w:Nat} {g:kF} {p:jK} (h:s.ok k n) (hw:w<k) (hg:g.gy=w) (hr:g.sig.right) (hh:s.ri w):(s.ir p w g).ok k n:=by
 have h1:=cS.Et h hw hg hr hh.2.2;unfold cS.ir
 split
 ·obtain ⟨c,hc⟩:=Option.isSome_iff_exists.1 hh.1;have H2:s.dY=c:=by unfold cS.dY;rw [hc];rfl
  have UG:=h.cur c hc
  exact { h1 with
   done:=fun _=>by show s.dY.fits;rw [H2];exact UG
   LU:=by show s.dY.sig.fits;rw [H2];exact UG.2.fits
   dm:=fun q hq=>⟨(h1.kept q hq).1,(h1.kept q hq).2.1⟩
   Cm:=h1.yr }
 ·exact h1
theorem cS.H3 {s:cS} {k n w size now:Nat} (h:s.ok k n) (hw:w<k) (hs:size≤s.dY.dd.size) (ht:now≤1000000000) (hk:k≤1000) (hn:n≤1000000):(s.zq w size now).ok k (n+1):=by
 have hl:w<s.st.length:=by rw [h.len];exact hw
 refine cS.Co (s:={ s with st:=s.st.set w { s.st.getD w k9 with size:=size } }) ?_ ht hw hk hn
 exact { h with
  len:=by show (s.st.set w _).length=k;rw [List.length_set];exact h.len
  tries:=qc h.tries (show (s.st.getD w k9).tries≤_ from h.tries (s.st.getD w k9) (qb hl))
  kI:=qc h.kI hs
  kept:=fun g hg=>by
   obtain ⟨h3,h4,h5⟩:=h.kept g hg;refine ⟨h3,h4,?_⟩
   show ((s.st.set w _).getD g.gy k9).kept=true
   rw [GN hl]
   split
   ·rename_i e;rw [e] at h5;exact h5
   ·exact h5 }
theorem cS.NY {s:cS} {k n w size now:Nat} {g:kF} {p:jK} (h:s.ok k n) (hr:g.hJ p s.dY.dd→g.sig.right) (ht:now≤1000000000) (hk:k≤1000) (hn:n≤1000000):(s.nU p w g size now).ok k (n+1):=by
 unfold cS.nU
 split
 ·exact h.mono zo
 ·rename_i hh;have Zr:=Decidable.not_not.1 hh;have hw:w<k:=by have:=Zr.2.1;rw [h.len] at this;exact this
  split
  ·rename_i fq;exact (cS.H0 h hw fq.1 (hr fq.2) Zr).mono zo
  ·split
   ·rename_i Qv;exact cS.H3 h hw Qv.1 ht hk hn
   ·exact h.mono zo
end Go.Proofs
namespace Go.Proofs
attribute [local irreducible] Bs.cE Bs.Do Bs.O Bs.W Bs.Fin Bs.A Bs.Ct Bs.cF Bs.Rd Bs.Sat Bs.cM Bs.Ob Bs.dJ Bs.View Bs.cC Bs.Ex Bs.dI Bs.Pu Bs.eZ Bs.dK Bs.eh
open Go.Bs
open Tryz
theorem Cr (R:List cK) (e:World) (vl vw:Value) (p:jK) (hp:j3 R vl vw p) (hl:p.log.length≤1000000) (hn:p.ey.length≤1000) (hb:∀ b∈p.ey,b.length≤1000000) :
 Ct prog 117 #[.agg (lq p vl vw).toArray] e R (fun v' L'=>∃ (M:cK) (ul uw:Value),v'=.agg (lq p ul uw).toArray∧j3 [M] ul uw p∧L'=M::R):=by
 refine a7 (cz hp.log) fun o1=>?_
 refine a7 hp.ey.one fun o2=>?_
 obtain ⟨ts,fx,pa,Gm⟩:=hp.ey;have mw:ts.length=p.ey.length:=by rw [← fx,ab]
 refine a7 (pa.shape zo) ?_;rintro ⟨⟨Fe,cw,rfl,h3,h4,h5,h6⟩,_⟩;simp only [maxLen] at h4
 refine bI (args:=[_]) func117 rfl ntmps117 results117 rfl ?_
 (repeat' first|refine W.oZ (id:=2) (fun j:Nat × Nat × Nat × Option Addr × Nat=>[(1,pt j.1),(2,pt j.2.1),(3,pt j.2.2.1)]) (fun j=>cM j.2.2.1 [.slice j.2.2.2.1 p.log.length j.2.2.2.2,nY,.int .i64 (p.eE:Int)] 106 (0,0)::cR (.slice j.2.2.2.1 p.log.length j.2.2.2.2) p.log::cM j.1 (lq p vl (.slice Fe ts.length cw)) 106 (0,0)::cM j.2.1 [nY,nY,.int .i64 0] 106 (0,0)::R) (fun _=>True) ?_ ?_|apply Zc|apply Zd|apply Ze|apply Zf|refine Yg fun _=>?_|refine Yh fun _=>?_|fail)
 rotate_left
 ·refine ⟨?_⟩;rename_i g1 g2
  (repeat' first|refine Za ?_|refine Zb ?_|apply Zc|apply Zd|apply Ze|apply Zf|refine Zh ?_|refine Zi ?_|refine Zj ?_|refine Zk ?_|refine ZA ?_|refine ZB ?_|refine ZC (fun _=>?_) fun _=>?_|refine ZS ?_|refine Yd ?_|refine Ye ?_|refine Yg fun _=>?_|refine Yh fun _=>?_|refine Yi fun _=>?_|refine Ym ?_|refine Yw ?_|refine Yx ?_|refine Yy ?_|refine Yz ?_|refine YA ?_|apply YB|apply YC|apply YD|apply YE|apply YF|apply YG|apply YH|apply YI|apply YJ|refine YK ?_|refine YQ ?_|refine YR ?_|(apply O.dj;exact rfl;exact zP;(first|(simp only [aC,Nat.add_zero,Nat.reduceAdd,List.drop_succ_cons,List.drop_zero,List.take_succ_cons,List.take_zero];done)|(simp only [aC,Nat.add_zero,Nat.reduceAdd,List.drop_succ_cons,List.drop_zero,List.take_succ_cons,List.take_zero];exact rfl));exact rfl;exact rfl))
  refine bl (id:=1) [7] (cM g1 (lq p vl (.slice Fe ts.length cw)) 106 (0,0)::R) mixed ?_
  (refine tF 0 ?_;refine tL 1 ?_;refine tF 3 ?_;refine tL 4 ?_)
  refine A.two 2 6 rfl rfl rfl rfl zK ?_ ?_
  ·refine bg rfl rfl (dy _ e vl p.log (hp.log.cN zE) zo) ?_;rintro _ _ ⟨ad,c,rfl,rfl⟩;refine ⟨fun _=>zE,?_⟩;refine tk 5 _ rfl (bL rfl zF) ?_;refine tO 6 ?_;refine bS (cs:=[nY,nY,.int .i64 0]) rfl rfl fun g3=>⟨fun _=>zE,?_⟩
   refine tO 7 ?_;refine zg ?_;refine ⟨zN,?_⟩;refine bf zK ?_;exact bH (g1,g2,g3,ad,c) trivial zS zE
  ·refine bS (cs:=[nY,nY,.int .i64 0]) rfl rfl fun g3=>⟨fun _=>zE,?_⟩
   refine tO 2 ?_;refine bg rfl rfl (dy _ e vl p.log (hp.log.cN zE) zo) ?_;rintro _ _ ⟨ad,c,rfl,rfl⟩;refine ⟨fun _=>zE,?_⟩;refine tk 5 _ rfl (bL rfl zF) ?_;refine tO 7 ?_;refine zg ?_;refine ⟨zN,?_⟩;refine bf zK ?_;exact bH (g1,g2,g3,ad,c) trivial zS zE
 rintro ⟨g1,g2,g3,uu,cl⟩ _;dsimp only;refine wB ?_;refine br (ι:=Nat × List dX × Option Addr × Nat) (fun j=>[(2,pt g2),(3,pt g3),(13,.slice Fe ts.length cw),(14,.int .i64 (ts.length:Int)),(15,.int .i64 (j.1:Int))]) (fun j=>cM g3 [.slice uu p.log.length cl,.slice j.2.2.1 j.2.1.length j.2.2.2,.int .i64 (p.eE:Int)] 106 (0,0)::cU (.slice j.2.2.1 j.2.1.length j.2.2.2) j.2.1::cG j.2.1::cR (.slice uu p.log.length cl) p.log::cM g2 [nY,nY,.int .i64 0] 106 (0,0)::R) (fun j=>j.1≤ts.length∧j.2.1.map (·.2)=p.ey.take j.1) (fun j=>ts.length - j.1) (0,[],none,0) ⟨aG _,rfl⟩ zS (cn (dC) (cn (di dZ 1) zE)) ?_;rintro ⟨j,us,mH,cu⟩ ⟨hj,fZ⟩;dsimp only at hj fZ ⊢
 have HD:us.length=j:=by have:=congrArg List.length fZ;rw [ab,aE] at this;omega
 by_cases cQ:j<ts.length
 rotate_left
 ·rw [aF zo] at fZ
  obtain ⟨M,hM⟩:∃ M:cK,M=dI [cR (.slice uu p.log.length cl) p.log,cU (.slice mH us.length cu) us,cG us]:=⟨_,rfl⟩
  have ho:cC [M] [cR (.slice uu p.log.length cl) p.log,cU (.slice mH us.length cu) us,cG us]:=by rw [hM];exact cW (M:=[_,_,_]) (L:=[])
  refine wB ?_;apply bB
  ·exact zV
  exact ⟨M::R,cn (show cC _ (cR (.slice uu p.log.length cl) p.log::cU (.slice mH us.length cu) us::cG us::R) from zE) (by rw [hM];exact dN (M:=[_,_,_])),M,_,_,rfl,⟨(ba .zero).cN ho,j8.cN ⟨us,fZ,ba (.succ .zero),dE.ea (.succ (.succ .zero))⟩ ho⟩,rfl⟩
 rcases h6 with h6|⟨gg,og,rfl⟩
 ·omega
 have yx:j<p.ey.length:=by omega
 have hr:Rd R ⟨gg,og+j,none⟩ (ts[j]'cQ).1:=pa.elem (by rw [aI,ae cQ];rfl);have hx:=Gm _ (az cQ)
 have D6:(ts[j]'cQ).2=p.ey[j]'yx:=by
  have:=congrArg (fun l=>l[j]?) fx;simp only [aI,ae cQ,ae yx,Option.map_some,Option.some.injEq] at this
  exact this
 have fq:p.ey.take (j+1)=p.ey.take j++[p.ey[j]'yx]:=aA yx;have vQ:=hb _ (az yx);rw [← D6] at fq vQ
 generalize ts[j]'cQ=y at *
 obtain ⟨yv,x⟩:=y;dsimp only at hr hx fq vQ
 refine bG (cz (hx.cN zE)) fun o3=>?_
 (repeat' first|(refine b7 rfl (hr.cN zE) rfl ?_)|refine Zb ?_|apply Zc|apply Zd|apply Ze|apply Zf|refine ZA ?_|refine Yw ?_|refine Yz ?_|apply YB|apply YC)
 refine bl (id:=5) [6,7] (cM g3 [.slice uu p.log.length cl,.slice mH us.length cu,.int .i64 (p.eE:Int)] 106 (0,0)::R) mixed ?_
 (refine tF 0 ?_;refine tL 1 ?_;refine tM 2 ?_)
 refine tO 3 ?_;refine bg rfl rfl (dy _ e yv x (hx.cN zE) zo) ?_;rintro _ _ ⟨pZ,cx,rfl,rfl⟩;refine ⟨fun _=>zE,?_⟩;refine tO 4 ?_;refine bF (n:=1) (cs:=[.slice pZ x.length cx]) rfl rfl rfl rfl zQ rfl (fun gb=>⟨fun _=>zE,?_⟩);refine tO 5 ?_;refine bm rfl rfl rfl (show cT _ (cU (.slice mH us.length cu) us) _ from zP) (bQ (n:=1) (c:=1) zP rfl zl) rfl rfl zO zm zo fun dW k1 _=>⟨fun _=>zE,?_⟩
 refine tO 6 ?_;refine dV (bb rfl) ?_;refine tO 7 ?_;refine tZ ?_;refine ⟨zN,?_⟩;refine bf zK ?_;refine wB ?_;refine bi (j+1,us++[(.slice pZ x.length cx,x)],dW,k1) ⟨cQ,by dsimp only;rw [fq,ah,fZ];rfl⟩ zd zS ?_;simp only [cU,aa,aj,ah,List.map_cons,List.map_nil];exact cn (cn (show cC _ (cR (.slice pZ x.length cx) x::cG us::dJ dZ 1 (.slice dW (us.length+1) k1) (us.length+1) (us.map (·.1)++[.slice pZ x.length cx])::cM g3 [.slice uu p.log.length cl,.slice dW (us.length+1) k1,.int .i64 (p.eE:Int)] 106 (0,0)::cR (.slice uu p.log.length cl) p.log::cM g2 [nY,nY,.int .i64 0] 106 (0,0)::R) from zE) jp) zE
theorem Cs (R:List cK) (e:World) (vl vw:Value) (p:jK) (hp:j3 R vl vw p) (hl:p.log.length≤1000000) (hn:p.ey.length≤1000) (hb:∀ b∈p.ey,b.length≤1000000) :
 Ct prog 235 #[.agg (lq p vl vw).toArray] e R (fun v' L'=>∃ (M:cK) (ul uw:Value),v'=.agg (lq p ul uw).toArray∧j3 [M] ul uw p∧L'=M::R):=by
 refine a7 (cz hp.log) fun o1=>?_
 refine a7 hp.ey.one fun o2=>?_
 obtain ⟨ts,fx,pa,Gm⟩:=hp.ey;have mw:ts.length=p.ey.length:=by rw [← fx,ab]
 refine a7 (pa.shape zo) ?_;rintro ⟨⟨Fe,cw,rfl,h3,h4,h5,h6⟩,_⟩;simp only [maxLen] at h4
 refine bI (args:=[_]) func235 rfl ntmps235 results235 rfl ?_
 (repeat' first|refine W.oZ (id:=2) (fun j:Nat × Nat × Nat × Option Addr × Nat=>[(1,pt j.1),(2,pt j.2.1),(3,pt j.2.2.1)]) (fun j=>cM j.2.2.1 [.slice j.2.2.2.1 p.log.length j.2.2.2.2,nY,.int .i64 (p.eE:Int)] 106 (0,0)::cR (.slice j.2.2.2.1 p.log.length j.2.2.2.2) p.log::cM j.1 (lq p vl (.slice Fe ts.length cw)) 106 (0,0)::cM j.2.1 [nY,nY,.int .i64 0] 106 (0,0)::R) (fun _=>True) ?_ ?_|apply Zc|apply Zd|apply Ze|apply Zf|refine Yg fun _=>?_|refine Yh fun _=>?_|fail)
 rotate_left
 ·refine ⟨?_⟩;rename_i g1 g2
  (repeat' first|refine Za ?_|refine Zb ?_|apply Zc|apply Zd|apply Ze|apply Zf|refine Zh ?_|refine Zi ?_|refine Zj ?_|refine Zk ?_|refine ZA ?_|refine ZB ?_|refine ZC (fun _=>?_) fun _=>?_|refine ZS ?_|refine Yd ?_|refine Ye ?_|refine Yg fun _=>?_|refine Yh fun _=>?_|refine Yi fun _=>?_|refine Ym ?_|refine Yw ?_|refine Yx ?_|refine Yy ?_|refine Yz ?_|refine YA ?_|apply YB|apply YC|apply YD|apply YE|apply YF|apply YG|apply YH|apply YI|apply YJ|refine YK ?_|refine YQ ?_|refine YR ?_|(apply O.dj;exact rfl;exact zP;(first|(simp only [aC,Nat.add_zero,Nat.reduceAdd,List.drop_succ_cons,List.drop_zero,List.take_succ_cons,List.take_zero];done)|(simp only [aC,Nat.add_zero,Nat.reduceAdd,List.drop_succ_cons,List.drop_zero,List.take_succ_cons,List.take_zero];exact rfl));exact rfl;exact rfl))
  refine bl (id:=1) [7] (cM g1 (lq p vl (.slice Fe ts.length cw)) 106 (0,0)::R) mixed ?_
  (refine tF 0 ?_;refine tL 1 ?_;refine tF 3 ?_;refine tL 4 ?_)
  refine A.two 2 6 rfl rfl rfl rfl zK ?_ ?_
  ·refine bg rfl rfl (dy _ e vl p.log (hp.log.cN zE) zo) ?_;rintro _ _ ⟨ad,c,rfl,rfl⟩;refine ⟨fun _=>zE,?_⟩;refine tk 5 _ rfl (bL rfl zF) ?_;refine tO 6 ?_;refine bS (cs:=[nY,nY,.int .i64 0]) rfl rfl fun g3=>⟨fun _=>zE,?_⟩
   refine tO 7 ?_;refine zg ?_;refine ⟨zN,?_⟩;refine bf zK ?_;exact bH (g1,g2,g3,ad,c) trivial zS zE
  ·refine bS (cs:=[nY,nY,.int .i64 0]) rfl rfl fun g3=>⟨fun _=>zE,?_⟩
   refine tO 2 ?_;refine bg rfl rfl (dy _ e vl p.log (hp.log.cN zE) zo) ?_;rintro _ _ ⟨ad,c,rfl,rfl⟩;refine ⟨fun _=>zE,?_⟩;refine tk 5 _ rfl (bL rfl zF) ?_;refine tO 7 ?_;refine zg ?_;refine ⟨zN,?_⟩;refine bf zK ?_;exact bH (g1,g2,g3,ad,c) trivial zS zE
 rintro ⟨g1,g2,g3,uu,cl⟩ _;dsimp only;refine wB ?_;refine br (ι:=Nat × List dX × Option Addr × Nat) (fun j=>[(2,pt g2),(3,pt g3),(13,.slice Fe ts.length cw),(14,.int .i64 (ts.length:Int)),(15,.int .i64 (j.1:Int))]) (fun j=>cM g3 [.slice uu p.log.length cl,.slice j.2.2.1 j.2.1.length j.2.2.2,.int .i64 (p.eE:Int)] 106 (0,0)::cU (.slice j.2.2.1 j.2.1.length j.2.2.2) j.2.1::cG j.2.1::cR (.slice uu p.log.length cl) p.log::cM g2 [nY,nY,.int .i64 0] 106 (0,0)::R) (fun j=>j.1≤ts.length∧j.2.1.map (·.2)=p.ey.take j.1) (fun j=>ts.length - j.1) (0,[],none,0) ⟨aG _,rfl⟩ zS (cn (dC) (cn (di dZ 1) zE)) ?_;rintro ⟨j,us,mH,cu⟩ ⟨hj,fZ⟩;dsimp only at hj fZ ⊢
 have HD:us.length=j:=by have:=congrArg List.length fZ;rw [ab,aE] at this;omega
 by_cases cQ:j<ts.length
 rotate_left
 ·rw [aF zo] at fZ
  obtain ⟨M,hM⟩:∃ M:cK,M=dI [cR (.slice uu p.log.length cl) p.log,cU (.slice mH us.length cu) us,cG us]:=⟨_,rfl⟩
  have ho:cC [M] [cR (.slice uu p.log.length cl) p.log,cU (.slice mH us.length cu) us,cG us]:=by rw [hM];exact cW (M:=[_,_,_]) (L:=[])
  refine wB ?_;apply bB
  ·exact zV
  exact ⟨M::R,cn (show cC _ (cR (.slice uu p.log.length cl) p.log::cU (.slice mH us.length cu) us::cG us::R) from zE) (by rw [hM];exact dN (M:=[_,_,_])),M,_,_,rfl,⟨(ba .zero).cN ho,j8.cN ⟨us,fZ,ba (.succ .zero),dE.ea (.succ (.succ .zero))⟩ ho⟩,rfl⟩
 rcases h6 with h6|⟨gg,og,rfl⟩
 ·omega
 have yx:j<p.ey.length:=by omega
 have hr:Rd R ⟨gg,og+j,none⟩ (ts[j]'cQ).1:=pa.elem (by rw [aI,ae cQ];rfl);have hx:=Gm _ (az cQ)
 have D6:(ts[j]'cQ).2=p.ey[j]'yx:=by
  have:=congrArg (fun l=>l[j]?) fx;simp only [aI,ae cQ,ae yx,Option.map_some,Option.some.injEq] at this
  exact this
 have fq:p.ey.take (j+1)=p.ey.take j++[p.ey[j]'yx]:=aA yx;have vQ:=hb _ (az yx);rw [← D6] at fq vQ
 generalize ts[j]'cQ=y at *
 obtain ⟨yv,x⟩:=y;dsimp only at hr hx fq vQ
 refine bG (cz (hx.cN zE)) fun o3=>?_
 (repeat' first|(refine b7 rfl (hr.cN zE) rfl ?_)|refine Zb ?_|apply Zc|apply Zd|apply Ze|apply Zf|refine ZA ?_|refine Yw ?_|refine Yz ?_|apply YB|apply YC)
 refine bl (id:=5) [6,7] (cM g3 [.slice uu p.log.length cl,.slice mH us.length cu,.int .i64 (p.eE:Int)] 106 (0,0)::R) mixed ?_
 (refine tF 0 ?_;refine tL 1 ?_;refine tM 2 ?_)
 refine tO 3 ?_;refine bg rfl rfl (dy _ e yv x (hx.cN zE) zo) ?_;rintro _ _ ⟨pZ,cx,rfl,rfl⟩;refine ⟨fun _=>zE,?_⟩;refine tO 4 ?_;refine bF (n:=1) (cs:=[.slice pZ x.length cx]) rfl rfl rfl rfl zQ rfl (fun gb=>⟨fun _=>zE,?_⟩);refine tO 5 ?_;refine bm rfl rfl rfl (show cT _ (cU (.slice mH us.length cu) us) _ from zP) (bQ (n:=1) (c:=1) zP rfl zl) rfl rfl zO zm zo fun dW k1 _=>⟨fun _=>zE,?_⟩
 refine tO 6 ?_;refine dV (bb rfl) ?_;refine tO 7 ?_;refine tZ ?_;refine ⟨zN,?_⟩;refine bf zK ?_;refine wB ?_;refine bi (j+1,us++[(.slice pZ x.length cx,x)],dW,k1) ⟨cQ,by dsimp only;rw [fq,ah,fZ];rfl⟩ zd zS ?_;simp only [cU,aa,aj,ah,List.map_cons,List.map_nil];exact cn (cn (show cC _ (cR (.slice pZ x.length cx) x::cG us::dJ dZ 1 (.slice dW (us.length+1) k1) (us.length+1) (us.map (·.1)++[.slice pZ x.length cx])::cM g3 [.slice uu p.log.length cl,.slice dW (us.length+1) k1,.int .i64 (p.eE:Int)] 106 (0,0)::cR (.slice uu p.log.length cl) p.log::cM g2 [nY,nY,.int .i64 0] 106 (0,0)::R) from zE) jp) zE
end Go.Proofs
namespace Go.Bs
section
variable {P:Program} {N:Fr} {ty:TypeId} {σ:Env} {e:World} {L:List cK} {x:Operand} {d:Tmp} {pos:String} {af:Array Edge} {gd:Option (Nat × Bool)} {K:Env→List cK→Prop}
theorem b9 {t:TypeId} {v:Value} (hr:∀ w (v:Value),(Instr.makeInterface t v).run P w=.ok (.iface t v) w) (h:ev σ x=some v):cE P N (.makeInterface t x) ty (.iface t v) σ e L:=fun a w ha hs _ _ _ _=>by
 simp [execOp,ha.ev h,hr]
theorem cE.typeAssert {s t:TypeId} {v:Value} (hr:∀ w (v:Value),(Instr.typeAssert (.iface t v) s t false).run P w=.ok v w) (h:ev σ x=some (.iface t v)):cE P N (.typeAssert x s t false) ty v σ e L:=fun a w ha hs _ _ _ _=>by
 simp [execOp,ha.ev h,hr]
theorem Do.invoke {g:FuncId} {name:String} {xs:List Operand} {vs:List Value} {ats:Array TypeId} {t:TypeId} {v r:Value} {Post:Value→List cK→Prop}
 (h0:ev σ x=some (.iface t v)) (hx:py σ xs=some vs) (hd:Nat.blt d N.n=true)
 (hm:∀ w,Sat e L w→(Go.invoke (.fn (.method name) #[]) (.iface t v::vs).toArray).run P w=.ok (.enter g (r::vs).toArray) w)
 (h:Ct P g (r::vs).toArray e L Post) (k:∀ v L',Post v L'→K ((d,v)::σ) L') :
 Do P N ⟨some d,.call { callee:=.invoke x name,args:=xs.toArray,argTypes:=ats },ty,pos,af,gd⟩ K σ e L:=by
 intro a w ha hs K' Q' hK;unfold Oper.wp
 have h1:execOp a.eval ⟨some d,.call { callee:=.invoke x name,args:=xs.toArray,argTypes:=ats },ty,pos,af,gd⟩=Go.invoke (.fn (.method name) #[]) (.iface t v::vs).toArray:=by
  have h2:(#[a.eval x]++xs.toArray.map a.eval:Array Value)=(.iface t v::vs).toArray:=by simp [ha.ev h0,ha.py hx]
  simp only [execOp,resolve];rw [h2]
  rfl
 rw [h1,hm w hs,Oper.upon_enter];refine (h w hs).mono ?_;rintro x w' ⟨v,L',rfl,hp,ny⟩;exact hK _ _ _ _ (k v L' hp) (ha.put hd v) ny
theorem Do.Qw {t t':TypeId} {y:Operand} {v u:Value} (hr:∀ w,∃ b:Bool,((do eqGuard .eql t x y v u;binOp .eql t v u):Sem Value).run P w=.ok (.bool b) w) (h:ev σ x=some v) (h1:ev σ y=some u) (hd:Nat.blt d N.n=true) (k:∀ b:Bool,K ((d,.bool b)::σ) L) :
 Do P N ⟨some d,.binOp .eql t x y t',ty,pos,af,gd⟩ K σ e L:=fun a w ha hs K' Q' hK=>by
 obtain ⟨b,hb⟩:=hr w;refine eN (v:=.bool b) (w':=w) ?_ (hK _ _ _ _ (k b) (ha.put hd _) hs);simp only [execOp,ha.ev h,ha.ev h1];rw [Sem.run_bind,hb]
 rfl
theorem vH:∀ (vs cs:List Value) (o:Nat),o+vs.length≤cs.length→iu cs o vs (cs.take o++vs++cs.drop (o+vs.length))
 | [],cs,o,_=>by simpa using iu.nil (l:=cs) (n:=o)
 | v::vs,cs,o,h=>by
  rw [aR] at h
  have h1:=vH vs (cs.set o v) (o+1) (by rw [List.length_set];omega)
  have h2:(cs.set o v).take (o+1)++vs++(cs.set o v).drop (o+1+vs.length)=cs.take o++(v::vs)++cs.drop (o+(v::vs).length):=by
   rw [List.take_set,List.drop_set_of_lt (by omega)];rw [aA (by omega),List.set_append_right _ _ (by simp;omega)]
   simp [Nat.min_eq_left (show o≤cs.length by omega),Nat.add_assoc,Nat.add_comm 1]
  rw [h2] at h1
  exact iu.cons (gB.of v (by omega)) h1
theorem Do.nW {t n kk nn o c g:Nat} {y:Operand} {vs xs:List Value} {E:TypeId} {R:List cK} [i:ju P t n] (h:ev σ x=some (.pointer (some ⟨g,o,none⟩))) (h1:ev σ y=some (.agg vs.toArray)) (hn:vs.length=n) (hv:∀ v∈vs,v.oneCell'=true)
 (p:cT L (dJ E nn (.slice (some ⟨g,0,none⟩) kk c) kk xs) R) (ho:o+n≤kk*nn)
 (k:K σ (dJ E nn (.slice (some ⟨g,0,none⟩) kk c) kk (xs.take o++vs++xs.drop (o+vs.length))::R)) :
 Do P N ⟨none,.store t x y,ty,pos,af,gd⟩ K σ e L:=fun a w ha hs K' Q' hK=>by
 have fy:=hs.cN p.out;obtain ⟨hl,hA⟩:=n5 fy.2.2.2;rcases hA with ⟨lG,_⟩|⟨g',PA,cur,lG,r1,r2,r3,r4,hB⟩
 ·cases lG
 cases lG
 have kY:Sat e (cM g cur E (0,0)::R) w:=⟨hs.1,hs.2.1,hs.2.2.1,hB⟩
 have hle:kk*nn≤cur.length:=by rw [r3];exact Nat.mul_le_mul_right _ r1
 obtain ⟨w',e1,e2⟩:=pE (P:=P) (off:=o) (i:=0) (vH vs cur o (by omega)) rfl kY hv
 have fS:=fW (R:=R) (E:=E) (n:=nn) (g:=g) (k:=kk) (cap:=c) (cur:=cur.take o++vs++cur.drop (o+vs.length)) r1 r2 (by
  simp only [aa,aE,aP];omega)
 rw [tX cur vs o (kk*nn) (by omega) hle,r4] at fS
 refine lP (w':=w') ?_ (hK _ _ _ _ k ha (e2.cN fS))
 simp [execOp,ha.ev h,ha.ev h1,Instr.storeAt,Instr.sureAddr,storeVar,Value.cells,i.Bo,hn,e1]
theorem cE.NZ {t t':TypeId} {y:Operand} {k:IntKind} {m n r:Int} (h:ev σ x=some (.int k m)) (h1:ev σ y=some (.int k n)) (h0:n≠0) (hr:k.wrap (m.tdiv n)=r):cE P N (.binOp .quo t x y t') ty (.int k r) σ e L:=hr ▸ cE.quo h h1 h0
theorem cE.Qx {t f:Nat} {a b c v:Value} (hr:∀ w,(Instr.field t (.agg #[a,b,c]) f).run P w=.ok v w) (h:ev σ x=some (.agg [a,b,c].toArray)):cE P N (.field t x f) ty v σ e L:=fun w a ha _ _ _ _ _=>by
 have h2:=hr
 simp [execOp,ha.ev h,h2]
theorem AZ (zs:List Value) (hz:0<zs.length):∀ c:Nat,(madeCells zs.toArray (c*zs.length)).toList=(List.replicate c zs).flatten
 | 0=>by simp [madeCells]
 | c+1=>by
  have ih:=AZ zs hz c;simp only [madeCells,Array.toList_map,Array.toList_range,List.size_toArray] at ih ⊢
  rw [Nat.add_mul,Nat.one_mul,List.range_add,ah,ih,List.replicate_succ',List.flatten_append]
  congr 1
  rw [List.map_map];simp only [List.flatten_cons,List.flatten_nil,aK];apply List.ext_getElem?;intro q;rw [aI]
  by_cases hq:q<zs.length
  ·have h1:(c*zs.length+q) % zs.length=q:=by rw [Nat.mul_comm,Nat.mul_add_mod,Nat.mod_eq_of_lt hq]
   rw [List.getElem?_range hq]
   simp [hq,h1,Function.comp]
  ·rw [List.getElem?_eq_none (l:=List.range _) (by simpa using hq),List.getElem?_eq_none (by omega)]
   rfl
theorem Do.r6 {t el nn b c:Nat} {z:Value} {zs:List Value} {y:Operand} {k1 k2:IntKind} [i:ja P t el nn] [j:qU P el z nn b] (hx:ev σ x=some (.int k1 (c:Int))) (hy:ev σ y=some (.int k2 (c:Int))) (hd:Nat.blt d N.n=true) (hz:z.cells=zs.toArray) (hn:zs.length=nn) (h0:Nat.blt 0 nn=true) (CW:c≤maxLen) (hb:c*b≤140737488355328)
 (kk:∀ g,K ((d,.slice (some ⟨g,0,none⟩) c c)::σ) (dJ el nn (.slice (some ⟨g,0,none⟩) c c) c ((List.replicate c zs).flatten)::L)) :
 Do P N ⟨some d,.makeSlice t x y,ty,pos,af,gd⟩ K σ e L:=fun a w ha hs K' Q' hK=>by
 obtain ⟨ti,t1,t2,t3,t4⟩:=j.parts;subst t4
 have sz:(ti.bytes:Int)*(c:Int)≤281474976710656:=by
  have h:((ti.bytes*c:Nat):Int)≤281474976710656:=by rw [Nat.mul_comm];omega
  rwa [Int.natCast_mul] at h
 have hr:=run_make (P:=P) w t el ti z i.kN t1 t2 k1 k2 c c (by omega) (Int.le_refl _) sz (by simp only [maxLen] at CW;omega);simp only [Int.toNat_natCast,t3] at hr
 have h0':0<zs.length:=by rw [hn,← Nat.blt_eq];exact h0
 have hm:(madeCells z.cells (c*nn)).toList=(List.replicate c zs).flatten:=by rw [hz,← hn];exact AZ zs h0' c
 refine eN (w':=w.alloc (.cells (madeCells z.cells (c*nn)) el)) (v:=.slice (some ⟨w.heap.size,0,none⟩) c c) (by simp [execOp,ha.ev hx,ha.ev hy,hr]) (hK _ _ _ _ (kk _) (ha.put hd _) ?_);have CX:=(hs.alloc (.cells (madeCells z.cells (c*nn)) el)).cN (qp _ _ _ _);rw [hm] at CX
 have hlen:((List.replicate c zs).flatten).length=c*nn:=by simp [List.length_flatten,hn]
 have fS:=fW (E:=el) (n:=nn) (g:=w.heap.size) (k:=c) (cap:=c) (cur:=(List.replicate c zs).flatten) (R:=L) (aT _) CW hlen;rw [aF (by omega)] at fS
 exact CX.cN fS
end
end Go.Bs
