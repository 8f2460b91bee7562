/- Part 7 of a proof of this: TopMessages returns true for any arguments; nothing of the old memory is turned. No condition. -/
import Derived.Test.YtccekbdjebohcaaGreatG06
set_option linter.unusedVariables false
set_option linter.unusedSimpArgs false
namespace Go.Proofs
attribute [local irreducible] Bs.cD Bs.Do Bs.O Bs.W Bs.Fin Bs.A Bs.Ct Bs.cE Bs.Rd Bs.Sat Bs.cK Bs.Ob Bs.dJ Bs.View Bs.cz Bs.Ex Bs.dH Bs.Pu Bs.eY Bs.dM Bs.dZ
open Go.Bs
open Tryz
variable (R:List cJ) (e:World)
structure pe where
 recs:List dv
 q:List (dv × Int)
structure m4 where
 room:Nat
 size:Nat
 wait:Nat
structure m4.ok (c:m4):Prop where
 room:1≤c.room∧c.room≤16
 size:1≤c.size∧c.size≤8
 wait:c.wait≤1000
structure pe.ok (s:pe):Prop where
 size:s.recs.length≤1000
 n9:∀ b∈s.recs,ji b∧b.length≤200
 BE:s.q.length≤1000
 pf:∀ x∈s.q,x.1.length≤200
 wP:∀ x∈s.q,-9223372036854775808≤x.2∧x.2≤1000000
abbrev yV:TypeId:=221
structure yW where
 gj:Nat
 gq:Nat
 ar:Option Addr
 cr:Nat
 ts:List ej
 l:List jI
structure yW.ok (a:yW) (M:cJ) (c:m4) (s:pe):Prop where
 recs:a.ts.map (·.2)=s.recs
 yN:dP [M] a.ts
 QT:a.l.map (fun m=>(m.b,m.jD))=s.q
 st:s.ok
 xC:c.ok
abbrev DC (g d gl:Nat) (c:m4) (s:pe) (a:yW) (M:cJ) (R:List cJ):List cJ :=
 cK g [pt a.gj,pt gl,pt a.gq,.int .i64 (c.room:Int),.slice a.ar a.ts.length a.cr] yV (0,0)::cU (.slice a.ar a.ts.length a.cr) a.ts::M::jd a.gj d s.recs.length::de d (dx (eV s.recs))::xB a.gq c.room c.size c.wait a.l::R
def CH (g d gl:Nat) (c:m4) (s:pe) (a:yW) (M:cJ):cJ:=dH (Pu (a.ok M c s)::DC g d gl c s a M [])
def eg (g d gl:Nat) (c:m4) (s:pe):cJ:=Ex fun a=>Ex fun M=>CH g d gl c s a M
theorem yX {g d gl:Nat} {c:m4} {s:pe} {R:List cJ} {P:Program} {f:FuncId} {args:Array Value} {e:World} {Post:Value→List cJ→Prop}
 (h:∀ (a:yW) (M:cJ),a.ok M c s→Ct P f args e (DC g d gl c s a M R) Post):Ct P f args e (eg g d gl c s::R) Post :=
 Ct.ex .zero fun a=>Ct.ex .zero fun M=>Ct.cL (a7 (p:=a.ok M c s) (fun w x=>(jQ x).1) fun hp=>(h a M hp).cL (cz.drop aX)) (cT (M:=Pu (a.ok M c s)::DC g d gl c s a M []) (L:=R))
theorem qz {g d gl:Nat} {c:m4} {s:pe} {a:yW} {M:cJ} {R:List cJ} (h:a.ok M c s):cz (DC g d gl c s a M R) (eg g d gl c s::R) :=
 cj (m7 h) (cj (dQ (M:=Pu (a.ok M c s)::DC g d gl c s a M []) (L:=R)) (cj (fu (f:=fun M=>CH g d gl c s a M) M) (fu (f:=fun a=>Ex fun M=>CH g d gl c s a M) a)))
theorem yW.ok.len {a:yW} {M:cJ} {c:m4} {s:pe} (h:a.ok M c s):a.ts.length=s.recs.length∧a.l.length=s.q.length:=by
 have h1:=congrArg List.length h.recs;have h2:=congrArg List.length h.QT;rw [ab] at h1 h2
 exact ⟨h1,h2⟩
theorem mT (g d gl:Nat) (c:m4) (s:pe) :
 Ct prog 60 #[pt g] e (eg g d gl c s::R) (fun v' L'=>v'=.int .i64 (s.recs.length:Int)∧L'=eg g d gl c s::R):=by
 refine yX fun a M ha=>?_
 obtain ⟨l1,l2⟩:=ha.len;refine a8 (args:=[_]) func60 rfl ntmps60 results60 rfl ?_;refine wB ?_;exact aY _ rfl (qz ha) ⟨by rw [l1];rfl,rfl⟩
theorem Hy (v w:Value) (b a:List UInt8) (g:Nat) (hg:Rd R ⟨g,0,none⟩ w) (hv:db R v b) (hw:db R w a) :
 Ct prog 282 #[v,pt g] e R (fun v' L'=>v'=.bool (decide (b=a))∧R=L'):=by
 refine a8 (args:=[_,_]) func282 rfl ntmps282 results282 rfl ?_;refine wB ?_;refine aZ rfl rfl (iM _ e v w b a hv hw) ?_;rintro _ _ ⟨rfl,rfl⟩;refine wB ?_;exact aY R rfl aX ⟨rfl,rfl⟩
def CI (l:List dv) (b:dv):Int:=if b∈l then (lP l b:Int) else -1
theorem KB {l:List dv} {b:dv} (h:∀ i,i<l.length→decide (l.getD i []=b)=false):CI l b = -1:=by
 unfold CI;rw [aB (fun hm=>?_)];obtain ⟨i,hi,rfl⟩:=List.mem_iff_getElem.1 hm;have:=h i hi;rw [aA,ae hi] at this
 simp at this
theorem BF {b:dv}:∀ {l:List dv} {j:Nat},j<l.length→decide (l.getD j []=b)=true→(∀ i,i<j→decide (l.getD i []=b)=false)→CI l b=(j:Int)
 | [],j,h,_,_=>by simp at h
 | x::l,0,_,h,_=>by
  have hx:x=b:=by simpa using h
  unfold CI lP;rw [aI (by rw [hx];exact List.mem_cons_self ..),hx]
  simp
 | x::l,j+1,hj,h,hn=>by
  have hx:¬ x=b:=by simpa using hn 0 (Nat.succ_pos _)
  have ih:=BF (b:=b) (l:=l) (j:=j) (by simpa using hj) (by simpa using h) (fun i hi=>by simpa using hn (i+1) (Nat.succ_lt_succ hi));unfold CI at ih ⊢
  by_cases hm:b∈l
  ·rw [aI hm] at ih
   rw [aI (aT _ hm)];unfold lP at ih ⊢
   rw [List.idxOf_cons,show (x == b)=false by simpa using hx];simp only [cond_false]
   omega
  ·rw [aB hm] at ih
   omega
theorem Aq (g d gl:Nat) (c:m4) (s:pe) (v:Value) (b:dv) (hv:db R v b) :
 Ct prog 239 #[pt g,v] e (eg g d gl c s::R) (fun v' L'=>v'=.int .i64 (CI s.recs b)∧L'=eg g d gl c s::R):=by
 refine yX fun a M ha=>?_
 obtain ⟨l1,l2⟩:=ha.len;have lm:=ha.st.size;refine a7 (cE.shape (hv.cL (show cz (DC g d gl c s a M R) R from zE)) zo) ?_;rintro ⟨⟨av,cv,rfl,-,-,-,-⟩,_⟩;refine a8 (args:=[_,_]) func239 rfl ntmps239 results239 rfl ?_
 (repeat (refine wA ?_;intros))
 rename_i g3
 have hi:=wo (cK g3 [.slice av b.length cv] ez (0,0)::DC g d gl c s a M R) e (.slice a.ar a.ts.length a.cr) a.ts 282 [] [pt g3] (fun i=>decide ((a.ts.map (·.2)).getD i []=b)) (bb zP) zo (fun i hi=>by
  rw [fa hi];exact Hy _ e _ (.slice av b.length cv) _ b g3 (bP .zero rfl) ((ha.yN _ (az hi)).cL (cG zP)) (hv.cL zE))
 refine aZ rfl rfl hi ?_;rintro _ _ ⟨⟨z,rfl,hz⟩,rfl⟩
 have OE:z=CI s.recs b:=by
  rw [← ha.recs];rcases hz with ⟨rfl,hz⟩|⟨j,rfl,hj,F8,hj3⟩
  ·exact (KB (fun i hi=>hz i (by rw [ab] at hi;exact hi))).symm
  ·exact (BF (by rw [ab];exact hj) F8 hj3).symm
 subst OE;refine wB ?_;exact aY (eg g d gl c s::R) rfl (cj (show cz _ (DC g d gl c s a M R) from zE) (qz ha)) ⟨rfl,rfl⟩
def rB:Int:=-9223372036854775808
def io (cF:List dv) (recs:List dv):List dv:=recs.filter fun b=>decide (¬ b∈cF)
theorem yY {cF:List dv} {b:dv} {l:List dv}:io cF (l++[b])=if b∈cF then io cF l else io cF l++[b]:=by
 unfold io;rw [List.filter_append]
 by_cases h:b∈cF<;>simp [h]
theorem Hz (d gl ld lk:Nat) (seed:dv) (ls:fV) (c:m4) (recs:List dv) (hc:c.ok) (hl:recs.length≤1000) (hg:∀ b∈recs,ji b∧b.length≤200) :
 Ct prog 233 #[pt d,pt gl,.int .i64 (c.room:Int),.int .i64 (c.size:Int),.int .i64 (c.wait:Int)] e (de d (dx (eV recs))::cV gl ld lk seed ls::R) (fun v' L'=>∃ g,v'=.tuple #[pt g,.int .i64 0]∧L'=eg g d gl c ⟨recs,(io ls.cF recs).map fun b=>(b,rB)⟩::cV gl ld lk seed ls::R):=by
 have xh:=kD (l:=recs) (n:=200) (fun m hm=>(hg m hm).2);have Ht:∀ m∈recs,m.length≤65535:=fun m hm=>by have:=(hg m hm).2;omega
 have EI:=nZ recs Ht;refine a8 (args:=[_,_,_,_,_]) func233 rfl ntmps233 results233 rfl ?_;refine wB ?_;refine aZ rfl rfl (Kw _ e c.room c.size c.wait ⟨hc.room,hc.size,hc.wait⟩) ?_;rintro _ _ ⟨gq,rfl,rfl⟩;refine wB ?_;refine aZ rfl rfl (Ct.at (.succ .zero) (ng _ e d (eV recs) zo)) ?_;rintro _ _ (⟨h1,-⟩|⟨-,gj,ux,cr,ts,rfl,fy,rfl⟩)
 ·rw [EI] at h1;cases h1
 rw [EI] at fy ⊢
 rw [show (eV recs).take (eV recs).length=eV recs from List.take_length];dsimp only at fy
 have oF:ts.length=recs.length:=by have:=congrArg List.length fy;rwa [ab] at this
 (repeat (refine wA ?_;intros))
 rename_i g0;refine bq (ι:=Nat × List ej × Option Addr × Nat) (fun i=>[(1,pt gl),(12,pt gq),(16,pt g0),(17,.slice i.2.2.1 i.2.1.length i.2.2.2),(52,.slice ux ts.length cr),(53,.int .i64 (ts.length:Int)),(54,.int .i64 (i.1:Int))]) (fun i=>cU (.slice i.2.2.1 i.2.1.length i.2.2.2) i.2.1::cH ts::cU (.slice ux ts.length cr) ts::jd gj d ts.length::de d (dx (eV recs))::cV gl ld lk seed ls::xB gq c.room c.size c.wait []::cK g0 [pt gj,pt gl,pt gq,.int .i64 (c.room:Int),.slice ux ts.length cr] yV (0,0)::R) (fun i=>i.1≤ts.length∧i.2.1.map (·.2)=io ls.cF (recs.take i.1)∧∀ x∈i.2.1,x∈ts) (fun i=>ts.length - i.1) (0,[],none,0) ⟨aH _,by simp [io],fun x hx=>by cases hx⟩ zS (cj (du ez 1) zE) ?_;rintro ⟨i,fs,af,cf⟩ ⟨hi,BC,HA⟩;dsimp only at hi BC HA ⊢
 have DB:fs.length≤i:=by
  have:=congrArg List.length BC;rw [ab] at this
  have h2:=List.length_filter_le (fun b=>decide (¬ b∈ls.cF)) (recs.take i);rw [aF] at h2
  unfold io at this
  omega
 by_cases cO:i<ts.length
 rotate_left
 ·rw [aG zo] at BC
  refine wB ?_
  have VN:=Hw (cU (.slice af fs.length cf) fs::cH ts::cU (.slice ux ts.length cr) ts::jd gj d ts.length::de d (dx (eV recs))::cV gl ld lk seed ls::cK g0 [pt gj,pt gl,pt gq,.int .i64 (c.room:Int),.slice ux ts.length cr] yV (0,0)::R) e gq c.room c.size c.wait [] (.slice af fs.length cf) fs (bb .zero) (fun x hx=>dP.dY (.succ .zero) x (HA x hx)) (fun x hx=>by
   have:=(hg x.2 (by rw [← fy];exact aE.2 ⟨x,HA x hx,rfl⟩)).2
   omega) (by rw [List.length_nil];omega)
  refine aZ rfl rfl (VN.cL zE) ?_;rintro _ _ ⟨rfl,l',qh,ry,rfl⟩;rw [aK]
  have hq:l'.map (fun m=>(m.b,m.jD))=(io ls.cF recs).map fun b=>(b,rB):=by
   rw [← BC,← qh,List.map_map];exact List.map_congr_left fun m hm=>by show (m.b,m.jD)=(m.b,rB);rw [ry m hm];rfl
  have j0:yW.ok ⟨gj,gq,ux,cr,ts,l'⟩ (cH ts) c ⟨recs,(io ls.cF recs).map fun b=>(b,rB)⟩ :=
   ⟨fy,eF,hq,⟨hl,hg,by rw [ab];unfold io;exact Nat.le_trans (List.length_filter_le _ _) hl,fun x hx=>by
    obtain ⟨b,hb,rfl⟩:=aE.1 hx
    exact (hg b (List.mem_filter.1 hb |>.1)).2,fun x hx=>by
    obtain ⟨b,hb,rfl⟩:=aE.1 hx
    show -9223372036854775808≤rB∧rB≤1000000
    unfold rB
    omega⟩,hc⟩
  refine wB ?_;refine aY (eg g0 d gl c ⟨recs,(io ls.cF recs).map fun b=>(b,rB)⟩::cV gl ld lk seed ls::R) rfl (cj ?_ (qz j0)) ⟨g0,rfl,rfl⟩;dsimp only [DC];rw [← oF];exact zE
 have pc:i<recs.length:=by omega
 have ju:(ts[i]'cO).2=recs[i]'pc:=by
  have:=congrArg (fun l=>l[i]?) fy;simp only [aL,ae cO,ae pc,Option.map_some,Option.some.injEq] at this
  exact this
 have ft:recs.take (i+1)=recs.take i++[recs[i]'pc]:=aD pc;obtain ⟨EK,CC⟩:=hg _ (az pc);have rv:ts[i]'cO∈ts:=az cO;rw [← ju] at ft EK CC
 refine W.cB ((bb (show cQ _ (cU (.slice ux ts.length cr) ts) _ from zP)).shape zo) ?_;rintro ⟨⟨lL,c',lV,wG,IU,Ap,uW⟩,_⟩
 cases lV
 simp only [maxLen] at IU
 rcases uW with uW|⟨gr,or',rfl⟩
 ·omega
 have jx:∀ L R',cQ L (cU (.slice (some ⟨gr,or',none⟩) ts.length cr) ts) R'→Rd L ⟨gr,or'+i,none⟩ (ts[i]'cO).1:=fun L R' p=>(bb p).elem (by rw [aL,ae cO];rfl)
 have si:∀ L R',cQ L (cH ts) R'→db L (ts[i]'cO).1 (ts[i]'cO).2:=fun L R' p=>dP.dY p _ (az cO)
 generalize ts[i]'cO=y at *
 obtain ⟨yv,b⟩:=y;dsimp only at jx si ju ft EK CC
 refine W.cB (cn (si _ _ zP)) fun oy=>?_
 refine wB ?_;refine bV rfl (jx _ _ zP) rfl ?_;refine wB ?_;refine aZ rfl rfl (kz _ e yv b (si _ _ zP) zo) ?_;rintro v1 _ ⟨hd,-⟩;obtain ⟨Md,vf,vn,rfl,QK,AU,rfl⟩:=hd EK;refine bn (cn (QK.cL (cG zP))) fun o6=>?_
 refine bn (cn (AU.cL (cG zP))) fun o7=>?_
 (repeat (refine wA ?_;intros))
 refine aZ rfl rfl (Ct.at zP (sC _ e gl ld lk seed ls yv b (si _ _ zP))) ?_;rintro _ _ ⟨rfl,rfl⟩
 by_cases gB:b∈ls.cF
 ·have hw:io ls.cF (recs.take (i+1))=io ls.cF (recs.take i):=by rw [ft,yY,aI gB]
  rw [aI gB,ay gB];refine wB ?_;exact bi (i+1,fs,af,cf) ⟨cO,by dsimp only;rw [hw];exact BC,HA⟩ zd zS zE
 ·have hw:io ls.cF (recs.take (i+1))=io ls.cF (recs.take i)++[b]:=by rw [ft,yY,aB gB]
  rw [aB gB,aq gB]
  (repeat (refine wA ?_;intros))
  refine bC (bo rfl rfl rfl zP (bB .zero rfl zl) rfl rfl (fun c hc=>by rw [an.1 hc];exact oy) zm zo fun ef k1 _=>?_)
  refine wB ?_;refine bi (i+1,fs++[(yv,b)],ef,k1) ⟨cO,by dsimp only;rw [hw,ah,BC];rfl,fun x hx=>?_⟩ zd ?_ ?_
  ·rcases aJ.1 hx with hx|hx
   ·exact HA x hx
   ·rw [an.1 hx];exact rv
  ·dsimp only;rw [aa,aj];exact zS
  ·simp only [cU,aa,aj,ah,List.map_cons,List.map_nil];exact zE
theorem ep {L R R':List cJ} {A B:cJ} (p:cQ L A R) (q:cQ R B R'):cz L (dH [A,B]::R'):=cj p.out (cj (bh q.out) (dQ (M:=[A,B])))
theorem rb {L R R' R2:List cJ} {A B C:cJ} (p:cQ L A R) (q:cQ R B R') (r:cQ R' C R2):cz L (dH [A,B,C]::R2):=cj p.out (cj (bh (cj q.out (bh r.out))) (dQ (M:=[A,B,C])))
def pe.fC (c:m4) (cF:List dv) (s:pe) (b:dv) (now:Int):Int × Int × pe :=
 if ¬ ji b then (4,0,s) else if b∈cF then (2,(lP cF b:Int),s) else if b∈s.q.map (·.1) then (1,CI s.recs b,s) else if c.room≤s.q.length then (3,0,s) else (1,(s.recs.length:Int),⟨s.recs++[b],s.q++[(b,now)]⟩)
theorem MW {l:List jI} {q:List (dv × Int)} (h:l.map (fun m=>(m.b,m.jD))=q) (b:dv):hasB l b=decide (b∈q.map (·.1)):=by
 rw [← h,List.map_map];unfold hasB;rw [Bool.eq_iff_iff,List.any_eq_true,decide_eq_true_iff,aE]
 constructor
 ·rintro ⟨x,hx,h⟩;exact ⟨x,hx,of_decide_eq_true h⟩
 ·rintro ⟨x,hx,h⟩;exact ⟨x,hx,ay h⟩
theorem uy (g d gl ld lk:Nat) (seed:dv) (ls:fV) (c:m4) (s:pe) (v:Value) (b:dv) (now:Int) (hv:db R v b) (hb:b.length≤200) (hn:0≤now∧now≤1000000) (h1:s.recs.length<1000) (h2:s.q.length<1000) :
 Ct prog 166 #[pt g,v,.int .i64 now] e (eg g d gl c s::cV gl ld lk seed ls::R) (fun v' L'=>v'=.agg #[.int .i64 (s.fC c ls.cF b now).1,.int .i64 (s.fC c ls.cF b now).2.1]∧L'=eg g d gl c (s.fC c ls.cF b now).2.2::cV gl ld lk seed ls::R):=by
 refine yX fun a M ha=>?_
 obtain ⟨l1,l2⟩:=ha.len;refine bH (args:=[_,_,_]) func166 rfl ntmps166 results166 rfl ?_
 (repeat (refine wA ?_;intros))
 rename_i g6;refine aZ rfl rfl (kz _ e v b (hv.cL zE) zo) ?_;rintro v1 _ ⟨hd,Kf⟩
 by_cases hm:ji b
 rotate_left
 ·obtain ⟨rfl,rfl⟩:=Kf hm;have l5:s.fC c ls.cF b now=(4,0,s):=by unfold pe.fC;rw [aI hm]
  rw [l5]
  (repeat (refine wA ?_;intros))
  refine aZ rfl rfl (Ct.at zP (sC _ e gl ld lk seed ls v b (hv.cL zE))) ?_;rintro _ _ ⟨rfl,rfl⟩;refine wB ?_;apply br
  ·exact zV
  exact ⟨eg g d gl c s::cV gl ld lk seed ls::R,cj (show cz _ (DC g d gl c s a M (cV gl ld lk seed ls::R)) from zE) (qz ha),rfl,rfl⟩
 obtain ⟨Md,vf,vn,rfl,QK,AU,rfl⟩:=hd hm;refine bn (cn (QK.cL (cG zP))) fun o6=>?_
 refine bn (cn (AU.cL (cG zP))) fun o7=>?_
 (repeat (refine wA ?_;intros))
 refine aZ rfl rfl (Ct.at zP (sC _ e gl ld lk seed ls v b (hv.cL zE))) ?_;rintro _ _ ⟨rfl,rfl⟩
 by_cases gB:b∈ls.cF
 ·have l5:s.fC c ls.cF b now=(2,(lP ls.cF b:Int),s):=by unfold pe.fC;rw [aB (fun q=>q hm),aI gB]
  rw [l5,aI gB,ay gB];refine wB ?_;apply br
  ·exact zV
  exact ⟨eg g d gl c s::cV gl ld lk seed ls::R,cj (show cz _ (DC g d gl c s a M (cV gl ld lk seed ls::R)) from zE) (qz ha),rfl,rfl⟩
 rw [aB gB,aq gB];refine wB ?_;refine aZ rfl rfl (Ct.at zP (KA _ e a.gq c.room c.size c.wait a.l v b (hv.cL zE) (by have:=ha.st.BE;omega))) ?_;rintro _ _ ⟨rfl,rfl⟩;rw [MW ha.QT]
 by_cases hq:b∈s.q.map (·.1)
 ·have l5:s.fC c ls.cF b now=(1,CI s.recs b,s):=by unfold pe.fC;rw [aB (fun q=>q hm),aB gB,aI hq]
  rw [l5,ay hq];refine wB ?_;refine aZ rfl rfl (Ct.cL (Aq (cK g6 [.int .i64 0,.int .i64 0] 254 (0,0)::cV gl ld lk seed ls::R) e g d gl c s v b (hv.cL zE)) (cj (show cz _ (DC g d gl c s a M (cK g6 [.int .i64 0,.int .i64 0] 254 (0,0)::cV gl ld lk seed ls::R)) from zE) (qz ha))) ?_;rintro _ _ ⟨rfl,rfl⟩;refine wB ?_;apply br
  ·exact zV
  exact ⟨eg g d gl c s::cV gl ld lk seed ls::R,zE,rfl,rfl⟩
 rw [aq hq];have xh:=kD (l:=s.recs) (n:=200) (fun m hm=>(ha.st.n9 m hm).2);have Ms:s.recs.length≤(eV s.recs).length:=CF _;have wY:(eV s.recs).length+b.length+8≤1048576:=by omega
 obtain ⟨p1,p2,p3⟩:=add_plain (m:=b) (sy:=(eV s.recs).length) wY;refine wB ?_;refine bk (id:=9) [] (cK g [pt a.gj,pt gl,pt a.gq,.int .i64 (c.room:Int),.slice a.ar a.ts.length a.cr] yV (0,0)::R) mixed ?_
 (refine tM 0 ?_;refine tN 1 ?_;refine tF 2 ?_;refine tL 3 ?_;refine tM 5 ?_;refine tN 6 ?_;refine tF 7 ?_;refine tL 8 ?_)
 refine tO 4 ?_;refine bg rfl rfl (Ct.at zP (Kx _ e a.gq c.room c.size c.wait a.l)) ?_;rintro _ _ ⟨rfl,rfl⟩;refine ⟨fun _=>zE,?_⟩
 by_cases wb:c.room≤s.q.length
 ·have l5:s.fC c ls.cF b now=(3,0,s):=by unfold pe.fC;rw [aB (fun q=>q hm),aB gB,aB hq,aI wb]
  rw [l5]
  (refine tk 9 (.bool true) rfl (cD.iP (bR rfl rfl) zy) ?_;refine tM 10 ?_;refine bc 11 rfl rfl zK zE rfl ?_;refine bc 12 rfl rfl zK zE rfl ?_;refine bc 13 rfl rfl zK zE rfl ?_;refine bc 14 rfl rfl zK zE rfl ?_;refine bc 15 rfl rfl zK zE rfl ?_)
  refine bc 16 rfl rfl zK zE rfl ?_
  (refine bc 17 rfl rfl zK zE rfl ?_;refine tk 18 _ rfl (bK rfl rfl) ?_;refine tA 19 ?_)
  refine bf zK ?_;refine wB ?_;apply br
  ·exact zV
  exact ⟨eg g d gl c s::cV gl ld lk seed ls::R,cj (show cz _ (DC g d gl c s a M (cV gl ld lk seed ls::R)) from zE) (qz ha),rfl,rfl⟩
 have l5:s.fC c ls.cF b now=(1,(s.recs.length:Int),⟨s.recs++[b],s.q++[(b,now)]⟩):=by unfold pe.fC;rw [aB (fun q=>q hm),aB gB,aB hq,aB wb]
 rw [l5]
 (refine tk 9 (.bool false) rfl (cD.no (bR rfl rfl) zn) ?_;refine tM 10 ?_;refine dt 11 _ rfl (bu rfl) ?_;refine dt 12 _ rfl (bm rfl) ?_;refine dt 13 _ rfl (ba rfl) ?_;refine dt 14 _ rfl (bp rfl zR) ?_;refine dt 15 _ rfl (bu rfl) ?_)
 refine A.ru 16 rfl rfl zK ?_;have MS:=fun L:List cJ=>fun Sg:db L v b=>nV L e a.gj d s.recs.length (nh (eV s.recs) (eV s.recs).length) b v (uj zo (aS _)) Sg zo zo
 rw [p1,p2,p3] at MS
 refine bg rfl rfl (Ct.AO zP zP (MS _ (hv.cL zE))) ?_;rintro _ _ ⟨rfl,rfl⟩;refine ⟨fun _=>zE,?_⟩
 (refine dt 17 (.bool false) rfl (cD.no (cD.neq rfl rfl) zn) ?_;refine tk 18 _ rfl (bI rfl rfl) ?_;refine tA 19 ?_)
 refine bf zK ?_;refine wB ?_;refine W.gC [(0,pt g),(1,v),(2,.int .i64 now),(6,pt g6)] zS ?_;refine bk (id:=11) [9,10,11] (cK g [pt a.gj,pt gl,pt a.gq,.int .i64 (c.room:Int),.slice a.ar a.ts.length a.cr] yV (0,0)::R) mixed ?_
 (refine tM 0 ?_;refine tM 1 ?_;refine tN 2 ?_;refine tF 3 ?_;refine tL 4 ?_;refine tM 5 ?_)
 refine tO 6 ?_;refine bg rfl rfl (dw _ e v b (hv.cL zE) zo) ?_;rintro _ _ ⟨ef,k1,rfl,rfl⟩;refine ⟨fun _=>zE,?_⟩;refine tO 7 ?_;refine bE (n:=1) (z:=nY) (cs:=[.slice ef b.length k1]) rfl rfl rfl rfl zQ rfl (fun g1=>⟨fun _=>zE,?_⟩);refine tO 8 ?_;refine bo rfl rfl rfl zP (bB .zero rfl zl) rfl rfl zO zm zo fun dW k2 _=>?_
 refine ⟨fun _=>zE,?_⟩
 ((refine tO 9 ?_;refine dV (bm rfl) ?_);(refine tO 10 ?_;refine dV (ba rfl) ?_);(refine tO 11 ?_;refine tg ?_;refine ⟨zN,?_⟩))
 refine bf zK ?_;refine wB ?_;refine aZ rfl rfl (Ct.at zP (Ky _ e a.gq c.room c.size c.wait a.l v b now (hv.cL zE) zo zo (by have:=ha.xC.room;omega))) ?_;rintro _ _ (⟨-,rfl,v2,rfl⟩|⟨lU,-,-⟩)
 rotate_left
 ·exact absurd zo lU
 refine wB ?_;obtain ⟨M2,CG⟩:∃ M2:cJ,M2=dH [M,cR (.slice ef b.length k1) b]:=⟨_,rfl⟩
 have eT:cz [M2] [M]:=by rw [CG];exact cj (cT (M:=[_,_]) (L:=[])) (bh bF)
 have iH:cz [M2] [cR (.slice ef b.length k1) b]:=by rw [CG];exact cj (cT (M:=[_,_]) (L:=[])) (cz.drop (bh bF))
 have j0:yW.ok ⟨a.gj,a.gq,dW,k2,a.ts++[(.slice ef b.length k1,b)],a.l++[⟨v2,b,now⟩]⟩ M2 c ⟨s.recs++[b],s.q++[(b,now)]⟩:=by
  refine ⟨?_,fun x hx=>?_,?_,⟨?_,fun x hx=>?_,?_,fun x hx=>?_,fun x hx=>?_⟩,ha.xC⟩
  ·show (a.ts++[((.slice ef b.length k1:Value),b)]).map (·.2)=_
   rw [ah,ha.recs];rfl
  ·rcases aJ.1 hx with hx|hx
   ·exact (ha.yN x hx).cL eT
   ·rw [an.1 hx];exact cE.cL (bb .zero) iH
  ·show (a.l++[(⟨v2,b,now⟩:jI)]).map (fun m=>(m.b,m.jD))=_
   rw [ah,ha.QT];rfl
  ·rw [aa];show _+1≤_;omega
  ·rcases aJ.1 hx with hx|hx
   ·exact ha.st.n9 x hx
   ·rw [an.1 hx];exact ⟨hm,hb⟩
  ·rw [aa];show _+1≤_;omega
  ·rcases aJ.1 hx with hx|hx
   ·exact ha.st.pf x hx
   ·rw [an.1 hx];exact hb
  ·rcases aJ.1 hx with hx|hx
   ·exact ha.st.wP x hx
   ·rw [an.1 hx]
    show -9223372036854775808≤now∧now≤1000000
    omega
 apply br
 ·exact zV
 refine ⟨eg g d gl c ⟨s.recs++[b],s.q++[(b,now)]⟩::cV gl ld lk seed ls::R,cj ?_ (qz j0),by rw [l1];rfl,rfl⟩;have aaJ:eV (s.recs++[b])=eV s.recs++fB b:=nX _ _;simp only [DC,cU,aa,aj,ah,List.map_cons,List.map_nil,aaJ];rw [CG];exact cj (ep (A:=M) (B:=cR (.slice ef b.length k1) b) zP zP) zE
def MX (q:List (dv × Int)) (s w:Nat) (now:Int):Bool:=match q with
 | []=>false
 | x::_=>decide (s≤q.length∨x.2 = -9223372036854775808∨(x.2≤now∧(w:Int)≤now - x.2))
theorem VO {l:List jI} {q:List (dv × Int)} (h:l.map (fun m=>(m.b,m.jD))=q) (s w:Nat) (now:Int):due l s w now=MX q s w now:=by
 cases l with
 | nil=>rw [← h];rfl
 | cons m l=>rw [← h];simp [due,MX]
def pe.pg (c:m4) (s:pe) (now:Int):Bool:=MX s.q c.size c.wait now
def pe.yZ (c:m4) (s:pe):pe:={ s with q:=s.q.drop c.size }
def pe.some (c:m4) (s:pe):List dv:=(s.q.take c.size).map (·.1)
theorem HB (g d gl ld lk:Nat) (seed:dv) (ls:fV) (c:m4) (s:pe) (now:Int) (hn:0≤now∧now≤1000000) (hc:ls.cF.length+(ls.fresh (s.some c)).length≤256) :
 Ct prog 169 #[pt g,.int .i64 now] e (eg g d gl c s::cV gl ld lk seed ls::R) (fun v' L'=>(s.pg c now=false∧v'=.tuple #[nY,.int .i64 0]∧L'=eg g d gl c s::cV gl ld lk seed ls::R)∨(s.pg c now=true∧∃ (ao:Option Addr) (co:Nat),v'=.tuple #[.slice ao (s.some c).length co,.int .i64 0]∧L'=eg g d gl c (s.yZ c)::cV gl ld lk seed (ls.add (s.some c))::R)):=by
 refine yX fun a M ha=>?_
 obtain ⟨l1,l2⟩:=ha.len;have hqs:=ha.st.BE;have B6:=ha.xC.size;refine a8 (args:=[_,_]) func169 rfl ntmps169 results169 rfl ?_;refine wB ?_
 have J2:∀ m∈a.l,-9223372036854775808≤m.jD∧m.jD≤9223372036854775807:=fun m hm=>by
  have:=ha.st.wP (m.b,m.jD) (by rw [← ha.QT];exact aE.2 ⟨m,hm,rfl⟩);dsimp only at this
  omega
 have oP:∀ m∈a.l,m.b.length≤200:=fun m hm=>ha.st.pf (m.b,m.jD) (by rw [← ha.QT];exact aE.2 ⟨m,hm,rfl⟩)
 refine aZ rfl rfl (Ct.at zP (Kz _ e a.gq c.room c.size c.wait a.l now (by have:=ha.xC.wait;omega) zo zo zo J2)) ?_;rintro _ _ ⟨rfl,rfl⟩;have EX:due a.l c.size c.wait now=s.pg c now:=VO ha.QT _ _ _;rw [EX]
 cases hd:s.pg c now with
 | false =>
  refine wB ?_;exact aY (eg g d gl c s::cV gl ld lk seed ls::R) rfl (cj (show cz _ (DC g d gl c s a M (cV gl ld lk seed ls::R)) from zE) (qz ha)) (.inl ⟨rfl,rfl,rfl⟩)
 | true =>
  refine wB ?_;refine aZ rfl rfl (Ct.at zP (Hv _ e a.gq c.room c.size c.wait a.l (fun m hm=>by have:=oP m hm;omega) zo zo)) ?_;rintro _ _ ⟨ad,k,ts,rfl,fy,rfl⟩;refine wB ?_
  have An:ts.map (·.2)=s.some c:=by
   rw [fy];unfold pe.some;rw [← ha.QT,← List.map_take,List.map_map]
   rfl
  have oF:ts.length=(s.some c).length:=by rw [← An,ab]
  have aeY:ts.length≤8:=by have:=congrArg List.length fy;rw [ab,ab,aF] at this;omega
  have Ir:∀ x∈ts,x.2.length≤200:=fun x hx=>by
   have:x.2∈(a.l.take c.size).map jI.b:=by rw [← fy];exact aE.2 ⟨x,hx,rfl⟩
   obtain ⟨m,hm,hmb⟩:=aE.1 this;rw [← hmb];exact oP m (aR hm)
  have qi:=fun L:List cJ=>fun (h1:cE L 1 (.slice ad ts.length k) ts.length (ts.map (·.1))) (h2:dP L ts)=>Kr L e gl ld lk seed ls (.slice ad ts.length k) ts h1 h2 zo Ir (by rw [An];exact hc)
  rw [An] at qi
  refine aZ rfl rfl (Ct.at zP (qi _ (bb zP) (dP.dY zP))) ?_;rintro _ _ ⟨ao,co,outs,rfl,lr,rfl⟩;have Em:outs.length=(s.some c).length:=by rw [lr,ab]
  rw [Em];refine wB ?_
  have j0:yW.ok { a with l:=a.l.drop c.size } M c (s.yZ c):=by
   refine ⟨ha.recs,ha.yN,?_,⟨ha.st.size,ha.st.n9,?_,fun x hx=>ha.st.pf x (aV hx),fun x hx=>ha.st.wP x (aV hx)⟩,ha.xC⟩
   ·show (a.l.drop c.size).map (fun m=>(m.b,m.jD))=s.q.drop c.size
    rw [List.map_drop,ha.QT]
   ·show (s.q.drop c.size).length≤1000
    rw [aO];omega
  exact aY (eg g d gl c (s.yZ c)::cV gl ld lk seed (ls.add (s.some c))::R) rfl (cj (show cz _ (DC g d gl c (s.yZ c) { a with l:=a.l.drop c.size } M (cV gl ld lk seed (ls.add (s.some c))::R)) from zE) (qz j0)) (.inr ⟨rfl,ao,co,rfl,rfl⟩)
theorem Ar (g d gl:Nat) (c:m4) (s:pe) (n:Nat) (hn:n<s.recs.length) :
 Ct prog 255 #[pt g,.int .i64 (n:Int)] e (eg g d gl c s::R) (fun v' L'=>∃ ad k,v'=.tuple #[.slice ad (s.recs.getD n []).length k,.bool true]∧L'=cR (.slice ad (s.recs.getD n []).length k) (s.recs.getD n [])::eg g d gl c s::R):=by
 refine yX fun a M ha=>?_
 obtain ⟨l1,l2⟩:=ha.len;have lm:=ha.st.size;obtain ⟨gj,gq,ar,cr,ts,l⟩:=a;dsimp only at l1 l2
 have LB:n<ts.length:=by omega
 refine a7 ((bb (show cQ _ (cU (.slice ar ts.length cr) ts) _ from zP)).shape zo) ?_;rintro ⟨⟨lL,c',hv,h3,h4,h5,h6⟩,_⟩
 cases hv
 rcases h6 with h6|⟨gr,orr,rfl⟩
 ·omega
 have jx:∀ L R',cQ L (cU (.slice (some ⟨gr,orr,none⟩) ts.length cr) ts) R'→Rd L ⟨gr,orr+n,none⟩ (ts[n]'LB).1:=fun L R' p=>(bb p).elem (by rw [aL,ae LB];rfl)
 have ju:=ha.yN _ (az LB);have th:s.recs.getD n []=(ts[n]'LB).2:=by rw [← ha.recs];exact fa LB
 have Ir:=(ha.st.n9 _ (show (ts[n]'LB).2∈s.recs by rw [← ha.recs];exact aE.2 ⟨_,az LB,rfl⟩)).2;rw [th]
 generalize ts[n]'LB=y at *
 obtain ⟨yv,b⟩:=y;dsimp only at jx ju Ir ⊢
 refine a8 (args:=[_,_]) func255 rfl ntmps255 results255 rfl ?_;dsimp only [DC];refine wB ?_;refine bV rfl (jx _ _ zP) rfl ?_;refine aZ rfl rfl (dw _ e yv b (ju.cL (cG zP)) zo) ?_;rintro _ _ ⟨ad,k,rfl,rfl⟩;refine wB ?_;exact aY (cR (.slice ad b.length k) b::eg g d gl c s::R) rfl (bh (qz ha)) ⟨ad,k,rfl,rfl⟩
theorem EY:∀ (q:Nat) (R:List cJ) (e:World) (ad:Option Addr) (cap:Nat) (ts:List ej) (m n:Nat) (w:Bool) (v:Value) (old:List UInt8),ts.length=q→cE R 1 (.slice ad ts.length cap) ts.length (ts.map (·.1))→dP R ts→(∀ a∈ts,a.2.length≤1000000)→ts.length≤1000000→n<9223372036854775808→1≤m→m≤n→db R v old→old.length≤1000000 →
 Ct prog 295 #[.slice ad ts.length cap,.int .i64 (m:Int),.int .i64 (n:Int),v,.bool w] e R (fun v' L'=>∃ (As:List cJ) (v1 v2:Value) (a b:List UInt8),v'=.tuple #[v1,v2,.bool (decide (ts.length=im m n w))]∧(ts.length=im m n w→(a,b)=iB m n w (ts.map (·.2)) old)∧a.length≤1000000∧b.length≤1000000∧L'=As++R∧db (As++R) v1 a∧db (As++R) v2 b):=by
 intro q
 induction q using Nat.strongRecOn with
 | _ q ih =>
 intro R e ad cap ts m n w v old hq hv ht lm hl hn T7 Cc hb oP;refine a8 (args:=[_,_,_,_,_]) func295 rfl ntmps295 results295 rfl ?_
 by_cases he:m=n
 ·subst he
  cases w
  ·refine wB ?_;refine aZ rfl rfl (vB _ e ad cap ts hv hl) ?_;rintro _ _ ⟨⟨rfl,rfl⟩|⟨us,a,rfl,rfl⟩,rfl⟩
   ·refine wB ?_;exact aY R rfl aX ⟨[],nY,nY,[],[],by rw [k7,aq (by simp)];rfl,fun h=>(by rw [k7] at h;simp at h),by simp,by simp,rfl,db.nil _,db.nil _⟩
   have ha:db R a.1 a.2:=ht a (aJ.2 (.inr (an.2 rfl)));have rL:=lm a (aJ.2 (.inr (an.2 rfl)))
   by_cases h0:us.length=0
   ·refine wB ?_;exact aY R rfl aX ⟨[],a.1,a.1,a.2,a.2,by rw [k7,ay (by rw [aa,aj,h0])];rfl,fun h=>(by rw [qw,mz]),rL,rL,rfl,ha,ha⟩
   ·refine wB ?_;exact aY R rfl aX ⟨[],a.1,a.1,a.2,a.2,by rw [k7,aq (by rw [aa,aj];omega)];rfl,fun h=>(by rw [qw,mz]),rL,rL,rfl,ha,ha⟩
  ·by_cases h0:ts.length=0
   ·refine wB ?_;exact aY R rfl aX ⟨[],v,v,old,old,by rw [qZ,ay h0];rfl,fun h=>(by rw [sA]),oP,oP,rfl,hb,hb⟩
   ·refine wB ?_;exact aY R rfl aX ⟨[],v,v,old,old,by rw [qZ,aq h0];rfl,fun h=>(by rw [sA]),oP,oP,rfl,hb,hb⟩
 have h2:2≤n:=by omega
 have hs:=dz h2;have vy:=fun h=>yL (w:=w) he h2 h
 have JZ:=fun h=>yM (w:=w) he h2 h
 have RL:=fun p h=>Bv (w:=w) (p:=p) (old:=old) he h2 h
 have RM:=fun p h=>Bw (w:=w) (p:=p) (old:=old) he h2 h
 have Af:0<im m n w:=by
  by_cases h:m≤cN n
  ·rw [vy h];omega
  ·rw [JZ h];omega
 refine wB ?_;refine aZ rfl rfl (vB _ e ad cap ts hv hl) ?_;rintro _ _ ⟨⟨rfl,rfl⟩|⟨us,a,rfl,rfl⟩,rfl⟩
 ·refine wB ?_;exact aY R rfl aX ⟨[],nY,nY,[],[],by rw [aq (by simp;omega)];rfl,fun h=>(by simp at h;omega),by simp,by simp,rfl,db.nil _,db.nil _⟩
 have qh:(us++[a]).length=us.length+1:=by rw [aa,aj]
 have jx:=IF hv;have Vt:dP R us:=fun x hx=>ht x (aJ.2 (.inl hx))
 have ha:db R a.1 a.2:=ht a (aJ.2 (.inr (an.2 rfl)));have rL:=lm a (aJ.2 (.inr (an.2 rfl)));have Vu:∀ x∈us,x.2.length≤1000000:=fun x hx=>lm x (aJ.2 (.inl hx))
 refine wB ?_;refine aZ rfl rfl (mI R e n zo) ?_;rintro _ _ ⟨rfl,rfl⟩;rw [kX]
 generalize cN n=k at *
 have Sh:∀ {v:Value} {b:List UInt8} (h:db R v b) (As:List cJ),db (As++R) v b:=fun h As=>by
  induction As with
  | nil=>exact h
  | cons A As ih=>exact ih.tail
 by_cases wv:m≤k
 ·refine wB ?_;refine aZ rfl rfl (ih us.length zo R e ad cap us m k w v old rfl jx Vt Vu zo zo T7 wv hb oP) ?_;rintro _ _ ⟨As,v1,v2,x,y,rfl,h7,h8,h9,rfl,Oh,VP⟩;refine wB ?_;refine aZ rfl rfl (my _ e _ _ _ _ VP (Sh ha As) h9 rL) ?_;rintro _ _ ⟨eI,c3,rfl,rfl⟩;refine wB ?_;refine aY (cR (.slice eI (eG y a.2).length c3) (eG y a.2)::(As++R)) rfl aX ⟨cR (.slice eI (eG y a.2).length c3) (eG y a.2)::As,v1,.slice eI (eG y a.2).length c3,x,eG y a.2,?_,fun h=>?_,h8,by rw [eG,df];omega,rfl,Oh.tail,bb .zero⟩
  ·rw [qh,vy wv,decide_eq_decide.2 (show us.length=im m k w↔us.length+1=im m k w+1 by omega)];rfl
  ·rw [qh,vy wv] at h
   rw [RL _ wv,ma,mz,← h7 zo]
 ·refine wB ?_;rw [show ((m:Nat):Int) - ((k:Nat):Int)=((m - k:Nat):Int) by omega,show ((n:Nat):Int) - ((k:Nat):Int)=((n - k:Nat):Int) by omega];refine aZ rfl rfl (ih us.length zo R e ad cap us (m - k) (n - k) false v old rfl jx Vt Vu zo zo zo zo hb oP) ?_;rintro _ _ ⟨As,v1,v2,x,y,rfl,h7,h8,h9,rfl,Oh,VP⟩;refine wB ?_;refine aZ rfl rfl (my _ e _ _ _ _ (Sh ha As) Oh rL h8) ?_;rintro _ _ ⟨eI,c3,rfl,rfl⟩
  (repeat (refine wA ?_;intros))
  refine aZ rfl rfl (my _ e _ _ _ _ (Sh ha As).tail VP.tail rL h9) ?_;rintro _ _ ⟨jB,c4,rfl,rfl⟩;refine wB ?_;refine aY (cR (.slice jB (eG a.2 y).length c4) (eG a.2 y)::cR (.slice eI (eG a.2 x).length c3) (eG a.2 x)::(As++R)) rfl aX ⟨cR (.slice jB (eG a.2 y).length c4) (eG a.2 y)::cR (.slice eI (eG a.2 x).length c3) (eG a.2 x)::As,.slice eI (eG a.2 x).length c3,.slice jB (eG a.2 y).length c4,eG a.2 x,eG a.2 y,?_,fun h=>?_,by rw [eG,df];omega,by rw [eG,df];omega,rfl,bb (.succ .zero),bb .zero⟩
  ·rw [qh,JZ wv,decide_eq_decide.2 (show us.length=im (m - k) (n - k) false↔us.length+1=im (m - k) (n - k) false+1 by omega)];rfl
  ·rw [qh,JZ wv] at h
   rw [RM _ wv,ma,mz,← h7 zo]
def y5 (n m:Int) (ts:List ej) (old:List UInt8):Prop:=jG ts=true∧0<n∧n<m∧old.length=32∧ts.length=im n.toNat m.toNat true
instance (n m:Int) (ts:List ej) (old:List UInt8):Decidable (y5 n m ts old):=by unfold y5;infer_instance
abbrev mU (n m:Int) (ts:List ej) (old:List UInt8):List UInt8 × List UInt8:=iB n.toNat m.toNat true (ts.map (·.2)) old
theorem EZ (n m:Int) (vp vb:Value) (ts:List ej) (b:List UInt8) (h1:-9223372036854775808≤n∧n≤9223372036854775807) (h2:-9223372036854775808≤m∧m≤9223372036854775807) (hv:cE R 1 vp ts.length (ts.map (·.1))) (ht:dP R ts) (hb:db R vb b) :
 Ct prog 262 #[.agg #[.int .i64 n,.int .i64 m,vp],vb] e R (fun v' L' =>
  (y5 n m ts b∧∃ ad c lL c',v'=.tuple #[.slice ad (mU n m ts b).1.length c,.slice lL (mU n m ts b).2.length c',.bool true]∧L'=cR (.slice lL (mU n m ts b).2.length c') (mU n m ts b).2::cR (.slice ad (mU n m ts b).1.length c) (mU n m ts b).1::R) ∨
  (¬ y5 n m ts b∧v'=.tuple #[nY,nY,.bool false]∧R=L')):=by
 refine a7 (hv.shape zo) ?_;rintro ⟨⟨ad,cap,rfl,h3,h4,h5,h6⟩,_⟩;refine a8 (args:=[_,_]) func262 rfl ntmps262 results262 rfl ?_
 (repeat (refine wA ?_;intros))
 rename_i g;refine aZ rfl rfl (nd _ e _ ts hv.tail ht.tail) ?_;rintro _ _ ⟨rfl,rfl⟩
 by_cases hr:jG ts=true
 rotate_left
 ·rw [show jG ts=false by simpa using hr];refine wB ?_;exact aY R rfl zE (.inr ⟨fun h=>hr h.1,rfl,rfl⟩)
 rw [hr];obtain ⟨r1,r2⟩:=sr.1 hr
 by_cases h0:0<n
 rotate_left
 ·refine wB ?_;exact aY R rfl zE (.inr ⟨fun h=>h0 h.2.1,rfl,rfl⟩)
 by_cases cO:n<m
 rotate_left
 ·refine wB ?_;exact aY R rfl zE (.inr ⟨fun h=>cO h.2.2.1,rfl,rfl⟩)
 refine wB ?_;refine aZ rfl rfl (tX _ e _ b hb.tail) ?_;rintro _ _ ⟨rfl,rfl⟩
 by_cases jN:b.length=32
 rotate_left
 ·rw [aq jN];refine wB ?_;exact aY R rfl zE (.inr ⟨fun h=>jN h.2.2.2.1,rfl,rfl⟩)
 rw [ay jN];obtain ⟨i,rfl⟩:=Int.eq_ofNat_of_zero_le (show 0≤n by omega);obtain ⟨j,rfl⟩:=Int.eq_ofNat_of_zero_le (show 0≤m by omega);refine wB ?_;refine aZ rfl rfl (EY ts.length _ e ad cap ts i j true vb b rfl hv.tail ht.tail (fun a ha=>by have:=r2 a ha;omega) zo zo zo zo hb.tail zo) ?_;rintro _ _ ⟨As,v1,v2,x,y,rfl,h7,h8,h9,rfl,Oh,VP⟩
 have QU:∀ (As:List cJ) (M:List cJ),cz (As++M) M:=fun As M=>by
  induction As with
  | nil=>exact aX
  | cons A As ih=>exact cz.drop ih
 by_cases F7:ts.length=im i j true
 ·rw [ay F7];have T9:=h7 F7;have e1:mU (i:Int) (j:Int) ts b=(x,y):=T9.symm;rw [e1];dsimp only;refine wB ?_;refine aZ rfl rfl (dw _ e _ x Oh zo) ?_;rintro _ _ ⟨ef,c1,rfl,rfl⟩
  (repeat (refine wA ?_;intros))
  refine aZ rfl rfl (dw _ e _ y VP.tail zo) ?_;rintro _ _ ⟨dW,c2,rfl,rfl⟩;refine wB ?_;exact aY (cR (.slice dW y.length c2) y::cR (.slice ef x.length c1) x::R) rfl (bh (bh (cj (QU As _) (cz.drop aX)))) (.inl ⟨⟨hr,h0,cO,jN,F7⟩,ef,c1,dW,c2,rfl,rfl⟩)
 ·rw [aq F7];refine wB ?_;exact aY R rfl (cj (QU As _) (cz.drop aX)) (.inr ⟨fun h=>F7 h.2.2.2.2,rfl,rfl⟩)
def ph (n m:Int) (ts:List ej) (old now:List UInt8):Prop :=
 (n=m∧0≤n∧ts.length=0∧old.length=32∧old=now)∨(n=0∧n<m∧ts.length=0∧old=sk []∧now.length=32)∨(y5 n m ts old∧(mU n m ts old).1=old∧(mU n m ts old).2=now)
instance (n m:Int) (ts:List ej) (old now:List UInt8):Decidable (ph n m ts old now):=by unfold ph;infer_instance
theorem y6 (n m:Int) (vp vb vn:Value) (ts:List ej) (b now:List UInt8) (h1:-9223372036854775808≤n∧n≤9223372036854775807) (h2:-9223372036854775808≤m∧m≤9223372036854775807) (hv:cE R 1 vp ts.length (ts.map (·.1))) (ht:dP R ts) (hb:db R vb b) (hw:db R vn now) :
 Ct prog 196 #[.agg #[.int .i64 n,.int .i64 m,vp],vb,vn] e R (fun v' L'=>v'=.bool (decide (ph n m ts b now))∧R=L'):=by
 refine a7 (hv.shape zo) ?_;rintro ⟨⟨ad,cap,rfl,h3,h4,h5,h6⟩,_⟩;refine a8 (args:=[_,_,_]) func196 rfl ntmps196 results196 rfl ?_
 by_cases h0:0≤n
 rotate_left
 ·rw [aq (by rintro (h|h|h);(omega);(omega);(have:=h.1.2.1;omega))]
  (repeat (refine wA ?_;intros))
  exact aY R rfl zE ⟨rfl,rfl⟩
 by_cases J6:n≤m
 rotate_left
 ·rw [aq (by rintro (h|h|h);(omega);(omega);(have:=h.1.2.2.1;omega))]
  (repeat (refine wA ?_;intros))
  exact aY R rfl zE ⟨rfl,rfl⟩
 by_cases he:n=m
 ·by_cases u7:ts.length=0
  rotate_left
  ·rw [aq (by rintro (h|h|h);(omega);(omega);(have:=h.1.2.2.1;omega))]
   (repeat (refine wA ?_;intros))
   exact aY R rfl zE ⟨rfl,rfl⟩
  (repeat (refine wA ?_;intros))
  refine aZ rfl rfl (tX _ e _ b hb.tail) ?_;rintro _ _ ⟨rfl,rfl⟩
  by_cases jN:b.length=32
  rotate_left
  ·rw [aq jN,aq (by rintro (h|h|h);(omega);(omega);(have:=h.1.2.2.1;omega))];refine wB ?_;exact aY R rfl zE ⟨rfl,rfl⟩
  rw [ay jN];refine wB ?_;refine aZ rfl rfl (iM _ e _ _ b now hb.tail hw.tail) ?_;rintro _ _ ⟨rfl,rfl⟩
  by_cases hs:b=now
  ·rw [ay hs,ay (.inl ⟨he,h0,u7,jN,hs⟩)];refine wB ?_;exact aY R rfl zE ⟨rfl,rfl⟩
  ·rw [aq hs,aq (by rintro (h|h|h);(exact hs h.2.2.2.2);(omega);(have:=h.1.2.2.1;omega))];refine wB ?_;exact aY R rfl zE ⟨rfl,rfl⟩
 by_cases hz:n=0
 ·by_cases u7:ts.length=0
  rotate_left
  ·rw [aq (by rintro (h|h|h);(omega);(omega);(have:=h.1.2.1;omega))]
   (repeat (refine wA ?_;intros))
   exact aY R rfl zE ⟨rfl,rfl⟩
  (repeat (refine wA ?_;intros))
  refine aZ rfl rfl (tP _ e _ [] (db.nil _) (by simp)) ?_;rintro _ _ ⟨dW,c2,rfl,rfl⟩
  (repeat (refine wA ?_;intros))
  refine aZ rfl rfl (iM _ e _ _ b (sk []) hb.tail.tail (bb .zero)) ?_;rintro _ _ ⟨rfl,rfl⟩
  by_cases hs:b=sk []
  rotate_left
  ·rw [aq hs,aq (by rintro (h|h|h);(omega);(exact hs h.2.2.2.1);(have:=h.1.2.1;omega))];refine wB ?_;exact aY R rfl zE ⟨rfl,rfl⟩
  rw [ay hs];refine wB ?_;refine aZ rfl rfl (tX _ e _ now hw.tail.tail) ?_;rintro _ _ ⟨rfl,rfl⟩
  by_cases jN:now.length=32
  ·rw [ay jN,ay (.inr (.inl ⟨hz,by omega,u7,hs,jN⟩))];refine wB ?_;exact aY R rfl zE ⟨rfl,rfl⟩
  ·rw [aq jN,aq (by rintro (h|h|h);(omega);(exact jN h.2.2.2.2);(have:=h.1.2.1;omega))];refine wB ?_;exact aY R rfl zE ⟨rfl,rfl⟩
 (repeat (refine wA ?_;intros))
 refine aZ rfl rfl (EZ _ e n m _ vb ts b h1 h2 hv.tail ht.tail hb.tail) ?_;rintro _ _ (⟨j0,ef,c1,dW,c2,rfl,rfl⟩|⟨j0,rfl,rfl⟩)
 rotate_left
 ·rw [aq (by rintro (h|h|h);(omega);(omega);(exact j0 h.1))];refine wB ?_;exact aY R rfl zE ⟨rfl,rfl⟩
 refine wB ?_;refine aZ rfl rfl (iM _ e _ _ _ b (bb (.succ .zero)) hb.tail.tail.tail) ?_;rintro _ _ ⟨rfl,rfl⟩
 by_cases hs:(mU n m ts b).1=b
 rotate_left
 ·rw [aq hs,aq (by rintro (h|h|h);(omega);(omega);(exact hs h.2.1))];refine wB ?_;exact aY R rfl zE ⟨rfl,rfl⟩
 rw [ay hs];refine wB ?_;refine aZ rfl rfl (iM _ e _ _ _ now (bb .zero) hw.tail.tail.tail) ?_;rintro _ _ ⟨rfl,rfl⟩
 by_cases m1:(mU n m ts b).2=now
 ·rw [ay m1,ay (.inr (.inr ⟨j0,hs,m1⟩))];refine wB ?_;exact aY R rfl zE ⟨rfl,rfl⟩
 ·rw [aq m1,aq (by rintro (h|h|h);(omega);(omega);(exact m1 h.2.2))];refine wB ?_;exact aY R rfl zE ⟨rfl,rfl⟩
theorem KC (l:List (List UInt8)):iX l l.length=[]:=by rw [iX,aB zo]
theorem HC (l:List (List UInt8)):iX l 0=[]:=by rw [iX,aB zo]
theorem MY {ts out:List ej} {m:Nat} (ho:out.map (·.2)=iX (ts.map (·.2)) m) (hm:m≤ts.length) (hl:ts.length≤32768):out.length≤16:=by
 have h1:=congrArg List.length ho;rw [ab] at h1
 by_cases gB:0<m∧m<(ts.map (·.2)).length
 ·rw [iX,aI gB,lG _ m _ true rfl zo zo] at h1
  have:=n8 15 (ts.map (·.2)).length m true (by rw [ab];omega)
  omega
 ·rw [iX,aB gB,List.length_nil] at h1
  omega
theorem xD {ts out:List ej} {m:Nat} (ho:out.map (·.2)=iX (ts.map (·.2)) m) (hm:m≤ts.length) (jN:∀ a∈ts,a.2.length=32) (hl:ts.length≤32768) :
 ph (m:Int) (ts.length:Int) out (ea ((ts.take m).map (·.2))) (ea (ts.map (·.2))):=by
 have h3:∀ a∈ts.map (·.2),a.length=32:=fun a ha=>by
  obtain ⟨y,hy,rfl⟩:=aE.1 ha;exact jN y hy
 have Pb:=MY ho hm hl
 by_cases he:m=ts.length
 ·subst he;have e1:=KC (ts.map (·.2));rw [ab] at e1
  rw [e1] at ho
  have h0:out.length=0:=by have:=congrArg List.length ho;simpa using this
  rw [List.take_length];exact .inl ⟨rfl,by omega,h0,gH h3,rfl⟩
 by_cases hz:m=0
 ·subst hz;rw [HC] at ho
  have h0:out.length=0:=by have:=congrArg List.length ho;simpa using this
  exact .inr (.inl ⟨rfl,by omega,h0,by rw [List.take_zero];exact kY,gH h3⟩)
 have gB:0<m∧m<(ts.map (·.2)).length:=⟨by omega,by rw [ab];omega⟩
 rw [iX,aI gB] at ho
 have h1:out.length=im m ts.length true:=by
  have:=congrArg List.length ho
  rwa [ab,lG _ m _ true rfl zo zo,ab] at this
 have h4:∀ a∈out,a.2.length=32:=fun a ha=>by
  have:a.2∈out.map (·.2):=aE.2 ⟨a,ha,rfl⟩;rw [ho] at this
  exact By _ _ _ _ rfl h3 _ this
 have h5:=Ho (ts.map (·.2)).length m (ts.map (·.2)) true (ea ((ts.take m).map (·.2))) rfl zo zo (fun _=>by rw [List.map_take]);rw [ab,← ho] at h5
 have h6:((ts.take m).map (·.2))=(ts.map (·.2)).take m:=List.map_take;refine .inr (.inr ⟨⟨sr.2 ⟨Pb,h4⟩,by omega,by omega,gH fun a ha=>h3 a (aR (h6 ▸ ha)),h1⟩,?_,?_⟩)
 ·exact (congrArg Prod.fst h5).trans (by rw [h6])
 ·exact congrArg Prod.snd h5
structure eN where
 recs:List jc
 keys:Nat
 dD:kN
 some:Bool
def Si:jc:=⟨0,sk []⟩
def fW:kN:=⟨0,⟨0,[],[]⟩⟩
def eN.c (s:eN):jc:=s.recs.getLast?.getD Si
def recC (c:jc):dv:=be c.size 4++c.root
def eN.jb (s:eN):dv:=eV (s.recs.map recC)
structure eN.ok (s:eN):Prop where
 right:∀ c∈s.recs,c.right
 At:(s.recs.map (·.size)).Pairwise (·<·)
 pos:∀ c∈s.recs,0<c.size
 keys:s.keys≤16
 fits:s.dD.sig.fits
theorem jo {c:jc} (h:c.right):(recC c).length=36:=by unfold recC;rw [aa,cX,h.2]
theorem eN.uz {s:eN} (h:s.ok):s.c.right:=by
 unfold eN.c
 cases hl:s.recs.getLast? with
 | none=>exact ⟨aH _,jS _⟩
 | some c=>exact h.right c (List.mem_of_getLast? hl)
theorem KD (vr:Value) (c:jc) (hv:db R vr c.root) (hc:c.right) :
 Ct prog 111 #[.agg (iR c vr).toArray] e R (fun v' L'=>∃ ad k,v'=.slice ad (recC c).length k∧L'=cR (.slice ad (recC c).length k) (recC c)::R):=by
 have wX:=hc.1;have xr:=hc.2;refine a7 (cn hv) fun ho=>?_
 refine a8 (args:=[_]) func111 rfl ntmps111 results111 rfl ?_
 (repeat (refine wA ?_;intros))
 refine aZ rfl rfl (jg _ e) ?_;rintro _ _ ⟨gw,rfl,rfl⟩;refine wB ?_;refine aZ rfl rfl (gF _ e gw [] c.size zo (by decide)) ?_;rintro _ _ ⟨rfl,rfl⟩;refine wB ?_;refine aZ rfl rfl (hH _ e gw _ c.root vr (hv.cL zE) (by rw [aa,cX];simp only [List.length_nil];omega)) ?_;rintro _ _ ⟨rfl,rfl⟩;rw [show []++be c.size 4++c.root=recC c by simp [recC]];refine wB ?_;refine aZ rfl rfl (hI _ e gw _ (by rw [jo hc];omega)) ?_;rintro _ _ ⟨ad,k,rfl,rfl⟩;refine wB ?_;exact aY (cR (.slice ad (recC c).length k) (recC c)::R) rfl zE ⟨ad,k,rfl,rfl⟩
abbrev HD:TypeId:=194
structure nA where
 gj:Nat
 gb:Nat
 gk:Nat
 vs:Value
 vl:Value
 vp:Value
 vr:Value
 up:Value
 uq:Value
structure nA.ok (a:nA) (M:cJ) (seed log:dv) (s:eN):Prop where
 wO:db [M] a.vs seed
 Sj:db [M] a.vl log
 root:db [M] a.vr s.c.root
 sig:fL [M] a.up a.uq s.dD.sig
 st:s.ok
 sd:seed.length=32
 lg:log.length=32
abbrev nA.cells (a:nA) (id:Nat) (s:eN):List Value:=[pt a.gj,pt a.gb,.int .i64 (id:Int),a.vs,a.vl,a.vp]++iR s.c a.vr++iA s.dD a.up a.uq++[.bool s.some]
abbrev iI (g d k id:Nat) (s:eN) (a:nA) (M:cJ) (R:List cJ):List cJ :=
 cK g (a.cells id s) HD (0,0)::M::jd a.gj d s.recs.length::de d (dx s.jb)::mf a.gb a.gk s.keys::jd a.gk k s.keys::de k (eo s.keys 1048576)::R
def MZ (g d k id:Nat) (seed log:dv) (s:eN) (a:nA) (M:cJ):cJ:=dH (Pu (a.ok M seed log s)::iI g d k id s a M [])
def nB (g d k id:Nat) (seed log:dv) (s:eN):cJ:=Ex fun a=>Ex fun M=>MZ g d k id seed log s a M
theorem IV {g d k id:Nat} {seed log:dv} {s:eN} {R:List cJ} {P:Program} {f:FuncId} {args:Array Value} {e:World} {Post:Value→List cJ→Prop}
 (h:∀ (a:nA) (M:cJ),a.ok M seed log s→Ct P f args e (iI g d k id s a M R) Post):Ct P f args e (nB g d k id seed log s::R) Post :=
 Ct.ex .zero fun a=>Ct.ex .zero fun M=>Ct.cL (a7 (p:=a.ok M seed log s) (fun w x=>(jQ x).1) fun hp=>(h a M hp).cL (cz.drop aX)) (cT (M:=Pu (a.ok M seed log s)::iI g d k id s a M []) (L:=R))
theorem vF {g d k id:Nat} {seed log:dv} {s:eN} {a:nA} {M:cJ} {R:List cJ} (h:a.ok M seed log s):cz (iI g d k id s a M R) (nB g d k id seed log s::R) :=
 cj (m7 h) (cj (dQ (M:=Pu (a.ok M seed log s)::iI g d k id s a M []) (L:=R)) (cj (fu (f:=fun M=>MZ g d k id seed log s a M) M) (fu (f:=fun a=>Ex fun M=>MZ g d k id seed log s a M) a)))
theorem E0 (g d k id:Nat) (seed log:dv) (s:eN) :
 Ct prog 252 #[pt g] e (nB g d k id seed log s::R) (fun v' L'=>∃ ad c,v'=.agg (iR s.c (.slice ad s.c.root.length c)).toArray∧L'=cR (.slice ad s.c.root.length c) s.c.root::nB g d k id seed log s::R):=by
 refine IV fun a M ha=>?_
 have Gc:=(eN.uz ha.st).2;refine bH (args:=[_]) func252 rfl ntmps252 results252 rfl ?_
 (repeat (refine wA ?_;intros))
 rename_i g2;refine bk (id:=1) [12] (iI g d k id s a M R) mixed ?_
 (refine tM 0 ?_;refine tN 1 ?_;refine tF 2 ?_;refine tF 3 ?_;refine tL 4 ?_;refine tM 5 ?_;refine tN 6 ?_;refine tF 7 ?_;refine tF 8 ?_;refine tL 9 ?_)
 refine tO 10 ?_;refine bg rfl rfl (dw _ e a.vr s.c.root (ha.root.cL (cG zP)) zo) ?_;rintro _ _ ⟨ad,c,rfl,rfl⟩;refine ⟨fun _=>zE,?_⟩
 (refine tk 11 _ rfl (bL rfl zF) ?_;(refine tO 12 ?_;refine zg ?_;refine ⟨zN,?_⟩))
 refine bf zK ?_;refine wB ?_;apply br
 ·exact zV
 exact ⟨cR (.slice ad s.c.root.length c) s.c.root::nB g d k id seed log s::R,cj (show cz _ (cR (.slice ad s.c.root.length c) s.c.root::iI g d k id s a M R) from zE) (bh (vF ha)),ad,c,rfl,rfl⟩
def eN.jp (s:eN) (c:jc) (n m:Nat) (ts:List ej):Int:=if c.size<s.c.size then 32 else if c.size=s.c.size then (if c=s.c then 0 else 34) else if n=s.c.size∧m=c.size∧ph n m ts s.c.root c.root then 0 else 31
theorem E1 (g d k id:Nat) (seed log:dv) (s:eN) (a:nA) (M:cJ) (ha:a.ok M seed log s) (vr vp:Value) (c:jc) (n m:Nat) (ts:List ej) (hr:db R vr c.root) (hc:c.right) (hn:n≤1000000) (hm:m≤1000000) (hv:cE R 1 vp ts.length (ts.map (·.1))) (ht:dP R ts) :
 Ct prog 110 #[pt g,.agg (iR c vr).toArray,.agg #[.int .i64 (n:Int),.int .i64 (m:Int),vp]] e (iI g d k id s a M R) (fun v' L'=>v'=.int .i64 (s.jp c n m ts)∧L'=iI g d k id s a M R):=by
 have Sf:=eN.uz ha.st;have fQ:=Sf.1;have wX:=hc.1;refine a7 (cn (hr.cL (show cz (iI g d k id s a M R) R from zE))) fun o1=>?_
 refine a7 (cE.shape (hv.cL (show cz (iI g d k id s a M R) R from zE)) zo) ?_;rintro ⟨⟨rP,cp,rfl,-,-,-,-⟩,_⟩;refine a8 (args:=[_,_,_]) func110 rfl ntmps110 results110 rfl ?_
 (repeat (refine wA ?_;intros))
 rename_i g4 g5;refine bk (id:=1) [] (cK g5 [.int .i64 (n:Int),.int .i64 (m:Int),.slice rP ts.length cp] 102 (0,0)::cK g4 (iR c vr) 83 (0,0)::iI g d k id s a M R) mixed ?_
 by_cases h1:c.size<s.c.size
 ·have hE:s.jp c n m ts=32:=by unfold eN.jp;rw [aI h1]
  rw [hE]
  (refine tF 0 ?_;refine tL 1 ?_;refine tM 2 ?_;refine tN 3 ?_;refine tF 4 ?_;refine tF 5 ?_;refine tL 6 ?_;refine tk 7 (.bool true) rfl (cD.iP (cD.lss rfl rfl) zy) ?_;refine tA 8 ?_)
  refine bf zK ?_;refine wB ?_;exact aY (iI g d k id s a M R) rfl zE ⟨rfl,rfl⟩
 (refine tF 0 ?_;refine tL 1 ?_;refine tM 2 ?_;refine tN 3 ?_;refine tF 4 ?_;refine tF 5 ?_;refine tL 6 ?_;refine tk 7 (.bool false) rfl (cD.no (cD.lss rfl rfl) zn) ?_;refine tA 8 ?_)
 refine bf zK ?_;refine wB ?_;refine bk (id:=3) [] (cK g5 [.int .i64 (n:Int),.int .i64 (m:Int),.slice rP ts.length cp] 102 (0,0)::cK g4 (iR c vr) 83 (0,0)::iI g d k id s a M R) mixed ?_
 by_cases h2:c.size=s.c.size
 ·(refine tF 0 ?_;refine tL 1 ?_;refine tM 2 ?_;refine tN 3 ?_;refine tF 4 ?_;refine tF 5 ?_;refine tL 6 ?_;refine tk 7 (.bool true) rfl (cD.iP (bW rfl rfl) zy) ?_;refine tM 8 ?_;refine dt 9 _ rfl (cD.dy rfl zA zX) ?_;refine dt 10 _ rfl (bu rfl) ?_;refine dt 11 _ rfl (bm rfl) ?_;refine dt 12 _ rfl (ba rfl) ?_;refine dt 13 _ rfl (cD.dg rfl zP zI zX) ?_)
  refine A.ru 14 rfl rfl zK ?_;refine bg rfl rfl (yy _ e vr a.vr c s.c (hr.cL zE) (ha.root.cL (cG zP))) ?_;rintro _ _ ⟨rfl,rfl⟩;refine ⟨fun _=>zE,A.fR zE ?_⟩
  by_cases h3:c=s.c
  ·have hE:s.jp c n m ts=0:=by unfold eN.jp;rw [aB h1,aI h2,aI h3]
   rw [hE,ay h3]
   (refine dt 15 _ rfl (cD.jY rfl) ?_;refine tk 16 _ rfl (bK rfl rfl) ?_;refine tA 17 ?_)
   refine bf zK ?_;refine wB ?_;refine bk (id:=5) [] (cK g4 (iR c vr) 83 (0,0)::iI g d k id s a M R) mixed ?_
   (refine tF 0 ?_;refine tL 1 ?_;refine tM 2 ?_;refine tN 3 ?_;refine tF 4 ?_;refine tF 5 ?_;refine tL 6 ?_;refine tk 7 (.bool true) rfl (cD.iP (bW rfl rfl) zy) ?_;refine tA 8 ?_)
   refine bf zK ?_;refine wB ?_;exact aY (iI g d k id s a M R) rfl zE ⟨rfl,rfl⟩
  ·have hE:s.jp c n m ts=34:=by unfold eN.jp;rw [aB h1,aI h2,aB h3]
   rw [hE,aq h3]
   (refine dt 15 _ rfl (cD.p7 rfl) ?_;refine tk 16 _ rfl (bK rfl rfl) ?_;refine tA 17 ?_)
   refine bf zK ?_;refine wB ?_;exact aY (iI g d k id s a M R) rfl zE ⟨rfl,rfl⟩
 (refine tF 0 ?_;refine tL 1 ?_;refine tM 2 ?_;refine tN 3 ?_;refine tF 4 ?_;refine tF 5 ?_;refine tL 6 ?_;refine tk 7 (.bool false) rfl (cD.no (bW rfl rfl) zn) ?_;refine tM 8 ?_;refine bc 9 rfl rfl zK zE rfl ?_;refine bc 10 rfl rfl zK zE rfl ?_;refine bc 11 rfl rfl zK zE rfl ?_;refine bc 12 rfl rfl zK zE rfl ?_;refine bc 13 rfl rfl zK zE rfl ?_)
 refine bc 14 rfl rfl zK zE rfl ?_
 (refine bc 15 rfl rfl zK zE rfl ?_;refine tk 16 _ rfl (bI rfl rfl) ?_;refine tA 17 ?_)
 refine bf zK ?_;refine wB ?_;refine bk (id:=5) [] (cK g4 (iR c vr) 83 (0,0)::iI g d k id s a M R) mixed ?_
 (refine tF 0 ?_;refine tL 1 ?_;refine tM 2 ?_;refine tN 3 ?_;refine tF 4 ?_;refine tF 5 ?_;refine tL 6 ?_;refine tk 7 (.bool false) rfl (cD.no (bW rfl rfl) zn) ?_;refine tA 8 ?_)
 refine bf zK ?_;refine wB ?_;refine bk (id:=7) [] (cK g5 [.int .i64 (n:Int),.int .i64 (m:Int),.slice rP ts.length cp] 102 (0,0)::cK g4 (iR c vr) 83 (0,0)::iI g d k id s a M R) mixed ?_;have Pc:s.jp c n m ts=if n=s.c.size∧m=c.size∧ph n m ts s.c.root c.root then 0 else 31:=by unfold eN.jp;rw [aB h1,aB h2]
 by_cases h3:n=s.c.size
 rotate_left
 ·have hE:s.jp c n m ts=31:=by rw [Pc,aB (fun q=>h3 q.1)]
  rw [hE]
  (refine tF 0 ?_;refine tL 1 ?_;refine tM 2 ?_;refine tN 3 ?_;refine tF 4 ?_;refine tF 5 ?_;refine tL 6 ?_;refine tk 7 (.bool true) rfl (cD.iP (cD.neq rfl rfl) zy) ?_;refine tM 8 ?_;refine bc 9 rfl rfl zK zE rfl ?_;refine bc 10 rfl rfl zK zE rfl ?_;refine bc 11 rfl rfl zK zE rfl ?_;refine bc 12 rfl rfl zK zE rfl ?_;refine bc 13 rfl rfl zK zE rfl ?_;refine tk 14 _ rfl (bK rfl rfl) ?_;refine tM 15 ?_;refine bc 16 rfl rfl zK zE rfl ?_;refine bc 17 rfl rfl zK zE rfl ?_;refine bc 18 rfl rfl zK zE rfl ?_;refine bc 19 rfl rfl zK zE rfl ?_;refine bc 20 rfl rfl zK zE rfl ?_;refine bc 21 rfl rfl zK zE rfl ?_;refine bc 22 rfl rfl zK zE rfl ?_;refine bc 23 rfl rfl zK zE rfl ?_)
  refine bc 24 rfl rfl zK zE rfl ?_
  (refine bc 25 rfl rfl zK zE rfl ?_;refine tk 26 _ rfl (bK rfl rfl) ?_;refine tA 27 ?_)
  refine bf zK ?_;refine wB ?_;exact aY (iI g d k id s a M R) rfl zE ⟨rfl,rfl⟩
 by_cases h4:m=c.size
 rotate_left
 ·have hE:s.jp c n m ts=31:=by rw [Pc,aB (fun q=>h4 q.2.1)]
  rw [hE]
  (refine tF 0 ?_;refine tL 1 ?_;refine tM 2 ?_;refine tN 3 ?_;refine tF 4 ?_;refine tF 5 ?_;refine tL 6 ?_;refine tk 7 (.bool false) rfl (cD.no (cD.neq rfl rfl) zn) ?_;refine tM 8 ?_;refine dt 9 _ rfl (ba rfl) ?_;refine dt 10 _ rfl (bp rfl zR) ?_;refine dt 11 _ rfl (ba rfl) ?_;refine dt 12 _ rfl (bp rfl zR) ?_;refine dt 13 (.bool true) rfl (cD.iP (cD.neq rfl rfl) zy) ?_;refine tk 14 _ rfl (bI rfl rfl) ?_;refine tM 15 ?_;refine bc 16 rfl rfl zK zE rfl ?_;refine bc 17 rfl rfl zK zE rfl ?_;refine bc 18 rfl rfl zK zE rfl ?_;refine bc 19 rfl rfl zK zE rfl ?_;refine bc 20 rfl rfl zK zE rfl ?_;refine bc 21 rfl rfl zK zE rfl ?_;refine bc 22 rfl rfl zK zE rfl ?_;refine bc 23 rfl rfl zK zE rfl ?_)
  refine bc 24 rfl rfl zK zE rfl ?_
  (refine bc 25 rfl rfl zK zE rfl ?_;refine tk 26 _ rfl (bK rfl rfl) ?_;refine tA 27 ?_)
  refine bf zK ?_;refine wB ?_;exact aY (iI g d k id s a M R) rfl zE ⟨rfl,rfl⟩
 (refine tF 0 ?_;refine tL 1 ?_;refine tM 2 ?_;refine tN 3 ?_;refine tF 4 ?_;refine tF 5 ?_;refine tL 6 ?_;refine tk 7 (.bool false) rfl (cD.no (cD.neq rfl rfl) zn) ?_;refine tM 8 ?_;refine dt 9 _ rfl (ba rfl) ?_;refine dt 10 _ rfl (bp rfl zR) ?_;refine dt 11 _ rfl (ba rfl) ?_;refine dt 12 _ rfl (bp rfl zR) ?_;refine dt 13 (.bool false) rfl (cD.no (cD.neq rfl rfl) zn) ?_;refine tk 14 _ rfl (bI rfl rfl) ?_;refine tM 15 ?_;refine dt 16 _ rfl (cD.dy rfl zA zX) ?_;refine dt 17 _ rfl (bu rfl) ?_;refine dt 18 _ rfl (bm rfl) ?_;refine dt 19 _ rfl (ba rfl) ?_;refine dt 20 _ rfl (ba rfl) ?_;refine dt 21 _ rfl (bp rfl zR) ?_;refine dt 22 _ rfl (ba rfl) ?_;refine dt 23 _ rfl (bp rfl zR) ?_)
 refine A.ru 24 rfl rfl zK ?_;refine bg rfl rfl (y6 _ e (n:Int) (m:Int) (.slice rP ts.length cp) a.vr vr ts s.c.root c.root zo zo (hv.cL zE) (fun x hx=>(ht x hx).cL zE) (ha.root.cL (cG zP)) (hr.cL zE)) ?_;rintro _ _ ⟨rfl,rfl⟩;refine ⟨fun _=>zE,A.fR zE ?_⟩
 by_cases h5:ph n m ts s.c.root c.root
 ·have hE:s.jp c n m ts=0:=by rw [Pc,aI ⟨h3,h4,h5⟩]
  rw [hE,ay h5]
  (refine dt 25 _ rfl (cD.jY rfl) ?_;refine tk 26 _ rfl (bI rfl rfl) ?_;refine tA 27 ?_)
  refine bf zK ?_;refine wB ?_;exact aY (iI g d k id s a M R) rfl zE ⟨rfl,rfl⟩
 ·have hE:s.jp c n m ts=31:=by rw [Pc,aB (fun q=>h5 q.2.2)]
  rw [hE,aq h5]
  (refine dt 25 _ rfl (cD.p7 rfl) ?_;refine tk 26 _ rfl (bI rfl rfl) ?_;refine tA 27 ?_)
  refine bf zK ?_;refine wB ?_;exact aY (iI g d k id s a M R) rfl zE ⟨rfl,rfl⟩
end Go.Proofs
namespace Go.Bs
theorem cD.Sk {P:Program} {N:Fr} {ty:TypeId} {σ:Env} {e:World} {L:List cJ} {x:Operand} {t:TypeId} {f n off:Nat} {cs ds:List Value} (hr:∀ w (cs:Array Value),(Instr.field t (.agg cs) f).run P w=.ok (.agg (cs.extract off (off+n))) w) (h:ev σ x=some (.agg cs.toArray)) (hd:(cs.drop off).take n=ds) :
 cD P N (.field t x f) ty (.agg ds.toArray) σ e L:=fun a w ha _ _ _ _ _=>by
 subst hd;have h2:=hr w cs.toArray
 simp [execOp,ha.ev h,h2]
end Go.Bs
namespace Go.Proofs
open Go.Bs
attribute [local irreducible] Bs.cD Bs.Do Bs.O Bs.W Bs.Fin Bs.A Bs.Ct Bs.cE Bs.Rd Bs.Sat Bs.cK Bs.Ob Bs.dJ Bs.View Bs.cz Bs.Ex Bs.dH Bs.Pu Bs.eY Bs.dM Bs.dZ
theorem Pd:∀ w (cs:Array Value),(Instr.field 87 (.agg cs) 0).run Tryz.prog w=.ok (.agg (cs.extract 0 (0+2))) w:=fun w cs=>by
 simp [Instr.field,Tryz.runUnderlying87,asAgg,part,Tryz.isAgg83,Tryz.sizeOf83]
def eN.grow (s:eN) (c:jc):eN:=if s.c.size<c.size then { s with recs:=s.recs++[c],some:=false } else s
def eN.cos (seed:dv) (id:Nat) (s:eN):eN × Bool:=if s.some=true then (s,true) else if s.keys<16 then ({ s with keys:=s.keys+1,dD:=Bg seed s.keys id s.c,some:=true },true) else (s,false)
def eN.y7 (seed log:dv) (id:Nat) (s:eN) (x:j6) (n m:Nat) (ts:List ej):Int:=if ¬ x.ii log then 30 else if s.jp x.dc n m ts≠0 then s.jp x.dc n m ts else if ((s.grow x.dc).cos seed id).2=true then 0 else 23
def eN.xj (seed log:dv) (id:Nat) (s:eN) (x:j6) (n m:Nat) (ts:List ej):eN:=if ¬ x.ii log then s else if s.jp x.dc n m ts≠0 then s else ((s.grow x.dc).cos seed id).1
theorem eN.M0 (s:eN) (c:jc) (b:Bool):eN.c { s with recs:=s.recs++[c],some:=b }=c:=by simp [eN.c]
theorem eN.Sl {s:eN} {c:jc} {n m:Nat} {ts:List ej} (h:s.jp c n m ts=0):(s.grow c).c=c:=by
 unfold eN.grow
 split
 ·exact eN.M0 s c false
 ·rename_i h1;unfold eN.jp at h
  by_cases h2:c.size<s.c.size
  ·rw [aI h2] at h;cases h
  ·rw [aB h2,aI zo] at h
   by_cases h3:c=s.c
   ·exact h3.symm
   ·rw [aB h3] at h;cases h
theorem eN.xD {s:eN} {c:jc} (h:s.ok) (hc:c.right):(s.grow c).ok:=by
 unfold eN.grow
 split
 ·rename_i h1;refine ⟨fun x hx=>?_,?_,fun x hx=>?_,h.keys,h.fits⟩
  ·rcases aJ.1 hx with hx|hx
   ·exact h.right x hx
   ·rw [an.1 hx];exact hc
  ·show ((s.recs++[c]).map (·.size)).Pairwise (·<·)
   rw [ah];refine List.pairwise_append.2 ⟨h.At,by simp,fun a ha b hb=>?_⟩;obtain ⟨y,hy,rfl⟩:=aE.1 ha;rw [List.map_cons,List.map_nil,an] at hb
   subst hb;refine Nat.lt_of_le_of_lt ?_ h1;unfold eN.c
   cases hl:s.recs.getLast? with
   | none=>rw [List.getLast?_eq_none_iff] at hl;rw [hl] at hy;cases hy
   | some z =>
    obtain ⟨A,hA⟩:=List.getLast?_eq_some_iff.1 hl;have hr:=h.At;rw [hA,ah] at hr
    rw [hA] at hy
    rcases aJ.1 hy with hy|hy
    ·exact Nat.le_of_lt ((List.pairwise_append.1 hr).2.2 _ (aE.2 ⟨y,hy,rfl⟩) _ (aE.2 ⟨z,an.2 rfl,rfl⟩))
    ·rw [an.1 hy];exact aS _
  ·rcases aJ.1 hx with hx|hx
   ·exact h.pos x hx
   ·rw [an.1 hx];omega
 ·exact h
abbrev aaK:Value:=.agg (iA fW nY nY).toArray
theorem CJ (R:List cJ) (e:World) (g d k id:Nat) (seed log:dv) (s:eN) (vr vp vq vg:Value) (x:j6) (n m:Nat) (ts:List ej) (hx:fj R vr vp vq x) (hc:x.dc.right) (hf:x.sig.fits) (hid:id<4) (hn:n≤1000000) (hm:m≤1000000) (hv:cE R 1 vg ts.length (ts.map (·.1))) (ht:dP R ts) (lm:s.recs.length≤1000) :
 Ct Tryz.prog 46 #[pt g,.agg (dS x vr vp vq).toArray,.agg #[.int .i64 (n:Int),.int .i64 (m:Int),vg]] e (nB g d k id seed log s::R) (fun v' L'=>(s.y7 seed log id x n m ts=0→∃ (N:cJ) (up uq:Value),v'=.tuple #[.agg (iA (s.xj seed log id x n m ts).dD up uq).toArray,.int .i64 0]∧fL [N] up uq (s.xj seed log id x n m ts).dD.sig∧L'=N::nB g d k id seed log (s.xj seed log id x n m ts)::R)∧(s.y7 seed log id x n m ts≠0→v'=.tuple #[aaK,.int .i64 (s.y7 seed log id x n m ts)]∧L'=nB g d k id seed log (s.xj seed log id x n m ts)::R)):=by
 refine IV fun a M ha=>?_
 have Sf:=eN.uz ha.st;have XY:=hx;obtain ⟨x1,x2,x3⟩:=XY;have mR:cz (iI g d k id s a M R) R:=zE;refine a7 (cn (x1.cL mR)) fun o1=>?_
 refine a7 (x2.cL mR).parts.one fun o2=>?_
 refine a7 (x2.cL mR).path.one fun o3=>?_
 refine a7 (cE.shape (hv.cL mR) zo) ?_;rintro ⟨⟨rP,cp,rfl,-,-,-,-⟩,_⟩;refine bH (args:=[_,_,_]) Tryz.func46 rfl Tryz.ntmps46 Tryz.results46 rfl ?_
 (repeat (refine wA ?_;intros))
 rename_i g4 g5 g6;refine bk (id:=1) [] (cK g4 (dS x vr vp vq) 87 (0,0)::iI g d k id s a M R) Tryz.mixed ?_
 (refine tM 0 ?_;refine tN 1 ?_;refine tF 2 ?_;refine tL 3 ?_;refine tJ 4 ?_)
 refine tO 5 ?_;refine bg rfl rfl (ky _ e a.vl vr vp vq log x (ha.Sj.cL (cG zP)) (hx.cL zE) hc) ?_;rintro _ _ ⟨rfl,rfl⟩;refine ⟨fun _=>zE,A.fR zE ?_⟩
 by_cases pP:x.ii log
 rotate_left
 ·have hE:s.y7 seed log id x n m ts=30:=by unfold eN.y7;rw [aI pP]
  have hS:s.xj seed log id x n m ts=s:=by unfold eN.xj;rw [aI pP]
  rw [hE,hS,aq pP]
  (refine tk 6 _ rfl (cD.p7 rfl) ?_)
  refine bf zK ?_;refine wB ?_;apply br
  ·exact zV
  exact ⟨nB g d k id seed log s::R,cj (show cz _ (iI g d k id s a M R) from zE) (vF ha),(fun h=>by cases h),fun _=>⟨rfl,rfl⟩⟩
 rw [ay pP]
 (refine tk 6 _ rfl (cD.jY rfl) ?_)
 refine bf zK ?_
 (repeat' first|refine Za ?_|apply Zc|apply Zd|apply Zf|refine Zh ?_|refine Zj ?_|refine YA ?_|apply YC|(apply O.dg;exact rfl;exact zP;(first|(simp only [aC,Nat.add_zero,Nat.reduceAdd,List.drop_succ_cons,List.drop_zero,List.take_succ_cons,List.take_zero];done)|(simp only [aC,Nat.add_zero,Nat.reduceAdd,List.drop_succ_cons,List.drop_zero,List.take_succ_cons,List.take_zero];exact rfl));exact rfl;exact rfl))
 refine aZ rfl rfl ((E1 (cK g6 (iA fW nY nY) 96 (0,0)::cK g5 [.int .i64 (n:Int),.int .i64 (m:Int),.slice rP ts.length cp] 102 (0,0)::cK g4 (dS x vr vp vq) 87 (0,0)::R) e g d k id seed log s a M ha vr (.slice rP ts.length cp) x.dc n m ts (x1.cL zE) hc hn hm (hv.cL zE) (fun y hy=>(ht y hy).cL zE)).cL zE) ?_;rintro _ _ ⟨rfl,rfl⟩
 by_cases hg:s.jp x.dc n m ts=0
 rotate_left
 ·have hE:s.y7 seed log id x n m ts=s.jp x.dc n m ts:=by unfold eN.y7;rw [aB (fun q=>q pP),aI hg]
  have hS:s.xj seed log id x n m ts=s:=by unfold eN.xj;rw [aB (fun q=>q pP),aI hg]
  rw [hE,hS]
  generalize s.jp x.dc n m ts=E at *
  refine wB ?_;apply br
  ·exact zV
  exact ⟨nB g d k id seed log s::R,cj (show cz _ (iI g d k id s a M R) from zE) (vF ha),fun h=>absurd h hg,fun _=>⟨rfl,rfl⟩⟩
 rw [hg];obtain ⟨s1,fQ⟩:∃ s1:eN,s1=s.grow x.dc:=⟨_,rfl⟩
 have pS:s1.ok:=by rw [fQ];exact eN.xD ha.st hc
 have wX:s1.c=x.dc:=by rw [fQ];exact eN.Sl hg
 have hE:s.y7 seed log id x n m ts=if (s1.cos seed id).2=true then 0 else 23:=by unfold eN.y7;rw [aB (fun q=>q pP),aB (fun q=>q hg),← fQ]
 have hS:s.xj seed log id x n m ts=(s1.cos seed id).1:=by unfold eN.xj;rw [aB (fun q=>q pP),aB (fun q=>q hg),← fQ]
 rw [hE,hS]
 (repeat' first|refine W.pF (id:=11) (fun _:nA × cJ=>[(0,pt g),(6,pt g6),(7,.int .i64 0)]) (fun i=>cK g6 (iA fW nY nY) 96 (0,0)::iI g d k id s1 i.1 i.2 R) (fun i=>i.1.ok i.2 seed log s1) ?_ ?_|refine Za ?_|refine Zb ?_|apply Zc|apply Zd|apply Ze|apply Zf|refine ZQ ?_|refine YA ?_|apply YC)
 rotate_left
 ·refine ⟨?_⟩
  (repeat (refine wA ?_;intros))
  refine bk (id:=6) [] (cK g4 (dS x vr vp vq) 87 (0,0)::cK g (a.cells id s) HD (0,0)::R) Tryz.mixed ?_
  by_cases Sm:s.c.size<x.dc.size
  rotate_left
  ·have Gb:s1=s:=by rw [fQ];unfold eN.grow;rw [aB Sm]
   (refine tF 0 ?_;refine tF 1 ?_;refine tL 2 ?_;refine tM 3 ?_;refine tN 4 ?_;refine tF 5 ?_;refine tF 6 ?_;refine tL 7 ?_;refine tk 8 (.bool false) rfl (cD.no (cD.gtr rfl rfl) zn) ?_)
   refine bf zK ?_;refine wB ?_;rw [Gb];exact bJ (a,M) ha zS zE
  have Gb:s1={ s with recs:=s.recs++[x.dc],some:=false }:=by rw [fQ];unfold eN.grow;rw [aI Sm]
  have Ms:=jo hc
  have xh:=kD (l:=s.recs.map recC) (n:=36) (fun r hr=>by
   obtain ⟨y,hy,rfl⟩:=aE.1 hr;rw [jo (ha.st.right y hy)];exact aS _)
  rw [ab] at xh
  obtain ⟨p1,p2,p3⟩:=add_plain (b:=s.jb) (m:=recC x.dc) (sy:=s.jb.length) (by unfold eN.jb;omega)
  (refine tF 0 ?_;refine tF 1 ?_;refine tL 2 ?_;refine tM 3 ?_;refine tN 4 ?_;refine tF 5 ?_;refine tF 6 ?_;refine tL 7 ?_;refine tk 8 (.bool true) rfl (cD.iP (cD.gtr rfl rfl) zy) ?_)
  refine bf zK ?_;refine wB ?_;refine bk (id:=7) [8] (cK g4 (dS x vr vp vq) 87 (0,0)::cK g (a.cells id s) HD (0,0)::R) Tryz.mixed ?_
  (refine tM 0 ?_;refine tN 1 ?_;refine tF 2 ?_;refine tL 3 ?_;refine tF 4 ?_;refine tk 5 _ rfl (cD.dg rfl zP zI zX) ?_)
  refine tO 6 ?_;refine bg rfl rfl (KD _ e vr x.dc (x1.cL zE) hc) ?_;rintro _ _ ⟨ux,kr,rfl,rfl⟩;refine ⟨fun _=>zE,?_⟩;have MS:=fun L:List cJ=>fun Sg:db L (.slice ux (recC x.dc).length kr) (recC x.dc)=>nV L e a.gj d s.recs.length (nh s.jb s.jb.length) (recC x.dc) (.slice ux (recC x.dc).length kr) (uj (by unfold eN.jb;omega) (aS _)) Sg zo zo
  rw [p1,p2,p3] at MS
  refine tO 7 ?_;refine bg rfl rfl (Ct.AO zP zP (MS _ (bb zP))) ?_;rintro _ _ ⟨rfl,rfl⟩;refine ⟨fun _=>zE,?_⟩
  ((refine tO 8 ?_;refine dV (bj rfl) ?_))
  refine bf zK ?_;refine wB ?_;refine aZ rfl rfl (gR _ e vr vp vq x (hx.cL zE) hf) ?_;rintro _ _ ⟨N,ur,up,uq,rfl,hN,rfl⟩;refine bn (cn (hN.root.cL (cG zP))) fun o4=>?_
  (repeat' first|refine Za ?_|refine Zb ?_|apply Zc|apply Zd|apply Ze|apply Zf|refine Zg ?_|refine Zh ?_|refine Zi ?_|refine Zj ?_|refine Zu ?_|refine Zy ?_|refine Zz ?_|refine ZG ?_|refine ZH ?_|refine ZI (fun _=>?_) fun _=>?_|refine ZP ?_|refine ZQ ?_|refine Yd ?_|refine Ye ?_|refine Yg fun _=>?_|refine Yh fun _=>?_|refine Yz ?_|refine YA ?_|apply YC|apply YE|apply YF|refine YN ?_|refine YQ ?_|refine YR ?_|(apply O.dg;exact rfl;exact zP;(first|(simp only [aC,Nat.add_zero,Nat.reduceAdd,List.drop_succ_cons,List.drop_zero,List.take_succ_cons,List.take_zero];done)|(simp only [aC,Nat.add_zero,Nat.reduceAdd,List.drop_succ_cons,List.drop_zero,List.take_succ_cons,List.take_zero];exact rfl));exact rfl;exact rfl))
  refine bx _ (cD.Sk (n:=2) (off:=0) (cs:=dS x ur up uq) (ds:=iR x.dc ur) Pd rfl rfl) rfl ?_;refine wB ?_;have QV:s1.some=false:=by rw [Gb]
  obtain ⟨M2,CG⟩:∃ M2:cJ,M2=dH [M,N]:=⟨_,rfl⟩
  have eT:cz [M2] [M]:=by rw [CG];exact cj (cT (M:=[_,_]) (L:=[])) (bh bF)
  have iH:cz [M2] [N]:=by rw [CG];exact cj (cT (M:=[_,_]) (L:=[])) (cz.drop (bh bF))
  have Hq:nA.ok { a with vr:=ur } M2 seed log s1:=by
   refine ⟨ha.wO.cL eT,ha.Sj.cL eT,?_,?_,pS,ha.sd,ha.lg⟩
   ·rw [wX];exact hN.root.cL iH
   ·rw [Gb];exact ha.sig.cL eT
  have VL:s1.jb=s.jb++fB (recC x.dc):=by
   rw [Gb];unfold eN.jb;rw [ah,List.map_cons,List.map_nil,nX]
  have aaL:s1.recs.length=s.recs.length+1:=by rw [Gb];simp
  have QP:s1.keys=s.keys:=by rw [Gb]
  have T8:s1.dD=s.dD:=by rw [Gb]
  refine bJ ({ a with vr:=ur },M2) Hq zS ?_;dsimp only [iI,nA.cells];rw [VL,aaL,QP,T8,wX,QV,CG];exact cj (ep (A:=M) (B:=N) zP zP) zE
 rintro ⟨a1,M1⟩ Hq;dsimp only at Hq ⊢
 have aaM:=eN.uz pS;clear ha hE hS
 (repeat' first|refine W.u2 (id:=17) (fun _:nA × cJ=>[(0,pt g),(6,pt g6),(7,.int .i64 0)]) (fun i=>cK g6 (iA fW nY nY) 96 (0,0)::iI g d k id (s1.cos seed id).1 i.1 i.2 R) (fun i=>i.1.ok i.2 seed log (s1.cos seed id).1∧(s1.cos seed id).2=true) ?_ ?_)
 ·rintro ⟨a2,M2⟩ ⟨LF,B6⟩;dsimp only at LF ⊢
  rw [aI B6]
  (repeat' first|refine Za ?_|apply Zc|apply Zd|refine Zg ?_|refine Zh ?_|(apply O.dg;exact rfl;exact zP;(first|(simp only [aC,Nat.add_zero,Nat.reduceAdd,List.drop_succ_cons,List.drop_zero,List.take_succ_cons,List.take_zero];done)|(simp only [aC,Nat.add_zero,Nat.reduceAdd,List.drop_succ_cons,List.drop_zero,List.take_succ_cons,List.take_zero];exact rfl));exact rfl;exact rfl))
  refine aZ rfl rfl (oX _ e a2.up a2.uq (s1.cos seed id).1.dD (LF.sig.cL (cG zP)) LF.st.fits) ?_;rintro _ _ ⟨N,up,uq,rfl,hN,rfl⟩;refine bn (hN.cL (cG zP)).parts.one fun o4=>?_
  refine bn (hN.cL (cG zP)).path.one fun o5=>?_
  refine wB ?_;apply br
  ·exact zV
  exact ⟨N::nB g d k id seed log (s1.cos seed id).1::R,cj (show cz _ (N::iI g d k id (s1.cos seed id).1 a2 M2 R) from zE) (bh (vF LF)),fun _=>⟨N,up,uq,rfl,hN,rfl⟩,fun h=>absurd rfl h⟩
 refine ⟨?_⟩
 by_cases QV:s1.some=true
 ·have M4:s1.cos seed id=(s1,true):=by unfold eN.cos;rw [aI QV]
  rw [M4];dsimp only [iI,nA.cells];rw [QV];refine wB ?_;refine bJ (a1,M1) ⟨Hq,rfl⟩ zS ?_;simp only [iI,nA.cells,QV];exact zE
 have Sn:s1.some=false:=by simpa using QV
 by_cases hk:s1.keys<16
 rotate_left
 ·have Mt:s1.keys=16:=by have:=pS.keys;omega
  have M4:s1.cos seed id=(s1,false):=by unfold eN.cos;rw [aB QV,aB hk]
  rw [M4];have ft:=wK (cK g6 (iA fW nY nY) 96 (0,0)::cK g (a1.cells id s1) HD (0,0)::M1::jd a1.gj d s1.recs.length::de d (dx s1.jb)::R) e a1.gb a1.gk k 1048576 zo zo;rw [← Mt] at ft
  dsimp only [iI,nA.cells] at ft ⊢
  rw [Sn] at ft ⊢
  refine wB ?_;refine aZ rfl rfl (ft.cL zE) ?_;rintro _ _ ⟨rfl,rfl⟩;refine wB ?_;apply br
  ·exact zV
  refine ⟨nB g d k id seed log s1::R,cj ?_ (vF Hq),(fun h=>by simp at h),fun _=>⟨rfl,rfl⟩⟩;simp only [iI,nA.cells,Sn];exact zE
 have M4:s1.cos seed id=({ s1 with keys:=s1.keys+1,dD:=Bg seed s1.keys id s1.c,some:=true },true):=by unfold eN.cos;rw [aB QV,aI hk]
 rw [M4];have ft:=wJ (cK g6 (iA fW nY nY) 96 (0,0)::cK g (a1.cells id s1) HD (0,0)::M1::jd a1.gj d s1.recs.length::de d (dx s1.jb)::R) e a1.gb a1.gk k s1.keys 1048576 hk zo zo;dsimp only [iI,nA.cells] at ft ⊢
 rw [Sn] at ft ⊢
 refine wB ?_;refine aZ rfl rfl (ft.cL zE) ?_;rintro _ _ ⟨rfl,rfl⟩;refine wB ?_;refine W.gC [(0,pt g),(6,pt g6),(7,.int .i64 0),(10,.int .i64 (s1.keys:Int))] zS ?_;refine bk (id:=15) [18,19,20] (cK g (a1.cells id { s1 with some:=false }) HD (0,0)::M1::R) Tryz.mixed ?_
 (refine tM 0 ?_;refine tM 1 ?_;refine tN 2 ?_;refine tF 3 ?_;refine tL 4 ?_;refine tM 5 ?_;refine tM 6 ?_;refine tN 7 ?_;refine tF 8 ?_;refine tL 9 ?_;refine tM 10 ?_;refine tN 11 ?_;refine tF 12 ?_;refine tk 13 _ rfl (cD.dg rfl zP zI zX) ?_)
 refine tO 14 ?_;refine bg rfl rfl (GZ _ e a1.vs a1.vr seed s1.keys id s1.c (Hq.wO.cL (cG zP)) Hq.sd hk hid (Hq.root.cL (cG zP)) aaM) ?_;rintro _ _ ⟨N,up,uq,rfl,hN,rfl⟩;refine ⟨fun _=>zE,?_⟩;refine A.cB (hN.cL (cG zP)).parts.one fun o4=>?_
 refine A.cB (hN.cL (cG zP)).path.one fun o5=>?_
 refine tM 15 ?_;refine tk 16 _ rfl (bl rfl rfl) ?_;have eT:cz [dH [M1,N]] [M1]:=cj (cT (M:=[_,_]) (L:=[])) (bh bF);have iH:cz [dH [M1,N]] [N]:=cj (cT (M:=[_,_]) (L:=[])) (cz.drop (bh bF))
 have er:nA.ok { a1 with up:=up,uq:=uq } (dH [M1,N]) seed log { s1 with keys:=s1.keys+1,dD:=Bg seed s1.keys id s1.c,some:=true } :=
  ⟨Hq.wO.cL eT,Hq.Sj.cL eT,Hq.root.cL eT,hN.cL iH,⟨pS.right,pS.At,pS.pos,hk,(j5 hk).fits⟩,Hq.sd,Hq.lg⟩
 refine A.two 17 18 rfl rfl rfl rfl zK ?_ ?_
 ·refine bN (bl rfl rfl) rfl ⟨fun _=>zE,?_⟩;refine tO 18 ?_;refine dV (bm rfl) ?_;refine tO 19 ?_;refine dV (ba rfl) ?_;refine tO 20 ?_;refine Do.ek rfl rfl rfl zO zU zW ⟨zN,?_⟩;refine bf zK ?_;refine wB ?_;refine bJ ({ a1 with up:=up,uq:=uq },dH [M1,N]) ⟨er,rfl⟩ zS ?_;exact cj (ep (A:=M1) (B:=N) zP zP) zE
 ·refine dV (bm rfl) ?_;refine A.two 17 19 rfl rfl rfl rfl zK ?_ ?_
  ·refine bN (bl rfl rfl) rfl ⟨zN,?_⟩;refine tO 19 ?_;refine dV (ba rfl) ?_;refine tO 20 ?_;refine Do.ek rfl rfl rfl zO zU zW ⟨zN,?_⟩;refine bf zK ?_;refine wB ?_;refine bJ ({ a1 with up:=up,uq:=uq },dH [M1,N]) ⟨er,rfl⟩ zS ?_;exact cj (ep (A:=M1) (B:=N) zP zP) zE
  ·refine dV (ba rfl) ?_;refine A.two 17 20 rfl rfl rfl rfl zK ?_ ?_
   ·refine bN (bl rfl rfl) rfl ⟨zN,?_⟩;refine tO 20 ?_;refine Do.ek rfl rfl rfl zO zU zW ⟨zN,?_⟩;refine bf zK ?_;refine wB ?_;refine bJ ({ a1 with up:=up,uq:=uq },dH [M1,N]) ⟨er,rfl⟩ zS ?_;exact cj (ep (A:=M1) (B:=N) zP zP) zE
   ·refine Do.ek rfl rfl rfl zO zU zW ⟨zN,?_⟩;refine tO 17 ?_;refine bN (bl rfl rfl) rfl ⟨zN,?_⟩;refine bf zK ?_;refine wB ?_;refine bJ ({ a1 with up:=up,uq:=uq },dH [M1,N]) ⟨er,rfl⟩ zS ?_;exact cj (ep (A:=M1) (B:=N) zP zP) zE
end Go.Proofs
namespace Go.Proofs
attribute [local irreducible] Bs.cD Bs.Do Bs.O Bs.W Bs.Fin Bs.A Bs.Ct Bs.cE Bs.Rd Bs.Sat Bs.cK Bs.Ob Bs.dJ Bs.View Bs.cz Bs.Ex Bs.dH Bs.Pu Bs.eY Bs.dM Bs.dZ
open Go.Bs
open Tryz
def CK (l:List jc):jc:=l.getLast?.getD Si
theorem KE (l:List jc) (c:jc):CK (l++[c])=c:=by simp [CK]
theorem HE {l:List jc} (h:∀ c∈l,c.right):(CK l).right:=by
 unfold CK
 cases hl:l.getLast? with
 | none=>exact ⟨aH _,jS _⟩
 | some c=>exact h c (List.mem_of_getLast? hl)
theorem Pe {l:List jc} {c:jc} (h:((l++[c]).map (·.size)).Pairwise (·<·)) (h0:0<c.size):(CK l).size<c.size:=by
 unfold CK
 cases hl:l.getLast? with
 | none=>exact h0
 | some z =>
  obtain ⟨A,hA⟩:=List.getLast?_eq_some_iff.1 hl;rw [ah] at h
  exact (List.pairwise_append.1 h).2.2 _ (aE.2 ⟨z,List.mem_of_getLast? hl,rfl⟩) _ (by simp)
theorem re:fW.sig.fits:=⟨fun x hx=>absurd hx aP,fun x hx=>absurd hx aP⟩
theorem CL (L:List cJ):fL L nY nY fW.sig :=
 ⟨⟨[],rfl,cE.nil _ _,fun x hx=>absurd hx aP⟩,⟨[],rfl,cE.nil _ _,fun x hx=>absurd hx aP⟩,⟨by decide,by decide,by decide⟩⟩
theorem rf {L R R' R2 R3:List cJ} {A B C D:cJ} (p:cQ L A R) (q:cQ R B R') (r:cQ R' C R2) (u:cQ R2 D R3):cz L (dH [A,B,C,D]::R3):=cj p.out (cj (bh (cj q.out (bh (cj r.out (bh u.out))))) (dQ (M:=[A,B,C,D])))
theorem HF (R:List cJ) (e:World) (d k id:Nat) (v u:Value) (seed log:dv) (s:eN) (hv:db R v seed) (hu:db R u log) (JV:seed.length=32) (F7:log.length=32) (hid:id<4) (hs:s.ok) (lm:s.recs.length≤1000) :
 Ct prog 234 #[pt d,pt k,.int .i64 (id:Int),v,u] e (de d (dx s.jb)::de k (eo s.keys 1048576)::R) (fun v' L'=>∃ g,v'=.tuple #[pt g,.int .i64 0]∧L'=nB g d k id seed log { s with dD:=fW,some:=false }::R):=by
 have hsk:=hs.keys
 have xh:=kD (l:=s.recs.map recC) (n:=36) (fun r hr=>by
  obtain ⟨y,hy,rfl⟩:=aE.1 hr;rw [jo (hs.right y hy)];exact aS _)
 rw [ab] at xh
 have Ht:∀ m∈s.recs.map recC,m.length≤65535:=fun m hm=>by
  obtain ⟨y,hy,rfl⟩:=aE.1 hm;rw [jo (hs.right y hy)]
  decide
 have EI:=nZ (s.recs.map recC) Ht;have mR:cz (de d (dx s.jb)::de k (eo s.keys 1048576)::R) R:=zE;refine a7 (cE.shape (hv.cL mR) zo) ?_;rintro ⟨⟨av,cv,rfl,-,-,-,-⟩,_⟩;refine a7 (cE.shape (hu.cL mR) zo) ?_;rintro ⟨⟨au,cu,rfl,-,-,-,-⟩,_⟩;refine a8 (args:=[_,_,_,_,_]) func234 rfl ntmps234 results234 rfl ?_;refine wB ?_;refine aZ rfl rfl (Ct.at (.succ .zero) (wI _ e k s.keys 1048576 hsk zo zo)) ?_;rintro _ _ ⟨gb,gk,rfl,rfl⟩;refine wB ?_;refine aZ rfl rfl (Ct.at (.succ (.succ (.succ .zero))) (ng _ e d s.jb (by unfold eN.jb;omega))) ?_;rintro _ _ (⟨h1,-⟩|⟨-,gj,ux,cr,ts,rfl,fy,rfl⟩)
 ·rw [show dA s.jb=dA (eV (s.recs.map recC)) from rfl,EI] at h1;cases h1
 rw [show dA s.jb=dA (eV (s.recs.map recC)) from rfl,EI] at fy ⊢
 rw [show s.jb.take (eV (s.recs.map recC)).length=s.jb from List.take_length];dsimp only at fy
 have oF:ts.length=s.recs.length:=by have:=congrArg List.length fy;rw [ab,ab] at this;exact this
 refine wB ?_;refine aZ rfl rfl (dw _ e _ seed (hv.cL zE) zo) ?_;rintro _ _ ⟨Ab,cs,rfl,rfl⟩
 (repeat (refine wA ?_;intros))
 refine aZ rfl rfl (dw _ e _ log (hu.cL zE) zo) ?_;rintro _ _ ⟨xk,cl,rfl,rfl⟩
 (repeat (refine wA ?_;intros))
 refine aZ rfl rfl (l9 _ e _ seed (hv.cL zE) JV) ?_;rintro vp _ ⟨Mp,rfl,Gd⟩;refine bn (cE.shape (Gd.cL (cG zP)) zo) ?_;rintro ⟨⟨rP,cp,rfl,-,-,-,-⟩,_⟩
 (repeat' first|refine Za ?_|refine Zb ?_|apply Zc|apply Zd|apply Ze|apply Zf|refine Zg ?_|refine Zh ?_|refine Zi ?_|refine Zj ?_|refine Zk ?_|refine Zl ?_|refine Zm ?_|refine Zn ?_|refine Zo ?_|refine Zu ?_|refine Zy ?_|refine Zz ?_|refine ZA ?_|refine ZB ?_|refine ZC (fun _=>?_) fun _=>?_|refine ZD ?_|refine ZE ?_|refine ZJ ?_|refine ZK ?_|refine ZP ?_|refine ZQ ?_|refine ZS ?_|refine ZY ?_|refine ZZ ?_|refine Z6 ?_|refine Yd ?_|refine Ye ?_|refine Yf ?_|refine Yg fun _=>?_|refine Yh fun _=>?_|refine Ym ?_|refine Yw ?_|refine Yx ?_|refine Yy ?_|refine Yz ?_|refine YA ?_|apply YB|apply YC|apply YD|apply YE|apply YF|apply YG|apply YH|apply YI|apply YJ|refine YK ?_|refine YN ?_|refine YQ ?_|refine YR ?_|(apply O.dg;exact rfl;exact zP;(first|(simp only [aC,Nat.add_zero,Nat.reduceAdd,List.drop_succ_cons,List.drop_zero,List.take_succ_cons,List.take_zero];done)|(simp only [aC,Nat.add_zero,Nat.reduceAdd,List.drop_succ_cons,List.drop_zero,List.take_succ_cons,List.take_zero];exact rfl));exact rfl;exact rfl))
 refine aZ rfl rfl (tP _ e nY [] (cE.nil _ _) (by decide)) ?_;rintro _ _ ⟨Mv,c0,rfl,rfl⟩;have tI:=jS [];have hc0:CK []=⟨0,sk []⟩:=rfl
 generalize sk []=VQ at *
 (repeat (refine wA ?_;intros))
 rename_i g0;refine bq (ι:=Nat × jc × Option Addr × Nat) (fun i=>[(16,pt g0),(67,.slice ux ts.length cr),(68,.int .i64 (ts.length:Int)),(69,.int .i64 (i.1:Int))]) (fun j=>(fun i:jc × Option Addr × Nat=>cK g0 [pt gj,pt gb,.int .i64 (id:Int),.slice Ab seed.length cs,.slice xk log.length cl,.slice rP (kM seed).length cp,.int .i64 (i.1.size:Int),.slice i.2.1 i.1.root.length i.2.2,.int .i64 0,.int .i64 0,nY,nY,.bool false] HD (0,0)::cR (.slice i.2.1 i.1.root.length i.2.2) i.1.root::cH ts::cU (.slice ux ts.length cr) ts::cR (.slice Ab seed.length cs) seed::cR (.slice xk log.length cl) log::Mp::jd gj d ts.length::de d (dx s.jb)::mf gb gk s.keys::jd gk k s.keys::de k (eo s.keys 1048576)::R) j.2) (fun i=>i.1≤ts.length∧i.2.1=CK (s.recs.take i.1)) (fun i=>ts.length - i.1) (0,⟨0,VQ⟩,Mv,c0) ⟨aH _,by rw [List.take_zero];exact hc0.symm⟩ zS zE ?_;rintro ⟨i,c,adc,kc⟩ ⟨hi,HG⟩;dsimp only at hi HG ⊢
 have Gc:c.right:=by rw [HG];exact HE (fun x hx=>hs.right x (aR hx))
 have ae2:=Gc.1;have aaC:=Gc.2
 by_cases cO:i<ts.length
 rotate_left
 ·rw [aG zo] at HG
  obtain ⟨M,hM⟩:∃ M:cJ,M=dH [cR (.slice adc c.root.length kc) c.root,cR (.slice Ab seed.length cs) seed,cR (.slice xk log.length cl) log,Mp]:=⟨_,rfl⟩
  have ho:cz [M] [cR (.slice adc c.root.length kc) c.root,cR (.slice Ab seed.length cs) seed,cR (.slice xk log.length cl) log,Mp]:=by rw [hM];exact cT (M:=[_,_,_,_]) (L:=[])
  have Sf:eN.c { s with dD:=fW,some:=false }=c:=HG.symm
  have j0:nA.ok ⟨gj,gb,gk,.slice Ab seed.length cs,.slice xk log.length cl,.slice rP (kM seed).length cp,.slice adc c.root.length kc,nY,nY⟩ M seed log { s with dD:=fW,some:=false } :=
   ⟨(bb zP).cL ho,(bb zP).cL ho,by rw [Sf];exact (bb .zero).cL ho,CL _,⟨hs.right,hs.At,hs.pos,hs.keys,re⟩,JV,F7⟩
  refine wB ?_;refine aY (nB g0 d k id seed log { s with dD:=fW,some:=false }::R) rfl (cj ?_ (vF j0)) ⟨g0,rfl,rfl⟩;dsimp only [iI,nA.cells];rw [Sf,hM,← oF];exact cj (rf (A:=cR (.slice adc c.root.length kc) c.root) (B:=cR (.slice Ab seed.length cs) seed) (C:=cR (.slice xk log.length cl) log) (D:=Mp) zP zP zP zP) zE
 have pc:i<s.recs.length:=by omega
 have ju:(ts[i]'cO).2=recC (s.recs[i]'pc):=by
  have:=congrArg (fun l=>l[i]?) fy;simp only [aL,ae cO,ae pc,Option.map_some,Option.some.injEq] at this
  exact this
 have ft:s.recs.take (i+1)=s.recs.take i++[s.recs[i]'pc]:=aD pc;have Kt:=hs.right _ (az pc);have Oc:=hs.pos _ (az pc)
 have Ca:c.size<(s.recs[i]'pc).size:=by
  rw [HG];refine Pe ?_ Oc;rw [← ft];exact hs.At.sublist ((List.take_sublist _ _).map _)
 have hcn:CK (s.recs.take (i+1))=s.recs[i]'pc:=by rw [ft,KE]
 refine W.cB ((bb (show cQ _ (cU (.slice ux ts.length cr) ts) _ from zP)).shape zo) ?_;rintro ⟨⟨lL,c',lV,wG,IU,Ap,uW⟩,_⟩
 cases lV
 simp only [maxLen] at IU
 rcases uW with uW|⟨gr,or',rfl⟩
 ·omega
 have jx:∀ L R',cQ L (cU (.slice (some ⟨gr,or',none⟩) ts.length cr) ts) R'→Rd L ⟨gr,or'+i,none⟩ (ts[i]'cO).1:=fun L R' p=>(bb p).elem (by rw [aL,ae cO];rfl)
 have si:∀ L R',cQ L (cH ts) R'→db L (ts[i]'cO).1 (ts[i]'cO).2:=fun L R' p=>dP.dY p _ (az cO)
 generalize s.recs[i]'pc=n at *
 generalize ts[i]'cO=y at *
 obtain ⟨yv,b⟩:=y;dsimp only at jx si ju
 subst ju;have AU:=Kt.1;have F6:=Kt.2;have oP:(recC n).length=36:=jo Kt;have G9:recC n=be n.size 4++(n.root++[]):=by simp [recC]
 refine W.cB (cn (si _ _ zP)) fun oy=>?_
 refine wB ?_;refine bV rfl (jx _ _ zP) rfl ?_;refine wB ?_;refine aZ rfl rfl (jw _ e yv (recC n) (si _ _ zP) zo) ?_;rintro _ _ ⟨gr2,rfl,rfl⟩;rw [G9];refine wB ?_;refine aZ rfl rfl (tE _ e gr2 n.size _ zo) ?_;rintro _ _ ⟨rfl,rfl⟩;refine wB ?_;have aaO:=fun L:List cJ=>x8 L e gr2 32 n.root [] F6 (by rw [aK];omega)
 refine aZ rfl rfl (aaO _) ?_;rintro _ _ ⟨adn,kn,rfl,rfl⟩
 (repeat (refine wA ?_;intros))
 refine bz (id:=15) [] mixed ?_
 (refine tM 0 ?_)
 refine tO 1 ?_;refine bg rfl rfl (Ct.at zP (x9 _ e gr2 [])) ?_;rintro _ _ ⟨rfl,rfl⟩;refine ⟨fun _=>zE,A.fR zE ?_⟩;rw [ay rfl]
 (refine tk 2 _ rfl (cD.jY rfl) ?_;refine tM 3 ?_;refine dt 4 _ rfl (cD.dy rfl zA zX) ?_)
 refine A.ru 5 rfl rfl zK ?_;refine bg rfl rfl (gI _ e (.slice adn n.root.length kn) n (bb zP)) ?_;rintro _ _ ⟨rfl,rfl⟩;refine ⟨fun _=>zE,A.fR zE ?_⟩;rw [ay Kt]
 (refine dt 6 _ rfl (cD.jY rfl) ?_;refine tk 7 _ rfl (bI rfl rfl) ?_;refine tM 8 ?_;refine dt 9 _ rfl (ba rfl) ?_;refine dt 10 _ rfl (bp rfl zR) ?_;refine dt 11 _ rfl (bu rfl) ?_;refine dt 12 _ rfl (bm rfl) ?_;refine dt 13 _ rfl (ba rfl) ?_;refine dt 14 _ rfl (ba rfl) ?_;refine dt 15 _ rfl (bp rfl zR) ?_;refine dt 16 (.bool false) rfl (cD.no (cD.leq rfl rfl) zn) ?_;refine tk 17 _ rfl (bI rfl rfl) ?_)
 refine bf zK ?_;refine wB ?_;refine bi (i+1,n,adn,kn) ⟨cO,hcn.symm⟩ zd zS zE
end Go.Proofs
namespace Go.Proofs
structure AE where
 jD:Nat
 ord:Nat
 il:Nat
 deriving DecidableEq
def kb:AE:=⟨0,0,0⟩
def AE.lt (a b:AE):Bool:=decide (a.jD<b.jD∨(a.jD=b.jD∧a.ord<b.ord))
def AE.fits (a:AE):Prop:=a.jD≤1000000000∧a.ord≤1000000000∧a.il≤1000000000
def gL (l:List AE) (i j:Nat):List AE:=(l.set i (l.getD j kb)).set j (l.getD i kb)
theorem dG (l:List AE) (i j:Nat):(gL l i j).length=l.length:=by simp [gL]
def Oi:Nat→List AE→Nat→List AE
 | 0,l,_=>l
 | n+1,l,j=>if j=0 then l else if (l.getD j kb).lt (l.getD ((j - 1) / 2) kb) then Oi n (gL l ((j - 1) / 2) j) ((j - 1) / 2) else l
def y8 (l:List AE) (i n:Nat):Nat:=if 2*i+2<n∧(l.getD (2*i+2) kb).lt (l.getD (2*i+1) kb)=true then 2*i+2 else 2*i+1
def lH:Nat→List AE→Nat→Nat→List AE
 | 0,l,_,_=>l
 | f+1,l,i,n=>if n≤2*i+1 then l else if (l.getD (y8 l i n) kb).lt (l.getD i kb) then lH f (gL l i (y8 l i n)) (y8 l i n) n else l
def uA:Nat→List AE→List AE
 | 0,l=>l
 | k+1,l=>uA k (lH l.length l k l.length)
def pJ (l:List AE) (a:AE):List AE:=Oi l.length (l++[a]) l.length
def pT (l:List AE):List AE:=(lH (l.length - 1) (gL l 0 (l.length - 1)) 0 (l.length - 1)).take (l.length - 1)
def gM (l:List AE) (w:Nat):List AE:=uA ((l.filter fun a=>decide (a.il≠w)).length / 2) (l.filter fun a=>decide (a.il≠w))
theorem M5 {α:Type} [DecidableEq α]:∀ (l:List α) (i j:Nat) (hi:i<l.length) (hj:j<l.length),((l.set i l[j]).set j l[i]).Perm l:=fun l i j hi hj=>by
 rw [List.perm_iff_count];intro a
 by_cases h:i=j
 ·subst h;simp
 ·rw [List.count_set (by simpa using hj),List.count_set hi];have h1:(l.set i l[j])[j]'(by simpa using hj)=l[j]:=by simp [List.getElem_set,h]
  rw [h1];have c1:0<List.count l[i] l:=List.count_pos_iff.2 (az hi);have c2:0<List.count l[j] l:=List.count_pos_iff.2 (az hj)
  by_cases e1:l[i]=a
  ·by_cases e2:l[j]=a
   ·simp only [e1,e2,beq_self_eq_true,if_true] at c1 c2 ⊢;omega
   ·have e2':(l[j] == a)=false:=by simpa using e2
    simp only [e1,e2',beq_self_eq_true,if_true,Bool.false_eq_true,if_false] at c1 c2 ⊢;omega
  ·have e1':(l[i] == a)=false:=by simpa using e1
   by_cases e2:l[j]=a
   ·simp only [e1',e2,beq_self_eq_true,if_true,Bool.false_eq_true,if_false] at c1 c2 ⊢;omega
   ·have e2':(l[j] == a)=false:=by simpa using e2
    simp only [e1',e2',Bool.false_eq_true,if_false] at c1 c2 ⊢;omega
theorem k8 {l:List AE} {i j:Nat} (hi:i<l.length) (hj:j<l.length):(gL l i j).Perm l:=by
 have h1:l.getD j kb=l[j]:=by simp [List.getD,hj]
 have h2:l.getD i kb=l[i]:=by simp [List.getD,hi]
 unfold gL;rw [h1,h2];exact M5 l i j hi hj
theorem E2:∀ (n:Nat) (l:List AE) (j:Nat),j<l.length→(Oi n l j).Perm l
 | 0,_,_,_=>List.Perm.refl _
 | n+1,l,j,h=>by
  unfold Oi
  split
  ·exact List.Perm.refl _
  ·split
   ·exact (E2 n _ _ (by rw [dG];omega)).trans (k8 (by omega) h)
   ·exact List.Perm.refl _
theorem CM {l:List AE} {i n:Nat} (h:2*i+1<n):y8 l i n<n∧i<y8 l i n:=by
 unfold y8
 split<;>omega
theorem mV:∀ (f:Nat) (l:List AE) (i n:Nat),i<l.length→n≤l.length→(lH f l i n).Perm l
 | 0,_,_,_,_,_=>List.Perm.refl _
 | f+1,l,i,n,h,hn=>by
  unfold lH
  split
  ·exact List.Perm.refl _
  ·rename_i h1;obtain ⟨h2,h3⟩:=CM (l:=l) (i:=i) (n:=n) (by omega)
   split
   ·exact (mV f _ _ _ (by rw [dG];omega) (by rw [dG];exact hn)).trans (k8 h (by omega))
   ·exact List.Perm.refl _
theorem sE:∀ (k:Nat) (l:List AE),k≤l.length→(uA k l).Perm l
 | 0,_,_=>List.Perm.refl _
 | k+1,l,h=>by
  unfold uA;have h1:=mV l.length l k l.length (by omega) (aS _);exact (sE k _ (by rw [h1.length_eq];omega)).trans h1
theorem y9 (l:List AE) (a:AE):(pJ l a).Perm (l++[a]):=E2 _ _ _ (by simp)
theorem jz (l:List AE) (w:Nat):(gM l w).Perm (l.filter fun a=>decide (a.il≠w)):=sE _ _ (by omega)
theorem za:∀ (f:Nat) (l:List AE) (i n k:Nat),i<l.length→n≤l.length→i<n∨n≤2*i+1→n≤k→(lH f l i n).getD k kb=l.getD k kb
 | 0,_,_,_,_,_,_,_,_=>rfl
 | f+1,l,i,n,k,h,hn,hi,hk=>by
  unfold lH
  split
  ·rfl
  ·rename_i h1;obtain ⟨h2,h3⟩:=CM (l:=l) (i:=i) (n:=n) (by omega)
   split
   ·rw [za f _ _ _ k (by rw [dG];omega) (by rw [dG];exact hn) (.inl h2) hk];unfold gL;rw [aA,List.getElem?_set_ne (by omega),List.getElem?_set_ne (by omega),← aA]
   ·rfl
theorem vG {l:List AE} (h:l≠[]):(l.getD 0 kb::pT l).Perm l:=by
 have hl:0<l.length:=List.length_pos_iff.2 h;have h1:=k8 (l:=l) (i:=0) (j:=l.length - 1) hl (by omega);have h2:=mV (l.length - 1) (gL l 0 (l.length - 1)) 0 (l.length - 1) (by rw [dG];exact hl) (by rw [dG];omega);have h3:=za (l.length - 1) (gL l 0 (l.length - 1)) 0 (l.length - 1) (l.length - 1) (by rw [dG];exact hl) (by rw [dG];omega) (by omega) (aS _)
 have h4:(gL l 0 (l.length - 1)).getD (l.length - 1) kb=l.getD 0 kb:=by
  unfold gL;rw [aA,List.getElem?_set_self (by simp;omega)]
  rfl
 have hlen:=(h2.trans h1).length_eq
 generalize hD:lH (l.length - 1) (gL l 0 (l.length - 1)) 0 (l.length - 1)=D at *
 have h5:D=D.take (l.length - 1)++[D.getD (l.length - 1) kb]:=by
  conv=>lhs;rw [← List.take_append_drop (l.length - 1) D]
  congr 1
  have hd:l.length - 1<D.length:=by omega
  rw [List.drop_eq_getElem_cons hd,List.drop_eq_nil_of_le (by omega)]
  simp [List.getD,hd]
 rw [h3,h4] at h5
 have h6:=h2.trans h1;rw [h5] at h6
 unfold pT;rw [hD];exact (List.perm_append_comm (l₁:=[l.getD 0 kb]) (l₂:=D.take (l.length - 1))).trans h6
theorem E3 {l:List AE} (h:l≠[]):(pT l).length+1=l.length:=by have:=(vG h).length_eq;simpa using this
end Go.Proofs
namespace Go.Proofs
open Go.Bs
structure wQ where
 fi:dv
 idx:Nat
 size:Nat
 path:List dv
 kO:j6
 eH:List kN
def aaQ:wQ:=⟨[],0,0,[],⟨⟨0,[]⟩,⟨0,[],[]⟩⟩,[]⟩
structure wQ.wf (b:wQ):Prop where
 fi:b.fi.length≤65535
 idx:b.idx≤256
 size:b.size≤256
 DD:b.path.length≤16
 jN:∀ a∈b.path,a.length=32
 dc:b.kO.dc.right
 sig:b.kO.sig.right
 fE:b.eH.length≤255
 ew:∀ g∈b.eH,g.fY<4
 sigs:∀ g∈b.eH,g.sig.right
def lI (gs:List kN):dv:=(gs.map eU).flatten
def fS (b:wQ):dv:=enc b.fi++(be b.idx 4++(be b.size 4++(UInt8.ofNat b.path.length::(b.path.flatten++(hO b.kO++(UInt8.ofNat b.eH.length::lI b.eH))))))
def pi (idx size:Nat) (path:List dv) (leaf root:dv):Prop:=(path.length≤16∧∀ a∈path,a.length=32)∧leaf.length=32∧idx<size∧path.length=jk size idx∧lC size idx path leaf=root
instance (idx size:Nat) (path:List dv) (leaf root:dv):Decidable (pi idx size path leaf root):=by unfold pi;infer_instance
theorem HH {idx size:Nat} {ts:List ej} {leaf root:dv}:(ql (idx:Int) (size:Int) ts leaf∧qm (idx:Int) (size:Int) ts leaf=root)↔pi idx size (ts.map (·.2)) leaf root:=by
 unfold ql pi qm jG;rw [decide_eq_true_iff,ab];have h1:(∀ a∈ts,a.2.length=32)↔∀ a∈ts.map (·.2),a.length=32:=⟨fun h a ha=>by obtain ⟨x,hx,rfl⟩:=aE.1 ha;exact h x hx,fun h a ha=>h _ (aE.2 ⟨a,ha,rfl⟩)⟩
 rw [h1];simp only [Int.toNat_natCast]
 constructor
 ·rintro ⟨⟨a,b,c,d,e⟩,f⟩;exact ⟨a,b,by omega,e,f⟩
 ·rintro ⟨a,b,c,e,f⟩;exact ⟨⟨a,b,by omega,by omega,e⟩,f⟩
def lQ (p:jH) (b:wQ):Int:=if ¬ ji b.fi then 12 else if ¬ b.kO.ii p.log then 30 else if ¬ (b.size=b.kO.dc.size∧pi b.idx b.size b.path (cY b.fi) b.kO.dc.root) then 31 else if ¬ uf p b.kO.dc b.eH then 33 else 0
abbrev sF (b:wQ) (vm vp vr va vq vc:Value):List Value:=[vm,.int .i64 (b.idx:Int),.int .i64 (b.size:Int),vp,.int .i64 (b.kO.dc.size:Int),vr,.int .i64 (b.kO.sig.idx:Int),va,vq,vc]
structure rQ (L:List cJ) (vm vp vr va vq vc:Value) (b:wQ):Prop where
 fi:db L vm b.fi
 path:mL L vp b.path
 kO:fj L vr va vq b.kO
 gs:oW L vc b.eH
theorem rQ.cL {L L':List cJ} {vm vp vr va vq vc:Value} {b:wQ} (h:rQ L' vm vp vr va vq vc b) (f:cz L L'):rQ L vm vp vr va vq vc b:=⟨h.fi.cL f,h.path.cL f,h.kO.cL f,h.gs.cL f⟩
theorem jl.ok.cL {L L':List cJ} {t:jl} (h:jl.ok L' t) (f:cz L L'):jl.ok L t:=⟨h.rd.cL f,h.small⟩
theorem fc {l:List dv} {n:Nat} (h:∀ a∈l,a.length=n):l.flatten.length=l.length*n:=by
 induction l with
 | nil=>simp
 | cons x l ih =>
  rw [List.flatten_cons,aa,h x (List.mem_cons_self ..),ih (fun a ha=>h a (aT _ ha)),aN,Nat.add_mul];omega
theorem rh {gs:List kN} (h:∀ g∈gs,g.sig.right):(lI gs).length=gs.length*2181:=by
 unfold lI;rw [fc (n:=2181) (fun a ha=>by obtain ⟨g,hg,rfl⟩:=aE.1 ha;exact ln (h g hg)),ab]
theorem pj {b:wQ} (h:b.wf):(fS b).length≤1000000:=by
 have h1:=h.fi;have h2:=h.DD;have h3:=h.fE;unfold fS;simp only [aa,aN,cX,fc h.jN,iN h.dc h.sig,rh h.sigs,enc]
 omega
structure FW where
 size:Nat
 tries:Nat
 kept:Bool
structure cP where
 ag:List AE
 ord:Nat
 st:List FW
 cur:Option j6
 kept:List kN
 done:j6
 dk:List kN
def vH:j6:=⟨⟨0,[]⟩,⟨0,[],[]⟩⟩
def lq:FW:=⟨0,0,false⟩
def cP.dT (s:cP):j6:=s.cur.getD vH
def Au (k:Nat):cP:=⟨[],0,List.replicate k lq,none,[],vH,[]⟩
def j6.fits (x:j6):Prop:=x.dc.right∧x.sig.right
structure cP.ok (s:cP) (k n:Nat):Prop where
 len:s.st.length=k
 fits:∀ a∈s.ag,a.fits∧a.il<k
 CN:(s.ag.map (·.il)).Nodup
 ord:s.ord≤n
 tries:∀ x∈s.st,x.tries≤n
 kQ:∀ x∈s.st,x.size≤s.dT.dc.size
 cur:∀ x,s.cur=some x→x.fits
 kept:∀ g∈s.kept,g.fY<k∧g.sig.right∧(s.st.getD g.fY lq).kept=true
 zc:(s.kept.map (·.fY)).Nodup
 done:s.dk≠[]→s.done.fits
 M6:s.done.sig.fits
 dk:∀ g∈s.dk,g.fY<k∧g.sig.right
 CO:(s.dk.map (·.fY)).Nodup
def cP.Pf (s:cP) (t w:Nat):cP:={ s with ag:=pJ (gM s.ag w) ⟨t,s.ord,w⟩,ord:=s.ord+1 }
def FW.off (x:FW):FW:={ x with tries:=0,kept:=false }
def cP.So (s:cP) (now w:Nat):cP:=cP.Pf { s with st:=s.st.set w (s.st.getD w lq).off } now w
def cP.lR (now:Nat):Nat→cP→cP
 | 0,s=>s
 | n+1,s=>(s.lR now n).So now n
def cP.E4 (p:jH) (s:cP) (x:j6):Prop:=x.ii p.log∧∀ c,s.cur=some c→¬ x.dc.size≤c.dc.size
instance (p:jH) (s:cP) (x:j6):Decidable (s.E4 p x):=by
 unfold cP.E4
 cases s.cur with
 | none=>exact decidable_of_iff (x.ii p.log) ⟨fun h=>⟨h,fun c hc=>by cases hc⟩,fun h=>h.1⟩
 | some c=>exact decidable_of_iff (x.ii p.log∧¬ x.dc.size≤c.dc.size) ⟨fun h=>⟨h.1,fun d hd=>by cases hd;exact h.2⟩,fun h=>⟨h.1,h.2 c rfl⟩⟩
def cP.ie (p:jH) (s:cP) (x:j6) (now:Nat):cP:=if s.E4 p x then cP.lR now s.st.length { s with cur:=some x,kept:=[] } else s
def nC (now:Nat):Nat→List AE→List Nat × List AE
 | 0,l=>([],l)
 | n+1,l=>if 0<l.length∧(l.getD 0 kb).jD≤now then ((l.getD 0 kb).il::(nC now n (pT l)).1,(nC now n (pT l)).2) else ([],l)
def cP.la (s:cP) (now:Nat):List (Nat × Nat):=(nC now s.ag.length s.ag).1.map fun w=>(w,(s.st.getD w lq).size)
def cP.ze (retry now:Nat) (s:cP) (w:Nat):cP :=
 let s2:=s.Pf (now+retry*2 ^ min (s.st.getD w lq).tries 3) w
 {s2 with st:=s2.st.set w { s2.st.getD w lq with tries:=(s2.st.getD w lq).tries+1 } }
def cP.iq (retry now:Nat):List (Nat × Nat)→cP→cP
 | [],s=>s
 | r::l,s=>iq retry now l (s.ze retry now r.1)
def cP.kH (retry:Nat) (s:cP) (now:Nat):cP:=cP.iq retry now (s.la now) { s with ag:=(nC now s.ag.length s.ag).2 }
def cP.gU (s:cP) (w:Nat) (g:kN):cP:={ s with kept:=s.kept++[g],st:=s.st.set w { s.st.getD w lq with size:=s.dT.dc.size,kept:=true },ag:=gM s.ag w }
def cP.gC (p:jH) (s:cP) (w:Nat) (g:kN):cP:=if p.ey≤(s.kept++[g]).length then { s.gU w g with done:=s.dT,dk:=s.kept++[g] } else s.gU w g
def cP.rR (s:cP) (w:Nat):Prop:=s.cur.isSome=true∧w<s.st.length∧(s.st.getD w lq).kept=false
instance (s:cP) (w:Nat):Decidable (s.rR w):=by unfold cP.rR;infer_instance
def cP.wR (p:jH) (s:cP) (w:Nat) (g:kN):Prop:=g.fY=w∧g.ii p s.dT.dc
instance (p:jH) (s:cP) (w:Nat) (g:kN):Decidable (s.wR p w g):=by unfold cP.wR;infer_instance
def cP.turns (s:cP) (w size:Nat):Prop:=size≤s.dT.dc.size∧size≠(s.st.getD w lq).size
instance (s:cP) (w size:Nat):Decidable (s.turns w size):=by unfold cP.turns;infer_instance
def cP.Av (s:cP) (w size now:Nat):cP:=cP.Pf { s with st:=s.st.set w { s.st.getD w lq with size:=size } } now w
def cP.Aw (p:jH) (s:cP) (w:Nat) (g:kN) (size:Nat):Bool:=decide (s.rR w∧(s.wR p w g∨s.turns w size))
def cP.oc (p:jH) (s:cP) (w:Nat) (g:kN) (size now:Nat):cP:=if ¬ s.rR w then s else if s.wR p w g then s.gC p w g else if s.turns w size then s.Av w size now else s
theorem Pg {l:List AE} {t o w k:Nat} (h:∀ a∈l,a.fits∧a.il<k) (ht:t≤1000000000) (ho:o≤1000000000) (hw:w<k) (hk:k≤1000):∀ a∈pJ (gM l w) ⟨t,o,w⟩,a.fits∧a.il<k:=fun a ha=>by
 have h1:=(y9 (gM l w) ⟨t,o,w⟩).mem_iff.1 ha;rcases aJ.1 h1 with h1|h1
 ·exact h a (List.mem_filter.1 ((jz l w).mem_iff.1 h1)).1
 ·rw [an.1 h1];exact ⟨⟨ht,ho,by show w≤_;omega⟩,hw⟩
theorem KF {l:List AE} {w k:Nat} (h:∀ a∈l,a.fits∧a.il<k):∀ a∈gM l w,a.fits∧a.il<k:=fun a ha=>h a (List.mem_filter.1 ((jz l w).mem_iff.1 ha)).1
theorem HI {l:List AE} {w:Nat}:(gM l w).length≤l.length:=by rw [(jz l w).length_eq];exact List.length_filter_le _ _
theorem oe:∀ (k:Nat) (l:List Nat),l.Nodup→(∀ x∈l,x<k)→l.length≤k
 | 0,l,_,h=>by
  cases l with
  | nil=>simp
  | cons a l=>exact absurd (h a (List.mem_cons_self ..)) (Nat.not_lt_zero a)
 | k+1,l,hn,h=>by
  have h1:=oe k (l.filter fun x=>decide (x≠k)) (hn.filter _) (fun x hx=>by
   obtain ⟨h2,h3⟩:=List.mem_filter.1 hx;have:=h x h2;have:=of_decide_eq_true h3
   omega)
  have h2:l.length=(l.filter fun x=>decide (x≠k)).length+(l.filter fun x=>!decide (x≠k)).length:=by
   rw [← aa,(List.filter_append_perm _ l).length_eq]
  have h3:(l.filter fun x=>!decide (x≠k)).length≤1:=by
   have h4:∀ y∈l.filter (fun x=>!decide (x≠k)),y=k:=fun y hy=>by
    have:=(List.mem_filter.1 hy).2
    simpa using this
   have h5:=hn.filter fun x=>!decide (x≠k)
   cases hq:l.filter (fun x=>!decide (x≠k)) with
   | nil=>simp
   | cons a q =>
    cases q with
    | nil=>simp
    | cons b q =>
     rw [hq] at h4 h5
     have e1:=h4 a (List.mem_cons_self ..);have e2:=h4 b (aT _ (List.mem_cons_self ..));rw [e1,e2] at h5
     simp at h5
  omega
theorem cP.ok.BG {s:cP} {k n:Nat} (h:s.ok k n):s.ag.length≤k:=by
 have:=oe k (s.ag.map (·.il)) h.CN (fun x hx=>by obtain ⟨a,ha,rfl⟩:=aE.1 hx;exact (h.fits a ha).2)
 rwa [ab] at this
theorem cP.ok.DD {s:cP} {k n:Nat} (h:s.ok k n):s.kept.length≤k:=by
 have:=oe k (s.kept.map (·.fY)) h.zc (fun x hx=>by obtain ⟨a,ha,rfl⟩:=aE.1 hx;exact (h.kept a ha).1)
 rwa [ab] at this
theorem cP.ok.KG {s:cP} {k n:Nat} (h:s.ok k n):s.dk.length≤k:=by
 have:=oe k (s.dk.map (·.fY)) h.CO (fun x hx=>by obtain ⟨a,ha,rfl⟩:=aE.1 hx;exact (h.dk a ha).1)
 rwa [ab] at this
theorem cP.ok.mono {s:cP} {k n m:Nat} (h:s.ok k n) (hm:n≤m):s.ok k m:={ h with ord:=Nat.le_trans h.ord hm,tries:=fun x hx=>Nat.le_trans (h.tries x hx) hm }
theorem CP (k:Nat):(Au k).ok k 0 where
 len:=List.length_replicate
 fits:=fun a ha=>absurd ha aP
 CN:=List.nodup_nil
 ord:=aS _
 tries:=fun x hx=>by have:=(List.mem_replicate.1 hx).2;subst this;exact aS _
 kQ:=fun x hx=>by have:=(List.mem_replicate.1 hx).2;subst this;exact aH _
 cur:=fun x hx=>nomatch hx
 kept:=fun g hg=>absurd hg aP
 zc:=List.nodup_nil
 done:=fun h=>absurd rfl h
 M6:=⟨fun x hx=>absurd hx aP,fun x hx=>absurd hx aP⟩
 dk:=fun g hg=>absurd hg aP
 CO:=List.nodup_nil
theorem wS {l:List AE} {w:Nat} (h:(l.map (·.il)).Nodup):((gM l w).map (·.il)).Nodup:=by
 rw [((jz l w).map _).nodup_iff];exact h.sublist (List.filter_sublist.map _)
theorem KH {l:List AE} {t o w:Nat} (h:(l.map (·.il)).Nodup):((pJ (gM l w) ⟨t,o,w⟩).map (·.il)).Nodup:=by
 rw [((y9 _ _).map _).nodup_iff,ah];refine List.nodup_append.2 ⟨wS h,by simp,fun a ha b hb=>?_⟩;rw [List.map_cons,List.map_nil,an] at hb
 subst hb;obtain ⟨x,hx,rfl⟩:=aE.1 ha;exact of_decide_eq_true (List.mem_filter.1 ((jz l _).mem_iff.1 hx)).2
theorem cP.CQ {s:cP} {k n t w:Nat} (h:s.ok k n) (ht:t≤1000000000) (hw:w<k) (hk:k≤1000) (hn:n≤1000000):(s.Pf t w).ok k (n+1) :=
 {h.mono (Nat.le_succ n) with
  fits:=Pg h.fits ht (by have:=h.ord;omega) hw hk
  CN:=KH h.CN
  ord:=by have:=h.ord;show s.ord+1≤n+1;omega }
theorem qB {l:List FW} {w:Nat} (h:w<l.length):l.getD w lq∈l:=by
 have:l.getD w lq=l[w]:=by simp [List.getD,h]
 rw [this];exact az h
theorem qC {l:List FW} {w:Nat} {x:FW} {P:FW→Prop} (h:∀ y∈l,P y) (hx:P x):∀ y∈l.set w x,P y:=fun y hy=>by
 rcases List.mem_or_eq_of_mem_set hy with hy|rfl
 ·exact h y hy
 ·exact hx
theorem HJ {l:List FW} {w:Nat} {x:FW} (h:w<l.length) (v:Nat):(l.set w x).getD v lq=if v=w then x else l.getD v lq:=by
 rw [aA,List.getElem?_set]
 by_cases e:v=w
 ·subst e;rw [aI rfl,aI rfl,aI h];rfl
 ·rw [aB (fun q=>e q.symm),aB e,aA]
theorem cP.Ph {s:cP} {k n now w:Nat} (h:s.ok k n) (Pj:s.kept=[]) (ht:now≤1000000000) (hw:w<k) (hk:k≤1000) (hn:n≤1000000):(s.So now w).ok k (n+1):=by
 have hl:w<s.st.length:=by rw [h.len];exact hw
 refine cP.CQ (s:={ s with st:=s.st.set w (s.st.getD w lq).off }) ?_ ht hw hk hn
 exact { h with
  len:=by show (s.st.set w _).length=k;rw [List.length_set];exact h.len
  tries:=qC h.tries (aH _)
  kQ:=qC h.kQ (show (s.st.getD w lq).size≤_ from h.kQ (s.st.getD w lq) (qB hl))
  kept:=fun g hg=>by rw [show cP.kept { s with st:=s.st.set w (s.st.getD w lq).off }=[] from Pj] at hg;cases hg }
theorem cP.CR {now k:Nat} (hk:k≤1000) (ht:now≤1000000000):∀ (m:Nat) {s:cP} {n:Nat},s.ok k n→s.kept=[]→m≤k→n+m≤1000000→(cP.lR now m s).ok k (n+m)∧(cP.lR now m s).kept=[]∧(cP.lR now m s).st.length=s.st.length∧(cP.lR now m s).cur=s.cur
 | 0,s,n,h,Pj,_,_=>⟨h,Pj,rfl,rfl⟩
 | m+1,s,n,h,Pj,hm,hn=>by
  obtain ⟨h1,h2,h3,h4⟩:=cP.CR hk ht m h Pj zo zo;have e1:n+m≤1000000:=by omega
  exact ⟨cP.Ph h1 h2 ht zo hk e1,h2,by show (List.set _ _ _).length=_;rw [List.length_set];exact h3,h4⟩
theorem cP.IW {s:cP} {k n:Nat} {p:jH} {x:j6} (h:s.ok k n) (hx:x.fits) (hb:s.E4 p x):cP.ok { s with cur:=some x,kept:=[] } k n :=
 {h with
  kQ:=fun y hy=>by
   have h1:=h.kQ y hy
   show y.size≤x.dc.size
   cases hc:s.cur with
   | none=>rw [show s.dT=vH by unfold cP.dT;rw [hc];rfl] at h1;exact Nat.le_trans h1 (aH _)
   | some c =>
    rw [show s.dT=c by unfold cP.dT;rw [hc];rfl] at h1
    have:=hb.2 c hc
    omega
  cur:=fun y hy=>by cases hy;exact hx
  kept:=fun g hg=>by cases hg
  zc:=List.nodup_nil }
theorem cP.xE {s:cP} {k n now:Nat} {p:jH} {x:j6} (h:s.ok k n) (hx:x.fits) (ht:now≤1000000000) (hk:k≤1000) (hn:n+k≤1000000):(s.ie p x now).ok k (n+k):=by
 unfold cP.ie
 split
 ·rename_i hb;rw [h.len];exact (cP.CR hk ht k (cP.IW h hx hb) rfl (aS _) hn).1
 ·exact h.mono zo
theorem ri (now:Nat):∀ (m:Nat) (l:List AE),((nC now m l).1++(nC now m l).2.map (·.il)).Perm (l.map (·.il))∧∀ a∈(nC now m l).2,a∈l
 | 0,l=>⟨List.Perm.refl _,fun a ha=>ha⟩
 | m+1,l=>by
  unfold nC
  split
  ·rename_i h;have oE:l≠[]:=fun q=>by rw [q] at h;simp at h
   obtain ⟨h1,h2⟩:=ri now m (pT l);have h3:=vG oE;refine ⟨?_,fun a ha=>h3.mem_iff.1 (aT _ (h2 a ha))⟩;refine List.Perm.trans (List.Perm.cons _ h1) ?_;exact h3.map (·.il)
  ·exact ⟨List.Perm.refl _,fun a ha=>ha⟩
theorem cP.M7 {s:cP} {k n now:Nat} (h:s.ok k n):cP.ok { s with ag:=(nC now s.ag.length s.ag).2 } k n∧(∀ r∈s.la now,r.1<k∧r.2≤s.dT.dc.size)∧(s.la now).length≤k:=by
 obtain ⟨h1,h2⟩:=ri now s.ag.length s.ag;have hu:=h1.nodup_iff.2 h.CN
 have hm:∀ w∈(nC now s.ag.length s.ag).1,w<k:=fun w hw=>by
  have:=h1.mem_iff.1 (List.mem_append_left _ hw);obtain ⟨a,ha,rfl⟩:=aE.1 this;exact (h.fits a ha).2
 refine ⟨{ h with fits:=fun a ha=>h.fits a (h2 a ha),CN:=(List.nodup_append.1 hu).2.1 },fun r hr=>?_,?_⟩
 ·obtain ⟨w,hw,rfl⟩:=aE.1 hr;exact ⟨hm w hw,h.kQ _ (qB (by rw [h.len];exact hm w hw))⟩
 ·unfold cP.la;rw [ab];exact oe k _ (List.nodup_append.1 hu).1 hm
theorem CS {n:Nat}:2 ^ min n 3≤8:=by
 have:min n 3≤3:=Nat.min_le_right _ _
 calc 2 ^ min n 3≤2 ^ 3:=Nat.pow_le_pow_right zo this
  _=8:=rfl
theorem cP.M8 {s:cP} {k n retry now w:Nat} (h:s.ok k n) (hr:retry≤100) (ht:now≤10000000) (hw:w<k) (hk:k≤1000) (hn:n≤1000000):(s.ze retry now w).ok k (n+1)∧(s.ze retry now w).dT=s.dT:=by
 have hp:retry*2 ^ min (s.st.getD w lq).tries 3≤800:=by
  have:=Nat.mul_le_mul hr (CS (n:=(s.st.getD w lq).tries));omega
 have h2:=cP.CQ (t:=now+retry*2 ^ min (s.st.getD w lq).tries 3) h zo hw hk hn;have hl:w<s.st.length:=by rw [h.len];exact hw
 refine ⟨?_,rfl⟩
 exact { h2 with
  len:=by show (s.st.set w _).length=k;rw [List.length_set];exact h.len
  tries:=qC h2.tries (by have:=h.tries _ (qB hl);show (s.st.getD w lq).tries+1≤n+1;omega)
  kQ:=qC h2.kQ (show (s.st.getD w lq).size≤_ from h.kQ (s.st.getD w lq) (qB hl))
  kept:=fun g hg=>by
   obtain ⟨h3,h4,h5⟩:=h.kept g hg;refine ⟨h3,h4,?_⟩
   show ((s.st.set w _).getD g.fY lq).kept=true
   rw [HJ hl]
   split
   ·rename_i e;rw [e] at h5;exact h5
   ·exact h5 }
theorem cP.zf {k retry now:Nat} (hr:retry≤100) (ht:now≤10000000) (hk:k≤1000):∀ (l:List (Nat × Nat)) {s:cP} {n:Nat},s.ok k n→(∀ r∈l,r.1<k)→n+l.length≤1000000→(cP.iq retry now l s).ok k (n+l.length)∧(cP.iq retry now l s).dT=s.dT
 | [],s,n,h,_,_=>⟨h,rfl⟩
 | r::l,s,n,h,hl,hn=>by
  rw [aN] at hn
  obtain ⟨h1,h2⟩:=cP.M8 (w:=r.1) h hr ht (hl r (List.mem_cons_self ..)) hk zo;obtain ⟨h3,h4⟩:=cP.zf hr ht hk l h1 (fun x hx=>hl x (aT _ hx)) zo;exact ⟨h3.mono (by rw [aN];omega),h4.trans h2⟩
theorem cP.M9 {s:cP} {k n retry now:Nat} (h:s.ok k n) (hr:retry≤100) (ht:now≤10000000) (hk:k≤1000) (hn:n+k≤1000000):(s.kH retry now).ok k (n+k):=by
 obtain ⟨h1,h2,h3⟩:=cP.M7 (now:=now) h;exact (cP.zf hr ht hk (s.la now) h1 (fun r hr=>(h2 r hr).1) zo).1.mono zo
theorem cP.E5 {s:cP} {k n w:Nat} {g:kN} (h:s.ok k n) (hw:w<k) (hg:g.fY=w) (hr:g.sig.right) (Sp:(s.st.getD w lq).kept=false):(s.gU w g).ok k n:=by
 have hl:w<s.st.length:=by rw [h.len];exact hw
 exact { h with
  len:=by show (s.st.set w _).length=k;rw [List.length_set];exact h.len
  fits:=KF h.fits
  CN:=wS h.CN
  tries:=qC h.tries (show (s.st.getD w lq).tries≤_ from h.tries (s.st.getD w lq) (qB hl))
  kQ:=qC h.kQ (aS _)
  kept:=fun q hq=>by
   show q.fY<k∧q.sig.right∧((s.st.set w _).getD q.fY lq).kept=true
   rw [HJ hl];rcases aJ.1 hq with hq|hq
   ·obtain ⟨h3,h4,h5⟩:=h.kept q hq;refine ⟨h3,h4,?_⟩
    split
    ·rfl
    ·exact h5
   ·rw [an.1 hq];exact ⟨by rw [hg];exact hw,hr,by rw [aI hg]⟩
  zc:=by
   show ((s.kept++[g]).map (·.fY)).Nodup
   rw [ah];refine List.nodup_append.2 ⟨h.zc,by simp,fun a ha b hb=>?_⟩;rw [List.map_cons,List.map_nil,an] at hb
   subst hb;rintro rfl;obtain ⟨q,hq,hqe⟩:=aE.1 ha;have h5:=(h.kept q hq).2.2;rw [hqe,hg,Sp] at h5
   cases h5 }
theorem cP.IX {s:cP} {k n w:Nat} {g:kN} {p:jH} (h:s.ok k n) (hw:w<k) (hg:g.fY=w) (hr:g.sig.right) (hh:s.rR w):(s.gC p w g).ok k n:=by
 have h1:=cP.E5 h hw hg hr hh.2.2;unfold cP.gC
 split
 ·obtain ⟨c,hc⟩:=Option.isSome_iff_exists.1 hh.1;have IY:s.dT=c:=by unfold cP.dT;rw [hc];rfl
  have Xr:=h.cur c hc
  exact { h1 with
   done:=fun _=>by show s.dT.fits;rw [IY];exact Xr
   M6:=by show s.dT.sig.fits;rw [IY];exact Xr.2.fits
   dk:=fun q hq=>⟨(h1.kept q hq).1,(h1.kept q hq).2.1⟩
   CO:=h1.zc }
 ·exact h1
theorem cP.IZ {s:cP} {k n w size now:Nat} (h:s.ok k n) (hw:w<k) (hs:size≤s.dT.dc.size) (ht:now≤1000000000) (hk:k≤1000) (hn:n≤1000000):(s.Av w size now).ok k (n+1):=by
 have hl:w<s.st.length:=by rw [h.len];exact hw
 refine cP.CQ (s:={ s with st:=s.st.set w { s.st.getD w lq with size:=size } }) ?_ ht hw hk hn
 exact { h with
  len:=by show (s.st.set w _).length=k;rw [List.length_set];exact h.len
  tries:=qC h.tries (show (s.st.getD w lq).tries≤_ from h.tries (s.st.getD w lq) (qB hl))
  kQ:=qC h.kQ hs
  kept:=fun g hg=>by
   obtain ⟨h3,h4,h5⟩:=h.kept g hg;refine ⟨h3,h4,?_⟩
   show ((s.st.set w _).getD g.fY lq).kept=true
   rw [HJ hl]
   split
   ·rename_i e;rw [e] at h5;exact h5
   ·exact h5 }
theorem cP.Pk {s:cP} {k n w size now:Nat} {g:kN} {p:jH} (h:s.ok k n) (hr:g.ii p s.dT.dc→g.sig.right) (ht:now≤1000000000) (hk:k≤1000) (hn:n≤1000000):(s.oc p w g size now).ok k (n+1):=by
 unfold cP.oc
 split
 ·exact h.mono zo
 ·rename_i hh;have hh2:=Decidable.not_not.1 hh;have hw:w<k:=by have:=hh2.2.1;rw [h.len] at this;exact this
  split
  ·rename_i ft;exact (cP.IX h hw ft.1 (hr ft.2) hh2).mono zo
  ·split
   ·rename_i Sq;exact cP.IZ h hw Sq.1 ht hk hn
   ·exact h.mono zo
end Go.Proofs
namespace Go.Proofs
attribute [local irreducible] Bs.cD Bs.Do Bs.O Bs.W Bs.Fin Bs.A Bs.Ct Bs.cE Bs.Rd Bs.Sat Bs.cK Bs.Ob Bs.dJ Bs.View Bs.cz Bs.Ex Bs.dH Bs.Pu Bs.eY Bs.dM Bs.dZ
open Go.Bs
open Tryz
theorem CT (R:List cJ) (e:World) (vl vw:Value) (p:jH) (hp:j7 R vl vw p) (hl:p.log.length≤1000000) (hn:p.ew.length≤1000) (hb:∀ b∈p.ew,b.length≤1000000) :
 Ct prog 117 #[.agg (lE p vl vw).toArray] e R (fun v' L'=>∃ (M:cJ) (ul uw:Value),v'=.agg (lE p ul uw).toArray∧j7 [M] ul uw p∧L'=M::R):=by
 refine a7 (cn hp.log) fun o1=>?_
 refine a7 hp.ew.one fun o2=>?_
 obtain ⟨ts,fy,tI,Hh⟩:=hp.ew;have oF:ts.length=p.ew.length:=by rw [← fy,ab]
 refine a7 (tI.shape zo) ?_;rintro ⟨⟨HK,cw,rfl,h3,h4,h5,h6⟩,_⟩;simp only [maxLen] at h4
 refine bH (args:=[_]) func117 rfl ntmps117 results117 rfl ?_
 (repeat' first|refine W.pF (id:=2) (fun j:Nat × Nat × Nat × Option Addr × Nat=>[(1,pt j.1),(2,pt j.2.1),(3,pt j.2.2.1)]) (fun j=>cK j.2.2.1 [.slice j.2.2.2.1 p.log.length j.2.2.2.2,nY,.int .i64 (p.ey:Int)] 106 (0,0)::cR (.slice j.2.2.2.1 p.log.length j.2.2.2.2) p.log::cK j.1 (lE p vl (.slice HK ts.length cw)) 106 (0,0)::cK j.2.1 [nY,nY,.int .i64 0] 106 (0,0)::R) (fun _=>True) ?_ ?_|apply Zc|apply Zd|apply Ze|apply Zf|refine Yg fun _=>?_|refine Yh fun _=>?_|fail)
 rotate_left
 ·refine ⟨?_⟩;rename_i g1 g2
  (repeat' first|refine Za ?_|refine Zb ?_|apply Zc|apply Zd|apply Ze|apply Zf|refine Zh ?_|refine Zi ?_|refine Zj ?_|refine Zk ?_|refine ZA ?_|refine ZB ?_|refine ZC (fun _=>?_) fun _=>?_|refine ZS ?_|refine Yd ?_|refine Ye ?_|refine Yg fun _=>?_|refine Yh fun _=>?_|refine Yi fun _=>?_|refine Ym ?_|refine Yw ?_|refine Yx ?_|refine Yy ?_|refine Yz ?_|refine YA ?_|apply YB|apply YC|apply YD|apply YE|apply YF|apply YG|apply YH|apply YI|apply YJ|refine YK ?_|refine YQ ?_|refine YR ?_|(apply O.dg;exact rfl;exact zP;(first|(simp only [aC,Nat.add_zero,Nat.reduceAdd,List.drop_succ_cons,List.drop_zero,List.take_succ_cons,List.take_zero];done)|(simp only [aC,Nat.add_zero,Nat.reduceAdd,List.drop_succ_cons,List.drop_zero,List.take_succ_cons,List.take_zero];exact rfl));exact rfl;exact rfl))
  refine bk (id:=1) [7] (cK g1 (lE p vl (.slice HK ts.length cw)) 106 (0,0)::R) mixed ?_
  (refine tF 0 ?_;refine tL 1 ?_;refine tF 3 ?_;refine tL 4 ?_)
  refine A.two 2 6 rfl rfl rfl rfl zK ?_ ?_
  ·refine bg rfl rfl (dw _ e vl p.log (hp.log.cL zE) zo) ?_;rintro _ _ ⟨ad,c,rfl,rfl⟩;refine ⟨fun _=>zE,?_⟩;refine tk 5 _ rfl (bL rfl zF) ?_;refine tO 6 ?_;refine bQ (cs:=[nY,nY,.int .i64 0]) rfl rfl fun g3=>⟨fun _=>zE,?_⟩
   refine tO 7 ?_;refine zg ?_;refine ⟨zN,?_⟩;refine bf zK ?_;exact bJ (g1,g2,g3,ad,c) trivial zS zE
  ·refine bQ (cs:=[nY,nY,.int .i64 0]) rfl rfl fun g3=>⟨fun _=>zE,?_⟩
   refine tO 2 ?_;refine bg rfl rfl (dw _ e vl p.log (hp.log.cL zE) zo) ?_;rintro _ _ ⟨ad,c,rfl,rfl⟩;refine ⟨fun _=>zE,?_⟩;refine tk 5 _ rfl (bL rfl zF) ?_;refine tO 7 ?_;refine zg ?_;refine ⟨zN,?_⟩;refine bf zK ?_;exact bJ (g1,g2,g3,ad,c) trivial zS zE
 rintro ⟨g1,g2,g3,xk,cl⟩ _;dsimp only;refine wB ?_;refine bq (ι:=Nat × List ej × Option Addr × Nat) (fun j=>[(2,pt g2),(3,pt g3),(13,.slice HK ts.length cw),(14,.int .i64 (ts.length:Int)),(15,.int .i64 (j.1:Int))]) (fun j=>cK g3 [.slice xk p.log.length cl,.slice j.2.2.1 j.2.1.length j.2.2.2,.int .i64 (p.ey:Int)] 106 (0,0)::cU (.slice j.2.2.1 j.2.1.length j.2.2.2) j.2.1::cH j.2.1::cR (.slice xk p.log.length cl) p.log::cK g2 [nY,nY,.int .i64 0] 106 (0,0)::R) (fun j=>j.1≤ts.length∧j.2.1.map (·.2)=p.ew.take j.1) (fun j=>ts.length - j.1) (0,[],none,0) ⟨aH _,rfl⟩ zS (cj (dL) (cj (du ez 1) zE)) ?_;rintro ⟨j,us,m5,cu⟩ ⟨hj,hJ⟩;dsimp only at hj hJ ⊢
 have LD:us.length=j:=by have:=congrArg List.length hJ;rw [ab,aF] at this;omega
 by_cases cO:j<ts.length
 rotate_left
 ·rw [aG zo] at hJ
  obtain ⟨M,hM⟩:∃ M:cJ,M=dH [cR (.slice xk p.log.length cl) p.log,cU (.slice m5 us.length cu) us,cH us]:=⟨_,rfl⟩
  have ho:cz [M] [cR (.slice xk p.log.length cl) p.log,cU (.slice m5 us.length cu) us,cH us]:=by rw [hM];exact cT (M:=[_,_,_]) (L:=[])
  refine wB ?_;apply br
  ·exact zV
  exact ⟨M::R,cj (show cz _ (cR (.slice xk p.log.length cl) p.log::cU (.slice m5 us.length cu) us::cH us::R) from zE) (by rw [hM];exact dQ (M:=[_,_,_])),M,_,_,rfl,⟨(bb .zero).cL ho,mL.cL ⟨us,hJ,bb (.succ .zero),dP.dY (.succ (.succ .zero))⟩ ho⟩,rfl⟩
 rcases h6 with h6|⟨gg,og,rfl⟩
 ·omega
 have zh:j<p.ew.length:=by omega
 have hr:Rd R ⟨gg,og+j,none⟩ (ts[j]'cO).1:=tI.elem (by rw [aL,ae cO];rfl);have hx:=Hh _ (az cO)
 have EK:(ts[j]'cO).2=p.ew[j]'zh:=by
  have:=congrArg (fun l=>l[j]?) fy;simp only [aL,ae cO,ae zh,Option.map_some,Option.some.injEq] at this
  exact this
 have ft:p.ew.take (j+1)=p.ew.take j++[p.ew[j]'zh]:=aD zh;have z9:=hb _ (az zh);rw [← EK] at ft z9
 generalize ts[j]'cO=y at *
 obtain ⟨yv,x⟩:=y;dsimp only at hr hx ft z9
 refine W.cB (cn (hx.cL zE)) fun o3=>?_
 (repeat' first|(refine bV rfl (hr.cL zE) rfl ?_)|refine Zb ?_|apply Zc|apply Zd|apply Ze|apply Zf|refine ZA ?_|refine Yw ?_|refine Yz ?_|apply YB|apply YC)
 refine bk (id:=5) [6,7] (cK g3 [.slice xk p.log.length cl,.slice m5 us.length cu,.int .i64 (p.ey:Int)] 106 (0,0)::R) mixed ?_
 (refine tF 0 ?_;refine tL 1 ?_;refine tM 2 ?_)
 refine tO 3 ?_;refine bg rfl rfl (dw _ e yv x (hx.cL zE) zo) ?_;rintro _ _ ⟨qp,cx,rfl,rfl⟩;refine ⟨fun _=>zE,?_⟩;refine tO 4 ?_;refine bE (n:=1) (cs:=[.slice qp x.length cx]) rfl rfl rfl rfl zQ rfl (fun gb=>⟨fun _=>zE,?_⟩);refine tO 5 ?_;refine bo rfl rfl rfl (show cQ _ (cU (.slice m5 us.length cu) us) _ from zP) (bO (n:=1) (c:=1) zP rfl zl) rfl rfl zO zm zo fun ef k1 _=>⟨fun _=>zE,?_⟩
 refine tO 6 ?_;refine dV (ba rfl) ?_;refine tO 7 ?_;refine tg ?_;refine ⟨zN,?_⟩;refine bf zK ?_;refine wB ?_;refine bi (j+1,us++[(.slice qp x.length cx,x)],ef,k1) ⟨cO,by dsimp only;rw [ft,ah,hJ];rfl⟩ zd zS ?_;simp only [cU,aa,aj,ah,List.map_cons,List.map_nil];exact cj (cj (show cz _ (cR (.slice qp x.length cx) x::cH us::dJ ez 1 (.slice ef (us.length+1) k1) (us.length+1) (us.map (·.1)++[.slice qp x.length cx])::cK g3 [.slice xk p.log.length cl,.slice ef (us.length+1) k1,.int .i64 (p.ey:Int)] 106 (0,0)::cR (.slice xk p.log.length cl) p.log::cK g2 [nY,nY,.int .i64 0] 106 (0,0)::R) from zE) jn) zE
theorem CU (R:List cJ) (e:World) (vl vw:Value) (p:jH) (hp:j7 R vl vw p) (hl:p.log.length≤1000000) (hn:p.ew.length≤1000) (hb:∀ b∈p.ew,b.length≤1000000) :
 Ct prog 235 #[.agg (lE p vl vw).toArray] e R (fun v' L'=>∃ (M:cJ) (ul uw:Value),v'=.agg (lE p ul uw).toArray∧j7 [M] ul uw p∧L'=M::R):=by
 refine a7 (cn hp.log) fun o1=>?_
 refine a7 hp.ew.one fun o2=>?_
 obtain ⟨ts,fy,tI,Hh⟩:=hp.ew;have oF:ts.length=p.ew.length:=by rw [← fy,ab]
 refine a7 (tI.shape zo) ?_;rintro ⟨⟨HK,cw,rfl,h3,h4,h5,h6⟩,_⟩;simp only [maxLen] at h4
 refine bH (args:=[_]) func235 rfl ntmps235 results235 rfl ?_
 (repeat' first|refine W.pF (id:=2) (fun j:Nat × Nat × Nat × Option Addr × Nat=>[(1,pt j.1),(2,pt j.2.1),(3,pt j.2.2.1)]) (fun j=>cK j.2.2.1 [.slice j.2.2.2.1 p.log.length j.2.2.2.2,nY,.int .i64 (p.ey:Int)] 106 (0,0)::cR (.slice j.2.2.2.1 p.log.length j.2.2.2.2) p.log::cK j.1 (lE p vl (.slice HK ts.length cw)) 106 (0,0)::cK j.2.1 [nY,nY,.int .i64 0] 106 (0,0)::R) (fun _=>True) ?_ ?_|apply Zc|apply Zd|apply Ze|apply Zf|refine Yg fun _=>?_|refine Yh fun _=>?_|fail)
 rotate_left
 ·refine ⟨?_⟩;rename_i g1 g2
  (repeat' first|refine Za ?_|refine Zb ?_|apply Zc|apply Zd|apply Ze|apply Zf|refine Zh ?_|refine Zi ?_|refine Zj ?_|refine Zk ?_|refine ZA ?_|refine ZB ?_|refine ZC (fun _=>?_) fun _=>?_|refine ZS ?_|refine Yd ?_|refine Ye ?_|refine Yg fun _=>?_|refine Yh fun _=>?_|refine Yi fun _=>?_|refine Ym ?_|refine Yw ?_|refine Yx ?_|refine Yy ?_|refine Yz ?_|refine YA ?_|apply YB|apply YC|apply YD|apply YE|apply YF|apply YG|apply YH|apply YI|apply YJ|refine YK ?_|refine YQ ?_|refine YR ?_|(apply O.dg;exact rfl;exact zP;(first|(simp only [aC,Nat.add_zero,Nat.reduceAdd,List.drop_succ_cons,List.drop_zero,List.take_succ_cons,List.take_zero];done)|(simp only [aC,Nat.add_zero,Nat.reduceAdd,List.drop_succ_cons,List.drop_zero,List.take_succ_cons,List.take_zero];exact rfl));exact rfl;exact rfl))
  refine bk (id:=1) [7] (cK g1 (lE p vl (.slice HK ts.length cw)) 106 (0,0)::R) mixed ?_
  (refine tF 0 ?_;refine tL 1 ?_;refine tF 3 ?_;refine tL 4 ?_)
  refine A.two 2 6 rfl rfl rfl rfl zK ?_ ?_
  ·refine bg rfl rfl (dw _ e vl p.log (hp.log.cL zE) zo) ?_;rintro _ _ ⟨ad,c,rfl,rfl⟩;refine ⟨fun _=>zE,?_⟩;refine tk 5 _ rfl (bL rfl zF) ?_;refine tO 6 ?_;refine bQ (cs:=[nY,nY,.int .i64 0]) rfl rfl fun g3=>⟨fun _=>zE,?_⟩
   refine tO 7 ?_;refine zg ?_;refine ⟨zN,?_⟩;refine bf zK ?_;exact bJ (g1,g2,g3,ad,c) trivial zS zE
  ·refine bQ (cs:=[nY,nY,.int .i64 0]) rfl rfl fun g3=>⟨fun _=>zE,?_⟩
   refine tO 2 ?_;refine bg rfl rfl (dw _ e vl p.log (hp.log.cL zE) zo) ?_;rintro _ _ ⟨ad,c,rfl,rfl⟩;refine ⟨fun _=>zE,?_⟩;refine tk 5 _ rfl (bL rfl zF) ?_;refine tO 7 ?_;refine zg ?_;refine ⟨zN,?_⟩;refine bf zK ?_;exact bJ (g1,g2,g3,ad,c) trivial zS zE
 rintro ⟨g1,g2,g3,xk,cl⟩ _;dsimp only;refine wB ?_;refine bq (ι:=Nat × List ej × Option Addr × Nat) (fun j=>[(2,pt g2),(3,pt g3),(13,.slice HK ts.length cw),(14,.int .i64 (ts.length:Int)),(15,.int .i64 (j.1:Int))]) (fun j=>cK g3 [.slice xk p.log.length cl,.slice j.2.2.1 j.2.1.length j.2.2.2,.int .i64 (p.ey:Int)] 106 (0,0)::cU (.slice j.2.2.1 j.2.1.length j.2.2.2) j.2.1::cH j.2.1::cR (.slice xk p.log.length cl) p.log::cK g2 [nY,nY,.int .i64 0] 106 (0,0)::R) (fun j=>j.1≤ts.length∧j.2.1.map (·.2)=p.ew.take j.1) (fun j=>ts.length - j.1) (0,[],none,0) ⟨aH _,rfl⟩ zS (cj (dL) (cj (du ez 1) zE)) ?_;rintro ⟨j,us,m5,cu⟩ ⟨hj,hJ⟩;dsimp only at hj hJ ⊢
 have LD:us.length=j:=by have:=congrArg List.length hJ;rw [ab,aF] at this;omega
 by_cases cO:j<ts.length
 rotate_left
 ·rw [aG zo] at hJ
  obtain ⟨M,hM⟩:∃ M:cJ,M=dH [cR (.slice xk p.log.length cl) p.log,cU (.slice m5 us.length cu) us,cH us]:=⟨_,rfl⟩
  have ho:cz [M] [cR (.slice xk p.log.length cl) p.log,cU (.slice m5 us.length cu) us,cH us]:=by rw [hM];exact cT (M:=[_,_,_]) (L:=[])
  refine wB ?_;apply br
  ·exact zV
  exact ⟨M::R,cj (show cz _ (cR (.slice xk p.log.length cl) p.log::cU (.slice m5 us.length cu) us::cH us::R) from zE) (by rw [hM];exact dQ (M:=[_,_,_])),M,_,_,rfl,⟨(bb .zero).cL ho,mL.cL ⟨us,hJ,bb (.succ .zero),dP.dY (.succ (.succ .zero))⟩ ho⟩,rfl⟩
 rcases h6 with h6|⟨gg,og,rfl⟩
 ·omega
 have zh:j<p.ew.length:=by omega
 have hr:Rd R ⟨gg,og+j,none⟩ (ts[j]'cO).1:=tI.elem (by rw [aL,ae cO];rfl);have hx:=Hh _ (az cO)
 have EK:(ts[j]'cO).2=p.ew[j]'zh:=by
  have:=congrArg (fun l=>l[j]?) fy;simp only [aL,ae cO,ae zh,Option.map_some,Option.some.injEq] at this
  exact this
 have ft:p.ew.take (j+1)=p.ew.take j++[p.ew[j]'zh]:=aD zh;have z9:=hb _ (az zh);rw [← EK] at ft z9
 generalize ts[j]'cO=y at *
 obtain ⟨yv,x⟩:=y;dsimp only at hr hx ft z9
 refine W.cB (cn (hx.cL zE)) fun o3=>?_
 (repeat' first|(refine bV rfl (hr.cL zE) rfl ?_)|refine Zb ?_|apply Zc|apply Zd|apply Ze|apply Zf|refine ZA ?_|refine Yw ?_|refine Yz ?_|apply YB|apply YC)
 refine bk (id:=5) [6,7] (cK g3 [.slice xk p.log.length cl,.slice m5 us.length cu,.int .i64 (p.ey:Int)] 106 (0,0)::R) mixed ?_
 (refine tF 0 ?_;refine tL 1 ?_;refine tM 2 ?_)
 refine tO 3 ?_;refine bg rfl rfl (dw _ e yv x (hx.cL zE) zo) ?_;rintro _ _ ⟨qp,cx,rfl,rfl⟩;refine ⟨fun _=>zE,?_⟩;refine tO 4 ?_;refine bE (n:=1) (cs:=[.slice qp x.length cx]) rfl rfl rfl rfl zQ rfl (fun gb=>⟨fun _=>zE,?_⟩);refine tO 5 ?_;refine bo rfl rfl rfl (show cQ _ (cU (.slice m5 us.length cu) us) _ from zP) (bO (n:=1) (c:=1) zP rfl zl) rfl rfl zO zm zo fun ef k1 _=>⟨fun _=>zE,?_⟩
 refine tO 6 ?_;refine dV (ba rfl) ?_;refine tO 7 ?_;refine tg ?_;refine ⟨zN,?_⟩;refine bf zK ?_;refine wB ?_;refine bi (j+1,us++[(.slice qp x.length cx,x)],ef,k1) ⟨cO,by dsimp only;rw [ft,ah,hJ];rfl⟩ zd zS ?_;simp only [cU,aa,aj,ah,List.map_cons,List.map_nil];exact cj (cj (show cz _ (cR (.slice qp x.length cx) x::cH us::dJ ez 1 (.slice ef (us.length+1) k1) (us.length+1) (us.map (·.1)++[.slice qp x.length cx])::cK g3 [.slice xk p.log.length cl,.slice ef (us.length+1) k1,.int .i64 (p.ey:Int)] 106 (0,0)::cR (.slice xk p.log.length cl) p.log::cK g2 [nY,nY,.int .i64 0] 106 (0,0)::R) from zE) jn) zE
end Go.Proofs
namespace Go.Bs
section
variable {P:Program} {N:Fr} {ty:TypeId} {σ:Env} {e:World} {L:List cJ} {x:Operand} {d:Tmp} {pos:String} {af:Array Edge} {gd:Option (Nat × Bool)} {K:Env→List cJ→Prop}
theorem bZ {t:TypeId} {v:Value} (hr:∀ w (v:Value),(Instr.makeInterface t v).run P w=.ok (.iface t v) w) (h:ev σ x=some v):cD P N (.makeInterface t x) ty (.iface t v) σ e L:=fun a w ha hs _ _ _ _=>by
 simp [execOp,ha.ev h,hr]
theorem cD.typeAssert {s t:TypeId} {v:Value} (hr:∀ w (v:Value),(Instr.typeAssert (.iface t v) s t false).run P w=.ok v w) (h:ev σ x=some (.iface t v)):cD P N (.typeAssert x s t false) ty v σ e L:=fun a w ha hs _ _ _ _=>by
 simp [execOp,ha.ev h,hr]
theorem Do.invoke {g:FuncId} {name:String} {xs:List Operand} {vs:List Value} {ats:Array TypeId} {t:TypeId} {v r:Value} {Post:Value→List cJ→Prop}
 (h0:ev σ x=some (.iface t v)) (hx:pY σ xs=some vs) (hd:Nat.blt d N.n=true)
 (hm:∀ w,Sat e L w→(Go.invoke (.fn (.method name) #[]) (.iface t v::vs).toArray).run P w=.ok (.enter g (r::vs).toArray) w)
 (h:Ct P g (r::vs).toArray e L Post) (k:∀ v L',Post v L'→K ((d,v)::σ) L') :
 Do P N ⟨some d,.call { callee:=.invoke x name,args:=xs.toArray,argTypes:=ats },ty,pos,af,gd⟩ K σ e L:=by
 intro a w ha hs K' Q' hK;unfold Oper.wp
 have h1:execOp a.eval ⟨some d,.call { callee:=.invoke x name,args:=xs.toArray,argTypes:=ats },ty,pos,af,gd⟩=Go.invoke (.fn (.method name) #[]) (.iface t v::vs).toArray:=by
  have h2:(#[a.eval x]++xs.toArray.map a.eval:Array Value)=(.iface t v::vs).toArray:=by simp [ha.ev h0,ha.pY hx]
  simp only [execOp,resolve];rw [h2]
  rfl
 rw [h1,hm w hs,Oper.upon_enter];refine (h w hs).mono ?_;rintro x w' ⟨v,L',rfl,hp,oD⟩;exact hK _ _ _ _ (k v L' hp) (ha.put hd v) oD
theorem Do.Sr {t t':TypeId} {y:Operand} {v u:Value} (hr:∀ w,∃ b:Bool,((do eqGuard .eql t x y v u;binOp .eql t v u):Sem Value).run P w=.ok (.bool b) w) (h:ev σ x=some v) (h1:ev σ y=some u) (hd:Nat.blt d N.n=true) (k:∀ b:Bool,K ((d,.bool b)::σ) L) :
 Do P N ⟨some d,.binOp .eql t x y t',ty,pos,af,gd⟩ K σ e L:=fun a w ha hs K' Q' hK=>by
 obtain ⟨b,hb⟩:=hr w;refine eZ (v:=.bool b) (w':=w) ?_ (hK _ _ _ _ (k b) (ha.put hd _) hs);simp only [execOp,ha.ev h,ha.ev h1];rw [Sem.run_bind,hb]
 rfl
theorem wT:∀ (vs cs:List Value) (o:Nat),o+vs.length≤cs.length→iw cs o vs (cs.take o++vs++cs.drop (o+vs.length))
 | [],cs,o,_=>by simpa using iw.nil (l:=cs) (n:=o)
 | v::vs,cs,o,h=>by
  rw [aN] at h
  have h1:=wT vs (cs.set o v) (o+1) (by rw [List.length_set];omega)
  have h2:(cs.set o v).take (o+1)++vs++(cs.set o v).drop (o+1+vs.length)=cs.take o++(v::vs)++cs.drop (o+(v::vs).length):=by
   rw [List.take_set,List.drop_set_of_lt (by omega)];rw [aD (by omega),List.set_append_right _ _ (by simp;omega)]
   simp [Nat.min_eq_left (show o≤cs.length by omega),Nat.add_assoc,Nat.add_comm 1]
  rw [h2] at h1
  exact iw.cons (gy.of v (by omega)) h1
theorem Do.oh {t n kk nn o c g:Nat} {y:Operand} {vs xs:List Value} {E:TypeId} {R:List cJ} [i:je P t n] (h:ev σ x=some (.pointer (some ⟨g,o,none⟩))) (h1:ev σ y=some (.agg vs.toArray)) (hn:vs.length=n) (hv:∀ v∈vs,v.oneCell'=true)
 (p:cQ L (dJ E nn (.slice (some ⟨g,0,none⟩) kk c) kk xs) R) (ho:o+n≤kk*nn)
 (k:K σ (dJ E nn (.slice (some ⟨g,0,none⟩) kk c) kk (xs.take o++vs++xs.drop (o+vs.length))::R)) :
 Do P N ⟨none,.store t x y,ty,pos,af,gd⟩ K σ e L:=fun a w ha hs K' Q' hK=>by
 have fQ:=hs.cL p.out;obtain ⟨hl,hA⟩:=oH fQ.2.2.2;rcases hA with ⟨lV,_⟩|⟨g',Rn,cur,lV,r1,r2,r3,r4,hB⟩
 ·cases lV
 cases lV
 have m1:Sat e (cK g cur E (0,0)::R) w:=⟨hs.1,hs.2.1,hs.2.2.1,hB⟩
 have hle:kk*nn≤cur.length:=by rw [r3];exact Nat.mul_le_mul_right _ r1
 obtain ⟨w',e1,e2⟩:=p6 (P:=P) (off:=o) (i:=0) (wT vs cur o (by omega)) rfl m1 hv
 have gB:=hF (R:=R) (E:=E) (n:=nn) (g:=g) (k:=kk) (cap:=c) (cur:=cur.take o++vs++cur.drop (o+vs.length)) r1 r2 (by
  simp only [aa,aF,aO];omega)
 rw [u3 cur vs o (kk*nn) (by omega) hle,r4] at gB
 refine l6 (w':=w') ?_ (hK _ _ _ _ k ha (e2.cL gB))
 simp [execOp,ha.ev h,ha.ev h1,Instr.storeAt,Instr.sureAddr,storeVar,Value.cells,i.B4,hn,e1]
theorem cD.Pl {t t':TypeId} {y:Operand} {k:IntKind} {m n r:Int} (h:ev σ x=some (.int k m)) (h1:ev σ y=some (.int k n)) (h0:n≠0) (hr:k.wrap (m.tdiv n)=r):cD P N (.binOp .quo t x y t') ty (.int k r) σ e L:=hr ▸ cD.quo h h1 h0
theorem cD.Ss {t f:Nat} {a b c v:Value} (hr:∀ w,(Instr.field t (.agg #[a,b,c]) f).run P w=.ok v w) (h:ev σ x=some (.agg [a,b,c].toArray)):cD P N (.field t x f) ty v σ e L:=fun w a ha _ _ _ _ _=>by
 have h2:=hr
 simp [execOp,ha.ev h,h2]
theorem BH (zs:List Value) (hz:0<zs.length):∀ c:Nat,(madeCells zs.toArray (c*zs.length)).toList=(List.replicate c zs).flatten
 | 0=>by simp [madeCells]
 | c+1=>by
  have ih:=BH zs hz c;simp only [madeCells,Array.toList_map,Array.toList_range,List.size_toArray] at ih ⊢
  rw [Nat.add_mul,Nat.one_mul,List.range_add,ah,ih,List.replicate_succ',List.flatten_append]
  congr 1
  rw [List.map_map];simp only [List.flatten_cons,List.flatten_nil,aK];apply List.ext_getElem?;intro q;rw [aL]
  by_cases hq:q<zs.length
  ·have h1:(c*zs.length+q) % zs.length=q:=by rw [Nat.mul_comm,Nat.mul_add_mod,Nat.mod_eq_of_lt hq]
   rw [List.getElem?_range hq]
   simp [hq,h1,Function.comp]
  ·rw [List.getElem?_eq_none (l:=List.range _) (by simpa using hq),List.getElem?_eq_none (by omega)]
   rfl
theorem Do.sG {t el nn b c:Nat} {z:Value} {zs:List Value} {y:Operand} {k1 k2:IntKind} [i:jt P t el nn] [j:rY P el z nn b] (hx:ev σ x=some (.int k1 (c:Int))) (hy:ev σ y=some (.int k2 (c:Int))) (hd:Nat.blt d N.n=true) (hz:z.cells=zs.toArray) (hn:zs.length=nn) (h0:Nat.blt 0 nn=true) (Iq:c≤maxLen) (hb:c*b≤140737488355328)
 (kk:∀ g,K ((d,.slice (some ⟨g,0,none⟩) c c)::σ) (dJ el nn (.slice (some ⟨g,0,none⟩) c c) c ((List.replicate c zs).flatten)::L)) :
 Do P N ⟨some d,.makeSlice t x y,ty,pos,af,gd⟩ K σ e L:=fun a w ha hs K' Q' hK=>by
 obtain ⟨ti,t1,t2,t3,t4⟩:=j.parts;subst t4
 have td:(ti.bytes:Int)*(c:Int)≤281474976710656:=by
  have h:((ti.bytes*c:Nat):Int)≤281474976710656:=by rw [Nat.mul_comm];omega
  rwa [Int.natCast_mul] at h
 have hr:=run_make (P:=P) w t el ti z i.lT t1 t2 k1 k2 c c (by omega) (Int.le_refl _) td (by simp only [maxLen] at Iq;omega);simp only [Int.toNat_natCast,t3] at hr
 have h0':0<zs.length:=by rw [hn,← Nat.blt_eq];exact h0
 have hm:(madeCells z.cells (c*nn)).toList=(List.replicate c zs).flatten:=by rw [hz,← hn];exact BH zs h0' c
 refine eZ (w':=w.alloc (.cells (madeCells z.cells (c*nn)) el)) (v:=.slice (some ⟨w.heap.size,0,none⟩) c c) (by simp [execOp,ha.ev hx,ha.ev hy,hr]) (hK _ _ _ _ (kk _) (ha.put hd _) ?_);have F4:=(hs.alloc (.cells (madeCells z.cells (c*nn)) el)).cL (tc _ _ _ _);rw [hm] at F4
 have hlen:((List.replicate c zs).flatten).length=c*nn:=by simp [List.length_flatten,hn]
 have gB:=hF (E:=el) (n:=nn) (g:=w.heap.size) (k:=c) (cap:=c) (cur:=(List.replicate c zs).flatten) (R:=L) (aS _) Iq hlen;rw [aG (by omega)] at gB
 exact F4.cL gB
end
end Go.Bs
