/- Part 11 of a proof of this: TopTwoMonitors returns true for any arguments; nothing of the old memory is turned. No condition. -/
import Derived.Test.YtccekbdjebohcaaGreatM10
set_option linter.unusedVariables false
set_option linter.unusedSimpArgs false
namespace Go.Proofs
attribute [local irreducible] Bs.cE Bs.Do Bs.O Bs.W Bs.Fin Bs.A Bs.Ct Bs.cF Bs.Rd Bs.Sat Bs.cM Bs.Ob Bs.dJ Bs.View Bs.cC Bs.Ex Bs.dI Bs.Pu Bs.eZ Bs.dK Bs.eh
open Go.Bs
open Tryz
variable (R:List cK) (e:World)
theorem CL (w:Nat) (c:dx) (hc:c.ok) (vl vf pg yJ vu vm vn sh iO vt ve zx zC zD vr zG zH:Value) (gp op lp kp gd od kd d k f:Nat) (ls:gM) (recs:List dA) (Lz:0<lp)
 (h0:Rd R ⟨gp,op,none⟩ (.slice (some ⟨gd,od,none⟩) 3 kd)) (h1:Rd R ⟨gd,od,none⟩ (ptr d)) (h2:Rd R ⟨gd,od+1,none⟩ (ptr k)) (h3:Rd R ⟨gd,od+2,none⟩ (ptr f)) (FN:ls.ok) (MR:recs.length≤1000) (hg:∀ b∈recs,jm b∧b.length≤200) :
 Ct prog 160 #[ptr w] e (cM w (qS c (.slice (some ⟨gp,op,none⟩) lp kp) vl vf pg yJ vu vm vn sh iO vt ve zx zC zD vr zG zH) dv (0,0)::dl d (dM ls.jb)::dl k (eH ls.keys 1048576)::dl f (dM (fi recs))::R)
  (fun v' L'=>v'=.int .i64 0∧∃ gl gf,L'=cM w (qS c (.slice (some ⟨gp,op,none⟩) lp kp) (ptr gl) (ptr gf) pg yJ vu vm vn sh iO vt ve zx zC zD vr zG zH) dv (0,0)::eS gf f gl c.f ⟨recs,(kJ ls.cI recs).map fun b=>(b,zk)⟩::db gl d k (cV 0) { ls with last:=none }::R):=by
 refine a8 (args:=[_]) func160 rfl ntmps160 results160 rfl ?_;refine wB ?_;refine bl (id:=2) [12] R mixed ?_;refine tM 0 ?_;refine tk 1 _ rfl (cE.dQ rfl rfl (by decide)) ?_;refine tk 2 _ rfl (bq rfl h1) ?_;refine tM 3 ?_;refine tk 4 _ rfl (cE.dQ rfl rfl (by decide)) ?_;refine tk 5 _ rfl (bq rfl h2) ?_;refine tO 6 ?_;refine bg rfl rfl (oW _ e 0 zo) ?_;rintro _ _ ⟨ad,ks,rfl,rfl⟩;refine ⟨fun _=>zE,?_⟩;refine tO 7 ?_;refine bg rfl rfl (Ct.C9 zP zP (Gw _ e d k _ (cV 0) ls (ba (show cT _ (cR (.slice ad (cV 0).length ks) (cV 0)) _ from zP)) (oV 0) FN)) ?_;rintro _ _ ⟨gl,rfl,rfl⟩;refine ⟨fun _=>zE,?_⟩
 (refine tM 8 ?_;refine tk 9 _ rfl (bn rfl rfl) ?_;refine tk 10 _ rfl (bn rfl rfl) ?_;refine tA 11 ?_;(refine tO 12 ?_;refine dV (bj rfl) ?_))
 refine bf zK ?_;refine wB ?_;refine bl (id:=5) [27] (cM w (qS c (.slice (some ⟨gp,op,none⟩) lp kp) (ptr gl) vf pg yJ vu vm vn sh iO vt ve zx zC zD vr zG zH) dv (0,0)::R) mixed ?_;refine tM 0 ?_;refine tk 1 _ rfl (cE.dQ rfl rfl (by decide)) ?_;refine tk 2 _ rfl (bq rfl (h3.cN zE)) ?_
 (refine tM 3 ?_;refine tN 4 ?_;refine tF 5 ?_;refine tL 6 ?_;refine tM 7 ?_;refine tN 8 ?_;refine tF 9 ?_;refine tF 10 ?_;refine tL 11 ?_;refine tM 12 ?_;refine tN 13 ?_;refine tF 14 ?_;refine tF 15 ?_;refine tL 16 ?_;refine tM 17 ?_;refine tN 18 ?_;refine tF 19 ?_;refine tF 20 ?_;refine tL 21 ?_)
 refine tO 22 ?_;refine bg rfl rfl (Ct.C9 zP zP (GC _ e f gl d k (cV 0) { ls with last:=none } c.f recs hc.f MR hg)) ?_;rintro _ _ ⟨gf,rfl,rfl⟩;refine ⟨fun _=>zE,?_⟩
 (refine tM 23 ?_;refine tk 24 _ rfl (bn rfl rfl) ?_;refine tk 25 _ rfl (bn rfl rfl) ?_;refine tA 26 ?_;(refine tO 27 ?_;refine dV (bj rfl) ?_))
 refine bf zK ?_;refine wB ?_;exact aY (cM w (qS c (.slice (some ⟨gp,op,none⟩) lp kp) (ptr gl) (ptr gf) pg yJ vu vm vn sh iO vt ve zx zC zD vr zG zH) dv (0,0)::eS gf f gl c.f ⟨recs,(kJ ls.cI recs).map fun b=>(b,zk)⟩::db gl d k (cV 0) { ls with last:=none }::R) rfl zE ⟨rfl,gl,gf,rfl⟩
theorem uT (w:Nat) (c:dx) (vl vf yJ vu vm vn sh iO vt ve zx zC zD vr zG zH:Value) (gp op lp kp gd od kd d k i gw nw kw:Nat) (zJ:List Value) (s:eX) (hi:i<3) (Lz:i+1<lp) (fS:i<nw) (wv:zJ.length=nw)
 (h0:Rd R ⟨gp,op+(i+1)*2,none⟩ (.slice (some ⟨gd,od,none⟩) 2 kd)) (h1:Rd R ⟨gd,od,none⟩ (ptr d)) (h2:Rd R ⟨gd,od+1,none⟩ (ptr k)) (yW:da R sh eL) (hs:s.ok) (kD:s.recs.length≤1000) :
 Ct prog 162 #[ptr w,.int .i64 (i:Int)] e (cM w (qS c (.slice (some ⟨gp,op,none⟩) lp kp) vl vf (.slice (some ⟨gw,0,none⟩) nw kw) yJ vu vm vn sh iO vt ve zx zC zD vr zG zH) dv (0,0)::dJ tT 1 (.slice (some ⟨gw,0,none⟩) nw kw) nw zJ::dl d (dM s.jb)::dl k (eH s.keys 1048576)::R)
  (fun v' L'=>v'=.int .i64 0∧∃ g,L'=cM w (qS c (.slice (some ⟨gp,op,none⟩) lp kp) vl vf (.slice (some ⟨gw,0,none⟩) nw kw) yJ vu vm vn sh iO vt ve zx zC zD vr zG zH) dv (0,0)::dJ tT 1 (.slice (some ⟨gw,0,none⟩) nw kw) nw (zJ.set i (ptr g))::nT g d k i (cV (i+1)) eL { s with dO:=ig,some:=false }::R):=by
 have Tz:eL.length=32:=lj _;refine a7 (cz (yW.cN (show cC _ R from zE))) fun o1=>?_
 refine a8 (args:=[_,_]) func162 rfl ntmps162 results162 rfl ?_;refine wB ?_;refine bl (id:=2) [20] (cM w (qS c (.slice (some ⟨gp,op,none⟩) lp kp) vl vf (.slice (some ⟨gw,0,none⟩) nw kw) yJ vu vm vn sh iO vt ve zx zC zD vr zG zH) dv (0,0)::R) mixed ?_;refine tM 0 ?_;refine tk 1 _ rfl (cE.dQ rfl rfl (by decide)) ?_;refine tk 2 _ rfl (bq rfl (h1.cN zE)) ?_;refine tM 3 ?_;refine tk 4 _ rfl (cE.dQ rfl rfl (by decide)) ?_;refine tk 5 _ rfl (bq rfl (h2.cN zE)) ?_
 (refine tM 6 ?_;refine tM 7 ?_;refine tk 8 _ rfl (cE.la rfl rfl zo) ?_;refine tM 10 ?_;refine tN 11 ?_;refine tF 12 ?_;refine tF 13 ?_;refine tL 14 ?_)
 rw [show ((i:Int)+1)=((i+1:Nat):Int) by omega];refine tO 9 ?_;refine bg rfl rfl (oW _ e (i+1) zo) ?_;rintro _ _ ⟨ad,ks,rfl,rfl⟩;refine ⟨fun _=>zE,?_⟩;refine tO 15 ?_;refine bg rfl rfl (Ct.C9 zP zP (GJ _ e d k i _ sh (cV (i+1)) eL s (ba (show cT _ (cR (.slice ad (cV (i+1)).length ks) (cV (i+1))) _ from zP)) (yW.cN zE) (oV _) Tz zo hs kD)) ?_;rintro _ _ ⟨g,rfl,rfl⟩;refine ⟨fun _=>zE,?_⟩
 (refine tM 16 ?_;refine tk 17 _ rfl (bn rfl rfl) ?_;refine tk 18 _ rfl (bn rfl rfl) ?_;refine tA 19 ?_;(refine tO 20 ?_;refine dV (bj rfl) ?_))
 refine bf zK ?_;refine wB ?_;simp only [aC,Nat.mul_one];exact aY (cM w (qS c (.slice (some ⟨gp,op,none⟩) lp kp) vl vf (.slice (some ⟨gw,0,none⟩) nw kw) yJ vu vm vn sh iO vt ve zx zC zD vr zG zH) dv (0,0)::dJ tT 1 (.slice (some ⟨gw,0,none⟩) nw kw) nw (zJ.set i (ptr g))::nT g d k i (cV (i+1)) eL { s with dO:=ig,some:=false }::R) rfl zE ⟨rfl,g,rfl⟩
theorem CM (w:Nat) (c:dx) (vl vf yJ vu vm vn sh iO vt ve zx zC zD vr zG zH:Value) (gp op lp kp gd od kd d k i gw nw kw x y:Nat) (zJ:List Value) (s:eX) (hi:i<3) (Lz:i+1<lp) (fS:i<nw) (wv:zJ.length=nw)
 (hx:Rd R ⟨x,0,none⟩ (ptr w)) (hy:Rd R ⟨y,0,none⟩ (.int .i64 (i:Int)))
 (h0:Rd R ⟨gp,op+(i+1)*2,none⟩ (.slice (some ⟨gd,od,none⟩) 2 kd)) (h1:Rd R ⟨gd,od,none⟩ (ptr d)) (h2:Rd R ⟨gd,od+1,none⟩ (ptr k)) (yW:da R sh eL) (hs:s.ok) (kD:s.recs.length≤1000) :
 Ct prog 161 #[ptr x,ptr y] e (cM w (qS c (.slice (some ⟨gp,op,none⟩) lp kp) vl vf (.slice (some ⟨gw,0,none⟩) nw kw) yJ vu vm vn sh iO vt ve zx zC zD vr zG zH) dv (0,0)::dJ tT 1 (.slice (some ⟨gw,0,none⟩) nw kw) nw zJ::dl d (dM s.jb)::dl k (eH s.keys 1048576)::R)
  (fun v' L'=>v'=.int .i64 0∧∃ g,L'=cM w (qS c (.slice (some ⟨gp,op,none⟩) lp kp) vl vf (.slice (some ⟨gw,0,none⟩) nw kw) yJ vu vm vn sh iO vt ve zx zC zD vr zG zH) dv (0,0)::dJ tT 1 (.slice (some ⟨gw,0,none⟩) nw kw) nw (zJ.set i (ptr g))::nT g d k i (cV (i+1)) eL { s with dO:=ig,some:=false }::R):=by
 refine a8 (args:=[_,_]) func161 rfl ntmps161 results161 rfl ?_;refine wB ?_;refine aZ rfl rfl (uT R e w c vl vf yJ vu vm vn sh iO vt ve zx zC zD vr zG zH gp op lp kp gd od kd d k i gw nw kw zJ s hi Lz fS wv h0 h1 h2 yW hs kD) ?_;rintro _ _ ⟨rfl,g,rfl⟩;refine wB ?_;exact aY (cM w (qS c (.slice (some ⟨gp,op,none⟩) lp kp) vl vf (.slice (some ⟨gw,0,none⟩) nw kw) yJ vu vm vn sh iO vt ve zx zC zD vr zG zH) dv (0,0)::dJ tT 1 (.slice (some ⟨gw,0,none⟩) nw kw) nw (zJ.set i (ptr g))::nT g d k i (cV (i+1)) eL { s with dO:=ig,some:=false }::R) rfl zE ⟨rfl,g,rfl⟩
theorem J9:pc jV:=by
 refine ⟨by decide,by decide,fun b hb=>?_⟩;simp only [jV,aQ,aO,or_false] at hb
 rcases hb with rfl|rfl|rfl|rfl<;>decide
theorem uU (w:Nat) (c:dx) (hc:c.ok) (vl vf pg yJ vu vm vn sh iO vt ve zx zC zD vr zG zH:Value) (gp op kp gd od kd d:Nat) (s:m7)
 (h0:Rd R ⟨gp,op+(c.k+1)*2,none⟩ (.slice (some ⟨gd,od,none⟩) 1 kd)) (h1:Rd R ⟨gd,od,none⟩ (ptr d)) (yW:j3 R sh iO (df c)) (hs:s.ok jV) :
 Ct prog 163 #[ptr w] e (cM w (qS c (.slice (some ⟨gp,op,none⟩) (c.k+2) kp) vl vf pg yJ vu vm vn sh iO vt ve zx zC zD vr zG zH) dv (0,0)::dl d (dM (fi s.recs))::R)
  (fun v' L'=>v'=.int .i64 0∧∃ g,L'=cM w (qS c (.slice (some ⟨gp,op,none⟩) (c.k+2) kp) vl vf pg yJ (ptr g) vm vn sh iO vt ve zx zC zD vr zG zH) dv (0,0)::mL g d jV (df c) s::R):=by
 have hk:=hc.k;refine a7 (cz (yW.log.cN (show cC _ R from zE))) fun o1=>?_
 refine a7 (yW.ey.cN (show cC _ R from zE)).one fun o2=>?_
 refine a8 (args:=[_]) func163 rfl ntmps163 results163 rfl ?_;refine wB ?_;refine bl (id:=1) [29] (cM w (qS c (.slice (some ⟨gp,op,none⟩) (c.k+2) kp) vl vf pg yJ vu vm vn sh iO vt ve zx zC zD vr zG zH) dv (0,0)::R) mixed ?_
 (refine tM 0 ?_;refine tN 1 ?_;refine tF 2 ?_;refine tL 3 ?_;refine tM 4 ?_;refine tN 5 ?_;refine tF 6 ?_;refine tL 7 ?_;refine tk 8 _ rfl (bO rfl) ?_;refine tk 9 _ rfl (cE.jL rfl rfl zo) ?_)
 rw [show (((c.k+2:Nat):Int) - 1)=((c.k+1:Nat):Int) by omega]
 (refine tk 10 _ rfl (cE.dQ rfl rfl zo) ?_;refine tF 11 ?_)
 refine tk 12 _ rfl (bq rfl (h0.cN zE)) ?_;refine tk 13 _ rfl (cE.dQ rfl rfl (by decide)) ?_;refine tk 14 _ rfl (bq rfl (h1.cN zE)) ?_
 (refine tM 15 ?_;refine tN 16 ?_;refine tF 17 ?_;refine tF 18 ?_;refine tL 19 ?_;refine tM 20 ?_;refine tN 21 ?_;refine tF 22 ?_;refine tk 23 _ rfl (cE.dj rfl zP zI zX) ?_)
 refine tO 24 ?_;refine bg rfl rfl (Ct.at zP (G5 _ e d jV sh iO (df c) s (yW.cN zE) hc.wJ J9 hs)) ?_;rintro _ _ ⟨g,rfl,rfl⟩;refine ⟨fun _=>zE,?_⟩
 (refine tM 25 ?_;refine tk 26 _ rfl (bn rfl rfl) ?_;refine tk 27 _ rfl (bn rfl rfl) ?_;refine tA 28 ?_;(refine tO 29 ?_;refine dV (bj rfl) ?_))
 refine bf zK ?_;refine wB ?_;exact aY (cM w (qS c (.slice (some ⟨gp,op,none⟩) (c.k+2) kp) vl vf pg yJ (ptr g) vm vn sh iO vt ve zx zC zD vr zG zH) dv (0,0)::mL g d jV (df c) s::R) rfl zE ⟨rfl,g,rfl⟩
abbrev tCh:TypeId:=83
abbrev Xj:Value:=.agg #[.int .i64 0,.int .i64 0,nY,nY]
theorem ER (k:Fin 1000 × Fin 1000):∀ l:List ((Fin 1000 × Fin 1000) × jn),∃ t:jn,(ic k (wL l)).getD Xj=.agg (jn.cells t).toArray∧((ic k (wL l)).isSome=true→∃ p∈l,p.2=t)∧((ic k (wL l)).isSome=false→t=(ig,nY,nY))
 | []=>⟨(ig,nY,nY),rfl,fun h=>(by cases h),fun _=>rfl⟩
 | p::l=>by
  obtain ⟨t,h1,h2,h4⟩:=ER k l;have hc:ic k (wL (p::l))=if p.1=k then some (.agg (jn.cells p.2).toArray) else ic k (wL l):=rfl
  rw [hc]
  by_cases h:p.1=k
  ·rw [aH h];exact ⟨p.2,rfl,fun _=>⟨p,List.mem_cons_self ..,rfl⟩,fun q=>by cases q⟩
  ·rw [aB h];exact ⟨t,h1,fun q=>by obtain ⟨y,hy,h3⟩:=h2 q;exact ⟨y,aU _ hy,h3⟩,h4⟩
theorem CN (k:Fin 1000 × Fin 1000) (t:jn):∀ l:List ((Fin 1000 × Fin 1000) × jn),∃ l',mD k (.agg (jn.cells t).toArray) (wL l)=wL l'∧∀ p∈l',p∈l∨p=(k,t)
 | []=>⟨[(k,t)],rfl,fun p hp=>.inr (an.1 hp)⟩
 | y::l=>by
  show ∃ l',mD k _ ((y.1,Value.agg (jn.cells y.2).toArray)::wL l)=_∧_
  unfold mD
  by_cases h:y.1=k
  ·rw [aH h]
   exact ⟨(k,t)::l,rfl,fun p hp=>by
    rcases aQ.1 hp with hp|hp
    ·exact .inr hp
    ·exact .inl (aU _ hp)⟩
  ·rw [aB h];obtain ⟨l',h1,h2⟩:=CN k t l
   exact ⟨y::l',by rw [h1];rfl,fun p hp=>by
    rcases aQ.1 hp with hp|hp
    ·exact .inl (by rw [hp];exact List.mem_cons_self ..)
    ·exact (h2 p hp).imp (aU _) id⟩
theorem eO.ok.put {a:eO} {M:cK} {w:Nat} {c:dx} {m:Nat} {s:dh} (h:a.ok M w c m s) (kc:List ((Fin 1000 × Fin 1000) × jn)) (hk:∀ p∈kc,jn.ok [M] p.2):eO.ok { a with kc:=kc } M w c m s:={ h with kc:=hk,all:=⟨h.all.all⟩ }
theorem CO {A B C:cK}:cC [dI [A,B,C]] [A]:=cn (cW (M:=[_,_,_]) (L:=[])) (bh bK)
theorem Mv {A B C:cK}:cC [dI [A,B,C]] [B]:=cn (cW (M:=[_,_,_]) (L:=[])) (cC.drop (bh bK))
theorem Mw {A B C:cK}:cC [dI [A,B,C]] [C]:=cn (cW (M:=[_,_,_]) (L:=[])) (cC.drop (cC.drop (bh bK)))
theorem si (g k:Nat) (l:List gV) (ei:List gh) (x:gh) (m:gV) (hl:l.map gV.d=ei.map (gh.d k)) (hd:m.d=x.d k) (hr:da (Net g 32 l::R) m.v m.b) (hb:m.b.length≤140737488351232) (hn:ei.length≤32) :
 Ct prog 176 #[pt g,.agg m.cells.toArray] e (Net g 32 l::R) (fun v' L'=>v'=.bool (decide (ei.length<32))∧∃ l':List gV,l'.map gV.d=(if ei.length<32 then ei++[x] else ei).map (gh.d k)∧L'=Net g 32 l'::R):=by
 have CZ:l.length=ei.length:=by have:=congrArg List.length hl;simpa using this
 refine (sf R e g 32 l m hr hb zo zo).mono fun v' L' h=>?_
 rcases h with ⟨h1,rfl,v2,rfl⟩|⟨h1,rfl,rfl⟩
 ·refine ⟨by rw [ay zo],_,?_,rfl⟩;rw [aH zo,ah,ah,hl,List.map_cons,List.map_cons,← hd]
  rfl
 ·refine ⟨by rw [aq zo],_,?_,rfl⟩;rw [aB zo];exact hl
theorem ES (w:Nat) (c:dx) (m:Nat) (s:dh) (ev:List (Int × Int × Int × dA)) (v:Value) (j n k:Nat) (x:jU) (path:List dA) (hv:da R v (qh x n k path)) (hx:gh.ok c s.ls.cI (.ask j x n k path)) (hm:m<250) :
 Ct prog 178 #[pt w,.int .i64 ((j+1:Nat):Int),v] e (eg w c m s ev::R) (fun v' L'=>v'=.int .i64 (s.wm j x.dd n)∧∃ mQ,vJ mQ (s.asked j x.dd n)∧L'=eg w c (m+1) (s.asked j x.dd n) (ev++mQ)::R):=by
 obtain ⟨h0,hj,MO,hk,M3,Pf⟩:=hx;subst hk;refine iT fun a M ha he=>?_
 have ft:=ha.st;have RH:=ha.ec;have Lx:=ft.Cc.k;have kD:=ft.short;have mS:=dh.EQ ft hm hj MO h0 (n:=n);have wI:=ql (l:=s.ls.cI.take x.dd.size) (n:=n) (by rw [aE];omega);rw [← Pf] at wI
 have TT:=MO.1.1.1;obtain ⟨kf,Qu⟩:∃ kf:Fin 1000 × Fin 1000,kf=(⟨x.dd.size,by omega⟩,⟨j,by omega⟩):=⟨_,rfl⟩
 have RI:jB kf=.agg #[.int .i64 (x.dd.size:Int),.int .i64 (j:Int)]:=by rw [Qu];rfl
 obtain ⟨t0,IX,HE,ht2⟩:=ER kf a.kc
 have hg0:(ic kf (wL a.kc)).isSome=true→jn.ok [M] t0:=fun q=>by
  obtain ⟨p,hp,rfl⟩:=HE q;exact ha.kc p hp
 refine a7 (p:=∀ y∈jn.cells t0,y.oneCell'=true) (fun hh hs=>?_) fun nk=>?_
 ·cases hq:(ic kf (wL a.kc)).isSome with
  | true =>
   have:=jn.TI (L:=eA w c s a M R) (ts:=[t0]) (fun t ht=>by rw [an.1 ht];exact (hg0 hq).cN (cH (show cT (eA w c s a M R) M _ from zP))) hh hs
   simpa using this
  | false =>
   rw [ht2 hq]
   exact fun y hy=>by
    simp only [jn.cells,iy,aQ,aO,or_false] at hy
    rcases hy with rfl|rfl|rfl|rfl<;>rfl
 obtain ⟨k1,k2,k3,k4,k5⟩:=ft.gy hj;obtain ⟨w1,w2,w3,w4,w5⟩:=Ik ft hj (n:=n) MO;obtain ⟨vl,vu,vs,NO,Ka,-⟩:=ha.all.all;have TU:j<a.wx.length:=by omega
 have hjw:j<s.ws.length:=by rw [ft.wl];exact hj
 have TV:a.wx[j]?=some (a.wx[j]'TU):=ae TU
 generalize a.wx[j]'TU=wx at TV
 refine a7 ((ba (show cT (eA w c s a M R) (dJ tT 1 a.pg a.wx.length (a.wx.map l9)) _ from zP)).shape zo) ?_;rintro ⟨⟨Fe,cw,C5,yS,HX,zi,tS⟩,_⟩;rcases tS with tS|⟨gq,oq,Xk⟩
 ·omega
 subst Xk
 have OK:∀ (L R':List cK),cT L (dJ tT 1 a.pg a.wx.length (a.wx.map l9)) R'→Rd L ⟨gq,oq+j,none⟩ (pt wx.g):=fun L R' pl=>by
  rw [C5] at pl
  exact (ba pl).elem (by rw [aI,TV];rfl)
 refine a8 (args:=[_,_,_]) func178 rfl ntmps178 results178 rfl ?_;refine wB ?_;refine aZ rfl rfl (yF _ e v x n x.dd.size path (hv.cN zE) MO.1.1 MO.2.1 zo zo wI.1 wI.2) ?_;rintro _ _ ⟨N,ur,up,uq,ad,kk,ts,rfl,fx,hN,pa,I7,rfl⟩;refine bo (cz (hN.root.cN (cH zP))) fun o3=>?_
 refine bo (hN.sig.cN (cH zP)).parts.one fun o4=>?_
 refine bo (hN.sig.cN (cH zP)).path.one fun o5=>?_
 (repeat (refine wA ?_;intros))
 rename_i g7 g8;rw [C5,show (((j+1:Nat):Int) - 1)=(j:Int) by omega]
 (repeat (refine wA ?_;intros))
 refine b7 rfl (OK _ _ zP) rfl ?_;refine wB ?_;refine O.fo (cn (bz (show cT _ (dI (mO 0 a.wx s.ws)) _ from zP) aX) (Mo TV k5)) ?_;have MX:=fun L hxL Ql htL=>Ch L e wx.g wx.d wx.k j (cV (j+1)) eL (s.gy j) ur up uq (.slice ad ts.length kk) x n x.dd.size ts hxL MO.1.1 MO.2.1.fits zo zo zo Ql htL zo
 obtain ⟨q1,q2⟩:=Mr (j:=j) (ts:=ts) MO k3 zo M3 (by rw [fx];exact Pf);rw [q1,q2] at MX
 refine aZ rfl rfl (MX _ (hN.cN (cH zP)) (pa.cN (cH zP)) (fun y hy=>(I7 y hy).cN (cH zP))) ?_;rintro v0 _ ⟨hy,lF⟩
 by_cases hE:s.wm j x.dd n=0
 ·obtain ⟨N2,wp,wq,rfl,m5,rfl⟩:=hy hE;clear hy lF MX;refine bo (m5.cN (cH zP)).parts.one fun o6=>?_
  refine bo (m5.cN (cH zP)).path.one fun o7=>?_
  have hb:=ha.st;obtain ⟨s1,fy⟩:∃ s1:dh,s1={ s with ws:=s.ws.set j (s.iW j x.dd n) }:=⟨_,rfl⟩
  have QS:s.asked j x.dd n=s1.send (.iX j (s.iW j x.dd n).dO):=by unfold dh.asked dh.Oi;rw [aH hE,fy]
  have hyw:=w4 (w5 hE);rw [QS] at mS ⊢
  rw [hE]
  have Tm:cC (wk j wx (s.iW j x.dd n)::dI (qm 0 j a.wx s.ws)::cM w (a.cells c s) dv (0,0)::lM a.ve a.es::kG jH a.mr a.kr::kG jH a.ml a.kl::kG jB a.mc (wL a.kc)::M::eS a.gf a.J0 a.gl c.f s.fs::db a.gl a.ld a.lk (cV 0) s.ls::dJ tT 1 a.pg a.wx.length (a.wx.map l9)::mq a.qi (df c) c.retry s.n s.fd::mL a.gu a.ud jV (df c) s.up::gR a.gm eL s.mo::Net a.gn 32 a.nl::R) (eA w c s1 a M R):=by
   have:=Ii (R:=cM w (a.cells c s) dv (0,0)::lM a.ve a.es::kG jH a.mr a.kr::kG jH a.ml a.kl::kG jB a.mc (wL a.kc)::M::eS a.gf a.J0 a.gl c.f s.fs::db a.gl a.ld a.lk (cV 0) s.ls::dJ tT 1 a.pg a.wx.length (a.wx.map l9)::mq a.qi (df c) c.retry s.n s.fd::mL a.gu a.ud jV (df c) s.up::gR a.gm eL s.mo::Net a.gn 32 a.nl::R) (x:=wx) (s:=s.iW j x.dd n) TU hjw;rw [tK _ _ _ TV] at this
   rw [fy];exact cn this zE
  generalize hg:(s.iW j x.dd n).dO=g at *
  (repeat (refine wA ?_;intros))
  rename_i C6;refine O.fo (show cC _ (cM C6 (iy g wp wq) nu (0,0)::N2::cM g7 (dT x ur up uq) qQ (0,0)::N::eA w c s1 a M R) from ?_) ?_
  ·exact cn (show cC _ (cM C6 (iy g wp wq) nu (0,0)::N2::cM g7 (dT x ur up uq) qQ (0,0)::N::wk j wx (s.iW j x.dd n)::dI (qm 0 j a.wx s.ws)::cM w (a.cells c s) dv (0,0)::lM a.ve a.es::kG jH a.mr a.kr::kG jH a.ml a.kl::kG jB a.mc (wL a.kc)::M::eS a.gf a.J0 a.gl c.f s.fs::db a.gl a.ld a.lk (cV 0) s.ls::dJ tT 1 a.pg a.wx.length (a.wx.map l9)::mq a.qi (df c) c.retry s.n s.fd::mL a.gu a.ud jV (df c) s.up::gR a.gm eL s.mo::Net a.gn 32 a.nl::R) from zE) (bh (bh (bh (bh Tm))))
  refine aZ rfl rfl (ji _ e) ?_;rintro _ _ ⟨gw,rfl,rfl⟩;refine wB ?_;refine aZ rfl rfl (mm _ e gw [] 1 (by simp)) ?_;rintro _ _ ⟨rfl,rfl⟩;rw [show []++[(1:UInt8)]=[1] from rfl];refine wB ?_;refine aZ rfl rfl (AG _ e gw [1] wp wq g (m5.cN (cH zP)) zo hyw.2 (by simp)) ?_;rintro _ _ ⟨rfl,rfl⟩;have nZ:([1]++eU g:dA).length=2182:=by rw [aa,k6 hyw.2];rfl
  rw [show ([1]++eU g:dA)=1::eU g from rfl] at nZ ⊢
  have Ad:a.nl.map gV.d=s1.ei.map (gh.d c.k):=by rw [fy];exact ha.ei
  have Ko:s1.ei.length≤32:=by rw [fy];exact ft.room
  have Wk:s1.send (.iX j g)={ s1 with ei:=if s1.ei.length<32 then s1.ei++[.iX j g] else s1.ei }:=rfl;refine wB ?_;refine bl (id:=12) [] (cM w (a.cells c s1) dv (0,0)::R) mixed ?_
  (refine tM 0 ?_;refine tN 1 ?_;refine tF 2 ?_;refine tL 3 ?_;refine tM 4 ?_;refine tM 5 ?_)
  refine tO 6 ?_;refine bg rfl rfl (hI _ e gw (1::eU g) zo) ?_;rintro _ _ ⟨ep,k3,rfl,rfl⟩;refine ⟨fun _=>zE,?_⟩;refine tk 7 _ rfl (bL rfl zF) ?_;refine tO 8 ?_;refine bg rfl rfl (Ct.at zP (si _ e a.gn c.k a.nl s1.ei (.iX j g) ⟨2,((j+1:Nat):Int),0,.slice ep (1::eU g:dA).length k3,1::eU g⟩ Ad rfl (ba (show cT _ (cR (.slice ep (1::eU g:dA).length k3) (1::eU g)) _ from zP)) zd Ko)) ?_;rintro _ _ ⟨rfl,Im,My,rfl⟩;refine ⟨fun _=>zE,?_⟩;refine bf zK ?_;have QT:s1.signed=s.signed:=by rw [fy]
  have eI:eO.ok { a with nl:=Im } M w c (m+1) (s1.send (.iX j g)) :=
   {ha with ei:=My,st:=mS,ec:=by show a.es.length≤_;omega,all:=⟨ha.all.all⟩,root:=by show da [M] a.vr (dh.sv (s1.send (.iX j g))).root;rw [show dh.sv (s1.send (.iX j g))=s.sv by unfold dh.sv;rw [← QT];rfl];exact ha.root }
  (repeat' first|refine W.rn (id:=15) (fun q:(Nat × Nat) × Bool=>[(0,pt w),(1,.int .i64 ((j+1:Nat):Int)),(7,pt g7),(11,pt C6),(12,.int .i64 0),(14,pt q.1.1),(15,pt q.1.2),(16,.bool q.2)]) (fun q=>cM q.1.2 (jn.cells t0) nu (0,0)::cM q.1.1 [.int .i64 (x.dd.size:Int),.int .i64 (j:Int)] mM (0,0)::cM C6 (iy g wp wq) nu (0,0)::N2::cM g7 (dT x ur up uq) qQ (0,0)::N::eA w c (s1.send (.iX j g)) { a with nl:=Im } M R) (fun q=>q.2=(ic kf (wL a.kc)).isSome) ?_ ?_|refine Za ?_|apply Zc|apply Zd|apply Ze|apply Zf|refine Zh ?_|refine Zi ?_|refine ZU ?_|refine Ye ?_|refine Yh fun _=>?_|refine YR ?_|fail)
  rotate_left
  ·refine ⟨?_⟩;rename_i zu;refine W.ir [(0,pt w),(1,.int .i64 ((j+1:Nat):Int)),(7,pt g7),(11,pt C6),(12,.int .i64 0),(14,pt zu)] zS ?_;refine bl (id:=14) [11] (cM zu [.int .i64 (x.dd.size:Int),.int .i64 (j:Int)] mM (0,0)::cM w (a.cells c s1) dv (0,0)::R) mixed ?_
   (refine tM 0 ?_;refine tN 1 ?_;refine tF 2 ?_;refine tL 3 ?_;refine tJ 4 ?_)
   refine A.two 5 9 rfl rfl rfl rfl zK ?_ ?_
   ·refine bP (cE.k8 (key:=jB) (k:=kf) rfl (by rw [RI];rfl) zP) rfl ⟨fun _=>zE,?_⟩;rw [IX]
    (refine tM 6 ?_;refine tk 7 _ rfl (bn rfl rfl) ?_;refine tk 8 _ rfl (bn rfl rfl) ?_)
    refine tO 9 ?_;refine bS (cs:=[.int .i64 0,.int .i64 0,nY,nY]) rfl rfl fun RJ=>⟨fun _=>zE,?_⟩
    refine tO 10 ?_;apply Do.ej;exact rfl;exact rfl;exact rfl;exact nk;exact zU;exact zW;refine ⟨fun _=>zE,?_⟩
    ((refine tO 11 ?_;refine dV (bj rfl) ?_))
    refine bf zK ?_;exact bH ((zu,RJ),(ic kf (wL a.kc)).isSome) rfl zS zE
   ·refine bS (cs:=[.int .i64 0,.int .i64 0,nY,nY]) rfl rfl fun RJ=>⟨fun _=>zE,?_⟩
    refine tO 5 ?_;refine bP (cE.k8 (key:=jB) (k:=kf) rfl (by rw [RI];rfl) zP) rfl ⟨fun _=>zE,?_⟩;rw [IX]
    (refine tM 6 ?_;refine tk 7 _ rfl (bn rfl rfl) ?_;refine tk 8 _ rfl (bn rfl rfl) ?_)
    refine tO 10 ?_;apply Do.ej;exact rfl;exact rfl;exact rfl;exact nk;exact zU;exact zW;refine ⟨fun _=>zE,?_⟩
    ((refine tO 11 ?_;refine dV (bj rfl) ?_))
    refine bf zK ?_;exact bH ((zu,RJ),(ic kf (wL a.kc)).isSome) rfl zS zE
  rintro ⟨⟨zu,RJ⟩,told⟩ Pg;dsimp only at Pg ⊢
  obtain ⟨b,hb⟩:∃ b:eO,b={ a with nl:=Im }:=⟨_,rfl⟩
  rw [← hb] at eI ⊢
  obtain ⟨s2,kY⟩:∃ s2:dh,s2=s1.send (.iX j g):=⟨_,rfl⟩
  rw [← kY] at eI ⊢
  have hbc:b.kc=a.kc:=by rw [hb]
  have BH:b.es=a.es:=by rw [hb]
  have Ol:s2.fs.recs≠[]:=by rw [kY,fy];exact ft.some h0
  have Hv:b.es.length≤600*m:=by rw [BH];exact RH
  cases told with
  | false =>
   refine wB ?_;refine W.ir [(0,pt w),(1,.int .i64 ((j+1:Nat):Int)),(7,pt g7),(11,pt C6),(12,.int .i64 0),(14,pt zu)] zS ?_;refine bl (id:=16) [6] (cM zu [.int .i64 (x.dd.size:Int),.int .i64 (j:Int)] mM (0,0)::cM C6 (iy g wp wq) nu (0,0)::eA w c s2 b M R) mixed ?_
   (refine tM 0 ?_;refine tN 1 ?_;refine tF 2 ?_;refine tL 3 ?_;refine tJ 4 ?_;refine tJ 5 ?_)
   refine tO 6 ?_;refine Do.kS (key:=jB) (k:=kf) rfl (by rw [RI];rfl) rfl zP ⟨zN,?_⟩;refine bf zK ?_;obtain ⟨QU,OT,FF⟩:=CN kf (g,wp,wq) b.kc;rw [show mD kf (Value.agg (iy g wp wq).toArray) (wL b.kc)=wL QU from OT];refine wB ?_;rw [show (((j+1:Nat):Int) - 1)=(j:Int) by omega];refine aZ rfl rfl (Ct.C9 zP zP (j7 _ e w c s2 { b with kc:=QU } 4 (x.dd.size:Int) (j:Int) ur x.dd.root o3 zd)) ?_;rintro _ _ ⟨rfl,ve,rfl⟩
   have qk:=(((eI.more (CO (A:=M) (B:=N) (C:=N2))).put QU (fun p hp=>by
    rcases FF p hp with hp|rfl
    ·exact ((eI.kc p hp).cN CO)
    ·exact ⟨m5.cN Mw,by show g.gy<_;omega⟩)).seen (x:=⟨4,(x.dd.size:Int),(j:Int),ur,x.dd.root⟩) ve (hN.root.cN Mv) zd)
   refine wB ?_;refine aY (eg w c (m+1) s2 (ev++[(4,(x.dd.size:Int),(j:Int),x.dd.root)])::R) rfl (cn ?_ (eo qk (by dsimp only;rw [ah,BH,he];rfl))) ⟨rfl,_,?_,rfl⟩
   ·exact cn (qE (A:=M) (B:=N) (C:=N2) zP zP zP) zE
   ·intro y hy;rw [an.1 hy];exact ⟨(by decide:(4:Int)≠3),.inr Ol⟩
  | true =>
   have HH:=hg0 Pg.symm;obtain ⟨⟨w0,Xl⟩,tp,tq⟩:=t0;obtain ⟨t1,t2⟩:=HH;dsimp only at t1 t2
   have Ux:∀ {L R':List cK},cT L M R'→fK L tp tq Xl:=fun pl=>t1.cN (cH pl)
   dsimp only [jn.cells];refine wB ?_;refine aZ rfl rfl (F4 _ e tp tq wp wq ⟨w0,Xl⟩ g (Ux (show cT _ M _ from zP)) (m5.cN (cH (show cT _ N2 _ from zP)))) ?_;rintro _ _ ⟨rfl,rfl⟩
   by_cases Ph:(⟨w0,Xl⟩:kF)=g
   ·rw [ay Ph];refine wB ?_;refine aY (eg w c (m+1) s2 ev::R) rfl (cn (show cC _ (eA w c s2 b M R) from zE) (eo eI (by rw [BH];exact he))) ⟨rfl,[],vJ.nil,by rw [aK]⟩
   ·rw [aq Ph];refine wB ?_;refine W.ir [(0,pt w),(1,.int .i64 ((j+1:Nat):Int)),(7,pt g7),(11,pt C6),(12,.int .i64 0),(14,pt zu)] zS ?_;refine bl (id:=16) [6] (cM zu [.int .i64 (x.dd.size:Int),.int .i64 (j:Int)] mM (0,0)::cM C6 (iy g wp wq) nu (0,0)::eA w c s2 b M R) mixed ?_
    (refine tM 0 ?_;refine tN 1 ?_;refine tF 2 ?_;refine tL 3 ?_;refine tJ 4 ?_;refine tJ 5 ?_)
    refine tO 6 ?_;refine Do.kS (key:=jB) (k:=kf) rfl (by rw [RI];rfl) rfl zP ⟨zN,?_⟩;refine bf zK ?_;obtain ⟨QU,OT,FF⟩:=CN kf (g,wp,wq) b.kc;rw [show mD kf (Value.agg (iy g wp wq).toArray) (wL b.kc)=wL QU from OT];refine wB ?_;rw [show (((j+1:Nat):Int) - 1)=(j:Int) by omega];refine aZ rfl rfl (Ct.C9 zP zP (j7 _ e w c s2 { b with kc:=QU } 4 (x.dd.size:Int) (j:Int) ur x.dd.root o3 zd)) ?_;rintro _ _ ⟨rfl,ve,rfl⟩
    have qk:=(((eI.more (CO (A:=M) (B:=N) (C:=N2))).put QU (fun p hp=>by
     rcases FF p hp with hp|rfl
     ·exact ((eI.kc p hp).cN CO)
     ·exact ⟨m5.cN Mw,by show g.gy<_;omega⟩)).seen (x:=⟨4,(x.dd.size:Int),(j:Int),ur,x.dd.root⟩) ve (hN.root.cN Mv) zd)
    refine wB ?_;refine aY (eg w c (m+1) s2 (ev++[(4,(x.dd.size:Int),(j:Int),x.dd.root)])::R) rfl (cn ?_ (eo qk (by dsimp only;rw [ah,BH,he];rfl))) ⟨rfl,_,?_,rfl⟩
    ·exact cn (qE (A:=M) (B:=N) (C:=N2) zP zP zP) zE
    ·intro y hy;rw [an.1 hy];exact ⟨(by decide:(4:Int)≠3),.inr Ol⟩
 ·obtain ⟨rfl,rfl⟩:=lF hE;clear hy lF MX;obtain ⟨s1,fy⟩:∃ s1:dh,s1={ s with ws:=s.ws.set j (s.iW j x.dd n) }:=⟨_,rfl⟩
  have QS:s.asked j x.dd n=s1.send (.no j (s.iW j x.dd n).c.size):=by unfold dh.asked dh.Oi;rw [aB hE,fy]
  rw [QS] at mS ⊢
  have Tm:cC (wk j wx (s.iW j x.dd n)::dI (qm 0 j a.wx s.ws)::cM w (a.cells c s) dv (0,0)::lM a.ve a.es::kG jH a.mr a.kr::kG jH a.ml a.kl::kG jB a.mc (wL a.kc)::M::eS a.gf a.J0 a.gl c.f s.fs::db a.gl a.ld a.lk (cV 0) s.ls::dJ tT 1 a.pg a.wx.length (a.wx.map l9)::mq a.qi (df c) c.retry s.n s.fd::mL a.gu a.ud jV (df c) s.up::gR a.gm eL s.mo::Net a.gn 32 a.nl::R) (eA w c s1 a M R):=by
   have:=Ii (R:=cM w (a.cells c s) dv (0,0)::lM a.ve a.es::kG jH a.mr a.kr::kG jH a.ml a.kl::kG jB a.mc (wL a.kc)::M::eS a.gf a.J0 a.gl c.f s.fs::db a.gl a.ld a.lk (cV 0) s.ls::dJ tT 1 a.pg a.wx.length (a.wx.map l9)::mq a.qi (df c) c.retry s.n s.fd::mL a.gu a.ud jV (df c) s.up::gR a.gm eL s.mo::Net a.gn 32 a.nl::R) (x:=wx) (s:=s.iW j x.dd n) TU hjw;rw [tK _ _ _ TV] at this
   rw [fy];exact cn this zE
  generalize hEE:s.wm j x.dd n=E at *
  have Kn:(s.iW j x.dd n).c.size≤256:=(eX.tt w1).1
  (repeat (refine wA ?_;intros))
  rename_i C6;refine aZ rfl rfl (ji _ e) ?_;rintro _ _ ⟨gw,rfl,rfl⟩;refine wB ?_;refine aZ rfl rfl (mm _ e gw [] 0 (by simp)) ?_;rintro _ _ ⟨rfl,rfl⟩;rw [show []++[(0:UInt8)]=[0] from rfl];refine wB ?_;refine aZ rfl rfl (Ct.at zP (En _ e wx.g wx.d wx.k j (cV (j+1)) eL (s.iW j x.dd n))) ?_;rintro _ _ ⟨qN,kr,rfl,rfl⟩;have Xm:∀ w',(Instr.field tCh (.agg #[.int .i64 ((s.iW j x.dd n).c.size:Int),.slice qN (s.iW j x.dd n).c.root.length kr]) 0).run prog w'=.ok (.int .i64 ((s.iW j x.dd n).c.size:Int)) w':=fun w'=>by kernel_rfl
  (repeat' first|(refine bC _ (cE.QN Xm rfl) rfl ?_)|refine ZY ?_|fail)
  refine aZ rfl rfl (Ct.at zP (gG _ e gw [0] (s.iW j x.dd n).c.size zo (by simp))) ?_;rintro _ _ ⟨rfl,rfl⟩;rw [show ([0]++be (s.iW j x.dd n).c.size 4:dA)=0::be (s.iW j x.dd n).c.size 4 from rfl];have nZ:(0::be (s.iW j x.dd n).c.size 4:dA).length=5:=by rw [aR,cY]
  refine O.fo (show cC _ (Writer gw (0::be (s.iW j x.dd n).c.size 4)::cM C6 (iy ig nY nY) nu (0,0)::cM g7 (dT x ur up uq) qQ (0,0)::N::eA w c s1 a M R) from ?_) ?_
  ·exact cn (show cC _ (Writer gw (0::be (s.iW j x.dd n).c.size 4)::cM C6 (iy ig nY nY) nu (0,0)::cM g7 (dT x ur up uq) qQ (0,0)::N::wk j wx (s.iW j x.dd n)::dI (qm 0 j a.wx s.ws)::cM w (a.cells c s) dv (0,0)::lM a.ve a.es::kG jH a.mr a.kr::kG jH a.ml a.kl::kG jB a.mc (wL a.kc)::M::eS a.gf a.J0 a.gl c.f s.fs::db a.gl a.ld a.lk (cV 0) s.ls::dJ tT 1 a.pg a.wx.length (a.wx.map l9)::mq a.qi (df c) c.retry s.n s.fd::mL a.gu a.ud jV (df c) s.up::gR a.gm eL s.mo::Net a.gn 32 a.nl::R) from zE) (bh (bh (bh (bh Tm))))
  generalize ab6:(s.iW j x.dd n).c.size=z at *
  have Ad:a.nl.map gV.d=s1.ei.map (gh.d c.k):=by rw [fy];exact ha.ei
  have Ko:s1.ei.length≤32:=by rw [fy];exact ft.room
  refine wB ?_;refine bl (id:=12) [] (cM w (a.cells c s1) dv (0,0)::R) mixed ?_
  (refine tM 0 ?_;refine tN 1 ?_;refine tF 2 ?_;refine tL 3 ?_;refine tM 4 ?_;refine tM 5 ?_)
  refine tO 6 ?_;refine bg rfl rfl (hI _ e gw (0::be z 4) zo) ?_;rintro _ _ ⟨ep,k3,rfl,rfl⟩;refine ⟨fun _=>zE,?_⟩;refine tk 7 _ rfl (bL rfl zF) ?_;refine tO 8 ?_;refine bg rfl rfl (Ct.at zP (si _ e a.gn c.k a.nl s1.ei (.no j z) ⟨2,((j+1:Nat):Int),0,.slice ep (0::be z 4:dA).length k3,0::be z 4⟩ Ad rfl (ba (show cT _ (cR (.slice ep (0::be z 4:dA).length k3) (0::be z 4)) _ from zP)) zd Ko)) ?_;rintro _ _ ⟨rfl,Im,My,rfl⟩;refine ⟨fun _=>zE,?_⟩;refine bf zK ?_;have QT:s1.signed=s.signed:=by rw [fy]
  have eI:eO.ok { a with nl:=Im } M w c (m+1) (s1.send (.no j z)) :=
   {ha with ei:=My,st:=mS,ec:=by show a.es.length≤_;omega,all:=⟨ha.all.all⟩,root:=by show da [M] a.vr (dh.sv (s1.send (.no j z))).root;rw [show dh.sv (s1.send (.no j z))=s.sv by unfold dh.sv;rw [← QT];rfl];exact ha.root }
  have ab7:∀ R':List cK,Net a.gn 32 Im::eA w c s1 { a with nl:=Im } M R'=Net a.gn 32 Im::eA w c (s1.send (.no j z)) { a with nl:=Im } M R':=fun _=>rfl
  obtain ⟨b,hb⟩:∃ b:eO,b={ a with nl:=Im }:=⟨_,rfl⟩
  obtain ⟨s2,kY⟩:∃ s2:dh,s2=s1.send (.no j z):=⟨_,rfl⟩
  have BH:b.es=a.es:=by rw [hb]
  have hbc:b.kc=a.kc:=by rw [hb]
  (repeat (refine wA ?_;intros))
  rename_i zu;refine W.fo (show cC _ (cM zu [.int .i64 (x.dd.size:Int),.int .i64 (j:Int)] mM (0,0)::eA w c s2 b M R) from ?_) ?_
  ·rw [kY,hb];exact zE
  rw [← hb,← kY] at eI
  rw [← kY];rw [← hbc] at IX
  refine W.ir [(0,pt w),(1,.int .i64 ((j+1:Nat):Int)),(7,pt g7),(11,pt C6),(12,.int .i64 E),(14,pt zu)] zS ?_;refine bl (id:=14) [11] (cM zu [.int .i64 (x.dd.size:Int),.int .i64 (j:Int)] mM (0,0)::cM w (b.cells c s2) dv (0,0)::R) mixed ?_
  (refine tM 0 ?_;refine tN 1 ?_;refine tF 2 ?_;refine tL 3 ?_;refine tJ 4 ?_)
  refine A.two 5 9 rfl rfl rfl rfl zK ?_ ?_
  ·refine bP (cE.k8 (key:=jB) (k:=kf) rfl (by rw [RI];rfl) zP) rfl ⟨fun _=>zE,?_⟩;rw [IX]
   (refine tM 6 ?_;refine tk 7 _ rfl (bn rfl rfl) ?_;refine tk 8 _ rfl (bn rfl rfl) ?_)
   refine tO 9 ?_;refine bS (cs:=[.int .i64 0,.int .i64 0,nY,nY]) rfl rfl fun RJ=>⟨fun _=>zE,?_⟩
   refine tO 10 ?_;apply Do.ej;exact rfl;exact rfl;exact rfl;exact nk;exact zU;exact zW;refine ⟨fun _=>zE,?_⟩
   ((refine tO 11 ?_;refine dV (bj rfl) ?_))
   refine bf zK ?_;refine wB ?_;refine aY (eg w c (m+1) s2 ev::R) rfl (cn (show cC _ (eA w c s2 b M R) from zE) (eo eI (by rw [BH];exact he))) ⟨rfl,[],vJ.nil,by rw [aK]⟩
  ·refine bS (cs:=[.int .i64 0,.int .i64 0,nY,nY]) rfl rfl fun RJ=>⟨fun _=>zE,?_⟩
   refine tO 5 ?_;refine bP (cE.k8 (key:=jB) (k:=kf) rfl (by rw [RI];rfl) zP) rfl ⟨fun _=>zE,?_⟩;rw [IX]
   (refine tM 6 ?_;refine tk 7 _ rfl (bn rfl rfl) ?_;refine tk 8 _ rfl (bn rfl rfl) ?_)
   refine tO 10 ?_;apply Do.ej;exact rfl;exact rfl;exact rfl;exact nk;exact zU;exact zW;refine ⟨fun _=>zE,?_⟩
   ((refine tO 11 ?_;refine dV (bj rfl) ?_))
   refine bf zK ?_;refine wB ?_;refine aY (eg w c (m+1) s2 ev::R) rfl (cn (show cC _ (eA w c s2 b M R) from zE) (eo eI (by rw [BH];exact he))) ⟨rfl,[],vJ.nil,by rw [aK]⟩
def iV {α:Type} (l:List α) (i:Nat):List α:=l.take i++l.drop (i+1)
theorem qJ {α β:Type} (f:α→β) (l:List α) (i:Nat):(iV l i).map f=iV (l.map f) i:=by
 unfold iV;rw [ah,List.map_take,List.map_drop]
theorem Kb {α:Type} {l:List α} {i:Nat} {x:α} (h:x∈iV l i):x∈l:=by
 rcases aJ.1 h with h|h
 ·exact aN h
 ·exact aS h
theorem Kc {α:Type} (l:List α) (i:Nat):(iV l i).length≤l.length:=by
 unfold iV;rw [aa,aE,aP];omega
def dh.lost (s:dh) (i:Nat):dh:={ s with ei:=iV s.ei i }
theorem dh.CP {c:dx} {m:Nat} {s:dh} {i:Nat} (h:s.ok c m):(s.lost i).ok c m :=
 {h with
  ei:=fun x hx=>h.ei x (Kb hx)
  room:=Nat.le_trans (Kc _ _) h.room }
theorem Io {l:List gV} {L R:List cK} {g n:Nat} (p:cT L (Net g n l) R):∀ h,dK L h→∀ m∈l,m.v.oneCell'=true:=fun h x m hm =>
 cz (da.cN (dE.ea (.zero:cT (cG (l.map gV.t)::R) (cG (l.map gV.t)) R) m.t (aD.2 ⟨m,hm,rfl⟩)) (cn p.out A9)) h x
theorem eO.ok.Om {a:eO} {M:cK} {w:Nat} {c:dx} {m m':Nat} {s s':dh} (h:a.ok M w c m s) (hs:s'.ok c m') (hm:m≤m') (h1:s'.signed=s.signed) {nl:List gV} (h2:nl.map gV.d=s'.ei.map (gh.d c.k)):eO.ok { a with nl:=nl } M w c m' s' :=
 {h with root:=by unfold dh.sv;rw [h1];exact h.root,ei:=h2,st:=hs,ec:=Nat.le_trans h.ec (Nat.mul_le_mul_left _ hm),all:=⟨h.all.all⟩ }
abbrev On:TypeId:=268
end Go.Proofs
namespace Go.Proofs
attribute [local irreducible] Bs.cE Bs.Do Bs.O Bs.W Bs.Fin Bs.A Bs.Ct Bs.cF Bs.Rd Bs.Sat Bs.cM Bs.Ob Bs.dJ Bs.View Bs.cC Bs.Ex Bs.dI Bs.Pu Bs.eZ Bs.dK Bs.eh
open Go.Bs
open Tryz
variable (R:List cK) (e:World)
theorem Hc (w:Nat) (c:dx) (m:Nat) (s:dh) (ev:List (Int × Int × Int × dA)) (k to wh:Int) (n:Nat) (v:Value) (hv:v.oneCell'=true) (hn:n≤1000000) (hm:m<250) :
 Ct prog 88 #[pt w,.agg (tU k n to wh v).toArray] e (eg w c m s ev::R) (fun v' L'=>v'=.tuple #[.int .i64 0,.int .i64 (if n<s.ei.length then 0 else 1)]∧L'=eg w c (m+1) (if n<s.ei.length then s.lost n else s) ev::R):=by
 refine iT fun a M ha he=>?_
 have ft:=ha.st;have hrm:=ft.room;have CZ:a.nl.length=s.ei.length:=by have:=congrArg List.length ha.ei;simpa using this
 refine a7 (Io (show cT (eA w c s a M R) (Net a.gn 32 a.nl) _ from zP)) fun lF=>?_
 refine a8 (args:=[_,_]) func88 rfl ntmps88 results88 rfl ?_
 (repeat (refine wA ?_;intros))
 rename_i g3;refine bl (id:=1) [12] (cM g3 (tU k n to wh v) iU (0,0)::cM w (a.cells c s) dv (0,0)::R) mixed ?_
 (refine tM 0 ?_;refine tN 1 ?_;refine tF 2 ?_;refine tL 3 ?_;refine tF 4 ?_;refine tL 5 ?_)
 by_cases cQ:n<s.ei.length
 ·rw [aH cQ,aH cQ]
  have eI:eO.ok { a with nl:=iV a.nl n } M w c (m+1) (s.lost n) :=
   ha.Om (dh.CP (ft.next hm)) (Nat.le_succ m) rfl (by show (iV a.nl n).map gV.d=(iV s.ei n).map _;rw [qJ,qJ,ha.ei])
  refine A.two 6 10 rfl rfl rfl rfl zK ?_ ?_
  ·refine bg rfl rfl (Ct.at zP (jr _ e a.gn 32 a.nl (n:Int) zo lF)) ?_;rintro _ _ (⟨k2,yP,M3,rfl,rfl⟩|⟨Hd,-,-⟩)
   rotate_left
   ·exact absurd ⟨by omega,by omega⟩ Hd
   obtain rfl:n=k2:=by omega
   have nk:=lF _ (az yP);rw [show a.nl.take n++a.nl.drop (n+1)=iV a.nl n from rfl]
   generalize a.nl[n]'yP=y at *
   refine ⟨fun _=>zE,?_⟩
   (refine tM 7 ?_;refine tk 8 _ rfl (bn rfl rfl) ?_;refine tk 9 _ rfl (bn rfl rfl) ?_)
   refine tO 10 ?_;refine bS (cs:=[.int .i64 0,.int .i64 0,.int .i64 0,nY]) rfl rfl fun g6=>⟨fun _=>zE,?_⟩
   refine tO 11 ?_;refine zg ?_;refine ⟨fun _=>zE,?_⟩
   ((refine tO 12 ?_;refine dV (bj rfl) ?_))
   refine bf zK ?_;refine wB ?_;refine aY (eg w c (m+1) (s.lost n) ev::R) rfl (cn (show cC _ (eA w c (s.lost n) { a with nl:=iV a.nl n } M R) from zE) (eo eI he)) ⟨rfl,rfl⟩
  ·refine bS (cs:=[.int .i64 0,.int .i64 0,.int .i64 0,nY]) rfl rfl fun g6=>⟨fun _=>zE,?_⟩
   refine tO 6 ?_;refine bg rfl rfl (Ct.at zP (jr _ e a.gn 32 a.nl (n:Int) zo lF)) ?_;rintro _ _ (⟨k2,yP,M3,rfl,rfl⟩|⟨Hd,-,-⟩)
   rotate_left
   ·exact absurd ⟨by omega,by omega⟩ Hd
   obtain rfl:n=k2:=by omega
   have nk:=lF _ (az yP);rw [show a.nl.take n++a.nl.drop (n+1)=iV a.nl n from rfl]
   generalize a.nl[n]'yP=y at *
   refine ⟨fun _=>zE,?_⟩
   (refine tM 7 ?_;refine tk 8 _ rfl (bn rfl rfl) ?_;refine tk 9 _ rfl (bn rfl rfl) ?_)
   refine tO 11 ?_;refine zg ?_;refine ⟨fun _=>zE,?_⟩
   ((refine tO 12 ?_;refine dV (bj rfl) ?_))
   refine bf zK ?_;refine wB ?_;refine aY (eg w c (m+1) (s.lost n) ev::R) rfl (cn (show cC _ (eA w c (s.lost n) { a with nl:=iV a.nl n } M R) from zE) (eo eI he)) ⟨rfl,rfl⟩
 ·rw [aB cQ,aB cQ];have eI:=ha.to (ft.next hm) (Nat.le_succ m) rfl rfl;refine A.two 6 10 rfl rfl rfl rfl zK ?_ ?_
  ·refine bg rfl rfl (Ct.at zP (jr _ e a.gn 32 a.nl (n:Int) zo lF)) ?_;rintro _ _ (⟨k2,yP,M3,-,-⟩|⟨-,rfl,rfl⟩)
   ·exact absurd yP zo
   refine ⟨fun _=>zE,?_⟩
   (refine tM 7 ?_;refine tk 8 _ rfl (bn rfl rfl) ?_;refine tk 9 _ rfl (bn rfl rfl) ?_)
   refine tO 10 ?_;refine bS (cs:=[.int .i64 0,.int .i64 0,.int .i64 0,nY]) rfl rfl fun g6=>⟨fun _=>zE,?_⟩
   refine tO 11 ?_;refine zg ?_;refine ⟨fun _=>zE,?_⟩
   ((refine tO 12 ?_;refine dV (bj rfl) ?_))
   refine bf zK ?_;refine wB ?_;refine aY (eg w c (m+1) s ev::R) rfl (cn (show cC _ (eA w c s a M R) from zE) (eo eI he)) ⟨rfl,rfl⟩
  ·refine bS (cs:=[.int .i64 0,.int .i64 0,.int .i64 0,nY]) rfl rfl fun g6=>⟨fun _=>zE,?_⟩
   refine tO 6 ?_;refine bg rfl rfl (Ct.at zP (jr _ e a.gn 32 a.nl (n:Int) zo lF)) ?_;rintro _ _ (⟨k2,yP,M3,-,-⟩|⟨-,rfl,rfl⟩)
   ·exact absurd yP zo
   refine ⟨fun _=>zE,?_⟩
   (refine tM 7 ?_;refine tk 8 _ rfl (bn rfl rfl) ?_;refine tk 9 _ rfl (bn rfl rfl) ?_)
   refine tO 11 ?_;refine zg ?_;refine ⟨fun _=>zE,?_⟩
   ((refine tO 12 ?_;refine dV (bj rfl) ?_))
   refine bf zK ?_;refine wB ?_;refine aY (eg w c (m+1) s ev::R) rfl (cn (show cC _ (eA w c s a M R) from zE) (eo eI he)) ⟨rfl,rfl⟩
def dh.ET (s:dh) (i:Nat):Int:=if s.ei.length≤i then 1 else if s.ei.length<32 then 0 else 13
def dh.Mz (s:dh) (i:Nat):dh:=match s.ei[i]? with
 | none=>s
 | some x=>if s.ei.length<32 then { s with ei:=s.ei++[x] } else s
theorem dh.QV {c:dx} {m:Nat} {s:dh} {i:Nat} (h:s.ok c m):(s.Mz i).ok c m:=by
 unfold dh.Mz
 split
 ·exact h
 ·rename_i x hx
  split
  ·rename_i hl
   exact { h with
    ei:=fun y hy=>by
     rcases aJ.1 hy with hy|hy
     ·exact h.ei y hy
     ·rw [an.1 hy];exact h.ei x (ax hx)
    room:=by show (s.ei++[x]).length≤32;rw [aa];exact hl }
  ·exact h
theorem gh.len {c:dx} {l:List dA} {x:gh} (h:x.ok c l) (hl:l.length≤250):(x.d c.k).2.2.2.length≤1000000:=by
 cases x with
 | ask w x n m path =>
  obtain ⟨-,-,h1,rfl,-,rfl⟩:=h;have hg:=ql (l:=l.take x.dd.size) (n:=n) (by rw [aE];omega);have hf:=fc hg.2
  show (qh _ _ _ _).length≤_
  unfold qh;simp only [aa,aR,cY,iN h1.1.1 h1.2.1]
  omega
 | iX w g =>
  show (1::eU g:dA).length≤_
  rw [aR,k6 h.2.2.2];omega
 | no w n=>show (0::be n 4:dA).length≤_;rw [aR,cY];omega
 | off b=>exact oO h.2.1
theorem CQ (w:Nat) (c:dx) (m:Nat) (s:dh) (ev:List (Int × Int × Int × dA)) (k to wh:Int) (n:Nat) (v:Value) (hv:v.oneCell'=true) (hn:n≤1000000) (hm:m<250) :
 Ct prog 89 #[pt w,.agg (tU k n to wh v).toArray] e (eg w c m s ev::R) (fun v' L'=>v'=.tuple #[.int .i64 0,.int .i64 (s.ET n)]∧L'=eg w c (m+1) (s.Mz n) ev::R):=by
 refine iT fun a M ha he=>?_
 have ft:=ha.st;have hrm:=ft.room;have kD:=ft.short;have CZ:a.nl.length=s.ei.length:=by have:=congrArg List.length ha.ei;simpa using this
 have nZ:∀ y∈a.nl,y.b.length≤140737488351232:=fun y hy=>by
  have h1:y.d∈s.ei.map (gh.d c.k):=by rw [← ha.ei];exact aD.2 ⟨y,hy,rfl⟩
  obtain ⟨q,hq,hqd⟩:=aD.1 h1;have:=gh.len (ft.ei q hq) kD;rw [hqd] at this
  exact Nat.le_trans this zo
 refine a8 (args:=[_,_]) func89 rfl ntmps89 results89 rfl ?_
 (repeat (refine wA ?_;intros))
 rename_i g3;refine bl (id:=1) [] (cM g3 (tU k n to wh v) iU (0,0)::cM w (a.cells c s) dv (0,0)::R) mixed ?_
 (refine tF 0 ?_;refine tL 1 ?_;refine tk 2 (.bool false) rfl (cE.no (cE.lss rfl rfl) zn) ?_;refine tM 3 ?_;refine du 4 _ rfl (bb rfl) ?_;refine du 5 _ rfl (bq rfl zR) ?_;refine du 6 _ rfl (bw rfl) ?_;refine du 7 _ rfl (bp rfl) ?_;refine du 8 _ rfl (bb rfl) ?_;refine du 9 _ rfl (bq rfl zR) ?_)
 refine A.pi 10 rfl rfl zK ?_;refine bg rfl rfl (Ct.at zP (JY _ e a.gn 32 a.nl)) ?_;rintro _ _ ⟨rfl,rfl⟩;refine ⟨fun _=>zE,?_⟩
 by_cases cQ:n<a.nl.length
 rotate_left
 ·have hE:s.ET n=1:=by unfold dh.ET;rw [aH zo]
  have hS:s.Mz n=s:=by unfold dh.Mz;rw [List.getElem?_eq_none zo]
  have eI:=ha.to (ft.next hm) (Nat.le_succ m) rfl rfl;rw [hE,hS]
  (refine du 11 (.bool true) rfl (cE.iX (bU rfl rfl) zy) ?_;refine tk 12 _ rfl (bJ rfl rfl) ?_;refine tA 13 ?_)
  refine bf zK ?_;refine wB ?_;refine aY (eg w c (m+1) s ev::R) rfl (cn (show cC _ (eA w c s a M R) from zE) (eo eI he)) ⟨rfl,rfl⟩
 (refine du 11 (.bool false) rfl (cE.no (bU rfl rfl) zn) ?_;refine tk 12 _ rfl (bJ rfl rfl) ?_;refine tA 13 ?_)
 refine bf zK ?_;refine wB ?_;refine bl (id:=3) [] (cM g3 (tU k n to wh v) iU (0,0)::cM w (a.cells c s) dv (0,0)::R) mixed ?_
 (refine tM 0 ?_;refine tN 1 ?_;refine tF 2 ?_;refine tL 3 ?_;refine tF 4 ?_;refine tL 5 ?_)
 refine tO 6 ?_;have hg:s.ei[n]?=some (s.ei[n]'zo):=ae _;refine bg rfl rfl (Ct.at zP (CJ _ e a.gn 32 a.nl (n:Int) zo zo nZ)) ?_
 have Fy:(a.nl[n]'cQ).d=(s.ei[n]'zo).d c.k:=by
  have:=congrArg (fun l=>l[n]?) ha.ei;simp only [aI,ae cQ,hg,Option.map_some,Option.some.injEq] at this
  exact this
 rintro _ _ (⟨k2,yP,v2,M3,hr,rfl,rfl⟩|⟨lF,rfl,rfl⟩)
 ·obtain rfl:n=k2:=by omega
  have hE:s.ET n=0:=by unfold dh.ET;rw [aB zo,aH zo]
  have hS:s.Mz n={ s with ei:=s.ei++[s.ei[n]'zo] }:=by unfold dh.Mz;rw [hg];dsimp only;rw [aH zo]
  have qk:=dh.QV (i:=n) (ft.next hm)
  have eI:eO.ok { a with nl:=a.nl++[{ (a.nl[n]'yP) with v:=v2 }] } M w c (m+1) (s.Mz n) :=
   ha.Om qk (Nat.le_succ m) (by rw [hS]) (by
    rw [hS,ah,ah,ha.ei,List.map_cons,List.map_cons,← Fy]
    rfl)
  rw [hE];rw [hS] at eI ⊢
  generalize ({ (a.nl[n]'yP) with v:=v2 }:gV)=y at *
  refine ⟨fun _=>zE,?_⟩
  (refine tk 7 _ rfl (cE.jX rfl) ?_;refine tA 8 ?_)
  refine bf zK ?_;refine wB ?_;refine aY _ rfl (cn (show cC _ (eA w c { s with ei:=s.ei++[s.ei[n]'zo] } { a with nl:=a.nl++[y] } M R) from zE) (eo eI he)) ⟨rfl,rfl⟩
 ·have hE:s.ET n=13:=by unfold dh.ET;rw [aB zo,aB (fun q=>lF ⟨⟨by omega,by omega⟩,by omega⟩)]
  have hS:s.Mz n=s:=by unfold dh.Mz;rw [hg];dsimp only;rw [aB (fun q=>lF ⟨⟨by omega,by omega⟩,by omega⟩)]
  have eI:=ha.to (ft.next hm) (Nat.le_succ m) rfl rfl;rw [hE,hS];refine ⟨fun _=>zE,?_⟩
  (refine tk 7 _ rfl (cE.pF rfl) ?_;refine tA 8 ?_)
  refine bf zK ?_;refine wB ?_;refine aY (eg w c (m+1) s ev::R) rfl (cn (show cC _ (eA w c s a M R) from zE) (eo eI he)) ⟨rfl,rfl⟩
end Go.Proofs
namespace Go.Bs
theorem Rd.ex {α:Sort _} {f:α→cK} {R:List cK} {p:Addr} {v:Value} (h:∀ x,Rd (f x::R) p v):Rd (Ex f::R) p v:=fun hh x=>by
 obtain ⟨h1,h2,ap,l1,l2,⟨y,hy⟩,hR⟩:=x;exact h y hh ⟨h1,h2,ap,l1,l2,hy,hR⟩
theorem Rd.ea {L R:List cK} {A:cK} {p:Addr} {v:Value} (q:cT L A R) (h:Rd (A::R) p v):Rd L p v:=h.cN q.out
end Go.Bs
namespace Go.Proofs
attribute [local irreducible] Bs.cE Bs.Do Bs.O Bs.W Bs.Fin Bs.A Bs.Ct Bs.cF Bs.Rd Bs.Sat Bs.cM Bs.Ob Bs.dJ Bs.View Bs.cC Bs.Ex Bs.dI Bs.Pu Bs.eZ Bs.dK Bs.eh
open Go.Bs
open Tryz
def dh.l8 (c:dx) (s:dh) (b:vE):Int:=s.up.l8 jV (df c) b
def dh.off (c:dx) (s:dh) (b:vE):dh:={ s with up:=s.up.ii jV (df c) b }
theorem dh.MA {c:dx} {m:Nat} {s:dh} {b:vE} (h:s.ok c m) (hm:m<250) (hb:b.fk.length≤200):(s.off c b).ok c (m+1):=by
 unfold dh.off m7.ii
 split
 ·rename_i h0;have hu:=h.RG
  exact { h.next hm with
   up:=m7.wH h.up hb zo h0
   RG:=by show (s.up.recs++[b.fk]).length≤m+1;rw [aa];simp only [aj];omega }
 ·exact h.next hm
def Oo (w:Nat) (c:dx) (s:dh) (a:eO):cK:=Ex fun ve:Value=>cM w (eO.cells { a with ve:=ve } c s) dv (0,0)
theorem Ip {w:Nat} {c:dx} {s:dh} {a:eO} {ve:Value} {R:List cK}:cC (cM w (eO.cells { a with ve:=ve } c s) dv (0,0)::R) (Oo w c s a::R):=fI (f:=fun ve:Value=>cM w (eO.cells { a with ve:=ve } c s) dv (0,0)) ve
theorem Oq {w:Nat} {c:dx} {s:dh} {a:eO} {L R:List cK} (p:cT L (Oo w c s a) R):Rd L ⟨w,0+13,none⟩ (pt a.gu) :=
 Rd.ea p (Rd.ex fun ve=>bR .zero rfl)
theorem zM (R:List cK) (e:World) (w:Nat) (c:dx) (m:Nat) (s:dh) (ev:List (Int × Int × Int × dA)) (v:Value) (b:vE) (hv:da R v (fU b)) (hx:gh.ok c s.ls.cI (.off b)) (hm:m<250) :
 Ct prog 180 #[pt w,v] e (eg w c m s ev::R) (fun v' L'=>v'=.int .i64 (s.l8 c b)∧∃ mQ,vJ mQ (s.off c b)∧L'=eg w c (m+1) (s.off c b) (ev++mQ)::R):=by
 obtain ⟨h0,Ot,QD,VM⟩:=hx;refine iT fun a M ha he=>?_
 have ft:=ha.st;have RH:=ha.ec;have WL:=ft.RG;have RE:=ft.steps;have mS:=dh.MA ft hm QD;have eI:=ha.to mS (Nat.le_succ m) rfl rfl;refine a7 (cz (hv.cN (show cC (eA w c s a M R) R from zE))) fun o1=>?_
 refine a8 (args:=[_,_]) func180 rfl ntmps180 results180 rfl ?_;refine wB ?_;refine aZ rfl rfl (Ct.at zP (EI _ e a.gu a.ud jV (df c) s.up v b (hv.cN zE) Ot QD zo)) ?_;rintro _ _ ⟨rfl,rfl⟩;rw [show s.up.l8 jV (df c) b=s.l8 c b from rfl];rw [show s.up.ii jV (df c) b=(s.off c b).up from rfl];obtain ⟨s2,kY⟩:∃ s2:dh,s2=s.off c b:=⟨_,rfl⟩
 have Ol:s2.fs.recs≠[]:=by rw [kY];exact ft.some h0
 by_cases hE:s.l8 c b=0
 rotate_left
 ·generalize s.l8 c b=E at *
  refine wB ?_;refine aY (eg w c (m+1) (s.off c b) ev::R) rfl (cn (show cC _ (eA w c (s.off c b) a M R) from zE) (eo eI he)) ⟨rfl,[],vJ.nil,by rw [aK]⟩
 rw [hE];refine wB ?_;refine aZ rfl rfl (tD _ e v b (hv.cN zE) Ot) ?_;rintro _ _ ⟨N,um,vp,ur,ua,uq,uc,rfl,hN,rfl⟩;refine bo (cz (hN.fk.cN (cH zP))) fun q1=>?_
 refine bo (hN.path.cN (cH zP)).one fun q2=>?_
 refine bo (cz (hN.kH.root.cN (cH zP))) fun q3=>?_
 refine bo (hN.kH.sig.cN (cH zP)).parts.one fun q4=>?_
 refine bo (hN.kH.sig.cN (cH zP)).path.one fun q5=>?_
 refine bo (hN.gs.cN (cH zP)).one fun q6=>?_
 (repeat (refine wA ?_;intros))
 rename_i g6;have M4:∀ (X:List cK),cC (cM w (a.cells c (s.off c b)) dv (0,0)::X) (Oo w c (s.off c b) a::X):=fun X=>Ip (ve:=a.ve)
 refine bl (id:=4) [] (Oo w c (s.off c b) a::cM g6 (r5 b um vp ur ua uq uc) qP (0,0)::N::R) mixed ?_;refine bN 0 _ rfl zK (cn (bz (show cT _ (cM w (a.cells c (s.off c b)) dv (0,0)) _ from zP) aX) (cn (M4 _) zE)) (bw rfl) rfl ?_;refine bN 1 _ rfl zK (cn (bz (show cT _ (cM w (a.cells c (s.off c b)) dv (0,0)) _ from zP) aX) (cn (M4 _) zE)) (bw rfl) rfl ?_;refine bN 2 _ rfl zK (cn (bz (show cT _ (cM w (a.cells c (s.off c b)) dv (0,0)) _ from zP) aX) (cn (M4 _) zE)) (bp rfl) rfl ?_;refine bN 3 _ rfl zK (cn (bz (show cT _ (cM w (a.cells c (s.off c b)) dv (0,0)) _ from zP) aX) (cn (M4 _) zE)) (bb rfl) rfl ?_;refine bN 4 _ rfl zK (cn (bz (show cT _ (cM w (a.cells c (s.off c b)) dv (0,0)) _ from zP) aX) (cn (M4 _) zE)) (bq rfl (Oq .zero)) rfl ?_;refine bN 7 _ rfl zK (cn (bz (show cT _ (cM w (a.cells c (s.off c b)) dv (0,0)) _ from zP) aX) (cn (M4 _) zE)) (bb rfl) rfl ?_;refine bN 8 _ rfl zK (cn (bz (show cT _ (cM w (a.cells c (s.off c b)) dv (0,0)) _ from zP) aX) (cn (M4 _) zE)) (bq rfl zR) rfl ?_;refine tO 5 ?_;refine bg rfl rfl (Ct.at zP (rj _ e a.gu a.ud jV (df c) (s.off c b).up)) ?_;rintro _ _ ⟨rfl,rfl⟩;refine ⟨fun _=>(cn (bz (show cT _ (cM w (a.cells c (s.off c b)) dv (0,0)) _ from zP) aX) (cn (M4 _) zE)),?_⟩
 refine bN 6 _ rfl zK (cn (bz (show cT _ (cM w (a.cells c (s.off c b)) dv (0,0)) _ from zP) aX) (cn (M4 _) zE)) (cE.jv rfl) rfl ?_
 generalize IntKind.i64.wrap ((s.off c b).up.m.hJ:Int)=vn
 refine tO 9 ?_;refine bg rfl rfl (xI _ e um b.fk (hN.fk.cN (cH (show cT _ N _ from zP))) zo) ?_;rintro _ _ ⟨ad,kk,rfl,rfl⟩;refine ⟨fun _=>(cn (bz (show cT _ (cM w (a.cells c (s.off c b)) dv (0,0)) _ from zP) aX) (cn (M4 _) zE)),?_⟩;refine tO 10 ?_;refine bg rfl rfl (Ct.C9 zP zP (j7 _ e w c (s.off c b) a 5 vn 0 (.slice ad (cZ b.fk).length kk) (cZ b.fk) rfl zo)) ?_;rintro _ _ ⟨rfl,ve,rfl⟩;refine ⟨fun _=>cn (Ip (ve:=ve)) zE,?_⟩;refine bf zK ?_;have qk:=(eI.more (G7 (A:=M) (B:=cR (.slice ad (cZ b.fk).length kk) (cZ b.fk)))).seen (x:=⟨5,vn,0,.slice ad (cZ b.fk).length kk,cZ b.fk⟩) ve (cF.cN (ba .zero) G8) zo;refine wB ?_;refine aY (eg w c (m+1) (s.off c b) (ev++[(5,vn,0,cZ b.fk)])::R) rfl (cn ?_ (eo qk (by dsimp only;rw [ah,he];rfl))) ⟨rfl,_,?_,rfl⟩
 ·exact cn (eu (A:=M) (B:=cR (.slice ad (cZ b.fk).length kk) (cZ b.fk)) zP zP) zE
 ·intro y hy;rw [an.1 hy];exact ⟨(by decide:(5:Int)≠3),.inr (by rw [← kY];exact Ol)⟩
theorem yK {p:jK} {c:iM} (hp:p.ey.length≤4):∀ (l:List kF) (seen:List Nat),(∀ g∈l,g.hJ p c∧¬ g.gy∈seen)→(l.map (·.gy)).Nodup→countP p c l seen=l.length
 | [],_,_,_=>rfl
 | g::l,seen,h,hn=>by
  rw [List.map_cons,List.nodup_cons] at hn
  obtain ⟨h1,h2⟩:=h g (List.mem_cons_self ..);have h3:=h1.1;unfold countP
  rw [aH ⟨by omega,h2,h1⟩,yK hp l (g.gy::seen) (fun x hx=>⟨(h x (aU _ hx)).1,fun q=>by
   rcases aQ.1 q with q|q
   ·exact hn.1 (by rw [← q];exact aD.2 ⟨x,hx,rfl⟩)
   ·exact (h x (aU _ hx)).2 q⟩) hn.2,aR,Nat.add_comm]
def dh.Bf (c:dx) (s:dh) (j:Nat) (g:kF) (size:Nat):dh:={ s with fd:=s.fd.nU (df c) j g size s.time,n:=s.n+1 }
def dh.zY (c:dx) (s:dh) (j:Nat) (g:kF) (size:Nat):Int:=if s.fd.zr (df c) j g size=true then 0 else 22
theorem Kd (p:jK) (s:cS) (w:Nat) (g:kF):(s.ir p w g).cur=s.cur∧(s.ir p w g).kept=s.kept++[g]∧((p.eE≤(s.kept++[g]).length∧(s.ir p w g).done=s.dY∧(s.ir p w g).dm=s.kept++[g])∨((s.ir p w g).done=s.done∧(s.ir p w g).dm=s.dm)):=by
 unfold cS.ir
 split
 ·rename_i h;exact ⟨rfl,rfl,.inl ⟨h,rfl,rfl⟩⟩
 ·exact ⟨rfl,rfl,.inr ⟨rfl,rfl⟩⟩
theorem dh.CR {c:dx} {m:Nat} {s:dh} {j size:Nat} {g:kF} (h:s.ok c m) (hm:m<250):(s.Bf c j g size).ok c (m+1):=by
 have ht:=h.time;have hn:=h.nb;have hk:=h.Cc.k;have hlen:=mN c;have HV:(s.fd.nU (df c) j g size s.time).ok c.k (s.n+1):=cS.NY h.fd (fun q=>q.2.1) zo zo zo;have E6:s.n+1≤4*(m+1):=by omega
 unfold dh.Bf
 by_cases hh:s.fd.ri j
 rotate_left
 ·have hr:s.fd.nU (df c) j g size s.time=s.fd:=by unfold cS.nU;rw [aH hh]
  rw [hr] at HV ⊢
  exact { h.next hm with fd:=HV,nb:=E6 }
 by_cases fq:s.fd.vF (df c) j g
 ·have hr:s.fd.nU (df c) j g size s.time=s.fd.ir (df c) j g:=by unfold cS.nU;rw [aB (fun q=>q hh),aH fq]
  rw [hr] at HV ⊢
  obtain ⟨q1,q2,q3⟩:=Kd (df c) s.fd j g;obtain ⟨y,hy⟩:=Option.isSome_iff_exists.1 hh.1;have UU:s.fd.dY=y:=by unfold cS.dY;rw [hy];rfl
  have pk:∀ x∈s.fd.kept++[g],x.hJ (df c) s.fd.dY.dd:=fun x hx=>by
   rcases aJ.1 hx with hx|hx
   ·exact h.kept x hx
   ·rw [an.1 hx];exact fq.2
  have hku:=HV.yr;rw [q2] at hku
  exact { h.next hm with
   fd:=HV
   nb:=E6
   cur:=fun x hx=>h.cur x (by rw [← q1];exact hx)
   idle:=fun hx=>by
    have hx:s.fd.cur=none:=by rw [← q1];exact hx
    rw [hy] at hx;cases hx
   kept:=fun x hx=>by
    show x.hJ _ (cS.dY (s.fd.ir (df c) j g)).dd
    rw [CK q1];exact pk x (by rw [← q2];exact hx)
   done:=fun hx=>by
    show yU _ (cS.done (s.fd.ir (df c) j g))∧0<(cS.done (s.fd.ir (df c) j g)).dd.size∧sZ _ (cS.done (s.fd.ir (df c) j g)).dd (cS.dm (s.fd.ir (df c) j g))
    rcases q3 with ⟨q4,q5,q6⟩|⟨q5,q6⟩
    ·rw [q5,q6];refine ⟨by rw [UU];exact (h.cur y hy).1,by rw [UU];exact (h.cur y hy).2,?_⟩;unfold sZ;rw [yK zo _ [] (fun x hx=>⟨pk x hx,aO⟩) hku];exact q4
    ·rw [q5,q6];exact h.done (by rw [← q6];exact hx) }
 ·by_cases Qv:s.fd.turns j size
  ·have hr:s.fd.nU (df c) j g size s.time=s.fd.zq j size s.time:=by unfold cS.nU;rw [aB (fun q=>q hh),aB fq,aH Qv]
   rw [hr] at HV ⊢
   obtain ⟨y,hy⟩:=Option.isSome_iff_exists.1 hh.1
   exact { h.next hm with
    fd:=HV
    nb:=E6
    cur:=fun x hx=>h.cur x hx
    idle:=fun hx=>by
     have hx:s.fd.cur=none:=hx;rw [hy] at hx;cases hx
    kept:=fun x hx=>h.kept x hx
    done:=fun hx=>h.done hx }
  ·have hr:s.fd.nU (df c) j g size s.time=s.fd:=by unfold cS.nU;rw [aB (fun q=>q hh),aB fq,aB Qv]
   rw [hr] at HV ⊢
   exact { h.next hm with fd:=HV,nb:=E6 }
theorem Ke (R:List cK) (e:World) (w:Nat) (c:dx) (m:Nat) (s:dh) (ev:List (Int × Int × Int × dA)) (v:Value) (j:Nat) (g:kF) (hv:da R v (1::eU g)) (hx:gh.ok c s.ls.cI (.iX j g)) (hm:m<250) :
 Ct prog 179 #[pt w,.int .i64 ((j+1:Nat):Int),v] e (eg w c m s ev::R) (fun v' L'=>v'=.int .i64 (s.zY c j g 0)∧L'=eg w c (m+1) (s.Bf c j g 0) ev::R):=by
 obtain ⟨h0,hj,hgw,Qr⟩:=hx;refine iT fun a M ha he=>?_
 have ft:=ha.st;have ht:=ft.time;have hn:=ft.nb;have RE:=ft.steps;have hk:=ft.Cc.k;have mS:=dh.CR (j:=j) (g:=g) (size:=0) ft hm;have eI:=ha.to mS (Nat.le_succ m) rfl rfl;refine a7 (cz (hv.cN (show cC (eA w c s a M R) R from zE))) fun o1=>?_
 refine a8 (args:=[_,_,_]) func179 rfl ntmps179 results179 rfl ?_;refine wB ?_;refine aZ rfl rfl (jz _ e v (1::eU g) (hv.cN zE) (by rw [aR,k6 Qr];omega)) ?_;rintro _ _ ⟨gr,rfl,rfl⟩
 (repeat (refine wA ?_;intros))
 rename_i g8;refine aZ rfl rfl (Ct.at zP (uA _ e gr 1 _)) ?_;rintro _ _ ⟨rfl,rfl⟩;rw [show u8 1=.int .u8 1 from rfl];have Ro:=fun L=>AH L e gr g [] zo Qr (by simp)
 rw [aK] at Ro
 refine wB ?_;refine aZ rfl rfl (Ct.at zP (Ro _)) ?_;rintro _ _ ⟨N,up,uq,rfl,hN,rfl⟩;refine bo (hN.cN (cH zP)).parts.one fun o4=>?_
 refine bo (hN.cN (cH zP)).path.one fun o5=>?_
 refine wB ?_;refine aZ rfl rfl (xC _ e gr []) ?_;rintro _ _ ⟨rfl,rfl⟩;rw [ay rfl];refine wB ?_;refine bl (id:=12) [] (cM g8 (iy g up uq) nu (0,0)::N::cM w (a.cells c s) dv (0,0)::R) mixed ?_
 (refine tM 0 ?_;refine tN 1 ?_;refine tF 2 ?_;refine tL 3 ?_;refine tM 4 ?_;refine tk 5 _ rfl (cE.jL rfl rfl zo) ?_;refine tJ 6 ?_;refine tM 7 ?_;refine tM 8 ?_;refine tN 9 ?_;refine tF 10 ?_;refine tL 11 ?_)
 rw [show (((j+1:Nat):Int) - 1)=(j:Int) by omega];refine tO 12 ?_;refine bg rfl rfl (Ct.at zP (tC _ e a.qi (df c) c.retry s.n s.fd j up uq g 0 s.time (hN.cN (cH (show cT _ N _ from zP))) zo zo zo zo zo)) ?_;rintro _ _ ⟨rfl,rfl⟩;refine ⟨fun _=>zE,?_⟩;unfold dh.zY
 cases hb:s.fd.zr (df c) j g 0 with
 | true =>
  (refine tk 13 _ rfl (cE.jX rfl) ?_;refine tA 14 ?_)
  refine bf zK ?_;refine wB ?_;refine aY (eg w c (m+1) (s.Bf c j g 0) ev::R) rfl (cn (show cC _ (eA w c (s.Bf c j g 0) a M R) from zE) (eo eI he)) ⟨rfl,rfl⟩
 | false =>
  (refine tk 13 _ rfl (cE.pF rfl) ?_;refine tA 14 ?_)
  refine bf zK ?_;refine wB ?_;refine aY (eg w c (m+1) (s.Bf c j g 0) ev::R) rfl (cn (show cC _ (eA w c (s.Bf c j g 0) a M R) from zE) (eo eI he)) ⟨rfl,rfl⟩
theorem MB (R:List cK) (e:World) (w:Nat) (c:dx) (m:Nat) (s:dh) (ev:List (Int × Int × Int × dA)) (v:Value) (j z:Nat) (hv:da R v (0::be z 4)) (hx:gh.ok c s.ls.cI (.no j z)) (hm:m<250) :
 Ct prog 179 #[pt w,.int .i64 ((j+1:Nat):Int),v] e (eg w c m s ev::R) (fun v' L'=>v'=.int .i64 (s.zY c j ig z)∧L'=eg w c (m+1) (s.Bf c j ig z) ev::R):=by
 obtain ⟨h0,hj,hz⟩:=hx;refine iT fun a M ha he=>?_
 have ft:=ha.st;have ht:=ft.time;have hn:=ft.nb;have RE:=ft.steps;have hk:=ft.Cc.k;have mS:=dh.CR (j:=j) (g:=ig) (size:=z) ft hm;have eI:=ha.to mS (Nat.le_succ m) rfl rfl;refine a7 (cz (hv.cN (show cC (eA w c s a M R) R from zE))) fun o1=>?_
 refine a8 (args:=[_,_,_]) func179 rfl ntmps179 results179 rfl ?_;refine wB ?_;refine aZ rfl rfl (jz _ e v (0::be z 4) (hv.cN zE) (by rw [aR,cY];omega)) ?_;rintro _ _ ⟨gr,rfl,rfl⟩
 (repeat (refine wA ?_;intros))
 rename_i g8;refine aZ rfl rfl (Ct.at zP (uA _ e gr 0 _)) ?_;rintro _ _ ⟨rfl,rfl⟩;rw [show u8 0=.int .u8 0 from rfl];have Ro:=fun L=>sV L e gr z [] zo
 rw [aK] at Ro
 refine wB ?_;refine aZ rfl rfl (Ct.at zP (Ro _)) ?_;rintro _ _ ⟨rfl,rfl⟩;refine wB ?_;refine aZ rfl rfl (xC _ e gr []) ?_;rintro _ _ ⟨rfl,rfl⟩;rw [ay rfl];refine wB ?_;refine bl (id:=12) [] (cM g8 (iy ig nY nY) nu (0,0)::cM w (a.cells c s) dv (0,0)::R) mixed ?_
 (refine tM 0 ?_;refine tN 1 ?_;refine tF 2 ?_;refine tL 3 ?_;refine tM 4 ?_;refine tk 5 _ rfl (cE.jL rfl rfl zo) ?_;refine tJ 6 ?_;refine tM 7 ?_;refine tM 8 ?_;refine tN 9 ?_;refine tF 10 ?_;refine tL 11 ?_)
 rw [show (((j+1:Nat):Int) - 1)=(j:Int) by omega];refine tO 12 ?_;refine bg rfl rfl (Ct.at zP (tC _ e a.qi (df c) c.retry s.n s.fd j nY nY ig z s.time (Cj _) (by decide) zo zo zo zo)) ?_;rintro _ _ ⟨rfl,rfl⟩;refine ⟨fun _=>zE,?_⟩;unfold dh.zY
 cases hb:s.fd.zr (df c) j ig z with
 | true =>
  (refine tk 13 _ rfl (cE.jX rfl) ?_;refine tA 14 ?_)
  refine bf zK ?_;refine wB ?_;refine aY (eg w c (m+1) (s.Bf c j ig z) ev::R) rfl (cn (show cC _ (eA w c (s.Bf c j ig z) a M R) from zE) (eo eI he)) ⟨rfl,rfl⟩
 | false =>
  (refine tk 13 _ rfl (cE.pF rfl) ?_;refine tA 14 ?_)
  refine bf zK ?_;refine wB ?_;refine aY (eg w c (m+1) (s.Bf c j ig z) ev::R) rfl (cn (show cC _ (eA w c (s.Bf c j ig z) a M R) from zE) (eo eI he)) ⟨rfl,rfl⟩
def dh.He (c:dx) (s:dh):gh→dh × Int × Int
 | .ask j x n m path=>(s.asked j x.dd n,1,s.wm j x.dd n)
 | .iX j g=>(s.Bf c j g 0,2,s.zY c j g 0)
 | .no j z=>(s.Bf c j ig z,2,s.zY c j ig z)
 | .off b=>(s.off c b,3,s.l8 c b)
def dh.Bg (c:dx) (s:dh) (n:Nat):dh × Int × Int:=match s.ei[n]? with
 | none=>(s,0,1)
 | some x=>(s.lost n).He c x
theorem dh.Ou {c:dx} {m:Nat} {s:dh} {x:gh} (h:s.ok c m) (hm:m<250) (hx:x.ok c s.ls.cI):(s.He c x).1.ok c (m+1):=by
 cases x with
 | ask j x n k path=>exact dh.EQ h hm hx.2.1 hx.2.2.1 hx.1
 | iX j g=>exact dh.CR h hm
 | no j z=>exact dh.CR h hm
 | off b=>exact dh.MA h hm hx.2.2.1
theorem dh.MC {c:dx} {m:Nat} {s:dh} {n:Nat} (h:s.ok c m) (hm:m<250):(s.Bg c n).1.ok c (m+1):=by
 unfold dh.Bg
 split
 ·exact h.next hm
 ·rename_i x hx;exact dh.Ou (dh.CP h) hm (h.ei x (ax hx))
def dh.mb (s:dh) (i:Nat):vE:=⟨s.ls.cI.getD i [],i,s.fd.done.dd.size,iF ((s.ls.cI.take s.fd.done.dd.size).map cZ) i,s.fd.done,s.fd.dm⟩
def dh.Ov (s:dh) (i:Nat):dh × Int:=if s.fd.dm=[] then (s,22) else if ¬ i<s.fd.done.dd.size then (s,22) else if s.ei.length<32 then (s.send (.off (s.mb i)),0) else (s,13)
theorem dh.ok.leaf {c:dx} {m:Nat} {s:dh} (h:s.ok c m) {b:dA} (hb:b∈s.ls.cI):jm b∧b.length≤200 :=
 h.fs.uE b (h.perm.mem_iff.1 (List.mem_append_left _ hb))
theorem dh.ok.JH {c:dx} {m:Nat} {s:dh} (h:s.ok c m):s.ls.cI.length≤250:=by
 have h1:=h.perm.length_eq;have h2:=h.Fc;have h3:=h.steps;rw [aa] at h1
 omega
theorem dh.Bh {c:dx} {m:Nat} {s:dh} {i:Nat} (h:s.ok c m) (he:s.fd.dm≠[]) (hi:i<s.fd.done.dd.size):(s.mb i).wf∧(s.mb i).fk.length≤200∧l5 (df c) (s.mb i)=0∧gh.ok c s.ls.cI (.off (s.mb i)):=by
 obtain ⟨⟨pk,NN,kD,tm⟩,h0,GZ⟩:=h.done he;have ph:=h.fd.done he;have NQ:=h.JH;have FI:i<s.ls.cI.length:=by omega
 have sC:s.ls.cI.getD i []∈s.ls.cI:=by rw [aL,ae FI];exact az FI
 obtain ⟨Xc,RU⟩:=h.leaf sC
 have jD:∀ a∈(s.ls.cI.take s.fd.done.dd.size).map cZ,a.length=32:=by
  intro a ha;obtain ⟨b,-,rfl⟩:=aD.1 ha;exact de _ _
 have hlen:((s.ls.cI.take s.fd.done.dd.size).map cZ).length=s.fd.done.dd.size:=by rw [ab,aE];omega
 have yW:=oA _ ((s.ls.cI.take s.fd.done.dd.size).map cZ) i rfl;have hph:=FP _ ((s.ls.cI.take s.fd.done.dd.size).map cZ) i rfl jD;have Lz:=FO _ ((s.ls.cI.take s.fd.done.dd.size).map cZ) i (cZ (s.ls.cI.getD i [])) rfl zo;rw [hlen] at yW Lz
 have X1:jl s.fd.done.dd.size i≤8:=pP 8 _ _ zo
 have jM:((s.ls.cI.take s.fd.done.dd.size).map cZ).set i (cZ (s.ls.cI.getD i []))=(s.ls.cI.take s.fd.done.dd.size).map cZ:=by
  refine tK _ _ _ ?_;rw [aI,List.getElem?_take_of_lt hi,ae FI,Option.map_some,aL,ae FI];rfl
 have hk:=h.Cc.k;have UE:=h.fd.JH
 have Ot:(s.mb i).wf :=
  {fk:=by show (s.ls.cI.getD i []).length≤65535;omega
   idx:=by show i≤256;omega
   size:=by show s.fd.done.dd.size≤256;omega
   Fc:=by show (iF _ i).length≤16;omega
   jD:=hph
   dd:=ph.1
   sig:=NN
   iC:=by show s.fd.dm.length≤255;omega
   ey:=fun g hg=>by have:=(h.fd.dm g hg).1;omega
   sigs:=fun g hg=>(h.fd.dm g hg).2 }
 have Qg:l5 (df c) (s.mb i)=0:=by
  unfold l5;rw [aB (show ¬ ¬ jm (s.mb i).fk from not_not_intro Xc)];rw [aB (show ¬ ¬ (s.mb i).kH.hJ (df c).log from not_not_intro pk)]
  rw [aB (show ¬ ¬ ((s.mb i).size=(s.mb i).kH.dd.size∧oN (s.mb i).idx (s.mb i).size (s.mb i).path (cZ (s.mb i).fk) (s.mb i).kH.dd.root) from not_not_intro ⟨rfl,⟨by show (iF _ i).length≤16;omega,hph⟩,de _ _,hi,yW,by
   show lm s.fd.done.dd.size i (iF _ i) _=s.fd.done.dd.root
   exact (Lz.trans (congrArg dR jM)).trans tm.symm⟩)]
  rw [aB (show ¬ ¬ sZ (df c) (s.mb i).kH.dd (s.mb i).eJ from not_not_intro GZ)]
 exact ⟨Ot,RU,Qg,by omega,Ot,RU,Qg⟩
end Go.Proofs
namespace Go.Proofs
open Go.Bs
attribute [local irreducible] Bs.cE Bs.Do Bs.O Bs.W Bs.Fin Bs.A Bs.Ct Bs.cF Bs.Rd Bs.Sat Bs.cM Bs.Ob Bs.dJ Bs.View Bs.cC Bs.Ex Bs.dI Bs.Pu Bs.eZ Bs.dK Bs.eh
def px (c:dx):dh:=⟨⟨[],0,none⟩,⟨[],[]⟩,List.replicate c.k ⟨[],0,ig,false⟩,zp c.k,0,⟨[]⟩,⟨[],none⟩,[],0,none⟩
theorem Iq {c:dx} (h:c.ok):(px c).ok c 0 where
 Cc:=h
 steps:=aG _
 ls:=⟨fun r hr=>(by cases hr),List.nodup_nil,aG _,fun b hb=>(by cases hb),aG _,fun x hx=>(by cases hx)⟩
 last:=fun x hx=>(by cases hx)
 fs:=⟨aG _,fun b hb=>(by cases hb),aG _,fun b hb=>(by cases hb),fun b hb=>(by cases hb)⟩
 recs:=List.nodup_nil
 Fc:=aG _
 perm:=List.Perm.refl _
 wl:=List.length_replicate
 ws:=fun w hw=>by
  obtain rfl:=(List.mem_replicate.1 hw).2;exact ⟨⟨fun x hx=>(by cases hx),List.Pairwise.nil,fun x hx=>(by cases hx),aG _,uG⟩,aG _,ly.empty _⟩
 iX:=fun i w hw hs=>by
  have hm:w∈List.replicate c.k (⟨[],0,ig,false⟩:eX):=ax hw;obtain rfl:=(List.mem_replicate.1 hm).2
  cases hs
 fd:=Cn _
 nb:=aG _
 cur:=fun x hx=>(by cases hx)
 idle:=fun _=>rfl
 kept:=fun g hg=>(by cases hg)
 done:=fun hd=>absurd rfl hd
 up:=⟨aG _,fun b hb=>(by cases hb),fun b hb=>(by cases hb),fun b hb=>(by cases hb),List.Pairwise.nil⟩
 RG:=aG _
 mo:=⟨aG _,fun b hb=>(by cases hb),fun x hx=>(by cases hx)⟩
 TO:=rfl
 ei:=fun x hx=>(by cases hx)
 room:=aG _
 time:=aG _
 signed:=fun x hx=>(by cases hx)
def cA:dx:=⟨1,1,4,1,0,1⟩
theorem Pj:cA.ok where
 k:=by decide
 eE:=by decide
 f:=⟨by decide,by decide,by decide⟩
 retry:=by decide
 wJ:=⟨lj _,by decide,by decide,by decide,fun w hw=>by
  obtain ⟨i,-,rfl⟩:=aD.1 hw
  exact lj _,by
  show [fu (cV 1)].Nodup
  exact List.nodup_cons.2 ⟨aO,List.nodup_nil⟩⟩
def bA:dA:=xK 0 1 1
theorem Bi:jm bA∧bA.length≤200∧(dB bA).name=jV∧(dB bA).hJ=2:=by
 obtain ⟨h1,h2⟩:=oE 0 1 1;obtain ⟨h3,h4⟩:=NB h1 h2;refine ⟨h3,?_,?_,?_⟩
 ·show (lX (mB 0 1 1)).length≤200
  rw [DP];have:=h1.1.2.1;have:=h1.2.2.1;have:=h1.2.2.2
  omega
 ·show (dB (lX (mB 0 1 1))).name=jV
  rw [h4];decide
 ·show (dB (lX (mB 0 1 1))).hJ=2
  rw [h4];decide
theorem Kf (b:dA):(cZ b).length=32:=de _ _
attribute [local irreducible] bA lH cZ iS cV jm dB fu vS rB
abbrev TW:eX:=⟨[],0,ig,false⟩
def Pk:iM:=⟨1,dR [cZ bA]⟩
def xA:jU:=qZ (cV 0) 0 Pk
def gA:kF:=AB (cV 1) 0 0 Pk
abbrev lA:gM:=⟨[[bA]],1,some xA⟩
abbrev fA:pq:=⟨[bA],[]⟩
def QW:dh:=⟨⟨[],0,none⟩,⟨[bA],[(bA,0)]⟩,[TW],zp 1,0,⟨[]⟩,⟨[],none⟩,[],0,none⟩
def RK:dh:=⟨⟨[],0,none⟩,⟨[bA],[(bA,0)]⟩,[TW],zp 1,0,⟨[]⟩,⟨[],none⟩,[],1,none⟩
def QX:dh:=⟨⟨[[bA]],0,none⟩,fA,[TW],zp 1,0,⟨[]⟩,⟨[],none⟩,[],1,none⟩
def sA4:dh:=⟨lA,fA,[TW],⟨[⟨1,0,0⟩],1,[⟨0,0,false⟩],some xA,[],uI,[]⟩,1,⟨[]⟩,⟨[],none⟩,[],1,some Pk⟩
def qA:List dA:=iS [cZ bA] 0
def RL:dh:=⟨lA,fA,[TW],⟨[⟨2,1,0⟩],2,[⟨0,1,false⟩],some xA,[],uI,[]⟩,2,⟨[]⟩,⟨[],none⟩,[.ask 0 xA 0 1 qA],1,some Pk⟩
abbrev wA1:eX:=⟨[Pk],1,gA,true⟩
def QY:dh:=⟨lA,fA,[wA1],⟨[⟨2,1,0⟩],2,[⟨0,1,false⟩],some xA,[],uI,[]⟩,2,⟨[]⟩,⟨[],none⟩,[.iX 0 gA],1,some Pk⟩
def C7:dh:=⟨lA,fA,[wA1],⟨[],2,[⟨1,1,true⟩],some xA,[gA],xA,[gA]⟩,3,⟨[]⟩,⟨[],none⟩,[],1,some Pk⟩
def TX:dh:=C7.send (.off (C7.mb 0))
def Pl:dh:={ C7 with up:=⟨[bA]⟩ }
theorem QZ:(px cA).sub cA bA=QW∧((px cA).fs.fH cA.f (px cA).ls.cI bA ((px cA).time:Int)).1=1:=by
 have h:(px cA).fs.fH cA.f (px cA).ls.cI bA ((px cA).time:Int)=(1,0,⟨[bA],[(bA,0)]⟩):=by
  unfold pq.fH;rw [aB (not_not_intro Bi.1),aB (show ¬ bA∈(px cA).ls.cI from aO),aB (show ¬ bA∈(px cA).fs.q.map (·.1) from aO),aB (show ¬ cA.f.room≤(px cA).fs.q.length by decide)]
  rfl
 unfold dh.sub;rw [h];exact ⟨rfl,rfl⟩
theorem TY:QW.M0 1=RK:=rfl
theorem TZ:RK.Ha cA=QX:=by
 unfold dh.Ha;rw [aH (show RK.fs.oL cA.f (RK.time:Int)=true from by show LN [(bA,0)] 1 0 1=true;unfold LN;exact ay (.inl (by decide)))]
 have h:RK.ls.fresh (RK.fs.some cA.f)=[bA]:=by
  show fj [] [] [bA]=[bA]
  unfold fj;rw [aB (show ¬ bA∈([]:List dA)++[] from aO)]
  rfl
 unfold gM.add;rw [h,aB (by intro h;cases h)]
 rfl
theorem Q0:xA.hJ eL:=⟨⟨by show 1≤256;decide,gH fun a ha=>by rw [an.1 ha];exact Kf _⟩,sK (by decide)⟩
theorem T0:QX.iY cA=sA4:=by
 have hs:¬ QX.ls.same:=fun h=>by cases h.1
 have hk:QX.ls.keys<16:=by decide
 have hp:QX.ls.iY (cV 0)=lA:=by
  unfold gM.iY;rw [aB hs,aH hk]
  rfl
 have hv:QX.fv=xA:=by unfold dh.fv;rw [hp];rfl
 unfold dh.iY;rw [aH (.inr hk)];unfold dh.pw;rw [hv,hp,aH (show 0<xA.dd.size from by show 0<1;decide)];unfold cS.ii;rw [aH (show QX.fd.Es (df cA) xA from ⟨Q0,fun c hc=>by cases hc⟩)]
 rfl
theorem T3:sA4.yG cA=RL:=rfl
theorem T4:RL.Bg cA 0=(QY,1,0):=by
 show ((RL.lost 0).asked 0 xA.dd 0,1,(RL.lost 0).wm 0 xA.dd 0)=_
 rfl
theorem T5:(QY.Bg cA 0).1=C7:=by
 show (QY.lost 0).Bf cA 0 gA 0=C7
 have hv:gA.hJ (df cA) Pk:=⟨by decide,sK (by decide)⟩
 unfold dh.Bf cS.nU;rw [aB (show ¬ ¬ (QY.lost 0).fd.ri 0 from not_not_intro ⟨rfl,by decide,rfl⟩),aH (show (QY.lost 0).fd.vF (df cA) 0 gA from ⟨rfl,hv⟩)]
 rfl
theorem Xn:C7.Ov 0=(TX,0):=by
 unfold dh.Ov;rw [aB (show ¬ C7.fd.dm=[] from by intro h;cases h),aB (show ¬ ¬ 0<C7.fd.done.dd.size from by show ¬ ¬ 0<1;decide),aH (show C7.ei.length<32 by decide)]
 rfl
theorem Q2:C7.ok cA 7:=by
 have h1:=dh.Mf (b:=bA) (Iq Pj) (by decide) Bi.2.1;rw [QZ.1] at h1
 have h2:=dh.Mg (n:=1) h1 (by decide) (by decide);rw [TY] at h2
 have h3:=dh.Mj h2 (by decide);rw [TZ] at h3
 have h4:=dh.Mk h3 (by decide);rw [T0] at h4
 have h5:=dh.Ml h4 (by decide);rw [T3] at h5
 have h6:=dh.MC (n:=0) h5 (by decide);rw [T4] at h6
 have h7:=dh.MC (n:=0) h6 (by decide);rw [T5] at h7
 exact h7
theorem Xo:(TX.Bg cA 0).1=Pl:=by
 show (TX.lost 0).off cA (C7.mb 0)=Pl
 have hb:=(dh.Bh Q2 (i:=0) (by intro h;cases h) (by show 0<1;decide)).2.2.1
 have ho:(TX.lost 0).up.l8 jV (df cA) (C7.mb 0)=0:=by
  unfold m7.l8
  rw [hb,aB (not_not_intro rfl),aB (show ¬ (dB (C7.mb 0).fk).name≠jV from not_not_intro Bi.2.2.1),aB (show ¬ (dB (C7.mb 0).fk).hJ≤(TX.lost 0).up.m.hJ from by
   show ¬ (dB bA).hJ≤0
   rw [Bi.2.2.2];decide)]
 unfold dh.off m7.ii;rw [aH ho]
 rfl
theorem T6:C7.Bg cA 0=(C7,0,1):=rfl
theorem T7:Pl.up.m.hJ=2:=Bi.2.2.2
end Go.Proofs
namespace Go.Bs
theorem eh.ex {α:Sort _} {f:α→cK} {R:List cK} {g o:Nat} {cs:List Value} (h:∀ x,eh (f x::R) g o cs):eh (Ex f::R) g o cs:=fun j u hj=>Rd.ex fun x=>h x j u hj
end Go.Bs
namespace Go.Proofs
open Go.Bs
attribute [local irreducible] Bs.cE Bs.Do Bs.O Bs.W Bs.Fin Bs.A Bs.Ct Bs.cF Bs.Rd Bs.Sat Bs.cM Bs.Ob Bs.dJ Bs.View Bs.cC Bs.Ex Bs.dI Bs.Pu Bs.eZ Bs.dK Bs.eh
abbrev zZ:TypeId:=249
abbrev Q3:TypeId:=49
abbrev jJ:TypeId:=47
abbrev nz:Value:=nY
abbrev dP:Value:=.pointer none
abbrev il (c:dx):List Value:=[.int .i64 (c.k:Int),.int .i64 (c.eE:Int),.int .i64 (c.room:Int),.int .i64 (c.size:Int),.int .i64 (c.wait:Int),.int .i64 (c.retry:Int),.int .i64 1048576,.string (str jV)]
def Ow (v:Value) (_:Nat→Value):List cK:=match v with|.map (some g)=>[kG jH g []]|_=>[]
def T8 (v:Value) (_:Nat→Value):List cK:=match v with|.map (some g)=>[kG jB g []]|_=>[]
def Q4 (v:Value) (u:Value):List cK:=match v,u with|.pointer (some ⟨g,_,_⟩),.agg cs=>[cM g cs.toList dv (0,0)]|_,_=>[]
def Q5 (p:Value) (v:Value):List cK:=match p with|.pointer (some ⟨g,_,_⟩)=>[cM g [v] Q3 (0,0)]|_=>[]
def EU (v:Value) (b:dA):cK:=Ex fun M=>dI [Pu (da [M] v b),M]
theorem Ir {v:Value} {b:dA} {M:cK} {R:List cK} (h:da [M] v b):cC (M::R) (EU v b::R) :=
 cn (oX h) (cn (dN (M:=[_,_])) (fI (f:=fun M=>dI [Pu (da [M] v b),M]) M))
abbrev fP (c:dx) (va vl vf pg yJ vu vm vn sh iO:Value) (mr ml mc:Nat):List Value:=qS c va vl vf pg yJ vu vm vn sh iO (.int .i64 0) nz (.map (some mr)) (.map (some ml)) (.int .i64 0) nz (.bool false) (.map (some mc))
structure Hf where
 vs:List (Value × Nat × Nat)
 wd:List (Nat × Nat)
 ts:List dX
 ap:Option Addr
 kp:Nat
 aw:Option Addr
 kw:Nat
 M:cK
def Is (l:List (Nat × Nat)):List cK:=l.flatMap fun p=>[dl p.1 (dM []),dl p.2 (dM [])]
abbrev EV (w:Nat) (vl:Value) (vs:List (Value × Nat × Nat)):List Value:=[vl,.func (.func 160) #[ptr w] #[]]++vs.flatMap fun x=>[x.1,.func (.func 161) #[] #[ptr x.2.1,ptr x.2.2]]
structure Hf.ok (i:Hf) (c:dx) (w g4 ld lk fd:Nat) (vl x:Value):Prop where
 le:i.vs.length≤c.k
 wl:i.wd.length=i.vs.length
 tl:i.ts.map (·.2)=(List.range i.vs.length).map fun j=>fu (cV (j+1))
 hx:da [i.M] x eL
 h4:Rd [i.M] ⟨g4,0,none⟩ (ptr w)
 tx:dE [i.M] i.ts
 lo:cF [i.M] 1 vl 3 [ptr ld,ptr lk,ptr fd]
 ps:∀ j (h:j<i.vs.length) (h2:j<i.wd.length),cF [i.M] 1 (i.vs[j]).1 2 [ptr (i.wd[j]).1,ptr (i.wd[j]).2]∧Rd [i.M] ⟨(i.vs[j]).2.1,0,none⟩ (ptr w)∧Rd [i.M] ⟨(i.vs[j]).2.2,0,none⟩ (.int .i64 (j:Int))
abbrev T9 (i:Hf) (c:dx) (w gc gw ld lk fd mr ml mc:Nat) (vl x:Value) (R:List cK):List cK :=
 dJ zZ 2 (.slice i.ap (i.vs.length+1) i.kp) (i.vs.length+1) (EV w vl i.vs)::cU (.slice i.aw i.ts.length i.kw) i.ts::dI (Is i.wd)::cM w (fP c (.slice i.ap (i.vs.length+1) i.kp) dP dP (.slice (some ⟨gw,0,none⟩) c.k c.k) dP dP dP dP x (.slice i.aw i.ts.length i.kw) mr ml mc) dv (0,0)::dJ tT 1 (.slice (some ⟨gw,0,none⟩) c.k c.k) c.k (List.replicate c.k dP)::dI (jI [ld,lk,fd])::kG jH mr []::kG jH ml []::kG jB mc []::i.M::cM gc (il c) jJ (0,0)::R
theorem four {A B C D X:cK} {L':List cK} (p:cT [A,B,C,D] X L'):cC [dI [A,B,C,D]] [X]:=cn (cW (M:=[A,B,C,D]) (L:=[])) (cH p)
theorem Hf.ok.more {i:Hf} {c:dx} {w g4 ld lk fd:Nat} {vl x:Value} (h:i.ok c w g4 ld lk fd vl x) (cQ:i.vs.length<c.k) {pv vd:Value} {N:cK} {gi d1 k1:Nat} {ap aw:Option Addr} {kp kw:Nat} (hN:da [N] pv (fu (cV (i.vs.length+1)))) :
 Hf.ok ⟨i.vs++[(vd,g4,gi)],i.wd++[(d1,k1)],i.ts++[(pv,fu (cV (i.vs.length+1)))],ap,kp,aw,kw,dI [i.M,N,cM gi [.int .i64 (i.vs.length:Int)] 3 (0,0),dJ C4 1 vd 2 [ptr d1,ptr k1]]⟩ c w g4 ld lk fd vl x:=by
 have f1:cC [dI [i.M,N,cM gi [.int .i64 (i.vs.length:Int)] 3 (0,0),dJ C4 1 vd 2 [ptr d1,ptr k1]]] [i.M]:=four .zero;have f2:cC [dI [i.M,N,cM gi [.int .i64 (i.vs.length:Int)] 3 (0,0),dJ C4 1 vd 2 [ptr d1,ptr k1]]] [N]:=four (.succ .zero);have f3:cC [dI [i.M,N,cM gi [.int .i64 (i.vs.length:Int)] 3 (0,0),dJ C4 1 vd 2 [ptr d1,ptr k1]]] [cM gi [.int .i64 (i.vs.length:Int)] 3 (0,0)]:=four (.succ (.succ .zero));have f4:cC [dI [i.M,N,cM gi [.int .i64 (i.vs.length:Int)] 3 (0,0),dJ C4 1 vd 2 [ptr d1,ptr k1]]] [dJ C4 1 vd 2 [ptr d1,ptr k1]]:=four (.succ (.succ (.succ .zero)));have hw:=h.wl
 constructor
 ·simp only [aa,aj];omega
 ·simp only [aa,aj];omega
 ·simp only [ah,aa,aj,List.range_succ,List.map_cons,List.map_nil,h.tl]
 ·exact h.hx.cN f1
 ·exact h.h4.cN f1
 ·intro y hy;rcases aJ.1 hy with hy|hy
  ·exact (h.tx y hy).cN f1
  ·rw [an.1 hy];exact hN.cN f2
 ·exact h.lo.cN f1
 ·intro j h1 h2;dsimp only at h1 h2 ⊢
  by_cases hj:j<i.vs.length
  ·have Lg:j<i.wd.length:=by omega
   obtain ⟨a,b,d⟩:=h.ps j hj Lg;simp only [List.getElem_append_left hj,List.getElem_append_left Lg];exact ⟨a.cN f1,b.cN f1,d.cN f1⟩
  ·rw [aa,aj] at h1
   obtain rfl:j=i.vs.length:=by omega
   have e1:(i.vs++[(vd,g4,gi)])[i.vs.length]'(by simp)=(vd,g4,gi):=by simp
   have e2:(i.wd++[(d1,k1)])[i.vs.length]'h2=(d1,k1):=by
    rw [List.getElem_append_right zo]
    simp
   rw [e1,e2];exact ⟨cF.cN (ba .zero) f4,h.h4.cN f1,Rd.cN (bR .zero rfl) f3⟩
def MD (p:Value × Value):List Value:=[p.1,p.2]
theorem Bj (p:Value × Value):(MD p).length=2:=rfl
def Q6 (x:Value × Nat × Nat):Value × Value:=(x.1,.func (.func 161) #[] #[ptr x.2.1,ptr x.2.2])
abbrev Hg (w:Nat):Value:=.func (.func 163) #[ptr w] #[]
def EW (w:Nat) (vl:Value) (vs:List (Value × Nat × Nat)) (vu:Value):List (Value × Value):=(vl,.func (.func 160) #[ptr w] #[])::(vs.map Q6++[(vu,Hg w)])
theorem yL (w:Nat) (vl:Value) (vs:List (Value × Nat × Nat)) (vu:Value):(EW w vl vs vu).flatMap MD=EV w vl vs++[vu,Hg w]:=by
 simp [EW,MD,Q6,List.flatMap_map]
theorem ME {w:Nat} {vl:Value} {vs:List (Value × Nat × Nat)} {vu:Value} {j:Nat} (h:j<vs.length):(EW w vl vs vu)[j+1]?=some (Q6 (vs[j]'h)):=by
 unfold EW;rw [List.getElem?_cons_succ,List.getElem?_append_left (by rw [ab];exact h),aI,ae h]
 rfl
theorem MF {w:Nat} {vl:Value} {vs:List (Value × Nat × Nat)} {vu:Value}:(EW w vl vs vu)[vs.length+1]?=some (vu,Hg w):=by
 unfold EW;rw [List.getElem?_cons_succ,List.getElem?_append_right (by rw [ab];exact aT _),ab,Nat.sub_self]
 rfl
inductive Ox where
 | zero
 | mid (gl gf:Nat) (wx:List WX)
 | all (gl gf:Nat) (wx:List WX) (gu:Nat)
def Ox.idx (k:Nat):Ox→Nat
 | .zero=>0
 | .mid _ _ wx=>wx.length+1
 | .all ..=>k+2
abbrev MG:eX:=⟨[],0,ig,false⟩
abbrev UW:gM:=⟨[],0,none⟩
def Ua (wd:List (Nat × Nat)) (wx:List WX):Prop:=∀ j (h:j<wx.length) (h2:j<wd.length),(wx[j]).d=(wd[j]).1∧(wx[j]).k=(wd[j]).2
def Ox.ok (c:dx) (wd:List (Nat × Nat)):Ox→Prop
 | .zero=>True
 | .mid _ _ wx=>wx.length≤c.k∧Ua wd wx
 | .all _ _ wx _=>wx.length=c.k∧Ua wd wx
def Ub (c:dx) (w:Nat) (va pg x iO:Value) (mr ml mc ld lk fd ud:Nat) (wd:List (Nat × Nat)):Ox→List cK
 | .zero=>[cM w (fP c va dP dP pg dP dP dP dP x iO mr ml mc) dv (0,0),dJ tT 1 pg c.k (List.replicate c.k dP),dl ld (dM []),dl lk (dM []),dl fd (dM []),dI (Is wd),dl ud (dM [])]
 | .mid gl gf wx=>[cM w (fP c va (ptr gl) (ptr gf) pg dP dP dP dP x iO mr ml mc) dv (0,0),dJ tT 1 pg c.k (wx.map l9++List.replicate (c.k - wx.length) dP),eS gf fd gl c.f ⟨[],[]⟩,db gl ld lk (cV 0) UW,dI (mO 0 wx (List.replicate wx.length MG)),dI (Is (wd.drop wx.length)),dl ud (dM [])]
 | .all gl gf wx gu=>[cM w (fP c va (ptr gl) (ptr gf) pg dP (ptr gu) dP dP x iO mr ml mc) dv (0,0),dJ tT 1 pg c.k (wx.map l9),eS gf fd gl c.f ⟨[],[]⟩,db gl ld lk (cV 0) UW,dI (mO 0 wx (List.replicate wx.length MG)),mL gu ud jV (df c) ⟨[]⟩]
theorem Iu {L R R':List cK} {A B C:cK} (p:cT L A R) (q:cT R B R') (f:∀ X,cC (A::B::X) (C::X)):cC L (C::R'):=cn p.out (cn (bh q.out) (f R'))
theorem MH {l:List (Nat × Nat)} {d k:Nat} {X:List cK}:cC (dI (Is l)::dI (jI [d,k])::X) (dI (Is (l++[(d,k)]))::X):=by
 rw [show Is (l++[(d,k)])=Is l++jI [d,k] by simp [Is,jI]];exact all_append
theorem MI {P:Program} {f:FuncId} {args:Array Value} {e:World} {L R1 R2 R3 R4:List cK} {A B C D:cK} {Post:Value→List cK→Prop} (p:cT L A R1) (q:cT R1 B R2) (r:cT R2 C R3) (u:cT R3 D R4) (h:Ct P f args e (A::B::C::D::R4) Post):Ct P f args e L Post :=
 h.cN (cn p.out (bh (cn q.out (bh (cn r.out (bh u.out))))))
theorem Q7 {L R:List cK} {a b d:Nat} (p:cT L (dI (jI [a,b,d])) R):cC L (dl a (dM [])::dl b (dM [])::dl d (dM [])::R):=cn p.out (cW (M:=jI [a,b,d]))
theorem Q8 {L R:List cK} {a:Nat} (p:cT L (dI (jI [a])) R):cC L (dl a (dM [])::R):=cn p.out (cW (M:=jI [a]))
theorem Q9 {L R:List cK} {q:Nat × Nat} {l:List (Nat × Nat)} (p:cT L (dI (Is (q::l))) R):cC L (dl q.1 (dM [])::dl q.2 (dM [])::dI (Is l)::R) :=
 cn p.out (cn (cW (M:=Is (q::l))) (bh (bh (dN (M:=Is l)))))
theorem Ra:gM.ok UW:=⟨fun r hr=>(by cases hr),List.nodup_nil,aG _,fun b hb=>(by cases hb),aG _,fun x hx=>(by cases hx)⟩
theorem Rb:eX.ok MG:=⟨fun x hx=>(by cases hx),List.Pairwise.nil,fun x hx=>(by cases hx),aG _,uG⟩
theorem yM (x:WX) (s:eX):∀ (i:Nat) (xs:List WX) (ss:List eX),xs.length=ss.length→mO i (xs++[x]) (ss++[s])=mO i xs ss++[wk (i+xs.length) x s]
 | i,[],[],_=>rfl
 | i,[],_::_,h=>by simp at h
 | i,_::_,[],h=>by simp at h
 | i,y::xs,t::ss,h=>by
  simp only [List.cons_append,mO];rw [yM x s (i+1) xs ss (by simpa using h)];simp only [aR];rw [show i+1+xs.length=i+(xs.length+1) by omega]
theorem Kg {x:WX} {wx:List WX} {X:List cK}:cC (dI (mO 0 wx (List.replicate wx.length MG))::wk wx.length x MG::X) (dI (mO 0 (wx++[x]) (List.replicate (wx++[x]).length MG))::X):=by
 rw [aa,aj,List.replicate_succ',yM x MG 0 wx _ (by simp),aC];exact cn (bh (dN (M:=[wk wx.length x MG]))) all_append
theorem MJ {wx:List WX} {k:Nat} {x:WX} (h:wx.length<k):(wx.map l9++List.replicate (k - wx.length) dP).set wx.length (ptr x.g)=(wx++[x]).map l9++List.replicate (k - (wx.length+1)) dP:=by
 obtain ⟨m,hm⟩:∃ m,k - wx.length=m+1:=⟨k - wx.length - 1,by omega⟩
 rw [hm,show k - (wx.length+1)=m by omega,List.replicate_succ,List.set_append_right _ _ (by rw [ab];exact aT _),ab,Nat.sub_self,List.set_cons_zero]
 simp [l9,ptr]
theorem Ua.more {wd:List (Nat × Nat)} {wx:List WX} (h:Ua wd wx) (hn:wx.length<wd.length) {x:WX} (hd:x.d=(wd[wx.length]'hn).1) (hk:x.k=(wd[wx.length]'hn).2):Ua wd (wx++[x]):=fun j h1 h2=>by
 by_cases hj:j<wx.length
 ·simp only [List.getElem_append_left hj];exact h j hj h2
 ·rw [aa,aj] at h1
  obtain rfl:j=wx.length:=by omega
  simp only [List.getElem_concat_length];exact ⟨hd,hk⟩
theorem Rc:m7.ok ⟨[]⟩ jV:=⟨aG _,fun b hb=>(by cases hb),fun b hb=>(by cases hb),fun b hb=>(by cases hb),List.Pairwise.nil⟩
theorem Kh (R:List cK) (e:World) (c:dx) (hc:c.ok) :
 Ct Tryz.prog 80 #[.agg (il c).toArray] e R (fun v' L'=>∃ w,v'=.tuple #[ptr w,.int .i64 0]∧L'=eg w c 0 (px c) []::R):=by
 have Lx:=hc.k;have hcq:=hc.eE;refine a8 (args:=[_]) Tryz.func80 rfl Tryz.ntmps80 Tryz.results80 rfl ?_
 (repeat (refine wA ?_;intros))
 rename_i gc;refine bl (id:=3) [13] (cM gc (il c) jJ (0,0)::R) Tryz.mixed ?_
 (refine tJ 0 ?_;refine tF 3 ?_;refine tL 4 ?_)
 refine A.Nz (n:=0) [
  ⟨1,41,[],[],fun v _=>∃ ad k,v=.slice ad (cV 0).length k,[(0,fun v _=>[cR v (cV 0)])]⟩,
  ⟨2,42,[1],[0],fun _ _=>True,[(1,fun v _=>[EU v eL])]⟩,
  ⟨5,45,[2],[1],fun v ρ=>(ρ 2).oneCell'=true∧v=.agg [ρ 2,nz,.int .i64 (c.eE:Int)].toArray,[(8,fun _ ρ=>[EU (ρ 2) eL])]⟩,
  ⟨6,46,[],[],fun v _=>∃ g,v=.map (some g),[(2,Ow)]⟩,
  ⟨7,47,[],[],fun v _=>∃ g,v=.map (some g),[(3,Ow)]⟩,
  ⟨8,48,[6,7],[],fun v ρ=>∃ g g',ρ 6=.map (some g)∧ρ 7=.map (some g')∧v=.agg [.map (some g),.map (some g')].toArray,[]⟩,
  ⟨9,49,[],[],fun v _=>∃ g,v=.map (some g),[(4,T8)]⟩,
  ⟨10,50,[5,8,9],[],fun v ρ=>∃ x g g' Oy,x.oneCell'=true∧ρ 5=.agg [x,nz,.int .i64 (c.eE:Int)].toArray∧ρ 8=.agg [.map (some g),.map (some g')].toArray∧ρ 9=.map (some Oy)∧v=.agg (fP c nz dP dP nz dP dP dP dP x nz g g' Oy).toArray,[]⟩,
  ⟨11,51,[10],[],fun v _=>∃ g,v=ptr g,[(5,fun v ρ=>Q4 v (ρ 10))]⟩,
  Ld 12 4 6 Q3 [dP],
  ⟨13,100013,[11,12],[6],fun _ _=>True,[(7,fun _ ρ=>Q5 (ρ 12) (ρ 11))]⟩] 11 rfl zK zK ?_ zE ?_
 ·refine dt ?_ (dt ?_ (dt ?_ (dt ?_ (dt ?_ (dt ?_ (dt ?_ (dt ?_ (dt ?_ (dt ?_ (dt ?_ pX))))))))))
  ·refine ⟨_,rfl,.inl rfl,fun V σr M1 h3 hy=>?_⟩;refine bV (show cC _ (M1++(cM gc (il c) jJ (0,0)::R)) from aX) ?_;refine bg (xs:=[.const (.int .i64 0)]) (vs:=[.int .i64 0]) rfl rfl (oW _ e 0 zo) ?_;rintro _ _ ⟨ad,k,rfl,rfl⟩;exact ⟨_,rfl,⟨ad,k,rfl⟩,aX⟩
  ·refine ⟨_,rfl,.inl rfl,fun V σr M1 h3 hy=>?_⟩;obtain ⟨s1,ad,k,hv⟩:=hy _ (ax (i:=0) rfl) (ax (i:=0) rfl) (fE rfl);dsimp only at s1 hv
   refine bV (show cC _ (cR (V 1) (cV 0)::(M1++(cM gc (il c) jJ (0,0)::R))) from aX) ?_;rw [hv] at s1 ⊢
   refine bg (Nu s1) rfl (lV _ e _ (cV 0) (ba .zero) (oV 0)) ?_;rintro v2 _ ⟨N,rfl,hN⟩;exact ⟨_,rfl,trivial,cn (Ir hN) (bh (cC.drop aX))⟩
  ·refine ⟨_,rfl,.inl rfl,fun V σr M1 h3 hy=>?_⟩;obtain ⟨s2,-⟩:=hy _ (ax (i:=1) rfl) (ax (i:=0) rfl) (fE rfl);have s44:=h3 44 _ rfl;dsimp only at s2
   refine bV (show cC _ (EU (V 2) eL::(M1++(cM gc (il c) jJ (0,0)::R))) from aX) ?_;unfold EU;refine Do.Rs fun N=>?_
   refine bV cW ?_;refine Do.SG fun hN=>?_
   refine Do.Nv (cz (hN.cN (cH .zero))) fun o=>?_
   exact bP (v:=.agg [V 2,nz,.int .i64 (c.eE:Int)].toArray) (bL (parts:=[(0,.tmp 42),(2,.tmp 44)]) (vs:=[(0,V 2),(2,.int .i64 (c.eE:Int))]) (by simp [tP,ev,s2,s44]) (by simp [Instr.fill,Ba,dU o])) rfl ⟨_,rfl,⟨o,rfl⟩,Ir hN⟩
  ·exact ⟨_,rfl,.inl rfl,fun V σr M1 h3 hy=>Do.p6 jH rfl fun g=>⟨_,rfl,⟨g,rfl⟩,aX⟩⟩
  ·exact ⟨_,rfl,.inl rfl,fun V σr M1 h3 hy=>Do.p6 jH rfl fun g=>⟨_,rfl,⟨g,rfl⟩,aX⟩⟩
  ·refine ⟨_,rfl,.inl rfl,fun V σr M1 h3 hy=>?_⟩;obtain ⟨s6,g,HJ⟩:=hy _ (ax (i:=3) rfl) (ax (i:=0) rfl) (fE rfl);obtain ⟨s7,g',Xp⟩:=hy _ (ax (i:=4) rfl) (ax (i:=1) rfl) (fE rfl);dsimp only at s6 HJ s7 Xp
   rw [HJ] at s6
   rw [Xp] at s7
   exact bP (v:=.agg [.map (some g),.map (some g')].toArray) (bL (parts:=[(0,.tmp 46),(1,.tmp 47)]) (vs:=[(0,.map (some g)),(1,.map (some g'))]) (by simp [tP,ev,s6,s7]) (by simp [Instr.fill,Value.cells])) rfl ⟨_,rfl,⟨g,g',HJ,Xp,rfl⟩,aX⟩
  ·exact ⟨_,rfl,.inl rfl,fun V σr M1 h3 hy=>Do.p6 jB rfl fun g=>⟨_,rfl,⟨g,rfl⟩,aX⟩⟩
  ·refine ⟨_,rfl,.inl rfl,fun V σr M1 h3 hy=>?_⟩;obtain ⟨s5,o,OY⟩:=hy _ (ax (i:=2) rfl) (ax (i:=0) rfl) (fE rfl);obtain ⟨s8,g,g',-,-,Rx⟩:=hy _ (ax (i:=5) rfl) (ax (i:=1) rfl) (fE rfl);obtain ⟨s9,Oy,Xq⟩:=hy _ (ax (i:=6) rfl) (ax (i:=2) rfl) (fE rfl);have s40:=h3 40 _ rfl;dsimp only at s5 o OY s8 Rx s9 Xq
   generalize fQ [2] V 2=x at o OY
   rw [OY] at s5
   rw [Rx] at s8
   rw [Xq] at s9
   refine bP (v:=.agg (fP c nz dP dP nz dP dP dP dP x nz g g' Oy).toArray) (bL (parts:=[(0,.tmp 40),(9,.tmp 45),(12,.tmp 48),(15,.tmp 49)]) (vs:=[(0,.agg (il c).toArray),(9,.agg [x,nz,.int .i64 (c.eE:Int)].toArray),(12,.agg [.map (some g),.map (some g')].toArray),(15,.map (some Oy))]) (by simp [tP,ev,s5,s8,s9,s40]) (by simp [Instr.fill,Value.cells])) rfl ⟨_,rfl,⟨x,g,g',Oy,o,OY,Rx,Xq,rfl⟩,aX⟩
  ·refine ⟨_,rfl,.inl rfl,fun V σr M1 h3 hy=>?_⟩;obtain ⟨Xr,x,g0,g',Oy,o,-,-,-,hv⟩:=hy _ (ax (i:=7) rfl) (ax (i:=0) rfl) (fE rfl);dsimp only at Xr hv
   have hw:fQ [10] V 10=.agg (fP c nz dP dP nz dP dP dP dP x nz g0 g' Oy).toArray:=hv;rw [hv] at Xr
   refine Do.box Xr rfl rfl fun g=>⟨_,rfl,⟨g,rfl⟩,?_⟩
   refine cn (show cC _ (cM g (fP c nz dP dP nz dP dP dP dP x nz g0 g' Oy) dv (0,0)::(M1++(cM gc (il c) jJ (0,0)::R))) from aX) ?_
   show cC _ ((Q4 (ptr g) (fQ [10] V 10)++[])++(M1++(cM gc (il c) jJ (0,0)::R)))
   rw [hw];exact aX
  ·exact BR rfl (.inl rfl) rfl rfl rfl
  ·refine ⟨_,rfl,.inl rfl,fun V σr M1 h3 hy=>?_⟩;obtain ⟨Lk,g,Jb⟩:=hy _ (ax (i:=8) rfl) (ax (i:=0) rfl) (fE rfl);obtain ⟨Qh,g4,Re⟩:=hy _ (ax (i:=9) rfl) (ax (i:=1) rfl) (fE rfl);dsimp only at Lk Jb Qh Re
   have SA:fQ [11,12] V 11=ptr g:=Jb;have SB:fQ [11,12] V 12=ptr g4:=Re;refine bV (show cC _ ((BQ [dP] Q3 (V 12) V++[])++(M1++(cM gc (il c) jJ (0,0)::R))) from aX) ?_;rw [Re] at Qh ⊢
   rw [Jb] at Lk
   refine bV (show cC _ (cM g4 [dP] Q3 (0,0)::(M1++(cM gc (il c) jJ (0,0)::R))) from aX) ?_;refine cd (cs':=[ptr g]) Qh Lk rfl .zero gB.zero ⟨dP,rfl,trivial,?_⟩
   show cC _ ((Q5 (fQ [11,12] V 12) (fQ [11,12] V 11)++[])++(M1++(cM gc (il c) jJ (0,0)::R)))
   rw [SA,SB];exact aX
 intro V hV;obtain ⟨-,v5⟩:=hV _ (ax (i:=2) rfl);obtain ⟨mr,v6⟩:=hV _ (ax (i:=3) rfl);obtain ⟨ml,v7⟩:=hV _ (ax (i:=4) rfl);obtain ⟨a1,a2,w6,w7,v8⟩:=hV _ (ax (i:=5) rfl);obtain ⟨mc,v9⟩:=hV _ (ax (i:=6) rfl);obtain ⟨x,b1,b2,b3,o1,w5,w8,w9,v10⟩:=hV _ (ax (i:=7) rfl);obtain ⟨w,v11⟩:=hV _ (ax (i:=8) rfl);obtain ⟨g4,Xs⟩:=hV _ (ax (i:=9) rfl);clear hV;dsimp only at v5 v6 v7 v8 v9 v10 v11 Xs
 have v2:V 2=x:=by
  have h:V 5=_:=w5;rw [v5] at h
  have h2:fQ [2] V 2=x:=by simpa using h
  exact h2
 have q6:V 6=_:=w6;have q7:V 7=_:=w7;have q8:V 8=_:=w8;have q9:V 9=_:=w9;rw [v6] at q6
 rw [v7] at q7
 rw [v9] at q9
 rw [v8] at q8
 cases q6
 cases q7
 cases q9
 simp only [Value.agg.injEq,List.toArray_inj,List.cons.injEq,Value.map.injEq,Option.some.injEq,and_true] at q8
 obtain ⟨rfl,rfl⟩:=q8;clear v5 v8 w5 w6 w7 w8 w9;refine A.fo (show cC _ (([EU (V 2) eL]++(Ow (V 6) V++(Ow (V 7) V++(T8 (V 9) V++(Q4 (V 11) (V 10)++(Q5 (V 12) (V 11)++[]))))))++(cM gc (il c) jJ (0,0)::R)) from aX) ?_;simp only [kR,Nat.reduceLT,if_true,if_false,List.cons_append,List.nil_append];rw [v2,v6,v7,v9,v10,v11,Xs];refine A.fo (show cC _ (EU x eL::kG jH mr []::kG jH ml []::kG jB mc []::cM w (fP c nz dP dP nz dP dP dP dP x nz mr ml mc) dv (0,0)::cM g4 [ptr w] Q3 (0,0)::cM gc (il c) jJ (0,0)::R) from aX) ?_;unfold EU;refine A.Rs fun N=>?_
 refine A.fo cW ?_;refine A.SG fun hN=>?_
 obtain ⟨M,hM⟩:∃ M:cK,M=dI [N,cM g4 [ptr w] Q3 (0,0)]:=⟨_,rfl⟩
 have hx:da [M] x eL:=by rw [hM];exact hN.cN G7
 have h4:Rd [M] ⟨g4,0,none⟩ (ptr w):=by rw [hM];exact Rd.cN (bR .zero rfl) G8
 have Xt:Rd (M::cM gc (il c) jJ (0,0)::R) ⟨g4,0,none⟩ (ptr w):=h4.cN (cH .zero);refine A.fo (show cC _ (dJ zZ 2 nz 0 []::cM w (fP c nz dP dP nz dP dP dP dP x nz mr ml mc) dv (0,0)::kG jH mr []::kG jH ml []::kG jB mc []::M::cM gc (il c) jJ (0,0)::R) from ?_) ?_
 ·rw [hM];exact cn (eu (A:=N) (B:=cM g4 [ptr w] Q3 (0,0)) zP zP) (cn (di zZ 2) zE)
 refine bf zK ?_;refine Fin.next ?_;refine W.ir [(1,ptr gc),(4,ptr g4)] zS ?_;clear v2 v6 v7 v9 v10 v11 Xs V;clear hN hM N
 (repeat (refine wA ?_;intros))
 refine bl (id:=4) [13,14,15] (cM w (fP c nz dP dP nz dP dP dP dP x nz mr ml mc) dv (0,0)::M::cM gc (il c) jJ (0,0)::R) Tryz.mixed ?_
 (refine tL 0 ?_;refine tL 1 ?_;refine tN 2 ?_;refine tF 3 ?_;refine tL 4 ?_;refine tF 5 ?_;refine tL 6 ?_;refine tL 8 ?_)
 refine tk 9 _ rfl (cE.makeFunc rfl rfl) ?_;refine tO 7 ?_;refine bg rfl rfl (qj _ e 3 zo) ?_;rintro _ _ ⟨ad,kd,gs,rfl,B6,rfl⟩
 obtain ⟨ld,lk,fd,rfl⟩:∃ a b d,gs=[a,b,d]:=by
  match gs,B6 with
  | [a,b,d],_=>exact ⟨a,b,d,rfl⟩
 refine ⟨fun _=>zE,?_⟩;refine tk 10 _ rfl (bL rfl zF) ?_;refine tO 11 ?_;refine bF (n:=2) (cs:=[.slice ad 3 kd,.func (.func 160) #[ptr w] #[]]) rfl rfl rfl rfl zQ rfl (fun gb=>⟨fun _=>zE,?_⟩);refine tO 12 ?_;refine bm rfl rfl rfl (show cT _ (dJ zZ 2 nz 0 []) _ from zP) (bQ (n:=2) (c:=1) zP rfl zl) rfl rfl zO zm zo fun ap kp _=>⟨fun _=>zE,?_⟩
 ((refine tO 13 ?_;refine dV (bp rfl) ?_);(refine tO 14 ?_;refine dV (bb rfl) ?_);(refine tO 15 ?_;refine tZ ?_;refine ⟨zN,?_⟩))
 refine bf zK ?_;refine Fin.next ?_;refine W.ir [(1,ptr gc),(4,ptr g4)] zS ?_;obtain ⟨vl,wv⟩:∃ vl:Value,vl=.slice ad 3 kd:=⟨_,rfl⟩
 have hvo:vl.oneCell'=true:=by rw [wv];rfl
 refine W.fo (show cC _ (dJ zZ 2 (.slice ap 1 kp) 1 (EV w vl [])::dJ C4 1 vl 3 [ptr ld,ptr lk,ptr fd]::dI (jI [ld,lk,fd])::cM w (fP c (.slice ap 1 kp) dP dP nz dP dP dP dP x nz mr ml mc) dv (0,0)::kG jH mr []::kG jH ml []::kG jB mc []::M::cM gc (il c) jJ (0,0)::R) from by rw [wv];exact zE) ?_;clear wv B6
 (repeat (refine wA ?_;intros))
 refine bl (id:=5) [4,5,6] (M::cM gc (il c) jJ (0,0)::R) Tryz.mixed ?_
 (refine tL 0 ?_;refine tF 1 ?_;refine tL 2 ?_)
 refine tO 3 ?_;refine Do.makeSlice rfl rfl rfl rfl zm zo fun gw=>⟨fun _=>zE,?_⟩
 ((refine tO 4 ?_;refine dV (bp rfl) ?_);(refine tO 5 ?_;refine dV (bb rfl) ?_);(refine tO 6 ?_;refine tZ ?_;refine ⟨zN,?_⟩))
 refine bf zK ?_;refine wB ?_;refine br (ι:=Hf) (fun i=>[(1,ptr gc),(4,ptr g4),(77,.int .i64 (c.k:Int)),(78,.int .i64 (i.vs.length:Int))]) (fun i=>T9 i c w gc gw ld lk fd mr ml mc vl x R) (fun i=>i.ok c w g4 ld lk fd vl x) (fun i=>c.k - i.vs.length) ⟨[],[],[],ap,kp,none,0,dI [M,dJ C4 1 vl 3 [ptr ld,ptr lk,ptr fd]]⟩ ⟨aG _,rfl,rfl,hx.cN G7,h4.cN G7,(fun y hy=>by cases hy),cF.cN (ba .zero) G8,fun j h=>absurd h (Nat.not_lt_zero _)⟩ zS (cn (eu (A:=M) (B:=dJ C4 1 vl 3 [ptr ld,ptr lk,ptr fd]) zP zP) (cn (di dZ 1) (cn (dN (M:=[])) zE))) ?_;clear hx h4 Xt;rintro i hi;have hle:=hi.le;have Xt:Rd (i.M::cM gc (il c) jJ (0,0)::R) ⟨g4,0,none⟩ (ptr w):=hi.h4.cN (cH .zero);have mw:i.ts.length=i.vs.length:=by have:=congrArg List.length hi.tl;simpa using this
 by_cases cQ:i.vs.length<c.k
 rotate_left
 ·have JK:i.vs.length=c.k:=by omega
  refine wB ?_;refine bl (id:=12) [13,14,15] (cM w (fP c (.slice i.ap (i.vs.length+1) i.kp) dP dP (.slice (some ⟨gw,0,none⟩) c.k c.k) dP dP dP dP x (.slice i.aw i.ts.length i.kw) mr ml mc) dv (0,0)::i.M::cM gc (il c) jJ (0,0)::R) Tryz.mixed ?_
  (refine tL 0 ?_;refine tL 1 ?_;refine tN 2 ?_;refine tF 3 ?_;refine tL 4 ?_;refine tF 5 ?_;refine tL 6 ?_;refine tL 8 ?_)
  refine tk 9 _ rfl (cE.makeFunc rfl rfl) ?_;refine tO 7 ?_;refine bg rfl rfl (qj _ e 1 zo) ?_;rintro _ _ ⟨ep,Uc,gs,rfl,B6,rfl⟩
  obtain ⟨ud,rfl⟩:∃ a,gs=[a]:=by
   match gs,B6 with
   | [a],_=>exact ⟨a,rfl⟩
  refine ⟨fun _=>zE,?_⟩;refine tk 10 _ rfl (bL rfl zF) ?_;refine tO 11 ?_;refine bF (n:=2) (cs:=[.slice ep 1 Uc,Hg w]) rfl rfl rfl rfl zQ rfl (fun gb3=>⟨fun _=>zE,?_⟩);refine tO 12 ?_;refine bm rfl rfl rfl (show cT _ (dJ zZ 2 (.slice i.ap (i.vs.length+1) i.kp) (i.vs.length+1) (EV w vl i.vs)) _ from zP) (bQ (n:=2) (c:=1) zP rfl zl) rfl rfl zO zm zo fun ap2 m8 _=>⟨fun _=>zE,?_⟩
  ((refine tO 13 ?_;refine dV (bp rfl) ?_);(refine tO 14 ?_;refine dV (bb rfl) ?_);(refine tO 15 ?_;refine tZ ?_;refine ⟨zN,?_⟩))
  refine bf zK ?_;refine Fin.next ?_;refine W.ir [(1,ptr gc),(4,ptr g4)] zS ?_;refine bG ((ba (show cT _ (dJ zZ 2 (.slice ap2 (i.vs.length+1+1) m8) (i.vs.length+1+1) (EV w vl i.vs++[.slice ep 1 Uc,Hg w])) _ from zP)).shape zo) ?_;rintro ⟨⟨lE,c',lG,q3,q4,q5,q6⟩,_⟩
  cases lG
  rcases q6 with q6|⟨gp,op,rfl⟩
  ·omega
  clear q3 q4 q5;obtain ⟨vu,Th⟩:∃ vu:Value,vu=.slice ep 1 Uc:=⟨_,rfl⟩
  obtain ⟨iO,Ud⟩:∃ v:Value,v=.slice i.aw i.ts.length i.kw:=⟨_,rfl⟩
  obtain ⟨M2,Cb⟩:∃ M2:cK,M2=dI [i.M,dJ zZ 2 (.slice (some ⟨gp,op,none⟩) (c.k+2) m8) (c.k+2) ((EW w vl i.vs vu).flatMap MD),cU iO i.ts,dJ C4 1 vu 1 [ptr ud]]:=⟨_,rfl⟩
  refine W.fo (show cC _ (cM w (fP c (.slice (some ⟨gp,op,none⟩) (c.k+2) m8) dP dP (.slice (some ⟨gw,0,none⟩) c.k c.k) dP dP dP dP x iO mr ml mc) dv (0,0)::dJ tT 1 (.slice (some ⟨gw,0,none⟩) c.k c.k) c.k (List.replicate c.k dP)::dI (jI [ld,lk,fd])::dI (Is i.wd)::dI (jI [ud])::kG jH mr []::kG jH ml []::kG jB mc []::M2::cM gc (il c) jJ (0,0)::R) from ?_) ?_
  ·rw [Cb,Th,Ud,yL,JK];exact cn (qF (A:=i.M) (B:=dJ zZ 2 (.slice (some ⟨gp,op,none⟩) (c.k+2) m8) (c.k+2) (EV w vl i.vs++[.slice ep 1 Uc,Hg w])) (C:=cU (.slice i.aw i.ts.length i.kw) i.ts) (D:=dJ C4 1 (.slice ep 1 Uc) 1 [ptr ud]) zP zP zP zP) zE
  have g1:cC [M2] [i.M]:=by rw [Cb];exact four .zero
  have HB:da [M2] x eL:=hi.hx.cN g1;have h42:Rd [M2] ⟨g4,0,none⟩ (ptr w):=hi.h4.cN g1;have Hh:cF [M2] 2 (.slice (some ⟨gp,op,none⟩) (c.k+2) m8) (c.k+2) ((EW w vl i.vs vu).flatMap MD):=by rw [Cb];exact cF.cN (ba .zero) (four (.succ .zero))
  have JS:j3 [M2] x iO (df c):=by
   refine ⟨HB,i.ts,?_,?_,fun y hy=>(hi.tx y hy).cN g1⟩
   ·rw [hi.tl,JK];rfl
   ·rw [Cb];exact cF.cN (ba .zero) (four (.succ (.succ .zero)))
  have Rf:cF [M2] 1 vu 1 [ptr ud]:=by rw [Cb];exact cF.cN (ba .zero) (four (.succ (.succ (.succ .zero))))
  have ui:cF [M2] 1 vl 3 [ptr ld,ptr lk,ptr fd]:=hi.lo.cN g1
  have HG:∀ j (h:j<i.vs.length) (h2:j<i.wd.length),cF [M2] 1 (i.vs[j]).1 2 [ptr (i.wd[j]).1,ptr (i.wd[j]).2]∧Rd [M2] ⟨(i.vs[j]).2.1,0,none⟩ (ptr w)∧Rd [M2] ⟨(i.vs[j]).2.2,0,none⟩ (.int .i64 (j:Int)):=fun j h h2=>by
   obtain ⟨a,b,d⟩:=hi.ps j h h2;exact ⟨a.cN g1,b.cN g1,d.cN g1⟩
  have CD:=hi.wl;have Xt:Rd (M2::cM gc (il c) jJ (0,0)::R) ⟨g4,0,none⟩ (ptr w):=h42.cN (cH .zero);clear Cb Th Ud g1 hi mw hle
  generalize i.vs=vs at *
  generalize i.wd=wd at *
  refine bG ((ui.cN (cH zP)).shape zo) ?_;rintro ⟨⟨uu,cl,rfl,-,-,-,q6⟩,_⟩;rcases q6 with q6|⟨gd,od,rfl⟩
  ·omega
  refine bG ((Rf.cN (cH zP)).shape zo) ?_;rintro ⟨⟨mH,cu,rfl,-,-,-,q6⟩,_⟩;rcases q6 with q6|⟨RM,RN,rfl⟩
  ·omega
  have r0:eh (M2::cM gc (il c) jJ (0,0)::R) gp (op+0*2) [.slice (some ⟨gd,od,none⟩) 3 cl,.func (.func 160) #[ptr w] #[]]:=eh.elem (Hh.cN (cH .zero)) Bj (j:=0) rfl;have s0:Rd [M2] ⟨gp,op,none⟩ (.slice (some ⟨gd,od,none⟩) 3 cl):=cF.elemOf Hh Bj (j:=0) (i:=0) rfl rfl;refine wB ?_;refine br (ι:=Ox) (fun j=>[(1,ptr gc),(4,ptr g4),(129,.slice (some ⟨gp,op,none⟩) (c.k+2) m8),(130,.int .i64 ((c.k+2:Nat):Int)),(131,.int .i64 (j.idx c.k:Int))]) (fun j=>Ub c w (.slice (some ⟨gp,op,none⟩) (c.k+2) m8) (.slice (some ⟨gw,0,none⟩) c.k c.k) x iO mr ml mc ld lk fd ud wd j++(kG jH mr []::kG jH ml []::kG jB mc []::M2::cM gc (il c) jJ (0,0)::R)) (fun j=>j.ok c wd) (fun j=>c.k+2 - j.idx c.k) .zero trivial zS ?_ ?_
  ·simp only [Ub,List.cons_append,List.nil_append];exact cn (Q7 (a:=ld) (b:=lk) (d:=fd) zP) (cn (Q8 (a:=ud) zP) zE)
  rintro j hj
  cases j with
  | zero =>
   simp only [Ub,Ox.idx,List.cons_append,List.nil_append]
   (repeat (refine wA ?_;intros))
   rename_i g7;refine O.gT (us:=[ptr w]) (ws:=[]) (vs:=[]) rfl rfl rfl (MI zP zP zP zP (CL _ e w c hc dP dP (.slice (some ⟨gw,0,none⟩) c.k c.k) dP dP dP dP x iO (.int .i64 0) nz (.map (some mr)) (.map (some ml)) (.int .i64 0) nz (.bool false) (.map (some mc)) gp op (c.k+2) m8 gd od cl ld lk fd UW [] zo (s0.cN (cH zP)) ((ui.elem (j:=0) rfl).cN (cH zP)) ((ui.elem (j:=1) rfl).cN (cH zP)) ((ui.elem (j:=2) rfl).cN (cH zP)) Ra (aG _) (fun b hb=>by cases hb))) ?_;rintro _ _ ⟨rfl,gl,gf,rfl⟩;refine wB ?_;refine bi (.mid gl gf []) ⟨aG _,fun j h=>absurd h (Nat.not_lt_zero _)⟩ zd zS ?_;refine cn (dN (M:=[])) ?_;exact zE
  | mid gl gf wx =>
   obtain ⟨N8,UX⟩:=hj;simp only [Ub,Ox.idx,List.cons_append,List.nil_append]
   by_cases hw:wx.length<c.k
   ·have hn:wx.length<vs.length:=by omega
    have E6:wx.length<wd.length:=by omega
    obtain ⟨p1,p2,p3⟩:=HG wx.length hn E6;have Dj:=ME (w:=w) (vl:=.slice (some ⟨gd,od,none⟩) 3 cl) (vu:=.slice (some ⟨RM,RN,none⟩) 1 cu) hn;have Du:=List.drop_eq_getElem_cons E6;have Xu:=fun x=>UX.more E6 (x:=x)
    generalize vs[wx.length]'hn=y at p1 p2 p3 Dj
    generalize wd[wx.length]'E6=q at p1 Du Xu
    obtain ⟨vd,xw,xi⟩:=y;obtain ⟨d1,k1⟩:=q;dsimp only at p1 p2 p3 Xu
    rw [Du];refine bG ((p1.cN (cH zP)).shape zo) ?_;rintro ⟨⟨ot,cv,rfl,-,-,-,q6⟩,_⟩;rcases q6 with q6|⟨gv,ov,rfl⟩
    ·omega
    have r1:eh (M2::cM gc (il c) jJ (0,0)::R) gp (op+(wx.length+1)*2) [.slice (some ⟨gv,ov,none⟩) 2 cv,.func (.func 161) #[] #[ptr xw,ptr xi]]:=eh.elem (Hh.cN (cH .zero)) Bj (j:=wx.length+1) Dj;have s1:Rd [M2] ⟨gp,op+(wx.length+1)*2,none⟩ (.slice (some ⟨gv,ov,none⟩) 2 cv):=cF.elemOf Hh Bj (j:=wx.length+1) (i:=0) Dj rfl;refine W.fo (Q9 (q:=(d1,k1)) (l:=wd.drop (wx.length+1)) zP) ?_
    (repeat (refine wA ?_;intros))
    rename_i g7;refine O.gT (us:=[]) (ws:=[ptr xw,ptr xi]) (vs:=[]) rfl rfl rfl (MI zP zP zP zP (CM _ e w c (ptr gl) (ptr gf) dP dP dP dP x iO (.int .i64 0) nz (.map (some mr)) (.map (some ml)) (.int .i64 0) nz (.bool false) (.map (some mc)) gp op (c.k+2) m8 gv ov cv d1 k1 wx.length gw c.k c.k xw xi (wx.map l9++List.replicate (c.k - wx.length) dP) MG zo zo hw (by simp;omega) (p2.cN (cH zP)) (p3.cN (cH zP)) (s1.cN (cH zP)) ((p1.elem (j:=0) rfl).cN (cH zP)) ((p1.elem (j:=1) rfl).cN (cH zP)) (HB.cN (cH zP)) Rb (aG _))) ?_;rintro _ _ ⟨rfl,g,rfl⟩;rw [show (wx.map l9++List.replicate (c.k - wx.length) dP).set wx.length (ptr g)=_ from MJ (x:=⟨g,d1,k1⟩) hw];refine wB ?_;refine bi (.mid gl gf (wx++[⟨g,d1,k1⟩])) ⟨by rw [aa,aj];omega,Xu _ rfl rfl⟩ (by dsimp only;rw [aa,aj];omega) ?_ ?_
    ·simp only [aa,aj];exact zS
    ·dsimp only;simp only [List.cons_append,List.nil_append];refine cn (Iu (A:=dI (mO 0 wx (List.replicate wx.length MG))) (B:=wk wx.length ⟨g,d1,k1⟩ MG) zP zP fun X=>Kg) ?_;simp only [aa,aj];exact zE
   ·have Rg:wx.length=c.k:=by omega
    have Dj:=MF (w:=w) (vl:=.slice (some ⟨gd,od,none⟩) 3 cl) (vs:=vs) (vu:=.slice (some ⟨RM,RN,none⟩) 1 cu);rw [JK] at Dj
    have r1:eh (M2::cM gc (il c) jJ (0,0)::R) gp (op+(c.k+1)*2) [.slice (some ⟨RM,RN,none⟩) 1 cu,Hg w]:=eh.elem (Hh.cN (cH .zero)) Bj (j:=c.k+1) Dj;have s1:Rd [M2] ⟨gp,op+(c.k+1)*2,none⟩ (.slice (some ⟨RM,RN,none⟩) 1 cu):=cF.elemOf Hh Bj (j:=c.k+1) (i:=0) Dj rfl;rw [Rg,Nat.sub_self,List.replicate_zero,aK]
    (repeat (refine wA ?_;intros))
    rename_i g7;refine O.gT (us:=[ptr w]) (ws:=[]) (vs:=[]) rfl rfl rfl (Ct.C9 zP zP (uU _ e w c hc (ptr gl) (ptr gf) (.slice (some ⟨gw,0,none⟩) c.k c.k) dP dP dP dP x iO (.int .i64 0) nz (.map (some mr)) (.map (some ml)) (.int .i64 0) nz (.bool false) (.map (some mc)) gp op m8 RM RN cu ud ⟨[]⟩ (s1.cN (cH zP)) ((Rf.elem (j:=0) rfl).cN (cH zP)) (JS.cN (cH zP)) Rc)) ?_;rintro _ _ ⟨rfl,gu,rfl⟩;refine wB ?_;refine bi (.all gl gf wx gu) ⟨Rg,UX⟩ zd zS ?_;dsimp only;simp only [List.cons_append,List.nil_append];rw [Rg];exact zE
  | all gl gf wx gu =>
   obtain ⟨N8,UX⟩:=hj;simp only [Ub,Ox.idx,List.cons_append,List.nil_append];rw [N8];clear r0 s0;refine wB ?_;obtain ⟨UY,Rh⟩:∃ X:cK,X=Ex fun v:Value=>cM w (fP c (.slice (some ⟨gp,op,none⟩) (c.k+2) m8) (ptr gl) (ptr gf) (.slice (some ⟨gw,0,none⟩) c.k c.k) v (ptr gu) dP dP x iO mr ml mc) dv (0,0):=⟨_,rfl⟩
   have hE:∀ (v:Value) (X:List cK),cC (cM w (fP c (.slice (some ⟨gp,op,none⟩) (c.k+2) m8) (ptr gl) (ptr gf) (.slice (some ⟨gw,0,none⟩) c.k c.k) v (ptr gu) dP dP x iO mr ml mc) dv (0,0)::X) (UY::X):=fun v X=>by rw [Rh];exact fI (f:=fun v:Value=>cM w (fP c (.slice (some ⟨gp,op,none⟩) (c.k+2) m8) (ptr gl) (ptr gf) (.slice (some ⟨gw,0,none⟩) c.k c.k) v (ptr gu) dP dP x iO mr ml mc) dv (0,0)) v
   have rA:eh (UY::M2::cM gc (il c) jJ (0,0)::R) w (0+16) [x,iO,.int .i64 (c.eE:Int)]:=by rw [Rh];exact eh.ex fun v=>eh.fg .zero ⟨3,rfl⟩
   refine bl (id:=21) [14] (UY::M2::cM gc (il c) jJ (0,0)::R) Tryz.mixed ?_;refine bN 0 _ rfl zK (cn (bz (show cT _ (cM w (fP c (.slice (some ⟨gp,op,none⟩) (c.k+2) m8) (ptr gl) (ptr gf) (.slice (some ⟨gw,0,none⟩) c.k c.k) dP (ptr gu) dP dP x iO mr ml mc) dv (0,0)) _ from zP) aX) (cn ((hE dP) _) zE)) (bq rfl zR) rfl ?_;refine bN 1 _ rfl zK (cn (bz (show cT _ (cM w (fP c (.slice (some ⟨gp,op,none⟩) (c.k+2) m8) (ptr gl) (ptr gf) (.slice (some ⟨gw,0,none⟩) c.k c.k) dP (ptr gu) dP dP x iO mr ml mc) dv (0,0)) _ from zP) aX) (cn ((hE dP) _) zE)) (bq rfl zR) rfl ?_;refine bN 2 _ rfl zK (cn (bz (show cT _ (cM w (fP c (.slice (some ⟨gp,op,none⟩) (c.k+2) m8) (ptr gl) (ptr gf) (.slice (some ⟨gw,0,none⟩) c.k c.k) dP (ptr gu) dP dP x iO mr ml mc) dv (0,0)) _ from zP) aX) (cn ((hE dP) _) zE)) (bp rfl) rfl ?_;refine bN 3 _ rfl zK (cn (bz (show cT _ (cM w (fP c (.slice (some ⟨gp,op,none⟩) (c.k+2) m8) (ptr gl) (ptr gf) (.slice (some ⟨gw,0,none⟩) c.k c.k) dP (ptr gu) dP dP x iO mr ml mc) dv (0,0)) _ from zP) aX) (cn ((hE dP) _) zE)) (bb rfl) rfl ?_;refine bN 4 _ rfl zK (cn (bz (show cT _ (cM w (fP c (.slice (some ⟨gp,op,none⟩) (c.k+2) m8) (ptr gl) (ptr gf) (.slice (some ⟨gw,0,none⟩) c.k c.k) dP (ptr gu) dP dP x iO mr ml mc) dv (0,0)) _ from zP) aX) (cn ((hE dP) _) zE)) (cE.dD rfl rA rfl) rfl ?_
   refine bN 5 _ rfl zK (cn (bz (show cT _ (cM w (fP c (.slice (some ⟨gp,op,none⟩) (c.k+2) m8) (ptr gl) (ptr gf) (.slice (some ⟨gw,0,none⟩) c.k c.k) dP (ptr gu) dP dP x iO mr ml mc) dv (0,0)) _ from zP) aX) (cn ((hE dP) _) zE)) (bb rfl) rfl ?_;refine bN 6 _ rfl zK (cn (bz (show cT _ (cM w (fP c (.slice (some ⟨gp,op,none⟩) (c.k+2) m8) (ptr gl) (ptr gf) (.slice (some ⟨gw,0,none⟩) c.k c.k) dP (ptr gu) dP dP x iO mr ml mc) dv (0,0)) _ from zP) aX) (cn ((hE dP) _) zE)) (bq rfl zR) rfl ?_;refine tO 7 ?_;refine bg rfl rfl (JR _ e x iO (df c) c.retry (JS.cN (cH zP)) hc.wJ hc.retry.1 hc.retry.2) ?_;rintro _ _ ⟨qi,rfl,rfl⟩;rw [mN];refine ⟨fun _=>(cn (bz (show cT _ (cM w (fP c (.slice (some ⟨gp,op,none⟩) (c.k+2) m8) (ptr gl) (ptr gf) (.slice (some ⟨gw,0,none⟩) c.k c.k) dP (ptr gu) dP dP x iO mr ml mc) dv (0,0)) _ from zP) aX) (cn ((hE dP) _) zE)),?_⟩;refine bN 8 _ rfl zK (cn (bz (show cT _ (cM w (fP c (.slice (some ⟨gp,op,none⟩) (c.k+2) m8) (ptr gl) (ptr gf) (.slice (some ⟨gw,0,none⟩) c.k c.k) dP (ptr gu) dP dP x iO mr ml mc) dv (0,0)) _ from zP) aX) (cn ((hE dP) _) zE)) (bw rfl) rfl ?_;refine bN 9 _ rfl zK (cn (bz (show cT _ (cM w (fP c (.slice (some ⟨gp,op,none⟩) (c.k+2) m8) (ptr gl) (ptr gf) (.slice (some ⟨gw,0,none⟩) c.k c.k) dP (ptr gu) dP dP x iO mr ml mc) dv (0,0)) _ from zP) aX) (cn ((hE dP) _) zE)) (bn rfl rfl) rfl ?_
   refine bN 10 _ rfl zK (cn (bz (show cT _ (cM w (fP c (.slice (some ⟨gp,op,none⟩) (c.k+2) m8) (ptr gl) (ptr gf) (.slice (some ⟨gw,0,none⟩) c.k c.k) dP (ptr gu) dP dP x iO mr ml mc) dv (0,0)) _ from zP) aX) (cn ((hE dP) _) zE)) (bn rfl rfl) rfl ?_;refine bN 11 _ rfl zK (cn (bz (show cT _ (cM w (fP c (.slice (some ⟨gp,op,none⟩) (c.k+2) m8) (ptr gl) (ptr gf) (.slice (some ⟨gw,0,none⟩) c.k c.k) dP (ptr gu) dP dP x iO mr ml mc) dv (0,0)) _ from zP) aX) (cn ((hE dP) _) zE)) (bp rfl) rfl ?_;refine bN 12 _ rfl zK (cn (bz (show cT _ (cM w (fP c (.slice (some ⟨gp,op,none⟩) (c.k+2) m8) (ptr gl) (ptr gf) (.slice (some ⟨gw,0,none⟩) c.k c.k) dP (ptr gu) dP dP x iO mr ml mc) dv (0,0)) _ from zP) aX) (cn ((hE dP) _) zE)) (bb rfl) rfl ?_;refine tO 13 ?_;refine tZ ?_;refine ⟨fun _=>(cn (bz (show cT _ (cM w (fP c (.slice (some ⟨gp,op,none⟩) (c.k+2) m8) (ptr gl) (ptr gf) (.slice (some ⟨gw,0,none⟩) c.k c.k) (ptr qi) (ptr gu) dP dP x iO mr ml mc) dv (0,0)) _ from zP) aX) (cn ((hE (ptr qi)) _) zE)),?_⟩;refine tO 14 ?_;refine dV (bj rfl) ?_;refine bf zK ?_;clear hE rA Rh UY;refine wB ?_;obtain ⟨UZ,Ri⟩:∃ X:cK,X=Ex fun v:Value=>cM w (fP c (.slice (some ⟨gp,op,none⟩) (c.k+2) m8) (ptr gl) (ptr gf) (.slice (some ⟨gw,0,none⟩) c.k c.k) (ptr qi) (ptr gu) v dP x iO mr ml mc) dv (0,0):=⟨_,rfl⟩
   have Iv:∀ (v:Value) (X:List cK),cC (cM w (fP c (.slice (some ⟨gp,op,none⟩) (c.k+2) m8) (ptr gl) (ptr gf) (.slice (some ⟨gw,0,none⟩) c.k c.k) (ptr qi) (ptr gu) v dP x iO mr ml mc) dv (0,0)::X) (UZ::X):=fun v X=>by rw [Ri];exact fI (f:=fun v:Value=>cM w (fP c (.slice (some ⟨gp,op,none⟩) (c.k+2) m8) (ptr gl) (ptr gf) (.slice (some ⟨gw,0,none⟩) c.k c.k) (ptr qi) (ptr gu) v dP x iO mr ml mc) dv (0,0)) v
   have rX:Rd (UZ::M2::cM gc (il c) jJ (0,0)::R) ⟨w,0+16+0,none⟩ x:=Rd.ea .zero (by rw [Ri];exact Rd.ex fun v=>bR .zero rfl);refine bl (id:=24) [] (UZ::M2::cM gc (il c) jJ (0,0)::R) Tryz.mixed ?_;refine bN 0 _ rfl zK (cn (bz (show cT _ (cM w (fP c (.slice (some ⟨gp,op,none⟩) (c.k+2) m8) (ptr gl) (ptr gf) (.slice (some ⟨gw,0,none⟩) c.k c.k) (ptr qi) (ptr gu) dP dP x iO mr ml mc) dv (0,0)) _ from zP) aX) (cn ((Iv dP) _) zE)) (bq rfl zR) rfl ?_;refine bN 1 _ rfl zK (cn (bz (show cT _ (cM w (fP c (.slice (some ⟨gp,op,none⟩) (c.k+2) m8) (ptr gl) (ptr gf) (.slice (some ⟨gw,0,none⟩) c.k c.k) (ptr qi) (ptr gu) dP dP x iO mr ml mc) dv (0,0)) _ from zP) aX) (cn ((Iv dP) _) zE)) (bq rfl zR) rfl ?_;refine bN 2 _ rfl zK (cn (bz (show cT _ (cM w (fP c (.slice (some ⟨gp,op,none⟩) (c.k+2) m8) (ptr gl) (ptr gf) (.slice (some ⟨gw,0,none⟩) c.k c.k) (ptr qi) (ptr gu) dP dP x iO mr ml mc) dv (0,0)) _ from zP) aX) (cn ((Iv dP) _) zE)) (bp rfl) rfl ?_;refine bN 3 _ rfl zK (cn (bz (show cT _ (cM w (fP c (.slice (some ⟨gp,op,none⟩) (c.k+2) m8) (ptr gl) (ptr gf) (.slice (some ⟨gw,0,none⟩) c.k c.k) (ptr qi) (ptr gu) dP dP x iO mr ml mc) dv (0,0)) _ from zP) aX) (cn ((Iv dP) _) zE)) (bb rfl) rfl ?_;refine bN 4 _ rfl zK (cn (bz (show cT _ (cM w (fP c (.slice (some ⟨gp,op,none⟩) (c.k+2) m8) (ptr gl) (ptr gf) (.slice (some ⟨gw,0,none⟩) c.k c.k) (ptr qi) (ptr gu) dP dP x iO mr ml mc) dv (0,0)) _ from zP) aX) (cn ((Iv dP) _) zE)) (bb rfl) rfl ?_
   refine bN 5 _ rfl zK (cn (bz (show cT _ (cM w (fP c (.slice (some ⟨gp,op,none⟩) (c.k+2) m8) (ptr gl) (ptr gf) (.slice (some ⟨gw,0,none⟩) c.k c.k) (ptr qi) (ptr gu) dP dP x iO mr ml mc) dv (0,0)) _ from zP) aX) (cn ((Iv dP) _) zE)) (bq rfl rX) rfl ?_;refine tO 6 ?_;refine bg rfl rfl (uO _ e x eL (HB.cN (cH zP)) (lj _)) ?_;rintro _ _ ⟨gm,rfl,rfl⟩;refine ⟨fun _=>(cn (bz (show cT _ (cM w (fP c (.slice (some ⟨gp,op,none⟩) (c.k+2) m8) (ptr gl) (ptr gf) (.slice (some ⟨gw,0,none⟩) c.k c.k) (ptr qi) (ptr gu) dP dP x iO mr ml mc) dv (0,0)) _ from zP) aX) (cn ((Iv dP) _) zE)),?_⟩;refine bN 7 _ rfl zK (cn (bz (show cT _ (cM w (fP c (.slice (some ⟨gp,op,none⟩) (c.k+2) m8) (ptr gl) (ptr gf) (.slice (some ⟨gw,0,none⟩) c.k c.k) (ptr qi) (ptr gu) dP dP x iO mr ml mc) dv (0,0)) _ from zP) aX) (cn ((Iv dP) _) zE)) (bw rfl) rfl ?_;refine bN 8 _ rfl zK (cn (bz (show cT _ (cM w (fP c (.slice (some ⟨gp,op,none⟩) (c.k+2) m8) (ptr gl) (ptr gf) (.slice (some ⟨gw,0,none⟩) c.k c.k) (ptr qi) (ptr gu) dP dP x iO mr ml mc) dv (0,0)) _ from zP) aX) (cn ((Iv dP) _) zE)) (bn rfl rfl) rfl ?_;refine bN 9 _ rfl zK (cn (bz (show cT _ (cM w (fP c (.slice (some ⟨gp,op,none⟩) (c.k+2) m8) (ptr gl) (ptr gf) (.slice (some ⟨gw,0,none⟩) c.k c.k) (ptr qi) (ptr gu) dP dP x iO mr ml mc) dv (0,0)) _ from zP) aX) (cn ((Iv dP) _) zE)) (bn rfl rfl) rfl ?_
   refine bN 10 _ rfl zK (cn (bz (show cT _ (cM w (fP c (.slice (some ⟨gp,op,none⟩) (c.k+2) m8) (ptr gl) (ptr gf) (.slice (some ⟨gw,0,none⟩) c.k c.k) (ptr qi) (ptr gu) dP dP x iO mr ml mc) dv (0,0)) _ from zP) aX) (cn ((Iv dP) _) zE)) (bp rfl) rfl ?_;refine bN 11 _ rfl zK (cn (bz (show cT _ (cM w (fP c (.slice (some ⟨gp,op,none⟩) (c.k+2) m8) (ptr gl) (ptr gf) (.slice (some ⟨gw,0,none⟩) c.k c.k) (ptr qi) (ptr gu) dP dP x iO mr ml mc) dv (0,0)) _ from zP) aX) (cn ((Iv dP) _) zE)) (bb rfl) rfl ?_;refine tO 12 ?_;refine tZ ?_;refine ⟨fun _=>(cn (bz (show cT _ (cM w (fP c (.slice (some ⟨gp,op,none⟩) (c.k+2) m8) (ptr gl) (ptr gf) (.slice (some ⟨gw,0,none⟩) c.k c.k) (ptr qi) (ptr gu) (ptr gm) dP x iO mr ml mc) dv (0,0)) _ from zP) aX) (cn ((Iv (ptr gm)) _) zE)),?_⟩;refine bf zK ?_;clear Iv rX Ri UZ;refine wB ?_;refine bl (id:=25) [] (M2::cM gc (il c) jJ (0,0)::R) Tryz.mixed ?_
   (refine tL 0 ?_)
   refine tO 1 ?_;refine bg rfl rfl (JW _ e 32 zo) ?_;rintro _ _ ⟨gn,rfl,rfl⟩;refine ⟨fun _=>zE,?_⟩
   (refine tM 2 ?_;refine tk 3 _ rfl (bn rfl rfl) ?_;refine tk 4 _ rfl (bn rfl rfl) ?_;refine tN 5 ?_;refine tF 6 ?_;(refine tO 7 ?_;refine tZ ?_;refine ⟨fun _=>(by (repeat first|exact zE|exact bK|refine bh ?_|(apply bz;exact zP)|refine cC.drop ?_);done),?_⟩))
   refine bf zK ?_;refine wB ?_
   have kQ:eO.ok ⟨(.slice (some ⟨gp,op,none⟩) (c.k+2) m8),gl,gf,(.slice (some ⟨gw,0,none⟩) c.k c.k),qi,gu,gm,gn,x,iO,nz,mr,ml,nz,mc,[],[],[],[],wx,ld,lk,fd,ud,[]⟩ M2 w c 0 (px c) :=
    {wJ:=JS
     root:=cF.nil _ _
     es:=fun x hx=>by cases hx
     kc:=fun x hx=>by cases hx
     all:=⟨.slice (some ⟨gd,od,none⟩) 3 cl,.slice (some ⟨RM,RN,none⟩) 1 cu,vs,JK,N8,by rw [← yL];exact Hh,ui,Rf,fun i h h2=>by
      have h3:i<wd.length:=by omega
      obtain ⟨a1,a2,a3⟩:=HG i h h3;obtain ⟨b1,b2⟩:=UX i h2 h3;dsimp only;rw [b1,b2];exact ⟨a1,a2,a3⟩⟩
     ei:=rfl
     st:=Iq hc
     ec:=aG _ }
   refine aY (eg w c 0 (px c) []::R) rfl (cn ?_ (eo kQ rfl)) ⟨w,rfl,rfl⟩;dsimp only [eA,eO.cells];rw [N8];refine cn (di tEv 4) ?_;exact zE
 (repeat (refine wA ?_;intros))
 rename_i gi;refine bl (id:=9) [12,13,14,15] (cM gi [.int .i64 (i.vs.length:Int)] 3 (0,0)::cM w (fP c (.slice i.ap (i.vs.length+1) i.kp) dP dP (.slice (some ⟨gw,0,none⟩) c.k c.k) dP dP dP dP x (.slice i.aw i.ts.length i.kw) mr ml mc) dv (0,0)::i.M::cM gc (il c) jJ (0,0)::R) Tryz.mixed ?_
 (refine tL 0 ?_;refine tL 1 ?_;refine tN 2 ?_;refine tF 3 ?_;refine tF 4 ?_;refine tL 5 ?_;refine tL 6 ?_;refine tk 7 _ rfl (cE.la rfl rfl zo) ?_)
 rw [show ((i.vs.length:Int)+1)=((i.vs.length+1:Nat):Int) by omega];refine tO 8 ?_;refine bg rfl rfl (oW _ e (i.vs.length+1) zo) ?_;rintro _ _ ⟨a9,ks,rfl,rfl⟩;refine ⟨fun _=>zE,?_⟩;refine tO 9 ?_;refine bg rfl rfl (lV _ e _ (cV (i.vs.length+1)) (ba (show cT _ (cR (.slice a9 (cV (i.vs.length+1)).length ks) (cV (i.vs.length+1))) _ from zP)) (oV _)) ?_;rintro pv _ ⟨N,rfl,hN⟩;refine ⟨fun _=>zE,?_⟩;refine A.cB (cz (hN.cN (cH .zero))) fun op=>?_
 refine tO 10 ?_;refine bF (n:=1) (cs:=[pv]) rfl rfl rfl rfl (.one (dU op) rfl .nil) rfl (fun gb=>⟨fun _=>zE,?_⟩);refine tO 11 ?_;refine bm rfl rfl rfl (show cT _ (cU (.slice i.aw i.ts.length i.kw) i.ts) _ from zP) (bu zP rfl zl) rfl rfl zO zm zo fun aw1 kw1 _=>⟨fun _=>zE,?_⟩
 ((refine tO 12 ?_;refine dV (bp rfl) ?_);(refine tO 13 ?_;refine dV (bb rfl) ?_);(refine tO 14 ?_;refine dV (bb rfl) ?_);(refine tO 15 ?_;refine tZ ?_;refine ⟨zN,?_⟩))
 refine bf zK ?_
 (repeat (refine wA ?_;intros))
 refine bl (id:=10) [12,13,14] (cM w (fP c (.slice i.ap (i.vs.length+1) i.kp) dP dP (.slice (some ⟨gw,0,none⟩) c.k c.k) dP dP dP dP x (.slice aw1 (i.ts.length+1) kw1) mr ml mc) dv (0,0)::i.M::cM gc (il c) jJ (0,0)::R) Tryz.mixed ?_
 (refine tL 0 ?_;refine tL 1 ?_;refine tN 2 ?_;refine tF 3 ?_;refine tL 4 ?_;refine tF 5 ?_;refine tL 6 ?_)
 refine tk 8 _ rfl (cE.makeFunc rfl rfl) ?_;refine tO 7 ?_;refine bg rfl rfl (qj _ e 2 zo) ?_;rintro _ _ ⟨dS,U0,gs,rfl,B6,rfl⟩
 obtain ⟨d1,k1,rfl⟩:∃ a b,gs=[a,b]:=by
  match gs,B6 with
  | [a,b],_=>exact ⟨a,b,rfl⟩
 refine ⟨fun _=>zE,?_⟩;refine tk 9 _ rfl (bL rfl zF) ?_;refine tO 10 ?_;refine bF (n:=2) (cs:=[.slice dS 2 U0,.func (.func 161) #[] #[ptr g4,ptr gi]]) rfl rfl rfl rfl zQ rfl (fun gb2=>⟨fun _=>zE,?_⟩);refine tO 11 ?_;refine bm rfl rfl rfl (show cT _ (dJ zZ 2 (.slice i.ap (i.vs.length+1) i.kp) (i.vs.length+1) (EV w vl i.vs)) _ from zP) (bQ (n:=2) (c:=1) zP rfl zl) rfl rfl zO zm zo fun ap1 kp1 _=>⟨fun _=>zE,?_⟩
 ((refine tO 12 ?_;refine dV (bp rfl) ?_);(refine tO 13 ?_;refine dV (bb rfl) ?_);(refine tO 14 ?_;refine tZ ?_;refine ⟨zN,?_⟩))
 refine bf zK ?_;refine wB ?_;refine bi ⟨i.vs++[(.slice dS 2 U0,g4,gi)],i.wd++[(d1,k1)],i.ts++[(pv,fu (cV (i.vs.length+1)))],ap1,kp1,aw1,kw1,dI [i.M,N,cM gi [.int .i64 (i.vs.length:Int)] 3 (0,0),dJ C4 1 (.slice dS 2 U0) 2 [ptr d1,ptr k1]]⟩ (hi.more cQ hN) (by simp only [aa,aj];omega) ?_ ?_
 ·simp only [aa,aj];exact zS
 ·simp only [T9,cU,EV,aa,aj,ah,List.map_cons,List.map_nil,aW,aV,List.flatMap_nil,aK];refine cn (qF (A:=i.M) (B:=N) (C:=cM gi [.int .i64 (i.vs.length:Int)] 3 (0,0)) (D:=dJ C4 1 (.slice dS 2 U0) 2 [ptr d1,ptr k1]) zP zP zP zP) ?_;exact cn (Iu (A:=dI (Is i.wd)) (B:=dI (jI [d1,k1])) zP zP fun X=>MH) zE
end Go.Proofs
