/- Part 10 of a proof of this: TopQuiet returns true for any arguments; nothing of the old memory is turned. No condition. -/
import Derived.Test.YtccekbdjebohcaaGreatQ09
set_option linter.unusedVariables false
set_option linter.unusedSimpArgs false
namespace Go.Proofs
attribute [local irreducible] Bs.cE Bs.Do Bs.O Bs.W Bs.Fin Bs.A Bs.Ct Bs.cF Bs.Rd Bs.Sat Bs.cL Bs.Ob Bs.dJ Bs.View Bs.cB Bs.Ex Bs.dH Bs.Pu Bs.eZ Bs.dO Bs.dZ
open Go.Bs
open Tryz
variable (R:List cK) (e:World)
theorem dc.Jg {c:di} {m:Nat} {s:dc} {x:fZ} (h:s.ok c m) (hx:x.ok c s.ls.cG):(s.send x).ok c m:=by
 unfold dc.send
 exact { h with
  ee:=fun y hy=>by
   have hy:y∈(if s.ee.length<32 then s.ee++[x] else s.ee):=hy
   split at hy
   ·rcases aJ.1 hy with hy|hy
    ·exact h.ee y hy
    ·rw [an.1 hy];exact hx
   ·exact h.ee y hy
  room:=by
   show (if s.ee.length<32 then s.ee++[x] else s.ee).length≤32
   split
   ·rw [aa];simp only [aj];omega
   ·exact h.room }
theorem dc.Wn {c:di} {m:Nat} {s:dc} {j:Nat} {w:eQ} (h:s.ok c m) (h1:w.ok) (h2:w.recs.length≤m) (h3:lM s.ls.cG w.c) (h4:w.some=true→w.dE.fY=j∧w.dE.sig.right):dc.ok c m { s with ws:=s.ws.set j w } :=
 {h with
  wl:=by show (s.ws.set j w).length=_;rw [List.length_set];exact h.wl
  ws:=fun y hy=>by
   rcases List.mem_or_eq_of_mem_set hy with hy|rfl
   ·exact h.ws y hy
   ·exact ⟨h1,h2,h3⟩
  iW:=fun i y hy hs=>by
   have hy:(s.ws.set j w)[i]?=some y:=hy
   by_cases DD:j=i
   ·subst DD
    by_cases hl:j<s.ws.length
    ·rw [List.getElem?_set_self hl] at hy;cases hy;exact h4 hs
    ·rw [List.getElem?_eq_none (by rw [List.length_set];omega)] at hy;cases hy
   ·rw [List.getElem?_set_ne DD] at hy
    exact h.iW i y hy hs }
theorem dc.FC {c:di} {m:Nat} {s:dc} {j n:Nat} {x:j7} (h:s.ok c m) (hm:m<250) (hj:j<c.k) (hx:Ac s.ls.cG x) (h0:0<s.ls.cG.length):(s.asked j x.dd n).ok c (m+1):=by
 obtain ⟨h1,h2,h3,h4,h5⟩:=Jf h hj (n:=n) hx;refine dc.Jg (dc.Wn (h.next hm) h1 h2 h3 h4) ⟨h0,?_⟩;unfold dc.PF
 split
 ·rename_i h6;exact ⟨hj,(h4 (h5 h6)).1,(h4 (h5 h6)).2⟩
 ·refine ⟨hj,?_⟩;have:=h3.1;have:=h.short
  omega
abbrev pF (c:di) (va vl vf l6 zG vu vm vn pX ik vt ve Ay Az AA vr AB AC:Value):List Value :=
 [.int .i64 (c.k:Int),.int .i64 (c.ez:Int),.int .i64 (c.room:Int),.int .i64 (c.size:Int),.int .i64 (c.wait:Int),.int .i64 (c.retry:Int),.int .i64 1048576,.string (str iL),
  va,vl,vf,l6,zG,vu,vm,vn,pX,ik,.int .i64 (c.ez:Int),vt,ve,Ay,Az,AA,vr,AB,AC]
abbrev ptr (g:Nat):Value:=pt g
theorem uJ (w:Nat) (c:di) (hc:c.ok) (vl vf l6 zG vu vm vn pX ik vt ve Ay Az AA vr AB AC:Value) (gp op lp kp gd od kd d k f:Nat) (ls:fW) (recs:List dw) (ML:0<lp)
 (h0:Rd R ⟨gp,op,none⟩ (.slice (some ⟨gd,od,none⟩) 3 kd)) (h1:Rd R ⟨gd,od,none⟩ (ptr d)) (h2:Rd R ⟨gd,od+1,none⟩ (ptr k)) (h3:Rd R ⟨gd,od+2,none⟩ (ptr f)) (Mr:ls.ok) (Ms:recs.length≤1000) (hg:∀ b∈recs,jm b∧b.length≤200) :
 Ct prog 160 #[ptr w] e (cL w (pF c (.slice (some ⟨gp,op,none⟩) lp kp) vl vf l6 zG vu vm vn pX ik vt ve Ay Az AA vr AB AC) dj (0,0)::df d (dz ls.jb)::df k (er ls.keys 1048576)::df f (dz (eW recs))::R)
  (fun v' L'=>v'=.int .i64 0∧∃ gl gf,L'=cL w (pF c (.slice (some ⟨gp,op,none⟩) lp kp) (ptr gl) (ptr gf) l6 zG vu vm vn pX ik vt ve Ay Az AA vr AB AC) dj (0,0)::ej gf f gl c.f ⟨recs,(iq ls.cG recs).map fun b=>(b,rB)⟩::cW gl d k (cS 0) { ls with last:=none }::R):=by
 refine a8 (args:=[_]) func160 rfl ntmps160 results160 rfl ?_;refine wB ?_;refine bk (id:=2) [12] R mixed ?_;refine tM 0 ?_;refine tk 1 _ rfl (bE rfl rfl (by decide)) ?_;refine tk 2 _ rfl (bp rfl h1) ?_;refine tM 3 ?_;refine tk 4 _ rfl (bE rfl rfl (by decide)) ?_;refine tk 5 _ rfl (bp rfl h2) ?_;refine tO 6 ?_;refine bg rfl rfl (pD _ e 0 zo) ?_;rintro _ _ ⟨ad,ks,rfl,rfl⟩;refine ⟨fun _=>zE,?_⟩;refine tO 7 ?_;refine bg rfl rfl (Ct.AR zP zP (Hv _ e d k _ (cS 0) ls (bb (show cR _ (cT (.slice ad (cS 0).length ks) (cS 0)) _ from zP)) (pC 0) Mr)) ?_;rintro _ _ ⟨gl,rfl,rfl⟩;refine ⟨fun _=>zE,?_⟩
 (refine tM 8 ?_;refine tk 9 _ rfl (bl rfl rfl) ?_;refine tk 10 _ rfl (bl rfl rfl) ?_;refine tA 11 ?_;(refine tO 12 ?_;refine dV (bj rfl) ?_))
 refine bf zK ?_;refine wB ?_;refine bk (id:=5) [27] (cL w (pF c (.slice (some ⟨gp,op,none⟩) lp kp) (ptr gl) vf l6 zG vu vm vn pX ik vt ve Ay Az AA vr AB AC) dj (0,0)::R) mixed ?_;refine tM 0 ?_;refine tk 1 _ rfl (bE rfl rfl (by decide)) ?_;refine tk 2 _ rfl (bp rfl (h3.cM zE)) ?_
 (refine tM 3 ?_;refine tN 4 ?_;refine tF 5 ?_;refine tL 6 ?_;refine tM 7 ?_;refine tN 8 ?_;refine tF 9 ?_;refine tF 10 ?_;refine tL 11 ?_;refine tM 12 ?_;refine tN 13 ?_;refine tF 14 ?_;refine tF 15 ?_;refine tL 16 ?_;refine tM 17 ?_;refine tN 18 ?_;refine tF 19 ?_;refine tF 20 ?_;refine tL 21 ?_)
 refine tO 22 ?_;refine bg rfl rfl (Ct.AR zP zP (HC _ e f gl d k (cS 0) { ls with last:=none } c.f recs hc.f Ms hg)) ?_;rintro _ _ ⟨gf,rfl,rfl⟩;refine ⟨fun _=>zE,?_⟩
 (refine tM 23 ?_;refine tk 24 _ rfl (bl rfl rfl) ?_;refine tk 25 _ rfl (bl rfl rfl) ?_;refine tA 26 ?_;(refine tO 27 ?_;refine dV (bj rfl) ?_))
 refine bf zK ?_;refine wB ?_;exact aY (cL w (pF c (.slice (some ⟨gp,op,none⟩) lp kp) (ptr gl) (ptr gf) l6 zG vu vm vn pX ik vt ve Ay Az AA vr AB AC) dj (0,0)::ej gf f gl c.f ⟨recs,(iq ls.cG recs).map fun b=>(b,rB)⟩::cW gl d k (cS 0) { ls with last:=none }::R) rfl zE ⟨rfl,gl,gf,rfl⟩
theorem vU (w:Nat) (c:di) (vl vf zG vu vm vn pX ik vt ve Ay Az AA vr AB AC:Value) (gp op lp kp gd od kd d k i gw nw kw:Nat) (AD:List Value) (s:eQ) (hi:i<3) (ML:i+1<lp) (gB:i<nw) (Be:AD.length=nw)
 (h0:Rd R ⟨gp,op+(i+1)*2,none⟩ (.slice (some ⟨gd,od,none⟩) 2 kd)) (h1:Rd R ⟨gd,od,none⟩ (ptr d)) (h2:Rd R ⟨gd,od+1,none⟩ (ptr k)) (Cn:db R pX dQ) (hs:s.ok) (lq:s.recs.length≤1000) :
 Ct prog 162 #[ptr w,.int .i64 (i:Int)] e (cL w (pF c (.slice (some ⟨gp,op,none⟩) lp kp) vl vf (.slice (some ⟨gw,0,none⟩) nw kw) zG vu vm vn pX ik vt ve Ay Az AA vr AB AC) dj (0,0)::dJ pZ 1 (.slice (some ⟨gw,0,none⟩) nw kw) nw AD::df d (dz s.jb)::df k (er s.keys 1048576)::R)
  (fun v' L'=>v'=.int .i64 0∧∃ g,L'=cL w (pF c (.slice (some ⟨gp,op,none⟩) lp kp) vl vf (.slice (some ⟨gw,0,none⟩) nw kw) zG vu vm vn pX ik vt ve Ay Az AA vr AB AC) dj (0,0)::dJ pZ 1 (.slice (some ⟨gw,0,none⟩) nw kw) nw (AD.set i (ptr g))::nE g d k i (cS (i+1)) dQ { s with dE:=gZ,some:=false }::R):=by
 have V5:dQ.length=32:=j5 _;refine a7 (cz (Cn.cM (show cB _ R from zE))) fun o1=>?_
 refine a8 (args:=[_,_]) func162 rfl ntmps162 results162 rfl ?_;refine wB ?_;refine bk (id:=2) [20] (cL w (pF c (.slice (some ⟨gp,op,none⟩) lp kp) vl vf (.slice (some ⟨gw,0,none⟩) nw kw) zG vu vm vn pX ik vt ve Ay Az AA vr AB AC) dj (0,0)::R) mixed ?_;refine tM 0 ?_;refine tk 1 _ rfl (bE rfl rfl (by decide)) ?_;refine tk 2 _ rfl (bp rfl (h1.cM zE)) ?_;refine tM 3 ?_;refine tk 4 _ rfl (bE rfl rfl (by decide)) ?_;refine tk 5 _ rfl (bp rfl (h2.cM zE)) ?_
 (refine tM 6 ?_;refine tM 7 ?_;refine tk 8 _ rfl (cE.kS rfl rfl zo) ?_;refine tM 10 ?_;refine tN 11 ?_;refine tF 12 ?_;refine tF 13 ?_;refine tL 14 ?_)
 rw [show ((i:Int)+1)=((i+1:Nat):Int) by omega];refine tO 9 ?_;refine bg rfl rfl (pD _ e (i+1) zo) ?_;rintro _ _ ⟨ad,ks,rfl,rfl⟩;refine ⟨fun _=>zE,?_⟩;refine tO 15 ?_;refine bg rfl rfl (Ct.AR zP zP (HI _ e d k i _ pX (cS (i+1)) dQ s (bb (show cR _ (cT (.slice ad (cS (i+1)).length ks) (cS (i+1))) _ from zP)) (Cn.cM zE) (pC _) V5 zo hs lq)) ?_;rintro _ _ ⟨g,rfl,rfl⟩;refine ⟨fun _=>zE,?_⟩
 (refine tM 16 ?_;refine tk 17 _ rfl (bl rfl rfl) ?_;refine tk 18 _ rfl (bl rfl rfl) ?_;refine tA 19 ?_;(refine tO 20 ?_;refine dV (bj rfl) ?_))
 refine bf zK ?_;refine wB ?_;simp only [aC,Nat.mul_one];exact aY (cL w (pF c (.slice (some ⟨gp,op,none⟩) lp kp) vl vf (.slice (some ⟨gw,0,none⟩) nw kw) zG vu vm vn pX ik vt ve Ay Az AA vr AB AC) dj (0,0)::dJ pZ 1 (.slice (some ⟨gw,0,none⟩) nw kw) nw (AD.set i (ptr g))::nE g d k i (cS (i+1)) dQ { s with dE:=gZ,some:=false }::R) rfl zE ⟨rfl,g,rfl⟩
theorem uK (w:Nat) (c:di) (vl vf zG vu vm vn pX ik vt ve Ay Az AA vr AB AC:Value) (gp op lp kp gd od kd d k i gw nw kw x y:Nat) (AD:List Value) (s:eQ) (hi:i<3) (ML:i+1<lp) (gB:i<nw) (Be:AD.length=nw)
 (hx:Rd R ⟨x,0,none⟩ (ptr w)) (hy:Rd R ⟨y,0,none⟩ (.int .i64 (i:Int)))
 (h0:Rd R ⟨gp,op+(i+1)*2,none⟩ (.slice (some ⟨gd,od,none⟩) 2 kd)) (h1:Rd R ⟨gd,od,none⟩ (ptr d)) (h2:Rd R ⟨gd,od+1,none⟩ (ptr k)) (Cn:db R pX dQ) (hs:s.ok) (lq:s.recs.length≤1000) :
 Ct prog 161 #[ptr x,ptr y] e (cL w (pF c (.slice (some ⟨gp,op,none⟩) lp kp) vl vf (.slice (some ⟨gw,0,none⟩) nw kw) zG vu vm vn pX ik vt ve Ay Az AA vr AB AC) dj (0,0)::dJ pZ 1 (.slice (some ⟨gw,0,none⟩) nw kw) nw AD::df d (dz s.jb)::df k (er s.keys 1048576)::R)
  (fun v' L'=>v'=.int .i64 0∧∃ g,L'=cL w (pF c (.slice (some ⟨gp,op,none⟩) lp kp) vl vf (.slice (some ⟨gw,0,none⟩) nw kw) zG vu vm vn pX ik vt ve Ay Az AA vr AB AC) dj (0,0)::dJ pZ 1 (.slice (some ⟨gw,0,none⟩) nw kw) nw (AD.set i (ptr g))::nE g d k i (cS (i+1)) dQ { s with dE:=gZ,some:=false }::R):=by
 refine a8 (args:=[_,_]) func161 rfl ntmps161 results161 rfl ?_;refine wB ?_;refine aZ rfl rfl (vU R e w c vl vf zG vu vm vn pX ik vt ve Ay Az AA vr AB AC gp op lp kp gd od kd d k i gw nw kw AD s hi ML gB Be h0 h1 h2 Cn hs lq) ?_;rintro _ _ ⟨rfl,g,rfl⟩;refine wB ?_;exact aY (cL w (pF c (.slice (some ⟨gp,op,none⟩) lp kp) vl vf (.slice (some ⟨gw,0,none⟩) nw kw) zG vu vm vn pX ik vt ve Ay Az AA vr AB AC) dj (0,0)::dJ pZ 1 (.slice (some ⟨gw,0,none⟩) nw kw) nw (AD.set i (ptr g))::nE g d k i (cS (i+1)) dQ { s with dE:=gZ,some:=false }::R) rfl zE ⟨rfl,g,rfl⟩
theorem K8:pK iL:=by
 refine ⟨by decide,by decide,fun b hb=>?_⟩;simp only [iL,aQ,aO,or_false] at hb
 rcases hb with rfl|rfl|rfl|rfl<;>decide
theorem oD (w:Nat) (c:di) (hc:c.ok) (vl vf l6 zG vu vm vn pX ik vt ve Ay Az AA vr AB AC:Value) (gp op kp gd od kd d:Nat) (s:m6)
 (h0:Rd R ⟨gp,op+(c.k+1)*2,none⟩ (.slice (some ⟨gd,od,none⟩) 1 kd)) (h1:Rd R ⟨gd,od,none⟩ (ptr d)) (Cn:j8 R pX ik (da c)) (hs:s.ok iL) :
 Ct prog 163 #[ptr w] e (cL w (pF c (.slice (some ⟨gp,op,none⟩) (c.k+2) kp) vl vf l6 zG vu vm vn pX ik vt ve Ay Az AA vr AB AC) dj (0,0)::df d (dz (eW s.recs))::R)
  (fun v' L'=>v'=.int .i64 0∧∃ g,L'=cL w (pF c (.slice (some ⟨gp,op,none⟩) (c.k+2) kp) vl vf l6 zG (ptr g) vm vn pX ik vt ve Ay Az AA vr AB AC) dj (0,0)::kj g d iL (da c) s::R):=by
 have hk:=hc.k;refine a7 (cz (Cn.log.cM (show cB _ R from zE))) fun o1=>?_
 refine a7 (Cn.ey.cM (show cB _ R from zE)).one fun o2=>?_
 refine a8 (args:=[_]) func163 rfl ntmps163 results163 rfl ?_;refine wB ?_;refine bk (id:=1) [29] (cL w (pF c (.slice (some ⟨gp,op,none⟩) (c.k+2) kp) vl vf l6 zG vu vm vn pX ik vt ve Ay Az AA vr AB AC) dj (0,0)::R) mixed ?_
 (refine tM 0 ?_;refine tN 1 ?_;refine tF 2 ?_;refine tL 3 ?_;refine tM 4 ?_;refine tN 5 ?_;refine tF 6 ?_;refine tL 7 ?_;refine tk 8 _ rfl (bN rfl) ?_;refine tk 9 _ rfl (cE.jA rfl rfl zo) ?_)
 rw [show (((c.k+2:Nat):Int) - 1)=((c.k+1:Nat):Int) by omega]
 (refine tk 10 _ rfl (bE rfl rfl zo) ?_;refine tF 11 ?_)
 refine tk 12 _ rfl (bp rfl (h0.cM zE)) ?_;refine tk 13 _ rfl (bE rfl rfl (by decide)) ?_;refine tk 14 _ rfl (bp rfl (h1.cM zE)) ?_
 (refine tM 15 ?_;refine tN 16 ?_;refine tF 17 ?_;refine tF 18 ?_;refine tL 19 ?_;refine tM 20 ?_;refine tN 21 ?_;refine tF 22 ?_;refine tk 23 _ rfl (cE.dh rfl zP zI zX) ?_)
 refine tO 24 ?_;refine bg rfl rfl (Ct.at zP (H4 _ e d iL pX ik (da c) s (Cn.cM zE) hc.wU K8 hs)) ?_;rintro _ _ ⟨g,rfl,rfl⟩;refine ⟨fun _=>zE,?_⟩
 (refine tM 25 ?_;refine tk 26 _ rfl (bl rfl rfl) ?_;refine tk 27 _ rfl (bl rfl rfl) ?_;refine tA 28 ?_;(refine tO 29 ?_;refine dV (bj rfl) ?_))
 refine bf zK ?_;refine wB ?_;exact aY (cL w (pF c (.slice (some ⟨gp,op,none⟩) (c.k+2) kp) vl vf l6 zG (ptr g) vm vn pX ik vt ve Ay Az AA vr AB AC) dj (0,0)::kj g d iL (da c) s::R) rfl zE ⟨rfl,g,rfl⟩
abbrev tCh:TypeId:=83
abbrev abr:Value:=.agg #[.int .i64 0,.int .i64 0,nY,nY]
theorem FD (k:Fin 1000 × Fin 1000):∀ l:List ((Fin 1000 × Fin 1000) × jo),∃ t:jo,(gK k (sM l)).getD abr=.agg (jo.cells t).toArray∧((gK k (sM l)).isSome=true→∃ p∈l,p.2=t)∧((gK k (sM l)).isSome=false→t=(gZ,nY,nY))
 | []=>⟨(gZ,nY,nY),rfl,fun h=>(by cases h),fun _=>rfl⟩
 | p::l=>by
  obtain ⟨t,h1,h2,h4⟩:=FD k l;have hc:gK k (sM (p::l))=if p.1=k then some (.agg (jo.cells p.2).toArray) else gK k (sM l):=rfl
  rw [hc]
  by_cases h:p.1=k
  ·rw [aI h];exact ⟨p.2,rfl,fun _=>⟨p,List.mem_cons_self ..,rfl⟩,fun q=>by cases q⟩
  ·rw [aB h];exact ⟨t,h1,fun q=>by obtain ⟨y,hy,h3⟩:=h2 q;exact ⟨y,aU _ hy,h3⟩,h4⟩
theorem Dk (k:Fin 1000 × Fin 1000) (t:jo):∀ l:List ((Fin 1000 × Fin 1000) × jo),∃ l',lH k (.agg (jo.cells t).toArray) (sM l)=sM l'∧∀ p∈l',p∈l∨p=(k,t)
 | []=>⟨[(k,t)],rfl,fun p hp=>.inr (an.1 hp)⟩
 | y::l=>by
  show ∃ l',lH k _ ((y.1,Value.agg (jo.cells y.2).toArray)::sM l)=_∧_
  unfold lH
  by_cases h:y.1=k
  ·rw [aI h]
   exact ⟨(k,t)::l,rfl,fun p hp=>by
    rcases aQ.1 hp with hp|hp
    ·exact .inr hp
    ·exact .inl (aU _ hp)⟩
  ·rw [aB h];obtain ⟨l',h1,h2⟩:=Dk k t l
   exact ⟨y::l',by rw [h1];rfl,fun p hp=>by
    rcases aQ.1 hp with hp|hp
    ·exact .inl (by rw [hp];exact List.mem_cons_self ..)
    ·exact (h2 p hp).imp (aU _) id⟩
theorem eh.ok.put {a:eh} {M:cK} {w:Nat} {c:di} {m:Nat} {s:dc} (h:a.ok M w c m s) (kc:List ((Fin 1000 × Fin 1000) × jo)) (hk:∀ p∈kc,jo.ok [M] p.2):eh.ok { a with kc:=kc } M w c m s:={ h with kc:=hk,all:=⟨h.all.all⟩ }
theorem Dl {A B C:cK}:cB [dH [A,B,C]] [A]:=cn (cU (M:=[_,_,_]) (L:=[])) (bh bG)
theorem NB {A B C:cK}:cB [dH [A,B,C]] [B]:=cn (cU (M:=[_,_,_]) (L:=[])) (cB.drop (bh bG))
theorem NC {A B C:cK}:cB [dH [A,B,C]] [C]:=cn (cU (M:=[_,_,_]) (L:=[])) (cB.drop (cB.drop (bh bG)))
theorem sN (g k:Nat) (l:List gW) (ee:List fZ) (x:fZ) (m:gW) (hl:l.map gW.d=ee.map (fZ.d k)) (hd:m.d=x.d k) (hr:db (Net g 32 l::R) m.v m.b) (hb:m.b.length≤140737488351232) (hn:ee.length≤32) :
 Ct prog 176 #[pt g,.agg m.cells.toArray] e (Net g 32 l::R) (fun v' L'=>v'=.bool (decide (ee.length<32))∧∃ l':List gW,l'.map gW.d=(if ee.length<32 then ee++[x] else ee).map (fZ.d k)∧L'=Net g 32 l'::R):=by
 have D0:l.length=ee.length:=by have:=congrArg List.length hl;simpa using this
 refine (sL R e g 32 l m hr hb zo zo).mono fun v' L' h=>?_
 rcases h with ⟨h1,rfl,v2,rfl⟩|⟨h1,rfl,rfl⟩
 ·refine ⟨by rw [ay zo],_,?_,rfl⟩;rw [aI zo,ah,ah,hl,List.map_cons,List.map_cons,← hd]
  rfl
 ·refine ⟨by rw [aq zo],_,?_,rfl⟩;rw [aB zo];exact hl
theorem FE (w:Nat) (c:di) (m:Nat) (s:dc) (ev:List (Int × Int × Int × dw)) (v:Value) (j n k:Nat) (x:j7) (path:List dw) (hv:db R v (qJ x n k path)) (hx:fZ.ok c s.ls.cG (.ask j x n k path)) (hm:m<250) :
 Ct prog 178 #[pt w,.int .i64 ((j+1:Nat):Int),v] e (dK w c m s ev::R) (fun v' L'=>v'=.int .i64 (s.xr j x.dd n)∧∃ jQ,rF jQ (s.asked j x.dd n)∧L'=dK w c (m+1) (s.asked j x.dd n) (ev++jQ)::R):=by
 obtain ⟨h0,hj,z5,hk,Oo,Q7⟩:=hx;subst hk;refine gN fun a M ha he=>?_
 have eK:=ha.st;have PC:=ha.ec;have Gd:=eK.xE.k;have lq:=eK.short;have na:=dc.FC eK hm hj z5 h0 (n:=n);have vK:=qL (l:=s.ls.cG.take x.dd.size) (n:=n) (by rw [aF];omega);rw [← Q7] at vK
 have Wo:=z5.1.1.1;obtain ⟨kf,Sv⟩:∃ kf:Fin 1000 × Fin 1000,kf=(⟨x.dd.size,by omega⟩,⟨j,by omega⟩):=⟨_,rfl⟩
 have Ui:ij kf=.agg #[.int .i64 (x.dd.size:Int),.int .i64 (j:Int)]:=by rw [Sv];rfl
 obtain ⟨t0,O0,Og,ht2⟩:=FD kf a.kc
 have hg0:(gK kf (sM a.kc)).isSome=true→jo.ok [M] t0:=fun q=>by
  obtain ⟨p,hp,rfl⟩:=Og q;exact ha.kc p hp
 refine a7 (p:=∀ y∈jo.cells t0,y.oneCell'=true) (fun hh hs=>?_) fun mY=>?_
 ·cases hq:(gK kf (sM a.kc)).isSome with
  | true =>
   have:=jo.jX (L:=dP w c s a M R) (ts:=[t0]) (fun t ht=>by rw [an.1 ht];exact (hg0 hq).cM (cH (show cR (dP w c s a M R) M _ from zP))) hh hs
   simpa using this
  | false =>
   rw [ht2 hq]
   exact fun y hy=>by
    simp only [jo.cells,iB,aQ,aO,or_false] at hy
    rcases hy with rfl|rfl|rfl|rfl<;>rfl
 obtain ⟨k1,k2,k3,k4,k5⟩:=eK.fY hj;obtain ⟨w1,w2,w3,w4,w5⟩:=Jf eK hj (n:=n) z5;obtain ⟨vl,vu,vs,Wp,K9,-⟩:=ha.all.all;have Wq:j<a.wx.length:=by omega
 have hjw:j<s.ws.length:=by rw [eK.wl];exact hj
 have SS:a.wx[j]?=some (a.wx[j]'Wq):=ae Wq
 generalize a.wx[j]'Wq=wx at SS
 refine a7 ((bb (show cR (dP w c s a M R) (dJ pZ 1 a.l6 a.wx.length (a.wx.map jJ)) _ from zP)).shape zo) ?_;rintro ⟨⟨HN,cw,BX,wG,IV,Ao,uW⟩,_⟩;rcases uW with uW|⟨gq,oq,abt⟩
 ·omega
 subst abt
 have QC:∀ (L R':List cK),cR L (dJ pZ 1 a.l6 a.wx.length (a.wx.map jJ)) R'→Rd L ⟨gq,oq+j,none⟩ (pt wx.g):=fun L R' pl=>by
  rw [BX] at pl
  exact (bb pl).elem (by rw [aL,SS];rfl)
 refine a8 (args:=[_,_,_]) func178 rfl ntmps178 results178 rfl ?_;refine wB ?_;refine aZ rfl rfl (zu _ e v x n x.dd.size path (hv.cM zE) z5.1.1 z5.2.1 zo zo vK.1 vK.2) ?_;rintro _ _ ⟨N,ur,up,uq,ad,kk,ts,rfl,fB,hN,tH,RW,rfl⟩;refine bn (cz (hN.root.cM (cH zP))) fun o3=>?_
 refine bn (hN.sig.cM (cH zP)).parts.one fun o4=>?_
 refine bn (hN.sig.cM (cH zP)).path.one fun o5=>?_
 (repeat (refine wA ?_;intros))
 rename_i g7 g8;rw [BX,show (((j+1:Nat):Int) - 1)=(j:Int) by omega]
 (repeat (refine wA ?_;intros))
 refine bW rfl (QC _ _ zP) rfl ?_;refine wB ?_;refine O.fp (cn (bw (show cR _ (dH (kg 0 a.wx s.ws)) _ from zP) aX) (FB SS k5)) ?_;have Ol:=fun L hxL Sl htL=>CM L e wx.g wx.d wx.k j (cS (j+1)) dQ (s.fY j) ur up uq (.slice ad ts.length kk) x n x.dd.size ts hxL z5.1.1 z5.2.1.fits zo zo zo Sl htL zo
 obtain ⟨q1,q2⟩:=Nx (j:=j) (ts:=ts) z5 k3 zo Oo (by rw [fB];exact Q7);rw [q1,q2] at Ol
 refine aZ rfl rfl (Ol _ (hN.cM (cH zP)) (tH.cM (cH zP)) (fun y hy=>(RW y hy).cM (cH zP))) ?_;rintro v0 _ ⟨hy,lY⟩
 by_cases hE:s.xr j x.dd n=0
 ·obtain ⟨N2,wp,wq,rfl,ns,rfl⟩:=hy hE;clear hy lY Ol;refine bn (ns.cM (cH zP)).parts.one fun o6=>?_
  refine bn (ns.cM (cH zP)).path.one fun o7=>?_
  have hb:=ha.st;obtain ⟨s1,fR⟩:∃ s1:dc,s1={ s with ws:=s.ws.set j (s.jf j x.dd n) }:=⟨_,rfl⟩
  have SU:s.asked j x.dd n=s1.send (.iW j (s.jf j x.dd n).dE):=by unfold dc.asked dc.PF;rw [aI hE,fR]
  have hyw:=w4 (w5 hE);rw [SU] at na ⊢
  rw [hE]
  have VP:cB (vS j wx (s.jf j x.dd n)::dH (oC 0 j a.wx s.ws)::cL w (a.cells c s) dj (0,0)::fC a.ve a.es::iD fJ a.mr a.kr::iD fJ a.ml a.kl::iD ij a.mc (sM a.kc)::M::ej a.gf a.wV a.gl c.f s.fs::cW a.gl a.ld a.lk (cS 0) s.ls::dJ pZ 1 a.l6 a.wx.length (a.wx.map jJ)::lj a.mH (da c) c.retry s.n s.fd::kj a.gu a.ud iL (da c) s.up::jO a.gm dQ s.mo::Net a.gn 32 a.nl::R) (dP w c s1 a M R):=by
   have:=Dj (R:=cL w (a.cells c s) dj (0,0)::fC a.ve a.es::iD fJ a.mr a.kr::iD fJ a.ml a.kl::iD ij a.mc (sM a.kc)::M::ej a.gf a.wV a.gl c.f s.fs::cW a.gl a.ld a.lk (cS 0) s.ls::dJ pZ 1 a.l6 a.wx.length (a.wx.map jJ)::lj a.mH (da c) c.retry s.n s.fd::kj a.gu a.ud iL (da c) s.up::jO a.gm dQ s.mo::Net a.gn 32 a.nl::R) (x:=wx) (s:=s.jf j x.dd n) Wq hjw;rw [uI _ _ _ SS] at this
   rw [fR];exact cn this zE
  generalize hg:(s.jf j x.dd n).dE=g at *
  (repeat (refine wA ?_;intros))
  rename_i DK;refine O.fp (show cB _ (cL DK (iB g wp wq) nH (0,0)::N2::cL g7 (dT x ur up uq) rE (0,0)::N::dP w c s1 a M R) from ?_) ?_
  ·exact cn (show cB _ (cL DK (iB g wp wq) nH (0,0)::N2::cL g7 (dT x ur up uq) rE (0,0)::N::vS j wx (s.jf j x.dd n)::dH (oC 0 j a.wx s.ws)::cL w (a.cells c s) dj (0,0)::fC a.ve a.es::iD fJ a.mr a.kr::iD fJ a.ml a.kl::iD ij a.mc (sM a.kc)::M::ej a.gf a.wV a.gl c.f s.fs::cW a.gl a.ld a.lk (cS 0) s.ls::dJ pZ 1 a.l6 a.wx.length (a.wx.map jJ)::lj a.mH (da c) c.retry s.n s.fd::kj a.gu a.ud iL (da c) s.up::jO a.gm dQ s.mo::Net a.gn 32 a.nl::R) from zE) (bh (bh (bh (bh VP))))
  refine aZ rfl rfl (jk _ e) ?_;rintro _ _ ⟨gw,rfl,rfl⟩;refine wB ?_;refine aZ rfl rfl (mC _ e gw [] 1 (by simp)) ?_;rintro _ _ ⟨rfl,rfl⟩;rw [show []++[(1:UInt8)]=[1] from rfl];refine wB ?_;refine aZ rfl rfl (Bn _ e gw [1] wp wq g (ns.cM (cH zP)) zo hyw.2 (by simp)) ?_;rintro _ _ ⟨rfl,rfl⟩;have oT:([1]++eV g:dw).length=2182:=by rw [aa,lr hyw.2];rfl
  rw [show ([1]++eV g:dw)=1::eV g from rfl] at oT ⊢
  have AX:a.nl.map gW.d=s1.ee.map (fZ.d c.k):=by rw [fR];exact ha.ee
  have OQ:s1.ee.length≤32:=by rw [fR];exact eK.room
  have hsn:s1.send (.iW j g)={ s1 with ee:=if s1.ee.length<32 then s1.ee++[.iW j g] else s1.ee }:=rfl;refine wB ?_;refine bk (id:=12) [] (cL w (a.cells c s1) dj (0,0)::R) mixed ?_
  (refine tM 0 ?_;refine tN 1 ?_;refine tF 2 ?_;refine tL 3 ?_;refine tM 4 ?_;refine tM 5 ?_)
  refine tO 6 ?_;refine bg rfl rfl (hJ _ e gw (1::eV g) zo) ?_;rintro _ _ ⟨eE,k3,rfl,rfl⟩;refine ⟨fun _=>zE,?_⟩;refine tk 7 _ rfl (bM rfl zF) ?_;refine tO 8 ?_;refine bg rfl rfl (Ct.at zP (sN _ e a.gn c.k a.nl s1.ee (.iW j g) ⟨2,((j+1:Nat):Int),0,.slice eE (1::eV g:dw).length k3,1::eV g⟩ AX rfl (bb (show cR _ (cT (.slice eE (1::eV g:dw).length k3) (1::eV g)) _ from zP)) zd OQ)) ?_;rintro _ _ ⟨rfl,Jh,ND,rfl⟩;refine ⟨fun _=>zE,?_⟩;refine bf zK ?_;have SV:s1.signed=s.signed:=by rw [fR]
  have eu:eh.ok { a with nl:=Jh } M w c (m+1) (s1.send (.iW j g)) :=
   {ha with ee:=ND,st:=na,ec:=by show a.es.length≤_;omega,all:=⟨ha.all.all⟩,root:=by show db [M] a.vr (dc.sv (s1.send (.iW j g))).root;rw [show dc.sv (s1.send (.iW j g))=s.sv by unfold dc.sv;rw [← SV];rfl];exact ha.root }
  (repeat' first|refine W.u2 (id:=15) (fun q:(Nat × Nat) × Bool=>[(0,pt w),(1,.int .i64 ((j+1:Nat):Int)),(7,pt g7),(11,pt DK),(12,.int .i64 0),(14,pt q.1.1),(15,pt q.1.2),(16,.bool q.2)]) (fun q=>cL q.1.2 (jo.cells t0) nH (0,0)::cL q.1.1 [.int .i64 (x.dd.size:Int),.int .i64 (j:Int)] m3 (0,0)::cL DK (iB g wp wq) nH (0,0)::N2::cL g7 (dT x ur up uq) rE (0,0)::N::dP w c (s1.send (.iW j g)) { a with nl:=Jh } M R) (fun q=>q.2=(gK kf (sM a.kc)).isSome) ?_ ?_|refine Za ?_|apply Zc|apply Zd|apply Ze|apply Zf|refine Zh ?_|refine Zi ?_|refine ZU ?_|refine Ye ?_|refine Yh fun _=>?_|refine YR ?_|fail)
  rotate_left
  ·refine ⟨?_⟩;rename_i Ax;refine W.gC [(0,pt w),(1,.int .i64 ((j+1:Nat):Int)),(7,pt g7),(11,pt DK),(12,.int .i64 0),(14,pt Ax)] zS ?_;refine bk (id:=14) [11] (cL Ax [.int .i64 (x.dd.size:Int),.int .i64 (j:Int)] m3 (0,0)::cL w (a.cells c s1) dj (0,0)::R) mixed ?_
   (refine tM 0 ?_;refine tN 1 ?_;refine tF 2 ?_;refine tL 3 ?_;refine tJ 4 ?_)
   refine A.two 5 9 rfl rfl rfl rfl zK ?_ ?_
   ·refine bO (cE.kF (key:=ij) (k:=kf) rfl (by rw [Ui];rfl) zP) rfl ⟨fun _=>zE,?_⟩;rw [O0]
    (refine tM 6 ?_;refine tk 7 _ rfl (bl rfl rfl) ?_;refine tk 8 _ rfl (bl rfl rfl) ?_)
    refine tO 9 ?_;refine bR (cs:=[.int .i64 0,.int .i64 0,nY,nY]) rfl rfl fun Uj=>⟨fun _=>zE,?_⟩
    refine tO 10 ?_;apply Do.ep;exact rfl;exact rfl;exact rfl;exact mY;exact zU;exact zW;refine ⟨fun _=>zE,?_⟩
    ((refine tO 11 ?_;refine dV (bj rfl) ?_))
    refine bf zK ?_;exact bK ((Ax,Uj),(gK kf (sM a.kc)).isSome) rfl zS zE
   ·refine bR (cs:=[.int .i64 0,.int .i64 0,nY,nY]) rfl rfl fun Uj=>⟨fun _=>zE,?_⟩
    refine tO 5 ?_;refine bO (cE.kF (key:=ij) (k:=kf) rfl (by rw [Ui];rfl) zP) rfl ⟨fun _=>zE,?_⟩;rw [O0]
    (refine tM 6 ?_;refine tk 7 _ rfl (bl rfl rfl) ?_;refine tk 8 _ rfl (bl rfl rfl) ?_)
    refine tO 10 ?_;apply Do.ep;exact rfl;exact rfl;exact rfl;exact mY;exact zU;exact zW;refine ⟨fun _=>zE,?_⟩
    ((refine tO 11 ?_;refine dV (bj rfl) ?_))
    refine bf zK ?_;exact bK ((Ax,Uj),(gK kf (sM a.kc)).isSome) rfl zS zE
  rintro ⟨⟨Ax,Uj⟩,told⟩ Q8;dsimp only at Q8 ⊢
  obtain ⟨b,hb⟩:∃ b:eh,b={ a with nl:=Jh }:=⟨_,rfl⟩
  rw [← hb] at eu ⊢
  obtain ⟨s2,mz⟩:∃ s2:dc,s2=s1.send (.iW j g):=⟨_,rfl⟩
  rw [← mz] at eu ⊢
  have hbc:b.kc=a.kc:=by rw [hb]
  have GR:b.es=a.es:=by rw [hb]
  have PI:s2.fs.recs≠[]:=by rw [mz,fR];exact eK.some h0
  have DS:b.es.length≤600*m:=by rw [GR];exact PC
  cases told with
  | false =>
   refine wB ?_;refine W.gC [(0,pt w),(1,.int .i64 ((j+1:Nat):Int)),(7,pt g7),(11,pt DK),(12,.int .i64 0),(14,pt Ax)] zS ?_;refine bk (id:=16) [6] (cL Ax [.int .i64 (x.dd.size:Int),.int .i64 (j:Int)] m3 (0,0)::cL DK (iB g wp wq) nH (0,0)::dP w c s2 b M R) mixed ?_
   (refine tM 0 ?_;refine tN 1 ?_;refine tF 2 ?_;refine tL 3 ?_;refine tJ 4 ?_;refine tJ 5 ?_)
   refine tO 6 ?_;refine Do.jV (key:=ij) (k:=kf) rfl (by rw [Ui];rfl) rfl zP ⟨zN,?_⟩;refine bf zK ?_;obtain ⟨SW,Oe,Qt⟩:=Dk kf (g,wp,wq) b.kc;rw [show lH kf (Value.agg (iB g wp wq).toArray) (sM b.kc)=sM SW from Oe];refine wB ?_;rw [show (((j+1:Nat):Int) - 1)=(j:Int) by omega];refine aZ rfl rfl (Ct.AR zP zP (iu _ e w c s2 { b with kc:=SW } 4 (x.dd.size:Int) (j:Int) ur x.dd.root o3 zd)) ?_;rintro _ _ ⟨rfl,ve,rfl⟩
   have nK:=(((eu.more (Dl (A:=M) (B:=N) (C:=N2))).put SW (fun p hp=>by
    rcases Qt p hp with hp|rfl
    ·exact ((eu.kc p hp).cM Dl)
    ·exact ⟨ns.cM NC,by show g.fY<_;omega⟩)).seen (x:=⟨4,(x.dd.size:Int),(j:Int),ur,x.dd.root⟩) ve (hN.root.cM NB) zd (by show x.dd.root.length≤1000;have:=z5.1.1.2;omega))
   refine wB ?_;refine aY (dK w c (m+1) s2 (ev++[(4,(x.dd.size:Int),(j:Int),x.dd.root)])::R) rfl (cn ?_ (dU nK (by dsimp only;rw [ah,GR,he];rfl))) ⟨rfl,_,?_,rfl⟩
   ·exact cn (rb (A:=M) (B:=N) (C:=N2) zP zP zP) zE
   ·intro y hy;rw [an.1 hy];exact ⟨(by decide:(4:Int)≠3),.inr PI⟩
  | true =>
   have J6:=hg0 Q8.symm;obtain ⟨⟨w0,sg0⟩,tp,tq⟩:=t0;obtain ⟨t1,t2⟩:=J6;dsimp only at t1 t2
   have hfq:∀ {L R':List cK},cR L M R'→fN L tp tq sg0:=fun pl=>t1.cM (cH pl)
   dsimp only [jo.cells];refine wB ?_;refine aZ rfl rfl (G4 _ e tp tq wp wq ⟨w0,sg0⟩ g (hfq (show cR _ M _ from zP)) (ns.cM (cH (show cR _ N2 _ from zP)))) ?_;rintro _ _ ⟨rfl,rfl⟩
   by_cases Q9:(⟨w0,sg0⟩:kQ)=g
   ·rw [ay Q9];refine wB ?_;refine aY (dK w c (m+1) s2 ev::R) rfl (cn (show cB _ (dP w c s2 b M R) from zE) (dU eu (by rw [GR];exact he))) ⟨rfl,[],rF.nil,by rw [aK]⟩
   ·rw [aq Q9];refine wB ?_;refine W.gC [(0,pt w),(1,.int .i64 ((j+1:Nat):Int)),(7,pt g7),(11,pt DK),(12,.int .i64 0),(14,pt Ax)] zS ?_;refine bk (id:=16) [6] (cL Ax [.int .i64 (x.dd.size:Int),.int .i64 (j:Int)] m3 (0,0)::cL DK (iB g wp wq) nH (0,0)::dP w c s2 b M R) mixed ?_
    (refine tM 0 ?_;refine tN 1 ?_;refine tF 2 ?_;refine tL 3 ?_;refine tJ 4 ?_;refine tJ 5 ?_)
    refine tO 6 ?_;refine Do.jV (key:=ij) (k:=kf) rfl (by rw [Ui];rfl) rfl zP ⟨zN,?_⟩;refine bf zK ?_;obtain ⟨SW,Oe,Qt⟩:=Dk kf (g,wp,wq) b.kc;rw [show lH kf (Value.agg (iB g wp wq).toArray) (sM b.kc)=sM SW from Oe];refine wB ?_;rw [show (((j+1:Nat):Int) - 1)=(j:Int) by omega];refine aZ rfl rfl (Ct.AR zP zP (iu _ e w c s2 { b with kc:=SW } 4 (x.dd.size:Int) (j:Int) ur x.dd.root o3 zd)) ?_;rintro _ _ ⟨rfl,ve,rfl⟩
    have nK:=(((eu.more (Dl (A:=M) (B:=N) (C:=N2))).put SW (fun p hp=>by
     rcases Qt p hp with hp|rfl
     ·exact ((eu.kc p hp).cM Dl)
     ·exact ⟨ns.cM NC,by show g.fY<_;omega⟩)).seen (x:=⟨4,(x.dd.size:Int),(j:Int),ur,x.dd.root⟩) ve (hN.root.cM NB) zd (by show x.dd.root.length≤1000;have:=z5.1.1.2;omega))
    refine wB ?_;refine aY (dK w c (m+1) s2 (ev++[(4,(x.dd.size:Int),(j:Int),x.dd.root)])::R) rfl (cn ?_ (dU nK (by dsimp only;rw [ah,GR,he];rfl))) ⟨rfl,_,?_,rfl⟩
    ·exact cn (rb (A:=M) (B:=N) (C:=N2) zP zP zP) zE
    ·intro y hy;rw [an.1 hy];exact ⟨(by decide:(4:Int)≠3),.inr PI⟩
 ·obtain ⟨rfl,rfl⟩:=lY hE;clear hy lY Ol;obtain ⟨s1,fR⟩:∃ s1:dc,s1={ s with ws:=s.ws.set j (s.jf j x.dd n) }:=⟨_,rfl⟩
  have SU:s.asked j x.dd n=s1.send (.no j (s.jf j x.dd n).c.size):=by unfold dc.asked dc.PF;rw [aB hE,fR]
  rw [SU] at na ⊢
  have VP:cB (vS j wx (s.jf j x.dd n)::dH (oC 0 j a.wx s.ws)::cL w (a.cells c s) dj (0,0)::fC a.ve a.es::iD fJ a.mr a.kr::iD fJ a.ml a.kl::iD ij a.mc (sM a.kc)::M::ej a.gf a.wV a.gl c.f s.fs::cW a.gl a.ld a.lk (cS 0) s.ls::dJ pZ 1 a.l6 a.wx.length (a.wx.map jJ)::lj a.mH (da c) c.retry s.n s.fd::kj a.gu a.ud iL (da c) s.up::jO a.gm dQ s.mo::Net a.gn 32 a.nl::R) (dP w c s1 a M R):=by
   have:=Dj (R:=cL w (a.cells c s) dj (0,0)::fC a.ve a.es::iD fJ a.mr a.kr::iD fJ a.ml a.kl::iD ij a.mc (sM a.kc)::M::ej a.gf a.wV a.gl c.f s.fs::cW a.gl a.ld a.lk (cS 0) s.ls::dJ pZ 1 a.l6 a.wx.length (a.wx.map jJ)::lj a.mH (da c) c.retry s.n s.fd::kj a.gu a.ud iL (da c) s.up::jO a.gm dQ s.mo::Net a.gn 32 a.nl::R) (x:=wx) (s:=s.jf j x.dd n) Wq hjw;rw [uI _ _ _ SS] at this
   rw [fR];exact cn this zE
  generalize hEE:s.xr j x.dd n=E at *
  have LB:(s.jf j x.dd n).c.size≤256:=(eQ.uy w1).1
  (repeat (refine wA ?_;intros))
  rename_i DK;refine aZ rfl rfl (jk _ e) ?_;rintro _ _ ⟨gw,rfl,rfl⟩;refine wB ?_;refine aZ rfl rfl (mC _ e gw [] 0 (by simp)) ?_;rintro _ _ ⟨rfl,rfl⟩;rw [show []++[(0:UInt8)]=[0] from rfl];refine wB ?_;refine aZ rfl rfl (Ct.at zP (E6 _ e wx.g wx.d wx.k j (cS (j+1)) dQ (s.jf j x.dd n))) ?_;rintro _ _ ⟨uv,kr,rfl,rfl⟩;have abv:∀ w',(Instr.field tCh (.agg #[.int .i64 ((s.jf j x.dd n).c.size:Int),.slice uv (s.jf j x.dd n).c.root.length kr]) 0).run prog w'=.ok (.int .i64 ((s.jf j x.dd n).c.size:Int)) w':=fun w'=>by kernel_rfl
  (repeat' first|(refine bx _ (cE.SN abv rfl) rfl ?_)|refine ZY ?_|fail)
  refine aZ rfl rfl (Ct.at zP (gF _ e gw [0] (s.jf j x.dd n).c.size zo (by simp))) ?_;rintro _ _ ⟨rfl,rfl⟩;rw [show ([0]++be (s.jf j x.dd n).c.size 4:dw)=0::be (s.jf j x.dd n).c.size 4 from rfl];have oT:(0::be (s.jf j x.dd n).c.size 4:dw).length=5:=by rw [aN,cY]
  refine O.fp (show cB _ (Writer gw (0::be (s.jf j x.dd n).c.size 4)::cL DK (iB gZ nY nY) nH (0,0)::cL g7 (dT x ur up uq) rE (0,0)::N::dP w c s1 a M R) from ?_) ?_
  ·exact cn (show cB _ (Writer gw (0::be (s.jf j x.dd n).c.size 4)::cL DK (iB gZ nY nY) nH (0,0)::cL g7 (dT x ur up uq) rE (0,0)::N::vS j wx (s.jf j x.dd n)::dH (oC 0 j a.wx s.ws)::cL w (a.cells c s) dj (0,0)::fC a.ve a.es::iD fJ a.mr a.kr::iD fJ a.ml a.kl::iD ij a.mc (sM a.kc)::M::ej a.gf a.wV a.gl c.f s.fs::cW a.gl a.ld a.lk (cS 0) s.ls::dJ pZ 1 a.l6 a.wx.length (a.wx.map jJ)::lj a.mH (da c) c.retry s.n s.fd::kj a.gu a.ud iL (da c) s.up::jO a.gm dQ s.mo::Net a.gn 32 a.nl::R) from zE) (bh (bh (bh (bh VP))))
  generalize afA:(s.jf j x.dd n).c.size=z at *
  have AX:a.nl.map gW.d=s1.ee.map (fZ.d c.k):=by rw [fR];exact ha.ee
  have OQ:s1.ee.length≤32:=by rw [fR];exact eK.room
  refine wB ?_;refine bk (id:=12) [] (cL w (a.cells c s1) dj (0,0)::R) mixed ?_
  (refine tM 0 ?_;refine tN 1 ?_;refine tF 2 ?_;refine tL 3 ?_;refine tM 4 ?_;refine tM 5 ?_)
  refine tO 6 ?_;refine bg rfl rfl (hJ _ e gw (0::be z 4) zo) ?_;rintro _ _ ⟨eE,k3,rfl,rfl⟩;refine ⟨fun _=>zE,?_⟩;refine tk 7 _ rfl (bM rfl zF) ?_;refine tO 8 ?_;refine bg rfl rfl (Ct.at zP (sN _ e a.gn c.k a.nl s1.ee (.no j z) ⟨2,((j+1:Nat):Int),0,.slice eE (0::be z 4:dw).length k3,0::be z 4⟩ AX rfl (bb (show cR _ (cT (.slice eE (0::be z 4:dw).length k3) (0::be z 4)) _ from zP)) zd OQ)) ?_;rintro _ _ ⟨rfl,Jh,ND,rfl⟩;refine ⟨fun _=>zE,?_⟩;refine bf zK ?_;have SV:s1.signed=s.signed:=by rw [fR]
  have eu:eh.ok { a with nl:=Jh } M w c (m+1) (s1.send (.no j z)) :=
   {ha with ee:=ND,st:=na,ec:=by show a.es.length≤_;omega,all:=⟨ha.all.all⟩,root:=by show db [M] a.vr (dc.sv (s1.send (.no j z))).root;rw [show dc.sv (s1.send (.no j z))=s.sv by unfold dc.sv;rw [← SV];rfl];exact ha.root }
  have afB:∀ R':List cK,Net a.gn 32 Jh::dP w c s1 { a with nl:=Jh } M R'=Net a.gn 32 Jh::dP w c (s1.send (.no j z)) { a with nl:=Jh } M R':=fun _=>rfl
  obtain ⟨b,hb⟩:∃ b:eh,b={ a with nl:=Jh }:=⟨_,rfl⟩
  obtain ⟨s2,mz⟩:∃ s2:dc,s2=s1.send (.no j z):=⟨_,rfl⟩
  have GR:b.es=a.es:=by rw [hb]
  have hbc:b.kc=a.kc:=by rw [hb]
  (repeat (refine wA ?_;intros))
  rename_i Ax;refine W.fp (show cB _ (cL Ax [.int .i64 (x.dd.size:Int),.int .i64 (j:Int)] m3 (0,0)::dP w c s2 b M R) from ?_) ?_
  ·rw [mz,hb];exact zE
  rw [← hb,← mz] at eu
  rw [← mz];rw [← hbc] at O0
  refine W.gC [(0,pt w),(1,.int .i64 ((j+1:Nat):Int)),(7,pt g7),(11,pt DK),(12,.int .i64 E),(14,pt Ax)] zS ?_;refine bk (id:=14) [11] (cL Ax [.int .i64 (x.dd.size:Int),.int .i64 (j:Int)] m3 (0,0)::cL w (b.cells c s2) dj (0,0)::R) mixed ?_
  (refine tM 0 ?_;refine tN 1 ?_;refine tF 2 ?_;refine tL 3 ?_;refine tJ 4 ?_)
  refine A.two 5 9 rfl rfl rfl rfl zK ?_ ?_
  ·refine bO (cE.kF (key:=ij) (k:=kf) rfl (by rw [Ui];rfl) zP) rfl ⟨fun _=>zE,?_⟩;rw [O0]
   (refine tM 6 ?_;refine tk 7 _ rfl (bl rfl rfl) ?_;refine tk 8 _ rfl (bl rfl rfl) ?_)
   refine tO 9 ?_;refine bR (cs:=[.int .i64 0,.int .i64 0,nY,nY]) rfl rfl fun Uj=>⟨fun _=>zE,?_⟩
   refine tO 10 ?_;apply Do.ep;exact rfl;exact rfl;exact rfl;exact mY;exact zU;exact zW;refine ⟨fun _=>zE,?_⟩
   ((refine tO 11 ?_;refine dV (bj rfl) ?_))
   refine bf zK ?_;refine wB ?_;refine aY (dK w c (m+1) s2 ev::R) rfl (cn (show cB _ (dP w c s2 b M R) from zE) (dU eu (by rw [GR];exact he))) ⟨rfl,[],rF.nil,by rw [aK]⟩
  ·refine bR (cs:=[.int .i64 0,.int .i64 0,nY,nY]) rfl rfl fun Uj=>⟨fun _=>zE,?_⟩
   refine tO 5 ?_;refine bO (cE.kF (key:=ij) (k:=kf) rfl (by rw [Ui];rfl) zP) rfl ⟨fun _=>zE,?_⟩;rw [O0]
   (refine tM 6 ?_;refine tk 7 _ rfl (bl rfl rfl) ?_;refine tk 8 _ rfl (bl rfl rfl) ?_)
   refine tO 10 ?_;apply Do.ep;exact rfl;exact rfl;exact rfl;exact mY;exact zU;exact zW;refine ⟨fun _=>zE,?_⟩
   ((refine tO 11 ?_;refine dV (bj rfl) ?_))
   refine bf zK ?_;refine wB ?_;refine aY (dK w c (m+1) s2 ev::R) rfl (cn (show cB _ (dP w c s2 b M R) from zE) (dU eu (by rw [GR];exact he))) ⟨rfl,[],rF.nil,by rw [aK]⟩
def jc {α:Type} (l:List α) (i:Nat):List α:=l.take i++l.drop (i+1)
theorem rk {α β:Type} (f:α→β) (l:List α) (i:Nat):(jc l i).map f=jc (l.map f) i:=by
 unfold jc;rw [ah,List.map_take,List.map_drop]
theorem La {α:Type} {l:List α} {i:Nat} {x:α} (h:x∈jc l i):x∈l:=by
 rcases aJ.1 h with h|h
 ·exact aR h
 ·exact aV h
theorem Lb {α:Type} (l:List α) (i:Nat):(jc l i).length≤l.length:=by
 unfold jc;rw [aa,aF,aP];omega
end Go.Proofs
namespace Go.Proofs
attribute [local irreducible] Bs.cE Bs.Do Bs.O Bs.W Bs.Fin Bs.A Bs.Ct Bs.cF Bs.Rd Bs.Sat Bs.cL Bs.Ob Bs.dJ Bs.View Bs.cB Bs.Ex Bs.dH Bs.Pu Bs.eZ Bs.dO Bs.dZ
open Go.Bs
open Tryz
variable (R:List cK) (e:World)
def dc.lost (s:dc) (i:Nat):dc:={ s with ee:=jc s.ee i }
theorem dc.Dm {c:di} {m:Nat} {s:dc} {i:Nat} (h:s.ok c m):(s.lost i).ok c m :=
 {h with
  ee:=fun x hx=>h.ee x (La hx)
  room:=Nat.le_trans (Lb _ _) h.room }
theorem Ji {l:List gW} {L R:List cK} {g n:Nat} (p:cR L (Net g n l) R):∀ h,dO L h→∀ m∈l,m.v.oneCell'=true:=fun h x m hm =>
 cz (db.cM (dR.ef (.zero:cR (cI (l.map gW.t)::R) (cI (l.map gW.t)) R) m.t (aE.2 ⟨m,hm,rfl⟩)) (cn p.out BQ)) h x
theorem eh.ok.PJ {a:eh} {M:cK} {w:Nat} {c:di} {m m':Nat} {s s':dc} (h:a.ok M w c m s) (hs:s'.ok c m') (hm:m≤m') (h1:s'.signed=s.signed) {nl:List gW} (h2:nl.map gW.d=s'.ee.map (fZ.d c.k)):eh.ok { a with nl:=nl } M w c m' s' :=
 {h with root:=by unfold dc.sv;rw [h1];exact h.root,ee:=h2,st:=hs,ec:=Nat.le_trans h.ec (Nat.mul_le_mul_left _ hm),all:=⟨h.all.all⟩ }
abbrev PK:TypeId:=268
theorem Ia (w:Nat) (c:di) (m:Nat) (s:dc) (ev:List (Int × Int × Int × dw)) (k to wh:Int) (n:Nat) (v:Value) (hv:v.oneCell'=true) (hn:n≤1000000) (hm:m<250) :
 Ct prog 88 #[pt w,.agg (oB k n to wh v).toArray] e (dK w c m s ev::R) (fun v' L'=>v'=.tuple #[.int .i64 0,.int .i64 (if n<s.ee.length then 0 else 1)]∧L'=dK w c (m+1) (if n<s.ee.length then s.lost n else s) ev::R):=by
 refine gN fun a M ha he=>?_
 have eK:=ha.st;have hrm:=eK.room;have D0:a.nl.length=s.ee.length:=by have:=congrArg List.length ha.ee;simpa using this
 refine a7 (Ji (show cR (dP w c s a M R) (Net a.gn 32 a.nl) _ from zP)) fun lY=>?_
 refine a8 (args:=[_,_]) func88 rfl ntmps88 results88 rfl ?_
 (repeat (refine wA ?_;intros))
 rename_i g3;refine bk (id:=1) [12] (cL g3 (oB k n to wh v) eN (0,0)::cL w (a.cells c s) dj (0,0)::R) mixed ?_
 (refine tM 0 ?_;refine tN 1 ?_;refine tF 2 ?_;refine tL 3 ?_;refine tF 4 ?_;refine tL 5 ?_)
 by_cases cP:n<s.ee.length
 ·rw [aI cP,aI cP]
  have eu:eh.ok { a with nl:=jc a.nl n } M w c (m+1) (s.lost n) :=
   ha.PJ (dc.Dm (eK.next hm)) (Nat.le_succ m) rfl (by show (jc a.nl n).map gW.d=(jc s.ee n).map _;rw [rk,rk,ha.ee])
  refine A.two 6 10 rfl rfl rfl rfl zK ?_ ?_
  ·refine bg rfl rfl (Ct.at zP (jt _ e a.gn 32 a.nl (n:Int) zo lY)) ?_;rintro _ _ (⟨k2,xu,Oo,rfl,rfl⟩|⟨Ib,-,-⟩)
   rotate_left
   ·exact absurd ⟨by omega,by omega⟩ Ib
   obtain rfl:n=k2:=by omega
   have mY:=lY _ (ax xu);rw [show a.nl.take n++a.nl.drop (n+1)=jc a.nl n from rfl]
   generalize a.nl[n]'xu=y at *
   refine ⟨fun _=>zE,?_⟩
   (refine tM 7 ?_;refine tk 8 _ rfl (bl rfl rfl) ?_;refine tk 9 _ rfl (bl rfl rfl) ?_)
   refine tO 10 ?_;refine bR (cs:=[.int .i64 0,.int .i64 0,.int .i64 0,nY]) rfl rfl fun g6=>⟨fun _=>zE,?_⟩
   refine tO 11 ?_;refine zg ?_;refine ⟨fun _=>zE,?_⟩
   ((refine tO 12 ?_;refine dV (bj rfl) ?_))
   refine bf zK ?_;refine wB ?_;refine aY (dK w c (m+1) (s.lost n) ev::R) rfl (cn (show cB _ (dP w c (s.lost n) { a with nl:=jc a.nl n } M R) from zE) (dU eu he)) ⟨rfl,rfl⟩
  ·refine bR (cs:=[.int .i64 0,.int .i64 0,.int .i64 0,nY]) rfl rfl fun g6=>⟨fun _=>zE,?_⟩
   refine tO 6 ?_;refine bg rfl rfl (Ct.at zP (jt _ e a.gn 32 a.nl (n:Int) zo lY)) ?_;rintro _ _ (⟨k2,xu,Oo,rfl,rfl⟩|⟨Ib,-,-⟩)
   rotate_left
   ·exact absurd ⟨by omega,by omega⟩ Ib
   obtain rfl:n=k2:=by omega
   have mY:=lY _ (ax xu);rw [show a.nl.take n++a.nl.drop (n+1)=jc a.nl n from rfl]
   generalize a.nl[n]'xu=y at *
   refine ⟨fun _=>zE,?_⟩
   (refine tM 7 ?_;refine tk 8 _ rfl (bl rfl rfl) ?_;refine tk 9 _ rfl (bl rfl rfl) ?_)
   refine tO 11 ?_;refine zg ?_;refine ⟨fun _=>zE,?_⟩
   ((refine tO 12 ?_;refine dV (bj rfl) ?_))
   refine bf zK ?_;refine wB ?_;refine aY (dK w c (m+1) (s.lost n) ev::R) rfl (cn (show cB _ (dP w c (s.lost n) { a with nl:=jc a.nl n } M R) from zE) (dU eu he)) ⟨rfl,rfl⟩
 ·rw [aB cP,aB cP];have eu:=ha.to (eK.next hm) (Nat.le_succ m) rfl rfl;refine A.two 6 10 rfl rfl rfl rfl zK ?_ ?_
  ·refine bg rfl rfl (Ct.at zP (jt _ e a.gn 32 a.nl (n:Int) zo lY)) ?_;rintro _ _ (⟨k2,xu,Oo,-,-⟩|⟨-,rfl,rfl⟩)
   ·exact absurd xu zo
   refine ⟨fun _=>zE,?_⟩
   (refine tM 7 ?_;refine tk 8 _ rfl (bl rfl rfl) ?_;refine tk 9 _ rfl (bl rfl rfl) ?_)
   refine tO 10 ?_;refine bR (cs:=[.int .i64 0,.int .i64 0,.int .i64 0,nY]) rfl rfl fun g6=>⟨fun _=>zE,?_⟩
   refine tO 11 ?_;refine zg ?_;refine ⟨fun _=>zE,?_⟩
   ((refine tO 12 ?_;refine dV (bj rfl) ?_))
   refine bf zK ?_;refine wB ?_;refine aY (dK w c (m+1) s ev::R) rfl (cn (show cB _ (dP w c s a M R) from zE) (dU eu he)) ⟨rfl,rfl⟩
  ·refine bR (cs:=[.int .i64 0,.int .i64 0,.int .i64 0,nY]) rfl rfl fun g6=>⟨fun _=>zE,?_⟩
   refine tO 6 ?_;refine bg rfl rfl (Ct.at zP (jt _ e a.gn 32 a.nl (n:Int) zo lY)) ?_;rintro _ _ (⟨k2,xu,Oo,-,-⟩|⟨-,rfl,rfl⟩)
   ·exact absurd xu zo
   refine ⟨fun _=>zE,?_⟩
   (refine tM 7 ?_;refine tk 8 _ rfl (bl rfl rfl) ?_;refine tk 9 _ rfl (bl rfl rfl) ?_)
   refine tO 11 ?_;refine zg ?_;refine ⟨fun _=>zE,?_⟩
   ((refine tO 12 ?_;refine dV (bj rfl) ?_))
   refine bf zK ?_;refine wB ?_;refine aY (dK w c (m+1) s ev::R) rfl (cn (show cB _ (dP w c s a M R) from zE) (dU eu he)) ⟨rfl,rfl⟩
def dc.FF (s:dc) (i:Nat):Int:=if s.ee.length≤i then 1 else if s.ee.length<32 then 0 else 13
def dc.LI (s:dc) (i:Nat):dc:=match s.ee[i]? with
 | none=>s
 | some x=>if s.ee.length<32 then { s with ee:=s.ee++[x] } else s
theorem dc.SX {c:di} {m:Nat} {s:dc} {i:Nat} (h:s.ok c m):(s.LI i).ok c m:=by
 unfold dc.LI
 split
 ·exact h
 ·rename_i x hx
  split
  ·rename_i hl
   exact { h with
    ee:=fun y hy=>by
     rcases aJ.1 hy with hy|hy
     ·exact h.ee y hy
     ·rw [an.1 hy];exact h.ee x (az hx)
    room:=by show (s.ee++[x]).length≤32;rw [aa];exact hl }
  ·exact h
theorem fZ.len {c:di} {l:List dw} {x:fZ} (h:x.ok c l) (hl:l.length≤250):(x.d c.k).2.2.2.length≤1000000:=by
 cases x with
 | ask w x n m path =>
  obtain ⟨-,-,h1,rfl,-,rfl⟩:=h;have hg:=qL (l:=l.take x.dd.size) (n:=n) (by rw [aF];omega);have hf:=fc hg.2
  show (qJ _ _ _ _).length≤_
  unfold qJ;simp only [aa,aN,cY,iQ h1.1.1 h1.2.1]
  omega
 | iW w g =>
  show (1::eV g:dw).length≤_
  rw [aN,lr h.2.2.2];omega
 | no w n=>show (0::be n 4:dw).length≤_;rw [aN,cY];omega
 | off b=>exact pu h.2.1
theorem Dn (w:Nat) (c:di) (m:Nat) (s:dc) (ev:List (Int × Int × Int × dw)) (k to wh:Int) (n:Nat) (v:Value) (hv:v.oneCell'=true) (hn:n≤1000000) (hm:m<250) :
 Ct prog 89 #[pt w,.agg (oB k n to wh v).toArray] e (dK w c m s ev::R) (fun v' L'=>v'=.tuple #[.int .i64 0,.int .i64 (s.FF n)]∧L'=dK w c (m+1) (s.LI n) ev::R):=by
 refine gN fun a M ha he=>?_
 have eK:=ha.st;have hrm:=eK.room;have lq:=eK.short;have D0:a.nl.length=s.ee.length:=by have:=congrArg List.length ha.ee;simpa using this
 have oT:∀ y∈a.nl,y.b.length≤140737488351232:=fun y hy=>by
  have h1:y.d∈s.ee.map (fZ.d c.k):=by rw [← ha.ee];exact aE.2 ⟨y,hy,rfl⟩
  obtain ⟨q,hq,hqd⟩:=aE.1 h1;have:=fZ.len (eK.ee q hq) lq;rw [hqd] at this
  exact Nat.le_trans this zo
 refine a8 (args:=[_,_]) func89 rfl ntmps89 results89 rfl ?_
 (repeat (refine wA ?_;intros))
 rename_i g3;refine bk (id:=1) [] (cL g3 (oB k n to wh v) eN (0,0)::cL w (a.cells c s) dj (0,0)::R) mixed ?_
 (refine tF 0 ?_;refine tL 1 ?_;refine tk 2 (.bool false) rfl (cE.no (cE.lss rfl rfl) zn) ?_;refine tM 3 ?_;refine dv 4 _ rfl (ba rfl) ?_;refine dv 5 _ rfl (bp rfl zR) ?_;refine dv 6 _ rfl (bu rfl) ?_;refine dv 7 _ rfl (bm rfl) ?_;refine dv 8 _ rfl (ba rfl) ?_;refine dv 9 _ rfl (bp rfl zR) ?_)
 refine A.ru 10 rfl rfl zK ?_;refine bg rfl rfl (Ct.at zP (BR _ e a.gn 32 a.nl)) ?_;rintro _ _ ⟨rfl,rfl⟩;refine ⟨fun _=>zE,?_⟩
 by_cases cP:n<a.nl.length
 rotate_left
 ·have hE:s.FF n=1:=by unfold dc.FF;rw [aI zo]
  have hS:s.LI n=s:=by unfold dc.LI;rw [List.getElem?_eq_none zo]
  have eu:=ha.to (eK.next hm) (Nat.le_succ m) rfl rfl;rw [hE,hS]
  (refine dv 11 (.bool true) rfl (cE.iW (bS rfl rfl) zy) ?_;refine tk 12 _ rfl (bJ rfl rfl) ?_;refine tA 13 ?_)
  refine bf zK ?_;refine wB ?_;refine aY (dK w c (m+1) s ev::R) rfl (cn (show cB _ (dP w c s a M R) from zE) (dU eu he)) ⟨rfl,rfl⟩
 (refine dv 11 (.bool false) rfl (cE.no (bS rfl rfl) zn) ?_;refine tk 12 _ rfl (bJ rfl rfl) ?_;refine tA 13 ?_)
 refine bf zK ?_;refine wB ?_;refine bk (id:=3) [] (cL g3 (oB k n to wh v) eN (0,0)::cL w (a.cells c s) dj (0,0)::R) mixed ?_
 (refine tM 0 ?_;refine tN 1 ?_;refine tF 2 ?_;refine tL 3 ?_;refine tF 4 ?_;refine tL 5 ?_)
 refine tO 6 ?_;have hg:s.ee[n]?=some (s.ee[n]'zo):=ae _;refine bg rfl rfl (Ct.at zP (De _ e a.gn 32 a.nl (n:Int) zo zo oT)) ?_
 have GG:(a.nl[n]'cP).d=(s.ee[n]'zo).d c.k:=by
  have:=congrArg (fun l=>l[n]?) ha.ee;simp only [aL,ae cP,hg,Option.map_some,Option.some.injEq] at this
  exact this
 rintro _ _ (⟨k2,xu,v2,Oo,hr,rfl,rfl⟩|⟨lY,rfl,rfl⟩)
 ·obtain rfl:n=k2:=by omega
  have hE:s.FF n=0:=by unfold dc.FF;rw [aB zo,aI zo]
  have hS:s.LI n={ s with ee:=s.ee++[s.ee[n]'zo] }:=by unfold dc.LI;rw [hg];dsimp only;rw [aI zo]
  have nK:=dc.SX (i:=n) (eK.next hm)
  have eu:eh.ok { a with nl:=a.nl++[{ (a.nl[n]'xu) with v:=v2 }] } M w c (m+1) (s.LI n) :=
   ha.PJ nK (Nat.le_succ m) (by rw [hS]) (by
    rw [hS,ah,ah,ha.ee,List.map_cons,List.map_cons,← GG]
    rfl)
  rw [hE];rw [hS] at eu ⊢
  generalize ({ (a.nl[n]'xu) with v:=v2 }:gW)=y at *
  refine ⟨fun _=>zE,?_⟩
  (refine tk 7 _ rfl (cE.jZ rfl) ?_;refine tA 8 ?_)
  refine bf zK ?_;refine wB ?_;refine aY _ rfl (cn (show cB _ (dP w c { s with ee:=s.ee++[s.ee[n]'zo] } { a with nl:=a.nl++[y] } M R) from zE) (dU eu he)) ⟨rfl,rfl⟩
 ·have hE:s.FF n=13:=by unfold dc.FF;rw [aB zo,aB (fun q=>lY ⟨⟨by omega,by omega⟩,by omega⟩)]
  have hS:s.LI n=s:=by unfold dc.LI;rw [hg];dsimp only;rw [aB (fun q=>lY ⟨⟨by omega,by omega⟩,by omega⟩)]
  have eu:=ha.to (eK.next hm) (Nat.le_succ m) rfl rfl;rw [hE,hS];refine ⟨fun _=>zE,?_⟩
  (refine tk 7 _ rfl (cE.p9 rfl) ?_;refine tA 8 ?_)
  refine bf zK ?_;refine wB ?_;refine aY (dK w c (m+1) s ev::R) rfl (cn (show cB _ (dP w c s a M R) from zE) (dU eu he)) ⟨rfl,rfl⟩
end Go.Proofs
namespace Go.Bs
theorem Rd.ex {α:Sort _} {f:α→cK} {R:List cK} {p:Addr} {v:Value} (h:∀ x,Rd (f x::R) p v):Rd (Ex f::R) p v:=fun hh x=>by
 obtain ⟨h1,h2,ap,l1,l2,⟨y,hy⟩,hR⟩:=x;exact h y hh ⟨h1,h2,ap,l1,l2,hy,hR⟩
theorem Rd.ef {L R:List cK} {A:cK} {p:Addr} {v:Value} (q:cR L A R) (h:Rd (A::R) p v):Rd L p v:=h.cM q.out
end Go.Bs
namespace Go.Proofs
attribute [local irreducible] Bs.cE Bs.Do Bs.O Bs.W Bs.Fin Bs.A Bs.Ct Bs.cF Bs.Rd Bs.Sat Bs.cL Bs.Ob Bs.dJ Bs.View Bs.cB Bs.Ex Bs.dH Bs.Pu Bs.eZ Bs.dO Bs.dZ
open Go.Bs
open Tryz
def dc.mq (c:di) (s:dc) (b:wQ):Int:=s.up.mq iL (da c) b
def dc.off (c:di) (s:dc) (b:wQ):dc:={ s with up:=s.up.ii iL (da c) b }
theorem dc.NE {c:di} {m:Nat} {s:dc} {b:wQ} (h:s.ok c m) (hm:m<250) (hb:b.fi.length≤200):(s.off c b).ok c (m+1):=by
 unfold dc.off m6.ii
 split
 ·rename_i h0;have hu:=h.Uh
  exact { h.next hm with
   up:=m6.xG h.up hb zo h0
   Uh:=by show (s.up.recs++[b.fi]).length≤m+1;rw [aa];simp only [aj];omega }
 ·exact h.next hm
def PL (w:Nat) (c:di) (s:dc) (a:eh):cK:=Ex fun ve:Value=>cL w (eh.cells { a with ve:=ve } c s) dj (0,0)
theorem Jj {w:Nat} {c:di} {s:dc} {a:eh} {ve:Value} {R:List cK}:cB (cL w (eh.cells { a with ve:=ve } c s) dj (0,0)::R) (PL w c s a::R):=fx (f:=fun ve:Value=>cL w (eh.cells { a with ve:=ve } c s) dj (0,0)) ve
theorem PM {w:Nat} {c:di} {s:dc} {a:eh} {L R:List cK} (p:cR L (PL w c s a) R):Rd L ⟨w,0+13,none⟩ (pt a.gu) :=
 Rd.ef p (Rd.ex fun ve=>bQ .zero rfl)
theorem AF (R:List cK) (e:World) (w:Nat) (c:di) (m:Nat) (s:dc) (ev:List (Int × Int × Int × dw)) (v:Value) (b:wQ) (hv:db R v (fT b)) (hx:fZ.ok c s.ls.cG (.off b)) (hm:m<250) :
 Ct prog 180 #[pt w,v] e (dK w c m s ev::R) (fun v' L'=>v'=.int .i64 (s.mq c b)∧∃ jQ,rF jQ (s.off c b)∧L'=dK w c (m+1) (s.off c b) (ev++jQ)::R):=by
 obtain ⟨h0,PN,SD,hch⟩:=hx;refine gN fun a M ha he=>?_
 have eK:=ha.st;have PC:=ha.ec;have hup:=eK.Uh;have Q5:=eK.steps;have na:=dc.NE eK hm SD;have eu:=ha.to na (Nat.le_succ m) rfl rfl;refine a7 (cz (hv.cM (show cB (dP w c s a M R) R from zE))) fun o1=>?_
 refine a8 (args:=[_,_]) func180 rfl ntmps180 results180 rfl ?_;refine wB ?_;refine aZ rfl rfl (Ct.at zP (Fs _ e a.gu a.ud iL (da c) s.up v b (hv.cM zE) PN SD zo)) ?_;rintro _ _ ⟨rfl,rfl⟩;rw [show s.up.mq iL (da c) b=s.mq c b from rfl];rw [show s.up.ii iL (da c) b=(s.off c b).up from rfl];obtain ⟨s2,mz⟩:∃ s2:dc,s2=s.off c b:=⟨_,rfl⟩
 have PI:s2.fs.recs≠[]:=by rw [mz];exact eK.some h0
 by_cases hE:s.mq c b=0
 rotate_left
 ·generalize s.mq c b=E at *
  refine wB ?_;refine aY (dK w c (m+1) (s.off c b) ev::R) rfl (cn (show cB _ (dP w c (s.off c b) a M R) from zE) (dU eu he)) ⟨rfl,[],rF.nil,by rw [aK]⟩
 rw [hE];refine wB ?_;refine aZ rfl rfl (uE _ e v b (hv.cM zE) PN) ?_;rintro _ _ ⟨N,um,vp,ur,ua,uq,uc,rfl,hN,rfl⟩;refine bn (cz (hN.fi.cM (cH zP))) fun q1=>?_
 refine bn (hN.path.cM (cH zP)).one fun q2=>?_
 refine bn (cz (hN.kR.root.cM (cH zP))) fun q3=>?_
 refine bn (hN.kR.sig.cM (cH zP)).parts.one fun q4=>?_
 refine bn (hN.kR.sig.cM (cH zP)).path.one fun q5=>?_
 refine bn (hN.gs.cM (cH zP)).one fun q6=>?_
 (repeat (refine wA ?_;intros))
 rename_i g6;have Oq:∀ (X:List cK),cB (cL w (a.cells c (s.off c b)) dj (0,0)::X) (PL w c (s.off c b) a::X):=fun X=>Jj (ve:=a.ve)
 refine bk (id:=4) [] (PL w c (s.off c b) a::cL g6 (sE b um vp ur ua uq uc) rC (0,0)::N::R) mixed ?_;refine bH 0 _ rfl zK (cn (bw (show cR _ (cL w (a.cells c (s.off c b)) dj (0,0)) _ from zP) aX) (cn (Oq _) zE)) (bu rfl) rfl ?_;refine bH 1 _ rfl zK (cn (bw (show cR _ (cL w (a.cells c (s.off c b)) dj (0,0)) _ from zP) aX) (cn (Oq _) zE)) (bu rfl) rfl ?_;refine bH 2 _ rfl zK (cn (bw (show cR _ (cL w (a.cells c (s.off c b)) dj (0,0)) _ from zP) aX) (cn (Oq _) zE)) (bm rfl) rfl ?_;refine bH 3 _ rfl zK (cn (bw (show cR _ (cL w (a.cells c (s.off c b)) dj (0,0)) _ from zP) aX) (cn (Oq _) zE)) (ba rfl) rfl ?_;refine bH 4 _ rfl zK (cn (bw (show cR _ (cL w (a.cells c (s.off c b)) dj (0,0)) _ from zP) aX) (cn (Oq _) zE)) (bp rfl (PM .zero)) rfl ?_;refine bH 7 _ rfl zK (cn (bw (show cR _ (cL w (a.cells c (s.off c b)) dj (0,0)) _ from zP) aX) (cn (Oq _) zE)) (ba rfl) rfl ?_;refine bH 8 _ rfl zK (cn (bw (show cR _ (cL w (a.cells c (s.off c b)) dj (0,0)) _ from zP) aX) (cn (Oq _) zE)) (bp rfl zR) rfl ?_;refine tO 5 ?_;refine bg rfl rfl (Ct.at zP (nI _ e a.gu a.ud iL (da c) (s.off c b).up)) ?_;rintro _ _ ⟨rfl,rfl⟩;refine ⟨fun _=>(cn (bw (show cR _ (cL w (a.cells c (s.off c b)) dj (0,0)) _ from zP) aX) (cn (Oq _) zE)),?_⟩
 refine bH 6 _ rfl zK (cn (bw (show cR _ (cL w (a.cells c (s.off c b)) dj (0,0)) _ from zP) aX) (cn (Oq _) zE)) (cE.jP rfl) rfl ?_
 generalize IntKind.i64.wrap ((s.off c b).up.m.hO:Int)=vn
 refine tO 9 ?_;refine bg rfl rfl (uf _ e um b.fi (hN.fi.cM (cH (show cR _ N _ from zP))) zo) ?_;rintro _ _ ⟨ad,kk,rfl,rfl⟩;refine ⟨fun _=>(cn (bw (show cR _ (cL w (a.cells c (s.off c b)) dj (0,0)) _ from zP) aX) (cn (Oq _) zE)),?_⟩;refine tO 10 ?_;refine bg rfl rfl (Ct.AR zP zP (iu _ e w c (s.off c b) a 5 vn 0 (.slice ad (cZ b.fi).length kk) (cZ b.fi) rfl zo)) ?_;rintro _ _ ⟨rfl,ve,rfl⟩;refine ⟨fun _=>cn (Jj (ve:=ve)) zE,?_⟩;refine bf zK ?_;have nK:=(eu.more (Dg (A:=M) (B:=cT (.slice ad (cZ b.fi).length kk) (cZ b.fi)))).seen (x:=⟨5,vn,0,.slice ad (cZ b.fi).length kk,cZ b.fi⟩) ve (cF.cM (bb .zero) Dh) zo (by show (ek _ _).length≤1000;rw [dg];omega);refine wB ?_;refine aY (dK w c (m+1) (s.off c b) (ev++[(5,vn,0,cZ b.fi)])::R) rfl (cn ?_ (dU nK (by dsimp only;rw [ah,he];rfl))) ⟨rfl,_,?_,rfl⟩
 ·exact cn (ea (A:=M) (B:=cT (.slice ad (cZ b.fi).length kk) (cZ b.fi)) zP zP) zE
 ·intro y hy;rw [an.1 hy];exact ⟨(by decide:(5:Int)≠3),.inr (by rw [← mz];exact PI)⟩
theorem zH {p:jH} {c:jg} (hp:p.ey.length≤4):∀ (l:List kQ) (seen:List Nat),(∀ g∈l,g.hO p c∧¬ g.fY∈seen)→(l.map (·.fY)).Nodup→countP p c l seen=l.length
 | [],_,_,_=>rfl
 | g::l,seen,h,hn=>by
  rw [List.map_cons,List.nodup_cons] at hn
  obtain ⟨h1,h2⟩:=h g (List.mem_cons_self ..);have h3:=h1.1;unfold countP
  rw [aI ⟨by omega,h2,h1⟩,zH hp l (g.fY::seen) (fun x hx=>⟨(h x (aU _ hx)).1,fun q=>by
   rcases aQ.1 q with q|q
   ·exact hn.1 (by rw [← q];exact aE.2 ⟨x,hx,rfl⟩)
   ·exact (h x (aU _ hx)).2 q⟩) hn.2,aN,Nat.add_comm]
def dc.uL (c:di) (s:dc) (j:Nat) (g:kQ) (size:Nat):dc:={ s with fd:=s.fd.oo (da c) j g size s.time,n:=s.n+1 }
def dc.AG (c:di) (s:dc) (j:Nat) (g:kQ) (size:Nat):Int:=if s.fd.Av (da c) j g size=true then 0 else 22
theorem Lc (p:jH) (s:cQ) (w:Nat) (g:kQ):(s.gC p w g).cur=s.cur∧(s.gC p w g).kept=s.kept++[g]∧((p.ez≤(s.kept++[g]).length∧(s.gC p w g).done=s.dX∧(s.gC p w g).dl=s.kept++[g])∨((s.gC p w g).done=s.done∧(s.gC p w g).dl=s.dl)):=by
 unfold cQ.gC
 split
 ·rename_i h;exact ⟨rfl,rfl,.inl ⟨h,rfl,rfl⟩⟩
 ·exact ⟨rfl,rfl,.inr ⟨rfl,rfl⟩⟩
theorem dc.Dp {c:di} {m:Nat} {s:dc} {j size:Nat} {g:kQ} (h:s.ok c m) (hm:m<250):(s.uL c j g size).ok c (m+1):=by
 have ht:=h.time;have hn:=h.nb;have hk:=h.xE.k;have hlen:=ll c;have LH:(s.fd.oo (da c) j g size s.time).ok c.k (s.n+1):=cQ.Pn h.fd (fun q=>q.2.1) zo zo zo;have F9:s.n+1≤4*(m+1):=by omega
 unfold dc.uL
 by_cases hh:s.fd.rR j
 rotate_left
 ·have hr:s.fd.oo (da c) j g size s.time=s.fd:=by unfold cQ.oo;rw [aI hh]
  rw [hr] at LH ⊢
  exact { h.next hm with fd:=LH,nb:=F9 }
 by_cases fq:s.fd.wR (da c) j g
 ·have hr:s.fd.oo (da c) j g size s.time=s.fd.gC (da c) j g:=by unfold cQ.oo;rw [aB (fun q=>q hh),aI fq]
  rw [hr] at LH ⊢
  obtain ⟨q1,q2,q3⟩:=Lc (da c) s.fd j g;obtain ⟨y,hy⟩:=Option.isSome_iff_exists.1 hh.1;have XK:s.fd.dX=y:=by unfold cQ.dX;rw [hy];rfl
  have pS:∀ x∈s.fd.kept++[g],x.hO (da c) s.fd.dX.dd:=fun x hx=>by
   rcases aJ.1 hx with hx|hx
   ·exact h.kept x hx
   ·rw [an.1 hx];exact fq.2
  have hku:=LH.za;rw [q2] at hku
  exact { h.next hm with
   fd:=LH
   nb:=F9
   cur:=fun x hx=>h.cur x (by rw [← q1];exact hx)
   idle:=fun hx=>by
    have hx:s.fd.cur=none:=by rw [← q1];exact hx
    rw [hy] at hx;cases hx
   kept:=fun x hx=>by
    show x.hO _ (cQ.dX (s.fd.gC (da c) j g)).dd
    rw [Di q1];exact pS x (by rw [← q2];exact hx)
   done:=fun hx=>by
    show Ac _ (cQ.done (s.fd.gC (da c) j g))∧0<(cQ.done (s.fd.gC (da c) j g)).dd.size∧ue _ (cQ.done (s.fd.gC (da c) j g)).dd (cQ.dl (s.fd.gC (da c) j g))
    rcases q3 with ⟨q4,q5,q6⟩|⟨q5,q6⟩
    ·rw [q5,q6];refine ⟨by rw [XK];exact (h.cur y hy).1,by rw [XK];exact (h.cur y hy).2,?_⟩;unfold ue;rw [zH zo _ [] (fun x hx=>⟨pS x hx,aO⟩) hku];exact q4
    ·rw [q5,q6];exact h.done (by rw [← q6];exact hx) }
 ·by_cases Sw:s.fd.turns j size
  ·have hr:s.fd.oo (da c) j g size s.time=s.fd.Au j size s.time:=by unfold cQ.oo;rw [aB (fun q=>q hh),aB fq,aI Sw]
   rw [hr] at LH ⊢
   obtain ⟨y,hy⟩:=Option.isSome_iff_exists.1 hh.1
   exact { h.next hm with
    fd:=LH
    nb:=F9
    cur:=fun x hx=>h.cur x hx
    idle:=fun hx=>by
     have hx:s.fd.cur=none:=hx;rw [hy] at hx;cases hx
    kept:=fun x hx=>h.kept x hx
    done:=fun hx=>h.done hx }
  ·have hr:s.fd.oo (da c) j g size s.time=s.fd:=by unfold cQ.oo;rw [aB (fun q=>q hh),aB fq,aB Sw]
   rw [hr] at LH ⊢
   exact { h.next hm with fd:=LH,nb:=F9 }
theorem Ld (R:List cK) (e:World) (w:Nat) (c:di) (m:Nat) (s:dc) (ev:List (Int × Int × Int × dw)) (v:Value) (j:Nat) (g:kQ) (hv:db R v (1::eV g)) (hx:fZ.ok c s.ls.cG (.iW j g)) (hm:m<250) :
 Ct prog 179 #[pt w,.int .i64 ((j+1:Nat):Int),v] e (dK w c m s ev::R) (fun v' L'=>v'=.int .i64 (s.AG c j g 0)∧L'=dK w c (m+1) (s.uL c j g 0) ev::R):=by
 obtain ⟨h0,hj,hgw,Sr⟩:=hx;refine gN fun a M ha he=>?_
 have eK:=ha.st;have ht:=eK.time;have hn:=eK.nb;have Q5:=eK.steps;have hk:=eK.xE.k;have na:=dc.Dp (j:=j) (g:=g) (size:=0) eK hm;have eu:=ha.to na (Nat.le_succ m) rfl rfl;refine a7 (cz (hv.cM (show cB (dP w c s a M R) R from zE))) fun o1=>?_
 refine a8 (args:=[_,_,_]) func179 rfl ntmps179 results179 rfl ?_;refine wB ?_;refine aZ rfl rfl (jx _ e v (1::eV g) (hv.cM zE) (by rw [aN,lr Sr];omega)) ?_;rintro _ _ ⟨gr,rfl,rfl⟩
 (repeat (refine wA ?_;intros))
 rename_i g8;refine aZ rfl rfl (Ct.at zP (vo _ e gr 1 _)) ?_;rintro _ _ ⟨rfl,rfl⟩;rw [show u8 1=.int .u8 1 from rfl];have TV:=fun L=>Bo L e gr g [] zo Sr (by simp)
 rw [aK] at TV
 refine wB ?_;refine aZ rfl rfl (Ct.at zP (TV _)) ?_;rintro _ _ ⟨N,up,uq,rfl,hN,rfl⟩;refine bn (hN.cM (cH zP)).parts.one fun o4=>?_
 refine bn (hN.cM (cH zP)).path.one fun o5=>?_
 refine wB ?_;refine aZ rfl rfl (x9 _ e gr []) ?_;rintro _ _ ⟨rfl,rfl⟩;rw [ay rfl];refine wB ?_;refine bk (id:=12) [] (cL g8 (iB g up uq) nH (0,0)::N::cL w (a.cells c s) dj (0,0)::R) mixed ?_
 (refine tM 0 ?_;refine tN 1 ?_;refine tF 2 ?_;refine tL 3 ?_;refine tM 4 ?_;refine tk 5 _ rfl (cE.jA rfl rfl zo) ?_;refine tJ 6 ?_;refine tM 7 ?_;refine tM 8 ?_;refine tN 9 ?_;refine tF 10 ?_;refine tL 11 ?_)
 rw [show (((j+1:Nat):Int) - 1)=(j:Int) by omega];refine tO 12 ?_;refine bg rfl rfl (Ct.at zP (uD _ e a.mH (da c) c.retry s.n s.fd j up uq g 0 s.time (hN.cM (cH (show cR _ N _ from zP))) zo zo zo zo zo)) ?_;rintro _ _ ⟨rfl,rfl⟩;refine ⟨fun _=>zE,?_⟩;unfold dc.AG
 cases hb:s.fd.Av (da c) j g 0 with
 | true =>
  (refine tk 13 _ rfl (cE.jZ rfl) ?_;refine tA 14 ?_)
  refine bf zK ?_;refine wB ?_;refine aY (dK w c (m+1) (s.uL c j g 0) ev::R) rfl (cn (show cB _ (dP w c (s.uL c j g 0) a M R) from zE) (dU eu he)) ⟨rfl,rfl⟩
 | false =>
  (refine tk 13 _ rfl (cE.p9 rfl) ?_;refine tA 14 ?_)
  refine bf zK ?_;refine wB ?_;refine aY (dK w c (m+1) (s.uL c j g 0) ev::R) rfl (cn (show cB _ (dP w c (s.uL c j g 0) a M R) from zE) (dU eu he)) ⟨rfl,rfl⟩
theorem NF (R:List cK) (e:World) (w:Nat) (c:di) (m:Nat) (s:dc) (ev:List (Int × Int × Int × dw)) (v:Value) (j z:Nat) (hv:db R v (0::be z 4)) (hx:fZ.ok c s.ls.cG (.no j z)) (hm:m<250) :
 Ct prog 179 #[pt w,.int .i64 ((j+1:Nat):Int),v] e (dK w c m s ev::R) (fun v' L'=>v'=.int .i64 (s.AG c j gZ z)∧L'=dK w c (m+1) (s.uL c j gZ z) ev::R):=by
 obtain ⟨h0,hj,hz⟩:=hx;refine gN fun a M ha he=>?_
 have eK:=ha.st;have ht:=eK.time;have hn:=eK.nb;have Q5:=eK.steps;have hk:=eK.xE.k;have na:=dc.Dp (j:=j) (g:=gZ) (size:=z) eK hm;have eu:=ha.to na (Nat.le_succ m) rfl rfl;refine a7 (cz (hv.cM (show cB (dP w c s a M R) R from zE))) fun o1=>?_
 refine a8 (args:=[_,_,_]) func179 rfl ntmps179 results179 rfl ?_;refine wB ?_;refine aZ rfl rfl (jx _ e v (0::be z 4) (hv.cM zE) (by rw [aN,cY];omega)) ?_;rintro _ _ ⟨gr,rfl,rfl⟩
 (repeat (refine wA ?_;intros))
 rename_i g8;refine aZ rfl rfl (Ct.at zP (vo _ e gr 0 _)) ?_;rintro _ _ ⟨rfl,rfl⟩;rw [show u8 0=.int .u8 0 from rfl];have TV:=fun L=>tD L e gr z [] zo
 rw [aK] at TV
 refine wB ?_;refine aZ rfl rfl (Ct.at zP (TV _)) ?_;rintro _ _ ⟨rfl,rfl⟩;refine wB ?_;refine aZ rfl rfl (x9 _ e gr []) ?_;rintro _ _ ⟨rfl,rfl⟩;rw [ay rfl];refine wB ?_;refine bk (id:=12) [] (cL g8 (iB gZ nY nY) nH (0,0)::cL w (a.cells c s) dj (0,0)::R) mixed ?_
 (refine tM 0 ?_;refine tN 1 ?_;refine tF 2 ?_;refine tL 3 ?_;refine tM 4 ?_;refine tk 5 _ rfl (cE.jA rfl rfl zo) ?_;refine tJ 6 ?_;refine tM 7 ?_;refine tM 8 ?_;refine tN 9 ?_;refine tF 10 ?_;refine tL 11 ?_)
 rw [show (((j+1:Nat):Int) - 1)=(j:Int) by omega];refine tO 12 ?_;refine bg rfl rfl (Ct.at zP (uD _ e a.mH (da c) c.retry s.n s.fd j nY nY gZ z s.time (CO _) (by decide) zo zo zo zo)) ?_;rintro _ _ ⟨rfl,rfl⟩;refine ⟨fun _=>zE,?_⟩;unfold dc.AG
 cases hb:s.fd.Av (da c) j gZ z with
 | true =>
  (refine tk 13 _ rfl (cE.jZ rfl) ?_;refine tA 14 ?_)
  refine bf zK ?_;refine wB ?_;refine aY (dK w c (m+1) (s.uL c j gZ z) ev::R) rfl (cn (show cB _ (dP w c (s.uL c j gZ z) a M R) from zE) (dU eu he)) ⟨rfl,rfl⟩
 | false =>
  (refine tk 13 _ rfl (cE.p9 rfl) ?_;refine tA 14 ?_)
  refine bf zK ?_;refine wB ?_;refine aY (dK w c (m+1) (s.uL c j gZ z) ev::R) rfl (cn (show cB _ (dP w c (s.uL c j gZ z) a M R) from zE) (dU eu he)) ⟨rfl,rfl⟩
def dc.Ic (c:di) (s:dc):fZ→dc × Int × Int
 | .ask j x n m path=>(s.asked j x.dd n,1,s.xr j x.dd n)
 | .iW j g=>(s.uL c j g 0,2,s.AG c j g 0)
 | .no j z=>(s.uL c j gZ z,2,s.AG c j gZ z)
 | .off b=>(s.off c b,3,s.mq c b)
def dc.AH (c:di) (s:dc) (n:Nat):dc × Int × Int:=match s.ee[n]? with
 | none=>(s,0,1)
 | some x=>(s.lost n).Ic c x
theorem dc.PO {c:di} {m:Nat} {s:dc} {x:fZ} (h:s.ok c m) (hm:m<250) (hx:x.ok c s.ls.cG):(s.Ic c x).1.ok c (m+1):=by
 cases x with
 | ask j x n k path=>exact dc.FC h hm hx.2.1 hx.2.2.1 hx.1
 | iW j g=>exact dc.Dp h hm
 | no j z=>exact dc.Dp h hm
 | off b=>exact dc.NE h hm hx.2.2.1
theorem dc.NG {c:di} {m:Nat} {s:dc} {n:Nat} (h:s.ok c m) (hm:m<250):(s.AH c n).1.ok c (m+1):=by
 unfold dc.AH
 split
 ·exact h.next hm
 ·rename_i x hx;exact dc.PO (dc.Dm h) hm (h.ee x (az hx))
def dc.mv (s:dc) (i:Nat):wQ:=⟨s.ls.cG.getD i [],i,s.fd.done.dd.size,iI ((s.ls.cG.take s.fd.done.dd.size).map cZ) i,s.fd.done,s.fd.dl⟩
def dc.Ot (s:dc) (i:Nat):dc × Int:=if s.fd.dl=[] then (s,22) else if ¬ i<s.fd.done.dd.size then (s,22) else if s.ee.length<32 then (s.send (.off (s.mv i)),0) else (s,13)
theorem dc.ok.leaf {c:di} {m:Nat} {s:dc} (h:s.ok c m) {b:dw} (hb:b∈s.ls.cG):jm b∧b.length≤200 :=
 h.fs.oh b (h.perm.mem_iff.1 (List.mem_append_left _ hb))
theorem dc.ok.KI {c:di} {m:Nat} {s:dc} (h:s.ok c m):s.ls.cG.length≤250:=by
 have h1:=h.perm.length_eq;have h2:=h.DH;have h3:=h.steps;rw [aa] at h1
 omega
theorem dc.BY {c:di} {m:Nat} {s:dc} {i:Nat} (h:s.ok c m) (he:s.fd.dl≠[]) (hi:i<s.fd.done.dd.size):(s.mv i).wf∧(s.mv i).fi.length≤200∧mj (da c) (s.mv i)=0∧fZ.ok c s.ls.cG (.off (s.mv i)):=by
 obtain ⟨⟨pS,Pc,lq,BD⟩,h0,HY⟩:=h.done he;have pP:=h.fd.done he;have Pe:=h.KI;have Ag:i<s.ls.cG.length:=by omega
 have rv:s.ls.cG.getD i []∈s.ls.cG:=by rw [aA,ae Ag];exact ax Ag
 obtain ⟨hmo,TR⟩:=h.leaf rv
 have jN:∀ a∈(s.ls.cG.take s.fd.done.dd.size).map cZ,a.length=32:=by
  intro a ha;obtain ⟨b,-,rfl⟩:=aE.1 ha;exact dg _ _
 have hlen:((s.ls.cG.take s.fd.done.dd.size).map cZ).length=s.fd.done.dd.size:=by rw [ab,aF];omega
 have Cn:=oX _ ((s.ls.cG.take s.fd.done.dd.size).map cZ) i rfl;have hph:=GV _ ((s.ls.cG.take s.fd.done.dd.size).map cZ) i rfl jN;have ML:=GU _ ((s.ls.cG.take s.fd.done.dd.size).map cZ) i (cZ (s.ls.cG.getD i [])) rfl zo;rw [hlen] at Cn ML
 have hl8:jn s.fd.done.dd.size i≤8:=ql 8 _ _ zo
 have jL:((s.ls.cG.take s.fd.done.dd.size).map cZ).set i (cZ (s.ls.cG.getD i []))=(s.ls.cG.take s.fd.done.dd.size).map cZ:=by
  refine uI _ _ _ ?_;rw [aL,List.getElem?_take_of_lt hi,ae Ag,Option.map_some,aA,ae Ag];rfl
 have hk:=h.xE.k;have VC:=h.fd.KI
 have PN:(s.mv i).wf :=
  {fi:=by show (s.ls.cG.getD i []).length≤65535;omega
   idx:=by show i≤256;omega
   size:=by show s.fd.done.dd.size≤256;omega
   DH:=by show (iI _ i).length≤16;omega
   jN:=hph
   dd:=pP.1
   sig:=Pc
   fG:=by show s.fd.dl.length≤255;omega
   ey:=fun g hg=>by have:=(h.fd.dl g hg).1;omega
   sigs:=fun g hg=>(h.fd.dl g hg).2 }
 have Si:mj (da c) (s.mv i)=0:=by
  unfold mj;rw [aB (show ¬ ¬ jm (s.mv i).fi from not_not_intro hmo)];rw [aB (show ¬ ¬ (s.mv i).kR.hO (da c).log from not_not_intro pS)]
  rw [aB (show ¬ ¬ ((s.mv i).size=(s.mv i).kR.dd.size∧pq (s.mv i).idx (s.mv i).size (s.mv i).path (cZ (s.mv i).fi) (s.mv i).kR.dd.root) from not_not_intro ⟨rfl,⟨by show (iI _ i).length≤16;omega,hph⟩,dg _ _,hi,Cn,by
   show lE s.fd.done.dd.size i (iI _ i) _=s.fd.done.dd.root
   exact (ML.trans (congrArg eg jL)).trans BD.symm⟩)]
  rw [aB (show ¬ ¬ ue (da c) (s.mv i).kR.dd (s.mv i).eJ from not_not_intro HY)]
 exact ⟨PN,TR,Si,by omega,PN,TR,Si⟩
end Go.Proofs
namespace Go.Proofs
open Go.Bs
attribute [local irreducible] Bs.cE Bs.Do Bs.O Bs.W Bs.Fin Bs.A Bs.Ct Bs.cF Bs.Rd Bs.Sat Bs.cL Bs.Ob Bs.dJ Bs.View Bs.cB Bs.Ex Bs.dH Bs.Pu Bs.eZ Bs.dO Bs.dZ
def pG (c:di):dc:=⟨⟨[],0,none⟩,⟨[],[]⟩,List.replicate c.k ⟨[],0,gZ,false⟩,At c.k,0,⟨[]⟩,⟨[],none⟩,[],0,none⟩
theorem Jk {c:di} (h:c.ok):(pG c).ok c 0 where
 xE:=h
 steps:=aH _
 ls:=⟨fun r hr=>(by cases hr),List.nodup_nil,aH _,fun b hb=>(by cases hb),aH _,fun x hx=>(by cases hx)⟩
 last:=fun x hx=>(by cases hx)
 fs:=⟨aH _,fun b hb=>(by cases hb),aH _,fun b hb=>(by cases hb),fun b hb=>(by cases hb)⟩
 recs:=List.nodup_nil
 DH:=aH _
 perm:=List.Perm.refl _
 wl:=List.length_replicate
 ws:=fun w hw=>by
  obtain rfl:=(List.mem_replicate.1 hw).2;exact ⟨⟨fun x hx=>(by cases hx),List.Pairwise.nil,fun x hx=>(by cases hx),aH _,re⟩,aH _,lM.empty _⟩
 iW:=fun i w hw hs=>by
  have hm:w∈List.replicate c.k (⟨[],0,gZ,false⟩:eQ):=az hw;obtain rfl:=(List.mem_replicate.1 hm).2
  cases hs
 fd:=CS _
 nb:=aH _
 cur:=fun x hx=>(by cases hx)
 idle:=fun _=>rfl
 kept:=fun g hg=>(by cases hg)
 done:=fun hd=>absurd rfl hd
 up:=⟨aH _,fun b hb=>(by cases hb),fun b hb=>(by cases hb),fun b hb=>(by cases hb),List.Pairwise.nil⟩
 Uh:=aH _
 mo:=⟨aH _,fun b hb=>(by cases hb),fun x hx=>(by cases hx)⟩
 SO:=rfl
 ee:=fun x hx=>(by cases hx)
 room:=aH _
 time:=aH _
 signed:=fun x hx=>(by cases hx)
def cA:di:=⟨1,1,4,1,0,1⟩
theorem Ra:cA.ok where
 k:=by decide
 ez:=by decide
 f:=⟨by decide,by decide,by decide⟩
 retry:=by decide
 wU:=⟨j5 _,by decide,by decide,by decide,fun w hw=>by
  obtain ⟨i,-,rfl⟩:=aE.1 hw
  exact j5 _,by
  show [kP (cS 1)].Nodup
  exact List.nodup_cons.2 ⟨aO,List.nodup_nil⟩⟩
def bA:dw:=mU 0 1 1
theorem BZ:jm bA∧bA.length≤200∧(dC bA).name=iL∧(dC bA).hO=2:=by
 obtain ⟨h1,h2⟩:=mT 0 1 1;obtain ⟨h3,h4⟩:=OW h1 h2;refine ⟨h3,?_,?_,?_⟩
 ·show (lS (mh 0 1 1)).length≤200
  rw [wi];have:=h1.1.2.1;have:=h1.2.2.1;have:=h1.2.2.2
  omega
 ·show (dC (lS (mh 0 1 1))).name=iL
  rw [h4];decide
 ·show (dC (lS (mh 0 1 1))).hO=2
  rw [h4];decide
theorem Le (b:dw):(cZ b).length=32:=dg _ _
attribute [local irreducible] bA rK cZ ja cS jm dC kP xd sh
abbrev Wr:eQ:=⟨[],0,gZ,false⟩
def Rb:jg:=⟨1,eg [cZ bA]⟩
def xA:j7:=yx (cS 0) 0 Rb
def gA:kQ:=Bj (cS 1) 0 0 Rb
abbrev lA:fW:=⟨[[bA]],1,some xA⟩
abbrev fA:pi:=⟨[bA],[]⟩
def SY:dc:=⟨⟨[],0,none⟩,⟨[bA],[(bA,0)]⟩,[Wr],At 1,0,⟨[]⟩,⟨[],none⟩,[],0,none⟩
def Uk:dc:=⟨⟨[],0,none⟩,⟨[bA],[(bA,0)]⟩,[Wr],At 1,0,⟨[]⟩,⟨[],none⟩,[],1,none⟩
def SZ:dc:=⟨⟨[[bA]],0,none⟩,fA,[Wr],At 1,0,⟨[]⟩,⟨[],none⟩,[],1,none⟩
def sA4:dc:=⟨lA,fA,[Wr],⟨[⟨1,0,0⟩],1,[⟨0,0,false⟩],some xA,[],vH,[]⟩,1,⟨[]⟩,⟨[],none⟩,[],1,some Rb⟩
def qA:List dw:=ja [cZ bA] 0
def Ul:dc:=⟨lA,fA,[Wr],⟨[⟨2,1,0⟩],2,[⟨0,1,false⟩],some xA,[],vH,[]⟩,2,⟨[]⟩,⟨[],none⟩,[.ask 0 xA 0 1 qA],1,some Rb⟩
abbrev wA1:eQ:=⟨[Rb],1,gA,true⟩
def S1:dc:=⟨lA,fA,[wA1],⟨[⟨2,1,0⟩],2,[⟨0,1,false⟩],some xA,[],vH,[]⟩,2,⟨[]⟩,⟨[],none⟩,[.iW 0 gA],1,some Rb⟩
def DL:dc:=⟨lA,fA,[wA1],⟨[],2,[⟨1,1,true⟩],some xA,[gA],xA,[gA]⟩,3,⟨[]⟩,⟨[],none⟩,[],1,some Rb⟩
def Ws:dc:=DL.send (.off (DL.mv 0))
def Rc:dc:={ DL with up:=⟨[bA]⟩ }
theorem S3:(pG cA).sub cA bA=SY∧((pG cA).fs.fE cA.f (pG cA).ls.cG bA ((pG cA).time:Int)).1=1:=by
 have h:(pG cA).fs.fE cA.f (pG cA).ls.cG bA ((pG cA).time:Int)=(1,0,⟨[bA],[(bA,0)]⟩):=by
  unfold pi.fE;rw [aB (not_not_intro BZ.1),aB (show ¬ bA∈(pG cA).ls.cG from aO),aB (show ¬ bA∈(pG cA).fs.q.map (·.1) from aO),aB (show ¬ cA.f.room≤(pG cA).fs.q.length by decide)]
  rfl
 unfold dc.sub;rw [h];exact ⟨rfl,rfl⟩
theorem Wt:SY.On 1=Uk:=rfl
theorem Wu:Uk.Gi cA=SZ:=by
 unfold dc.Gi;rw [aI (show Uk.fs.pn cA.f (Uk.time:Int)=true from by show MW [(bA,0)] 1 0 1=true;unfold MW;exact ay (.inl (by decide)))]
 have h:Uk.ls.fresh (Uk.fs.some cA.f)=[bA]:=by
  show fg [] [] [bA]=[bA]
  unfold fg;rw [aB (show ¬ bA∈([]:List dw)++[] from aO)]
  rfl
 unfold fW.add;rw [h,aB (by intro h;cases h)]
 rfl
theorem S4:xA.hO dQ:=⟨⟨by show 1≤256;decide,gH fun a ha=>by rw [an.1 ha];exact Le _⟩,yi (by decide)⟩
theorem Wv:SZ.je cA=sA4:=by
 have hs:¬ SZ.ls.same:=fun h=>by cases h.1
 have hk:SZ.ls.keys<16:=by decide
 have hp:SZ.ls.je (cS 0)=lA:=by
  unfold fW.je;rw [aB hs,aI hk]
  rfl
 have hv:SZ.fo=xA:=by unfold dc.fo;rw [hp];rfl
 unfold dc.je;rw [aI (.inr hk)];unfold dc.pY;rw [hv,hp,aI (show 0<xA.dd.size from by show 0<1;decide)];unfold cQ.ii;rw [aI (show SZ.fd.Fa (da cA) xA from ⟨S4,fun c hc=>by cases hc⟩)]
 rfl
theorem Ww:sA4.zx cA=Ul:=rfl
theorem Wx:Ul.AH cA 0=(S1,1,0):=by
 show ((Ul.lost 0).asked 0 xA.dd 0,1,(Ul.lost 0).xr 0 xA.dd 0)=_
 rfl
theorem Wy:(S1.AH cA 0).1=DL:=by
 show (S1.lost 0).uL cA 0 gA 0=DL
 have hv:gA.hO (da cA) Rb:=⟨by decide,yi (by decide)⟩
 unfold dc.uL cQ.oo;rw [aB (show ¬ ¬ (S1.lost 0).fd.rR 0 from not_not_intro ⟨rfl,by decide,rfl⟩),aI (show (S1.lost 0).fd.wR (da cA) 0 gA from ⟨rfl,hv⟩)]
 rfl
theorem abw:DL.Ot 0=(Ws,0):=by
 unfold dc.Ot;rw [aB (show ¬ DL.fd.dl=[] from by intro h;cases h),aB (show ¬ ¬ 0<DL.fd.done.dd.size from by show ¬ ¬ 0<1;decide),aI (show DL.ee.length<32 by decide)]
 rfl
theorem S5:DL.ok cA 7:=by
 have h1:=dc.No (b:=bA) (Jk Ra) (by decide) BZ.2.1;rw [S3.1] at h1
 have h2:=dc.Np (n:=1) h1 (by decide) (by decide);rw [Wt] at h2
 have h3:=dc.Nr h2 (by decide);rw [Wu] at h3
 have h4:=dc.Nt h3 (by decide);rw [Wv] at h4
 have h5:=dc.Nu h4 (by decide);rw [Ww] at h5
 have h6:=dc.NG (n:=0) h5 (by decide);rw [Wx] at h6
 have h7:=dc.NG (n:=0) h6 (by decide);rw [Wy] at h7
 exact h7
theorem abx:(Ws.AH cA 0).1=Rc:=by
 show (Ws.lost 0).off cA (DL.mv 0)=Rc
 have hb:=(dc.BY S5 (i:=0) (by intro h;cases h) (by show 0<1;decide)).2.2.1
 have ho:(Ws.lost 0).up.mq iL (da cA) (DL.mv 0)=0:=by
  unfold m6.mq
  rw [hb,aB (not_not_intro rfl),aB (show ¬ (dC (DL.mv 0).fi).name≠iL from not_not_intro BZ.2.2.1),aB (show ¬ (dC (DL.mv 0).fi).hO≤(Ws.lost 0).up.m.hO from by
   show ¬ (dC bA).hO≤0
   rw [BZ.2.2.2];decide)]
 unfold dc.off m6.ii;rw [aI ho]
 rfl
theorem Wz:DL.AH cA 0=(DL,0,1):=rfl
theorem WA:Rc.up.m.hO=2:=BZ.2.2.2
end Go.Proofs
namespace Go.Bs
theorem dZ.ex {α:Sort _} {f:α→cK} {R:List cK} {g o:Nat} {cs:List Value} (h:∀ x,dZ (f x::R) g o cs):dZ (Ex f::R) g o cs:=fun j u hj=>Rd.ex fun x=>h x j u hj
end Go.Bs
namespace Go.Proofs
open Go.Bs
attribute [local irreducible] Bs.cE Bs.Do Bs.O Bs.W Bs.Fin Bs.A Bs.Ct Bs.cF Bs.Rd Bs.Sat Bs.cL Bs.Ob Bs.dJ Bs.View Bs.cB Bs.Ex Bs.dH Bs.Pu Bs.eZ Bs.dO Bs.dZ
abbrev AI:TypeId:=249
abbrev S6:TypeId:=49
abbrev iU:TypeId:=47
abbrev nL:Value:=nY
abbrev dL:Value:=.pointer none
abbrev fX (c:di):List Value:=[.int .i64 (c.k:Int),.int .i64 (c.ez:Int),.int .i64 (c.room:Int),.int .i64 (c.size:Int),.int .i64 (c.wait:Int),.int .i64 (c.retry:Int),.int .i64 1048576,.string (str iL)]
def PP (v:Value) (_:Nat→Value):List cK:=match v with|.map (some g)=>[iD fJ g []]|_=>[]
def WC (v:Value) (_:Nat→Value):List cK:=match v with|.map (some g)=>[iD ij g []]|_=>[]
def S7 (v:Value) (u:Value):List cK:=match v,u with|.pointer (some ⟨g,_,_⟩),.agg cs=>[cL g cs.toList dj (0,0)]|_,_=>[]
def S9 (p:Value) (v:Value):List cK:=match p with|.pointer (some ⟨g,_,_⟩)=>[cL g [v] S6 (0,0)]|_=>[]
def FG (v:Value) (b:dw):cK:=Ex fun M=>dH [Pu (db [M] v b),M]
theorem Jl {v:Value} {b:dw} {M:cK} {R:List cK} (h:db [M] v b):cB (M::R) (FG v b::R) :=
 cn (mI h) (cn (dS (M:=[_,_])) (fx (f:=fun M=>dH [Pu (db [M] v b),M]) M))
abbrev fK (c:di) (va vl vf l6 zG vu vm vn pX ik:Value) (mr ml mc:Nat):List Value:=pF c va vl vf l6 zG vu vm vn pX ik (.int .i64 0) nL (.map (some mr)) (.map (some ml)) (.int .i64 0) nL (.bool false) (.map (some mc))
structure Ie where
 vs:List (Value × Nat × Nat)
 wd:List (Nat × Nat)
 ts:List eo
 ap:Option Addr
 kp:Nat
 aw:Option Addr
 kw:Nat
 M:cK
def Jm (l:List (Nat × Nat)):List cK:=l.flatMap fun p=>[df p.1 (dz []),df p.2 (dz [])]
abbrev FH (w:Nat) (vl:Value) (vs:List (Value × Nat × Nat)):List Value:=[vl,.func (.func 160) #[ptr w] #[]]++vs.flatMap fun x=>[x.1,.func (.func 161) #[] #[ptr x.2.1,ptr x.2.2]]
structure Ie.ok (i:Ie) (c:di) (w g4 ld lk fd:Nat) (vl x:Value):Prop where
 le:i.vs.length≤c.k
 wl:i.wd.length=i.vs.length
 tl:i.ts.map (·.2)=(List.range i.vs.length).map fun j=>kP (cS (j+1))
 hx:db [i.M] x dQ
 h4:Rd [i.M] ⟨g4,0,none⟩ (ptr w)
 tx:dR [i.M] i.ts
 lo:cF [i.M] 1 vl 3 [ptr ld,ptr lk,ptr fd]
 ps:∀ j (h:j<i.vs.length) (h2:j<i.wd.length),cF [i.M] 1 (i.vs[j]).1 2 [ptr (i.wd[j]).1,ptr (i.wd[j]).2]∧Rd [i.M] ⟨(i.vs[j]).2.1,0,none⟩ (ptr w)∧Rd [i.M] ⟨(i.vs[j]).2.2,0,none⟩ (.int .i64 (j:Int))
abbrev WD (i:Ie) (c:di) (w gc gw ld lk fd mr ml mc:Nat) (vl x:Value) (R:List cK):List cK :=
 dJ AI 2 (.slice i.ap (i.vs.length+1) i.kp) (i.vs.length+1) (FH w vl i.vs)::cV (.slice i.aw i.ts.length i.kw) i.ts::dH (Jm i.wd)::cL w (fK c (.slice i.ap (i.vs.length+1) i.kp) dL dL (.slice (some ⟨gw,0,none⟩) c.k c.k) dL dL dL dL x (.slice i.aw i.ts.length i.kw) mr ml mc) dj (0,0)::dJ pZ 1 (.slice (some ⟨gw,0,none⟩) c.k c.k) c.k (List.replicate c.k dL)::dH (jK [ld,lk,fd])::iD fJ mr []::iD fJ ml []::iD ij mc []::i.M::cL gc (fX c) iU (0,0)::R
theorem four {A B C D X:cK} {L':List cK} (p:cR [A,B,C,D] X L'):cB [dH [A,B,C,D]] [X]:=cn (cU (M:=[A,B,C,D]) (L:=[])) (cH p)
theorem Ie.ok.more {i:Ie} {c:di} {w g4 ld lk fd:Nat} {vl x:Value} (h:i.ok c w g4 ld lk fd vl x) (cP:i.vs.length<c.k) {pv vd:Value} {N:cK} {gi d1 k1:Nat} {ap aw:Option Addr} {kp kw:Nat} (hN:db [N] pv (kP (cS (i.vs.length+1)))) :
 Ie.ok ⟨i.vs++[(vd,g4,gi)],i.wd++[(d1,k1)],i.ts++[(pv,kP (cS (i.vs.length+1)))],ap,kp,aw,kw,dH [i.M,N,cL gi [.int .i64 (i.vs.length:Int)] 3 (0,0),dJ DJ 1 vd 2 [ptr d1,ptr k1]]⟩ c w g4 ld lk fd vl x:=by
 have f1:cB [dH [i.M,N,cL gi [.int .i64 (i.vs.length:Int)] 3 (0,0),dJ DJ 1 vd 2 [ptr d1,ptr k1]]] [i.M]:=four .zero;have f2:cB [dH [i.M,N,cL gi [.int .i64 (i.vs.length:Int)] 3 (0,0),dJ DJ 1 vd 2 [ptr d1,ptr k1]]] [N]:=four (.succ .zero);have f3:cB [dH [i.M,N,cL gi [.int .i64 (i.vs.length:Int)] 3 (0,0),dJ DJ 1 vd 2 [ptr d1,ptr k1]]] [cL gi [.int .i64 (i.vs.length:Int)] 3 (0,0)]:=four (.succ (.succ .zero));have f4:cB [dH [i.M,N,cL gi [.int .i64 (i.vs.length:Int)] 3 (0,0),dJ DJ 1 vd 2 [ptr d1,ptr k1]]] [dJ DJ 1 vd 2 [ptr d1,ptr k1]]:=four (.succ (.succ (.succ .zero)));have hw:=h.wl
 constructor
 ·simp only [aa,aj];omega
 ·simp only [aa,aj];omega
 ·simp only [ah,aa,aj,List.range_succ,List.map_cons,List.map_nil,h.tl]
 ·exact h.hx.cM f1
 ·exact h.h4.cM f1
 ·intro y hy;rcases aJ.1 hy with hy|hy
  ·exact (h.tx y hy).cM f1
  ·rw [an.1 hy];exact hN.cM f2
 ·exact h.lo.cM f1
 ·intro j h1 h2;dsimp only at h1 h2 ⊢
  by_cases hj:j<i.vs.length
  ·have Gb:j<i.wd.length:=by omega
   obtain ⟨a,b,d⟩:=h.ps j hj Gb;simp only [List.getElem_append_left hj,List.getElem_append_left Gb];exact ⟨a.cM f1,b.cM f1,d.cM f1⟩
  ·rw [aa,aj] at h1
   obtain rfl:j=i.vs.length:=by omega
   have e1:(i.vs++[(vd,g4,gi)])[i.vs.length]'(by simp)=(vd,g4,gi):=by simp
   have e2:(i.wd++[(d1,k1)])[i.vs.length]'h2=(d1,k1):=by
    rw [List.getElem_append_right zo]
    simp
   rw [e1,e2];exact ⟨cF.cM (bb .zero) f4,h.h4.cM f1,Rd.cM (bQ .zero rfl) f3⟩
def AJ (p:Value × Value):List Value:=[p.1,p.2]
theorem zJ (p:Value × Value):(AJ p).length=2:=rfl
def NH (x:Value × Nat × Nat):Value × Value:=(x.1,.func (.func 161) #[] #[ptr x.2.1,ptr x.2.2])
abbrev FI (w:Nat):Value:=.func (.func 163) #[ptr w] #[]
def AK (w:Nat) (vl:Value) (vs:List (Value × Nat × Nat)) (vu:Value):List (Value × Value):=(vl,.func (.func 160) #[ptr w] #[])::(vs.map NH++[(vu,FI w)])
theorem sO (w:Nat) (vl:Value) (vs:List (Value × Nat × Nat)) (vu:Value):(AK w vl vs vu).flatMap AJ=FH w vl vs++[vu,FI w]:=by
 simp [AK,AJ,NH,List.flatMap_map]
theorem FJ {w:Nat} {vl:Value} {vs:List (Value × Nat × Nat)} {vu:Value} {j:Nat} (h:j<vs.length):(AK w vl vs vu)[j+1]?=some (NH (vs[j]'h)):=by
 unfold AK;rw [List.getElem?_cons_succ,List.getElem?_append_left (by rw [ab];exact h),aL,ae h]
 rfl
theorem FK {w:Nat} {vl:Value} {vs:List (Value × Nat × Nat)} {vu:Value}:(AK w vl vs vu)[vs.length+1]?=some (vu,FI w):=by
 unfold AK;rw [List.getElem?_cons_succ,List.getElem?_append_right (by rw [ab];exact aS _),ab,Nat.sub_self]
 rfl
inductive PQ where
 | zero
 | mid (gl gf:Nat) (wx:List WX)
 | all (gl gf:Nat) (wx:List WX) (gu:Nat)
def PQ.idx (k:Nat):PQ→Nat
 | .zero=>0
 | .mid _ _ wx=>wx.length+1
 | .all ..=>k+2
abbrev Jn:eQ:=⟨[],0,gZ,false⟩
abbrev XL:fW:=⟨[],0,none⟩
def WE (wd:List (Nat × Nat)) (wx:List WX):Prop:=∀ j (h:j<wx.length) (h2:j<wd.length),(wx[j]).d=(wd[j]).1∧(wx[j]).k=(wd[j]).2
def PQ.ok (c:di) (wd:List (Nat × Nat)):PQ→Prop
 | .zero=>True
 | .mid _ _ wx=>wx.length≤c.k∧WE wd wx
 | .all _ _ wx _=>wx.length=c.k∧WE wd wx
def WG (c:di) (w:Nat) (va l6 x ik:Value) (mr ml mc ld lk fd ud:Nat) (wd:List (Nat × Nat)):PQ→List cK
 | .zero=>[cL w (fK c va dL dL l6 dL dL dL dL x ik mr ml mc) dj (0,0),dJ pZ 1 l6 c.k (List.replicate c.k dL),df ld (dz []),df lk (dz []),df fd (dz []),dH (Jm wd),df ud (dz [])]
 | .mid gl gf wx=>[cL w (fK c va (ptr gl) (ptr gf) l6 dL dL dL dL x ik mr ml mc) dj (0,0),dJ pZ 1 l6 c.k (wx.map jJ++List.replicate (c.k - wx.length) dL),ej gf fd gl c.f ⟨[],[]⟩,cW gl ld lk (cS 0) XL,dH (kg 0 wx (List.replicate wx.length Jn)),dH (Jm (wd.drop wx.length)),df ud (dz [])]
 | .all gl gf wx gu=>[cL w (fK c va (ptr gl) (ptr gf) l6 dL (ptr gu) dL dL x ik mr ml mc) dj (0,0),dJ pZ 1 l6 c.k (wx.map jJ),ej gf fd gl c.f ⟨[],[]⟩,cW gl ld lk (cS 0) XL,dH (kg 0 wx (List.replicate wx.length Jn)),kj gu ud iL (da c) ⟨[]⟩]
theorem Jo {L R R':List cK} {A B C:cK} (p:cR L A R) (q:cR R B R') (f:∀ X,cB (A::B::X) (C::X)):cB L (C::R'):=cn p.out (cn (bh q.out) (f R'))
theorem NI {l:List (Nat × Nat)} {d k:Nat} {X:List cK}:cB (dH (Jm l)::dH (jK [d,k])::X) (dH (Jm (l++[(d,k)]))::X):=by
 rw [show Jm (l++[(d,k)])=Jm l++jK [d,k] by simp [Jm,jK]];exact all_append
theorem Dq {P:Program} {f:FuncId} {args:Array Value} {e:World} {L R1 R2 R3 R4:List cK} {A B C D:cK} {Post:Value→List cK→Prop} (p:cR L A R1) (q:cR R1 B R2) (r:cR R2 C R3) (u:cR R3 D R4) (h:Ct P f args e (A::B::C::D::R4) Post):Ct P f args e L Post :=
 h.cM (cn p.out (bh (cn q.out (bh (cn r.out (bh u.out))))))
theorem Ta {L R:List cK} {a b d:Nat} (p:cR L (dH (jK [a,b,d])) R):cB L (df a (dz [])::df b (dz [])::df d (dz [])::R):=cn p.out (cU (M:=jK [a,b,d]))
theorem Tb {L R:List cK} {a:Nat} (p:cR L (dH (jK [a])) R):cB L (df a (dz [])::R):=cn p.out (cU (M:=jK [a]))
theorem Tc {L R:List cK} {q:Nat × Nat} {l:List (Nat × Nat)} (p:cR L (dH (Jm (q::l))) R):cB L (df q.1 (dz [])::df q.2 (dz [])::dH (Jm l)::R) :=
 cn p.out (cn (cU (M:=Jm (q::l))) (bh (bh (dS (M:=Jm l)))))
theorem Td:fW.ok XL:=⟨fun r hr=>(by cases hr),List.nodup_nil,aH _,fun b hb=>(by cases hb),aH _,fun x hx=>(by cases hx)⟩
theorem Te:eQ.ok Jn:=⟨fun x hx=>(by cases hx),List.Pairwise.nil,fun x hx=>(by cases hx),aH _,re⟩
theorem zM (x:WX) (s:eQ):∀ (i:Nat) (xs:List WX) (ss:List eQ),xs.length=ss.length→kg i (xs++[x]) (ss++[s])=kg i xs ss++[vS (i+xs.length) x s]
 | i,[],[],_=>rfl
 | i,[],_::_,h=>by simp at h
 | i,_::_,[],h=>by simp at h
 | i,y::xs,t::ss,h=>by
  simp only [List.cons_append,kg];rw [zM x s (i+1) xs ss (by simpa using h)];simp only [aN];rw [show i+1+xs.length=i+(xs.length+1) by omega]
theorem Lf {x:WX} {wx:List WX} {X:List cK}:cB (dH (kg 0 wx (List.replicate wx.length Jn))::vS wx.length x Jn::X) (dH (kg 0 (wx++[x]) (List.replicate (wx++[x]).length Jn))::X):=by
 rw [aa,aj,List.replicate_succ',zM x Jn 0 wx _ (by simp),aC];exact cn (bh (dS (M:=[vS wx.length x Jn]))) all_append
theorem NJ {wx:List WX} {k:Nat} {x:WX} (h:wx.length<k):(wx.map jJ++List.replicate (k - wx.length) dL).set wx.length (ptr x.g)=(wx++[x]).map jJ++List.replicate (k - (wx.length+1)) dL:=by
 obtain ⟨m,hm⟩:∃ m,k - wx.length=m+1:=⟨k - wx.length - 1,by omega⟩
 rw [hm,show k - (wx.length+1)=m by omega,List.replicate_succ,List.set_append_right _ _ (by rw [ab];exact aS _),ab,Nat.sub_self,List.set_cons_zero]
 simp [jJ,ptr]
theorem WE.more {wd:List (Nat × Nat)} {wx:List WX} (h:WE wd wx) (hn:wx.length<wd.length) {x:WX} (hd:x.d=(wd[wx.length]'hn).1) (hk:x.k=(wd[wx.length]'hn).2):WE wd (wx++[x]):=fun j h1 h2=>by
 by_cases hj:j<wx.length
 ·simp only [List.getElem_append_left hj];exact h j hj h2
 ·rw [aa,aj] at h1
  obtain rfl:j=wx.length:=by omega
  simp only [List.getElem_concat_length];exact ⟨hd,hk⟩
theorem Tf:m6.ok ⟨[]⟩ iL:=⟨aH _,fun b hb=>(by cases hb),fun b hb=>(by cases hb),fun b hb=>(by cases hb),List.Pairwise.nil⟩
theorem Lg (R:List cK) (e:World) (c:di) (hc:c.ok) :
 Ct Tryz.prog 80 #[.agg (fX c).toArray] e R (fun v' L'=>∃ w,v'=.tuple #[ptr w,.int .i64 0]∧L'=dK w c 0 (pG c) []::R):=by
 have Gd:=hc.k;have hcq:=hc.ez;refine a8 (args:=[_]) Tryz.func80 rfl Tryz.ntmps80 Tryz.results80 rfl ?_
 (repeat (refine wA ?_;intros))
 rename_i gc;refine bk (id:=3) [13] (cL gc (fX c) iU (0,0)::R) Tryz.mixed ?_
 (refine tJ 0 ?_;refine tF 3 ?_;refine tL 4 ?_)
 refine A.OJ (n:=0) [
  ⟨1,41,[],[],fun v _=>∃ ad k,v=.slice ad (cS 0).length k,[(0,fun v _=>[cT v (cS 0)])]⟩,
  ⟨2,42,[1],[0],fun _ _=>True,[(1,fun v _=>[FG v dQ])]⟩,
  ⟨5,45,[2],[1],fun v ρ=>(ρ 2).oneCell'=true∧v=.agg [ρ 2,nL,.int .i64 (c.ez:Int)].toArray,[(8,fun _ ρ=>[FG (ρ 2) dQ])]⟩,
  ⟨6,46,[],[],fun v _=>∃ g,v=.map (some g),[(2,PP)]⟩,
  ⟨7,47,[],[],fun v _=>∃ g,v=.map (some g),[(3,PP)]⟩,
  ⟨8,48,[6,7],[],fun v ρ=>∃ g g',ρ 6=.map (some g)∧ρ 7=.map (some g')∧v=.agg [.map (some g),.map (some g')].toArray,[]⟩,
  ⟨9,49,[],[],fun v _=>∃ g,v=.map (some g),[(4,WC)]⟩,
  ⟨10,50,[5,8,9],[],fun v ρ=>∃ x g g' PR,x.oneCell'=true∧ρ 5=.agg [x,nL,.int .i64 (c.ez:Int)].toArray∧ρ 8=.agg [.map (some g),.map (some g')].toArray∧ρ 9=.map (some PR)∧v=.agg (fK c nL dL dL nL dL dL dL dL x nL g g' PR).toArray,[]⟩,
  ⟨11,51,[10],[],fun v _=>∃ g,v=ptr g,[(5,fun v ρ=>S7 v (ρ 10))]⟩,
  L8 12 4 6 S6 [dL],
  ⟨13,100013,[11,12],[6],fun _ _=>True,[(7,fun _ ρ=>S9 (ρ 12) (ρ 11))]⟩] 11 rfl zK zK ?_ zE ?_
 ·refine dm ?_ (dm ?_ (dm ?_ (dm ?_ (dm ?_ (dm ?_ (dm ?_ (dm ?_ (dm ?_ (dm ?_ (dm ?_ qg))))))))))
  ·refine ⟨_,rfl,.inl rfl,fun V σr M1 h3 hy=>?_⟩;refine bT (show cB _ (M1++(cL gc (fX c) iU (0,0)::R)) from aX) ?_;refine bg (xs:=[.const (.int .i64 0)]) (vs:=[.int .i64 0]) rfl rfl (pD _ e 0 zo) ?_;rintro _ _ ⟨ad,k,rfl,rfl⟩;exact ⟨_,rfl,⟨ad,k,rfl⟩,aX⟩
  ·refine ⟨_,rfl,.inl rfl,fun V σr M1 h3 hy=>?_⟩;obtain ⟨s1,ad,k,hv⟩:=hy _ (az (i:=0) rfl) (az (i:=0) rfl) (fy rfl);dsimp only at s1 hv
   refine bT (show cB _ (cT (V 1) (cS 0)::(M1++(cL gc (fX c) iU (0,0)::R))) from aX) ?_;rw [hv] at s1 ⊢
   refine bg (OK s1) rfl (me _ e _ (cS 0) (bb .zero) (pC 0)) ?_;rintro v2 _ ⟨N,rfl,hN⟩;exact ⟨_,rfl,trivial,cn (Jl hN) (bh (cB.drop aX))⟩
  ·refine ⟨_,rfl,.inl rfl,fun V σr M1 h3 hy=>?_⟩;obtain ⟨s2,-⟩:=hy _ (az (i:=1) rfl) (az (i:=0) rfl) (fy rfl);have s44:=h3 44 _ rfl;dsimp only at s2
   refine bT (show cB _ (FG (V 2) dQ::(M1++(cL gc (fX c) iU (0,0)::R))) from aX) ?_;unfold FG;refine Do.T0 fun N=>?_
   refine bT cU ?_;refine Do.Vh fun hN=>?_
   refine Do.OL (cz (hN.cM (cH .zero))) fun o=>?_
   exact bO (v:=.agg [V 2,nL,.int .i64 (c.ez:Int)].toArray) (bM (parts:=[(0,.tmp 42),(2,.tmp 44)]) (vs:=[(0,V 2),(2,.int .i64 (c.ez:Int))]) (by simp [uU,ev,s2,s44]) (by simp [Instr.fill,BS,eR o])) rfl ⟨_,rfl,⟨o,rfl⟩,Jl hN⟩
  ·exact ⟨_,rfl,.inl rfl,fun V σr M1 h3 hy=>Do.qw fJ rfl fun g=>⟨_,rfl,⟨g,rfl⟩,aX⟩⟩
  ·exact ⟨_,rfl,.inl rfl,fun V σr M1 h3 hy=>Do.qw fJ rfl fun g=>⟨_,rfl,⟨g,rfl⟩,aX⟩⟩
  ·refine ⟨_,rfl,.inl rfl,fun V σr M1 h3 hy=>?_⟩;obtain ⟨s6,g,IH⟩:=hy _ (az (i:=3) rfl) (az (i:=0) rfl) (fy rfl);obtain ⟨s7,g',hv7⟩:=hy _ (az (i:=4) rfl) (az (i:=1) rfl) (fy rfl);dsimp only at s6 IH s7 hv7
   rw [IH] at s6
   rw [hv7] at s7
   exact bO (v:=.agg [.map (some g),.map (some g')].toArray) (bM (parts:=[(0,.tmp 46),(1,.tmp 47)]) (vs:=[(0,.map (some g)),(1,.map (some g'))]) (by simp [uU,ev,s6,s7]) (by simp [Instr.fill,Value.cells])) rfl ⟨_,rfl,⟨g,g',IH,hv7,rfl⟩,aX⟩
  ·exact ⟨_,rfl,.inl rfl,fun V σr M1 h3 hy=>Do.qw ij rfl fun g=>⟨_,rfl,⟨g,rfl⟩,aX⟩⟩
  ·refine ⟨_,rfl,.inl rfl,fun V σr M1 h3 hy=>?_⟩;obtain ⟨s5,o,QN⟩:=hy _ (az (i:=2) rfl) (az (i:=0) rfl) (fy rfl);obtain ⟨s8,g,g',-,-,T8⟩:=hy _ (az (i:=5) rfl) (az (i:=1) rfl) (fy rfl);obtain ⟨s9,PR,hv9⟩:=hy _ (az (i:=6) rfl) (az (i:=2) rfl) (fy rfl);have s40:=h3 40 _ rfl;dsimp only at s5 o QN s8 T8 s9 hv9
   generalize fL [2] V 2=x at o QN
   rw [QN] at s5
   rw [T8] at s8
   rw [hv9] at s9
   refine bO (v:=.agg (fK c nL dL dL nL dL dL dL dL x nL g g' PR).toArray) (bM (parts:=[(0,.tmp 40),(9,.tmp 45),(12,.tmp 48),(15,.tmp 49)]) (vs:=[(0,.agg (fX c).toArray),(9,.agg [x,nL,.int .i64 (c.ez:Int)].toArray),(12,.agg [.map (some g),.map (some g')].toArray),(15,.map (some PR))]) (by simp [uU,ev,s5,s8,s9,s40]) (by simp [Instr.fill,Value.cells])) rfl ⟨_,rfl,⟨x,g,g',PR,o,QN,T8,hv9,rfl⟩,aX⟩
  ·refine ⟨_,rfl,.inl rfl,fun V σr M1 h3 hy=>?_⟩;obtain ⟨s10,x,g0,g',PR,o,-,-,-,hv⟩:=hy _ (az (i:=7) rfl) (az (i:=0) rfl) (fy rfl);dsimp only at s10 hv
   have hw:fL [10] V 10=.agg (fK c nL dL dL nL dL dL dL dL x nL g0 g' PR).toArray:=hv;rw [hv] at s10
   refine Do.box s10 rfl rfl fun g=>⟨_,rfl,⟨g,rfl⟩,?_⟩
   refine cn (show cB _ (cL g (fK c nL dL dL nL dL dL dL dL x nL g0 g' PR) dj (0,0)::(M1++(cL gc (fX c) iU (0,0)::R))) from aX) ?_
   show cB _ ((S7 (ptr g) (fL [10] V 10)++[])++(M1++(cL gc (fX c) iU (0,0)::R)))
   rw [hw];exact aX
  ·exact Ci rfl (.inl rfl) rfl rfl rfl
  ·refine ⟨_,rfl,.inl rfl,fun V σr M1 h3 hy=>?_⟩;obtain ⟨Mz,g,Kc⟩:=hy _ (az (i:=8) rfl) (az (i:=0) rfl) (fy rfl);obtain ⟨Sj,g4,Tg⟩:=hy _ (az (i:=9) rfl) (az (i:=1) rfl) (fy rfl);dsimp only at Mz Kc Sj Tg
   have Vp:fL [11,12] V 11=ptr g:=Kc;have Vq:fL [11,12] V 12=ptr g4:=Tg;refine bT (show cB _ ((Ch [dL] S6 (V 12) V++[])++(M1++(cL gc (fX c) iU (0,0)::R))) from aX) ?_;rw [Tg] at Sj ⊢
   rw [Kc] at Mz
   refine bT (show cB _ (cL g4 [dL] S6 (0,0)::(M1++(cL gc (fX c) iU (0,0)::R))) from aX) ?_;refine b8 (cs':=[ptr g]) Sj Mz rfl .zero gy.zero ⟨dL,rfl,trivial,?_⟩
   show cB _ ((S9 (fL [11,12] V 12) (fL [11,12] V 11)++[])++(M1++(cL gc (fX c) iU (0,0)::R)))
   rw [Vp,Vq];exact aX
 intro V hV;obtain ⟨-,v5⟩:=hV _ (az (i:=2) rfl);obtain ⟨mr,v6⟩:=hV _ (az (i:=3) rfl);obtain ⟨ml,v7⟩:=hV _ (az (i:=4) rfl);obtain ⟨a1,a2,w6,w7,v8⟩:=hV _ (az (i:=5) rfl);obtain ⟨mc,v9⟩:=hV _ (az (i:=6) rfl);obtain ⟨x,b1,b2,b3,o1,w5,w8,w9,v10⟩:=hV _ (az (i:=7) rfl);obtain ⟨w,v11⟩:=hV _ (az (i:=8) rfl);obtain ⟨g4,v12⟩:=hV _ (az (i:=9) rfl);clear hV;dsimp only at v5 v6 v7 v8 v9 v10 v11 v12
 have v2:V 2=x:=by
  have h:V 5=_:=w5;rw [v5] at h
  have h2:fL [2] V 2=x:=by simpa using h
  exact h2
 have q6:V 6=_:=w6;have q7:V 7=_:=w7;have q8:V 8=_:=w8;have q9:V 9=_:=w9;rw [v6] at q6
 rw [v7] at q7
 rw [v9] at q9
 rw [v8] at q8
 cases q6
 cases q7
 cases q9
 simp only [Value.agg.injEq,List.toArray_inj,List.cons.injEq,Value.map.injEq,Option.some.injEq,and_true] at q8
 obtain ⟨rfl,rfl⟩:=q8;clear v5 v8 w5 w6 w7 w8 w9;refine A.fp (show cB _ (([FG (V 2) dQ]++(PP (V 6) V++(PP (V 7) V++(WC (V 9) V++(S7 (V 11) (V 10)++(S9 (V 12) (V 11)++[]))))))++(cL gc (fX c) iU (0,0)::R)) from aX) ?_;simp only [kX,Nat.reduceLT,if_true,if_false,List.cons_append,List.nil_append];rw [v2,v6,v7,v9,v10,v11,v12];refine A.fp (show cB _ (FG x dQ::iD fJ mr []::iD fJ ml []::iD ij mc []::cL w (fK c nL dL dL nL dL dL dL dL x nL mr ml mc) dj (0,0)::cL g4 [ptr w] S6 (0,0)::cL gc (fX c) iU (0,0)::R) from aX) ?_;unfold FG;refine A.T0 fun N=>?_
 refine A.fp cU ?_;refine A.Vh fun hN=>?_
 obtain ⟨M,hM⟩:∃ M:cK,M=dH [N,cL g4 [ptr w] S6 (0,0)]:=⟨_,rfl⟩
 have hx:db [M] x dQ:=by rw [hM];exact hN.cM Dg
 have h4:Rd [M] ⟨g4,0,none⟩ (ptr w):=by rw [hM];exact Rd.cM (bQ .zero rfl) Dh
 have h4r:Rd (M::cL gc (fX c) iU (0,0)::R) ⟨g4,0,none⟩ (ptr w):=h4.cM (cH .zero);refine A.fp (show cB _ (dJ AI 2 nL 0 []::cL w (fK c nL dL dL nL dL dL dL dL x nL mr ml mc) dj (0,0)::iD fJ mr []::iD fJ ml []::iD ij mc []::M::cL gc (fX c) iU (0,0)::R) from ?_) ?_
 ·rw [hM];exact cn (ea (A:=N) (B:=cL g4 [ptr w] S6 (0,0)) zP zP) (cn (du AI 2) zE)
 refine bf zK ?_;refine Fin.next ?_;refine W.gC [(1,ptr gc),(4,ptr g4)] zS ?_;clear v2 v6 v7 v9 v10 v11 v12 V;clear hN hM N
 (repeat (refine wA ?_;intros))
 refine bk (id:=4) [13,14,15] (cL w (fK c nL dL dL nL dL dL dL dL x nL mr ml mc) dj (0,0)::M::cL gc (fX c) iU (0,0)::R) Tryz.mixed ?_
 (refine tL 0 ?_;refine tL 1 ?_;refine tN 2 ?_;refine tF 3 ?_;refine tL 4 ?_;refine tF 5 ?_;refine tL 6 ?_;refine tL 8 ?_)
 refine tk 9 _ rfl (cE.makeFunc rfl rfl) ?_;refine tO 7 ?_;refine bg rfl rfl (qK _ e 3 zo) ?_;rintro _ _ ⟨ad,kd,gs,rfl,CF,rfl⟩
 obtain ⟨ld,lk,fd,rfl⟩:∃ a b d,gs=[a,b,d]:=by
  match gs,CF with
  | [a,b,d],_=>exact ⟨a,b,d,rfl⟩
 refine ⟨fun _=>zE,?_⟩;refine tk 10 _ rfl (bM rfl zF) ?_;refine tO 11 ?_;refine bF (n:=2) (cs:=[.slice ad 3 kd,.func (.func 160) #[ptr w] #[]]) rfl rfl rfl rfl zQ rfl (fun gb=>⟨fun _=>zE,?_⟩);refine tO 12 ?_;refine bo rfl rfl rfl (show cR _ (dJ AI 2 nL 0 []) _ from zP) (bP (n:=2) (c:=1) zP rfl zl) rfl rfl zO zm zo fun ap kp _=>⟨fun _=>zE,?_⟩
 ((refine tO 13 ?_;refine dV (bm rfl) ?_);(refine tO 14 ?_;refine dV (ba rfl) ?_);(refine tO 15 ?_;refine tf ?_;refine ⟨zN,?_⟩))
 refine bf zK ?_;refine Fin.next ?_;refine W.gC [(1,ptr gc),(4,ptr g4)] zS ?_;obtain ⟨vl,Be⟩:∃ vl:Value,vl=.slice ad 3 kd:=⟨_,rfl⟩
 have hvo:vl.oneCell'=true:=by rw [Be];rfl
 refine W.fp (show cB _ (dJ AI 2 (.slice ap 1 kp) 1 (FH w vl [])::dJ DJ 1 vl 3 [ptr ld,ptr lk,ptr fd]::dH (jK [ld,lk,fd])::cL w (fK c (.slice ap 1 kp) dL dL nL dL dL dL dL x nL mr ml mc) dj (0,0)::iD fJ mr []::iD fJ ml []::iD ij mc []::M::cL gc (fX c) iU (0,0)::R) from by rw [Be];exact zE) ?_;clear Be CF
 (repeat (refine wA ?_;intros))
 refine bk (id:=5) [4,5,6] (M::cL gc (fX c) iU (0,0)::R) Tryz.mixed ?_
 (refine tL 0 ?_;refine tF 1 ?_;refine tL 2 ?_)
 refine tO 3 ?_;refine Do.makeSlice rfl rfl rfl rfl zm zo fun gw=>⟨fun _=>zE,?_⟩
 ((refine tO 4 ?_;refine dV (bm rfl) ?_);(refine tO 5 ?_;refine dV (ba rfl) ?_);(refine tO 6 ?_;refine tf ?_;refine ⟨zN,?_⟩))
 refine bf zK ?_;refine wB ?_;refine bq (ι:=Ie) (fun i=>[(1,ptr gc),(4,ptr g4),(77,.int .i64 (c.k:Int)),(78,.int .i64 (i.vs.length:Int))]) (fun i=>WD i c w gc gw ld lk fd mr ml mc vl x R) (fun i=>i.ok c w g4 ld lk fd vl x) (fun i=>c.k - i.vs.length) ⟨[],[],[],ap,kp,none,0,dH [M,dJ DJ 1 vl 3 [ptr ld,ptr lk,ptr fd]]⟩ ⟨aH _,rfl,rfl,hx.cM Dg,h4.cM Dg,(fun y hy=>by cases hy),cF.cM (bb .zero) Dh,fun j h=>absurd h (Nat.not_lt_zero _)⟩ zS (cn (ea (A:=M) (B:=dJ DJ 1 vl 3 [ptr ld,ptr lk,ptr fd]) zP zP) (cn (du eA 1) (cn (dS (M:=[])) zE))) ?_;clear hx h4 h4r;rintro i hi;have hle:=hi.le;have h4r:Rd (i.M::cL gc (fX c) iU (0,0)::R) ⟨g4,0,none⟩ (ptr w):=hi.h4.cM (cH .zero);have oH:i.ts.length=i.vs.length:=by have:=congrArg List.length hi.tl;simpa using this
 by_cases cP:i.vs.length<c.k
 rotate_left
 ·have KL:i.vs.length=c.k:=by omega
  refine wB ?_;refine bk (id:=12) [13,14,15] (cL w (fK c (.slice i.ap (i.vs.length+1) i.kp) dL dL (.slice (some ⟨gw,0,none⟩) c.k c.k) dL dL dL dL x (.slice i.aw i.ts.length i.kw) mr ml mc) dj (0,0)::i.M::cL gc (fX c) iU (0,0)::R) Tryz.mixed ?_
  (refine tL 0 ?_;refine tL 1 ?_;refine tN 2 ?_;refine tF 3 ?_;refine tL 4 ?_;refine tF 5 ?_;refine tL 6 ?_;refine tL 8 ?_)
  refine tk 9 _ rfl (cE.makeFunc rfl rfl) ?_;refine tO 7 ?_;refine bg rfl rfl (qK _ e 1 zo) ?_;rintro _ _ ⟨eE,WH,gs,rfl,CF,rfl⟩
  obtain ⟨ud,rfl⟩:∃ a,gs=[a]:=by
   match gs,CF with
   | [a],_=>exact ⟨a,rfl⟩
  refine ⟨fun _=>zE,?_⟩;refine tk 10 _ rfl (bM rfl zF) ?_;refine tO 11 ?_;refine bF (n:=2) (cs:=[.slice eE 1 WH,FI w]) rfl rfl rfl rfl zQ rfl (fun gb3=>⟨fun _=>zE,?_⟩);refine tO 12 ?_;refine bo rfl rfl rfl (show cR _ (dJ AI 2 (.slice i.ap (i.vs.length+1) i.kp) (i.vs.length+1) (FH w vl i.vs)) _ from zP) (bP (n:=2) (c:=1) zP rfl zl) rfl rfl zO zm zo fun ap2 nu _=>⟨fun _=>zE,?_⟩
  ((refine tO 13 ?_;refine dV (bm rfl) ?_);(refine tO 14 ?_;refine dV (ba rfl) ?_);(refine tO 15 ?_;refine tf ?_;refine ⟨zN,?_⟩))
  refine bf zK ?_;refine Fin.next ?_;refine W.gC [(1,ptr gc),(4,ptr g4)] zS ?_;refine bD ((bb (show cR _ (dJ AI 2 (.slice ap2 (i.vs.length+1+1) nu) (i.vs.length+1+1) (FH w vl i.vs++[.slice eE 1 WH,FI w])) _ from zP)).shape zo) ?_;rintro ⟨⟨lO,c',lP,q3,q4,q5,q6⟩,_⟩
  cases lP
  rcases q6 with q6|⟨gp,op,rfl⟩
  ·omega
  clear q3 q4 q5;obtain ⟨vu,Um⟩:∃ vu:Value,vu=.slice eE 1 WH:=⟨_,rfl⟩
  obtain ⟨ik,WJ⟩:∃ v:Value,v=.slice i.aw i.ts.length i.kw:=⟨_,rfl⟩
  obtain ⟨M2,CJ⟩:∃ M2:cK,M2=dH [i.M,dJ AI 2 (.slice (some ⟨gp,op,none⟩) (c.k+2) nu) (c.k+2) ((AK w vl i.vs vu).flatMap AJ),cV ik i.ts,dJ DJ 1 vu 1 [ptr ud]]:=⟨_,rfl⟩
  refine W.fp (show cB _ (cL w (fK c (.slice (some ⟨gp,op,none⟩) (c.k+2) nu) dL dL (.slice (some ⟨gw,0,none⟩) c.k c.k) dL dL dL dL x ik mr ml mc) dj (0,0)::dJ pZ 1 (.slice (some ⟨gw,0,none⟩) c.k c.k) c.k (List.replicate c.k dL)::dH (jK [ld,lk,fd])::dH (Jm i.wd)::dH (jK [ud])::iD fJ mr []::iD fJ ml []::iD ij mc []::M2::cL gc (fX c) iU (0,0)::R) from ?_) ?_
  ·rw [CJ,Um,WJ,sO,KL];exact cn (rf (A:=i.M) (B:=dJ AI 2 (.slice (some ⟨gp,op,none⟩) (c.k+2) nu) (c.k+2) (FH w vl i.vs++[.slice eE 1 WH,FI w])) (C:=cV (.slice i.aw i.ts.length i.kw) i.ts) (D:=dJ DJ 1 (.slice eE 1 WH) 1 [ptr ud]) zP zP zP zP) zE
  have g1:cB [M2] [i.M]:=by rw [CJ];exact four .zero
  have Ei:db [M2] x dQ:=hi.hx.cM g1;have h42:Rd [M2] ⟨g4,0,none⟩ (ptr w):=hi.h4.cM g1;have vV:cF [M2] 2 (.slice (some ⟨gp,op,none⟩) (c.k+2) nu) (c.k+2) ((AK w vl i.vs vu).flatMap AJ):=by rw [CJ];exact cF.cM (bb .zero) (four (.succ .zero))
  have Fi:j8 [M2] x ik (da c):=by
   refine ⟨Ei,i.ts,?_,?_,fun y hy=>(hi.tx y hy).cM g1⟩
   ·rw [hi.tl,KL];rfl
   ·rw [CJ];exact cF.cM (bb .zero) (four (.succ (.succ .zero)))
  have NK:cF [M2] 1 vu 1 [ptr ud]:=by rw [CJ];exact cF.cM (bb .zero) (four (.succ (.succ (.succ .zero))))
  have vy:cF [M2] 1 vl 3 [ptr ld,ptr lk,ptr fd]:=hi.lo.cM g1
  have QJ:∀ j (h:j<i.vs.length) (h2:j<i.wd.length),cF [M2] 1 (i.vs[j]).1 2 [ptr (i.wd[j]).1,ptr (i.wd[j]).2]∧Rd [M2] ⟨(i.vs[j]).2.1,0,none⟩ (ptr w)∧Rd [M2] ⟨(i.vs[j]).2.2,0,none⟩ (.int .i64 (j:Int)):=fun j h h2=>by
   obtain ⟨a,b,d⟩:=hi.ps j h h2;exact ⟨a.cM g1,b.cM g1,d.cM g1⟩
  have C7:=hi.wl;have h4r:Rd (M2::cL gc (fX c) iU (0,0)::R) ⟨g4,0,none⟩ (ptr w):=h42.cM (cH .zero);clear CJ Um WJ g1 hi oH hle
  generalize i.vs=vs at *
  generalize i.wd=wd at *
  refine bD ((vy.cM (cH zP)).shape zo) ?_;rintro ⟨⟨xm,cl,rfl,-,-,-,q6⟩,_⟩;rcases q6 with q6|⟨gd,od,rfl⟩
  ·omega
  refine bD ((NK.cM (cH zP)).shape zo) ?_;rintro ⟨⟨m9,cu,rfl,-,-,-,q6⟩,_⟩;rcases q6 with q6|⟨Un,Uo,rfl⟩
  ·omega
  have r0:dZ (M2::cL gc (fX c) iU (0,0)::R) gp (op+0*2) [.slice (some ⟨gd,od,none⟩) 3 cl,.func (.func 160) #[ptr w] #[]]:=dZ.elem (vV.cM (cH .zero)) zJ (j:=0) rfl;have s0:Rd [M2] ⟨gp,op,none⟩ (.slice (some ⟨gd,od,none⟩) 3 cl):=cF.elemOf vV zJ (j:=0) (i:=0) rfl rfl;refine wB ?_;refine bq (ι:=PQ) (fun j=>[(1,ptr gc),(4,ptr g4),(129,.slice (some ⟨gp,op,none⟩) (c.k+2) nu),(130,.int .i64 ((c.k+2:Nat):Int)),(131,.int .i64 (j.idx c.k:Int))]) (fun j=>WG c w (.slice (some ⟨gp,op,none⟩) (c.k+2) nu) (.slice (some ⟨gw,0,none⟩) c.k c.k) x ik mr ml mc ld lk fd ud wd j++(iD fJ mr []::iD fJ ml []::iD ij mc []::M2::cL gc (fX c) iU (0,0)::R)) (fun j=>j.ok c wd) (fun j=>c.k+2 - j.idx c.k) .zero trivial zS ?_ ?_
  ·simp only [WG,List.cons_append,List.nil_append];exact cn (Ta (a:=ld) (b:=lk) (d:=fd) zP) (cn (Tb (a:=ud) zP) zE)
  rintro j hj
  cases j with
  | zero =>
   simp only [WG,PQ.idx,List.cons_append,List.nil_append]
   (repeat (refine wA ?_;intros))
   rename_i g7;refine O.gD (us:=[ptr w]) (ws:=[]) (vs:=[]) rfl rfl rfl (Dq zP zP zP zP (uJ _ e w c hc dL dL (.slice (some ⟨gw,0,none⟩) c.k c.k) dL dL dL dL x ik (.int .i64 0) nL (.map (some mr)) (.map (some ml)) (.int .i64 0) nL (.bool false) (.map (some mc)) gp op (c.k+2) nu gd od cl ld lk fd XL [] zo (s0.cM (cH zP)) ((vy.elem (j:=0) rfl).cM (cH zP)) ((vy.elem (j:=1) rfl).cM (cH zP)) ((vy.elem (j:=2) rfl).cM (cH zP)) Td (aH _) (fun b hb=>by cases hb))) ?_;rintro _ _ ⟨rfl,gl,gf,rfl⟩;refine wB ?_;refine bi (.mid gl gf []) ⟨aH _,fun j h=>absurd h (Nat.not_lt_zero _)⟩ zd zS ?_;refine cn (dS (M:=[])) ?_;exact zE
  | mid gl gf wx =>
   obtain ⟨Px,XM⟩:=hj;simp only [WG,PQ.idx,List.cons_append,List.nil_append]
   by_cases hw:wx.length<c.k
   ·have hn:wx.length<vs.length:=by omega
    have F9:wx.length<wd.length:=by omega
    obtain ⟨p1,p2,p3⟩:=QJ wx.length hn F9;have u6:=FJ (w:=w) (vl:=.slice (some ⟨gd,od,none⟩) 3 cl) (vu:=.slice (some ⟨Un,Uo,none⟩) 1 cu) hn;have Eg:=List.drop_eq_getElem_cons F9;have hwm:=fun x=>XM.more F9 (x:=x)
    generalize vs[wx.length]'hn=y at p1 p2 p3 u6
    generalize wd[wx.length]'F9=q at p1 Eg hwm
    obtain ⟨vd,xw,xi⟩:=y;obtain ⟨d1,k1⟩:=q;dsimp only at p1 p2 p3 hwm
    rw [Eg];refine bD ((p1.cM (cH zP)).shape zo) ?_;rintro ⟨⟨wm,cv,rfl,-,-,-,q6⟩,_⟩;rcases q6 with q6|⟨gv,ov,rfl⟩
    ·omega
    have r1:dZ (M2::cL gc (fX c) iU (0,0)::R) gp (op+(wx.length+1)*2) [.slice (some ⟨gv,ov,none⟩) 2 cv,.func (.func 161) #[] #[ptr xw,ptr xi]]:=dZ.elem (vV.cM (cH .zero)) zJ (j:=wx.length+1) u6;have s1:Rd [M2] ⟨gp,op+(wx.length+1)*2,none⟩ (.slice (some ⟨gv,ov,none⟩) 2 cv):=cF.elemOf vV zJ (j:=wx.length+1) (i:=0) u6 rfl;refine W.fp (Tc (q:=(d1,k1)) (l:=wd.drop (wx.length+1)) zP) ?_
    (repeat (refine wA ?_;intros))
    rename_i g7;refine O.gD (us:=[]) (ws:=[ptr xw,ptr xi]) (vs:=[]) rfl rfl rfl (Dq zP zP zP zP (uK _ e w c (ptr gl) (ptr gf) dL dL dL dL x ik (.int .i64 0) nL (.map (some mr)) (.map (some ml)) (.int .i64 0) nL (.bool false) (.map (some mc)) gp op (c.k+2) nu gv ov cv d1 k1 wx.length gw c.k c.k xw xi (wx.map jJ++List.replicate (c.k - wx.length) dL) Jn zo zo hw (by simp;omega) (p2.cM (cH zP)) (p3.cM (cH zP)) (s1.cM (cH zP)) ((p1.elem (j:=0) rfl).cM (cH zP)) ((p1.elem (j:=1) rfl).cM (cH zP)) (Ei.cM (cH zP)) Te (aH _))) ?_;rintro _ _ ⟨rfl,g,rfl⟩;rw [show (wx.map jJ++List.replicate (c.k - wx.length) dL).set wx.length (ptr g)=_ from NJ (x:=⟨g,d1,k1⟩) hw];refine wB ?_;refine bi (.mid gl gf (wx++[⟨g,d1,k1⟩])) ⟨by rw [aa,aj];omega,hwm _ rfl rfl⟩ (by dsimp only;rw [aa,aj];omega) ?_ ?_
    ·simp only [aa,aj];exact zS
    ·dsimp only;simp only [List.cons_append,List.nil_append];refine cn (Jo (A:=dH (kg 0 wx (List.replicate wx.length Jn))) (B:=vS wx.length ⟨g,d1,k1⟩ Jn) zP zP fun X=>Lf) ?_;simp only [aa,aj];exact zE
   ·have Th:wx.length=c.k:=by omega
    have u6:=FK (w:=w) (vl:=.slice (some ⟨gd,od,none⟩) 3 cl) (vs:=vs) (vu:=.slice (some ⟨Un,Uo,none⟩) 1 cu);rw [KL] at u6
    have r1:dZ (M2::cL gc (fX c) iU (0,0)::R) gp (op+(c.k+1)*2) [.slice (some ⟨Un,Uo,none⟩) 1 cu,FI w]:=dZ.elem (vV.cM (cH .zero)) zJ (j:=c.k+1) u6;have s1:Rd [M2] ⟨gp,op+(c.k+1)*2,none⟩ (.slice (some ⟨Un,Uo,none⟩) 1 cu):=cF.elemOf vV zJ (j:=c.k+1) (i:=0) u6 rfl;rw [Th,Nat.sub_self,List.replicate_zero,aK]
    (repeat (refine wA ?_;intros))
    rename_i g7;refine O.gD (us:=[ptr w]) (ws:=[]) (vs:=[]) rfl rfl rfl (Ct.AR zP zP (oD _ e w c hc (ptr gl) (ptr gf) (.slice (some ⟨gw,0,none⟩) c.k c.k) dL dL dL dL x ik (.int .i64 0) nL (.map (some mr)) (.map (some ml)) (.int .i64 0) nL (.bool false) (.map (some mc)) gp op nu Un Uo cu ud ⟨[]⟩ (s1.cM (cH zP)) ((NK.elem (j:=0) rfl).cM (cH zP)) (Fi.cM (cH zP)) Tf)) ?_;rintro _ _ ⟨rfl,gu,rfl⟩;refine wB ?_;refine bi (.all gl gf wx gu) ⟨Th,XM⟩ zd zS ?_;dsimp only;simp only [List.cons_append,List.nil_append];rw [Th];exact zE
  | all gl gf wx gu =>
   obtain ⟨Px,XM⟩:=hj;simp only [WG,PQ.idx,List.cons_append,List.nil_append];rw [Px];clear r0 s0;refine wB ?_;obtain ⟨XN,Ti⟩:∃ X:cK,X=Ex fun v:Value=>cL w (fK c (.slice (some ⟨gp,op,none⟩) (c.k+2) nu) (ptr gl) (ptr gf) (.slice (some ⟨gw,0,none⟩) c.k c.k) v (ptr gu) dL dL x ik mr ml mc) dj (0,0):=⟨_,rfl⟩
   have hE:∀ (v:Value) (X:List cK),cB (cL w (fK c (.slice (some ⟨gp,op,none⟩) (c.k+2) nu) (ptr gl) (ptr gf) (.slice (some ⟨gw,0,none⟩) c.k c.k) v (ptr gu) dL dL x ik mr ml mc) dj (0,0)::X) (XN::X):=fun v X=>by rw [Ti];exact fx (f:=fun v:Value=>cL w (fK c (.slice (some ⟨gp,op,none⟩) (c.k+2) nu) (ptr gl) (ptr gf) (.slice (some ⟨gw,0,none⟩) c.k c.k) v (ptr gu) dL dL x ik mr ml mc) dj (0,0)) v
   have rA:dZ (XN::M2::cL gc (fX c) iU (0,0)::R) w (0+16) [x,ik,.int .i64 (c.ez:Int)]:=by rw [Ti];exact dZ.ex fun v=>dZ.fQ .zero ⟨3,rfl⟩
   refine bk (id:=21) [14] (XN::M2::cL gc (fX c) iU (0,0)::R) Tryz.mixed ?_;refine bH 0 _ rfl zK (cn (bw (show cR _ (cL w (fK c (.slice (some ⟨gp,op,none⟩) (c.k+2) nu) (ptr gl) (ptr gf) (.slice (some ⟨gw,0,none⟩) c.k c.k) dL (ptr gu) dL dL x ik mr ml mc) dj (0,0)) _ from zP) aX) (cn ((hE dL) _) zE)) (bp rfl zR) rfl ?_;refine bH 1 _ rfl zK (cn (bw (show cR _ (cL w (fK c (.slice (some ⟨gp,op,none⟩) (c.k+2) nu) (ptr gl) (ptr gf) (.slice (some ⟨gw,0,none⟩) c.k c.k) dL (ptr gu) dL dL x ik mr ml mc) dj (0,0)) _ from zP) aX) (cn ((hE dL) _) zE)) (bp rfl zR) rfl ?_;refine bH 2 _ rfl zK (cn (bw (show cR _ (cL w (fK c (.slice (some ⟨gp,op,none⟩) (c.k+2) nu) (ptr gl) (ptr gf) (.slice (some ⟨gw,0,none⟩) c.k c.k) dL (ptr gu) dL dL x ik mr ml mc) dj (0,0)) _ from zP) aX) (cn ((hE dL) _) zE)) (bm rfl) rfl ?_;refine bH 3 _ rfl zK (cn (bw (show cR _ (cL w (fK c (.slice (some ⟨gp,op,none⟩) (c.k+2) nu) (ptr gl) (ptr gf) (.slice (some ⟨gw,0,none⟩) c.k c.k) dL (ptr gu) dL dL x ik mr ml mc) dj (0,0)) _ from zP) aX) (cn ((hE dL) _) zE)) (ba rfl) rfl ?_;refine bH 4 _ rfl zK (cn (bw (show cR _ (cL w (fK c (.slice (some ⟨gp,op,none⟩) (c.k+2) nu) (ptr gl) (ptr gf) (.slice (some ⟨gw,0,none⟩) c.k c.k) dL (ptr gu) dL dL x ik mr ml mc) dj (0,0)) _ from zP) aX) (cn ((hE dL) _) zE)) (cE.dx rfl rA rfl) rfl ?_
   refine bH 5 _ rfl zK (cn (bw (show cR _ (cL w (fK c (.slice (some ⟨gp,op,none⟩) (c.k+2) nu) (ptr gl) (ptr gf) (.slice (some ⟨gw,0,none⟩) c.k c.k) dL (ptr gu) dL dL x ik mr ml mc) dj (0,0)) _ from zP) aX) (cn ((hE dL) _) zE)) (ba rfl) rfl ?_;refine bH 6 _ rfl zK (cn (bw (show cR _ (cL w (fK c (.slice (some ⟨gp,op,none⟩) (c.k+2) nu) (ptr gl) (ptr gf) (.slice (some ⟨gw,0,none⟩) c.k c.k) dL (ptr gu) dL dL x ik mr ml mc) dj (0,0)) _ from zP) aX) (cn ((hE dL) _) zE)) (bp rfl zR) rfl ?_;refine tO 7 ?_;refine bg rfl rfl (KS _ e x ik (da c) c.retry (Fi.cM (cH zP)) hc.wU hc.retry.1 hc.retry.2) ?_;rintro _ _ ⟨mH,rfl,rfl⟩;rw [ll];refine ⟨fun _=>(cn (bw (show cR _ (cL w (fK c (.slice (some ⟨gp,op,none⟩) (c.k+2) nu) (ptr gl) (ptr gf) (.slice (some ⟨gw,0,none⟩) c.k c.k) dL (ptr gu) dL dL x ik mr ml mc) dj (0,0)) _ from zP) aX) (cn ((hE dL) _) zE)),?_⟩;refine bH 8 _ rfl zK (cn (bw (show cR _ (cL w (fK c (.slice (some ⟨gp,op,none⟩) (c.k+2) nu) (ptr gl) (ptr gf) (.slice (some ⟨gw,0,none⟩) c.k c.k) dL (ptr gu) dL dL x ik mr ml mc) dj (0,0)) _ from zP) aX) (cn ((hE dL) _) zE)) (bu rfl) rfl ?_;refine bH 9 _ rfl zK (cn (bw (show cR _ (cL w (fK c (.slice (some ⟨gp,op,none⟩) (c.k+2) nu) (ptr gl) (ptr gf) (.slice (some ⟨gw,0,none⟩) c.k c.k) dL (ptr gu) dL dL x ik mr ml mc) dj (0,0)) _ from zP) aX) (cn ((hE dL) _) zE)) (bl rfl rfl) rfl ?_
   refine bH 10 _ rfl zK (cn (bw (show cR _ (cL w (fK c (.slice (some ⟨gp,op,none⟩) (c.k+2) nu) (ptr gl) (ptr gf) (.slice (some ⟨gw,0,none⟩) c.k c.k) dL (ptr gu) dL dL x ik mr ml mc) dj (0,0)) _ from zP) aX) (cn ((hE dL) _) zE)) (bl rfl rfl) rfl ?_;refine bH 11 _ rfl zK (cn (bw (show cR _ (cL w (fK c (.slice (some ⟨gp,op,none⟩) (c.k+2) nu) (ptr gl) (ptr gf) (.slice (some ⟨gw,0,none⟩) c.k c.k) dL (ptr gu) dL dL x ik mr ml mc) dj (0,0)) _ from zP) aX) (cn ((hE dL) _) zE)) (bm rfl) rfl ?_;refine bH 12 _ rfl zK (cn (bw (show cR _ (cL w (fK c (.slice (some ⟨gp,op,none⟩) (c.k+2) nu) (ptr gl) (ptr gf) (.slice (some ⟨gw,0,none⟩) c.k c.k) dL (ptr gu) dL dL x ik mr ml mc) dj (0,0)) _ from zP) aX) (cn ((hE dL) _) zE)) (ba rfl) rfl ?_;refine tO 13 ?_;refine tf ?_;refine ⟨fun _=>(cn (bw (show cR _ (cL w (fK c (.slice (some ⟨gp,op,none⟩) (c.k+2) nu) (ptr gl) (ptr gf) (.slice (some ⟨gw,0,none⟩) c.k c.k) (ptr mH) (ptr gu) dL dL x ik mr ml mc) dj (0,0)) _ from zP) aX) (cn ((hE (ptr mH)) _) zE)),?_⟩;refine tO 14 ?_;refine dV (bj rfl) ?_;refine bf zK ?_;clear hE rA Ti XN;refine wB ?_;obtain ⟨XO,Tj⟩:∃ X:cK,X=Ex fun v:Value=>cL w (fK c (.slice (some ⟨gp,op,none⟩) (c.k+2) nu) (ptr gl) (ptr gf) (.slice (some ⟨gw,0,none⟩) c.k c.k) (ptr mH) (ptr gu) v dL x ik mr ml mc) dj (0,0):=⟨_,rfl⟩
   have Jp:∀ (v:Value) (X:List cK),cB (cL w (fK c (.slice (some ⟨gp,op,none⟩) (c.k+2) nu) (ptr gl) (ptr gf) (.slice (some ⟨gw,0,none⟩) c.k c.k) (ptr mH) (ptr gu) v dL x ik mr ml mc) dj (0,0)::X) (XO::X):=fun v X=>by rw [Tj];exact fx (f:=fun v:Value=>cL w (fK c (.slice (some ⟨gp,op,none⟩) (c.k+2) nu) (ptr gl) (ptr gf) (.slice (some ⟨gw,0,none⟩) c.k c.k) (ptr mH) (ptr gu) v dL x ik mr ml mc) dj (0,0)) v
   have rX:Rd (XO::M2::cL gc (fX c) iU (0,0)::R) ⟨w,0+16+0,none⟩ x:=Rd.ef .zero (by rw [Tj];exact Rd.ex fun v=>bQ .zero rfl);refine bk (id:=24) [] (XO::M2::cL gc (fX c) iU (0,0)::R) Tryz.mixed ?_;refine bH 0 _ rfl zK (cn (bw (show cR _ (cL w (fK c (.slice (some ⟨gp,op,none⟩) (c.k+2) nu) (ptr gl) (ptr gf) (.slice (some ⟨gw,0,none⟩) c.k c.k) (ptr mH) (ptr gu) dL dL x ik mr ml mc) dj (0,0)) _ from zP) aX) (cn ((Jp dL) _) zE)) (bp rfl zR) rfl ?_;refine bH 1 _ rfl zK (cn (bw (show cR _ (cL w (fK c (.slice (some ⟨gp,op,none⟩) (c.k+2) nu) (ptr gl) (ptr gf) (.slice (some ⟨gw,0,none⟩) c.k c.k) (ptr mH) (ptr gu) dL dL x ik mr ml mc) dj (0,0)) _ from zP) aX) (cn ((Jp dL) _) zE)) (bp rfl zR) rfl ?_;refine bH 2 _ rfl zK (cn (bw (show cR _ (cL w (fK c (.slice (some ⟨gp,op,none⟩) (c.k+2) nu) (ptr gl) (ptr gf) (.slice (some ⟨gw,0,none⟩) c.k c.k) (ptr mH) (ptr gu) dL dL x ik mr ml mc) dj (0,0)) _ from zP) aX) (cn ((Jp dL) _) zE)) (bm rfl) rfl ?_;refine bH 3 _ rfl zK (cn (bw (show cR _ (cL w (fK c (.slice (some ⟨gp,op,none⟩) (c.k+2) nu) (ptr gl) (ptr gf) (.slice (some ⟨gw,0,none⟩) c.k c.k) (ptr mH) (ptr gu) dL dL x ik mr ml mc) dj (0,0)) _ from zP) aX) (cn ((Jp dL) _) zE)) (ba rfl) rfl ?_;refine bH 4 _ rfl zK (cn (bw (show cR _ (cL w (fK c (.slice (some ⟨gp,op,none⟩) (c.k+2) nu) (ptr gl) (ptr gf) (.slice (some ⟨gw,0,none⟩) c.k c.k) (ptr mH) (ptr gu) dL dL x ik mr ml mc) dj (0,0)) _ from zP) aX) (cn ((Jp dL) _) zE)) (ba rfl) rfl ?_
   refine bH 5 _ rfl zK (cn (bw (show cR _ (cL w (fK c (.slice (some ⟨gp,op,none⟩) (c.k+2) nu) (ptr gl) (ptr gf) (.slice (some ⟨gw,0,none⟩) c.k c.k) (ptr mH) (ptr gu) dL dL x ik mr ml mc) dj (0,0)) _ from zP) aX) (cn ((Jp dL) _) zE)) (bp rfl rX) rfl ?_;refine tO 6 ?_;refine bg rfl rfl (KX _ e x dQ (Ei.cM (cH zP)) (j5 _)) ?_;rintro _ _ ⟨gm,rfl,rfl⟩;refine ⟨fun _=>(cn (bw (show cR _ (cL w (fK c (.slice (some ⟨gp,op,none⟩) (c.k+2) nu) (ptr gl) (ptr gf) (.slice (some ⟨gw,0,none⟩) c.k c.k) (ptr mH) (ptr gu) dL dL x ik mr ml mc) dj (0,0)) _ from zP) aX) (cn ((Jp dL) _) zE)),?_⟩;refine bH 7 _ rfl zK (cn (bw (show cR _ (cL w (fK c (.slice (some ⟨gp,op,none⟩) (c.k+2) nu) (ptr gl) (ptr gf) (.slice (some ⟨gw,0,none⟩) c.k c.k) (ptr mH) (ptr gu) dL dL x ik mr ml mc) dj (0,0)) _ from zP) aX) (cn ((Jp dL) _) zE)) (bu rfl) rfl ?_;refine bH 8 _ rfl zK (cn (bw (show cR _ (cL w (fK c (.slice (some ⟨gp,op,none⟩) (c.k+2) nu) (ptr gl) (ptr gf) (.slice (some ⟨gw,0,none⟩) c.k c.k) (ptr mH) (ptr gu) dL dL x ik mr ml mc) dj (0,0)) _ from zP) aX) (cn ((Jp dL) _) zE)) (bl rfl rfl) rfl ?_;refine bH 9 _ rfl zK (cn (bw (show cR _ (cL w (fK c (.slice (some ⟨gp,op,none⟩) (c.k+2) nu) (ptr gl) (ptr gf) (.slice (some ⟨gw,0,none⟩) c.k c.k) (ptr mH) (ptr gu) dL dL x ik mr ml mc) dj (0,0)) _ from zP) aX) (cn ((Jp dL) _) zE)) (bl rfl rfl) rfl ?_
   refine bH 10 _ rfl zK (cn (bw (show cR _ (cL w (fK c (.slice (some ⟨gp,op,none⟩) (c.k+2) nu) (ptr gl) (ptr gf) (.slice (some ⟨gw,0,none⟩) c.k c.k) (ptr mH) (ptr gu) dL dL x ik mr ml mc) dj (0,0)) _ from zP) aX) (cn ((Jp dL) _) zE)) (bm rfl) rfl ?_;refine bH 11 _ rfl zK (cn (bw (show cR _ (cL w (fK c (.slice (some ⟨gp,op,none⟩) (c.k+2) nu) (ptr gl) (ptr gf) (.slice (some ⟨gw,0,none⟩) c.k c.k) (ptr mH) (ptr gu) dL dL x ik mr ml mc) dj (0,0)) _ from zP) aX) (cn ((Jp dL) _) zE)) (ba rfl) rfl ?_;refine tO 12 ?_;refine tf ?_;refine ⟨fun _=>(cn (bw (show cR _ (cL w (fK c (.slice (some ⟨gp,op,none⟩) (c.k+2) nu) (ptr gl) (ptr gf) (.slice (some ⟨gw,0,none⟩) c.k c.k) (ptr mH) (ptr gu) (ptr gm) dL x ik mr ml mc) dj (0,0)) _ from zP) aX) (cn ((Jp (ptr gm)) _) zE)),?_⟩;refine bf zK ?_;clear Jp rX Tj XO;refine wB ?_;refine bk (id:=25) [] (M2::cL gc (fX c) iU (0,0)::R) Tryz.mixed ?_
   (refine tL 0 ?_)
   refine tO 1 ?_;refine bg rfl rfl (KY _ e 32 zo) ?_;rintro _ _ ⟨gn,rfl,rfl⟩;refine ⟨fun _=>zE,?_⟩
   (refine tM 2 ?_;refine tk 3 _ rfl (bl rfl rfl) ?_;refine tk 4 _ rfl (bl rfl rfl) ?_;refine tN 5 ?_;refine tF 6 ?_;(refine tO 7 ?_;refine tf ?_;refine ⟨fun _=>(by (repeat first|exact zE|exact bG|refine bh ?_|(apply bw;exact zP)|refine cB.drop ?_);done),?_⟩))
   refine bf zK ?_;refine wB ?_
   have j1:eh.ok ⟨(.slice (some ⟨gp,op,none⟩) (c.k+2) nu),gl,gf,(.slice (some ⟨gw,0,none⟩) c.k c.k),mH,gu,gm,gn,x,ik,nL,mr,ml,nL,mc,[],[],[],[],wx,ld,lk,fd,ud,[]⟩ M2 w c 0 (pG c) :=
    {wU:=Fi
     root:=cF.nil _ _
     es:=fun x hx=>by cases hx
     kc:=fun x hx=>by cases hx
     all:=⟨.slice (some ⟨gd,od,none⟩) 3 cl,.slice (some ⟨Un,Uo,none⟩) 1 cu,vs,KL,Px,by rw [← sO];exact vV,vy,NK,fun i h h2=>by
      have h3:i<wd.length:=by omega
      obtain ⟨a1,a2,a3⟩:=QJ i h h3;obtain ⟨b1,b2⟩:=XM i h2 h3;dsimp only;rw [b1,b2];exact ⟨a1,a2,a3⟩⟩
     ee:=rfl
     st:=Jk hc
     ec:=aH _ }
   refine aY (dK w c 0 (pG c) []::R) rfl (cn ?_ (dU j1 rfl)) ⟨w,rfl,rfl⟩;dsimp only [dP,eh.cells];rw [Px];refine cn (du tEv 4) ?_;exact zE
 (repeat (refine wA ?_;intros))
 rename_i gi;refine bk (id:=9) [12,13,14,15] (cL gi [.int .i64 (i.vs.length:Int)] 3 (0,0)::cL w (fK c (.slice i.ap (i.vs.length+1) i.kp) dL dL (.slice (some ⟨gw,0,none⟩) c.k c.k) dL dL dL dL x (.slice i.aw i.ts.length i.kw) mr ml mc) dj (0,0)::i.M::cL gc (fX c) iU (0,0)::R) Tryz.mixed ?_
 (refine tL 0 ?_;refine tL 1 ?_;refine tN 2 ?_;refine tF 3 ?_;refine tF 4 ?_;refine tL 5 ?_;refine tL 6 ?_;refine tk 7 _ rfl (cE.kS rfl rfl zo) ?_)
 rw [show ((i.vs.length:Int)+1)=((i.vs.length+1:Nat):Int) by omega];refine tO 8 ?_;refine bg rfl rfl (pD _ e (i.vs.length+1) zo) ?_;rintro _ _ ⟨a9,ks,rfl,rfl⟩;refine ⟨fun _=>zE,?_⟩;refine tO 9 ?_;refine bg rfl rfl (me _ e _ (cS (i.vs.length+1)) (bb (show cR _ (cT (.slice a9 (cS (i.vs.length+1)).length ks) (cS (i.vs.length+1))) _ from zP)) (pC _)) ?_;rintro pv _ ⟨N,rfl,hN⟩;refine ⟨fun _=>zE,?_⟩;refine A.cC (cz (hN.cM (cH .zero))) fun op=>?_
 refine tO 10 ?_;refine bF (n:=1) (cs:=[pv]) rfl rfl rfl rfl (.one (eR op) rfl .nil) rfl (fun gb=>⟨fun _=>zE,?_⟩);refine tO 11 ?_;refine bo rfl rfl rfl (show cR _ (cV (.slice i.aw i.ts.length i.kw) i.ts) _ from zP) (bB zP rfl zl) rfl rfl zO zm zo fun aw1 kw1 _=>⟨fun _=>zE,?_⟩
 ((refine tO 12 ?_;refine dV (bm rfl) ?_);(refine tO 13 ?_;refine dV (ba rfl) ?_);(refine tO 14 ?_;refine dV (ba rfl) ?_);(refine tO 15 ?_;refine tf ?_;refine ⟨zN,?_⟩))
 refine bf zK ?_
 (repeat (refine wA ?_;intros))
 refine bk (id:=10) [12,13,14] (cL w (fK c (.slice i.ap (i.vs.length+1) i.kp) dL dL (.slice (some ⟨gw,0,none⟩) c.k c.k) dL dL dL dL x (.slice aw1 (i.ts.length+1) kw1) mr ml mc) dj (0,0)::i.M::cL gc (fX c) iU (0,0)::R) Tryz.mixed ?_
 (refine tL 0 ?_;refine tL 1 ?_;refine tN 2 ?_;refine tF 3 ?_;refine tL 4 ?_;refine tF 5 ?_;refine tL 6 ?_)
 refine tk 8 _ rfl (cE.makeFunc rfl rfl) ?_;refine tO 7 ?_;refine bg rfl rfl (qK _ e 2 zo) ?_;rintro _ _ ⟨dW,XP,gs,rfl,CF,rfl⟩
 obtain ⟨d1,k1,rfl⟩:∃ a b,gs=[a,b]:=by
  match gs,CF with
  | [a,b],_=>exact ⟨a,b,rfl⟩
 refine ⟨fun _=>zE,?_⟩;refine tk 9 _ rfl (bM rfl zF) ?_;refine tO 10 ?_;refine bF (n:=2) (cs:=[.slice dW 2 XP,.func (.func 161) #[] #[ptr g4,ptr gi]]) rfl rfl rfl rfl zQ rfl (fun gb2=>⟨fun _=>zE,?_⟩);refine tO 11 ?_;refine bo rfl rfl rfl (show cR _ (dJ AI 2 (.slice i.ap (i.vs.length+1) i.kp) (i.vs.length+1) (FH w vl i.vs)) _ from zP) (bP (n:=2) (c:=1) zP rfl zl) rfl rfl zO zm zo fun ap1 kp1 _=>⟨fun _=>zE,?_⟩
 ((refine tO 12 ?_;refine dV (bm rfl) ?_);(refine tO 13 ?_;refine dV (ba rfl) ?_);(refine tO 14 ?_;refine tf ?_;refine ⟨zN,?_⟩))
 refine bf zK ?_;refine wB ?_;refine bi ⟨i.vs++[(.slice dW 2 XP,g4,gi)],i.wd++[(d1,k1)],i.ts++[(pv,kP (cS (i.vs.length+1)))],ap1,kp1,aw1,kw1,dH [i.M,N,cL gi [.int .i64 (i.vs.length:Int)] 3 (0,0),dJ DJ 1 (.slice dW 2 XP) 2 [ptr d1,ptr k1]]⟩ (hi.more cP hN) (by simp only [aa,aj];omega) ?_ ?_
 ·simp only [aa,aj];exact zS
 ·simp only [WD,cV,FH,aa,aj,ah,List.map_cons,List.map_nil,aW,aT,List.flatMap_nil,aK];refine cn (rf (A:=i.M) (B:=N) (C:=cL gi [.int .i64 (i.vs.length:Int)] 3 (0,0)) (D:=dJ DJ 1 (.slice dW 2 XP) 2 [ptr d1,ptr k1]) zP zP zP zP) ?_;exact cn (Jo (A:=dH (Jm i.wd)) (B:=dH (jK [d1,k1])) zP zP fun X=>NI) zE
end Go.Proofs
