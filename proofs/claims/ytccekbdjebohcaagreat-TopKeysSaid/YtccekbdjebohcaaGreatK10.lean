/- Part 10 of a proof of this: TopKeys returns true for any arguments; nothing of the old memory is turned. No condition. -/
import Derived.Test.YtccekbdjebohcaaGreatK09
set_option linter.unusedVariables false
set_option linter.unusedSimpArgs false
namespace Go.Proofs
attribute [local irreducible] Bs.cD Bs.Do Bs.O Bs.W Bs.Fin Bs.A Bs.Ct Bs.cE Bs.Rd Bs.Sat Bs.cK Bs.Ob Bs.dE Bs.View Bs.cz Bs.Ex Bs.dI Bs.Pu Bs.eY Bs.dN Bs.dZ
open Go.Bs
open Tryz
variable (R:List cJ) (e:World)
theorem da.Ji {c:dh} {m:Nat} {s:da} {x:fW} (h:s.ok c m) (hx:x.ok c s.ls.cF):(s.send x).ok c m:=by
 unfold da.send
 exact { h with
  eh:=fun y hy=>by
   have hy:y∈(if s.eh.length<32 then s.eh++[x] else s.eh):=hy
   split at hy
   ·rcases aJ.1 hy with hy|hy
    ·exact h.eh y hy
    ·rw [an.1 hy];exact hx
   ·exact h.eh y hy
  room:=by
   show (if s.eh.length<32 then s.eh++[x] else s.eh).length≤32
   split
   ·rw [aa];simp only [aj];omega
   ·exact h.room }
theorem da.Wp {c:dh} {m:Nat} {s:da} {j:Nat} {w:eP} (h:s.ok c m) (h1:w.ok) (h2:w.recs.length≤m) (h3:lL s.ls.cF w.c) (h4:w.some=true→w.dC.fY=j∧w.dC.sig.right):da.ok c m { s with ws:=s.ws.set j w } :=
 {h with
  wl:=by show (s.ws.set j w).length=_;rw [List.length_set];exact h.wl
  ws:=fun y hy=>by
   rcases List.mem_or_eq_of_mem_set hy with hy|rfl
   ·exact h.ws y hy
   ·exact ⟨h1,h2,h3⟩
  iQ:=fun i y hy hs=>by
   have hy:(s.ws.set j w)[i]?=some y:=hy
   by_cases DC:j=i
   ·subst DC
    by_cases hl:j<s.ws.length
    ·rw [List.getElem?_set_self hl] at hy;cases hy;exact h4 hs
    ·rw [List.getElem?_eq_none (by rw [List.length_set];omega)] at hy;cases hy
   ·rw [List.getElem?_set_ne DC] at hy
    exact h.iQ i y hy hs }
theorem da.FB {c:dh} {m:Nat} {s:da} {j n:Nat} {x:jV} (h:s.ok c m) (hm:m<250) (hj:j<c.k) (hx:Ae s.ls.cF x) (h0:0<s.ls.cF.length):(s.asked j x.dc n).ok c (m+1):=by
 obtain ⟨h1,h2,h3,h4,h5⟩:=Jh h hj (n:=n) hx;refine da.Ji (da.Wp (h.next hm) h1 h2 h3 h4) ⟨h0,?_⟩;unfold da.PH
 split
 ·rename_i h6;exact ⟨hj,(h4 (h5 h6)).1,(h4 (h5 h6)).2⟩
 ·refine ⟨hj,?_⟩;have:=h3.1;have:=h.short
  omega
abbrev pB (c:dh) (va vl vf lY zM vu vm vn pV ij vt ve Az AA AB vr AC AD:Value):List Value :=
 [.int .i64 (c.k:Int),.int .i64 (c.ey:Int),.int .i64 (c.room:Int),.int .i64 (c.size:Int),.int .i64 (c.wait:Int),.int .i64 (c.retry:Int),.int .i64 1048576,.string (str iT),
  va,vl,vf,lY,zM,vu,vm,vn,pV,ij,.int .i64 (c.ey:Int),vt,ve,Az,AA,AB,vr,AC,AD]
abbrev ptr (g:Nat):Value:=pt g
theorem uK (w:Nat) (c:dh) (hc:c.ok) (vl vf lY zM vu vm vn pV ij vt ve Az AA AB vr AC AD:Value) (gp op lp kp gd od kd d k f:Nat) (ls:fM) (recs:List du) (MQ:0<lp)
 (h0:Rd R ⟨gp,op,none⟩ (.slice (some ⟨gd,od,none⟩) 3 kd)) (h1:Rd R ⟨gd,od,none⟩ (ptr d)) (h2:Rd R ⟨gd,od+1,none⟩ (ptr k)) (h3:Rd R ⟨gd,od+2,none⟩ (ptr f)) (Mw:ls.ok) (My:recs.length≤1000) (hg:∀ b∈recs,jk b∧b.length≤200) :
 Ct prog 160 #[ptr w] e (cK w (pB c (.slice (some ⟨gp,op,none⟩) lp kp) vl vf lY zM vu vm vn pV ij vt ve Az AA AB vr AC AD) di (0,0)::de d (dx ls.jb)::de k (eo ls.keys 1048576)::de f (dx (eV recs))::R)
  (fun v' L'=>v'=.int .i64 0∧∃ gl gf,L'=cK w (pB c (.slice (some ⟨gp,op,none⟩) lp kp) (ptr gl) (ptr gf) lY zM vu vm vn pV ij vt ve Az AA AB vr AC AD) di (0,0)::eg gf f gl c.f ⟨recs,(io ls.cF recs).map fun b=>(b,rB)⟩::cU gl d k (cQ 0) { ls with last:=none }::R):=by
 refine a8 (args:=[_]) func160 rfl ntmps160 results160 rfl ?_;refine wB ?_;refine bk (id:=2) [12] R mixed ?_;refine tM 0 ?_;refine tk 1 _ rfl (bD rfl rfl (by decide)) ?_;refine tk 2 _ rfl (bp rfl h1) ?_;refine tM 3 ?_;refine tk 4 _ rfl (bD rfl rfl (by decide)) ?_;refine tk 5 _ rfl (bp rfl h2) ?_;refine tO 6 ?_;refine bg rfl rfl (pz _ e 0 zo) ?_;rintro _ _ ⟨ad,ks,rfl,rfl⟩;refine ⟨fun _=>zE,?_⟩;refine tO 7 ?_;refine bg rfl rfl (Ct.AR zP zP (Hv _ e d k _ (cQ 0) ls (bb (show cR _ (cS (.slice ad (cQ 0).length ks) (cQ 0)) _ from zP)) (py 0) Mw)) ?_;rintro _ _ ⟨gl,rfl,rfl⟩;refine ⟨fun _=>zE,?_⟩
 (refine tM 8 ?_;refine tk 9 _ rfl (bl rfl rfl) ?_;refine tk 10 _ rfl (bl rfl rfl) ?_;refine tA 11 ?_;(refine tO 12 ?_;refine dV (bj rfl) ?_))
 refine bf zK ?_;refine wB ?_;refine bk (id:=5) [27] (cK w (pB c (.slice (some ⟨gp,op,none⟩) lp kp) (ptr gl) vf lY zM vu vm vn pV ij vt ve Az AA AB vr AC AD) di (0,0)::R) mixed ?_;refine tM 0 ?_;refine tk 1 _ rfl (bD rfl rfl (by decide)) ?_;refine tk 2 _ rfl (bp rfl (h3.cL zE)) ?_
 (refine tM 3 ?_;refine tN 4 ?_;refine tF 5 ?_;refine tL 6 ?_;refine tM 7 ?_;refine tN 8 ?_;refine tF 9 ?_;refine tF 10 ?_;refine tL 11 ?_;refine tM 12 ?_;refine tN 13 ?_;refine tF 14 ?_;refine tF 15 ?_;refine tL 16 ?_;refine tM 17 ?_;refine tN 18 ?_;refine tF 19 ?_;refine tF 20 ?_;refine tL 21 ?_)
 refine tO 22 ?_;refine bg rfl rfl (Ct.AR zP zP (HC _ e f gl d k (cQ 0) { ls with last:=none } c.f recs hc.f My hg)) ?_;rintro _ _ ⟨gf,rfl,rfl⟩;refine ⟨fun _=>zE,?_⟩
 (refine tM 23 ?_;refine tk 24 _ rfl (bl rfl rfl) ?_;refine tk 25 _ rfl (bl rfl rfl) ?_;refine tA 26 ?_;(refine tO 27 ?_;refine dV (bj rfl) ?_))
 refine bf zK ?_;refine wB ?_;exact aY (cK w (pB c (.slice (some ⟨gp,op,none⟩) lp kp) (ptr gl) (ptr gf) lY zM vu vm vn pV ij vt ve Az AA AB vr AC AD) di (0,0)::eg gf f gl c.f ⟨recs,(io ls.cF recs).map fun b=>(b,rB)⟩::cU gl d k (cQ 0) { ls with last:=none }::R) rfl zE ⟨rfl,gl,gf,rfl⟩
theorem vV (w:Nat) (c:dh) (vl vf zM vu vm vn pV ij vt ve Az AA AB vr AC AD:Value) (gp op lp kp gd od kd d k i gw nw kw:Nat) (AF:List Value) (s:eP) (hi:i<3) (MQ:i+1<lp) (gy:i<nw) (Be:AF.length=nw)
 (h0:Rd R ⟨gp,op+(i+1)*2,none⟩ (.slice (some ⟨gd,od,none⟩) 2 kd)) (h1:Rd R ⟨gd,od,none⟩ (ptr d)) (h2:Rd R ⟨gd,od+1,none⟩ (ptr k)) (Cm:db R pV dO) (hs:s.ok) (ln:s.recs.length≤1000) :
 Ct prog 162 #[ptr w,.int .i64 (i:Int)] e (cK w (pB c (.slice (some ⟨gp,op,none⟩) lp kp) vl vf (.slice (some ⟨gw,0,none⟩) nw kw) zM vu vm vn pV ij vt ve Az AA AB vr AC AD) di (0,0)::dE pY 1 (.slice (some ⟨gw,0,none⟩) nw kw) nw AF::de d (dx s.jb)::de k (eo s.keys 1048576)::R)
  (fun v' L'=>v'=.int .i64 0∧∃ g,L'=cK w (pB c (.slice (some ⟨gp,op,none⟩) lp kp) vl vf (.slice (some ⟨gw,0,none⟩) nw kw) zM vu vm vn pV ij vt ve Az AA AB vr AC AD) di (0,0)::dE pY 1 (.slice (some ⟨gw,0,none⟩) nw kw) nw (AF.set i (ptr g))::nD g d k i (cQ (i+1)) dO { s with dC:=gY,some:=false }::R):=by
 have V7:dO.length=32:=j5 _;refine a7 (cn (Cm.cL (show cz _ R from zE))) fun o1=>?_
 refine a8 (args:=[_,_]) func162 rfl ntmps162 results162 rfl ?_;refine wB ?_;refine bk (id:=2) [20] (cK w (pB c (.slice (some ⟨gp,op,none⟩) lp kp) vl vf (.slice (some ⟨gw,0,none⟩) nw kw) zM vu vm vn pV ij vt ve Az AA AB vr AC AD) di (0,0)::R) mixed ?_;refine tM 0 ?_;refine tk 1 _ rfl (bD rfl rfl (by decide)) ?_;refine tk 2 _ rfl (bp rfl (h1.cL zE)) ?_;refine tM 3 ?_;refine tk 4 _ rfl (bD rfl rfl (by decide)) ?_;refine tk 5 _ rfl (bp rfl (h2.cL zE)) ?_
 (refine tM 6 ?_;refine tM 7 ?_;refine tk 8 _ rfl (cD.kQ rfl rfl zo) ?_;refine tM 10 ?_;refine tN 11 ?_;refine tF 12 ?_;refine tF 13 ?_;refine tL 14 ?_)
 rw [show ((i:Int)+1)=((i+1:Nat):Int) by omega];refine tO 9 ?_;refine bg rfl rfl (pz _ e (i+1) zo) ?_;rintro _ _ ⟨ad,ks,rfl,rfl⟩;refine ⟨fun _=>zE,?_⟩;refine tO 15 ?_;refine bg rfl rfl (Ct.AR zP zP (HI _ e d k i _ pV (cQ (i+1)) dO s (bb (show cR _ (cS (.slice ad (cQ (i+1)).length ks) (cQ (i+1))) _ from zP)) (Cm.cL zE) (py _) V7 zo hs ln)) ?_;rintro _ _ ⟨g,rfl,rfl⟩;refine ⟨fun _=>zE,?_⟩
 (refine tM 16 ?_;refine tk 17 _ rfl (bl rfl rfl) ?_;refine tk 18 _ rfl (bl rfl rfl) ?_;refine tA 19 ?_;(refine tO 20 ?_;refine dV (bj rfl) ?_))
 refine bf zK ?_;refine wB ?_;simp only [aC,Nat.mul_one];exact aY (cK w (pB c (.slice (some ⟨gp,op,none⟩) lp kp) vl vf (.slice (some ⟨gw,0,none⟩) nw kw) zM vu vm vn pV ij vt ve Az AA AB vr AC AD) di (0,0)::dE pY 1 (.slice (some ⟨gw,0,none⟩) nw kw) nw (AF.set i (ptr g))::nD g d k i (cQ (i+1)) dO { s with dC:=gY,some:=false }::R) rfl zE ⟨rfl,g,rfl⟩
theorem uL (w:Nat) (c:dh) (vl vf zM vu vm vn pV ij vt ve Az AA AB vr AC AD:Value) (gp op lp kp gd od kd d k i gw nw kw x y:Nat) (AF:List Value) (s:eP) (hi:i<3) (MQ:i+1<lp) (gy:i<nw) (Be:AF.length=nw)
 (hx:Rd R ⟨x,0,none⟩ (ptr w)) (hy:Rd R ⟨y,0,none⟩ (.int .i64 (i:Int)))
 (h0:Rd R ⟨gp,op+(i+1)*2,none⟩ (.slice (some ⟨gd,od,none⟩) 2 kd)) (h1:Rd R ⟨gd,od,none⟩ (ptr d)) (h2:Rd R ⟨gd,od+1,none⟩ (ptr k)) (Cm:db R pV dO) (hs:s.ok) (ln:s.recs.length≤1000) :
 Ct prog 161 #[ptr x,ptr y] e (cK w (pB c (.slice (some ⟨gp,op,none⟩) lp kp) vl vf (.slice (some ⟨gw,0,none⟩) nw kw) zM vu vm vn pV ij vt ve Az AA AB vr AC AD) di (0,0)::dE pY 1 (.slice (some ⟨gw,0,none⟩) nw kw) nw AF::de d (dx s.jb)::de k (eo s.keys 1048576)::R)
  (fun v' L'=>v'=.int .i64 0∧∃ g,L'=cK w (pB c (.slice (some ⟨gp,op,none⟩) lp kp) vl vf (.slice (some ⟨gw,0,none⟩) nw kw) zM vu vm vn pV ij vt ve Az AA AB vr AC AD) di (0,0)::dE pY 1 (.slice (some ⟨gw,0,none⟩) nw kw) nw (AF.set i (ptr g))::nD g d k i (cQ (i+1)) dO { s with dC:=gY,some:=false }::R):=by
 refine a8 (args:=[_,_]) func161 rfl ntmps161 results161 rfl ?_;refine wB ?_;refine aZ rfl rfl (vV R e w c vl vf zM vu vm vn pV ij vt ve Az AA AB vr AC AD gp op lp kp gd od kd d k i gw nw kw AF s hi MQ gy Be h0 h1 h2 Cm hs ln) ?_;rintro _ _ ⟨rfl,g,rfl⟩;refine wB ?_;exact aY (cK w (pB c (.slice (some ⟨gp,op,none⟩) lp kp) vl vf (.slice (some ⟨gw,0,none⟩) nw kw) zM vu vm vn pV ij vt ve Az AA AB vr AC AD) di (0,0)::dE pY 1 (.slice (some ⟨gw,0,none⟩) nw kw) nw (AF.set i (ptr g))::nD g d k i (cQ (i+1)) dO { s with dC:=gY,some:=false }::R) rfl zE ⟨rfl,g,rfl⟩
theorem Lb:pI iT:=by
 refine ⟨by decide,by decide,fun b hb=>?_⟩;simp only [iT,aQ,aP,or_false] at hb
 rcases hb with rfl|rfl|rfl|rfl<;>decide
theorem oD (w:Nat) (c:dh) (hc:c.ok) (vl vf lY zM vu vm vn pV ij vt ve Az AA AB vr AC AD:Value) (gp op kp gd od kd d:Nat) (s:m8)
 (h0:Rd R ⟨gp,op+(c.k+1)*2,none⟩ (.slice (some ⟨gd,od,none⟩) 1 kd)) (h1:Rd R ⟨gd,od,none⟩ (ptr d)) (Cm:j7 R pV ij (cZ c)) (hs:s.ok iT) :
 Ct prog 163 #[ptr w] e (cK w (pB c (.slice (some ⟨gp,op,none⟩) (c.k+2) kp) vl vf lY zM vu vm vn pV ij vt ve Az AA AB vr AC AD) di (0,0)::de d (dx (eV s.recs))::R)
  (fun v' L'=>v'=.int .i64 0∧∃ g,L'=cK w (pB c (.slice (some ⟨gp,op,none⟩) (c.k+2) kp) vl vf lY zM (ptr g) vm vn pV ij vt ve Az AA AB vr AC AD) di (0,0)::kh g d iT (cZ c) s::R):=by
 have hk:=hc.k;refine a7 (cn (Cm.log.cL (show cz _ R from zE))) fun o1=>?_
 refine a7 (Cm.ew.cL (show cz _ R from zE)).one fun o2=>?_
 refine a8 (args:=[_]) func163 rfl ntmps163 results163 rfl ?_;refine wB ?_;refine bk (id:=1) [29] (cK w (pB c (.slice (some ⟨gp,op,none⟩) (c.k+2) kp) vl vf lY zM vu vm vn pV ij vt ve Az AA AB vr AC AD) di (0,0)::R) mixed ?_
 (refine tM 0 ?_;refine tN 1 ?_;refine tF 2 ?_;refine tL 3 ?_;refine tM 4 ?_;refine tN 5 ?_;refine tF 6 ?_;refine tL 7 ?_;refine tk 8 _ rfl (bM rfl) ?_;refine tk 9 _ rfl (cD.jz rfl rfl zo) ?_)
 rw [show (((c.k+2:Nat):Int) - 1)=((c.k+1:Nat):Int) by omega]
 (refine tk 10 _ rfl (bD rfl rfl zo) ?_;refine tF 11 ?_)
 refine tk 12 _ rfl (bp rfl (h0.cL zE)) ?_;refine tk 13 _ rfl (bD rfl rfl (by decide)) ?_;refine tk 14 _ rfl (bp rfl (h1.cL zE)) ?_
 (refine tM 15 ?_;refine tN 16 ?_;refine tF 17 ?_;refine tF 18 ?_;refine tL 19 ?_;refine tM 20 ?_;refine tN 21 ?_;refine tF 22 ?_;refine tk 23 _ rfl (cD.df rfl zP zI zX) ?_)
 refine tO 24 ?_;refine bg rfl rfl (Ct.at zP (H5 _ e d iT pV ij (cZ c) s (Cm.cL zE) hc.wV Lb hs)) ?_;rintro _ _ ⟨g,rfl,rfl⟩;refine ⟨fun _=>zE,?_⟩
 (refine tM 25 ?_;refine tk 26 _ rfl (bl rfl rfl) ?_;refine tk 27 _ rfl (bl rfl rfl) ?_;refine tA 28 ?_;(refine tO 29 ?_;refine dV (bj rfl) ?_))
 refine bf zK ?_;refine wB ?_;exact aY (cK w (pB c (.slice (some ⟨gp,op,none⟩) (c.k+2) kp) vl vf lY zM (ptr g) vm vn pV ij vt ve Az AA AB vr AC AD) di (0,0)::kh g d iT (cZ c) s::R) rfl zE ⟨rfl,g,rfl⟩
abbrev tCh:TypeId:=83
abbrev abA:Value:=.agg #[.int .i64 0,.int .i64 0,nY,nY]
theorem FC (k:Fin 1000 × Fin 1000):∀ l:List ((Fin 1000 × Fin 1000) × jm),∃ t:jm,(gJ k (sM l)).getD abA=.agg (jm.cells t).toArray∧((gJ k (sM l)).isSome=true→∃ p∈l,p.2=t)∧((gJ k (sM l)).isSome=false→t=(gY,nY,nY))
 | []=>⟨(gY,nY,nY),rfl,fun h=>(by cases h),fun _=>rfl⟩
 | p::l=>by
  obtain ⟨t,h1,h2,h4⟩:=FC k l;have hc:gJ k (sM (p::l))=if p.1=k then some (.agg (jm.cells p.2).toArray) else gJ k (sM l):=rfl
  rw [hc]
  by_cases h:p.1=k
  ·rw [aI h];exact ⟨p.2,rfl,fun _=>⟨p,List.mem_cons_self ..,rfl⟩,fun q=>by cases q⟩
  ·rw [aB h];exact ⟨t,h1,fun q=>by obtain ⟨y,hy,h3⟩:=h2 q;exact ⟨y,aT _ hy,h3⟩,h4⟩
theorem Dh (k:Fin 1000 × Fin 1000) (t:jm):∀ l:List ((Fin 1000 × Fin 1000) × jm),∃ l',lG k (.agg (jm.cells t).toArray) (sM l)=sM l'∧∀ p∈l',p∈l∨p=(k,t)
 | []=>⟨[(k,t)],rfl,fun p hp=>.inr (an.1 hp)⟩
 | y::l=>by
  show ∃ l',lG k _ ((y.1,Value.agg (jm.cells y.2).toArray)::sM l)=_∧_
  unfold lG
  by_cases h:y.1=k
  ·rw [aI h]
   exact ⟨(k,t)::l,rfl,fun p hp=>by
    rcases aQ.1 hp with hp|hp
    ·exact .inr hp
    ·exact .inl (aT _ hp)⟩
  ·rw [aB h];obtain ⟨l',h1,h2⟩:=Dh k t l
   exact ⟨y::l',by rw [h1];rfl,fun p hp=>by
    rcases aQ.1 hp with hp|hp
    ·exact .inl (by rw [hp];exact List.mem_cons_self ..)
    ·exact (h2 p hp).imp (aT _) id⟩
theorem ee.ok.put {a:ee} {M:cJ} {w:Nat} {c:dh} {m:Nat} {s:da} (h:a.ok M w c m s) (kc:List ((Fin 1000 × Fin 1000) × jm)) (hk:∀ p∈kc,jm.ok [M] p.2):ee.ok { a with kc:=kc } M w c m s:={ h with kc:=hk,all:=⟨h.all.all⟩ }
theorem Di {A B C:cJ}:cz [dI [A,B,C]] [A]:=cj (cT (M:=[_,_,_]) (L:=[])) (bh bF)
theorem NH {A B C:cJ}:cz [dI [A,B,C]] [B]:=cj (cT (M:=[_,_,_]) (L:=[])) (cz.drop (bh bF))
theorem NI {A B C:cJ}:cz [dI [A,B,C]] [C]:=cj (cT (M:=[_,_,_]) (L:=[])) (cz.drop (cz.drop (bh bF)))
theorem sN (g k:Nat) (l:List gU) (eh:List fW) (x:fW) (m:gU) (hl:l.map gU.d=eh.map (fW.d k)) (hd:m.d=x.d k) (hr:db (Net g 32 l::R) m.v m.b) (hb:m.b.length≤140737488351232) (hn:eh.length≤32) :
 Ct prog 176 #[pt g,.agg m.cells.toArray] e (Net g 32 l::R) (fun v' L'=>v'=.bool (decide (eh.length<32))∧∃ l':List gU,l'.map gU.d=(if eh.length<32 then eh++[x] else eh).map (fW.d k)∧L'=Net g 32 l'::R):=by
 have DZ:l.length=eh.length:=by have:=congrArg List.length hl;simpa using this
 refine (sL R e g 32 l m hr hb zo zo).mono fun v' L' h=>?_
 rcases h with ⟨h1,rfl,v2,rfl⟩|⟨h1,rfl,rfl⟩
 ·refine ⟨by rw [ay zo],_,?_,rfl⟩;rw [aI zo,ah,ah,hl,List.map_cons,List.map_cons,← hd]
  rfl
 ·refine ⟨by rw [aq zo],_,?_,rfl⟩;rw [aB zo];exact hl
theorem FD (w:Nat) (c:dh) (m:Nat) (s:da) (ev:List (Int × Int × Int × du)) (v:Value) (j n k:Nat) (x:jV) (path:List du) (hv:db R v (qJ x n k path)) (hx:fW.ok c s.ls.cF (.ask j x n k path)) (hm:m<250) :
 Ct prog 178 #[pt w,.int .i64 ((j+1:Nat):Int),v] e (dM w c m s ev::R) (fun v' L'=>v'=.int .i64 (s.xr j x.dc n)∧∃ jQ,rF jQ (s.asked j x.dc n)∧L'=dM w c (m+1) (s.asked j x.dc n) (ev++jQ)::R):=by
 obtain ⟨h0,hj,z8,hk,Ov,Q7⟩:=hx;subst hk;refine gZ fun a M ha he=>?_
 have eK:=ha.st;have Q5:=ha.ec;have Gd:=eK.xE.k;have ln:=eK.short;have m9:=da.FB eK hm hj z8 h0 (n:=n);have vL:=qL (l:=s.ls.cF.take x.dc.size) (n:=n) (by rw [aF];omega);rw [← Q7] at vL
 have Wq:=z8.1.1.1;obtain ⟨kf,Su⟩:∃ kf:Fin 1000 × Fin 1000,kf=(⟨x.dc.size,by omega⟩,⟨j,by omega⟩):=⟨_,rfl⟩
 have Ul:ig kf=.agg #[.int .i64 (x.dc.size:Int),.int .i64 (j:Int)]:=by rw [Su];rfl
 obtain ⟨t0,O3,Ok,ht2⟩:=FC kf a.kc
 have hg0:(gJ kf (sM a.kc)).isSome=true→jm.ok [M] t0:=fun q=>by
  obtain ⟨p,hp,rfl⟩:=Ok q;exact ha.kc p hp
 refine a7 (p:=∀ y∈jm.cells t0,y.oneCell'=true) (fun hh hs=>?_) fun mV=>?_
 ·cases hq:(gJ kf (sM a.kc)).isSome with
  | true =>
   have:=jm.jX (L:=dP w c s a M R) (ts:=[t0]) (fun t ht=>by rw [an.1 ht];exact (hg0 hq).cL (cG (show cR (dP w c s a M R) M _ from zP))) hh hs
   simpa using this
  | false =>
   rw [ht2 hq]
   exact fun y hy=>by
    simp only [jm.cells,iA,aQ,aP,or_false] at hy
    rcases hy with rfl|rfl|rfl|rfl<;>rfl
 obtain ⟨k1,k2,k3,k4,k5⟩:=eK.fY hj;obtain ⟨w1,w2,w3,w4,w5⟩:=Jh eK hj (n:=n) z8;obtain ⟨vl,vu,vs,Wr,Lc,-⟩:=ha.all.all;have Ws:j<a.wx.length:=by omega
 have hjw:j<s.ws.length:=by rw [eK.wl];exact hj
 have SS:a.wx[j]?=some (a.wx[j]'Ws):=ab Ws
 generalize a.wx[j]'Ws=wx at SS
 refine a7 ((bb (show cR (dP w c s a M R) (dE pY 1 a.lY a.wx.length (a.wx.map jJ)) _ from zP)).shape zo) ?_;rintro ⟨⟨HN,cw,BX,wH,IX,Ap,uW⟩,_⟩;rcases uW with uW|⟨gq,oq,abB⟩
 ·omega
 subst abB
 have QD:∀ (L R':List cJ),cR L (dE pY 1 a.lY a.wx.length (a.wx.map jJ)) R'→Rd L ⟨gq,oq+j,none⟩ (pt wx.g):=fun L R' pl=>by
  rw [BX] at pl
  exact (bb pl).elem (by rw [aL,SS];rfl)
 refine a8 (args:=[_,_,_]) func178 rfl ntmps178 results178 rfl ?_;refine wB ?_;refine aZ rfl rfl (zD _ e v x n x.dc.size path (hv.cL zE) z8.1.1 z8.2.1 zo zo vL.1 vL.2) ?_;rintro _ _ ⟨N,ur,up,uq,ad,kk,ts,rfl,fy,hN,tH,RV,rfl⟩;refine bm (cn (hN.root.cL (cG zP))) fun o3=>?_
 refine bm (hN.sig.cL (cG zP)).parts.one fun o4=>?_
 refine bm (hN.sig.cL (cG zP)).path.one fun o5=>?_
 (repeat (refine wA ?_;intros))
 rename_i g7 g8;rw [BX,show (((j+1:Nat):Int) - 1)=(j:Int) by omega]
 (repeat (refine wA ?_;intros))
 refine bV rfl (QD _ _ zP) rfl ?_;refine wB ?_;refine O.fo (cj (bw (show cR _ (dI (ke 0 a.wx s.ws)) _ from zP) aX) (FA SS k5)) ?_;have Oq:=fun L hxL Sk htL=>CM L e wx.g wx.d wx.k j (cQ (j+1)) dO (s.fY j) ur up uq (.slice ad ts.length kk) x n x.dc.size ts hxL z8.1.1 z8.2.1.fits zo zo zo Sk htL zo
 obtain ⟨q1,q2⟩:=ND (j:=j) (ts:=ts) z8 k3 zo Ov (by rw [fy];exact Q7);rw [q1,q2] at Oq
 refine aZ rfl rfl (Oq _ (hN.cL (cG zP)) (tH.cL (cG zP)) (fun y hy=>(RV y hy).cL (cG zP))) ?_;rintro v0 _ ⟨hy,lT⟩
 by_cases hE:s.xr j x.dc n=0
 ·obtain ⟨N2,wp,wq,rfl,nr,rfl⟩:=hy hE;clear hy lT Oq;refine bm (nr.cL (cG zP)).parts.one fun o6=>?_
  refine bm (nr.cL (cG zP)).path.one fun o7=>?_
  have hb:=ha.st;obtain ⟨s1,fR⟩:∃ s1:da,s1={ s with ws:=s.ws.set j (s.ja j x.dc n) }:=⟨_,rfl⟩
  have SU:s.asked j x.dc n=s1.send (.iQ j (s.ja j x.dc n).dC):=by unfold da.asked da.PH;rw [aI hE,fR]
  have hyw:=w4 (w5 hE);rw [SU] at m9 ⊢
  rw [hE]
  have VR:cz (vT j wx (s.ja j x.dc n)::dI (oC 0 j a.wx s.ws)::cK w (a.cells c s) di (0,0)::js a.ve a.es::iC fH a.mr a.kr::iC fH a.ml a.kl::iC ig a.mc (sM a.kc)::M::eg a.gf a.xq a.gl c.f s.fs::cU a.gl a.ld a.lk (cQ 0) s.ls::dE pY 1 a.lY a.wx.length (a.wx.map jJ)::lh a.mE (cZ c) c.retry s.n s.fd::kh a.gu a.ud iT (cZ c) s.up::jO a.gm dO s.mo::Net a.gn 32 a.nl::R) (dP w c s1 a M R):=by
   have:=Dg (R:=cK w (a.cells c s) di (0,0)::js a.ve a.es::iC fH a.mr a.kr::iC fH a.ml a.kl::iC ig a.mc (sM a.kc)::M::eg a.gf a.xq a.gl c.f s.fs::cU a.gl a.ld a.lk (cQ 0) s.ls::dE pY 1 a.lY a.wx.length (a.wx.map jJ)::lh a.mE (cZ c) c.retry s.n s.fd::kh a.gu a.ud iT (cZ c) s.up::jO a.gm dO s.mo::Net a.gn 32 a.nl::R) (x:=wx) (s:=s.ja j x.dc n) Ws hjw;rw [uJ _ _ _ SS] at this
   rw [fR];exact cj this zE
  generalize hg:(s.ja j x.dc n).dC=g at *
  (repeat (refine wA ?_;intros))
  rename_i DK;refine O.fo (show cz _ (cK DK (iA g wp wq) nG (0,0)::N2::cK g7 (dS x ur up uq) rE (0,0)::N::dP w c s1 a M R) from ?_) ?_
  ·exact cj (show cz _ (cK DK (iA g wp wq) nG (0,0)::N2::cK g7 (dS x ur up uq) rE (0,0)::N::vT j wx (s.ja j x.dc n)::dI (oC 0 j a.wx s.ws)::cK w (a.cells c s) di (0,0)::js a.ve a.es::iC fH a.mr a.kr::iC fH a.ml a.kl::iC ig a.mc (sM a.kc)::M::eg a.gf a.xq a.gl c.f s.fs::cU a.gl a.ld a.lk (cQ 0) s.ls::dE pY 1 a.lY a.wx.length (a.wx.map jJ)::lh a.mE (cZ c) c.retry s.n s.fd::kh a.gu a.ud iT (cZ c) s.up::jO a.gm dO s.mo::Net a.gn 32 a.nl::R) from zE) (bh (bh (bh (bh VR))))
  refine aZ rfl rfl (jh _ e) ?_;rintro _ _ ⟨gw,rfl,rfl⟩;refine wB ?_;refine aZ rfl rfl (mz _ e gw [] 1 (by simp)) ?_;rintro _ _ ⟨rfl,rfl⟩;rw [show []++[(1:UInt8)]=[1] from rfl];refine wB ?_;refine aZ rfl rfl (Bn _ e gw [1] wp wq g (nr.cL (cG zP)) zo hyw.2 (by simp)) ?_;rintro _ _ ⟨rfl,rfl⟩;have nK:([1]++eU g:du).length=2182:=by rw [aa,lq hyw.2];rfl
  rw [show ([1]++eU g:du)=1::eU g from rfl] at nK ⊢
  have AX:a.nl.map gU.d=s1.eh.map (fW.d c.k):=by rw [fR];exact ha.eh
  have OV:s1.eh.length≤32:=by rw [fR];exact eK.room
  have hsn:s1.send (.iQ j g)={ s1 with eh:=if s1.eh.length<32 then s1.eh++[.iQ j g] else s1.eh }:=rfl;refine wB ?_;refine bk (id:=12) [] (cK w (a.cells c s1) di (0,0)::R) mixed ?_
  (refine tM 0 ?_;refine tN 1 ?_;refine tF 2 ?_;refine tL 3 ?_;refine tM 4 ?_;refine tM 5 ?_)
  refine tO 6 ?_;refine bg rfl rfl (hJ _ e gw (1::eU g) zo) ?_;rintro _ _ ⟨eJ,k3,rfl,rfl⟩;refine ⟨fun _=>zE,?_⟩;refine tk 7 _ rfl (bL rfl zF) ?_;refine tO 8 ?_;refine bg rfl rfl (Ct.at zP (sN _ e a.gn c.k a.nl s1.eh (.iQ j g) ⟨2,((j+1:Nat):Int),0,.slice eJ (1::eU g:du).length k3,1::eU g⟩ AX rfl (bb (show cR _ (cS (.slice eJ (1::eU g:du).length k3) (1::eU g)) _ from zP)) zd OV)) ?_;rintro _ _ ⟨rfl,Jj,NJ,rfl⟩;refine ⟨fun _=>zE,?_⟩;refine bf zK ?_;have SV:s1.signed=s.signed:=by rw [fR]
  have er:ee.ok { a with nl:=Jj } M w c (m+1) (s1.send (.iQ j g)) :=
   {ha with eh:=NJ,st:=m9,ec:=by show a.es.length≤_;omega,all:=⟨ha.all.all⟩,root:=by show db [M] a.vr (da.sv (s1.send (.iQ j g))).root;rw [show da.sv (s1.send (.iQ j g))=s.sv by unfold da.sv;rw [← SV];rfl];exact ha.root }
  (repeat' first|refine W.u2 (id:=15) (fun q:(Nat × Nat) × Bool=>[(0,pt w),(1,.int .i64 ((j+1:Nat):Int)),(7,pt g7),(11,pt DK),(12,.int .i64 0),(14,pt q.1.1),(15,pt q.1.2),(16,.bool q.2)]) (fun q=>cK q.1.2 (jm.cells t0) nG (0,0)::cK q.1.1 [.int .i64 (x.dc.size:Int),.int .i64 (j:Int)] m1 (0,0)::cK DK (iA g wp wq) nG (0,0)::N2::cK g7 (dS x ur up uq) rE (0,0)::N::dP w c (s1.send (.iQ j g)) { a with nl:=Jj } M R) (fun q=>q.2=(gJ kf (sM a.kc)).isSome) ?_ ?_|refine Za ?_|apply Zc|apply Zd|apply Ze|apply Zf|refine Zh ?_|refine Zi ?_|refine ZU ?_|refine Ye ?_|refine Yh fun _=>?_|refine YR ?_|fail)
  rotate_left
  ·refine ⟨?_⟩;rename_i Ay;refine W.fe [(0,pt w),(1,.int .i64 ((j+1:Nat):Int)),(7,pt g7),(11,pt DK),(12,.int .i64 0),(14,pt Ay)] zS ?_;refine bk (id:=14) [11] (cK Ay [.int .i64 (x.dc.size:Int),.int .i64 (j:Int)] m1 (0,0)::cK w (a.cells c s1) di (0,0)::R) mixed ?_
   (refine tM 0 ?_;refine tN 1 ?_;refine tF 2 ?_;refine tL 3 ?_;refine tJ 4 ?_)
   refine A.two 5 9 rfl rfl rfl rfl zK ?_ ?_
   ·refine bN (cD.kE (key:=ig) (k:=kf) rfl (by rw [Ul];rfl) zP) rfl ⟨fun _=>zE,?_⟩;rw [O3]
    (refine tM 6 ?_;refine tk 7 _ rfl (bl rfl rfl) ?_;refine tk 8 _ rfl (bl rfl rfl) ?_)
    refine tO 9 ?_;refine bQ (cs:=[.int .i64 0,.int .i64 0,nY,nY]) rfl rfl fun Um=>⟨fun _=>zE,?_⟩
    refine tO 10 ?_;apply Do.ek;exact rfl;exact rfl;exact rfl;exact mV;exact zU;exact zW;refine ⟨fun _=>zE,?_⟩
    ((refine tO 11 ?_;refine dV (bj rfl) ?_))
    refine bf zK ?_;exact bJ ((Ay,Um),(gJ kf (sM a.kc)).isSome) rfl zS zE
   ·refine bQ (cs:=[.int .i64 0,.int .i64 0,nY,nY]) rfl rfl fun Um=>⟨fun _=>zE,?_⟩
    refine tO 5 ?_;refine bN (cD.kE (key:=ig) (k:=kf) rfl (by rw [Ul];rfl) zP) rfl ⟨fun _=>zE,?_⟩;rw [O3]
    (refine tM 6 ?_;refine tk 7 _ rfl (bl rfl rfl) ?_;refine tk 8 _ rfl (bl rfl rfl) ?_)
    refine tO 10 ?_;apply Do.ek;exact rfl;exact rfl;exact rfl;exact mV;exact zU;exact zW;refine ⟨fun _=>zE,?_⟩
    ((refine tO 11 ?_;refine dV (bj rfl) ?_))
    refine bf zK ?_;exact bJ ((Ay,Um),(gJ kf (sM a.kc)).isSome) rfl zS zE
  rintro ⟨⟨Ay,Um⟩,told⟩ Q8;dsimp only at Q8 ⊢
  obtain ⟨b,hb⟩:∃ b:ee,b={ a with nl:=Jj }:=⟨_,rfl⟩
  rw [← hb] at er ⊢
  obtain ⟨s2,m4⟩:∃ s2:da,s2=s1.send (.iQ j g):=⟨_,rfl⟩
  rw [← m4] at er ⊢
  have hbc:b.kc=a.kc:=by rw [hb]
  have GR:b.es=a.es:=by rw [hb]
  have PK:s2.fs.recs≠[]:=by rw [m4,fR];exact eK.some h0
  have F8:b.es.length≤600*m:=by rw [GR];exact Q5
  cases told with
  | false =>
   refine wB ?_;refine W.fe [(0,pt w),(1,.int .i64 ((j+1:Nat):Int)),(7,pt g7),(11,pt DK),(12,.int .i64 0),(14,pt Ay)] zS ?_;refine bk (id:=16) [6] (cK Ay [.int .i64 (x.dc.size:Int),.int .i64 (j:Int)] m1 (0,0)::cK DK (iA g wp wq) nG (0,0)::dP w c s2 b M R) mixed ?_
   (refine tM 0 ?_;refine tN 1 ?_;refine tF 2 ?_;refine tL 3 ?_;refine tJ 4 ?_;refine tJ 5 ?_)
   refine tO 6 ?_;refine Do.jW (key:=ig) (k:=kf) rfl (by rw [Ul];rfl) rfl zP ⟨zN,?_⟩;refine bf zK ?_;obtain ⟨SW,Oj,Qv⟩:=Dh kf (g,wp,wq) b.kc;rw [show lG kf (Value.agg (iA g wp wq).toArray) (sM b.kc)=sM SW from Oj];refine wB ?_;rw [show (((j+1:Nat):Int) - 1)=(j:Int) by omega];refine aZ rfl rfl (Ct.AR zP zP (ir _ e w c s2 { b with kc:=SW } 4 (x.dc.size:Int) (j:Int) ur x.dc.root o3 zd)) ?_;rintro _ _ ⟨rfl,ve,rfl⟩
   have nI:=(((er.more (Di (A:=M) (B:=N) (C:=N2))).put SW (fun p hp=>by
    rcases Qv p hp with hp|rfl
    ·exact ((er.kc p hp).cL Di)
    ·exact ⟨nr.cL NI,by show g.fY<_;omega⟩)).seen (x:=⟨4,(x.dc.size:Int),(j:Int),ur,x.dc.root⟩) ve (hN.root.cL NH) zd (by show x.dc.root.length≤1000;have:=z8.1.1.2;omega))
   refine wB ?_;refine aY (dM w c (m+1) s2 (ev++[(4,(x.dc.size:Int),(j:Int),x.dc.root)])::R) rfl (cj ?_ (dT nI (by dsimp only;rw [ah,GR,he];rfl))) ⟨rfl,_,?_,rfl⟩
   ·exact cj (rb (A:=M) (B:=N) (C:=N2) zP zP zP) zE
   ·intro y hy;rw [an.1 hy];exact ⟨(by decide:(4:Int)≠3),.inr PK⟩
  | true =>
   have J9:=hg0 Q8.symm;obtain ⟨⟨w0,sg0⟩,tp,tq⟩:=t0;obtain ⟨t1,t2⟩:=J9;dsimp only at t1 t2
   have hfq:∀ {L R':List cJ},cR L M R'→fL L tp tq sg0:=fun pl=>t1.cL (cG pl)
   dsimp only [jm.cells];refine wB ?_;refine aZ rfl rfl (G4 _ e tp tq wp wq ⟨w0,sg0⟩ g (hfq (show cR _ M _ from zP)) (nr.cL (cG (show cR _ N2 _ from zP)))) ?_;rintro _ _ ⟨rfl,rfl⟩
   by_cases Q9:(⟨w0,sg0⟩:kO)=g
   ·rw [ay Q9];refine wB ?_;refine aY (dM w c (m+1) s2 ev::R) rfl (cj (show cz _ (dP w c s2 b M R) from zE) (dT er (by rw [GR];exact he))) ⟨rfl,[],rF.nil,by rw [aK]⟩
   ·rw [aq Q9];refine wB ?_;refine W.fe [(0,pt w),(1,.int .i64 ((j+1:Nat):Int)),(7,pt g7),(11,pt DK),(12,.int .i64 0),(14,pt Ay)] zS ?_;refine bk (id:=16) [6] (cK Ay [.int .i64 (x.dc.size:Int),.int .i64 (j:Int)] m1 (0,0)::cK DK (iA g wp wq) nG (0,0)::dP w c s2 b M R) mixed ?_
    (refine tM 0 ?_;refine tN 1 ?_;refine tF 2 ?_;refine tL 3 ?_;refine tJ 4 ?_;refine tJ 5 ?_)
    refine tO 6 ?_;refine Do.jW (key:=ig) (k:=kf) rfl (by rw [Ul];rfl) rfl zP ⟨zN,?_⟩;refine bf zK ?_;obtain ⟨SW,Oj,Qv⟩:=Dh kf (g,wp,wq) b.kc;rw [show lG kf (Value.agg (iA g wp wq).toArray) (sM b.kc)=sM SW from Oj];refine wB ?_;rw [show (((j+1:Nat):Int) - 1)=(j:Int) by omega];refine aZ rfl rfl (Ct.AR zP zP (ir _ e w c s2 { b with kc:=SW } 4 (x.dc.size:Int) (j:Int) ur x.dc.root o3 zd)) ?_;rintro _ _ ⟨rfl,ve,rfl⟩
    have nI:=(((er.more (Di (A:=M) (B:=N) (C:=N2))).put SW (fun p hp=>by
     rcases Qv p hp with hp|rfl
     ·exact ((er.kc p hp).cL Di)
     ·exact ⟨nr.cL NI,by show g.fY<_;omega⟩)).seen (x:=⟨4,(x.dc.size:Int),(j:Int),ur,x.dc.root⟩) ve (hN.root.cL NH) zd (by show x.dc.root.length≤1000;have:=z8.1.1.2;omega))
    refine wB ?_;refine aY (dM w c (m+1) s2 (ev++[(4,(x.dc.size:Int),(j:Int),x.dc.root)])::R) rfl (cj ?_ (dT nI (by dsimp only;rw [ah,GR,he];rfl))) ⟨rfl,_,?_,rfl⟩
    ·exact cj (rb (A:=M) (B:=N) (C:=N2) zP zP zP) zE
    ·intro y hy;rw [an.1 hy];exact ⟨(by decide:(4:Int)≠3),.inr PK⟩
 ·obtain ⟨rfl,rfl⟩:=lT hE;clear hy lT Oq;obtain ⟨s1,fR⟩:∃ s1:da,s1={ s with ws:=s.ws.set j (s.ja j x.dc n) }:=⟨_,rfl⟩
  have SU:s.asked j x.dc n=s1.send (.no j (s.ja j x.dc n).c.size):=by unfold da.asked da.PH;rw [aB hE,fR]
  rw [SU] at m9 ⊢
  have VR:cz (vT j wx (s.ja j x.dc n)::dI (oC 0 j a.wx s.ws)::cK w (a.cells c s) di (0,0)::js a.ve a.es::iC fH a.mr a.kr::iC fH a.ml a.kl::iC ig a.mc (sM a.kc)::M::eg a.gf a.xq a.gl c.f s.fs::cU a.gl a.ld a.lk (cQ 0) s.ls::dE pY 1 a.lY a.wx.length (a.wx.map jJ)::lh a.mE (cZ c) c.retry s.n s.fd::kh a.gu a.ud iT (cZ c) s.up::jO a.gm dO s.mo::Net a.gn 32 a.nl::R) (dP w c s1 a M R):=by
   have:=Dg (R:=cK w (a.cells c s) di (0,0)::js a.ve a.es::iC fH a.mr a.kr::iC fH a.ml a.kl::iC ig a.mc (sM a.kc)::M::eg a.gf a.xq a.gl c.f s.fs::cU a.gl a.ld a.lk (cQ 0) s.ls::dE pY 1 a.lY a.wx.length (a.wx.map jJ)::lh a.mE (cZ c) c.retry s.n s.fd::kh a.gu a.ud iT (cZ c) s.up::jO a.gm dO s.mo::Net a.gn 32 a.nl::R) (x:=wx) (s:=s.ja j x.dc n) Ws hjw;rw [uJ _ _ _ SS] at this
   rw [fR];exact cj this zE
  generalize hEE:s.xr j x.dc n=E at *
  have LF:(s.ja j x.dc n).c.size≤256:=(eP.uz w1).1
  (repeat (refine wA ?_;intros))
  rename_i DK;refine aZ rfl rfl (jh _ e) ?_;rintro _ _ ⟨gw,rfl,rfl⟩;refine wB ?_;refine aZ rfl rfl (mz _ e gw [] 0 (by simp)) ?_;rintro _ _ ⟨rfl,rfl⟩;rw [show []++[(0:UInt8)]=[0] from rfl];refine wB ?_;refine aZ rfl rfl (Ct.at zP (E3 _ e wx.g wx.d wx.k j (cQ (j+1)) dO (s.ja j x.dc n))) ?_;rintro _ _ ⟨ux,kr,rfl,rfl⟩;have abD:∀ w',(Instr.field tCh (.agg #[.int .i64 ((s.ja j x.dc n).c.size:Int),.slice ux (s.ja j x.dc n).c.root.length kr]) 0).run prog w'=.ok (.int .i64 ((s.ja j x.dc n).c.size:Int)) w':=fun w'=>by kernel_rfl
  (repeat' first|(refine bx _ (cD.SN abD rfl) rfl ?_)|refine ZY ?_|fail)
  refine aZ rfl rfl (Ct.at zP (gD _ e gw [0] (s.ja j x.dc n).c.size zo (by simp))) ?_;rintro _ _ ⟨rfl,rfl⟩;rw [show ([0]++be (s.ja j x.dc n).c.size 4:du)=0::be (s.ja j x.dc n).c.size 4 from rfl];have nK:(0::be (s.ja j x.dc n).c.size 4:du).length=5:=by rw [aN,cX]
  refine O.fo (show cz _ (Writer gw (0::be (s.ja j x.dc n).c.size 4)::cK DK (iA gY nY nY) nG (0,0)::cK g7 (dS x ur up uq) rE (0,0)::N::dP w c s1 a M R) from ?_) ?_
  ·exact cj (show cz _ (Writer gw (0::be (s.ja j x.dc n).c.size 4)::cK DK (iA gY nY nY) nG (0,0)::cK g7 (dS x ur up uq) rE (0,0)::N::vT j wx (s.ja j x.dc n)::dI (oC 0 j a.wx s.ws)::cK w (a.cells c s) di (0,0)::js a.ve a.es::iC fH a.mr a.kr::iC fH a.ml a.kl::iC ig a.mc (sM a.kc)::M::eg a.gf a.xq a.gl c.f s.fs::cU a.gl a.ld a.lk (cQ 0) s.ls::dE pY 1 a.lY a.wx.length (a.wx.map jJ)::lh a.mE (cZ c) c.retry s.n s.fd::kh a.gu a.ud iT (cZ c) s.up::jO a.gm dO s.mo::Net a.gn 32 a.nl::R) from zE) (bh (bh (bh (bh VR))))
  generalize afL:(s.ja j x.dc n).c.size=z at *
  have AX:a.nl.map gU.d=s1.eh.map (fW.d c.k):=by rw [fR];exact ha.eh
  have OV:s1.eh.length≤32:=by rw [fR];exact eK.room
  refine wB ?_;refine bk (id:=12) [] (cK w (a.cells c s1) di (0,0)::R) mixed ?_
  (refine tM 0 ?_;refine tN 1 ?_;refine tF 2 ?_;refine tL 3 ?_;refine tM 4 ?_;refine tM 5 ?_)
  refine tO 6 ?_;refine bg rfl rfl (hJ _ e gw (0::be z 4) zo) ?_;rintro _ _ ⟨eJ,k3,rfl,rfl⟩;refine ⟨fun _=>zE,?_⟩;refine tk 7 _ rfl (bL rfl zF) ?_;refine tO 8 ?_;refine bg rfl rfl (Ct.at zP (sN _ e a.gn c.k a.nl s1.eh (.no j z) ⟨2,((j+1:Nat):Int),0,.slice eJ (0::be z 4:du).length k3,0::be z 4⟩ AX rfl (bb (show cR _ (cS (.slice eJ (0::be z 4:du).length k3) (0::be z 4)) _ from zP)) zd OV)) ?_;rintro _ _ ⟨rfl,Jj,NJ,rfl⟩;refine ⟨fun _=>zE,?_⟩;refine bf zK ?_;have SV:s1.signed=s.signed:=by rw [fR]
  have er:ee.ok { a with nl:=Jj } M w c (m+1) (s1.send (.no j z)) :=
   {ha with eh:=NJ,st:=m9,ec:=by show a.es.length≤_;omega,all:=⟨ha.all.all⟩,root:=by show db [M] a.vr (da.sv (s1.send (.no j z))).root;rw [show da.sv (s1.send (.no j z))=s.sv by unfold da.sv;rw [← SV];rfl];exact ha.root }
  have afM:∀ R':List cJ,Net a.gn 32 Jj::dP w c s1 { a with nl:=Jj } M R'=Net a.gn 32 Jj::dP w c (s1.send (.no j z)) { a with nl:=Jj } M R':=fun _=>rfl
  obtain ⟨b,hb⟩:∃ b:ee,b={ a with nl:=Jj }:=⟨_,rfl⟩
  obtain ⟨s2,m4⟩:∃ s2:da,s2=s1.send (.no j z):=⟨_,rfl⟩
  have GR:b.es=a.es:=by rw [hb]
  have hbc:b.kc=a.kc:=by rw [hb]
  (repeat (refine wA ?_;intros))
  rename_i Ay;refine W.fo (show cz _ (cK Ay [.int .i64 (x.dc.size:Int),.int .i64 (j:Int)] m1 (0,0)::dP w c s2 b M R) from ?_) ?_
  ·rw [m4,hb];exact zE
  rw [← hb,← m4] at er
  rw [← m4];rw [← hbc] at O3
  refine W.fe [(0,pt w),(1,.int .i64 ((j+1:Nat):Int)),(7,pt g7),(11,pt DK),(12,.int .i64 E),(14,pt Ay)] zS ?_;refine bk (id:=14) [11] (cK Ay [.int .i64 (x.dc.size:Int),.int .i64 (j:Int)] m1 (0,0)::cK w (b.cells c s2) di (0,0)::R) mixed ?_
  (refine tM 0 ?_;refine tN 1 ?_;refine tF 2 ?_;refine tL 3 ?_;refine tJ 4 ?_)
  refine A.two 5 9 rfl rfl rfl rfl zK ?_ ?_
  ·refine bN (cD.kE (key:=ig) (k:=kf) rfl (by rw [Ul];rfl) zP) rfl ⟨fun _=>zE,?_⟩;rw [O3]
   (refine tM 6 ?_;refine tk 7 _ rfl (bl rfl rfl) ?_;refine tk 8 _ rfl (bl rfl rfl) ?_)
   refine tO 9 ?_;refine bQ (cs:=[.int .i64 0,.int .i64 0,nY,nY]) rfl rfl fun Um=>⟨fun _=>zE,?_⟩
   refine tO 10 ?_;apply Do.ek;exact rfl;exact rfl;exact rfl;exact mV;exact zU;exact zW;refine ⟨fun _=>zE,?_⟩
   ((refine tO 11 ?_;refine dV (bj rfl) ?_))
   refine bf zK ?_;refine wB ?_;refine aY (dM w c (m+1) s2 ev::R) rfl (cj (show cz _ (dP w c s2 b M R) from zE) (dT er (by rw [GR];exact he))) ⟨rfl,[],rF.nil,by rw [aK]⟩
  ·refine bQ (cs:=[.int .i64 0,.int .i64 0,nY,nY]) rfl rfl fun Um=>⟨fun _=>zE,?_⟩
   refine tO 5 ?_;refine bN (cD.kE (key:=ig) (k:=kf) rfl (by rw [Ul];rfl) zP) rfl ⟨fun _=>zE,?_⟩;rw [O3]
   (refine tM 6 ?_;refine tk 7 _ rfl (bl rfl rfl) ?_;refine tk 8 _ rfl (bl rfl rfl) ?_)
   refine tO 10 ?_;apply Do.ek;exact rfl;exact rfl;exact rfl;exact mV;exact zU;exact zW;refine ⟨fun _=>zE,?_⟩
   ((refine tO 11 ?_;refine dV (bj rfl) ?_))
   refine bf zK ?_;refine wB ?_;refine aY (dM w c (m+1) s2 ev::R) rfl (cj (show cz _ (dP w c s2 b M R) from zE) (dT er (by rw [GR];exact he))) ⟨rfl,[],rF.nil,by rw [aK]⟩
def iZ {α:Type} (l:List α) (i:Nat):List α:=l.take i++l.drop (i+1)
theorem rk {α β:Type} (f:α→β) (l:List α) (i:Nat):(iZ l i).map f=iZ (l.map f) i:=by
 unfold iZ;rw [ah,List.map_take,List.map_drop]
theorem Ld {α:Type} {l:List α} {i:Nat} {x:α} (h:x∈iZ l i):x∈l:=by
 rcases aJ.1 h with h|h
 ·exact aR h
 ·exact aV h
theorem Le {α:Type} (l:List α) (i:Nat):(iZ l i).length≤l.length:=by
 unfold iZ;rw [aa,aF,aO];omega
end Go.Proofs
namespace Go.Proofs
attribute [local irreducible] Bs.cD Bs.Do Bs.O Bs.W Bs.Fin Bs.A Bs.Ct Bs.cE Bs.Rd Bs.Sat Bs.cK Bs.Ob Bs.dE Bs.View Bs.cz Bs.Ex Bs.dI Bs.Pu Bs.eY Bs.dN Bs.dZ
open Go.Bs
open Tryz
variable (R:List cJ) (e:World)
def da.lost (s:da) (i:Nat):da:={ s with eh:=iZ s.eh i }
theorem da.Dj {c:dh} {m:Nat} {s:da} {i:Nat} (h:s.ok c m):(s.lost i).ok c m :=
 {h with
  eh:=fun x hx=>h.eh x (Ld hx)
  room:=Nat.le_trans (Le _ _) h.room }
theorem Jk {l:List gU} {L R:List cJ} {g n:Nat} (p:cR L (Net g n l) R):∀ h,dN L h→∀ m∈l,m.v.oneCell'=true:=fun h x m hm =>
 cn (db.cL (dQ.dY (.zero:cR (cH (l.map gU.t)::R) (cH (l.map gU.t)) R) m.t (aE.2 ⟨m,hm,rfl⟩)) (cj p.out BR)) h x
theorem ee.ok.PL {a:ee} {M:cJ} {w:Nat} {c:dh} {m m':Nat} {s s':da} (h:a.ok M w c m s) (hs:s'.ok c m') (hm:m≤m') (h1:s'.signed=s.signed) {nl:List gU} (h2:nl.map gU.d=s'.eh.map (fW.d c.k)):ee.ok { a with nl:=nl } M w c m' s' :=
 {h with root:=by unfold da.sv;rw [h1];exact h.root,eh:=h2,st:=hs,ec:=Nat.le_trans h.ec (Nat.mul_le_mul_left _ hm),all:=⟨h.all.all⟩ }
abbrev PM:TypeId:=268
theorem Ib (w:Nat) (c:dh) (m:Nat) (s:da) (ev:List (Int × Int × Int × du)) (k to wh:Int) (n:Nat) (v:Value) (hv:v.oneCell'=true) (hn:n≤1000000) (hm:m<250) :
 Ct prog 88 #[pt w,.agg (oB k n to wh v).toArray] e (dM w c m s ev::R) (fun v' L'=>v'=.tuple #[.int .i64 0,.int .i64 (if n<s.eh.length then 0 else 1)]∧L'=dM w c (m+1) (if n<s.eh.length then s.lost n else s) ev::R):=by
 refine gZ fun a M ha he=>?_
 have eK:=ha.st;have hrm:=eK.room;have DZ:a.nl.length=s.eh.length:=by have:=congrArg List.length ha.eh;simpa using this
 refine a7 (Jk (show cR (dP w c s a M R) (Net a.gn 32 a.nl) _ from zP)) fun lT=>?_
 refine a8 (args:=[_,_]) func88 rfl ntmps88 results88 rfl ?_
 (repeat (refine wA ?_;intros))
 rename_i g3;refine bk (id:=1) [12] (cK g3 (oB k n to wh v) eI (0,0)::cK w (a.cells c s) di (0,0)::R) mixed ?_
 (refine tM 0 ?_;refine tN 1 ?_;refine tF 2 ?_;refine tL 3 ?_;refine tF 4 ?_;refine tL 5 ?_)
 by_cases cO:n<s.eh.length
 ·rw [aI cO,aI cO]
  have er:ee.ok { a with nl:=iZ a.nl n } M w c (m+1) (s.lost n) :=
   ha.PL (da.Dj (eK.next hm)) (Nat.le_succ m) rfl (by show (iZ a.nl n).map gU.d=(iZ s.eh n).map _;rw [rk,rk,ha.eh])
  refine A.two 6 10 rfl rfl rfl rfl zK ?_ ?_
  ·refine bg rfl rfl (Ct.at zP (jr _ e a.gn 32 a.nl (n:Int) zo lT)) ?_;rintro _ _ (⟨k2,xP,Ov,rfl,rfl⟩|⟨Ic,-,-⟩)
   rotate_left
   ·exact absurd ⟨by omega,by omega⟩ Ic
   obtain rfl:n=k2:=by omega
   have mV:=lT _ (aA xP);rw [show a.nl.take n++a.nl.drop (n+1)=iZ a.nl n from rfl]
   generalize a.nl[n]'xP=y at *
   refine ⟨fun _=>zE,?_⟩
   (refine tM 7 ?_;refine tk 8 _ rfl (bl rfl rfl) ?_;refine tk 9 _ rfl (bl rfl rfl) ?_)
   refine tO 10 ?_;refine bQ (cs:=[.int .i64 0,.int .i64 0,.int .i64 0,nY]) rfl rfl fun g6=>⟨fun _=>zE,?_⟩
   refine tO 11 ?_;refine zg ?_;refine ⟨fun _=>zE,?_⟩
   ((refine tO 12 ?_;refine dV (bj rfl) ?_))
   refine bf zK ?_;refine wB ?_;refine aY (dM w c (m+1) (s.lost n) ev::R) rfl (cj (show cz _ (dP w c (s.lost n) { a with nl:=iZ a.nl n } M R) from zE) (dT er he)) ⟨rfl,rfl⟩
  ·refine bQ (cs:=[.int .i64 0,.int .i64 0,.int .i64 0,nY]) rfl rfl fun g6=>⟨fun _=>zE,?_⟩
   refine tO 6 ?_;refine bg rfl rfl (Ct.at zP (jr _ e a.gn 32 a.nl (n:Int) zo lT)) ?_;rintro _ _ (⟨k2,xP,Ov,rfl,rfl⟩|⟨Ic,-,-⟩)
   rotate_left
   ·exact absurd ⟨by omega,by omega⟩ Ic
   obtain rfl:n=k2:=by omega
   have mV:=lT _ (aA xP);rw [show a.nl.take n++a.nl.drop (n+1)=iZ a.nl n from rfl]
   generalize a.nl[n]'xP=y at *
   refine ⟨fun _=>zE,?_⟩
   (refine tM 7 ?_;refine tk 8 _ rfl (bl rfl rfl) ?_;refine tk 9 _ rfl (bl rfl rfl) ?_)
   refine tO 11 ?_;refine zg ?_;refine ⟨fun _=>zE,?_⟩
   ((refine tO 12 ?_;refine dV (bj rfl) ?_))
   refine bf zK ?_;refine wB ?_;refine aY (dM w c (m+1) (s.lost n) ev::R) rfl (cj (show cz _ (dP w c (s.lost n) { a with nl:=iZ a.nl n } M R) from zE) (dT er he)) ⟨rfl,rfl⟩
 ·rw [aB cO,aB cO];have er:=ha.to (eK.next hm) (Nat.le_succ m) rfl rfl;refine A.two 6 10 rfl rfl rfl rfl zK ?_ ?_
  ·refine bg rfl rfl (Ct.at zP (jr _ e a.gn 32 a.nl (n:Int) zo lT)) ?_;rintro _ _ (⟨k2,xP,Ov,-,-⟩|⟨-,rfl,rfl⟩)
   ·exact absurd xP zo
   refine ⟨fun _=>zE,?_⟩
   (refine tM 7 ?_;refine tk 8 _ rfl (bl rfl rfl) ?_;refine tk 9 _ rfl (bl rfl rfl) ?_)
   refine tO 10 ?_;refine bQ (cs:=[.int .i64 0,.int .i64 0,.int .i64 0,nY]) rfl rfl fun g6=>⟨fun _=>zE,?_⟩
   refine tO 11 ?_;refine zg ?_;refine ⟨fun _=>zE,?_⟩
   ((refine tO 12 ?_;refine dV (bj rfl) ?_))
   refine bf zK ?_;refine wB ?_;refine aY (dM w c (m+1) s ev::R) rfl (cj (show cz _ (dP w c s a M R) from zE) (dT er he)) ⟨rfl,rfl⟩
  ·refine bQ (cs:=[.int .i64 0,.int .i64 0,.int .i64 0,nY]) rfl rfl fun g6=>⟨fun _=>zE,?_⟩
   refine tO 6 ?_;refine bg rfl rfl (Ct.at zP (jr _ e a.gn 32 a.nl (n:Int) zo lT)) ?_;rintro _ _ (⟨k2,xP,Ov,-,-⟩|⟨-,rfl,rfl⟩)
   ·exact absurd xP zo
   refine ⟨fun _=>zE,?_⟩
   (refine tM 7 ?_;refine tk 8 _ rfl (bl rfl rfl) ?_;refine tk 9 _ rfl (bl rfl rfl) ?_)
   refine tO 11 ?_;refine zg ?_;refine ⟨fun _=>zE,?_⟩
   ((refine tO 12 ?_;refine dV (bj rfl) ?_))
   refine bf zK ?_;refine wB ?_;refine aY (dM w c (m+1) s ev::R) rfl (cj (show cz _ (dP w c s a M R) from zE) (dT er he)) ⟨rfl,rfl⟩
def da.FE (s:da) (i:Nat):Int:=if s.eh.length≤i then 1 else if s.eh.length<32 then 0 else 13
def da.LL (s:da) (i:Nat):da:=match s.eh[i]? with
 | none=>s
 | some x=>if s.eh.length<32 then { s with eh:=s.eh++[x] } else s
theorem da.SX {c:dh} {m:Nat} {s:da} {i:Nat} (h:s.ok c m):(s.LL i).ok c m:=by
 unfold da.LL
 split
 ·exact h
 ·rename_i x hx
  split
  ·rename_i hl
   exact { h with
    eh:=fun y hy=>by
     rcases aJ.1 hy with hy|hy
     ·exact h.eh y hy
     ·rw [an.1 hy];exact h.eh x (az hx)
    room:=by show (s.eh++[x]).length≤32;rw [aa];exact hl }
  ·exact h
theorem fW.len {c:dh} {l:List du} {x:fW} (h:x.ok c l) (hl:l.length≤250):(x.d c.k).2.2.2.length≤1000000:=by
 cases x with
 | ask w x n m path =>
  obtain ⟨-,-,h1,rfl,-,rfl⟩:=h;have hg:=qL (l:=l.take x.dc.size) (n:=n) (by rw [aF];omega);have hf:=fa hg.2
  show (qJ _ _ _ _).length≤_
  unfold qJ;simp only [aa,aN,cX,iO h1.1.1 h1.2.1]
  omega
 | iQ w g =>
  show (1::eU g:du).length≤_
  rw [aN,lq h.2.2.2];omega
 | no w n=>show (0::be n 4:du).length≤_;rw [aN,cX];omega
 | off b=>exact pj h.2.1
theorem Dk (w:Nat) (c:dh) (m:Nat) (s:da) (ev:List (Int × Int × Int × du)) (k to wh:Int) (n:Nat) (v:Value) (hv:v.oneCell'=true) (hn:n≤1000000) (hm:m<250) :
 Ct prog 89 #[pt w,.agg (oB k n to wh v).toArray] e (dM w c m s ev::R) (fun v' L'=>v'=.tuple #[.int .i64 0,.int .i64 (s.FE n)]∧L'=dM w c (m+1) (s.LL n) ev::R):=by
 refine gZ fun a M ha he=>?_
 have eK:=ha.st;have hrm:=eK.room;have ln:=eK.short;have DZ:a.nl.length=s.eh.length:=by have:=congrArg List.length ha.eh;simpa using this
 have nK:∀ y∈a.nl,y.b.length≤140737488351232:=fun y hy=>by
  have h1:y.d∈s.eh.map (fW.d c.k):=by rw [← ha.eh];exact aE.2 ⟨y,hy,rfl⟩
  obtain ⟨q,hq,hqd⟩:=aE.1 h1;have:=fW.len (eK.eh q hq) ln;rw [hqd] at this
  exact Nat.le_trans this zo
 refine a8 (args:=[_,_]) func89 rfl ntmps89 results89 rfl ?_
 (repeat (refine wA ?_;intros))
 rename_i g3;refine bk (id:=1) [] (cK g3 (oB k n to wh v) eI (0,0)::cK w (a.cells c s) di (0,0)::R) mixed ?_
 (refine tF 0 ?_;refine tL 1 ?_;refine tk 2 (.bool false) rfl (cD.no (cD.lss rfl rfl) zn) ?_;refine tM 3 ?_;refine dt 4 _ rfl (ba rfl) ?_;refine dt 5 _ rfl (bp rfl zR) ?_;refine dt 6 _ rfl (bu rfl) ?_;refine dt 7 _ rfl (bn rfl) ?_;refine dt 8 _ rfl (ba rfl) ?_;refine dt 9 _ rfl (bp rfl zR) ?_)
 refine A.rv 10 rfl rfl zK ?_;refine bg rfl rfl (Ct.at zP (K2 _ e a.gn 32 a.nl)) ?_;rintro _ _ ⟨rfl,rfl⟩;refine ⟨fun _=>zE,?_⟩
 by_cases cO:n<a.nl.length
 rotate_left
 ·have hE:s.FE n=1:=by unfold da.FE;rw [aI zo]
  have hS:s.LL n=s:=by unfold da.LL;rw [List.getElem?_eq_none zo]
  have er:=ha.to (eK.next hm) (Nat.le_succ m) rfl rfl;rw [hE,hS]
  (refine dt 11 (.bool true) rfl (cD.iQ (bR rfl rfl) zy) ?_;refine tk 12 _ rfl (bI rfl rfl) ?_;refine tA 13 ?_)
  refine bf zK ?_;refine wB ?_;refine aY (dM w c (m+1) s ev::R) rfl (cj (show cz _ (dP w c s a M R) from zE) (dT er he)) ⟨rfl,rfl⟩
 (refine dt 11 (.bool false) rfl (cD.no (bR rfl rfl) zn) ?_;refine tk 12 _ rfl (bI rfl rfl) ?_;refine tA 13 ?_)
 refine bf zK ?_;refine wB ?_;refine bk (id:=3) [] (cK g3 (oB k n to wh v) eI (0,0)::cK w (a.cells c s) di (0,0)::R) mixed ?_
 (refine tM 0 ?_;refine tN 1 ?_;refine tF 2 ?_;refine tL 3 ?_;refine tF 4 ?_;refine tL 5 ?_)
 refine tO 6 ?_;have hg:s.eh[n]?=some (s.eh[n]'zo):=ab _;refine bg rfl rfl (Ct.at zP (Dd _ e a.gn 32 a.nl (n:Int) zo zo nK)) ?_
 have GG:(a.nl[n]'cO).d=(s.eh[n]'zo).d c.k:=by
  have:=congrArg (fun l=>l[n]?) ha.eh;simp only [aL,ab cO,hg,Option.map_some,Option.some.injEq] at this
  exact this
 rintro _ _ (⟨k2,xP,v2,Ov,hr,rfl,rfl⟩|⟨lT,rfl,rfl⟩)
 ·obtain rfl:n=k2:=by omega
  have hE:s.FE n=0:=by unfold da.FE;rw [aB zo,aI zo]
  have hS:s.LL n={ s with eh:=s.eh++[s.eh[n]'zo] }:=by unfold da.LL;rw [hg];dsimp only;rw [aI zo]
  have nI:=da.SX (i:=n) (eK.next hm)
  have er:ee.ok { a with nl:=a.nl++[{ (a.nl[n]'xP) with v:=v2 }] } M w c (m+1) (s.LL n) :=
   ha.PL nI (Nat.le_succ m) (by rw [hS]) (by
    rw [hS,ah,ah,ha.eh,List.map_cons,List.map_cons,← GG]
    rfl)
  rw [hE];rw [hS] at er ⊢
  generalize ({ (a.nl[n]'xP) with v:=v2 }:gU)=y at *
  refine ⟨fun _=>zE,?_⟩
  (refine tk 7 _ rfl (cD.jZ rfl) ?_;refine tA 8 ?_)
  refine bf zK ?_;refine wB ?_;refine aY _ rfl (cj (show cz _ (dP w c { s with eh:=s.eh++[s.eh[n]'zo] } { a with nl:=a.nl++[y] } M R) from zE) (dT er he)) ⟨rfl,rfl⟩
 ·have hE:s.FE n=13:=by unfold da.FE;rw [aB zo,aB (fun q=>lT ⟨⟨by omega,by omega⟩,by omega⟩)]
  have hS:s.LL n=s:=by unfold da.LL;rw [hg];dsimp only;rw [aB (fun q=>lT ⟨⟨by omega,by omega⟩,by omega⟩)]
  have er:=ha.to (eK.next hm) (Nat.le_succ m) rfl rfl;rw [hE,hS];refine ⟨fun _=>zE,?_⟩
  (refine tk 7 _ rfl (cD.p8 rfl) ?_;refine tA 8 ?_)
  refine bf zK ?_;refine wB ?_;refine aY (dM w c (m+1) s ev::R) rfl (cj (show cz _ (dP w c s a M R) from zE) (dT er he)) ⟨rfl,rfl⟩
end Go.Proofs
namespace Go.Bs
theorem Rd.ex {α:Sort _} {f:α→cJ} {R:List cJ} {p:Addr} {v:Value} (h:∀ x,Rd (f x::R) p v):Rd (Ex f::R) p v:=fun hh x=>by
 obtain ⟨h1,h2,ap,l1,l2,⟨y,hy⟩,hR⟩:=x;exact h y hh ⟨h1,h2,ap,l1,l2,hy,hR⟩
theorem Rd.dY {L R:List cJ} {A:cJ} {p:Addr} {v:Value} (q:cR L A R) (h:Rd (A::R) p v):Rd L p v:=h.cL q.out
end Go.Bs
namespace Go.Proofs
attribute [local irreducible] Bs.cD Bs.Do Bs.O Bs.W Bs.Fin Bs.A Bs.Ct Bs.cE Bs.Rd Bs.Sat Bs.cK Bs.Ob Bs.dE Bs.View Bs.cz Bs.Ex Bs.dI Bs.Pu Bs.eY Bs.dN Bs.dZ
open Go.Bs
open Tryz
def da.mj (c:dh) (s:da) (b:wR):Int:=s.up.mj iT (cZ c) b
def da.off (c:dh) (s:da) (b:wR):da:={ s with up:=s.up.ie iT (cZ c) b }
theorem da.NK {c:dh} {m:Nat} {s:da} {b:wR} (h:s.ok c m) (hm:m<250) (hb:b.fi.length≤200):(s.off c b).ok c (m+1):=by
 unfold da.off m8.ie
 split
 ·rename_i h0;have hu:=h.Uk
  exact { h.next hm with
   up:=m8.xG h.up hb zo h0
   Uk:=by show (s.up.recs++[b.fi]).length≤m+1;rw [aa];simp only [aj];omega }
 ·exact h.next hm
def PN (w:Nat) (c:dh) (s:da) (a:ee):cJ:=Ex fun ve:Value=>cK w (ee.cells { a with ve:=ve } c s) di (0,0)
theorem Jl {w:Nat} {c:dh} {s:da} {a:ee} {ve:Value} {R:List cJ}:cz (cK w (ee.cells { a with ve:=ve } c s) di (0,0)::R) (PN w c s a::R):=fu (f:=fun ve:Value=>cK w (ee.cells { a with ve:=ve } c s) di (0,0)) ve
theorem PO {w:Nat} {c:dh} {s:da} {a:ee} {L R:List cJ} (p:cR L (PN w c s a) R):Rd L ⟨w,0+13,none⟩ (pt a.gu) :=
 Rd.dY p (Rd.ex fun ve=>bP .zero rfl)
theorem AG (R:List cJ) (e:World) (w:Nat) (c:dh) (m:Nat) (s:da) (ev:List (Int × Int × Int × du)) (v:Value) (b:wR) (hv:db R v (fT b)) (hx:fW.ok c s.ls.cF (.off b)) (hm:m<250) :
 Ct prog 180 #[pt w,v] e (dM w c m s ev::R) (fun v' L'=>v'=.int .i64 (s.mj c b)∧∃ jQ,rF jQ (s.off c b)∧L'=dM w c (m+1) (s.off c b) (ev++jQ)::R):=by
 obtain ⟨h0,PP,SC,hch⟩:=hx;refine gZ fun a M ha he=>?_
 have eK:=ha.st;have Q5:=ha.ec;have hup:=eK.Uk;have SM:=eK.steps;have m9:=da.NK eK hm SC;have er:=ha.to m9 (Nat.le_succ m) rfl rfl;refine a7 (cn (hv.cL (show cz (dP w c s a M R) R from zE))) fun o1=>?_
 refine a8 (args:=[_,_]) func180 rfl ntmps180 results180 rfl ?_;refine wB ?_;refine aZ rfl rfl (Ct.at zP (Fo _ e a.gu a.ud iT (cZ c) s.up v b (hv.cL zE) PP SC zo)) ?_;rintro _ _ ⟨rfl,rfl⟩;rw [show s.up.mj iT (cZ c) b=s.mj c b from rfl];rw [show s.up.ie iT (cZ c) b=(s.off c b).up from rfl];obtain ⟨s2,m4⟩:∃ s2:da,s2=s.off c b:=⟨_,rfl⟩
 have PK:s2.fs.recs≠[]:=by rw [m4];exact eK.some h0
 by_cases hE:s.mj c b=0
 rotate_left
 ·generalize s.mj c b=E at *
  refine wB ?_;refine aY (dM w c (m+1) (s.off c b) ev::R) rfl (cj (show cz _ (dP w c (s.off c b) a M R) from zE) (dT er he)) ⟨rfl,[],rF.nil,by rw [aK]⟩
 rw [hE];refine wB ?_;refine aZ rfl rfl (uF _ e v b (hv.cL zE) PP) ?_;rintro _ _ ⟨N,um,vp,ur,ua,uq,uc,rfl,hN,rfl⟩;refine bm (cn (hN.fi.cL (cG zP))) fun q1=>?_
 refine bm (hN.path.cL (cG zP)).one fun q2=>?_
 refine bm (cn (hN.kP.root.cL (cG zP))) fun q3=>?_
 refine bm (hN.kP.sig.cL (cG zP)).parts.one fun q4=>?_
 refine bm (hN.kP.sig.cL (cG zP)).path.one fun q5=>?_
 refine bm (hN.gs.cL (cG zP)).one fun q6=>?_
 (repeat (refine wA ?_;intros))
 rename_i g6;have Ow:∀ (X:List cJ),cz (cK w (a.cells c (s.off c b)) di (0,0)::X) (PN w c (s.off c b) a::X):=fun X=>Jl (ve:=a.ve)
 refine bk (id:=4) [] (PN w c (s.off c b) a::cK g6 (sE b um vp ur ua uq uc) rC (0,0)::N::R) mixed ?_;refine bG 0 _ rfl zK (cj (bw (show cR _ (cK w (a.cells c (s.off c b)) di (0,0)) _ from zP) aX) (cj (Ow _) zE)) (bu rfl) rfl ?_;refine bG 1 _ rfl zK (cj (bw (show cR _ (cK w (a.cells c (s.off c b)) di (0,0)) _ from zP) aX) (cj (Ow _) zE)) (bu rfl) rfl ?_;refine bG 2 _ rfl zK (cj (bw (show cR _ (cK w (a.cells c (s.off c b)) di (0,0)) _ from zP) aX) (cj (Ow _) zE)) (bn rfl) rfl ?_;refine bG 3 _ rfl zK (cj (bw (show cR _ (cK w (a.cells c (s.off c b)) di (0,0)) _ from zP) aX) (cj (Ow _) zE)) (ba rfl) rfl ?_;refine bG 4 _ rfl zK (cj (bw (show cR _ (cK w (a.cells c (s.off c b)) di (0,0)) _ from zP) aX) (cj (Ow _) zE)) (bp rfl (PO .zero)) rfl ?_;refine bG 7 _ rfl zK (cj (bw (show cR _ (cK w (a.cells c (s.off c b)) di (0,0)) _ from zP) aX) (cj (Ow _) zE)) (ba rfl) rfl ?_;refine bG 8 _ rfl zK (cj (bw (show cR _ (cK w (a.cells c (s.off c b)) di (0,0)) _ from zP) aX) (cj (Ow _) zE)) (bp rfl zR) rfl ?_;refine tO 5 ?_;refine bg rfl rfl (Ct.at zP (rS _ e a.gu a.ud iT (cZ c) (s.off c b).up)) ?_;rintro _ _ ⟨rfl,rfl⟩;refine ⟨fun _=>(cj (bw (show cR _ (cK w (a.cells c (s.off c b)) di (0,0)) _ from zP) aX) (cj (Ow _) zE)),?_⟩
 refine bG 6 _ rfl zK (cj (bw (show cR _ (cK w (a.cells c (s.off c b)) di (0,0)) _ from zP) aX) (cj (Ow _) zE)) (cD.jP rfl) rfl ?_
 generalize IntKind.i64.wrap ((s.off c b).up.m.ii:Int)=vn
 refine tO 9 ?_;refine bg rfl rfl (ug _ e um b.fi (hN.fi.cL (cG (show cR _ N _ from zP))) zo) ?_;rintro _ _ ⟨ad,kk,rfl,rfl⟩;refine ⟨fun _=>(cj (bw (show cR _ (cK w (a.cells c (s.off c b)) di (0,0)) _ from zP) aX) (cj (Ow _) zE)),?_⟩;refine tO 10 ?_;refine bg rfl rfl (Ct.AR zP zP (ir _ e w c (s.off c b) a 5 vn 0 (.slice ad (cY b.fi).length kk) (cY b.fi) rfl zo)) ?_;rintro _ _ ⟨rfl,ve,rfl⟩;refine ⟨fun _=>cj (Jl (ve:=ve)) zE,?_⟩;refine bf zK ?_;have nI:=(er.more (Fx (A:=M) (B:=cS (.slice ad (cY b.fi).length kk) (cY b.fi)))).seen (x:=⟨5,vn,0,.slice ad (cY b.fi).length kk,cY b.fi⟩) ve (cE.cL (bb .zero) Fy) zo (by show (ei _ _).length≤1000;rw [dg];omega);refine wB ?_;refine aY (dM w c (m+1) (s.off c b) (ev++[(5,vn,0,cY b.fi)])::R) rfl (cj ?_ (dT nI (by dsimp only;rw [ah,he];rfl))) ⟨rfl,_,?_,rfl⟩
 ·exact cj (ep (A:=M) (B:=cS (.slice ad (cY b.fi).length kk) (cY b.fi)) zP zP) zE
 ·intro y hy;rw [an.1 hy];exact ⟨(by decide:(5:Int)≠3),.inr (by rw [← m4];exact PK)⟩
theorem zY {p:jG} {c:jc} (hp:p.ew.length≤4):∀ (l:List kO) (seen:List Nat),(∀ g∈l,g.ii p c∧¬ g.fY∈seen)→(l.map (·.fY)).Nodup→countP p c l seen=l.length
 | [],_,_,_=>rfl
 | g::l,seen,h,hn=>by
  rw [List.map_cons,List.nodup_cons] at hn
  obtain ⟨h1,h2⟩:=h g (List.mem_cons_self ..);have h3:=h1.1;unfold countP
  rw [aI ⟨by omega,h2,h1⟩,zY hp l (g.fY::seen) (fun x hx=>⟨(h x (aT _ hx)).1,fun q=>by
   rcases aQ.1 q with q|q
   ·exact hn.1 (by rw [← q];exact aE.2 ⟨x,hx,rfl⟩)
   ·exact (h x (aT _ hx)).2 q⟩) hn.2,aN,Nat.add_comm]
def da.uM (c:dh) (s:da) (j:Nat) (g:kO) (size:Nat):da:={ s with fd:=s.fd.oo (cZ c) j g size s.time,n:=s.n+1 }
def da.AH (c:dh) (s:da) (j:Nat) (g:kO) (size:Nat):Int:=if s.fd.Aw (cZ c) j g size=true then 0 else 22
theorem Lf (p:jG) (s:cP) (w:Nat) (g:kO):(s.fe p w g).cur=s.cur∧(s.fe p w g).kept=s.kept++[g]∧((p.ey≤(s.kept++[g]).length∧(s.fe p w g).done=s.dU∧(s.fe p w g).dk=s.kept++[g])∨((s.fe p w g).done=s.done∧(s.fe p w g).dk=s.dk)):=by
 unfold cP.fe
 split
 ·rename_i h;exact ⟨rfl,rfl,.inl ⟨h,rfl,rfl⟩⟩
 ·exact ⟨rfl,rfl,.inr ⟨rfl,rfl⟩⟩
theorem da.Dl {c:dh} {m:Nat} {s:da} {j size:Nat} {g:kO} (h:s.ok c m) (hm:m<250):(s.uM c j g size).ok c (m+1):=by
 have ht:=h.time;have hn:=h.nb;have hk:=h.xE.k;have hlen:=lj c;have LK:(s.fd.oo (cZ c) j g size s.time).ok c.k (s.n+1):=cP.Pq h.fd (fun q=>q.2.1) zo zo zo;have F9:s.n+1≤4*(m+1):=by omega
 unfold da.uM
 by_cases hh:s.fd.rR j
 rotate_left
 ·have hr:s.fd.oo (cZ c) j g size s.time=s.fd:=by unfold cP.oo;rw [aI hh]
  rw [hr] at LK ⊢
  exact { h.next hm with fd:=LK,nb:=F9 }
 by_cases ft:s.fd.wS (cZ c) j g
 ·have hr:s.fd.oo (cZ c) j g size s.time=s.fd.fe (cZ c) j g:=by unfold cP.oo;rw [aB (fun q=>q hh),aI ft]
  rw [hr] at LK ⊢
  obtain ⟨q1,q2,q3⟩:=Lf (cZ c) s.fd j g;obtain ⟨y,hy⟩:=Option.isSome_iff_exists.1 hh.1;have XN:s.fd.dU=y:=by unfold cP.dU;rw [hy];rfl
  have pQ:∀ x∈s.fd.kept++[g],x.ii (cZ c) s.fd.dU.dc:=fun x hx=>by
   rcases aJ.1 hx with hx|hx
   ·exact h.kept x hx
   ·rw [an.1 hx];exact ft.2
  have hku:=LK.zf;rw [q2] at hku
  exact { h.next hm with
   fd:=LK
   nb:=F9
   cur:=fun x hx=>h.cur x (by rw [← q1];exact hx)
   idle:=fun hx=>by
    have hx:s.fd.cur=none:=by rw [← q1];exact hx
    rw [hy] at hx;cases hx
   kept:=fun x hx=>by
    show x.ii _ (cP.dU (s.fd.fe (cZ c) j g)).dc
    rw [De q1];exact pQ x (by rw [← q2];exact hx)
   done:=fun hx=>by
    show Ae _ (cP.done (s.fd.fe (cZ c) j g))∧0<(cP.done (s.fd.fe (cZ c) j g)).dc.size∧uf _ (cP.done (s.fd.fe (cZ c) j g)).dc (cP.dk (s.fd.fe (cZ c) j g))
    rcases q3 with ⟨q4,q5,q6⟩|⟨q5,q6⟩
    ·rw [q5,q6];refine ⟨by rw [XN];exact (h.cur y hy).1,by rw [XN];exact (h.cur y hy).2,?_⟩;unfold uf;rw [zY zo _ [] (fun x hx=>⟨pQ x hx,aP⟩) hku];exact q4
    ·rw [q5,q6];exact h.done (by rw [← q6];exact hx) }
 ·by_cases Sv:s.fd.turns j size
  ·have hr:s.fd.oo (cZ c) j g size s.time=s.fd.Av j size s.time:=by unfold cP.oo;rw [aB (fun q=>q hh),aB ft,aI Sv]
   rw [hr] at LK ⊢
   obtain ⟨y,hy⟩:=Option.isSome_iff_exists.1 hh.1
   exact { h.next hm with
    fd:=LK
    nb:=F9
    cur:=fun x hx=>h.cur x hx
    idle:=fun hx=>by
     have hx:s.fd.cur=none:=hx;rw [hy] at hx;cases hx
    kept:=fun x hx=>h.kept x hx
    done:=fun hx=>h.done hx }
  ·have hr:s.fd.oo (cZ c) j g size s.time=s.fd:=by unfold cP.oo;rw [aB (fun q=>q hh),aB ft,aB Sv]
   rw [hr] at LK ⊢
   exact { h.next hm with fd:=LK,nb:=F9 }
theorem Lg (R:List cJ) (e:World) (w:Nat) (c:dh) (m:Nat) (s:da) (ev:List (Int × Int × Int × du)) (v:Value) (j:Nat) (g:kO) (hv:db R v (1::eU g)) (hx:fW.ok c s.ls.cF (.iQ j g)) (hm:m<250) :
 Ct prog 179 #[pt w,.int .i64 ((j+1:Nat):Int),v] e (dM w c m s ev::R) (fun v' L'=>v'=.int .i64 (s.AH c j g 0)∧L'=dM w c (m+1) (s.uM c j g 0) ev::R):=by
 obtain ⟨h0,hj,hgw,Sq⟩:=hx;refine gZ fun a M ha he=>?_
 have eK:=ha.st;have ht:=eK.time;have hn:=eK.nb;have SM:=eK.steps;have hk:=eK.xE.k;have m9:=da.Dl (j:=j) (g:=g) (size:=0) eK hm;have er:=ha.to m9 (Nat.le_succ m) rfl rfl;refine a7 (cn (hv.cL (show cz (dP w c s a M R) R from zE))) fun o1=>?_
 refine a8 (args:=[_,_,_]) func179 rfl ntmps179 results179 rfl ?_;refine wB ?_;refine aZ rfl rfl (jv _ e v (1::eU g) (hv.cL zE) (by rw [aN,lq Sq];omega)) ?_;rintro _ _ ⟨gr,rfl,rfl⟩
 (repeat (refine wA ?_;intros))
 rename_i g8;refine aZ rfl rfl (Ct.at zP (vo _ e gr 1 _)) ?_;rintro _ _ ⟨rfl,rfl⟩;rw [show u8 1=.int .u8 1 from rfl];have TX:=fun L=>Bo L e gr g [] zo Sq (by simp)
 rw [aK] at TX
 refine wB ?_;refine aZ rfl rfl (Ct.at zP (TX _)) ?_;rintro _ _ ⟨N,up,uq,rfl,hN,rfl⟩;refine bm (hN.cL (cG zP)).parts.one fun o4=>?_
 refine bm (hN.cL (cG zP)).path.one fun o5=>?_
 refine wB ?_;refine aZ rfl rfl (yc _ e gr []) ?_;rintro _ _ ⟨rfl,rfl⟩;rw [ay rfl];refine wB ?_;refine bk (id:=12) [] (cK g8 (iA g up uq) nG (0,0)::N::cK w (a.cells c s) di (0,0)::R) mixed ?_
 (refine tM 0 ?_;refine tN 1 ?_;refine tF 2 ?_;refine tL 3 ?_;refine tM 4 ?_;refine tk 5 _ rfl (cD.jz rfl rfl zo) ?_;refine tJ 6 ?_;refine tM 7 ?_;refine tM 8 ?_;refine tN 9 ?_;refine tF 10 ?_;refine tL 11 ?_)
 rw [show (((j+1:Nat):Int) - 1)=(j:Int) by omega];refine tO 12 ?_;refine bg rfl rfl (Ct.at zP (uE _ e a.mE (cZ c) c.retry s.n s.fd j up uq g 0 s.time (hN.cL (cG (show cR _ N _ from zP))) zo zo zo zo zo)) ?_;rintro _ _ ⟨rfl,rfl⟩;refine ⟨fun _=>zE,?_⟩;unfold da.AH
 cases hb:s.fd.Aw (cZ c) j g 0 with
 | true =>
  (refine tk 13 _ rfl (cD.jZ rfl) ?_;refine tA 14 ?_)
  refine bf zK ?_;refine wB ?_;refine aY (dM w c (m+1) (s.uM c j g 0) ev::R) rfl (cj (show cz _ (dP w c (s.uM c j g 0) a M R) from zE) (dT er he)) ⟨rfl,rfl⟩
 | false =>
  (refine tk 13 _ rfl (cD.p8 rfl) ?_;refine tA 14 ?_)
  refine bf zK ?_;refine wB ?_;refine aY (dM w c (m+1) (s.uM c j g 0) ev::R) rfl (cj (show cz _ (dP w c (s.uM c j g 0) a M R) from zE) (dT er he)) ⟨rfl,rfl⟩
theorem NL (R:List cJ) (e:World) (w:Nat) (c:dh) (m:Nat) (s:da) (ev:List (Int × Int × Int × du)) (v:Value) (j z:Nat) (hv:db R v (0::be z 4)) (hx:fW.ok c s.ls.cF (.no j z)) (hm:m<250) :
 Ct prog 179 #[pt w,.int .i64 ((j+1:Nat):Int),v] e (dM w c m s ev::R) (fun v' L'=>v'=.int .i64 (s.AH c j gY z)∧L'=dM w c (m+1) (s.uM c j gY z) ev::R):=by
 obtain ⟨h0,hj,hz⟩:=hx;refine gZ fun a M ha he=>?_
 have eK:=ha.st;have ht:=eK.time;have hn:=eK.nb;have SM:=eK.steps;have hk:=eK.xE.k;have m9:=da.Dl (j:=j) (g:=gY) (size:=z) eK hm;have er:=ha.to m9 (Nat.le_succ m) rfl rfl;refine a7 (cn (hv.cL (show cz (dP w c s a M R) R from zE))) fun o1=>?_
 refine a8 (args:=[_,_,_]) func179 rfl ntmps179 results179 rfl ?_;refine wB ?_;refine aZ rfl rfl (jv _ e v (0::be z 4) (hv.cL zE) (by rw [aN,cX];omega)) ?_;rintro _ _ ⟨gr,rfl,rfl⟩
 (repeat (refine wA ?_;intros))
 rename_i g8;refine aZ rfl rfl (Ct.at zP (vo _ e gr 0 _)) ?_;rintro _ _ ⟨rfl,rfl⟩;rw [show u8 0=.int .u8 0 from rfl];have TX:=fun L=>tD L e gr z [] zo
 rw [aK] at TX
 refine wB ?_;refine aZ rfl rfl (Ct.at zP (TX _)) ?_;rintro _ _ ⟨rfl,rfl⟩;refine wB ?_;refine aZ rfl rfl (yc _ e gr []) ?_;rintro _ _ ⟨rfl,rfl⟩;rw [ay rfl];refine wB ?_;refine bk (id:=12) [] (cK g8 (iA gY nY nY) nG (0,0)::cK w (a.cells c s) di (0,0)::R) mixed ?_
 (refine tM 0 ?_;refine tN 1 ?_;refine tF 2 ?_;refine tL 3 ?_;refine tM 4 ?_;refine tk 5 _ rfl (cD.jz rfl rfl zo) ?_;refine tJ 6 ?_;refine tM 7 ?_;refine tM 8 ?_;refine tN 9 ?_;refine tF 10 ?_;refine tL 11 ?_)
 rw [show (((j+1:Nat):Int) - 1)=(j:Int) by omega];refine tO 12 ?_;refine bg rfl rfl (Ct.at zP (uE _ e a.mE (cZ c) c.retry s.n s.fd j nY nY gY z s.time (CO _) (by decide) zo zo zo zo)) ?_;rintro _ _ ⟨rfl,rfl⟩;refine ⟨fun _=>zE,?_⟩;unfold da.AH
 cases hb:s.fd.Aw (cZ c) j gY z with
 | true =>
  (refine tk 13 _ rfl (cD.jZ rfl) ?_;refine tA 14 ?_)
  refine bf zK ?_;refine wB ?_;refine aY (dM w c (m+1) (s.uM c j gY z) ev::R) rfl (cj (show cz _ (dP w c (s.uM c j gY z) a M R) from zE) (dT er he)) ⟨rfl,rfl⟩
 | false =>
  (refine tk 13 _ rfl (cD.p8 rfl) ?_;refine tA 14 ?_)
  refine bf zK ?_;refine wB ?_;refine aY (dM w c (m+1) (s.uM c j gY z) ev::R) rfl (cj (show cz _ (dP w c (s.uM c j gY z) a M R) from zE) (dT er he)) ⟨rfl,rfl⟩
def da.FF (c:dh) (s:da):fW→da × Int × Int
 | .ask j x n m path=>(s.asked j x.dc n,1,s.xr j x.dc n)
 | .iQ j g=>(s.uM c j g 0,2,s.AH c j g 0)
 | .no j z=>(s.uM c j gY z,2,s.AH c j gY z)
 | .off b=>(s.off c b,3,s.mj c b)
def da.AI (c:dh) (s:da) (n:Nat):da × Int × Int:=match s.eh[n]? with
 | none=>(s,0,1)
 | some x=>(s.lost n).FF c x
theorem da.PQ {c:dh} {m:Nat} {s:da} {x:fW} (h:s.ok c m) (hm:m<250) (hx:x.ok c s.ls.cF):(s.FF c x).1.ok c (m+1):=by
 cases x with
 | ask j x n k path=>exact da.FB h hm hx.2.1 hx.2.2.1 hx.1
 | iQ j g=>exact da.Dl h hm
 | no j z=>exact da.Dl h hm
 | off b=>exact da.NK h hm hx.2.2.1
theorem da.NM {c:dh} {m:Nat} {s:da} {n:Nat} (h:s.ok c m) (hm:m<250):(s.AI c n).1.ok c (m+1):=by
 unfold da.AI
 split
 ·exact h.next hm
 ·rename_i x hx;exact da.PQ (da.Dj h) hm (h.eh x (az hx))
def da.mn (s:da) (i:Nat):wR:=⟨s.ls.cF.getD i [],i,s.fd.done.dc.size,iH ((s.ls.cF.take s.fd.done.dc.size).map cY) i,s.fd.done,s.fd.dk⟩
def da.Ox (s:da) (i:Nat):da × Int:=if s.fd.dk=[] then (s,22) else if ¬ i<s.fd.done.dc.size then (s,22) else if s.eh.length<32 then (s.send (.off (s.mn i)),0) else (s,13)
theorem da.ok.leaf {c:dh} {m:Nat} {s:da} (h:s.ok c m) {b:du} (hb:b∈s.ls.cF):jk b∧b.length≤200 :=
 h.fs.oh b (h.perm.mem_iff.1 (List.mem_append_left _ hb))
theorem da.ok.KK {c:dh} {m:Nat} {s:da} (h:s.ok c m):s.ls.cF.length≤250:=by
 have h1:=h.perm.length_eq;have h2:=h.DH;have h3:=h.steps;rw [aa] at h1
 omega
theorem da.BY {c:dh} {m:Nat} {s:da} {i:Nat} (h:s.ok c m) (he:s.fd.dk≠[]) (hi:i<s.fd.done.dc.size):(s.mn i).wf∧(s.mn i).fi.length≤200∧mg (cZ c) (s.mn i)=0∧fW.ok c s.ls.cF (.off (s.mn i)):=by
 obtain ⟨⟨pQ,Pf,ln,BD⟩,h0,HY⟩:=h.done he;have pN:=h.fd.done he;have Ph:=h.KK;have Ac:i<s.ls.cF.length:=by omega
 have ry:s.ls.cF.getD i []∈s.ls.cF:=by rw [ax,ab Ac];exact aA Ac
 obtain ⟨hmo,TS⟩:=h.leaf ry
 have jN:∀ a∈(s.ls.cF.take s.fd.done.dc.size).map cY,a.length=32:=by
  intro a ha;obtain ⟨b,-,rfl⟩:=aE.1 ha;exact dg _ _
 have hlen:((s.ls.cF.take s.fd.done.dc.size).map cY).length=s.fd.done.dc.size:=by rw [ae,aF];omega
 have Cm:=oU _ ((s.ls.cF.take s.fd.done.dc.size).map cY) i rfl;have hph:=GV _ ((s.ls.cF.take s.fd.done.dc.size).map cY) i rfl jN;have MQ:=GU _ ((s.ls.cF.take s.fd.done.dc.size).map cY) i (cY (s.ls.cF.getD i [])) rfl zo;rw [hlen] at Cm MQ
 have hl8:jl s.fd.done.dc.size i≤8:=ql 8 _ _ zo
 have jL:((s.ls.cF.take s.fd.done.dc.size).map cY).set i (cY (s.ls.cF.getD i []))=(s.ls.cF.take s.fd.done.dc.size).map cY:=by
  refine uJ _ _ _ ?_;rw [aL,List.getElem?_take_of_lt hi,ab Ac,Option.map_some,ax,ab Ac];rfl
 have hk:=h.xE.k;have VE:=h.fd.KK
 have PP:(s.mn i).wf :=
  {fi:=by show (s.ls.cF.getD i []).length≤65535;omega
   idx:=by show i≤256;omega
   size:=by show s.fd.done.dc.size≤256;omega
   DH:=by show (iH _ i).length≤16;omega
   jN:=hph
   dc:=pN.1
   sig:=Pf
   fE:=by show s.fd.dk.length≤255;omega
   ew:=fun g hg=>by have:=(h.fd.dk g hg).1;omega
   sigs:=fun g hg=>(h.fd.dk g hg).2 }
 have Sh:mg (cZ c) (s.mn i)=0:=by
  unfold mg;rw [aB (show ¬ ¬ jk (s.mn i).fi from not_not_intro hmo)];rw [aB (show ¬ ¬ (s.mn i).kP.ii (cZ c).log from not_not_intro pQ)]
  rw [aB (show ¬ ¬ ((s.mn i).size=(s.mn i).kP.dc.size∧pi (s.mn i).idx (s.mn i).size (s.mn i).path (cY (s.mn i).fi) (s.mn i).kP.dc.root) from not_not_intro ⟨rfl,⟨by show (iH _ i).length≤16;omega,hph⟩,dg _ _,hi,Cm,by
   show lD s.fd.done.dc.size i (iH _ i) _=s.fd.done.dc.root
   exact (MQ.trans (congrArg ea jL)).trans BD.symm⟩)]
  rw [aB (show ¬ ¬ uf (cZ c) (s.mn i).kP.dc (s.mn i).eH from not_not_intro HY)]
 exact ⟨PP,TS,Sh,by omega,PP,TS,Sh⟩
end Go.Proofs
namespace Go.Proofs
open Go.Bs
attribute [local irreducible] Bs.cD Bs.Do Bs.O Bs.W Bs.Fin Bs.A Bs.Ct Bs.cE Bs.Rd Bs.Sat Bs.cK Bs.Ob Bs.dE Bs.View Bs.cz Bs.Ex Bs.dI Bs.Pu Bs.eY Bs.dN Bs.dZ
def pC (c:dh):da:=⟨⟨[],0,none⟩,⟨[],[]⟩,List.replicate c.k ⟨[],0,gY,false⟩,Au c.k,0,⟨[]⟩,⟨[],none⟩,[],0,none⟩
theorem Jm {c:dh} (h:c.ok):(pC c).ok c 0 where
 xE:=h
 steps:=aH _
 ls:=⟨fun r hr=>(by cases hr),List.nodup_nil,aH _,fun b hb=>(by cases hb),aH _,fun x hx=>(by cases hx)⟩
 last:=fun x hx=>(by cases hx)
 fs:=⟨aH _,fun b hb=>(by cases hb),aH _,fun b hb=>(by cases hb),fun b hb=>(by cases hb)⟩
 recs:=List.nodup_nil
 DH:=aH _
 perm:=List.Perm.refl _
 wl:=List.length_replicate
 ws:=fun w hw=>by
  obtain rfl:=(List.mem_replicate.1 hw).2;exact ⟨⟨fun x hx=>(by cases hx),List.Pairwise.nil,fun x hx=>(by cases hx),aH _,re⟩,aH _,lL.empty _⟩
 iQ:=fun i w hw hs=>by
  have hm:w∈List.replicate c.k (⟨[],0,gY,false⟩:eP):=az hw;obtain rfl:=(List.mem_replicate.1 hm).2
  cases hs
 fd:=CS _
 nb:=aH _
 cur:=fun x hx=>(by cases hx)
 idle:=fun _=>rfl
 kept:=fun g hg=>(by cases hg)
 done:=fun hd=>absurd rfl hd
 up:=⟨aH _,fun b hb=>(by cases hb),fun b hb=>(by cases hb),fun b hb=>(by cases hb),List.Pairwise.nil⟩
 Uk:=aH _
 mo:=⟨aH _,fun b hb=>(by cases hb),fun x hx=>(by cases hx)⟩
 SO:=rfl
 eh:=fun x hx=>(by cases hx)
 room:=aH _
 time:=aH _
 signed:=fun x hx=>(by cases hx)
def cA:dh:=⟨1,1,4,1,0,1⟩
theorem Ra:cA.ok where
 k:=by decide
 ey:=by decide
 f:=⟨by decide,by decide,by decide⟩
 retry:=by decide
 wV:=⟨j5 _,by decide,by decide,by decide,fun w hw=>by
  obtain ⟨i,-,rfl⟩:=aE.1 hw
  exact j5 _,by
  show [kN (cQ 1)].Nodup
  exact List.nodup_cons.2 ⟨aP,List.nodup_nil⟩⟩
def bA:du:=mR 0 1 1
theorem BZ:jk bA∧bA.length≤200∧(dB bA).name=iT∧(dB bA).ii=2:=by
 obtain ⟨h1,h2⟩:=mQ 0 1 1;obtain ⟨h3,h4⟩:=O0 h1 h2;refine ⟨h3,?_,?_,?_⟩
 ·show (lO (me 0 1 1)).length≤200
  rw [wk];have:=h1.1.2.1;have:=h1.2.2.1;have:=h1.2.2.2
  omega
 ·show (dB (lO (me 0 1 1))).name=iT
  rw [h4];decide
 ·show (dB (lO (me 0 1 1))).ii=2
  rw [h4];decide
theorem Lh (b:du):(cY b).length=32:=dg _ _
attribute [local irreducible] bA rK cY iY cQ jk dB kN xc sh
abbrev Wt:eP:=⟨[],0,gY,false⟩
def Rb:jc:=⟨1,ea [cY bA]⟩
def xA:jV:=ue (cQ 0) 0 Rb
def gA:kO:=Bj (cQ 1) 0 0 Rb
abbrev lA:fM:=⟨[[bA]],1,some xA⟩
abbrev fA:pe:=⟨[bA],[]⟩
def SY:da:=⟨⟨[],0,none⟩,⟨[bA],[(bA,0)]⟩,[Wt],Au 1,0,⟨[]⟩,⟨[],none⟩,[],0,none⟩
def Un:da:=⟨⟨[],0,none⟩,⟨[bA],[(bA,0)]⟩,[Wt],Au 1,0,⟨[]⟩,⟨[],none⟩,[],1,none⟩
def SZ:da:=⟨⟨[[bA]],0,none⟩,fA,[Wt],Au 1,0,⟨[]⟩,⟨[],none⟩,[],1,none⟩
def sA4:da:=⟨lA,fA,[Wt],⟨[⟨1,0,0⟩],1,[⟨0,0,false⟩],some xA,[],vI,[]⟩,1,⟨[]⟩,⟨[],none⟩,[],1,some Rb⟩
def qA:List du:=iY [cY bA] 0
def Uo:da:=⟨lA,fA,[Wt],⟨[⟨2,1,0⟩],2,[⟨0,1,false⟩],some xA,[],vI,[]⟩,2,⟨[]⟩,⟨[],none⟩,[.ask 0 xA 0 1 qA],1,some Rb⟩
abbrev wA1:eP:=⟨[Rb],1,gA,true⟩
def S1:da:=⟨lA,fA,[wA1],⟨[⟨2,1,0⟩],2,[⟨0,1,false⟩],some xA,[],vI,[]⟩,2,⟨[]⟩,⟨[],none⟩,[.iQ 0 gA],1,some Rb⟩
def DL:da:=⟨lA,fA,[wA1],⟨[],2,[⟨1,1,true⟩],some xA,[gA],xA,[gA]⟩,3,⟨[]⟩,⟨[],none⟩,[],1,some Rb⟩
def Wu:da:=DL.send (.off (DL.mn 0))
def Rc:da:={ DL with up:=⟨[bA]⟩ }
theorem S3:(pC cA).sub cA bA=SY∧((pC cA).fs.fC cA.f (pC cA).ls.cF bA ((pC cA).time:Int)).1=1:=by
 have h:(pC cA).fs.fC cA.f (pC cA).ls.cF bA ((pC cA).time:Int)=(1,0,⟨[bA],[(bA,0)]⟩):=by
  unfold pe.fC;rw [aB (not_not_intro BZ.1),aB (show ¬ bA∈(pC cA).ls.cF from aP),aB (show ¬ bA∈(pC cA).fs.q.map (·.1) from aP),aB (show ¬ cA.f.room≤(pC cA).fs.q.length by decide)]
  rfl
 unfold da.sub;rw [h];exact ⟨rfl,rfl⟩
theorem Wv:SY.Ou 1=Un:=rfl
theorem Ww:Un.Gi cA=SZ:=by
 unfold da.Gi;rw [aI (show Un.fs.pg cA.f (Un.time:Int)=true from by show M4 [(bA,0)] 1 0 1=true;unfold M4;exact ay (.inl (by decide)))]
 have h:Un.ls.fresh (Un.fs.some cA.f)=[bA]:=by
  show fg [] [] [bA]=[bA]
  unfold fg;rw [aB (show ¬ bA∈([]:List du)++[] from aP)]
  rfl
 unfold fM.add;rw [h,aB (by intro h;cases h)]
 rfl
theorem S4:xA.ii dO:=⟨⟨by show 1≤256;decide,gG fun a ha=>by rw [an.1 ha];exact Lh _⟩,yl (by decide)⟩
theorem Wx:SZ.iG cA=sA4:=by
 have hs:¬ SZ.ls.same:=fun h=>by cases h.1
 have hk:SZ.ls.keys<16:=by decide
 have hp:SZ.ls.iG (cQ 0)=lA:=by
  unfold fM.iG;rw [aB hs,aI hk]
  rfl
 have hv:SZ.fk=xA:=by unfold da.fk;rw [hp];rfl
 unfold da.iG;rw [aI (.inr hk)];unfold da.pX;rw [hv,hp,aI (show 0<xA.dc.size from by show 0<1;decide)];unfold cP.ie;rw [aI (show SZ.fd.E7 (cZ cA) xA from ⟨S4,fun c hc=>by cases hc⟩)]
 rfl
theorem Wy:sA4.zG cA=Uo:=rfl
theorem Wz:Uo.AI cA 0=(S1,1,0):=by
 show ((Uo.lost 0).asked 0 xA.dc 0,1,(Uo.lost 0).xr 0 xA.dc 0)=_
 rfl
theorem WA:(S1.AI cA 0).1=DL:=by
 show (S1.lost 0).uM cA 0 gA 0=DL
 have hv:gA.ii (cZ cA) Rb:=⟨by decide,yl (by decide)⟩
 unfold da.uM cP.oo;rw [aB (show ¬ ¬ (S1.lost 0).fd.rR 0 from not_not_intro ⟨rfl,by decide,rfl⟩),aI (show (S1.lost 0).fd.wS (cZ cA) 0 gA from ⟨rfl,hv⟩)]
 rfl
theorem abE:DL.Ox 0=(Wu,0):=by
 unfold da.Ox;rw [aB (show ¬ DL.fd.dk=[] from by intro h;cases h),aB (show ¬ ¬ 0<DL.fd.done.dc.size from by show ¬ ¬ 0<1;decide),aI (show DL.eh.length<32 by decide)]
 rfl
theorem S5:DL.ok cA 7:=by
 have h1:=da.Nu (b:=bA) (Jm Ra) (by decide) BZ.2.1;rw [S3.1] at h1
 have h2:=da.Nv (n:=1) h1 (by decide) (by decide);rw [Wv] at h2
 have h3:=da.Nx h2 (by decide);rw [Ww] at h3
 have h4:=da.Nz h3 (by decide);rw [Wx] at h4
 have h5:=da.NA h4 (by decide);rw [Wy] at h5
 have h6:=da.NM (n:=0) h5 (by decide);rw [Wz] at h6
 have h7:=da.NM (n:=0) h6 (by decide);rw [WA] at h7
 exact h7
theorem abF:(Wu.AI cA 0).1=Rc:=by
 show (Wu.lost 0).off cA (DL.mn 0)=Rc
 have hb:=(da.BY S5 (i:=0) (by intro h;cases h) (by show 0<1;decide)).2.2.1
 have ho:(Wu.lost 0).up.mj iT (cZ cA) (DL.mn 0)=0:=by
  unfold m8.mj
  rw [hb,aB (not_not_intro rfl),aB (show ¬ (dB (DL.mn 0).fi).name≠iT from not_not_intro BZ.2.2.1),aB (show ¬ (dB (DL.mn 0).fi).ii≤(Wu.lost 0).up.m.ii from by
   show ¬ (dB bA).ii≤0
   rw [BZ.2.2.2];decide)]
 unfold da.off m8.ie;rw [aI ho]
 rfl
theorem WC:DL.AI cA 0=(DL,0,1):=rfl
theorem WD:Rc.up.m.ii=2:=BZ.2.2.2
end Go.Proofs
namespace Go.Bs
theorem dZ.ex {α:Sort _} {f:α→cJ} {R:List cJ} {g o:Nat} {cs:List Value} (h:∀ x,dZ (f x::R) g o cs):dZ (Ex f::R) g o cs:=fun j u hj=>Rd.ex fun x=>h x j u hj
end Go.Bs
namespace Go.Proofs
open Go.Bs
attribute [local irreducible] Bs.cD Bs.Do Bs.O Bs.W Bs.Fin Bs.A Bs.Ct Bs.cE Bs.Rd Bs.Sat Bs.cK Bs.Ob Bs.dE Bs.View Bs.cz Bs.Ex Bs.dI Bs.Pu Bs.eY Bs.dN Bs.dZ
abbrev AJ:TypeId:=249
abbrev S6:TypeId:=49
abbrev iU:TypeId:=47
abbrev nL:Value:=nY
abbrev dJ:Value:=.pointer none
abbrev fX (c:dh):List Value:=[.int .i64 (c.k:Int),.int .i64 (c.ey:Int),.int .i64 (c.room:Int),.int .i64 (c.size:Int),.int .i64 (c.wait:Int),.int .i64 (c.retry:Int),.int .i64 1048576,.string (str iT)]
def PR (v:Value) (_:Nat→Value):List cJ:=match v with|.map (some g)=>[iC fH g []]|_=>[]
def WE (v:Value) (_:Nat→Value):List cJ:=match v with|.map (some g)=>[iC ig g []]|_=>[]
def S7 (v:Value) (u:Value):List cJ:=match v,u with|.pointer (some ⟨g,_,_⟩),.agg cs=>[cK g cs.toList di (0,0)]|_,_=>[]
def S9 (p:Value) (v:Value):List cJ:=match p with|.pointer (some ⟨g,_,_⟩)=>[cK g [v] S6 (0,0)]|_=>[]
def FG (v:Value) (b:du):cJ:=Ex fun M=>dI [Pu (db [M] v b),M]
theorem Jn {v:Value} {b:du} {M:cJ} {R:List cJ} (h:db [M] v b):cz (M::R) (FG v b::R) :=
 cj (na h) (cj (dR (M:=[_,_])) (fu (f:=fun M=>dI [Pu (db [M] v b),M]) M))
abbrev fI (c:dh) (va vl vf lY zM vu vm vn pV ij:Value) (mr ml mc:Nat):List Value:=pB c va vl vf lY zM vu vm vn pV ij (.int .i64 0) nL (.map (some mr)) (.map (some ml)) (.int .i64 0) nL (.bool false) (.map (some mc))
structure Ie where
 vs:List (Value × Nat × Nat)
 wd:List (Nat × Nat)
 ts:List ej
 ap:Option Addr
 kp:Nat
 aw:Option Addr
 kw:Nat
 M:cJ
def Jo (l:List (Nat × Nat)):List cJ:=l.flatMap fun p=>[de p.1 (dx []),de p.2 (dx [])]
abbrev FH (w:Nat) (vl:Value) (vs:List (Value × Nat × Nat)):List Value:=[vl,.func (.func 160) #[ptr w] #[]]++vs.flatMap fun x=>[x.1,.func (.func 161) #[] #[ptr x.2.1,ptr x.2.2]]
structure Ie.ok (i:Ie) (c:dh) (w g4 ld lk fd:Nat) (vl x:Value):Prop where
 le:i.vs.length≤c.k
 wl:i.wd.length=i.vs.length
 tl:i.ts.map (·.2)=(List.range i.vs.length).map fun j=>kN (cQ (j+1))
 hx:db [i.M] x dO
 h4:Rd [i.M] ⟨g4,0,none⟩ (ptr w)
 tx:dQ [i.M] i.ts
 lo:cE [i.M] 1 vl 3 [ptr ld,ptr lk,ptr fd]
 ps:∀ j (h:j<i.vs.length) (h2:j<i.wd.length),cE [i.M] 1 (i.vs[j]).1 2 [ptr (i.wd[j]).1,ptr (i.wd[j]).2]∧Rd [i.M] ⟨(i.vs[j]).2.1,0,none⟩ (ptr w)∧Rd [i.M] ⟨(i.vs[j]).2.2,0,none⟩ (.int .i64 (j:Int))
abbrev WG (i:Ie) (c:dh) (w gc gw ld lk fd mr ml mc:Nat) (vl x:Value) (R:List cJ):List cJ :=
 dE AJ 2 (.slice i.ap (i.vs.length+1) i.kp) (i.vs.length+1) (FH w vl i.vs)::cV (.slice i.aw i.ts.length i.kw) i.ts::dI (Jo i.wd)::cK w (fI c (.slice i.ap (i.vs.length+1) i.kp) dJ dJ (.slice (some ⟨gw,0,none⟩) c.k c.k) dJ dJ dJ dJ x (.slice i.aw i.ts.length i.kw) mr ml mc) di (0,0)::dE pY 1 (.slice (some ⟨gw,0,none⟩) c.k c.k) c.k (List.replicate c.k dJ)::dI (jK [ld,lk,fd])::iC fH mr []::iC fH ml []::iC ig mc []::i.M::cK gc (fX c) iU (0,0)::R
theorem four {A B C D X:cJ} {L':List cJ} (p:cR [A,B,C,D] X L'):cz [dI [A,B,C,D]] [X]:=cj (cT (M:=[A,B,C,D]) (L:=[])) (cG p)
theorem Ie.ok.more {i:Ie} {c:dh} {w g4 ld lk fd:Nat} {vl x:Value} (h:i.ok c w g4 ld lk fd vl x) (cO:i.vs.length<c.k) {pv vd:Value} {N:cJ} {gi d1 k1:Nat} {ap aw:Option Addr} {kp kw:Nat} (hN:db [N] pv (kN (cQ (i.vs.length+1)))) :
 Ie.ok ⟨i.vs++[(vd,g4,gi)],i.wd++[(d1,k1)],i.ts++[(pv,kN (cQ (i.vs.length+1)))],ap,kp,aw,kw,dI [i.M,N,cK gi [.int .i64 (i.vs.length:Int)] 3 (0,0),dE DJ 1 vd 2 [ptr d1,ptr k1]]⟩ c w g4 ld lk fd vl x:=by
 have f1:cz [dI [i.M,N,cK gi [.int .i64 (i.vs.length:Int)] 3 (0,0),dE DJ 1 vd 2 [ptr d1,ptr k1]]] [i.M]:=four .zero;have f2:cz [dI [i.M,N,cK gi [.int .i64 (i.vs.length:Int)] 3 (0,0),dE DJ 1 vd 2 [ptr d1,ptr k1]]] [N]:=four (.succ .zero);have f3:cz [dI [i.M,N,cK gi [.int .i64 (i.vs.length:Int)] 3 (0,0),dE DJ 1 vd 2 [ptr d1,ptr k1]]] [cK gi [.int .i64 (i.vs.length:Int)] 3 (0,0)]:=four (.succ (.succ .zero));have f4:cz [dI [i.M,N,cK gi [.int .i64 (i.vs.length:Int)] 3 (0,0),dE DJ 1 vd 2 [ptr d1,ptr k1]]] [dE DJ 1 vd 2 [ptr d1,ptr k1]]:=four (.succ (.succ (.succ .zero)));have hw:=h.wl
 constructor
 ·simp only [aa,aj];omega
 ·simp only [aa,aj];omega
 ·simp only [ah,aa,aj,List.range_succ,List.map_cons,List.map_nil,h.tl]
 ·exact h.hx.cL f1
 ·exact h.h4.cL f1
 ·intro y hy;rcases aJ.1 hy with hy|hy
  ·exact (h.tx y hy).cL f1
  ·rw [an.1 hy];exact hN.cL f2
 ·exact h.lo.cL f1
 ·intro j h1 h2;dsimp only at h1 h2 ⊢
  by_cases hj:j<i.vs.length
  ·have Gb:j<i.wd.length:=by omega
   obtain ⟨a,b,d⟩:=h.ps j hj Gb;simp only [List.getElem_append_left hj,List.getElem_append_left Gb];exact ⟨a.cL f1,b.cL f1,d.cL f1⟩
  ·rw [aa,aj] at h1
   obtain rfl:j=i.vs.length:=by omega
   have e1:(i.vs++[(vd,g4,gi)])[i.vs.length]'(by simp)=(vd,g4,gi):=by simp
   have e2:(i.wd++[(d1,k1)])[i.vs.length]'h2=(d1,k1):=by
    rw [List.getElem_append_right zo]
    simp
   rw [e1,e2];exact ⟨cE.cL (bb .zero) f4,h.h4.cL f1,Rd.cL (bP .zero rfl) f3⟩
def AK (p:Value × Value):List Value:=[p.1,p.2]
theorem zZ (p:Value × Value):(AK p).length=2:=rfl
def NN (x:Value × Nat × Nat):Value × Value:=(x.1,.func (.func 161) #[] #[ptr x.2.1,ptr x.2.2])
abbrev FI (w:Nat):Value:=.func (.func 163) #[ptr w] #[]
def AL (w:Nat) (vl:Value) (vs:List (Value × Nat × Nat)) (vu:Value):List (Value × Value):=(vl,.func (.func 160) #[ptr w] #[])::(vs.map NN++[(vu,FI w)])
theorem sO (w:Nat) (vl:Value) (vs:List (Value × Nat × Nat)) (vu:Value):(AL w vl vs vu).flatMap AK=FH w vl vs++[vu,FI w]:=by
 simp [AL,AK,NN,List.flatMap_map]
theorem FJ {w:Nat} {vl:Value} {vs:List (Value × Nat × Nat)} {vu:Value} {j:Nat} (h:j<vs.length):(AL w vl vs vu)[j+1]?=some (NN (vs[j]'h)):=by
 unfold AL;rw [List.getElem?_cons_succ,List.getElem?_append_left (by rw [ae];exact h),aL,ab h]
 rfl
theorem FK {w:Nat} {vl:Value} {vs:List (Value × Nat × Nat)} {vu:Value}:(AL w vl vs vu)[vs.length+1]?=some (vu,FI w):=by
 unfold AL;rw [List.getElem?_cons_succ,List.getElem?_append_right (by rw [ae];exact aS _),ae,Nat.sub_self]
 rfl
inductive PS where
 | zero
 | mid (gl gf:Nat) (wx:List WX)
 | all (gl gf:Nat) (wx:List WX) (gu:Nat)
def PS.idx (k:Nat):PS→Nat
 | .zero=>0
 | .mid _ _ wx=>wx.length+1
 | .all ..=>k+2
abbrev Jp:eP:=⟨[],0,gY,false⟩
abbrev XO:fM:=⟨[],0,none⟩
def WH (wd:List (Nat × Nat)) (wx:List WX):Prop:=∀ j (h:j<wx.length) (h2:j<wd.length),(wx[j]).d=(wd[j]).1∧(wx[j]).k=(wd[j]).2
def PS.ok (c:dh) (wd:List (Nat × Nat)):PS→Prop
 | .zero=>True
 | .mid _ _ wx=>wx.length≤c.k∧WH wd wx
 | .all _ _ wx _=>wx.length=c.k∧WH wd wx
def WJ (c:dh) (w:Nat) (va lY x ij:Value) (mr ml mc ld lk fd ud:Nat) (wd:List (Nat × Nat)):PS→List cJ
 | .zero=>[cK w (fI c va dJ dJ lY dJ dJ dJ dJ x ij mr ml mc) di (0,0),dE pY 1 lY c.k (List.replicate c.k dJ),de ld (dx []),de lk (dx []),de fd (dx []),dI (Jo wd),de ud (dx [])]
 | .mid gl gf wx=>[cK w (fI c va (ptr gl) (ptr gf) lY dJ dJ dJ dJ x ij mr ml mc) di (0,0),dE pY 1 lY c.k (wx.map jJ++List.replicate (c.k - wx.length) dJ),eg gf fd gl c.f ⟨[],[]⟩,cU gl ld lk (cQ 0) XO,dI (ke 0 wx (List.replicate wx.length Jp)),dI (Jo (wd.drop wx.length)),de ud (dx [])]
 | .all gl gf wx gu=>[cK w (fI c va (ptr gl) (ptr gf) lY dJ (ptr gu) dJ dJ x ij mr ml mc) di (0,0),dE pY 1 lY c.k (wx.map jJ),eg gf fd gl c.f ⟨[],[]⟩,cU gl ld lk (cQ 0) XO,dI (ke 0 wx (List.replicate wx.length Jp)),kh gu ud iT (cZ c) ⟨[]⟩]
theorem Jq {L R R':List cJ} {A B C:cJ} (p:cR L A R) (q:cR R B R') (f:∀ X,cz (A::B::X) (C::X)):cz L (C::R'):=cj p.out (cj (bh q.out) (f R'))
theorem NO {l:List (Nat × Nat)} {d k:Nat} {X:List cJ}:cz (dI (Jo l)::dI (jK [d,k])::X) (dI (Jo (l++[(d,k)]))::X):=by
 rw [show Jo (l++[(d,k)])=Jo l++jK [d,k] by simp [Jo,jK]];exact all_append
theorem Dm {P:Program} {f:FuncId} {args:Array Value} {e:World} {L R1 R2 R3 R4:List cJ} {A B C D:cJ} {Post:Value→List cJ→Prop} (p:cR L A R1) (q:cR R1 B R2) (r:cR R2 C R3) (u:cR R3 D R4) (h:Ct P f args e (A::B::C::D::R4) Post):Ct P f args e L Post :=
 h.cL (cj p.out (bh (cj q.out (bh (cj r.out (bh u.out))))))
theorem Ta {L R:List cJ} {a b d:Nat} (p:cR L (dI (jK [a,b,d])) R):cz L (de a (dx [])::de b (dx [])::de d (dx [])::R):=cj p.out (cT (M:=jK [a,b,d]))
theorem Tb {L R:List cJ} {a:Nat} (p:cR L (dI (jK [a])) R):cz L (de a (dx [])::R):=cj p.out (cT (M:=jK [a]))
theorem Tc {L R:List cJ} {q:Nat × Nat} {l:List (Nat × Nat)} (p:cR L (dI (Jo (q::l))) R):cz L (de q.1 (dx [])::de q.2 (dx [])::dI (Jo l)::R) :=
 cj p.out (cj (cT (M:=Jo (q::l))) (bh (bh (dR (M:=Jo l)))))
theorem Td:fM.ok XO:=⟨fun r hr=>(by cases hr),List.nodup_nil,aH _,fun b hb=>(by cases hb),aH _,fun x hx=>(by cases hx)⟩
theorem Te:eP.ok Jp:=⟨fun x hx=>(by cases hx),List.Pairwise.nil,fun x hx=>(by cases hx),aH _,re⟩
theorem z3 (x:WX) (s:eP):∀ (i:Nat) (xs:List WX) (ss:List eP),xs.length=ss.length→ke i (xs++[x]) (ss++[s])=ke i xs ss++[vT (i+xs.length) x s]
 | i,[],[],_=>rfl
 | i,[],_::_,h=>by simp at h
 | i,_::_,[],h=>by simp at h
 | i,y::xs,t::ss,h=>by
  simp only [List.cons_append,ke];rw [z3 x s (i+1) xs ss (by simpa using h)];simp only [aN];rw [show i+1+xs.length=i+(xs.length+1) by omega]
theorem Li {x:WX} {wx:List WX} {X:List cJ}:cz (dI (ke 0 wx (List.replicate wx.length Jp))::vT wx.length x Jp::X) (dI (ke 0 (wx++[x]) (List.replicate (wx++[x]).length Jp))::X):=by
 rw [aa,aj,List.replicate_succ',z3 x Jp 0 wx _ (by simp),aC];exact cj (bh (dR (M:=[vT wx.length x Jp]))) all_append
theorem NP {wx:List WX} {k:Nat} {x:WX} (h:wx.length<k):(wx.map jJ++List.replicate (k - wx.length) dJ).set wx.length (ptr x.g)=(wx++[x]).map jJ++List.replicate (k - (wx.length+1)) dJ:=by
 obtain ⟨m,hm⟩:∃ m,k - wx.length=m+1:=⟨k - wx.length - 1,by omega⟩
 rw [hm,show k - (wx.length+1)=m by omega,List.replicate_succ,List.set_append_right _ _ (by rw [ae];exact aS _),ae,Nat.sub_self,List.set_cons_zero]
 simp [jJ,ptr]
theorem WH.more {wd:List (Nat × Nat)} {wx:List WX} (h:WH wd wx) (hn:wx.length<wd.length) {x:WX} (hd:x.d=(wd[wx.length]'hn).1) (hk:x.k=(wd[wx.length]'hn).2):WH wd (wx++[x]):=fun j h1 h2=>by
 by_cases hj:j<wx.length
 ·simp only [List.getElem_append_left hj];exact h j hj h2
 ·rw [aa,aj] at h1
  obtain rfl:j=wx.length:=by omega
  simp only [List.getElem_concat_length];exact ⟨hd,hk⟩
theorem Tf:m8.ok ⟨[]⟩ iT:=⟨aH _,fun b hb=>(by cases hb),fun b hb=>(by cases hb),fun b hb=>(by cases hb),List.Pairwise.nil⟩
theorem Lj (R:List cJ) (e:World) (c:dh) (hc:c.ok) :
 Ct Tryz.prog 80 #[.agg (fX c).toArray] e R (fun v' L'=>∃ w,v'=.tuple #[ptr w,.int .i64 0]∧L'=dM w c 0 (pC c) []::R):=by
 have Gd:=hc.k;have hcq:=hc.ey;refine a8 (args:=[_]) Tryz.func80 rfl Tryz.ntmps80 Tryz.results80 rfl ?_
 (repeat (refine wA ?_;intros))
 rename_i gc;refine bk (id:=3) [13] (cK gc (fX c) iU (0,0)::R) Tryz.mixed ?_
 (refine tJ 0 ?_;refine tF 3 ?_;refine tL 4 ?_)
 refine A.ON (n:=0) [
  ⟨1,41,[],[],fun v _=>∃ ad k,v=.slice ad (cQ 0).length k,[(0,fun v _=>[cS v (cQ 0)])]⟩,
  ⟨2,42,[1],[0],fun _ _=>True,[(1,fun v _=>[FG v dO])]⟩,
  ⟨5,45,[2],[1],fun v ρ=>(ρ 2).oneCell'=true∧v=.agg [ρ 2,nL,.int .i64 (c.ey:Int)].toArray,[(8,fun _ ρ=>[FG (ρ 2) dO])]⟩,
  ⟨6,46,[],[],fun v _=>∃ g,v=.map (some g),[(2,PR)]⟩,
  ⟨7,47,[],[],fun v _=>∃ g,v=.map (some g),[(3,PR)]⟩,
  ⟨8,48,[6,7],[],fun v ρ=>∃ g g',ρ 6=.map (some g)∧ρ 7=.map (some g')∧v=.agg [.map (some g),.map (some g')].toArray,[]⟩,
  ⟨9,49,[],[],fun v _=>∃ g,v=.map (some g),[(4,WE)]⟩,
  ⟨10,50,[5,8,9],[],fun v ρ=>∃ x g g' PT,x.oneCell'=true∧ρ 5=.agg [x,nL,.int .i64 (c.ey:Int)].toArray∧ρ 8=.agg [.map (some g),.map (some g')].toArray∧ρ 9=.map (some PT)∧v=.agg (fI c nL dJ dJ nL dJ dJ dJ dJ x nL g g' PT).toArray,[]⟩,
  ⟨11,51,[10],[],fun v _=>∃ g,v=ptr g,[(5,fun v ρ=>S7 v (ρ 10))]⟩,
  Me 12 4 6 S6 [dJ],
  ⟨13,100013,[11,12],[6],fun _ _=>True,[(7,fun _ ρ=>S9 (ρ 12) (ρ 11))]⟩] 11 rfl zK zK ?_ zE ?_
 ·refine dl ?_ (dl ?_ (dl ?_ (dl ?_ (dl ?_ (dl ?_ (dl ?_ (dl ?_ (dl ?_ (dl ?_ (dl ?_ qf))))))))))
  ·refine ⟨_,rfl,.inl rfl,fun V σr M1 h3 hy=>?_⟩;refine bS (show cz _ (M1++(cK gc (fX c) iU (0,0)::R)) from aX) ?_;refine bg (xs:=[.const (.int .i64 0)]) (vs:=[.int .i64 0]) rfl rfl (pz _ e 0 zo) ?_;rintro _ _ ⟨ad,k,rfl,rfl⟩;exact ⟨_,rfl,⟨ad,k,rfl⟩,aX⟩
  ·refine ⟨_,rfl,.inl rfl,fun V σr M1 h3 hy=>?_⟩;obtain ⟨s1,ad,k,hv⟩:=hy _ (az (i:=0) rfl) (az (i:=0) rfl) (fx rfl);dsimp only at s1 hv
   refine bS (show cz _ (cS (V 1) (cQ 0)::(M1++(cK gc (fX c) iU (0,0)::R))) from aX) ?_;rw [hv] at s1 ⊢
   refine bg (OO s1) rfl (l8 _ e _ (cQ 0) (bb .zero) (py 0)) ?_;rintro v2 _ ⟨N,rfl,hN⟩;exact ⟨_,rfl,trivial,cj (Jn hN) (bh (cz.drop aX))⟩
  ·refine ⟨_,rfl,.inl rfl,fun V σr M1 h3 hy=>?_⟩;obtain ⟨s2,-⟩:=hy _ (az (i:=1) rfl) (az (i:=0) rfl) (fx rfl);have s44:=h3 44 _ rfl;dsimp only at s2
   refine bS (show cz _ (FG (V 2) dO::(M1++(cK gc (fX c) iU (0,0)::R))) from aX) ?_;unfold FG;refine Do.T3 fun N=>?_
   refine bS cT ?_;refine Do.Vj fun hN=>?_
   refine Do.OP (cn (hN.cL (cG .zero))) fun o=>?_
   exact bN (v:=.agg [V 2,nL,.int .i64 (c.ey:Int)].toArray) (bL (parts:=[(0,.tmp 42),(2,.tmp 44)]) (vs:=[(0,V 2),(2,.int .i64 (c.ey:Int))]) (by simp [uU,ev,s2,s44]) (by simp [Instr.fill,BS,eQ o])) rfl ⟨_,rfl,⟨o,rfl⟩,Jn hN⟩
  ·exact ⟨_,rfl,.inl rfl,fun V σr M1 h3 hy=>Do.qw fH rfl fun g=>⟨_,rfl,⟨g,rfl⟩,aX⟩⟩
  ·exact ⟨_,rfl,.inl rfl,fun V σr M1 h3 hy=>Do.qw fH rfl fun g=>⟨_,rfl,⟨g,rfl⟩,aX⟩⟩
  ·refine ⟨_,rfl,.inl rfl,fun V σr M1 h3 hy=>?_⟩;obtain ⟨s6,g,IJ⟩:=hy _ (az (i:=3) rfl) (az (i:=0) rfl) (fx rfl);obtain ⟨s7,g',hv7⟩:=hy _ (az (i:=4) rfl) (az (i:=1) rfl) (fx rfl);dsimp only at s6 IJ s7 hv7
   rw [IJ] at s6
   rw [hv7] at s7
   exact bN (v:=.agg [.map (some g),.map (some g')].toArray) (bL (parts:=[(0,.tmp 46),(1,.tmp 47)]) (vs:=[(0,.map (some g)),(1,.map (some g'))]) (by simp [uU,ev,s6,s7]) (by simp [Instr.fill,Value.cells])) rfl ⟨_,rfl,⟨g,g',IJ,hv7,rfl⟩,aX⟩
  ·exact ⟨_,rfl,.inl rfl,fun V σr M1 h3 hy=>Do.qw ig rfl fun g=>⟨_,rfl,⟨g,rfl⟩,aX⟩⟩
  ·refine ⟨_,rfl,.inl rfl,fun V σr M1 h3 hy=>?_⟩;obtain ⟨s5,o,QO⟩:=hy _ (az (i:=2) rfl) (az (i:=0) rfl) (fx rfl);obtain ⟨s8,g,g',-,-,Ua⟩:=hy _ (az (i:=5) rfl) (az (i:=1) rfl) (fx rfl);obtain ⟨s9,PT,hv9⟩:=hy _ (az (i:=6) rfl) (az (i:=2) rfl) (fx rfl);have s40:=h3 40 _ rfl;dsimp only at s5 o QO s8 Ua s9 hv9
   generalize fJ [2] V 2=x at o QO
   rw [QO] at s5
   rw [Ua] at s8
   rw [hv9] at s9
   refine bN (v:=.agg (fI c nL dJ dJ nL dJ dJ dJ dJ x nL g g' PT).toArray) (bL (parts:=[(0,.tmp 40),(9,.tmp 45),(12,.tmp 48),(15,.tmp 49)]) (vs:=[(0,.agg (fX c).toArray),(9,.agg [x,nL,.int .i64 (c.ey:Int)].toArray),(12,.agg [.map (some g),.map (some g')].toArray),(15,.map (some PT))]) (by simp [uU,ev,s5,s8,s9,s40]) (by simp [Instr.fill,Value.cells])) rfl ⟨_,rfl,⟨x,g,g',PT,o,QO,Ua,hv9,rfl⟩,aX⟩
  ·refine ⟨_,rfl,.inl rfl,fun V σr M1 h3 hy=>?_⟩;obtain ⟨s10,x,g0,g',PT,o,-,-,-,hv⟩:=hy _ (az (i:=7) rfl) (az (i:=0) rfl) (fx rfl);dsimp only at s10 hv
   have hw:fJ [10] V 10=.agg (fI c nL dJ dJ nL dJ dJ dJ dJ x nL g0 g' PT).toArray:=hv;rw [hv] at s10
   refine Do.box s10 rfl rfl fun g=>⟨_,rfl,⟨g,rfl⟩,?_⟩
   refine cj (show cz _ (cK g (fI c nL dJ dJ nL dJ dJ dJ dJ x nL g0 g' PT) di (0,0)::(M1++(cK gc (fX c) iU (0,0)::R))) from aX) ?_
   show cz _ ((S7 (ptr g) (fJ [10] V 10)++[])++(M1++(cK gc (fX c) iU (0,0)::R)))
   rw [hw];exact aX
  ·exact Ch rfl (.inl rfl) rfl rfl rfl
  ·refine ⟨_,rfl,.inl rfl,fun V σr M1 h3 hy=>?_⟩;obtain ⟨ME,g,Ke⟩:=hy _ (az (i:=8) rfl) (az (i:=0) rfl) (fx rfl);obtain ⟨Si,g4,Tg⟩:=hy _ (az (i:=9) rfl) (az (i:=1) rfl) (fx rfl);dsimp only at ME Ke Si Tg
   have Vr:fJ [11,12] V 11=ptr g:=Ke;have Vs:fJ [11,12] V 12=ptr g4:=Tg;refine bS (show cz _ ((Cg [dJ] S6 (V 12) V++[])++(M1++(cK gc (fX c) iU (0,0)::R))) from aX) ?_;rw [Tg] at Si ⊢
   rw [Ke] at ME
   refine bS (show cz _ (cK g4 [dJ] S6 (0,0)::(M1++(cK gc (fX c) iU (0,0)::R))) from aX) ?_;refine b7 (cs':=[ptr g]) Si ME rfl .zero gx.zero ⟨dJ,rfl,trivial,?_⟩
   show cz _ ((S9 (fJ [11,12] V 12) (fJ [11,12] V 11)++[])++(M1++(cK gc (fX c) iU (0,0)::R)))
   rw [Vr,Vs];exact aX
 intro V hV;obtain ⟨-,v5⟩:=hV _ (az (i:=2) rfl);obtain ⟨mr,v6⟩:=hV _ (az (i:=3) rfl);obtain ⟨ml,v7⟩:=hV _ (az (i:=4) rfl);obtain ⟨a1,a2,w6,w7,v8⟩:=hV _ (az (i:=5) rfl);obtain ⟨mc,v9⟩:=hV _ (az (i:=6) rfl);obtain ⟨x,b1,b2,b3,o1,w5,w8,w9,v10⟩:=hV _ (az (i:=7) rfl);obtain ⟨w,v11⟩:=hV _ (az (i:=8) rfl);obtain ⟨g4,v12⟩:=hV _ (az (i:=9) rfl);clear hV;dsimp only at v5 v6 v7 v8 v9 v10 v11 v12
 have v2:V 2=x:=by
  have h:V 5=_:=w5;rw [v5] at h
  have h2:fJ [2] V 2=x:=by simpa using h
  exact h2
 have q6:V 6=_:=w6;have q7:V 7=_:=w7;have q8:V 8=_:=w8;have q9:V 9=_:=w9;rw [v6] at q6
 rw [v7] at q7
 rw [v9] at q9
 rw [v8] at q8
 cases q6
 cases q7
 cases q9
 simp only [Value.agg.injEq,List.toArray_inj,List.cons.injEq,Value.map.injEq,Option.some.injEq,and_true] at q8
 obtain ⟨rfl,rfl⟩:=q8;clear v5 v8 w5 w6 w7 w8 w9;refine A.fo (show cz _ (([FG (V 2) dO]++(PR (V 6) V++(PR (V 7) V++(WE (V 9) V++(S7 (V 11) (V 10)++(S9 (V 12) (V 11)++[]))))))++(cK gc (fX c) iU (0,0)::R)) from aX) ?_;simp only [kW,Nat.reduceLT,if_true,if_false,List.cons_append,List.nil_append];rw [v2,v6,v7,v9,v10,v11,v12];refine A.fo (show cz _ (FG x dO::iC fH mr []::iC fH ml []::iC ig mc []::cK w (fI c nL dJ dJ nL dJ dJ dJ dJ x nL mr ml mc) di (0,0)::cK g4 [ptr w] S6 (0,0)::cK gc (fX c) iU (0,0)::R) from aX) ?_;unfold FG;refine A.T3 fun N=>?_
 refine A.fo cT ?_;refine A.Vj fun hN=>?_
 obtain ⟨M,hM⟩:∃ M:cJ,M=dI [N,cK g4 [ptr w] S6 (0,0)]:=⟨_,rfl⟩
 have hx:db [M] x dO:=by rw [hM];exact hN.cL Fx
 have h4:Rd [M] ⟨g4,0,none⟩ (ptr w):=by rw [hM];exact Rd.cL (bP .zero rfl) Fy
 have h4r:Rd (M::cK gc (fX c) iU (0,0)::R) ⟨g4,0,none⟩ (ptr w):=h4.cL (cG .zero);refine A.fo (show cz _ (dE AJ 2 nL 0 []::cK w (fI c nL dJ dJ nL dJ dJ dJ dJ x nL mr ml mc) di (0,0)::iC fH mr []::iC fH ml []::iC ig mc []::M::cK gc (fX c) iU (0,0)::R) from ?_) ?_
 ·rw [hM];exact cj (ep (A:=N) (B:=cK g4 [ptr w] S6 (0,0)) zP zP) (cj (dv AJ 2) zE)
 refine bf zK ?_;refine Fin.next ?_;refine W.fe [(1,ptr gc),(4,ptr g4)] zS ?_;clear v2 v6 v7 v9 v10 v11 v12 V;clear hN hM N
 (repeat (refine wA ?_;intros))
 refine bk (id:=4) [13,14,15] (cK w (fI c nL dJ dJ nL dJ dJ dJ dJ x nL mr ml mc) di (0,0)::M::cK gc (fX c) iU (0,0)::R) Tryz.mixed ?_
 (refine tL 0 ?_;refine tL 1 ?_;refine tN 2 ?_;refine tF 3 ?_;refine tL 4 ?_;refine tF 5 ?_;refine tL 6 ?_;refine tL 8 ?_)
 refine tk 9 _ rfl (cD.makeFunc rfl rfl) ?_;refine tO 7 ?_;refine bg rfl rfl (qK _ e 3 zo) ?_;rintro _ _ ⟨ad,kd,gs,rfl,CF,rfl⟩
 obtain ⟨ld,lk,fd,rfl⟩:∃ a b d,gs=[a,b,d]:=by
  match gs,CF with
  | [a,b,d],_=>exact ⟨a,b,d,rfl⟩
 refine ⟨fun _=>zE,?_⟩;refine tk 10 _ rfl (bL rfl zF) ?_;refine tO 11 ?_;refine bE (n:=2) (cs:=[.slice ad 3 kd,.func (.func 160) #[ptr w] #[]]) rfl rfl rfl rfl zQ rfl (fun gb=>⟨fun _=>zE,?_⟩);refine tO 12 ?_;refine bo rfl rfl rfl (show cR _ (dE AJ 2 nL 0 []) _ from zP) (bO (n:=2) (c:=1) zP rfl zl) rfl rfl zO zm zo fun ap kp _=>⟨fun _=>zE,?_⟩
 ((refine tO 13 ?_;refine dV (bn rfl) ?_);(refine tO 14 ?_;refine dV (ba rfl) ?_);(refine tO 15 ?_;refine tf ?_;refine ⟨zN,?_⟩))
 refine bf zK ?_;refine Fin.next ?_;refine W.fe [(1,ptr gc),(4,ptr g4)] zS ?_;obtain ⟨vl,Be⟩:∃ vl:Value,vl=.slice ad 3 kd:=⟨_,rfl⟩
 have hvo:vl.oneCell'=true:=by rw [Be];rfl
 refine W.fo (show cz _ (dE AJ 2 (.slice ap 1 kp) 1 (FH w vl [])::dE DJ 1 vl 3 [ptr ld,ptr lk,ptr fd]::dI (jK [ld,lk,fd])::cK w (fI c (.slice ap 1 kp) dJ dJ nL dJ dJ dJ dJ x nL mr ml mc) di (0,0)::iC fH mr []::iC fH ml []::iC ig mc []::M::cK gc (fX c) iU (0,0)::R) from by rw [Be];exact zE) ?_;clear Be CF
 (repeat (refine wA ?_;intros))
 refine bk (id:=5) [4,5,6] (M::cK gc (fX c) iU (0,0)::R) Tryz.mixed ?_
 (refine tL 0 ?_;refine tF 1 ?_;refine tL 2 ?_)
 refine tO 3 ?_;refine Do.makeSlice rfl rfl rfl rfl zm zo fun gw=>⟨fun _=>zE,?_⟩
 ((refine tO 4 ?_;refine dV (bn rfl) ?_);(refine tO 5 ?_;refine dV (ba rfl) ?_);(refine tO 6 ?_;refine tf ?_;refine ⟨zN,?_⟩))
 refine bf zK ?_;refine wB ?_;refine bq (ι:=Ie) (fun i=>[(1,ptr gc),(4,ptr g4),(77,.int .i64 (c.k:Int)),(78,.int .i64 (i.vs.length:Int))]) (fun i=>WG i c w gc gw ld lk fd mr ml mc vl x R) (fun i=>i.ok c w g4 ld lk fd vl x) (fun i=>c.k - i.vs.length) ⟨[],[],[],ap,kp,none,0,dI [M,dE DJ 1 vl 3 [ptr ld,ptr lk,ptr fd]]⟩ ⟨aH _,rfl,rfl,hx.cL Fx,h4.cL Fx,(fun y hy=>by cases hy),cE.cL (bb .zero) Fy,fun j h=>absurd h (Nat.not_lt_zero _)⟩ zS (cj (ep (A:=M) (B:=dE DJ 1 vl 3 [ptr ld,ptr lk,ptr fd]) zP zP) (cj (dv ez 1) (cj (dR (M:=[])) zE))) ?_;clear hx h4 h4r;rintro i hi;have hle:=hi.le;have h4r:Rd (i.M::cK gc (fX c) iU (0,0)::R) ⟨g4,0,none⟩ (ptr w):=hi.h4.cL (cG .zero);have oH:i.ts.length=i.vs.length:=by have:=congrArg List.length hi.tl;simpa using this
 by_cases cO:i.vs.length<c.k
 rotate_left
 ·have KN:i.vs.length=c.k:=by omega
  refine wB ?_;refine bk (id:=12) [13,14,15] (cK w (fI c (.slice i.ap (i.vs.length+1) i.kp) dJ dJ (.slice (some ⟨gw,0,none⟩) c.k c.k) dJ dJ dJ dJ x (.slice i.aw i.ts.length i.kw) mr ml mc) di (0,0)::i.M::cK gc (fX c) iU (0,0)::R) Tryz.mixed ?_
  (refine tL 0 ?_;refine tL 1 ?_;refine tN 2 ?_;refine tF 3 ?_;refine tL 4 ?_;refine tF 5 ?_;refine tL 6 ?_;refine tL 8 ?_)
  refine tk 9 _ rfl (cD.makeFunc rfl rfl) ?_;refine tO 7 ?_;refine bg rfl rfl (qK _ e 1 zo) ?_;rintro _ _ ⟨eJ,WK,gs,rfl,CF,rfl⟩
  obtain ⟨ud,rfl⟩:∃ a,gs=[a]:=by
   match gs,CF with
   | [a],_=>exact ⟨a,rfl⟩
  refine ⟨fun _=>zE,?_⟩;refine tk 10 _ rfl (bL rfl zF) ?_;refine tO 11 ?_;refine bE (n:=2) (cs:=[.slice eJ 1 WK,FI w]) rfl rfl rfl rfl zQ rfl (fun gb3=>⟨fun _=>zE,?_⟩);refine tO 12 ?_;refine bo rfl rfl rfl (show cR _ (dE AJ 2 (.slice i.ap (i.vs.length+1) i.kp) (i.vs.length+1) (FH w vl i.vs)) _ from zP) (bO (n:=2) (c:=1) zP rfl zl) rfl rfl zO zm zo fun ap2 nt _=>⟨fun _=>zE,?_⟩
  ((refine tO 13 ?_;refine dV (bn rfl) ?_);(refine tO 14 ?_;refine dV (ba rfl) ?_);(refine tO 15 ?_;refine tf ?_;refine ⟨zN,?_⟩))
  refine bf zK ?_;refine Fin.next ?_;refine W.fe [(1,ptr gc),(4,ptr g4)] zS ?_;refine W.cB ((bb (show cR _ (dE AJ 2 (.slice ap2 (i.vs.length+1+1) nt) (i.vs.length+1+1) (FH w vl i.vs++[.slice eJ 1 WK,FI w])) _ from zP)).shape zo) ?_;rintro ⟨⟨lM,c',lU,q3,q4,q5,q6⟩,_⟩
  cases lU
  rcases q6 with q6|⟨gp,op,rfl⟩
  ·omega
  clear q3 q4 q5;obtain ⟨vu,Up⟩:∃ vu:Value,vu=.slice eJ 1 WK:=⟨_,rfl⟩
  obtain ⟨ij,WL⟩:∃ v:Value,v=.slice i.aw i.ts.length i.kw:=⟨_,rfl⟩
  obtain ⟨M2,CJ⟩:∃ M2:cJ,M2=dI [i.M,dE AJ 2 (.slice (some ⟨gp,op,none⟩) (c.k+2) nt) (c.k+2) ((AL w vl i.vs vu).flatMap AK),cV ij i.ts,dE DJ 1 vu 1 [ptr ud]]:=⟨_,rfl⟩
  refine W.fo (show cz _ (cK w (fI c (.slice (some ⟨gp,op,none⟩) (c.k+2) nt) dJ dJ (.slice (some ⟨gw,0,none⟩) c.k c.k) dJ dJ dJ dJ x ij mr ml mc) di (0,0)::dE pY 1 (.slice (some ⟨gw,0,none⟩) c.k c.k) c.k (List.replicate c.k dJ)::dI (jK [ld,lk,fd])::dI (Jo i.wd)::dI (jK [ud])::iC fH mr []::iC fH ml []::iC ig mc []::M2::cK gc (fX c) iU (0,0)::R) from ?_) ?_
  ·rw [CJ,Up,WL,sO,KN];exact cj (rf (A:=i.M) (B:=dE AJ 2 (.slice (some ⟨gp,op,none⟩) (c.k+2) nt) (c.k+2) (FH w vl i.vs++[.slice eJ 1 WK,FI w])) (C:=cV (.slice i.aw i.ts.length i.kw) i.ts) (D:=dE DJ 1 (.slice eJ 1 WK) 1 [ptr ud]) zP zP zP zP) zE
  have g1:cz [M2] [i.M]:=by rw [CJ];exact four .zero
  have IG:db [M2] x dO:=hi.hx.cL g1;have h42:Rd [M2] ⟨g4,0,none⟩ (ptr w):=hi.h4.cL g1;have vW:cE [M2] 2 (.slice (some ⟨gp,op,none⟩) (c.k+2) nt) (c.k+2) ((AL w vl i.vs vu).flatMap AK):=by rw [CJ];exact cE.cL (bb .zero) (four (.succ .zero))
  have Ff:j7 [M2] x ij (cZ c):=by
   refine ⟨IG,i.ts,?_,?_,fun y hy=>(hi.tx y hy).cL g1⟩
   ·rw [hi.tl,KN];rfl
   ·rw [CJ];exact cE.cL (bb .zero) (four (.succ (.succ .zero)))
  have NQ:cE [M2] 1 vu 1 [ptr ud]:=by rw [CJ];exact cE.cL (bb .zero) (four (.succ (.succ (.succ .zero))))
  have vy:cE [M2] 1 vl 3 [ptr ld,ptr lk,ptr fd]:=hi.lo.cL g1
  have QK:∀ j (h:j<i.vs.length) (h2:j<i.wd.length),cE [M2] 1 (i.vs[j]).1 2 [ptr (i.wd[j]).1,ptr (i.wd[j]).2]∧Rd [M2] ⟨(i.vs[j]).2.1,0,none⟩ (ptr w)∧Rd [M2] ⟨(i.vs[j]).2.2,0,none⟩ (.int .i64 (j:Int)):=fun j h h2=>by
   obtain ⟨a,b,d⟩:=hi.ps j h h2;exact ⟨a.cL g1,b.cL g1,d.cL g1⟩
  have C7:=hi.wl;have h4r:Rd (M2::cK gc (fX c) iU (0,0)::R) ⟨g4,0,none⟩ (ptr w):=h42.cL (cG .zero);clear CJ Up WL g1 hi oH hle
  generalize i.vs=vs at *
  generalize i.wd=wd at *
  refine W.cB ((vy.cL (cG zP)).shape zo) ?_;rintro ⟨⟨xl,cl,rfl,-,-,-,q6⟩,_⟩;rcases q6 with q6|⟨gd,od,rfl⟩
  ·omega
  refine W.cB ((NQ.cL (cG zP)).shape zo) ?_;rintro ⟨⟨m7,cu,rfl,-,-,-,q6⟩,_⟩;rcases q6 with q6|⟨Uq,Ur,rfl⟩
  ·omega
  have r0:dZ (M2::cK gc (fX c) iU (0,0)::R) gp (op+0*2) [.slice (some ⟨gd,od,none⟩) 3 cl,.func (.func 160) #[ptr w] #[]]:=dZ.elem (vW.cL (cG .zero)) zZ (j:=0) rfl;have s0:Rd [M2] ⟨gp,op,none⟩ (.slice (some ⟨gd,od,none⟩) 3 cl):=cE.elemOf vW zZ (j:=0) (i:=0) rfl rfl;refine wB ?_;refine bq (ι:=PS) (fun j=>[(1,ptr gc),(4,ptr g4),(129,.slice (some ⟨gp,op,none⟩) (c.k+2) nt),(130,.int .i64 ((c.k+2:Nat):Int)),(131,.int .i64 (j.idx c.k:Int))]) (fun j=>WJ c w (.slice (some ⟨gp,op,none⟩) (c.k+2) nt) (.slice (some ⟨gw,0,none⟩) c.k c.k) x ij mr ml mc ld lk fd ud wd j++(iC fH mr []::iC fH ml []::iC ig mc []::M2::cK gc (fX c) iU (0,0)::R)) (fun j=>j.ok c wd) (fun j=>c.k+2 - j.idx c.k) .zero trivial zS ?_ ?_
  ·simp only [WJ,List.cons_append,List.nil_append];exact cj (Ta (a:=ld) (b:=lk) (d:=fd) zP) (cj (Tb (a:=ud) zP) zE)
  rintro j hj
  cases j with
  | zero =>
   simp only [WJ,PS.idx,List.cons_append,List.nil_append]
   (repeat (refine wA ?_;intros))
   rename_i g7;refine O.gB (us:=[ptr w]) (ws:=[]) (vs:=[]) rfl rfl rfl (Dm zP zP zP zP (uK _ e w c hc dJ dJ (.slice (some ⟨gw,0,none⟩) c.k c.k) dJ dJ dJ dJ x ij (.int .i64 0) nL (.map (some mr)) (.map (some ml)) (.int .i64 0) nL (.bool false) (.map (some mc)) gp op (c.k+2) nt gd od cl ld lk fd XO [] zo (s0.cL (cG zP)) ((vy.elem (j:=0) rfl).cL (cG zP)) ((vy.elem (j:=1) rfl).cL (cG zP)) ((vy.elem (j:=2) rfl).cL (cG zP)) Td (aH _) (fun b hb=>by cases hb))) ?_;rintro _ _ ⟨rfl,gl,gf,rfl⟩;refine wB ?_;refine bi (.mid gl gf []) ⟨aH _,fun j h=>absurd h (Nat.not_lt_zero _)⟩ zd zS ?_;refine cj (dR (M:=[])) ?_;exact zE
  | mid gl gf wx =>
   obtain ⟨PA,XP⟩:=hj;simp only [WJ,PS.idx,List.cons_append,List.nil_append]
   by_cases hw:wx.length<c.k
   ·have hn:wx.length<vs.length:=by omega
    have F9:wx.length<wd.length:=by omega
    obtain ⟨p1,p2,p3⟩:=QK wx.length hn F9;have u6:=FJ (w:=w) (vl:=.slice (some ⟨gd,od,none⟩) 3 cl) (vu:=.slice (some ⟨Uq,Ur,none⟩) 1 cu) hn;have Ef:=List.drop_eq_getElem_cons F9;have hwm:=fun x=>XP.more F9 (x:=x)
    generalize vs[wx.length]'hn=y at p1 p2 p3 u6
    generalize wd[wx.length]'F9=q at p1 Ef hwm
    obtain ⟨vd,xw,xi⟩:=y;obtain ⟨d1,k1⟩:=q;dsimp only at p1 p2 p3 hwm
    rw [Ef];refine W.cB ((p1.cL (cG zP)).shape zo) ?_;rintro ⟨⟨wu,cv,rfl,-,-,-,q6⟩,_⟩;rcases q6 with q6|⟨gv,ov,rfl⟩
    ·omega
    have r1:dZ (M2::cK gc (fX c) iU (0,0)::R) gp (op+(wx.length+1)*2) [.slice (some ⟨gv,ov,none⟩) 2 cv,.func (.func 161) #[] #[ptr xw,ptr xi]]:=dZ.elem (vW.cL (cG .zero)) zZ (j:=wx.length+1) u6;have s1:Rd [M2] ⟨gp,op+(wx.length+1)*2,none⟩ (.slice (some ⟨gv,ov,none⟩) 2 cv):=cE.elemOf vW zZ (j:=wx.length+1) (i:=0) u6 rfl;refine W.fo (Tc (q:=(d1,k1)) (l:=wd.drop (wx.length+1)) zP) ?_
    (repeat (refine wA ?_;intros))
    rename_i g7;refine O.gB (us:=[]) (ws:=[ptr xw,ptr xi]) (vs:=[]) rfl rfl rfl (Dm zP zP zP zP (uL _ e w c (ptr gl) (ptr gf) dJ dJ dJ dJ x ij (.int .i64 0) nL (.map (some mr)) (.map (some ml)) (.int .i64 0) nL (.bool false) (.map (some mc)) gp op (c.k+2) nt gv ov cv d1 k1 wx.length gw c.k c.k xw xi (wx.map jJ++List.replicate (c.k - wx.length) dJ) Jp zo zo hw (by simp;omega) (p2.cL (cG zP)) (p3.cL (cG zP)) (s1.cL (cG zP)) ((p1.elem (j:=0) rfl).cL (cG zP)) ((p1.elem (j:=1) rfl).cL (cG zP)) (IG.cL (cG zP)) Te (aH _))) ?_;rintro _ _ ⟨rfl,g,rfl⟩;rw [show (wx.map jJ++List.replicate (c.k - wx.length) dJ).set wx.length (ptr g)=_ from NP (x:=⟨g,d1,k1⟩) hw];refine wB ?_;refine bi (.mid gl gf (wx++[⟨g,d1,k1⟩])) ⟨by rw [aa,aj];omega,hwm _ rfl rfl⟩ (by dsimp only;rw [aa,aj];omega) ?_ ?_
    ·simp only [aa,aj];exact zS
    ·dsimp only;simp only [List.cons_append,List.nil_append];refine cj (Jq (A:=dI (ke 0 wx (List.replicate wx.length Jp))) (B:=vT wx.length ⟨g,d1,k1⟩ Jp) zP zP fun X=>Li) ?_;simp only [aa,aj];exact zE
   ·have Th:wx.length=c.k:=by omega
    have u6:=FK (w:=w) (vl:=.slice (some ⟨gd,od,none⟩) 3 cl) (vs:=vs) (vu:=.slice (some ⟨Uq,Ur,none⟩) 1 cu);rw [KN] at u6
    have r1:dZ (M2::cK gc (fX c) iU (0,0)::R) gp (op+(c.k+1)*2) [.slice (some ⟨Uq,Ur,none⟩) 1 cu,FI w]:=dZ.elem (vW.cL (cG .zero)) zZ (j:=c.k+1) u6;have s1:Rd [M2] ⟨gp,op+(c.k+1)*2,none⟩ (.slice (some ⟨Uq,Ur,none⟩) 1 cu):=cE.elemOf vW zZ (j:=c.k+1) (i:=0) u6 rfl;rw [Th,Nat.sub_self,List.replicate_zero,aK]
    (repeat (refine wA ?_;intros))
    rename_i g7;refine O.gB (us:=[ptr w]) (ws:=[]) (vs:=[]) rfl rfl rfl (Ct.AR zP zP (oD _ e w c hc (ptr gl) (ptr gf) (.slice (some ⟨gw,0,none⟩) c.k c.k) dJ dJ dJ dJ x ij (.int .i64 0) nL (.map (some mr)) (.map (some ml)) (.int .i64 0) nL (.bool false) (.map (some mc)) gp op nt Uq Ur cu ud ⟨[]⟩ (s1.cL (cG zP)) ((NQ.elem (j:=0) rfl).cL (cG zP)) (Ff.cL (cG zP)) Tf)) ?_;rintro _ _ ⟨rfl,gu,rfl⟩;refine wB ?_;refine bi (.all gl gf wx gu) ⟨Th,XP⟩ zd zS ?_;dsimp only;simp only [List.cons_append,List.nil_append];rw [Th];exact zE
  | all gl gf wx gu =>
   obtain ⟨PA,XP⟩:=hj;simp only [WJ,PS.idx,List.cons_append,List.nil_append];rw [PA];clear r0 s0;refine wB ?_;obtain ⟨XQ,Ti⟩:∃ X:cJ,X=Ex fun v:Value=>cK w (fI c (.slice (some ⟨gp,op,none⟩) (c.k+2) nt) (ptr gl) (ptr gf) (.slice (some ⟨gw,0,none⟩) c.k c.k) v (ptr gu) dJ dJ x ij mr ml mc) di (0,0):=⟨_,rfl⟩
   have hE:∀ (v:Value) (X:List cJ),cz (cK w (fI c (.slice (some ⟨gp,op,none⟩) (c.k+2) nt) (ptr gl) (ptr gf) (.slice (some ⟨gw,0,none⟩) c.k c.k) v (ptr gu) dJ dJ x ij mr ml mc) di (0,0)::X) (XQ::X):=fun v X=>by rw [Ti];exact fu (f:=fun v:Value=>cK w (fI c (.slice (some ⟨gp,op,none⟩) (c.k+2) nt) (ptr gl) (ptr gf) (.slice (some ⟨gw,0,none⟩) c.k c.k) v (ptr gu) dJ dJ x ij mr ml mc) di (0,0)) v
   have rA:dZ (XQ::M2::cK gc (fX c) iU (0,0)::R) w (0+16) [x,ij,.int .i64 (c.ey:Int)]:=by rw [Ti];exact dZ.ex fun v=>dZ.fQ .zero ⟨3,rfl⟩
   refine bk (id:=21) [14] (XQ::M2::cK gc (fX c) iU (0,0)::R) Tryz.mixed ?_;refine bG 0 _ rfl zK (cj (bw (show cR _ (cK w (fI c (.slice (some ⟨gp,op,none⟩) (c.k+2) nt) (ptr gl) (ptr gf) (.slice (some ⟨gw,0,none⟩) c.k c.k) dJ (ptr gu) dJ dJ x ij mr ml mc) di (0,0)) _ from zP) aX) (cj ((hE dJ) _) zE)) (bp rfl zR) rfl ?_;refine bG 1 _ rfl zK (cj (bw (show cR _ (cK w (fI c (.slice (some ⟨gp,op,none⟩) (c.k+2) nt) (ptr gl) (ptr gf) (.slice (some ⟨gw,0,none⟩) c.k c.k) dJ (ptr gu) dJ dJ x ij mr ml mc) di (0,0)) _ from zP) aX) (cj ((hE dJ) _) zE)) (bp rfl zR) rfl ?_;refine bG 2 _ rfl zK (cj (bw (show cR _ (cK w (fI c (.slice (some ⟨gp,op,none⟩) (c.k+2) nt) (ptr gl) (ptr gf) (.slice (some ⟨gw,0,none⟩) c.k c.k) dJ (ptr gu) dJ dJ x ij mr ml mc) di (0,0)) _ from zP) aX) (cj ((hE dJ) _) zE)) (bn rfl) rfl ?_;refine bG 3 _ rfl zK (cj (bw (show cR _ (cK w (fI c (.slice (some ⟨gp,op,none⟩) (c.k+2) nt) (ptr gl) (ptr gf) (.slice (some ⟨gw,0,none⟩) c.k c.k) dJ (ptr gu) dJ dJ x ij mr ml mc) di (0,0)) _ from zP) aX) (cj ((hE dJ) _) zE)) (ba rfl) rfl ?_;refine bG 4 _ rfl zK (cj (bw (show cR _ (cK w (fI c (.slice (some ⟨gp,op,none⟩) (c.k+2) nt) (ptr gl) (ptr gf) (.slice (some ⟨gw,0,none⟩) c.k c.k) dJ (ptr gu) dJ dJ x ij mr ml mc) di (0,0)) _ from zP) aX) (cj ((hE dJ) _) zE)) (cD.dy rfl rA rfl) rfl ?_
   refine bG 5 _ rfl zK (cj (bw (show cR _ (cK w (fI c (.slice (some ⟨gp,op,none⟩) (c.k+2) nt) (ptr gl) (ptr gf) (.slice (some ⟨gw,0,none⟩) c.k c.k) dJ (ptr gu) dJ dJ x ij mr ml mc) di (0,0)) _ from zP) aX) (cj ((hE dJ) _) zE)) (ba rfl) rfl ?_;refine bG 6 _ rfl zK (cj (bw (show cR _ (cK w (fI c (.slice (some ⟨gp,op,none⟩) (c.k+2) nt) (ptr gl) (ptr gf) (.slice (some ⟨gw,0,none⟩) c.k c.k) dJ (ptr gu) dJ dJ x ij mr ml mc) di (0,0)) _ from zP) aX) (cj ((hE dJ) _) zE)) (bp rfl zR) rfl ?_;refine tO 7 ?_;refine bg rfl rfl (KU _ e x ij (cZ c) c.retry (Ff.cL (cG zP)) hc.wV hc.retry.1 hc.retry.2) ?_;rintro _ _ ⟨mE,rfl,rfl⟩;rw [lj];refine ⟨fun _=>(cj (bw (show cR _ (cK w (fI c (.slice (some ⟨gp,op,none⟩) (c.k+2) nt) (ptr gl) (ptr gf) (.slice (some ⟨gw,0,none⟩) c.k c.k) dJ (ptr gu) dJ dJ x ij mr ml mc) di (0,0)) _ from zP) aX) (cj ((hE dJ) _) zE)),?_⟩;refine bG 8 _ rfl zK (cj (bw (show cR _ (cK w (fI c (.slice (some ⟨gp,op,none⟩) (c.k+2) nt) (ptr gl) (ptr gf) (.slice (some ⟨gw,0,none⟩) c.k c.k) dJ (ptr gu) dJ dJ x ij mr ml mc) di (0,0)) _ from zP) aX) (cj ((hE dJ) _) zE)) (bu rfl) rfl ?_;refine bG 9 _ rfl zK (cj (bw (show cR _ (cK w (fI c (.slice (some ⟨gp,op,none⟩) (c.k+2) nt) (ptr gl) (ptr gf) (.slice (some ⟨gw,0,none⟩) c.k c.k) dJ (ptr gu) dJ dJ x ij mr ml mc) di (0,0)) _ from zP) aX) (cj ((hE dJ) _) zE)) (bl rfl rfl) rfl ?_
   refine bG 10 _ rfl zK (cj (bw (show cR _ (cK w (fI c (.slice (some ⟨gp,op,none⟩) (c.k+2) nt) (ptr gl) (ptr gf) (.slice (some ⟨gw,0,none⟩) c.k c.k) dJ (ptr gu) dJ dJ x ij mr ml mc) di (0,0)) _ from zP) aX) (cj ((hE dJ) _) zE)) (bl rfl rfl) rfl ?_;refine bG 11 _ rfl zK (cj (bw (show cR _ (cK w (fI c (.slice (some ⟨gp,op,none⟩) (c.k+2) nt) (ptr gl) (ptr gf) (.slice (some ⟨gw,0,none⟩) c.k c.k) dJ (ptr gu) dJ dJ x ij mr ml mc) di (0,0)) _ from zP) aX) (cj ((hE dJ) _) zE)) (bn rfl) rfl ?_;refine bG 12 _ rfl zK (cj (bw (show cR _ (cK w (fI c (.slice (some ⟨gp,op,none⟩) (c.k+2) nt) (ptr gl) (ptr gf) (.slice (some ⟨gw,0,none⟩) c.k c.k) dJ (ptr gu) dJ dJ x ij mr ml mc) di (0,0)) _ from zP) aX) (cj ((hE dJ) _) zE)) (ba rfl) rfl ?_;refine tO 13 ?_;refine tf ?_;refine ⟨fun _=>(cj (bw (show cR _ (cK w (fI c (.slice (some ⟨gp,op,none⟩) (c.k+2) nt) (ptr gl) (ptr gf) (.slice (some ⟨gw,0,none⟩) c.k c.k) (ptr mE) (ptr gu) dJ dJ x ij mr ml mc) di (0,0)) _ from zP) aX) (cj ((hE (ptr mE)) _) zE)),?_⟩;refine tO 14 ?_;refine dV (bj rfl) ?_;refine bf zK ?_;clear hE rA Ti XQ;refine wB ?_;obtain ⟨XR,Tj⟩:∃ X:cJ,X=Ex fun v:Value=>cK w (fI c (.slice (some ⟨gp,op,none⟩) (c.k+2) nt) (ptr gl) (ptr gf) (.slice (some ⟨gw,0,none⟩) c.k c.k) (ptr mE) (ptr gu) v dJ x ij mr ml mc) di (0,0):=⟨_,rfl⟩
   have Jr:∀ (v:Value) (X:List cJ),cz (cK w (fI c (.slice (some ⟨gp,op,none⟩) (c.k+2) nt) (ptr gl) (ptr gf) (.slice (some ⟨gw,0,none⟩) c.k c.k) (ptr mE) (ptr gu) v dJ x ij mr ml mc) di (0,0)::X) (XR::X):=fun v X=>by rw [Tj];exact fu (f:=fun v:Value=>cK w (fI c (.slice (some ⟨gp,op,none⟩) (c.k+2) nt) (ptr gl) (ptr gf) (.slice (some ⟨gw,0,none⟩) c.k c.k) (ptr mE) (ptr gu) v dJ x ij mr ml mc) di (0,0)) v
   have rX:Rd (XR::M2::cK gc (fX c) iU (0,0)::R) ⟨w,0+16+0,none⟩ x:=Rd.dY .zero (by rw [Tj];exact Rd.ex fun v=>bP .zero rfl);refine bk (id:=24) [] (XR::M2::cK gc (fX c) iU (0,0)::R) Tryz.mixed ?_;refine bG 0 _ rfl zK (cj (bw (show cR _ (cK w (fI c (.slice (some ⟨gp,op,none⟩) (c.k+2) nt) (ptr gl) (ptr gf) (.slice (some ⟨gw,0,none⟩) c.k c.k) (ptr mE) (ptr gu) dJ dJ x ij mr ml mc) di (0,0)) _ from zP) aX) (cj ((Jr dJ) _) zE)) (bp rfl zR) rfl ?_;refine bG 1 _ rfl zK (cj (bw (show cR _ (cK w (fI c (.slice (some ⟨gp,op,none⟩) (c.k+2) nt) (ptr gl) (ptr gf) (.slice (some ⟨gw,0,none⟩) c.k c.k) (ptr mE) (ptr gu) dJ dJ x ij mr ml mc) di (0,0)) _ from zP) aX) (cj ((Jr dJ) _) zE)) (bp rfl zR) rfl ?_;refine bG 2 _ rfl zK (cj (bw (show cR _ (cK w (fI c (.slice (some ⟨gp,op,none⟩) (c.k+2) nt) (ptr gl) (ptr gf) (.slice (some ⟨gw,0,none⟩) c.k c.k) (ptr mE) (ptr gu) dJ dJ x ij mr ml mc) di (0,0)) _ from zP) aX) (cj ((Jr dJ) _) zE)) (bn rfl) rfl ?_;refine bG 3 _ rfl zK (cj (bw (show cR _ (cK w (fI c (.slice (some ⟨gp,op,none⟩) (c.k+2) nt) (ptr gl) (ptr gf) (.slice (some ⟨gw,0,none⟩) c.k c.k) (ptr mE) (ptr gu) dJ dJ x ij mr ml mc) di (0,0)) _ from zP) aX) (cj ((Jr dJ) _) zE)) (ba rfl) rfl ?_;refine bG 4 _ rfl zK (cj (bw (show cR _ (cK w (fI c (.slice (some ⟨gp,op,none⟩) (c.k+2) nt) (ptr gl) (ptr gf) (.slice (some ⟨gw,0,none⟩) c.k c.k) (ptr mE) (ptr gu) dJ dJ x ij mr ml mc) di (0,0)) _ from zP) aX) (cj ((Jr dJ) _) zE)) (ba rfl) rfl ?_
   refine bG 5 _ rfl zK (cj (bw (show cR _ (cK w (fI c (.slice (some ⟨gp,op,none⟩) (c.k+2) nt) (ptr gl) (ptr gf) (.slice (some ⟨gw,0,none⟩) c.k c.k) (ptr mE) (ptr gu) dJ dJ x ij mr ml mc) di (0,0)) _ from zP) aX) (cj ((Jr dJ) _) zE)) (bp rfl rX) rfl ?_;refine tO 6 ?_;refine bg rfl rfl (KZ _ e x dO (IG.cL (cG zP)) (j5 _)) ?_;rintro _ _ ⟨gm,rfl,rfl⟩;refine ⟨fun _=>(cj (bw (show cR _ (cK w (fI c (.slice (some ⟨gp,op,none⟩) (c.k+2) nt) (ptr gl) (ptr gf) (.slice (some ⟨gw,0,none⟩) c.k c.k) (ptr mE) (ptr gu) dJ dJ x ij mr ml mc) di (0,0)) _ from zP) aX) (cj ((Jr dJ) _) zE)),?_⟩;refine bG 7 _ rfl zK (cj (bw (show cR _ (cK w (fI c (.slice (some ⟨gp,op,none⟩) (c.k+2) nt) (ptr gl) (ptr gf) (.slice (some ⟨gw,0,none⟩) c.k c.k) (ptr mE) (ptr gu) dJ dJ x ij mr ml mc) di (0,0)) _ from zP) aX) (cj ((Jr dJ) _) zE)) (bu rfl) rfl ?_;refine bG 8 _ rfl zK (cj (bw (show cR _ (cK w (fI c (.slice (some ⟨gp,op,none⟩) (c.k+2) nt) (ptr gl) (ptr gf) (.slice (some ⟨gw,0,none⟩) c.k c.k) (ptr mE) (ptr gu) dJ dJ x ij mr ml mc) di (0,0)) _ from zP) aX) (cj ((Jr dJ) _) zE)) (bl rfl rfl) rfl ?_;refine bG 9 _ rfl zK (cj (bw (show cR _ (cK w (fI c (.slice (some ⟨gp,op,none⟩) (c.k+2) nt) (ptr gl) (ptr gf) (.slice (some ⟨gw,0,none⟩) c.k c.k) (ptr mE) (ptr gu) dJ dJ x ij mr ml mc) di (0,0)) _ from zP) aX) (cj ((Jr dJ) _) zE)) (bl rfl rfl) rfl ?_
   refine bG 10 _ rfl zK (cj (bw (show cR _ (cK w (fI c (.slice (some ⟨gp,op,none⟩) (c.k+2) nt) (ptr gl) (ptr gf) (.slice (some ⟨gw,0,none⟩) c.k c.k) (ptr mE) (ptr gu) dJ dJ x ij mr ml mc) di (0,0)) _ from zP) aX) (cj ((Jr dJ) _) zE)) (bn rfl) rfl ?_;refine bG 11 _ rfl zK (cj (bw (show cR _ (cK w (fI c (.slice (some ⟨gp,op,none⟩) (c.k+2) nt) (ptr gl) (ptr gf) (.slice (some ⟨gw,0,none⟩) c.k c.k) (ptr mE) (ptr gu) dJ dJ x ij mr ml mc) di (0,0)) _ from zP) aX) (cj ((Jr dJ) _) zE)) (ba rfl) rfl ?_;refine tO 12 ?_;refine tf ?_;refine ⟨fun _=>(cj (bw (show cR _ (cK w (fI c (.slice (some ⟨gp,op,none⟩) (c.k+2) nt) (ptr gl) (ptr gf) (.slice (some ⟨gw,0,none⟩) c.k c.k) (ptr mE) (ptr gu) (ptr gm) dJ x ij mr ml mc) di (0,0)) _ from zP) aX) (cj ((Jr (ptr gm)) _) zE)),?_⟩;refine bf zK ?_;clear Jr rX Tj XR;refine wB ?_;refine bk (id:=25) [] (M2::cK gc (fX c) iU (0,0)::R) Tryz.mixed ?_
   (refine tL 0 ?_)
   refine tO 1 ?_;refine bg rfl rfl (K0 _ e 32 zo) ?_;rintro _ _ ⟨gn,rfl,rfl⟩;refine ⟨fun _=>zE,?_⟩
   (refine tM 2 ?_;refine tk 3 _ rfl (bl rfl rfl) ?_;refine tk 4 _ rfl (bl rfl rfl) ?_;refine tN 5 ?_;refine tF 6 ?_;(refine tO 7 ?_;refine tf ?_;refine ⟨fun _=>(by (repeat first|exact zE|exact bF|refine bh ?_|(apply bw;exact zP)|refine cz.drop ?_);done),?_⟩))
   refine bf zK ?_;refine wB ?_
   have j1:ee.ok ⟨(.slice (some ⟨gp,op,none⟩) (c.k+2) nt),gl,gf,(.slice (some ⟨gw,0,none⟩) c.k c.k),mE,gu,gm,gn,x,ij,nL,mr,ml,nL,mc,[],[],[],[],wx,ld,lk,fd,ud,[]⟩ M2 w c 0 (pC c) :=
    {wV:=Ff
     root:=cE.nil _ _
     es:=fun x hx=>by cases hx
     kc:=fun x hx=>by cases hx
     all:=⟨.slice (some ⟨gd,od,none⟩) 3 cl,.slice (some ⟨Uq,Ur,none⟩) 1 cu,vs,KN,PA,by rw [← sO];exact vW,vy,NQ,fun i h h2=>by
      have h3:i<wd.length:=by omega
      obtain ⟨a1,a2,a3⟩:=QK i h h3;obtain ⟨b1,b2⟩:=XP i h2 h3;dsimp only;rw [b1,b2];exact ⟨a1,a2,a3⟩⟩
     eh:=rfl
     st:=Jm hc
     ec:=aH _ }
   refine aY (dM w c 0 (pC c) []::R) rfl (cj ?_ (dT j1 rfl)) ⟨w,rfl,rfl⟩;dsimp only [dP,ee.cells];rw [PA];refine cj (dv tEv 4) ?_;exact zE
 (repeat (refine wA ?_;intros))
 rename_i gi;refine bk (id:=9) [12,13,14,15] (cK gi [.int .i64 (i.vs.length:Int)] 3 (0,0)::cK w (fI c (.slice i.ap (i.vs.length+1) i.kp) dJ dJ (.slice (some ⟨gw,0,none⟩) c.k c.k) dJ dJ dJ dJ x (.slice i.aw i.ts.length i.kw) mr ml mc) di (0,0)::i.M::cK gc (fX c) iU (0,0)::R) Tryz.mixed ?_
 (refine tL 0 ?_;refine tL 1 ?_;refine tN 2 ?_;refine tF 3 ?_;refine tF 4 ?_;refine tL 5 ?_;refine tL 6 ?_;refine tk 7 _ rfl (cD.kQ rfl rfl zo) ?_)
 rw [show ((i.vs.length:Int)+1)=((i.vs.length+1:Nat):Int) by omega];refine tO 8 ?_;refine bg rfl rfl (pz _ e (i.vs.length+1) zo) ?_;rintro _ _ ⟨a9,ks,rfl,rfl⟩;refine ⟨fun _=>zE,?_⟩;refine tO 9 ?_;refine bg rfl rfl (l8 _ e _ (cQ (i.vs.length+1)) (bb (show cR _ (cS (.slice a9 (cQ (i.vs.length+1)).length ks) (cQ (i.vs.length+1))) _ from zP)) (py _)) ?_;rintro pv _ ⟨N,rfl,hN⟩;refine ⟨fun _=>zE,?_⟩;refine A.cB (cn (hN.cL (cG .zero))) fun op=>?_
 refine tO 10 ?_;refine bE (n:=1) (cs:=[pv]) rfl rfl rfl rfl (.one (eQ op) rfl .nil) rfl (fun gb=>⟨fun _=>zE,?_⟩);refine tO 11 ?_;refine bo rfl rfl rfl (show cR _ (cV (.slice i.aw i.ts.length i.kw) i.ts) _ from zP) (bB zP rfl zl) rfl rfl zO zm zo fun aw1 kw1 _=>⟨fun _=>zE,?_⟩
 ((refine tO 12 ?_;refine dV (bn rfl) ?_);(refine tO 13 ?_;refine dV (ba rfl) ?_);(refine tO 14 ?_;refine dV (ba rfl) ?_);(refine tO 15 ?_;refine tf ?_;refine ⟨zN,?_⟩))
 refine bf zK ?_
 (repeat (refine wA ?_;intros))
 refine bk (id:=10) [12,13,14] (cK w (fI c (.slice i.ap (i.vs.length+1) i.kp) dJ dJ (.slice (some ⟨gw,0,none⟩) c.k c.k) dJ dJ dJ dJ x (.slice aw1 (i.ts.length+1) kw1) mr ml mc) di (0,0)::i.M::cK gc (fX c) iU (0,0)::R) Tryz.mixed ?_
 (refine tL 0 ?_;refine tL 1 ?_;refine tN 2 ?_;refine tF 3 ?_;refine tL 4 ?_;refine tF 5 ?_;refine tL 6 ?_)
 refine tk 8 _ rfl (cD.makeFunc rfl rfl) ?_;refine tO 7 ?_;refine bg rfl rfl (qK _ e 2 zo) ?_;rintro _ _ ⟨dW,XS,gs,rfl,CF,rfl⟩
 obtain ⟨d1,k1,rfl⟩:∃ a b,gs=[a,b]:=by
  match gs,CF with
  | [a,b],_=>exact ⟨a,b,rfl⟩
 refine ⟨fun _=>zE,?_⟩;refine tk 9 _ rfl (bL rfl zF) ?_;refine tO 10 ?_;refine bE (n:=2) (cs:=[.slice dW 2 XS,.func (.func 161) #[] #[ptr g4,ptr gi]]) rfl rfl rfl rfl zQ rfl (fun gb2=>⟨fun _=>zE,?_⟩);refine tO 11 ?_;refine bo rfl rfl rfl (show cR _ (dE AJ 2 (.slice i.ap (i.vs.length+1) i.kp) (i.vs.length+1) (FH w vl i.vs)) _ from zP) (bO (n:=2) (c:=1) zP rfl zl) rfl rfl zO zm zo fun ap1 kp1 _=>⟨fun _=>zE,?_⟩
 ((refine tO 12 ?_;refine dV (bn rfl) ?_);(refine tO 13 ?_;refine dV (ba rfl) ?_);(refine tO 14 ?_;refine tf ?_;refine ⟨zN,?_⟩))
 refine bf zK ?_;refine wB ?_;refine bi ⟨i.vs++[(.slice dW 2 XS,g4,gi)],i.wd++[(d1,k1)],i.ts++[(pv,kN (cQ (i.vs.length+1)))],ap1,kp1,aw1,kw1,dI [i.M,N,cK gi [.int .i64 (i.vs.length:Int)] 3 (0,0),dE DJ 1 (.slice dW 2 XS) 2 [ptr d1,ptr k1]]⟩ (hi.more cO hN) (by simp only [aa,aj];omega) ?_ ?_
 ·simp only [aa,aj];exact zS
 ·simp only [WG,cV,FH,aa,aj,ah,List.map_cons,List.map_nil,aW,aU,List.flatMap_nil,aK];refine cj (rf (A:=i.M) (B:=N) (C:=cK gi [.int .i64 (i.vs.length:Int)] 3 (0,0)) (D:=dE DJ 1 (.slice dW 2 XS) 2 [ptr d1,ptr k1]) zP zP zP zP) ?_;exact cj (Jq (A:=dI (Jo i.wd)) (B:=dI (jK [d1,k1])) zP zP fun X=>NO) zE
end Go.Proofs
