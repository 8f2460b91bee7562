/- Part 10 of a proof of this: TopMessages returns true for any arguments; nothing of the old memory is turned. No condition. -/
import Derived.Test.YtccekbdjebohcaaGreatG09
set_option linter.unusedVariables false
set_option linter.unusedSimpArgs false
namespace Go.Proofs
attribute [local irreducible] Bs.cD Bs.Do Bs.O Bs.W Bs.Fin Bs.A Bs.Ct Bs.cE Bs.Rd Bs.Sat Bs.cK Bs.Ob Bs.dJ Bs.View Bs.cz Bs.Ex Bs.dH Bs.Pu Bs.eY Bs.dM Bs.dZ
open Go.Bs
open Tryz
variable (R:List cJ) (e:World)
theorem da.Jf {c:dh} {m:Nat} {s:da} {x:fZ} (h:s.ok c m) (hx:x.ok c s.ls.cF):(s.send x).ok c m:=by
 unfold da.send
 exact { h with
  eh:=fun y hy=>by
   have hy:y∈(if s.eh.length<32 then s.eh++[x] else s.eh):=hy
   split at hy
   ·rcases aJ.1 hy with hy|hy
    ·exact h.eh y hy
    ·rw [an.1 hy];exact hx
   ·exact h.eh y hy
  room:=by
   show (if s.eh.length<32 then s.eh++[x] else s.eh).length≤32
   split
   ·rw [aa];simp only [aj];omega
   ·exact h.room }
theorem da.Wl {c:dh} {m:Nat} {s:da} {j:Nat} {w:eN} (h:s.ok c m) (h1:w.ok) (h2:w.recs.length≤m) (h3:lK s.ls.cF w.c) (h4:w.some=true→w.dD.fY=j∧w.dD.sig.right):da.ok c m { s with ws:=s.ws.set j w } :=
 {h with
  wl:=by show (s.ws.set j w).length=_;rw [List.length_set];exact h.wl
  ws:=fun y hy=>by
   rcases List.mem_or_eq_of_mem_set hy with hy|rfl
   ·exact h.ws y hy
   ·exact ⟨h1,h2,h3⟩
  iP:=fun i y hy hs=>by
   have hy:(s.ws.set j w)[i]?=some y:=hy
   by_cases Dy:j=i
   ·subst Dy
    by_cases hl:j<s.ws.length
    ·rw [List.getElem?_set_self hl] at hy;cases hy;exact h4 hs
    ·rw [List.getElem?_eq_none (by rw [List.length_set];omega)] at hy;cases hy
   ·rw [List.getElem?_set_ne Dy] at hy
    exact h.iP i y hy hs }
theorem da.Fy {c:dh} {m:Nat} {s:da} {j n:Nat} {x:j6} (h:s.ok c m) (hm:m<250) (hj:j<c.k) (hx:Ac s.ls.cF x) (h0:0<s.ls.cF.length):(s.asked j x.dc n).ok c (m+1):=by
 obtain ⟨h1,h2,h3,h4,h5⟩:=Je h hj (n:=n) hx;refine da.Jf (da.Wl (h.next hm) h1 h2 h3 h4) ⟨h0,?_⟩;unfold da.PB
 split
 ·rename_i h6;exact ⟨hj,(h4 (h5 h6)).1,(h4 (h5 h6)).2⟩
 ·refine ⟨hj,?_⟩;have:=h3.1;have:=h.short
  omega
abbrev pB (c:dh) (va vl vf lZ zJ vu vm vn pU ij vt ve Az AA AB vr AC AD:Value):List Value :=
 [.int .i64 (c.k:Int),.int .i64 (c.ey:Int),.int .i64 (c.room:Int),.int .i64 (c.size:Int),.int .i64 (c.wait:Int),.int .i64 (c.retry:Int),.int .i64 1048576,.string (str iS),
  va,vl,vf,lZ,zJ,vu,vm,vn,pU,ij,.int .i64 (c.ey:Int),vt,ve,Az,AA,AB,vr,AC,AD]
abbrev ptr (g:Nat):Value:=pt g
theorem uK (w:Nat) (c:dh) (hc:c.ok) (vl vf lZ zJ vu vm vn pU ij vt ve Az AA AB vr AC AD:Value) (gp op lp kp gd od kd d k f:Nat) (ls:fV) (recs:List dv) (MM:0<lp)
 (h0:Rd R ⟨gp,op,none⟩ (.slice (some ⟨gd,od,none⟩) 3 kd)) (h1:Rd R ⟨gd,od,none⟩ (ptr d)) (h2:Rd R ⟨gd,od+1,none⟩ (ptr k)) (h3:Rd R ⟨gd,od+2,none⟩ (ptr f)) (Mr:ls.ok) (Ms:recs.length≤1000) (hg:∀ b∈recs,ji b∧b.length≤200) :
 Ct prog 160 #[ptr w] e (cK w (pB c (.slice (some ⟨gp,op,none⟩) lp kp) vl vf lZ zJ vu vm vn pU ij vt ve Az AA AB vr AC AD) di (0,0)::de d (dx ls.jb)::de k (eo ls.keys 1048576)::de f (dx (eV recs))::R)
  (fun v' L'=>v'=.int .i64 0∧∃ gl gf,L'=cK w (pB c (.slice (some ⟨gp,op,none⟩) lp kp) (ptr gl) (ptr gf) lZ zJ vu vm vn pU ij vt ve Az AA AB vr AC AD) di (0,0)::eg gf f gl c.f ⟨recs,(io ls.cF recs).map fun b=>(b,rB)⟩::cV gl d k (cS 0) { ls with last:=none }::R):=by
 refine a8 (args:=[_]) func160 rfl ntmps160 results160 rfl ?_;refine wB ?_;refine bk (id:=2) [12] R mixed ?_;refine tM 0 ?_;refine tk 1 _ rfl (bD rfl rfl (by decide)) ?_;refine tk 2 _ rfl (bp rfl h1) ?_;refine tM 3 ?_;refine tk 4 _ rfl (bD rfl rfl (by decide)) ?_;refine tk 5 _ rfl (bp rfl h2) ?_;refine tO 6 ?_;refine bg rfl rfl (pz _ e 0 zo) ?_;rintro _ _ ⟨ad,ks,rfl,rfl⟩;refine ⟨fun _=>zE,?_⟩;refine tO 7 ?_;refine bg rfl rfl (Ct.AO zP zP (Hs _ e d k _ (cS 0) ls (bb (show cQ _ (cR (.slice ad (cS 0).length ks) (cS 0)) _ from zP)) (py 0) Mr)) ?_;rintro _ _ ⟨gl,rfl,rfl⟩;refine ⟨fun _=>zE,?_⟩
 (refine tM 8 ?_;refine tk 9 _ rfl (bl rfl rfl) ?_;refine tk 10 _ rfl (bl rfl rfl) ?_;refine tA 11 ?_;(refine tO 12 ?_;refine dV (bj rfl) ?_))
 refine bf zK ?_;refine wB ?_;refine bk (id:=5) [27] (cK w (pB c (.slice (some ⟨gp,op,none⟩) lp kp) (ptr gl) vf lZ zJ vu vm vn pU ij vt ve Az AA AB vr AC AD) di (0,0)::R) mixed ?_;refine tM 0 ?_;refine tk 1 _ rfl (bD rfl rfl (by decide)) ?_;refine tk 2 _ rfl (bp rfl (h3.cL zE)) ?_
 (refine tM 3 ?_;refine tN 4 ?_;refine tF 5 ?_;refine tL 6 ?_;refine tM 7 ?_;refine tN 8 ?_;refine tF 9 ?_;refine tF 10 ?_;refine tL 11 ?_;refine tM 12 ?_;refine tN 13 ?_;refine tF 14 ?_;refine tF 15 ?_;refine tL 16 ?_;refine tM 17 ?_;refine tN 18 ?_;refine tF 19 ?_;refine tF 20 ?_;refine tL 21 ?_)
 refine tO 22 ?_;refine bg rfl rfl (Ct.AO zP zP (Hz _ e f gl d k (cS 0) { ls with last:=none } c.f recs hc.f Ms hg)) ?_;rintro _ _ ⟨gf,rfl,rfl⟩;refine ⟨fun _=>zE,?_⟩
 (refine tM 23 ?_;refine tk 24 _ rfl (bl rfl rfl) ?_;refine tk 25 _ rfl (bl rfl rfl) ?_;refine tA 26 ?_;(refine tO 27 ?_;refine dV (bj rfl) ?_))
 refine bf zK ?_;refine wB ?_;exact aY (cK w (pB c (.slice (some ⟨gp,op,none⟩) lp kp) (ptr gl) (ptr gf) lZ zJ vu vm vn pU ij vt ve Az AA AB vr AC AD) di (0,0)::eg gf f gl c.f ⟨recs,(io ls.cF recs).map fun b=>(b,rB)⟩::cV gl d k (cS 0) { ls with last:=none }::R) rfl zE ⟨rfl,gl,gf,rfl⟩
theorem vU (w:Nat) (c:dh) (vl vf zJ vu vm vn pU ij vt ve Az AA AB vr AC AD:Value) (gp op lp kp gd od kd d k i gw nw kw:Nat) (AF:List Value) (s:eN) (hi:i<3) (MM:i+1<lp) (gB:i<nw) (Bb:AF.length=nw)
 (h0:Rd R ⟨gp,op+(i+1)*2,none⟩ (.slice (some ⟨gd,od,none⟩) 2 kd)) (h1:Rd R ⟨gd,od,none⟩ (ptr d)) (h2:Rd R ⟨gd,od+1,none⟩ (ptr k)) (Cj:db R pU dN) (hs:s.ok) (lm:s.recs.length≤1000) :
 Ct prog 162 #[ptr w,.int .i64 (i:Int)] e (cK w (pB c (.slice (some ⟨gp,op,none⟩) lp kp) vl vf (.slice (some ⟨gw,0,none⟩) nw kw) zJ vu vm vn pU ij vt ve Az AA AB vr AC AD) di (0,0)::dJ pX 1 (.slice (some ⟨gw,0,none⟩) nw kw) nw AF::de d (dx s.jb)::de k (eo s.keys 1048576)::R)
  (fun v' L'=>v'=.int .i64 0∧∃ g,L'=cK w (pB c (.slice (some ⟨gp,op,none⟩) lp kp) vl vf (.slice (some ⟨gw,0,none⟩) nw kw) zJ vu vm vn pU ij vt ve Az AA AB vr AC AD) di (0,0)::dJ pX 1 (.slice (some ⟨gw,0,none⟩) nw kw) nw (AF.set i (ptr g))::nB g d k i (cS (i+1)) dN { s with dD:=fW,some:=false }::R):=by
 have VZ:dN.length=32:=j4 _;refine a7 (cn (Cj.cL (show cz _ R from zE))) fun o1=>?_
 refine a8 (args:=[_,_]) func162 rfl ntmps162 results162 rfl ?_;refine wB ?_;refine bk (id:=2) [20] (cK w (pB c (.slice (some ⟨gp,op,none⟩) lp kp) vl vf (.slice (some ⟨gw,0,none⟩) nw kw) zJ vu vm vn pU ij vt ve Az AA AB vr AC AD) di (0,0)::R) mixed ?_;refine tM 0 ?_;refine tk 1 _ rfl (bD rfl rfl (by decide)) ?_;refine tk 2 _ rfl (bp rfl (h1.cL zE)) ?_;refine tM 3 ?_;refine tk 4 _ rfl (bD rfl rfl (by decide)) ?_;refine tk 5 _ rfl (bp rfl (h2.cL zE)) ?_
 (refine tM 6 ?_;refine tM 7 ?_;refine tk 8 _ rfl (cD.kP rfl rfl zo) ?_;refine tM 10 ?_;refine tN 11 ?_;refine tF 12 ?_;refine tF 13 ?_;refine tL 14 ?_)
 rw [show ((i:Int)+1)=((i+1:Nat):Int) by omega];refine tO 9 ?_;refine bg rfl rfl (pz _ e (i+1) zo) ?_;rintro _ _ ⟨ad,ks,rfl,rfl⟩;refine ⟨fun _=>zE,?_⟩;refine tO 15 ?_;refine bg rfl rfl (Ct.AO zP zP (HF _ e d k i _ pU (cS (i+1)) dN s (bb (show cQ _ (cR (.slice ad (cS (i+1)).length ks) (cS (i+1))) _ from zP)) (Cj.cL zE) (py _) VZ zo hs lm)) ?_;rintro _ _ ⟨g,rfl,rfl⟩;refine ⟨fun _=>zE,?_⟩
 (refine tM 16 ?_;refine tk 17 _ rfl (bl rfl rfl) ?_;refine tk 18 _ rfl (bl rfl rfl) ?_;refine tA 19 ?_;(refine tO 20 ?_;refine dV (bj rfl) ?_))
 refine bf zK ?_;refine wB ?_;simp only [aC,Nat.mul_one];exact aY (cK w (pB c (.slice (some ⟨gp,op,none⟩) lp kp) vl vf (.slice (some ⟨gw,0,none⟩) nw kw) zJ vu vm vn pU ij vt ve Az AA AB vr AC AD) di (0,0)::dJ pX 1 (.slice (some ⟨gw,0,none⟩) nw kw) nw (AF.set i (ptr g))::nB g d k i (cS (i+1)) dN { s with dD:=fW,some:=false }::R) rfl zE ⟨rfl,g,rfl⟩
theorem uL (w:Nat) (c:dh) (vl vf zJ vu vm vn pU ij vt ve Az AA AB vr AC AD:Value) (gp op lp kp gd od kd d k i gw nw kw x y:Nat) (AF:List Value) (s:eN) (hi:i<3) (MM:i+1<lp) (gB:i<nw) (Bb:AF.length=nw)
 (hx:Rd R ⟨x,0,none⟩ (ptr w)) (hy:Rd R ⟨y,0,none⟩ (.int .i64 (i:Int)))
 (h0:Rd R ⟨gp,op+(i+1)*2,none⟩ (.slice (some ⟨gd,od,none⟩) 2 kd)) (h1:Rd R ⟨gd,od,none⟩ (ptr d)) (h2:Rd R ⟨gd,od+1,none⟩ (ptr k)) (Cj:db R pU dN) (hs:s.ok) (lm:s.recs.length≤1000) :
 Ct prog 161 #[ptr x,ptr y] e (cK w (pB c (.slice (some ⟨gp,op,none⟩) lp kp) vl vf (.slice (some ⟨gw,0,none⟩) nw kw) zJ vu vm vn pU ij vt ve Az AA AB vr AC AD) di (0,0)::dJ pX 1 (.slice (some ⟨gw,0,none⟩) nw kw) nw AF::de d (dx s.jb)::de k (eo s.keys 1048576)::R)
  (fun v' L'=>v'=.int .i64 0∧∃ g,L'=cK w (pB c (.slice (some ⟨gp,op,none⟩) lp kp) vl vf (.slice (some ⟨gw,0,none⟩) nw kw) zJ vu vm vn pU ij vt ve Az AA AB vr AC AD) di (0,0)::dJ pX 1 (.slice (some ⟨gw,0,none⟩) nw kw) nw (AF.set i (ptr g))::nB g d k i (cS (i+1)) dN { s with dD:=fW,some:=false }::R):=by
 refine a8 (args:=[_,_]) func161 rfl ntmps161 results161 rfl ?_;refine wB ?_;refine aZ rfl rfl (vU R e w c vl vf zJ vu vm vn pU ij vt ve Az AA AB vr AC AD gp op lp kp gd od kd d k i gw nw kw AF s hi MM gB Bb h0 h1 h2 Cj hs lm) ?_;rintro _ _ ⟨rfl,g,rfl⟩;refine wB ?_;exact aY (cK w (pB c (.slice (some ⟨gp,op,none⟩) lp kp) vl vf (.slice (some ⟨gw,0,none⟩) nw kw) zJ vu vm vn pU ij vt ve Az AA AB vr AC AD) di (0,0)::dJ pX 1 (.slice (some ⟨gw,0,none⟩) nw kw) nw (AF.set i (ptr g))::nB g d k i (cS (i+1)) dN { s with dD:=fW,some:=false }::R) rfl zE ⟨rfl,g,rfl⟩
theorem K8:pH iS:=by
 refine ⟨by decide,by decide,fun b hb=>?_⟩;simp only [iS,aQ,aP,or_false] at hb
 rcases hb with rfl|rfl|rfl|rfl<;>decide
theorem oA (w:Nat) (c:dh) (hc:c.ok) (vl vf lZ zJ vu vm vn pU ij vt ve Az AA AB vr AC AD:Value) (gp op kp gd od kd d:Nat) (s:m2)
 (h0:Rd R ⟨gp,op+(c.k+1)*2,none⟩ (.slice (some ⟨gd,od,none⟩) 1 kd)) (h1:Rd R ⟨gd,od,none⟩ (ptr d)) (Cj:j7 R pU ij (cZ c)) (hs:s.ok iS) :
 Ct prog 163 #[ptr w] e (cK w (pB c (.slice (some ⟨gp,op,none⟩) (c.k+2) kp) vl vf lZ zJ vu vm vn pU ij vt ve Az AA AB vr AC AD) di (0,0)::de d (dx (eV s.recs))::R)
  (fun v' L'=>v'=.int .i64 0∧∃ g,L'=cK w (pB c (.slice (some ⟨gp,op,none⟩) (c.k+2) kp) vl vf lZ zJ (ptr g) vm vn pU ij vt ve Az AA AB vr AC AD) di (0,0)::ke g d iS (cZ c) s::R):=by
 have hk:=hc.k;refine a7 (cn (Cj.log.cL (show cz _ R from zE))) fun o1=>?_
 refine a7 (Cj.ew.cL (show cz _ R from zE)).one fun o2=>?_
 refine a8 (args:=[_]) func163 rfl ntmps163 results163 rfl ?_;refine wB ?_;refine bk (id:=1) [29] (cK w (pB c (.slice (some ⟨gp,op,none⟩) (c.k+2) kp) vl vf lZ zJ vu vm vn pU ij vt ve Az AA AB vr AC AD) di (0,0)::R) mixed ?_
 (refine tM 0 ?_;refine tN 1 ?_;refine tF 2 ?_;refine tL 3 ?_;refine tM 4 ?_;refine tN 5 ?_;refine tF 6 ?_;refine tL 7 ?_;refine tk 8 _ rfl (bM rfl) ?_;refine tk 9 _ rfl (cD.jA rfl rfl zo) ?_)
 rw [show (((c.k+2:Nat):Int) - 1)=((c.k+1:Nat):Int) by omega]
 (refine tk 10 _ rfl (bD rfl rfl zo) ?_;refine tF 11 ?_)
 refine tk 12 _ rfl (bp rfl (h0.cL zE)) ?_;refine tk 13 _ rfl (bD rfl rfl (by decide)) ?_;refine tk 14 _ rfl (bp rfl (h1.cL zE)) ?_
 (refine tM 15 ?_;refine tN 16 ?_;refine tF 17 ?_;refine tF 18 ?_;refine tL 19 ?_;refine tM 20 ?_;refine tN 21 ?_;refine tF 22 ?_;refine tk 23 _ rfl (cD.dg rfl zP zI zX) ?_)
 refine tO 24 ?_;refine bg rfl rfl (Ct.at zP (H2 _ e d iS pU ij (cZ c) s (Cj.cL zE) hc.wU K8 hs)) ?_;rintro _ _ ⟨g,rfl,rfl⟩;refine ⟨fun _=>zE,?_⟩
 (refine tM 25 ?_;refine tk 26 _ rfl (bl rfl rfl) ?_;refine tk 27 _ rfl (bl rfl rfl) ?_;refine tA 28 ?_;(refine tO 29 ?_;refine dV (bj rfl) ?_))
 refine bf zK ?_;refine wB ?_;exact aY (cK w (pB c (.slice (some ⟨gp,op,none⟩) (c.k+2) kp) vl vf lZ zJ (ptr g) vm vn pU ij vt ve Az AA AB vr AC AD) di (0,0)::ke g d iS (cZ c) s::R) rfl zE ⟨rfl,g,rfl⟩
abbrev tCh:TypeId:=83
abbrev abp:Value:=.agg #[.int .i64 0,.int .i64 0,nY,nY]
theorem Fz (k:Fin 1000 × Fin 1000):∀ l:List ((Fin 1000 × Fin 1000) × jl),∃ t:jl,(gK k (sN l)).getD abp=.agg (jl.cells t).toArray∧((gK k (sN l)).isSome=true→∃ p∈l,p.2=t)∧((gK k (sN l)).isSome=false→t=(fW,nY,nY))
 | []=>⟨(fW,nY,nY),rfl,fun h=>(by cases h),fun _=>rfl⟩
 | p::l=>by
  obtain ⟨t,h1,h2,h4⟩:=Fz k l;have hc:gK k (sN (p::l))=if p.1=k then some (.agg (jl.cells p.2).toArray) else gK k (sN l):=rfl
  rw [hc]
  by_cases h:p.1=k
  ·rw [aI h];exact ⟨p.2,rfl,fun _=>⟨p,List.mem_cons_self ..,rfl⟩,fun q=>by cases q⟩
  ·rw [aB h];exact ⟨t,h1,fun q=>by obtain ⟨y,hy,h3⟩:=h2 q;exact ⟨y,aT _ hy,h3⟩,h4⟩
theorem Dd (k:Fin 1000 × Fin 1000) (t:jl):∀ l:List ((Fin 1000 × Fin 1000) × jl),∃ l',lF k (.agg (jl.cells t).toArray) (sN l)=sN l'∧∀ p∈l',p∈l∨p=(k,t)
 | []=>⟨[(k,t)],rfl,fun p hp=>.inr (an.1 hp)⟩
 | y::l=>by
  show ∃ l',lF k _ ((y.1,Value.agg (jl.cells y.2).toArray)::sN l)=_∧_
  unfold lF
  by_cases h:y.1=k
  ·rw [aI h]
   exact ⟨(k,t)::l,rfl,fun p hp=>by
    rcases aQ.1 hp with hp|hp
    ·exact .inr hp
    ·exact .inl (aT _ hp)⟩
  ·rw [aB h];obtain ⟨l',h1,h2⟩:=Dd k t l
   exact ⟨y::l',by rw [h1];rfl,fun p hp=>by
    rcases aQ.1 hp with hp|hp
    ·exact .inl (by rw [hp];exact List.mem_cons_self ..)
    ·exact (h2 p hp).imp (aT _) id⟩
theorem ee.ok.put {a:ee} {M:cJ} {w:Nat} {c:dh} {m:Nat} {s:da} (h:a.ok M w c m s) (kc:List ((Fin 1000 × Fin 1000) × jl)) (hk:∀ p∈kc,jl.ok [M] p.2):ee.ok { a with kc:=kc } M w c m s:={ h with kc:=hk,all:=⟨h.all.all⟩ }
theorem De {A B C:cJ}:cz [dH [A,B,C]] [A]:=cj (cT (M:=[_,_,_]) (L:=[])) (bh bF)
theorem NB {A B C:cJ}:cz [dH [A,B,C]] [B]:=cj (cT (M:=[_,_,_]) (L:=[])) (cz.drop (bh bF))
theorem NC {A B C:cJ}:cz [dH [A,B,C]] [C]:=cj (cT (M:=[_,_,_]) (L:=[])) (cz.drop (cz.drop (bh bF)))
theorem sO (g k:Nat) (l:List gV) (eh:List fZ) (x:fZ) (m:gV) (hl:l.map gV.d=eh.map (fZ.d k)) (hd:m.d=x.d k) (hr:db (Net g 32 l::R) m.v m.b) (hb:m.b.length≤140737488351232) (hn:eh.length≤32) :
 Ct prog 176 #[pt g,.agg m.cells.toArray] e (Net g 32 l::R) (fun v' L'=>v'=.bool (decide (eh.length<32))∧∃ l':List gV,l'.map gV.d=(if eh.length<32 then eh++[x] else eh).map (fZ.d k)∧L'=Net g 32 l'::R):=by
 have DV:l.length=eh.length:=by have:=congrArg List.length hl;simpa using this
 refine (sM R e g 32 l m hr hb zo zo).mono fun v' L' h=>?_
 rcases h with ⟨h1,rfl,v2,rfl⟩|⟨h1,rfl,rfl⟩
 ·refine ⟨by rw [ay zo],_,?_,rfl⟩;rw [aI zo,ah,ah,hl,List.map_cons,List.map_cons,← hd]
  rfl
 ·refine ⟨by rw [aq zo],_,?_,rfl⟩;rw [aB zo];exact hl
theorem FA (w:Nat) (c:dh) (m:Nat) (s:da) (ev:List (Int × Int × Int × dv)) (v:Value) (j n k:Nat) (x:j6) (path:List dv) (hv:db R v (qI x n k path)) (hx:fZ.ok c s.ls.cF (.ask j x n k path)) (hm:m<250) :
 Ct prog 178 #[pt w,.int .i64 ((j+1:Nat):Int),v] e (dO w c m s ev::R) (fun v' L'=>v'=.int .i64 (s.qL j x.dc n)∧∃ jP,rF jP (s.asked j x.dc n)∧L'=dO w c (m+1) (s.asked j x.dc n) (ev++jP)::R):=by
 obtain ⟨h0,hj,z7,hk,Om,Q3⟩:=hx;subst hk;refine gY fun a M ha he=>?_
 have eJ:=ha.st;have Q0:=ha.ec;have Ga:=eJ.xC.k;have lm:=eJ.short;have m6:=da.Fy eJ hm hj z7 h0 (n:=n);have vK:=qK (l:=s.ls.cF.take x.dc.size) (n:=n) (by rw [aF];omega);rw [← Q3] at vK
 have Wm:=z7.1.1.1;obtain ⟨kf,Sp⟩:∃ kf:Fin 1000 × Fin 1000,kf=(⟨x.dc.size,by omega⟩,⟨j,by omega⟩):=⟨_,rfl⟩
 have Ug:ig kf=.agg #[.int .i64 (x.dc.size:Int),.int .i64 (j:Int)]:=by rw [Sp];rfl
 obtain ⟨t0,OX,Oe,ht2⟩:=Fz kf a.kc
 have hg0:(gK kf (sN a.kc)).isSome=true→jl.ok [M] t0:=fun q=>by
  obtain ⟨p,hp,rfl⟩:=Oe q;exact ha.kc p hp
 refine a7 (p:=∀ y∈jl.cells t0,y.oneCell'=true) (fun hh hs=>?_) fun mS=>?_
 ·cases hq:(gK kf (sN a.kc)).isSome with
  | true =>
   have:=jl.jW (L:=dR w c s a M R) (ts:=[t0]) (fun t ht=>by rw [an.1 ht];exact (hg0 hq).cL (cG (show cQ (dR w c s a M R) M _ from zP))) hh hs
   simpa using this
  | false =>
   rw [ht2 hq]
   exact fun y hy=>by
    simp only [jl.cells,iA,aQ,aP,or_false] at hy
    rcases hy with rfl|rfl|rfl|rfl<;>rfl
 obtain ⟨k1,k2,k3,k4,k5⟩:=eJ.fY hj;obtain ⟨w1,w2,w3,w4,w5⟩:=Je eJ hj (n:=n) z7;obtain ⟨vl,vu,vs,Wn,K9,-⟩:=ha.all.all;have Wo:j<a.wx.length:=by omega
 have hjw:j<s.ws.length:=by rw [eJ.wl];exact hj
 have SO:a.wx[j]?=some (a.wx[j]'Wo):=ae Wo
 generalize a.wx[j]'Wo=wx at SO
 refine a7 ((bb (show cQ (dR w c s a M R) (dJ pX 1 a.lZ a.wx.length (a.wx.map jJ)) _ from zP)).shape zo) ?_;rintro ⟨⟨HK,cw,BU,wG,IU,Ap,uW⟩,_⟩;rcases uW with uW|⟨gq,oq,abq⟩
 ·omega
 subst abq
 have Qx:∀ (L R':List cJ),cQ L (dJ pX 1 a.lZ a.wx.length (a.wx.map jJ)) R'→Rd L ⟨gq,oq+j,none⟩ (pt wx.g):=fun L R' pl=>by
  rw [BU] at pl
  exact (bb pl).elem (by rw [aL,SO];rfl)
 refine a8 (args:=[_,_,_]) func178 rfl ntmps178 results178 rfl ?_;refine wB ?_;refine aZ rfl rfl (zC _ e v x n x.dc.size path (hv.cL zE) z7.1.1 z7.2.1 zo zo vK.1 vK.2) ?_;rintro _ _ ⟨N,ur,up,uq,ad,kk,ts,rfl,fy,hN,tI,RR,rfl⟩;refine bn (cn (hN.root.cL (cG zP))) fun o3=>?_
 refine bn (hN.sig.cL (cG zP)).parts.one fun o4=>?_
 refine bn (hN.sig.cL (cG zP)).path.one fun o5=>?_
 (repeat (refine wA ?_;intros))
 rename_i g7 g8;rw [BU,show (((j+1:Nat):Int) - 1)=(j:Int) by omega]
 (repeat (refine wA ?_;intros))
 refine bV rfl (Qx _ _ zP) rfl ?_;refine wB ?_;refine O.fo (cj (bw (show cQ _ (dH (ka 0 a.wx s.ws)) _ from zP) aX) (Fx SO k5)) ?_;have Oj:=fun L hxL Sg htL=>CJ L e wx.g wx.d wx.k j (cS (j+1)) dN (s.fY j) ur up uq (.slice ad ts.length kk) x n x.dc.size ts hxL z7.1.1 z7.2.1.fits zo zo zo Sg htL zo
 obtain ⟨q1,q2⟩:=Nx (j:=j) (ts:=ts) z7 k3 zo Om (by rw [fy];exact Q3);rw [q1,q2] at Oj
 refine aZ rfl rfl (Oj _ (hN.cL (cG zP)) (tI.cL (cG zP)) (fun y hy=>(RR y hy).cL (cG zP))) ?_;rintro v0 _ ⟨hy,lU⟩
 by_cases hE:s.qL j x.dc n=0
 ·obtain ⟨N2,wp,wq,rfl,nk,rfl⟩:=hy hE;clear hy lU Oj;refine bn (nk.cL (cG zP)).parts.one fun o6=>?_
  refine bn (nk.cL (cG zP)).path.one fun o7=>?_
  have hb:=ha.st;obtain ⟨s1,fQ⟩:∃ s1:da,s1={ s with ws:=s.ws.set j (s.iZ j x.dc n) }:=⟨_,rfl⟩
  have SP:s.asked j x.dc n=s1.send (.iP j (s.iZ j x.dc n).dD):=by unfold da.asked da.PB;rw [aI hE,fQ]
  have hyw:=w4 (w5 hE);rw [SP] at m6 ⊢
  rw [hE]
  have VN:cz (vS j wx (s.iZ j x.dc n)::dH (ow 0 j a.wx s.ws)::cK w (a.cells c s) di (0,0)::js a.ve a.es::iC fH a.mr a.kr::iC fH a.ml a.kl::iC ig a.mc (sN a.kc)::M::eg a.gf a.xp a.gl c.f s.fs::cV a.gl a.ld a.lk (cS 0) s.ls::dJ pX 1 a.lZ a.wx.length (a.wx.map jJ)::lf a.mB (cZ c) c.retry s.n s.fd::ke a.gu a.ud iS (cZ c) s.up::jq a.gm dN s.mo::Net a.gn 32 a.nl::R) (dR w c s1 a M R):=by
   have:=Dc (R:=cK w (a.cells c s) di (0,0)::js a.ve a.es::iC fH a.mr a.kr::iC fH a.ml a.kl::iC ig a.mc (sN a.kc)::M::eg a.gf a.xp a.gl c.f s.fs::cV a.gl a.ld a.lk (cS 0) s.ls::dJ pX 1 a.lZ a.wx.length (a.wx.map jJ)::lf a.mB (cZ c) c.retry s.n s.fd::ke a.gu a.ud iS (cZ c) s.up::jq a.gm dN s.mo::Net a.gn 32 a.nl::R) (x:=wx) (s:=s.iZ j x.dc n) Wo hjw;rw [uJ _ _ _ SO] at this
   rw [fQ];exact cj this zE
  generalize hg:(s.iZ j x.dc n).dD=g at *
  (repeat (refine wA ?_;intros))
  rename_i DG;refine O.fo (show cz _ (cK DG (iA g wp wq) nE (0,0)::N2::cK g7 (dS x ur up uq) rE (0,0)::N::dR w c s1 a M R) from ?_) ?_
  ·exact cj (show cz _ (cK DG (iA g wp wq) nE (0,0)::N2::cK g7 (dS x ur up uq) rE (0,0)::N::vS j wx (s.iZ j x.dc n)::dH (ow 0 j a.wx s.ws)::cK w (a.cells c s) di (0,0)::js a.ve a.es::iC fH a.mr a.kr::iC fH a.ml a.kl::iC ig a.mc (sN a.kc)::M::eg a.gf a.xp a.gl c.f s.fs::cV a.gl a.ld a.lk (cS 0) s.ls::dJ pX 1 a.lZ a.wx.length (a.wx.map jJ)::lf a.mB (cZ c) c.retry s.n s.fd::ke a.gu a.ud iS (cZ c) s.up::jq a.gm dN s.mo::Net a.gn 32 a.nl::R) from zE) (bh (bh (bh (bh VN))))
  refine aZ rfl rfl (jg _ e) ?_;rintro _ _ ⟨gw,rfl,rfl⟩;refine wB ?_;refine aZ rfl rfl (mw _ e gw [] 1 (by simp)) ?_;rintro _ _ ⟨rfl,rfl⟩;rw [show []++[(1:UInt8)]=[1] from rfl];refine wB ?_;refine aZ rfl rfl (Bk _ e gw [1] wp wq g (nk.cL (cG zP)) zo hyw.2 (by simp)) ?_;rintro _ _ ⟨rfl,rfl⟩;have oP:([1]++eU g:dv).length=2182:=by rw [aa,ln hyw.2];rfl
  rw [show ([1]++eU g:dv)=1::eU g from rfl] at oP ⊢
  have AU:a.nl.map gV.d=s1.eh.map (fZ.d c.k):=by rw [fQ];exact ha.eh
  have ON:s1.eh.length≤32:=by rw [fQ];exact eJ.room
  have hsn:s1.send (.iP j g)={ s1 with eh:=if s1.eh.length<32 then s1.eh++[.iP j g] else s1.eh }:=rfl;refine wB ?_;refine bk (id:=12) [] (cK w (a.cells c s1) di (0,0)::R) mixed ?_
  (refine tM 0 ?_;refine tN 1 ?_;refine tF 2 ?_;refine tL 3 ?_;refine tM 4 ?_;refine tM 5 ?_)
  refine tO 6 ?_;refine bg rfl rfl (hI _ e gw (1::eU g) zo) ?_;rintro _ _ ⟨eI,k3,rfl,rfl⟩;refine ⟨fun _=>zE,?_⟩;refine tk 7 _ rfl (bL rfl zF) ?_;refine tO 8 ?_;refine bg rfl rfl (Ct.at zP (sO _ e a.gn c.k a.nl s1.eh (.iP j g) ⟨2,((j+1:Nat):Int),0,.slice eI (1::eU g:dv).length k3,1::eU g⟩ AU rfl (bb (show cQ _ (cR (.slice eI (1::eU g:dv).length k3) (1::eU g)) _ from zP)) zd ON)) ?_;rintro _ _ ⟨rfl,Jg,ND,rfl⟩;refine ⟨fun _=>zE,?_⟩;refine bf zK ?_;have SQ:s1.signed=s.signed:=by rw [fQ]
  have er:ee.ok { a with nl:=Jg } M w c (m+1) (s1.send (.iP j g)) :=
   {ha with eh:=ND,st:=m6,ec:=by show a.es.length≤_;omega,all:=⟨ha.all.all⟩,root:=by show db [M] a.vr (da.sv (s1.send (.iP j g))).root;rw [show da.sv (s1.send (.iP j g))=s.sv by unfold da.sv;rw [← SQ];rfl];exact ha.root }
  (repeat' first|refine W.u2 (id:=15) (fun q:(Nat × Nat) × Bool=>[(0,pt w),(1,.int .i64 ((j+1:Nat):Int)),(7,pt g7),(11,pt DG),(12,.int .i64 0),(14,pt q.1.1),(15,pt q.1.2),(16,.bool q.2)]) (fun q=>cK q.1.2 (jl.cells t0) nE (0,0)::cK q.1.1 [.int .i64 (x.dc.size:Int),.int .i64 (j:Int)] mX (0,0)::cK DG (iA g wp wq) nE (0,0)::N2::cK g7 (dS x ur up uq) rE (0,0)::N::dR w c (s1.send (.iP j g)) { a with nl:=Jg } M R) (fun q=>q.2=(gK kf (sN a.kc)).isSome) ?_ ?_|refine Za ?_|apply Zc|apply Zd|apply Ze|apply Zf|refine Zh ?_|refine Zi ?_|refine ZU ?_|refine Ye ?_|refine Yh fun _=>?_|refine YR ?_|fail)
  rotate_left
  ·refine ⟨?_⟩;rename_i Ay;refine W.gC [(0,pt w),(1,.int .i64 ((j+1:Nat):Int)),(7,pt g7),(11,pt DG),(12,.int .i64 0),(14,pt Ay)] zS ?_;refine bk (id:=14) [11] (cK Ay [.int .i64 (x.dc.size:Int),.int .i64 (j:Int)] mX (0,0)::cK w (a.cells c s1) di (0,0)::R) mixed ?_
   (refine tM 0 ?_;refine tN 1 ?_;refine tF 2 ?_;refine tL 3 ?_;refine tJ 4 ?_)
   refine A.two 5 9 rfl rfl rfl rfl zK ?_ ?_
   ·refine bN (cD.kE (key:=ig) (k:=kf) rfl (by rw [Ug];rfl) zP) rfl ⟨fun _=>zE,?_⟩;rw [OX]
    (refine tM 6 ?_;refine tk 7 _ rfl (bl rfl rfl) ?_;refine tk 8 _ rfl (bl rfl rfl) ?_)
    refine tO 9 ?_;refine bQ (cs:=[.int .i64 0,.int .i64 0,nY,nY]) rfl rfl fun Uh=>⟨fun _=>zE,?_⟩
    refine tO 10 ?_;apply Do.ek;exact rfl;exact rfl;exact rfl;exact mS;exact zU;exact zW;refine ⟨fun _=>zE,?_⟩
    ((refine tO 11 ?_;refine dV (bj rfl) ?_))
    refine bf zK ?_;exact bJ ((Ay,Uh),(gK kf (sN a.kc)).isSome) rfl zS zE
   ·refine bQ (cs:=[.int .i64 0,.int .i64 0,nY,nY]) rfl rfl fun Uh=>⟨fun _=>zE,?_⟩
    refine tO 5 ?_;refine bN (cD.kE (key:=ig) (k:=kf) rfl (by rw [Ug];rfl) zP) rfl ⟨fun _=>zE,?_⟩;rw [OX]
    (refine tM 6 ?_;refine tk 7 _ rfl (bl rfl rfl) ?_;refine tk 8 _ rfl (bl rfl rfl) ?_)
    refine tO 10 ?_;apply Do.ek;exact rfl;exact rfl;exact rfl;exact mS;exact zU;exact zW;refine ⟨fun _=>zE,?_⟩
    ((refine tO 11 ?_;refine dV (bj rfl) ?_))
    refine bf zK ?_;exact bJ ((Ay,Uh),(gK kf (sN a.kc)).isSome) rfl zS zE
  rintro ⟨⟨Ay,Uh⟩,told⟩ Q4;dsimp only at Q4 ⊢
  obtain ⟨b,hb⟩:∃ b:ee,b={ a with nl:=Jg }:=⟨_,rfl⟩
  rw [← hb] at er ⊢
  obtain ⟨s2,m1⟩:∃ s2:da,s2=s1.send (.iP j g):=⟨_,rfl⟩
  rw [← m1] at er ⊢
  have hbc:b.kc=a.kc:=by rw [hb]
  have GO:b.es=a.es:=by rw [hb]
  have PE:s2.fs.recs≠[]:=by rw [m1,fQ];exact eJ.some h0
  have F5:b.es.length≤600*m:=by rw [GO];exact Q0
  cases told with
  | false =>
   refine wB ?_;refine W.gC [(0,pt w),(1,.int .i64 ((j+1:Nat):Int)),(7,pt g7),(11,pt DG),(12,.int .i64 0),(14,pt Ay)] zS ?_;refine bk (id:=16) [6] (cK Ay [.int .i64 (x.dc.size:Int),.int .i64 (j:Int)] mX (0,0)::cK DG (iA g wp wq) nE (0,0)::dR w c s2 b M R) mixed ?_
   (refine tM 0 ?_;refine tN 1 ?_;refine tF 2 ?_;refine tL 3 ?_;refine tJ 4 ?_;refine tJ 5 ?_)
   refine tO 6 ?_;refine Do.jU (key:=ig) (k:=kf) rfl (by rw [Ug];rfl) rfl zP ⟨zN,?_⟩;refine bf zK ?_;obtain ⟨SR,Od,Qq⟩:=Dd kf (g,wp,wq) b.kc;rw [show lF kf (Value.agg (iA g wp wq).toArray) (sN b.kc)=sN SR from Od];refine wB ?_;rw [show (((j+1:Nat):Int) - 1)=(j:Int) by omega];refine aZ rfl rfl (Ct.AO zP zP (ir _ e w c s2 { b with kc:=SR } 4 (x.dc.size:Int) (j:Int) ur x.dc.root o3 zd)) ?_;rintro _ _ ⟨rfl,ve,rfl⟩
   have nG:=(((er.more (De (A:=M) (B:=N) (C:=N2))).put SR (fun p hp=>by
    rcases Qq p hp with hp|rfl
    ·exact ((er.kc p hp).cL De)
    ·exact ⟨nk.cL NC,by show g.fY<_;omega⟩)).seen (x:=⟨4,(x.dc.size:Int),(j:Int),ur,x.dc.root⟩) ve (hN.root.cL NB) zd (by show x.dc.root.length≤1000;have:=z7.1.1.2;omega))
   refine wB ?_;refine aY (dO w c (m+1) s2 (ev++[(4,(x.dc.size:Int),(j:Int),x.dc.root)])::R) rfl (cj ?_ (dU nG (by dsimp only;rw [ah,GO,he];rfl))) ⟨rfl,_,?_,rfl⟩
   ·exact cj (rb (A:=M) (B:=N) (C:=N2) zP zP zP) zE
   ·intro y hy;rw [an.1 hy];exact ⟨(by decide:(4:Int)≠3),.inr PE⟩
  | true =>
   have J6:=hg0 Q4.symm;obtain ⟨⟨w0,sg0⟩,tp,tq⟩:=t0;obtain ⟨t1,t2⟩:=J6;dsimp only at t1 t2
   have hfq:∀ {L R':List cJ},cQ L M R'→fL L tp tq sg0:=fun pl=>t1.cL (cG pl)
   dsimp only [jl.cells];refine wB ?_;refine aZ rfl rfl (G1 _ e tp tq wp wq ⟨w0,sg0⟩ g (hfq (show cQ _ M _ from zP)) (nk.cL (cG (show cQ _ N2 _ from zP)))) ?_;rintro _ _ ⟨rfl,rfl⟩
   by_cases Q5:(⟨w0,sg0⟩:kN)=g
   ·rw [ay Q5];refine wB ?_;refine aY (dO w c (m+1) s2 ev::R) rfl (cj (show cz _ (dR w c s2 b M R) from zE) (dU er (by rw [GO];exact he))) ⟨rfl,[],rF.nil,by rw [aK]⟩
   ·rw [aq Q5];refine wB ?_;refine W.gC [(0,pt w),(1,.int .i64 ((j+1:Nat):Int)),(7,pt g7),(11,pt DG),(12,.int .i64 0),(14,pt Ay)] zS ?_;refine bk (id:=16) [6] (cK Ay [.int .i64 (x.dc.size:Int),.int .i64 (j:Int)] mX (0,0)::cK DG (iA g wp wq) nE (0,0)::dR w c s2 b M R) mixed ?_
    (refine tM 0 ?_;refine tN 1 ?_;refine tF 2 ?_;refine tL 3 ?_;refine tJ 4 ?_;refine tJ 5 ?_)
    refine tO 6 ?_;refine Do.jU (key:=ig) (k:=kf) rfl (by rw [Ug];rfl) rfl zP ⟨zN,?_⟩;refine bf zK ?_;obtain ⟨SR,Od,Qq⟩:=Dd kf (g,wp,wq) b.kc;rw [show lF kf (Value.agg (iA g wp wq).toArray) (sN b.kc)=sN SR from Od];refine wB ?_;rw [show (((j+1:Nat):Int) - 1)=(j:Int) by omega];refine aZ rfl rfl (Ct.AO zP zP (ir _ e w c s2 { b with kc:=SR } 4 (x.dc.size:Int) (j:Int) ur x.dc.root o3 zd)) ?_;rintro _ _ ⟨rfl,ve,rfl⟩
    have nG:=(((er.more (De (A:=M) (B:=N) (C:=N2))).put SR (fun p hp=>by
     rcases Qq p hp with hp|rfl
     ·exact ((er.kc p hp).cL De)
     ·exact ⟨nk.cL NC,by show g.fY<_;omega⟩)).seen (x:=⟨4,(x.dc.size:Int),(j:Int),ur,x.dc.root⟩) ve (hN.root.cL NB) zd (by show x.dc.root.length≤1000;have:=z7.1.1.2;omega))
    refine wB ?_;refine aY (dO w c (m+1) s2 (ev++[(4,(x.dc.size:Int),(j:Int),x.dc.root)])::R) rfl (cj ?_ (dU nG (by dsimp only;rw [ah,GO,he];rfl))) ⟨rfl,_,?_,rfl⟩
    ·exact cj (rb (A:=M) (B:=N) (C:=N2) zP zP zP) zE
    ·intro y hy;rw [an.1 hy];exact ⟨(by decide:(4:Int)≠3),.inr PE⟩
 ·obtain ⟨rfl,rfl⟩:=lU hE;clear hy lU Oj;obtain ⟨s1,fQ⟩:∃ s1:da,s1={ s with ws:=s.ws.set j (s.iZ j x.dc n) }:=⟨_,rfl⟩
  have SP:s.asked j x.dc n=s1.send (.no j (s.iZ j x.dc n).c.size):=by unfold da.asked da.PB;rw [aB hE,fQ]
  rw [SP] at m6 ⊢
  have VN:cz (vS j wx (s.iZ j x.dc n)::dH (ow 0 j a.wx s.ws)::cK w (a.cells c s) di (0,0)::js a.ve a.es::iC fH a.mr a.kr::iC fH a.ml a.kl::iC ig a.mc (sN a.kc)::M::eg a.gf a.xp a.gl c.f s.fs::cV a.gl a.ld a.lk (cS 0) s.ls::dJ pX 1 a.lZ a.wx.length (a.wx.map jJ)::lf a.mB (cZ c) c.retry s.n s.fd::ke a.gu a.ud iS (cZ c) s.up::jq a.gm dN s.mo::Net a.gn 32 a.nl::R) (dR w c s1 a M R):=by
   have:=Dc (R:=cK w (a.cells c s) di (0,0)::js a.ve a.es::iC fH a.mr a.kr::iC fH a.ml a.kl::iC ig a.mc (sN a.kc)::M::eg a.gf a.xp a.gl c.f s.fs::cV a.gl a.ld a.lk (cS 0) s.ls::dJ pX 1 a.lZ a.wx.length (a.wx.map jJ)::lf a.mB (cZ c) c.retry s.n s.fd::ke a.gu a.ud iS (cZ c) s.up::jq a.gm dN s.mo::Net a.gn 32 a.nl::R) (x:=wx) (s:=s.iZ j x.dc n) Wo hjw;rw [uJ _ _ _ SO] at this
   rw [fQ];exact cj this zE
  generalize hEE:s.qL j x.dc n=E at *
  have LC:(s.iZ j x.dc n).c.size≤256:=(eN.uz w1).1
  (repeat (refine wA ?_;intros))
  rename_i DG;refine aZ rfl rfl (jg _ e) ?_;rintro _ _ ⟨gw,rfl,rfl⟩;refine wB ?_;refine aZ rfl rfl (mw _ e gw [] 0 (by simp)) ?_;rintro _ _ ⟨rfl,rfl⟩;rw [show []++[(0:UInt8)]=[0] from rfl];refine wB ?_;refine aZ rfl rfl (Ct.at zP (E0 _ e wx.g wx.d wx.k j (cS (j+1)) dN (s.iZ j x.dc n))) ?_;rintro _ _ ⟨ux,kr,rfl,rfl⟩;have abt:∀ w',(Instr.field tCh (.agg #[.int .i64 ((s.iZ j x.dc n).c.size:Int),.slice ux (s.iZ j x.dc n).c.root.length kr]) 0).run prog w'=.ok (.int .i64 ((s.iZ j x.dc n).c.size:Int)) w':=fun w'=>by kernel_rfl
  (repeat' first|(refine bx _ (cD.SJ abt rfl) rfl ?_)|refine ZY ?_|fail)
  refine aZ rfl rfl (Ct.at zP (gF _ e gw [0] (s.iZ j x.dc n).c.size zo (by simp))) ?_;rintro _ _ ⟨rfl,rfl⟩;rw [show ([0]++be (s.iZ j x.dc n).c.size 4:dv)=0::be (s.iZ j x.dc n).c.size 4 from rfl];have oP:(0::be (s.iZ j x.dc n).c.size 4:dv).length=5:=by rw [aN,cX]
  refine O.fo (show cz _ (Writer gw (0::be (s.iZ j x.dc n).c.size 4)::cK DG (iA fW nY nY) nE (0,0)::cK g7 (dS x ur up uq) rE (0,0)::N::dR w c s1 a M R) from ?_) ?_
  ·exact cj (show cz _ (Writer gw (0::be (s.iZ j x.dc n).c.size 4)::cK DG (iA fW nY nY) nE (0,0)::cK g7 (dS x ur up uq) rE (0,0)::N::vS j wx (s.iZ j x.dc n)::dH (ow 0 j a.wx s.ws)::cK w (a.cells c s) di (0,0)::js a.ve a.es::iC fH a.mr a.kr::iC fH a.ml a.kl::iC ig a.mc (sN a.kc)::M::eg a.gf a.xp a.gl c.f s.fs::cV a.gl a.ld a.lk (cS 0) s.ls::dJ pX 1 a.lZ a.wx.length (a.wx.map jJ)::lf a.mB (cZ c) c.retry s.n s.fd::ke a.gu a.ud iS (cZ c) s.up::jq a.gm dN s.mo::Net a.gn 32 a.nl::R) from zE) (bh (bh (bh (bh VN))))
  generalize afB:(s.iZ j x.dc n).c.size=z at *
  have AU:a.nl.map gV.d=s1.eh.map (fZ.d c.k):=by rw [fQ];exact ha.eh
  have ON:s1.eh.length≤32:=by rw [fQ];exact eJ.room
  refine wB ?_;refine bk (id:=12) [] (cK w (a.cells c s1) di (0,0)::R) mixed ?_
  (refine tM 0 ?_;refine tN 1 ?_;refine tF 2 ?_;refine tL 3 ?_;refine tM 4 ?_;refine tM 5 ?_)
  refine tO 6 ?_;refine bg rfl rfl (hI _ e gw (0::be z 4) zo) ?_;rintro _ _ ⟨eI,k3,rfl,rfl⟩;refine ⟨fun _=>zE,?_⟩;refine tk 7 _ rfl (bL rfl zF) ?_;refine tO 8 ?_;refine bg rfl rfl (Ct.at zP (sO _ e a.gn c.k a.nl s1.eh (.no j z) ⟨2,((j+1:Nat):Int),0,.slice eI (0::be z 4:dv).length k3,0::be z 4⟩ AU rfl (bb (show cQ _ (cR (.slice eI (0::be z 4:dv).length k3) (0::be z 4)) _ from zP)) zd ON)) ?_;rintro _ _ ⟨rfl,Jg,ND,rfl⟩;refine ⟨fun _=>zE,?_⟩;refine bf zK ?_;have SQ:s1.signed=s.signed:=by rw [fQ]
  have er:ee.ok { a with nl:=Jg } M w c (m+1) (s1.send (.no j z)) :=
   {ha with eh:=ND,st:=m6,ec:=by show a.es.length≤_;omega,all:=⟨ha.all.all⟩,root:=by show db [M] a.vr (da.sv (s1.send (.no j z))).root;rw [show da.sv (s1.send (.no j z))=s.sv by unfold da.sv;rw [← SQ];rfl];exact ha.root }
  have afC:∀ R':List cJ,Net a.gn 32 Jg::dR w c s1 { a with nl:=Jg } M R'=Net a.gn 32 Jg::dR w c (s1.send (.no j z)) { a with nl:=Jg } M R':=fun _=>rfl
  obtain ⟨b,hb⟩:∃ b:ee,b={ a with nl:=Jg }:=⟨_,rfl⟩
  obtain ⟨s2,m1⟩:∃ s2:da,s2=s1.send (.no j z):=⟨_,rfl⟩
  have GO:b.es=a.es:=by rw [hb]
  have hbc:b.kc=a.kc:=by rw [hb]
  (repeat (refine wA ?_;intros))
  rename_i Ay;refine W.fo (show cz _ (cK Ay [.int .i64 (x.dc.size:Int),.int .i64 (j:Int)] mX (0,0)::dR w c s2 b M R) from ?_) ?_
  ·rw [m1,hb];exact zE
  rw [← hb,← m1] at er
  rw [← m1];rw [← hbc] at OX
  refine W.gC [(0,pt w),(1,.int .i64 ((j+1:Nat):Int)),(7,pt g7),(11,pt DG),(12,.int .i64 E),(14,pt Ay)] zS ?_;refine bk (id:=14) [11] (cK Ay [.int .i64 (x.dc.size:Int),.int .i64 (j:Int)] mX (0,0)::cK w (b.cells c s2) di (0,0)::R) mixed ?_
  (refine tM 0 ?_;refine tN 1 ?_;refine tF 2 ?_;refine tL 3 ?_;refine tJ 4 ?_)
  refine A.two 5 9 rfl rfl rfl rfl zK ?_ ?_
  ·refine bN (cD.kE (key:=ig) (k:=kf) rfl (by rw [Ug];rfl) zP) rfl ⟨fun _=>zE,?_⟩;rw [OX]
   (refine tM 6 ?_;refine tk 7 _ rfl (bl rfl rfl) ?_;refine tk 8 _ rfl (bl rfl rfl) ?_)
   refine tO 9 ?_;refine bQ (cs:=[.int .i64 0,.int .i64 0,nY,nY]) rfl rfl fun Uh=>⟨fun _=>zE,?_⟩
   refine tO 10 ?_;apply Do.ek;exact rfl;exact rfl;exact rfl;exact mS;exact zU;exact zW;refine ⟨fun _=>zE,?_⟩
   ((refine tO 11 ?_;refine dV (bj rfl) ?_))
   refine bf zK ?_;refine wB ?_;refine aY (dO w c (m+1) s2 ev::R) rfl (cj (show cz _ (dR w c s2 b M R) from zE) (dU er (by rw [GO];exact he))) ⟨rfl,[],rF.nil,by rw [aK]⟩
  ·refine bQ (cs:=[.int .i64 0,.int .i64 0,nY,nY]) rfl rfl fun Uh=>⟨fun _=>zE,?_⟩
   refine tO 5 ?_;refine bN (cD.kE (key:=ig) (k:=kf) rfl (by rw [Ug];rfl) zP) rfl ⟨fun _=>zE,?_⟩;rw [OX]
   (refine tM 6 ?_;refine tk 7 _ rfl (bl rfl rfl) ?_;refine tk 8 _ rfl (bl rfl rfl) ?_)
   refine tO 10 ?_;apply Do.ek;exact rfl;exact rfl;exact rfl;exact mS;exact zU;exact zW;refine ⟨fun _=>zE,?_⟩
   ((refine tO 11 ?_;refine dV (bj rfl) ?_))
   refine bf zK ?_;refine wB ?_;refine aY (dO w c (m+1) s2 ev::R) rfl (cj (show cz _ (dR w c s2 b M R) from zE) (dU er (by rw [GO];exact he))) ⟨rfl,[],rF.nil,by rw [aK]⟩
def iY {α:Type} (l:List α) (i:Nat):List α:=l.take i++l.drop (i+1)
theorem rk {α β:Type} (f:α→β) (l:List α) (i:Nat):(iY l i).map f=iY (l.map f) i:=by
 unfold iY;rw [ah,List.map_take,List.map_drop]
theorem La {α:Type} {l:List α} {i:Nat} {x:α} (h:x∈iY l i):x∈l:=by
 rcases aJ.1 h with h|h
 ·exact aR h
 ·exact aV h
theorem Lb {α:Type} (l:List α) (i:Nat):(iY l i).length≤l.length:=by
 unfold iY;rw [aa,aF,aO];omega
end Go.Proofs
namespace Go.Proofs
attribute [local irreducible] Bs.cD Bs.Do Bs.O Bs.W Bs.Fin Bs.A Bs.Ct Bs.cE Bs.Rd Bs.Sat Bs.cK Bs.Ob Bs.dJ Bs.View Bs.cz Bs.Ex Bs.dH Bs.Pu Bs.eY Bs.dM Bs.dZ
open Go.Bs
open Tryz
variable (R:List cJ) (e:World)
def da.lost (s:da) (i:Nat):da:={ s with eh:=iY s.eh i }
theorem da.Dg {c:dh} {m:Nat} {s:da} {i:Nat} (h:s.ok c m):(s.lost i).ok c m :=
 {h with
  eh:=fun x hx=>h.eh x (La hx)
  room:=Nat.le_trans (Lb _ _) h.room }
theorem Jh {l:List gV} {L R:List cJ} {g n:Nat} (p:cQ L (Net g n l) R):∀ h,dM L h→∀ m∈l,m.v.oneCell'=true:=fun h x m hm =>
 cn (db.cL (dP.dY (.zero:cQ (cH (l.map gV.t)::R) (cH (l.map gV.t)) R) m.t (aE.2 ⟨m,hm,rfl⟩)) (cj p.out BO)) h x
theorem ee.ok.PF {a:ee} {M:cJ} {w:Nat} {c:dh} {m m':Nat} {s s':da} (h:a.ok M w c m s) (hs:s'.ok c m') (hm:m≤m') (h1:s'.signed=s.signed) {nl:List gV} (h2:nl.map gV.d=s'.eh.map (fZ.d c.k)):ee.ok { a with nl:=nl } M w c m' s' :=
 {h with root:=by unfold da.sv;rw [h1];exact h.root,eh:=h2,st:=hs,ec:=Nat.le_trans h.ec (Nat.mul_le_mul_left _ hm),all:=⟨h.all.all⟩ }
abbrev PG:TypeId:=268
theorem H8 (w:Nat) (c:dh) (m:Nat) (s:da) (ev:List (Int × Int × Int × dv)) (k to wh:Int) (n:Nat) (v:Value) (hv:v.oneCell'=true) (hn:n≤1000000) (hm:m<250) :
 Ct prog 88 #[pt w,.agg (ot k n to wh v).toArray] e (dO w c m s ev::R) (fun v' L'=>v'=.tuple #[.int .i64 0,.int .i64 (if n<s.eh.length then 0 else 1)]∧L'=dO w c (m+1) (if n<s.eh.length then s.lost n else s) ev::R):=by
 refine gY fun a M ha he=>?_
 have eJ:=ha.st;have hrm:=eJ.room;have DV:a.nl.length=s.eh.length:=by have:=congrArg List.length ha.eh;simpa using this
 refine a7 (Jh (show cQ (dR w c s a M R) (Net a.gn 32 a.nl) _ from zP)) fun lU=>?_
 refine a8 (args:=[_,_]) func88 rfl ntmps88 results88 rfl ?_
 (repeat (refine wA ?_;intros))
 rename_i g3;refine bk (id:=1) [12] (cK g3 (ot k n to wh v) eM (0,0)::cK w (a.cells c s) di (0,0)::R) mixed ?_
 (refine tM 0 ?_;refine tN 1 ?_;refine tF 2 ?_;refine tL 3 ?_;refine tF 4 ?_;refine tL 5 ?_)
 by_cases cO:n<s.eh.length
 ·rw [aI cO,aI cO]
  have er:ee.ok { a with nl:=iY a.nl n } M w c (m+1) (s.lost n) :=
   ha.PF (da.Dg (eJ.next hm)) (Nat.le_succ m) rfl (by show (iY a.nl n).map gV.d=(iY s.eh n).map _;rw [rk,rk,ha.eh])
  refine A.two 6 10 rfl rfl rfl rfl zK ?_ ?_
  ·refine bg rfl rfl (Ct.at zP (jr _ e a.gn 32 a.nl (n:Int) zo lU)) ?_;rintro _ _ (⟨k2,xN,Om,rfl,rfl⟩|⟨H9,-,-⟩)
   rotate_left
   ·exact absurd ⟨by omega,by omega⟩ H9
   obtain rfl:n=k2:=by omega
   have mS:=lU _ (az xN);rw [show a.nl.take n++a.nl.drop (n+1)=iY a.nl n from rfl]
   generalize a.nl[n]'xN=y at *
   refine ⟨fun _=>zE,?_⟩
   (refine tM 7 ?_;refine tk 8 _ rfl (bl rfl rfl) ?_;refine tk 9 _ rfl (bl rfl rfl) ?_)
   refine tO 10 ?_;refine bQ (cs:=[.int .i64 0,.int .i64 0,.int .i64 0,nY]) rfl rfl fun g6=>⟨fun _=>zE,?_⟩
   refine tO 11 ?_;refine zg ?_;refine ⟨fun _=>zE,?_⟩
   ((refine tO 12 ?_;refine dV (bj rfl) ?_))
   refine bf zK ?_;refine wB ?_;refine aY (dO w c (m+1) (s.lost n) ev::R) rfl (cj (show cz _ (dR w c (s.lost n) { a with nl:=iY a.nl n } M R) from zE) (dU er he)) ⟨rfl,rfl⟩
  ·refine bQ (cs:=[.int .i64 0,.int .i64 0,.int .i64 0,nY]) rfl rfl fun g6=>⟨fun _=>zE,?_⟩
   refine tO 6 ?_;refine bg rfl rfl (Ct.at zP (jr _ e a.gn 32 a.nl (n:Int) zo lU)) ?_;rintro _ _ (⟨k2,xN,Om,rfl,rfl⟩|⟨H9,-,-⟩)
   rotate_left
   ·exact absurd ⟨by omega,by omega⟩ H9
   obtain rfl:n=k2:=by omega
   have mS:=lU _ (az xN);rw [show a.nl.take n++a.nl.drop (n+1)=iY a.nl n from rfl]
   generalize a.nl[n]'xN=y at *
   refine ⟨fun _=>zE,?_⟩
   (refine tM 7 ?_;refine tk 8 _ rfl (bl rfl rfl) ?_;refine tk 9 _ rfl (bl rfl rfl) ?_)
   refine tO 11 ?_;refine zg ?_;refine ⟨fun _=>zE,?_⟩
   ((refine tO 12 ?_;refine dV (bj rfl) ?_))
   refine bf zK ?_;refine wB ?_;refine aY (dO w c (m+1) (s.lost n) ev::R) rfl (cj (show cz _ (dR w c (s.lost n) { a with nl:=iY a.nl n } M R) from zE) (dU er he)) ⟨rfl,rfl⟩
 ·rw [aB cO,aB cO];have er:=ha.to (eJ.next hm) (Nat.le_succ m) rfl rfl;refine A.two 6 10 rfl rfl rfl rfl zK ?_ ?_
  ·refine bg rfl rfl (Ct.at zP (jr _ e a.gn 32 a.nl (n:Int) zo lU)) ?_;rintro _ _ (⟨k2,xN,Om,-,-⟩|⟨-,rfl,rfl⟩)
   ·exact absurd xN zo
   refine ⟨fun _=>zE,?_⟩
   (refine tM 7 ?_;refine tk 8 _ rfl (bl rfl rfl) ?_;refine tk 9 _ rfl (bl rfl rfl) ?_)
   refine tO 10 ?_;refine bQ (cs:=[.int .i64 0,.int .i64 0,.int .i64 0,nY]) rfl rfl fun g6=>⟨fun _=>zE,?_⟩
   refine tO 11 ?_;refine zg ?_;refine ⟨fun _=>zE,?_⟩
   ((refine tO 12 ?_;refine dV (bj rfl) ?_))
   refine bf zK ?_;refine wB ?_;refine aY (dO w c (m+1) s ev::R) rfl (cj (show cz _ (dR w c s a M R) from zE) (dU er he)) ⟨rfl,rfl⟩
  ·refine bQ (cs:=[.int .i64 0,.int .i64 0,.int .i64 0,nY]) rfl rfl fun g6=>⟨fun _=>zE,?_⟩
   refine tO 6 ?_;refine bg rfl rfl (Ct.at zP (jr _ e a.gn 32 a.nl (n:Int) zo lU)) ?_;rintro _ _ (⟨k2,xN,Om,-,-⟩|⟨-,rfl,rfl⟩)
   ·exact absurd xN zo
   refine ⟨fun _=>zE,?_⟩
   (refine tM 7 ?_;refine tk 8 _ rfl (bl rfl rfl) ?_;refine tk 9 _ rfl (bl rfl rfl) ?_)
   refine tO 11 ?_;refine zg ?_;refine ⟨fun _=>zE,?_⟩
   ((refine tO 12 ?_;refine dV (bj rfl) ?_))
   refine bf zK ?_;refine wB ?_;refine aY (dO w c (m+1) s ev::R) rfl (cj (show cz _ (dR w c s a M R) from zE) (dU er he)) ⟨rfl,rfl⟩
def da.FB (s:da) (i:Nat):Int:=if s.eh.length≤i then 1 else if s.eh.length<32 then 0 else 13
def da.NE (s:da) (i:Nat):da:=match s.eh[i]? with
 | none=>s
 | some x=>if s.eh.length<32 then { s with eh:=s.eh++[x] } else s
theorem da.SS {c:dh} {m:Nat} {s:da} {i:Nat} (h:s.ok c m):(s.NE i).ok c m:=by
 unfold da.NE
 split
 ·exact h
 ·rename_i x hx
  split
  ·rename_i hl
   exact { h with
    eh:=fun y hy=>by
     rcases aJ.1 hy with hy|hy
     ·exact h.eh y hy
     ·rw [an.1 hy];exact h.eh x (ax hx)
    room:=by show (s.eh++[x]).length≤32;rw [aa];exact hl }
  ·exact h
theorem fZ.len {c:dh} {l:List dv} {x:fZ} (h:x.ok c l) (hl:l.length≤250):(x.d c.k).2.2.2.length≤1000000:=by
 cases x with
 | ask w x n m path =>
  obtain ⟨-,-,h1,rfl,-,rfl⟩:=h;have hg:=qK (l:=l.take x.dc.size) (n:=n) (by rw [aF];omega);have hf:=fc hg.2
  show (qI _ _ _ _).length≤_
  unfold qI;simp only [aa,aN,cX,iN h1.1.1 h1.2.1]
  omega
 | iP w g =>
  show (1::eU g:dv).length≤_
  rw [aN,ln h.2.2.2];omega
 | no w n=>show (0::be n 4:dv).length≤_;rw [aN,cX];omega
 | off b=>exact pj h.2.1
theorem Dh (w:Nat) (c:dh) (m:Nat) (s:da) (ev:List (Int × Int × Int × dv)) (k to wh:Int) (n:Nat) (v:Value) (hv:v.oneCell'=true) (hn:n≤1000000) (hm:m<250) :
 Ct prog 89 #[pt w,.agg (ot k n to wh v).toArray] e (dO w c m s ev::R) (fun v' L'=>v'=.tuple #[.int .i64 0,.int .i64 (s.FB n)]∧L'=dO w c (m+1) (s.NE n) ev::R):=by
 refine gY fun a M ha he=>?_
 have eJ:=ha.st;have hrm:=eJ.room;have lm:=eJ.short;have DV:a.nl.length=s.eh.length:=by have:=congrArg List.length ha.eh;simpa using this
 have oP:∀ y∈a.nl,y.b.length≤140737488351232:=fun y hy=>by
  have h1:y.d∈s.eh.map (fZ.d c.k):=by rw [← ha.eh];exact aE.2 ⟨y,hy,rfl⟩
  obtain ⟨q,hq,hqd⟩:=aE.1 h1;have:=fZ.len (eJ.eh q hq) lm;rw [hqd] at this
  exact Nat.le_trans this zo
 refine a8 (args:=[_,_]) func89 rfl ntmps89 results89 rfl ?_
 (repeat (refine wA ?_;intros))
 rename_i g3;refine bk (id:=1) [] (cK g3 (ot k n to wh v) eM (0,0)::cK w (a.cells c s) di (0,0)::R) mixed ?_
 (refine tF 0 ?_;refine tL 1 ?_;refine tk 2 (.bool false) rfl (cD.no (cD.lss rfl rfl) zn) ?_;refine tM 3 ?_;refine dt 4 _ rfl (ba rfl) ?_;refine dt 5 _ rfl (bp rfl zR) ?_;refine dt 6 _ rfl (bu rfl) ?_;refine dt 7 _ rfl (bm rfl) ?_;refine dt 8 _ rfl (ba rfl) ?_;refine dt 9 _ rfl (bp rfl zR) ?_)
 refine A.ru 10 rfl rfl zK ?_;refine bg rfl rfl (Ct.at zP (KY _ e a.gn 32 a.nl)) ?_;rintro _ _ ⟨rfl,rfl⟩;refine ⟨fun _=>zE,?_⟩
 by_cases cO:n<a.nl.length
 rotate_left
 ·have hE:s.FB n=1:=by unfold da.FB;rw [aI zo]
  have hS:s.NE n=s:=by unfold da.NE;rw [List.getElem?_eq_none zo]
  have er:=ha.to (eJ.next hm) (Nat.le_succ m) rfl rfl;rw [hE,hS]
  (refine dt 11 (.bool true) rfl (cD.iP (bR rfl rfl) zy) ?_;refine tk 12 _ rfl (bI rfl rfl) ?_;refine tA 13 ?_)
  refine bf zK ?_;refine wB ?_;refine aY (dO w c (m+1) s ev::R) rfl (cj (show cz _ (dR w c s a M R) from zE) (dU er he)) ⟨rfl,rfl⟩
 (refine dt 11 (.bool false) rfl (cD.no (bR rfl rfl) zn) ?_;refine tk 12 _ rfl (bI rfl rfl) ?_;refine tA 13 ?_)
 refine bf zK ?_;refine wB ?_;refine bk (id:=3) [] (cK g3 (ot k n to wh v) eM (0,0)::cK w (a.cells c s) di (0,0)::R) mixed ?_
 (refine tM 0 ?_;refine tN 1 ?_;refine tF 2 ?_;refine tL 3 ?_;refine tF 4 ?_;refine tL 5 ?_)
 refine tO 6 ?_;have hg:s.eh[n]?=some (s.eh[n]'zo):=ae _;refine bg rfl rfl (Ct.at zP (Da _ e a.gn 32 a.nl (n:Int) zo zo oP)) ?_
 have GC:(a.nl[n]'cO).d=(s.eh[n]'zo).d c.k:=by
  have:=congrArg (fun l=>l[n]?) ha.eh;simp only [aL,ae cO,hg,Option.map_some,Option.some.injEq] at this
  exact this
 rintro _ _ (⟨k2,xN,v2,Om,hr,rfl,rfl⟩|⟨lU,rfl,rfl⟩)
 ·obtain rfl:n=k2:=by omega
  have hE:s.FB n=0:=by unfold da.FB;rw [aB zo,aI zo]
  have hS:s.NE n={ s with eh:=s.eh++[s.eh[n]'zo] }:=by unfold da.NE;rw [hg];dsimp only;rw [aI zo]
  have nG:=da.SS (i:=n) (eJ.next hm)
  have er:ee.ok { a with nl:=a.nl++[{ (a.nl[n]'xN) with v:=v2 }] } M w c (m+1) (s.NE n) :=
   ha.PF nG (Nat.le_succ m) (by rw [hS]) (by
    rw [hS,ah,ah,ha.eh,List.map_cons,List.map_cons,← GC]
    rfl)
  rw [hE];rw [hS] at er ⊢
  generalize ({ (a.nl[n]'xN) with v:=v2 }:gV)=y at *
  refine ⟨fun _=>zE,?_⟩
  (refine tk 7 _ rfl (cD.jY rfl) ?_;refine tA 8 ?_)
  refine bf zK ?_;refine wB ?_;refine aY _ rfl (cj (show cz _ (dR w c { s with eh:=s.eh++[s.eh[n]'zo] } { a with nl:=a.nl++[y] } M R) from zE) (dU er he)) ⟨rfl,rfl⟩
 ·have hE:s.FB n=13:=by unfold da.FB;rw [aB zo,aB (fun q=>lU ⟨⟨by omega,by omega⟩,by omega⟩)]
  have hS:s.NE n=s:=by unfold da.NE;rw [hg];dsimp only;rw [aB (fun q=>lU ⟨⟨by omega,by omega⟩,by omega⟩)]
  have er:=ha.to (eJ.next hm) (Nat.le_succ m) rfl rfl;rw [hE,hS];refine ⟨fun _=>zE,?_⟩
  (refine tk 7 _ rfl (cD.p7 rfl) ?_;refine tA 8 ?_)
  refine bf zK ?_;refine wB ?_;refine aY (dO w c (m+1) s ev::R) rfl (cj (show cz _ (dR w c s a M R) from zE) (dU er he)) ⟨rfl,rfl⟩
end Go.Proofs
namespace Go.Bs
theorem Rd.ex {α:Sort _} {f:α→cJ} {R:List cJ} {p:Addr} {v:Value} (h:∀ x,Rd (f x::R) p v):Rd (Ex f::R) p v:=fun hh x=>by
 obtain ⟨h1,h2,ap,l1,l2,⟨y,hy⟩,hR⟩:=x;exact h y hh ⟨h1,h2,ap,l1,l2,hy,hR⟩
theorem Rd.dY {L R:List cJ} {A:cJ} {p:Addr} {v:Value} (q:cQ L A R) (h:Rd (A::R) p v):Rd L p v:=h.cL q.out
end Go.Bs
namespace Go.Proofs
attribute [local irreducible] Bs.cD Bs.Do Bs.O Bs.W Bs.Fin Bs.A Bs.Ct Bs.cE Bs.Rd Bs.Sat Bs.cK Bs.Ob Bs.dJ Bs.View Bs.cz Bs.Ex Bs.dH Bs.Pu Bs.eY Bs.dM Bs.dZ
open Go.Bs
open Tryz
def da.kg (c:dh) (s:da) (b:wQ):Int:=s.up.kg iS (cZ c) b
def da.off (c:dh) (s:da) (b:wQ):da:={ s with up:=s.up.ie iS (cZ c) b }
theorem da.NF {c:dh} {m:Nat} {s:da} {b:wQ} (h:s.ok c m) (hm:m<250) (hb:b.fi.length≤200):(s.off c b).ok c (m+1):=by
 unfold da.off m2.ie
 split
 ·rename_i h0;have hu:=h.Uf
  exact { h.next hm with
   up:=m2.xE h.up hb zo h0
   Uf:=by show (s.up.recs++[b.fi]).length≤m+1;rw [aa];simp only [aj];omega }
 ·exact h.next hm
def PH (w:Nat) (c:dh) (s:da) (a:ee):cJ:=Ex fun ve:Value=>cK w (ee.cells { a with ve:=ve } c s) di (0,0)
theorem Ji {w:Nat} {c:dh} {s:da} {a:ee} {ve:Value} {R:List cJ}:cz (cK w (ee.cells { a with ve:=ve } c s) di (0,0)::R) (PH w c s a::R):=fu (f:=fun ve:Value=>cK w (ee.cells { a with ve:=ve } c s) di (0,0)) ve
theorem PI {w:Nat} {c:dh} {s:da} {a:ee} {L R:List cJ} (p:cQ L (PH w c s a) R):Rd L ⟨w,0+13,none⟩ (pt a.gu) :=
 Rd.dY p (Rd.ex fun ve=>bP .zero rfl)
theorem AG (R:List cJ) (e:World) (w:Nat) (c:dh) (m:Nat) (s:da) (ev:List (Int × Int × Int × dv)) (v:Value) (b:wQ) (hv:db R v (fS b)) (hx:fZ.ok c s.ls.cF (.off b)) (hm:m<250) :
 Ct prog 180 #[pt w,v] e (dO w c m s ev::R) (fun v' L'=>v'=.int .i64 (s.kg c b)∧∃ jP,rF jP (s.off c b)∧L'=dO w c (m+1) (s.off c b) (ev++jP)::R):=by
 obtain ⟨h0,PJ,Sy,hch⟩:=hx;refine gY fun a M ha he=>?_
 have eJ:=ha.st;have Q0:=ha.ec;have hup:=eJ.Uf;have SI:=eJ.steps;have m6:=da.NF eJ hm Sy;have er:=ha.to m6 (Nat.le_succ m) rfl rfl;refine a7 (cn (hv.cL (show cz (dR w c s a M R) R from zE))) fun o1=>?_
 refine a8 (args:=[_,_]) func180 rfl ntmps180 results180 rfl ?_;refine wB ?_;refine aZ rfl rfl (Ct.at zP (Fk _ e a.gu a.ud iS (cZ c) s.up v b (hv.cL zE) PJ Sy zo)) ?_;rintro _ _ ⟨rfl,rfl⟩;rw [show s.up.kg iS (cZ c) b=s.kg c b from rfl];rw [show s.up.ie iS (cZ c) b=(s.off c b).up from rfl];obtain ⟨s2,m1⟩:∃ s2:da,s2=s.off c b:=⟨_,rfl⟩
 have PE:s2.fs.recs≠[]:=by rw [m1];exact eJ.some h0
 by_cases hE:s.kg c b=0
 rotate_left
 ·generalize s.kg c b=E at *
  refine wB ?_;refine aY (dO w c (m+1) (s.off c b) ev::R) rfl (cj (show cz _ (dR w c (s.off c b) a M R) from zE) (dU er he)) ⟨rfl,[],rF.nil,by rw [aK]⟩
 rw [hE];refine wB ?_;refine aZ rfl rfl (uF _ e v b (hv.cL zE) PJ) ?_;rintro _ _ ⟨N,um,vp,ur,ua,uq,uc,rfl,hN,rfl⟩;refine bn (cn (hN.fi.cL (cG zP))) fun q1=>?_
 refine bn (hN.path.cL (cG zP)).one fun q2=>?_
 refine bn (cn (hN.kO.root.cL (cG zP))) fun q3=>?_
 refine bn (hN.kO.sig.cL (cG zP)).parts.one fun q4=>?_
 refine bn (hN.kO.sig.cL (cG zP)).path.one fun q5=>?_
 refine bn (hN.gs.cL (cG zP)).one fun q6=>?_
 (repeat (refine wA ?_;intros))
 rename_i g6;have On:∀ (X:List cJ),cz (cK w (a.cells c (s.off c b)) di (0,0)::X) (PH w c (s.off c b) a::X):=fun X=>Ji (ve:=a.ve)
 refine bk (id:=4) [] (PH w c (s.off c b) a::cK g6 (sF b um vp ur ua uq uc) rC (0,0)::N::R) mixed ?_;refine bG 0 _ rfl zK (cj (bw (show cQ _ (cK w (a.cells c (s.off c b)) di (0,0)) _ from zP) aX) (cj (On _) zE)) (bu rfl) rfl ?_;refine bG 1 _ rfl zK (cj (bw (show cQ _ (cK w (a.cells c (s.off c b)) di (0,0)) _ from zP) aX) (cj (On _) zE)) (bu rfl) rfl ?_;refine bG 2 _ rfl zK (cj (bw (show cQ _ (cK w (a.cells c (s.off c b)) di (0,0)) _ from zP) aX) (cj (On _) zE)) (bm rfl) rfl ?_;refine bG 3 _ rfl zK (cj (bw (show cQ _ (cK w (a.cells c (s.off c b)) di (0,0)) _ from zP) aX) (cj (On _) zE)) (ba rfl) rfl ?_;refine bG 4 _ rfl zK (cj (bw (show cQ _ (cK w (a.cells c (s.off c b)) di (0,0)) _ from zP) aX) (cj (On _) zE)) (bp rfl (PI .zero)) rfl ?_;refine bG 7 _ rfl zK (cj (bw (show cQ _ (cK w (a.cells c (s.off c b)) di (0,0)) _ from zP) aX) (cj (On _) zE)) (ba rfl) rfl ?_;refine bG 8 _ rfl zK (cj (bw (show cQ _ (cK w (a.cells c (s.off c b)) di (0,0)) _ from zP) aX) (cj (On _) zE)) (bp rfl zR) rfl ?_;refine tO 5 ?_;refine bg rfl rfl (Ct.at zP (rS _ e a.gu a.ud iS (cZ c) (s.off c b).up)) ?_;rintro _ _ ⟨rfl,rfl⟩;refine ⟨fun _=>(cj (bw (show cQ _ (cK w (a.cells c (s.off c b)) di (0,0)) _ from zP) aX) (cj (On _) zE)),?_⟩
 refine bG 6 _ rfl zK (cj (bw (show cQ _ (cK w (a.cells c (s.off c b)) di (0,0)) _ from zP) aX) (cj (On _) zE)) (cD.jO rfl) rfl ?_
 generalize IntKind.i64.wrap ((s.off c b).up.m.ii:Int)=vn
 refine tO 9 ?_;refine bg rfl rfl (ug _ e um b.fi (hN.fi.cL (cG (show cQ _ N _ from zP))) zo) ?_;rintro _ _ ⟨ad,kk,rfl,rfl⟩;refine ⟨fun _=>(cj (bw (show cQ _ (cK w (a.cells c (s.off c b)) di (0,0)) _ from zP) aX) (cj (On _) zE)),?_⟩;refine tO 10 ?_;refine bg rfl rfl (Ct.AO zP zP (ir _ e w c (s.off c b) a 5 vn 0 (.slice ad (cY b.fi).length kk) (cY b.fi) rfl zo)) ?_;rintro _ _ ⟨rfl,ve,rfl⟩;refine ⟨fun _=>cj (Ji (ve:=ve)) zE,?_⟩;refine bf zK ?_;have nG:=(er.more (Ft (A:=M) (B:=cR (.slice ad (cY b.fi).length kk) (cY b.fi)))).seen (x:=⟨5,vn,0,.slice ad (cY b.fi).length kk,cY b.fi⟩) ve (cE.cL (bb .zero) Fu) zo (by show (ei _ _).length≤1000;rw [df];omega);refine wB ?_;refine aY (dO w c (m+1) (s.off c b) (ev++[(5,vn,0,cY b.fi)])::R) rfl (cj ?_ (dU nG (by dsimp only;rw [ah,he];rfl))) ⟨rfl,_,?_,rfl⟩
 ·exact cj (ep (A:=M) (B:=cR (.slice ad (cY b.fi).length kk) (cY b.fi)) zP zP) zE
 ·intro y hy;rw [an.1 hy];exact ⟨(by decide:(5:Int)≠3),.inr (by rw [← m1];exact PE)⟩
theorem zM {p:jH} {c:jc} (hp:p.ew.length≤4):∀ (l:List kN) (seen:List Nat),(∀ g∈l,g.ii p c∧¬ g.fY∈seen)→(l.map (·.fY)).Nodup→countP p c l seen=l.length
 | [],_,_,_=>rfl
 | g::l,seen,h,hn=>by
  rw [List.map_cons,List.nodup_cons] at hn
  obtain ⟨h1,h2⟩:=h g (List.mem_cons_self ..);have h3:=h1.1;unfold countP
  rw [aI ⟨by omega,h2,h1⟩,zM hp l (g.fY::seen) (fun x hx=>⟨(h x (aT _ hx)).1,fun q=>by
   rcases aQ.1 q with q|q
   ·exact hn.1 (by rw [← q];exact aE.2 ⟨x,hx,rfl⟩)
   ·exact (h x (aT _ hx)).2 q⟩) hn.2,aN,Nat.add_comm]
def da.uM (c:dh) (s:da) (j:Nat) (g:kN) (size:Nat):da:={ s with fd:=s.fd.oc (cZ c) j g size s.time,n:=s.n+1 }
def da.oB (c:dh) (s:da) (j:Nat) (g:kN) (size:Nat):Int:=if s.fd.Aw (cZ c) j g size=true then 0 else 22
theorem Lc (p:jH) (s:cP) (w:Nat) (g:kN):(s.gC p w g).cur=s.cur∧(s.gC p w g).kept=s.kept++[g]∧((p.ey≤(s.kept++[g]).length∧(s.gC p w g).done=s.dT∧(s.gC p w g).dk=s.kept++[g])∨((s.gC p w g).done=s.done∧(s.gC p w g).dk=s.dk)):=by
 unfold cP.gC
 split
 ·rename_i h;exact ⟨rfl,rfl,.inl ⟨h,rfl,rfl⟩⟩
 ·exact ⟨rfl,rfl,.inr ⟨rfl,rfl⟩⟩
theorem da.Di {c:dh} {m:Nat} {s:da} {j size:Nat} {g:kN} (h:s.ok c m) (hm:m<250):(s.uM c j g size).ok c (m+1):=by
 have ht:=h.time;have hn:=h.nb;have hk:=h.xC.k;have hlen:=lh c;have LI:(s.fd.oc (cZ c) j g size s.time).ok c.k (s.n+1):=cP.Pk h.fd (fun q=>q.2.1) zo zo zo;have F6:s.n+1≤4*(m+1):=by omega
 unfold da.uM
 by_cases hh:s.fd.rR j
 rotate_left
 ·have hr:s.fd.oc (cZ c) j g size s.time=s.fd:=by unfold cP.oc;rw [aI hh]
  rw [hr] at LI ⊢
  exact { h.next hm with fd:=LI,nb:=F6 }
 by_cases ft:s.fd.wR (cZ c) j g
 ·have hr:s.fd.oc (cZ c) j g size s.time=s.fd.gC (cZ c) j g:=by unfold cP.oc;rw [aB (fun q=>q hh),aI ft]
  rw [hr] at LI ⊢
  obtain ⟨q1,q2,q3⟩:=Lc (cZ c) s.fd j g;obtain ⟨y,hy⟩:=Option.isSome_iff_exists.1 hh.1;have XG:s.fd.dT=y:=by unfold cP.dT;rw [hy];rfl
  have pP:∀ x∈s.fd.kept++[g],x.ii (cZ c) s.fd.dT.dc:=fun x hx=>by
   rcases aJ.1 hx with hx|hx
   ·exact h.kept x hx
   ·rw [an.1 hx];exact ft.2
  have hku:=LI.zc;rw [q2] at hku
  exact { h.next hm with
   fd:=LI
   nb:=F6
   cur:=fun x hx=>h.cur x (by rw [← q1];exact hx)
   idle:=fun hx=>by
    have hx:s.fd.cur=none:=by rw [← q1];exact hx
    rw [hy] at hx;cases hx
   kept:=fun x hx=>by
    show x.ii _ (cP.dT (s.fd.gC (cZ c) j g)).dc
    rw [Db q1];exact pP x (by rw [← q2];exact hx)
   done:=fun hx=>by
    show Ac _ (cP.done (s.fd.gC (cZ c) j g))∧0<(cP.done (s.fd.gC (cZ c) j g)).dc.size∧uf _ (cP.done (s.fd.gC (cZ c) j g)).dc (cP.dk (s.fd.gC (cZ c) j g))
    rcases q3 with ⟨q4,q5,q6⟩|⟨q5,q6⟩
    ·rw [q5,q6];refine ⟨by rw [XG];exact (h.cur y hy).1,by rw [XG];exact (h.cur y hy).2,?_⟩;unfold uf;rw [zM zo _ [] (fun x hx=>⟨pP x hx,aP⟩) hku];exact q4
    ·rw [q5,q6];exact h.done (by rw [← q6];exact hx) }
 ·by_cases Sq:s.fd.turns j size
  ·have hr:s.fd.oc (cZ c) j g size s.time=s.fd.Av j size s.time:=by unfold cP.oc;rw [aB (fun q=>q hh),aB ft,aI Sq]
   rw [hr] at LI ⊢
   obtain ⟨y,hy⟩:=Option.isSome_iff_exists.1 hh.1
   exact { h.next hm with
    fd:=LI
    nb:=F6
    cur:=fun x hx=>h.cur x hx
    idle:=fun hx=>by
     have hx:s.fd.cur=none:=hx;rw [hy] at hx;cases hx
    kept:=fun x hx=>h.kept x hx
    done:=fun hx=>h.done hx }
  ·have hr:s.fd.oc (cZ c) j g size s.time=s.fd:=by unfold cP.oc;rw [aB (fun q=>q hh),aB ft,aB Sq]
   rw [hr] at LI ⊢
   exact { h.next hm with fd:=LI,nb:=F6 }
theorem Ld (R:List cJ) (e:World) (w:Nat) (c:dh) (m:Nat) (s:da) (ev:List (Int × Int × Int × dv)) (v:Value) (j:Nat) (g:kN) (hv:db R v (1::eU g)) (hx:fZ.ok c s.ls.cF (.iP j g)) (hm:m<250) :
 Ct prog 179 #[pt w,.int .i64 ((j+1:Nat):Int),v] e (dO w c m s ev::R) (fun v' L'=>v'=.int .i64 (s.oB c j g 0)∧L'=dO w c (m+1) (s.uM c j g 0) ev::R):=by
 obtain ⟨h0,hj,hgw,Sm⟩:=hx;refine gY fun a M ha he=>?_
 have eJ:=ha.st;have ht:=eJ.time;have hn:=eJ.nb;have SI:=eJ.steps;have hk:=eJ.xC.k;have m6:=da.Di (j:=j) (g:=g) (size:=0) eJ hm;have er:=ha.to m6 (Nat.le_succ m) rfl rfl;refine a7 (cn (hv.cL (show cz (dR w c s a M R) R from zE))) fun o1=>?_
 refine a8 (args:=[_,_,_]) func179 rfl ntmps179 results179 rfl ?_;refine wB ?_;refine aZ rfl rfl (jw _ e v (1::eU g) (hv.cL zE) (by rw [aN,ln Sm];omega)) ?_;rintro _ _ ⟨gr,rfl,rfl⟩
 (repeat (refine wA ?_;intros))
 rename_i g8;refine aZ rfl rfl (Ct.at zP (vo _ e gr 1 _)) ?_;rintro _ _ ⟨rfl,rfl⟩;rw [show u8 1=.int .u8 1 from rfl];have TS:=fun L=>Bl L e gr g [] zo Sm (by simp)
 rw [aK] at TS
 refine wB ?_;refine aZ rfl rfl (Ct.at zP (TS _)) ?_;rintro _ _ ⟨N,up,uq,rfl,hN,rfl⟩;refine bn (hN.cL (cG zP)).parts.one fun o4=>?_
 refine bn (hN.cL (cG zP)).path.one fun o5=>?_
 refine wB ?_;refine aZ rfl rfl (x9 _ e gr []) ?_;rintro _ _ ⟨rfl,rfl⟩;rw [ay rfl];refine wB ?_;refine bk (id:=12) [] (cK g8 (iA g up uq) nE (0,0)::N::cK w (a.cells c s) di (0,0)::R) mixed ?_
 (refine tM 0 ?_;refine tN 1 ?_;refine tF 2 ?_;refine tL 3 ?_;refine tM 4 ?_;refine tk 5 _ rfl (cD.jA rfl rfl zo) ?_;refine tJ 6 ?_;refine tM 7 ?_;refine tM 8 ?_;refine tN 9 ?_;refine tF 10 ?_;refine tL 11 ?_)
 rw [show (((j+1:Nat):Int) - 1)=(j:Int) by omega];refine tO 12 ?_;refine bg rfl rfl (Ct.at zP (uE _ e a.mB (cZ c) c.retry s.n s.fd j up uq g 0 s.time (hN.cL (cG (show cQ _ N _ from zP))) zo zo zo zo zo)) ?_;rintro _ _ ⟨rfl,rfl⟩;refine ⟨fun _=>zE,?_⟩;unfold da.oB
 cases hb:s.fd.Aw (cZ c) j g 0 with
 | true =>
  (refine tk 13 _ rfl (cD.jY rfl) ?_;refine tA 14 ?_)
  refine bf zK ?_;refine wB ?_;refine aY (dO w c (m+1) (s.uM c j g 0) ev::R) rfl (cj (show cz _ (dR w c (s.uM c j g 0) a M R) from zE) (dU er he)) ⟨rfl,rfl⟩
 | false =>
  (refine tk 13 _ rfl (cD.p7 rfl) ?_;refine tA 14 ?_)
  refine bf zK ?_;refine wB ?_;refine aY (dO w c (m+1) (s.uM c j g 0) ev::R) rfl (cj (show cz _ (dR w c (s.uM c j g 0) a M R) from zE) (dU er he)) ⟨rfl,rfl⟩
theorem NG (R:List cJ) (e:World) (w:Nat) (c:dh) (m:Nat) (s:da) (ev:List (Int × Int × Int × dv)) (v:Value) (j z:Nat) (hv:db R v (0::be z 4)) (hx:fZ.ok c s.ls.cF (.no j z)) (hm:m<250) :
 Ct prog 179 #[pt w,.int .i64 ((j+1:Nat):Int),v] e (dO w c m s ev::R) (fun v' L'=>v'=.int .i64 (s.oB c j fW z)∧L'=dO w c (m+1) (s.uM c j fW z) ev::R):=by
 obtain ⟨h0,hj,hz⟩:=hx;refine gY fun a M ha he=>?_
 have eJ:=ha.st;have ht:=eJ.time;have hn:=eJ.nb;have SI:=eJ.steps;have hk:=eJ.xC.k;have m6:=da.Di (j:=j) (g:=fW) (size:=z) eJ hm;have er:=ha.to m6 (Nat.le_succ m) rfl rfl;refine a7 (cn (hv.cL (show cz (dR w c s a M R) R from zE))) fun o1=>?_
 refine a8 (args:=[_,_,_]) func179 rfl ntmps179 results179 rfl ?_;refine wB ?_;refine aZ rfl rfl (jw _ e v (0::be z 4) (hv.cL zE) (by rw [aN,cX];omega)) ?_;rintro _ _ ⟨gr,rfl,rfl⟩
 (repeat (refine wA ?_;intros))
 rename_i g8;refine aZ rfl rfl (Ct.at zP (vo _ e gr 0 _)) ?_;rintro _ _ ⟨rfl,rfl⟩;rw [show u8 0=.int .u8 0 from rfl];have TS:=fun L=>tE L e gr z [] zo
 rw [aK] at TS
 refine wB ?_;refine aZ rfl rfl (Ct.at zP (TS _)) ?_;rintro _ _ ⟨rfl,rfl⟩;refine wB ?_;refine aZ rfl rfl (x9 _ e gr []) ?_;rintro _ _ ⟨rfl,rfl⟩;rw [ay rfl];refine wB ?_;refine bk (id:=12) [] (cK g8 (iA fW nY nY) nE (0,0)::cK w (a.cells c s) di (0,0)::R) mixed ?_
 (refine tM 0 ?_;refine tN 1 ?_;refine tF 2 ?_;refine tL 3 ?_;refine tM 4 ?_;refine tk 5 _ rfl (cD.jA rfl rfl zo) ?_;refine tJ 6 ?_;refine tM 7 ?_;refine tM 8 ?_;refine tN 9 ?_;refine tF 10 ?_;refine tL 11 ?_)
 rw [show (((j+1:Nat):Int) - 1)=(j:Int) by omega];refine tO 12 ?_;refine bg rfl rfl (Ct.at zP (uE _ e a.mB (cZ c) c.retry s.n s.fd j nY nY fW z s.time (CL _) (by decide) zo zo zo zo)) ?_;rintro _ _ ⟨rfl,rfl⟩;refine ⟨fun _=>zE,?_⟩;unfold da.oB
 cases hb:s.fd.Aw (cZ c) j fW z with
 | true =>
  (refine tk 13 _ rfl (cD.jY rfl) ?_;refine tA 14 ?_)
  refine bf zK ?_;refine wB ?_;refine aY (dO w c (m+1) (s.uM c j fW z) ev::R) rfl (cj (show cz _ (dR w c (s.uM c j fW z) a M R) from zE) (dU er he)) ⟨rfl,rfl⟩
 | false =>
  (refine tk 13 _ rfl (cD.p7 rfl) ?_;refine tA 14 ?_)
  refine bf zK ?_;refine wB ?_;refine aY (dO w c (m+1) (s.uM c j fW z) ev::R) rfl (cj (show cz _ (dR w c (s.uM c j fW z) a M R) from zE) (dU er he)) ⟨rfl,rfl⟩
def da.Ia (c:dh) (s:da):fZ→da × Int × Int
 | .ask j x n m path=>(s.asked j x.dc n,1,s.qL j x.dc n)
 | .iP j g=>(s.uM c j g 0,2,s.oB c j g 0)
 | .no j z=>(s.uM c j fW z,2,s.oB c j fW z)
 | .off b=>(s.off c b,3,s.kg c b)
def da.Ad (c:dh) (s:da) (n:Nat):da × Int × Int:=match s.eh[n]? with
 | none=>(s,0,1)
 | some x=>(s.lost n).Ia c x
theorem da.PK {c:dh} {m:Nat} {s:da} {x:fZ} (h:s.ok c m) (hm:m<250) (hx:x.ok c s.ls.cF):(s.Ia c x).1.ok c (m+1):=by
 cases x with
 | ask j x n k path=>exact da.Fy h hm hx.2.1 hx.2.2.1 hx.1
 | iP j g=>exact da.Di h hm
 | no j z=>exact da.Di h hm
 | off b=>exact da.NF h hm hx.2.2.1
theorem da.NH {c:dh} {m:Nat} {s:da} {n:Nat} (h:s.ok c m) (hm:m<250):(s.Ad c n).1.ok c (m+1):=by
 unfold da.Ad
 split
 ·exact h.next hm
 ·rename_i x hx;exact da.PK (da.Dg h) hm (h.eh x (ax hx))
def da.mj (s:da) (i:Nat):wQ:=⟨s.ls.cF.getD i [],i,s.fd.done.dc.size,iG ((s.ls.cF.take s.fd.done.dc.size).map cY) i,s.fd.done,s.fd.dk⟩
def da.PL (s:da) (i:Nat):da × Int:=if s.fd.dk=[] then (s,22) else if ¬ i<s.fd.done.dc.size then (s,22) else if s.eh.length<32 then (s.send (.off (s.mj i)),0) else (s,13)
theorem da.ok.leaf {c:dh} {m:Nat} {s:da} (h:s.ok c m) {b:dv} (hb:b∈s.ls.cF):ji b∧b.length≤200 :=
 h.fs.n9 b (h.perm.mem_iff.1 (List.mem_append_left _ hb))
theorem da.ok.KG {c:dh} {m:Nat} {s:da} (h:s.ok c m):s.ls.cF.length≤250:=by
 have h1:=h.perm.length_eq;have h2:=h.DD;have h3:=h.steps;rw [aa] at h1
 omega
theorem da.BV {c:dh} {m:Nat} {s:da} {i:Nat} (h:s.ok c m) (he:s.fd.dk≠[]) (hi:i<s.fd.done.dc.size):(s.mj i).wf∧(s.mj i).fi.length≤200∧lQ (cZ c) (s.mj i)=0∧fZ.ok c s.ls.cF (.off (s.mj i)):=by
 obtain ⟨⟨pP,O9,lm,BA⟩,h0,HV⟩:=h.done he;have pM:=h.fd.done he;have Pb:=h.KG;have Ah:i<s.ls.cF.length:=by omega
 have rv:s.ls.cF.getD i []∈s.ls.cF:=by rw [aA,ae Ah];exact az Ah
 obtain ⟨hmo,TO⟩:=h.leaf rv
 have jN:∀ a∈(s.ls.cF.take s.fd.done.dc.size).map cY,a.length=32:=by
  intro a ha;obtain ⟨b,-,rfl⟩:=aE.1 ha;exact df _ _
 have hlen:((s.ls.cF.take s.fd.done.dc.size).map cY).length=s.fd.done.dc.size:=by rw [ab,aF];omega
 have Cj:=oT _ ((s.ls.cF.take s.fd.done.dc.size).map cY) i rfl;have hph:=GR _ ((s.ls.cF.take s.fd.done.dc.size).map cY) i rfl jN;have MM:=GQ _ ((s.ls.cF.take s.fd.done.dc.size).map cY) i (cY (s.ls.cF.getD i [])) rfl zo;rw [hlen] at Cj MM
 have hl8:jk s.fd.done.dc.size i≤8:=qk 8 _ _ zo
 have jL:((s.ls.cF.take s.fd.done.dc.size).map cY).set i (cY (s.ls.cF.getD i []))=(s.ls.cF.take s.fd.done.dc.size).map cY:=by
  refine uJ _ _ _ ?_;rw [aL,List.getElem?_take_of_lt hi,ae Ah,Option.map_some,aA,ae Ah];rfl
 have hk:=h.xC.k;have VA:=h.fd.KG
 have PJ:(s.mj i).wf :=
  {fi:=by show (s.ls.cF.getD i []).length≤65535;omega
   idx:=by show i≤256;omega
   size:=by show s.fd.done.dc.size≤256;omega
   DD:=by show (iG _ i).length≤16;omega
   jN:=hph
   dc:=pM.1
   sig:=O9
   fE:=by show s.fd.dk.length≤255;omega
   ew:=fun g hg=>by have:=(h.fd.dk g hg).1;omega
   sigs:=fun g hg=>(h.fd.dk g hg).2 }
 have Sd:lQ (cZ c) (s.mj i)=0:=by
  unfold lQ;rw [aB (show ¬ ¬ ji (s.mj i).fi from not_not_intro hmo)];rw [aB (show ¬ ¬ (s.mj i).kO.ii (cZ c).log from not_not_intro pP)]
  rw [aB (show ¬ ¬ ((s.mj i).size=(s.mj i).kO.dc.size∧pi (s.mj i).idx (s.mj i).size (s.mj i).path (cY (s.mj i).fi) (s.mj i).kO.dc.root) from not_not_intro ⟨rfl,⟨by show (iG _ i).length≤16;omega,hph⟩,df _ _,hi,Cj,by
   show lC s.fd.done.dc.size i (iG _ i) _=s.fd.done.dc.root
   exact (MM.trans (congrArg ea jL)).trans BA.symm⟩)]
  rw [aB (show ¬ ¬ uf (cZ c) (s.mj i).kO.dc (s.mj i).eH from not_not_intro HV)]
 exact ⟨PJ,TO,Sd,by omega,PJ,TO,Sd⟩
end Go.Proofs
namespace Go.Proofs
open Go.Bs
attribute [local irreducible] Bs.cD Bs.Do Bs.O Bs.W Bs.Fin Bs.A Bs.Ct Bs.cE Bs.Rd Bs.Sat Bs.cK Bs.Ob Bs.dJ Bs.View Bs.cz Bs.Ex Bs.dH Bs.Pu Bs.eY Bs.dM Bs.dZ
def pC (c:dh):da:=⟨⟨[],0,none⟩,⟨[],[]⟩,List.replicate c.k ⟨[],0,fW,false⟩,Au c.k,0,⟨[]⟩,⟨[],none⟩,[],0,none⟩
theorem Jj {c:dh} (h:c.ok):(pC c).ok c 0 where
 xC:=h
 steps:=aH _
 ls:=⟨fun r hr=>(by cases hr),List.nodup_nil,aH _,fun b hb=>(by cases hb),aH _,fun x hx=>(by cases hx)⟩
 last:=fun x hx=>(by cases hx)
 fs:=⟨aH _,fun b hb=>(by cases hb),aH _,fun b hb=>(by cases hb),fun b hb=>(by cases hb)⟩
 recs:=List.nodup_nil
 DD:=aH _
 perm:=List.Perm.refl _
 wl:=List.length_replicate
 ws:=fun w hw=>by
  obtain rfl:=(List.mem_replicate.1 hw).2;exact ⟨⟨fun x hx=>(by cases hx),List.Pairwise.nil,fun x hx=>(by cases hx),aH _,re⟩,aH _,lK.empty _⟩
 iP:=fun i w hw hs=>by
  have hm:w∈List.replicate c.k (⟨[],0,fW,false⟩:eN):=ax hw;obtain rfl:=(List.mem_replicate.1 hm).2
  cases hs
 fd:=CP _
 nb:=aH _
 cur:=fun x hx=>(by cases hx)
 idle:=fun _=>rfl
 kept:=fun g hg=>(by cases hg)
 done:=fun hd=>absurd rfl hd
 up:=⟨aH _,fun b hb=>(by cases hb),fun b hb=>(by cases hb),fun b hb=>(by cases hb),List.Pairwise.nil⟩
 Uf:=aH _
 mo:=⟨aH _,fun b hb=>(by cases hb),fun x hx=>(by cases hx)⟩
 SK:=rfl
 eh:=fun x hx=>(by cases hx)
 room:=aH _
 time:=aH _
 signed:=fun x hx=>(by cases hx)
def cA:dh:=⟨1,1,4,1,0,1⟩
theorem Q6:cA.ok where
 k:=by decide
 ey:=by decide
 f:=⟨by decide,by decide,by decide⟩
 retry:=by decide
 wU:=⟨j4 _,by decide,by decide,by decide,fun w hw=>by
  obtain ⟨i,-,rfl⟩:=aE.1 hw
  exact j4 _,by
  show [kM (cS 1)].Nodup
  exact List.nodup_cons.2 ⟨aP,List.nodup_nil⟩⟩
def bA:dv:=mO 0 1 1
theorem BW:ji bA∧bA.length≤200∧(dB bA).name=iS∧(dB bA).ii=2:=by
 obtain ⟨h1,h2⟩:=mN 0 1 1;obtain ⟨h3,h4⟩:=OT h1 h2;refine ⟨h3,?_,?_,?_⟩
 ·show (lO (me 0 1 1)).length≤200
  rw [wi];have:=h1.1.2.1;have:=h1.2.2.1;have:=h1.2.2.2
  omega
 ·show (dB (lO (me 0 1 1))).name=iS
  rw [h4];decide
 ·show (dB (lO (me 0 1 1))).ii=2
  rw [h4];decide
theorem Le (b:dv):(cY b).length=32:=df _ _
attribute [local irreducible] bA rK cY iX cS ji dB kM xa sk
abbrev Wp:eN:=⟨[],0,fW,false⟩
def Q7:jc:=⟨1,ea [cY bA]⟩
def xA:j6:=yw (cS 0) 0 Q7
def gA:kN:=Bg (cS 1) 0 0 Q7
abbrev lA:fV:=⟨[[bA]],1,some xA⟩
abbrev fA:pe:=⟨[bA],[]⟩
def SU:da:=⟨⟨[],0,none⟩,⟨[bA],[(bA,0)]⟩,[Wp],Au 1,0,⟨[]⟩,⟨[],none⟩,[],0,none⟩
def Ui:da:=⟨⟨[],0,none⟩,⟨[bA],[(bA,0)]⟩,[Wp],Au 1,0,⟨[]⟩,⟨[],none⟩,[],1,none⟩
def SV:da:=⟨⟨[[bA]],0,none⟩,fA,[Wp],Au 1,0,⟨[]⟩,⟨[],none⟩,[],1,none⟩
def sA4:da:=⟨lA,fA,[Wp],⟨[⟨1,0,0⟩],1,[⟨0,0,false⟩],some xA,[],vH,[]⟩,1,⟨[]⟩,⟨[],none⟩,[],1,some Q7⟩
def qA:List dv:=iX [cY bA] 0
def Uj:da:=⟨lA,fA,[Wp],⟨[⟨2,1,0⟩],2,[⟨0,1,false⟩],some xA,[],vH,[]⟩,2,⟨[]⟩,⟨[],none⟩,[.ask 0 xA 0 1 qA],1,some Q7⟩
abbrev wA1:eN:=⟨[Q7],1,gA,true⟩
def SW:da:=⟨lA,fA,[wA1],⟨[⟨2,1,0⟩],2,[⟨0,1,false⟩],some xA,[],vH,[]⟩,2,⟨[]⟩,⟨[],none⟩,[.iP 0 gA],1,some Q7⟩
def DH:da:=⟨lA,fA,[wA1],⟨[],2,[⟨1,1,true⟩],some xA,[gA],xA,[gA]⟩,3,⟨[]⟩,⟨[],none⟩,[],1,some Q7⟩
def Wq:da:=DH.send (.off (DH.mj 0))
def Q8:da:={ DH with up:=⟨[bA]⟩ }
theorem SX:(pC cA).sub cA bA=SU∧((pC cA).fs.fC cA.f (pC cA).ls.cF bA ((pC cA).time:Int)).1=1:=by
 have h:(pC cA).fs.fC cA.f (pC cA).ls.cF bA ((pC cA).time:Int)=(1,0,⟨[bA],[(bA,0)]⟩):=by
  unfold pe.fC;rw [aB (not_not_intro BW.1),aB (show ¬ bA∈(pC cA).ls.cF from aP),aB (show ¬ bA∈(pC cA).fs.q.map (·.1) from aP),aB (show ¬ cA.f.room≤(pC cA).fs.q.length by decide)]
  rfl
 unfold da.sub;rw [h];exact ⟨rfl,rfl⟩
theorem Wr:SU.Ol 1=Ui:=rfl
theorem Ws:Ui.H6 cA=SV:=by
 unfold da.H6;rw [aI (show Ui.fs.pg cA.f (Ui.time:Int)=true from by show MX [(bA,0)] 1 0 1=true;unfold MX;exact ay (.inl (by decide)))]
 have h:Ui.ls.fresh (Ui.fs.some cA.f)=[bA]:=by
  show fg [] [] [bA]=[bA]
  unfold fg;rw [aB (show ¬ bA∈([]:List dv)++[] from aP)]
  rfl
 unfold fV.add;rw [h,aB (by intro h;cases h)]
 rfl
theorem SY:xA.ii dN:=⟨⟨by show 1≤256;decide,gH fun a ha=>by rw [an.1 ha];exact Le _⟩,yi (by decide)⟩
theorem Wt:SV.ja cA=sA4:=by
 have hs:¬ SV.ls.same:=fun h=>by cases h.1
 have hk:SV.ls.keys<16:=by decide
 have hp:SV.ls.ja (cS 0)=lA:=by
  unfold fV.ja;rw [aB hs,aI hk]
  rfl
 have hv:SV.fk=xA:=by unfold da.fk;rw [hp];rfl
 unfold da.ja;rw [aI (.inr hk)];unfold da.pW;rw [hv,hp,aI (show 0<xA.dc.size from by show 0<1;decide)];unfold cP.ie;rw [aI (show SV.fd.E4 (cZ cA) xA from ⟨SY,fun c hc=>by cases hc⟩)]
 rfl
theorem Wu:sA4.zD cA=Uj:=rfl
theorem Wv:Uj.Ad cA 0=(SW,1,0):=by
 show ((Uj.lost 0).asked 0 xA.dc 0,1,(Uj.lost 0).qL 0 xA.dc 0)=_
 rfl
theorem Ww:(SW.Ad cA 0).1=DH:=by
 show (SW.lost 0).uM cA 0 gA 0=DH
 have hv:gA.ii (cZ cA) Q7:=⟨by decide,yi (by decide)⟩
 unfold da.uM cP.oc;rw [aB (show ¬ ¬ (SW.lost 0).fd.rR 0 from not_not_intro ⟨rfl,by decide,rfl⟩),aI (show (SW.lost 0).fd.wR (cZ cA) 0 gA from ⟨rfl,hv⟩)]
 rfl
theorem abu:DH.PL 0=(Wq,0):=by
 unfold da.PL;rw [aB (show ¬ DH.fd.dk=[] from by intro h;cases h),aB (show ¬ ¬ 0<DH.fd.done.dc.size from by show ¬ ¬ 0<1;decide),aI (show DH.eh.length<32 by decide)]
 rfl
theorem SZ:DH.ok cA 7:=by
 have h1:=da.Np (b:=bA) (Jj Q6) (by decide) BW.2.1;rw [SX.1] at h1
 have h2:=da.Nq (n:=1) h1 (by decide) (by decide);rw [Wr] at h2
 have h3:=da.Ns h2 (by decide);rw [Ws] at h3
 have h4:=da.Nu h3 (by decide);rw [Wt] at h4
 have h5:=da.Nv h4 (by decide);rw [Wu] at h5
 have h6:=da.NH (n:=0) h5 (by decide);rw [Wv] at h6
 have h7:=da.NH (n:=0) h6 (by decide);rw [Ww] at h7
 exact h7
theorem abv:(Wq.Ad cA 0).1=Q8:=by
 show (Wq.lost 0).off cA (DH.mj 0)=Q8
 have hb:=(da.BV SZ (i:=0) (by intro h;cases h) (by show 0<1;decide)).2.2.1
 have ho:(Wq.lost 0).up.kg iS (cZ cA) (DH.mj 0)=0:=by
  unfold m2.kg
  rw [hb,aB (not_not_intro rfl),aB (show ¬ (dB (DH.mj 0).fi).name≠iS from not_not_intro BW.2.2.1),aB (show ¬ (dB (DH.mj 0).fi).ii≤(Wq.lost 0).up.m.ii from by
   show ¬ (dB bA).ii≤0
   rw [BW.2.2.2];decide)]
 unfold da.off m2.ie;rw [aI ho]
 rfl
theorem Wx:DH.Ad cA 0=(DH,0,1):=rfl
theorem Wy:Q8.up.m.ii=2:=BW.2.2.2
end Go.Proofs
namespace Go.Bs
theorem dZ.ex {α:Sort _} {f:α→cJ} {R:List cJ} {g o:Nat} {cs:List Value} (h:∀ x,dZ (f x::R) g o cs):dZ (Ex f::R) g o cs:=fun j u hj=>Rd.ex fun x=>h x j u hj
end Go.Bs
namespace Go.Proofs
open Go.Bs
attribute [local irreducible] Bs.cD Bs.Do Bs.O Bs.W Bs.Fin Bs.A Bs.Ct Bs.cE Bs.Rd Bs.Sat Bs.cK Bs.Ob Bs.dJ Bs.View Bs.cz Bs.Ex Bs.dH Bs.Pu Bs.eY Bs.dM Bs.dZ
abbrev AH:TypeId:=249
abbrev S1:TypeId:=49
abbrev iT:TypeId:=47
abbrev nI:Value:=nY
abbrev dK:Value:=.pointer none
abbrev fX (c:dh):List Value:=[.int .i64 (c.k:Int),.int .i64 (c.ey:Int),.int .i64 (c.room:Int),.int .i64 (c.size:Int),.int .i64 (c.wait:Int),.int .i64 (c.retry:Int),.int .i64 1048576,.string (str iS)]
def PM (v:Value) (_:Nat→Value):List cJ:=match v with|.map (some g)=>[iC fH g []]|_=>[]
def Wz (v:Value) (_:Nat→Value):List cJ:=match v with|.map (some g)=>[iC ig g []]|_=>[]
def S3 (v:Value) (u:Value):List cJ:=match v,u with|.pointer (some ⟨g,_,_⟩),.agg cs=>[cK g cs.toList di (0,0)]|_,_=>[]
def S4 (p:Value) (v:Value):List cJ:=match p with|.pointer (some ⟨g,_,_⟩)=>[cK g [v] S1 (0,0)]|_=>[]
def FC (v:Value) (b:dv):cJ:=Ex fun M=>dH [Pu (db [M] v b),M]
theorem Jk {v:Value} {b:dv} {M:cJ} {R:List cJ} (h:db [M] v b):cz (M::R) (FC v b::R) :=
 cj (m7 h) (cj (dQ (M:=[_,_])) (fu (f:=fun M=>dH [Pu (db [M] v b),M]) M))
abbrev fI (c:dh) (va vl vf lZ zJ vu vm vn pU ij:Value) (mr ml mc:Nat):List Value:=pB c va vl vf lZ zJ vu vm vn pU ij (.int .i64 0) nI (.map (some mr)) (.map (some ml)) (.int .i64 0) nI (.bool false) (.map (some mc))
structure Ib where
 vs:List (Value × Nat × Nat)
 wd:List (Nat × Nat)
 ts:List ej
 ap:Option Addr
 kp:Nat
 aw:Option Addr
 kw:Nat
 M:cJ
def Jl (l:List (Nat × Nat)):List cJ:=l.flatMap fun p=>[de p.1 (dx []),de p.2 (dx [])]
abbrev FD (w:Nat) (vl:Value) (vs:List (Value × Nat × Nat)):List Value:=[vl,.func (.func 160) #[ptr w] #[]]++vs.flatMap fun x=>[x.1,.func (.func 161) #[] #[ptr x.2.1,ptr x.2.2]]
structure Ib.ok (i:Ib) (c:dh) (w g4 ld lk fd:Nat) (vl x:Value):Prop where
 le:i.vs.length≤c.k
 wl:i.wd.length=i.vs.length
 tl:i.ts.map (·.2)=(List.range i.vs.length).map fun j=>kM (cS (j+1))
 hx:db [i.M] x dN
 h4:Rd [i.M] ⟨g4,0,none⟩ (ptr w)
 tx:dP [i.M] i.ts
 lo:cE [i.M] 1 vl 3 [ptr ld,ptr lk,ptr fd]
 ps:∀ j (h:j<i.vs.length) (h2:j<i.wd.length),cE [i.M] 1 (i.vs[j]).1 2 [ptr (i.wd[j]).1,ptr (i.wd[j]).2]∧Rd [i.M] ⟨(i.vs[j]).2.1,0,none⟩ (ptr w)∧Rd [i.M] ⟨(i.vs[j]).2.2,0,none⟩ (.int .i64 (j:Int))
abbrev WA (i:Ib) (c:dh) (w gc gw ld lk fd mr ml mc:Nat) (vl x:Value) (R:List cJ):List cJ :=
 dJ AH 2 (.slice i.ap (i.vs.length+1) i.kp) (i.vs.length+1) (FD w vl i.vs)::cU (.slice i.aw i.ts.length i.kw) i.ts::dH (Jl i.wd)::cK w (fI c (.slice i.ap (i.vs.length+1) i.kp) dK dK (.slice (some ⟨gw,0,none⟩) c.k c.k) dK dK dK dK x (.slice i.aw i.ts.length i.kw) mr ml mc) di (0,0)::dJ pX 1 (.slice (some ⟨gw,0,none⟩) c.k c.k) c.k (List.replicate c.k dK)::dH (jK [ld,lk,fd])::iC fH mr []::iC fH ml []::iC ig mc []::i.M::cK gc (fX c) iT (0,0)::R
theorem four {A B C D X:cJ} {L':List cJ} (p:cQ [A,B,C,D] X L'):cz [dH [A,B,C,D]] [X]:=cj (cT (M:=[A,B,C,D]) (L:=[])) (cG p)
theorem Ib.ok.more {i:Ib} {c:dh} {w g4 ld lk fd:Nat} {vl x:Value} (h:i.ok c w g4 ld lk fd vl x) (cO:i.vs.length<c.k) {pv vd:Value} {N:cJ} {gi d1 k1:Nat} {ap aw:Option Addr} {kp kw:Nat} (hN:db [N] pv (kM (cS (i.vs.length+1)))) :
 Ib.ok ⟨i.vs++[(vd,g4,gi)],i.wd++[(d1,k1)],i.ts++[(pv,kM (cS (i.vs.length+1)))],ap,kp,aw,kw,dH [i.M,N,cK gi [.int .i64 (i.vs.length:Int)] 3 (0,0),dJ DF 1 vd 2 [ptr d1,ptr k1]]⟩ c w g4 ld lk fd vl x:=by
 have f1:cz [dH [i.M,N,cK gi [.int .i64 (i.vs.length:Int)] 3 (0,0),dJ DF 1 vd 2 [ptr d1,ptr k1]]] [i.M]:=four .zero;have f2:cz [dH [i.M,N,cK gi [.int .i64 (i.vs.length:Int)] 3 (0,0),dJ DF 1 vd 2 [ptr d1,ptr k1]]] [N]:=four (.succ .zero);have f3:cz [dH [i.M,N,cK gi [.int .i64 (i.vs.length:Int)] 3 (0,0),dJ DF 1 vd 2 [ptr d1,ptr k1]]] [cK gi [.int .i64 (i.vs.length:Int)] 3 (0,0)]:=four (.succ (.succ .zero));have f4:cz [dH [i.M,N,cK gi [.int .i64 (i.vs.length:Int)] 3 (0,0),dJ DF 1 vd 2 [ptr d1,ptr k1]]] [dJ DF 1 vd 2 [ptr d1,ptr k1]]:=four (.succ (.succ (.succ .zero)));have hw:=h.wl
 constructor
 ·simp only [aa,aj];omega
 ·simp only [aa,aj];omega
 ·simp only [ah,aa,aj,List.range_succ,List.map_cons,List.map_nil,h.tl]
 ·exact h.hx.cL f1
 ·exact h.h4.cL f1
 ·intro y hy;rcases aJ.1 hy with hy|hy
  ·exact (h.tx y hy).cL f1
  ·rw [an.1 hy];exact hN.cL f2
 ·exact h.lo.cL f1
 ·intro j h1 h2;dsimp only at h1 h2 ⊢
  by_cases hj:j<i.vs.length
  ·have F8:j<i.wd.length:=by omega
   obtain ⟨a,b,d⟩:=h.ps j hj F8;simp only [List.getElem_append_left hj,List.getElem_append_left F8];exact ⟨a.cL f1,b.cL f1,d.cL f1⟩
  ·rw [aa,aj] at h1
   obtain rfl:j=i.vs.length:=by omega
   have e1:(i.vs++[(vd,g4,gi)])[i.vs.length]'(by simp)=(vd,g4,gi):=by simp
   have e2:(i.wd++[(d1,k1)])[i.vs.length]'h2=(d1,k1):=by
    rw [List.getElem_append_right zo]
    simp
   rw [e1,e2];exact ⟨cE.cL (bb .zero) f4,h.h4.cL f1,Rd.cL (bP .zero rfl) f3⟩
def AI (p:Value × Value):List Value:=[p.1,p.2]
theorem zY (p:Value × Value):(AI p).length=2:=rfl
def NI (x:Value × Nat × Nat):Value × Value:=(x.1,.func (.func 161) #[] #[ptr x.2.1,ptr x.2.2])
abbrev FE (w:Nat):Value:=.func (.func 163) #[ptr w] #[]
def AJ (w:Nat) (vl:Value) (vs:List (Value × Nat × Nat)) (vu:Value):List (Value × Value):=(vl,.func (.func 160) #[ptr w] #[])::(vs.map NI++[(vu,FE w)])
theorem sP (w:Nat) (vl:Value) (vs:List (Value × Nat × Nat)) (vu:Value):(AJ w vl vs vu).flatMap AI=FD w vl vs++[vu,FE w]:=by
 simp [AJ,AI,NI,List.flatMap_map]
theorem FF {w:Nat} {vl:Value} {vs:List (Value × Nat × Nat)} {vu:Value} {j:Nat} (h:j<vs.length):(AJ w vl vs vu)[j+1]?=some (NI (vs[j]'h)):=by
 unfold AJ;rw [List.getElem?_cons_succ,List.getElem?_append_left (by rw [ab];exact h),aL,ae h]
 rfl
theorem FG {w:Nat} {vl:Value} {vs:List (Value × Nat × Nat)} {vu:Value}:(AJ w vl vs vu)[vs.length+1]?=some (vu,FE w):=by
 unfold AJ;rw [List.getElem?_cons_succ,List.getElem?_append_right (by rw [ab];exact aS _),ab,Nat.sub_self]
 rfl
inductive PN where
 | zero
 | mid (gl gf:Nat) (wx:List WX)
 | all (gl gf:Nat) (wx:List WX) (gu:Nat)
def PN.idx (k:Nat):PN→Nat
 | .zero=>0
 | .mid _ _ wx=>wx.length+1
 | .all ..=>k+2
abbrev Jm:eN:=⟨[],0,fW,false⟩
abbrev XH:fV:=⟨[],0,none⟩
def WC (wd:List (Nat × Nat)) (wx:List WX):Prop:=∀ j (h:j<wx.length) (h2:j<wd.length),(wx[j]).d=(wd[j]).1∧(wx[j]).k=(wd[j]).2
def PN.ok (c:dh) (wd:List (Nat × Nat)):PN→Prop
 | .zero=>True
 | .mid _ _ wx=>wx.length≤c.k∧WC wd wx
 | .all _ _ wx _=>wx.length=c.k∧WC wd wx
def WD (c:dh) (w:Nat) (va lZ x ij:Value) (mr ml mc ld lk fd ud:Nat) (wd:List (Nat × Nat)):PN→List cJ
 | .zero=>[cK w (fI c va dK dK lZ dK dK dK dK x ij mr ml mc) di (0,0),dJ pX 1 lZ c.k (List.replicate c.k dK),de ld (dx []),de lk (dx []),de fd (dx []),dH (Jl wd),de ud (dx [])]
 | .mid gl gf wx=>[cK w (fI c va (ptr gl) (ptr gf) lZ dK dK dK dK x ij mr ml mc) di (0,0),dJ pX 1 lZ c.k (wx.map jJ++List.replicate (c.k - wx.length) dK),eg gf fd gl c.f ⟨[],[]⟩,cV gl ld lk (cS 0) XH,dH (ka 0 wx (List.replicate wx.length Jm)),dH (Jl (wd.drop wx.length)),de ud (dx [])]
 | .all gl gf wx gu=>[cK w (fI c va (ptr gl) (ptr gf) lZ dK (ptr gu) dK dK x ij mr ml mc) di (0,0),dJ pX 1 lZ c.k (wx.map jJ),eg gf fd gl c.f ⟨[],[]⟩,cV gl ld lk (cS 0) XH,dH (ka 0 wx (List.replicate wx.length Jm)),ke gu ud iS (cZ c) ⟨[]⟩]
theorem Jn {L R R':List cJ} {A B C:cJ} (p:cQ L A R) (q:cQ R B R') (f:∀ X,cz (A::B::X) (C::X)):cz L (C::R'):=cj p.out (cj (bh q.out) (f R'))
theorem NJ {l:List (Nat × Nat)} {d k:Nat} {X:List cJ}:cz (dH (Jl l)::dH (jK [d,k])::X) (dH (Jl (l++[(d,k)]))::X):=by
 rw [show Jl (l++[(d,k)])=Jl l++jK [d,k] by simp [Jl,jK]];exact all_append
theorem Dj {P:Program} {f:FuncId} {args:Array Value} {e:World} {L R1 R2 R3 R4:List cJ} {A B C D:cJ} {Post:Value→List cJ→Prop} (p:cQ L A R1) (q:cQ R1 B R2) (r:cQ R2 C R3) (u:cQ R3 D R4) (h:Ct P f args e (A::B::C::D::R4) Post):Ct P f args e L Post :=
 h.cL (cj p.out (bh (cj q.out (bh (cj r.out (bh u.out))))))
theorem S5 {L R:List cJ} {a b d:Nat} (p:cQ L (dH (jK [a,b,d])) R):cz L (de a (dx [])::de b (dx [])::de d (dx [])::R):=cj p.out (cT (M:=jK [a,b,d]))
theorem S6 {L R:List cJ} {a:Nat} (p:cQ L (dH (jK [a])) R):cz L (de a (dx [])::R):=cj p.out (cT (M:=jK [a]))
theorem S7 {L R:List cJ} {q:Nat × Nat} {l:List (Nat × Nat)} (p:cQ L (dH (Jl (q::l))) R):cz L (de q.1 (dx [])::de q.2 (dx [])::dH (Jl l)::R) :=
 cj p.out (cj (cT (M:=Jl (q::l))) (bh (bh (dQ (M:=Jl l)))))
theorem S9:fV.ok XH:=⟨fun r hr=>(by cases hr),List.nodup_nil,aH _,fun b hb=>(by cases hb),aH _,fun x hx=>(by cases hx)⟩
theorem Ta:eN.ok Jm:=⟨fun x hx=>(by cases hx),List.Pairwise.nil,fun x hx=>(by cases hx),aH _,re⟩
theorem zZ (x:WX) (s:eN):∀ (i:Nat) (xs:List WX) (ss:List eN),xs.length=ss.length→ka i (xs++[x]) (ss++[s])=ka i xs ss++[vS (i+xs.length) x s]
 | i,[],[],_=>rfl
 | i,[],_::_,h=>by simp at h
 | i,_::_,[],h=>by simp at h
 | i,y::xs,t::ss,h=>by
  simp only [List.cons_append,ka];rw [zZ x s (i+1) xs ss (by simpa using h)];simp only [aN];rw [show i+1+xs.length=i+(xs.length+1) by omega]
theorem Lf {x:WX} {wx:List WX} {X:List cJ}:cz (dH (ka 0 wx (List.replicate wx.length Jm))::vS wx.length x Jm::X) (dH (ka 0 (wx++[x]) (List.replicate (wx++[x]).length Jm))::X):=by
 rw [aa,aj,List.replicate_succ',zZ x Jm 0 wx _ (by simp),aC];exact cj (bh (dQ (M:=[vS wx.length x Jm]))) all_append
theorem NK {wx:List WX} {k:Nat} {x:WX} (h:wx.length<k):(wx.map jJ++List.replicate (k - wx.length) dK).set wx.length (ptr x.g)=(wx++[x]).map jJ++List.replicate (k - (wx.length+1)) dK:=by
 obtain ⟨m,hm⟩:∃ m,k - wx.length=m+1:=⟨k - wx.length - 1,by omega⟩
 rw [hm,show k - (wx.length+1)=m by omega,List.replicate_succ,List.set_append_right _ _ (by rw [ab];exact aS _),ab,Nat.sub_self,List.set_cons_zero]
 simp [jJ,ptr]
theorem WC.more {wd:List (Nat × Nat)} {wx:List WX} (h:WC wd wx) (hn:wx.length<wd.length) {x:WX} (hd:x.d=(wd[wx.length]'hn).1) (hk:x.k=(wd[wx.length]'hn).2):WC wd (wx++[x]):=fun j h1 h2=>by
 by_cases hj:j<wx.length
 ·simp only [List.getElem_append_left hj];exact h j hj h2
 ·rw [aa,aj] at h1
  obtain rfl:j=wx.length:=by omega
  simp only [List.getElem_concat_length];exact ⟨hd,hk⟩
theorem Tb:m2.ok ⟨[]⟩ iS:=⟨aH _,fun b hb=>(by cases hb),fun b hb=>(by cases hb),fun b hb=>(by cases hb),List.Pairwise.nil⟩
theorem Lg (R:List cJ) (e:World) (c:dh) (hc:c.ok) :
 Ct Tryz.prog 80 #[.agg (fX c).toArray] e R (fun v' L'=>∃ w,v'=.tuple #[ptr w,.int .i64 0]∧L'=dO w c 0 (pC c) []::R):=by
 have Ga:=hc.k;have hcq:=hc.ey;refine a8 (args:=[_]) Tryz.func80 rfl Tryz.ntmps80 Tryz.results80 rfl ?_
 (repeat (refine wA ?_;intros))
 rename_i gc;refine bk (id:=3) [13] (cK gc (fX c) iT (0,0)::R) Tryz.mixed ?_
 (refine tJ 0 ?_;refine tF 3 ?_;refine tL 4 ?_)
 refine A.OF (n:=0) [
  ⟨1,41,[],[],fun v _=>∃ ad k,v=.slice ad (cS 0).length k,[(0,fun v _=>[cR v (cS 0)])]⟩,
  ⟨2,42,[1],[0],fun _ _=>True,[(1,fun v _=>[FC v dN])]⟩,
  ⟨5,45,[2],[1],fun v ρ=>(ρ 2).oneCell'=true∧v=.agg [ρ 2,nI,.int .i64 (c.ey:Int)].toArray,[(8,fun _ ρ=>[FC (ρ 2) dN])]⟩,
  ⟨6,46,[],[],fun v _=>∃ g,v=.map (some g),[(2,PM)]⟩,
  ⟨7,47,[],[],fun v _=>∃ g,v=.map (some g),[(3,PM)]⟩,
  ⟨8,48,[6,7],[],fun v ρ=>∃ g g',ρ 6=.map (some g)∧ρ 7=.map (some g')∧v=.agg [.map (some g),.map (some g')].toArray,[]⟩,
  ⟨9,49,[],[],fun v _=>∃ g,v=.map (some g),[(4,Wz)]⟩,
  ⟨10,50,[5,8,9],[],fun v ρ=>∃ x g g' PO,x.oneCell'=true∧ρ 5=.agg [x,nI,.int .i64 (c.ey:Int)].toArray∧ρ 8=.agg [.map (some g),.map (some g')].toArray∧ρ 9=.map (some PO)∧v=.agg (fI c nI dK dK nI dK dK dK dK x nI g g' PO).toArray,[]⟩,
  ⟨11,51,[10],[],fun v _=>∃ g,v=ptr g,[(5,fun v ρ=>S3 v (ρ 10))]⟩,
  L8 12 4 6 S1 [dK],
  ⟨13,100013,[11,12],[6],fun _ _=>True,[(7,fun _ ρ=>S4 (ρ 12) (ρ 11))]⟩] 11 rfl zK zK ?_ zE ?_
 ·refine dl ?_ (dl ?_ (dl ?_ (dl ?_ (dl ?_ (dl ?_ (dl ?_ (dl ?_ (dl ?_ (dl ?_ (dl ?_ qe))))))))))
  ·refine ⟨_,rfl,.inl rfl,fun V σr M1 h3 hy=>?_⟩;refine bS (show cz _ (M1++(cK gc (fX c) iT (0,0)::R)) from aX) ?_;refine bg (xs:=[.const (.int .i64 0)]) (vs:=[.int .i64 0]) rfl rfl (pz _ e 0 zo) ?_;rintro _ _ ⟨ad,k,rfl,rfl⟩;exact ⟨_,rfl,⟨ad,k,rfl⟩,aX⟩
  ·refine ⟨_,rfl,.inl rfl,fun V σr M1 h3 hy=>?_⟩;obtain ⟨s1,ad,k,hv⟩:=hy _ (ax (i:=0) rfl) (ax (i:=0) rfl) (fx rfl);dsimp only at s1 hv
   refine bS (show cz _ (cR (V 1) (cS 0)::(M1++(cK gc (fX c) iT (0,0)::R))) from aX) ?_;rw [hv] at s1 ⊢
   refine bg (OG s1) rfl (l9 _ e _ (cS 0) (bb .zero) (py 0)) ?_;rintro v2 _ ⟨N,rfl,hN⟩;exact ⟨_,rfl,trivial,cj (Jk hN) (bh (cz.drop aX))⟩
  ·refine ⟨_,rfl,.inl rfl,fun V σr M1 h3 hy=>?_⟩;obtain ⟨s2,-⟩:=hy _ (ax (i:=1) rfl) (ax (i:=0) rfl) (fx rfl);have s44:=h3 44 _ rfl;dsimp only at s2
   refine bS (show cz _ (FC (V 2) dN::(M1++(cK gc (fX c) iT (0,0)::R))) from aX) ?_;unfold FC;refine Do.TW fun N=>?_
   refine bS cT ?_;refine Do.Ve fun hN=>?_
   refine Do.OH (cn (hN.cL (cG .zero))) fun o=>?_
   exact bN (v:=.agg [V 2,nI,.int .i64 (c.ey:Int)].toArray) (bL (parts:=[(0,.tmp 42),(2,.tmp 44)]) (vs:=[(0,V 2),(2,.int .i64 (c.ey:Int))]) (by simp [uU,ev,s2,s44]) (by simp [Instr.fill,BP,eQ o])) rfl ⟨_,rfl,⟨o,rfl⟩,Jk hN⟩
  ·exact ⟨_,rfl,.inl rfl,fun V σr M1 h3 hy=>Do.qv fH rfl fun g=>⟨_,rfl,⟨g,rfl⟩,aX⟩⟩
  ·exact ⟨_,rfl,.inl rfl,fun V σr M1 h3 hy=>Do.qv fH rfl fun g=>⟨_,rfl,⟨g,rfl⟩,aX⟩⟩
  ·refine ⟨_,rfl,.inl rfl,fun V σr M1 h3 hy=>?_⟩;obtain ⟨s6,g,IG⟩:=hy _ (ax (i:=3) rfl) (ax (i:=0) rfl) (fx rfl);obtain ⟨s7,g',hv7⟩:=hy _ (ax (i:=4) rfl) (ax (i:=1) rfl) (fx rfl);dsimp only at s6 IG s7 hv7
   rw [IG] at s6
   rw [hv7] at s7
   exact bN (v:=.agg [.map (some g),.map (some g')].toArray) (bL (parts:=[(0,.tmp 46),(1,.tmp 47)]) (vs:=[(0,.map (some g)),(1,.map (some g'))]) (by simp [uU,ev,s6,s7]) (by simp [Instr.fill,Value.cells])) rfl ⟨_,rfl,⟨g,g',IG,hv7,rfl⟩,aX⟩
  ·exact ⟨_,rfl,.inl rfl,fun V σr M1 h3 hy=>Do.qv ig rfl fun g=>⟨_,rfl,⟨g,rfl⟩,aX⟩⟩
  ·refine ⟨_,rfl,.inl rfl,fun V σr M1 h3 hy=>?_⟩;obtain ⟨s5,o,QJ⟩:=hy _ (ax (i:=2) rfl) (ax (i:=0) rfl) (fx rfl);obtain ⟨s8,g,g',-,-,T5⟩:=hy _ (ax (i:=5) rfl) (ax (i:=1) rfl) (fx rfl);obtain ⟨s9,PO,hv9⟩:=hy _ (ax (i:=6) rfl) (ax (i:=2) rfl) (fx rfl);have s40:=h3 40 _ rfl;dsimp only at s5 o QJ s8 T5 s9 hv9
   generalize fJ [2] V 2=x at o QJ
   rw [QJ] at s5
   rw [T5] at s8
   rw [hv9] at s9
   refine bN (v:=.agg (fI c nI dK dK nI dK dK dK dK x nI g g' PO).toArray) (bL (parts:=[(0,.tmp 40),(9,.tmp 45),(12,.tmp 48),(15,.tmp 49)]) (vs:=[(0,.agg (fX c).toArray),(9,.agg [x,nI,.int .i64 (c.ey:Int)].toArray),(12,.agg [.map (some g),.map (some g')].toArray),(15,.map (some PO))]) (by simp [uU,ev,s5,s8,s9,s40]) (by simp [Instr.fill,Value.cells])) rfl ⟨_,rfl,⟨x,g,g',PO,o,QJ,T5,hv9,rfl⟩,aX⟩
  ·refine ⟨_,rfl,.inl rfl,fun V σr M1 h3 hy=>?_⟩;obtain ⟨s10,x,g0,g',PO,o,-,-,-,hv⟩:=hy _ (ax (i:=7) rfl) (ax (i:=0) rfl) (fx rfl);dsimp only at s10 hv
   have hw:fJ [10] V 10=.agg (fI c nI dK dK nI dK dK dK dK x nI g0 g' PO).toArray:=hv;rw [hv] at s10
   refine Do.box s10 rfl rfl fun g=>⟨_,rfl,⟨g,rfl⟩,?_⟩
   refine cj (show cz _ (cK g (fI c nI dK dK nI dK dK dK dK x nI g0 g' PO) di (0,0)::(M1++(cK gc (fX c) iT (0,0)::R))) from aX) ?_
   show cz _ ((S3 (ptr g) (fJ [10] V 10)++[])++(M1++(cK gc (fX c) iT (0,0)::R)))
   rw [hw];exact aX
  ·exact Ce rfl (.inl rfl) rfl rfl rfl
  ·refine ⟨_,rfl,.inl rfl,fun V σr M1 h3 hy=>?_⟩;obtain ⟨MA,g,Ka⟩:=hy _ (ax (i:=8) rfl) (ax (i:=0) rfl) (fx rfl);obtain ⟨Se,g4,Tc⟩:=hy _ (ax (i:=9) rfl) (ax (i:=1) rfl) (fx rfl);dsimp only at MA Ka Se Tc
   have Vm:fJ [11,12] V 11=ptr g:=Ka;have Vn:fJ [11,12] V 12=ptr g4:=Tc;refine bS (show cz _ ((Cd [dK] S1 (V 12) V++[])++(M1++(cK gc (fX c) iT (0,0)::R))) from aX) ?_;rw [Tc] at Se ⊢
   rw [Ka] at MA
   refine bS (show cz _ (cK g4 [dK] S1 (0,0)::(M1++(cK gc (fX c) iT (0,0)::R))) from aX) ?_;refine b7 (cs':=[ptr g]) Se MA rfl .zero gy.zero ⟨dK,rfl,trivial,?_⟩
   show cz _ ((S4 (fJ [11,12] V 12) (fJ [11,12] V 11)++[])++(M1++(cK gc (fX c) iT (0,0)::R)))
   rw [Vm,Vn];exact aX
 intro V hV;obtain ⟨-,v5⟩:=hV _ (ax (i:=2) rfl);obtain ⟨mr,v6⟩:=hV _ (ax (i:=3) rfl);obtain ⟨ml,v7⟩:=hV _ (ax (i:=4) rfl);obtain ⟨a1,a2,w6,w7,v8⟩:=hV _ (ax (i:=5) rfl);obtain ⟨mc,v9⟩:=hV _ (ax (i:=6) rfl);obtain ⟨x,b1,b2,b3,o1,w5,w8,w9,v10⟩:=hV _ (ax (i:=7) rfl);obtain ⟨w,v11⟩:=hV _ (ax (i:=8) rfl);obtain ⟨g4,v12⟩:=hV _ (ax (i:=9) rfl);clear hV;dsimp only at v5 v6 v7 v8 v9 v10 v11 v12
 have v2:V 2=x:=by
  have h:V 5=_:=w5;rw [v5] at h
  have h2:fJ [2] V 2=x:=by simpa using h
  exact h2
 have q6:V 6=_:=w6;have q7:V 7=_:=w7;have q8:V 8=_:=w8;have q9:V 9=_:=w9;rw [v6] at q6
 rw [v7] at q7
 rw [v9] at q9
 rw [v8] at q8
 cases q6
 cases q7
 cases q9
 simp only [Value.agg.injEq,List.toArray_inj,List.cons.injEq,Value.map.injEq,Option.some.injEq,and_true] at q8
 obtain ⟨rfl,rfl⟩:=q8;clear v5 v8 w5 w6 w7 w8 w9;refine A.fo (show cz _ (([FC (V 2) dN]++(PM (V 6) V++(PM (V 7) V++(Wz (V 9) V++(S3 (V 11) (V 10)++(S4 (V 12) (V 11)++[]))))))++(cK gc (fX c) iT (0,0)::R)) from aX) ?_;simp only [kV,Nat.reduceLT,if_true,if_false,List.cons_append,List.nil_append];rw [v2,v6,v7,v9,v10,v11,v12];refine A.fo (show cz _ (FC x dN::iC fH mr []::iC fH ml []::iC ig mc []::cK w (fI c nI dK dK nI dK dK dK dK x nI mr ml mc) di (0,0)::cK g4 [ptr w] S1 (0,0)::cK gc (fX c) iT (0,0)::R) from aX) ?_;unfold FC;refine A.TW fun N=>?_
 refine A.fo cT ?_;refine A.Ve fun hN=>?_
 obtain ⟨M,hM⟩:∃ M:cJ,M=dH [N,cK g4 [ptr w] S1 (0,0)]:=⟨_,rfl⟩
 have hx:db [M] x dN:=by rw [hM];exact hN.cL Ft
 have h4:Rd [M] ⟨g4,0,none⟩ (ptr w):=by rw [hM];exact Rd.cL (bP .zero rfl) Fu
 have h4r:Rd (M::cK gc (fX c) iT (0,0)::R) ⟨g4,0,none⟩ (ptr w):=h4.cL (cG .zero);refine A.fo (show cz _ (dJ AH 2 nI 0 []::cK w (fI c nI dK dK nI dK dK dK dK x nI mr ml mc) di (0,0)::iC fH mr []::iC fH ml []::iC ig mc []::M::cK gc (fX c) iT (0,0)::R) from ?_) ?_
 ·rw [hM];exact cj (ep (A:=N) (B:=cK g4 [ptr w] S1 (0,0)) zP zP) (cj (du AH 2) zE)
 refine bf zK ?_;refine Fin.next ?_;refine W.gC [(1,ptr gc),(4,ptr g4)] zS ?_;clear v2 v6 v7 v9 v10 v11 v12 V;clear hN hM N
 (repeat (refine wA ?_;intros))
 refine bk (id:=4) [13,14,15] (cK w (fI c nI dK dK nI dK dK dK dK x nI mr ml mc) di (0,0)::M::cK gc (fX c) iT (0,0)::R) Tryz.mixed ?_
 (refine tL 0 ?_;refine tL 1 ?_;refine tN 2 ?_;refine tF 3 ?_;refine tL 4 ?_;refine tF 5 ?_;refine tL 6 ?_;refine tL 8 ?_)
 refine tk 9 _ rfl (cD.makeFunc rfl rfl) ?_;refine tO 7 ?_;refine bg rfl rfl (qJ _ e 3 zo) ?_;rintro _ _ ⟨ad,kd,gs,rfl,CC,rfl⟩
 obtain ⟨ld,lk,fd,rfl⟩:∃ a b d,gs=[a,b,d]:=by
  match gs,CC with
  | [a,b,d],_=>exact ⟨a,b,d,rfl⟩
 refine ⟨fun _=>zE,?_⟩;refine tk 10 _ rfl (bL rfl zF) ?_;refine tO 11 ?_;refine bE (n:=2) (cs:=[.slice ad 3 kd,.func (.func 160) #[ptr w] #[]]) rfl rfl rfl rfl zQ rfl (fun gb=>⟨fun _=>zE,?_⟩);refine tO 12 ?_;refine bo rfl rfl rfl (show cQ _ (dJ AH 2 nI 0 []) _ from zP) (bO (n:=2) (c:=1) zP rfl zl) rfl rfl zO zm zo fun ap kp _=>⟨fun _=>zE,?_⟩
 ((refine tO 13 ?_;refine dV (bm rfl) ?_);(refine tO 14 ?_;refine dV (ba rfl) ?_);(refine tO 15 ?_;refine tg ?_;refine ⟨zN,?_⟩))
 refine bf zK ?_;refine Fin.next ?_;refine W.gC [(1,ptr gc),(4,ptr g4)] zS ?_;obtain ⟨vl,Bb⟩:∃ vl:Value,vl=.slice ad 3 kd:=⟨_,rfl⟩
 have hvo:vl.oneCell'=true:=by rw [Bb];rfl
 refine W.fo (show cz _ (dJ AH 2 (.slice ap 1 kp) 1 (FD w vl [])::dJ DF 1 vl 3 [ptr ld,ptr lk,ptr fd]::dH (jK [ld,lk,fd])::cK w (fI c (.slice ap 1 kp) dK dK nI dK dK dK dK x nI mr ml mc) di (0,0)::iC fH mr []::iC fH ml []::iC ig mc []::M::cK gc (fX c) iT (0,0)::R) from by rw [Bb];exact zE) ?_;clear Bb CC
 (repeat (refine wA ?_;intros))
 refine bk (id:=5) [4,5,6] (M::cK gc (fX c) iT (0,0)::R) Tryz.mixed ?_
 (refine tL 0 ?_;refine tF 1 ?_;refine tL 2 ?_)
 refine tO 3 ?_;refine Do.makeSlice rfl rfl rfl rfl zm zo fun gw=>⟨fun _=>zE,?_⟩
 ((refine tO 4 ?_;refine dV (bm rfl) ?_);(refine tO 5 ?_;refine dV (ba rfl) ?_);(refine tO 6 ?_;refine tg ?_;refine ⟨zN,?_⟩))
 refine bf zK ?_;refine wB ?_;refine bq (ι:=Ib) (fun i=>[(1,ptr gc),(4,ptr g4),(77,.int .i64 (c.k:Int)),(78,.int .i64 (i.vs.length:Int))]) (fun i=>WA i c w gc gw ld lk fd mr ml mc vl x R) (fun i=>i.ok c w g4 ld lk fd vl x) (fun i=>c.k - i.vs.length) ⟨[],[],[],ap,kp,none,0,dH [M,dJ DF 1 vl 3 [ptr ld,ptr lk,ptr fd]]⟩ ⟨aH _,rfl,rfl,hx.cL Ft,h4.cL Ft,(fun y hy=>by cases hy),cE.cL (bb .zero) Fu,fun j h=>absurd h (Nat.not_lt_zero _)⟩ zS (cj (ep (A:=M) (B:=dJ DF 1 vl 3 [ptr ld,ptr lk,ptr fd]) zP zP) (cj (du ez 1) (cj (dQ (M:=[])) zE))) ?_;clear hx h4 h4r;rintro i hi;have hle:=hi.le;have h4r:Rd (i.M::cK gc (fX c) iT (0,0)::R) ⟨g4,0,none⟩ (ptr w):=hi.h4.cL (cG .zero);have oF:i.ts.length=i.vs.length:=by have:=congrArg List.length hi.tl;simpa using this
 by_cases cO:i.vs.length<c.k
 rotate_left
 ·have KJ:i.vs.length=c.k:=by omega
  refine wB ?_;refine bk (id:=12) [13,14,15] (cK w (fI c (.slice i.ap (i.vs.length+1) i.kp) dK dK (.slice (some ⟨gw,0,none⟩) c.k c.k) dK dK dK dK x (.slice i.aw i.ts.length i.kw) mr ml mc) di (0,0)::i.M::cK gc (fX c) iT (0,0)::R) Tryz.mixed ?_
  (refine tL 0 ?_;refine tL 1 ?_;refine tN 2 ?_;refine tF 3 ?_;refine tL 4 ?_;refine tF 5 ?_;refine tL 6 ?_;refine tL 8 ?_)
  refine tk 9 _ rfl (cD.makeFunc rfl rfl) ?_;refine tO 7 ?_;refine bg rfl rfl (qJ _ e 1 zo) ?_;rintro _ _ ⟨eI,WE,gs,rfl,CC,rfl⟩
  obtain ⟨ud,rfl⟩:∃ a,gs=[a]:=by
   match gs,CC with
   | [a],_=>exact ⟨a,rfl⟩
  refine ⟨fun _=>zE,?_⟩;refine tk 10 _ rfl (bL rfl zF) ?_;refine tO 11 ?_;refine bE (n:=2) (cs:=[.slice eI 1 WE,FE w]) rfl rfl rfl rfl zQ rfl (fun gb3=>⟨fun _=>zE,?_⟩);refine tO 12 ?_;refine bo rfl rfl rfl (show cQ _ (dJ AH 2 (.slice i.ap (i.vs.length+1) i.kp) (i.vs.length+1) (FD w vl i.vs)) _ from zP) (bO (n:=2) (c:=1) zP rfl zl) rfl rfl zO zm zo fun ap2 nr _=>⟨fun _=>zE,?_⟩
  ((refine tO 13 ?_;refine dV (bm rfl) ?_);(refine tO 14 ?_;refine dV (ba rfl) ?_);(refine tO 15 ?_;refine tg ?_;refine ⟨zN,?_⟩))
  refine bf zK ?_;refine Fin.next ?_;refine W.gC [(1,ptr gc),(4,ptr g4)] zS ?_;refine W.cB ((bb (show cQ _ (dJ AH 2 (.slice ap2 (i.vs.length+1+1) nr) (i.vs.length+1+1) (FD w vl i.vs++[.slice eI 1 WE,FE w])) _ from zP)).shape zo) ?_;rintro ⟨⟨lL,c',lV,q3,q4,q5,q6⟩,_⟩
  cases lV
  rcases q6 with q6|⟨gp,op,rfl⟩
  ·omega
  clear q3 q4 q5;obtain ⟨vu,Uk⟩:∃ vu:Value,vu=.slice eI 1 WE:=⟨_,rfl⟩
  obtain ⟨ij,WG⟩:∃ v:Value,v=.slice i.aw i.ts.length i.kw:=⟨_,rfl⟩
  obtain ⟨M2,CG⟩:∃ M2:cJ,M2=dH [i.M,dJ AH 2 (.slice (some ⟨gp,op,none⟩) (c.k+2) nr) (c.k+2) ((AJ w vl i.vs vu).flatMap AI),cU ij i.ts,dJ DF 1 vu 1 [ptr ud]]:=⟨_,rfl⟩
  refine W.fo (show cz _ (cK w (fI c (.slice (some ⟨gp,op,none⟩) (c.k+2) nr) dK dK (.slice (some ⟨gw,0,none⟩) c.k c.k) dK dK dK dK x ij mr ml mc) di (0,0)::dJ pX 1 (.slice (some ⟨gw,0,none⟩) c.k c.k) c.k (List.replicate c.k dK)::dH (jK [ld,lk,fd])::dH (Jl i.wd)::dH (jK [ud])::iC fH mr []::iC fH ml []::iC ig mc []::M2::cK gc (fX c) iT (0,0)::R) from ?_) ?_
  ·rw [CG,Uk,WG,sP,KJ];exact cj (rf (A:=i.M) (B:=dJ AH 2 (.slice (some ⟨gp,op,none⟩) (c.k+2) nr) (c.k+2) (FD w vl i.vs++[.slice eI 1 WE,FE w])) (C:=cU (.slice i.aw i.ts.length i.kw) i.ts) (D:=dJ DF 1 (.slice eI 1 WE) 1 [ptr ud]) zP zP zP zP) zE
  have g1:cz [M2] [i.M]:=by rw [CG];exact four .zero
  have IE:db [M2] x dN:=hi.hx.cL g1;have h42:Rd [M2] ⟨g4,0,none⟩ (ptr w):=hi.h4.cL g1;have vV:cE [M2] 2 (.slice (some ⟨gp,op,none⟩) (c.k+2) nr) (c.k+2) ((AJ w vl i.vs vu).flatMap AI):=by rw [CG];exact cE.cL (bb .zero) (four (.succ .zero))
  have Fb:j7 [M2] x ij (cZ c):=by
   refine ⟨IE,i.ts,?_,?_,fun y hy=>(hi.tx y hy).cL g1⟩
   ·rw [hi.tl,KJ];rfl
   ·rw [CG];exact cE.cL (bb .zero) (four (.succ (.succ .zero)))
  have NL:cE [M2] 1 vu 1 [ptr ud]:=by rw [CG];exact cE.cL (bb .zero) (four (.succ (.succ (.succ .zero))))
  have vy:cE [M2] 1 vl 3 [ptr ld,ptr lk,ptr fd]:=hi.lo.cL g1
  have QF:∀ j (h:j<i.vs.length) (h2:j<i.wd.length),cE [M2] 1 (i.vs[j]).1 2 [ptr (i.wd[j]).1,ptr (i.wd[j]).2]∧Rd [M2] ⟨(i.vs[j]).2.1,0,none⟩ (ptr w)∧Rd [M2] ⟨(i.vs[j]).2.2,0,none⟩ (.int .i64 (j:Int)):=fun j h h2=>by
   obtain ⟨a,b,d⟩:=hi.ps j h h2;exact ⟨a.cL g1,b.cL g1,d.cL g1⟩
  have C4:=hi.wl;have h4r:Rd (M2::cK gc (fX c) iT (0,0)::R) ⟨g4,0,none⟩ (ptr w):=h42.cL (cG .zero);clear CG Uk WG g1 hi oF hle
  generalize i.vs=vs at *
  generalize i.wd=wd at *
  refine W.cB ((vy.cL (cG zP)).shape zo) ?_;rintro ⟨⟨xk,cl,rfl,-,-,-,q6⟩,_⟩;rcases q6 with q6|⟨gd,od,rfl⟩
  ·omega
  refine W.cB ((NL.cL (cG zP)).shape zo) ?_;rintro ⟨⟨m5,cu,rfl,-,-,-,q6⟩,_⟩;rcases q6 with q6|⟨Ul,Um,rfl⟩
  ·omega
  have r0:dZ (M2::cK gc (fX c) iT (0,0)::R) gp (op+0*2) [.slice (some ⟨gd,od,none⟩) 3 cl,.func (.func 160) #[ptr w] #[]]:=dZ.elem (vV.cL (cG .zero)) zY (j:=0) rfl;have s0:Rd [M2] ⟨gp,op,none⟩ (.slice (some ⟨gd,od,none⟩) 3 cl):=cE.elemOf vV zY (j:=0) (i:=0) rfl rfl;refine wB ?_;refine bq (ι:=PN) (fun j=>[(1,ptr gc),(4,ptr g4),(129,.slice (some ⟨gp,op,none⟩) (c.k+2) nr),(130,.int .i64 ((c.k+2:Nat):Int)),(131,.int .i64 (j.idx c.k:Int))]) (fun j=>WD c w (.slice (some ⟨gp,op,none⟩) (c.k+2) nr) (.slice (some ⟨gw,0,none⟩) c.k c.k) x ij mr ml mc ld lk fd ud wd j++(iC fH mr []::iC fH ml []::iC ig mc []::M2::cK gc (fX c) iT (0,0)::R)) (fun j=>j.ok c wd) (fun j=>c.k+2 - j.idx c.k) .zero trivial zS ?_ ?_
  ·simp only [WD,List.cons_append,List.nil_append];exact cj (S5 (a:=ld) (b:=lk) (d:=fd) zP) (cj (S6 (a:=ud) zP) zE)
  rintro j hj
  cases j with
  | zero =>
   simp only [WD,PN.idx,List.cons_append,List.nil_append]
   (repeat (refine wA ?_;intros))
   rename_i g7;refine O.gD (us:=[ptr w]) (ws:=[]) (vs:=[]) rfl rfl rfl (Dj zP zP zP zP (uK _ e w c hc dK dK (.slice (some ⟨gw,0,none⟩) c.k c.k) dK dK dK dK x ij (.int .i64 0) nI (.map (some mr)) (.map (some ml)) (.int .i64 0) nI (.bool false) (.map (some mc)) gp op (c.k+2) nr gd od cl ld lk fd XH [] zo (s0.cL (cG zP)) ((vy.elem (j:=0) rfl).cL (cG zP)) ((vy.elem (j:=1) rfl).cL (cG zP)) ((vy.elem (j:=2) rfl).cL (cG zP)) S9 (aH _) (fun b hb=>by cases hb))) ?_;rintro _ _ ⟨rfl,gl,gf,rfl⟩;refine wB ?_;refine bi (.mid gl gf []) ⟨aH _,fun j h=>absurd h (Nat.not_lt_zero _)⟩ zd zS ?_;refine cj (dQ (M:=[])) ?_;exact zE
  | mid gl gf wx =>
   obtain ⟨Pt,XI⟩:=hj;simp only [WD,PN.idx,List.cons_append,List.nil_append]
   by_cases hw:wx.length<c.k
   ·have hn:wx.length<vs.length:=by omega
    have F6:wx.length<wd.length:=by omega
    obtain ⟨p1,p2,p3⟩:=QF wx.length hn F6;have u6:=FF (w:=w) (vl:=.slice (some ⟨gd,od,none⟩) 3 cl) (vu:=.slice (some ⟨Ul,Um,none⟩) 1 cu) hn;have Eb:=List.drop_eq_getElem_cons F6;have hwm:=fun x=>XI.more F6 (x:=x)
    generalize vs[wx.length]'hn=y at p1 p2 p3 u6
    generalize wd[wx.length]'F6=q at p1 Eb hwm
    obtain ⟨vd,xw,xi⟩:=y;obtain ⟨d1,k1⟩:=q;dsimp only at p1 p2 p3 hwm
    rw [Eb];refine W.cB ((p1.cL (cG zP)).shape zo) ?_;rintro ⟨⟨wm,cv,rfl,-,-,-,q6⟩,_⟩;rcases q6 with q6|⟨gv,ov,rfl⟩
    ·omega
    have r1:dZ (M2::cK gc (fX c) iT (0,0)::R) gp (op+(wx.length+1)*2) [.slice (some ⟨gv,ov,none⟩) 2 cv,.func (.func 161) #[] #[ptr xw,ptr xi]]:=dZ.elem (vV.cL (cG .zero)) zY (j:=wx.length+1) u6;have s1:Rd [M2] ⟨gp,op+(wx.length+1)*2,none⟩ (.slice (some ⟨gv,ov,none⟩) 2 cv):=cE.elemOf vV zY (j:=wx.length+1) (i:=0) u6 rfl;refine W.fo (S7 (q:=(d1,k1)) (l:=wd.drop (wx.length+1)) zP) ?_
    (repeat (refine wA ?_;intros))
    rename_i g7;refine O.gD (us:=[]) (ws:=[ptr xw,ptr xi]) (vs:=[]) rfl rfl rfl (Dj zP zP zP zP (uL _ e w c (ptr gl) (ptr gf) dK dK dK dK x ij (.int .i64 0) nI (.map (some mr)) (.map (some ml)) (.int .i64 0) nI (.bool false) (.map (some mc)) gp op (c.k+2) nr gv ov cv d1 k1 wx.length gw c.k c.k xw xi (wx.map jJ++List.replicate (c.k - wx.length) dK) Jm zo zo hw (by simp;omega) (p2.cL (cG zP)) (p3.cL (cG zP)) (s1.cL (cG zP)) ((p1.elem (j:=0) rfl).cL (cG zP)) ((p1.elem (j:=1) rfl).cL (cG zP)) (IE.cL (cG zP)) Ta (aH _))) ?_;rintro _ _ ⟨rfl,g,rfl⟩;rw [show (wx.map jJ++List.replicate (c.k - wx.length) dK).set wx.length (ptr g)=_ from NK (x:=⟨g,d1,k1⟩) hw];refine wB ?_;refine bi (.mid gl gf (wx++[⟨g,d1,k1⟩])) ⟨by rw [aa,aj];omega,hwm _ rfl rfl⟩ (by dsimp only;rw [aa,aj];omega) ?_ ?_
    ·simp only [aa,aj];exact zS
    ·dsimp only;simp only [List.cons_append,List.nil_append];refine cj (Jn (A:=dH (ka 0 wx (List.replicate wx.length Jm))) (B:=vS wx.length ⟨g,d1,k1⟩ Jm) zP zP fun X=>Lf) ?_;simp only [aa,aj];exact zE
   ·have Td:wx.length=c.k:=by omega
    have u6:=FG (w:=w) (vl:=.slice (some ⟨gd,od,none⟩) 3 cl) (vs:=vs) (vu:=.slice (some ⟨Ul,Um,none⟩) 1 cu);rw [KJ] at u6
    have r1:dZ (M2::cK gc (fX c) iT (0,0)::R) gp (op+(c.k+1)*2) [.slice (some ⟨Ul,Um,none⟩) 1 cu,FE w]:=dZ.elem (vV.cL (cG .zero)) zY (j:=c.k+1) u6;have s1:Rd [M2] ⟨gp,op+(c.k+1)*2,none⟩ (.slice (some ⟨Ul,Um,none⟩) 1 cu):=cE.elemOf vV zY (j:=c.k+1) (i:=0) u6 rfl;rw [Td,Nat.sub_self,List.replicate_zero,aK]
    (repeat (refine wA ?_;intros))
    rename_i g7;refine O.gD (us:=[ptr w]) (ws:=[]) (vs:=[]) rfl rfl rfl (Ct.AO zP zP (oA _ e w c hc (ptr gl) (ptr gf) (.slice (some ⟨gw,0,none⟩) c.k c.k) dK dK dK dK x ij (.int .i64 0) nI (.map (some mr)) (.map (some ml)) (.int .i64 0) nI (.bool false) (.map (some mc)) gp op nr Ul Um cu ud ⟨[]⟩ (s1.cL (cG zP)) ((NL.elem (j:=0) rfl).cL (cG zP)) (Fb.cL (cG zP)) Tb)) ?_;rintro _ _ ⟨rfl,gu,rfl⟩;refine wB ?_;refine bi (.all gl gf wx gu) ⟨Td,XI⟩ zd zS ?_;dsimp only;simp only [List.cons_append,List.nil_append];rw [Td];exact zE
  | all gl gf wx gu =>
   obtain ⟨Pt,XI⟩:=hj;simp only [WD,PN.idx,List.cons_append,List.nil_append];rw [Pt];clear r0 s0;refine wB ?_;obtain ⟨XJ,Te⟩:∃ X:cJ,X=Ex fun v:Value=>cK w (fI c (.slice (some ⟨gp,op,none⟩) (c.k+2) nr) (ptr gl) (ptr gf) (.slice (some ⟨gw,0,none⟩) c.k c.k) v (ptr gu) dK dK x ij mr ml mc) di (0,0):=⟨_,rfl⟩
   have hE:∀ (v:Value) (X:List cJ),cz (cK w (fI c (.slice (some ⟨gp,op,none⟩) (c.k+2) nr) (ptr gl) (ptr gf) (.slice (some ⟨gw,0,none⟩) c.k c.k) v (ptr gu) dK dK x ij mr ml mc) di (0,0)::X) (XJ::X):=fun v X=>by rw [Te];exact fu (f:=fun v:Value=>cK w (fI c (.slice (some ⟨gp,op,none⟩) (c.k+2) nr) (ptr gl) (ptr gf) (.slice (some ⟨gw,0,none⟩) c.k c.k) v (ptr gu) dK dK x ij mr ml mc) di (0,0)) v
   have rA:dZ (XJ::M2::cK gc (fX c) iT (0,0)::R) w (0+16) [x,ij,.int .i64 (c.ey:Int)]:=by rw [Te];exact dZ.ex fun v=>dZ.fP .zero ⟨3,rfl⟩
   refine bk (id:=21) [14] (XJ::M2::cK gc (fX c) iT (0,0)::R) Tryz.mixed ?_;refine bG 0 _ rfl zK (cj (bw (show cQ _ (cK w (fI c (.slice (some ⟨gp,op,none⟩) (c.k+2) nr) (ptr gl) (ptr gf) (.slice (some ⟨gw,0,none⟩) c.k c.k) dK (ptr gu) dK dK x ij mr ml mc) di (0,0)) _ from zP) aX) (cj ((hE dK) _) zE)) (bp rfl zR) rfl ?_;refine bG 1 _ rfl zK (cj (bw (show cQ _ (cK w (fI c (.slice (some ⟨gp,op,none⟩) (c.k+2) nr) (ptr gl) (ptr gf) (.slice (some ⟨gw,0,none⟩) c.k c.k) dK (ptr gu) dK dK x ij mr ml mc) di (0,0)) _ from zP) aX) (cj ((hE dK) _) zE)) (bp rfl zR) rfl ?_;refine bG 2 _ rfl zK (cj (bw (show cQ _ (cK w (fI c (.slice (some ⟨gp,op,none⟩) (c.k+2) nr) (ptr gl) (ptr gf) (.slice (some ⟨gw,0,none⟩) c.k c.k) dK (ptr gu) dK dK x ij mr ml mc) di (0,0)) _ from zP) aX) (cj ((hE dK) _) zE)) (bm rfl) rfl ?_;refine bG 3 _ rfl zK (cj (bw (show cQ _ (cK w (fI c (.slice (some ⟨gp,op,none⟩) (c.k+2) nr) (ptr gl) (ptr gf) (.slice (some ⟨gw,0,none⟩) c.k c.k) dK (ptr gu) dK dK x ij mr ml mc) di (0,0)) _ from zP) aX) (cj ((hE dK) _) zE)) (ba rfl) rfl ?_;refine bG 4 _ rfl zK (cj (bw (show cQ _ (cK w (fI c (.slice (some ⟨gp,op,none⟩) (c.k+2) nr) (ptr gl) (ptr gf) (.slice (some ⟨gw,0,none⟩) c.k c.k) dK (ptr gu) dK dK x ij mr ml mc) di (0,0)) _ from zP) aX) (cj ((hE dK) _) zE)) (cD.dy rfl rA rfl) rfl ?_
   refine bG 5 _ rfl zK (cj (bw (show cQ _ (cK w (fI c (.slice (some ⟨gp,op,none⟩) (c.k+2) nr) (ptr gl) (ptr gf) (.slice (some ⟨gw,0,none⟩) c.k c.k) dK (ptr gu) dK dK x ij mr ml mc) di (0,0)) _ from zP) aX) (cj ((hE dK) _) zE)) (ba rfl) rfl ?_;refine bG 6 _ rfl zK (cj (bw (show cQ _ (cK w (fI c (.slice (some ⟨gp,op,none⟩) (c.k+2) nr) (ptr gl) (ptr gf) (.slice (some ⟨gw,0,none⟩) c.k c.k) dK (ptr gu) dK dK x ij mr ml mc) di (0,0)) _ from zP) aX) (cj ((hE dK) _) zE)) (bp rfl zR) rfl ?_;refine tO 7 ?_;refine bg rfl rfl (KQ _ e x ij (cZ c) c.retry (Fb.cL (cG zP)) hc.wU hc.retry.1 hc.retry.2) ?_;rintro _ _ ⟨mB,rfl,rfl⟩;rw [lh];refine ⟨fun _=>(cj (bw (show cQ _ (cK w (fI c (.slice (some ⟨gp,op,none⟩) (c.k+2) nr) (ptr gl) (ptr gf) (.slice (some ⟨gw,0,none⟩) c.k c.k) dK (ptr gu) dK dK x ij mr ml mc) di (0,0)) _ from zP) aX) (cj ((hE dK) _) zE)),?_⟩;refine bG 8 _ rfl zK (cj (bw (show cQ _ (cK w (fI c (.slice (some ⟨gp,op,none⟩) (c.k+2) nr) (ptr gl) (ptr gf) (.slice (some ⟨gw,0,none⟩) c.k c.k) dK (ptr gu) dK dK x ij mr ml mc) di (0,0)) _ from zP) aX) (cj ((hE dK) _) zE)) (bu rfl) rfl ?_;refine bG 9 _ rfl zK (cj (bw (show cQ _ (cK w (fI c (.slice (some ⟨gp,op,none⟩) (c.k+2) nr) (ptr gl) (ptr gf) (.slice (some ⟨gw,0,none⟩) c.k c.k) dK (ptr gu) dK dK x ij mr ml mc) di (0,0)) _ from zP) aX) (cj ((hE dK) _) zE)) (bl rfl rfl) rfl ?_
   refine bG 10 _ rfl zK (cj (bw (show cQ _ (cK w (fI c (.slice (some ⟨gp,op,none⟩) (c.k+2) nr) (ptr gl) (ptr gf) (.slice (some ⟨gw,0,none⟩) c.k c.k) dK (ptr gu) dK dK x ij mr ml mc) di (0,0)) _ from zP) aX) (cj ((hE dK) _) zE)) (bl rfl rfl) rfl ?_;refine bG 11 _ rfl zK (cj (bw (show cQ _ (cK w (fI c (.slice (some ⟨gp,op,none⟩) (c.k+2) nr) (ptr gl) (ptr gf) (.slice (some ⟨gw,0,none⟩) c.k c.k) dK (ptr gu) dK dK x ij mr ml mc) di (0,0)) _ from zP) aX) (cj ((hE dK) _) zE)) (bm rfl) rfl ?_;refine bG 12 _ rfl zK (cj (bw (show cQ _ (cK w (fI c (.slice (some ⟨gp,op,none⟩) (c.k+2) nr) (ptr gl) (ptr gf) (.slice (some ⟨gw,0,none⟩) c.k c.k) dK (ptr gu) dK dK x ij mr ml mc) di (0,0)) _ from zP) aX) (cj ((hE dK) _) zE)) (ba rfl) rfl ?_;refine tO 13 ?_;refine tg ?_;refine ⟨fun _=>(cj (bw (show cQ _ (cK w (fI c (.slice (some ⟨gp,op,none⟩) (c.k+2) nr) (ptr gl) (ptr gf) (.slice (some ⟨gw,0,none⟩) c.k c.k) (ptr mB) (ptr gu) dK dK x ij mr ml mc) di (0,0)) _ from zP) aX) (cj ((hE (ptr mB)) _) zE)),?_⟩;refine tO 14 ?_;refine dV (bj rfl) ?_;refine bf zK ?_;clear hE rA Te XJ;refine wB ?_;obtain ⟨XK,Tf⟩:∃ X:cJ,X=Ex fun v:Value=>cK w (fI c (.slice (some ⟨gp,op,none⟩) (c.k+2) nr) (ptr gl) (ptr gf) (.slice (some ⟨gw,0,none⟩) c.k c.k) (ptr mB) (ptr gu) v dK x ij mr ml mc) di (0,0):=⟨_,rfl⟩
   have Jo:∀ (v:Value) (X:List cJ),cz (cK w (fI c (.slice (some ⟨gp,op,none⟩) (c.k+2) nr) (ptr gl) (ptr gf) (.slice (some ⟨gw,0,none⟩) c.k c.k) (ptr mB) (ptr gu) v dK x ij mr ml mc) di (0,0)::X) (XK::X):=fun v X=>by rw [Tf];exact fu (f:=fun v:Value=>cK w (fI c (.slice (some ⟨gp,op,none⟩) (c.k+2) nr) (ptr gl) (ptr gf) (.slice (some ⟨gw,0,none⟩) c.k c.k) (ptr mB) (ptr gu) v dK x ij mr ml mc) di (0,0)) v
   have rX:Rd (XK::M2::cK gc (fX c) iT (0,0)::R) ⟨w,0+16+0,none⟩ x:=Rd.dY .zero (by rw [Tf];exact Rd.ex fun v=>bP .zero rfl);refine bk (id:=24) [] (XK::M2::cK gc (fX c) iT (0,0)::R) Tryz.mixed ?_;refine bG 0 _ rfl zK (cj (bw (show cQ _ (cK w (fI c (.slice (some ⟨gp,op,none⟩) (c.k+2) nr) (ptr gl) (ptr gf) (.slice (some ⟨gw,0,none⟩) c.k c.k) (ptr mB) (ptr gu) dK dK x ij mr ml mc) di (0,0)) _ from zP) aX) (cj ((Jo dK) _) zE)) (bp rfl zR) rfl ?_;refine bG 1 _ rfl zK (cj (bw (show cQ _ (cK w (fI c (.slice (some ⟨gp,op,none⟩) (c.k+2) nr) (ptr gl) (ptr gf) (.slice (some ⟨gw,0,none⟩) c.k c.k) (ptr mB) (ptr gu) dK dK x ij mr ml mc) di (0,0)) _ from zP) aX) (cj ((Jo dK) _) zE)) (bp rfl zR) rfl ?_;refine bG 2 _ rfl zK (cj (bw (show cQ _ (cK w (fI c (.slice (some ⟨gp,op,none⟩) (c.k+2) nr) (ptr gl) (ptr gf) (.slice (some ⟨gw,0,none⟩) c.k c.k) (ptr mB) (ptr gu) dK dK x ij mr ml mc) di (0,0)) _ from zP) aX) (cj ((Jo dK) _) zE)) (bm rfl) rfl ?_;refine bG 3 _ rfl zK (cj (bw (show cQ _ (cK w (fI c (.slice (some ⟨gp,op,none⟩) (c.k+2) nr) (ptr gl) (ptr gf) (.slice (some ⟨gw,0,none⟩) c.k c.k) (ptr mB) (ptr gu) dK dK x ij mr ml mc) di (0,0)) _ from zP) aX) (cj ((Jo dK) _) zE)) (ba rfl) rfl ?_;refine bG 4 _ rfl zK (cj (bw (show cQ _ (cK w (fI c (.slice (some ⟨gp,op,none⟩) (c.k+2) nr) (ptr gl) (ptr gf) (.slice (some ⟨gw,0,none⟩) c.k c.k) (ptr mB) (ptr gu) dK dK x ij mr ml mc) di (0,0)) _ from zP) aX) (cj ((Jo dK) _) zE)) (ba rfl) rfl ?_
   refine bG 5 _ rfl zK (cj (bw (show cQ _ (cK w (fI c (.slice (some ⟨gp,op,none⟩) (c.k+2) nr) (ptr gl) (ptr gf) (.slice (some ⟨gw,0,none⟩) c.k c.k) (ptr mB) (ptr gu) dK dK x ij mr ml mc) di (0,0)) _ from zP) aX) (cj ((Jo dK) _) zE)) (bp rfl rX) rfl ?_;refine tO 6 ?_;refine bg rfl rfl (KV _ e x dN (IE.cL (cG zP)) (j4 _)) ?_;rintro _ _ ⟨gm,rfl,rfl⟩;refine ⟨fun _=>(cj (bw (show cQ _ (cK w (fI c (.slice (some ⟨gp,op,none⟩) (c.k+2) nr) (ptr gl) (ptr gf) (.slice (some ⟨gw,0,none⟩) c.k c.k) (ptr mB) (ptr gu) dK dK x ij mr ml mc) di (0,0)) _ from zP) aX) (cj ((Jo dK) _) zE)),?_⟩;refine bG 7 _ rfl zK (cj (bw (show cQ _ (cK w (fI c (.slice (some ⟨gp,op,none⟩) (c.k+2) nr) (ptr gl) (ptr gf) (.slice (some ⟨gw,0,none⟩) c.k c.k) (ptr mB) (ptr gu) dK dK x ij mr ml mc) di (0,0)) _ from zP) aX) (cj ((Jo dK) _) zE)) (bu rfl) rfl ?_;refine bG 8 _ rfl zK (cj (bw (show cQ _ (cK w (fI c (.slice (some ⟨gp,op,none⟩) (c.k+2) nr) (ptr gl) (ptr gf) (.slice (some ⟨gw,0,none⟩) c.k c.k) (ptr mB) (ptr gu) dK dK x ij mr ml mc) di (0,0)) _ from zP) aX) (cj ((Jo dK) _) zE)) (bl rfl rfl) rfl ?_;refine bG 9 _ rfl zK (cj (bw (show cQ _ (cK w (fI c (.slice (some ⟨gp,op,none⟩) (c.k+2) nr) (ptr gl) (ptr gf) (.slice (some ⟨gw,0,none⟩) c.k c.k) (ptr mB) (ptr gu) dK dK x ij mr ml mc) di (0,0)) _ from zP) aX) (cj ((Jo dK) _) zE)) (bl rfl rfl) rfl ?_
   refine bG 10 _ rfl zK (cj (bw (show cQ _ (cK w (fI c (.slice (some ⟨gp,op,none⟩) (c.k+2) nr) (ptr gl) (ptr gf) (.slice (some ⟨gw,0,none⟩) c.k c.k) (ptr mB) (ptr gu) dK dK x ij mr ml mc) di (0,0)) _ from zP) aX) (cj ((Jo dK) _) zE)) (bm rfl) rfl ?_;refine bG 11 _ rfl zK (cj (bw (show cQ _ (cK w (fI c (.slice (some ⟨gp,op,none⟩) (c.k+2) nr) (ptr gl) (ptr gf) (.slice (some ⟨gw,0,none⟩) c.k c.k) (ptr mB) (ptr gu) dK dK x ij mr ml mc) di (0,0)) _ from zP) aX) (cj ((Jo dK) _) zE)) (ba rfl) rfl ?_;refine tO 12 ?_;refine tg ?_;refine ⟨fun _=>(cj (bw (show cQ _ (cK w (fI c (.slice (some ⟨gp,op,none⟩) (c.k+2) nr) (ptr gl) (ptr gf) (.slice (some ⟨gw,0,none⟩) c.k c.k) (ptr mB) (ptr gu) (ptr gm) dK x ij mr ml mc) di (0,0)) _ from zP) aX) (cj ((Jo (ptr gm)) _) zE)),?_⟩;refine bf zK ?_;clear Jo rX Tf XK;refine wB ?_;refine bk (id:=25) [] (M2::cK gc (fX c) iT (0,0)::R) Tryz.mixed ?_
   (refine tL 0 ?_)
   refine tO 1 ?_;refine bg rfl rfl (KW _ e 32 zo) ?_;rintro _ _ ⟨gn,rfl,rfl⟩;refine ⟨fun _=>zE,?_⟩
   (refine tM 2 ?_;refine tk 3 _ rfl (bl rfl rfl) ?_;refine tk 4 _ rfl (bl rfl rfl) ?_;refine tN 5 ?_;refine tF 6 ?_;(refine tO 7 ?_;refine tg ?_;refine ⟨fun _=>(by (repeat first|exact zE|exact bF|refine bh ?_|(apply bw;exact zP)|refine cz.drop ?_);done),?_⟩))
   refine bf zK ?_;refine wB ?_
   have j0:ee.ok ⟨(.slice (some ⟨gp,op,none⟩) (c.k+2) nr),gl,gf,(.slice (some ⟨gw,0,none⟩) c.k c.k),mB,gu,gm,gn,x,ij,nI,mr,ml,nI,mc,[],[],[],[],wx,ld,lk,fd,ud,[]⟩ M2 w c 0 (pC c) :=
    {wU:=Fb
     root:=cE.nil _ _
     es:=fun x hx=>by cases hx
     kc:=fun x hx=>by cases hx
     all:=⟨.slice (some ⟨gd,od,none⟩) 3 cl,.slice (some ⟨Ul,Um,none⟩) 1 cu,vs,KJ,Pt,by rw [← sP];exact vV,vy,NL,fun i h h2=>by
      have h3:i<wd.length:=by omega
      obtain ⟨a1,a2,a3⟩:=QF i h h3;obtain ⟨b1,b2⟩:=XI i h2 h3;dsimp only;rw [b1,b2];exact ⟨a1,a2,a3⟩⟩
     eh:=rfl
     st:=Jj hc
     ec:=aH _ }
   refine aY (dO w c 0 (pC c) []::R) rfl (cj ?_ (dU j0 rfl)) ⟨w,rfl,rfl⟩;dsimp only [dR,ee.cells];rw [Pt];refine cj (du tEv 4) ?_;exact zE
 (repeat (refine wA ?_;intros))
 rename_i gi;refine bk (id:=9) [12,13,14,15] (cK gi [.int .i64 (i.vs.length:Int)] 3 (0,0)::cK w (fI c (.slice i.ap (i.vs.length+1) i.kp) dK dK (.slice (some ⟨gw,0,none⟩) c.k c.k) dK dK dK dK x (.slice i.aw i.ts.length i.kw) mr ml mc) di (0,0)::i.M::cK gc (fX c) iT (0,0)::R) Tryz.mixed ?_
 (refine tL 0 ?_;refine tL 1 ?_;refine tN 2 ?_;refine tF 3 ?_;refine tF 4 ?_;refine tL 5 ?_;refine tL 6 ?_;refine tk 7 _ rfl (cD.kP rfl rfl zo) ?_)
 rw [show ((i.vs.length:Int)+1)=((i.vs.length+1:Nat):Int) by omega];refine tO 8 ?_;refine bg rfl rfl (pz _ e (i.vs.length+1) zo) ?_;rintro _ _ ⟨a9,ks,rfl,rfl⟩;refine ⟨fun _=>zE,?_⟩;refine tO 9 ?_;refine bg rfl rfl (l9 _ e _ (cS (i.vs.length+1)) (bb (show cQ _ (cR (.slice a9 (cS (i.vs.length+1)).length ks) (cS (i.vs.length+1))) _ from zP)) (py _)) ?_;rintro pv _ ⟨N,rfl,hN⟩;refine ⟨fun _=>zE,?_⟩;refine A.cB (cn (hN.cL (cG .zero))) fun op=>?_
 refine tO 10 ?_;refine bE (n:=1) (cs:=[pv]) rfl rfl rfl rfl (.one (eQ op) rfl .nil) rfl (fun gb=>⟨fun _=>zE,?_⟩);refine tO 11 ?_;refine bo rfl rfl rfl (show cQ _ (cU (.slice i.aw i.ts.length i.kw) i.ts) _ from zP) (bB zP rfl zl) rfl rfl zO zm zo fun aw1 kw1 _=>⟨fun _=>zE,?_⟩
 ((refine tO 12 ?_;refine dV (bm rfl) ?_);(refine tO 13 ?_;refine dV (ba rfl) ?_);(refine tO 14 ?_;refine dV (ba rfl) ?_);(refine tO 15 ?_;refine tg ?_;refine ⟨zN,?_⟩))
 refine bf zK ?_
 (repeat (refine wA ?_;intros))
 refine bk (id:=10) [12,13,14] (cK w (fI c (.slice i.ap (i.vs.length+1) i.kp) dK dK (.slice (some ⟨gw,0,none⟩) c.k c.k) dK dK dK dK x (.slice aw1 (i.ts.length+1) kw1) mr ml mc) di (0,0)::i.M::cK gc (fX c) iT (0,0)::R) Tryz.mixed ?_
 (refine tL 0 ?_;refine tL 1 ?_;refine tN 2 ?_;refine tF 3 ?_;refine tL 4 ?_;refine tF 5 ?_;refine tL 6 ?_)
 refine tk 8 _ rfl (cD.makeFunc rfl rfl) ?_;refine tO 7 ?_;refine bg rfl rfl (qJ _ e 2 zo) ?_;rintro _ _ ⟨dW,XL,gs,rfl,CC,rfl⟩
 obtain ⟨d1,k1,rfl⟩:∃ a b,gs=[a,b]:=by
  match gs,CC with
  | [a,b],_=>exact ⟨a,b,rfl⟩
 refine ⟨fun _=>zE,?_⟩;refine tk 9 _ rfl (bL rfl zF) ?_;refine tO 10 ?_;refine bE (n:=2) (cs:=[.slice dW 2 XL,.func (.func 161) #[] #[ptr g4,ptr gi]]) rfl rfl rfl rfl zQ rfl (fun gb2=>⟨fun _=>zE,?_⟩);refine tO 11 ?_;refine bo rfl rfl rfl (show cQ _ (dJ AH 2 (.slice i.ap (i.vs.length+1) i.kp) (i.vs.length+1) (FD w vl i.vs)) _ from zP) (bO (n:=2) (c:=1) zP rfl zl) rfl rfl zO zm zo fun ap1 kp1 _=>⟨fun _=>zE,?_⟩
 ((refine tO 12 ?_;refine dV (bm rfl) ?_);(refine tO 13 ?_;refine dV (ba rfl) ?_);(refine tO 14 ?_;refine tg ?_;refine ⟨zN,?_⟩))
 refine bf zK ?_;refine wB ?_;refine bi ⟨i.vs++[(.slice dW 2 XL,g4,gi)],i.wd++[(d1,k1)],i.ts++[(pv,kM (cS (i.vs.length+1)))],ap1,kp1,aw1,kw1,dH [i.M,N,cK gi [.int .i64 (i.vs.length:Int)] 3 (0,0),dJ DF 1 (.slice dW 2 XL) 2 [ptr d1,ptr k1]]⟩ (hi.more cO hN) (by simp only [aa,aj];omega) ?_ ?_
 ·simp only [aa,aj];exact zS
 ·simp only [WA,cU,FD,aa,aj,ah,List.map_cons,List.map_nil,aW,aU,List.flatMap_nil,aK];refine cj (rf (A:=i.M) (B:=N) (C:=cK gi [.int .i64 (i.vs.length:Int)] 3 (0,0)) (D:=dJ DF 1 (.slice dW 2 XL) 2 [ptr d1,ptr k1]) zP zP zP zP) ?_;exact cj (Jn (A:=dH (Jl i.wd)) (B:=dH (jK [d1,k1])) zP zP fun X=>NJ) zE
end Go.Proofs
