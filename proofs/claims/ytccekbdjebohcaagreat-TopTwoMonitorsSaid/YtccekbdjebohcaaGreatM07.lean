/- Part 7 of a proof of this: TopTwoMonitors returns true for any arguments; nothing of the old memory is turned. No condition. -/
import Derived.Test.YtccekbdjebohcaaGreatM06
set_option linter.unusedVariables false
set_option linter.unusedSimpArgs false
namespace Go.Proofs
attribute [local irreducible] Bs.cE Bs.Do Bs.O Bs.W Bs.Fin Bs.A Bs.Ct Bs.cF Bs.Rd Bs.Sat Bs.cM Bs.Ob Bs.dJ Bs.View Bs.cC Bs.Ex Bs.dI Bs.Pu Bs.eZ Bs.dK Bs.eh
open Go.Bs
open Tryz
variable (R:List cK) (e:World)
structure oJ where
 gj:Nat
 gb:Nat
 gk:Nat
 gm:Nat
 vs:Value
 vp:Value
 q:xT
 ur:Value
 up:Value
 uq:Value
structure oJ.ok (a:oJ) (M:cK) (seed:dA) (s:gM):Prop where
 vB:da [M] a.vs seed
 cI:a.q.ts.map (·.2)=s.cI
 zf:dE [M] a.q.ts
 leaves:a.q.us.map (·.2)=s.cI.map cZ
 zh:dE [M] a.q.us
 last:ff [M] a.ur a.up a.uq s.dO
 st:s.ok
 sd:seed.length=32
abbrev oJ.cells (a:oJ) (s:gM):List Value:=th (pt a.gj) (pt a.gb) a.vs a.vp a.gm [.int .i64 (s.dO.dd.size:Int),a.ur,.int .i64 (s.dO.sig.idx:Int),a.up,a.uq,.bool s.last.isSome] a.q
abbrev iG (g d k:Nat) (s:gM) (a:oJ) (M:cK) (R:List cK):List cK :=
 cM g (a.cells s) xS (0,0)::cU (.slice a.q.ai a.q.ts.length a.q.ci) a.q.ts::cU (.slice a.q.al a.q.us.length a.q.cl) a.q.us::kG nj a.gm (ie (a.q.ts.map (·.2)) 0)::M::iZ a.gj d s.recs.length::dl d (dM s.jb)::l3 a.gb a.gk s.keys::iZ a.gk k s.keys::dl k (eH s.keys 1048576)::R
def xY (g d k:Nat) (seed:dA) (s:gM) (a:oJ) (M:cK):cK:=dI (Pu (a.ok M seed s)::iG g d k s a M [])
def db (g d k:Nat) (seed:dA) (s:gM):cK:=Ex fun a=>Ex fun M=>xY g d k seed s a M
theorem oK {g d k:Nat} {seed:dA} {s:gM} {R:List cK} {P:Program} {f:FuncId} {args:Array Value} {e:World} {Post:Value→List cK→Prop}
 (h:∀ (a:oJ) (M:cK),a.ok M seed s→Ct P f args e (iG g d k s a M R) Post):Ct P f args e (db g d k seed s::R) Post :=
 Ct.ex .zero fun a=>Ct.ex .zero fun M=>Ct.cN (a7 (p:=a.ok M seed s) (fun w x=>(ke x).1) fun hp=>(h a M hp).cN (cC.drop aX)) (cW (M:=Pu (a.ok M seed s)::iG g d k s a M []) (L:=R))
theorem kz {g d k:Nat} {seed:dA} {s:gM} {a:oJ} {M:cK} {R:List cK} (h:a.ok M seed s):cC (iG g d k s a M R) (db g d k seed s::R) :=
 cn (oX h) (cn (dN (M:=Pu (a.ok M seed s)::iG g d k s a M []) (L:=R)) (cn (fI (f:=fun M=>xY g d k seed s a M) M) (fI (f:=fun a=>Ex fun M=>xY g d k seed s a M) a)))
theorem cH {A:cK} {L R:List cK} (p:cT L A R):cC L [A]:=cn p.out (bh bK)
theorem oJ.ok.len {a:oJ} {M:cK} {seed:dA} {s:gM} (h:a.ok M seed s):a.q.ts.length=s.cI.length∧a.q.us.length=s.cI.length:=by
 have h1:=congrArg List.length h.cI;have h2:=congrArg List.length h.leaves;rw [ab] at h1
 rw [ab,ab] at h2
 exact ⟨h1,h2⟩
theorem xZ (g d k:Nat) (seed:dA) (s:gM) :
 Ct prog 17 #[pt g] e (db g d k seed s::R) (fun v' L'=>v'=.int .i64 (s.cI.length:Int)∧L'=db g d k seed s::R):=by
 refine oK fun a M ha=>?_
 obtain ⟨l1,l2⟩:=ha.len;refine a8 (args:=[_]) func17 rfl ntmps17 results17 rfl ?_;refine wB ?_;refine aY _ rfl (kz ha) ⟨by rw [l1];rfl,rfl⟩
theorem rV {s:gM} {us:List dX} (h:us.map (·.2)=s.cI.map cZ):∀ a∈us,a.2.length=32:=fun a ha=>by
 have:a.2∈s.cI.map cZ:=by rw [← h];exact aD.2 ⟨a,ha,rfl⟩
 obtain ⟨b,_,hb⟩:=aD.1 this;rw [← hb];exact de _ _
theorem Ea (g d k:Nat) (seed:dA) (s:gM) (a:oJ) (M:cK) (ha:a.ok M seed s) :
 Ct prog 18 #[pt g] e (iG g d k s a M R) (fun v' L'=>∃ ad c,v'=.slice ad (dR (s.cI.map cZ)).length c∧L'=cR (.slice ad (dR (s.cI.map cZ)).length c) (dR (s.cI.map cZ))::iG g d k s a M R):=by
 obtain ⟨l1,l2⟩:=ha.len;have kD:=ha.st.size;refine a8 (args:=[_]) func18 rfl ntmps18 results18 rfl ?_;refine wB ?_;refine aZ rfl rfl (j1 _ _ e _ a.q.us rfl (ba zP) (fun x hx=>(ha.zh x hx).cN (cH zP)) (fun x hx=>by have:=rV ha.leaves x hx;omega) zo) ?_;rintro _ _ ⟨ad,c,rfl,rfl⟩;rw [ha.leaves]
 generalize dR (s.cI.map cZ)=x
 refine wB ?_;exact aY (cR (.slice ad x.length c) x::iG g d k s a M R) rfl aX ⟨ad,c,rfl,rfl⟩
theorem rW (g d k:Nat) (seed:dA) (s:gM) (v:Value) (b:dA) (hv:da R v b) :
 Ct prog 237 #[pt g,v] e (db g d k seed s::R) (fun v' L'=>v'=.tuple #[.int .i64 (if b∈s.cI then (lC s.cI b:Int) else 0),.bool (decide (b∈s.cI))]∧L'=db g d k seed s::R):=by
 refine oK fun a M ha=>?_
 refine a8 (args:=[_,_]) func237 rfl ntmps237 results237 rfl ?_;refine wB ?_;refine bl (id:=1) [11] (iG g d k s a M R) mixed ?_;have Tb:da (iG g d k s a M R) v b:=hv.cN zE
 (refine tM 0 ?_;refine tN 1 ?_;refine tF 2 ?_;refine tL 3 ?_;refine tM 4 ?_;refine tk 5 _ rfl (cE.bytes rfl zB) ?_)
 refine tk 6 _ rfl (cE.k8 (key:=nj) (k:=b) rfl rfl zP) ?_
 (refine tM 7 ?_;refine tk 8 _ rfl (bn rfl rfl) ?_;refine tk 9 _ rfl (bn rfl rfl) ?_;refine tA 10 ?_;(refine tO 11 ?_;refine dV (bj rfl) ?_))
 refine bf zK ?_;rw [j5,ha.cI]
 by_cases h:b∈s.cI
 ·rw [aH h,aH h,ay h];simp only [Option.getD_some,Option.isSome_some,aC];refine wB ?_;exact aY _ rfl (kz ha) ⟨rfl,rfl⟩
 ·rw [aB h,aB h,aq h];simp only [Option.getD_none,Option.isSome_none];refine wB ?_;exact aY _ rfl (kz ha) ⟨rfl,rfl⟩
theorem vC (g d k:Nat) (seed:dA) (s:gM) (i:Int) (hi:-9223372036854775808≤i∧i≤9223372036854775807) :
 Ct prog 56 #[pt g,.int .i64 i] e (db g d k seed s::R) (fun v' L'=>(¬ (0≤i∧i<s.cI.length)∧v'=.tuple #[nY,.bool false]∧L'=db g d k seed s::R)∨(0≤i∧i<s.cI.length∧∃ ad c,v'=.tuple #[.slice ad (s.cI.getD i.toNat []).length c,.bool true]∧L'=cR (.slice ad (s.cI.getD i.toNat []).length c) (s.cI.getD i.toNat [])::db g d k seed s::R)):=by
 refine oK fun a M ha=>?_
 obtain ⟨l1,l2⟩:=ha.len;have kD:=ha.st.size
 by_cases h0:0≤i
 rotate_left
 ·refine a8 (args:=[_,_]) func56 rfl ntmps56 results56 rfl ?_;refine wB ?_;exact aY _ rfl (kz ha) (.inl ⟨fun q=>h0 q.1,rfl,rfl⟩)
 by_cases cQ:i<s.cI.length
 rotate_left
 ·refine a8 (args:=[_,_]) func56 rfl ntmps56 results56 rfl ?_;refine wB ?_;exact aY _ rfl (kz ha) (.inl ⟨fun q=>cQ q.2,rfl,rfl⟩)
 obtain ⟨n,rfl⟩:=Int.eq_ofNat_of_zero_le h0;rw [Int.toNat_natCast];obtain ⟨gj,gb,gk,gm,vs,vp,⟨ts,us,ai,ci,al,cl⟩,ur,up,uq⟩:=a;dsimp only at l1 l2
 have hn:n<ts.length:=by omega
 have Wn:∀ L R',cT L (cU (.slice ai ts.length ci) ts) R'→cF L 1 (.slice ai ts.length ci) ts.length (ts.map (·.1)):=fun L R' p=>ba p
 refine a7 ((Wn _ _ (.succ .zero)).shape zo) ?_;rintro ⟨⟨lE,c',hv,h3,h4,h5,h6⟩,_⟩
 cases hv
 rcases h6 with h6|⟨gl,ol,rfl⟩
 ·omega
 have kh:∀ L R',cT L (cU (.slice (some ⟨gl,ol,none⟩) ts.length ci) ts) R'→Rd L ⟨gl,ol+n,none⟩ (ts[n]'hn).1:=fun L R' p=>(ba p).elem (by rw [aI,ae hn];rfl)
 have js:=ha.zf _ (az hn);have vO:s.cI.getD n []=(ts[n]'hn).2:=by rw [← ha.cI];exact eR hn
 have IC:=ha.st.short _ (show (ts[n]'hn).2∈s.cI by rw [← ha.cI];exact aD.2 ⟨_,az hn,rfl⟩)
 skip
 rw [vO]
 generalize ts[n]'hn=y at *
 obtain ⟨yv,b⟩:=y;dsimp only at kh js IC ⊢
 refine a8 (args:=[_,_]) func56 rfl ntmps56 results56 rfl ?_;dsimp only [iG,oJ.cells,th];refine wB ?_;refine b7 rfl (kh _ _ zP) rfl ?_;refine aZ rfl rfl (dy _ e yv b (js.cN (cH zP)) zo) ?_;rintro _ _ ⟨ad,c,rfl,rfl⟩;refine wB ?_;exact aY (cR (.slice ad b.length c) b::db g d k seed s::R) rfl (bh (kz ha)) (.inr ⟨h0,cQ,ad,c,rfl,rfl⟩)
theorem Jo (g d k:Nat) (seed:dA) (s:gM) (i n:Nat) (hn:n≤s.cI.length) (hi:i<n) :
 Ct prog 19 #[pt g,.int .i64 (i:Int),.int .i64 (n:Int)] e (db g d k seed s::R) (fun v' L'=>∃ ad c out,v'=.tuple #[.agg #[.int .i64 (i:Int),.int .i64 (n:Int),.slice ad out.length c],.int .i64 0]∧out.map (·.2)=iF ((s.cI.take n).map cZ) i∧L'=cU (.slice ad out.length c) out::cG out::db g d k seed s::R):=by
 refine oK fun a M ha=>?_
 obtain ⟨l1,l2⟩:=ha.len;have kD:=ha.st.size;refine a7 ((ba (.succ (.succ .zero))).shape zo) ?_;rintro ⟨⟨lE,c',hv,h3,h4,h5,h6⟩,_⟩
 cases hv
 have jD:=rV ha.leaves;refine bI (args:=[_,_,_]) func19 rfl ntmps19 results19 rfl ?_
 (repeat (refine wA ?_;intros))
 rw [Int.toNat_natCast];have hk:n≤a.q.us.length:=by omega
 have hlen:(a.q.us.take n).length=n:=by rw [aE];omega
 refine aZ rfl rfl (BK _ e (.slice a.q.al n a.q.cl) (a.q.us.take n) (i:Int) zo (iJ (ba zP) hk) (fun x hx=>(ha.zh x (aN hx)).cN (cH zP)) (fun x hx=>by have:=jD x (aN hx);omega) zo) ?_;rintro _ _ (⟨lF,-,-⟩|⟨-,-,ad,c,out,rfl,ho,rfl⟩)
 ·exact absurd ⟨by omega,by omega⟩ lF
 rw [hlen];refine wB ?_;apply bB
 ·exact zV
 refine ⟨cU (.slice ad out.length c) out::cG out::db g d k seed s::R,cn (show cC _ (cU (.slice ad out.length c) out::cG out::iG g d k s a M R) from zE) (bh (bh (kz ha))),ad,c,out,rfl,?_,rfl⟩;rw [ho,Int.toNat_natCast,List.map_take,ha.leaves,List.map_take]
theorem x4 (g d k:Nat) (seed:dA) (s:gM) (i n:Nat) (hn:n≤s.cI.length) (hi:i≤n) :
 Ct prog 54 #[pt g,.int .i64 (i:Int),.int .i64 (n:Int)] e (db g d k seed s::R) (fun v' L'=>∃ ad c out,v'=.tuple #[.agg #[.int .i64 (i:Int),.int .i64 (n:Int),.slice ad out.length c],.int .i64 0]∧out.map (·.2)=iS ((s.cI.take n).map cZ) i∧L'=cU (.slice ad out.length c) out::cG out::db g d k seed s::R):=by
 refine oK fun a M ha=>?_
 obtain ⟨l1,l2⟩:=ha.len;have kD:=ha.st.size;refine a7 ((ba (.succ (.succ .zero))).shape zo) ?_;rintro ⟨⟨lE,c',hv,h3,h4,h5,h6⟩,_⟩
 cases hv
 have jD:=rV ha.leaves;refine bI (args:=[_,_,_]) func54 rfl ntmps54 results54 rfl ?_
 (repeat (refine wA ?_;intros))
 rw [Int.toNat_natCast];have hk:n≤a.q.us.length:=by omega
 have hlen:(a.q.us.take n).length=n:=by rw [aE];omega
 refine aZ rfl rfl (Jn _ e (.slice a.q.al n a.q.cl) (a.q.us.take n) (i:Int) zo (iJ (ba zP) hk) (fun x hx=>(ha.zh x (aN hx)).cN (cH zP)) (fun x hx=>by have:=jD x (aN hx);omega) zo) ?_;rintro _ _ (⟨lF,-,-⟩|⟨-,-,ad,c,out,rfl,ho,rfl⟩)
 ·exact absurd ⟨by omega,by omega⟩ lF
 rw [hlen];refine wB ?_;apply bB
 ·exact zV
 refine ⟨cU (.slice ad out.length c) out::cG out::db g d k seed s::R,cn (show cC _ (cU (.slice ad out.length c) out::cG out::iG g d k s a M R) from zE) (bh (bh (kz ha))),ad,c,out,rfl,?_,rfl⟩;rw [ho,Int.toNat_natCast,List.map_take,ha.leaves,List.map_take]
theorem gM.Gu {s:gM} (h:s.ok):s.dO.sig.fits:=by
 unfold gM.dO
 cases hl:s.last with
 | none=>exact ⟨(fun a ha=>by simp [kT] at ha),(fun a ha=>by simp [kT] at ha)⟩
 | some x=>exact (h.last x hl).2.1.fits
theorem HS {M N R:List cK}:cC (M++(N++R)) (N++(M++R)):=xa (List.perm_append_comm_assoc M N R)
def Jp (s:jU) (v:Value):cK:=Ex fun N=>dI [Pu (∃ ur up uq,v=.agg (dT s ur up uq).toArray∧ff [N] ur up uq s),N]
theorem NM {s:jU} {N:cK} {ur up uq:Value} {R:List cK} (h:ff [N] ur up uq s):cC (N::R) (Jp s (.agg (dT s ur up uq).toArray)::R) :=
 cn (oX (p:=∃ Td Te Tf,Value.agg (dT s ur up uq).toArray=.agg (dT s Td Te Tf).toArray∧ff [N] Td Te Tf s) ⟨ur,up,uq,rfl,h⟩) (cn (dN (M:=[_,_])) (fI (f:=fun N=>dI [Pu (∃ Td Te Tf,Value.agg (dT s ur up uq).toArray=.agg (dT s Td Te Tf).toArray∧ff [N] Td Te Tf s),N]) N))
def B8 (s:jU) (v:Value) (_:Nat→Value):List cK:=match v with|.tuple #[x,_]=>[Jp s x]|_=>[]
def Eb (s:jU) (v:Value):cK:=Ex fun N=>Ex fun q:Nat × Value × Value × Value=>dI [Pu (v=pt q.1∧ff [N] q.2.1 q.2.2.1 q.2.2.2 s),cM q.1 (dT s q.2.1 q.2.2.1 q.2.2.2) 87 (0,0),N]
theorem LC {s:jU} {N:cK} {g:Nat} {ur up uq:Value} {R:List cK} (h:ff [N] ur up uq s):cC (cM g (dT s ur up uq) 87 (0,0)::N::R) (Eb s (pt g)::R) :=
 cn (oX (p:=pt g=pt g∧ff [N] ur up uq s) ⟨rfl,h⟩) (cn (dN (M:=[_,_,_])) (cn (fI (f:=fun q:Nat × Value × Value × Value=>dI [Pu (pt g=pt q.1∧ff [N] q.2.1 q.2.2.1 q.2.2.2 s),cM q.1 (dT s q.2.1 q.2.2.1 q.2.2.2) 87 (0,0),N]) (g,ur,up,uq)) (fI (f:=fun N=>Ex fun q:Nat × Value × Value × Value=>dI [Pu (pt g=pt q.1∧ff [N] q.2.1 q.2.2.1 q.2.2.2 s),cM q.1 (dT s q.2.1 q.2.2.1 q.2.2.2) 87 (0,0),N]) N)))
def LD (root:dA) (v:Value) (_:Nat→Value):List cK:=match v with|.agg #[_,vr]=>[cR vr root]|_=>[]
def gM.dd (s:gM):iM:=⟨s.cI.length,dR (s.cI.map cZ)⟩
theorem x5:∀ {l:List dA},(∀ a∈l,a.length=32)→(dR l).length=32
 | [],_=>by rw [j0];exact jT _
 | [a],h=>by rw [mh];exact h a (an.2 rfl)
 | a::b::l,_=>by rw [je (by simp)];exact de _ _
theorem gM.AT {s:gM} (h:s.ok):s.dd.right:=by
 refine ⟨h.size,x5 fun a ha=>?_⟩;obtain ⟨b,_,rfl⟩:=aD.1 ha;exact de _ _
def gM.same (s:gM):Prop:=s.last.isSome=true∧s.dO.dd.size=s.cI.length
instance UF (s:gM):Decidable s.same:=by unfold gM.same;infer_instance
def gM.iY (seed:dA) (s:gM):gM:=if s.same then s else if s.keys<16 then { s with keys:=s.keys+1,last:=some (qZ seed s.keys s.dd) } else s
theorem Jq (g d k:Nat) (seed:dA) (s:gM) :
 Ct prog 171 #[pt g] e (db g d k seed s::R) (fun v' L'=>(s.same∨s.keys<16→∃ (N:cK) (ur up uq:Value),v'=.tuple #[.agg (dT (s.iY seed).dO ur up uq).toArray,.int .i64 0]∧ff [N] ur up uq (s.iY seed).dO∧L'=N::db g d k seed (s.iY seed)::R)∧(¬ (s.same∨s.keys<16)→v'=.tuple #[.agg (dT kT nY nY nY).toArray,.int .i64 23]∧L'=db g d k seed s::R)):=by
 refine oK fun a M ha=>?_
 obtain ⟨l1,l2⟩:=ha.len;refine bI (args:=[_]) func171 rfl ntmps171 results171 rfl ?_
 (repeat' first|refine W.rn (id:=3) (fun g2:Nat=>[(0,pt g),(2,pt g2),(3,.int .i64 0)]) (fun g2=>cM g2 (dT kT nY nY nY) 87 (0,0)::iG g d k s a M R) (fun _=>¬ s.same) ?_ ?_|refine Zb ?_|apply Zc|apply Zd|apply Ze|apply Zf|refine Yh fun _=>?_|fail)
 rotate_left
 ·refine ⟨?_⟩;rename_i g2
  (repeat (refine wA ?_;intros))
  refine bl (id:=1) [] (iG g d k s a M R) mixed ?_
  by_cases fy:s.last.isSome=true
  rotate_left
  ·have fy:s.last.isSome=false:=by simpa using fy
   (refine tM 0 ?_;refine tN 1 ?_;refine tF 2 ?_;refine tL 3 ?_;refine tM 4 ?_)
   rw [fy]
   (refine bc 5 rfl rfl zK zE rfl ?_;refine bc 6 rfl rfl zK zE rfl ?_;refine bc 7 rfl rfl zK zE rfl ?_;refine bc 8 rfl rfl zK zE rfl ?_;refine bc 9 rfl rfl zK zE rfl ?_;refine bc 10 rfl rfl zK zE rfl ?_;refine bc 11 rfl rfl zK zE rfl ?_;refine bc 12 rfl rfl zK zE rfl ?_;refine bc 13 rfl rfl zK zE rfl ?_;refine bc 14 rfl rfl zK zE rfl ?_;refine bc 15 rfl rfl zK zE rfl ?_;refine bc 16 rfl rfl zK zE rfl ?_;refine tk 17 _ rfl (bJ rfl rfl) ?_)
   refine bf zK ?_;refine wB ?_;exact bH g2 (fun q=>by have:=q.1;rw [fy] at this;cases this) zS aX
  by_cases kY:s.dO.dd.size=s.cI.length
  rotate_left
  ·(refine tM 0 ?_;refine tN 1 ?_;refine tF 2 ?_;refine tL 3 ?_;refine tM 4 ?_)
   rw [fy]
   (refine du 5 _ rfl (bw rfl) ?_;refine du 6 _ rfl (bp rfl) ?_;refine du 7 _ rfl (bb rfl) ?_;refine du 8 _ rfl (bb rfl) ?_;refine du 9 _ rfl (bb rfl) ?_;refine du 10 _ rfl (bq rfl zR) ?_;refine du 11 _ rfl (bw rfl) ?_;refine du 12 _ rfl (bp rfl) ?_;refine du 13 _ rfl (bb rfl) ?_;refine du 14 _ rfl (bq rfl zR) ?_;refine du 15 _ rfl (bO rfl) ?_;refine du 16 (.bool false) rfl (cE.no (bY rfl rfl) zn) ?_;refine tk 17 _ rfl (bM rfl rfl) ?_)
   refine bf zK ?_;refine wB ?_;exact bH g2 (fun q=>kY q.2) zS aX
  have E9:s.same:=⟨fy,kY⟩
  have xo:s.iY seed=s:=by unfold gM.iY;rw [aH E9]
  (refine tM 0 ?_;refine tN 1 ?_;refine tF 2 ?_;refine tL 3 ?_;refine tM 4 ?_)
  rw [fy]
  (refine du 5 _ rfl (bw rfl) ?_;refine du 6 _ rfl (bp rfl) ?_;refine du 7 _ rfl (bb rfl) ?_;refine du 8 _ rfl (bb rfl) ?_;refine du 9 _ rfl (bb rfl) ?_;refine du 10 _ rfl (bq rfl zR) ?_;refine du 11 _ rfl (bw rfl) ?_;refine du 12 _ rfl (bp rfl) ?_;refine du 13 _ rfl (bb rfl) ?_;refine du 14 _ rfl (bq rfl zR) ?_;refine du 15 _ rfl (bO rfl) ?_;refine du 16 (.bool true) rfl (cE.iX (bY rfl rfl) zy) ?_;refine tk 17 _ rfl (bM rfl rfl) ?_)
  refine bf zK ?_
  (repeat' first|refine Za ?_|apply Zc|apply Zd|apply Zf|refine Zg ?_|refine Zh ?_|refine Yz ?_|(apply O.dj;exact rfl;exact zP;(first|(simp only [aC,Nat.add_zero,Nat.reduceAdd,List.drop_succ_cons,List.drop_zero,List.take_succ_cons,List.take_zero];done)|(simp only [aC,Nat.add_zero,Nat.reduceAdd,List.drop_succ_cons,List.drop_zero,List.take_succ_cons,List.take_zero];exact rfl));exact rfl;exact rfl))
  refine aZ rfl rfl (iz _ e a.ur a.up a.uq s.dO (ha.last.cN (cH zP)) (gM.Gu ha.st)) ?_;rintro _ _ ⟨N,ur,up,uq,rfl,hN,rfl⟩;refine bo (cz (hN.root.cN (cH zP))) fun o3=>?_
  refine bo (hN.sig.cN (cH zP)).parts.one fun o4=>?_
  refine bo (hN.sig.cN (cH zP)).path.one fun o5=>?_
  refine wB ?_;apply bB
  ·exact zV
  exact ⟨N::db g d k seed s::R,cn (show cC _ (N::iG g d k s a M R) from zE) (bh (kz ha)),fun _=>⟨N,ur,up,uq,by rw [xo];rfl,by rw [xo];exact hN,by rw [xo]⟩,fun h=>absurd (.inl E9) h⟩
 intro g2 E9
 by_cases hk:s.keys<16
 rotate_left
 ·have I3:s.keys=16:=by have:=ha.st.keys;omega
  have ht:=vx (cM g2 (dT kT nY nY nY) 87 (0,0)::cM g (a.cells s) xS (0,0)::cU (.slice a.q.ai a.q.ts.length a.q.ci) a.q.ts::cU (.slice a.q.al a.q.us.length a.q.cl) a.q.us::kG nj a.gm (ie (a.q.ts.map (·.2)) 0)::M::iZ a.gj d s.recs.length::dl d (dM s.jb)::R) e a.gb a.gk k 1048576 zo zo;rw [← I3] at ht
  refine wB ?_;refine aZ rfl rfl (ht.cN zE) ?_;rintro _ _ ⟨rfl,rfl⟩;refine wB ?_;apply bB
  ·exact zV
  exact ⟨db g d k seed s::R,cn (show cC _ (iG g d k s a M R) from zE) (kz ha),fun h=>absurd h (fun q=>q.elim E9 hk),fun _=>⟨rfl,rfl⟩⟩
 have xo:s.iY seed={ s with keys:=s.keys+1,last:=some (qZ seed s.keys s.dd) }:=by unfold gM.iY;rw [aB E9,aH hk]
 have HT:=gM.AT ha.st;have ht:=vv (cM g2 (dT kT nY nY nY) 87 (0,0)::cM g (a.cells s) xS (0,0)::cU (.slice a.q.ai a.q.ts.length a.q.ci) a.q.ts::cU (.slice a.q.al a.q.us.length a.q.cl) a.q.us::kG nj a.gm (ie (a.q.ts.map (·.2)) 0)::M::iZ a.gj d s.recs.length::dl d (dM s.jb)::R) e a.gb a.gk k s.keys 1048576 hk zo zo;obtain ⟨s1,fy⟩:∃ s1:gM,s1={ s with keys:=s.keys+1 }:=⟨_,rfl⟩
 have Gv:a.ok M seed s1:=by
  rw [fy];exact ⟨ha.vB,ha.cI,ha.zf,ha.leaves,ha.zh,ha.last,⟨ha.st.full,ha.st.nodup,ha.st.size,ha.st.short,hk,ha.st.last⟩,ha.sd⟩
 refine wB ?_;refine aZ rfl rfl (ht.cN zE) ?_;rintro _ _ ⟨rfl,rfl⟩;refine O.fo (show cC _ (iG g d k s1 a M (cM g2 (dT kT nY nY nY) 87 (0,0)::R)) from ?_) ?_
 ·rw [fy];exact zE
 have sF:s1.cI=s.cI:=by rw [fy];rfl
 have Lx:s1.dd=s.dd:=by rw [fy];rfl
 refine wB ?_;refine W.ir [(0,pt g),(2,pt g2),(3,.int .i64 0),(4,.int .i64 (s.keys:Int)),(5,.int .i64 0)] zS ?_;refine bl (id:=6) [19] (iG g d k s1 a M R) mixed ?_
 (refine tM 0 ?_;refine tN 1 ?_;refine tF 2 ?_;refine tL 3 ?_;refine tM 4 ?_;refine tM 5 ?_;refine tN 6 ?_;refine tF 7 ?_;refine tL 8 ?_;refine tk 9 _ rfl (bO rfl) ?_;refine tM 10 ?_)
 rw [l1];have tm:dR (s.cI.map cZ)=s.dd.root:=rfl;have Tg:s.cI.length=s.dd.size:=rfl;have FL:=ha.sd;have Wo:=HT.2
 generalize Jr:qZ seed s.keys s.dd=sg at *
 generalize Qg:s.dd=ck at *
 refine A.Nz (n:=1) [
  ⟨11,54,[],[],fun v _=>∃ ad c,v=.slice ad ck.root.length c,[(0,fun v _=>[cR v ck.root])]⟩,
  ⟨12,55,[11],[0],fun v _=>∃ ad c,v=.agg (gX ck (.slice ad ck.root.length c)).toArray,[(1,LD ck.root)]⟩,
  ⟨13,56,[12],[1],fun v _=>∃ x,v=.tuple #[x,.int .i64 0],[(2,B8 sg)]⟩,
  ⟨14,42,[13],[2],fun v _=>∃ x,v=.tuple #[x,.int .i64 0],[(3,B8 sg)]⟩,
  ⟨15,57,[14],[3],fun _ _=>True,[(4,fun v _=>[Jp sg v])]⟩,
  sU 16 58 [14] (.int .i64 0),
  Ld 17 6 5 87 (dT kT nY nY nY),
  ⟨18,100018,[15,17],[4,5],fun _ _=>True,[(6,fun _ W=>[Eb sg (W 17)])]⟩] 8 rfl zK zK ?_ zE ?_
 ·refine dt ?_ (dt ?_ (dt ?_ (dt ?_ (dt ?_ (dt ?_ (dt ?_ (dt ?_ pX)))))))
  ·refine ⟨_,rfl,.inl rfl,fun V σr M1 h3 hy=>?_⟩;have hr:=(Ea (M1++(cM g2 (dT kT nY nY nY) 87 (0,0)::R)) e g d k seed s1 a M Gv).cN (HS (M:=M1) (N:=iG g d k s1 a M []) (R:=cM g2 (dT kT nY nY nY) 87 (0,0)::R));rw [sF,tm] at hr
   refine bV (show cC _ (M1++(iG g d k s1 a M (cM g2 (dT kT nY nY nY) 87 (0,0)::R))) from aX) ?_;refine bg (Nu (h3 53 _ rfl)) rfl hr ?_;rintro _ _ ⟨ad,c,rfl,rfl⟩;exact ⟨_,rfl,⟨ad,c,rfl⟩,bh (HS (M:=iG g d k s1 a M []) (N:=M1) (R:=cM g2 (dT kT nY nY nY) 87 (0,0)::R))⟩
  ·refine ⟨_,rfl,.inl rfl,fun V σr M1 h3 hy=>?_⟩;obtain ⟨Lk,ad,c,hv⟩:=hy _ (ax (i:=0) rfl) (ax (i:=0) rfl) (fE rfl);have Yv:=h3 52 _ rfl;dsimp only at Lk hv
   refine bV (show cC _ (([cR (V 11) ck.root]++[])++(M1++(iG g d k s1 a M (cM g2 (dT kT nY nY nY) 87 (0,0)::R)))) from aX) ?_;rw [hv] at Lk ⊢
   rw [Tg] at Yv
   exact bP (v:=.agg (gX ck (.slice ad ck.root.length c)).toArray) (bL (parts:=[(0,.tmp 52),(1,.tmp 54)]) (vs:=[(0,.int .i64 (ck.size:Int)),(1,.slice ad ck.root.length c)]) (by simp [tP,ev,Lk,Yv]) (by simp [Instr.fill,Value.cells])) rfl ⟨_,rfl,⟨ad,c,rfl⟩,aX⟩
  ·refine ⟨_,rfl,.inl rfl,fun V σr M1 h3 hy=>?_⟩;obtain ⟨Qh,ad,c,hv⟩:=hy _ (ax (i:=1) rfl) (ax (i:=0) rfl) (fE rfl);have s46:=h3 46 _ rfl;have s47:=h3 47 _ rfl;dsimp only at Qh hv
   refine bV (show cC _ ((LD ck.root (V 12) V++[])++(M1++(iG g d k s1 a M (cM g2 (dT kT nY nY nY) 87 (0,0)::R)))) from aX) ?_;rw [hv] at Qh ⊢
   refine bV (show cC _ (cR (.slice ad ck.root.length c) ck.root::(M1++(iG g d k s1 a M (cM g2 (dT kT nY nY nY) 87 (0,0)::R)))) from aX) ?_;have Iz:=F0 (cR (.slice ad ck.root.length c) ck.root::(M1++(iG g d k s1 a M (cM g2 (dT kT nY nY nY) 87 (0,0)::R)))) e a.vs (.slice ad ck.root.length c) seed s.keys ck (ha.vB.cN (cC.drop (cn (km M1) (cH zP)))) FL hk (ba .zero) HT;rw [Jr] at Iz
   refine bg (xs:=[.tmp 46,.tmp 47,.tmp 55]) (vs:=[a.vs,.int .i64 (s.keys:Int),.agg (gX ck (.slice ad ck.root.length c)).toArray]) (by simp [py,ev,Qh,s46,s47]) rfl Iz ?_;rintro _ _ ⟨N,ur,up,uq,rfl,hN,rfl⟩;exact ⟨_,rfl,⟨_,rfl⟩,cn (NM hN) (bh (cC.drop aX))⟩
  ·refine ⟨_,rfl,.inl rfl,fun V σr M1 h3 hy=>?_⟩;obtain ⟨Wp,x,hv⟩:=hy _ (ax (i:=2) rfl) (ax (i:=0) rfl) (fE rfl);dsimp only at Wp hv
   refine bV (show cC _ ((B8 sg (V 13) V++[])++(M1++(iG g d k s1 a M (cM g2 (dT kT nY nY nY) 87 (0,0)::R)))) from aX) ?_;rw [hv] at Wp ⊢
   exact bP (bw Wp) rfl ⟨_,rfl,⟨x,rfl⟩,aX⟩
  ·refine ⟨_,rfl,.inl rfl,fun V σr M1 h3 hy=>?_⟩;obtain ⟨Ll,x,hv⟩:=hy _ (ax (i:=3) rfl) (ax (i:=0) rfl) (fE rfl);dsimp only at Ll hv
   refine bV (show cC _ ((B8 sg (V 14) V++[])++(M1++(iG g d k s1 a M (cM g2 (dT kT nY nY nY) 87 (0,0)::R)))) from aX) ?_;rw [hv] at Ll ⊢
   exact bP (v:=x) (bn (vs:=[x,.int .i64 0]) Ll rfl) rfl ⟨_,rfl,trivial,aX⟩
  ·refine pW rfl (.inl rfl) rfl rfl fun V σr L yS hy _=>?_
   obtain ⟨Ll,x,hv⟩:=hy _ (ax (i:=3) rfl) (ax (i:=0) rfl) (fE rfl);dsimp only at Ll hv
   rw [hv] at Ll
   exact bn (vs:=[x,.int .i64 0]) Ll rfl
  ·exact BR rfl (.inl rfl) rfl rfl rfl
  ·refine ⟨_,rfl,.inl rfl,fun V σr M1 h3 hy=>?_⟩;obtain ⟨Wq,-⟩:=hy _ (ax (i:=4) rfl) (ax (i:=0) rfl) (fE rfl);obtain ⟨P9,g6,hv⟩:=hy _ (ax (i:=6) rfl) (ax (i:=1) rfl) (fE rfl);dsimp only at Wq P9 hv
   refine bV (show cC _ (([Jp sg (V 15)]++(BQ (dT kT nY nY nY) 87 (V 17) V++[]))++(M1++(iG g d k s1 a M (cM g2 (dT kT nY nY nY) 87 (0,0)::R)))) from aX) ?_;have hw:fQ [15,17] V 17=pt g6:=hv;rw [hv] at P9 ⊢
   refine bV (show cC _ (Jp sg (V 15)::cM g6 (dT kT nY nY nY) 87 (0,0)::(M1++(iG g d k s1 a M (cM g2 (dT kT nY nY nY) 87 (0,0)::R)))) from aX) ?_;unfold Jp;refine Do.Rs fun N=>?_
   refine bV cW ?_;refine Do.SG fun hN=>?_
   obtain ⟨ur,up,uq,Qi,hN⟩:=hN;rw [Qi] at Wq
   refine Do.Nv (cz (hN.root.cN (cH .zero))) fun o3=>?_
   refine Do.Nv (hN.sig.cN (cH .zero)).parts.one fun o4=>?_
   refine Do.Nv (hN.sig.cN (cH .zero)).path.one fun o5=>?_
   refine Do.ej (cs':=dT sg ur up uq) P9 Wq rfl zO zU zW ⟨.pointer none,rfl,trivial,?_⟩
   show cC _ (Eb sg (fQ [15,17] V 17)::(M1++(iG g d k s1 a M (cM g2 (dT kT nY nY nY) 87 (0,0)::R))))
   rw [hw];exact cn (show cC _ (cM g6 (dT sg ur up uq) 87 (0,0)::N::(M1++(iG g d k s1 a M (cM g2 (dT kT nY nY nY) 87 (0,0)::R)))) from bz (.succ .zero) (bh aX)) (LC hN)
 intro V hV;obtain ⟨g6,YO⟩:=hV _ (ax (i:=6) rfl);have YS:=hV _ (ax (i:=5) rfl);clear hV;dsimp only at YS YO
 refine A.fo (show cC _ (Eb sg (V 17)::iG g d k s1 a M (cM g2 (dT kT nY nY nY) 87 (0,0)::R)) from aX) ?_;simp only [kR,Nat.reduceLT,if_true,if_false,List.cons_append,List.nil_append];rw [YS,YO];unfold Eb;refine A.Rs fun N=>?_
 refine A.Rs fun ⟨g7,ur,up,uq⟩=>?_
 refine A.fo cW ?_;refine A.SG fun hN=>?_
 obtain ⟨hg7,hN⟩:=hN
 cases hg7
 dsimp only at hN ⊢
 refine A.fo (show cC _ (cM g7 (dT sg ur up uq) 87 (0,0)::N::iG g d k s1 a M (cM g2 (dT kT nY nY nY) 87 (0,0)::R)) from aX) ?_;refine A.cB (cz (hN.root.cN (cH zP))) fun o3=>?_
 refine A.cB (hN.sig.cN (cH zP)).parts.one fun o4=>?_
 refine A.cB (hN.sig.cN (cH zP)).path.one fun o5=>?_
 ((refine tO 19 ?_;refine dV (bj rfl) ?_))
 refine bf zK ?_;have NN:sg.sig.right:=by rw [← Jr];exact jh hk
 have Qj:sg.dd=ck:=by rw [← Jr];rfl
 have eW:cC [dI [M,N]] [M]:=cn (cW (M:=[M,N]) (L:=[])) (bh bK);have iH:cC [dI [M,N]] [N]:=cn (cW (M:=[M,N]) (L:=[])) (cC.drop (bh bK));obtain ⟨a2,Ku⟩:∃ a2:oJ,a2={ a with ur:=ur,up:=up,uq:=uq }:=⟨_,rfl⟩
 have HU:(s.iY seed).dO=sg:=by rw [xo];rfl
 have kQ:a2.ok (dI [M,N]) seed (s.iY seed):=by
  rw [xo,Ku];refine ⟨ha.vB.cN eW,ha.cI,fun x hx=>(ha.zf x hx).cN eW,ha.leaves,fun x hx=>(ha.zh x hx).cN eW,hN.cN iH,⟨ha.st.full,ha.st.nodup,ha.st.size,ha.st.short,hk,fun x hx=>?_⟩,ha.sd⟩
  cases hx
  rw [Qj];exact ⟨HT,NN,by rw [← Tg];exact aT _⟩
 dsimp only [iG,oJ.cells,th];refine wB ?_;refine aZ rfl rfl (iz _ e ur up uq sg (hN.cN (cH (.succ .zero))) NN.fits) ?_;rintro _ _ ⟨N2,ur2,up2,O3,rfl,m5,rfl⟩;refine bo (cz (m5.root.cN (cH zP))) fun o6=>?_
 refine bo (m5.sig.cN (cH zP)).parts.one fun o7=>?_
 refine bo (m5.sig.cN (cH zP)).path.one fun o8=>?_
 refine wB ?_;apply bB
 ·exact zV
 refine ⟨N2::db g d k seed (s.iY seed)::R,?_,fun _=>⟨N2,ur2,up2,O3,by rw [HU];rfl,by rw [HU];exact m5,rfl⟩,fun h=>absurd (.inr hk) h⟩;refine cn ?_ (bh (kz kQ));rw [xo,Ku,fy];refine cn (show cC _ (M::N::N2::cM g [pt a.gj,pt a.gb,a.vs,a.vp,.slice a.q.ai a.q.ts.length a.q.ci,.slice a.q.al a.q.us.length a.q.cl,.map (some a.gm),.int .i64 (sg.dd.size:Int),ur,.int .i64 (sg.sig.idx:Int),up,uq,.bool true] xS (0,0)::cU (.slice a.q.ai a.q.ts.length a.q.ci) a.q.ts::cU (.slice a.q.al a.q.us.length a.q.cl) a.q.us::kG nj a.gm (ie (a.q.ts.map (·.2)) 0)::iZ a.gj d s.recs.length::dl d (dM s.jb)::l3 a.gb a.gk (s.keys+1)::iZ a.gk k (s.keys+1)::dl k (eH (s.keys+1) 1048576)::R) from zE) (cn (dN (M:=[M,N])) zE)
abbrev fL:TypeId:=184
abbrev wa:TypeId:=38
def x6 (L:List cK) (vl:Value) (l:List (List UInt8)):Prop:=∃ vs:List Value,vs.length=5∧cF L 1 vl 5 vs∧∀ k w,vs[k]?=some w→j8 L w (nf l k)
theorem x6.cN {L L':List cK} {vl:Value} {l:List (List UInt8)} (h:x6 L' vl l) (f:cC L L'):x6 L vl l:=by
 obtain ⟨vs,h1,h2,h3⟩:=h;exact ⟨vs,h1,h2.cN f,fun k w hk=>(h3 k w hk).cN f⟩
theorem Ec (v:Value) (seed:List UInt8) (hv:da R v seed) (hs:seed.length≤1000) :
 Ct prog 36 #[v] e R (fun v' L'=>∃ (g:Nat) (vl:Value) (M:cK),v'=pt g∧x6 [M] vl (er seed)∧L'=cM g [v,vl] fL (0,0)::M::R):=by
 refine a7 (cF.shape hv zo) ?_;rintro ⟨⟨ot,wb,rfl,_,_,_,_⟩,_⟩;refine a8 (args:=[_]) func36 rfl ntmps36 results36 rfl ?_
 (repeat (refine wA ?_;intros))
 rename_i g;refine br (ι:=List dX × Option Addr × Nat) (fun i=>[(0,.slice ot seed.length wb),(3,pt g),(4,.slice i.2.1 i.1.length i.2.2),(5,.int .i64 (i.1.length:Int))]) (fun i=>cU (.slice i.2.1 i.1.length i.2.2) i.1::cG i.1::cM g [.slice ot seed.length wb,nY] fL (0,0)::R)
  (fun i=>i.1.length≤16∧i.1.map (·.2)=(List.range i.1.length).map (fN seed)) (fun i=>16 - i.1.length) ([],none,0) ⟨by simp,rfl⟩ zS (cn dC (di dZ 1)) ?_
 rintro ⟨out,ad,c⟩ ⟨hi,hd⟩;dsimp only at hi hd ⊢
 by_cases cQ:out.length<16
 ·refine wB ?_;refine aZ rfl rfl (vU _ e _ seed out.length (cF.cN hv zE) hs cQ) ?_;rintro _ _ ⟨dS,c2,rfl,rfl⟩
  generalize hq:fN seed out.length=b at *
  (repeat (refine wA ?_;intros))
  refine bD (bm rfl rfl rfl (show cT _ (cU (.slice ad out.length c) out) _ from zP) (bu .zero rfl zl) rfl rfl zO zm zo fun ep c3 _=>?_)
  refine wB ?_;refine bi (out++[(.slice dS b.length c2,b)],ep,c3) ⟨by rw [aa];exact cQ,by rw [ah,hd,aa,aj,List.range_succ,ah];simp [hq]⟩ (by dsimp only;rw [aa,aj];omega) ?_ ?_
  ·dsimp only;rw [aa,aj];exact zS
  ·exact cn zE eV
 have y7:out.length=16:=by omega
 have C2:out.map (·.2)=er seed:=by rw [hd,y7];rfl
 clear hd
 (repeat (refine wA ?_;intros))
 rename_i gb;refine O.fo (di wa 1) ?_;refine bD (bm rfl rfl rfl (show cT _ (dJ wa 1 nY 0 []) _ from .zero) (bu .zero rfl zl) rfl rfl zO zm zo fun dW c1 _=>?_)
 refine wB ?_;refine br (ι:=Nat × List Value × Value × cK × Option Addr × Nat) (fun i=>[(0,.slice ot seed.length wb),(3,pt g),(4,i.2.2.1)]) (fun i=>dJ wa 1 (.slice i.2.2.2.2.1 (i.1+1) i.2.2.2.2.2) (i.1+1) i.2.1::cM g [.slice ot seed.length wb,.slice i.2.2.2.2.1 (i.1+1) i.2.2.2.2.2] fL (0,0)::i.2.2.2.1::R)
  (fun i=>i.1≤4∧i.2.1.length=i.1+1∧i.2.1[i.1]?=some i.2.2.1∧∀ k w,i.2.1[k]?=some w→j8 [i.2.2.2.1] w (nf (er seed) k)) (fun i=>4 - i.1) (0,[.slice ad out.length c],.slice ad out.length c,dI [cU (.slice ad out.length c) out,cG out],dW,c1) ⟨by omega,rfl,rfl,fun k w hk=>?_⟩ zS ?_ ?_
 ·cases k with
  | zero=>cases hk;exact kq ⟨out,C2,ba .zero,dE.tail ef⟩
  | succ k=>simp at hk
 ·exact cn (show cC _ (cU (.slice ad out.length c) out::cG out::dJ wa 1 (.slice dW (0+1) c1) (0+1) [.slice ad out.length c]::cM g [.slice ot seed.length wb,.slice dW (0+1) c1] fL (0,0)::R) from zE) (cn (dN (M:=[cU (.slice ad out.length c) out,cG out])) zE)
 clear C2 y7 cQ hi;rintro ⟨j,vs,u,M,Kv,cL⟩ ⟨hj,wv,Th,NO⟩;dsimp only at hj wv Th NO ⊢
 obtain ⟨ts,fx,pa,I7⟩:=NO j u Th;have HU:=jg (gE seed) j hj;have mw:ts.length=2 ^ (4 - j):=by rw [← HU,← fx,ab]
 have abn:ts.length≤16:=by rw [mw];exact Nat.le_trans (Nat.pow_le_pow_right zo (show 4 - j≤4 by omega)) (by decide)
 have jD:∀ a∈ts,a.2.length=32:=lU fx (nH lh j)
 have Qk:cF (M::R) 1 u ts.length (ts.map (·.1)):=pa.cN (cH .zero);have Ti:dE (M::R) ts:=fun x hx=>(I7 x hx).cN (cH .zero)
 refine bG ((Qk.tail.tail).shape zo) ?_;rintro ⟨⟨mH,cu,rfl,h3,h4,h5,h6⟩,_⟩;simp only [maxLen] at h4
 by_cases HH:1<ts.length
 rotate_left
 ·have SH:j=4:=by
   apply Classical.byContradiction;intro mV;have:=Nat.one_lt_two_pow (n:=4 - j) zo
   omega
  subst SH;refine wB ?_;refine aY (cM g [.slice ot seed.length wb,.slice Kv (4+1) cL] fL (0,0)::dI [dJ wa 1 (.slice Kv (4+1) cL) (4+1) vs,M]::R) rfl (cn (show cC _ (dJ wa 1 (.slice Kv (4+1) cL) (4+1) vs::M::cM g [.slice ot seed.length wb,.slice Kv (4+1) cL] fL (0,0)::R) from zE) (cn (dN (M:=[dJ wa 1 (.slice Kv (4+1) cL) (4+1) vs,M])) zE)) ⟨g,_,_,rfl,⟨vs,wv,BM (ba .zero),fun k w hk=>kq (NO k w hk).tail⟩,rfl⟩
 have hj4:j<4:=by
  apply Classical.byContradiction;intro mV;rw [show j=4 by omega] at mw
  simp at mw
  omega
 have qy:=gO (ts.map (·.2));rw [ab] at qy
 refine wB ?_;refine br (ι:=Nat × List dX × Option Addr × Nat) (fun i=>[(0,.slice ot seed.length wb),(3,pt g),(4,.slice mH ts.length cu),(6,.slice i.2.2.1 i.2.1.length i.2.2.2),(7,.int .i64 (2*(i.1:Int)))]) (fun i=>cU (.slice i.2.2.1 i.2.1.length i.2.2.2) i.2.1::cG i.2.1::dJ wa 1 (.slice Kv (j+1) cL) (j+1) vs::cM g [.slice ot seed.length wb,.slice Kv (j+1) cL] fL (0,0)::M::R)
  (fun i=>2*i.1≤ts.length∧i.2.1.map (·.2)=(ix (ts.map (·.2))).take i.1) (fun i=>ts.length - i.1) (0,[],none,0) ⟨by omega,by simp⟩ zS (cn dC (di dZ 1)) ?_
 rintro ⟨i,us,ad,c⟩ ⟨hi,fZ⟩;dsimp only at hi fZ ⊢
 have y7:us.length=i:=by have:=congrArg List.length fZ;rw [ab,aE] at this;omega
 by_cases cQ:2*i<ts.length
 rotate_left
 ·rw [aF zo] at fZ
  (repeat (refine wA ?_;intros))
  rename_i gc;refine bD (bm rfl rfl rfl (show cT _ (dJ wa 1 (.slice Kv (j+1) cL) (j+1) vs) _ from zP) (bu .zero rfl zl) rfl rfl zO zm zo fun dS c2 _=>?_)
  refine wB ?_;refine bi (j+1,vs++[.slice ad us.length c],.slice ad us.length c,dI [M,cU (.slice ad us.length c) us,cG us],dS,c2) ⟨by omega,by rw [aa,wv];rfl,by dsimp only;rw [List.getElem?_append_right zo,wv];simp,fun k w hk=>?_⟩ zd zS ?_
  ·dsimp only at hk ⊢
   by_cases hkj:k<vs.length
   ·rw [List.getElem?_append_left hkj] at hk
    exact kq ((NO k w hk).cN zE)
   ·have yP:k=j+1:=by
     have:=(List.getElem?_eq_some_iff.1 hk).1;rw [aa,aj] at this
     omega
    subst yP;rw [List.getElem?_append_right zo,wv,Nat.sub_self] at hk
    cases hk
    exact kq ⟨us,by rw [fZ,fx];rfl,ba (.succ .zero),fun x hx=>(ef (l:=us) (R:=[]) x hx).tail.tail⟩
  ·exact cn (show cC _ (M::cU (.slice ad us.length c) us::cG us::dJ wa 1 (.slice dS (j+1+1) c2) (j+1+1) (vs++[.slice ad us.length c])::cM g [.slice ot seed.length wb,.slice dS (j+1+1) c2] fL (0,0)::R) from zE) (cn (dN (M:=[M,cU (.slice ad us.length c) us,cG us])) zE)
 have x8:2*i+1<ts.length:=by
  have:ts.length=2*2 ^ (3 - j):=by rw [mw,show 4 - j=(3 - j)+1 by omega,Nat.pow_succ];omega
  omega
 have ha:=oe (ts.map (·.2)) i (by rw [ab];exact x8);rw [eR cQ,eR x8] at ha
 have jk:∀ (w:Value) (b:List UInt8),b=(ix (ts.map (·.2))).getD i []→(us++[(w,b)]).map (·.2)=(ix (ts.map (·.2))).take (i+1):=fun w b h=>by
  rw [ah,fZ,aA zo,h]
  congr 1
  rw [aL,ae zo]
  rfl
 rcases h6 with h6|⟨gl,ol,rfl⟩
 ·omega
 have MP:Rd (M::R) ⟨gl,ol+2*i,none⟩ (ts[2*i]'cQ).1:=Qk.elem (by rw [aI,ae cQ];rfl);have Ko:Rd (M::R) ⟨gl,ol+(2*i+1),none⟩ (ts[2*i+1]'x8).1:=Qk.elem (by rw [aI,ae x8];rfl);have IX:=Ti _ (az cQ);have HE:=Ti _ (az x8);have Uy:=jD _ (az cQ);have M9:=jD _ (az x8)
 generalize ts[2*i]'cQ=y0 at *
 generalize ts[2*i+1]'x8=y1 at *
 obtain ⟨v0,b0⟩:=y0;obtain ⟨v1,b1⟩:=y1;dsimp only at MP Ko IX HE Uy M9 ha
 refine bG (cz (IX.cN zE)) fun VQ=>?_
 refine bG (cz (HE.cN zE)) fun Ru=>?_
 rw [show (2*(i:Int))=((2*i:Nat):Int) by omega];refine wB ?_;refine bl (id:=13) [14] (cG us::dJ wa 1 (.slice Kv (j+1) cL) (j+1) vs::cM g [.slice ot seed.length wb,.slice Kv (j+1) cL] fL (0,0)::M::R) mixed ?_
 (refine tM 0 ?_;refine tM 1 ?_;refine tM 2 ?_;refine tk 3 _ rfl (cE.fp rfl rfl zo) ?_;refine tL 4 ?_;refine tM 5 ?_;refine tM 6 ?_;refine tk 7 _ rfl (cE.la rfl rfl zo) ?_;refine tk 8 _ rfl (cE.fp rfl rfl zo) ?_;refine tL 9 ?_)
 refine tO 10 ?_;refine bF (n:=1) (z:=nY) (cs:=[v0,v1]) rfl rfl rfl rfl (.one (dU VQ) rfl (.one (dU Ru) rfl .nil)) rfl (fun gb=>⟨fun _=>zE,?_⟩);refine tO 11 ?_
 refine bg rfl rfl (fa _ e 14 _ [(v0,b0),(v1,b1)] (bu .zero rfl zl) (fun a ha=>by
  simp only [aQ,aO,or_false] at ha
  rcases ha with rfl|rfl
  ·exact IX.cN zE
  ·exact HE.cN zE) (fun a ha=>by
  simp only [aQ,aO,or_false] at ha
  rcases ha with rfl|rfl
  ·dsimp only;omega
  ·dsimp only;omega) (by simp)) ?_
 rintro _ _ ⟨ep,c3,rfl,rfl⟩;rw [show ez 14 ([(v0,b0),(v1,b1)].map (·.2))=ez 14 [b0,b1] from rfl,← ha]
 generalize (ix (ts.map (·.2))).getD i []=b at *
 refine ⟨fun _=>zE,?_⟩;refine tO 12 ?_;refine bF (n:=1) (z:=nY) (cs:=[.slice ep b.length c3]) rfl rfl rfl rfl (.one rfl rfl .nil) rfl (fun gc=>⟨fun _=>zE,?_⟩);refine tO 13 ?_;refine bm rfl rfl rfl (.succ (.succ (.succ .zero))) (bu .zero rfl zl) rfl rfl zO zm zo fun gZ c4 _=>⟨fun _=>zE,?_⟩
 ((refine tO 14 ?_;refine dV (bj rfl) ?_))
 refine bf zK ?_;refine wB ?_;refine bi (i+1,us++[(.slice ep b.length c3,b)],gZ,c4) ⟨by dsimp only;omega,jk _ _ rfl⟩ zd ?_ ?_
 ·dsimp only;rw [aa,aj,show (2*((i+1:Nat):Int))=((2*i:Nat):Int)+2 by omega];exact zS
 ·exact cn (show cC _ (dJ dZ 1 (.slice gZ (us.length+1) c4) (us.length+1) (us.map (·.1)++[.slice ep b.length c3])::cR (.slice ep b.length c3) b::cG us::dJ wa 1 (.slice Kv (j+1) cL) (j+1) vs::cM g [.slice ot seed.length wb,.slice Kv (j+1) cL] fL (0,0)::M::R) from zE) eV
end Go.Proofs
namespace Go.Proofs
open Go.Bs
open Tryz
theorem LF {L L':List cK} {h:dk} (f:cC L L') (x:dK L h):dK L' h:=f h x
attribute [local irreducible] Bs.cE Bs.Do Bs.O Bs.W Bs.Fin Bs.A Bs.Ct Bs.cF Bs.Rd Bs.Sat Bs.cM Bs.Ob Bs.dJ Bs.View Bs.cC Bs.Ex Bs.dI Bs.Pu Bs.eZ Bs.dK Bs.eh
theorem j8.elem {L:List cK} {v:Value} {bs:List (List UInt8)} (h:j8 L v bs) {i:Nat} (hi:i<bs.length) (hl:bs.length≤1000000):∀ hh,dK L hh→∃ (g o c:Nat) (x:Value),v=.slice (some ⟨g,o,none⟩) bs.length c∧c≤maxLen∧bs.length≤c∧Rd L ⟨g,o+i,none⟩ x∧da L x (bs.getD i []):=fun hh hs=>by
 obtain ⟨ts,rfl,pa,I7⟩:=h;have mw:ts.length=(ts.map (·.2)).length:=by rw [ab]
 obtain ⟨⟨ad,c,rfl,h3,h4,h5,h6⟩,_⟩:=pa.shape zo hh hs;rcases h6 with h6|⟨g,o,rfl⟩
 ·omega
 refine ⟨g,o,c,(ts[i]'zo).1,by rw [mw],h4,by omega,pa.elem (by rw [aI,ae zo];rfl),?_⟩;have:=I7 _ (az (show i<ts.length by omega))
 rwa [eR zo]
theorem x6.elem {L:List cK} {vl:Value} {l:List (List UInt8)} (h:x6 L vl l) (hl:l.length=16) {k:Nat} (hk:k<5):∀ hh,dK L hh→∃ (g o c:Nat) (u:Value),vl=.slice (some ⟨g,o,none⟩) 5 c∧c≤maxLen∧5≤c∧Rd L ⟨g,o+k,none⟩ u∧j8 L u (nf l k):=fun hh hs=>by
 obtain ⟨vs,wv,pa,fx⟩:=h;obtain ⟨⟨ad,c,rfl,h3,h4,h5,h6⟩,_⟩:=pa.shape zo hh hs;rcases h6 with h6|⟨g,o,rfl⟩
 ·omega
 exact ⟨g,o,c,vs[k]'zo,rfl,h4,h3,pa.elem (ae zo),fx k _ (ae zo)⟩
theorem vD (R:List cK) (e:World) (g:Nat) (v vl:Value) (seed:List UInt8) (hl:x6 R vl (er seed)) :
 Ct prog 38 #[pt g] e (cM g [v,vl] fL (0,0)::R) (fun v' L'=>da R v' (fu seed)∧L'=cM g [v,vl] fL (0,0)::R):=by
 have hk:=gE seed;have MU:=jg hk 4 zo;refine a7 (fun hh hs=>x6.elem hl hk (show 4<5 by omega) hh (kM hs)) ?_;rintro ⟨ga,oa,ca,u,rfl,tQ,rm,hr,hu⟩;refine a7 (fun hh hs=>j8.elem hu (show 0<(nf (er seed) 4).length by rw [MU];decide) (by rw [MU];decide) hh (kM hs)) ?_;rintro ⟨gb,ob,cb,x,rfl,lK,C2,KT,hx⟩;rw [MU] at *
 refine a8 (args:=[_]) func38 rfl ntmps38 results38 rfl ?_;refine bG (cz hx.tail) fun ho=>?_
 refine wB ?_;exact aY _ rfl aX ⟨hx,rfl⟩
theorem B9 (R L0:List cK) (e:World) (f0:cC R L0) (g:Nat) (v vl u:Value) (seed fY:List UInt8) (i:Nat) (hv:da R v seed) (hs:seed.length≤1000) (hi:i<16) (hl:x6 L0 vl (er seed)) (hu:da R u fY) (hm:fY.length≤1000000) :
 Ct prog 105 #[pt g,.int .i64 (i:Int),u] e (cM g [v,vl] fL (0,0)::R) (fun v' L'=>∃ (A:cK) (vp vq:Value),v'=.agg (vV (lH seed i fY) vp vq).toArray∧fK (A::L0) vp vq (lH seed i fY)∧L'=A::cM g [v,vl] fL (0,0)::R):=by
 have hk:=gE seed;have CZ:=jg hk;refine bI (args:=[_,_,_]) func105 rfl ntmps105 results105 rfl ?_
 (repeat (refine wA ?_;intros))
 rename_i g6;refine aZ rfl rfl (uy _ e v u seed fY i (cF.cN hv zE) hs hi (cF.cN hu zE) hm) ?_;rintro _ _ ⟨dW,c1,ts,rfl,fx,rfl⟩
 (repeat (refine wA ?_;intros))
 rename_i g7;refine br (ι:=Nat × List dX × Option Addr × Nat) (fun j=>[(0,pt g),(1,.int .i64 (i:Int)),(6,pt g6),(7,pt g7),(8,.int .i64 (j.1:Int))])
  (fun j=>cM g7 [.int .i64 (i:Int),.slice dW ts.length c1,.slice j.2.2.1 j.2.1.length j.2.2.2] 85 (0,0)::cU (.slice j.2.2.1 j.2.1.length j.2.2.2) j.2.1::cM g6 [.int .i64 0,nY,nY] 85 (0,0)::cU (.slice dW ts.length c1) ts::cG ts::cM g [v,vl] fL (0,0)::R)
  (fun j=>j.1≤4∧j.2.1.map (·.2)=(uk (er seed) i).take j.1∧dE L0 j.2.1) (fun j=>4 - j.1) (0,[],none,0) ⟨by omega,by simp,fun x h=>by cases h⟩ zS (cn (di dZ 1) zE) ?_
 rintro ⟨h,ps,gZ,c4⟩ ⟨hh,HG,Wr⟩;dsimp only at hh HG Wr ⊢
 have yW:ps.length=h:=by have:=congrArg List.length HG;rw [ab,aE,im] at this;omega
 by_cases cQ:h<4
 rotate_left
 ·have VV:h=4:=by omega
  subst VV;rw [aF (by rw [im];omega)] at HG
  refine wB ?_;apply bB
  ·exact zV
  refine ⟨dI [cU (.slice dW ts.length c1) ts,cG ts,cU (.slice gZ ps.length c4) ps]::cM g [v,vl] fL (0,0)::R,cn (show cC _ (cU (.slice dW ts.length c1) ts::cG ts::cU (.slice gZ ps.length c4) ps::cM g [v,vl] fL (0,0)::R) from zE) (dN (M:=[_,_,_])),dI [cU (.slice dW ts.length c1) ts,cG ts,cU (.slice gZ ps.length c4) ps],.slice dW ts.length c1,.slice gZ ps.length c4,rfl,⟨(kq ⟨ts,fx,ba .zero,dE.tail ef⟩).cN (cH .zero),⟨ps,HG,(BM (ba (.succ (.succ .zero)))).cN (cH .zero),fun x hx=>(Wr x hx).tail⟩,?_⟩,rfl⟩;refine ⟨by show i<_;omega,?_,?_⟩
  ·rw [show (lH seed i fY).parts.length=64 from kZ _ _ _];omega
  ·rw [show (lH seed i fY).path.length=4 from im _ _];omega
 have C0:i / 2 ^ h<2 ^ (4 - h):=by
  rw [Nat.div_lt_iff_lt_mul (Nat.two_pow_pos h),← Nat.pow_add,show 4 - h+h=4 by omega];exact hi
 have DE:i / 2 ^ h<16:=Nat.lt_of_le_of_lt (Nat.div_le_self _ _) hi;have SF:=Ax (i / 2 ^ h) DE;have MS:=K6 C0 zo DE;have DD:=CZ h zo;rw [← DD] at MS
 have I3:(nf (er seed) h).length≤16:=by rw [DD];exact Nat.le_trans (Nat.pow_le_pow_right zo (show 4 - h≤4 by omega)) (by decide)
 have jC:=Ay (l:=er seed) (i:=i) cQ;refine bG (fun h' ny=>x6.elem hl hk (show h<5 by omega) h' (LF (L':=L0) (cn (show cC _ R from zE) f0) ny)) ?_;rintro ⟨ga,oa,ca,w,rfl,tQ,rm,hr,hw⟩;refine bG (fun h' ny=>j8.elem hw MS zo h' (LF (L':=L0) (cn (show cC _ R from zE) f0) ny)) ?_;rintro ⟨gb,ob,cb,x,rfl,lK,C2,KT,hx⟩;refine bG (cz (hx.cN (cn (show cC _ R from zE) f0))) fun ox=>?_
 have hrR:=hr.cN f0;have abp:=KT.cN f0;have jk:(ps++[(x,(nf (er seed) h).getD ((i / 2 ^ h) ^^^ 1) [])]).map (·.2)=(uk (er seed) i).take (h+1):=by rw [ah,HG,jC];rfl
 have HV:(i:Int).fdiv (2 ^ (min ((h:Nat):Int).toNat IntKind.i64.bits))=((i / 2 ^ h:Nat):Int):=by
  rw [Int.toNat_natCast,show min h IntKind.i64.bits=h by show min h 64=h;omega];rw [Int.fdiv_eq_ediv_of_nonneg _ (by have:=Nat.two_pow_pos h;rw [show ((2:Int) ^ h)=((2 ^ h:Nat):Int) by simp];omega),show ((2:Int) ^ h)=((2 ^ h:Nat):Int) by simp]
  rfl
 have Ws:IntKind.u64.wrap ((h:Nat):Int)=((h:Nat):Int):=wrap_u64 zo zo;clear C0 jC
 generalize hzq:(nf (er seed) h).getD ((i / 2 ^ h) ^^^ 1) []=z at *
 generalize (nf (er seed) h).length=n at *
 generalize i / 2 ^ h=a at *
 generalize a ^^^ 1=x1 at *
 refine wB ?_;refine W.fo (bz (.succ .zero) aX) ?_;refine bl (id:=5) [18,19] (cM g7 [.int .i64 (i:Int),.slice dW ts.length c1,.slice gZ ps.length c4] 85 (0,0)::cM g6 [.int .i64 0,nY,nY] 85 (0,0)::cU (.slice dW ts.length c1) ts::cG ts::cM g [v,.slice (some ⟨ga,oa,none⟩) 5 ca] fL (0,0)::R) mixed ?_
 (refine tF 0 ?_;refine tL 1 ?_;refine tM 2 ?_;refine tN 3 ?_;refine tF 4 ?_;refine tL 5 ?_;refine tM 6 ?_;refine tk 7 _ rfl (cE.fp rfl rfl zo) ?_;refine tL 8 ?_;refine tM 9 ?_;refine tM 10 ?_;refine tk 11 _ rfl (cE.jv rfl) ?_)
 rw [Ws]
 (refine tk 12 _ rfl (cE.shr rfl rfl zo) ?_)
 rw [HV]
 (refine tk 13 _ rfl (cE.bits _ (by simp) rfl rfl) ?_)
 rw [SF]
 (refine tk 14 _ rfl (cE.fp rfl rfl zo) ?_;refine tL 15 ?_)
 refine tO 16 ?_;refine bF (n:=1) (z:=nY) (cs:=[x]) rfl rfl rfl rfl (.one (dU ox) rfl .nil) rfl (fun gb=>⟨fun _=>zE,?_⟩);refine tO 17 ?_;refine bm rfl rfl rfl (.succ .zero) (bu .zero rfl zl) rfl rfl zO zm zo fun Kp c5 _=>⟨fun _=>zE,?_⟩
 ((refine tO 18 ?_;refine dV (bb rfl) ?_);(refine tO 19 ?_;refine tZ ?_;refine ⟨zN,?_⟩))
 refine bf zK ?_;refine wB ?_;refine bi (h+1,ps++[(x,z)],Kp,c5) ⟨by dsimp only;omega,jk,fun y hy=>?_⟩ zd ?_ ?_
 ·rcases aJ.1 hy with h|h
  ·exact Wr y h
  ·rw [an.1 h];exact hx
 ·dsimp only;exact zS
 ·dsimp only;simp only [cU,aa,aj,ah,List.map_cons,List.map_nil];exact zE
end Go.Proofs
namespace Go.Proofs
attribute [local irreducible] Bs.cE Bs.Do Bs.O Bs.W Bs.Fin Bs.A Bs.Ct Bs.cF Bs.Rd Bs.Sat Bs.cM Bs.Ob Bs.dJ Bs.View Bs.cC Bs.Ex Bs.dI Bs.Pu Bs.eZ Bs.dK Bs.eh
open Go.Bs
open Tryz
def gM.fresh (s:gM) (l:List dA):List dA:=fj s.cI [] l
def gM.add (s:gM) (l:List dA):gM:=if s.fresh l=[] then s else { s with recs:=s.recs++[s.fresh l] }
theorem gM.AU (s:gM) (l:List dA):(s.add l).cI=s.cI++s.fresh l:=by
 unfold gM.add
 split
 ·rename_i h;rw [h,aK]
 ·simp [gM.cI]
theorem x9 {l:List dA} (h:∀ b∈l,b.length≤200):(mF l).length≤4+l.length*202:=by
 have:=xR h;unfold mF;rw [aa,cY]
 omega
theorem HW:∀ {recs:List (List dA)},(∀ r∈recs,r≠[])→(∀ b∈recs.flatten,b.length≤200)→(fi (recs.map mF)).length≤recs.flatten.length*214
 | [],_,_=>by simp [fi]
 | r::recs,h1,h2=>by
  have h3:=HW (recs:=recs) (fun x hx=>h1 x (aU _ hx)) (fun b hb=>h2 b (by rw [List.flatten_cons];exact List.mem_append_right _ hb));have h4:=x9 (l:=r) (fun b hb=>h2 b (by rw [List.flatten_cons];exact List.mem_append_left _ hb));have h5:=List.length_pos_iff.2 (h1 r (List.mem_cons_self ..))
  show (fG (mF r)++fi (recs.map mF)).length≤_
  rw [aa,gJ,List.flatten_cons,aa,Nat.add_mul]
  omega
theorem Ca:∀ l:List dA,l.length≤(fi l).length
 | []=>aT _
 | m::l=>by
  have:=Ca l
  show _≤(fG m++fi l).length
  rw [aa,gJ,aR]
  omega
theorem gM.LG {s:gM} (h:s.ok):s.jb.length≤s.cI.length*214:=HW h.full h.short
theorem Js (R:List cK) (e:World) (g d k:Nat) (seed:dA) (s:gM) (v:Value) (ls:List dX) (hv:cF R 1 v ls.length (ls.map (·.1))) (ht:dE R ls) (hl:ls.length≤1000) (hb:∀ a∈ls,a.2.length≤200) (hc:s.cI.length+(s.fresh (ls.map (·.2))).length≤256) :
 Ct prog 15 #[pt g,v] e (db g d k seed s::R) (fun v' L'=>∃ (ao:Option Addr) (co:Nat) (outs:List Nat),v'=.tuple #[.slice ao outs.length co,.int .i64 0]∧outs=(ls.map (·.2)).map (lC (s.add (ls.map (·.2))).cI)∧L'=tj (.slice ao outs.length co) outs::db g d k seed (s.add (ls.map (·.2)))::R):=by
 refine oK fun a M ha=>?_
 obtain ⟨l1,l2⟩:=ha.len;have kD:=ha.st.size;refine a8 (args:=[_,_]) func15 rfl ntmps15 results15 rfl ?_;refine wB ?_;refine aZ rfl rfl (Gr _ e g _ _ _ _ _ _ _ _ _ _ _ a.q v ls (hv.cN zE) (fun x hx=>(ht x hx).cN zE) hl zo) ?_;rintro _ _ ⟨ao,af,co,cf,fs,outs,rfl,hS,rfl⟩
 have mG:fs.map (·.2)=s.fresh (ls.map (·.2)):=by
  rw [hS.fresh,ha.cI,aF (by rw [ab];exact aT _)]
  rfl
 have CY:fs.length=(s.fresh (ls.map (·.2))).length:=by rw [← mG,ab]
 have Y6:=gM.AU s (ls.map (·.2))
 have LH:outs=(ls.map (·.2)).map (lC (s.add (ls.map (·.2))).cI):=by
  rw [Y6,← mG];apply List.ext_getElem
  ·rw [hS.len,ab,ab]
  ·intro j h1 h2;rw [hS.outs j h1,ha.cI,List.getElem_map,aL,ae (by rw [ab] at h2;exact h2)]
   rfl
 by_cases h0:fs=[]
 ·have pJ:s.add (ls.map (·.2))=s:=by unfold gM.add;rw [← mG,h0,List.map_nil,aH rfl]
  have hz:fs.length=0:=by rw [h0];rfl
  rw [pJ] at LH ⊢
  refine wB ?_;exact aY (tj (.slice ao outs.length co) outs::db g d k seed s::R) rfl (cn (show cC _ (tj (.slice ao outs.length co) outs::iG g d k s a M R) from zE) (bh (kz ha))) ⟨ao,co,outs,rfl,LH,rfl⟩
 have yV:0<fs.length:=List.length_pos_iff.2 h0;refine wB ?_;have AV:∀ x∈fs,x.2.length≤200:=fun x hx=>hb x (hS.sub x hx)
 have abq:fs.length≤256:=by omega
 have xU:=gM.LG ha.st
 have pJ:s.add (ls.map (·.2))={ s with recs:=s.recs++[fs.map (·.2)] }:=by
  unfold gM.add;rw [← mG,aB (fun q=>h0 (List.map_eq_nil_iff.1 q))]
 have Jt:=x9 (l:=fs.map (·.2)) (fun b sz=>by obtain ⟨x,hx,rfl⟩:=aD.1 sz;exact AV x hx);rw [ab] at Jt
 refine aZ rfl rfl (ji _ e) ?_;rintro _ _ ⟨gw,rfl,rfl⟩;refine wB ?_;refine aZ rfl rfl (gG _ e gw [] fs.length zo (by decide)) ?_;rintro _ _ ⟨rfl,rfl⟩;refine wB ?_;have fq:fs.take fs.length=fs:=List.take_length
 have Y7:=Ga (tj (.slice ao outs.length co) outs::cU (.slice af fs.length cf) fs::iG g d k s a M R) e gw ([]++be fs.length 4) (.slice af fs.length cf) fs fs.length (ba zP) (fun x hx=>(ht x (hS.sub x hx)).cN zE) (aT _) (by
  rw [fq,vy];have:(mF (fs.map (·.2))).length=4+(qM (fs.map (·.2))).length:=by unfold mF;rw [aa,cY]
  rw [aa,cY,List.length_nil]
  omega) (fun x hx=>by rw [fq] at hx;have:=AV x hx;omega) (fun h=>absurd h (Nat.lt_irrefl _))
 rw [fq,ay rfl,show []++be fs.length 4++jo fs=mF (fs.map (·.2)) by unfold mF;rw [vy,ab,List.nil_append]] at Y7
 refine aZ rfl rfl Y7 ?_;rintro _ _ ⟨rfl,rfl⟩
 generalize Ge:mF (fs.map (·.2))=rec at *
 refine wB ?_;refine aZ rfl rfl (hI _ e gw rec zo) ?_;rintro _ _ ⟨qN,cr,rfl,rfl⟩;have vN:s.jb.length+rec.length+8≤1048576:=by omega
 obtain ⟨p1,p2,p3⟩:=add_plain (m:=rec) (sy:=s.jb.length) vN
 have LI:=nL (cR (.slice qN rec.length cr) rec::tj (.slice ao outs.length co) outs::cU (.slice af fs.length cf) fs::cM g (a.cells s) xS (0,0)::cU (.slice a.q.ai a.q.ts.length a.q.ci) a.q.ts::cU (.slice a.q.al a.q.us.length a.q.cl) a.q.us::kG nj a.gm (ie (a.q.ts.map (·.2)) 0)::M::l3 a.gb a.gk s.keys::iZ a.gk k s.keys::dl k (eH s.keys 1048576)::R) e a.gj d s.recs.length (m3 s.jb s.jb.length) rec (.slice qN rec.length cr) (tf zo (aT _)) (ba .zero) zo (by
  have:s.recs.length≤s.jb.length:=by
   have:=xU;unfold gM.jb;exact Nat.le_trans (by simp) (Ca (s.recs.map mF))
  omega)
 rw [p1,p2,p3] at LI
 (repeat' first|refine Za ?_|refine Zb ?_|apply Zc|apply Zd|apply Ze|apply Zf|refine Zg ?_|refine Zh ?_|refine Zi ?_|refine Zj ?_|refine Zk ?_|refine Zl ?_|refine Zm ?_|refine Zn ?_|refine Zo ?_|refine Zq ?_|refine Zs ?_|refine Zt ?_|refine Zu ?_|refine Zy ?_|refine Zz ?_|refine ZG ?_|refine ZH ?_|refine ZI (fun _=>?_) fun _=>?_|refine ZM ?_|refine ZN ?_|refine ZO (fun _=>?_) fun _=>?_|refine ZP ?_|refine ZQ ?_|refine ZU ?_|refine ZV ?_|refine ZY ?_|refine ZZ ?_|refine Z6 ?_|refine Z7 ?_|refine Z8 ?_|refine Yf ?_|refine Ym ?_|refine Yz ?_|refine YA ?_|apply YC|apply YE|apply YF|refine YN ?_|refine YP ?_|(apply O.dj;exact rfl;exact zP;(first|(simp only [aC,Nat.add_zero,Nat.reduceAdd,List.drop_succ_cons,List.drop_zero,List.take_succ_cons,List.take_zero];done)|(simp only [aC,Nat.add_zero,Nat.reduceAdd,List.drop_succ_cons,List.drop_zero,List.take_succ_cons,List.take_zero];exact rfl));exact rfl;exact rfl))
 refine O.gT (us:=[pt a.gj]) (ws:=[]) rfl rfl rfl (LI.cN zE) ?_;rintro _ _ ⟨rfl,rfl⟩;refine wB ?_
 have yQ:(a.q.ts.map (·.2)++fs.map (·.2)).Nodup:=by
  rw [ha.cI,mG];exact oH (by rw [aK];exact ha.st.nodup)
 have Lz:=AP (cU (.slice af fs.length cf) fs::M::tj (.slice ao outs.length co) outs::iZ a.gj d (s.recs.length+1)::dl d (dM (s.jb++fG rec))::l3 a.gb a.gk s.keys::iZ a.gk k s.keys::dl k (eH s.keys 1048576)::R) e g (pt a.gj) (pt a.gb) a.vs a.vp a.gm (.int .i64 (s.dO.dd.size:Int)) a.ur (.int .i64 (s.dO.sig.idx:Int)) a.up a.uq (.bool s.last.isSome) a.q (.slice af fs.length cf) fs (ba .zero) (fun x hx=>(ht x (hS.sub x hx)).cN zE) yQ zo zo AV;refine aZ rfl rfl (Lz.cN zE) ?_;rintro _ _ ⟨rfl,q2,vZ,wC,BF,yY,hq3,hq4,rfl⟩;have uD:(s.add (ls.map (·.2))).cI=s.cI++fs.map (·.2):=by rw [Y6,mG]
 obtain ⟨a2,Ku⟩:∃ a2:oJ,a2={ a with q:=q2 }:=⟨_,rfl⟩
 obtain ⟨M2,Cb⟩:∃ M2:cK,M2=dI [M,cG vZ,cG wC]:=⟨_,rfl⟩
 have eW:cC [M2] [M]:=by rw [Cb];exact cn (cW (M:=[M,cG vZ,cG wC]) (L:=[])) (bh bK)
 have iH:cC [M2] [cG vZ]:=by rw [Cb];exact cn (cW (M:=[M,cG vZ,cG wC]) (L:=[])) (cC.drop (bh bK))
 have Tj:cC [M2] [cG wC]:=by rw [Cb];exact cn (cW (M:=[M,cG vZ,cG wC]) (L:=[])) (cC.drop (cC.drop (bh bK)))
 have kQ:a2.ok M2 seed (s.add (ls.map (·.2))):=by
  rw [Ku];refine ⟨ha.vB.cN eW,?_,?_,?_,?_,?_,⟨?_,?_,?_,?_,?_,?_⟩,ha.sd⟩
  ·rw [uD]
   show q2.ts.map (·.2)=_
   rw [BF,ah,ha.cI,hq3]
  ·intro x hx;rw [show (oJ.q { a with q:=q2 }).ts=q2.ts from rfl,BF] at hx
   rcases aJ.1 hx with hx|hx
   ·exact (ha.zf x hx).cN eW
   ·exact (ef (R:=[]) x hx).cN iH
  ·rw [uD]
   show q2.us.map (·.2)=_
   rw [yY,ah,ha.leaves,hq4,ah]
  ·intro x hx;rw [show (oJ.q { a with q:=q2 }).us=q2.us from rfl,yY] at hx
   rcases aJ.1 hx with hx|hx
   ·exact (ha.zh x hx).cN eW
   ·exact (ef (R:=[]) x hx).cN Tj
  ·rw [pJ];exact ha.last.cN eW
  ·rw [pJ];intro r hr;rcases aJ.1 hr with hr|hr
   ·exact ha.st.full r hr
   ·rw [an.1 hr];exact fun q=>h0 (List.map_eq_nil_iff.1 q)
  ·rw [uD,← ha.cI];exact yQ
  ·rw [uD,aa,ab];omega
  ·rw [uD];intro b sz;rcases aJ.1 sz with sz|sz
   ·exact ha.st.short b sz
   ·obtain ⟨x,hx,rfl⟩:=aD.1 sz;exact AV x hx
  ·rw [pJ];exact ha.st.keys
  ·rw [uD];intro x hx;rw [pJ] at hx
   obtain ⟨y1,y2,y3⟩:=ha.st.last x hx;exact ⟨y1,y2,by rw [aa];omega⟩
 have MR:(s.add (ls.map (·.2))).recs.length=s.recs.length+1:=by rw [pJ];simp
 have Wt:(s.add (ls.map (·.2))).jb=s.jb++fG rec:=by
  rw [pJ];unfold gM.jb;rw [ah,List.map_cons,List.map_nil,nO,Ge]
 have O4:(s.add (ls.map (·.2))).keys=s.keys:=by rw [pJ]
 have CZ:(s.add (ls.map (·.2))).last=s.last:=by rw [pJ]
 have HU:(s.add (ls.map (·.2))).dO=s.dO:=by unfold gM.dO;rw [CZ]
 refine wB ?_;refine aY (tj (.slice ao outs.length co) outs::db g d k seed (s.add (ls.map (·.2)))::R) rfl (cn ?_ (bh (kz kQ))) ⟨ao,co,outs,rfl,LH,rfl⟩;unfold iG oJ.cells;rw [MR,Wt,O4,CZ,HU,Ku,Cb];exact cn (show cC _ (M::cG vZ::cG wC::tj (.slice ao outs.length co) outs::cM g (th (pt a.gj) (pt a.gb) a.vs a.vp a.gm [.int .i64 (s.dO.dd.size:Int),a.ur,.int .i64 (s.dO.sig.idx:Int),a.up,a.uq,.bool s.last.isSome] q2) xS (0,0)::cU (.slice q2.ai q2.ts.length q2.ci) q2.ts::cU (.slice q2.al q2.us.length q2.cl) q2.us::kG nj a.gm (ie (q2.ts.map (·.2)) 0)::iZ a.gj d (s.recs.length+1)::dl d (dM (s.jb++fG rec))::l3 a.gb a.gk s.keys::iZ a.gk k s.keys::dl k (eH s.keys 1048576)::R) from zE) (cn (dN (M:=[M,cG vZ,cG wC])) zE)
theorem Gw (R:List cK) (e:World) (d k:Nat) (v:Value) (seed:dA) (s:gM) (hv:da R v seed) (FL:seed.length=32) (hs:s.ok) :
 Ct prog 12 #[pt d,pt k,v] e (dl d (dM s.jb)::dl k (eH s.keys 1048576)::R) (fun v' L'=>∃ g,v'=.tuple #[pt g,.int .i64 0]∧L'=db g d k seed { s with last:=none }::R):=by
 have xU:=gM.LG hs;have kD:=hs.size;have Wu:=hs.keys;refine a7 (cF.shape (hv.cN (show cC (dl d (dM s.jb)::dl k (eH s.keys 1048576)::R) R from zE)) zo) ?_;rintro ⟨⟨ad,cap,rfl,h3,h4,h5,h6⟩,_⟩
 have Gx:∀ m∈s.recs.map mF,m.length≤65535:=fun m hm=>by
  obtain ⟨r,hr,rfl⟩:=aD.1 hm;have h1:=x9 (l:=r) (fun b hb=>hs.short b (List.mem_flatten.2 ⟨r,hr,hb⟩))
  have h2:r.length≤s.cI.length:=by
   obtain ⟨A,B,h⟩:=List.append_of_mem hr;unfold gM.cI;rw [h]
   simp
   omega
  omega
 have D4:=nP (s.recs.map mF) Gx;refine a8 (args:=[_,_,_]) func12 rfl ntmps12 results12 rfl ?_;refine wB ?_;refine aZ rfl rfl (Ct.at (.succ .zero) (vo _ e k s.keys 1048576 Wu zo zo)) ?_;rintro _ _ ⟨gb,gk,rfl,rfl⟩;refine wB ?_;refine aZ rfl rfl (Ct.at (.succ (.succ (.succ .zero))) (m2 _ e d s.jb zo)) ?_;rintro _ _ (⟨h1,-⟩|⟨-,gj,qN,cr,ts,rfl,fx,rfl⟩)
 ·rw [show dz s.jb=dz (fi (s.recs.map mF)) from rfl,D4] at h1;cases h1
 rw [show dz s.jb=dz (fi (s.recs.map mF)) from rfl,D4] at fx ⊢
 rw [show s.jb.take (fi (s.recs.map mF)).length=s.jb from List.take_length];dsimp only at fx
 have mw:ts.length=s.recs.length:=by have:=congrArg List.length fx;rw [ab,ab] at this;exact this
 refine wB ?_;refine aZ rfl rfl (dy _ e _ seed (hv.cN zE) zo) ?_;rintro _ _ ⟨yT,cs,rfl,rfl⟩
 (repeat (refine wA ?_;intros))
 refine aZ rfl rfl (lV _ e _ seed (hv.cN zE) FL) ?_;rintro vp _ ⟨Mp,rfl,Fa⟩;refine bo (cF.shape (Fa.cN (cH zP)) zo) ?_;rintro ⟨⟨re,cp,rfl,-,-,-,-⟩,_⟩
 (repeat' first|refine Za ?_|refine Zb ?_|apply Zc|apply Zd|apply Ze|apply Zf|refine Zi ?_|refine Zj ?_|refine Zk ?_|refine Zl ?_|refine Zm ?_|refine Zn ?_|refine Zo ?_|refine Zu ?_|refine Zy ?_|refine Zz ?_|refine ZA ?_|refine ZB ?_|refine ZC (fun _=>?_) fun _=>?_|refine ZP ?_|refine ZQ ?_|refine ZS ?_|refine Ye ?_|refine Yg fun _=>?_|refine Ym ?_|refine Yw ?_|refine Yx ?_|refine Yy ?_|refine Yz ?_|refine YA ?_|apply YB|apply YC|apply YD|apply YE|apply YF|apply YG|apply YH|apply YI|apply YJ|refine YK ?_|refine YN ?_|(apply O.dj;exact rfl;exact zP;(first|(simp only [aC,Nat.add_zero,Nat.reduceAdd,List.drop_succ_cons,List.drop_zero,List.take_succ_cons,List.take_zero];done)|(simp only [aC,Nat.add_zero,Nat.reduceAdd,List.drop_succ_cons,List.drop_zero,List.take_succ_cons,List.take_zero];exact rfl));exact rfl;exact rfl))
 refine bD (Do.p6 nj rfl fun gm=>?_)
 (repeat (refine wA ?_;intros))
 rename_i g0;refine br (ι:=Nat × xT) (fun i=>[(12,pt g0),(46,.slice qN ts.length cr),(47,.int .i64 (ts.length:Int)),(48,.int .i64 (i.1:Int))]) (fun i=>ky g0 (pt gj) (pt gb) (.slice yT seed.length cs) (.slice re (fu seed).length cp) gm [.int .i64 0,nY,.int .i64 0,nY,nY,.bool false] i.2 (cG i.2.ts::cG i.2.us::cG ts::cU (.slice qN ts.length cr) ts::cR (.slice yT seed.length cs) seed::Mp::iZ gj d ts.length::dl d (dM s.jb)::l3 gb gk s.keys::iZ gk k s.keys::dl k (eH s.keys 1048576)::R)) (fun i=>i.1≤ts.length∧i.2.ts.map (·.2)=(s.recs.take i.1).flatten∧i.2.us.map (·.2)=(s.recs.take i.1).flatten.map cZ) (fun i=>ts.length - i.1) (0,⟨[],[],none,0,none,0⟩) ⟨aG _,by simp,by simp⟩ zS (cn (dC) (cn dC (cn (di dZ 1) (cn (di dZ 1) zE)))) ?_;rintro ⟨i,q⟩ ⟨hi,BF,yY⟩;dsimp only at hi BF yY ⊢
 by_cases cQ:i<ts.length
 rotate_left
 ·rw [aF zo] at BF yY
  obtain ⟨M,hM⟩:∃ M:cK,M=dI [cG q.ts,cG q.us,cR (.slice yT seed.length cs) seed,Mp]:=⟨_,rfl⟩
  have f1:cC [M] [cG q.ts]:=by rw [hM];exact cn (cW (M:=[_,_,_,_]) (L:=[])) (bh bK)
  have f2:cC [M] [cG q.us]:=by rw [hM];exact cn (cW (M:=[_,_,_,_]) (L:=[])) (cC.drop (bh bK))
  have f3:cC [M] [cR (.slice yT seed.length cs) seed]:=by rw [hM];exact cn (cW (M:=[_,_,_,_]) (L:=[])) (cC.drop (cC.drop (bh bK)))
  have kQ:oJ.ok ⟨gj,gb,gk,gm,.slice yT seed.length cs,.slice re (fu seed).length cp,q,nY,nY,nY⟩ M seed { s with last:=none } :=
   ⟨cF.cN (ba .zero) f3,BF,fun x hx=>(ef (R:=[]) x hx).cN f1,yY,fun x hx=>(ef (R:=[]) x hx).cN f2,⟨cF.nil _ _,⟨⟨[],rfl,cF.nil _ _,fun x hx=>by cases hx⟩,⟨[],rfl,cF.nil _ _,fun x hx=>by cases hx⟩,⟨by show (0:Nat)<_;decide,by show (0:Nat)≤_;decide,by show (0:Nat)≤_;decide⟩⟩,⟨by show (0:Nat)<_;decide,by show (0:Nat)≤_;decide⟩⟩,⟨hs.full,hs.nodup,hs.size,hs.short,hs.keys,fun x hx=>by cases hx⟩,FL⟩
  refine wB ?_;refine aY (db g0 d k seed { s with last:=none }::R) rfl (cn ?_ (kz kQ)) ⟨g0,rfl,rfl⟩;rw [hM,mw];exact cn (show cC _ (cG q.ts::cG q.us::cR (.slice yT seed.length cs) seed::Mp::ky g0 (pt gj) (pt gb) (.slice yT seed.length cs) (.slice re (fu seed).length cp) gm [.int .i64 0,nY,.int .i64 0,nY,nY,.bool false] q (iZ gj d s.recs.length::dl d (dM s.jb)::l3 gb gk s.keys::iZ gk k s.keys::dl k (eH s.keys 1048576)::R)) from zE) (cn (dN (M:=[_,_,_,_])) zE)
 have oI:i<s.recs.length:=by omega
 have js:(ts[i]'cQ).2=mF (s.recs[i]'oI):=by
  have:=congrArg (fun l=>l[i]?) fx;simp only [aI,ae cQ,ae oI,Option.map_some,Option.some.injEq] at this
  exact this
 have Ju:(s.recs[i]'oI)∈s.recs:=az oI
 have vN:s.cI=(s.recs.take i).flatten++((s.recs[i]'oI)++(s.recs.drop (i+1)).flatten):=by
  unfold gM.cI
  conv=>lhs;rw [← List.take_append_drop i s.recs,List.drop_eq_getElem_cons oI]
  rw [List.flatten_append,List.flatten_cons]
 have fq:(s.recs.take (i+1)).flatten=(s.recs.take i).flatten++(s.recs[i]'oI):=by
  rw [aA oI,List.flatten_append,List.flatten_cons,List.flatten_nil,aK]
 have mV:=hs.full _ Ju;have IC:∀ b∈(s.recs[i]'oI),b.length≤200:=fun b hb=>hs.short b (List.mem_flatten.2 ⟨_,Ju,hb⟩)
 have yQ:=hs.nodup;rw [vN,← aM] at yQ
 have BO:=(List.nodup_append.1 yQ).1
 have Wv:(s.recs.take i).flatten.length+(s.recs[i]'oI).length≤256:=by
  rw [vN,aa,aa] at kD
  omega
 have Ww:q.ts.length=(s.recs.take i).flatten.length:=by have:=congrArg List.length BF;rwa [ab] at this
 have hqu:q.us.length=(s.recs.take i).flatten.length:=by have:=congrArg List.length yY;rwa [ab,ab] at this
 generalize s.recs[i]'oI=rc at *
 refine bG ((ba (show cT _ (cU (.slice qN ts.length cr) ts) _ from zP)).shape zo) ?_;rintro ⟨⟨lE,c',lG,yS,HX,zi,tS⟩,_⟩
 cases lG
 simp only [maxLen] at HX
 rcases tS with tS|⟨gl,ol,rfl⟩
 ·omega
 have kh:∀ L R',cT L (cU (.slice (some ⟨gl,ol,none⟩) ts.length cr) ts) R'→Rd L ⟨gl,ol+i,none⟩ (ts[i]'cQ).1:=fun L R' p=>(ba p).elem (by rw [aI,ae cQ];rfl)
 have sF:∀ L R',cT L (cG ts) R'→da L (ts[i]'cQ).1 (ts[i]'cQ).2:=fun L R' p=>dE.ea p _ (az cQ)
 generalize ts[i]'cQ=y at *
 obtain ⟨yv,b⟩:=y;dsimp only at kh sF js
 subst js;refine wB ?_;refine b7 rfl (kh _ _ zP) rfl ?_;refine wB ?_;refine aZ rfl rfl (Gq _ e yv rc (sF _ _ zP) mV zo IC) ?_;rintro _ _ ⟨P0,cb,bt,rfl,O5,rfl⟩;refine wB ?_;have nZ:bt.length=rc.length:=by rw [← O5,ab]
 have Lz:=AP (cU (.slice P0 bt.length cb) bt::cG bt::cG q.ts::cG q.us::cG ts::cU (.slice (some ⟨gl,ol,none⟩) ts.length cr) ts::cR (.slice yT seed.length cs) seed::Mp::iZ gj d ts.length::dl d (dM s.jb)::l3 gb gk s.keys::iZ gk k s.keys::dl k (eH s.keys 1048576)::R) e g0 (pt gj) (pt gb) (.slice yT seed.length cs) (.slice re (fu seed).length cp) gm (.int .i64 0) nY (.int .i64 0) nY nY (.bool false) q (.slice P0 bt.length cb) bt (ba .zero) (dE.ea (.succ .zero)) (by rw [BF,O5];exact BO) zo zo (fun x hx=>IC _ (by rw [← O5];exact aD.2 ⟨x,hx,rfl⟩));refine aZ rfl rfl (Lz.cN zE) ?_;rintro _ _ ⟨rfl,q2,vZ,wC,e1,e2,e3,e4,rfl⟩;refine wB ?_;refine bi (i+1,q2) ⟨cQ,by dsimp only;rw [e1,ah,BF,e3,O5,fq],by dsimp only;rw [e2,ah,yY,e4,O5,fq,ah]⟩ zd zS ?_;dsimp only
 have ex1:cC (cG q.ts::cG vZ::cG q.us::cG wC::ky g0 (pt gj) (pt gb) (.slice yT seed.length cs) (.slice re (fu seed).length cp) gm [.int .i64 0,nY,.int .i64 0,nY,nY,.bool false] q2 (cG ts::cU (.slice (some ⟨gl,ol,none⟩) ts.length cr) ts::cR (.slice yT seed.length cs) seed::Mp::iZ gj d ts.length::dl d (dM s.jb)::l3 gb gk s.keys::iZ gk k s.keys::dl k (eH s.keys 1048576)::R)) (cG q2.ts::cG q2.us::ky g0 (pt gj) (pt gb) (.slice yT seed.length cs) (.slice re (fu seed).length cp) gm [.int .i64 0,nY,.int .i64 0,nY,nY,.bool false] q2 (cG ts::cU (.slice (some ⟨gl,ol,none⟩) ts.length cr) ts::cR (.slice yT seed.length cs) seed::Mp::iZ gj d ts.length::dl d (dM s.jb)::l3 gb gk s.keys::iZ gk k s.keys::dl k (eH s.keys 1048576)::R)):=by
  rw [show cG q2.ts=cG (q.ts++vZ) by rw [e1],show cG q2.us=cG (q.us++wC) by rw [e2]];exact cn eK (bh eK)
 exact cn (show cC _ (cG q.ts::cG vZ::cG q.us::cG wC::ky g0 (pt gj) (pt gb) (.slice yT seed.length cs) (.slice re (fu seed).length cp) gm [.int .i64 0,nY,.int .i64 0,nY,nY,.bool false] q2 (cG ts::cU (.slice (some ⟨gl,ol,none⟩) ts.length cr) ts::cR (.slice yT seed.length cs) seed::Mp::iZ gj d ts.length::dl d (dM s.jb)::l3 gb gk s.keys::iZ gk k s.keys::dl k (eH s.keys 1048576)::R)) from zE) (cn ex1 zE)
end Go.Proofs
namespace Go.Proofs
open Go.Bs
attribute [local irreducible] Bs.cE Bs.Do Bs.O Bs.W Bs.Fin Bs.A Bs.Ct Bs.cF Bs.Rd Bs.Sat Bs.cM Bs.Ob Bs.dJ Bs.View Bs.cC Bs.Ex Bs.dI Bs.Pu Bs.eZ Bs.dK Bs.eh
open Tryz
variable (R:List cK) (e:World)
structure jG where
 v:Value
 b:List UInt8
 iB:Int
def jG.cells (m:jG):List Value:=[m.v,.int .i64 m.iB]
def jG.t (m:jG):dX:=(m.v,m.b)
abbrev Jv:TypeId:=368
abbrev dZ:TypeId:=30
theorem LJ (m:jG):m.cells.length=2:=rfl
theorem Ed {l:List jG} (h:∀ m∈l,m.v.oneCell'=true):∀ c∈l.flatMap jG.cells,c.oneCell'=true:=rv fun m hm c hc=>by
 simp only [jG.cells,aQ,aO,or_false] at hc
 rcases hc with rfl|rfl
 ·exact h m hm
 ·rfl
abbrev p8 (v:Value) (l:List jG):cK:=dJ Jv 2 v l.length (l.flatMap jG.cells)
abbrev cU (v:Value) (l:List dX):cK:=dJ dZ 1 v l.length (l.map (·.1))
def LK (g r s w:Nat) (l:List jG) (ad:Option Addr) (c:Nat):cK:=dI [cM g [.int .i64 (r:Int),.int .i64 (s:Int),.int .i64 (w:Int),.slice ad l.length c] 370 (0,0),p8 (.slice ad l.length c) l,cG (l.map jG.t)]
def wF (g r s w:Nat) (l:List jG):cK:=Ex fun ad=>Ex fun c=>LK g r s w l ad c
section
variable {g r s w:Nat} {l:List jG} {R:List cK} {P:Program} {e:World}
theorem qD {f:FuncId} {args:Array Value} {Post:Value→List cK→Prop}
 (h:∀ ad c,Ct P f args e (cM g [.int .i64 (r:Int),.int .i64 (s:Int),.int .i64 (w:Int),.slice ad l.length c] 370 (0,0)::p8 (.slice ad l.length c) l::cG (l.map jG.t)::R) Post):Ct P f args e (wF g r s w l::R) Post :=
 Ct.ex .zero fun ad=>Ct.ex .zero fun c=>(h ad c).cN cW
theorem kA {c:Nat} {ad:Option Addr}:cC (cM g [.int .i64 (r:Int),.int .i64 (s:Int),.int .i64 (w:Int),.slice ad l.length c] 370 (0,0)::p8 (.slice ad l.length c) l::cG (l.map jG.t)::R) (wF g r s w l::R) :=
 cn (dN (M:=[_,_,_])) (cn (fI (f:=fun c=>LK g r s w l ad c) c) (fI (f:=fun ad=>Ex fun c=>LK g r s w l ad c) ad))
theorem Jw:cC (wF g r s w l::R) (cG (l.map jG.t)::R):=tW fun ad=>tW fun c=>cW.trans zE
end
theorem ya {v:Value} {l:List jG} {L R:List cK} (p:cT L (p8 v l) R):∀ h,dK L h→∃ ad c,v=.slice ad l.length c∧l.length≤c∧c≤maxLen∧((ad=none∧c=0∧l.length=0)∨∃ g,ad=some ⟨g,0,none⟩):=fun h x=>by
 obtain ⟨⟨ad,c,h1,h2,h3,h4⟩,_⟩:=gx p h x;exact ⟨ad,c,h1,h2,h3,h4⟩
theorem yc {v:Value} {l:List dX} {L R:List cK} (p:cT L (cU v l) R):∀ h,dK L h→∃ ad c,v=.slice ad l.length c∧l.length≤c∧c≤maxLen∧((ad=none∧c=0∧l.length=0)∨∃ g,ad=some ⟨g,0,none⟩):=fun h x=>by
 obtain ⟨⟨ad,c,h1,h2,h3,h4⟩,_⟩:=gx p h x;exact ⟨ad,c,h1,h2,h3,h4⟩
theorem AW {l:List dX} {R:List cK} (ht:dE R l):∀ h,dK R h→∀ m∈l,m.1.oneCell'=true:=fun h x m hm=>cz (ht m hm) h x
theorem Ee {g r s w:Nat} {l:List jG} {R:List cK}:∀ h,dK (wF g r s w l::R) h→∀ m∈l,m.v.oneCell'=true :=
 Br (fun h x m hm=>cz (ef (R:=R) m.t (aD.2 ⟨m,hm,rfl⟩)) h x) Jw
theorem Jx (r s w:Nat) (h:(1≤r∧r≤16)∧(1≤s∧s≤8)∧w≤1000) :
 Ct prog 279 #[.int .i64 r,.int .i64 s,.int .i64 w] e R (fun v' L'=>∃ g,v'=.tuple #[pt g,.int .i64 0]∧L'=wF g r s w []::R):=by
 refine a8 (args:=[_,_,_]) func279 rfl ntmps279 results279 rfl ?_
 (repeat (refine wA ?_;intros))
 exact aY _ rfl ((bh ((di Jv 2).trans (bh dC))).trans (kA (l:=[]))) ⟨_,rfl,rfl⟩
theorem Jy (g r s w:Nat) (l:List jG) :
 Ct prog 240 #[pt g] e (wF g r s w l::R) (fun v' L'=>v'=.int .i64 (l.length:Int)∧L'=wF g r s w l::R):=by
 refine qD fun ad c=>?_
 refine a8 (args:=[_]) func240 rfl ntmps240 results240 rfl ?_;refine wB ?_;exact aY _ rfl kA ⟨rfl,rfl⟩
theorem Jz (g r s w:Nat) (l:List jG) (v:Value) (b:List UInt8) (now:Int) (hr:da (wF g r s w l::R) v b) (hb:b.length≤140737488351232) (hl:l.length≤r+2000) (hn:r≤1000) :
 Ct prog 241 #[pt g,v,.int .i64 now] e (wF g r s w l::R)
  (fun v' L'=>(l.length<r∧v'=.int .i64 0∧∃ v2,L'=wF g r s w (l++[⟨v2,b,now⟩])::R)∨(¬ l.length<r∧v'=.int .i64 20∧L'=wF g r s w l::R)):=by
 refine a7 (cz hr) ?_;intro h1;refine qD fun ad c=>?_
 refine a8 (args:=[_,_,_]) func241 rfl ntmps241 results241 rfl ?_
 by_cases cQ:l.length<r
 ·have pK:=hr.cN (kA (R:=R) (g:=g) (r:=r) (s:=s) (w:=w) (l:=l) (ad:=ad) (c:=c))
  (repeat' first|refine Zb ?_|apply Zc|apply Zd|apply Ze|apply Zf|refine YA ?_|apply YC|(refine bE (id:=1) [] mixed ?_;all_goals (refine tM 0 ?_);all_goals (refine tN 1 ?_);all_goals (refine tF 2 ?_);all_goals (refine tL 3 ?_);all_goals (refine tk 4 _ rfl (bO rfl) ?_);all_goals (refine tM 5 ?_);all_goals (refine tN 6 ?_);all_goals (refine tF 7 ?_);all_goals (refine tL 8 ?_);all_goals (first|refine tk 9 (.bool true) rfl (cE.iX (bU rfl rfl) zy) ?_|refine tk 9 (.bool false) rfl (cE.no (bU rfl rfl) zn) ?_);all_goals (refine bf zK ?_)))
  refine bl (id:=3) [11,12,13] [cM g [.int .i64 (r:Int),.int .i64 (s:Int),.int .i64 (w:Int),.slice ad l.length c] 370 (0,0)] mixed ?_;refine tM 0 ?_;refine tM 1 ?_;refine tN 2 ?_;refine tF 3 ?_;refine tL 4 ?_;refine tM 5 ?_;refine tM 7 ?_;refine tO 6 ?_;refine bg rfl rfl (dy _ e _ b pK zo) ?_;rintro _ _ ⟨dS,c2,rfl,rfl⟩;refine ⟨fun _=>zE,?_⟩;refine tO 8 ?_;refine bP (bL (cells:=[.slice dS b.length c2,.int .i64 now]) rfl zF) rfl ⟨fun _=>zE,?_⟩;refine tO 9 ?_;refine bF (n:=2) rfl rfl rfl rfl zQ rfl (fun g2=>⟨fun _=>zE,?_⟩);refine tO 10 ?_;refine bm rfl rfl rfl zP (bQ (n:=2) (c:=1) .zero rfl zl) rfl rfl zO zm zo fun ep c3 _=>⟨fun _=>zE,?_⟩
  ((refine tO 11 ?_;refine dV (bp rfl) ?_);(refine tO 12 ?_;refine dV (bb rfl) ?_);(refine tO 13 ?_;refine tZ ?_;refine ⟨zN,?_⟩))
  refine bf zK ?_;refine wB ?_;refine aY (wF g r s w (l++[⟨.slice dS b.length c2,b,now⟩])::R) rfl (cn (show cC _ (cR (.slice dS b.length c2) b::cG (l.map jG.t)::cM g [.int .i64 (r:Int),.int .i64 (s:Int),.int .i64 (w:Int),.slice ep (l.length+1) c3] 370 (0,0)::dJ Jv 2 (.slice ep (l.length+1) c3) (l.length+1) (l.flatMap jG.cells++[.slice dS b.length c2,.int .i64 now])::R) from zE) (cn (jx (a:=(.slice dS b.length c2,b))) (cn (bz (.succ .zero) aX) ?_))) (.inl ⟨cQ,rfl,_,rfl⟩);refine cn eK (cn ?_ (kA (ad:=ep) (c:=c3)));simp only [p8,aa,aj,aW,aV,List.flatMap_nil,aK,ah,List.map_cons,List.map_nil];exact zE
 ·(repeat' first|refine Zb ?_|apply Zc|apply Zd|apply Ze|apply Zf|refine Yz ?_|apply YE|apply YF|(refine bE (id:=1) [] mixed ?_;all_goals (refine tM 0 ?_);all_goals (refine tN 1 ?_);all_goals (refine tF 2 ?_);all_goals (refine tL 3 ?_);all_goals (refine tk 4 _ rfl (bO rfl) ?_);all_goals (refine tM 5 ?_);all_goals (refine tN 6 ?_);all_goals (refine tF 7 ?_);all_goals (refine tL 8 ?_);all_goals (first|refine tk 9 (.bool true) rfl (cE.iX (bU rfl rfl) zy) ?_|refine tk 9 (.bool false) rfl (cE.no (bU rfl rfl) zn) ?_);all_goals (refine bf zK ?_)))
  exact aY _ rfl kA (.inr ⟨cQ,rfl,rfl⟩)
def due (l:List jG) (s w:Nat) (now:Int):Bool:=match l with
 | []=>false
 | i::_=>decide (s≤l.length∨i.iB = -9223372036854775808∨(i.iB≤now∧(w:Int)≤now - i.iB))
theorem LL {a b:Int} (ha:-9223372036854775808≤a∧a≤9223372036854775807) (hb:-9223372036854775808≤b∧b≤9223372036854775807) (h:a≤b):IntKind.u64.wrap (IntKind.u64.wrap b - IntKind.u64.wrap a)=b - a:=by
 unfold IntKind.wrap;simp only [IntKind.bits,IntKind.signed]
 simp
 omega
theorem NP {w:Nat} (h:w≤1000):IntKind.u64.wrap (w:Int)=w:=by
 unfold IntKind.wrap;simp only [IntKind.bits,IntKind.signed]
 simp
 omega
theorem JA (g r s w:Nat) (l:List jG) (now:Int) (hw:w≤1000) (hl:l.length≤100000) (hs:s≤1000) (hn:-9223372036854775808≤now∧now≤9223372036854775807) (ha:∀ m∈l,-9223372036854775808≤m.iB∧m.iB≤9223372036854775807) :
 Ct prog 242 #[pt g,.int .i64 now] e (wF g r s w l::R) (fun v' L'=>v'=.bool (due l s w now)∧L'=wF g r s w l::R):=by
 refine qD fun ad c=>?_
 refine a7 (ya (.succ .zero)) ?_;rintro ⟨_,_,hv,hc,hm,hg⟩
 cases hv
 refine a8 (args:=[_,_]) func242 rfl ntmps242 results242 rfl ?_
 cases l with
 | nil =>
  have h0:((([]:List jG).length:Nat):Int)=0:=rfl;refine wB ?_;exact aY _ rfl kA ⟨rfl,rfl⟩
 | cons i l =>
  have hlen:((i::l).length:Int)=l.length+1:=by simp
  have Tk:(i::l).length=l.length+1:=by simp
  rcases hg with ⟨_,_,h0⟩|⟨g1,rfl⟩
  ·simp at h0
  have hi:=ha i (List.mem_cons_self ..);have q1:Rd (p8 (.slice (some ⟨g1,0,none⟩) (i::l).length c) (i::l)::cG ((i::l).map jG.t)::R) ⟨g1,0+0*2+1,none⟩ (.int .i64 i.iB):=(eh.elem (ba .zero) LJ (j:=0) rfl).Na rfl;have hd:due (i::l) s w now=decide (s≤(i::l).length∨i.iB = -9223372036854775808∨(i.iB≤now∧(w:Int)≤now - i.iB)):=rfl;rw [hd]
  by_cases h1:s≤(i::l).length
  ·(repeat' first|refine Za ?_|refine Zb ?_|apply Zc|apply Zd|apply Ze|apply Zf|refine Zg ?_|refine Zh ?_|refine Zi ?_|refine Zk ?_|refine ZN ?_|refine Yz ?_|refine YA ?_|apply YB|apply YE|apply YF|apply YI|(refine bE (id:=3) [] mixed ?_;all_goals (refine tM 0 ?_);all_goals (refine tN 1 ?_);all_goals (refine tF 2 ?_);all_goals (refine tL 3 ?_);all_goals (refine tk 4 _ rfl (bO rfl) ?_);all_goals (refine tM 5 ?_);all_goals (refine tN 6 ?_);all_goals (refine tF 7 ?_);all_goals (refine tL 8 ?_);all_goals (first|refine tk 9 (.bool true) rfl (cE.iX (bU rfl rfl) zy) ?_|refine tk 9 (.bool false) rfl (cE.no (bU rfl rfl) zn) ?_);all_goals (refine tM 10 ?_);all_goals (first|refine du 11 _ rfl (bw rfl) ?_|refine bc 11 rfl rfl zK aX rfl ?_);all_goals (first|refine du 12 _ rfl (bp rfl) ?_|refine bc 12 rfl rfl zK aX rfl ?_);all_goals (first|refine du 13 _ rfl (bb rfl) ?_|refine bc 13 rfl rfl zK aX rfl ?_);all_goals (first|refine du 14 _ rfl (bq rfl zR) ?_|refine bc 14 rfl rfl zK aX rfl ?_);all_goals (first|refine du 15 _ rfl (bT rfl rfl zo zo) ?_|refine bc 15 rfl rfl zK aX rfl ?_);all_goals (first|refine du 16 _ rfl (bb rfl) ?_|refine bc 16 rfl rfl zK aX rfl ?_);all_goals (first|refine du 17 _ rfl (bq rfl zR) ?_|refine bc 17 rfl rfl zK aX rfl ?_);all_goals (first|refine du 18 (.bool true) rfl (cE.iX (bY rfl rfl) zy) ?_|refine du 18 (.bool false) rfl (cE.no (bY rfl rfl) zn) ?_|refine bc 18 rfl rfl zK aX rfl ?_);all_goals (first|refine tk 19 _ rfl (bM rfl rfl) ?_|refine tk 19 _ rfl (bJ rfl rfl) ?_);all_goals (refine tA 20 ?_);all_goals (refine bf zK ?_)))
   exact aY _ rfl kA ⟨by rw [ay zo];rfl,rfl⟩
  ·by_cases h2:i.iB = -9223372036854775808
   ·(repeat' first|refine Za ?_|refine Zb ?_|apply Zc|apply Zd|apply Ze|apply Zf|refine Zg ?_|refine Zh ?_|refine Zi ?_|refine Zk ?_|refine ZN ?_|refine Yz ?_|refine YA ?_|apply YB|apply YE|apply YF|apply YI|(refine bE (id:=3) [] mixed ?_;all_goals (refine tM 0 ?_);all_goals (refine tN 1 ?_);all_goals (refine tF 2 ?_);all_goals (refine tL 3 ?_);all_goals (refine tk 4 _ rfl (bO rfl) ?_);all_goals (refine tM 5 ?_);all_goals (refine tN 6 ?_);all_goals (refine tF 7 ?_);all_goals (refine tL 8 ?_);all_goals (first|refine tk 9 (.bool true) rfl (cE.iX (bU rfl rfl) zy) ?_|refine tk 9 (.bool false) rfl (cE.no (bU rfl rfl) zn) ?_);all_goals (refine tM 10 ?_);all_goals (first|refine du 11 _ rfl (bw rfl) ?_|refine bc 11 rfl rfl zK aX rfl ?_);all_goals (first|refine du 12 _ rfl (bp rfl) ?_|refine bc 12 rfl rfl zK aX rfl ?_);all_goals (first|refine du 13 _ rfl (bb rfl) ?_|refine bc 13 rfl rfl zK aX rfl ?_);all_goals (first|refine du 14 _ rfl (bq rfl zR) ?_|refine bc 14 rfl rfl zK aX rfl ?_);all_goals (first|refine du 15 _ rfl (bT rfl rfl zo zo) ?_|refine bc 15 rfl rfl zK aX rfl ?_);all_goals (first|refine du 16 _ rfl (bb rfl) ?_|refine bc 16 rfl rfl zK aX rfl ?_);all_goals (first|refine du 17 _ rfl (bq rfl zR) ?_|refine bc 17 rfl rfl zK aX rfl ?_);all_goals (first|refine du 18 (.bool true) rfl (cE.iX (bY rfl rfl) zy) ?_|refine du 18 (.bool false) rfl (cE.no (bY rfl rfl) zn) ?_|refine bc 18 rfl rfl zK aX rfl ?_);all_goals (first|refine tk 19 _ rfl (bM rfl rfl) ?_|refine tk 19 _ rfl (bJ rfl rfl) ?_);all_goals (refine tA 20 ?_);all_goals (refine bf zK ?_)))
    exact aY _ rfl kA ⟨by rw [ay zo];rfl,rfl⟩
   ·by_cases h3:i.iB≤now
    ·have h5:=LL hi hn h3;have h6:=NP hw
     by_cases h4:(w:Int)≤now - i.iB
     ·(repeat' first|refine Za ?_|refine Zb ?_|apply Zc|apply Zd|apply Ze|apply Zf|refine Zg ?_|refine Zh ?_|refine Zi ?_|refine Zk ?_|refine Zl ?_|refine Zn ?_|refine ZJ ?_|refine ZN ?_|refine ZV ?_|refine ZZ ?_|refine Yy ?_|refine YA ?_|apply YB|apply YC|apply YE|apply YH|(refine bE (id:=3) [] mixed ?_;all_goals (refine tM 0 ?_);all_goals (refine tN 1 ?_);all_goals (refine tF 2 ?_);all_goals (refine tL 3 ?_);all_goals (refine tk 4 _ rfl (bO rfl) ?_);all_goals (refine tM 5 ?_);all_goals (refine tN 6 ?_);all_goals (refine tF 7 ?_);all_goals (refine tL 8 ?_);all_goals (first|refine tk 9 (.bool true) rfl (cE.iX (bU rfl rfl) zy) ?_|refine tk 9 (.bool false) rfl (cE.no (bU rfl rfl) zn) ?_);all_goals (refine tM 10 ?_);all_goals (first|refine du 11 _ rfl (bw rfl) ?_|refine bc 11 rfl rfl zK aX rfl ?_);all_goals (first|refine du 12 _ rfl (bp rfl) ?_|refine bc 12 rfl rfl zK aX rfl ?_);all_goals (first|refine du 13 _ rfl (bb rfl) ?_|refine bc 13 rfl rfl zK aX rfl ?_);all_goals (first|refine du 14 _ rfl (bq rfl zR) ?_|refine bc 14 rfl rfl zK aX rfl ?_);all_goals (first|refine du 15 _ rfl (bT rfl rfl zo zo) ?_|refine bc 15 rfl rfl zK aX rfl ?_);all_goals (first|refine du 16 _ rfl (bb rfl) ?_|refine bc 16 rfl rfl zK aX rfl ?_);all_goals (first|refine du 17 _ rfl (bq rfl zR) ?_|refine bc 17 rfl rfl zK aX rfl ?_);all_goals (first|refine du 18 (.bool true) rfl (cE.iX (bY rfl rfl) zy) ?_|refine du 18 (.bool false) rfl (cE.no (bY rfl rfl) zn) ?_|refine bc 18 rfl rfl zK aX rfl ?_);all_goals (first|refine tk 19 _ rfl (bM rfl rfl) ?_|refine tk 19 _ rfl (bJ rfl rfl) ?_);all_goals (refine tA 20 ?_);all_goals (refine bf zK ?_)))
      exact aY _ rfl kA ⟨by rw [ay zo];rfl,rfl⟩
     ·(repeat' first|refine Za ?_|refine Zb ?_|apply Zc|apply Zd|apply Ze|apply Zf|refine Zg ?_|refine Zh ?_|refine Zi ?_|refine Zk ?_|refine Zl ?_|refine Zn ?_|refine ZJ ?_|refine ZK ?_|refine ZN ?_|refine ZV ?_|refine ZZ ?_|refine Yy ?_|refine YA ?_|apply YB|apply YC|apply YE|apply YH|(refine bE (id:=3) [] mixed ?_;all_goals (refine tM 0 ?_);all_goals (refine tN 1 ?_);all_goals (refine tF 2 ?_);all_goals (refine tL 3 ?_);all_goals (refine tk 4 _ rfl (bO rfl) ?_);all_goals (refine tM 5 ?_);all_goals (refine tN 6 ?_);all_goals (refine tF 7 ?_);all_goals (refine tL 8 ?_);all_goals (first|refine tk 9 (.bool true) rfl (cE.iX (bU rfl rfl) zy) ?_|refine tk 9 (.bool false) rfl (cE.no (bU rfl rfl) zn) ?_);all_goals (refine tM 10 ?_);all_goals (first|refine du 11 _ rfl (bw rfl) ?_|refine bc 11 rfl rfl zK aX rfl ?_);all_goals (first|refine du 12 _ rfl (bp rfl) ?_|refine bc 12 rfl rfl zK aX rfl ?_);all_goals (first|refine du 13 _ rfl (bb rfl) ?_|refine bc 13 rfl rfl zK aX rfl ?_);all_goals (first|refine du 14 _ rfl (bq rfl zR) ?_|refine bc 14 rfl rfl zK aX rfl ?_);all_goals (first|refine du 15 _ rfl (bT rfl rfl zo zo) ?_|refine bc 15 rfl rfl zK aX rfl ?_);all_goals (first|refine du 16 _ rfl (bb rfl) ?_|refine bc 16 rfl rfl zK aX rfl ?_);all_goals (first|refine du 17 _ rfl (bq rfl zR) ?_|refine bc 17 rfl rfl zK aX rfl ?_);all_goals (first|refine du 18 (.bool true) rfl (cE.iX (bY rfl rfl) zy) ?_|refine du 18 (.bool false) rfl (cE.no (bY rfl rfl) zn) ?_|refine bc 18 rfl rfl zK aX rfl ?_);all_goals (first|refine tk 19 _ rfl (bM rfl rfl) ?_|refine tk 19 _ rfl (bJ rfl rfl) ?_);all_goals (refine tA 20 ?_);all_goals (refine bf zK ?_)))
      exact aY _ rfl kA ⟨by rw [aq zo];rfl,rfl⟩
    ·(repeat' first|refine Za ?_|refine Zb ?_|apply Zc|apply Zd|apply Ze|apply Zf|refine Zg ?_|refine Zh ?_|refine Zi ?_|refine Zk ?_|refine Zm ?_|refine Zo ?_|refine ZK ?_|refine ZN ?_|refine Yy ?_|refine YA ?_|apply YB|apply YC|apply YE|apply YH|(refine bE (id:=3) [] mixed ?_;all_goals (refine tM 0 ?_);all_goals (refine tN 1 ?_);all_goals (refine tF 2 ?_);all_goals (refine tL 3 ?_);all_goals (refine tk 4 _ rfl (bO rfl) ?_);all_goals (refine tM 5 ?_);all_goals (refine tN 6 ?_);all_goals (refine tF 7 ?_);all_goals (refine tL 8 ?_);all_goals (first|refine tk 9 (.bool true) rfl (cE.iX (bU rfl rfl) zy) ?_|refine tk 9 (.bool false) rfl (cE.no (bU rfl rfl) zn) ?_);all_goals (refine tM 10 ?_);all_goals (first|refine du 11 _ rfl (bw rfl) ?_|refine bc 11 rfl rfl zK aX rfl ?_);all_goals (first|refine du 12 _ rfl (bp rfl) ?_|refine bc 12 rfl rfl zK aX rfl ?_);all_goals (first|refine du 13 _ rfl (bb rfl) ?_|refine bc 13 rfl rfl zK aX rfl ?_);all_goals (first|refine du 14 _ rfl (bq rfl zR) ?_|refine bc 14 rfl rfl zK aX rfl ?_);all_goals (first|refine du 15 _ rfl (bT rfl rfl zo zo) ?_|refine bc 15 rfl rfl zK aX rfl ?_);all_goals (first|refine du 16 _ rfl (bb rfl) ?_|refine bc 16 rfl rfl zK aX rfl ?_);all_goals (first|refine du 17 _ rfl (bq rfl zR) ?_|refine bc 17 rfl rfl zK aX rfl ?_);all_goals (first|refine du 18 (.bool true) rfl (cE.iX (bY rfl rfl) zy) ?_|refine du 18 (.bool false) rfl (cE.no (bY rfl rfl) zn) ?_|refine bc 18 rfl rfl zK aX rfl ?_);all_goals (first|refine tk 19 _ rfl (bM rfl rfl) ?_|refine tk 19 _ rfl (bJ rfl rfl) ?_);all_goals (refine tA 20 ?_);all_goals (refine bf zK ?_)))
     exact aY _ rfl kA ⟨by rw [aq zo];rfl,rfl⟩
theorem Ef (v:Value) (l:List jG) (hv:cF R 2 v l.length (l.flatMap jG.cells)) (ht:∀ m∈l,da R m.v m.b) (hb:∀ m∈l,m.b.length≤140737488351232) (hl:l.length≤100000) :
 Ct prog 283 #[v] e R (fun v' L'=>∃ (ad:Option Addr) (c:Nat) (ts:List dX),v'=.slice ad ts.length c∧ts.map (·.2)=l.map jG.b∧L'=cU (.slice ad ts.length c) ts::cG ts::R):=by
 refine a7 (hv.shape zo) ?_;rintro ⟨⟨ad,cap,rfl,h3,h4,h5,h6⟩,_⟩;refine a7 (fun h x m hm=>cz (ht m hm) h x) ?_;intro nk;refine a8 (args:=[_]) func283 rfl ntmps283 results283 rfl ?_;refine wB ?_;refine br (ι:=List dX × Option Addr × Nat) (fun i=>[(6,.slice ad l.length cap),(7,.int .i64 (l.length:Int)),(8,.int .i64 (i.1.length:Int)),(3,.slice i.2.1 i.1.length i.2.2)])
  (fun i=>cU (.slice i.2.1 i.1.length i.2.2) i.1::cG i.1::R) (fun i=>i.1.length≤l.length∧i.1.map (·.2)=(l.take i.1.length).map jG.b) (fun i=>l.length - i.1.length) ([],none,0) ⟨aG _,rfl⟩
  (cD rfl (cD rfl (cD rfl (cD rfl dc)))) ((di dZ 1).trans (bh dC)) ?_
 rintro ⟨out,dS,c2⟩ ⟨hi,hd⟩;dsimp only at hi hd ⊢
 by_cases cQ:out.length<l.length
 ·rcases h6 with h6|⟨gl,ol,rfl⟩
  ·omega
  have F5:eh R gl (ol+out.length*2) (l[out.length]'cQ).cells:=eh.elem hv LJ (ae cQ);have kh:=ht _ (az cQ);have DT:=hb _ (az cQ);have h1:=nk _ (az cQ)
  generalize BP:l[out.length]'cQ=m at *
  obtain ⟨v,b,a⟩:=m;dsimp only at h1 kh DT
  simp only [jG.cells] at F5
  (repeat (refine wA ?_;intros))
  refine aZ rfl rfl (dy _ e _ b kh.tail.tail.tail zo) ?_;rintro _ _ ⟨ep,c3,rfl,rfl⟩
  (repeat (refine wA ?_;intros))
  refine bD (bm rfl rfl rfl (.succ (.succ (.succ .zero))) (bu .zero rfl zl) rfl rfl zO zm zo fun gZ c4 _=>?_)
  refine wB ?_;refine bi (out++[(.slice ep b.length c3,b)],gZ,c4) ⟨by simp;omega,?_⟩ (by simp;omega) ?_ ?_
  ·simp only [ah,aa,aj,hd];rw [aA cQ,BP];simp only [ah,List.map_cons,List.map_nil]
  ·simp only [aa,aj];exact cD rfl (cD rfl (cD rfl (cD rfl dc)))
  ·refine cn (show cC _ (cR (.slice ep b.length c3) b::cG out::dJ dZ 1 (.slice gZ (out.length+1) c4) (out.length+1) (out.map (·.1)++[.slice ep b.length c3])::R) from zE) (cn (jx (a:=(.slice ep b.length c3,b))) (cn (bz (.succ .zero) aX) (cn eK ?_)));simp only [cU,aa,aj,ah,List.map_cons,List.map_nil];exact zE
 ·refine wB ?_;refine aY _ rfl aX ⟨dS,c2,out,rfl,?_,rfl⟩;rw [hd,aF zo]
theorem Eg (v:Value) (l:List jG) (h:cF R 2 v l.length (l.flatMap jG.cells)) (h1:∀ m∈l,m.v.oneCell'=true) (hl:l.length≤100000) :
 Ct prog 284 #[v] e R (fun v' L'=>∃ ad c,v'=.slice ad l.length c∧L'=p8 (.slice ad l.length c) l::R):=by
 refine a7 (h.shape zo) ?_;rintro ⟨⟨ad,cap,rfl,h3,h4,h5,h6⟩,_⟩;refine a8 (args:=[_]) func284 rfl ntmps284 results284 rfl ?_
 cases ad with
 | none =>
  have tR:l=[]:=by
   have:=h5 rfl;exact List.eq_nil_of_length_eq_zero zo
  subst tR;refine wB ?_;exact aY _ rfl (di _ _) ⟨_,_,rfl,rfl⟩
 | some a =>
  (repeat (refine wA ?_;intros))
  refine O.fo (fW (n:=2) (k:=0) (cap:=0) zo zl rfl) ?_;refine bD (bm rfl rfl rfl .zero h rfl rfl (Ed h1) zm zo fun lE c' lG=>?_)
  refine wB ?_;refine aY _ rfl ?_ ⟨lE,c',by simp [z9],rfl⟩;simp only [aC];exact aX
theorem Gy (g r s w:Nat) (l:List jG) (hb:∀ m∈l,m.b.length≤140737488351232) (hl:l.length≤100000) (hs:s≤1000) :
 Ct prog 243 #[pt g] e (wF g r s w l::R) (fun v' L'=>∃ (ad:Option Addr) (c:Nat) (ts:List dX),v'=.slice ad ts.length c∧ts.map (·.2)=(l.take s).map jG.b∧L'=cU (.slice ad ts.length c) ts::cG ts::wF g r s w (l.drop s)::R):=by
 refine a7 Ee ?_;intro nk;refine qD fun ad c=>?_
 refine a7 (ya (.succ .zero)) ?_;rintro ⟨_,_,hv,hc,hm,hg⟩
 cases hv
 refine a8 (args:=[_]) func243 rfl ntmps243 results243 rfl ?_
 have hn:(if (l.length:Int)<(s:Int) then (l.length:Int) else (s:Int))=((min s l.length:Nat):Int):=by
  by_cases h:l.length<s
  ·rw [aH zo];omega
  ·rw [aB zo];omega
 have hle:min s l.length≤l.length:=Nat.min_le_right _ _;obtain ⟨n,Tl⟩:∃ n,n=min s l.length:=⟨_,rfl⟩
 rw [← Tl] at hn hle
 have et:l.take n=l.take s:=by
  rcases Nat.le_total s l.length with h|h
  ·rw [Tl,Nat.min_eq_left h]
  ·rw [Tl,Nat.min_eq_right h,aF (aT _),aF h]
 have ed:l.drop n=l.drop s:=by
  rcases Nat.le_total s l.length with h|h
  ·rw [Tl,Nat.min_eq_left h]
  ·rw [Tl,Nat.min_eq_right h,List.drop_of_length_le (aT _),List.drop_of_length_le h]
 have lt:(l.take n).length=n:=by rw [aE];omega
 have ld:(l.drop n).length=l.length - n:=by rw [aP]
 have rT:∀ L',cF (p8 (.slice ad l.length c) l::L') 2 (.slice ad ((n:Int).toNat) c) (l.take n).length ((l.take n).flatMap jG.cells):=fun L'=>by
  have:=cF.qV (ba (L:=p8 (.slice ad l.length c) l::L') .zero) (hi:=n) hle;rw [mv LJ] at this
  rw [lt];exact this
 have rD:∀ L',cF (p8 (.slice ad l.length c) l::L') 2 (.slice (cutAt ad c ((n:Int).toNat) 2) (l.length - ((n:Int).toNat)) (c - ((n:Int).toNat))) (l.drop n).length ((l.drop n).flatMap jG.cells):=fun L'=>by
  have:=cF.qW (ba (L:=p8 (.slice ad l.length c) l::L') .zero) (lo:=n) hle;rw [wX LJ] at this
  rw [ld];exact this
 (repeat' first|refine Za ?_|refine Zb ?_|apply Zc|apply Zd|apply Ze|apply Zf|refine Zg ?_|refine Zh ?_|refine Zi ?_|refine Yr ?_|(refine bE (id:=1) [10] mixed ?_;all_goals (refine tM 0 ?_);all_goals (refine tN 1 ?_);all_goals (refine tF 2 ?_);all_goals (refine tL 3 ?_);all_goals (refine tM 4 ?_);all_goals (refine tN 5 ?_);all_goals (refine tF 6 ?_);all_goals (refine tL 7 ?_);all_goals (refine tk 8 _ rfl (bO rfl) ?_);all_goals (refine tk 9 _ rfl (cE.min rfl rfl) ?_);all_goals ((refine tO 10 ?_;refine dV (bj rfl) ?_));all_goals (refine bf zK ?_)))
 rw [hn]
 (repeat' first|refine Za ?_|refine Zb ?_|apply Zc|apply Zd|apply Ze|apply Zf|refine Zg ?_|refine Zh ?_|refine Zi ?_|refine Zj ?_|refine Zk ?_|refine Yd ?_|refine Ym ?_|refine Yr ?_|refine Ys ?_|refine Yt ?_|apply YE|apply YF|refine YQ ?_|refine YR ?_|(apply O.dj;exact rfl;exact zP;(first|(simp only [aC,Nat.add_zero,Nat.reduceAdd,List.drop_succ_cons,List.drop_zero,List.take_succ_cons,List.take_zero];done)|(simp only [aC,Nat.add_zero,Nat.reduceAdd,List.drop_succ_cons,List.drop_zero,List.take_succ_cons,List.take_zero];exact rfl));exact rfl;exact rfl)|(refine bE (id:=1) [10] mixed ?_;all_goals (refine tM 0 ?_);all_goals (refine tN 1 ?_);all_goals (refine tF 2 ?_);all_goals (refine tL 3 ?_);all_goals (refine tM 4 ?_);all_goals (refine tN 5 ?_);all_goals (refine tF 6 ?_);all_goals (refine tL 7 ?_);all_goals (refine tk 8 _ rfl (bO rfl) ?_);all_goals (refine tk 9 _ rfl (cE.min rfl rfl) ?_);all_goals ((refine tO 10 ?_;refine dV (bj rfl) ?_));all_goals (refine bf zK ?_)))
 refine aZ rfl rfl (Ef _ e _ (l.take n) (rT _).tail (fun m hm=>(ef m.t (aD.2 ⟨m,aN hm,rfl⟩)).tail.tail) (fun m hm=>hb m (aN hm)) zo) ?_;rintro _ _ ⟨dS,c2,ts,rfl,fx,rfl⟩;refine wB ?_;refine aZ rfl rfl (Eg _ e _ (l.drop n) (rD _).tail.tail.tail (fun m hm=>nk m (aS hm)) zo) ?_;rintro _ _ ⟨ep,c3,rfl,rfl⟩;refine wB ?_;rw [et] at fx
 refine aY _ rfl (cn (show cC _ (cG (l.map jG.t)::cU (.slice dS ts.length c2) ts::cG ts::cM g [.int .i64 (r:Int),.int .i64 (s:Int),.int .i64 (w:Int),.slice ep (l.drop n).length c3] 370 (0,0)::p8 (.slice ep (l.drop n).length c3) (l.drop n)::R) from zE) (cn (Fq n) (cn ?_ (bh (bh (kA (ad:=ep) (c:=c3) (l:=l.drop n))))))) ⟨dS,c2,ts,rfl,fx,by rw [ed]⟩;rw [← List.map_drop];exact zE
theorem Gz (g r s w:Nat) (l:List jG) (v:Value) (ts:List dX) (hv:cF R 1 v ts.length (ts.map (·.1))) (ht:dE R ts) (hb:∀ a∈ts,a.2.length≤140737488351232) (hl:ts.length+l.length≤100000) :
 Ct prog 244 #[pt g,v] e (wF g r s w l::R) (fun v' L'=>v'=.tuple #[]∧∃ l':List jG,l'.map jG.b=ts.map (·.2)∧(∀ m∈l',m.iB = -9223372036854775808)∧L'=wF g r s w (l'++l)::R):=by
 refine a7 Ee ?_;intro nk;refine a7 (Br (hv.shape zo) zE) ?_;rintro ⟨⟨ot,cap,rfl,h3,h4,h5,h6⟩,_⟩;refine qD fun ad c=>?_
 refine a8 (args:=[_,_]) func244 rfl ntmps244 results244 rfl ?_;refine wB ?_;refine br (ι:=List jG × Option Addr × Nat) (fun i=>[(0,pt g),(7,.slice ot ts.length cap),(8,.int .i64 (ts.length:Int)),(9,.int .i64 (i.1.length:Int)),(4,.slice i.2.1 i.1.length i.2.2)])
  (fun i=>p8 (.slice i.2.1 i.1.length i.2.2) i.1::cG (i.1.map jG.t)::cM g [.int .i64 (r:Int),.int .i64 (s:Int),.int .i64 (w:Int),.slice ad l.length c] 370 (0,0)::p8 (.slice ad l.length c) l::cG (l.map jG.t)::R)
  (fun i=>i.1.length≤ts.length∧i.1.map jG.b=(ts.take i.1.length).map (·.2)∧(∀ m∈i.1,m.iB = -9223372036854775808)∧∀ m∈i.1,m.v.oneCell'=true) (fun i=>ts.length - i.1.length) ([],none,0) ⟨aG _,rfl,(fun m h=>by cases h),(fun m h=>by cases h)⟩
  (cD rfl (cD rfl (cD rfl (cD rfl (cD rfl dc))))) ((di Jv 2).trans (bh dC)) ?_
 rintro ⟨out,dS,c2⟩ ⟨hi,hd,C0,Ru⟩;dsimp only at hi hd C0 Ru ⊢
 by_cases cQ:out.length<ts.length
 ·rcases h6 with h6|⟨gl,ol,rfl⟩
  ·omega
  have q1:Rd R ⟨gl,ol+out.length,none⟩ (ts[out.length]'cQ).1:=cF.elem hv (by rw [aI,ae cQ];rfl);have kh:=ht _ (az cQ);have DT:=hb _ (az cQ)
  generalize BP:ts[out.length]'cQ=m at *
  obtain ⟨v,b⟩:=m;dsimp only at kh DT q1
  refine wB ?_;refine aZ rfl rfl (dy _ e _ b kh.tail.tail.tail.tail.tail zo) ?_;rintro _ _ ⟨ep,c3,rfl,rfl⟩
  (repeat (refine wA ?_;intros))
  refine bD (bm rfl rfl rfl (.succ (.succ .zero)) (bQ (n:=2) (c:=1) .zero rfl zl) rfl rfl zO zm zo fun gZ c4 _=>?_)
  refine wB ?_;refine bi (out++[⟨.slice ep b.length c3,b,-9223372036854775808⟩],gZ,c4) ⟨by simp;omega,?_,?_,?_⟩ (by simp;omega) ?_ ?_
  ·simp only [ah,aa,aj,hd];rw [aA cQ,BP];simp only [ah,List.map_cons,List.map_nil]
  ·intro m hm;rcases aJ.1 hm with hm|hm
   ·exact C0 m hm
   ·rw [an.1 hm]
  ·intro m hm;rcases aJ.1 hm with hm|hm
   ·exact Ru m hm
   ·rw [an.1 hm];rfl
  ·simp only [aa,aj];exact cD rfl (cD rfl (cD rfl (cD rfl (cD rfl dc))))
  ·refine cn (show cC _ (cR (.slice ep b.length c3) b::cG (out.map jG.t)::dJ Jv 2 (.slice gZ (out.length+1) c4) (out.length+1) (out.flatMap jG.cells++[.slice ep b.length c3,.int .i64 (-9223372036854775808)])::cM g [.int .i64 (r:Int),.int .i64 (s:Int),.int .i64 (w:Int),.slice ad l.length c] 370 (0,0)::p8 (.slice ad l.length c) l::cG (l.map jG.t)::R) from zE) (cn (jx (a:=(.slice ep b.length c3,b))) (cn (bz (.succ .zero) aX) (cn eK ?_)));simp only [p8,aa,aj,ah,List.map_cons,List.map_nil,aW,aV,List.flatMap_nil,aK];exact zE
 ·have C2:out.map jG.b=ts.map (·.2):=by rw [hd,aF zo]
  refine wB ?_;refine bD (bm rfl rfl rfl .zero (ba (.succ (.succ .zero))) rfl rfl (Ed nk) zm zo fun gZ c4 _=>?_)
  refine wB ?_;refine bX (wF g r s w (out++l)::R) rfl (cn (show cC _ (cG (out.map jG.t)::cG (l.map jG.t)::cM g [.int .i64 (r:Int),.int .i64 (s:Int),.int .i64 (w:Int),.slice gZ (out.length+l.length) c4] 370 (0,0)::dJ Jv 2 (.slice gZ (out.length+l.length) c4) (out.length+l.length) (out.flatMap jG.cells++l.flatMap jG.cells)::R) from zE) (cn eK (cn ?_ (kA (ad:=gZ) (c:=c4))))) ⟨rfl,out,C2,C0,rfl⟩;simp only [p8,aa,ah,aW];exact zE
def hasB (l:List jG) (b:List UInt8):Bool:=l.any fun i=>decide (i.b=b)
theorem Eh (va vb:Value) (a b:List UInt8) (ha:da R va a) (hb:da R vb b) :
 Ct prog 188 #[va,vb] e R (fun v' L'=>v'=.bool (decide (a=b))∧R=L'):=by
 refine a8 (args:=[_,_]) func188 rfl ntmps188 results188 rfl ?_
 by_cases h:a=b
 ·subst h;refine wB ?_;exact aY _ rfl aX ⟨by simp;rfl,rfl⟩
 ·refine wB ?_;exact aY _ rfl aX ⟨by simp [h];rfl,rfl⟩
theorem rY (va vb:Value) (a b:List UInt8) (ha:da R va a) (hb:da R vb b) :
 Ct prog 99 #[va,vb] e R (fun v' L'=>v'=.bool (decide (a=b))∧R=L'):=by
 refine a8 (args:=[_,_]) func99 rfl ntmps99 results99 rfl ?_;refine wB ?_;refine aZ rfl rfl (Eh R e va vb a b ha hb) ?_;rintro _ _ ⟨rfl,rfl⟩;refine wB ?_;exact aY _ rfl aX ⟨rfl,rfl⟩
theorem GA (g:Nat) (v:Value) (b:List UInt8) (i:jG) (hg:Rd R ⟨g,0,none⟩ v) (hr:da R v b) (hi:da R i.v i.b) :
 Ct prog 281 #[.agg i.cells.toArray,pt g] e R (fun v' L'=>v'=.bool (decide (i.b=b))∧R=L'):=by
 obtain ⟨iv,ib,ia⟩:=i;dsimp only at hi
 simp only [jG.cells];refine a8 (args:=[_,_]) func281 rfl ntmps281 results281 rfl ?_
 (repeat (refine wA ?_;intros))
 refine aZ rfl rfl (rY _ e iv v ib b hi.tail hr.tail) ?_;rintro _ _ ⟨rfl,rfl⟩;refine wB ?_;exact aY R rfl zE ⟨rfl,rfl⟩
theorem Ei (g:Nat) (v vl:Value) (b:List UInt8) (l:List jG) (hg:Rd R ⟨g,0,none⟩ v) (hr:da R v b) (hv:cF R 2 vl l.length (l.flatMap jG.cells)) (ht:∀ m∈l,da R m.v m.b) (hl:l.length≤100000) :
 Ct prog 303 #[vl,.func (.func 281) #[] #[pt g]] e R (fun v' L'=>∃ k:Int,v'=.int .i64 k∧(decide (0≤k)=hasB l b)∧R=L'):=by
 refine a7 (hv.shape zo) ?_;rintro ⟨⟨ad,cap,rfl,h3,h4,h5,h6⟩,_⟩;refine a8 (args:=[_,_]) func303 rfl ntmps303 results303 rfl ?_;refine wB ?_;refine br (ι:=Nat) (fun i=>[(0,.slice ad l.length cap),(1,.func (.func 281) #[] #[pt g]),(7,.int .i64 (l.length:Int)),(8,.int .i64 (i:Int))]) (fun _=>R) (fun i=>i≤l.length∧∀ m∈l.take i,m.b≠b) (fun i=>l.length - i) 0 ⟨aG _,fun m h=>by simp at h⟩
  (cD rfl (cD rfl (cD rfl (cD rfl dc)))) aX ?_
 rintro i ⟨hi,hn⟩
 by_cases cQ:i<l.length
 ·rcases h6 with h6|⟨gl,ol,rfl⟩
  ·omega
  have F5:eh R gl (ol+i*2) (l[i]'cQ).cells:=eh.elem hv LJ (ae cQ);have kh:=ht _ (az cQ);refine wB ?_;refine O.gT (us:=[]) (ws:=[pt g]) (vs:=[.agg (l[i]'cQ).cells.toArray]) rfl rfl rfl (GA R e g v b (l[i]'cQ) hg hr kh) ?_;rintro _ _ ⟨rfl,rfl⟩
  by_cases hb:(l[i]'cQ).b=b
  ·rw [ay hb];refine wB ?_;refine aY R rfl aX ⟨_,rfl,?_,rfl⟩
   have h1:hasB l b=true:=by
    unfold hasB;rw [List.any_eq_true];exact ⟨_,az cQ,by simpa using hb⟩
   rw [h1];simp
  ·rw [aq hb];refine wB ?_;refine bi (i+1) ⟨cQ,?_⟩ zo (cD rfl (cD rfl (cD rfl (cD rfl dc)))) aX;intro m hm;rw [aA cQ] at hm
   rcases aJ.1 hm with hm|hm
   ·exact hn m hm
   ·rw [an.1 hm];exact hb
 ·refine wB ?_;refine aY R rfl aX ⟨_,rfl,?_,rfl⟩
  have h1:hasB l b=false:=by
   unfold hasB;rw [List.any_eq_false];intro m hm;rw [aF zo] at hn
   simpa using hn m hm
  rw [h1];simp
theorem yd (g:Nat) (v vl:Value) (b:List UInt8) (l:List jG) (hg:Rd R ⟨g,0,none⟩ v) (hr:da R v b) (hv:cF R 2 vl l.length (l.flatMap jG.cells)) (ht:∀ m∈l,da R m.v m.b) (hl:l.length≤100000) :
 Ct prog 280 #[vl,.func (.func 281) #[] #[pt g]] e R (fun v' L'=>v'=.bool (hasB l b)∧R=L'):=by
 refine a8 (args:=[_,_]) func280 rfl ntmps280 results280 rfl ?_;refine wB ?_;refine aZ rfl rfl (Ei R e g v vl b l hg hr hv ht hl) ?_;rintro _ _ ⟨k,rfl,hk,rfl⟩;rw [← hk]
 by_cases h:0≤k
 ·rw [ay h];refine wB ?_;exact aY R rfl aX ⟨rfl,rfl⟩
 ·rw [aq h];refine wB ?_;exact aY R rfl aX ⟨rfl,rfl⟩
theorem JB (g r s w:Nat) (l:List jG) (v:Value) (b:List UInt8) (hr:da R v b) (hl:l.length≤100000) :
 Ct prog 238 #[pt g,v] e (wF g r s w l::R) (fun v' L'=>v'=.bool (hasB l b)∧L'=wF g r s w l::R):=by
 refine a7 (Br (hr.shape zo) (cC.drop aX)) ?_;rintro ⟨⟨ot,cv,rfl,g3,g4,g5,g6⟩,_⟩;refine qD fun ad c=>?_
 refine a8 (args:=[_,_]) func238 rfl ntmps238 results238 rfl ?_
 (repeat (refine wA ?_;intros))
 refine aZ rfl rfl (yd _ e _ _ _ b l (bR .zero rfl) (hr.tail.tail.tail.tail) (ba (.succ (.succ .zero))) (fun m hm=>(ef m.t (aD.2 ⟨m,hm,rfl⟩)).tail.tail.tail) hl) ?_;rintro _ _ ⟨rfl,rfl⟩;refine wB ?_;exact aY (wF g r s w l::R) rfl (cn (cC.drop aX) kA) ⟨rfl,rfl⟩
end Go.Proofs
