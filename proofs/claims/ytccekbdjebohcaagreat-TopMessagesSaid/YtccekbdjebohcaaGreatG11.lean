/- Part 11 of a proof of this: TopMessages returns true for any arguments; nothing of the old memory is turned. No condition. -/
import Derived.Test.YtccekbdjebohcaaGreatG10
set_option linter.unusedVariables false
set_option linter.unusedSimpArgs false
namespace Go.Proofs
attribute [local irreducible] Bs.cD Bs.Do Bs.O Bs.W Bs.Fin Bs.A Bs.Ct Bs.cE Bs.Rd Bs.Sat Bs.cK Bs.Ob Bs.dJ Bs.View Bs.cz Bs.Ex Bs.dH Bs.Pu Bs.eY Bs.dM Bs.dZ
open Go.Bs
open Tryz
variable (R:List cJ) (e:World)
abbrev Tg:TypeId:=53
abbrev tFn:TypeId:=160
abbrev Ic (w:Nat):List Value:=[.func (.func 82) #[ptr w] #[],.func (.func 83) #[ptr w] #[],.func (.func 84) #[ptr w] #[],.func (.func 85) #[ptr w] #[],.func (.func 86) #[ptr w] #[],.func (.func 87) #[ptr w] #[],.func (.func 88) #[ptr w] #[],.func (.func 89) #[ptr w] #[],.func (.func 90) #[ptr w] #[],.func (.func 91) #[ptr w] #[],.func (.func 92) #[ptr w] #[],.func (.func 93) #[ptr w] #[]]
theorem kJ (w:Nat) (c:dh) (m:Nat) (s:da) (ev:List (Int × Int × Int × dv)) (k:Nat) (n to wh:Int) (v:Value) (hv:v.oneCell'=true) (f:Nat) [cI prog f f] (hk:1≤k∧k≤12) (hf:nth (Ic w) (k - 1)=some (.func (.func f) #[ptr w] #[])) (N why:Int) (P:cJ→Prop)
 (h:∀ R',cz R' R→Ct prog f #[ptr w,.agg (ot k n to wh v).toArray] e (dO w c m s ev::R') (fun v' L'=>v'=.tuple #[.int .i64 N,.int .i64 why]∧∃ X,P X∧L'=X::R')) :
 Ct prog 25 #[ptr w,.agg (ot k n to wh v).toArray] e (dO w c m s ev::R) (fun v' L'=>v'=.agg [.int .i64 (k:Int),.int .i64 N,.int .i64 why].toArray∧∃ X,P X∧L'=X::R):=by
 obtain ⟨j,rfl⟩:∃ j,k=j+1:=⟨k - 1,by omega⟩
 rw [Nat.add_sub_cancel] at hf
 refine bH (args:=[_,_]) func25 rfl ntmps25 results25 rfl ?_
 (repeat (refine wA ?_;intros))
 rename_i g3 g4 g5;refine bk (id:=4) [12] (cK g3 (ot ((j+1:Nat):Int) n to wh v) eM (0,0)::cK g5 (Ic w) tFn (0,0)::R) mixed ?_
 (refine tM 0 ?_;refine tF 1 ?_;refine tL 2 ?_;refine tk 3 _ rfl (cD.jA rfl rfl zo) ?_)
 rw [show ((j+1:Nat):Int) - 1=(j:Int) by omega]
 (refine tk 4 _ rfl (cD.ix rfl rfl zo) ?_)
 refine bG 5 (.func (.func f) #[ptr w] #[]) rfl zK zE (bp rfl (bP (show cQ _ (cK g5 (Ic w) tFn (0,0)) _ from zP) (by rw [aC];exact hf))) rfl ?_
 (refine tJ 6 ?_)
 refine tO 7 ?_;refine Do.gD (us:=[ptr w]) (ws:=[]) rfl rfl rfl (Ct.at zP (h _ zE)) ?_;rintro _ _ ⟨rfl,X,hX,rfl⟩;refine ⟨fun _=>zE,?_⟩
 (refine tM 8 ?_;refine tk 9 _ rfl (bl rfl rfl) ?_;refine tk 10 _ rfl (bl rfl rfl) ?_;refine tA 11 ?_;(refine tO 12 ?_;refine dV (bj rfl) ?_))
 refine bf zK ?_;refine wB ?_;apply br
 ·exact zV
 exact ⟨X::R,zE,rfl,X,hX,rfl⟩
theorem AK (w:Nat) (c:dh) (m:Nat) (s:da) (ev:List (Int × Int × Int × dv)) (k to wh:Int) (n:Nat) (v:Value) (hv:v.oneCell'=true) (hn:n≤1000000) (hm:m<250) :
 Ct prog 87 #[pt w,.agg (ot k n to wh v).toArray] e (dO w c m s ev::R) (fun v' L'=>v'=.tuple #[.int .i64 (s.Ad c n).2.1,.int .i64 (s.Ad c n).2.2]∧∃ jP,rF jP (s.Ad c n).1∧L'=dO w c (m+1) (s.Ad c n).1 (ev++jP)::R):=by
 refine gY fun a M ha he=>?_
 have eJ:=ha.st;have hrm:=eJ.room;have DV:a.nl.length=s.eh.length:=by have:=congrArg List.length ha.eh;simpa using this
 refine a7 (Jh (show cQ (dR w c s a M R) (Net a.gn 32 a.nl) _ from zP)) fun lU=>?_
 have C4:a.wx.length=c.k:=by
  obtain ⟨vl,vu,vs,Wn,K9,-⟩:=ha.all.all;exact K9
 have Ga:=eJ.xC.k;refine a7 ((bb (show cQ (dR w c s a M R) (dJ pX 1 a.lZ a.wx.length (a.wx.map jJ)) _ from zP)).shape zo) ?_;rintro ⟨⟨HK,cw,BU,wG,IU,Ap,uW⟩,_⟩;refine a8 (args:=[_,_]) func87 rfl ntmps87 results87 rfl ?_
 by_cases cO:n<s.eh.length
 rotate_left
 ·have hd:s.Ad c n=(s,0,1):=by unfold da.Ad;rw [List.getElem?_eq_none zo]
  rw [hd];have er:=ha.to (eJ.next hm) (Nat.le_succ m) rfl rfl
  (repeat (refine wA ?_;intros))
  rename_i g3;refine bk (id:=1) [12] (cK g3 (ot k n to wh v) eM (0,0)::cK w (a.cells c s) di (0,0)::R) mixed ?_
  (refine tM 0 ?_;refine tN 1 ?_;refine tF 2 ?_;refine tL 3 ?_;refine tF 4 ?_;refine tL 5 ?_)
  refine A.two 6 10 rfl rfl rfl rfl zK ?_ ?_
  ·refine bg rfl rfl (Ct.at zP (jr _ e a.gn 32 a.nl (n:Int) zo lU)) ?_;rintro _ _ (⟨k2,xN,Om,-,-⟩|⟨-,rfl,rfl⟩)
   ·exact absurd xN zo
   refine ⟨fun _=>zE,?_⟩
   (refine tM 7 ?_;refine tk 8 _ rfl (bl rfl rfl) ?_;refine tk 9 _ rfl (bl rfl rfl) ?_)
   refine tO 10 ?_;refine bQ (cs:=[.int .i64 0,.int .i64 0,.int .i64 0,nY]) rfl rfl fun g6=>⟨fun _=>zE,?_⟩
   refine tO 11 ?_;refine zg ?_;refine ⟨fun _=>zE,?_⟩
   ((refine tO 12 ?_;refine dV (bj rfl) ?_))
   refine bf zK ?_;refine wB ?_;refine aY (dO w c (m+1) s ev::R) rfl (cj (show cz _ (dR w c s a M R) from zE) (dU er he)) ⟨rfl,[],rF.nil,by rw [aK]⟩
  ·refine bQ (cs:=[.int .i64 0,.int .i64 0,.int .i64 0,nY]) rfl rfl fun g6=>⟨fun _=>zE,?_⟩
   refine tO 6 ?_;refine bg rfl rfl (Ct.at zP (jr _ e a.gn 32 a.nl (n:Int) zo lU)) ?_;rintro _ _ (⟨k2,xN,Om,-,-⟩|⟨-,rfl,rfl⟩)
   ·exact absurd xN zo
   refine ⟨fun _=>zE,?_⟩
   (refine tM 7 ?_;refine tk 8 _ rfl (bl rfl rfl) ?_;refine tk 9 _ rfl (bl rfl rfl) ?_)
   refine tO 11 ?_;refine zg ?_;refine ⟨fun _=>zE,?_⟩
   ((refine tO 12 ?_;refine dV (bj rfl) ?_))
   refine bf zK ?_;refine wB ?_;refine aY (dO w c (m+1) s ev::R) rfl (cj (show cz _ (dR w c s a M R) from zE) (dU er he)) ⟨rfl,[],rF.nil,by rw [aK]⟩
 have hg:s.eh[n]?=some (s.eh[n]'cO):=ae _;have hd:s.Ad c n=(s.lost n).Ia c (s.eh[n]'cO):=by unfold da.Ad;rw [hg]
 have nW:=eJ.eh _ (az cO)
 have GC:(a.nl[n]'zo).d=(s.eh[n]'cO).d c.k:=by
  have:=congrArg (fun l=>l[n]?) ha.eh;simp only [aL,ae (show n<a.nl.length by omega),hg,Option.map_some,Option.some.injEq] at this
  exact this
 have mS:=lU _ (az (show n<a.nl.length by omega))
 have pS:ee.ok { a with nl:=iY a.nl n } M w c m (s.lost n) :=
  ha.PF (da.Dg eJ) (aS m) rfl (by show (iY a.nl n).map gV.d=(iY s.eh n).map _;rw [rk,rk,ha.eh])
 rw [hd];obtain ⟨y,hy⟩:∃ y,a.nl[n]'zo=y:=⟨_,rfl⟩
 rw [hy] at GC mS
 obtain ⟨yk,yf,yt,yv,yb⟩:=y;dsimp only at mS
 (repeat' first|refine W.pF (id:=2) (fun g6:Nat=>[(0,pt w),(6,pt g6),(7,.bool true)]) (fun g6=>cK g6 [.int .i64 yk,.int .i64 yf,.int .i64 yt,yv] PG (0,0)::cH [(yv,yb)]::dR w c (s.lost n) { a with nl:=iY a.nl n } M R) (fun _=>True) ?_ ?_|refine Zb ?_|apply Zc|apply Zd|apply Ze|apply Zf|refine Yg fun _=>?_|fail)
 rotate_left
 ·refine ⟨?_⟩;rename_i g3;refine bk (id:=1) [12] (cK g3 (ot k n to wh v) eM (0,0)::cK w (a.cells c s) di (0,0)::R) mixed ?_
  (refine tM 0 ?_;refine tN 1 ?_;refine tF 2 ?_;refine tL 3 ?_;refine tF 4 ?_;refine tL 5 ?_)
  refine A.two 6 10 rfl rfl rfl rfl zK ?_ ?_
  ·refine bg rfl rfl (Ct.at zP (jr _ e a.gn 32 a.nl (n:Int) zo lU)) ?_;rintro _ _ (⟨k2,xN,Om,rfl,rfl⟩|⟨H9,-,-⟩)
   rotate_left
   ·exact absurd ⟨by omega,by omega⟩ H9
   obtain rfl:n=k2:=by omega
   rw [show a.nl.take n++a.nl.drop (n+1)=iY a.nl n from rfl];rw [hy];refine ⟨fun _=>zE,?_⟩
   (refine tM 7 ?_;refine tk 8 _ rfl (bl rfl rfl) ?_;refine tk 9 _ rfl (bl rfl rfl) ?_)
   refine tO 10 ?_;refine bQ (cs:=[.int .i64 0,.int .i64 0,.int .i64 0,nY]) rfl rfl fun g6=>⟨fun _=>zE,?_⟩
   refine tO 11 ?_;refine zg ?_;refine ⟨fun _=>zE,?_⟩
   ((refine tO 12 ?_;refine dV (bj rfl) ?_))
   refine bf zK ?_;exact bJ g6 trivial zS zE
  ·refine bQ (cs:=[.int .i64 0,.int .i64 0,.int .i64 0,nY]) rfl rfl fun g6=>⟨fun _=>zE,?_⟩
   refine tO 6 ?_;refine bg rfl rfl (Ct.at zP (jr _ e a.gn 32 a.nl (n:Int) zo lU)) ?_;rintro _ _ (⟨k2,xN,Om,rfl,rfl⟩|⟨H9,-,-⟩)
   rotate_left
   ·exact absurd ⟨by omega,by omega⟩ H9
   obtain rfl:n=k2:=by omega
   rw [show a.nl.take n++a.nl.drop (n+1)=iY a.nl n from rfl];rw [hy];refine ⟨fun _=>zE,?_⟩
   (refine tM 7 ?_;refine tk 8 _ rfl (bl rfl rfl) ?_;refine tk 9 _ rfl (bl rfl rfl) ?_)
   refine tO 11 ?_;refine zg ?_;refine ⟨fun _=>zE,?_⟩
   ((refine tO 12 ?_;refine dV (bj rfl) ?_))
   refine bf zK ?_;exact bJ g6 trivial zS zE
 intro g6 _;have XM:∀ L:List cJ,db (cH [(yv,yb)]::L) yv yb:=fun L=>dP.dY (.zero:cQ (cH [(yv,yb)]::L) (cH [(yv,yb)]) L) (yv,yb) (an.2 rfl)
 generalize s.eh[n]'cO=iD at *
 cases iD with
 | ask j x n2 k2 path =>
  obtain ⟨rfl,rfl,rfl,rfl⟩:yk=1∧yf=0∧yt=((j+1:Nat):Int)∧yb=qI x n2 k2 path:=by
   simpa [gV.d,fZ.d,Prod.ext_iff] using GC
  have hj:j<c.k:=nW.2.1;rw [show (s.lost n).Ia c (.ask j x n2 k2 path)=((s.lost n).asked j x.dc n2,1,(s.lost n).qL j x.dc n2) from rfl];refine wB ?_;rw [BU];refine wB ?_;rw [← BU];refine aZ rfl rfl ((FA (cK g6 [.int .i64 1,.int .i64 0,.int .i64 ((j+1:Nat):Int),yv] PG (0,0)::cH [(yv,qI x n2 k2 path)]::R) e w c m (s.lost n) ev yv j n2 k2 x path ((XM R).cL zE) nW hm).cL (cj (show cz _ (dR w c (s.lost n) { a with nl:=iY a.nl n } M (cK g6 [.int .i64 1,.int .i64 0,.int .i64 ((j+1:Nat):Int),yv] PG (0,0)::cH [(yv,qI x n2 k2 path)]::R)) from zE) (dU pS he))) ?_;rintro _ _ ⟨rfl,jP,DA,rfl⟩
  generalize (s.lost n).qL j x.dc n2=E
  refine wB ?_;refine aY (dO w c (m+1) ((s.lost n).asked j x.dc n2) (ev++jP)::R) rfl zE ⟨rfl,jP,DA,rfl⟩
 | iP j g =>
  obtain ⟨rfl,rfl,rfl,rfl⟩:yk=2∧yf=((j+1:Nat):Int)∧yt=0∧yb=1::eU g:=by
   simpa [gV.d,fZ.d,Prod.ext_iff] using GC
  have hj:j<c.k:=nW.2.1;rw [show (s.lost n).Ia c (.iP j g)=((s.lost n).uM c j g 0,2,(s.lost n).oB c j g 0) from rfl];refine wB ?_;rw [BU];refine wB ?_;rw [← BU];refine aZ rfl rfl ((Ld (cK g6 [.int .i64 2,.int .i64 ((j+1:Nat):Int),.int .i64 0,yv] PG (0,0)::cH [(yv,1::eU g)]::R) e w c m (s.lost n) ev yv j g ((XM R).cL zE) nW hm).cL (cj (show cz _ (dR w c (s.lost n) { a with nl:=iY a.nl n } M (cK g6 [.int .i64 2,.int .i64 ((j+1:Nat):Int),.int .i64 0,yv] PG (0,0)::cH [(yv,1::eU g)]::R)) from zE) (dU pS he))) ?_;rintro _ _ ⟨rfl,rfl⟩
  generalize (s.lost n).oB c j g 0=E
  refine wB ?_;refine aY (dO w c (m+1) ((s.lost n).uM c j g 0) ev::R) rfl zE ⟨rfl,[],rF.nil,by rw [aK]⟩
 | no j z =>
  obtain ⟨rfl,rfl,rfl,rfl⟩:yk=2∧yf=((j+1:Nat):Int)∧yt=0∧yb=0::be z 4:=by
   simpa [gV.d,fZ.d,Prod.ext_iff] using GC
  have hj:j<c.k:=nW.2.1;rw [show (s.lost n).Ia c (.no j z)=((s.lost n).uM c j fW z,2,(s.lost n).oB c j fW z) from rfl];refine wB ?_;rw [BU];refine wB ?_;rw [← BU];refine aZ rfl rfl ((NG (cK g6 [.int .i64 2,.int .i64 ((j+1:Nat):Int),.int .i64 0,yv] PG (0,0)::cH [(yv,0::be z 4)]::R) e w c m (s.lost n) ev yv j z ((XM R).cL zE) nW hm).cL (cj (show cz _ (dR w c (s.lost n) { a with nl:=iY a.nl n } M (cK g6 [.int .i64 2,.int .i64 ((j+1:Nat):Int),.int .i64 0,yv] PG (0,0)::cH [(yv,0::be z 4)]::R)) from zE) (dU pS he))) ?_;rintro _ _ ⟨rfl,rfl⟩
  generalize (s.lost n).oB c j fW z=E
  refine wB ?_;refine aY (dO w c (m+1) ((s.lost n).uM c j fW z) ev::R) rfl zE ⟨rfl,[],rF.nil,by rw [aK]⟩
 | off b =>
  obtain ⟨rfl,rfl,rfl,rfl⟩:yk=3∧yf=0∧yt=((c.k+1:Nat):Int)∧yb=fS b:=by
   simpa [gV.d,fZ.d,Prod.ext_iff] using GC
  rw [show (s.lost n).Ia c (.off b)=((s.lost n).off c b,3,(s.lost n).kg c b) from rfl];refine wB ?_;rw [BU];refine wB ?_;rw [← BU];refine aZ rfl rfl ((AG (cK g6 [.int .i64 3,.int .i64 0,.int .i64 ((c.k+1:Nat):Int),yv] PG (0,0)::cH [(yv,fS b)]::R) e w c m (s.lost n) ev yv b ((XM R).cL zE) nW hm).cL (cj (show cz _ (dR w c (s.lost n) { a with nl:=iY a.nl n } M (cK g6 [.int .i64 3,.int .i64 0,.int .i64 ((c.k+1:Nat):Int),yv] PG (0,0)::cH [(yv,fS b)]::R)) from zE) (dU pS he))) ?_;rintro _ _ ⟨rfl,jP,DA,rfl⟩
  generalize (s.lost n).kg c b=E
  refine wB ?_;refine aY (dO w c (m+1) ((s.lost n).off c b) (ev++jP)::R) rfl zE ⟨rfl,jP,DA,rfl⟩
theorem FH (w:Nat) (c:dh) (m:Nat) (s:da) (ev:List (Int × Int × Int × dv)) (k to wh:Int) (n:Nat) (v:Value) (hv:v.oneCell'=true) (hn:n≤1000000) (hm:m<250) :
 Ct prog 90 #[pt w,.agg (ot k n to wh v).toArray] e (dO w c m s ev::R) (fun v' L'=>v'=.tuple #[.int .i64 0,.int .i64 (s.PL n).2]∧L'=dO w c (m+1) (s.PL n).1 ev::R):=by
 refine gY fun a M ha he=>?_
 have eJ:=ha.st;have Pb:=eJ.KG
 have C4:a.wx.length=c.k:=by
  obtain ⟨vl,vu,vs,Wn,K9,-⟩:=ha.all.all;exact K9
 have Ga:=eJ.xC.k;have VA:=eJ.fd.KG;have er:a.ok M w c (m+1) s:=ha.to (eJ.next hm) (Nat.le_succ m) rfl rfl;refine a7 ((bb (show cQ (dR w c s a M R) (dJ pX 1 a.lZ a.wx.length (a.wx.map jJ)) _ from zP)).shape zo) ?_;rintro ⟨⟨HK,cw,BU,wG,IU,Ap,uW⟩,_⟩;refine a8 (args:=[_,_]) func90 rfl ntmps90 results90 rfl ?_;unfold da.PL
 (repeat (refine wA ?_;intros))
 refine aZ rfl rfl (Ct.at zP (Fi _ e a.mB (cZ c) c.retry s.n s.fd)) ?_;rintro v0 _ ⟨lU,hy⟩
 by_cases hE:s.fd.dk=[]
 ·obtain ⟨rfl,rfl⟩:=lU hE;rw [aI hE]
  (repeat (refine wA ?_;intros))
  refine aY (dO w c (m+1) s ev::R) rfl (cj (show cz _ (dR w c s a M R) from zE) (dU er he)) ⟨rfl,rfl⟩
 obtain ⟨N,ur,up,uq,vg,rfl,hN,hG,rfl⟩:=hy hE;rw [aB hE];obtain ⟨⟨pP,O9,lm,BA⟩,h0,HV⟩:=eJ.done hE;have Ub:∀ g∈s.fd.dk,g.sig.fits:=fun g hg=>(eJ.fd.dk g hg).2.fits
 refine bn (cn (hN.root.cL (cG zP))) fun o1=>?_
 refine bn (hN.sig.cL (cG zP)).parts.one fun o2=>?_
 refine bn (hN.sig.cL (cG zP)).path.one fun o3=>?_
 refine bn (hG.cL (cG zP)).one fun o4=>?_
 by_cases hi:n<s.fd.done.dc.size
 rotate_left
 ·rw [aI hi]
  (repeat (refine wA ?_;intros))
  rename_i g3 g6;refine bk (id:=4) [14] (cK g3 (ot k n to wh v) eM (0,0)::cK g6 (dS s.fd.done ur up uq) rE (0,0)::cK w (a.cells c s) di (0,0)::R) mixed ?_
  (refine tM 0 ?_;refine tN 1 ?_;refine tF 2 ?_;refine tL 3 ?_;refine tF 4 ?_;refine tL 5 ?_;refine tJ 6 ?_;refine tM 7 ?_)
  refine A.two 8 12 rfl rfl rfl rfl zK ?_ ?_
  ·refine bg rfl rfl (Ct.at zP (po _ e a.gl a.ld a.lk (cS 0) s.ls n ur up uq vg s.fd.done s.fd.dk (hN.cL (cG zP)) O9.fits (hG.cL (cG zP)) Ub zo zo zo hn)) ?_;rintro _ _ ⟨-,hr⟩;obtain ⟨rfl,rfl⟩:=hr hi;refine ⟨fun _=>zE,?_⟩
   (refine tM 9 ?_;refine tk 10 _ rfl (bl rfl rfl) ?_;refine tk 11 _ rfl (bl rfl rfl) ?_)
   refine tO 12 ?_;refine bQ (cs:=pL) rfl rfl fun g9=>⟨fun _=>zE,?_⟩
   refine tO 13 ?_;refine zg ?_;refine ⟨fun _=>zE,?_⟩
   ((refine tO 14 ?_;refine dV (bj rfl) ?_))
   refine bf zK ?_;refine wB ?_;refine aY (dO w c (m+1) s ev::R) rfl (cj (show cz _ (dR w c s a M R) from zE) (dU er he)) ⟨rfl,rfl⟩
  ·refine bQ (cs:=pL) rfl rfl fun g9=>⟨fun _=>zE,?_⟩
   refine tO 8 ?_;refine bg rfl rfl (Ct.at zP (po _ e a.gl a.ld a.lk (cS 0) s.ls n ur up uq vg s.fd.done s.fd.dk (hN.cL (cG zP)) O9.fits (hG.cL (cG zP)) Ub zo zo zo hn)) ?_;rintro _ _ ⟨-,hr⟩;obtain ⟨rfl,rfl⟩:=hr hi;refine ⟨fun _=>zE,?_⟩
   (refine tM 9 ?_;refine tk 10 _ rfl (bl rfl rfl) ?_;refine tk 11 _ rfl (bl rfl rfl) ?_)
   refine tO 13 ?_;refine zg ?_;refine ⟨fun _=>zE,?_⟩
   ((refine tO 14 ?_;refine dV (bj rfl) ?_))
   refine bf zK ?_;refine wB ?_;refine aY (dO w c (m+1) s ev::R) rfl (cj (show cz _ (dR w c s a M R) from zE) (dU er he)) ⟨rfl,rfl⟩
 rw [aB (not_not_intro hi)];obtain ⟨PJ,TO,hch,nW⟩:=da.BV eJ hE hi;have oP:=pj PJ;obtain ⟨B,hB⟩:∃ B:wQ,B=s.mj n:=⟨_,rfl⟩
 (repeat' first|refine W.pF (id:=5) (fun q:Nat × cJ × Value × Value × Value × Value × Value × Value=>[(0,pt w),(9,pt q.1),(10,.int .i64 0)]) (fun q=>cK q.1 (sF B q.2.2.1 q.2.2.2.1 q.2.2.2.2.1 q.2.2.2.2.2.1 q.2.2.2.2.2.2.1 q.2.2.2.2.2.2.2) rC (0,0)::q.2.1::dR w c s a M R) (fun q=>rQ [q.2.1] q.2.2.1 q.2.2.2.1 q.2.2.2.2.1 q.2.2.2.2.2.1 q.2.2.2.2.2.2.1 q.2.2.2.2.2.2.2 B) ?_ ?_|refine Za ?_|refine Zb ?_|apply Zc|apply Zd|apply Ze|apply Zf|refine Zy ?_|refine Yh fun _=>?_|refine YA ?_|apply YC|refine YN ?_|refine YR ?_|fail)
 rotate_left
 ·refine ⟨?_⟩;rename_i g3 g6;refine bk (id:=4) [14] (cK g3 (ot k n to wh v) eM (0,0)::cK g6 (dS s.fd.done ur up uq) rE (0,0)::cK w (a.cells c s) di (0,0)::R) mixed ?_
  (refine tM 0 ?_;refine tN 1 ?_;refine tF 2 ?_;refine tL 3 ?_;refine tF 4 ?_;refine tL 5 ?_;refine tJ 6 ?_;refine tM 7 ?_)
  refine A.two 8 12 rfl rfl rfl rfl zK ?_ ?_
  ·refine bg rfl rfl (Ct.at zP (po _ e a.gl a.ld a.lk (cS 0) s.ls n ur up uq vg s.fd.done s.fd.dk (hN.cL (cG zP)) O9.fits (hG.cL (cG zP)) Ub zo zo zo hn)) ?_;rintro _ _ ⟨hr,-⟩;obtain ⟨N2,um,vp,vr,va,vq,vc,rfl,nk,rfl⟩:=hr hi;rw [show (⟨s.ls.cF.getD n [],n,s.fd.done.dc.size,iG ((s.ls.cF.take s.fd.done.dc.size).map cY) n,s.fd.done,s.fd.dk⟩:wQ)=B from hB.symm] at nk ⊢
   refine ⟨fun _=>zE,?_⟩;refine A.cB (cn (nk.fi.cL (cG zP))) fun q1=>?_
   refine A.cB (nk.path.cL (cG zP)).one fun q2=>?_
   refine A.cB (cn (nk.kO.root.cL (cG zP))) fun q3=>?_
   refine A.cB (nk.kO.sig.cL (cG zP)).parts.one fun q4=>?_
   refine A.cB (nk.kO.sig.cL (cG zP)).path.one fun q5=>?_
   refine A.cB (nk.gs.cL (cG zP)).one fun q6=>?_
   (refine tM 9 ?_;refine tk 10 _ rfl (bl rfl rfl) ?_;refine tk 11 _ rfl (bl rfl rfl) ?_)
   refine tO 12 ?_;refine bQ (cs:=pL) rfl rfl fun g9=>⟨fun _=>zE,?_⟩
   refine tO 13 ?_;refine zg ?_;refine ⟨fun _=>zE,?_⟩
   ((refine tO 14 ?_;refine dV (bj rfl) ?_))
   refine bf zK ?_;exact bJ (g9,N2,um,vp,vr,va,vq,vc) nk zS zE
  ·refine bQ (cs:=pL) rfl rfl fun g9=>⟨fun _=>zE,?_⟩
   refine tO 8 ?_;refine bg rfl rfl (Ct.at zP (po _ e a.gl a.ld a.lk (cS 0) s.ls n ur up uq vg s.fd.done s.fd.dk (hN.cL (cG zP)) O9.fits (hG.cL (cG zP)) Ub zo zo zo hn)) ?_;rintro _ _ ⟨hr,-⟩;obtain ⟨N2,um,vp,vr,va,vq,vc,rfl,nk,rfl⟩:=hr hi;rw [show (⟨s.ls.cF.getD n [],n,s.fd.done.dc.size,iG ((s.ls.cF.take s.fd.done.dc.size).map cY) n,s.fd.done,s.fd.dk⟩:wQ)=B from hB.symm] at nk ⊢
   refine ⟨fun _=>zE,?_⟩;refine A.cB (cn (nk.fi.cL (cG zP))) fun q1=>?_
   refine A.cB (nk.path.cL (cG zP)).one fun q2=>?_
   refine A.cB (cn (nk.kO.root.cL (cG zP))) fun q3=>?_
   refine A.cB (nk.kO.sig.cL (cG zP)).parts.one fun q4=>?_
   refine A.cB (nk.kO.sig.cL (cG zP)).path.one fun q5=>?_
   refine A.cB (nk.gs.cL (cG zP)).one fun q6=>?_
   (refine tM 9 ?_;refine tk 10 _ rfl (bl rfl rfl) ?_;refine tk 11 _ rfl (bl rfl rfl) ?_)
   refine tO 13 ?_;refine zg ?_;refine ⟨fun _=>zE,?_⟩
   ((refine tO 14 ?_;refine dV (bj rfl) ?_))
   refine bf zK ?_;exact bJ (g9,N2,um,vp,vr,va,vq,vc) nk zS zE
 rintro ⟨g9,N2,um,vp,vr,va,vq,vc⟩ nk;dsimp only at nk ⊢
 rw [← hB] at PJ oP nW ⊢
 refine wB ?_;refine aZ rfl rfl (C3 _ e um vp vr va vq vc B (nk.cL (cG zP)) PJ) ?_;rintro _ _ ⟨eI,k3,rfl,rfl⟩;refine wB ?_;refine bk (id:=10) [] (cK w (a.cells c s) di (0,0)::R) mixed ?_
 (refine tM 0 ?_;refine tN 1 ?_;refine tF 2 ?_;refine tL 3 ?_;refine tM 4 ?_;refine tN 5 ?_;refine tF 6 ?_;refine tL 7 ?_)
 rw [BU]
 (refine tk 8 _ rfl (bM rfl) ?_;refine tk 9 _ rfl (cD.kP rfl rfl zo) ?_;refine tM 10 ?_)
 rw [← BU,show ((a.wx.length:Int)+1)=((c.k+1:Nat):Int) by omega];refine tk 11 _ rfl (bL rfl zF) ?_;refine tO 12 ?_;refine bg rfl rfl (Ct.at zP (sO _ e a.gn c.k a.nl s.eh (.off B) ⟨3,0,((c.k+1:Nat):Int),.slice eI (fS B).length k3,fS B⟩ ha.eh rfl (bb (show cQ _ (cR (.slice eI (fS B).length k3) (fS B)) _ from zP)) zd eJ.room)) ?_;rintro _ _ ⟨rfl,Jg,ND,rfl⟩;refine ⟨fun _=>zE,?_⟩;have nG:ee.ok { a with nl:=Jg } M w c (m+1) (s.send (.off B)):=er.PF (da.Jf er.st nW) (aS _) rfl ND
 by_cases hf:s.eh.length<32
 ·rw [ay hf,aI hf]
  (refine tk 13 _ rfl (cD.jY rfl) ?_)
  refine bf zK ?_;refine wB ?_;refine aY (dO w c (m+1) (s.send (.off B)) ev::R) rfl (cj (show cz _ (dR w c (s.send (.off B)) { a with nl:=Jg } M R) from zE) (dU nG he)) ⟨rfl,rfl⟩
 ·rw [aq hf,aB hf];have Gb:s.send (.off B)=s:=by unfold da.send;rw [aB hf]
  rw [Gb] at nG
  (refine tk 13 _ rfl (cD.p7 rfl) ?_)
  refine bf zK ?_;refine wB ?_;refine aY (dO w c (m+1) s ev::R) rfl (cj (show cz _ (dR w c s { a with nl:=Jg } M R) from zE) (dU nG he)) ⟨rfl,rfl⟩
theorem Lh (w:Nat) (c:dh) (m:Nat) (s:da) (ev:List (Int × Int × Int × dv)) (k n to wh:Int) (v:Value) (hv:v.oneCell'=true) (hm:m<250) :
 Ct prog 86 #[pt w,.agg (ot k n to wh v).toArray] e (dO w c m s ev::R) (fun v' L'=>v'=.tuple #[.int .i64 (s.SM c:Int),.int .i64 0]∧L'=dO w c (m+1) (s.zD c) ev::R):=by
 refine gY fun a M ha he=>?_
 have eJ:=ha.st;have m6:=da.Nv eJ hm;have ht:=eJ.time;have hn:=eJ.nb;have SI:=eJ.steps;have hk:=eJ.xC.k;have lm:=eJ.short;refine a8 (args:=[_,_]) func86 rfl ntmps86 results86 rfl ?_
 (repeat (refine wA ?_;intros))
 rename_i g3;refine bk (id:=2) [] (cK w (a.cells c s) di (0,0)::R) mixed ?_
 (refine tM 0 ?_;refine tN 1 ?_;refine tF 2 ?_;refine tL 3 ?_;refine tM 4 ?_;refine tN 5 ?_;refine tF 6 ?_;refine tL 7 ?_;refine tM 10 ?_)
 refine tO 8 ?_;have BC:=fun L=>Fg L e a.mB (cZ c) c.retry s.n s.fd s.time zo zo
 rw [lh] at BC
 refine bg rfl rfl (Ct.at zP (BC _)) ?_;rintro _ _ ⟨ad,co,rfl,rfl⟩;refine ⟨fun _=>zE,?_⟩
 (refine tk 9 _ rfl (bM rfl) ?_)
 refine bf zK ?_;have WH:=Jc (now:=s.time) eJ.fd;have Vk:s.fd.cur=none→s.fd.la s.time=[]:=fun h=>zG (k:=c.k) (n:=s.n) (eJ.idle h)
 obtain ⟨s1,fQ⟩:∃ s1:da,s1={ s with fd:=s.fd.kH c.retry s.time,n:=s.n+c.k }:=⟨_,rfl⟩
 have SP:s.zD c={ s1 with eh:=mi s.ls.cF s.fd.dT (s.fd.la s.time) s.eh }:=by rw [fQ];rfl
 obtain ⟨q1,-,-,-⟩:=zH c.retry s.time s.fd;have IY:s1.fd.dT=s.fd.dT:=by rw [fQ];exact Db q1
 have B6:s1.fd.cur=s.fd.cur:=by rw [fQ];exact q1
 have LI:s1.fd=s.fd.kH c.retry s.time:=by rw [fQ]
 have hN:s.SM c=(mi s.ls.cF s.fd.dT (s.fd.la s.time) s.eh).length - s.eh.length:=rfl;rw [hN]
 generalize XF:s.fd.la s.time=rq at *
 refine wB ?_;refine bq (ι:=Nat × ee) (fun j=>[(0,pt w),(6,.int .i64 (((mi s.ls.cF s.fd.dT (rq.take j.1) s.eh).length - s.eh.length:Nat):Int)),(24,.slice ad rq.length co),(25,.int .i64 (rq.length:Int)),(26,.int .i64 (j.1:Int))]) (fun j=>uD (.slice ad rq.length co) rq::dR w c s1 j.2 M R) (fun j=>j.1≤rq.length∧j.2={ a with nl:=j.2.nl }∧j.2.nl.map gV.d=(mi s.ls.cF s.fd.dT (rq.take j.1) s.eh).map (fZ.d c.k)) (fun j=>rq.length - j.1) (0,a) ⟨aH _,rfl,ha.eh⟩ (by rw [List.take_zero];simp only [mi,Nat.sub_self];exact zS) (by rw [fQ];exact zE) ?_;rintro ⟨i,b⟩ ⟨hi,T0,BI⟩;dsimp only at hi T0 BI ⊢
 have hln:=(uI s.ls.cF s.fd.dT (rq.take i) s.eh eJ.room)
 have abC:b.nl.length=(mi s.ls.cF s.fd.dT (rq.take i) s.eh).length:=by have:=congrArg List.length BI;simpa using this
 by_cases cO:i<rq.length
 rotate_left
 ·have hii:rq.take i=rq:=aG zo;rw [hii] at BI hln ⊢
  have er:ee.ok b M w c (m+1) (s.zD c):=by
   rw [SP,T0];exact { ha with eh:=by rw [BI],st:=by rw [← SP];exact m6,ec:=Nat.le_trans ha.ec (Nat.mul_le_mul_left _ (Nat.le_succ m)),all:=⟨ha.all.all⟩,root:=by rw [fQ];exact ha.root }
  generalize (mi s.ls.cF s.fd.dT rq s.eh).length - s.eh.length=cnt at *
  refine wB ?_;refine aY (dO w c (m+1) (s.zD c) ev::R) rfl (cj (show cz _ (dR w c (s.zD c) b M R) from ?_) (dU er (by rw [T0];exact he))) ⟨rfl,rfl⟩;rw [SP];exact zE
 have ft:rq.take (i+1)=rq.take i++[rq[i]'cO]:=aD cO;have A9:=BS s.ls.cF s.fd.dT (rq[i]'cO) (rq.take i) s.eh;rw [← ft] at A9
 have Kt:=WH _ (az cO)
 have HG:∃ y,s.fd.cur=some y:=by
  cases hc:s.fd.cur with
  | none=>rw [Vk hc] at cO;exact absurd cO (Nat.not_lt_zero _)
  | some y=>exact ⟨y,rfl⟩
 obtain ⟨y,hy⟩:=HG;have XG:s.fd.dT=y:=by unfold cP.dT;rw [hy];rfl
 have Un:=(eJ.cur y hy).1;rw [XG] at IY A9 Kt BI hln abC ⊢
 refine W.cB ((bb (show cQ _ (uD (.slice ad rq.length co) rq) _ from zP)).shape zo) ?_;rintro ⟨⟨lL,c',lV,wG,IU,Ap,uW⟩,_⟩
 cases lV
 rcases uW with uW|⟨gq,oq,rfl⟩
 ·omega
 have HX:∀ (L R':List cJ),cQ L (uD (.slice (some ⟨gq,oq,none⟩) rq.length co) rq) R'→dZ L gq (oq+i*2) (KS (rq[i]'cO)):=fun L R' pl=>dZ.elem (bb pl) V5 (ae cO)
 have hql:rq.length≤1000:=by
  have h1:(rq.map (·.1)).Nodup:=by
   rw [← XF];unfold cP.la;rw [List.map_map,show ((fun x:Nat × Nat=>x.1) ∘ fun w=>(w,(s.fd.st.getD w lq).size))=id from rfl,List.map_id];have h2:=(ri s.time s.fd.ag.length s.fd.ag).1.nodup_iff.2 eJ.fd.CN;exact (List.nodup_append.1 h2).1
  have h2:=oe c.k (rq.map (·.1)) h1 (fun x hx=>by obtain ⟨q,hq,rfl⟩:=aE.1 hx;exact (WH q hq).1);rw [ab] at h2
  omega
 generalize rq[i]'cO=r at *
 obtain ⟨z,fr⟩:=r;dsimp only at Kt HX A9
 dsimp only [KS] at HX
 generalize hA:mi s.ls.cF y (rq.take i) s.eh=nq at *
 have Qs:=Un.2.2.1;refine wB ?_;refine O.dy rfl (HX _ _ zP) rfl rfl ?_
 (repeat (refine wA ?_;intros))
 refine aZ rfl rfl (Ct.at zP (HZ _ e b.mB (cZ c) c.retry s1.n s1.fd)) ?_;rintro _ _ ⟨N,ur,up,uq,rfl,SL,rfl⟩;rw [IY] at SL ⊢
 rw [B6,hy];refine bn (cn (SL.root.cL (cG zP))) fun o3=>?_
 refine bn (SL.sig.cL (cG zP)).parts.one fun o4=>?_
 refine bn (SL.sig.cL (cG zP)).path.one fun o5=>?_
 have qh:s1.ls=s.ls:=by rw [fQ]
 have vK:=qK (l:=s.ls.cF.take y.dc.size) (n:=fr) (by rw [aF];omega)
 (repeat' first|refine W.pF (id:=7) (fun j:(Nat × Nat × Nat) × List ej × Option Addr × Nat=>[(0,pt w),(6,.int .i64 ((nq.length - s.eh.length:Nat):Int)),(8,pt j.1.1),(9,pt j.1.2.1),(11,pt j.1.2.2),(12,.int .i64 0),(24,.slice (some ⟨gq,oq,none⟩) rq.length co),(25,.int .i64 (rq.length:Int)),(26,.int .i64 (i:Int))]) (fun j=>cK j.1.2.2 [.int .i64 (fr:Int),.int .i64 (y.dc.size:Int),.slice j.2.2.1 j.2.1.length j.2.2.2] 102 (0,0)::cK j.1.2.1 (dS y ur up uq) rE (0,0)::cK j.1.1 [.int .i64 (z:Int),.int .i64 (fr:Int)] Ff (0,0)::cU (.slice j.2.2.1 j.2.1.length j.2.2.2) j.2.1::cH j.2.1::N::uD (.slice (some ⟨gq,oq,none⟩) rq.length co) rq::dR w c s1 b M R) (fun j=>j.2.1.map (·.2)=iX ((s.ls.cF.take y.dc.size).map cY) fr) ?_ ?_|refine Za ?_|refine Zb ?_|apply Ze|apply Zf|refine Yh fun _=>?_|refine YN ?_|refine YR ?_|fail)
 rotate_left
 ·refine ⟨?_⟩;rename_i g8 g9;refine bk (id:=6) [15] (cK g9 (dS y ur up uq) rE (0,0)::cK g8 [.int .i64 (z:Int),.int .i64 (fr:Int)] Ff (0,0)::cK w (b.cells c s1) di (0,0)::N::R) mixed ?_
  (refine tM 0 ?_;refine tN 1 ?_;refine tF 2 ?_;refine tL 3 ?_;refine tF 4 ?_;refine tL 5 ?_;refine tF 6 ?_;refine tF 7 ?_;refine tL 8 ?_)
  refine A.two 9 13 rfl rfl rfl rfl zK ?_ ?_
  ·refine bg rfl rfl (Ct.at zP (yQ _ e b.gl b.ld b.lk (cS 0) s1.ls fr y.dc.size (by rw [qh];exact Qs) Kt.2)) ?_;rintro _ _ ⟨dW,k2,out,rfl,lr,rfl⟩;rw [qh] at lr
   refine ⟨fun _=>zE,?_⟩
   (refine tM 10 ?_;refine tk 11 _ rfl (bl rfl rfl) ?_;refine tk 12 _ rfl (bl rfl rfl) ?_)
   refine tO 13 ?_;refine bQ (cs:=[.int .i64 0,.int .i64 0,nY]) rfl rfl fun DG=>⟨fun _=>zE,?_⟩
   refine tO 14 ?_;refine zg ?_;refine ⟨fun _=>zE,?_⟩;refine tO 15 ?_;refine dV (bj rfl) ?_;refine bf zK ?_;exact bJ ((g8,g9,DG),out,dW,k2) lr zS zE
  ·refine bQ (cs:=[.int .i64 0,.int .i64 0,nY]) rfl rfl fun DG=>⟨fun _=>zE,?_⟩
   refine tO 9 ?_;refine bg rfl rfl (Ct.at zP (yQ _ e b.gl b.ld b.lk (cS 0) s1.ls fr y.dc.size (by rw [qh];exact Qs) Kt.2)) ?_;rintro _ _ ⟨dW,k2,out,rfl,lr,rfl⟩;rw [qh] at lr
   refine ⟨fun _=>zE,?_⟩
   (refine tM 10 ?_;refine tk 11 _ rfl (bl rfl rfl) ?_;refine tk 12 _ rfl (bl rfl rfl) ?_)
   refine tO 14 ?_;refine zg ?_;refine ⟨fun _=>zE,?_⟩;refine tO 15 ?_;refine dV (bj rfl) ?_;refine bf zK ?_;exact bJ ((g8,g9,DG),out,dW,k2) lr zS zE
 rintro ⟨⟨g8,g9,DG⟩,out,dW,k2⟩ lr;dsimp only at lr ⊢
 refine wB ?_;refine aZ rfl rfl (jg _ e) ?_;rintro _ _ ⟨gw,rfl,rfl⟩;refine wB ?_;refine aZ rfl rfl (Bh _ e gw [] ur up uq y (SL.cL (cG zP)) Un.1.1 Un.2.1 (by simp)) ?_;rintro _ _ ⟨rfl,rfl⟩;have T6:=iN Un.1.1 Un.2.1;have Wm:=Un.1.1.1;have Em:out.length≤16:=by have:=congrArg List.length lr;rw [ab] at this;omega
 rw [List.nil_append];refine wB ?_;refine aZ rfl rfl (gF _ e gw _ fr zo zo) ?_;rintro _ _ ⟨rfl,rfl⟩;refine wB ?_;refine aZ rfl rfl (gF _ e gw _ y.dc.size zo (by rw [aa,cX];omega)) ?_;rintro _ _ ⟨rfl,rfl⟩;refine wB ?_;rw [qo (show out.length<256 by omega)];refine aZ rfl rfl (mw _ e gw (hO y++be fr 4++be y.dc.size 4) (UInt8.ofNat out.length) (by rw [aa,aa,cX,cX];omega)) ?_;rintro _ _ ⟨rfl,rfl⟩;refine wB ?_;have abD:(hO y++be fr 4++be y.dc.size 4++[UInt8.ofNat out.length]).length=2225:=by simp only [aa,cX,aj];omega
 have WJ:hO y++be fr 4++be y.dc.size 4++[UInt8.ofNat out.length]++(out.map (·.2)).flatten=qI y fr y.dc.size (out.map (·.2)):=by
  unfold qI;rw [ab];simp only [aM,List.cons_append,List.nil_append,List.singleton_append]
 have WK:∀ x∈out.map (·.2),x.length=32:=by rw [lr];exact vK.2
 have DB:=fc WK;rw [ab] at DB
 generalize Me:hO y++be fr 4++be y.dc.size 4++[UInt8.ofNat out.length]=pre at *
 refine bq (ι:=Nat) (fun j=>[(0,pt w),(6,.int .i64 ((nq.length - s.eh.length:Nat):Int)),(8,pt g8),(13,pt gw),(24,.slice (some ⟨gq,oq,none⟩) rq.length co),(25,.int .i64 (rq.length:Int)),(26,.int .i64 (i:Int)),(74,.slice dW out.length k2),(75,.int .i64 (out.length:Int)),(76,.int .i64 (j:Int))]) (fun j=>Writer gw (pre++((out.map (·.2)).take j).flatten)::cU (.slice dW out.length k2) out::cH out::cK g8 [.int .i64 (z:Int),.int .i64 (fr:Int)] Ff (0,0)::uD (.slice (some ⟨gq,oq,none⟩) rq.length co) rq::dR w c s1 b M R) (fun j=>j≤out.length) (fun j=>out.length - j) 0 (aH _) zS (by rw [List.take_zero,List.flatten_nil,aK];exact zE) ?_;intro j hj;have afL:=CZ (l:=out.map (·.2)) (i:=j)
 by_cases xh:j<out.length
 ·refine W.cB ((bb (show cQ _ (cU (.slice dW out.length k2) out) _ from zP)).shape zo) ?_;rintro ⟨⟨lL,c',lV,wG,IU,Ap,uW⟩,_⟩
  cases lV
  rcases uW with uW|⟨gr,or',rfl⟩
  ·omega
  have jx:∀ L R',cQ L (cU (.slice (some ⟨gr,or',none⟩) out.length k2) out) R'→Rd L ⟨gr,or'+j,none⟩ (out[j]'xh).1:=fun L R' p=>(bb p).elem (by rw [aL,ae xh];rfl)
  have si:∀ L R',cQ L (cH out) R'→db L (out[j]'xh).1 (out[j]'xh).2:=fun L R' p=>dP.dY p _ (az xh)
  have WL:((out.map (·.2)).take (j+1)).flatten=((out.map (·.2)).take j).flatten++(out[j]'xh).2:=by
   rw [vJ (by rw [ab];exact xh),List.getElem_map]
  have hlx:=WK _ (aE.2 ⟨_,az xh,rfl⟩)
  generalize out[j]'xh=x at *
  obtain ⟨xv,xb⟩:=x;dsimp only at jx si WL hlx
  refine W.cB (cn (si _ _ zP)) fun ox=>?_
  refine wB ?_;refine bV rfl (jx _ _ zP) rfl ?_;refine wB ?_;refine aZ rfl rfl (hH _ e gw _ xb xv (si _ _ zP) (by rw [aa];omega)) ?_;rintro _ _ ⟨rfl,rfl⟩;refine wB ?_;exact bi (j+1) xh zo zS (by rw [WL,← aM];exact zE)
 rw [aG (by rw [ab];omega),WJ];have rL:(qI y fr y.dc.size (out.map (·.2))).length≤100000:=by rw [← WJ,aa,abD,DB];omega
 refine wB ?_;have hzk:=Kt.1
 have WN:∀ v2:Value,nq.length<32→(b.nl++[(⟨1,0,((z:Int)+1),v2,qI y fr y.dc.size (out.map (·.2))⟩:gV)]).map gV.d=(mi s.ls.cF y (rq.take (i+1)) s.eh).map (fZ.d c.k):=fun v2 h=>by
  rw [A9,aI h,ah,ah,BI];unfold PA;rw [← lr]
  rfl
 have abE:¬ nq.length<32→mi s.ls.cF y (rq.take (i+1)) s.eh=nq:=fun h=>by rw [A9,aB h]
 generalize hbd:qI y fr y.dc.size (out.map (·.2))=bd at *
 refine bk (id:=18) [] (cK g8 [.int .i64 (z:Int),.int .i64 (fr:Int)] Ff (0,0)::cK w (b.cells c s1) di (0,0)::R) mixed ?_
 (refine tM 0 ?_;refine tN 1 ?_;refine tF 2 ?_;refine tL 3 ?_;refine tF 4 ?_;refine tL 5 ?_;refine tk 6 _ rfl (cD.kP rfl rfl zo) ?_;refine tM 7 ?_)
 refine tO 8 ?_;refine bg rfl rfl (hI _ e gw bd zo) ?_;rintro _ _ ⟨eI,k3,rfl,rfl⟩;refine ⟨fun _=>zE,?_⟩;refine tk 9 _ rfl (bL rfl zF) ?_;refine tO 10 ?_;refine bg rfl rfl (Ct.at zP (sM _ e b.gn 32 b.nl ⟨1,0,((z:Int)+1),.slice eI bd.length k3,bd⟩ (bb (show cQ _ (cR (.slice eI bd.length k3) bd) _ from zP)) zd zo zo)) ?_;rintro _ _ (⟨wb,rfl,v2,rfl⟩|⟨wb,rfl,rfl⟩)
 ·refine ⟨fun _=>zE,?_⟩;refine bf zK ?_;have hsn:=congrArg List.length (WN v2 zo);rw [ab,ab,aa,aj] at hsn
  have abF:((mi s.ls.cF y (rq.take (i+1)) s.eh).length - s.eh.length:Nat)=(nq.length - s.eh.length)+1:=by omega
  refine wB ?_;refine bi (i+1,{ b with nl:=b.nl++[⟨1,0,((z:Int)+1),v2,bd⟩] }) ⟨cO,by dsimp only;rw [T0],WN v2 zo⟩ zd (by dsimp only;rw [abF];exact zS) zE
 ·refine ⟨fun _=>zE,?_⟩;refine bf zK ?_;have hq:=abE zo;refine wB ?_;refine bi (i+1,b) ⟨cO,T0,by dsimp only;rw [hq];exact BI⟩ zd (by dsimp only;rw [hq];exact zS) zE
structure It where
 k:Nat
 n:Nat
 to:Nat
 b:dv
abbrev It.cells (x:It) (v:Value):List Value:=ot (x.k:Int) (x.n:Int) (x.to:Int) 0 v
def da.FI (c:dh) (s:da) (x:It):da × Int × Int:=match x.k with
 | 1=>(s.sub c x.b,(s.fs.fC c.f s.ls.cF x.b (s.time:Int)).1,0)
 | 2=>(s.Ol x.n,((s.Ol x.n).time:Int),0)
 | 3=>(s.H6 c,(s.K1 c:Int),0)
 | 4=>(s.ja c,if s.mY then (s.fk.dc.size:Int) else 0,if s.mY then 0 else 23)
 | 5=>(s.zD c,(s.SM c:Int),0)
 | 6=>s.Ad c x.n
 | 7=>(if x.n<s.eh.length then s.lost x.n else s,0,if x.n<s.eh.length then 0 else 1)
 | 8=>(s.NE x.n,0,s.FB x.n)
 | 9=>((s.PL x.n).1,0,(s.PL x.n).2)
 | _=>(s,0,1)
def XN (ev:List (Int × Int × Int × dv)) (s:da):Prop:=∀ x∈ev,(x.1=3∧∃ ch:jc,s.signed=some ch∧x=(3,(ch.size:Int),0,ch.root))∨(x.1≠3∧(x.1=7∨s.fs.recs≠[]))
theorem rF.d {ev:List (Int × Int × Int × dv)} {s:da} (h:rF ev s):XN ev s:=fun x hx=>.inr (h x hx)
theorem EvP.d {ev:List (Int × Int × Int × dv)} {s:da} (h:EvP ev s):XN ev s:=fun x hx=>by
 rcases h with rfl|⟨ch,h1,rfl⟩
 ·cases hx
 ·rw [an.1 hx];exact .inl ⟨rfl,ch,h1,rfl⟩
end Go.Proofs
namespace Go.Proofs
attribute [local irreducible] Bs.cD Bs.Do Bs.O Bs.W Bs.Fin Bs.A Bs.Ct Bs.cE Bs.Rd Bs.Sat Bs.cK Bs.Ob Bs.dJ Bs.View Bs.cz Bs.Ex Bs.dH Bs.Pu Bs.eY Bs.dM Bs.dZ
open Go.Bs
open Tryz
variable (R:List cJ) (e:World)
theorem z3 (w:Nat) (c:dh) (m:Nat) (s:da) (ev:List (Int × Int × Int × dv)) (x:It) (v:Value) (hv:db R v x.b) (hk:1≤x.k∧x.k≤9) (hn:x.n≤1000) (hb:x.b.length≤200) (hm:m<250) :
 Ct prog 25 #[ptr w,.agg (x.cells v).toArray] e (dO w c m s ev::R) (fun v' L'=>v'=.agg [.int .i64 (x.k:Int),.int .i64 (s.FI c x).2.1,.int .i64 (s.FI c x).2.2].toArray∧∃ X,(∃ jP,XN jP (s.FI c x).1∧X=dO w c (m+1) (s.FI c x).1 (ev++jP))∧L'=X::R):=by
 refine a7 (cn (hv.cL (show cz (dO w c m s ev::R) R from zE))) fun o=>?_
 obtain ⟨k,n,to,b⟩:=x;dsimp only at hv hk hn hb ⊢
 have h9:k=1∨k=2∨k=3∨k=4∨k=5∨k=6∨k=7∨k=8∨k=9:=by omega
 rcases h9 with rfl|rfl|rfl|rfl|rfl|rfl|rfl|rfl|rfl
 ·exact kJ R e w c m s ev 1 n to 0 v o _ (by decide) rfl _ _ _ fun R' f=>(K0 R' e w c m s ev _ n to 0 v b (hv.cL f) hb hm).mono fun v' L' h=>by
   obtain ⟨h1,jP,h2,h3⟩:=h;exact ⟨h1,_,⟨jP,h2.d,rfl⟩,h3⟩
 ·exact kJ R e w c m s ev 2 n to 0 v o _ (by decide) rfl _ _ _ fun R' f=>(H5 R' e w c m s ev _ to 0 n v o hn hm).mono fun v' L' h=>by
   obtain ⟨h1,h3⟩:=h;exact ⟨h1,_,⟨[],rF.nil.d,by rw [aK];rfl⟩,h3⟩
 ·exact kJ R e w c m s ev 3 n to 0 v o _ (by decide) rfl _ _ _ fun R' f=>(H7 R' e w c m s ev _ n to 0 v o hm).mono fun v' L' h=>by
   obtain ⟨h1,jP,h2,h3⟩:=h;exact ⟨h1,_,⟨jP,h2.d,rfl⟩,h3⟩
 ·exact kJ R e w c m s ev 4 n to 0 v o _ (by decide) rfl _ _ _ fun R' f=>(K4 R' e w c m s ev _ n to 0 v o hm).mono fun v' L' h=>by
   obtain ⟨h1,jP,h2,h3⟩:=h;exact ⟨h1,_,⟨jP,h2.d,rfl⟩,h3⟩
 ·exact kJ R e w c m s ev 5 n to 0 v o _ (by decide) rfl _ _ _ fun R' f=>(Lh R' e w c m s ev _ n to 0 v o hm).mono fun v' L' h=>by
   obtain ⟨h1,h3⟩:=h;exact ⟨h1,_,⟨[],rF.nil.d,by rw [aK];rfl⟩,h3⟩
 ·exact kJ R e w c m s ev 6 n to 0 v o _ (by decide) rfl _ _ _ fun R' f=>(AK R' e w c m s ev _ to 0 n v o zo hm).mono fun v' L' h=>by
   obtain ⟨h1,jP,h2,h3⟩:=h;exact ⟨h1,_,⟨jP,h2.d,rfl⟩,h3⟩
 ·exact kJ R e w c m s ev 7 n to 0 v o _ (by decide) rfl _ _ _ fun R' f=>(H8 R' e w c m s ev _ to 0 n v o zo hm).mono fun v' L' h=>by
   obtain ⟨h1,h3⟩:=h;exact ⟨h1,_,⟨[],rF.nil.d,by rw [aK];rfl⟩,h3⟩
 ·exact kJ R e w c m s ev 8 n to 0 v o _ (by decide) rfl _ _ _ fun R' f=>(Dh R' e w c m s ev _ to 0 n v o zo hm).mono fun v' L' h=>by
   obtain ⟨h1,h3⟩:=h;exact ⟨h1,_,⟨[],rF.nil.d,by rw [aK];rfl⟩,h3⟩
 ·exact kJ R e w c m s ev 9 n to 0 v o _ (by decide) rfl _ _ _ fun R' f=>(FH R' e w c m s ev _ to 0 n v o zo hm).mono fun v' L' h=>by
   obtain ⟨h1,h3⟩:=h;exact ⟨h1,_,⟨[],rF.nil.d,by rw [aK];rfl⟩,h3⟩
abbrev Ie:=Int × Int × Int
abbrev Ie.cells (o:Ie):List Value:=[.int .i64 o.1,.int .i64 o.2.1,.int .i64 o.2.2]
abbrev FJ.cells (t:It × Value):List Value:=It.cells t.1 t.2
theorem Th (t:It × Value):(FJ.cells t).length=5:=rfl
theorem NM (w:Nat) (c:dh) (m:Nat) (s:da) (ev:List (Int × Int × Int × dv)) (vl:Value) (ts:List (It × Value)) (Inv:da→List (Int × Int × Int × dv)→Prop) (f:da→It→da) (hl:cE R 5 vl ts.length (ts.flatMap FJ.cells)) (ht:∀ t∈ts,db R t.2 t.1.b) (hm:m+ts.length≤250) (h0:Inv s ev)
 (U6:∀ (R':List cJ) (t:It × Value) (m:Nat) (s:da) (ev:List (Int × Int × Int × dv)),t∈ts→m<250→db R' t.2 t.1.b→Inv s ev→Ct prog 25 #[ptr w,.agg (FJ.cells t).toArray] e (dO w c m s ev::R') (fun v' L'=>(∃ o:Ie,v'=.agg (Ie.cells o).toArray)∧∃ jP,Inv (f s t.1) jP∧L'=dO w c (m+1) (f s t.1) jP::R')) :
 Ct prog 26 #[ptr w,vl] e (dO w c m s ev::R) (fun v' L'=>∃ jP,Inv (ts.foldl (fun s t=>f s t.1) s) jP∧L'=dO w c (m+ts.length) (ts.foldl (fun s t=>f s t.1) s) jP::R):=by
 refine a7 ((hl.cL (show cz (dO w c m s ev::R) R from zE)).shape zo) ?_;rintro ⟨⟨ad,cl,rfl,h1,h2,h3,h4⟩,_⟩;simp only [maxLen] at h2
 refine a8 (args:=[_,_]) func26 rfl ntmps26 results26 rfl ?_;refine wB ?_;refine bq (ι:=List Ie × Option Addr × Nat × List (Int × Int × Int × dv)) (fun i=>[(0,ptr w),(5,.slice i.2.1 i.1.length i.2.2.1),(8,.slice ad ts.length cl),(9,.int .i64 (ts.length:Int)),(10,.int .i64 (i.1.length:Int))]) (fun i=>dJ Tg 3 (.slice i.2.1 i.1.length i.2.2.1) i.1.length (i.1.flatMap Ie.cells)::dO w c (m+i.1.length) ((ts.take i.1.length).foldl (fun s t=>f s t.1) s) i.2.2.2::R) (fun i=>i.1.length≤ts.length∧Inv ((ts.take i.1.length).foldl (fun s t=>f s t.1) s) i.2.2.2) (fun i=>ts.length - i.1.length) ([],none,0,ev) ⟨aH _,h0⟩ zS (du Tg 3) ?_;rintro ⟨os,ao,ko,Uo⟩ ⟨hle,hinv⟩;dsimp only at hle hinv ⊢
 by_cases cO:os.length<ts.length
 rotate_left
 ·have abG:os.length=ts.length:=by omega
  rw [abG,List.take_length] at hinv ⊢
  refine wB ?_;exact aY (dO w c (m+ts.length) (ts.foldl (fun s t=>f s t.1) s) Uo::R) rfl zE ⟨Uo,hinv,rfl⟩
 rcases h4 with h4|⟨gl,ol,rfl⟩
 ·omega
 have hg:ts[os.length]?=some (ts[os.length]'cO):=ae cO;have rv:ts[os.length]'cO∈ts:=az cO;have ft:ts.take (os.length+1)=ts.take os.length++[ts[os.length]'cO]:=aD cO
 generalize ts[os.length]'cO=t at hg rv ft
 have hr:dZ R gl (ol+os.length*5) (FJ.cells t):=dZ.elem hl Th hg;have QQ:=ht t rv;refine W.cB (cn (QQ.cL (show cz _ R from zE))) fun o=>?_
 generalize fQ:(ts.take os.length).foldl (fun s t=>f s t.1) s=s1 at hinv ⊢
 have m1:(ts.take (os.length+1)).foldl (fun s t=>f s t.1) s=f s1 t.1:=by rw [ft,List.foldl_append,fQ];rfl
 (repeat (refine wA ?_;intros))
 rename_i g7;refine aZ rfl rfl (Ct.at zP (U6 _ t (m+os.length) s1 Uo rv zo (QQ.cL zE) hinv)) ?_;rintro _ _ ⟨⟨ou,rfl⟩,Nt,WO,rfl⟩
 (repeat (refine wA ?_;intros))
 rename_i gb;refine bC (bo rfl rfl rfl (show cQ _ (dJ Tg 3 (.slice ao os.length ko) os.length (os.flatMap Ie.cells)) _ from zP) (bO (n:=3) (c:=1) zP rfl zl) rfl rfl zO zm zo fun ef k1 _=>?_)
 refine wB ?_;refine bi (os++[ou],ef,k1,Nt) ⟨by dsimp only;rw [aa,aj];omega,by dsimp only;rw [aa,aj,m1];exact WO⟩ (by dsimp only;rw [aa,aj];omega) ?_ ?_
 ·simp only [aa,aj];exact zS
 ·simp only [aa,aj,aW,aU,List.flatMap_nil,aK];rw [m1,← Nat.add_assoc];exact zE
theorem FK {w:Nat} {c:dh} {m:Nat} {s:da} {ev:List (Int × Int × Int × dv)} {L R:List cJ} {P:Program} {N:Fr} {all:Array Oper} {l:List Oper} {Q:fN} {σ:Env} {e:World} (p:cQ L (dO w c m s ev) R)
 (h:∀ (a:ee) (M:cJ),a.ok M w c m s→a.es.map (fun x=>(x.k,x.a,x.b,x.t))=ev→O P N all l Q σ e (dR w c s a M R)):O P N all l Q σ e L :=
 O.ex (f:=fun a:ee=>Ex fun M:cJ=>dH [Pu (a.es.map (fun x=>(x.k,x.a,x.b,x.t))=ev),uG w c m s a M]) (show cQ L (Ex fun a:ee=>Ex fun M:cJ=>dH [Pu (a.es.map (fun x=>(x.k,x.a,x.b,x.t))=ev),uG w c m s a M]) R from p) fun a=>O.ex .zero fun M=>O.fo (cT (M:=[Pu (a.es.map (fun x=>(x.k,x.a,x.b,x.t))=ev),uG w c m s a M]) (L:=R)) (bn (p:=a.es.map (fun x=>(x.k,x.a,x.b,x.t))=ev) (fun w x=>(jQ x).1) fun he=>O.fo (cz.drop aX) (O.fo (cT (M:=Pu (a.ok M w c m s)::dR w c s a M []) (L:=R)) (bn (p:=a.ok M w c m s) (fun w x=>(jQ x).1) fun hp=>O.fo (cz.drop aX) (h a M hp he))))
theorem nH (w:Nat) (c:dh) (s:da) (a:ee) :
 Ct prog 28 #[ptr w] e (cK w (a.cells c s) di (0,0)::R) (fun v' L'=>v'=ptr a.gu∧L'=cK w (a.cells c s) di (0,0)::R):=by
 refine a8 (args:=[_]) func28 rfl ntmps28 results28 rfl ?_;refine wB ?_;exact aY (cK w (a.cells c s) di (0,0)::R) rfl zE ⟨rfl,rfl⟩
theorem Dk (w:Nat) (c:dh) (s:da) (a:ee) :
 Ct prog 31 #[ptr w] e (cK w (a.cells c s) di (0,0)::R) (fun v' L'=>v'=ptr a.gl∧L'=cK w (a.cells c s) di (0,0)::R):=by
 refine a8 (args:=[_]) func31 rfl ntmps31 results31 rfl ?_;refine wB ?_;exact aY (cK w (a.cells c s) di (0,0)::R) rfl zE ⟨rfl,rfl⟩
theorem FL (w:Nat) (c:dh) (s:da) (a:ee) :
 Ct prog 59 #[ptr w] e (cK w (a.cells c s) di (0,0)::R) (fun v' L'=>v'=ptr a.gf∧L'=cK w (a.cells c s) di (0,0)::R):=by
 refine a8 (args:=[_]) func59 rfl ntmps59 results59 rfl ?_;refine wB ?_;exact aY (cK w (a.cells c s) di (0,0)::R) rfl zE ⟨rfl,rfl⟩
theorem rU (w:Nat) (c:dh) (s:da) (a:ee) :
 Ct prog 34 #[ptr w] e (cK w (a.cells c s) di (0,0)::R) (fun v' L'=>v'=ptr a.gm∧L'=cK w (a.cells c s) di (0,0)::R):=by
 refine a8 (args:=[_]) func34 rfl ntmps34 results34 rfl ?_;refine wB ?_;exact aY (cK w (a.cells c s) di (0,0)::R) rfl zE ⟨rfl,rfl⟩
theorem Li (w:Nat) (c:dh) (s:da) (a:ee) :
 Ct prog 61 #[ptr w] e (cK w (a.cells c s) di (0,0)::R) (fun v' L'=>v'=ptr a.gn∧L'=cK w (a.cells c s) di (0,0)::R):=by
 refine a8 (args:=[_]) func61 rfl ntmps61 results61 rfl ?_;refine wB ?_;exact aY (cK w (a.cells c s) di (0,0)::R) rfl zE ⟨rfl,rfl⟩
theorem AL (w:Nat) (c:dh) (s:da) (a:ee) (j:Nat) (hj:j<a.wx.length) (hl:a.wx.length≤1000) :
 Ct prog 45 #[ptr w,.int .i64 (j:Int)] e (cK w (a.cells c s) di (0,0)::dJ pX 1 a.lZ a.wx.length (a.wx.map jJ)::R) (fun v' L'=>v'=ptr (a.wx[j]'hj).g∧L'=cK w (a.cells c s) di (0,0)::dJ pX 1 a.lZ a.wx.length (a.wx.map jJ)::R):=by
 refine a7 ((bb (show cQ (cK w (a.cells c s) di (0,0)::dJ pX 1 a.lZ a.wx.length (a.wx.map jJ)::R) (dJ pX 1 a.lZ a.wx.length (a.wx.map jJ)) _ from zP)).shape zo) ?_;rintro ⟨⟨HK,cw,BU,wG,IU,Ap,uW⟩,_⟩;rcases uW with uW|⟨gq,oq,rfl⟩
 ·omega
 have Qx:∀ (L R':List cJ),cQ L (dJ pX 1 (.slice (some ⟨gq,oq,none⟩) a.wx.length cw) a.wx.length (a.wx.map jJ)) R'→Rd L ⟨gq,oq+j,none⟩ (ptr (a.wx[j]'hj).g):=fun L R' pl=>(bb pl).elem (by rw [aL,ae hj];rfl)
 generalize a.wx[j]'hj=y at Qx ⊢
 refine a8 (args:=[_,_]) func45 rfl ntmps45 results45 rfl ?_;refine wB ?_;rw [BU];refine wB ?_;rw [BU]
 (repeat (refine wA ?_;intros))
 refine bV rfl (Qx _ _ zP) rfl ?_;refine wB ?_;rw [← BU];exact aY (cK w (a.cells c s) di (0,0)::dJ pX 1 a.lZ a.wx.length (a.wx.map jJ)::R) rfl zE ⟨rfl,rfl⟩
theorem FM (w:Nat) (c:dh) (m:Nat) (s:da) (ev:List (Int × Int × Int × dv)) :
 Ct prog 81 #[ptr w,.agg (fX c).toArray] e (dO w c m s ev::R) (fun v' L'=>v'=.bool true∧L'=dO w c m s ev::R):=by
 refine gY fun a M ha he=>?_
 have Ga:=ha.st.xC.k
 have C4:a.wx.length=c.k:=by
  obtain ⟨vl,vu,vs,Wn,K9,-⟩:=ha.all.all;exact K9
 refine a8 (args:=[_,_]) func81 rfl ntmps81 results81 rfl ?_
 (repeat (refine wA ?_;intros))
 refine aZ rfl rfl (Ct.at zP (Dk _ e w c s a)) ?_;rintro _ _ ⟨rfl,rfl⟩;refine wB ?_;refine aZ rfl rfl (Ct.at zP (FL _ e w c s a)) ?_;rintro _ _ ⟨rfl,rfl⟩;refine wB ?_;refine aZ rfl rfl (Ct.at zP (nH _ e w c s a)) ?_;rintro _ _ ⟨rfl,rfl⟩;refine wB ?_;refine aZ rfl rfl (Ct.at zP (rU _ e w c s a)) ?_;rintro _ _ ⟨rfl,rfl⟩;refine wB ?_;refine aZ rfl rfl (Ct.at zP (Li _ e w c s a)) ?_;rintro _ _ ⟨rfl,rfl⟩;refine wB ?_;rename_i g3;refine bq (ι:=Nat) (fun i=>[(0,ptr w),(3,ptr g3),(5,.int .i64 (i:Int))]) (fun _=>cK g3 (fX c) iT (0,0)::dR w c s a M R) (fun i=>i≤c.k) (fun i=>c.k - i) 0 (aH _) zS zE ?_;intro i hi
 by_cases cO:i<c.k
 rotate_left
 ·refine wB ?_;exact aY (dO w c m s ev::R) rfl (cj (show cz _ (dR w c s a M R) from zE) (dU ha he)) ⟨rfl,rfl⟩
 refine wB ?_;refine aZ rfl rfl (Ct.AO zP zP (AL _ e w c s a i zo zo)) ?_;rintro _ _ ⟨rfl,rfl⟩;refine wB ?_;exact bi (i+1) zo zo zS zE
theorem z4 (c:dh) (hc:c.ok) :
 Ct prog 23 #[.agg (fX c).toArray] e R (fun v' L'=>∃ w,v'=ptr w∧L'=dO w c 0 (pC c) []::R):=by
 refine a8 (args:=[_]) func23 rfl ntmps23 results23 rfl ?_
 (repeat (refine wA ?_;intros))
 refine aZ rfl rfl (Lg _ e c hc) ?_;rintro _ _ ⟨w,rfl,rfl⟩;refine wB ?_;refine aZ rfl rfl (FM _ e w c 0 (pC c) []) ?_;rintro _ _ ⟨rfl,rfl⟩;refine wB ?_;exact aY (dO w c 0 (pC c) []::R) rfl zE ⟨w,rfl,rfl⟩
def uN (n q room size wait retry:Int):dh:=⟨(within n 1 3).toNat,(within q 1 (within n 1 3)).toNat,(within room 1 16).toNat,(within size 1 8).toNat,(within wait 0 6).toNat,(within retry 1 4).toNat⟩
theorem wV (n q room size wait retry:Int) (h1:-9223372036854775808≤n∧n≤9223372036854775807) (h2:-9223372036854775808≤q∧q≤9223372036854775807) (h3:-9223372036854775808≤room∧room≤9223372036854775807) (h4:-9223372036854775808≤size∧size≤9223372036854775807) (h5:-9223372036854775808≤wait∧wait≤9223372036854775807) (h6:-9223372036854775808≤retry∧retry≤9223372036854775807) :
 Ct prog 22 #[.int .i64 n,.int .i64 q,.int .i64 room,.int .i64 size,.int .i64 wait,.int .i64 retry] e R (fun v' L'=>v'=.agg (fX (uN n q room size wait retry)).toArray∧R=L'):=by
 have b1:=dm n 1 3 zo;have b2:=dm q 1 (within n 1 3) zo;have b3:=dm room 1 16 zo;have b4:=dm size 1 8 zo;have b5:=dm wait 0 6 zo;have b6:=dm retry 1 4 zo
 have hcc:fX (uN n q room size wait retry)=[.int .i64 (within n 1 3),.int .i64 (within q 1 (within n 1 3)),.int .i64 (within room 1 16),.int .i64 (within size 1 8),.int .i64 (within wait 0 6),.int .i64 (within retry 1 4),.int .i64 1048576,.string (str iS)]:=by
  simp only [fX,uN];rw [Int.toNat_of_nonneg zo,Int.toNat_of_nonneg zo,Int.toNat_of_nonneg zo,Int.toNat_of_nonneg zo,Int.toNat_of_nonneg zo,Int.toNat_of_nonneg zo]
 rw [hcc];refine bH (args:=[_,_,_,_,_,_]) func22 rfl ntmps22 results22 rfl ?_
 (repeat (refine wA ?_;intros))
 refine aZ rfl rfl (eA _ e n 1 3 h1 zo) ?_;rintro _ _ ⟨rfl,rfl⟩;refine wB ?_;refine aZ rfl rfl (eA _ e q 1 (within n 1 3) h2 zo) ?_;rintro _ _ ⟨rfl,rfl⟩
 (repeat (refine wA ?_;intros))
 refine aZ rfl rfl (eA _ e room 1 16 h3 zo) ?_;rintro _ _ ⟨rfl,rfl⟩
 (repeat (refine wA ?_;intros))
 refine aZ rfl rfl (eA _ e size 1 8 h4 zo) ?_;rintro _ _ ⟨rfl,rfl⟩
 (repeat (refine wA ?_;intros))
 refine aZ rfl rfl (eA _ e wait 0 6 h5 zo) ?_;rintro _ _ ⟨rfl,rfl⟩
 (repeat (refine wA ?_;intros))
 refine aZ rfl rfl (eA _ e retry 1 4 h6 zo) ?_;rintro _ _ ⟨rfl,rfl⟩;refine wB ?_;apply br
 ·exact zV
 exact ⟨R,zE,rfl,rfl⟩
abbrev qM (k n:Nat):It:=⟨k,n,0,[]⟩
def sQ (leaf:Nat):List It:=[qM 2 1,qM 3 0,qM 4 0,qM 5 0]++List.replicate 32 (qM 6 0)++[qM 9 leaf,qM 6 0]
def sR (leaf:Nat):List (It × Value):=(sQ leaf).map fun x=>(x,nI)
abbrev PP (x:It):List Value:=It.cells x nI
theorem Dl (leaf:Nat):(sR leaf).flatMap FJ.cells=(sQ leaf).flatMap PP:=by
 unfold sR;rw [List.flatMap_map]
theorem If (n:Value) (leaf:Nat) :
 Ct prog 27 #[n,.int .i64 (leaf:Int)] e R (fun v' L'=>∃ ad k,v'=.slice ad 38 k∧L'=dJ eM 5 (.slice ad 38 k) 38 ((sQ leaf).flatMap PP)::R):=by
 refine a8 (args:=[_,_]) func27 rfl ntmps27 results27 rfl ?_
 (repeat (refine wA ?_;intros))
 rename_i g1;obtain ⟨l4,T4⟩:∃ l4:List It,l4=[qM 2 1,qM 3 0,qM 4 0,qM 5 0]:=⟨_,rfl⟩
 have hl:l4.length=4:=by rw [T4];rfl
 refine W.fo (show cz _ (dJ eM 5 (.slice (some ⟨g1,0,none⟩) 4 4) 4 (l4.flatMap PP)::R) from ?_) ?_
 ·have:=hF (E:=eM) (n:=5) (k:=4) (g:=g1) (cap:=4) (cur:=l4.flatMap PP) (R:=R) (aS _) zm (by rw [T4];rfl);rw [aG (by rw [T4];exact aS _)] at this
  refine cj (show cz _ (cK g1 (l4.flatMap PP) eM (0,0)::R) from ?_) this;rw [T4];exact zE
 refine bq (ι:=Nat × Option Addr × Nat) (fun i=>[(1,.int .i64 (leaf:Int)),(5,.slice i.2.1 (4+i.1) i.2.2),(11,.int .i64 (i.1:Int))]) (fun i=>dJ eM 5 (.slice i.2.1 (4+i.1) i.2.2) (4+i.1) ((l4++List.replicate i.1 (qM 6 0)).flatMap PP)::R) (fun i=>i.1≤32) (fun i=>32 - i.1) (0,some ⟨g1,0,none⟩,4) (aH _) zS (by dsimp only;rw [List.replicate_zero,aK];exact zE) ?_;rintro ⟨j,ad,k⟩ hj;dsimp only at hj ⊢
 by_cases cO:j<32
 ·(repeat (refine wA ?_;intros))
  rename_i g2;refine bC (bo rfl rfl rfl (show cQ _ (dJ eM 5 (.slice ad (4+j) k) (4+j) ((l4++List.replicate j (qM 6 0)).flatMap PP)) _ from zP) (bO (n:=5) (c:=1) zP rfl zl) rfl rfl zO zm zo fun ef k1 _=>?_)
  refine wB ?_;refine bi (j+1,ef,k1) zd zd zS ?_;dsimp only;rw [show l4++List.replicate (j+1) (qM 6 0)=(l4++List.replicate j (qM 6 0))++[qM 6 0] by rw [List.replicate_succ',aM],aW (xs:=l4++List.replicate j (qM 6 0))];exact zE
 ·obtain rfl:j=32:=by omega
  (repeat (refine wA ?_;intros))
  rename_i g2;refine bC (bo rfl rfl rfl (show cQ _ (dJ eM 5 (.slice ad (4+32) k) (4+32) ((l4++List.replicate 32 (qM 6 0)).flatMap PP)) _ from zP) (bO (n:=5) (c:=2) zP rfl zl) rfl rfl zO zm zo fun ef k1 _=>?_)
  refine wB ?_;refine aY (dJ eM 5 (.slice ef 38 k1) 38 ((sQ leaf).flatMap PP)::R) rfl ?_ ⟨ef,k1,rfl,rfl⟩;rw [show sQ leaf=(l4++List.replicate 32 (qM 6 0))++[qM 9 leaf,qM 6 0] by rw [T4];rfl,aW (xs:=l4++List.replicate 32 (qM 6 0))];exact zE
theorem FN (leaf:Nat) (hl:leaf≤1000):∀ t∈sR leaf,t.1.b=[]∧t.2=nI∧(1≤t.1.k∧t.1.k≤9)∧t.1.n≤1000:=by
 intro t ht;obtain ⟨x,hx,rfl⟩:=aE.1 ht
 have:x=qM 2 1∨x=qM 3 0∨x=qM 4 0∨x=qM 5 0∨x=qM 6 0∨x=qM 9 leaf:=by
  unfold sQ at hx
  rcases aJ.1 hx with hx|hx
  ·rcases aJ.1 hx with hx|hx
   ·simp only [aQ,aP,or_false] at hx
    rcases hx with h|h|h|h<;>simp [h]
   ·rw [(List.mem_replicate.1 hx).2];simp
  ·simp only [aQ,aP,or_false] at hx
   rcases hx with h|h<;>simp [h]
 rcases this with rfl|rfl|rfl|rfl|rfl|rfl<;>refine ⟨rfl,rfl,⟨?_,?_⟩,?_⟩<;>first|exact hl|(dsimp only;omega)
theorem abH (c:dh) (s:da) (n:Nat):(s.FI c (qM 2 n)).1=s.Ol n:=rfl
theorem abI (c:dh) (s:da) (n:Nat):(s.FI c (qM 3 n)).1=s.H6 c:=rfl
theorem abJ (c:dh) (s:da) (n:Nat):(s.FI c (qM 4 n)).1=s.ja c:=rfl
theorem abK (c:dh) (s:da) (n:Nat):(s.FI c (qM 5 n)).1=s.zD c:=rfl
theorem WR (c:dh) (s:da) (n:Nat):(s.FI c (qM 6 n)).1=(s.Ad c n).1:=rfl
theorem abL (c:dh) (s:da) (n:Nat):(s.FI c (qM 9 n)).1=(s.PL n).1:=rfl
theorem abM (c:dh) (s:da) (b:dv):s.FI c ⟨1,0,0,b⟩=(s.sub c b,(s.fs.fC c.f s.ls.cF b (s.time:Int)).1,0):=rfl
def da.JN (c:dh) (s:da) (leaf:Nat):da:=(sR leaf).foldl (fun s t=>(s.FI c t.1).1) s
def da.z5 (c:dh):Nat→da→da
 | 0,s=>s
 | k+1,s=>da.z5 c k (s.Ad c 0).1
theorem BX (c:dh):∀ (k:Nat) (s:da),(List.replicate k (qM 6 0)).foldl (fun s x=>(da.FI c s x).1) s=s.z5 c k
 | 0,s=>rfl
 | k+1,s=>by
  rw [List.replicate_succ,List.foldl_cons,BX c k,WR]
  rfl
theorem da.Ti (c:dh) (s:da) (leaf:Nat):s.JN c leaf=((((((((s.Ol 1).H6 c).ja c).zD c).z5 c 32).PL leaf).1).Ad c 0).1:=by
 unfold da.JN sR;rw [List.foldl_map];unfold sQ;rw [List.foldl_append,List.foldl_append,BX];simp only [List.foldl_cons,List.foldl_nil,abH,abI,abJ,abK,WR,abL]
theorem WS:∀ k:Nat,DH.z5 cA k=DH
 | 0=>rfl
 | k+1=>by
  unfold da.z5;rw [Wx];exact WS k
theorem Tj:SU.JN cA 0=Q8:=by
 rw [da.Ti,Wr,Ws,Wt,Wu];rw [show Uj.z5 cA 32=(Uj.Ad cA 0).1.z5 cA 31 from by rw [da.z5],Wv];rw [show SW.z5 cA 31=(SW.Ad cA 0).1.z5 cA 30 from by rw [da.z5],Ww,WS,abu,abv]
theorem abN:uN 1 1 4 1 0 1=cA:=by
 unfold uN;rw [show within 1 1 3=1 by decide,show within 1 1 1=1 by decide,show within 4 1 16=4 by decide,show within 1 1 8=1 by decide,show within 0 0 6=0 by decide,show within 1 1 4=1 by decide]
 rfl
theorem Ig :
 Ct prog 21 #[] e R (fun v' L'=>v'=.bool true∧R=L'):=by
 refine a8 (args:=[]) func21 rfl ntmps21 results21 rfl ?_;refine wB ?_;refine aZ rfl rfl (wV _ e 1 1 4 1 0 1 zo zo zo zo zo zo) ?_;rintro _ _ ⟨rfl,rfl⟩;rw [abN]
 (repeat' first|refine Za ?_|refine Zb ?_|apply Zc|apply Zd|apply Ze|apply Zf|refine Zh ?_|refine Zi ?_|refine Zj ?_|refine Zl ?_|refine Zm ?_|refine Zn ?_|refine Zo ?_|refine Zq ?_|refine Zs ?_|refine Zt ?_|refine Zu ?_|refine ZM ?_|refine ZN ?_|refine ZO (fun _=>?_) fun _=>?_|refine ZP ?_|refine ZQ ?_|refine Z7 ?_|refine Z8 ?_|refine Yd ?_|refine Ye ?_|refine Yh fun _=>?_|refine Yz ?_|refine YA ?_|apply YC|apply YE|apply YF|refine YQ ?_|refine YR ?_|(apply O.dg;exact rfl;exact zP;(first|(simp only [aC,Nat.add_zero,Nat.reduceAdd,List.drop_succ_cons,List.drop_zero,List.take_succ_cons,List.take_zero];done)|(simp only [aC,Nat.add_zero,Nat.reduceAdd,List.drop_succ_cons,List.drop_zero,List.take_succ_cons,List.take_zero];exact rfl));exact rfl;exact rfl))
 refine aZ rfl rfl (z4 _ e cA Q6) ?_;rintro _ _ ⟨w,rfl,rfl⟩;refine wB ?_;refine aZ rfl rfl (yB _ e 0 1 1 zo zo zo) ?_;rintro _ _ ⟨ad,k,rfl,rfl⟩;rw [show mO 0 1 1=bA from rfl]
 (repeat (refine wA ?_;intros))
 refine aZ rfl rfl (Ct.at zP (z3 _ e w cA 0 (pC cA) [] ⟨1,0,0,bA⟩ (.slice ad bA.length k) (bb zP) (by decide) (by decide) BW.2.1 zo)) ?_;rintro _ _ ⟨rfl,X,⟨Uo,-,rfl⟩,rfl⟩;rw [abM,SX.1,SX.2]
 (repeat (refine wA ?_;intros))
 refine aZ rfl rfl (If _ e _ 0) ?_;rintro _ _ ⟨dW,k2,rfl,rfl⟩;have rI:=FN 0 zo;refine aZ rfl rfl (Ct.at (show cQ _ (dO w cA (0+1) SU ([]++Uo)) _ from zP) (NM _ e w cA 1 SU ([]++Uo) (.slice dW 38 k2) (sR 0) (fun _ _=>True) (fun s x=>(s.FI cA x).1) (by rw [Dl];exact bb zP) (fun t ht=>by obtain ⟨h1,h2,-⟩:=rI t ht;rw [h1,h2];exact cE.nil _ _) (by decide) trivial ?_)) ?_
 ·intro R' t m s ev ht hm hb _;obtain ⟨h1,h2,h3,h4⟩:=rI t ht;refine (z3 R' e w cA m s ev t.1 t.2 hb h3 h4 (by rw [h1];exact aH _) hm).mono fun v' L' h=>?_
  obtain ⟨h5,X,⟨jP,-,rfl⟩,rfl⟩:=h;exact ⟨⟨(_,_,_),h5⟩,ev++jP,trivial,rfl⟩
 rintro _ _ ⟨Nt,-,rfl⟩;rw [show (sR 0).foldl (fun s t=>(s.FI cA t.1).1) SU=SU.JN cA 0 from rfl,Tj];refine wB ?_;refine FK (show cQ _ (dO w cA _ Q8 Nt) _ from zP) fun a M ha he=>?_
 refine aZ rfl rfl (Ct.at zP (nH _ e w cA Q8 a)) ?_;rintro _ _ ⟨rfl,rfl⟩;refine wB ?_;refine aZ rfl rfl (Ct.at zP (nH _ e w cA Q8 a)) ?_;rintro _ _ ⟨rfl,rfl⟩
 (repeat (refine wA ?_;intros))
 refine aZ rfl rfl (Ct.at zP (rS _ e a.gu a.ud iS (cZ cA) Q8.up)) ?_;rintro _ _ ⟨rfl,rfl⟩;rw [Wy];refine wB ?_;exact aY R rfl zE ⟨rfl,rfl⟩
def da.Dm (s:da):da:={ s with ls:={ s.ls with last:=none },fs:=⟨s.fs.recs,(io s.ls.cF s.fs.recs).map fun b=>(b,rB)⟩ }
def eN.again (s:eN):eN:={ s with dD:=fW,some:=false }
def da.vW (s:da) (i:Nat):da:={ s with ws:=s.ws.set i (s.ws.getD i Jm).again }
def da.kC (c:dh) (s:da) (to:Nat):da:=if to=0 then s.Dm else if to≤c.k then s.vW (to - 1) else s
theorem Lj {cF qs recs:List dv} (h:(cF++qs).Perm recs) (hn:recs.Nodup):(cF++io cF recs).Perm recs:=by
 have hd:=h.nodup_iff.2 hn
 have h1:(recs.filter fun b=>decide (b∈cF)).Perm cF:=by
  refine (h.symm.filter _).trans ?_;rw [List.filter_append,List.filter_eq_self.2 fun a ha=>ay ha,List.filter_eq_nil_iff.2 fun a ha=>?_,aK];rw [decide_eq_true_iff];exact fun q=>(List.nodup_append.1 hd).2.2 a q a ha rfl
 have h2:=List.filter_append_perm (fun b=>decide (b∈cF)) recs;refine (List.Perm.append_right _ h1.symm).trans ?_
 have e:io cF recs=recs.filter fun b=>!decide (b∈cF):=by
  unfold io
  congr 1
  funext b
  by_cases hb:b∈cF<;>simp [hb]
 rw [e];exact h2
theorem da.Lk {c:dh} {m:Nat} {s:da} (h:s.ok c m) (hm:m<250):s.Dm.ok c (m+1):=by
 have hw:(io s.ls.cF s.fs.recs).length≤1000:=Nat.le_trans (List.length_filter_le _ _) h.fs.size;have rv:∀ b∈io s.ls.cF s.fs.recs,b∈s.fs.recs:=fun b hb=>(List.mem_filter.1 hb).1
 exact { h.next hm with
  ls:={ full:=h.ls.full,nodup:=h.ls.nodup,size:=h.ls.size,short:=h.ls.short,keys:=h.ls.keys,last:=fun x hx=>nomatch hx }
  last:=fun x hx=>nomatch hx
  fs:={
   size:=h.fs.size
   n9:=h.fs.n9
   BE:=by show ((io s.ls.cF s.fs.recs).map fun b=>(b,rB)).length≤1000;rw [ab];exact hw
   pf:=fun x hx=>by
    obtain ⟨b,hb,rfl⟩:=aE.1 hx;exact (h.fs.n9 b (rv b hb)).2
   wP:=fun x hx=>by
    obtain ⟨b,hb,rfl⟩:=aE.1 hx;exact ⟨by show -9223372036854775808≤rB;decide,by show rB≤1000000;decide⟩ }
  perm:=by
   show (s.ls.cF++(((io s.ls.cF s.fs.recs).map fun b=>(b,rB)).map (·.1))).Perm s.fs.recs
   rw [List.map_map,show ((fun x:dv × Int=>x.1) ∘ fun b:dv=>(b,rB))=id from rfl,List.map_id];exact Lj h.perm h.recs }
theorem eN.NN {s:eN} (h:s.ok):s.again.ok:=⟨h.right,h.At,h.pos,h.keys,re⟩
theorem da.Ll {c:dh} {m:Nat} {s:da} {i:Nat} (h:s.ok c m) (hm:m<250) (hi:i<c.k):(s.vW i).ok c (m+1):=by
 have Ah:i<s.ws.length:=by rw [h.wl];exact hi
 have hg:s.ws.getD i Jm=s.ws[i]'Ah:=by rw [aA,ae Ah];rfl
 have Q9:=h.ws _ (az Ah);unfold da.vW;rw [hg]
 generalize s.ws[i]'Ah=x at Q9
 exact { h.next hm with
  wl:=by show (s.ws.set i x.again).length=c.k;rw [List.length_set];exact h.wl
  ws:=fun y hy=>by
   rcases List.mem_or_eq_of_mem_set hy with hy|rfl
   ·exact ⟨(h.ws y hy).1,Nat.le_succ_of_le (h.ws y hy).2.1,(h.ws y hy).2.2⟩
   ·exact ⟨eN.NN Q9.1,Nat.le_succ_of_le Q9.2.1,Q9.2.2⟩
  iP:=fun j y hy hs=>by
   have hy:(s.ws.set i x.again)[j]?=some y:=hy;rw [List.getElem?_set] at hy
   by_cases Dy:i=j
   ·rw [aI Dy,aI Ah] at hy
    cases hy
    exact absurd hs Bool.false_ne_true
   ·rw [aB Dy] at hy
    exact h.iP j y hy hs }
theorem PQ (b:dv) (n:Int):(dx b).kC n=dx b:=by
 have h:(dx b).kept n=0:=by show (min (max n 0) ((b.length:Int) - b.length)).toNat=0;omega
 unfold eS.kC;rw [h]
 show (⟨b.take (b.length+0),b.length+0,1048576,0,false⟩:eS)=_
 rw [Nat.add_zero,aG (aS _)]
 rfl
def PR (w:Nat) (va:Value):cJ:=Ex fun q:dh × da × ee=>cK w (ee.cells { q.2.2 with va:=va } q.1 q.2.1) di (0,0)
theorem Jp {w:Nat} {va:Value} {c:dh} {s:da} {a:ee} {R:List cJ} (h:a.va=va):cz (cK w (a.cells c s) di (0,0)::R) (PR w va::R):=by
 subst h;exact fu (f:=fun q:dh × da × ee=>cK w (ee.cells { q.2.2 with va:=a.va } q.1 q.2.1) di (0,0)) (c,s,a)
theorem PS {w:Nat} {va:Value} {L R:List cJ} (p:cQ L (PR w va) R):Rd L ⟨w,0+8,none⟩ va :=
 Rd.dY p (Rd.ex fun q=>bP .zero rfl)
theorem sT (w:Nat) (c:dh) (m:Nat) (s s':da) (ev:List (Int × Int × Int × dv)) (a:ee) (M:cJ) (ha:a.ok M w c m s) (he:pV a.es=ev) (k n wh:Int) (v:Value) (hv:v.oneCell'=true) (hm:m<250) (to:Nat) (Ra:to≤c.k+1)
 (gp op kp gd od cd:Nat) (gs:List Nat) (f:Nat) [cI prog f f] (us ws:List Value) (FO:a.va=.slice (some ⟨gp,op,none⟩) (c.k+2) kp) (hg4:gs.length≤10)
 (hp0:Rd [M] ⟨gp,op+to*2+0,none⟩ (.slice (some ⟨gd,od,none⟩) gs.length cd)) (Od:Rd [M] ⟨gp,op+to*2+1,none⟩ (.func (.func f) us.toArray ws.toArray)) (hds:cE [M] 1 (.slice (some ⟨gd,od,none⟩) gs.length cd) gs.length (gs.map H3))
 (L1:List cJ→List cJ) (hx:∀ B X,cz (L1 (B::X)) (B::L1 X)) (hy:∀ B X,cz (B::L1 X) (L1 (B::X))) (lr:∀ X,cz (dR w c s a M X) (cK w (a.cells c s) di (0,0)::M::L1 X))
 (WT:∀ X,∀ g∈gs,∃ st R',cQ (L1 X) (de g st) R'∧st.ok∧∀ n,st.kC n=st)
 (WU:∀ X,Ct prog f (us++[]++ws).toArray e (cK w (a.cells c s) di (0,0)::M::L1 X) (fun v' L'=>v'=.int .i64 0∧∃ a':ee,a'.ok M w c (m+1) s'∧pV a'.es=ev∧a'.va=a.va∧L'=dR w c s' a' M X)) :
 Ct prog 91 #[pt w,.agg (ot k n (to:Int) wh v).toArray] e (dR w c s a M R) (fun v' L'=>v'=.tuple #[.int .i64 0,.int .i64 0]∧∃ jP,rF jP s'∧L'=dO w c (m+1) s' (ev++jP)::R):=by
 have Ga:=ha.st.xC.k;have Q0:=ha.ec;refine a8 (args:=[_,_]) func91 rfl ntmps91 results91 rfl ?_
 (repeat (refine wA ?_;intros))
 rename_i g3;refine W.fo (cj (show cz _ (cK g3 (ot k n (to:Int) wh v) eM (0,0)::dR w c s a M R) from zE) (bh (lr R))) ?_;refine bz (id:=1) [] mixed ?_
 (refine tF 0 ?_;refine tL 1 ?_;refine tk 2 (.bool false) rfl (cD.no (cD.lss rfl rfl) zn) ?_;refine tM 3 ?_;refine dt 4 _ rfl (ba rfl) ?_;refine dt 5 _ rfl (bp rfl zR) ?_;refine dt 6 _ rfl (bu rfl) ?_;refine dt 7 _ rfl (bm rfl) ?_;refine dt 8 _ rfl (ba rfl) ?_;refine dt 9 _ rfl (bp rfl zR) ?_)
 rw [FO]
 (refine dt 10 _ rfl (bM rfl) ?_;refine dt 11 (.bool false) rfl (cD.no (bR rfl rfl) zn) ?_;refine tk 12 _ rfl (bI rfl rfl) ?_)
 refine bf zK ?_;refine wB ?_;refine bz (id:=3) [] mixed ?_
 (refine tM 0 ?_;refine tN 1 ?_;refine tF 2 ?_;refine tL 3 ?_)
 rw [FO]
 (refine tF 4 ?_;refine tL 5 ?_)
 refine tk 6 _ rfl (bD (l:=c.k+2) rfl rfl zo) ?_
 (refine tF 7 ?_)
 refine tk 8 _ rfl (bp rfl (hp0.cL (cG zP))) ?_
 (refine tk 9 _ rfl (bM rfl) ?_;refine tM 10 ?_)
 refine bf zK ?_;refine wB ?_;refine bq (ι:=Nat) (fun j=>[(0,pt w),(3,pt g3),(30,.slice (some ⟨gd,od,none⟩) gs.length cd),(31,.int .i64 (gs.length:Int)),(32,.int .i64 (j:Int))]) (fun _=>cK g3 (ot k n (to:Int) wh v) eM (0,0)::cK w (a.cells c s) di (0,0)::M::L1 R) (fun j=>j≤gs.length) (fun j=>gs.length - j) 0 (aH _) zS zE ?_;intro j hj
 by_cases cO:j<gs.length
 ·refine wB ?_;refine bV rfl ((hds.elem (j:=j) (u:=H3 (gs[j]'cO)) (by rw [aL,ae cO];rfl)).cL (cG zP)) rfl ?_;obtain ⟨st,R',hp,j0,Gc⟩:=WT R (gs[j]'cO) (az cO)
  generalize gs[j]'cO=g at hp
  unfold H3;refine wB ?_;refine aZ rfl rfl (Ct.at (show cQ _ (de g st) _ from .succ (.succ (.succ hp))) (EA _ e g st n j0)) ?_;rintro _ _ ⟨rfl,rfl⟩;rw [Gc n];refine wB ?_;refine bi (j+1) cO zo zS ?_;exact cj (show cz _ (cK g3 (ot k n (to:Int) wh v) eM (0,0)::cK w (a.cells c s) di (0,0)::M::de g st::R') from zE) (bh (bh (bh hp.back)))
 refine wB ?_
 have hE:cz (cK g3 (ot k n (to:Int) wh v) eM (0,0)::cK w (a.cells c s) di (0,0)::M::L1 R) [PR w (.slice (some ⟨gp,op,none⟩) (c.k+2) kp),cK g3 (ot k n (to:Int) wh v) eM (0,0),M] :=
  cj (show cz _ (cK w (a.cells c s) di (0,0)::cK g3 (ot k n (to:Int) wh v) eM (0,0)::M::[]) from zE) (Jp FO)
 refine bk (id:=8) [10] [PR w (.slice (some ⟨gp,op,none⟩) (c.k+2) kp),cK g3 (ot k n (to:Int) wh v) eM (0,0),M] mixed ?_;refine bG 0 _ rfl zK hE (bu rfl) rfl ?_;refine bG 1 _ rfl zK hE (bm rfl) rfl ?_;refine bG 2 _ rfl zK hE (ba rfl) rfl ?_;refine bG 3 _ rfl zK hE (bp rfl (PS .zero)) rfl ?_;refine bG 4 _ rfl zK hE (ba rfl) rfl ?_;refine bG 5 _ rfl zK hE (bp rfl zR) rfl ?_;refine bG 6 _ rfl zK hE (bD (l:=c.k+2) rfl rfl zo) rfl ?_;refine bG 7 _ rfl zK hE (ba rfl) rfl ?_;refine bG 8 _ rfl zK hE (bp rfl (Od.cL (cG zP))) rfl ?_;refine A.fo (cj (show cz _ (cK w (a.cells c s) di (0,0)::M::cK g3 (ot k n (to:Int) wh v) eM (0,0)::L1 R) from zE) (bh (bh (hy _ R)))) ?_;refine tO 9 ?_;refine Do.gD (us:=us) (ws:=ws) (vs:=[]) rfl rfl rfl (WU _) ?_;rintro _ _ ⟨rfl,a1,pS,he1,abO,rfl⟩;refine ⟨fun _=>cj (show cz _ (cK w (a1.cells c s') di (0,0)::cK g3 (ot k n (to:Int) wh v) eM (0,0)::M::[]) from zE) (Jp (abO.trans FO)),?_⟩
 ((refine tO 10 ?_;refine dV (bj rfl) ?_))
 refine bf zK ?_
 have qh:a1.es.length=a.es.length:=by
  have h:=congrArg List.length (he1.trans he.symm)
  rwa [ab,ab] at h
 refine wB ?_;refine aZ rfl rfl (Ct.AO zP zP (ir _ e w c s' a1 7 (to:Int) 0 nY [] rfl zo)) ?_;rintro _ _ ⟨rfl,ve,rfl⟩;have er:=pS.seen (x:=⟨7,(to:Int),0,nY,[]⟩) ve (cE.nil _ 1) zo (aH _);have he2:pV (a1.es++[⟨7,(to:Int),0,nY,[]⟩])=ev++[(7,(to:Int),0,[])]:=by rw [pV,ah,← pV,he1];rfl
 have Gf:rF [(7,(to:Int),0,[])] s':=fun x hx=>by
  rw [an.1 hx];exact ⟨(by decide:(7:Int)≠3),.inl rfl⟩
 have ry:(a1.es++[(⟨7,(to:Int),0,nY,[]⟩:Ev)]).length=a1.es.length+1:=by rw [aa];rfl
 by_cases h0:to=0
 ·subst h0;refine wB ?_;refine O.fo (show cz _ (dR w c s' { a1 with ve:=ve,es:=a1.es++[(⟨7,((0:Nat):Int),0,nY,[]⟩:Ev)] } M (cK g3 (ot k n ((0:Nat):Int) wh v) eM (0,0)::R)) from zE) ?_
  (repeat' first|refine Za ?_|refine Zb ?_|apply Zc|apply Zd|apply Ze|apply Zf|refine Zg ?_|refine Zh ?_|refine Zi ?_|refine Zj ?_|refine Zk ?_|refine Zl ?_|refine Zm ?_|refine Zn ?_|refine Zo ?_|refine Zq ?_|refine Zs ?_|refine Zt ?_|refine ZA ?_|refine ZB ?_|refine ZC (fun _=>?_) fun _=>?_|refine ZJ ?_|refine ZK ?_|refine ZM ?_|refine ZN ?_|refine ZO (fun _=>?_) fun _=>?_|refine ZS ?_|refine Z7 ?_|refine Z8 ?_|refine Yg fun _=>?_|refine Ym ?_|refine Yw ?_|refine Yx ?_|refine Yy ?_|refine Yz ?_|refine YA ?_|apply YB|apply YC|apply YD|apply YE|apply YF|apply YG|apply YH|apply YI|apply YJ|refine YK ?_|(apply O.dg;exact rfl;exact zP;(first|(simp only [aC,Nat.add_zero,Nat.reduceAdd,List.drop_succ_cons,List.drop_zero,List.take_succ_cons,List.take_zero];done)|(simp only [aC,Nat.add_zero,Nat.reduceAdd,List.drop_succ_cons,List.drop_zero,List.take_succ_cons,List.take_zero];exact rfl));exact rfl;exact rfl))
  refine aZ rfl rfl (zx _ e w c (m+1) s' _ M er zd) ?_;rintro _ _ ⟨rfl,a2,M2,Nt,nG,he3,afP,abP,rfl⟩
  have QC:a2.es.length≤a1.es.length+1+250:=by
   have h:=congrArg List.length he3;rw [aa,ab,ab] at h
   dsimp only at h
   omega
  refine wB ?_;refine aZ rfl rfl (pA _ e w c (m+1) s' a2 M2 nG 0 zo zo) ?_;rintro _ _ ⟨rfl,a3,M3,ev3,abQ,he4,afS,abR,rfl⟩;refine wB ?_;refine aY (dO w c (m+1) s' (ev++([(7,((0:Nat):Int),0,[])]++Nt++ev3))::R) rfl (cj (show cz _ (dR w c s' a3 M3 R) from zE) (dU abQ ?_)) ⟨rfl,_,?_,rfl⟩
  ·show pV a3.es=_
   rw [he4,he3];dsimp only;rw [he2];simp only [aM]
  ·intro x hx;rcases aJ.1 hx with hx|hx
   ·rcases aJ.1 hx with hx|hx
    ·exact Gf x hx
    ·exact abP x hx
   ·exact abR x hx
 ·refine wB ?_;refine aY (dO w c (m+1) s' (ev++[(7,(to:Int),0,[])])::R) rfl (cj (show cz _ (dR w c s' { a1 with ve:=ve,es:=a1.es++[(⟨7,(to:Int),0,nY,[]⟩:Ev)] } M R) from zE) (dU er he2)) ⟨rfl,_,Gf,rfl⟩
theorem FP (n v f:Int):(mO n v f).length≤200:=by
 obtain ⟨h1,h2⟩:=mN n v f
 show (lO (me n v f)).length≤200
 rw [wi];have:=h1.1.2.1;have:=h1.2.2.1;have:=h1.2.2.2
 omega
theorem Lm {g d k:Nat} {seed:dv} {s:fV} {R:List cJ}:cz (cV g d k seed s::R) (de d (dx s.jb)::de k (eo s.keys 1048576)::R) :=
 jF fun a=>jF fun M=>cj (cT (M:=Pu (a.ok M seed s)::ic g d k s a M []) (L:=R)) (rZ fun _=>zE)
theorem PT {g d gl:Nat} {c:m4} {s:pe} {R:List cJ}:cz (eg g d gl c s::R) (de d (dx (eV s.recs))::R) :=
 jF fun a=>jF fun M=>cj (cT (M:=Pu (a.ok M c s)::DC g d gl c s a M []) (L:=R)) (rZ fun _=>zE)
theorem Ln {g d k i:Nat} {seed log:dv} {s:eN} {R:List cJ}:cz (nB g d k i seed log s::R) (de d (dx s.jb)::de k (eo s.keys 1048576)::R) :=
 jF fun a=>jF fun M=>cj (cT (M:=Pu (a.ok M seed log s)::iI g d k i s a M []) (L:=R)) (rZ fun _=>zE)
theorem NO {g d:Nat} {name:dv} {p:jH} {s:m2} {R:List cJ}:cz (ke g d name p s::R) (de d (dx (eV s.recs))::R) :=
 jF fun a=>jF fun M=>cj (cT (M:=Pu (a.ok M name p s)::qG g d name p s a M []) (L:=R)) (rZ fun _=>zE)
theorem PU (n:Nat) (m:Int):(eo n 1048576).kC m=eo n 1048576:=by
 have h:(eo n 1048576).kept m=0:=by
  show (min (max m 0) (((kl n).length:Int) - (9*n:Nat))).toNat=0
  rw [oZ];omega
 unfold eS.kC;rw [h]
 show (⟨(kl n).take (9*n+0),9*n+0,1048576,0,false⟩:eS)=_
 rw [Nat.add_zero,aG (by rw [oZ];exact aS _)]
 rfl
theorem Dn {X R':List cJ} {g:Nat} {b:dv} (p:cQ X (de g (dx b)) R') (h:b.length≤1048576):∃ st R',cQ X (de g st) R'∧st.ok∧∀ n,st.kC n=st:=⟨_,_,p,EM h,PQ b⟩
theorem NP {X R':List cJ} {g n:Nat} (p:cQ X (de g (eo n 1048576)) R') (h:n≤16):∃ st R',cQ X (de g st) R'∧st.ok∧∀ n,st.kC n=st:=⟨_,_,p,uk zo zo,PU n⟩
end Go.Proofs
namespace Go.Proofs
attribute [local irreducible] Bs.cD Bs.Do Bs.O Bs.W Bs.Fin Bs.A Bs.Ct Bs.cE Bs.Rd Bs.Sat Bs.cK Bs.Ob Bs.dJ Bs.View Bs.cz Bs.Ex Bs.dH Bs.Pu Bs.eY Bs.dM Bs.dZ
open Go.Bs
open Tryz
variable (R:List cJ) (e:World)
theorem eN.NQ {s:eN} (h:s.ok) (hl:s.recs.length≤1000):s.jb.length≤1048576:=by
 have xh:=kD (l:=s.recs.map recC) (n:=36) (fun r hr=>by
  obtain ⟨c,hc,rfl⟩:=aE.1 hr;rw [jo (h.right c hc)];exact aS _)
 rw [ab] at xh
 show (eV (s.recs.map recC)).length≤_
 omega
theorem PV {a:ee} {M:cJ} {w:Nat} {c:dh} {m:Nat} {s:da} (ha:a.ok M w c m s) {L:List cJ} (f:cz L [M]) {hp:dj} (hs:dM L hp):∃ (gp op kp:Nat) (vl vu:Value) (vs:List (Value × Nat × Nat)),a.va=.slice (some ⟨gp,op,none⟩) (c.k+2) kp∧vs.length=c.k∧a.wx.length=c.k ∧
 (∀ j p i u,(AJ w vl vs vu)[j]?=some p→(AI p)[i]?=some u→Rd [M] ⟨gp,op+j*2+i,none⟩ u) ∧
 cE [M] 1 vl 3 [ptr a.ld,ptr a.lk,ptr a.xp]∧cE [M] 1 vu 1 [ptr a.ud] ∧
 (∀ i (h:i<vs.length) (h2:i<a.wx.length),cE [M] 1 (vs[i]).1 2 [ptr (a.wx[i]).d,ptr (a.wx[i]).k]∧Rd [M] ⟨(vs[i]).2.1,0,none⟩ (ptr w)∧Rd [M] ⟨(vs[i]).2.2,0,none⟩ (.int .i64 (i:Int))):=by
 obtain ⟨vl,vu,vs,h1,h2,h3,h4,h5,h6⟩:=ha.all.all;have hk:=ha.st.xC.k;have wG:cE [M] 2 a.va (c.k+2) ((AJ w vl vs vu).flatMap AI):=by rw [sP];exact h3
 obtain ⟨⟨ad,kp,FO,-,-,-,h7⟩,-⟩:=((wG.cL f).shape zo) hp hs;rcases h7 with h7|⟨gp,op,rfl⟩
 ·omega
 refine ⟨gp,op,kp,vl,vu,vs,FO,h1,h2,fun j p i u hj hi=>?_,h4,h5,h6⟩;rw [FO] at wG
 exact cE.elemOf wG zY hj hi
theorem ee.ok.log {a:ee} {M:cJ} {w:Nat} {c:dh} {m:Nat} {s:da} (h:a.ok M w c m s) (gl gf:Nat):ee.ok { a with gl:=gl,gf:=gf } M w c m s:={ h with all:=⟨h.all.all⟩ }
theorem ee.ok.upd {a:ee} {M:cJ} {w:Nat} {c:dh} {m:Nat} {s:da} (h:a.ok M w c m s) (gu:Nat):ee.ok { a with gu:=gu } M w c m s:={ h with all:=⟨h.all.all⟩ }
theorem ee.ok.fY {a:ee} {M:cJ} {w:Nat} {c:dh} {m:Nat} {s:da} (h:a.ok M w c m s) (i g:Nat) (hi:i<a.wx.length):ee.ok { a with wx:=a.wx.set i ⟨g,(a.wx[i]'hi).d,(a.wx[i]'hi).k⟩ } M w c m s:=by
 obtain ⟨vl,vu,vs,h1,h2,h3,h4,h5,h6⟩:=h.all.all;refine { h with all:=⟨⟨vl,vu,vs,h1,by dsimp only;rw [List.length_set];exact h2,h3,h4,h5,fun j hj F8=>?_⟩⟩ };have hj3:j<a.wx.length:=by dsimp only at F8;rwa [List.length_set] at F8
 obtain ⟨q1,q2,q3⟩:=h6 j hj hj3;refine ⟨?_,q2,q3⟩;dsimp only;rw [List.getElem_set]
 split
 ·rename_i Dy;subst Dy;exact q1
 ·exact q1
theorem FQ (w:Nat) (c:dh) (m:Nat) (s:da) (ev:List (Int × Int × Int × dv)) (k n wh:Int) (v:Value) (hv:v.oneCell'=true) (hm:m<250) (to:Nat) (Ra:to≤c.k+1) :
 Ct prog 91 #[pt w,.agg (ot k n (to:Int) wh v).toArray] e (dO w c m s ev::R) (fun v' L'=>v'=.tuple #[.int .i64 0,.int .i64 0]∧∃ jP,rF jP (s.kC c to)∧L'=dO w c (m+1) (s.kC c to) (ev++jP)::R):=by
 refine gY fun a M ha he=>?_
 have eJ:=ha.st;have Ga:=eJ.xC.k;refine a7 (fun hp hs=>PV ha (show cz (dR w c s a M R) [M] from cG zP) hs) ?_;rintro ⟨gp,op,kp,vl,vu,vs,FO,Wn,hwx,vV,Bb,Uk,BU⟩;have Cj:=ha.wU.log;have Fb:=ha.wU;have hli:=fV.Hr eJ.ls;have lm:=eJ.short;have DB:=kD (l:=s.fs.recs) (n:=200) fun x hx=>(eJ.fs.n9 x hx).2
 have VA:=eJ.DD;have LD:=kD (l:=s.up.recs) (n:=200) eJ.up.short;have hJ:=eJ.up.size
 by_cases h0:to=0
 ·subst h0;have oD:s.kC c 0=s.Dm:=aI rfl;rw [oD];have er:=ha.to (da.Lk eJ hm) (Nat.le_succ m) rfl rfl;refine a7 (fun hp hs=>((Bb.cL (show cz (dR w c s a M R) [M] from cG zP)).shape zo) hp hs) ?_;rintro ⟨⟨ad,cd,abS,-,-,-,h7⟩,-⟩;rcases h7 with h7|⟨gd,od,rfl⟩
  ·omega
  subst abS;refine sT R e w c m s s.Dm ev a M ha he k n wh v hv hm 0 zo gp op kp gd od cd [a.ld,a.lk,a.xp] 160 [ptr w] [] FO (by simp) (vV 0 _ 0 _ rfl rfl) (vV 0 _ 1 _ rfl rfl) Bb
   (fun X=>de a.ld (dx s.ls.jb)::de a.lk (eo s.ls.keys 1048576)::de a.xp (dx (eV s.fs.recs))::js a.ve a.es::iC fH a.mr a.kr::iC fH a.ml a.kl::iC ig a.mc (sN a.kc)::dJ pX 1 a.lZ a.wx.length (a.wx.map jJ)::dH (ka 0 a.wx s.ws)::lf a.mB (cZ c) c.retry s.n s.fd::ke a.gu a.ud iS (cZ c) s.up::jq a.gm dN s.mo::Net a.gn 32 a.nl::X)
   (fun B X=>zE) (fun B X=>zE) (fun X=>?_) (fun X g hg=>?_) (fun X=>?_)
  ·refine cj (show cz _ (cV a.gl a.ld a.lk (cS 0) s.ls::eg a.gf a.xp a.gl c.f s.fs::cK w (a.cells c s) di (0,0)::M::js a.ve a.es::iC fH a.mr a.kr::iC fH a.ml a.kl::iC ig a.mc (sN a.kc)::dJ pX 1 a.lZ a.wx.length (a.wx.map jJ)::dH (ka 0 a.wx s.ws)::lf a.mB (cZ c) c.retry s.n s.fd::ke a.gu a.ud iS (cZ c) s.up::jq a.gm dN s.mo::Net a.gn 32 a.nl::X) from zE) (cj Lm (cj (bh (bh PT)) zE))
  ·simp only [aQ,aP,or_false] at hg
   rcases hg with rfl|rfl|rfl
   ·exact Dn zP zo
   ·exact NP zP eJ.ls.keys
   ·exact Dn zP zo
  ·rw [show a.cells c s=pB c (.slice (some ⟨gp,op,none⟩) (c.k+2) kp) (ptr a.gl) (ptr a.gf) a.lZ (ptr a.mB) (ptr a.gu) (ptr a.gm) (ptr a.gn) a.pU a.ij (.int .i64 (s.time:Int)) a.ve (.map (some a.mr)) (.map (some a.ml)) (.int .i64 (s.sv.size:Int)) a.vr (.bool s.signed.isSome) (.map (some a.mc)) by rw [← FO]];refine Ct.LK (Dj zP zP zP zP (uK _ e w c eJ.xC (ptr a.gl) (ptr a.gf) a.lZ (ptr a.mB) (ptr a.gu) (ptr a.gm) (ptr a.gn) a.pU a.ij (.int .i64 (s.time:Int)) a.ve (.map (some a.mr)) (.map (some a.ml)) (.int .i64 (s.sv.size:Int)) a.vr (.bool s.signed.isSome) (.map (some a.mc)) gp op (c.k+2) kp gd od cd a.ld a.lk a.xp s.ls s.fs.recs zo ((vV 0 _ 0 _ rfl rfl).cL (cG zP)) ((Bb.elem (j:=0) rfl).cL (cG zP)) ((Bb.elem (j:=1) rfl).cL (cG zP)) ((Bb.elem (j:=2) rfl).cL (cG zP)) eJ.ls zo eJ.fs.n9)) ?_;rintro _ _ ⟨rfl,gl,gf,rfl⟩;refine ⟨_,?_,rfl,{ a with gl:=gl,gf:=gf },er.log gl gf,he,rfl,rfl⟩;rw [← FO];exact zE
 ·by_cases hu:to=c.k+1
  ·subst hu;have oD:s.kC c (c.k+1)=s:=by unfold da.kC;rw [aB zo,aB zo]
   rw [oD];have er:=ha.to (eJ.next hm) (Nat.le_succ m) rfl rfl;refine a7 (fun hp hs=>((Uk.cL (show cz (dR w c s a M R) [M] from cG zP)).shape zo) hp hs) ?_;rintro ⟨⟨ad,cd,NL,-,-,-,h7⟩,-⟩;rcases h7 with h7|⟨gd,od,rfl⟩
   ·omega
   subst NL;have u6:∀ i u,(AI (.slice (some ⟨gd,od,none⟩) 1 cd,FE w))[i]?=some u→Rd [M] ⟨gp,op+(c.k+1)*2+i,none⟩ u:=fun i u hi=>vV (c.k+1) _ i u (by rw [← Wn];exact FG) hi
   refine sT R e w c m s s ev a M ha he k n wh v hv hm (c.k+1) zo gp op kp gd od cd [a.ud] 163 [ptr w] [] FO (by simp) (u6 0 _ rfl) (u6 1 _ rfl) Uk
    (fun X=>de a.ud (dx (eV s.up.recs))::js a.ve a.es::iC fH a.mr a.kr::iC fH a.ml a.kl::iC ig a.mc (sN a.kc)::eg a.gf a.xp a.gl c.f s.fs::cV a.gl a.ld a.lk (cS 0) s.ls::dJ pX 1 a.lZ a.wx.length (a.wx.map jJ)::dH (ka 0 a.wx s.ws)::lf a.mB (cZ c) c.retry s.n s.fd::jq a.gm dN s.mo::Net a.gn 32 a.nl::X)
    (fun B X=>zE) (fun B X=>zE) (fun X=>?_) (fun X g hg=>?_) (fun X=>?_)
   ·refine cj (show cz _ (ke a.gu a.ud iS (cZ c) s.up::cK w (a.cells c s) di (0,0)::M::js a.ve a.es::iC fH a.mr a.kr::iC fH a.ml a.kl::iC ig a.mc (sN a.kc)::eg a.gf a.xp a.gl c.f s.fs::cV a.gl a.ld a.lk (cS 0) s.ls::dJ pX 1 a.lZ a.wx.length (a.wx.map jJ)::dH (ka 0 a.wx s.ws)::lf a.mB (cZ c) c.retry s.n s.fd::jq a.gm dN s.mo::Net a.gn 32 a.nl::X) from zE) (cj NO zE)
   ·rw [an.1 hg];exact Dn zP zo
   ·rw [show a.cells c s=pB c (.slice (some ⟨gp,op,none⟩) (c.k+2) kp) (ptr a.gl) (ptr a.gf) a.lZ (ptr a.mB) (ptr a.gu) (ptr a.gm) (ptr a.gn) a.pU a.ij (.int .i64 (s.time:Int)) a.ve (.map (some a.mr)) (.map (some a.ml)) (.int .i64 (s.sv.size:Int)) a.vr (.bool s.signed.isSome) (.map (some a.mc)) by rw [← FO]];refine Ct.LK (Ct.AO zP zP (oA _ e w c eJ.xC (ptr a.gl) (ptr a.gf) a.lZ (ptr a.mB) (ptr a.gu) (ptr a.gm) (ptr a.gn) a.pU a.ij (.int .i64 (s.time:Int)) a.ve (.map (some a.mr)) (.map (some a.ml)) (.int .i64 (s.sv.size:Int)) a.vr (.bool s.signed.isSome) (.map (some a.mc)) gp op kp gd od cd a.ud s.up ((u6 0 _ rfl).cL (cG zP)) ((Uk.elem (j:=0) rfl).cL (cG zP)) (Fb.cL (cG zP)) eJ.up)) ?_;rintro _ _ ⟨rfl,gu,rfl⟩;refine ⟨_,?_,rfl,{ a with gu:=gu },er.upd gu,he,rfl,rfl⟩;rw [← FO];exact zE
  ·obtain ⟨i,rfl⟩:∃ i,to=i+1:=⟨to - 1,by omega⟩
   have wv:i<c.k:=by omega
   have Tk:i<a.wx.length:=by omega
   have Nf:i<s.ws.length:=by rw [eJ.wl];exact wv
   have XO:i<vs.length:=by omega
   have oD:s.kC c (i+1)=s.vW i:=by unfold da.kC;rw [aB zo,aI zo,Nat.add_sub_cancel]
   rw [oD];have er:=(ha.to (da.Ll eJ hm wv) (Nat.le_succ m) rfl rfl).fY;obtain ⟨QI,QE,hv3⟩:=BU i XO Tk;have u6:∀ j u,(AI (NI (vs[i]'XO)))[j]?=some u→Rd [M] ⟨gp,op+(i+1)*2+j,none⟩ u:=fun j u hj=>vV (i+1) _ j u (FF XO) hj
   have SO:a.wx[i]?=some (a.wx[i]'Tk):=ae Tk;have vK:s.ws[i]?=some (s.ws[i]'Nf):=ae Nf;have th:s.ws.getD i Jm=s.ws[i]'Nf:=by rw [aA,vK];rfl
   have Q9:=eJ.ws _ (az Nf);have Ms:=eJ.steps;have hcw:s.vW i={ s with ws:=s.ws.set i (s.ws[i]'Nf).again }:=by unfold da.vW;rw [th]
   rw [hcw] at er ⊢
   have nG:=fun g=>er i g Tk
   generalize a.wx[i]'Tk=x at *
   generalize s.ws[i]'Nf=y at *
   generalize vs[i]'XO=q at *
   obtain ⟨v1,p1,p2⟩:=q;dsimp only at QI QE hv3
   unfold NI AI at u6
   dsimp only at u6
   have VL:=eN.NQ Q9.1 zo;refine a7 (fun hp hs=>((QI.cL (show cz (dR w c s a M R) [M] from cG zP)).shape zo) hp hs) ?_;rintro ⟨⟨ad,cd,abT,-,-,-,h7⟩,-⟩;rcases h7 with h7|⟨gd,od,rfl⟩
   ·omega
   subst abT;refine a7 (fO (show cQ (dR w c s a M R) (dJ pX 1 a.lZ a.wx.length (a.wx.map jJ)) _ from zP)) ?_;rintro ⟨⟨ad,cw,Tl,-,-,h7⟩,-⟩;rcases h7 with ⟨-,-,h7⟩|⟨gw,rfl⟩
   ·omega
   refine sT R e w c m s { s with ws:=s.ws.set i y.again } ev a M ha he k n wh v hv hm (i+1) zo gp op kp gd od cd [x.d,x.k] 161 [] [ptr p1,ptr p2] FO (by simp) (u6 0 _ rfl) (u6 1 _ rfl) QI
    (fun X=>de x.d (dx y.jb)::de x.k (eo y.keys 1048576)::js a.ve a.es::iC fH a.mr a.kr::iC fH a.ml a.kl::iC ig a.mc (sN a.kc)::eg a.gf a.xp a.gl c.f s.fs::cV a.gl a.ld a.lk (cS 0) s.ls::dJ pX 1 a.lZ a.wx.length (a.wx.map jJ)::dH (ow 0 i a.wx s.ws)::lf a.mB (cZ c) c.retry s.n s.fd::ke a.gu a.ud iS (cZ c) s.up::jq a.gm dN s.mo::Net a.gn 32 a.nl::X)
    (fun B X=>zE) (fun B X=>zE) (fun X=>?_) (fun X g hg=>?_) (fun X=>?_)
   ·refine cj (show cz _ (dH (ka 0 a.wx s.ws)::cK w (a.cells c s) di (0,0)::M::js a.ve a.es::iC fH a.mr a.kr::iC fH a.ml a.kl::iC ig a.mc (sN a.kc)::eg a.gf a.xp a.gl c.f s.fs::cV a.gl a.ld a.lk (cS 0) s.ls::dJ pX 1 a.lZ a.wx.length (a.wx.map jJ)::lf a.mB (cZ c) c.retry s.n s.fd::ke a.gu a.ud iS (cZ c) s.up::jq a.gm dN s.mo::Net a.gn 32 a.nl::X) from zE) (cj (Fx SO vK) (cj Ln zE))
   ·simp only [aQ,aP,or_false] at hg
    rcases hg with rfl|rfl
    ·exact Dn zP VL
    ·exact NP zP Q9.1.keys
   ·rw [show a.cells c s=pB c (.slice (some ⟨gp,op,none⟩) (c.k+2) kp) (ptr a.gl) (ptr a.gf) (.slice (some ⟨gw,0,none⟩) a.wx.length cw) (ptr a.mB) (ptr a.gu) (ptr a.gm) (ptr a.gn) a.pU a.ij (.int .i64 (s.time:Int)) a.ve (.map (some a.mr)) (.map (some a.ml)) (.int .i64 (s.sv.size:Int)) a.vr (.bool s.signed.isSome) (.map (some a.mc)) by rw [← FO,← Tl],Tl];refine Ct.LK (Dj zP zP zP zP (uL _ e w c (ptr a.gl) (ptr a.gf) (ptr a.mB) (ptr a.gu) (ptr a.gm) (ptr a.gn) a.pU a.ij (.int .i64 (s.time:Int)) a.ve (.map (some a.mr)) (.map (some a.ml)) (.int .i64 (s.sv.size:Int)) a.vr (.bool s.signed.isSome) (.map (some a.mc)) gp op (c.k+2) kp gd od cd x.d x.k i gw a.wx.length cw p1 p2 (a.wx.map jJ) y zo zo Tk (by rw [ab]) (QE.cL (cG zP)) (hv3.cL (cG zP)) ((u6 0 _ rfl).cL (cG zP)) ((QI.elem (j:=0) rfl).cL (cG zP)) ((QI.elem (j:=1) rfl).cL (cG zP)) (Cj.cL (cG zP)) Q9.1 zo)) ?_;rintro _ _ ⟨rfl,g,rfl⟩;refine ⟨_,?_,rfl,{ a with wx:=a.wx.set i ⟨g,x.d,x.k⟩ },nG g,he,rfl,rfl⟩;rw [← FO,← Tl];refine cj (show cz _ (vS i ⟨g,x.d,x.k⟩ y.again::dH (ow 0 i a.wx s.ws)::cK w (a.cells c s) di (0,0)::M::js a.ve a.es::iC fH a.mr a.kr::iC fH a.ml a.kl::iC ig a.mc (sN a.kc)::eg a.gf a.xp a.gl c.f s.fs::cV a.gl a.ld a.lk (cS 0) s.ls::dJ pX 1 a.lZ a.wx.length ((a.wx.map jJ).set i (ptr g))::lf a.mB (cZ c) c.retry s.n s.fd::ke a.gu a.ud iS (cZ c) s.up::jq a.gm dN s.mo::Net a.gn 32 a.nl::X) from zE) (cj (Dc Tk Nf) ?_)
    dsimp only [dR];rw [List.length_set,List.map_set];exact zE
end Go.Proofs
namespace Go.Proofs
open Go.Bs
theorem Tm {L L':List cJ} {h:dj} (f:cz L L') (x:dM L h):dM L' h:=f h x
attribute [local irreducible] Bs.cD Bs.Do Bs.O Bs.W Bs.Fin Bs.A Bs.Ct Bs.cE Bs.Rd Bs.Sat Bs.cK Bs.Ob Bs.dJ Bs.View Bs.cz Bs.Ex Bs.dH Bs.Pu Bs.eY Bs.dM Bs.dZ
end Go.Proofs
namespace Go.Proofs
attribute [local irreducible] Bs.cD Bs.Do Bs.O Bs.W Bs.Fin Bs.A Bs.Ct Bs.cE Bs.Rd Bs.Sat Bs.cK Bs.Ob Bs.dJ Bs.View Bs.cz Bs.Ex Bs.dH Bs.Pu Bs.eY Bs.dM Bs.dZ
open Go.Bs
open Tryz
theorem FR (R:List cJ) (e:World) (wm:Option Addr) (cv:Nat) (g:Nat) (log:dv) (s:Ge) (vr vp vq:Value) (x:j6) (hx:fj R vr vp vq x) (KR:x.fits) (hv:x.ii log) (hs:x.dc.size≤s.cF.length) (rI:x.dc.root=ea ((s.cF.take x.dc.size).map cY)) :
 Ct prog 39 #[pt g,.agg (dS x vr vp vq).toArray,.slice wm 0 cv] e (jq g log s::R) (fun v' L'=>v'=.int .i64 0∧L'=jq g log s::R):=by
 refine xF fun a M ha=>?_
 have hl:a.ts.length=s.cF.length:=by have:=congrArg List.length ha.cF;rwa [ab] at this
 have hu:a.us.length=s.cF.length:=by have:=congrArg List.length ha.leaves;rwa [ab,ab] at this
 have lm:=ha.st.size;have mR:cz (xo g s a M R) R:=zE;refine a7 (cn (hx.root.cL mR)) fun o5=>?_
 refine a7 (hx.sig.cL mR).parts.one fun o6=>?_
 refine a7 (hx.sig.cL mR).path.one fun o7=>?_
 refine a7 (Hu (show cQ (xo g s a M R) (cU (.slice a.al a.us.length a.cl) a.us) _ from zP)) ?_;rintro ⟨lL,c',lV,hc3,hc4,-⟩
 cases lV
 refine a8 (args:=[_,_,_]) func39 rfl ntmps39 results39 rfl ?_
 (repeat' first|refine Zb ?_|apply Zc|apply Zd|apply Ze|apply Zf|refine Zh ?_|refine Yg fun _=>?_|refine Yh fun _=>?_|apply YB|refine YR ?_|(apply O.dg;exact rfl;exact zP;(first|(simp only [aC,Nat.add_zero,Nat.reduceAdd,List.drop_succ_cons,List.drop_zero,List.take_succ_cons,List.take_zero];done)|(simp only [aC,Nat.add_zero,Nat.reduceAdd,List.drop_succ_cons,List.drop_zero,List.take_succ_cons,List.take_zero];exact rfl));exact rfl;exact rfl))
 rename_i g4 g7;refine bz (id:=2) [] mixed ?_
 (refine tM 0 ?_;refine tN 1 ?_;refine tF 2 ?_;refine tL 3 ?_;refine tJ 4 ?_)
 refine tO 5 ?_;refine bg rfl rfl (ky _ e a.vl vr vp vq log x (ha.log.cL (cG zP)) (hx.cL zE) KR.1) ?_;rintro _ _ ⟨rfl,rfl⟩;refine ⟨fun _=>zE,A.fR zE ?_⟩;rw [ay hv]
 (refine tk 6 _ rfl (cD.jY rfl) ?_;refine tA 7 ?_)
 refine bf zK ?_;refine wB ?_;refine bz (id:=4) [] mixed ?_
 (refine tF 0 ?_;refine tL 1 ?_;refine tM 2 ?_;refine tN 3 ?_;refine tF 4 ?_;refine tL 5 ?_;refine tk 6 _ rfl (bM rfl) ?_;refine tk 7 (.bool true) rfl (cD.iP (cD.leq rfl rfl) zy) ?_;refine tM 8 ?_;refine dt 9 _ rfl (bu rfl) ?_;refine dt 10 _ rfl (bM rfl) ?_;refine dt 11 (.bool false) rfl (cD.no (cD.gtr rfl rfl) zn) ?_;refine tk 12 _ rfl (bK rfl rfl) ?_;refine tA 13 ?_)
 refine bf zK ?_;refine wB ?_;refine bz (id:=6) [] mixed ?_
 (refine tF 0 ?_;refine tL 1 ?_;refine tM 2 ?_;refine tN 3 ?_;refine tF 4 ?_;refine tL 5 ?_;refine tk 6 _ rfl (bM rfl) ?_;refine tk 7 (.bool true) rfl (cD.iP (cD.leq rfl rfl) zy) ?_;refine tM 8 ?_;refine dt 9 _ rfl (bu rfl) ?_;refine dt 10 _ rfl (bm rfl) ?_;refine dt 11 _ rfl (ba rfl) ?_;refine dt 12 _ rfl (bp rfl zR) ?_;refine dt 13 _ rfl (ba rfl) ?_;refine dt 14 _ rfl (bp rfl zR) ?_;refine dt 15 _ rfl (cD.iU rfl rfl zo zo) ?_;refine dt 17 _ rfl (ba rfl) ?_;refine dt 18 _ rfl (bp rfl zR) ?_)
 rw [Int.toNat_natCast];have hk:x.dc.size≤a.us.length:=by omega
 have hlen:(a.us.take x.dc.size).length=x.dc.size:=by rw [aF];omega
 have jN:∀ y∈a.us,y.2.length=32:=fun y hy=>by
  have:y.2∈s.cF.map cY:=by rw [← ha.leaves];exact aE.2 ⟨y,hy,rfl⟩
  obtain ⟨b,hb,GO⟩:=aE.1 this;rw [← GO];exact df _ _
 refine A.ru 16 rfl rfl zK ?_;refine bg rfl rfl (j3 _ _ e (.slice a.al x.dc.size a.cl) (a.us.take x.dc.size) rfl (kZ (bb zP) hk) (fun y hy=>(ha.Ao y (aR hy)).cL (cG zP)) (fun y hy=>by have:=jN y (aR hy);omega) zo) ?_;rintro _ _ ⟨ux,kr,rfl,rfl⟩;refine ⟨fun _=>zE,A.fR zE ?_⟩;have BA:ea ((a.us.take x.dc.size).map (·.2))=x.dc.root:=by rw [rI,List.map_take,ha.leaves,List.map_take]
 rw [BA];refine A.ru 19 rfl rfl zK ?_;refine bg rfl rfl (sD _ e _ vr x.dc.root x.dc.root (bb zP) (hx.root.cL zE)) ?_;rintro _ _ ⟨rfl,rfl⟩;refine ⟨fun _=>zE,A.fR zE ?_⟩;rw [ay rfl]
 (refine dt 20 _ rfl (cD.jY rfl) ?_;refine tk 21 _ rfl (bK rfl rfl) ?_;refine tA 22 ?_)
 refine bf zK ?_;refine wB ?_;refine bz (id:=9) [] mixed ?_
 (refine tF 0 ?_;refine tL 1 ?_;refine tM 2 ?_;refine tN 3 ?_;refine tF 4 ?_;refine tL 5 ?_;refine tk 6 _ rfl (bM rfl) ?_;refine tk 7 (.bool true) rfl (cD.iP (cD.leq rfl rfl) zy) ?_;refine tA 8 ?_)
 refine bf zK ?_;refine wB ?_;exact aY (jq g log s::R) rfl (cj (show cz _ (xo g s a M R) from zE) (zr ha)) ⟨rfl,rfl⟩
def da.watch (s:da):da × Int × Int:=match s.ls.last with
 | none=>(s,0,22)
 | some x=>if x.dc.size≤s.mo.cF.length then (s,(s.mo.cF.length:Int),0) else ({ s with mo:=⟨s.ls.cF.take x.dc.size,some x⟩ },(x.dc.size:Int),0)
theorem da.NR {c:dh} {m:Nat} {s:da} (h:s.ok c m):s.watch.1.ok c m:=by
 unfold da.watch
 split
 ·exact h
 ·rename_i x hx
  split
  ·exact h
  ·have z7:=h.last x hx;have hl:(s.ls.cF.take x.dc.size).length=x.dc.size:=by rw [aF];exact Nat.min_eq_left z7.2.2.1
   have hz:=h.ls.size;have hc:=z7.2.2.1
   exact { h with
    mo:=⟨by show (s.ls.cF.take x.dc.size).length≤1000;omega,fun b hb=>by have:=h.ls.short b (aR hb);omega,fun y hy=>by cases hy;exact z7.fits⟩
    SK:=by show s.ls.cF.take x.dc.size=s.ls.cF.take (s.ls.cF.take x.dc.size).length;rw [hl] }
theorem FT (R:List cJ) (e:World) (w:Nat) (c:dh) (m:Nat) (s:da) (ev:List (Int × Int × Int × dv)) (k n to wh:Int) (v:Value) (hv:v.oneCell'=true) (hm:m<250) :
 Ct prog 93 #[pt w,.agg (ot k n to wh v).toArray] e (dO w c m s ev::R) (fun v' L'=>v'=.tuple #[.int .i64 s.watch.2.1,.int .i64 s.watch.2.2]∧L'=dO w c (m+1) s.watch.1 ev::R):=by
 refine gY fun a M ha he=>?_
 have eJ:=ha.st;have lm:=eJ.ls.size;refine a8 (args:=[_,_]) func93 rfl ntmps93 results93 rfl ?_
 (repeat (refine wA ?_;intros))
 refine aZ rfl rfl (Ct.at zP (Hp _ e a.gl a.ld a.lk (cS 0) s.ls)) ?_;rintro _ _ ⟨N,ur,up,uq,rfl,hx,rfl⟩;refine bn (cn (hx.root.cL (cG .zero))) fun o5=>?_
 refine bn (hx.sig.cL (cG .zero)).parts.one fun o6=>?_
 refine bn (hx.sig.cL (cG .zero)).path.one fun o7=>?_
 cases hl:s.ls.last with
 | none =>
  have hw:s.watch=(s,0,22):=by unfold da.watch;rw [hl]
  rw [hw]
  (repeat (refine wA ?_;intros))
  exact aY (dO w c (m+1) s ev::R) rfl (cj (show cz _ (dR w c s a M R) from zE) (dU (ha.to (eJ.next hm) (Nat.le_succ m) rfl rfl) he)) ⟨rfl,rfl⟩
 | some x =>
  have hxx:s.ls.dD=x:=by unfold fV.dD;rw [hl];rfl
  rw [hxx] at hx ⊢
  have z7:=eJ.last x hl;have KR:=z7.fits;have B6:=z7.2.2.1;have rI:=z7.2.2.2;have hmp:=eJ.SK
  have TO:s.mo.cF.length≤s.ls.cF.length:=by
   have h:=congrArg List.length hmp;rw [aF] at h
   omega
  (repeat (refine wA ?_;intros))
  rename_i g3 g6;refine aZ rfl rfl (Ct.at (show cQ _ (jq a.gm dN s.mo) _ from zP) (sK _ e a.gm dN s.mo)) ?_;rintro _ _ ⟨rfl,rfl⟩;refine wB ?_;refine bq (ι:=List ej × Option Addr × Nat) (fun q=>[(0,pt w),(6,pt g6),(8,.slice q.2.1 q.1.length q.2.2),(9,.int .i64 ((s.mo.cF.length+q.1.length:Nat):Int))]) (fun q=>cU (.slice q.2.1 q.1.length q.2.2) q.1::cH q.1::cK g6 (dS x ur up uq) 87 (0,0)::N::dR w c s a M R)
   (fun q=>q.1.map (·.2)=(s.ls.cF.drop s.mo.cF.length).take q.1.length∧(q.1=[]∨s.mo.cF.length+q.1.length≤x.dc.size)) (fun q=>x.dc.size - (s.mo.cF.length+q.1.length)) ([],none,0) ⟨rfl,.inl rfl⟩ zS (cj dL (cj (du ez 1) zE)) ?_
  rintro ⟨l,ad,cl⟩ ⟨Up,hlc⟩;dsimp only at Up hlc ⊢
  by_cases cO:s.mo.cF.length+l.length<x.dc.size
  ·have abW:(s.ls.cF.drop s.mo.cF.length)[l.length]?=some (s.ls.cF.getD (s.mo.cF.length+l.length) []):=by
    rw [List.getElem?_drop,aA,ae zo];rfl
   have VD:(s.ls.cF.getD (s.mo.cF.length+l.length) []).length≤200:=eJ.ls.short _ (zu zo)
   have WV:l.map (·.2)++[s.ls.cF.getD (s.mo.cF.length+l.length) []]=(s.ls.cF.drop s.mo.cF.length).take (l.length+1):=by
    rw [Up,List.take_add_one,abW];rfl
   refine wB ?_;refine aZ rfl rfl (Ct.at (show cQ _ (cV a.gl a.ld a.lk (cS 0) s.ls) _ from zP) (qx _ e a.gl a.ld a.lk (cS 0) s.ls ((s.mo.cF.length+l.length:Nat):Int) zo)) ?_;rintro _ _ (⟨h1,-,-⟩|⟨-,-,Mv,c0,rfl,rfl⟩)
   ·exact absurd ⟨by omega,by omega⟩ h1
   rw [Int.toNat_natCast]
   generalize s.ls.cF.getD (s.mo.cF.length+l.length) []=b at *
   (repeat (refine wA ?_;intros))
   have afW:=eJ.short;refine bC (bo rfl rfl rfl (show cQ _ (cU (.slice ad l.length cl) l) _ from zP) (bB zP rfl zl) rfl rfl zO zm zo fun eI c3 _=>?_)
   refine wB ?_;refine bi (l++[(.slice Mv b.length c0,b)],eI,c3) ⟨by dsimp only;rw [ah,aa];exact WV,.inr (by dsimp only;rw [aa,aj];omega)⟩ (by dsimp only;rw [aa,aj];omega) ?_ ?_
   ·dsimp only;rw [aa,aj,← Nat.add_assoc];exact zS
   ·exact cj (show cz _ (dJ ez 1 (.slice eI (l.length+1) c3) (l.length+1) (l.map (·.1)++[.slice Mv b.length c0])::cR (.slice Mv b.length c0) b::cH l::cK g6 (dS x ur up uq) 87 (0,0)::N::dR w c s a M R) from zE) gh
  have hyb:∀ y∈l,y.2.length≤1000:=fun y hy=>by
   have h1:y.2∈l.map (·.2):=aE.2 ⟨y,hy,rfl⟩;rw [Up] at h1
   have:=eJ.ls.short _ (aV (aR h1))
   omega
  by_cases hk:x.dc.size≤s.mo.cF.length
  ·have hw:s.watch=(s,(s.mo.cF.length:Int),0):=by unfold da.watch;rw [hl];exact aI hk
   rw [hw]
   obtain rfl:l=[]:=by
    rcases hlc with h|h
    ·exact h
    ·exact List.eq_nil_of_length_eq_zero zo
   refine wB ?_;refine bk (id:=10) [7] (cK w (a.cells c s) di (0,0)::cK g6 (dS x ur up uq) 87 (0,0)::N::R) mixed ?_
   (refine tM 0 ?_;refine tN 1 ?_;refine tF 2 ?_;refine tL 3 ?_;refine tJ 4 ?_;refine tM 5 ?_)
   refine tO 6 ?_;refine bg rfl rfl (Ct.at (show cQ _ (jq a.gm dN s.mo) _ from zP) (FR _ e ad cl a.gm dN s.mo ur up uq x (hx.cL zE) KR z7.1 hk ?_)) ?_
   ·rw [rI,hmp,List.take_take,Nat.min_eq_left hk]
   rintro _ _ ⟨rfl,rfl⟩;refine ⟨fun _=>zE,?_⟩
   ((refine tO 7 ?_;refine dV (bj rfl) ?_))
   refine bf zK ?_;refine wB ?_;refine aZ rfl rfl (Ct.at (show cQ _ (jq a.gm dN s.mo) _ from zP) (sK _ e a.gm dN s.mo)) ?_;rintro _ _ ⟨rfl,rfl⟩;refine wB ?_;exact aY (dO w c (m+1) s ev::R) rfl (cj (show cz _ (dR w c s a M R) from zE) (dU (ha.to (eJ.next hm) (Nat.le_succ m) rfl rfl) he)) ⟨rfl,rfl⟩
  ·have hw:s.watch=({ s with mo:=⟨s.ls.cF.take x.dc.size,some x⟩ },(x.dc.size:Int),0):=by unfold da.watch;rw [hl];exact aB hk
   have j0:({ s with mo:=⟨s.ls.cF.take x.dc.size,some x⟩ }:da).ok c (m+1):=by
    have h:=da.NR (eJ.next hm)
    rwa [hw] at h
   rw [hw]
   have DV:l.length=x.dc.size - s.mo.cF.length:=by
    rcases hlc with h|h
    ·rw [h] at cO ⊢;simp only [List.length_nil] at cO ⊢;omega
    ·omega
   have eT:s.mo.cF++l.map (·.2)=s.ls.cF.take x.dc.size:=by
    rw [Up,DV];have h1:x.dc.size=s.mo.cF.length+(x.dc.size - s.mo.cF.length):=by omega
    conv=>rhs;rw [h1,List.take_add]
    rw [← hmp]
   refine wB ?_;refine bk (id:=10) [7] (cK w (a.cells c s) di (0,0)::cK g6 (dS x ur up uq) 87 (0,0)::N::R) mixed ?_
   (refine tM 0 ?_;refine tN 1 ?_;refine tF 2 ?_;refine tL 3 ?_;refine tJ 4 ?_;refine tM 5 ?_)
   refine tO 6 ?_;refine bg rfl rfl (Ct.at (show cQ _ (jq a.gm dN s.mo) _ from zP) (Fm _ e a.gm dN s.mo ur up uq _ x l (hx.cL zE) KR z7.1 (bb (show cQ _ (cU (.slice ad l.length cl) l) _ from zP)) (dP.dY (show cQ _ (cH l) _ from zP)) zo DV hyb (by rw [eT];exact rI))) ?_;rintro _ _ ⟨rfl,rfl⟩;rw [eT];refine ⟨fun _=>zE,?_⟩
   ((refine tO 7 ?_;refine dV (bj rfl) ?_))
   refine bf zK ?_;refine wB ?_;refine aZ rfl rfl (Ct.at (show cQ _ (jq a.gm dN ⟨s.ls.cF.take x.dc.size,some x⟩) _ from zP) (sK _ e a.gm dN ⟨s.ls.cF.take x.dc.size,some x⟩)) ?_;rintro _ _ ⟨rfl,rfl⟩;rw [show (s.ls.cF.take x.dc.size).length=x.dc.size by rw [aF];exact Nat.min_eq_left B6];refine wB ?_;exact aY (dO w c (m+1) { s with mo:=⟨s.ls.cF.take x.dc.size,some x⟩ } ev::R) rfl (cj (show cz _ (dR w c { s with mo:=⟨s.ls.cF.take x.dc.size,some x⟩ } a M R) from zE) (dU (ha.to j0 (Nat.le_succ m) rfl rfl) he)) ⟨rfl,rfl⟩
end Go.Proofs
