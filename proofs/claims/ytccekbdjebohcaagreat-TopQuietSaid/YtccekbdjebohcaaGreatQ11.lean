/- Part 11 of a proof of this: TopQuiet returns true for any arguments; nothing of the old memory is turned. No condition. -/
import Derived.Test.YtccekbdjebohcaaGreatQ10
set_option linter.unusedVariables false
set_option linter.unusedSimpArgs false
namespace Go.Proofs
attribute [local irreducible] Bs.cE Bs.Do Bs.O Bs.W Bs.Fin Bs.A Bs.Ct Bs.cF Bs.Rd Bs.Sat Bs.cL Bs.Ob Bs.dJ Bs.View Bs.cB Bs.Ex Bs.dH Bs.Pu Bs.eZ Bs.dO Bs.dZ
open Go.Bs
open Tryz
variable (R:List cK) (e:World)
abbrev Tk:TypeId:=53
abbrev tFn:TypeId:=160
abbrev If (w:Nat):List Value:=[.func (.func 82) #[ptr w] #[],.func (.func 83) #[ptr w] #[],.func (.func 84) #[ptr w] #[],.func (.func 85) #[ptr w] #[],.func (.func 86) #[ptr w] #[],.func (.func 87) #[ptr w] #[],.func (.func 88) #[ptr w] #[],.func (.func 89) #[ptr w] #[],.func (.func 90) #[ptr w] #[],.func (.func 91) #[ptr w] #[],.func (.func 92) #[ptr w] #[],.func (.func 93) #[ptr w] #[]]
theorem kL (w:Nat) (c:di) (m:Nat) (s:dc) (ev:List (Int × Int × Int × dw)) (k:Nat) (n to wh:Int) (v:Value) (hv:v.oneCell'=true) (f:Nat) [cJ prog f f] (hk:1≤k∧k≤12) (hf:nth (If w) (k - 1)=some (.func (.func f) #[ptr w] #[])) (N why:Int) (P:cK→Prop)
 (h:∀ R',cB R' R→Ct prog f #[ptr w,.agg (oB k n to wh v).toArray] e (dK w c m s ev::R') (fun v' L'=>v'=.tuple #[.int .i64 N,.int .i64 why]∧∃ X,P X∧L'=X::R')) :
 Ct prog 25 #[ptr w,.agg (oB k n to wh v).toArray] e (dK w c m s ev::R) (fun v' L'=>v'=.agg [.int .i64 (k:Int),.int .i64 N,.int .i64 why].toArray∧∃ X,P X∧L'=X::R):=by
 obtain ⟨j,rfl⟩:∃ j,k=j+1:=⟨k - 1,by omega⟩
 rw [Nat.add_sub_cancel] at hf
 refine bI (args:=[_,_]) func25 rfl ntmps25 results25 rfl ?_
 (repeat (refine wA ?_;intros))
 rename_i g3 g4 g5;refine bk (id:=4) [12] (cL g3 (oB ((j+1:Nat):Int) n to wh v) eN (0,0)::cL g5 (If w) tFn (0,0)::R) mixed ?_
 (refine tM 0 ?_;refine tF 1 ?_;refine tL 2 ?_;refine tk 3 _ rfl (cE.jA rfl rfl zo) ?_)
 rw [show ((j+1:Nat):Int) - 1=(j:Int) by omega]
 (refine tk 4 _ rfl (cE.iy rfl rfl zo) ?_)
 refine bH 5 (.func (.func f) #[ptr w] #[]) rfl zK zE (bp rfl (bQ (show cR _ (cL g5 (If w) tFn (0,0)) _ from zP) (by rw [aC];exact hf))) rfl ?_
 (refine tJ 6 ?_)
 refine tO 7 ?_;refine Do.gD (us:=[ptr w]) (ws:=[]) rfl rfl rfl (Ct.at zP (h _ zE)) ?_;rintro _ _ ⟨rfl,X,hX,rfl⟩;refine ⟨fun _=>zE,?_⟩
 (refine tM 8 ?_;refine tk 9 _ rfl (bl rfl rfl) ?_;refine tk 10 _ rfl (bl rfl rfl) ?_;refine tA 11 ?_;(refine tO 12 ?_;refine dV (bj rfl) ?_))
 refine bf zK ?_;refine wB ?_;apply br
 ·exact zV
 exact ⟨X::R,zE,rfl,X,hX,rfl⟩
theorem AL (w:Nat) (c:di) (m:Nat) (s:dc) (ev:List (Int × Int × Int × dw)) (k to wh:Int) (n:Nat) (v:Value) (hv:v.oneCell'=true) (hn:n≤1000000) (hm:m<250) :
 Ct prog 87 #[pt w,.agg (oB k n to wh v).toArray] e (dK w c m s ev::R) (fun v' L'=>v'=.tuple #[.int .i64 (s.AH c n).2.1,.int .i64 (s.AH c n).2.2]∧∃ jQ,rF jQ (s.AH c n).1∧L'=dK w c (m+1) (s.AH c n).1 (ev++jQ)::R):=by
 refine gN fun a M ha he=>?_
 have eK:=ha.st;have hrm:=eK.room;have D0:a.nl.length=s.ee.length:=by have:=congrArg List.length ha.ee;simpa using this
 refine a7 (Ji (show cR (dP w c s a M R) (Net a.gn 32 a.nl) _ from zP)) fun lY=>?_
 have C7:a.wx.length=c.k:=by
  obtain ⟨vl,vu,vs,Wp,K9,-⟩:=ha.all.all;exact K9
 have Gd:=eK.xE.k;refine a7 ((bb (show cR (dP w c s a M R) (dJ pZ 1 a.l6 a.wx.length (a.wx.map jJ)) _ from zP)).shape zo) ?_;rintro ⟨⟨HN,cw,BX,wG,IV,Ao,uW⟩,_⟩;refine a8 (args:=[_,_]) func87 rfl ntmps87 results87 rfl ?_
 by_cases cP:n<s.ee.length
 rotate_left
 ·have hd:s.AH c n=(s,0,1):=by unfold dc.AH;rw [List.getElem?_eq_none zo]
  rw [hd];have eu:=ha.to (eK.next hm) (Nat.le_succ m) rfl rfl
  (repeat (refine wA ?_;intros))
  rename_i g3;refine bk (id:=1) [12] (cL g3 (oB k n to wh v) eN (0,0)::cL w (a.cells c s) dj (0,0)::R) mixed ?_
  (refine tM 0 ?_;refine tN 1 ?_;refine tF 2 ?_;refine tL 3 ?_;refine tF 4 ?_;refine tL 5 ?_)
  refine A.two 6 10 rfl rfl rfl rfl zK ?_ ?_
  ·refine bg rfl rfl (Ct.at zP (jt _ e a.gn 32 a.nl (n:Int) zo lY)) ?_;rintro _ _ (⟨k2,xu,Oo,-,-⟩|⟨-,rfl,rfl⟩)
   ·exact absurd xu zo
   refine ⟨fun _=>zE,?_⟩
   (refine tM 7 ?_;refine tk 8 _ rfl (bl rfl rfl) ?_;refine tk 9 _ rfl (bl rfl rfl) ?_)
   refine tO 10 ?_;refine bR (cs:=[.int .i64 0,.int .i64 0,.int .i64 0,nY]) rfl rfl fun g6=>⟨fun _=>zE,?_⟩
   refine tO 11 ?_;refine zg ?_;refine ⟨fun _=>zE,?_⟩
   ((refine tO 12 ?_;refine dV (bj rfl) ?_))
   refine bf zK ?_;refine wB ?_;refine aY (dK w c (m+1) s ev::R) rfl (cn (show cB _ (dP w c s a M R) from zE) (dU eu he)) ⟨rfl,[],rF.nil,by rw [aK]⟩
  ·refine bR (cs:=[.int .i64 0,.int .i64 0,.int .i64 0,nY]) rfl rfl fun g6=>⟨fun _=>zE,?_⟩
   refine tO 6 ?_;refine bg rfl rfl (Ct.at zP (jt _ e a.gn 32 a.nl (n:Int) zo lY)) ?_;rintro _ _ (⟨k2,xu,Oo,-,-⟩|⟨-,rfl,rfl⟩)
   ·exact absurd xu zo
   refine ⟨fun _=>zE,?_⟩
   (refine tM 7 ?_;refine tk 8 _ rfl (bl rfl rfl) ?_;refine tk 9 _ rfl (bl rfl rfl) ?_)
   refine tO 11 ?_;refine zg ?_;refine ⟨fun _=>zE,?_⟩
   ((refine tO 12 ?_;refine dV (bj rfl) ?_))
   refine bf zK ?_;refine wB ?_;refine aY (dK w c (m+1) s ev::R) rfl (cn (show cB _ (dP w c s a M R) from zE) (dU eu he)) ⟨rfl,[],rF.nil,by rw [aK]⟩
 have hg:s.ee[n]?=some (s.ee[n]'cP):=ae _;have hd:s.AH c n=(s.lost n).Ic c (s.ee[n]'cP):=by unfold dc.AH;rw [hg]
 have n7:=eK.ee _ (ax cP)
 have GG:(a.nl[n]'zo).d=(s.ee[n]'cP).d c.k:=by
  have:=congrArg (fun l=>l[n]?) ha.ee;simp only [aL,ae (show n<a.nl.length by omega),hg,Option.map_some,Option.some.injEq] at this
  exact this
 have mY:=lY _ (ax (show n<a.nl.length by omega))
 have pV:eh.ok { a with nl:=jc a.nl n } M w c m (s.lost n) :=
  ha.PJ (dc.Dm eK) (aS m) rfl (by show (jc a.nl n).map gW.d=(jc s.ee n).map _;rw [rk,rk,ha.ee])
 rw [hd];obtain ⟨y,hy⟩:∃ y,a.nl[n]'zo=y:=⟨_,rfl⟩
 rw [hy] at GG mY
 obtain ⟨yk,yf,yt,yv,yb⟩:=y;dsimp only at mY
 (repeat' first|refine W.pJ (id:=2) (fun g6:Nat=>[(0,pt w),(6,pt g6),(7,.bool true)]) (fun g6=>cL g6 [.int .i64 yk,.int .i64 yf,.int .i64 yt,yv] PK (0,0)::cI [(yv,yb)]::dP w c (s.lost n) { a with nl:=jc a.nl n } M R) (fun _=>True) ?_ ?_|refine Zb ?_|apply Zc|apply Zd|apply Ze|apply Zf|refine Yg fun _=>?_|fail)
 rotate_left
 ·refine ⟨?_⟩;rename_i g3;refine bk (id:=1) [12] (cL g3 (oB k n to wh v) eN (0,0)::cL w (a.cells c s) dj (0,0)::R) mixed ?_
  (refine tM 0 ?_;refine tN 1 ?_;refine tF 2 ?_;refine tL 3 ?_;refine tF 4 ?_;refine tL 5 ?_)
  refine A.two 6 10 rfl rfl rfl rfl zK ?_ ?_
  ·refine bg rfl rfl (Ct.at zP (jt _ e a.gn 32 a.nl (n:Int) zo lY)) ?_;rintro _ _ (⟨k2,xu,Oo,rfl,rfl⟩|⟨Ib,-,-⟩)
   rotate_left
   ·exact absurd ⟨by omega,by omega⟩ Ib
   obtain rfl:n=k2:=by omega
   rw [show a.nl.take n++a.nl.drop (n+1)=jc a.nl n from rfl];rw [hy];refine ⟨fun _=>zE,?_⟩
   (refine tM 7 ?_;refine tk 8 _ rfl (bl rfl rfl) ?_;refine tk 9 _ rfl (bl rfl rfl) ?_)
   refine tO 10 ?_;refine bR (cs:=[.int .i64 0,.int .i64 0,.int .i64 0,nY]) rfl rfl fun g6=>⟨fun _=>zE,?_⟩
   refine tO 11 ?_;refine zg ?_;refine ⟨fun _=>zE,?_⟩
   ((refine tO 12 ?_;refine dV (bj rfl) ?_))
   refine bf zK ?_;exact bK g6 trivial zS zE
  ·refine bR (cs:=[.int .i64 0,.int .i64 0,.int .i64 0,nY]) rfl rfl fun g6=>⟨fun _=>zE,?_⟩
   refine tO 6 ?_;refine bg rfl rfl (Ct.at zP (jt _ e a.gn 32 a.nl (n:Int) zo lY)) ?_;rintro _ _ (⟨k2,xu,Oo,rfl,rfl⟩|⟨Ib,-,-⟩)
   rotate_left
   ·exact absurd ⟨by omega,by omega⟩ Ib
   obtain rfl:n=k2:=by omega
   rw [show a.nl.take n++a.nl.drop (n+1)=jc a.nl n from rfl];rw [hy];refine ⟨fun _=>zE,?_⟩
   (refine tM 7 ?_;refine tk 8 _ rfl (bl rfl rfl) ?_;refine tk 9 _ rfl (bl rfl rfl) ?_)
   refine tO 11 ?_;refine zg ?_;refine ⟨fun _=>zE,?_⟩
   ((refine tO 12 ?_;refine dV (bj rfl) ?_))
   refine bf zK ?_;exact bK g6 trivial zS zE
 intro g6 _;have XQ:∀ L:List cK,db (cI [(yv,yb)]::L) yv yb:=fun L=>dR.ef (.zero:cR (cI [(yv,yb)]::L) (cI [(yv,yb)]) L) (yv,yb) (an.2 rfl)
 generalize s.ee[n]'cP=iE at *
 cases iE with
 | ask j x n2 k2 path =>
  obtain ⟨rfl,rfl,rfl,rfl⟩:yk=1∧yf=0∧yt=((j+1:Nat):Int)∧yb=qJ x n2 k2 path:=by
   simpa [gW.d,fZ.d,Prod.ext_iff] using GG
  have hj:j<c.k:=n7.2.1;rw [show (s.lost n).Ic c (.ask j x n2 k2 path)=((s.lost n).asked j x.dd n2,1,(s.lost n).xr j x.dd n2) from rfl];refine wB ?_;rw [BX];refine wB ?_;rw [← BX];refine aZ rfl rfl ((FE (cL g6 [.int .i64 1,.int .i64 0,.int .i64 ((j+1:Nat):Int),yv] PK (0,0)::cI [(yv,qJ x n2 k2 path)]::R) e w c m (s.lost n) ev yv j n2 k2 x path ((XQ R).cM zE) n7 hm).cM (cn (show cB _ (dP w c (s.lost n) { a with nl:=jc a.nl n } M (cL g6 [.int .i64 1,.int .i64 0,.int .i64 ((j+1:Nat):Int),yv] PK (0,0)::cI [(yv,qJ x n2 k2 path)]::R)) from zE) (dU pV he))) ?_;rintro _ _ ⟨rfl,jQ,yp,rfl⟩
  generalize (s.lost n).xr j x.dd n2=E
  refine wB ?_;refine aY (dK w c (m+1) ((s.lost n).asked j x.dd n2) (ev++jQ)::R) rfl zE ⟨rfl,jQ,yp,rfl⟩
 | iW j g =>
  obtain ⟨rfl,rfl,rfl,rfl⟩:yk=2∧yf=((j+1:Nat):Int)∧yt=0∧yb=1::eV g:=by
   simpa [gW.d,fZ.d,Prod.ext_iff] using GG
  have hj:j<c.k:=n7.2.1;rw [show (s.lost n).Ic c (.iW j g)=((s.lost n).uL c j g 0,2,(s.lost n).AG c j g 0) from rfl];refine wB ?_;rw [BX];refine wB ?_;rw [← BX];refine aZ rfl rfl ((Ld (cL g6 [.int .i64 2,.int .i64 ((j+1:Nat):Int),.int .i64 0,yv] PK (0,0)::cI [(yv,1::eV g)]::R) e w c m (s.lost n) ev yv j g ((XQ R).cM zE) n7 hm).cM (cn (show cB _ (dP w c (s.lost n) { a with nl:=jc a.nl n } M (cL g6 [.int .i64 2,.int .i64 ((j+1:Nat):Int),.int .i64 0,yv] PK (0,0)::cI [(yv,1::eV g)]::R)) from zE) (dU pV he))) ?_;rintro _ _ ⟨rfl,rfl⟩
  generalize (s.lost n).AG c j g 0=E
  refine wB ?_;refine aY (dK w c (m+1) ((s.lost n).uL c j g 0) ev::R) rfl zE ⟨rfl,[],rF.nil,by rw [aK]⟩
 | no j z =>
  obtain ⟨rfl,rfl,rfl,rfl⟩:yk=2∧yf=((j+1:Nat):Int)∧yt=0∧yb=0::be z 4:=by
   simpa [gW.d,fZ.d,Prod.ext_iff] using GG
  have hj:j<c.k:=n7.2.1;rw [show (s.lost n).Ic c (.no j z)=((s.lost n).uL c j gZ z,2,(s.lost n).AG c j gZ z) from rfl];refine wB ?_;rw [BX];refine wB ?_;rw [← BX];refine aZ rfl rfl ((NF (cL g6 [.int .i64 2,.int .i64 ((j+1:Nat):Int),.int .i64 0,yv] PK (0,0)::cI [(yv,0::be z 4)]::R) e w c m (s.lost n) ev yv j z ((XQ R).cM zE) n7 hm).cM (cn (show cB _ (dP w c (s.lost n) { a with nl:=jc a.nl n } M (cL g6 [.int .i64 2,.int .i64 ((j+1:Nat):Int),.int .i64 0,yv] PK (0,0)::cI [(yv,0::be z 4)]::R)) from zE) (dU pV he))) ?_;rintro _ _ ⟨rfl,rfl⟩
  generalize (s.lost n).AG c j gZ z=E
  refine wB ?_;refine aY (dK w c (m+1) ((s.lost n).uL c j gZ z) ev::R) rfl zE ⟨rfl,[],rF.nil,by rw [aK]⟩
 | off b =>
  obtain ⟨rfl,rfl,rfl,rfl⟩:yk=3∧yf=0∧yt=((c.k+1:Nat):Int)∧yb=fT b:=by
   simpa [gW.d,fZ.d,Prod.ext_iff] using GG
  rw [show (s.lost n).Ic c (.off b)=((s.lost n).off c b,3,(s.lost n).mq c b) from rfl];refine wB ?_;rw [BX];refine wB ?_;rw [← BX];refine aZ rfl rfl ((AF (cL g6 [.int .i64 3,.int .i64 0,.int .i64 ((c.k+1:Nat):Int),yv] PK (0,0)::cI [(yv,fT b)]::R) e w c m (s.lost n) ev yv b ((XQ R).cM zE) n7 hm).cM (cn (show cB _ (dP w c (s.lost n) { a with nl:=jc a.nl n } M (cL g6 [.int .i64 3,.int .i64 0,.int .i64 ((c.k+1:Nat):Int),yv] PK (0,0)::cI [(yv,fT b)]::R)) from zE) (dU pV he))) ?_;rintro _ _ ⟨rfl,jQ,yp,rfl⟩
  generalize (s.lost n).mq c b=E
  refine wB ?_;refine aY (dK w c (m+1) ((s.lost n).off c b) (ev++jQ)::R) rfl zE ⟨rfl,jQ,yp,rfl⟩
theorem FL (w:Nat) (c:di) (m:Nat) (s:dc) (ev:List (Int × Int × Int × dw)) (k to wh:Int) (n:Nat) (v:Value) (hv:v.oneCell'=true) (hn:n≤1000000) (hm:m<250) :
 Ct prog 90 #[pt w,.agg (oB k n to wh v).toArray] e (dK w c m s ev::R) (fun v' L'=>v'=.tuple #[.int .i64 0,.int .i64 (s.Ot n).2]∧L'=dK w c (m+1) (s.Ot n).1 ev::R):=by
 refine gN fun a M ha he=>?_
 have eK:=ha.st;have Pe:=eK.KI
 have C7:a.wx.length=c.k:=by
  obtain ⟨vl,vu,vs,Wp,K9,-⟩:=ha.all.all;exact K9
 have Gd:=eK.xE.k;have VC:=eK.fd.KI;have eu:a.ok M w c (m+1) s:=ha.to (eK.next hm) (Nat.le_succ m) rfl rfl;refine a7 ((bb (show cR (dP w c s a M R) (dJ pZ 1 a.l6 a.wx.length (a.wx.map jJ)) _ from zP)).shape zo) ?_;rintro ⟨⟨HN,cw,BX,wG,IV,Ao,uW⟩,_⟩;refine a8 (args:=[_,_]) func90 rfl ntmps90 results90 rfl ?_;unfold dc.Ot
 (repeat (refine wA ?_;intros))
 refine aZ rfl rfl (Ct.at zP (Fp _ e a.mH (da c) c.retry s.n s.fd)) ?_;rintro v0 _ ⟨lY,hy⟩
 by_cases hE:s.fd.dl=[]
 ·obtain ⟨rfl,rfl⟩:=lY hE;rw [aI hE]
  (repeat (refine wA ?_;intros))
  refine aY (dK w c (m+1) s ev::R) rfl (cn (show cB _ (dP w c s a M R) from zE) (dU eu he)) ⟨rfl,rfl⟩
 obtain ⟨N,ur,up,uq,vg,rfl,hN,hG,rfl⟩:=hy hE;rw [aB hE];obtain ⟨⟨pS,Pc,lq,BD⟩,h0,HY⟩:=eK.done hE;have Ud:∀ g∈s.fd.dl,g.sig.fits:=fun g hg=>(eK.fd.dl g hg).2.fits
 refine bn (cz (hN.root.cM (cH zP))) fun o1=>?_
 refine bn (hN.sig.cM (cH zP)).parts.one fun o2=>?_
 refine bn (hN.sig.cM (cH zP)).path.one fun o3=>?_
 refine bn (hG.cM (cH zP)).one fun o4=>?_
 by_cases hi:n<s.fd.done.dd.size
 rotate_left
 ·rw [aI hi]
  (repeat (refine wA ?_;intros))
  rename_i g3 g6;refine bk (id:=4) [14] (cL g3 (oB k n to wh v) eN (0,0)::cL g6 (dT s.fd.done ur up uq) rE (0,0)::cL w (a.cells c s) dj (0,0)::R) mixed ?_
  (refine tM 0 ?_;refine tN 1 ?_;refine tF 2 ?_;refine tL 3 ?_;refine tF 4 ?_;refine tL 5 ?_;refine tJ 6 ?_;refine tM 7 ?_)
  refine A.two 8 12 rfl rfl rfl rfl zK ?_ ?_
  ·refine bg rfl rfl (Ct.at zP (px _ e a.gl a.ld a.lk (cS 0) s.ls n ur up uq vg s.fd.done s.fd.dl (hN.cM (cH zP)) Pc.fits (hG.cM (cH zP)) Ud zo zo zo hn)) ?_;rintro _ _ ⟨-,hr⟩;obtain ⟨rfl,rfl⟩:=hr hi;refine ⟨fun _=>zE,?_⟩
   (refine tM 9 ?_;refine tk 10 _ rfl (bl rfl rfl) ?_;refine tk 11 _ rfl (bl rfl rfl) ?_)
   refine tO 12 ?_;refine bR (cs:=pO) rfl rfl fun g9=>⟨fun _=>zE,?_⟩
   refine tO 13 ?_;refine zg ?_;refine ⟨fun _=>zE,?_⟩
   ((refine tO 14 ?_;refine dV (bj rfl) ?_))
   refine bf zK ?_;refine wB ?_;refine aY (dK w c (m+1) s ev::R) rfl (cn (show cB _ (dP w c s a M R) from zE) (dU eu he)) ⟨rfl,rfl⟩
  ·refine bR (cs:=pO) rfl rfl fun g9=>⟨fun _=>zE,?_⟩
   refine tO 8 ?_;refine bg rfl rfl (Ct.at zP (px _ e a.gl a.ld a.lk (cS 0) s.ls n ur up uq vg s.fd.done s.fd.dl (hN.cM (cH zP)) Pc.fits (hG.cM (cH zP)) Ud zo zo zo hn)) ?_;rintro _ _ ⟨-,hr⟩;obtain ⟨rfl,rfl⟩:=hr hi;refine ⟨fun _=>zE,?_⟩
   (refine tM 9 ?_;refine tk 10 _ rfl (bl rfl rfl) ?_;refine tk 11 _ rfl (bl rfl rfl) ?_)
   refine tO 13 ?_;refine zg ?_;refine ⟨fun _=>zE,?_⟩
   ((refine tO 14 ?_;refine dV (bj rfl) ?_))
   refine bf zK ?_;refine wB ?_;refine aY (dK w c (m+1) s ev::R) rfl (cn (show cB _ (dP w c s a M R) from zE) (dU eu he)) ⟨rfl,rfl⟩
 rw [aB (not_not_intro hi)];obtain ⟨PN,TR,hch,n7⟩:=dc.BY eK hE hi;have oT:=pu PN;obtain ⟨B,hB⟩:∃ B:wQ,B=s.mv n:=⟨_,rfl⟩
 (repeat' first|refine W.pJ (id:=5) (fun q:Nat × cK × Value × Value × Value × Value × Value × Value=>[(0,pt w),(9,pt q.1),(10,.int .i64 0)]) (fun q=>cL q.1 (sE B q.2.2.1 q.2.2.2.1 q.2.2.2.2.1 q.2.2.2.2.2.1 q.2.2.2.2.2.2.1 q.2.2.2.2.2.2.2) rC (0,0)::q.2.1::dP w c s a M R) (fun q=>rQ [q.2.1] q.2.2.1 q.2.2.2.1 q.2.2.2.2.1 q.2.2.2.2.2.1 q.2.2.2.2.2.2.1 q.2.2.2.2.2.2.2 B) ?_ ?_|refine Za ?_|refine Zb ?_|apply Zc|apply Zd|apply Ze|apply Zf|refine Zy ?_|refine Yh fun _=>?_|refine YA ?_|apply YC|refine YN ?_|refine YR ?_|fail)
 rotate_left
 ·refine ⟨?_⟩;rename_i g3 g6;refine bk (id:=4) [14] (cL g3 (oB k n to wh v) eN (0,0)::cL g6 (dT s.fd.done ur up uq) rE (0,0)::cL w (a.cells c s) dj (0,0)::R) mixed ?_
  (refine tM 0 ?_;refine tN 1 ?_;refine tF 2 ?_;refine tL 3 ?_;refine tF 4 ?_;refine tL 5 ?_;refine tJ 6 ?_;refine tM 7 ?_)
  refine A.two 8 12 rfl rfl rfl rfl zK ?_ ?_
  ·refine bg rfl rfl (Ct.at zP (px _ e a.gl a.ld a.lk (cS 0) s.ls n ur up uq vg s.fd.done s.fd.dl (hN.cM (cH zP)) Pc.fits (hG.cM (cH zP)) Ud zo zo zo hn)) ?_;rintro _ _ ⟨hr,-⟩;obtain ⟨N2,um,vp,vr,va,vq,vc,rfl,ns,rfl⟩:=hr hi;rw [show (⟨s.ls.cG.getD n [],n,s.fd.done.dd.size,iI ((s.ls.cG.take s.fd.done.dd.size).map cZ) n,s.fd.done,s.fd.dl⟩:wQ)=B from hB.symm] at ns ⊢
   refine ⟨fun _=>zE,?_⟩;refine A.cC (cz (ns.fi.cM (cH zP))) fun q1=>?_
   refine A.cC (ns.path.cM (cH zP)).one fun q2=>?_
   refine A.cC (cz (ns.kR.root.cM (cH zP))) fun q3=>?_
   refine A.cC (ns.kR.sig.cM (cH zP)).parts.one fun q4=>?_
   refine A.cC (ns.kR.sig.cM (cH zP)).path.one fun q5=>?_
   refine A.cC (ns.gs.cM (cH zP)).one fun q6=>?_
   (refine tM 9 ?_;refine tk 10 _ rfl (bl rfl rfl) ?_;refine tk 11 _ rfl (bl rfl rfl) ?_)
   refine tO 12 ?_;refine bR (cs:=pO) rfl rfl fun g9=>⟨fun _=>zE,?_⟩
   refine tO 13 ?_;refine zg ?_;refine ⟨fun _=>zE,?_⟩
   ((refine tO 14 ?_;refine dV (bj rfl) ?_))
   refine bf zK ?_;exact bK (g9,N2,um,vp,vr,va,vq,vc) ns zS zE
  ·refine bR (cs:=pO) rfl rfl fun g9=>⟨fun _=>zE,?_⟩
   refine tO 8 ?_;refine bg rfl rfl (Ct.at zP (px _ e a.gl a.ld a.lk (cS 0) s.ls n ur up uq vg s.fd.done s.fd.dl (hN.cM (cH zP)) Pc.fits (hG.cM (cH zP)) Ud zo zo zo hn)) ?_;rintro _ _ ⟨hr,-⟩;obtain ⟨N2,um,vp,vr,va,vq,vc,rfl,ns,rfl⟩:=hr hi;rw [show (⟨s.ls.cG.getD n [],n,s.fd.done.dd.size,iI ((s.ls.cG.take s.fd.done.dd.size).map cZ) n,s.fd.done,s.fd.dl⟩:wQ)=B from hB.symm] at ns ⊢
   refine ⟨fun _=>zE,?_⟩;refine A.cC (cz (ns.fi.cM (cH zP))) fun q1=>?_
   refine A.cC (ns.path.cM (cH zP)).one fun q2=>?_
   refine A.cC (cz (ns.kR.root.cM (cH zP))) fun q3=>?_
   refine A.cC (ns.kR.sig.cM (cH zP)).parts.one fun q4=>?_
   refine A.cC (ns.kR.sig.cM (cH zP)).path.one fun q5=>?_
   refine A.cC (ns.gs.cM (cH zP)).one fun q6=>?_
   (refine tM 9 ?_;refine tk 10 _ rfl (bl rfl rfl) ?_;refine tk 11 _ rfl (bl rfl rfl) ?_)
   refine tO 13 ?_;refine zg ?_;refine ⟨fun _=>zE,?_⟩
   ((refine tO 14 ?_;refine dV (bj rfl) ?_))
   refine bf zK ?_;exact bK (g9,N2,um,vp,vr,va,vq,vc) ns zS zE
 rintro ⟨g9,N2,um,vp,vr,va,vq,vc⟩ ns;dsimp only at ns ⊢
 rw [← hB] at PN oT n7 ⊢
 refine wB ?_;refine aZ rfl rfl (C6 _ e um vp vr va vq vc B (ns.cM (cH zP)) PN) ?_;rintro _ _ ⟨eE,k3,rfl,rfl⟩;refine wB ?_;refine bk (id:=10) [] (cL w (a.cells c s) dj (0,0)::R) mixed ?_
 (refine tM 0 ?_;refine tN 1 ?_;refine tF 2 ?_;refine tL 3 ?_;refine tM 4 ?_;refine tN 5 ?_;refine tF 6 ?_;refine tL 7 ?_)
 rw [BX]
 (refine tk 8 _ rfl (bN rfl) ?_;refine tk 9 _ rfl (cE.kS rfl rfl zo) ?_;refine tM 10 ?_)
 rw [← BX,show ((a.wx.length:Int)+1)=((c.k+1:Nat):Int) by omega];refine tk 11 _ rfl (bM rfl zF) ?_;refine tO 12 ?_;refine bg rfl rfl (Ct.at zP (sN _ e a.gn c.k a.nl s.ee (.off B) ⟨3,0,((c.k+1:Nat):Int),.slice eE (fT B).length k3,fT B⟩ ha.ee rfl (bb (show cR _ (cT (.slice eE (fT B).length k3) (fT B)) _ from zP)) zd eK.room)) ?_;rintro _ _ ⟨rfl,Jh,ND,rfl⟩;refine ⟨fun _=>zE,?_⟩;have nK:eh.ok { a with nl:=Jh } M w c (m+1) (s.send (.off B)):=eu.PJ (dc.Jg eu.st n7) (aS _) rfl ND
 by_cases hf:s.ee.length<32
 ·rw [ay hf,aI hf]
  (refine tk 13 _ rfl (cE.jZ rfl) ?_)
  refine bf zK ?_;refine wB ?_;refine aY (dK w c (m+1) (s.send (.off B)) ev::R) rfl (cn (show cB _ (dP w c (s.send (.off B)) { a with nl:=Jh } M R) from zE) (dU nK he)) ⟨rfl,rfl⟩
 ·rw [aq hf,aB hf];have Ge:s.send (.off B)=s:=by unfold dc.send;rw [aB hf]
  rw [Ge] at nK
  (refine tk 13 _ rfl (cE.p9 rfl) ?_)
  refine bf zK ?_;refine wB ?_;refine aY (dK w c (m+1) s ev::R) rfl (cn (show cB _ (dP w c s { a with nl:=Jh } M R) from zE) (dU nK he)) ⟨rfl,rfl⟩
theorem Lh (w:Nat) (c:di) (m:Nat) (s:dc) (ev:List (Int × Int × Int × dw)) (k n to wh:Int) (v:Value) (hv:v.oneCell'=true) (hm:m<250) :
 Ct prog 86 #[pt w,.agg (oB k n to wh v).toArray] e (dK w c m s ev::R) (fun v' L'=>v'=.tuple #[.int .i64 (s.SQ c:Int),.int .i64 0]∧L'=dK w c (m+1) (s.zx c) ev::R):=by
 refine gN fun a M ha he=>?_
 have eK:=ha.st;have na:=dc.Nu eK hm;have ht:=eK.time;have hn:=eK.nb;have Q5:=eK.steps;have hk:=eK.xE.k;have lq:=eK.short;refine a8 (args:=[_,_]) func86 rfl ntmps86 results86 rfl ?_
 (repeat (refine wA ?_;intros))
 rename_i g3;refine bk (id:=2) [] (cL w (a.cells c s) dj (0,0)::R) mixed ?_
 (refine tM 0 ?_;refine tN 1 ?_;refine tF 2 ?_;refine tL 3 ?_;refine tM 4 ?_;refine tN 5 ?_;refine tF 6 ?_;refine tL 7 ?_;refine tM 10 ?_)
 refine tO 8 ?_;have BF:=fun L=>Fm L e a.mH (da c) c.retry s.n s.fd s.time zo zo
 rw [ll] at BF
 refine bg rfl rfl (Ct.at zP (BF _)) ?_;rintro _ _ ⟨ad,co,rfl,rfl⟩;refine ⟨fun _=>zE,?_⟩
 (refine tk 9 _ rfl (bN rfl) ?_)
 refine bf zK ?_;have WK:=Jd (now:=s.time) eK.fd;have Vn:s.fd.cur=none→s.fd.lf s.time=[]:=fun h=>zC (k:=c.k) (n:=s.n) (eK.idle h)
 obtain ⟨s1,fR⟩:∃ s1:dc,s1={ s with fd:=s.fd.kJ c.retry s.time,n:=s.n+c.k }:=⟨_,rfl⟩
 have SU:s.zx c={ s1 with ee:=mu s.ls.cG s.fd.dX (s.fd.lf s.time) s.ee }:=by rw [fR];rfl
 obtain ⟨q1,-,-,-⟩:=zD c.retry s.time s.fd;have IZ:s1.fd.dX=s.fd.dX:=by rw [fR];exact Di q1
 have Ca:s1.fd.cur=s.fd.cur:=by rw [fR];exact q1
 have LH:s1.fd=s.fd.kJ c.retry s.time:=by rw [fR]
 have hN:s.SQ c=(mu s.ls.cG s.fd.dX (s.fd.lf s.time) s.ee).length - s.ee.length:=rfl;rw [hN]
 generalize XJ:s.fd.lf s.time=rq at *
 refine wB ?_;refine bq (ι:=Nat × eh) (fun j=>[(0,pt w),(6,.int .i64 (((mu s.ls.cG s.fd.dX (rq.take j.1) s.ee).length - s.ee.length:Nat):Int)),(24,.slice ad rq.length co),(25,.int .i64 (rq.length:Int)),(26,.int .i64 (j.1:Int))]) (fun j=>uC (.slice ad rq.length co) rq::dP w c s1 j.2 M R) (fun j=>j.1≤rq.length∧j.2={ a with nl:=j.2.nl }∧j.2.nl.map gW.d=(mu s.ls.cG s.fd.dX (rq.take j.1) s.ee).map (fZ.d c.k)) (fun j=>rq.length - j.1) (0,a) ⟨aH _,rfl,ha.ee⟩ (by rw [List.take_zero];simp only [mu,Nat.sub_self];exact zS) (by rw [fR];exact zE) ?_;rintro ⟨i,b⟩ ⟨hi,T5,Ab⟩;dsimp only at hi T5 Ab ⊢
 have hln:=(uH s.ls.cG s.fd.dX (rq.take i) s.ee eK.room)
 have abE:b.nl.length=(mu s.ls.cG s.fd.dX (rq.take i) s.ee).length:=by have:=congrArg List.length Ab;simpa using this
 by_cases cP:i<rq.length
 rotate_left
 ·have hii:rq.take i=rq:=aG zo;rw [hii] at Ab hln ⊢
  have eu:eh.ok b M w c (m+1) (s.zx c):=by
   rw [SU,T5];exact { ha with ee:=by rw [Ab],st:=by rw [← SU];exact na,ec:=Nat.le_trans ha.ec (Nat.mul_le_mul_left _ (Nat.le_succ m)),all:=⟨ha.all.all⟩,root:=by rw [fR];exact ha.root }
  generalize (mu s.ls.cG s.fd.dX rq s.ee).length - s.ee.length=cnt at *
  refine wB ?_;refine aY (dK w c (m+1) (s.zx c) ev::R) rfl (cn (show cB _ (dP w c (s.zx c) b M R) from ?_) (dU eu (by rw [T5];exact he))) ⟨rfl,rfl⟩;rw [SU];exact zE
 have fq:rq.take (i+1)=rq.take i++[rq[i]'cP]:=aD cP;have Bc:=BV s.ls.cG s.fd.dX (rq[i]'cP) (rq.take i) s.ee;rw [← fq] at Bc
 have Kv:=WK _ (ax cP)
 have HJ:∃ y,s.fd.cur=some y:=by
  cases hc:s.fd.cur with
  | none=>rw [Vn hc] at cP;exact absurd cP (Nat.not_lt_zero _)
  | some y=>exact ⟨y,rfl⟩
 obtain ⟨y,hy⟩:=HJ;have XK:s.fd.dX=y:=by unfold cQ.dX;rw [hy];rfl
 have Up:=(eK.cur y hy).1;rw [XK] at IZ Bc Kv Ab hln abE ⊢
 refine bD ((bb (show cR _ (uC (.slice ad rq.length co) rq) _ from zP)).shape zo) ?_;rintro ⟨⟨lO,c',lP,wG,IV,Ao,uW⟩,_⟩
 cases lP
 rcases uW with uW|⟨gq,oq,rfl⟩
 ·omega
 have H0:∀ (L R':List cK),cR L (uC (.slice (some ⟨gq,oq,none⟩) rq.length co) rq) R'→dZ L gq (oq+i*2) (KU (rq[i]'cP)):=fun L R' pl=>dZ.elem (bb pl) V7 (ae cP)
 have hql:rq.length≤1000:=by
  have h1:(rq.map (·.1)).Nodup:=by
   rw [← XJ];unfold cQ.lf;rw [List.map_map,show ((fun x:Nat × Nat=>x.1) ∘ fun w=>(w,(s.fd.st.getD w lu).size))=id from rfl,List.map_id];have h2:=(ri s.time s.fd.ag.length s.fd.ag).1.nodup_iff.2 eK.fd.CQ;exact (List.nodup_append.1 h2).1
  have h2:=ot c.k (rq.map (·.1)) h1 (fun x hx=>by obtain ⟨q,hq,rfl⟩:=aE.1 hx;exact (WK q hq).1);rw [ab] at h2
  omega
 generalize rq[i]'cP=r at *
 obtain ⟨z,fr⟩:=r;dsimp only at Kv H0 Bc
 dsimp only [KU] at H0
 generalize hA:mu s.ls.cG y (rq.take i) s.ee=nq at *
 have Qv:=Up.2.2.1;refine wB ?_;refine O.dx rfl (H0 _ _ zP) rfl rfl ?_
 (repeat (refine wA ?_;intros))
 refine aZ rfl rfl (Ct.at zP (H2 _ e b.mH (da c) c.retry s1.n s1.fd)) ?_;rintro _ _ ⟨N,ur,up,uq,rfl,SP,rfl⟩;rw [IZ] at SP ⊢
 rw [Ca,hy];refine bn (cz (SP.root.cM (cH zP))) fun o3=>?_
 refine bn (SP.sig.cM (cH zP)).parts.one fun o4=>?_
 refine bn (SP.sig.cM (cH zP)).path.one fun o5=>?_
 have oR:s1.ls=s.ls:=by rw [fR]
 have vK:=qL (l:=s.ls.cG.take y.dd.size) (n:=fr) (by rw [aF];omega)
 (repeat' first|refine W.pJ (id:=7) (fun j:(Nat × Nat × Nat) × List eo × Option Addr × Nat=>[(0,pt w),(6,.int .i64 ((nq.length - s.ee.length:Nat):Int)),(8,pt j.1.1),(9,pt j.1.2.1),(11,pt j.1.2.2),(12,.int .i64 0),(24,.slice (some ⟨gq,oq,none⟩) rq.length co),(25,.int .i64 (rq.length:Int)),(26,.int .i64 (i:Int))]) (fun j=>cL j.1.2.2 [.int .i64 (fr:Int),.int .i64 (y.dd.size:Int),.slice j.2.2.1 j.2.1.length j.2.2.2] 102 (0,0)::cL j.1.2.1 (dT y ur up uq) rE (0,0)::cL j.1.1 [.int .i64 (z:Int),.int .i64 (fr:Int)] Fl (0,0)::cV (.slice j.2.2.1 j.2.1.length j.2.2.2) j.2.1::cI j.2.1::N::uC (.slice (some ⟨gq,oq,none⟩) rq.length co) rq::dP w c s1 b M R) (fun j=>j.2.1.map (·.2)=ja ((s.ls.cG.take y.dd.size).map cZ) fr) ?_ ?_|refine Za ?_|refine Zb ?_|apply Ze|apply Zf|refine Yh fun _=>?_|refine YN ?_|refine YR ?_|fail)
 rotate_left
 ·refine ⟨?_⟩;rename_i g8 g9;refine bk (id:=6) [15] (cL g9 (dT y ur up uq) rE (0,0)::cL g8 [.int .i64 (z:Int),.int .i64 (fr:Int)] Fl (0,0)::cL w (b.cells c s1) dj (0,0)::N::R) mixed ?_
  (refine tM 0 ?_;refine tN 1 ?_;refine tF 2 ?_;refine tL 3 ?_;refine tF 4 ?_;refine tL 5 ?_;refine tF 6 ?_;refine tF 7 ?_;refine tL 8 ?_)
  refine A.two 9 13 rfl rfl rfl rfl zK ?_ ?_
  ·refine bg rfl rfl (Ct.at zP (yQ _ e b.gl b.ld b.lk (cS 0) s1.ls fr y.dd.size (by rw [oR];exact Qv) Kv.2)) ?_;rintro _ _ ⟨dW,k2,out,rfl,lx,rfl⟩;rw [oR] at lx
   refine ⟨fun _=>zE,?_⟩
   (refine tM 10 ?_;refine tk 11 _ rfl (bl rfl rfl) ?_;refine tk 12 _ rfl (bl rfl rfl) ?_)
   refine tO 13 ?_;refine bR (cs:=[.int .i64 0,.int .i64 0,nY]) rfl rfl fun DK=>⟨fun _=>zE,?_⟩
   refine tO 14 ?_;refine zg ?_;refine ⟨fun _=>zE,?_⟩;refine tO 15 ?_;refine dV (bj rfl) ?_;refine bf zK ?_;exact bK ((g8,g9,DK),out,dW,k2) lx zS zE
  ·refine bR (cs:=[.int .i64 0,.int .i64 0,nY]) rfl rfl fun DK=>⟨fun _=>zE,?_⟩
   refine tO 9 ?_;refine bg rfl rfl (Ct.at zP (yQ _ e b.gl b.ld b.lk (cS 0) s1.ls fr y.dd.size (by rw [oR];exact Qv) Kv.2)) ?_;rintro _ _ ⟨dW,k2,out,rfl,lx,rfl⟩;rw [oR] at lx
   refine ⟨fun _=>zE,?_⟩
   (refine tM 10 ?_;refine tk 11 _ rfl (bl rfl rfl) ?_;refine tk 12 _ rfl (bl rfl rfl) ?_)
   refine tO 14 ?_;refine zg ?_;refine ⟨fun _=>zE,?_⟩;refine tO 15 ?_;refine dV (bj rfl) ?_;refine bf zK ?_;exact bK ((g8,g9,DK),out,dW,k2) lx zS zE
 rintro ⟨⟨g8,g9,DK⟩,out,dW,k2⟩ lx;dsimp only at lx ⊢
 refine wB ?_;refine aZ rfl rfl (jk _ e) ?_;rintro _ _ ⟨gw,rfl,rfl⟩;refine wB ?_;refine aZ rfl rfl (Bk _ e gw [] ur up uq y (SP.cM (cH zP)) Up.1.1 Up.2.1 (by simp)) ?_;rintro _ _ ⟨rfl,rfl⟩;have Pa:=iQ Up.1.1 Up.2.1;have Wo:=Up.1.1.1;have Et:out.length≤16:=by have:=congrArg List.length lx;rw [ab] at this;omega
 rw [List.nil_append];refine wB ?_;refine aZ rfl rfl (gF _ e gw _ fr zo zo) ?_;rintro _ _ ⟨rfl,rfl⟩;refine wB ?_;refine aZ rfl rfl (gF _ e gw _ y.dd.size zo (by rw [aa,cY];omega)) ?_;rintro _ _ ⟨rfl,rfl⟩;refine wB ?_;rw [qp (show out.length<256 by omega)];refine aZ rfl rfl (mC _ e gw (ic y++be fr 4++be y.dd.size 4) (UInt8.ofNat out.length) (by rw [aa,aa,cY,cY];omega)) ?_;rintro _ _ ⟨rfl,rfl⟩;refine wB ?_;have abF:(ic y++be fr 4++be y.dd.size 4++[UInt8.ofNat out.length]).length=2225:=by simp only [aa,cY,aj];omega
 have WL:ic y++be fr 4++be y.dd.size 4++[UInt8.ofNat out.length]++(out.map (·.2)).flatten=qJ y fr y.dd.size (out.map (·.2)):=by
  unfold qJ;rw [ab];simp only [aM,List.cons_append,List.nil_append,List.singleton_append]
 have WN:∀ x∈out.map (·.2),x.length=32:=by rw [lx];exact vK.2
 have DF:=fc WN;rw [ab] at DF
 generalize Me:ic y++be fr 4++be y.dd.size 4++[UInt8.ofNat out.length]=pre at *
 refine bq (ι:=Nat) (fun j=>[(0,pt w),(6,.int .i64 ((nq.length - s.ee.length:Nat):Int)),(8,pt g8),(13,pt gw),(24,.slice (some ⟨gq,oq,none⟩) rq.length co),(25,.int .i64 (rq.length:Int)),(26,.int .i64 (i:Int)),(74,.slice dW out.length k2),(75,.int .i64 (out.length:Int)),(76,.int .i64 (j:Int))]) (fun j=>Writer gw (pre++((out.map (·.2)).take j).flatten)::cV (.slice dW out.length k2) out::cI out::cL g8 [.int .i64 (z:Int),.int .i64 (fr:Int)] Fl (0,0)::uC (.slice (some ⟨gq,oq,none⟩) rq.length co) rq::dP w c s1 b M R) (fun j=>j≤out.length) (fun j=>out.length - j) 0 (aH _) zS (by rw [List.take_zero,List.flatten_nil,aK];exact zE) ?_;intro j hj;have afK:=C2 (l:=out.map (·.2)) (i:=j)
 by_cases xk:j<out.length
 ·refine bD ((bb (show cR _ (cV (.slice dW out.length k2) out) _ from zP)).shape zo) ?_;rintro ⟨⟨lO,c',lP,wG,IV,Ao,uW⟩,_⟩
  cases lP
  rcases uW with uW|⟨gr,or',rfl⟩
  ·omega
  have iX:∀ L R',cR L (cV (.slice (some ⟨gr,or',none⟩) out.length k2) out) R'→Rd L ⟨gr,or'+j,none⟩ (out[j]'xk).1:=fun L R' p=>(bb p).elem (by rw [aL,ae xk];rfl)
  have sf:∀ L R',cR L (cI out) R'→db L (out[j]'xk).1 (out[j]'xk).2:=fun L R' p=>dR.ef p _ (ax xk)
  have WO:((out.map (·.2)).take (j+1)).flatten=((out.map (·.2)).take j).flatten++(out[j]'xk).2:=by
   rw [vJ (by rw [ab];exact xk),List.getElem_map]
  have hlx:=WN _ (aE.2 ⟨_,ax xk,rfl⟩)
  generalize out[j]'xk=x at *
  obtain ⟨xv,xb⟩:=x;dsimp only at iX sf WO hlx
  refine bD (cz (sf _ _ zP)) fun ox=>?_
  refine wB ?_;refine bW rfl (iX _ _ zP) rfl ?_;refine wB ?_;refine aZ rfl rfl (hI _ e gw _ xb xv (sf _ _ zP) (by rw [aa];omega)) ?_;rintro _ _ ⟨rfl,rfl⟩;refine wB ?_;exact bi (j+1) xk zo zS (by rw [WO,← aM];exact zE)
 rw [aG (by rw [ab];omega),WL];have rL:(qJ y fr y.dd.size (out.map (·.2))).length≤100000:=by rw [← WL,aa,abF,DF];omega
 refine wB ?_;have hzk:=Kv.1
 have WR:∀ v2:Value,nq.length<32→(b.nl++[(⟨1,0,((z:Int)+1),v2,qJ y fr y.dd.size (out.map (·.2))⟩:gW)]).map gW.d=(mu s.ls.cG y (rq.take (i+1)) s.ee).map (fZ.d c.k):=fun v2 h=>by
  rw [Bc,aI h,ah,ah,Ab];unfold PE;rw [← lx]
  rfl
 have abG:¬ nq.length<32→mu s.ls.cG y (rq.take (i+1)) s.ee=nq:=fun h=>by rw [Bc,aB h]
 generalize hbd:qJ y fr y.dd.size (out.map (·.2))=bd at *
 refine bk (id:=18) [] (cL g8 [.int .i64 (z:Int),.int .i64 (fr:Int)] Fl (0,0)::cL w (b.cells c s1) dj (0,0)::R) mixed ?_
 (refine tM 0 ?_;refine tN 1 ?_;refine tF 2 ?_;refine tL 3 ?_;refine tF 4 ?_;refine tL 5 ?_;refine tk 6 _ rfl (cE.kS rfl rfl zo) ?_;refine tM 7 ?_)
 refine tO 8 ?_;refine bg rfl rfl (hJ _ e gw bd zo) ?_;rintro _ _ ⟨eE,k3,rfl,rfl⟩;refine ⟨fun _=>zE,?_⟩;refine tk 9 _ rfl (bM rfl zF) ?_;refine tO 10 ?_;refine bg rfl rfl (Ct.at zP (sL _ e b.gn 32 b.nl ⟨1,0,((z:Int)+1),.slice eE bd.length k3,bd⟩ (bb (show cR _ (cT (.slice eE bd.length k3) bd) _ from zP)) zd zo zo)) ?_;rintro _ _ (⟨wb,rfl,v2,rfl⟩|⟨wb,rfl,rfl⟩)
 ·refine ⟨fun _=>zE,?_⟩;refine bf zK ?_;have hsn:=congrArg List.length (WR v2 zo);rw [ab,ab,aa,aj] at hsn
  have abH:((mu s.ls.cG y (rq.take (i+1)) s.ee).length - s.ee.length:Nat)=(nq.length - s.ee.length)+1:=by omega
  refine wB ?_;refine bi (i+1,{ b with nl:=b.nl++[⟨1,0,((z:Int)+1),v2,bd⟩] }) ⟨cP,by dsimp only;rw [T5],WR v2 zo⟩ zd (by dsimp only;rw [abH];exact zS) zE
 ·refine ⟨fun _=>zE,?_⟩;refine bf zK ?_;have hq:=abG zo;refine wB ?_;refine bi (i+1,b) ⟨cP,T5,by dsimp only;rw [hq];exact Ab⟩ zd (by dsimp only;rw [hq];exact zS) zE
structure It where
 k:Nat
 n:Nat
 to:Nat
 b:dw
abbrev It.cells (x:It) (v:Value):List Value:=oB (x.k:Int) (x.n:Int) (x.to:Int) 0 v
def dc.FM (c:di) (s:dc) (x:It):dc × Int × Int:=match x.k with
 | 1=>(s.sub c x.b,(s.fs.fE c.f s.ls.cG x.b (s.time:Int)).1,0)
 | 2=>(s.On x.n,((s.On x.n).time:Int),0)
 | 3=>(s.Gi c,(s.K2 c:Int),0)
 | 4=>(s.je c,if s.m4 then (s.fo.dd.size:Int) else 0,if s.m4 then 0 else 23)
 | 5=>(s.zx c,(s.SQ c:Int),0)
 | 6=>s.AH c x.n
 | 7=>(if x.n<s.ee.length then s.lost x.n else s,0,if x.n<s.ee.length then 0 else 1)
 | 8=>(s.LI x.n,0,s.FF x.n)
 | 9=>((s.Ot x.n).1,0,(s.Ot x.n).2)
 | _=>(s,0,1)
def Uq (ev:List (Int × Int × Int × dw)) (s:dc):Prop:=∀ x∈ev,(x.1=3∧∃ ch:jg,s.signed=some ch∧x=(3,(ch.size:Int),0,ch.root))∨(x.1≠3∧(x.1=7∨s.fs.recs≠[]))
theorem rF.d {ev:List (Int × Int × Int × dw)} {s:dc} (h:rF ev s):Uq ev s:=fun x hx=>.inr (h x hx)
theorem EvP.d {ev:List (Int × Int × Int × dw)} {s:dc} (h:EvP ev s):Uq ev s:=fun x hx=>by
 rcases h with rfl|⟨ch,h1,rfl⟩
 ·cases hx
 ·rw [an.1 hx];exact .inl ⟨rfl,ch,h1,rfl⟩
end Go.Proofs
namespace Go.Proofs
attribute [local irreducible] Bs.cE Bs.Do Bs.O Bs.W Bs.Fin Bs.A Bs.Ct Bs.cF Bs.Rd Bs.Sat Bs.cL Bs.Ob Bs.dJ Bs.View Bs.cB Bs.Ex Bs.dH Bs.Pu Bs.eZ Bs.dO Bs.dZ
open Go.Bs
open Tryz
variable (R:List cK) (e:World)
theorem zY (w:Nat) (c:di) (m:Nat) (s:dc) (ev:List (Int × Int × Int × dw)) (x:It) (v:Value) (hv:db R v x.b) (hk:1≤x.k∧x.k≤9) (hn:x.n≤1000) (hb:x.b.length≤200) (hm:m<250) :
 Ct prog 25 #[ptr w,.agg (x.cells v).toArray] e (dK w c m s ev::R) (fun v' L'=>v'=.agg [.int .i64 (x.k:Int),.int .i64 (s.FM c x).2.1,.int .i64 (s.FM c x).2.2].toArray∧∃ X,(∃ jQ,Uq jQ (s.FM c x).1∧X=dK w c (m+1) (s.FM c x).1 (ev++jQ))∧L'=X::R):=by
 refine a7 (cz (hv.cM (show cB (dK w c m s ev::R) R from zE))) fun o=>?_
 obtain ⟨k,n,to,b⟩:=x;dsimp only at hv hk hn hb ⊢
 have h9:k=1∨k=2∨k=3∨k=4∨k=5∨k=6∨k=7∨k=8∨k=9:=by omega
 rcases h9 with rfl|rfl|rfl|rfl|rfl|rfl|rfl|rfl|rfl
 ·exact kL R e w c m s ev 1 n to 0 v o _ (by decide) rfl _ _ _ fun R' f=>(K1 R' e w c m s ev _ n to 0 v b (hv.cM f) hb hm).mono fun v' L' h=>by
   obtain ⟨h1,jQ,h2,h3⟩:=h;exact ⟨h1,_,⟨jQ,h2.d,rfl⟩,h3⟩
 ·exact kL R e w c m s ev 2 n to 0 v o _ (by decide) rfl _ _ _ fun R' f=>(H8 R' e w c m s ev _ to 0 n v o hn hm).mono fun v' L' h=>by
   obtain ⟨h1,h3⟩:=h;exact ⟨h1,_,⟨[],rF.nil.d,by rw [aK];rfl⟩,h3⟩
 ·exact kL R e w c m s ev 3 n to 0 v o _ (by decide) rfl _ _ _ fun R' f=>(H9 R' e w c m s ev _ n to 0 v o hm).mono fun v' L' h=>by
   obtain ⟨h1,jQ,h2,h3⟩:=h;exact ⟨h1,_,⟨jQ,h2.d,rfl⟩,h3⟩
 ·exact kL R e w c m s ev 4 n to 0 v o _ (by decide) rfl _ _ _ fun R' f=>(K5 R' e w c m s ev _ n to 0 v o hm).mono fun v' L' h=>by
   obtain ⟨h1,jQ,h2,h3⟩:=h;exact ⟨h1,_,⟨jQ,h2.d,rfl⟩,h3⟩
 ·exact kL R e w c m s ev 5 n to 0 v o _ (by decide) rfl _ _ _ fun R' f=>(Lh R' e w c m s ev _ n to 0 v o hm).mono fun v' L' h=>by
   obtain ⟨h1,h3⟩:=h;exact ⟨h1,_,⟨[],rF.nil.d,by rw [aK];rfl⟩,h3⟩
 ·exact kL R e w c m s ev 6 n to 0 v o _ (by decide) rfl _ _ _ fun R' f=>(AL R' e w c m s ev _ to 0 n v o zo hm).mono fun v' L' h=>by
   obtain ⟨h1,jQ,h2,h3⟩:=h;exact ⟨h1,_,⟨jQ,h2.d,rfl⟩,h3⟩
 ·exact kL R e w c m s ev 7 n to 0 v o _ (by decide) rfl _ _ _ fun R' f=>(Ia R' e w c m s ev _ to 0 n v o zo hm).mono fun v' L' h=>by
   obtain ⟨h1,h3⟩:=h;exact ⟨h1,_,⟨[],rF.nil.d,by rw [aK];rfl⟩,h3⟩
 ·exact kL R e w c m s ev 8 n to 0 v o _ (by decide) rfl _ _ _ fun R' f=>(Dn R' e w c m s ev _ to 0 n v o zo hm).mono fun v' L' h=>by
   obtain ⟨h1,h3⟩:=h;exact ⟨h1,_,⟨[],rF.nil.d,by rw [aK];rfl⟩,h3⟩
 ·exact kL R e w c m s ev 9 n to 0 v o _ (by decide) rfl _ _ _ fun R' f=>(FL R' e w c m s ev _ to 0 n v o zo hm).mono fun v' L' h=>by
   obtain ⟨h1,h3⟩:=h;exact ⟨h1,_,⟨[],rF.nil.d,by rw [aK];rfl⟩,h3⟩
abbrev Ig:=Int × Int × Int
abbrev Ig.cells (o:Ig):List Value:=[.int .i64 o.1,.int .i64 o.2.1,.int .i64 o.2.2]
abbrev FN.cells (t:It × Value):List Value:=It.cells t.1 t.2
theorem Tl (t:It × Value):(FN.cells t).length=5:=rfl
theorem NL (w:Nat) (c:di) (m:Nat) (s:dc) (ev:List (Int × Int × Int × dw)) (vl:Value) (ts:List (It × Value)) (Inv:dc→List (Int × Int × Int × dw)→Prop) (f:dc→It→dc) (hl:cF R 5 vl ts.length (ts.flatMap FN.cells)) (ht:∀ t∈ts,db R t.2 t.1.b) (hm:m+ts.length≤250) (h0:Inv s ev)
 (U9:∀ (R':List cK) (t:It × Value) (m:Nat) (s:dc) (ev:List (Int × Int × Int × dw)),t∈ts→m<250→db R' t.2 t.1.b→Inv s ev→Ct prog 25 #[ptr w,.agg (FN.cells t).toArray] e (dK w c m s ev::R') (fun v' L'=>(∃ o:Ig,v'=.agg (Ig.cells o).toArray)∧∃ jQ,Inv (f s t.1) jQ∧L'=dK w c (m+1) (f s t.1) jQ::R')) :
 Ct prog 26 #[ptr w,vl] e (dK w c m s ev::R) (fun v' L'=>∃ jQ,Inv (ts.foldl (fun s t=>f s t.1) s) jQ∧L'=dK w c (m+ts.length) (ts.foldl (fun s t=>f s t.1) s) jQ::R):=by
 refine a7 ((hl.cM (show cB (dK w c m s ev::R) R from zE)).shape zo) ?_;rintro ⟨⟨ad,cl,rfl,h1,h2,h3,h4⟩,_⟩;simp only [maxLen] at h2
 refine a8 (args:=[_,_]) func26 rfl ntmps26 results26 rfl ?_;refine wB ?_;refine bq (ι:=List Ig × Option Addr × Nat × List (Int × Int × Int × dw)) (fun i=>[(0,ptr w),(5,.slice i.2.1 i.1.length i.2.2.1),(8,.slice ad ts.length cl),(9,.int .i64 (ts.length:Int)),(10,.int .i64 (i.1.length:Int))]) (fun i=>dJ Tk 3 (.slice i.2.1 i.1.length i.2.2.1) i.1.length (i.1.flatMap Ig.cells)::dK w c (m+i.1.length) ((ts.take i.1.length).foldl (fun s t=>f s t.1) s) i.2.2.2::R) (fun i=>i.1.length≤ts.length∧Inv ((ts.take i.1.length).foldl (fun s t=>f s t.1) s) i.2.2.2) (fun i=>ts.length - i.1.length) ([],none,0,ev) ⟨aH _,h0⟩ zS (du Tk 3) ?_;rintro ⟨os,ao,ko,Ur⟩ ⟨hle,hinv⟩;dsimp only at hle hinv ⊢
 by_cases cP:os.length<ts.length
 rotate_left
 ·have abI:os.length=ts.length:=by omega
  rw [abI,List.take_length] at hinv ⊢
  refine wB ?_;exact aY (dK w c (m+ts.length) (ts.foldl (fun s t=>f s t.1) s) Ur::R) rfl zE ⟨Ur,hinv,rfl⟩
 rcases h4 with h4|⟨gl,ol,rfl⟩
 ·omega
 have hg:ts[os.length]?=some (ts[os.length]'cP):=ae cP;have rv:ts[os.length]'cP∈ts:=ax cP;have fq:ts.take (os.length+1)=ts.take os.length++[ts[os.length]'cP]:=aD cP
 generalize ts[os.length]'cP=t at hg rv fq
 have hr:dZ R gl (ol+os.length*5) (FN.cells t):=dZ.elem hl Tl hg;have QV:=ht t rv;refine bD (cz (QV.cM (show cB _ R from zE))) fun o=>?_
 generalize fR:(ts.take os.length).foldl (fun s t=>f s t.1) s=s1 at hinv ⊢
 have mz:(ts.take (os.length+1)).foldl (fun s t=>f s t.1) s=f s1 t.1:=by rw [fq,List.foldl_append,fR];rfl
 (repeat (refine wA ?_;intros))
 rename_i g7;refine aZ rfl rfl (Ct.at zP (U9 _ t (m+os.length) s1 Ur rv zo (QV.cM zE) hinv)) ?_;rintro _ _ ⟨⟨ou,rfl⟩,Ns,WS,rfl⟩
 (repeat (refine wA ?_;intros))
 rename_i gb;refine bC (bo rfl rfl rfl (show cR _ (dJ Tk 3 (.slice ao os.length ko) os.length (os.flatMap Ig.cells)) _ from zP) (bP (n:=3) (c:=1) zP rfl zl) rfl rfl zO zm zo fun ei k1 _=>?_)
 refine wB ?_;refine bi (os++[ou],ei,k1,Ns) ⟨by dsimp only;rw [aa,aj];omega,by dsimp only;rw [aa,aj,mz];exact WS⟩ (by dsimp only;rw [aa,aj];omega) ?_ ?_
 ·simp only [aa,aj];exact zS
 ·simp only [aa,aj,aW,aT,List.flatMap_nil,aK];rw [mz,← Nat.add_assoc];exact zE
theorem FO {w:Nat} {c:di} {m:Nat} {s:dc} {ev:List (Int × Int × Int × dw)} {L R:List cK} {P:Program} {N:Fr} {all:Array Oper} {l:List Oper} {Q:fP} {σ:Env} {e:World} (p:cR L (dK w c m s ev) R)
 (h:∀ (a:eh) (M:cK),a.ok M w c m s→a.es.map (fun x=>(x.k,x.a,x.b,x.t))=ev→O P N all l Q σ e (dP w c s a M R)):O P N all l Q σ e L :=
 O.ex (f:=fun a:eh=>Ex fun M:cK=>dH [Pu (a.es.map (fun x=>(x.k,x.a,x.b,x.t))=ev),uF w c m s a M]) (show cR L (Ex fun a:eh=>Ex fun M:cK=>dH [Pu (a.es.map (fun x=>(x.k,x.a,x.b,x.t))=ev),uF w c m s a M]) R from p) fun a=>O.ex .zero fun M=>O.fp (cU (M:=[Pu (a.es.map (fun x=>(x.k,x.a,x.b,x.t))=ev),uF w c m s a M]) (L:=R)) (bn (p:=a.es.map (fun x=>(x.k,x.a,x.b,x.t))=ev) (fun w x=>(jR x).1) fun he=>O.fp (cB.drop aX) (O.fp (cU (M:=Pu (a.ok M w c m s)::dP w c s a M []) (L:=R)) (bn (p:=a.ok M w c m s) (fun w x=>(jR x).1) fun hp=>O.fp (cB.drop aX) (h a M hp he))))
theorem lv (w:Nat) (c:di) (s:dc) (a:eh) :
 Ct prog 28 #[ptr w] e (cL w (a.cells c s) dj (0,0)::R) (fun v' L'=>v'=ptr a.gu∧L'=cL w (a.cells c s) dj (0,0)::R):=by
 refine a8 (args:=[_]) func28 rfl ntmps28 results28 rfl ?_;refine wB ?_;exact aY (cL w (a.cells c s) dj (0,0)::R) rfl zE ⟨rfl,rfl⟩
theorem uM (w:Nat) (c:di) (s:dc) (a:eh) :
 Ct prog 31 #[ptr w] e (cL w (a.cells c s) dj (0,0)::R) (fun v' L'=>v'=ptr a.gl∧L'=cL w (a.cells c s) dj (0,0)::R):=by
 refine a8 (args:=[_]) func31 rfl ntmps31 results31 rfl ?_;refine wB ?_;exact aY (cL w (a.cells c s) dj (0,0)::R) rfl zE ⟨rfl,rfl⟩
theorem wW (w:Nat) (c:di) (s:dc) (a:eh) :
 Ct prog 59 #[ptr w] e (cL w (a.cells c s) dj (0,0)::R) (fun v' L'=>v'=ptr a.gf∧L'=cL w (a.cells c s) dj (0,0)::R):=by
 refine a8 (args:=[_]) func59 rfl ntmps59 results59 rfl ?_;refine wB ?_;exact aY (cL w (a.cells c s) dj (0,0)::R) rfl zE ⟨rfl,rfl⟩
theorem AM (w:Nat) (c:di) (s:dc) (a:eh) :
 Ct prog 34 #[ptr w] e (cL w (a.cells c s) dj (0,0)::R) (fun v' L'=>v'=ptr a.gm∧L'=cL w (a.cells c s) dj (0,0)::R):=by
 refine a8 (args:=[_]) func34 rfl ntmps34 results34 rfl ?_;refine wB ?_;exact aY (cL w (a.cells c s) dj (0,0)::R) rfl zE ⟨rfl,rfl⟩
theorem B3 (w:Nat) (c:di) (s:dc) (a:eh) :
 Ct prog 61 #[ptr w] e (cL w (a.cells c s) dj (0,0)::R) (fun v' L'=>v'=ptr a.gn∧L'=cL w (a.cells c s) dj (0,0)::R):=by
 refine a8 (args:=[_]) func61 rfl ntmps61 results61 rfl ?_;refine wB ?_;exact aY (cL w (a.cells c s) dj (0,0)::R) rfl zE ⟨rfl,rfl⟩
theorem AN (w:Nat) (c:di) (s:dc) (a:eh) (j:Nat) (hj:j<a.wx.length) (hl:a.wx.length≤1000) :
 Ct prog 45 #[ptr w,.int .i64 (j:Int)] e (cL w (a.cells c s) dj (0,0)::dJ pZ 1 a.l6 a.wx.length (a.wx.map jJ)::R) (fun v' L'=>v'=ptr (a.wx[j]'hj).g∧L'=cL w (a.cells c s) dj (0,0)::dJ pZ 1 a.l6 a.wx.length (a.wx.map jJ)::R):=by
 refine a7 ((bb (show cR (cL w (a.cells c s) dj (0,0)::dJ pZ 1 a.l6 a.wx.length (a.wx.map jJ)::R) (dJ pZ 1 a.l6 a.wx.length (a.wx.map jJ)) _ from zP)).shape zo) ?_;rintro ⟨⟨HN,cw,BX,wG,IV,Ao,uW⟩,_⟩;rcases uW with uW|⟨gq,oq,rfl⟩
 ·omega
 have QC:∀ (L R':List cK),cR L (dJ pZ 1 (.slice (some ⟨gq,oq,none⟩) a.wx.length cw) a.wx.length (a.wx.map jJ)) R'→Rd L ⟨gq,oq+j,none⟩ (ptr (a.wx[j]'hj).g):=fun L R' pl=>(bb pl).elem (by rw [aL,ae hj];rfl)
 generalize a.wx[j]'hj=y at QC ⊢
 refine a8 (args:=[_,_]) func45 rfl ntmps45 results45 rfl ?_;refine wB ?_;rw [BX];refine wB ?_;rw [BX]
 (repeat (refine wA ?_;intros))
 refine bW rfl (QC _ _ zP) rfl ?_;refine wB ?_;rw [← BX];exact aY (cL w (a.cells c s) dj (0,0)::dJ pZ 1 a.l6 a.wx.length (a.wx.map jJ)::R) rfl zE ⟨rfl,rfl⟩
theorem FP (w:Nat) (c:di) (m:Nat) (s:dc) (ev:List (Int × Int × Int × dw)) :
 Ct prog 81 #[ptr w,.agg (fX c).toArray] e (dK w c m s ev::R) (fun v' L'=>v'=.bool true∧L'=dK w c m s ev::R):=by
 refine gN fun a M ha he=>?_
 have Gd:=ha.st.xE.k
 have C7:a.wx.length=c.k:=by
  obtain ⟨vl,vu,vs,Wp,K9,-⟩:=ha.all.all;exact K9
 refine a8 (args:=[_,_]) func81 rfl ntmps81 results81 rfl ?_
 (repeat (refine wA ?_;intros))
 refine aZ rfl rfl (Ct.at zP (uM _ e w c s a)) ?_;rintro _ _ ⟨rfl,rfl⟩;refine wB ?_;refine aZ rfl rfl (Ct.at zP (wW _ e w c s a)) ?_;rintro _ _ ⟨rfl,rfl⟩;refine wB ?_;refine aZ rfl rfl (Ct.at zP (lv _ e w c s a)) ?_;rintro _ _ ⟨rfl,rfl⟩;refine wB ?_;refine aZ rfl rfl (Ct.at zP (AM _ e w c s a)) ?_;rintro _ _ ⟨rfl,rfl⟩;refine wB ?_;refine aZ rfl rfl (Ct.at zP (B3 _ e w c s a)) ?_;rintro _ _ ⟨rfl,rfl⟩;refine wB ?_;rename_i g3;refine bq (ι:=Nat) (fun i=>[(0,ptr w),(3,ptr g3),(5,.int .i64 (i:Int))]) (fun _=>cL g3 (fX c) iU (0,0)::dP w c s a M R) (fun i=>i≤c.k) (fun i=>c.k - i) 0 (aH _) zS zE ?_;intro i hi
 by_cases cP:i<c.k
 rotate_left
 ·refine wB ?_;exact aY (dK w c m s ev::R) rfl (cn (show cB _ (dP w c s a M R) from zE) (dU ha he)) ⟨rfl,rfl⟩
 refine wB ?_;refine aZ rfl rfl (Ct.AR zP zP (AN _ e w c s a i zo zo)) ?_;rintro _ _ ⟨rfl,rfl⟩;refine wB ?_;exact bi (i+1) zo zo zS zE
theorem zZ (c:di) (hc:c.ok) :
 Ct prog 23 #[.agg (fX c).toArray] e R (fun v' L'=>∃ w,v'=ptr w∧L'=dK w c 0 (pG c) []::R):=by
 refine a8 (args:=[_]) func23 rfl ntmps23 results23 rfl ?_
 (repeat (refine wA ?_;intros))
 refine aZ rfl rfl (Lg _ e c hc) ?_;rintro _ _ ⟨w,rfl,rfl⟩;refine wB ?_;refine aZ rfl rfl (FP _ e w c 0 (pG c) []) ?_;rintro _ _ ⟨rfl,rfl⟩;refine wB ?_;exact aY (dK w c 0 (pG c) []::R) rfl zE ⟨w,rfl,rfl⟩
def uN (n q room size wait retry:Int):di:=⟨(within n 1 3).toNat,(within q 1 (within n 1 3)).toNat,(within room 1 16).toNat,(within size 1 8).toNat,(within wait 0 6).toNat,(within retry 1 4).toNat⟩
theorem wX (n q room size wait retry:Int) (h1:-9223372036854775808≤n∧n≤9223372036854775807) (h2:-9223372036854775808≤q∧q≤9223372036854775807) (h3:-9223372036854775808≤room∧room≤9223372036854775807) (h4:-9223372036854775808≤size∧size≤9223372036854775807) (h5:-9223372036854775808≤wait∧wait≤9223372036854775807) (h6:-9223372036854775808≤retry∧retry≤9223372036854775807) :
 Ct prog 22 #[.int .i64 n,.int .i64 q,.int .i64 room,.int .i64 size,.int .i64 wait,.int .i64 retry] e R (fun v' L'=>v'=.agg (fX (uN n q room size wait retry)).toArray∧R=L'):=by
 have b1:=dt n 1 3 zo;have b2:=dt q 1 (within n 1 3) zo;have b3:=dt room 1 16 zo;have b4:=dt size 1 8 zo;have b5:=dt wait 0 6 zo;have b6:=dt retry 1 4 zo
 have hcc:fX (uN n q room size wait retry)=[.int .i64 (within n 1 3),.int .i64 (within q 1 (within n 1 3)),.int .i64 (within room 1 16),.int .i64 (within size 1 8),.int .i64 (within wait 0 6),.int .i64 (within retry 1 4),.int .i64 1048576,.string (str iL)]:=by
  simp only [fX,uN];rw [Int.toNat_of_nonneg zo,Int.toNat_of_nonneg zo,Int.toNat_of_nonneg zo,Int.toNat_of_nonneg zo,Int.toNat_of_nonneg zo,Int.toNat_of_nonneg zo]
 rw [hcc];refine bI (args:=[_,_,_,_,_,_]) func22 rfl ntmps22 results22 rfl ?_
 (repeat (refine wA ?_;intros))
 refine aZ rfl rfl (eB _ e n 1 3 h1 zo) ?_;rintro _ _ ⟨rfl,rfl⟩;refine wB ?_;refine aZ rfl rfl (eB _ e q 1 (within n 1 3) h2 zo) ?_;rintro _ _ ⟨rfl,rfl⟩
 (repeat (refine wA ?_;intros))
 refine aZ rfl rfl (eB _ e room 1 16 h3 zo) ?_;rintro _ _ ⟨rfl,rfl⟩
 (repeat (refine wA ?_;intros))
 refine aZ rfl rfl (eB _ e size 1 8 h4 zo) ?_;rintro _ _ ⟨rfl,rfl⟩
 (repeat (refine wA ?_;intros))
 refine aZ rfl rfl (eB _ e wait 0 6 h5 zo) ?_;rintro _ _ ⟨rfl,rfl⟩
 (repeat (refine wA ?_;intros))
 refine aZ rfl rfl (eB _ e retry 1 4 h6 zo) ?_;rintro _ _ ⟨rfl,rfl⟩;refine wB ?_;apply br
 ·exact zV
 exact ⟨R,zE,rfl,rfl⟩
abbrev qM (k n:Nat):It:=⟨k,n,0,[]⟩
def sP (leaf:Nat):List It:=[qM 2 1,qM 3 0,qM 4 0,qM 5 0]++List.replicate 32 (qM 6 0)++[qM 9 leaf,qM 6 0]
def sQ (leaf:Nat):List (It × Value):=(sP leaf).map fun x=>(x,nL)
abbrev PS (x:It):List Value:=It.cells x nL
theorem Dr (leaf:Nat):(sQ leaf).flatMap FN.cells=(sP leaf).flatMap PS:=by
 unfold sQ;rw [List.flatMap_map]
theorem Ih (n:Value) (leaf:Nat) :
 Ct prog 27 #[n,.int .i64 (leaf:Int)] e R (fun v' L'=>∃ ad k,v'=.slice ad 38 k∧L'=dJ eN 5 (.slice ad 38 k) 38 ((sP leaf).flatMap PS)::R):=by
 refine a8 (args:=[_,_]) func27 rfl ntmps27 results27 rfl ?_
 (repeat (refine wA ?_;intros))
 rename_i g1;obtain ⟨l4,T7⟩:∃ l4:List It,l4=[qM 2 1,qM 3 0,qM 4 0,qM 5 0]:=⟨_,rfl⟩
 have hl:l4.length=4:=by rw [T7];rfl
 refine W.fp (show cB _ (dJ eN 5 (.slice (some ⟨g1,0,none⟩) 4 4) 4 (l4.flatMap PS)::R) from ?_) ?_
 ·have:=hH (E:=eN) (n:=5) (k:=4) (g:=g1) (cap:=4) (cur:=l4.flatMap PS) (R:=R) (aS _) zm (by rw [T7];rfl);rw [aG (by rw [T7];exact aS _)] at this
  refine cn (show cB _ (cL g1 (l4.flatMap PS) eN (0,0)::R) from ?_) this;rw [T7];exact zE
 refine bq (ι:=Nat × Option Addr × Nat) (fun i=>[(1,.int .i64 (leaf:Int)),(5,.slice i.2.1 (4+i.1) i.2.2),(11,.int .i64 (i.1:Int))]) (fun i=>dJ eN 5 (.slice i.2.1 (4+i.1) i.2.2) (4+i.1) ((l4++List.replicate i.1 (qM 6 0)).flatMap PS)::R) (fun i=>i.1≤32) (fun i=>32 - i.1) (0,some ⟨g1,0,none⟩,4) (aH _) zS (by dsimp only;rw [List.replicate_zero,aK];exact zE) ?_;rintro ⟨j,ad,k⟩ hj;dsimp only at hj ⊢
 by_cases cP:j<32
 ·(repeat (refine wA ?_;intros))
  rename_i g2;refine bC (bo rfl rfl rfl (show cR _ (dJ eN 5 (.slice ad (4+j) k) (4+j) ((l4++List.replicate j (qM 6 0)).flatMap PS)) _ from zP) (bP (n:=5) (c:=1) zP rfl zl) rfl rfl zO zm zo fun ei k1 _=>?_)
  refine wB ?_;refine bi (j+1,ei,k1) zd zd zS ?_;dsimp only;rw [show l4++List.replicate (j+1) (qM 6 0)=(l4++List.replicate j (qM 6 0))++[qM 6 0] by rw [List.replicate_succ',aM],aW (xs:=l4++List.replicate j (qM 6 0))];exact zE
 ·obtain rfl:j=32:=by omega
  (repeat (refine wA ?_;intros))
  rename_i g2;refine bC (bo rfl rfl rfl (show cR _ (dJ eN 5 (.slice ad (4+32) k) (4+32) ((l4++List.replicate 32 (qM 6 0)).flatMap PS)) _ from zP) (bP (n:=5) (c:=2) zP rfl zl) rfl rfl zO zm zo fun ei k1 _=>?_)
  refine wB ?_;refine aY (dJ eN 5 (.slice ei 38 k1) 38 ((sP leaf).flatMap PS)::R) rfl ?_ ⟨ei,k1,rfl,rfl⟩;rw [show sP leaf=(l4++List.replicate 32 (qM 6 0))++[qM 9 leaf,qM 6 0] by rw [T7];rfl,aW (xs:=l4++List.replicate 32 (qM 6 0))];exact zE
theorem FQ (leaf:Nat) (hl:leaf≤1000):∀ t∈sQ leaf,t.1.b=[]∧t.2=nL∧(1≤t.1.k∧t.1.k≤9)∧t.1.n≤1000:=by
 intro t ht;obtain ⟨x,hx,rfl⟩:=aE.1 ht
 have:x=qM 2 1∨x=qM 3 0∨x=qM 4 0∨x=qM 5 0∨x=qM 6 0∨x=qM 9 leaf:=by
  unfold sP at hx
  rcases aJ.1 hx with hx|hx
  ·rcases aJ.1 hx with hx|hx
   ·simp only [aQ,aO,or_false] at hx
    rcases hx with h|h|h|h<;>simp [h]
   ·rw [(List.mem_replicate.1 hx).2];simp
  ·simp only [aQ,aO,or_false] at hx
   rcases hx with h|h<;>simp [h]
 rcases this with rfl|rfl|rfl|rfl|rfl|rfl<;>refine ⟨rfl,rfl,⟨?_,?_⟩,?_⟩<;>first|exact hl|(dsimp only;omega)
theorem abJ (c:di) (s:dc) (n:Nat):(s.FM c (qM 2 n)).1=s.On n:=rfl
theorem abK (c:di) (s:dc) (n:Nat):(s.FM c (qM 3 n)).1=s.Gi c:=rfl
theorem abL (c:di) (s:dc) (n:Nat):(s.FM c (qM 4 n)).1=s.je c:=rfl
theorem abM (c:di) (s:dc) (n:Nat):(s.FM c (qM 5 n)).1=s.zx c:=rfl
theorem WT (c:di) (s:dc) (n:Nat):(s.FM c (qM 6 n)).1=(s.AH c n).1:=rfl
theorem abN (c:di) (s:dc) (n:Nat):(s.FM c (qM 9 n)).1=(s.Ot n).1:=rfl
theorem abO (c:di) (s:dc) (b:dw):s.FM c ⟨1,0,0,b⟩=(s.sub c b,(s.fs.fE c.f s.ls.cG b (s.time:Int)).1,0):=rfl
def dc.JN (c:di) (s:dc) (leaf:Nat):dc:=(sQ leaf).foldl (fun s t=>(s.FM c t.1).1) s
def dc.z3 (c:di):Nat→dc→dc
 | 0,s=>s
 | k+1,s=>dc.z3 c k (s.AH c 0).1
theorem B4 (c:di):∀ (k:Nat) (s:dc),(List.replicate k (qM 6 0)).foldl (fun s x=>(dc.FM c s x).1) s=s.z3 c k
 | 0,s=>rfl
 | k+1,s=>by
  rw [List.replicate_succ,List.foldl_cons,B4 c k,WT]
  rfl
theorem dc.Tm (c:di) (s:dc) (leaf:Nat):s.JN c leaf=((((((((s.On 1).Gi c).je c).zx c).z3 c 32).Ot leaf).1).AH c 0).1:=by
 unfold dc.JN sQ;rw [List.foldl_map];unfold sP;rw [List.foldl_append,List.foldl_append,B4];simp only [List.foldl_cons,List.foldl_nil,abJ,abK,abL,abM,WT,abN]
theorem WU:∀ k:Nat,DL.z3 cA k=DL
 | 0=>rfl
 | k+1=>by
  unfold dc.z3;rw [Wz];exact WU k
theorem Tn:SY.JN cA 0=Rc:=by
 rw [dc.Tm,Wt,Wu,Wv,Ww];rw [show Ul.z3 cA 32=(Ul.AH cA 0).1.z3 cA 31 from by rw [dc.z3],Wx];rw [show S1.z3 cA 31=(S1.AH cA 0).1.z3 cA 30 from by rw [dc.z3],Wy,WU,abw,abx]
theorem abP:uN 1 1 4 1 0 1=cA:=by
 unfold uN;rw [show within 1 1 3=1 by decide,show within 1 1 1=1 by decide,show within 4 1 16=4 by decide,show within 1 1 8=1 by decide,show within 0 0 6=0 by decide,show within 1 1 4=1 by decide]
 rfl
theorem Ii :
 Ct prog 21 #[] e R (fun v' L'=>v'=.bool true∧R=L'):=by
 refine a8 (args:=[]) func21 rfl ntmps21 results21 rfl ?_;refine wB ?_;refine aZ rfl rfl (wX _ e 1 1 4 1 0 1 zo zo zo zo zo zo) ?_;rintro _ _ ⟨rfl,rfl⟩;rw [abP]
 (repeat' first|refine Za ?_|refine Zb ?_|apply Zc|apply Zd|apply Ze|apply Zf|refine Zh ?_|refine Zi ?_|refine Zj ?_|refine Zl ?_|refine Zm ?_|refine Zn ?_|refine Zo ?_|refine Zq ?_|refine Zs ?_|refine Zt ?_|refine Zu ?_|refine ZM ?_|refine ZN ?_|refine ZO (fun _=>?_) fun _=>?_|refine ZP ?_|refine ZQ ?_|refine Z7 ?_|refine Z8 ?_|refine Yd ?_|refine Ye ?_|refine Yh fun _=>?_|refine Yz ?_|refine YA ?_|apply YC|apply YE|apply YF|refine YQ ?_|refine YR ?_|(apply O.dh;exact rfl;exact zP;(first|(simp only [aC,Nat.add_zero,Nat.reduceAdd,List.drop_succ_cons,List.drop_zero,List.take_succ_cons,List.take_zero];done)|(simp only [aC,Nat.add_zero,Nat.reduceAdd,List.drop_succ_cons,List.drop_zero,List.take_succ_cons,List.take_zero];exact rfl));exact rfl;exact rfl))
 refine aZ rfl rfl (zZ _ e cA Ra) ?_;rintro _ _ ⟨w,rfl,rfl⟩;refine wB ?_;refine aZ rfl rfl (yC _ e 0 1 1 zo zo zo) ?_;rintro _ _ ⟨ad,k,rfl,rfl⟩;rw [show mU 0 1 1=bA from rfl]
 (repeat (refine wA ?_;intros))
 refine aZ rfl rfl (Ct.at zP (zY _ e w cA 0 (pG cA) [] ⟨1,0,0,bA⟩ (.slice ad bA.length k) (bb zP) (by decide) (by decide) BZ.2.1 zo)) ?_;rintro _ _ ⟨rfl,X,⟨Ur,-,rfl⟩,rfl⟩;rw [abO,S3.1,S3.2]
 (repeat (refine wA ?_;intros))
 refine aZ rfl rfl (Ih _ e _ 0) ?_;rintro _ _ ⟨dW,k2,rfl,rfl⟩;have rI:=FQ 0 zo;refine aZ rfl rfl (Ct.at (show cR _ (dK w cA (0+1) SY ([]++Ur)) _ from zP) (NL _ e w cA 1 SY ([]++Ur) (.slice dW 38 k2) (sQ 0) (fun _ _=>True) (fun s x=>(s.FM cA x).1) (by rw [Dr];exact bb zP) (fun t ht=>by obtain ⟨h1,h2,-⟩:=rI t ht;rw [h1,h2];exact cF.nil _ _) (by decide) trivial ?_)) ?_
 ·intro R' t m s ev ht hm hb _;obtain ⟨h1,h2,h3,h4⟩:=rI t ht;refine (zY R' e w cA m s ev t.1 t.2 hb h3 h4 (by rw [h1];exact aH _) hm).mono fun v' L' h=>?_
  obtain ⟨h5,X,⟨jQ,-,rfl⟩,rfl⟩:=h;exact ⟨⟨(_,_,_),h5⟩,ev++jQ,trivial,rfl⟩
 rintro _ _ ⟨Ns,-,rfl⟩;rw [show (sQ 0).foldl (fun s t=>(s.FM cA t.1).1) SY=SY.JN cA 0 from rfl,Tn];refine wB ?_;refine FO (show cR _ (dK w cA _ Rc Ns) _ from zP) fun a M ha he=>?_
 refine aZ rfl rfl (Ct.at zP (lv _ e w cA Rc a)) ?_;rintro _ _ ⟨rfl,rfl⟩;refine wB ?_;refine aZ rfl rfl (Ct.at zP (lv _ e w cA Rc a)) ?_;rintro _ _ ⟨rfl,rfl⟩
 (repeat (refine wA ?_;intros))
 refine aZ rfl rfl (Ct.at zP (nI _ e a.gu a.ud iL (da cA) Rc.up)) ?_;rintro _ _ ⟨rfl,rfl⟩;rw [WA];refine wB ?_;exact aY R rfl zE ⟨rfl,rfl⟩
def dc.Ds (s:dc):dc:={ s with ls:={ s.ls with last:=none },fs:=⟨s.fs.recs,(iq s.ls.cG s.fs.recs).map fun b=>(b,rB)⟩ }
def eQ.again (s:eQ):eQ:={ s with dE:=gZ,some:=false }
def dc.vW (s:dc) (i:Nat):dc:={ s with ws:=s.ws.set i (s.ws.getD i Jn).again }
def dc.ka (c:di) (s:dc) (to:Nat):dc:=if to=0 then s.Ds else if to≤c.k then s.vW (to - 1) else s
theorem Li {cG qs recs:List dw} (h:(cG++qs).Perm recs) (hn:recs.Nodup):(cG++iq cG recs).Perm recs:=by
 have hd:=h.nodup_iff.2 hn
 have h1:(recs.filter fun b=>decide (b∈cG)).Perm cG:=by
  refine (h.symm.filter _).trans ?_;rw [List.filter_append,List.filter_eq_self.2 fun a ha=>ay ha,List.filter_eq_nil_iff.2 fun a ha=>?_,aK];rw [decide_eq_true_iff];exact fun q=>(List.nodup_append.1 hd).2.2 a q a ha rfl
 have h2:=List.filter_append_perm (fun b=>decide (b∈cG)) recs;refine (List.Perm.append_right _ h1.symm).trans ?_
 have e:iq cG recs=recs.filter fun b=>!decide (b∈cG):=by
  unfold iq
  congr 1
  funext b
  by_cases hb:b∈cG<;>simp [hb]
 rw [e];exact h2
theorem dc.Lj {c:di} {m:Nat} {s:dc} (h:s.ok c m) (hm:m<250):s.Ds.ok c (m+1):=by
 have hw:(iq s.ls.cG s.fs.recs).length≤1000:=Nat.le_trans (List.length_filter_le _ _) h.fs.size;have rv:∀ b∈iq s.ls.cG s.fs.recs,b∈s.fs.recs:=fun b hb=>(List.mem_filter.1 hb).1
 exact { h.next hm with
  ls:={ full:=h.ls.full,nodup:=h.ls.nodup,size:=h.ls.size,short:=h.ls.short,keys:=h.ls.keys,last:=fun x hx=>nomatch hx }
  last:=fun x hx=>nomatch hx
  fs:={
   size:=h.fs.size
   oh:=h.fs.oh
   BH:=by show ((iq s.ls.cG s.fs.recs).map fun b=>(b,rB)).length≤1000;rw [ab];exact hw
   pj:=fun x hx=>by
    obtain ⟨b,hb,rfl⟩:=aE.1 hx;exact (h.fs.oh b (rv b hb)).2
   wP:=fun x hx=>by
    obtain ⟨b,hb,rfl⟩:=aE.1 hx;exact ⟨by show -9223372036854775808≤rB;decide,by show rB≤1000000;decide⟩ }
  perm:=by
   show (s.ls.cG++(((iq s.ls.cG s.fs.recs).map fun b=>(b,rB)).map (·.1))).Perm s.fs.recs
   rw [List.map_map,show ((fun x:dw × Int=>x.1) ∘ fun b:dw=>(b,rB))=id from rfl,List.map_id];exact Li h.perm h.recs }
theorem eQ.NM {s:eQ} (h:s.ok):s.again.ok:=⟨h.right,h.Ar,h.pos,h.keys,re⟩
theorem dc.Lk {c:di} {m:Nat} {s:dc} {i:Nat} (h:s.ok c m) (hm:m<250) (hi:i<c.k):(s.vW i).ok c (m+1):=by
 have Ag:i<s.ws.length:=by rw [h.wl];exact hi
 have hg:s.ws.getD i Jn=s.ws[i]'Ag:=by rw [aA,ae Ag];rfl
 have Re:=h.ws _ (ax Ag);unfold dc.vW;rw [hg]
 generalize s.ws[i]'Ag=x at Re
 exact { h.next hm with
  wl:=by show (s.ws.set i x.again).length=c.k;rw [List.length_set];exact h.wl
  ws:=fun y hy=>by
   rcases List.mem_or_eq_of_mem_set hy with hy|rfl
   ·exact ⟨(h.ws y hy).1,Nat.le_succ_of_le (h.ws y hy).2.1,(h.ws y hy).2.2⟩
   ·exact ⟨eQ.NM Re.1,Nat.le_succ_of_le Re.2.1,Re.2.2⟩
  iW:=fun j y hy hs=>by
   have hy:(s.ws.set i x.again)[j]?=some y:=hy;rw [List.getElem?_set] at hy
   by_cases DD:i=j
   ·rw [aI DD,aI Ag] at hy
    cases hy
    exact absurd hs Bool.false_ne_true
   ·rw [aB DD] at hy
    exact h.iW j y hy hs }
theorem PT (b:dw) (n:Int):(dz b).ka n=dz b:=by
 have h:(dz b).kept n=0:=by show (min (max n 0) ((b.length:Int) - b.length)).toNat=0;omega
 unfold eT.ka;rw [h]
 show (⟨b.take (b.length+0),b.length+0,1048576,0,false⟩:eT)=_
 rw [Nat.add_zero,aG (aS _)]
 rfl
def PU (w:Nat) (va:Value):cK:=Ex fun q:di × dc × eh=>cL w (eh.cells { q.2.2 with va:=va } q.1 q.2.1) dj (0,0)
theorem Jq {w:Nat} {va:Value} {c:di} {s:dc} {a:eh} {R:List cK} (h:a.va=va):cB (cL w (a.cells c s) dj (0,0)::R) (PU w va::R):=by
 subst h;exact fx (f:=fun q:di × dc × eh=>cL w (eh.cells { q.2.2 with va:=a.va } q.1 q.2.1) dj (0,0)) (c,s,a)
theorem PV {w:Nat} {va:Value} {L R:List cK} (p:cR L (PU w va) R):Rd L ⟨w,0+8,none⟩ va :=
 Rd.ef p (Rd.ex fun q=>bQ .zero rfl)
theorem sR (w:Nat) (c:di) (m:Nat) (s s':dc) (ev:List (Int × Int × Int × dw)) (a:eh) (M:cK) (ha:a.ok M w c m s) (he:lV a.es=ev) (k n wh:Int) (v:Value) (hv:v.oneCell'=true) (hm:m<250) (to:Nat) (Rf:to≤c.k+1)
 (gp op kp gd od cd:Nat) (gs:List Nat) (f:Nat) [cJ prog f f] (us ws:List Value) (FR:a.va=.slice (some ⟨gp,op,none⟩) (c.k+2) kp) (hg4:gs.length≤10)
 (hp0:Rd [M] ⟨gp,op+to*2+0,none⟩ (.slice (some ⟨gd,od,none⟩) gs.length cd)) (Oe:Rd [M] ⟨gp,op+to*2+1,none⟩ (.func (.func f) us.toArray ws.toArray)) (hds:cF [M] 1 (.slice (some ⟨gd,od,none⟩) gs.length cd) gs.length (gs.map H6))
 (L1:List cK→List cK) (hx:∀ B X,cB (L1 (B::X)) (B::L1 X)) (hy:∀ B X,cB (B::L1 X) (L1 (B::X))) (lx:∀ X,cB (dP w c s a M X) (cL w (a.cells c s) dj (0,0)::M::L1 X))
 (WV:∀ X,∀ g∈gs,∃ st R',cR (L1 X) (df g st) R'∧st.ok∧∀ n,st.ka n=st)
 (WW:∀ X,Ct prog f (us++[]++ws).toArray e (cL w (a.cells c s) dj (0,0)::M::L1 X) (fun v' L'=>v'=.int .i64 0∧∃ a':eh,a'.ok M w c (m+1) s'∧lV a'.es=ev∧a'.va=a.va∧L'=dP w c s' a' M X)) :
 Ct prog 91 #[pt w,.agg (oB k n (to:Int) wh v).toArray] e (dP w c s a M R) (fun v' L'=>v'=.tuple #[.int .i64 0,.int .i64 0]∧∃ jQ,rF jQ s'∧L'=dK w c (m+1) s' (ev++jQ)::R):=by
 have Gd:=ha.st.xE.k;have PC:=ha.ec;refine a8 (args:=[_,_]) func91 rfl ntmps91 results91 rfl ?_
 (repeat (refine wA ?_;intros))
 rename_i g3;refine W.fp (cn (show cB _ (cL g3 (oB k n (to:Int) wh v) eN (0,0)::dP w c s a M R) from zE) (bh (lx R))) ?_;refine bz (id:=1) [] mixed ?_
 (refine tF 0 ?_;refine tL 1 ?_;refine tk 2 (.bool false) rfl (cE.no (cE.lss rfl rfl) zn) ?_;refine tM 3 ?_;refine dv 4 _ rfl (ba rfl) ?_;refine dv 5 _ rfl (bp rfl zR) ?_;refine dv 6 _ rfl (bu rfl) ?_;refine dv 7 _ rfl (bm rfl) ?_;refine dv 8 _ rfl (ba rfl) ?_;refine dv 9 _ rfl (bp rfl zR) ?_)
 rw [FR]
 (refine dv 10 _ rfl (bN rfl) ?_;refine dv 11 (.bool false) rfl (cE.no (bS rfl rfl) zn) ?_;refine tk 12 _ rfl (bJ rfl rfl) ?_)
 refine bf zK ?_;refine wB ?_;refine bz (id:=3) [] mixed ?_
 (refine tM 0 ?_;refine tN 1 ?_;refine tF 2 ?_;refine tL 3 ?_)
 rw [FR]
 (refine tF 4 ?_;refine tL 5 ?_)
 refine tk 6 _ rfl (bE (l:=c.k+2) rfl rfl zo) ?_
 (refine tF 7 ?_)
 refine tk 8 _ rfl (bp rfl (hp0.cM (cH zP))) ?_
 (refine tk 9 _ rfl (bN rfl) ?_;refine tM 10 ?_)
 refine bf zK ?_;refine wB ?_;refine bq (ι:=Nat) (fun j=>[(0,pt w),(3,pt g3),(30,.slice (some ⟨gd,od,none⟩) gs.length cd),(31,.int .i64 (gs.length:Int)),(32,.int .i64 (j:Int))]) (fun _=>cL g3 (oB k n (to:Int) wh v) eN (0,0)::cL w (a.cells c s) dj (0,0)::M::L1 R) (fun j=>j≤gs.length) (fun j=>gs.length - j) 0 (aH _) zS zE ?_;intro j hj
 by_cases cP:j<gs.length
 ·refine wB ?_;refine bW rfl ((hds.elem (j:=j) (u:=H6 (gs[j]'cP)) (by rw [aL,ae cP];rfl)).cM (cH zP)) rfl ?_;obtain ⟨st,R',hp,j1,Gf⟩:=WV R (gs[j]'cP) (ax cP)
  generalize gs[j]'cP=g at hp
  unfold H6;refine wB ?_;refine aZ rfl rfl (Ct.at (show cR _ (df g st) _ from .succ (.succ (.succ hp))) (EG _ e g st n j1)) ?_;rintro _ _ ⟨rfl,rfl⟩;rw [Gf n];refine wB ?_;refine bi (j+1) cP zo zS ?_;exact cn (show cB _ (cL g3 (oB k n (to:Int) wh v) eN (0,0)::cL w (a.cells c s) dj (0,0)::M::df g st::R') from zE) (bh (bh (bh hp.back)))
 refine wB ?_
 have hE:cB (cL g3 (oB k n (to:Int) wh v) eN (0,0)::cL w (a.cells c s) dj (0,0)::M::L1 R) [PU w (.slice (some ⟨gp,op,none⟩) (c.k+2) kp),cL g3 (oB k n (to:Int) wh v) eN (0,0),M] :=
  cn (show cB _ (cL w (a.cells c s) dj (0,0)::cL g3 (oB k n (to:Int) wh v) eN (0,0)::M::[]) from zE) (Jq FR)
 refine bk (id:=8) [10] [PU w (.slice (some ⟨gp,op,none⟩) (c.k+2) kp),cL g3 (oB k n (to:Int) wh v) eN (0,0),M] mixed ?_;refine bH 0 _ rfl zK hE (bu rfl) rfl ?_;refine bH 1 _ rfl zK hE (bm rfl) rfl ?_;refine bH 2 _ rfl zK hE (ba rfl) rfl ?_;refine bH 3 _ rfl zK hE (bp rfl (PV .zero)) rfl ?_;refine bH 4 _ rfl zK hE (ba rfl) rfl ?_;refine bH 5 _ rfl zK hE (bp rfl zR) rfl ?_;refine bH 6 _ rfl zK hE (bE (l:=c.k+2) rfl rfl zo) rfl ?_;refine bH 7 _ rfl zK hE (ba rfl) rfl ?_;refine bH 8 _ rfl zK hE (bp rfl (Oe.cM (cH zP))) rfl ?_;refine A.fp (cn (show cB _ (cL w (a.cells c s) dj (0,0)::M::cL g3 (oB k n (to:Int) wh v) eN (0,0)::L1 R) from zE) (bh (bh (hy _ R)))) ?_;refine tO 9 ?_;refine Do.gD (us:=us) (ws:=ws) (vs:=[]) rfl rfl rfl (WW _) ?_;rintro _ _ ⟨rfl,a1,pV,he1,abQ,rfl⟩;refine ⟨fun _=>cn (show cB _ (cL w (a1.cells c s') dj (0,0)::cL g3 (oB k n (to:Int) wh v) eN (0,0)::M::[]) from zE) (Jq (abQ.trans FR)),?_⟩
 ((refine tO 10 ?_;refine dV (bj rfl) ?_))
 refine bf zK ?_
 have oR:a1.es.length=a.es.length:=by
  have h:=congrArg List.length (he1.trans he.symm)
  rwa [ab,ab] at h
 refine wB ?_;refine aZ rfl rfl (Ct.AR zP zP (iu _ e w c s' a1 7 (to:Int) 0 nY [] rfl zo)) ?_;rintro _ _ ⟨rfl,ve,rfl⟩;have eu:=pV.seen (x:=⟨7,(to:Int),0,nY,[]⟩) ve (cF.nil _ 1) zo (aH _);have he2:lV (a1.es++[⟨7,(to:Int),0,nY,[]⟩])=ev++[(7,(to:Int),0,[])]:=by rw [lV,ah,← lV,he1];rfl
 have Gh:rF [(7,(to:Int),0,[])] s':=fun x hx=>by
  rw [an.1 hx];exact ⟨(by decide:(7:Int)≠3),.inl rfl⟩
 have ry:(a1.es++[(⟨7,(to:Int),0,nY,[]⟩:Ev)]).length=a1.es.length+1:=by rw [aa];rfl
 by_cases h0:to=0
 ·subst h0;refine wB ?_;refine O.fp (show cB _ (dP w c s' { a1 with ve:=ve,es:=a1.es++[(⟨7,((0:Nat):Int),0,nY,[]⟩:Ev)] } M (cL g3 (oB k n ((0:Nat):Int) wh v) eN (0,0)::R)) from zE) ?_
  (repeat' first|refine Za ?_|refine Zb ?_|apply Zc|apply Zd|apply Ze|apply Zf|refine Zg ?_|refine Zh ?_|refine Zi ?_|refine Zj ?_|refine Zk ?_|refine Zl ?_|refine Zm ?_|refine Zn ?_|refine Zo ?_|refine Zq ?_|refine Zs ?_|refine Zt ?_|refine ZA ?_|refine ZB ?_|refine ZC (fun _=>?_) fun _=>?_|refine ZJ ?_|refine ZK ?_|refine ZM ?_|refine ZN ?_|refine ZO (fun _=>?_) fun _=>?_|refine ZS ?_|refine Z7 ?_|refine Z8 ?_|refine Yg fun _=>?_|refine Ym ?_|refine Yw ?_|refine Yx ?_|refine Yy ?_|refine Yz ?_|refine YA ?_|apply YB|apply YC|apply YD|apply YE|apply YF|apply YG|apply YH|apply YI|apply YJ|refine YK ?_|(apply O.dh;exact rfl;exact zP;(first|(simp only [aC,Nat.add_zero,Nat.reduceAdd,List.drop_succ_cons,List.drop_zero,List.take_succ_cons,List.take_zero];done)|(simp only [aC,Nat.add_zero,Nat.reduceAdd,List.drop_succ_cons,List.drop_zero,List.take_succ_cons,List.take_zero];exact rfl));exact rfl;exact rfl))
  refine aZ rfl rfl (zt _ e w c (m+1) s' _ M eu zd) ?_;rintro _ _ ⟨rfl,a2,M2,Ns,nK,he3,afO,abR,rfl⟩
  have QG:a2.es.length≤a1.es.length+1+250:=by
   have h:=congrArg List.length he3;rw [aa,ab,ab] at h
   dsimp only at h
   omega
  refine wB ?_;refine aZ rfl rfl (pE _ e w c (m+1) s' a2 M2 nK 0 zo zo) ?_;rintro _ _ ⟨rfl,a3,M3,ev3,abS,he4,afR,abT,rfl⟩;refine wB ?_;refine aY (dK w c (m+1) s' (ev++([(7,((0:Nat):Int),0,[])]++Ns++ev3))::R) rfl (cn (show cB _ (dP w c s' a3 M3 R) from zE) (dU abS ?_)) ⟨rfl,_,?_,rfl⟩
  ·show lV a3.es=_
   rw [he4,he3];dsimp only;rw [he2];simp only [aM]
  ·intro x hx;rcases aJ.1 hx with hx|hx
   ·rcases aJ.1 hx with hx|hx
    ·exact Gh x hx
    ·exact abR x hx
   ·exact abT x hx
 ·refine wB ?_;refine aY (dK w c (m+1) s' (ev++[(7,(to:Int),0,[])])::R) rfl (cn (show cB _ (dP w c s' { a1 with ve:=ve,es:=a1.es++[(⟨7,(to:Int),0,nY,[]⟩:Ev)] } M R) from zE) (dU eu he2)) ⟨rfl,_,Gh,rfl⟩
theorem FT (n v f:Int):(mU n v f).length≤200:=by
 obtain ⟨h1,h2⟩:=mT n v f
 show (lS (mh n v f)).length≤200
 rw [wi];have:=h1.1.2.1;have:=h1.2.2.1;have:=h1.2.2.2
 omega
theorem Ll {g d k:Nat} {seed:dw} {s:fW} {R:List cK}:cB (cW g d k seed s::R) (df d (dz s.jb)::df k (er s.keys 1048576)::R) :=
 jF fun a=>jF fun M=>cn (cU (M:=Pu (a.ok M seed s)::ig g d k s a M []) (L:=R)) (rW fun _=>zE)
theorem PW {g d gl:Nat} {c:m8} {s:pi} {R:List cK}:cB (ej g d gl c s::R) (df d (dz (eW s.recs))::R) :=
 jF fun a=>jF fun M=>cn (cU (M:=Pu (a.ok M c s)::DG g d gl c s a M []) (L:=R)) (rW fun _=>zE)
theorem Lm {g d k i:Nat} {seed log:dw} {s:eQ} {R:List cK}:cB (nE g d k i seed log s::R) (df d (dz s.jb)::df k (er s.keys 1048576)::R) :=
 jF fun a=>jF fun M=>cn (cU (M:=Pu (a.ok M seed log s)::iK g d k i s a M []) (L:=R)) (rW fun _=>zE)
theorem NN {g d:Nat} {name:dw} {p:jH} {s:m6} {R:List cK}:cB (kj g d name p s::R) (df d (dz (eW s.recs))::R) :=
 jF fun a=>jF fun M=>cn (cU (M:=Pu (a.ok M name p s)::qH g d name p s a M []) (L:=R)) (rW fun _=>zE)
theorem PX (n:Nat) (m:Int):(er n 1048576).ka m=er n 1048576:=by
 have h:(er n 1048576).kept m=0:=by
  show (min (max m 0) (((kl n).length:Int) - (9*n:Nat))).toNat=0
  rw [pd];omega
 unfold eT.ka;rw [h]
 show (⟨(kl n).take (9*n+0),9*n+0,1048576,0,false⟩:eT)=_
 rw [Nat.add_zero,aG (by rw [pd];exact aS _)]
 rfl
theorem Dt {X R':List cK} {g:Nat} {b:dw} (p:cR X (df g (dz b)) R') (h:b.length≤1048576):∃ st R',cR X (df g st) R'∧st.ok∧∀ n,st.ka n=st:=⟨_,_,p,ES h,PT b⟩
theorem NO {X R':List cK} {g n:Nat} (p:cR X (df g (er n 1048576)) R') (h:n≤16):∃ st R',cR X (df g st) R'∧st.ok∧∀ n,st.ka n=st:=⟨_,_,p,uj zo zo,PX n⟩
end Go.Proofs
namespace Go.Proofs
attribute [local irreducible] Bs.cE Bs.Do Bs.O Bs.W Bs.Fin Bs.A Bs.Ct Bs.cF Bs.Rd Bs.Sat Bs.cL Bs.Ob Bs.dJ Bs.View Bs.cB Bs.Ex Bs.dH Bs.Pu Bs.eZ Bs.dO Bs.dZ
open Go.Bs
open Tryz
variable (R:List cK) (e:World)
theorem eQ.NP {s:eQ} (h:s.ok) (hl:s.recs.length≤1000):s.jb.length≤1048576:=by
 have xk:=kE (l:=s.recs.map recC) (n:=36) (fun r hr=>by
  obtain ⟨c,hc,rfl⟩:=aE.1 hr;rw [jr (h.right c hc)];exact aS _)
 rw [ab] at xk
 show (eW (s.recs.map recC)).length≤_
 omega
theorem PY {a:eh} {M:cK} {w:Nat} {c:di} {m:Nat} {s:dc} (ha:a.ok M w c m s) {L:List cK} (f:cB L [M]) {hp:dk} (hs:dO L hp):∃ (gp op kp:Nat) (vl vu:Value) (vs:List (Value × Nat × Nat)),a.va=.slice (some ⟨gp,op,none⟩) (c.k+2) kp∧vs.length=c.k∧a.wx.length=c.k ∧
 (∀ j p i u,(AK w vl vs vu)[j]?=some p→(AJ p)[i]?=some u→Rd [M] ⟨gp,op+j*2+i,none⟩ u) ∧
 cF [M] 1 vl 3 [ptr a.ld,ptr a.lk,ptr a.wV]∧cF [M] 1 vu 1 [ptr a.ud] ∧
 (∀ i (h:i<vs.length) (h2:i<a.wx.length),cF [M] 1 (vs[i]).1 2 [ptr (a.wx[i]).d,ptr (a.wx[i]).k]∧Rd [M] ⟨(vs[i]).2.1,0,none⟩ (ptr w)∧Rd [M] ⟨(vs[i]).2.2,0,none⟩ (.int .i64 (i:Int))):=by
 obtain ⟨vl,vu,vs,h1,h2,h3,h4,h5,h6⟩:=ha.all.all;have hk:=ha.st.xE.k;have wG:cF [M] 2 a.va (c.k+2) ((AK w vl vs vu).flatMap AJ):=by rw [sO];exact h3
 obtain ⟨⟨ad,kp,FR,-,-,-,h7⟩,-⟩:=((wG.cM f).shape zo) hp hs;rcases h7 with h7|⟨gp,op,rfl⟩
 ·omega
 refine ⟨gp,op,kp,vl,vu,vs,FR,h1,h2,fun j p i u hj hi=>?_,h4,h5,h6⟩;rw [FR] at wG
 exact cF.elemOf wG zJ hj hi
theorem eh.ok.log {a:eh} {M:cK} {w:Nat} {c:di} {m:Nat} {s:dc} (h:a.ok M w c m s) (gl gf:Nat):eh.ok { a with gl:=gl,gf:=gf } M w c m s:={ h with all:=⟨h.all.all⟩ }
theorem eh.ok.upd {a:eh} {M:cK} {w:Nat} {c:di} {m:Nat} {s:dc} (h:a.ok M w c m s) (gu:Nat):eh.ok { a with gu:=gu } M w c m s:={ h with all:=⟨h.all.all⟩ }
theorem eh.ok.fY {a:eh} {M:cK} {w:Nat} {c:di} {m:Nat} {s:dc} (h:a.ok M w c m s) (i g:Nat) (hi:i<a.wx.length):eh.ok { a with wx:=a.wx.set i ⟨g,(a.wx[i]'hi).d,(a.wx[i]'hi).k⟩ } M w c m s:=by
 obtain ⟨vl,vu,vs,h1,h2,h3,h4,h5,h6⟩:=h.all.all;refine { h with all:=⟨⟨vl,vu,vs,h1,by dsimp only;rw [List.length_set];exact h2,h3,h4,h5,fun j hj Gb=>?_⟩⟩ };have hj3:j<a.wx.length:=by dsimp only at Gb;rwa [List.length_set] at Gb
 obtain ⟨q1,q2,q3⟩:=h6 j hj hj3;refine ⟨?_,q2,q3⟩;dsimp only;rw [List.getElem_set]
 split
 ·rename_i DD;subst DD;exact q1
 ·exact q1
theorem FU (w:Nat) (c:di) (m:Nat) (s:dc) (ev:List (Int × Int × Int × dw)) (k n wh:Int) (v:Value) (hv:v.oneCell'=true) (hm:m<250) (to:Nat) (Rf:to≤c.k+1) :
 Ct prog 91 #[pt w,.agg (oB k n (to:Int) wh v).toArray] e (dK w c m s ev::R) (fun v' L'=>v'=.tuple #[.int .i64 0,.int .i64 0]∧∃ jQ,rF jQ (s.ka c to)∧L'=dK w c (m+1) (s.ka c to) (ev++jQ)::R):=by
 refine gN fun a M ha he=>?_
 have eK:=ha.st;have Gd:=eK.xE.k;refine a7 (fun hp hs=>PY ha (show cB (dP w c s a M R) [M] from cH zP) hs) ?_;rintro ⟨gp,op,kp,vl,vu,vs,FR,Wp,hwx,vV,Be,Um,BX⟩;have Cn:=ha.wU.log;have Fi:=ha.wU;have hli:=fW.Hu eK.ls;have lq:=eK.short;have DF:=kE (l:=s.fs.recs) (n:=200) fun x hx=>(eK.fs.oh x hx).2
 have VC:=eK.DH;have LC:=kE (l:=s.up.recs) (n:=200) eK.up.short;have hZ:=eK.up.size
 by_cases h0:to=0
 ·subst h0;have oF:s.ka c 0=s.Ds:=aI rfl;rw [oF];have eu:=ha.to (dc.Lj eK hm) (Nat.le_succ m) rfl rfl;refine a7 (fun hp hs=>((Be.cM (show cB (dP w c s a M R) [M] from cH zP)).shape zo) hp hs) ?_;rintro ⟨⟨ad,cd,abU,-,-,-,h7⟩,-⟩;rcases h7 with h7|⟨gd,od,rfl⟩
  ·omega
  subst abU;refine sR R e w c m s s.Ds ev a M ha he k n wh v hv hm 0 zo gp op kp gd od cd [a.ld,a.lk,a.wV] 160 [ptr w] [] FR (by simp) (vV 0 _ 0 _ rfl rfl) (vV 0 _ 1 _ rfl rfl) Be
   (fun X=>df a.ld (dz s.ls.jb)::df a.lk (er s.ls.keys 1048576)::df a.wV (dz (eW s.fs.recs))::fC a.ve a.es::iD fJ a.mr a.kr::iD fJ a.ml a.kl::iD ij a.mc (sM a.kc)::dJ pZ 1 a.l6 a.wx.length (a.wx.map jJ)::dH (kg 0 a.wx s.ws)::lj a.mH (da c) c.retry s.n s.fd::kj a.gu a.ud iL (da c) s.up::jO a.gm dQ s.mo::Net a.gn 32 a.nl::X)
   (fun B X=>zE) (fun B X=>zE) (fun X=>?_) (fun X g hg=>?_) (fun X=>?_)
  ·refine cn (show cB _ (cW a.gl a.ld a.lk (cS 0) s.ls::ej a.gf a.wV a.gl c.f s.fs::cL w (a.cells c s) dj (0,0)::M::fC a.ve a.es::iD fJ a.mr a.kr::iD fJ a.ml a.kl::iD ij a.mc (sM a.kc)::dJ pZ 1 a.l6 a.wx.length (a.wx.map jJ)::dH (kg 0 a.wx s.ws)::lj a.mH (da c) c.retry s.n s.fd::kj a.gu a.ud iL (da c) s.up::jO a.gm dQ s.mo::Net a.gn 32 a.nl::X) from zE) (cn Ll (cn (bh (bh PW)) zE))
  ·simp only [aQ,aO,or_false] at hg
   rcases hg with rfl|rfl|rfl
   ·exact Dt zP zo
   ·exact NO zP eK.ls.keys
   ·exact Dt zP zo
  ·rw [show a.cells c s=pF c (.slice (some ⟨gp,op,none⟩) (c.k+2) kp) (ptr a.gl) (ptr a.gf) a.l6 (ptr a.mH) (ptr a.gu) (ptr a.gm) (ptr a.gn) a.pX a.ik (.int .i64 (s.time:Int)) a.ve (.map (some a.mr)) (.map (some a.ml)) (.int .i64 (s.sv.size:Int)) a.vr (.bool s.signed.isSome) (.map (some a.mc)) by rw [← FR]];refine Ct.LK (Dq zP zP zP zP (uJ _ e w c eK.xE (ptr a.gl) (ptr a.gf) a.l6 (ptr a.mH) (ptr a.gu) (ptr a.gm) (ptr a.gn) a.pX a.ik (.int .i64 (s.time:Int)) a.ve (.map (some a.mr)) (.map (some a.ml)) (.int .i64 (s.sv.size:Int)) a.vr (.bool s.signed.isSome) (.map (some a.mc)) gp op (c.k+2) kp gd od cd a.ld a.lk a.wV s.ls s.fs.recs zo ((vV 0 _ 0 _ rfl rfl).cM (cH zP)) ((Be.elem (j:=0) rfl).cM (cH zP)) ((Be.elem (j:=1) rfl).cM (cH zP)) ((Be.elem (j:=2) rfl).cM (cH zP)) eK.ls zo eK.fs.oh)) ?_;rintro _ _ ⟨rfl,gl,gf,rfl⟩;refine ⟨_,?_,rfl,{ a with gl:=gl,gf:=gf },eu.log gl gf,he,rfl,rfl⟩;rw [← FR];exact zE
 ·by_cases hu:to=c.k+1
  ·subst hu;have oF:s.ka c (c.k+1)=s:=by unfold dc.ka;rw [aB zo,aB zo]
   rw [oF];have eu:=ha.to (eK.next hm) (Nat.le_succ m) rfl rfl;refine a7 (fun hp hs=>((Um.cM (show cB (dP w c s a M R) [M] from cH zP)).shape zo) hp hs) ?_;rintro ⟨⟨ad,cd,NK,-,-,-,h7⟩,-⟩;rcases h7 with h7|⟨gd,od,rfl⟩
   ·omega
   subst NK;have u6:∀ i u,(AJ (.slice (some ⟨gd,od,none⟩) 1 cd,FI w))[i]?=some u→Rd [M] ⟨gp,op+(c.k+1)*2+i,none⟩ u:=fun i u hi=>vV (c.k+1) _ i u (by rw [← Wp];exact FK) hi
   refine sR R e w c m s s ev a M ha he k n wh v hv hm (c.k+1) zo gp op kp gd od cd [a.ud] 163 [ptr w] [] FR (by simp) (u6 0 _ rfl) (u6 1 _ rfl) Um
    (fun X=>df a.ud (dz (eW s.up.recs))::fC a.ve a.es::iD fJ a.mr a.kr::iD fJ a.ml a.kl::iD ij a.mc (sM a.kc)::ej a.gf a.wV a.gl c.f s.fs::cW a.gl a.ld a.lk (cS 0) s.ls::dJ pZ 1 a.l6 a.wx.length (a.wx.map jJ)::dH (kg 0 a.wx s.ws)::lj a.mH (da c) c.retry s.n s.fd::jO a.gm dQ s.mo::Net a.gn 32 a.nl::X)
    (fun B X=>zE) (fun B X=>zE) (fun X=>?_) (fun X g hg=>?_) (fun X=>?_)
   ·refine cn (show cB _ (kj a.gu a.ud iL (da c) s.up::cL w (a.cells c s) dj (0,0)::M::fC a.ve a.es::iD fJ a.mr a.kr::iD fJ a.ml a.kl::iD ij a.mc (sM a.kc)::ej a.gf a.wV a.gl c.f s.fs::cW a.gl a.ld a.lk (cS 0) s.ls::dJ pZ 1 a.l6 a.wx.length (a.wx.map jJ)::dH (kg 0 a.wx s.ws)::lj a.mH (da c) c.retry s.n s.fd::jO a.gm dQ s.mo::Net a.gn 32 a.nl::X) from zE) (cn NN zE)
   ·rw [an.1 hg];exact Dt zP zo
   ·rw [show a.cells c s=pF c (.slice (some ⟨gp,op,none⟩) (c.k+2) kp) (ptr a.gl) (ptr a.gf) a.l6 (ptr a.mH) (ptr a.gu) (ptr a.gm) (ptr a.gn) a.pX a.ik (.int .i64 (s.time:Int)) a.ve (.map (some a.mr)) (.map (some a.ml)) (.int .i64 (s.sv.size:Int)) a.vr (.bool s.signed.isSome) (.map (some a.mc)) by rw [← FR]];refine Ct.LK (Ct.AR zP zP (oD _ e w c eK.xE (ptr a.gl) (ptr a.gf) a.l6 (ptr a.mH) (ptr a.gu) (ptr a.gm) (ptr a.gn) a.pX a.ik (.int .i64 (s.time:Int)) a.ve (.map (some a.mr)) (.map (some a.ml)) (.int .i64 (s.sv.size:Int)) a.vr (.bool s.signed.isSome) (.map (some a.mc)) gp op kp gd od cd a.ud s.up ((u6 0 _ rfl).cM (cH zP)) ((Um.elem (j:=0) rfl).cM (cH zP)) (Fi.cM (cH zP)) eK.up)) ?_;rintro _ _ ⟨rfl,gu,rfl⟩;refine ⟨_,?_,rfl,{ a with gu:=gu },eu.upd gu,he,rfl,rfl⟩;rw [← FR];exact zE
  ·obtain ⟨i,rfl⟩:∃ i,to=i+1:=⟨to - 1,by omega⟩
   have wv:i<c.k:=by omega
   have To:i<a.wx.length:=by omega
   have Nd:i<s.ws.length:=by rw [eK.wl];exact wv
   have XR:i<vs.length:=by omega
   have oF:s.ka c (i+1)=s.vW i:=by unfold dc.ka;rw [aB zo,aI zo,Nat.add_sub_cancel]
   rw [oF];have eu:=(ha.to (dc.Lk eK hm wv) (Nat.le_succ m) rfl rfl).fY;obtain ⟨QM,QI,hv3⟩:=BX i XR To;have u6:∀ j u,(AJ (NH (vs[i]'XR)))[j]?=some u→Rd [M] ⟨gp,op+(i+1)*2+j,none⟩ u:=fun j u hj=>vV (i+1) _ j u (FJ XR) hj
   have SS:a.wx[i]?=some (a.wx[i]'To):=ae To;have vK:s.ws[i]?=some (s.ws[i]'Nd):=ae Nd;have tg:s.ws.getD i Jn=s.ws[i]'Nd:=by rw [aA,vK];rfl
   have Re:=eK.ws _ (ax Nd);have Ms:=eK.steps;have hcw:s.vW i={ s with ws:=s.ws.set i (s.ws[i]'Nd).again }:=by unfold dc.vW;rw [tg]
   rw [hcw] at eu ⊢
   have nK:=fun g=>eu i g To
   generalize a.wx[i]'To=x at *
   generalize s.ws[i]'Nd=y at *
   generalize vs[i]'XR=q at *
   obtain ⟨v1,p1,p2⟩:=q;dsimp only at QM QI hv3
   unfold NH AJ at u6
   dsimp only at u6
   have VN:=eQ.NP Re.1 zo;refine a7 (fun hp hs=>((QM.cM (show cB (dP w c s a M R) [M] from cH zP)).shape zo) hp hs) ?_;rintro ⟨⟨ad,cd,abV,-,-,-,h7⟩,-⟩;rcases h7 with h7|⟨gd,od,rfl⟩
   ·omega
   subst abV;refine a7 (fk (show cR (dP w c s a M R) (dJ pZ 1 a.l6 a.wx.length (a.wx.map jJ)) _ from zP)) ?_;rintro ⟨⟨ad,cw,Tp,-,-,h7⟩,-⟩;rcases h7 with ⟨-,-,h7⟩|⟨gw,rfl⟩
   ·omega
   refine sR R e w c m s { s with ws:=s.ws.set i y.again } ev a M ha he k n wh v hv hm (i+1) zo gp op kp gd od cd [x.d,x.k] 161 [] [ptr p1,ptr p2] FR (by simp) (u6 0 _ rfl) (u6 1 _ rfl) QM
    (fun X=>df x.d (dz y.jb)::df x.k (er y.keys 1048576)::fC a.ve a.es::iD fJ a.mr a.kr::iD fJ a.ml a.kl::iD ij a.mc (sM a.kc)::ej a.gf a.wV a.gl c.f s.fs::cW a.gl a.ld a.lk (cS 0) s.ls::dJ pZ 1 a.l6 a.wx.length (a.wx.map jJ)::dH (oC 0 i a.wx s.ws)::lj a.mH (da c) c.retry s.n s.fd::kj a.gu a.ud iL (da c) s.up::jO a.gm dQ s.mo::Net a.gn 32 a.nl::X)
    (fun B X=>zE) (fun B X=>zE) (fun X=>?_) (fun X g hg=>?_) (fun X=>?_)
   ·refine cn (show cB _ (dH (kg 0 a.wx s.ws)::cL w (a.cells c s) dj (0,0)::M::fC a.ve a.es::iD fJ a.mr a.kr::iD fJ a.ml a.kl::iD ij a.mc (sM a.kc)::ej a.gf a.wV a.gl c.f s.fs::cW a.gl a.ld a.lk (cS 0) s.ls::dJ pZ 1 a.l6 a.wx.length (a.wx.map jJ)::lj a.mH (da c) c.retry s.n s.fd::kj a.gu a.ud iL (da c) s.up::jO a.gm dQ s.mo::Net a.gn 32 a.nl::X) from zE) (cn (FB SS vK) (cn Lm zE))
   ·simp only [aQ,aO,or_false] at hg
    rcases hg with rfl|rfl
    ·exact Dt zP VN
    ·exact NO zP Re.1.keys
   ·rw [show a.cells c s=pF c (.slice (some ⟨gp,op,none⟩) (c.k+2) kp) (ptr a.gl) (ptr a.gf) (.slice (some ⟨gw,0,none⟩) a.wx.length cw) (ptr a.mH) (ptr a.gu) (ptr a.gm) (ptr a.gn) a.pX a.ik (.int .i64 (s.time:Int)) a.ve (.map (some a.mr)) (.map (some a.ml)) (.int .i64 (s.sv.size:Int)) a.vr (.bool s.signed.isSome) (.map (some a.mc)) by rw [← FR,← Tp],Tp];refine Ct.LK (Dq zP zP zP zP (uK _ e w c (ptr a.gl) (ptr a.gf) (ptr a.mH) (ptr a.gu) (ptr a.gm) (ptr a.gn) a.pX a.ik (.int .i64 (s.time:Int)) a.ve (.map (some a.mr)) (.map (some a.ml)) (.int .i64 (s.sv.size:Int)) a.vr (.bool s.signed.isSome) (.map (some a.mc)) gp op (c.k+2) kp gd od cd x.d x.k i gw a.wx.length cw p1 p2 (a.wx.map jJ) y zo zo To (by rw [ab]) (QI.cM (cH zP)) (hv3.cM (cH zP)) ((u6 0 _ rfl).cM (cH zP)) ((QM.elem (j:=0) rfl).cM (cH zP)) ((QM.elem (j:=1) rfl).cM (cH zP)) (Cn.cM (cH zP)) Re.1 zo)) ?_;rintro _ _ ⟨rfl,g,rfl⟩;refine ⟨_,?_,rfl,{ a with wx:=a.wx.set i ⟨g,x.d,x.k⟩ },nK g,he,rfl,rfl⟩;rw [← FR,← Tp];refine cn (show cB _ (vS i ⟨g,x.d,x.k⟩ y.again::dH (oC 0 i a.wx s.ws)::cL w (a.cells c s) dj (0,0)::M::fC a.ve a.es::iD fJ a.mr a.kr::iD fJ a.ml a.kl::iD ij a.mc (sM a.kc)::ej a.gf a.wV a.gl c.f s.fs::cW a.gl a.ld a.lk (cS 0) s.ls::dJ pZ 1 a.l6 a.wx.length ((a.wx.map jJ).set i (ptr g))::lj a.mH (da c) c.retry s.n s.fd::kj a.gu a.ud iL (da c) s.up::jO a.gm dQ s.mo::Net a.gn 32 a.nl::X) from zE) (cn (Dj To Nd) ?_)
    dsimp only [dP];rw [List.length_set,List.map_set];exact zE
end Go.Proofs
namespace Go.Proofs
open Go.Bs
theorem Tq {L L':List cK} {h:dk} (f:cB L L') (x:dO L h):dO L' h:=f h x
attribute [local irreducible] Bs.cE Bs.Do Bs.O Bs.W Bs.Fin Bs.A Bs.Ct Bs.cF Bs.Rd Bs.Sat Bs.cL Bs.Ob Bs.dJ Bs.View Bs.cB Bs.Ex Bs.dH Bs.Pu Bs.eZ Bs.dO Bs.dZ
end Go.Proofs
namespace Go.Proofs
attribute [local irreducible] Bs.cE Bs.Do Bs.O Bs.W Bs.Fin Bs.A Bs.Ct Bs.cF Bs.Rd Bs.Sat Bs.cL Bs.Ob Bs.dJ Bs.View Bs.cB Bs.Ex Bs.dH Bs.Pu Bs.eZ Bs.dO Bs.dZ
open Go.Bs
open Tryz
theorem FV (R:List cK) (e:World) (wm:Option Addr) (cv:Nat) (g:Nat) (log:dw) (s:H5) (vr vp vq:Value) (x:j7) (hx:fj R vr vp vq x) (KT:x.fits) (hv:x.hO log) (hs:x.dd.size≤s.cG.length) (rI:x.dd.root=eg ((s.cG.take x.dd.size).map cZ)) :
 Ct prog 39 #[pt g,.agg (dT x vr vp vq).toArray,.slice wm 0 cv] e (jO g log s::R) (fun v' L'=>v'=.int .i64 0∧L'=jO g log s::R):=by
 refine Da fun a M ha=>?_
 have hl:a.ts.length=s.cG.length:=by have:=congrArg List.length ha.cG;rwa [ab] at this
 have hu:a.us.length=s.cG.length:=by have:=congrArg List.length ha.leaves;rwa [ab,ab] at this
 have lq:=ha.st.size;have mX:cB (xq g s a M R) R:=zE;refine a7 (cz (hx.root.cM mX)) fun o5=>?_
 refine a7 (hx.sig.cM mX).parts.one fun o6=>?_
 refine a7 (hx.sig.cM mX).path.one fun o7=>?_
 refine a7 (Hx (show cR (xq g s a M R) (cV (.slice a.al a.us.length a.cl) a.us) _ from zP)) ?_;rintro ⟨lO,c',lP,hc3,hc4,-⟩
 cases lP
 refine a8 (args:=[_,_,_]) func39 rfl ntmps39 results39 rfl ?_
 (repeat' first|refine Zb ?_|apply Zc|apply Zd|apply Ze|apply Zf|refine Zh ?_|refine Yg fun _=>?_|refine Yh fun _=>?_|apply YB|refine YR ?_|(apply O.dh;exact rfl;exact zP;(first|(simp only [aC,Nat.add_zero,Nat.reduceAdd,List.drop_succ_cons,List.drop_zero,List.take_succ_cons,List.take_zero];done)|(simp only [aC,Nat.add_zero,Nat.reduceAdd,List.drop_succ_cons,List.drop_zero,List.take_succ_cons,List.take_zero];exact rfl));exact rfl;exact rfl))
 rename_i g4 g7;refine bz (id:=2) [] mixed ?_
 (refine tM 0 ?_;refine tN 1 ?_;refine tF 2 ?_;refine tL 3 ?_;refine tJ 4 ?_)
 refine tO 5 ?_;refine bg rfl rfl (kA _ e a.vl vr vp vq log x (ha.log.cM (cH zP)) (hx.cM zE) KT.1) ?_;rintro _ _ ⟨rfl,rfl⟩;refine ⟨fun _=>zE,A.fS zE ?_⟩;rw [ay hv]
 (refine tk 6 _ rfl (cE.jZ rfl) ?_;refine tA 7 ?_)
 refine bf zK ?_;refine wB ?_;refine bz (id:=4) [] mixed ?_
 (refine tF 0 ?_;refine tL 1 ?_;refine tM 2 ?_;refine tN 3 ?_;refine tF 4 ?_;refine tL 5 ?_;refine tk 6 _ rfl (bN rfl) ?_;refine tk 7 (.bool true) rfl (cE.iW (cE.leq rfl rfl) zy) ?_;refine tM 8 ?_;refine dv 9 _ rfl (bu rfl) ?_;refine dv 10 _ rfl (bN rfl) ?_;refine dv 11 (.bool false) rfl (cE.no (cE.gtr rfl rfl) zn) ?_;refine tk 12 _ rfl (bL rfl rfl) ?_;refine tA 13 ?_)
 refine bf zK ?_;refine wB ?_;refine bz (id:=6) [] mixed ?_
 (refine tF 0 ?_;refine tL 1 ?_;refine tM 2 ?_;refine tN 3 ?_;refine tF 4 ?_;refine tL 5 ?_;refine tk 6 _ rfl (bN rfl) ?_;refine tk 7 (.bool true) rfl (cE.iW (cE.leq rfl rfl) zy) ?_;refine tM 8 ?_;refine dv 9 _ rfl (bu rfl) ?_;refine dv 10 _ rfl (bm rfl) ?_;refine dv 11 _ rfl (ba rfl) ?_;refine dv 12 _ rfl (bp rfl zR) ?_;refine dv 13 _ rfl (ba rfl) ?_;refine dv 14 _ rfl (bp rfl zR) ?_;refine dv 15 _ rfl (cE.iV rfl rfl zo zo) ?_;refine dv 17 _ rfl (ba rfl) ?_;refine dv 18 _ rfl (bp rfl zR) ?_)
 rw [Int.toNat_natCast];have hk:x.dd.size≤a.us.length:=by omega
 have hlen:(a.us.take x.dd.size).length=x.dd.size:=by rw [aF];omega
 have jN:∀ y∈a.us,y.2.length=32:=fun y hy=>by
  have:y.2∈s.cG.map cZ:=by rw [← ha.leaves];exact aE.2 ⟨y,hy,rfl⟩
  obtain ⟨b,hb,GR⟩:=aE.1 this;rw [← GR];exact dg _ _
 refine A.ru 16 rfl rfl zK ?_;refine bg rfl rfl (j4 _ _ e (.slice a.al x.dd.size a.cl) (a.us.take x.dd.size) rfl (k7 (bb zP) hk) (fun y hy=>(ha.An y (aR hy)).cM (cH zP)) (fun y hy=>by have:=jN y (aR hy);omega) zo) ?_;rintro _ _ ⟨uv,kr,rfl,rfl⟩;refine ⟨fun _=>zE,A.fS zE ?_⟩;have BD:eg ((a.us.take x.dd.size).map (·.2))=x.dd.root:=by rw [rI,List.map_take,ha.leaves,List.map_take]
 rw [BD];refine A.ru 19 rfl rfl zK ?_;refine bg rfl rfl (sC _ e _ vr x.dd.root x.dd.root (bb zP) (hx.root.cM zE)) ?_;rintro _ _ ⟨rfl,rfl⟩;refine ⟨fun _=>zE,A.fS zE ?_⟩;rw [ay rfl]
 (refine dv 20 _ rfl (cE.jZ rfl) ?_;refine tk 21 _ rfl (bL rfl rfl) ?_;refine tA 22 ?_)
 refine bf zK ?_;refine wB ?_;refine bz (id:=9) [] mixed ?_
 (refine tF 0 ?_;refine tL 1 ?_;refine tM 2 ?_;refine tN 3 ?_;refine tF 4 ?_;refine tL 5 ?_;refine tk 6 _ rfl (bN rfl) ?_;refine tk 7 (.bool true) rfl (cE.iW (cE.leq rfl rfl) zy) ?_;refine tA 8 ?_)
 refine bf zK ?_;refine wB ?_;exact aY (jO g log s::R) rfl (cn (show cB _ (xq g s a M R) from zE) (Db ha)) ⟨rfl,rfl⟩
def dc.watch (s:dc):dc × Int × Int:=match s.ls.last with
 | none=>(s,0,22)
 | some x=>if x.dd.size≤s.mo.cG.length then (s,(s.mo.cG.length:Int),0) else ({ s with mo:=⟨s.ls.cG.take x.dd.size,some x⟩ },(x.dd.size:Int),0)
theorem dc.NQ {c:di} {m:Nat} {s:dc} (h:s.ok c m):s.watch.1.ok c m:=by
 unfold dc.watch
 split
 ·exact h
 ·rename_i x hx
  split
  ·exact h
  ·have z5:=h.last x hx;have hl:(s.ls.cG.take x.dd.size).length=x.dd.size:=by rw [aF];exact Nat.min_eq_left z5.2.2.1
   have hz:=h.ls.size;have hc:=z5.2.2.1
   exact { h with
    mo:=⟨by show (s.ls.cG.take x.dd.size).length≤1000;omega,fun b hb=>by have:=h.ls.short b (aR hb);omega,fun y hy=>by cases hy;exact z5.fits⟩
    SO:=by show s.ls.cG.take x.dd.size=s.ls.cG.take (s.ls.cG.take x.dd.size).length;rw [hl] }
theorem FX (R:List cK) (e:World) (w:Nat) (c:di) (m:Nat) (s:dc) (ev:List (Int × Int × Int × dw)) (k n to wh:Int) (v:Value) (hv:v.oneCell'=true) (hm:m<250) :
 Ct prog 93 #[pt w,.agg (oB k n to wh v).toArray] e (dK w c m s ev::R) (fun v' L'=>v'=.tuple #[.int .i64 s.watch.2.1,.int .i64 s.watch.2.2]∧L'=dK w c (m+1) s.watch.1 ev::R):=by
 refine gN fun a M ha he=>?_
 have eK:=ha.st;have lq:=eK.ls.size;refine a8 (args:=[_,_]) func93 rfl ntmps93 results93 rfl ?_
 (repeat (refine wA ?_;intros))
 refine aZ rfl rfl (Ct.at zP (Hs _ e a.gl a.ld a.lk (cS 0) s.ls)) ?_;rintro _ _ ⟨N,ur,up,uq,rfl,hx,rfl⟩;refine bn (cz (hx.root.cM (cH .zero))) fun o5=>?_
 refine bn (hx.sig.cM (cH .zero)).parts.one fun o6=>?_
 refine bn (hx.sig.cM (cH .zero)).path.one fun o7=>?_
 cases hl:s.ls.last with
 | none =>
  have hw:s.watch=(s,0,22):=by unfold dc.watch;rw [hl]
  rw [hw]
  (repeat (refine wA ?_;intros))
  exact aY (dK w c (m+1) s ev::R) rfl (cn (show cB _ (dP w c s a M R) from zE) (dU (ha.to (eK.next hm) (Nat.le_succ m) rfl rfl) he)) ⟨rfl,rfl⟩
 | some x =>
  have hxx:s.ls.dE=x:=by unfold fW.dE;rw [hl];rfl
  rw [hxx] at hx ⊢
  have z5:=eK.last x hl;have KT:=z5.fits;have Ca:=z5.2.2.1;have rI:=z5.2.2.2;have hmp:=eK.SO
  have TR:s.mo.cG.length≤s.ls.cG.length:=by
   have h:=congrArg List.length hmp;rw [aF] at h
   omega
  (repeat (refine wA ?_;intros))
  rename_i g3 g6;refine aZ rfl rfl (Ct.at (show cR _ (jO a.gm dQ s.mo) _ from zP) (sJ _ e a.gm dQ s.mo)) ?_;rintro _ _ ⟨rfl,rfl⟩;refine wB ?_;refine bq (ι:=List eo × Option Addr × Nat) (fun q=>[(0,pt w),(6,pt g6),(8,.slice q.2.1 q.1.length q.2.2),(9,.int .i64 ((s.mo.cG.length+q.1.length:Nat):Int))]) (fun q=>cV (.slice q.2.1 q.1.length q.2.2) q.1::cI q.1::cL g6 (dT x ur up uq) 87 (0,0)::N::dP w c s a M R)
   (fun q=>q.1.map (·.2)=(s.ls.cG.drop s.mo.cG.length).take q.1.length∧(q.1=[]∨s.mo.cG.length+q.1.length≤x.dd.size)) (fun q=>x.dd.size - (s.mo.cG.length+q.1.length)) ([],none,0) ⟨rfl,.inl rfl⟩ zS (cn dM (cn (du eA 1) zE)) ?_
  rintro ⟨l,ad,cl⟩ ⟨Us,hlc⟩;dsimp only at Us hlc ⊢
  by_cases cP:s.mo.cG.length+l.length<x.dd.size
  ·have abY:(s.ls.cG.drop s.mo.cG.length)[l.length]?=some (s.ls.cG.getD (s.mo.cG.length+l.length) []):=by
    rw [List.getElem?_drop,aA,ae zo];rfl
   have VF:(s.ls.cG.getD (s.mo.cG.length+l.length) []).length≤200:=eK.ls.short _ (zr zo)
   have WY:l.map (·.2)++[s.ls.cG.getD (s.mo.cG.length+l.length) []]=(s.ls.cG.drop s.mo.cG.length).take (l.length+1):=by
    rw [Us,List.take_add_one,abY];rfl
   refine wB ?_;refine aZ rfl rfl (Ct.at (show cR _ (cW a.gl a.ld a.lk (cS 0) s.ls) _ from zP) (qy _ e a.gl a.ld a.lk (cS 0) s.ls ((s.mo.cG.length+l.length:Nat):Int) zo)) ?_;rintro _ _ (⟨h1,-,-⟩|⟨-,-,J7,c0,rfl,rfl⟩)
   ·exact absurd ⟨by omega,by omega⟩ h1
   rw [Int.toNat_natCast]
   generalize s.ls.cG.getD (s.mo.cG.length+l.length) []=b at *
   (repeat (refine wA ?_;intros))
   have afV:=eK.short;refine bC (bo rfl rfl rfl (show cR _ (cV (.slice ad l.length cl) l) _ from zP) (bB zP rfl zl) rfl rfl zO zm zo fun eE c3 _=>?_)
   refine wB ?_;refine bi (l++[(.slice J7 b.length c0,b)],eE,c3) ⟨by dsimp only;rw [ah,aa];exact WY,.inr (by dsimp only;rw [aa,aj];omega)⟩ (by dsimp only;rw [aa,aj];omega) ?_ ?_
   ·dsimp only;rw [aa,aj,← Nat.add_assoc];exact zS
   ·exact cn (show cB _ (dJ eA 1 (.slice eE (l.length+1) c3) (l.length+1) (l.map (·.1)++[.slice J7 b.length c0])::cT (.slice J7 b.length c0) b::cI l::cL g6 (dT x ur up uq) 87 (0,0)::N::dP w c s a M R) from zE) gh
  have hyb:∀ y∈l,y.2.length≤1000:=fun y hy=>by
   have h1:y.2∈l.map (·.2):=aE.2 ⟨y,hy,rfl⟩;rw [Us] at h1
   have:=eK.ls.short _ (aV (aR h1))
   omega
  by_cases hk:x.dd.size≤s.mo.cG.length
  ·have hw:s.watch=(s,(s.mo.cG.length:Int),0):=by unfold dc.watch;rw [hl];exact aI hk
   rw [hw]
   obtain rfl:l=[]:=by
    rcases hlc with h|h
    ·exact h
    ·exact List.eq_nil_of_length_eq_zero zo
   refine wB ?_;refine bk (id:=10) [7] (cL w (a.cells c s) dj (0,0)::cL g6 (dT x ur up uq) 87 (0,0)::N::R) mixed ?_
   (refine tM 0 ?_;refine tN 1 ?_;refine tF 2 ?_;refine tL 3 ?_;refine tJ 4 ?_;refine tM 5 ?_)
   refine tO 6 ?_;refine bg rfl rfl (Ct.at (show cR _ (jO a.gm dQ s.mo) _ from zP) (FV _ e ad cl a.gm dQ s.mo ur up uq x (hx.cM zE) KT z5.1 hk ?_)) ?_
   ·rw [rI,hmp,List.take_take,Nat.min_eq_left hk]
   rintro _ _ ⟨rfl,rfl⟩;refine ⟨fun _=>zE,?_⟩
   ((refine tO 7 ?_;refine dV (bj rfl) ?_))
   refine bf zK ?_;refine wB ?_;refine aZ rfl rfl (Ct.at (show cR _ (jO a.gm dQ s.mo) _ from zP) (sJ _ e a.gm dQ s.mo)) ?_;rintro _ _ ⟨rfl,rfl⟩;refine wB ?_;exact aY (dK w c (m+1) s ev::R) rfl (cn (show cB _ (dP w c s a M R) from zE) (dU (ha.to (eK.next hm) (Nat.le_succ m) rfl rfl) he)) ⟨rfl,rfl⟩
  ·have hw:s.watch=({ s with mo:=⟨s.ls.cG.take x.dd.size,some x⟩ },(x.dd.size:Int),0):=by unfold dc.watch;rw [hl];exact aB hk
   have j1:({ s with mo:=⟨s.ls.cG.take x.dd.size,some x⟩ }:dc).ok c (m+1):=by
    have h:=dc.NQ (eK.next hm)
    rwa [hw] at h
   rw [hw]
   have D0:l.length=x.dd.size - s.mo.cG.length:=by
    rcases hlc with h|h
    ·rw [h] at cP ⊢;simp only [List.length_nil] at cP ⊢;omega
    ·omega
   have eU:s.mo.cG++l.map (·.2)=s.ls.cG.take x.dd.size:=by
    rw [Us,D0];have h1:x.dd.size=s.mo.cG.length+(x.dd.size - s.mo.cG.length):=by omega
    conv=>rhs;rw [h1,List.take_add]
    rw [← hmp]
   refine wB ?_;refine bk (id:=10) [7] (cL w (a.cells c s) dj (0,0)::cL g6 (dT x ur up uq) 87 (0,0)::N::R) mixed ?_
   (refine tM 0 ?_;refine tN 1 ?_;refine tF 2 ?_;refine tL 3 ?_;refine tJ 4 ?_;refine tM 5 ?_)
   refine tO 6 ?_;refine bg rfl rfl (Ct.at (show cR _ (jO a.gm dQ s.mo) _ from zP) (Fu _ e a.gm dQ s.mo ur up uq _ x l (hx.cM zE) KT z5.1 (bb (show cR _ (cV (.slice ad l.length cl) l) _ from zP)) (dR.ef (show cR _ (cI l) _ from zP)) zo D0 hyb (by rw [eU];exact rI))) ?_;rintro _ _ ⟨rfl,rfl⟩;rw [eU];refine ⟨fun _=>zE,?_⟩
   ((refine tO 7 ?_;refine dV (bj rfl) ?_))
   refine bf zK ?_;refine wB ?_;refine aZ rfl rfl (Ct.at (show cR _ (jO a.gm dQ ⟨s.ls.cG.take x.dd.size,some x⟩) _ from zP) (sJ _ e a.gm dQ ⟨s.ls.cG.take x.dd.size,some x⟩)) ?_;rintro _ _ ⟨rfl,rfl⟩;rw [show (s.ls.cG.take x.dd.size).length=x.dd.size by rw [aF];exact Nat.min_eq_left Ca];refine wB ?_;exact aY (dK w c (m+1) { s with mo:=⟨s.ls.cG.take x.dd.size,some x⟩ } ev::R) rfl (cn (show cB _ (dP w c { s with mo:=⟨s.ls.cG.take x.dd.size,some x⟩ } a M R) from zE) (dU (ha.to j1 (Nat.le_succ m) rfl rfl) he)) ⟨rfl,rfl⟩
end Go.Proofs
