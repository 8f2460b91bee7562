/- Part 11 of a proof of this: TopKeys returns true for any arguments; nothing of the old memory is turned. No condition. -/
import Derived.Test.YtccekbdjebohcaaGreatK10
set_option linter.unusedVariables false
set_option linter.unusedSimpArgs false
namespace Go.Proofs
attribute [local irreducible] Bs.cD Bs.Do Bs.O Bs.W Bs.Fin Bs.A Bs.Ct Bs.cE Bs.Rd Bs.Sat Bs.cK Bs.Ob Bs.dE Bs.View Bs.cz Bs.Ex Bs.dI Bs.Pu Bs.eY Bs.dN Bs.dZ
open Go.Bs
open Tryz
variable (R:List cJ) (e:World)
abbrev Tk:TypeId:=53
abbrev tFn:TypeId:=160
abbrev If (w:Nat):List Value:=[.func (.func 82) #[ptr w] #[],.func (.func 83) #[ptr w] #[],.func (.func 84) #[ptr w] #[],.func (.func 85) #[ptr w] #[],.func (.func 86) #[ptr w] #[],.func (.func 87) #[ptr w] #[],.func (.func 88) #[ptr w] #[],.func (.func 89) #[ptr w] #[],.func (.func 90) #[ptr w] #[],.func (.func 91) #[ptr w] #[],.func (.func 92) #[ptr w] #[],.func (.func 93) #[ptr w] #[]]
theorem kJ (w:Nat) (c:dh) (m:Nat) (s:da) (ev:List (Int × Int × Int × du)) (k:Nat) (n to wh:Int) (v:Value) (hv:v.oneCell'=true) (f:Nat) [cI prog f f] (hk:1≤k∧k≤12) (hf:nth (If w) (k - 1)=some (.func (.func f) #[ptr w] #[])) (N why:Int) (P:cJ→Prop)
 (h:∀ R',cz R' R→Ct prog f #[ptr w,.agg (oB k n to wh v).toArray] e (dM w c m s ev::R') (fun v' L'=>v'=.tuple #[.int .i64 N,.int .i64 why]∧∃ X,P X∧L'=X::R')) :
 Ct prog 25 #[ptr w,.agg (oB k n to wh v).toArray] e (dM w c m s ev::R) (fun v' L'=>v'=.agg [.int .i64 (k:Int),.int .i64 N,.int .i64 why].toArray∧∃ X,P X∧L'=X::R):=by
 obtain ⟨j,rfl⟩:∃ j,k=j+1:=⟨k - 1,by omega⟩
 rw [Nat.add_sub_cancel] at hf
 refine bH (args:=[_,_]) func25 rfl ntmps25 results25 rfl ?_
 (repeat (refine wA ?_;intros))
 rename_i g3 g4 g5;refine bk (id:=4) [12] (cK g3 (oB ((j+1:Nat):Int) n to wh v) eI (0,0)::cK g5 (If w) tFn (0,0)::R) mixed ?_
 (refine tM 0 ?_;refine tF 1 ?_;refine tL 2 ?_;refine tk 3 _ rfl (cD.jz rfl rfl zo) ?_)
 rw [show ((j+1:Nat):Int) - 1=(j:Int) by omega]
 (refine tk 4 _ rfl (cD.ix rfl rfl zo) ?_)
 refine bG 5 (.func (.func f) #[ptr w] #[]) rfl zK zE (bp rfl (bP (show cR _ (cK g5 (If w) tFn (0,0)) _ from zP) (by rw [aC];exact hf))) rfl ?_
 (refine tJ 6 ?_)
 refine tO 7 ?_;refine Do.gB (us:=[ptr w]) (ws:=[]) rfl rfl rfl (Ct.at zP (h _ zE)) ?_;rintro _ _ ⟨rfl,X,hX,rfl⟩;refine ⟨fun _=>zE,?_⟩
 (refine tM 8 ?_;refine tk 9 _ rfl (bl rfl rfl) ?_;refine tk 10 _ rfl (bl rfl rfl) ?_;refine tA 11 ?_;(refine tO 12 ?_;refine dV (bj rfl) ?_))
 refine bf zK ?_;refine wB ?_;apply br
 ·exact zV
 exact ⟨X::R,zE,rfl,X,hX,rfl⟩
theorem AM (w:Nat) (c:dh) (m:Nat) (s:da) (ev:List (Int × Int × Int × du)) (k to wh:Int) (n:Nat) (v:Value) (hv:v.oneCell'=true) (hn:n≤1000000) (hm:m<250) :
 Ct prog 87 #[pt w,.agg (oB k n to wh v).toArray] e (dM w c m s ev::R) (fun v' L'=>v'=.tuple #[.int .i64 (s.AI c n).2.1,.int .i64 (s.AI c n).2.2]∧∃ jQ,rF jQ (s.AI c n).1∧L'=dM w c (m+1) (s.AI c n).1 (ev++jQ)::R):=by
 refine gZ fun a M ha he=>?_
 have eK:=ha.st;have hrm:=eK.room;have DZ:a.nl.length=s.eh.length:=by have:=congrArg List.length ha.eh;simpa using this
 refine a7 (Jk (show cR (dP w c s a M R) (Net a.gn 32 a.nl) _ from zP)) fun lT=>?_
 have C7:a.wx.length=c.k:=by
  obtain ⟨vl,vu,vs,Wr,Lc,-⟩:=ha.all.all;exact Lc
 have Gd:=eK.xE.k;refine a7 ((bb (show cR (dP w c s a M R) (dE pY 1 a.lY a.wx.length (a.wx.map jJ)) _ from zP)).shape zo) ?_;rintro ⟨⟨HN,cw,BX,wH,IX,Ap,uW⟩,_⟩;refine a8 (args:=[_,_]) func87 rfl ntmps87 results87 rfl ?_
 by_cases cO:n<s.eh.length
 rotate_left
 ·have hd:s.AI c n=(s,0,1):=by unfold da.AI;rw [List.getElem?_eq_none zo]
  rw [hd];have er:=ha.to (eK.next hm) (Nat.le_succ m) rfl rfl
  (repeat (refine wA ?_;intros))
  rename_i g3;refine bk (id:=1) [12] (cK g3 (oB k n to wh v) eI (0,0)::cK w (a.cells c s) di (0,0)::R) mixed ?_
  (refine tM 0 ?_;refine tN 1 ?_;refine tF 2 ?_;refine tL 3 ?_;refine tF 4 ?_;refine tL 5 ?_)
  refine A.two 6 10 rfl rfl rfl rfl zK ?_ ?_
  ·refine bg rfl rfl (Ct.at zP (jr _ e a.gn 32 a.nl (n:Int) zo lT)) ?_;rintro _ _ (⟨k2,xP,Ov,-,-⟩|⟨-,rfl,rfl⟩)
   ·exact absurd xP zo
   refine ⟨fun _=>zE,?_⟩
   (refine tM 7 ?_;refine tk 8 _ rfl (bl rfl rfl) ?_;refine tk 9 _ rfl (bl rfl rfl) ?_)
   refine tO 10 ?_;refine bQ (cs:=[.int .i64 0,.int .i64 0,.int .i64 0,nY]) rfl rfl fun g6=>⟨fun _=>zE,?_⟩
   refine tO 11 ?_;refine zg ?_;refine ⟨fun _=>zE,?_⟩
   ((refine tO 12 ?_;refine dV (bj rfl) ?_))
   refine bf zK ?_;refine wB ?_;refine aY (dM w c (m+1) s ev::R) rfl (cj (show cz _ (dP w c s a M R) from zE) (dT er he)) ⟨rfl,[],rF.nil,by rw [aK]⟩
  ·refine bQ (cs:=[.int .i64 0,.int .i64 0,.int .i64 0,nY]) rfl rfl fun g6=>⟨fun _=>zE,?_⟩
   refine tO 6 ?_;refine bg rfl rfl (Ct.at zP (jr _ e a.gn 32 a.nl (n:Int) zo lT)) ?_;rintro _ _ (⟨k2,xP,Ov,-,-⟩|⟨-,rfl,rfl⟩)
   ·exact absurd xP zo
   refine ⟨fun _=>zE,?_⟩
   (refine tM 7 ?_;refine tk 8 _ rfl (bl rfl rfl) ?_;refine tk 9 _ rfl (bl rfl rfl) ?_)
   refine tO 11 ?_;refine zg ?_;refine ⟨fun _=>zE,?_⟩
   ((refine tO 12 ?_;refine dV (bj rfl) ?_))
   refine bf zK ?_;refine wB ?_;refine aY (dM w c (m+1) s ev::R) rfl (cj (show cz _ (dP w c s a M R) from zE) (dT er he)) ⟨rfl,[],rF.nil,by rw [aK]⟩
 have hg:s.eh[n]?=some (s.eh[n]'cO):=ab _;have hd:s.AI c n=(s.lost n).FF c (s.eh[n]'cO):=by unfold da.AI;rw [hg]
 have n7:=eK.eh _ (aA cO)
 have GG:(a.nl[n]'zo).d=(s.eh[n]'cO).d c.k:=by
  have:=congrArg (fun l=>l[n]?) ha.eh;simp only [aL,ab (show n<a.nl.length by omega),hg,Option.map_some,Option.some.injEq] at this
  exact this
 have mV:=lT _ (aA (show n<a.nl.length by omega))
 have pT:ee.ok { a with nl:=iZ a.nl n } M w c m (s.lost n) :=
  ha.PL (da.Dj eK) (aS m) rfl (by show (iZ a.nl n).map gU.d=(iZ s.eh n).map _;rw [rk,rk,ha.eh])
 rw [hd];obtain ⟨y,hy⟩:∃ y,a.nl[n]'zo=y:=⟨_,rfl⟩
 rw [hy] at GG mV
 obtain ⟨yk,yf,yt,yv,yb⟩:=y;dsimp only at mV
 (repeat' first|refine W.pF (id:=2) (fun g6:Nat=>[(0,pt w),(6,pt g6),(7,.bool true)]) (fun g6=>cK g6 [.int .i64 yk,.int .i64 yf,.int .i64 yt,yv] PM (0,0)::cH [(yv,yb)]::dP w c (s.lost n) { a with nl:=iZ a.nl n } M R) (fun _=>True) ?_ ?_|refine Zb ?_|apply Zc|apply Zd|apply Ze|apply Zf|refine Yg fun _=>?_|fail)
 rotate_left
 ·refine ⟨?_⟩;rename_i g3;refine bk (id:=1) [12] (cK g3 (oB k n to wh v) eI (0,0)::cK w (a.cells c s) di (0,0)::R) mixed ?_
  (refine tM 0 ?_;refine tN 1 ?_;refine tF 2 ?_;refine tL 3 ?_;refine tF 4 ?_;refine tL 5 ?_)
  refine A.two 6 10 rfl rfl rfl rfl zK ?_ ?_
  ·refine bg rfl rfl (Ct.at zP (jr _ e a.gn 32 a.nl (n:Int) zo lT)) ?_;rintro _ _ (⟨k2,xP,Ov,rfl,rfl⟩|⟨Ic,-,-⟩)
   rotate_left
   ·exact absurd ⟨by omega,by omega⟩ Ic
   obtain rfl:n=k2:=by omega
   rw [show a.nl.take n++a.nl.drop (n+1)=iZ a.nl n from rfl];rw [hy];refine ⟨fun _=>zE,?_⟩
   (refine tM 7 ?_;refine tk 8 _ rfl (bl rfl rfl) ?_;refine tk 9 _ rfl (bl rfl rfl) ?_)
   refine tO 10 ?_;refine bQ (cs:=[.int .i64 0,.int .i64 0,.int .i64 0,nY]) rfl rfl fun g6=>⟨fun _=>zE,?_⟩
   refine tO 11 ?_;refine zg ?_;refine ⟨fun _=>zE,?_⟩
   ((refine tO 12 ?_;refine dV (bj rfl) ?_))
   refine bf zK ?_;exact bJ g6 trivial zS zE
  ·refine bQ (cs:=[.int .i64 0,.int .i64 0,.int .i64 0,nY]) rfl rfl fun g6=>⟨fun _=>zE,?_⟩
   refine tO 6 ?_;refine bg rfl rfl (Ct.at zP (jr _ e a.gn 32 a.nl (n:Int) zo lT)) ?_;rintro _ _ (⟨k2,xP,Ov,rfl,rfl⟩|⟨Ic,-,-⟩)
   rotate_left
   ·exact absurd ⟨by omega,by omega⟩ Ic
   obtain rfl:n=k2:=by omega
   rw [show a.nl.take n++a.nl.drop (n+1)=iZ a.nl n from rfl];rw [hy];refine ⟨fun _=>zE,?_⟩
   (refine tM 7 ?_;refine tk 8 _ rfl (bl rfl rfl) ?_;refine tk 9 _ rfl (bl rfl rfl) ?_)
   refine tO 11 ?_;refine zg ?_;refine ⟨fun _=>zE,?_⟩
   ((refine tO 12 ?_;refine dV (bj rfl) ?_))
   refine bf zK ?_;exact bJ g6 trivial zS zE
 intro g6 _;have XT:∀ L:List cJ,db (cH [(yv,yb)]::L) yv yb:=fun L=>dQ.dY (.zero:cR (cH [(yv,yb)]::L) (cH [(yv,yb)]) L) (yv,yb) (an.2 rfl)
 generalize s.eh[n]'cO=iD at *
 cases iD with
 | ask j x n2 k2 path =>
  obtain ⟨rfl,rfl,rfl,rfl⟩:yk=1∧yf=0∧yt=((j+1:Nat):Int)∧yb=qJ x n2 k2 path:=by
   simpa [gU.d,fW.d,Prod.ext_iff] using GG
  have hj:j<c.k:=n7.2.1;rw [show (s.lost n).FF c (.ask j x n2 k2 path)=((s.lost n).asked j x.dc n2,1,(s.lost n).xr j x.dc n2) from rfl];refine wB ?_;rw [BX];refine wB ?_;rw [← BX];refine aZ rfl rfl ((FD (cK g6 [.int .i64 1,.int .i64 0,.int .i64 ((j+1:Nat):Int),yv] PM (0,0)::cH [(yv,qJ x n2 k2 path)]::R) e w c m (s.lost n) ev yv j n2 k2 x path ((XT R).cL zE) n7 hm).cL (cj (show cz _ (dP w c (s.lost n) { a with nl:=iZ a.nl n } M (cK g6 [.int .i64 1,.int .i64 0,.int .i64 ((j+1:Nat):Int),yv] PM (0,0)::cH [(yv,qJ x n2 k2 path)]::R)) from zE) (dT pT he))) ?_;rintro _ _ ⟨rfl,jQ,DE,rfl⟩
  generalize (s.lost n).xr j x.dc n2=E
  refine wB ?_;refine aY (dM w c (m+1) ((s.lost n).asked j x.dc n2) (ev++jQ)::R) rfl zE ⟨rfl,jQ,DE,rfl⟩
 | iQ j g =>
  obtain ⟨rfl,rfl,rfl,rfl⟩:yk=2∧yf=((j+1:Nat):Int)∧yt=0∧yb=1::eU g:=by
   simpa [gU.d,fW.d,Prod.ext_iff] using GG
  have hj:j<c.k:=n7.2.1;rw [show (s.lost n).FF c (.iQ j g)=((s.lost n).uM c j g 0,2,(s.lost n).AH c j g 0) from rfl];refine wB ?_;rw [BX];refine wB ?_;rw [← BX];refine aZ rfl rfl ((Lg (cK g6 [.int .i64 2,.int .i64 ((j+1:Nat):Int),.int .i64 0,yv] PM (0,0)::cH [(yv,1::eU g)]::R) e w c m (s.lost n) ev yv j g ((XT R).cL zE) n7 hm).cL (cj (show cz _ (dP w c (s.lost n) { a with nl:=iZ a.nl n } M (cK g6 [.int .i64 2,.int .i64 ((j+1:Nat):Int),.int .i64 0,yv] PM (0,0)::cH [(yv,1::eU g)]::R)) from zE) (dT pT he))) ?_;rintro _ _ ⟨rfl,rfl⟩
  generalize (s.lost n).AH c j g 0=E
  refine wB ?_;refine aY (dM w c (m+1) ((s.lost n).uM c j g 0) ev::R) rfl zE ⟨rfl,[],rF.nil,by rw [aK]⟩
 | no j z =>
  obtain ⟨rfl,rfl,rfl,rfl⟩:yk=2∧yf=((j+1:Nat):Int)∧yt=0∧yb=0::be z 4:=by
   simpa [gU.d,fW.d,Prod.ext_iff] using GG
  have hj:j<c.k:=n7.2.1;rw [show (s.lost n).FF c (.no j z)=((s.lost n).uM c j gY z,2,(s.lost n).AH c j gY z) from rfl];refine wB ?_;rw [BX];refine wB ?_;rw [← BX];refine aZ rfl rfl ((NL (cK g6 [.int .i64 2,.int .i64 ((j+1:Nat):Int),.int .i64 0,yv] PM (0,0)::cH [(yv,0::be z 4)]::R) e w c m (s.lost n) ev yv j z ((XT R).cL zE) n7 hm).cL (cj (show cz _ (dP w c (s.lost n) { a with nl:=iZ a.nl n } M (cK g6 [.int .i64 2,.int .i64 ((j+1:Nat):Int),.int .i64 0,yv] PM (0,0)::cH [(yv,0::be z 4)]::R)) from zE) (dT pT he))) ?_;rintro _ _ ⟨rfl,rfl⟩
  generalize (s.lost n).AH c j gY z=E
  refine wB ?_;refine aY (dM w c (m+1) ((s.lost n).uM c j gY z) ev::R) rfl zE ⟨rfl,[],rF.nil,by rw [aK]⟩
 | off b =>
  obtain ⟨rfl,rfl,rfl,rfl⟩:yk=3∧yf=0∧yt=((c.k+1:Nat):Int)∧yb=fT b:=by
   simpa [gU.d,fW.d,Prod.ext_iff] using GG
  rw [show (s.lost n).FF c (.off b)=((s.lost n).off c b,3,(s.lost n).mj c b) from rfl];refine wB ?_;rw [BX];refine wB ?_;rw [← BX];refine aZ rfl rfl ((AG (cK g6 [.int .i64 3,.int .i64 0,.int .i64 ((c.k+1:Nat):Int),yv] PM (0,0)::cH [(yv,fT b)]::R) e w c m (s.lost n) ev yv b ((XT R).cL zE) n7 hm).cL (cj (show cz _ (dP w c (s.lost n) { a with nl:=iZ a.nl n } M (cK g6 [.int .i64 3,.int .i64 0,.int .i64 ((c.k+1:Nat):Int),yv] PM (0,0)::cH [(yv,fT b)]::R)) from zE) (dT pT he))) ?_;rintro _ _ ⟨rfl,jQ,DE,rfl⟩
  generalize (s.lost n).mj c b=E
  refine wB ?_;refine aY (dM w c (m+1) ((s.lost n).off c b) (ev++jQ)::R) rfl zE ⟨rfl,jQ,DE,rfl⟩
theorem FL (w:Nat) (c:dh) (m:Nat) (s:da) (ev:List (Int × Int × Int × du)) (k to wh:Int) (n:Nat) (v:Value) (hv:v.oneCell'=true) (hn:n≤1000000) (hm:m<250) :
 Ct prog 90 #[pt w,.agg (oB k n to wh v).toArray] e (dM w c m s ev::R) (fun v' L'=>v'=.tuple #[.int .i64 0,.int .i64 (s.Ox n).2]∧L'=dM w c (m+1) (s.Ox n).1 ev::R):=by
 refine gZ fun a M ha he=>?_
 have eK:=ha.st;have Ph:=eK.KK
 have C7:a.wx.length=c.k:=by
  obtain ⟨vl,vu,vs,Wr,Lc,-⟩:=ha.all.all;exact Lc
 have Gd:=eK.xE.k;have VE:=eK.fd.KK;have er:a.ok M w c (m+1) s:=ha.to (eK.next hm) (Nat.le_succ m) rfl rfl;refine a7 ((bb (show cR (dP w c s a M R) (dE pY 1 a.lY a.wx.length (a.wx.map jJ)) _ from zP)).shape zo) ?_;rintro ⟨⟨HN,cw,BX,wH,IX,Ap,uW⟩,_⟩;refine a8 (args:=[_,_]) func90 rfl ntmps90 results90 rfl ?_;unfold da.Ox
 (repeat (refine wA ?_;intros))
 refine aZ rfl rfl (Ct.at zP (Fl _ e a.mE (cZ c) c.retry s.n s.fd)) ?_;rintro v0 _ ⟨lT,hy⟩
 by_cases hE:s.fd.dk=[]
 ·obtain ⟨rfl,rfl⟩:=lT hE;rw [aI hE]
  (repeat (refine wA ?_;intros))
  refine aY (dM w c (m+1) s ev::R) rfl (cj (show cz _ (dP w c s a M R) from zE) (dT er he)) ⟨rfl,rfl⟩
 obtain ⟨N,ur,up,uq,vg,rfl,hN,hG,rfl⟩:=hy hE;rw [aB hE];obtain ⟨⟨pQ,Pf,ln,BD⟩,h0,HY⟩:=eK.done hE;have Ug:∀ g∈s.fd.dk,g.sig.fits:=fun g hg=>(eK.fd.dk g hg).2.fits
 refine bm (cn (hN.root.cL (cG zP))) fun o1=>?_
 refine bm (hN.sig.cL (cG zP)).parts.one fun o2=>?_
 refine bm (hN.sig.cL (cG zP)).path.one fun o3=>?_
 refine bm (hG.cL (cG zP)).one fun o4=>?_
 by_cases hi:n<s.fd.done.dc.size
 rotate_left
 ·rw [aI hi]
  (repeat (refine wA ?_;intros))
  rename_i g3 g6;refine bk (id:=4) [14] (cK g3 (oB k n to wh v) eI (0,0)::cK g6 (dS s.fd.done ur up uq) rE (0,0)::cK w (a.cells c s) di (0,0)::R) mixed ?_
  (refine tM 0 ?_;refine tN 1 ?_;refine tF 2 ?_;refine tL 3 ?_;refine tF 4 ?_;refine tL 5 ?_;refine tJ 6 ?_;refine tM 7 ?_)
  refine A.two 8 12 rfl rfl rfl rfl zK ?_ ?_
  ·refine bg rfl rfl (Ct.at zP (po _ e a.gl a.ld a.lk (cQ 0) s.ls n ur up uq vg s.fd.done s.fd.dk (hN.cL (cG zP)) Pf.fits (hG.cL (cG zP)) Ug zo zo zo hn)) ?_;rintro _ _ ⟨-,hr⟩;obtain ⟨rfl,rfl⟩:=hr hi;refine ⟨fun _=>zE,?_⟩
   (refine tM 9 ?_;refine tk 10 _ rfl (bl rfl rfl) ?_;refine tk 11 _ rfl (bl rfl rfl) ?_)
   refine tO 12 ?_;refine bQ (cs:=pM) rfl rfl fun g9=>⟨fun _=>zE,?_⟩
   refine tO 13 ?_;refine zg ?_;refine ⟨fun _=>zE,?_⟩
   ((refine tO 14 ?_;refine dV (bj rfl) ?_))
   refine bf zK ?_;refine wB ?_;refine aY (dM w c (m+1) s ev::R) rfl (cj (show cz _ (dP w c s a M R) from zE) (dT er he)) ⟨rfl,rfl⟩
  ·refine bQ (cs:=pM) rfl rfl fun g9=>⟨fun _=>zE,?_⟩
   refine tO 8 ?_;refine bg rfl rfl (Ct.at zP (po _ e a.gl a.ld a.lk (cQ 0) s.ls n ur up uq vg s.fd.done s.fd.dk (hN.cL (cG zP)) Pf.fits (hG.cL (cG zP)) Ug zo zo zo hn)) ?_;rintro _ _ ⟨-,hr⟩;obtain ⟨rfl,rfl⟩:=hr hi;refine ⟨fun _=>zE,?_⟩
   (refine tM 9 ?_;refine tk 10 _ rfl (bl rfl rfl) ?_;refine tk 11 _ rfl (bl rfl rfl) ?_)
   refine tO 13 ?_;refine zg ?_;refine ⟨fun _=>zE,?_⟩
   ((refine tO 14 ?_;refine dV (bj rfl) ?_))
   refine bf zK ?_;refine wB ?_;refine aY (dM w c (m+1) s ev::R) rfl (cj (show cz _ (dP w c s a M R) from zE) (dT er he)) ⟨rfl,rfl⟩
 rw [aB (not_not_intro hi)];obtain ⟨PP,TS,hch,n7⟩:=da.BY eK hE hi;have nK:=pj PP;obtain ⟨B,hB⟩:∃ B:wR,B=s.mn n:=⟨_,rfl⟩
 (repeat' first|refine W.pF (id:=5) (fun q:Nat × cJ × Value × Value × Value × Value × Value × Value=>[(0,pt w),(9,pt q.1),(10,.int .i64 0)]) (fun q=>cK q.1 (sE B q.2.2.1 q.2.2.2.1 q.2.2.2.2.1 q.2.2.2.2.2.1 q.2.2.2.2.2.2.1 q.2.2.2.2.2.2.2) rC (0,0)::q.2.1::dP w c s a M R) (fun q=>rQ [q.2.1] q.2.2.1 q.2.2.2.1 q.2.2.2.2.1 q.2.2.2.2.2.1 q.2.2.2.2.2.2.1 q.2.2.2.2.2.2.2 B) ?_ ?_|refine Za ?_|refine Zb ?_|apply Zc|apply Zd|apply Ze|apply Zf|refine Zy ?_|refine Yh fun _=>?_|refine YA ?_|apply YC|refine YN ?_|refine YR ?_|fail)
 rotate_left
 ·refine ⟨?_⟩;rename_i g3 g6;refine bk (id:=4) [14] (cK g3 (oB k n to wh v) eI (0,0)::cK g6 (dS s.fd.done ur up uq) rE (0,0)::cK w (a.cells c s) di (0,0)::R) mixed ?_
  (refine tM 0 ?_;refine tN 1 ?_;refine tF 2 ?_;refine tL 3 ?_;refine tF 4 ?_;refine tL 5 ?_;refine tJ 6 ?_;refine tM 7 ?_)
  refine A.two 8 12 rfl rfl rfl rfl zK ?_ ?_
  ·refine bg rfl rfl (Ct.at zP (po _ e a.gl a.ld a.lk (cQ 0) s.ls n ur up uq vg s.fd.done s.fd.dk (hN.cL (cG zP)) Pf.fits (hG.cL (cG zP)) Ug zo zo zo hn)) ?_;rintro _ _ ⟨hr,-⟩;obtain ⟨N2,um,vp,vr,va,vq,vc,rfl,nr,rfl⟩:=hr hi;rw [show (⟨s.ls.cF.getD n [],n,s.fd.done.dc.size,iH ((s.ls.cF.take s.fd.done.dc.size).map cY) n,s.fd.done,s.fd.dk⟩:wR)=B from hB.symm] at nr ⊢
   refine ⟨fun _=>zE,?_⟩;refine A.cB (cn (nr.fi.cL (cG zP))) fun q1=>?_
   refine A.cB (nr.path.cL (cG zP)).one fun q2=>?_
   refine A.cB (cn (nr.kP.root.cL (cG zP))) fun q3=>?_
   refine A.cB (nr.kP.sig.cL (cG zP)).parts.one fun q4=>?_
   refine A.cB (nr.kP.sig.cL (cG zP)).path.one fun q5=>?_
   refine A.cB (nr.gs.cL (cG zP)).one fun q6=>?_
   (refine tM 9 ?_;refine tk 10 _ rfl (bl rfl rfl) ?_;refine tk 11 _ rfl (bl rfl rfl) ?_)
   refine tO 12 ?_;refine bQ (cs:=pM) rfl rfl fun g9=>⟨fun _=>zE,?_⟩
   refine tO 13 ?_;refine zg ?_;refine ⟨fun _=>zE,?_⟩
   ((refine tO 14 ?_;refine dV (bj rfl) ?_))
   refine bf zK ?_;exact bJ (g9,N2,um,vp,vr,va,vq,vc) nr zS zE
  ·refine bQ (cs:=pM) rfl rfl fun g9=>⟨fun _=>zE,?_⟩
   refine tO 8 ?_;refine bg rfl rfl (Ct.at zP (po _ e a.gl a.ld a.lk (cQ 0) s.ls n ur up uq vg s.fd.done s.fd.dk (hN.cL (cG zP)) Pf.fits (hG.cL (cG zP)) Ug zo zo zo hn)) ?_;rintro _ _ ⟨hr,-⟩;obtain ⟨N2,um,vp,vr,va,vq,vc,rfl,nr,rfl⟩:=hr hi;rw [show (⟨s.ls.cF.getD n [],n,s.fd.done.dc.size,iH ((s.ls.cF.take s.fd.done.dc.size).map cY) n,s.fd.done,s.fd.dk⟩:wR)=B from hB.symm] at nr ⊢
   refine ⟨fun _=>zE,?_⟩;refine A.cB (cn (nr.fi.cL (cG zP))) fun q1=>?_
   refine A.cB (nr.path.cL (cG zP)).one fun q2=>?_
   refine A.cB (cn (nr.kP.root.cL (cG zP))) fun q3=>?_
   refine A.cB (nr.kP.sig.cL (cG zP)).parts.one fun q4=>?_
   refine A.cB (nr.kP.sig.cL (cG zP)).path.one fun q5=>?_
   refine A.cB (nr.gs.cL (cG zP)).one fun q6=>?_
   (refine tM 9 ?_;refine tk 10 _ rfl (bl rfl rfl) ?_;refine tk 11 _ rfl (bl rfl rfl) ?_)
   refine tO 13 ?_;refine zg ?_;refine ⟨fun _=>zE,?_⟩
   ((refine tO 14 ?_;refine dV (bj rfl) ?_))
   refine bf zK ?_;exact bJ (g9,N2,um,vp,vr,va,vq,vc) nr zS zE
 rintro ⟨g9,N2,um,vp,vr,va,vq,vc⟩ nr;dsimp only at nr ⊢
 rw [← hB] at PP nK n7 ⊢
 refine wB ?_;refine aZ rfl rfl (C6 _ e um vp vr va vq vc B (nr.cL (cG zP)) PP) ?_;rintro _ _ ⟨eJ,k3,rfl,rfl⟩;refine wB ?_;refine bk (id:=10) [] (cK w (a.cells c s) di (0,0)::R) mixed ?_
 (refine tM 0 ?_;refine tN 1 ?_;refine tF 2 ?_;refine tL 3 ?_;refine tM 4 ?_;refine tN 5 ?_;refine tF 6 ?_;refine tL 7 ?_)
 rw [BX]
 (refine tk 8 _ rfl (bM rfl) ?_;refine tk 9 _ rfl (cD.kQ rfl rfl zo) ?_;refine tM 10 ?_)
 rw [← BX,show ((a.wx.length:Int)+1)=((c.k+1:Nat):Int) by omega];refine tk 11 _ rfl (bL rfl zF) ?_;refine tO 12 ?_;refine bg rfl rfl (Ct.at zP (sN _ e a.gn c.k a.nl s.eh (.off B) ⟨3,0,((c.k+1:Nat):Int),.slice eJ (fT B).length k3,fT B⟩ ha.eh rfl (bb (show cR _ (cS (.slice eJ (fT B).length k3) (fT B)) _ from zP)) zd eK.room)) ?_;rintro _ _ ⟨rfl,Jj,NJ,rfl⟩;refine ⟨fun _=>zE,?_⟩;have nI:ee.ok { a with nl:=Jj } M w c (m+1) (s.send (.off B)):=er.PL (da.Ji er.st n7) (aS _) rfl NJ
 by_cases hf:s.eh.length<32
 ·rw [ay hf,aI hf]
  (refine tk 13 _ rfl (cD.jZ rfl) ?_)
  refine bf zK ?_;refine wB ?_;refine aY (dM w c (m+1) (s.send (.off B)) ev::R) rfl (cj (show cz _ (dP w c (s.send (.off B)) { a with nl:=Jj } M R) from zE) (dT nI he)) ⟨rfl,rfl⟩
 ·rw [aq hf,aB hf];have Ge:s.send (.off B)=s:=by unfold da.send;rw [aB hf]
  rw [Ge] at nI
  (refine tk 13 _ rfl (cD.p8 rfl) ?_)
  refine bf zK ?_;refine wB ?_;refine aY (dM w c (m+1) s ev::R) rfl (cj (show cz _ (dP w c s { a with nl:=Jj } M R) from zE) (dT nI he)) ⟨rfl,rfl⟩
theorem Lk (w:Nat) (c:dh) (m:Nat) (s:da) (ev:List (Int × Int × Int × du)) (k n to wh:Int) (v:Value) (hv:v.oneCell'=true) (hm:m<250) :
 Ct prog 86 #[pt w,.agg (oB k n to wh v).toArray] e (dM w c m s ev::R) (fun v' L'=>v'=.tuple #[.int .i64 (s.SQ c:Int),.int .i64 0]∧L'=dM w c (m+1) (s.zG c) ev::R):=by
 refine gZ fun a M ha he=>?_
 have eK:=ha.st;have m9:=da.NA eK hm;have ht:=eK.time;have hn:=eK.nb;have SM:=eK.steps;have hk:=eK.xE.k;have ln:=eK.short;refine a8 (args:=[_,_]) func86 rfl ntmps86 results86 rfl ?_
 (repeat (refine wA ?_;intros))
 rename_i g3;refine bk (id:=2) [] (cK w (a.cells c s) di (0,0)::R) mixed ?_
 (refine tM 0 ?_;refine tN 1 ?_;refine tF 2 ?_;refine tL 3 ?_;refine tM 4 ?_;refine tN 5 ?_;refine tF 6 ?_;refine tL 7 ?_;refine tM 10 ?_)
 refine tO 8 ?_;have BF:=fun L=>Fj L e a.mE (cZ c) c.retry s.n s.fd s.time zo zo
 rw [lj] at BF
 refine bg rfl rfl (Ct.at zP (BF _)) ?_;rintro _ _ ⟨ad,co,rfl,rfl⟩;refine ⟨fun _=>zE,?_⟩
 (refine tk 9 _ rfl (bM rfl) ?_)
 refine bf zK ?_;have WN:=Jf (now:=s.time) eK.fd;have Vp:s.fd.cur=none→s.fd.lc s.time=[]:=fun h=>zH (k:=c.k) (n:=s.n) (eK.idle h)
 obtain ⟨s1,fR⟩:∃ s1:da,s1={ s with fd:=s.fd.kH c.retry s.time,n:=s.n+c.k }:=⟨_,rfl⟩
 have SU:s.zG c={ s1 with eh:=mm s.ls.cF s.fd.dU (s.fd.lc s.time) s.eh }:=by rw [fR];rfl
 obtain ⟨q1,-,-,-⟩:=zJ c.retry s.time s.fd;have I1:s1.fd.dU=s.fd.dU:=by rw [fR];exact De q1
 have B9:s1.fd.cur=s.fd.cur:=by rw [fR];exact q1
 have LK:s1.fd=s.fd.kH c.retry s.time:=by rw [fR]
 have hN:s.SQ c=(mm s.ls.cF s.fd.dU (s.fd.lc s.time) s.eh).length - s.eh.length:=rfl;rw [hN]
 generalize XM:s.fd.lc s.time=rq at *
 refine wB ?_;refine bq (ι:=Nat × ee) (fun j=>[(0,pt w),(6,.int .i64 (((mm s.ls.cF s.fd.dU (rq.take j.1) s.eh).length - s.eh.length:Nat):Int)),(24,.slice ad rq.length co),(25,.int .i64 (rq.length:Int)),(26,.int .i64 (j.1:Int))]) (fun j=>uD (.slice ad rq.length co) rq::dP w c s1 j.2 M R) (fun j=>j.1≤rq.length∧j.2={ a with nl:=j.2.nl }∧j.2.nl.map gU.d=(mm s.ls.cF s.fd.dU (rq.take j.1) s.eh).map (fW.d c.k)) (fun j=>rq.length - j.1) (0,a) ⟨aH _,rfl,ha.eh⟩ (by rw [List.take_zero];simp only [mm,Nat.sub_self];exact zS) (by rw [fR];exact zE) ?_;rintro ⟨i,b⟩ ⟨hi,T6,BL⟩;dsimp only at hi T6 BL ⊢
 have hln:=(uI s.ls.cF s.fd.dU (rq.take i) s.eh eK.room)
 have abM:b.nl.length=(mm s.ls.cF s.fd.dU (rq.take i) s.eh).length:=by have:=congrArg List.length BL;simpa using this
 by_cases cO:i<rq.length
 rotate_left
 ·have hii:rq.take i=rq:=aG zo;rw [hii] at BL hln ⊢
  have er:ee.ok b M w c (m+1) (s.zG c):=by
   rw [SU,T6];exact { ha with eh:=by rw [BL],st:=by rw [← SU];exact m9,ec:=Nat.le_trans ha.ec (Nat.mul_le_mul_left _ (Nat.le_succ m)),all:=⟨ha.all.all⟩,root:=by rw [fR];exact ha.root }
  generalize (mm s.ls.cF s.fd.dU rq s.eh).length - s.eh.length=cnt at *
  refine wB ?_;refine aY (dM w c (m+1) (s.zG c) ev::R) rfl (cj (show cz _ (dP w c (s.zG c) b M R) from ?_) (dT er (by rw [T6];exact he))) ⟨rfl,rfl⟩;rw [SU];exact zE
 have ft:rq.take (i+1)=rq.take i++[rq[i]'cO]:=aD cO;have Bc:=BV s.ls.cF s.fd.dU (rq[i]'cO) (rq.take i) s.eh;rw [← ft] at Bc
 have Kx:=WN _ (aA cO)
 have HJ:∃ y,s.fd.cur=some y:=by
  cases hc:s.fd.cur with
  | none=>rw [Vp hc] at cO;exact absurd cO (Nat.not_lt_zero _)
  | some y=>exact ⟨y,rfl⟩
 obtain ⟨y,hy⟩:=HJ;have XN:s.fd.dU=y:=by unfold cP.dU;rw [hy];rfl
 have Us:=(eK.cur y hy).1;rw [XN] at I1 Bc Kx BL hln abM ⊢
 refine W.cB ((bb (show cR _ (uD (.slice ad rq.length co) rq) _ from zP)).shape zo) ?_;rintro ⟨⟨lM,c',lU,wH,IX,Ap,uW⟩,_⟩
 cases lU
 rcases uW with uW|⟨gq,oq,rfl⟩
 ·omega
 have H0:∀ (L R':List cJ),cR L (uD (.slice (some ⟨gq,oq,none⟩) rq.length co) rq) R'→dZ L gq (oq+i*2) (KW (rq[i]'cO)):=fun L R' pl=>dZ.elem (bb pl) Wa (ab cO)
 have hql:rq.length≤1000:=by
  have h1:(rq.map (·.1)).Nodup:=by
   rw [← XM];unfold cP.lc;rw [List.map_map,show ((fun x:Nat × Nat=>x.1) ∘ fun w=>(w,(s.fd.st.getD w lr).size))=id from rfl,List.map_id];have h2:=(ri s.time s.fd.ag.length s.fd.ag).1.nodup_iff.2 eK.fd.CQ;exact (List.nodup_append.1 h2).1
  have h2:=ot c.k (rq.map (·.1)) h1 (fun x hx=>by obtain ⟨q,hq,rfl⟩:=aE.1 hx;exact (WN q hq).1);rw [ae] at h2
  omega
 generalize rq[i]'cO=r at *
 obtain ⟨z,fr⟩:=r;dsimp only at Kx H0 Bc
 dsimp only [KW] at H0
 generalize hA:mm s.ls.cF y (rq.take i) s.eh=nq at *
 have Qx:=Us.2.2.1;refine wB ?_;refine O.dy rfl (H0 _ _ zP) rfl rfl ?_
 (repeat (refine wA ?_;intros))
 refine aZ rfl rfl (Ct.at zP (H3 _ e b.mE (cZ c) c.retry s1.n s1.fd)) ?_;rintro _ _ ⟨N,ur,up,uq,rfl,SP,rfl⟩;rw [I1] at SP ⊢
 rw [B9,hy];refine bm (cn (SP.root.cL (cG zP))) fun o3=>?_
 refine bm (SP.sig.cL (cG zP)).parts.one fun o4=>?_
 refine bm (SP.sig.cL (cG zP)).path.one fun o5=>?_
 have qi:s1.ls=s.ls:=by rw [fR]
 have vL:=qL (l:=s.ls.cF.take y.dc.size) (n:=fr) (by rw [aF];omega)
 (repeat' first|refine W.pF (id:=7) (fun j:(Nat × Nat × Nat) × List ej × Option Addr × Nat=>[(0,pt w),(6,.int .i64 ((nq.length - s.eh.length:Nat):Int)),(8,pt j.1.1),(9,pt j.1.2.1),(11,pt j.1.2.2),(12,.int .i64 0),(24,.slice (some ⟨gq,oq,none⟩) rq.length co),(25,.int .i64 (rq.length:Int)),(26,.int .i64 (i:Int))]) (fun j=>cK j.1.2.2 [.int .i64 (fr:Int),.int .i64 (y.dc.size:Int),.slice j.2.2.1 j.2.1.length j.2.2.2] 102 (0,0)::cK j.1.2.1 (dS y ur up uq) rE (0,0)::cK j.1.1 [.int .i64 (z:Int),.int .i64 (fr:Int)] Fi (0,0)::cV (.slice j.2.2.1 j.2.1.length j.2.2.2) j.2.1::cH j.2.1::N::uD (.slice (some ⟨gq,oq,none⟩) rq.length co) rq::dP w c s1 b M R) (fun j=>j.2.1.map (·.2)=iY ((s.ls.cF.take y.dc.size).map cY) fr) ?_ ?_|refine Za ?_|refine Zb ?_|apply Ze|apply Zf|refine Yh fun _=>?_|refine YN ?_|refine YR ?_|fail)
 rotate_left
 ·refine ⟨?_⟩;rename_i g8 g9;refine bk (id:=6) [15] (cK g9 (dS y ur up uq) rE (0,0)::cK g8 [.int .i64 (z:Int),.int .i64 (fr:Int)] Fi (0,0)::cK w (b.cells c s1) di (0,0)::N::R) mixed ?_
  (refine tM 0 ?_;refine tN 1 ?_;refine tF 2 ?_;refine tL 3 ?_;refine tF 4 ?_;refine tL 5 ?_;refine tF 6 ?_;refine tF 7 ?_;refine tL 8 ?_)
  refine A.two 9 13 rfl rfl rfl rfl zK ?_ ?_
  ·refine bg rfl rfl (Ct.at zP (yS _ e b.gl b.ld b.lk (cQ 0) s1.ls fr y.dc.size (by rw [qi];exact Qx) Kx.2)) ?_;rintro _ _ ⟨dW,k2,out,rfl,lu,rfl⟩;rw [qi] at lu
   refine ⟨fun _=>zE,?_⟩
   (refine tM 10 ?_;refine tk 11 _ rfl (bl rfl rfl) ?_;refine tk 12 _ rfl (bl rfl rfl) ?_)
   refine tO 13 ?_;refine bQ (cs:=[.int .i64 0,.int .i64 0,nY]) rfl rfl fun DK=>⟨fun _=>zE,?_⟩
   refine tO 14 ?_;refine zg ?_;refine ⟨fun _=>zE,?_⟩;refine tO 15 ?_;refine dV (bj rfl) ?_;refine bf zK ?_;exact bJ ((g8,g9,DK),out,dW,k2) lu zS zE
  ·refine bQ (cs:=[.int .i64 0,.int .i64 0,nY]) rfl rfl fun DK=>⟨fun _=>zE,?_⟩
   refine tO 9 ?_;refine bg rfl rfl (Ct.at zP (yS _ e b.gl b.ld b.lk (cQ 0) s1.ls fr y.dc.size (by rw [qi];exact Qx) Kx.2)) ?_;rintro _ _ ⟨dW,k2,out,rfl,lu,rfl⟩;rw [qi] at lu
   refine ⟨fun _=>zE,?_⟩
   (refine tM 10 ?_;refine tk 11 _ rfl (bl rfl rfl) ?_;refine tk 12 _ rfl (bl rfl rfl) ?_)
   refine tO 14 ?_;refine zg ?_;refine ⟨fun _=>zE,?_⟩;refine tO 15 ?_;refine dV (bj rfl) ?_;refine bf zK ?_;exact bJ ((g8,g9,DK),out,dW,k2) lu zS zE
 rintro ⟨⟨g8,g9,DK⟩,out,dW,k2⟩ lu;dsimp only at lu ⊢
 refine wB ?_;refine aZ rfl rfl (jh _ e) ?_;rintro _ _ ⟨gw,rfl,rfl⟩;refine wB ?_;refine aZ rfl rfl (Bk _ e gw [] ur up uq y (SP.cL (cG zP)) Us.1.1 Us.2.1 (by simp)) ?_;rintro _ _ ⟨rfl,rfl⟩;have Ub:=iO Us.1.1 Us.2.1;have Wq:=Us.1.1.1;have Er:out.length≤16:=by have:=congrArg List.length lu;rw [ae] at this;omega
 rw [List.nil_append];refine wB ?_;refine aZ rfl rfl (gD _ e gw _ fr zo zo) ?_;rintro _ _ ⟨rfl,rfl⟩;refine wB ?_;refine aZ rfl rfl (gD _ e gw _ y.dc.size zo (by rw [aa,cX];omega)) ?_;rintro _ _ ⟨rfl,rfl⟩;refine wB ?_;rw [qp (show out.length<256 by omega)];refine aZ rfl rfl (mz _ e gw (hZ y++be fr 4++be y.dc.size 4) (UInt8.ofNat out.length) (by rw [aa,aa,cX,cX];omega)) ?_;rintro _ _ ⟨rfl,rfl⟩;refine wB ?_;have abN:(hZ y++be fr 4++be y.dc.size 4++[UInt8.ofNat out.length]).length=2225:=by simp only [aa,cX,aj];omega
 have WO:hZ y++be fr 4++be y.dc.size 4++[UInt8.ofNat out.length]++(out.map (·.2)).flatten=qJ y fr y.dc.size (out.map (·.2)):=by
  unfold qJ;rw [ae];simp only [aM,List.cons_append,List.nil_append,List.singleton_append]
 have WR:∀ x∈out.map (·.2),x.length=32:=by rw [lu];exact vL.2
 have DF:=fa WR;rw [ae] at DF
 generalize Mj:hZ y++be fr 4++be y.dc.size 4++[UInt8.ofNat out.length]=pre at *
 refine bq (ι:=Nat) (fun j=>[(0,pt w),(6,.int .i64 ((nq.length - s.eh.length:Nat):Int)),(8,pt g8),(13,pt gw),(24,.slice (some ⟨gq,oq,none⟩) rq.length co),(25,.int .i64 (rq.length:Int)),(26,.int .i64 (i:Int)),(74,.slice dW out.length k2),(75,.int .i64 (out.length:Int)),(76,.int .i64 (j:Int))]) (fun j=>Writer gw (pre++((out.map (·.2)).take j).flatten)::cV (.slice dW out.length k2) out::cH out::cK g8 [.int .i64 (z:Int),.int .i64 (fr:Int)] Fi (0,0)::uD (.slice (some ⟨gq,oq,none⟩) rq.length co) rq::dP w c s1 b M R) (fun j=>j≤out.length) (fun j=>out.length - j) 0 (aH _) zS (by rw [List.take_zero,List.flatten_nil,aK];exact zE) ?_;intro j hj;have afV:=C2 (l:=out.map (·.2)) (i:=j)
 by_cases xj:j<out.length
 ·refine W.cB ((bb (show cR _ (cV (.slice dW out.length k2) out) _ from zP)).shape zo) ?_;rintro ⟨⟨lM,c',lU,wH,IX,Ap,uW⟩,_⟩
  cases lU
  rcases uW with uW|⟨gr,or',rfl⟩
  ·omega
  have jw:∀ L R',cR L (cV (.slice (some ⟨gr,or',none⟩) out.length k2) out) R'→Rd L ⟨gr,or'+j,none⟩ (out[j]'xj).1:=fun L R' p=>(bb p).elem (by rw [aL,ab xj];rfl)
  have sf:∀ L R',cR L (cH out) R'→db L (out[j]'xj).1 (out[j]'xj).2:=fun L R' p=>dQ.dY p _ (aA xj)
  have WS:((out.map (·.2)).take (j+1)).flatten=((out.map (·.2)).take j).flatten++(out[j]'xj).2:=by
   rw [vK (by rw [ae];exact xj),List.getElem_map]
  have hlx:=WR _ (aE.2 ⟨_,aA xj,rfl⟩)
  generalize out[j]'xj=x at *
  obtain ⟨xv,xb⟩:=x;dsimp only at jw sf WS hlx
  refine W.cB (cn (sf _ _ zP)) fun ox=>?_
  refine wB ?_;refine bV rfl (jw _ _ zP) rfl ?_;refine wB ?_;refine aZ rfl rfl (hI _ e gw _ xb xv (sf _ _ zP) (by rw [aa];omega)) ?_;rintro _ _ ⟨rfl,rfl⟩;refine wB ?_;exact bi (j+1) xj zo zS (by rw [WS,← aM];exact zE)
 rw [aG (by rw [ae];omega),WO];have rL:(qJ y fr y.dc.size (out.map (·.2))).length≤100000:=by rw [← WO,aa,abN,DF];omega
 refine wB ?_;have hzk:=Kx.1
 have WT:∀ v2:Value,nq.length<32→(b.nl++[(⟨1,0,((z:Int)+1),v2,qJ y fr y.dc.size (out.map (·.2))⟩:gU)]).map gU.d=(mm s.ls.cF y (rq.take (i+1)) s.eh).map (fW.d c.k):=fun v2 h=>by
  rw [Bc,aI h,ah,ah,BL];unfold PG;rw [← lu]
  rfl
 have abO:¬ nq.length<32→mm s.ls.cF y (rq.take (i+1)) s.eh=nq:=fun h=>by rw [Bc,aB h]
 generalize hbd:qJ y fr y.dc.size (out.map (·.2))=bd at *
 refine bk (id:=18) [] (cK g8 [.int .i64 (z:Int),.int .i64 (fr:Int)] Fi (0,0)::cK w (b.cells c s1) di (0,0)::R) mixed ?_
 (refine tM 0 ?_;refine tN 1 ?_;refine tF 2 ?_;refine tL 3 ?_;refine tF 4 ?_;refine tL 5 ?_;refine tk 6 _ rfl (cD.kQ rfl rfl zo) ?_;refine tM 7 ?_)
 refine tO 8 ?_;refine bg rfl rfl (hJ _ e gw bd zo) ?_;rintro _ _ ⟨eJ,k3,rfl,rfl⟩;refine ⟨fun _=>zE,?_⟩;refine tk 9 _ rfl (bL rfl zF) ?_;refine tO 10 ?_;refine bg rfl rfl (Ct.at zP (sL _ e b.gn 32 b.nl ⟨1,0,((z:Int)+1),.slice eJ bd.length k3,bd⟩ (bb (show cR _ (cS (.slice eJ bd.length k3) bd) _ from zP)) zd zo zo)) ?_;rintro _ _ (⟨we,rfl,v2,rfl⟩|⟨we,rfl,rfl⟩)
 ·refine ⟨fun _=>zE,?_⟩;refine bf zK ?_;have hsn:=congrArg List.length (WT v2 zo);rw [ae,ae,aa,aj] at hsn
  have abP:((mm s.ls.cF y (rq.take (i+1)) s.eh).length - s.eh.length:Nat)=(nq.length - s.eh.length)+1:=by omega
  refine wB ?_;refine bi (i+1,{ b with nl:=b.nl++[⟨1,0,((z:Int)+1),v2,bd⟩] }) ⟨cO,by dsimp only;rw [T6],WT v2 zo⟩ zd (by dsimp only;rw [abP];exact zS) zE
 ·refine ⟨fun _=>zE,?_⟩;refine bf zK ?_;have hq:=abO zo;refine wB ?_;refine bi (i+1,b) ⟨cO,T6,by dsimp only;rw [hq];exact BL⟩ zd (by dsimp only;rw [hq];exact zS) zE
structure It where
 k:Nat
 n:Nat
 to:Nat
 b:du
abbrev It.cells (x:It) (v:Value):List Value:=oB (x.k:Int) (x.n:Int) (x.to:Int) 0 v
def da.FM (c:dh) (s:da) (x:It):da × Int × Int:=match x.k with
 | 1=>(s.sub c x.b,(s.fs.fC c.f s.ls.cF x.b (s.time:Int)).1,0)
 | 2=>(s.Ou x.n,((s.Ou x.n).time:Int),0)
 | 3=>(s.Gi c,(s.K5 c:Int),0)
 | 4=>(s.iG c,if s.m2 then (s.fk.dc.size:Int) else 0,if s.m2 then 0 else 23)
 | 5=>(s.zG c,(s.SQ c:Int),0)
 | 6=>s.AI c x.n
 | 7=>(if x.n<s.eh.length then s.lost x.n else s,0,if x.n<s.eh.length then 0 else 1)
 | 8=>(s.LL x.n,0,s.FE x.n)
 | 9=>((s.Ox x.n).1,0,(s.Ox x.n).2)
 | _=>(s,0,1)
def XU (ev:List (Int × Int × Int × du)) (s:da):Prop:=∀ x∈ev,(x.1=3∧∃ ch:jc,s.signed=some ch∧x=(3,(ch.size:Int),0,ch.root))∨(x.1≠3∧(x.1=7∨s.fs.recs≠[]))
theorem rF.d {ev:List (Int × Int × Int × du)} {s:da} (h:rF ev s):XU ev s:=fun x hx=>.inr (h x hx)
theorem EvP.d {ev:List (Int × Int × Int × du)} {s:da} (h:EvP ev s):XU ev s:=fun x hx=>by
 rcases h with rfl|⟨ch,h1,rfl⟩
 ·cases hx
 ·rw [an.1 hx];exact .inl ⟨rfl,ch,h1,rfl⟩
end Go.Proofs
namespace Go.Proofs
attribute [local irreducible] Bs.cD Bs.Do Bs.O Bs.W Bs.Fin Bs.A Bs.Ct Bs.cE Bs.Rd Bs.Sat Bs.cK Bs.Ob Bs.dE Bs.View Bs.cz Bs.Ex Bs.dI Bs.Pu Bs.eY Bs.dN Bs.dZ
open Go.Bs
open Tryz
variable (R:List cJ) (e:World)
theorem z4 (w:Nat) (c:dh) (m:Nat) (s:da) (ev:List (Int × Int × Int × du)) (x:It) (v:Value) (hv:db R v x.b) (hk:1≤x.k∧x.k≤9) (hn:x.n≤1000) (hb:x.b.length≤200) (hm:m<250) :
 Ct prog 25 #[ptr w,.agg (x.cells v).toArray] e (dM w c m s ev::R) (fun v' L'=>v'=.agg [.int .i64 (x.k:Int),.int .i64 (s.FM c x).2.1,.int .i64 (s.FM c x).2.2].toArray∧∃ X,(∃ jQ,XU jQ (s.FM c x).1∧X=dM w c (m+1) (s.FM c x).1 (ev++jQ))∧L'=X::R):=by
 refine a7 (cn (hv.cL (show cz (dM w c m s ev::R) R from zE))) fun o=>?_
 obtain ⟨k,n,to,b⟩:=x;dsimp only at hv hk hn hb ⊢
 have h9:k=1∨k=2∨k=3∨k=4∨k=5∨k=6∨k=7∨k=8∨k=9:=by omega
 rcases h9 with rfl|rfl|rfl|rfl|rfl|rfl|rfl|rfl|rfl
 ·exact kJ R e w c m s ev 1 n to 0 v o _ (by decide) rfl _ _ _ fun R' f=>(K4 R' e w c m s ev _ n to 0 v b (hv.cL f) hb hm).mono fun v' L' h=>by
   obtain ⟨h1,jQ,h2,h3⟩:=h;exact ⟨h1,_,⟨jQ,h2.d,rfl⟩,h3⟩
 ·exact kJ R e w c m s ev 2 n to 0 v o _ (by decide) rfl _ _ _ fun R' f=>(H9 R' e w c m s ev _ to 0 n v o hn hm).mono fun v' L' h=>by
   obtain ⟨h1,h3⟩:=h;exact ⟨h1,_,⟨[],rF.nil.d,by rw [aK];rfl⟩,h3⟩
 ·exact kJ R e w c m s ev 3 n to 0 v o _ (by decide) rfl _ _ _ fun R' f=>(Ia R' e w c m s ev _ n to 0 v o hm).mono fun v' L' h=>by
   obtain ⟨h1,jQ,h2,h3⟩:=h;exact ⟨h1,_,⟨jQ,h2.d,rfl⟩,h3⟩
 ·exact kJ R e w c m s ev 4 n to 0 v o _ (by decide) rfl _ _ _ fun R' f=>(K8 R' e w c m s ev _ n to 0 v o hm).mono fun v' L' h=>by
   obtain ⟨h1,jQ,h2,h3⟩:=h;exact ⟨h1,_,⟨jQ,h2.d,rfl⟩,h3⟩
 ·exact kJ R e w c m s ev 5 n to 0 v o _ (by decide) rfl _ _ _ fun R' f=>(Lk R' e w c m s ev _ n to 0 v o hm).mono fun v' L' h=>by
   obtain ⟨h1,h3⟩:=h;exact ⟨h1,_,⟨[],rF.nil.d,by rw [aK];rfl⟩,h3⟩
 ·exact kJ R e w c m s ev 6 n to 0 v o _ (by decide) rfl _ _ _ fun R' f=>(AM R' e w c m s ev _ to 0 n v o zo hm).mono fun v' L' h=>by
   obtain ⟨h1,jQ,h2,h3⟩:=h;exact ⟨h1,_,⟨jQ,h2.d,rfl⟩,h3⟩
 ·exact kJ R e w c m s ev 7 n to 0 v o _ (by decide) rfl _ _ _ fun R' f=>(Ib R' e w c m s ev _ to 0 n v o zo hm).mono fun v' L' h=>by
   obtain ⟨h1,h3⟩:=h;exact ⟨h1,_,⟨[],rF.nil.d,by rw [aK];rfl⟩,h3⟩
 ·exact kJ R e w c m s ev 8 n to 0 v o _ (by decide) rfl _ _ _ fun R' f=>(Dk R' e w c m s ev _ to 0 n v o zo hm).mono fun v' L' h=>by
   obtain ⟨h1,h3⟩:=h;exact ⟨h1,_,⟨[],rF.nil.d,by rw [aK];rfl⟩,h3⟩
 ·exact kJ R e w c m s ev 9 n to 0 v o _ (by decide) rfl _ _ _ fun R' f=>(FL R' e w c m s ev _ to 0 n v o zo hm).mono fun v' L' h=>by
   obtain ⟨h1,h3⟩:=h;exact ⟨h1,_,⟨[],rF.nil.d,by rw [aK];rfl⟩,h3⟩
abbrev Ig:=Int × Int × Int
abbrev Ig.cells (o:Ig):List Value:=[.int .i64 o.1,.int .i64 o.2.1,.int .i64 o.2.2]
abbrev Dn.cells (t:It × Value):List Value:=It.cells t.1 t.2
theorem WU (t:It × Value):(Dn.cells t).length=5:=rfl
theorem NR (w:Nat) (c:dh) (m:Nat) (s:da) (ev:List (Int × Int × Int × du)) (vl:Value) (ts:List (It × Value)) (Inv:da→List (Int × Int × Int × du)→Prop) (f:da→It→da) (hl:cE R 5 vl ts.length (ts.flatMap Dn.cells)) (ht:∀ t∈ts,db R t.2 t.1.b) (hm:m+ts.length≤250) (h0:Inv s ev)
 (Vb:∀ (R':List cJ) (t:It × Value) (m:Nat) (s:da) (ev:List (Int × Int × Int × du)),t∈ts→m<250→db R' t.2 t.1.b→Inv s ev→Ct prog 25 #[ptr w,.agg (Dn.cells t).toArray] e (dM w c m s ev::R') (fun v' L'=>(∃ o:Ig,v'=.agg (Ig.cells o).toArray)∧∃ jQ,Inv (f s t.1) jQ∧L'=dM w c (m+1) (f s t.1) jQ::R')) :
 Ct prog 26 #[ptr w,vl] e (dM w c m s ev::R) (fun v' L'=>∃ jQ,Inv (ts.foldl (fun s t=>f s t.1) s) jQ∧L'=dM w c (m+ts.length) (ts.foldl (fun s t=>f s t.1) s) jQ::R):=by
 refine a7 ((hl.cL (show cz (dM w c m s ev::R) R from zE)).shape zo) ?_;rintro ⟨⟨ad,cl,rfl,h1,h2,h3,h4⟩,_⟩;simp only [maxLen] at h2
 refine a8 (args:=[_,_]) func26 rfl ntmps26 results26 rfl ?_;refine wB ?_;refine bq (ι:=List Ig × Option Addr × Nat × List (Int × Int × Int × du)) (fun i=>[(0,ptr w),(5,.slice i.2.1 i.1.length i.2.2.1),(8,.slice ad ts.length cl),(9,.int .i64 (ts.length:Int)),(10,.int .i64 (i.1.length:Int))]) (fun i=>dE Tk 3 (.slice i.2.1 i.1.length i.2.2.1) i.1.length (i.1.flatMap Ig.cells)::dM w c (m+i.1.length) ((ts.take i.1.length).foldl (fun s t=>f s t.1) s) i.2.2.2::R) (fun i=>i.1.length≤ts.length∧Inv ((ts.take i.1.length).foldl (fun s t=>f s t.1) s) i.2.2.2) (fun i=>ts.length - i.1.length) ([],none,0,ev) ⟨aH _,h0⟩ zS (dv Tk 3) ?_;rintro ⟨os,ao,ko,Ut⟩ ⟨hle,hinv⟩;dsimp only at hle hinv ⊢
 by_cases cO:os.length<ts.length
 rotate_left
 ·have abQ:os.length=ts.length:=by omega
  rw [abQ,List.take_length] at hinv ⊢
  refine wB ?_;exact aY (dM w c (m+ts.length) (ts.foldl (fun s t=>f s t.1) s) Ut::R) rfl zE ⟨Ut,hinv,rfl⟩
 rcases h4 with h4|⟨gl,ol,rfl⟩
 ·omega
 have hg:ts[os.length]?=some (ts[os.length]'cO):=ab cO;have ry:ts[os.length]'cO∈ts:=aA cO;have ft:ts.take (os.length+1)=ts.take os.length++[ts[os.length]'cO]:=aD cO
 generalize ts[os.length]'cO=t at hg ry ft
 have hr:dZ R gl (ol+os.length*5) (Dn.cells t):=dZ.elem hl WU hg;have QW:=ht t ry;refine W.cB (cn (QW.cL (show cz _ R from zE))) fun o=>?_
 generalize fR:(ts.take os.length).foldl (fun s t=>f s t.1) s=s1 at hinv ⊢
 have m4:(ts.take (os.length+1)).foldl (fun s t=>f s t.1) s=f s1 t.1:=by rw [ft,List.foldl_append,fR];rfl
 (repeat (refine wA ?_;intros))
 rename_i g7;refine aZ rfl rfl (Ct.at zP (Vb _ t (m+os.length) s1 Ut ry zo (QW.cL zE) hinv)) ?_;rintro _ _ ⟨⟨ou,rfl⟩,Ny,WV,rfl⟩
 (repeat (refine wA ?_;intros))
 rename_i gb;refine bC (bo rfl rfl rfl (show cR _ (dE Tk 3 (.slice ao os.length ko) os.length (os.flatMap Ig.cells)) _ from zP) (bO (n:=3) (c:=1) zP rfl zl) rfl rfl zO zm zo fun ef k1 _=>?_)
 refine wB ?_;refine bi (os++[ou],ef,k1,Ny) ⟨by dsimp only;rw [aa,aj];omega,by dsimp only;rw [aa,aj,m4];exact WV⟩ (by dsimp only;rw [aa,aj];omega) ?_ ?_
 ·simp only [aa,aj];exact zS
 ·simp only [aa,aj,aW,aU,List.flatMap_nil,aK];rw [m4,← Nat.add_assoc];exact zE
theorem FN {w:Nat} {c:dh} {m:Nat} {s:da} {ev:List (Int × Int × Int × du)} {L R:List cJ} {P:Program} {N:Fr} {all:Array Oper} {l:List Oper} {Q:fO} {σ:Env} {e:World} (p:cR L (dM w c m s ev) R)
 (h:∀ (a:ee) (M:cJ),a.ok M w c m s→a.es.map (fun x=>(x.k,x.a,x.b,x.t))=ev→O P N all l Q σ e (dP w c s a M R)):O P N all l Q σ e L :=
 O.ex (f:=fun a:ee=>Ex fun M:cJ=>dI [Pu (a.es.map (fun x=>(x.k,x.a,x.b,x.t))=ev),uG w c m s a M]) (show cR L (Ex fun a:ee=>Ex fun M:cJ=>dI [Pu (a.es.map (fun x=>(x.k,x.a,x.b,x.t))=ev),uG w c m s a M]) R from p) fun a=>O.ex .zero fun M=>O.fo (cT (M:=[Pu (a.es.map (fun x=>(x.k,x.a,x.b,x.t))=ev),uG w c m s a M]) (L:=R)) (bm (p:=a.es.map (fun x=>(x.k,x.a,x.b,x.t))=ev) (fun w x=>(jR x).1) fun he=>O.fo (cz.drop aX) (O.fo (cT (M:=Pu (a.ok M w c m s)::dP w c s a M []) (L:=R)) (bm (p:=a.ok M w c m s) (fun w x=>(jR x).1) fun hp=>O.fo (cz.drop aX) (h a M hp he))))
theorem nJ (w:Nat) (c:dh) (s:da) (a:ee) :
 Ct prog 28 #[ptr w] e (cK w (a.cells c s) di (0,0)::R) (fun v' L'=>v'=ptr a.gu∧L'=cK w (a.cells c s) di (0,0)::R):=by
 refine a8 (args:=[_]) func28 rfl ntmps28 results28 rfl ?_;refine wB ?_;exact aY (cK w (a.cells c s) di (0,0)::R) rfl zE ⟨rfl,rfl⟩
theorem mq (w:Nat) (c:dh) (s:da) (a:ee) :
 Ct prog 31 #[ptr w] e (cK w (a.cells c s) di (0,0)::R) (fun v' L'=>v'=ptr a.gl∧L'=cK w (a.cells c s) di (0,0)::R):=by
 refine a8 (args:=[_]) func31 rfl ntmps31 results31 rfl ?_;refine wB ?_;exact aY (cK w (a.cells c s) di (0,0)::R) rfl zE ⟨rfl,rfl⟩
theorem FO (w:Nat) (c:dh) (s:da) (a:ee) :
 Ct prog 59 #[ptr w] e (cK w (a.cells c s) di (0,0)::R) (fun v' L'=>v'=ptr a.gf∧L'=cK w (a.cells c s) di (0,0)::R):=by
 refine a8 (args:=[_]) func59 rfl ntmps59 results59 rfl ?_;refine wB ?_;exact aY (cK w (a.cells c s) di (0,0)::R) rfl zE ⟨rfl,rfl⟩
theorem AN (w:Nat) (c:dh) (s:da) (a:ee) :
 Ct prog 34 #[ptr w] e (cK w (a.cells c s) di (0,0)::R) (fun v' L'=>v'=ptr a.gm∧L'=cK w (a.cells c s) di (0,0)::R):=by
 refine a8 (args:=[_]) func34 rfl ntmps34 results34 rfl ?_;refine wB ?_;exact aY (cK w (a.cells c s) di (0,0)::R) rfl zE ⟨rfl,rfl⟩
theorem Ll (w:Nat) (c:dh) (s:da) (a:ee) :
 Ct prog 61 #[ptr w] e (cK w (a.cells c s) di (0,0)::R) (fun v' L'=>v'=ptr a.gn∧L'=cK w (a.cells c s) di (0,0)::R):=by
 refine a8 (args:=[_]) func61 rfl ntmps61 results61 rfl ?_;refine wB ?_;exact aY (cK w (a.cells c s) di (0,0)::R) rfl zE ⟨rfl,rfl⟩
theorem AO (w:Nat) (c:dh) (s:da) (a:ee) (j:Nat) (hj:j<a.wx.length) (hl:a.wx.length≤1000) :
 Ct prog 45 #[ptr w,.int .i64 (j:Int)] e (cK w (a.cells c s) di (0,0)::dE pY 1 a.lY a.wx.length (a.wx.map jJ)::R) (fun v' L'=>v'=ptr (a.wx[j]'hj).g∧L'=cK w (a.cells c s) di (0,0)::dE pY 1 a.lY a.wx.length (a.wx.map jJ)::R):=by
 refine a7 ((bb (show cR (cK w (a.cells c s) di (0,0)::dE pY 1 a.lY a.wx.length (a.wx.map jJ)::R) (dE pY 1 a.lY a.wx.length (a.wx.map jJ)) _ from zP)).shape zo) ?_;rintro ⟨⟨HN,cw,BX,wH,IX,Ap,uW⟩,_⟩;rcases uW with uW|⟨gq,oq,rfl⟩
 ·omega
 have QD:∀ (L R':List cJ),cR L (dE pY 1 (.slice (some ⟨gq,oq,none⟩) a.wx.length cw) a.wx.length (a.wx.map jJ)) R'→Rd L ⟨gq,oq+j,none⟩ (ptr (a.wx[j]'hj).g):=fun L R' pl=>(bb pl).elem (by rw [aL,ab hj];rfl)
 generalize a.wx[j]'hj=y at QD ⊢
 refine a8 (args:=[_,_]) func45 rfl ntmps45 results45 rfl ?_;refine wB ?_;rw [BX];refine wB ?_;rw [BX]
 (repeat (refine wA ?_;intros))
 refine bV rfl (QD _ _ zP) rfl ?_;refine wB ?_;rw [← BX];exact aY (cK w (a.cells c s) di (0,0)::dE pY 1 a.lY a.wx.length (a.wx.map jJ)::R) rfl zE ⟨rfl,rfl⟩
theorem FP (w:Nat) (c:dh) (m:Nat) (s:da) (ev:List (Int × Int × Int × du)) :
 Ct prog 81 #[ptr w,.agg (fX c).toArray] e (dM w c m s ev::R) (fun v' L'=>v'=.bool true∧L'=dM w c m s ev::R):=by
 refine gZ fun a M ha he=>?_
 have Gd:=ha.st.xE.k
 have C7:a.wx.length=c.k:=by
  obtain ⟨vl,vu,vs,Wr,Lc,-⟩:=ha.all.all;exact Lc
 refine a8 (args:=[_,_]) func81 rfl ntmps81 results81 rfl ?_
 (repeat (refine wA ?_;intros))
 refine aZ rfl rfl (Ct.at zP (mq _ e w c s a)) ?_;rintro _ _ ⟨rfl,rfl⟩;refine wB ?_;refine aZ rfl rfl (Ct.at zP (FO _ e w c s a)) ?_;rintro _ _ ⟨rfl,rfl⟩;refine wB ?_;refine aZ rfl rfl (Ct.at zP (nJ _ e w c s a)) ?_;rintro _ _ ⟨rfl,rfl⟩;refine wB ?_;refine aZ rfl rfl (Ct.at zP (AN _ e w c s a)) ?_;rintro _ _ ⟨rfl,rfl⟩;refine wB ?_;refine aZ rfl rfl (Ct.at zP (Ll _ e w c s a)) ?_;rintro _ _ ⟨rfl,rfl⟩;refine wB ?_;rename_i g3;refine bq (ι:=Nat) (fun i=>[(0,ptr w),(3,ptr g3),(5,.int .i64 (i:Int))]) (fun _=>cK g3 (fX c) iU (0,0)::dP w c s a M R) (fun i=>i≤c.k) (fun i=>c.k - i) 0 (aH _) zS zE ?_;intro i hi
 by_cases cO:i<c.k
 rotate_left
 ·refine wB ?_;exact aY (dM w c m s ev::R) rfl (cj (show cz _ (dP w c s a M R) from zE) (dT ha he)) ⟨rfl,rfl⟩
 refine wB ?_;refine aZ rfl rfl (Ct.AR zP zP (AO _ e w c s a i zo zo)) ?_;rintro _ _ ⟨rfl,rfl⟩;refine wB ?_;exact bi (i+1) zo zo zS zE
theorem z5 (c:dh) (hc:c.ok) :
 Ct prog 23 #[.agg (fX c).toArray] e R (fun v' L'=>∃ w,v'=ptr w∧L'=dM w c 0 (pC c) []::R):=by
 refine a8 (args:=[_]) func23 rfl ntmps23 results23 rfl ?_
 (repeat (refine wA ?_;intros))
 refine aZ rfl rfl (Lj _ e c hc) ?_;rintro _ _ ⟨w,rfl,rfl⟩;refine wB ?_;refine aZ rfl rfl (FP _ e w c 0 (pC c) []) ?_;rintro _ _ ⟨rfl,rfl⟩;refine wB ?_;exact aY (dM w c 0 (pC c) []::R) rfl zE ⟨w,rfl,rfl⟩
def uN (n q room size wait retry:Int):dh:=⟨(within n 1 3).toNat,(within q 1 (within n 1 3)).toNat,(within room 1 16).toNat,(within size 1 8).toNat,(within wait 0 6).toNat,(within retry 1 4).toNat⟩
theorem wW (n q room size wait retry:Int) (h1:-9223372036854775808≤n∧n≤9223372036854775807) (h2:-9223372036854775808≤q∧q≤9223372036854775807) (h3:-9223372036854775808≤room∧room≤9223372036854775807) (h4:-9223372036854775808≤size∧size≤9223372036854775807) (h5:-9223372036854775808≤wait∧wait≤9223372036854775807) (h6:-9223372036854775808≤retry∧retry≤9223372036854775807) :
 Ct prog 22 #[.int .i64 n,.int .i64 q,.int .i64 room,.int .i64 size,.int .i64 wait,.int .i64 retry] e R (fun v' L'=>v'=.agg (fX (uN n q room size wait retry)).toArray∧R=L'):=by
 have b1:=dm n 1 3 zo;have b2:=dm q 1 (within n 1 3) zo;have b3:=dm room 1 16 zo;have b4:=dm size 1 8 zo;have b5:=dm wait 0 6 zo;have b6:=dm retry 1 4 zo
 have hcc:fX (uN n q room size wait retry)=[.int .i64 (within n 1 3),.int .i64 (within q 1 (within n 1 3)),.int .i64 (within room 1 16),.int .i64 (within size 1 8),.int .i64 (within wait 0 6),.int .i64 (within retry 1 4),.int .i64 1048576,.string (str iT)]:=by
  simp only [fX,uN];rw [Int.toNat_of_nonneg zo,Int.toNat_of_nonneg zo,Int.toNat_of_nonneg zo,Int.toNat_of_nonneg zo,Int.toNat_of_nonneg zo,Int.toNat_of_nonneg zo]
 rw [hcc];refine bH (args:=[_,_,_,_,_,_]) func22 rfl ntmps22 results22 rfl ?_
 (repeat (refine wA ?_;intros))
 refine aZ rfl rfl (eA _ e n 1 3 h1 zo) ?_;rintro _ _ ⟨rfl,rfl⟩;refine wB ?_;refine aZ rfl rfl (eA _ e q 1 (within n 1 3) h2 zo) ?_;rintro _ _ ⟨rfl,rfl⟩
 (repeat (refine wA ?_;intros))
 refine aZ rfl rfl (eA _ e room 1 16 h3 zo) ?_;rintro _ _ ⟨rfl,rfl⟩
 (repeat (refine wA ?_;intros))
 refine aZ rfl rfl (eA _ e size 1 8 h4 zo) ?_;rintro _ _ ⟨rfl,rfl⟩
 (repeat (refine wA ?_;intros))
 refine aZ rfl rfl (eA _ e wait 0 6 h5 zo) ?_;rintro _ _ ⟨rfl,rfl⟩
 (repeat (refine wA ?_;intros))
 refine aZ rfl rfl (eA _ e retry 1 4 h6 zo) ?_;rintro _ _ ⟨rfl,rfl⟩;refine wB ?_;apply br
 ·exact zV
 exact ⟨R,zE,rfl,rfl⟩
abbrev qM (k n:Nat):It:=⟨k,n,0,[]⟩
def sP (leaf:Nat):List It:=[qM 2 1,qM 3 0,qM 4 0,qM 5 0]++List.replicate 32 (qM 6 0)++[qM 9 leaf,qM 6 0]
def sQ (leaf:Nat):List (It × Value):=(sP leaf).map fun x=>(x,nL)
abbrev PU (x:It):List Value:=It.cells x nL
theorem Dp (leaf:Nat):(sQ leaf).flatMap Dn.cells=(sP leaf).flatMap PU:=by
 unfold sQ;rw [List.flatMap_map]
theorem Ih (n:Value) (leaf:Nat) :
 Ct prog 27 #[n,.int .i64 (leaf:Int)] e R (fun v' L'=>∃ ad k,v'=.slice ad 38 k∧L'=dE eI 5 (.slice ad 38 k) 38 ((sP leaf).flatMap PU)::R):=by
 refine a8 (args:=[_,_]) func27 rfl ntmps27 results27 rfl ?_
 (repeat (refine wA ?_;intros))
 rename_i g1;obtain ⟨l4,T9⟩:∃ l4:List It,l4=[qM 2 1,qM 3 0,qM 4 0,qM 5 0]:=⟨_,rfl⟩
 have hl:l4.length=4:=by rw [T9];rfl
 refine W.fo (show cz _ (dE eI 5 (.slice (some ⟨g1,0,none⟩) 4 4) 4 (l4.flatMap PU)::R) from ?_) ?_
 ·have:=hH (E:=eI) (n:=5) (k:=4) (g:=g1) (cap:=4) (cur:=l4.flatMap PU) (R:=R) (aS _) zm (by rw [T9];rfl);rw [aG (by rw [T9];exact aS _)] at this
  refine cj (show cz _ (cK g1 (l4.flatMap PU) eI (0,0)::R) from ?_) this;rw [T9];exact zE
 refine bq (ι:=Nat × Option Addr × Nat) (fun i=>[(1,.int .i64 (leaf:Int)),(5,.slice i.2.1 (4+i.1) i.2.2),(11,.int .i64 (i.1:Int))]) (fun i=>dE eI 5 (.slice i.2.1 (4+i.1) i.2.2) (4+i.1) ((l4++List.replicate i.1 (qM 6 0)).flatMap PU)::R) (fun i=>i.1≤32) (fun i=>32 - i.1) (0,some ⟨g1,0,none⟩,4) (aH _) zS (by dsimp only;rw [List.replicate_zero,aK];exact zE) ?_;rintro ⟨j,ad,k⟩ hj;dsimp only at hj ⊢
 by_cases cO:j<32
 ·(repeat (refine wA ?_;intros))
  rename_i g2;refine bC (bo rfl rfl rfl (show cR _ (dE eI 5 (.slice ad (4+j) k) (4+j) ((l4++List.replicate j (qM 6 0)).flatMap PU)) _ from zP) (bO (n:=5) (c:=1) zP rfl zl) rfl rfl zO zm zo fun ef k1 _=>?_)
  refine wB ?_;refine bi (j+1,ef,k1) zd zd zS ?_;dsimp only;rw [show l4++List.replicate (j+1) (qM 6 0)=(l4++List.replicate j (qM 6 0))++[qM 6 0] by rw [List.replicate_succ',aM],aW (xs:=l4++List.replicate j (qM 6 0))];exact zE
 ·obtain rfl:j=32:=by omega
  (repeat (refine wA ?_;intros))
  rename_i g2;refine bC (bo rfl rfl rfl (show cR _ (dE eI 5 (.slice ad (4+32) k) (4+32) ((l4++List.replicate 32 (qM 6 0)).flatMap PU)) _ from zP) (bO (n:=5) (c:=2) zP rfl zl) rfl rfl zO zm zo fun ef k1 _=>?_)
  refine wB ?_;refine aY (dE eI 5 (.slice ef 38 k1) 38 ((sP leaf).flatMap PU)::R) rfl ?_ ⟨ef,k1,rfl,rfl⟩;rw [show sP leaf=(l4++List.replicate 32 (qM 6 0))++[qM 9 leaf,qM 6 0] by rw [T9];rfl,aW (xs:=l4++List.replicate 32 (qM 6 0))];exact zE
theorem FQ (leaf:Nat) (hl:leaf≤1000):∀ t∈sQ leaf,t.1.b=[]∧t.2=nL∧(1≤t.1.k∧t.1.k≤9)∧t.1.n≤1000:=by
 intro t ht;obtain ⟨x,hx,rfl⟩:=aE.1 ht
 have:x=qM 2 1∨x=qM 3 0∨x=qM 4 0∨x=qM 5 0∨x=qM 6 0∨x=qM 9 leaf:=by
  unfold sP at hx
  rcases aJ.1 hx with hx|hx
  ·rcases aJ.1 hx with hx|hx
   ·simp only [aQ,aP,or_false] at hx
    rcases hx with h|h|h|h<;>simp [h]
   ·rw [(List.mem_replicate.1 hx).2];simp
  ·simp only [aQ,aP,or_false] at hx
   rcases hx with h|h<;>simp [h]
 rcases this with rfl|rfl|rfl|rfl|rfl|rfl<;>refine ⟨rfl,rfl,⟨?_,?_⟩,?_⟩<;>first|exact hl|(dsimp only;omega)
theorem abR (c:dh) (s:da) (n:Nat):(s.FM c (qM 2 n)).1=s.Ou n:=rfl
theorem abS (c:dh) (s:da) (n:Nat):(s.FM c (qM 3 n)).1=s.Gi c:=rfl
theorem abT (c:dh) (s:da) (n:Nat):(s.FM c (qM 4 n)).1=s.iG c:=rfl
theorem abU (c:dh) (s:da) (n:Nat):(s.FM c (qM 5 n)).1=s.zG c:=rfl
theorem WW (c:dh) (s:da) (n:Nat):(s.FM c (qM 6 n)).1=(s.AI c n).1:=rfl
theorem abV (c:dh) (s:da) (n:Nat):(s.FM c (qM 9 n)).1=(s.Ox n).1:=rfl
theorem abW (c:dh) (s:da) (b:du):s.FM c ⟨1,0,0,b⟩=(s.sub c b,(s.fs.fC c.f s.ls.cF b (s.time:Int)).1,0):=rfl
def da.JQ (c:dh) (s:da) (leaf:Nat):da:=(sQ leaf).foldl (fun s t=>(s.FM c t.1).1) s
def da.z6 (c:dh):Nat→da→da
 | 0,s=>s
 | k+1,s=>da.z6 c k (s.AI c 0).1
theorem B3 (c:dh):∀ (k:Nat) (s:da),(List.replicate k (qM 6 0)).foldl (fun s x=>(da.FM c s x).1) s=s.z6 c k
 | 0,s=>rfl
 | k+1,s=>by
  rw [List.replicate_succ,List.foldl_cons,B3 c k,WW]
  rfl
theorem da.Tl (c:dh) (s:da) (leaf:Nat):s.JQ c leaf=((((((((s.Ou 1).Gi c).iG c).zG c).z6 c 32).Ox leaf).1).AI c 0).1:=by
 unfold da.JQ sQ;rw [List.foldl_map];unfold sP;rw [List.foldl_append,List.foldl_append,B3];simp only [List.foldl_cons,List.foldl_nil,abR,abS,abT,abU,WW,abV]
theorem WY:∀ k:Nat,DL.z6 cA k=DL
 | 0=>rfl
 | k+1=>by
  unfold da.z6;rw [WC];exact WY k
theorem Tm:SY.JQ cA 0=Rc:=by
 rw [da.Tl,Wv,Ww,Wx,Wy];rw [show Uo.z6 cA 32=(Uo.AI cA 0).1.z6 cA 31 from by rw [da.z6],Wz];rw [show S1.z6 cA 31=(S1.AI cA 0).1.z6 cA 30 from by rw [da.z6],WA,WY,abE,abF]
theorem abX:uN 1 1 4 1 0 1=cA:=by
 unfold uN;rw [show within 1 1 3=1 by decide,show within 1 1 1=1 by decide,show within 4 1 16=4 by decide,show within 1 1 8=1 by decide,show within 0 0 6=0 by decide,show within 1 1 4=1 by decide]
 rfl
theorem Ii :
 Ct prog 21 #[] e R (fun v' L'=>v'=.bool true∧R=L'):=by
 refine a8 (args:=[]) func21 rfl ntmps21 results21 rfl ?_;refine wB ?_;refine aZ rfl rfl (wW _ e 1 1 4 1 0 1 zo zo zo zo zo zo) ?_;rintro _ _ ⟨rfl,rfl⟩;rw [abX]
 (repeat' first|refine Za ?_|refine Zb ?_|apply Zc|apply Zd|apply Ze|apply Zf|refine Zh ?_|refine Zi ?_|refine Zj ?_|refine Zl ?_|refine Zm ?_|refine Zn ?_|refine Zo ?_|refine Zq ?_|refine Zs ?_|refine Zt ?_|refine Zu ?_|refine ZM ?_|refine ZN ?_|refine ZO (fun _=>?_) fun _=>?_|refine ZP ?_|refine ZQ ?_|refine Z7 ?_|refine Z8 ?_|refine Ya ?_|refine Yb ?_|refine Yd ?_|refine Ye ?_|refine Yh fun _=>?_|refine Yz ?_|refine YA ?_|apply YC|apply YE|apply YF|refine YQ ?_|refine YR ?_|(apply O.df;exact rfl;exact zP;(first|(simp only [aC,Nat.add_zero,Nat.reduceAdd,List.drop_succ_cons,List.drop_zero,List.take_succ_cons,List.take_zero];done)|(simp only [aC,Nat.add_zero,Nat.reduceAdd,List.drop_succ_cons,List.drop_zero,List.take_succ_cons,List.take_zero];exact rfl));exact rfl;exact rfl))
 refine aZ rfl rfl (z5 _ e cA Ra) ?_;rintro _ _ ⟨w,rfl,rfl⟩;refine wB ?_;refine aZ rfl rfl (yB _ e 0 1 1 zo zo zo) ?_;rintro _ _ ⟨ad,k,rfl,rfl⟩;rw [show mR 0 1 1=bA from rfl]
 (repeat (refine wA ?_;intros))
 refine aZ rfl rfl (Ct.at zP (z4 _ e w cA 0 (pC cA) [] ⟨1,0,0,bA⟩ (.slice ad bA.length k) (bb zP) (by decide) (by decide) BZ.2.1 zo)) ?_;rintro _ _ ⟨rfl,X,⟨Ut,-,rfl⟩,rfl⟩;rw [abW,S3.1,S3.2]
 (repeat (refine wA ?_;intros))
 refine aZ rfl rfl (Ih _ e _ 0) ?_;rintro _ _ ⟨dW,k2,rfl,rfl⟩;have rI:=FQ 0 zo;refine aZ rfl rfl (Ct.at (show cR _ (dM w cA (0+1) SY ([]++Ut)) _ from zP) (NR _ e w cA 1 SY ([]++Ut) (.slice dW 38 k2) (sQ 0) (fun _ _=>True) (fun s x=>(s.FM cA x).1) (by rw [Dp];exact bb zP) (fun t ht=>by obtain ⟨h1,h2,-⟩:=rI t ht;rw [h1,h2];exact cE.nil _ _) (by decide) trivial ?_)) ?_
 ·intro R' t m s ev ht hm hb _;obtain ⟨h1,h2,h3,h4⟩:=rI t ht;refine (z4 R' e w cA m s ev t.1 t.2 hb h3 h4 (by rw [h1];exact aH _) hm).mono fun v' L' h=>?_
  obtain ⟨h5,X,⟨jQ,-,rfl⟩,rfl⟩:=h;exact ⟨⟨(_,_,_),h5⟩,ev++jQ,trivial,rfl⟩
 rintro _ _ ⟨Ny,-,rfl⟩;rw [show (sQ 0).foldl (fun s t=>(s.FM cA t.1).1) SY=SY.JQ cA 0 from rfl,Tm];refine wB ?_;refine FN (show cR _ (dM w cA _ Rc Ny) _ from zP) fun a M ha he=>?_
 refine aZ rfl rfl (Ct.at zP (nJ _ e w cA Rc a)) ?_;rintro _ _ ⟨rfl,rfl⟩;refine wB ?_;refine aZ rfl rfl (Ct.at zP (nJ _ e w cA Rc a)) ?_;rintro _ _ ⟨rfl,rfl⟩
 (repeat (refine wA ?_;intros))
 refine aZ rfl rfl (Ct.at zP (rS _ e a.gu a.ud iT (cZ cA) Rc.up)) ?_;rintro _ _ ⟨rfl,rfl⟩;rw [WD];refine wB ?_;exact aY R rfl zE ⟨rfl,rfl⟩
def da.Dq (s:da):da:={ s with ls:={ s.ls with last:=none },fs:=⟨s.fs.recs,(io s.ls.cF s.fs.recs).map fun b=>(b,rB)⟩ }
def eP.again (s:eP):eP:={ s with dC:=gY,some:=false }
def da.vX (s:da) (i:Nat):da:={ s with ws:=s.ws.set i (s.ws.getD i Jp).again }
def da.j9 (c:dh) (s:da) (to:Nat):da:=if to=0 then s.Dq else if to≤c.k then s.vX (to - 1) else s
theorem Lm {cF qs recs:List du} (h:(cF++qs).Perm recs) (hn:recs.Nodup):(cF++io cF recs).Perm recs:=by
 have hd:=h.nodup_iff.2 hn
 have h1:(recs.filter fun b=>decide (b∈cF)).Perm cF:=by
  refine (h.symm.filter _).trans ?_;rw [List.filter_append,List.filter_eq_self.2 fun a ha=>ay ha,List.filter_eq_nil_iff.2 fun a ha=>?_,aK];rw [decide_eq_true_iff];exact fun q=>(List.nodup_append.1 hd).2.2 a q a ha rfl
 have h2:=List.filter_append_perm (fun b=>decide (b∈cF)) recs;refine (List.Perm.append_right _ h1.symm).trans ?_
 have e:io cF recs=recs.filter fun b=>!decide (b∈cF):=by
  unfold io
  congr 1
  funext b
  by_cases hb:b∈cF<;>simp [hb]
 rw [e];exact h2
theorem da.Ln {c:dh} {m:Nat} {s:da} (h:s.ok c m) (hm:m<250):s.Dq.ok c (m+1):=by
 have hw:(io s.ls.cF s.fs.recs).length≤1000:=Nat.le_trans (List.length_filter_le _ _) h.fs.size;have ry:∀ b∈io s.ls.cF s.fs.recs,b∈s.fs.recs:=fun b hb=>(List.mem_filter.1 hb).1
 exact { h.next hm with
  ls:={ full:=h.ls.full,nodup:=h.ls.nodup,size:=h.ls.size,short:=h.ls.short,keys:=h.ls.keys,last:=fun x hx=>nomatch hx }
  last:=fun x hx=>nomatch hx
  fs:={
   size:=h.fs.size
   oh:=h.fs.oh
   BH:=by show ((io s.ls.cF s.fs.recs).map fun b=>(b,rB)).length≤1000;rw [ae];exact hw
   pf:=fun x hx=>by
    obtain ⟨b,hb,rfl⟩:=aE.1 hx;exact (h.fs.oh b (ry b hb)).2
   wQ:=fun x hx=>by
    obtain ⟨b,hb,rfl⟩:=aE.1 hx;exact ⟨by show -9223372036854775808≤rB;decide,by show rB≤1000000;decide⟩ }
  perm:=by
   show (s.ls.cF++(((io s.ls.cF s.fs.recs).map fun b=>(b,rB)).map (·.1))).Perm s.fs.recs
   rw [List.map_map,show ((fun x:du × Int=>x.1) ∘ fun b:du=>(b,rB))=id from rfl,List.map_id];exact Lm h.perm h.recs }
theorem eP.NS {s:eP} (h:s.ok):s.again.ok:=⟨h.right,h.At,h.pos,h.keys,re⟩
theorem da.Lo {c:dh} {m:Nat} {s:da} {i:Nat} (h:s.ok c m) (hm:m<250) (hi:i<c.k):(s.vX i).ok c (m+1):=by
 have Ac:i<s.ws.length:=by rw [h.wl];exact hi
 have hg:s.ws.getD i Jp=s.ws[i]'Ac:=by rw [ax,ab Ac];rfl
 have Re:=h.ws _ (aA Ac);unfold da.vX;rw [hg]
 generalize s.ws[i]'Ac=x at Re
 exact { h.next hm with
  wl:=by show (s.ws.set i x.again).length=c.k;rw [List.length_set];exact h.wl
  ws:=fun y hy=>by
   rcases List.mem_or_eq_of_mem_set hy with hy|rfl
   ·exact ⟨(h.ws y hy).1,Nat.le_succ_of_le (h.ws y hy).2.1,(h.ws y hy).2.2⟩
   ·exact ⟨eP.NS Re.1,Nat.le_succ_of_le Re.2.1,Re.2.2⟩
  iQ:=fun j y hy hs=>by
   have hy:(s.ws.set i x.again)[j]?=some y:=hy;rw [List.getElem?_set] at hy
   by_cases DC:i=j
   ·rw [aI DC,aI Ac] at hy
    cases hy
    exact absurd hs Bool.false_ne_true
   ·rw [aB DC] at hy
    exact h.iQ j y hy hs }
theorem PV (b:du) (n:Int):(dx b).j9 n=dx b:=by
 have h:(dx b).kept n=0:=by show (min (max n 0) ((b.length:Int) - b.length)).toNat=0;omega
 unfold eS.j9;rw [h]
 show (⟨b.take (b.length+0),b.length+0,1048576,0,false⟩:eS)=_
 rw [Nat.add_zero,aG (aS _)]
 rfl
def PW (w:Nat) (va:Value):cJ:=Ex fun q:dh × da × ee=>cK w (ee.cells { q.2.2 with va:=va } q.1 q.2.1) di (0,0)
theorem Js {w:Nat} {va:Value} {c:dh} {s:da} {a:ee} {R:List cJ} (h:a.va=va):cz (cK w (a.cells c s) di (0,0)::R) (PW w va::R):=by
 subst h;exact fu (f:=fun q:dh × da × ee=>cK w (ee.cells { q.2.2 with va:=a.va } q.1 q.2.1) di (0,0)) (c,s,a)
theorem PX {w:Nat} {va:Value} {L R:List cJ} (p:cR L (PW w va) R):Rd L ⟨w,0+8,none⟩ va :=
 Rd.dY p (Rd.ex fun q=>bP .zero rfl)
theorem sR (w:Nat) (c:dh) (m:Nat) (s s':da) (ev:List (Int × Int × Int × du)) (a:ee) (M:cJ) (ha:a.ok M w c m s) (he:pW a.es=ev) (k n wh:Int) (v:Value) (hv:v.oneCell'=true) (hm:m<250) (to:Nat) (Rf:to≤c.k+1)
 (gp op kp gd od cd:Nat) (gs:List Nat) (f:Nat) [cI prog f f] (us ws:List Value) (FR:a.va=.slice (some ⟨gp,op,none⟩) (c.k+2) kp) (hg4:gs.length≤10)
 (hp0:Rd [M] ⟨gp,op+to*2+0,none⟩ (.slice (some ⟨gd,od,none⟩) gs.length cd)) (Oj:Rd [M] ⟨gp,op+to*2+1,none⟩ (.func (.func f) us.toArray ws.toArray)) (hds:cE [M] 1 (.slice (some ⟨gd,od,none⟩) gs.length cd) gs.length (gs.map H7))
 (L1:List cJ→List cJ) (hx:∀ B X,cz (L1 (B::X)) (B::L1 X)) (hy:∀ B X,cz (B::L1 X) (L1 (B::X))) (lu:∀ X,cz (dP w c s a M X) (cK w (a.cells c s) di (0,0)::M::L1 X))
 (WZ:∀ X,∀ g∈gs,∃ st R',cR (L1 X) (de g st) R'∧st.ok∧∀ n,st.j9 n=st)
 (W0:∀ X,Ct prog f (us++[]++ws).toArray e (cK w (a.cells c s) di (0,0)::M::L1 X) (fun v' L'=>v'=.int .i64 0∧∃ a':ee,a'.ok M w c (m+1) s'∧pW a'.es=ev∧a'.va=a.va∧L'=dP w c s' a' M X)) :
 Ct prog 91 #[pt w,.agg (oB k n (to:Int) wh v).toArray] e (dP w c s a M R) (fun v' L'=>v'=.tuple #[.int .i64 0,.int .i64 0]∧∃ jQ,rF jQ s'∧L'=dM w c (m+1) s' (ev++jQ)::R):=by
 have Gd:=ha.st.xE.k;have Q5:=ha.ec;refine a8 (args:=[_,_]) func91 rfl ntmps91 results91 rfl ?_
 (repeat (refine wA ?_;intros))
 rename_i g3;refine W.fo (cj (show cz _ (cK g3 (oB k n (to:Int) wh v) eI (0,0)::dP w c s a M R) from zE) (bh (lu R))) ?_;refine bz (id:=1) [] mixed ?_
 (refine tF 0 ?_;refine tL 1 ?_;refine tk 2 (.bool false) rfl (cD.no (cD.lss rfl rfl) zn) ?_;refine tM 3 ?_;refine dt 4 _ rfl (ba rfl) ?_;refine dt 5 _ rfl (bp rfl zR) ?_;refine dt 6 _ rfl (bu rfl) ?_;refine dt 7 _ rfl (bn rfl) ?_;refine dt 8 _ rfl (ba rfl) ?_;refine dt 9 _ rfl (bp rfl zR) ?_)
 rw [FR]
 (refine dt 10 _ rfl (bM rfl) ?_;refine dt 11 (.bool false) rfl (cD.no (bR rfl rfl) zn) ?_;refine tk 12 _ rfl (bI rfl rfl) ?_)
 refine bf zK ?_;refine wB ?_;refine bz (id:=3) [] mixed ?_
 (refine tM 0 ?_;refine tN 1 ?_;refine tF 2 ?_;refine tL 3 ?_)
 rw [FR]
 (refine tF 4 ?_;refine tL 5 ?_)
 refine tk 6 _ rfl (bD (l:=c.k+2) rfl rfl zo) ?_
 (refine tF 7 ?_)
 refine tk 8 _ rfl (bp rfl (hp0.cL (cG zP))) ?_
 (refine tk 9 _ rfl (bM rfl) ?_;refine tM 10 ?_)
 refine bf zK ?_;refine wB ?_;refine bq (ι:=Nat) (fun j=>[(0,pt w),(3,pt g3),(30,.slice (some ⟨gd,od,none⟩) gs.length cd),(31,.int .i64 (gs.length:Int)),(32,.int .i64 (j:Int))]) (fun _=>cK g3 (oB k n (to:Int) wh v) eI (0,0)::cK w (a.cells c s) di (0,0)::M::L1 R) (fun j=>j≤gs.length) (fun j=>gs.length - j) 0 (aH _) zS zE ?_;intro j hj
 by_cases cO:j<gs.length
 ·refine wB ?_;refine bV rfl ((hds.elem (j:=j) (u:=H7 (gs[j]'cO)) (by rw [aL,ab cO];rfl)).cL (cG zP)) rfl ?_;obtain ⟨st,R',hp,j1,Gf⟩:=WZ R (gs[j]'cO) (aA cO)
  generalize gs[j]'cO=g at hp
  unfold H7;refine wB ?_;refine aZ rfl rfl (Ct.at (show cR _ (de g st) _ from .succ (.succ (.succ hp))) (EE _ e g st n j1)) ?_;rintro _ _ ⟨rfl,rfl⟩;rw [Gf n];refine wB ?_;refine bi (j+1) cO zo zS ?_;exact cj (show cz _ (cK g3 (oB k n (to:Int) wh v) eI (0,0)::cK w (a.cells c s) di (0,0)::M::de g st::R') from zE) (bh (bh (bh hp.back)))
 refine wB ?_
 have hE:cz (cK g3 (oB k n (to:Int) wh v) eI (0,0)::cK w (a.cells c s) di (0,0)::M::L1 R) [PW w (.slice (some ⟨gp,op,none⟩) (c.k+2) kp),cK g3 (oB k n (to:Int) wh v) eI (0,0),M] :=
  cj (show cz _ (cK w (a.cells c s) di (0,0)::cK g3 (oB k n (to:Int) wh v) eI (0,0)::M::[]) from zE) (Js FR)
 refine bk (id:=8) [10] [PW w (.slice (some ⟨gp,op,none⟩) (c.k+2) kp),cK g3 (oB k n (to:Int) wh v) eI (0,0),M] mixed ?_;refine bG 0 _ rfl zK hE (bu rfl) rfl ?_;refine bG 1 _ rfl zK hE (bn rfl) rfl ?_;refine bG 2 _ rfl zK hE (ba rfl) rfl ?_;refine bG 3 _ rfl zK hE (bp rfl (PX .zero)) rfl ?_;refine bG 4 _ rfl zK hE (ba rfl) rfl ?_;refine bG 5 _ rfl zK hE (bp rfl zR) rfl ?_;refine bG 6 _ rfl zK hE (bD (l:=c.k+2) rfl rfl zo) rfl ?_;refine bG 7 _ rfl zK hE (ba rfl) rfl ?_;refine bG 8 _ rfl zK hE (bp rfl (Oj.cL (cG zP))) rfl ?_;refine A.fo (cj (show cz _ (cK w (a.cells c s) di (0,0)::M::cK g3 (oB k n (to:Int) wh v) eI (0,0)::L1 R) from zE) (bh (bh (hy _ R)))) ?_;refine tO 9 ?_;refine Do.gB (us:=us) (ws:=ws) (vs:=[]) rfl rfl rfl (W0 _) ?_;rintro _ _ ⟨rfl,a1,pT,he1,abY,rfl⟩;refine ⟨fun _=>cj (show cz _ (cK w (a1.cells c s') di (0,0)::cK g3 (oB k n (to:Int) wh v) eI (0,0)::M::[]) from zE) (Js (abY.trans FR)),?_⟩
 ((refine tO 10 ?_;refine dV (bj rfl) ?_))
 refine bf zK ?_
 have qi:a1.es.length=a.es.length:=by
  have h:=congrArg List.length (he1.trans he.symm)
  rwa [ae,ae] at h
 refine wB ?_;refine aZ rfl rfl (Ct.AR zP zP (ir _ e w c s' a1 7 (to:Int) 0 nY [] rfl zo)) ?_;rintro _ _ ⟨rfl,ve,rfl⟩;have er:=pT.seen (x:=⟨7,(to:Int),0,nY,[]⟩) ve (cE.nil _ 1) zo (aH _);have he2:pW (a1.es++[⟨7,(to:Int),0,nY,[]⟩])=ev++[(7,(to:Int),0,[])]:=by rw [pW,ah,← pW,he1];rfl
 have Gh:rF [(7,(to:Int),0,[])] s':=fun x hx=>by
  rw [an.1 hx];exact ⟨(by decide:(7:Int)≠3),.inl rfl⟩
 have pH:(a1.es++[(⟨7,(to:Int),0,nY,[]⟩:Ev)]).length=a1.es.length+1:=by rw [aa];rfl
 by_cases h0:to=0
 ·subst h0;refine wB ?_;refine O.fo (show cz _ (dP w c s' { a1 with ve:=ve,es:=a1.es++[(⟨7,((0:Nat):Int),0,nY,[]⟩:Ev)] } M (cK g3 (oB k n ((0:Nat):Int) wh v) eI (0,0)::R)) from zE) ?_
  (repeat' first|refine Za ?_|refine Zb ?_|apply Zc|apply Zd|apply Ze|apply Zf|refine Zg ?_|refine Zh ?_|refine Zi ?_|refine Zj ?_|refine Zk ?_|refine Zl ?_|refine Zm ?_|refine Zn ?_|refine Zo ?_|refine Zq ?_|refine Zs ?_|refine Zt ?_|refine ZA ?_|refine ZB ?_|refine ZC (fun _=>?_) fun _=>?_|refine ZJ ?_|refine ZK ?_|refine ZM ?_|refine ZN ?_|refine ZO (fun _=>?_) fun _=>?_|refine ZS ?_|refine Z7 ?_|refine Z8 ?_|refine Yg fun _=>?_|refine Ym ?_|refine Yw ?_|refine Yx ?_|refine Yy ?_|refine Yz ?_|refine YA ?_|apply YB|apply YC|apply YD|apply YE|apply YF|apply YG|apply YH|apply YI|apply YJ|refine YK ?_|(apply O.df;exact rfl;exact zP;(first|(simp only [aC,Nat.add_zero,Nat.reduceAdd,List.drop_succ_cons,List.drop_zero,List.take_succ_cons,List.take_zero];done)|(simp only [aC,Nat.add_zero,Nat.reduceAdd,List.drop_succ_cons,List.drop_zero,List.take_succ_cons,List.take_zero];exact rfl));exact rfl;exact rfl))
  refine aZ rfl rfl (zC _ e w c (m+1) s' _ M er zd) ?_;rintro _ _ ⟨rfl,a2,M2,Ny,nI,he3,afZ,abZ,rfl⟩
  have QH:a2.es.length≤a1.es.length+1+250:=by
   have h:=congrArg List.length he3;rw [aa,ae,ae] at h
   dsimp only at h
   omega
  refine wB ?_;refine aZ rfl rfl (pA _ e w c (m+1) s' a2 M2 nI 0 zo zo) ?_;rintro _ _ ⟨rfl,a3,M3,ev3,ab0,he4,af2,ab1,rfl⟩;refine wB ?_;refine aY (dM w c (m+1) s' (ev++([(7,((0:Nat):Int),0,[])]++Ny++ev3))::R) rfl (cj (show cz _ (dP w c s' a3 M3 R) from zE) (dT ab0 ?_)) ⟨rfl,_,?_,rfl⟩
  ·show pW a3.es=_
   rw [he4,he3];dsimp only;rw [he2];simp only [aM]
  ·intro x hx;rcases aJ.1 hx with hx|hx
   ·rcases aJ.1 hx with hx|hx
    ·exact Gh x hx
    ·exact abZ x hx
   ·exact ab1 x hx
 ·refine wB ?_;refine aY (dM w c (m+1) s' (ev++[(7,(to:Int),0,[])])::R) rfl (cj (show cz _ (dP w c s' { a1 with ve:=ve,es:=a1.es++[(⟨7,(to:Int),0,nY,[]⟩:Ev)] } M R) from zE) (dT er he2)) ⟨rfl,_,Gh,rfl⟩
theorem FT (n v f:Int):(mR n v f).length≤200:=by
 obtain ⟨h1,h2⟩:=mQ n v f
 show (lO (me n v f)).length≤200
 rw [wk];have:=h1.1.2.1;have:=h1.2.2.1;have:=h1.2.2.2
 omega
theorem Lq {g d k:Nat} {seed:du} {s:fM} {R:List cJ}:cz (cU g d k seed s::R) (de d (dx s.jb)::de k (eo s.keys 1048576)::R) :=
 jE fun a=>jE fun M=>cj (cT (M:=Pu (a.ok M seed s)::gX g d k s a M []) (L:=R)) (rW fun _=>zE)
theorem PY {g d gl:Nat} {c:m6} {s:pe} {R:List cJ}:cz (eg g d gl c s::R) (de d (dx (eV s.recs))::R) :=
 jE fun a=>jE fun M=>cj (cT (M:=Pu (a.ok M c s)::DG g d gl c s a M []) (L:=R)) (rW fun _=>zE)
theorem Lr {g d k i:Nat} {seed log:du} {s:eP} {R:List cJ}:cz (nD g d k i seed log s::R) (de d (dx s.jb)::de k (eo s.keys 1048576)::R) :=
 jE fun a=>jE fun M=>cj (cT (M:=Pu (a.ok M seed log s)::iJ g d k i s a M []) (L:=R)) (rW fun _=>zE)
theorem NT {g d:Nat} {name:du} {p:jG} {s:m8} {R:List cJ}:cz (kh g d name p s::R) (de d (dx (eV s.recs))::R) :=
 jE fun a=>jE fun M=>cj (cT (M:=Pu (a.ok M name p s)::qH g d name p s a M []) (L:=R)) (rW fun _=>zE)
theorem PZ (n:Nat) (m:Int):(eo n 1048576).j9 m=eo n 1048576:=by
 have h:(eo n 1048576).kept m=0:=by
  show (min (max m 0) (((kl n).length:Int) - (9*n:Nat))).toNat=0
  rw [oZ];omega
 unfold eS.j9;rw [h]
 show (⟨(kl n).take (9*n+0),9*n+0,1048576,0,false⟩:eS)=_
 rw [Nat.add_zero,aG (by rw [oZ];exact aS _)]
 rfl
theorem Dr {X R':List cJ} {g:Nat} {b:du} (p:cR X (de g (dx b)) R') (h:b.length≤1048576):∃ st R',cR X (de g st) R'∧st.ok∧∀ n,st.j9 n=st:=⟨_,_,p,EQ h,PV b⟩
theorem NU {X R':List cJ} {g n:Nat} (p:cR X (de g (eo n 1048576)) R') (h:n≤16):∃ st R',cR X (de g st) R'∧st.ok∧∀ n,st.j9 n=st:=⟨_,_,p,uk zo zo,PZ n⟩
end Go.Proofs
namespace Go.Proofs
attribute [local irreducible] Bs.cD Bs.Do Bs.O Bs.W Bs.Fin Bs.A Bs.Ct Bs.cE Bs.Rd Bs.Sat Bs.cK Bs.Ob Bs.dE Bs.View Bs.cz Bs.Ex Bs.dI Bs.Pu Bs.eY Bs.dN Bs.dZ
open Go.Bs
open Tryz
variable (R:List cJ) (e:World)
theorem eP.NV {s:eP} (h:s.ok) (hl:s.recs.length≤1000):s.jb.length≤1048576:=by
 have xj:=kD (l:=s.recs.map recC) (n:=36) (fun r hr=>by
  obtain ⟨c,hc,rfl⟩:=aE.1 hr;rw [jp (h.right c hc)];exact aS _)
 rw [ae] at xj
 show (eV (s.recs.map recC)).length≤_
 omega
theorem P0 {a:ee} {M:cJ} {w:Nat} {c:dh} {m:Nat} {s:da} (ha:a.ok M w c m s) {L:List cJ} (f:cz L [M]) {hp:dj} (hs:dN L hp):∃ (gp op kp:Nat) (vl vu:Value) (vs:List (Value × Nat × Nat)),a.va=.slice (some ⟨gp,op,none⟩) (c.k+2) kp∧vs.length=c.k∧a.wx.length=c.k ∧
 (∀ j p i u,(AL w vl vs vu)[j]?=some p→(AK p)[i]?=some u→Rd [M] ⟨gp,op+j*2+i,none⟩ u) ∧
 cE [M] 1 vl 3 [ptr a.ld,ptr a.lk,ptr a.xq]∧cE [M] 1 vu 1 [ptr a.ud] ∧
 (∀ i (h:i<vs.length) (h2:i<a.wx.length),cE [M] 1 (vs[i]).1 2 [ptr (a.wx[i]).d,ptr (a.wx[i]).k]∧Rd [M] ⟨(vs[i]).2.1,0,none⟩ (ptr w)∧Rd [M] ⟨(vs[i]).2.2,0,none⟩ (.int .i64 (i:Int))):=by
 obtain ⟨vl,vu,vs,h1,h2,h3,h4,h5,h6⟩:=ha.all.all;have hk:=ha.st.xE.k;have wH:cE [M] 2 a.va (c.k+2) ((AL w vl vs vu).flatMap AK):=by rw [sO];exact h3
 obtain ⟨⟨ad,kp,FR,-,-,-,h7⟩,-⟩:=((wH.cL f).shape zo) hp hs;rcases h7 with h7|⟨gp,op,rfl⟩
 ·omega
 refine ⟨gp,op,kp,vl,vu,vs,FR,h1,h2,fun j p i u hj hi=>?_,h4,h5,h6⟩;rw [FR] at wH
 exact cE.elemOf wH zZ hj hi
theorem ee.ok.log {a:ee} {M:cJ} {w:Nat} {c:dh} {m:Nat} {s:da} (h:a.ok M w c m s) (gl gf:Nat):ee.ok { a with gl:=gl,gf:=gf } M w c m s:={ h with all:=⟨h.all.all⟩ }
theorem ee.ok.upd {a:ee} {M:cJ} {w:Nat} {c:dh} {m:Nat} {s:da} (h:a.ok M w c m s) (gu:Nat):ee.ok { a with gu:=gu } M w c m s:={ h with all:=⟨h.all.all⟩ }
theorem ee.ok.fY {a:ee} {M:cJ} {w:Nat} {c:dh} {m:Nat} {s:da} (h:a.ok M w c m s) (i g:Nat) (hi:i<a.wx.length):ee.ok { a with wx:=a.wx.set i ⟨g,(a.wx[i]'hi).d,(a.wx[i]'hi).k⟩ } M w c m s:=by
 obtain ⟨vl,vu,vs,h1,h2,h3,h4,h5,h6⟩:=h.all.all;refine { h with all:=⟨⟨vl,vu,vs,h1,by dsimp only;rw [List.length_set];exact h2,h3,h4,h5,fun j hj Gb=>?_⟩⟩ };have hj3:j<a.wx.length:=by dsimp only at Gb;rwa [List.length_set] at Gb
 obtain ⟨q1,q2,q3⟩:=h6 j hj hj3;refine ⟨?_,q2,q3⟩;dsimp only;rw [List.getElem_set]
 split
 ·rename_i DC;subst DC;exact q1
 ·exact q1
theorem FU (w:Nat) (c:dh) (m:Nat) (s:da) (ev:List (Int × Int × Int × du)) (k n wh:Int) (v:Value) (hv:v.oneCell'=true) (hm:m<250) (to:Nat) (Rf:to≤c.k+1) :
 Ct prog 91 #[pt w,.agg (oB k n (to:Int) wh v).toArray] e (dM w c m s ev::R) (fun v' L'=>v'=.tuple #[.int .i64 0,.int .i64 0]∧∃ jQ,rF jQ (s.j9 c to)∧L'=dM w c (m+1) (s.j9 c to) (ev++jQ)::R):=by
 refine gZ fun a M ha he=>?_
 have eK:=ha.st;have Gd:=eK.xE.k;refine a7 (fun hp hs=>P0 ha (show cz (dP w c s a M R) [M] from cG zP) hs) ?_;rintro ⟨gp,op,kp,vl,vu,vs,FR,Wr,hwx,vW,Be,Up,BX⟩;have Cm:=ha.wV.log;have Ff:=ha.wV;have hli:=fM.Hu eK.ls;have ln:=eK.short;have DF:=kD (l:=s.fs.recs) (n:=200) fun x hx=>(eK.fs.oh x hx).2
 have VE:=eK.DH;have LG:=kD (l:=s.up.recs) (n:=200) eK.up.short;have gF:=eK.up.size
 by_cases h0:to=0
 ·subst h0;have oF:s.j9 c 0=s.Dq:=aI rfl;rw [oF];have er:=ha.to (da.Ln eK hm) (Nat.le_succ m) rfl rfl;refine a7 (fun hp hs=>((Be.cL (show cz (dP w c s a M R) [M] from cG zP)).shape zo) hp hs) ?_;rintro ⟨⟨ad,cd,ab2,-,-,-,h7⟩,-⟩;rcases h7 with h7|⟨gd,od,rfl⟩
  ·omega
  subst ab2;refine sR R e w c m s s.Dq ev a M ha he k n wh v hv hm 0 zo gp op kp gd od cd [a.ld,a.lk,a.xq] 160 [ptr w] [] FR (by simp) (vW 0 _ 0 _ rfl rfl) (vW 0 _ 1 _ rfl rfl) Be
   (fun X=>de a.ld (dx s.ls.jb)::de a.lk (eo s.ls.keys 1048576)::de a.xq (dx (eV s.fs.recs))::js a.ve a.es::iC fH a.mr a.kr::iC fH a.ml a.kl::iC ig a.mc (sM a.kc)::dE pY 1 a.lY a.wx.length (a.wx.map jJ)::dI (ke 0 a.wx s.ws)::lh a.mE (cZ c) c.retry s.n s.fd::kh a.gu a.ud iT (cZ c) s.up::jO a.gm dO s.mo::Net a.gn 32 a.nl::X)
   (fun B X=>zE) (fun B X=>zE) (fun X=>?_) (fun X g hg=>?_) (fun X=>?_)
  ·refine cj (show cz _ (cU a.gl a.ld a.lk (cQ 0) s.ls::eg a.gf a.xq a.gl c.f s.fs::cK w (a.cells c s) di (0,0)::M::js a.ve a.es::iC fH a.mr a.kr::iC fH a.ml a.kl::iC ig a.mc (sM a.kc)::dE pY 1 a.lY a.wx.length (a.wx.map jJ)::dI (ke 0 a.wx s.ws)::lh a.mE (cZ c) c.retry s.n s.fd::kh a.gu a.ud iT (cZ c) s.up::jO a.gm dO s.mo::Net a.gn 32 a.nl::X) from zE) (cj Lq (cj (bh (bh PY)) zE))
  ·simp only [aQ,aP,or_false] at hg
   rcases hg with rfl|rfl|rfl
   ·exact Dr zP zo
   ·exact NU zP eK.ls.keys
   ·exact Dr zP zo
  ·rw [show a.cells c s=pB c (.slice (some ⟨gp,op,none⟩) (c.k+2) kp) (ptr a.gl) (ptr a.gf) a.lY (ptr a.mE) (ptr a.gu) (ptr a.gm) (ptr a.gn) a.pV a.ij (.int .i64 (s.time:Int)) a.ve (.map (some a.mr)) (.map (some a.ml)) (.int .i64 (s.sv.size:Int)) a.vr (.bool s.signed.isSome) (.map (some a.mc)) by rw [← FR]];refine Ct.LN (Dm zP zP zP zP (uK _ e w c eK.xE (ptr a.gl) (ptr a.gf) a.lY (ptr a.mE) (ptr a.gu) (ptr a.gm) (ptr a.gn) a.pV a.ij (.int .i64 (s.time:Int)) a.ve (.map (some a.mr)) (.map (some a.ml)) (.int .i64 (s.sv.size:Int)) a.vr (.bool s.signed.isSome) (.map (some a.mc)) gp op (c.k+2) kp gd od cd a.ld a.lk a.xq s.ls s.fs.recs zo ((vW 0 _ 0 _ rfl rfl).cL (cG zP)) ((Be.elem (j:=0) rfl).cL (cG zP)) ((Be.elem (j:=1) rfl).cL (cG zP)) ((Be.elem (j:=2) rfl).cL (cG zP)) eK.ls zo eK.fs.oh)) ?_;rintro _ _ ⟨rfl,gl,gf,rfl⟩;refine ⟨_,?_,rfl,{ a with gl:=gl,gf:=gf },er.log gl gf,he,rfl,rfl⟩;rw [← FR];exact zE
 ·by_cases hu:to=c.k+1
  ·subst hu;have oF:s.j9 c (c.k+1)=s:=by unfold da.j9;rw [aB zo,aB zo]
   rw [oF];have er:=ha.to (eK.next hm) (Nat.le_succ m) rfl rfl;refine a7 (fun hp hs=>((Up.cL (show cz (dP w c s a M R) [M] from cG zP)).shape zo) hp hs) ?_;rintro ⟨⟨ad,cd,NQ,-,-,-,h7⟩,-⟩;rcases h7 with h7|⟨gd,od,rfl⟩
   ·omega
   subst NQ;have u6:∀ i u,(AK (.slice (some ⟨gd,od,none⟩) 1 cd,FI w))[i]?=some u→Rd [M] ⟨gp,op+(c.k+1)*2+i,none⟩ u:=fun i u hi=>vW (c.k+1) _ i u (by rw [← Wr];exact FK) hi
   refine sR R e w c m s s ev a M ha he k n wh v hv hm (c.k+1) zo gp op kp gd od cd [a.ud] 163 [ptr w] [] FR (by simp) (u6 0 _ rfl) (u6 1 _ rfl) Up
    (fun X=>de a.ud (dx (eV s.up.recs))::js a.ve a.es::iC fH a.mr a.kr::iC fH a.ml a.kl::iC ig a.mc (sM a.kc)::eg a.gf a.xq a.gl c.f s.fs::cU a.gl a.ld a.lk (cQ 0) s.ls::dE pY 1 a.lY a.wx.length (a.wx.map jJ)::dI (ke 0 a.wx s.ws)::lh a.mE (cZ c) c.retry s.n s.fd::jO a.gm dO s.mo::Net a.gn 32 a.nl::X)
    (fun B X=>zE) (fun B X=>zE) (fun X=>?_) (fun X g hg=>?_) (fun X=>?_)
   ·refine cj (show cz _ (kh a.gu a.ud iT (cZ c) s.up::cK w (a.cells c s) di (0,0)::M::js a.ve a.es::iC fH a.mr a.kr::iC fH a.ml a.kl::iC ig a.mc (sM a.kc)::eg a.gf a.xq a.gl c.f s.fs::cU a.gl a.ld a.lk (cQ 0) s.ls::dE pY 1 a.lY a.wx.length (a.wx.map jJ)::dI (ke 0 a.wx s.ws)::lh a.mE (cZ c) c.retry s.n s.fd::jO a.gm dO s.mo::Net a.gn 32 a.nl::X) from zE) (cj NT zE)
   ·rw [an.1 hg];exact Dr zP zo
   ·rw [show a.cells c s=pB c (.slice (some ⟨gp,op,none⟩) (c.k+2) kp) (ptr a.gl) (ptr a.gf) a.lY (ptr a.mE) (ptr a.gu) (ptr a.gm) (ptr a.gn) a.pV a.ij (.int .i64 (s.time:Int)) a.ve (.map (some a.mr)) (.map (some a.ml)) (.int .i64 (s.sv.size:Int)) a.vr (.bool s.signed.isSome) (.map (some a.mc)) by rw [← FR]];refine Ct.LN (Ct.AR zP zP (oD _ e w c eK.xE (ptr a.gl) (ptr a.gf) a.lY (ptr a.mE) (ptr a.gu) (ptr a.gm) (ptr a.gn) a.pV a.ij (.int .i64 (s.time:Int)) a.ve (.map (some a.mr)) (.map (some a.ml)) (.int .i64 (s.sv.size:Int)) a.vr (.bool s.signed.isSome) (.map (some a.mc)) gp op kp gd od cd a.ud s.up ((u6 0 _ rfl).cL (cG zP)) ((Up.elem (j:=0) rfl).cL (cG zP)) (Ff.cL (cG zP)) eK.up)) ?_;rintro _ _ ⟨rfl,gu,rfl⟩;refine ⟨_,?_,rfl,{ a with gu:=gu },er.upd gu,he,rfl,rfl⟩;rw [← FR];exact zE
  ·obtain ⟨i,rfl⟩:∃ i,to=i+1:=⟨to - 1,by omega⟩
   have vB:i<c.k:=by omega
   have Tn:i<a.wx.length:=by omega
   have Nj:i<s.ws.length:=by rw [eK.wl];exact vB
   have XV:i<vs.length:=by omega
   have oF:s.j9 c (i+1)=s.vX i:=by unfold da.j9;rw [aB zo,aI zo,Nat.add_sub_cancel]
   rw [oF];have er:=(ha.to (da.Lo eK hm vB) (Nat.le_succ m) rfl rfl).fY;obtain ⟨QN,QJ,hv3⟩:=BX i XV Tn;have u6:∀ j u,(AK (NN (vs[i]'XV)))[j]?=some u→Rd [M] ⟨gp,op+(i+1)*2+j,none⟩ u:=fun j u hj=>vW (i+1) _ j u (FJ XV) hj
   have SS:a.wx[i]?=some (a.wx[i]'Tn):=ab Tn;have vL:s.ws[i]?=some (s.ws[i]'Nj):=ab Nj;have tg:s.ws.getD i Jp=s.ws[i]'Nj:=by rw [ax,vL];rfl
   have Re:=eK.ws _ (aA Nj);have My:=eK.steps;have hcw:s.vX i={ s with ws:=s.ws.set i (s.ws[i]'Nj).again }:=by unfold da.vX;rw [tg]
   rw [hcw] at er ⊢
   have nI:=fun g=>er i g Tn
   generalize a.wx[i]'Tn=x at *
   generalize s.ws[i]'Nj=y at *
   generalize vs[i]'XV=q at *
   obtain ⟨v1,p1,p2⟩:=q;dsimp only at QN QJ hv3
   unfold NN AK at u6
   dsimp only at u6
   have VP:=eP.NV Re.1 zo;refine a7 (fun hp hs=>((QN.cL (show cz (dP w c s a M R) [M] from cG zP)).shape zo) hp hs) ?_;rintro ⟨⟨ad,cd,ab3,-,-,-,h7⟩,-⟩;rcases h7 with h7|⟨gd,od,rfl⟩
   ·omega
   subst ab3;refine a7 (fP (show cR (dP w c s a M R) (dE pY 1 a.lY a.wx.length (a.wx.map jJ)) _ from zP)) ?_;rintro ⟨⟨ad,cw,To,-,-,h7⟩,-⟩;rcases h7 with ⟨-,-,h7⟩|⟨gw,rfl⟩
   ·omega
   refine sR R e w c m s { s with ws:=s.ws.set i y.again } ev a M ha he k n wh v hv hm (i+1) zo gp op kp gd od cd [x.d,x.k] 161 [] [ptr p1,ptr p2] FR (by simp) (u6 0 _ rfl) (u6 1 _ rfl) QN
    (fun X=>de x.d (dx y.jb)::de x.k (eo y.keys 1048576)::js a.ve a.es::iC fH a.mr a.kr::iC fH a.ml a.kl::iC ig a.mc (sM a.kc)::eg a.gf a.xq a.gl c.f s.fs::cU a.gl a.ld a.lk (cQ 0) s.ls::dE pY 1 a.lY a.wx.length (a.wx.map jJ)::dI (oC 0 i a.wx s.ws)::lh a.mE (cZ c) c.retry s.n s.fd::kh a.gu a.ud iT (cZ c) s.up::jO a.gm dO s.mo::Net a.gn 32 a.nl::X)
    (fun B X=>zE) (fun B X=>zE) (fun X=>?_) (fun X g hg=>?_) (fun X=>?_)
   ·refine cj (show cz _ (dI (ke 0 a.wx s.ws)::cK w (a.cells c s) di (0,0)::M::js a.ve a.es::iC fH a.mr a.kr::iC fH a.ml a.kl::iC ig a.mc (sM a.kc)::eg a.gf a.xq a.gl c.f s.fs::cU a.gl a.ld a.lk (cQ 0) s.ls::dE pY 1 a.lY a.wx.length (a.wx.map jJ)::lh a.mE (cZ c) c.retry s.n s.fd::kh a.gu a.ud iT (cZ c) s.up::jO a.gm dO s.mo::Net a.gn 32 a.nl::X) from zE) (cj (FA SS vL) (cj Lr zE))
   ·simp only [aQ,aP,or_false] at hg
    rcases hg with rfl|rfl
    ·exact Dr zP VP
    ·exact NU zP Re.1.keys
   ·rw [show a.cells c s=pB c (.slice (some ⟨gp,op,none⟩) (c.k+2) kp) (ptr a.gl) (ptr a.gf) (.slice (some ⟨gw,0,none⟩) a.wx.length cw) (ptr a.mE) (ptr a.gu) (ptr a.gm) (ptr a.gn) a.pV a.ij (.int .i64 (s.time:Int)) a.ve (.map (some a.mr)) (.map (some a.ml)) (.int .i64 (s.sv.size:Int)) a.vr (.bool s.signed.isSome) (.map (some a.mc)) by rw [← FR,← To],To];refine Ct.LN (Dm zP zP zP zP (uL _ e w c (ptr a.gl) (ptr a.gf) (ptr a.mE) (ptr a.gu) (ptr a.gm) (ptr a.gn) a.pV a.ij (.int .i64 (s.time:Int)) a.ve (.map (some a.mr)) (.map (some a.ml)) (.int .i64 (s.sv.size:Int)) a.vr (.bool s.signed.isSome) (.map (some a.mc)) gp op (c.k+2) kp gd od cd x.d x.k i gw a.wx.length cw p1 p2 (a.wx.map jJ) y zo zo Tn (by rw [ae]) (QJ.cL (cG zP)) (hv3.cL (cG zP)) ((u6 0 _ rfl).cL (cG zP)) ((QN.elem (j:=0) rfl).cL (cG zP)) ((QN.elem (j:=1) rfl).cL (cG zP)) (Cm.cL (cG zP)) Re.1 zo)) ?_;rintro _ _ ⟨rfl,g,rfl⟩;refine ⟨_,?_,rfl,{ a with wx:=a.wx.set i ⟨g,x.d,x.k⟩ },nI g,he,rfl,rfl⟩;rw [← FR,← To];refine cj (show cz _ (vT i ⟨g,x.d,x.k⟩ y.again::dI (oC 0 i a.wx s.ws)::cK w (a.cells c s) di (0,0)::M::js a.ve a.es::iC fH a.mr a.kr::iC fH a.ml a.kl::iC ig a.mc (sM a.kc)::eg a.gf a.xq a.gl c.f s.fs::cU a.gl a.ld a.lk (cQ 0) s.ls::dE pY 1 a.lY a.wx.length ((a.wx.map jJ).set i (ptr g))::lh a.mE (cZ c) c.retry s.n s.fd::kh a.gu a.ud iT (cZ c) s.up::jO a.gm dO s.mo::Net a.gn 32 a.nl::X) from zE) (cj (Dg Tn Nj) ?_)
    dsimp only [dP];rw [List.length_set,List.map_set];exact zE
end Go.Proofs
namespace Go.Proofs
open Go.Bs
theorem Tp {L L':List cJ} {h:dj} (f:cz L L') (x:dN L h):dN L' h:=f h x
attribute [local irreducible] Bs.cD Bs.Do Bs.O Bs.W Bs.Fin Bs.A Bs.Ct Bs.cE Bs.Rd Bs.Sat Bs.cK Bs.Ob Bs.dE Bs.View Bs.cz Bs.Ex Bs.dI Bs.Pu Bs.eY Bs.dN Bs.dZ
end Go.Proofs
namespace Go.Proofs
attribute [local irreducible] Bs.cD Bs.Do Bs.O Bs.W Bs.Fin Bs.A Bs.Ct Bs.cE Bs.Rd Bs.Sat Bs.cK Bs.Ob Bs.dE Bs.View Bs.cz Bs.Ex Bs.dI Bs.Pu Bs.eY Bs.dN Bs.dZ
open Go.Bs
open Tryz
theorem FV (R:List cJ) (e:World) (wu:Option Addr) (cv:Nat) (g:Nat) (log:du) (s:H6) (vr vp vq:Value) (x:jV) (hx:fj R vr vp vq x) (KV:x.fits) (hv:x.ii log) (hs:x.dc.size≤s.cF.length) (rI:x.dc.root=ea ((s.cF.take x.dc.size).map cY)) :
 Ct prog 39 #[pt g,.agg (dS x vr vp vq).toArray,.slice wu 0 cv] e (jO g log s::R) (fun v' L'=>v'=.int .i64 0∧L'=jO g log s::R):=by
 refine C9 fun a M ha=>?_
 have hl:a.ts.length=s.cF.length:=by have:=congrArg List.length ha.cF;rwa [ae] at this
 have hu:a.us.length=s.cF.length:=by have:=congrArg List.length ha.leaves;rwa [ae,ae] at this
 have ln:=ha.st.size;have mU:cz (xp g s a M R) R:=zE;refine a7 (cn (hx.root.cL mU)) fun o5=>?_
 refine a7 (hx.sig.cL mU).parts.one fun o6=>?_
 refine a7 (hx.sig.cL mU).path.one fun o7=>?_
 refine a7 (Hx (show cR (xp g s a M R) (cV (.slice a.al a.us.length a.cl) a.us) _ from zP)) ?_;rintro ⟨lM,c',lU,hc3,hc4,-⟩
 cases lU
 refine a8 (args:=[_,_,_]) func39 rfl ntmps39 results39 rfl ?_
 (repeat' first|refine Zb ?_|apply Zc|apply Zd|apply Ze|apply Zf|refine Zh ?_|refine Yg fun _=>?_|refine Yh fun _=>?_|apply YB|refine YR ?_|(apply O.df;exact rfl;exact zP;(first|(simp only [aC,Nat.add_zero,Nat.reduceAdd,List.drop_succ_cons,List.drop_zero,List.take_succ_cons,List.take_zero];done)|(simp only [aC,Nat.add_zero,Nat.reduceAdd,List.drop_succ_cons,List.drop_zero,List.take_succ_cons,List.take_zero];exact rfl));exact rfl;exact rfl))
 rename_i g4 g7;refine bz (id:=2) [] mixed ?_
 (refine tM 0 ?_;refine tN 1 ?_;refine tF 2 ?_;refine tL 3 ?_;refine tJ 4 ?_)
 refine tO 5 ?_;refine bg rfl rfl (kz _ e a.vl vr vp vq log x (ha.log.cL (cG zP)) (hx.cL zE) KV.1) ?_;rintro _ _ ⟨rfl,rfl⟩;refine ⟨fun _=>zE,A.fS zE ?_⟩;rw [ay hv]
 (refine tk 6 _ rfl (cD.jZ rfl) ?_;refine tA 7 ?_)
 refine bf zK ?_;refine wB ?_;refine bz (id:=4) [] mixed ?_
 (refine tF 0 ?_;refine tL 1 ?_;refine tM 2 ?_;refine tN 3 ?_;refine tF 4 ?_;refine tL 5 ?_;refine tk 6 _ rfl (bM rfl) ?_;refine tk 7 (.bool true) rfl (cD.iQ (cD.leq rfl rfl) zy) ?_;refine tM 8 ?_;refine dt 9 _ rfl (bu rfl) ?_;refine dt 10 _ rfl (bM rfl) ?_;refine dt 11 (.bool false) rfl (cD.no (cD.gtr rfl rfl) zn) ?_;refine tk 12 _ rfl (bK rfl rfl) ?_;refine tA 13 ?_)
 refine bf zK ?_;refine wB ?_;refine bz (id:=6) [] mixed ?_
 (refine tF 0 ?_;refine tL 1 ?_;refine tM 2 ?_;refine tN 3 ?_;refine tF 4 ?_;refine tL 5 ?_;refine tk 6 _ rfl (bM rfl) ?_;refine tk 7 (.bool true) rfl (cD.iQ (cD.leq rfl rfl) zy) ?_;refine tM 8 ?_;refine dt 9 _ rfl (bu rfl) ?_;refine dt 10 _ rfl (bn rfl) ?_;refine dt 11 _ rfl (ba rfl) ?_;refine dt 12 _ rfl (bp rfl zR) ?_;refine dt 13 _ rfl (ba rfl) ?_;refine dt 14 _ rfl (bp rfl zR) ?_;refine dt 15 _ rfl (cD.iV rfl rfl zo zo) ?_;refine dt 17 _ rfl (ba rfl) ?_;refine dt 18 _ rfl (bp rfl zR) ?_)
 rw [Int.toNat_natCast];have hk:x.dc.size≤a.us.length:=by omega
 have hlen:(a.us.take x.dc.size).length=x.dc.size:=by rw [aF];omega
 have jN:∀ y∈a.us,y.2.length=32:=fun y hy=>by
  have:y.2∈s.cF.map cY:=by rw [← ha.leaves];exact aE.2 ⟨y,hy,rfl⟩
  obtain ⟨b,hb,GR⟩:=aE.1 this;rw [← GR];exact dg _ _
 refine A.rv 16 rfl rfl zK ?_;refine bg rfl rfl (j4 _ _ e (.slice a.al x.dc.size a.cl) (a.us.take x.dc.size) rfl (k6 (bb zP) hk) (fun y hy=>(ha.Ao y (aR hy)).cL (cG zP)) (fun y hy=>by have:=jN y (aR hy);omega) zo) ?_;rintro _ _ ⟨ux,kr,rfl,rfl⟩;refine ⟨fun _=>zE,A.fS zE ?_⟩;have BD:ea ((a.us.take x.dc.size).map (·.2))=x.dc.root:=by rw [rI,List.map_take,ha.leaves,List.map_take]
 rw [BD];refine A.rv 19 rfl rfl zK ?_;refine bg rfl rfl (sC _ e _ vr x.dc.root x.dc.root (bb zP) (hx.root.cL zE)) ?_;rintro _ _ ⟨rfl,rfl⟩;refine ⟨fun _=>zE,A.fS zE ?_⟩;rw [ay rfl]
 (refine dt 20 _ rfl (cD.jZ rfl) ?_;refine tk 21 _ rfl (bK rfl rfl) ?_;refine tA 22 ?_)
 refine bf zK ?_;refine wB ?_;refine bz (id:=9) [] mixed ?_
 (refine tF 0 ?_;refine tL 1 ?_;refine tM 2 ?_;refine tN 3 ?_;refine tF 4 ?_;refine tL 5 ?_;refine tk 6 _ rfl (bM rfl) ?_;refine tk 7 (.bool true) rfl (cD.iQ (cD.leq rfl rfl) zy) ?_;refine tA 8 ?_)
 refine bf zK ?_;refine wB ?_;exact aY (jO g log s::R) rfl (cj (show cz _ (xp g s a M R) from zE) (Da ha)) ⟨rfl,rfl⟩
def da.watch (s:da):da × Int × Int:=match s.ls.last with
 | none=>(s,0,22)
 | some x=>if x.dc.size≤s.mo.cF.length then (s,(s.mo.cF.length:Int),0) else ({ s with mo:=⟨s.ls.cF.take x.dc.size,some x⟩ },(x.dc.size:Int),0)
theorem da.NW {c:dh} {m:Nat} {s:da} (h:s.ok c m):s.watch.1.ok c m:=by
 unfold da.watch
 split
 ·exact h
 ·rename_i x hx
  split
  ·exact h
  ·have z8:=h.last x hx;have hl:(s.ls.cF.take x.dc.size).length=x.dc.size:=by rw [aF];exact Nat.min_eq_left z8.2.2.1
   have hz:=h.ls.size;have hc:=z8.2.2.1
   exact { h with
    mo:=⟨by show (s.ls.cF.take x.dc.size).length≤1000;omega,fun b hb=>by have:=h.ls.short b (aR hb);omega,fun y hy=>by cases hy;exact z8.fits⟩
    SO:=by show s.ls.cF.take x.dc.size=s.ls.cF.take (s.ls.cF.take x.dc.size).length;rw [hl] }
theorem FX (R:List cJ) (e:World) (w:Nat) (c:dh) (m:Nat) (s:da) (ev:List (Int × Int × Int × du)) (k n to wh:Int) (v:Value) (hv:v.oneCell'=true) (hm:m<250) :
 Ct prog 93 #[pt w,.agg (oB k n to wh v).toArray] e (dM w c m s ev::R) (fun v' L'=>v'=.tuple #[.int .i64 s.watch.2.1,.int .i64 s.watch.2.2]∧L'=dM w c (m+1) s.watch.1 ev::R):=by
 refine gZ fun a M ha he=>?_
 have eK:=ha.st;have ln:=eK.ls.size;refine a8 (args:=[_,_]) func93 rfl ntmps93 results93 rfl ?_
 (repeat (refine wA ?_;intros))
 refine aZ rfl rfl (Ct.at zP (yU _ e a.gl a.ld a.lk (cQ 0) s.ls)) ?_;rintro _ _ ⟨N,ur,up,uq,rfl,hx,rfl⟩;refine bm (cn (hx.root.cL (cG .zero))) fun o5=>?_
 refine bm (hx.sig.cL (cG .zero)).parts.one fun o6=>?_
 refine bm (hx.sig.cL (cG .zero)).path.one fun o7=>?_
 cases hl:s.ls.last with
 | none =>
  have hw:s.watch=(s,0,22):=by unfold da.watch;rw [hl]
  rw [hw]
  (repeat (refine wA ?_;intros))
  exact aY (dM w c (m+1) s ev::R) rfl (cj (show cz _ (dP w c s a M R) from zE) (dT (ha.to (eK.next hm) (Nat.le_succ m) rfl rfl) he)) ⟨rfl,rfl⟩
 | some x =>
  have hxx:s.ls.dC=x:=by unfold fM.dC;rw [hl];rfl
  rw [hxx] at hx ⊢
  have z8:=eK.last x hl;have KV:=z8.fits;have B9:=z8.2.2.1;have rI:=z8.2.2.2;have hmp:=eK.SO
  have TS:s.mo.cF.length≤s.ls.cF.length:=by
   have h:=congrArg List.length hmp;rw [aF] at h
   omega
  (repeat (refine wA ?_;intros))
  rename_i g3 g6;refine aZ rfl rfl (Ct.at (show cR _ (jO a.gm dO s.mo) _ from zP) (sJ _ e a.gm dO s.mo)) ?_;rintro _ _ ⟨rfl,rfl⟩;refine wB ?_;refine bq (ι:=List ej × Option Addr × Nat) (fun q=>[(0,pt w),(6,pt g6),(8,.slice q.2.1 q.1.length q.2.2),(9,.int .i64 ((s.mo.cF.length+q.1.length:Nat):Int))]) (fun q=>cV (.slice q.2.1 q.1.length q.2.2) q.1::cH q.1::cK g6 (dS x ur up uq) 87 (0,0)::N::dP w c s a M R)
   (fun q=>q.1.map (·.2)=(s.ls.cF.drop s.mo.cF.length).take q.1.length∧(q.1=[]∨s.mo.cF.length+q.1.length≤x.dc.size)) (fun q=>x.dc.size - (s.mo.cF.length+q.1.length)) ([],none,0) ⟨rfl,.inl rfl⟩ zS (cj dK (cj (dv ez 1) zE)) ?_
  rintro ⟨l,ad,cl⟩ ⟨Uu,hlc⟩;dsimp only at Uu hlc ⊢
  by_cases cO:s.mo.cF.length+l.length<x.dc.size
  ·have Tq:(s.ls.cF.drop s.mo.cF.length)[l.length]?=some (s.ls.cF.getD (s.mo.cF.length+l.length) []):=by
    rw [List.getElem?_drop,ax,ab zo];rfl
   have VH:(s.ls.cF.getD (s.mo.cF.length+l.length) []).length≤200:=eK.ls.short _ (zx zo)
   have W1:l.map (·.2)++[s.ls.cF.getD (s.mo.cF.length+l.length) []]=(s.ls.cF.drop s.mo.cF.length).take (l.length+1):=by
    rw [Uu,List.take_add_one,Tq];rfl
   refine wB ?_;refine aZ rfl rfl (Ct.at (show cR _ (cU a.gl a.ld a.lk (cQ 0) s.ls) _ from zP) (qy _ e a.gl a.ld a.lk (cQ 0) s.ls ((s.mo.cF.length+l.length:Nat):Int) zo)) ?_;rintro _ _ (⟨h1,-,-⟩|⟨-,-,MA,c0,rfl,rfl⟩)
   ·exact absurd ⟨by omega,by omega⟩ h1
   rw [Int.toNat_natCast]
   generalize s.ls.cF.getD (s.mo.cF.length+l.length) []=b at *
   (repeat (refine wA ?_;intros))
   have af5:=eK.short;refine bC (bo rfl rfl rfl (show cR _ (cV (.slice ad l.length cl) l) _ from zP) (bB zP rfl zl) rfl rfl zO zm zo fun eJ c3 _=>?_)
   refine wB ?_;refine bi (l++[(.slice MA b.length c0,b)],eJ,c3) ⟨by dsimp only;rw [ah,aa];exact W1,.inr (by dsimp only;rw [aa,aj];omega)⟩ (by dsimp only;rw [aa,aj];omega) ?_ ?_
   ·dsimp only;rw [aa,aj,← Nat.add_assoc];exact zS
   ·exact cj (show cz _ (dE ez 1 (.slice eJ (l.length+1) c3) (l.length+1) (l.map (·.1)++[.slice MA b.length c0])::cS (.slice MA b.length c0) b::cH l::cK g6 (dS x ur up uq) 87 (0,0)::N::dP w c s a M R) from zE) fZ
  have hyb:∀ y∈l,y.2.length≤1000:=fun y hy=>by
   have h1:y.2∈l.map (·.2):=aE.2 ⟨y,hy,rfl⟩;rw [Uu] at h1
   have:=eK.ls.short _ (aV (aR h1))
   omega
  by_cases hk:x.dc.size≤s.mo.cF.length
  ·have hw:s.watch=(s,(s.mo.cF.length:Int),0):=by unfold da.watch;rw [hl];exact aI hk
   rw [hw]
   obtain rfl:l=[]:=by
    rcases hlc with h|h
    ·exact h
    ·exact List.eq_nil_of_length_eq_zero zo
   refine wB ?_;refine bk (id:=10) [7] (cK w (a.cells c s) di (0,0)::cK g6 (dS x ur up uq) 87 (0,0)::N::R) mixed ?_
   (refine tM 0 ?_;refine tN 1 ?_;refine tF 2 ?_;refine tL 3 ?_;refine tJ 4 ?_;refine tM 5 ?_)
   refine tO 6 ?_;refine bg rfl rfl (Ct.at (show cR _ (jO a.gm dO s.mo) _ from zP) (FV _ e ad cl a.gm dO s.mo ur up uq x (hx.cL zE) KV z8.1 hk ?_)) ?_
   ·rw [rI,hmp,List.take_take,Nat.min_eq_left hk]
   rintro _ _ ⟨rfl,rfl⟩;refine ⟨fun _=>zE,?_⟩
   ((refine tO 7 ?_;refine dV (bj rfl) ?_))
   refine bf zK ?_;refine wB ?_;refine aZ rfl rfl (Ct.at (show cR _ (jO a.gm dO s.mo) _ from zP) (sJ _ e a.gm dO s.mo)) ?_;rintro _ _ ⟨rfl,rfl⟩;refine wB ?_;exact aY (dM w c (m+1) s ev::R) rfl (cj (show cz _ (dP w c s a M R) from zE) (dT (ha.to (eK.next hm) (Nat.le_succ m) rfl rfl) he)) ⟨rfl,rfl⟩
  ·have hw:s.watch=({ s with mo:=⟨s.ls.cF.take x.dc.size,some x⟩ },(x.dc.size:Int),0):=by unfold da.watch;rw [hl];exact aB hk
   have j1:({ s with mo:=⟨s.ls.cF.take x.dc.size,some x⟩ }:da).ok c (m+1):=by
    have h:=da.NW (eK.next hm)
    rwa [hw] at h
   rw [hw]
   have DZ:l.length=x.dc.size - s.mo.cF.length:=by
    rcases hlc with h|h
    ·rw [h] at cO ⊢;simp only [List.length_nil] at cO ⊢;omega
    ·omega
   have eT:s.mo.cF++l.map (·.2)=s.ls.cF.take x.dc.size:=by
    rw [Uu,DZ];have h1:x.dc.size=s.mo.cF.length+(x.dc.size - s.mo.cF.length):=by omega
    conv=>rhs;rw [h1,List.take_add]
    rw [← hmp]
   refine wB ?_;refine bk (id:=10) [7] (cK w (a.cells c s) di (0,0)::cK g6 (dS x ur up uq) 87 (0,0)::N::R) mixed ?_
   (refine tM 0 ?_;refine tN 1 ?_;refine tF 2 ?_;refine tL 3 ?_;refine tJ 4 ?_;refine tM 5 ?_)
   refine tO 6 ?_;refine bg rfl rfl (Ct.at (show cR _ (jO a.gm dO s.mo) _ from zP) (Fq _ e a.gm dO s.mo ur up uq _ x l (hx.cL zE) KV z8.1 (bb (show cR _ (cV (.slice ad l.length cl) l) _ from zP)) (dQ.dY (show cR _ (cH l) _ from zP)) zo DZ hyb (by rw [eT];exact rI))) ?_;rintro _ _ ⟨rfl,rfl⟩;rw [eT];refine ⟨fun _=>zE,?_⟩
   ((refine tO 7 ?_;refine dV (bj rfl) ?_))
   refine bf zK ?_;refine wB ?_;refine aZ rfl rfl (Ct.at (show cR _ (jO a.gm dO ⟨s.ls.cF.take x.dc.size,some x⟩) _ from zP) (sJ _ e a.gm dO ⟨s.ls.cF.take x.dc.size,some x⟩)) ?_;rintro _ _ ⟨rfl,rfl⟩;rw [show (s.ls.cF.take x.dc.size).length=x.dc.size by rw [aF];exact Nat.min_eq_left B9];refine wB ?_;exact aY (dM w c (m+1) { s with mo:=⟨s.ls.cF.take x.dc.size,some x⟩ } ev::R) rfl (cj (show cz _ (dP w c { s with mo:=⟨s.ls.cF.take x.dc.size,some x⟩ } a M R) from zE) (dT (ha.to j1 (Nat.le_succ m) rfl rfl) he)) ⟨rfl,rfl⟩
end Go.Proofs
