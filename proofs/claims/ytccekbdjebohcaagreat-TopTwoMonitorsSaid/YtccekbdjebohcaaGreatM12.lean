/- TopTwoMonitors returns true for any arguments; nothing of the old memory is turned. No condition. -/
import Derived.Test.YtccekbdjebohcaaGreatM11
set_option linter.unusedVariables false
set_option linter.unusedSimpArgs false
namespace Go.Proofs
attribute [local irreducible] Bs.cE Bs.Do Bs.O Bs.W Bs.Fin Bs.A Bs.Ct Bs.cF Bs.Rd Bs.Sat Bs.cM Bs.Ob Bs.dJ Bs.View Bs.cC Bs.Ex Bs.dI Bs.Pu Bs.eZ Bs.dK Bs.eh
open Go.Bs
open Tryz
variable (R:List cK) (e:World)
abbrev Rj:TypeId:=53
abbrev tFn:TypeId:=160
abbrev Hi (w:Nat):List Value:=[.func (.func 82) #[ptr w] #[],.func (.func 83) #[ptr w] #[],.func (.func 84) #[ptr w] #[],.func (.func 85) #[ptr w] #[],.func (.func 86) #[ptr w] #[],.func (.func 87) #[ptr w] #[],.func (.func 88) #[ptr w] #[],.func (.func 89) #[ptr w] #[],.func (.func 90) #[ptr w] #[],.func (.func 91) #[ptr w] #[],.func (.func 92) #[ptr w] #[],.func (.func 93) #[ptr w] #[]]
theorem me (w:Nat) (c:dx) (m:Nat) (s:dh) (ev:List (Int × Int × Int × dA)) (k:Nat) (n to wh:Int) (v:Value) (hv:v.oneCell'=true) (f:Nat) [cJ prog f f] (hk:1≤k∧k≤12) (hf:nth (Hi w) (k - 1)=some (.func (.func f) #[ptr w] #[])) (N why:Int) (P:cK→Prop)
 (h:∀ R',cC R' R→Ct prog f #[ptr w,.agg (tU k n to wh v).toArray] e (eg w c m s ev::R') (fun v' L'=>v'=.tuple #[.int .i64 N,.int .i64 why]∧∃ X,P X∧L'=X::R')) :
 Ct prog 25 #[ptr w,.agg (tU k n to wh v).toArray] e (eg w c m s ev::R) (fun v' L'=>v'=.agg [.int .i64 (k:Int),.int .i64 N,.int .i64 why].toArray∧∃ X,P X∧L'=X::R):=by
 obtain ⟨j,rfl⟩:∃ j,k=j+1:=⟨k - 1,by omega⟩
 rw [Nat.add_sub_cancel] at hf
 refine bI (args:=[_,_]) func25 rfl ntmps25 results25 rfl ?_
 (repeat (refine wA ?_;intros))
 rename_i g3 g4 g5;refine bl (id:=4) [12] (cM g3 (tU ((j+1:Nat):Int) n to wh v) iU (0,0)::cM g5 (Hi w) tFn (0,0)::R) mixed ?_
 (refine tM 0 ?_;refine tF 1 ?_;refine tL 2 ?_;refine tk 3 _ rfl (cE.jL rfl rfl zo) ?_)
 rw [show ((j+1:Nat):Int) - 1=(j:Int) by omega]
 (refine tk 4 _ rfl (cE.fp rfl rfl zo) ?_)
 refine bN 5 (.func (.func f) #[ptr w] #[]) rfl zK zE (bq rfl (bR (show cT _ (cM g5 (Hi w) tFn (0,0)) _ from zP) (by rw [aC];exact hf))) rfl ?_
 (refine tJ 6 ?_)
 refine tO 7 ?_;refine Do.gT (us:=[ptr w]) (ws:=[]) rfl rfl rfl (Ct.at zP (h _ zE)) ?_;rintro _ _ ⟨rfl,X,hX,rfl⟩;refine ⟨fun _=>zE,?_⟩
 (refine tM 8 ?_;refine tk 9 _ rfl (bn rfl rfl) ?_;refine tk 10 _ rfl (bn rfl rfl) ?_;refine tA 11 ?_;(refine tO 12 ?_;refine dV (bj rfl) ?_))
 refine bf zK ?_;refine wB ?_;apply bB
 ·exact zV
 exact ⟨X::R,zE,rfl,X,hX,rfl⟩
theorem z3 (w:Nat) (c:dx) (m:Nat) (s:dh) (ev:List (Int × Int × Int × dA)) (k to wh:Int) (n:Nat) (v:Value) (hv:v.oneCell'=true) (hn:n≤1000000) (hm:m<250) :
 Ct prog 87 #[pt w,.agg (tU k n to wh v).toArray] e (eg w c m s ev::R) (fun v' L'=>v'=.tuple #[.int .i64 (s.Bg c n).2.1,.int .i64 (s.Bg c n).2.2]∧∃ mQ,vJ mQ (s.Bg c n).1∧L'=eg w c (m+1) (s.Bg c n).1 (ev++mQ)::R):=by
 refine iT fun a M ha he=>?_
 have ft:=ha.st;have hrm:=ft.room;have CZ:a.nl.length=s.ei.length:=by have:=congrArg List.length ha.ei;simpa using this
 refine a7 (Io (show cT (eA w c s a M R) (Net a.gn 32 a.nl) _ from zP)) fun lF=>?_
 have CD:a.wx.length=c.k:=by
  obtain ⟨vl,vu,vs,NO,Ka,-⟩:=ha.all.all;exact Ka
 have Lx:=ft.Cc.k;refine a7 ((ba (show cT (eA w c s a M R) (dJ tT 1 a.pg a.wx.length (a.wx.map l9)) _ from zP)).shape zo) ?_;rintro ⟨⟨Fe,cw,C5,yS,HX,zi,tS⟩,_⟩;refine a8 (args:=[_,_]) func87 rfl ntmps87 results87 rfl ?_
 by_cases cQ:n<s.ei.length
 rotate_left
 ·have hd:s.Bg c n=(s,0,1):=by unfold dh.Bg;rw [List.getElem?_eq_none zo]
  rw [hd];have eI:=ha.to (ft.next hm) (Nat.le_succ m) rfl rfl
  (repeat (refine wA ?_;intros))
  rename_i g3;refine bl (id:=1) [12] (cM g3 (tU k n to wh v) iU (0,0)::cM w (a.cells c s) dv (0,0)::R) mixed ?_
  (refine tM 0 ?_;refine tN 1 ?_;refine tF 2 ?_;refine tL 3 ?_;refine tF 4 ?_;refine tL 5 ?_)
  refine A.two 6 10 rfl rfl rfl rfl zK ?_ ?_
  ·refine bg rfl rfl (Ct.at zP (jr _ e a.gn 32 a.nl (n:Int) zo lF)) ?_;rintro _ _ (⟨k2,yP,M3,-,-⟩|⟨-,rfl,rfl⟩)
   ·exact absurd yP zo
   refine ⟨fun _=>zE,?_⟩
   (refine tM 7 ?_;refine tk 8 _ rfl (bn rfl rfl) ?_;refine tk 9 _ rfl (bn rfl rfl) ?_)
   refine tO 10 ?_;refine bS (cs:=[.int .i64 0,.int .i64 0,.int .i64 0,nY]) rfl rfl fun g6=>⟨fun _=>zE,?_⟩
   refine tO 11 ?_;refine zg ?_;refine ⟨fun _=>zE,?_⟩
   ((refine tO 12 ?_;refine dV (bj rfl) ?_))
   refine bf zK ?_;refine wB ?_;refine aY (eg w c (m+1) s ev::R) rfl (cn (show cC _ (eA w c s a M R) from zE) (eo eI he)) ⟨rfl,[],vJ.nil,by rw [aK]⟩
  ·refine bS (cs:=[.int .i64 0,.int .i64 0,.int .i64 0,nY]) rfl rfl fun g6=>⟨fun _=>zE,?_⟩
   refine tO 6 ?_;refine bg rfl rfl (Ct.at zP (jr _ e a.gn 32 a.nl (n:Int) zo lF)) ?_;rintro _ _ (⟨k2,yP,M3,-,-⟩|⟨-,rfl,rfl⟩)
   ·exact absurd yP zo
   refine ⟨fun _=>zE,?_⟩
   (refine tM 7 ?_;refine tk 8 _ rfl (bn rfl rfl) ?_;refine tk 9 _ rfl (bn rfl rfl) ?_)
   refine tO 11 ?_;refine zg ?_;refine ⟨fun _=>zE,?_⟩
   ((refine tO 12 ?_;refine dV (bj rfl) ?_))
   refine bf zK ?_;refine wB ?_;refine aY (eg w c (m+1) s ev::R) rfl (cn (show cC _ (eA w c s a M R) from zE) (eo eI he)) ⟨rfl,[],vJ.nil,by rw [aK]⟩
 have hg:s.ei[n]?=some (s.ei[n]'cQ):=ae _;have hd:s.Bg c n=(s.lost n).He c (s.ei[n]'cQ):=by unfold dh.Bg;rw [hg]
 have nM:=ft.ei _ (az cQ)
 have Fy:(a.nl[n]'zo).d=(s.ei[n]'cQ).d c.k:=by
  have:=congrArg (fun l=>l[n]?) ha.ei;simp only [aI,ae (show n<a.nl.length by omega),hg,Option.map_some,Option.some.injEq] at this
  exact this
 have nk:=lF _ (az (show n<a.nl.length by omega))
 have qO:eO.ok { a with nl:=iV a.nl n } M w c m (s.lost n) :=
  ha.Om (dh.CP ft) (aT m) rfl (by show (iV a.nl n).map gV.d=(iV s.ei n).map _;rw [qJ,qJ,ha.ei])
 rw [hd];obtain ⟨y,hy⟩:∃ y,a.nl[n]'zo=y:=⟨_,rfl⟩
 rw [hy] at Fy nk
 obtain ⟨yk,yf,yt,yv,yb⟩:=y;dsimp only at nk
 (repeat' first|refine W.oZ (id:=2) (fun g6:Nat=>[(0,pt w),(6,pt g6),(7,.bool true)]) (fun g6=>cM g6 [.int .i64 yk,.int .i64 yf,.int .i64 yt,yv] On (0,0)::cG [(yv,yb)]::eA w c (s.lost n) { a with nl:=iV a.nl n } M R) (fun _=>True) ?_ ?_|refine Zb ?_|apply Zc|apply Zd|apply Ze|apply Zf|refine Yg fun _=>?_|fail)
 rotate_left
 ·refine ⟨?_⟩;rename_i g3;refine bl (id:=1) [12] (cM g3 (tU k n to wh v) iU (0,0)::cM w (a.cells c s) dv (0,0)::R) mixed ?_
  (refine tM 0 ?_;refine tN 1 ?_;refine tF 2 ?_;refine tL 3 ?_;refine tF 4 ?_;refine tL 5 ?_)
  refine A.two 6 10 rfl rfl rfl rfl zK ?_ ?_
  ·refine bg rfl rfl (Ct.at zP (jr _ e a.gn 32 a.nl (n:Int) zo lF)) ?_;rintro _ _ (⟨k2,yP,M3,rfl,rfl⟩|⟨Hd,-,-⟩)
   rotate_left
   ·exact absurd ⟨by omega,by omega⟩ Hd
   obtain rfl:n=k2:=by omega
   rw [show a.nl.take n++a.nl.drop (n+1)=iV a.nl n from rfl];rw [hy];refine ⟨fun _=>zE,?_⟩
   (refine tM 7 ?_;refine tk 8 _ rfl (bn rfl rfl) ?_;refine tk 9 _ rfl (bn rfl rfl) ?_)
   refine tO 10 ?_;refine bS (cs:=[.int .i64 0,.int .i64 0,.int .i64 0,nY]) rfl rfl fun g6=>⟨fun _=>zE,?_⟩
   refine tO 11 ?_;refine zg ?_;refine ⟨fun _=>zE,?_⟩
   ((refine tO 12 ?_;refine dV (bj rfl) ?_))
   refine bf zK ?_;exact bH g6 trivial zS zE
  ·refine bS (cs:=[.int .i64 0,.int .i64 0,.int .i64 0,nY]) rfl rfl fun g6=>⟨fun _=>zE,?_⟩
   refine tO 6 ?_;refine bg rfl rfl (Ct.at zP (jr _ e a.gn 32 a.nl (n:Int) zo lF)) ?_;rintro _ _ (⟨k2,yP,M3,rfl,rfl⟩|⟨Hd,-,-⟩)
   rotate_left
   ·exact absurd ⟨by omega,by omega⟩ Hd
   obtain rfl:n=k2:=by omega
   rw [show a.nl.take n++a.nl.drop (n+1)=iV a.nl n from rfl];rw [hy];refine ⟨fun _=>zE,?_⟩
   (refine tM 7 ?_;refine tk 8 _ rfl (bn rfl rfl) ?_;refine tk 9 _ rfl (bn rfl rfl) ?_)
   refine tO 11 ?_;refine zg ?_;refine ⟨fun _=>zE,?_⟩
   ((refine tO 12 ?_;refine dV (bj rfl) ?_))
   refine bf zK ?_;exact bH g6 trivial zS zE
 intro g6 _;have U1:∀ L:List cK,da (cG [(yv,yb)]::L) yv yb:=fun L=>dE.ea (.zero:cT (cG [(yv,yb)]::L) (cG [(yv,yb)]) L) (yv,yb) (an.2 rfl)
 generalize s.ei[n]'cQ=fY at *
 cases fY with
 | ask j x n2 k2 path =>
  obtain ⟨rfl,rfl,rfl,rfl⟩:yk=1∧yf=0∧yt=((j+1:Nat):Int)∧yb=qh x n2 k2 path:=by
   simpa [gV.d,gh.d,Prod.ext_iff] using Fy
  have hj:j<c.k:=nM.2.1;rw [show (s.lost n).He c (.ask j x n2 k2 path)=((s.lost n).asked j x.dd n2,1,(s.lost n).wm j x.dd n2) from rfl];refine wB ?_;rw [C5];refine wB ?_;rw [← C5];refine aZ rfl rfl ((ES (cM g6 [.int .i64 1,.int .i64 0,.int .i64 ((j+1:Nat):Int),yv] On (0,0)::cG [(yv,qh x n2 k2 path)]::R) e w c m (s.lost n) ev yv j n2 k2 x path ((U1 R).cN zE) nM hm).cN (cn (show cC _ (eA w c (s.lost n) { a with nl:=iV a.nl n } M (cM g6 [.int .i64 1,.int .i64 0,.int .i64 ((j+1:Nat):Int),yv] On (0,0)::cG [(yv,qh x n2 k2 path)]::R)) from zE) (eo qO he))) ?_;rintro _ _ ⟨rfl,mQ,Kr,rfl⟩
  generalize (s.lost n).wm j x.dd n2=E
  refine wB ?_;refine aY (eg w c (m+1) ((s.lost n).asked j x.dd n2) (ev++mQ)::R) rfl zE ⟨rfl,mQ,Kr,rfl⟩
 | iX j g =>
  obtain ⟨rfl,rfl,rfl,rfl⟩:yk=2∧yf=((j+1:Nat):Int)∧yt=0∧yb=1::eU g:=by
   simpa [gV.d,gh.d,Prod.ext_iff] using Fy
  have hj:j<c.k:=nM.2.1;rw [show (s.lost n).He c (.iX j g)=((s.lost n).Bf c j g 0,2,(s.lost n).zY c j g 0) from rfl];refine wB ?_;rw [C5];refine wB ?_;rw [← C5];refine aZ rfl rfl ((Ke (cM g6 [.int .i64 2,.int .i64 ((j+1:Nat):Int),.int .i64 0,yv] On (0,0)::cG [(yv,1::eU g)]::R) e w c m (s.lost n) ev yv j g ((U1 R).cN zE) nM hm).cN (cn (show cC _ (eA w c (s.lost n) { a with nl:=iV a.nl n } M (cM g6 [.int .i64 2,.int .i64 ((j+1:Nat):Int),.int .i64 0,yv] On (0,0)::cG [(yv,1::eU g)]::R)) from zE) (eo qO he))) ?_;rintro _ _ ⟨rfl,rfl⟩
  generalize (s.lost n).zY c j g 0=E
  refine wB ?_;refine aY (eg w c (m+1) ((s.lost n).Bf c j g 0) ev::R) rfl zE ⟨rfl,[],vJ.nil,by rw [aK]⟩
 | no j z =>
  obtain ⟨rfl,rfl,rfl,rfl⟩:yk=2∧yf=((j+1:Nat):Int)∧yt=0∧yb=0::be z 4:=by
   simpa [gV.d,gh.d,Prod.ext_iff] using Fy
  have hj:j<c.k:=nM.2.1;rw [show (s.lost n).He c (.no j z)=((s.lost n).Bf c j ig z,2,(s.lost n).zY c j ig z) from rfl];refine wB ?_;rw [C5];refine wB ?_;rw [← C5];refine aZ rfl rfl ((MB (cM g6 [.int .i64 2,.int .i64 ((j+1:Nat):Int),.int .i64 0,yv] On (0,0)::cG [(yv,0::be z 4)]::R) e w c m (s.lost n) ev yv j z ((U1 R).cN zE) nM hm).cN (cn (show cC _ (eA w c (s.lost n) { a with nl:=iV a.nl n } M (cM g6 [.int .i64 2,.int .i64 ((j+1:Nat):Int),.int .i64 0,yv] On (0,0)::cG [(yv,0::be z 4)]::R)) from zE) (eo qO he))) ?_;rintro _ _ ⟨rfl,rfl⟩
  generalize (s.lost n).zY c j ig z=E
  refine wB ?_;refine aY (eg w c (m+1) ((s.lost n).Bf c j ig z) ev::R) rfl zE ⟨rfl,[],vJ.nil,by rw [aK]⟩
 | off b =>
  obtain ⟨rfl,rfl,rfl,rfl⟩:yk=3∧yf=0∧yt=((c.k+1:Nat):Int)∧yb=fU b:=by
   simpa [gV.d,gh.d,Prod.ext_iff] using Fy
  rw [show (s.lost n).He c (.off b)=((s.lost n).off c b,3,(s.lost n).l8 c b) from rfl];refine wB ?_;rw [C5];refine wB ?_;rw [← C5];refine aZ rfl rfl ((zM (cM g6 [.int .i64 3,.int .i64 0,.int .i64 ((c.k+1:Nat):Int),yv] On (0,0)::cG [(yv,fU b)]::R) e w c m (s.lost n) ev yv b ((U1 R).cN zE) nM hm).cN (cn (show cC _ (eA w c (s.lost n) { a with nl:=iV a.nl n } M (cM g6 [.int .i64 3,.int .i64 0,.int .i64 ((c.k+1:Nat):Int),yv] On (0,0)::cG [(yv,fU b)]::R)) from zE) (eo qO he))) ?_;rintro _ _ ⟨rfl,mQ,Kr,rfl⟩
  generalize (s.lost n).l8 c b=E
  refine wB ?_;refine aY (eg w c (m+1) ((s.lost n).off c b) (ev++mQ)::R) rfl zE ⟨rfl,mQ,Kr,rfl⟩
theorem EX (w:Nat) (c:dx) (m:Nat) (s:dh) (ev:List (Int × Int × Int × dA)) (k to wh:Int) (n:Nat) (v:Value) (hv:v.oneCell'=true) (hn:n≤1000000) (hm:m<250) :
 Ct prog 90 #[pt w,.agg (tU k n to wh v).toArray] e (eg w c m s ev::R) (fun v' L'=>v'=.tuple #[.int .i64 0,.int .i64 (s.Ov n).2]∧L'=eg w c (m+1) (s.Ov n).1 ev::R):=by
 refine iT fun a M ha he=>?_
 have ft:=ha.st;have NQ:=ft.JH
 have CD:a.wx.length=c.k:=by
  obtain ⟨vl,vu,vs,NO,Ka,-⟩:=ha.all.all;exact Ka
 have Lx:=ft.Cc.k;have UE:=ft.fd.JH;have eI:a.ok M w c (m+1) s:=ha.to (ft.next hm) (Nat.le_succ m) rfl rfl;refine a7 ((ba (show cT (eA w c s a M R) (dJ tT 1 a.pg a.wx.length (a.wx.map l9)) _ from zP)).shape zo) ?_;rintro ⟨⟨Fe,cw,C5,yS,HX,zi,tS⟩,_⟩;refine a8 (args:=[_,_]) func90 rfl ntmps90 results90 rfl ?_;unfold dh.Ov
 (repeat (refine wA ?_;intros))
 refine aZ rfl rfl (Ct.at zP (EG _ e a.qi (df c) c.retry s.n s.fd)) ?_;rintro v0 _ ⟨lF,hy⟩
 by_cases hE:s.fd.dm=[]
 ·obtain ⟨rfl,rfl⟩:=lF hE;rw [aH hE]
  (repeat (refine wA ?_;intros))
  refine aY (eg w c (m+1) s ev::R) rfl (cn (show cC _ (eA w c s a M R) from zE) (eo eI he)) ⟨rfl,rfl⟩
 obtain ⟨N,ur,up,uq,vg,rfl,hN,hG,rfl⟩:=hy hE;rw [aB hE];obtain ⟨⟨pk,NN,kD,tm⟩,h0,GZ⟩:=ft.done hE;have RA:∀ g∈s.fd.dm,g.sig.fits:=fun g hg=>(ft.fd.dm g hg).2.fits
 refine bo (cz (hN.root.cN (cH zP))) fun o1=>?_
 refine bo (hN.sig.cN (cH zP)).parts.one fun o2=>?_
 refine bo (hN.sig.cN (cH zP)).path.one fun o3=>?_
 refine bo (hG.cN (cH zP)).one fun o4=>?_
 by_cases hi:n<s.fd.done.dd.size
 rotate_left
 ·rw [aH hi]
  (repeat (refine wA ?_;intros))
  rename_i g3 g6;refine bl (id:=4) [14] (cM g3 (tU k n to wh v) iU (0,0)::cM g6 (dT s.fd.done ur up uq) qQ (0,0)::cM w (a.cells c s) dv (0,0)::R) mixed ?_
  (refine tM 0 ?_;refine tN 1 ?_;refine tF 2 ?_;refine tL 3 ?_;refine tF 4 ?_;refine tL 5 ?_;refine tJ 6 ?_;refine tM 7 ?_)
  refine A.two 8 12 rfl rfl rfl rfl zK ?_ ?_
  ·refine bg rfl rfl (Ct.at zP (oQ _ e a.gl a.ld a.lk (cV 0) s.ls n ur up uq vg s.fd.done s.fd.dm (hN.cN (cH zP)) NN.fits (hG.cN (cH zP)) RA zo zo zo hn)) ?_;rintro _ _ ⟨-,hr⟩;obtain ⟨rfl,rfl⟩:=hr hi;refine ⟨fun _=>zE,?_⟩
   (refine tM 9 ?_;refine tk 10 _ rfl (bn rfl rfl) ?_;refine tk 11 _ rfl (bn rfl rfl) ?_)
   refine tO 12 ?_;refine bS (cs:=pf) rfl rfl fun g9=>⟨fun _=>zE,?_⟩
   refine tO 13 ?_;refine zg ?_;refine ⟨fun _=>zE,?_⟩
   ((refine tO 14 ?_;refine dV (bj rfl) ?_))
   refine bf zK ?_;refine wB ?_;refine aY (eg w c (m+1) s ev::R) rfl (cn (show cC _ (eA w c s a M R) from zE) (eo eI he)) ⟨rfl,rfl⟩
  ·refine bS (cs:=pf) rfl rfl fun g9=>⟨fun _=>zE,?_⟩
   refine tO 8 ?_;refine bg rfl rfl (Ct.at zP (oQ _ e a.gl a.ld a.lk (cV 0) s.ls n ur up uq vg s.fd.done s.fd.dm (hN.cN (cH zP)) NN.fits (hG.cN (cH zP)) RA zo zo zo hn)) ?_;rintro _ _ ⟨-,hr⟩;obtain ⟨rfl,rfl⟩:=hr hi;refine ⟨fun _=>zE,?_⟩
   (refine tM 9 ?_;refine tk 10 _ rfl (bn rfl rfl) ?_;refine tk 11 _ rfl (bn rfl rfl) ?_)
   refine tO 13 ?_;refine zg ?_;refine ⟨fun _=>zE,?_⟩
   ((refine tO 14 ?_;refine dV (bj rfl) ?_))
   refine bf zK ?_;refine wB ?_;refine aY (eg w c (m+1) s ev::R) rfl (cn (show cC _ (eA w c s a M R) from zE) (eo eI he)) ⟨rfl,rfl⟩
 rw [aB (not_not_intro hi)];obtain ⟨Ot,RU,VM,nM⟩:=dh.Bh ft hE hi;have nZ:=oO Ot;obtain ⟨B,hB⟩:∃ B:vE,B=s.mb n:=⟨_,rfl⟩
 (repeat' first|refine W.oZ (id:=5) (fun q:Nat × cK × Value × Value × Value × Value × Value × Value=>[(0,pt w),(9,pt q.1),(10,.int .i64 0)]) (fun q=>cM q.1 (r5 B q.2.2.1 q.2.2.2.1 q.2.2.2.2.1 q.2.2.2.2.2.1 q.2.2.2.2.2.2.1 q.2.2.2.2.2.2.2) qP (0,0)::q.2.1::eA w c s a M R) (fun q=>rh [q.2.1] q.2.2.1 q.2.2.2.1 q.2.2.2.2.1 q.2.2.2.2.2.1 q.2.2.2.2.2.2.1 q.2.2.2.2.2.2.2 B) ?_ ?_|refine Za ?_|refine Zb ?_|apply Zc|apply Zd|apply Ze|apply Zf|refine Zy ?_|refine Yh fun _=>?_|refine YA ?_|apply YC|refine YN ?_|refine YR ?_|fail)
 rotate_left
 ·refine ⟨?_⟩;rename_i g3 g6;refine bl (id:=4) [14] (cM g3 (tU k n to wh v) iU (0,0)::cM g6 (dT s.fd.done ur up uq) qQ (0,0)::cM w (a.cells c s) dv (0,0)::R) mixed ?_
  (refine tM 0 ?_;refine tN 1 ?_;refine tF 2 ?_;refine tL 3 ?_;refine tF 4 ?_;refine tL 5 ?_;refine tJ 6 ?_;refine tM 7 ?_)
  refine A.two 8 12 rfl rfl rfl rfl zK ?_ ?_
  ·refine bg rfl rfl (Ct.at zP (oQ _ e a.gl a.ld a.lk (cV 0) s.ls n ur up uq vg s.fd.done s.fd.dm (hN.cN (cH zP)) NN.fits (hG.cN (cH zP)) RA zo zo zo hn)) ?_;rintro _ _ ⟨hr,-⟩;obtain ⟨N2,um,vp,vr,va,vq,vc,rfl,m5,rfl⟩:=hr hi;rw [show (⟨s.ls.cI.getD n [],n,s.fd.done.dd.size,iF ((s.ls.cI.take s.fd.done.dd.size).map cZ) n,s.fd.done,s.fd.dm⟩:vE)=B from hB.symm] at m5 ⊢
   refine ⟨fun _=>zE,?_⟩;refine A.cB (cz (m5.fk.cN (cH zP))) fun q1=>?_
   refine A.cB (m5.path.cN (cH zP)).one fun q2=>?_
   refine A.cB (cz (m5.kH.root.cN (cH zP))) fun q3=>?_
   refine A.cB (m5.kH.sig.cN (cH zP)).parts.one fun q4=>?_
   refine A.cB (m5.kH.sig.cN (cH zP)).path.one fun q5=>?_
   refine A.cB (m5.gs.cN (cH zP)).one fun q6=>?_
   (refine tM 9 ?_;refine tk 10 _ rfl (bn rfl rfl) ?_;refine tk 11 _ rfl (bn rfl rfl) ?_)
   refine tO 12 ?_;refine bS (cs:=pf) rfl rfl fun g9=>⟨fun _=>zE,?_⟩
   refine tO 13 ?_;refine zg ?_;refine ⟨fun _=>zE,?_⟩
   ((refine tO 14 ?_;refine dV (bj rfl) ?_))
   refine bf zK ?_;exact bH (g9,N2,um,vp,vr,va,vq,vc) m5 zS zE
  ·refine bS (cs:=pf) rfl rfl fun g9=>⟨fun _=>zE,?_⟩
   refine tO 8 ?_;refine bg rfl rfl (Ct.at zP (oQ _ e a.gl a.ld a.lk (cV 0) s.ls n ur up uq vg s.fd.done s.fd.dm (hN.cN (cH zP)) NN.fits (hG.cN (cH zP)) RA zo zo zo hn)) ?_;rintro _ _ ⟨hr,-⟩;obtain ⟨N2,um,vp,vr,va,vq,vc,rfl,m5,rfl⟩:=hr hi;rw [show (⟨s.ls.cI.getD n [],n,s.fd.done.dd.size,iF ((s.ls.cI.take s.fd.done.dd.size).map cZ) n,s.fd.done,s.fd.dm⟩:vE)=B from hB.symm] at m5 ⊢
   refine ⟨fun _=>zE,?_⟩;refine A.cB (cz (m5.fk.cN (cH zP))) fun q1=>?_
   refine A.cB (m5.path.cN (cH zP)).one fun q2=>?_
   refine A.cB (cz (m5.kH.root.cN (cH zP))) fun q3=>?_
   refine A.cB (m5.kH.sig.cN (cH zP)).parts.one fun q4=>?_
   refine A.cB (m5.kH.sig.cN (cH zP)).path.one fun q5=>?_
   refine A.cB (m5.gs.cN (cH zP)).one fun q6=>?_
   (refine tM 9 ?_;refine tk 10 _ rfl (bn rfl rfl) ?_;refine tk 11 _ rfl (bn rfl rfl) ?_)
   refine tO 13 ?_;refine zg ?_;refine ⟨fun _=>zE,?_⟩
   ((refine tO 14 ?_;refine dV (bj rfl) ?_))
   refine bf zK ?_;exact bH (g9,N2,um,vp,vr,va,vq,vc) m5 zS zE
 rintro ⟨g9,N2,um,vp,vr,va,vq,vc⟩ m5;dsimp only at m5 ⊢
 rw [← hB] at Ot nZ nM ⊢
 refine wB ?_;refine aZ rfl rfl (CC _ e um vp vr va vq vc B (m5.cN (cH zP)) Ot) ?_;rintro _ _ ⟨ep,k3,rfl,rfl⟩;refine wB ?_;refine bl (id:=10) [] (cM w (a.cells c s) dv (0,0)::R) mixed ?_
 (refine tM 0 ?_;refine tN 1 ?_;refine tF 2 ?_;refine tL 3 ?_;refine tM 4 ?_;refine tN 5 ?_;refine tF 6 ?_;refine tL 7 ?_)
 rw [C5]
 (refine tk 8 _ rfl (bO rfl) ?_;refine tk 9 _ rfl (cE.la rfl rfl zo) ?_;refine tM 10 ?_)
 rw [← C5,show ((a.wx.length:Int)+1)=((c.k+1:Nat):Int) by omega];refine tk 11 _ rfl (bL rfl zF) ?_;refine tO 12 ?_;refine bg rfl rfl (Ct.at zP (si _ e a.gn c.k a.nl s.ei (.off B) ⟨3,0,((c.k+1:Nat):Int),.slice ep (fU B).length k3,fU B⟩ ha.ei rfl (ba (show cT _ (cR (.slice ep (fU B).length k3) (fU B)) _ from zP)) zd ft.room)) ?_;rintro _ _ ⟨rfl,Im,My,rfl⟩;refine ⟨fun _=>zE,?_⟩;have qk:eO.ok { a with nl:=Im } M w c (m+1) (s.send (.off B)):=eI.Om (dh.Il eI.st nM) (aT _) rfl My
 by_cases hf:s.ei.length<32
 ·rw [ay hf,aH hf]
  (refine tk 13 _ rfl (cE.jX rfl) ?_)
  refine bf zK ?_;refine wB ?_;refine aY (eg w c (m+1) (s.send (.off B)) ev::R) rfl (cn (show cC _ (eA w c (s.send (.off B)) { a with nl:=Im } M R) from zE) (eo qk he)) ⟨rfl,rfl⟩
 ·rw [aq hf,aB hf];have E9:s.send (.off B)=s:=by unfold dh.send;rw [aB hf]
  rw [E9] at qk
  (refine tk 13 _ rfl (cE.pF rfl) ?_)
  refine bf zK ?_;refine wB ?_;refine aY (eg w c (m+1) s ev::R) rfl (cn (show cC _ (eA w c s { a with nl:=Im } M R) from zE) (eo qk he)) ⟨rfl,rfl⟩
theorem Ki (w:Nat) (c:dx) (m:Nat) (s:dh) (ev:List (Int × Int × Int × dA)) (k n to wh:Int) (v:Value) (hv:v.oneCell'=true) (hm:m<250) :
 Ct prog 86 #[pt w,.agg (tU k n to wh v).toArray] e (eg w c m s ev::R) (fun v' L'=>v'=.tuple #[.int .i64 (s.QP c:Int),.int .i64 0]∧L'=eg w c (m+1) (s.yG c) ev::R):=by
 refine iT fun a M ha he=>?_
 have ft:=ha.st;have mS:=dh.Ml ft hm;have ht:=ft.time;have hn:=ft.nb;have RE:=ft.steps;have hk:=ft.Cc.k;have kD:=ft.short;refine a8 (args:=[_,_]) func86 rfl ntmps86 results86 rfl ?_
 (repeat (refine wA ?_;intros))
 rename_i g3;refine bl (id:=2) [] (cM w (a.cells c s) dv (0,0)::R) mixed ?_
 (refine tM 0 ?_;refine tN 1 ?_;refine tF 2 ?_;refine tL 3 ?_;refine tM 4 ?_;refine tN 5 ?_;refine tF 6 ?_;refine tL 7 ?_;refine tM 10 ?_)
 refine tO 8 ?_;have AV:=fun L=>EE L e a.qi (df c) c.retry s.n s.fd s.time zo zo
 rw [mN] at AV
 refine bg rfl rfl (Ct.at zP (AV _)) ?_;rintro _ _ ⟨ad,co,rfl,rfl⟩;refine ⟨fun _=>zE,?_⟩
 (refine tk 9 _ rfl (bO rfl) ?_)
 refine bf zK ?_;have Ue:=Ih (now:=s.time) ft.fd;have Sy:s.fd.cur=none→s.fd.kW s.time=[]:=fun h=>yH (k:=c.k) (n:=s.n) (ft.idle h)
 obtain ⟨s1,fy⟩:∃ s1:dh,s1={ s with fd:=s.fd.kB c.retry s.time,n:=s.n+c.k }:=⟨_,rfl⟩
 have QS:s.yG c={ s1 with ei:=ma s.ls.cI s.fd.dY (s.fd.kW s.time) s.ei }:=by rw [fy];rfl
 obtain ⟨q1,-,-,-⟩:=yI c.retry s.time s.fd;have H2:s1.fd.dY=s.fd.dY:=by rw [fy];exact CK q1
 have Iz:s1.fd.cur=s.fd.cur:=by rw [fy];exact q1
 have HV:s1.fd=s.fd.kB c.retry s.time:=by rw [fy]
 have hN:s.QP c=(ma s.ls.cI s.fd.dY (s.fd.kW s.time) s.ei).length - s.ei.length:=rfl;rw [hN]
 generalize RD:s.fd.kW s.time=rq at *
 refine wB ?_;refine br (ι:=Nat × eO) (fun j=>[(0,pt w),(6,.int .i64 (((ma s.ls.cI s.fd.dY (rq.take j.1) s.ei).length - s.ei.length:Nat):Int)),(24,.slice ad rq.length co),(25,.int .i64 (rq.length:Int)),(26,.int .i64 (j.1:Int))]) (fun j=>tB (.slice ad rq.length co) rq::eA w c s1 j.2 M R) (fun j=>j.1≤rq.length∧j.2={ a with nl:=j.2.nl }∧j.2.nl.map gV.d=(ma s.ls.cI s.fd.dY (rq.take j.1) s.ei).map (gh.d c.k)) (fun j=>rq.length - j.1) (0,a) ⟨aG _,rfl,ha.ei⟩ (by rw [List.take_zero];simp only [ma,Nat.sub_self];exact zS) (by rw [fy];exact zE) ?_;rintro ⟨i,b⟩ ⟨hi,PR,A3⟩;dsimp only at hi PR A3 ⊢
 have Wv:=(tI s.ls.cI s.fd.dY (rq.take i) s.ei ft.room)
 have Xv:b.nl.length=(ma s.ls.cI s.fd.dY (rq.take i) s.ei).length:=by have:=congrArg List.length A3;simpa using this
 by_cases cQ:i<rq.length
 rotate_left
 ·have hii:rq.take i=rq:=aF zo;rw [hii] at A3 Wv ⊢
  have eI:eO.ok b M w c (m+1) (s.yG c):=by
   rw [QS,PR];exact { ha with ei:=by rw [A3],st:=by rw [← QS];exact mS,ec:=Nat.le_trans ha.ec (Nat.mul_le_mul_left _ (Nat.le_succ m)),all:=⟨ha.all.all⟩,root:=by rw [fy];exact ha.root }
  generalize (ma s.ls.cI s.fd.dY rq s.ei).length - s.ei.length=cnt at *
  refine wB ?_;refine aY (eg w c (m+1) (s.yG c) ev::R) rfl (cn (show cC _ (eA w c (s.yG c) b M R) from ?_) (eo eI (by rw [PR];exact he))) ⟨rfl,rfl⟩;rw [QS];exact zE
 have fq:rq.take (i+1)=rq.take i++[rq[i]'cQ]:=aA cQ;have Ao:=Bd s.ls.cI s.fd.dY (rq[i]'cQ) (rq.take i) s.ei;rw [← fq] at Ao
 have Ju:=Ue _ (az cQ)
 have GK:∃ y,s.fd.cur=some y:=by
  cases hc:s.fd.cur with
  | none=>rw [Sy hc] at cQ;exact absurd cQ (Nat.not_lt_zero _)
  | some y=>exact ⟨y,rfl⟩
 obtain ⟨y,hy⟩:=GK;have UU:s.fd.dY=y:=by unfold cS.dY;rw [hy];rfl
 have RO:=(ft.cur y hy).1;rw [UU] at H2 Ao Ju A3 Wv Xv ⊢
 refine bG ((ba (show cT _ (tB (.slice ad rq.length co) rq) _ from zP)).shape zo) ?_;rintro ⟨⟨lE,c',lG,yS,HX,zi,tS⟩,_⟩
 cases lG
 rcases tS with tS|⟨gq,oq,rfl⟩
 ·omega
 have G1:∀ (L R':List cK),cT L (tB (.slice (some ⟨gq,oq,none⟩) rq.length co) rq) R'→eh L gq (oq+i*2) (JT (rq[i]'cQ)):=fun L R' pl=>eh.elem (ba pl) TB (ae cQ)
 have Ww:rq.length≤1000:=by
  have h1:(rq.map (·.1)).Nodup:=by
   rw [← RD];unfold cS.kW;rw [List.map_map,show ((fun x:Nat × Nat=>x.1) ∘ fun w=>(w,(s.fd.st.getD w k9).size))=id from rfl,List.map_id];have h2:=(qH s.time s.fd.ag.length s.fd.ag).1.nodup_iff.2 ft.fd.Cl;exact (List.nodup_append.1 h2).1
  have h2:=nV c.k (rq.map (·.1)) h1 (fun x hx=>by obtain ⟨q,hq,rfl⟩:=aD.1 hx;exact (Ue q hq).1);rw [ab] at h2
  omega
 generalize rq[i]'cQ=r at *
 obtain ⟨z,fr⟩:=r;dsimp only at Ju G1 Ao
 dsimp only [JT] at G1
 generalize hA:ma s.ls.cI y (rq.take i) s.ei=nq at *
 have OV:=RO.2.2.1;refine wB ?_;refine O.dD rfl (G1 _ _ zP) rfl rfl ?_
 (repeat (refine wA ?_;intros))
 refine aZ rfl rfl (Ct.at zP (G3 _ e b.qi (df c) c.retry s1.n s1.fd)) ?_;rintro _ _ ⟨N,ur,up,uq,rfl,QO,rfl⟩;rw [H2] at QO ⊢
 rw [Iz,hy];refine bo (cz (QO.root.cN (cH zP))) fun o3=>?_
 refine bo (QO.sig.cN (cH zP)).parts.one fun o4=>?_
 refine bo (QO.sig.cN (cH zP)).path.one fun o5=>?_
 have qL:s1.ls=s.ls:=by rw [fy]
 have wI:=ql (l:=s.ls.cI.take y.dd.size) (n:=fr) (by rw [aE];omega)
 (repeat' first|refine W.oZ (id:=7) (fun j:(Nat × Nat × Nat) × List dX × Option Addr × Nat=>[(0,pt w),(6,.int .i64 ((nq.length - s.ei.length:Nat):Int)),(8,pt j.1.1),(9,pt j.1.2.1),(11,pt j.1.2.2),(12,.int .i64 0),(24,.slice (some ⟨gq,oq,none⟩) rq.length co),(25,.int .i64 (rq.length:Int)),(26,.int .i64 (i:Int))]) (fun j=>cM j.1.2.2 [.int .i64 (fr:Int),.int .i64 (y.dd.size:Int),.slice j.2.2.1 j.2.1.length j.2.2.2] 102 (0,0)::cM j.1.2.1 (dT y ur up uq) qQ (0,0)::cM j.1.1 [.int .i64 (z:Int),.int .i64 (fr:Int)] ED (0,0)::cU (.slice j.2.2.1 j.2.1.length j.2.2.2) j.2.1::cG j.2.1::N::tB (.slice (some ⟨gq,oq,none⟩) rq.length co) rq::eA w c s1 b M R) (fun j=>j.2.1.map (·.2)=iS ((s.ls.cI.take y.dd.size).map cZ) fr) ?_ ?_|refine Za ?_|refine Zb ?_|apply Ze|apply Zf|refine Yh fun _=>?_|refine YN ?_|refine YR ?_|fail)
 rotate_left
 ·refine ⟨?_⟩;rename_i g8 g9;refine bl (id:=6) [15] (cM g9 (dT y ur up uq) qQ (0,0)::cM g8 [.int .i64 (z:Int),.int .i64 (fr:Int)] ED (0,0)::cM w (b.cells c s1) dv (0,0)::N::R) mixed ?_
  (refine tM 0 ?_;refine tN 1 ?_;refine tF 2 ?_;refine tL 3 ?_;refine tF 4 ?_;refine tL 5 ?_;refine tF 6 ?_;refine tF 7 ?_;refine tL 8 ?_)
  refine A.two 9 13 rfl rfl rfl rfl zK ?_ ?_
  ·refine bg rfl rfl (Ct.at zP (x4 _ e b.gl b.ld b.lk (cV 0) s1.ls fr y.dd.size (by rw [qL];exact OV) Ju.2)) ?_;rintro _ _ ⟨dS,k2,out,rfl,lN,rfl⟩;rw [qL] at lN
   refine ⟨fun _=>zE,?_⟩
   (refine tM 10 ?_;refine tk 11 _ rfl (bn rfl rfl) ?_;refine tk 12 _ rfl (bn rfl rfl) ?_)
   refine tO 13 ?_;refine bS (cs:=[.int .i64 0,.int .i64 0,nY]) rfl rfl fun C6=>⟨fun _=>zE,?_⟩
   refine tO 14 ?_;refine zg ?_;refine ⟨fun _=>zE,?_⟩;refine tO 15 ?_;refine dV (bj rfl) ?_;refine bf zK ?_;exact bH ((g8,g9,C6),out,dS,k2) lN zS zE
  ·refine bS (cs:=[.int .i64 0,.int .i64 0,nY]) rfl rfl fun C6=>⟨fun _=>zE,?_⟩
   refine tO 9 ?_;refine bg rfl rfl (Ct.at zP (x4 _ e b.gl b.ld b.lk (cV 0) s1.ls fr y.dd.size (by rw [qL];exact OV) Ju.2)) ?_;rintro _ _ ⟨dS,k2,out,rfl,lN,rfl⟩;rw [qL] at lN
   refine ⟨fun _=>zE,?_⟩
   (refine tM 10 ?_;refine tk 11 _ rfl (bn rfl rfl) ?_;refine tk 12 _ rfl (bn rfl rfl) ?_)
   refine tO 14 ?_;refine zg ?_;refine ⟨fun _=>zE,?_⟩;refine tO 15 ?_;refine dV (bj rfl) ?_;refine bf zK ?_;exact bH ((g8,g9,C6),out,dS,k2) lN zS zE
 rintro ⟨⟨g8,g9,C6⟩,out,dS,k2⟩ lN;dsimp only at lN ⊢
 refine wB ?_;refine aZ rfl rfl (ji _ e) ?_;rintro _ _ ⟨gw,rfl,rfl⟩;refine wB ?_;refine aZ rfl rfl (AC _ e gw [] ur up uq y (QO.cN (cH zP)) RO.1.1 RO.2.1 (by simp)) ?_;rintro _ _ ⟨rfl,rfl⟩;have Ry:=iN RO.1.1 RO.2.1;have TT:=RO.1.1.1;have y7:out.length≤16:=by have:=congrArg List.length lN;rw [ab] at this;omega
 rw [List.nil_append];refine wB ?_;refine aZ rfl rfl (gG _ e gw _ fr zo zo) ?_;rintro _ _ ⟨rfl,rfl⟩;refine wB ?_;refine aZ rfl rfl (gG _ e gw _ y.dd.size zo (by rw [aa,cY];omega)) ?_;rintro _ _ ⟨rfl,rfl⟩;refine wB ?_;rw [pY (show out.length<256 by omega)];refine aZ rfl rfl (mm _ e gw (hZ y++be fr 4++be y.dd.size 4) (UInt8.ofNat out.length) (by rw [aa,aa,cY,cY];omega)) ?_;rintro _ _ ⟨rfl,rfl⟩;refine wB ?_;have Xw:(hZ y++be fr 4++be y.dd.size 4++[UInt8.ofNat out.length]).length=2225:=by simp only [aa,cY,aj];omega
 have Uf:hZ y++be fr 4++be y.dd.size 4++[UInt8.ofNat out.length]++(out.map (·.2)).flatten=qh y fr y.dd.size (out.map (·.2)):=by
  unfold qh;rw [ab];simp only [aM,List.cons_append,List.nil_append,List.singleton_append]
 have Ug:∀ x∈out.map (·.2),x.length=32:=by rw [lN];exact wI.2
 have CY:=fc Ug;rw [ab] at CY
 generalize KS:hZ y++be fr 4++be y.dd.size 4++[UInt8.ofNat out.length]=pre at *
 refine br (ι:=Nat) (fun j=>[(0,pt w),(6,.int .i64 ((nq.length - s.ei.length:Nat):Int)),(8,pt g8),(13,pt gw),(24,.slice (some ⟨gq,oq,none⟩) rq.length co),(25,.int .i64 (rq.length:Int)),(26,.int .i64 (i:Int)),(74,.slice dS out.length k2),(75,.int .i64 (out.length:Int)),(76,.int .i64 (j:Int))]) (fun j=>Writer gw (pre++((out.map (·.2)).take j).flatten)::cU (.slice dS out.length k2) out::cG out::cM g8 [.int .i64 (z:Int),.int .i64 (fr:Int)] ED (0,0)::tB (.slice (some ⟨gq,oq,none⟩) rq.length co) rq::eA w c s1 b M R) (fun j=>j≤out.length) (fun j=>out.length - j) 0 (aG _) zS (by rw [List.take_zero,List.flatten_nil,aK];exact zE) ?_;intro j hj;have ach:=Cy (l:=out.map (·.2)) (i:=j)
 by_cases xU:j<out.length
 ·refine bG ((ba (show cT _ (cU (.slice dS out.length k2) out) _ from zP)).shape zo) ?_;rintro ⟨⟨lE,c',lG,yS,HX,zi,tS⟩,_⟩
  cases lG
  rcases tS with tS|⟨gr,or',rfl⟩
  ·omega
  have kh:∀ L R',cT L (cU (.slice (some ⟨gr,or',none⟩) out.length k2) out) R'→Rd L ⟨gr,or'+j,none⟩ (out[j]'xU).1:=fun L R' p=>(ba p).elem (by rw [aI,ae xU];rfl)
  have sF:∀ L R',cT L (cG out) R'→da L (out[j]'xU).1 (out[j]'xU).2:=fun L R' p=>dE.ea p _ (az xU)
  have Uh:((out.map (·.2)).take (j+1)).flatten=((out.map (·.2)).take j).flatten++(out[j]'xU).2:=by
   rw [uK (by rw [ab];exact xU),List.getElem_map]
  have hlx:=Ug _ (aD.2 ⟨_,az xU,rfl⟩)
  generalize out[j]'xU=x at *
  obtain ⟨xv,xb⟩:=x;dsimp only at kh sF Uh hlx
  refine bG (cz (sF _ _ zP)) fun ox=>?_
  refine wB ?_;refine b7 rfl (kh _ _ zP) rfl ?_;refine wB ?_;refine aZ rfl rfl (hH _ e gw _ xb xv (sF _ _ zP) (by rw [aa];omega)) ?_;rintro _ _ ⟨rfl,rfl⟩;refine wB ?_;exact bi (j+1) xU zo zS (by rw [Uh,← aM];exact zE)
 rw [aF (by rw [ab];omega),Uf];have qy:(qh y fr y.dd.size (out.map (·.2))).length≤100000:=by rw [← Uf,aa,Xw,CY];omega
 refine wB ?_;have hzk:=Ju.1
 have Ui:∀ v2:Value,nq.length<32→(b.nl++[(⟨1,0,((z:Int)+1),v2,qh y fr y.dd.size (out.map (·.2))⟩:gV)]).map gV.d=(ma s.ls.cI y (rq.take (i+1)) s.ei).map (gh.d c.k):=fun v2 h=>by
  rw [Ao,aH h,ah,ah,A3];unfold Oh;rw [← lN]
  rfl
 have Xx:¬ nq.length<32→ma s.ls.cI y (rq.take (i+1)) s.ei=nq:=fun h=>by rw [Ao,aB h]
 generalize hbd:qh y fr y.dd.size (out.map (·.2))=bd at *
 refine bl (id:=18) [] (cM g8 [.int .i64 (z:Int),.int .i64 (fr:Int)] ED (0,0)::cM w (b.cells c s1) dv (0,0)::R) mixed ?_
 (refine tM 0 ?_;refine tN 1 ?_;refine tF 2 ?_;refine tL 3 ?_;refine tF 4 ?_;refine tL 5 ?_;refine tk 6 _ rfl (cE.la rfl rfl zo) ?_;refine tM 7 ?_)
 refine tO 8 ?_;refine bg rfl rfl (hI _ e gw bd zo) ?_;rintro _ _ ⟨ep,k3,rfl,rfl⟩;refine ⟨fun _=>zE,?_⟩;refine tk 9 _ rfl (bL rfl zF) ?_;refine tO 10 ?_;refine bg rfl rfl (Ct.at zP (sf _ e b.gn 32 b.nl ⟨1,0,((z:Int)+1),.slice ep bd.length k3,bd⟩ (ba (show cT _ (cR (.slice ep bd.length k3) bd) _ from zP)) zd zo zo)) ?_;rintro _ _ (⟨pD,rfl,v2,rfl⟩|⟨pD,rfl,rfl⟩)
 ·refine ⟨fun _=>zE,?_⟩;refine bf zK ?_;have Wk:=congrArg List.length (Ui v2 zo);rw [ab,ab,aa,aj] at Wk
  have Xy:((ma s.ls.cI y (rq.take (i+1)) s.ei).length - s.ei.length:Nat)=(nq.length - s.ei.length)+1:=by omega
  refine wB ?_;refine bi (i+1,{ b with nl:=b.nl++[⟨1,0,((z:Int)+1),v2,bd⟩] }) ⟨cQ,by dsimp only;rw [PR],Ui v2 zo⟩ zd (by dsimp only;rw [Xy];exact zS) zE
 ·refine ⟨fun _=>zE,?_⟩;refine bf zK ?_;have hq:=Xx zo;refine wB ?_;refine bi (i+1,b) ⟨cQ,PR,by dsimp only;rw [hq];exact A3⟩ zd (by dsimp only;rw [hq];exact zS) zE
structure It where
 k:Nat
 n:Nat
 to:Nat
 b:dA
abbrev It.cells (x:It) (v:Value):List Value:=tU (x.k:Int) (x.n:Int) (x.to:Int) 0 v
def dh.Hj (c:dx) (s:dh) (x:It):dh × Int × Int:=match x.k with
 | 1=>(s.sub c x.b,(s.fs.fH c.f s.ls.cI x.b (s.time:Int)).1,0)
 | 2=>(s.M0 x.n,((s.M0 x.n).time:Int),0)
 | 3=>(s.Ha c,(s.J3 c:Int),0)
 | 4=>(s.iY c,if s.mP then (s.fv.dd.size:Int) else 0,if s.mP then 0 else 23)
 | 5=>(s.yG c,(s.QP c:Int),0)
 | 6=>s.Bg c x.n
 | 7=>(if x.n<s.ei.length then s.lost x.n else s,0,if x.n<s.ei.length then 0 else 1)
 | 8=>(s.Mz x.n,0,s.ET x.n)
 | 9=>((s.Ov x.n).1,0,(s.Ov x.n).2)
 | _=>(s,0,1)
def Xz (ev:List (Int × Int × Int × dA)) (s:dh):Prop:=∀ x∈ev,(x.1=3∧∃ ch:iM,s.signed=some ch∧x=(3,(ch.size:Int),0,ch.root))∨(x.1≠3∧(x.1=7∨s.fs.recs≠[]))
theorem vJ.d {ev:List (Int × Int × Int × dA)} {s:dh} (h:vJ ev s):Xz ev s:=fun x hx=>.inr (h x hx)
theorem Xh.d {ev:List (Int × Int × Int × dA)} {s:dh} (h:Xh ev s):Xz ev s:=fun x hx=>by
 rcases h with rfl|⟨ch,h1,rfl⟩
 ·cases hx
 ·rw [an.1 hx];exact .inl ⟨rfl,ch,h1,rfl⟩
end Go.Proofs
namespace Go.Proofs
attribute [local irreducible] Bs.cE Bs.Do Bs.O Bs.W Bs.Fin Bs.A Bs.Ct Bs.cF Bs.Rd Bs.Sat Bs.cM Bs.Ob Bs.dJ Bs.View Bs.cC Bs.Ex Bs.dI Bs.Pu Bs.eZ Bs.dK Bs.eh
open Go.Bs
open Tryz
variable (R:List cK) (e:World)
theorem EY (w:Nat) (c:dx) (m:Nat) (s:dh) (ev:List (Int × Int × Int × dA)) (x:It) (v:Value) (hv:da R v x.b) (hk:1≤x.k∧x.k≤9) (hn:x.n≤1000) (hb:x.b.length≤200) (hm:m<250) :
 Ct prog 25 #[ptr w,.agg (x.cells v).toArray] e (eg w c m s ev::R) (fun v' L'=>v'=.agg [.int .i64 (x.k:Int),.int .i64 (s.Hj c x).2.1,.int .i64 (s.Hj c x).2.2].toArray∧∃ X,(∃ mQ,Xz mQ (s.Hj c x).1∧X=eg w c (m+1) (s.Hj c x).1 (ev++mQ))∧L'=X::R):=by
 refine a7 (cz (hv.cN (show cC (eg w c m s ev::R) R from zE))) fun o=>?_
 obtain ⟨k,n,to,b⟩:=x;dsimp only at hv hk hn hb ⊢
 have h9:k=1∨k=2∨k=3∨k=4∨k=5∨k=6∨k=7∨k=8∨k=9:=by omega
 rcases h9 with rfl|rfl|rfl|rfl|rfl|rfl|rfl|rfl|rfl
 ·exact me R e w c m s ev 1 n to 0 v o _ (by decide) rfl _ _ _ fun R' f=>(J1 R' e w c m s ev _ n to 0 v b (hv.cN f) hb hm).mono fun v' L' h=>by
   obtain ⟨h1,mQ,h2,h3⟩:=h;exact ⟨h1,_,⟨mQ,h2.d,rfl⟩,h3⟩
 ·exact me R e w c m s ev 2 n to 0 v o _ (by decide) rfl _ _ _ fun R' f=>(G9 R' e w c m s ev _ to 0 n v o hn hm).mono fun v' L' h=>by
   obtain ⟨h1,h3⟩:=h;exact ⟨h1,_,⟨[],vJ.nil.d,by rw [aK];rfl⟩,h3⟩
 ·exact me R e w c m s ev 3 n to 0 v o _ (by decide) rfl _ _ _ fun R' f=>(Hb R' e w c m s ev _ n to 0 v o hm).mono fun v' L' h=>by
   obtain ⟨h1,mQ,h2,h3⟩:=h;exact ⟨h1,_,⟨mQ,h2.d,rfl⟩,h3⟩
 ·exact me R e w c m s ev 4 n to 0 v o _ (by decide) rfl _ _ _ fun R' f=>(J6 R' e w c m s ev _ n to 0 v o hm).mono fun v' L' h=>by
   obtain ⟨h1,mQ,h2,h3⟩:=h;exact ⟨h1,_,⟨mQ,h2.d,rfl⟩,h3⟩
 ·exact me R e w c m s ev 5 n to 0 v o _ (by decide) rfl _ _ _ fun R' f=>(Ki R' e w c m s ev _ n to 0 v o hm).mono fun v' L' h=>by
   obtain ⟨h1,h3⟩:=h;exact ⟨h1,_,⟨[],vJ.nil.d,by rw [aK];rfl⟩,h3⟩
 ·exact me R e w c m s ev 6 n to 0 v o _ (by decide) rfl _ _ _ fun R' f=>(z3 R' e w c m s ev _ to 0 n v o zo hm).mono fun v' L' h=>by
   obtain ⟨h1,mQ,h2,h3⟩:=h;exact ⟨h1,_,⟨mQ,h2.d,rfl⟩,h3⟩
 ·exact me R e w c m s ev 7 n to 0 v o _ (by decide) rfl _ _ _ fun R' f=>(Hc R' e w c m s ev _ to 0 n v o zo hm).mono fun v' L' h=>by
   obtain ⟨h1,h3⟩:=h;exact ⟨h1,_,⟨[],vJ.nil.d,by rw [aK];rfl⟩,h3⟩
 ·exact me R e w c m s ev 8 n to 0 v o _ (by decide) rfl _ _ _ fun R' f=>(CQ R' e w c m s ev _ to 0 n v o zo hm).mono fun v' L' h=>by
   obtain ⟨h1,h3⟩:=h;exact ⟨h1,_,⟨[],vJ.nil.d,by rw [aK];rfl⟩,h3⟩
 ·exact me R e w c m s ev 9 n to 0 v o _ (by decide) rfl _ _ _ fun R' f=>(EX R' e w c m s ev _ to 0 n v o zo hm).mono fun v' L' h=>by
   obtain ⟨h1,h3⟩:=h;exact ⟨h1,_,⟨[],vJ.nil.d,by rw [aK];rfl⟩,h3⟩
abbrev Hk:=Int × Int × Int
abbrev Hk.cells (o:Hk):List Value:=[.int .i64 o.1,.int .i64 o.2.1,.int .i64 o.2.2]
abbrev Uj.cells (t:It × Value):List Value:=It.cells t.1 t.2
theorem XA (t:It × Value):(Uj.cells t).length=5:=rfl
theorem MK (w:Nat) (c:dx) (m:Nat) (s:dh) (ev:List (Int × Int × Int × dA)) (vl:Value) (ts:List (It × Value)) (Inv:dh→List (Int × Int × Int × dA)→Prop) (f:dh→It→dh) (hl:cF R 5 vl ts.length (ts.flatMap Uj.cells)) (ht:∀ t∈ts,da R t.2 t.1.b) (hm:m+ts.length≤250) (h0:Inv s ev)
 (SR:∀ (R':List cK) (t:It × Value) (m:Nat) (s:dh) (ev:List (Int × Int × Int × dA)),t∈ts→m<250→da R' t.2 t.1.b→Inv s ev→Ct prog 25 #[ptr w,.agg (Uj.cells t).toArray] e (eg w c m s ev::R') (fun v' L'=>(∃ o:Hk,v'=.agg (Hk.cells o).toArray)∧∃ mQ,Inv (f s t.1) mQ∧L'=eg w c (m+1) (f s t.1) mQ::R')) :
 Ct prog 26 #[ptr w,vl] e (eg w c m s ev::R) (fun v' L'=>∃ mQ,Inv (ts.foldl (fun s t=>f s t.1) s) mQ∧L'=eg w c (m+ts.length) (ts.foldl (fun s t=>f s t.1) s) mQ::R):=by
 refine a7 ((hl.cN (show cC (eg w c m s ev::R) R from zE)).shape zo) ?_;rintro ⟨⟨ad,cl,rfl,h1,h2,h3,h4⟩,_⟩;simp only [maxLen] at h2
 refine a8 (args:=[_,_]) func26 rfl ntmps26 results26 rfl ?_;refine wB ?_;refine br (ι:=List Hk × Option Addr × Nat × List (Int × Int × Int × dA)) (fun i=>[(0,ptr w),(5,.slice i.2.1 i.1.length i.2.2.1),(8,.slice ad ts.length cl),(9,.int .i64 (ts.length:Int)),(10,.int .i64 (i.1.length:Int))]) (fun i=>dJ Rj 3 (.slice i.2.1 i.1.length i.2.2.1) i.1.length (i.1.flatMap Hk.cells)::eg w c (m+i.1.length) ((ts.take i.1.length).foldl (fun s t=>f s t.1) s) i.2.2.2::R) (fun i=>i.1.length≤ts.length∧Inv ((ts.take i.1.length).foldl (fun s t=>f s t.1) s) i.2.2.2) (fun i=>ts.length - i.1.length) ([],none,0,ev) ⟨aG _,h0⟩ zS (di Rj 3) ?_;rintro ⟨os,ao,ko,RP⟩ ⟨hle,hinv⟩;dsimp only at hle hinv ⊢
 by_cases cQ:os.length<ts.length
 rotate_left
 ·have XB:os.length=ts.length:=by omega
  rw [XB,List.take_length] at hinv ⊢
  refine wB ?_;exact aY (eg w c (m+ts.length) (ts.foldl (fun s t=>f s t.1) s) RP::R) rfl zE ⟨RP,hinv,rfl⟩
 rcases h4 with h4|⟨gl,ol,rfl⟩
 ·omega
 have hg:ts[os.length]?=some (ts[os.length]'cQ):=ae cQ;have sC:ts[os.length]'cQ∈ts:=az cQ;have fq:ts.take (os.length+1)=ts.take os.length++[ts[os.length]'cQ]:=aA cQ
 generalize ts[os.length]'cQ=t at hg sC fq
 have hr:eh R gl (ol+os.length*5) (Uj.cells t):=eh.elem hl XA hg;have O5:=ht t sC;refine bG (cz (O5.cN (show cC _ R from zE))) fun o=>?_
 generalize fy:(ts.take os.length).foldl (fun s t=>f s t.1) s=s1 at hinv ⊢
 have kY:(ts.take (os.length+1)).foldl (fun s t=>f s t.1) s=f s1 t.1:=by rw [fq,List.foldl_append,fy];rfl
 (repeat (refine wA ?_;intros))
 rename_i g7;refine aZ rfl rfl (Ct.at zP (SR _ t (m+os.length) s1 RP sC zo (O5.cN zE) hinv)) ?_;rintro _ _ ⟨⟨ou,rfl⟩,Of,Uk,rfl⟩
 (repeat (refine wA ?_;intros))
 rename_i gb;refine bD (bm rfl rfl rfl (show cT _ (dJ Rj 3 (.slice ao os.length ko) os.length (os.flatMap Hk.cells)) _ from zP) (bQ (n:=3) (c:=1) zP rfl zl) rfl rfl zO zm zo fun dW k1 _=>?_)
 refine wB ?_;refine bi (os++[ou],dW,k1,Of) ⟨by dsimp only;rw [aa,aj];omega,by dsimp only;rw [aa,aj,kY];exact Uk⟩ (by dsimp only;rw [aa,aj];omega) ?_ ?_
 ·simp only [aa,aj];exact zS
 ·simp only [aa,aj,aW,aV,List.flatMap_nil,aK];rw [kY,← Nat.add_assoc];exact zE
theorem ML {w:Nat} {c:dx} {m:Nat} {s:dh} {ev:List (Int × Int × Int × dA)} {L R:List cK} {P:Program} {N:Fr} {all:Array Oper} {l:List Oper} {Q:fM} {σ:Env} {e:World} (p:cT L (eg w c m s ev) R)
 (h:∀ (a:eO) (M:cK),a.ok M w c m s→a.es.map (fun x=>(x.k,x.a,x.b,x.t))=ev→O P N all l Q σ e (eA w c s a M R)):O P N all l Q σ e L :=
 O.ex (f:=fun a:eO=>Ex fun M:cK=>dI [Pu (a.es.map (fun x=>(x.k,x.a,x.b,x.t))=ev),vI w c m s a M]) (show cT L (Ex fun a:eO=>Ex fun M:cK=>dI [Pu (a.es.map (fun x=>(x.k,x.a,x.b,x.t))=ev),vI w c m s a M]) R from p) fun a=>O.ex .zero fun M=>O.fo (cW (M:=[Pu (a.es.map (fun x=>(x.k,x.a,x.b,x.t))=ev),vI w c m s a M]) (L:=R)) (bo (p:=a.es.map (fun x=>(x.k,x.a,x.b,x.t))=ev) (fun w x=>(ke x).1) fun he=>O.fo (cC.drop aX) (O.fo (cW (M:=Pu (a.ok M w c m s)::eA w c s a M []) (L:=R)) (bo (p:=a.ok M w c m s) (fun w x=>(ke x).1) fun hp=>O.fo (cC.drop aX) (h a M hp he))))
theorem nx (w:Nat) (c:dx) (s:dh) (a:eO) :
 Ct prog 28 #[ptr w] e (cM w (a.cells c s) dv (0,0)::R) (fun v' L'=>v'=ptr a.gu∧L'=cM w (a.cells c s) dv (0,0)::R):=by
 refine a8 (args:=[_]) func28 rfl ntmps28 results28 rfl ?_;refine wB ?_;exact aY (cM w (a.cells c s) dv (0,0)::R) rfl zE ⟨rfl,rfl⟩
theorem CS (w:Nat) (c:dx) (s:dh) (a:eO) :
 Ct prog 31 #[ptr w] e (cM w (a.cells c s) dv (0,0)::R) (fun v' L'=>v'=ptr a.gl∧L'=cM w (a.cells c s) dv (0,0)::R):=by
 refine a8 (args:=[_]) func31 rfl ntmps31 results31 rfl ?_;refine wB ?_;exact aY (cM w (a.cells c s) dv (0,0)::R) rfl zE ⟨rfl,rfl⟩
theorem EZ (w:Nat) (c:dx) (s:dh) (a:eO) :
 Ct prog 59 #[ptr w] e (cM w (a.cells c s) dv (0,0)::R) (fun v' L'=>v'=ptr a.gf∧L'=cM w (a.cells c s) dv (0,0)::R):=by
 refine a8 (args:=[_]) func59 rfl ntmps59 results59 rfl ?_;refine wB ?_;exact aY (cM w (a.cells c s) dv (0,0)::R) rfl zE ⟨rfl,rfl⟩
theorem z4 (w:Nat) (c:dx) (s:dh) (a:eO) :
 Ct prog 34 #[ptr w] e (cM w (a.cells c s) dv (0,0)::R) (fun v' L'=>v'=ptr a.gm∧L'=cM w (a.cells c s) dv (0,0)::R):=by
 refine a8 (args:=[_]) func34 rfl ntmps34 results34 rfl ?_;refine wB ?_;exact aY (cM w (a.cells c s) dv (0,0)::R) rfl zE ⟨rfl,rfl⟩
theorem Kj (w:Nat) (c:dx) (s:dh) (a:eO) :
 Ct prog 61 #[ptr w] e (cM w (a.cells c s) dv (0,0)::R) (fun v' L'=>v'=ptr a.gn∧L'=cM w (a.cells c s) dv (0,0)::R):=by
 refine a8 (args:=[_]) func61 rfl ntmps61 results61 rfl ?_;refine wB ?_;exact aY (cM w (a.cells c s) dv (0,0)::R) rfl zE ⟨rfl,rfl⟩
theorem z5 (w:Nat) (c:dx) (s:dh) (a:eO) (j:Nat) (hj:j<a.wx.length) (hl:a.wx.length≤1000) :
 Ct prog 45 #[ptr w,.int .i64 (j:Int)] e (cM w (a.cells c s) dv (0,0)::dJ tT 1 a.pg a.wx.length (a.wx.map l9)::R) (fun v' L'=>v'=ptr (a.wx[j]'hj).g∧L'=cM w (a.cells c s) dv (0,0)::dJ tT 1 a.pg a.wx.length (a.wx.map l9)::R):=by
 refine a7 ((ba (show cT (cM w (a.cells c s) dv (0,0)::dJ tT 1 a.pg a.wx.length (a.wx.map l9)::R) (dJ tT 1 a.pg a.wx.length (a.wx.map l9)) _ from zP)).shape zo) ?_;rintro ⟨⟨Fe,cw,C5,yS,HX,zi,tS⟩,_⟩;rcases tS with tS|⟨gq,oq,rfl⟩
 ·omega
 have OK:∀ (L R':List cK),cT L (dJ tT 1 (.slice (some ⟨gq,oq,none⟩) a.wx.length cw) a.wx.length (a.wx.map l9)) R'→Rd L ⟨gq,oq+j,none⟩ (ptr (a.wx[j]'hj).g):=fun L R' pl=>(ba pl).elem (by rw [aI,ae hj];rfl)
 generalize a.wx[j]'hj=y at OK ⊢
 refine a8 (args:=[_,_]) func45 rfl ntmps45 results45 rfl ?_;refine wB ?_;rw [C5];refine wB ?_;rw [C5]
 (repeat (refine wA ?_;intros))
 refine b7 rfl (OK _ _ zP) rfl ?_;refine wB ?_;rw [← C5];exact aY (cM w (a.cells c s) dv (0,0)::dJ tT 1 a.pg a.wx.length (a.wx.map l9)::R) rfl zE ⟨rfl,rfl⟩
theorem E0 (w:Nat) (c:dx) (m:Nat) (s:dh) (ev:List (Int × Int × Int × dA)) :
 Ct prog 81 #[ptr w,.agg (il c).toArray] e (eg w c m s ev::R) (fun v' L'=>v'=.bool true∧L'=eg w c m s ev::R):=by
 refine iT fun a M ha he=>?_
 have Lx:=ha.st.Cc.k
 have CD:a.wx.length=c.k:=by
  obtain ⟨vl,vu,vs,NO,Ka,-⟩:=ha.all.all;exact Ka
 refine a8 (args:=[_,_]) func81 rfl ntmps81 results81 rfl ?_
 (repeat (refine wA ?_;intros))
 refine aZ rfl rfl (Ct.at zP (CS _ e w c s a)) ?_;rintro _ _ ⟨rfl,rfl⟩;refine wB ?_;refine aZ rfl rfl (Ct.at zP (EZ _ e w c s a)) ?_;rintro _ _ ⟨rfl,rfl⟩;refine wB ?_;refine aZ rfl rfl (Ct.at zP (nx _ e w c s a)) ?_;rintro _ _ ⟨rfl,rfl⟩;refine wB ?_;refine aZ rfl rfl (Ct.at zP (z4 _ e w c s a)) ?_;rintro _ _ ⟨rfl,rfl⟩;refine wB ?_;refine aZ rfl rfl (Ct.at zP (Kj _ e w c s a)) ?_;rintro _ _ ⟨rfl,rfl⟩;refine wB ?_;rename_i g3;refine br (ι:=Nat) (fun i=>[(0,ptr w),(3,ptr g3),(5,.int .i64 (i:Int))]) (fun _=>cM g3 (il c) jJ (0,0)::eA w c s a M R) (fun i=>i≤c.k) (fun i=>c.k - i) 0 (aG _) zS zE ?_;intro i hi
 by_cases cQ:i<c.k
 rotate_left
 ·refine wB ?_;exact aY (eg w c m s ev::R) rfl (cn (show cC _ (eA w c s a M R) from zE) (eo ha he)) ⟨rfl,rfl⟩
 refine wB ?_;refine aZ rfl rfl (Ct.C9 zP zP (z5 _ e w c s a i zo zo)) ?_;rintro _ _ ⟨rfl,rfl⟩;refine wB ?_;exact bi (i+1) zo zo zS zE
theorem Hl (c:dx) (hc:c.ok) :
 Ct prog 23 #[.agg (il c).toArray] e R (fun v' L'=>∃ w,v'=ptr w∧L'=eg w c 0 (px c) []::R):=by
 refine a8 (args:=[_]) func23 rfl ntmps23 results23 rfl ?_
 (repeat (refine wA ?_;intros))
 refine aZ rfl rfl (Kh _ e c hc) ?_;rintro _ _ ⟨w,rfl,rfl⟩;refine wB ?_;refine aZ rfl rfl (E0 _ e w c 0 (px c) []) ?_;rintro _ _ ⟨rfl,rfl⟩;refine wB ?_;exact aY (eg w c 0 (px c) []::R) rfl zE ⟨w,rfl,rfl⟩
def MM (n q room size wait retry:Int):dx:=⟨(within n 1 3).toNat,(within q 1 (within n 1 3)).toNat,(within room 1 16).toNat,(within size 1 8).toNat,(within wait 0 6).toNat,(within retry 1 4).toNat⟩
theorem E1 (n q room size wait retry:Int) (h1:-9223372036854775808≤n∧n≤9223372036854775807) (h2:-9223372036854775808≤q∧q≤9223372036854775807) (h3:-9223372036854775808≤room∧room≤9223372036854775807) (h4:-9223372036854775808≤size∧size≤9223372036854775807) (h5:-9223372036854775808≤wait∧wait≤9223372036854775807) (h6:-9223372036854775808≤retry∧retry≤9223372036854775807) :
 Ct prog 22 #[.int .i64 n,.int .i64 q,.int .i64 room,.int .i64 size,.int .i64 wait,.int .i64 retry] e R (fun v' L'=>v'=.agg (il (MM n q room size wait retry)).toArray∧R=L'):=by
 have b1:=eQ n 1 3 zo;have b2:=eQ q 1 (within n 1 3) zo;have b3:=eQ room 1 16 zo;have b4:=eQ size 1 8 zo;have b5:=eQ wait 0 6 zo;have b6:=eQ retry 1 4 zo
 have hcc:il (MM n q room size wait retry)=[.int .i64 (within n 1 3),.int .i64 (within q 1 (within n 1 3)),.int .i64 (within room 1 16),.int .i64 (within size 1 8),.int .i64 (within wait 0 6),.int .i64 (within retry 1 4),.int .i64 1048576,.string (str jV)]:=by
  simp only [il,MM];rw [Int.toNat_of_nonneg zo,Int.toNat_of_nonneg zo,Int.toNat_of_nonneg zo,Int.toNat_of_nonneg zo,Int.toNat_of_nonneg zo,Int.toNat_of_nonneg zo]
 rw [hcc];refine bI (args:=[_,_,_,_,_,_]) func22 rfl ntmps22 results22 rfl ?_
 (repeat (refine wA ?_;intros))
 refine aZ rfl rfl (fC _ e n 1 3 h1 zo) ?_;rintro _ _ ⟨rfl,rfl⟩;refine wB ?_;refine aZ rfl rfl (fC _ e q 1 (within n 1 3) h2 zo) ?_;rintro _ _ ⟨rfl,rfl⟩
 (repeat (refine wA ?_;intros))
 refine aZ rfl rfl (fC _ e room 1 16 h3 zo) ?_;rintro _ _ ⟨rfl,rfl⟩
 (repeat (refine wA ?_;intros))
 refine aZ rfl rfl (fC _ e size 1 8 h4 zo) ?_;rintro _ _ ⟨rfl,rfl⟩
 (repeat (refine wA ?_;intros))
 refine aZ rfl rfl (fC _ e wait 0 6 h5 zo) ?_;rintro _ _ ⟨rfl,rfl⟩
 (repeat (refine wA ?_;intros))
 refine aZ rfl rfl (fC _ e retry 1 4 h6 zo) ?_;rintro _ _ ⟨rfl,rfl⟩;refine wB ?_;apply bB
 ·exact zV
 exact ⟨R,zE,rfl,rfl⟩
abbrev qn (k n:Nat):It:=⟨k,n,0,[]⟩
def sk (leaf:Nat):List It:=[qn 2 1,qn 3 0,qn 4 0,qn 5 0]++List.replicate 32 (qn 6 0)++[qn 9 leaf,qn 6 0]
def sm (leaf:Nat):List (It × Value):=(sk leaf).map fun x=>(x,nz)
abbrev Oz (x:It):List Value:=It.cells x nz
theorem CT (leaf:Nat):(sm leaf).flatMap Uj.cells=(sk leaf).flatMap Oz:=by
 unfold sm;rw [List.flatMap_map]
theorem Hm (n:Value) (leaf:Nat) :
 Ct prog 27 #[n,.int .i64 (leaf:Int)] e R (fun v' L'=>∃ ad k,v'=.slice ad 38 k∧L'=dJ iU 5 (.slice ad 38 k) 38 ((sk leaf).flatMap Oz)::R):=by
 refine a8 (args:=[_,_]) func27 rfl ntmps27 results27 rfl ?_
 (repeat (refine wA ?_;intros))
 rename_i g1;obtain ⟨l4,MU⟩:∃ l4:List It,l4=[qn 2 1,qn 3 0,qn 4 0,qn 5 0]:=⟨_,rfl⟩
 have hl:l4.length=4:=by rw [MU];rfl
 refine W.fo (show cC _ (dJ iU 5 (.slice (some ⟨g1,0,none⟩) 4 4) 4 (l4.flatMap Oz)::R) from ?_) ?_
 ·have:=fW (E:=iU) (n:=5) (k:=4) (g:=g1) (cap:=4) (cur:=l4.flatMap Oz) (R:=R) (aT _) zm (by rw [MU];rfl);rw [aF (by rw [MU];exact aT _)] at this
  refine cn (show cC _ (cM g1 (l4.flatMap Oz) iU (0,0)::R) from ?_) this;rw [MU];exact zE
 refine br (ι:=Nat × Option Addr × Nat) (fun i=>[(1,.int .i64 (leaf:Int)),(5,.slice i.2.1 (4+i.1) i.2.2),(11,.int .i64 (i.1:Int))]) (fun i=>dJ iU 5 (.slice i.2.1 (4+i.1) i.2.2) (4+i.1) ((l4++List.replicate i.1 (qn 6 0)).flatMap Oz)::R) (fun i=>i.1≤32) (fun i=>32 - i.1) (0,some ⟨g1,0,none⟩,4) (aG _) zS (by dsimp only;rw [List.replicate_zero,aK];exact zE) ?_;rintro ⟨j,ad,k⟩ hj;dsimp only at hj ⊢
 by_cases cQ:j<32
 ·(repeat (refine wA ?_;intros))
  rename_i g2;refine bD (bm rfl rfl rfl (show cT _ (dJ iU 5 (.slice ad (4+j) k) (4+j) ((l4++List.replicate j (qn 6 0)).flatMap Oz)) _ from zP) (bQ (n:=5) (c:=1) zP rfl zl) rfl rfl zO zm zo fun dW k1 _=>?_)
  refine wB ?_;refine bi (j+1,dW,k1) zd zd zS ?_;dsimp only;rw [show l4++List.replicate (j+1) (qn 6 0)=(l4++List.replicate j (qn 6 0))++[qn 6 0] by rw [List.replicate_succ',aM],aW (xs:=l4++List.replicate j (qn 6 0))];exact zE
 ·obtain rfl:j=32:=by omega
  (repeat (refine wA ?_;intros))
  rename_i g2;refine bD (bm rfl rfl rfl (show cT _ (dJ iU 5 (.slice ad (4+32) k) (4+32) ((l4++List.replicate 32 (qn 6 0)).flatMap Oz)) _ from zP) (bQ (n:=5) (c:=2) zP rfl zl) rfl rfl zO zm zo fun dW k1 _=>?_)
  refine wB ?_;refine aY (dJ iU 5 (.slice dW 38 k1) 38 ((sk leaf).flatMap Oz)::R) rfl ?_ ⟨dW,k1,rfl,rfl⟩;rw [show sk leaf=(l4++List.replicate 32 (qn 6 0))++[qn 9 leaf,qn 6 0] by rw [MU];rfl,aW (xs:=l4++List.replicate 32 (qn 6 0))];exact zE
theorem E2 (leaf:Nat) (hl:leaf≤1000):∀ t∈sm leaf,t.1.b=[]∧t.2=nz∧(1≤t.1.k∧t.1.k≤9)∧t.1.n≤1000:=by
 intro t ht;obtain ⟨x,hx,rfl⟩:=aD.1 ht
 have:x=qn 2 1∨x=qn 3 0∨x=qn 4 0∨x=qn 5 0∨x=qn 6 0∨x=qn 9 leaf:=by
  unfold sk at hx
  rcases aJ.1 hx with hx|hx
  ·rcases aJ.1 hx with hx|hx
   ·simp only [aQ,aO,or_false] at hx
    rcases hx with h|h|h|h<;>simp [h]
   ·rw [(List.mem_replicate.1 hx).2];simp
  ·simp only [aQ,aO,or_false] at hx
   rcases hx with h|h<;>simp [h]
 rcases this with rfl|rfl|rfl|rfl|rfl|rfl<;>refine ⟨rfl,rfl,⟨?_,?_⟩,?_⟩<;>first|exact hl|(dsimp only;omega)
theorem XC (c:dx) (s:dh) (n:Nat):(s.Hj c (qn 2 n)).1=s.M0 n:=rfl
theorem XD (c:dx) (s:dh) (n:Nat):(s.Hj c (qn 3 n)).1=s.Ha c:=rfl
theorem XE (c:dx) (s:dh) (n:Nat):(s.Hj c (qn 4 n)).1=s.iY c:=rfl
theorem XF (c:dx) (s:dh) (n:Nat):(s.Hj c (qn 5 n)).1=s.yG c:=rfl
theorem Ul (c:dx) (s:dh) (n:Nat):(s.Hj c (qn 6 n)).1=(s.Bg c n).1:=rfl
theorem XG (c:dx) (s:dh) (n:Nat):(s.Hj c (qn 9 n)).1=(s.Ov n).1:=rfl
theorem XH (c:dx) (s:dh) (b:dA):s.Hj c ⟨1,0,0,b⟩=(s.sub c b,(s.fs.fH c.f s.ls.cI b (s.time:Int)).1,0):=rfl
def dh.OJ (c:dx) (s:dh) (leaf:Nat):dh:=(sm leaf).foldl (fun s t=>(s.Hj c t.1).1) s
def dh.yN (c:dx):Nat→dh→dh
 | 0,s=>s
 | k+1,s=>dh.yN c k (s.Bg c 0).1
theorem Bk (c:dx):∀ (k:Nat) (s:dh),(List.replicate k (qn 6 0)).foldl (fun s x=>(dh.Hj c s x).1) s=s.yN c k
 | 0,s=>rfl
 | k+1,s=>by
  rw [List.replicate_succ,List.foldl_cons,Bk c k,Ul]
  rfl
theorem dh.Rk (c:dx) (s:dh) (leaf:Nat):s.OJ c leaf=((((((((s.M0 1).Ha c).iY c).yG c).yN c 32).Ov leaf).1).Bg c 0).1:=by
 unfold dh.OJ sm;rw [List.foldl_map];unfold sk;rw [List.foldl_append,List.foldl_append,Bk];simp only [List.foldl_cons,List.foldl_nil,XC,XD,XE,XF,Ul,XG]
theorem Um:∀ k:Nat,C7.yN cA k=C7
 | 0=>rfl
 | k+1=>by
  unfold dh.yN;rw [T6];exact Um k
theorem Rl:QW.OJ cA 0=Pl:=by
 rw [dh.Rk,TY,TZ,T0,T3];rw [show RL.yN cA 32=(RL.Bg cA 0).1.yN cA 31 from by rw [dh.yN],T4];rw [show QY.yN cA 31=(QY.Bg cA 0).1.yN cA 30 from by rw [dh.yN],T5,Um,Xn,Xo]
theorem XI:MM 1 1 4 1 0 1=cA:=by
 unfold MM;rw [show within 1 1 3=1 by decide,show within 1 1 1=1 by decide,show within 4 1 16=4 by decide,show within 1 1 8=1 by decide,show within 0 0 6=0 by decide,show within 1 1 4=1 by decide]
 rfl
theorem Hn :
 Ct prog 21 #[] e R (fun v' L'=>v'=.bool true∧R=L'):=by
 refine a8 (args:=[]) func21 rfl ntmps21 results21 rfl ?_;refine wB ?_;refine aZ rfl rfl (E1 _ e 1 1 4 1 0 1 zo zo zo zo zo zo) ?_;rintro _ _ ⟨rfl,rfl⟩;rw [XI]
 (repeat' first|refine Za ?_|refine Zb ?_|apply Zc|apply Zd|apply Ze|apply Zf|refine Zh ?_|refine Zi ?_|refine Zj ?_|refine Zl ?_|refine Zm ?_|refine Zn ?_|refine Zo ?_|refine Zq ?_|refine Zs ?_|refine Zt ?_|refine Zu ?_|refine ZM ?_|refine ZN ?_|refine ZO (fun _=>?_) fun _=>?_|refine ZP ?_|refine ZQ ?_|refine Z7 ?_|refine Z8 ?_|refine Yd ?_|refine Ye ?_|refine Yh fun _=>?_|refine Yz ?_|refine YA ?_|apply YC|apply YE|apply YF|refine YQ ?_|refine YR ?_|(apply O.dj;exact rfl;exact zP;(first|(simp only [aC,Nat.add_zero,Nat.reduceAdd,List.drop_succ_cons,List.drop_zero,List.take_succ_cons,List.take_zero];done)|(simp only [aC,Nat.add_zero,Nat.reduceAdd,List.drop_succ_cons,List.drop_zero,List.take_succ_cons,List.take_zero];exact rfl));exact rfl;exact rfl))
 refine aZ rfl rfl (Hl _ e cA Pj) ?_;rintro _ _ ⟨w,rfl,rfl⟩;refine wB ?_;refine aZ rfl rfl (F9 _ e 0 1 1 zo zo zo) ?_;rintro _ _ ⟨ad,k,rfl,rfl⟩;rw [show xK 0 1 1=bA from rfl]
 (repeat (refine wA ?_;intros))
 refine aZ rfl rfl (Ct.at zP (EY _ e w cA 0 (px cA) [] ⟨1,0,0,bA⟩ (.slice ad bA.length k) (ba zP) (by decide) (by decide) Bi.2.1 zo)) ?_;rintro _ _ ⟨rfl,X,⟨RP,-,rfl⟩,rfl⟩;rw [XH,QZ.1,QZ.2]
 (repeat (refine wA ?_;intros))
 refine aZ rfl rfl (Hm _ e _ 0) ?_;rintro _ _ ⟨dS,k2,rfl,rfl⟩;have so:=E2 0 zo;refine aZ rfl rfl (Ct.at (show cT _ (eg w cA (0+1) QW ([]++RP)) _ from zP) (MK _ e w cA 1 QW ([]++RP) (.slice dS 38 k2) (sm 0) (fun _ _=>True) (fun s x=>(s.Hj cA x).1) (by rw [CT];exact ba zP) (fun t ht=>by obtain ⟨h1,h2,-⟩:=so t ht;rw [h1,h2];exact cF.nil _ _) (by decide) trivial ?_)) ?_
 ·intro R' t m s ev ht hm hb _;obtain ⟨h1,h2,h3,h4⟩:=so t ht;refine (EY R' e w cA m s ev t.1 t.2 hb h3 h4 (by rw [h1];exact aG _) hm).mono fun v' L' h=>?_
  obtain ⟨h5,X,⟨mQ,-,rfl⟩,rfl⟩:=h;exact ⟨⟨(_,_,_),h5⟩,ev++mQ,trivial,rfl⟩
 rintro _ _ ⟨Of,-,rfl⟩;rw [show (sm 0).foldl (fun s t=>(s.Hj cA t.1).1) QW=QW.OJ cA 0 from rfl,Rl];refine wB ?_;refine ML (show cT _ (eg w cA _ Pl Of) _ from zP) fun a M ha he=>?_
 refine aZ rfl rfl (Ct.at zP (nx _ e w cA Pl a)) ?_;rintro _ _ ⟨rfl,rfl⟩;refine wB ?_;refine aZ rfl rfl (Ct.at zP (nx _ e w cA Pl a)) ?_;rintro _ _ ⟨rfl,rfl⟩
 (repeat (refine wA ?_;intros))
 refine aZ rfl rfl (Ct.at zP (rj _ e a.gu a.ud jV (df cA) Pl.up)) ?_;rintro _ _ ⟨rfl,rfl⟩;rw [T7];refine wB ?_;exact aY R rfl zE ⟨rfl,rfl⟩
abbrev vK (v:Value) (l:List UInt8):cK:=Di na v l.length (l.map u8)
theorem CU (ad:Option Addr) (c:Nat) (b:List UInt8) (n:Nat) (hn:n<4294967296) (hl:b.length+4≤140737488355328) :
 Ct prog 146 #[.slice ad b.length c,.int .u32 n] e (vK (.slice ad b.length c) b::R) (fun v' L'=>∃ ad c,v'=.slice ad (b++be n 4).length c∧L'=vK (.slice ad (b++be n 4).length c) (b++be n 4)::R):=by
 refine a8 (args:=[_,_]) func146 rfl ntmps146 results146 rfl ?_
 (repeat (refine wA ?_;intros))
 have e1:[Value.int .u8 (IntKind.u8.wrap ((n:Int).fdiv (2 ^ min (24:Int).toNat IntKind.u32.bits))),.int .u8 (IntKind.u8.wrap ((n:Int).fdiv (2 ^ min (16:Int).toNat IntKind.u32.bits))),.int .u8 (IntKind.u8.wrap ((n:Int).fdiv (2 ^ min (8:Int).toNat IntKind.u32.bits))),.int .u8 (IntKind.u8.wrap (n:Int))]=(be n 4).map u8:=by
  have a1:=jO n 24 32 zo;have a2:=jO n 16 32 zo;have a3:=jO n 8 32 zo;have b:=xl n
  show [Value.int .u8 (IntKind.u8.wrap ((n:Int).fdiv (2 ^ min 24 32))),.int .u8 (IntKind.u8.wrap ((n:Int).fdiv (2 ^ min 16 32))),.int .u8 (IntKind.u8.wrap ((n:Int).fdiv (2 ^ min 8 32))),.int .u8 (IntKind.u8.wrap (n:Int))]=_
  rw [a1,a2,a3,b]
  simp [be,u8]
 rw [e1];refine bD (Do.Hy rfl rfl rfl (.succ .zero) (bu .zero (by rw [ab,cY]) zl) rfl jS zm zo fun dS c2=>?_)
 rw [← cY n 4,← aa,← ah];refine wB ?_;exact aY (vK (.slice dS (b++be n 4).length c2) (b++be n 4)::R) rfl zE ⟨dS,c2,rfl,rfl⟩
theorem yO (vr:Value) (c:iM) (hv:da R vr c.root) (hc:c.right) :
 Ct prog 261 #[.agg (gX c vr).toArray] e R (fun v' L'=>v'=.bool true∧R=L'):=by
 refine a7 (cF.shape hv (by have:=hc.2;omega)) ?_;rintro ⟨⟨ad,cap,rfl,h3,h4,h5,h6⟩,_⟩;have h1:=hc.1;have h2:=hc.2;refine a8 (args:=[_]) func261 rfl ntmps261 results261 rfl ?_
 (repeat (refine wA ?_;intros))
 exact aY R rfl zE ⟨rfl,rfl⟩
theorem z6 (vr:Value) (t:List UInt8) (c:iM) (hv:da R vr c.root) (hc:c.right) (ht:t.length≤1000) :
 Ct prog 194 #[.string (str t),.agg (gX c vr).toArray] e R (fun v' L'=>∃ ad k,v'=.slice ad (t++be c.size 4++c.root).length k∧L'=vK (.slice ad (t++be c.size 4++c.root).length k) (t++be c.size 4++c.root)::R):=by
 have h1:=hc.1;have h2:=hc.2;have BH:=cY c.size 4;refine a7 (cz hv) fun ho=>?_
 refine a8 (args:=[_,_]) func194 rfl ntmps194 results194 rfl ?_
 (repeat (refine wA ?_;intros))
 rename_i g;refine aZ rfl rfl (yO _ e vr c hv.tail hc) ?_;rintro _ _ ⟨rfl,rfl⟩;refine wB ?_;refine bl (id:=3) [9] (cM g (gX c vr) 83 (0,0)::R) mixed ?_
 (refine tM 0 ?_)
 (refine tF 2 ?_;refine tL 3 ?_;refine tk 4 _ rfl (cE.nD rfl zw) ?_;refine tF 6 ?_;refine tL 7 ?_)
 refine tO 1 ?_;refine Do.PH rfl zm rfl fun K5 c0=>⟨fun _=>zE,?_⟩
 refine tO 5 ?_;refine bg rfl rfl (CU _ e K5 c0 t c.size zo zo) ?_;rintro _ _ ⟨dW,c1,rfl,rfl⟩;refine ⟨fun _=>zE,?_⟩;have Z5:(t++be c.size 4).length=t.length+4:=by rw [aa,BH]
 generalize t++be c.size 4=b at *
 refine tO 8 ?_;refine Do.Hy rfl rfl rfl .zero (cF.cN hv zE) rfl jS zm zo fun dS c2=>⟨fun _=>zE,?_⟩
 rw [← aa,← ah]
 ((refine tO 9 ?_;refine dV (bj rfl) ?_))
 refine bf zK ?_;refine wB ?_;exact aY (vK (.slice dS (b++c.root).length c2) (b++c.root)::R) rfl zE ⟨dS,c2,rfl,rfl⟩
theorem CV (vr:Value) (c:iM) (hv:da R vr c.root) (hc:c.right) :
 Ct prog 106 #[.agg (gX c vr).toArray] e R (fun v' L'=>∃ ad k,v'=.slice ad (iQ c).length k∧L'=vK (.slice ad (iQ c).length k) (iQ c)::R):=by
 refine a7 (cz hv) fun ho=>?_
 refine a8 (args:=[_]) func106 rfl ntmps106 results106 rfl ?_
 (repeat (refine wA ?_;intros))
 rename_i g;refine aZ rfl rfl (z6 _ e vr rM c hv.tail hc (by decide)) ?_;rintro _ _ ⟨ad,k,rfl,rfl⟩;rw [show rM++be c.size 4++c.root=iQ c from rfl];refine wB ?_;exact aY (vK (.slice ad (iQ c).length k) (iQ c)::R) rfl zE ⟨ad,k,rfl,rfl⟩
def wo (seed:List UInt8) (cI:List (List UInt8)):jU:=qZ seed (cI.length % 16) ⟨cI.length,dR (cI.map cZ)⟩
theorem qo (R L0:List cK) (e:World) (f0:cC R L0) (g:Nat) (v vl w:Value) (seed:List UInt8) (ts:List dX) (hv:da R v seed) (hs:seed.length≤1000) (hl:x6 L0 vl (er seed)) (hw:cF R 1 w ts.length (ts.map (·.1))) (ht:dE R ts) (hb:∀ a∈ts,a.2.length≤1000) (hn:ts.length≤256) :
 Ct prog 40 #[pt g,w] e (cM g [v,vl] fL (0,0)::R) (fun v' L'=>∃ (A:cK) (vr vp vq:Value),v'=.agg (dT (wo seed (ts.map (·.2))) vr vp vq).toArray∧ff (A::L0) vr vp vq (wo seed (ts.map (·.2)))∧L'=A::cM g [v,vl] fL (0,0)::R):=by
 refine a7 (fun h x=>hw.shape zo h (kM x)) ?_;rintro ⟨⟨Fe,cw,rfl,h3,h4,h5,h6⟩,_⟩;refine bI (args:=[_,_]) func40 rfl ntmps40 results40 rfl ?_
 (repeat (refine wA ?_;intros))
 rename_i g4;refine aZ rfl rfl (xg _ e _ ts (cF.cN hw zE) (fun x hx=>(ht x hx).cN zE) (fun a ha=>by have:=hb a ha;omega) zo) ?_;rintro _ _ ⟨dW,c1,ls,rfl,FN,rfl⟩;have CZ:ls.length=ts.length:=by have:=congrArg List.length FN;rwa [ab,ab,ab] at this
 have Un:∀ a∈ls,a.2.length=32:=lU FN (fun a ha=>by obtain ⟨b,_,rfl⟩:=aD.1 ha;exact de _ _)
 (repeat' first|refine Za ?_|apply Zc|apply Zd|apply Ze|apply Zf|refine Zi ?_|refine Zj ?_|refine Zk ?_|refine Yd ?_|refine Ye ?_|refine Yh fun _=>?_|refine Ym ?_|apply YE|apply YF|refine YL ?_|refine YQ ?_|refine YR ?_|(apply O.dj;exact rfl;exact zP;(first|(simp only [aC,Nat.add_zero,Nat.reduceAdd,List.drop_succ_cons,List.drop_zero,List.take_succ_cons,List.take_zero];done)|(simp only [aC,Nat.add_zero,Nat.reduceAdd,List.drop_succ_cons,List.drop_zero,List.take_succ_cons,List.take_zero];exact rfl));exact rfl;exact rfl))
 refine aZ rfl rfl (y4 ls.length _ e _ ls rfl (ba .zero) (dE.tail ef) (fun a ha=>by have:=Un a ha;omega) zo) ?_;rintro vr _ ⟨A0,rfl,tm⟩;have MP:da [A0,cG ls] vr (dR (ls.map (·.2))):=tm _ ef;clear tm;have hlen:(dR (ls.map (·.2))).length=32:=x5 (fun a ha=>by obtain ⟨b,hb,rfl⟩:=aD.1 ha;exact Un b hb);have RD:dR (ls.map (·.2))=dR ((ts.map (·.2)).map cZ):=by rw [FN]
 generalize dR (ls.map (·.2))=rt at *
 refine bo (cF.shape (cF.cN MP (show cC _ [A0,cG ls] from zE)) zo) ?_;rintro ⟨⟨qN,cr,rfl,_,_,_,_⟩,_⟩;have hc:iM.right ⟨ts.length,rt⟩:=⟨hn,hlen⟩
 have nZ:=lY hc;have XJ:((ts.length:Nat):Int).tmod 16=((ts.length % 16:Nat):Int):=by rw [Int.tmod_eq_emod_of_nonneg zo];omega
 have Jr:wo seed (ts.map (·.2))=qZ seed (ts.length % 16) ⟨ts.length,rt⟩:=by unfold wo;rw [ab,← RD]
 rw [Jr];unfold qZ
 (repeat (refine wA ?_;intros))
 rename_i g5;refine bE (id:=2) [9] mixed ?_
 (refine tJ 0 ?_;refine tM 1 ?_;refine tM 2 ?_;refine tk 3 _ rfl (bO rfl) ?_;refine tk 4 _ rfl (cE.rem rfl rfl zo) ?_)
 rw [XJ]
 (refine tJ 5 ?_)
 refine tO 6 ?_;refine bg rfl rfl (CV _ e (.slice qN rt.length cr) ⟨ts.length,rt⟩ (cF.cN MP zE) hc) ?_;rintro _ _ ⟨P0,kb,rfl,rfl⟩;refine ⟨fun _=>zE,A.fF zE ?_⟩
 generalize iQ ⟨ts.length,rt⟩=bd at *
 refine A.fo (show cC _ (cM g [v,vl] fL (0,0)::vK (.slice P0 bd.length kb) bd::cM g5 (gX ⟨ts.length,rt⟩ (.slice qN rt.length cr)) 83 (0,0)::cM g4 [.int .i64 0,nY,.int .i64 0,nY,nY] 87 (0,0)::A0::cU (.slice dW ls.length c1) ls::cG ls::R) from zE) ?_;refine tO 7 ?_;refine bg rfl rfl (B9 _ L0 e (cn (show cC _ R from zE) f0) g v vl _ seed bd (ts.length % 16) (cF.cN hv zE) hs zo hl (cF.Vj .zero) zo) ?_;rintro _ _ ⟨A1,vp,vq,rfl,I6,rfl⟩;refine ⟨fun _=>zE,A.fF zE ?_⟩;have Wb:(lH seed (ts.length % 16) bd).idx=ts.length % 16:=rfl
 generalize lH seed (ts.length % 16) bd=sg at *
 refine A.cB (I6.cN (L:=_) (show cC _ (A1::L0) from cn (show cC _ (A1::R) from zE) (bh f0))).parts.one fun o4=>?_
 refine A.cB (I6.cN (L:=_) (show cC _ (A1::L0) from cn (show cC _ (A1::R) from zE) (bh f0))).path.one fun o5=>?_
 (refine tk 8 _ rfl (bL rfl zF) ?_;(refine tO 9 ?_;refine zg ?_;refine ⟨zN,?_⟩))
 refine bf zK ?_;refine wB ?_;apply bB
 ·exact zV
 refine ⟨dI [A0,cG ls,A1]::cM g [v,vl] fL (0,0)::R,cn (show cC _ (A0::cG ls::A1::cM g [v,vl] fL (0,0)::R) from zE) (dN (M:=[_,_,_])),dI [A0,cG ls,A1],.slice qN rt.length cr,vp,vq,rfl,⟨(BM (MP.cN (show cC [A0,cG ls,A1] [A0,cG ls] from zE))).cN (cH .zero),I6.cN (cn (cW (M:=[A0,cG ls,A1]) (L:=L0)) zE),⟨by show ts.length<_;omega,by show rt.length≤_;omega⟩⟩,rfl⟩
theorem E3 (ot:Option Addr) (cv:Nat) (g:Nat) (log:dA) (s:CF) (vr vp vq:Value) (x:jU) (hx:ff R vr vp vq x) (MY:x.fits) (hv:x.hJ log) (hs:x.dd.size≤s.cI.length) (so:x.dd.root=dR ((s.cI.take x.dd.size).map cZ)) :
 Ct prog 39 #[pt g,.agg (dT x vr vp vq).toArray,.slice ot 0 cv] e (gR g log s::R) (fun v' L'=>v'=.int .i64 0∧L'=gR g log s::R):=by
 refine wK fun a M ha=>?_
 have hl:a.ts.length=s.cI.length:=by have:=congrArg List.length ha.cI;rwa [ab] at this
 have hu:a.us.length=s.cI.length:=by have:=congrArg List.length ha.leaves;rwa [ab,ab] at this
 have kD:=ha.st.size;have mG:cC (wj g s a M R) R:=zE;refine a7 (cz (hx.root.cN mG)) fun o5=>?_
 refine a7 (hx.sig.cN mG).parts.one fun o6=>?_
 refine a7 (hx.sig.cN mG).path.one fun o7=>?_
 refine a7 (yc (show cT (wj g s a M R) (cU (.slice a.al a.us.length a.cl) a.us) _ from zP)) ?_;rintro ⟨lE,c',lG,hc3,hc4,-⟩
 cases lG
 refine a8 (args:=[_,_,_]) func39 rfl ntmps39 results39 rfl ?_
 (repeat' first|refine Zb ?_|apply Zc|apply Zd|apply Ze|apply Zf|refine Zh ?_|refine Yg fun _=>?_|refine Yh fun _=>?_|apply YB|refine YR ?_|(apply O.dj;exact rfl;exact zP;(first|(simp only [aC,Nat.add_zero,Nat.reduceAdd,List.drop_succ_cons,List.drop_zero,List.take_succ_cons,List.take_zero];done)|(simp only [aC,Nat.add_zero,Nat.reduceAdd,List.drop_succ_cons,List.drop_zero,List.take_succ_cons,List.take_zero];exact rfl));exact rfl;exact rfl))
 rename_i g4 g7;refine bE (id:=2) [] mixed ?_
 (refine tM 0 ?_;refine tN 1 ?_;refine tF 2 ?_;refine tL 3 ?_;refine tJ 4 ?_)
 refine tO 5 ?_;refine bg rfl rfl (ku _ e a.vl vr vp vq log x (ha.log.cN (cH zP)) (hx.cN zE) MY.1) ?_;rintro _ _ ⟨rfl,rfl⟩;refine ⟨fun _=>zE,A.fF zE ?_⟩;rw [ay hv]
 (refine tk 6 _ rfl (cE.jX rfl) ?_;refine tA 7 ?_)
 refine bf zK ?_;refine wB ?_;refine bE (id:=4) [] mixed ?_
 (refine tF 0 ?_;refine tL 1 ?_;refine tM 2 ?_;refine tN 3 ?_;refine tF 4 ?_;refine tL 5 ?_;refine tk 6 _ rfl (bO rfl) ?_;refine tk 7 (.bool true) rfl (cE.iX (cE.leq rfl rfl) zy) ?_;refine tM 8 ?_;refine du 9 _ rfl (bw rfl) ?_;refine du 10 _ rfl (bO rfl) ?_;refine du 11 (.bool false) rfl (cE.no (cE.gtr rfl rfl) zn) ?_;refine tk 12 _ rfl (bM rfl rfl) ?_;refine tA 13 ?_)
 refine bf zK ?_;refine wB ?_;refine bE (id:=6) [] mixed ?_
 (refine tF 0 ?_;refine tL 1 ?_;refine tM 2 ?_;refine tN 3 ?_;refine tF 4 ?_;refine tL 5 ?_;refine tk 6 _ rfl (bO rfl) ?_;refine tk 7 (.bool true) rfl (cE.iX (cE.leq rfl rfl) zy) ?_;refine tM 8 ?_;refine du 9 _ rfl (bw rfl) ?_;refine du 10 _ rfl (bp rfl) ?_;refine du 11 _ rfl (bb rfl) ?_;refine du 12 _ rfl (bq rfl zR) ?_;refine du 13 _ rfl (bb rfl) ?_;refine du 14 _ rfl (bq rfl zR) ?_;refine du 15 _ rfl (cE.gY rfl rfl zo zo) ?_;refine du 17 _ rfl (bb rfl) ?_;refine du 18 _ rfl (bq rfl zR) ?_)
 rw [Int.toNat_natCast];have hk:x.dd.size≤a.us.length:=by omega
 have hlen:(a.us.take x.dd.size).length=x.dd.size:=by rw [aE];omega
 have jD:∀ y∈a.us,y.2.length=32:=fun y hy=>by
  have:y.2∈s.cI.map cZ:=by rw [← ha.leaves];exact aD.2 ⟨y,hy,rfl⟩
  obtain ⟨b,hb,BH⟩:=aD.1 this;rw [← BH];exact de _ _
 refine A.pi 16 rfl rfl zK ?_;refine bg rfl rfl (j1 _ _ e (.slice a.al x.dd.size a.cl) (a.us.take x.dd.size) rfl (iJ (ba zP) hk) (fun y hy=>(ha.zh y (aN hy)).cN (cH zP)) (fun y hy=>by have:=jD y (aN hy);omega) zo) ?_;rintro _ _ ⟨qN,kr,rfl,rfl⟩;refine ⟨fun _=>zE,A.fF zE ?_⟩;have tm:dR ((a.us.take x.dd.size).map (·.2))=x.dd.root:=by rw [so,List.map_take,ha.leaves,List.map_take]
 rw [tm];refine A.pi 19 rfl rfl zK ?_;refine bg rfl rfl (rY _ e _ vr x.dd.root x.dd.root (ba zP) (hx.root.cN zE)) ?_;rintro _ _ ⟨rfl,rfl⟩;refine ⟨fun _=>zE,A.fF zE ?_⟩;rw [ay rfl]
 (refine du 20 _ rfl (cE.jX rfl) ?_;refine tk 21 _ rfl (bM rfl rfl) ?_;refine tA 22 ?_)
 refine bf zK ?_;refine wB ?_;refine bE (id:=9) [] mixed ?_
 (refine tF 0 ?_;refine tL 1 ?_;refine tM 2 ?_;refine tN 3 ?_;refine tF 4 ?_;refine tL 5 ?_;refine tk 6 _ rfl (bO rfl) ?_;refine tk 7 (.bool true) rfl (cE.iX (cE.leq rfl rfl) zy) ?_;refine tA 8 ?_)
 refine bf zK ?_;refine wB ?_;exact aY (gR g log s::R) rfl (cn (show cC _ (wj g s a M R) from zE) (yD ha)) ⟨rfl,rfl⟩
theorem uV {seed:List UInt8} {l:List (List UInt8)} (h:l.length≤256):(wo seed l).fits :=
 ⟨⟨h,x5 (fun a ha=>by obtain ⟨b,_,rfl⟩:=aD.1 ha;exact de _ _)⟩,jh (Nat.mod_lt _ zo)⟩
theorem E4 {seed:List UInt8} {l:List (List UInt8)} (h:l.length≤256):(wo seed l).hJ (fu seed):=⟨(uV h).1,sK (Nat.mod_lt _ zo)⟩
end Go.Proofs
namespace Go.Proofs
attribute [local irreducible] Bs.cE Bs.Do Bs.O Bs.W Bs.Fin Bs.A Bs.Ct Bs.cF Bs.Rd Bs.Sat Bs.cM Bs.Ob Bs.dJ Bs.View Bs.cC Bs.Ex Bs.dI Bs.Pu Bs.eZ Bs.dK Bs.eh
open Go.Bs
open Tryz
variable (R:List cK) (e:World)
theorem sn (g:Nat) (seed:List UInt8) (s:CF) (vr vp vq v:Value) (l:List (List UInt8)) (ls:List dX) (hx:ff R vr vp vq (wo seed l)) (hn:l.length≤256) (wv:cF R 1 v ls.length (ls.map (·.1))) (I7:dE R ls) (hl:s.cI++ls.map (·.2)=l) (hb:∀ y∈ls,y.2.length≤1000) :
 Ct prog 39 #[pt g,.agg (dT (wo seed l) vr vp vq).toArray,v] e (gR g (fu seed) s::R) (fun v' L'=>v'=.int .i64 0∧∃ s':CF,s'.cI=l∧L'=gR g (fu seed) s'::R):=by
 have CZ:s.cI.length+ls.length=l.length:=by rw [← hl,aa,ab]
 have so:(wo seed l).dd.root=dR ((s.cI++ls.map (·.2)).map cZ):=by rw [hl];rfl
 have kD:(wo seed l).dd.size=l.length:=rfl
 by_cases h0:ls.length=0
 ·obtain rfl:ls=[]:=List.eq_nil_of_length_eq_zero h0;rw [List.map_nil,aK] at hl
  refine a7 (fun h x=>wv.shape zo h (kM x)) ?_;rintro ⟨⟨ad,c,rfl,_,_,_,_⟩,_⟩;refine (E3 R e ad c g (fu seed) s vr vp vq (wo seed l) hx (uV hn) (E4 hn) (by rw [kD,hl];exact aT _) ?_).mono ?_
  ·rw [kD,hl,aF (aT _)];rfl
  ·rintro v' L' ⟨rfl,rfl⟩;exact ⟨rfl,s,hl,rfl⟩
 ·refine (EK R e g (fu seed) s vr vp vq v (wo seed l) ls hx (uV hn) (E4 hn) wv I7 zo zo hb so).mono ?_;rintro v' L' ⟨rfl,rfl⟩;exact ⟨rfl,_,hl,rfl⟩
theorem Uo (x:Int):∃ b:UInt8,Value.int .u8 (IntKind.u8.wrap x)=u8 b:=by
 refine ⟨UInt8.ofNat (x % 256).toNat,?_⟩
 have h:IntKind.u8.wrap x=x % 256:=by
  unfold IntKind.wrap
  simp [IntKind.bits,IntKind.signed]
 rw [h];unfold u8;rw [UInt8.toNat_ofNat_of_lt' (by show (x % 256).toNat<256;omega)]
 congr 1
 omega
theorem Up {i:Nat} (h:i<256):Value.int .u8 (i:Int)=u8 (UInt8.ofNat i):=by
 unfold u8;rw [UInt8.toNat_ofNat_of_lt' (by show i<256;omega)]
abbrev Ho:=List dX × (Option Addr × Nat) × CF
abbrev Ho.v (q:Ho):Value:=.slice q.2.1.1 q.1.length q.2.1.2
theorem qT (v0:Value) (iB:Int) (ns:List Int) (hn:cF R 1 v0 ns.length (ns.map fun x=>.int .i64 x)) (C0:-9223372036854775808≤iB∧iB≤9223372036854775807) :
 Ct prog 6 #[v0,.int .i64 iB] e R (fun v' L'=>v'=.bool true∧R=L'):=by
 refine a7 (hn.shape zo) ?_;rintro ⟨⟨K5,c0,rfl,-,a4,-,a6⟩,_⟩;simp only [maxLen] at a4
 refine a8 (args:=[_,_]) func6 rfl ntmps6 results6 rfl ?_;refine wB ?_;refine aZ rfl rfl (F8 _ e 0 zo) ?_;rintro _ _ ⟨as0,cs0,rfl,rfl⟩;have pa:=BX 0
 generalize xJ 0=sd at *
 refine aZ rfl rfl (Ec _ e _ sd (ba .zero) zo) ?_;rintro _ _ ⟨g,vl,M,rfl,HU,rfl⟩
 generalize NO:Value.slice as0 sd.length cs0=vs
 have yW:=lj sd;refine wB ?_;refine aZ rfl rfl (vD _ e g vs vl sd (HU.cN (cH .zero))) ?_;rintro vp _ ⟨hp,rfl⟩;refine aZ rfl rfl (uO _ e vp (fu sd) (cF.cN hp zE) yW) ?_;rintro _ _ ⟨ga,rfl,rfl⟩;refine wB ?_;refine aZ rfl rfl (Ct.at (show cT _ (cM g [vs,vl] fL (0,0)) _ from zP) (vD _ e g vs vl sd (HU.cN (cH zP)))) ?_;rintro vp2 _ ⟨FF,rfl⟩;refine aZ rfl rfl (uO _ e vp2 (fu sd) (cF.cN FF zE) yW) ?_;rintro _ _ ⟨gb,rfl,rfl⟩;clear hp FF
 (repeat' first|refine W.rn (id:=13) (fun q:Ho=>[(1,.int .i64 iB),(5,ptr g),(6,ptr ga),(8,ptr gb),(10,q.v)]) (fun q=>cU q.v q.1::cG q.1::gR ga (fu sd) q.2.2::gR gb (fu sd) ⟨[],none⟩::cM g [vs,vl] fL (0,0)::M::cR vs sd::R) (fun q=>q.1.length≤15∧q.2.2.cI=q.1.map (·.2)∧∀ y∈q.1,y.2.length≤2) ?_ ?_|refine Za ?_|refine Zb ?_|apply Zc|apply Zd|apply Ze|apply Zf|refine Zm ?_|refine Zn ?_|refine Zq ?_|refine ZQ ?_|refine YA ?_|apply YC|refine YN ?_|fail)
 rotate_left
 ·refine ⟨?_⟩;refine wB ?_;refine br (ι:=Ho) (fun q=>[(0,.slice K5 ns.length c0),(1,.int .i64 iB),(5,ptr g),(6,ptr ga),(8,ptr gb),(10,q.v),(11,.int .i64 (q.1.length:Int))]) (fun q=>cU q.v q.1::cG q.1::gR ga (fu sd) q.2.2::gR gb (fu sd) ⟨[],none⟩::cM g [vs,vl] fL (0,0)::M::cR vs sd::R) (fun q=>q.1.length≤15∧q.2.2.cI=q.1.map (·.2)∧(∀ y∈q.1,y.2.length≤2)∧q.1.length≤ns.length) (fun q=>15 - q.1.length) ([],(none,0),⟨[],none⟩) ⟨aG _,rfl,(fun y hy=>absurd hy aO),aG _⟩ zS (cn dC (cn (di dZ 1) zE)) ?_;rintro ⟨ts,⟨ad,c⟩,sa⟩ ⟨Qi,Rm,M5,hle⟩;dsimp only [Ho.v] at Qi Rm M5 hle ⊢
  by_cases Gk:¬ (ts.length<ns.length∧ts.length<15)
  ·by_cases cQ:ts.length<ns.length
   ·have Kk:¬ ts.length<15:=fun h=>Gk ⟨cQ,h⟩
    refine wB ?_
    all_goals exact bH (ts,(ad,c),sa) ⟨Qi,Rm,M5⟩ zS zE
   ·refine wB ?_
    all_goals exact bH (ts,(ad,c),sa) ⟨Qi,Rm,M5⟩ zS zE
  obtain ⟨cQ,acq⟩:=Decidable.not_not.1 Gk;rcases a6 with a6|⟨gl,ol,rfl⟩
  ·omega
  have hrx:Rd R ⟨gl,ol+ts.length,none⟩ (.int .i64 (ns[ts.length]'cQ)):=hn.elem (by rw [aI,ae cQ];rfl)
  generalize ns[ts.length]'cQ=x at hrx
  obtain ⟨bx,hbx⟩:=Uo x;have Tb:=Up (show ts.length<256 by omega)
  generalize UInt8.ofNat ts.length=b0 at *
  (repeat (refine wA ?_;intros))
  rename_i g1 g2;rw [Tb,hbx];refine O.fo (cn (show cC _ (cM g1 [u8 b0,u8 bx] na (0,0)::cM g2 [.slice (some ⟨g1,0,none⟩) 2 2] dZ (0,0)::cU (.slice ad ts.length c) ts::cG ts::gR ga (fu sd) sa::gR gb (fu sd) ⟨[],none⟩::cM g [vs,vl] fL (0,0)::M::cR vs sd::R) from zE) (fW (E:=na) (n:=1) (k:=2) (cap:=2) (by decide) zl rfl)) ?_;refine bD (bm rfl rfl rfl zP (bu zP rfl zl) rfl rfl zO zm zo fun ep c3 _=>?_)
  refine wB ?_;refine W.fo (cn (show cC _ (dJ dZ 1 (.slice ep (ts.length+1) c3) (ts.length+1) (ts.map (·.1)++[.slice (some ⟨g1,0,none⟩) 2 2])::cR (.slice (some ⟨g1,0,none⟩) 2 2) [b0,bx]::cG ts::gR ga (fu sd) sa::gR gb (fu sd) ⟨[],none⟩::cM g [vs,vl] fL (0,0)::M::cR vs sd::R) from zE) eV) ?_;rw [show ts.length+1=(ts++[((.slice (some ⟨g1,0,none⟩) 2 2,[b0,bx]):dX)]).length by rw [aa];rfl];have HD:(ts++[((.slice (some ⟨g1,0,none⟩) 2 2,[b0,bx]):dX)]).length=ts.length+1:=by rw [aa];rfl
  have XK:∀ y∈ts++[((.slice (some ⟨g1,0,none⟩) 2 2,[b0,bx]):dX)],y.2.length≤2:=fun y hy=>by
   rcases aJ.1 hy with hy|hy
   ·exact M5 y hy
   ·rw [an.1 hy];exact aT 2
  have hud:sa.cI++((ts++[((.slice (some ⟨g1,0,none⟩) 2 2,[b0,bx]):dX)]).drop ts.length).map (·.2)=(ts++[((.slice (some ⟨g1,0,none⟩) 2 2,[b0,bx]):dX)]).map (·.2):=by
   rw [List.drop_left,ah,Rm]
  generalize ts++[((.slice (some ⟨g1,0,none⟩) 2 2,[b0,bx]):dX)]=us at *
  refine bl (id:=11) [] (cU (.slice ep us.length c3) us::cG us::gR gb (fu sd) ⟨[],none⟩::cM g [vs,vl] fL (0,0)::M::cR vs sd::R) mixed ?_
  (refine tM 0 ?_;refine tM 1 ?_;refine tM 2 ?_;refine tM 4 ?_;refine tM 5 ?_;refine tk 6 _ rfl (cE.jw rfl rfl zo zo) ?_)
  refine tO 3 ?_;refine bg rfl rfl (Ct.at (show cT _ (cM g [vs,vl] fL (0,0)) _ from zP) (qo _ [M] e zE g vs vl (.slice ep us.length c3) sd us (ba zP) zo HU (ba zP) (dE.ea zP) (fun y hy=>by have:=XK y hy;omega) zo)) ?_;rintro _ _ ⟨A1,vr,vp,vq,rfl,Jr,rfl⟩;refine ⟨fun _=>zE,?_⟩;refine tO 7 ?_;refine bg rfl rfl (Ct.at (show cT _ (gR ga (fu sd) sa) _ from zP) (sn _ e ga sd sa vr vp vq _ (us.map (·.2)) (us.drop ts.length) (Jr.cN zE) (by rw [ab];omega) (mj (ba zP) zo) (fun y hy=>dE.ea (show cT _ (cG us) _ from zP) y (aS hy)) hud (fun y hy=>by have:=XK y (aS hy);omega))) ?_;rintro _ _ ⟨rfl,s',ny,rfl⟩;refine ⟨fun _=>zE,?_⟩
  (refine tk 8 (.bool false) rfl (cE.no (b8 rfl rfl) zn) ?_)
  refine bf zK ?_;refine wB ?_;refine bi (us,(ep,c3),s') ⟨by dsimp only;omega,ny,XK,by dsimp only;omega⟩ zd ?_ zE;dsimp only [Ho.v];rw [HD];exact zS
 rintro ⟨ts,⟨ad,c⟩,sa⟩ ⟨Qi,Rm,M5⟩;dsimp only [Ho.v] at Qi Rm M5 ⊢
 refine bG (yc (show cT _ (cU (.slice ad ts.length c) ts) _ from zP)) ?_;rintro ⟨lE,c',lG,hc3,hc4,-⟩
 cases lG
 refine wB ?_;refine aZ rfl rfl (fC _ e iB 0 (ts.length:Int) C0 zo) ?_;rintro _ _ ⟨rfl,rfl⟩
 obtain ⟨k,hk,DD⟩:∃ k:Nat,within iB 0 (ts.length:Int)=(k:Int)∧k≤ts.length:=by
  have h:=eQ iB 0 (ts.length:Int) zo
  exact ⟨(within iB 0 (ts.length:Int)).toNat,by omega,by omega⟩
 rw [hk];have K2:(ts.take k).length=k:=by rw [aE];omega
 refine wB ?_;refine bl (id:=14) [] (cU (.slice ad ts.length c) ts::cG ts::gR ga (fu sd) sa::cM g [vs,vl] fL (0,0)::M::cR vs sd::R) mixed ?_
 (refine tM 0 ?_;refine tM 1 ?_;refine tM 2 ?_;refine tM 3 ?_;refine tk 4 _ rfl (cE.gY rfl rfl zo zo) ?_;refine tM 6 ?_;refine tM 7 ?_;refine tk 8 _ rfl (cE.gY rfl rfl zo zo) ?_)
 rw [Int.toNat_natCast];refine tO 5 ?_;refine bg rfl rfl (Ct.at (show cT _ (cM g [vs,vl] fL (0,0)) _ from zP) (qo _ [M] e zE g vs vl (.slice ad k c) sd (ts.take k) (ba (show cT _ (cR vs sd) _ from zP)) zo HU (iJ (ba (show cT _ (cU (.slice ad ts.length c) ts) _ from zP)) DD) (fun y hy=>dE.ea (show cT _ (cG ts) _ from zP) y (aN hy)) (fun y hy=>by have:=M5 y (aN hy);omega) zo)) ?_;rintro _ _ ⟨A1,vr,vp,vq,rfl,Jr,rfl⟩;refine ⟨fun _=>zE,?_⟩;refine tO 9 ?_;refine bg rfl rfl (Ct.at (show cT _ (gR gb (fu sd) ⟨[],none⟩) _ from zP) (sn _ e gb sd ⟨[],none⟩ vr vp vq _ ((ts.take k).map (·.2)) (ts.take k) (Jr.cN zE) (by rw [ab];omega) (iJ (ba (show cT _ (cU (.slice ad ts.length c) ts) _ from zP)) DD) (fun y hy=>dE.ea (show cT _ (cG ts) _ from zP) y (aN hy)) rfl (fun y hy=>by have:=M5 y (aN hy);omega))) ?_;rintro _ _ ⟨rfl,s1,fy,rfl⟩;refine ⟨fun _=>zE,?_⟩
 (refine tk 10 (.bool false) rfl (cE.no (b8 rfl rfl) zn) ?_;refine tM 11 ?_;refine du 12 _ rfl (bw rfl) ?_;refine du 13 _ rfl (bw rfl) ?_;refine du 14 _ rfl (bw rfl) ?_;refine du 16 _ rfl (bw rfl) ?_;refine du 17 _ rfl (bw rfl) ?_;refine du 18 _ rfl (cE.jw rfl rfl zo zo) ?_)
 rw [Int.toNat_natCast];refine A.pi 15 rfl rfl zK ?_;refine bg rfl rfl (Ct.at (show cT _ (cM g [vs,vl] fL (0,0)) _ from zP) (qo _ [M] e zE g vs vl (.slice ad ts.length c) sd ts (ba (show cT _ (cR vs sd) _ from zP)) zo HU (ba (show cT _ (cU (.slice ad ts.length c) ts) _ from zP)) (dE.ea (show cT _ (cG ts) _ from zP)) (fun y hy=>by have:=M5 y hy;omega) zo)) ?_;rintro _ _ ⟨A2,vr2,XL,vq2,rfl,XM,rfl⟩;refine ⟨fun _=>zE,?_⟩;refine A.pi 19 rfl rfl zK ?_;refine bg rfl rfl (Ct.at (show cT _ (gR gb (fu sd) s1) _ from zP) (sn _ e gb sd s1 vr2 XL vq2 _ (ts.map (·.2)) (ts.drop k) (XM.cN zE) (by rw [ab];omega) (mj (ba (show cT _ (cU (.slice ad ts.length c) ts) _ from zP)) DD) (fun y hy=>dE.ea (show cT _ (cG ts) _ from zP) y (aS hy)) (by rw [fy,← ah,List.take_append_drop]) (fun y hy=>by have:=M5 y (aS hy);omega))) ?_;rintro _ _ ⟨rfl,s2,kY,rfl⟩;refine ⟨fun _=>zE,?_⟩
 (refine du 20 (.bool false) rfl (cE.no (b8 rfl rfl) zn) ?_;refine tk 21 _ rfl (bJ rfl rfl) ?_)
 refine bf zK ?_;have S5:sa.cI.length=ts.length:=by rw [Rm,ab]
 have V7:s2.cI.length=ts.length:=by rw [kY,ab]
 refine wB ?_;refine aZ rfl rfl (Ct.at (show cT _ (gR ga (fu sd) sa) _ from zP) (sc _ e ga (fu sd) sa)) ?_;rintro _ _ ⟨rfl,rfl⟩
 (repeat (refine wA ?_;intros))
 refine aZ rfl rfl (Ct.at (show cT _ (gR gb (fu sd) s2) _ from zP) (sc _ e gb (fu sd) s2)) ?_;rintro _ _ ⟨rfl,rfl⟩;rw [S5,V7];refine wB ?_;refine aZ rfl rfl (Ct.at (show cT _ (gR ga (fu sd) sa) _ from zP) (sc _ e ga (fu sd) sa)) ?_;rintro _ _ ⟨rfl,rfl⟩;rw [S5];refine wB ?_;refine aZ rfl rfl (Ct.at (show cT _ (gR ga (fu sd) sa) _ from zP) (tE _ e ga (fu sd) sa)) ?_;rintro _ _ ⟨rfl,rfl⟩;refine wB ?_;refine aZ rfl rfl (Ct.at (show cT _ (gR gb (fu sd) s2) _ from zP) (tE _ e gb (fu sd) s2)) ?_;rintro _ _ ⟨rfl,rfl⟩;refine wB ?_;refine aZ rfl rfl (Hn _ e) ?_;rintro _ _ ⟨rfl,rfl⟩;refine wB ?_;exact aY R rfl zE ⟨rfl,rfl⟩
end Go.Proofs
namespace Go.Proofs.YtccekbdjebohcaaGreat.topTwoMonitors
open Go.ChangeShapes Go.WideShapes Go.ChangeAt Go.RowKit Go.Bs
set_option maxRecDepth 100000 in
theorem walk (W:World) (vs:List Value) (h:Nj Tryz.prog W [22,3] vs) :
 Calls Tryz.prog 6 vs.toArray W fun e w'=>e=.returned (.bool true)∧Below W.heap.size W w':=by
 match vs,h with
 | [v0,v1],⟨h0,h1,_⟩ =>
  obtain ⟨a0,r0,t0⟩:=II h0;obtain ⟨a1,rfl,w1⟩:=KN Tryz.underlying3 h1;exact Ct.calls ((qT [eZ W] W v0 a1 a0 r0 (wU w1)).mono fun v L' ⟨h1,h2⟩=>⟨h1,[],h2.symm⟩)
theorem own:ownKnob Tryz.prog.godebug=none:=by kernel_rfl
set_option maxRecDepth 100000 in
theorem lifted (os:Os) (started:os.Started) (H:Type) (enc:TypeId × Value→H) :
 ReturnsInHanded {} Tryz.checked os 6 .any (Rows.topTwoMonitorsSpec.pre6 enc Tryz.prog Tryz.f6 Rows.topTwoMonitorsRow.domain false) (Rows.topTwoMonitorsSpec.post enc Tryz.prog Tryz.f6 false true false false) :=
 Fp (C:=Tryz.checked) (fn:=Tryz.f6) own started (by kernel_rfl) Tryz.func6
  (ChangeSpec.witness6 (enc:=enc) (C:=Tryz.checked) false ⟨#[],#[.slice none 0 0,.int .i64 0],[]⟩ 8 (by kernel_rfl) (by kernel_rfl) (by kernel_rfl) (by kernel_rfl))
  rfl rfl (fun ds h=>by
   rw [Tryz.params6] at h
   match ds,h with
   | [_,_],_=>rfl)
  rfl Tryz.underlying4 (by kernel_rfl) (by decide +kernel) (fun W vs h=>walk W vs (by rw [Tryz.params6] at h;exact h))
theorem jW {a b:Bool} (h:a=true) (h2:b=true):(a && b)=true:=by rw [h,h2];rfl
set_option maxHeartbeats 4000000 in
theorem closed:joinedFacts Tryz.prog 6 Tryz.f6 Rows.topTwoMonitorsSpec Rows.topTwoMonitorsRow=true:=by
 unfold joinedFacts;refine jW (jW (jW (jW (jW (jW (jW (jW (jW (jW (jW (jW (jW (jW (jW (jW (jW (jW (jW (jW (jW (jW (jW (jW (jW (jW (jW (jW (jW (jW (jW ?_ ?_) ?_) ?_) ?_) ?_) ?_) ?_) ?_) ?_) ?_) ?_) ?_) ?_) ?_) ?_) ?_) ?_) ?_) ?_) ?_) ?_) ?_) ?_) ?_) ?_) ?_) ?_) ?_) ?_) ?_) ?_
 all_goals (as_aux_lemma=>kernel_rfl)
theorem over:Rows.topTwoMonitorsRow.holds Tryz.pinned (OpenSpec.ofChange Rows.topTwoMonitorsSpec) :=
 OpenClaim.holds_of_wide 6 Tryz.f6 rfl rfl rfl rfl rfl rfl rfl ⟨rfl,rfl,rfl,rfl,rfl⟩ rfl rfl rfl rfl rfl (by kernel_rfl) Tryz.func6 closed
  (of_decide_eq_true (by kernel_rfl)) (by unfold Func.isWrapper;first|(rw [aH (by decide +kernel)];kernel_rfl)|(rw [aB (by decide +kernel)];exact ⟨rfl,rfl⟩))
  (fun os started H enc _=>lifted os started H enc)
theorem proved:Rows.TopTwoMonitorsSaid:=over
#print axioms proved
end Go.Proofs.YtccekbdjebohcaaGreat.topTwoMonitors
