/- Part 10 of a proof of this: TopTwoMonitors returns true for any arguments; nothing of the old memory is turned. No condition. -/
import Derived.Test.YtccekbdjebohcaaGreatM09
set_option linter.unusedVariables false
set_option linter.unusedSimpArgs false
namespace Go.Proofs
attribute [local irreducible] Bs.cE Bs.Do Bs.O Bs.W Bs.Fin Bs.A Bs.Ct Bs.cF Bs.Rd Bs.Sat Bs.cM Bs.Ob Bs.dJ Bs.View Bs.cC Bs.Ex Bs.dI Bs.Pu Bs.eZ Bs.dK Bs.eh
open Go.Bs
open Tryz
variable (R:List cK) (e:World)
theorem G4 {n:Nat} (h0:0<n) (h:n<256):IntKind.u8.wrap ((n:Int) - 1)=((n - 1:Nat):Int):=by
 rw [wrap_u8 zo zo];omega
theorem A7 {l:List dA} {i:Nat} (h:i<l.length):(l.drop i).flatten=l[i]'h++(l.drop (i+1)).flatten:=by
 rw [List.drop_eq_getElem_cons h,List.flatten_cons]
theorem N9 {l:List kF} {i:Nat} (h:i<l.length):lv (l.drop i)=eU (l[i]'h)++lv (l.drop (i+1)):=by
 unfold lv;rw [List.drop_eq_getElem_cons h,List.map_cons,List.flatten_cons]
theorem tD (v:Value) (b:vE) (hv:da R v (fU b)) (hw:b.wf) :
 Ct prog 133 #[v] e R (fun v' L'=>∃ (M:cK) (um up ur ua uq uc:Value),v'=.tuple #[.agg (r5 b um up ur ua uq uc).toArray,.int .i64 0]∧rh [M] um up ur ua uq uc b∧L'=M::R):=by
 have nZ:=oO hw;have QD:=hw.fk;have h1:=hw.idx;have h2:=hw.size;have h3:=hw.Fc;have h4:=hw.iC;have CY:=fc hw.jD;have pa:=iN hw.dd hw.sig;have B6:=qG hw.sigs;have Jt:fU b=enc b.fk++(be b.idx 4++(be b.size 4++(UInt8.ofNat b.path.length::(b.path.flatten++(hZ b.kH++(UInt8.ofNat b.eJ.length::lv b.eJ)))))):=rfl;refine a7 (cz hv) fun o1=>?_
 refine bI (args:=[_]) func133 rfl ntmps133 results133 rfl ?_
 (repeat (refine wA ?_;intros))
 rename_i g2;refine aZ rfl rfl (jz _ e v (fU b) (hv.cN zE) zo) ?_;rintro _ _ ⟨gr,rfl,rfl⟩;rw [Jt];refine wB ?_;have el:=iw b.fk;have Rn:(enc b.fk++(be b.idx 4++(be b.size 4++(UInt8.ofNat b.path.length::(b.path.flatten++(hZ b.kH++(UInt8.ofNat b.eJ.length::lv b.eJ))))))).length≤140737488355328:=by rw [← Jt];omega
 refine aZ rfl rfl (HI _ e gr b.fk _ 65535 QD zo Rn) ?_;rintro _ _ ⟨Kx,cm,rfl,rfl⟩
 (repeat (refine wA ?_;intros))
 rename_i g5;refine aZ rfl rfl (Ct.at zP (sV _ e gr b.idx _ zo)) ?_;rintro _ _ ⟨rfl,rfl⟩;refine wB ?_;refine aZ rfl rfl (Ct.at zP (sV _ e gr b.size _ zo)) ?_;rintro _ _ ⟨rfl,rfl⟩;refine wB ?_;refine aZ rfl rfl (Ct.at zP (uA _ e gr _ _)) ?_;rintro _ _ ⟨rfl,rfl⟩;rw [← pY (n:=b.path.length) zo];refine wB ?_;obtain ⟨tl,mw⟩:∃ tl:dA,tl=hZ b.kH++(UInt8.ofNat b.eJ.length::lv b.eJ):=⟨_,rfl⟩
 have abV:tl.length≤600000:=by rw [mw];simp only [aa,aR,pa,B6];omega
 rw [← mw];refine br (ι:=Nat × List dX × Option Addr × Nat) (fun j=>[(2,pt g2),(3,.int .i64 0),(4,pt gr),(5,pt g5),(6,.int .u8 ((b.path.length - j.1:Nat):Int))]) (fun j=>Reader gr ⟨(b.path.drop j.1).flatten++tl,false⟩::cM g5 [.slice Kx b.fk.length cm,.int .i64 (b.idx:Int),.int .i64 (b.size:Int),.slice j.2.2.1 j.2.1.length j.2.2.2,.int .i64 0,nY,.int .i64 0,nY,nY,nY] qP (0,0)::cU (.slice j.2.2.1 j.2.1.length j.2.2.2) j.2.1::cG j.2.1::cR (.slice Kx b.fk.length cm) b.fk::cM g2 pf qP (0,0)::R) (fun j=>j.1≤b.path.length∧j.2.1.map (·.2)=b.path.take j.1) (fun j=>b.path.length - j.1) (0,[],none,0) ⟨aG _,rfl⟩ zS (cn (dC) (cn (di dZ 1) zE)) ?_;rintro ⟨j,us,mH,cu⟩ ⟨hj,fZ⟩;dsimp only at hj fZ ⊢
 have HD:us.length=j:=by have:=congrArg List.length fZ;rw [ab,aE] at this;omega
 by_cases cQ:j<b.path.length
 ·have Xa:=A7 cQ;have jD:=hw.jD _ (az cQ);have fq:b.path.take (j+1)=b.path.take j++[b.path[j]'cQ]:=aA cQ
  have hle:((b.path.drop (j+1)).flatten).length≤600:=by
   have:=fc (l:=b.path.drop (j+1)) (n:=32) (fun a ha=>hw.jD a (aS ha));rw [this,aP];omega
  rw [Xa,aM]
  generalize b.path[j]'cQ=x at *
  have EH:=G4 (n:=b.path.length - j) zo zo;rw [show b.path.length - j - 1=b.path.length - (j+1) by omega] at EH
  refine wB ?_;refine aZ rfl rfl (uv _ e gr _) ?_;rintro _ _ ⟨rfl,rfl⟩;refine wB ?_;refine bl (id:=7) [7,8,9] (cM g5 [.slice Kx b.fk.length cm,.int .i64 (b.idx:Int),.int .i64 (b.size:Int),.slice mH us.length cu,.int .i64 0,nY,.int .i64 0,nY,nY,nY] qP (0,0)::R) mixed ?_
  (refine tF 0 ?_;refine tF 1 ?_;refine tL 2 ?_;refine tM 3 ?_)
  refine tO 4 ?_;refine bg rfl rfl (Ct.at zP (xB _ e gr 32 x _ jD (by simp only [aa];omega))) ?_;rintro _ _ ⟨pZ,cx,rfl,rfl⟩;refine ⟨fun _=>zE,?_⟩;refine tO 5 ?_;refine bF (n:=1) (cs:=[.slice pZ x.length cx]) rfl rfl rfl rfl zQ rfl (fun gb=>⟨fun _=>zE,?_⟩);refine tO 6 ?_;refine bm rfl rfl rfl (show cT _ (cU (.slice mH us.length cu) us) _ from zP) (bQ (n:=1) (c:=1) zP rfl zl) rfl rfl zO zm zo fun dW k1 _=>⟨fun _=>zE,?_⟩
  refine tO 7 ?_;refine dV (bb rfl) ?_;refine tO 8 ?_;refine dV (bb rfl) ?_;refine tO 9 ?_;refine tZ ?_;refine ⟨zN,?_⟩;refine bf zK ?_;refine wB ?_;rw [EH];refine bi (j+1,us++[(.slice pZ x.length cx,x)],dW,k1) ⟨cQ,by dsimp only;rw [fq,ah,fZ];rfl⟩ zd zS ?_;simp only [cU,aa,aj,ah,List.map_cons,List.map_nil];exact cn (cn (show cC _ (cR (.slice pZ x.length cx) x::cG us::dJ dZ 1 (.slice dW (us.length+1) k1) (us.length+1) (us.map (·.1)++[.slice pZ x.length cx])::Reader gr ⟨(b.path.drop (j+1)).flatten++tl,false⟩::cM g5 [.slice Kx b.fk.length cm,.int .i64 (b.idx:Int),.int .i64 (b.size:Int),.slice dW (us.length+1) k1,.int .i64 0,nY,.int .i64 0,nY,nY,nY] qP (0,0)::cR (.slice Kx b.fk.length cm) b.fk::cM g2 pf qP (0,0)::R) from zE) jp) zE
 rw [aF zo] at fZ
 rw [List.drop_eq_nil_of_le zo,List.flatten_nil,List.nil_append,show b.path.length - j=0 by omega,mw];refine wB ?_;refine aZ rfl rfl (AD _ e gr b.kH _ hw.dd hw.sig (by simp only [aR,B6];omega)) ?_;rintro _ _ ⟨N,ur,ua,uq,rfl,hN,rfl⟩;refine bo (cz (hN.root.cN (cH zP))) fun o8=>?_
 refine bo (hN.sig.cN (cH zP)).parts.one fun o9=>?_
 refine bo (hN.sig.cN (cH zP)).path.one fun LZ=>?_
 (repeat (refine wA ?_;intros))
 refine aZ rfl rfl (Ct.at zP (uA _ e gr _ _)) ?_;rintro _ _ ⟨rfl,rfl⟩;rw [← pY (n:=b.eJ.length) zo];refine wB ?_;refine br (ι:=Nat × List jn × cK × Option Addr × Nat) (fun j=>[(2,pt g2),(3,.int .i64 0),(4,pt gr),(5,pt g5),(8,.bool true),(9,.int .u8 ((b.eJ.length - j.1:Nat):Int))]) (fun j=>Reader gr ⟨lv (b.eJ.drop j.1),false⟩::cM g5 (r5 ⟨b.fk,b.idx,b.size,b.path,b.kH,[]⟩ (.slice Kx b.fk.length cm) (.slice mH us.length cu) ur ua uq (.slice j.2.2.2.1 j.2.1.length j.2.2.2.2)) qP (0,0)::fV (.slice j.2.2.2.1 j.2.1.length j.2.2.2.2) j.2.1::j.2.2.1::N::cU (.slice mH us.length cu) us::cG us::cR (.slice Kx b.fk.length cm) b.fk::cM g2 pf qP (0,0)::R) (fun j=>j.1≤b.eJ.length∧j.2.1.map (·.1)=b.eJ.take j.1∧∀ t∈j.2.1,jn.ok [j.2.2.1] t) (fun j=>b.eJ.length - j.1) (0,[],cG [],none,0) ⟨aG _,rfl,fun t ht=>by cases ht⟩ zS (cn (dC) (cn (di nu 4) zE)) ?_;rintro ⟨k,gs,Mx,C3,cg⟩ ⟨hk,wI,HH⟩;dsimp only at hk wI HH ⊢
 have Tx:gs.length=k:=by have:=congrArg List.length wI;rw [ab,aE] at this;omega
 by_cases jP:k<b.eJ.length
 ·have vO:=N9 jP;have hgw:=hw.ey _ (az jP);have Qr:=hw.sigs _ (az jP);have fq:b.eJ.take (k+1)=b.eJ.take k++[b.eJ[k]'jP]:=aA jP
  have hle:(lv (b.eJ.drop (k+1))).length≤600000:=by
   rw [qG (fun g hg=>hw.sigs g (aS hg)),aP];omega
  rw [vO]
  generalize b.eJ[k]'jP=x at *
  have EH:=G4 (n:=b.eJ.length - k) zo zo;rw [show b.eJ.length - k - 1=b.eJ.length - (k+1) by omega] at EH
  (repeat (refine wA ?_;intros))
  refine aZ rfl rfl (Ct.at zP (AH _ e gr x _ hgw Qr zo)) ?_;rintro _ _ ⟨N2,wp,wq,rfl,m5,rfl⟩;refine bo (m5.cN (cH zP)).parts.one fun ZL=>?_
  refine bo (m5.cN (cH zP)).path.one fun ZR=>?_
  (repeat (refine wA ?_;intros))
  refine bD (bm rfl rfl rfl (show cT _ (fV (.slice C3 gs.length cg) gs) _ from zP) (bQ (n:=4) (c:=1) zP rfl zl) rfl rfl zO zm zo fun dW k1 _=>?_)
  refine wB ?_;rw [EH];have eW:cC [dI [Mx,N2]] [Mx]:=cn (cW (M:=[_,_]) (L:=[])) (bh bK);have iH:cC [dI [Mx,N2]] [N2]:=cn (cW (M:=[_,_]) (L:=[])) (cC.drop (bh bK));refine bi (k+1,gs++[(x,wp,wq)],dI [Mx,N2],dW,k1) ⟨jP,by dsimp only;rw [fq,ah,wI];rfl,fun t ht=>?_⟩ zd zS ?_
  ·rcases aJ.1 ht with ht|ht
   ·exact (HH t ht).cN eW
   ·rw [an.1 ht];exact ⟨m5.cN iH,by dsimp only;omega⟩
  ·simp only [fV,aa,aj,aW,aV,List.flatMap_nil,aK];exact cn (eu (A:=Mx) (B:=N2) zP zP) zE
 rw [aF zo] at wI
 rw [List.drop_eq_nil_of_le zo,show b.eJ.length - k=0 by omega,show lv []=[] from rfl];obtain ⟨M,hM⟩:∃ M:cK,M=dI [cR (.slice Kx b.fk.length cm) b.fk,cU (.slice mH us.length cu) us,cG us,N,fV (.slice C3 gs.length cg) gs,Mx]:=⟨_,rfl⟩
 have ho:cC [M] [cR (.slice Kx b.fk.length cm) b.fk,cU (.slice mH us.length cu) us,cG us,N,fV (.slice C3 gs.length cg) gs,Mx]:=by rw [hM];exact cW (M:=[_,_,_,_,_,_]) (L:=[])
 have pK:rh [M] (.slice Kx b.fk.length cm) (.slice mH us.length cu) ur ua uq (.slice C3 gs.length cg) b :=
  ⟨(ba .zero).cN ho,j8.cN ⟨us,fZ,ba (.succ .zero),dE.ea (.succ (.succ .zero))⟩ ho,(hN.cN (cH zP)).cN ho,oC.cN ⟨gs,wI,ba zP,fun t ht=>(HH t ht).cN (cH zP)⟩ ho⟩
 have Nw:jF us=true:=by
  unfold jF;rw [decide_eq_true_iff];refine ⟨by omega,fun a ha=>hw.jD _ ?_⟩;rw [← fZ];exact aD.2 ⟨a,ha,rfl⟩
 refine wB ?_;refine aZ rfl rfl (xC _ e gr []) ?_;rintro _ _ ⟨rfl,rfl⟩;rw [ay rfl];refine wB ?_;refine aZ rfl rfl (l7 _ e b.idx) ?_;rintro _ _ ⟨rfl,rfl⟩;rw [ay h1];refine wB ?_;refine aZ rfl rfl (l7 _ e b.size) ?_;rintro _ _ ⟨rfl,rfl⟩;rw [ay h2];refine wB ?_;refine aZ rfl rfl (m0 _ e (.slice mH us.length cu) us (ba zP) (dE.ea (show cT _ (cG us) _ from zP))) ?_;rintro _ _ ⟨rfl,rfl⟩;rw [Nw];refine wB ?_;apply bB
 ·exact zV
 refine ⟨M::R,cn (show cC _ (cR (.slice Kx b.fk.length cm) b.fk::cU (.slice mH us.length cu) us::cG us::N::fV (.slice C3 gs.length cg) gs::Mx::R) from zE) (by rw [hM];exact L4),M,.slice Kx b.fk.length cm,.slice mH us.length cu,ur,ua,uq,.slice C3 gs.length cg,rfl,pK,rfl⟩
structure m7 where
 recs:List dA
def Xb:C1:=⟨[],0,[],[]⟩
def CE (l:List dA):C1:=match l.getLast? with|some b=>dB b|none=>Xb
def m7.m (s:m7):C1:=CE s.recs
theorem A8 (l:List dA) (b:dA):CE (l++[b])=dB b:=by simp [CE]
structure m7.ok (s:m7) (name:dA):Prop where
 size:s.recs.length≤1000
 short:∀ b∈s.recs,b.length≤200
 uE:∀ b∈s.recs,jm b
 name:∀ b∈s.recs,(dB b).name=name
 Cg:((s.recs.map fun b=>(dB b).hJ)).Pairwise (·<·)
abbrev QM:TypeId:=173
structure uM where
 gj:Nat
 vl:Value
 vw:Value
 vf:Value
 vn:Value
structure uM.ok (a:uM) (M:cK) (name:dA) (p:jK) (s:m7):Prop where
 wJ:j3 [M] a.vl a.vw p
 fw:da [M] a.vf s.m.fw
 notes:da [M] a.vn s.m.notes
 st:s.ok name
 pr:p.right
abbrev uM.cells (a:uM) (name:dA) (p:jK) (s:m7):List Value:=[pt a.gj,.string (str name)]++lq p a.vl a.vw++sW s.m a.vf a.vn++[.int .i64 (s.recs.length:Int)]
abbrev qR (g d:Nat) (name:dA) (p:jK) (s:m7) (a:uM) (M:cK) (R:List cK):List cK :=
 cM g (a.cells name p s) QM (0,0)::M::iZ a.gj d s.recs.length::dl d (dM (fi s.recs))::R
def L7 (g d:Nat) (name:dA) (p:jK) (s:m7) (a:uM) (M:cK):cK:=dI (Pu (a.ok M name p s)::qR g d name p s a M [])
def mL (g d:Nat) (name:dA) (p:jK) (s:m7):cK:=Ex fun a=>Ex fun M=>L7 g d name p s a M
theorem H8 {g d:Nat} {name:dA} {p:jK} {s:m7} {R:List cK} {P:Program} {f:FuncId} {args:Array Value} {e:World} {Post:Value→List cK→Prop}
 (h:∀ (a:uM) (M:cK),a.ok M name p s→Ct P f args e (qR g d name p s a M R) Post):Ct P f args e (mL g d name p s::R) Post :=
 Ct.ex .zero fun a=>Ct.ex .zero fun M=>Ct.cN (a7 (p:=a.ok M name p s) (fun w x=>(ke x).1) fun hp=>(h a M hp).cN (cC.drop aX)) (cW (M:=Pu (a.ok M name p s)::qR g d name p s a M []) (L:=R))
theorem uN {g d:Nat} {name:dA} {p:jK} {s:m7} {a:uM} {M:cK} {R:List cK} (h:a.ok M name p s):cC (qR g d name p s a M R) (mL g d name p s::R) :=
 cn (oX h) (cn (dN (M:=Pu (a.ok M name p s)::qR g d name p s a M []) (L:=R)) (cn (fI (f:=fun M=>L7 g d name p s a M) M) (fI (f:=fun a=>Ex fun M=>L7 g d name p s a M) a)))
theorem rj (g d:Nat) (name:dA) (p:jK) (s:m7) :
 Ct prog 29 #[pt g] e (mL g d name p s::R) (fun v' L'=>v'=.int .u32 (s.m.hJ:Int)∧L'=mL g d name p s::R):=by
 refine H8 fun a M ha=>?_
 refine a8 (args:=[_]) func29 rfl ntmps29 results29 rfl ?_;refine wB ?_;exact aY (mL g d name p s::R) rfl (uN ha) ⟨rfl,rfl⟩
def m7.l8 (name:dA) (p:jK) (s:m7) (b:vE):Int:=if l5 p b≠0 then l5 p b else if (dB b.fk).name≠name then 22 else if (dB b.fk).hJ≤s.m.hJ then 32 else 0
def m7.ii (name:dA) (p:jK) (s:m7) (b:vE):m7:=if s.l8 name p b=0 then ⟨s.recs++[b.fk]⟩ else s
theorem H9 {p:jK} {b:vE} (h:l5 p b=0):jm b.fk:=by
 unfold l5 at h
 by_cases hm:jm b.fk
 ·exact hm
 ·rw [aH hm] at h;cases h
theorem m7.wH {name:dA} {p:jK} {s:m7} {b:vE} (h:s.ok name) (hb:b.fk.length≤200) (hs:s.recs.length<1000) (h0:s.l8 name p b=0):m7.ok ⟨s.recs++[b.fk]⟩ name:=by
 have hc:l5 p b=0:=by
  unfold m7.l8 at h0
  by_cases hc:l5 p b≠0
  ·rw [aH hc] at h0;exact absurd h0 hc
  ·exact Decidable.not_not.1 hc
 unfold m7.l8 at h0
 rw [aB (fun q=>q hc)] at h0
 by_cases hn:(dB b.fk).name≠name
 ·rw [aH hn] at h0;cases h0
 rw [aB hn] at h0
 by_cases hv:(dB b.fk).hJ≤s.m.hJ
 ·rw [aH hv] at h0;cases h0
 refine ⟨by simp;omega,fun x hx=>?_,fun x hx=>?_,fun x hx=>?_,?_⟩
 ·rcases aJ.1 hx with hx|hx
  ·exact h.short x hx
  ·rw [an.1 hx];exact hb
 ·rcases aJ.1 hx with hx|hx
  ·exact h.uE x hx
  ·rw [an.1 hx];exact H9 hc
 ·rcases aJ.1 hx with hx|hx
  ·exact h.name x hx
  ·rw [an.1 hx];exact Decidable.not_not.1 hn
 ·rw [ah];refine List.pairwise_append.2 ⟨h.Cg,by simp,fun x hx y hy=>?_⟩;obtain ⟨z,hz,rfl⟩:=aD.1 hx;rw [List.map_cons,List.map_nil,an] at hy
  subst hy;refine Nat.lt_of_le_of_lt ?_ (Nat.lt_of_not_le hv);unfold m7.m CE
  cases hl:s.recs.getLast? with
  | none=>rw [List.getLast?_eq_none_iff] at hl;rw [hl] at hz;cases hz
  | some q =>
   obtain ⟨A,hA⟩:=List.getLast?_eq_some_iff.1 hl;have hr:=h.Cg;rw [hA,ah] at hr
   rw [hA] at hz
   rcases aJ.1 hz with hz|hz
   ·exact Nat.le_of_lt ((List.pairwise_append.1 hr).2.2 _ (aD.2 ⟨z,hz,rfl⟩) _ (aD.2 ⟨q,an.2 rfl,rfl⟩))
   ·rw [an.1 hz];exact aT _
theorem EI (g d:Nat) (name:dA) (p:jK) (s:m7) (v:Value) (b:vE) (hv:da R v (fU b)) (hw:b.wf) (NE:b.fk.length≤200) (hs:s.recs.length<1000) :
 Ct prog 52 #[pt g,v] e (mL g d name p s::R) (fun v' L'=>v'=.int .i64 (s.l8 name p b)∧L'=mL g d name p (s.ii name p b)::R):=by
 refine H8 fun a M ha=>?_
 refine a7 (cz (hv.cN (show cC (qR g d name p s a M R) R from zE))) fun o1=>?_
 refine a7 (cz (ha.wJ.log.cN (show cC (qR g d name p s a M R) [M] from cH zP))) fun o2=>?_
 refine a7 (ha.wJ.ey.cN (show cC (qR g d name p s a M R) [M] from cH zP)).one fun o3=>?_
 refine a7 (cz (ha.fw.cN (show cC (qR g d name p s a M R) [M] from cH zP))) fun o4=>?_
 refine a7 (cz (ha.notes.cN (show cC (qR g d name p s a M R) [M] from cH zP))) fun o5=>?_
 refine a8 (args:=[_,_]) func52 rfl ntmps52 results52 rfl ?_;refine wB ?_;refine aZ rfl rfl (tD _ e v b (hv.cN zE) hw) ?_;rintro _ _ ⟨N,um,up,ur,ua,uq,uc,rfl,hN,rfl⟩;refine bo (cz (hN.fk.cN (cH zP))) fun q1=>?_
 refine bo (hN.path.cN (cH zP)).one fun q2=>?_
 refine bo (cz (hN.kH.root.cN (cH zP))) fun q3=>?_
 refine bo (hN.kH.sig.cN (cH zP)).parts.one fun q4=>?_
 refine bo (hN.kH.sig.cN (cH zP)).path.one fun q5=>?_
 refine bo (hN.gs.cN (cH zP)).one fun q6=>?_
 (repeat (refine wA ?_;intros))
 rename_i g5;refine bl (id:=4) [6] (cM g5 (r5 b um up ur ua uq uc) qP (0,0)::N::qR g d name p s a M R) mixed ?_
 (refine tM 0 ?_;refine tN 1 ?_;refine tF 2 ?_;refine tk 3 _ rfl (cE.dj rfl zP zI zX) ?_;refine tJ 4 ?_)
 refine tO 5 ?_;refine bg rfl rfl (Ey _ e a.vl a.vw um up ur ua uq uc p b (ha.wJ.cN (cH zP)) ha.pr (hN.cN (cH zP)) hw) ?_;rintro _ _ ⟨rfl,rfl⟩;refine ⟨fun _=>zE,?_⟩
 by_cases hc:l5 p b=0
 rotate_left
 ·have hE:s.l8 name p b=l5 p b:=by unfold m7.l8;rw [aH hc]
  have hS:s.ii name p b=s:=by unfold m7.ii;rw [hE,aB hc]
  rw [hE,hS]
  generalize l5 p b=E at *
  ((refine tO 6 ?_;refine dV (bj rfl) ?_))
  refine bf zK ?_;refine wB ?_;exact aY (mL g d name p s::R) rfl (cn (show cC _ (qR g d name p s a M R) from zE) (uN ha)) ⟨rfl,rfl⟩
 rw [hc]
 ((refine tO 6 ?_;refine dV (bj rfl) ?_))
 refine bf zK ?_;refine wB ?_;have Xc:=H9 hc;have NR:s.l8 name p b=if (dB b.fk).name≠name then 22 else if (dB b.fk).hJ≤s.m.hJ then 32 else 0:=by unfold m7.l8;rw [aB (fun q=>q hc)]
 refine aZ rfl rfl (kv _ e um b.fk (hN.fk.cN (cH zP)) zo) ?_;rintro v1 _ ⟨lK,-⟩;obtain ⟨Mm,vf,vn,rfl,hf,hn,rfl⟩:=lK Xc;clear lK;refine bo (cz (hf.cN (cH zP))) fun q7=>?_
 refine bo (cz (hn.cN (cH zP))) fun q8=>?_
 (repeat (refine wA ?_;intros))
 rename_i g8
 by_cases NF:(dB b.fk).name=name
 rotate_left
 ·have hE:s.l8 name p b=22:=by rw [NR,aH NF]
  have hS:s.ii name p b=s:=by unfold m7.ii;rw [hE,aB (by decide)]
  rw [hE,hS];refine bE (id:=8) [] mixed ?_
  (refine tF 0 ?_;refine tL 1 ?_;refine tM 2 ?_;refine tN 3 ?_;refine tF 4 ?_;refine tL 5 ?_;refine tk 6 (.bool true) rfl (cE.iX (cE.Fh rfl rfl) zy) ?_;refine tA 7 ?_)
  refine bf zK ?_;refine wB ?_;exact aY (mL g d name p s::R) rfl (cn (show cC _ (qR g d name p s a M R) from zE) (uN ha)) ⟨rfl,rfl⟩
 subst NF;rw [aB (fun q=>q rfl)] at NR
 refine bE (id:=8) [] mixed ?_
 (refine tF 0 ?_;refine tL 1 ?_;refine tM 2 ?_;refine tN 3 ?_;refine tF 4 ?_;refine tL 5 ?_;refine tk 6 (.bool false) rfl (cE.no (cE.Fh rfl rfl) zn) ?_;refine tA 7 ?_)
 refine bf zK ?_
 by_cases hvr:(dB b.fk).hJ≤s.m.hJ
 ·have hE:s.l8 (dB b.fk).name p b=32:=by rw [NR,aH hvr]
  have hS:s.ii (dB b.fk).name p b=s:=by unfold m7.ii;rw [hE,aB (by decide)]
  rw [hE,hS];refine wB ?_;refine bE (id:=10) [] mixed ?_
  (refine tF 0 ?_;refine tL 1 ?_;refine tM 2 ?_;refine tN 3 ?_;refine tF 4 ?_;refine tF 5 ?_;refine tL 6 ?_;refine tk 7 (.bool true) rfl (cE.iX (cE.leq rfl rfl) zy) ?_;refine tA 8 ?_)
  refine bf zK ?_;refine wB ?_;exact aY (mL g d (dB b.fk).name p s::R) rfl (cn (show cC _ (qR g d (dB b.fk).name p s a M R) from zE) (uN ha)) ⟨rfl,rfl⟩
 have hE:s.l8 (dB b.fk).name p b=0:=by rw [NR,aB hvr]
 have hS:s.ii (dB b.fk).name p b=⟨s.recs++[b.fk]⟩:=by unfold m7.ii;rw [aH hE]
 have eI:=m7.wH ha.st NE hs hE;rw [hE,hS];have xU:=nN (l:=s.recs) (n:=200) ha.st.short;obtain ⟨p1,p2,p3⟩:=add_plain (b:=fi s.recs) (m:=b.fk) (sy:=(fi s.recs).length) zo;refine wB ?_;refine bE (id:=10) [] mixed ?_
 (refine tF 0 ?_;refine tL 1 ?_;refine tM 2 ?_;refine tN 3 ?_;refine tF 4 ?_;refine tF 5 ?_;refine tL 6 ?_;refine tk 7 (.bool false) rfl (cE.no (cE.leq rfl rfl) zn) ?_;refine tA 8 ?_)
 refine bf zK ?_;refine wB ?_;refine bl (id:=12) [7] (cM g5 (r5 b um up ur ua uq uc) qP (0,0)::N::cM g (a.cells (dB b.fk).name p s) QM (0,0)::R) mixed ?_
 (refine tM 0 ?_;refine tN 1 ?_;refine tF 2 ?_;refine tL 3 ?_;refine tF 4 ?_;refine tL 5 ?_)
 have LI:=fun L:List cK=>fun Ql:da L um b.fk=>nL L e a.gj d s.recs.length (m3 (fi s.recs) (fi s.recs).length) b.fk um (tf zo (aT _)) Ql zo zo
 rw [p1,p2,p3] at LI
 refine tO 6 ?_;refine bg rfl rfl (Ct.C9 zP zP (LI _ (hN.fk.cN (cH zP)))) ?_;rintro _ _ ⟨rfl,rfl⟩;refine ⟨fun _=>zE,?_⟩
 ((refine tO 7 ?_;refine dV (bj rfl) ?_))
 refine bf zK ?_;refine wB ?_;have BP:m7.m ⟨s.recs++[b.fk]⟩=dB b.fk:=A8 _ _;have eW:cC [dI [M,Mm]] [M]:=cn (cW (M:=[_,_]) (L:=[])) (bh bK);have iH:cC [dI [M,Mm]] [Mm]:=cn (cW (M:=[_,_]) (L:=[])) (cC.drop (bh bK))
 have Ku:uM.ok { a with vf:=vf,vn:=vn } (dI [M,Mm]) (dB b.fk).name p ⟨s.recs++[b.fk]⟩ :=
  ⟨ha.wJ.cN eW,by rw [BP];exact hf.cN iH,by rw [BP];exact hn.cN iH,eI,ha.pr⟩
 refine aY (mL g d (dB b.fk).name p ⟨s.recs++[b.fk]⟩::R) rfl (cn ?_ (uN Ku)) ⟨rfl,rfl⟩;simp only [qR,uM.cells,BP,nO,aa,aj];exact cn (eu (A:=M) (B:=Mm) zP zP) zE
theorem G5 (d:Nat) (name:dA) (vl vw:Value) (p:jK) (s:m7) (hp:j3 R vl vw p) (sq:p.right) (NF:pc name) (hs:s.ok name) :
 Ct prog 47 #[pt d,.string (str name),.agg (lq p vl vw).toArray] e (dl d (dM (fi s.recs))::R) (fun v' L'=>∃ g,v'=.tuple #[pt g,.int .i64 0]∧L'=mL g d name p s::R):=by
 have xU:=nN (l:=s.recs) (n:=200) hs.short;have Gx:∀ m∈s.recs,m.length≤65535:=fun m hm=>by have:=hs.short m hm;omega
 have D4:=nP s.recs Gx;have kD:=hs.size;have mG:cC (dl d (dM (fi s.recs))::R) R:=zE;refine a7 (cz (hp.log.cN mG)) fun o2=>?_
 refine a7 (hp.ey.cN mG).one fun o3=>?_
 have A3:=NF.2.1;have hmr:C1.right ⟨name,1,List.replicate 32 0,[]⟩:=⟨NF,Nat.one_pos,rfl,aG _⟩
 refine a8 (args:=[_,_,_]) func47 rfl ntmps47 results47 rfl ?_
 (repeat (refine wA ?_;intros))
 rename_i g5;refine bD (Do.makeSlice (c:=32) rfl rfl rfl rfl zl (by decide) fun gz=>?_)
 have hz:List.replicate 32 (Value.int .u8 0)=(List.replicate 32 (0:UInt8)).map u8:=rfl;rw [hz]
 (repeat (refine wA ?_;intros))
 refine aZ rfl rfl (u9 _ e (.slice (some ⟨gz,0,none⟩) 32 32) nY ⟨name,1,List.replicate 32 0,[]⟩ (ba .zero) (cF.nil _ _) zd) ?_;rintro _ _ ⟨rfl,rfl⟩;rw [ay hmr];refine wB ?_;refine aZ rfl rfl (j4 _ e vl vw p (hp.cN zE) sq) ?_;rintro _ _ ⟨rfl,rfl⟩;refine wB ?_;refine aZ rfl rfl (Ct.at zP (m2 _ e d (fi s.recs) zo)) ?_;rintro _ _ (⟨h1,-⟩|⟨-,gj,qN,cr,ts,rfl,fx,rfl⟩)
 ·rw [D4] at h1;cases h1
 rw [D4] at fx ⊢
 rw [show (fi s.recs).take (fi s.recs).length=fi s.recs from List.take_length];dsimp only at fx
 have mw:ts.length=s.recs.length:=by have:=congrArg List.length fx;rwa [ab] at this
 refine wB ?_;refine aZ rfl rfl (Cr _ e vl vw p (hp.cN zE) (by have:=sq.log;omega) (by have:=sq.iC;omega) (fun b hb=>by have:=sq.kI b hb;omega)) ?_;rintro _ _ ⟨Mp,ul,uw,rfl,Fa,rfl⟩;refine bo (cz (Fa.log.cN (cH zP))) fun o4=>?_
 refine bo (Fa.ey.cN (cH zP)).one fun o5=>?_
 (repeat (refine wA ?_;intros))
 rename_i gu;refine br (ι:=Nat × cK × Value × Value) (fun i=>[(1,.string (str name)),(11,pt gu),(41,.slice qN ts.length cr),(42,.int .i64 (ts.length:Int)),(43,.int .i64 (i.1:Int))]) (fun i=>cM gu (uM.cells ⟨gj,ul,uw,i.2.2.1,i.2.2.2⟩ name p ⟨s.recs.take i.1⟩) QM (0,0)::i.2.1::Mp::cG ts::cU (.slice qN ts.length cr) ts::iZ gj d ts.length::dl d (dM (fi s.recs))::R) (fun i=>i.1≤ts.length∧da [i.2.1] i.2.2.1 (CE (s.recs.take i.1)).fw∧da [i.2.1] i.2.2.2 (CE (s.recs.take i.1)).notes) (fun i=>ts.length - i.1) (0,cG [],nY,nY) ⟨aG _,cF.nil _ _,cF.nil _ _⟩ zS (cn dC zE) ?_;rintro ⟨i,Mx,vf,vn⟩ ⟨hi,hf,hn⟩;dsimp only at hi hf hn ⊢
 by_cases cQ:i<ts.length
 rotate_left
 ·rw [aF zo] at hf hn ⊢
  have eW:cC [dI [Mp,Mx]] [Mp]:=cn (cW (M:=[_,_]) (L:=[])) (bh bK);have iH:cC [dI [Mp,Mx]] [Mx]:=cn (cW (M:=[_,_]) (L:=[])) (cC.drop (bh bK));have kQ:uM.ok ⟨gj,ul,uw,vf,vn⟩ (dI [Mp,Mx]) name p s:=⟨Fa.cN eW,hf.cN iH,hn.cN iH,hs,sq⟩
  refine wB ?_;refine aY (mL gu d name p s::R) rfl (cn ?_ (uN kQ)) ⟨gu,rfl,rfl⟩;dsimp only [qR];rw [← mw];exact cn (eu (A:=Mp) (B:=Mx) zP zP) zE
 have oI:i<s.recs.length:=by omega
 have js:(ts[i]'cQ).2=s.recs[i]'oI:=by
  have:=congrArg (fun l=>l[i]?) fx;simp only [aI,ae cQ,ae oI,Option.map_some,Option.some.injEq] at this
  exact this
 have fq:s.recs.take (i+1)=s.recs.take i++[s.recs[i]'oI]:=aA oI;have D6:=hs.uE _ (az oI);have Wb:=hs.short _ (az oI);have SN:=hs.name _ (az oI)
 have hvi:(CE (s.recs.take i)).hJ<(dB (s.recs[i]'oI)).hJ:=by
  have hr:=hs.Cg.sublist ((List.take_sublist (i+1) s.recs).map fun b=>(dB b).hJ);rw [fq,ah] at hr
  unfold CE
  cases hl:(s.recs.take i).getLast? with
  | none=>exact D6.2.2.2.1
  | some q=>exact (List.pairwise_append.1 hr).2.2 _ (aD.2 ⟨q,List.mem_of_getLast? hl,rfl⟩) _ (by simp)
 have BP:CE (s.recs.take (i+1))=dB (s.recs[i]'oI):=by rw [fq,A8]
 refine bG ((ba (show cT _ (cU (.slice qN ts.length cr) ts) _ from zP)).shape zo) ?_;rintro ⟨⟨lE,c',lG,yS,HX,zi,tS⟩,_⟩
 cases lG
 simp only [maxLen] at HX
 rcases tS with tS|⟨gr,or',rfl⟩
 ·omega
 have kh:∀ L R',cT L (cU (.slice (some ⟨gr,or',none⟩) ts.length cr) ts) R'→Rd L ⟨gr,or'+i,none⟩ (ts[i]'cQ).1:=fun L R' p=>(ba p).elem (by rw [aI,ae cQ];rfl)
 have sF:∀ L R',cT L (cG ts) R'→da L (ts[i]'cQ).1 (ts[i]'cQ).2:=fun L R' p=>dE.ea p _ (az cQ)
 generalize s.recs[i]'oI=n at *
 generalize ts[i]'cQ=y at *
 obtain ⟨yv,b⟩:=y;dsimp only at kh sF js
 subst js;refine bG (cz (sF _ _ zP)) fun oy=>?_
 refine wB ?_;refine b7 rfl (kh _ _ zP) rfl ?_;refine wB ?_;refine aZ rfl rfl (kv _ e yv b (sF _ _ zP) zo) ?_;rintro v1 _ ⟨hd,-⟩;obtain ⟨Md,wf,wn,rfl,OZ,Ad,rfl⟩:=hd D6;refine bo (cz (OZ.cN (cH zP))) fun o6=>?_
 refine bo (cz (Ad.cN (cH zP))) fun o7=>?_
 subst SN;have Pa:(s.recs.take i).length=i:=by rw [aE];omega
 have Tk:(⟨s.recs.take i⟩:m7).recs.length=i:=Pa;have abY:(m7.m ⟨s.recs.take i⟩).hJ<(dB b).hJ:=hvi
 (repeat (refine wA ?_;intros))
 refine bE (id:=11) [] mixed ?_
 (refine tM 0 ?_;refine tk 1 (.bool false) rfl (cE.no (b8 rfl rfl) zn) ?_;refine tM 2 ?_;refine du 3 _ rfl (bb rfl) ?_;refine du 4 _ rfl (bq rfl zR) ?_;refine du 5 _ rfl (bw rfl) ?_;refine du 6 (.bool false) rfl (cE.no (cE.Fh rfl rfl) zn) ?_;refine tk 7 _ rfl (bJ rfl rfl) ?_;refine tM 8 ?_;refine du 9 _ rfl (bb rfl) ?_;refine du 10 _ rfl (bq rfl zR) ?_;refine du 11 _ rfl (bw rfl) ?_;refine du 12 _ rfl (bp rfl) ?_;refine du 13 _ rfl (bb rfl) ?_;refine du 14 _ rfl (bb rfl) ?_;refine du 15 _ rfl (bq rfl zR) ?_;refine du 16 (.bool false) rfl (cE.no (cE.leq rfl rfl) zn) ?_;refine tk 17 _ rfl (bJ rfl rfl) ?_)
 refine bf zK ?_;refine wB ?_;have sx:((⟨s.recs.take (i+1)⟩:m7).recs.length:Int)=((s.recs.take i).length:Int)+1:=by rw [fq];simp
 have RE:m7.m ⟨s.recs.take (i+1)⟩=dB b:=BP;refine bi (i+1,Md,wf,wn) ⟨cQ,by dsimp only;rw [BP];exact OZ,by dsimp only;rw [BP];exact Ad⟩ zd zS ?_;dsimp only [uM.cells];rw [RE,sx];exact zE
structure CF where
 cI:List dA
 last:Option jU
def CF.dO (s:CF):jU:=s.last.getD uI
structure CF.ok (s:CF):Prop where
 size:s.cI.length≤1000
 short:∀ b∈s.cI,b.length≤1000
 last:∀ x,s.last=some x→x.fits
abbrev JV:TypeId:=181
structure wi where
 vl:Value
 ai:Option Addr
 ci:Nat
 ts:List dX
 al:Option Addr
 cl:Nat
 us:List dX
 ur:Value
 up:Value
 uq:Value
structure wi.ok (a:wi) (M:cK) (log:dA) (s:CF):Prop where
 log:da [M] a.vl log
 cI:a.ts.map (·.2)=s.cI
 zf:dE [M] a.ts
 leaves:a.us.map (·.2)=s.cI.map cZ
 zh:dE [M] a.us
 last:ff [M] a.ur a.up a.uq s.dO
 st:s.ok
abbrev wi.cells (a:wi) (s:CF):List Value:=[a.vl,.slice a.ai a.ts.length a.ci,.slice a.al a.us.length a.cl,nY]++dT s.dO a.ur a.up a.uq++[.bool s.last.isSome]
abbrev wj (g:Nat) (s:CF) (a:wi) (M:cK) (R:List cK):List cK :=
 cM g (a.cells s) JV (0,0)::cU (.slice a.ai a.ts.length a.ci) a.ts::cU (.slice a.al a.us.length a.cl) a.us::M::R
def L8 (g:Nat) (log:dA) (s:CF) (a:wi) (M:cK):cK:=dI (Pu (a.ok M log s)::wj g s a M [])
def gR (g:Nat) (log:dA) (s:CF):cK:=Ex fun a=>Ex fun M=>L8 g log s a M
theorem wK {g:Nat} {log:dA} {s:CF} {R:List cK} {P:Program} {f:FuncId} {args:Array Value} {e:World} {Post:Value→List cK→Prop}
 (h:∀ (a:wi) (M:cK),a.ok M log s→Ct P f args e (wj g s a M R) Post):Ct P f args e (gR g log s::R) Post :=
 Ct.ex .zero fun a=>Ct.ex .zero fun M=>Ct.cN (a7 (p:=a.ok M log s) (fun w x=>(ke x).1) fun hp=>(h a M hp).cN (cC.drop aX)) (cW (M:=Pu (a.ok M log s)::wj g s a M []) (L:=R))
theorem yD {g:Nat} {log:dA} {s:CF} {a:wi} {M:cK} {R:List cK} (h:a.ok M log s):cC (wj g s a M R) (gR g log s::R) :=
 cn (oX h) (cn (dN (M:=Pu (a.ok M log s)::wj g s a M []) (L:=R)) (cn (fI (f:=fun M=>L8 g log s a M) M) (fI (f:=fun a=>Ex fun M=>L8 g log s a M) a)))
theorem sc (g:Nat) (log:dA) (s:CF) :
 Ct prog 41 #[pt g] e (gR g log s::R) (fun v' L'=>v'=.int .i64 (s.cI.length:Int)∧L'=gR g log s::R):=by
 refine wK fun a M ha=>?_
 have hl:a.ts.length=s.cI.length:=by have:=congrArg List.length ha.cI;rwa [ab] at this
 refine a8 (args:=[_]) func41 rfl ntmps41 results41 rfl ?_;refine wB ?_;exact aY (gR g log s::R) rfl (yD ha) ⟨by rw [← hl];rfl,rfl⟩
theorem CG :
 Ct prog 96 #[nY] e R (fun v' L'=>v'=nY∧R=L'):=by
 refine a8 (args:=[_]) func96 rfl ntmps96 results96 rfl ?_;refine wB ?_;exact aY R rfl aX ⟨rfl,rfl⟩
theorem tE (g:Nat) (log:dA) (s:CF) :
 Ct prog 35 #[pt g] e (gR g log s::R) (fun v' L'=>v'=nY∧L'=gR g log s::R):=by
 refine wK fun a M ha=>?_
 refine a8 (args:=[_]) func35 rfl ntmps35 results35 rfl ?_;refine wB ?_;refine aZ rfl rfl (CG _ e) ?_;rintro _ _ ⟨rfl,rfl⟩;refine wB ?_;exact aY (gR g log s::R) rfl (yD ha) ⟨rfl,rfl⟩
theorem uO (v:Value) (log:dA) (hv:da R v log) (hl:log.length=32) :
 Ct prog 37 #[v] e R (fun v' L'=>∃ g,v'=.tuple #[pt g,.int .i64 0]∧L'=gR g log ⟨[],none⟩::R):=by
 refine a7 (cF.shape hv zo) ?_;rintro ⟨⟨ad,c,rfl,-,-,-,-⟩,_⟩;refine a8 (args:=[_]) func37 rfl ntmps37 results37 rfl ?_;refine wB ?_;refine aZ rfl rfl (dy _ e _ log (hv.cN zE) zo) ?_;rintro _ _ ⟨dW,c1,rfl,rfl⟩
 (repeat (refine wA ?_;intros))
 rename_i g
 have kQ:wi.ok ⟨.slice dW log.length c1,none,0,[],none,0,[],nY,nY,nY⟩ (cR (.slice dW log.length c1) log) log ⟨[],none⟩ :=
  ⟨ba .zero,rfl,fun x hx=>absurd hx aO,rfl,fun x hx=>absurd hx aO,oS _,⟨aG _,fun b hb=>absurd hb aO,fun x hx=>nomatch hx⟩⟩
 refine aY (gR g log ⟨[],none⟩::R) rfl (cn (cn (di dZ 1) (cn (di dZ 1) ?_)) (yD kQ)) ⟨g,rfl,rfl⟩;dsimp only [wj,wi.cells];exact zE
theorem EJ (v:Value) (l:List dX) (h:cF R 1 v l.length (l.map (·.1))) (h1:dE R l) (hl:l.length≤100000) :
 Ct prog 100 #[v] e R (fun v' L'=>∃ ad c,v'=.slice ad l.length c∧L'=cU (.slice ad l.length c) l::R):=by
 refine a7 (AW h1) fun ho=>?_
 have SE:∀ c∈l.map (·.1),c.oneCell'=true:=fun c hc=>by obtain ⟨m,hm,rfl⟩:=aD.1 hc;exact ho m hm
 refine a7 (h.shape zo) ?_;rintro ⟨⟨ad,cap,rfl,h3,h4,h5,h6⟩,_⟩;refine a8 (args:=[_]) func100 rfl ntmps100 results100 rfl ?_
 cases ad with
 | none =>
  have tR:l=[]:=by
   have:=h5 rfl;exact List.eq_nil_of_length_eq_zero zo
  subst tR;refine wB ?_;exact aY _ rfl (di _ _) ⟨_,_,rfl,rfl⟩
 | some a =>
  (repeat (refine wA ?_;intros))
  refine O.fo (fW (n:=1) (k:=0) (cap:=0) zo zl rfl) ?_;refine bD (bm rfl rfl rfl .zero h rfl rfl SE zm zo fun lE c' lG=>?_)
  refine wB ?_;refine aY _ rfl ?_ ⟨lE,c',by simp [z9],rfl⟩;simp only [aC];exact aX
abbrev Ia:TypeId:=87
theorem EK (g:Nat) (log:dA) (s:CF) (vr vp vq v:Value) (x:jU) (ls:List dX) (hx:ff R vr vp vq x) (MY:x.fits) (hv:x.hJ log) (wv:cF R 1 v ls.length (ls.map (·.1))) (I7:dE R ls) (hs:s.cI.length<x.dd.size) (hl:ls.length=x.dd.size - s.cI.length) (hb:∀ y∈ls,y.2.length≤1000) (so:x.dd.root=dR ((s.cI++ls.map (·.2)).map cZ)) :
 Ct prog 39 #[pt g,.agg (dT x vr vp vq).toArray,v] e (gR g log s::R) (fun v' L'=>v'=.int .i64 0∧L'=gR g log ⟨s.cI++ls.map (·.2),some x⟩::R):=by
 refine wK fun a M ha=>?_
 have mw:a.ts.length=s.cI.length:=by have:=congrArg List.length ha.cI;rwa [ab] at this
 have hu:a.us.length=s.cI.length:=by have:=congrArg List.length ha.leaves;rwa [ab,ab] at this
 have kD:=ha.st.size;have hxs:=MY.1.1;have mG:cC (wj g s a M R) R:=zE;refine a7 (cz (hx.root.cN mG)) fun o5=>?_
 refine a7 (hx.sig.cN mG).parts.one fun o6=>?_
 refine a7 (hx.sig.cN mG).path.one fun o7=>?_
 refine a7 (AW (fun y hy=>(I7 y hy).cN mG)) fun o8=>?_
 refine a7 (cz (ha.log.cN (show cC (wj g s a M R) [M] from cH zP))) fun o9=>?_
 refine a7 ((wv.cN mG).shape zo) ?_;rintro ⟨⟨ot,cv,rfl,hv3,P5,OY,HJ⟩,_⟩;simp only [maxLen] at P5
 have jD:∀ y∈a.us,y.2.length=32:=fun y hy=>by
  have:y.2∈s.cI.map cZ:=by rw [← ha.leaves];exact aD.2 ⟨y,hy,rfl⟩
  obtain ⟨b,hb,BH⟩:=aD.1 this;rw [← BH];exact de _ _
 refine a8 (args:=[_,_,_]) func39 rfl ntmps39 results39 rfl ?_
 (repeat' first|refine Zb ?_|apply Zc|apply Zd|apply Ze|apply Zf|refine Zh ?_|refine Yg fun _=>?_|refine Yh fun _=>?_|apply YB|refine YR ?_|(apply O.dj;exact rfl;exact zP;(first|(simp only [aC,Nat.add_zero,Nat.reduceAdd,List.drop_succ_cons,List.drop_zero,List.take_succ_cons,List.take_zero];done)|(simp only [aC,Nat.add_zero,Nat.reduceAdd,List.drop_succ_cons,List.drop_zero,List.take_succ_cons,List.take_zero];exact rfl));exact rfl;exact rfl))
 rename_i g4 g7;refine bE (id:=2) [] mixed ?_
 (refine tM 0 ?_;refine tN 1 ?_;refine tF 2 ?_;refine tL 3 ?_;refine tJ 4 ?_)
 refine tO 5 ?_;refine bg rfl rfl (ku _ e a.vl vr vp vq log x (ha.log.cN (cH zP)) (hx.cN zE) MY.1) ?_;rintro _ _ ⟨rfl,rfl⟩;refine ⟨fun _=>zE,A.fF zE ?_⟩;rw [ay hv]
 (refine tk 6 _ rfl (cE.jX rfl) ?_;refine tA 7 ?_)
 refine bf zK ?_;refine wB ?_;refine bE (id:=4) [] mixed ?_
 (refine tF 0 ?_;refine tL 1 ?_;refine tM 2 ?_;refine tN 3 ?_;refine tF 4 ?_;refine tL 5 ?_;refine tk 6 _ rfl (bO rfl) ?_;refine tk 7 (.bool false) rfl (cE.no (cE.leq rfl rfl) zn) ?_;refine tM 8 ?_;refine bc 9 rfl rfl zK zE rfl ?_;refine bc 10 rfl rfl zK zE rfl ?_;refine bc 11 rfl rfl zK zE rfl ?_;refine tk 12 _ rfl (bJ rfl rfl) ?_;refine tA 13 ?_)
 refine bf zK ?_;refine wB ?_;refine bE (id:=6) [] mixed ?_
 (refine tF 0 ?_;refine tL 1 ?_;refine tM 2 ?_;refine tN 3 ?_;refine tF 4 ?_;refine tL 5 ?_;refine tk 6 _ rfl (bO rfl) ?_;refine tk 7 (.bool false) rfl (cE.no (cE.leq rfl rfl) zn) ?_;refine tM 8 ?_;refine bc 9 rfl rfl zK zE rfl ?_;refine bc 10 rfl rfl zK zE rfl ?_;refine bc 11 rfl rfl zK zE rfl ?_;refine bc 12 rfl rfl zK zE rfl ?_;refine bc 13 rfl rfl zK zE rfl ?_;refine bc 14 rfl rfl zK zE rfl ?_;refine bc 15 rfl rfl zK zE rfl ?_;refine bc 17 rfl rfl zK zE rfl ?_;refine bc 18 rfl rfl zK zE rfl ?_)
 refine bc 16 rfl rfl zK zE rfl ?_;refine bc 19 rfl rfl zK zE rfl ?_
 (refine bc 20 rfl rfl zK zE rfl ?_;refine tk 21 _ rfl (bJ rfl rfl) ?_;refine tA 22 ?_)
 refine bf zK ?_;refine wB ?_;refine bE (id:=9) [] mixed ?_
 (refine tF 0 ?_;refine tL 1 ?_;refine tM 2 ?_;refine tN 3 ?_;refine tF 4 ?_;refine tL 5 ?_;refine tk 6 _ rfl (bO rfl) ?_;refine tk 7 (.bool false) rfl (cE.no (cE.leq rfl rfl) zn) ?_;refine tA 8 ?_)
 refine bf zK ?_;refine wB ?_;refine bE (id:=11) [] mixed ?_
 (refine tM 0 ?_;refine tk 1 _ rfl (bO rfl) ?_;refine tF 2 ?_;refine tL 3 ?_;refine tM 4 ?_;refine tN 5 ?_;refine tF 6 ?_;refine tL 7 ?_;refine tk 8 _ rfl (bO rfl) ?_;refine tk 9 _ rfl (cE.jL rfl rfl zo) ?_;refine tk 10 (.bool false) rfl (cE.no (b8 rfl rfl) zn) ?_;refine tA 11 ?_)
 refine bf zK ?_;refine wB ?_;refine aZ rfl rfl (EJ _ e (.slice a.al a.us.length a.cl) a.us (ba zP) (fun y hy=>(ha.zh y hy).cN (cH zP)) zo) ?_;rintro _ _ ⟨VI,c8,rfl,rfl⟩;refine wB ?_;refine br (ι:=Nat × List dX × Option Addr × Nat) (fun j=>[(0,pt g),(2,.slice ot ls.length cv),(4,pt g4),(7,pt g7),(8,.slice j.2.2.1 (a.us++j.2.1).length j.2.2.2),(98,.slice ot ls.length cv),(99,.int .i64 (ls.length:Int)),(100,.int .i64 (j.1:Int))]) (fun j=>cU (.slice j.2.2.1 (a.us++j.2.1).length j.2.2.2) (a.us++j.2.1)::cG j.2.1::cM g7 (gX x.dd vr) 83 (0,0)::cM g4 (dT x vr vp vq) Ia (0,0)::cM g [a.vl,.slice a.ai a.ts.length a.ci,.slice a.al a.us.length a.cl,nY,.int .i64 (s.dO.dd.size:Int),a.ur,.int .i64 (s.dO.sig.idx:Int),a.up,a.uq,.bool s.last.isSome] JV (0,0)::cU (.slice a.ai a.ts.length a.ci) a.ts::cU (.slice a.al a.us.length a.cl) a.us::M::R) (fun j=>j.1≤ls.length∧j.2.1.map (·.2)=((ls.take j.1).map (·.2)).map cZ) (fun j=>ls.length - j.1) (0,[],VI,c8) ⟨aG _,rfl⟩ (by rw [aK];exact zS) (by rw [aK];exact cn dC zE) ?_;rintro ⟨j,fs,RF,cf⟩ ⟨hj,AV⟩;dsimp only at hj AV ⊢
 have CY:fs.length=j:=by have:=congrArg List.length AV;rw [ab,ab,ab,aE] at this;omega
 by_cases cQ:j<ls.length
 ·rcases HJ with HJ|⟨gg,og,rfl⟩
  ·omega
  have hr:Rd R ⟨gg,og+j,none⟩ (ls[j]'cQ).1:=wv.elem (by rw [aI,ae cQ];rfl);have HB:=I7 _ (az cQ);have NE:=hb _ (az cQ);have fq:(ls.take (j+1)).map (·.2)=(ls.take j).map (·.2)++[(ls[j]'cQ).2]:=by rw [aA cQ,ah];rfl
  generalize ls[j]'cQ=y at *
  obtain ⟨yv,b⟩:=y;dsimp only at hr HB NE fq
  refine bG (cz (HB.cN zE)) fun o3=>?_
  have HD:(a.us++fs).length=a.us.length+j:=by rw [aa,CY]
  (repeat' first|(refine b7 rfl (hr.cN zE) rfl ?_)|refine Za ?_|refine Zb ?_|apply Zc|apply Zd|apply Ze|apply Zf|refine ZA ?_|refine Yw ?_|refine Yz ?_|apply YB|apply YC)
  refine aZ rfl rfl (qt _ e yv b (HB.cN zE) zo) ?_;rintro _ _ ⟨pZ,cx,rfl,rfl⟩
  (repeat (refine wA ?_;intros))
  refine bD (bm rfl rfl rfl (show cT _ (cU (.slice RF (a.us++fs).length cf) (a.us++fs)) _ from zP) (bQ (n:=1) (c:=1) zP rfl zl) rfl rfl zO zm zo fun dW k1 _=>?_)
  refine wB ?_;have e1:a.us++(fs++[(.slice pZ (cZ b).length cx,cZ b)])=(a.us++fs)++[(.slice pZ (cZ b).length cx,cZ b)]:=by rw [aM]
  have e2:((a.us++fs)++[(Value.slice pZ (cZ b).length cx,cZ b)]).length=(a.us++fs).length+1:=by rw [aa];rfl
  refine bi (j+1,fs++[(.slice pZ (cZ b).length cx,cZ b)],dW,k1) ⟨cQ,by dsimp only;rw [fq,ah,ah,AV];rfl⟩ zd ?_ ?_
  ·dsimp only;rw [e1,e2];exact zS
  ·dsimp only;rw [e1];simp only [cU,e2,ah (l₁:=a.us++fs),List.map_cons,List.map_nil];exact cn (cn (show cC _ (cR (.slice pZ (cZ b).length cx) (cZ b)::cG fs::dJ dZ 1 (.slice dW ((a.us++fs).length+1) k1) ((a.us++fs).length+1) ((a.us++fs).map (·.1)++[.slice pZ (cZ b).length cx])::cM g7 (gX x.dd vr) 83 (0,0)::cM g4 (dT x vr vp vq) Ia (0,0)::cM g [a.vl,.slice a.ai a.ts.length a.ci,.slice a.al a.us.length a.cl,nY,.int .i64 (s.dO.dd.size:Int),a.ur,.int .i64 (s.dO.sig.idx:Int),a.up,a.uq,.bool s.last.isSome] JV (0,0)::cU (.slice a.ai a.ts.length a.ci) a.ts::cU (.slice a.al a.us.length a.cl) a.us::M::R) from zE) jp) zE
 rw [aF zo] at AV
 have L9:(a.us++fs).map (·.2)=(s.cI++ls.map (·.2)).map cZ:=by rw [ah,ah,ha.leaves,AV]
 have Xd:dR ((a.us++fs).map (·.2))=x.dd.root:=by rw [so,L9]
 have TM:∀ L R',cT L (cG fs) R'→cC L [M]→dE L (a.us++fs):=fun L R' pl hm y hy=>by
  rcases aJ.1 hy with hy|hy
  ·exact (ha.zh y hy).cN hm
  ·exact dE.ea pl y hy
 have Xe:∀ y∈a.us++fs,y.2.length≤1000000:=fun y hy=>by
  have:y.2∈(a.us++fs).map (·.2):=aD.2 ⟨y,hy,rfl⟩;rw [L9] at this
  obtain ⟨b,hb,BH⟩:=aD.1 this;rw [← BH,show (cZ b).length=32 from de _ _];decide
 have HD:(a.us++fs).length≤2000:=by rw [aa];omega
 refine wB ?_;refine bE (id:=19) [] mixed ?_
 (refine tM 0 ?_;refine tF 2 ?_;refine tL 3 ?_)
 refine tO 1 ?_;refine bg rfl rfl (j1 _ _ e (.slice RF (a.us++fs).length cf) (a.us++fs) rfl (ba zP) (TM _ _ zP (cH zP)) Xe zo) ?_;rintro _ _ ⟨qN,kr,rfl,rfl⟩;refine ⟨fun _=>zE,A.fF zE ?_⟩;rw [Xd];refine tO 4 ?_;refine bg rfl rfl (rY _ e _ vr x.dd.root x.dd.root (ba zP) (hx.root.cN zE)) ?_;rintro _ _ ⟨rfl,rfl⟩;refine ⟨fun _=>zE,A.fF zE ?_⟩;rw [ay rfl]
 (refine tk 5 _ rfl (cE.jX rfl) ?_)
 refine bf zK ?_;refine wB ?_;refine br (ι:=Nat × List dX × Option Addr × Nat) (fun j=>[(0,pt g),(4,pt g4),(8,.slice RF (a.us++fs).length cf),(116,.slice ot ls.length cv),(117,.int .i64 (ls.length:Int)),(118,.int .i64 (j.1:Int))]) (fun j=>cM g [a.vl,.slice j.2.2.1 (a.ts++j.2.1).length j.2.2.2,.slice a.al a.us.length a.cl,nY,.int .i64 (s.dO.dd.size:Int),a.ur,.int .i64 (s.dO.sig.idx:Int),a.up,a.uq,.bool s.last.isSome] JV (0,0)::cU (.slice j.2.2.1 (a.ts++j.2.1).length j.2.2.2) (a.ts++j.2.1)::cG j.2.1::cG fs::cU (.slice RF (a.us++fs).length cf) (a.us++fs)::cM g4 (dT x vr vp vq) Ia (0,0)::M::R) (fun j=>j.1≤ls.length∧j.2.1.map (·.2)=(ls.take j.1).map (·.2)) (fun j=>ls.length - j.1) (0,[],a.ai,a.ci) ⟨aG _,rfl⟩ zS (by rw [aK];exact cn dC zE) ?_;rintro ⟨j2,gs,C3,cg⟩ ⟨Lg,wI⟩;dsimp only at Lg wI ⊢
 have B6:gs.length=j2:=by have:=congrArg List.length wI;rw [ab,ab,aE] at this;omega
 by_cases jP:j2<ls.length
 ·rcases HJ with HJ|⟨gg,og,rfl⟩
  ·omega
  have hr:Rd R ⟨gg,og+j2,none⟩ (ls[j2]'jP).1:=wv.elem (by rw [aI,ae jP];rfl);have HB:=I7 _ (az jP);have NE:=hb _ (az jP);have fq:(ls.take (j2+1)).map (·.2)=(ls.take j2).map (·.2)++[(ls[j2]'jP).2]:=by rw [aA jP,ah];rfl
  generalize ls[j2]'jP=y at *
  obtain ⟨yv,b⟩:=y;dsimp only at hr HB NE fq
  refine bG (cz (HB.cN zE)) fun o3=>?_
  have abZ:(a.ts++gs).length=a.ts.length+j2:=by rw [aa,B6]
  (repeat' first|(refine b7 rfl (hr.cN zE) rfl ?_)|refine Zb ?_|apply Zc|apply Zd|apply Ze|apply Zf|refine ZA ?_|refine Yw ?_|refine Yz ?_|apply YB|apply YC)
  refine bl (id:=24) [9,10,11] (cM g [a.vl,.slice C3 (a.ts++gs).length cg,.slice a.al a.us.length a.cl,nY,.int .i64 (s.dO.dd.size:Int),a.ur,.int .i64 (s.dO.sig.idx:Int),a.up,a.uq,.bool s.last.isSome] JV (0,0)::R) mixed ?_
  (refine tM 0 ?_;refine tM 1 ?_;refine tN 2 ?_;refine tF 3 ?_;refine tL 4 ?_;refine tM 5 ?_)
  refine tO 6 ?_;refine bg rfl rfl (dy _ e yv b (HB.cN zE) zo) ?_;rintro _ _ ⟨pZ,cx,rfl,rfl⟩;refine ⟨fun _=>zE,?_⟩;refine tO 7 ?_;refine bF (n:=1) (cs:=[.slice pZ b.length cx]) rfl rfl rfl rfl zQ rfl (fun gb=>⟨fun _=>zE,?_⟩);refine tO 8 ?_;refine bm rfl rfl rfl (show cT _ (cU (.slice C3 (a.ts++gs).length cg) (a.ts++gs)) _ from zP) (bQ (n:=1) (c:=1) zP rfl zl) rfl rfl zO zm zo fun dW k1 _=>⟨fun _=>zE,?_⟩
  refine tO 9 ?_;refine dV (bp rfl) ?_;refine tO 10 ?_;refine dV (bb rfl) ?_;refine tO 11 ?_;refine tZ ?_;refine ⟨zN,?_⟩;refine bf zK ?_;refine wB ?_;have e1:a.ts++(gs++[(.slice pZ b.length cx,b)])=(a.ts++gs)++[(.slice pZ b.length cx,b)]:=by rw [aM]
  have e2:((a.ts++gs)++[(Value.slice pZ b.length cx,b)]).length=(a.ts++gs).length+1:=by rw [aa];rfl
  refine bi (j2+1,gs++[(.slice pZ b.length cx,b)],dW,k1) ⟨jP,by dsimp only;rw [fq,ah,wI];rfl⟩ zd zS ?_;dsimp only;rw [e1];simp only [cU,e2,ah (l₁:=a.ts++gs),List.map_cons,List.map_nil];exact cn (cn (show cC _ (cR (.slice pZ b.length cx) b::cG gs::cM g [a.vl,.slice dW ((a.ts++gs).length+1) k1,.slice a.al a.us.length a.cl,nY,.int .i64 (s.dO.dd.size:Int),a.ur,.int .i64 (s.dO.sig.idx:Int),a.up,a.uq,.bool s.last.isSome] JV (0,0)::dJ dZ 1 (.slice dW ((a.ts++gs).length+1) k1) ((a.ts++gs).length+1) ((a.ts++gs).map (·.1)++[.slice pZ b.length cx])::cG fs::cU (.slice RF (a.us++fs).length cf) (a.us++fs)::cM g4 (dT x vr vp vq) Ia (0,0)::M::R) from zE) jp) zE
 rw [aF zo] at wI
 refine wB ?_;refine aZ rfl rfl (iz _ e vr vp vq x (hx.cN zE) MY.2.fits) ?_;rintro _ _ ⟨N,ur,up,uq,rfl,hN,rfl⟩;refine bo (cz (hN.root.cN (cH zP))) fun LZ=>?_
 refine bo (hN.sig.cN (cH zP)).parts.one fun Ty=>?_
 refine bo (hN.sig.cN (cH zP)).path.one fun UQ=>?_
 refine wB ?_;have Rw:cC [dI [M,N,cG fs,cG gs]] [M,N,cG fs,cG gs]:=cW (M:=[_,_,_,_]) (L:=[])
 have kQ:wi.ok ⟨a.vl,C3,cg,a.ts++gs,RF,cf,a.us++fs,ur,up,uq⟩ (dI [M,N,cG fs,cG gs]) log ⟨s.cI++ls.map (·.2),some x⟩ :=
  ⟨(
   ha.log.cN (cH .zero)).cN Rw,by dsimp only;rw [ah,ha.cI,wI],fun y hy=>by
   rcases aJ.1 hy with hy|hy
   ·exact ((ha.zf y hy).cN (cH .zero)).cN Rw
   ·exact (dE.ea (show cT [M,N,cG fs,cG gs] (cG gs) _ from zP) y hy).cN Rw,L9,fun y hy=>(TM [M,N,cG fs,cG gs] _ zP (cH .zero) y hy).cN Rw,(hN.cN (cH (.succ .zero))).cN Rw,⟨by simp only [aa,ab];omega,fun b sz=>by
   rcases aJ.1 sz with sz|sz
   ·exact ha.st.short b sz
   ·obtain ⟨y,hy,rfl⟩:=aD.1 sz;exact hb y hy,fun y hy=>by cases hy;exact MY⟩⟩
 refine aY (gR g log ⟨s.cI++ls.map (·.2),some x⟩::R) rfl (cn ?_ (yD kQ)) ⟨rfl,rfl⟩;dsimp only [wj,wi.cells];exact cn (qF (A:=M) (B:=N) (C:=cG fs) (D:=cG gs) zP zP zP zP) zE
end Go.Proofs
namespace Go.Proofs
open Go.Bs
attribute [local irreducible] Bs.cE Bs.Do Bs.O Bs.W Bs.Fin Bs.A Bs.Ct Bs.cF Bs.Rd Bs.Sat Bs.cM Bs.Ob Bs.dJ Bs.View Bs.cC Bs.Ex Bs.dI Bs.Pu Bs.eZ Bs.dK Bs.eh
open Tryz
variable (R:List cK) (e:World)
structure gV where
 kind:Int
 MZ:Int
 to:Int
 v:Value
 b:List UInt8
def gV.cells (m:gV):List Value:=[.int .i64 m.kind,.int .i64 m.MZ,.int .i64 m.to,m.v]
def gV.t (m:gV):dX:=(m.v,m.b)
def gV.d (m:gV):Int × Int × Int × List UInt8:=(m.kind,m.MZ,m.to,m.b)
abbrev Ma:TypeId:=268
theorem oU (m:gV):m.cells.length=4:=rfl
theorem Mb:∀ l:List gV,(l.flatMap gV.cells).length=l.length*4
 | []=>rfl
 | m::l=>by
  rw [aV,aa,Mb l,oU,aR,Nat.add_mul];omega
theorem Ib (l:List gV) (i:Nat):(l.flatMap gV.cells).take (i*4)=(l.take i).flatMap gV.cells:=by
 induction l generalizing i with
 | nil=>simp
 | cons m l ih =>
  cases i with
  | zero=>simp
  | succ i =>
   rw [aV,List.take_succ_cons,aV,List.take_append,oU,aF (by rw [oU];omega),← ih]
   congr 2;omega
theorem Oa (l:List gV) (i:Nat):(l.flatMap gV.cells).drop (i*4)=(l.drop i).flatMap gV.cells:=by
 induction l generalizing i with
 | nil=>simp
 | cons m l ih =>
  cases i with
  | zero=>simp
  | succ i =>
   rw [aV,List.drop_succ_cons,List.drop_append,oU,List.drop_of_length_le (by rw [oU];omega),← ih];simp only [List.nil_append]
   congr 1;omega
abbrev uP (v:Value) (l:List gV):cK:=dJ Ma 4 v l.length (l.flatMap gV.cells)
def Mc (g n:Nat) (l:List gV) (ad:Option Addr) (c:Nat):cK:=dI [cM g [.int .i64 (n:Int),.slice ad l.length c] 224 (0,0),uP (.slice ad l.length c) l,cG (l.map gV.t)]
def Net (g n:Nat) (l:List gV):cK:=Ex fun ad=>Ex fun c=>Mc g n l ad c
section
variable {g n:Nat} {l:List gV} {R:List cK} {P:Program} {e:World}
theorem CH {f:FuncId} {args:Array Value} {Post:Value→List cK→Prop}
 (h:∀ ad c,Ct P f args e (cM g [.int .i64 (n:Int),.slice ad l.length c] 224 (0,0)::uP (.slice ad l.length c) l::cG (l.map gV.t)::R) Post):Ct P f args e (Net g n l::R) Post :=
 Ct.ex .zero fun ad=>Ct.ex .zero fun c=>(h ad c).cN cW
theorem EL {N:Fr} {all:Array Oper} {ol:List Oper} {Q:fM} {σ:Env}
 (h:∀ ad c,O P N all ol Q σ e (cM g [.int .i64 (n:Int),.slice ad l.length c] 224 (0,0)::uP (.slice ad l.length c) l::cG (l.map gV.t)::R)):O P N all ol Q σ e (Net g n l::R) :=
 O.ex .zero fun ad=>O.ex .zero fun c=>(h ad c).cN cW
theorem nv {c:Nat} {ad:Option Addr}:cC (cM g [.int .i64 (n:Int),.slice ad l.length c] 224 (0,0)::uP (.slice ad l.length c) l::cG (l.map gV.t)::R) (Net g n l::R) :=
 cn (dN (M:=[_,_,_])) (cn (fI (f:=fun c=>Mc g n l ad c) c) (fI (f:=fun ad=>Ex fun c=>Mc g n l ad c) ad))
end
theorem A9 {g n:Nat} {l:List gV} {R:List cK}:cC (Net g n l::R) (cG (l.map gV.t)::R) :=
 tW fun ad=>tW fun c=>cW.trans zE
theorem se {v:Value} {l:List gV} {L R:List cK} (p:cT L (uP v l) R):∀ h,dK L h→∃ ad c,v=.slice ad l.length c∧l.length≤c∧c≤maxLen∧((ad=none∧c=0∧l.length=0)∨∃ g,ad=some ⟨g,0,none⟩):=fun h x=>by
 obtain ⟨⟨ad,c,h1,h2,h3,h4⟩,_⟩:=gx p h x;exact ⟨ad,c,h1,h2,h3,h4⟩
theorem JW (n:Nat) (hn:1≤n∧n≤32) :
 Ct prog 165 #[.int .i64 n] e R (fun v' L'=>∃ g,v'=.tuple #[pt g,.int .i64 0]∧L'=Net g n []::R):=by
 refine a8 (args:=[_]) func165 rfl ntmps165 results165 rfl ?_
 (repeat (refine wA ?_;intros))
 exact aY _ rfl ((bh ((di Ma 4).trans (bh dC))).trans (nv (l:=[]))) ⟨_,rfl,rfl⟩
theorem JX (m:gV) (hr:da R m.v m.b) (hb:m.b.length≤140737488351232) :
 Ct prog 248 #[.agg m.cells.toArray] e R (fun v' L'=>∃ ad c,v'=.agg (gV.cells { m with v:=.slice ad m.b.length c }).toArray∧L'=cG [(.slice ad m.b.length c,m.b)]::R):=by
 refine a7 (hr.shape zo) ?_;rintro ⟨⟨K5,c0,hv,g3,g4,g5,g6⟩,_⟩;obtain ⟨kind,MZ,to,v,b⟩:=m;dsimp only at hr hb hv g3 g6 ⊢
 subst hv;simp only [gV.cells];refine bI (args:=[_]) func248 rfl ntmps248 results248 rfl ?_
 (repeat (refine wA ?_;intros))
 refine aZ rfl rfl (dy _ e _ b hr.tail.tail zo) ?_;rintro _ _ ⟨ad,c,rfl,rfl⟩;refine wB ?_;apply bB
 ·exact zV
 ·exact ⟨_,(show cC _ (cR (.slice ad b.length c) b::R) from zE).trans (jx (a:=(.slice ad b.length c,b))),ad,c,rfl,rfl⟩
theorem EM (g n:Nat) (l:List gV) (i:Int) (hl:l.length≤1000) :
 Ct prog 249 #[pt g,.int .i64 i] e (Net g n l::R) (fun v' L'=>v'=.bool (decide (0≤i∧i<l.length))∧L'=Net g n l::R):=by
 refine CH fun ad c=>?_
 refine a8 (args:=[_,_]) func249 rfl ntmps249 results249 rfl ?_
 by_cases h0:0≤i
 ·by_cases h1:i<l.length
  ·refine wB ?_;exact aY _ rfl nv ⟨by simp [h0,h1];rfl,rfl⟩
  ·refine wB ?_;exact aY _ rfl nv ⟨by simp [h1];rfl,rfl⟩
 ·refine wB ?_;exact aY _ rfl nv ⟨by simp [h0];rfl,rfl⟩
theorem JY (g n:Nat) (l:List gV) :
 Ct prog 62 #[pt g] e (Net g n l::R) (fun v' L'=>v'=.int .i64 (l.length:Int)∧L'=Net g n l::R):=by
 refine CH fun ad c=>?_
 refine a8 (args:=[_]) func62 rfl ntmps62 results62 rfl ?_;refine wB ?_;exact aY _ rfl nv ⟨rfl,rfl⟩
theorem sf (g n:Nat) (l:List gV) (m:gV) (hr:da (Net g n l::R) m.v m.b) (hb:m.b.length≤140737488351232) (hl:l.length≤n) (hn:n≤1000) :
 Ct prog 176 #[pt g,.agg m.cells.toArray] e (Net g n l::R)
  (fun v' L'=>(l.length<n∧v'=.bool true∧∃ v2,L'=Net g n (l++[{ m with v:=v2 }])::R)∨(¬ l.length<n∧v'=.bool false∧L'=Net g n l::R)):=by
 refine a7 (cz hr) ?_;intro h1;refine CH fun ad c=>?_
 refine a8 (args:=[_,_]) func176 rfl ntmps176 results176 rfl ?_
 by_cases cQ:l.length<n
 ·have pK:∀ A,da (A::cM g [.int .i64 (n:Int),.slice ad l.length c] 224 (0,0)::uP (.slice ad l.length c) l::cG (l.map gV.t)::R) m.v m.b:=fun A=>(hr.cN nv).tail
  obtain ⟨kind,MZ,to,v,b⟩:=m;dsimp only at pK h1 hb
  simp only [gV.cells]
  (repeat' first|refine Zb ?_|apply Zc|apply Zd|apply Ze|apply Zf|refine Yg fun _=>?_|refine YA ?_|apply YC|(refine bE (id:=1) [] mixed ?_;all_goals (refine tM 0 ?_);all_goals (refine tN 1 ?_);all_goals (refine tF 2 ?_);all_goals (refine tL 3 ?_);all_goals (refine tk 4 _ rfl (bO rfl) ?_);all_goals (refine tM 5 ?_);all_goals (refine tN 6 ?_);all_goals (refine tF 7 ?_);all_goals (refine tL 8 ?_);all_goals (first|refine tk 9 (.bool true) rfl (cE.iX (bU rfl rfl) zy) ?_|refine tk 9 (.bool false) rfl (cE.no (bU rfl rfl) zn) ?_);all_goals (refine bf zK ?_)))
  rename_i gb;refine bl (id:=3) [9,10,11] [cM gb [.int .i64 kind,.int .i64 MZ,.int .i64 to,v] Ma (0,0),cM g [.int .i64 (n:Int),.slice ad l.length c] 224 (0,0)] mixed ?_
  (refine tM 0 ?_;refine tM 1 ?_;refine tN 2 ?_;refine tF 3 ?_;refine tL 4 ?_)
  refine tk 5 _ rfl (cE.dD (cs:=[.int .i64 kind,.int .i64 MZ,.int .i64 to,v]) rfl zA rfl) ?_;refine tO 6 ?_;refine bg rfl rfl (JX _ e ⟨kind,MZ,to,v,b⟩ (pK _) hb) ?_;rintro _ _ ⟨dS,c2,rfl,rfl⟩;refine ⟨fun _=>zE,?_⟩;refine tO 7 ?_;refine bF (n:=4) rfl rfl rfl rfl zQ rfl (fun g2=>⟨fun _=>zE,?_⟩);refine tO 8 ?_;refine bm rfl rfl rfl zP (bQ (n:=4) (c:=1) .zero rfl zl) rfl rfl (by simp [Value.oneCell',gV.cells]) zm zo fun ep c3 _=>⟨fun _=>zE,?_⟩
  ((refine tO 9 ?_;refine dV (bp rfl) ?_);(refine tO 10 ?_;refine dV (bb rfl) ?_);(refine tO 11 ?_;refine tZ ?_;refine ⟨zN,?_⟩))
  refine bf zK ?_;refine wB ?_;refine aY (Net g n (l++[⟨kind,MZ,to,.slice dS b.length c2,b⟩])::R) rfl (cn (show cC _ (cG (l.map gV.t)::cG [(.slice dS b.length c2,b)]::cM g [.int .i64 (n:Int),.slice ep (l.length+1) c3] 224 (0,0)::dJ Ma 4 (.slice ep (l.length+1) c3) (l.length+1) (l.flatMap gV.cells++gV.cells ⟨kind,MZ,to,.slice dS b.length c2,b⟩)::R) from zE) ?_) (.inl ⟨cQ,rfl,_,rfl⟩);refine cn eK (cn ?_ (nv (ad:=ep) (c:=c3)));simp only [uP,aa,aj,aW,aV,List.flatMap_nil,aK,ah,List.map_cons,List.map_nil];exact zE
 ·(repeat' first|refine Zb ?_|apply Zc|apply Zd|apply Ze|apply Zf|refine Yg fun _=>?_|refine Yz ?_|apply YE|apply YF|(refine bE (id:=1) [] mixed ?_;all_goals (refine tM 0 ?_);all_goals (refine tN 1 ?_);all_goals (refine tF 2 ?_);all_goals (refine tL 3 ?_);all_goals (refine tk 4 _ rfl (bO rfl) ?_);all_goals (refine tM 5 ?_);all_goals (refine tN 6 ?_);all_goals (refine tF 7 ?_);all_goals (refine tL 8 ?_);all_goals (first|refine tk 9 (.bool true) rfl (cE.iX (bU rfl rfl) zy) ?_|refine tk 9 (.bool false) rfl (cE.no (bU rfl rfl) zn) ?_);all_goals (refine bf zK ?_)))
  exact aY _ rfl (cn zE nv) (.inr ⟨cQ,rfl,rfl⟩)
theorem JZ {α:Type} {A Y zs W:List α} {m:Nat} (h:A.length=m):((A++Y).take m++zs++W).take m=A:=by
 rw [List.take_left' h,aM,List.take_left' h]
theorem CI (ad:Option Addr) (c:Nat) (l:List gV) (i:Nat) (hi:i<l.length) (hb:∀ m∈l,m.v.oneCell'=true) :
 Ct prog 250 #[.slice ad l.length c,.int .i64 i,.int .i64 ((i:Int)+1)] e (uP (.slice ad l.length c) l::R) (fun v' L'=>v'=.slice ad (l.take i++l.drop (i+1)).length c∧L'=uP (.slice ad (l.take i++l.drop (i+1)).length c) (l.take i++l.drop (i+1))::R):=by
 refine a7 (se .zero) ?_;rintro ⟨_,_,hv,hc,hm,hg⟩
 cases hv
 rcases hg with ⟨_,_,h0⟩|⟨g,rfl⟩
 ·omega
 simp only [maxLen] at hm
 have nk:∀ c∈l.flatMap gV.cells,c.oneCell'=true:=fun c hc=>by
  obtain ⟨m,hm,hc⟩:=List.mem_flatMap.1 hc;simp only [gV.cells,aQ,aO,or_false] at hc
  rcases hc with rfl|rfl|rfl|rfl
  ·rfl
  ·rfl
  ·rfl
  ·exact hb m hm
 refine a8 (args:=[_,_,_]) func250 rfl ntmps250 results250 rfl ?_;refine wB ?_;refine bC _ (cE.slice3 rfl rfl rfl rfl zo zo zo zo) rfl ?_;have e1:((i:Int)+1).toNat=i+1:=by omega
 have hlen:(l.take i++l.drop (i+1)).length=l.length - 1:=by rw [aa,aE,aP];omega
 refine wB ?_;refine bl (id:=5) [7] [] mixed ?_;refine bN 0 _ rfl zK bK (bw rfl) rfl ?_;refine bN 1 _ rfl zK bK (bw rfl) rfl ?_;refine bN 2 _ rfl zK bK (cE.gY rfl rfl zo zo) rfl ?_;refine bN 3 _ rfl zK bK (bw rfl) rfl ?_;refine bN 4 _ rfl zK bK (bw rfl) rfl ?_;refine bN 5 _ rfl zK bK (cE.jw rfl rfl zo zo) rfl ?_;refine tO 6 ?_;refine Do.KD (i:=i) (j:=i+1) (m:=l.length - (i+1)) rfl rfl rfl .zero rfl zo zo ?_ nk ⟨fun _=>bK,?_⟩
 ·rcases Nat.lt_or_ge (i+1) l.length with h|h
  ·right
   unfold cutAt;rw [aB zo,e1]
   simp [Addr.add_lit]
  ·left;omega
 refine tO 7 ?_;refine bP (bj rfl) rfl ⟨fun _=>bK,?_⟩;refine bf zK ?_;have e2:((i+(l.length - (i+1)):Nat):Int).toNat=l.length - 1:=by omega
 have e3:i+(l.length - (i+1))=l.length - 1:=by omega
 refine wB ?_;refine bD (Do.clear (o:=(l.length - 1)*4) rfl .zero rfl (by simp [Value.oneCell',Value.cells]) zo (.inr ?_) fun zs hz=>?_)
 ·unfold cutAt;rw [aB zo,e2]
  simp [Addr.add_lit]
 have vP:=nC (E:=Ma) (n:=4) (ad:=some ⟨g,0,none⟩) (k:=l.length) (lo:=l.length - 1) (c:=c) (R:=R)
  (xs:=((l.flatMap gV.cells).take (i*4)++((l.flatMap gV.cells).drop ((i+1)*4)).take ((l.length - (i+1))*4)++(l.flatMap gV.cells).drop ((i+(l.length - (i+1)))*4)).take ((l.length - 1)*4)++zs ++
   ((l.flatMap gV.cells).take (i*4)++((l.flatMap gV.cells).drop ((i+1)*4)).take ((l.length - (i+1))*4)++(l.flatMap gV.cells).drop ((i+(l.length - (i+1)))*4)).drop ((l.length - 1)*4+((l.length:Int).toNat - ((i+(l.length - (i+1)):Nat):Int).toNat)*4)) zo
 refine O.fo vP ?_;refine wB ?_;rw [e3];refine aY _ rfl ?_ ⟨by rw [hlen];rfl,rfl⟩;unfold uP;rw [hlen];have hx:=Mb l
 have e4:((l.flatMap gV.cells).take (i*4)++((l.flatMap gV.cells).drop ((i+1)*4)).take ((l.length - (i+1))*4)).length=(l.length - 1)*4:=by
  simp only [aa,aE,aP,hx];omega
 rw [JZ e4,Ib,Oa,Ib,aF (l:=l.drop (i+1)) (by rw [aP];omega),← aW];exact aX
theorem EN {R:List cK} {l:List gV} {i:Nat} (h:i<l.length):cC (cG (l.map gV.t)::R) (cG [(l[i]'h).t]::cG ((l.take i++l.drop (i+1)).map gV.t)::R):=by
 have e1:l.map gV.t=(l.take i).map gV.t++([(l[i]'h).t]++(l.drop (i+1)).map gV.t):=by
  have e2:l=l.take i++l[i]::l.drop (i+1):=by rw [← List.drop_eq_getElem_cons h,List.take_append_drop]
  conv=>lhs;rw [e2]
  simp only [ah,List.map_cons,List.singleton_append]
 rw [e1,ah];refine cn pI (cn (bh pI) (cn (bz (.succ .zero) aX) (bh eK)))
theorem jr (g n:Nat) (l:List gV) (i:Int) (hl:l.length≤1000) (hb:∀ m∈l,m.v.oneCell'=true) :
 Ct prog 177 #[pt g,.int .i64 i] e (Net g n l::R)
  (fun v' L'=>(∃ (k:Nat) (h:k<l.length),i=k∧v'=.tuple #[.agg (l[k]'h).cells.toArray,.bool true]∧L'=cG [(l[k]'h).t]::Net g n (l.take k++l.drop (k+1))::R) ∨
   (¬ (0≤i∧i<l.length)∧v'=.tuple #[.agg (gV.cells ⟨0,0,0,nY,[]⟩).toArray,.bool false]∧L'=Net g n l::R)):=by
 refine bI (args:=[_,_]) func177 rfl ntmps177 results177 rfl ?_
 (repeat (refine wA ?_;intros))
 refine aZ rfl rfl (Ct.at (.succ .zero) (EM _ e g n l i hl)) ?_;rintro _ _ ⟨rfl,rfl⟩
 by_cases h:0≤i∧i<l.length
 ·obtain ⟨k,rfl⟩:=Int.eq_ofNat_of_zero_le h.1;have hk:k<l.length:=by omega
  rw [show decide (0≤(k:Int)∧(k:Int)<l.length)=true by simp [hk]];refine O.fo (bz .zero aX) ?_;refine EL fun ad c=>?_
  refine bo (se (.succ .zero)) ?_;rintro ⟨_,_,hv,hc,hm,hg⟩
  cases hv
  rcases hg with ⟨_,_,h0⟩|⟨g1,rfl⟩
  ·omega
  have F5:∀ L',eh (uP (.slice (some ⟨g1,0,none⟩) l.length c) l::L') g1 (0+k*4) (l[k]'hk).cells:=fun L'=>eh.elem (ba .zero) oU (ae hk)
  have h1:=hb _ (az hk);refine wB ?_;refine O.dD rfl (F5 _).tail rfl rfl ?_
  generalize hm:l[k]'hk=m at *
  obtain ⟨kind,MZ,to,v,b⟩:=m;dsimp only at h1
  simp only [gV.cells]
  (repeat (refine wA ?_;intros))
  refine aZ rfl rfl (Ct.at (.succ (.succ .zero)) (CI _ e (some ⟨g1,0,none⟩) c l k hk hb)) ?_;rintro _ _ ⟨rfl,rfl⟩;refine wB ?_;apply bB
  ·exact zV
  ·refine ⟨cG [(l[k]'hk).t]::Net g n (l.take k++l.drop (k+1))::R,?_,.inl ⟨k,hk,rfl,by rw [hm];rfl,rfl⟩⟩;refine cn (show cC _ (cG (l.map gV.t)::cM g [.int .i64 (n:Int),.slice (some ⟨g1,0,none⟩) (l.take k++l.drop (k+1)).length c] 224 (0,0)::uP (.slice (some ⟨g1,0,none⟩) (l.take k++l.drop (k+1)).length c) (l.take k++l.drop (k+1))::R) from zE) ?_;refine cn (EN hk) (bh (cn ?_ (nv (ad:=some ⟨g1,0,none⟩) (c:=c))));exact zE
 ·rw [show decide (0≤i∧i<l.length)=false by simpa using h];refine wB ?_;apply bB
  ·exact zV
  ·exact ⟨_,zE,.inr ⟨h,rfl,rfl⟩⟩
theorem CJ (g n:Nat) (l:List gV) (i:Int) (hl:l.length≤n) (hn:n≤1000) (hb:∀ m∈l,m.b.length≤140737488351232) :
 Ct prog 181 #[pt g,.int .i64 i] e (Net g n l::R)
  (fun v' L'=>(∃ (k:Nat) (h:k<l.length) (v2:Value),i=k∧l.length<n∧v'=.bool true∧L'=Net g n (l++[{ (l[k]'h) with v:=v2 }])::R) ∨
   (¬ ((0≤i∧i<l.length)∧l.length<n)∧v'=.bool false∧L'=Net g n l::R)):=by
 refine a8 (args:=[_,_]) func181 rfl ntmps181 results181 rfl ?_;refine wB ?_;refine aZ rfl rfl (EM _ e g n l i zo) ?_;rintro _ _ ⟨rfl,rfl⟩
 by_cases h:0≤i∧i<l.length
 ·obtain ⟨k,rfl⟩:=Int.eq_ofNat_of_zero_le h.1;have hk:k<l.length:=by omega
  rw [show decide (0≤(k:Int)∧(k:Int)<l.length)=true by simp [hk]];refine EL fun ad c=>?_
  refine bo (se (.succ .zero)) ?_;rintro ⟨_,_,hv,hc,hm,hg⟩
  cases hv
  rcases hg with ⟨_,_,h0⟩|⟨g1,rfl⟩
  ·omega
  have F5:∀ L',eh (uP (.slice (some ⟨g1,0,none⟩) l.length c) l::L') g1 (0+k*4) (l[k]'hk).cells:=fun L'=>eh.elem (ba .zero) oU (ae hk)
  have kh:da (Net g n l::R) (l[k]'hk).v (l[k]'hk).b:=da.cN (ef (l[k]'hk).t (aD.2 ⟨_,az hk,rfl⟩)) A9;refine wB ?_;refine O.dD rfl (F5 _).tail rfl rfl ?_
  (repeat (refine wA ?_;intros))
  refine O.fo nv ?_;refine aZ rfl rfl (sf R e g n l (l[k]'hk) kh (hb _ (az hk)) hl hn) ?_;rintro _ _ (⟨h1,rfl,v2,rfl⟩|⟨h1,rfl,rfl⟩)
  ·refine wB ?_;exact aY _ rfl aX (.inl ⟨k,hk,v2,rfl,h1,rfl,rfl⟩)
  ·refine wB ?_;exact aY _ rfl aX (.inr ⟨fun h2=>h1 h2.2,rfl,rfl⟩)
 ·rw [show decide (0≤i∧i<l.length)=false by simpa using h];refine wB ?_;exact aY _ rfl aX (.inr ⟨fun h2=>h h2.1,rfl,rfl⟩)
end Go.Proofs
namespace Go.Proofs
open Go.Bs
open Tryz
abbrev mM:TypeId:=340
def jB (k:Fin 1000 × Fin 1000):Value:=.agg #[.int .i64 (k.1.val:Int),.int .i64 (k.2.val:Int)]
theorem Ic:prog.keyTypeAt 3 mM=true:=by kernel_rfl
theorem Me:prog.cellsOf mM=2:=by kernel_rfl
theorem Oc:prog.cellsOf 3=1:=by kernel_rfl
theorem EO (n:Fin 1000):(Lit.int .i64 (n.val:Int)).wf=true:=by
 have:=n.isLt
 simp [Lit.wf,IntKind.min,IntKind.max,IntKind.bits,IntKind.signed]
 omega
theorem uQ (k:Fin 1000 × Fin 1000):prog.keyLits 3 mM [.int .i64 (k.1.val:Int),.int .i64 (k.2.val:Int)]=some [.int .i64 (k.1.val:Int),.int .i64 (k.2.val:Int)]:=by
 have h1:=EO k.1;have h2:=EO k.2
 simp [Program.keyLits,underlying340,underlying3,Me,Oc,h1,h2]
theorem qg (k:Fin 1000 × Fin 1000):(jB k).formed prog mM=true:=by
 simp [jB,Value.formed,underlying340,Me]
theorem Od (w:World) (a b:Fin 1000 × Fin 1000):(Op.equal mM (jB a) (jB b)).run prog w=.ok (decide (a=b)) w:=by
 obtain ⟨r,hr,TN⟩:=run_equalIn_deep (P:=prog) 9997 3 mM Ic w 3 3 (jB a) (jB b) _ _ (qg a) (qg b) (uQ a) (uQ b)
 have he:decide (a=b)=r:=by
  by_cases h:a=b
  ·subst h;rw [ay rfl];exact (TN.2 rfl).symm
  ·rw [aq h]
   cases r with
   | false=>rfl
   | true =>
    have h2:=TN.1 rfl;simp only [List.cons.injEq,Lit.int.injEq,and_true,true_and] at h2
    exact absurd (Prod.ext (Fin.ext zo) (Fin.ext zo)) h
 rw [he];exact hr
theorem yE (w:World) (k:Fin 1000 × Fin 1000):∀ (l:List MapEntry) (mE:List ((Fin 1000 × Fin 1000) × Value)) (j:Nat),l.map (fun e=>(e.key,e.val))=mE.map (fun p=>(jB p.1,p.2))→(Instr.findAsking mM (jB k) l j).run prog w=.ok (tg k mE j) w
 | [],mE,j,h=>by
  cases mE with
  | nil=>rfl
  | cons _ _=>simp at h
 | e::l,mE,j,h=>by
  cases mE with
  | nil=>simp at h
  | cons p mE =>
   simp only [List.map_cons,List.cons.injEq,Prod.mk.injEq] at h
   obtain ⟨⟨h1,h2⟩,h3⟩:=h;unfold Instr.findAsking tg;simp only [Sem.run_bind,h1,Od,Result.andThen_ok]
   by_cases hk:k=p.1
   ·rw [ay hk,aH hk.symm,h2];rfl
   ·rw [aq hk];simp only [Bool.false_eq_true,if_false];rw [aB (show ¬ p.1=k from fun q=>hk q.symm)];exact yE w k l mE (j+1) h3
instance Xf:Gp prog 169 jB (.agg #[.int .i64 0,.int .i64 0,nY,nY]) :=
 ⟨mM,96,underlying169,zeroValue96,fun b k w=>run_checkKey_deep b 9997 3 mM Ic w 3 (jB k) _ (qg k) (uQ k),fun k l mE w h=>by
  unfold Instr.findKey
  cases l with
  | nil =>
   have:=yE w k [] mE 0 h;simp only [Sem.run_bind,run_underlying underlying340,Result.andThen_ok,Instr.findNow]
   cases mE with
   | nil=>rfl
   | cons _ _=>simp at h
  | cons e l =>
   have hn:∀ fs,Instr.findNow (TypeDesc.struct fs) (jB k) (e::l) 0=none:=fun fs=>rfl
   have:=yE w k (e::l) mE 0 h;simp only [Sem.run_bind,run_underlying underlying340,Result.andThen_ok,hn]
   exact this,fun k=>by
  simp [jB,Instr.sameBits]⟩
theorem _root_.Go.Bs.cE.QN {P:Program} {N:Fr} {ty:TypeId} {σ:Env} {e:World} {L:List cK} {x:Operand} {t f:Nat} {a b v:Value} (hr:∀ w,(Instr.field t (.agg #[a,b]) f).run P w=.ok v w) (h:ev σ x=some (.agg [a,b].toArray)):cE P N (.field t x f) ty v σ e L:=fun w a ha _ _ _ _ _=>by
 have h2:=hr
 simp [execOp,ha.ev h,h2]
end Go.Proofs
namespace Go.Proofs
attribute [local irreducible] Bs.cE Bs.Do Bs.O Bs.W Bs.Fin Bs.A Bs.Ct Bs.cF Bs.Rd Bs.Sat Bs.cM Bs.Ob Bs.dJ Bs.View Bs.cC Bs.Ex Bs.dI Bs.Pu Bs.eZ Bs.dK Bs.eh
open Go.Bs
open Tryz
variable (R:List cK) (e:World)
structure dx where
 k:Nat
 eE:Nat
 room:Nat
 size:Nat
 wait:Nat
 retry:Nat
def dx.f (c:dx):nS:=⟨c.room,c.size,c.wait⟩
def cV (i:Nat):dA:=ez 20 [be i 4]
theorem oV (i:Nat):(cV i).length=32:=de _ _
def eL:dA:=fu (cV 0)
def df (c:dx):jK:=⟨eL,(List.range c.k).map fun i=>fu (cV (i+1)),c.eE⟩
def jV:dA:=[112,117,109,112]
structure dx.ok (c:dx):Prop where
 k:1≤c.k∧c.k≤3
 eE:1≤c.eE∧c.eE≤c.k
 f:c.f.ok
 retry:1≤c.retry∧c.retry≤100
 wJ:(df c).right
theorem mN (c:dx):(df c).ey.length=c.k:=by simp [df]
inductive gh where
 | ask (w:Nat) (x:jU) (n m:Nat) (path:List dA)
 | iX (w:Nat) (g:kF)
 | no (w:Nat) (size:Nat)
 | off (b:vE)
def qh (x:jU) (n m:Nat) (path:List dA):dA:=hZ x++(be n 4++(be m 4++(UInt8.ofNat path.length::path.flatten)))
def gh.d (k:Nat):gh→Int × Int × Int × dA
 | .ask w x n m path=>(1,0,((w+1:Nat):Int),qh x n m path)
 | .iX w g=>(2,((w+1:Nat):Int),0,1::eU g)
 | .no w size=>(2,((w+1:Nat):Int),0,0::be size 4)
 | .off b=>(3,0,((k+1:Nat):Int),fU b)
structure dh where
 ls:gM
 fs:pq
 ws:List eX
 fd:cS
 n:Nat
 up:m7
 mo:CF
 ei:List gh
 time:Nat
 signed:Option iM
def ly (l:List dA) (c:iM):Prop:=c.size≤l.length∧c.root=dR ((l.take c.size).map cZ)
def yU (l:List dA) (x:jU):Prop:=x.hJ eL∧x.sig.right∧ly l x.dd
theorem ly.more {l m:List dA} {c:iM} (h:ly l c):ly (l++m) c :=
 ⟨by rw [aa];exact Nat.le_trans h.1 (Nat.le_add_right ..),by rw [List.take_append_of_le_length h.1];exact h.2⟩
theorem yU.more {l m:List dA} {x:jU} (h:yU l x):yU (l++m) x:=⟨h.1,h.2.1,h.2.2.more⟩
theorem yU.fits {l:List dA} {x:jU} (h:yU l x):x.fits:=⟨h.1.1,h.2.1⟩
def gh.uE (c:dx) (l:List dA):gh→Prop
 | .ask w x n m path=>w<c.k∧yU l x∧m=x.dd.size∧n≤m∧path=iS ((l.take m).map cZ) n
 | .iX w g=>w<c.k∧g.gy=w∧g.sig.right
 | .no w size=>w<c.k∧size≤256
 | .off b=>b.wf∧b.fk.length≤200∧l5 (df c) b=0
def gh.ok (c:dx) (l:List dA) (x:gh):Prop:=0<l.length∧x.uE c l
structure dh.ok (c:dx) (m:Nat) (s:dh):Prop where
 Cc:c.ok
 steps:m≤250
 ls:s.ls.ok
 last:∀ x,s.ls.last=some x→yU s.ls.cI x
 fs:s.fs.ok
 recs:s.fs.recs.Nodup
 Fc:s.fs.recs.length≤m
 perm:(s.ls.cI++s.fs.q.map (·.1)).Perm s.fs.recs
 wl:s.ws.length=c.k
 ws:∀ w∈s.ws,w.ok∧w.recs.length≤m∧ly s.ls.cI w.c
 iX:∀ (i:Nat) (w:eX),s.ws[i]?=some w→w.some=true→w.dO.gy=i∧w.dO.sig.right
 fd:s.fd.ok c.k s.n
 nb:s.n≤4*m
 cur:∀ x,s.fd.cur=some x→yU s.ls.cI x∧0<x.dd.size
 idle:s.fd.cur=none→s.fd.ag=[]
 kept:∀ g∈s.fd.kept,g.hJ (df c) s.fd.dY.dd
 done:s.fd.dm≠[]→yU s.ls.cI s.fd.done∧0<s.fd.done.dd.size∧sZ (df c) s.fd.done.dd s.fd.dm
 up:s.up.ok jV
 RG:s.up.recs.length≤m
 mo:s.mo.ok
 TO:s.mo.cI=s.ls.cI.take s.mo.cI.length
 ei:∀ x∈s.ei,x.ok c s.ls.cI
 room:s.ei.length≤32
 time:s.time≤1000*m
 signed:∀ x,s.signed=some x→ly s.ls.cI x∧x.right
theorem gh.ok.more {c:dx} {l m:List dA} {x:gh} (h:x.ok c l):x.ok c (l++m):=by
 refine ⟨by rw [aa];exact Nat.lt_of_lt_of_le h.1 (Nat.le_add_right ..),?_⟩;have h2:=h.2
 cases x with
 | ask w x n k path=>exact ⟨h2.1,h2.2.1.more,h2.2.2.1,h2.2.2.2.1,by rw [List.take_append_of_le_length (by rw [h2.2.2.1];exact h2.2.1.2.2.1)];exact h2.2.2.2.2⟩
 | iX w g=>exact h2
 | no w k=>exact h2
 | off b=>exact h2
structure Ev where
 k:Int
 a:Int
 b:Int
 v:Value
 t:dA
def Ev.cells (x:Ev):List Value:=[.int .i64 x.k,.int .i64 x.a,.int .i64 x.b,x.v]
abbrev tEv:TypeId:=121
abbrev lM (v:Value) (l:List Ev):cK:=dJ tEv 4 v l.length (l.flatMap Ev.cells)
abbrev dv:TypeId:=171
abbrev jH:Int→Value:=fun n=>.int .i64 n
structure WX where
 g:Nat
 d:Nat
 k:Nat
structure eO where
 va:Value
 gl:Nat
 gf:Nat
 pg:Value
 qi:Nat
 gu:Nat
 gm:Nat
 gn:Nat
 sh:Value
 iO:Value
 ve:Value
 mr:Nat
 ml:Nat
 vr:Value
 mc:Nat
 es:List Ev
 kr:List (Int × Value)
 kl:List (Int × Value)
 kc:List ((Fin 1000 × Fin 1000) × jn)
 wx:List WX
 ld:Nat
 lk:Nat
 J0:Nat
 ud:Nat
 nl:List gV
def dh.sv (s:dh):iM:=s.signed.getD ⟨0,[]⟩
abbrev eO.cells (a:eO) (c:dx) (s:dh):List Value :=
 [.int .i64 (c.k:Int),.int .i64 (c.eE:Int),.int .i64 (c.room:Int),.int .i64 (c.size:Int),.int .i64 (c.wait:Int),.int .i64 (c.retry:Int),.int .i64 1048576,.string (str jV),
  a.va,pt a.gl,pt a.gf,a.pg,pt a.qi,pt a.gu,pt a.gm,pt a.gn,
  a.sh,a.iO,.int .i64 (c.eE:Int),.int .i64 (s.time:Int),a.ve,.map (some a.mr),.map (some a.ml),.int .i64 (s.sv.size:Int),a.vr,.bool s.signed.isSome,.map (some a.mc)]
def mO:Nat→List WX→List eX→List cK
 | i,x::xs,s::ss=>nT x.g x.d x.k i (cV (i+1)) eL s::mO (i+1) xs ss
 | _,_,_=>[]
abbrev tT:TypeId:=98
def l9 (x:WX):Value:=pt x.g
def wL (l:List ((Fin 1000 × Fin 1000) × jn)):List ((Fin 1000 × Fin 1000) × Value):=l.map fun p=>(p.1,.agg (jn.cells p.2).toArray)
structure Ie (L:List cK) (w:Nat) (c:dx) (a:eO):Prop where
 all:∃ (vl vu:Value) (vs:List (Value × Nat × Nat)),vs.length=c.k∧a.wx.length=c.k ∧
  cF L 2 a.va (c.k+2) ([vl,.func (.func 160) #[pt w] #[]]++(vs.flatMap fun x=>[x.1,.func (.func 161) #[] #[pt x.2.1,pt x.2.2]])++[vu,.func (.func 163) #[pt w] #[]]) ∧
  cF L 1 vl 3 [pt a.ld,pt a.lk,pt a.J0] ∧
  cF L 1 vu 1 [pt a.ud] ∧
  (∀ i (h:i<vs.length) (h2:i<a.wx.length),cF L 1 (vs[i]).1 2 [.pointer (some ⟨(a.wx[i]).d,0,none⟩),.pointer (some ⟨(a.wx[i]).k,0,none⟩)]∧Rd L ⟨(vs[i]).2.1,0,none⟩ (pt w)∧Rd L ⟨(vs[i]).2.2,0,none⟩ (.int .i64 (i:Int)))
structure eO.ok (a:eO) (M:cK) (w:Nat) (c:dx) (m:Nat) (s:dh):Prop where
 wJ:j3 [M] a.sh a.iO (df c)
 root:da [M] a.vr s.sv.root
 es:∀ x∈a.es,da [M] x.v x.t
 kc:∀ p∈a.kc,jn.ok [M] p.2
 all:Ie [M] w c a
 ei:a.nl.map gV.d=s.ei.map (gh.d c.k)
 st:s.ok c m
 ec:a.es.length≤600*m
abbrev eA (w:Nat) (c:dx) (s:dh) (a:eO) (M:cK) (R:List cK):List cK :=
 cM w (a.cells c s) dv (0,0)::lM a.ve a.es::kG jH a.mr a.kr::kG jH a.ml a.kl::kG jB a.mc (wL a.kc)::M::eS a.gf a.J0 a.gl c.f s.fs::db a.gl a.ld a.lk (cV 0) s.ls::dJ tT 1 a.pg a.wx.length (a.wx.map l9)::dI (mO 0 a.wx s.ws)::mq a.qi (df c) c.retry s.n s.fd::mL a.gu a.ud jV (df c) s.up::gR a.gm eL s.mo::Net a.gn 32 a.nl::R
def vI (w:Nat) (c:dx) (m:Nat) (s:dh) (a:eO) (M:cK):cK:=dI (Pu (a.ok M w c m s)::eA w c s a M [])
def eg (w:Nat) (c:dx) (m:Nat) (s:dh) (ev:List (Int × Int × Int × dA)):cK:=Ex fun a=>Ex fun M=>dI [Pu (a.es.map (fun x=>(x.k,x.a,x.b,x.t))=ev),vI w c m s a M]
theorem iT {w:Nat} {c:dx} {m:Nat} {s:dh} {ev:List (Int × Int × Int × dA)} {R:List cK} {P:Program} {f:FuncId} {args:Array Value} {e:World} {Post:Value→List cK→Prop}
 (h:∀ (a:eO) (M:cK),a.ok M w c m s→a.es.map (fun x=>(x.k,x.a,x.b,x.t))=ev→Ct P f args e (eA w c s a M R) Post):Ct P f args e (eg w c m s ev::R) Post :=
 Ct.ex .zero fun a=>Ct.ex .zero fun M=>Ct.cN (a7 (p:=a.es.map (fun x=>(x.k,x.a,x.b,x.t))=ev) (fun w x=>(ke x).1) fun he=>Ct.cN (Ct.cN (a7 (p:=a.ok M w c m s) (fun w x=>(ke x).1) fun hp=>(h a M hp he).cN (cC.drop aX)) (cW (M:=Pu (a.ok M w c m s)::eA w c s a M []) (L:=R))) (cC.drop aX)) (cW (M:=[Pu (a.es.map (fun x=>(x.k,x.a,x.b,x.t))=ev),vI w c m s a M]) (L:=R))
theorem eo {w:Nat} {c:dx} {m:Nat} {s:dh} {ev:List (Int × Int × Int × dA)} {a:eO} {M:cK} {R:List cK} (h:a.ok M w c m s) (he:a.es.map (fun x=>(x.k,x.a,x.b,x.t))=ev):cC (eA w c s a M R) (eg w c m s ev::R) :=
 cn (oX h) (cn (dN (M:=Pu (a.ok M w c m s)::eA w c s a M []) (L:=R)) (cn (oX he) (cn (dN (M:=[Pu (a.es.map (fun x=>(x.k,x.a,x.b,x.t))=ev),vI w c m s a M]) (L:=R)) (cn (fI (f:=fun M=>dI [Pu (a.es.map (fun x=>(x.k,x.a,x.b,x.t))=ev),vI w c m s a M]) M) (fI (f:=fun a=>Ex fun M=>dI [Pu (a.es.map (fun x=>(x.k,x.a,x.b,x.t))=ev),vI w c m s a M]) a)))))
theorem Ba (k:IntKind) (n:Int):(Value.int k n).cells=#[.int k n]:=rfl
theorem j7 (w:Nat) (c:dx) (s:dh) (a:eO) (k x b:Int) (v:Value) (t:dA) (hv:v.oneCell'=true) (hl:a.es.length≤1000000) :
 Ct prog 167 #[pt w,.int .i64 k,.int .i64 x,.int .i64 b,v] e (cM w (a.cells c s) dv (0,0)::lM a.ve a.es::R) (fun v' L'=>v'=.tuple #[]∧∃ ve:Value,L'=cM w (eO.cells { a with ve:=ve } c s) dv (0,0)::lM ve (a.es++[⟨k,x,b,v,t⟩])::R):=by
 refine a7 ((ba (show cT (cM w (a.cells c s) dv (0,0)::lM a.ve a.es::R) (lM a.ve a.es) _ from zP)).shape zo) ?_;rintro ⟨⟨ad,ca,ND,h3,h4,h5,h6⟩,_⟩;simp only [maxLen] at h4
 have rl:cM w (a.cells c s) dv (0,0)::lM a.ve a.es::R=cM w (eO.cells { a with ve:=.slice ad a.es.length ca } c s) dv (0,0)::lM (.slice ad a.es.length ca) a.es::R:=by
  rw [← ND]
 rw [rl];refine a8 (args:=[_,_,_,_,_]) func167 rfl ntmps167 results167 rfl ?_
 (repeat' first|(refine bC (.agg #[.int .i64 k,.int .i64 x,.int .i64 b,v]) (bL (cells:=[.int .i64 k,.int .i64 x,.int .i64 b,v]) rfl (by simp [Instr.fill,Ba,dU hv])) rfl ?_)|refine Za ?_|apply Zd|refine Zg ?_|refine Zh ?_|refine Zi ?_|refine Yi fun _=>?_|fail)
 refine bD (bm rfl rfl rfl (show cT _ (lM (.slice ad a.es.length ca) a.es) _ from zP) (bQ (n:=4) (c:=1) zP rfl zl) rfl rfl zO zm zo fun dW k1 _=>?_)
 refine wB ?_;refine bX (cM w (eO.cells { a with ve:=.slice dW (a.es.length+1) k1 } c s) dv (0,0)::lM (.slice dW (a.es.length+1) k1) (a.es++[⟨k,x,b,v,t⟩])::R) rfl ?_ ⟨rfl,_,rfl⟩;simp only [lM,aa,aj,aW,aV,List.flatMap_nil,aK];exact zE
theorem oW (i:Nat) (hi:i<100) :
 Ct prog 158 #[.int .i64 (i:Int)] e R (fun v' L'=>∃ ad k,v'=.slice ad (cV i).length k∧L'=cR (.slice ad (cV i).length k) (cV i)::R):=by
 refine a8 (args:=[_]) func158 rfl ntmps158 results158 rfl ?_;refine wB ?_;refine aZ rfl rfl (ji _ e) ?_;rintro _ _ ⟨gw,rfl,rfl⟩;refine wB ?_;refine aZ rfl rfl (gG _ e gw [] i zo (by decide)) ?_;rintro _ _ ⟨rfl,rfl⟩;rw [show []++be i 4=be i 4 by simp];refine wB ?_;refine aZ rfl rfl (hI _ e gw _ (by rw [cY];omega)) ?_;rintro _ _ ⟨ad,k,rfl,rfl⟩
 (repeat (refine wA ?_;intros))
 refine aZ rfl rfl (fe _ e 20 _ [(.slice ad (be i 4).length k,be i 4)] (bu .zero rfl zl) (fun a ha=>by rw [an.1 ha];exact ba (.succ .zero)) (fun a ha=>by rw [an.1 ha];dsimp only;rw [cY];omega) (by simp)) ?_;rintro _ _ ⟨dW,k1,rfl,rfl⟩;refine wB ?_;exact aY (cR (.slice dW (cV i).length k1) (cV i)::R) rfl zE ⟨dW,k1,rfl,rfl⟩
abbrev C4:TypeId:=24
def Oe (g:Nat):Value:=pt g
def jI (gs:List Nat):List cK:=gs.map fun g=>dl g (dM [])
theorem qj (n:Nat) (hn:n≤100) :
 Ct prog 159 #[.int .i64 (n:Int),.int .i64 1048576] e R (fun v' L'=>∃ (ad:Option Addr) (k:Nat) (gs:List Nat),v'=.slice ad gs.length k∧gs.length=n∧L'=dJ C4 1 (.slice ad gs.length k) gs.length (gs.map Oe)::dI (jI gs)::R):=by
 refine a8 (args:=[_,_]) func159 rfl ntmps159 results159 rfl ?_;refine wB ?_;refine br (ι:=List Nat × Option Addr × Nat) (fun j=>[(1,.int .i64 1048576),(5,.slice j.2.1 j.1.length j.2.2),(8,.int .i64 (n:Int)),(9,.int .i64 (j.1.length:Int))]) (fun j=>dJ C4 1 (.slice j.2.1 j.1.length j.2.2) j.1.length (j.1.map Oe)::dI (jI j.1)::R) (fun j=>j.1.length≤n) (fun j=>n - j.1.length) ([],none,0) (aG _) zS (cn (di C4 1) (bh (dN (M:=[]) (L:=R)))) ?_;rintro ⟨gs,ad,k⟩ hle;dsimp only at hle ⊢
 by_cases cQ:gs.length<n
 rotate_left
 ·refine wB ?_;exact aY (dJ C4 1 (.slice ad gs.length k) gs.length (gs.map Oe)::dI (jI gs)::R) rfl zE ⟨ad,k,gs,rfl,by omega,rfl⟩
 refine wB ?_;refine aZ rfl rfl (Jd _ e 1048576 zo) ?_;rintro _ _ ⟨gd,rfl,rfl⟩
 (repeat (refine wA ?_;intros))
 refine bD (bm rfl rfl rfl (show cT _ (dJ C4 1 (.slice ad gs.length k) gs.length (gs.map Oe)) _ from zP) (bu zP rfl zl) rfl rfl zO zm zo fun dW k1 _=>?_)
 refine wB ?_;refine bi (gs++[gd],dW,k1) (by dsimp only;rw [aa];exact cQ) (by dsimp only;rw [aa];show n - (gs.length+1)<_;omega) ?_ ?_
 ·simp only [aa,aj];exact zS
 ·simp only [aa,aj,ah,List.map_cons,List.map_nil,jI];refine cn ?_ (bh (all_append (M:=gs.map fun g=>dl g (dM [])) (N:=[dl gd (dM [])]) (R:=R)));refine cn ?_ (bh (bh (dN (M:=[dl gd (dM [])]) (L:=R))));exact zE
theorem G6 (w:Nat) (y:iM) (u:Value) (b:Bool) (x:iM) (v:Value) (hb:Rd R ⟨w,25,none⟩ (.bool b)) (ha:eh R w 23 (gX y u)) (hr:b=true→da R u y.root) (hx:da R v x.root) :
 Ct prog 173 #[pt w,.agg (gX x v).toArray] e R (fun v' L'=>v'=.bool (b && decide (y=x))∧R=L'):=by
 refine a7 (cz hx) fun o2=>?_
 cases b with
 | false =>
  refine a8 (args:=[_,_]) func173 rfl ntmps173 results173 rfl ?_
  (repeat (refine wA ?_;intros))
  rename_i g;refine bl (id:=1) [12] (cM g (gX x v) 83 (0,0)::R) mixed ?_
  (refine tM 0 ?_;refine tN 1 ?_;refine tF 2 ?_)
  refine tk 3 _ rfl (bq rfl hb.tail) ?_
  (refine tM 4 ?_;refine bc 5 rfl rfl zK zE rfl ?_;refine bc 6 rfl rfl zK zE rfl ?_;refine bc 7 rfl rfl zK zE rfl ?_;refine bc 8 rfl rfl zK zE rfl ?_;refine bc 9 rfl rfl zK zE rfl ?_)
  refine bc 10 rfl rfl zK zE rfl ?_
  (refine tk 11 _ rfl (bJ rfl rfl) ?_;(refine tO 12 ?_;refine dV (bj rfl) ?_))
  refine bf zK ?_;refine wB ?_;exact aY R rfl zE ⟨rfl,rfl⟩
 | true =>
  have hr:=hr rfl;refine a7 (cz hr) fun o1=>?_
  refine a8 (args:=[_,_]) func173 rfl ntmps173 results173 rfl ?_
  (repeat (refine wA ?_;intros))
  rename_i g;refine bl (id:=1) [12] (cM g (gX x v) 83 (0,0)::R) mixed ?_
  (refine tM 0 ?_;refine tN 1 ?_;refine tF 2 ?_)
  refine tk 3 _ rfl (bq rfl hb.tail) ?_
  (refine tM 4 ?_;refine du 5 _ rfl (bw rfl) ?_;refine du 6 _ rfl (bp rfl) ?_;refine du 7 _ rfl (bb rfl) ?_)
  refine du 8 _ rfl (cE.dD rfl ha.tail rfl) ?_
  (refine du 9 _ rfl (cE.dD rfl zA zX) ?_)
  refine A.pi 10 rfl rfl zK ?_;refine bg rfl rfl (xG _ e u v y x (hr.cN zE) (hx.cN zE)) ?_;rintro _ _ ⟨rfl,rfl⟩;refine ⟨fun _=>zE,?_⟩
  (refine tk 11 _ rfl (bM rfl rfl) ?_;(refine tO 12 ?_;refine dV (bj rfl) ?_))
  refine bf zK ?_;refine wB ?_;exact aY R rfl zE ⟨rfl,rfl⟩
def vJ (ev:List (Int × Int × Int × dA)) (s:dh):Prop:=∀ x∈ev,x.1≠3∧(x.1=7∨s.fs.recs≠[])
theorem vJ.nil {s:dh}:vJ [] s:=fun x hx=>by cases hx
theorem dh.ok.next {c:dx} {m:Nat} {s:dh} (h:s.ok c m) (hm:m<250):s.ok c (m+1) :=
 {h with
  steps:=hm
  Fc:=Nat.le_succ_of_le h.Fc
  ws:=fun w hw=>⟨(h.ws w hw).1,Nat.le_succ_of_le (h.ws w hw).2.1,(h.ws w hw).2.2⟩
  nb:=by have:=h.nb;omega
  RG:=Nat.le_succ_of_le h.RG
  time:=by have:=h.time;omega }
def dh.sub (c:dx) (s:dh) (b:dA):dh:={ s with fs:=(s.fs.fH c.f s.ls.cI b (s.time:Int)).2.2 }
theorem Bb (c:nS) (cI:List dA) (s:pq) (b:dA) (now:Int):((s.fH c cI b now).2.2=s)∨(jm b∧¬ b∈cI∧¬ b∈s.q.map (·.1)∧s.fH c cI b now=(1,(s.recs.length:Int),⟨s.recs++[b],s.q++[(b,now)]⟩)):=by
 unfold pq.fH
 split
 ·exact .inl rfl
 ·rename_i h1
  split
  ·exact .inl rfl
  ·rename_i h2
   split
   ·exact .inl rfl
   ·rename_i h3
    split
    ·exact .inl rfl
    ·exact .inr ⟨Classical.not_not.1 h1,h2,h3,rfl⟩
theorem dh.Mf {c:dx} {m:Nat} {s:dh} {b:dA} (h:s.ok c m) (hm:m<250) (hb:b.length≤200):(s.sub c b).ok c (m+1):=by
 unfold dh.sub;rcases Bb c.f s.ls.cI s.fs b (s.time:Int) with h1|⟨h1,h2,h3,h4⟩
 ·rw [h1];exact h.next hm
 ·rw [h4];have ht:=h.time;have hp:=h.perm
  have hnr:¬ b∈s.fs.recs:=fun q=>by
   rcases aJ.1 (hp.mem_iff.2 q) with q|q
   ·exact h2 q
   ·exact h3 q
  have hf:=h.fs;have hl:=h.Fc;have hs:=h.steps;have Ww:s.fs.q.length≤s.fs.recs.length:=by have:=hp.length_eq;rw [aa,ab] at this;omega
  exact { h.next hm with
   fs:={
    size:=by show (s.fs.recs++[b]).length≤1000;rw [aa,aj];omega
    uE:=fun x hx=>by
     rcases aJ.1 hx with hx|hx
     ·exact hf.uE x hx
     ·rw [an.1 hx];exact ⟨h1,hb⟩
    Ej:=by show (s.fs.q++[(b,(s.time:Int))]).length≤1000;rw [aa,aj];omega
    p9:=fun x hx=>by
     rcases aJ.1 hx with hx|hx
     ·exact hf.p9 x hx
     ·rw [an.1 hx];exact hb
    ye:=fun x hx=>by
     rcases aJ.1 hx with hx|hx
     ·exact hf.ye x hx
     ·rw [an.1 hx]
      show -9223372036854775808≤(s.time:Int)∧(s.time:Int)≤1000000
      omega }
   recs:=List.nodup_append.2 ⟨h.recs,by simp,fun x hx y hy=>by rw [an.1 hy];rintro rfl;exact hnr hx⟩
   Fc:=by show (s.fs.recs++[b]).length≤m+1;rw [aa,aj];omega
   perm:=by
    show (s.ls.cI++(s.fs.q++[(b,(s.time:Int))]).map (·.1)).Perm (s.fs.recs++[b])
    rw [ah,← aM];exact hp.append_right _ }
theorem Ie.cN {L L':List cK} {w:Nat} {c:dx} {a:eO} (h:Ie L' w c a) (f:cC L L'):Ie L w c a:=by
 obtain ⟨vl,vu,vs,h1,h2,h3,h4,h5,h6⟩:=h.all;exact ⟨vl,vu,vs,h1,h2,h3.cN f,h4.cN f,h5.cN f,fun i hi MV=>⟨(h6 i hi MV).1.cN f,(h6 i hi MV).2.1.cN f,(h6 i hi MV).2.2.cN f⟩⟩
theorem eO.ok.more {a:eO} {M N:cK} {w:Nat} {c:dx} {m:Nat} {s:dh} (h:a.ok M w c m s) (f:cC [N] [M]):a.ok N w c m s :=
 {h with wJ:=h.wJ.cN f,root:=h.root.cN f,es:=fun x hx=>(h.es x hx).cN f,kc:=fun p hp=>(h.kc p hp).cN f,all:=h.all.cN f }
theorem eO.ok.to {a:eO} {M:cK} {w:Nat} {c:dx} {m m':Nat} {s s':dh} (h:a.ok M w c m s) (hs:s'.ok c m') (hm:m≤m') (h1:s'.signed=s.signed) (h2:s'.ei=s.ei):a.ok M w c m' s' :=
 {h with root:=by unfold dh.sv;rw [h1];exact h.root,ei:=by rw [h2];exact h.ei,st:=hs,ec:=Nat.le_trans h.ec (Nat.mul_le_mul_left _ hm) }
theorem eO.ok.seen {a:eO} {M:cK} {w:Nat} {c:dx} {m:Nat} {s:dh} (h:a.ok M w c m s) {x:Ev} (ve:Value) (hx:da [M] x.v x.t) (hl:a.es.length+1≤600*m):eO.ok { a with ve:=ve,es:=a.es++[x] } M w c m s :=
 {h with
  es:=fun y hy=>by
   rcases aJ.1 hy with hy|hy
   ·exact h.es y hy
   ·rw [an.1 hy];exact hx
  all:=⟨h.all.all⟩
  ec:=by show (a.es++[x]).length≤_;rw [aa,aj];exact hl }
theorem eO.ok.kr {a:eO} {M:cK} {w:Nat} {c:dx} {m:Nat} {s:dh} (h:a.ok M w c m s) (kr:List (Int × Value)):eO.ok { a with kr:=kr } M w c m s:={ h with all:=⟨h.all.all⟩ }
theorem eO.ok.kl {a:eO} {M:cK} {w:Nat} {c:dx} {m:Nat} {s:dh} (h:a.ok M w c m s) (kl:List (Int × Value)):eO.ok { a with kl:=kl } M w c m s:={ h with all:=⟨h.all.all⟩ }
theorem G7 {A B:cK}:cC [dI [A,B]] [A]:=cn (cW (M:=[_,_]) (L:=[])) (bh bK)
theorem G8 {A B:cK}:cC [dI [A,B]] [B]:=cn (cW (M:=[_,_]) (L:=[])) (cC.drop (bh bK))
instance Xg:Gp prog 166 jH (.string (str [])):=Qe underlying166 underlying3 zeroValue9
abbrev tU (k n to wh:Int) (v:Value):List Value:=[.int .i64 k,.int .i64 n,.int .i64 to,.int .i64 wh,v]
abbrev iU:TypeId:=56
theorem J1 (w:Nat) (c:dx) (m:Nat) (s:dh) (ev:List (Int × Int × Int × dA)) (k n to wh:Int) (v:Value) (b:dA) (hv:da R v b) (hb:b.length≤200) (hm:m<250) :
 Ct prog 82 #[pt w,.agg (tU k n to wh v).toArray] e (eg w c m s ev::R) (fun v' L'=>v'=.tuple #[.int .i64 (s.fs.fH c.f s.ls.cI b (s.time:Int)).1,.int .i64 0]∧∃ mQ,vJ mQ (s.sub c b)∧L'=eg w c (m+1) (s.sub c b) (ev++mQ)::R):=by
 refine iT fun a M ha he=>?_
 have ft:=ha.st;have mS:=dh.Mf ft hm hb;have ht:=ft.time;have NQ:=ft.Fc;have Ww:s.fs.q.length≤s.fs.recs.length:=by have:=ft.perm.length_eq;rw [aa,ab] at this;omega
 have RH:=ha.ec;refine a7 (cz (hv.cN (show cC (eA w c s a M R) R from zE))) fun o1=>?_
 refine a8 (args:=[_,_]) func82 rfl ntmps82 results82 rfl ?_
 (repeat (refine wA ?_;intros))
 refine aZ rfl rfl (Ct.at zP (qa _ e a.gf a.J0 a.gl c.f s.fs)) ?_;rintro _ _ ⟨rfl,rfl⟩
 (repeat' first|refine W.oZ (id:=3) (fun j:Nat × Nat=>[(0,pt w),(3,pt j.1),(6,.int .i64 (s.fs.recs.length:Int)),(7,pt j.2)]) (fun j=>cM j.2 [.int .i64 (s.fs.fH c.f s.ls.cI b (s.time:Int)).1,.int .i64 (s.fs.fH c.f s.ls.cI b (s.time:Int)).2.1] 254 (0,0)::cM j.1 (tU k n to wh v) iU (0,0)::eA w c (s.sub c b) a M R) (fun _=>True) ?_ ?_|refine Zb ?_|apply Ze|apply Zf)
 rotate_left
 ·refine ⟨?_⟩;rename_i g3;refine bl (id:=2) [12] (cM g3 (tU k n to wh v) iU (0,0)::cM w (a.cells c s) dv (0,0)::M::R) mixed ?_
  (refine tM 0 ?_;refine tN 1 ?_;refine tF 2 ?_;refine tL 3 ?_;refine tF 4 ?_;refine tL 5 ?_;refine tM 6 ?_;refine tN 7 ?_;refine tF 8 ?_;refine tL 9 ?_)
  refine A.two 10 11 rfl rfl rfl rfl zK ?_ ?_
  ·refine bg rfl rfl (Ct.C9 zP zP (tn _ e a.gf a.J0 a.gl a.ld a.lk (cV 0) s.ls c.f s.fs v b (s.time:Int) (hv.cN zE) hb zo zo zo)) ?_;rintro _ _ ⟨rfl,rfl⟩;refine ⟨fun _=>zE,?_⟩;refine tO 11 ?_;refine bS (cs:=[.int .i64 0,.int .i64 0]) rfl rfl fun g7=>⟨fun _=>zE,?_⟩
   refine tO 12 ?_;refine zg ?_;refine ⟨zN,?_⟩;refine bf zK ?_;exact bH (g3,g7) trivial zS zE
  ·refine bS (cs:=[.int .i64 0,.int .i64 0]) rfl rfl fun g7=>⟨fun _=>zE,?_⟩
   refine tO 10 ?_;refine bg rfl rfl (Ct.C9 zP zP (tn _ e a.gf a.J0 a.gl a.ld a.lk (cV 0) s.ls c.f s.fs v b (s.time:Int) (hv.cN zE) hb zo zo zo)) ?_;rintro _ _ ⟨rfl,rfl⟩;refine ⟨fun _=>zE,?_⟩;refine tO 12 ?_;refine zg ?_;refine ⟨zN,?_⟩;refine bf zK ?_;exact bH (g3,g7) trivial zS zE
 rintro ⟨g3,g7⟩ -;dsimp only;refine wB ?_;refine aZ rfl rfl (Ct.at zP (qa _ e a.gf a.J0 a.gl c.f (s.sub c b).fs)) ?_;rintro _ _ ⟨rfl,rfl⟩;rcases Bb c.f s.ls.cI s.fs b (s.time:Int) with h1|⟨h1,h2,h3,h4⟩
 ·have hs:s.sub c b=s:=by unfold dh.sub;rw [h1]
  have eI:a.ok M w c (m+1) s:={ ha with st:=by rw [← hs];exact mS,ec:=by omega }
  rw [hs];refine wB ?_;refine aY (eg w c (m+1) s ev::R) rfl (cn (show cC _ (eA w c s a M R) from zE) (eo eI he)) ⟨rfl,[],vJ.nil,by rw [aK]⟩
 ·have hs:s.sub c b={ s with fs:=⟨s.fs.recs++[b],s.fs.q++[(b,(s.time:Int))]⟩ }:=by unfold dh.sub;rw [h4]
  have hlen:(s.sub c b).fs.recs.length=s.fs.recs.length+1:=by rw [hs];simp
  rw [h4];refine wB ?_;refine bl (id:=4) [10] (cM g7 [.int .i64 1,.int .i64 (s.fs.recs.length:Int)] 254 (0,0)::cM g3 (tU k n to wh v) iU (0,0)::eA w c (s.sub c b) a M R) mixed ?_
  (refine tM 0 ?_;refine tN 1 ?_;refine tF 2 ?_;refine tF 3 ?_;refine tL 4 ?_;refine tF 5 ?_;refine tL 6 ?_;refine tF 7 ?_;refine tL 8 ?_)
  refine tk 9 _ rfl (cE.bytes rfl (hv.cN zE)) ?_;refine tO 10 ?_;refine Do.kS (key:=jH) (k:=(s.fs.recs.length:Int)) rfl rfl rfl zP ⟨zN,?_⟩;refine bf zK ?_
  (repeat (refine wA ?_;intros))
  refine bl (id:=5) [] (cM g7 [.int .i64 1,.int .i64 (s.fs.recs.length:Int)] 254 (0,0)::cM g3 (tU k n to wh v) iU (0,0)::R) mixed ?_
  (refine tM 0 ?_;refine tF 1 ?_;refine tL 2 ?_;refine tF 3 ?_;refine tL 4 ?_)
  refine tO 5 ?_;refine bg rfl rfl (xI _ e v b (hv.cN zE) zo) ?_;rintro _ _ ⟨ad,kk,rfl,rfl⟩;refine ⟨fun _=>zE,?_⟩;refine tO 6 ?_;refine bg rfl rfl (Ct.C9 zP zP (j7 _ e w c (s.sub c b) { a with kr:=mD (s.fs.recs.length:Int) (.string (str b)) a.kr } 1 (s.fs.recs.length:Int) 0 (.slice ad (cZ b).length kk) (cZ b) rfl zd)) ?_;rintro _ _ ⟨rfl,ve,rfl⟩;refine ⟨fun _=>zE,?_⟩;refine bf zK ?_;refine wB ?_;have eI:=(((ha.more (G7 (A:=M) (B:=cR (.slice ad (cZ b).length kk) (cZ b)))).kr (mD (s.fs.recs.length:Int) (.string (str b)) a.kr)).to mS (Nat.le_succ m) rfl rfl).seen (x:=⟨1,(s.fs.recs.length:Int),0,.slice ad (cZ b).length kk,cZ b⟩) ve (cF.cN (ba .zero) G8) zd;refine aY (eg w c (m+1) (s.sub c b) (ev++[(1,(s.fs.recs.length:Int),0,cZ b)])::R) rfl (cn ?_ (eo eI (by dsimp only;rw [ah,he];rfl))) ⟨rfl,_,?_,rfl⟩
  ·exact cn (eu (A:=M) (B:=cR (.slice ad (cZ b).length kk) (cZ b)) zP zP) zE
  ·intro x hx;rw [an.1 hx];exact ⟨(by decide:(1:Int)≠3),.inr (by rw [hs];simp)⟩
def dh.M0 (s:dh) (n:Nat):dh:={ s with time:=s.time+n }
theorem dh.Mg {c:dx} {m:Nat} {s:dh} {n:Nat} (h:s.ok c m) (hm:m<250) (hn:n≤1000):(s.M0 n).ok c (m+1) :=
 {h.next hm with
  time:=by have:=h.time;show s.time+n≤1000*(m+1);omega }
theorem G9 (w:Nat) (c:dx) (m:Nat) (s:dh) (ev:List (Int × Int × Int × dA)) (k to wh:Int) (n:Nat) (v:Value) (hv:v.oneCell'=true) (hn:n≤1000) (hm:m<250) :
 Ct prog 83 #[pt w,.agg (tU k n to wh v).toArray] e (eg w c m s ev::R) (fun v' L'=>v'=.tuple #[.int .i64 ((s.M0 n).time:Int),.int .i64 0]∧L'=eg w c (m+1) (s.M0 n) ev::R):=by
 refine iT fun a M ha he=>?_
 have ft:=ha.st;have mS:=dh.Mg ft hm hn;have ht:=ft.time;have eI:=ha.to mS (Nat.le_succ m) rfl rfl;refine a8 (args:=[_,_]) func83 rfl ntmps83 results83 rfl ?_
 (repeat (refine wA ?_;intros))
 rename_i g3;refine bl (id:=3) [7,8,9] (cM g3 (tU k n to wh v) iU (0,0)::cM w (a.cells c s) dv (0,0)::R) mixed ?_
 (refine tM 0 ?_;refine tN 1 ?_;refine tF 2 ?_;refine tL 3 ?_;refine tF 4 ?_;refine tL 5 ?_;refine tk 6 _ rfl (cE.la rfl rfl zo) ?_;(refine tO 7 ?_;refine dV (bp rfl) ?_);(refine tO 8 ?_;refine dV (bb rfl) ?_);(refine tO 9 ?_;refine tZ ?_;refine ⟨zN,?_⟩))
 refine bf zK ?_;refine wB ?_;refine aY (eg w c (m+1) (s.M0 n) ev::R) rfl (cn (show cC _ (eA w c (s.M0 n) a M R) from zE) (eo eI he)) ⟨rfl,rfl⟩
abbrev J2 (l:List Ev):List (Int × Int × Int × dA):=l.map fun x=>(x.k,x.a,x.b,x.t)
theorem dh.ok.some {c:dx} {m:Nat} {s:dh} (h:s.ok c m) (hl:0<s.ls.cI.length):s.fs.recs≠[]:=fun q=>by
 have:=h.perm.length_eq;rw [q,aa,List.length_nil] at this
 omega
theorem dh.ok.short {c:dx} {m:Nat} {s:dh} (h:s.ok c m):s.ls.cI.length≤250:=by
 have:=h.perm.length_eq;rw [aa] at this
 have:=h.Fc;have:=h.steps
 omega
theorem Mh {l:List dA} {j:Nat} (h:j<l.length):l.getD j []∈l:=by
 have:l.getD j []=l[j]'h:=by simp [List.getD,ae h]
 rw [this];exact az h
theorem tG (w:Nat) (c:dx) (m:Nat) (s:dh) (a:eO) (M:cK) (ha:a.ok M w c m s) (i:Nat) (hi:i≤1000) (RH:a.es.length+256≤600*m) :
 Ct prog 170 #[pt w,.int .i64 (i:Int)] e (eA w c s a M R) (fun v' L'=>v'=.tuple #[]∧∃ (a':eO) (M':cK) (mQ:List (Int × Int × Int × dA)),a'.ok M' w c m s∧J2 a'.es=J2 a.es++mQ∧mQ.length≤250∧vJ mQ s∧L'=eA w c s a' M' R):=by
 have IC:=ha.st.short;have RE:=ha.st.steps;refine a8 (args:=[_,_]) func170 rfl ntmps170 results170 rfl ?_;refine wB ?_;refine br (ι:=Nat × eO × cK × List (Int × Int × Int × dA)) (fun j=>[(0,pt w),(4,.int .i64 (j.1:Int))]) (fun j=>eA w c s j.2.1 j.2.2.1 R) (fun j=>i≤j.1∧j.1≤1000∧j.2.1.ok j.2.2.1 w c m s∧J2 j.2.1.es=J2 a.es++j.2.2.2∧(j.2.2.2.length≤j.1∧(j.2.2.2=[]∨j.1≤s.ls.cI.length))∧vJ j.2.2.2 s) (fun j=>s.ls.cI.length - j.1) (i,a,M,[]) ⟨aT _,hi,ha,by simp,⟨aG _,.inl rfl⟩,vJ.nil⟩ zS aX ?_;rintro ⟨j,b,N,ev⟩ ⟨R6,hj1,hb,Kr,⟨Hv,Qf⟩,Pd⟩;dsimp only at R6 hb Kr Hv Pd Qf hj1 ⊢
 have nZ:b.es.length=a.es.length+ev.length:=by have:=congrArg List.length Kr;simpa using this
 have Mi:ev.length≤250:=by
  rcases Qf with h|h
  ·rw [h];simp
  ·omega
 refine wB ?_;refine aZ rfl rfl (Ct.at zP (xZ _ e b.gl b.ld b.lk (cV 0) s.ls)) ?_;rintro _ _ ⟨rfl,rfl⟩
 by_cases cQ:j<s.ls.cI.length
 rotate_left
 ·refine wB ?_;refine bX (eA w c s b N R) rfl zE ⟨rfl,b,N,ev,hb,Kr,Mi,Pd,rfl⟩
 refine wB ?_;refine aZ rfl rfl (Ct.at zP (vC _ e b.gl b.ld b.lk (cV 0) s.ls (j:Int) zo)) ?_;rintro _ _ (⟨h1,-,-⟩|⟨-,-,ad,kk,rfl,rfl⟩)
 ·exact absurd ⟨by omega,by omega⟩ h1
 rw [Int.toNat_natCast];have Wf:(s.ls.cI.getD j []).length≤200:=hb.st.ls.short _ (Mh cQ)
 generalize s.ls.cI.getD j []=x at *
 refine wB ?_;refine bC _ (cE.k8 (key:=jH) (k:=(j:Int)) rfl rfl zP) rfl ?_
 generalize (ic (j:Int) b.kl).getD (.string (str []))=vk
 cases hk:(ic (j:Int) b.kl).isSome with
 | true =>
  refine wB ?_;refine bi (j+1,b,N,ev) ⟨by dsimp only;omega,by dsimp only;omega,hb,Kr,⟨by dsimp only;omega,.inr cQ⟩,Pd⟩ zd zS zE
 | false =>
  refine wB ?_;refine bl (id:=6) [8] (cR (.slice ad x.length kk) x::eA w c s b N R) mixed ?_
  (refine tM 0 ?_;refine tN 1 ?_;refine tF 2 ?_;refine tF 3 ?_;refine tL 4 ?_;refine tM 5 ?_;refine tM 6 ?_)
  refine tk 7 _ rfl (cE.bytes rfl (ba .zero)) ?_;refine tO 8 ?_;refine Do.kS (key:=jH) (k:=(j:Int)) rfl rfl rfl zP ⟨zN,?_⟩;refine bf zK ?_;refine wB ?_;refine aZ rfl rfl (qt _ e (.slice ad x.length kk) x (ba zP) zo) ?_;rintro _ _ ⟨dS,k2,rfl,rfl⟩;refine aZ rfl rfl (Ct.C9 zP zP (j7 _ e w c s { b with kl:=mD (j:Int) (.string (str x)) b.kl } 2 (j:Int) 0 (.slice dS (cZ x).length k2) (cZ x) rfl zd)) ?_;rintro _ _ ⟨rfl,ve,rfl⟩;have eI:=((hb.more (G7 (A:=N) (B:=cR (.slice dS (cZ x).length k2) (cZ x)))).kl (mD (j:Int) (.string (str x)) b.kl)).seen (x:=⟨2,(j:Int),0,.slice dS (cZ x).length k2,cZ x⟩) ve (cF.cN (ba .zero) G8) zd;refine wB ?_;refine bi (j+1,{ b with kl:=mD (j:Int) (.string (str x)) b.kl,ve:=ve,es:=b.es++[⟨2,(j:Int),0,.slice dS (cZ x).length k2,cZ x⟩] },dI [N,cR (.slice dS (cZ x).length k2) (cZ x)],ev++[(2,(j:Int),0,cZ x)]) ⟨by dsimp only;omega,by dsimp only;omega,eI,by dsimp only;rw [J2,ah,← J2,Kr,aM];rfl,⟨by dsimp only;rw [aa,aj];omega,.inr cQ⟩,fun y hy=>?_⟩ zd zS (cn (eu (A:=N) (B:=cR (.slice dS (cZ x).length k2) (cZ x)) zP zP) zE);rcases aJ.1 hy with hy|hy
  ·exact Pd y hy
  ·rw [an.1 hy];exact ⟨(by decide:(2:Int)≠3),.inr (ha.st.some zo)⟩
theorem tH {old:List dA}:∀ {l fresh:List dA},(old++fresh++l).Nodup→fj old fresh l=fresh++l
 | [],fresh,h=>by simp [fj]
 | b::l,fresh,h=>by
  unfold fj;have h1:¬ b∈old++fresh:=fun q=>(List.nodup_append.1 h).2.2 _ q _ (List.mem_cons_self ..) rfl
  rw [aB h1,tH (by simpa using h),aM];rfl
def dh.Ha (c:dx) (s:dh):dh:=if s.fs.oL c.f (s.time:Int)=true then { s with fs:=s.fs.yj c.f,ls:=s.ls.add (s.fs.some c.f) } else s
def dh.J3 (c:dx) (s:dh):Nat:=if s.fs.oL c.f (s.time:Int)=true then (s.fs.some c.f).length else 0
theorem dh.ok.nodup {c:dx} {m:Nat} {s:dh} (h:s.ok c m):(s.ls.cI++s.fs.q.map (·.1)).Nodup:=h.perm.nodup_iff.2 h.recs
theorem dh.ok.fresh {c:dx} {m:Nat} {s:dh} (h:s.ok c m):s.ls.fresh (s.fs.some c.f)=s.fs.some c.f:=by
 unfold gM.fresh pq.some;have h1:=h.nodup
 rw [tH (by
  rw [aK];refine h1.sublist (List.Sublist.append_left ((List.take_sublist _ _).map _) _)),List.nil_append]
theorem dh.ok.fit {c:dx} {m:Nat} {s:dh} (h:s.ok c m):s.ls.cI.length+(s.ls.fresh (s.fs.some c.f)).length≤250:=by
 rw [h.fresh];have h1:=h.perm.length_eq;rw [aa,ab] at h1
 have h2:(s.fs.some c.f).length≤s.fs.q.length:=by unfold pq.some;rw [ab,aE];omega
 have:=h.Fc;have:=h.steps
 omega
theorem J4 {l m:List dA} {k:Nat} {x:List dA} (h:x=l.take x.length):x=(l++m).take x.length:=by
 have h1:=congrArg List.length h;rw [aE] at h1
 rw [List.take_append_of_le_length zo];exact h
theorem dh.Mj {c:dx} {m:Nat} {s:dh} (h:s.ok c m) (hm:m<250):(s.Ha c).ok c (m+1):=by
 unfold dh.Ha
 split
 rotate_left
 ·exact h.next hm
 have hi:(s.ls.add (s.fs.some c.f)).cI=s.ls.cI++s.fs.some c.f:=by rw [gM.AU,h.fresh]
 have hq:s.fs.some c.f++(s.fs.q.drop c.f.size).map (·.1)=s.fs.q.map (·.1):=by
  unfold pq.some;rw [← ah,List.take_append_drop]
 have A6:∀ b∈s.fs.some c.f,b∈s.fs.q.map (·.1):=fun b hb=>by rw [← hq];exact List.mem_append_left _ hb
 have hl:=h.ls;have hf:=h.fs;have ph:=h.fit;rw [h.fresh] at ph
 have yQ:=h.nodup;have Pe:(s.ls.add (s.fs.some c.f)).last=s.ls.last:=by unfold gM.add;split<;>rfl
 have TP:(s.ls.add (s.fs.some c.f)).keys=s.ls.keys:=by unfold gM.add;split<;>rfl
 have SN:(s.ls.cI++s.fs.some c.f).Nodup:=by
  rw [← hq,← aM] at yQ
  exact (List.nodup_append.1 yQ).1
 exact { h.next hm with
  ls:={
   full:=fun r hr=>by
    unfold gM.add at hr
    split at hr
    ·exact hl.full r hr
    ·rename_i mV;rcases aJ.1 hr with hr|hr
     ·exact hl.full r hr
     ·rw [an.1 hr];exact mV
   nodup:=by rw [hi];exact SN
   size:=by rw [hi,aa];omega
   short:=fun b hb=>by
    rw [hi] at hb
    rcases aJ.1 hb with hb|hb
    ·exact hl.short b hb
    ·obtain ⟨x,hx,rfl⟩:=aD.1 (A6 b hb);exact hf.p9 x hx
   keys:=by rw [TP];exact hl.keys
   last:=fun x hx=>by
    rw [Pe] at hx
    obtain ⟨h1,h2,h3⟩:=hl.last x hx;refine ⟨h1,h2,?_⟩;rw [hi,aa];omega }
  last:=fun x hx=>by
   show yU (s.ls.add (s.fs.some c.f)).cI x
   rw [hi];exact (h.last x (by rw [← Pe];exact hx)).more
  fs:={
   size:=hf.size
   uE:=hf.uE
   Ej:=by show (s.fs.q.drop c.f.size).length≤1000;rw [aP];have:=hf.Ej;omega
   p9:=fun x hx=>hf.p9 x (aS hx)
   ye:=fun x hx=>hf.ye x (aS hx) }
  perm:=by
   show ((s.ls.add (s.fs.some c.f)).cI++(s.fs.q.drop c.f.size).map (·.1)).Perm s.fs.recs
   rw [hi,aM,hq];exact h.perm
  ws:=fun x hx=>⟨(h.ws x hx).1,Nat.le_succ_of_le (h.ws x hx).2.1,by show ly (s.ls.add (s.fs.some c.f)).cI _;rw [hi];exact (h.ws x hx).2.2.more⟩
  cur:=fun x hx=>⟨by show yU (s.ls.add (s.fs.some c.f)).cI _;rw [hi];exact (h.cur x hx).1.more,(h.cur x hx).2⟩
  done:=fun hn=>⟨by show yU (s.ls.add (s.fs.some c.f)).cI _;rw [hi];exact (h.done hn).1.more,(h.done hn).2⟩
  TO:=by show s.mo.cI=(s.ls.add (s.fs.some c.f)).cI.take _;rw [hi];exact J4 (k:=0) h.TO
  ei:=fun x hx=>by show gh.ok c (s.ls.add (s.fs.some c.f)).cI x;rw [hi];exact (h.ei x hx).more
  signed:=fun x hx=>⟨by show ly (s.ls.add (s.fs.some c.f)).cI _;rw [hi];exact (h.signed x hx).1.more,(h.signed x hx).2⟩ }
end Go.Proofs
namespace Go.Proofs
attribute [local irreducible] Bs.cE Bs.Do Bs.O Bs.W Bs.Fin Bs.A Bs.Ct Bs.cF Bs.Rd Bs.Sat Bs.cM Bs.Ob Bs.dJ Bs.View Bs.cC Bs.Ex Bs.dI Bs.Pu Bs.eZ Bs.dK Bs.eh
open Go.Bs
open Tryz
variable (R:List cK) (e:World)
theorem Hb (w:Nat) (c:dx) (m:Nat) (s:dh) (ev:List (Int × Int × Int × dA)) (k n to wh:Int) (v:Value) (hv:v.oneCell'=true) (hm:m<250) :
 Ct prog 84 #[pt w,.agg (tU k n to wh v).toArray] e (eg w c m s ev::R) (fun v' L'=>v'=.tuple #[.int .i64 (s.J3 c:Int),.int .i64 0]∧∃ mQ,vJ mQ (s.Ha c)∧L'=eg w c (m+1) (s.Ha c) (ev++mQ)::R):=by
 refine iT fun a M ha he=>?_
 have ft:=ha.st;have mS:=dh.Mj ft hm;have eI:=ha.to mS (Nat.le_succ m) (by unfold dh.Ha;split<;>rfl) (by unfold dh.Ha;split<;>rfl);have ht:=ft.time;have RH:=ha.ec;have kD:=ft.short;refine a8 (args:=[_,_]) func84 rfl ntmps84 results84 rfl ?_
 (repeat (refine wA ?_;intros))
 refine aZ rfl rfl (Ct.at zP (xZ _ e a.gl a.ld a.lk (cV 0) s.ls)) ?_;rintro _ _ ⟨rfl,rfl⟩;refine wB ?_;rename_i g3;refine bl (id:=2) [13] (cM g3 (tU k n to wh v) iU (0,0)::cM w (a.cells c s) dv (0,0)::M::R) mixed ?_
 (refine tM 0 ?_;refine tN 1 ?_;refine tF 2 ?_;refine tL 3 ?_;refine tM 4 ?_;refine tN 5 ?_;refine tF 6 ?_;refine tL 7 ?_)
 refine tO 8 ?_;refine bg rfl rfl (Ct.C9 zP zP (GF _ e a.gf a.J0 a.gl a.ld a.lk (cV 0) s.ls c.f s.fs (s.time:Int) zo (by have:=ft.fit;omega))) ?_;have hN0:s.fs.oL c.f (s.time:Int)=false→s.Ha c=s∧s.J3 c=0:=fun h=>by unfold dh.Ha dh.J3;rw [h];exact ⟨rfl,rfl⟩
 have QO:s.fs.oL c.f (s.time:Int)=true→s.Ha c={ s with fs:=s.fs.yj c.f,ls:=s.ls.add (s.fs.some c.f) }∧s.J3 c=(s.fs.some c.f).length:=fun h=>by unfold dh.Ha dh.J3;rw [h];exact ⟨rfl,rfl⟩
 rintro _ _ (⟨hd,rfl,rfl⟩|⟨hd,ao,co,rfl,rfl⟩)
 ·obtain ⟨h1,h2⟩:=hN0 hd;rw [h1] at eI ⊢
  rw [h2];refine ⟨fun _=>zE,?_⟩
  (refine tM 9 ?_;refine tk 10 _ rfl (bn rfl rfl) ?_;refine tk 11 _ rfl (bn rfl rfl) ?_;refine tA 12 ?_;(refine tO 13 ?_;refine dV (bj rfl) ?_))
  refine bf zK ?_;refine wB ?_;refine aZ rfl rfl (Ct.cN (tG (cM g3 (tU k n to wh v) iU (0,0)::R) e w c (m+1) s a M eI s.ls.cI.length zo zo) zE) ?_;rintro _ _ ⟨rfl,a2,M2,Of,qk,Mi,-,Pd,rfl⟩;refine wB ?_;refine aY (eg w c (m+1) s (ev++Of)::R) rfl (cn (show cC _ (eA w c s a2 M2 R) from zE) (eo qk (by rw [← he];exact Mi))) ⟨rfl,Of,Pd,rfl⟩
 ·obtain ⟨h1,h2⟩:=QO hd;rw [h1] at eI ⊢
  rw [h2];refine ⟨fun _=>zE,?_⟩
  generalize (s.fs.some c.f).length=nn at *
  (refine tM 9 ?_;refine tk 10 _ rfl (bn rfl rfl) ?_;refine tk 11 _ rfl (bn rfl rfl) ?_;refine tA 12 ?_;(refine tO 13 ?_;refine dV (bj rfl) ?_))
  refine bf zK ?_;refine wB ?_;refine aZ rfl rfl (Ct.cN (tG (cM g3 (tU k n to wh v) iU (0,0)::R) e w c (m+1) _ a M eI s.ls.cI.length zo zo) zE) ?_;rintro _ _ ⟨rfl,a2,M2,Of,qk,Mi,-,Pd,rfl⟩;refine wB ?_;refine aY _ rfl (cn (show cC _ (eA w c { s with fs:=s.fs.yj c.f,ls:=s.ls.add (s.fs.some c.f) } a2 M2 R) from zE) (eo qk (ev:=ev++Of) (by rw [← he];exact Mi))) ⟨rfl,Of,Pd,rfl⟩
theorem Bc (now:Nat):∀ (m:Nat) (s:cS),(cS.lD now m s).cur=s.cur∧(cS.lD now m s).kept=s.kept∧(cS.lD now m s).done=s.done∧(cS.lD now m s).dm=s.dm
 | 0,_=>⟨rfl,rfl,rfl,rfl⟩
 | m+1,s=>by
  obtain ⟨h1,h2,h3,h4⟩:=Bc now m s;exact ⟨h1,h2,h3,h4⟩
theorem J5 (p:jK) (s:cS) (x:jU) (now:Nat):(s.ii p x now).done=s.done∧(s.ii p x now).dm=s.dm∧((s.ii p x now)=s∨((s.ii p x now).cur=some x∧(s.ii p x now).kept=[])):=by
 unfold cS.ii
 split
 ·obtain ⟨h1,h2,h3,h4⟩:=Bc now s.st.length { s with cur:=some x,kept:=[] };exact ⟨h3,h4,.inr ⟨h1,h2⟩⟩
 ·exact ⟨rfl,rfl,.inl rfl⟩
def dh.mP (s:dh):Prop:=s.ls.same∨s.ls.keys<16
instance (s:dh):Decidable s.mP:=by unfold dh.mP;infer_instance
def dh.fv (s:dh):jU:=(s.ls.iY (cV 0)).dO
def dh.pw (c:dx) (s:dh):dh:={ s with ls:=s.ls.iY (cV 0),fd:=if 0<s.fv.dd.size then s.fd.ii (df c) s.fv s.time else s.fd,n:=s.n+c.k }
def dh.iY (c:dx) (s:dh):dh:=if s.mP then { s.pw c with signed:=some s.fv.dd } else s
def Xh (ev:List (Int × Int × Int × dA)) (s:dh):Prop:=ev=[]∨∃ x:iM,s.signed=some x∧ev=[(3,(x.size:Int),0,x.root)]
theorem dh.uR (s:dh):(s.ls.iY (cV 0)).cI=s.ls.cI:=by unfold gM.iY;split;rfl;split<;>rfl
theorem dh.wM {c:dx} {m:Nat} {s:dh} (h:s.ok c m) (hp:s.mP):yU s.ls.cI s.fv∧s.fv.dd.size=s.ls.cI.length∧(s.ls.iY (cV 0)).last=some s.fv:=by
 unfold dh.fv gM.iY
 split
 ·rename_i hs;obtain ⟨h1,h2⟩:=hs;obtain ⟨x,hx⟩:=Option.isSome_iff_exists.1 h1;have hv:s.ls.dO=x:=by unfold gM.dO;rw [hx];rfl
  rw [hv] at h2 ⊢
  exact ⟨h.last x hx,h2,hx⟩
 ·rename_i hs;have hk:s.ls.keys<16:=hp.resolve_left hs;rw [aH hk];have hr:=gM.AT h.ls;refine ⟨⟨I8 hr hk,jh hk,aT _,?_⟩,rfl,rfl⟩
  show dR (s.ls.cI.map cZ)=dR ((s.ls.cI.take s.ls.cI.length).map cZ)
  rw [List.take_length]
theorem dh.Og {c:dx} {m:Nat} {s:dh} (h:s.ok c m) (hp:s.mP):(s.ls.iY (cV 0)).ok:=by
 obtain ⟨h1,h2,h3⟩:=dh.wM h hp;have hl:=h.ls;have hi:=s.uR;have Ge:(s.ls.iY (cV 0)).recs=s.ls.recs:=by unfold gM.iY;split;rfl;split<;>rfl
 exact {
  full:=by rw [Ge];exact hl.full
  nodup:=by rw [hi];exact hl.nodup
  size:=by rw [hi];exact hl.size
  short:=by rw [hi];exact hl.short
  keys:=by
   unfold gM.iY
   split
   ·exact hl.keys
   ·split
    ·rename_i hk;exact hk
    ·exact hl.keys
  last:=fun x hx=>by
   rw [h3] at hx
   cases hx
   exact ⟨h1.1.1,h1.2.1,by rw [hi];omega⟩ }
theorem dh.If {c:dx} {m:Nat} {s:dh} (h:s.ok c m) (hm:m<250) (hp:s.mP):(s.pw c).ok c (m+1):=by
 obtain ⟨h1,h2,h3⟩:=dh.wM h hp;have hi:=s.uR;have ht:=h.time;have hn:=h.nb;have hk:=h.Cc.k;have hlen:=mN c
 have HV:cS.ok (if 0<s.fv.dd.size then s.fd.ii (df c) s.fv s.time else s.fd) c.k (s.n+c.k):=by
  split
  ·exact cS.wH h.fd h1.fits zo zo zo
  ·exact h.fd.mono zo
 obtain ⟨q1,q2,q3⟩:=J5 (df c) s.fd s.fv s.time
 exact { h.next hm with
  ls:=dh.Og h hp
  last:=fun x hx=>by
   show yU (s.ls.iY (cV 0)).cI x
   have hx:(s.ls.iY (cV 0)).last=some x:=hx;rw [h3] at hx
   cases hx
   rw [hi];exact h1
  perm:=by show ((s.ls.iY (cV 0)).cI++_).Perm _;rw [hi];exact h.perm
  ws:=fun x hx=>⟨(h.ws x hx).1,Nat.le_succ_of_le (h.ws x hx).2.1,by show ly (s.ls.iY (cV 0)).cI _;rw [hi];exact (h.ws x hx).2.2⟩
  fd:=HV
  nb:=by show s.n+c.k≤_;omega
  cur:=fun x hx=>by
   show yU (s.ls.iY (cV 0)).cI x∧_
   rw [hi];have hx:cS.cur (if 0<s.fv.dd.size then s.fd.ii (df c) s.fv s.time else s.fd)=some x:=hx
   split at hx
   ·rename_i h0;rcases q3 with q3|⟨q3,-⟩
    ·rw [q3] at hx;exact h.cur x hx
    ·rw [q3] at hx;cases hx;exact ⟨h1,h0⟩
   ·exact h.cur x hx
  idle:=fun hx=>by
   show cS.ag (if 0<s.fv.dd.size then s.fd.ii (df c) s.fv s.time else s.fd)=[]
   have hx:cS.cur (if 0<s.fv.dd.size then s.fd.ii (df c) s.fv s.time else s.fd)=none:=hx
   split at hx
   ·rename_i h0;rw [aH h0];rcases q3 with q3|⟨q3,-⟩
    ·rw [q3] at hx ⊢;exact h.idle hx
    ·rw [q3] at hx;cases hx
   ·rename_i h0;rw [aB h0];exact h.idle hx
  kept:=fun g hg=>by
   show g.hJ _ (cS.dY (if 0<s.fv.dd.size then s.fd.ii (df c) s.fv s.time else s.fd)).dd
   have hg:g∈cS.kept (if 0<s.fv.dd.size then s.fd.ii (df c) s.fv s.time else s.fd):=hg
   split at hg
   ·rename_i h0;rw [aH h0];rcases q3 with q3|⟨-,q3⟩
    ·rw [q3] at hg ⊢;exact h.kept g hg
    ·rw [q3] at hg;cases hg
   ·rename_i h0;rw [aB h0];exact h.kept g hg
  done:=fun hx=>by
   show yU (s.ls.iY (cV 0)).cI (cS.done (if 0<s.fv.dd.size then s.fd.ii (df c) s.fv s.time else s.fd))∧0<(cS.done (if 0<s.fv.dd.size then s.fd.ii (df c) s.fv s.time else s.fd)).dd.size∧sZ (df c) (cS.done (if 0<s.fv.dd.size then s.fd.ii (df c) s.fv s.time else s.fd)).dd (cS.dm (if 0<s.fv.dd.size then s.fd.ii (df c) s.fv s.time else s.fd))
   have hx:cS.dm (if 0<s.fv.dd.size then s.fd.ii (df c) s.fv s.time else s.fd)≠[]:=hx;rw [hi]
   split at hx
   ·rename_i h0;rw [aH h0,q1,q2];rw [q2] at hx
    exact h.done hx
   ·rename_i h0;rw [aB h0];exact h.done hx
  TO:=by show s.mo.cI=(s.ls.iY (cV 0)).cI.take _;rw [hi];exact h.TO
  ei:=fun x hx=>by show gh.ok c (s.ls.iY (cV 0)).cI x;rw [hi];exact h.ei x hx
  signed:=fun x hx=>by show ly (s.ls.iY (cV 0)).cI _∧_;rw [hi];exact h.signed x hx }
theorem dh.Mk {c:dx} {m:Nat} {s:dh} (h:s.ok c m) (hm:m<250):(s.iY c).ok c (m+1):=by
 unfold dh.iY
 split
 rotate_left
 ·exact h.next hm
 ·rename_i hp;obtain ⟨h1,h2,h3⟩:=dh.wM h hp
  exact { dh.If h hm hp with
   signed:=fun x hx=>by
    cases hx
    show ly (s.ls.iY (cV 0)).cI _∧_
    rw [s.uR];exact ⟨h1.2.2,h1.1.1⟩ }
theorem eO.ok.sign {a:eO} {M:cK} {w:Nat} {c:dx} {m:Nat} {s:dh} (h:a.ok M w c m s) {x:iM} {v:Value} (hx:da [M] v x.root) (h2:dh.ok c m { s with signed:=some x }):eO.ok { a with vr:=v } M w c m { s with signed:=some x } :=
 {h with root:=hx,all:=⟨h.all.all⟩,st:=h2,ei:=h.ei }
theorem J6 (w:Nat) (c:dx) (m:Nat) (s:dh) (ev:List (Int × Int × Int × dA)) (k n to wh:Int) (v:Value) (hv:v.oneCell'=true) (hm:m<250) :
 Ct prog 85 #[pt w,.agg (tU k n to wh v).toArray] e (eg w c m s ev::R) (fun v' L'=>v'=.tuple #[.int .i64 (if s.mP then (s.fv.dd.size:Int) else 0),.int .i64 (if s.mP then 0 else 23)]∧∃ mQ,Xh mQ (s.iY c)∧L'=eg w c (m+1) (s.iY c) (ev++mQ)::R):=by
 refine iT fun a M ha he=>?_
 have ft:=ha.st;have ht:=ft.time;have hn:=ft.nb;have RH:=ha.ec;refine a8 (args:=[_,_]) func85 rfl ntmps85 results85 rfl ?_
 (repeat (refine wA ?_;intros))
 refine aZ rfl rfl (Ct.at zP (Jq _ e a.gl a.ld a.lk (cV 0) s.ls)) ?_;rintro v0 _ ⟨OT,FF⟩
 by_cases hp:s.mP
 rotate_left
 ·obtain ⟨rfl,rfl⟩:=FF hp;have hs:s.iY c=s:=by unfold dh.iY;rw [aB hp]
  have eI:=ha.to (ft.next hm) (Nat.le_succ m) rfl rfl;rw [hs,aB hp,aB hp]
  (repeat (refine wA ?_;intros))
  refine aY (eg w c (m+1) s ev::R) rfl (cn (show cC _ (eA w c s a M R) from zE) (eo eI he)) ⟨rfl,[],.inl rfl,by rw [aK]⟩
 obtain ⟨N,ur,up,uq,rfl,hN,rfl⟩:=OT hp;obtain ⟨g1,g2,g3⟩:=dh.wM ft hp;have G0:=dh.If ft hm hp;have mS:=dh.Mk ft hm;have hs:s.iY c={ s.pw c with signed:=some s.fv.dd }:=by unfold dh.iY;rw [aH hp]
 rw [aH hp,aH hp];rw [hs] at mS ⊢
 rw [show (s.ls.iY (cV 0)).dO=s.fv from rfl] at hN ⊢
 refine bo (cz (hN.root.cN (cH zP))) fun o3=>?_
 refine bo (hN.sig.cN (cH zP)).parts.one fun o4=>?_
 refine bo (hN.sig.cN (cH zP)).path.one fun o5=>?_
 clear OT FF
 (repeat' first|refine W.oZ (id:=7) (fun j:Nat × Nat=>[(0,pt w),(8,pt j.2)]) (fun j=>cM j.2 (gX s.fv.dd ur) 83 (0,0)::N::eA w c (s.pw c) a M R) (fun _=>True) ?_ ?_|refine Za ?_|refine Zb ?_|apply Zc|apply Zd|apply Ze|apply Zf|refine Zh ?_|refine ZQ ?_|refine Yh fun _=>?_|refine YA ?_|apply YC|refine YN ?_|refine YR ?_|(apply O.dj;exact rfl;exact zP;(first|(simp only [aC,Nat.add_zero,Nat.reduceAdd,List.drop_succ_cons,List.drop_zero,List.take_succ_cons,List.take_zero];done)|(simp only [aC,Nat.add_zero,Nat.reduceAdd,List.drop_succ_cons,List.drop_zero,List.take_succ_cons,List.take_zero];exact rfl));exact rfl;exact rfl))
 rotate_left
 ·refine ⟨?_⟩;rename_i g6 g8
  by_cases h0:0<s.fv.dd.size
  rotate_left
  ·have fy:s.pw c={ s with ls:=s.ls.iY (cV 0),fd:=s.fd,n:=s.n+c.k }:=by unfold dh.pw;rw [aB h0]
   rw [fy];refine wB ?_;exact bH (g6,g8) trivial zS (cn (bz (show cT _ (mq a.qi (df c) c.retry s.n s.fd) _ from zP) aX) (cn (H6 (Nat.le_add_right s.n c.k)) zE))
  ·have fy:s.pw c={ s with ls:=s.ls.iY (cV 0),fd:=s.fd.ii (df c) s.fv s.time,n:=s.n+c.k }:=by unfold dh.pw;rw [aH h0]
   rw [fy];refine wB ?_;refine bl (id:=6) [] (cM g6 (dT s.fv ur up uq) qQ (0,0)::cM w (a.cells c s) dv (0,0)::N::R) mixed ?_
   (refine tM 0 ?_;refine tN 1 ?_;refine tF 2 ?_;refine tL 3 ?_;refine tJ 4 ?_;refine tM 5 ?_;refine tN 6 ?_;refine tF 7 ?_;refine tL 8 ?_)
   refine tO 9 ?_;have hof:=fun L hL=>EC L e a.qi (df c) c.retry s.n s.fd ur up uq s.fv s.time hL g1.fits zo zo
   rw [mN] at hof
   refine bg rfl rfl (Ct.at zP (hof _ (hN.cN (cH zP)))) ?_;rintro _ _ ⟨rfl,rfl⟩;refine ⟨fun _=>zE,?_⟩;refine bf zK ?_;exact bH (g6,g8) trivial zS zE
 rintro ⟨-,g8⟩ -;dsimp only;have qO:=ha.to G0 (Nat.le_succ m) rfl rfl;refine wB ?_;refine aZ rfl rfl (G6 _ e w s.sv a.vr s.signed.isSome s.fv.dd ur (bR (show cT _ (cM w (a.cells c (s.pw c)) dv (0,0)) _ from zP) rfl) (eh.fg (show cT _ (cM w (a.cells c (s.pw c)) dv (0,0)) _ from zP) ⟨2,rfl⟩) (fun _=>ha.root.cN (cH (show cT _ M _ from zP))) (hN.root.cN (cH (show cT _ N _ from zP)))) ?_;rintro _ _ ⟨rfl,rfl⟩
 by_cases Jr:s.signed=some s.fv.dd
 ·have hb:(s.signed.isSome && decide (s.sv=s.fv.dd))=true:=by unfold dh.sv;rw [Jr];simp
  rw [hb];have kY:({ s.pw c with signed:=some s.fv.dd }:dh)=s.pw c:=by unfold dh.pw;rw [← Jr]
  rw [kY];refine wB ?_;refine aY (eg w c (m+1) (s.pw c) ev::R) rfl (cn (show cC _ (eA w c (s.pw c) a M R) from zE) (eo qO he)) ⟨rfl,[],.inl rfl,by rw [aK]⟩
 ·have hb:(s.signed.isSome && decide (s.sv=s.fv.dd))=false:=by
   unfold dh.sv
   cases hq:s.signed with
   | none=>rfl
   | some y=>simp only [Option.isSome_some,Bool.true_and,Option.getD_some,decide_eq_false_iff_not];rintro rfl;exact Jr hq
  rw [hb];have eI:=(qO.more (G7 (A:=M) (B:=N))).sign (hN.root.cN G8) mS;refine wB ?_;refine aZ rfl rfl (Ct.C9 zP zP (j7 _ e w c { s.pw c with signed:=some s.fv.dd } { a with vr:=ur } 3 (s.fv.dd.size:Int) 0 ur s.fv.dd.root o3 zd)) ?_;rintro _ _ ⟨rfl,ve,rfl⟩;have qk:=eI.seen (x:=⟨3,(s.fv.dd.size:Int),0,ur,s.fv.dd.root⟩) ve (hN.root.cN G8) zd;refine wB ?_;refine aY (eg w c (m+1) { s.pw c with signed:=some s.fv.dd } (ev++[(3,(s.fv.dd.size:Int),0,s.fv.dd.root)])::R) rfl (cn ?_ (eo qk (by dsimp only;rw [ah,he];rfl))) ⟨rfl,_,.inr ⟨_,rfl,rfl⟩,rfl⟩;exact cn (eu (A:=M) (B:=N) zP zP) zE
abbrev J7:TypeId:=102
theorem yF (v:Value) (x:jU) (n m:Nat) (path:List dA) (hv:da R v (qh x n m path)) (hc:x.dd.right) (hr:x.sig.right) (hn:n≤1000000) (hm:m≤1000000) (hp:path.length≤16) (jD:∀ a∈path,a.length=32) :
 Ct prog 251 #[v] e R (fun v' L'=>∃ (M:cK) (ur up uq:Value) (ad:Option Addr) (k:Nat) (ts:List dX),v'=.tuple #[.agg (dT x ur up uq).toArray,.agg #[.int .i64 (n:Int),.int .i64 (m:Int),.slice ad ts.length k],.bool true]∧ts.map (·.2)=path∧ff [M] ur up uq x∧cF [M] 1 (.slice ad ts.length k) ts.length (ts.map (·.1))∧dE [M] ts∧L'=M::R):=by
 have CY:=fc jD;have Ry:=iN hc hr
 have qy:(qh x n m path).length≤3000:=by
  unfold qh;simp only [aa,aR,cY]
  omega
 refine a7 (cz hv) fun o1=>?_
 refine bI (args:=[_]) func251 rfl ntmps251 results251 rfl ?_
 (repeat (refine wA ?_;intros))
 rename_i g2 g3;refine aZ rfl rfl (jz _ e v (qh x n m path) (hv.cN zE) zo) ?_;rintro _ _ ⟨gr,rfl,rfl⟩;have Jt:qh x n m path=hZ x++(be n 4++(be m 4++(UInt8.ofNat path.length::path.flatten))):=rfl;rw [Jt];refine wB ?_;refine aZ rfl rfl (AD _ e gr x _ hc hr (by simp only [aa,aR,cY];omega)) ?_;rintro _ _ ⟨N,ur,up,uq,rfl,hN,rfl⟩;refine bo (cz (hN.root.cN (cH zP))) fun o8=>?_
 refine bo (hN.sig.cN (cH zP)).parts.one fun o9=>?_
 refine bo (hN.sig.cN (cH zP)).path.one fun LZ=>?_
 (repeat (refine wA ?_;intros))
 rename_i g6;refine aZ rfl rfl (Ct.at zP (sV _ e gr n _ zo)) ?_;rintro _ _ ⟨rfl,rfl⟩;refine wB ?_;refine aZ rfl rfl (Ct.at zP (sV _ e gr m _ zo)) ?_;rintro _ _ ⟨rfl,rfl⟩
 (repeat (refine wA ?_;intros))
 rename_i g8;refine aZ rfl rfl (Ct.at zP (uA _ e gr _ _)) ?_;rintro _ _ ⟨rfl,rfl⟩;rw [← pY (n:=path.length) zo];refine wB ?_;refine br (ι:=Nat × List dX × Option Addr × Nat) (fun j=>[(2,pt g2),(3,pt g3),(5,pt gr),(6,pt g6),(7,.bool true),(8,pt g8),(9,.int .u8 ((path.length - j.1:Nat):Int))]) (fun j=>Reader gr ⟨(path.drop j.1).flatten,false⟩::cM g8 [.int .i64 (n:Int),.int .i64 (m:Int),.slice j.2.2.1 j.2.1.length j.2.2.2] J7 (0,0)::cU (.slice j.2.2.1 j.2.1.length j.2.2.2) j.2.1::cG j.2.1::cM g6 (dT x ur up uq) qQ (0,0)::N::cM g2 H7 qQ (0,0)::cM g3 [.int .i64 0,.int .i64 0,nY] J7 (0,0)::R) (fun j=>j.1≤path.length∧j.2.1.map (·.2)=path.take j.1) (fun j=>path.length - j.1) (0,[],none,0) ⟨aG _,rfl⟩ zS (cn dC (cn (di dZ 1) zE)) ?_;rintro ⟨j,us,mH,cu⟩ ⟨hj,fZ⟩;dsimp only at hj fZ ⊢
 have HD:us.length=j:=by have:=congrArg List.length fZ;rw [ab,aE] at this;omega
 by_cases cQ:j<path.length
 ·have Xa:=A7 cQ;have Xi:=jD _ (az cQ);have fq:path.take (j+1)=path.take j++[path[j]'cQ]:=aA cQ
  have hle:((path.drop (j+1)).flatten).length≤3000:=by
   have:=fc (l:=path.drop (j+1)) (n:=32) (fun a ha=>jD a (aS ha));rw [this,aP];omega
  rw [Xa]
  generalize path[j]'cQ=y at *
  have EH:=G4 (n:=path.length - j) zo zo;rw [show path.length - j - 1=path.length - (j+1) by omega] at EH
  refine wB ?_;refine aZ rfl rfl (uv _ e gr _) ?_;rintro _ _ ⟨rfl,rfl⟩;refine wB ?_;refine bl (id:=7) [6,7] (cM g8 [.int .i64 (n:Int),.int .i64 (m:Int),.slice mH us.length cu] J7 (0,0)::R) mixed ?_
  (refine tF 0 ?_;refine tL 1 ?_;refine tM 2 ?_)
  refine tO 3 ?_;refine bg rfl rfl (Ct.at zP (xB _ e gr 32 y _ Xi (by simp only [aa];omega))) ?_;rintro _ _ ⟨pZ,cx,rfl,rfl⟩;refine ⟨fun _=>zE,?_⟩;refine tO 4 ?_;refine bF (n:=1) (cs:=[.slice pZ y.length cx]) rfl rfl rfl rfl zQ rfl (fun gb=>⟨fun _=>zE,?_⟩);refine tO 5 ?_;refine bm rfl rfl rfl (show cT _ (cU (.slice mH us.length cu) us) _ from zP) (bQ (n:=1) (c:=1) zP rfl zl) rfl rfl zO zm zo fun dW k1 _=>⟨fun _=>zE,?_⟩
  refine tO 6 ?_;refine dV (bb rfl) ?_;refine tO 7 ?_;refine tZ ?_;refine ⟨zN,?_⟩;refine bf zK ?_;refine wB ?_;rw [EH];refine bi (j+1,us++[(.slice pZ y.length cx,y)],dW,k1) ⟨cQ,by dsimp only;rw [fq,ah,fZ];rfl⟩ zd zS ?_;simp only [cU,aa,aj,ah,List.map_cons,List.map_nil];exact cn (cn (show cC _ (cR (.slice pZ y.length cx) y::cG us::dJ dZ 1 (.slice dW (us.length+1) k1) (us.length+1) (us.map (·.1)++[.slice pZ y.length cx])::Reader gr ⟨(path.drop (j+1)).flatten,false⟩::cM g8 [.int .i64 (n:Int),.int .i64 (m:Int),.slice dW (us.length+1) k1] J7 (0,0)::cM g6 (dT x ur up uq) qQ (0,0)::N::cM g2 H7 qQ (0,0)::cM g3 [.int .i64 0,.int .i64 0,nY] J7 (0,0)::R) from zE) jp) zE
 rw [aF zo] at fZ
 rw [List.drop_eq_nil_of_le zo,List.flatten_nil,show path.length - j=0 by omega];refine wB ?_;refine bl (id:=8) [9] (cM g8 [.int .i64 (n:Int),.int .i64 (m:Int),.slice mH us.length cu] J7 (0,0)::cM g6 (dT x ur up uq) qQ (0,0)::R) mixed ?_
 (refine tJ 0 ?_;refine tJ 1 ?_;refine tM 2 ?_;refine tM 3 ?_;refine du 4 _ rfl (bw rfl) ?_)
 refine A.pi 5 rfl rfl zK ?_;refine bg rfl rfl (xC _ e gr []) ?_;rintro _ _ ⟨rfl,rfl⟩;rw [ay rfl];refine ⟨fun _=>zE,?_⟩
 (refine tk 6 _ rfl (bM rfl rfl) ?_)
 refine tO 7 ?_;refine zg ?_;refine ⟨fun _=>zE,?_⟩;refine tO 8 ?_;refine zg ?_;refine ⟨fun _=>zE,?_⟩
 ((refine tO 9 ?_;refine dV (bj rfl) ?_))
 refine bf zK ?_;obtain ⟨M,hM⟩:∃ M:cK,M=dI [N,cU (.slice mH us.length cu) us,cG us]:=⟨_,rfl⟩
 have ho:cC [M] [N,cU (.slice mH us.length cu) us,cG us]:=by rw [hM];exact cW (M:=[_,_,_]) (L:=[])
 refine wB ?_;apply bB
 ·exact zV
 refine ⟨M::R,?_,M,ur,up,uq,mH,cu,us,rfl,fZ,(hN.cN (cH .zero)).cN ho,(ba (.succ .zero)).cN ho,fun y hy=>(dE.ea (.succ (.succ .zero)) y hy).cN ho,rfl⟩;rw [hM];exact cn (qE (A:=N) (B:=cU (.slice mH us.length cu) us) (C:=cG us) zP zP zP) zE
theorem ql {l:List dA} {n:Nat} (hl:l.length≤256):(iS (l.map cZ) n).length≤16∧∀ a∈iS (l.map cZ) n,a.length=32:=by
 have jD:∀ a∈l.map cZ,a.length=32:=fun a ha=>by
  obtain ⟨y,-,rfl⟩:=aD.1 ha;exact de _ _
 unfold iS
 split
 ·rename_i h;refine ⟨?_,AS _ n _ true rfl jD⟩;rw [lr _ n _ true rfl zo zo];have:=nR 8 (l.map cZ).length n true (by rw [ab];omega)
  omega
 ·exact ⟨by simp,fun a ha=>by cases ha⟩
def Oh (cI:List dA) (x:jU) (r:Nat × Nat):gh:=.ask r.1 x r.2 x.dd.size (iS ((cI.take x.dd.size).map cZ) r.2)
def ma (cI:List dA) (x:jU):List (Nat × Nat)→List gh→List gh
 | [],ei=>ei
 | r::l,ei=>ma cI x l (if ei.length<32 then ei++[Oh cI x r] else ei)
theorem Bd (cI:List dA) (x:jU) (r:Nat × Nat):∀ (l:List (Nat × Nat)) (ei:List gh),ma cI x (l++[r]) ei=if (ma cI x l ei).length<32 then ma cI x l ei++[Oh cI x r] else ma cI x l ei
 | [],ei=>rfl
 | y::l,ei=>by
  rw [List.cons_append]
  show ma cI x (l++[r]) _=_
  rw [Bd cI x r l];rfl
theorem tI (cI:List dA) (x:jU):∀ (l:List (Nat × Nat)) (ei:List gh),ei.length≤32→(ma cI x l ei).length≤32∧ei.length≤(ma cI x l ei).length
 | [],ei,h=>⟨h,aT _⟩
 | r::l,ei,h=>by
  unfold ma
  split
  ·rename_i h1;obtain ⟨h2,h3⟩:=tI cI x l (ei++[Oh cI x r]) (by rw [aa];exact h1);refine ⟨h2,?_⟩;rw [aa] at h3
   omega
  ·exact tI cI x l ei h
theorem Ig {c:dx} {cI:List dA} {x:jU} (hx:yU cI x) (h0:0<cI.length):∀ (l:List (Nat × Nat)) (ei:List gh),(∀ y∈ei,y.ok c cI)→(∀ r∈l,r.1<c.k∧r.2≤x.dd.size)→∀ y∈ma cI x l ei,y.ok c cI
 | [],ei,h,_=>h
 | r::l,ei,h,hl=>by
  unfold ma;refine Ig hx h0 l _ ?_ fun q hq=>hl q (aU _ hq)
  split
  ·intro y hy;rcases aJ.1 hy with hy|hy
   ·exact h y hy
   ·rw [an.1 hy];have hr:=hl r (List.mem_cons_self ..);exact ⟨h0,hr.1,hx,rfl,hr.2,rfl⟩
  ·exact h
def dh.yG (c:dx) (s:dh):dh:={ s with fd:=s.fd.kB c.retry s.time,n:=s.n+c.k,ei:=ma s.ls.cI s.fd.dY (s.fd.kW s.time) s.ei }
def dh.QP (c:dx) (s:dh):Nat:=(s.yG c).ei.length - s.ei.length
theorem Ih {k n now:Nat} {s:cS} (h:s.ok k n):∀ r∈s.kW now,r.1<k∧r.2≤s.dY.dd.size:=fun r hr=>by
 unfold cS.kW at hr
 obtain ⟨w,hw,rfl⟩:=aD.1 hr;obtain ⟨h1,-⟩:=qH now s.ag.length s.ag;have hm:=h1.mem_iff.1 (List.mem_append_left _ hw);obtain ⟨x,hx,rfl⟩:=aD.1 hm;have hk:=(h.fits x hx).2;refine ⟨hk,?_⟩;dsimp only;exact h.kI _ (qb (by rw [h.len];exact hk))
theorem yH {k n now:Nat} {s:cS} (h:s.ag=[]):s.kW now=[]:=by
 unfold cS.kW;rw [h];rfl
theorem yI (retry now:Nat) (s:cS):(s.kB retry now).cur=s.cur∧(s.kB retry now).kept=s.kept∧(s.kB retry now).done=s.done∧(s.kB retry now).dm=s.dm:=by
 unfold cS.kB;obtain ⟨h1,h2,h3,h4,-⟩:=r9 retry now (s.kW now) { s with ag:=(nr now s.ag.length s.ag).2 };exact ⟨h1,h2,h3,h4⟩
theorem CK {s t:cS} (h:s.cur=t.cur):s.dY=t.dY:=by unfold cS.dY;rw [h]
theorem dh.Ml {c:dx} {m:Nat} {s:dh} (h:s.ok c m) (hm:m<250):(s.yG c).ok c (m+1):=by
 obtain ⟨q1,q2,q3,q4⟩:=yI c.retry s.time s.fd;have ht:=h.time;have hn:=h.nb;have hk:=h.Cc.k;have hr:=h.Cc.retry
 exact { h.next hm with
  fd:=cS.LX h.fd hr.2 zo zo zo
  nb:=by show s.n+c.k≤_;omega
  cur:=fun x hx=>h.cur x (by rw [← q1];exact hx)
  idle:=fun hx=>by
   have hx:s.fd.cur=none:=by rw [← q1];exact hx
   have ha:=h.idle hx
   show cS.ag (s.fd.kB c.retry s.time)=[]
   unfold cS.kB;rw [yH (k:=c.k) (n:=s.n) ha,ha]
   rfl
  kept:=fun g hg=>by
   show g.hJ _ (cS.dY (s.fd.kB c.retry s.time)).dd
   rw [CK q1];exact h.kept g (by rw [← q2];exact hg)
  done:=fun hx=>by
   show yU _ (cS.done (s.fd.kB c.retry s.time))∧0<(cS.done (s.fd.kB c.retry s.time)).dd.size∧sZ _ (cS.done (s.fd.kB c.retry s.time)).dd (cS.dm (s.fd.kB c.retry s.time))
   rw [q3,q4];exact h.done (by rw [← q4];exact hx)
  ei:=fun x hx=>by
   cases hc:s.fd.cur with
   | none =>
    have ha:=h.idle hc;have hx:x∈ma s.ls.cI s.fd.dY (s.fd.kW s.time) s.ei:=hx;rw [yH (k:=c.k) (n:=s.n) ha] at hx
    exact h.ei x hx
   | some y =>
    have hy:=h.cur y hc;have hv:s.fd.dY=y:=by unfold cS.dY;rw [hc];rfl
    refine Ig (x:=s.fd.dY) (by rw [hv];exact hy.1) (by have:=hy.1.2.2.1;omega) _ s.ei h.ei (Ih h.fd) x hx
  room:=(tI _ _ _ _ h.room).1 }
abbrev wk (i:Nat) (x:WX) (s:eX):cK:=nT x.g x.d x.k i (cV (i+1)) eL s
def qm:Nat→Nat→List WX→List eX→List cK
 | i,0,_::xs,_::ss=>mO (i+1) xs ss
 | i,j+1,x::xs,s::ss=>wk i x s::qm (i+1) j xs ss
 | _,_,_,_=>[]
theorem uS:∀ (i j:Nat) (xs:List WX) (ss:List eX) (x:WX) (s:eX),xs[j]?=some x→ss[j]?=some s→cT (mO i xs ss) (wk (i+j) x s) (qm i j xs ss)
 | i,0,y::xs,t::ss,x,s,h1,h2=>by
  simp only [List.getElem?_cons_zero,Option.some.injEq] at h1 h2
  subst h1 h2;exact .zero
 | i,j+1,y::xs,t::ss,x,s,h1,h2=>by
  simp only [List.getElem?_cons_succ] at h1 h2
  have:=uS (i+1) j xs ss x s h1 h2;rw [show i+1+j=i+(j+1) by omega] at this
  exact .succ this
 | _,_,[],_,_,_,h1,_=>by simp at h1
 | _,_,_::_,[],_,_,_,h2=>by simp at h2
theorem Be (x:WX) (s:eX):∀ (i j:Nat) (xs:List WX) (ss:List eX),qm i j (xs.set j x) (ss.set j s)=qm i j xs ss
 | i,0,[],[]=>rfl
 | i,0,[],_::_=>rfl
 | i,0,_::_,[]=>rfl
 | i,0,y::xs,t::ss=>rfl
 | i,j+1,[],[]=>rfl
 | i,j+1,[],_::_=>rfl
 | i,j+1,_::_,[]=>rfl
 | i,j+1,y::xs,t::ss=>by
  simp only [List.set_cons_succ,qm];rw [Be x s (i+1) j xs ss]
theorem tK {α:Type}:∀ (l:List α) (j:Nat) (x:α),l[j]?=some x→l.set j x=l
 | [],j,x,h=>by simp at h
 | y::l,0,x,h=>by simp only [List.getElem?_cons_zero,Option.some.injEq] at h;rw [h];rfl
 | y::l,j+1,x,h=>by simp only [List.getElem?_cons_succ] at h;rw [List.set_cons_succ,tK l j x h]
theorem EP {M N R:List cK} {A:cK} (p:cT M A N):cT (M++R) A (N++R):=by
 induction p with
 | zero=>exact .zero
 | succ _ ih=>exact .succ ih
theorem Mn {M N R:List cK} {A:cK} (p:cT M A N):cC (dI M::R) (A::dI N::R) :=
 cn cW (cn (EP p).out (bh dN))
theorem all_push {M N R:List cK} {A:cK} (p:cT M A N):cC (A::dI N::R) (dI M::R) :=
 cn (bh cW) (cn (EP p).back dN)
theorem Mo {j:Nat} {xs:List WX} {ss:List eX} {x:WX} {s:eX} {R:List cK} (h1:xs[j]?=some x) (h2:ss[j]?=some s):cC (dI (mO 0 xs ss)::R) (wk j x s::dI (qm 0 j xs ss)::R):=by
 have:=uS 0 j xs ss x s h1 h2;rw [aC] at this
 exact Mn this
theorem Ii {j:Nat} {xs:List WX} {ss:List eX} {x:WX} {s:eX} {R:List cK} (h1:j<xs.length) (h2:j<ss.length):cC (wk j x s::dI (qm 0 j xs ss)::R) (dI (mO 0 (xs.set j x) (ss.set j s))::R):=by
 have:=uS 0 j (xs.set j x) (ss.set j s) x s (by rw [List.getElem?_set_self h1]) (by rw [List.getElem?_set_self h2]);rw [aC,Be] at this
 exact all_push this
def TQ:eX:=⟨[],0,ig,false⟩
def eX.Mq (w:eX) (x:iM) (n:Nat):Int:=if x.size<w.c.size then 32 else if x.size=w.c.size then 0 else if n=w.c.size then 0 else 31
theorem Ij (c:iM):c=⟨c.size,c.root⟩:=rfl
theorem ly.same {l:List dA} {c d:iM} (h1:ly l c) (h2:ly l d) (h:c.size=d.size):c=d:=by
 rw [Ij c,Ij d,h1.2,h2.2,h]
theorem ly.empty (l:List dA):ly l Qn:=⟨aG _,by
 show rB []=dR ((l.take 0).map cZ)
 rw [List.take_zero];exact j0.symm⟩
theorem J8 {l:List dA} {w:eX} {x:iM} {n:Nat} {ts:List dX} (h1:ly l w.c) (h2:ly l x) (hl:l.length≤256) (hn:n≤x.size) (ht:ts.map (·.2)=iS ((l.take x.size).map cZ) n):w.jq x n x.size ts=w.Mq x n:=by
 unfold eX.jq eX.Mq
 split
 ·rfl
 rename_i h3
 split
 ·rename_i h4;rw [aH (h2.same h1 h4)]
 ·rename_i h4
  by_cases h5:n=w.c.size
  ·rw [aH h5,aH];refine ⟨h5,rfl,?_⟩;have hle:x.size≤l.length:=h2.1;have hg:=wG (ts:=(l.take x.size).map fun b=>((nY:Value),cZ b)) (out:=ts) (m:=n) (by rw [List.map_map];exact ht) (by rw [ab,aE];omega) (fun a ha=>by obtain ⟨y,-,rfl⟩:=aD.1 ha;exact de _ _) (by rw [ab,aE];omega);rw [ab,aE,Nat.min_eq_left hle] at hg
   rw [h1.2,h2.2]
   have e1:(((l.take x.size).map fun b=>((nY:Value),cZ b)).take n).map (·.2)=(l.take w.c.size).map cZ:=by
    rw [← List.map_take,List.map_map,List.take_take,Nat.min_eq_left hn,h5];rfl
   have e2:((l.take x.size).map fun b=>((nY:Value),cZ b)).map (·.2)=(l.take x.size).map cZ:=by rw [List.map_map];rfl
   rw [e1,e2] at hg
   exact hg
  ·rw [aB h5,aB (fun q=>h5 q.1)]
def dh.gy (s:dh) (j:Nat):eX:=s.ws.getD j TQ
def dh.wm (s:dh) (j:Nat) (x:iM) (n:Nat):Int:=if (s.gy j).Mq x n≠0 then (s.gy j).Mq x n else if (((s.gy j).grow x).cos (cV (j+1)) j).2=true then 0 else 23
def dh.iW (s:dh) (j:Nat) (x:iM) (n:Nat):eX:=if (s.gy j).Mq x n≠0 then s.gy j else (((s.gy j).grow x).cos (cV (j+1)) j).1
def dh.Oi (s:dh) (j:Nat) (x:iM) (n:Nat):gh:=if s.wm j x n=0 then .iX j (s.iW j x n).dO else .no j (s.iW j x n).c.size
def dh.send (s:dh) (x:gh):dh:={ s with ei:=if s.ei.length<32 then s.ei++[x] else s.ei }
def dh.asked (s:dh) (j:Nat) (x:iM) (n:Nat):dh:={ s with ws:=s.ws.set j (s.iW j x n) }.send (s.Oi j x n)
theorem Mr {s:dh} {j n:Nat} {x:jU} {ts:List dX} (h:yU s.ls.cI x) (h1:ly s.ls.cI (s.gy j).c) (hl:s.ls.cI.length≤256) (hn:n≤x.dd.size) (ht:ts.map (·.2)=iS ((s.ls.cI.take x.dd.size).map cZ) n) :
 (s.gy j).yn (cV (j+1)) eL j x n x.dd.size ts=s.wm j x.dd n∧(s.gy j).wc (cV (j+1)) eL j x n x.dd.size ts=s.iW j x.dd n:=by
 unfold eX.yn eX.wc dh.wm dh.iW;rw [J8 h1 h.2.2 hl hn ht,aB (show ¬ ¬ x.hJ eL from fun q=>q h.1)];exact ⟨rfl,aB (fun q=>q h.1)⟩
theorem TR (seed:dA) (j:Nat) (w:eX):((w.cos seed j).1).c=w.c∧((w.cos seed j).1).recs=w.recs:=by
 unfold eX.cos
 split
 ·exact ⟨rfl,rfl⟩
 ·split<;>exact ⟨rfl,rfl⟩
theorem QQ {seed:dA} {j:Nat} {w:eX} (h:w.ok):((w.cos seed j).1).ok:=by
 unfold eX.cos
 split
 ·exact h
 ·split
  ·rename_i hk;exact { h with keys:=hk,fits:=(jh hk).fits }
  ·exact h
theorem Oj {seed:dA} {j:Nat} {w:eX} (h:w.some=true→w.dO.gy=j∧w.dO.sig.right) (h2:((w.cos seed j).1).some=true):((w.cos seed j).1).dO.gy=j∧((w.cos seed j).1).dO.sig.right:=by
 revert h2
 unfold eX.cos
 split
 ·exact h
 ·split
  ·rename_i hk;exact fun _=>⟨rfl,jh hk⟩
  ·exact h
theorem Ms {seed:dA} {j:Nat} {w:eX} (h:(w.cos seed j).2=true):((w.cos seed j).1).some=true:=by
 revert h
 unfold eX.cos
 split
 ·rename_i h1;exact fun _=>h1
 ·split
  ·exact fun _=>rfl
  ·intro h;cases h
theorem Mt (w:eX) (c:iM):(w.grow c).recs.length≤w.recs.length+1:=by
 unfold eX.grow
 split
 ·show (w.recs++[c]).length≤_;rw [aa];exact aT _
 ·exact Nat.le_succ _
theorem Mu {l:List dA} {w:eX} {x:iM} (h1:ly l w.c) (h2:ly l x):ly l (w.grow x).c:=by
 unfold eX.grow
 split
 ·rw [eX.LQ];exact h2
 ·exact h1
theorem Ok {l:List eX} {j:Nat} (h:j<l.length):l[j]?=some (l.getD j TQ):=by
 rw [List.getD,ae h];rfl
theorem dh.ok.gy {c:dx} {m:Nat} {s:dh} (h:s.ok c m) {j:Nat} (hj:j<c.k):(s.gy j).ok∧(s.gy j).recs.length≤m∧ly s.ls.cI (s.gy j).c∧((s.gy j).some=true→(s.gy j).dO.gy=j∧(s.gy j).dO.sig.right)∧s.ws[j]?=Option.some (s.gy j):=by
 have hg:=Ok (l:=s.ws) (j:=j) (by rw [h.wl];exact hj);have hm:=ax hg;exact ⟨(h.ws _ hm).1,(h.ws _ hm).2.1,(h.ws _ hm).2.2,h.iX j _ hg,hg⟩
theorem Ik {c:dx} {m:Nat} {s:dh} (h:s.ok c m) {j:Nat} (hj:j<c.k) {x:jU} {n:Nat} (hx:yU s.ls.cI x):(s.iW j x.dd n).ok∧(s.iW j x.dd n).recs.length≤m+1∧ly s.ls.cI (s.iW j x.dd n).c∧((s.iW j x.dd n).some=true→(s.iW j x.dd n).dO.gy=j∧(s.iW j x.dd n).dO.sig.right)∧(s.wm j x.dd n=0→(s.iW j x.dd n).some=true):=by
 obtain ⟨h1,h2,h3,h4,-⟩:=h.gy hj;unfold dh.iW dh.wm
 split
 ·rename_i h5;exact ⟨h1,Nat.le_succ_of_le h2,h3,h4,fun q=>absurd q h5⟩
 ·have hg:=eX.wG h1 hx.1.1;have hl:=Mt (s.gy j) x.dd;obtain ⟨c1,c2⟩:=TR (cV (j+1)) j ((s.gy j).grow x.dd)
  have hy:((s.gy j).grow x.dd).some=true→((s.gy j).grow x.dd).dO.gy=j∧((s.gy j).grow x.dd).dO.sig.right:=by
   unfold eX.grow
   split
   ·intro q;cases q
   ·exact h4
  refine ⟨QQ hg,by rw [c2];omega,by rw [c1];exact Mu h3 hx.2.2,Oj hy,fun q=>?_⟩
  split at q
  ·rename_i h6;exact Ms h6
  ·cases q
theorem dh.Il {c:dx} {m:Nat} {s:dh} {x:gh} (h:s.ok c m) (hx:x.ok c s.ls.cI):(s.send x).ok c m:=by
 unfold dh.send
 exact { h with
  ei:=fun y hy=>by
   have hy:y∈(if s.ei.length<32 then s.ei++[x] else s.ei):=hy
   split at hy
   ·rcases aJ.1 hy with hy|hy
    ·exact h.ei y hy
    ·rw [an.1 hy];exact hx
   ·exact h.ei y hy
  room:=by
   show (if s.ei.length<32 then s.ei++[x] else s.ei).length≤32
   split
   ·rw [aa];simp only [aj];omega
   ·exact h.room }
theorem dh.TS {c:dx} {m:Nat} {s:dh} {j:Nat} {w:eX} (h:s.ok c m) (h1:w.ok) (h2:w.recs.length≤m) (h3:ly s.ls.cI w.c) (h4:w.some=true→w.dO.gy=j∧w.dO.sig.right):dh.ok c m { s with ws:=s.ws.set j w } :=
 {h with
  wl:=by show (s.ws.set j w).length=_;rw [List.length_set];exact h.wl
  ws:=fun y hy=>by
   rcases List.mem_or_eq_of_mem_set hy with hy|rfl
   ·exact h.ws y hy
   ·exact ⟨h1,h2,h3⟩
  iX:=fun i y hy hs=>by
   have hy:(s.ws.set j w)[i]?=some y:=hy
   by_cases R6:j=i
   ·subst R6
    by_cases hl:j<s.ws.length
    ·rw [List.getElem?_set_self hl] at hy;cases hy;exact h4 hs
    ·rw [List.getElem?_eq_none (by rw [List.length_set];omega)] at hy;cases hy
   ·rw [List.getElem?_set_ne R6] at hy
    exact h.iX i y hy hs }
theorem dh.EQ {c:dx} {m:Nat} {s:dh} {j n:Nat} {x:jU} (h:s.ok c m) (hm:m<250) (hj:j<c.k) (hx:yU s.ls.cI x) (h0:0<s.ls.cI.length):(s.asked j x.dd n).ok c (m+1):=by
 obtain ⟨h1,h2,h3,h4,h5⟩:=Ik h hj (n:=n) hx;refine dh.Il (dh.TS (h.next hm) h1 h2 h3 h4) ⟨h0,?_⟩;unfold dh.Oi
 split
 ·rename_i h6;exact ⟨hj,(h4 (h5 h6)).1,(h4 (h5 h6)).2⟩
 ·refine ⟨hj,?_⟩;have:=h3.1;have:=h.short
  omega
abbrev qS (c:dx) (va vl vf pg yJ vu vm vn sh iO vt ve zx zC zD vr zG zH:Value):List Value :=
 [.int .i64 (c.k:Int),.int .i64 (c.eE:Int),.int .i64 (c.room:Int),.int .i64 (c.size:Int),.int .i64 (c.wait:Int),.int .i64 (c.retry:Int),.int .i64 1048576,.string (str jV),
  va,vl,vf,pg,yJ,vu,vm,vn,sh,iO,.int .i64 (c.eE:Int),vt,ve,zx,zC,zD,vr,zG,zH]
abbrev ptr (g:Nat):Value:=pt g
end Go.Proofs
