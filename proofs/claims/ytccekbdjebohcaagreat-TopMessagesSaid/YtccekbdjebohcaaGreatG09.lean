/- Part 9 of a proof of this: TopMessages returns true for any arguments; nothing of the old memory is turned. No condition. -/
import Derived.Test.YtccekbdjebohcaaGreatG08
set_option linter.unusedVariables false
set_option linter.unusedSimpArgs false
namespace Go.Proofs
attribute [local irreducible] Bs.cD Bs.Do Bs.O Bs.W Bs.Fin Bs.A Bs.Ct Bs.cE Bs.Rd Bs.Sat Bs.cK Bs.Ob Bs.dJ Bs.View Bs.cz Bs.Ex Bs.dH Bs.Pu Bs.eY Bs.dM Bs.dZ
open Go.Bs
open Tryz
variable (R:List cJ) (e:World)
theorem H0 {n:Nat} (h0:0<n) (h:n<256):IntKind.u8.wrap ((n:Int) - 1)=((n - 1:Nat):Int):=by
 rw [wrap_u8 zo zo];omega
theorem BM {l:List dv} {i:Nat} (h:i<l.length):(l.drop i).flatten=l[i]'h++(l.drop (i+1)).flatten:=by
 rw [List.drop_eq_getElem_cons h,List.flatten_cons]
theorem Pv {l:List kN} {i:Nat} (h:i<l.length):lI (l.drop i)=eU (l[i]'h)++lI (l.drop (i+1)):=by
 unfold lI;rw [List.drop_eq_getElem_cons h,List.map_cons,List.flatten_cons]
theorem uF (v:Value) (b:wQ) (hv:db R v (fS b)) (hw:b.wf) :
 Ct prog 133 #[v] e R (fun v' L'=>∃ (M:cJ) (um up ur ua uq uc:Value),v'=.tuple #[.agg (sF b um up ur ua uq uc).toArray,.int .i64 0]∧rQ [M] um up ur ua uq uc b∧L'=M::R):=by
 have oP:=pj hw;have Sy:=hw.fi;have h1:=hw.idx;have h2:=hw.size;have h3:=hw.DD;have h4:=hw.fE;have DB:=fc hw.jN;have tI:=iN hw.dc hw.sig;have CC:=rh hw.sigs;have Ks:fS b=enc b.fi++(be b.idx 4++(be b.size 4++(UInt8.ofNat b.path.length::(b.path.flatten++(hO b.kO++(UInt8.ofNat b.eH.length::lI b.eH)))))):=rfl;refine a7 (cn hv) fun o1=>?_
 refine bH (args:=[_]) func133 rfl ntmps133 results133 rfl ?_
 (repeat (refine wA ?_;intros))
 rename_i g2;refine aZ rfl rfl (jw _ e v (fS b) (hv.cL zE) zo) ?_;rintro _ _ ⟨gr,rfl,rfl⟩;rw [Ks];refine wB ?_;have el:=iy b.fi;have TQ:(enc b.fi++(be b.idx 4++(be b.size 4++(UInt8.ofNat b.path.length::(b.path.flatten++(hO b.kO++(UInt8.ofNat b.eH.length::lI b.eH))))))).length≤140737488355328:=by rw [← Ks];omega
 refine aZ rfl rfl (IC _ e gr b.fi _ 65535 Sy zo TQ) ?_;rintro _ _ ⟨LH,cm,rfl,rfl⟩
 (repeat (refine wA ?_;intros))
 rename_i g5;refine aZ rfl rfl (Ct.at zP (tE _ e gr b.idx _ zo)) ?_;rintro _ _ ⟨rfl,rfl⟩;refine wB ?_;refine aZ rfl rfl (Ct.at zP (tE _ e gr b.size _ zo)) ?_;rintro _ _ ⟨rfl,rfl⟩;refine wB ?_;refine aZ rfl rfl (Ct.at zP (vo _ e gr _ _)) ?_;rintro _ _ ⟨rfl,rfl⟩;rw [← qo (n:=b.path.length) zo];refine wB ?_;obtain ⟨tl,oF⟩:∃ tl:dv,tl=hO b.kO++(UInt8.ofNat b.eH.length::lI b.eH):=⟨_,rfl⟩
 have afq:tl.length≤600000:=by rw [oF];simp only [aa,aN,tI,CC];omega
 rw [← oF];refine bq (ι:=Nat × List ej × Option Addr × Nat) (fun j=>[(2,pt g2),(3,.int .i64 0),(4,pt gr),(5,pt g5),(6,.int .u8 ((b.path.length - j.1:Nat):Int))]) (fun j=>Reader gr ⟨(b.path.drop j.1).flatten++tl,false⟩::cK g5 [.slice LH b.fi.length cm,.int .i64 (b.idx:Int),.int .i64 (b.size:Int),.slice j.2.2.1 j.2.1.length j.2.2.2,.int .i64 0,nY,.int .i64 0,nY,nY,nY] rC (0,0)::cU (.slice j.2.2.1 j.2.1.length j.2.2.2) j.2.1::cH j.2.1::cR (.slice LH b.fi.length cm) b.fi::cK g2 pL rC (0,0)::R) (fun j=>j.1≤b.path.length∧j.2.1.map (·.2)=b.path.take j.1) (fun j=>b.path.length - j.1) (0,[],none,0) ⟨aH _,rfl⟩ zS (cj (dL) (cj (du ez 1) zE)) ?_;rintro ⟨j,us,m5,cu⟩ ⟨hj,hJ⟩;dsimp only at hj hJ ⊢
 have LD:us.length=j:=by have:=congrArg List.length hJ;rw [ab,aF] at this;omega
 by_cases cO:j<b.path.length
 ·have hpd:=BM cO;have jN:=hw.jN _ (az cO);have ft:b.path.take (j+1)=b.path.take j++[b.path[j]'cO]:=aD cO
  have hle:((b.path.drop (j+1)).flatten).length≤600:=by
   have:=fc (l:=b.path.drop (j+1)) (n:=32) (fun a ha=>hw.jN a (aV ha));rw [this,aO];omega
  rw [hpd,aM]
  generalize b.path[j]'cO=x at *
  have Fj:=H0 (n:=b.path.length - j) zo zo;rw [show b.path.length - j - 1=b.path.length - (j+1) by omega] at Fj
  refine wB ?_;refine aZ rfl rfl (vi _ e gr _) ?_;rintro _ _ ⟨rfl,rfl⟩;refine wB ?_;refine bk (id:=7) [7,8,9] (cK g5 [.slice LH b.fi.length cm,.int .i64 (b.idx:Int),.int .i64 (b.size:Int),.slice m5 us.length cu,.int .i64 0,nY,.int .i64 0,nY,nY,nY] rC (0,0)::R) mixed ?_
  (refine tF 0 ?_;refine tF 1 ?_;refine tL 2 ?_;refine tM 3 ?_)
  refine tO 4 ?_;refine bg rfl rfl (Ct.at zP (x8 _ e gr 32 x _ jN (by simp only [aa];omega))) ?_;rintro _ _ ⟨qp,cx,rfl,rfl⟩;refine ⟨fun _=>zE,?_⟩;refine tO 5 ?_;refine bE (n:=1) (cs:=[.slice qp x.length cx]) rfl rfl rfl rfl zQ rfl (fun gb=>⟨fun _=>zE,?_⟩);refine tO 6 ?_;refine bo rfl rfl rfl (show cQ _ (cU (.slice m5 us.length cu) us) _ from zP) (bO (n:=1) (c:=1) zP rfl zl) rfl rfl zO zm zo fun ef k1 _=>⟨fun _=>zE,?_⟩
  refine tO 7 ?_;refine dV (ba rfl) ?_;refine tO 8 ?_;refine dV (ba rfl) ?_;refine tO 9 ?_;refine tg ?_;refine ⟨zN,?_⟩;refine bf zK ?_;refine wB ?_;rw [Fj];refine bi (j+1,us++[(.slice qp x.length cx,x)],ef,k1) ⟨cO,by dsimp only;rw [ft,ah,hJ];rfl⟩ zd zS ?_;simp only [cU,aa,aj,ah,List.map_cons,List.map_nil];exact cj (cj (show cz _ (cR (.slice qp x.length cx) x::cH us::dJ ez 1 (.slice ef (us.length+1) k1) (us.length+1) (us.map (·.1)++[.slice qp x.length cx])::Reader gr ⟨(b.path.drop (j+1)).flatten++tl,false⟩::cK g5 [.slice LH b.fi.length cm,.int .i64 (b.idx:Int),.int .i64 (b.size:Int),.slice ef (us.length+1) k1,.int .i64 0,nY,.int .i64 0,nY,nY,nY] rC (0,0)::cR (.slice LH b.fi.length cm) b.fi::cK g2 pL rC (0,0)::R) from zE) jn) zE
 rw [aG zo] at hJ
 rw [List.drop_eq_nil_of_le zo,List.flatten_nil,List.nil_append,show b.path.length - j=0 by omega,oF];refine wB ?_;refine aZ rfl rfl (Bi _ e gr b.kO _ hw.dc hw.sig (by simp only [aN,CC];omega)) ?_;rintro _ _ ⟨N,ur,ua,uq,rfl,hN,rfl⟩;refine bn (cn (hN.root.cL (cG zP))) fun o8=>?_
 refine bn (hN.sig.cL (cG zP)).parts.one fun o9=>?_
 refine bn (hN.sig.cL (cG zP)).path.one fun Nb=>?_
 (repeat (refine wA ?_;intros))
 refine aZ rfl rfl (Ct.at zP (vo _ e gr _ _)) ?_;rintro _ _ ⟨rfl,rfl⟩;rw [← qo (n:=b.eH.length) zo];refine wB ?_;refine bq (ι:=Nat × List jl × cJ × Option Addr × Nat) (fun j=>[(2,pt g2),(3,.int .i64 0),(4,pt gr),(5,pt g5),(8,.bool true),(9,.int .u8 ((b.eH.length - j.1:Nat):Int))]) (fun j=>Reader gr ⟨lI (b.eH.drop j.1),false⟩::cK g5 (sF ⟨b.fi,b.idx,b.size,b.path,b.kO,[]⟩ (.slice LH b.fi.length cm) (.slice m5 us.length cu) ur ua uq (.slice j.2.2.2.1 j.2.1.length j.2.2.2.2)) rC (0,0)::fT (.slice j.2.2.2.1 j.2.1.length j.2.2.2.2) j.2.1::j.2.2.1::N::cU (.slice m5 us.length cu) us::cH us::cR (.slice LH b.fi.length cm) b.fi::cK g2 pL rC (0,0)::R) (fun j=>j.1≤b.eH.length∧j.2.1.map (·.1)=b.eH.take j.1∧∀ t∈j.2.1,jl.ok [j.2.2.1] t) (fun j=>b.eH.length - j.1) (0,[],cH [],none,0) ⟨aH _,rfl,fun t ht=>by cases ht⟩ zS (cj (dL) (cj (du nE 4) zE)) ?_;rintro ⟨k,gs,Mx,DE,cg⟩ ⟨hk,vK,J6⟩;dsimp only at hk vK J6 ⊢
 have VX:gs.length=k:=by have:=congrArg List.length vK;rw [ab,aF] at this;omega
 by_cases lz:k<b.eH.length
 ·have th:=Pv lz;have hgw:=hw.ew _ (az lz);have Sm:=hw.sigs _ (az lz);have ft:b.eH.take (k+1)=b.eH.take k++[b.eH[k]'lz]:=aD lz
  have hle:(lI (b.eH.drop (k+1))).length≤600000:=by
   rw [rh (fun g hg=>hw.sigs g (aV hg)),aO];omega
  rw [th]
  generalize b.eH[k]'lz=x at *
  have Fj:=H0 (n:=b.eH.length - k) zo zo;rw [show b.eH.length - k - 1=b.eH.length - (k+1) by omega] at Fj
  (repeat (refine wA ?_;intros))
  refine aZ rfl rfl (Ct.at zP (Bl _ e gr x _ hgw Sm zo)) ?_;rintro _ _ ⟨N2,wp,wq,rfl,nk,rfl⟩;refine bn (nk.cL (cG zP)).parts.one fun o13=>?_
  refine bn (nk.cL (cG zP)).path.one fun o14=>?_
  (repeat (refine wA ?_;intros))
  refine bC (bo rfl rfl rfl (show cQ _ (fT (.slice DE gs.length cg) gs) _ from zP) (bO (n:=4) (c:=1) zP rfl zl) rfl rfl zO zm zo fun ef k1 _=>?_)
  refine wB ?_;rw [Fj];have eT:cz [dH [Mx,N2]] [Mx]:=cj (cT (M:=[_,_]) (L:=[])) (bh bF);have iH:cz [dH [Mx,N2]] [N2]:=cj (cT (M:=[_,_]) (L:=[])) (cz.drop (bh bF));refine bi (k+1,gs++[(x,wp,wq)],dH [Mx,N2],ef,k1) ⟨lz,by dsimp only;rw [ft,ah,vK];rfl,fun t ht=>?_⟩ zd zS ?_
  ·rcases aJ.1 ht with ht|ht
   ·exact (J6 t ht).cL eT
   ·rw [an.1 ht];exact ⟨nk.cL iH,by dsimp only;omega⟩
  ·simp only [fT,aa,aj,aW,aU,List.flatMap_nil,aK];exact cj (ep (A:=Mx) (B:=N2) zP zP) zE
 rw [aG zo] at vK
 rw [List.drop_eq_nil_of_le zo,show b.eH.length - k=0 by omega,show lI []=[] from rfl];obtain ⟨M,hM⟩:∃ M:cJ,M=dH [cR (.slice LH b.fi.length cm) b.fi,cU (.slice m5 us.length cu) us,cH us,N,fT (.slice DE gs.length cg) gs,Mx]:=⟨_,rfl⟩
 have ho:cz [M] [cR (.slice LH b.fi.length cm) b.fi,cU (.slice m5 us.length cu) us,cH us,N,fT (.slice DE gs.length cg) gs,Mx]:=by rw [hM];exact cT (M:=[_,_,_,_,_,_]) (L:=[])
 have tK:rQ [M] (.slice LH b.fi.length cm) (.slice m5 us.length cu) ur ua uq (.slice DE gs.length cg) b :=
  ⟨(bb .zero).cL ho,mL.cL ⟨us,hJ,bb (.succ .zero),dP.dY (.succ (.succ .zero))⟩ ho,(hN.cL (cG zP)).cL ho,oW.cL ⟨gs,vK,bb zP,fun t ht=>(J6 t ht).cL (cG zP)⟩ ho⟩
 have OW:jG us=true:=by
  unfold jG;rw [decide_eq_true_iff];refine ⟨by omega,fun a ha=>hw.jN _ ?_⟩;rw [← hJ];exact aE.2 ⟨a,ha,rfl⟩
 refine wB ?_;refine aZ rfl rfl (x9 _ e gr []) ?_;rintro _ _ ⟨rfl,rfl⟩;rw [ay rfl];refine wB ?_;refine aZ rfl rfl (mh _ e b.idx) ?_;rintro _ _ ⟨rfl,rfl⟩;rw [ay h1];refine wB ?_;refine aZ rfl rfl (mh _ e b.size) ?_;rintro _ _ ⟨rfl,rfl⟩;rw [ay h2];refine wB ?_;refine aZ rfl rfl (nd _ e (.slice m5 us.length cu) us (bb zP) (dP.dY (show cQ _ (cH us) _ from zP))) ?_;rintro _ _ ⟨rfl,rfl⟩;rw [OW];refine wB ?_;apply br
 ·exact zV
 refine ⟨M::R,cj (show cz _ (cR (.slice LH b.fi.length cm) b.fi::cU (.slice m5 us.length cu) us::cH us::N::fT (.slice DE gs.length cg) gs::Mx::R) from zE) (by rw [hM];exact Nd),M,.slice LH b.fi.length cm,.slice m5 us.length cu,ur,ua,uq,.slice DE gs.length cg,rfl,tK,rfl⟩
structure m2 where
 recs:List dv
def abg:Dz:=⟨[],0,[],[]⟩
def C5 (l:List dv):Dz:=match l.getLast? with|some b=>dB b|none=>abg
def m2.m (s:m2):Dz:=C5 s.recs
theorem BN (l:List dv) (b:dv):C5 (l++[b])=dB b:=by simp [C5]
structure m2.ok (s:m2) (name:dv):Prop where
 size:s.recs.length≤1000
 short:∀ b∈s.recs,b.length≤200
 n9:∀ b∈s.recs,ji b
 name:∀ b∈s.recs,(dB b).name=name
 At:((s.recs.map fun b=>(dB b).ii)).Pairwise (·<·)
abbrev SH:TypeId:=173
structure vM where
 gj:Nat
 vl:Value
 vw:Value
 vf:Value
 vn:Value
structure vM.ok (a:vM) (M:cJ) (name:dv) (p:jH) (s:m2):Prop where
 wU:j7 [M] a.vl a.vw p
 fw:db [M] a.vf s.m.fw
 notes:db [M] a.vn s.m.notes
 st:s.ok name
 pr:p.right
abbrev vM.cells (a:vM) (name:dv) (p:jH) (s:m2):List Value:=[pt a.gj,.string (str name)]++lE p a.vl a.vw++tR s.m a.vf a.vn++[.int .i64 (s.recs.length:Int)]
abbrev qG (g d:Nat) (name:dv) (p:jH) (s:m2) (a:vM) (M:cJ) (R:List cJ):List cJ :=
 cK g (a.cells name p s) SH (0,0)::M::jd a.gj d s.recs.length::de d (dx (eV s.recs))::R
def Ni (g d:Nat) (name:dv) (p:jH) (s:m2) (a:vM) (M:cJ):cJ:=dH (Pu (a.ok M name p s)::qG g d name p s a M [])
def ke (g d:Nat) (name:dv) (p:jH) (s:m2):cJ:=Ex fun a=>Ex fun M=>Ni g d name p s a M
theorem I4 {g d:Nat} {name:dv} {p:jH} {s:m2} {R:List cJ} {P:Program} {f:FuncId} {args:Array Value} {e:World} {Post:Value→List cJ→Prop}
 (h:∀ (a:vM) (M:cJ),a.ok M name p s→Ct P f args e (qG g d name p s a M R) Post):Ct P f args e (ke g d name p s::R) Post :=
 Ct.ex .zero fun a=>Ct.ex .zero fun M=>Ct.cL (a7 (p:=a.ok M name p s) (fun w x=>(jQ x).1) fun hp=>(h a M hp).cL (cz.drop aX)) (cT (M:=Pu (a.ok M name p s)::qG g d name p s a M []) (L:=R))
theorem vO {g d:Nat} {name:dv} {p:jH} {s:m2} {a:vM} {M:cJ} {R:List cJ} (h:a.ok M name p s):cz (qG g d name p s a M R) (ke g d name p s::R) :=
 cj (m7 h) (cj (dQ (M:=Pu (a.ok M name p s)::qG g d name p s a M []) (L:=R)) (cj (fu (f:=fun M=>Ni g d name p s a M) M) (fu (f:=fun a=>Ex fun M=>Ni g d name p s a M) a)))
theorem rS (g d:Nat) (name:dv) (p:jH) (s:m2) :
 Ct prog 29 #[pt g] e (ke g d name p s::R) (fun v' L'=>v'=.int .u32 (s.m.ii:Int)∧L'=ke g d name p s::R):=by
 refine I4 fun a M ha=>?_
 refine a8 (args:=[_]) func29 rfl ntmps29 results29 rfl ?_;refine wB ?_;exact aY (ke g d name p s::R) rfl (vO ha) ⟨rfl,rfl⟩
def m2.kg (name:dv) (p:jH) (s:m2) (b:wQ):Int:=if lQ p b≠0 then lQ p b else if (dB b.fi).name≠name then 22 else if (dB b.fi).ii≤s.m.ii then 32 else 0
def m2.ie (name:dv) (p:jH) (s:m2) (b:wQ):m2:=if s.kg name p b=0 then ⟨s.recs++[b.fi]⟩ else s
theorem I5 {p:jH} {b:wQ} (h:lQ p b=0):ji b.fi:=by
 unfold lQ at h
 by_cases hm:ji b.fi
 ·exact hm
 ·rw [aI hm] at h;cases h
theorem m2.xE {name:dv} {p:jH} {s:m2} {b:wQ} (h:s.ok name) (hb:b.fi.length≤200) (hs:s.recs.length<1000) (h0:s.kg name p b=0):m2.ok ⟨s.recs++[b.fi]⟩ name:=by
 have hc:lQ p b=0:=by
  unfold m2.kg at h0
  by_cases hc:lQ p b≠0
  ·rw [aI hc] at h0;exact absurd h0 hc
  ·exact Decidable.not_not.1 hc
 unfold m2.kg at h0
 rw [aB (fun q=>q hc)] at h0
 by_cases hn:(dB b.fi).name≠name
 ·rw [aI hn] at h0;cases h0
 rw [aB hn] at h0
 by_cases hv:(dB b.fi).ii≤s.m.ii
 ·rw [aI hv] at h0;cases h0
 refine ⟨by simp;omega,fun x hx=>?_,fun x hx=>?_,fun x hx=>?_,?_⟩
 ·rcases aJ.1 hx with hx|hx
  ·exact h.short x hx
  ·rw [an.1 hx];exact hb
 ·rcases aJ.1 hx with hx|hx
  ·exact h.n9 x hx
  ·rw [an.1 hx];exact I5 hc
 ·rcases aJ.1 hx with hx|hx
  ·exact h.name x hx
  ·rw [an.1 hx];exact Decidable.not_not.1 hn
 ·rw [ah];refine List.pairwise_append.2 ⟨h.At,by simp,fun x hx y hy=>?_⟩;obtain ⟨z,hz,rfl⟩:=aE.1 hx;rw [List.map_cons,List.map_nil,an] at hy
  subst hy;refine Nat.lt_of_le_of_lt ?_ (Nat.lt_of_not_le hv);unfold m2.m C5
  cases hl:s.recs.getLast? with
  | none=>rw [List.getLast?_eq_none_iff] at hl;rw [hl] at hz;cases hz
  | some q =>
   obtain ⟨A,hA⟩:=List.getLast?_eq_some_iff.1 hl;have hr:=h.At;rw [hA,ah] at hr
   rw [hA] at hz
   rcases aJ.1 hz with hz|hz
   ·exact Nat.le_of_lt ((List.pairwise_append.1 hr).2.2 _ (aE.2 ⟨z,hz,rfl⟩) _ (aE.2 ⟨q,an.2 rfl,rfl⟩))
   ·rw [an.1 hz];exact aS _
theorem Fk (g d:Nat) (name:dv) (p:jH) (s:m2) (v:Value) (b:wQ) (hv:db R v (fS b)) (hw:b.wf) (O0:b.fi.length≤200) (hs:s.recs.length<1000) :
 Ct prog 52 #[pt g,v] e (ke g d name p s::R) (fun v' L'=>v'=.int .i64 (s.kg name p b)∧L'=ke g d name p (s.ie name p b)::R):=by
 refine I4 fun a M ha=>?_
 refine a7 (cn (hv.cL (show cz (qG g d name p s a M R) R from zE))) fun o1=>?_
 refine a7 (cn (ha.wU.log.cL (show cz (qG g d name p s a M R) [M] from cG zP))) fun o2=>?_
 refine a7 (ha.wU.ew.cL (show cz (qG g d name p s a M R) [M] from cG zP)).one fun o3=>?_
 refine a7 (cn (ha.fw.cL (show cz (qG g d name p s a M R) [M] from cG zP))) fun o4=>?_
 refine a7 (cn (ha.notes.cL (show cz (qG g d name p s a M R) [M] from cG zP))) fun o5=>?_
 refine a8 (args:=[_,_]) func52 rfl ntmps52 results52 rfl ?_;refine wB ?_;refine aZ rfl rfl (uF _ e v b (hv.cL zE) hw) ?_;rintro _ _ ⟨N,um,up,ur,ua,uq,uc,rfl,hN,rfl⟩;refine bn (cn (hN.fi.cL (cG zP))) fun q1=>?_
 refine bn (hN.path.cL (cG zP)).one fun q2=>?_
 refine bn (cn (hN.kO.root.cL (cG zP))) fun q3=>?_
 refine bn (hN.kO.sig.cL (cG zP)).parts.one fun q4=>?_
 refine bn (hN.kO.sig.cL (cG zP)).path.one fun q5=>?_
 refine bn (hN.gs.cL (cG zP)).one fun q6=>?_
 (repeat (refine wA ?_;intros))
 rename_i g5;refine bk (id:=4) [6] (cK g5 (sF b um up ur ua uq uc) rC (0,0)::N::qG g d name p s a M R) mixed ?_
 (refine tM 0 ?_;refine tN 1 ?_;refine tF 2 ?_;refine tk 3 _ rfl (cD.dg rfl zP zI zX) ?_;refine tJ 4 ?_)
 refine tO 5 ?_;refine bg rfl rfl (E8 _ e a.vl a.vw um up ur ua uq uc p b (ha.wU.cL (cG zP)) ha.pr (hN.cL (cG zP)) hw) ?_;rintro _ _ ⟨rfl,rfl⟩;refine ⟨fun _=>zE,?_⟩
 by_cases hc:lQ p b=0
 rotate_left
 ·have hE:s.kg name p b=lQ p b:=by unfold m2.kg;rw [aI hc]
  have hS:s.ie name p b=s:=by unfold m2.ie;rw [hE,aB hc]
  rw [hE,hS]
  generalize lQ p b=E at *
  ((refine tO 6 ?_;refine dV (bj rfl) ?_))
  refine bf zK ?_;refine wB ?_;exact aY (ke g d name p s::R) rfl (cj (show cz _ (qG g d name p s a M R) from zE) (vO ha)) ⟨rfl,rfl⟩
 rw [hc]
 ((refine tO 6 ?_;refine dV (bj rfl) ?_))
 refine bf zK ?_;refine wB ?_;have hmo:=I5 hc;have Pc:s.kg name p b=if (dB b.fi).name≠name then 22 else if (dB b.fi).ii≤s.m.ii then 32 else 0:=by unfold m2.kg;rw [aB (fun q=>q hc)]
 refine aZ rfl rfl (kz _ e um b.fi (hN.fi.cL (cG zP)) zo) ?_;rintro v1 _ ⟨mA,-⟩;obtain ⟨Mm,vf,vn,rfl,hf,hn,rfl⟩:=mA hmo;clear mA;refine bn (cn (hf.cL (cG zP))) fun q7=>?_
 refine bn (cn (hn.cL (cG zP))) fun q8=>?_
 (repeat (refine wA ?_;intros))
 rename_i g8
 by_cases O1:(dB b.fi).name=name
 rotate_left
 ·have hE:s.kg name p b=22:=by rw [Pc,aI O1]
  have hS:s.ie name p b=s:=by unfold m2.ie;rw [hE,aB (by decide)]
  rw [hE,hS];refine bz (id:=8) [] mixed ?_
  (refine tF 0 ?_;refine tL 1 ?_;refine tM 2 ?_;refine tN 3 ?_;refine tF 4 ?_;refine tL 5 ?_;refine tk 6 (.bool true) rfl (cD.iP (cD.Gj rfl rfl) zy) ?_;refine tA 7 ?_)
  refine bf zK ?_;refine wB ?_;exact aY (ke g d name p s::R) rfl (cj (show cz _ (qG g d name p s a M R) from zE) (vO ha)) ⟨rfl,rfl⟩
 subst O1;rw [aB (fun q=>q rfl)] at Pc
 refine bz (id:=8) [] mixed ?_
 (refine tF 0 ?_;refine tL 1 ?_;refine tM 2 ?_;refine tN 3 ?_;refine tF 4 ?_;refine tL 5 ?_;refine tk 6 (.bool false) rfl (cD.no (cD.Gj rfl rfl) zn) ?_;refine tA 7 ?_)
 refine bf zK ?_
 by_cases hvr:(dB b.fi).ii≤s.m.ii
 ·have hE:s.kg (dB b.fi).name p b=32:=by rw [Pc,aI hvr]
  have hS:s.ie (dB b.fi).name p b=s:=by unfold m2.ie;rw [hE,aB (by decide)]
  rw [hE,hS];refine wB ?_;refine bz (id:=10) [] mixed ?_
  (refine tF 0 ?_;refine tL 1 ?_;refine tM 2 ?_;refine tN 3 ?_;refine tF 4 ?_;refine tF 5 ?_;refine tL 6 ?_;refine tk 7 (.bool true) rfl (cD.iP (cD.leq rfl rfl) zy) ?_;refine tA 8 ?_)
  refine bf zK ?_;refine wB ?_;exact aY (ke g d (dB b.fi).name p s::R) rfl (cj (show cz _ (qG g d (dB b.fi).name p s a M R) from zE) (vO ha)) ⟨rfl,rfl⟩
 have hE:s.kg (dB b.fi).name p b=0:=by rw [Pc,aB hvr]
 have hS:s.ie (dB b.fi).name p b=⟨s.recs++[b.fi]⟩:=by unfold m2.ie;rw [aI hE]
 have er:=m2.xE ha.st O0 hs hE;rw [hE,hS];have xh:=kD (l:=s.recs) (n:=200) ha.st.short;obtain ⟨p1,p2,p3⟩:=add_plain (b:=eV s.recs) (m:=b.fi) (sy:=(eV s.recs).length) zo;refine wB ?_;refine bz (id:=10) [] mixed ?_
 (refine tF 0 ?_;refine tL 1 ?_;refine tM 2 ?_;refine tN 3 ?_;refine tF 4 ?_;refine tF 5 ?_;refine tL 6 ?_;refine tk 7 (.bool false) rfl (cD.no (cD.leq rfl rfl) zn) ?_;refine tA 8 ?_)
 refine bf zK ?_;refine wB ?_;refine bk (id:=12) [7] (cK g5 (sF b um up ur ua uq uc) rC (0,0)::N::cK g (a.cells (dB b.fi).name p s) SH (0,0)::R) mixed ?_
 (refine tM 0 ?_;refine tN 1 ?_;refine tF 2 ?_;refine tL 3 ?_;refine tF 4 ?_;refine tL 5 ?_)
 have MS:=fun L:List cJ=>fun Sg:db L um b.fi=>nV L e a.gj d s.recs.length (nh (eV s.recs) (eV s.recs).length) b.fi um (uj zo (aS _)) Sg zo zo
 rw [p1,p2,p3] at MS
 refine tO 6 ?_;refine bg rfl rfl (Ct.AO zP zP (MS _ (hN.fi.cL (cG zP)))) ?_;rintro _ _ ⟨rfl,rfl⟩;refine ⟨fun _=>zE,?_⟩
 ((refine tO 7 ?_;refine dV (bj rfl) ?_))
 refine bf zK ?_;refine wB ?_;have Cc:m2.m ⟨s.recs++[b.fi]⟩=dB b.fi:=BN _ _;have eT:cz [dH [M,Mm]] [M]:=cj (cT (M:=[_,_]) (L:=[])) (bh bF);have iH:cz [dH [M,Mm]] [Mm]:=cj (cT (M:=[_,_]) (L:=[])) (cz.drop (bh bF))
 have LF:vM.ok { a with vf:=vf,vn:=vn } (dH [M,Mm]) (dB b.fi).name p ⟨s.recs++[b.fi]⟩ :=
  ⟨ha.wU.cL eT,by rw [Cc];exact hf.cL iH,by rw [Cc];exact hn.cL iH,er,ha.pr⟩
 refine aY (ke g d (dB b.fi).name p ⟨s.recs++[b.fi]⟩::R) rfl (cj ?_ (vO LF)) ⟨rfl,rfl⟩;simp only [qG,vM.cells,Cc,nX,aa,aj];exact cj (ep (A:=M) (B:=Mm) zP zP) zE
theorem H2 (d:Nat) (name:dv) (vl vw:Value) (p:jH) (s:m2) (hp:j7 R vl vw p) (sX:p.right) (O1:pH name) (hs:s.ok name) :
 Ct prog 47 #[pt d,.string (str name),.agg (lE p vl vw).toArray] e (de d (dx (eV s.recs))::R) (fun v' L'=>∃ g,v'=.tuple #[pt g,.int .i64 0]∧L'=ke g d name p s::R):=by
 have xh:=kD (l:=s.recs) (n:=200) hs.short;have Ht:∀ m∈s.recs,m.length≤65535:=fun m hm=>by have:=hs.short m hm;omega
 have EI:=nZ s.recs Ht;have lm:=hs.size;have mR:cz (de d (dx (eV s.recs))::R) R:=zE;refine a7 (cn (hp.log.cL mR)) fun o2=>?_
 refine a7 (hp.ew.cL mR).one fun o3=>?_
 have BI:=O1.2.1;have hmr:Dz.right ⟨name,1,List.replicate 32 0,[]⟩:=⟨O1,Nat.one_pos,rfl,aH _⟩
 refine a8 (args:=[_,_,_]) func47 rfl ntmps47 results47 rfl ?_
 (repeat (refine wA ?_;intros))
 rename_i g5;refine bC (Do.makeSlice (c:=32) rfl rfl rfl rfl zl (by decide) fun gz=>?_)
 have hz:List.replicate 32 (Value.int .u8 0)=(List.replicate 32 (0:UInt8)).map u8:=rfl;rw [hz]
 (repeat (refine wA ?_;intros))
 refine aZ rfl rfl (wD _ e (.slice (some ⟨gz,0,none⟩) 32 32) nY ⟨name,1,List.replicate 32 0,[]⟩ (bb .zero) (cE.nil _ _) zd) ?_;rintro _ _ ⟨rfl,rfl⟩;rw [ay hmr];refine wB ?_;refine aZ rfl rfl (j8 _ e vl vw p (hp.cL zE) sX) ?_;rintro _ _ ⟨rfl,rfl⟩;refine wB ?_;refine aZ rfl rfl (Ct.at zP (ng _ e d (eV s.recs) zo)) ?_;rintro _ _ (⟨h1,-⟩|⟨-,gj,ux,cr,ts,rfl,fy,rfl⟩)
 ·rw [EI] at h1;cases h1
 rw [EI] at fy ⊢
 rw [show (eV s.recs).take (eV s.recs).length=eV s.recs from List.take_length];dsimp only at fy
 have oF:ts.length=s.recs.length:=by have:=congrArg List.length fy;rwa [ab] at this
 refine wB ?_;refine aZ rfl rfl (CT _ e vl vw p (hp.cL zE) (by have:=sX.log;omega) (by have:=sX.fE;omega) (fun b hb=>by have:=sX.kQ b hb;omega)) ?_;rintro _ _ ⟨Mp,ul,uw,rfl,Gd,rfl⟩;refine bn (cn (Gd.log.cL (cG zP))) fun o4=>?_
 refine bn (Gd.ew.cL (cG zP)).one fun o5=>?_
 (repeat (refine wA ?_;intros))
 rename_i gu;refine bq (ι:=Nat × cJ × Value × Value) (fun i=>[(1,.string (str name)),(11,pt gu),(41,.slice ux ts.length cr),(42,.int .i64 (ts.length:Int)),(43,.int .i64 (i.1:Int))]) (fun i=>cK gu (vM.cells ⟨gj,ul,uw,i.2.2.1,i.2.2.2⟩ name p ⟨s.recs.take i.1⟩) SH (0,0)::i.2.1::Mp::cH ts::cU (.slice ux ts.length cr) ts::jd gj d ts.length::de d (dx (eV s.recs))::R) (fun i=>i.1≤ts.length∧db [i.2.1] i.2.2.1 (C5 (s.recs.take i.1)).fw∧db [i.2.1] i.2.2.2 (C5 (s.recs.take i.1)).notes) (fun i=>ts.length - i.1) (0,cH [],nY,nY) ⟨aH _,cE.nil _ _,cE.nil _ _⟩ zS (cj dL zE) ?_;rintro ⟨i,Mx,vf,vn⟩ ⟨hi,hf,hn⟩;dsimp only at hi hf hn ⊢
 by_cases cO:i<ts.length
 rotate_left
 ·rw [aG zo] at hf hn ⊢
  have eT:cz [dH [Mp,Mx]] [Mp]:=cj (cT (M:=[_,_]) (L:=[])) (bh bF);have iH:cz [dH [Mp,Mx]] [Mx]:=cj (cT (M:=[_,_]) (L:=[])) (cz.drop (bh bF));have j0:vM.ok ⟨gj,ul,uw,vf,vn⟩ (dH [Mp,Mx]) name p s:=⟨Gd.cL eT,hf.cL iH,hn.cL iH,hs,sX⟩
  refine wB ?_;refine aY (ke gu d name p s::R) rfl (cj ?_ (vO j0)) ⟨gu,rfl,rfl⟩;dsimp only [qG];rw [← oF];exact cj (ep (A:=Mp) (B:=Mx) zP zP) zE
 have pc:i<s.recs.length:=by omega
 have ju:(ts[i]'cO).2=s.recs[i]'pc:=by
  have:=congrArg (fun l=>l[i]?) fy;simp only [aL,ae cO,ae pc,Option.map_some,Option.some.injEq] at this
  exact this
 have ft:s.recs.take (i+1)=s.recs.take i++[s.recs[i]'pc]:=aD pc;have EK:=hs.n9 _ (az pc);have hsi:=hs.short _ (az pc);have U2:=hs.name _ (az pc)
 have hvi:(C5 (s.recs.take i)).ii<(dB (s.recs[i]'pc)).ii:=by
  have hr:=hs.At.sublist ((List.take_sublist (i+1) s.recs).map fun b=>(dB b).ii);rw [ft,ah] at hr
  unfold C5
  cases hl:(s.recs.take i).getLast? with
  | none=>exact EK.2.2.2.1
  | some q=>exact (List.pairwise_append.1 hr).2.2 _ (aE.2 ⟨q,List.mem_of_getLast? hl,rfl⟩) _ (by simp)
 have Cc:C5 (s.recs.take (i+1))=dB (s.recs[i]'pc):=by rw [ft,BN]
 refine W.cB ((bb (show cQ _ (cU (.slice ux ts.length cr) ts) _ from zP)).shape zo) ?_;rintro ⟨⟨lL,c',lV,wG,IU,Ap,uW⟩,_⟩
 cases lV
 simp only [maxLen] at IU
 rcases uW with uW|⟨gr,or',rfl⟩
 ·omega
 have jx:∀ L R',cQ L (cU (.slice (some ⟨gr,or',none⟩) ts.length cr) ts) R'→Rd L ⟨gr,or'+i,none⟩ (ts[i]'cO).1:=fun L R' p=>(bb p).elem (by rw [aL,ae cO];rfl)
 have si:∀ L R',cQ L (cH ts) R'→db L (ts[i]'cO).1 (ts[i]'cO).2:=fun L R' p=>dP.dY p _ (az cO)
 generalize s.recs[i]'pc=n at *
 generalize ts[i]'cO=y at *
 obtain ⟨yv,b⟩:=y;dsimp only at jx si ju
 subst ju;refine W.cB (cn (si _ _ zP)) fun oy=>?_
 refine wB ?_;refine bV rfl (jx _ _ zP) rfl ?_;refine wB ?_;refine aZ rfl rfl (kz _ e yv b (si _ _ zP) zo) ?_;rintro v1 _ ⟨hd,-⟩;obtain ⟨Md,wf,wn,rfl,QK,AU,rfl⟩:=hd EK;refine bn (cn (QK.cL (cG zP))) fun o6=>?_
 refine bn (cn (AU.cL (cG zP))) fun o7=>?_
 subst U2;have QX:(s.recs.take i).length=i:=by rw [aF];omega
 have VM:(⟨s.recs.take i⟩:m2).recs.length=i:=QX;have aft:(m2.m ⟨s.recs.take i⟩).ii<(dB b).ii:=hvi
 (repeat (refine wA ?_;intros))
 refine bz (id:=11) [] mixed ?_
 (refine tM 0 ?_;refine tk 1 (.bool false) rfl (cD.no (cD.neq rfl rfl) zn) ?_;refine tM 2 ?_;refine dt 3 _ rfl (ba rfl) ?_;refine dt 4 _ rfl (bp rfl zR) ?_;refine dt 5 _ rfl (bu rfl) ?_;refine dt 6 (.bool false) rfl (cD.no (cD.Gj rfl rfl) zn) ?_;refine tk 7 _ rfl (bI rfl rfl) ?_;refine tM 8 ?_;refine dt 9 _ rfl (ba rfl) ?_;refine dt 10 _ rfl (bp rfl zR) ?_;refine dt 11 _ rfl (bu rfl) ?_;refine dt 12 _ rfl (bm rfl) ?_;refine dt 13 _ rfl (ba rfl) ?_;refine dt 14 _ rfl (ba rfl) ?_;refine dt 15 _ rfl (bp rfl zR) ?_;refine dt 16 (.bool false) rfl (cD.no (cD.leq rfl rfl) zn) ?_;refine tk 17 _ rfl (bI rfl rfl) ?_)
 refine bf zK ?_;refine wB ?_;have AT:((⟨s.recs.take (i+1)⟩:m2).recs.length:Int)=((s.recs.take i).length:Int)+1:=by rw [ft];simp
 have SI:m2.m ⟨s.recs.take (i+1)⟩=dB b:=Cc;refine bi (i+1,Md,wf,wn) ⟨cO,by dsimp only;rw [Cc];exact QK,by dsimp only;rw [Cc];exact AU⟩ zd zS ?_;dsimp only [vM.cells];rw [SI,AT];exact zE
structure Ge where
 cF:List dv
 last:Option j6
def Ge.dD (s:Ge):j6:=s.last.getD vH
structure Ge.ok (s:Ge):Prop where
 size:s.cF.length≤1000
 short:∀ b∈s.cF,b.length≤1000
 last:∀ x,s.last=some x→x.fits
abbrev KU:TypeId:=181
structure xn where
 vl:Value
 ai:Option Addr
 ci:Nat
 ts:List ej
 al:Option Addr
 cl:Nat
 us:List ej
 ur:Value
 up:Value
 uq:Value
structure xn.ok (a:xn) (M:cJ) (log:dv) (s:Ge):Prop where
 log:db [M] a.vl log
 cF:a.ts.map (·.2)=s.cF
 yN:dP [M] a.ts
 leaves:a.us.map (·.2)=s.cF.map cY
 Ao:dP [M] a.us
 last:fj [M] a.ur a.up a.uq s.dD
 st:s.ok
abbrev xn.cells (a:xn) (s:Ge):List Value:=[a.vl,.slice a.ai a.ts.length a.ci,.slice a.al a.us.length a.cl,nY]++dS s.dD a.ur a.up a.uq++[.bool s.last.isSome]
abbrev xo (g:Nat) (s:Ge) (a:xn) (M:cJ) (R:List cJ):List cJ :=
 cK g (a.cells s) KU (0,0)::cU (.slice a.ai a.ts.length a.ci) a.ts::cU (.slice a.al a.us.length a.cl) a.us::M::R
def Nj (g:Nat) (log:dv) (s:Ge) (a:xn) (M:cJ):cJ:=dH (Pu (a.ok M log s)::xo g s a M [])
def jq (g:Nat) (log:dv) (s:Ge):cJ:=Ex fun a=>Ex fun M=>Nj g log s a M
theorem xF {g:Nat} {log:dv} {s:Ge} {R:List cJ} {P:Program} {f:FuncId} {args:Array Value} {e:World} {Post:Value→List cJ→Prop}
 (h:∀ (a:xn) (M:cJ),a.ok M log s→Ct P f args e (xo g s a M R) Post):Ct P f args e (jq g log s::R) Post :=
 Ct.ex .zero fun a=>Ct.ex .zero fun M=>Ct.cL (a7 (p:=a.ok M log s) (fun w x=>(jQ x).1) fun hp=>(h a M hp).cL (cz.drop aX)) (cT (M:=Pu (a.ok M log s)::xo g s a M []) (L:=R))
theorem zr {g:Nat} {log:dv} {s:Ge} {a:xn} {M:cJ} {R:List cJ} (h:a.ok M log s):cz (xo g s a M R) (jq g log s::R) :=
 cj (m7 h) (cj (dQ (M:=Pu (a.ok M log s)::xo g s a M []) (L:=R)) (cj (fu (f:=fun M=>Nj g log s a M) M) (fu (f:=fun a=>Ex fun M=>Nj g log s a M) a)))
theorem sK (g:Nat) (log:dv) (s:Ge) :
 Ct prog 41 #[pt g] e (jq g log s::R) (fun v' L'=>v'=.int .i64 (s.cF.length:Int)∧L'=jq g log s::R):=by
 refine xF fun a M ha=>?_
 have hl:a.ts.length=s.cF.length:=by have:=congrArg List.length ha.cF;rwa [ab] at this
 refine a8 (args:=[_]) func41 rfl ntmps41 results41 rfl ?_;refine wB ?_;exact aY (jq g log s::R) rfl (zr ha) ⟨by rw [← hl];rfl,rfl⟩
theorem C6 :
 Ct prog 96 #[nY] e R (fun v' L'=>v'=nY∧R=L'):=by
 refine a8 (args:=[_]) func96 rfl ntmps96 results96 rfl ?_;refine wB ?_;exact aY R rfl aX ⟨rfl,rfl⟩
theorem C7 (g:Nat) (log:dv) (s:Ge) :
 Ct prog 35 #[pt g] e (jq g log s::R) (fun v' L'=>v'=nY∧L'=jq g log s::R):=by
 refine xF fun a M ha=>?_
 refine a8 (args:=[_]) func35 rfl ntmps35 results35 rfl ?_;refine wB ?_;refine aZ rfl rfl (C6 _ e) ?_;rintro _ _ ⟨rfl,rfl⟩;refine wB ?_;exact aY (jq g log s::R) rfl (zr ha) ⟨rfl,rfl⟩
theorem KV (v:Value) (log:dv) (hv:db R v log) (hl:log.length=32) :
 Ct prog 37 #[v] e R (fun v' L'=>∃ g,v'=.tuple #[pt g,.int .i64 0]∧L'=jq g log ⟨[],none⟩::R):=by
 refine a7 (cE.shape hv zo) ?_;rintro ⟨⟨ad,c,rfl,-,-,-,-⟩,_⟩;refine a8 (args:=[_]) func37 rfl ntmps37 results37 rfl ?_;refine wB ?_;refine aZ rfl rfl (dw _ e _ log (hv.cL zE) zo) ?_;rintro _ _ ⟨ef,c1,rfl,rfl⟩
 (repeat (refine wA ?_;intros))
 rename_i g
 have j0:xn.ok ⟨.slice ef log.length c1,none,0,[],none,0,[],nY,nY,nY⟩ (cR (.slice ef log.length c1) log) log ⟨[],none⟩ :=
  ⟨bb .zero,rfl,fun x hx=>absurd hx aP,rfl,fun x hx=>absurd hx aP,pu _,⟨aH _,fun b hb=>absurd hb aP,fun x hx=>nomatch hx⟩⟩
 refine aY (jq g log ⟨[],none⟩::R) rfl (cj (cj (du ez 1) (cj (du ez 1) ?_)) (zr j0)) ⟨g,rfl,rfl⟩;dsimp only [xo,xn.cells];exact zE
theorem Fl (v:Value) (l:List ej) (h:cE R 1 v l.length (l.map (·.1))) (h1:dP R l) (hl:l.length≤100000) :
 Ct prog 100 #[v] e R (fun v' L'=>∃ ad c,v'=.slice ad l.length c∧L'=cU (.slice ad l.length c) l::R):=by
 refine a7 (BD h1) fun ho=>?_
 have ho2:∀ c∈l.map (·.1),c.oneCell'=true:=fun c hc=>by obtain ⟨m,hm,rfl⟩:=aE.1 hc;exact ho m hm
 refine a7 (h.shape zo) ?_;rintro ⟨⟨ad,cap,rfl,h3,h4,h5,h6⟩,_⟩;refine a8 (args:=[_]) func100 rfl ntmps100 results100 rfl ?_
 cases ad with
 | none =>
  have u7:l=[]:=by
   have:=h5 rfl;exact List.eq_nil_of_length_eq_zero zo
  subst u7;refine wB ?_;exact aY _ rfl (du _ _) ⟨_,_,rfl,rfl⟩
 | some a =>
  (repeat (refine wA ?_;intros))
  refine O.fo (hF (n:=1) (k:=0) (cap:=0) zo zl rfl) ?_;refine bC (bo rfl rfl rfl .zero h rfl rfl ho2 zm zo fun lL c' lV=>?_)
  refine wB ?_;refine aY _ rfl ?_ ⟨lL,c',by simp [AP],rfl⟩;simp only [aC];exact aX
abbrev I6:TypeId:=87
theorem Fm (g:Nat) (log:dv) (s:Ge) (vr vp vq v:Value) (x:j6) (ls:List ej) (hx:fj R vr vp vq x) (KR:x.fits) (hv:x.ii log) (Bb:cE R 1 v ls.length (ls.map (·.1))) (RR:dP R ls) (hs:s.cF.length<x.dc.size) (hl:ls.length=x.dc.size - s.cF.length) (hb:∀ y∈ls,y.2.length≤1000) (rI:x.dc.root=ea ((s.cF++ls.map (·.2)).map cY)) :
 Ct prog 39 #[pt g,.agg (dS x vr vp vq).toArray,v] e (jq g log s::R) (fun v' L'=>v'=.int .i64 0∧L'=jq g log ⟨s.cF++ls.map (·.2),some x⟩::R):=by
 refine xF fun a M ha=>?_
 have oF:a.ts.length=s.cF.length:=by have:=congrArg List.length ha.cF;rwa [ab] at this
 have hu:a.us.length=s.cF.length:=by have:=congrArg List.length ha.leaves;rwa [ab,ab] at this
 have lm:=ha.st.size;have hxs:=KR.1.1;have mR:cz (xo g s a M R) R:=zE;refine a7 (cn (hx.root.cL mR)) fun o5=>?_
 refine a7 (hx.sig.cL mR).parts.one fun o6=>?_
 refine a7 (hx.sig.cL mR).path.one fun o7=>?_
 refine a7 (BD (fun y hy=>(RR y hy).cL mR)) fun o8=>?_
 refine a7 (cn (ha.log.cL (show cz (xo g s a M R) [M] from cG zP))) fun o9=>?_
 refine a7 ((Bb.cL mR).shape zo) ?_;rintro ⟨⟨wm,cv,rfl,hv3,RW,QJ,IG⟩,_⟩;simp only [maxLen] at RW
 have jN:∀ y∈a.us,y.2.length=32:=fun y hy=>by
  have:y.2∈s.cF.map cY:=by rw [← ha.leaves];exact aE.2 ⟨y,hy,rfl⟩
  obtain ⟨b,hb,GO⟩:=aE.1 this;rw [← GO];exact df _ _
 refine a8 (args:=[_,_,_]) func39 rfl ntmps39 results39 rfl ?_
 (repeat' first|refine Zb ?_|apply Zc|apply Zd|apply Ze|apply Zf|refine Zh ?_|refine Yg fun _=>?_|refine Yh fun _=>?_|apply YB|refine YR ?_|(apply O.dg;exact rfl;exact zP;(first|(simp only [aC,Nat.add_zero,Nat.reduceAdd,List.drop_succ_cons,List.drop_zero,List.take_succ_cons,List.take_zero];done)|(simp only [aC,Nat.add_zero,Nat.reduceAdd,List.drop_succ_cons,List.drop_zero,List.take_succ_cons,List.take_zero];exact rfl));exact rfl;exact rfl))
 rename_i g4 g7;refine bz (id:=2) [] mixed ?_
 (refine tM 0 ?_;refine tN 1 ?_;refine tF 2 ?_;refine tL 3 ?_;refine tJ 4 ?_)
 refine tO 5 ?_;refine bg rfl rfl (ky _ e a.vl vr vp vq log x (ha.log.cL (cG zP)) (hx.cL zE) KR.1) ?_;rintro _ _ ⟨rfl,rfl⟩;refine ⟨fun _=>zE,A.fR zE ?_⟩;rw [ay hv]
 (refine tk 6 _ rfl (cD.jY rfl) ?_;refine tA 7 ?_)
 refine bf zK ?_;refine wB ?_;refine bz (id:=4) [] mixed ?_
 (refine tF 0 ?_;refine tL 1 ?_;refine tM 2 ?_;refine tN 3 ?_;refine tF 4 ?_;refine tL 5 ?_;refine tk 6 _ rfl (bM rfl) ?_;refine tk 7 (.bool false) rfl (cD.no (cD.leq rfl rfl) zn) ?_;refine tM 8 ?_;refine bc 9 rfl rfl zK zE rfl ?_;refine bc 10 rfl rfl zK zE rfl ?_;refine bc 11 rfl rfl zK zE rfl ?_;refine tk 12 _ rfl (bI rfl rfl) ?_;refine tA 13 ?_)
 refine bf zK ?_;refine wB ?_;refine bz (id:=6) [] mixed ?_
 (refine tF 0 ?_;refine tL 1 ?_;refine tM 2 ?_;refine tN 3 ?_;refine tF 4 ?_;refine tL 5 ?_;refine tk 6 _ rfl (bM rfl) ?_;refine tk 7 (.bool false) rfl (cD.no (cD.leq rfl rfl) zn) ?_;refine tM 8 ?_;refine bc 9 rfl rfl zK zE rfl ?_;refine bc 10 rfl rfl zK zE rfl ?_;refine bc 11 rfl rfl zK zE rfl ?_;refine bc 12 rfl rfl zK zE rfl ?_;refine bc 13 rfl rfl zK zE rfl ?_;refine bc 14 rfl rfl zK zE rfl ?_;refine bc 15 rfl rfl zK zE rfl ?_;refine bc 17 rfl rfl zK zE rfl ?_;refine bc 18 rfl rfl zK zE rfl ?_)
 refine bc 16 rfl rfl zK zE rfl ?_;refine bc 19 rfl rfl zK zE rfl ?_
 (refine bc 20 rfl rfl zK zE rfl ?_;refine tk 21 _ rfl (bI rfl rfl) ?_;refine tA 22 ?_)
 refine bf zK ?_;refine wB ?_;refine bz (id:=9) [] mixed ?_
 (refine tF 0 ?_;refine tL 1 ?_;refine tM 2 ?_;refine tN 3 ?_;refine tF 4 ?_;refine tL 5 ?_;refine tk 6 _ rfl (bM rfl) ?_;refine tk 7 (.bool false) rfl (cD.no (cD.leq rfl rfl) zn) ?_;refine tA 8 ?_)
 refine bf zK ?_;refine wB ?_;refine bz (id:=11) [] mixed ?_
 (refine tM 0 ?_;refine tk 1 _ rfl (bM rfl) ?_;refine tF 2 ?_;refine tL 3 ?_;refine tM 4 ?_;refine tN 5 ?_;refine tF 6 ?_;refine tL 7 ?_;refine tk 8 _ rfl (bM rfl) ?_;refine tk 9 _ rfl (cD.jA rfl rfl zo) ?_;refine tk 10 (.bool false) rfl (cD.no (cD.neq rfl rfl) zn) ?_;refine tA 11 ?_)
 refine bf zK ?_;refine wB ?_;refine aZ rfl rfl (Fl _ e (.slice a.al a.us.length a.cl) a.us (bb zP) (fun y hy=>(ha.Ao y hy).cL (cG zP)) zo) ?_;rintro _ _ ⟨Z5,c8,rfl,rfl⟩;refine wB ?_;refine bq (ι:=Nat × List ej × Option Addr × Nat) (fun j=>[(0,pt g),(2,.slice wm ls.length cv),(4,pt g4),(7,pt g7),(8,.slice j.2.2.1 (a.us++j.2.1).length j.2.2.2),(98,.slice wm ls.length cv),(99,.int .i64 (ls.length:Int)),(100,.int .i64 (j.1:Int))]) (fun j=>cU (.slice j.2.2.1 (a.us++j.2.1).length j.2.2.2) (a.us++j.2.1)::cH j.2.1::cK g7 (iR x.dc vr) 83 (0,0)::cK g4 (dS x vr vp vq) I6 (0,0)::cK g [a.vl,.slice a.ai a.ts.length a.ci,.slice a.al a.us.length a.cl,nY,.int .i64 (s.dD.dc.size:Int),a.ur,.int .i64 (s.dD.sig.idx:Int),a.up,a.uq,.bool s.last.isSome] KU (0,0)::cU (.slice a.ai a.ts.length a.ci) a.ts::cU (.slice a.al a.us.length a.cl) a.us::M::R) (fun j=>j.1≤ls.length∧j.2.1.map (·.2)=((ls.take j.1).map (·.2)).map cY) (fun j=>ls.length - j.1) (0,[],Z5,c8) ⟨aH _,rfl⟩ (by rw [aK];exact zS) (by rw [aK];exact cj dL zE) ?_;rintro ⟨j,fs,Ue,cf⟩ ⟨hj,BC⟩;dsimp only at hj BC ⊢
 have DB:fs.length=j:=by have:=congrArg List.length BC;rw [ab,ab,ab,aF] at this;omega
 by_cases cO:j<ls.length
 ·rcases IG with IG|⟨gg,og,rfl⟩
  ·omega
  have hr:Rd R ⟨gg,og+j,none⟩ (ls[j]'cO).1:=Bb.elem (by rw [aL,ae cO];rfl);have IE:=RR _ (az cO);have O0:=hb _ (az cO);have ft:(ls.take (j+1)).map (·.2)=(ls.take j).map (·.2)++[(ls[j]'cO).2]:=by rw [aD cO,ah];rfl
  generalize ls[j]'cO=y at *
  obtain ⟨yv,b⟩:=y;dsimp only at hr IE O0 ft
  refine W.cB (cn (IE.cL zE)) fun o3=>?_
  have LD:(a.us++fs).length=a.us.length+j:=by rw [aa,DB]
  (repeat' first|(refine bV rfl (hr.cL zE) rfl ?_)|refine Za ?_|refine Zb ?_|apply Zc|apply Zd|apply Ze|apply Zf|refine ZA ?_|refine Yw ?_|refine Yz ?_|apply YB|apply YC)
  refine aZ rfl rfl (qU _ e yv b (IE.cL zE) zo) ?_;rintro _ _ ⟨qp,cx,rfl,rfl⟩
  (repeat (refine wA ?_;intros))
  refine bC (bo rfl rfl rfl (show cQ _ (cU (.slice Ue (a.us++fs).length cf) (a.us++fs)) _ from zP) (bO (n:=1) (c:=1) zP rfl zl) rfl rfl zO zm zo fun ef k1 _=>?_)
  refine wB ?_;have e1:a.us++(fs++[(.slice qp (cY b).length cx,cY b)])=(a.us++fs)++[(.slice qp (cY b).length cx,cY b)]:=by rw [aM]
  have e2:((a.us++fs)++[(Value.slice qp (cY b).length cx,cY b)]).length=(a.us++fs).length+1:=by rw [aa];rfl
  refine bi (j+1,fs++[(.slice qp (cY b).length cx,cY b)],ef,k1) ⟨cO,by dsimp only;rw [ft,ah,ah,BC];rfl⟩ zd ?_ ?_
  ·dsimp only;rw [e1,e2];exact zS
  ·dsimp only;rw [e1];simp only [cU,e2,ah (l₁:=a.us++fs),List.map_cons,List.map_nil];exact cj (cj (show cz _ (cR (.slice qp (cY b).length cx) (cY b)::cH fs::dJ ez 1 (.slice ef ((a.us++fs).length+1) k1) ((a.us++fs).length+1) ((a.us++fs).map (·.1)++[.slice qp (cY b).length cx])::cK g7 (iR x.dc vr) 83 (0,0)::cK g4 (dS x vr vp vq) I6 (0,0)::cK g [a.vl,.slice a.ai a.ts.length a.ci,.slice a.al a.us.length a.cl,nY,.int .i64 (s.dD.dc.size:Int),a.ur,.int .i64 (s.dD.sig.idx:Int),a.up,a.uq,.bool s.last.isSome] KU (0,0)::cU (.slice a.ai a.ts.length a.ci) a.ts::cU (.slice a.al a.us.length a.cl) a.us::M::R) from zE) jn) zE
 rw [aG zo] at BC
 have Nk:(a.us++fs).map (·.2)=(s.cF++ls.map (·.2)).map cY:=by rw [ah,ah,ha.leaves,BC]
 have abj:ea ((a.us++fs).map (·.2))=x.dc.root:=by rw [rI,Nk]
 have Wg:∀ L R',cQ L (cH fs) R'→cz L [M]→dP L (a.us++fs):=fun L R' pl hm y hy=>by
  rcases aJ.1 hy with hy|hy
  ·exact (ha.Ao y hy).cL hm
  ·exact dP.dY pl y hy
 have abk:∀ y∈a.us++fs,y.2.length≤1000000:=fun y hy=>by
  have:y.2∈(a.us++fs).map (·.2):=aE.2 ⟨y,hy,rfl⟩;rw [Nk] at this
  obtain ⟨b,hb,GO⟩:=aE.1 this;rw [← GO,show (cY b).length=32 from df _ _];decide
 have LD:(a.us++fs).length≤2000:=by rw [aa];omega
 refine wB ?_;refine bz (id:=19) [] mixed ?_
 (refine tM 0 ?_;refine tF 2 ?_;refine tL 3 ?_)
 refine tO 1 ?_;refine bg rfl rfl (j3 _ _ e (.slice Ue (a.us++fs).length cf) (a.us++fs) rfl (bb zP) (Wg _ _ zP (cG zP)) abk zo) ?_;rintro _ _ ⟨ux,kr,rfl,rfl⟩;refine ⟨fun _=>zE,A.fR zE ?_⟩;rw [abj];refine tO 4 ?_;refine bg rfl rfl (sD _ e _ vr x.dc.root x.dc.root (bb zP) (hx.root.cL zE)) ?_;rintro _ _ ⟨rfl,rfl⟩;refine ⟨fun _=>zE,A.fR zE ?_⟩;rw [ay rfl]
 (refine tk 5 _ rfl (cD.jY rfl) ?_)
 refine bf zK ?_;refine wB ?_;refine bq (ι:=Nat × List ej × Option Addr × Nat) (fun j=>[(0,pt g),(4,pt g4),(8,.slice Ue (a.us++fs).length cf),(116,.slice wm ls.length cv),(117,.int .i64 (ls.length:Int)),(118,.int .i64 (j.1:Int))]) (fun j=>cK g [a.vl,.slice j.2.2.1 (a.ts++j.2.1).length j.2.2.2,.slice a.al a.us.length a.cl,nY,.int .i64 (s.dD.dc.size:Int),a.ur,.int .i64 (s.dD.sig.idx:Int),a.up,a.uq,.bool s.last.isSome] KU (0,0)::cU (.slice j.2.2.1 (a.ts++j.2.1).length j.2.2.2) (a.ts++j.2.1)::cH j.2.1::cH fs::cU (.slice Ue (a.us++fs).length cf) (a.us++fs)::cK g4 (dS x vr vp vq) I6 (0,0)::M::R) (fun j=>j.1≤ls.length∧j.2.1.map (·.2)=(ls.take j.1).map (·.2)) (fun j=>ls.length - j.1) (0,[],a.ai,a.ci) ⟨aH _,rfl⟩ zS (by rw [aK];exact cj dL zE) ?_;rintro ⟨j2,gs,DE,cg⟩ ⟨F8,vK⟩;dsimp only at F8 vK ⊢
 have CC:gs.length=j2:=by have:=congrArg List.length vK;rw [ab,ab,aF] at this;omega
 by_cases lz:j2<ls.length
 ·rcases IG with IG|⟨gg,og,rfl⟩
  ·omega
  have hr:Rd R ⟨gg,og+j2,none⟩ (ls[j2]'lz).1:=Bb.elem (by rw [aL,ae lz];rfl);have IE:=RR _ (az lz);have O0:=hb _ (az lz);have ft:(ls.take (j2+1)).map (·.2)=(ls.take j2).map (·.2)++[(ls[j2]'lz).2]:=by rw [aD lz,ah];rfl
  generalize ls[j2]'lz=y at *
  obtain ⟨yv,b⟩:=y;dsimp only at hr IE O0 ft
  refine W.cB (cn (IE.cL zE)) fun o3=>?_
  have afu:(a.ts++gs).length=a.ts.length+j2:=by rw [aa,CC]
  (repeat' first|(refine bV rfl (hr.cL zE) rfl ?_)|refine Zb ?_|apply Zc|apply Zd|apply Ze|apply Zf|refine ZA ?_|refine Yw ?_|refine Yz ?_|apply YB|apply YC)
  refine bk (id:=24) [9,10,11] (cK g [a.vl,.slice DE (a.ts++gs).length cg,.slice a.al a.us.length a.cl,nY,.int .i64 (s.dD.dc.size:Int),a.ur,.int .i64 (s.dD.sig.idx:Int),a.up,a.uq,.bool s.last.isSome] KU (0,0)::R) mixed ?_
  (refine tM 0 ?_;refine tM 1 ?_;refine tN 2 ?_;refine tF 3 ?_;refine tL 4 ?_;refine tM 5 ?_)
  refine tO 6 ?_;refine bg rfl rfl (dw _ e yv b (IE.cL zE) zo) ?_;rintro _ _ ⟨qp,cx,rfl,rfl⟩;refine ⟨fun _=>zE,?_⟩;refine tO 7 ?_;refine bE (n:=1) (cs:=[.slice qp b.length cx]) rfl rfl rfl rfl zQ rfl (fun gb=>⟨fun _=>zE,?_⟩);refine tO 8 ?_;refine bo rfl rfl rfl (show cQ _ (cU (.slice DE (a.ts++gs).length cg) (a.ts++gs)) _ from zP) (bO (n:=1) (c:=1) zP rfl zl) rfl rfl zO zm zo fun ef k1 _=>⟨fun _=>zE,?_⟩
  refine tO 9 ?_;refine dV (bm rfl) ?_;refine tO 10 ?_;refine dV (ba rfl) ?_;refine tO 11 ?_;refine tg ?_;refine ⟨zN,?_⟩;refine bf zK ?_;refine wB ?_;have e1:a.ts++(gs++[(.slice qp b.length cx,b)])=(a.ts++gs)++[(.slice qp b.length cx,b)]:=by rw [aM]
  have e2:((a.ts++gs)++[(Value.slice qp b.length cx,b)]).length=(a.ts++gs).length+1:=by rw [aa];rfl
  refine bi (j2+1,gs++[(.slice qp b.length cx,b)],ef,k1) ⟨lz,by dsimp only;rw [ft,ah,vK];rfl⟩ zd zS ?_;dsimp only;rw [e1];simp only [cU,e2,ah (l₁:=a.ts++gs),List.map_cons,List.map_nil];exact cj (cj (show cz _ (cR (.slice qp b.length cx) b::cH gs::cK g [a.vl,.slice ef ((a.ts++gs).length+1) k1,.slice a.al a.us.length a.cl,nY,.int .i64 (s.dD.dc.size:Int),a.ur,.int .i64 (s.dD.sig.idx:Int),a.up,a.uq,.bool s.last.isSome] KU (0,0)::dJ ez 1 (.slice ef ((a.ts++gs).length+1) k1) ((a.ts++gs).length+1) ((a.ts++gs).map (·.1)++[.slice qp b.length cx])::cH fs::cU (.slice Ue (a.us++fs).length cf) (a.us++fs)::cK g4 (dS x vr vp vq) I6 (0,0)::M::R) from zE) jn) zE
 rw [aG zo] at vK
 refine wB ?_;refine aZ rfl rfl (gR _ e vr vp vq x (hx.cL zE) KR.2.fits) ?_;rintro _ _ ⟨N,ur,up,uq,rfl,hN,rfl⟩;refine bn (cn (hN.root.cL (cG zP))) fun Nb=>?_
 refine bn (hN.sig.cL (cG zP)).parts.one fun VY=>?_
 refine bn (hN.sig.cL (cG zP)).path.one fun XB=>?_
 refine wB ?_;have T3:cz [dH [M,N,cH fs,cH gs]] [M,N,cH fs,cH gs]:=cT (M:=[_,_,_,_]) (L:=[])
 have j0:xn.ok ⟨a.vl,DE,cg,a.ts++gs,Ue,cf,a.us++fs,ur,up,uq⟩ (dH [M,N,cH fs,cH gs]) log ⟨s.cF++ls.map (·.2),some x⟩ :=
  ⟨(
   ha.log.cL (cG .zero)).cL T3,by dsimp only;rw [ah,ha.cF,vK],fun y hy=>by
   rcases aJ.1 hy with hy|hy
   ·exact ((ha.yN y hy).cL (cG .zero)).cL T3
   ·exact (dP.dY (show cQ [M,N,cH fs,cH gs] (cH gs) _ from zP) y hy).cL T3,Nk,fun y hy=>(Wg [M,N,cH fs,cH gs] _ zP (cG .zero) y hy).cL T3,(hN.cL (cG (.succ .zero))).cL T3,⟨by simp only [aa,ab];omega,fun b td=>by
   rcases aJ.1 td with td|td
   ·exact ha.st.short b td
   ·obtain ⟨y,hy,rfl⟩:=aE.1 td;exact hb y hy,fun y hy=>by cases hy;exact KR⟩⟩
 refine aY (jq g log ⟨s.cF++ls.map (·.2),some x⟩::R) rfl (cj ?_ (zr j0)) ⟨rfl,rfl⟩;dsimp only [xo,xn.cells];exact cj (rf (A:=M) (B:=N) (C:=cH fs) (D:=cH gs) zP zP zP zP) zE
end Go.Proofs
namespace Go.Proofs
open Go.Bs
attribute [local irreducible] Bs.cD Bs.Do Bs.O Bs.W Bs.Fin Bs.A Bs.Ct Bs.cE Bs.Rd Bs.Sat Bs.cK Bs.Ob Bs.dJ Bs.View Bs.cz Bs.Ex Bs.dH Bs.Pu Bs.eY Bs.dM Bs.dZ
open Tryz
variable (R:List cJ) (e:World)
structure gV where
 kind:Int
 Ok:Int
 to:Int
 v:Value
 b:List UInt8
def gV.cells (m:gV):List Value:=[.int .i64 m.kind,.int .i64 m.Ok,.int .i64 m.to,m.v]
def gV.t (m:gV):ej:=(m.v,m.b)
def gV.d (m:gV):Int × Int × Int × List UInt8:=(m.kind,m.Ok,m.to,m.b)
abbrev Nl:TypeId:=268
theorem px (m:gV):m.cells.length=4:=rfl
theorem Nm:∀ l:List gV,(l.flatMap gV.cells).length=l.length*4
 | []=>rfl
 | m::l=>by
  rw [aU,aa,Nm l,px,aN,Nat.add_mul];omega
theorem I7 (l:List gV) (i:Nat):(l.flatMap gV.cells).take (i*4)=(l.take i).flatMap gV.cells:=by
 induction l generalizing i with
 | nil=>simp
 | cons m l ih =>
  cases i with
  | zero=>simp
  | succ i =>
   rw [aU,List.take_succ_cons,aU,List.take_append,px,aG (by rw [px];omega),← ih]
   congr 2;omega
theorem Pw (l:List gV) (i:Nat):(l.flatMap gV.cells).drop (i*4)=(l.drop i).flatMap gV.cells:=by
 induction l generalizing i with
 | nil=>simp
 | cons m l ih =>
  cases i with
  | zero=>simp
  | succ i =>
   rw [aU,List.drop_succ_cons,List.drop_append,px,List.drop_of_length_le (by rw [px];omega),← ih];simp only [List.nil_append]
   congr 1;omega
abbrev vP (v:Value) (l:List gV):cJ:=dJ Nl 4 v l.length (l.flatMap gV.cells)
def Nn (g n:Nat) (l:List gV) (ad:Option Addr) (c:Nat):cJ:=dH [cK g [.int .i64 (n:Int),.slice ad l.length c] 224 (0,0),vP (.slice ad l.length c) l,cH (l.map gV.t)]
def Net (g n:Nat) (l:List gV):cJ:=Ex fun ad=>Ex fun c=>Nn g n l ad c
section
variable {g n:Nat} {l:List gV} {R:List cJ} {P:Program} {e:World}
theorem C8 {f:FuncId} {args:Array Value} {Post:Value→List cJ→Prop}
 (h:∀ ad c,Ct P f args e (cK g [.int .i64 (n:Int),.slice ad l.length c] 224 (0,0)::vP (.slice ad l.length c) l::cH (l.map gV.t)::R) Post):Ct P f args e (Net g n l::R) Post :=
 Ct.ex .zero fun ad=>Ct.ex .zero fun c=>(h ad c).cL cT
theorem Fo {N:Fr} {all:Array Oper} {ol:List Oper} {Q:fN} {σ:Env}
 (h:∀ ad c,O P N all ol Q σ e (cK g [.int .i64 (n:Int),.slice ad l.length c] 224 (0,0)::vP (.slice ad l.length c) l::cH (l.map gV.t)::R)):O P N all ol Q σ e (Net g n l::R) :=
 O.ex .zero fun ad=>O.ex .zero fun c=>(h ad c).cL cT
theorem nF {c:Nat} {ad:Option Addr}:cz (cK g [.int .i64 (n:Int),.slice ad l.length c] 224 (0,0)::vP (.slice ad l.length c) l::cH (l.map gV.t)::R) (Net g n l::R) :=
 cj (dQ (M:=[_,_,_])) (cj (fu (f:=fun c=>Nn g n l ad c) c) (fu (f:=fun ad=>Ex fun c=>Nn g n l ad c) ad))
end
theorem BO {g n:Nat} {l:List gV} {R:List cJ}:cz (Net g n l::R) (cH (l.map gV.t)::R) :=
 jF fun ad=>jF fun c=>cT.trans zE
theorem sL {v:Value} {l:List gV} {L R:List cJ} (p:cQ L (vP v l) R):∀ h,dM L h→∃ ad c,v=.slice ad l.length c∧l.length≤c∧c≤maxLen∧((ad=none∧c=0∧l.length=0)∨∃ g,ad=some ⟨g,0,none⟩):=fun h x=>by
 obtain ⟨⟨ad,c,h1,h2,h3,h4⟩,_⟩:=fO p h x;exact ⟨ad,c,h1,h2,h3,h4⟩
theorem KW (n:Nat) (hn:1≤n∧n≤32) :
 Ct prog 165 #[.int .i64 n] e R (fun v' L'=>∃ g,v'=.tuple #[pt g,.int .i64 0]∧L'=Net g n []::R):=by
 refine a8 (args:=[_]) func165 rfl ntmps165 results165 rfl ?_
 (repeat (refine wA ?_;intros))
 exact aY _ rfl ((bh ((du Nl 4).trans (bh dL))).trans (nF (l:=[]))) ⟨_,rfl,rfl⟩
theorem KX (m:gV) (hr:db R m.v m.b) (hb:m.b.length≤140737488351232) :
 Ct prog 248 #[.agg m.cells.toArray] e R (fun v' L'=>∃ ad c,v'=.agg (gV.cells { m with v:=.slice ad m.b.length c }).toArray∧L'=cH [(.slice ad m.b.length c,m.b)]::R):=by
 refine a7 (hr.shape zo) ?_;rintro ⟨⟨Mv,c0,hv,g3,g4,g5,g6⟩,_⟩;obtain ⟨kind,Ok,to,v,b⟩:=m;dsimp only at hr hb hv g3 g6 ⊢
 subst hv;simp only [gV.cells];refine bH (args:=[_]) func248 rfl ntmps248 results248 rfl ?_
 (repeat (refine wA ?_;intros))
 refine aZ rfl rfl (dw _ e _ b hr.tail.tail zo) ?_;rintro _ _ ⟨ad,c,rfl,rfl⟩;refine wB ?_;apply br
 ·exact zV
 ·exact ⟨_,(show cz _ (cR (.slice ad b.length c) b::R) from zE).trans (jv (a:=(.slice ad b.length c,b))),ad,c,rfl,rfl⟩
theorem Fp (g n:Nat) (l:List gV) (i:Int) (hl:l.length≤1000) :
 Ct prog 249 #[pt g,.int .i64 i] e (Net g n l::R) (fun v' L'=>v'=.bool (decide (0≤i∧i<l.length))∧L'=Net g n l::R):=by
 refine C8 fun ad c=>?_
 refine a8 (args:=[_,_]) func249 rfl ntmps249 results249 rfl ?_
 by_cases h0:0≤i
 ·by_cases h1:i<l.length
  ·refine wB ?_;exact aY _ rfl nF ⟨by simp [h0,h1];rfl,rfl⟩
  ·refine wB ?_;exact aY _ rfl nF ⟨by simp [h1];rfl,rfl⟩
 ·refine wB ?_;exact aY _ rfl nF ⟨by simp [h0];rfl,rfl⟩
theorem KY (g n:Nat) (l:List gV) :
 Ct prog 62 #[pt g] e (Net g n l::R) (fun v' L'=>v'=.int .i64 (l.length:Int)∧L'=Net g n l::R):=by
 refine C8 fun ad c=>?_
 refine a8 (args:=[_]) func62 rfl ntmps62 results62 rfl ?_;refine wB ?_;exact aY _ rfl nF ⟨rfl,rfl⟩
theorem sM (g n:Nat) (l:List gV) (m:gV) (hr:db (Net g n l::R) m.v m.b) (hb:m.b.length≤140737488351232) (hl:l.length≤n) (hn:n≤1000) :
 Ct prog 176 #[pt g,.agg m.cells.toArray] e (Net g n l::R)
  (fun v' L'=>(l.length<n∧v'=.bool true∧∃ v2,L'=Net g n (l++[{ m with v:=v2 }])::R)∨(¬ l.length<n∧v'=.bool false∧L'=Net g n l::R)):=by
 refine a7 (cn hr) ?_;intro h1;refine C8 fun ad c=>?_
 refine a8 (args:=[_,_]) func176 rfl ntmps176 results176 rfl ?_
 by_cases cO:l.length<n
 ·have tK:∀ A,db (A::cK g [.int .i64 (n:Int),.slice ad l.length c] 224 (0,0)::vP (.slice ad l.length c) l::cH (l.map gV.t)::R) m.v m.b:=fun A=>(hr.cL nF).tail
  obtain ⟨kind,Ok,to,v,b⟩:=m;dsimp only at tK h1 hb
  simp only [gV.cells]
  (repeat' first|refine Zb ?_|apply Zc|apply Zd|apply Ze|apply Zf|refine Yg fun _=>?_|refine YA ?_|apply YC|(refine bz (id:=1) [] mixed ?_;all_goals (refine tM 0 ?_);all_goals (refine tN 1 ?_);all_goals (refine tF 2 ?_);all_goals (refine tL 3 ?_);all_goals (refine tk 4 _ rfl (bM rfl) ?_);all_goals (refine tM 5 ?_);all_goals (refine tN 6 ?_);all_goals (refine tF 7 ?_);all_goals (refine tL 8 ?_);all_goals (first|refine tk 9 (.bool true) rfl (cD.iP (bR rfl rfl) zy) ?_|refine tk 9 (.bool false) rfl (cD.no (bR rfl rfl) zn) ?_);all_goals (refine bf zK ?_)))
  rename_i gb;refine bk (id:=3) [9,10,11] [cK gb [.int .i64 kind,.int .i64 Ok,.int .i64 to,v] Nl (0,0),cK g [.int .i64 (n:Int),.slice ad l.length c] 224 (0,0)] mixed ?_
  (refine tM 0 ?_;refine tM 1 ?_;refine tN 2 ?_;refine tF 3 ?_;refine tL 4 ?_)
  refine tk 5 _ rfl (cD.dy (cs:=[.int .i64 kind,.int .i64 Ok,.int .i64 to,v]) rfl zA rfl) ?_;refine tO 6 ?_;refine bg rfl rfl (KX _ e ⟨kind,Ok,to,v,b⟩ (tK _) hb) ?_;rintro _ _ ⟨dW,c2,rfl,rfl⟩;refine ⟨fun _=>zE,?_⟩;refine tO 7 ?_;refine bE (n:=4) rfl rfl rfl rfl zQ rfl (fun g2=>⟨fun _=>zE,?_⟩);refine tO 8 ?_;refine bo rfl rfl rfl zP (bO (n:=4) (c:=1) .zero rfl zl) rfl rfl (by simp [Value.oneCell',gV.cells]) zm zo fun eI c3 _=>⟨fun _=>zE,?_⟩
  ((refine tO 9 ?_;refine dV (bm rfl) ?_);(refine tO 10 ?_;refine dV (ba rfl) ?_);(refine tO 11 ?_;refine tg ?_;refine ⟨zN,?_⟩))
  refine bf zK ?_;refine wB ?_;refine aY (Net g n (l++[⟨kind,Ok,to,.slice dW b.length c2,b⟩])::R) rfl (cj (show cz _ (cH (l.map gV.t)::cH [(.slice dW b.length c2,b)]::cK g [.int .i64 (n:Int),.slice eI (l.length+1) c3] 224 (0,0)::dJ Nl 4 (.slice eI (l.length+1) c3) (l.length+1) (l.flatMap gV.cells++gV.cells ⟨kind,Ok,to,.slice dW b.length c2,b⟩)::R) from zE) ?_) (.inl ⟨cO,rfl,_,rfl⟩);refine cj eK (cj ?_ (nF (ad:=eI) (c:=c3)));simp only [vP,aa,aj,aW,aU,List.flatMap_nil,aK,ah,List.map_cons,List.map_nil];exact zE
 ·(repeat' first|refine Zb ?_|apply Zc|apply Zd|apply Ze|apply Zf|refine Yg fun _=>?_|refine Yz ?_|apply YE|apply YF|(refine bz (id:=1) [] mixed ?_;all_goals (refine tM 0 ?_);all_goals (refine tN 1 ?_);all_goals (refine tF 2 ?_);all_goals (refine tL 3 ?_);all_goals (refine tk 4 _ rfl (bM rfl) ?_);all_goals (refine tM 5 ?_);all_goals (refine tN 6 ?_);all_goals (refine tF 7 ?_);all_goals (refine tL 8 ?_);all_goals (first|refine tk 9 (.bool true) rfl (cD.iP (bR rfl rfl) zy) ?_|refine tk 9 (.bool false) rfl (cD.no (bR rfl rfl) zn) ?_);all_goals (refine bf zK ?_)))
  exact aY _ rfl (cj zE nF) (.inr ⟨cO,rfl,rfl⟩)
theorem KZ {α:Type} {A Y zs W:List α} {m:Nat} (h:A.length=m):((A++Y).take m++zs++W).take m=A:=by
 rw [List.take_left' h,aM,List.take_left' h]
theorem C9 (ad:Option Addr) (c:Nat) (l:List gV) (i:Nat) (hi:i<l.length) (hb:∀ m∈l,m.v.oneCell'=true) :
 Ct prog 250 #[.slice ad l.length c,.int .i64 i,.int .i64 ((i:Int)+1)] e (vP (.slice ad l.length c) l::R) (fun v' L'=>v'=.slice ad (l.take i++l.drop (i+1)).length c∧L'=vP (.slice ad (l.take i++l.drop (i+1)).length c) (l.take i++l.drop (i+1))::R):=by
 refine a7 (sL .zero) ?_;rintro ⟨_,_,hv,hc,hm,hg⟩
 cases hv
 rcases hg with ⟨_,_,h0⟩|⟨g,rfl⟩
 ·omega
 simp only [maxLen] at hm
 have mS:∀ c∈l.flatMap gV.cells,c.oneCell'=true:=fun c hc=>by
  obtain ⟨m,hm,hc⟩:=List.mem_flatMap.1 hc;simp only [gV.cells,aQ,aP,or_false] at hc
  rcases hc with rfl|rfl|rfl|rfl
  ·rfl
  ·rfl
  ·rfl
  ·exact hb m hm
 refine a8 (args:=[_,_,_]) func250 rfl ntmps250 results250 rfl ?_;refine wB ?_;refine bx _ (cD.slice3 rfl rfl rfl rfl zo zo zo zo) rfl ?_;have e1:((i:Int)+1).toNat=i+1:=by omega
 have hlen:(l.take i++l.drop (i+1)).length=l.length - 1:=by rw [aa,aF,aO];omega
 refine wB ?_;refine bk (id:=5) [7] [] mixed ?_;refine bG 0 _ rfl zK bF (bu rfl) rfl ?_;refine bG 1 _ rfl zK bF (bu rfl) rfl ?_;refine bG 2 _ rfl zK bF (cD.iU rfl rfl zo zo) rfl ?_;refine bG 3 _ rfl zK bF (bu rfl) rfl ?_;refine bG 4 _ rfl zK bF (bu rfl) rfl ?_;refine bG 5 _ rfl zK bF (cD.ll rfl rfl zo zo) rfl ?_;refine tO 6 ?_;refine Do.LO (i:=i) (j:=i+1) (m:=l.length - (i+1)) rfl rfl rfl .zero rfl zo zo ?_ mS ⟨fun _=>bF,?_⟩
 ·rcases Nat.lt_or_ge (i+1) l.length with h|h
  ·right
   unfold cutAt;rw [aB zo,e1]
   simp [Addr.add_lit]
  ·left;omega
 refine tO 7 ?_;refine bN (bj rfl) rfl ⟨fun _=>bF,?_⟩;refine bf zK ?_;have e2:((i+(l.length - (i+1)):Nat):Int).toNat=l.length - 1:=by omega
 have e3:i+(l.length - (i+1))=l.length - 1:=by omega
 refine wB ?_;refine bC (Do.clear (o:=(l.length - 1)*4) rfl .zero rfl (by simp [Value.oneCell',Value.cells]) zo (.inr ?_) fun zs hz=>?_)
 ·unfold cutAt;rw [aB zo,e2]
  simp [Addr.add_lit]
 have tH:=nM (E:=Nl) (n:=4) (ad:=some ⟨g,0,none⟩) (k:=l.length) (lo:=l.length - 1) (c:=c) (R:=R)
  (xs:=((l.flatMap gV.cells).take (i*4)++((l.flatMap gV.cells).drop ((i+1)*4)).take ((l.length - (i+1))*4)++(l.flatMap gV.cells).drop ((i+(l.length - (i+1)))*4)).take ((l.length - 1)*4)++zs ++
   ((l.flatMap gV.cells).take (i*4)++((l.flatMap gV.cells).drop ((i+1)*4)).take ((l.length - (i+1))*4)++(l.flatMap gV.cells).drop ((i+(l.length - (i+1)))*4)).drop ((l.length - 1)*4+((l.length:Int).toNat - ((i+(l.length - (i+1)):Nat):Int).toNat)*4)) zo
 refine O.fo tH ?_;refine wB ?_;rw [e3];refine aY _ rfl ?_ ⟨by rw [hlen];rfl,rfl⟩;unfold vP;rw [hlen];have hx:=Nm l
 have e4:((l.flatMap gV.cells).take (i*4)++((l.flatMap gV.cells).drop ((i+1)*4)).take ((l.length - (i+1))*4)).length=(l.length - 1)*4:=by
  simp only [aa,aF,aO,hx];omega
 rw [KZ e4,I7,Pw,I7,aG (l:=l.drop (i+1)) (by rw [aO];omega),← aW];exact aX
theorem Fq {R:List cJ} {l:List gV} {i:Nat} (h:i<l.length):cz (cH (l.map gV.t)::R) (cH [(l[i]'h).t]::cH ((l.take i++l.drop (i+1)).map gV.t)::R):=by
 have e1:l.map gV.t=(l.take i).map gV.t++([(l[i]'h).t]++(l.drop (i+1)).map gV.t):=by
  have e2:l=l.take i++l[i]::l.drop (i+1):=by rw [← List.drop_eq_getElem_cons h,List.take_append_drop]
  conv=>lhs;rw [e2]
  simp only [ah,List.map_cons,List.singleton_append]
 rw [e1,ah];refine cj qc (cj (bh qc) (cj (bw (.succ .zero) aX) (bh eK)))
theorem jr (g n:Nat) (l:List gV) (i:Int) (hl:l.length≤1000) (hb:∀ m∈l,m.v.oneCell'=true) :
 Ct prog 177 #[pt g,.int .i64 i] e (Net g n l::R)
  (fun v' L'=>(∃ (k:Nat) (h:k<l.length),i=k∧v'=.tuple #[.agg (l[k]'h).cells.toArray,.bool true]∧L'=cH [(l[k]'h).t]::Net g n (l.take k++l.drop (k+1))::R) ∨
   (¬ (0≤i∧i<l.length)∧v'=.tuple #[.agg (gV.cells ⟨0,0,0,nY,[]⟩).toArray,.bool false]∧L'=Net g n l::R)):=by
 refine bH (args:=[_,_]) func177 rfl ntmps177 results177 rfl ?_
 (repeat (refine wA ?_;intros))
 refine aZ rfl rfl (Ct.at (.succ .zero) (Fp _ e g n l i hl)) ?_;rintro _ _ ⟨rfl,rfl⟩
 by_cases h:0≤i∧i<l.length
 ·obtain ⟨k,rfl⟩:=Int.eq_ofNat_of_zero_le h.1;have hk:k<l.length:=by omega
  rw [show decide (0≤(k:Int)∧(k:Int)<l.length)=true by simp [hk]];refine O.fo (bw .zero aX) ?_;refine Fo fun ad c=>?_
  refine bn (sL (.succ .zero)) ?_;rintro ⟨_,_,hv,hc,hm,hg⟩
  cases hv
  rcases hg with ⟨_,_,h0⟩|⟨g1,rfl⟩
  ·omega
  have G2:∀ L',dZ (vP (.slice (some ⟨g1,0,none⟩) l.length c) l::L') g1 (0+k*4) (l[k]'hk).cells:=fun L'=>dZ.elem (bb .zero) px (ae hk)
  have h1:=hb _ (az hk);refine wB ?_;refine O.dy rfl (G2 _).tail rfl rfl ?_
  generalize hm:l[k]'hk=m at *
  obtain ⟨kind,Ok,to,v,b⟩:=m;dsimp only at h1
  simp only [gV.cells]
  (repeat (refine wA ?_;intros))
  refine aZ rfl rfl (Ct.at (.succ (.succ .zero)) (C9 _ e (some ⟨g1,0,none⟩) c l k hk hb)) ?_;rintro _ _ ⟨rfl,rfl⟩;refine wB ?_;apply br
  ·exact zV
  ·refine ⟨cH [(l[k]'hk).t]::Net g n (l.take k++l.drop (k+1))::R,?_,.inl ⟨k,hk,rfl,by rw [hm];rfl,rfl⟩⟩;refine cj (show cz _ (cH (l.map gV.t)::cK g [.int .i64 (n:Int),.slice (some ⟨g1,0,none⟩) (l.take k++l.drop (k+1)).length c] 224 (0,0)::vP (.slice (some ⟨g1,0,none⟩) (l.take k++l.drop (k+1)).length c) (l.take k++l.drop (k+1))::R) from zE) ?_;refine cj (Fq hk) (bh (cj ?_ (nF (ad:=some ⟨g1,0,none⟩) (c:=c))));exact zE
 ·rw [show decide (0≤i∧i<l.length)=false by simpa using h];refine wB ?_;apply br
  ·exact zV
  ·exact ⟨_,zE,.inr ⟨h,rfl,rfl⟩⟩
theorem Da (g n:Nat) (l:List gV) (i:Int) (hl:l.length≤n) (hn:n≤1000) (hb:∀ m∈l,m.b.length≤140737488351232) :
 Ct prog 181 #[pt g,.int .i64 i] e (Net g n l::R)
  (fun v' L'=>(∃ (k:Nat) (h:k<l.length) (v2:Value),i=k∧l.length<n∧v'=.bool true∧L'=Net g n (l++[{ (l[k]'h) with v:=v2 }])::R) ∨
   (¬ ((0≤i∧i<l.length)∧l.length<n)∧v'=.bool false∧L'=Net g n l::R)):=by
 refine a8 (args:=[_,_]) func181 rfl ntmps181 results181 rfl ?_;refine wB ?_;refine aZ rfl rfl (Fp _ e g n l i zo) ?_;rintro _ _ ⟨rfl,rfl⟩
 by_cases h:0≤i∧i<l.length
 ·obtain ⟨k,rfl⟩:=Int.eq_ofNat_of_zero_le h.1;have hk:k<l.length:=by omega
  rw [show decide (0≤(k:Int)∧(k:Int)<l.length)=true by simp [hk]];refine Fo fun ad c=>?_
  refine bn (sL (.succ .zero)) ?_;rintro ⟨_,_,hv,hc,hm,hg⟩
  cases hv
  rcases hg with ⟨_,_,h0⟩|⟨g1,rfl⟩
  ·omega
  have G2:∀ L',dZ (vP (.slice (some ⟨g1,0,none⟩) l.length c) l::L') g1 (0+k*4) (l[k]'hk).cells:=fun L'=>dZ.elem (bb .zero) px (ae hk)
  have jx:db (Net g n l::R) (l[k]'hk).v (l[k]'hk).b:=db.cL (eF (l[k]'hk).t (aE.2 ⟨_,az hk,rfl⟩)) BO;refine wB ?_;refine O.dy rfl (G2 _).tail rfl rfl ?_
  (repeat (refine wA ?_;intros))
  refine O.fo nF ?_;refine aZ rfl rfl (sM R e g n l (l[k]'hk) jx (hb _ (az hk)) hl hn) ?_;rintro _ _ (⟨h1,rfl,v2,rfl⟩|⟨h1,rfl,rfl⟩)
  ·refine wB ?_;exact aY _ rfl aX (.inl ⟨k,hk,v2,rfl,h1,rfl,rfl⟩)
  ·refine wB ?_;exact aY _ rfl aX (.inr ⟨fun h2=>h1 h2.2,rfl,rfl⟩)
 ·rw [show decide (0≤i∧i<l.length)=false by simpa using h];refine wB ?_;exact aY _ rfl aX (.inr ⟨fun h2=>h h2.1,rfl,rfl⟩)
end Go.Proofs
namespace Go.Proofs
open Go.Bs
open Tryz
abbrev mX:TypeId:=340
def ig (k:Fin 1000 × Fin 1000):Value:=.agg #[.int .i64 (k.1.val:Int),.int .i64 (k.2.val:Int)]
theorem I8:prog.keyTypeAt 3 mX=true:=by kernel_rfl
theorem No:prog.cellsOf mX=2:=by kernel_rfl
theorem Px:prog.cellsOf 3=1:=by kernel_rfl
theorem Fs (n:Fin 1000):(Lit.int .i64 (n.val:Int)).wf=true:=by
 have:=n.isLt
 simp [Lit.wf,IntKind.min,IntKind.max,IntKind.bits,IntKind.signed]
 omega
theorem vQ (k:Fin 1000 × Fin 1000):prog.keyLits 3 mX [.int .i64 (k.1.val:Int),.int .i64 (k.2.val:Int)]=some [.int .i64 (k.1.val:Int),.int .i64 (k.2.val:Int)]:=by
 have h1:=Fs k.1;have h2:=Fs k.2
 simp [Program.keyLits,underlying340,underlying3,No,Px,h1,h2]
theorem qH (k:Fin 1000 × Fin 1000):(ig k).formed prog mX=true:=by
 simp [ig,Value.formed,underlying340,No]
theorem Py (w:World) (a b:Fin 1000 × Fin 1000):(Op.equal mX (ig a) (ig b)).run prog w=.ok (decide (a=b)) w:=by
 obtain ⟨r,hr,Wh⟩:=run_equalIn_deep (P:=prog) 9997 3 mX I8 w 3 3 (ig a) (ig b) _ _ (qH a) (qH b) (vQ a) (vQ b)
 have he:decide (a=b)=r:=by
  by_cases h:a=b
  ·subst h;rw [ay rfl];exact (Wh.2 rfl).symm
  ·rw [aq h]
   cases r with
   | false=>rfl
   | true =>
    have h2:=Wh.1 rfl;simp only [List.cons.injEq,Lit.int.injEq,and_true,true_and] at h2
    exact absurd (Prod.ext (Fin.ext zo) (Fin.ext zo)) h
 rw [he];exact hr
theorem zt (w:World) (k:Fin 1000 × Fin 1000):∀ (l:List MapEntry) (mP:List ((Fin 1000 × Fin 1000) × Value)) (j:Nat),l.map (fun e=>(e.key,e.val))=mP.map (fun p=>(ig p.1,p.2))→(Instr.findAsking mX (ig k) l j).run prog w=.ok (uo k mP j) w
 | [],mP,j,h=>by
  cases mP with
  | nil=>rfl
  | cons _ _=>simp at h
 | e::l,mP,j,h=>by
  cases mP with
  | nil=>simp at h
  | cons p mP =>
   simp only [List.map_cons,List.cons.injEq,Prod.mk.injEq] at h
   obtain ⟨⟨h1,h2⟩,h3⟩:=h;unfold Instr.findAsking uo;simp only [Sem.run_bind,h1,Py,Result.andThen_ok]
   by_cases hk:k=p.1
   ·rw [ay hk,aI hk.symm,h2];rfl
   ·rw [aq hk];simp only [Bool.false_eq_true,if_false];rw [aB (show ¬ p.1=k from fun q=>hk q.symm)];exact zt w k l mP (j+1) h3
instance abl:Hj prog 169 ig (.agg #[.int .i64 0,.int .i64 0,nY,nY]) :=
 ⟨mX,96,underlying169,zeroValue96,fun b k w=>run_checkKey_deep b 9997 3 mX I8 w 3 (ig k) _ (qH k) (vQ k),fun k l mP w h=>by
  unfold Instr.findKey
  cases l with
  | nil =>
   have:=zt w k [] mP 0 h;simp only [Sem.run_bind,run_underlying underlying340,Result.andThen_ok,Instr.findNow]
   cases mP with
   | nil=>rfl
   | cons _ _=>simp at h
  | cons e l =>
   have hn:∀ fs,Instr.findNow (TypeDesc.struct fs) (ig k) (e::l) 0=none:=fun fs=>rfl
   have:=zt w k (e::l) mP 0 h;simp only [Sem.run_bind,run_underlying underlying340,Result.andThen_ok,hn]
   exact this,fun k=>by
  simp [ig,Instr.sameBits]⟩
theorem _root_.Go.Bs.cD.SJ {P:Program} {N:Fr} {ty:TypeId} {σ:Env} {e:World} {L:List cJ} {x:Operand} {t f:Nat} {a b v:Value} (hr:∀ w,(Instr.field t (.agg #[a,b]) f).run P w=.ok v w) (h:ev σ x=some (.agg [a,b].toArray)):cD P N (.field t x f) ty v σ e L:=fun w a ha _ _ _ _ _=>by
 have h2:=hr
 simp [execOp,ha.ev h,h2]
end Go.Proofs
namespace Go.Proofs
attribute [local irreducible] Bs.cD Bs.Do Bs.O Bs.W Bs.Fin Bs.A Bs.Ct Bs.cE Bs.Rd Bs.Sat Bs.cK Bs.Ob Bs.dJ Bs.View Bs.cz Bs.Ex Bs.dH Bs.Pu Bs.eY Bs.dM Bs.dZ
open Go.Bs
open Tryz
variable (R:List cJ) (e:World)
structure dh where
 k:Nat
 ey:Nat
 room:Nat
 size:Nat
 wait:Nat
 retry:Nat
def dh.f (c:dh):m4:=⟨c.room,c.size,c.wait⟩
def cS (i:Nat):dv:=ei 20 [be i 4]
theorem py (i:Nat):(cS i).length=32:=df _ _
def dN:dv:=kM (cS 0)
def cZ (c:dh):jH:=⟨dN,(List.range c.k).map fun i=>kM (cS (i+1)),c.ey⟩
def iS:dv:=[112,117,109,112]
structure dh.ok (c:dh):Prop where
 k:1≤c.k∧c.k≤3
 ey:1≤c.ey∧c.ey≤c.k
 f:c.f.ok
 retry:1≤c.retry∧c.retry≤100
 wU:(cZ c).right
theorem lh (c:dh):(cZ c).ew.length=c.k:=by simp [cZ]
inductive fZ where
 | ask (w:Nat) (x:j6) (n m:Nat) (path:List dv)
 | iP (w:Nat) (g:kN)
 | no (w:Nat) (size:Nat)
 | off (b:wQ)
def qI (x:j6) (n m:Nat) (path:List dv):dv:=hO x++(be n 4++(be m 4++(UInt8.ofNat path.length::path.flatten)))
def fZ.d (k:Nat):fZ→Int × Int × Int × dv
 | .ask w x n m path=>(1,0,((w+1:Nat):Int),qI x n m path)
 | .iP w g=>(2,((w+1:Nat):Int),0,1::eU g)
 | .no w size=>(2,((w+1:Nat):Int),0,0::be size 4)
 | .off b=>(3,0,((k+1:Nat):Int),fS b)
structure da where
 ls:fV
 fs:pe
 ws:List eN
 fd:cP
 n:Nat
 up:m2
 mo:Ge
 eh:List fZ
 time:Nat
 signed:Option jc
def lK (l:List dv) (c:jc):Prop:=c.size≤l.length∧c.root=ea ((l.take c.size).map cY)
def Ac (l:List dv) (x:j6):Prop:=x.ii dN∧x.sig.right∧lK l x.dc
theorem lK.more {l m:List dv} {c:jc} (h:lK l c):lK (l++m) c :=
 ⟨by rw [aa];exact Nat.le_trans h.1 (Nat.le_add_right ..),by rw [List.take_append_of_le_length h.1];exact h.2⟩
theorem Ac.more {l m:List dv} {x:j6} (h:Ac l x):Ac (l++m) x:=⟨h.1,h.2.1,h.2.2.more⟩
theorem Ac.fits {l:List dv} {x:j6} (h:Ac l x):x.fits:=⟨h.1.1,h.2.1⟩
def fZ.n9 (c:dh) (l:List dv):fZ→Prop
 | .ask w x n m path=>w<c.k∧Ac l x∧m=x.dc.size∧n≤m∧path=iX ((l.take m).map cY) n
 | .iP w g=>w<c.k∧g.fY=w∧g.sig.right
 | .no w size=>w<c.k∧size≤256
 | .off b=>b.wf∧b.fi.length≤200∧lQ (cZ c) b=0
def fZ.ok (c:dh) (l:List dv) (x:fZ):Prop:=0<l.length∧x.n9 c l
structure da.ok (c:dh) (m:Nat) (s:da):Prop where
 xC:c.ok
 steps:m≤250
 ls:s.ls.ok
 last:∀ x,s.ls.last=some x→Ac s.ls.cF x
 fs:s.fs.ok
 recs:s.fs.recs.Nodup
 DD:s.fs.recs.length≤m
 perm:(s.ls.cF++s.fs.q.map (·.1)).Perm s.fs.recs
 wl:s.ws.length=c.k
 ws:∀ w∈s.ws,w.ok∧w.recs.length≤m∧lK s.ls.cF w.c
 iP:∀ (i:Nat) (w:eN),s.ws[i]?=some w→w.some=true→w.dD.fY=i∧w.dD.sig.right
 fd:s.fd.ok c.k s.n
 nb:s.n≤4*m
 cur:∀ x,s.fd.cur=some x→Ac s.ls.cF x∧0<x.dc.size
 idle:s.fd.cur=none→s.fd.ag=[]
 kept:∀ g∈s.fd.kept,g.ii (cZ c) s.fd.dT.dc
 done:s.fd.dk≠[]→Ac s.ls.cF s.fd.done∧0<s.fd.done.dc.size∧uf (cZ c) s.fd.done.dc s.fd.dk
 up:s.up.ok iS
 Uf:s.up.recs.length≤m
 mo:s.mo.ok
 SK:s.mo.cF=s.ls.cF.take s.mo.cF.length
 eh:∀ x∈s.eh,x.ok c s.ls.cF
 room:s.eh.length≤32
 time:s.time≤1000*m
 signed:∀ x,s.signed=some x→lK s.ls.cF x∧x.right
theorem fZ.ok.more {c:dh} {l m:List dv} {x:fZ} (h:x.ok c l):x.ok c (l++m):=by
 refine ⟨by rw [aa];exact Nat.lt_of_lt_of_le h.1 (Nat.le_add_right ..),?_⟩;have h2:=h.2
 cases x with
 | ask w x n k path=>exact ⟨h2.1,h2.2.1.more,h2.2.2.1,h2.2.2.2.1,by rw [List.take_append_of_le_length (by rw [h2.2.2.1];exact h2.2.1.2.2.1)];exact h2.2.2.2.2⟩
 | iP w g=>exact h2
 | no w k=>exact h2
 | off b=>exact h2
structure Ev where
 k:Int
 a:Int
 b:Int
 v:Value
 t:dv
def Ev.cells (x:Ev):List Value:=[.int .i64 x.k,.int .i64 x.a,.int .i64 x.b,x.v]
abbrev tEv:TypeId:=121
abbrev js (v:Value) (l:List Ev):cJ:=dJ tEv 4 v l.length (l.flatMap Ev.cells)
abbrev di:TypeId:=171
abbrev fH:Int→Value:=fun n=>.int .i64 n
structure WX where
 g:Nat
 d:Nat
 k:Nat
structure ee where
 va:Value
 gl:Nat
 gf:Nat
 lZ:Value
 mB:Nat
 gu:Nat
 gm:Nat
 gn:Nat
 pU:Value
 ij:Value
 ve:Value
 mr:Nat
 ml:Nat
 vr:Value
 mc:Nat
 es:List Ev
 kr:List (Int × Value)
 kl:List (Int × Value)
 kc:List ((Fin 1000 × Fin 1000) × jl)
 wx:List WX
 ld:Nat
 lk:Nat
 xp:Nat
 ud:Nat
 nl:List gV
def da.sv (s:da):jc:=s.signed.getD ⟨0,[]⟩
abbrev ee.cells (a:ee) (c:dh) (s:da):List Value :=
 [.int .i64 (c.k:Int),.int .i64 (c.ey:Int),.int .i64 (c.room:Int),.int .i64 (c.size:Int),.int .i64 (c.wait:Int),.int .i64 (c.retry:Int),.int .i64 1048576,.string (str iS),
  a.va,pt a.gl,pt a.gf,a.lZ,pt a.mB,pt a.gu,pt a.gm,pt a.gn,
  a.pU,a.ij,.int .i64 (c.ey:Int),.int .i64 (s.time:Int),a.ve,.map (some a.mr),.map (some a.ml),.int .i64 (s.sv.size:Int),a.vr,.bool s.signed.isSome,.map (some a.mc)]
def ka:Nat→List WX→List eN→List cJ
 | i,x::xs,s::ss=>nB x.g x.d x.k i (cS (i+1)) dN s::ka (i+1) xs ss
 | _,_,_=>[]
abbrev pX:TypeId:=98
def jJ (x:WX):Value:=pt x.g
def sN (l:List ((Fin 1000 × Fin 1000) × jl)):List ((Fin 1000 × Fin 1000) × Value):=l.map fun p=>(p.1,.agg (jl.cells p.2).toArray)
structure I9 (L:List cJ) (w:Nat) (c:dh) (a:ee):Prop where
 all:∃ (vl vu:Value) (vs:List (Value × Nat × Nat)),vs.length=c.k∧a.wx.length=c.k ∧
  cE L 2 a.va (c.k+2) ([vl,.func (.func 160) #[pt w] #[]]++(vs.flatMap fun x=>[x.1,.func (.func 161) #[] #[pt x.2.1,pt x.2.2]])++[vu,.func (.func 163) #[pt w] #[]]) ∧
  cE L 1 vl 3 [pt a.ld,pt a.lk,pt a.xp] ∧
  cE L 1 vu 1 [pt a.ud] ∧
  (∀ i (h:i<vs.length) (h2:i<a.wx.length),cE L 1 (vs[i]).1 2 [.pointer (some ⟨(a.wx[i]).d,0,none⟩),.pointer (some ⟨(a.wx[i]).k,0,none⟩)]∧Rd L ⟨(vs[i]).2.1,0,none⟩ (pt w)∧Rd L ⟨(vs[i]).2.2,0,none⟩ (.int .i64 (i:Int)))
structure ee.ok (a:ee) (M:cJ) (w:Nat) (c:dh) (m:Nat) (s:da):Prop where
 wU:j7 [M] a.pU a.ij (cZ c)
 root:db [M] a.vr s.sv.root
 es:∀ x∈a.es,db [M] x.v x.t∧x.t.length≤1000
 kc:∀ p∈a.kc,jl.ok [M] p.2
 all:I9 [M] w c a
 eh:a.nl.map gV.d=s.eh.map (fZ.d c.k)
 st:s.ok c m
 ec:a.es.length≤600*m
abbrev dR (w:Nat) (c:dh) (s:da) (a:ee) (M:cJ) (R:List cJ):List cJ :=
 cK w (a.cells c s) di (0,0)::js a.ve a.es::iC fH a.mr a.kr::iC fH a.ml a.kl::iC ig a.mc (sN a.kc)::M::eg a.gf a.xp a.gl c.f s.fs::cV a.gl a.ld a.lk (cS 0) s.ls::dJ pX 1 a.lZ a.wx.length (a.wx.map jJ)::dH (ka 0 a.wx s.ws)::lf a.mB (cZ c) c.retry s.n s.fd::ke a.gu a.ud iS (cZ c) s.up::jq a.gm dN s.mo::Net a.gn 32 a.nl::R
def uG (w:Nat) (c:dh) (m:Nat) (s:da) (a:ee) (M:cJ):cJ:=dH (Pu (a.ok M w c m s)::dR w c s a M [])
def dO (w:Nat) (c:dh) (m:Nat) (s:da) (ev:List (Int × Int × Int × dv)):cJ:=Ex fun a=>Ex fun M=>dH [Pu (a.es.map (fun x=>(x.k,x.a,x.b,x.t))=ev),uG w c m s a M]
theorem gY {w:Nat} {c:dh} {m:Nat} {s:da} {ev:List (Int × Int × Int × dv)} {R:List cJ} {P:Program} {f:FuncId} {args:Array Value} {e:World} {Post:Value→List cJ→Prop}
 (h:∀ (a:ee) (M:cJ),a.ok M w c m s→a.es.map (fun x=>(x.k,x.a,x.b,x.t))=ev→Ct P f args e (dR w c s a M R) Post):Ct P f args e (dO w c m s ev::R) Post :=
 Ct.ex .zero fun a=>Ct.ex .zero fun M=>Ct.cL (a7 (p:=a.es.map (fun x=>(x.k,x.a,x.b,x.t))=ev) (fun w x=>(jQ x).1) fun he=>Ct.cL (Ct.cL (a7 (p:=a.ok M w c m s) (fun w x=>(jQ x).1) fun hp=>(h a M hp he).cL (cz.drop aX)) (cT (M:=Pu (a.ok M w c m s)::dR w c s a M []) (L:=R))) (cz.drop aX)) (cT (M:=[Pu (a.es.map (fun x=>(x.k,x.a,x.b,x.t))=ev),uG w c m s a M]) (L:=R))
theorem dU {w:Nat} {c:dh} {m:Nat} {s:da} {ev:List (Int × Int × Int × dv)} {a:ee} {M:cJ} {R:List cJ} (h:a.ok M w c m s) (he:a.es.map (fun x=>(x.k,x.a,x.b,x.t))=ev):cz (dR w c s a M R) (dO w c m s ev::R) :=
 cj (m7 h) (cj (dQ (M:=Pu (a.ok M w c m s)::dR w c s a M []) (L:=R)) (cj (m7 he) (cj (dQ (M:=[Pu (a.es.map (fun x=>(x.k,x.a,x.b,x.t))=ev),uG w c m s a M]) (L:=R)) (cj (fu (f:=fun M=>dH [Pu (a.es.map (fun x=>(x.k,x.a,x.b,x.t))=ev),uG w c m s a M]) M) (fu (f:=fun a=>Ex fun M=>dH [Pu (a.es.map (fun x=>(x.k,x.a,x.b,x.t))=ev),uG w c m s a M]) a)))))
theorem BP (k:IntKind) (n:Int):(Value.int k n).cells=#[.int k n]:=rfl
theorem ir (w:Nat) (c:dh) (s:da) (a:ee) (k x b:Int) (v:Value) (t:dv) (hv:v.oneCell'=true) (hl:a.es.length≤1000000) :
 Ct prog 167 #[pt w,.int .i64 k,.int .i64 x,.int .i64 b,v] e (cK w (a.cells c s) di (0,0)::js a.ve a.es::R) (fun v' L'=>v'=.tuple #[]∧∃ ve:Value,L'=cK w (ee.cells { a with ve:=ve } c s) di (0,0)::js ve (a.es++[⟨k,x,b,v,t⟩])::R):=by
 refine a7 ((bb (show cQ (cK w (a.cells c s) di (0,0)::js a.ve a.es::R) (js a.ve a.es) _ from zP)).shape zo) ?_;rintro ⟨⟨ad,ca,OZ,h3,h4,h5,h6⟩,_⟩;simp only [maxLen] at h4
 have xM:cK w (a.cells c s) di (0,0)::js a.ve a.es::R=cK w (ee.cells { a with ve:=.slice ad a.es.length ca } c s) di (0,0)::js (.slice ad a.es.length ca) a.es::R:=by
  rw [← OZ]
 rw [xM];refine a8 (args:=[_,_,_,_,_]) func167 rfl ntmps167 results167 rfl ?_
 (repeat' first|(refine bx (.agg #[.int .i64 k,.int .i64 x,.int .i64 b,v]) (bL (cells:=[.int .i64 k,.int .i64 x,.int .i64 b,v]) rfl (by simp [Instr.fill,BP,eQ hv])) rfl ?_)|refine Za ?_|apply Zd|refine Zg ?_|refine Zh ?_|refine Zi ?_|refine Yi fun _=>?_|fail)
 refine bC (bo rfl rfl rfl (show cQ _ (js (.slice ad a.es.length ca) a.es) _ from zP) (bO (n:=4) (c:=1) zP rfl zl) rfl rfl zO zm zo fun ef k1 _=>?_)
 refine wB ?_;refine bT (cK w (ee.cells { a with ve:=.slice ef (a.es.length+1) k1 } c s) di (0,0)::js (.slice ef (a.es.length+1) k1) (a.es++[⟨k,x,b,v,t⟩])::R) rfl ?_ ⟨rfl,_,rfl⟩;simp only [js,aa,aj,aW,aU,List.flatMap_nil,aK];exact zE
theorem pz (i:Nat) (hi:i<100) :
 Ct prog 158 #[.int .i64 (i:Int)] e R (fun v' L'=>∃ ad k,v'=.slice ad (cS i).length k∧L'=cR (.slice ad (cS i).length k) (cS i)::R):=by
 refine a8 (args:=[_]) func158 rfl ntmps158 results158 rfl ?_;refine wB ?_;refine aZ rfl rfl (jg _ e) ?_;rintro _ _ ⟨gw,rfl,rfl⟩;refine wB ?_;refine aZ rfl rfl (gF _ e gw [] i zo (by decide)) ?_;rintro _ _ ⟨rfl,rfl⟩;rw [show []++be i 4=be i 4 by simp];refine wB ?_;refine aZ rfl rfl (hI _ e gw _ (by rw [cX];omega)) ?_;rintro _ _ ⟨ad,k,rfl,rfl⟩
 (repeat (refine wA ?_;intros))
 refine aZ rfl rfl (fe _ e 20 _ [(.slice ad (be i 4).length k,be i 4)] (bB .zero rfl zl) (fun a ha=>by rw [an.1 ha];exact bb (.succ .zero)) (fun a ha=>by rw [an.1 ha];dsimp only;rw [cX];omega) (by simp)) ?_;rintro _ _ ⟨ef,k1,rfl,rfl⟩;refine wB ?_;exact aY (cR (.slice ef (cS i).length k1) (cS i)::R) rfl zE ⟨ef,k1,rfl,rfl⟩
abbrev DF:TypeId:=24
def H3 (g:Nat):Value:=pt g
def jK (gs:List Nat):List cJ:=gs.map fun g=>de g (dx [])
theorem qJ (n:Nat) (hn:n≤100) :
 Ct prog 159 #[.int .i64 (n:Int),.int .i64 1048576] e R (fun v' L'=>∃ (ad:Option Addr) (k:Nat) (gs:List Nat),v'=.slice ad gs.length k∧gs.length=n∧L'=dJ DF 1 (.slice ad gs.length k) gs.length (gs.map H3)::dH (jK gs)::R):=by
 refine a8 (args:=[_,_]) func159 rfl ntmps159 results159 rfl ?_;refine wB ?_;refine bq (ι:=List Nat × Option Addr × Nat) (fun j=>[(1,.int .i64 1048576),(5,.slice j.2.1 j.1.length j.2.2),(8,.int .i64 (n:Int)),(9,.int .i64 (j.1.length:Int))]) (fun j=>dJ DF 1 (.slice j.2.1 j.1.length j.2.2) j.1.length (j.1.map H3)::dH (jK j.1)::R) (fun j=>j.1.length≤n) (fun j=>n - j.1.length) ([],none,0) (aH _) zS (cj (du DF 1) (bh (dQ (M:=[]) (L:=R)))) ?_;rintro ⟨gs,ad,k⟩ hle;dsimp only at hle ⊢
 by_cases cO:gs.length<n
 rotate_left
 ·refine wB ?_;exact aY (dJ DF 1 (.slice ad gs.length k) gs.length (gs.map H3)::dH (jK gs)::R) rfl zE ⟨ad,k,gs,rfl,by omega,rfl⟩
 refine wB ?_;refine aZ rfl rfl (Kc _ e 1048576 zo) ?_;rintro _ _ ⟨gd,rfl,rfl⟩
 (repeat (refine wA ?_;intros))
 refine bC (bo rfl rfl rfl (show cQ _ (dJ DF 1 (.slice ad gs.length k) gs.length (gs.map H3)) _ from zP) (bB zP rfl zl) rfl rfl zO zm zo fun ef k1 _=>?_)
 refine wB ?_;refine bi (gs++[gd],ef,k1) (by dsimp only;rw [aa];exact cO) (by dsimp only;rw [aa];show n - (gs.length+1)<_;omega) ?_ ?_
 ·simp only [aa,aj];exact zS
 ·simp only [aa,aj,ah,List.map_cons,List.map_nil,jK];refine cj ?_ (bh (all_append (M:=gs.map fun g=>de g (dx [])) (N:=[de gd (dx [])]) (R:=R)));refine cj ?_ (bh (bh (dQ (M:=[de gd (dx [])]) (L:=R))));exact zE
theorem H4 (w:Nat) (y:jc) (u:Value) (b:Bool) (x:jc) (v:Value) (hb:Rd R ⟨w,25,none⟩ (.bool b)) (ha:dZ R w 23 (iR y u)) (hr:b=true→db R u y.root) (hx:db R v x.root) :
 Ct prog 173 #[pt w,.agg (iR x v).toArray] e R (fun v' L'=>v'=.bool (b && decide (y=x))∧R=L'):=by
 refine a7 (cn hx) fun o2=>?_
 cases b with
 | false =>
  refine a8 (args:=[_,_]) func173 rfl ntmps173 results173 rfl ?_
  (repeat (refine wA ?_;intros))
  rename_i g;refine bk (id:=1) [12] (cK g (iR x v) 83 (0,0)::R) mixed ?_
  (refine tM 0 ?_;refine tN 1 ?_;refine tF 2 ?_)
  refine tk 3 _ rfl (bp rfl hb.tail) ?_
  (refine tM 4 ?_;refine bc 5 rfl rfl zK zE rfl ?_;refine bc 6 rfl rfl zK zE rfl ?_;refine bc 7 rfl rfl zK zE rfl ?_;refine bc 8 rfl rfl zK zE rfl ?_;refine bc 9 rfl rfl zK zE rfl ?_)
  refine bc 10 rfl rfl zK zE rfl ?_
  (refine tk 11 _ rfl (bI rfl rfl) ?_;(refine tO 12 ?_;refine dV (bj rfl) ?_))
  refine bf zK ?_;refine wB ?_;exact aY R rfl zE ⟨rfl,rfl⟩
 | true =>
  have hr:=hr rfl;refine a7 (cn hr) fun o1=>?_
  refine a8 (args:=[_,_]) func173 rfl ntmps173 results173 rfl ?_
  (repeat (refine wA ?_;intros))
  rename_i g;refine bk (id:=1) [12] (cK g (iR x v) 83 (0,0)::R) mixed ?_
  (refine tM 0 ?_;refine tN 1 ?_;refine tF 2 ?_)
  refine tk 3 _ rfl (bp rfl hb.tail) ?_
  (refine tM 4 ?_;refine dt 5 _ rfl (bu rfl) ?_;refine dt 6 _ rfl (bm rfl) ?_;refine dt 7 _ rfl (ba rfl) ?_)
  refine dt 8 _ rfl (cD.dy rfl ha.tail rfl) ?_
  (refine dt 9 _ rfl (cD.dy rfl zA zX) ?_)
  refine A.ru 10 rfl rfl zK ?_;refine bg rfl rfl (yy _ e u v y x (hr.cL zE) (hx.cL zE)) ?_;rintro _ _ ⟨rfl,rfl⟩;refine ⟨fun _=>zE,?_⟩
  (refine tk 11 _ rfl (bK rfl rfl) ?_;(refine tO 12 ?_;refine dV (bj rfl) ?_))
  refine bf zK ?_;refine wB ?_;exact aY R rfl zE ⟨rfl,rfl⟩
def rF (ev:List (Int × Int × Int × dv)) (s:da):Prop:=∀ x∈ev,x.1≠3∧(x.1=7∨s.fs.recs≠[])
theorem rF.nil {s:da}:rF [] s:=fun x hx=>by cases hx
theorem da.ok.next {c:dh} {m:Nat} {s:da} (h:s.ok c m) (hm:m<250):s.ok c (m+1) :=
 {h with
  steps:=hm
  DD:=Nat.le_succ_of_le h.DD
  ws:=fun w hw=>⟨(h.ws w hw).1,Nat.le_succ_of_le (h.ws w hw).2.1,(h.ws w hw).2.2⟩
  nb:=by have:=h.nb;omega
  Uf:=Nat.le_succ_of_le h.Uf
  time:=by have:=h.time;omega }
def da.sub (c:dh) (s:da) (b:dv):da:={ s with fs:=(s.fs.fC c.f s.ls.cF b (s.time:Int)).2.2 }
theorem BQ (c:m4) (cF:List dv) (s:pe) (b:dv) (now:Int):((s.fC c cF b now).2.2=s)∨(ji b∧¬ b∈cF∧¬ b∈s.q.map (·.1)∧s.fC c cF b now=(1,(s.recs.length:Int),⟨s.recs++[b],s.q++[(b,now)]⟩)):=by
 unfold pe.fC
 split
 ·exact .inl rfl
 ·rename_i h1
  split
  ·exact .inl rfl
  ·rename_i h2
   split
   ·exact .inl rfl
   ·rename_i h3
    split
    ·exact .inl rfl
    ·exact .inr ⟨Classical.not_not.1 h1,h2,h3,rfl⟩
theorem da.Np {c:dh} {m:Nat} {s:da} {b:dv} (h:s.ok c m) (hm:m<250) (hb:b.length≤200):(s.sub c b).ok c (m+1):=by
 unfold da.sub;rcases BQ c.f s.ls.cF s.fs b (s.time:Int) with h1|⟨h1,h2,h3,h4⟩
 ·rw [h1];exact h.next hm
 ·rw [h4];have ht:=h.time;have hp:=h.perm
  have hnr:¬ b∈s.fs.recs:=fun q=>by
   rcases aJ.1 (hp.mem_iff.2 q) with q|q
   ·exact h2 q
   ·exact h3 q
  have hf:=h.fs;have hl:=h.DD;have hs:=h.steps;have hql:s.fs.q.length≤s.fs.recs.length:=by have:=hp.length_eq;rw [aa,ab] at this;omega
  exact { h.next hm with
   fs:={
    size:=by show (s.fs.recs++[b]).length≤1000;rw [aa,aj];omega
    n9:=fun x hx=>by
     rcases aJ.1 hx with hx|hx
     ·exact hf.n9 x hx
     ·rw [an.1 hx];exact ⟨h1,hb⟩
    BE:=by show (s.fs.q++[(b,(s.time:Int))]).length≤1000;rw [aa,aj];omega
    pf:=fun x hx=>by
     rcases aJ.1 hx with hx|hx
     ·exact hf.pf x hx
     ·rw [an.1 hx];exact hb
    wP:=fun x hx=>by
     rcases aJ.1 hx with hx|hx
     ·exact hf.wP x hx
     ·rw [an.1 hx]
      show -9223372036854775808≤(s.time:Int)∧(s.time:Int)≤1000000
      omega }
   recs:=List.nodup_append.2 ⟨h.recs,by simp,fun x hx y hy=>by rw [an.1 hy];rintro rfl;exact hnr hx⟩
   DD:=by show (s.fs.recs++[b]).length≤m+1;rw [aa,aj];omega
   perm:=by
    show (s.ls.cF++(s.fs.q++[(b,(s.time:Int))]).map (·.1)).Perm (s.fs.recs++[b])
    rw [ah,← aM];exact hp.append_right _ }
theorem I9.cL {L L':List cJ} {w:Nat} {c:dh} {a:ee} (h:I9 L' w c a) (f:cz L L'):I9 L w c a:=by
 obtain ⟨vl,vu,vs,h1,h2,h3,h4,h5,h6⟩:=h.all;exact ⟨vl,vu,vs,h1,h2,h3.cL f,h4.cL f,h5.cL f,fun i hi Og=>⟨(h6 i hi Og).1.cL f,(h6 i hi Og).2.1.cL f,(h6 i hi Og).2.2.cL f⟩⟩
theorem ee.ok.more {a:ee} {M N:cJ} {w:Nat} {c:dh} {m:Nat} {s:da} (h:a.ok M w c m s) (f:cz [N] [M]):a.ok N w c m s :=
 {h with wU:=h.wU.cL f,root:=h.root.cL f,es:=fun x hx=>⟨(h.es x hx).1.cL f,(h.es x hx).2⟩,kc:=fun p hp=>(h.kc p hp).cL f,all:=h.all.cL f }
theorem ee.ok.to {a:ee} {M:cJ} {w:Nat} {c:dh} {m m':Nat} {s s':da} (h:a.ok M w c m s) (hs:s'.ok c m') (hm:m≤m') (h1:s'.signed=s.signed) (h2:s'.eh=s.eh):a.ok M w c m' s' :=
 {h with root:=by unfold da.sv;rw [h1];exact h.root,eh:=by rw [h2];exact h.eh,st:=hs,ec:=Nat.le_trans h.ec (Nat.mul_le_mul_left _ hm) }
theorem ee.ok.seen {a:ee} {M:cJ} {w:Nat} {c:dh} {m:Nat} {s:da} (h:a.ok M w c m s) {x:Ev} (ve:Value) (hx:db [M] x.v x.t) (hl:a.es.length+1≤600*m) (ht:x.t.length≤1000):ee.ok { a with ve:=ve,es:=a.es++[x] } M w c m s :=
 {h with
  es:=fun y hy=>by
   rcases aJ.1 hy with hy|hy
   ·exact h.es y hy
   ·rw [an.1 hy];exact ⟨hx,ht⟩
  all:=⟨h.all.all⟩
  ec:=by show (a.es++[x]).length≤_;rw [aa,aj];exact hl }
theorem ee.ok.kr {a:ee} {M:cJ} {w:Nat} {c:dh} {m:Nat} {s:da} (h:a.ok M w c m s) (kr:List (Int × Value)):ee.ok { a with kr:=kr } M w c m s:={ h with all:=⟨h.all.all⟩ }
theorem ee.ok.kl {a:ee} {M:cJ} {w:Nat} {c:dh} {m:Nat} {s:da} (h:a.ok M w c m s) (kl:List (Int × Value)):ee.ok { a with kl:=kl } M w c m s:={ h with all:=⟨h.all.all⟩ }
theorem Ft {A B:cJ}:cz [dH [A,B]] [A]:=cj (cT (M:=[_,_]) (L:=[])) (bh bF)
theorem Fu {A B:cJ}:cz [dH [A,B]] [B]:=cj (cT (M:=[_,_]) (L:=[])) (cz.drop (bh bF))
instance abm:Hj prog 166 fH (.string (str [])):=Sa underlying166 underlying3 zeroValue9
abbrev ot (k n to wh:Int) (v:Value):List Value:=[.int .i64 k,.int .i64 n,.int .i64 to,.int .i64 wh,v]
abbrev eM:TypeId:=56
theorem K0 (w:Nat) (c:dh) (m:Nat) (s:da) (ev:List (Int × Int × Int × dv)) (k n to wh:Int) (v:Value) (b:dv) (hv:db R v b) (hb:b.length≤200) (hm:m<250) :
 Ct prog 82 #[pt w,.agg (ot k n to wh v).toArray] e (dO w c m s ev::R) (fun v' L'=>v'=.tuple #[.int .i64 (s.fs.fC c.f s.ls.cF b (s.time:Int)).1,.int .i64 0]∧∃ jP,rF jP (s.sub c b)∧L'=dO w c (m+1) (s.sub c b) (ev++jP)::R):=by
 refine gY fun a M ha he=>?_
 have eJ:=ha.st;have m6:=da.Np eJ hm hb;have ht:=eJ.time;have Pb:=eJ.DD;have hql:s.fs.q.length≤s.fs.recs.length:=by have:=eJ.perm.length_eq;rw [aa,ab] at this;omega
 have Q0:=ha.ec;refine a7 (cn (hv.cL (show cz (dR w c s a M R) R from zE))) fun o1=>?_
 refine a8 (args:=[_,_]) func82 rfl ntmps82 results82 rfl ?_
 (repeat (refine wA ?_;intros))
 refine aZ rfl rfl (Ct.at zP (mT _ e a.gf a.xp a.gl c.f s.fs)) ?_;rintro _ _ ⟨rfl,rfl⟩
 (repeat' first|refine W.pF (id:=3) (fun j:Nat × Nat=>[(0,pt w),(3,pt j.1),(6,.int .i64 (s.fs.recs.length:Int)),(7,pt j.2)]) (fun j=>cK j.2 [.int .i64 (s.fs.fC c.f s.ls.cF b (s.time:Int)).1,.int .i64 (s.fs.fC c.f s.ls.cF b (s.time:Int)).2.1] 254 (0,0)::cK j.1 (ot k n to wh v) eM (0,0)::dR w c (s.sub c b) a M R) (fun _=>True) ?_ ?_|refine Zb ?_|apply Ze|apply Zf)
 rotate_left
 ·refine ⟨?_⟩;rename_i g3;refine bk (id:=2) [12] (cK g3 (ot k n to wh v) eM (0,0)::cK w (a.cells c s) di (0,0)::M::R) mixed ?_
  (refine tM 0 ?_;refine tN 1 ?_;refine tF 2 ?_;refine tL 3 ?_;refine tF 4 ?_;refine tL 5 ?_;refine tM 6 ?_;refine tN 7 ?_;refine tF 8 ?_;refine tL 9 ?_)
  refine A.two 10 11 rfl rfl rfl rfl zK ?_ ?_
  ·refine bg rfl rfl (Ct.AO zP zP (uy _ e a.gf a.xp a.gl a.ld a.lk (cS 0) s.ls c.f s.fs v b (s.time:Int) (hv.cL zE) hb zo zo zo)) ?_;rintro _ _ ⟨rfl,rfl⟩;refine ⟨fun _=>zE,?_⟩;refine tO 11 ?_;refine bQ (cs:=[.int .i64 0,.int .i64 0]) rfl rfl fun g7=>⟨fun _=>zE,?_⟩
   refine tO 12 ?_;refine zg ?_;refine ⟨zN,?_⟩;refine bf zK ?_;exact bJ (g3,g7) trivial zS zE
  ·refine bQ (cs:=[.int .i64 0,.int .i64 0]) rfl rfl fun g7=>⟨fun _=>zE,?_⟩
   refine tO 10 ?_;refine bg rfl rfl (Ct.AO zP zP (uy _ e a.gf a.xp a.gl a.ld a.lk (cS 0) s.ls c.f s.fs v b (s.time:Int) (hv.cL zE) hb zo zo zo)) ?_;rintro _ _ ⟨rfl,rfl⟩;refine ⟨fun _=>zE,?_⟩;refine tO 12 ?_;refine zg ?_;refine ⟨zN,?_⟩;refine bf zK ?_;exact bJ (g3,g7) trivial zS zE
 rintro ⟨g3,g7⟩ -;dsimp only;refine wB ?_;refine aZ rfl rfl (Ct.at zP (mT _ e a.gf a.xp a.gl c.f (s.sub c b).fs)) ?_;rintro _ _ ⟨rfl,rfl⟩;rcases BQ c.f s.ls.cF s.fs b (s.time:Int) with h1|⟨h1,h2,h3,h4⟩
 ·have hs:s.sub c b=s:=by unfold da.sub;rw [h1]
  have er:a.ok M w c (m+1) s:={ ha with st:=by rw [← hs];exact m6,ec:=by omega }
  rw [hs];refine wB ?_;refine aY (dO w c (m+1) s ev::R) rfl (cj (show cz _ (dR w c s a M R) from zE) (dU er he)) ⟨rfl,[],rF.nil,by rw [aK]⟩
 ·have hs:s.sub c b={ s with fs:=⟨s.fs.recs++[b],s.fs.q++[(b,(s.time:Int))]⟩ }:=by unfold da.sub;rw [h4]
  have hlen:(s.sub c b).fs.recs.length=s.fs.recs.length+1:=by rw [hs];simp
  rw [h4];refine wB ?_;refine bk (id:=4) [10] (cK g7 [.int .i64 1,.int .i64 (s.fs.recs.length:Int)] 254 (0,0)::cK g3 (ot k n to wh v) eM (0,0)::dR w c (s.sub c b) a M R) mixed ?_
  (refine tM 0 ?_;refine tN 1 ?_;refine tF 2 ?_;refine tF 3 ?_;refine tL 4 ?_;refine tF 5 ?_;refine tL 6 ?_;refine tF 7 ?_;refine tL 8 ?_)
  refine tk 9 _ rfl (b8 rfl (hv.cL zE)) ?_;refine tO 10 ?_;refine Do.jU (key:=fH) (k:=(s.fs.recs.length:Int)) rfl rfl rfl zP ⟨zN,?_⟩;refine bf zK ?_
  (repeat (refine wA ?_;intros))
  refine bk (id:=5) [] (cK g7 [.int .i64 1,.int .i64 (s.fs.recs.length:Int)] 254 (0,0)::cK g3 (ot k n to wh v) eM (0,0)::R) mixed ?_
  (refine tM 0 ?_;refine tF 1 ?_;refine tL 2 ?_;refine tF 3 ?_;refine tL 4 ?_)
  refine tO 5 ?_;refine bg rfl rfl (ug _ e v b (hv.cL zE) zo) ?_;rintro _ _ ⟨ad,kk,rfl,rfl⟩;refine ⟨fun _=>zE,?_⟩;refine tO 6 ?_;refine bg rfl rfl (Ct.AO zP zP (ir _ e w c (s.sub c b) { a with kr:=lF (s.fs.recs.length:Int) (.string (str b)) a.kr } 1 (s.fs.recs.length:Int) 0 (.slice ad (cY b).length kk) (cY b) rfl zd)) ?_;rintro _ _ ⟨rfl,ve,rfl⟩;refine ⟨fun _=>zE,?_⟩;refine bf zK ?_;refine wB ?_;have er:=(((ha.more (Ft (A:=M) (B:=cR (.slice ad (cY b).length kk) (cY b)))).kr (lF (s.fs.recs.length:Int) (.string (str b)) a.kr)).to m6 (Nat.le_succ m) rfl rfl).seen (x:=⟨1,(s.fs.recs.length:Int),0,.slice ad (cY b).length kk,cY b⟩) ve (cE.cL (bb .zero) Fu) zd (by show (ei _ _).length≤1000;rw [df];omega);refine aY (dO w c (m+1) (s.sub c b) (ev++[(1,(s.fs.recs.length:Int),0,cY b)])::R) rfl (cj ?_ (dU er (by dsimp only;rw [ah,he];rfl))) ⟨rfl,_,?_,rfl⟩
  ·exact cj (ep (A:=M) (B:=cR (.slice ad (cY b).length kk) (cY b)) zP zP) zE
  ·intro x hx;rw [an.1 hx];exact ⟨(by decide:(1:Int)≠3),.inr (by rw [hs];simp)⟩
def da.Ol (s:da) (n:Nat):da:={ s with time:=s.time+n }
theorem da.Nq {c:dh} {m:Nat} {s:da} {n:Nat} (h:s.ok c m) (hm:m<250) (hn:n≤1000):(s.Ol n).ok c (m+1) :=
 {h.next hm with
  time:=by have:=h.time;show s.time+n≤1000*(m+1);omega }
theorem H5 (w:Nat) (c:dh) (m:Nat) (s:da) (ev:List (Int × Int × Int × dv)) (k to wh:Int) (n:Nat) (v:Value) (hv:v.oneCell'=true) (hn:n≤1000) (hm:m<250) :
 Ct prog 83 #[pt w,.agg (ot k n to wh v).toArray] e (dO w c m s ev::R) (fun v' L'=>v'=.tuple #[.int .i64 ((s.Ol n).time:Int),.int .i64 0]∧L'=dO w c (m+1) (s.Ol n) ev::R):=by
 refine gY fun a M ha he=>?_
 have eJ:=ha.st;have m6:=da.Nq eJ hm hn;have ht:=eJ.time;have er:=ha.to m6 (Nat.le_succ m) rfl rfl;refine a8 (args:=[_,_]) func83 rfl ntmps83 results83 rfl ?_
 (repeat (refine wA ?_;intros))
 rename_i g3;refine bk (id:=3) [7,8,9] (cK g3 (ot k n to wh v) eM (0,0)::cK w (a.cells c s) di (0,0)::R) mixed ?_
 (refine tM 0 ?_;refine tN 1 ?_;refine tF 2 ?_;refine tL 3 ?_;refine tF 4 ?_;refine tL 5 ?_;refine tk 6 _ rfl (cD.kP rfl rfl zo) ?_;(refine tO 7 ?_;refine dV (bm rfl) ?_);(refine tO 8 ?_;refine dV (ba rfl) ?_);(refine tO 9 ?_;refine tg ?_;refine ⟨zN,?_⟩))
 refine bf zK ?_;refine wB ?_;refine aY (dO w c (m+1) (s.Ol n) ev::R) rfl (cj (show cz _ (dR w c (s.Ol n) a M R) from zE) (dU er he)) ⟨rfl,rfl⟩
abbrev pV (l:List Ev):List (Int × Int × Int × dv):=l.map fun x=>(x.k,x.a,x.b,x.t)
theorem da.ok.some {c:dh} {m:Nat} {s:da} (h:s.ok c m) (hl:0<s.ls.cF.length):s.fs.recs≠[]:=fun q=>by
 have:=h.perm.length_eq;rw [q,aa,List.length_nil] at this
 omega
theorem da.ok.short {c:dh} {m:Nat} {s:da} (h:s.ok c m):s.ls.cF.length≤250:=by
 have:=h.perm.length_eq;rw [aa] at this
 have:=h.DD;have:=h.steps
 omega
theorem zu {l:List dv} {j:Nat} (h:j<l.length):l.getD j []∈l:=by
 have:l.getD j []=l[j]'h:=by simp [List.getD,ae h]
 rw [this];exact az h
theorem pA (w:Nat) (c:dh) (m:Nat) (s:da) (a:ee) (M:cJ) (ha:a.ok M w c m s) (i:Nat) (hi:i≤1000) (Q0:a.es.length+256≤600*m) :
 Ct prog 170 #[pt w,.int .i64 (i:Int)] e (dR w c s a M R) (fun v' L'=>v'=.tuple #[]∧∃ (a':ee) (M':cJ) (jP:List (Int × Int × Int × dv)),a'.ok M' w c m s∧pV a'.es=pV a.es++jP∧jP.length≤250∧rF jP s∧L'=dR w c s a' M' R):=by
 have Ir:=ha.st.short;have SI:=ha.st.steps;refine a8 (args:=[_,_]) func170 rfl ntmps170 results170 rfl ?_;refine wB ?_;refine bq (ι:=Nat × ee × cJ × List (Int × Int × Int × dv)) (fun j=>[(0,pt w),(4,.int .i64 (j.1:Int))]) (fun j=>dR w c s j.2.1 j.2.2.1 R) (fun j=>i≤j.1∧j.1≤1000∧j.2.1.ok j.2.2.1 w c m s∧pV j.2.1.es=pV a.es++j.2.2.2∧(j.2.2.2.length≤j.1∧(j.2.2.2=[]∨j.1≤s.ls.cF.length))∧rF j.2.2.2 s) (fun j=>s.ls.cF.length - j.1) (i,a,M,[]) ⟨aS _,hi,ha,by simp,⟨aH _,.inl rfl⟩,rF.nil⟩ zS aX ?_;rintro ⟨j,b,N,ev⟩ ⟨Dy,hj1,hb,DA,⟨F5,Sb⟩,Gf⟩;dsimp only at Dy hb DA F5 Gf Sb hj1 ⊢
 have oP:b.es.length=a.es.length+ev.length:=by have:=congrArg List.length DA;simpa using this
 have Nr:ev.length≤250:=by
  rcases Sb with h|h
  ·rw [h];simp
  ·omega
 refine wB ?_;refine aZ rfl rfl (Ct.at zP (yP _ e b.gl b.ld b.lk (cS 0) s.ls)) ?_;rintro _ _ ⟨rfl,rfl⟩
 by_cases cO:j<s.ls.cF.length
 rotate_left
 ·refine wB ?_;refine bT (dR w c s b N R) rfl zE ⟨rfl,b,N,ev,hb,DA,Nr,Gf,rfl⟩
 refine wB ?_;refine aZ rfl rfl (Ct.at zP (qx _ e b.gl b.ld b.lk (cS 0) s.ls (j:Int) zo)) ?_;rintro _ _ (⟨h1,-,-⟩|⟨-,-,ad,kk,rfl,rfl⟩)
 ·exact absurd ⟨by omega,by omega⟩ h1
 rw [Int.toNat_natCast];have VD:(s.ls.cF.getD j []).length≤200:=hb.st.ls.short _ (zu cO)
 generalize s.ls.cF.getD j []=x at *
 refine wB ?_;refine bx _ (cD.kE (key:=fH) (k:=(j:Int)) rfl rfl zP) rfl ?_
 generalize (gK (j:Int) b.kl).getD (.string (str []))=vk
 cases hk:(gK (j:Int) b.kl).isSome with
 | true =>
  refine wB ?_;refine bi (j+1,b,N,ev) ⟨by dsimp only;omega,by dsimp only;omega,hb,DA,⟨by dsimp only;omega,.inr cO⟩,Gf⟩ zd zS zE
 | false =>
  refine wB ?_;refine bk (id:=6) [8] (cR (.slice ad x.length kk) x::dR w c s b N R) mixed ?_
  (refine tM 0 ?_;refine tN 1 ?_;refine tF 2 ?_;refine tF 3 ?_;refine tL 4 ?_;refine tM 5 ?_;refine tM 6 ?_)
  refine tk 7 _ rfl (b8 rfl (bb .zero)) ?_;refine tO 8 ?_;refine Do.jU (key:=fH) (k:=(j:Int)) rfl rfl rfl zP ⟨zN,?_⟩;refine bf zK ?_;refine wB ?_;refine aZ rfl rfl (qU _ e (.slice ad x.length kk) x (bb zP) zo) ?_;rintro _ _ ⟨dW,k2,rfl,rfl⟩;refine aZ rfl rfl (Ct.AO zP zP (ir _ e w c s { b with kl:=lF (j:Int) (.string (str x)) b.kl } 2 (j:Int) 0 (.slice dW (cY x).length k2) (cY x) rfl zd)) ?_;rintro _ _ ⟨rfl,ve,rfl⟩;have er:=((hb.more (Ft (A:=N) (B:=cR (.slice dW (cY x).length k2) (cY x)))).kl (lF (j:Int) (.string (str x)) b.kl)).seen (x:=⟨2,(j:Int),0,.slice dW (cY x).length k2,cY x⟩) ve (cE.cL (bb .zero) Fu) zd (by show (ei _ _).length≤1000;rw [df];omega);refine wB ?_;refine bi (j+1,{ b with kl:=lF (j:Int) (.string (str x)) b.kl,ve:=ve,es:=b.es++[⟨2,(j:Int),0,.slice dW (cY x).length k2,cY x⟩] },dH [N,cR (.slice dW (cY x).length k2) (cY x)],ev++[(2,(j:Int),0,cY x)]) ⟨by dsimp only;omega,by dsimp only;omega,er,by dsimp only;rw [pV,ah,← pV,DA,aM];rfl,⟨by dsimp only;rw [aa,aj];omega,.inr cO⟩,fun y hy=>?_⟩ zd zS (cj (ep (A:=N) (B:=cR (.slice dW (cY x).length k2) (cY x)) zP zP) zE);rcases aJ.1 hy with hy|hy
  ·exact Gf y hy
  ·rw [an.1 hy];exact ⟨(by decide:(2:Int)≠3),.inr (ha.st.some zo)⟩
theorem zx (w:Nat) (c:dh) (m:Nat) (s:da) (a:ee) (M:cJ) (ha:a.ok M w c m s) (Q0:a.es.length+256≤600*m) :
 Ct prog 184 #[pt w] e (dR w c s a M R) (fun v' L'=>v'=.tuple #[]∧∃ (a':ee) (M':cJ) (jP:List (Int × Int × Int × dv)),a'.ok M' w c m s∧pV a'.es=pV a.es++jP∧jP.length≤250∧rF jP s∧L'=dR w c s a' M' R):=by
 have Ir:=ha.st.DD;have SI:=ha.st.steps;refine a8 (args:=[_]) func184 rfl ntmps184 results184 rfl ?_;refine wB ?_;refine aZ rfl rfl (Ct.at zP (mT _ e a.gf a.xp a.gl c.f s.fs)) ?_;rintro _ _ ⟨rfl,rfl⟩;refine wB ?_;refine bq (ι:=Nat × ee × cJ × List (Int × Int × Int × dv)) (fun j=>[(0,pt w),(11,.int .i64 (s.fs.recs.length:Int)),(12,.int .i64 (j.1:Int))]) (fun j=>dR w c s j.2.1 j.2.2.1 R) (fun j=>j.1≤s.fs.recs.length∧j.2.1.ok j.2.2.1 w c m s∧pV j.2.1.es=pV a.es++j.2.2.2∧j.2.2.2.length≤j.1∧rF j.2.2.2 s) (fun j=>s.fs.recs.length - j.1) (0,a,M,[]) ⟨aH _,ha,by simp,aH _,rF.nil⟩ zS zE ?_;rintro ⟨j,b,N,ev⟩ ⟨Dy,hb,DA,F5,Gf⟩;dsimp only at Dy hb DA F5 Gf ⊢
 have oP:b.es.length=a.es.length+ev.length:=by have:=congrArg List.length DA;simpa using this
 by_cases cO:j<s.fs.recs.length
 rotate_left
 ·refine wB ?_;refine bT (dR w c s b N R) rfl zE ⟨rfl,b,N,ev,hb,DA,by omega,Gf,rfl⟩
 refine wB ?_;refine aZ rfl rfl (Ct.at zP (Ar _ e b.gf b.xp b.gl c.f s.fs j cO)) ?_;rintro _ _ ⟨ad,kk,rfl,rfl⟩;have VD:(s.fs.recs.getD j []).length≤200:=(hb.st.fs.n9 _ (zu cO)).2;have oE:s.fs.recs≠[]:=fun q=>by rw [q] at cO;exact absurd cO (Nat.not_lt_zero _)
 generalize s.fs.recs.getD j []=x at *
 refine wB ?_;refine bx _ (cD.kE (key:=fH) (k:=(j:Int)) rfl rfl zP) rfl ?_
 generalize (gK (j:Int) b.kr).getD (.string (str []))=vk
 cases hk:(gK (j:Int) b.kr).isSome with
 | true =>
  refine wB ?_;refine bi (j+1,b,N,ev) ⟨cO,hb,DA,by dsimp only;omega,Gf⟩ zd zS zE
 | false =>
  refine wB ?_;refine bk (id:=6) [8] (cR (.slice ad x.length kk) x::dR w c s b N R) mixed ?_
  (refine tM 0 ?_;refine tN 1 ?_;refine tF 2 ?_;refine tF 3 ?_;refine tL 4 ?_;refine tM 5 ?_;refine tM 6 ?_)
  refine tk 7 _ rfl (b8 rfl (bb .zero)) ?_;refine tO 8 ?_;refine Do.jU (key:=fH) (k:=(j:Int)) rfl rfl rfl zP ⟨zN,?_⟩;refine bf zK ?_;refine wB ?_;refine aZ rfl rfl (ug _ e (.slice ad x.length kk) x (bb zP) zo) ?_;rintro _ _ ⟨dW,k2,rfl,rfl⟩;refine aZ rfl rfl (Ct.AO zP zP (ir _ e w c s { b with kr:=lF (j:Int) (.string (str x)) b.kr } 1 (j:Int) 0 (.slice dW (cY x).length k2) (cY x) rfl zd)) ?_;rintro _ _ ⟨rfl,ve,rfl⟩;have er:=((hb.more (Ft (A:=N) (B:=cR (.slice dW (cY x).length k2) (cY x)))).kr (lF (j:Int) (.string (str x)) b.kr)).seen (x:=⟨1,(j:Int),0,.slice dW (cY x).length k2,cY x⟩) ve (cE.cL (bb .zero) Fu) zd (by show (ei _ _).length≤1000;rw [df];omega);refine wB ?_;refine bi (j+1,{ b with kr:=lF (j:Int) (.string (str x)) b.kr,ve:=ve,es:=b.es++[⟨1,(j:Int),0,.slice dW (cY x).length k2,cY x⟩] },dH [N,cR (.slice dW (cY x).length k2) (cY x)],ev++[(1,(j:Int),0,cY x)]) ⟨cO,er,by dsimp only;rw [pV,ah,← pV,DA,aM];rfl,by dsimp only;rw [aa,aj];omega,fun y hy=>?_⟩ zd zS (cj (ep (A:=N) (B:=cR (.slice dW (cY x).length k2) (cY x)) zP zP) zE);rcases aJ.1 hy with hy|hy
  ·exact Gf y hy
  ·rw [an.1 hy];exact ⟨(by decide:(1:Int)≠3),.inr oE⟩
theorem uH {old:List dv}:∀ {l fresh:List dv},(old++fresh++l).Nodup→fg old fresh l=fresh++l
 | [],fresh,h=>by simp [fg]
 | b::l,fresh,h=>by
  unfold fg;have h1:¬ b∈old++fresh:=fun q=>(List.nodup_append.1 h).2.2 _ q _ (List.mem_cons_self ..) rfl
  rw [aB h1,uH (by simpa using h),aM];rfl
def da.H6 (c:dh) (s:da):da:=if s.fs.pg c.f (s.time:Int)=true then { s with fs:=s.fs.yZ c.f,ls:=s.ls.add (s.fs.some c.f) } else s
def da.K1 (c:dh) (s:da):Nat:=if s.fs.pg c.f (s.time:Int)=true then (s.fs.some c.f).length else 0
theorem da.ok.nodup {c:dh} {m:Nat} {s:da} (h:s.ok c m):(s.ls.cF++s.fs.q.map (·.1)).Nodup:=h.perm.nodup_iff.2 h.recs
theorem da.ok.fresh {c:dh} {m:Nat} {s:da} (h:s.ok c m):s.ls.fresh (s.fs.some c.f)=s.fs.some c.f:=by
 unfold fV.fresh pe.some;have h1:=h.nodup
 rw [uH (by
  rw [aK];refine h1.sublist (List.Sublist.append_left ((List.take_sublist _ _).map _) _)),List.nil_append]
theorem da.ok.fit {c:dh} {m:Nat} {s:da} (h:s.ok c m):s.ls.cF.length+(s.ls.fresh (s.fs.some c.f)).length≤250:=by
 rw [h.fresh];have h1:=h.perm.length_eq;rw [aa,ab] at h1
 have h2:(s.fs.some c.f).length≤s.fs.q.length:=by unfold pe.some;rw [ab,aF];omega
 have:=h.DD;have:=h.steps
 omega
theorem K2 {l m:List dv} {k:Nat} {x:List dv} (h:x=l.take x.length):x=(l++m).take x.length:=by
 have h1:=congrArg List.length h;rw [aF] at h1
 rw [List.take_append_of_le_length zo];exact h
end Go.Proofs
namespace Go.Proofs
attribute [local irreducible] Bs.cD Bs.Do Bs.O Bs.W Bs.Fin Bs.A Bs.Ct Bs.cE Bs.Rd Bs.Sat Bs.cK Bs.Ob Bs.dJ Bs.View Bs.cz Bs.Ex Bs.dH Bs.Pu Bs.eY Bs.dM Bs.dZ
open Go.Bs
open Tryz
variable (R:List cJ) (e:World)
theorem da.Ns {c:dh} {m:Nat} {s:da} (h:s.ok c m) (hm:m<250):(s.H6 c).ok c (m+1):=by
 unfold da.H6
 split
 rotate_left
 ·exact h.next hm
 have hi:(s.ls.add (s.fs.some c.f)).cF=s.ls.cF++s.fs.some c.f:=by rw [fV.BB,h.fresh]
 have hq:s.fs.some c.f++(s.fs.q.drop c.f.size).map (·.1)=s.fs.q.map (·.1):=by
  unfold pe.some;rw [← ah,List.take_append_drop]
 have BL:∀ b∈s.fs.some c.f,b∈s.fs.q.map (·.1):=fun b hb=>by rw [← hq];exact List.mem_append_left _ hb
 have hl:=h.ls;have hf:=h.fs;have pM:=h.fit;rw [h.fresh] at pM
 have z8:=h.nodup;have Q2:(s.ls.add (s.fs.some c.f)).last=s.ls.last:=by unfold fV.add;split<;>rfl
 have Wi:(s.ls.add (s.fs.some c.f)).keys=s.ls.keys:=by unfold fV.add;split<;>rfl
 have U2:(s.ls.cF++s.fs.some c.f).Nodup:=by
  rw [← hq,← aM] at z8
  exact (List.nodup_append.1 z8).1
 exact { h.next hm with
  ls:={
   full:=fun r hr=>by
    unfold fV.add at hr
    split at hr
    ·exact hl.full r hr
    ·rename_i oE;rcases aJ.1 hr with hr|hr
     ·exact hl.full r hr
     ·rw [an.1 hr];exact oE
   nodup:=by rw [hi];exact U2
   size:=by rw [hi,aa];omega
   short:=fun b hb=>by
    rw [hi] at hb
    rcases aJ.1 hb with hb|hb
    ·exact hl.short b hb
    ·obtain ⟨x,hx,rfl⟩:=aE.1 (BL b hb);exact hf.pf x hx
   keys:=by rw [Wi];exact hl.keys
   last:=fun x hx=>by
    rw [Q2] at hx
    obtain ⟨h1,h2,h3⟩:=hl.last x hx;refine ⟨h1,h2,?_⟩;rw [hi,aa];omega }
  last:=fun x hx=>by
   show Ac (s.ls.add (s.fs.some c.f)).cF x
   rw [hi];exact (h.last x (by rw [← Q2];exact hx)).more
  fs:={
   size:=hf.size
   n9:=hf.n9
   BE:=by show (s.fs.q.drop c.f.size).length≤1000;rw [aO];have:=hf.BE;omega
   pf:=fun x hx=>hf.pf x (aV hx)
   wP:=fun x hx=>hf.wP x (aV hx) }
  perm:=by
   show ((s.ls.add (s.fs.some c.f)).cF++(s.fs.q.drop c.f.size).map (·.1)).Perm s.fs.recs
   rw [hi,aM,hq];exact h.perm
  ws:=fun x hx=>⟨(h.ws x hx).1,Nat.le_succ_of_le (h.ws x hx).2.1,by show lK (s.ls.add (s.fs.some c.f)).cF _;rw [hi];exact (h.ws x hx).2.2.more⟩
  cur:=fun x hx=>⟨by show Ac (s.ls.add (s.fs.some c.f)).cF _;rw [hi];exact (h.cur x hx).1.more,(h.cur x hx).2⟩
  done:=fun hn=>⟨by show Ac (s.ls.add (s.fs.some c.f)).cF _;rw [hi];exact (h.done hn).1.more,(h.done hn).2⟩
  SK:=by show s.mo.cF=(s.ls.add (s.fs.some c.f)).cF.take _;rw [hi];exact K2 (k:=0) h.SK
  eh:=fun x hx=>by show fZ.ok c (s.ls.add (s.fs.some c.f)).cF x;rw [hi];exact (h.eh x hx).more
  signed:=fun x hx=>⟨by show lK (s.ls.add (s.fs.some c.f)).cF _;rw [hi];exact (h.signed x hx).1.more,(h.signed x hx).2⟩ }
theorem H7 (w:Nat) (c:dh) (m:Nat) (s:da) (ev:List (Int × Int × Int × dv)) (k n to wh:Int) (v:Value) (hv:v.oneCell'=true) (hm:m<250) :
 Ct prog 84 #[pt w,.agg (ot k n to wh v).toArray] e (dO w c m s ev::R) (fun v' L'=>v'=.tuple #[.int .i64 (s.K1 c:Int),.int .i64 0]∧∃ jP,rF jP (s.H6 c)∧L'=dO w c (m+1) (s.H6 c) (ev++jP)::R):=by
 refine gY fun a M ha he=>?_
 have eJ:=ha.st;have m6:=da.Ns eJ hm;have er:=ha.to m6 (Nat.le_succ m) (by unfold da.H6;split<;>rfl) (by unfold da.H6;split<;>rfl);have ht:=eJ.time;have Q0:=ha.ec;have lm:=eJ.short;refine a8 (args:=[_,_]) func84 rfl ntmps84 results84 rfl ?_
 (repeat (refine wA ?_;intros))
 refine aZ rfl rfl (Ct.at zP (yP _ e a.gl a.ld a.lk (cS 0) s.ls)) ?_;rintro _ _ ⟨rfl,rfl⟩;refine wB ?_;rename_i g3;refine bk (id:=2) [13] (cK g3 (ot k n to wh v) eM (0,0)::cK w (a.cells c s) di (0,0)::M::R) mixed ?_
 (refine tM 0 ?_;refine tN 1 ?_;refine tF 2 ?_;refine tL 3 ?_;refine tM 4 ?_;refine tN 5 ?_;refine tF 6 ?_;refine tL 7 ?_)
 refine tO 8 ?_;refine bg rfl rfl (Ct.AO zP zP (HB _ e a.gf a.xp a.gl a.ld a.lk (cS 0) s.ls c.f s.fs (s.time:Int) zo (by have:=eJ.fit;omega))) ?_;have hN0:s.fs.pg c.f (s.time:Int)=false→s.H6 c=s∧s.K1 c=0:=fun h=>by unfold da.H6 da.K1;rw [h];exact ⟨rfl,rfl⟩
 have SL:s.fs.pg c.f (s.time:Int)=true→s.H6 c={ s with fs:=s.fs.yZ c.f,ls:=s.ls.add (s.fs.some c.f) }∧s.K1 c=(s.fs.some c.f).length:=fun h=>by unfold da.H6 da.K1;rw [h];exact ⟨rfl,rfl⟩
 rintro _ _ (⟨hd,rfl,rfl⟩|⟨hd,ao,co,rfl,rfl⟩)
 ·obtain ⟨h1,h2⟩:=hN0 hd;rw [h1] at er ⊢
  rw [h2];refine ⟨fun _=>zE,?_⟩
  (refine tM 9 ?_;refine tk 10 _ rfl (bl rfl rfl) ?_;refine tk 11 _ rfl (bl rfl rfl) ?_;refine tA 12 ?_;(refine tO 13 ?_;refine dV (bj rfl) ?_))
  refine bf zK ?_;refine wB ?_;refine aZ rfl rfl (Ct.cL (pA (cK g3 (ot k n to wh v) eM (0,0)::R) e w c (m+1) s a M er s.ls.cF.length zo zo) zE) ?_;rintro _ _ ⟨rfl,a2,M2,Nt,nG,Nr,-,Gf,rfl⟩;refine wB ?_;refine aY (dO w c (m+1) s (ev++Nt)::R) rfl (cj (show cz _ (dR w c s a2 M2 R) from zE) (dU nG (by rw [← he];exact Nr))) ⟨rfl,Nt,Gf,rfl⟩
 ·obtain ⟨h1,h2⟩:=SL hd;rw [h1] at er ⊢
  rw [h2];refine ⟨fun _=>zE,?_⟩
  generalize (s.fs.some c.f).length=nn at *
  (refine tM 9 ?_;refine tk 10 _ rfl (bl rfl rfl) ?_;refine tk 11 _ rfl (bl rfl rfl) ?_;refine tA 12 ?_;(refine tO 13 ?_;refine dV (bj rfl) ?_))
  refine bf zK ?_;refine wB ?_;refine aZ rfl rfl (Ct.cL (pA (cK g3 (ot k n to wh v) eM (0,0)::R) e w c (m+1) _ a M er s.ls.cF.length zo zo) zE) ?_;rintro _ _ ⟨rfl,a2,M2,Nt,nG,Nr,-,Gf,rfl⟩;refine wB ?_;refine aY _ rfl (cj (show cz _ (dR w c { s with fs:=s.fs.yZ c.f,ls:=s.ls.add (s.fs.some c.f) } a2 M2 R) from zE) (dU nG (ev:=ev++Nt) (by rw [← he];exact Nr))) ⟨rfl,Nt,Gf,rfl⟩
theorem BR (now:Nat):∀ (m:Nat) (s:cP),(cP.lR now m s).cur=s.cur∧(cP.lR now m s).kept=s.kept∧(cP.lR now m s).done=s.done∧(cP.lR now m s).dk=s.dk
 | 0,_=>⟨rfl,rfl,rfl,rfl⟩
 | m+1,s=>by
  obtain ⟨h1,h2,h3,h4⟩:=BR now m s;exact ⟨h1,h2,h3,h4⟩
theorem K3 (p:jH) (s:cP) (x:j6) (now:Nat):(s.ie p x now).done=s.done∧(s.ie p x now).dk=s.dk∧((s.ie p x now)=s∨((s.ie p x now).cur=some x∧(s.ie p x now).kept=[])):=by
 unfold cP.ie
 split
 ·obtain ⟨h1,h2,h3,h4⟩:=BR now s.st.length { s with cur:=some x,kept:=[] };exact ⟨h3,h4,.inr ⟨h1,h2⟩⟩
 ·exact ⟨rfl,rfl,.inl rfl⟩
def da.mY (s:da):Prop:=s.ls.same∨s.ls.keys<16
instance (s:da):Decidable s.mY:=by unfold da.mY;infer_instance
def da.fk (s:da):j6:=(s.ls.ja (cS 0)).dD
def da.pW (c:dh) (s:da):da:={ s with ls:=s.ls.ja (cS 0),fd:=if 0<s.fk.dc.size then s.fd.ie (cZ c) s.fk s.time else s.fd,n:=s.n+c.k }
def da.ja (c:dh) (s:da):da:=if s.mY then { s.pW c with signed:=some s.fk.dc } else s
def EvP (ev:List (Int × Int × Int × dv)) (s:da):Prop:=ev=[]∨∃ x:jc,s.signed=some x∧ev=[(3,(x.size:Int),0,x.root)]
theorem da.vR (s:da):(s.ls.ja (cS 0)).cF=s.ls.cF:=by unfold fV.ja;split;rfl;split<;>rfl
theorem da.xG {c:dh} {m:Nat} {s:da} (h:s.ok c m) (hp:s.mY):Ac s.ls.cF s.fk∧s.fk.dc.size=s.ls.cF.length∧(s.ls.ja (cS 0)).last=some s.fk:=by
 unfold da.fk fV.ja
 split
 ·rename_i hs;obtain ⟨h1,h2⟩:=hs;obtain ⟨x,hx⟩:=Option.isSome_iff_exists.1 h1;have hv:s.ls.dD=x:=by unfold fV.dD;rw [hx];rfl
  rw [hv] at h2 ⊢
  exact ⟨h.last x hx,h2,hx⟩
 ·rename_i hs;have hk:s.ls.keys<16:=hp.resolve_left hs;rw [aI hk];have hr:=fV.Bz h.ls;refine ⟨⟨J7 hr hk,j5 hk,aS _,?_⟩,rfl,rfl⟩
  show ea (s.ls.cF.map cY)=ea ((s.ls.cF.take s.ls.cF.length).map cY)
  rw [List.take_length]
theorem da.Pz {c:dh} {m:Nat} {s:da} (h:s.ok c m) (hp:s.mY):(s.ls.ja (cS 0)).ok:=by
 obtain ⟨h1,h2,h3⟩:=da.xG h hp;have hl:=h.ls;have hi:=s.vR;have G9:(s.ls.ja (cS 0)).recs=s.ls.recs:=by unfold fV.ja;split;rfl;split<;>rfl
 exact {
  full:=by rw [G9];exact hl.full
  nodup:=by rw [hi];exact hl.nodup
  size:=by rw [hi];exact hl.size
  short:=by rw [hi];exact hl.short
  keys:=by
   unfold fV.ja
   split
   ·exact hl.keys
   ·split
    ·rename_i hk;exact hk
    ·exact hl.keys
  last:=fun x hx=>by
   rw [h3] at hx
   cases hx
   exact ⟨h1.1.1,h1.2.1,by rw [hi];omega⟩ }
theorem da.Ja {c:dh} {m:Nat} {s:da} (h:s.ok c m) (hm:m<250) (hp:s.mY):(s.pW c).ok c (m+1):=by
 obtain ⟨h1,h2,h3⟩:=da.xG h hp;have hi:=s.vR;have ht:=h.time;have hn:=h.nb;have hk:=h.xC.k;have hlen:=lh c
 have LI:cP.ok (if 0<s.fk.dc.size then s.fd.ie (cZ c) s.fk s.time else s.fd) c.k (s.n+c.k):=by
  split
  ·exact cP.xE h.fd h1.fits zo zo zo
  ·exact h.fd.mono zo
 obtain ⟨q1,q2,q3⟩:=K3 (cZ c) s.fd s.fk s.time
 exact { h.next hm with
  ls:=da.Pz h hp
  last:=fun x hx=>by
   show Ac (s.ls.ja (cS 0)).cF x
   have hx:(s.ls.ja (cS 0)).last=some x:=hx;rw [h3] at hx
   cases hx
   rw [hi];exact h1
  perm:=by show ((s.ls.ja (cS 0)).cF++_).Perm _;rw [hi];exact h.perm
  ws:=fun x hx=>⟨(h.ws x hx).1,Nat.le_succ_of_le (h.ws x hx).2.1,by show lK (s.ls.ja (cS 0)).cF _;rw [hi];exact (h.ws x hx).2.2⟩
  fd:=LI
  nb:=by show s.n+c.k≤_;omega
  cur:=fun x hx=>by
   show Ac (s.ls.ja (cS 0)).cF x∧_
   rw [hi];have hx:cP.cur (if 0<s.fk.dc.size then s.fd.ie (cZ c) s.fk s.time else s.fd)=some x:=hx
   split at hx
   ·rename_i h0;rcases q3 with q3|⟨q3,-⟩
    ·rw [q3] at hx;exact h.cur x hx
    ·rw [q3] at hx;cases hx;exact ⟨h1,h0⟩
   ·exact h.cur x hx
  idle:=fun hx=>by
   show cP.ag (if 0<s.fk.dc.size then s.fd.ie (cZ c) s.fk s.time else s.fd)=[]
   have hx:cP.cur (if 0<s.fk.dc.size then s.fd.ie (cZ c) s.fk s.time else s.fd)=none:=hx
   split at hx
   ·rename_i h0;rw [aI h0];rcases q3 with q3|⟨q3,-⟩
    ·rw [q3] at hx ⊢;exact h.idle hx
    ·rw [q3] at hx;cases hx
   ·rename_i h0;rw [aB h0];exact h.idle hx
  kept:=fun g hg=>by
   show g.ii _ (cP.dT (if 0<s.fk.dc.size then s.fd.ie (cZ c) s.fk s.time else s.fd)).dc
   have hg:g∈cP.kept (if 0<s.fk.dc.size then s.fd.ie (cZ c) s.fk s.time else s.fd):=hg
   split at hg
   ·rename_i h0;rw [aI h0];rcases q3 with q3|⟨-,q3⟩
    ·rw [q3] at hg ⊢;exact h.kept g hg
    ·rw [q3] at hg;cases hg
   ·rename_i h0;rw [aB h0];exact h.kept g hg
  done:=fun hx=>by
   show Ac (s.ls.ja (cS 0)).cF (cP.done (if 0<s.fk.dc.size then s.fd.ie (cZ c) s.fk s.time else s.fd))∧0<(cP.done (if 0<s.fk.dc.size then s.fd.ie (cZ c) s.fk s.time else s.fd)).dc.size∧uf (cZ c) (cP.done (if 0<s.fk.dc.size then s.fd.ie (cZ c) s.fk s.time else s.fd)).dc (cP.dk (if 0<s.fk.dc.size then s.fd.ie (cZ c) s.fk s.time else s.fd))
   have hx:cP.dk (if 0<s.fk.dc.size then s.fd.ie (cZ c) s.fk s.time else s.fd)≠[]:=hx;rw [hi]
   split at hx
   ·rename_i h0;rw [aI h0,q1,q2];rw [q2] at hx
    exact h.done hx
   ·rename_i h0;rw [aB h0];exact h.done hx
  SK:=by show s.mo.cF=(s.ls.ja (cS 0)).cF.take _;rw [hi];exact h.SK
  eh:=fun x hx=>by show fZ.ok c (s.ls.ja (cS 0)).cF x;rw [hi];exact h.eh x hx
  signed:=fun x hx=>by show lK (s.ls.ja (cS 0)).cF _∧_;rw [hi];exact h.signed x hx }
theorem da.Nu {c:dh} {m:Nat} {s:da} (h:s.ok c m) (hm:m<250):(s.ja c).ok c (m+1):=by
 unfold da.ja
 split
 rotate_left
 ·exact h.next hm
 ·rename_i hp;obtain ⟨h1,h2,h3⟩:=da.xG h hp
  exact { da.Ja h hm hp with
   signed:=fun x hx=>by
    cases hx
    show lK (s.ls.ja (cS 0)).cF _∧_
    rw [s.vR];exact ⟨h1.2.2,h1.1.1⟩ }
theorem ee.ok.sign {a:ee} {M:cJ} {w:Nat} {c:dh} {m:Nat} {s:da} (h:a.ok M w c m s) {x:jc} {v:Value} (hx:db [M] v x.root) (h2:da.ok c m { s with signed:=some x }):ee.ok { a with vr:=v } M w c m { s with signed:=some x } :=
 {h with root:=hx,all:=⟨h.all.all⟩,st:=h2,eh:=h.eh }
theorem K4 (w:Nat) (c:dh) (m:Nat) (s:da) (ev:List (Int × Int × Int × dv)) (k n to wh:Int) (v:Value) (hv:v.oneCell'=true) (hm:m<250) :
 Ct prog 85 #[pt w,.agg (ot k n to wh v).toArray] e (dO w c m s ev::R) (fun v' L'=>v'=.tuple #[.int .i64 (if s.mY then (s.fk.dc.size:Int) else 0),.int .i64 (if s.mY then 0 else 23)]∧∃ jP,EvP jP (s.ja c)∧L'=dO w c (m+1) (s.ja c) (ev++jP)::R):=by
 refine gY fun a M ha he=>?_
 have eJ:=ha.st;have ht:=eJ.time;have hn:=eJ.nb;have Q0:=ha.ec;refine a8 (args:=[_,_]) func85 rfl ntmps85 results85 rfl ?_
 (repeat (refine wA ?_;intros))
 refine aZ rfl rfl (Ct.at zP (Kq _ e a.gl a.ld a.lk (cS 0) s.ls)) ?_;rintro v0 _ ⟨Od,Qq⟩
 by_cases hp:s.mY
 rotate_left
 ·obtain ⟨rfl,rfl⟩:=Qq hp;have hs:s.ja c=s:=by unfold da.ja;rw [aB hp]
  have er:=ha.to (eJ.next hm) (Nat.le_succ m) rfl rfl;rw [hs,aB hp,aB hp]
  (repeat (refine wA ?_;intros))
  refine aY (dO w c (m+1) s ev::R) rfl (cj (show cz _ (dR w c s a M R) from zE) (dU er he)) ⟨rfl,[],.inl rfl,by rw [aK]⟩
 obtain ⟨N,ur,up,uq,rfl,hN,rfl⟩:=Od hp;obtain ⟨g1,g2,g3⟩:=da.xG eJ hp;have HW:=da.Ja eJ hm hp;have m6:=da.Nu eJ hm;have hs:s.ja c={ s.pW c with signed:=some s.fk.dc }:=by unfold da.ja;rw [aI hp]
 rw [aI hp,aI hp];rw [hs] at m6 ⊢
 rw [show (s.ls.ja (cS 0)).dD=s.fk from rfl] at hN ⊢
 refine bn (cn (hN.root.cL (cG zP))) fun o3=>?_
 refine bn (hN.sig.cL (cG zP)).parts.one fun o4=>?_
 refine bn (hN.sig.cL (cG zP)).path.one fun o5=>?_
 clear Od Qq
 (repeat' first|refine W.pF (id:=7) (fun j:Nat × Nat=>[(0,pt w),(8,pt j.2)]) (fun j=>cK j.2 (iR s.fk.dc ur) 83 (0,0)::N::dR w c (s.pW c) a M R) (fun _=>True) ?_ ?_|refine Za ?_|refine Zb ?_|apply Zc|apply Zd|apply Ze|apply Zf|refine Zh ?_|refine ZQ ?_|refine Yh fun _=>?_|refine YA ?_|apply YC|refine YN ?_|refine YR ?_|(apply O.dg;exact rfl;exact zP;(first|(simp only [aC,Nat.add_zero,Nat.reduceAdd,List.drop_succ_cons,List.drop_zero,List.take_succ_cons,List.take_zero];done)|(simp only [aC,Nat.add_zero,Nat.reduceAdd,List.drop_succ_cons,List.drop_zero,List.take_succ_cons,List.take_zero];exact rfl));exact rfl;exact rfl))
 rotate_left
 ·refine ⟨?_⟩;rename_i g6 g8
  by_cases h0:0<s.fk.dc.size
  rotate_left
  ·have fQ:s.pW c={ s with ls:=s.ls.ja (cS 0),fd:=s.fd,n:=s.n+c.k }:=by unfold da.pW;rw [aB h0]
   rw [fQ];refine wB ?_;exact bJ (g6,g8) trivial zS (cj (bw (show cQ _ (lf a.mB (cZ c) c.retry s.n s.fd) _ from zP) aX) (cj (I2 (Nat.le_add_right s.n c.k)) zE))
  ·have fQ:s.pW c={ s with ls:=s.ls.ja (cS 0),fd:=s.fd.ie (cZ c) s.fk s.time,n:=s.n+c.k }:=by unfold da.pW;rw [aI h0]
   rw [fQ];refine wB ?_;refine bk (id:=6) [] (cK g6 (dS s.fk ur up uq) rE (0,0)::cK w (a.cells c s) di (0,0)::N::R) mixed ?_
   (refine tM 0 ?_;refine tN 1 ?_;refine tF 2 ?_;refine tL 3 ?_;refine tJ 4 ?_;refine tM 5 ?_;refine tN 6 ?_;refine tF 7 ?_;refine tL 8 ?_)
   refine tO 9 ?_;have hof:=fun L hL=>Fe L e a.mB (cZ c) c.retry s.n s.fd ur up uq s.fk s.time hL g1.fits zo zo
   rw [lh] at hof
   refine bg rfl rfl (Ct.at zP (hof _ (hN.cL (cG zP)))) ?_;rintro _ _ ⟨rfl,rfl⟩;refine ⟨fun _=>zE,?_⟩;refine bf zK ?_;exact bJ (g6,g8) trivial zS zE
 rintro ⟨-,g8⟩ -;dsimp only;have pS:=ha.to HW (Nat.le_succ m) rfl rfl;refine wB ?_;refine aZ rfl rfl (H4 _ e w s.sv a.vr s.signed.isSome s.fk.dc ur (bP (show cQ _ (cK w (a.cells c (s.pW c)) di (0,0)) _ from zP) rfl) (dZ.fP (show cQ _ (cK w (a.cells c (s.pW c)) di (0,0)) _ from zP) ⟨2,rfl⟩) (fun _=>ha.root.cL (cG (show cQ _ M _ from zP))) (hN.root.cL (cG (show cQ _ N _ from zP)))) ?_;rintro _ _ ⟨rfl,rfl⟩
 by_cases Sc:s.signed=some s.fk.dc
 ·have hb:(s.signed.isSome && decide (s.sv=s.fk.dc))=true:=by unfold da.sv;rw [Sc];simp
  rw [hb];have m1:({ s.pW c with signed:=some s.fk.dc }:da)=s.pW c:=by unfold da.pW;rw [← Sc]
  rw [m1];refine wB ?_;refine aY (dO w c (m+1) (s.pW c) ev::R) rfl (cj (show cz _ (dR w c (s.pW c) a M R) from zE) (dU pS he)) ⟨rfl,[],.inl rfl,by rw [aK]⟩
 ·have hb:(s.signed.isSome && decide (s.sv=s.fk.dc))=false:=by
   unfold da.sv
   cases hq:s.signed with
   | none=>rfl
   | some y=>simp only [Option.isSome_some,Bool.true_and,Option.getD_some,decide_eq_false_iff_not];rintro rfl;exact Sc hq
  rw [hb];have er:=(pS.more (Ft (A:=M) (B:=N))).sign (hN.root.cL Fu) m6;refine wB ?_;refine aZ rfl rfl (Ct.AO zP zP (ir _ e w c { s.pW c with signed:=some s.fk.dc } { a with vr:=ur } 3 (s.fk.dc.size:Int) 0 ur s.fk.dc.root o3 zd)) ?_;rintro _ _ ⟨rfl,ve,rfl⟩;have nG:=er.seen (x:=⟨3,(s.fk.dc.size:Int),0,ur,s.fk.dc.root⟩) ve (hN.root.cL Fu) zd (by show s.fk.dc.root.length≤1000;have:=g1.fits.1.2;omega);refine wB ?_;refine aY (dO w c (m+1) { s.pW c with signed:=some s.fk.dc } (ev++[(3,(s.fk.dc.size:Int),0,s.fk.dc.root)])::R) rfl (cj ?_ (dU nG (by dsimp only;rw [ah,he];rfl))) ⟨rfl,_,.inr ⟨_,rfl,rfl⟩,rfl⟩;exact cj (ep (A:=M) (B:=N) zP zP) zE
abbrev K5:TypeId:=102
theorem zC (v:Value) (x:j6) (n m:Nat) (path:List dv) (hv:db R v (qI x n m path)) (hc:x.dc.right) (hr:x.sig.right) (hn:n≤1000000) (hm:m≤1000000) (hp:path.length≤16) (jN:∀ a∈path,a.length=32) :
 Ct prog 251 #[v] e R (fun v' L'=>∃ (M:cJ) (ur up uq:Value) (ad:Option Addr) (k:Nat) (ts:List ej),v'=.tuple #[.agg (dS x ur up uq).toArray,.agg #[.int .i64 (n:Int),.int .i64 (m:Int),.slice ad ts.length k],.bool true]∧ts.map (·.2)=path∧fj [M] ur up uq x∧cE [M] 1 (.slice ad ts.length k) ts.length (ts.map (·.1))∧dP [M] ts∧L'=M::R):=by
 have DB:=fc jN;have T6:=iN hc hr
 have rL:(qI x n m path).length≤3000:=by
  unfold qI;simp only [aa,aN,cX]
  omega
 refine a7 (cn hv) fun o1=>?_
 refine bH (args:=[_]) func251 rfl ntmps251 results251 rfl ?_
 (repeat (refine wA ?_;intros))
 rename_i g2 g3;refine aZ rfl rfl (jw _ e v (qI x n m path) (hv.cL zE) zo) ?_;rintro _ _ ⟨gr,rfl,rfl⟩;have Ks:qI x n m path=hO x++(be n 4++(be m 4++(UInt8.ofNat path.length::path.flatten))):=rfl;rw [Ks];refine wB ?_;refine aZ rfl rfl (Bi _ e gr x _ hc hr (by simp only [aa,aN,cX];omega)) ?_;rintro _ _ ⟨N,ur,up,uq,rfl,hN,rfl⟩;refine bn (cn (hN.root.cL (cG zP))) fun o8=>?_
 refine bn (hN.sig.cL (cG zP)).parts.one fun o9=>?_
 refine bn (hN.sig.cL (cG zP)).path.one fun Nb=>?_
 (repeat (refine wA ?_;intros))
 rename_i g6;refine aZ rfl rfl (Ct.at zP (tE _ e gr n _ zo)) ?_;rintro _ _ ⟨rfl,rfl⟩;refine wB ?_;refine aZ rfl rfl (Ct.at zP (tE _ e gr m _ zo)) ?_;rintro _ _ ⟨rfl,rfl⟩
 (repeat (refine wA ?_;intros))
 rename_i g8;refine aZ rfl rfl (Ct.at zP (vo _ e gr _ _)) ?_;rintro _ _ ⟨rfl,rfl⟩;rw [← qo (n:=path.length) zo];refine wB ?_;refine bq (ι:=Nat × List ej × Option Addr × Nat) (fun j=>[(2,pt g2),(3,pt g3),(5,pt gr),(6,pt g6),(7,.bool true),(8,pt g8),(9,.int .u8 ((path.length - j.1:Nat):Int))]) (fun j=>Reader gr ⟨(path.drop j.1).flatten,false⟩::cK g8 [.int .i64 (n:Int),.int .i64 (m:Int),.slice j.2.2.1 j.2.1.length j.2.2.2] K5 (0,0)::cU (.slice j.2.2.1 j.2.1.length j.2.2.2) j.2.1::cH j.2.1::cK g6 (dS x ur up uq) rE (0,0)::N::cK g2 I3 rE (0,0)::cK g3 [.int .i64 0,.int .i64 0,nY] K5 (0,0)::R) (fun j=>j.1≤path.length∧j.2.1.map (·.2)=path.take j.1) (fun j=>path.length - j.1) (0,[],none,0) ⟨aH _,rfl⟩ zS (cj dL (cj (du ez 1) zE)) ?_;rintro ⟨j,us,m5,cu⟩ ⟨hj,hJ⟩;dsimp only at hj hJ ⊢
 have LD:us.length=j:=by have:=congrArg List.length hJ;rw [ab,aF] at this;omega
 by_cases cO:j<path.length
 ·have hpd:=BM cO;have abo:=jN _ (az cO);have ft:path.take (j+1)=path.take j++[path[j]'cO]:=aD cO
  have hle:((path.drop (j+1)).flatten).length≤3000:=by
   have:=fc (l:=path.drop (j+1)) (n:=32) (fun a ha=>jN a (aV ha));rw [this,aO];omega
  rw [hpd]
  generalize path[j]'cO=y at *
  have Fj:=H0 (n:=path.length - j) zo zo;rw [show path.length - j - 1=path.length - (j+1) by omega] at Fj
  refine wB ?_;refine aZ rfl rfl (vi _ e gr _) ?_;rintro _ _ ⟨rfl,rfl⟩;refine wB ?_;refine bk (id:=7) [6,7] (cK g8 [.int .i64 (n:Int),.int .i64 (m:Int),.slice m5 us.length cu] K5 (0,0)::R) mixed ?_
  (refine tF 0 ?_;refine tL 1 ?_;refine tM 2 ?_)
  refine tO 3 ?_;refine bg rfl rfl (Ct.at zP (x8 _ e gr 32 y _ abo (by simp only [aa];omega))) ?_;rintro _ _ ⟨qp,cx,rfl,rfl⟩;refine ⟨fun _=>zE,?_⟩;refine tO 4 ?_;refine bE (n:=1) (cs:=[.slice qp y.length cx]) rfl rfl rfl rfl zQ rfl (fun gb=>⟨fun _=>zE,?_⟩);refine tO 5 ?_;refine bo rfl rfl rfl (show cQ _ (cU (.slice m5 us.length cu) us) _ from zP) (bO (n:=1) (c:=1) zP rfl zl) rfl rfl zO zm zo fun ef k1 _=>⟨fun _=>zE,?_⟩
  refine tO 6 ?_;refine dV (ba rfl) ?_;refine tO 7 ?_;refine tg ?_;refine ⟨zN,?_⟩;refine bf zK ?_;refine wB ?_;rw [Fj];refine bi (j+1,us++[(.slice qp y.length cx,y)],ef,k1) ⟨cO,by dsimp only;rw [ft,ah,hJ];rfl⟩ zd zS ?_;simp only [cU,aa,aj,ah,List.map_cons,List.map_nil];exact cj (cj (show cz _ (cR (.slice qp y.length cx) y::cH us::dJ ez 1 (.slice ef (us.length+1) k1) (us.length+1) (us.map (·.1)++[.slice qp y.length cx])::Reader gr ⟨(path.drop (j+1)).flatten,false⟩::cK g8 [.int .i64 (n:Int),.int .i64 (m:Int),.slice ef (us.length+1) k1] K5 (0,0)::cK g6 (dS x ur up uq) rE (0,0)::N::cK g2 I3 rE (0,0)::cK g3 [.int .i64 0,.int .i64 0,nY] K5 (0,0)::R) from zE) jn) zE
 rw [aG zo] at hJ
 rw [List.drop_eq_nil_of_le zo,List.flatten_nil,show path.length - j=0 by omega];refine wB ?_;refine bk (id:=8) [9] (cK g8 [.int .i64 (n:Int),.int .i64 (m:Int),.slice m5 us.length cu] K5 (0,0)::cK g6 (dS x ur up uq) rE (0,0)::R) mixed ?_
 (refine tJ 0 ?_;refine tJ 1 ?_;refine tM 2 ?_;refine tM 3 ?_;refine dt 4 _ rfl (bu rfl) ?_)
 refine A.ru 5 rfl rfl zK ?_;refine bg rfl rfl (x9 _ e gr []) ?_;rintro _ _ ⟨rfl,rfl⟩;rw [ay rfl];refine ⟨fun _=>zE,?_⟩
 (refine tk 6 _ rfl (bK rfl rfl) ?_)
 refine tO 7 ?_;refine zg ?_;refine ⟨fun _=>zE,?_⟩;refine tO 8 ?_;refine zg ?_;refine ⟨fun _=>zE,?_⟩
 ((refine tO 9 ?_;refine dV (bj rfl) ?_))
 refine bf zK ?_;obtain ⟨M,hM⟩:∃ M:cJ,M=dH [N,cU (.slice m5 us.length cu) us,cH us]:=⟨_,rfl⟩
 have ho:cz [M] [N,cU (.slice m5 us.length cu) us,cH us]:=by rw [hM];exact cT (M:=[_,_,_]) (L:=[])
 refine wB ?_;apply br
 ·exact zV
 refine ⟨M::R,?_,M,ur,up,uq,m5,cu,us,rfl,hJ,(hN.cL (cG .zero)).cL ho,(bb (.succ .zero)).cL ho,fun y hy=>(dP.dY (.succ (.succ .zero)) y hy).cL ho,rfl⟩;rw [hM];exact cj (rb (A:=N) (B:=cU (.slice m5 us.length cu) us) (C:=cH us) zP zP zP) zE
theorem qK {l:List dv} {n:Nat} (hl:l.length≤256):(iX (l.map cY) n).length≤16∧∀ a∈iX (l.map cY) n,a.length=32:=by
 have jN:∀ a∈l.map cY,a.length=32:=fun a ha=>by
  obtain ⟨y,-,rfl⟩:=aE.1 ha;exact df _ _
 unfold iX
 split
 ·rename_i h;refine ⟨?_,By _ n _ true rfl jN⟩;rw [lG _ n _ true rfl zo zo];have:=n8 8 (l.map cY).length n true (by rw [ab];omega)
  omega
 ·exact ⟨by simp,fun a ha=>by cases ha⟩
def PA (cF:List dv) (x:j6) (r:Nat × Nat):fZ:=.ask r.1 x r.2 x.dc.size (iX ((cF.take x.dc.size).map cY) r.2)
def mi (cF:List dv) (x:j6):List (Nat × Nat)→List fZ→List fZ
 | [],eh=>eh
 | r::l,eh=>mi cF x l (if eh.length<32 then eh++[PA cF x r] else eh)
theorem BS (cF:List dv) (x:j6) (r:Nat × Nat):∀ (l:List (Nat × Nat)) (eh:List fZ),mi cF x (l++[r]) eh=if (mi cF x l eh).length<32 then mi cF x l eh++[PA cF x r] else mi cF x l eh
 | [],eh=>rfl
 | y::l,eh=>by
  rw [List.cons_append]
  show mi cF x (l++[r]) _=_
  rw [BS cF x r l];rfl
theorem uI (cF:List dv) (x:j6):∀ (l:List (Nat × Nat)) (eh:List fZ),eh.length≤32→(mi cF x l eh).length≤32∧eh.length≤(mi cF x l eh).length
 | [],eh,h=>⟨h,aS _⟩
 | r::l,eh,h=>by
  unfold mi
  split
  ·rename_i h1;obtain ⟨h2,h3⟩:=uI cF x l (eh++[PA cF x r]) (by rw [aa];exact h1);refine ⟨h2,?_⟩;rw [aa] at h3
   omega
  ·exact uI cF x l eh h
theorem Jb {c:dh} {cF:List dv} {x:j6} (hx:Ac cF x) (h0:0<cF.length):∀ (l:List (Nat × Nat)) (eh:List fZ),(∀ y∈eh,y.ok c cF)→(∀ r∈l,r.1<c.k∧r.2≤x.dc.size)→∀ y∈mi cF x l eh,y.ok c cF
 | [],eh,h,_=>h
 | r::l,eh,h,hl=>by
  unfold mi;refine Jb hx h0 l _ ?_ fun q hq=>hl q (aT _ hq)
  split
  ·intro y hy;rcases aJ.1 hy with hy|hy
   ·exact h y hy
   ·rw [an.1 hy];have hr:=hl r (List.mem_cons_self ..);exact ⟨h0,hr.1,hx,rfl,hr.2,rfl⟩
  ·exact h
def da.zD (c:dh) (s:da):da:={ s with fd:=s.fd.kH c.retry s.time,n:=s.n+c.k,eh:=mi s.ls.cF s.fd.dT (s.fd.la s.time) s.eh }
def da.SM (c:dh) (s:da):Nat:=(s.zD c).eh.length - s.eh.length
theorem Jc {k n now:Nat} {s:cP} (h:s.ok k n):∀ r∈s.la now,r.1<k∧r.2≤s.dT.dc.size:=fun r hr=>by
 unfold cP.la at hr
 obtain ⟨w,hw,rfl⟩:=aE.1 hr;obtain ⟨h1,-⟩:=ri now s.ag.length s.ag;have hm:=h1.mem_iff.1 (List.mem_append_left _ hw);obtain ⟨x,hx,rfl⟩:=aE.1 hm;have hk:=(h.fits x hx).2;refine ⟨hk,?_⟩;dsimp only;exact h.kQ _ (qB (by rw [h.len];exact hk))
theorem zG {k n now:Nat} {s:cP} (h:s.ag=[]):s.la now=[]:=by
 unfold cP.la;rw [h];rfl
theorem zH (retry now:Nat) (s:cP):(s.kH retry now).cur=s.cur∧(s.kH retry now).kept=s.kept∧(s.kH retry now).done=s.done∧(s.kH retry now).dk=s.dk:=by
 unfold cP.kH;obtain ⟨h1,h2,h3,h4,-⟩:=sJ retry now (s.la now) { s with ag:=(nC now s.ag.length s.ag).2 };exact ⟨h1,h2,h3,h4⟩
theorem Db {s t:cP} (h:s.cur=t.cur):s.dT=t.dT:=by unfold cP.dT;rw [h]
theorem da.Nv {c:dh} {m:Nat} {s:da} (h:s.ok c m) (hm:m<250):(s.zD c).ok c (m+1):=by
 obtain ⟨q1,q2,q3,q4⟩:=zH c.retry s.time s.fd;have ht:=h.time;have hn:=h.nb;have hk:=h.xC.k;have hr:=h.xC.retry
 exact { h.next hm with
  fd:=cP.M9 h.fd hr.2 zo zo zo
  nb:=by show s.n+c.k≤_;omega
  cur:=fun x hx=>h.cur x (by rw [← q1];exact hx)
  idle:=fun hx=>by
   have hx:s.fd.cur=none:=by rw [← q1];exact hx
   have ha:=h.idle hx
   show cP.ag (s.fd.kH c.retry s.time)=[]
   unfold cP.kH;rw [zG (k:=c.k) (n:=s.n) ha,ha]
   rfl
  kept:=fun g hg=>by
   show g.ii _ (cP.dT (s.fd.kH c.retry s.time)).dc
   rw [Db q1];exact h.kept g (by rw [← q2];exact hg)
  done:=fun hx=>by
   show Ac _ (cP.done (s.fd.kH c.retry s.time))∧0<(cP.done (s.fd.kH c.retry s.time)).dc.size∧uf _ (cP.done (s.fd.kH c.retry s.time)).dc (cP.dk (s.fd.kH c.retry s.time))
   rw [q3,q4];exact h.done (by rw [← q4];exact hx)
  eh:=fun x hx=>by
   cases hc:s.fd.cur with
   | none =>
    have ha:=h.idle hc;have hx:x∈mi s.ls.cF s.fd.dT (s.fd.la s.time) s.eh:=hx;rw [zG (k:=c.k) (n:=s.n) ha] at hx
    exact h.eh x hx
   | some y =>
    have hy:=h.cur y hc;have hv:s.fd.dT=y:=by unfold cP.dT;rw [hc];rfl
    refine Jb (x:=s.fd.dT) (by rw [hv];exact hy.1) (by have:=hy.1.2.2.1;omega) _ s.eh h.eh (Jc h.fd) x hx
  room:=(uI _ _ _ _ h.room).1 }
abbrev vS (i:Nat) (x:WX) (s:eN):cJ:=nB x.g x.d x.k i (cS (i+1)) dN s
def ow:Nat→Nat→List WX→List eN→List cJ
 | i,0,_::xs,_::ss=>ka (i+1) xs ss
 | i,j+1,x::xs,s::ss=>vS i x s::ow (i+1) j xs ss
 | _,_,_,_=>[]
theorem vT:∀ (i j:Nat) (xs:List WX) (ss:List eN) (x:WX) (s:eN),xs[j]?=some x→ss[j]?=some s→cQ (ka i xs ss) (vS (i+j) x s) (ow i j xs ss)
 | i,0,y::xs,t::ss,x,s,h1,h2=>by
  simp only [List.getElem?_cons_zero,Option.some.injEq] at h1 h2
  subst h1 h2;exact .zero
 | i,j+1,y::xs,t::ss,x,s,h1,h2=>by
  simp only [List.getElem?_cons_succ] at h1 h2
  have:=vT (i+1) j xs ss x s h1 h2;rw [show i+1+j=i+(j+1) by omega] at this
  exact .succ this
 | _,_,[],_,_,_,h1,_=>by simp at h1
 | _,_,_::_,[],_,_,_,h2=>by simp at h2
theorem BT (x:WX) (s:eN):∀ (i j:Nat) (xs:List WX) (ss:List eN),ow i j (xs.set j x) (ss.set j s)=ow i j xs ss
 | i,0,[],[]=>rfl
 | i,0,[],_::_=>rfl
 | i,0,_::_,[]=>rfl
 | i,0,y::xs,t::ss=>rfl
 | i,j+1,[],[]=>rfl
 | i,j+1,[],_::_=>rfl
 | i,j+1,_::_,[]=>rfl
 | i,j+1,y::xs,t::ss=>by
  simp only [List.set_cons_succ,ow];rw [BT x s (i+1) j xs ss]
theorem uJ {α:Type}:∀ (l:List α) (j:Nat) (x:α),l[j]?=some x→l.set j x=l
 | [],j,x,h=>by simp at h
 | y::l,0,x,h=>by simp only [List.getElem?_cons_zero,Option.some.injEq] at h;rw [h];rfl
 | y::l,j+1,x,h=>by simp only [List.getElem?_cons_succ] at h;rw [List.set_cons_succ,uJ l j x h]
theorem Fv {M N R:List cJ} {A:cJ} (p:cQ M A N):cQ (M++R) A (N++R):=by
 induction p with
 | zero=>exact .zero
 | succ _ ih=>exact .succ ih
theorem Nw {M N R:List cJ} {A:cJ} (p:cQ M A N):cz (dH M::R) (A::dH N::R) :=
 cj cT (cj (Fv p).out (bh dQ))
theorem all_push {M N R:List cJ} {A:cJ} (p:cQ M A N):cz (A::dH N::R) (dH M::R) :=
 cj (bh cT) (cj (Fv p).back dQ)
theorem Fx {j:Nat} {xs:List WX} {ss:List eN} {x:WX} {s:eN} {R:List cJ} (h1:xs[j]?=some x) (h2:ss[j]?=some s):cz (dH (ka 0 xs ss)::R) (vS j x s::dH (ow 0 j xs ss)::R):=by
 have:=vT 0 j xs ss x s h1 h2;rw [aC] at this
 exact Nw this
theorem Dc {j:Nat} {xs:List WX} {ss:List eN} {x:WX} {s:eN} {R:List cJ} (h1:j<xs.length) (h2:j<ss.length):cz (vS j x s::dH (ow 0 j xs ss)::R) (dH (ka 0 (xs.set j x) (ss.set j s))::R):=by
 have:=vT 0 j (xs.set j x) (ss.set j s) x s (by rw [List.getElem?_set_self h1]) (by rw [List.getElem?_set_self h2]);rw [aC,BT] at this
 exact all_push this
def Wj:eN:=⟨[],0,fW,false⟩
def eN.K6 (w:eN) (x:jc) (n:Nat):Int:=if x.size<w.c.size then 32 else if x.size=w.c.size then 0 else if n=w.c.size then 0 else 31
theorem Jd (c:jc):c=⟨c.size,c.root⟩:=rfl
theorem lK.same {l:List dv} {c d:jc} (h1:lK l c) (h2:lK l d) (h:c.size=d.size):c=d:=by
 rw [Jd c,Jd d,h1.2,h2.2,h]
theorem lK.empty (l:List dv):lK l Si:=⟨aH _,by
 show sk []=ea ((l.take 0).map cY)
 rw [List.take_zero];exact kY.symm⟩
theorem K7 {l:List dv} {w:eN} {x:jc} {n:Nat} {ts:List ej} (h1:lK l w.c) (h2:lK l x) (hl:l.length≤256) (hn:n≤x.size) (ht:ts.map (·.2)=iX ((l.take x.size).map cY) n):w.jp x n x.size ts=w.K6 x n:=by
 unfold eN.jp eN.K6
 split
 ·rfl
 rename_i h3
 split
 ·rename_i h4;rw [aI (h2.same h1 h4)]
 ·rename_i h4
  by_cases h5:n=w.c.size
  ·rw [aI h5,aI];refine ⟨h5,rfl,?_⟩;have hle:x.size≤l.length:=h2.1;have hg:=xD (ts:=(l.take x.size).map fun b=>((nY:Value),cY b)) (out:=ts) (m:=n) (by rw [List.map_map];exact ht) (by rw [ab,aF];omega) (fun a ha=>by obtain ⟨y,-,rfl⟩:=aE.1 ha;exact df _ _) (by rw [ab,aF];omega);rw [ab,aF,Nat.min_eq_left hle] at hg
   rw [h1.2,h2.2]
   have e1:(((l.take x.size).map fun b=>((nY:Value),cY b)).take n).map (·.2)=(l.take w.c.size).map cY:=by
    rw [← List.map_take,List.map_map,List.take_take,Nat.min_eq_left hn,h5];rfl
   have e2:((l.take x.size).map fun b=>((nY:Value),cY b)).map (·.2)=(l.take x.size).map cY:=by rw [List.map_map];rfl
   rw [e1,e2] at hg
   exact hg
  ·rw [aB h5,aB (fun q=>h5 q.1)]
def da.fY (s:da) (j:Nat):eN:=s.ws.getD j Wj
def da.qL (s:da) (j:Nat) (x:jc) (n:Nat):Int:=if (s.fY j).K6 x n≠0 then (s.fY j).K6 x n else if (((s.fY j).grow x).cos (cS (j+1)) j).2=true then 0 else 23
def da.iZ (s:da) (j:Nat) (x:jc) (n:Nat):eN:=if (s.fY j).K6 x n≠0 then s.fY j else (((s.fY j).grow x).cos (cS (j+1)) j).1
def da.PB (s:da) (j:Nat) (x:jc) (n:Nat):fZ:=if s.qL j x n=0 then .iP j (s.iZ j x n).dD else .no j (s.iZ j x n).c.size
def da.send (s:da) (x:fZ):da:={ s with eh:=if s.eh.length<32 then s.eh++[x] else s.eh }
def da.asked (s:da) (j:Nat) (x:jc) (n:Nat):da:={ s with ws:=s.ws.set j (s.iZ j x n) }.send (s.PB j x n)
theorem Nx {s:da} {j n:Nat} {x:j6} {ts:List ej} (h:Ac s.ls.cF x) (h1:lK s.ls.cF (s.fY j).c) (hl:s.ls.cF.length≤256) (hn:n≤x.dc.size) (ht:ts.map (·.2)=iX ((s.ls.cF.take x.dc.size).map cY) n) :
 (s.fY j).y7 (cS (j+1)) dN j x n x.dc.size ts=s.qL j x.dc n∧(s.fY j).xj (cS (j+1)) dN j x n x.dc.size ts=s.iZ j x.dc n:=by
 unfold eN.y7 eN.xj da.qL da.iZ;rw [K7 h1 h.2.2 hl hn ht,aB (show ¬ ¬ x.ii dN from fun q=>q h.1)];exact ⟨rfl,aB (fun q=>q h.1)⟩
theorem Wk (seed:dv) (j:Nat) (w:eN):((w.cos seed j).1).c=w.c∧((w.cos seed j).1).recs=w.recs:=by
 unfold eN.cos
 split
 ·exact ⟨rfl,rfl⟩
 ·split<;>exact ⟨rfl,rfl⟩
theorem SN {seed:dv} {j:Nat} {w:eN} (h:w.ok):((w.cos seed j).1).ok:=by
 unfold eN.cos
 split
 ·exact h
 ·split
  ·rename_i hk;exact { h with keys:=hk,fits:=(j5 hk).fits }
  ·exact h
theorem PC {seed:dv} {j:Nat} {w:eN} (h:w.some=true→w.dD.fY=j∧w.dD.sig.right) (h2:((w.cos seed j).1).some=true):((w.cos seed j).1).dD.fY=j∧((w.cos seed j).1).dD.sig.right:=by
 revert h2
 unfold eN.cos
 split
 ·exact h
 ·split
  ·rename_i hk;exact fun _=>⟨rfl,j5 hk⟩
  ·exact h
theorem Ny {seed:dv} {j:Nat} {w:eN} (h:(w.cos seed j).2=true):((w.cos seed j).1).some=true:=by
 revert h
 unfold eN.cos
 split
 ·rename_i h1;exact fun _=>h1
 ·split
  ·exact fun _=>rfl
  ·intro h;cases h
theorem Nz (w:eN) (c:jc):(w.grow c).recs.length≤w.recs.length+1:=by
 unfold eN.grow
 split
 ·show (w.recs++[c]).length≤_;rw [aa];exact aS _
 ·exact Nat.le_succ _
theorem NA {l:List dv} {w:eN} {x:jc} (h1:lK l w.c) (h2:lK l x):lK l (w.grow x).c:=by
 unfold eN.grow
 split
 ·rw [eN.M0];exact h2
 ·exact h1
theorem PD {l:List eN} {j:Nat} (h:j<l.length):l[j]?=some (l.getD j Wj):=by
 rw [List.getD,ae h];rfl
theorem da.ok.fY {c:dh} {m:Nat} {s:da} (h:s.ok c m) {j:Nat} (hj:j<c.k):(s.fY j).ok∧(s.fY j).recs.length≤m∧lK s.ls.cF (s.fY j).c∧((s.fY j).some=true→(s.fY j).dD.fY=j∧(s.fY j).dD.sig.right)∧s.ws[j]?=Option.some (s.fY j):=by
 have hg:=PD (l:=s.ws) (j:=j) (by rw [h.wl];exact hj);have hm:=ax hg;exact ⟨(h.ws _ hm).1,(h.ws _ hm).2.1,(h.ws _ hm).2.2,h.iP j _ hg,hg⟩
theorem Je {c:dh} {m:Nat} {s:da} (h:s.ok c m) {j:Nat} (hj:j<c.k) {x:j6} {n:Nat} (hx:Ac s.ls.cF x):(s.iZ j x.dc n).ok∧(s.iZ j x.dc n).recs.length≤m+1∧lK s.ls.cF (s.iZ j x.dc n).c∧((s.iZ j x.dc n).some=true→(s.iZ j x.dc n).dD.fY=j∧(s.iZ j x.dc n).dD.sig.right)∧(s.qL j x.dc n=0→(s.iZ j x.dc n).some=true):=by
 obtain ⟨h1,h2,h3,h4,-⟩:=h.fY hj;unfold da.iZ da.qL
 split
 ·rename_i h5;exact ⟨h1,Nat.le_succ_of_le h2,h3,h4,fun q=>absurd q h5⟩
 ·have hg:=eN.xD h1 hx.1.1;have hl:=Nz (s.fY j) x.dc;obtain ⟨c1,c2⟩:=Wk (cS (j+1)) j ((s.fY j).grow x.dc)
  have hy:((s.fY j).grow x.dc).some=true→((s.fY j).grow x.dc).dD.fY=j∧((s.fY j).grow x.dc).dD.sig.right:=by
   unfold eN.grow
   split
   ·intro q;cases q
   ·exact h4
  refine ⟨SN hg,by rw [c2];omega,by rw [c1];exact NA h3 hx.2.2,PC hy,fun q=>?_⟩
  split at q
  ·rename_i h6;exact Ny h6
  ·cases q
end Go.Proofs
