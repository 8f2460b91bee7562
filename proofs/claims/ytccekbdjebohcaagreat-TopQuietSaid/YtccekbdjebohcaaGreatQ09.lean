/- Part 9 of a proof of this: TopQuiet returns true for any arguments; nothing of the old memory is turned. No condition. -/
import Derived.Test.YtccekbdjebohcaaGreatQ08
set_option linter.unusedVariables false
set_option linter.unusedSimpArgs false
namespace Go.Proofs
attribute [local irreducible] Bs.cE Bs.Do Bs.O Bs.W Bs.Fin Bs.A Bs.Ct Bs.cF Bs.Rd Bs.Sat Bs.cL Bs.Ob Bs.dJ Bs.View Bs.cB Bs.Ex Bs.dH Bs.Pu Bs.eZ Bs.dO Bs.dZ
open Go.Bs
open Tryz
variable (R:List cK) (e:World)
theorem H3 {n:Nat} (h0:0<n) (h:n<256):IntKind.u8.wrap ((n:Int) - 1)=((n - 1:Nat):Int):=by
 rw [wrap_u8 zo zo];omega
theorem BO {l:List dw} {i:Nat} (h:i<l.length):(l.drop i).flatten=l[i]'h++(l.drop (i+1)).flatten:=by
 rw [List.drop_eq_getElem_cons h,List.flatten_cons]
theorem Py {l:List kQ} {i:Nat} (h:i<l.length):lK (l.drop i)=eV (l[i]'h)++lK (l.drop (i+1)):=by
 unfold lK;rw [List.drop_eq_getElem_cons h,List.map_cons,List.flatten_cons]
theorem uE (v:Value) (b:wQ) (hv:db R v (fT b)) (hw:b.wf) :
 Ct prog 133 #[v] e R (fun v' L'=>∃ (M:cK) (um up ur ua uq uc:Value),v'=.tuple #[.agg (sE b um up ur ua uq uc).toArray,.int .i64 0]∧rQ [M] um up ur ua uq uc b∧L'=M::R):=by
 have oT:=pu hw;have SD:=hw.fi;have h1:=hw.idx;have h2:=hw.size;have h3:=hw.DH;have h4:=hw.fG;have DF:=fc hw.jN;have tH:=iQ hw.dd hw.sig;have CF:=rh hw.sigs;have Ku:fT b=enc b.fi++(be b.idx 4++(be b.size 4++(UInt8.ofNat b.path.length::(b.path.flatten++(ic b.kR++(UInt8.ofNat b.eJ.length::lK b.eJ)))))):=rfl;refine a7 (cz hv) fun o1=>?_
 refine bI (args:=[_]) func133 rfl ntmps133 results133 rfl ?_
 (repeat (refine wA ?_;intros))
 rename_i g2;refine aZ rfl rfl (jx _ e v (fT b) (hv.cM zE) zo) ?_;rintro _ _ ⟨gr,rfl,rfl⟩;rw [Ku];refine wB ?_;have el:=iz b.fi;have TT:(enc b.fi++(be b.idx 4++(be b.size 4++(UInt8.ofNat b.path.length::(b.path.flatten++(ic b.kR++(UInt8.ofNat b.eJ.length::lK b.eJ))))))).length≤140737488355328:=by rw [← Ku];omega
 refine aZ rfl rfl (IE _ e gr b.fi _ 65535 SD zo TT) ?_;rintro _ _ ⟨LG,cm,rfl,rfl⟩
 (repeat (refine wA ?_;intros))
 rename_i g5;refine aZ rfl rfl (Ct.at zP (tD _ e gr b.idx _ zo)) ?_;rintro _ _ ⟨rfl,rfl⟩;refine wB ?_;refine aZ rfl rfl (Ct.at zP (tD _ e gr b.size _ zo)) ?_;rintro _ _ ⟨rfl,rfl⟩;refine wB ?_;refine aZ rfl rfl (Ct.at zP (vo _ e gr _ _)) ?_;rintro _ _ ⟨rfl,rfl⟩;rw [← qp (n:=b.path.length) zo];refine wB ?_;obtain ⟨tl,oH⟩:∃ tl:dw,tl=ic b.kR++(UInt8.ofNat b.eJ.length::lK b.eJ):=⟨_,rfl⟩
 have afp:tl.length≤600000:=by rw [oH];simp only [aa,aN,tH,CF];omega
 rw [← oH];refine bq (ι:=Nat × List eo × Option Addr × Nat) (fun j=>[(2,pt g2),(3,.int .i64 0),(4,pt gr),(5,pt g5),(6,.int .u8 ((b.path.length - j.1:Nat):Int))]) (fun j=>Reader gr ⟨(b.path.drop j.1).flatten++tl,false⟩::cL g5 [.slice LG b.fi.length cm,.int .i64 (b.idx:Int),.int .i64 (b.size:Int),.slice j.2.2.1 j.2.1.length j.2.2.2,.int .i64 0,nY,.int .i64 0,nY,nY,nY] rC (0,0)::cV (.slice j.2.2.1 j.2.1.length j.2.2.2) j.2.1::cI j.2.1::cT (.slice LG b.fi.length cm) b.fi::cL g2 pO rC (0,0)::R) (fun j=>j.1≤b.path.length∧j.2.1.map (·.2)=b.path.take j.1) (fun j=>b.path.length - j.1) (0,[],none,0) ⟨aH _,rfl⟩ zS (cn (dM) (cn (du eA 1) zE)) ?_;rintro ⟨j,us,m9,cu⟩ ⟨hj,hZ⟩;dsimp only at hj hZ ⊢
 have LC:us.length=j:=by have:=congrArg List.length hZ;rw [ab,aF] at this;omega
 by_cases cP:j<b.path.length
 ·have hpd:=BO cP;have jN:=hw.jN _ (ax cP);have fq:b.path.take (j+1)=b.path.take j++[b.path[j]'cP]:=aD cP
  have hle:((b.path.drop (j+1)).flatten).length≤600:=by
   have:=fc (l:=b.path.drop (j+1)) (n:=32) (fun a ha=>hw.jN a (aV ha));rw [this,aP];omega
  rw [hpd,aM]
  generalize b.path[j]'cP=x at *
  have Fq:=H3 (n:=b.path.length - j) zo zo;rw [show b.path.length - j - 1=b.path.length - (j+1) by omega] at Fq
  refine wB ?_;refine aZ rfl rfl (vi _ e gr _) ?_;rintro _ _ ⟨rfl,rfl⟩;refine wB ?_;refine bk (id:=7) [7,8,9] (cL g5 [.slice LG b.fi.length cm,.int .i64 (b.idx:Int),.int .i64 (b.size:Int),.slice m9 us.length cu,.int .i64 0,nY,.int .i64 0,nY,nY,nY] rC (0,0)::R) mixed ?_
  (refine tF 0 ?_;refine tF 1 ?_;refine tL 2 ?_;refine tM 3 ?_)
  refine tO 4 ?_;refine bg rfl rfl (Ct.at zP (x8 _ e gr 32 x _ jN (by simp only [aa];omega))) ?_;rintro _ _ ⟨qq,cx,rfl,rfl⟩;refine ⟨fun _=>zE,?_⟩;refine tO 5 ?_;refine bF (n:=1) (cs:=[.slice qq x.length cx]) rfl rfl rfl rfl zQ rfl (fun gb=>⟨fun _=>zE,?_⟩);refine tO 6 ?_;refine bo rfl rfl rfl (show cR _ (cV (.slice m9 us.length cu) us) _ from zP) (bP (n:=1) (c:=1) zP rfl zl) rfl rfl zO zm zo fun ei k1 _=>⟨fun _=>zE,?_⟩
  refine tO 7 ?_;refine dV (ba rfl) ?_;refine tO 8 ?_;refine dV (ba rfl) ?_;refine tO 9 ?_;refine tf ?_;refine ⟨zN,?_⟩;refine bf zK ?_;refine wB ?_;rw [Fq];refine bi (j+1,us++[(.slice qq x.length cx,x)],ei,k1) ⟨cP,by dsimp only;rw [fq,ah,hZ];rfl⟩ zd zS ?_;simp only [cV,aa,aj,ah,List.map_cons,List.map_nil];exact cn (cn (show cB _ (cT (.slice qq x.length cx) x::cI us::dJ eA 1 (.slice ei (us.length+1) k1) (us.length+1) (us.map (·.1)++[.slice qq x.length cx])::Reader gr ⟨(b.path.drop (j+1)).flatten++tl,false⟩::cL g5 [.slice LG b.fi.length cm,.int .i64 (b.idx:Int),.int .i64 (b.size:Int),.slice ei (us.length+1) k1,.int .i64 0,nY,.int .i64 0,nY,nY,nY] rC (0,0)::cT (.slice LG b.fi.length cm) b.fi::cL g2 pO rC (0,0)::R) from zE) jq) zE
 rw [aG zo] at hZ
 rw [List.drop_eq_nil_of_le zo,List.flatten_nil,List.nil_append,show b.path.length - j=0 by omega,oH];refine wB ?_;refine aZ rfl rfl (Bl _ e gr b.kR _ hw.dd hw.sig (by simp only [aN,CF];omega)) ?_;rintro _ _ ⟨N,ur,ua,uq,rfl,hN,rfl⟩;refine bn (cz (hN.root.cM (cH zP))) fun o8=>?_
 refine bn (hN.sig.cM (cH zP)).parts.one fun o9=>?_
 refine bn (hN.sig.cM (cH zP)).path.one fun Na=>?_
 (repeat (refine wA ?_;intros))
 refine aZ rfl rfl (Ct.at zP (vo _ e gr _ _)) ?_;rintro _ _ ⟨rfl,rfl⟩;rw [← qp (n:=b.eJ.length) zo];refine wB ?_;refine bq (ι:=Nat × List jo × cK × Option Addr × Nat) (fun j=>[(2,pt g2),(3,.int .i64 0),(4,pt gr),(5,pt g5),(8,.bool true),(9,.int .u8 ((b.eJ.length - j.1:Nat):Int))]) (fun j=>Reader gr ⟨lK (b.eJ.drop j.1),false⟩::cL g5 (sE ⟨b.fi,b.idx,b.size,b.path,b.kR,[]⟩ (.slice LG b.fi.length cm) (.slice m9 us.length cu) ur ua uq (.slice j.2.2.2.1 j.2.1.length j.2.2.2.2)) rC (0,0)::fU (.slice j.2.2.2.1 j.2.1.length j.2.2.2.2) j.2.1::j.2.2.1::N::cV (.slice m9 us.length cu) us::cI us::cT (.slice LG b.fi.length cm) b.fi::cL g2 pO rC (0,0)::R) (fun j=>j.1≤b.eJ.length∧j.2.1.map (·.1)=b.eJ.take j.1∧∀ t∈j.2.1,jo.ok [j.2.2.1] t) (fun j=>b.eJ.length - j.1) (0,[],cI [],none,0) ⟨aH _,rfl,fun t ht=>by cases ht⟩ zS (cn (dM) (cn (du nH 4) zE)) ?_;rintro ⟨k,gs,Mx,DI,cg⟩ ⟨hk,vK,J6⟩;dsimp only at hk vK J6 ⊢
 have VZ:gs.length=k:=by have:=congrArg List.length vK;rw [ab,aF] at this;omega
 by_cases iH:k<b.eJ.length
 ·have tg:=Py iH;have hgw:=hw.ey _ (ax iH);have Sr:=hw.sigs _ (ax iH);have fq:b.eJ.take (k+1)=b.eJ.take k++[b.eJ[k]'iH]:=aD iH
  have hle:(lK (b.eJ.drop (k+1))).length≤600000:=by
   rw [rh (fun g hg=>hw.sigs g (aV hg)),aP];omega
  rw [tg]
  generalize b.eJ[k]'iH=x at *
  have Fq:=H3 (n:=b.eJ.length - k) zo zo;rw [show b.eJ.length - k - 1=b.eJ.length - (k+1) by omega] at Fq
  (repeat (refine wA ?_;intros))
  refine aZ rfl rfl (Ct.at zP (Bo _ e gr x _ hgw Sr zo)) ?_;rintro _ _ ⟨N2,wp,wq,rfl,ns,rfl⟩;refine bn (ns.cM (cH zP)).parts.one fun o13=>?_
  refine bn (ns.cM (cH zP)).path.one fun o14=>?_
  (repeat (refine wA ?_;intros))
  refine bC (bo rfl rfl rfl (show cR _ (fU (.slice DI gs.length cg) gs) _ from zP) (bP (n:=4) (c:=1) zP rfl zl) rfl rfl zO zm zo fun ei k1 _=>?_)
  refine wB ?_;rw [Fq];have eU:cB [dH [Mx,N2]] [Mx]:=cn (cU (M:=[_,_]) (L:=[])) (bh bG);have iJ:cB [dH [Mx,N2]] [N2]:=cn (cU (M:=[_,_]) (L:=[])) (cB.drop (bh bG));refine bi (k+1,gs++[(x,wp,wq)],dH [Mx,N2],ei,k1) ⟨iH,by dsimp only;rw [fq,ah,vK];rfl,fun t ht=>?_⟩ zd zS ?_
  ·rcases aJ.1 ht with ht|ht
   ·exact (J6 t ht).cM eU
   ·rw [an.1 ht];exact ⟨ns.cM iJ,by dsimp only;omega⟩
  ·simp only [fU,aa,aj,aW,aT,List.flatMap_nil,aK];exact cn (ea (A:=Mx) (B:=N2) zP zP) zE
 rw [aG zo] at vK
 rw [List.drop_eq_nil_of_le zo,show b.eJ.length - k=0 by omega,show lK []=[] from rfl];obtain ⟨M,hM⟩:∃ M:cK,M=dH [cT (.slice LG b.fi.length cm) b.fi,cV (.slice m9 us.length cu) us,cI us,N,fU (.slice DI gs.length cg) gs,Mx]:=⟨_,rfl⟩
 have ho:cB [M] [cT (.slice LG b.fi.length cm) b.fi,cV (.slice m9 us.length cu) us,cI us,N,fU (.slice DI gs.length cg) gs,Mx]:=by rw [hM];exact cU (M:=[_,_,_,_,_,_]) (L:=[])
 have tI:rQ [M] (.slice LG b.fi.length cm) (.slice m9 us.length cu) ur ua uq (.slice DI gs.length cg) b :=
  ⟨(bb .zero).cM ho,mR.cM ⟨us,hZ,bb (.succ .zero),dR.ef (.succ (.succ .zero))⟩ ho,(hN.cM (cH zP)).cM ho,pa.cM ⟨gs,vK,bb zP,fun t ht=>(J6 t ht).cM (cH zP)⟩ ho⟩
 have OZ:jG us=true:=by
  unfold jG;rw [decide_eq_true_iff];refine ⟨by omega,fun a ha=>hw.jN _ ?_⟩;rw [← hZ];exact aE.2 ⟨a,ha,rfl⟩
 refine wB ?_;refine aZ rfl rfl (x9 _ e gr []) ?_;rintro _ _ ⟨rfl,rfl⟩;rw [ay rfl];refine wB ?_;refine aZ rfl rfl (mn _ e b.idx) ?_;rintro _ _ ⟨rfl,rfl⟩;rw [ay h1];refine wB ?_;refine aZ rfl rfl (mn _ e b.size) ?_;rintro _ _ ⟨rfl,rfl⟩;rw [ay h2];refine wB ?_;refine aZ rfl rfl (nh _ e (.slice m9 us.length cu) us (bb zP) (dR.ef (show cR _ (cI us) _ from zP))) ?_;rintro _ _ ⟨rfl,rfl⟩;rw [OZ];refine wB ?_;apply br
 ·exact zV
 refine ⟨M::R,cn (show cB _ (cT (.slice LG b.fi.length cm) b.fi::cV (.slice m9 us.length cu) us::cI us::N::fU (.slice DI gs.length cg) gs::Mx::R) from zE) (by rw [hM];exact Nc),M,.slice LG b.fi.length cm,.slice m9 us.length cu,ur,ua,uq,.slice DI gs.length cg,rfl,tI,rfl⟩
structure m6 where
 recs:List dw
def abh:DE:=⟨[],0,[],[]⟩
def C9 (l:List dw):DE:=match l.getLast? with|some b=>dC b|none=>abh
def m6.m (s:m6):DE:=C9 s.recs
theorem BP (l:List dw) (b:dw):C9 (l++[b])=dC b:=by simp [C9]
structure m6.ok (s:m6) (name:dw):Prop where
 size:s.recs.length≤1000
 short:∀ b∈s.recs,b.length≤200
 oh:∀ b∈s.recs,jm b
 name:∀ b∈s.recs,(dC b).name=name
 Ar:((s.recs.map fun b=>(dC b).hO)).Pairwise (·<·)
abbrev SM:TypeId:=173
structure vM where
 gj:Nat
 vl:Value
 vw:Value
 vf:Value
 vn:Value
structure vM.ok (a:vM) (M:cK) (name:dw) (p:jH) (s:m6):Prop where
 wU:j8 [M] a.vl a.vw p
 fw:db [M] a.vf s.m.fw
 notes:db [M] a.vn s.m.notes
 st:s.ok name
 pr:p.right
abbrev vM.cells (a:vM) (name:dw) (p:jH) (s:m6):List Value:=[pt a.gj,.string (str name)]++lG p a.vl a.vw++tQ s.m a.vf a.vn++[.int .i64 (s.recs.length:Int)]
abbrev qH (g d:Nat) (name:dw) (p:jH) (s:m6) (a:vM) (M:cK) (R:List cK):List cK :=
 cL g (a.cells name p s) SM (0,0)::M::jh a.gj d s.recs.length::df d (dz (eW s.recs))::R
def Nh (g d:Nat) (name:dw) (p:jH) (s:m6) (a:vM) (M:cK):cK:=dH (Pu (a.ok M name p s)::qH g d name p s a M [])
def kj (g d:Nat) (name:dw) (p:jH) (s:m6):cK:=Ex fun a=>Ex fun M=>Nh g d name p s a M
theorem I5 {g d:Nat} {name:dw} {p:jH} {s:m6} {R:List cK} {P:Program} {f:FuncId} {args:Array Value} {e:World} {Post:Value→List cK→Prop}
 (h:∀ (a:vM) (M:cK),a.ok M name p s→Ct P f args e (qH g d name p s a M R) Post):Ct P f args e (kj g d name p s::R) Post :=
 Ct.ex .zero fun a=>Ct.ex .zero fun M=>Ct.cM (a7 (p:=a.ok M name p s) (fun w x=>(jR x).1) fun hp=>(h a M hp).cM (cB.drop aX)) (cU (M:=Pu (a.ok M name p s)::qH g d name p s a M []) (L:=R))
theorem vO {g d:Nat} {name:dw} {p:jH} {s:m6} {a:vM} {M:cK} {R:List cK} (h:a.ok M name p s):cB (qH g d name p s a M R) (kj g d name p s::R) :=
 cn (mI h) (cn (dS (M:=Pu (a.ok M name p s)::qH g d name p s a M []) (L:=R)) (cn (fx (f:=fun M=>Nh g d name p s a M) M) (fx (f:=fun a=>Ex fun M=>Nh g d name p s a M) a)))
theorem nI (g d:Nat) (name:dw) (p:jH) (s:m6) :
 Ct prog 29 #[pt g] e (kj g d name p s::R) (fun v' L'=>v'=.int .u32 (s.m.hO:Int)∧L'=kj g d name p s::R):=by
 refine I5 fun a M ha=>?_
 refine a8 (args:=[_]) func29 rfl ntmps29 results29 rfl ?_;refine wB ?_;exact aY (kj g d name p s::R) rfl (vO ha) ⟨rfl,rfl⟩
def m6.mq (name:dw) (p:jH) (s:m6) (b:wQ):Int:=if mj p b≠0 then mj p b else if (dC b.fi).name≠name then 22 else if (dC b.fi).hO≤s.m.hO then 32 else 0
def m6.ii (name:dw) (p:jH) (s:m6) (b:wQ):m6:=if s.mq name p b=0 then ⟨s.recs++[b.fi]⟩ else s
theorem I6 {p:jH} {b:wQ} (h:mj p b=0):jm b.fi:=by
 unfold mj at h
 by_cases hm:jm b.fi
 ·exact hm
 ·rw [aI hm] at h;cases h
theorem m6.xG {name:dw} {p:jH} {s:m6} {b:wQ} (h:s.ok name) (hb:b.fi.length≤200) (hs:s.recs.length<1000) (h0:s.mq name p b=0):m6.ok ⟨s.recs++[b.fi]⟩ name:=by
 have hc:mj p b=0:=by
  unfold m6.mq at h0
  by_cases hc:mj p b≠0
  ·rw [aI hc] at h0;exact absurd h0 hc
  ·exact Decidable.not_not.1 hc
 unfold m6.mq at h0
 rw [aB (fun q=>q hc)] at h0
 by_cases hn:(dC b.fi).name≠name
 ·rw [aI hn] at h0;cases h0
 rw [aB hn] at h0
 by_cases hv:(dC b.fi).hO≤s.m.hO
 ·rw [aI hv] at h0;cases h0
 refine ⟨by simp;omega,fun x hx=>?_,fun x hx=>?_,fun x hx=>?_,?_⟩
 ·rcases aJ.1 hx with hx|hx
  ·exact h.short x hx
  ·rw [an.1 hx];exact hb
 ·rcases aJ.1 hx with hx|hx
  ·exact h.oh x hx
  ·rw [an.1 hx];exact I6 hc
 ·rcases aJ.1 hx with hx|hx
  ·exact h.name x hx
  ·rw [an.1 hx];exact Decidable.not_not.1 hn
 ·rw [ah];refine List.pairwise_append.2 ⟨h.Ar,by simp,fun x hx y hy=>?_⟩;obtain ⟨z,hz,rfl⟩:=aE.1 hx;rw [List.map_cons,List.map_nil,an] at hy
  subst hy;refine Nat.lt_of_le_of_lt ?_ (Nat.lt_of_not_le hv);unfold m6.m C9
  cases hl:s.recs.getLast? with
  | none=>rw [List.getLast?_eq_none_iff] at hl;rw [hl] at hz;cases hz
  | some q =>
   obtain ⟨A,hA⟩:=List.getLast?_eq_some_iff.1 hl;have hr:=h.Ar;rw [hA,ah] at hr
   rw [hA] at hz
   rcases aJ.1 hz with hz|hz
   ·exact Nat.le_of_lt ((List.pairwise_append.1 hr).2.2 _ (aE.2 ⟨z,hz,rfl⟩) _ (aE.2 ⟨q,an.2 rfl,rfl⟩))
   ·rw [an.1 hz];exact aS _
theorem Fs (g d:Nat) (name:dw) (p:jH) (s:m6) (v:Value) (b:wQ) (hv:db R v (fT b)) (hw:b.wf) (O2:b.fi.length≤200) (hs:s.recs.length<1000) :
 Ct prog 52 #[pt g,v] e (kj g d name p s::R) (fun v' L'=>v'=.int .i64 (s.mq name p b)∧L'=kj g d name p (s.ii name p b)::R):=by
 refine I5 fun a M ha=>?_
 refine a7 (cz (hv.cM (show cB (qH g d name p s a M R) R from zE))) fun o1=>?_
 refine a7 (cz (ha.wU.log.cM (show cB (qH g d name p s a M R) [M] from cH zP))) fun o2=>?_
 refine a7 (ha.wU.ey.cM (show cB (qH g d name p s a M R) [M] from cH zP)).one fun o3=>?_
 refine a7 (cz (ha.fw.cM (show cB (qH g d name p s a M R) [M] from cH zP))) fun o4=>?_
 refine a7 (cz (ha.notes.cM (show cB (qH g d name p s a M R) [M] from cH zP))) fun o5=>?_
 refine a8 (args:=[_,_]) func52 rfl ntmps52 results52 rfl ?_;refine wB ?_;refine aZ rfl rfl (uE _ e v b (hv.cM zE) hw) ?_;rintro _ _ ⟨N,um,up,ur,ua,uq,uc,rfl,hN,rfl⟩;refine bn (cz (hN.fi.cM (cH zP))) fun q1=>?_
 refine bn (hN.path.cM (cH zP)).one fun q2=>?_
 refine bn (cz (hN.kR.root.cM (cH zP))) fun q3=>?_
 refine bn (hN.kR.sig.cM (cH zP)).parts.one fun q4=>?_
 refine bn (hN.kR.sig.cM (cH zP)).path.one fun q5=>?_
 refine bn (hN.gs.cM (cH zP)).one fun q6=>?_
 (repeat (refine wA ?_;intros))
 rename_i g5;refine bk (id:=4) [6] (cL g5 (sE b um up ur ua uq uc) rC (0,0)::N::qH g d name p s a M R) mixed ?_
 (refine tM 0 ?_;refine tN 1 ?_;refine tF 2 ?_;refine tk 3 _ rfl (cE.dh rfl zP zI zX) ?_;refine tJ 4 ?_)
 refine tO 5 ?_;refine bg rfl rfl (Ff _ e a.vl a.vw um up ur ua uq uc p b (ha.wU.cM (cH zP)) ha.pr (hN.cM (cH zP)) hw) ?_;rintro _ _ ⟨rfl,rfl⟩;refine ⟨fun _=>zE,?_⟩
 by_cases hc:mj p b=0
 rotate_left
 ·have hE:s.mq name p b=mj p b:=by unfold m6.mq;rw [aI hc]
  have hS:s.ii name p b=s:=by unfold m6.ii;rw [hE,aB hc]
  rw [hE,hS]
  generalize mj p b=E at *
  ((refine tO 6 ?_;refine dV (bj rfl) ?_))
  refine bf zK ?_;refine wB ?_;exact aY (kj g d name p s::R) rfl (cn (show cB _ (qH g d name p s a M R) from zE) (vO ha)) ⟨rfl,rfl⟩
 rw [hc]
 ((refine tO 6 ?_;refine dV (bj rfl) ?_))
 refine bf zK ?_;refine wB ?_;have hmo:=I6 hc;have Pf:s.mq name p b=if (dC b.fi).name≠name then 22 else if (dC b.fi).hO≤s.m.hO then 32 else 0:=by unfold m6.mq;rw [aB (fun q=>q hc)]
 refine aZ rfl rfl (kB _ e um b.fi (hN.fi.cM (cH zP)) zo) ?_;rintro v1 _ ⟨mG,-⟩;obtain ⟨Mm,vf,vn,rfl,hf,hn,rfl⟩:=mG hmo;clear mG;refine bn (cz (hf.cM (cH zP))) fun q7=>?_
 refine bn (cz (hn.cM (cH zP))) fun q8=>?_
 (repeat (refine wA ?_;intros))
 rename_i g8
 by_cases O3:(dC b.fi).name=name
 rotate_left
 ·have hE:s.mq name p b=22:=by rw [Pf,aI O3]
  have hS:s.ii name p b=s:=by unfold m6.ii;rw [hE,aB (by decide)]
  rw [hE,hS];refine bz (id:=8) [] mixed ?_
  (refine tF 0 ?_;refine tL 1 ?_;refine tM 2 ?_;refine tN 3 ?_;refine tF 4 ?_;refine tL 5 ?_;refine tk 6 (.bool true) rfl (cE.iW (cE.Gm rfl rfl) zy) ?_;refine tA 7 ?_)
  refine bf zK ?_;refine wB ?_;exact aY (kj g d name p s::R) rfl (cn (show cB _ (qH g d name p s a M R) from zE) (vO ha)) ⟨rfl,rfl⟩
 subst O3;rw [aB (fun q=>q rfl)] at Pf
 refine bz (id:=8) [] mixed ?_
 (refine tF 0 ?_;refine tL 1 ?_;refine tM 2 ?_;refine tN 3 ?_;refine tF 4 ?_;refine tL 5 ?_;refine tk 6 (.bool false) rfl (cE.no (cE.Gm rfl rfl) zn) ?_;refine tA 7 ?_)
 refine bf zK ?_
 by_cases hvr:(dC b.fi).hO≤s.m.hO
 ·have hE:s.mq (dC b.fi).name p b=32:=by rw [Pf,aI hvr]
  have hS:s.ii (dC b.fi).name p b=s:=by unfold m6.ii;rw [hE,aB (by decide)]
  rw [hE,hS];refine wB ?_;refine bz (id:=10) [] mixed ?_
  (refine tF 0 ?_;refine tL 1 ?_;refine tM 2 ?_;refine tN 3 ?_;refine tF 4 ?_;refine tF 5 ?_;refine tL 6 ?_;refine tk 7 (.bool true) rfl (cE.iW (cE.leq rfl rfl) zy) ?_;refine tA 8 ?_)
  refine bf zK ?_;refine wB ?_;exact aY (kj g d (dC b.fi).name p s::R) rfl (cn (show cB _ (qH g d (dC b.fi).name p s a M R) from zE) (vO ha)) ⟨rfl,rfl⟩
 have hE:s.mq (dC b.fi).name p b=0:=by rw [Pf,aB hvr]
 have hS:s.ii (dC b.fi).name p b=⟨s.recs++[b.fi]⟩:=by unfold m6.ii;rw [aI hE]
 have eu:=m6.xG ha.st O2 hs hE;rw [hE,hS];have xk:=kE (l:=s.recs) (n:=200) ha.st.short;obtain ⟨p1,p2,p3⟩:=add_plain (b:=eW s.recs) (m:=b.fi) (sy:=(eW s.recs).length) zo;refine wB ?_;refine bz (id:=10) [] mixed ?_
 (refine tF 0 ?_;refine tL 1 ?_;refine tM 2 ?_;refine tN 3 ?_;refine tF 4 ?_;refine tF 5 ?_;refine tL 6 ?_;refine tk 7 (.bool false) rfl (cE.no (cE.leq rfl rfl) zn) ?_;refine tA 8 ?_)
 refine bf zK ?_;refine wB ?_;refine bk (id:=12) [7] (cL g5 (sE b um up ur ua uq uc) rC (0,0)::N::cL g (a.cells (dC b.fi).name p s) SM (0,0)::R) mixed ?_
 (refine tM 0 ?_;refine tN 1 ?_;refine tF 2 ?_;refine tL 3 ?_;refine tF 4 ?_;refine tL 5 ?_)
 have MR:=fun L:List cK=>fun Sl:db L um b.fi=>nZ L e a.gj d s.recs.length (nk (eW s.recs) (eW s.recs).length) b.fi um (ui zo (aS _)) Sl zo zo
 rw [p1,p2,p3] at MR
 refine tO 6 ?_;refine bg rfl rfl (Ct.AR zP zP (MR _ (hN.fi.cM (cH zP)))) ?_;rintro _ _ ⟨rfl,rfl⟩;refine ⟨fun _=>zE,?_⟩
 ((refine tO 7 ?_;refine dV (bj rfl) ?_))
 refine bf zK ?_;refine wB ?_;have Cg:m6.m ⟨s.recs++[b.fi]⟩=dC b.fi:=BP _ _;have eU:cB [dH [M,Mm]] [M]:=cn (cU (M:=[_,_]) (L:=[])) (bh bG);have iJ:cB [dH [M,Mm]] [Mm]:=cn (cU (M:=[_,_]) (L:=[])) (cB.drop (bh bG))
 have LD:vM.ok { a with vf:=vf,vn:=vn } (dH [M,Mm]) (dC b.fi).name p ⟨s.recs++[b.fi]⟩ :=
  ⟨ha.wU.cM eU,by rw [Cg];exact hf.cM iJ,by rw [Cg];exact hn.cM iJ,eu,ha.pr⟩
 refine aY (kj g d (dC b.fi).name p ⟨s.recs++[b.fi]⟩::R) rfl (cn ?_ (vO LD)) ⟨rfl,rfl⟩;simp only [qH,vM.cells,Cg,n8,aa,aj];exact cn (ea (A:=M) (B:=Mm) zP zP) zE
theorem H4 (d:Nat) (name:dw) (vl vw:Value) (p:jH) (s:m6) (hp:j8 R vl vw p) (sW:p.right) (O3:pK name) (hs:s.ok name) :
 Ct prog 47 #[pt d,.string (str name),.agg (lG p vl vw).toArray] e (df d (dz (eW s.recs))::R) (fun v' L'=>∃ g,v'=.tuple #[pt g,.int .i64 0]∧L'=kj g d name p s::R):=by
 have xk:=kE (l:=s.recs) (n:=200) hs.short;have Hw:∀ m∈s.recs,m.length≤65535:=fun m hm=>by have:=hs.short m hm;omega
 have EO:=n9 s.recs Hw;have lq:=hs.size;have mX:cB (df d (dz (eW s.recs))::R) R:=zE;refine a7 (cz (hp.log.cM mX)) fun o2=>?_
 refine a7 (hp.ey.cM mX).one fun o3=>?_
 have Ab:=O3.2.1;have hmr:DE.right ⟨name,1,List.replicate 32 0,[]⟩:=⟨O3,Nat.one_pos,rfl,aH _⟩
 refine a8 (args:=[_,_,_]) func47 rfl ntmps47 results47 rfl ?_
 (repeat (refine wA ?_;intros))
 rename_i g5;refine bC (Do.makeSlice (c:=32) rfl rfl rfl rfl zl (by decide) fun gz=>?_)
 have hz:List.replicate 32 (Value.int .u8 0)=(List.replicate 32 (0:UInt8)).map u8:=rfl;rw [hz]
 (repeat (refine wA ?_;intros))
 refine aZ rfl rfl (wD _ e (.slice (some ⟨gz,0,none⟩) 32 32) nY ⟨name,1,List.replicate 32 0,[]⟩ (bb .zero) (cF.nil _ _) zd) ?_;rintro _ _ ⟨rfl,rfl⟩;rw [ay hmr];refine wB ?_;refine aZ rfl rfl (j9 _ e vl vw p (hp.cM zE) sW) ?_;rintro _ _ ⟨rfl,rfl⟩;refine wB ?_;refine aZ rfl rfl (Ct.at zP (nj _ e d (eW s.recs) zo)) ?_;rintro _ _ (⟨h1,-⟩|⟨-,gj,uv,cr,ts,rfl,fB,rfl⟩)
 ·rw [EO] at h1;cases h1
 rw [EO] at fB ⊢
 rw [show (eW s.recs).take (eW s.recs).length=eW s.recs from List.take_length];dsimp only at fB
 have oH:ts.length=s.recs.length:=by have:=congrArg List.length fB;rwa [ab] at this
 refine wB ?_;refine aZ rfl rfl (CW _ e vl vw p (hp.cM zE) (by have:=sW.log;omega) (by have:=sW.fG;omega) (fun b hb=>by have:=sW.kT b hb;omega)) ?_;rintro _ _ ⟨Mp,ul,uw,rfl,Gg,rfl⟩;refine bn (cz (Gg.log.cM (cH zP))) fun o4=>?_
 refine bn (Gg.ey.cM (cH zP)).one fun o5=>?_
 (repeat (refine wA ?_;intros))
 rename_i gu;refine bq (ι:=Nat × cK × Value × Value) (fun i=>[(1,.string (str name)),(11,pt gu),(41,.slice uv ts.length cr),(42,.int .i64 (ts.length:Int)),(43,.int .i64 (i.1:Int))]) (fun i=>cL gu (vM.cells ⟨gj,ul,uw,i.2.2.1,i.2.2.2⟩ name p ⟨s.recs.take i.1⟩) SM (0,0)::i.2.1::Mp::cI ts::cV (.slice uv ts.length cr) ts::jh gj d ts.length::df d (dz (eW s.recs))::R) (fun i=>i.1≤ts.length∧db [i.2.1] i.2.2.1 (C9 (s.recs.take i.1)).fw∧db [i.2.1] i.2.2.2 (C9 (s.recs.take i.1)).notes) (fun i=>ts.length - i.1) (0,cI [],nY,nY) ⟨aH _,cF.nil _ _,cF.nil _ _⟩ zS (cn dM zE) ?_;rintro ⟨i,Mx,vf,vn⟩ ⟨hi,hf,hn⟩;dsimp only at hi hf hn ⊢
 by_cases cP:i<ts.length
 rotate_left
 ·rw [aG zo] at hf hn ⊢
  have eU:cB [dH [Mp,Mx]] [Mp]:=cn (cU (M:=[_,_]) (L:=[])) (bh bG);have iJ:cB [dH [Mp,Mx]] [Mx]:=cn (cU (M:=[_,_]) (L:=[])) (cB.drop (bh bG));have j1:vM.ok ⟨gj,ul,uw,vf,vn⟩ (dH [Mp,Mx]) name p s:=⟨Gg.cM eU,hf.cM iJ,hn.cM iJ,hs,sW⟩
  refine wB ?_;refine aY (kj gu d name p s::R) rfl (cn ?_ (vO j1)) ⟨gu,rfl,rfl⟩;dsimp only [qH];rw [← oH];exact cn (ea (A:=Mp) (B:=Mx) zP zP) zE
 have pg:i<s.recs.length:=by omega
 have ju:(ts[i]'cP).2=s.recs[i]'pg:=by
  have:=congrArg (fun l=>l[i]?) fB;simp only [aL,ae cP,ae pg,Option.map_some,Option.some.injEq] at this
  exact this
 have fq:s.recs.take (i+1)=s.recs.take i++[s.recs[i]'pg]:=aD pg;have EQ:=hs.oh _ (ax pg);have hsi:=hs.short _ (ax pg);have U5:=hs.name _ (ax pg)
 have hvi:(C9 (s.recs.take i)).hO<(dC (s.recs[i]'pg)).hO:=by
  have hr:=hs.Ar.sublist ((List.take_sublist (i+1) s.recs).map fun b=>(dC b).hO);rw [fq,ah] at hr
  unfold C9
  cases hl:(s.recs.take i).getLast? with
  | none=>exact EQ.2.2.2.1
  | some q=>exact (List.pairwise_append.1 hr).2.2 _ (aE.2 ⟨q,List.mem_of_getLast? hl,rfl⟩) _ (by simp)
 have Cg:C9 (s.recs.take (i+1))=dC (s.recs[i]'pg):=by rw [fq,BP]
 refine bD ((bb (show cR _ (cV (.slice uv ts.length cr) ts) _ from zP)).shape zo) ?_;rintro ⟨⟨lO,c',lP,wG,IV,Ao,uW⟩,_⟩
 cases lP
 simp only [maxLen] at IV
 rcases uW with uW|⟨gr,or',rfl⟩
 ·omega
 have iX:∀ L R',cR L (cV (.slice (some ⟨gr,or',none⟩) ts.length cr) ts) R'→Rd L ⟨gr,or'+i,none⟩ (ts[i]'cP).1:=fun L R' p=>(bb p).elem (by rw [aL,ae cP];rfl)
 have sf:∀ L R',cR L (cI ts) R'→db L (ts[i]'cP).1 (ts[i]'cP).2:=fun L R' p=>dR.ef p _ (ax cP)
 generalize s.recs[i]'pg=n at *
 generalize ts[i]'cP=y at *
 obtain ⟨yv,b⟩:=y;dsimp only at iX sf ju
 subst ju;refine bD (cz (sf _ _ zP)) fun oy=>?_
 refine wB ?_;refine bW rfl (iX _ _ zP) rfl ?_;refine wB ?_;refine aZ rfl rfl (kB _ e yv b (sf _ _ zP) zo) ?_;rintro v1 _ ⟨hd,-⟩;obtain ⟨Md,wf,wn,rfl,QO,AX,rfl⟩:=hd EQ;refine bn (cz (QO.cM (cH zP))) fun o6=>?_
 refine bn (cz (AX.cM (cH zP))) fun o7=>?_
 subst U5;have Q2:(s.recs.take i).length=i:=by rw [aF];omega
 have VO:(⟨s.recs.take i⟩:m6).recs.length=i:=Q2;have afs:(m6.m ⟨s.recs.take i⟩).hO<(dC b).hO:=hvi
 (repeat (refine wA ?_;intros))
 refine bz (id:=11) [] mixed ?_
 (refine tM 0 ?_;refine tk 1 (.bool false) rfl (cE.no (cE.neq rfl rfl) zn) ?_;refine tM 2 ?_;refine dv 3 _ rfl (ba rfl) ?_;refine dv 4 _ rfl (bp rfl zR) ?_;refine dv 5 _ rfl (bu rfl) ?_;refine dv 6 (.bool false) rfl (cE.no (cE.Gm rfl rfl) zn) ?_;refine tk 7 _ rfl (bJ rfl rfl) ?_;refine tM 8 ?_;refine dv 9 _ rfl (ba rfl) ?_;refine dv 10 _ rfl (bp rfl zR) ?_;refine dv 11 _ rfl (bu rfl) ?_;refine dv 12 _ rfl (bm rfl) ?_;refine dv 13 _ rfl (ba rfl) ?_;refine dv 14 _ rfl (ba rfl) ?_;refine dv 15 _ rfl (bp rfl zR) ?_;refine dv 16 (.bool false) rfl (cE.no (cE.leq rfl rfl) zn) ?_;refine tk 17 _ rfl (bJ rfl rfl) ?_)
 refine bf zK ?_;refine wB ?_;have AW:((⟨s.recs.take (i+1)⟩:m6).recs.length:Int)=((s.recs.take i).length:Int)+1:=by rw [fq];simp
 have Q5:m6.m ⟨s.recs.take (i+1)⟩=dC b:=Cg;refine bi (i+1,Md,wf,wn) ⟨cP,by dsimp only;rw [Cg];exact QO,by dsimp only;rw [Cg];exact AX⟩ zd zS ?_;dsimp only [vM.cells];rw [Q5,AW];exact zE
structure H5 where
 cG:List dw
 last:Option j7
def H5.dE (s:H5):j7:=s.last.getD vH
structure H5.ok (s:H5):Prop where
 size:s.cG.length≤1000
 short:∀ b∈s.cG,b.length≤1000
 last:∀ x,s.last=some x→x.fits
abbrev KW:TypeId:=181
structure xp where
 vl:Value
 ai:Option Addr
 ci:Nat
 ts:List eo
 al:Option Addr
 cl:Nat
 us:List eo
 ur:Value
 up:Value
 uq:Value
structure xp.ok (a:xp) (M:cK) (log:dw) (s:H5):Prop where
 log:db [M] a.vl log
 cG:a.ts.map (·.2)=s.cG
 yO:dR [M] a.ts
 leaves:a.us.map (·.2)=s.cG.map cZ
 An:dR [M] a.us
 last:fj [M] a.ur a.up a.uq s.dE
 st:s.ok
abbrev xp.cells (a:xp) (s:H5):List Value:=[a.vl,.slice a.ai a.ts.length a.ci,.slice a.al a.us.length a.cl,nY]++dT s.dE a.ur a.up a.uq++[.bool s.last.isSome]
abbrev xq (g:Nat) (s:H5) (a:xp) (M:cK) (R:List cK):List cK :=
 cL g (a.cells s) KW (0,0)::cV (.slice a.ai a.ts.length a.ci) a.ts::cV (.slice a.al a.us.length a.cl) a.us::M::R
def Ni (g:Nat) (log:dw) (s:H5) (a:xp) (M:cK):cK:=dH (Pu (a.ok M log s)::xq g s a M [])
def jO (g:Nat) (log:dw) (s:H5):cK:=Ex fun a=>Ex fun M=>Ni g log s a M
theorem Da {g:Nat} {log:dw} {s:H5} {R:List cK} {P:Program} {f:FuncId} {args:Array Value} {e:World} {Post:Value→List cK→Prop}
 (h:∀ (a:xp) (M:cK),a.ok M log s→Ct P f args e (xq g s a M R) Post):Ct P f args e (jO g log s::R) Post :=
 Ct.ex .zero fun a=>Ct.ex .zero fun M=>Ct.cM (a7 (p:=a.ok M log s) (fun w x=>(jR x).1) fun hp=>(h a M hp).cM (cB.drop aX)) (cU (M:=Pu (a.ok M log s)::xq g s a M []) (L:=R))
theorem Db {g:Nat} {log:dw} {s:H5} {a:xp} {M:cK} {R:List cK} (h:a.ok M log s):cB (xq g s a M R) (jO g log s::R) :=
 cn (mI h) (cn (dS (M:=Pu (a.ok M log s)::xq g s a M []) (L:=R)) (cn (fx (f:=fun M=>Ni g log s a M) M) (fx (f:=fun a=>Ex fun M=>Ni g log s a M) a)))
theorem sJ (g:Nat) (log:dw) (s:H5) :
 Ct prog 41 #[pt g] e (jO g log s::R) (fun v' L'=>v'=.int .i64 (s.cG.length:Int)∧L'=jO g log s::R):=by
 refine Da fun a M ha=>?_
 have hl:a.ts.length=s.cG.length:=by have:=congrArg List.length ha.cG;rwa [ab] at this
 refine a8 (args:=[_]) func41 rfl ntmps41 results41 rfl ?_;refine wB ?_;exact aY (jO g log s::R) rfl (Db ha) ⟨by rw [← hl];rfl,rfl⟩
theorem KX (v:Value) (log:dw) (hv:db R v log) (hl:log.length=32) :
 Ct prog 37 #[v] e R (fun v' L'=>∃ g,v'=.tuple #[pt g,.int .i64 0]∧L'=jO g log ⟨[],none⟩::R):=by
 refine a7 (cF.shape hv zo) ?_;rintro ⟨⟨ad,c,rfl,-,-,-,-⟩,_⟩;refine a8 (args:=[_]) func37 rfl ntmps37 results37 rfl ?_;refine wB ?_;refine aZ rfl rfl (dy _ e _ log (hv.cM zE) zo) ?_;rintro _ _ ⟨ei,c1,rfl,rfl⟩
 (repeat (refine wA ?_;intros))
 rename_i g
 have j1:xp.ok ⟨.slice ei log.length c1,none,0,[],none,0,[],nY,nY,nY⟩ (cT (.slice ei log.length c1) log) log ⟨[],none⟩ :=
  ⟨bb .zero,rfl,fun x hx=>absurd hx aO,rfl,fun x hx=>absurd hx aO,pz _,⟨aH _,fun b hb=>absurd hb aO,fun x hx=>nomatch hx⟩⟩
 refine aY (jO g log ⟨[],none⟩::R) rfl (cn (cn (du eA 1) (cn (du eA 1) ?_)) (Db j1)) ⟨g,rfl,rfl⟩;dsimp only [xq,xp.cells];exact zE
theorem Ft (v:Value) (l:List eo) (h:cF R 1 v l.length (l.map (·.1))) (h1:dR R l) (hl:l.length≤100000) :
 Ct prog 100 #[v] e R (fun v' L'=>∃ ad c,v'=.slice ad l.length c∧L'=cV (.slice ad l.length c) l::R):=by
 refine a7 (BG h1) fun ho=>?_
 have ho2:∀ c∈l.map (·.1),c.oneCell'=true:=fun c hc=>by obtain ⟨m,hm,rfl⟩:=aE.1 hc;exact ho m hm
 refine a7 (h.shape zo) ?_;rintro ⟨⟨ad,cap,rfl,h3,h4,h5,h6⟩,_⟩;refine a8 (args:=[_]) func100 rfl ntmps100 results100 rfl ?_
 cases ad with
 | none =>
  have u7:l=[]:=by
   have:=h5 rfl;exact List.eq_nil_of_length_eq_zero zo
  subst u7;refine wB ?_;exact aY _ rfl (du _ _) ⟨_,_,rfl,rfl⟩
 | some a =>
  (repeat (refine wA ?_;intros))
  refine O.fp (hH (n:=1) (k:=0) (cap:=0) zo zl rfl) ?_;refine bC (bo rfl rfl rfl .zero h rfl rfl ho2 zm zo fun lO c' lP=>?_)
  refine wB ?_;refine aY _ rfl ?_ ⟨lO,c',by simp [AS],rfl⟩;simp only [aC];exact aX
abbrev I7:TypeId:=87
theorem Fu (g:Nat) (log:dw) (s:H5) (vr vp vq v:Value) (x:j7) (ls:List eo) (hx:fj R vr vp vq x) (KT:x.fits) (hv:x.hO log) (Be:cF R 1 v ls.length (ls.map (·.1))) (RW:dR R ls) (hs:s.cG.length<x.dd.size) (hl:ls.length=x.dd.size - s.cG.length) (hb:∀ y∈ls,y.2.length≤1000) (rI:x.dd.root=eg ((s.cG++ls.map (·.2)).map cZ)) :
 Ct prog 39 #[pt g,.agg (dT x vr vp vq).toArray,v] e (jO g log s::R) (fun v' L'=>v'=.int .i64 0∧L'=jO g log ⟨s.cG++ls.map (·.2),some x⟩::R):=by
 refine Da fun a M ha=>?_
 have oH:a.ts.length=s.cG.length:=by have:=congrArg List.length ha.cG;rwa [ab] at this
 have hu:a.us.length=s.cG.length:=by have:=congrArg List.length ha.leaves;rwa [ab,ab] at this
 have lq:=ha.st.size;have hxs:=KT.1.1;have mX:cB (xq g s a M R) R:=zE;refine a7 (cz (hx.root.cM mX)) fun o5=>?_
 refine a7 (hx.sig.cM mX).parts.one fun o6=>?_
 refine a7 (hx.sig.cM mX).path.one fun o7=>?_
 refine a7 (BG (fun y hy=>(RW y hy).cM mX)) fun o8=>?_
 refine a7 (cz (ha.log.cM (show cB (xq g s a M R) [M] from cH zP))) fun o9=>?_
 refine a7 ((Be.cM mX).shape zo) ?_;rintro ⟨⟨wm,cv,rfl,hv3,R6,QN,IH⟩,_⟩;simp only [maxLen] at R6
 have jN:∀ y∈a.us,y.2.length=32:=fun y hy=>by
  have:y.2∈s.cG.map cZ:=by rw [← ha.leaves];exact aE.2 ⟨y,hy,rfl⟩
  obtain ⟨b,hb,GR⟩:=aE.1 this;rw [← GR];exact dg _ _
 refine a8 (args:=[_,_,_]) func39 rfl ntmps39 results39 rfl ?_
 (repeat' first|refine Zb ?_|apply Zc|apply Zd|apply Ze|apply Zf|refine Zh ?_|refine Yg fun _=>?_|refine Yh fun _=>?_|apply YB|refine YR ?_|(apply O.dh;exact rfl;exact zP;(first|(simp only [aC,Nat.add_zero,Nat.reduceAdd,List.drop_succ_cons,List.drop_zero,List.take_succ_cons,List.take_zero];done)|(simp only [aC,Nat.add_zero,Nat.reduceAdd,List.drop_succ_cons,List.drop_zero,List.take_succ_cons,List.take_zero];exact rfl));exact rfl;exact rfl))
 rename_i g4 g7;refine bz (id:=2) [] mixed ?_
 (refine tM 0 ?_;refine tN 1 ?_;refine tF 2 ?_;refine tL 3 ?_;refine tJ 4 ?_)
 refine tO 5 ?_;refine bg rfl rfl (kA _ e a.vl vr vp vq log x (ha.log.cM (cH zP)) (hx.cM zE) KT.1) ?_;rintro _ _ ⟨rfl,rfl⟩;refine ⟨fun _=>zE,A.fS zE ?_⟩;rw [ay hv]
 (refine tk 6 _ rfl (cE.jZ rfl) ?_;refine tA 7 ?_)
 refine bf zK ?_;refine wB ?_;refine bz (id:=4) [] mixed ?_
 (refine tF 0 ?_;refine tL 1 ?_;refine tM 2 ?_;refine tN 3 ?_;refine tF 4 ?_;refine tL 5 ?_;refine tk 6 _ rfl (bN rfl) ?_;refine tk 7 (.bool false) rfl (cE.no (cE.leq rfl rfl) zn) ?_;refine tM 8 ?_;refine bc 9 rfl rfl zK zE rfl ?_;refine bc 10 rfl rfl zK zE rfl ?_;refine bc 11 rfl rfl zK zE rfl ?_;refine tk 12 _ rfl (bJ rfl rfl) ?_;refine tA 13 ?_)
 refine bf zK ?_;refine wB ?_;refine bz (id:=6) [] mixed ?_
 (refine tF 0 ?_;refine tL 1 ?_;refine tM 2 ?_;refine tN 3 ?_;refine tF 4 ?_;refine tL 5 ?_;refine tk 6 _ rfl (bN rfl) ?_;refine tk 7 (.bool false) rfl (cE.no (cE.leq rfl rfl) zn) ?_;refine tM 8 ?_;refine bc 9 rfl rfl zK zE rfl ?_;refine bc 10 rfl rfl zK zE rfl ?_;refine bc 11 rfl rfl zK zE rfl ?_;refine bc 12 rfl rfl zK zE rfl ?_;refine bc 13 rfl rfl zK zE rfl ?_;refine bc 14 rfl rfl zK zE rfl ?_;refine bc 15 rfl rfl zK zE rfl ?_;refine bc 17 rfl rfl zK zE rfl ?_;refine bc 18 rfl rfl zK zE rfl ?_)
 refine bc 16 rfl rfl zK zE rfl ?_;refine bc 19 rfl rfl zK zE rfl ?_
 (refine bc 20 rfl rfl zK zE rfl ?_;refine tk 21 _ rfl (bJ rfl rfl) ?_;refine tA 22 ?_)
 refine bf zK ?_;refine wB ?_;refine bz (id:=9) [] mixed ?_
 (refine tF 0 ?_;refine tL 1 ?_;refine tM 2 ?_;refine tN 3 ?_;refine tF 4 ?_;refine tL 5 ?_;refine tk 6 _ rfl (bN rfl) ?_;refine tk 7 (.bool false) rfl (cE.no (cE.leq rfl rfl) zn) ?_;refine tA 8 ?_)
 refine bf zK ?_;refine wB ?_;refine bz (id:=11) [] mixed ?_
 (refine tM 0 ?_;refine tk 1 _ rfl (bN rfl) ?_;refine tF 2 ?_;refine tL 3 ?_;refine tM 4 ?_;refine tN 5 ?_;refine tF 6 ?_;refine tL 7 ?_;refine tk 8 _ rfl (bN rfl) ?_;refine tk 9 _ rfl (cE.jA rfl rfl zo) ?_;refine tk 10 (.bool false) rfl (cE.no (cE.neq rfl rfl) zn) ?_;refine tA 11 ?_)
 refine bf zK ?_;refine wB ?_;refine aZ rfl rfl (Ft _ e (.slice a.al a.us.length a.cl) a.us (bb zP) (fun y hy=>(ha.An y hy).cM (cH zP)) zo) ?_;rintro _ _ ⟨ad8,c8,rfl,rfl⟩;refine wB ?_;refine bq (ι:=Nat × List eo × Option Addr × Nat) (fun j=>[(0,pt g),(2,.slice wm ls.length cv),(4,pt g4),(7,pt g7),(8,.slice j.2.2.1 (a.us++j.2.1).length j.2.2.2),(98,.slice wm ls.length cv),(99,.int .i64 (ls.length:Int)),(100,.int .i64 (j.1:Int))]) (fun j=>cV (.slice j.2.2.1 (a.us++j.2.1).length j.2.2.2) (a.us++j.2.1)::cI j.2.1::cL g7 (iT x.dd vr) 83 (0,0)::cL g4 (dT x vr vp vq) I7 (0,0)::cL g [a.vl,.slice a.ai a.ts.length a.ci,.slice a.al a.us.length a.cl,nY,.int .i64 (s.dE.dd.size:Int),a.ur,.int .i64 (s.dE.sig.idx:Int),a.up,a.uq,.bool s.last.isSome] KW (0,0)::cV (.slice a.ai a.ts.length a.ci) a.ts::cV (.slice a.al a.us.length a.cl) a.us::M::R) (fun j=>j.1≤ls.length∧j.2.1.map (·.2)=((ls.take j.1).map (·.2)).map cZ) (fun j=>ls.length - j.1) (0,[],ad8,c8) ⟨aH _,rfl⟩ (by rw [aK];exact zS) (by rw [aK];exact cn dM zE) ?_;rintro ⟨j,fs,Ug,cf⟩ ⟨hj,BF⟩;dsimp only at hj BF ⊢
 have DF:fs.length=j:=by have:=congrArg List.length BF;rw [ab,ab,ab,aF] at this;omega
 by_cases cP:j<ls.length
 ·rcases IH with IH|⟨gg,og,rfl⟩
  ·omega
  have hr:Rd R ⟨gg,og+j,none⟩ (ls[j]'cP).1:=Be.elem (by rw [aL,ae cP];rfl);have Ei:=RW _ (ax cP);have O2:=hb _ (ax cP);have fq:(ls.take (j+1)).map (·.2)=(ls.take j).map (·.2)++[(ls[j]'cP).2]:=by rw [aD cP,ah];rfl
  generalize ls[j]'cP=y at *
  obtain ⟨yv,b⟩:=y;dsimp only at hr Ei O2 fq
  refine bD (cz (Ei.cM zE)) fun o3=>?_
  have LC:(a.us++fs).length=a.us.length+j:=by rw [aa,DF]
  (repeat' first|(refine bW rfl (hr.cM zE) rfl ?_)|refine Za ?_|refine Zb ?_|apply Zc|apply Zd|apply Ze|apply Zf|refine ZA ?_|refine Yw ?_|refine Yz ?_|apply YB|apply YC)
  refine aZ rfl rfl (qU _ e yv b (Ei.cM zE) zo) ?_;rintro _ _ ⟨qq,cx,rfl,rfl⟩
  (repeat (refine wA ?_;intros))
  refine bC (bo rfl rfl rfl (show cR _ (cV (.slice Ug (a.us++fs).length cf) (a.us++fs)) _ from zP) (bP (n:=1) (c:=1) zP rfl zl) rfl rfl zO zm zo fun ei k1 _=>?_)
  refine wB ?_;have e1:a.us++(fs++[(.slice qq (cZ b).length cx,cZ b)])=(a.us++fs)++[(.slice qq (cZ b).length cx,cZ b)]:=by rw [aM]
  have e2:((a.us++fs)++[(Value.slice qq (cZ b).length cx,cZ b)]).length=(a.us++fs).length+1:=by rw [aa];rfl
  refine bi (j+1,fs++[(.slice qq (cZ b).length cx,cZ b)],ei,k1) ⟨cP,by dsimp only;rw [fq,ah,ah,BF];rfl⟩ zd ?_ ?_
  ·dsimp only;rw [e1,e2];exact zS
  ·dsimp only;rw [e1];simp only [cV,e2,ah (l₁:=a.us++fs),List.map_cons,List.map_nil];exact cn (cn (show cB _ (cT (.slice qq (cZ b).length cx) (cZ b)::cI fs::dJ eA 1 (.slice ei ((a.us++fs).length+1) k1) ((a.us++fs).length+1) ((a.us++fs).map (·.1)++[.slice qq (cZ b).length cx])::cL g7 (iT x.dd vr) 83 (0,0)::cL g4 (dT x vr vp vq) I7 (0,0)::cL g [a.vl,.slice a.ai a.ts.length a.ci,.slice a.al a.us.length a.cl,nY,.int .i64 (s.dE.dd.size:Int),a.ur,.int .i64 (s.dE.sig.idx:Int),a.up,a.uq,.bool s.last.isSome] KW (0,0)::cV (.slice a.ai a.ts.length a.ci) a.ts::cV (.slice a.al a.us.length a.cl) a.us::M::R) from zE) jq) zE
 rw [aG zo] at BF
 have Nj:(a.us++fs).map (·.2)=(s.cG++ls.map (·.2)).map cZ:=by rw [ah,ah,ha.leaves,BF]
 have abk:eg ((a.us++fs).map (·.2))=x.dd.root:=by rw [rI,Nj]
 have Wi:∀ L R',cR L (cI fs) R'→cB L [M]→dR L (a.us++fs):=fun L R' pl hm y hy=>by
  rcases aJ.1 hy with hy|hy
  ·exact (ha.An y hy).cM hm
  ·exact dR.ef pl y hy
 have abl:∀ y∈a.us++fs,y.2.length≤1000000:=fun y hy=>by
  have:y.2∈(a.us++fs).map (·.2):=aE.2 ⟨y,hy,rfl⟩;rw [Nj] at this
  obtain ⟨b,hb,GR⟩:=aE.1 this;rw [← GR,show (cZ b).length=32 from dg _ _];decide
 have LC:(a.us++fs).length≤2000:=by rw [aa];omega
 refine wB ?_;refine bz (id:=19) [] mixed ?_
 (refine tM 0 ?_;refine tF 2 ?_;refine tL 3 ?_)
 refine tO 1 ?_;refine bg rfl rfl (j4 _ _ e (.slice Ug (a.us++fs).length cf) (a.us++fs) rfl (bb zP) (Wi _ _ zP (cH zP)) abl zo) ?_;rintro _ _ ⟨uv,kr,rfl,rfl⟩;refine ⟨fun _=>zE,A.fS zE ?_⟩;rw [abk];refine tO 4 ?_;refine bg rfl rfl (sC _ e _ vr x.dd.root x.dd.root (bb zP) (hx.root.cM zE)) ?_;rintro _ _ ⟨rfl,rfl⟩;refine ⟨fun _=>zE,A.fS zE ?_⟩;rw [ay rfl]
 (refine tk 5 _ rfl (cE.jZ rfl) ?_)
 refine bf zK ?_;refine wB ?_;refine bq (ι:=Nat × List eo × Option Addr × Nat) (fun j=>[(0,pt g),(4,pt g4),(8,.slice Ug (a.us++fs).length cf),(116,.slice wm ls.length cv),(117,.int .i64 (ls.length:Int)),(118,.int .i64 (j.1:Int))]) (fun j=>cL g [a.vl,.slice j.2.2.1 (a.ts++j.2.1).length j.2.2.2,.slice a.al a.us.length a.cl,nY,.int .i64 (s.dE.dd.size:Int),a.ur,.int .i64 (s.dE.sig.idx:Int),a.up,a.uq,.bool s.last.isSome] KW (0,0)::cV (.slice j.2.2.1 (a.ts++j.2.1).length j.2.2.2) (a.ts++j.2.1)::cI j.2.1::cI fs::cV (.slice Ug (a.us++fs).length cf) (a.us++fs)::cL g4 (dT x vr vp vq) I7 (0,0)::M::R) (fun j=>j.1≤ls.length∧j.2.1.map (·.2)=(ls.take j.1).map (·.2)) (fun j=>ls.length - j.1) (0,[],a.ai,a.ci) ⟨aH _,rfl⟩ zS (by rw [aK];exact cn dM zE) ?_;rintro ⟨j2,gs,DI,cg⟩ ⟨Gb,vK⟩;dsimp only at Gb vK ⊢
 have CF:gs.length=j2:=by have:=congrArg List.length vK;rw [ab,ab,aF] at this;omega
 by_cases iH:j2<ls.length
 ·rcases IH with IH|⟨gg,og,rfl⟩
  ·omega
  have hr:Rd R ⟨gg,og+j2,none⟩ (ls[j2]'iH).1:=Be.elem (by rw [aL,ae iH];rfl);have Ei:=RW _ (ax iH);have O2:=hb _ (ax iH);have fq:(ls.take (j2+1)).map (·.2)=(ls.take j2).map (·.2)++[(ls[j2]'iH).2]:=by rw [aD iH,ah];rfl
  generalize ls[j2]'iH=y at *
  obtain ⟨yv,b⟩:=y;dsimp only at hr Ei O2 fq
  refine bD (cz (Ei.cM zE)) fun o3=>?_
  have aft:(a.ts++gs).length=a.ts.length+j2:=by rw [aa,CF]
  (repeat' first|(refine bW rfl (hr.cM zE) rfl ?_)|refine Zb ?_|apply Zc|apply Zd|apply Ze|apply Zf|refine ZA ?_|refine Yw ?_|refine Yz ?_|apply YB|apply YC)
  refine bk (id:=24) [9,10,11] (cL g [a.vl,.slice DI (a.ts++gs).length cg,.slice a.al a.us.length a.cl,nY,.int .i64 (s.dE.dd.size:Int),a.ur,.int .i64 (s.dE.sig.idx:Int),a.up,a.uq,.bool s.last.isSome] KW (0,0)::R) mixed ?_
  (refine tM 0 ?_;refine tM 1 ?_;refine tN 2 ?_;refine tF 3 ?_;refine tL 4 ?_;refine tM 5 ?_)
  refine tO 6 ?_;refine bg rfl rfl (dy _ e yv b (Ei.cM zE) zo) ?_;rintro _ _ ⟨qq,cx,rfl,rfl⟩;refine ⟨fun _=>zE,?_⟩;refine tO 7 ?_;refine bF (n:=1) (cs:=[.slice qq b.length cx]) rfl rfl rfl rfl zQ rfl (fun gb=>⟨fun _=>zE,?_⟩);refine tO 8 ?_;refine bo rfl rfl rfl (show cR _ (cV (.slice DI (a.ts++gs).length cg) (a.ts++gs)) _ from zP) (bP (n:=1) (c:=1) zP rfl zl) rfl rfl zO zm zo fun ei k1 _=>⟨fun _=>zE,?_⟩
  refine tO 9 ?_;refine dV (bm rfl) ?_;refine tO 10 ?_;refine dV (ba rfl) ?_;refine tO 11 ?_;refine tf ?_;refine ⟨zN,?_⟩;refine bf zK ?_;refine wB ?_;have e1:a.ts++(gs++[(.slice qq b.length cx,b)])=(a.ts++gs)++[(.slice qq b.length cx,b)]:=by rw [aM]
  have e2:((a.ts++gs)++[(Value.slice qq b.length cx,b)]).length=(a.ts++gs).length+1:=by rw [aa];rfl
  refine bi (j2+1,gs++[(.slice qq b.length cx,b)],ei,k1) ⟨iH,by dsimp only;rw [fq,ah,vK];rfl⟩ zd zS ?_;dsimp only;rw [e1];simp only [cV,e2,ah (l₁:=a.ts++gs),List.map_cons,List.map_nil];exact cn (cn (show cB _ (cT (.slice qq b.length cx) b::cI gs::cL g [a.vl,.slice ei ((a.ts++gs).length+1) k1,.slice a.al a.us.length a.cl,nY,.int .i64 (s.dE.dd.size:Int),a.ur,.int .i64 (s.dE.sig.idx:Int),a.up,a.uq,.bool s.last.isSome] KW (0,0)::dJ eA 1 (.slice ei ((a.ts++gs).length+1) k1) ((a.ts++gs).length+1) ((a.ts++gs).map (·.1)++[.slice qq b.length cx])::cI fs::cV (.slice Ug (a.us++fs).length cf) (a.us++fs)::cL g4 (dT x vr vp vq) I7 (0,0)::M::R) from zE) jq) zE
 rw [aG zo] at vK
 refine wB ?_;refine aZ rfl rfl (gS _ e vr vp vq x (hx.cM zE) KT.2.fits) ?_;rintro _ _ ⟨N,ur,up,uq,rfl,hN,rfl⟩;refine bn (cz (hN.root.cM (cH zP))) fun Na=>?_
 refine bn (hN.sig.cM (cH zP)).parts.one fun V4=>?_
 refine bn (hN.sig.cM (cH zP)).path.one fun XF=>?_
 refine wB ?_;have T6:cB [dH [M,N,cI fs,cI gs]] [M,N,cI fs,cI gs]:=cU (M:=[_,_,_,_]) (L:=[])
 have j1:xp.ok ⟨a.vl,DI,cg,a.ts++gs,Ug,cf,a.us++fs,ur,up,uq⟩ (dH [M,N,cI fs,cI gs]) log ⟨s.cG++ls.map (·.2),some x⟩ :=
  ⟨(
   ha.log.cM (cH .zero)).cM T6,by dsimp only;rw [ah,ha.cG,vK],fun y hy=>by
   rcases aJ.1 hy with hy|hy
   ·exact ((ha.yO y hy).cM (cH .zero)).cM T6
   ·exact (dR.ef (show cR [M,N,cI fs,cI gs] (cI gs) _ from zP) y hy).cM T6,Nj,fun y hy=>(Wi [M,N,cI fs,cI gs] _ zP (cH .zero) y hy).cM T6,(hN.cM (cH (.succ .zero))).cM T6,⟨by simp only [aa,ab];omega,fun b tc=>by
   rcases aJ.1 tc with tc|tc
   ·exact ha.st.short b tc
   ·obtain ⟨y,hy,rfl⟩:=aE.1 tc;exact hb y hy,fun y hy=>by cases hy;exact KT⟩⟩
 refine aY (jO g log ⟨s.cG++ls.map (·.2),some x⟩::R) rfl (cn ?_ (Db j1)) ⟨rfl,rfl⟩;dsimp only [xq,xp.cells];exact cn (rf (A:=M) (B:=N) (C:=cI fs) (D:=cI gs) zP zP zP zP) zE
end Go.Proofs
namespace Go.Proofs
open Go.Bs
attribute [local irreducible] Bs.cE Bs.Do Bs.O Bs.W Bs.Fin Bs.A Bs.Ct Bs.cF Bs.Rd Bs.Sat Bs.cL Bs.Ob Bs.dJ Bs.View Bs.cB Bs.Ex Bs.dH Bs.Pu Bs.eZ Bs.dO Bs.dZ
open Tryz
variable (R:List cK) (e:World)
structure gW where
 kind:Int
 Om:Int
 to:Int
 v:Value
 b:List UInt8
def gW.cells (m:gW):List Value:=[.int .i64 m.kind,.int .i64 m.Om,.int .i64 m.to,m.v]
def gW.t (m:gW):eo:=(m.v,m.b)
def gW.d (m:gW):Int × Int × Int × List UInt8:=(m.kind,m.Om,m.to,m.b)
abbrev Nk:TypeId:=268
theorem pB (m:gW):m.cells.length=4:=rfl
theorem Nl:∀ l:List gW,(l.flatMap gW.cells).length=l.length*4
 | []=>rfl
 | m::l=>by
  rw [aT,aa,Nl l,pB,aN,Nat.add_mul];omega
theorem I8 (l:List gW) (i:Nat):(l.flatMap gW.cells).take (i*4)=(l.take i).flatMap gW.cells:=by
 induction l generalizing i with
 | nil=>simp
 | cons m l ih =>
  cases i with
  | zero=>simp
  | succ i =>
   rw [aT,List.take_succ_cons,aT,List.take_append,pB,aG (by rw [pB];omega),← ih]
   congr 2;omega
theorem Pz (l:List gW) (i:Nat):(l.flatMap gW.cells).drop (i*4)=(l.drop i).flatMap gW.cells:=by
 induction l generalizing i with
 | nil=>simp
 | cons m l ih =>
  cases i with
  | zero=>simp
  | succ i =>
   rw [aT,List.drop_succ_cons,List.drop_append,pB,List.drop_of_length_le (by rw [pB];omega),← ih];simp only [List.nil_append]
   congr 1;omega
abbrev vP (v:Value) (l:List gW):cK:=dJ Nk 4 v l.length (l.flatMap gW.cells)
def Nm (g n:Nat) (l:List gW) (ad:Option Addr) (c:Nat):cK:=dH [cL g [.int .i64 (n:Int),.slice ad l.length c] 224 (0,0),vP (.slice ad l.length c) l,cI (l.map gW.t)]
def Net (g n:Nat) (l:List gW):cK:=Ex fun ad=>Ex fun c=>Nm g n l ad c
section
variable {g n:Nat} {l:List gW} {R:List cK} {P:Program} {e:World}
theorem Dc {f:FuncId} {args:Array Value} {Post:Value→List cK→Prop}
 (h:∀ ad c,Ct P f args e (cL g [.int .i64 (n:Int),.slice ad l.length c] 224 (0,0)::vP (.slice ad l.length c) l::cI (l.map gW.t)::R) Post):Ct P f args e (Net g n l::R) Post :=
 Ct.ex .zero fun ad=>Ct.ex .zero fun c=>(h ad c).cM cU
theorem Fv {N:Fr} {all:Array Oper} {ol:List Oper} {Q:fP} {σ:Env}
 (h:∀ ad c,O P N all ol Q σ e (cL g [.int .i64 (n:Int),.slice ad l.length c] 224 (0,0)::vP (.slice ad l.length c) l::cI (l.map gW.t)::R)):O P N all ol Q σ e (Net g n l::R) :=
 O.ex .zero fun ad=>O.ex .zero fun c=>(h ad c).cM cU
theorem nJ {c:Nat} {ad:Option Addr}:cB (cL g [.int .i64 (n:Int),.slice ad l.length c] 224 (0,0)::vP (.slice ad l.length c) l::cI (l.map gW.t)::R) (Net g n l::R) :=
 cn (dS (M:=[_,_,_])) (cn (fx (f:=fun c=>Nm g n l ad c) c) (fx (f:=fun ad=>Ex fun c=>Nm g n l ad c) ad))
end
theorem BQ {g n:Nat} {l:List gW} {R:List cK}:cB (Net g n l::R) (cI (l.map gW.t)::R) :=
 jF fun ad=>jF fun c=>cU.trans zE
theorem sK {v:Value} {l:List gW} {L R:List cK} (p:cR L (vP v l) R):∀ h,dO L h→∃ ad c,v=.slice ad l.length c∧l.length≤c∧c≤maxLen∧((ad=none∧c=0∧l.length=0)∨∃ g,ad=some ⟨g,0,none⟩):=fun h x=>by
 obtain ⟨⟨ad,c,h1,h2,h3,h4⟩,_⟩:=fk p h x;exact ⟨ad,c,h1,h2,h3,h4⟩
theorem KY (n:Nat) (hn:1≤n∧n≤32) :
 Ct prog 165 #[.int .i64 n] e R (fun v' L'=>∃ g,v'=.tuple #[pt g,.int .i64 0]∧L'=Net g n []::R):=by
 refine a8 (args:=[_]) func165 rfl ntmps165 results165 rfl ?_
 (repeat (refine wA ?_;intros))
 exact aY _ rfl ((bh ((du Nk 4).trans (bh dM))).trans (nJ (l:=[]))) ⟨_,rfl,rfl⟩
theorem KZ (m:gW) (hr:db R m.v m.b) (hb:m.b.length≤140737488351232) :
 Ct prog 248 #[.agg m.cells.toArray] e R (fun v' L'=>∃ ad c,v'=.agg (gW.cells { m with v:=.slice ad m.b.length c }).toArray∧L'=cI [(.slice ad m.b.length c,m.b)]::R):=by
 refine a7 (hr.shape zo) ?_;rintro ⟨⟨J7,c0,hv,g3,g4,g5,g6⟩,_⟩;obtain ⟨kind,Om,to,v,b⟩:=m;dsimp only at hr hb hv g3 g6 ⊢
 subst hv;simp only [gW.cells];refine bI (args:=[_]) func248 rfl ntmps248 results248 rfl ?_
 (repeat (refine wA ?_;intros))
 refine aZ rfl rfl (dy _ e _ b hr.tail.tail zo) ?_;rintro _ _ ⟨ad,c,rfl,rfl⟩;refine wB ?_;apply br
 ·exact zV
 ·exact ⟨_,(show cB _ (cT (.slice ad b.length c) b::R) from zE).trans (jw (a:=(.slice ad b.length c,b))),ad,c,rfl,rfl⟩
theorem Fx (g n:Nat) (l:List gW) (i:Int) (hl:l.length≤1000) :
 Ct prog 249 #[pt g,.int .i64 i] e (Net g n l::R) (fun v' L'=>v'=.bool (decide (0≤i∧i<l.length))∧L'=Net g n l::R):=by
 refine Dc fun ad c=>?_
 refine a8 (args:=[_,_]) func249 rfl ntmps249 results249 rfl ?_
 by_cases h0:0≤i
 ·by_cases h1:i<l.length
  ·refine wB ?_;exact aY _ rfl nJ ⟨by simp [h0,h1];rfl,rfl⟩
  ·refine wB ?_;exact aY _ rfl nJ ⟨by simp [h1];rfl,rfl⟩
 ·refine wB ?_;exact aY _ rfl nJ ⟨by simp [h0];rfl,rfl⟩
theorem BR (g n:Nat) (l:List gW) :
 Ct prog 62 #[pt g] e (Net g n l::R) (fun v' L'=>v'=.int .i64 (l.length:Int)∧L'=Net g n l::R):=by
 refine Dc fun ad c=>?_
 refine a8 (args:=[_]) func62 rfl ntmps62 results62 rfl ?_;refine wB ?_;exact aY _ rfl nJ ⟨rfl,rfl⟩
theorem sL (g n:Nat) (l:List gW) (m:gW) (hr:db (Net g n l::R) m.v m.b) (hb:m.b.length≤140737488351232) (hl:l.length≤n) (hn:n≤1000) :
 Ct prog 176 #[pt g,.agg m.cells.toArray] e (Net g n l::R)
  (fun v' L'=>(l.length<n∧v'=.bool true∧∃ v2,L'=Net g n (l++[{ m with v:=v2 }])::R)∨(¬ l.length<n∧v'=.bool false∧L'=Net g n l::R)):=by
 refine a7 (cz hr) ?_;intro h1;refine Dc fun ad c=>?_
 refine a8 (args:=[_,_]) func176 rfl ntmps176 results176 rfl ?_
 by_cases cP:l.length<n
 ·have tI:∀ A,db (A::cL g [.int .i64 (n:Int),.slice ad l.length c] 224 (0,0)::vP (.slice ad l.length c) l::cI (l.map gW.t)::R) m.v m.b:=fun A=>(hr.cM nJ).tail
  obtain ⟨kind,Om,to,v,b⟩:=m;dsimp only at tI h1 hb
  simp only [gW.cells]
  (repeat' first|refine Zb ?_|apply Zc|apply Zd|apply Ze|apply Zf|refine Yg fun _=>?_|refine YA ?_|apply YC|(refine bz (id:=1) [] mixed ?_;all_goals (refine tM 0 ?_);all_goals (refine tN 1 ?_);all_goals (refine tF 2 ?_);all_goals (refine tL 3 ?_);all_goals (refine tk 4 _ rfl (bN rfl) ?_);all_goals (refine tM 5 ?_);all_goals (refine tN 6 ?_);all_goals (refine tF 7 ?_);all_goals (refine tL 8 ?_);all_goals (first|refine tk 9 (.bool true) rfl (cE.iW (bS rfl rfl) zy) ?_|refine tk 9 (.bool false) rfl (cE.no (bS rfl rfl) zn) ?_);all_goals (refine bf zK ?_)))
  rename_i gb;refine bk (id:=3) [9,10,11] [cL gb [.int .i64 kind,.int .i64 Om,.int .i64 to,v] Nk (0,0),cL g [.int .i64 (n:Int),.slice ad l.length c] 224 (0,0)] mixed ?_
  (refine tM 0 ?_;refine tM 1 ?_;refine tN 2 ?_;refine tF 3 ?_;refine tL 4 ?_)
  refine tk 5 _ rfl (cE.dx (cs:=[.int .i64 kind,.int .i64 Om,.int .i64 to,v]) rfl zA rfl) ?_;refine tO 6 ?_;refine bg rfl rfl (KZ _ e ⟨kind,Om,to,v,b⟩ (tI _) hb) ?_;rintro _ _ ⟨dW,c2,rfl,rfl⟩;refine ⟨fun _=>zE,?_⟩;refine tO 7 ?_;refine bF (n:=4) rfl rfl rfl rfl zQ rfl (fun g2=>⟨fun _=>zE,?_⟩);refine tO 8 ?_;refine bo rfl rfl rfl zP (bP (n:=4) (c:=1) .zero rfl zl) rfl rfl (by simp [Value.oneCell',gW.cells]) zm zo fun eE c3 _=>⟨fun _=>zE,?_⟩
  ((refine tO 9 ?_;refine dV (bm rfl) ?_);(refine tO 10 ?_;refine dV (ba rfl) ?_);(refine tO 11 ?_;refine tf ?_;refine ⟨zN,?_⟩))
  refine bf zK ?_;refine wB ?_;refine aY (Net g n (l++[⟨kind,Om,to,.slice dW b.length c2,b⟩])::R) rfl (cn (show cB _ (cI (l.map gW.t)::cI [(.slice dW b.length c2,b)]::cL g [.int .i64 (n:Int),.slice eE (l.length+1) c3] 224 (0,0)::dJ Nk 4 (.slice eE (l.length+1) c3) (l.length+1) (l.flatMap gW.cells++gW.cells ⟨kind,Om,to,.slice dW b.length c2,b⟩)::R) from zE) ?_) (.inl ⟨cP,rfl,_,rfl⟩);refine cn eL (cn ?_ (nJ (ad:=eE) (c:=c3)));simp only [vP,aa,aj,aW,aT,List.flatMap_nil,aK,ah,List.map_cons,List.map_nil];exact zE
 ·(repeat' first|refine Zb ?_|apply Zc|apply Zd|apply Ze|apply Zf|refine Yg fun _=>?_|refine Yz ?_|apply YE|apply YF|(refine bz (id:=1) [] mixed ?_;all_goals (refine tM 0 ?_);all_goals (refine tN 1 ?_);all_goals (refine tF 2 ?_);all_goals (refine tL 3 ?_);all_goals (refine tk 4 _ rfl (bN rfl) ?_);all_goals (refine tM 5 ?_);all_goals (refine tN 6 ?_);all_goals (refine tF 7 ?_);all_goals (refine tL 8 ?_);all_goals (first|refine tk 9 (.bool true) rfl (cE.iW (bS rfl rfl) zy) ?_|refine tk 9 (.bool false) rfl (cE.no (bS rfl rfl) zn) ?_);all_goals (refine bf zK ?_)))
  exact aY _ rfl (cn zE nJ) (.inr ⟨cP,rfl,rfl⟩)
theorem K0 {α:Type} {A Y zs W:List α} {m:Nat} (h:A.length=m):((A++Y).take m++zs++W).take m=A:=by
 rw [List.take_left' h,aM,List.take_left' h]
theorem Dd (ad:Option Addr) (c:Nat) (l:List gW) (i:Nat) (hi:i<l.length) (hb:∀ m∈l,m.v.oneCell'=true) :
 Ct prog 250 #[.slice ad l.length c,.int .i64 i,.int .i64 ((i:Int)+1)] e (vP (.slice ad l.length c) l::R) (fun v' L'=>v'=.slice ad (l.take i++l.drop (i+1)).length c∧L'=vP (.slice ad (l.take i++l.drop (i+1)).length c) (l.take i++l.drop (i+1))::R):=by
 refine a7 (sK .zero) ?_;rintro ⟨_,_,hv,hc,hm,hg⟩
 cases hv
 rcases hg with ⟨_,_,h0⟩|⟨g,rfl⟩
 ·omega
 simp only [maxLen] at hm
 have mY:∀ c∈l.flatMap gW.cells,c.oneCell'=true:=fun c hc=>by
  obtain ⟨m,hm,hc⟩:=List.mem_flatMap.1 hc;simp only [gW.cells,aQ,aO,or_false] at hc
  rcases hc with rfl|rfl|rfl|rfl
  ·rfl
  ·rfl
  ·rfl
  ·exact hb m hm
 refine a8 (args:=[_,_,_]) func250 rfl ntmps250 results250 rfl ?_;refine wB ?_;refine bx _ (cE.slice3 rfl rfl rfl rfl zo zo zo zo) rfl ?_;have e1:((i:Int)+1).toNat=i+1:=by omega
 have hlen:(l.take i++l.drop (i+1)).length=l.length - 1:=by rw [aa,aF,aP];omega
 refine wB ?_;refine bk (id:=5) [7] [] mixed ?_;refine bH 0 _ rfl zK bG (bu rfl) rfl ?_;refine bH 1 _ rfl zK bG (bu rfl) rfl ?_;refine bH 2 _ rfl zK bG (cE.iV rfl rfl zo zo) rfl ?_;refine bH 3 _ rfl zK bG (bu rfl) rfl ?_;refine bH 4 _ rfl zK bG (bu rfl) rfl ?_;refine bH 5 _ rfl zK bG (cE.ln rfl rfl zo zo) rfl ?_;refine tO 6 ?_;refine Do.LO (i:=i) (j:=i+1) (m:=l.length - (i+1)) rfl rfl rfl .zero rfl zo zo ?_ mY ⟨fun _=>bG,?_⟩
 ·rcases Nat.lt_or_ge (i+1) l.length with h|h
  ·right
   unfold cutAt;rw [aB zo,e1]
   simp [Addr.add_lit]
  ·left;omega
 refine tO 7 ?_;refine bO (bj rfl) rfl ⟨fun _=>bG,?_⟩;refine bf zK ?_;have e2:((i+(l.length - (i+1)):Nat):Int).toNat=l.length - 1:=by omega
 have e3:i+(l.length - (i+1))=l.length - 1:=by omega
 refine wB ?_;refine bC (Do.clear (o:=(l.length - 1)*4) rfl .zero rfl (by simp [Value.oneCell',Value.cells]) zo (.inr ?_) fun zs hz=>?_)
 ·unfold cutAt;rw [aB zo,e2]
  simp [Addr.add_lit]
 have tG:=nP (E:=Nk) (n:=4) (ad:=some ⟨g,0,none⟩) (k:=l.length) (lo:=l.length - 1) (c:=c) (R:=R)
  (xs:=((l.flatMap gW.cells).take (i*4)++((l.flatMap gW.cells).drop ((i+1)*4)).take ((l.length - (i+1))*4)++(l.flatMap gW.cells).drop ((i+(l.length - (i+1)))*4)).take ((l.length - 1)*4)++zs ++
   ((l.flatMap gW.cells).take (i*4)++((l.flatMap gW.cells).drop ((i+1)*4)).take ((l.length - (i+1))*4)++(l.flatMap gW.cells).drop ((i+(l.length - (i+1)))*4)).drop ((l.length - 1)*4+((l.length:Int).toNat - ((i+(l.length - (i+1)):Nat):Int).toNat)*4)) zo
 refine O.fp tG ?_;refine wB ?_;rw [e3];refine aY _ rfl ?_ ⟨by rw [hlen];rfl,rfl⟩;unfold vP;rw [hlen];have hx:=Nl l
 have e4:((l.flatMap gW.cells).take (i*4)++((l.flatMap gW.cells).drop ((i+1)*4)).take ((l.length - (i+1))*4)).length=(l.length - 1)*4:=by
  simp only [aa,aF,aP,hx];omega
 rw [K0 e4,I8,Pz,I8,aG (l:=l.drop (i+1)) (by rw [aP];omega),← aW];exact aX
theorem Fy {R:List cK} {l:List gW} {i:Nat} (h:i<l.length):cB (cI (l.map gW.t)::R) (cI [(l[i]'h).t]::cI ((l.take i++l.drop (i+1)).map gW.t)::R):=by
 have e1:l.map gW.t=(l.take i).map gW.t++([(l[i]'h).t]++(l.drop (i+1)).map gW.t):=by
  have e2:l=l.take i++l[i]::l.drop (i+1):=by rw [← List.drop_eq_getElem_cons h,List.take_append_drop]
  conv=>lhs;rw [e2]
  simp only [ah,List.map_cons,List.singleton_append]
 rw [e1,ah];refine cn qe (cn (bh qe) (cn (bw (.succ .zero) aX) (bh eL)))
theorem jt (g n:Nat) (l:List gW) (i:Int) (hl:l.length≤1000) (hb:∀ m∈l,m.v.oneCell'=true) :
 Ct prog 177 #[pt g,.int .i64 i] e (Net g n l::R)
  (fun v' L'=>(∃ (k:Nat) (h:k<l.length),i=k∧v'=.tuple #[.agg (l[k]'h).cells.toArray,.bool true]∧L'=cI [(l[k]'h).t]::Net g n (l.take k++l.drop (k+1))::R) ∨
   (¬ (0≤i∧i<l.length)∧v'=.tuple #[.agg (gW.cells ⟨0,0,0,nY,[]⟩).toArray,.bool false]∧L'=Net g n l::R)):=by
 refine bI (args:=[_,_]) func177 rfl ntmps177 results177 rfl ?_
 (repeat (refine wA ?_;intros))
 refine aZ rfl rfl (Ct.at (.succ .zero) (Fx _ e g n l i hl)) ?_;rintro _ _ ⟨rfl,rfl⟩
 by_cases h:0≤i∧i<l.length
 ·obtain ⟨k,rfl⟩:=Int.eq_ofNat_of_zero_le h.1;have hk:k<l.length:=by omega
  rw [show decide (0≤(k:Int)∧(k:Int)<l.length)=true by simp [hk]];refine O.fp (bw .zero aX) ?_;refine Fv fun ad c=>?_
  refine bn (sK (.succ .zero)) ?_;rintro ⟨_,_,hv,hc,hm,hg⟩
  cases hv
  rcases hg with ⟨_,_,h0⟩|⟨g1,rfl⟩
  ·omega
  have G5:∀ L',dZ (vP (.slice (some ⟨g1,0,none⟩) l.length c) l::L') g1 (0+k*4) (l[k]'hk).cells:=fun L'=>dZ.elem (bb .zero) pB (ae hk)
  have h1:=hb _ (ax hk);refine wB ?_;refine O.dx rfl (G5 _).tail rfl rfl ?_
  generalize hm:l[k]'hk=m at *
  obtain ⟨kind,Om,to,v,b⟩:=m;dsimp only at h1
  simp only [gW.cells]
  (repeat (refine wA ?_;intros))
  refine aZ rfl rfl (Ct.at (.succ (.succ .zero)) (Dd _ e (some ⟨g1,0,none⟩) c l k hk hb)) ?_;rintro _ _ ⟨rfl,rfl⟩;refine wB ?_;apply br
  ·exact zV
  ·refine ⟨cI [(l[k]'hk).t]::Net g n (l.take k++l.drop (k+1))::R,?_,.inl ⟨k,hk,rfl,by rw [hm];rfl,rfl⟩⟩;refine cn (show cB _ (cI (l.map gW.t)::cL g [.int .i64 (n:Int),.slice (some ⟨g1,0,none⟩) (l.take k++l.drop (k+1)).length c] 224 (0,0)::vP (.slice (some ⟨g1,0,none⟩) (l.take k++l.drop (k+1)).length c) (l.take k++l.drop (k+1))::R) from zE) ?_;refine cn (Fy hk) (bh (cn ?_ (nJ (ad:=some ⟨g1,0,none⟩) (c:=c))));exact zE
 ·rw [show decide (0≤i∧i<l.length)=false by simpa using h];refine wB ?_;apply br
  ·exact zV
  ·exact ⟨_,zE,.inr ⟨h,rfl,rfl⟩⟩
theorem De (g n:Nat) (l:List gW) (i:Int) (hl:l.length≤n) (hn:n≤1000) (hb:∀ m∈l,m.b.length≤140737488351232) :
 Ct prog 181 #[pt g,.int .i64 i] e (Net g n l::R)
  (fun v' L'=>(∃ (k:Nat) (h:k<l.length) (v2:Value),i=k∧l.length<n∧v'=.bool true∧L'=Net g n (l++[{ (l[k]'h) with v:=v2 }])::R) ∨
   (¬ ((0≤i∧i<l.length)∧l.length<n)∧v'=.bool false∧L'=Net g n l::R)):=by
 refine a8 (args:=[_,_]) func181 rfl ntmps181 results181 rfl ?_;refine wB ?_;refine aZ rfl rfl (Fx _ e g n l i zo) ?_;rintro _ _ ⟨rfl,rfl⟩
 by_cases h:0≤i∧i<l.length
 ·obtain ⟨k,rfl⟩:=Int.eq_ofNat_of_zero_le h.1;have hk:k<l.length:=by omega
  rw [show decide (0≤(k:Int)∧(k:Int)<l.length)=true by simp [hk]];refine Fv fun ad c=>?_
  refine bn (sK (.succ .zero)) ?_;rintro ⟨_,_,hv,hc,hm,hg⟩
  cases hv
  rcases hg with ⟨_,_,h0⟩|⟨g1,rfl⟩
  ·omega
  have G5:∀ L',dZ (vP (.slice (some ⟨g1,0,none⟩) l.length c) l::L') g1 (0+k*4) (l[k]'hk).cells:=fun L'=>dZ.elem (bb .zero) pB (ae hk)
  have iX:db (Net g n l::R) (l[k]'hk).v (l[k]'hk).b:=db.cM (eH (l[k]'hk).t (aE.2 ⟨_,ax hk,rfl⟩)) BQ;refine wB ?_;refine O.dx rfl (G5 _).tail rfl rfl ?_
  (repeat (refine wA ?_;intros))
  refine O.fp nJ ?_;refine aZ rfl rfl (sL R e g n l (l[k]'hk) iX (hb _ (ax hk)) hl hn) ?_;rintro _ _ (⟨h1,rfl,v2,rfl⟩|⟨h1,rfl,rfl⟩)
  ·refine wB ?_;exact aY _ rfl aX (.inl ⟨k,hk,v2,rfl,h1,rfl,rfl⟩)
  ·refine wB ?_;exact aY _ rfl aX (.inr ⟨fun h2=>h1 h2.2,rfl,rfl⟩)
 ·rw [show decide (0≤i∧i<l.length)=false by simpa using h];refine wB ?_;exact aY _ rfl aX (.inr ⟨fun h2=>h h2.1,rfl,rfl⟩)
end Go.Proofs
namespace Go.Proofs
open Go.Bs
open Tryz
abbrev m3:TypeId:=340
def ij (k:Fin 1000 × Fin 1000):Value:=.agg #[.int .i64 (k.1.val:Int),.int .i64 (k.2.val:Int)]
theorem I9:prog.keyTypeAt 3 m3=true:=by kernel_rfl
theorem Nn:prog.cellsOf m3=2:=by kernel_rfl
theorem PA:prog.cellsOf 3=1:=by kernel_rfl
theorem Fz (n:Fin 1000):(Lit.int .i64 (n.val:Int)).wf=true:=by
 have:=n.isLt
 simp [Lit.wf,IntKind.min,IntKind.max,IntKind.bits,IntKind.signed]
 omega
theorem vQ (k:Fin 1000 × Fin 1000):prog.keyLits 3 m3 [.int .i64 (k.1.val:Int),.int .i64 (k.2.val:Int)]=some [.int .i64 (k.1.val:Int),.int .i64 (k.2.val:Int)]:=by
 have h1:=Fz k.1;have h2:=Fz k.2
 simp [Program.keyLits,underlying340,underlying3,Nn,PA,h1,h2]
theorem qI (k:Fin 1000 × Fin 1000):(ij k).formed prog m3=true:=by
 simp [ij,Value.formed,underlying340,Nn]
theorem PB (w:World) (a b:Fin 1000 × Fin 1000):(Op.equal m3 (ij a) (ij b)).run prog w=.ok (decide (a=b)) w:=by
 obtain ⟨r,hr,Wj⟩:=run_equalIn_deep (P:=prog) 9997 3 m3 I9 w 3 3 (ij a) (ij b) _ _ (qI a) (qI b) (vQ a) (vQ b)
 have he:decide (a=b)=r:=by
  by_cases h:a=b
  ·subst h;rw [ay rfl];exact (Wj.2 rfl).symm
  ·rw [aq h]
   cases r with
   | false=>rfl
   | true =>
    have h2:=Wj.1 rfl;simp only [List.cons.injEq,Lit.int.injEq,and_true,true_and] at h2
    exact absurd (Prod.ext (Fin.ext zo) (Fin.ext zo)) h
 rw [he];exact hr
theorem zq (w:World) (k:Fin 1000 × Fin 1000):∀ (l:List MapEntry) (mV:List ((Fin 1000 × Fin 1000) × Value)) (j:Nat),l.map (fun e=>(e.key,e.val))=mV.map (fun p=>(ij p.1,p.2))→(Instr.findAsking m3 (ij k) l j).run prog w=.ok (uk k mV j) w
 | [],mV,j,h=>by
  cases mV with
  | nil=>rfl
  | cons _ _=>simp at h
 | e::l,mV,j,h=>by
  cases mV with
  | nil=>simp at h
  | cons p mV =>
   simp only [List.map_cons,List.cons.injEq,Prod.mk.injEq] at h
   obtain ⟨⟨h1,h2⟩,h3⟩:=h;unfold Instr.findAsking uk;simp only [Sem.run_bind,h1,PB,Result.andThen_ok]
   by_cases hk:k=p.1
   ·rw [ay hk,aI hk.symm,h2];rfl
   ·rw [aq hk];simp only [Bool.false_eq_true,if_false];rw [aB (show ¬ p.1=k from fun q=>hk q.symm)];exact zq w k l mV (j+1) h3
instance abm:Hm prog 169 ij (.agg #[.int .i64 0,.int .i64 0,nY,nY]) :=
 ⟨m3,96,underlying169,zeroValue96,fun b k w=>run_checkKey_deep b 9997 3 m3 I9 w 3 (ij k) _ (qI k) (vQ k),fun k l mV w h=>by
  unfold Instr.findKey
  cases l with
  | nil =>
   have:=zq w k [] mV 0 h;simp only [Sem.run_bind,run_underlying underlying340,Result.andThen_ok,Instr.findNow]
   cases mV with
   | nil=>rfl
   | cons _ _=>simp at h
  | cons e l =>
   have hn:∀ fs,Instr.findNow (TypeDesc.struct fs) (ij k) (e::l) 0=none:=fun fs=>rfl
   have:=zq w k (e::l) mV 0 h;simp only [Sem.run_bind,run_underlying underlying340,Result.andThen_ok,hn]
   exact this,fun k=>by
  simp [ij,Instr.sameBits]⟩
theorem _root_.Go.Bs.cE.SN {P:Program} {N:Fr} {ty:TypeId} {σ:Env} {e:World} {L:List cK} {x:Operand} {t f:Nat} {a b v:Value} (hr:∀ w,(Instr.field t (.agg #[a,b]) f).run P w=.ok v w) (h:ev σ x=some (.agg [a,b].toArray)):cE P N (.field t x f) ty v σ e L:=fun w a ha _ _ _ _ _=>by
 have h2:=hr
 simp [execOp,ha.ev h,h2]
end Go.Proofs
namespace Go.Proofs
attribute [local irreducible] Bs.cE Bs.Do Bs.O Bs.W Bs.Fin Bs.A Bs.Ct Bs.cF Bs.Rd Bs.Sat Bs.cL Bs.Ob Bs.dJ Bs.View Bs.cB Bs.Ex Bs.dH Bs.Pu Bs.eZ Bs.dO Bs.dZ
open Go.Bs
open Tryz
variable (R:List cK) (e:World)
structure di where
 k:Nat
 ez:Nat
 room:Nat
 size:Nat
 wait:Nat
 retry:Nat
def di.f (c:di):m8:=⟨c.room,c.size,c.wait⟩
def cS (i:Nat):dw:=ek 20 [be i 4]
theorem pC (i:Nat):(cS i).length=32:=dg _ _
def dQ:dw:=kP (cS 0)
def da (c:di):jH:=⟨dQ,(List.range c.k).map fun i=>kP (cS (i+1)),c.ez⟩
def iL:dw:=[112,117,109,112]
structure di.ok (c:di):Prop where
 k:1≤c.k∧c.k≤3
 ez:1≤c.ez∧c.ez≤c.k
 f:c.f.ok
 retry:1≤c.retry∧c.retry≤100
 wU:(da c).right
theorem ll (c:di):(da c).ey.length=c.k:=by simp [da]
inductive fZ where
 | ask (w:Nat) (x:j7) (n m:Nat) (path:List dw)
 | iW (w:Nat) (g:kQ)
 | no (w:Nat) (size:Nat)
 | off (b:wQ)
def qJ (x:j7) (n m:Nat) (path:List dw):dw:=ic x++(be n 4++(be m 4++(UInt8.ofNat path.length::path.flatten)))
def fZ.d (k:Nat):fZ→Int × Int × Int × dw
 | .ask w x n m path=>(1,0,((w+1:Nat):Int),qJ x n m path)
 | .iW w g=>(2,((w+1:Nat):Int),0,1::eV g)
 | .no w size=>(2,((w+1:Nat):Int),0,0::be size 4)
 | .off b=>(3,0,((k+1:Nat):Int),fT b)
structure dc where
 ls:fW
 fs:pi
 ws:List eQ
 fd:cQ
 n:Nat
 up:m6
 mo:H5
 ee:List fZ
 time:Nat
 signed:Option jg
def lM (l:List dw) (c:jg):Prop:=c.size≤l.length∧c.root=eg ((l.take c.size).map cZ)
def Ac (l:List dw) (x:j7):Prop:=x.hO dQ∧x.sig.right∧lM l x.dd
theorem lM.more {l m:List dw} {c:jg} (h:lM l c):lM (l++m) c :=
 ⟨by rw [aa];exact Nat.le_trans h.1 (Nat.le_add_right ..),by rw [List.take_append_of_le_length h.1];exact h.2⟩
theorem Ac.more {l m:List dw} {x:j7} (h:Ac l x):Ac (l++m) x:=⟨h.1,h.2.1,h.2.2.more⟩
theorem Ac.fits {l:List dw} {x:j7} (h:Ac l x):x.fits:=⟨h.1.1,h.2.1⟩
def fZ.oh (c:di) (l:List dw):fZ→Prop
 | .ask w x n m path=>w<c.k∧Ac l x∧m=x.dd.size∧n≤m∧path=ja ((l.take m).map cZ) n
 | .iW w g=>w<c.k∧g.fY=w∧g.sig.right
 | .no w size=>w<c.k∧size≤256
 | .off b=>b.wf∧b.fi.length≤200∧mj (da c) b=0
def fZ.ok (c:di) (l:List dw) (x:fZ):Prop:=0<l.length∧x.oh c l
structure dc.ok (c:di) (m:Nat) (s:dc):Prop where
 xE:c.ok
 steps:m≤250
 ls:s.ls.ok
 last:∀ x,s.ls.last=some x→Ac s.ls.cG x
 fs:s.fs.ok
 recs:s.fs.recs.Nodup
 DH:s.fs.recs.length≤m
 perm:(s.ls.cG++s.fs.q.map (·.1)).Perm s.fs.recs
 wl:s.ws.length=c.k
 ws:∀ w∈s.ws,w.ok∧w.recs.length≤m∧lM s.ls.cG w.c
 iW:∀ (i:Nat) (w:eQ),s.ws[i]?=some w→w.some=true→w.dE.fY=i∧w.dE.sig.right
 fd:s.fd.ok c.k s.n
 nb:s.n≤4*m
 cur:∀ x,s.fd.cur=some x→Ac s.ls.cG x∧0<x.dd.size
 idle:s.fd.cur=none→s.fd.ag=[]
 kept:∀ g∈s.fd.kept,g.hO (da c) s.fd.dX.dd
 done:s.fd.dl≠[]→Ac s.ls.cG s.fd.done∧0<s.fd.done.dd.size∧ue (da c) s.fd.done.dd s.fd.dl
 up:s.up.ok iL
 Uh:s.up.recs.length≤m
 mo:s.mo.ok
 SO:s.mo.cG=s.ls.cG.take s.mo.cG.length
 ee:∀ x∈s.ee,x.ok c s.ls.cG
 room:s.ee.length≤32
 time:s.time≤1000*m
 signed:∀ x,s.signed=some x→lM s.ls.cG x∧x.right
theorem fZ.ok.more {c:di} {l m:List dw} {x:fZ} (h:x.ok c l):x.ok c (l++m):=by
 refine ⟨by rw [aa];exact Nat.lt_of_lt_of_le h.1 (Nat.le_add_right ..),?_⟩;have h2:=h.2
 cases x with
 | ask w x n k path=>exact ⟨h2.1,h2.2.1.more,h2.2.2.1,h2.2.2.2.1,by rw [List.take_append_of_le_length (by rw [h2.2.2.1];exact h2.2.1.2.2.1)];exact h2.2.2.2.2⟩
 | iW w g=>exact h2
 | no w k=>exact h2
 | off b=>exact h2
structure Ev where
 k:Int
 a:Int
 b:Int
 v:Value
 t:dw
def Ev.cells (x:Ev):List Value:=[.int .i64 x.k,.int .i64 x.a,.int .i64 x.b,x.v]
theorem Ev.len (x:Ev):x.cells.length=4:=rfl
abbrev tEv:TypeId:=121
abbrev fC (v:Value) (l:List Ev):cK:=dJ tEv 4 v l.length (l.flatMap Ev.cells)
abbrev dj:TypeId:=171
abbrev fJ:Int→Value:=fun n=>.int .i64 n
structure WX where
 g:Nat
 d:Nat
 k:Nat
structure eh where
 va:Value
 gl:Nat
 gf:Nat
 l6:Value
 mH:Nat
 gu:Nat
 gm:Nat
 gn:Nat
 pX:Value
 ik:Value
 ve:Value
 mr:Nat
 ml:Nat
 vr:Value
 mc:Nat
 es:List Ev
 kr:List (Int × Value)
 kl:List (Int × Value)
 kc:List ((Fin 1000 × Fin 1000) × jo)
 wx:List WX
 ld:Nat
 lk:Nat
 wV:Nat
 ud:Nat
 nl:List gW
def dc.sv (s:dc):jg:=s.signed.getD ⟨0,[]⟩
abbrev eh.cells (a:eh) (c:di) (s:dc):List Value :=
 [.int .i64 (c.k:Int),.int .i64 (c.ez:Int),.int .i64 (c.room:Int),.int .i64 (c.size:Int),.int .i64 (c.wait:Int),.int .i64 (c.retry:Int),.int .i64 1048576,.string (str iL),
  a.va,pt a.gl,pt a.gf,a.l6,pt a.mH,pt a.gu,pt a.gm,pt a.gn,
  a.pX,a.ik,.int .i64 (c.ez:Int),.int .i64 (s.time:Int),a.ve,.map (some a.mr),.map (some a.ml),.int .i64 (s.sv.size:Int),a.vr,.bool s.signed.isSome,.map (some a.mc)]
def kg:Nat→List WX→List eQ→List cK
 | i,x::xs,s::ss=>nE x.g x.d x.k i (cS (i+1)) dQ s::kg (i+1) xs ss
 | _,_,_=>[]
abbrev pZ:TypeId:=98
def jJ (x:WX):Value:=pt x.g
def sM (l:List ((Fin 1000 × Fin 1000) × jo)):List ((Fin 1000 × Fin 1000) × Value):=l.map fun p=>(p.1,.agg (jo.cells p.2).toArray)
structure Ja (L:List cK) (w:Nat) (c:di) (a:eh):Prop where
 all:∃ (vl vu:Value) (vs:List (Value × Nat × Nat)),vs.length=c.k∧a.wx.length=c.k ∧
  cF L 2 a.va (c.k+2) ([vl,.func (.func 160) #[pt w] #[]]++(vs.flatMap fun x=>[x.1,.func (.func 161) #[] #[pt x.2.1,pt x.2.2]])++[vu,.func (.func 163) #[pt w] #[]]) ∧
  cF L 1 vl 3 [pt a.ld,pt a.lk,pt a.wV] ∧
  cF L 1 vu 1 [pt a.ud] ∧
  (∀ i (h:i<vs.length) (h2:i<a.wx.length),cF L 1 (vs[i]).1 2 [.pointer (some ⟨(a.wx[i]).d,0,none⟩),.pointer (some ⟨(a.wx[i]).k,0,none⟩)]∧Rd L ⟨(vs[i]).2.1,0,none⟩ (pt w)∧Rd L ⟨(vs[i]).2.2,0,none⟩ (.int .i64 (i:Int)))
structure eh.ok (a:eh) (M:cK) (w:Nat) (c:di) (m:Nat) (s:dc):Prop where
 wU:j8 [M] a.pX a.ik (da c)
 root:db [M] a.vr s.sv.root
 es:∀ x∈a.es,db [M] x.v x.t∧x.t.length≤1000
 kc:∀ p∈a.kc,jo.ok [M] p.2
 all:Ja [M] w c a
 ee:a.nl.map gW.d=s.ee.map (fZ.d c.k)
 st:s.ok c m
 ec:a.es.length≤600*m
abbrev dP (w:Nat) (c:di) (s:dc) (a:eh) (M:cK) (R:List cK):List cK :=
 cL w (a.cells c s) dj (0,0)::fC a.ve a.es::iD fJ a.mr a.kr::iD fJ a.ml a.kl::iD ij a.mc (sM a.kc)::M::ej a.gf a.wV a.gl c.f s.fs::cW a.gl a.ld a.lk (cS 0) s.ls::dJ pZ 1 a.l6 a.wx.length (a.wx.map jJ)::dH (kg 0 a.wx s.ws)::lj a.mH (da c) c.retry s.n s.fd::kj a.gu a.ud iL (da c) s.up::jO a.gm dQ s.mo::Net a.gn 32 a.nl::R
def uF (w:Nat) (c:di) (m:Nat) (s:dc) (a:eh) (M:cK):cK:=dH (Pu (a.ok M w c m s)::dP w c s a M [])
def dK (w:Nat) (c:di) (m:Nat) (s:dc) (ev:List (Int × Int × Int × dw)):cK:=Ex fun a=>Ex fun M=>dH [Pu (a.es.map (fun x=>(x.k,x.a,x.b,x.t))=ev),uF w c m s a M]
theorem gN {w:Nat} {c:di} {m:Nat} {s:dc} {ev:List (Int × Int × Int × dw)} {R:List cK} {P:Program} {f:FuncId} {args:Array Value} {e:World} {Post:Value→List cK→Prop}
 (h:∀ (a:eh) (M:cK),a.ok M w c m s→a.es.map (fun x=>(x.k,x.a,x.b,x.t))=ev→Ct P f args e (dP w c s a M R) Post):Ct P f args e (dK w c m s ev::R) Post :=
 Ct.ex .zero fun a=>Ct.ex .zero fun M=>Ct.cM (a7 (p:=a.es.map (fun x=>(x.k,x.a,x.b,x.t))=ev) (fun w x=>(jR x).1) fun he=>Ct.cM (Ct.cM (a7 (p:=a.ok M w c m s) (fun w x=>(jR x).1) fun hp=>(h a M hp he).cM (cB.drop aX)) (cU (M:=Pu (a.ok M w c m s)::dP w c s a M []) (L:=R))) (cB.drop aX)) (cU (M:=[Pu (a.es.map (fun x=>(x.k,x.a,x.b,x.t))=ev),uF w c m s a M]) (L:=R))
theorem dU {w:Nat} {c:di} {m:Nat} {s:dc} {ev:List (Int × Int × Int × dw)} {a:eh} {M:cK} {R:List cK} (h:a.ok M w c m s) (he:a.es.map (fun x=>(x.k,x.a,x.b,x.t))=ev):cB (dP w c s a M R) (dK w c m s ev::R) :=
 cn (mI h) (cn (dS (M:=Pu (a.ok M w c m s)::dP w c s a M []) (L:=R)) (cn (mI he) (cn (dS (M:=[Pu (a.es.map (fun x=>(x.k,x.a,x.b,x.t))=ev),uF w c m s a M]) (L:=R)) (cn (fx (f:=fun M=>dH [Pu (a.es.map (fun x=>(x.k,x.a,x.b,x.t))=ev),uF w c m s a M]) M) (fx (f:=fun a=>Ex fun M=>dH [Pu (a.es.map (fun x=>(x.k,x.a,x.b,x.t))=ev),uF w c m s a M]) a)))))
theorem BS (k:IntKind) (n:Int):(Value.int k n).cells=#[.int k n]:=rfl
theorem iu (w:Nat) (c:di) (s:dc) (a:eh) (k x b:Int) (v:Value) (t:dw) (hv:v.oneCell'=true) (hl:a.es.length≤1000000) :
 Ct prog 167 #[pt w,.int .i64 k,.int .i64 x,.int .i64 b,v] e (cL w (a.cells c s) dj (0,0)::fC a.ve a.es::R) (fun v' L'=>v'=.tuple #[]∧∃ ve:Value,L'=cL w (eh.cells { a with ve:=ve } c s) dj (0,0)::fC ve (a.es++[⟨k,x,b,v,t⟩])::R):=by
 refine a7 ((bb (show cR (cL w (a.cells c s) dj (0,0)::fC a.ve a.es::R) (fC a.ve a.es) _ from zP)).shape zo) ?_;rintro ⟨⟨ad,ca,J9,h3,h4,h5,h6⟩,_⟩;simp only [maxLen] at h4
 have xN:cL w (a.cells c s) dj (0,0)::fC a.ve a.es::R=cL w (eh.cells { a with ve:=.slice ad a.es.length ca } c s) dj (0,0)::fC (.slice ad a.es.length ca) a.es::R:=by
  rw [← J9]
 rw [xN];refine a8 (args:=[_,_,_,_,_]) func167 rfl ntmps167 results167 rfl ?_
 (repeat' first|(refine bx (.agg #[.int .i64 k,.int .i64 x,.int .i64 b,v]) (bM (cells:=[.int .i64 k,.int .i64 x,.int .i64 b,v]) rfl (by simp [Instr.fill,BS,eR hv])) rfl ?_)|refine Za ?_|apply Zd|refine Zg ?_|refine Zh ?_|refine Zi ?_|refine Yi fun _=>?_|fail)
 refine bC (bo rfl rfl rfl (show cR _ (fC (.slice ad a.es.length ca) a.es) _ from zP) (bP (n:=4) (c:=1) zP rfl zl) rfl rfl zO zm zo fun ei k1 _=>?_)
 refine wB ?_;refine bU (cL w (eh.cells { a with ve:=.slice ei (a.es.length+1) k1 } c s) dj (0,0)::fC (.slice ei (a.es.length+1) k1) (a.es++[⟨k,x,b,v,t⟩])::R) rfl ?_ ⟨rfl,_,rfl⟩;simp only [fC,aa,aj,aW,aT,List.flatMap_nil,aK];exact zE
theorem pD (i:Nat) (hi:i<100) :
 Ct prog 158 #[.int .i64 (i:Int)] e R (fun v' L'=>∃ ad k,v'=.slice ad (cS i).length k∧L'=cT (.slice ad (cS i).length k) (cS i)::R):=by
 refine a8 (args:=[_]) func158 rfl ntmps158 results158 rfl ?_;refine wB ?_;refine aZ rfl rfl (jk _ e) ?_;rintro _ _ ⟨gw,rfl,rfl⟩;refine wB ?_;refine aZ rfl rfl (gF _ e gw [] i zo (by decide)) ?_;rintro _ _ ⟨rfl,rfl⟩;rw [show []++be i 4=be i 4 by simp];refine wB ?_;refine aZ rfl rfl (hJ _ e gw _ (by rw [cY];omega)) ?_;rintro _ _ ⟨ad,k,rfl,rfl⟩
 (repeat (refine wA ?_;intros))
 refine aZ rfl rfl (fe _ e 20 _ [(.slice ad (be i 4).length k,be i 4)] (bB .zero rfl zl) (fun a ha=>by rw [an.1 ha];exact bb (.succ .zero)) (fun a ha=>by rw [an.1 ha];dsimp only;rw [cY];omega) (by simp)) ?_;rintro _ _ ⟨ei,k1,rfl,rfl⟩;refine wB ?_;exact aY (cT (.slice ei (cS i).length k1) (cS i)::R) rfl zE ⟨ei,k1,rfl,rfl⟩
abbrev DJ:TypeId:=24
def H6 (g:Nat):Value:=pt g
def jK (gs:List Nat):List cK:=gs.map fun g=>df g (dz [])
theorem qK (n:Nat) (hn:n≤100) :
 Ct prog 159 #[.int .i64 (n:Int),.int .i64 1048576] e R (fun v' L'=>∃ (ad:Option Addr) (k:Nat) (gs:List Nat),v'=.slice ad gs.length k∧gs.length=n∧L'=dJ DJ 1 (.slice ad gs.length k) gs.length (gs.map H6)::dH (jK gs)::R):=by
 refine a8 (args:=[_,_]) func159 rfl ntmps159 results159 rfl ?_;refine wB ?_;refine bq (ι:=List Nat × Option Addr × Nat) (fun j=>[(1,.int .i64 1048576),(5,.slice j.2.1 j.1.length j.2.2),(8,.int .i64 (n:Int)),(9,.int .i64 (j.1.length:Int))]) (fun j=>dJ DJ 1 (.slice j.2.1 j.1.length j.2.2) j.1.length (j.1.map H6)::dH (jK j.1)::R) (fun j=>j.1.length≤n) (fun j=>n - j.1.length) ([],none,0) (aH _) zS (cn (du DJ 1) (bh (dS (M:=[]) (L:=R)))) ?_;rintro ⟨gs,ad,k⟩ hle;dsimp only at hle ⊢
 by_cases cP:gs.length<n
 rotate_left
 ·refine wB ?_;exact aY (dJ DJ 1 (.slice ad gs.length k) gs.length (gs.map H6)::dH (jK gs)::R) rfl zE ⟨ad,k,gs,rfl,by omega,rfl⟩
 refine wB ?_;refine aZ rfl rfl (Ke _ e 1048576 zo) ?_;rintro _ _ ⟨gd,rfl,rfl⟩
 (repeat (refine wA ?_;intros))
 refine bC (bo rfl rfl rfl (show cR _ (dJ DJ 1 (.slice ad gs.length k) gs.length (gs.map H6)) _ from zP) (bB zP rfl zl) rfl rfl zO zm zo fun ei k1 _=>?_)
 refine wB ?_;refine bi (gs++[gd],ei,k1) (by dsimp only;rw [aa];exact cP) (by dsimp only;rw [aa];show n - (gs.length+1)<_;omega) ?_ ?_
 ·simp only [aa,aj];exact zS
 ·simp only [aa,aj,ah,List.map_cons,List.map_nil,jK];refine cn ?_ (bh (all_append (M:=gs.map fun g=>df g (dz [])) (N:=[df gd (dz [])]) (R:=R)));refine cn ?_ (bh (bh (dS (M:=[df gd (dz [])]) (L:=R))));exact zE
theorem H7 (w:Nat) (y:jg) (u:Value) (b:Bool) (x:jg) (v:Value) (hb:Rd R ⟨w,25,none⟩ (.bool b)) (ha:dZ R w 23 (iT y u)) (hr:b=true→db R u y.root) (hx:db R v x.root) :
 Ct prog 173 #[pt w,.agg (iT x v).toArray] e R (fun v' L'=>v'=.bool (b && decide (y=x))∧R=L'):=by
 refine a7 (cz hx) fun o2=>?_
 cases b with
 | false =>
  refine a8 (args:=[_,_]) func173 rfl ntmps173 results173 rfl ?_
  (repeat (refine wA ?_;intros))
  rename_i g;refine bk (id:=1) [12] (cL g (iT x v) 83 (0,0)::R) mixed ?_
  (refine tM 0 ?_;refine tN 1 ?_;refine tF 2 ?_)
  refine tk 3 _ rfl (bp rfl hb.tail) ?_
  (refine tM 4 ?_;refine bc 5 rfl rfl zK zE rfl ?_;refine bc 6 rfl rfl zK zE rfl ?_;refine bc 7 rfl rfl zK zE rfl ?_;refine bc 8 rfl rfl zK zE rfl ?_;refine bc 9 rfl rfl zK zE rfl ?_)
  refine bc 10 rfl rfl zK zE rfl ?_
  (refine tk 11 _ rfl (bJ rfl rfl) ?_;(refine tO 12 ?_;refine dV (bj rfl) ?_))
  refine bf zK ?_;refine wB ?_;exact aY R rfl zE ⟨rfl,rfl⟩
 | true =>
  have hr:=hr rfl;refine a7 (cz hr) fun o1=>?_
  refine a8 (args:=[_,_]) func173 rfl ntmps173 results173 rfl ?_
  (repeat (refine wA ?_;intros))
  rename_i g;refine bk (id:=1) [12] (cL g (iT x v) 83 (0,0)::R) mixed ?_
  (refine tM 0 ?_;refine tN 1 ?_;refine tF 2 ?_)
  refine tk 3 _ rfl (bp rfl hb.tail) ?_
  (refine tM 4 ?_;refine dv 5 _ rfl (bu rfl) ?_;refine dv 6 _ rfl (bm rfl) ?_;refine dv 7 _ rfl (ba rfl) ?_)
  refine dv 8 _ rfl (cE.dx rfl ha.tail rfl) ?_
  (refine dv 9 _ rfl (cE.dx rfl zA zX) ?_)
  refine A.ru 10 rfl rfl zK ?_;refine bg rfl rfl (yz _ e u v y x (hr.cM zE) (hx.cM zE)) ?_;rintro _ _ ⟨rfl,rfl⟩;refine ⟨fun _=>zE,?_⟩
  (refine tk 11 _ rfl (bL rfl rfl) ?_;(refine tO 12 ?_;refine dV (bj rfl) ?_))
  refine bf zK ?_;refine wB ?_;exact aY R rfl zE ⟨rfl,rfl⟩
def rF (ev:List (Int × Int × Int × dw)) (s:dc):Prop:=∀ x∈ev,x.1≠3∧(x.1=7∨s.fs.recs≠[])
theorem rF.nil {s:dc}:rF [] s:=fun x hx=>by cases hx
theorem dc.ok.next {c:di} {m:Nat} {s:dc} (h:s.ok c m) (hm:m<250):s.ok c (m+1) :=
 {h with
  steps:=hm
  DH:=Nat.le_succ_of_le h.DH
  ws:=fun w hw=>⟨(h.ws w hw).1,Nat.le_succ_of_le (h.ws w hw).2.1,(h.ws w hw).2.2⟩
  nb:=by have:=h.nb;omega
  Uh:=Nat.le_succ_of_le h.Uh
  time:=by have:=h.time;omega }
def dc.sub (c:di) (s:dc) (b:dw):dc:={ s with fs:=(s.fs.fE c.f s.ls.cG b (s.time:Int)).2.2 }
theorem BT (c:m8) (cG:List dw) (s:pi) (b:dw) (now:Int):((s.fE c cG b now).2.2=s)∨(jm b∧¬ b∈cG∧¬ b∈s.q.map (·.1)∧s.fE c cG b now=(1,(s.recs.length:Int),⟨s.recs++[b],s.q++[(b,now)]⟩)):=by
 unfold pi.fE
 split
 ·exact .inl rfl
 ·rename_i h1
  split
  ·exact .inl rfl
  ·rename_i h2
   split
   ·exact .inl rfl
   ·rename_i h3
    split
    ·exact .inl rfl
    ·exact .inr ⟨Classical.not_not.1 h1,h2,h3,rfl⟩
theorem dc.No {c:di} {m:Nat} {s:dc} {b:dw} (h:s.ok c m) (hm:m<250) (hb:b.length≤200):(s.sub c b).ok c (m+1):=by
 unfold dc.sub;rcases BT c.f s.ls.cG s.fs b (s.time:Int) with h1|⟨h1,h2,h3,h4⟩
 ·rw [h1];exact h.next hm
 ·rw [h4];have ht:=h.time;have hp:=h.perm
  have hnr:¬ b∈s.fs.recs:=fun q=>by
   rcases aJ.1 (hp.mem_iff.2 q) with q|q
   ·exact h2 q
   ·exact h3 q
  have hf:=h.fs;have hl:=h.DH;have hs:=h.steps;have hql:s.fs.q.length≤s.fs.recs.length:=by have:=hp.length_eq;rw [aa,ab] at this;omega
  exact { h.next hm with
   fs:={
    size:=by show (s.fs.recs++[b]).length≤1000;rw [aa,aj];omega
    oh:=fun x hx=>by
     rcases aJ.1 hx with hx|hx
     ·exact hf.oh x hx
     ·rw [an.1 hx];exact ⟨h1,hb⟩
    BH:=by show (s.fs.q++[(b,(s.time:Int))]).length≤1000;rw [aa,aj];omega
    pj:=fun x hx=>by
     rcases aJ.1 hx with hx|hx
     ·exact hf.pj x hx
     ·rw [an.1 hx];exact hb
    wP:=fun x hx=>by
     rcases aJ.1 hx with hx|hx
     ·exact hf.wP x hx
     ·rw [an.1 hx]
      show -9223372036854775808≤(s.time:Int)∧(s.time:Int)≤1000000
      omega }
   recs:=List.nodup_append.2 ⟨h.recs,by simp,fun x hx y hy=>by rw [an.1 hy];rintro rfl;exact hnr hx⟩
   DH:=by show (s.fs.recs++[b]).length≤m+1;rw [aa,aj];omega
   perm:=by
    show (s.ls.cG++(s.fs.q++[(b,(s.time:Int))]).map (·.1)).Perm (s.fs.recs++[b])
    rw [ah,← aM];exact hp.append_right _ }
theorem Ja.cM {L L':List cK} {w:Nat} {c:di} {a:eh} (h:Ja L' w c a) (f:cB L L'):Ja L w c a:=by
 obtain ⟨vl,vu,vs,h1,h2,h3,h4,h5,h6⟩:=h.all;exact ⟨vl,vu,vs,h1,h2,h3.cM f,h4.cM f,h5.cM f,fun i hi Oi=>⟨(h6 i hi Oi).1.cM f,(h6 i hi Oi).2.1.cM f,(h6 i hi Oi).2.2.cM f⟩⟩
theorem eh.ok.more {a:eh} {M N:cK} {w:Nat} {c:di} {m:Nat} {s:dc} (h:a.ok M w c m s) (f:cB [N] [M]):a.ok N w c m s :=
 {h with wU:=h.wU.cM f,root:=h.root.cM f,es:=fun x hx=>⟨(h.es x hx).1.cM f,(h.es x hx).2⟩,kc:=fun p hp=>(h.kc p hp).cM f,all:=h.all.cM f }
theorem eh.ok.to {a:eh} {M:cK} {w:Nat} {c:di} {m m':Nat} {s s':dc} (h:a.ok M w c m s) (hs:s'.ok c m') (hm:m≤m') (h1:s'.signed=s.signed) (h2:s'.ee=s.ee):a.ok M w c m' s' :=
 {h with root:=by unfold dc.sv;rw [h1];exact h.root,ee:=by rw [h2];exact h.ee,st:=hs,ec:=Nat.le_trans h.ec (Nat.mul_le_mul_left _ hm) }
theorem eh.ok.seen {a:eh} {M:cK} {w:Nat} {c:di} {m:Nat} {s:dc} (h:a.ok M w c m s) {x:Ev} (ve:Value) (hx:db [M] x.v x.t) (hl:a.es.length+1≤600*m) (ht:x.t.length≤1000):eh.ok { a with ve:=ve,es:=a.es++[x] } M w c m s :=
 {h with
  es:=fun y hy=>by
   rcases aJ.1 hy with hy|hy
   ·exact h.es y hy
   ·rw [an.1 hy];exact ⟨hx,ht⟩
  all:=⟨h.all.all⟩
  ec:=by show (a.es++[x]).length≤_;rw [aa,aj];exact hl }
theorem eh.ok.kr {a:eh} {M:cK} {w:Nat} {c:di} {m:Nat} {s:dc} (h:a.ok M w c m s) (kr:List (Int × Value)):eh.ok { a with kr:=kr } M w c m s:={ h with all:=⟨h.all.all⟩ }
theorem eh.ok.kl {a:eh} {M:cK} {w:Nat} {c:di} {m:Nat} {s:dc} (h:a.ok M w c m s) (kl:List (Int × Value)):eh.ok { a with kl:=kl } M w c m s:={ h with all:=⟨h.all.all⟩ }
theorem Dg {A B:cK}:cB [dH [A,B]] [A]:=cn (cU (M:=[_,_]) (L:=[])) (bh bG)
theorem Dh {A B:cK}:cB [dH [A,B]] [B]:=cn (cU (M:=[_,_]) (L:=[])) (cB.drop (bh bG))
instance abo:Hm prog 166 fJ (.string (str [])):=Sf underlying166 underlying3 zeroValue9
abbrev oB (k n to wh:Int) (v:Value):List Value:=[.int .i64 k,.int .i64 n,.int .i64 to,.int .i64 wh,v]
abbrev eN:TypeId:=56
theorem K1 (w:Nat) (c:di) (m:Nat) (s:dc) (ev:List (Int × Int × Int × dw)) (k n to wh:Int) (v:Value) (b:dw) (hv:db R v b) (hb:b.length≤200) (hm:m<250) :
 Ct prog 82 #[pt w,.agg (oB k n to wh v).toArray] e (dK w c m s ev::R) (fun v' L'=>v'=.tuple #[.int .i64 (s.fs.fE c.f s.ls.cG b (s.time:Int)).1,.int .i64 0]∧∃ jQ,rF jQ (s.sub c b)∧L'=dK w c (m+1) (s.sub c b) (ev++jQ)::R):=by
 refine gN fun a M ha he=>?_
 have eK:=ha.st;have na:=dc.No eK hm hb;have ht:=eK.time;have Pe:=eK.DH;have hql:s.fs.q.length≤s.fs.recs.length:=by have:=eK.perm.length_eq;rw [aa,ab] at this;omega
 have PC:=ha.ec;refine a7 (cz (hv.cM (show cB (dP w c s a M R) R from zE))) fun o1=>?_
 refine a8 (args:=[_,_]) func82 rfl ntmps82 results82 rfl ?_
 (repeat (refine wA ?_;intros))
 refine aZ rfl rfl (Ct.at zP (kI _ e a.gf a.wV a.gl c.f s.fs)) ?_;rintro _ _ ⟨rfl,rfl⟩
 (repeat' first|refine W.pJ (id:=3) (fun j:Nat × Nat=>[(0,pt w),(3,pt j.1),(6,.int .i64 (s.fs.recs.length:Int)),(7,pt j.2)]) (fun j=>cL j.2 [.int .i64 (s.fs.fE c.f s.ls.cG b (s.time:Int)).1,.int .i64 (s.fs.fE c.f s.ls.cG b (s.time:Int)).2.1] 254 (0,0)::cL j.1 (oB k n to wh v) eN (0,0)::dP w c (s.sub c b) a M R) (fun _=>True) ?_ ?_|refine Zb ?_|apply Ze|apply Zf)
 rotate_left
 ·refine ⟨?_⟩;rename_i g3;refine bk (id:=2) [12] (cL g3 (oB k n to wh v) eN (0,0)::cL w (a.cells c s) dj (0,0)::M::R) mixed ?_
  (refine tM 0 ?_;refine tN 1 ?_;refine tF 2 ?_;refine tL 3 ?_;refine tF 4 ?_;refine tL 5 ?_;refine tM 6 ?_;refine tN 7 ?_;refine tF 8 ?_;refine tL 9 ?_)
  refine A.two 10 11 rfl rfl rfl rfl zK ?_ ?_
  ·refine bg rfl rfl (Ct.AR zP zP (ux _ e a.gf a.wV a.gl a.ld a.lk (cS 0) s.ls c.f s.fs v b (s.time:Int) (hv.cM zE) hb zo zo zo)) ?_;rintro _ _ ⟨rfl,rfl⟩;refine ⟨fun _=>zE,?_⟩;refine tO 11 ?_;refine bR (cs:=[.int .i64 0,.int .i64 0]) rfl rfl fun g7=>⟨fun _=>zE,?_⟩
   refine tO 12 ?_;refine zg ?_;refine ⟨zN,?_⟩;refine bf zK ?_;exact bK (g3,g7) trivial zS zE
  ·refine bR (cs:=[.int .i64 0,.int .i64 0]) rfl rfl fun g7=>⟨fun _=>zE,?_⟩
   refine tO 10 ?_;refine bg rfl rfl (Ct.AR zP zP (ux _ e a.gf a.wV a.gl a.ld a.lk (cS 0) s.ls c.f s.fs v b (s.time:Int) (hv.cM zE) hb zo zo zo)) ?_;rintro _ _ ⟨rfl,rfl⟩;refine ⟨fun _=>zE,?_⟩;refine tO 12 ?_;refine zg ?_;refine ⟨zN,?_⟩;refine bf zK ?_;exact bK (g3,g7) trivial zS zE
 rintro ⟨g3,g7⟩ -;dsimp only;refine wB ?_;refine aZ rfl rfl (Ct.at zP (kI _ e a.gf a.wV a.gl c.f (s.sub c b).fs)) ?_;rintro _ _ ⟨rfl,rfl⟩;rcases BT c.f s.ls.cG s.fs b (s.time:Int) with h1|⟨h1,h2,h3,h4⟩
 ·have hs:s.sub c b=s:=by unfold dc.sub;rw [h1]
  have eu:a.ok M w c (m+1) s:={ ha with st:=by rw [← hs];exact na,ec:=by omega }
  rw [hs];refine wB ?_;refine aY (dK w c (m+1) s ev::R) rfl (cn (show cB _ (dP w c s a M R) from zE) (dU eu he)) ⟨rfl,[],rF.nil,by rw [aK]⟩
 ·have hs:s.sub c b={ s with fs:=⟨s.fs.recs++[b],s.fs.q++[(b,(s.time:Int))]⟩ }:=by unfold dc.sub;rw [h4]
  have hlen:(s.sub c b).fs.recs.length=s.fs.recs.length+1:=by rw [hs];simp
  rw [h4];refine wB ?_;refine bk (id:=4) [10] (cL g7 [.int .i64 1,.int .i64 (s.fs.recs.length:Int)] 254 (0,0)::cL g3 (oB k n to wh v) eN (0,0)::dP w c (s.sub c b) a M R) mixed ?_
  (refine tM 0 ?_;refine tN 1 ?_;refine tF 2 ?_;refine tF 3 ?_;refine tL 4 ?_;refine tF 5 ?_;refine tL 6 ?_;refine tF 7 ?_;refine tL 8 ?_)
  refine tk 9 _ rfl (b9 rfl (hv.cM zE)) ?_;refine tO 10 ?_;refine Do.jV (key:=fJ) (k:=(s.fs.recs.length:Int)) rfl rfl rfl zP ⟨zN,?_⟩;refine bf zK ?_
  (repeat (refine wA ?_;intros))
  refine bk (id:=5) [] (cL g7 [.int .i64 1,.int .i64 (s.fs.recs.length:Int)] 254 (0,0)::cL g3 (oB k n to wh v) eN (0,0)::R) mixed ?_
  (refine tM 0 ?_;refine tF 1 ?_;refine tL 2 ?_;refine tF 3 ?_;refine tL 4 ?_)
  refine tO 5 ?_;refine bg rfl rfl (uf _ e v b (hv.cM zE) zo) ?_;rintro _ _ ⟨ad,kk,rfl,rfl⟩;refine ⟨fun _=>zE,?_⟩;refine tO 6 ?_;refine bg rfl rfl (Ct.AR zP zP (iu _ e w c (s.sub c b) { a with kr:=lH (s.fs.recs.length:Int) (.string (str b)) a.kr } 1 (s.fs.recs.length:Int) 0 (.slice ad (cZ b).length kk) (cZ b) rfl zd)) ?_;rintro _ _ ⟨rfl,ve,rfl⟩;refine ⟨fun _=>zE,?_⟩;refine bf zK ?_;refine wB ?_;have eu:=(((ha.more (Dg (A:=M) (B:=cT (.slice ad (cZ b).length kk) (cZ b)))).kr (lH (s.fs.recs.length:Int) (.string (str b)) a.kr)).to na (Nat.le_succ m) rfl rfl).seen (x:=⟨1,(s.fs.recs.length:Int),0,.slice ad (cZ b).length kk,cZ b⟩) ve (cF.cM (bb .zero) Dh) zd (by show (ek _ _).length≤1000;rw [dg];omega);refine aY (dK w c (m+1) (s.sub c b) (ev++[(1,(s.fs.recs.length:Int),0,cZ b)])::R) rfl (cn ?_ (dU eu (by dsimp only;rw [ah,he];rfl))) ⟨rfl,_,?_,rfl⟩
  ·exact cn (ea (A:=M) (B:=cT (.slice ad (cZ b).length kk) (cZ b)) zP zP) zE
  ·intro x hx;rw [an.1 hx];exact ⟨(by decide:(1:Int)≠3),.inr (by rw [hs];simp)⟩
def dc.On (s:dc) (n:Nat):dc:={ s with time:=s.time+n }
theorem dc.Np {c:di} {m:Nat} {s:dc} {n:Nat} (h:s.ok c m) (hm:m<250) (hn:n≤1000):(s.On n).ok c (m+1) :=
 {h.next hm with
  time:=by have:=h.time;show s.time+n≤1000*(m+1);omega }
theorem H8 (w:Nat) (c:di) (m:Nat) (s:dc) (ev:List (Int × Int × Int × dw)) (k to wh:Int) (n:Nat) (v:Value) (hv:v.oneCell'=true) (hn:n≤1000) (hm:m<250) :
 Ct prog 83 #[pt w,.agg (oB k n to wh v).toArray] e (dK w c m s ev::R) (fun v' L'=>v'=.tuple #[.int .i64 ((s.On n).time:Int),.int .i64 0]∧L'=dK w c (m+1) (s.On n) ev::R):=by
 refine gN fun a M ha he=>?_
 have eK:=ha.st;have na:=dc.Np eK hm hn;have ht:=eK.time;have eu:=ha.to na (Nat.le_succ m) rfl rfl;refine a8 (args:=[_,_]) func83 rfl ntmps83 results83 rfl ?_
 (repeat (refine wA ?_;intros))
 rename_i g3;refine bk (id:=3) [7,8,9] (cL g3 (oB k n to wh v) eN (0,0)::cL w (a.cells c s) dj (0,0)::R) mixed ?_
 (refine tM 0 ?_;refine tN 1 ?_;refine tF 2 ?_;refine tL 3 ?_;refine tF 4 ?_;refine tL 5 ?_;refine tk 6 _ rfl (cE.kS rfl rfl zo) ?_;(refine tO 7 ?_;refine dV (bm rfl) ?_);(refine tO 8 ?_;refine dV (ba rfl) ?_);(refine tO 9 ?_;refine tf ?_;refine ⟨zN,?_⟩))
 refine bf zK ?_;refine wB ?_;refine aY (dK w c (m+1) (s.On n) ev::R) rfl (cn (show cB _ (dP w c (s.On n) a M R) from zE) (dU eu he)) ⟨rfl,rfl⟩
abbrev lV (l:List Ev):List (Int × Int × Int × dw):=l.map fun x=>(x.k,x.a,x.b,x.t)
theorem dc.ok.some {c:di} {m:Nat} {s:dc} (h:s.ok c m) (hl:0<s.ls.cG.length):s.fs.recs≠[]:=fun q=>by
 have:=h.perm.length_eq;rw [q,aa,List.length_nil] at this
 omega
theorem dc.ok.short {c:di} {m:Nat} {s:dc} (h:s.ok c m):s.ls.cG.length≤250:=by
 have:=h.perm.length_eq;rw [aa] at this
 have:=h.DH;have:=h.steps
 omega
theorem zr {l:List dw} {j:Nat} (h:j<l.length):l.getD j []∈l:=by
 have:l.getD j []=l[j]'h:=by simp [List.getD,ae h]
 rw [this];exact ax h
theorem pE (w:Nat) (c:di) (m:Nat) (s:dc) (a:eh) (M:cK) (ha:a.ok M w c m s) (i:Nat) (hi:i≤1000) (PC:a.es.length+256≤600*m) :
 Ct prog 170 #[pt w,.int .i64 (i:Int)] e (dP w c s a M R) (fun v' L'=>v'=.tuple #[]∧∃ (a':eh) (M':cK) (jQ:List (Int × Int × Int × dw)),a'.ok M' w c m s∧lV a'.es=lV a.es++jQ∧jQ.length≤250∧rF jQ s∧L'=dP w c s a' M' R):=by
 have Is:=ha.st.short;have Q5:=ha.st.steps;refine a8 (args:=[_,_]) func170 rfl ntmps170 results170 rfl ?_;refine wB ?_;refine bq (ι:=Nat × eh × cK × List (Int × Int × Int × dw)) (fun j=>[(0,pt w),(4,.int .i64 (j.1:Int))]) (fun j=>dP w c s j.2.1 j.2.2.1 R) (fun j=>i≤j.1∧j.1≤1000∧j.2.1.ok j.2.2.1 w c m s∧lV j.2.1.es=lV a.es++j.2.2.2∧(j.2.2.2.length≤j.1∧(j.2.2.2=[]∨j.1≤s.ls.cG.length))∧rF j.2.2.2 s) (fun j=>s.ls.cG.length - j.1) (i,a,M,[]) ⟨aS _,hi,ha,by simp,⟨aH _,.inl rfl⟩,rF.nil⟩ zS aX ?_;rintro ⟨j,b,N,ev⟩ ⟨DD,hj1,hb,yp,⟨DS,Sg⟩,Gh⟩;dsimp only at DD hb yp DS Gh Sg hj1 ⊢
 have oT:b.es.length=a.es.length+ev.length:=by have:=congrArg List.length yp;simpa using this
 have Nq:ev.length≤250:=by
  rcases Sg with h|h
  ·rw [h];simp
  ·omega
 refine wB ?_;refine aZ rfl rfl (Ct.at zP (sz _ e b.gl b.ld b.lk (cS 0) s.ls)) ?_;rintro _ _ ⟨rfl,rfl⟩
 by_cases cP:j<s.ls.cG.length
 rotate_left
 ·refine wB ?_;refine bU (dP w c s b N R) rfl zE ⟨rfl,b,N,ev,hb,yp,Nq,Gh,rfl⟩
 refine wB ?_;refine aZ rfl rfl (Ct.at zP (qy _ e b.gl b.ld b.lk (cS 0) s.ls (j:Int) zo)) ?_;rintro _ _ (⟨h1,-,-⟩|⟨-,-,ad,kk,rfl,rfl⟩)
 ·exact absurd ⟨by omega,by omega⟩ h1
 rw [Int.toNat_natCast];have VF:(s.ls.cG.getD j []).length≤200:=hb.st.ls.short _ (zr cP)
 generalize s.ls.cG.getD j []=x at *
 refine wB ?_;refine bx _ (cE.kF (key:=fJ) (k:=(j:Int)) rfl rfl zP) rfl ?_
 generalize (gK (j:Int) b.kl).getD (.string (str []))=vk
 cases hk:(gK (j:Int) b.kl).isSome with
 | true =>
  refine wB ?_;refine bi (j+1,b,N,ev) ⟨by dsimp only;omega,by dsimp only;omega,hb,yp,⟨by dsimp only;omega,.inr cP⟩,Gh⟩ zd zS zE
 | false =>
  refine wB ?_;refine bk (id:=6) [8] (cT (.slice ad x.length kk) x::dP w c s b N R) mixed ?_
  (refine tM 0 ?_;refine tN 1 ?_;refine tF 2 ?_;refine tF 3 ?_;refine tL 4 ?_;refine tM 5 ?_;refine tM 6 ?_)
  refine tk 7 _ rfl (b9 rfl (bb .zero)) ?_;refine tO 8 ?_;refine Do.jV (key:=fJ) (k:=(j:Int)) rfl rfl rfl zP ⟨zN,?_⟩;refine bf zK ?_;refine wB ?_;refine aZ rfl rfl (qU _ e (.slice ad x.length kk) x (bb zP) zo) ?_;rintro _ _ ⟨dW,k2,rfl,rfl⟩;refine aZ rfl rfl (Ct.AR zP zP (iu _ e w c s { b with kl:=lH (j:Int) (.string (str x)) b.kl } 2 (j:Int) 0 (.slice dW (cZ x).length k2) (cZ x) rfl zd)) ?_;rintro _ _ ⟨rfl,ve,rfl⟩;have eu:=((hb.more (Dg (A:=N) (B:=cT (.slice dW (cZ x).length k2) (cZ x)))).kl (lH (j:Int) (.string (str x)) b.kl)).seen (x:=⟨2,(j:Int),0,.slice dW (cZ x).length k2,cZ x⟩) ve (cF.cM (bb .zero) Dh) zd (by show (ek _ _).length≤1000;rw [dg];omega);refine wB ?_;refine bi (j+1,{ b with kl:=lH (j:Int) (.string (str x)) b.kl,ve:=ve,es:=b.es++[⟨2,(j:Int),0,.slice dW (cZ x).length k2,cZ x⟩] },dH [N,cT (.slice dW (cZ x).length k2) (cZ x)],ev++[(2,(j:Int),0,cZ x)]) ⟨by dsimp only;omega,by dsimp only;omega,eu,by dsimp only;rw [lV,ah,← lV,yp,aM];rfl,⟨by dsimp only;rw [aa,aj];omega,.inr cP⟩,fun y hy=>?_⟩ zd zS (cn (ea (A:=N) (B:=cT (.slice dW (cZ x).length k2) (cZ x)) zP zP) zE);rcases aJ.1 hy with hy|hy
  ·exact Gh y hy
  ·rw [an.1 hy];exact ⟨(by decide:(2:Int)≠3),.inr (ha.st.some zo)⟩
theorem zt (w:Nat) (c:di) (m:Nat) (s:dc) (a:eh) (M:cK) (ha:a.ok M w c m s) (PC:a.es.length+256≤600*m) :
 Ct prog 184 #[pt w] e (dP w c s a M R) (fun v' L'=>v'=.tuple #[]∧∃ (a':eh) (M':cK) (jQ:List (Int × Int × Int × dw)),a'.ok M' w c m s∧lV a'.es=lV a.es++jQ∧jQ.length≤250∧rF jQ s∧L'=dP w c s a' M' R):=by
 have Is:=ha.st.DH;have Q5:=ha.st.steps;refine a8 (args:=[_]) func184 rfl ntmps184 results184 rfl ?_;refine wB ?_;refine aZ rfl rfl (Ct.at zP (kI _ e a.gf a.wV a.gl c.f s.fs)) ?_;rintro _ _ ⟨rfl,rfl⟩;refine wB ?_;refine bq (ι:=Nat × eh × cK × List (Int × Int × Int × dw)) (fun j=>[(0,pt w),(11,.int .i64 (s.fs.recs.length:Int)),(12,.int .i64 (j.1:Int))]) (fun j=>dP w c s j.2.1 j.2.2.1 R) (fun j=>j.1≤s.fs.recs.length∧j.2.1.ok j.2.2.1 w c m s∧lV j.2.1.es=lV a.es++j.2.2.2∧j.2.2.2.length≤j.1∧rF j.2.2.2 s) (fun j=>s.fs.recs.length - j.1) (0,a,M,[]) ⟨aH _,ha,by simp,aH _,rF.nil⟩ zS zE ?_;rintro ⟨j,b,N,ev⟩ ⟨DD,hb,yp,DS,Gh⟩;dsimp only at DD hb yp DS Gh ⊢
 have oT:b.es.length=a.es.length+ev.length:=by have:=congrArg List.length yp;simpa using this
 by_cases cP:j<s.fs.recs.length
 rotate_left
 ·refine wB ?_;refine bU (dP w c s b N R) rfl zE ⟨rfl,b,N,ev,hb,yp,by omega,Gh,rfl⟩
 refine wB ?_;refine aZ rfl rfl (Ct.at zP (Aq _ e b.gf b.wV b.gl c.f s.fs j cP)) ?_;rintro _ _ ⟨ad,kk,rfl,rfl⟩;have VF:(s.fs.recs.getD j []).length≤200:=(hb.st.fs.oh _ (zr cP)).2;have oG:s.fs.recs≠[]:=fun q=>by rw [q] at cP;exact absurd cP (Nat.not_lt_zero _)
 generalize s.fs.recs.getD j []=x at *
 refine wB ?_;refine bx _ (cE.kF (key:=fJ) (k:=(j:Int)) rfl rfl zP) rfl ?_
 generalize (gK (j:Int) b.kr).getD (.string (str []))=vk
 cases hk:(gK (j:Int) b.kr).isSome with
 | true =>
  refine wB ?_;refine bi (j+1,b,N,ev) ⟨cP,hb,yp,by dsimp only;omega,Gh⟩ zd zS zE
 | false =>
  refine wB ?_;refine bk (id:=6) [8] (cT (.slice ad x.length kk) x::dP w c s b N R) mixed ?_
  (refine tM 0 ?_;refine tN 1 ?_;refine tF 2 ?_;refine tF 3 ?_;refine tL 4 ?_;refine tM 5 ?_;refine tM 6 ?_)
  refine tk 7 _ rfl (b9 rfl (bb .zero)) ?_;refine tO 8 ?_;refine Do.jV (key:=fJ) (k:=(j:Int)) rfl rfl rfl zP ⟨zN,?_⟩;refine bf zK ?_;refine wB ?_;refine aZ rfl rfl (uf _ e (.slice ad x.length kk) x (bb zP) zo) ?_;rintro _ _ ⟨dW,k2,rfl,rfl⟩;refine aZ rfl rfl (Ct.AR zP zP (iu _ e w c s { b with kr:=lH (j:Int) (.string (str x)) b.kr } 1 (j:Int) 0 (.slice dW (cZ x).length k2) (cZ x) rfl zd)) ?_;rintro _ _ ⟨rfl,ve,rfl⟩;have eu:=((hb.more (Dg (A:=N) (B:=cT (.slice dW (cZ x).length k2) (cZ x)))).kr (lH (j:Int) (.string (str x)) b.kr)).seen (x:=⟨1,(j:Int),0,.slice dW (cZ x).length k2,cZ x⟩) ve (cF.cM (bb .zero) Dh) zd (by show (ek _ _).length≤1000;rw [dg];omega);refine wB ?_;refine bi (j+1,{ b with kr:=lH (j:Int) (.string (str x)) b.kr,ve:=ve,es:=b.es++[⟨1,(j:Int),0,.slice dW (cZ x).length k2,cZ x⟩] },dH [N,cT (.slice dW (cZ x).length k2) (cZ x)],ev++[(1,(j:Int),0,cZ x)]) ⟨cP,eu,by dsimp only;rw [lV,ah,← lV,yp,aM];rfl,by dsimp only;rw [aa,aj];omega,fun y hy=>?_⟩ zd zS (cn (ea (A:=N) (B:=cT (.slice dW (cZ x).length k2) (cZ x)) zP zP) zE);rcases aJ.1 hy with hy|hy
  ·exact Gh y hy
  ·rw [an.1 hy];exact ⟨(by decide:(1:Int)≠3),.inr oG⟩
theorem uG {old:List dw}:∀ {l fresh:List dw},(old++fresh++l).Nodup→fg old fresh l=fresh++l
 | [],fresh,h=>by simp [fg]
 | b::l,fresh,h=>by
  unfold fg;have h1:¬ b∈old++fresh:=fun q=>(List.nodup_append.1 h).2.2 _ q _ (List.mem_cons_self ..) rfl
  rw [aB h1,uG (by simpa using h),aM];rfl
def dc.Gi (c:di) (s:dc):dc:=if s.fs.pn c.f (s.time:Int)=true then { s with fs:=s.fs.yZ c.f,ls:=s.ls.add (s.fs.some c.f) } else s
def dc.K2 (c:di) (s:dc):Nat:=if s.fs.pn c.f (s.time:Int)=true then (s.fs.some c.f).length else 0
theorem dc.ok.nodup {c:di} {m:Nat} {s:dc} (h:s.ok c m):(s.ls.cG++s.fs.q.map (·.1)).Nodup:=h.perm.nodup_iff.2 h.recs
theorem dc.ok.fresh {c:di} {m:Nat} {s:dc} (h:s.ok c m):s.ls.fresh (s.fs.some c.f)=s.fs.some c.f:=by
 unfold fW.fresh pi.some;have h1:=h.nodup
 rw [uG (by
  rw [aK];refine h1.sublist (List.Sublist.append_left ((List.take_sublist _ _).map _) _)),List.nil_append]
theorem dc.ok.fit {c:di} {m:Nat} {s:dc} (h:s.ok c m):s.ls.cG.length+(s.ls.fresh (s.fs.some c.f)).length≤250:=by
 rw [h.fresh];have h1:=h.perm.length_eq;rw [aa,ab] at h1
 have h2:(s.fs.some c.f).length≤s.fs.q.length:=by unfold pi.some;rw [ab,aF];omega
 have:=h.DH;have:=h.steps
 omega
theorem K3 {l m:List dw} {k:Nat} {x:List dw} (h:x=l.take x.length):x=(l++m).take x.length:=by
 have h1:=congrArg List.length h;rw [aF] at h1
 rw [List.take_append_of_le_length zo];exact h
end Go.Proofs
namespace Go.Proofs
attribute [local irreducible] Bs.cE Bs.Do Bs.O Bs.W Bs.Fin Bs.A Bs.Ct Bs.cF Bs.Rd Bs.Sat Bs.cL Bs.Ob Bs.dJ Bs.View Bs.cB Bs.Ex Bs.dH Bs.Pu Bs.eZ Bs.dO Bs.dZ
open Go.Bs
open Tryz
variable (R:List cK) (e:World)
theorem dc.Nr {c:di} {m:Nat} {s:dc} (h:s.ok c m) (hm:m<250):(s.Gi c).ok c (m+1):=by
 unfold dc.Gi
 split
 rotate_left
 ·exact h.next hm
 have hi:(s.ls.add (s.fs.some c.f)).cG=s.ls.cG++s.fs.some c.f:=by rw [fW.BE,h.fresh]
 have hq:s.fs.some c.f++(s.fs.q.drop c.f.size).map (·.1)=s.fs.q.map (·.1):=by
  unfold pi.some;rw [← ah,List.take_append_drop]
 have BN:∀ b∈s.fs.some c.f,b∈s.fs.q.map (·.1):=fun b hb=>by rw [← hq];exact List.mem_append_left _ hb
 have hl:=h.ls;have hf:=h.fs;have pP:=h.fit;rw [h.fresh] at pP
 have z6:=h.nodup;have Q6:(s.ls.add (s.fs.some c.f)).last=s.ls.last:=by unfold fW.add;split<;>rfl
 have Wk:(s.ls.add (s.fs.some c.f)).keys=s.ls.keys:=by unfold fW.add;split<;>rfl
 have U5:(s.ls.cG++s.fs.some c.f).Nodup:=by
  rw [← hq,← aM] at z6
  exact (List.nodup_append.1 z6).1
 exact { h.next hm with
  ls:={
   full:=fun r hr=>by
    unfold fW.add at hr
    split at hr
    ·exact hl.full r hr
    ·rename_i oG;rcases aJ.1 hr with hr|hr
     ·exact hl.full r hr
     ·rw [an.1 hr];exact oG
   nodup:=by rw [hi];exact U5
   size:=by rw [hi,aa];omega
   short:=fun b hb=>by
    rw [hi] at hb
    rcases aJ.1 hb with hb|hb
    ·exact hl.short b hb
    ·obtain ⟨x,hx,rfl⟩:=aE.1 (BN b hb);exact hf.pj x hx
   keys:=by rw [Wk];exact hl.keys
   last:=fun x hx=>by
    rw [Q6] at hx
    obtain ⟨h1,h2,h3⟩:=hl.last x hx;refine ⟨h1,h2,?_⟩;rw [hi,aa];omega }
  last:=fun x hx=>by
   show Ac (s.ls.add (s.fs.some c.f)).cG x
   rw [hi];exact (h.last x (by rw [← Q6];exact hx)).more
  fs:={
   size:=hf.size
   oh:=hf.oh
   BH:=by show (s.fs.q.drop c.f.size).length≤1000;rw [aP];have:=hf.BH;omega
   pj:=fun x hx=>hf.pj x (aV hx)
   wP:=fun x hx=>hf.wP x (aV hx) }
  perm:=by
   show ((s.ls.add (s.fs.some c.f)).cG++(s.fs.q.drop c.f.size).map (·.1)).Perm s.fs.recs
   rw [hi,aM,hq];exact h.perm
  ws:=fun x hx=>⟨(h.ws x hx).1,Nat.le_succ_of_le (h.ws x hx).2.1,by show lM (s.ls.add (s.fs.some c.f)).cG _;rw [hi];exact (h.ws x hx).2.2.more⟩
  cur:=fun x hx=>⟨by show Ac (s.ls.add (s.fs.some c.f)).cG _;rw [hi];exact (h.cur x hx).1.more,(h.cur x hx).2⟩
  done:=fun hn=>⟨by show Ac (s.ls.add (s.fs.some c.f)).cG _;rw [hi];exact (h.done hn).1.more,(h.done hn).2⟩
  SO:=by show s.mo.cG=(s.ls.add (s.fs.some c.f)).cG.take _;rw [hi];exact K3 (k:=0) h.SO
  ee:=fun x hx=>by show fZ.ok c (s.ls.add (s.fs.some c.f)).cG x;rw [hi];exact (h.ee x hx).more
  signed:=fun x hx=>⟨by show lM (s.ls.add (s.fs.some c.f)).cG _;rw [hi];exact (h.signed x hx).1.more,(h.signed x hx).2⟩ }
theorem H9 (w:Nat) (c:di) (m:Nat) (s:dc) (ev:List (Int × Int × Int × dw)) (k n to wh:Int) (v:Value) (hv:v.oneCell'=true) (hm:m<250) :
 Ct prog 84 #[pt w,.agg (oB k n to wh v).toArray] e (dK w c m s ev::R) (fun v' L'=>v'=.tuple #[.int .i64 (s.K2 c:Int),.int .i64 0]∧∃ jQ,rF jQ (s.Gi c)∧L'=dK w c (m+1) (s.Gi c) (ev++jQ)::R):=by
 refine gN fun a M ha he=>?_
 have eK:=ha.st;have na:=dc.Nr eK hm;have eu:=ha.to na (Nat.le_succ m) (by unfold dc.Gi;split<;>rfl) (by unfold dc.Gi;split<;>rfl);have ht:=eK.time;have PC:=ha.ec;have lq:=eK.short;refine a8 (args:=[_,_]) func84 rfl ntmps84 results84 rfl ?_
 (repeat (refine wA ?_;intros))
 refine aZ rfl rfl (Ct.at zP (sz _ e a.gl a.ld a.lk (cS 0) s.ls)) ?_;rintro _ _ ⟨rfl,rfl⟩;refine wB ?_;rename_i g3;refine bk (id:=2) [13] (cL g3 (oB k n to wh v) eN (0,0)::cL w (a.cells c s) dj (0,0)::M::R) mixed ?_
 (refine tM 0 ?_;refine tN 1 ?_;refine tF 2 ?_;refine tL 3 ?_;refine tM 4 ?_;refine tN 5 ?_;refine tF 6 ?_;refine tL 7 ?_)
 refine tO 8 ?_;refine bg rfl rfl (Ct.AR zP zP (HE _ e a.gf a.wV a.gl a.ld a.lk (cS 0) s.ls c.f s.fs (s.time:Int) zo (by have:=eK.fit;omega))) ?_;have hN0:s.fs.pn c.f (s.time:Int)=false→s.Gi c=s∧s.K2 c=0:=fun h=>by unfold dc.Gi dc.K2;rw [h];exact ⟨rfl,rfl⟩
 have SP:s.fs.pn c.f (s.time:Int)=true→s.Gi c={ s with fs:=s.fs.yZ c.f,ls:=s.ls.add (s.fs.some c.f) }∧s.K2 c=(s.fs.some c.f).length:=fun h=>by unfold dc.Gi dc.K2;rw [h];exact ⟨rfl,rfl⟩
 rintro _ _ (⟨hd,rfl,rfl⟩|⟨hd,ao,co,rfl,rfl⟩)
 ·obtain ⟨h1,h2⟩:=hN0 hd;rw [h1] at eu ⊢
  rw [h2];refine ⟨fun _=>zE,?_⟩
  (refine tM 9 ?_;refine tk 10 _ rfl (bl rfl rfl) ?_;refine tk 11 _ rfl (bl rfl rfl) ?_;refine tA 12 ?_;(refine tO 13 ?_;refine dV (bj rfl) ?_))
  refine bf zK ?_;refine wB ?_;refine aZ rfl rfl (Ct.cM (pE (cL g3 (oB k n to wh v) eN (0,0)::R) e w c (m+1) s a M eu s.ls.cG.length zo zo) zE) ?_;rintro _ _ ⟨rfl,a2,M2,Ns,nK,Nq,-,Gh,rfl⟩;refine wB ?_;refine aY (dK w c (m+1) s (ev++Ns)::R) rfl (cn (show cB _ (dP w c s a2 M2 R) from zE) (dU nK (by rw [← he];exact Nq))) ⟨rfl,Ns,Gh,rfl⟩
 ·obtain ⟨h1,h2⟩:=SP hd;rw [h1] at eu ⊢
  rw [h2];refine ⟨fun _=>zE,?_⟩
  generalize (s.fs.some c.f).length=nn at *
  (refine tM 9 ?_;refine tk 10 _ rfl (bl rfl rfl) ?_;refine tk 11 _ rfl (bl rfl rfl) ?_;refine tA 12 ?_;(refine tO 13 ?_;refine dV (bj rfl) ?_))
  refine bf zK ?_;refine wB ?_;refine aZ rfl rfl (Ct.cM (pE (cL g3 (oB k n to wh v) eN (0,0)::R) e w c (m+1) _ a M eu s.ls.cG.length zo zo) zE) ?_;rintro _ _ ⟨rfl,a2,M2,Ns,nK,Nq,-,Gh,rfl⟩;refine wB ?_;refine aY _ rfl (cn (show cB _ (dP w c { s with fs:=s.fs.yZ c.f,ls:=s.ls.add (s.fs.some c.f) } a2 M2 R) from zE) (dU nK (ev:=ev++Ns) (by rw [← he];exact Nq))) ⟨rfl,Ns,Gh,rfl⟩
theorem BU (now:Nat):∀ (m:Nat) (s:cQ),(cQ.lU now m s).cur=s.cur∧(cQ.lU now m s).kept=s.kept∧(cQ.lU now m s).done=s.done∧(cQ.lU now m s).dl=s.dl
 | 0,_=>⟨rfl,rfl,rfl,rfl⟩
 | m+1,s=>by
  obtain ⟨h1,h2,h3,h4⟩:=BU now m s;exact ⟨h1,h2,h3,h4⟩
theorem K4 (p:jH) (s:cQ) (x:j7) (now:Nat):(s.ii p x now).done=s.done∧(s.ii p x now).dl=s.dl∧((s.ii p x now)=s∨((s.ii p x now).cur=some x∧(s.ii p x now).kept=[])):=by
 unfold cQ.ii
 split
 ·obtain ⟨h1,h2,h3,h4⟩:=BU now s.st.length { s with cur:=some x,kept:=[] };exact ⟨h3,h4,.inr ⟨h1,h2⟩⟩
 ·exact ⟨rfl,rfl,.inl rfl⟩
def dc.m4 (s:dc):Prop:=s.ls.same∨s.ls.keys<16
instance (s:dc):Decidable s.m4:=by unfold dc.m4;infer_instance
def dc.fo (s:dc):j7:=(s.ls.je (cS 0)).dE
def dc.pY (c:di) (s:dc):dc:={ s with ls:=s.ls.je (cS 0),fd:=if 0<s.fo.dd.size then s.fd.ii (da c) s.fo s.time else s.fd,n:=s.n+c.k }
def dc.je (c:di) (s:dc):dc:=if s.m4 then { s.pY c with signed:=some s.fo.dd } else s
def EvP (ev:List (Int × Int × Int × dw)) (s:dc):Prop:=ev=[]∨∃ x:jg,s.signed=some x∧ev=[(3,(x.size:Int),0,x.root)]
theorem dc.vR (s:dc):(s.ls.je (cS 0)).cG=s.ls.cG:=by unfold fW.je;split;rfl;split<;>rfl
theorem dc.xH {c:di} {m:Nat} {s:dc} (h:s.ok c m) (hp:s.m4):Ac s.ls.cG s.fo∧s.fo.dd.size=s.ls.cG.length∧(s.ls.je (cS 0)).last=some s.fo:=by
 unfold dc.fo fW.je
 split
 ·rename_i hs;obtain ⟨h1,h2⟩:=hs;obtain ⟨x,hx⟩:=Option.isSome_iff_exists.1 h1;have hv:s.ls.dE=x:=by unfold fW.dE;rw [hx];rfl
  rw [hv] at h2 ⊢
  exact ⟨h.last x hx,h2,hx⟩
 ·rename_i hs;have hk:s.ls.keys<16:=hp.resolve_left hs;rw [aI hk];have hr:=fW.BC h.ls;refine ⟨⟨J8 hr hk,j6 hk,aS _,?_⟩,rfl,rfl⟩
  show eg (s.ls.cG.map cZ)=eg ((s.ls.cG.take s.ls.cG.length).map cZ)
  rw [List.take_length]
theorem dc.PD {c:di} {m:Nat} {s:dc} (h:s.ok c m) (hp:s.m4):(s.ls.je (cS 0)).ok:=by
 obtain ⟨h1,h2,h3⟩:=dc.xH h hp;have hl:=h.ls;have hi:=s.vR;have Hc:(s.ls.je (cS 0)).recs=s.ls.recs:=by unfold fW.je;split;rfl;split<;>rfl
 exact {
  full:=by rw [Hc];exact hl.full
  nodup:=by rw [hi];exact hl.nodup
  size:=by rw [hi];exact hl.size
  short:=by rw [hi];exact hl.short
  keys:=by
   unfold fW.je
   split
   ·exact hl.keys
   ·split
    ·rename_i hk;exact hk
    ·exact hl.keys
  last:=fun x hx=>by
   rw [h3] at hx
   cases hx
   exact ⟨h1.1.1,h1.2.1,by rw [hi];omega⟩ }
theorem dc.Jb {c:di} {m:Nat} {s:dc} (h:s.ok c m) (hm:m<250) (hp:s.m4):(s.pY c).ok c (m+1):=by
 obtain ⟨h1,h2,h3⟩:=dc.xH h hp;have hi:=s.vR;have ht:=h.time;have hn:=h.nb;have hk:=h.xE.k;have hlen:=ll c
 have LH:cQ.ok (if 0<s.fo.dd.size then s.fd.ii (da c) s.fo s.time else s.fd) c.k (s.n+c.k):=by
  split
  ·exact cQ.xG h.fd h1.fits zo zo zo
  ·exact h.fd.mono zo
 obtain ⟨q1,q2,q3⟩:=K4 (da c) s.fd s.fo s.time
 exact { h.next hm with
  ls:=dc.PD h hp
  last:=fun x hx=>by
   show Ac (s.ls.je (cS 0)).cG x
   have hx:(s.ls.je (cS 0)).last=some x:=hx;rw [h3] at hx
   cases hx
   rw [hi];exact h1
  perm:=by show ((s.ls.je (cS 0)).cG++_).Perm _;rw [hi];exact h.perm
  ws:=fun x hx=>⟨(h.ws x hx).1,Nat.le_succ_of_le (h.ws x hx).2.1,by show lM (s.ls.je (cS 0)).cG _;rw [hi];exact (h.ws x hx).2.2⟩
  fd:=LH
  nb:=by show s.n+c.k≤_;omega
  cur:=fun x hx=>by
   show Ac (s.ls.je (cS 0)).cG x∧_
   rw [hi];have hx:cQ.cur (if 0<s.fo.dd.size then s.fd.ii (da c) s.fo s.time else s.fd)=some x:=hx
   split at hx
   ·rename_i h0;rcases q3 with q3|⟨q3,-⟩
    ·rw [q3] at hx;exact h.cur x hx
    ·rw [q3] at hx;cases hx;exact ⟨h1,h0⟩
   ·exact h.cur x hx
  idle:=fun hx=>by
   show cQ.ag (if 0<s.fo.dd.size then s.fd.ii (da c) s.fo s.time else s.fd)=[]
   have hx:cQ.cur (if 0<s.fo.dd.size then s.fd.ii (da c) s.fo s.time else s.fd)=none:=hx
   split at hx
   ·rename_i h0;rw [aI h0];rcases q3 with q3|⟨q3,-⟩
    ·rw [q3] at hx ⊢;exact h.idle hx
    ·rw [q3] at hx;cases hx
   ·rename_i h0;rw [aB h0];exact h.idle hx
  kept:=fun g hg=>by
   show g.hO _ (cQ.dX (if 0<s.fo.dd.size then s.fd.ii (da c) s.fo s.time else s.fd)).dd
   have hg:g∈cQ.kept (if 0<s.fo.dd.size then s.fd.ii (da c) s.fo s.time else s.fd):=hg
   split at hg
   ·rename_i h0;rw [aI h0];rcases q3 with q3|⟨-,q3⟩
    ·rw [q3] at hg ⊢;exact h.kept g hg
    ·rw [q3] at hg;cases hg
   ·rename_i h0;rw [aB h0];exact h.kept g hg
  done:=fun hx=>by
   show Ac (s.ls.je (cS 0)).cG (cQ.done (if 0<s.fo.dd.size then s.fd.ii (da c) s.fo s.time else s.fd))∧0<(cQ.done (if 0<s.fo.dd.size then s.fd.ii (da c) s.fo s.time else s.fd)).dd.size∧ue (da c) (cQ.done (if 0<s.fo.dd.size then s.fd.ii (da c) s.fo s.time else s.fd)).dd (cQ.dl (if 0<s.fo.dd.size then s.fd.ii (da c) s.fo s.time else s.fd))
   have hx:cQ.dl (if 0<s.fo.dd.size then s.fd.ii (da c) s.fo s.time else s.fd)≠[]:=hx;rw [hi]
   split at hx
   ·rename_i h0;rw [aI h0,q1,q2];rw [q2] at hx
    exact h.done hx
   ·rename_i h0;rw [aB h0];exact h.done hx
  SO:=by show s.mo.cG=(s.ls.je (cS 0)).cG.take _;rw [hi];exact h.SO
  ee:=fun x hx=>by show fZ.ok c (s.ls.je (cS 0)).cG x;rw [hi];exact h.ee x hx
  signed:=fun x hx=>by show lM (s.ls.je (cS 0)).cG _∧_;rw [hi];exact h.signed x hx }
theorem dc.Nt {c:di} {m:Nat} {s:dc} (h:s.ok c m) (hm:m<250):(s.je c).ok c (m+1):=by
 unfold dc.je
 split
 rotate_left
 ·exact h.next hm
 ·rename_i hp;obtain ⟨h1,h2,h3⟩:=dc.xH h hp
  exact { dc.Jb h hm hp with
   signed:=fun x hx=>by
    cases hx
    show lM (s.ls.je (cS 0)).cG _∧_
    rw [s.vR];exact ⟨h1.2.2,h1.1.1⟩ }
theorem eh.ok.sign {a:eh} {M:cK} {w:Nat} {c:di} {m:Nat} {s:dc} (h:a.ok M w c m s) {x:jg} {v:Value} (hx:db [M] v x.root) (h2:dc.ok c m { s with signed:=some x }):eh.ok { a with vr:=v } M w c m { s with signed:=some x } :=
 {h with root:=hx,all:=⟨h.all.all⟩,st:=h2,ee:=h.ee }
theorem K5 (w:Nat) (c:di) (m:Nat) (s:dc) (ev:List (Int × Int × Int × dw)) (k n to wh:Int) (v:Value) (hv:v.oneCell'=true) (hm:m<250) :
 Ct prog 85 #[pt w,.agg (oB k n to wh v).toArray] e (dK w c m s ev::R) (fun v' L'=>v'=.tuple #[.int .i64 (if s.m4 then (s.fo.dd.size:Int) else 0),.int .i64 (if s.m4 then 0 else 23)]∧∃ jQ,EvP jQ (s.je c)∧L'=dK w c (m+1) (s.je c) (ev++jQ)::R):=by
 refine gN fun a M ha he=>?_
 have eK:=ha.st;have ht:=eK.time;have hn:=eK.nb;have PC:=ha.ec;refine a8 (args:=[_,_]) func85 rfl ntmps85 results85 rfl ?_
 (repeat (refine wA ?_;intros))
 refine aZ rfl rfl (Ct.at zP (Ks _ e a.gl a.ld a.lk (cS 0) s.ls)) ?_;rintro v0 _ ⟨Oe,Qt⟩
 by_cases hp:s.m4
 rotate_left
 ·obtain ⟨rfl,rfl⟩:=Qt hp;have hs:s.je c=s:=by unfold dc.je;rw [aB hp]
  have eu:=ha.to (eK.next hm) (Nat.le_succ m) rfl rfl;rw [hs,aB hp,aB hp]
  (repeat (refine wA ?_;intros))
  refine aY (dK w c (m+1) s ev::R) rfl (cn (show cB _ (dP w c s a M R) from zE) (dU eu he)) ⟨rfl,[],.inl rfl,by rw [aK]⟩
 obtain ⟨N,ur,up,uq,rfl,hN,rfl⟩:=Oe hp;obtain ⟨g1,g2,g3⟩:=dc.xH eK hp;have HZ:=dc.Jb eK hm hp;have na:=dc.Nt eK hm;have hs:s.je c={ s.pY c with signed:=some s.fo.dd }:=by unfold dc.je;rw [aI hp]
 rw [aI hp,aI hp];rw [hs] at na ⊢
 rw [show (s.ls.je (cS 0)).dE=s.fo from rfl] at hN ⊢
 refine bn (cz (hN.root.cM (cH zP))) fun o3=>?_
 refine bn (hN.sig.cM (cH zP)).parts.one fun o4=>?_
 refine bn (hN.sig.cM (cH zP)).path.one fun o5=>?_
 clear Oe Qt
 (repeat' first|refine W.pJ (id:=7) (fun j:Nat × Nat=>[(0,pt w),(8,pt j.2)]) (fun j=>cL j.2 (iT s.fo.dd ur) 83 (0,0)::N::dP w c (s.pY c) a M R) (fun _=>True) ?_ ?_|refine Za ?_|refine Zb ?_|apply Zc|apply Zd|apply Ze|apply Zf|refine Zh ?_|refine ZQ ?_|refine Yh fun _=>?_|refine YA ?_|apply YC|refine YN ?_|refine YR ?_|(apply O.dh;exact rfl;exact zP;(first|(simp only [aC,Nat.add_zero,Nat.reduceAdd,List.drop_succ_cons,List.drop_zero,List.take_succ_cons,List.take_zero];done)|(simp only [aC,Nat.add_zero,Nat.reduceAdd,List.drop_succ_cons,List.drop_zero,List.take_succ_cons,List.take_zero];exact rfl));exact rfl;exact rfl))
 rotate_left
 ·refine ⟨?_⟩;rename_i g6 g8
  by_cases h0:0<s.fo.dd.size
  rotate_left
  ·have fR:s.pY c={ s with ls:=s.ls.je (cS 0),fd:=s.fd,n:=s.n+c.k }:=by unfold dc.pY;rw [aB h0]
   rw [fR];refine wB ?_;exact bK (g6,g8) trivial zS (cn (bw (show cR _ (lj a.mH (da c) c.retry s.n s.fd) _ from zP) aX) (cn (I3 (Nat.le_add_right s.n c.k)) zE))
  ·have fR:s.pY c={ s with ls:=s.ls.je (cS 0),fd:=s.fd.ii (da c) s.fo s.time,n:=s.n+c.k }:=by unfold dc.pY;rw [aI h0]
   rw [fR];refine wB ?_;refine bk (id:=6) [] (cL g6 (dT s.fo ur up uq) rE (0,0)::cL w (a.cells c s) dj (0,0)::N::R) mixed ?_
   (refine tM 0 ?_;refine tN 1 ?_;refine tF 2 ?_;refine tL 3 ?_;refine tJ 4 ?_;refine tM 5 ?_;refine tN 6 ?_;refine tF 7 ?_;refine tL 8 ?_)
   refine tO 9 ?_;have hof:=fun L hL=>Fk L e a.mH (da c) c.retry s.n s.fd ur up uq s.fo s.time hL g1.fits zo zo
   rw [ll] at hof
   refine bg rfl rfl (Ct.at zP (hof _ (hN.cM (cH zP)))) ?_;rintro _ _ ⟨rfl,rfl⟩;refine ⟨fun _=>zE,?_⟩;refine bf zK ?_;exact bK (g6,g8) trivial zS zE
 rintro ⟨-,g8⟩ -;dsimp only;have pV:=ha.to HZ (Nat.le_succ m) rfl rfl;refine wB ?_;refine aZ rfl rfl (H7 _ e w s.sv a.vr s.signed.isSome s.fo.dd ur (bQ (show cR _ (cL w (a.cells c (s.pY c)) dj (0,0)) _ from zP) rfl) (dZ.fQ (show cR _ (cL w (a.cells c (s.pY c)) dj (0,0)) _ from zP) ⟨2,rfl⟩) (fun _=>ha.root.cM (cH (show cR _ M _ from zP))) (hN.root.cM (cH (show cR _ N _ from zP)))) ?_;rintro _ _ ⟨rfl,rfl⟩
 by_cases Sh:s.signed=some s.fo.dd
 ·have hb:(s.signed.isSome && decide (s.sv=s.fo.dd))=true:=by unfold dc.sv;rw [Sh];simp
  rw [hb];have mz:({ s.pY c with signed:=some s.fo.dd }:dc)=s.pY c:=by unfold dc.pY;rw [← Sh]
  rw [mz];refine wB ?_;refine aY (dK w c (m+1) (s.pY c) ev::R) rfl (cn (show cB _ (dP w c (s.pY c) a M R) from zE) (dU pV he)) ⟨rfl,[],.inl rfl,by rw [aK]⟩
 ·have hb:(s.signed.isSome && decide (s.sv=s.fo.dd))=false:=by
   unfold dc.sv
   cases hq:s.signed with
   | none=>rfl
   | some y=>simp only [Option.isSome_some,Bool.true_and,Option.getD_some,decide_eq_false_iff_not];rintro rfl;exact Sh hq
  rw [hb];have eu:=(pV.more (Dg (A:=M) (B:=N))).sign (hN.root.cM Dh) na;refine wB ?_;refine aZ rfl rfl (Ct.AR zP zP (iu _ e w c { s.pY c with signed:=some s.fo.dd } { a with vr:=ur } 3 (s.fo.dd.size:Int) 0 ur s.fo.dd.root o3 zd)) ?_;rintro _ _ ⟨rfl,ve,rfl⟩;have nK:=eu.seen (x:=⟨3,(s.fo.dd.size:Int),0,ur,s.fo.dd.root⟩) ve (hN.root.cM Dh) zd (by show s.fo.dd.root.length≤1000;have:=g1.fits.1.2;omega);refine wB ?_;refine aY (dK w c (m+1) { s.pY c with signed:=some s.fo.dd } (ev++[(3,(s.fo.dd.size:Int),0,s.fo.dd.root)])::R) rfl (cn ?_ (dU nK (by dsimp only;rw [ah,he];rfl))) ⟨rfl,_,.inr ⟨_,rfl,rfl⟩,rfl⟩;exact cn (ea (A:=M) (B:=N) zP zP) zE
abbrev K6:TypeId:=102
theorem zu (v:Value) (x:j7) (n m:Nat) (path:List dw) (hv:db R v (qJ x n m path)) (hc:x.dd.right) (hr:x.sig.right) (hn:n≤1000000) (hm:m≤1000000) (hp:path.length≤16) (jN:∀ a∈path,a.length=32) :
 Ct prog 251 #[v] e R (fun v' L'=>∃ (M:cK) (ur up uq:Value) (ad:Option Addr) (k:Nat) (ts:List eo),v'=.tuple #[.agg (dT x ur up uq).toArray,.agg #[.int .i64 (n:Int),.int .i64 (m:Int),.slice ad ts.length k],.bool true]∧ts.map (·.2)=path∧fj [M] ur up uq x∧cF [M] 1 (.slice ad ts.length k) ts.length (ts.map (·.1))∧dR [M] ts∧L'=M::R):=by
 have DF:=fc jN;have Pa:=iQ hc hr
 have rL:(qJ x n m path).length≤3000:=by
  unfold qJ;simp only [aa,aN,cY]
  omega
 refine a7 (cz hv) fun o1=>?_
 refine bI (args:=[_]) func251 rfl ntmps251 results251 rfl ?_
 (repeat (refine wA ?_;intros))
 rename_i g2 g3;refine aZ rfl rfl (jx _ e v (qJ x n m path) (hv.cM zE) zo) ?_;rintro _ _ ⟨gr,rfl,rfl⟩;have Ku:qJ x n m path=ic x++(be n 4++(be m 4++(UInt8.ofNat path.length::path.flatten))):=rfl;rw [Ku];refine wB ?_;refine aZ rfl rfl (Bl _ e gr x _ hc hr (by simp only [aa,aN,cY];omega)) ?_;rintro _ _ ⟨N,ur,up,uq,rfl,hN,rfl⟩;refine bn (cz (hN.root.cM (cH zP))) fun o8=>?_
 refine bn (hN.sig.cM (cH zP)).parts.one fun o9=>?_
 refine bn (hN.sig.cM (cH zP)).path.one fun Na=>?_
 (repeat (refine wA ?_;intros))
 rename_i g6;refine aZ rfl rfl (Ct.at zP (tD _ e gr n _ zo)) ?_;rintro _ _ ⟨rfl,rfl⟩;refine wB ?_;refine aZ rfl rfl (Ct.at zP (tD _ e gr m _ zo)) ?_;rintro _ _ ⟨rfl,rfl⟩
 (repeat (refine wA ?_;intros))
 rename_i g8;refine aZ rfl rfl (Ct.at zP (vo _ e gr _ _)) ?_;rintro _ _ ⟨rfl,rfl⟩;rw [← qp (n:=path.length) zo];refine wB ?_;refine bq (ι:=Nat × List eo × Option Addr × Nat) (fun j=>[(2,pt g2),(3,pt g3),(5,pt gr),(6,pt g6),(7,.bool true),(8,pt g8),(9,.int .u8 ((path.length - j.1:Nat):Int))]) (fun j=>Reader gr ⟨(path.drop j.1).flatten,false⟩::cL g8 [.int .i64 (n:Int),.int .i64 (m:Int),.slice j.2.2.1 j.2.1.length j.2.2.2] K6 (0,0)::cV (.slice j.2.2.1 j.2.1.length j.2.2.2) j.2.1::cI j.2.1::cL g6 (dT x ur up uq) rE (0,0)::N::cL g2 I4 rE (0,0)::cL g3 [.int .i64 0,.int .i64 0,nY] K6 (0,0)::R) (fun j=>j.1≤path.length∧j.2.1.map (·.2)=path.take j.1) (fun j=>path.length - j.1) (0,[],none,0) ⟨aH _,rfl⟩ zS (cn dM (cn (du eA 1) zE)) ?_;rintro ⟨j,us,m9,cu⟩ ⟨hj,hZ⟩;dsimp only at hj hZ ⊢
 have LC:us.length=j:=by have:=congrArg List.length hZ;rw [ab,aF] at this;omega
 by_cases cP:j<path.length
 ·have hpd:=BO cP;have abq:=jN _ (ax cP);have fq:path.take (j+1)=path.take j++[path[j]'cP]:=aD cP
  have hle:((path.drop (j+1)).flatten).length≤3000:=by
   have:=fc (l:=path.drop (j+1)) (n:=32) (fun a ha=>jN a (aV ha));rw [this,aP];omega
  rw [hpd]
  generalize path[j]'cP=y at *
  have Fq:=H3 (n:=path.length - j) zo zo;rw [show path.length - j - 1=path.length - (j+1) by omega] at Fq
  refine wB ?_;refine aZ rfl rfl (vi _ e gr _) ?_;rintro _ _ ⟨rfl,rfl⟩;refine wB ?_;refine bk (id:=7) [6,7] (cL g8 [.int .i64 (n:Int),.int .i64 (m:Int),.slice m9 us.length cu] K6 (0,0)::R) mixed ?_
  (refine tF 0 ?_;refine tL 1 ?_;refine tM 2 ?_)
  refine tO 3 ?_;refine bg rfl rfl (Ct.at zP (x8 _ e gr 32 y _ abq (by simp only [aa];omega))) ?_;rintro _ _ ⟨qq,cx,rfl,rfl⟩;refine ⟨fun _=>zE,?_⟩;refine tO 4 ?_;refine bF (n:=1) (cs:=[.slice qq y.length cx]) rfl rfl rfl rfl zQ rfl (fun gb=>⟨fun _=>zE,?_⟩);refine tO 5 ?_;refine bo rfl rfl rfl (show cR _ (cV (.slice m9 us.length cu) us) _ from zP) (bP (n:=1) (c:=1) zP rfl zl) rfl rfl zO zm zo fun ei k1 _=>⟨fun _=>zE,?_⟩
  refine tO 6 ?_;refine dV (ba rfl) ?_;refine tO 7 ?_;refine tf ?_;refine ⟨zN,?_⟩;refine bf zK ?_;refine wB ?_;rw [Fq];refine bi (j+1,us++[(.slice qq y.length cx,y)],ei,k1) ⟨cP,by dsimp only;rw [fq,ah,hZ];rfl⟩ zd zS ?_;simp only [cV,aa,aj,ah,List.map_cons,List.map_nil];exact cn (cn (show cB _ (cT (.slice qq y.length cx) y::cI us::dJ eA 1 (.slice ei (us.length+1) k1) (us.length+1) (us.map (·.1)++[.slice qq y.length cx])::Reader gr ⟨(path.drop (j+1)).flatten,false⟩::cL g8 [.int .i64 (n:Int),.int .i64 (m:Int),.slice ei (us.length+1) k1] K6 (0,0)::cL g6 (dT x ur up uq) rE (0,0)::N::cL g2 I4 rE (0,0)::cL g3 [.int .i64 0,.int .i64 0,nY] K6 (0,0)::R) from zE) jq) zE
 rw [aG zo] at hZ
 rw [List.drop_eq_nil_of_le zo,List.flatten_nil,show path.length - j=0 by omega];refine wB ?_;refine bk (id:=8) [9] (cL g8 [.int .i64 (n:Int),.int .i64 (m:Int),.slice m9 us.length cu] K6 (0,0)::cL g6 (dT x ur up uq) rE (0,0)::R) mixed ?_
 (refine tJ 0 ?_;refine tJ 1 ?_;refine tM 2 ?_;refine tM 3 ?_;refine dv 4 _ rfl (bu rfl) ?_)
 refine A.ru 5 rfl rfl zK ?_;refine bg rfl rfl (x9 _ e gr []) ?_;rintro _ _ ⟨rfl,rfl⟩;rw [ay rfl];refine ⟨fun _=>zE,?_⟩
 (refine tk 6 _ rfl (bL rfl rfl) ?_)
 refine tO 7 ?_;refine zg ?_;refine ⟨fun _=>zE,?_⟩;refine tO 8 ?_;refine zg ?_;refine ⟨fun _=>zE,?_⟩
 ((refine tO 9 ?_;refine dV (bj rfl) ?_))
 refine bf zK ?_;obtain ⟨M,hM⟩:∃ M:cK,M=dH [N,cV (.slice m9 us.length cu) us,cI us]:=⟨_,rfl⟩
 have ho:cB [M] [N,cV (.slice m9 us.length cu) us,cI us]:=by rw [hM];exact cU (M:=[_,_,_]) (L:=[])
 refine wB ?_;apply br
 ·exact zV
 refine ⟨M::R,?_,M,ur,up,uq,m9,cu,us,rfl,hZ,(hN.cM (cH .zero)).cM ho,(bb (.succ .zero)).cM ho,fun y hy=>(dR.ef (.succ (.succ .zero)) y hy).cM ho,rfl⟩;rw [hM];exact cn (rb (A:=N) (B:=cV (.slice m9 us.length cu) us) (C:=cI us) zP zP zP) zE
theorem qL {l:List dw} {n:Nat} (hl:l.length≤256):(ja (l.map cZ) n).length≤16∧∀ a∈ja (l.map cZ) n,a.length=32:=by
 have jN:∀ a∈l.map cZ,a.length=32:=fun a ha=>by
  obtain ⟨y,-,rfl⟩:=aE.1 ha;exact dg _ _
 unfold ja
 split
 ·rename_i h;refine ⟨?_,BB _ n _ true rfl jN⟩;rw [lI _ n _ true rfl zo zo];have:=oe 8 (l.map cZ).length n true (by rw [ab];omega)
  omega
 ·exact ⟨by simp,fun a ha=>by cases ha⟩
def PE (cG:List dw) (x:j7) (r:Nat × Nat):fZ:=.ask r.1 x r.2 x.dd.size (ja ((cG.take x.dd.size).map cZ) r.2)
def mu (cG:List dw) (x:j7):List (Nat × Nat)→List fZ→List fZ
 | [],ee=>ee
 | r::l,ee=>mu cG x l (if ee.length<32 then ee++[PE cG x r] else ee)
theorem BV (cG:List dw) (x:j7) (r:Nat × Nat):∀ (l:List (Nat × Nat)) (ee:List fZ),mu cG x (l++[r]) ee=if (mu cG x l ee).length<32 then mu cG x l ee++[PE cG x r] else mu cG x l ee
 | [],ee=>rfl
 | y::l,ee=>by
  rw [List.cons_append]
  show mu cG x (l++[r]) _=_
  rw [BV cG x r l];rfl
theorem uH (cG:List dw) (x:j7):∀ (l:List (Nat × Nat)) (ee:List fZ),ee.length≤32→(mu cG x l ee).length≤32∧ee.length≤(mu cG x l ee).length
 | [],ee,h=>⟨h,aS _⟩
 | r::l,ee,h=>by
  unfold mu
  split
  ·rename_i h1;obtain ⟨h2,h3⟩:=uH cG x l (ee++[PE cG x r]) (by rw [aa];exact h1);refine ⟨h2,?_⟩;rw [aa] at h3
   omega
  ·exact uH cG x l ee h
theorem Jc {c:di} {cG:List dw} {x:j7} (hx:Ac cG x) (h0:0<cG.length):∀ (l:List (Nat × Nat)) (ee:List fZ),(∀ y∈ee,y.ok c cG)→(∀ r∈l,r.1<c.k∧r.2≤x.dd.size)→∀ y∈mu cG x l ee,y.ok c cG
 | [],ee,h,_=>h
 | r::l,ee,h,hl=>by
  unfold mu;refine Jc hx h0 l _ ?_ fun q hq=>hl q (aU _ hq)
  split
  ·intro y hy;rcases aJ.1 hy with hy|hy
   ·exact h y hy
   ·rw [an.1 hy];have hr:=hl r (List.mem_cons_self ..);exact ⟨h0,hr.1,hx,rfl,hr.2,rfl⟩
  ·exact h
def dc.zx (c:di) (s:dc):dc:={ s with fd:=s.fd.kJ c.retry s.time,n:=s.n+c.k,ee:=mu s.ls.cG s.fd.dX (s.fd.lf s.time) s.ee }
def dc.SQ (c:di) (s:dc):Nat:=(s.zx c).ee.length - s.ee.length
theorem Jd {k n now:Nat} {s:cQ} (h:s.ok k n):∀ r∈s.lf now,r.1<k∧r.2≤s.dX.dd.size:=fun r hr=>by
 unfold cQ.lf at hr
 obtain ⟨w,hw,rfl⟩:=aE.1 hr;obtain ⟨h1,-⟩:=ri now s.ag.length s.ag;have hm:=h1.mem_iff.1 (List.mem_append_left _ hw);obtain ⟨x,hx,rfl⟩:=aE.1 hm;have hk:=(h.fits x hx).2;refine ⟨hk,?_⟩;dsimp only;exact h.kT _ (qC (by rw [h.len];exact hk))
theorem zC {k n now:Nat} {s:cQ} (h:s.ag=[]):s.lf now=[]:=by
 unfold cQ.lf;rw [h];rfl
theorem zD (retry now:Nat) (s:cQ):(s.kJ retry now).cur=s.cur∧(s.kJ retry now).kept=s.kept∧(s.kJ retry now).done=s.done∧(s.kJ retry now).dl=s.dl:=by
 unfold cQ.kJ;obtain ⟨h1,h2,h3,h4,-⟩:=sI retry now (s.lf now) { s with ag:=(nF now s.ag.length s.ag).2 };exact ⟨h1,h2,h3,h4⟩
theorem Di {s t:cQ} (h:s.cur=t.cur):s.dX=t.dX:=by unfold cQ.dX;rw [h]
theorem dc.Nu {c:di} {m:Nat} {s:dc} (h:s.ok c m) (hm:m<250):(s.zx c).ok c (m+1):=by
 obtain ⟨q1,q2,q3,q4⟩:=zD c.retry s.time s.fd;have ht:=h.time;have hn:=h.nb;have hk:=h.xE.k;have hr:=h.xE.retry
 exact { h.next hm with
  fd:=cQ.M8 h.fd hr.2 zo zo zo
  nb:=by show s.n+c.k≤_;omega
  cur:=fun x hx=>h.cur x (by rw [← q1];exact hx)
  idle:=fun hx=>by
   have hx:s.fd.cur=none:=by rw [← q1];exact hx
   have ha:=h.idle hx
   show cQ.ag (s.fd.kJ c.retry s.time)=[]
   unfold cQ.kJ;rw [zC (k:=c.k) (n:=s.n) ha,ha]
   rfl
  kept:=fun g hg=>by
   show g.hO _ (cQ.dX (s.fd.kJ c.retry s.time)).dd
   rw [Di q1];exact h.kept g (by rw [← q2];exact hg)
  done:=fun hx=>by
   show Ac _ (cQ.done (s.fd.kJ c.retry s.time))∧0<(cQ.done (s.fd.kJ c.retry s.time)).dd.size∧ue _ (cQ.done (s.fd.kJ c.retry s.time)).dd (cQ.dl (s.fd.kJ c.retry s.time))
   rw [q3,q4];exact h.done (by rw [← q4];exact hx)
  ee:=fun x hx=>by
   cases hc:s.fd.cur with
   | none =>
    have ha:=h.idle hc;have hx:x∈mu s.ls.cG s.fd.dX (s.fd.lf s.time) s.ee:=hx;rw [zC (k:=c.k) (n:=s.n) ha] at hx
    exact h.ee x hx
   | some y =>
    have hy:=h.cur y hc;have hv:s.fd.dX=y:=by unfold cQ.dX;rw [hc];rfl
    refine Jc (x:=s.fd.dX) (by rw [hv];exact hy.1) (by have:=hy.1.2.2.1;omega) _ s.ee h.ee (Jd h.fd) x hx
  room:=(uH _ _ _ _ h.room).1 }
abbrev vS (i:Nat) (x:WX) (s:eQ):cK:=nE x.g x.d x.k i (cS (i+1)) dQ s
def oC:Nat→Nat→List WX→List eQ→List cK
 | i,0,_::xs,_::ss=>kg (i+1) xs ss
 | i,j+1,x::xs,s::ss=>vS i x s::oC (i+1) j xs ss
 | _,_,_,_=>[]
theorem vT:∀ (i j:Nat) (xs:List WX) (ss:List eQ) (x:WX) (s:eQ),xs[j]?=some x→ss[j]?=some s→cR (kg i xs ss) (vS (i+j) x s) (oC i j xs ss)
 | i,0,y::xs,t::ss,x,s,h1,h2=>by
  simp only [List.getElem?_cons_zero,Option.some.injEq] at h1 h2
  subst h1 h2;exact .zero
 | i,j+1,y::xs,t::ss,x,s,h1,h2=>by
  simp only [List.getElem?_cons_succ] at h1 h2
  have:=vT (i+1) j xs ss x s h1 h2;rw [show i+1+j=i+(j+1) by omega] at this
  exact .succ this
 | _,_,[],_,_,_,h1,_=>by simp at h1
 | _,_,_::_,[],_,_,_,h2=>by simp at h2
theorem BW (x:WX) (s:eQ):∀ (i j:Nat) (xs:List WX) (ss:List eQ),oC i j (xs.set j x) (ss.set j s)=oC i j xs ss
 | i,0,[],[]=>rfl
 | i,0,[],_::_=>rfl
 | i,0,_::_,[]=>rfl
 | i,0,y::xs,t::ss=>rfl
 | i,j+1,[],[]=>rfl
 | i,j+1,[],_::_=>rfl
 | i,j+1,_::_,[]=>rfl
 | i,j+1,y::xs,t::ss=>by
  simp only [List.set_cons_succ,oC];rw [BW x s (i+1) j xs ss]
theorem uI {α:Type}:∀ (l:List α) (j:Nat) (x:α),l[j]?=some x→l.set j x=l
 | [],j,x,h=>by simp at h
 | y::l,0,x,h=>by simp only [List.getElem?_cons_zero,Option.some.injEq] at h;rw [h];rfl
 | y::l,j+1,x,h=>by simp only [List.getElem?_cons_succ] at h;rw [List.set_cons_succ,uI l j x h]
theorem FA {M N R:List cK} {A:cK} (p:cR M A N):cR (M++R) A (N++R):=by
 induction p with
 | zero=>exact .zero
 | succ _ ih=>exact .succ ih
theorem Nv {M N R:List cK} {A:cK} (p:cR M A N):cB (dH M::R) (A::dH N::R) :=
 cn cU (cn (FA p).out (bh dS))
theorem all_push {M N R:List cK} {A:cK} (p:cR M A N):cB (A::dH N::R) (dH M::R) :=
 cn (bh cU) (cn (FA p).back dS)
theorem FB {j:Nat} {xs:List WX} {ss:List eQ} {x:WX} {s:eQ} {R:List cK} (h1:xs[j]?=some x) (h2:ss[j]?=some s):cB (dH (kg 0 xs ss)::R) (vS j x s::dH (oC 0 j xs ss)::R):=by
 have:=vT 0 j xs ss x s h1 h2;rw [aC] at this
 exact Nv this
theorem Dj {j:Nat} {xs:List WX} {ss:List eQ} {x:WX} {s:eQ} {R:List cK} (h1:j<xs.length) (h2:j<ss.length):cB (vS j x s::dH (oC 0 j xs ss)::R) (dH (kg 0 (xs.set j x) (ss.set j s))::R):=by
 have:=vT 0 j (xs.set j x) (ss.set j s) x s (by rw [List.getElem?_set_self h1]) (by rw [List.getElem?_set_self h2]);rw [aC,BW] at this
 exact all_push this
def Wl:eQ:=⟨[],0,gZ,false⟩
def eQ.Nw (w:eQ) (x:jg) (n:Nat):Int:=if x.size<w.c.size then 32 else if x.size=w.c.size then 0 else if n=w.c.size then 0 else 31
theorem Je (c:jg):c=⟨c.size,c.root⟩:=rfl
theorem lM.same {l:List dw} {c d:jg} (h1:lM l c) (h2:lM l d) (h:c.size=d.size):c=d:=by
 rw [Je c,Je d,h1.2,h2.2,h]
theorem lM.empty (l:List dw):lM l Sn:=⟨aH _,by
 show sh []=eg ((l.take 0).map cZ)
 rw [List.take_zero];exact k6.symm⟩
theorem K7 {l:List dw} {w:eQ} {x:jg} {n:Nat} {ts:List eo} (h1:lM l w.c) (h2:lM l x) (hl:l.length≤256) (hn:n≤x.size) (ht:ts.map (·.2)=ja ((l.take x.size).map cZ) n):w.js x n x.size ts=w.Nw x n:=by
 unfold eQ.js eQ.Nw
 split
 ·rfl
 rename_i h3
 split
 ·rename_i h4;rw [aI (h2.same h1 h4)]
 ·rename_i h4
  by_cases h5:n=w.c.size
  ·rw [aI h5,aI];refine ⟨h5,rfl,?_⟩;have hle:x.size≤l.length:=h2.1;have hg:=xF (ts:=(l.take x.size).map fun b=>((nY:Value),cZ b)) (out:=ts) (m:=n) (by rw [List.map_map];exact ht) (by rw [ab,aF];omega) (fun a ha=>by obtain ⟨y,-,rfl⟩:=aE.1 ha;exact dg _ _) (by rw [ab,aF];omega);rw [ab,aF,Nat.min_eq_left hle] at hg
   rw [h1.2,h2.2]
   have e1:(((l.take x.size).map fun b=>((nY:Value),cZ b)).take n).map (·.2)=(l.take w.c.size).map cZ:=by
    rw [← List.map_take,List.map_map,List.take_take,Nat.min_eq_left hn,h5];rfl
   have e2:((l.take x.size).map fun b=>((nY:Value),cZ b)).map (·.2)=(l.take x.size).map cZ:=by rw [List.map_map];rfl
   rw [e1,e2] at hg
   exact hg
  ·rw [aB h5,aB (fun q=>h5 q.1)]
def dc.fY (s:dc) (j:Nat):eQ:=s.ws.getD j Wl
def dc.xr (s:dc) (j:Nat) (x:jg) (n:Nat):Int:=if (s.fY j).Nw x n≠0 then (s.fY j).Nw x n else if (((s.fY j).grow x).cos (cS (j+1)) j).2=true then 0 else 23
def dc.jf (s:dc) (j:Nat) (x:jg) (n:Nat):eQ:=if (s.fY j).Nw x n≠0 then s.fY j else (((s.fY j).grow x).cos (cS (j+1)) j).1
def dc.PF (s:dc) (j:Nat) (x:jg) (n:Nat):fZ:=if s.xr j x n=0 then .iW j (s.jf j x n).dE else .no j (s.jf j x n).c.size
def dc.send (s:dc) (x:fZ):dc:={ s with ee:=if s.ee.length<32 then s.ee++[x] else s.ee }
def dc.asked (s:dc) (j:Nat) (x:jg) (n:Nat):dc:={ s with ws:=s.ws.set j (s.jf j x n) }.send (s.PF j x n)
theorem Nx {s:dc} {j n:Nat} {x:j7} {ts:List eo} (h:Ac s.ls.cG x) (h1:lM s.ls.cG (s.fY j).c) (hl:s.ls.cG.length≤256) (hn:n≤x.dd.size) (ht:ts.map (·.2)=ja ((s.ls.cG.take x.dd.size).map cZ) n) :
 (s.fY j).y6 (cS (j+1)) dQ j x n x.dd.size ts=s.xr j x.dd n∧(s.fY j).xl (cS (j+1)) dQ j x n x.dd.size ts=s.jf j x.dd n:=by
 unfold eQ.y6 eQ.xl dc.xr dc.jf;rw [K7 h1 h.2.2 hl hn ht,aB (show ¬ ¬ x.hO dQ from fun q=>q h.1)];exact ⟨rfl,aB (fun q=>q h.1)⟩
theorem Wm (seed:dw) (j:Nat) (w:eQ):((w.cos seed j).1).c=w.c∧((w.cos seed j).1).recs=w.recs:=by
 unfold eQ.cos
 split
 ·exact ⟨rfl,rfl⟩
 ·split<;>exact ⟨rfl,rfl⟩
theorem SR {seed:dw} {j:Nat} {w:eQ} (h:w.ok):((w.cos seed j).1).ok:=by
 unfold eQ.cos
 split
 ·exact h
 ·split
  ·rename_i hk;exact { h with keys:=hk,fits:=(j6 hk).fits }
  ·exact h
theorem PG {seed:dw} {j:Nat} {w:eQ} (h:w.some=true→w.dE.fY=j∧w.dE.sig.right) (h2:((w.cos seed j).1).some=true):((w.cos seed j).1).dE.fY=j∧((w.cos seed j).1).dE.sig.right:=by
 revert h2
 unfold eQ.cos
 split
 ·exact h
 ·split
  ·rename_i hk;exact fun _=>⟨rfl,j6 hk⟩
  ·exact h
theorem Ny {seed:dw} {j:Nat} {w:eQ} (h:(w.cos seed j).2=true):((w.cos seed j).1).some=true:=by
 revert h
 unfold eQ.cos
 split
 ·rename_i h1;exact fun _=>h1
 ·split
  ·exact fun _=>rfl
  ·intro h;cases h
theorem Nz (w:eQ) (c:jg):(w.grow c).recs.length≤w.recs.length+1:=by
 unfold eQ.grow
 split
 ·show (w.recs++[c]).length≤_;rw [aa];exact aS _
 ·exact Nat.le_succ _
theorem NA {l:List dw} {w:eQ} {x:jg} (h1:lM l w.c) (h2:lM l x):lM l (w.grow x).c:=by
 unfold eQ.grow
 split
 ·rw [eQ.MZ];exact h2
 ·exact h1
theorem PH {l:List eQ} {j:Nat} (h:j<l.length):l[j]?=some (l.getD j Wl):=by
 rw [List.getD,ae h];rfl
theorem dc.ok.fY {c:di} {m:Nat} {s:dc} (h:s.ok c m) {j:Nat} (hj:j<c.k):(s.fY j).ok∧(s.fY j).recs.length≤m∧lM s.ls.cG (s.fY j).c∧((s.fY j).some=true→(s.fY j).dE.fY=j∧(s.fY j).dE.sig.right)∧s.ws[j]?=Option.some (s.fY j):=by
 have hg:=PH (l:=s.ws) (j:=j) (by rw [h.wl];exact hj);have hm:=az hg;exact ⟨(h.ws _ hm).1,(h.ws _ hm).2.1,(h.ws _ hm).2.2,h.iW j _ hg,hg⟩
theorem Jf {c:di} {m:Nat} {s:dc} (h:s.ok c m) {j:Nat} (hj:j<c.k) {x:j7} {n:Nat} (hx:Ac s.ls.cG x):(s.jf j x.dd n).ok∧(s.jf j x.dd n).recs.length≤m+1∧lM s.ls.cG (s.jf j x.dd n).c∧((s.jf j x.dd n).some=true→(s.jf j x.dd n).dE.fY=j∧(s.jf j x.dd n).dE.sig.right)∧(s.xr j x.dd n=0→(s.jf j x.dd n).some=true):=by
 obtain ⟨h1,h2,h3,h4,-⟩:=h.fY hj;unfold dc.jf dc.xr
 split
 ·rename_i h5;exact ⟨h1,Nat.le_succ_of_le h2,h3,h4,fun q=>absurd q h5⟩
 ·have hg:=eQ.xF h1 hx.1.1;have hl:=Nz (s.fY j) x.dd;obtain ⟨c1,c2⟩:=Wm (cS (j+1)) j ((s.fY j).grow x.dd)
  have hy:((s.fY j).grow x.dd).some=true→((s.fY j).grow x.dd).dE.fY=j∧((s.fY j).grow x.dd).dE.sig.right:=by
   unfold eQ.grow
   split
   ·intro q;cases q
   ·exact h4
  refine ⟨SR hg,by rw [c2];omega,by rw [c1];exact NA h3 hx.2.2,PG hy,fun q=>?_⟩
  split at q
  ·rename_i h6;exact Ny h6
  ·cases q
end Go.Proofs
