/- Part 9 of a proof of this: TopKeys returns true for any arguments; nothing of the old memory is turned. No condition. -/
import Derived.Test.YtccekbdjebohcaaGreatK08
set_option linter.unusedVariables false
set_option linter.unusedSimpArgs false
namespace Go.Proofs
attribute [local irreducible] Bs.cD Bs.Do Bs.O Bs.W Bs.Fin Bs.A Bs.Ct Bs.cE Bs.Rd Bs.Sat Bs.cK Bs.Ob Bs.dE Bs.View Bs.cz Bs.Ex Bs.dI Bs.Pu Bs.eY Bs.dN Bs.dZ
open Go.Bs
open Tryz
variable (R:List cJ) (e:World)
theorem H4 {n:Nat} (h0:0<n) (h:n<256):IntKind.u8.wrap ((n:Int) - 1)=((n - 1:Nat):Int):=by
 rw [wrap_u8 zo zo];omega
theorem BP {l:List du} {i:Nat} (h:i<l.length):(l.drop i).flatten=l[i]'h++(l.drop (i+1)).flatten:=by
 rw [List.drop_eq_getElem_cons h,List.flatten_cons]
theorem PB {l:List kO} {i:Nat} (h:i<l.length):lJ (l.drop i)=eU (l[i]'h)++lJ (l.drop (i+1)):=by
 unfold lJ;rw [List.drop_eq_getElem_cons h,List.map_cons,List.flatten_cons]
theorem uF (v:Value) (b:wR) (hv:db R v (fT b)) (hw:b.wf) :
 Ct prog 133 #[v] e R (fun v' L'=>∃ (M:cJ) (um up ur ua uq uc:Value),v'=.tuple #[.agg (sE b um up ur ua uq uc).toArray,.int .i64 0]∧rQ [M] um up ur ua uq uc b∧L'=M::R):=by
 have nK:=pj hw;have SC:=hw.fi;have h1:=hw.idx;have h2:=hw.size;have h3:=hw.DH;have h4:=hw.fE;have DF:=fa hw.jN;have tH:=iO hw.dc hw.sig;have CF:=rh hw.sigs;have Kw:fT b=enc b.fi++(be b.idx 4++(be b.size 4++(UInt8.ofNat b.path.length::(b.path.flatten++(hZ b.kP++(UInt8.ofNat b.eH.length::lJ b.eH)))))):=rfl;refine a7 (cn hv) fun o1=>?_
 refine bH (args:=[_]) func133 rfl ntmps133 results133 rfl ?_
 (repeat (refine wA ?_;intros))
 rename_i g2;refine aZ rfl rfl (jv _ e v (fT b) (hv.cL zE) zo) ?_;rintro _ _ ⟨gr,rfl,rfl⟩;rw [Kw];refine wB ?_;have el:=iy b.fi;have TU:(enc b.fi++(be b.idx 4++(be b.size 4++(UInt8.ofNat b.path.length::(b.path.flatten++(hZ b.kP++(UInt8.ofNat b.eH.length::lJ b.eH))))))).length≤140737488355328:=by rw [← Kw];omega
 refine aZ rfl rfl (IE _ e gr b.fi _ 65535 SC zo TU) ?_;rintro _ _ ⟨LJ,cm,rfl,rfl⟩
 (repeat (refine wA ?_;intros))
 rename_i g5;refine aZ rfl rfl (Ct.at zP (tD _ e gr b.idx _ zo)) ?_;rintro _ _ ⟨rfl,rfl⟩;refine wB ?_;refine aZ rfl rfl (Ct.at zP (tD _ e gr b.size _ zo)) ?_;rintro _ _ ⟨rfl,rfl⟩;refine wB ?_;refine aZ rfl rfl (Ct.at zP (vo _ e gr _ _)) ?_;rintro _ _ ⟨rfl,rfl⟩;rw [← qp (n:=b.path.length) zo];refine wB ?_;obtain ⟨tl,oH⟩:∃ tl:du,tl=hZ b.kP++(UInt8.ofNat b.eH.length::lJ b.eH):=⟨_,rfl⟩
 have afA:tl.length≤600000:=by rw [oH];simp only [aa,aN,tH,CF];omega
 rw [← oH];refine bq (ι:=Nat × List ej × Option Addr × Nat) (fun j=>[(2,pt g2),(3,.int .i64 0),(4,pt gr),(5,pt g5),(6,.int .u8 ((b.path.length - j.1:Nat):Int))]) (fun j=>Reader gr ⟨(b.path.drop j.1).flatten++tl,false⟩::cK g5 [.slice LJ b.fi.length cm,.int .i64 (b.idx:Int),.int .i64 (b.size:Int),.slice j.2.2.1 j.2.1.length j.2.2.2,.int .i64 0,nY,.int .i64 0,nY,nY,nY] rC (0,0)::cV (.slice j.2.2.1 j.2.1.length j.2.2.2) j.2.1::cH j.2.1::cS (.slice LJ b.fi.length cm) b.fi::cK g2 pM rC (0,0)::R) (fun j=>j.1≤b.path.length∧j.2.1.map (·.2)=b.path.take j.1) (fun j=>b.path.length - j.1) (0,[],none,0) ⟨aH _,rfl⟩ zS (cj (dK) (cj (dv ez 1) zE)) ?_;rintro ⟨j,us,m7,cu⟩ ⟨hj,gF⟩;dsimp only at hj gF ⊢
 have LG:us.length=j:=by have:=congrArg List.length gF;rw [ae,aF] at this;omega
 by_cases cO:j<b.path.length
 ·have hpd:=BP cO;have jN:=hw.jN _ (aA cO);have ft:b.path.take (j+1)=b.path.take j++[b.path[j]'cO]:=aD cO
  have hle:((b.path.drop (j+1)).flatten).length≤600:=by
   have:=fa (l:=b.path.drop (j+1)) (n:=32) (fun a ha=>hw.jN a (aV ha));rw [this,aO];omega
  rw [hpd,aM]
  generalize b.path[j]'cO=x at *
  have Fm:=H4 (n:=b.path.length - j) zo zo;rw [show b.path.length - j - 1=b.path.length - (j+1) by omega] at Fm
  refine wB ?_;refine aZ rfl rfl (vi _ e gr _) ?_;rintro _ _ ⟨rfl,rfl⟩;refine wB ?_;refine bk (id:=7) [7,8,9] (cK g5 [.slice LJ b.fi.length cm,.int .i64 (b.idx:Int),.int .i64 (b.size:Int),.slice m7 us.length cu,.int .i64 0,nY,.int .i64 0,nY,nY,nY] rC (0,0)::R) mixed ?_
  (refine tF 0 ?_;refine tF 1 ?_;refine tL 2 ?_;refine tM 3 ?_)
  refine tO 4 ?_;refine bg rfl rfl (Ct.at zP (ya _ e gr 32 x _ jN (by simp only [aa];omega))) ?_;rintro _ _ ⟨qq,cx,rfl,rfl⟩;refine ⟨fun _=>zE,?_⟩;refine tO 5 ?_;refine bE (n:=1) (cs:=[.slice qq x.length cx]) rfl rfl rfl rfl zQ rfl (fun gb=>⟨fun _=>zE,?_⟩);refine tO 6 ?_;refine bo rfl rfl rfl (show cR _ (cV (.slice m7 us.length cu) us) _ from zP) (bO (n:=1) (c:=1) zP rfl zl) rfl rfl zO zm zo fun ef k1 _=>⟨fun _=>zE,?_⟩
  refine tO 7 ?_;refine dV (ba rfl) ?_;refine tO 8 ?_;refine dV (ba rfl) ?_;refine tO 9 ?_;refine tf ?_;refine ⟨zN,?_⟩;refine bf zK ?_;refine wB ?_;rw [Fm];refine bi (j+1,us++[(.slice qq x.length cx,x)],ef,k1) ⟨cO,by dsimp only;rw [ft,ah,gF];rfl⟩ zd zS ?_;simp only [cV,aa,aj,ah,List.map_cons,List.map_nil];exact cj (cj (show cz _ (cS (.slice qq x.length cx) x::cH us::dE ez 1 (.slice ef (us.length+1) k1) (us.length+1) (us.map (·.1)++[.slice qq x.length cx])::Reader gr ⟨(b.path.drop (j+1)).flatten++tl,false⟩::cK g5 [.slice LJ b.fi.length cm,.int .i64 (b.idx:Int),.int .i64 (b.size:Int),.slice ef (us.length+1) k1,.int .i64 0,nY,.int .i64 0,nY,nY,nY] rC (0,0)::cS (.slice LJ b.fi.length cm) b.fi::cK g2 pM rC (0,0)::R) from zE) jo) zE
 rw [aG zo] at gF
 rw [List.drop_eq_nil_of_le zo,List.flatten_nil,List.nil_append,show b.path.length - j=0 by omega,oH];refine wB ?_;refine aZ rfl rfl (Bl _ e gr b.kP _ hw.dc hw.sig (by simp only [aN,CF];omega)) ?_;rintro _ _ ⟨N,ur,ua,uq,rfl,hN,rfl⟩;refine bm (cn (hN.root.cL (cG zP))) fun o8=>?_
 refine bm (hN.sig.cL (cG zP)).parts.one fun o9=>?_
 refine bm (hN.sig.cL (cG zP)).path.one fun Ng=>?_
 (repeat (refine wA ?_;intros))
 refine aZ rfl rfl (Ct.at zP (vo _ e gr _ _)) ?_;rintro _ _ ⟨rfl,rfl⟩;rw [← qp (n:=b.eH.length) zo];refine wB ?_;refine bq (ι:=Nat × List jm × cJ × Option Addr × Nat) (fun j=>[(2,pt g2),(3,.int .i64 0),(4,pt gr),(5,pt g5),(8,.bool true),(9,.int .u8 ((b.eH.length - j.1:Nat):Int))]) (fun j=>Reader gr ⟨lJ (b.eH.drop j.1),false⟩::cK g5 (sE ⟨b.fi,b.idx,b.size,b.path,b.kP,[]⟩ (.slice LJ b.fi.length cm) (.slice m7 us.length cu) ur ua uq (.slice j.2.2.2.1 j.2.1.length j.2.2.2.2)) rC (0,0)::fU (.slice j.2.2.2.1 j.2.1.length j.2.2.2.2) j.2.1::j.2.2.1::N::cV (.slice m7 us.length cu) us::cH us::cS (.slice LJ b.fi.length cm) b.fi::cK g2 pM rC (0,0)::R) (fun j=>j.1≤b.eH.length∧j.2.1.map (·.1)=b.eH.take j.1∧∀ t∈j.2.1,jm.ok [j.2.2.1] t) (fun j=>b.eH.length - j.1) (0,[],cH [],none,0) ⟨aH _,rfl,fun t ht=>by cases ht⟩ zS (cj (dK) (cj (dv nG 4) zE)) ?_;rintro ⟨k,gs,Mx,DI,cg⟩ ⟨hk,vL,J9⟩;dsimp only at hk vL J9 ⊢
 have V5:gs.length=k:=by have:=congrArg List.length vL;rw [ae,aF] at this;omega
 by_cases lB:k<b.eH.length
 ·have tg:=PB lB;have hgw:=hw.ew _ (aA lB);have Sq:=hw.sigs _ (aA lB);have ft:b.eH.take (k+1)=b.eH.take k++[b.eH[k]'lB]:=aD lB
  have hle:(lJ (b.eH.drop (k+1))).length≤600000:=by
   rw [rh (fun g hg=>hw.sigs g (aV hg)),aO];omega
  rw [tg]
  generalize b.eH[k]'lB=x at *
  have Fm:=H4 (n:=b.eH.length - k) zo zo;rw [show b.eH.length - k - 1=b.eH.length - (k+1) by omega] at Fm
  (repeat (refine wA ?_;intros))
  refine aZ rfl rfl (Ct.at zP (Bo _ e gr x _ hgw Sq zo)) ?_;rintro _ _ ⟨N2,wp,wq,rfl,nr,rfl⟩;refine bm (nr.cL (cG zP)).parts.one fun o13=>?_
  refine bm (nr.cL (cG zP)).path.one fun o14=>?_
  (repeat (refine wA ?_;intros))
  refine bC (bo rfl rfl rfl (show cR _ (fU (.slice DI gs.length cg) gs) _ from zP) (bO (n:=4) (c:=1) zP rfl zl) rfl rfl zO zm zo fun ef k1 _=>?_)
  refine wB ?_;rw [Fm];have eT:cz [dI [Mx,N2]] [Mx]:=cj (cT (M:=[_,_]) (L:=[])) (bh bF);have iI:cz [dI [Mx,N2]] [N2]:=cj (cT (M:=[_,_]) (L:=[])) (cz.drop (bh bF));refine bi (k+1,gs++[(x,wp,wq)],dI [Mx,N2],ef,k1) ⟨lB,by dsimp only;rw [ft,ah,vL];rfl,fun t ht=>?_⟩ zd zS ?_
  ·rcases aJ.1 ht with ht|ht
   ·exact (J9 t ht).cL eT
   ·rw [an.1 ht];exact ⟨nr.cL iI,by dsimp only;omega⟩
  ·simp only [fU,aa,aj,aW,aU,List.flatMap_nil,aK];exact cj (ep (A:=Mx) (B:=N2) zP zP) zE
 rw [aG zo] at vL
 rw [List.drop_eq_nil_of_le zo,show b.eH.length - k=0 by omega,show lJ []=[] from rfl];obtain ⟨M,hM⟩:∃ M:cJ,M=dI [cS (.slice LJ b.fi.length cm) b.fi,cV (.slice m7 us.length cu) us,cH us,N,fU (.slice DI gs.length cg) gs,Mx]:=⟨_,rfl⟩
 have ho:cz [M] [cS (.slice LJ b.fi.length cm) b.fi,cV (.slice m7 us.length cu) us,cH us,N,fU (.slice DI gs.length cg) gs,Mx]:=by rw [hM];exact cT (M:=[_,_,_,_,_,_]) (L:=[])
 have tI:rQ [M] (.slice LJ b.fi.length cm) (.slice m7 us.length cu) ur ua uq (.slice DI gs.length cg) b :=
  ⟨(bb .zero).cL ho,mO.cL ⟨us,gF,bb (.succ .zero),dQ.dY (.succ (.succ .zero))⟩ ho,(hN.cL (cG zP)).cL ho,oW.cL ⟨gs,vL,bb zP,fun t ht=>(J9 t ht).cL (cG zP)⟩ ho⟩
 have O2:jF us=true:=by
  unfold jF;rw [decide_eq_true_iff];refine ⟨by omega,fun a ha=>hw.jN _ ?_⟩;rw [← gF];exact aE.2 ⟨a,ha,rfl⟩
 refine wB ?_;refine aZ rfl rfl (yc _ e gr []) ?_;rintro _ _ ⟨rfl,rfl⟩;rw [ay rfl];refine wB ?_;refine aZ rfl rfl (mi _ e b.idx) ?_;rintro _ _ ⟨rfl,rfl⟩;rw [ay h1];refine wB ?_;refine aZ rfl rfl (mi _ e b.size) ?_;rintro _ _ ⟨rfl,rfl⟩;rw [ay h2];refine wB ?_;refine aZ rfl rfl (nh _ e (.slice m7 us.length cu) us (bb zP) (dQ.dY (show cR _ (cH us) _ from zP))) ?_;rintro _ _ ⟨rfl,rfl⟩;rw [O2];refine wB ?_;apply br
 ·exact zV
 refine ⟨M::R,cj (show cz _ (cS (.slice LJ b.fi.length cm) b.fi::cV (.slice m7 us.length cu) us::cH us::N::fU (.slice DI gs.length cg) gs::Mx::R) from zE) (by rw [hM];exact Ni),M,.slice LJ b.fi.length cm,.slice m7 us.length cu,ur,ua,uq,.slice DI gs.length cg,rfl,tI,rfl⟩
structure m8 where
 recs:List du
def abq:DD:=⟨[],0,[],[]⟩
def C8 (l:List du):DD:=match l.getLast? with|some b=>dB b|none=>abq
def m8.m (s:m8):DD:=C8 s.recs
theorem BQ (l:List du) (b:du):C8 (l++[b])=dB b:=by simp [C8]
structure m8.ok (s:m8) (name:du):Prop where
 size:s.recs.length≤1000
 short:∀ b∈s.recs,b.length≤200
 oh:∀ b∈s.recs,jk b
 name:∀ b∈s.recs,(dB b).name=name
 At:((s.recs.map fun b=>(dB b).ii)).Pairwise (·<·)
abbrev SL:TypeId:=173
structure vO where
 gj:Nat
 vl:Value
 vw:Value
 vf:Value
 vn:Value
structure vO.ok (a:vO) (M:cJ) (name:du) (p:jG) (s:m8):Prop where
 wV:j7 [M] a.vl a.vw p
 fw:db [M] a.vf s.m.fw
 notes:db [M] a.vn s.m.notes
 st:s.ok name
 pr:p.right
abbrev vO.cells (a:vO) (name:du) (p:jG) (s:m8):List Value:=[pt a.gj,.string (str name)]++lE p a.vl a.vw++tQ s.m a.vf a.vn++[.int .i64 (s.recs.length:Int)]
abbrev qH (g d:Nat) (name:du) (p:jG) (s:m8) (a:vO) (M:cJ) (R:List cJ):List cJ :=
 cK g (a.cells name p s) SL (0,0)::M::jd a.gj d s.recs.length::de d (dx (eV s.recs))::R
def Nn (g d:Nat) (name:du) (p:jG) (s:m8) (a:vO) (M:cJ):cJ:=dI (Pu (a.ok M name p s)::qH g d name p s a M [])
def kh (g d:Nat) (name:du) (p:jG) (s:m8):cJ:=Ex fun a=>Ex fun M=>Nn g d name p s a M
theorem I7 {g d:Nat} {name:du} {p:jG} {s:m8} {R:List cJ} {P:Program} {f:FuncId} {args:Array Value} {e:World} {Post:Value→List cJ→Prop}
 (h:∀ (a:vO) (M:cJ),a.ok M name p s→Ct P f args e (qH g d name p s a M R) Post):Ct P f args e (kh g d name p s::R) Post :=
 Ct.ex .zero fun a=>Ct.ex .zero fun M=>Ct.cL (a7 (p:=a.ok M name p s) (fun w x=>(jR x).1) fun hp=>(h a M hp).cL (cz.drop aX)) (cT (M:=Pu (a.ok M name p s)::qH g d name p s a M []) (L:=R))
theorem vP {g d:Nat} {name:du} {p:jG} {s:m8} {a:vO} {M:cJ} {R:List cJ} (h:a.ok M name p s):cz (qH g d name p s a M R) (kh g d name p s::R) :=
 cj (na h) (cj (dR (M:=Pu (a.ok M name p s)::qH g d name p s a M []) (L:=R)) (cj (fu (f:=fun M=>Nn g d name p s a M) M) (fu (f:=fun a=>Ex fun M=>Nn g d name p s a M) a)))
theorem rS (g d:Nat) (name:du) (p:jG) (s:m8) :
 Ct prog 29 #[pt g] e (kh g d name p s::R) (fun v' L'=>v'=.int .u32 (s.m.ii:Int)∧L'=kh g d name p s::R):=by
 refine I7 fun a M ha=>?_
 refine a8 (args:=[_]) func29 rfl ntmps29 results29 rfl ?_;refine wB ?_;exact aY (kh g d name p s::R) rfl (vP ha) ⟨rfl,rfl⟩
def m8.mj (name:du) (p:jG) (s:m8) (b:wR):Int:=if mg p b≠0 then mg p b else if (dB b.fi).name≠name then 22 else if (dB b.fi).ii≤s.m.ii then 32 else 0
def m8.ie (name:du) (p:jG) (s:m8) (b:wR):m8:=if s.mj name p b=0 then ⟨s.recs++[b.fi]⟩ else s
theorem I8 {p:jG} {b:wR} (h:mg p b=0):jk b.fi:=by
 unfold mg at h
 by_cases hm:jk b.fi
 ·exact hm
 ·rw [aI hm] at h;cases h
theorem m8.xG {name:du} {p:jG} {s:m8} {b:wR} (h:s.ok name) (hb:b.fi.length≤200) (hs:s.recs.length<1000) (h0:s.mj name p b=0):m8.ok ⟨s.recs++[b.fi]⟩ name:=by
 have hc:mg p b=0:=by
  unfold m8.mj at h0
  by_cases hc:mg p b≠0
  ·rw [aI hc] at h0;exact absurd h0 hc
  ·exact Decidable.not_not.1 hc
 unfold m8.mj at h0
 rw [aB (fun q=>q hc)] at h0
 by_cases hn:(dB b.fi).name≠name
 ·rw [aI hn] at h0;cases h0
 rw [aB hn] at h0
 by_cases hv:(dB b.fi).ii≤s.m.ii
 ·rw [aI hv] at h0;cases h0
 refine ⟨by simp;omega,fun x hx=>?_,fun x hx=>?_,fun x hx=>?_,?_⟩
 ·rcases aJ.1 hx with hx|hx
  ·exact h.short x hx
  ·rw [an.1 hx];exact hb
 ·rcases aJ.1 hx with hx|hx
  ·exact h.oh x hx
  ·rw [an.1 hx];exact I8 hc
 ·rcases aJ.1 hx with hx|hx
  ·exact h.name x hx
  ·rw [an.1 hx];exact Decidable.not_not.1 hn
 ·rw [ah];refine List.pairwise_append.2 ⟨h.At,by simp,fun x hx y hy=>?_⟩;obtain ⟨z,hz,rfl⟩:=aE.1 hx;rw [List.map_cons,List.map_nil,an] at hy
  subst hy;refine Nat.lt_of_le_of_lt ?_ (Nat.lt_of_not_le hv);unfold m8.m C8
  cases hl:s.recs.getLast? with
  | none=>rw [List.getLast?_eq_none_iff] at hl;rw [hl] at hz;cases hz
  | some q =>
   obtain ⟨A,hA⟩:=List.getLast?_eq_some_iff.1 hl;have hr:=h.At;rw [hA,ah] at hr
   rw [hA] at hz
   rcases aJ.1 hz with hz|hz
   ·exact Nat.le_of_lt ((List.pairwise_append.1 hr).2.2 _ (aE.2 ⟨z,hz,rfl⟩) _ (aE.2 ⟨q,an.2 rfl,rfl⟩))
   ·rw [an.1 hz];exact aS _
theorem Fo (g d:Nat) (name:du) (p:jG) (s:m8) (v:Value) (b:wR) (hv:db R v (fT b)) (hw:b.wf) (O6:b.fi.length≤200) (hs:s.recs.length<1000) :
 Ct prog 52 #[pt g,v] e (kh g d name p s::R) (fun v' L'=>v'=.int .i64 (s.mj name p b)∧L'=kh g d name p (s.ie name p b)::R):=by
 refine I7 fun a M ha=>?_
 refine a7 (cn (hv.cL (show cz (qH g d name p s a M R) R from zE))) fun o1=>?_
 refine a7 (cn (ha.wV.log.cL (show cz (qH g d name p s a M R) [M] from cG zP))) fun o2=>?_
 refine a7 (ha.wV.ew.cL (show cz (qH g d name p s a M R) [M] from cG zP)).one fun o3=>?_
 refine a7 (cn (ha.fw.cL (show cz (qH g d name p s a M R) [M] from cG zP))) fun o4=>?_
 refine a7 (cn (ha.notes.cL (show cz (qH g d name p s a M R) [M] from cG zP))) fun o5=>?_
 refine a8 (args:=[_,_]) func52 rfl ntmps52 results52 rfl ?_;refine wB ?_;refine aZ rfl rfl (uF _ e v b (hv.cL zE) hw) ?_;rintro _ _ ⟨N,um,up,ur,ua,uq,uc,rfl,hN,rfl⟩;refine bm (cn (hN.fi.cL (cG zP))) fun q1=>?_
 refine bm (hN.path.cL (cG zP)).one fun q2=>?_
 refine bm (cn (hN.kP.root.cL (cG zP))) fun q3=>?_
 refine bm (hN.kP.sig.cL (cG zP)).parts.one fun q4=>?_
 refine bm (hN.kP.sig.cL (cG zP)).path.one fun q5=>?_
 refine bm (hN.gs.cL (cG zP)).one fun q6=>?_
 (repeat (refine wA ?_;intros))
 rename_i g5;refine bk (id:=4) [6] (cK g5 (sE b um up ur ua uq uc) rC (0,0)::N::qH g d name p s a M R) mixed ?_
 (refine tM 0 ?_;refine tN 1 ?_;refine tF 2 ?_;refine tk 3 _ rfl (cD.df rfl zP zI zX) ?_;refine tJ 4 ?_)
 refine tO 5 ?_;refine bg rfl rfl (Fb _ e a.vl a.vw um up ur ua uq uc p b (ha.wV.cL (cG zP)) ha.pr (hN.cL (cG zP)) hw) ?_;rintro _ _ ⟨rfl,rfl⟩;refine ⟨fun _=>zE,?_⟩
 by_cases hc:mg p b=0
 rotate_left
 ·have hE:s.mj name p b=mg p b:=by unfold m8.mj;rw [aI hc]
  have hS:s.ie name p b=s:=by unfold m8.ie;rw [hE,aB hc]
  rw [hE,hS]
  generalize mg p b=E at *
  ((refine tO 6 ?_;refine dV (bj rfl) ?_))
  refine bf zK ?_;refine wB ?_;exact aY (kh g d name p s::R) rfl (cj (show cz _ (qH g d name p s a M R) from zE) (vP ha)) ⟨rfl,rfl⟩
 rw [hc]
 ((refine tO 6 ?_;refine dV (bj rfl) ?_))
 refine bf zK ?_;refine wB ?_;have hmo:=I8 hc;have Pj:s.mj name p b=if (dB b.fi).name≠name then 22 else if (dB b.fi).ii≤s.m.ii then 32 else 0:=by unfold m8.mj;rw [aB (fun q=>q hc)]
 refine aZ rfl rfl (kA _ e um b.fi (hN.fi.cL (cG zP)) zo) ?_;rintro v1 _ ⟨mD,-⟩;obtain ⟨Mm,vf,vn,rfl,hf,hn,rfl⟩:=mD hmo;clear mD;refine bm (cn (hf.cL (cG zP))) fun q7=>?_
 refine bm (cn (hn.cL (cG zP))) fun q8=>?_
 (repeat (refine wA ?_;intros))
 rename_i g8
 by_cases O7:(dB b.fi).name=name
 rotate_left
 ·have hE:s.mj name p b=22:=by rw [Pj,aI O7]
  have hS:s.ie name p b=s:=by unfold m8.ie;rw [hE,aB (by decide)]
  rw [hE,hS];refine bz (id:=8) [] mixed ?_
  (refine tF 0 ?_;refine tL 1 ?_;refine tM 2 ?_;refine tN 3 ?_;refine tF 4 ?_;refine tL 5 ?_;refine tk 6 (.bool true) rfl (cD.iQ (cD.xN rfl rfl) zy) ?_;refine tA 7 ?_)
  refine bf zK ?_;refine wB ?_;exact aY (kh g d name p s::R) rfl (cj (show cz _ (qH g d name p s a M R) from zE) (vP ha)) ⟨rfl,rfl⟩
 subst O7;rw [aB (fun q=>q rfl)] at Pj
 refine bz (id:=8) [] mixed ?_
 (refine tF 0 ?_;refine tL 1 ?_;refine tM 2 ?_;refine tN 3 ?_;refine tF 4 ?_;refine tL 5 ?_;refine tk 6 (.bool false) rfl (cD.no (cD.xN rfl rfl) zn) ?_;refine tA 7 ?_)
 refine bf zK ?_
 by_cases hvr:(dB b.fi).ii≤s.m.ii
 ·have hE:s.mj (dB b.fi).name p b=32:=by rw [Pj,aI hvr]
  have hS:s.ie (dB b.fi).name p b=s:=by unfold m8.ie;rw [hE,aB (by decide)]
  rw [hE,hS];refine wB ?_;refine bz (id:=10) [] mixed ?_
  (refine tF 0 ?_;refine tL 1 ?_;refine tM 2 ?_;refine tN 3 ?_;refine tF 4 ?_;refine tF 5 ?_;refine tL 6 ?_;refine tk 7 (.bool true) rfl (cD.iQ (cD.leq rfl rfl) zy) ?_;refine tA 8 ?_)
  refine bf zK ?_;refine wB ?_;exact aY (kh g d (dB b.fi).name p s::R) rfl (cj (show cz _ (qH g d (dB b.fi).name p s a M R) from zE) (vP ha)) ⟨rfl,rfl⟩
 have hE:s.mj (dB b.fi).name p b=0:=by rw [Pj,aB hvr]
 have hS:s.ie (dB b.fi).name p b=⟨s.recs++[b.fi]⟩:=by unfold m8.ie;rw [aI hE]
 have er:=m8.xG ha.st O6 hs hE;rw [hE,hS];have xj:=kD (l:=s.recs) (n:=200) ha.st.short;obtain ⟨p1,p2,p3⟩:=add_plain (b:=eV s.recs) (m:=b.fi) (sy:=(eV s.recs).length) zo;refine wB ?_;refine bz (id:=10) [] mixed ?_
 (refine tF 0 ?_;refine tL 1 ?_;refine tM 2 ?_;refine tN 3 ?_;refine tF 4 ?_;refine tF 5 ?_;refine tL 6 ?_;refine tk 7 (.bool false) rfl (cD.no (cD.leq rfl rfl) zn) ?_;refine tA 8 ?_)
 refine bf zK ?_;refine wB ?_;refine bk (id:=12) [7] (cK g5 (sE b um up ur ua uq uc) rC (0,0)::N::cK g (a.cells (dB b.fi).name p s) SL (0,0)::R) mixed ?_
 (refine tM 0 ?_;refine tN 1 ?_;refine tF 2 ?_;refine tL 3 ?_;refine tF 4 ?_;refine tL 5 ?_)
 have MW:=fun L:List cJ=>fun Sk:db L um b.fi=>nZ L e a.gj d s.recs.length (nk (eV s.recs) (eV s.recs).length) b.fi um (uj zo (aS _)) Sk zo zo
 rw [p1,p2,p3] at MW
 refine tO 6 ?_;refine bg rfl rfl (Ct.AR zP zP (MW _ (hN.fi.cL (cG zP)))) ?_;rintro _ _ ⟨rfl,rfl⟩;refine ⟨fun _=>zE,?_⟩
 ((refine tO 7 ?_;refine dV (bj rfl) ?_))
 refine bf zK ?_;refine wB ?_;have Cf:m8.m ⟨s.recs++[b.fi]⟩=dB b.fi:=BQ _ _;have eT:cz [dI [M,Mm]] [M]:=cj (cT (M:=[_,_]) (L:=[])) (bh bF);have iI:cz [dI [M,Mm]] [Mm]:=cj (cT (M:=[_,_]) (L:=[])) (cz.drop (bh bF))
 have LH:vO.ok { a with vf:=vf,vn:=vn } (dI [M,Mm]) (dB b.fi).name p ⟨s.recs++[b.fi]⟩ :=
  ⟨ha.wV.cL eT,by rw [Cf];exact hf.cL iI,by rw [Cf];exact hn.cL iI,er,ha.pr⟩
 refine aY (kh g d (dB b.fi).name p ⟨s.recs++[b.fi]⟩::R) rfl (cj ?_ (vP LH)) ⟨rfl,rfl⟩;simp only [qH,vO.cells,Cf,n8,aa,aj];exact cj (ep (A:=M) (B:=Mm) zP zP) zE
theorem H5 (d:Nat) (name:du) (vl vw:Value) (p:jG) (s:m8) (hp:j7 R vl vw p) (sW:p.right) (O7:pI name) (hs:s.ok name) :
 Ct prog 47 #[pt d,.string (str name),.agg (lE p vl vw).toArray] e (de d (dx (eV s.recs))::R) (fun v' L'=>∃ g,v'=.tuple #[pt g,.int .i64 0]∧L'=kh g d name p s::R):=by
 have xj:=kD (l:=s.recs) (n:=200) hs.short;have Hw:∀ m∈s.recs,m.length≤65535:=fun m hm=>by have:=hs.short m hm;omega
 have EM:=n9 s.recs Hw;have ln:=hs.size;have mU:cz (de d (dx (eV s.recs))::R) R:=zE;refine a7 (cn (hp.log.cL mU)) fun o2=>?_
 refine a7 (hp.ew.cL mU).one fun o3=>?_
 have BL:=O7.2.1;have hmr:DD.right ⟨name,1,List.replicate 32 0,[]⟩:=⟨O7,Nat.one_pos,rfl,aH _⟩
 refine a8 (args:=[_,_,_]) func47 rfl ntmps47 results47 rfl ?_
 (repeat (refine wA ?_;intros))
 rename_i g5;refine bC (Do.makeSlice (c:=32) rfl rfl rfl rfl zl (by decide) fun gz=>?_)
 have hz:List.replicate 32 (Value.int .u8 0)=(List.replicate 32 (0:UInt8)).map u8:=rfl;rw [hz]
 (repeat (refine wA ?_;intros))
 refine aZ rfl rfl (wE _ e (.slice (some ⟨gz,0,none⟩) 32 32) nY ⟨name,1,List.replicate 32 0,[]⟩ (bb .zero) (cE.nil _ _) zd) ?_;rintro _ _ ⟨rfl,rfl⟩;rw [ay hmr];refine wB ?_;refine aZ rfl rfl (j8 _ e vl vw p (hp.cL zE) sW) ?_;rintro _ _ ⟨rfl,rfl⟩;refine wB ?_;refine aZ rfl rfl (Ct.at zP (nj _ e d (eV s.recs) zo)) ?_;rintro _ _ (⟨h1,-⟩|⟨-,gj,ux,cr,ts,rfl,fy,rfl⟩)
 ·rw [EM] at h1;cases h1
 rw [EM] at fy ⊢
 rw [show (eV s.recs).take (eV s.recs).length=eV s.recs from List.take_length];dsimp only at fy
 have oH:ts.length=s.recs.length:=by have:=congrArg List.length fy;rwa [ae] at this
 refine wB ?_;refine aZ rfl rfl (CW _ e vl vw p (hp.cL zE) (by have:=sW.log;omega) (by have:=sW.fE;omega) (fun b hb=>by have:=sW.kR b hb;omega)) ?_;rintro _ _ ⟨Mp,ul,uw,rfl,Gg,rfl⟩;refine bm (cn (Gg.log.cL (cG zP))) fun o4=>?_
 refine bm (Gg.ew.cL (cG zP)).one fun o5=>?_
 (repeat (refine wA ?_;intros))
 rename_i gu;refine bq (ι:=Nat × cJ × Value × Value) (fun i=>[(1,.string (str name)),(11,pt gu),(41,.slice ux ts.length cr),(42,.int .i64 (ts.length:Int)),(43,.int .i64 (i.1:Int))]) (fun i=>cK gu (vO.cells ⟨gj,ul,uw,i.2.2.1,i.2.2.2⟩ name p ⟨s.recs.take i.1⟩) SL (0,0)::i.2.1::Mp::cH ts::cV (.slice ux ts.length cr) ts::jd gj d ts.length::de d (dx (eV s.recs))::R) (fun i=>i.1≤ts.length∧db [i.2.1] i.2.2.1 (C8 (s.recs.take i.1)).fw∧db [i.2.1] i.2.2.2 (C8 (s.recs.take i.1)).notes) (fun i=>ts.length - i.1) (0,cH [],nY,nY) ⟨aH _,cE.nil _ _,cE.nil _ _⟩ zS (cj dK zE) ?_;rintro ⟨i,Mx,vf,vn⟩ ⟨hi,hf,hn⟩;dsimp only at hi hf hn ⊢
 by_cases cO:i<ts.length
 rotate_left
 ·rw [aG zo] at hf hn ⊢
  have eT:cz [dI [Mp,Mx]] [Mp]:=cj (cT (M:=[_,_]) (L:=[])) (bh bF);have iI:cz [dI [Mp,Mx]] [Mx]:=cj (cT (M:=[_,_]) (L:=[])) (cz.drop (bh bF));have j1:vO.ok ⟨gj,ul,uw,vf,vn⟩ (dI [Mp,Mx]) name p s:=⟨Gg.cL eT,hf.cL iI,hn.cL iI,hs,sW⟩
  refine wB ?_;refine aY (kh gu d name p s::R) rfl (cj ?_ (vP j1)) ⟨gu,rfl,rfl⟩;dsimp only [qH];rw [← oH];exact cj (ep (A:=Mp) (B:=Mx) zP zP) zE
 have pc:i<s.recs.length:=by omega
 have jt:(ts[i]'cO).2=s.recs[i]'pc:=by
  have:=congrArg (fun l=>l[i]?) fy;simp only [aL,ab cO,ab pc,Option.map_some,Option.some.injEq] at this
  exact this
 have ft:s.recs.take (i+1)=s.recs.take i++[s.recs[i]'pc]:=aD pc;have EO:=hs.oh _ (aA pc);have hsi:=hs.short _ (aA pc);have U7:=hs.name _ (aA pc)
 have hvi:(C8 (s.recs.take i)).ii<(dB (s.recs[i]'pc)).ii:=by
  have hr:=hs.At.sublist ((List.take_sublist (i+1) s.recs).map fun b=>(dB b).ii);rw [ft,ah] at hr
  unfold C8
  cases hl:(s.recs.take i).getLast? with
  | none=>exact EO.2.2.2.1
  | some q=>exact (List.pairwise_append.1 hr).2.2 _ (aE.2 ⟨q,List.mem_of_getLast? hl,rfl⟩) _ (by simp)
 have Cf:C8 (s.recs.take (i+1))=dB (s.recs[i]'pc):=by rw [ft,BQ]
 refine W.cB ((bb (show cR _ (cV (.slice ux ts.length cr) ts) _ from zP)).shape zo) ?_;rintro ⟨⟨lM,c',lU,wH,IX,Ap,uW⟩,_⟩
 cases lU
 simp only [maxLen] at IX
 rcases uW with uW|⟨gr,or',rfl⟩
 ·omega
 have jw:∀ L R',cR L (cV (.slice (some ⟨gr,or',none⟩) ts.length cr) ts) R'→Rd L ⟨gr,or'+i,none⟩ (ts[i]'cO).1:=fun L R' p=>(bb p).elem (by rw [aL,ab cO];rfl)
 have sf:∀ L R',cR L (cH ts) R'→db L (ts[i]'cO).1 (ts[i]'cO).2:=fun L R' p=>dQ.dY p _ (aA cO)
 generalize s.recs[i]'pc=n at *
 generalize ts[i]'cO=y at *
 obtain ⟨yv,b⟩:=y;dsimp only at jw sf jt
 subst jt;refine W.cB (cn (sf _ _ zP)) fun oy=>?_
 refine wB ?_;refine bV rfl (jw _ _ zP) rfl ?_;refine wB ?_;refine aZ rfl rfl (kA _ e yv b (sf _ _ zP) zo) ?_;rintro v1 _ ⟨hd,-⟩;obtain ⟨Md,wf,wn,rfl,QP,AX,rfl⟩:=hd EO;refine bm (cn (QP.cL (cG zP))) fun o6=>?_
 refine bm (cn (AX.cL (cG zP))) fun o7=>?_
 subst U7;have Q3:(s.recs.take i).length=i:=by rw [aF];omega
 have VQ:(⟨s.recs.take i⟩:m8).recs.length=i:=Q3;have afD:(m8.m ⟨s.recs.take i⟩).ii<(dB b).ii:=hvi
 (repeat (refine wA ?_;intros))
 refine bz (id:=11) [] mixed ?_
 (refine tM 0 ?_;refine tk 1 (.bool false) rfl (cD.no (cD.neq rfl rfl) zn) ?_;refine tM 2 ?_;refine dt 3 _ rfl (ba rfl) ?_;refine dt 4 _ rfl (bp rfl zR) ?_;refine dt 5 _ rfl (bu rfl) ?_;refine dt 6 (.bool false) rfl (cD.no (cD.xN rfl rfl) zn) ?_;refine tk 7 _ rfl (bI rfl rfl) ?_;refine tM 8 ?_;refine dt 9 _ rfl (ba rfl) ?_;refine dt 10 _ rfl (bp rfl zR) ?_;refine dt 11 _ rfl (bu rfl) ?_;refine dt 12 _ rfl (bn rfl) ?_;refine dt 13 _ rfl (ba rfl) ?_;refine dt 14 _ rfl (ba rfl) ?_;refine dt 15 _ rfl (bp rfl zR) ?_;refine dt 16 (.bool false) rfl (cD.no (cD.leq rfl rfl) zn) ?_;refine tk 17 _ rfl (bI rfl rfl) ?_)
 refine bf zK ?_;refine wB ?_;have AW:((⟨s.recs.take (i+1)⟩:m8).recs.length:Int)=((s.recs.take i).length:Int)+1:=by rw [ft];simp
 have SM:m8.m ⟨s.recs.take (i+1)⟩=dB b:=Cf;refine bi (i+1,Md,wf,wn) ⟨cO,by dsimp only;rw [Cf];exact QP,by dsimp only;rw [Cf];exact AX⟩ zd zS ?_;dsimp only [vO.cells];rw [SM,AW];exact zE
structure H6 where
 cF:List du
 last:Option jV
def H6.dC (s:H6):jV:=s.last.getD vI
structure H6.ok (s:H6):Prop where
 size:s.cF.length≤1000
 short:∀ b∈s.cF,b.length≤1000
 last:∀ x,s.last=some x→x.fits
abbrev KY:TypeId:=181
structure xo where
 vl:Value
 ai:Option Addr
 ci:Nat
 ts:List ej
 al:Option Addr
 cl:Nat
 us:List ej
 ur:Value
 up:Value
 uq:Value
structure xo.ok (a:xo) (M:cJ) (log:du) (s:H6):Prop where
 log:db [M] a.vl log
 cF:a.ts.map (·.2)=s.cF
 yO:dQ [M] a.ts
 leaves:a.us.map (·.2)=s.cF.map cY
 Ao:dQ [M] a.us
 last:fj [M] a.ur a.up a.uq s.dC
 st:s.ok
abbrev xo.cells (a:xo) (s:H6):List Value:=[a.vl,.slice a.ai a.ts.length a.ci,.slice a.al a.us.length a.cl,nY]++dS s.dC a.ur a.up a.uq++[.bool s.last.isSome]
abbrev xp (g:Nat) (s:H6) (a:xo) (M:cJ) (R:List cJ):List cJ :=
 cK g (a.cells s) KY (0,0)::cV (.slice a.ai a.ts.length a.ci) a.ts::cV (.slice a.al a.us.length a.cl) a.us::M::R
def No (g:Nat) (log:du) (s:H6) (a:xo) (M:cJ):cJ:=dI (Pu (a.ok M log s)::xp g s a M [])
def jO (g:Nat) (log:du) (s:H6):cJ:=Ex fun a=>Ex fun M=>No g log s a M
theorem C9 {g:Nat} {log:du} {s:H6} {R:List cJ} {P:Program} {f:FuncId} {args:Array Value} {e:World} {Post:Value→List cJ→Prop}
 (h:∀ (a:xo) (M:cJ),a.ok M log s→Ct P f args e (xp g s a M R) Post):Ct P f args e (jO g log s::R) Post :=
 Ct.ex .zero fun a=>Ct.ex .zero fun M=>Ct.cL (a7 (p:=a.ok M log s) (fun w x=>(jR x).1) fun hp=>(h a M hp).cL (cz.drop aX)) (cT (M:=Pu (a.ok M log s)::xp g s a M []) (L:=R))
theorem Da {g:Nat} {log:du} {s:H6} {a:xo} {M:cJ} {R:List cJ} (h:a.ok M log s):cz (xp g s a M R) (jO g log s::R) :=
 cj (na h) (cj (dR (M:=Pu (a.ok M log s)::xp g s a M []) (L:=R)) (cj (fu (f:=fun M=>No g log s a M) M) (fu (f:=fun a=>Ex fun M=>No g log s a M) a)))
theorem sJ (g:Nat) (log:du) (s:H6) :
 Ct prog 41 #[pt g] e (jO g log s::R) (fun v' L'=>v'=.int .i64 (s.cF.length:Int)∧L'=jO g log s::R):=by
 refine C9 fun a M ha=>?_
 have hl:a.ts.length=s.cF.length:=by have:=congrArg List.length ha.cF;rwa [ae] at this
 refine a8 (args:=[_]) func41 rfl ntmps41 results41 rfl ?_;refine wB ?_;exact aY (jO g log s::R) rfl (Da ha) ⟨by rw [← hl];rfl,rfl⟩
theorem KZ (v:Value) (log:du) (hv:db R v log) (hl:log.length=32) :
 Ct prog 37 #[v] e R (fun v' L'=>∃ g,v'=.tuple #[pt g,.int .i64 0]∧L'=jO g log ⟨[],none⟩::R):=by
 refine a7 (cE.shape hv zo) ?_;rintro ⟨⟨ad,c,rfl,-,-,-,-⟩,_⟩;refine a8 (args:=[_]) func37 rfl ntmps37 results37 rfl ?_;refine wB ?_;refine aZ rfl rfl (dw _ e _ log (hv.cL zE) zo) ?_;rintro _ _ ⟨ef,c1,rfl,rfl⟩
 (repeat (refine wA ?_;intros))
 rename_i g
 have j1:xo.ok ⟨.slice ef log.length c1,none,0,[],none,0,[],nY,nY,nY⟩ (cS (.slice ef log.length c1) log) log ⟨[],none⟩ :=
  ⟨bb .zero,rfl,fun x hx=>absurd hx aP,rfl,fun x hx=>absurd hx aP,pu _,⟨aH _,fun b hb=>absurd hb aP,fun x hx=>nomatch hx⟩⟩
 refine aY (jO g log ⟨[],none⟩::R) rfl (cj (cj (dv ez 1) (cj (dv ez 1) ?_)) (Da j1)) ⟨g,rfl,rfl⟩;dsimp only [xp,xo.cells];exact zE
theorem Fp (v:Value) (l:List ej) (h:cE R 1 v l.length (l.map (·.1))) (h1:dQ R l) (hl:l.length≤100000) :
 Ct prog 100 #[v] e R (fun v' L'=>∃ ad c,v'=.slice ad l.length c∧L'=cV (.slice ad l.length c) l::R):=by
 refine a7 (BG h1) fun ho=>?_
 have ho2:∀ c∈l.map (·.1),c.oneCell'=true:=fun c hc=>by obtain ⟨m,hm,rfl⟩:=aE.1 hc;exact ho m hm
 refine a7 (h.shape zo) ?_;rintro ⟨⟨ad,cap,rfl,h3,h4,h5,h6⟩,_⟩;refine a8 (args:=[_]) func100 rfl ntmps100 results100 rfl ?_
 cases ad with
 | none =>
  have u7:l=[]:=by
   have:=h5 rfl;exact List.eq_nil_of_length_eq_zero zo
  subst u7;refine wB ?_;exact aY _ rfl (dv _ _) ⟨_,_,rfl,rfl⟩
 | some a =>
  (repeat (refine wA ?_;intros))
  refine O.fo (hH (n:=1) (k:=0) (cap:=0) zo zl rfl) ?_;refine bC (bo rfl rfl rfl .zero h rfl rfl ho2 zm zo fun lM c' lU=>?_)
  refine wB ?_;refine aY _ rfl ?_ ⟨lM,c',by simp [AS],rfl⟩;simp only [aC];exact aX
abbrev I9:TypeId:=87
theorem Fq (g:Nat) (log:du) (s:H6) (vr vp vq v:Value) (x:jV) (ls:List ej) (hx:fj R vr vp vq x) (KV:x.fits) (hv:x.ii log) (Be:cE R 1 v ls.length (ls.map (·.1))) (RV:dQ R ls) (hs:s.cF.length<x.dc.size) (hl:ls.length=x.dc.size - s.cF.length) (hb:∀ y∈ls,y.2.length≤1000) (rI:x.dc.root=ea ((s.cF++ls.map (·.2)).map cY)) :
 Ct prog 39 #[pt g,.agg (dS x vr vp vq).toArray,v] e (jO g log s::R) (fun v' L'=>v'=.int .i64 0∧L'=jO g log ⟨s.cF++ls.map (·.2),some x⟩::R):=by
 refine C9 fun a M ha=>?_
 have oH:a.ts.length=s.cF.length:=by have:=congrArg List.length ha.cF;rwa [ae] at this
 have hu:a.us.length=s.cF.length:=by have:=congrArg List.length ha.leaves;rwa [ae,ae] at this
 have ln:=ha.st.size;have hxs:=KV.1.1;have mU:cz (xp g s a M R) R:=zE;refine a7 (cn (hx.root.cL mU)) fun o5=>?_
 refine a7 (hx.sig.cL mU).parts.one fun o6=>?_
 refine a7 (hx.sig.cL mU).path.one fun o7=>?_
 refine a7 (BG (fun y hy=>(RV y hy).cL mU)) fun o8=>?_
 refine a7 (cn (ha.log.cL (show cz (xp g s a M R) [M] from cG zP))) fun o9=>?_
 refine a7 ((Be.cL mU).shape zo) ?_;rintro ⟨⟨wu,cv,rfl,hv3,R5,QO,IJ⟩,_⟩;simp only [maxLen] at R5
 have jN:∀ y∈a.us,y.2.length=32:=fun y hy=>by
  have:y.2∈s.cF.map cY:=by rw [← ha.leaves];exact aE.2 ⟨y,hy,rfl⟩
  obtain ⟨b,hb,GR⟩:=aE.1 this;rw [← GR];exact dg _ _
 refine a8 (args:=[_,_,_]) func39 rfl ntmps39 results39 rfl ?_
 (repeat' first|refine Zb ?_|apply Zc|apply Zd|apply Ze|apply Zf|refine Zh ?_|refine Yg fun _=>?_|refine Yh fun _=>?_|apply YB|refine YR ?_|(apply O.df;exact rfl;exact zP;(first|(simp only [aC,Nat.add_zero,Nat.reduceAdd,List.drop_succ_cons,List.drop_zero,List.take_succ_cons,List.take_zero];done)|(simp only [aC,Nat.add_zero,Nat.reduceAdd,List.drop_succ_cons,List.drop_zero,List.take_succ_cons,List.take_zero];exact rfl));exact rfl;exact rfl))
 rename_i g4 g7;refine bz (id:=2) [] mixed ?_
 (refine tM 0 ?_;refine tN 1 ?_;refine tF 2 ?_;refine tL 3 ?_;refine tJ 4 ?_)
 refine tO 5 ?_;refine bg rfl rfl (kz _ e a.vl vr vp vq log x (ha.log.cL (cG zP)) (hx.cL zE) KV.1) ?_;rintro _ _ ⟨rfl,rfl⟩;refine ⟨fun _=>zE,A.fS zE ?_⟩;rw [ay hv]
 (refine tk 6 _ rfl (cD.jZ rfl) ?_;refine tA 7 ?_)
 refine bf zK ?_;refine wB ?_;refine bz (id:=4) [] mixed ?_
 (refine tF 0 ?_;refine tL 1 ?_;refine tM 2 ?_;refine tN 3 ?_;refine tF 4 ?_;refine tL 5 ?_;refine tk 6 _ rfl (bM rfl) ?_;refine tk 7 (.bool false) rfl (cD.no (cD.leq rfl rfl) zn) ?_;refine tM 8 ?_;refine bc 9 rfl rfl zK zE rfl ?_;refine bc 10 rfl rfl zK zE rfl ?_;refine bc 11 rfl rfl zK zE rfl ?_;refine tk 12 _ rfl (bI rfl rfl) ?_;refine tA 13 ?_)
 refine bf zK ?_;refine wB ?_;refine bz (id:=6) [] mixed ?_
 (refine tF 0 ?_;refine tL 1 ?_;refine tM 2 ?_;refine tN 3 ?_;refine tF 4 ?_;refine tL 5 ?_;refine tk 6 _ rfl (bM rfl) ?_;refine tk 7 (.bool false) rfl (cD.no (cD.leq rfl rfl) zn) ?_;refine tM 8 ?_;refine bc 9 rfl rfl zK zE rfl ?_;refine bc 10 rfl rfl zK zE rfl ?_;refine bc 11 rfl rfl zK zE rfl ?_;refine bc 12 rfl rfl zK zE rfl ?_;refine bc 13 rfl rfl zK zE rfl ?_;refine bc 14 rfl rfl zK zE rfl ?_;refine bc 15 rfl rfl zK zE rfl ?_;refine bc 17 rfl rfl zK zE rfl ?_;refine bc 18 rfl rfl zK zE rfl ?_)
 refine bc 16 rfl rfl zK zE rfl ?_;refine bc 19 rfl rfl zK zE rfl ?_
 (refine bc 20 rfl rfl zK zE rfl ?_;refine tk 21 _ rfl (bI rfl rfl) ?_;refine tA 22 ?_)
 refine bf zK ?_;refine wB ?_;refine bz (id:=9) [] mixed ?_
 (refine tF 0 ?_;refine tL 1 ?_;refine tM 2 ?_;refine tN 3 ?_;refine tF 4 ?_;refine tL 5 ?_;refine tk 6 _ rfl (bM rfl) ?_;refine tk 7 (.bool false) rfl (cD.no (cD.leq rfl rfl) zn) ?_;refine tA 8 ?_)
 refine bf zK ?_;refine wB ?_;refine bz (id:=11) [] mixed ?_
 (refine tM 0 ?_;refine tk 1 _ rfl (bM rfl) ?_;refine tF 2 ?_;refine tL 3 ?_;refine tM 4 ?_;refine tN 5 ?_;refine tF 6 ?_;refine tL 7 ?_;refine tk 8 _ rfl (bM rfl) ?_;refine tk 9 _ rfl (cD.jz rfl rfl zo) ?_;refine tk 10 (.bool false) rfl (cD.no (cD.neq rfl rfl) zn) ?_;refine tA 11 ?_)
 refine bf zK ?_;refine wB ?_;refine aZ rfl rfl (Fp _ e (.slice a.al a.us.length a.cl) a.us (bb zP) (fun y hy=>(ha.Ao y hy).cL (cG zP)) zo) ?_;rintro _ _ ⟨ad8,c8,rfl,rfl⟩;refine wB ?_;refine bq (ι:=Nat × List ej × Option Addr × Nat) (fun j=>[(0,pt g),(2,.slice wu ls.length cv),(4,pt g4),(7,pt g7),(8,.slice j.2.2.1 (a.us++j.2.1).length j.2.2.2),(98,.slice wu ls.length cv),(99,.int .i64 (ls.length:Int)),(100,.int .i64 (j.1:Int))]) (fun j=>cV (.slice j.2.2.1 (a.us++j.2.1).length j.2.2.2) (a.us++j.2.1)::cH j.2.1::cK g7 (iS x.dc vr) 83 (0,0)::cK g4 (dS x vr vp vq) I9 (0,0)::cK g [a.vl,.slice a.ai a.ts.length a.ci,.slice a.al a.us.length a.cl,nY,.int .i64 (s.dC.dc.size:Int),a.ur,.int .i64 (s.dC.sig.idx:Int),a.up,a.uq,.bool s.last.isSome] KY (0,0)::cV (.slice a.ai a.ts.length a.ci) a.ts::cV (.slice a.al a.us.length a.cl) a.us::M::R) (fun j=>j.1≤ls.length∧j.2.1.map (·.2)=((ls.take j.1).map (·.2)).map cY) (fun j=>ls.length - j.1) (0,[],ad8,c8) ⟨aH _,rfl⟩ (by rw [aK];exact zS) (by rw [aK];exact cj dK zE) ?_;rintro ⟨j,fs,Uj,cf⟩ ⟨hj,BF⟩;dsimp only at hj BF ⊢
 have DF:fs.length=j:=by have:=congrArg List.length BF;rw [ae,ae,ae,aF] at this;omega
 by_cases cO:j<ls.length
 ·rcases IJ with IJ|⟨gg,og,rfl⟩
  ·omega
  have hr:Rd R ⟨gg,og+j,none⟩ (ls[j]'cO).1:=Be.elem (by rw [aL,ab cO];rfl);have IG:=RV _ (aA cO);have O6:=hb _ (aA cO);have ft:(ls.take (j+1)).map (·.2)=(ls.take j).map (·.2)++[(ls[j]'cO).2]:=by rw [aD cO,ah];rfl
  generalize ls[j]'cO=y at *
  obtain ⟨yv,b⟩:=y;dsimp only at hr IG O6 ft
  refine W.cB (cn (IG.cL zE)) fun o3=>?_
  have LG:(a.us++fs).length=a.us.length+j:=by rw [aa,DF]
  (repeat' first|(refine bV rfl (hr.cL zE) rfl ?_)|refine Za ?_|refine Zb ?_|apply Zc|apply Zd|apply Ze|apply Zf|refine ZA ?_|refine Yw ?_|refine Yz ?_|apply YB|apply YC)
  refine aZ rfl rfl (qU _ e yv b (IG.cL zE) zo) ?_;rintro _ _ ⟨qq,cx,rfl,rfl⟩
  (repeat (refine wA ?_;intros))
  refine bC (bo rfl rfl rfl (show cR _ (cV (.slice Uj (a.us++fs).length cf) (a.us++fs)) _ from zP) (bO (n:=1) (c:=1) zP rfl zl) rfl rfl zO zm zo fun ef k1 _=>?_)
  refine wB ?_;have e1:a.us++(fs++[(.slice qq (cY b).length cx,cY b)])=(a.us++fs)++[(.slice qq (cY b).length cx,cY b)]:=by rw [aM]
  have e2:((a.us++fs)++[(Value.slice qq (cY b).length cx,cY b)]).length=(a.us++fs).length+1:=by rw [aa];rfl
  refine bi (j+1,fs++[(.slice qq (cY b).length cx,cY b)],ef,k1) ⟨cO,by dsimp only;rw [ft,ah,ah,BF];rfl⟩ zd ?_ ?_
  ·dsimp only;rw [e1,e2];exact zS
  ·dsimp only;rw [e1];simp only [cV,e2,ah (l₁:=a.us++fs),List.map_cons,List.map_nil];exact cj (cj (show cz _ (cS (.slice qq (cY b).length cx) (cY b)::cH fs::dE ez 1 (.slice ef ((a.us++fs).length+1) k1) ((a.us++fs).length+1) ((a.us++fs).map (·.1)++[.slice qq (cY b).length cx])::cK g7 (iS x.dc vr) 83 (0,0)::cK g4 (dS x vr vp vq) I9 (0,0)::cK g [a.vl,.slice a.ai a.ts.length a.ci,.slice a.al a.us.length a.cl,nY,.int .i64 (s.dC.dc.size:Int),a.ur,.int .i64 (s.dC.sig.idx:Int),a.up,a.uq,.bool s.last.isSome] KY (0,0)::cV (.slice a.ai a.ts.length a.ci) a.ts::cV (.slice a.al a.us.length a.cl) a.us::M::R) from zE) jo) zE
 rw [aG zo] at BF
 have Np:(a.us++fs).map (·.2)=(s.cF++ls.map (·.2)).map cY:=by rw [ah,ah,ha.leaves,BF]
 have abu:ea ((a.us++fs).map (·.2))=x.dc.root:=by rw [rI,Np]
 have Wk:∀ L R',cR L (cH fs) R'→cz L [M]→dQ L (a.us++fs):=fun L R' pl hm y hy=>by
  rcases aJ.1 hy with hy|hy
  ·exact (ha.Ao y hy).cL hm
  ·exact dQ.dY pl y hy
 have abv:∀ y∈a.us++fs,y.2.length≤1000000:=fun y hy=>by
  have:y.2∈(a.us++fs).map (·.2):=aE.2 ⟨y,hy,rfl⟩;rw [Np] at this
  obtain ⟨b,hb,GR⟩:=aE.1 this;rw [← GR,show (cY b).length=32 from dg _ _];decide
 have LG:(a.us++fs).length≤2000:=by rw [aa];omega
 refine wB ?_;refine bz (id:=19) [] mixed ?_
 (refine tM 0 ?_;refine tF 2 ?_;refine tL 3 ?_)
 refine tO 1 ?_;refine bg rfl rfl (j4 _ _ e (.slice Uj (a.us++fs).length cf) (a.us++fs) rfl (bb zP) (Wk _ _ zP (cG zP)) abv zo) ?_;rintro _ _ ⟨ux,kr,rfl,rfl⟩;refine ⟨fun _=>zE,A.fS zE ?_⟩;rw [abu];refine tO 4 ?_;refine bg rfl rfl (sC _ e _ vr x.dc.root x.dc.root (bb zP) (hx.root.cL zE)) ?_;rintro _ _ ⟨rfl,rfl⟩;refine ⟨fun _=>zE,A.fS zE ?_⟩;rw [ay rfl]
 (refine tk 5 _ rfl (cD.jZ rfl) ?_)
 refine bf zK ?_;refine wB ?_;refine bq (ι:=Nat × List ej × Option Addr × Nat) (fun j=>[(0,pt g),(4,pt g4),(8,.slice Uj (a.us++fs).length cf),(116,.slice wu ls.length cv),(117,.int .i64 (ls.length:Int)),(118,.int .i64 (j.1:Int))]) (fun j=>cK g [a.vl,.slice j.2.2.1 (a.ts++j.2.1).length j.2.2.2,.slice a.al a.us.length a.cl,nY,.int .i64 (s.dC.dc.size:Int),a.ur,.int .i64 (s.dC.sig.idx:Int),a.up,a.uq,.bool s.last.isSome] KY (0,0)::cV (.slice j.2.2.1 (a.ts++j.2.1).length j.2.2.2) (a.ts++j.2.1)::cH j.2.1::cH fs::cV (.slice Uj (a.us++fs).length cf) (a.us++fs)::cK g4 (dS x vr vp vq) I9 (0,0)::M::R) (fun j=>j.1≤ls.length∧j.2.1.map (·.2)=(ls.take j.1).map (·.2)) (fun j=>ls.length - j.1) (0,[],a.ai,a.ci) ⟨aH _,rfl⟩ zS (by rw [aK];exact cj dK zE) ?_;rintro ⟨j2,gs,DI,cg⟩ ⟨Gb,vL⟩;dsimp only at Gb vL ⊢
 have CF:gs.length=j2:=by have:=congrArg List.length vL;rw [ae,ae,aF] at this;omega
 by_cases lB:j2<ls.length
 ·rcases IJ with IJ|⟨gg,og,rfl⟩
  ·omega
  have hr:Rd R ⟨gg,og+j2,none⟩ (ls[j2]'lB).1:=Be.elem (by rw [aL,ab lB];rfl);have IG:=RV _ (aA lB);have O6:=hb _ (aA lB);have ft:(ls.take (j2+1)).map (·.2)=(ls.take j2).map (·.2)++[(ls[j2]'lB).2]:=by rw [aD lB,ah];rfl
  generalize ls[j2]'lB=y at *
  obtain ⟨yv,b⟩:=y;dsimp only at hr IG O6 ft
  refine W.cB (cn (IG.cL zE)) fun o3=>?_
  have afE:(a.ts++gs).length=a.ts.length+j2:=by rw [aa,CF]
  (repeat' first|(refine bV rfl (hr.cL zE) rfl ?_)|refine Zb ?_|apply Zc|apply Zd|apply Ze|apply Zf|refine ZA ?_|refine Yw ?_|refine Yz ?_|apply YB|apply YC)
  refine bk (id:=24) [9,10,11] (cK g [a.vl,.slice DI (a.ts++gs).length cg,.slice a.al a.us.length a.cl,nY,.int .i64 (s.dC.dc.size:Int),a.ur,.int .i64 (s.dC.sig.idx:Int),a.up,a.uq,.bool s.last.isSome] KY (0,0)::R) mixed ?_
  (refine tM 0 ?_;refine tM 1 ?_;refine tN 2 ?_;refine tF 3 ?_;refine tL 4 ?_;refine tM 5 ?_)
  refine tO 6 ?_;refine bg rfl rfl (dw _ e yv b (IG.cL zE) zo) ?_;rintro _ _ ⟨qq,cx,rfl,rfl⟩;refine ⟨fun _=>zE,?_⟩;refine tO 7 ?_;refine bE (n:=1) (cs:=[.slice qq b.length cx]) rfl rfl rfl rfl zQ rfl (fun gb=>⟨fun _=>zE,?_⟩);refine tO 8 ?_;refine bo rfl rfl rfl (show cR _ (cV (.slice DI (a.ts++gs).length cg) (a.ts++gs)) _ from zP) (bO (n:=1) (c:=1) zP rfl zl) rfl rfl zO zm zo fun ef k1 _=>⟨fun _=>zE,?_⟩
  refine tO 9 ?_;refine dV (bn rfl) ?_;refine tO 10 ?_;refine dV (ba rfl) ?_;refine tO 11 ?_;refine tf ?_;refine ⟨zN,?_⟩;refine bf zK ?_;refine wB ?_;have e1:a.ts++(gs++[(.slice qq b.length cx,b)])=(a.ts++gs)++[(.slice qq b.length cx,b)]:=by rw [aM]
  have e2:((a.ts++gs)++[(Value.slice qq b.length cx,b)]).length=(a.ts++gs).length+1:=by rw [aa];rfl
  refine bi (j2+1,gs++[(.slice qq b.length cx,b)],ef,k1) ⟨lB,by dsimp only;rw [ft,ah,vL];rfl⟩ zd zS ?_;dsimp only;rw [e1];simp only [cV,e2,ah (l₁:=a.ts++gs),List.map_cons,List.map_nil];exact cj (cj (show cz _ (cS (.slice qq b.length cx) b::cH gs::cK g [a.vl,.slice ef ((a.ts++gs).length+1) k1,.slice a.al a.us.length a.cl,nY,.int .i64 (s.dC.dc.size:Int),a.ur,.int .i64 (s.dC.sig.idx:Int),a.up,a.uq,.bool s.last.isSome] KY (0,0)::dE ez 1 (.slice ef ((a.ts++gs).length+1) k1) ((a.ts++gs).length+1) ((a.ts++gs).map (·.1)++[.slice qq b.length cx])::cH fs::cV (.slice Uj (a.us++fs).length cf) (a.us++fs)::cK g4 (dS x vr vp vq) I9 (0,0)::M::R) from zE) jo) zE
 rw [aG zo] at vL
 refine wB ?_;refine aZ rfl rfl (gQ _ e vr vp vq x (hx.cL zE) KV.2.fits) ?_;rintro _ _ ⟨N,ur,up,uq,rfl,hN,rfl⟩;refine bm (cn (hN.root.cL (cG zP))) fun Ng=>?_
 refine bm (hN.sig.cL (cG zP)).parts.one fun V6=>?_
 refine bm (hN.sig.cL (cG zP)).path.one fun XI=>?_
 refine wB ?_;have T8:cz [dI [M,N,cH fs,cH gs]] [M,N,cH fs,cH gs]:=cT (M:=[_,_,_,_]) (L:=[])
 have j1:xo.ok ⟨a.vl,DI,cg,a.ts++gs,Uj,cf,a.us++fs,ur,up,uq⟩ (dI [M,N,cH fs,cH gs]) log ⟨s.cF++ls.map (·.2),some x⟩ :=
  ⟨(
   ha.log.cL (cG .zero)).cL T8,by dsimp only;rw [ah,ha.cF,vL],fun y hy=>by
   rcases aJ.1 hy with hy|hy
   ·exact ((ha.yO y hy).cL (cG .zero)).cL T8
   ·exact (dQ.dY (show cR [M,N,cH fs,cH gs] (cH gs) _ from zP) y hy).cL T8,Np,fun y hy=>(Wk [M,N,cH fs,cH gs] _ zP (cG .zero) y hy).cL T8,(hN.cL (cG (.succ .zero))).cL T8,⟨by simp only [aa,ae];omega,fun b tc=>by
   rcases aJ.1 tc with tc|tc
   ·exact ha.st.short b tc
   ·obtain ⟨y,hy,rfl⟩:=aE.1 tc;exact hb y hy,fun y hy=>by cases hy;exact KV⟩⟩
 refine aY (jO g log ⟨s.cF++ls.map (·.2),some x⟩::R) rfl (cj ?_ (Da j1)) ⟨rfl,rfl⟩;dsimp only [xp,xo.cells];exact cj (rf (A:=M) (B:=N) (C:=cH fs) (D:=cH gs) zP zP zP zP) zE
end Go.Proofs
namespace Go.Proofs
open Go.Bs
attribute [local irreducible] Bs.cD Bs.Do Bs.O Bs.W Bs.Fin Bs.A Bs.Ct Bs.cE Bs.Rd Bs.Sat Bs.cK Bs.Ob Bs.dE Bs.View Bs.cz Bs.Ex Bs.dI Bs.Pu Bs.eY Bs.dN Bs.dZ
open Tryz
variable (R:List cJ) (e:World)
structure gU where
 kind:Int
 Ot:Int
 to:Int
 v:Value
 b:List UInt8
def gU.cells (m:gU):List Value:=[.int .i64 m.kind,.int .i64 m.Ot,.int .i64 m.to,m.v]
def gU.t (m:gU):ej:=(m.v,m.b)
def gU.d (m:gU):Int × Int × Int × List UInt8:=(m.kind,m.Ot,m.to,m.b)
abbrev Nq:TypeId:=268
theorem px (m:gU):m.cells.length=4:=rfl
theorem Nr:∀ l:List gU,(l.flatMap gU.cells).length=l.length*4
 | []=>rfl
 | m::l=>by
  rw [aU,aa,Nr l,px,aN,Nat.add_mul];omega
theorem Ja (l:List gU) (i:Nat):(l.flatMap gU.cells).take (i*4)=(l.take i).flatMap gU.cells:=by
 induction l generalizing i with
 | nil=>simp
 | cons m l ih =>
  cases i with
  | zero=>simp
  | succ i =>
   rw [aU,List.take_succ_cons,aU,List.take_append,px,aG (by rw [px];omega),← ih]
   congr 2;omega
theorem PC (l:List gU) (i:Nat):(l.flatMap gU.cells).drop (i*4)=(l.drop i).flatMap gU.cells:=by
 induction l generalizing i with
 | nil=>simp
 | cons m l ih =>
  cases i with
  | zero=>simp
  | succ i =>
   rw [aU,List.drop_succ_cons,List.drop_append,px,List.drop_of_length_le (by rw [px];omega),← ih];simp only [List.nil_append]
   congr 1;omega
abbrev vQ (v:Value) (l:List gU):cJ:=dE Nq 4 v l.length (l.flatMap gU.cells)
def Ns (g n:Nat) (l:List gU) (ad:Option Addr) (c:Nat):cJ:=dI [cK g [.int .i64 (n:Int),.slice ad l.length c] 224 (0,0),vQ (.slice ad l.length c) l,cH (l.map gU.t)]
def Net (g n:Nat) (l:List gU):cJ:=Ex fun ad=>Ex fun c=>Ns g n l ad c
section
variable {g n:Nat} {l:List gU} {R:List cJ} {P:Program} {e:World}
theorem Db {f:FuncId} {args:Array Value} {Post:Value→List cJ→Prop}
 (h:∀ ad c,Ct P f args e (cK g [.int .i64 (n:Int),.slice ad l.length c] 224 (0,0)::vQ (.slice ad l.length c) l::cH (l.map gU.t)::R) Post):Ct P f args e (Net g n l::R) Post :=
 Ct.ex .zero fun ad=>Ct.ex .zero fun c=>(h ad c).cL cT
theorem Fs {N:Fr} {all:Array Oper} {ol:List Oper} {Q:fO} {σ:Env}
 (h:∀ ad c,O P N all ol Q σ e (cK g [.int .i64 (n:Int),.slice ad l.length c] 224 (0,0)::vQ (.slice ad l.length c) l::cH (l.map gU.t)::R)):O P N all ol Q σ e (Net g n l::R) :=
 O.ex .zero fun ad=>O.ex .zero fun c=>(h ad c).cL cT
theorem nH {c:Nat} {ad:Option Addr}:cz (cK g [.int .i64 (n:Int),.slice ad l.length c] 224 (0,0)::vQ (.slice ad l.length c) l::cH (l.map gU.t)::R) (Net g n l::R) :=
 cj (dR (M:=[_,_,_])) (cj (fu (f:=fun c=>Ns g n l ad c) c) (fu (f:=fun ad=>Ex fun c=>Ns g n l ad c) ad))
end
theorem BR {g n:Nat} {l:List gU} {R:List cJ}:cz (Net g n l::R) (cH (l.map gU.t)::R) :=
 jE fun ad=>jE fun c=>cT.trans zE
theorem sK {v:Value} {l:List gU} {L R:List cJ} (p:cR L (vQ v l) R):∀ h,dN L h→∃ ad c,v=.slice ad l.length c∧l.length≤c∧c≤maxLen∧((ad=none∧c=0∧l.length=0)∨∃ g,ad=some ⟨g,0,none⟩):=fun h x=>by
 obtain ⟨⟨ad,c,h1,h2,h3,h4⟩,_⟩:=fP p h x;exact ⟨ad,c,h1,h2,h3,h4⟩
theorem K0 (n:Nat) (hn:1≤n∧n≤32) :
 Ct prog 165 #[.int .i64 n] e R (fun v' L'=>∃ g,v'=.tuple #[pt g,.int .i64 0]∧L'=Net g n []::R):=by
 refine a8 (args:=[_]) func165 rfl ntmps165 results165 rfl ?_
 (repeat (refine wA ?_;intros))
 exact aY _ rfl ((bh ((dv Nq 4).trans (bh dK))).trans (nH (l:=[]))) ⟨_,rfl,rfl⟩
theorem K1 (m:gU) (hr:db R m.v m.b) (hb:m.b.length≤140737488351232) :
 Ct prog 248 #[.agg m.cells.toArray] e R (fun v' L'=>∃ ad c,v'=.agg (gU.cells { m with v:=.slice ad m.b.length c }).toArray∧L'=cH [(.slice ad m.b.length c,m.b)]::R):=by
 refine a7 (hr.shape zo) ?_;rintro ⟨⟨MA,c0,hv,g3,g4,g5,g6⟩,_⟩;obtain ⟨kind,Ot,to,v,b⟩:=m;dsimp only at hr hb hv g3 g6 ⊢
 subst hv;simp only [gU.cells];refine bH (args:=[_]) func248 rfl ntmps248 results248 rfl ?_
 (repeat (refine wA ?_;intros))
 refine aZ rfl rfl (dw _ e _ b hr.tail.tail zo) ?_;rintro _ _ ⟨ad,c,rfl,rfl⟩;refine wB ?_;apply br
 ·exact zV
 ·exact ⟨_,(show cz _ (cS (.slice ad b.length c) b::R) from zE).trans (ju (a:=(.slice ad b.length c,b))),ad,c,rfl,rfl⟩
theorem Ft (g n:Nat) (l:List gU) (i:Int) (hl:l.length≤1000) :
 Ct prog 249 #[pt g,.int .i64 i] e (Net g n l::R) (fun v' L'=>v'=.bool (decide (0≤i∧i<l.length))∧L'=Net g n l::R):=by
 refine Db fun ad c=>?_
 refine a8 (args:=[_,_]) func249 rfl ntmps249 results249 rfl ?_
 by_cases h0:0≤i
 ·by_cases h1:i<l.length
  ·refine wB ?_;exact aY _ rfl nH ⟨by simp [h0,h1];rfl,rfl⟩
  ·refine wB ?_;exact aY _ rfl nH ⟨by simp [h1];rfl,rfl⟩
 ·refine wB ?_;exact aY _ rfl nH ⟨by simp [h0];rfl,rfl⟩
theorem K2 (g n:Nat) (l:List gU) :
 Ct prog 62 #[pt g] e (Net g n l::R) (fun v' L'=>v'=.int .i64 (l.length:Int)∧L'=Net g n l::R):=by
 refine Db fun ad c=>?_
 refine a8 (args:=[_]) func62 rfl ntmps62 results62 rfl ?_;refine wB ?_;exact aY _ rfl nH ⟨rfl,rfl⟩
theorem sL (g n:Nat) (l:List gU) (m:gU) (hr:db (Net g n l::R) m.v m.b) (hb:m.b.length≤140737488351232) (hl:l.length≤n) (hn:n≤1000) :
 Ct prog 176 #[pt g,.agg m.cells.toArray] e (Net g n l::R)
  (fun v' L'=>(l.length<n∧v'=.bool true∧∃ v2,L'=Net g n (l++[{ m with v:=v2 }])::R)∨(¬ l.length<n∧v'=.bool false∧L'=Net g n l::R)):=by
 refine a7 (cn hr) ?_;intro h1;refine Db fun ad c=>?_
 refine a8 (args:=[_,_]) func176 rfl ntmps176 results176 rfl ?_
 by_cases cO:l.length<n
 ·have tI:∀ A,db (A::cK g [.int .i64 (n:Int),.slice ad l.length c] 224 (0,0)::vQ (.slice ad l.length c) l::cH (l.map gU.t)::R) m.v m.b:=fun A=>(hr.cL nH).tail
  obtain ⟨kind,Ot,to,v,b⟩:=m;dsimp only at tI h1 hb
  simp only [gU.cells]
  (repeat' first|refine Zb ?_|apply Zc|apply Zd|apply Ze|apply Zf|refine Yg fun _=>?_|refine YA ?_|apply YC|(refine bz (id:=1) [] mixed ?_;all_goals (refine tM 0 ?_);all_goals (refine tN 1 ?_);all_goals (refine tF 2 ?_);all_goals (refine tL 3 ?_);all_goals (refine tk 4 _ rfl (bM rfl) ?_);all_goals (refine tM 5 ?_);all_goals (refine tN 6 ?_);all_goals (refine tF 7 ?_);all_goals (refine tL 8 ?_);all_goals (first|refine tk 9 (.bool true) rfl (cD.iQ (bR rfl rfl) zy) ?_|refine tk 9 (.bool false) rfl (cD.no (bR rfl rfl) zn) ?_);all_goals (refine bf zK ?_)))
  rename_i gb;refine bk (id:=3) [9,10,11] [cK gb [.int .i64 kind,.int .i64 Ot,.int .i64 to,v] Nq (0,0),cK g [.int .i64 (n:Int),.slice ad l.length c] 224 (0,0)] mixed ?_
  (refine tM 0 ?_;refine tM 1 ?_;refine tN 2 ?_;refine tF 3 ?_;refine tL 4 ?_)
  refine tk 5 _ rfl (cD.dy (cs:=[.int .i64 kind,.int .i64 Ot,.int .i64 to,v]) rfl zA rfl) ?_;refine tO 6 ?_;refine bg rfl rfl (K1 _ e ⟨kind,Ot,to,v,b⟩ (tI _) hb) ?_;rintro _ _ ⟨dW,c2,rfl,rfl⟩;refine ⟨fun _=>zE,?_⟩;refine tO 7 ?_;refine bE (n:=4) rfl rfl rfl rfl zQ rfl (fun g2=>⟨fun _=>zE,?_⟩);refine tO 8 ?_;refine bo rfl rfl rfl zP (bO (n:=4) (c:=1) .zero rfl zl) rfl rfl (by simp [Value.oneCell',gU.cells]) zm zo fun eJ c3 _=>⟨fun _=>zE,?_⟩
  ((refine tO 9 ?_;refine dV (bn rfl) ?_);(refine tO 10 ?_;refine dV (ba rfl) ?_);(refine tO 11 ?_;refine tf ?_;refine ⟨zN,?_⟩))
  refine bf zK ?_;refine wB ?_;refine aY (Net g n (l++[⟨kind,Ot,to,.slice dW b.length c2,b⟩])::R) rfl (cj (show cz _ (cH (l.map gU.t)::cH [(.slice dW b.length c2,b)]::cK g [.int .i64 (n:Int),.slice eJ (l.length+1) c3] 224 (0,0)::dE Nq 4 (.slice eJ (l.length+1) c3) (l.length+1) (l.flatMap gU.cells++gU.cells ⟨kind,Ot,to,.slice dW b.length c2,b⟩)::R) from zE) ?_) (.inl ⟨cO,rfl,_,rfl⟩);refine cj eL (cj ?_ (nH (ad:=eJ) (c:=c3)));simp only [vQ,aa,aj,aW,aU,List.flatMap_nil,aK,ah,List.map_cons,List.map_nil];exact zE
 ·(repeat' first|refine Zb ?_|apply Zc|apply Zd|apply Ze|apply Zf|refine Yg fun _=>?_|refine Yz ?_|apply YE|apply YF|(refine bz (id:=1) [] mixed ?_;all_goals (refine tM 0 ?_);all_goals (refine tN 1 ?_);all_goals (refine tF 2 ?_);all_goals (refine tL 3 ?_);all_goals (refine tk 4 _ rfl (bM rfl) ?_);all_goals (refine tM 5 ?_);all_goals (refine tN 6 ?_);all_goals (refine tF 7 ?_);all_goals (refine tL 8 ?_);all_goals (first|refine tk 9 (.bool true) rfl (cD.iQ (bR rfl rfl) zy) ?_|refine tk 9 (.bool false) rfl (cD.no (bR rfl rfl) zn) ?_);all_goals (refine bf zK ?_)))
  exact aY _ rfl (cj zE nH) (.inr ⟨cO,rfl,rfl⟩)
theorem K3 {α:Type} {A Y zs W:List α} {m:Nat} (h:A.length=m):((A++Y).take m++zs++W).take m=A:=by
 rw [List.take_left' h,aM,List.take_left' h]
theorem Dc (ad:Option Addr) (c:Nat) (l:List gU) (i:Nat) (hi:i<l.length) (hb:∀ m∈l,m.v.oneCell'=true) :
 Ct prog 250 #[.slice ad l.length c,.int .i64 i,.int .i64 ((i:Int)+1)] e (vQ (.slice ad l.length c) l::R) (fun v' L'=>v'=.slice ad (l.take i++l.drop (i+1)).length c∧L'=vQ (.slice ad (l.take i++l.drop (i+1)).length c) (l.take i++l.drop (i+1))::R):=by
 refine a7 (sK .zero) ?_;rintro ⟨_,_,hv,hc,hm,hg⟩
 cases hv
 rcases hg with ⟨_,_,h0⟩|⟨g,rfl⟩
 ·omega
 simp only [maxLen] at hm
 have mV:∀ c∈l.flatMap gU.cells,c.oneCell'=true:=fun c hc=>by
  obtain ⟨m,hm,hc⟩:=List.mem_flatMap.1 hc;simp only [gU.cells,aQ,aP,or_false] at hc
  rcases hc with rfl|rfl|rfl|rfl
  ·rfl
  ·rfl
  ·rfl
  ·exact hb m hm
 refine a8 (args:=[_,_,_]) func250 rfl ntmps250 results250 rfl ?_;refine wB ?_;refine bx _ (cD.slice3 rfl rfl rfl rfl zo zo zo zo) rfl ?_;have e1:((i:Int)+1).toNat=i+1:=by omega
 have hlen:(l.take i++l.drop (i+1)).length=l.length - 1:=by rw [aa,aF,aO];omega
 refine wB ?_;refine bk (id:=5) [7] [] mixed ?_;refine bG 0 _ rfl zK bF (bu rfl) rfl ?_;refine bG 1 _ rfl zK bF (bu rfl) rfl ?_;refine bG 2 _ rfl zK bF (cD.iV rfl rfl zo zo) rfl ?_;refine bG 3 _ rfl zK bF (bu rfl) rfl ?_;refine bG 4 _ rfl zK bF (bu rfl) rfl ?_;refine bG 5 _ rfl zK bF (cD.lm rfl rfl zo zo) rfl ?_;refine tO 6 ?_;refine Do.LR (i:=i) (j:=i+1) (m:=l.length - (i+1)) rfl rfl rfl .zero rfl zo zo ?_ mV ⟨fun _=>bF,?_⟩
 ·rcases Nat.lt_or_ge (i+1) l.length with h|h
  ·right
   unfold cutAt;rw [aB zo,e1]
   simp [Addr.add_lit]
  ·left;omega
 refine tO 7 ?_;refine bN (bj rfl) rfl ⟨fun _=>bF,?_⟩;refine bf zK ?_;have e2:((i+(l.length - (i+1)):Nat):Int).toNat=l.length - 1:=by omega
 have e3:i+(l.length - (i+1))=l.length - 1:=by omega
 refine wB ?_;refine bC (Do.clear (o:=(l.length - 1)*4) rfl .zero rfl (by simp [Value.oneCell',Value.cells]) zo (.inr ?_) fun zs hz=>?_)
 ·unfold cutAt;rw [aB zo,e2]
  simp [Addr.add_lit]
 have tG:=nP (E:=Nq) (n:=4) (ad:=some ⟨g,0,none⟩) (k:=l.length) (lo:=l.length - 1) (c:=c) (R:=R)
  (xs:=((l.flatMap gU.cells).take (i*4)++((l.flatMap gU.cells).drop ((i+1)*4)).take ((l.length - (i+1))*4)++(l.flatMap gU.cells).drop ((i+(l.length - (i+1)))*4)).take ((l.length - 1)*4)++zs ++
   ((l.flatMap gU.cells).take (i*4)++((l.flatMap gU.cells).drop ((i+1)*4)).take ((l.length - (i+1))*4)++(l.flatMap gU.cells).drop ((i+(l.length - (i+1)))*4)).drop ((l.length - 1)*4+((l.length:Int).toNat - ((i+(l.length - (i+1)):Nat):Int).toNat)*4)) zo
 refine O.fo tG ?_;refine wB ?_;rw [e3];refine aY _ rfl ?_ ⟨by rw [hlen];rfl,rfl⟩;unfold vQ;rw [hlen];have hx:=Nr l
 have e4:((l.flatMap gU.cells).take (i*4)++((l.flatMap gU.cells).drop ((i+1)*4)).take ((l.length - (i+1))*4)).length=(l.length - 1)*4:=by
  simp only [aa,aF,aO,hx];omega
 rw [K3 e4,Ja,PC,Ja,aG (l:=l.drop (i+1)) (by rw [aO];omega),← aW];exact aX
theorem Fu {R:List cJ} {l:List gU} {i:Nat} (h:i<l.length):cz (cH (l.map gU.t)::R) (cH [(l[i]'h).t]::cH ((l.take i++l.drop (i+1)).map gU.t)::R):=by
 have e1:l.map gU.t=(l.take i).map gU.t++([(l[i]'h).t]++(l.drop (i+1)).map gU.t):=by
  have e2:l=l.take i++l[i]::l.drop (i+1):=by rw [← List.drop_eq_getElem_cons h,List.take_append_drop]
  conv=>lhs;rw [e2]
  simp only [ah,List.map_cons,List.singleton_append]
 rw [e1,ah];refine cj qd (cj (bh qd) (cj (bw (.succ .zero) aX) (bh eL)))
theorem jr (g n:Nat) (l:List gU) (i:Int) (hl:l.length≤1000) (hb:∀ m∈l,m.v.oneCell'=true) :
 Ct prog 177 #[pt g,.int .i64 i] e (Net g n l::R)
  (fun v' L'=>(∃ (k:Nat) (h:k<l.length),i=k∧v'=.tuple #[.agg (l[k]'h).cells.toArray,.bool true]∧L'=cH [(l[k]'h).t]::Net g n (l.take k++l.drop (k+1))::R) ∨
   (¬ (0≤i∧i<l.length)∧v'=.tuple #[.agg (gU.cells ⟨0,0,0,nY,[]⟩).toArray,.bool false]∧L'=Net g n l::R)):=by
 refine bH (args:=[_,_]) func177 rfl ntmps177 results177 rfl ?_
 (repeat (refine wA ?_;intros))
 refine aZ rfl rfl (Ct.at (.succ .zero) (Ft _ e g n l i hl)) ?_;rintro _ _ ⟨rfl,rfl⟩
 by_cases h:0≤i∧i<l.length
 ·obtain ⟨k,rfl⟩:=Int.eq_ofNat_of_zero_le h.1;have hk:k<l.length:=by omega
  rw [show decide (0≤(k:Int)∧(k:Int)<l.length)=true by simp [hk]];refine O.fo (bw .zero aX) ?_;refine Fs fun ad c=>?_
  refine bm (sK (.succ .zero)) ?_;rintro ⟨_,_,hv,hc,hm,hg⟩
  cases hv
  rcases hg with ⟨_,_,h0⟩|⟨g1,rfl⟩
  ·omega
  have G5:∀ L',dZ (vQ (.slice (some ⟨g1,0,none⟩) l.length c) l::L') g1 (0+k*4) (l[k]'hk).cells:=fun L'=>dZ.elem (bb .zero) px (ab hk)
  have h1:=hb _ (aA hk);refine wB ?_;refine O.dy rfl (G5 _).tail rfl rfl ?_
  generalize hm:l[k]'hk=m at *
  obtain ⟨kind,Ot,to,v,b⟩:=m;dsimp only at h1
  simp only [gU.cells]
  (repeat (refine wA ?_;intros))
  refine aZ rfl rfl (Ct.at (.succ (.succ .zero)) (Dc _ e (some ⟨g1,0,none⟩) c l k hk hb)) ?_;rintro _ _ ⟨rfl,rfl⟩;refine wB ?_;apply br
  ·exact zV
  ·refine ⟨cH [(l[k]'hk).t]::Net g n (l.take k++l.drop (k+1))::R,?_,.inl ⟨k,hk,rfl,by rw [hm];rfl,rfl⟩⟩;refine cj (show cz _ (cH (l.map gU.t)::cK g [.int .i64 (n:Int),.slice (some ⟨g1,0,none⟩) (l.take k++l.drop (k+1)).length c] 224 (0,0)::vQ (.slice (some ⟨g1,0,none⟩) (l.take k++l.drop (k+1)).length c) (l.take k++l.drop (k+1))::R) from zE) ?_;refine cj (Fu hk) (bh (cj ?_ (nH (ad:=some ⟨g1,0,none⟩) (c:=c))));exact zE
 ·rw [show decide (0≤i∧i<l.length)=false by simpa using h];refine wB ?_;apply br
  ·exact zV
  ·exact ⟨_,zE,.inr ⟨h,rfl,rfl⟩⟩
theorem Dd (g n:Nat) (l:List gU) (i:Int) (hl:l.length≤n) (hn:n≤1000) (hb:∀ m∈l,m.b.length≤140737488351232) :
 Ct prog 181 #[pt g,.int .i64 i] e (Net g n l::R)
  (fun v' L'=>(∃ (k:Nat) (h:k<l.length) (v2:Value),i=k∧l.length<n∧v'=.bool true∧L'=Net g n (l++[{ (l[k]'h) with v:=v2 }])::R) ∨
   (¬ ((0≤i∧i<l.length)∧l.length<n)∧v'=.bool false∧L'=Net g n l::R)):=by
 refine a8 (args:=[_,_]) func181 rfl ntmps181 results181 rfl ?_;refine wB ?_;refine aZ rfl rfl (Ft _ e g n l i zo) ?_;rintro _ _ ⟨rfl,rfl⟩
 by_cases h:0≤i∧i<l.length
 ·obtain ⟨k,rfl⟩:=Int.eq_ofNat_of_zero_le h.1;have hk:k<l.length:=by omega
  rw [show decide (0≤(k:Int)∧(k:Int)<l.length)=true by simp [hk]];refine Fs fun ad c=>?_
  refine bm (sK (.succ .zero)) ?_;rintro ⟨_,_,hv,hc,hm,hg⟩
  cases hv
  rcases hg with ⟨_,_,h0⟩|⟨g1,rfl⟩
  ·omega
  have G5:∀ L',dZ (vQ (.slice (some ⟨g1,0,none⟩) l.length c) l::L') g1 (0+k*4) (l[k]'hk).cells:=fun L'=>dZ.elem (bb .zero) px (ab hk)
  have jw:db (Net g n l::R) (l[k]'hk).v (l[k]'hk).b:=db.cL (eF (l[k]'hk).t (aE.2 ⟨_,aA hk,rfl⟩)) BR;refine wB ?_;refine O.dy rfl (G5 _).tail rfl rfl ?_
  (repeat (refine wA ?_;intros))
  refine O.fo nH ?_;refine aZ rfl rfl (sL R e g n l (l[k]'hk) jw (hb _ (aA hk)) hl hn) ?_;rintro _ _ (⟨h1,rfl,v2,rfl⟩|⟨h1,rfl,rfl⟩)
  ·refine wB ?_;exact aY _ rfl aX (.inl ⟨k,hk,v2,rfl,h1,rfl,rfl⟩)
  ·refine wB ?_;exact aY _ rfl aX (.inr ⟨fun h2=>h1 h2.2,rfl,rfl⟩)
 ·rw [show decide (0≤i∧i<l.length)=false by simpa using h];refine wB ?_;exact aY _ rfl aX (.inr ⟨fun h2=>h h2.1,rfl,rfl⟩)
end Go.Proofs
namespace Go.Proofs
open Go.Bs
open Tryz
abbrev m1:TypeId:=340
def ig (k:Fin 1000 × Fin 1000):Value:=.agg #[.int .i64 (k.1.val:Int),.int .i64 (k.2.val:Int)]
theorem Jb:prog.keyTypeAt 3 m1=true:=by kernel_rfl
theorem Nt:prog.cellsOf m1=2:=by kernel_rfl
theorem PD:prog.cellsOf 3=1:=by kernel_rfl
theorem Fv (n:Fin 1000):(Lit.int .i64 (n.val:Int)).wf=true:=by
 have:=n.isLt
 simp [Lit.wf,IntKind.min,IntKind.max,IntKind.bits,IntKind.signed]
 omega
theorem vR (k:Fin 1000 × Fin 1000):prog.keyLits 3 m1 [.int .i64 (k.1.val:Int),.int .i64 (k.2.val:Int)]=some [.int .i64 (k.1.val:Int),.int .i64 (k.2.val:Int)]:=by
 have h1:=Fv k.1;have h2:=Fv k.2
 simp [Program.keyLits,underlying340,underlying3,Nt,PD,h1,h2]
theorem qI (k:Fin 1000 × Fin 1000):(ig k).formed prog m1=true:=by
 simp [ig,Value.formed,underlying340,Nt]
theorem PE (w:World) (a b:Fin 1000 × Fin 1000):(Op.equal m1 (ig a) (ig b)).run prog w=.ok (decide (a=b)) w:=by
 obtain ⟨r,hr,Wl⟩:=run_equalIn_deep (P:=prog) 9997 3 m1 Jb w 3 3 (ig a) (ig b) _ _ (qI a) (qI b) (vR a) (vR b)
 have he:decide (a=b)=r:=by
  by_cases h:a=b
  ·subst h;rw [ay rfl];exact (Wl.2 rfl).symm
  ·rw [aq h]
   cases r with
   | false=>rfl
   | true =>
    have h2:=Wl.1 rfl;simp only [List.cons.injEq,Lit.int.injEq,and_true,true_and] at h2
    exact absurd (Prod.ext (Fin.ext zo) (Fin.ext zo)) h
 rw [he];exact hr
theorem zu (w:World) (k:Fin 1000 × Fin 1000):∀ (l:List MapEntry) (mS:List ((Fin 1000 × Fin 1000) × Value)) (j:Nat),l.map (fun e=>(e.key,e.val))=mS.map (fun p=>(ig p.1,p.2))→(Instr.findAsking m1 (ig k) l j).run prog w=.ok (uo k mS j) w
 | [],mS,j,h=>by
  cases mS with
  | nil=>rfl
  | cons _ _=>simp at h
 | e::l,mS,j,h=>by
  cases mS with
  | nil=>simp at h
  | cons p mS =>
   simp only [List.map_cons,List.cons.injEq,Prod.mk.injEq] at h
   obtain ⟨⟨h1,h2⟩,h3⟩:=h;unfold Instr.findAsking uo;simp only [Sem.run_bind,h1,PE,Result.andThen_ok]
   by_cases hk:k=p.1
   ·rw [ay hk,aI hk.symm,h2];rfl
   ·rw [aq hk];simp only [Bool.false_eq_true,if_false];rw [aB (show ¬ p.1=k from fun q=>hk q.symm)];exact zu w k l mS (j+1) h3
instance abw:Hn prog 169 ig (.agg #[.int .i64 0,.int .i64 0,nY,nY]) :=
 ⟨m1,96,underlying169,zeroValue96,fun b k w=>run_checkKey_deep b 9997 3 m1 Jb w 3 (ig k) _ (qI k) (vR k),fun k l mS w h=>by
  unfold Instr.findKey
  cases l with
  | nil =>
   have:=zu w k [] mS 0 h;simp only [Sem.run_bind,run_underlying underlying340,Result.andThen_ok,Instr.findNow]
   cases mS with
   | nil=>rfl
   | cons _ _=>simp at h
  | cons e l =>
   have hn:∀ fs,Instr.findNow (TypeDesc.struct fs) (ig k) (e::l) 0=none:=fun fs=>rfl
   have:=zu w k (e::l) mS 0 h;simp only [Sem.run_bind,run_underlying underlying340,Result.andThen_ok,hn]
   exact this,fun k=>by
  simp [ig,Instr.sameBits]⟩
theorem _root_.Go.Bs.cD.SN {P:Program} {N:Fr} {ty:TypeId} {σ:Env} {e:World} {L:List cJ} {x:Operand} {t f:Nat} {a b v:Value} (hr:∀ w,(Instr.field t (.agg #[a,b]) f).run P w=.ok v w) (h:ev σ x=some (.agg [a,b].toArray)):cD P N (.field t x f) ty v σ e L:=fun w a ha _ _ _ _ _=>by
 have h2:=hr
 simp [execOp,ha.ev h,h2]
end Go.Proofs
namespace Go.Proofs
attribute [local irreducible] Bs.cD Bs.Do Bs.O Bs.W Bs.Fin Bs.A Bs.Ct Bs.cE Bs.Rd Bs.Sat Bs.cK Bs.Ob Bs.dE Bs.View Bs.cz Bs.Ex Bs.dI Bs.Pu Bs.eY Bs.dN Bs.dZ
open Go.Bs
open Tryz
variable (R:List cJ) (e:World)
structure dh where
 k:Nat
 ey:Nat
 room:Nat
 size:Nat
 wait:Nat
 retry:Nat
def dh.f (c:dh):m6:=⟨c.room,c.size,c.wait⟩
def cQ (i:Nat):du:=ei 20 [be i 4]
theorem py (i:Nat):(cQ i).length=32:=dg _ _
def dO:du:=kN (cQ 0)
def cZ (c:dh):jG:=⟨dO,(List.range c.k).map fun i=>kN (cQ (i+1)),c.ey⟩
def iT:du:=[112,117,109,112]
structure dh.ok (c:dh):Prop where
 k:1≤c.k∧c.k≤3
 ey:1≤c.ey∧c.ey≤c.k
 f:c.f.ok
 retry:1≤c.retry∧c.retry≤100
 wV:(cZ c).right
theorem lj (c:dh):(cZ c).ew.length=c.k:=by simp [cZ]
inductive fW where
 | ask (w:Nat) (x:jV) (n m:Nat) (path:List du)
 | iQ (w:Nat) (g:kO)
 | no (w:Nat) (size:Nat)
 | off (b:wR)
def qJ (x:jV) (n m:Nat) (path:List du):du:=hZ x++(be n 4++(be m 4++(UInt8.ofNat path.length::path.flatten)))
def fW.d (k:Nat):fW→Int × Int × Int × du
 | .ask w x n m path=>(1,0,((w+1:Nat):Int),qJ x n m path)
 | .iQ w g=>(2,((w+1:Nat):Int),0,1::eU g)
 | .no w size=>(2,((w+1:Nat):Int),0,0::be size 4)
 | .off b=>(3,0,((k+1:Nat):Int),fT b)
structure da where
 ls:fM
 fs:pe
 ws:List eP
 fd:cP
 n:Nat
 up:m8
 mo:H6
 eh:List fW
 time:Nat
 signed:Option jc
def lL (l:List du) (c:jc):Prop:=c.size≤l.length∧c.root=ea ((l.take c.size).map cY)
def Ae (l:List du) (x:jV):Prop:=x.ii dO∧x.sig.right∧lL l x.dc
theorem lL.more {l m:List du} {c:jc} (h:lL l c):lL (l++m) c :=
 ⟨by rw [aa];exact Nat.le_trans h.1 (Nat.le_add_right ..),by rw [List.take_append_of_le_length h.1];exact h.2⟩
theorem Ae.more {l m:List du} {x:jV} (h:Ae l x):Ae (l++m) x:=⟨h.1,h.2.1,h.2.2.more⟩
theorem Ae.fits {l:List du} {x:jV} (h:Ae l x):x.fits:=⟨h.1.1,h.2.1⟩
def fW.oh (c:dh) (l:List du):fW→Prop
 | .ask w x n m path=>w<c.k∧Ae l x∧m=x.dc.size∧n≤m∧path=iY ((l.take m).map cY) n
 | .iQ w g=>w<c.k∧g.fY=w∧g.sig.right
 | .no w size=>w<c.k∧size≤256
 | .off b=>b.wf∧b.fi.length≤200∧mg (cZ c) b=0
def fW.ok (c:dh) (l:List du) (x:fW):Prop:=0<l.length∧x.oh c l
structure da.ok (c:dh) (m:Nat) (s:da):Prop where
 xE:c.ok
 steps:m≤250
 ls:s.ls.ok
 last:∀ x,s.ls.last=some x→Ae s.ls.cF x
 fs:s.fs.ok
 recs:s.fs.recs.Nodup
 DH:s.fs.recs.length≤m
 perm:(s.ls.cF++s.fs.q.map (·.1)).Perm s.fs.recs
 wl:s.ws.length=c.k
 ws:∀ w∈s.ws,w.ok∧w.recs.length≤m∧lL s.ls.cF w.c
 iQ:∀ (i:Nat) (w:eP),s.ws[i]?=some w→w.some=true→w.dC.fY=i∧w.dC.sig.right
 fd:s.fd.ok c.k s.n
 nb:s.n≤4*m
 cur:∀ x,s.fd.cur=some x→Ae s.ls.cF x∧0<x.dc.size
 idle:s.fd.cur=none→s.fd.ag=[]
 kept:∀ g∈s.fd.kept,g.ii (cZ c) s.fd.dU.dc
 done:s.fd.dk≠[]→Ae s.ls.cF s.fd.done∧0<s.fd.done.dc.size∧uf (cZ c) s.fd.done.dc s.fd.dk
 up:s.up.ok iT
 Uk:s.up.recs.length≤m
 mo:s.mo.ok
 SO:s.mo.cF=s.ls.cF.take s.mo.cF.length
 eh:∀ x∈s.eh,x.ok c s.ls.cF
 room:s.eh.length≤32
 time:s.time≤1000*m
 signed:∀ x,s.signed=some x→lL s.ls.cF x∧x.right
theorem fW.ok.more {c:dh} {l m:List du} {x:fW} (h:x.ok c l):x.ok c (l++m):=by
 refine ⟨by rw [aa];exact Nat.lt_of_lt_of_le h.1 (Nat.le_add_right ..),?_⟩;have h2:=h.2
 cases x with
 | ask w x n k path=>exact ⟨h2.1,h2.2.1.more,h2.2.2.1,h2.2.2.2.1,by rw [List.take_append_of_le_length (by rw [h2.2.2.1];exact h2.2.1.2.2.1)];exact h2.2.2.2.2⟩
 | iQ w g=>exact h2
 | no w k=>exact h2
 | off b=>exact h2
structure Ev where
 k:Int
 a:Int
 b:Int
 v:Value
 t:du
def Ev.cells (x:Ev):List Value:=[.int .i64 x.k,.int .i64 x.a,.int .i64 x.b,x.v]
abbrev tEv:TypeId:=121
abbrev js (v:Value) (l:List Ev):cJ:=dE tEv 4 v l.length (l.flatMap Ev.cells)
abbrev di:TypeId:=171
abbrev fH:Int→Value:=fun n=>.int .i64 n
structure WX where
 g:Nat
 d:Nat
 k:Nat
structure ee where
 va:Value
 gl:Nat
 gf:Nat
 lY:Value
 mE:Nat
 gu:Nat
 gm:Nat
 gn:Nat
 pV:Value
 ij:Value
 ve:Value
 mr:Nat
 ml:Nat
 vr:Value
 mc:Nat
 es:List Ev
 kr:List (Int × Value)
 kl:List (Int × Value)
 kc:List ((Fin 1000 × Fin 1000) × jm)
 wx:List WX
 ld:Nat
 lk:Nat
 xq:Nat
 ud:Nat
 nl:List gU
def da.sv (s:da):jc:=s.signed.getD ⟨0,[]⟩
abbrev ee.cells (a:ee) (c:dh) (s:da):List Value :=
 [.int .i64 (c.k:Int),.int .i64 (c.ey:Int),.int .i64 (c.room:Int),.int .i64 (c.size:Int),.int .i64 (c.wait:Int),.int .i64 (c.retry:Int),.int .i64 1048576,.string (str iT),
  a.va,pt a.gl,pt a.gf,a.lY,pt a.mE,pt a.gu,pt a.gm,pt a.gn,
  a.pV,a.ij,.int .i64 (c.ey:Int),.int .i64 (s.time:Int),a.ve,.map (some a.mr),.map (some a.ml),.int .i64 (s.sv.size:Int),a.vr,.bool s.signed.isSome,.map (some a.mc)]
def ke:Nat→List WX→List eP→List cJ
 | i,x::xs,s::ss=>nD x.g x.d x.k i (cQ (i+1)) dO s::ke (i+1) xs ss
 | _,_,_=>[]
abbrev pY:TypeId:=98
def jJ (x:WX):Value:=pt x.g
def sM (l:List ((Fin 1000 × Fin 1000) × jm)):List ((Fin 1000 × Fin 1000) × Value):=l.map fun p=>(p.1,.agg (jm.cells p.2).toArray)
structure Jc (L:List cJ) (w:Nat) (c:dh) (a:ee):Prop where
 all:∃ (vl vu:Value) (vs:List (Value × Nat × Nat)),vs.length=c.k∧a.wx.length=c.k ∧
  cE L 2 a.va (c.k+2) ([vl,.func (.func 160) #[pt w] #[]]++(vs.flatMap fun x=>[x.1,.func (.func 161) #[] #[pt x.2.1,pt x.2.2]])++[vu,.func (.func 163) #[pt w] #[]]) ∧
  cE L 1 vl 3 [pt a.ld,pt a.lk,pt a.xq] ∧
  cE L 1 vu 1 [pt a.ud] ∧
  (∀ i (h:i<vs.length) (h2:i<a.wx.length),cE L 1 (vs[i]).1 2 [.pointer (some ⟨(a.wx[i]).d,0,none⟩),.pointer (some ⟨(a.wx[i]).k,0,none⟩)]∧Rd L ⟨(vs[i]).2.1,0,none⟩ (pt w)∧Rd L ⟨(vs[i]).2.2,0,none⟩ (.int .i64 (i:Int)))
structure ee.ok (a:ee) (M:cJ) (w:Nat) (c:dh) (m:Nat) (s:da):Prop where
 wV:j7 [M] a.pV a.ij (cZ c)
 root:db [M] a.vr s.sv.root
 es:∀ x∈a.es,db [M] x.v x.t∧x.t.length≤1000
 kc:∀ p∈a.kc,jm.ok [M] p.2
 all:Jc [M] w c a
 eh:a.nl.map gU.d=s.eh.map (fW.d c.k)
 st:s.ok c m
 ec:a.es.length≤600*m
abbrev dP (w:Nat) (c:dh) (s:da) (a:ee) (M:cJ) (R:List cJ):List cJ :=
 cK w (a.cells c s) di (0,0)::js a.ve a.es::iC fH a.mr a.kr::iC fH a.ml a.kl::iC ig a.mc (sM a.kc)::M::eg a.gf a.xq a.gl c.f s.fs::cU a.gl a.ld a.lk (cQ 0) s.ls::dE pY 1 a.lY a.wx.length (a.wx.map jJ)::dI (ke 0 a.wx s.ws)::lh a.mE (cZ c) c.retry s.n s.fd::kh a.gu a.ud iT (cZ c) s.up::jO a.gm dO s.mo::Net a.gn 32 a.nl::R
def uG (w:Nat) (c:dh) (m:Nat) (s:da) (a:ee) (M:cJ):cJ:=dI (Pu (a.ok M w c m s)::dP w c s a M [])
def dM (w:Nat) (c:dh) (m:Nat) (s:da) (ev:List (Int × Int × Int × du)):cJ:=Ex fun a=>Ex fun M=>dI [Pu (a.es.map (fun x=>(x.k,x.a,x.b,x.t))=ev),uG w c m s a M]
theorem gZ {w:Nat} {c:dh} {m:Nat} {s:da} {ev:List (Int × Int × Int × du)} {R:List cJ} {P:Program} {f:FuncId} {args:Array Value} {e:World} {Post:Value→List cJ→Prop}
 (h:∀ (a:ee) (M:cJ),a.ok M w c m s→a.es.map (fun x=>(x.k,x.a,x.b,x.t))=ev→Ct P f args e (dP w c s a M R) Post):Ct P f args e (dM w c m s ev::R) Post :=
 Ct.ex .zero fun a=>Ct.ex .zero fun M=>Ct.cL (a7 (p:=a.es.map (fun x=>(x.k,x.a,x.b,x.t))=ev) (fun w x=>(jR x).1) fun he=>Ct.cL (Ct.cL (a7 (p:=a.ok M w c m s) (fun w x=>(jR x).1) fun hp=>(h a M hp he).cL (cz.drop aX)) (cT (M:=Pu (a.ok M w c m s)::dP w c s a M []) (L:=R))) (cz.drop aX)) (cT (M:=[Pu (a.es.map (fun x=>(x.k,x.a,x.b,x.t))=ev),uG w c m s a M]) (L:=R))
theorem dT {w:Nat} {c:dh} {m:Nat} {s:da} {ev:List (Int × Int × Int × du)} {a:ee} {M:cJ} {R:List cJ} (h:a.ok M w c m s) (he:a.es.map (fun x=>(x.k,x.a,x.b,x.t))=ev):cz (dP w c s a M R) (dM w c m s ev::R) :=
 cj (na h) (cj (dR (M:=Pu (a.ok M w c m s)::dP w c s a M []) (L:=R)) (cj (na he) (cj (dR (M:=[Pu (a.es.map (fun x=>(x.k,x.a,x.b,x.t))=ev),uG w c m s a M]) (L:=R)) (cj (fu (f:=fun M=>dI [Pu (a.es.map (fun x=>(x.k,x.a,x.b,x.t))=ev),uG w c m s a M]) M) (fu (f:=fun a=>Ex fun M=>dI [Pu (a.es.map (fun x=>(x.k,x.a,x.b,x.t))=ev),uG w c m s a M]) a)))))
theorem BS (k:IntKind) (n:Int):(Value.int k n).cells=#[.int k n]:=rfl
theorem ir (w:Nat) (c:dh) (s:da) (a:ee) (k x b:Int) (v:Value) (t:du) (hv:v.oneCell'=true) (hl:a.es.length≤1000000) :
 Ct prog 167 #[pt w,.int .i64 k,.int .i64 x,.int .i64 b,v] e (cK w (a.cells c s) di (0,0)::js a.ve a.es::R) (fun v' L'=>v'=.tuple #[]∧∃ ve:Value,L'=cK w (ee.cells { a with ve:=ve } c s) di (0,0)::js ve (a.es++[⟨k,x,b,v,t⟩])::R):=by
 refine a7 ((bb (show cR (cK w (a.cells c s) di (0,0)::js a.ve a.es::R) (js a.ve a.es) _ from zP)).shape zo) ?_;rintro ⟨⟨ad,ca,O5,h3,h4,h5,h6⟩,_⟩;simp only [maxLen] at h4
 have xO:cK w (a.cells c s) di (0,0)::js a.ve a.es::R=cK w (ee.cells { a with ve:=.slice ad a.es.length ca } c s) di (0,0)::js (.slice ad a.es.length ca) a.es::R:=by
  rw [← O5]
 rw [xO];refine a8 (args:=[_,_,_,_,_]) func167 rfl ntmps167 results167 rfl ?_
 (repeat' first|(refine bx (.agg #[.int .i64 k,.int .i64 x,.int .i64 b,v]) (bL (cells:=[.int .i64 k,.int .i64 x,.int .i64 b,v]) rfl (by simp [Instr.fill,BS,eQ hv])) rfl ?_)|refine Za ?_|apply Zd|refine Zg ?_|refine Zh ?_|refine Zi ?_|refine Yi fun _=>?_|fail)
 refine bC (bo rfl rfl rfl (show cR _ (js (.slice ad a.es.length ca) a.es) _ from zP) (bO (n:=4) (c:=1) zP rfl zl) rfl rfl zO zm zo fun ef k1 _=>?_)
 refine wB ?_;refine bT (cK w (ee.cells { a with ve:=.slice ef (a.es.length+1) k1 } c s) di (0,0)::js (.slice ef (a.es.length+1) k1) (a.es++[⟨k,x,b,v,t⟩])::R) rfl ?_ ⟨rfl,_,rfl⟩;simp only [js,aa,aj,aW,aU,List.flatMap_nil,aK];exact zE
theorem pz (i:Nat) (hi:i<100) :
 Ct prog 158 #[.int .i64 (i:Int)] e R (fun v' L'=>∃ ad k,v'=.slice ad (cQ i).length k∧L'=cS (.slice ad (cQ i).length k) (cQ i)::R):=by
 refine a8 (args:=[_]) func158 rfl ntmps158 results158 rfl ?_;refine wB ?_;refine aZ rfl rfl (jh _ e) ?_;rintro _ _ ⟨gw,rfl,rfl⟩;refine wB ?_;refine aZ rfl rfl (gD _ e gw [] i zo (by decide)) ?_;rintro _ _ ⟨rfl,rfl⟩;rw [show []++be i 4=be i 4 by simp];refine wB ?_;refine aZ rfl rfl (hJ _ e gw _ (by rw [cX];omega)) ?_;rintro _ _ ⟨ad,k,rfl,rfl⟩
 (repeat (refine wA ?_;intros))
 refine aZ rfl rfl (fc _ e 20 _ [(.slice ad (be i 4).length k,be i 4)] (bB .zero rfl zl) (fun a ha=>by rw [an.1 ha];exact bb (.succ .zero)) (fun a ha=>by rw [an.1 ha];dsimp only;rw [cX];omega) (by simp)) ?_;rintro _ _ ⟨ef,k1,rfl,rfl⟩;refine wB ?_;exact aY (cS (.slice ef (cQ i).length k1) (cQ i)::R) rfl zE ⟨ef,k1,rfl,rfl⟩
abbrev DJ:TypeId:=24
def H7 (g:Nat):Value:=pt g
def jK (gs:List Nat):List cJ:=gs.map fun g=>de g (dx [])
theorem qK (n:Nat) (hn:n≤100) :
 Ct prog 159 #[.int .i64 (n:Int),.int .i64 1048576] e R (fun v' L'=>∃ (ad:Option Addr) (k:Nat) (gs:List Nat),v'=.slice ad gs.length k∧gs.length=n∧L'=dE DJ 1 (.slice ad gs.length k) gs.length (gs.map H7)::dI (jK gs)::R):=by
 refine a8 (args:=[_,_]) func159 rfl ntmps159 results159 rfl ?_;refine wB ?_;refine bq (ι:=List Nat × Option Addr × Nat) (fun j=>[(1,.int .i64 1048576),(5,.slice j.2.1 j.1.length j.2.2),(8,.int .i64 (n:Int)),(9,.int .i64 (j.1.length:Int))]) (fun j=>dE DJ 1 (.slice j.2.1 j.1.length j.2.2) j.1.length (j.1.map H7)::dI (jK j.1)::R) (fun j=>j.1.length≤n) (fun j=>n - j.1.length) ([],none,0) (aH _) zS (cj (dv DJ 1) (bh (dR (M:=[]) (L:=R)))) ?_;rintro ⟨gs,ad,k⟩ hle;dsimp only at hle ⊢
 by_cases cO:gs.length<n
 rotate_left
 ·refine wB ?_;exact aY (dE DJ 1 (.slice ad gs.length k) gs.length (gs.map H7)::dI (jK gs)::R) rfl zE ⟨ad,k,gs,rfl,by omega,rfl⟩
 refine wB ?_;refine aZ rfl rfl (Kg _ e 1048576 zo) ?_;rintro _ _ ⟨gd,rfl,rfl⟩
 (repeat (refine wA ?_;intros))
 refine bC (bo rfl rfl rfl (show cR _ (dE DJ 1 (.slice ad gs.length k) gs.length (gs.map H7)) _ from zP) (bB zP rfl zl) rfl rfl zO zm zo fun ef k1 _=>?_)
 refine wB ?_;refine bi (gs++[gd],ef,k1) (by dsimp only;rw [aa];exact cO) (by dsimp only;rw [aa];show n - (gs.length+1)<_;omega) ?_ ?_
 ·simp only [aa,aj];exact zS
 ·simp only [aa,aj,ah,List.map_cons,List.map_nil,jK];refine cj ?_ (bh (all_append (M:=gs.map fun g=>de g (dx [])) (N:=[de gd (dx [])]) (R:=R)));refine cj ?_ (bh (bh (dR (M:=[de gd (dx [])]) (L:=R))));exact zE
theorem H8 (w:Nat) (y:jc) (u:Value) (b:Bool) (x:jc) (v:Value) (hb:Rd R ⟨w,25,none⟩ (.bool b)) (ha:dZ R w 23 (iS y u)) (hr:b=true→db R u y.root) (hx:db R v x.root) :
 Ct prog 173 #[pt w,.agg (iS x v).toArray] e R (fun v' L'=>v'=.bool (b && decide (y=x))∧R=L'):=by
 refine a7 (cn hx) fun o2=>?_
 cases b with
 | false =>
  refine a8 (args:=[_,_]) func173 rfl ntmps173 results173 rfl ?_
  (repeat (refine wA ?_;intros))
  rename_i g;refine bk (id:=1) [12] (cK g (iS x v) 83 (0,0)::R) mixed ?_
  (refine tM 0 ?_;refine tN 1 ?_;refine tF 2 ?_)
  refine tk 3 _ rfl (bp rfl hb.tail) ?_
  (refine tM 4 ?_;refine bc 5 rfl rfl zK zE rfl ?_;refine bc 6 rfl rfl zK zE rfl ?_;refine bc 7 rfl rfl zK zE rfl ?_;refine bc 8 rfl rfl zK zE rfl ?_;refine bc 9 rfl rfl zK zE rfl ?_)
  refine bc 10 rfl rfl zK zE rfl ?_
  (refine tk 11 _ rfl (bI rfl rfl) ?_;(refine tO 12 ?_;refine dV (bj rfl) ?_))
  refine bf zK ?_;refine wB ?_;exact aY R rfl zE ⟨rfl,rfl⟩
 | true =>
  have hr:=hr rfl;refine a7 (cn hr) fun o1=>?_
  refine a8 (args:=[_,_]) func173 rfl ntmps173 results173 rfl ?_
  (repeat (refine wA ?_;intros))
  rename_i g;refine bk (id:=1) [12] (cK g (iS x v) 83 (0,0)::R) mixed ?_
  (refine tM 0 ?_;refine tN 1 ?_;refine tF 2 ?_)
  refine tk 3 _ rfl (bp rfl hb.tail) ?_
  (refine tM 4 ?_;refine dt 5 _ rfl (bu rfl) ?_;refine dt 6 _ rfl (bn rfl) ?_;refine dt 7 _ rfl (ba rfl) ?_)
  refine dt 8 _ rfl (cD.dy rfl ha.tail rfl) ?_
  (refine dt 9 _ rfl (cD.dy rfl zA zX) ?_)
  refine A.rv 10 rfl rfl zK ?_;refine bg rfl rfl (yy _ e u v y x (hr.cL zE) (hx.cL zE)) ?_;rintro _ _ ⟨rfl,rfl⟩;refine ⟨fun _=>zE,?_⟩
  (refine tk 11 _ rfl (bK rfl rfl) ?_;(refine tO 12 ?_;refine dV (bj rfl) ?_))
  refine bf zK ?_;refine wB ?_;exact aY R rfl zE ⟨rfl,rfl⟩
def rF (ev:List (Int × Int × Int × du)) (s:da):Prop:=∀ x∈ev,x.1≠3∧(x.1=7∨s.fs.recs≠[])
theorem rF.nil {s:da}:rF [] s:=fun x hx=>by cases hx
theorem da.ok.next {c:dh} {m:Nat} {s:da} (h:s.ok c m) (hm:m<250):s.ok c (m+1) :=
 {h with
  steps:=hm
  DH:=Nat.le_succ_of_le h.DH
  ws:=fun w hw=>⟨(h.ws w hw).1,Nat.le_succ_of_le (h.ws w hw).2.1,(h.ws w hw).2.2⟩
  nb:=by have:=h.nb;omega
  Uk:=Nat.le_succ_of_le h.Uk
  time:=by have:=h.time;omega }
def da.sub (c:dh) (s:da) (b:du):da:={ s with fs:=(s.fs.fC c.f s.ls.cF b (s.time:Int)).2.2 }
theorem BT (c:m6) (cF:List du) (s:pe) (b:du) (now:Int):((s.fC c cF b now).2.2=s)∨(jk b∧¬ b∈cF∧¬ b∈s.q.map (·.1)∧s.fC c cF b now=(1,(s.recs.length:Int),⟨s.recs++[b],s.q++[(b,now)]⟩)):=by
 unfold pe.fC
 split
 ·exact .inl rfl
 ·rename_i h1
  split
  ·exact .inl rfl
  ·rename_i h2
   split
   ·exact .inl rfl
   ·rename_i h3
    split
    ·exact .inl rfl
    ·exact .inr ⟨Classical.not_not.1 h1,h2,h3,rfl⟩
theorem da.Nu {c:dh} {m:Nat} {s:da} {b:du} (h:s.ok c m) (hm:m<250) (hb:b.length≤200):(s.sub c b).ok c (m+1):=by
 unfold da.sub;rcases BT c.f s.ls.cF s.fs b (s.time:Int) with h1|⟨h1,h2,h3,h4⟩
 ·rw [h1];exact h.next hm
 ·rw [h4];have ht:=h.time;have hp:=h.perm
  have hnr:¬ b∈s.fs.recs:=fun q=>by
   rcases aJ.1 (hp.mem_iff.2 q) with q|q
   ·exact h2 q
   ·exact h3 q
  have hf:=h.fs;have hl:=h.DH;have hs:=h.steps;have hql:s.fs.q.length≤s.fs.recs.length:=by have:=hp.length_eq;rw [aa,ae] at this;omega
  exact { h.next hm with
   fs:={
    size:=by show (s.fs.recs++[b]).length≤1000;rw [aa,aj];omega
    oh:=fun x hx=>by
     rcases aJ.1 hx with hx|hx
     ·exact hf.oh x hx
     ·rw [an.1 hx];exact ⟨h1,hb⟩
    BH:=by show (s.fs.q++[(b,(s.time:Int))]).length≤1000;rw [aa,aj];omega
    pf:=fun x hx=>by
     rcases aJ.1 hx with hx|hx
     ·exact hf.pf x hx
     ·rw [an.1 hx];exact hb
    wQ:=fun x hx=>by
     rcases aJ.1 hx with hx|hx
     ·exact hf.wQ x hx
     ·rw [an.1 hx]
      show -9223372036854775808≤(s.time:Int)∧(s.time:Int)≤1000000
      omega }
   recs:=List.nodup_append.2 ⟨h.recs,by simp,fun x hx y hy=>by rw [an.1 hy];rintro rfl;exact hnr hx⟩
   DH:=by show (s.fs.recs++[b]).length≤m+1;rw [aa,aj];omega
   perm:=by
    show (s.ls.cF++(s.fs.q++[(b,(s.time:Int))]).map (·.1)).Perm (s.fs.recs++[b])
    rw [ah,← aM];exact hp.append_right _ }
theorem Jc.cL {L L':List cJ} {w:Nat} {c:dh} {a:ee} (h:Jc L' w c a) (f:cz L L'):Jc L w c a:=by
 obtain ⟨vl,vu,vs,h1,h2,h3,h4,h5,h6⟩:=h.all;exact ⟨vl,vu,vs,h1,h2,h3.cL f,h4.cL f,h5.cL f,fun i hi Om=>⟨(h6 i hi Om).1.cL f,(h6 i hi Om).2.1.cL f,(h6 i hi Om).2.2.cL f⟩⟩
theorem ee.ok.more {a:ee} {M N:cJ} {w:Nat} {c:dh} {m:Nat} {s:da} (h:a.ok M w c m s) (f:cz [N] [M]):a.ok N w c m s :=
 {h with wV:=h.wV.cL f,root:=h.root.cL f,es:=fun x hx=>⟨(h.es x hx).1.cL f,(h.es x hx).2⟩,kc:=fun p hp=>(h.kc p hp).cL f,all:=h.all.cL f }
theorem ee.ok.to {a:ee} {M:cJ} {w:Nat} {c:dh} {m m':Nat} {s s':da} (h:a.ok M w c m s) (hs:s'.ok c m') (hm:m≤m') (h1:s'.signed=s.signed) (h2:s'.eh=s.eh):a.ok M w c m' s' :=
 {h with root:=by unfold da.sv;rw [h1];exact h.root,eh:=by rw [h2];exact h.eh,st:=hs,ec:=Nat.le_trans h.ec (Nat.mul_le_mul_left _ hm) }
theorem ee.ok.seen {a:ee} {M:cJ} {w:Nat} {c:dh} {m:Nat} {s:da} (h:a.ok M w c m s) {x:Ev} (ve:Value) (hx:db [M] x.v x.t) (hl:a.es.length+1≤600*m) (ht:x.t.length≤1000):ee.ok { a with ve:=ve,es:=a.es++[x] } M w c m s :=
 {h with
  es:=fun y hy=>by
   rcases aJ.1 hy with hy|hy
   ·exact h.es y hy
   ·rw [an.1 hy];exact ⟨hx,ht⟩
  all:=⟨h.all.all⟩
  ec:=by show (a.es++[x]).length≤_;rw [aa,aj];exact hl }
theorem ee.ok.kr {a:ee} {M:cJ} {w:Nat} {c:dh} {m:Nat} {s:da} (h:a.ok M w c m s) (kr:List (Int × Value)):ee.ok { a with kr:=kr } M w c m s:={ h with all:=⟨h.all.all⟩ }
theorem ee.ok.kl {a:ee} {M:cJ} {w:Nat} {c:dh} {m:Nat} {s:da} (h:a.ok M w c m s) (kl:List (Int × Value)):ee.ok { a with kl:=kl } M w c m s:={ h with all:=⟨h.all.all⟩ }
theorem Fx {A B:cJ}:cz [dI [A,B]] [A]:=cj (cT (M:=[_,_]) (L:=[])) (bh bF)
theorem Fy {A B:cJ}:cz [dI [A,B]] [B]:=cj (cT (M:=[_,_]) (L:=[])) (cz.drop (bh bF))
instance abx:Hn prog 166 fH (.string (str [])):=Se underlying166 underlying3 zeroValue9
abbrev oB (k n to wh:Int) (v:Value):List Value:=[.int .i64 k,.int .i64 n,.int .i64 to,.int .i64 wh,v]
abbrev eI:TypeId:=56
theorem K4 (w:Nat) (c:dh) (m:Nat) (s:da) (ev:List (Int × Int × Int × du)) (k n to wh:Int) (v:Value) (b:du) (hv:db R v b) (hb:b.length≤200) (hm:m<250) :
 Ct prog 82 #[pt w,.agg (oB k n to wh v).toArray] e (dM w c m s ev::R) (fun v' L'=>v'=.tuple #[.int .i64 (s.fs.fC c.f s.ls.cF b (s.time:Int)).1,.int .i64 0]∧∃ jQ,rF jQ (s.sub c b)∧L'=dM w c (m+1) (s.sub c b) (ev++jQ)::R):=by
 refine gZ fun a M ha he=>?_
 have eK:=ha.st;have m9:=da.Nu eK hm hb;have ht:=eK.time;have Ph:=eK.DH;have hql:s.fs.q.length≤s.fs.recs.length:=by have:=eK.perm.length_eq;rw [aa,ae] at this;omega
 have Q5:=ha.ec;refine a7 (cn (hv.cL (show cz (dP w c s a M R) R from zE))) fun o1=>?_
 refine a8 (args:=[_,_]) func82 rfl ntmps82 results82 rfl ?_
 (repeat (refine wA ?_;intros))
 refine aZ rfl rfl (Ct.at zP (mW _ e a.gf a.xq a.gl c.f s.fs)) ?_;rintro _ _ ⟨rfl,rfl⟩
 (repeat' first|refine W.pF (id:=3) (fun j:Nat × Nat=>[(0,pt w),(3,pt j.1),(6,.int .i64 (s.fs.recs.length:Int)),(7,pt j.2)]) (fun j=>cK j.2 [.int .i64 (s.fs.fC c.f s.ls.cF b (s.time:Int)).1,.int .i64 (s.fs.fC c.f s.ls.cF b (s.time:Int)).2.1] 254 (0,0)::cK j.1 (oB k n to wh v) eI (0,0)::dP w c (s.sub c b) a M R) (fun _=>True) ?_ ?_|refine Zb ?_|apply Ze|apply Zf)
 rotate_left
 ·refine ⟨?_⟩;rename_i g3;refine bk (id:=2) [12] (cK g3 (oB k n to wh v) eI (0,0)::cK w (a.cells c s) di (0,0)::M::R) mixed ?_
  (refine tM 0 ?_;refine tN 1 ?_;refine tF 2 ?_;refine tL 3 ?_;refine tF 4 ?_;refine tL 5 ?_;refine tM 6 ?_;refine tN 7 ?_;refine tF 8 ?_;refine tL 9 ?_)
  refine A.two 10 11 rfl rfl rfl rfl zK ?_ ?_
  ·refine bg rfl rfl (Ct.AR zP zP (uy _ e a.gf a.xq a.gl a.ld a.lk (cQ 0) s.ls c.f s.fs v b (s.time:Int) (hv.cL zE) hb zo zo zo)) ?_;rintro _ _ ⟨rfl,rfl⟩;refine ⟨fun _=>zE,?_⟩;refine tO 11 ?_;refine bQ (cs:=[.int .i64 0,.int .i64 0]) rfl rfl fun g7=>⟨fun _=>zE,?_⟩
   refine tO 12 ?_;refine zg ?_;refine ⟨zN,?_⟩;refine bf zK ?_;exact bJ (g3,g7) trivial zS zE
  ·refine bQ (cs:=[.int .i64 0,.int .i64 0]) rfl rfl fun g7=>⟨fun _=>zE,?_⟩
   refine tO 10 ?_;refine bg rfl rfl (Ct.AR zP zP (uy _ e a.gf a.xq a.gl a.ld a.lk (cQ 0) s.ls c.f s.fs v b (s.time:Int) (hv.cL zE) hb zo zo zo)) ?_;rintro _ _ ⟨rfl,rfl⟩;refine ⟨fun _=>zE,?_⟩;refine tO 12 ?_;refine zg ?_;refine ⟨zN,?_⟩;refine bf zK ?_;exact bJ (g3,g7) trivial zS zE
 rintro ⟨g3,g7⟩ -;dsimp only;refine wB ?_;refine aZ rfl rfl (Ct.at zP (mW _ e a.gf a.xq a.gl c.f (s.sub c b).fs)) ?_;rintro _ _ ⟨rfl,rfl⟩;rcases BT c.f s.ls.cF s.fs b (s.time:Int) with h1|⟨h1,h2,h3,h4⟩
 ·have hs:s.sub c b=s:=by unfold da.sub;rw [h1]
  have er:a.ok M w c (m+1) s:={ ha with st:=by rw [← hs];exact m9,ec:=by omega }
  rw [hs];refine wB ?_;refine aY (dM w c (m+1) s ev::R) rfl (cj (show cz _ (dP w c s a M R) from zE) (dT er he)) ⟨rfl,[],rF.nil,by rw [aK]⟩
 ·have hs:s.sub c b={ s with fs:=⟨s.fs.recs++[b],s.fs.q++[(b,(s.time:Int))]⟩ }:=by unfold da.sub;rw [h4]
  have hlen:(s.sub c b).fs.recs.length=s.fs.recs.length+1:=by rw [hs];simp
  rw [h4];refine wB ?_;refine bk (id:=4) [10] (cK g7 [.int .i64 1,.int .i64 (s.fs.recs.length:Int)] 254 (0,0)::cK g3 (oB k n to wh v) eI (0,0)::dP w c (s.sub c b) a M R) mixed ?_
  (refine tM 0 ?_;refine tN 1 ?_;refine tF 2 ?_;refine tF 3 ?_;refine tL 4 ?_;refine tF 5 ?_;refine tL 6 ?_;refine tF 7 ?_;refine tL 8 ?_)
  refine tk 9 _ rfl (b8 rfl (hv.cL zE)) ?_;refine tO 10 ?_;refine Do.jW (key:=fH) (k:=(s.fs.recs.length:Int)) rfl rfl rfl zP ⟨zN,?_⟩;refine bf zK ?_
  (repeat (refine wA ?_;intros))
  refine bk (id:=5) [] (cK g7 [.int .i64 1,.int .i64 (s.fs.recs.length:Int)] 254 (0,0)::cK g3 (oB k n to wh v) eI (0,0)::R) mixed ?_
  (refine tM 0 ?_;refine tF 1 ?_;refine tL 2 ?_;refine tF 3 ?_;refine tL 4 ?_)
  refine tO 5 ?_;refine bg rfl rfl (ug _ e v b (hv.cL zE) zo) ?_;rintro _ _ ⟨ad,kk,rfl,rfl⟩;refine ⟨fun _=>zE,?_⟩;refine tO 6 ?_;refine bg rfl rfl (Ct.AR zP zP (ir _ e w c (s.sub c b) { a with kr:=lG (s.fs.recs.length:Int) (.string (str b)) a.kr } 1 (s.fs.recs.length:Int) 0 (.slice ad (cY b).length kk) (cY b) rfl zd)) ?_;rintro _ _ ⟨rfl,ve,rfl⟩;refine ⟨fun _=>zE,?_⟩;refine bf zK ?_;refine wB ?_;have er:=(((ha.more (Fx (A:=M) (B:=cS (.slice ad (cY b).length kk) (cY b)))).kr (lG (s.fs.recs.length:Int) (.string (str b)) a.kr)).to m9 (Nat.le_succ m) rfl rfl).seen (x:=⟨1,(s.fs.recs.length:Int),0,.slice ad (cY b).length kk,cY b⟩) ve (cE.cL (bb .zero) Fy) zd (by show (ei _ _).length≤1000;rw [dg];omega);refine aY (dM w c (m+1) (s.sub c b) (ev++[(1,(s.fs.recs.length:Int),0,cY b)])::R) rfl (cj ?_ (dT er (by dsimp only;rw [ah,he];rfl))) ⟨rfl,_,?_,rfl⟩
  ·exact cj (ep (A:=M) (B:=cS (.slice ad (cY b).length kk) (cY b)) zP zP) zE
  ·intro x hx;rw [an.1 hx];exact ⟨(by decide:(1:Int)≠3),.inr (by rw [hs];simp)⟩
def da.Ou (s:da) (n:Nat):da:={ s with time:=s.time+n }
theorem da.Nv {c:dh} {m:Nat} {s:da} {n:Nat} (h:s.ok c m) (hm:m<250) (hn:n≤1000):(s.Ou n).ok c (m+1) :=
 {h.next hm with
  time:=by have:=h.time;show s.time+n≤1000*(m+1);omega }
theorem H9 (w:Nat) (c:dh) (m:Nat) (s:da) (ev:List (Int × Int × Int × du)) (k to wh:Int) (n:Nat) (v:Value) (hv:v.oneCell'=true) (hn:n≤1000) (hm:m<250) :
 Ct prog 83 #[pt w,.agg (oB k n to wh v).toArray] e (dM w c m s ev::R) (fun v' L'=>v'=.tuple #[.int .i64 ((s.Ou n).time:Int),.int .i64 0]∧L'=dM w c (m+1) (s.Ou n) ev::R):=by
 refine gZ fun a M ha he=>?_
 have eK:=ha.st;have m9:=da.Nv eK hm hn;have ht:=eK.time;have er:=ha.to m9 (Nat.le_succ m) rfl rfl;refine a8 (args:=[_,_]) func83 rfl ntmps83 results83 rfl ?_
 (repeat (refine wA ?_;intros))
 rename_i g3;refine bk (id:=3) [7,8,9] (cK g3 (oB k n to wh v) eI (0,0)::cK w (a.cells c s) di (0,0)::R) mixed ?_
 (refine tM 0 ?_;refine tN 1 ?_;refine tF 2 ?_;refine tL 3 ?_;refine tF 4 ?_;refine tL 5 ?_;refine tk 6 _ rfl (cD.kQ rfl rfl zo) ?_;(refine tO 7 ?_;refine dV (bn rfl) ?_);(refine tO 8 ?_;refine dV (ba rfl) ?_);(refine tO 9 ?_;refine tf ?_;refine ⟨zN,?_⟩))
 refine bf zK ?_;refine wB ?_;refine aY (dM w c (m+1) (s.Ou n) ev::R) rfl (cj (show cz _ (dP w c (s.Ou n) a M R) from zE) (dT er he)) ⟨rfl,rfl⟩
abbrev pW (l:List Ev):List (Int × Int × Int × du):=l.map fun x=>(x.k,x.a,x.b,x.t)
theorem da.ok.some {c:dh} {m:Nat} {s:da} (h:s.ok c m) (hl:0<s.ls.cF.length):s.fs.recs≠[]:=fun q=>by
 have:=h.perm.length_eq;rw [q,aa,List.length_nil] at this
 omega
theorem da.ok.short {c:dh} {m:Nat} {s:da} (h:s.ok c m):s.ls.cF.length≤250:=by
 have:=h.perm.length_eq;rw [aa] at this
 have:=h.DH;have:=h.steps
 omega
theorem zx {l:List du} {j:Nat} (h:j<l.length):l.getD j []∈l:=by
 have:l.getD j []=l[j]'h:=by simp [List.getD,ab h]
 rw [this];exact aA h
theorem pA (w:Nat) (c:dh) (m:Nat) (s:da) (a:ee) (M:cJ) (ha:a.ok M w c m s) (i:Nat) (hi:i≤1000) (Q5:a.es.length+256≤600*m) :
 Ct prog 170 #[pt w,.int .i64 (i:Int)] e (dP w c s a M R) (fun v' L'=>v'=.tuple #[]∧∃ (a':ee) (M':cJ) (jQ:List (Int × Int × Int × du)),a'.ok M' w c m s∧pW a'.es=pW a.es++jQ∧jQ.length≤250∧rF jQ s∧L'=dP w c s a' M' R):=by
 have Is:=ha.st.short;have SM:=ha.st.steps;refine a8 (args:=[_,_]) func170 rfl ntmps170 results170 rfl ?_;refine wB ?_;refine bq (ι:=Nat × ee × cJ × List (Int × Int × Int × du)) (fun j=>[(0,pt w),(4,.int .i64 (j.1:Int))]) (fun j=>dP w c s j.2.1 j.2.2.1 R) (fun j=>i≤j.1∧j.1≤1000∧j.2.1.ok j.2.2.1 w c m s∧pW j.2.1.es=pW a.es++j.2.2.2∧(j.2.2.2.length≤j.1∧(j.2.2.2=[]∨j.1≤s.ls.cF.length))∧rF j.2.2.2 s) (fun j=>s.ls.cF.length - j.1) (i,a,M,[]) ⟨aS _,hi,ha,by simp,⟨aH _,.inl rfl⟩,rF.nil⟩ zS aX ?_;rintro ⟨j,b,N,ev⟩ ⟨DC,hj1,hb,DE,⟨F8,Sf⟩,Gh⟩;dsimp only at DC hb DE F8 Gh Sf hj1 ⊢
 have nK:b.es.length=a.es.length+ev.length:=by have:=congrArg List.length DE;simpa using this
 have Nw:ev.length≤250:=by
  rcases Sf with h|h
  ·rw [h];simp
  ·omega
 refine wB ?_;refine aZ rfl rfl (Ct.at zP (yQ _ e b.gl b.ld b.lk (cQ 0) s.ls)) ?_;rintro _ _ ⟨rfl,rfl⟩
 by_cases cO:j<s.ls.cF.length
 rotate_left
 ·refine wB ?_;refine bT (dP w c s b N R) rfl zE ⟨rfl,b,N,ev,hb,DE,Nw,Gh,rfl⟩
 refine wB ?_;refine aZ rfl rfl (Ct.at zP (qy _ e b.gl b.ld b.lk (cQ 0) s.ls (j:Int) zo)) ?_;rintro _ _ (⟨h1,-,-⟩|⟨-,-,ad,kk,rfl,rfl⟩)
 ·exact absurd ⟨by omega,by omega⟩ h1
 rw [Int.toNat_natCast];have VH:(s.ls.cF.getD j []).length≤200:=hb.st.ls.short _ (zx cO)
 generalize s.ls.cF.getD j []=x at *
 refine wB ?_;refine bx _ (cD.kE (key:=fH) (k:=(j:Int)) rfl rfl zP) rfl ?_
 generalize (gJ (j:Int) b.kl).getD (.string (str []))=vk
 cases hk:(gJ (j:Int) b.kl).isSome with
 | true =>
  refine wB ?_;refine bi (j+1,b,N,ev) ⟨by dsimp only;omega,by dsimp only;omega,hb,DE,⟨by dsimp only;omega,.inr cO⟩,Gh⟩ zd zS zE
 | false =>
  refine wB ?_;refine bk (id:=6) [8] (cS (.slice ad x.length kk) x::dP w c s b N R) mixed ?_
  (refine tM 0 ?_;refine tN 1 ?_;refine tF 2 ?_;refine tF 3 ?_;refine tL 4 ?_;refine tM 5 ?_;refine tM 6 ?_)
  refine tk 7 _ rfl (b8 rfl (bb .zero)) ?_;refine tO 8 ?_;refine Do.jW (key:=fH) (k:=(j:Int)) rfl rfl rfl zP ⟨zN,?_⟩;refine bf zK ?_;refine wB ?_;refine aZ rfl rfl (qU _ e (.slice ad x.length kk) x (bb zP) zo) ?_;rintro _ _ ⟨dW,k2,rfl,rfl⟩;refine aZ rfl rfl (Ct.AR zP zP (ir _ e w c s { b with kl:=lG (j:Int) (.string (str x)) b.kl } 2 (j:Int) 0 (.slice dW (cY x).length k2) (cY x) rfl zd)) ?_;rintro _ _ ⟨rfl,ve,rfl⟩;have er:=((hb.more (Fx (A:=N) (B:=cS (.slice dW (cY x).length k2) (cY x)))).kl (lG (j:Int) (.string (str x)) b.kl)).seen (x:=⟨2,(j:Int),0,.slice dW (cY x).length k2,cY x⟩) ve (cE.cL (bb .zero) Fy) zd (by show (ei _ _).length≤1000;rw [dg];omega);refine wB ?_;refine bi (j+1,{ b with kl:=lG (j:Int) (.string (str x)) b.kl,ve:=ve,es:=b.es++[⟨2,(j:Int),0,.slice dW (cY x).length k2,cY x⟩] },dI [N,cS (.slice dW (cY x).length k2) (cY x)],ev++[(2,(j:Int),0,cY x)]) ⟨by dsimp only;omega,by dsimp only;omega,er,by dsimp only;rw [pW,ah,← pW,DE,aM];rfl,⟨by dsimp only;rw [aa,aj];omega,.inr cO⟩,fun y hy=>?_⟩ zd zS (cj (ep (A:=N) (B:=cS (.slice dW (cY x).length k2) (cY x)) zP zP) zE);rcases aJ.1 hy with hy|hy
  ·exact Gh y hy
  ·rw [an.1 hy];exact ⟨(by decide:(2:Int)≠3),.inr (ha.st.some zo)⟩
theorem zC (w:Nat) (c:dh) (m:Nat) (s:da) (a:ee) (M:cJ) (ha:a.ok M w c m s) (Q5:a.es.length+256≤600*m) :
 Ct prog 184 #[pt w] e (dP w c s a M R) (fun v' L'=>v'=.tuple #[]∧∃ (a':ee) (M':cJ) (jQ:List (Int × Int × Int × du)),a'.ok M' w c m s∧pW a'.es=pW a.es++jQ∧jQ.length≤250∧rF jQ s∧L'=dP w c s a' M' R):=by
 have Is:=ha.st.DH;have SM:=ha.st.steps;refine a8 (args:=[_]) func184 rfl ntmps184 results184 rfl ?_;refine wB ?_;refine aZ rfl rfl (Ct.at zP (mW _ e a.gf a.xq a.gl c.f s.fs)) ?_;rintro _ _ ⟨rfl,rfl⟩;refine wB ?_;refine bq (ι:=Nat × ee × cJ × List (Int × Int × Int × du)) (fun j=>[(0,pt w),(11,.int .i64 (s.fs.recs.length:Int)),(12,.int .i64 (j.1:Int))]) (fun j=>dP w c s j.2.1 j.2.2.1 R) (fun j=>j.1≤s.fs.recs.length∧j.2.1.ok j.2.2.1 w c m s∧pW j.2.1.es=pW a.es++j.2.2.2∧j.2.2.2.length≤j.1∧rF j.2.2.2 s) (fun j=>s.fs.recs.length - j.1) (0,a,M,[]) ⟨aH _,ha,by simp,aH _,rF.nil⟩ zS zE ?_;rintro ⟨j,b,N,ev⟩ ⟨DC,hb,DE,F8,Gh⟩;dsimp only at DC hb DE F8 Gh ⊢
 have nK:b.es.length=a.es.length+ev.length:=by have:=congrArg List.length DE;simpa using this
 by_cases cO:j<s.fs.recs.length
 rotate_left
 ·refine wB ?_;refine bT (dP w c s b N R) rfl zE ⟨rfl,b,N,ev,hb,DE,by omega,Gh,rfl⟩
 refine wB ?_;refine aZ rfl rfl (Ct.at zP (Ar _ e b.gf b.xq b.gl c.f s.fs j cO)) ?_;rintro _ _ ⟨ad,kk,rfl,rfl⟩;have VH:(s.fs.recs.getD j []).length≤200:=(hb.st.fs.oh _ (zx cO)).2;have oG:s.fs.recs≠[]:=fun q=>by rw [q] at cO;exact absurd cO (Nat.not_lt_zero _)
 generalize s.fs.recs.getD j []=x at *
 refine wB ?_;refine bx _ (cD.kE (key:=fH) (k:=(j:Int)) rfl rfl zP) rfl ?_
 generalize (gJ (j:Int) b.kr).getD (.string (str []))=vk
 cases hk:(gJ (j:Int) b.kr).isSome with
 | true =>
  refine wB ?_;refine bi (j+1,b,N,ev) ⟨cO,hb,DE,by dsimp only;omega,Gh⟩ zd zS zE
 | false =>
  refine wB ?_;refine bk (id:=6) [8] (cS (.slice ad x.length kk) x::dP w c s b N R) mixed ?_
  (refine tM 0 ?_;refine tN 1 ?_;refine tF 2 ?_;refine tF 3 ?_;refine tL 4 ?_;refine tM 5 ?_;refine tM 6 ?_)
  refine tk 7 _ rfl (b8 rfl (bb .zero)) ?_;refine tO 8 ?_;refine Do.jW (key:=fH) (k:=(j:Int)) rfl rfl rfl zP ⟨zN,?_⟩;refine bf zK ?_;refine wB ?_;refine aZ rfl rfl (ug _ e (.slice ad x.length kk) x (bb zP) zo) ?_;rintro _ _ ⟨dW,k2,rfl,rfl⟩;refine aZ rfl rfl (Ct.AR zP zP (ir _ e w c s { b with kr:=lG (j:Int) (.string (str x)) b.kr } 1 (j:Int) 0 (.slice dW (cY x).length k2) (cY x) rfl zd)) ?_;rintro _ _ ⟨rfl,ve,rfl⟩;have er:=((hb.more (Fx (A:=N) (B:=cS (.slice dW (cY x).length k2) (cY x)))).kr (lG (j:Int) (.string (str x)) b.kr)).seen (x:=⟨1,(j:Int),0,.slice dW (cY x).length k2,cY x⟩) ve (cE.cL (bb .zero) Fy) zd (by show (ei _ _).length≤1000;rw [dg];omega);refine wB ?_;refine bi (j+1,{ b with kr:=lG (j:Int) (.string (str x)) b.kr,ve:=ve,es:=b.es++[⟨1,(j:Int),0,.slice dW (cY x).length k2,cY x⟩] },dI [N,cS (.slice dW (cY x).length k2) (cY x)],ev++[(1,(j:Int),0,cY x)]) ⟨cO,er,by dsimp only;rw [pW,ah,← pW,DE,aM];rfl,by dsimp only;rw [aa,aj];omega,fun y hy=>?_⟩ zd zS (cj (ep (A:=N) (B:=cS (.slice dW (cY x).length k2) (cY x)) zP zP) zE);rcases aJ.1 hy with hy|hy
  ·exact Gh y hy
  ·rw [an.1 hy];exact ⟨(by decide:(1:Int)≠3),.inr oG⟩
theorem uH {old:List du}:∀ {l fresh:List du},(old++fresh++l).Nodup→fg old fresh l=fresh++l
 | [],fresh,h=>by simp [fg]
 | b::l,fresh,h=>by
  unfold fg;have h1:¬ b∈old++fresh:=fun q=>(List.nodup_append.1 h).2.2 _ q _ (List.mem_cons_self ..) rfl
  rw [aB h1,uH (by simpa using h),aM];rfl
def da.Gi (c:dh) (s:da):da:=if s.fs.pg c.f (s.time:Int)=true then { s with fs:=s.fs.y6 c.f,ls:=s.ls.add (s.fs.some c.f) } else s
def da.K5 (c:dh) (s:da):Nat:=if s.fs.pg c.f (s.time:Int)=true then (s.fs.some c.f).length else 0
theorem da.ok.nodup {c:dh} {m:Nat} {s:da} (h:s.ok c m):(s.ls.cF++s.fs.q.map (·.1)).Nodup:=h.perm.nodup_iff.2 h.recs
theorem da.ok.fresh {c:dh} {m:Nat} {s:da} (h:s.ok c m):s.ls.fresh (s.fs.some c.f)=s.fs.some c.f:=by
 unfold fM.fresh pe.some;have h1:=h.nodup
 rw [uH (by
  rw [aK];refine h1.sublist (List.Sublist.append_left ((List.take_sublist _ _).map _) _)),List.nil_append]
theorem da.ok.fit {c:dh} {m:Nat} {s:da} (h:s.ok c m):s.ls.cF.length+(s.ls.fresh (s.fs.some c.f)).length≤250:=by
 rw [h.fresh];have h1:=h.perm.length_eq;rw [aa,ae] at h1
 have h2:(s.fs.some c.f).length≤s.fs.q.length:=by unfold pe.some;rw [ae,aF];omega
 have:=h.DH;have:=h.steps
 omega
theorem K6 {l m:List du} {k:Nat} {x:List du} (h:x=l.take x.length):x=(l++m).take x.length:=by
 have h1:=congrArg List.length h;rw [aF] at h1
 rw [List.take_append_of_le_length zo];exact h
end Go.Proofs
namespace Go.Proofs
attribute [local irreducible] Bs.cD Bs.Do Bs.O Bs.W Bs.Fin Bs.A Bs.Ct Bs.cE Bs.Rd Bs.Sat Bs.cK Bs.Ob Bs.dE Bs.View Bs.cz Bs.Ex Bs.dI Bs.Pu Bs.eY Bs.dN Bs.dZ
open Go.Bs
open Tryz
variable (R:List cJ) (e:World)
theorem da.Nx {c:dh} {m:Nat} {s:da} (h:s.ok c m) (hm:m<250):(s.Gi c).ok c (m+1):=by
 unfold da.Gi
 split
 rotate_left
 ·exact h.next hm
 have hi:(s.ls.add (s.fs.some c.f)).cF=s.ls.cF++s.fs.some c.f:=by rw [fM.BE,h.fresh]
 have hq:s.fs.some c.f++(s.fs.q.drop c.f.size).map (·.1)=s.fs.q.map (·.1):=by
  unfold pe.some;rw [← ah,List.take_append_drop]
 have BO:∀ b∈s.fs.some c.f,b∈s.fs.q.map (·.1):=fun b hb=>by rw [← hq];exact List.mem_append_left _ hb
 have hl:=h.ls;have hf:=h.fs;have pN:=h.fit;rw [h.fresh] at pN
 have z9:=h.nodup;have Q6:(s.ls.add (s.fs.some c.f)).last=s.ls.last:=by unfold fM.add;split<;>rfl
 have Wm:(s.ls.add (s.fs.some c.f)).keys=s.ls.keys:=by unfold fM.add;split<;>rfl
 have U7:(s.ls.cF++s.fs.some c.f).Nodup:=by
  rw [← hq,← aM] at z9
  exact (List.nodup_append.1 z9).1
 exact { h.next hm with
  ls:={
   full:=fun r hr=>by
    unfold fM.add at hr
    split at hr
    ·exact hl.full r hr
    ·rename_i oG;rcases aJ.1 hr with hr|hr
     ·exact hl.full r hr
     ·rw [an.1 hr];exact oG
   nodup:=by rw [hi];exact U7
   size:=by rw [hi,aa];omega
   short:=fun b hb=>by
    rw [hi] at hb
    rcases aJ.1 hb with hb|hb
    ·exact hl.short b hb
    ·obtain ⟨x,hx,rfl⟩:=aE.1 (BO b hb);exact hf.pf x hx
   keys:=by rw [Wm];exact hl.keys
   last:=fun x hx=>by
    rw [Q6] at hx
    obtain ⟨h1,h2,h3⟩:=hl.last x hx;refine ⟨h1,h2,?_⟩;rw [hi,aa];omega }
  last:=fun x hx=>by
   show Ae (s.ls.add (s.fs.some c.f)).cF x
   rw [hi];exact (h.last x (by rw [← Q6];exact hx)).more
  fs:={
   size:=hf.size
   oh:=hf.oh
   BH:=by show (s.fs.q.drop c.f.size).length≤1000;rw [aO];have:=hf.BH;omega
   pf:=fun x hx=>hf.pf x (aV hx)
   wQ:=fun x hx=>hf.wQ x (aV hx) }
  perm:=by
   show ((s.ls.add (s.fs.some c.f)).cF++(s.fs.q.drop c.f.size).map (·.1)).Perm s.fs.recs
   rw [hi,aM,hq];exact h.perm
  ws:=fun x hx=>⟨(h.ws x hx).1,Nat.le_succ_of_le (h.ws x hx).2.1,by show lL (s.ls.add (s.fs.some c.f)).cF _;rw [hi];exact (h.ws x hx).2.2.more⟩
  cur:=fun x hx=>⟨by show Ae (s.ls.add (s.fs.some c.f)).cF _;rw [hi];exact (h.cur x hx).1.more,(h.cur x hx).2⟩
  done:=fun hn=>⟨by show Ae (s.ls.add (s.fs.some c.f)).cF _;rw [hi];exact (h.done hn).1.more,(h.done hn).2⟩
  SO:=by show s.mo.cF=(s.ls.add (s.fs.some c.f)).cF.take _;rw [hi];exact K6 (k:=0) h.SO
  eh:=fun x hx=>by show fW.ok c (s.ls.add (s.fs.some c.f)).cF x;rw [hi];exact (h.eh x hx).more
  signed:=fun x hx=>⟨by show lL (s.ls.add (s.fs.some c.f)).cF _;rw [hi];exact (h.signed x hx).1.more,(h.signed x hx).2⟩ }
theorem Ia (w:Nat) (c:dh) (m:Nat) (s:da) (ev:List (Int × Int × Int × du)) (k n to wh:Int) (v:Value) (hv:v.oneCell'=true) (hm:m<250) :
 Ct prog 84 #[pt w,.agg (oB k n to wh v).toArray] e (dM w c m s ev::R) (fun v' L'=>v'=.tuple #[.int .i64 (s.K5 c:Int),.int .i64 0]∧∃ jQ,rF jQ (s.Gi c)∧L'=dM w c (m+1) (s.Gi c) (ev++jQ)::R):=by
 refine gZ fun a M ha he=>?_
 have eK:=ha.st;have m9:=da.Nx eK hm;have er:=ha.to m9 (Nat.le_succ m) (by unfold da.Gi;split<;>rfl) (by unfold da.Gi;split<;>rfl);have ht:=eK.time;have Q5:=ha.ec;have ln:=eK.short;refine a8 (args:=[_,_]) func84 rfl ntmps84 results84 rfl ?_
 (repeat (refine wA ?_;intros))
 refine aZ rfl rfl (Ct.at zP (yQ _ e a.gl a.ld a.lk (cQ 0) s.ls)) ?_;rintro _ _ ⟨rfl,rfl⟩;refine wB ?_;rename_i g3;refine bk (id:=2) [13] (cK g3 (oB k n to wh v) eI (0,0)::cK w (a.cells c s) di (0,0)::M::R) mixed ?_
 (refine tM 0 ?_;refine tN 1 ?_;refine tF 2 ?_;refine tL 3 ?_;refine tM 4 ?_;refine tN 5 ?_;refine tF 6 ?_;refine tL 7 ?_)
 refine tO 8 ?_;refine bg rfl rfl (Ct.AR zP zP (HE _ e a.gf a.xq a.gl a.ld a.lk (cQ 0) s.ls c.f s.fs (s.time:Int) zo (by have:=eK.fit;omega))) ?_;have hN0:s.fs.pg c.f (s.time:Int)=false→s.Gi c=s∧s.K5 c=0:=fun h=>by unfold da.Gi da.K5;rw [h];exact ⟨rfl,rfl⟩
 have SP:s.fs.pg c.f (s.time:Int)=true→s.Gi c={ s with fs:=s.fs.y6 c.f,ls:=s.ls.add (s.fs.some c.f) }∧s.K5 c=(s.fs.some c.f).length:=fun h=>by unfold da.Gi da.K5;rw [h];exact ⟨rfl,rfl⟩
 rintro _ _ (⟨hd,rfl,rfl⟩|⟨hd,ao,co,rfl,rfl⟩)
 ·obtain ⟨h1,h2⟩:=hN0 hd;rw [h1] at er ⊢
  rw [h2];refine ⟨fun _=>zE,?_⟩
  (refine tM 9 ?_;refine tk 10 _ rfl (bl rfl rfl) ?_;refine tk 11 _ rfl (bl rfl rfl) ?_;refine tA 12 ?_;(refine tO 13 ?_;refine dV (bj rfl) ?_))
  refine bf zK ?_;refine wB ?_;refine aZ rfl rfl (Ct.cL (pA (cK g3 (oB k n to wh v) eI (0,0)::R) e w c (m+1) s a M er s.ls.cF.length zo zo) zE) ?_;rintro _ _ ⟨rfl,a2,M2,Ny,nI,Nw,-,Gh,rfl⟩;refine wB ?_;refine aY (dM w c (m+1) s (ev++Ny)::R) rfl (cj (show cz _ (dP w c s a2 M2 R) from zE) (dT nI (by rw [← he];exact Nw))) ⟨rfl,Ny,Gh,rfl⟩
 ·obtain ⟨h1,h2⟩:=SP hd;rw [h1] at er ⊢
  rw [h2];refine ⟨fun _=>zE,?_⟩
  generalize (s.fs.some c.f).length=nn at *
  (refine tM 9 ?_;refine tk 10 _ rfl (bl rfl rfl) ?_;refine tk 11 _ rfl (bl rfl rfl) ?_;refine tA 12 ?_;(refine tO 13 ?_;refine dV (bj rfl) ?_))
  refine bf zK ?_;refine wB ?_;refine aZ rfl rfl (Ct.cL (pA (cK g3 (oB k n to wh v) eI (0,0)::R) e w c (m+1) _ a M er s.ls.cF.length zo zo) zE) ?_;rintro _ _ ⟨rfl,a2,M2,Ny,nI,Nw,-,Gh,rfl⟩;refine wB ?_;refine aY _ rfl (cj (show cz _ (dP w c { s with fs:=s.fs.y6 c.f,ls:=s.ls.add (s.fs.some c.f) } a2 M2 R) from zE) (dT nI (ev:=ev++Ny) (by rw [← he];exact Nw))) ⟨rfl,Ny,Gh,rfl⟩
theorem BU (now:Nat):∀ (m:Nat) (s:cP),(cP.lQ now m s).cur=s.cur∧(cP.lQ now m s).kept=s.kept∧(cP.lQ now m s).done=s.done∧(cP.lQ now m s).dk=s.dk
 | 0,_=>⟨rfl,rfl,rfl,rfl⟩
 | m+1,s=>by
  obtain ⟨h1,h2,h3,h4⟩:=BU now m s;exact ⟨h1,h2,h3,h4⟩
theorem K7 (p:jG) (s:cP) (x:jV) (now:Nat):(s.ie p x now).done=s.done∧(s.ie p x now).dk=s.dk∧((s.ie p x now)=s∨((s.ie p x now).cur=some x∧(s.ie p x now).kept=[])):=by
 unfold cP.ie
 split
 ·obtain ⟨h1,h2,h3,h4⟩:=BU now s.st.length { s with cur:=some x,kept:=[] };exact ⟨h3,h4,.inr ⟨h1,h2⟩⟩
 ·exact ⟨rfl,rfl,.inl rfl⟩
def da.m2 (s:da):Prop:=s.ls.same∨s.ls.keys<16
instance (s:da):Decidable s.m2:=by unfold da.m2;infer_instance
def da.fk (s:da):jV:=(s.ls.iG (cQ 0)).dC
def da.pX (c:dh) (s:da):da:={ s with ls:=s.ls.iG (cQ 0),fd:=if 0<s.fk.dc.size then s.fd.ie (cZ c) s.fk s.time else s.fd,n:=s.n+c.k }
def da.iG (c:dh) (s:da):da:=if s.m2 then { s.pX c with signed:=some s.fk.dc } else s
def EvP (ev:List (Int × Int × Int × du)) (s:da):Prop:=ev=[]∨∃ x:jc,s.signed=some x∧ev=[(3,(x.size:Int),0,x.root)]
theorem da.vS (s:da):(s.ls.iG (cQ 0)).cF=s.ls.cF:=by unfold fM.iG;split;rfl;split<;>rfl
theorem da.xH {c:dh} {m:Nat} {s:da} (h:s.ok c m) (hp:s.m2):Ae s.ls.cF s.fk∧s.fk.dc.size=s.ls.cF.length∧(s.ls.iG (cQ 0)).last=some s.fk:=by
 unfold da.fk fM.iG
 split
 ·rename_i hs;obtain ⟨h1,h2⟩:=hs;obtain ⟨x,hx⟩:=Option.isSome_iff_exists.1 h1;have hv:s.ls.dC=x:=by unfold fM.dC;rw [hx];rfl
  rw [hv] at h2 ⊢
  exact ⟨h.last x hx,h2,hx⟩
 ·rename_i hs;have hk:s.ls.keys<16:=hp.resolve_left hs;rw [aI hk];have hr:=fM.BC h.ls;refine ⟨⟨Kb hr hk,j6 hk,aS _,?_⟩,rfl,rfl⟩
  show ea (s.ls.cF.map cY)=ea ((s.ls.cF.take s.ls.cF.length).map cY)
  rw [List.take_length]
theorem da.PF {c:dh} {m:Nat} {s:da} (h:s.ok c m) (hp:s.m2):(s.ls.iG (cQ 0)).ok:=by
 obtain ⟨h1,h2,h3⟩:=da.xH h hp;have hl:=h.ls;have hi:=s.vS;have Hc:(s.ls.iG (cQ 0)).recs=s.ls.recs:=by unfold fM.iG;split;rfl;split<;>rfl
 exact {
  full:=by rw [Hc];exact hl.full
  nodup:=by rw [hi];exact hl.nodup
  size:=by rw [hi];exact hl.size
  short:=by rw [hi];exact hl.short
  keys:=by
   unfold fM.iG
   split
   ·exact hl.keys
   ·split
    ·rename_i hk;exact hk
    ·exact hl.keys
  last:=fun x hx=>by
   rw [h3] at hx
   cases hx
   exact ⟨h1.1.1,h1.2.1,by rw [hi];omega⟩ }
theorem da.Jd {c:dh} {m:Nat} {s:da} (h:s.ok c m) (hm:m<250) (hp:s.m2):(s.pX c).ok c (m+1):=by
 obtain ⟨h1,h2,h3⟩:=da.xH h hp;have hi:=s.vS;have ht:=h.time;have hn:=h.nb;have hk:=h.xE.k;have hlen:=lj c
 have LK:cP.ok (if 0<s.fk.dc.size then s.fd.ie (cZ c) s.fk s.time else s.fd) c.k (s.n+c.k):=by
  split
  ·exact cP.xG h.fd h1.fits zo zo zo
  ·exact h.fd.mono zo
 obtain ⟨q1,q2,q3⟩:=K7 (cZ c) s.fd s.fk s.time
 exact { h.next hm with
  ls:=da.PF h hp
  last:=fun x hx=>by
   show Ae (s.ls.iG (cQ 0)).cF x
   have hx:(s.ls.iG (cQ 0)).last=some x:=hx;rw [h3] at hx
   cases hx
   rw [hi];exact h1
  perm:=by show ((s.ls.iG (cQ 0)).cF++_).Perm _;rw [hi];exact h.perm
  ws:=fun x hx=>⟨(h.ws x hx).1,Nat.le_succ_of_le (h.ws x hx).2.1,by show lL (s.ls.iG (cQ 0)).cF _;rw [hi];exact (h.ws x hx).2.2⟩
  fd:=LK
  nb:=by show s.n+c.k≤_;omega
  cur:=fun x hx=>by
   show Ae (s.ls.iG (cQ 0)).cF x∧_
   rw [hi];have hx:cP.cur (if 0<s.fk.dc.size then s.fd.ie (cZ c) s.fk s.time else s.fd)=some x:=hx
   split at hx
   ·rename_i h0;rcases q3 with q3|⟨q3,-⟩
    ·rw [q3] at hx;exact h.cur x hx
    ·rw [q3] at hx;cases hx;exact ⟨h1,h0⟩
   ·exact h.cur x hx
  idle:=fun hx=>by
   show cP.ag (if 0<s.fk.dc.size then s.fd.ie (cZ c) s.fk s.time else s.fd)=[]
   have hx:cP.cur (if 0<s.fk.dc.size then s.fd.ie (cZ c) s.fk s.time else s.fd)=none:=hx
   split at hx
   ·rename_i h0;rw [aI h0];rcases q3 with q3|⟨q3,-⟩
    ·rw [q3] at hx ⊢;exact h.idle hx
    ·rw [q3] at hx;cases hx
   ·rename_i h0;rw [aB h0];exact h.idle hx
  kept:=fun g hg=>by
   show g.ii _ (cP.dU (if 0<s.fk.dc.size then s.fd.ie (cZ c) s.fk s.time else s.fd)).dc
   have hg:g∈cP.kept (if 0<s.fk.dc.size then s.fd.ie (cZ c) s.fk s.time else s.fd):=hg
   split at hg
   ·rename_i h0;rw [aI h0];rcases q3 with q3|⟨-,q3⟩
    ·rw [q3] at hg ⊢;exact h.kept g hg
    ·rw [q3] at hg;cases hg
   ·rename_i h0;rw [aB h0];exact h.kept g hg
  done:=fun hx=>by
   show Ae (s.ls.iG (cQ 0)).cF (cP.done (if 0<s.fk.dc.size then s.fd.ie (cZ c) s.fk s.time else s.fd))∧0<(cP.done (if 0<s.fk.dc.size then s.fd.ie (cZ c) s.fk s.time else s.fd)).dc.size∧uf (cZ c) (cP.done (if 0<s.fk.dc.size then s.fd.ie (cZ c) s.fk s.time else s.fd)).dc (cP.dk (if 0<s.fk.dc.size then s.fd.ie (cZ c) s.fk s.time else s.fd))
   have hx:cP.dk (if 0<s.fk.dc.size then s.fd.ie (cZ c) s.fk s.time else s.fd)≠[]:=hx;rw [hi]
   split at hx
   ·rename_i h0;rw [aI h0,q1,q2];rw [q2] at hx
    exact h.done hx
   ·rename_i h0;rw [aB h0];exact h.done hx
  SO:=by show s.mo.cF=(s.ls.iG (cQ 0)).cF.take _;rw [hi];exact h.SO
  eh:=fun x hx=>by show fW.ok c (s.ls.iG (cQ 0)).cF x;rw [hi];exact h.eh x hx
  signed:=fun x hx=>by show lL (s.ls.iG (cQ 0)).cF _∧_;rw [hi];exact h.signed x hx }
theorem da.Nz {c:dh} {m:Nat} {s:da} (h:s.ok c m) (hm:m<250):(s.iG c).ok c (m+1):=by
 unfold da.iG
 split
 rotate_left
 ·exact h.next hm
 ·rename_i hp;obtain ⟨h1,h2,h3⟩:=da.xH h hp
  exact { da.Jd h hm hp with
   signed:=fun x hx=>by
    cases hx
    show lL (s.ls.iG (cQ 0)).cF _∧_
    rw [s.vS];exact ⟨h1.2.2,h1.1.1⟩ }
theorem ee.ok.sign {a:ee} {M:cJ} {w:Nat} {c:dh} {m:Nat} {s:da} (h:a.ok M w c m s) {x:jc} {v:Value} (hx:db [M] v x.root) (h2:da.ok c m { s with signed:=some x }):ee.ok { a with vr:=v } M w c m { s with signed:=some x } :=
 {h with root:=hx,all:=⟨h.all.all⟩,st:=h2,eh:=h.eh }
theorem K8 (w:Nat) (c:dh) (m:Nat) (s:da) (ev:List (Int × Int × Int × du)) (k n to wh:Int) (v:Value) (hv:v.oneCell'=true) (hm:m<250) :
 Ct prog 85 #[pt w,.agg (oB k n to wh v).toArray] e (dM w c m s ev::R) (fun v' L'=>v'=.tuple #[.int .i64 (if s.m2 then (s.fk.dc.size:Int) else 0),.int .i64 (if s.m2 then 0 else 23)]∧∃ jQ,EvP jQ (s.iG c)∧L'=dM w c (m+1) (s.iG c) (ev++jQ)::R):=by
 refine gZ fun a M ha he=>?_
 have eK:=ha.st;have ht:=eK.time;have hn:=eK.nb;have Q5:=ha.ec;refine a8 (args:=[_,_]) func85 rfl ntmps85 results85 rfl ?_
 (repeat (refine wA ?_;intros))
 refine aZ rfl rfl (Ct.at zP (Ku _ e a.gl a.ld a.lk (cQ 0) s.ls)) ?_;rintro v0 _ ⟨Oj,Qv⟩
 by_cases hp:s.m2
 rotate_left
 ·obtain ⟨rfl,rfl⟩:=Qv hp;have hs:s.iG c=s:=by unfold da.iG;rw [aB hp]
  have er:=ha.to (eK.next hm) (Nat.le_succ m) rfl rfl;rw [hs,aB hp,aB hp]
  (repeat (refine wA ?_;intros))
  refine aY (dM w c (m+1) s ev::R) rfl (cj (show cz _ (dP w c s a M R) from zE) (dT er he)) ⟨rfl,[],.inl rfl,by rw [aK]⟩
 obtain ⟨N,ur,up,uq,rfl,hN,rfl⟩:=Oj hp;obtain ⟨g1,g2,g3⟩:=da.xH eK hp;have HZ:=da.Jd eK hm hp;have m9:=da.Nz eK hm;have hs:s.iG c={ s.pX c with signed:=some s.fk.dc }:=by unfold da.iG;rw [aI hp]
 rw [aI hp,aI hp];rw [hs] at m9 ⊢
 rw [show (s.ls.iG (cQ 0)).dC=s.fk from rfl] at hN ⊢
 refine bm (cn (hN.root.cL (cG zP))) fun o3=>?_
 refine bm (hN.sig.cL (cG zP)).parts.one fun o4=>?_
 refine bm (hN.sig.cL (cG zP)).path.one fun o5=>?_
 clear Oj Qv
 (repeat' first|refine W.pF (id:=7) (fun j:Nat × Nat=>[(0,pt w),(8,pt j.2)]) (fun j=>cK j.2 (iS s.fk.dc ur) 83 (0,0)::N::dP w c (s.pX c) a M R) (fun _=>True) ?_ ?_|refine Za ?_|refine Zb ?_|apply Zc|apply Zd|apply Ze|apply Zf|refine Zh ?_|refine ZQ ?_|refine Yh fun _=>?_|refine YA ?_|apply YC|refine YN ?_|refine YR ?_|(apply O.df;exact rfl;exact zP;(first|(simp only [aC,Nat.add_zero,Nat.reduceAdd,List.drop_succ_cons,List.drop_zero,List.take_succ_cons,List.take_zero];done)|(simp only [aC,Nat.add_zero,Nat.reduceAdd,List.drop_succ_cons,List.drop_zero,List.take_succ_cons,List.take_zero];exact rfl));exact rfl;exact rfl))
 rotate_left
 ·refine ⟨?_⟩;rename_i g6 g8
  by_cases h0:0<s.fk.dc.size
  rotate_left
  ·have fR:s.pX c={ s with ls:=s.ls.iG (cQ 0),fd:=s.fd,n:=s.n+c.k }:=by unfold da.pX;rw [aB h0]
   rw [fR];refine wB ?_;exact bJ (g6,g8) trivial zS (cj (bw (show cR _ (lh a.mE (cZ c) c.retry s.n s.fd) _ from zP) aX) (cj (I5 (Nat.le_add_right s.n c.k)) zE))
  ·have fR:s.pX c={ s with ls:=s.ls.iG (cQ 0),fd:=s.fd.ie (cZ c) s.fk s.time,n:=s.n+c.k }:=by unfold da.pX;rw [aI h0]
   rw [fR];refine wB ?_;refine bk (id:=6) [] (cK g6 (dS s.fk ur up uq) rE (0,0)::cK w (a.cells c s) di (0,0)::N::R) mixed ?_
   (refine tM 0 ?_;refine tN 1 ?_;refine tF 2 ?_;refine tL 3 ?_;refine tJ 4 ?_;refine tM 5 ?_;refine tN 6 ?_;refine tF 7 ?_;refine tL 8 ?_)
   refine tO 9 ?_;have hof:=fun L hL=>Fh L e a.mE (cZ c) c.retry s.n s.fd ur up uq s.fk s.time hL g1.fits zo zo
   rw [lj] at hof
   refine bg rfl rfl (Ct.at zP (hof _ (hN.cL (cG zP)))) ?_;rintro _ _ ⟨rfl,rfl⟩;refine ⟨fun _=>zE,?_⟩;refine bf zK ?_;exact bJ (g6,g8) trivial zS zE
 rintro ⟨-,g8⟩ -;dsimp only;have pT:=ha.to HZ (Nat.le_succ m) rfl rfl;refine wB ?_;refine aZ rfl rfl (H8 _ e w s.sv a.vr s.signed.isSome s.fk.dc ur (bP (show cR _ (cK w (a.cells c (s.pX c)) di (0,0)) _ from zP) rfl) (dZ.fQ (show cR _ (cK w (a.cells c (s.pX c)) di (0,0)) _ from zP) ⟨2,rfl⟩) (fun _=>ha.root.cL (cG (show cR _ M _ from zP))) (hN.root.cL (cG (show cR _ N _ from zP)))) ?_;rintro _ _ ⟨rfl,rfl⟩
 by_cases Sg:s.signed=some s.fk.dc
 ·have hb:(s.signed.isSome && decide (s.sv=s.fk.dc))=true:=by unfold da.sv;rw [Sg];simp
  rw [hb];have m4:({ s.pX c with signed:=some s.fk.dc }:da)=s.pX c:=by unfold da.pX;rw [← Sg]
  rw [m4];refine wB ?_;refine aY (dM w c (m+1) (s.pX c) ev::R) rfl (cj (show cz _ (dP w c (s.pX c) a M R) from zE) (dT pT he)) ⟨rfl,[],.inl rfl,by rw [aK]⟩
 ·have hb:(s.signed.isSome && decide (s.sv=s.fk.dc))=false:=by
   unfold da.sv
   cases hq:s.signed with
   | none=>rfl
   | some y=>simp only [Option.isSome_some,Bool.true_and,Option.getD_some,decide_eq_false_iff_not];rintro rfl;exact Sg hq
  rw [hb];have er:=(pT.more (Fx (A:=M) (B:=N))).sign (hN.root.cL Fy) m9;refine wB ?_;refine aZ rfl rfl (Ct.AR zP zP (ir _ e w c { s.pX c with signed:=some s.fk.dc } { a with vr:=ur } 3 (s.fk.dc.size:Int) 0 ur s.fk.dc.root o3 zd)) ?_;rintro _ _ ⟨rfl,ve,rfl⟩;have nI:=er.seen (x:=⟨3,(s.fk.dc.size:Int),0,ur,s.fk.dc.root⟩) ve (hN.root.cL Fy) zd (by show s.fk.dc.root.length≤1000;have:=g1.fits.1.2;omega);refine wB ?_;refine aY (dM w c (m+1) { s.pX c with signed:=some s.fk.dc } (ev++[(3,(s.fk.dc.size:Int),0,s.fk.dc.root)])::R) rfl (cj ?_ (dT nI (by dsimp only;rw [ah,he];rfl))) ⟨rfl,_,.inr ⟨_,rfl,rfl⟩,rfl⟩;exact cj (ep (A:=M) (B:=N) zP zP) zE
abbrev K9:TypeId:=102
theorem zD (v:Value) (x:jV) (n m:Nat) (path:List du) (hv:db R v (qJ x n m path)) (hc:x.dc.right) (hr:x.sig.right) (hn:n≤1000000) (hm:m≤1000000) (hp:path.length≤16) (jN:∀ a∈path,a.length=32) :
 Ct prog 251 #[v] e R (fun v' L'=>∃ (M:cJ) (ur up uq:Value) (ad:Option Addr) (k:Nat) (ts:List ej),v'=.tuple #[.agg (dS x ur up uq).toArray,.agg #[.int .i64 (n:Int),.int .i64 (m:Int),.slice ad ts.length k],.bool true]∧ts.map (·.2)=path∧fj [M] ur up uq x∧cE [M] 1 (.slice ad ts.length k) ts.length (ts.map (·.1))∧dQ [M] ts∧L'=M::R):=by
 have DF:=fa jN;have Ub:=iO hc hr
 have rL:(qJ x n m path).length≤3000:=by
  unfold qJ;simp only [aa,aN,cX]
  omega
 refine a7 (cn hv) fun o1=>?_
 refine bH (args:=[_]) func251 rfl ntmps251 results251 rfl ?_
 (repeat (refine wA ?_;intros))
 rename_i g2 g3;refine aZ rfl rfl (jv _ e v (qJ x n m path) (hv.cL zE) zo) ?_;rintro _ _ ⟨gr,rfl,rfl⟩;have Kw:qJ x n m path=hZ x++(be n 4++(be m 4++(UInt8.ofNat path.length::path.flatten))):=rfl;rw [Kw];refine wB ?_;refine aZ rfl rfl (Bl _ e gr x _ hc hr (by simp only [aa,aN,cX];omega)) ?_;rintro _ _ ⟨N,ur,up,uq,rfl,hN,rfl⟩;refine bm (cn (hN.root.cL (cG zP))) fun o8=>?_
 refine bm (hN.sig.cL (cG zP)).parts.one fun o9=>?_
 refine bm (hN.sig.cL (cG zP)).path.one fun Ng=>?_
 (repeat (refine wA ?_;intros))
 rename_i g6;refine aZ rfl rfl (Ct.at zP (tD _ e gr n _ zo)) ?_;rintro _ _ ⟨rfl,rfl⟩;refine wB ?_;refine aZ rfl rfl (Ct.at zP (tD _ e gr m _ zo)) ?_;rintro _ _ ⟨rfl,rfl⟩
 (repeat (refine wA ?_;intros))
 rename_i g8;refine aZ rfl rfl (Ct.at zP (vo _ e gr _ _)) ?_;rintro _ _ ⟨rfl,rfl⟩;rw [← qp (n:=path.length) zo];refine wB ?_;refine bq (ι:=Nat × List ej × Option Addr × Nat) (fun j=>[(2,pt g2),(3,pt g3),(5,pt gr),(6,pt g6),(7,.bool true),(8,pt g8),(9,.int .u8 ((path.length - j.1:Nat):Int))]) (fun j=>Reader gr ⟨(path.drop j.1).flatten,false⟩::cK g8 [.int .i64 (n:Int),.int .i64 (m:Int),.slice j.2.2.1 j.2.1.length j.2.2.2] K9 (0,0)::cV (.slice j.2.2.1 j.2.1.length j.2.2.2) j.2.1::cH j.2.1::cK g6 (dS x ur up uq) rE (0,0)::N::cK g2 I6 rE (0,0)::cK g3 [.int .i64 0,.int .i64 0,nY] K9 (0,0)::R) (fun j=>j.1≤path.length∧j.2.1.map (·.2)=path.take j.1) (fun j=>path.length - j.1) (0,[],none,0) ⟨aH _,rfl⟩ zS (cj dK (cj (dv ez 1) zE)) ?_;rintro ⟨j,us,m7,cu⟩ ⟨hj,gF⟩;dsimp only at hj gF ⊢
 have LG:us.length=j:=by have:=congrArg List.length gF;rw [ae,aF] at this;omega
 by_cases cO:j<path.length
 ·have hpd:=BP cO;have abz:=jN _ (aA cO);have ft:path.take (j+1)=path.take j++[path[j]'cO]:=aD cO
  have hle:((path.drop (j+1)).flatten).length≤3000:=by
   have:=fa (l:=path.drop (j+1)) (n:=32) (fun a ha=>jN a (aV ha));rw [this,aO];omega
  rw [hpd]
  generalize path[j]'cO=y at *
  have Fm:=H4 (n:=path.length - j) zo zo;rw [show path.length - j - 1=path.length - (j+1) by omega] at Fm
  refine wB ?_;refine aZ rfl rfl (vi _ e gr _) ?_;rintro _ _ ⟨rfl,rfl⟩;refine wB ?_;refine bk (id:=7) [6,7] (cK g8 [.int .i64 (n:Int),.int .i64 (m:Int),.slice m7 us.length cu] K9 (0,0)::R) mixed ?_
  (refine tF 0 ?_;refine tL 1 ?_;refine tM 2 ?_)
  refine tO 3 ?_;refine bg rfl rfl (Ct.at zP (ya _ e gr 32 y _ abz (by simp only [aa];omega))) ?_;rintro _ _ ⟨qq,cx,rfl,rfl⟩;refine ⟨fun _=>zE,?_⟩;refine tO 4 ?_;refine bE (n:=1) (cs:=[.slice qq y.length cx]) rfl rfl rfl rfl zQ rfl (fun gb=>⟨fun _=>zE,?_⟩);refine tO 5 ?_;refine bo rfl rfl rfl (show cR _ (cV (.slice m7 us.length cu) us) _ from zP) (bO (n:=1) (c:=1) zP rfl zl) rfl rfl zO zm zo fun ef k1 _=>⟨fun _=>zE,?_⟩
  refine tO 6 ?_;refine dV (ba rfl) ?_;refine tO 7 ?_;refine tf ?_;refine ⟨zN,?_⟩;refine bf zK ?_;refine wB ?_;rw [Fm];refine bi (j+1,us++[(.slice qq y.length cx,y)],ef,k1) ⟨cO,by dsimp only;rw [ft,ah,gF];rfl⟩ zd zS ?_;simp only [cV,aa,aj,ah,List.map_cons,List.map_nil];exact cj (cj (show cz _ (cS (.slice qq y.length cx) y::cH us::dE ez 1 (.slice ef (us.length+1) k1) (us.length+1) (us.map (·.1)++[.slice qq y.length cx])::Reader gr ⟨(path.drop (j+1)).flatten,false⟩::cK g8 [.int .i64 (n:Int),.int .i64 (m:Int),.slice ef (us.length+1) k1] K9 (0,0)::cK g6 (dS x ur up uq) rE (0,0)::N::cK g2 I6 rE (0,0)::cK g3 [.int .i64 0,.int .i64 0,nY] K9 (0,0)::R) from zE) jo) zE
 rw [aG zo] at gF
 rw [List.drop_eq_nil_of_le zo,List.flatten_nil,show path.length - j=0 by omega];refine wB ?_;refine bk (id:=8) [9] (cK g8 [.int .i64 (n:Int),.int .i64 (m:Int),.slice m7 us.length cu] K9 (0,0)::cK g6 (dS x ur up uq) rE (0,0)::R) mixed ?_
 (refine tJ 0 ?_;refine tJ 1 ?_;refine tM 2 ?_;refine tM 3 ?_;refine dt 4 _ rfl (bu rfl) ?_)
 refine A.rv 5 rfl rfl zK ?_;refine bg rfl rfl (yc _ e gr []) ?_;rintro _ _ ⟨rfl,rfl⟩;rw [ay rfl];refine ⟨fun _=>zE,?_⟩
 (refine tk 6 _ rfl (bK rfl rfl) ?_)
 refine tO 7 ?_;refine zg ?_;refine ⟨fun _=>zE,?_⟩;refine tO 8 ?_;refine zg ?_;refine ⟨fun _=>zE,?_⟩
 ((refine tO 9 ?_;refine dV (bj rfl) ?_))
 refine bf zK ?_;obtain ⟨M,hM⟩:∃ M:cJ,M=dI [N,cV (.slice m7 us.length cu) us,cH us]:=⟨_,rfl⟩
 have ho:cz [M] [N,cV (.slice m7 us.length cu) us,cH us]:=by rw [hM];exact cT (M:=[_,_,_]) (L:=[])
 refine wB ?_;apply br
 ·exact zV
 refine ⟨M::R,?_,M,ur,up,uq,m7,cu,us,rfl,gF,(hN.cL (cG .zero)).cL ho,(bb (.succ .zero)).cL ho,fun y hy=>(dQ.dY (.succ (.succ .zero)) y hy).cL ho,rfl⟩;rw [hM];exact cj (rb (A:=N) (B:=cV (.slice m7 us.length cu) us) (C:=cH us) zP zP zP) zE
theorem qL {l:List du} {n:Nat} (hl:l.length≤256):(iY (l.map cY) n).length≤16∧∀ a∈iY (l.map cY) n,a.length=32:=by
 have jN:∀ a∈l.map cY,a.length=32:=fun a ha=>by
  obtain ⟨y,-,rfl⟩:=aE.1 ha;exact dg _ _
 unfold iY
 split
 ·rename_i h;refine ⟨?_,BB _ n _ true rfl jN⟩;rw [lH _ n _ true rfl zo zo];have:=oe 8 (l.map cY).length n true (by rw [ae];omega)
  omega
 ·exact ⟨by simp,fun a ha=>by cases ha⟩
def PG (cF:List du) (x:jV) (r:Nat × Nat):fW:=.ask r.1 x r.2 x.dc.size (iY ((cF.take x.dc.size).map cY) r.2)
def mm (cF:List du) (x:jV):List (Nat × Nat)→List fW→List fW
 | [],eh=>eh
 | r::l,eh=>mm cF x l (if eh.length<32 then eh++[PG cF x r] else eh)
theorem BV (cF:List du) (x:jV) (r:Nat × Nat):∀ (l:List (Nat × Nat)) (eh:List fW),mm cF x (l++[r]) eh=if (mm cF x l eh).length<32 then mm cF x l eh++[PG cF x r] else mm cF x l eh
 | [],eh=>rfl
 | y::l,eh=>by
  rw [List.cons_append]
  show mm cF x (l++[r]) _=_
  rw [BV cF x r l];rfl
theorem uI (cF:List du) (x:jV):∀ (l:List (Nat × Nat)) (eh:List fW),eh.length≤32→(mm cF x l eh).length≤32∧eh.length≤(mm cF x l eh).length
 | [],eh,h=>⟨h,aS _⟩
 | r::l,eh,h=>by
  unfold mm
  split
  ·rename_i h1;obtain ⟨h2,h3⟩:=uI cF x l (eh++[PG cF x r]) (by rw [aa];exact h1);refine ⟨h2,?_⟩;rw [aa] at h3
   omega
  ·exact uI cF x l eh h
theorem Je {c:dh} {cF:List du} {x:jV} (hx:Ae cF x) (h0:0<cF.length):∀ (l:List (Nat × Nat)) (eh:List fW),(∀ y∈eh,y.ok c cF)→(∀ r∈l,r.1<c.k∧r.2≤x.dc.size)→∀ y∈mm cF x l eh,y.ok c cF
 | [],eh,h,_=>h
 | r::l,eh,h,hl=>by
  unfold mm;refine Je hx h0 l _ ?_ fun q hq=>hl q (aT _ hq)
  split
  ·intro y hy;rcases aJ.1 hy with hy|hy
   ·exact h y hy
   ·rw [an.1 hy];have hr:=hl r (List.mem_cons_self ..);exact ⟨h0,hr.1,hx,rfl,hr.2,rfl⟩
  ·exact h
def da.zG (c:dh) (s:da):da:={ s with fd:=s.fd.kH c.retry s.time,n:=s.n+c.k,eh:=mm s.ls.cF s.fd.dU (s.fd.lc s.time) s.eh }
def da.SQ (c:dh) (s:da):Nat:=(s.zG c).eh.length - s.eh.length
theorem Jf {k n now:Nat} {s:cP} (h:s.ok k n):∀ r∈s.lc now,r.1<k∧r.2≤s.dU.dc.size:=fun r hr=>by
 unfold cP.lc at hr
 obtain ⟨w,hw,rfl⟩:=aE.1 hr;obtain ⟨h1,-⟩:=ri now s.ag.length s.ag;have hm:=h1.mem_iff.1 (List.mem_append_left _ hw);obtain ⟨x,hx,rfl⟩:=aE.1 hm;have hk:=(h.fits x hx).2;refine ⟨hk,?_⟩;dsimp only;exact h.kR _ (qC (by rw [h.len];exact hk))
theorem zH {k n now:Nat} {s:cP} (h:s.ag=[]):s.lc now=[]:=by
 unfold cP.lc;rw [h];rfl
theorem zJ (retry now:Nat) (s:cP):(s.kH retry now).cur=s.cur∧(s.kH retry now).kept=s.kept∧(s.kH retry now).done=s.done∧(s.kH retry now).dk=s.dk:=by
 unfold cP.kH;obtain ⟨h1,h2,h3,h4,-⟩:=sI retry now (s.lc now) { s with ag:=(nE now s.ag.length s.ag).2 };exact ⟨h1,h2,h3,h4⟩
theorem De {s t:cP} (h:s.cur=t.cur):s.dU=t.dU:=by unfold cP.dU;rw [h]
theorem da.NA {c:dh} {m:Nat} {s:da} (h:s.ok c m) (hm:m<250):(s.zG c).ok c (m+1):=by
 obtain ⟨q1,q2,q3,q4⟩:=zJ c.retry s.time s.fd;have ht:=h.time;have hn:=h.nb;have hk:=h.xE.k;have hr:=h.xE.retry
 exact { h.next hm with
  fd:=cP.Nd h.fd hr.2 zo zo zo
  nb:=by show s.n+c.k≤_;omega
  cur:=fun x hx=>h.cur x (by rw [← q1];exact hx)
  idle:=fun hx=>by
   have hx:s.fd.cur=none:=by rw [← q1];exact hx
   have ha:=h.idle hx
   show cP.ag (s.fd.kH c.retry s.time)=[]
   unfold cP.kH;rw [zH (k:=c.k) (n:=s.n) ha,ha]
   rfl
  kept:=fun g hg=>by
   show g.ii _ (cP.dU (s.fd.kH c.retry s.time)).dc
   rw [De q1];exact h.kept g (by rw [← q2];exact hg)
  done:=fun hx=>by
   show Ae _ (cP.done (s.fd.kH c.retry s.time))∧0<(cP.done (s.fd.kH c.retry s.time)).dc.size∧uf _ (cP.done (s.fd.kH c.retry s.time)).dc (cP.dk (s.fd.kH c.retry s.time))
   rw [q3,q4];exact h.done (by rw [← q4];exact hx)
  eh:=fun x hx=>by
   cases hc:s.fd.cur with
   | none =>
    have ha:=h.idle hc;have hx:x∈mm s.ls.cF s.fd.dU (s.fd.lc s.time) s.eh:=hx;rw [zH (k:=c.k) (n:=s.n) ha] at hx
    exact h.eh x hx
   | some y =>
    have hy:=h.cur y hc;have hv:s.fd.dU=y:=by unfold cP.dU;rw [hc];rfl
    refine Je (x:=s.fd.dU) (by rw [hv];exact hy.1) (by have:=hy.1.2.2.1;omega) _ s.eh h.eh (Jf h.fd) x hx
  room:=(uI _ _ _ _ h.room).1 }
abbrev vT (i:Nat) (x:WX) (s:eP):cJ:=nD x.g x.d x.k i (cQ (i+1)) dO s
def oC:Nat→Nat→List WX→List eP→List cJ
 | i,0,_::xs,_::ss=>ke (i+1) xs ss
 | i,j+1,x::xs,s::ss=>vT i x s::oC (i+1) j xs ss
 | _,_,_,_=>[]
theorem vU:∀ (i j:Nat) (xs:List WX) (ss:List eP) (x:WX) (s:eP),xs[j]?=some x→ss[j]?=some s→cR (ke i xs ss) (vT (i+j) x s) (oC i j xs ss)
 | i,0,y::xs,t::ss,x,s,h1,h2=>by
  simp only [List.getElem?_cons_zero,Option.some.injEq] at h1 h2
  subst h1 h2;exact .zero
 | i,j+1,y::xs,t::ss,x,s,h1,h2=>by
  simp only [List.getElem?_cons_succ] at h1 h2
  have:=vU (i+1) j xs ss x s h1 h2;rw [show i+1+j=i+(j+1) by omega] at this
  exact .succ this
 | _,_,[],_,_,_,h1,_=>by simp at h1
 | _,_,_::_,[],_,_,_,h2=>by simp at h2
theorem BW (x:WX) (s:eP):∀ (i j:Nat) (xs:List WX) (ss:List eP),oC i j (xs.set j x) (ss.set j s)=oC i j xs ss
 | i,0,[],[]=>rfl
 | i,0,[],_::_=>rfl
 | i,0,_::_,[]=>rfl
 | i,0,y::xs,t::ss=>rfl
 | i,j+1,[],[]=>rfl
 | i,j+1,[],_::_=>rfl
 | i,j+1,_::_,[]=>rfl
 | i,j+1,y::xs,t::ss=>by
  simp only [List.set_cons_succ,oC];rw [BW x s (i+1) j xs ss]
theorem uJ {α:Type}:∀ (l:List α) (j:Nat) (x:α),l[j]?=some x→l.set j x=l
 | [],j,x,h=>by simp at h
 | y::l,0,x,h=>by simp only [List.getElem?_cons_zero,Option.some.injEq] at h;rw [h];rfl
 | y::l,j+1,x,h=>by simp only [List.getElem?_cons_succ] at h;rw [List.set_cons_succ,uJ l j x h]
theorem Fz {M N R:List cJ} {A:cJ} (p:cR M A N):cR (M++R) A (N++R):=by
 induction p with
 | zero=>exact .zero
 | succ _ ih=>exact .succ ih
theorem NB {M N R:List cJ} {A:cJ} (p:cR M A N):cz (dI M::R) (A::dI N::R) :=
 cj cT (cj (Fz p).out (bh dR))
theorem all_push {M N R:List cJ} {A:cJ} (p:cR M A N):cz (A::dI N::R) (dI M::R) :=
 cj (bh cT) (cj (Fz p).back dR)
theorem FA {j:Nat} {xs:List WX} {ss:List eP} {x:WX} {s:eP} {R:List cJ} (h1:xs[j]?=some x) (h2:ss[j]?=some s):cz (dI (ke 0 xs ss)::R) (vT j x s::dI (oC 0 j xs ss)::R):=by
 have:=vU 0 j xs ss x s h1 h2;rw [aC] at this
 exact NB this
theorem Dg {j:Nat} {xs:List WX} {ss:List eP} {x:WX} {s:eP} {R:List cJ} (h1:j<xs.length) (h2:j<ss.length):cz (vT j x s::dI (oC 0 j xs ss)::R) (dI (ke 0 (xs.set j x) (ss.set j s))::R):=by
 have:=vU 0 j (xs.set j x) (ss.set j s) x s (by rw [List.getElem?_set_self h1]) (by rw [List.getElem?_set_self h2]);rw [aC,BW] at this
 exact all_push this
def Wn:eP:=⟨[],0,gY,false⟩
def eP.NC (w:eP) (x:jc) (n:Nat):Int:=if x.size<w.c.size then 32 else if x.size=w.c.size then 0 else if n=w.c.size then 0 else 31
theorem Jg (c:jc):c=⟨c.size,c.root⟩:=rfl
theorem lL.same {l:List du} {c d:jc} (h1:lL l c) (h2:lL l d) (h:c.size=d.size):c=d:=by
 rw [Jg c,Jg d,h1.2,h2.2,h]
theorem lL.empty (l:List du):lL l Sm:=⟨aH _,by
 show sh []=ea ((l.take 0).map cY)
 rw [List.take_zero];exact kZ.symm⟩
theorem La {l:List du} {w:eP} {x:jc} {n:Nat} {ts:List ej} (h1:lL l w.c) (h2:lL l x) (hl:l.length≤256) (hn:n≤x.size) (ht:ts.map (·.2)=iY ((l.take x.size).map cY) n):w.jq x n x.size ts=w.NC x n:=by
 unfold eP.jq eP.NC
 split
 ·rfl
 rename_i h3
 split
 ·rename_i h4;rw [aI (h2.same h1 h4)]
 ·rename_i h4
  by_cases h5:n=w.c.size
  ·rw [aI h5,aI];refine ⟨h5,rfl,?_⟩;have hle:x.size≤l.length:=h2.1;have hg:=xF (ts:=(l.take x.size).map fun b=>((nY:Value),cY b)) (out:=ts) (m:=n) (by rw [List.map_map];exact ht) (by rw [ae,aF];omega) (fun a ha=>by obtain ⟨y,-,rfl⟩:=aE.1 ha;exact dg _ _) (by rw [ae,aF];omega);rw [ae,aF,Nat.min_eq_left hle] at hg
   rw [h1.2,h2.2]
   have e1:(((l.take x.size).map fun b=>((nY:Value),cY b)).take n).map (·.2)=(l.take w.c.size).map cY:=by
    rw [← List.map_take,List.map_map,List.take_take,Nat.min_eq_left hn,h5];rfl
   have e2:((l.take x.size).map fun b=>((nY:Value),cY b)).map (·.2)=(l.take x.size).map cY:=by rw [List.map_map];rfl
   rw [e1,e2] at hg
   exact hg
  ·rw [aB h5,aB (fun q=>h5 q.1)]
def da.fY (s:da) (j:Nat):eP:=s.ws.getD j Wn
def da.xr (s:da) (j:Nat) (x:jc) (n:Nat):Int:=if (s.fY j).NC x n≠0 then (s.fY j).NC x n else if (((s.fY j).grow x).cos (cQ (j+1)) j).2=true then 0 else 23
def da.ja (s:da) (j:Nat) (x:jc) (n:Nat):eP:=if (s.fY j).NC x n≠0 then s.fY j else (((s.fY j).grow x).cos (cQ (j+1)) j).1
def da.PH (s:da) (j:Nat) (x:jc) (n:Nat):fW:=if s.xr j x n=0 then .iQ j (s.ja j x n).dC else .no j (s.ja j x n).c.size
def da.send (s:da) (x:fW):da:={ s with eh:=if s.eh.length<32 then s.eh++[x] else s.eh }
def da.asked (s:da) (j:Nat) (x:jc) (n:Nat):da:={ s with ws:=s.ws.set j (s.ja j x n) }.send (s.PH j x n)
theorem ND {s:da} {j n:Nat} {x:jV} {ts:List ej} (h:Ae s.ls.cF x) (h1:lL s.ls.cF (s.fY j).c) (hl:s.ls.cF.length≤256) (hn:n≤x.dc.size) (ht:ts.map (·.2)=iY ((s.ls.cF.take x.dc.size).map cY) n) :
 (s.fY j).y9 (cQ (j+1)) dO j x n x.dc.size ts=s.xr j x.dc n∧(s.fY j).xk (cQ (j+1)) dO j x n x.dc.size ts=s.ja j x.dc n:=by
 unfold eP.y9 eP.xk da.xr da.ja;rw [La h1 h.2.2 hl hn ht,aB (show ¬ ¬ x.ii dO from fun q=>q h.1)];exact ⟨rfl,aB (fun q=>q h.1)⟩
theorem Wo (seed:du) (j:Nat) (w:eP):((w.cos seed j).1).c=w.c∧((w.cos seed j).1).recs=w.recs:=by
 unfold eP.cos
 split
 ·exact ⟨rfl,rfl⟩
 ·split<;>exact ⟨rfl,rfl⟩
theorem SR {seed:du} {j:Nat} {w:eP} (h:w.ok):((w.cos seed j).1).ok:=by
 unfold eP.cos
 split
 ·exact h
 ·split
  ·rename_i hk;exact { h with keys:=hk,fits:=(j6 hk).fits }
  ·exact h
theorem PI {seed:du} {j:Nat} {w:eP} (h:w.some=true→w.dC.fY=j∧w.dC.sig.right) (h2:((w.cos seed j).1).some=true):((w.cos seed j).1).dC.fY=j∧((w.cos seed j).1).dC.sig.right:=by
 revert h2
 unfold eP.cos
 split
 ·exact h
 ·split
  ·rename_i hk;exact fun _=>⟨rfl,j6 hk⟩
  ·exact h
theorem NE {seed:du} {j:Nat} {w:eP} (h:(w.cos seed j).2=true):((w.cos seed j).1).some=true:=by
 revert h
 unfold eP.cos
 split
 ·rename_i h1;exact fun _=>h1
 ·split
  ·exact fun _=>rfl
  ·intro h;cases h
theorem NF (w:eP) (c:jc):(w.grow c).recs.length≤w.recs.length+1:=by
 unfold eP.grow
 split
 ·show (w.recs++[c]).length≤_;rw [aa];exact aS _
 ·exact Nat.le_succ _
theorem NG {l:List du} {w:eP} {x:jc} (h1:lL l w.c) (h2:lL l x):lL l (w.grow x).c:=by
 unfold eP.grow
 split
 ·rw [eP.M7];exact h2
 ·exact h1
theorem PJ {l:List eP} {j:Nat} (h:j<l.length):l[j]?=some (l.getD j Wn):=by
 rw [List.getD,ab h];rfl
theorem da.ok.fY {c:dh} {m:Nat} {s:da} (h:s.ok c m) {j:Nat} (hj:j<c.k):(s.fY j).ok∧(s.fY j).recs.length≤m∧lL s.ls.cF (s.fY j).c∧((s.fY j).some=true→(s.fY j).dC.fY=j∧(s.fY j).dC.sig.right)∧s.ws[j]?=Option.some (s.fY j):=by
 have hg:=PJ (l:=s.ws) (j:=j) (by rw [h.wl];exact hj);have hm:=az hg;exact ⟨(h.ws _ hm).1,(h.ws _ hm).2.1,(h.ws _ hm).2.2,h.iQ j _ hg,hg⟩
theorem Jh {c:dh} {m:Nat} {s:da} (h:s.ok c m) {j:Nat} (hj:j<c.k) {x:jV} {n:Nat} (hx:Ae s.ls.cF x):(s.ja j x.dc n).ok∧(s.ja j x.dc n).recs.length≤m+1∧lL s.ls.cF (s.ja j x.dc n).c∧((s.ja j x.dc n).some=true→(s.ja j x.dc n).dC.fY=j∧(s.ja j x.dc n).dC.sig.right)∧(s.xr j x.dc n=0→(s.ja j x.dc n).some=true):=by
 obtain ⟨h1,h2,h3,h4,-⟩:=h.fY hj;unfold da.ja da.xr
 split
 ·rename_i h5;exact ⟨h1,Nat.le_succ_of_le h2,h3,h4,fun q=>absurd q h5⟩
 ·have hg:=eP.xF h1 hx.1.1;have hl:=NF (s.fY j) x.dc;obtain ⟨c1,c2⟩:=Wo (cQ (j+1)) j ((s.fY j).grow x.dc)
  have hy:((s.fY j).grow x.dc).some=true→((s.fY j).grow x.dc).dC.fY=j∧((s.fY j).grow x.dc).dC.sig.right:=by
   unfold eP.grow
   split
   ·intro q;cases q
   ·exact h4
  refine ⟨SR hg,by rw [c2];omega,by rw [c1];exact NG h3 hx.2.2,PI hy,fun q=>?_⟩
  split at q
  ·rename_i h6;exact NE h6
  ·cases q
end Go.Proofs
