/- Part 6 of a proof of this: TopQuiet returns true for any arguments; nothing of the old memory is turned. No condition. -/
import Derived.Test.YtccekbdjebohcaaGreatQ05
set_option linter.unusedVariables false
set_option linter.unusedSimpArgs false
namespace Go.Proofs
open Go.Bs
theorem O9 {n:Nat} (h:n<4294967296):n=CD (CD n):=by unfold CD;omega
theorem Ki (m r:List UInt8) (hm:m.length≤65535):mG (fD m++r)=m.length∧Kh (fD m++r)=CD m.length∧(fD m++r).drop 8=m++r:=by
 have e1:(fD m++r)=be m.length 4++(be (CD m.length) 4++(m++r)):=by simp [fD]
 have l1:(be m.length 4).length=4:=cY _ _;have l2:(be (CD m.length) 4).length=4:=cY _ _;refine ⟨?_,?_,?_⟩
 ·unfold mG;rw [e1,List.take_append_of_le_length zo,aG zo];exact qR _ zo
 ·unfold Kh;rw [e1,List.drop_append_of_le_length zo,List.drop_of_length_le zo,List.nil_append,List.take_append_of_le_length zo,aG zo];exact qR _ (Hb _)
 ·have d:∀ (x y:List UInt8),x.length=4→(x++y).drop 4=y:=fun x y h=>by rw [List.drop_append_of_le_length zo,List.drop_of_length_le zo,List.nil_append]
  rw [e1,show 8=4+4 from rfl,← List.drop_drop,d _ _ l1,d _ _ l2]
theorem Kj (m r:List UInt8) (hm:m.length≤65535):dB (fD m++r)=(m::(dB r).1,8+m.length+(dB r).2.1,(dB r).2.2):=by
 obtain ⟨h1,h2,h3⟩:=Ki m r hm;have hl:(fD m++r).length=m.length+8+r.length:=by rw [aa,gJ]
 have hg:pc (fD m++r):=by
  refine ⟨?_,?_⟩
  ·rw [h1,h2];exact O9 zo
  ·rw [h1];exact hm
 have h4:(fD m++r).drop (8+m.length)=r:=by
  rw [← List.drop_drop,h3,List.drop_append_of_le_length (aS _),List.drop_of_length_le (aS _),List.nil_append]
 rw [sq zo hg (by rw [h1];omega),h1,h3,h4,List.take_append_of_le_length (aS _),aG (aS _)]
theorem Kk (l:List (List UInt8)) (r:List UInt8) (hl:∀ m∈l,m.length≤65535):dB (eW l++r)=(l++(dB r).1,(eW l).length+(dB r).2.1,(dB r).2.2):=by
 induction l with
 | nil=>simp [eW]
 | cons m l ih =>
  have e1:eW (m::l)=fD m++eW l:=rfl;rw [e1,aM,Kj m _ (hl m (List.mem_cons_self ..)),ih fun x hx=>hl x (aU _ hx)];simp only [List.cons_append,aa,gJ];refine Prod.ext rfl (Prod.ext ?_ rfl);dsimp only
  omega
theorem Kl:dB []=([],0,true):=ni (by simp)
theorem n9 (l:List (List UInt8)) (hl:∀ m∈l,m.length≤65535):dB (eW l)=(l,(eW l).length,true):=by
 have:=Kk l [] hl;rw [aK,Kl] at this
 simpa using this
def nk (b:List UInt8) (sy:Nat):eT:=⟨b,sy,1048576,0,false⟩
theorem ui {b:List UInt8} {sy:Nat} (h:b.length≤1048576) (h2:sy≤b.length):(nk b sy).ok:=⟨h,aS _,h2,aH _⟩
theorem Km {b m:List UInt8} {sy:Nat} (h:b.length+m.length+8≤1048576):(nk b sy).pT (fD m)=0∧(nk b sy).EF (fD m)=nk (b++fD m) sy:=by
 have hr:=gJ m;obtain ⟨h1,h2⟩:=eT.Bp (b:=b) (m:=fD m) (sy:=sy) (li:=1048576) zo;exact ⟨h2,h1⟩
theorem Kn (b:List UInt8) (sy:Nat):(nk b sy).CC=0∧(nk b sy).O4=dz b:=by
 simp [eT.CC,eT.O4,eT.pow,nk,dz]
theorem add_plain {b m:List UInt8} {sy:Nat} (h:b.length+m.length+8≤1048576):EJ (nk b sy) m=0∧Kf (nk b sy) m=dz (b++fD m)∧∀ k,EK (nk b sy) m k=k+1:=by
 obtain ⟨h1,h2⟩:=Km (sy:=sy) h;obtain ⟨h3,h4⟩:=Kn (b++fD m) sy;refine ⟨?_,?_,fun k=>?_⟩
 ·unfold EJ;rw [aI h1,h2,h3]
 ·unfold Kf;rw [aI h1,h2,h4]
 ·unfold EK;rw [aI h1]
end Go.Proofs
namespace Go.Proofs
attribute [local irreducible] Bs.cE Bs.Do Bs.O Bs.W Bs.Fin Bs.A Bs.Ct Bs.cF Bs.Rd Bs.Sat Bs.cL Bs.Ob Bs.dJ Bs.View Bs.cB Bs.Ex Bs.dH Bs.Pu Bs.eZ Bs.dO Bs.dZ
open Go.Bs
open Tryz
def oc (n:Nat):List (List UInt8):=(List.range n).map ff
def kl (n:Nat):List UInt8:=eW (oc n)
theorem Bu (n:Nat):(oc n).length=n:=by simp [oc]
theorem ET {n:Nat}:∀ m∈oc n,m.length≤65535:=fun m hm=>by
 obtain ⟨i,_,rfl⟩:=aE.1 hm
 simp [ff]
theorem Hl (n:Nat):oc (n+1)=oc n++[ff n]:=by simp [oc,List.range_succ]
theorem IQ (n:Nat):kl (n+1)=kl n++fD (ff n):=by rw [kl,Hl,n8];rfl
theorem pd:∀ n,(kl n).length=9*n
 | 0=>rfl
 | n+1=>by rw [IQ,aa,pd n,gJ];simp [ff];omega
theorem IR (n:Nat):dB (kl n)=(oc n,9*n,true):=by
 have h:=n9 (oc n) ET;rw [show eW (oc n)=kl n from rfl,pd] at h
 exact h
theorem MI {n:Nat} (h:n≤16):EP (oc n):=⟨by rw [Bu];exact h,fun i hi=>by simp [oc]⟩
def er (n L:Nat):eT:=⟨kl n,9*n,L,0,false⟩
theorem uj {n L:Nat} (h:9*n≤L) (hL:L≤1048576):(er n L).ok:=⟨by simp only [er,pd];omega,hL,by simp only [er,pd];omega,by simp [er]⟩
theorem MJ (n L:Nat):Bt (er n L)=0∧uh (er n L)=er n L:=by
 have h:(dB (er n L).b).2.1=(er n L).b.length:=by simp only [er,IR,pd]
 exact ⟨by unfold Bt;rw [aI h],by unfold uh;rw [aI h]⟩
theorem wI (R:List cK) (e:World) (gd n L:Nat) (hn:n≤16) (h:9*n≤L) (hL:L≤1048576) :
 Ct prog 64 #[pt gd] e (df gd (er n L)::R) (fun v' L'=>∃ gb gj:Nat,v'=.tuple #[pt gb,.int .i64 0]∧L'=mi gb gj n::jh gj gd n::df gd (er n L)::R) :=
 (Hj R e gd (er n L) (uj h hL)).mono fun v' L' h=>by
  have ho:dB (er n L).b=(oc n,9*n,true):=IR n;obtain ⟨h1,h2⟩:=MJ n L;rcases h with ⟨a,_⟩|⟨_,a,_⟩|⟨_,_,a,_⟩|⟨_,_,_,gb,gj,b1,b2⟩
  ·rw [ho] at a;cases a
  ·exact absurd h1 a
  ·rw [ho] at a;exact absurd (MI hn) a
  ·rw [ho,h2] at b2
   dsimp only at b2
   rw [Bu] at b2
   exact ⟨gb,gj,b1,b2⟩
theorem Ko {n L:Nat} (h:9*n+9≤L):EJ (er n L) (ff n)=0∧Kf (er n L) (ff n)=er (n+1) L∧∀ j,EK (er n L) (ff n) j=j+1:=by
 have hl:(fD (ff n)).length=9:=by rw [gJ];rfl
 obtain ⟨h1,h2⟩:=eT.Bp (b:=kl n) (m:=fD (ff n)) (sy:=9*n) (li:=L) (by rw [pd,hl];exact h);have e1:(er n L).pT (fD (ff n))=0:=h2;have e2:(er n L).EF (fD (ff n))=⟨kl n++fD (ff n),9*n,L,0,false⟩:=h1;refine ⟨?_,?_,fun j=>?_⟩
 ·unfold EJ;rw [aI e1,e2];rfl
 ·unfold Kf;rw [aI e1,e2,← IQ];simp only [eT.O4,eT.pow,er,pd,Nat.lt_irrefl,gt_iff_lt,if_false]
  rfl
 ·unfold EK;rw [aI e1]
theorem wJ (R:List cK) (e:World) (gb gj gd n L:Nat) (hn:n<16) (h:9*n+9≤L) (hL:L≤1048576) :
 Ct prog 112 #[pt gb] e (mi gb gj n::jh gj gd n::df gd (er n L)::R) (fun v' L'=>v'=.tuple #[.int .i64 n,.int .i64 0]∧L'=mi gb gj (n+1)::jh gj gd (n+1)::df gd (er (n+1) L)::R):=by
 obtain ⟨a1,a2,a3⟩:=Ko h;refine (yH R e gb gj gd n n (er n L) (uj zo hL) zo zo).mono ?_;rintro _ _ ⟨rfl,rfl⟩;have OX:¬ 16≤n:=by omega
 simp only [takeN,ER,IK,IM,IN,aB OX,a1,a2,a3,if_true];refine ⟨?_,?_⟩<;>first|rfl|trivial
theorem wK (R:List cK) (e:World) (gb gj gd L:Nat) (h0:144≤L) (hL:L≤1048576) :
 Ct prog 112 #[pt gb] e (mi gb gj 16::jh gj gd 16::df gd (er 16 L)::R) (fun v' L'=>v'=.tuple #[.int .i64 0,.int .i64 23]∧L'=mi gb gj 16::jh gj gd 16::df gd (er 16 L)::R):=by
 refine (yH R e gb gj gd 16 16 (er 16 L) (uj zo hL) zo zo).mono ?_;rintro _ _ ⟨rfl,rfl⟩;exact ⟨rfl,rfl⟩
end Go.Proofs
namespace Go.Bs
section
variable {κ:Type} [DecidableEq κ]
def uk (k:κ):List (κ × Value)→Nat→Option (Nat × Value)
 | [],_=>none
 | p::l,j=>if p.1=k then some (j,p.2) else uk k l (j+1)
def gK (k:κ):List (κ × Value)→Option Value
 | []=>none
 | p::l=>if p.1=k then some p.2 else gK k l
def lH (k:κ) (v:Value):List (κ × Value)→List (κ × Value)
 | []=>[(k,v)]
 | p::l=>if p.1=k then (k,v)::l else p::lH k v l
theorem Bv {k:κ} {v:Value}:∀ {l:List (κ × Value)} {j:Nat},uk k l j=none→gK k l=none∧lH k v l=l++[(k,v)]
 | [],_,_=>⟨rfl,rfl⟩
 | p::l,j,h=>by
  unfold uk at h
  by_cases hk:p.1=k
  ·rw [aI hk] at h;cases h
  ·rw [aB hk] at h
   obtain ⟨h1,h2⟩:=Bv (v:=v) h;unfold gK lH;rw [aB hk,aB hk,h2];exact ⟨h1,rfl⟩
theorem Bw {k:κ} {v:Value}:∀ {l:List (κ × Value)} {j i:Nat} {u:Value},uk k l j=some (i,u)→∃ n,i=j+n∧gK k l=some u∧lH k v l=l.set n (k,v)∧∃ h:n<l.length,(l[n]'h).1=k
 | [],_,_,_,h=>by cases h
 | p::l,j,i,u,h=>by
  unfold uk at h
  by_cases hk:p.1=k
  ·rw [aI hk] at h
   cases h
   refine ⟨0,rfl,by unfold gK;rw [aI hk],by unfold lH;rw [aI hk];rfl,by simp,hk⟩
  ·rw [aB hk] at h
   obtain ⟨n,h1,h2,h3,h4,h5⟩:=Bw (v:=v) h;refine ⟨n+1,by omega,by unfold gK;rw [aB hk];exact h2,by unfold lH;rw [aB hk,h3];rfl,by rw [aN];omega,h5⟩
theorem IS {k:κ}:∀ {l:List (κ × Value)} {j:Nat},(uk k l j).map (·.2)=gK k l
 | [],_=>rfl
 | p::l,j=>by
  unfold uk gK
  by_cases hk:p.1=k
  ·rw [aI hk,aI hk];rfl
  ·rw [aB hk,aB hk];exact IS
class Hm (P:Program) (t:TypeId) (key:κ→Value) (z:outParam Value):Prop where
 ex:∃ kt et,P.underlying t=some (.map kt et)∧(∀ w,(zeroValue et).run P w=.ok z w)∧(∀ b k w,(Instr.checkKey b 10000 kt (key k)).run P w=.ok () w) ∧
  (∀ k (l:List MapEntry) (mV:List (κ × Value)) w,l.map (fun e=>(e.key,e.val))=mV.map (fun p=>(key p.1,p.2))→(Instr.findKey kt (key k) l).run P w=.ok (uk k mV 0) w)∧∀ k,Instr.sameBits 10000 (key k) (key k)=true
def iD (key:κ→Value) (g:Nat) (mV:List (κ × Value)):cK:=fun h=>∃ (es:Array MapEntry) (clock:Nat),h g=some (.map es clock)∧es.toList.map (fun e=>(e.key,e.val))=mV.map (fun p=>(key p.1,p.2))
theorem qv {key:κ→Value} {d:TypeDesc} (hs:∀ a b,Instr.sameNow d (key a) (key b)=some (decide (a=b))) (k:κ):∀ (l:List MapEntry) (mV:List (κ × Value)) (j:Nat),l.map (fun e=>(e.key,e.val))=mV.map (fun p=>(key p.1,p.2))→Instr.findNow d (key k) l j=some (uk k mV j)
 | [],mV,j,h=>by
  cases mV with
  | nil=>rfl
  | cons _ _=>simp at h
 | e::l,mV,j,h=>by
  cases mV with
  | nil=>simp at h
  | cons p mV =>
   simp only [List.map_cons,List.cons.injEq,Prod.mk.injEq] at h
   obtain ⟨⟨h1,h2⟩,h3⟩:=h;unfold Instr.findNow uk;rw [h1,hs]
   by_cases hk:k=p.1
   ·rw [ay hk,aI hk.symm,h2]
   ·rw [aq hk,aB (fun q=>hk q.symm)];exact qv hs k l mV (j+1) h3
theorem Se {P:Program} {t kt et:TypeId} {z:Value} (h1:P.underlying t=some (.map kt et)) (h2:P.underlying kt=some .string) (h3:∀ w,(zeroValue et).run P w=.ok z w):Hm P t (fun l:List UInt8=>Value.string (str l)) z :=
 ⟨kt,et,h1,h3,fun b k w=>MapKept.run_checkKey (k:=.string (str k)) h2 trivial b 9999,fun k l mV w h=>MapKept.run_findKey h2 (qv (key:=fun l:List UInt8=>Value.string (str l)) (d:=.string) (fun a b=>by
  have:(str a == str b)=decide (a=b):=by
   by_cases h:a=b
   ·subst h;rw [ay rfl];exact (MapKept.bytes_beq _ _).2 rfl
   ·rw [aq h]
    cases hb:(str a == str b) with
    | false=>rfl
    | true=>exact absurd (by
     have:=(MapKept.bytes_beq _ _).1 hb;have h4:=congrArg (fun x:ByteArray=>x.data.toList) this
     simpa [str] using h4) h
  simp [Instr.sameNow,this]) k l mV 0 h),fun k=>by
  show Instr.sameBits 10000 (.string (str k)) (.string (str k))=true
  simp only [Instr.sameBits];exact (MapKept.bytes_beq _ _).2 rfl⟩
theorem Sf {P:Program} {t kt et:TypeId} {z:Value} (h1:P.underlying t=some (.map kt et)) (h2:P.underlying kt=some (.int .i64)) (h3:∀ w,(zeroValue et).run P w=.ok z w):Hm P t (fun n:Int=>Value.int .i64 n) z :=
 ⟨kt,et,h1,h3,fun b k w=>MapKept.run_checkKey (k:=.int .i64 k) h2 rfl b 9999,fun k l mV w h=>MapKept.run_findKey h2 (qv (key:=fun n:Int=>Value.int .i64 n) (d:=.int .i64) (fun a b=>by
  simp [Instr.sameNow]
  by_cases h:a=b<;>simp [h]) k l mV 0 h),fun k=>by
  show Instr.sameBits 10000 (.int .i64 k) (.int .i64 k)=true
  simp [Instr.sameBits]⟩
end
section
variable {P:Program} {N:Fr} {Q:fP} {σ:Env} {e:World} {L:List cK} {all:Array Oper} {rest:List Oper}
variable {d:Nat} {op:Op} {ty:TypeId} {pos:String} {af:Array Edge} {gd:Option (Nat × Bool)} {K:Env→List cK→Prop} {x y z:Operand} {t:TypeId}
theorem Do.qw {κ:Type} (key:κ→Value) (hd:Nat.blt d N.n=true) (k:∀ g,K ((d,.map (some g))::σ) (iD key g []::L)):Do P N ⟨some d,.makeMap t none,ty,pos,af,gd⟩ K σ e L:=fun a w ha hs K' Q' hK =>
 e6 (w':=w.alloc (.map #[] 0)) (v:=.map (some w.heap.size)) (by
  have h:(Instr.makeMap t none).run P w=.ok (.map (some w.heap.size)) (w.alloc (.map #[] 0)):=rfl
  simp [execOp,h]) (hK _ _ _ _ (k _) (ha.put hd _) ((hs.alloc _).cM fun _=>my fun _ h=>⟨#[],0,h,rfl⟩))
variable {κ:Type} [DecidableEq κ] {key:κ→Value}
theorem cE.kF {g:Nat} {k:κ} {zz:Value} {mV:List (κ × Value)} {R:List cK} [m:Hm P t key zz] (hx:ev σ x=some (.map (some g))) (hy:ev σ y=some (key k)) (p:cR L (iD key g mV) R) :
 cE P N (.lookup t x y true) ty (.tuple #[(gK k mV).getD zz,.bool (gK k mV).isSome]) σ e L:=fun a w ha hs _ _ _ _=>by
 obtain ⟨kt,et,hm,hz,Gd,hfk,VF⟩:=m.ex;obtain ⟨h1,h2,ap,l1,l2,⟨es,clock,hg,J5⟩,hR⟩:=(hs.cM p.out).2.2.2;have hb:w.heap[g]?=some (.map es clock):=l1 g _ hg;have hf:=hfk k es.toList mV w J5;have he:=IS (k:=k) (l:=mV) (j:=0)
 have hr:(Instr.lookup t (.map (some g)) (key k) true).run P w=.ok (.tuple #[(gK k mV).getD zz,.bool (gK k mV).isSome]) w:=by
  unfold Instr.lookup
  cases hp:uk k mV 0 with
  | none =>
   rw [hp] at hf he
   rw [← he]
   simp [run_underlying hm,MapKept.run_getObj_map hb,Gd,hf,hz]
  | some q =>
   obtain ⟨i,v⟩:=q;rw [hp] at hf he
   rw [← he]
   simp [run_underlying hm,MapKept.run_getObj_map hb,Gd,hf]
 simp [execOp,ha.ev hx,ha.ev hy,hr]
theorem Do.jV {g:Nat} {k:κ} {v zz:Value} {mV:List (κ × Value)} {R:List cK} [m:Hm P t key zz] (hx:ev σ x=some (.map (some g))) (hy:ev σ y=some (key k)) (hz:ev σ z=some v) (p:cR L (iD key g mV) R) (kk:K σ (iD key g (lH k v mV)::R)) :
 Do P N ⟨none,.mapUpdate t x y z,ty,pos,af,gd⟩ K σ e L:=fun a w ha hs K' Q' hK=>by
 obtain ⟨kt,et,hm,hz0,Gd,hfk,VF⟩:=m.ex;have fR:=hs.cM p.out;obtain ⟨h1,h2,ap,l1,l2,⟨es,clock,hg,J5⟩,hR⟩:=id fR.2.2.2;have hb:w.heap[g]?=some (.map es clock):=l1 g _ hg
 have jL:∀ (VG:Array MapEntry) (CG:Nat),VG.toList.map (fun e=>(e.key,e.val))=(lH k v mV).map (fun p=>(key p.1,p.2))→Sat e (iD key g (lH k v mV)::R) { w with heap:=w.heap.setIfInBounds g (.map VG CG) }:=fun VG CG aau=>by
  have cP:g<w.heap.size:=(Array.getElem?_eq_some_iff.1 hb).1;refine fR.change rfl rfl rfl fun h1 hle hA=>?_
  obtain ⟨es2,aav,UJ,_⟩:=hA;refine ⟨fun b=>if b=g then some (.map VG CG) else none,?_,⟨VG,CG,by simp,aau⟩,?_,?_⟩
  ·intro b o tc
   by_cases eb:b=g
   ·subst eb;simp only [if_true] at tc;rw [← tc];simp [hp,cP]
   ·simp [eb] at tc
  ·intro b o tc hn
   by_cases eb:b=g
   ·subst eb;rw [UJ] at hn;cases hn
   ·simp [eb] at tc
  ·intro b hn o ho;have:b≠g:=by rintro rfl;rw [UJ] at hn;cases hn
   simp only [hp] at ho ⊢
   simp [Array.getElem?_setIfInBounds_ne this.symm,ho]
 have hex:∀ w',(Instr.mapUpdate t (.map (some g)) (key k) v).run P w=.ok () w'→K' (a.put none undef) w' →
  Oper.wp P ⟨none,.mapUpdate t x y z,ty,pos,af,gd⟩ a w K' Q':=fun w' hr hk =>
  l9 (w':=w') (by simp [execOp,ha.ev hx,ha.ev hy,ha.ev hz,hr]) hk
 have hf:=hfk k es.toList mV w J5
 cases hp:uk k mV 0 with
 | none =>
  rw [hp] at hf
  refine hex { w with heap:=w.heap.setIfInBounds g (.map (es.push { key:=key k,val:=v,born:=clock }) (clock+1)) } ?_ (hK _ _ _ _ kk ha ?_)
  ·simp [Instr.mapUpdate,run_underlying hm,MapKept.run_getObj_map hb,Gd,hf,MapKept.run_setObj_map _ hb]
  ·refine jL _ _ ?_;rw [(Bv (v:=v) hp).2]
   simp [J5]
 | some q =>
  obtain ⟨i,u⟩:=q;rw [hp] at hf
  obtain ⟨n,hi,_,EU,cP,hkn⟩:=Bw (v:=v) hp;rw [aC] at hi
  subst hi;have hlen:es.toList.length=mV.length:=by have:=congrArg List.length J5;simpa using this
  have Pa:∃ e',es[i]?=some e'∧e'.key=key k:=by
   have iH:i<es.size:=by rw [Array.length_toList] at hlen;omega
   refine ⟨es[i],Array.getElem?_eq_getElem iH,?_⟩;have:=congrArg (fun l=>l[i]?) J5;simp only [aL,Array.getElem?_toList,Array.getElem?_eq_getElem iH,ae cP,Option.map_some,Option.some.injEq,Prod.mk.injEq] at this
   rw [this.1,hkn]
  obtain ⟨e',Pa,hek⟩:=Pa;refine hex { w with heap:=w.heap.setIfInBounds g (.map (es.modify i fun e=>{ e with key:=key k,val:=v }) clock) } ?_ (hK _ _ _ _ kk ha ?_)
  ·simp [Instr.mapUpdate,run_underlying hm,MapKept.run_getObj_map hb,Gd,hf,Pa,hek,Instr.keyThatStays,VF,MapKept.run_setObj_map _ hb]
  ·refine jL _ _ ?_;rw [EU];apply List.ext_getElem?;intro j;have Gb:=congrArg (fun l=>l[j]?) J5;simp only [aL,Array.getElem?_toList,Array.getElem?_modify,List.getElem?_set] at Gb ⊢
   by_cases hj:i=j
   ·subst hj;rw [aI rfl,aI rfl,aI cP,Pa]
    rfl
   ·rw [aB hj,aB hj];exact Gb
end
end Go.Bs
namespace Go.Proofs
open Go.Bs
abbrev dw:=List UInt8
def rz (l:List dw):dw:=(l.map enc).flatten
def mW (l:List dw):dw:=be l.length 4++rz l
theorem wL (ts:List eo):jp ts=rz (ts.map (·.2)):=by
 unfold jp rz;rw [List.map_map];rfl
theorem yI {l:List dw} {n:Nat} (h:∀ b∈l,b.length≤n):(rz l).length≤l.length*(n+2):=by
 induction l with
 | nil=>simp [rz]
 | cons b l ih =>
  have h1:=ih fun x hx=>h x (aU _ hx)
  have h2:=h b (List.mem_cons_self ..)
  show (enc b++rz l).length≤_
  rw [aa,iz,aN,Nat.add_mul]
  omega
def fg (old:List dw):List dw→List dw→List dw
 | fresh,[]=>fresh
 | fresh,b::l=>if b∈old++fresh then fg old fresh l else fg old (fresh++[b]) l
def lT (l:List dw) (b:dw):Nat:=l.idxOf b
theorem pe {old:List dw}:∀ {l fresh:List dw},∃ m,fg old fresh l=fresh++m
 | [],fresh=>⟨[],by simp [fg]⟩
 | b::l,fresh=>by
  unfold fg
  split
  ·exact pe
  ·obtain ⟨m,h⟩:=pe (old:=old) (l:=l) (fresh:=fresh++[b]);exact ⟨b::m,by rw [h];simp⟩
theorem sr {old:List dw}:∀ {l fresh:List dw} {b:dw},b∈l→b∈old++fg old fresh l
 | x::l,fresh,b,h=>by
  unfold fg;rcases aQ.1 h with rfl|h
  ·split
   ·rename_i h1;obtain ⟨m,hm⟩:=pe (old:=old) (l:=l) (fresh:=fresh);rw [hm,← aM];exact List.mem_append_left _ h1
   ·obtain ⟨m,hm⟩:=pe (old:=old) (l:=l) (fresh:=fresh++[b]);rw [hm]
    simp
  ·split
   ·exact sr h
   ·exact sr h
theorem pf {old:List dw}:∀ {l fresh:List dw},(old++fresh).Nodup→(old++fg old fresh l).Nodup
 | [],fresh,h=>by simpa [fg] using h
 | b::l,fresh,h=>by
  unfold fg
  split
  ·exact pf h
  ·rename_i hb;refine pf ?_;rw [← aM];exact List.nodup_append.2 ⟨h,by simp,fun a ha c hc=>by rw [an.1 hc];rintro rfl;exact hb ha⟩
theorem su {old:List dw}:∀ {l fresh:List dw},(fg old fresh l).length≤fresh.length+l.length
 | [],fresh=>by simp [fg]
 | b::l,fresh=>by
  unfold fg
  split
  ·have:=su (old:=old) (l:=l) (fresh:=fresh);rw [aN];omega
  ·have:=su (old:=old) (l:=l) (fresh:=fresh++[b]);rw [aa,aj] at this;rw [aN];omega
theorem wM {l m:List dw} {b:dw} (h:b∈l):lT (l++m) b=lT l b:=by unfold lT;rw [List.idxOf_append,aI h]
theorem MK {l m:List dw} {b:dw} (h:¬ b∈l):lT (l++b::m) b=l.length:=by unfold lT;rw [List.idxOf_append,aB h];simp
def ie (l:List dw) (jD:Nat):List (dw × Value):=match l with
 | []=>[]
 | b::r=>(b,.int .i64 (jD:Int))::ie r (jD+1)
theorem kb {b:dw}:∀ {l:List dw} {k:Nat},gK b (ie l k)=if b∈l then some (.int .i64 ((k+lT l b:Nat):Int)) else none
 | [],k=>by simp [ie,gK]
 | x::l,k=>by
  unfold ie gK
  by_cases h:x=b
  ·subst h;rw [aI rfl,aI (List.mem_cons_self ..)]
   simp [lT]
  ·rw [aB h,kb];have hb:(x == b)=false:=by simpa using h
   by_cases hm:b∈l
   ·rw [aI hm,aI (aU _ hm)];unfold lT;rw [List.idxOf_cons,hb];simp only [cond_false];rw [show k+1+List.idxOf b l=k+(List.idxOf b l+1) by omega]
   ·rw [aB hm,aB (fun q=>by
     rcases aQ.1 q with rfl|q;· exact h rfl
     ·exact hm q)]
theorem sw {b:dw}:∀ {l:List dw} {k:Nat},¬ b∈l→lH b (.int .i64 ((k+l.length:Nat):Int)) (ie l k)=ie (l++[b]) k
 | [],k,_=>by simp [ie,lH]
 | x::l,k,h=>by
  have hx:¬ x=b:=fun q=>h (by rw [q];exact List.mem_cons_self ..)
  have ih:=sw (l:=l) (k:=k+1) (fun q=>h (aU _ q))
  show lH b _ ((x,.int .i64 (k:Int))::ie l (k+1))=(x,.int .i64 (k:Int))::ie (l++[b]) (k+1)
  unfold lH;rw [aB hx,← ih,aN];rw [show k+(l.length+1)=k+1+l.length by omega]
structure fW where
 recs:List (List dw)
 keys:Nat
 last:Option j7
def fW.cG (s:fW):List dw:=s.recs.flatten
def fW.jb (s:fW):dw:=eW (s.recs.map mW)
def k8:j7:=⟨⟨0,[]⟩,⟨0,[],[]⟩⟩
def fW.dE (s:fW):j7:=s.last.getD k8
structure fW.ok (s:fW):Prop where
 full:∀ r∈s.recs,r≠[]
 nodup:s.cG.Nodup
 size:s.cG.length≤256
 short:∀ b∈s.cG,b.length≤200
 keys:s.keys≤16
 last:∀ x,s.last=some x→x.dd.right∧x.sig.right∧x.dd.size≤s.cG.length
end Go.Proofs
namespace Go.Proofs
attribute [local irreducible] Bs.cE Bs.Do Bs.O Bs.W Bs.Fin Bs.A Bs.Ct Bs.cF Bs.Rd Bs.Sat Bs.cL Bs.Ob Bs.dJ Bs.View Bs.cB Bs.Ex Bs.dH Bs.Pu Bs.eZ Bs.dO Bs.dZ
open Go.Bs
open Tryz
theorem Hn (R:List cK) (e:World) (v:Value) (l:List dw) (hv:db R v (mW l)) (h0:l≠[]) (hl:l.length≤1000) (hb:∀ b∈l,b.length≤200) :
 Ct prog 68 #[v] e R (fun v' L'=>∃ ad c ts,v'=.tuple #[.slice ad ts.length c,.bool true]∧ts.map (·.2)=l∧L'=cV (.slice ad ts.length c) ts::cI ts::R):=by
 have DS:=yI hb;have Sg:(mW l).length≤1000000:=by unfold mW;rw [aa,cY];omega
 have ML:0<l.length:=List.length_pos_iff.2 h0;refine a8 (args:=[_]) func68 rfl ntmps68 results68 rfl ?_;refine wB ?_;refine aZ rfl rfl (jx _ e v (mW l) hv zo) ?_;rintro _ _ ⟨gr,rfl,rfl⟩;unfold mW;refine wB ?_;refine aZ rfl rfl (tD _ e gr l.length (rz l) zo) ?_;rintro _ _ ⟨rfl,rfl⟩;refine wB ?_;refine bq (ι:=Nat × List eo × Option Addr × Nat) (fun i=>[(4,pt gr),(5,.slice i.2.2.1 i.2.1.length i.2.2.2),(6,.int .u32 ((l.length - i.1:Nat):Int))]) (fun i=>Reader gr ⟨rz (l.drop i.1),false⟩::cV (.slice i.2.2.1 i.2.1.length i.2.2.2) i.2.1::cI i.2.1::R) (fun i=>i.1≤l.length∧i.2.1.map (·.2)=l.take i.1) (fun i=>l.length - i.1) (0,[],none,0) ⟨aH _,by simp⟩ zS (bh (cn dM (du eA 1))) ?_;rintro ⟨i,us,ad,c⟩ ⟨hi,hZ⟩;dsimp only at hi hZ ⊢
 have Et:us.length=i:=by have:=congrArg List.length hZ;rw [ab,aF] at this;omega
 by_cases cP:i<l.length
 rotate_left
 ·have JT:i=l.length:=by omega
  rw [aG zo] at hZ
  rw [List.drop_eq_nil_of_le zo,JT,Nat.sub_self];refine wB ?_;refine aZ rfl rfl (x9 _ e gr (rz [])) ?_;rintro _ _ ⟨rfl,rfl⟩;rw [ay (show rz []=[] from rfl)];refine wB ?_;exact aY (cV (.slice ad us.length c) us::cI us::R) rfl zE ⟨ad,c,us,rfl,hZ,rfl⟩
 have Eg:rz (l.drop i)=enc (l[i]'cP)++rz (l.drop (i+1)):=by rw [List.drop_eq_getElem_cons cP];rfl
 have z7:=hb _ (ax cP)
 have pg:(rz (l.drop (i+1))).length≤300000:=by
  have:=yI (l:=l.drop (i+1)) (n:=200) (fun b tc=>hb _ (aV tc));rw [aP] at this
  omega
 have kz:∀ w:Value,(us++[(w,l[i]'cP)]).map (·.2)=l.take (i+1):=fun w=>by
  rw [ah,hZ,aD cP]
  rfl
 have l8:((l.length - i:Nat):Int) - 1=((l.length - (i+1):Nat):Int):=by omega
 rw [Eg]
 generalize l[i]'cP=b at *
 refine wB ?_;refine aZ rfl rfl (vi _ e gr _) ?_;rintro _ _ ⟨rfl,rfl⟩;refine wB ?_;refine aZ rfl rfl (IE _ e gr b (rz (l.drop (i+1))) 65535 zo zo (by rw [aa,iz];omega)) ?_;rintro _ _ ⟨eE,c3,rfl,rfl⟩
 (repeat (refine wA ?_;intros))
 refine bC (bo rfl rfl rfl zP (bB .zero rfl zl) rfl rfl zO zm zo fun jB c4 _=>?_)
 refine wB ?_;rw [l8,wrap_u32 zo zo];refine bi (i+1,us++[(.slice eE b.length c3,b)],jB,c4) ⟨cP,kz _⟩ zd ?_ ?_
 ·dsimp only;rw [aa,aj];exact zS
 ·exact cn (show cB _ (Reader gr ⟨rz (l.drop (i+1)),false⟩::dJ eA 1 (.slice jB (us.length+1) c4) (us.length+1) (us.map (·.1)++[.slice eE b.length c3])::cT (.slice eE b.length c3) b::cI us::R) from zE) (bh gh)
abbrev yJ:TypeId:=143
abbrev nC:List UInt8→Value:=fun l=>.string (str l)
instance aaw:Hm prog 141 nC (.int .i64 0):=Se underlying141 underlying9 zeroValue3
theorem jq {ts:List eo} {v:Value} {b:dw} {R:List cK}:cB (cT v b::cI ts::R) (cI (ts++[(v,b)])::R) :=
 cn (bw (.succ .zero) aX) (cn (bh (jw (a:=(v,b)))) eL)
structure yK where
 ts:List eo
 us:List eo
 ai:Option Addr
 ci:Nat
 al:Option Addr
 cl:Nat
abbrev uo (vj vb vs vp:Value) (gm:Nat) (rest:List Value) (q:yK):List Value:=vj::vb::vs::vp::.slice q.ai q.ts.length q.ci::.slice q.al q.us.length q.cl::.map (some gm)::rest
abbrev kG (g:Nat) (vj vb vs vp:Value) (gm:Nat) (rest:List Value) (q:yK) (R:List cK):List cK:=cL g (uo vj vb vs vp gm rest q) yJ (0,0)::cV (.slice q.ai q.ts.length q.ci) q.ts::cV (.slice q.al q.us.length q.cl) q.us::iD nC gm (ie (q.ts.map (·.2)) 0)::R
theorem By (R:List cK) (e:World) (g:Nat) (vj vb vs vp:Value) (gm:Nat) (c1 c2 c3 c4 c5 c6:Value) (q:yK) (v:Value) (ls:List eo) (hv:cF R 1 v ls.length (ls.map (·.1))) (ht:dR R ls) (hn:(q.ts.map (·.2)++ls.map (·.2)).Nodup) (hq:q.us.length=q.ts.length) (hl:q.ts.length+ls.length≤256) (hb:∀ a∈ls,a.2.length≤200) :
 Ct prog 69 #[pt g,v] e (kG g vj vb vs vp gm [c1,c2,c3,c4,c5,c6] q R) (fun v' L'=>v'=.bool true∧∃ (q2:yK) (xj xz:List eo),q2.ts=q.ts++xj∧q2.us=q.us++xz∧xj.map (·.2)=ls.map (·.2)∧xz.map (·.2)=(ls.map (·.2)).map cZ∧L'=kG g vj vb vs vp gm [c1,c2,c3,c4,c5,c6] q2 (cI xj::cI xz::R)):=by
 refine a7 ((hv.cM (show cB (kG g vj vb vs vp gm [c1,c2,c3,c4,c5,c6] q R) R from zE)).shape zo) ?_;rintro ⟨⟨wm,cap,rfl,h3,h4,h5,h6⟩,_⟩;simp only [maxLen] at h4
 refine a8 (args:=[_,_]) func69 rfl ntmps69 results69 rfl ?_;refine wB ?_;refine bq (ι:=Nat × yK × List eo × List eo) (fun i=>[(0,pt g),(9,.slice wm ls.length cap),(10,.int .i64 (ls.length:Int)),(11,.int .i64 (i.1:Int))]) (fun i=>kG g vj vb vs vp gm [c1,c2,c3,c4,c5,c6] i.2.1 (cI i.2.2.1::cI i.2.2.2::R)) (fun i=>i.1≤ls.length∧i.2.1.ts=q.ts++i.2.2.1∧i.2.1.us=q.us++i.2.2.2∧i.2.2.1.map (·.2)=(ls.map (·.2)).take i.1∧i.2.2.2.map (·.2)=((ls.map (·.2)).take i.1).map cZ) (fun i=>ls.length - i.1) (0,q,[],[]) ⟨aH _,by simp,by simp,by simp,by simp⟩ zS (cn dM (cn dM zE)) ?_;rintro ⟨i,p,xj,xz⟩ ⟨hi,fB,hZ,Am,Ho⟩;dsimp only at hi fB hZ Am Ho ⊢
 by_cases cP:i<ls.length
 rotate_left
 ·rw [aG (by rw [ab];omega)] at Am Ho
  refine wB ?_;exact aY _ rfl aX ⟨rfl,p,xj,xz,fB,hZ,Am,Ho,rfl⟩
 rcases h6 with h6|⟨gl,ol,rfl⟩
 ·omega
 have Et:xj.length=i:=by have:=congrArg List.length Am;rw [ab,aF,ab] at this;omega
 have aax:xz.length=i:=by have:=congrArg List.length Ho;rw [ab,ab,aF,ab] at this;omega
 have hr:Rd R ⟨gl,ol+i,none⟩ (ls[i]'cP).1:=hv.elem (by rw [aL,ae cP];rfl);have ju:=ht _ (ax cP);have z7:=hb _ (ax cP)
 have Bc:(ls.map (·.2)).take (i+1)=(ls.map (·.2)).take i++[(ls[i]'cP).2]:=by
  rw [aD (by rw [ab];exact cP),List.getElem_map]
 have Gr:¬ (ls[i]'cP).2∈p.ts.map (·.2):=fun h=>by
  rw [fB,ah,Am] at h
  have hs:ls.map (·.2)=(ls.map (·.2)).take i++(ls[i]'cP).2::(ls.map (·.2)).drop (i+1):=by
   conv=>lhs;rw [← List.take_append_drop i (ls.map (·.2))]
   rw [List.drop_eq_getElem_cons (by rw [ab];exact cP),List.getElem_map]
  rw [hs,← aM] at hn
  exact (List.nodup_append.1 hn).2.2 _ h _ (List.mem_cons_self ..) rfl
 have hlen:(p.ts.map (·.2)).length=p.ts.length:=ab ..;have Cn:p.ts.length=q.ts.length+i:=by rw [fB,aa,Et]
 have aeL:p.us.length=q.ts.length+i:=by rw [hZ,aa,aax,hq]
 generalize ls[i]'cP=y at *
 obtain ⟨yv,b⟩:=y;dsimp only at hr ju z7 Bc Gr
 refine wB ?_;refine bk (id:=4) [11] (kG g vj vb vs vp gm [c1,c2,c3,c4,c5,c6] p (cI xj::cI xz::R)) mixed ?_;have hb0:∀ A B C D E F,db (A::B::C::D::E::F::R) yv b:=fun A B C D E F=>ju.tail.tail.tail.tail.tail.tail
 (refine tM 0 ?_;refine tN 1 ?_;refine tF 2 ?_;refine tL 3 ?_;refine tM 4 ?_;refine tk 5 _ rfl (b9 rfl zB) ?_)
 refine tk 6 _ rfl (cE.kF (key:=nC) (k:=b) rfl rfl zP) ?_;rw [kb,aB Gr]
 (refine tM 7 ?_;refine tk 8 _ rfl (bl rfl rfl) ?_;refine tk 9 _ rfl (bl rfl rfl) ?_;refine tA 10 ?_;(refine tO 11 ?_;refine dV (bj rfl) ?_))
 refine bf zK ?_;refine wB ?_;refine bk (id:=7) [11] (kG g vj vb vs vp gm [c1,c2,c3,c4,c5,c6] p (cI xj::cI xz::R)) mixed ?_
 (refine tM 0 ?_;refine tN 1 ?_;refine tF 2 ?_;refine tL 3 ?_;refine tM 4 ?_;refine tk 5 _ rfl (b9 rfl zB) ?_;refine tM 6 ?_;refine tN 7 ?_;refine tF 8 ?_;refine tL 9 ?_;refine tk 10 _ rfl (bN rfl) ?_)
 refine tO 11 ?_;refine Do.jV (key:=nC) (k:=b) rfl rfl rfl zP ?_;refine ⟨zN,?_⟩;have EU:=sw (l:=p.ts.map (·.2)) (k:=0) Gr;rw [aC,ab] at EU
 rw [EU];refine bf zK ?_;refine wB ?_;refine W.gC [(0,pt g),(6,yv),(9,.slice (some ⟨gl,ol,none⟩) ls.length cap),(10,.int .i64 (ls.length:Int)),(11,.int .i64 (i:Int))] zS ?_;refine bk (id:=8) [9,10,11] (cL g (uo vj vb vs vp gm [c1,c2,c3,c4,c5,c6] p) yJ (0,0)::R) mixed ?_
 (refine tM 0 ?_;refine tM 1 ?_;refine tN 2 ?_;refine tF 3 ?_;refine tL 4 ?_;refine tM 5 ?_)
 refine tO 6 ?_;refine bg rfl rfl (dy _ e yv b (ju.cM zE) zo) ?_;rintro _ _ ⟨ei,k1,rfl,rfl⟩;refine ⟨fun _=>zE,?_⟩;refine tO 7 ?_;refine bF (n:=1) (z:=nY) (cs:=[.slice ei b.length k1]) rfl rfl rfl rfl zQ rfl (fun g1=>⟨fun _=>zE,?_⟩);refine tO 8 ?_;refine bo rfl rfl rfl zP (bB .zero rfl zl) rfl rfl zO zm zo fun dW k2 _=>?_
 refine ⟨fun _=>zE,?_⟩
 ((refine tO 9 ?_;refine dV (bm rfl) ?_);(refine tO 10 ?_;refine dV (ba rfl) ?_);(refine tO 11 ?_;refine tf ?_;refine ⟨zN,?_⟩))
 refine bf zK ?_
 (repeat (refine wA ?_;intros))
 refine W.fp (L':=kG g vj vb vs vp gm [c1,c2,c3,c4,c5,c6] ⟨p.ts++[(.slice ei b.length k1,b)],p.us,dW,k2,p.al,p.cl⟩ (cI (xj++[(.slice ei b.length k1,b)])::cI xz::R)) ?_ ?_
 ·simp only [kG,uo,cV,aa,aj,ah,List.map_cons,List.map_nil];exact cn (show cB _ (cT (.slice ei b.length k1) b::cI xj::cL g [vj,vb,vs,vp,.slice dW (p.ts.length+1) k2,.slice p.al p.us.length p.cl,.map (some gm),c1,c2,c3,c4,c5,c6] yJ (0,0)::dJ eA 1 (.slice dW (p.ts.length+1) k2) (p.ts.length+1) (p.ts.map (·.1)++[.slice ei b.length k1])::dJ eA 1 (.slice p.al p.us.length p.cl) p.us.length (p.us.map (·.1))::iD nC gm (ie (p.ts.map (·.2)++[b]) 0)::cI xz::R) from zE) (cn jq zE)
 refine W.gC [(0,pt g),(6,yv),(9,.slice (some ⟨gl,ol,none⟩) ls.length cap),(10,.int .i64 (ls.length:Int)),(11,.int .i64 (i:Int))] zS ?_;have hsn:(p.ts++[((.slice ei b.length k1:Value),b)]).length=p.ts.length+1:=by rw [aa];rfl
 have aaA:p.ts++[((.slice ei b.length k1:Value),b)]=q.ts++(xj++[(.slice ei b.length k1,b)]):=by rw [fB,aM]
 have VH:(xj++[((.slice ei b.length k1:Value),b)]).map (·.2)=(ls.map (·.2)).take (i+1):=by rw [Bc,ah,Am];rfl
 generalize p.ts++[((.slice ei b.length k1:Value),b)]=pt at *
 generalize xj++[((.slice ei b.length k1:Value),b)]=ts2 at *
 refine bk (id:=9) [9,10,11] (cL g (uo vj vb vs vp gm [c1,c2,c3,c4,c5,c6] ⟨pt,p.us,dW,k2,p.al,p.cl⟩) yJ (0,0)::R) mixed ?_
 (refine tM 0 ?_;refine tM 1 ?_;refine tN 2 ?_;refine tF 3 ?_;refine tL 4 ?_;refine tM 5 ?_)
 refine tO 6 ?_;refine bg rfl rfl (qU _ e yv b (ju.cM zE) zo) ?_;rintro _ _ ⟨eE,k3,rfl,rfl⟩;refine ⟨fun _=>zE,?_⟩;have QQ:[cZ b]=[b].map cZ:=rfl
 generalize cZ b=lb at QQ ⊢
 refine tO 7 ?_;refine bF (n:=1) (z:=nY) (cs:=[.slice eE lb.length k3]) rfl rfl rfl rfl zQ rfl (fun g1=>⟨fun _=>zE,?_⟩);refine tO 8 ?_;refine bo rfl rfl rfl zP (bB .zero rfl zl) rfl rfl zO zm zd fun jB k4 _=>?_
 refine ⟨fun _=>zE,?_⟩
 ((refine tO 9 ?_;refine dV (bm rfl) ?_);(refine tO 10 ?_;refine dV (ba rfl) ?_);(refine tO 11 ?_;refine tf ?_;refine ⟨zN,?_⟩))
 refine bf zK ?_;refine wB ?_;refine bi (i+1,⟨pt,p.us++[(.slice eE lb.length k3,lb)],dW,k2,jB,k4⟩,ts2,xz++[(.slice eE lb.length k3,lb)]) ⟨cP,aaA,by dsimp only;rw [hZ,aM],VH,by dsimp only;rw [ah,Ho,Bc,ah,← QQ];rfl⟩ zd zS ?_;simp only [kG,uo,cV,aa,aj,ah,List.map_cons,List.map_nil];exact cn (show cB _ (cT (.slice eE lb.length k3) lb::cI xz::cL g [vj,vb,vs,vp,.slice dW pt.length k2,.slice jB (p.us.length+1) k4,.map (some gm),c1,c2,c3,c4,c5,c6] yJ (0,0)::dJ eA 1 (.slice dW pt.length k2) pt.length (pt.map (·.1))::dJ eA 1 (.slice jB (p.us.length+1) k4) (p.us.length+1) (p.us.map (·.1)++[.slice eE lb.length k3])::iD nC gm (ie (pt.map (·.2)) 0)::cI ts2::R) from zE) (cn jq zE)
abbrev uu (v:Value) (l:List Nat):cK:=dJ 3 1 v l.length (l.map fun n:Nat=>Value.int .i64 (n:Int))
structure wN (q:yK) (ls fs:List eo) (outs:List Nat) (i:Nat):Prop where
 fresh:fs.map (·.2)=fg (q.ts.map (·.2)) [] ((ls.map (·.2)).take i)
 sub:∀ a∈fs,a∈ls
 len:outs.length=i
 outs:∀ j (h:j<outs.length),outs[j]=lT (q.ts.map (·.2)++fs.map (·.2)) ((ls.map (·.2)).getD j [])
theorem np {old:List dw} {b:dw}:∀ {l fresh:List dw},fg old fresh (l++[b])=if b∈old++fg old fresh l then fg old fresh l else fg old fresh l++[b]
 | [],fresh=>by simp [fg]
 | x::l,fresh=>by
  rw [List.cons_append];unfold fg
  split
  ·exact np
  ·exact np
theorem wN.step {q:yK} {ls fs:List eo} {outs:List Nat} {i:Nat} (h:wN q ls fs outs i) (hi:i<ls.length) {a:eo} (ha:ls[i]'hi=a) (gB:a.2∈q.ts.map (·.2)++fs.map (·.2)):wN q ls fs (outs++[lT (q.ts.map (·.2)++fs.map (·.2)) a.2]) (i+1):=by
 obtain ⟨h1,h2,h3,h4⟩:=h
 have hn:(ls.map (·.2)).take (i+1)=(ls.map (·.2)).take i++[a.2]:=by
  rw [aD (by rw [ab];exact hi),List.getElem_map,ha]
 refine ⟨?_,h2,by rw [aa,h3];rfl,fun j hj=>?_⟩
 ·rw [hn,np,← h1,aI gB]
 ·rw [aa,aj] at hj
  by_cases A3:j<outs.length
  ·rw [List.getElem_append_left A3,h4 j A3]
  ·have:j=i:=by omega
   subst this;rw [List.getElem_append_right zo];simp only [h3,Nat.sub_self,List.getElem_cons_zero];rw [fa hi,ha]
theorem wN.new {q:yK} {ls fs:List eo} {outs:List Nat} {i:Nat} (h:wN q ls fs outs i) (hi:i<ls.length) {a:eo} (ha:ls[i]'hi=a) (gB:¬ a.2∈q.ts.map (·.2)++fs.map (·.2)):wN q ls (fs++[a]) (outs++[q.ts.length+fs.length]) (i+1):=by
 obtain ⟨h1,h2,h3,h4⟩:=h
 have hn:(ls.map (·.2)).take (i+1)=(ls.map (·.2)).take i++[a.2]:=by
  rw [aD (by rw [ab];exact hi),List.getElem_map,ha]
 have mX:(fs++[a]).map (·.2)=fg (q.ts.map (·.2)) [] ((ls.map (·.2)).take (i+1)):=by
  rw [hn,np,← h1,aB gB,ah]
  rfl
 refine ⟨mX,fun x hx=>?_,by rw [aa,h3];rfl,fun j hj=>?_⟩
 ·rcases aJ.1 hx with hx|hx
  ·exact h2 x hx
  ·rw [an.1 hx,← ha];exact ax hi
 ·rw [aa,aj] at hj
  by_cases A3:j<outs.length
  ·rw [List.getElem_append_left A3,h4 j A3,ah,← aM,wM (l:=q.ts.map (·.2)++fs.map (·.2))];have xk:j<((ls.map (·.2)).take i).length:=by rw [aF,ab];omega
   rw [h1];have hm:=sr (old:=q.ts.map (·.2)) (fresh:=[]) (ax xk);rw [List.getElem_take] at hm
   rw [aA,ae (by rw [ab];omega)];exact hm
  ·have:j=i:=by omega
   subst this;rw [List.getElem_append_right zo];simp only [h3,Nat.sub_self,List.getElem_cons_zero];rw [fa hi,ha,ah,← aM,List.map_cons,MK gB,aa,ab,ab]
theorem Hp (R:List cK) (e:World) (g:Nat) (vj vb vs vp:Value) (gm:Nat) (c1 c2 c3 c4 c5 c6:Value) (q:yK) (v:Value) (ls:List eo) (hv:cF R 1 v ls.length (ls.map (·.1))) (ht:dR R ls) (hl:ls.length≤1000) (hq:q.ts.length≤1000) :
 Ct prog 72 #[pt g,v] e (kG g vj vb vs vp gm [c1,c2,c3,c4,c5,c6] q R) (fun v' L'=>∃ (ao af:Option Addr) (co cf:Nat) (fs:List eo) (outs:List Nat),v'=.tuple #[.slice ao outs.length co,.slice af fs.length cf]∧wN q ls fs outs ls.length∧L'=uu (.slice ao outs.length co) outs::cV (.slice af fs.length cf) fs::kG g vj vb vs vp gm [c1,c2,c3,c4,c5,c6] q R):=by
 refine a7 ((hv.cM (show cB (kG g vj vb vs vp gm [c1,c2,c3,c4,c5,c6] q R) R from zE)).shape zo) ?_;rintro ⟨⟨wm,cap,rfl,h3,h4,h5,h6⟩,_⟩;simp only [maxLen] at h4
 refine a8 (args:=[_,_]) func72 rfl ntmps72 results72 rfl ?_;refine wB ?_;refine bC (Do.qw nC rfl fun g2=>?_)
 refine wB ?_;refine bq (ι:=Nat × List eo × List Nat × Option Addr × Nat × Option Addr × Nat) (fun i=>[(0,pt g),(6,.slice i.2.2.2.1 i.2.2.1.length i.2.2.2.2.1),(7,.slice i.2.2.2.2.2.1 i.2.1.length i.2.2.2.2.2.2),(8,.map (some g2)),(14,.slice wm ls.length cap),(15,.int .i64 (ls.length:Int)),(16,.int .i64 (i.1:Int))]) (fun i=>iD nC g2 (ie (i.2.1.map (·.2)) q.ts.length)::uu (.slice i.2.2.2.1 i.2.2.1.length i.2.2.2.2.1) i.2.2.1::cV (.slice i.2.2.2.2.2.1 i.2.1.length i.2.2.2.2.2.2) i.2.1::kG g vj vb vs vp gm [c1,c2,c3,c4,c5,c6] q R) (fun i=>i.1≤ls.length∧wN q ls i.2.1 i.2.2.1 i.1) (fun i=>ls.length - i.1) (0,[],[],none,0,none,0) ⟨aH _,⟨by simp [fg],fun a h=>by simp at h,rfl,fun j h=>by simp at h⟩⟩ zS (bh (cn (du eA 1) (du 3 1))) ?_;rintro ⟨i,fs,outs,ao,co,af,cf⟩ ⟨hi,hS⟩;dsimp only at hi hS ⊢
 have Et:=hS.len
 have DF:fs.length≤i:=by
  have:=congrArg List.length hS.fresh;rw [ab] at this
  have h2:=su (old:=q.ts.map (·.2)) (l:=(ls.map (·.2)).take i) (fresh:=[]);rw [aF,ab,List.length_nil] at h2
  omega
 by_cases cP:i<ls.length
 rotate_left
 ·have:i=ls.length:=by omega
  subst this;refine wB ?_;exact aY _ rfl (cB.drop aX) ⟨ao,af,co,cf,fs,outs,rfl,hS,rfl⟩
 rcases h6 with h6|⟨gl,ol,rfl⟩
 ·omega
 have hr:Rd R ⟨gl,ol+i,none⟩ (ls[i]'cP).1:=hv.elem (by rw [aL,ae cP];rfl);have ju:=ht _ (ax cP);have eK:=fun h=>hS.step cP (a:=ls[i]'cP) rfl h
 have hnw:=fun h=>hS.new cP (a:=ls[i]'cP) rfl h
 generalize ls[i]'cP=y at *
 obtain ⟨yv,b⟩:=y;dsimp only at hr ju eK hnw
 refine bD (cz (ju.cM zE)) fun oy=>?_
 refine wB ?_;refine bk (id:=7) [11] (iD nC g2 (ie (fs.map (·.2)) q.ts.length)::uu (.slice ao outs.length co) outs::cV (.slice af fs.length cf) fs::kG g vj vb vs vp gm [c1,c2,c3,c4,c5,c6] q R) mixed ?_;have hb0:∀ A B C D E F G,db (A::B::C::D::E::F::G::R) yv b:=fun A B C D E F G=>ju.tail.tail.tail.tail.tail.tail.tail
 (refine tM 0 ?_;refine tN 1 ?_;refine tF 2 ?_;refine tL 3 ?_;refine tM 4 ?_;refine tk 5 _ rfl (b9 rfl zB) ?_)
 refine tk 6 _ rfl (cE.kF (key:=nC) (k:=b) rfl rfl (.succ (.succ (.succ (.succ (.succ (.succ .zero))))))) ?_
 (refine tM 7 ?_;refine tk 8 _ rfl (bl rfl rfl) ?_;refine tk 9 _ rfl (bl rfl rfl) ?_;refine tA 10 ?_;(refine tO 11 ?_;refine dV (bj rfl) ?_))
 refine bf zK ?_;rw [kb];have mY:∀ n:Nat,∀ c∈[Value.int .i64 (n:Int)],c.oneCell'=true:=fun n c hc=>by rw [an.1 hc];rfl
 by_cases hA:b∈q.ts.map (·.2)
 ·rw [aI hA];have Ae:lT (q.ts.map (·.2)++fs.map (·.2)) b=lT (q.ts.map (·.2)) b:=wM hA;have hn:=eK (List.mem_append_left _ hA);rw [Ae] at hn
  rw [aC];simp only [Option.getD_some,Option.isSome_some]
  generalize lT (q.ts.map (·.2)) b=z at *
  (repeat (refine wA ?_;intros))
  refine bC (bo rfl rfl rfl zP (bB .zero rfl zl) rfl rfl (mY z) zm zo fun ei k1 _=>?_)
  refine wB ?_;refine bi (i+1,fs,outs++[z],ei,k1,af,cf) ⟨cP,hn⟩ zd ?_ ?_
  ·dsimp only;rw [aa,aj];exact zS
  ·simp only [uu,aa,aj,ah,List.map_cons,List.map_nil];exact zE
 rw [aB hA];simp only [Option.getD_none,Option.isSome_none]
 by_cases hB:b∈fs.map (·.2)
 ·have Ae:lT (q.ts.map (·.2)++fs.map (·.2)) b=q.ts.length+lT (fs.map (·.2)) b:=by
   unfold lT;rw [List.idxOf_append,aB hA,ab]
   omega
  have hn:=eK (List.mem_append_right _ hB);rw [Ae] at hn
  refine wB ?_;refine bx _ (cE.kF (key:=nC) (k:=b) rfl rfl .zero) rfl ?_;rw [kb,aI hB];simp only [Option.getD_some,Option.isSome_some]
  generalize q.ts.length+lT (fs.map (·.2)) b=z at *
  (repeat (refine wA ?_;intros))
  refine bC (bo rfl rfl rfl zP (bB .zero rfl zl) rfl rfl (mY z) zm zo fun ei k1 _=>?_)
  refine wB ?_;refine bi (i+1,fs,outs++[z],ei,k1,af,cf) ⟨cP,hn⟩ zd ?_ ?_
  ·dsimp only;rw [aa,aj];exact zS
  ·simp only [uu,aa,aj,ah,List.map_cons,List.map_nil];exact zE
 have hn:=hnw (fun h=>(aJ.1 h).elim hA hB);refine wB ?_;refine bx _ (cE.kF (key:=nC) (k:=b) rfl rfl .zero) rfl ?_;rw [kb,aB hB];simp only [Option.getD_none,Option.isSome_none];refine wB ?_;refine bC (Do.jV (key:=nC) (k:=b) rfl rfl rfl .zero ?_)
 have EU:=sw (l:=fs.map (·.2)) (k:=q.ts.length) hB;rw [ab] at EU
 have QS:((q.ts.length+fs.length:Nat):Int)=(q.ts.length:Int)+fs.length:=by omega
 rw [QS] at EU
 rw [EU]
 (repeat (refine wA ?_;intros))
 refine bC (bo rfl rfl rfl zP (bB .zero rfl zl) rfl rfl (fun c hc=>by rw [an.1 hc];exact oy) zm zo fun ei k1 _=>?_)
 rw [← QS]
 generalize hz:q.ts.length+fs.length=z at *
 (repeat (refine wA ?_;intros))
 refine bC (bo rfl rfl rfl zP (bB .zero rfl zl) rfl rfl (mY z) zm zo fun dW k2 _=>?_)
 refine wB ?_;refine bi (i+1,fs++[(yv,b)],outs++[z],dW,k2,ei,k1) ⟨cP,hn⟩ zd ?_ ?_
 ·dsimp only;rw [aa,aj,aa,aj];exact zS
 ·simp only [uu,cV,aa,aj,ah,List.map_cons,List.map_nil];exact zE
end Go.Proofs
namespace Go.Bs
def pU (m:Nat) (l:List (List UInt8)) (w:Bool):List (List UInt8) :=
 if m=l.length then (if w=true then [] else [eg l])
 else if h:2≤l.length then
  if m≤cO l.length then pU m (l.take (cO l.length)) w++[eg (l.drop (cO l.length))]
  else pU (m - cO l.length) (l.drop (cO l.length)) false++[eg (l.take (cO l.length))]
 else []
 termination_by l.length
 decreasing_by
 ·have:=dA h;rw [aF];omega
 ·have:=dA h;rw [aP];omega
def io (m n:Nat) (w:Bool):Nat :=
 if m=n then (if w=true then 0 else 1)
 else if h:2≤n then
  if m≤cO n then io m (cO n) w+1 else io (m - cO n) (n - cO n) false+1
 else 0
 termination_by n
 decreasing_by
 ·have:=dA h;omega
 ·have:=dA h;omega
def iC (m n:Nat) (w:Bool) (p:List (List UInt8)) (old:List UInt8):List UInt8 × List UInt8 :=
 if m=n then (if w=true then (old,old) else (lD p,lD p))
 else if h:2≤n then
  if m≤cO n then ((iC m (cO n) w p.dropLast old).1,eI (iC m (cO n) w p.dropLast old).2 (lD p))
  else (eI (lD p) (iC (m - cO n) (n - cO n) false p.dropLast old).1,eI (lD p) (iC (m - cO n) (n - cO n) false p.dropLast old).2)
 else (old,old)
 termination_by n
 decreasing_by
 all_goals (have:=dA h;omega)
section
variable {m n:Nat} {w:Bool} {l p:List (List UInt8)} {old:List UInt8}
theorem yL:pU l.length l true=[]:=by rw [pU,aI rfl,aI rfl]
theorem qY:pU l.length l false=[eg l]:=by rw [pU,aI rfl];rfl
theorem xB (h1:m≠l.length) (h:2≤l.length) (hm:m≤cO l.length):pU m l w=pU m (l.take (cO l.length)) w++[eg (l.drop (cO l.length))]:=by rw [pU,aB h1,dif_pos h,aI hm]
theorem xC (h1:m≠l.length) (h:2≤l.length) (hm:¬ m≤cO l.length):pU m l w=pU (m - cO l.length) (l.drop (cO l.length)) false++[eg (l.take (cO l.length))]:=by rw [pU,aB h1,dif_pos h,aB hm]
theorem qZ:io n n true=0:=by rw [io,aI rfl,aI rfl]
theorem la:io n n false=1:=by rw [io,aI rfl];rfl
theorem yM (h1:m≠n) (h:2≤n) (hm:m≤cO n):io m n w=io m (cO n) w+1:=by rw [io,aB h1,dif_pos h,aI hm]
theorem yN (h1:m≠n) (h:2≤n) (hm:¬ m≤cO n):io m n w=io (m - cO n) (n - cO n) false+1:=by rw [io,aB h1,dif_pos h,aB hm]
theorem sx:iC n n true p old=(old,old):=by rw [iC,aI rfl,aI rfl]
theorem qx:iC n n false p old=(lD p,lD p):=by rw [iC,aI rfl];rfl
theorem Bz (h1:m≠n) (h:2≤n) (hm:m≤cO n):iC m n w p old=((iC m (cO n) w p.dropLast old).1,eI (iC m (cO n) w p.dropLast old).2 (lD p)):=by rw [iC,aB h1,dif_pos h,aI hm]
theorem BA (h1:m≠n) (h:2≤n) (hm:¬ m≤cO n):iC m n w p old=(eI (lD p) (iC (m - cO n) (n - cO n) false p.dropLast old).1,eI (lD p) (iC (m - cO n) (n - cO n) false p.dropLast old).2):=by rw [iC,aB h1,dif_pos h,aB hm]
end
theorem lI:∀ (n m:Nat) (l:List (List UInt8)) (w:Bool),l.length=n→1≤m→m≤n→(pU m l w).length=io m l.length w:=by
 intro n
 induction n using Nat.strongRecOn with
 | ind n ih =>
  intro m l w hn h1 h2
  by_cases he:m=l.length
  ·subst he
   cases w
   ·rw [qY,la];rfl
   ·rw [yL,qZ];rfl
  ·have h:2≤l.length:=by omega
   have hs:=dA h
   by_cases hm:m≤cO l.length
   ·have e1:(l.take (cO l.length)).length=cO l.length:=by rw [aF];omega
    rw [xB he h hm,yM he h hm,aa,aj,ih _ (by omega) m _ w e1 h1 hm,e1]
   ·have e1:(l.drop (cO l.length)).length=l.length - cO l.length:=aP;rw [xC he h hm,yN he h hm,aa,aj,ih _ (by omega) _ _ false e1 (by omega) (by omega),e1]
theorem oe:∀ (t n m:Nat) (w:Bool),n≤2 ^ t→io m n w≤t+1
 | 0,n,m,w,h=>by
  rw [Nat.pow_zero] at h
  rw [io]
  split
  ·split<;>omega
  ·rw [dif_neg (by omega)];omega
 | t+1,n,m,w,h=>by
  by_cases he:m=n
  ·subst he
   cases w
   ·rw [la];omega
   ·rw [qZ];omega
  by_cases h2:2≤n
  ·have hs:=dA h2;have hh:=wu h h2
   by_cases hm:m≤cO n
   ·rw [yM he h2 hm];have:=oe t (cO n) m w hh;omega
   ·rw [yN he h2 hm];have:=oe t (n - cO n) (m - cO n) false (by omega);omega
  ·rw [io,aB he,dif_neg h2];omega
theorem Hq {m n:Nat} (h:2≤n) (h1:cO n<m) (h2:m≤n):cO m=cO n:=by
 have hs:=dA h;obtain ⟨j,hj⟩:∃ j,cO n=2 ^ j:=⟨(n - 1).log2,by unfold cO;rw [aB (by omega)]⟩
 rw [hj] at hs h1 ⊢
 have h0:=Nat.two_pow_pos j;unfold cO;rw [aB (by omega)]
 congr 1
 rw [Nat.log2_eq_iff (by omega)];have:2 ^ (j+1)=2*2 ^ j:=by rw [Nat.pow_succ,Nat.mul_comm]
 omega
theorem Hr:∀ (n m:Nat) (l:List (List UInt8)) (w:Bool) (old:List UInt8),l.length=n→1≤m→m≤n→(w=true→old=eg (l.take m))→iC m l.length w (pU m l w) old=(eg (l.take m),eg l):=by
 intro n
 induction n using Nat.strongRecOn with
 | ind n ih =>
  intro m l w old hn h1 h2 ho
  by_cases he:m=l.length
  ·subst he;have e1:l.take l.length=l:=List.take_length;rw [e1] at ho ⊢
   cases w
   ·rw [qY,qx];rfl
   ·rw [sx,ho rfl]
  ·have h:2≤l.length:=by omega
   have hs:=dA h;have rI:=jU h
   by_cases hm:m≤cO l.length
   ·have e1:(l.take (cO l.length)).length=cO l.length:=by rw [aF];omega
    have e2:(l.take (cO l.length)).take m=l.take m:=by rw [List.take_take,Nat.min_eq_left hm]
    have e3:=ih _ (by omega) m (l.take (cO l.length)) w old e1 h1 hm (by rw [e2];exact ho);rw [e1,e2] at e3
    rw [xB he h hm,Bz he h hm,List.dropLast_concat,mS,e3,rI]
   ·have e1:(l.drop (cO l.length)).length=l.length - cO l.length:=aP;have e3:=ih _ (by omega) (m - cO l.length) (l.drop (cO l.length)) false old e1 (by omega) (by omega) (fun h=>by cases h);rw [e1] at e3
    have e4:(l.take m).length=m:=by rw [aF];omega
    have e5:=jU (l:=l.take m) (by omega);rw [e4,Hq h (by omega) (by omega),List.take_take,Nat.min_eq_left (by omega),List.drop_take] at e5
    rw [xC he h hm,BA he h hm,List.dropLast_concat,mS,e3,rI,e5]
theorem BB:∀ (n m:Nat) (l:List (List UInt8)) (w:Bool),l.length=n→(∀ a∈l,a.length=32)→∀ a∈pU m l w,a.length=32:=by
 intro n
 induction n using Nat.strongRecOn with
 | ind n ih =>
  intro m l w hn hh a ha
  by_cases he:m=l.length
  ·subst he
   cases w
   ·rw [qY] at ha;rw [an.1 ha];exact gH hh
   ·rw [yL] at ha;cases ha
  by_cases h:2≤l.length
  ·have hs:=dA h
   by_cases hm:m≤cO l.length
   ·rw [xB he h hm] at ha
    rcases aJ.1 ha with q|q
    ·exact ih _ (by rw [aF];omega) _ _ w rfl (fun b hb=>hh b (aR hb)) a q
    ·rw [an.1 q];exact gH fun b hb=>hh b (aV hb)
   ·rw [xC he h hm] at ha
    rcases aJ.1 ha with q|q
    ·exact ih _ (by rw [aP];omega) _ _ false rfl (fun b hb=>hh b (aV hb)) a q
    ·rw [an.1 q];exact gH fun b hb=>hh b (aR hb)
  ·rw [pU,aB he,dif_neg h] at ha;cases ha
end Go.Bs
namespace Go.Bs
end Go.Bs
namespace Go.Proofs
open Go.Bs
attribute [local irreducible] Bs.cE Bs.Do Bs.O Bs.W Bs.Fin Bs.A Bs.Ct Bs.cF Bs.Rd Bs.Sat Bs.cL Bs.Ob Bs.dJ Bs.View Bs.cB Bs.Ex Bs.dH Bs.Pu Bs.eZ Bs.dO Bs.dZ
theorem MM:∀ (n:Nat) (R:List cK) (e:World) (v:Value) (ts:List eo) (m:Nat) (w:Bool),ts.length=n→cF R 1 v ts.length (ts.map (·.1))→dR R ts→(∀ a∈ts,a.2.length≤1000000)→ts.length≤1000000→1≤m→m≤ts.length →
 Ct Tryz.prog 216 #[.int .i64 (m:Int),v,.bool w] e R (fun v' L'=>∃ ad c out,v'=.slice ad out.length c∧out.map (·.2)=pU m (ts.map (·.2)) w∧L'=cV (.slice ad out.length c) out::cI out::R):=by
 intro n
 induction n using Nat.strongRecOn with
 | _ n ih =>
 intro R e v ts m w hn hv ht hb hl T9 Cg;refine a7 (hv.shape zo) ?_;rintro ⟨⟨ad,cap,rfl,h3,h4,h5,h6⟩,_⟩;simp only [maxLen] at h4
 refine a8 (args:=[_,_,_]) Tryz.func216 rfl Tryz.ntmps216 Tryz.results216 rfl ?_
 by_cases he:m=ts.length
 ·subst he
  cases w
  ·refine wB ?_;refine aZ rfl rfl (j4 ts.length _ e _ ts rfl hv ht hb hl) ?_;rintro _ _ ⟨dW,c2,rfl,rfl⟩
   generalize rI:eg (ts.map (·.2))=rt at *
   (repeat (refine wA ?_;intros))
   rename_i g;refine aY (cV (.slice (some ⟨g,0,none⟩) [((Value.slice dW rt.length c2,rt):eo)].length 1) [((Value.slice dW rt.length c2,rt):eo)]::cI [((Value.slice dW rt.length c2,rt):eo)]::R) rfl ?_ ⟨some ⟨g,0,none⟩,1,[((Value.slice dW rt.length c2,rt):eo)],rfl,?_,rfl⟩
   ·refine cn (hH (n:=1) (k:=1) (cap:=1) zo zl rfl) (bh (jw (a:=(Value.slice dW rt.length c2,rt))))
   ·have:=qY (l:=ts.map (·.2));rw [ab,rI] at this
    rw [this];rfl
  ·refine wB ?_;exact aY (cV nY []::cI []::R) rfl (cn dM (du _ _)) ⟨none,0,[],rfl,by have:=yL (l:=ts.map (·.2));rw [ab] at this;rw [this];rfl,rfl⟩
 have h2:2≤ts.length:=by omega
 refine wB ?_;refine aZ rfl rfl (mO R e ts.length zo) ?_;rintro _ _ ⟨rfl,rfl⟩;rw [kZ];have hs:=dA h2;have vy:=fun h=>xB (l:=ts.map (·.2)) (m:=m) (w:=w) (by rw [ab];exact he) (by rw [ab];exact h2) h
 have JZ:=fun h=>xC (l:=ts.map (·.2)) (m:=m) (w:=w) (by rw [ab];exact he) (by rw [ab];exact h2) h
 rw [ab,← List.map_take,← List.map_drop] at vy JZ
 have Ek:=k7 hv (k:=cO ts.length) zo;have z9:=vz hv (k:=cO ts.length) zo
 generalize cO ts.length=k at *
 have QH:(ts.take k).length=k:=by rw [aF];omega
 have El:(ts.drop k).length=ts.length - k:=aP
 by_cases wv:m≤k
 ·refine wB ?_;refine bz (id:=7) [12] Tryz.mixed ?_
  (refine tM 0 ?_;refine tM 1 ?_;refine tM 2 ?_;refine tk 3 _ rfl (cE.iV rfl rfl zo zo) ?_;refine tM 4 ?_;refine tM 6 ?_;refine tM 7 ?_;refine tk 8 _ rfl (cE.ln rfl rfl zo zo) ?_)
  refine tO 5 ?_;refine bg rfl rfl (ih k zo R e _ (ts.take k) m w QH Ek (jM ht fun x hx=>aR hx) (fun a ha=>hb a (aR ha)) zo T9 zo) ?_;rintro _ _ ⟨ei,c1,out,rfl,ho,rfl⟩
  have Et:out.length≤1000000:=by
   have h7:=congrArg List.length ho;rw [ab,lI k m ((ts.take k).map (·.2)) w (by rw [ab];exact QH) T9 wv] at h7
   have:=oe 20 ((ts.take k).map (·.2)).length m w (by rw [ab];omega)
   omega
  refine ⟨fun _=>zE,?_⟩;refine tO 9 ?_;refine bg rfl rfl (j4 (ts.length - k) _ e _ (ts.drop k) El z9.tail.tail (dR.tail (dR.tail (jM ht fun x hx=>aV hx))) (fun a ha=>hb a (aV ha)) zo) ?_;rintro _ _ ⟨dW,c2,rfl,rfl⟩;refine ⟨fun _=>zE,?_⟩
  generalize rI:eg ((ts.drop k).map (·.2))=rt at *
  refine tO 10 ?_;refine bF (n:=1) rfl rfl rfl rfl zQ rfl (fun g2=>⟨fun _=>zE,?_⟩);refine tO 11 ?_;refine bo rfl rfl rfl (.succ (.succ .zero)) (bP (n:=1) (c:=1) .zero rfl zl) rfl rfl zO zm zo fun eE c3 _=>⟨fun _=>zE,?_⟩
  ((refine tO 12 ?_;refine dV (bj rfl) ?_))
  refine bf zK ?_;refine wB ?_;refine aY (cV (.slice eE (out++[((Value.slice dW rt.length c2,rt):eo)]).length c3) (out++[((Value.slice dW rt.length c2,rt):eo)])::cI (out++[((Value.slice dW rt.length c2,rt):eo)])::R) rfl (cn zE gh) ⟨eE,c3,out++[((Value.slice dW rt.length c2,rt):eo)],by rw [aa,aj];rfl,by rw [ah,ho,vy wv];rfl,rfl⟩
 ·refine wB ?_;refine bz (id:=8) [13] Tryz.mixed ?_
  (refine tM 0 ?_;refine tM 1 ?_;refine tk 2 _ rfl (cE.jA rfl rfl zo) ?_;refine tM 3 ?_;refine tM 4 ?_;refine tk 5 _ rfl (cE.ln rfl rfl zo zo) ?_;refine tM 7 ?_;refine tM 8 ?_;refine tk 9 _ rfl (cE.iV rfl rfl zo zo) ?_)
  rw [show ((m:Nat):Int) - ((k:Nat):Int)=((m - k:Nat):Int) by omega];refine tO 6 ?_;refine bg rfl rfl (ih (ts.length - k) zo R e _ (ts.drop k) (m - k) false El z9 (jM ht fun x hx=>aV hx) (fun a ha=>hb a (aV ha)) zo zo zo) ?_;rintro _ _ ⟨ei,c1,out,rfl,ho,rfl⟩
  have Et:out.length≤1000000:=by
   have h7:=congrArg List.length ho;rw [ab,lI (ts.length - k) (m - k) ((ts.drop k).map (·.2)) false (by rw [ab];exact El) zo zo] at h7
   have:=oe 20 ((ts.drop k).map (·.2)).length (m - k) false (by rw [ab];omega)
   omega
  refine ⟨fun _=>zE,?_⟩;refine tO 10 ?_;refine bg rfl rfl (j4 k _ e _ (ts.take k) QH Ek.tail.tail (dR.tail (dR.tail (jM ht fun x hx=>aR hx))) (fun a ha=>hb a (aR ha)) zo) ?_;rintro _ _ ⟨dW,c2,rfl,rfl⟩;refine ⟨fun _=>zE,?_⟩
  generalize rI:eg ((ts.take k).map (·.2))=rt at *
  refine tO 11 ?_;refine bF (n:=1) rfl rfl rfl rfl zQ rfl (fun g2=>⟨fun _=>zE,?_⟩);refine tO 12 ?_;refine bo rfl rfl rfl (.succ (.succ .zero)) (bP (n:=1) (c:=1) .zero rfl zl) rfl rfl zO zm zo fun eE c3 _=>⟨fun _=>zE,?_⟩
  ((refine tO 13 ?_;refine dV (bj rfl) ?_))
  refine bf zK ?_;refine wB ?_;refine aY (cV (.slice eE (out++[((Value.slice dW rt.length c2,rt):eo)]).length c3) (out++[((Value.slice dW rt.length c2,rt):eo)])::cI (out++[((Value.slice dW rt.length c2,rt):eo)])::R) rfl (cn zE gh) ⟨eE,c3,out++[((Value.slice dW rt.length c2,rt):eo)],by rw [aa,aj];rfl,by rw [ah,ho,JZ wv];rfl,rfl⟩
def ja (l:List (List UInt8)) (m:Nat):List (List UInt8):=if 0<m∧m<l.length then pU m l true else []
theorem Kp (R:List cK) (e:World) (v:Value) (ts:List eo) (n:Int) (hn:-9223372036854775808≤n∧n≤9223372036854775807) (hv:cF R 1 v ts.length (ts.map (·.1))) (ht:dR R ts) (hb:∀ a∈ts,a.2.length≤1000000) (hl:ts.length≤1000000) :
 Ct Tryz.prog 135 #[v,.int .i64 n] e R (fun v' L' =>
  (¬ (0≤n∧n≤ts.length)∧v'=.tuple #[.agg #[.int .i64 0,.int .i64 0,nY],.int .i64 1]∧R=L') ∨
  (0≤n∧n≤ts.length∧∃ ad c out,v'=.tuple #[.agg #[.int .i64 n,.int .i64 (ts.length:Int),.slice ad out.length c],.int .i64 0]∧out.map (·.2)=ja (ts.map (·.2)) n.toNat∧L'=cV (.slice ad out.length c) out::cI out::R)):=by
 refine a7 (hv.shape zo) ?_;rintro ⟨⟨ad,cap,rfl,h3,h4,h5,h6⟩,_⟩;refine bI (args:=[_,_]) Tryz.func135 rfl Tryz.ntmps135 Tryz.results135 rfl ?_
 by_cases j1:0≤n∧n≤ts.length
 rotate_left
 ·by_cases h0:n<0
  ·(repeat (refine wA ?_;intros))
   apply br;exact zV;exact ⟨R,zE,.inl ⟨j1,rfl,rfl⟩⟩
  ·(repeat (refine wA ?_;intros))
   apply br;exact zV;exact ⟨R,zE,.inl ⟨j1,rfl,rfl⟩⟩
 obtain ⟨h0,cP⟩:=j1;obtain ⟨m,rfl⟩:=Int.eq_ofNat_of_zero_le h0;rw [Int.toNat_natCast]
 by_cases gB:0<m∧m<ts.length
 ·obtain ⟨hm0,T9⟩:=gB
  (repeat (refine wA ?_;intros))
  refine aZ rfl rfl (MM ts.length _ e _ ts m true rfl hv.tail.tail ht.tail.tail hb hl hm0 zo) ?_;rintro _ _ ⟨ei,c1,out,rfl,ho,rfl⟩;refine wB ?_;apply br;exact zV;exact ⟨cV (.slice ei out.length c1) out::cI out::R,zE,.inr ⟨h0,cP,ei,c1,out,rfl,by rw [ho,ja,aI ⟨hm0,by rw [ab];exact T9⟩],rfl⟩⟩
 ·have hg:ja (ts.map (·.2)) m=[]:=by rw [ja,ab,aB gB]
  by_cases hm0:0<m
  ·(repeat (refine wA ?_;intros))
   apply br;exact zV;exact ⟨cV nY []::cI []::R,cn (show cB _ R from zE) (cn dM (du _ _)),.inr ⟨h0,cP,none,0,[],rfl,by rw [hg];rfl,rfl⟩⟩
  ·(repeat (refine wA ?_;intros))
   apply br;exact zV;exact ⟨cV nY []::cI []::R,cn (show cB _ R from zE) (cn dM (du _ _)),.inr ⟨h0,cP,none,0,[],rfl,by rw [hg];rfl,rfl⟩⟩
end Go.Proofs
namespace Go.Proofs
attribute [local irreducible] Bs.cE Bs.Do Bs.O Bs.W Bs.Fin Bs.A Bs.Ct Bs.cF Bs.Rd Bs.Sat Bs.cL Bs.Ob Bs.dJ Bs.View Bs.cB Bs.Ex Bs.dH Bs.Pu Bs.eZ Bs.dO Bs.dZ
open Go.Bs
open Tryz
variable (R:List cK) (e:World)
structure ph where
 gj:Nat
 gb:Nat
 gk:Nat
 gm:Nat
 vs:Value
 vp:Value
 q:yK
 ur:Value
 up:Value
 uq:Value
structure ph.ok (a:ph) (M:cK) (seed:dw) (s:fW):Prop where
 wO:db [M] a.vs seed
 cG:a.q.ts.map (·.2)=s.cG
 yO:dR [M] a.q.ts
 leaves:a.q.us.map (·.2)=s.cG.map cZ
 An:dR [M] a.q.us
 last:fj [M] a.ur a.up a.uq s.dE
 st:s.ok
 sd:seed.length=32
abbrev ph.cells (a:ph) (s:fW):List Value:=uo (pt a.gj) (pt a.gb) a.vs a.vp a.gm [.int .i64 (s.dE.dd.size:Int),a.ur,.int .i64 (s.dE.sig.idx:Int),a.up,a.uq,.bool s.last.isSome] a.q
abbrev ig (g d k:Nat) (s:fW) (a:ph) (M:cK) (R:List cK):List cK :=
 cL g (a.cells s) yJ (0,0)::cV (.slice a.q.ai a.q.ts.length a.q.ci) a.q.ts::cV (.slice a.q.al a.q.us.length a.q.cl) a.q.us::iD nC a.gm (ie (a.q.ts.map (·.2)) 0)::M::jh a.gj d s.recs.length::df d (dz s.jb)::mi a.gb a.gk s.keys::jh a.gk k s.keys::df k (er s.keys 1048576)::R
def yP (g d k:Nat) (seed:dw) (s:fW) (a:ph) (M:cK):cK:=dH (Pu (a.ok M seed s)::ig g d k s a M [])
def cW (g d k:Nat) (seed:dw) (s:fW):cK:=Ex fun a=>Ex fun M=>yP g d k seed s a M
theorem nr {g d k:Nat} {seed:dw} {s:fW} {R:List cK} {P:Program} {f:FuncId} {args:Array Value} {e:World} {Post:Value→List cK→Prop}
 (h:∀ (a:ph) (M:cK),a.ok M seed s→Ct P f args e (ig g d k s a M R) Post):Ct P f args e (cW g d k seed s::R) Post :=
 Ct.ex .zero fun a=>Ct.ex .zero fun M=>Ct.cM (a7 (p:=a.ok M seed s) (fun w x=>(jR x).1) fun hp=>(h a M hp).cM (cB.drop aX)) (cU (M:=Pu (a.ok M seed s)::ig g d k s a M []) (L:=R))
theorem jW {g d k:Nat} {seed:dw} {s:fW} {a:ph} {M:cK} {R:List cK} (h:a.ok M seed s):cB (ig g d k s a M R) (cW g d k seed s::R) :=
 cn (mI h) (cn (dS (M:=Pu (a.ok M seed s)::ig g d k s a M []) (L:=R)) (cn (fx (f:=fun M=>yP g d k seed s a M) M) (fx (f:=fun a=>Ex fun M=>yP g d k seed s a M) a)))
theorem cH {A:cK} {L R:List cK} (p:cR L A R):cB L [A]:=cn p.out (bh bG)
theorem ph.ok.len {a:ph} {M:cK} {seed:dw} {s:fW} (h:a.ok M seed s):a.q.ts.length=s.cG.length∧a.q.us.length=s.cG.length:=by
 have h1:=congrArg List.length h.cG;have h2:=congrArg List.length h.leaves;rw [ab] at h1
 rw [ab,ab] at h2
 exact ⟨h1,h2⟩
theorem sz (g d k:Nat) (seed:dw) (s:fW) :
 Ct prog 17 #[pt g] e (cW g d k seed s::R) (fun v' L'=>v'=.int .i64 (s.cG.length:Int)∧L'=cW g d k seed s::R):=by
 refine nr fun a M ha=>?_
 obtain ⟨l1,l2⟩:=ha.len;refine a8 (args:=[_]) func17 rfl ntmps17 results17 rfl ?_;refine wB ?_;refine aY _ rfl (jW ha) ⟨by rw [l1];rfl,rfl⟩
theorem sA {s:fW} {us:List eo} (h:us.map (·.2)=s.cG.map cZ):∀ a∈us,a.2.length=32:=fun a ha=>by
 have:a.2∈s.cG.map cZ:=by rw [← h];exact aE.2 ⟨a,ha,rfl⟩
 obtain ⟨b,_,hb⟩:=aE.1 this;rw [← hb];exact dg _ _
theorem EV (g d k:Nat) (seed:dw) (s:fW) (a:ph) (M:cK) (ha:a.ok M seed s) :
 Ct prog 18 #[pt g] e (ig g d k s a M R) (fun v' L'=>∃ ad c,v'=.slice ad (eg (s.cG.map cZ)).length c∧L'=cT (.slice ad (eg (s.cG.map cZ)).length c) (eg (s.cG.map cZ))::ig g d k s a M R):=by
 obtain ⟨l1,l2⟩:=ha.len;have lq:=ha.st.size;refine a8 (args:=[_]) func18 rfl ntmps18 results18 rfl ?_;refine wB ?_;refine aZ rfl rfl (j4 _ _ e _ a.q.us rfl (bb zP) (fun x hx=>(ha.An x hx).cM (cH zP)) (fun x hx=>by have:=sA ha.leaves x hx;omega) zo) ?_;rintro _ _ ⟨ad,c,rfl,rfl⟩;rw [ha.leaves]
 generalize eg (s.cG.map cZ)=x
 refine wB ?_;exact aY (cT (.slice ad x.length c) x::ig g d k s a M R) rfl aX ⟨ad,c,rfl,rfl⟩
theorem sB (g d k:Nat) (seed:dw) (s:fW) (v:Value) (b:dw) (hv:db R v b) :
 Ct prog 237 #[pt g,v] e (cW g d k seed s::R) (fun v' L'=>v'=.tuple #[.int .i64 (if b∈s.cG then (lT s.cG b:Int) else 0),.bool (decide (b∈s.cG))]∧L'=cW g d k seed s::R):=by
 refine nr fun a M ha=>?_
 refine a8 (args:=[_,_]) func237 rfl ntmps237 results237 rfl ?_;refine wB ?_;refine bk (id:=1) [11] (ig g d k s a M R) mixed ?_;have hb0:db (ig g d k s a M R) v b:=hv.cM zE
 (refine tM 0 ?_;refine tN 1 ?_;refine tF 2 ?_;refine tL 3 ?_;refine tM 4 ?_;refine tk 5 _ rfl (b9 rfl zB) ?_)
 refine tk 6 _ rfl (cE.kF (key:=nC) (k:=b) rfl rfl zP) ?_
 (refine tM 7 ?_;refine tk 8 _ rfl (bl rfl rfl) ?_;refine tk 9 _ rfl (bl rfl rfl) ?_;refine tA 10 ?_;(refine tO 11 ?_;refine dV (bj rfl) ?_))
 refine bf zK ?_;rw [kb,ha.cG]
 by_cases h:b∈s.cG
 ·rw [aI h,aI h,ay h];simp only [Option.getD_some,Option.isSome_some,aC];refine wB ?_;exact aY _ rfl (jW ha) ⟨rfl,rfl⟩
 ·rw [aB h,aB h,aq h];simp only [Option.getD_none,Option.isSome_none];refine wB ?_;exact aY _ rfl (jW ha) ⟨rfl,rfl⟩
theorem qy (g d k:Nat) (seed:dw) (s:fW) (i:Int) (hi:-9223372036854775808≤i∧i≤9223372036854775807) :
 Ct prog 56 #[pt g,.int .i64 i] e (cW g d k seed s::R) (fun v' L'=>(¬ (0≤i∧i<s.cG.length)∧v'=.tuple #[nY,.bool false]∧L'=cW g d k seed s::R)∨(0≤i∧i<s.cG.length∧∃ ad c,v'=.tuple #[.slice ad (s.cG.getD i.toNat []).length c,.bool true]∧L'=cT (.slice ad (s.cG.getD i.toNat []).length c) (s.cG.getD i.toNat [])::cW g d k seed s::R)):=by
 refine nr fun a M ha=>?_
 obtain ⟨l1,l2⟩:=ha.len;have lq:=ha.st.size
 by_cases h0:0≤i
 rotate_left
 ·refine a8 (args:=[_,_]) func56 rfl ntmps56 results56 rfl ?_;refine wB ?_;exact aY _ rfl (jW ha) (.inl ⟨fun q=>h0 q.1,rfl,rfl⟩)
 by_cases cP:i<s.cG.length
 rotate_left
 ·refine a8 (args:=[_,_]) func56 rfl ntmps56 results56 rfl ?_;refine wB ?_;exact aY _ rfl (jW ha) (.inl ⟨fun q=>cP q.2,rfl,rfl⟩)
 obtain ⟨n,rfl⟩:=Int.eq_ofNat_of_zero_le h0;rw [Int.toNat_natCast];obtain ⟨gj,gb,gk,gm,vs,vp,⟨ts,us,ai,ci,al,cl⟩,ur,up,uq⟩:=a;dsimp only at l1 l2
 have hn:n<ts.length:=by omega
 have aaC:∀ L R',cR L (cV (.slice ai ts.length ci) ts) R'→cF L 1 (.slice ai ts.length ci) ts.length (ts.map (·.1)):=fun L R' p=>bb p
 refine a7 ((aaC _ _ (.succ .zero)).shape zo) ?_;rintro ⟨⟨lO,c',hv,h3,h4,h5,h6⟩,_⟩
 cases hv
 rcases h6 with h6|⟨gl,ol,rfl⟩
 ·omega
 have iX:∀ L R',cR L (cV (.slice (some ⟨gl,ol,none⟩) ts.length ci) ts) R'→Rd L ⟨gl,ol+n,none⟩ (ts[n]'hn).1:=fun L R' p=>(bb p).elem (by rw [aL,ae hn];rfl)
 have ju:=ha.yO _ (ax hn);have tg:s.cG.getD n []=(ts[n]'hn).2:=by rw [← ha.cG];exact fa hn
 have Is:=ha.st.short _ (show (ts[n]'hn).2∈s.cG by rw [← ha.cG];exact aE.2 ⟨_,ax hn,rfl⟩)
 skip
 rw [tg]
 generalize ts[n]'hn=y at *
 obtain ⟨yv,b⟩:=y;dsimp only at iX ju Is ⊢
 refine a8 (args:=[_,_]) func56 rfl ntmps56 results56 rfl ?_;dsimp only [ig,ph.cells,uo];refine wB ?_;refine bW rfl (iX _ _ zP) rfl ?_;refine aZ rfl rfl (dy _ e yv b (ju.cM (cH zP)) zo) ?_;rintro _ _ ⟨ad,c,rfl,rfl⟩;refine wB ?_;exact aY (cT (.slice ad b.length c) b::cW g d k seed s::R) rfl (bh (jW ha)) (.inr ⟨h0,cP,ad,c,rfl,rfl⟩)
theorem Kq (g d k:Nat) (seed:dw) (s:fW) (i n:Nat) (hn:n≤s.cG.length) (hi:i<n) :
 Ct prog 19 #[pt g,.int .i64 (i:Int),.int .i64 (n:Int)] e (cW g d k seed s::R) (fun v' L'=>∃ ad c out,v'=.tuple #[.agg #[.int .i64 (i:Int),.int .i64 (n:Int),.slice ad out.length c],.int .i64 0]∧out.map (·.2)=iI ((s.cG.take n).map cZ) i∧L'=cV (.slice ad out.length c) out::cI out::cW g d k seed s::R):=by
 refine nr fun a M ha=>?_
 obtain ⟨l1,l2⟩:=ha.len;have lq:=ha.st.size;refine a7 ((bb (.succ (.succ .zero))).shape zo) ?_;rintro ⟨⟨lO,c',hv,h3,h4,h5,h6⟩,_⟩
 cases hv
 have jN:=sA ha.leaves;refine bI (args:=[_,_,_]) func19 rfl ntmps19 results19 rfl ?_
 (repeat (refine wA ?_;intros))
 rw [Int.toNat_natCast];have hk:n≤a.q.us.length:=by omega
 have hlen:(a.q.us.take n).length=n:=by rw [aF];omega
 refine aZ rfl rfl (Cu _ e (.slice a.q.al n a.q.cl) (a.q.us.take n) (i:Int) zo (k7 (bb zP) hk) (fun x hx=>(ha.An x (aR hx)).cM (cH zP)) (fun x hx=>by have:=jN x (aR hx);omega) zo) ?_;rintro _ _ (⟨lY,-,-⟩|⟨-,-,ad,c,out,rfl,ho,rfl⟩)
 ·exact absurd ⟨by omega,by omega⟩ lY
 rw [hlen];refine wB ?_;apply br
 ·exact zV
 refine ⟨cV (.slice ad out.length c) out::cI out::cW g d k seed s::R,cn (show cB _ (cV (.slice ad out.length c) out::cI out::ig g d k s a M R) from zE) (bh (bh (jW ha))),ad,c,out,rfl,?_,rfl⟩;rw [ho,Int.toNat_natCast,List.map_take,ha.leaves,List.map_take]
theorem yQ (g d k:Nat) (seed:dw) (s:fW) (i n:Nat) (hn:n≤s.cG.length) (hi:i≤n) :
 Ct prog 54 #[pt g,.int .i64 (i:Int),.int .i64 (n:Int)] e (cW g d k seed s::R) (fun v' L'=>∃ ad c out,v'=.tuple #[.agg #[.int .i64 (i:Int),.int .i64 (n:Int),.slice ad out.length c],.int .i64 0]∧out.map (·.2)=ja ((s.cG.take n).map cZ) i∧L'=cV (.slice ad out.length c) out::cI out::cW g d k seed s::R):=by
 refine nr fun a M ha=>?_
 obtain ⟨l1,l2⟩:=ha.len;have lq:=ha.st.size;refine a7 ((bb (.succ (.succ .zero))).shape zo) ?_;rintro ⟨⟨lO,c',hv,h3,h4,h5,h6⟩,_⟩
 cases hv
 have jN:=sA ha.leaves;refine bI (args:=[_,_,_]) func54 rfl ntmps54 results54 rfl ?_
 (repeat (refine wA ?_;intros))
 rw [Int.toNat_natCast];have hk:n≤a.q.us.length:=by omega
 have hlen:(a.q.us.take n).length=n:=by rw [aF];omega
 refine aZ rfl rfl (Kp _ e (.slice a.q.al n a.q.cl) (a.q.us.take n) (i:Int) zo (k7 (bb zP) hk) (fun x hx=>(ha.An x (aR hx)).cM (cH zP)) (fun x hx=>by have:=jN x (aR hx);omega) zo) ?_;rintro _ _ (⟨lY,-,-⟩|⟨-,-,ad,c,out,rfl,ho,rfl⟩)
 ·exact absurd ⟨by omega,by omega⟩ lY
 rw [hlen];refine wB ?_;apply br
 ·exact zV
 refine ⟨cV (.slice ad out.length c) out::cI out::cW g d k seed s::R,cn (show cB _ (cV (.slice ad out.length c) out::cI out::ig g d k s a M R) from zE) (bh (bh (jW ha))),ad,c,out,rfl,?_,rfl⟩;rw [ho,Int.toNat_natCast,List.map_take,ha.leaves,List.map_take]
theorem fW.yR {s:fW} (h:s.ok):s.dE.sig.fits:=by
 unfold fW.dE
 cases hl:s.last with
 | none=>exact ⟨(fun a ha=>by simp [k8] at ha),(fun a ha=>by simp [k8] at ha)⟩
 | some x=>exact (h.last x hl).2.1.fits
theorem Hs (g d k:Nat) (seed:dw) (s:fW) :
 Ct prog 42 #[pt g] e (cW g d k seed s::R) (fun v' L'=>∃ (N:cK) (ur up uq:Value),v'=.tuple #[.agg (dT s.dE ur up uq).toArray,.bool s.last.isSome]∧fj [N] ur up uq s.dE∧L'=N::cW g d k seed s::R):=by
 refine nr fun a M ha=>?_
 refine bI (args:=[_]) func42 rfl ntmps42 results42 rfl ?_
 (repeat (refine wA ?_;intros))
 rename_i g2;refine bk (id:=1) [10] (ig g d k s a M R) mixed ?_
 (refine tM 0 ?_;refine tN 1 ?_;refine tF 2 ?_;refine tk 3 _ rfl (cE.dh rfl zP zI zX) ?_;refine tM 5 ?_;refine tN 6 ?_;refine tF 7 ?_;refine tL 8 ?_)
 refine tO 4 ?_;refine bg rfl rfl (gS _ e a.ur a.up a.uq s.dE (ha.last.cM (cH zP)) (fW.yR ha.st)) ?_;rintro _ _ ⟨N,ur,up,uq,rfl,hN,rfl⟩;refine ⟨fun _=>zE,?_⟩;refine A.cC (cz (hN.root.cM (cH zP))) fun o3=>?_
 refine A.cC (hN.sig.cM (cH zP)).parts.one fun o4=>?_
 refine A.cC (hN.sig.cM (cH zP)).path.one fun o5=>?_
 ((refine tO 9 ?_;refine zg ?_;refine ⟨fun _=>(by (repeat first|exact zE|exact bG|refine bh ?_|(apply bw;exact zP)|refine cB.drop ?_);done),?_⟩);(refine tO 10 ?_;refine dV (bj rfl) ?_))
 refine bf zK ?_;refine wB ?_;apply br
 ·exact zV
 exact ⟨N::cW g d k seed s::R,cn (show cB _ (N::ig g d k s a M R) from zE) (bh (jW ha)),N,ur,up,uq,rfl,hN,rfl⟩
theorem IT {M N R:List cK}:cB (M++(N++R)) (N++(M++R)):=xS (List.perm_append_comm_assoc M N R)
def Kr (s:j7) (v:Value):cK:=Ex fun N=>dH [Pu (∃ ur up uq,v=.agg (dT s ur up uq).toArray∧fj [N] ur up uq s),N]
theorem Pb {s:j7} {N:cK} {ur up uq:Value} {R:List cK} (h:fj [N] ur up uq s):cB (N::R) (Kr s (.agg (dT s ur up uq).toArray)::R) :=
 cn (mI (p:=∃ VI VJ VK,Value.agg (dT s ur up uq).toArray=.agg (dT s VI VJ VK).toArray∧fj [N] VI VJ VK s) ⟨ur,up,uq,rfl,h⟩) (cn (dS (M:=[_,_])) (fx (f:=fun N=>dH [Pu (∃ VI VJ VK,Value.agg (dT s ur up uq).toArray=.agg (dT s VI VJ VK).toArray∧fj [N] VI VJ VK s),N]) N))
def CH (s:j7) (v:Value) (_:Nat→Value):List cK:=match v with|.tuple #[x,_]=>[Kr s x]|_=>[]
def EW (s:j7) (v:Value):cK:=Ex fun N=>Ex fun q:Nat × Value × Value × Value=>dH [Pu (v=pt q.1∧fj [N] q.2.1 q.2.2.1 q.2.2.2 s),cL q.1 (dT s q.2.1 q.2.2.1 q.2.2.2) 87 (0,0),N]
theorem MN {s:j7} {N:cK} {g:Nat} {ur up uq:Value} {R:List cK} (h:fj [N] ur up uq s):cB (cL g (dT s ur up uq) 87 (0,0)::N::R) (EW s (pt g)::R) :=
 cn (mI (p:=pt g=pt g∧fj [N] ur up uq s) ⟨rfl,h⟩) (cn (dS (M:=[_,_,_])) (cn (fx (f:=fun q:Nat × Value × Value × Value=>dH [Pu (pt g=pt q.1∧fj [N] q.2.1 q.2.2.1 q.2.2.2 s),cL q.1 (dT s q.2.1 q.2.2.1 q.2.2.2) 87 (0,0),N]) (g,ur,up,uq)) (fx (f:=fun N=>Ex fun q:Nat × Value × Value × Value=>dH [Pu (pt g=pt q.1∧fj [N] q.2.1 q.2.2.1 q.2.2.2 s),cL q.1 (dT s q.2.1 q.2.2.1 q.2.2.2) 87 (0,0),N]) N)))
def MO (root:dw) (v:Value) (_:Nat→Value):List cK:=match v with|.agg #[_,vr]=>[cT vr root]|_=>[]
def fW.dd (s:fW):jg:=⟨s.cG.length,eg (s.cG.map cZ)⟩
theorem MP:∀ {l:List dw},(∀ a∈l,a.length=32)→(eg l).length=32
 | [],_=>by rw [k6];exact jT _
 | [a],h=>by rw [nU];exact h a (an.2 rfl)
 | a::b::l,_=>by rw [jU (by simp)];exact dg _ _
theorem fW.BC {s:fW} (h:s.ok):s.dd.right:=by
 refine ⟨h.size,MP fun a ha=>?_⟩;obtain ⟨b,_,rfl⟩:=aE.1 ha;exact dg _ _
def fW.same (s:fW):Prop:=s.last.isSome=true∧s.dE.dd.size=s.cG.length
instance Xu (s:fW):Decidable s.same:=by unfold fW.same;infer_instance
def fW.je (seed:dw) (s:fW):fW:=if s.same then s else if s.keys<16 then { s with keys:=s.keys+1,last:=some (yx seed s.keys s.dd) } else s
theorem Ks (g d k:Nat) (seed:dw) (s:fW) :
 Ct prog 171 #[pt g] e (cW g d k seed s::R) (fun v' L'=>(s.same∨s.keys<16→∃ (N:cK) (ur up uq:Value),v'=.tuple #[.agg (dT (s.je seed).dE ur up uq).toArray,.int .i64 0]∧fj [N] ur up uq (s.je seed).dE∧L'=N::cW g d k seed (s.je seed)::R)∧(¬ (s.same∨s.keys<16)→v'=.tuple #[.agg (dT k8 nY nY nY).toArray,.int .i64 23]∧L'=cW g d k seed s::R)):=by
 refine nr fun a M ha=>?_
 obtain ⟨l1,l2⟩:=ha.len;refine bI (args:=[_]) func171 rfl ntmps171 results171 rfl ?_
 (repeat' first|refine W.u2 (id:=3) (fun g2:Nat=>[(0,pt g),(2,pt g2),(3,.int .i64 0)]) (fun g2=>cL g2 (dT k8 nY nY nY) 87 (0,0)::ig g d k s a M R) (fun _=>¬ s.same) ?_ ?_|refine Zb ?_|apply Zc|apply Zd|apply Ze|apply Zf|refine Yh fun _=>?_|fail)
 rotate_left
 ·refine ⟨?_⟩;rename_i g2
  (repeat (refine wA ?_;intros))
  refine bk (id:=1) [] (ig g d k s a M R) mixed ?_
  by_cases fR:s.last.isSome=true
  rotate_left
  ·have fR:s.last.isSome=false:=by simpa using fR
   (refine tM 0 ?_;refine tN 1 ?_;refine tF 2 ?_;refine tL 3 ?_;refine tM 4 ?_)
   rw [fR]
   (refine bc 5 rfl rfl zK zE rfl ?_;refine bc 6 rfl rfl zK zE rfl ?_;refine bc 7 rfl rfl zK zE rfl ?_;refine bc 8 rfl rfl zK zE rfl ?_;refine bc 9 rfl rfl zK zE rfl ?_;refine bc 10 rfl rfl zK zE rfl ?_;refine bc 11 rfl rfl zK zE rfl ?_;refine bc 12 rfl rfl zK zE rfl ?_;refine bc 13 rfl rfl zK zE rfl ?_;refine bc 14 rfl rfl zK zE rfl ?_;refine bc 15 rfl rfl zK zE rfl ?_;refine bc 16 rfl rfl zK zE rfl ?_;refine tk 17 _ rfl (bJ rfl rfl) ?_)
   refine bf zK ?_;refine wB ?_;exact bK g2 (fun q=>by have:=q.1;rw [fR] at this;cases this) zS aX
  by_cases mz:s.dE.dd.size=s.cG.length
  rotate_left
  ·(refine tM 0 ?_;refine tN 1 ?_;refine tF 2 ?_;refine tL 3 ?_;refine tM 4 ?_)
   rw [fR]
   (refine dv 5 _ rfl (bu rfl) ?_;refine dv 6 _ rfl (bm rfl) ?_;refine dv 7 _ rfl (ba rfl) ?_;refine dv 8 _ rfl (ba rfl) ?_;refine dv 9 _ rfl (ba rfl) ?_;refine dv 10 _ rfl (bp rfl zR) ?_;refine dv 11 _ rfl (bu rfl) ?_;refine dv 12 _ rfl (bm rfl) ?_;refine dv 13 _ rfl (ba rfl) ?_;refine dv 14 _ rfl (bp rfl zR) ?_;refine dv 15 _ rfl (bN rfl) ?_;refine dv 16 (.bool false) rfl (cE.no (bX rfl rfl) zn) ?_;refine tk 17 _ rfl (bL rfl rfl) ?_)
   refine bf zK ?_;refine wB ?_;exact bK g2 (fun q=>mz q.2) zS aX
  have Ge:s.same:=⟨fR,mz⟩
  have Cs:s.je seed=s:=by unfold fW.je;rw [aI Ge]
  (refine tM 0 ?_;refine tN 1 ?_;refine tF 2 ?_;refine tL 3 ?_;refine tM 4 ?_)
  rw [fR]
  (refine dv 5 _ rfl (bu rfl) ?_;refine dv 6 _ rfl (bm rfl) ?_;refine dv 7 _ rfl (ba rfl) ?_;refine dv 8 _ rfl (ba rfl) ?_;refine dv 9 _ rfl (ba rfl) ?_;refine dv 10 _ rfl (bp rfl zR) ?_;refine dv 11 _ rfl (bu rfl) ?_;refine dv 12 _ rfl (bm rfl) ?_;refine dv 13 _ rfl (ba rfl) ?_;refine dv 14 _ rfl (bp rfl zR) ?_;refine dv 15 _ rfl (bN rfl) ?_;refine dv 16 (.bool true) rfl (cE.iW (bX rfl rfl) zy) ?_;refine tk 17 _ rfl (bL rfl rfl) ?_)
  refine bf zK ?_
  (repeat' first|refine Za ?_|apply Zc|apply Zd|apply Zf|refine Zg ?_|refine Zh ?_|refine Yz ?_|(apply O.dh;exact rfl;exact zP;(first|(simp only [aC,Nat.add_zero,Nat.reduceAdd,List.drop_succ_cons,List.drop_zero,List.take_succ_cons,List.take_zero];done)|(simp only [aC,Nat.add_zero,Nat.reduceAdd,List.drop_succ_cons,List.drop_zero,List.take_succ_cons,List.take_zero];exact rfl));exact rfl;exact rfl))
  refine aZ rfl rfl (gS _ e a.ur a.up a.uq s.dE (ha.last.cM (cH zP)) (fW.yR ha.st)) ?_;rintro _ _ ⟨N,ur,up,uq,rfl,hN,rfl⟩;refine bn (cz (hN.root.cM (cH zP))) fun o3=>?_
  refine bn (hN.sig.cM (cH zP)).parts.one fun o4=>?_
  refine bn (hN.sig.cM (cH zP)).path.one fun o5=>?_
  refine wB ?_;apply br
  ·exact zV
  exact ⟨N::cW g d k seed s::R,cn (show cB _ (N::ig g d k s a M R) from zE) (bh (jW ha)),fun _=>⟨N,ur,up,uq,by rw [Cs];rfl,by rw [Cs];exact hN,by rw [Cs]⟩,fun h=>absurd (.inl Ge) h⟩
 intro g2 Ge
 by_cases hk:s.keys<16
 rotate_left
 ·have Mt:s.keys=16:=by have:=ha.st.keys;omega
  have ht:=wK (cL g2 (dT k8 nY nY nY) 87 (0,0)::cL g (a.cells s) yJ (0,0)::cV (.slice a.q.ai a.q.ts.length a.q.ci) a.q.ts::cV (.slice a.q.al a.q.us.length a.q.cl) a.q.us::iD nC a.gm (ie (a.q.ts.map (·.2)) 0)::M::jh a.gj d s.recs.length::df d (dz s.jb)::R) e a.gb a.gk k 1048576 zo zo;rw [← Mt] at ht
  refine wB ?_;refine aZ rfl rfl (ht.cM zE) ?_;rintro _ _ ⟨rfl,rfl⟩;refine wB ?_;apply br
  ·exact zV
  exact ⟨cW g d k seed s::R,cn (show cB _ (ig g d k s a M R) from zE) (jW ha),fun h=>absurd h (fun q=>q.elim Ge hk),fun _=>⟨rfl,rfl⟩⟩
 have Cs:s.je seed={ s with keys:=s.keys+1,last:=some (yx seed s.keys s.dd) }:=by unfold fW.je;rw [aB Ge,aI hk]
 have Gf:=fW.BC ha.st;have ht:=wJ (cL g2 (dT k8 nY nY nY) 87 (0,0)::cL g (a.cells s) yJ (0,0)::cV (.slice a.q.ai a.q.ts.length a.q.ci) a.q.ts::cV (.slice a.q.al a.q.us.length a.q.cl) a.q.us::iD nC a.gm (ie (a.q.ts.map (·.2)) 0)::M::jh a.gj d s.recs.length::df d (dz s.jb)::R) e a.gb a.gk k s.keys 1048576 hk zo zo;obtain ⟨s1,fR⟩:∃ s1:fW,s1={ s with keys:=s.keys+1 }:=⟨_,rfl⟩
 have Ht:a.ok M seed s1:=by
  rw [fR];exact ⟨ha.wO,ha.cG,ha.yO,ha.leaves,ha.An,ha.last,⟨ha.st.full,ha.st.nodup,ha.st.size,ha.st.short,hk,ha.st.last⟩,ha.sd⟩
 refine wB ?_;refine aZ rfl rfl (ht.cM zE) ?_;rintro _ _ ⟨rfl,rfl⟩;refine O.fp (show cB _ (ig g d k s1 a M (cL g2 (dT k8 nY nY nY) 87 (0,0)::R)) from ?_) ?_
 ·rw [fR];exact zE
 have sf:s1.cG=s.cG:=by rw [fR];rfl
 have Gd:s1.dd=s.dd:=by rw [fR];rfl
 refine wB ?_;refine W.gC [(0,pt g),(2,pt g2),(3,.int .i64 0),(4,.int .i64 (s.keys:Int)),(5,.int .i64 0)] zS ?_;refine bk (id:=6) [19] (ig g d k s1 a M R) mixed ?_
 (refine tM 0 ?_;refine tN 1 ?_;refine tF 2 ?_;refine tL 3 ?_;refine tM 4 ?_;refine tM 5 ?_;refine tN 6 ?_;refine tF 7 ?_;refine tL 8 ?_;refine tk 9 _ rfl (bN rfl) ?_;refine tM 10 ?_)
 rw [l1];have BD:eg (s.cG.map cZ)=s.dd.root:=rfl;have VL:s.cG.length=s.dd.size:=rfl;have JV:=ha.sd;have aaD:=Gf.2
 generalize Sh:yx seed s.keys s.dd=sg at *
 generalize Si:s.dd=ck at *
 refine A.OJ (n:=1) [
  ⟨11,54,[],[],fun v _=>∃ ad c,v=.slice ad ck.root.length c,[(0,fun v _=>[cT v ck.root])]⟩,
  ⟨12,55,[11],[0],fun v _=>∃ ad c,v=.agg (iT ck (.slice ad ck.root.length c)).toArray,[(1,MO ck.root)]⟩,
  ⟨13,56,[12],[1],fun v _=>∃ x,v=.tuple #[x,.int .i64 0],[(2,CH sg)]⟩,
  ⟨14,42,[13],[2],fun v _=>∃ x,v=.tuple #[x,.int .i64 0],[(3,CH sg)]⟩,
  ⟨15,57,[14],[3],fun _ _=>True,[(4,fun v _=>[Kr sg v])]⟩,
  tC 16 58 [14] (.int .i64 0),
  L8 17 6 5 87 (dT k8 nY nY nY),
  ⟨18,100018,[15,17],[4,5],fun _ _=>True,[(6,fun _ W=>[EW sg (W 17)])]⟩] 8 rfl zK zK ?_ zE ?_
 ·refine dm ?_ (dm ?_ (dm ?_ (dm ?_ (dm ?_ (dm ?_ (dm ?_ (dm ?_ qg)))))))
  ·refine ⟨_,rfl,.inl rfl,fun V σr M1 h3 hy=>?_⟩;have hr:=(EV (M1++(cL g2 (dT k8 nY nY nY) 87 (0,0)::R)) e g d k seed s1 a M Ht).cM (IT (M:=M1) (N:=ig g d k s1 a M []) (R:=cL g2 (dT k8 nY nY nY) 87 (0,0)::R));rw [sf,BD] at hr
   refine bT (show cB _ (M1++(ig g d k s1 a M (cL g2 (dT k8 nY nY nY) 87 (0,0)::R))) from aX) ?_;refine bg (OK (h3 53 _ rfl)) rfl hr ?_;rintro _ _ ⟨ad,c,rfl,rfl⟩;exact ⟨_,rfl,⟨ad,c,rfl⟩,bh (IT (M:=ig g d k s1 a M []) (N:=M1) (R:=cL g2 (dT k8 nY nY nY) 87 (0,0)::R))⟩
  ·refine ⟨_,rfl,.inl rfl,fun V σr M1 h3 hy=>?_⟩;obtain ⟨Mz,ad,c,hv⟩:=hy _ (az (i:=0) rfl) (az (i:=0) rfl) (fy rfl);have s52:=h3 52 _ rfl;dsimp only at Mz hv
   refine bT (show cB _ (([cT (V 11) ck.root]++[])++(M1++(ig g d k s1 a M (cL g2 (dT k8 nY nY nY) 87 (0,0)::R)))) from aX) ?_;rw [hv] at Mz ⊢
   rw [VL] at s52
   exact bO (v:=.agg (iT ck (.slice ad ck.root.length c)).toArray) (bM (parts:=[(0,.tmp 52),(1,.tmp 54)]) (vs:=[(0,.int .i64 (ck.size:Int)),(1,.slice ad ck.root.length c)]) (by simp [uU,ev,Mz,s52]) (by simp [Instr.fill,Value.cells])) rfl ⟨_,rfl,⟨ad,c,rfl⟩,aX⟩
  ·refine ⟨_,rfl,.inl rfl,fun V σr M1 h3 hy=>?_⟩;obtain ⟨Sj,ad,c,hv⟩:=hy _ (az (i:=1) rfl) (az (i:=0) rfl) (fy rfl);have s46:=h3 46 _ rfl;have s47:=h3 47 _ rfl;dsimp only at Sj hv
   refine bT (show cB _ ((MO ck.root (V 12) V++[])++(M1++(ig g d k s1 a M (cL g2 (dT k8 nY nY nY) 87 (0,0)::R)))) from aX) ?_;rw [hv] at Sj ⊢
   refine bT (show cB _ (cT (.slice ad ck.root.length c) ck.root::(M1++(ig g d k s1 a M (cL g2 (dT k8 nY nY nY) 87 (0,0)::R)))) from aX) ?_;have Ca:=G0 (cT (.slice ad ck.root.length c) ck.root::(M1++(ig g d k s1 a M (cL g2 (dT k8 nY nY nY) 87 (0,0)::R)))) e a.vs (.slice ad ck.root.length c) seed s.keys ck (ha.wO.cM (cB.drop (cn (kv M1) (cH zP)))) JV hk (bb .zero) Gf;rw [Sh] at Ca
   refine bg (xs:=[.tmp 46,.tmp 47,.tmp 55]) (vs:=[a.vs,.int .i64 (s.keys:Int),.agg (iT ck (.slice ad ck.root.length c)).toArray]) (by simp [p0,ev,Sj,s46,s47]) rfl Ca ?_;rintro _ _ ⟨N,ur,up,uq,rfl,hN,rfl⟩;exact ⟨_,rfl,⟨_,rfl⟩,cn (Pb hN) (bh (cB.drop aX))⟩
  ·refine ⟨_,rfl,.inl rfl,fun V σr M1 h3 hy=>?_⟩;obtain ⟨s13,x,hv⟩:=hy _ (az (i:=2) rfl) (az (i:=0) rfl) (fy rfl);dsimp only at s13 hv
   refine bT (show cB _ ((CH sg (V 13) V++[])++(M1++(ig g d k s1 a M (cL g2 (dT k8 nY nY nY) 87 (0,0)::R)))) from aX) ?_;rw [hv] at s13 ⊢
   exact bO (bu s13) rfl ⟨_,rfl,⟨x,rfl⟩,aX⟩
  ·refine ⟨_,rfl,.inl rfl,fun V σr M1 h3 hy=>?_⟩;obtain ⟨MA,x,hv⟩:=hy _ (az (i:=3) rfl) (az (i:=0) rfl) (fy rfl);dsimp only at MA hv
   refine bT (show cB _ ((CH sg (V 14) V++[])++(M1++(ig g d k s1 a M (cL g2 (dT k8 nY nY nY) 87 (0,0)::R)))) from aX) ?_;rw [hv] at MA ⊢
   exact bO (v:=x) (bl (vs:=[x,.int .i64 0]) MA rfl) rfl ⟨_,rfl,trivial,aX⟩
  ·refine qf rfl (.inl rfl) rfl rfl fun V σr L wG hy _=>?_
   obtain ⟨MA,x,hv⟩:=hy _ (az (i:=3) rfl) (az (i:=0) rfl) (fy rfl);dsimp only at MA hv
   rw [hv] at MA
   exact bl (vs:=[x,.int .i64 0]) MA rfl
  ·exact Ci rfl (.inl rfl) rfl rfl rfl
  ·refine ⟨_,rfl,.inl rfl,fun V σr M1 h3 hy=>?_⟩;obtain ⟨s15,-⟩:=hy _ (az (i:=4) rfl) (az (i:=0) rfl) (fy rfl);obtain ⟨Sa,g6,hv⟩:=hy _ (az (i:=6) rfl) (az (i:=1) rfl) (fy rfl);dsimp only at s15 Sa hv
   refine bT (show cB _ (([Kr sg (V 15)]++(Ch (dT k8 nY nY nY) 87 (V 17) V++[]))++(M1++(ig g d k s1 a M (cL g2 (dT k8 nY nY nY) 87 (0,0)::R)))) from aX) ?_;have hw:fL [15,17] V 17=pt g6:=hv;rw [hv] at Sa ⊢
   refine bT (show cB _ (Kr sg (V 15)::cL g6 (dT k8 nY nY nY) 87 (0,0)::(M1++(ig g d k s1 a M (cL g2 (dT k8 nY nY nY) 87 (0,0)::R)))) from aX) ?_;unfold Kr;refine Do.T0 fun N=>?_
   refine bT cU ?_;refine Do.Vh fun hN=>?_
   obtain ⟨ur,up,uq,h15,hN⟩:=hN;rw [h15] at s15
   refine Do.OL (cz (hN.root.cM (cH .zero))) fun o3=>?_
   refine Do.OL (hN.sig.cM (cH .zero)).parts.one fun o4=>?_
   refine Do.OL (hN.sig.cM (cH .zero)).path.one fun o5=>?_
   refine Do.ep (cs':=dT sg ur up uq) Sa s15 rfl zO zU zW ⟨.pointer none,rfl,trivial,?_⟩
   show cB _ (EW sg (fL [15,17] V 17)::(M1++(ig g d k s1 a M (cL g2 (dT k8 nY nY nY) 87 (0,0)::R))))
   rw [hw];exact cn (show cB _ (cL g6 (dT sg ur up uq) 87 (0,0)::N::(M1++(ig g d k s1 a M (cL g2 (dT k8 nY nY nY) 87 (0,0)::R)))) from bw (.succ .zero) (bh aX)) (MN hN)
 intro V hV;obtain ⟨g6,v17⟩:=hV _ (az (i:=6) rfl);have v16:=hV _ (az (i:=5) rfl);clear hV;dsimp only at v16 v17
 refine A.fp (show cB _ (EW sg (V 17)::ig g d k s1 a M (cL g2 (dT k8 nY nY nY) 87 (0,0)::R)) from aX) ?_;simp only [kX,Nat.reduceLT,if_true,if_false,List.cons_append,List.nil_append];rw [v16,v17];unfold EW;refine A.T0 fun N=>?_
 refine A.T0 fun ⟨g7,ur,up,uq⟩=>?_
 refine A.fp cU ?_;refine A.Vh fun hN=>?_
 obtain ⟨hg7,hN⟩:=hN
 cases hg7
 dsimp only at hN ⊢
 refine A.fp (show cB _ (cL g7 (dT sg ur up uq) 87 (0,0)::N::ig g d k s1 a M (cL g2 (dT k8 nY nY nY) 87 (0,0)::R)) from aX) ?_;refine A.cC (cz (hN.root.cM (cH zP))) fun o3=>?_
 refine A.cC (hN.sig.cM (cH zP)).parts.one fun o4=>?_
 refine A.cC (hN.sig.cM (cH zP)).path.one fun o5=>?_
 ((refine tO 19 ?_;refine dV (bj rfl) ?_))
 refine bf zK ?_;have Pc:sg.sig.right:=by rw [← Sh];exact j6 hk
 have Sk:sg.dd=ck:=by rw [← Sh];rfl
 have eU:cB [dH [M,N]] [M]:=cn (cU (M:=[M,N]) (L:=[])) (bh bG);have iJ:cB [dH [M,N]] [N]:=cn (cU (M:=[M,N]) (L:=[])) (cB.drop (bh bG));obtain ⟨a2,LD⟩:∃ a2:ph,a2={ a with ur:=ur,up:=up,uq:=uq }:=⟨_,rfl⟩
 have Ua:(s.je seed).dE=sg:=by rw [Cs];rfl
 have j1:a2.ok (dH [M,N]) seed (s.je seed):=by
  rw [Cs,LD];refine ⟨ha.wO.cM eU,ha.cG,fun x hx=>(ha.yO x hx).cM eU,ha.leaves,fun x hx=>(ha.An x hx).cM eU,hN.cM iJ,⟨ha.st.full,ha.st.nodup,ha.st.size,ha.st.short,hk,fun x hx=>?_⟩,ha.sd⟩
  cases hx
  rw [Sk];exact ⟨Gf,Pc,by rw [← VL];exact aS _⟩
 dsimp only [ig,ph.cells,uo];refine wB ?_;refine aZ rfl rfl (gS _ e ur up uq sg (hN.cM (cH (.succ .zero))) Pc.fits) ?_;rintro _ _ ⟨N2,ur2,up2,QT,rfl,ns,rfl⟩;refine bn (cz (ns.root.cM (cH zP))) fun o6=>?_
 refine bn (ns.sig.cM (cH zP)).parts.one fun o7=>?_
 refine bn (ns.sig.cM (cH zP)).path.one fun o8=>?_
 refine wB ?_;apply br
 ·exact zV
 refine ⟨N2::cW g d k seed (s.je seed)::R,?_,fun _=>⟨N2,ur2,up2,QT,by rw [Ua];rfl,by rw [Ua];exact ns,rfl⟩,fun h=>absurd (.inr hk) h⟩;refine cn ?_ (bh (jW j1));rw [Cs,LD,fR];refine cn (show cB _ (M::N::N2::cL g [pt a.gj,pt a.gb,a.vs,a.vp,.slice a.q.ai a.q.ts.length a.q.ci,.slice a.q.al a.q.us.length a.q.cl,.map (some a.gm),.int .i64 (sg.dd.size:Int),ur,.int .i64 (sg.sig.idx:Int),up,uq,.bool true] yJ (0,0)::cV (.slice a.q.ai a.q.ts.length a.q.ci) a.q.ts::cV (.slice a.q.al a.q.us.length a.q.cl) a.q.us::iD nC a.gm (ie (a.q.ts.map (·.2)) 0)::jh a.gj d s.recs.length::df d (dz s.jb)::mi a.gb a.gk (s.keys+1)::jh a.gk k (s.keys+1)::df k (er (s.keys+1) 1048576)::R) from zE) (cn (dS (M:=[M,N])) zE)
def fW.fresh (s:fW) (l:List dw):List dw:=fg s.cG [] l
def fW.add (s:fW) (l:List dw):fW:=if s.fresh l=[] then s else { s with recs:=s.recs++[s.fresh l] }
theorem fW.BE (s:fW) (l:List dw):(s.add l).cG=s.cG++s.fresh l:=by
 unfold fW.add
 split
 ·rename_i h;rw [h,aK]
 ·simp [fW.cG]
theorem yS {l:List dw} (h:∀ b∈l,b.length≤200):(mW l).length≤4+l.length*202:=by
 have:=yI h;unfold mW;rw [aa,cY]
 omega
theorem IU:∀ {recs:List (List dw)},(∀ r∈recs,r≠[])→(∀ b∈recs.flatten,b.length≤200)→(eW (recs.map mW)).length≤recs.flatten.length*214
 | [],_,_=>by simp [eW]
 | r::recs,h1,h2=>by
  have h3:=IU (recs:=recs) (fun x hx=>h1 x (aU _ hx)) (fun b hb=>h2 b (by rw [List.flatten_cons];exact List.mem_append_right _ hb));have h4:=yS (l:=r) (fun b hb=>h2 b (by rw [List.flatten_cons];exact List.mem_append_left _ hb));have h5:=List.length_pos_iff.2 (h1 r (List.mem_cons_self ..))
  show (fD (mW r)++eW (recs.map mW)).length≤_
  rw [aa,gJ,List.flatten_cons,aa,Nat.add_mul]
  omega
theorem CI:∀ l:List dw,l.length≤(eW l).length
 | []=>aS _
 | m::l=>by
  have:=CI l
  show _≤(fD m++eW l).length
  rw [aa,gJ,aN]
  omega
theorem fW.Hu {s:fW} (h:s.ok):s.jb.length≤s.cG.length*214:=IU h.full h.short
theorem Kt (g d k:Nat) (seed:dw) (s:fW) (v:Value) (ls:List eo) (hv:cF R 1 v ls.length (ls.map (·.1))) (ht:dR R ls) (hl:ls.length≤1000) (hb:∀ a∈ls,a.2.length≤200) (hc:s.cG.length+(s.fresh (ls.map (·.2))).length≤256) :
 Ct prog 15 #[pt g,v] e (cW g d k seed s::R) (fun v' L'=>∃ (ao:Option Addr) (co:Nat) (outs:List Nat),v'=.tuple #[.slice ao outs.length co,.int .i64 0]∧outs=(ls.map (·.2)).map (lT (s.add (ls.map (·.2))).cG)∧L'=uu (.slice ao outs.length co) outs::cW g d k seed (s.add (ls.map (·.2)))::R):=by
 refine nr fun a M ha=>?_
 obtain ⟨l1,l2⟩:=ha.len;have lq:=ha.st.size;refine a8 (args:=[_,_]) func15 rfl ntmps15 results15 rfl ?_;refine wB ?_;refine aZ rfl rfl (Hp _ e g _ _ _ _ _ _ _ _ _ _ _ a.q v ls (hv.cM zE) (fun x hx=>(ht x hx).cM zE) hl zo) ?_;rintro _ _ ⟨ao,af,co,cf,fs,outs,rfl,hS,rfl⟩
 have mX:fs.map (·.2)=s.fresh (ls.map (·.2)):=by
  rw [hS.fresh,ha.cG,aG (by rw [ab];exact aS _)]
  rfl
 have DF:fs.length=(s.fresh (ls.map (·.2))).length:=by rw [← mX,ab]
 have hai:=fW.BE s (ls.map (·.2))
 have MQ:outs=(ls.map (·.2)).map (lT (s.add (ls.map (·.2))).cG):=by
  rw [hai,← mX];apply List.ext_getElem
  ·rw [hS.len,ab,ab]
  ·intro j h1 h2;rw [hS.outs j h1,ha.cG,List.getElem_map,aA,ae (by rw [ab] at h2;exact h2)]
   rfl
 by_cases h0:fs=[]
 ·have qj:s.add (ls.map (·.2))=s:=by unfold fW.add;rw [← mX,h0,List.map_nil,aI rfl]
  have hz:fs.length=0:=by rw [h0];rfl
  rw [qj] at MQ ⊢
  refine wB ?_;exact aY (uu (.slice ao outs.length co) outs::cW g d k seed s::R) rfl (cn (show cB _ (uu (.slice ao outs.length co) outs::ig g d k s a M R) from zE) (bh (jW ha))) ⟨ao,co,outs,rfl,MQ,rfl⟩
 have Ae:0<fs.length:=List.length_pos_iff.2 h0;refine wB ?_;have BF:∀ x∈fs,x.2.length≤200:=fun x hx=>hb x (hS.sub x hx)
 have aeS:fs.length≤256:=by omega
 have xk:=fW.Hu ha.st
 have qj:s.add (ls.map (·.2))={ s with recs:=s.recs++[fs.map (·.2)] }:=by
  unfold fW.add;rw [← mX,aB (fun q=>h0 (List.map_eq_nil_iff.1 q))]
 have Ku:=yS (l:=fs.map (·.2)) (fun b tc=>by obtain ⟨x,hx,rfl⟩:=aE.1 tc;exact BF x hx);rw [ab] at Ku
 refine aZ rfl rfl (jk _ e) ?_;rintro _ _ ⟨gw,rfl,rfl⟩;refine wB ?_;refine aZ rfl rfl (gF _ e gw [] fs.length zo (by decide)) ?_;rintro _ _ ⟨rfl,rfl⟩;refine wB ?_;have fq:fs.take fs.length=fs:=List.take_length
 have hew:=G8 (uu (.slice ao outs.length co) outs::cV (.slice af fs.length cf) fs::ig g d k s a M R) e gw ([]++be fs.length 4) (.slice af fs.length cf) fs fs.length (bb zP) (fun x hx=>(ht x (hS.sub x hx)).cM zE) (aS _) (by
  rw [fq,wL];have:(mW (fs.map (·.2))).length=4+(rz (fs.map (·.2))).length:=by unfold mW;rw [aa,cY]
  rw [aa,cY,List.length_nil]
  omega) (fun x hx=>by rw [fq] at hx;have:=BF x hx;omega) (fun h=>absurd h (Nat.lt_irrefl _))
 rw [fq,ay rfl,show []++be fs.length 4++jp fs=mW (fs.map (·.2)) by unfold mW;rw [wL,ab,List.nil_append]] at hew
 refine aZ rfl rfl hew ?_;rintro _ _ ⟨rfl,rfl⟩
 generalize Hc:mW (fs.map (·.2))=rec at *
 refine wB ?_;refine aZ rfl rfl (hJ _ e gw rec zo) ?_;rintro _ _ ⟨uv,cr,rfl,rfl⟩;have xa:s.jb.length+rec.length+8≤1048576:=by omega
 obtain ⟨p1,p2,p3⟩:=add_plain (m:=rec) (sy:=s.jb.length) xa
 have MR:=nZ (cT (.slice uv rec.length cr) rec::uu (.slice ao outs.length co) outs::cV (.slice af fs.length cf) fs::cL g (a.cells s) yJ (0,0)::cV (.slice a.q.ai a.q.ts.length a.q.ci) a.q.ts::cV (.slice a.q.al a.q.us.length a.q.cl) a.q.us::iD nC a.gm (ie (a.q.ts.map (·.2)) 0)::M::mi a.gb a.gk s.keys::jh a.gk k s.keys::df k (er s.keys 1048576)::R) e a.gj d s.recs.length (nk s.jb s.jb.length) rec (.slice uv rec.length cr) (ui zo (aS _)) (bb .zero) zo (by
  have:s.recs.length≤s.jb.length:=by
   have:=xk;unfold fW.jb;exact Nat.le_trans (by simp) (CI (s.recs.map mW))
  omega)
 rw [p1,p2,p3] at MR
 (repeat' first|refine Za ?_|refine Zb ?_|apply Zc|apply Zd|apply Ze|apply Zf|refine Zg ?_|refine Zh ?_|refine Zi ?_|refine Zj ?_|refine Zk ?_|refine Zl ?_|refine Zm ?_|refine Zn ?_|refine Zo ?_|refine Zq ?_|refine Zs ?_|refine Zt ?_|refine Zu ?_|refine Zy ?_|refine Zz ?_|refine ZG ?_|refine ZH ?_|refine ZI (fun _=>?_) fun _=>?_|refine ZM ?_|refine ZN ?_|refine ZO (fun _=>?_) fun _=>?_|refine ZP ?_|refine ZQ ?_|refine ZU ?_|refine ZV ?_|refine ZY ?_|refine ZZ ?_|refine Z6 ?_|refine Z7 ?_|refine Z8 ?_|refine Yf ?_|refine Ym ?_|refine Yz ?_|refine YA ?_|apply YC|apply YE|apply YF|refine YN ?_|refine YP ?_|(apply O.dh;exact rfl;exact zP;(first|(simp only [aC,Nat.add_zero,Nat.reduceAdd,List.drop_succ_cons,List.drop_zero,List.take_succ_cons,List.take_zero];done)|(simp only [aC,Nat.add_zero,Nat.reduceAdd,List.drop_succ_cons,List.drop_zero,List.take_succ_cons,List.take_zero];exact rfl));exact rfl;exact rfl))
 refine O.gD (us:=[pt a.gj]) (ws:=[]) rfl rfl rfl (MR.cM zE) ?_;rintro _ _ ⟨rfl,rfl⟩;refine wB ?_
 have z6:(a.q.ts.map (·.2)++fs.map (·.2)).Nodup:=by
  rw [ha.cG,mX];exact pf (by rw [aK];exact ha.st.nodup)
 have ML:=By (cV (.slice af fs.length cf) fs::M::uu (.slice ao outs.length co) outs::jh a.gj d (s.recs.length+1)::df d (dz (s.jb++fD rec))::mi a.gb a.gk s.keys::jh a.gk k s.keys::df k (er s.keys 1048576)::R) e g (pt a.gj) (pt a.gb) a.vs a.vp a.gm (.int .i64 (s.dE.dd.size:Int)) a.ur (.int .i64 (s.dE.sig.idx:Int)) a.up a.uq (.bool s.last.isSome) a.q (.slice af fs.length cf) fs (bb .zero) (fun x hx=>(ht x (hS.sub x hx)).cM zE) z6 zo zo BF;refine aZ rfl rfl (ML.cM zE) ?_;rintro _ _ ⟨rfl,q2,xj,xz,Ek,z9,hq3,hq4,rfl⟩;have vE:(s.add (ls.map (·.2))).cG=s.cG++fs.map (·.2):=by rw [hai,mX]
 obtain ⟨a2,LD⟩:∃ a2:ph,a2={ a with q:=q2 }:=⟨_,rfl⟩
 obtain ⟨M2,CJ⟩:∃ M2:cK,M2=dH [M,cI xj,cI xz]:=⟨_,rfl⟩
 have eU:cB [M2] [M]:=by rw [CJ];exact cn (cU (M:=[M,cI xj,cI xz]) (L:=[])) (bh bG)
 have iJ:cB [M2] [cI xj]:=by rw [CJ];exact cn (cU (M:=[M,cI xj,cI xz]) (L:=[])) (cB.drop (bh bG))
 have VM:cB [M2] [cI xz]:=by rw [CJ];exact cn (cU (M:=[M,cI xj,cI xz]) (L:=[])) (cB.drop (cB.drop (bh bG)))
 have j1:a2.ok M2 seed (s.add (ls.map (·.2))):=by
  rw [LD];refine ⟨ha.wO.cM eU,?_,?_,?_,?_,?_,⟨?_,?_,?_,?_,?_,?_⟩,ha.sd⟩
  ·rw [vE]
   show q2.ts.map (·.2)=_
   rw [Ek,ah,ha.cG,hq3]
  ·intro x hx;rw [show (ph.q { a with q:=q2 }).ts=q2.ts from rfl,Ek] at hx
   rcases aJ.1 hx with hx|hx
   ·exact (ha.yO x hx).cM eU
   ·exact (eH (R:=[]) x hx).cM iJ
  ·rw [vE]
   show q2.us.map (·.2)=_
   rw [z9,ah,ha.leaves,hq4,ah]
  ·intro x hx;rw [show (ph.q { a with q:=q2 }).us=q2.us from rfl,z9] at hx
   rcases aJ.1 hx with hx|hx
   ·exact (ha.An x hx).cM eU
   ·exact (eH (R:=[]) x hx).cM VM
  ·rw [qj];exact ha.last.cM eU
  ·rw [qj];intro r hr;rcases aJ.1 hr with hr|hr
   ·exact ha.st.full r hr
   ·rw [an.1 hr];exact fun q=>h0 (List.map_eq_nil_iff.1 q)
  ·rw [vE,← ha.cG];exact z6
  ·rw [vE,aa,ab];omega
  ·rw [vE];intro b tc;rcases aJ.1 tc with tc|tc
   ·exact ha.st.short b tc
   ·obtain ⟨x,hx,rfl⟩:=aE.1 tc;exact BF x hx
  ·rw [qj];exact ha.st.keys
  ·rw [vE];intro x hx;rw [qj] at hx
   obtain ⟨y1,y2,y3⟩:=ha.st.last x hx;exact ⟨y1,y2,by rw [aa];omega⟩
 have Ms:(s.add (ls.map (·.2))).recs.length=s.recs.length+1:=by rw [qj];simp
 have VN:(s.add (ls.map (·.2))).jb=s.jb++fD rec:=by
  rw [qj];unfold fW.jb;rw [ah,List.map_cons,List.map_nil,n8,Hc]
 have QU:(s.add (ls.map (·.2))).keys=s.keys:=by rw [qj]
 have D0:(s.add (ls.map (·.2))).last=s.last:=by rw [qj]
 have Ua:(s.add (ls.map (·.2))).dE=s.dE:=by unfold fW.dE;rw [D0]
 refine wB ?_;refine aY (uu (.slice ao outs.length co) outs::cW g d k seed (s.add (ls.map (·.2)))::R) rfl (cn ?_ (bh (jW j1))) ⟨ao,co,outs,rfl,MQ,rfl⟩;unfold ig ph.cells;rw [Ms,VN,QU,D0,Ua,LD,CJ];exact cn (show cB _ (M::cI xj::cI xz::uu (.slice ao outs.length co) outs::cL g (uo (pt a.gj) (pt a.gb) a.vs a.vp a.gm [.int .i64 (s.dE.dd.size:Int),a.ur,.int .i64 (s.dE.sig.idx:Int),a.up,a.uq,.bool s.last.isSome] q2) yJ (0,0)::cV (.slice q2.ai q2.ts.length q2.ci) q2.ts::cV (.slice q2.al q2.us.length q2.cl) q2.us::iD nC a.gm (ie (q2.ts.map (·.2)) 0)::jh a.gj d (s.recs.length+1)::df d (dz (s.jb++fD rec))::mi a.gb a.gk s.keys::jh a.gk k s.keys::df k (er s.keys 1048576)::R) from zE) (cn (dS (M:=[M,cI xj,cI xz])) zE)
theorem Hv (d k:Nat) (v:Value) (seed:dw) (s:fW) (hv:db R v seed) (JV:seed.length=32) (hs:s.ok) :
 Ct prog 12 #[pt d,pt k,v] e (df d (dz s.jb)::df k (er s.keys 1048576)::R) (fun v' L'=>∃ g,v'=.tuple #[pt g,.int .i64 0]∧L'=cW g d k seed { s with last:=none }::R):=by
 have xk:=fW.Hu hs;have lq:=hs.size;have hsk:=hs.keys;refine a7 (cF.shape (hv.cM (show cB (df d (dz s.jb)::df k (er s.keys 1048576)::R) R from zE)) zo) ?_;rintro ⟨⟨ad,cap,rfl,h3,h4,h5,h6⟩,_⟩
 have Hw:∀ m∈s.recs.map mW,m.length≤65535:=fun m hm=>by
  obtain ⟨r,hr,rfl⟩:=aE.1 hm;have h1:=yS (l:=r) (fun b hb=>hs.short b (List.mem_flatten.2 ⟨r,hr,hb⟩))
  have h2:r.length≤s.cG.length:=by
   obtain ⟨A,B,h⟩:=List.append_of_mem hr;unfold fW.cG;rw [h]
   simp
   omega
  omega
 have EO:=n9 (s.recs.map mW) Hw;refine a8 (args:=[_,_,_]) func12 rfl ntmps12 results12 rfl ?_;refine wB ?_;refine aZ rfl rfl (Ct.at (.succ .zero) (wI _ e k s.keys 1048576 hsk zo zo)) ?_;rintro _ _ ⟨gb,gk,rfl,rfl⟩;refine wB ?_;refine aZ rfl rfl (Ct.at (.succ (.succ (.succ .zero))) (nj _ e d s.jb zo)) ?_;rintro _ _ (⟨h1,-⟩|⟨-,gj,uv,cr,ts,rfl,fB,rfl⟩)
 ·rw [show dB s.jb=dB (eW (s.recs.map mW)) from rfl,EO] at h1;cases h1
 rw [show dB s.jb=dB (eW (s.recs.map mW)) from rfl,EO] at fB ⊢
 rw [show s.jb.take (eW (s.recs.map mW)).length=s.jb from List.take_length];dsimp only at fB
 have oH:ts.length=s.recs.length:=by have:=congrArg List.length fB;rw [ab,ab] at this;exact this
 refine wB ?_;refine aZ rfl rfl (dy _ e _ seed (hv.cM zE) zo) ?_;rintro _ _ ⟨Aa,cs,rfl,rfl⟩
 (repeat (refine wA ?_;intros))
 refine aZ rfl rfl (me _ e _ seed (hv.cM zE) JV) ?_;rintro vp _ ⟨Mp,rfl,Gg⟩;refine bn (cF.shape (Gg.cM (cH zP)) zo) ?_;rintro ⟨⟨rP,cp,rfl,-,-,-,-⟩,_⟩
 (repeat' first|refine Za ?_|refine Zb ?_|apply Zc|apply Zd|apply Ze|apply Zf|refine Zi ?_|refine Zj ?_|refine Zk ?_|refine Zl ?_|refine Zm ?_|refine Zn ?_|refine Zo ?_|refine Zu ?_|refine Zy ?_|refine Zz ?_|refine ZA ?_|refine ZB ?_|refine ZC (fun _=>?_) fun _=>?_|refine ZP ?_|refine ZQ ?_|refine ZS ?_|refine Ye ?_|refine Yg fun _=>?_|refine Ym ?_|refine Yw ?_|refine Yx ?_|refine Yy ?_|refine Yz ?_|refine YA ?_|apply YB|apply YC|apply YD|apply YE|apply YF|apply YG|apply YH|apply YI|apply YJ|refine YK ?_|refine YN ?_|(apply O.dh;exact rfl;exact zP;(first|(simp only [aC,Nat.add_zero,Nat.reduceAdd,List.drop_succ_cons,List.drop_zero,List.take_succ_cons,List.take_zero];done)|(simp only [aC,Nat.add_zero,Nat.reduceAdd,List.drop_succ_cons,List.drop_zero,List.take_succ_cons,List.take_zero];exact rfl));exact rfl;exact rfl))
 refine bC (Do.qw nC rfl fun gm=>?_)
 (repeat (refine wA ?_;intros))
 rename_i g0;refine bq (ι:=Nat × yK) (fun i=>[(12,pt g0),(46,.slice uv ts.length cr),(47,.int .i64 (ts.length:Int)),(48,.int .i64 (i.1:Int))]) (fun i=>kG g0 (pt gj) (pt gb) (.slice Aa seed.length cs) (.slice rP (kP seed).length cp) gm [.int .i64 0,nY,.int .i64 0,nY,nY,.bool false] i.2 (cI i.2.ts::cI i.2.us::cI ts::cV (.slice uv ts.length cr) ts::cT (.slice Aa seed.length cs) seed::Mp::jh gj d ts.length::df d (dz s.jb)::mi gb gk s.keys::jh gk k s.keys::df k (er s.keys 1048576)::R)) (fun i=>i.1≤ts.length∧i.2.ts.map (·.2)=(s.recs.take i.1).flatten∧i.2.us.map (·.2)=(s.recs.take i.1).flatten.map cZ) (fun i=>ts.length - i.1) (0,⟨[],[],none,0,none,0⟩) ⟨aH _,by simp,by simp⟩ zS (cn (dM) (cn dM (cn (du eA 1) (cn (du eA 1) zE)))) ?_;rintro ⟨i,q⟩ ⟨hi,Ek,z9⟩;dsimp only at hi Ek z9 ⊢
 by_cases cP:i<ts.length
 rotate_left
 ·rw [aG zo] at Ek z9
  obtain ⟨M,hM⟩:∃ M:cK,M=dH [cI q.ts,cI q.us,cT (.slice Aa seed.length cs) seed,Mp]:=⟨_,rfl⟩
  have f1:cB [M] [cI q.ts]:=by rw [hM];exact cn (cU (M:=[_,_,_,_]) (L:=[])) (bh bG)
  have f2:cB [M] [cI q.us]:=by rw [hM];exact cn (cU (M:=[_,_,_,_]) (L:=[])) (cB.drop (bh bG))
  have f3:cB [M] [cT (.slice Aa seed.length cs) seed]:=by rw [hM];exact cn (cU (M:=[_,_,_,_]) (L:=[])) (cB.drop (cB.drop (bh bG)))
  have j1:ph.ok ⟨gj,gb,gk,gm,.slice Aa seed.length cs,.slice rP (kP seed).length cp,q,nY,nY,nY⟩ M seed { s with last:=none } :=
   ⟨cF.cM (bb .zero) f3,Ek,fun x hx=>(eH (R:=[]) x hx).cM f1,z9,fun x hx=>(eH (R:=[]) x hx).cM f2,⟨cF.nil _ _,⟨⟨[],rfl,cF.nil _ _,fun x hx=>by cases hx⟩,⟨[],rfl,cF.nil _ _,fun x hx=>by cases hx⟩,⟨by show (0:Nat)<_;decide,by show (0:Nat)≤_;decide,by show (0:Nat)≤_;decide⟩⟩,⟨by show (0:Nat)<_;decide,by show (0:Nat)≤_;decide⟩⟩,⟨hs.full,hs.nodup,hs.size,hs.short,hs.keys,fun x hx=>by cases hx⟩,JV⟩
  refine wB ?_;refine aY (cW g0 d k seed { s with last:=none }::R) rfl (cn ?_ (jW j1)) ⟨g0,rfl,rfl⟩;rw [hM,oH];exact cn (show cB _ (cI q.ts::cI q.us::cT (.slice Aa seed.length cs) seed::Mp::kG g0 (pt gj) (pt gb) (.slice Aa seed.length cs) (.slice rP (kP seed).length cp) gm [.int .i64 0,nY,.int .i64 0,nY,nY,.bool false] q (jh gj d s.recs.length::df d (dz s.jb)::mi gb gk s.keys::jh gk k s.keys::df k (er s.keys 1048576)::R)) from zE) (cn (dS (M:=[_,_,_,_])) zE)
 have pg:i<s.recs.length:=by omega
 have ju:(ts[i]'cP).2=mW (s.recs[i]'pg):=by
  have:=congrArg (fun l=>l[i]?) fB;simp only [aL,ae cP,ae pg,Option.map_some,Option.some.injEq] at this
  exact this
 have Kv:(s.recs[i]'pg)∈s.recs:=ax pg
 have xa:s.cG=(s.recs.take i).flatten++((s.recs[i]'pg)++(s.recs.drop (i+1)).flatten):=by
  unfold fW.cG
  conv=>lhs;rw [← List.take_append_drop i s.recs,List.drop_eq_getElem_cons pg]
  rw [List.flatten_append,List.flatten_cons]
 have fq:(s.recs.take (i+1)).flatten=(s.recs.take i).flatten++(s.recs[i]'pg):=by
  rw [aD pg,List.flatten_append,List.flatten_cons,List.flatten_nil,aK]
 have oG:=hs.full _ Kv;have Is:∀ b∈(s.recs[i]'pg),b.length≤200:=fun b hb=>hs.short b (List.mem_flatten.2 ⟨_,Kv,hb⟩)
 have z6:=hs.nodup;rw [xa,← aM] at z6
 have Cf:=(List.nodup_append.1 z6).1
 have hln:(s.recs.take i).flatten.length+(s.recs[i]'pg).length≤256:=by
  rw [xa,aa,aa] at lq
  omega
 have hql:q.ts.length=(s.recs.take i).flatten.length:=by have:=congrArg List.length Ek;rwa [ab] at this
 have hqu:q.us.length=(s.recs.take i).flatten.length:=by have:=congrArg List.length z9;rwa [ab,ab] at this
 generalize s.recs[i]'pg=rc at *
 refine bD ((bb (show cR _ (cV (.slice uv ts.length cr) ts) _ from zP)).shape zo) ?_;rintro ⟨⟨lO,c',lP,wG,IV,Ao,uW⟩,_⟩
 cases lP
 simp only [maxLen] at IV
 rcases uW with uW|⟨gl,ol,rfl⟩
 ·omega
 have iX:∀ L R',cR L (cV (.slice (some ⟨gl,ol,none⟩) ts.length cr) ts) R'→Rd L ⟨gl,ol+i,none⟩ (ts[i]'cP).1:=fun L R' p=>(bb p).elem (by rw [aL,ae cP];rfl)
 have sf:∀ L R',cR L (cI ts) R'→db L (ts[i]'cP).1 (ts[i]'cP).2:=fun L R' p=>dR.ef p _ (ax cP)
 generalize ts[i]'cP=y at *
 obtain ⟨yv,b⟩:=y;dsimp only at iX sf ju
 subst ju;refine wB ?_;refine bW rfl (iX _ _ zP) rfl ?_;refine wB ?_;refine aZ rfl rfl (Hn _ e yv rc (sf _ _ zP) oG zo Is) ?_;rintro _ _ ⟨Vz,cb,bt,rfl,QV,rfl⟩;refine wB ?_;have oT:bt.length=rc.length:=by rw [← QV,ab]
 have ML:=By (cV (.slice Vz bt.length cb) bt::cI bt::cI q.ts::cI q.us::cI ts::cV (.slice (some ⟨gl,ol,none⟩) ts.length cr) ts::cT (.slice Aa seed.length cs) seed::Mp::jh gj d ts.length::df d (dz s.jb)::mi gb gk s.keys::jh gk k s.keys::df k (er s.keys 1048576)::R) e g0 (pt gj) (pt gb) (.slice Aa seed.length cs) (.slice rP (kP seed).length cp) gm (.int .i64 0) nY (.int .i64 0) nY nY (.bool false) q (.slice Vz bt.length cb) bt (bb .zero) (dR.ef (.succ .zero)) (by rw [Ek,QV];exact Cf) zo zo (fun x hx=>Is _ (by rw [← QV];exact aE.2 ⟨x,hx,rfl⟩));refine aZ rfl rfl (ML.cM zE) ?_;rintro _ _ ⟨rfl,q2,xj,xz,e1,e2,e3,e4,rfl⟩;refine wB ?_;refine bi (i+1,q2) ⟨cP,by dsimp only;rw [e1,ah,Ek,e3,QV,fq],by dsimp only;rw [e2,ah,z9,e4,QV,fq,ah]⟩ zd zS ?_;dsimp only
 have ex1:cB (cI q.ts::cI xj::cI q.us::cI xz::kG g0 (pt gj) (pt gb) (.slice Aa seed.length cs) (.slice rP (kP seed).length cp) gm [.int .i64 0,nY,.int .i64 0,nY,nY,.bool false] q2 (cI ts::cV (.slice (some ⟨gl,ol,none⟩) ts.length cr) ts::cT (.slice Aa seed.length cs) seed::Mp::jh gj d ts.length::df d (dz s.jb)::mi gb gk s.keys::jh gk k s.keys::df k (er s.keys 1048576)::R)) (cI q2.ts::cI q2.us::kG g0 (pt gj) (pt gb) (.slice Aa seed.length cs) (.slice rP (kP seed).length cp) gm [.int .i64 0,nY,.int .i64 0,nY,nY,.bool false] q2 (cI ts::cV (.slice (some ⟨gl,ol,none⟩) ts.length cr) ts::cT (.slice Aa seed.length cs) seed::Mp::jh gj d ts.length::df d (dz s.jb)::mi gb gk s.keys::jh gk k s.keys::df k (er s.keys 1048576)::R)):=by
  rw [show cI q2.ts=cI (q.ts++xj) by rw [e1],show cI q2.us=cI (q.us++xz) by rw [e2]];exact cn eL (bh eL)
 exact cn (show cB _ (cI q.ts::cI xj::cI q.us::cI xz::kG g0 (pt gj) (pt gb) (.slice Aa seed.length cs) (.slice rP (kP seed).length cp) gm [.int .i64 0,nY,.int .i64 0,nY,nY,.bool false] q2 (cI ts::cV (.slice (some ⟨gl,ol,none⟩) ts.length cr) ts::cT (.slice Aa seed.length cs) seed::Mp::jh gj d ts.length::df d (dz s.jb)::mi gb gk s.keys::jh gk k s.keys::df k (er s.keys 1048576)::R)) from zE) (cn ex1 zE)
end Go.Proofs
namespace Go.Proofs
open Go.Bs
attribute [local irreducible] Bs.cE Bs.Do Bs.O Bs.W Bs.Fin Bs.A Bs.Ct Bs.cF Bs.Rd Bs.Sat Bs.cL Bs.Ob Bs.dJ Bs.View Bs.cB Bs.Ex Bs.dH Bs.Pu Bs.eZ Bs.dO Bs.dZ
open Tryz
variable (R:List cK) (e:World)
structure jI where
 v:Value
 b:List UInt8
 jD:Int
def jI.cells (m:jI):List Value:=[m.v,.int .i64 m.jD]
def jI.t (m:jI):eo:=(m.v,m.b)
abbrev Kw:TypeId:=368
abbrev eA:TypeId:=30
theorem MS (m:jI):m.cells.length=2:=rfl
theorem EX {l:List jI} (h:∀ m∈l,m.v.oneCell'=true):∀ c∈l.flatMap jI.cells,c.oneCell'=true:=r9 fun m hm c hc=>by
 simp only [jI.cells,aQ,aO,or_false] at hc
 rcases hc with rfl|rfl
 ·exact h m hm
 ·rfl
abbrev qz (v:Value) (l:List jI):cK:=dJ Kw 2 v l.length (l.flatMap jI.cells)
abbrev cV (v:Value) (l:List eo):cK:=dJ eA 1 v l.length (l.map (·.1))
def MT (g r s w:Nat) (l:List jI) (ad:Option Addr) (c:Nat):cK:=dH [cL g [.int .i64 (r:Int),.int .i64 (s:Int),.int .i64 (w:Int),.slice ad l.length c] 370 (0,0),qz (.slice ad l.length c) l,cI (l.map jI.t)]
def xD (g r s w:Nat) (l:List jI):cK:=Ex fun ad=>Ex fun c=>MT g r s w l ad c
section
variable {g r s w:Nat} {l:List jI} {R:List cK} {P:Program} {e:World}
theorem q0 {f:FuncId} {args:Array Value} {Post:Value→List cK→Prop}
 (h:∀ ad c,Ct P f args e (cL g [.int .i64 (r:Int),.int .i64 (s:Int),.int .i64 (w:Int),.slice ad l.length c] 370 (0,0)::qz (.slice ad l.length c) l::cI (l.map jI.t)::R) Post):Ct P f args e (xD g r s w l::R) Post :=
 Ct.ex .zero fun ad=>Ct.ex .zero fun c=>(h ad c).cM cU
theorem kH {c:Nat} {ad:Option Addr}:cB (cL g [.int .i64 (r:Int),.int .i64 (s:Int),.int .i64 (w:Int),.slice ad l.length c] 370 (0,0)::qz (.slice ad l.length c) l::cI (l.map jI.t)::R) (xD g r s w l::R) :=
 cn (dS (M:=[_,_,_])) (cn (fx (f:=fun c=>MT g r s w l ad c) c) (fx (f:=fun ad=>Ex fun c=>MT g r s w l ad c) ad))
theorem Kx:cB (xD g r s w l::R) (cI (l.map jI.t)::R):=jF fun ad=>jF fun c=>cU.trans zE
end
theorem yT {v:Value} {l:List jI} {L R:List cK} (p:cR L (qz v l) R):∀ h,dO L h→∃ ad c,v=.slice ad l.length c∧l.length≤c∧c≤maxLen∧((ad=none∧c=0∧l.length=0)∨∃ g,ad=some ⟨g,0,none⟩):=fun h x=>by
 obtain ⟨⟨ad,c,h1,h2,h3,h4⟩,_⟩:=fk p h x;exact ⟨ad,c,h1,h2,h3,h4⟩
theorem Hx {v:Value} {l:List eo} {L R:List cK} (p:cR L (cV v l) R):∀ h,dO L h→∃ ad c,v=.slice ad l.length c∧l.length≤c∧c≤maxLen∧((ad=none∧c=0∧l.length=0)∨∃ g,ad=some ⟨g,0,none⟩):=fun h x=>by
 obtain ⟨⟨ad,c,h1,h2,h3,h4⟩,_⟩:=fk p h x;exact ⟨ad,c,h1,h2,h3,h4⟩
theorem BG {l:List eo} {R:List cK} (ht:dR R l):∀ h,dO R h→∀ m∈l,m.1.oneCell'=true:=fun h x m hm=>cz (ht m hm) h x
theorem EY {g r s w:Nat} {l:List jI} {R:List cK}:∀ h,dO (xD g r s w l::R) h→∀ m∈l,m.v.oneCell'=true :=
 Cc (fun h x m hm=>cz (eH (R:=R) m.t (aE.2 ⟨m,hm,rfl⟩)) h x) Kx
theorem Ky (r s w:Nat) (h:(1≤r∧r≤16)∧(1≤s∧s≤8)∧w≤1000) :
 Ct prog 279 #[.int .i64 r,.int .i64 s,.int .i64 w] e R (fun v' L'=>∃ g,v'=.tuple #[pt g,.int .i64 0]∧L'=xD g r s w []::R):=by
 refine a8 (args:=[_,_,_]) func279 rfl ntmps279 results279 rfl ?_
 (repeat (refine wA ?_;intros))
 exact aY _ rfl ((bh ((du Kw 2).trans (bh dM))).trans (kH (l:=[]))) ⟨_,rfl,rfl⟩
theorem Kz (g r s w:Nat) (l:List jI) :
 Ct prog 240 #[pt g] e (xD g r s w l::R) (fun v' L'=>v'=.int .i64 (l.length:Int)∧L'=xD g r s w l::R):=by
 refine q0 fun ad c=>?_
 refine a8 (args:=[_]) func240 rfl ntmps240 results240 rfl ?_;refine wB ?_;exact aY _ rfl kH ⟨rfl,rfl⟩
theorem KA (g r s w:Nat) (l:List jI) (v:Value) (b:List UInt8) (now:Int) (hr:db (xD g r s w l::R) v b) (hb:b.length≤140737488351232) (hl:l.length≤r+2000) (hn:r≤1000) :
 Ct prog 241 #[pt g,v,.int .i64 now] e (xD g r s w l::R)
  (fun v' L'=>(l.length<r∧v'=.int .i64 0∧∃ v2,L'=xD g r s w (l++[⟨v2,b,now⟩])::R)∨(¬ l.length<r∧v'=.int .i64 20∧L'=xD g r s w l::R)):=by
 refine a7 (cz hr) ?_;intro h1;refine q0 fun ad c=>?_
 refine a8 (args:=[_,_,_]) func241 rfl ntmps241 results241 rfl ?_
 by_cases cP:l.length<r
 ·have tI:=hr.cM (kH (R:=R) (g:=g) (r:=r) (s:=s) (w:=w) (l:=l) (ad:=ad) (c:=c))
  (repeat' first|refine Zb ?_|apply Zc|apply Zd|apply Ze|apply Zf|refine YA ?_|apply YC|(refine bz (id:=1) [] mixed ?_;all_goals (refine tM 0 ?_);all_goals (refine tN 1 ?_);all_goals (refine tF 2 ?_);all_goals (refine tL 3 ?_);all_goals (refine tk 4 _ rfl (bN rfl) ?_);all_goals (refine tM 5 ?_);all_goals (refine tN 6 ?_);all_goals (refine tF 7 ?_);all_goals (refine tL 8 ?_);all_goals (first|refine tk 9 (.bool true) rfl (cE.iW (bS rfl rfl) zy) ?_|refine tk 9 (.bool false) rfl (cE.no (bS rfl rfl) zn) ?_);all_goals (refine bf zK ?_)))
  refine bk (id:=3) [11,12,13] [cL g [.int .i64 (r:Int),.int .i64 (s:Int),.int .i64 (w:Int),.slice ad l.length c] 370 (0,0)] mixed ?_;refine tM 0 ?_;refine tM 1 ?_;refine tN 2 ?_;refine tF 3 ?_;refine tL 4 ?_;refine tM 5 ?_;refine tM 7 ?_;refine tO 6 ?_;refine bg rfl rfl (dy _ e _ b tI zo) ?_;rintro _ _ ⟨dW,c2,rfl,rfl⟩;refine ⟨fun _=>zE,?_⟩;refine tO 8 ?_;refine bO (bM (cells:=[.slice dW b.length c2,.int .i64 now]) rfl zF) rfl ⟨fun _=>zE,?_⟩;refine tO 9 ?_;refine bF (n:=2) rfl rfl rfl rfl zQ rfl (fun g2=>⟨fun _=>zE,?_⟩);refine tO 10 ?_;refine bo rfl rfl rfl zP (bP (n:=2) (c:=1) .zero rfl zl) rfl rfl zO zm zo fun eE c3 _=>⟨fun _=>zE,?_⟩
  ((refine tO 11 ?_;refine dV (bm rfl) ?_);(refine tO 12 ?_;refine dV (ba rfl) ?_);(refine tO 13 ?_;refine tf ?_;refine ⟨zN,?_⟩))
  refine bf zK ?_;refine wB ?_;refine aY (xD g r s w (l++[⟨.slice dW b.length c2,b,now⟩])::R) rfl (cn (show cB _ (cT (.slice dW b.length c2) b::cI (l.map jI.t)::cL g [.int .i64 (r:Int),.int .i64 (s:Int),.int .i64 (w:Int),.slice eE (l.length+1) c3] 370 (0,0)::dJ Kw 2 (.slice eE (l.length+1) c3) (l.length+1) (l.flatMap jI.cells++[.slice dW b.length c2,.int .i64 now])::R) from zE) (cn (jw (a:=(.slice dW b.length c2,b))) (cn (bw (.succ .zero) aX) ?_))) (.inl ⟨cP,rfl,_,rfl⟩);refine cn eL (cn ?_ (kH (ad:=eE) (c:=c3)));simp only [qz,aa,aj,aW,aT,List.flatMap_nil,aK,ah,List.map_cons,List.map_nil];exact zE
 ·(repeat' first|refine Zb ?_|apply Zc|apply Zd|apply Ze|apply Zf|refine Yz ?_|apply YE|apply YF|(refine bz (id:=1) [] mixed ?_;all_goals (refine tM 0 ?_);all_goals (refine tN 1 ?_);all_goals (refine tF 2 ?_);all_goals (refine tL 3 ?_);all_goals (refine tk 4 _ rfl (bN rfl) ?_);all_goals (refine tM 5 ?_);all_goals (refine tN 6 ?_);all_goals (refine tF 7 ?_);all_goals (refine tL 8 ?_);all_goals (first|refine tk 9 (.bool true) rfl (cE.iW (bS rfl rfl) zy) ?_|refine tk 9 (.bool false) rfl (cE.no (bS rfl rfl) zn) ?_);all_goals (refine bf zK ?_)))
  exact aY _ rfl kH (.inr ⟨cP,rfl,rfl⟩)
def due (l:List jI) (s w:Nat) (now:Int):Bool:=match l with
 | []=>false
 | i::_=>decide (s≤l.length∨i.jD = -9223372036854775808∨(i.jD≤now∧(w:Int)≤now - i.jD))
theorem MU {a b:Int} (ha:-9223372036854775808≤a∧a≤9223372036854775807) (hb:-9223372036854775808≤b∧b≤9223372036854775807) (h:a≤b):IntKind.u64.wrap (IntKind.u64.wrap b - IntKind.u64.wrap a)=b - a:=by
 unfold IntKind.wrap;simp only [IntKind.bits,IntKind.signed]
 simp
 omega
theorem Pd {w:Nat} (h:w≤1000):IntKind.u64.wrap (w:Int)=w:=by
 unfold IntKind.wrap;simp only [IntKind.bits,IntKind.signed]
 simp
 omega
theorem KB (g r s w:Nat) (l:List jI) (now:Int) (hw:w≤1000) (hl:l.length≤100000) (hs:s≤1000) (hn:-9223372036854775808≤now∧now≤9223372036854775807) (ha:∀ m∈l,-9223372036854775808≤m.jD∧m.jD≤9223372036854775807) :
 Ct prog 242 #[pt g,.int .i64 now] e (xD g r s w l::R) (fun v' L'=>v'=.bool (due l s w now)∧L'=xD g r s w l::R):=by
 refine q0 fun ad c=>?_
 refine a7 (yT (.succ .zero)) ?_;rintro ⟨_,_,hv,hc,hm,hg⟩
 cases hv
 refine a8 (args:=[_,_]) func242 rfl ntmps242 results242 rfl ?_
 cases l with
 | nil =>
  have h0:((([]:List jI).length:Nat):Int)=0:=rfl;refine wB ?_;exact aY _ rfl kH ⟨rfl,rfl⟩
 | cons i l =>
  have hlen:((i::l).length:Int)=l.length+1:=by simp
  have VO:(i::l).length=l.length+1:=by simp
  rcases hg with ⟨_,_,h0⟩|⟨g1,rfl⟩
  ·simp at h0
  have hi:=ha i (List.mem_cons_self ..);have q1:Rd (qz (.slice (some ⟨g1,0,none⟩) (i::l).length c) (i::l)::cI ((i::l).map jI.t)::R) ⟨g1,0+0*2+1,none⟩ (.int .i64 i.jD):=(dZ.elem (bb .zero) MS (j:=0) rfl).Oy rfl;have hd:due (i::l) s w now=decide (s≤(i::l).length∨i.jD = -9223372036854775808∨(i.jD≤now∧(w:Int)≤now - i.jD)):=rfl;rw [hd]
  by_cases h1:s≤(i::l).length
  ·(repeat' first|refine Za ?_|refine Zb ?_|apply Zc|apply Zd|apply Ze|apply Zf|refine Zg ?_|refine Zh ?_|refine Zi ?_|refine Zk ?_|refine ZN ?_|refine Yz ?_|refine YA ?_|apply YB|apply YE|apply YF|apply YI|(refine bz (id:=3) [] mixed ?_;all_goals (refine tM 0 ?_);all_goals (refine tN 1 ?_);all_goals (refine tF 2 ?_);all_goals (refine tL 3 ?_);all_goals (refine tk 4 _ rfl (bN rfl) ?_);all_goals (refine tM 5 ?_);all_goals (refine tN 6 ?_);all_goals (refine tF 7 ?_);all_goals (refine tL 8 ?_);all_goals (first|refine tk 9 (.bool true) rfl (cE.iW (bS rfl rfl) zy) ?_|refine tk 9 (.bool false) rfl (cE.no (bS rfl rfl) zn) ?_);all_goals (refine tM 10 ?_);all_goals (first|refine dv 11 _ rfl (bu rfl) ?_|refine bc 11 rfl rfl zK aX rfl ?_);all_goals (first|refine dv 12 _ rfl (bm rfl) ?_|refine bc 12 rfl rfl zK aX rfl ?_);all_goals (first|refine dv 13 _ rfl (ba rfl) ?_|refine bc 13 rfl rfl zK aX rfl ?_);all_goals (first|refine dv 14 _ rfl (bp rfl zR) ?_|refine bc 14 rfl rfl zK aX rfl ?_);all_goals (first|refine dv 15 _ rfl (bY rfl rfl zo zo) ?_|refine bc 15 rfl rfl zK aX rfl ?_);all_goals (first|refine dv 16 _ rfl (ba rfl) ?_|refine bc 16 rfl rfl zK aX rfl ?_);all_goals (first|refine dv 17 _ rfl (bp rfl zR) ?_|refine bc 17 rfl rfl zK aX rfl ?_);all_goals (first|refine dv 18 (.bool true) rfl (cE.iW (bX rfl rfl) zy) ?_|refine dv 18 (.bool false) rfl (cE.no (bX rfl rfl) zn) ?_|refine bc 18 rfl rfl zK aX rfl ?_);all_goals (first|refine tk 19 _ rfl (bL rfl rfl) ?_|refine tk 19 _ rfl (bJ rfl rfl) ?_);all_goals (refine tA 20 ?_);all_goals (refine bf zK ?_)))
   exact aY _ rfl kH ⟨by rw [ay zo];rfl,rfl⟩
  ·by_cases h2:i.jD = -9223372036854775808
   ·(repeat' first|refine Za ?_|refine Zb ?_|apply Zc|apply Zd|apply Ze|apply Zf|refine Zg ?_|refine Zh ?_|refine Zi ?_|refine Zk ?_|refine ZN ?_|refine Yz ?_|refine YA ?_|apply YB|apply YE|apply YF|apply YI|(refine bz (id:=3) [] mixed ?_;all_goals (refine tM 0 ?_);all_goals (refine tN 1 ?_);all_goals (refine tF 2 ?_);all_goals (refine tL 3 ?_);all_goals (refine tk 4 _ rfl (bN rfl) ?_);all_goals (refine tM 5 ?_);all_goals (refine tN 6 ?_);all_goals (refine tF 7 ?_);all_goals (refine tL 8 ?_);all_goals (first|refine tk 9 (.bool true) rfl (cE.iW (bS rfl rfl) zy) ?_|refine tk 9 (.bool false) rfl (cE.no (bS rfl rfl) zn) ?_);all_goals (refine tM 10 ?_);all_goals (first|refine dv 11 _ rfl (bu rfl) ?_|refine bc 11 rfl rfl zK aX rfl ?_);all_goals (first|refine dv 12 _ rfl (bm rfl) ?_|refine bc 12 rfl rfl zK aX rfl ?_);all_goals (first|refine dv 13 _ rfl (ba rfl) ?_|refine bc 13 rfl rfl zK aX rfl ?_);all_goals (first|refine dv 14 _ rfl (bp rfl zR) ?_|refine bc 14 rfl rfl zK aX rfl ?_);all_goals (first|refine dv 15 _ rfl (bY rfl rfl zo zo) ?_|refine bc 15 rfl rfl zK aX rfl ?_);all_goals (first|refine dv 16 _ rfl (ba rfl) ?_|refine bc 16 rfl rfl zK aX rfl ?_);all_goals (first|refine dv 17 _ rfl (bp rfl zR) ?_|refine bc 17 rfl rfl zK aX rfl ?_);all_goals (first|refine dv 18 (.bool true) rfl (cE.iW (bX rfl rfl) zy) ?_|refine dv 18 (.bool false) rfl (cE.no (bX rfl rfl) zn) ?_|refine bc 18 rfl rfl zK aX rfl ?_);all_goals (first|refine tk 19 _ rfl (bL rfl rfl) ?_|refine tk 19 _ rfl (bJ rfl rfl) ?_);all_goals (refine tA 20 ?_);all_goals (refine bf zK ?_)))
    exact aY _ rfl kH ⟨by rw [ay zo];rfl,rfl⟩
   ·by_cases h3:i.jD≤now
    ·have h5:=MU hi hn h3;have h6:=Pd hw
     by_cases h4:(w:Int)≤now - i.jD
     ·(repeat' first|refine Za ?_|refine Zb ?_|apply Zc|apply Zd|apply Ze|apply Zf|refine Zg ?_|refine Zh ?_|refine Zi ?_|refine Zk ?_|refine Zl ?_|refine Zn ?_|refine ZJ ?_|refine ZN ?_|refine ZV ?_|refine ZZ ?_|refine Yy ?_|refine YA ?_|apply YB|apply YC|apply YE|apply YH|(refine bz (id:=3) [] mixed ?_;all_goals (refine tM 0 ?_);all_goals (refine tN 1 ?_);all_goals (refine tF 2 ?_);all_goals (refine tL 3 ?_);all_goals (refine tk 4 _ rfl (bN rfl) ?_);all_goals (refine tM 5 ?_);all_goals (refine tN 6 ?_);all_goals (refine tF 7 ?_);all_goals (refine tL 8 ?_);all_goals (first|refine tk 9 (.bool true) rfl (cE.iW (bS rfl rfl) zy) ?_|refine tk 9 (.bool false) rfl (cE.no (bS rfl rfl) zn) ?_);all_goals (refine tM 10 ?_);all_goals (first|refine dv 11 _ rfl (bu rfl) ?_|refine bc 11 rfl rfl zK aX rfl ?_);all_goals (first|refine dv 12 _ rfl (bm rfl) ?_|refine bc 12 rfl rfl zK aX rfl ?_);all_goals (first|refine dv 13 _ rfl (ba rfl) ?_|refine bc 13 rfl rfl zK aX rfl ?_);all_goals (first|refine dv 14 _ rfl (bp rfl zR) ?_|refine bc 14 rfl rfl zK aX rfl ?_);all_goals (first|refine dv 15 _ rfl (bY rfl rfl zo zo) ?_|refine bc 15 rfl rfl zK aX rfl ?_);all_goals (first|refine dv 16 _ rfl (ba rfl) ?_|refine bc 16 rfl rfl zK aX rfl ?_);all_goals (first|refine dv 17 _ rfl (bp rfl zR) ?_|refine bc 17 rfl rfl zK aX rfl ?_);all_goals (first|refine dv 18 (.bool true) rfl (cE.iW (bX rfl rfl) zy) ?_|refine dv 18 (.bool false) rfl (cE.no (bX rfl rfl) zn) ?_|refine bc 18 rfl rfl zK aX rfl ?_);all_goals (first|refine tk 19 _ rfl (bL rfl rfl) ?_|refine tk 19 _ rfl (bJ rfl rfl) ?_);all_goals (refine tA 20 ?_);all_goals (refine bf zK ?_)))
      exact aY _ rfl kH ⟨by rw [ay zo];rfl,rfl⟩
     ·(repeat' first|refine Za ?_|refine Zb ?_|apply Zc|apply Zd|apply Ze|apply Zf|refine Zg ?_|refine Zh ?_|refine Zi ?_|refine Zk ?_|refine Zl ?_|refine Zn ?_|refine ZJ ?_|refine ZK ?_|refine ZN ?_|refine ZV ?_|refine ZZ ?_|refine Yy ?_|refine YA ?_|apply YB|apply YC|apply YE|apply YH|(refine bz (id:=3) [] mixed ?_;all_goals (refine tM 0 ?_);all_goals (refine tN 1 ?_);all_goals (refine tF 2 ?_);all_goals (refine tL 3 ?_);all_goals (refine tk 4 _ rfl (bN rfl) ?_);all_goals (refine tM 5 ?_);all_goals (refine tN 6 ?_);all_goals (refine tF 7 ?_);all_goals (refine tL 8 ?_);all_goals (first|refine tk 9 (.bool true) rfl (cE.iW (bS rfl rfl) zy) ?_|refine tk 9 (.bool false) rfl (cE.no (bS rfl rfl) zn) ?_);all_goals (refine tM 10 ?_);all_goals (first|refine dv 11 _ rfl (bu rfl) ?_|refine bc 11 rfl rfl zK aX rfl ?_);all_goals (first|refine dv 12 _ rfl (bm rfl) ?_|refine bc 12 rfl rfl zK aX rfl ?_);all_goals (first|refine dv 13 _ rfl (ba rfl) ?_|refine bc 13 rfl rfl zK aX rfl ?_);all_goals (first|refine dv 14 _ rfl (bp rfl zR) ?_|refine bc 14 rfl rfl zK aX rfl ?_);all_goals (first|refine dv 15 _ rfl (bY rfl rfl zo zo) ?_|refine bc 15 rfl rfl zK aX rfl ?_);all_goals (first|refine dv 16 _ rfl (ba rfl) ?_|refine bc 16 rfl rfl zK aX rfl ?_);all_goals (first|refine dv 17 _ rfl (bp rfl zR) ?_|refine bc 17 rfl rfl zK aX rfl ?_);all_goals (first|refine dv 18 (.bool true) rfl (cE.iW (bX rfl rfl) zy) ?_|refine dv 18 (.bool false) rfl (cE.no (bX rfl rfl) zn) ?_|refine bc 18 rfl rfl zK aX rfl ?_);all_goals (first|refine tk 19 _ rfl (bL rfl rfl) ?_|refine tk 19 _ rfl (bJ rfl rfl) ?_);all_goals (refine tA 20 ?_);all_goals (refine bf zK ?_)))
      exact aY _ rfl kH ⟨by rw [aq zo];rfl,rfl⟩
    ·(repeat' first|refine Za ?_|refine Zb ?_|apply Zc|apply Zd|apply Ze|apply Zf|refine Zg ?_|refine Zh ?_|refine Zi ?_|refine Zk ?_|refine Zm ?_|refine Zo ?_|refine ZK ?_|refine ZN ?_|refine Yy ?_|refine YA ?_|apply YB|apply YC|apply YE|apply YH|(refine bz (id:=3) [] mixed ?_;all_goals (refine tM 0 ?_);all_goals (refine tN 1 ?_);all_goals (refine tF 2 ?_);all_goals (refine tL 3 ?_);all_goals (refine tk 4 _ rfl (bN rfl) ?_);all_goals (refine tM 5 ?_);all_goals (refine tN 6 ?_);all_goals (refine tF 7 ?_);all_goals (refine tL 8 ?_);all_goals (first|refine tk 9 (.bool true) rfl (cE.iW (bS rfl rfl) zy) ?_|refine tk 9 (.bool false) rfl (cE.no (bS rfl rfl) zn) ?_);all_goals (refine tM 10 ?_);all_goals (first|refine dv 11 _ rfl (bu rfl) ?_|refine bc 11 rfl rfl zK aX rfl ?_);all_goals (first|refine dv 12 _ rfl (bm rfl) ?_|refine bc 12 rfl rfl zK aX rfl ?_);all_goals (first|refine dv 13 _ rfl (ba rfl) ?_|refine bc 13 rfl rfl zK aX rfl ?_);all_goals (first|refine dv 14 _ rfl (bp rfl zR) ?_|refine bc 14 rfl rfl zK aX rfl ?_);all_goals (first|refine dv 15 _ rfl (bY rfl rfl zo zo) ?_|refine bc 15 rfl rfl zK aX rfl ?_);all_goals (first|refine dv 16 _ rfl (ba rfl) ?_|refine bc 16 rfl rfl zK aX rfl ?_);all_goals (first|refine dv 17 _ rfl (bp rfl zR) ?_|refine bc 17 rfl rfl zK aX rfl ?_);all_goals (first|refine dv 18 (.bool true) rfl (cE.iW (bX rfl rfl) zy) ?_|refine dv 18 (.bool false) rfl (cE.no (bX rfl rfl) zn) ?_|refine bc 18 rfl rfl zK aX rfl ?_);all_goals (first|refine tk 19 _ rfl (bL rfl rfl) ?_|refine tk 19 _ rfl (bJ rfl rfl) ?_);all_goals (refine tA 20 ?_);all_goals (refine bf zK ?_)))
     exact aY _ rfl kH ⟨by rw [aq zo];rfl,rfl⟩
theorem EZ (v:Value) (l:List jI) (hv:cF R 2 v l.length (l.flatMap jI.cells)) (ht:∀ m∈l,db R m.v m.b) (hb:∀ m∈l,m.b.length≤140737488351232) (hl:l.length≤100000) :
 Ct prog 283 #[v] e R (fun v' L'=>∃ (ad:Option Addr) (c:Nat) (ts:List eo),v'=.slice ad ts.length c∧ts.map (·.2)=l.map jI.b∧L'=cV (.slice ad ts.length c) ts::cI ts::R):=by
 refine a7 (hv.shape zo) ?_;rintro ⟨⟨ad,cap,rfl,h3,h4,h5,h6⟩,_⟩;refine a7 (fun h x m hm=>cz (ht m hm) h x) ?_;intro mY;refine a8 (args:=[_]) func283 rfl ntmps283 results283 rfl ?_;refine wB ?_;refine bq (ι:=List eo × Option Addr × Nat) (fun i=>[(6,.slice ad l.length cap),(7,.int .i64 (l.length:Int)),(8,.int .i64 (i.1.length:Int)),(3,.slice i.2.1 i.1.length i.2.2)])
  (fun i=>cV (.slice i.2.1 i.1.length i.2.2) i.1::cI i.1::R) (fun i=>i.1.length≤l.length∧i.1.map (·.2)=(l.take i.1.length).map jI.b) (fun i=>l.length - i.1.length) ([],none,0) ⟨aH _,rfl⟩
  (cD rfl (cD rfl (cD rfl (cD rfl de)))) ((du eA 1).trans (bh dM)) ?_
 rintro ⟨out,dW,c2⟩ ⟨hi,hd⟩;dsimp only at hi hd ⊢
 by_cases cP:out.length<l.length
 ·rcases h6 with h6|⟨gl,ol,rfl⟩
  ·omega
  have G5:dZ R gl (ol+out.length*2) (l[out.length]'cP).cells:=dZ.elem hv MS (ae cP);have iX:=ht _ (ax cP);have EC:=hb _ (ax cP);have h1:=mY _ (ax cP)
  generalize Cg:l[out.length]'cP=m at *
  obtain ⟨v,b,a⟩:=m;dsimp only at h1 iX EC
  simp only [jI.cells] at G5
  (repeat (refine wA ?_;intros))
  refine aZ rfl rfl (dy _ e _ b iX.tail.tail.tail zo) ?_;rintro _ _ ⟨eE,c3,rfl,rfl⟩
  (repeat (refine wA ?_;intros))
  refine bC (bo rfl rfl rfl (.succ (.succ (.succ .zero))) (bB .zero rfl zl) rfl rfl zO zm zo fun jB c4 _=>?_)
  refine wB ?_;refine bi (out++[(.slice eE b.length c3,b)],jB,c4) ⟨by simp;omega,?_⟩ (by simp;omega) ?_ ?_
  ·simp only [ah,aa,aj,hd];rw [aD cP,Cg];simp only [ah,List.map_cons,List.map_nil]
  ·simp only [aa,aj];exact cD rfl (cD rfl (cD rfl (cD rfl de)))
  ·refine cn (show cB _ (cT (.slice eE b.length c3) b::cI out::dJ eA 1 (.slice jB (out.length+1) c4) (out.length+1) (out.map (·.1)++[.slice eE b.length c3])::R) from zE) (cn (jw (a:=(.slice eE b.length c3,b))) (cn (bw (.succ .zero) aX) (cn eL ?_)));simp only [cV,aa,aj,ah,List.map_cons,List.map_nil];exact zE
 ·refine wB ?_;refine aY _ rfl aX ⟨dW,c2,out,rfl,?_,rfl⟩;rw [hd,aG zo]
theorem E0 (v:Value) (l:List jI) (h:cF R 2 v l.length (l.flatMap jI.cells)) (h1:∀ m∈l,m.v.oneCell'=true) (hl:l.length≤100000) :
 Ct prog 284 #[v] e R (fun v' L'=>∃ ad c,v'=.slice ad l.length c∧L'=qz (.slice ad l.length c) l::R):=by
 refine a7 (h.shape zo) ?_;rintro ⟨⟨ad,cap,rfl,h3,h4,h5,h6⟩,_⟩;refine a8 (args:=[_]) func284 rfl ntmps284 results284 rfl ?_
 cases ad with
 | none =>
  have u7:l=[]:=by
   have:=h5 rfl;exact List.eq_nil_of_length_eq_zero zo
  subst u7;refine wB ?_;exact aY _ rfl (du _ _) ⟨_,_,rfl,rfl⟩
 | some a =>
  (repeat (refine wA ?_;intros))
  refine O.fp (hH (n:=2) (k:=0) (cap:=0) zo zl rfl) ?_;refine bC (bo rfl rfl rfl .zero h rfl rfl (EX h1) zm zo fun lO c' lP=>?_)
  refine wB ?_;refine aY _ rfl ?_ ⟨lO,c',by simp [AS],rfl⟩;simp only [aC];exact aX
theorem Hy (g r s w:Nat) (l:List jI) (hb:∀ m∈l,m.b.length≤140737488351232) (hl:l.length≤100000) (hs:s≤1000) :
 Ct prog 243 #[pt g] e (xD g r s w l::R) (fun v' L'=>∃ (ad:Option Addr) (c:Nat) (ts:List eo),v'=.slice ad ts.length c∧ts.map (·.2)=(l.take s).map jI.b∧L'=cV (.slice ad ts.length c) ts::cI ts::xD g r s w (l.drop s)::R):=by
 refine a7 EY ?_;intro mY;refine q0 fun ad c=>?_
 refine a7 (yT (.succ .zero)) ?_;rintro ⟨_,_,hv,hc,hm,hg⟩
 cases hv
 refine a8 (args:=[_]) func243 rfl ntmps243 results243 rfl ?_
 have hn:(if (l.length:Int)<(s:Int) then (l.length:Int) else (s:Int))=((min s l.length:Nat):Int):=by
  by_cases h:l.length<s
  ·rw [aI zo];omega
  ·rw [aB zo];omega
 have hle:min s l.length≤l.length:=Nat.min_le_right _ _;obtain ⟨n,QW⟩:∃ n,n=min s l.length:=⟨_,rfl⟩
 rw [← QW] at hn hle
 have et:l.take n=l.take s:=by
  rcases Nat.le_total s l.length with h|h
  ·rw [QW,Nat.min_eq_left h]
  ·rw [QW,Nat.min_eq_right h,aG (aS _),aG h]
 have ed:l.drop n=l.drop s:=by
  rcases Nat.le_total s l.length with h|h
  ·rw [QW,Nat.min_eq_left h]
  ·rw [QW,Nat.min_eq_right h,List.drop_of_length_le (aS _),List.drop_of_length_le h]
 have lt:(l.take n).length=n:=by rw [aF];omega
 have ld:(l.drop n).length=l.length - n:=by rw [aP]
 have rT:∀ L',cF (qz (.slice ad l.length c) l::L') 2 (.slice ad ((n:Int).toNat) c) (l.take n).length ((l.take n).flatMap jI.cells):=fun L'=>by
  have:=cF.p7 (bb (L:=qz (.slice ad l.length c) l::L') .zero) (hi:=n) hle;rw [mK MS] at this
  rw [lt];exact this
 have rD:∀ L',cF (qz (.slice ad l.length c) l::L') 2 (.slice (cutAt ad c ((n:Int).toNat) 2) (l.length - ((n:Int).toNat)) (c - ((n:Int).toNat))) (l.drop n).length ((l.drop n).flatMap jI.cells):=fun L'=>by
  have:=cF.rG (bb (L:=qz (.slice ad l.length c) l::L') .zero) (lo:=n) hle;rw [xX MS] at this
  rw [ld];exact this
 (repeat' first|refine Za ?_|refine Zb ?_|apply Zc|apply Zd|apply Ze|apply Zf|refine Zg ?_|refine Zh ?_|refine Zi ?_|refine Yr ?_|(refine bz (id:=1) [10] mixed ?_;all_goals (refine tM 0 ?_);all_goals (refine tN 1 ?_);all_goals (refine tF 2 ?_);all_goals (refine tL 3 ?_);all_goals (refine tM 4 ?_);all_goals (refine tN 5 ?_);all_goals (refine tF 6 ?_);all_goals (refine tL 7 ?_);all_goals (refine tk 8 _ rfl (bN rfl) ?_);all_goals (refine tk 9 _ rfl (cE.min rfl rfl) ?_);all_goals ((refine tO 10 ?_;refine dV (bj rfl) ?_));all_goals (refine bf zK ?_)))
 rw [hn]
 (repeat' first|refine Za ?_|refine Zb ?_|apply Zc|apply Zd|apply Ze|apply Zf|refine Zg ?_|refine Zh ?_|refine Zi ?_|refine Zj ?_|refine Zk ?_|refine Yd ?_|refine Ym ?_|refine Yr ?_|refine Ys ?_|refine Yt ?_|apply YE|apply YF|refine YQ ?_|refine YR ?_|(apply O.dh;exact rfl;exact zP;(first|(simp only [aC,Nat.add_zero,Nat.reduceAdd,List.drop_succ_cons,List.drop_zero,List.take_succ_cons,List.take_zero];done)|(simp only [aC,Nat.add_zero,Nat.reduceAdd,List.drop_succ_cons,List.drop_zero,List.take_succ_cons,List.take_zero];exact rfl));exact rfl;exact rfl)|(refine bz (id:=1) [10] mixed ?_;all_goals (refine tM 0 ?_);all_goals (refine tN 1 ?_);all_goals (refine tF 2 ?_);all_goals (refine tL 3 ?_);all_goals (refine tM 4 ?_);all_goals (refine tN 5 ?_);all_goals (refine tF 6 ?_);all_goals (refine tL 7 ?_);all_goals (refine tk 8 _ rfl (bN rfl) ?_);all_goals (refine tk 9 _ rfl (cE.min rfl rfl) ?_);all_goals ((refine tO 10 ?_;refine dV (bj rfl) ?_));all_goals (refine bf zK ?_)))
 refine aZ rfl rfl (EZ _ e _ (l.take n) (rT _).tail (fun m hm=>(eH m.t (aE.2 ⟨m,aR hm,rfl⟩)).tail.tail) (fun m hm=>hb m (aR hm)) zo) ?_;rintro _ _ ⟨dW,c2,ts,rfl,fB,rfl⟩;refine wB ?_;refine aZ rfl rfl (E0 _ e _ (l.drop n) (rD _).tail.tail.tail (fun m hm=>mY m (aV hm)) zo) ?_;rintro _ _ ⟨eE,c3,rfl,rfl⟩;refine wB ?_;rw [et] at fB
 refine aY _ rfl (cn (show cB _ (cI (l.map jI.t)::cV (.slice dW ts.length c2) ts::cI ts::cL g [.int .i64 (r:Int),.int .i64 (s:Int),.int .i64 (w:Int),.slice eE (l.drop n).length c3] 370 (0,0)::qz (.slice eE (l.drop n).length c3) (l.drop n)::R) from zE) (cn (Gy n) (cn ?_ (bh (bh (kH (ad:=eE) (c:=c3) (l:=l.drop n))))))) ⟨dW,c2,ts,rfl,fB,by rw [ed]⟩;rw [← List.map_drop];exact zE
theorem Hz (g r s w:Nat) (l:List jI) (v:Value) (ts:List eo) (hv:cF R 1 v ts.length (ts.map (·.1))) (ht:dR R ts) (hb:∀ a∈ts,a.2.length≤140737488351232) (hl:ts.length+l.length≤100000) :
 Ct prog 244 #[pt g,v] e (xD g r s w l::R) (fun v' L'=>v'=.tuple #[]∧∃ l':List jI,l'.map jI.b=ts.map (·.2)∧(∀ m∈l',m.jD = -9223372036854775808)∧L'=xD g r s w (l'++l)::R):=by
 refine a7 EY ?_;intro mY;refine a7 (Cc (hv.shape zo) zE) ?_;rintro ⟨⟨wm,cap,rfl,h3,h4,h5,h6⟩,_⟩;refine q0 fun ad c=>?_
 refine a8 (args:=[_,_]) func244 rfl ntmps244 results244 rfl ?_;refine wB ?_;refine bq (ι:=List jI × Option Addr × Nat) (fun i=>[(0,pt g),(7,.slice wm ts.length cap),(8,.int .i64 (ts.length:Int)),(9,.int .i64 (i.1.length:Int)),(4,.slice i.2.1 i.1.length i.2.2)])
  (fun i=>qz (.slice i.2.1 i.1.length i.2.2) i.1::cI (i.1.map jI.t)::cL g [.int .i64 (r:Int),.int .i64 (s:Int),.int .i64 (w:Int),.slice ad l.length c] 370 (0,0)::qz (.slice ad l.length c) l::cI (l.map jI.t)::R)
  (fun i=>i.1.length≤ts.length∧i.1.map jI.b=(ts.take i.1.length).map (·.2)∧(∀ m∈i.1,m.jD = -9223372036854775808)∧∀ m∈i.1,m.v.oneCell'=true) (fun i=>ts.length - i.1.length) ([],none,0) ⟨aH _,rfl,(fun m h=>by cases h),(fun m h=>by cases h)⟩
  (cD rfl (cD rfl (cD rfl (cD rfl (cD rfl de))))) ((du Kw 2).trans (bh dM)) ?_
 rintro ⟨out,dW,c2⟩ ⟨hi,hd,J2,Xp⟩;dsimp only at hi hd J2 Xp ⊢
 by_cases cP:out.length<ts.length
 ·rcases h6 with h6|⟨gl,ol,rfl⟩
  ·omega
  have q1:Rd R ⟨gl,ol+out.length,none⟩ (ts[out.length]'cP).1:=cF.elem hv (by rw [aL,ae cP];rfl);have iX:=ht _ (ax cP);have EC:=hb _ (ax cP)
  generalize Cg:ts[out.length]'cP=m at *
  obtain ⟨v,b⟩:=m;dsimp only at iX EC q1
  refine wB ?_;refine aZ rfl rfl (dy _ e _ b iX.tail.tail.tail.tail.tail zo) ?_;rintro _ _ ⟨eE,c3,rfl,rfl⟩
  (repeat (refine wA ?_;intros))
  refine bC (bo rfl rfl rfl (.succ (.succ .zero)) (bP (n:=2) (c:=1) .zero rfl zl) rfl rfl zO zm zo fun jB c4 _=>?_)
  refine wB ?_;refine bi (out++[⟨.slice eE b.length c3,b,-9223372036854775808⟩],jB,c4) ⟨by simp;omega,?_,?_,?_⟩ (by simp;omega) ?_ ?_
  ·simp only [ah,aa,aj,hd];rw [aD cP,Cg];simp only [ah,List.map_cons,List.map_nil]
  ·intro m hm;rcases aJ.1 hm with hm|hm
   ·exact J2 m hm
   ·rw [an.1 hm]
  ·intro m hm;rcases aJ.1 hm with hm|hm
   ·exact Xp m hm
   ·rw [an.1 hm];rfl
  ·simp only [aa,aj];exact cD rfl (cD rfl (cD rfl (cD rfl (cD rfl de))))
  ·refine cn (show cB _ (cT (.slice eE b.length c3) b::cI (out.map jI.t)::dJ Kw 2 (.slice jB (out.length+1) c4) (out.length+1) (out.flatMap jI.cells++[.slice eE b.length c3,.int .i64 (-9223372036854775808)])::cL g [.int .i64 (r:Int),.int .i64 (s:Int),.int .i64 (w:Int),.slice ad l.length c] 370 (0,0)::qz (.slice ad l.length c) l::cI (l.map jI.t)::R) from zE) (cn (jw (a:=(.slice eE b.length c3,b))) (cn (bw (.succ .zero) aX) (cn eL ?_)));simp only [qz,aa,aj,ah,List.map_cons,List.map_nil,aW,aT,List.flatMap_nil,aK];exact zE
 ·have Kh:out.map jI.b=ts.map (·.2):=by rw [hd,aG zo]
  refine wB ?_;refine bC (bo rfl rfl rfl .zero (bb (.succ (.succ .zero))) rfl rfl (EX mY) zm zo fun jB c4 _=>?_)
  refine wB ?_;refine bU (xD g r s w (out++l)::R) rfl (cn (show cB _ (cI (out.map jI.t)::cI (l.map jI.t)::cL g [.int .i64 (r:Int),.int .i64 (s:Int),.int .i64 (w:Int),.slice jB (out.length+l.length) c4] 370 (0,0)::dJ Kw 2 (.slice jB (out.length+l.length) c4) (out.length+l.length) (out.flatMap jI.cells++l.flatMap jI.cells)::R) from zE) (cn eL (cn ?_ (kH (ad:=jB) (c:=c4))))) ⟨rfl,out,Kh,J2,rfl⟩;simp only [qz,aa,ah,aW];exact zE
def hasB (l:List jI) (b:List UInt8):Bool:=l.any fun i=>decide (i.b=b)
theorem E1 (va vb:Value) (a b:List UInt8) (ha:db R va a) (hb:db R vb b) :
 Ct prog 188 #[va,vb] e R (fun v' L'=>v'=.bool (decide (a=b))∧R=L'):=by
 refine a8 (args:=[_,_]) func188 rfl ntmps188 results188 rfl ?_
 by_cases h:a=b
 ·subst h;refine wB ?_;exact aY _ rfl aX ⟨by simp;rfl,rfl⟩
 ·refine wB ?_;exact aY _ rfl aX ⟨by simp [h];rfl,rfl⟩
theorem sC (va vb:Value) (a b:List UInt8) (ha:db R va a) (hb:db R vb b) :
 Ct prog 99 #[va,vb] e R (fun v' L'=>v'=.bool (decide (a=b))∧R=L'):=by
 refine a8 (args:=[_,_]) func99 rfl ntmps99 results99 rfl ?_;refine wB ?_;refine aZ rfl rfl (E1 R e va vb a b ha hb) ?_;rintro _ _ ⟨rfl,rfl⟩;refine wB ?_;exact aY _ rfl aX ⟨rfl,rfl⟩
theorem HA (g:Nat) (v:Value) (b:List UInt8) (i:jI) (hg:Rd R ⟨g,0,none⟩ v) (hr:db R v b) (hi:db R i.v i.b) :
 Ct prog 281 #[.agg i.cells.toArray,pt g] e R (fun v' L'=>v'=.bool (decide (i.b=b))∧R=L'):=by
 obtain ⟨iv,ib,ia⟩:=i;dsimp only at hi
 simp only [jI.cells];refine a8 (args:=[_,_]) func281 rfl ntmps281 results281 rfl ?_
 (repeat (refine wA ?_;intros))
 refine aZ rfl rfl (sC _ e iv v ib b hi.tail hr.tail) ?_;rintro _ _ ⟨rfl,rfl⟩;refine wB ?_;exact aY R rfl zE ⟨rfl,rfl⟩
theorem E2 (g:Nat) (v vl:Value) (b:List UInt8) (l:List jI) (hg:Rd R ⟨g,0,none⟩ v) (hr:db R v b) (hv:cF R 2 vl l.length (l.flatMap jI.cells)) (ht:∀ m∈l,db R m.v m.b) (hl:l.length≤100000) :
 Ct prog 303 #[vl,.func (.func 281) #[] #[pt g]] e R (fun v' L'=>∃ k:Int,v'=.int .i64 k∧(decide (0≤k)=hasB l b)∧R=L'):=by
 refine a7 (hv.shape zo) ?_;rintro ⟨⟨ad,cap,rfl,h3,h4,h5,h6⟩,_⟩;refine a8 (args:=[_,_]) func303 rfl ntmps303 results303 rfl ?_;refine wB ?_;refine bq (ι:=Nat) (fun i=>[(0,.slice ad l.length cap),(1,.func (.func 281) #[] #[pt g]),(7,.int .i64 (l.length:Int)),(8,.int .i64 (i:Int))]) (fun _=>R) (fun i=>i≤l.length∧∀ m∈l.take i,m.b≠b) (fun i=>l.length - i) 0 ⟨aH _,fun m h=>by simp at h⟩
  (cD rfl (cD rfl (cD rfl (cD rfl de)))) aX ?_
 rintro i ⟨hi,hn⟩
 by_cases cP:i<l.length
 ·rcases h6 with h6|⟨gl,ol,rfl⟩
  ·omega
  have G5:dZ R gl (ol+i*2) (l[i]'cP).cells:=dZ.elem hv MS (ae cP);have iX:=ht _ (ax cP);refine wB ?_;refine O.gD (us:=[]) (ws:=[pt g]) (vs:=[.agg (l[i]'cP).cells.toArray]) rfl rfl rfl (HA R e g v b (l[i]'cP) hg hr iX) ?_;rintro _ _ ⟨rfl,rfl⟩
  by_cases hb:(l[i]'cP).b=b
  ·rw [ay hb];refine wB ?_;refine aY R rfl aX ⟨_,rfl,?_,rfl⟩
   have h1:hasB l b=true:=by
    unfold hasB;rw [List.any_eq_true];exact ⟨_,ax cP,by simpa using hb⟩
   rw [h1];simp
  ·rw [aq hb];refine wB ?_;refine bi (i+1) ⟨cP,?_⟩ zo (cD rfl (cD rfl (cD rfl (cD rfl de)))) aX;intro m hm;rw [aD cP] at hm
   rcases aJ.1 hm with hm|hm
   ·exact hn m hm
   ·rw [an.1 hm];exact hb
 ·refine wB ?_;refine aY R rfl aX ⟨_,rfl,?_,rfl⟩
  have h1:hasB l b=false:=by
   unfold hasB;rw [List.any_eq_false];intro m hm;rw [aG zo] at hn
   simpa using hn m hm
  rw [h1];simp
theorem yU (g:Nat) (v vl:Value) (b:List UInt8) (l:List jI) (hg:Rd R ⟨g,0,none⟩ v) (hr:db R v b) (hv:cF R 2 vl l.length (l.flatMap jI.cells)) (ht:∀ m∈l,db R m.v m.b) (hl:l.length≤100000) :
 Ct prog 280 #[vl,.func (.func 281) #[] #[pt g]] e R (fun v' L'=>v'=.bool (hasB l b)∧R=L'):=by
 refine a8 (args:=[_,_]) func280 rfl ntmps280 results280 rfl ?_;refine wB ?_;refine aZ rfl rfl (E2 R e g v vl b l hg hr hv ht hl) ?_;rintro _ _ ⟨k,rfl,hk,rfl⟩;rw [← hk]
 by_cases h:0≤k
 ·rw [ay h];refine wB ?_;exact aY R rfl aX ⟨rfl,rfl⟩
 ·rw [aq h];refine wB ?_;exact aY R rfl aX ⟨rfl,rfl⟩
theorem KC (g r s w:Nat) (l:List jI) (v:Value) (b:List UInt8) (hr:db R v b) (hl:l.length≤100000) :
 Ct prog 238 #[pt g,v] e (xD g r s w l::R) (fun v' L'=>v'=.bool (hasB l b)∧L'=xD g r s w l::R):=by
 refine a7 (Cc (hr.shape zo) (cB.drop aX)) ?_;rintro ⟨⟨wm,cv,rfl,g3,g4,g5,g6⟩,_⟩;refine q0 fun ad c=>?_
 refine a8 (args:=[_,_]) func238 rfl ntmps238 results238 rfl ?_
 (repeat (refine wA ?_;intros))
 refine aZ rfl rfl (yU _ e _ _ _ b l (bQ .zero rfl) (hr.tail.tail.tail.tail) (bb (.succ (.succ .zero))) (fun m hm=>(eH m.t (aE.2 ⟨m,hm,rfl⟩)).tail.tail.tail) hl) ?_;rintro _ _ ⟨rfl,rfl⟩;refine wB ?_;exact aY (xD g r s w l::R) rfl (cn (cB.drop aX) kH) ⟨rfl,rfl⟩
end Go.Proofs
