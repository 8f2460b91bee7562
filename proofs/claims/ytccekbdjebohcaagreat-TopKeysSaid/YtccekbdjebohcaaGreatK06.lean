/- Part 6 of a proof of this: TopKeys returns true for any arguments; nothing of the old memory is turned. No condition. -/
import Derived.Test.YtccekbdjebohcaaGreatK05
set_option linter.unusedVariables false
set_option linter.unusedSimpArgs false
namespace Go.Proofs
open Go.Bs
theorem Pd {n:Nat} (h:n<4294967296):n=CD (CD n):=by unfold CD;omega
theorem Kk (m r:List UInt8) (hm:m.length≤65535):mD (fB m++r)=m.length∧Kj (fB m++r)=CD m.length∧(fB m++r).drop 8=m++r:=by
 have e1:(fB m++r)=be m.length 4++(be (CD m.length) 4++(m++r)):=by simp [fB]
 have l1:(be m.length 4).length=4:=cX _ _;have l2:(be (CD m.length) 4).length=4:=cX _ _;refine ⟨?_,?_,?_⟩
 ·unfold mD;rw [e1,List.take_append_of_le_length zo,aG zo];exact qR _ zo
 ·unfold Kj;rw [e1,List.drop_append_of_le_length zo,List.drop_of_length_le zo,List.nil_append,List.take_append_of_le_length zo,aG zo];exact qR _ (Hb _)
 ·have d:∀ (x y:List UInt8),x.length=4→(x++y).drop 4=y:=fun x y h=>by rw [List.drop_append_of_le_length zo,List.drop_of_length_le zo,List.nil_append]
  rw [e1,show 8=4+4 from rfl,← List.drop_drop,d _ _ l1,d _ _ l2]
theorem Kl (m r:List UInt8) (hm:m.length≤65535):dA (fB m++r)=(m::(dA r).1,8+m.length+(dA r).2.1,(dA r).2.2):=by
 obtain ⟨h1,h2,h3⟩:=Kk m r hm;have hl:(fB m++r).length=m.length+8+r.length:=by rw [aa,gI]
 have hg:oY (fB m++r):=by
  refine ⟨?_,?_⟩
  ·rw [h1,h2];exact Pd zo
  ·rw [h1];exact hm
 have h4:(fB m++r).drop (8+m.length)=r:=by
  rw [← List.drop_drop,h3,List.drop_append_of_le_length (aS _),List.drop_of_length_le (aS _),List.nil_append]
 rw [sr zo hg (by rw [h1];omega),h1,h3,h4,List.take_append_of_le_length (aS _),aG (aS _)]
theorem Km (l:List (List UInt8)) (r:List UInt8) (hl:∀ m∈l,m.length≤65535):dA (eV l++r)=(l++(dA r).1,(eV l).length+(dA r).2.1,(dA r).2.2):=by
 induction l with
 | nil=>simp [eV]
 | cons m l ih =>
  have e1:eV (m::l)=fB m++eV l:=rfl;rw [e1,aM,Kl m _ (hl m (List.mem_cons_self ..)),ih fun x hx=>hl x (aT _ hx)];simp only [List.cons_append,aa,gI];refine Prod.ext rfl (Prod.ext ?_ rfl);dsimp only
  omega
theorem Kn:dA []=([],0,true):=ni (by simp)
theorem n9 (l:List (List UInt8)) (hl:∀ m∈l,m.length≤65535):dA (eV l)=(l,(eV l).length,true):=by
 have:=Km l [] hl;rw [aK,Kn] at this
 simpa using this
def nk (b:List UInt8) (sy:Nat):eS:=⟨b,sy,1048576,0,false⟩
theorem uj {b:List UInt8} {sy:Nat} (h:b.length≤1048576) (h2:sy≤b.length):(nk b sy).ok:=⟨h,aS _,h2,aH _⟩
theorem Ko {b m:List UInt8} {sy:Nat} (h:b.length+m.length+8≤1048576):(nk b sy).pR (fB m)=0∧(nk b sy).ED (fB m)=nk (b++fB m) sy:=by
 have hr:=gI m;obtain ⟨h1,h2⟩:=eS.Bp (b:=b) (m:=fB m) (sy:=sy) (li:=1048576) zo;exact ⟨h2,h1⟩
theorem Kp (b:List UInt8) (sy:Nat):(nk b sy).CC=0∧(nk b sy).O8=dx b:=by
 simp [eS.CC,eS.O8,eS.pow,nk,dx]
theorem add_plain {b m:List UInt8} {sy:Nat} (h:b.length+m.length+8≤1048576):EH (nk b sy) m=0∧Kh (nk b sy) m=dx (b++fB m)∧∀ k,EI (nk b sy) m k=k+1:=by
 obtain ⟨h1,h2⟩:=Ko (sy:=sy) h;obtain ⟨h3,h4⟩:=Kp (b++fB m) sy;refine ⟨?_,?_,fun k=>?_⟩
 ·unfold EH;rw [aI h1,h2,h3]
 ·unfold Kh;rw [aI h1,h2,h4]
 ·unfold EI;rw [aI h1]
end Go.Proofs
namespace Go.Proofs
attribute [local irreducible] Bs.cD Bs.Do Bs.O Bs.W Bs.Fin Bs.A Bs.Ct Bs.cE Bs.Rd Bs.Sat Bs.cK Bs.Ob Bs.dE Bs.View Bs.cz Bs.Ex Bs.dI Bs.Pu Bs.eY Bs.dN Bs.dZ
open Go.Bs
open Tryz
def oc (n:Nat):List (List UInt8):=(List.range n).map ff
def kl (n:Nat):List UInt8:=eV (oc n)
theorem Bu (n:Nat):(oc n).length=n:=by simp [oc]
theorem ER {n:Nat}:∀ m∈oc n,m.length≤65535:=fun m hm=>by
 obtain ⟨i,_,rfl⟩:=aE.1 hm
 simp [ff]
theorem Hm (n:Nat):oc (n+1)=oc n++[ff n]:=by simp [oc,List.range_succ]
theorem IS (n:Nat):kl (n+1)=kl n++fB (ff n):=by rw [kl,Hm,n8];rfl
theorem oZ:∀ n,(kl n).length=9*n
 | 0=>rfl
 | n+1=>by rw [IS,aa,oZ n,gI];simp [ff];omega
theorem IT (n:Nat):dA (kl n)=(oc n,9*n,true):=by
 have h:=n9 (oc n) ER;rw [show eV (oc n)=kl n from rfl,oZ] at h
 exact h
theorem MN {n:Nat} (h:n≤16):EN (oc n):=⟨by rw [Bu];exact h,fun i hi=>by simp [oc]⟩
def eo (n L:Nat):eS:=⟨kl n,9*n,L,0,false⟩
theorem uk {n L:Nat} (h:9*n≤L) (hL:L≤1048576):(eo n L).ok:=⟨by simp only [eo,oZ];omega,hL,by simp only [eo,oZ];omega,by simp [eo]⟩
theorem MO (n L:Nat):Bt (eo n L)=0∧ui (eo n L)=eo n L:=by
 have h:(dA (eo n L).b).2.1=(eo n L).b.length:=by simp only [eo,IT,oZ]
 exact ⟨by unfold Bt;rw [aI h],by unfold ui;rw [aI h]⟩
theorem wJ (R:List cJ) (e:World) (gd n L:Nat) (hn:n≤16) (h:9*n≤L) (hL:L≤1048576) :
 Ct prog 64 #[pt gd] e (de gd (eo n L)::R) (fun v' L'=>∃ gb gj:Nat,v'=.tuple #[pt gb,.int .i64 0]∧L'=lF gb gj n::jd gj gd n::de gd (eo n L)::R) :=
 (Hj R e gd (eo n L) (uk h hL)).mono fun v' L' h=>by
  have ho:dA (eo n L).b=(oc n,9*n,true):=IT n;obtain ⟨h1,h2⟩:=MO n L;rcases h with ⟨a,_⟩|⟨_,a,_⟩|⟨_,_,a,_⟩|⟨_,_,_,gb,gj,b1,b2⟩
  ·rw [ho] at a;cases a
  ·exact absurd h1 a
  ·rw [ho] at a;exact absurd (MN hn) a
  ·rw [ho,h2] at b2
   dsimp only at b2
   rw [Bu] at b2
   exact ⟨gb,gj,b1,b2⟩
theorem Kq {n L:Nat} (h:9*n+9≤L):EH (eo n L) (ff n)=0∧Kh (eo n L) (ff n)=eo (n+1) L∧∀ j,EI (eo n L) (ff n) j=j+1:=by
 have hl:(fB (ff n)).length=9:=by rw [gI];rfl
 obtain ⟨h1,h2⟩:=eS.Bp (b:=kl n) (m:=fB (ff n)) (sy:=9*n) (li:=L) (by rw [oZ,hl];exact h);have e1:(eo n L).pR (fB (ff n))=0:=h2;have e2:(eo n L).ED (fB (ff n))=⟨kl n++fB (ff n),9*n,L,0,false⟩:=h1;refine ⟨?_,?_,fun j=>?_⟩
 ·unfold EH;rw [aI e1,e2];rfl
 ·unfold Kh;rw [aI e1,e2,← IS];simp only [eS.O8,eS.pow,eo,oZ,Nat.lt_irrefl,gt_iff_lt,if_false]
  rfl
 ·unfold EI;rw [aI e1]
theorem wK (R:List cJ) (e:World) (gb gj gd n L:Nat) (hn:n<16) (h:9*n+9≤L) (hL:L≤1048576) :
 Ct prog 112 #[pt gb] e (lF gb gj n::jd gj gd n::de gd (eo n L)::R) (fun v' L'=>v'=.tuple #[.int .i64 n,.int .i64 0]∧L'=lF gb gj (n+1)::jd gj gd (n+1)::de gd (eo (n+1) L)::R):=by
 obtain ⟨a1,a2,a3⟩:=Kq h;refine (yG R e gb gj gd n n (eo n L) (uk zo hL) zo zo).mono ?_;rintro _ _ ⟨rfl,rfl⟩;have IH:¬ 16≤n:=by omega
 simp only [takeN,EP,IN,IQ,IR,aB IH,a1,a2,a3,if_true];refine ⟨?_,?_⟩<;>first|rfl|trivial
theorem wL (R:List cJ) (e:World) (gb gj gd L:Nat) (h0:144≤L) (hL:L≤1048576) :
 Ct prog 112 #[pt gb] e (lF gb gj 16::jd gj gd 16::de gd (eo 16 L)::R) (fun v' L'=>v'=.tuple #[.int .i64 0,.int .i64 23]∧L'=lF gb gj 16::jd gj gd 16::de gd (eo 16 L)::R):=by
 refine (yG R e gb gj gd 16 16 (eo 16 L) (uk zo hL) zo zo).mono ?_;rintro _ _ ⟨rfl,rfl⟩;exact ⟨rfl,rfl⟩
end Go.Proofs
namespace Go.Bs
section
variable {κ:Type} [DecidableEq κ]
def uo (k:κ):List (κ × Value)→Nat→Option (Nat × Value)
 | [],_=>none
 | p::l,j=>if p.1=k then some (j,p.2) else uo k l (j+1)
def gJ (k:κ):List (κ × Value)→Option Value
 | []=>none
 | p::l=>if p.1=k then some p.2 else gJ k l
def lG (k:κ) (v:Value):List (κ × Value)→List (κ × Value)
 | []=>[(k,v)]
 | p::l=>if p.1=k then (k,v)::l else p::lG k v l
theorem Bv {k:κ} {v:Value}:∀ {l:List (κ × Value)} {j:Nat},uo k l j=none→gJ k l=none∧lG k v l=l++[(k,v)]
 | [],_,_=>⟨rfl,rfl⟩
 | p::l,j,h=>by
  unfold uo at h
  by_cases hk:p.1=k
  ·rw [aI hk] at h;cases h
  ·rw [aB hk] at h
   obtain ⟨h1,h2⟩:=Bv (v:=v) h;unfold gJ lG;rw [aB hk,aB hk,h2];exact ⟨h1,rfl⟩
theorem Bw {k:κ} {v:Value}:∀ {l:List (κ × Value)} {j i:Nat} {u:Value},uo k l j=some (i,u)→∃ n,i=j+n∧gJ k l=some u∧lG k v l=l.set n (k,v)∧∃ h:n<l.length,(l[n]'h).1=k
 | [],_,_,_,h=>by cases h
 | p::l,j,i,u,h=>by
  unfold uo at h
  by_cases hk:p.1=k
  ·rw [aI hk] at h
   cases h
   refine ⟨0,rfl,by unfold gJ;rw [aI hk],by unfold lG;rw [aI hk];rfl,by simp,hk⟩
  ·rw [aB hk] at h
   obtain ⟨n,h1,h2,h3,h4,h5⟩:=Bw (v:=v) h;refine ⟨n+1,by omega,by unfold gJ;rw [aB hk];exact h2,by unfold lG;rw [aB hk,h3];rfl,by rw [aN];omega,h5⟩
theorem IU {k:κ}:∀ {l:List (κ × Value)} {j:Nat},(uo k l j).map (·.2)=gJ k l
 | [],_=>rfl
 | p::l,j=>by
  unfold uo gJ
  by_cases hk:p.1=k
  ·rw [aI hk,aI hk];rfl
  ·rw [aB hk,aB hk];exact IU
class Hn (P:Program) (t:TypeId) (key:κ→Value) (z:outParam Value):Prop where
 ex:∃ kt et,P.underlying t=some (.map kt et)∧(∀ w,(zeroValue et).run P w=.ok z w)∧(∀ b k w,(Instr.checkKey b 10000 kt (key k)).run P w=.ok () w) ∧
  (∀ k (l:List MapEntry) (mS:List (κ × Value)) w,l.map (fun e=>(e.key,e.val))=mS.map (fun p=>(key p.1,p.2))→(Instr.findKey kt (key k) l).run P w=.ok (uo k mS 0) w)∧∀ k,Instr.sameBits 10000 (key k) (key k)=true
def iC (key:κ→Value) (g:Nat) (mS:List (κ × Value)):cJ:=fun h=>∃ (es:Array MapEntry) (clock:Nat),h g=some (.map es clock)∧es.toList.map (fun e=>(e.key,e.val))=mS.map (fun p=>(key p.1,p.2))
theorem qv {key:κ→Value} {d:TypeDesc} (hs:∀ a b,Instr.sameNow d (key a) (key b)=some (decide (a=b))) (k:κ):∀ (l:List MapEntry) (mS:List (κ × Value)) (j:Nat),l.map (fun e=>(e.key,e.val))=mS.map (fun p=>(key p.1,p.2))→Instr.findNow d (key k) l j=some (uo k mS j)
 | [],mS,j,h=>by
  cases mS with
  | nil=>rfl
  | cons _ _=>simp at h
 | e::l,mS,j,h=>by
  cases mS with
  | nil=>simp at h
  | cons p mS =>
   simp only [List.map_cons,List.cons.injEq,Prod.mk.injEq] at h
   obtain ⟨⟨h1,h2⟩,h3⟩:=h;unfold Instr.findNow uo;rw [h1,hs]
   by_cases hk:k=p.1
   ·rw [ay hk,aI hk.symm,h2]
   ·rw [aq hk,aB (fun q=>hk q.symm)];exact qv hs k l mS (j+1) h3
theorem Sd {P:Program} {t kt et:TypeId} {z:Value} (h1:P.underlying t=some (.map kt et)) (h2:P.underlying kt=some .string) (h3:∀ w,(zeroValue et).run P w=.ok z w):Hn P t (fun l:List UInt8=>Value.string (str l)) z :=
 ⟨kt,et,h1,h3,fun b k w=>MapKept.run_checkKey (k:=.string (str k)) h2 trivial b 9999,fun k l mS w h=>MapKept.run_findKey h2 (qv (key:=fun l:List UInt8=>Value.string (str l)) (d:=.string) (fun a b=>by
  have:(str a == str b)=decide (a=b):=by
   by_cases h:a=b
   ·subst h;rw [ay rfl];exact (MapKept.bytes_beq _ _).2 rfl
   ·rw [aq h]
    cases hb:(str a == str b) with
    | false=>rfl
    | true=>exact absurd (by
     have:=(MapKept.bytes_beq _ _).1 hb;have h4:=congrArg (fun x:ByteArray=>x.data.toList) this
     simpa [str] using h4) h
  simp [Instr.sameNow,this]) k l mS 0 h),fun k=>by
  show Instr.sameBits 10000 (.string (str k)) (.string (str k))=true
  simp only [Instr.sameBits];exact (MapKept.bytes_beq _ _).2 rfl⟩
theorem Se {P:Program} {t kt et:TypeId} {z:Value} (h1:P.underlying t=some (.map kt et)) (h2:P.underlying kt=some (.int .i64)) (h3:∀ w,(zeroValue et).run P w=.ok z w):Hn P t (fun n:Int=>Value.int .i64 n) z :=
 ⟨kt,et,h1,h3,fun b k w=>MapKept.run_checkKey (k:=.int .i64 k) h2 rfl b 9999,fun k l mS w h=>MapKept.run_findKey h2 (qv (key:=fun n:Int=>Value.int .i64 n) (d:=.int .i64) (fun a b=>by
  simp [Instr.sameNow]
  by_cases h:a=b<;>simp [h]) k l mS 0 h),fun k=>by
  show Instr.sameBits 10000 (.int .i64 k) (.int .i64 k)=true
  simp [Instr.sameBits]⟩
end
section
variable {P:Program} {N:Fr} {Q:fO} {σ:Env} {e:World} {L:List cJ} {all:Array Oper} {rest:List Oper}
variable {d:Nat} {op:Op} {ty:TypeId} {pos:String} {af:Array Edge} {gd:Option (Nat × Bool)} {K:Env→List cJ→Prop} {x y z:Operand} {t:TypeId}
theorem Do.qw {κ:Type} (key:κ→Value) (hd:Nat.blt d N.n=true) (k:∀ g,K ((d,.map (some g))::σ) (iC key g []::L)):Do P N ⟨some d,.makeMap t none,ty,pos,af,gd⟩ K σ e L:=fun a w ha hs K' Q' hK =>
 eZ (w':=w.alloc (.map #[] 0)) (v:=.map (some w.heap.size)) (by
  have h:(Instr.makeMap t none).run P w=.ok (.map (some w.heap.size)) (w.alloc (.map #[] 0)):=rfl
  simp [execOp,h]) (hK _ _ _ _ (k _) (ha.put hd _) ((hs.alloc _).cL fun _=>mw fun _ h=>⟨#[],0,h,rfl⟩))
variable {κ:Type} [DecidableEq κ] {key:κ→Value}
theorem cD.kE {g:Nat} {k:κ} {zz:Value} {mS:List (κ × Value)} {R:List cJ} [m:Hn P t key zz] (hx:ev σ x=some (.map (some g))) (hy:ev σ y=some (key k)) (p:cR L (iC key g mS) R) :
 cD P N (.lookup t x y true) ty (.tuple #[(gJ k mS).getD zz,.bool (gJ k mS).isSome]) σ e L:=fun a w ha hs _ _ _ _=>by
 obtain ⟨kt,et,hm,hz,Gd,hfk,VH⟩:=m.ex;obtain ⟨h1,h2,ap,l1,l2,⟨es,clock,hg,J8⟩,hR⟩:=(hs.cL p.out).2.2.2;have hb:w.heap[g]?=some (.map es clock):=l1 g _ hg;have hf:=hfk k es.toList mS w J8;have he:=IU (k:=k) (l:=mS) (j:=0)
 have hr:(Instr.lookup t (.map (some g)) (key k) true).run P w=.ok (.tuple #[(gJ k mS).getD zz,.bool (gJ k mS).isSome]) w:=by
  unfold Instr.lookup
  cases hp:uo k mS 0 with
  | none =>
   rw [hp] at hf he
   rw [← he]
   simp [run_underlying hm,MapKept.run_getObj_map hb,Gd,hf,hz]
  | some q =>
   obtain ⟨i,v⟩:=q;rw [hp] at hf he
   rw [← he]
   simp [run_underlying hm,MapKept.run_getObj_map hb,Gd,hf]
 simp [execOp,ha.ev hx,ha.ev hy,hr]
theorem Do.jW {g:Nat} {k:κ} {v zz:Value} {mS:List (κ × Value)} {R:List cJ} [m:Hn P t key zz] (hx:ev σ x=some (.map (some g))) (hy:ev σ y=some (key k)) (hz:ev σ z=some v) (p:cR L (iC key g mS) R) (kk:K σ (iC key g (lG k v mS)::R)) :
 Do P N ⟨none,.mapUpdate t x y z,ty,pos,af,gd⟩ K σ e L:=fun a w ha hs K' Q' hK=>by
 obtain ⟨kt,et,hm,hz0,Gd,hfk,VH⟩:=m.ex;have fR:=hs.cL p.out;obtain ⟨h1,h2,ap,l1,l2,⟨es,clock,hg,J8⟩,hR⟩:=id fR.2.2.2;have hb:w.heap[g]?=some (.map es clock):=l1 g _ hg
 have jL:∀ (VI:Array MapEntry) (CG:Nat),VI.toList.map (fun e=>(e.key,e.val))=(lG k v mS).map (fun p=>(key p.1,p.2))→Sat e (iC key g (lG k v mS)::R) { w with heap:=w.heap.setIfInBounds g (.map VI CG) }:=fun VI CG aaD=>by
  have cO:g<w.heap.size:=(Array.getElem?_eq_some_iff.1 hb).1;refine fR.change rfl rfl rfl fun h1 hle hA=>?_
  obtain ⟨es2,aaE,UL,_⟩:=hA;refine ⟨fun b=>if b=g then some (.map VI CG) else none,?_,⟨VI,CG,by simp,aaD⟩,?_,?_⟩
  ·intro b o tc
   by_cases eb:b=g
   ·subst eb;simp only [if_true] at tc;rw [← tc];simp [hp,cO]
   ·simp [eb] at tc
  ·intro b o tc hn
   by_cases eb:b=g
   ·subst eb;rw [UL] at hn;cases hn
   ·simp [eb] at tc
  ·intro b hn o ho;have:b≠g:=by rintro rfl;rw [UL] at hn;cases hn
   simp only [hp] at ho ⊢
   simp [Array.getElem?_setIfInBounds_ne this.symm,ho]
 have hex:∀ w',(Instr.mapUpdate t (.map (some g)) (key k) v).run P w=.ok () w'→K' (a.put none undef) w' →
  Oper.wp P ⟨none,.mapUpdate t x y z,ty,pos,af,gd⟩ a w K' Q':=fun w' hr hk =>
  l5 (w':=w') (by simp [execOp,ha.ev hx,ha.ev hy,ha.ev hz,hr]) hk
 have hf:=hfk k es.toList mS w J8
 cases hp:uo k mS 0 with
 | none =>
  rw [hp] at hf
  refine hex { w with heap:=w.heap.setIfInBounds g (.map (es.push { key:=key k,val:=v,born:=clock }) (clock+1)) } ?_ (hK _ _ _ _ kk ha ?_)
  ·simp [Instr.mapUpdate,run_underlying hm,MapKept.run_getObj_map hb,Gd,hf,MapKept.run_setObj_map _ hb]
  ·refine jL _ _ ?_;rw [(Bv (v:=v) hp).2]
   simp [J8]
 | some q =>
  obtain ⟨i,u⟩:=q;rw [hp] at hf
  obtain ⟨n,hi,_,yH,cO,hkn⟩:=Bw (v:=v) hp;rw [aC] at hi
  subst hi;have hlen:es.toList.length=mS.length:=by have:=congrArg List.length J8;simpa using this
  have Ub:∃ e',es[i]?=some e'∧e'.key=key k:=by
   have lB:i<es.size:=by rw [Array.length_toList] at hlen;omega
   refine ⟨es[i],Array.getElem?_eq_getElem lB,?_⟩;have:=congrArg (fun l=>l[i]?) J8;simp only [aL,Array.getElem?_toList,Array.getElem?_eq_getElem lB,ab cO,Option.map_some,Option.some.injEq,Prod.mk.injEq] at this
   rw [this.1,hkn]
  obtain ⟨e',Ub,hek⟩:=Ub;refine hex { w with heap:=w.heap.setIfInBounds g (.map (es.modify i fun e=>{ e with key:=key k,val:=v }) clock) } ?_ (hK _ _ _ _ kk ha ?_)
  ·simp [Instr.mapUpdate,run_underlying hm,MapKept.run_getObj_map hb,Gd,hf,Ub,hek,Instr.keyThatStays,VH,MapKept.run_setObj_map _ hb]
  ·refine jL _ _ ?_;rw [yH];apply List.ext_getElem?;intro j;have Gb:=congrArg (fun l=>l[j]?) J8;simp only [aL,Array.getElem?_toList,Array.getElem?_modify,List.getElem?_set] at Gb ⊢
   by_cases hj:i=j
   ·subst hj;rw [aI rfl,aI rfl,aI cO,Ub]
    rfl
   ·rw [aB hj,aB hj];exact Gb
end
end Go.Bs
namespace Go.Proofs
open Go.Bs
abbrev du:=List UInt8
def rz (l:List du):du:=(l.map enc).flatten
def mT (l:List du):du:=be l.length 4++rz l
theorem wM (ts:List ej):jn ts=rz (ts.map (·.2)):=by
 unfold jn rz;rw [List.map_map];rfl
theorem yI {l:List du} {n:Nat} (h:∀ b∈l,b.length≤n):(rz l).length≤l.length*(n+2):=by
 induction l with
 | nil=>simp [rz]
 | cons b l ih =>
  have h1:=ih fun x hx=>h x (aT _ hx)
  have h2:=h b (List.mem_cons_self ..)
  show (enc b++rz l).length≤_
  rw [aa,iy,aN,Nat.add_mul]
  omega
def fg (old:List du):List du→List du→List du
 | fresh,[]=>fresh
 | fresh,b::l=>if b∈old++fresh then fg old fresh l else fg old (fresh++[b]) l
def lP (l:List du) (b:du):Nat:=l.idxOf b
theorem pa {old:List du}:∀ {l fresh:List du},∃ m,fg old fresh l=fresh++m
 | [],fresh=>⟨[],by simp [fg]⟩
 | b::l,fresh=>by
  unfold fg
  split
  ·exact pa
  ·obtain ⟨m,h⟩:=pa (old:=old) (l:=l) (fresh:=fresh++[b]);exact ⟨b::m,by rw [h];simp⟩
theorem su {old:List du}:∀ {l fresh:List du} {b:du},b∈l→b∈old++fg old fresh l
 | x::l,fresh,b,h=>by
  unfold fg;rcases aQ.1 h with rfl|h
  ·split
   ·rename_i h1;obtain ⟨m,hm⟩:=pa (old:=old) (l:=l) (fresh:=fresh);rw [hm,← aM];exact List.mem_append_left _ h1
   ·obtain ⟨m,hm⟩:=pa (old:=old) (l:=l) (fresh:=fresh++[b]);rw [hm]
    simp
  ·split
   ·exact su h
   ·exact su h
theorem pb {old:List du}:∀ {l fresh:List du},(old++fresh).Nodup→(old++fg old fresh l).Nodup
 | [],fresh,h=>by simpa [fg] using h
 | b::l,fresh,h=>by
  unfold fg
  split
  ·exact pb h
  ·rename_i hb;refine pb ?_;rw [← aM];exact List.nodup_append.2 ⟨h,by simp,fun a ha c hc=>by rw [an.1 hc];rintro rfl;exact hb ha⟩
theorem sw {old:List du}:∀ {l fresh:List du},(fg old fresh l).length≤fresh.length+l.length
 | [],fresh=>by simp [fg]
 | b::l,fresh=>by
  unfold fg
  split
  ·have:=sw (old:=old) (l:=l) (fresh:=fresh);rw [aN];omega
  ·have:=sw (old:=old) (l:=l) (fresh:=fresh++[b]);rw [aa,aj] at this;rw [aN];omega
theorem wN {l m:List du} {b:du} (h:b∈l):lP (l++m) b=lP l b:=by unfold lP;rw [List.idxOf_append,aI h]
theorem MP {l m:List du} {b:du} (h:¬ b∈l):lP (l++b::m) b=l.length:=by unfold lP;rw [List.idxOf_append,aB h];simp
def ic (l:List du) (jC:Nat):List (du × Value):=match l with
 | []=>[]
 | b::r=>(b,.int .i64 (jC:Int))::ic r (jC+1)
theorem ka {b:du}:∀ {l:List du} {k:Nat},gJ b (ic l k)=if b∈l then some (.int .i64 ((k+lP l b:Nat):Int)) else none
 | [],k=>by simp [ic,gJ]
 | x::l,k=>by
  unfold ic gJ
  by_cases h:x=b
  ·subst h;rw [aI rfl,aI (List.mem_cons_self ..)]
   simp [lP]
  ·rw [aB h,ka];have hb:(x == b)=false:=by simpa using h
   by_cases hm:b∈l
   ·rw [aI hm,aI (aT _ hm)];unfold lP;rw [List.idxOf_cons,hb];simp only [cond_false];rw [show k+1+List.idxOf b l=k+(List.idxOf b l+1) by omega]
   ·rw [aB hm,aB (fun q=>by
     rcases aQ.1 q with rfl|q;· exact h rfl
     ·exact hm q)]
theorem sx {b:du}:∀ {l:List du} {k:Nat},¬ b∈l→lG b (.int .i64 ((k+l.length:Nat):Int)) (ic l k)=ic (l++[b]) k
 | [],k,_=>by simp [ic,lG]
 | x::l,k,h=>by
  have hx:¬ x=b:=fun q=>h (by rw [q];exact List.mem_cons_self ..)
  have ih:=sx (l:=l) (k:=k+1) (fun q=>h (aT _ q))
  show lG b _ ((x,.int .i64 (k:Int))::ic l (k+1))=(x,.int .i64 (k:Int))::ic (l++[b]) (k+1)
  unfold lG;rw [aB hx,← ih,aN];rw [show k+(l.length+1)=k+1+l.length by omega]
structure fM where
 recs:List (List du)
 keys:Nat
 last:Option jV
def fM.cF (s:fM):List du:=s.recs.flatten
def fM.jb (s:fM):du:=eV (s.recs.map mT)
def k7:jV:=⟨⟨0,[]⟩,⟨0,[],[]⟩⟩
def fM.dC (s:fM):jV:=s.last.getD k7
structure fM.ok (s:fM):Prop where
 full:∀ r∈s.recs,r≠[]
 nodup:s.cF.Nodup
 size:s.cF.length≤256
 short:∀ b∈s.cF,b.length≤200
 keys:s.keys≤16
 last:∀ x,s.last=some x→x.dc.right∧x.sig.right∧x.dc.size≤s.cF.length
end Go.Proofs
namespace Go.Proofs
attribute [local irreducible] Bs.cD Bs.Do Bs.O Bs.W Bs.Fin Bs.A Bs.Ct Bs.cE Bs.Rd Bs.Sat Bs.cK Bs.Ob Bs.dE Bs.View Bs.cz Bs.Ex Bs.dI Bs.Pu Bs.eY Bs.dN Bs.dZ
open Go.Bs
open Tryz
theorem Ho (R:List cJ) (e:World) (v:Value) (l:List du) (hv:db R v (mT l)) (h0:l≠[]) (hl:l.length≤1000) (hb:∀ b∈l,b.length≤200) :
 Ct prog 68 #[v] e R (fun v' L'=>∃ ad c ts,v'=.tuple #[.slice ad ts.length c,.bool true]∧ts.map (·.2)=l∧L'=cV (.slice ad ts.length c) ts::cH ts::R):=by
 have F8:=yI hb;have Sf:(mT l).length≤1000000:=by unfold mT;rw [aa,cX];omega
 have MQ:0<l.length:=List.length_pos_iff.2 h0;refine a8 (args:=[_]) func68 rfl ntmps68 results68 rfl ?_;refine wB ?_;refine aZ rfl rfl (jv _ e v (mT l) hv zo) ?_;rintro _ _ ⟨gr,rfl,rfl⟩;unfold mT;refine wB ?_;refine aZ rfl rfl (tD _ e gr l.length (rz l) zo) ?_;rintro _ _ ⟨rfl,rfl⟩;refine wB ?_;refine bq (ι:=Nat × List ej × Option Addr × Nat) (fun i=>[(4,pt gr),(5,.slice i.2.2.1 i.2.1.length i.2.2.2),(6,.int .u32 ((l.length - i.1:Nat):Int))]) (fun i=>Reader gr ⟨rz (l.drop i.1),false⟩::cV (.slice i.2.2.1 i.2.1.length i.2.2.2) i.2.1::cH i.2.1::R) (fun i=>i.1≤l.length∧i.2.1.map (·.2)=l.take i.1) (fun i=>l.length - i.1) (0,[],none,0) ⟨aH _,by simp⟩ zS (bh (cj dK (dv ez 1))) ?_;rintro ⟨i,us,ad,c⟩ ⟨hi,gF⟩;dsimp only at hi gF ⊢
 have Er:us.length=i:=by have:=congrArg List.length gF;rw [ae,aF] at this;omega
 by_cases cO:i<l.length
 rotate_left
 ·have JW:i=l.length:=by omega
  rw [aG zo] at gF
  rw [List.drop_eq_nil_of_le zo,JW,Nat.sub_self];refine wB ?_;refine aZ rfl rfl (yc _ e gr (rz [])) ?_;rintro _ _ ⟨rfl,rfl⟩;rw [ay (show rz []=[] from rfl)];refine wB ?_;exact aY (cV (.slice ad us.length c) us::cH us::R) rfl zE ⟨ad,c,us,rfl,gF,rfl⟩
 have Ef:rz (l.drop i)=enc (l[i]'cO)++rz (l.drop (i+1)):=by rw [List.drop_eq_getElem_cons cO];rfl
 have Aa:=hb _ (aA cO)
 have pc:(rz (l.drop (i+1))).length≤300000:=by
  have:=yI (l:=l.drop (i+1)) (n:=200) (fun b tc=>hb _ (aV tc));rw [aO] at this
  omega
 have ky:∀ w:Value,(us++[(w,l[i]'cO)]).map (·.2)=l.take (i+1):=fun w=>by
  rw [ah,gF,aD cO]
  rfl
 have l3:((l.length - i:Nat):Int) - 1=((l.length - (i+1):Nat):Int):=by omega
 rw [Ef]
 generalize l[i]'cO=b at *
 refine wB ?_;refine aZ rfl rfl (vi _ e gr _) ?_;rintro _ _ ⟨rfl,rfl⟩;refine wB ?_;refine aZ rfl rfl (IE _ e gr b (rz (l.drop (i+1))) 65535 zo zo (by rw [aa,iy];omega)) ?_;rintro _ _ ⟨eJ,c3,rfl,rfl⟩
 (repeat (refine wA ?_;intros))
 refine bC (bo rfl rfl rfl zP (bB .zero rfl zl) rfl rfl zO zm zo fun jA c4 _=>?_)
 refine wB ?_;rw [l3,wrap_u32 zo zo];refine bi (i+1,us++[(.slice eJ b.length c3,b)],jA,c4) ⟨cO,ky _⟩ zd ?_ ?_
 ·dsimp only;rw [aa,aj];exact zS
 ·exact cj (show cz _ (Reader gr ⟨rz (l.drop (i+1)),false⟩::dE ez 1 (.slice jA (us.length+1) c4) (us.length+1) (us.map (·.1)++[.slice eJ b.length c3])::cS (.slice eJ b.length c3) b::cH us::R) from zE) (bh fZ)
abbrev yJ:TypeId:=143
abbrev nB:List UInt8→Value:=fun l=>.string (str l)
instance aaF:Hn prog 141 nB (.int .i64 0):=Sd underlying141 underlying9 zeroValue3
theorem jo {ts:List ej} {v:Value} {b:du} {R:List cJ}:cz (cS v b::cH ts::R) (cH (ts++[(v,b)])::R) :=
 cj (bw (.succ .zero) aX) (cj (bh (ju (a:=(v,b)))) eL)
structure yK where
 ts:List ej
 us:List ej
 ai:Option Addr
 ci:Nat
 al:Option Addr
 cl:Nat
abbrev uu (vj vb vs vp:Value) (gm:Nat) (rest:List Value) (q:yK):List Value:=vj::vb::vs::vp::.slice q.ai q.ts.length q.ci::.slice q.al q.us.length q.cl::.map (some gm)::rest
abbrev kF (g:Nat) (vj vb vs vp:Value) (gm:Nat) (rest:List Value) (q:yK) (R:List cJ):List cJ:=cK g (uu vj vb vs vp gm rest q) yJ (0,0)::cV (.slice q.ai q.ts.length q.ci) q.ts::cV (.slice q.al q.us.length q.cl) q.us::iC nB gm (ic (q.ts.map (·.2)) 0)::R
theorem By (R:List cJ) (e:World) (g:Nat) (vj vb vs vp:Value) (gm:Nat) (c1 c2 c3 c4 c5 c6:Value) (q:yK) (v:Value) (ls:List ej) (hv:cE R 1 v ls.length (ls.map (·.1))) (ht:dQ R ls) (hn:(q.ts.map (·.2)++ls.map (·.2)).Nodup) (hq:q.us.length=q.ts.length) (hl:q.ts.length+ls.length≤256) (hb:∀ a∈ls,a.2.length≤200) :
 Ct prog 69 #[pt g,v] e (kF g vj vb vs vp gm [c1,c2,c3,c4,c5,c6] q R) (fun v' L'=>v'=.bool true∧∃ (q2:yK) (xh xz:List ej),q2.ts=q.ts++xh∧q2.us=q.us++xz∧xh.map (·.2)=ls.map (·.2)∧xz.map (·.2)=(ls.map (·.2)).map cY∧L'=kF g vj vb vs vp gm [c1,c2,c3,c4,c5,c6] q2 (cH xh::cH xz::R)):=by
 refine a7 ((hv.cL (show cz (kF g vj vb vs vp gm [c1,c2,c3,c4,c5,c6] q R) R from zE)).shape zo) ?_;rintro ⟨⟨wu,cap,rfl,h3,h4,h5,h6⟩,_⟩;simp only [maxLen] at h4
 refine a8 (args:=[_,_]) func69 rfl ntmps69 results69 rfl ?_;refine wB ?_;refine bq (ι:=Nat × yK × List ej × List ej) (fun i=>[(0,pt g),(9,.slice wu ls.length cap),(10,.int .i64 (ls.length:Int)),(11,.int .i64 (i.1:Int))]) (fun i=>kF g vj vb vs vp gm [c1,c2,c3,c4,c5,c6] i.2.1 (cH i.2.2.1::cH i.2.2.2::R)) (fun i=>i.1≤ls.length∧i.2.1.ts=q.ts++i.2.2.1∧i.2.1.us=q.us++i.2.2.2∧i.2.2.1.map (·.2)=(ls.map (·.2)).take i.1∧i.2.2.2.map (·.2)=((ls.map (·.2)).take i.1).map cY) (fun i=>ls.length - i.1) (0,q,[],[]) ⟨aH _,by simp,by simp,by simp,by simp⟩ zS (cj dK (cj dK zE)) ?_;rintro ⟨i,p,xh,xz⟩ ⟨hi,fy,gF,An,Hp⟩;dsimp only at hi fy gF An Hp ⊢
 by_cases cO:i<ls.length
 rotate_left
 ·rw [aG (by rw [ae];omega)] at An Hp
  refine wB ?_;exact aY _ rfl aX ⟨rfl,p,xh,xz,fy,gF,An,Hp,rfl⟩
 rcases h6 with h6|⟨gl,ol,rfl⟩
 ·omega
 have Er:xh.length=i:=by have:=congrArg List.length An;rw [ae,aF,ae] at this;omega
 have aaG:xz.length=i:=by have:=congrArg List.length Hp;rw [ae,ae,aF,ae] at this;omega
 have hr:Rd R ⟨gl,ol+i,none⟩ (ls[i]'cO).1:=hv.elem (by rw [aL,ab cO];rfl);have jt:=ht _ (aA cO);have Aa:=hb _ (aA cO)
 have Bc:(ls.map (·.2)).take (i+1)=(ls.map (·.2)).take i++[(ls[i]'cO).2]:=by
  rw [aD (by rw [ae];exact cO),List.getElem_map]
 have Gr:¬ (ls[i]'cO).2∈p.ts.map (·.2):=fun h=>by
  rw [fy,ah,An] at h
  have hs:ls.map (·.2)=(ls.map (·.2)).take i++(ls[i]'cO).2::(ls.map (·.2)).drop (i+1):=by
   conv=>lhs;rw [← List.take_append_drop i (ls.map (·.2))]
   rw [List.drop_eq_getElem_cons (by rw [ae];exact cO),List.getElem_map]
  rw [hs,← aM] at hn
  exact (List.nodup_append.1 hn).2.2 _ h _ (List.mem_cons_self ..) rfl
 have hlen:(p.ts.map (·.2)).length=p.ts.length:=ae ..;have Cm:p.ts.length=q.ts.length+i:=by rw [fy,aa,Er]
 have aeX:p.us.length=q.ts.length+i:=by rw [gF,aa,aaG,hq]
 generalize ls[i]'cO=y at *
 obtain ⟨yv,b⟩:=y;dsimp only at hr jt Aa Bc Gr
 refine wB ?_;refine bk (id:=4) [11] (kF g vj vb vs vp gm [c1,c2,c3,c4,c5,c6] p (cH xh::cH xz::R)) mixed ?_;have hb0:∀ A B C D E F,db (A::B::C::D::E::F::R) yv b:=fun A B C D E F=>jt.tail.tail.tail.tail.tail.tail
 (refine tM 0 ?_;refine tN 1 ?_;refine tF 2 ?_;refine tL 3 ?_;refine tM 4 ?_;refine tk 5 _ rfl (b8 rfl zB) ?_)
 refine tk 6 _ rfl (cD.kE (key:=nB) (k:=b) rfl rfl zP) ?_;rw [ka,aB Gr]
 (refine tM 7 ?_;refine tk 8 _ rfl (bl rfl rfl) ?_;refine tk 9 _ rfl (bl rfl rfl) ?_;refine tA 10 ?_;(refine tO 11 ?_;refine dV (bj rfl) ?_))
 refine bf zK ?_;refine wB ?_;refine bk (id:=7) [11] (kF g vj vb vs vp gm [c1,c2,c3,c4,c5,c6] p (cH xh::cH xz::R)) mixed ?_
 (refine tM 0 ?_;refine tN 1 ?_;refine tF 2 ?_;refine tL 3 ?_;refine tM 4 ?_;refine tk 5 _ rfl (b8 rfl zB) ?_;refine tM 6 ?_;refine tN 7 ?_;refine tF 8 ?_;refine tL 9 ?_;refine tk 10 _ rfl (bM rfl) ?_)
 refine tO 11 ?_;refine Do.jW (key:=nB) (k:=b) rfl rfl rfl zP ?_;refine ⟨zN,?_⟩;have yH:=sx (l:=p.ts.map (·.2)) (k:=0) Gr;rw [aC,ae] at yH
 rw [yH];refine bf zK ?_;refine wB ?_;refine W.fe [(0,pt g),(6,yv),(9,.slice (some ⟨gl,ol,none⟩) ls.length cap),(10,.int .i64 (ls.length:Int)),(11,.int .i64 (i:Int))] zS ?_;refine bk (id:=8) [9,10,11] (cK g (uu vj vb vs vp gm [c1,c2,c3,c4,c5,c6] p) yJ (0,0)::R) mixed ?_
 (refine tM 0 ?_;refine tM 1 ?_;refine tN 2 ?_;refine tF 3 ?_;refine tL 4 ?_;refine tM 5 ?_)
 refine tO 6 ?_;refine bg rfl rfl (dw _ e yv b (jt.cL zE) zo) ?_;rintro _ _ ⟨ef,k1,rfl,rfl⟩;refine ⟨fun _=>zE,?_⟩;refine tO 7 ?_;refine bE (n:=1) (z:=nY) (cs:=[.slice ef b.length k1]) rfl rfl rfl rfl zQ rfl (fun g1=>⟨fun _=>zE,?_⟩);refine tO 8 ?_;refine bo rfl rfl rfl zP (bB .zero rfl zl) rfl rfl zO zm zo fun dW k2 _=>?_
 refine ⟨fun _=>zE,?_⟩
 ((refine tO 9 ?_;refine dV (bn rfl) ?_);(refine tO 10 ?_;refine dV (ba rfl) ?_);(refine tO 11 ?_;refine tf ?_;refine ⟨zN,?_⟩))
 refine bf zK ?_
 (repeat (refine wA ?_;intros))
 refine W.fo (L':=kF g vj vb vs vp gm [c1,c2,c3,c4,c5,c6] ⟨p.ts++[(.slice ef b.length k1,b)],p.us,dW,k2,p.al,p.cl⟩ (cH (xh++[(.slice ef b.length k1,b)])::cH xz::R)) ?_ ?_
 ·simp only [kF,uu,cV,aa,aj,ah,List.map_cons,List.map_nil];exact cj (show cz _ (cS (.slice ef b.length k1) b::cH xh::cK g [vj,vb,vs,vp,.slice dW (p.ts.length+1) k2,.slice p.al p.us.length p.cl,.map (some gm),c1,c2,c3,c4,c5,c6] yJ (0,0)::dE ez 1 (.slice dW (p.ts.length+1) k2) (p.ts.length+1) (p.ts.map (·.1)++[.slice ef b.length k1])::dE ez 1 (.slice p.al p.us.length p.cl) p.us.length (p.us.map (·.1))::iC nB gm (ic (p.ts.map (·.2)++[b]) 0)::cH xz::R) from zE) (cj jo zE)
 refine W.fe [(0,pt g),(6,yv),(9,.slice (some ⟨gl,ol,none⟩) ls.length cap),(10,.int .i64 (ls.length:Int)),(11,.int .i64 (i:Int))] zS ?_;have hsn:(p.ts++[((.slice ef b.length k1:Value),b)]).length=p.ts.length+1:=by rw [aa];rfl
 have aaJ:p.ts++[((.slice ef b.length k1:Value),b)]=q.ts++(xh++[(.slice ef b.length k1,b)]):=by rw [fy,aM]
 have VJ:(xh++[((.slice ef b.length k1:Value),b)]).map (·.2)=(ls.map (·.2)).take (i+1):=by rw [Bc,ah,An];rfl
 generalize p.ts++[((.slice ef b.length k1:Value),b)]=pt at *
 generalize xh++[((.slice ef b.length k1:Value),b)]=ts2 at *
 refine bk (id:=9) [9,10,11] (cK g (uu vj vb vs vp gm [c1,c2,c3,c4,c5,c6] ⟨pt,p.us,dW,k2,p.al,p.cl⟩) yJ (0,0)::R) mixed ?_
 (refine tM 0 ?_;refine tM 1 ?_;refine tN 2 ?_;refine tF 3 ?_;refine tL 4 ?_;refine tM 5 ?_)
 refine tO 6 ?_;refine bg rfl rfl (qU _ e yv b (jt.cL zE) zo) ?_;rintro _ _ ⟨eJ,k3,rfl,rfl⟩;refine ⟨fun _=>zE,?_⟩;have QS:[cY b]=[b].map cY:=rfl
 generalize cY b=lb at QS ⊢
 refine tO 7 ?_;refine bE (n:=1) (z:=nY) (cs:=[.slice eJ lb.length k3]) rfl rfl rfl rfl zQ rfl (fun g1=>⟨fun _=>zE,?_⟩);refine tO 8 ?_;refine bo rfl rfl rfl zP (bB .zero rfl zl) rfl rfl zO zm zd fun jA k4 _=>?_
 refine ⟨fun _=>zE,?_⟩
 ((refine tO 9 ?_;refine dV (bn rfl) ?_);(refine tO 10 ?_;refine dV (ba rfl) ?_);(refine tO 11 ?_;refine tf ?_;refine ⟨zN,?_⟩))
 refine bf zK ?_;refine wB ?_;refine bi (i+1,⟨pt,p.us++[(.slice eJ lb.length k3,lb)],dW,k2,jA,k4⟩,ts2,xz++[(.slice eJ lb.length k3,lb)]) ⟨cO,aaJ,by dsimp only;rw [gF,aM],VJ,by dsimp only;rw [ah,Hp,Bc,ah,← QS];rfl⟩ zd zS ?_;simp only [kF,uu,cV,aa,aj,ah,List.map_cons,List.map_nil];exact cj (show cz _ (cS (.slice eJ lb.length k3) lb::cH xz::cK g [vj,vb,vs,vp,.slice dW pt.length k2,.slice jA (p.us.length+1) k4,.map (some gm),c1,c2,c3,c4,c5,c6] yJ (0,0)::dE ez 1 (.slice dW pt.length k2) pt.length (pt.map (·.1))::dE ez 1 (.slice jA (p.us.length+1) k4) (p.us.length+1) (p.us.map (·.1)++[.slice eJ lb.length k3])::iC nB gm (ic (pt.map (·.2)) 0)::cH ts2::R) from zE) (cj jo zE)
abbrev uv (v:Value) (l:List Nat):cJ:=dE 3 1 v l.length (l.map fun n:Nat=>Value.int .i64 (n:Int))
structure wO (q:yK) (ls fs:List ej) (outs:List Nat) (i:Nat):Prop where
 fresh:fs.map (·.2)=fg (q.ts.map (·.2)) [] ((ls.map (·.2)).take i)
 sub:∀ a∈fs,a∈ls
 len:outs.length=i
 outs:∀ j (h:j<outs.length),outs[j]=lP (q.ts.map (·.2)++fs.map (·.2)) ((ls.map (·.2)).getD j [])
theorem np {old:List du} {b:du}:∀ {l fresh:List du},fg old fresh (l++[b])=if b∈old++fg old fresh l then fg old fresh l else fg old fresh l++[b]
 | [],fresh=>by simp [fg]
 | x::l,fresh=>by
  rw [List.cons_append];unfold fg
  split
  ·exact np
  ·exact np
theorem wO.step {q:yK} {ls fs:List ej} {outs:List Nat} {i:Nat} (h:wO q ls fs outs i) (hi:i<ls.length) {a:ej} (ha:ls[i]'hi=a) (gy:a.2∈q.ts.map (·.2)++fs.map (·.2)):wO q ls fs (outs++[lP (q.ts.map (·.2)++fs.map (·.2)) a.2]) (i+1):=by
 obtain ⟨h1,h2,h3,h4⟩:=h
 have hn:(ls.map (·.2)).take (i+1)=(ls.map (·.2)).take i++[a.2]:=by
  rw [aD (by rw [ae];exact hi),List.getElem_map,ha]
 refine ⟨?_,h2,by rw [aa,h3];rfl,fun j hj=>?_⟩
 ·rw [hn,np,← h1,aI gy]
 ·rw [aa,aj] at hj
  by_cases A3:j<outs.length
  ·rw [List.getElem_append_left A3,h4 j A3]
  ·have:j=i:=by omega
   subst this;rw [List.getElem_append_right zo];simp only [h3,Nat.sub_self,List.getElem_cons_zero];rw [e6 hi,ha]
theorem wO.new {q:yK} {ls fs:List ej} {outs:List Nat} {i:Nat} (h:wO q ls fs outs i) (hi:i<ls.length) {a:ej} (ha:ls[i]'hi=a) (gy:¬ a.2∈q.ts.map (·.2)++fs.map (·.2)):wO q ls (fs++[a]) (outs++[q.ts.length+fs.length]) (i+1):=by
 obtain ⟨h1,h2,h3,h4⟩:=h
 have hn:(ls.map (·.2)).take (i+1)=(ls.map (·.2)).take i++[a.2]:=by
  rw [aD (by rw [ae];exact hi),List.getElem_map,ha]
 have mU:(fs++[a]).map (·.2)=fg (q.ts.map (·.2)) [] ((ls.map (·.2)).take (i+1)):=by
  rw [hn,np,← h1,aB gy,ah]
  rfl
 refine ⟨mU,fun x hx=>?_,by rw [aa,h3];rfl,fun j hj=>?_⟩
 ·rcases aJ.1 hx with hx|hx
  ·exact h2 x hx
  ·rw [an.1 hx,← ha];exact aA hi
 ·rw [aa,aj] at hj
  by_cases A3:j<outs.length
  ·rw [List.getElem_append_left A3,h4 j A3,ah,← aM,wN (l:=q.ts.map (·.2)++fs.map (·.2))];have xj:j<((ls.map (·.2)).take i).length:=by rw [aF,ae];omega
   rw [h1];have hm:=su (old:=q.ts.map (·.2)) (fresh:=[]) (aA xj);rw [List.getElem_take] at hm
   rw [ax,ab (by rw [ae];omega)];exact hm
  ·have:j=i:=by omega
   subst this;rw [List.getElem_append_right zo];simp only [h3,Nat.sub_self,List.getElem_cons_zero];rw [e6 hi,ha,ah,← aM,List.map_cons,MP gy,aa,ae,ae]
theorem Hq (R:List cJ) (e:World) (g:Nat) (vj vb vs vp:Value) (gm:Nat) (c1 c2 c3 c4 c5 c6:Value) (q:yK) (v:Value) (ls:List ej) (hv:cE R 1 v ls.length (ls.map (·.1))) (ht:dQ R ls) (hl:ls.length≤1000) (hq:q.ts.length≤1000) :
 Ct prog 72 #[pt g,v] e (kF g vj vb vs vp gm [c1,c2,c3,c4,c5,c6] q R) (fun v' L'=>∃ (ao af:Option Addr) (co cf:Nat) (fs:List ej) (outs:List Nat),v'=.tuple #[.slice ao outs.length co,.slice af fs.length cf]∧wO q ls fs outs ls.length∧L'=uv (.slice ao outs.length co) outs::cV (.slice af fs.length cf) fs::kF g vj vb vs vp gm [c1,c2,c3,c4,c5,c6] q R):=by
 refine a7 ((hv.cL (show cz (kF g vj vb vs vp gm [c1,c2,c3,c4,c5,c6] q R) R from zE)).shape zo) ?_;rintro ⟨⟨wu,cap,rfl,h3,h4,h5,h6⟩,_⟩;simp only [maxLen] at h4
 refine a8 (args:=[_,_]) func72 rfl ntmps72 results72 rfl ?_;refine wB ?_;refine bC (Do.qw nB rfl fun g2=>?_)
 refine wB ?_;refine bq (ι:=Nat × List ej × List Nat × Option Addr × Nat × Option Addr × Nat) (fun i=>[(0,pt g),(6,.slice i.2.2.2.1 i.2.2.1.length i.2.2.2.2.1),(7,.slice i.2.2.2.2.2.1 i.2.1.length i.2.2.2.2.2.2),(8,.map (some g2)),(14,.slice wu ls.length cap),(15,.int .i64 (ls.length:Int)),(16,.int .i64 (i.1:Int))]) (fun i=>iC nB g2 (ic (i.2.1.map (·.2)) q.ts.length)::uv (.slice i.2.2.2.1 i.2.2.1.length i.2.2.2.2.1) i.2.2.1::cV (.slice i.2.2.2.2.2.1 i.2.1.length i.2.2.2.2.2.2) i.2.1::kF g vj vb vs vp gm [c1,c2,c3,c4,c5,c6] q R) (fun i=>i.1≤ls.length∧wO q ls i.2.1 i.2.2.1 i.1) (fun i=>ls.length - i.1) (0,[],[],none,0,none,0) ⟨aH _,⟨by simp [fg],fun a h=>by simp at h,rfl,fun j h=>by simp at h⟩⟩ zS (bh (cj (dv ez 1) (dv 3 1))) ?_;rintro ⟨i,fs,outs,ao,co,af,cf⟩ ⟨hi,hS⟩;dsimp only at hi hS ⊢
 have Er:=hS.len
 have DF:fs.length≤i:=by
  have:=congrArg List.length hS.fresh;rw [ae] at this
  have h2:=sw (old:=q.ts.map (·.2)) (l:=(ls.map (·.2)).take i) (fresh:=[]);rw [aF,ae,List.length_nil] at h2
  omega
 by_cases cO:i<ls.length
 rotate_left
 ·have:i=ls.length:=by omega
  subst this;refine wB ?_;exact aY _ rfl (cz.drop aX) ⟨ao,af,co,cf,fs,outs,rfl,hS,rfl⟩
 rcases h6 with h6|⟨gl,ol,rfl⟩
 ·omega
 have hr:Rd R ⟨gl,ol+i,none⟩ (ls[i]'cO).1:=hv.elem (by rw [aL,ab cO];rfl);have jt:=ht _ (aA cO);have eK:=fun h=>hS.step cO (a:=ls[i]'cO) rfl h
 have hnw:=fun h=>hS.new cO (a:=ls[i]'cO) rfl h
 generalize ls[i]'cO=y at *
 obtain ⟨yv,b⟩:=y;dsimp only at hr jt eK hnw
 refine W.cB (cn (jt.cL zE)) fun oy=>?_
 refine wB ?_;refine bk (id:=7) [11] (iC nB g2 (ic (fs.map (·.2)) q.ts.length)::uv (.slice ao outs.length co) outs::cV (.slice af fs.length cf) fs::kF g vj vb vs vp gm [c1,c2,c3,c4,c5,c6] q R) mixed ?_;have hb0:∀ A B C D E F G,db (A::B::C::D::E::F::G::R) yv b:=fun A B C D E F G=>jt.tail.tail.tail.tail.tail.tail.tail
 (refine tM 0 ?_;refine tN 1 ?_;refine tF 2 ?_;refine tL 3 ?_;refine tM 4 ?_;refine tk 5 _ rfl (b8 rfl zB) ?_)
 refine tk 6 _ rfl (cD.kE (key:=nB) (k:=b) rfl rfl (.succ (.succ (.succ (.succ (.succ (.succ .zero))))))) ?_
 (refine tM 7 ?_;refine tk 8 _ rfl (bl rfl rfl) ?_;refine tk 9 _ rfl (bl rfl rfl) ?_;refine tA 10 ?_;(refine tO 11 ?_;refine dV (bj rfl) ?_))
 refine bf zK ?_;rw [ka];have mV:∀ n:Nat,∀ c∈[Value.int .i64 (n:Int)],c.oneCell'=true:=fun n c hc=>by rw [an.1 hc];rfl
 by_cases hA:b∈q.ts.map (·.2)
 ·rw [aI hA];have Ag:lP (q.ts.map (·.2)++fs.map (·.2)) b=lP (q.ts.map (·.2)) b:=wN hA;have hn:=eK (List.mem_append_left _ hA);rw [Ag] at hn
  rw [aC];simp only [Option.getD_some,Option.isSome_some]
  generalize lP (q.ts.map (·.2)) b=z at *
  (repeat (refine wA ?_;intros))
  refine bC (bo rfl rfl rfl zP (bB .zero rfl zl) rfl rfl (mV z) zm zo fun ef k1 _=>?_)
  refine wB ?_;refine bi (i+1,fs,outs++[z],ef,k1,af,cf) ⟨cO,hn⟩ zd ?_ ?_
  ·dsimp only;rw [aa,aj];exact zS
  ·simp only [uv,aa,aj,ah,List.map_cons,List.map_nil];exact zE
 rw [aB hA];simp only [Option.getD_none,Option.isSome_none]
 by_cases hB:b∈fs.map (·.2)
 ·have Ag:lP (q.ts.map (·.2)++fs.map (·.2)) b=q.ts.length+lP (fs.map (·.2)) b:=by
   unfold lP;rw [List.idxOf_append,aB hA,ae]
   omega
  have hn:=eK (List.mem_append_right _ hB);rw [Ag] at hn
  refine wB ?_;refine bx _ (cD.kE (key:=nB) (k:=b) rfl rfl .zero) rfl ?_;rw [ka,aI hB];simp only [Option.getD_some,Option.isSome_some]
  generalize q.ts.length+lP (fs.map (·.2)) b=z at *
  (repeat (refine wA ?_;intros))
  refine bC (bo rfl rfl rfl zP (bB .zero rfl zl) rfl rfl (mV z) zm zo fun ef k1 _=>?_)
  refine wB ?_;refine bi (i+1,fs,outs++[z],ef,k1,af,cf) ⟨cO,hn⟩ zd ?_ ?_
  ·dsimp only;rw [aa,aj];exact zS
  ·simp only [uv,aa,aj,ah,List.map_cons,List.map_nil];exact zE
 have hn:=hnw (fun h=>(aJ.1 h).elim hA hB);refine wB ?_;refine bx _ (cD.kE (key:=nB) (k:=b) rfl rfl .zero) rfl ?_;rw [ka,aB hB];simp only [Option.getD_none,Option.isSome_none];refine wB ?_;refine bC (Do.jW (key:=nB) (k:=b) rfl rfl rfl .zero ?_)
 have yH:=sx (l:=fs.map (·.2)) (k:=q.ts.length) hB;rw [ae] at yH
 have QT:((q.ts.length+fs.length:Nat):Int)=(q.ts.length:Int)+fs.length:=by omega
 rw [QT] at yH
 rw [yH]
 (repeat (refine wA ?_;intros))
 refine bC (bo rfl rfl rfl zP (bB .zero rfl zl) rfl rfl (fun c hc=>by rw [an.1 hc];exact oy) zm zo fun ef k1 _=>?_)
 rw [← QT]
 generalize hz:q.ts.length+fs.length=z at *
 (repeat (refine wA ?_;intros))
 refine bC (bo rfl rfl rfl zP (bB .zero rfl zl) rfl rfl (mV z) zm zo fun dW k2 _=>?_)
 refine wB ?_;refine bi (i+1,fs++[(yv,b)],outs++[z],dW,k2,ef,k1) ⟨cO,hn⟩ zd ?_ ?_
 ·dsimp only;rw [aa,aj,aa,aj];exact zS
 ·simp only [uv,cV,aa,aj,ah,List.map_cons,List.map_nil];exact zE
end Go.Proofs
namespace Go.Bs
def pS (m:Nat) (l:List (List UInt8)) (w:Bool):List (List UInt8) :=
 if m=l.length then (if w=true then [] else [ea l])
 else if h:2≤l.length then
  if m≤cN l.length then pS m (l.take (cN l.length)) w++[ea (l.drop (cN l.length))]
  else pS (m - cN l.length) (l.drop (cN l.length)) false++[ea (l.take (cN l.length))]
 else []
 termination_by l.length
 decreasing_by
 ·have:=dz h;rw [aF];omega
 ·have:=dz h;rw [aO];omega
def im (m n:Nat) (w:Bool):Nat :=
 if m=n then (if w=true then 0 else 1)
 else if h:2≤n then
  if m≤cN n then im m (cN n) w+1 else im (m - cN n) (n - cN n) false+1
 else 0
 termination_by n
 decreasing_by
 ·have:=dz h;omega
 ·have:=dz h;omega
def iB (m n:Nat) (w:Bool) (p:List (List UInt8)) (old:List UInt8):List UInt8 × List UInt8 :=
 if m=n then (if w=true then (old,old) else (lC p,lC p))
 else if h:2≤n then
  if m≤cN n then ((iB m (cN n) w p.dropLast old).1,eG (iB m (cN n) w p.dropLast old).2 (lC p))
  else (eG (lC p) (iB (m - cN n) (n - cN n) false p.dropLast old).1,eG (lC p) (iB (m - cN n) (n - cN n) false p.dropLast old).2)
 else (old,old)
 termination_by n
 decreasing_by
 all_goals (have:=dz h;omega)
section
variable {m n:Nat} {w:Bool} {l p:List (List UInt8)} {old:List UInt8}
theorem yL:pS l.length l true=[]:=by rw [pS,aI rfl,aI rfl]
theorem qY:pS l.length l false=[ea l]:=by rw [pS,aI rfl];rfl
theorem xB (h1:m≠l.length) (h:2≤l.length) (hm:m≤cN l.length):pS m l w=pS m (l.take (cN l.length)) w++[ea (l.drop (cN l.length))]:=by rw [pS,aB h1,dif_pos h,aI hm]
theorem xC (h1:m≠l.length) (h:2≤l.length) (hm:¬ m≤cN l.length):pS m l w=pS (m - cN l.length) (l.drop (cN l.length)) false++[ea (l.take (cN l.length))]:=by rw [pS,aB h1,dif_pos h,aB hm]
theorem qZ:im n n true=0:=by rw [im,aI rfl,aI rfl]
theorem k8:im n n false=1:=by rw [im,aI rfl];rfl
theorem yM (h1:m≠n) (h:2≤n) (hm:m≤cN n):im m n w=im m (cN n) w+1:=by rw [im,aB h1,dif_pos h,aI hm]
theorem yN (h1:m≠n) (h:2≤n) (hm:¬ m≤cN n):im m n w=im (m - cN n) (n - cN n) false+1:=by rw [im,aB h1,dif_pos h,aB hm]
theorem sz:iB n n true p old=(old,old):=by rw [iB,aI rfl,aI rfl]
theorem qx:iB n n false p old=(lC p,lC p):=by rw [iB,aI rfl];rfl
theorem Bz (h1:m≠n) (h:2≤n) (hm:m≤cN n):iB m n w p old=((iB m (cN n) w p.dropLast old).1,eG (iB m (cN n) w p.dropLast old).2 (lC p)):=by rw [iB,aB h1,dif_pos h,aI hm]
theorem BA (h1:m≠n) (h:2≤n) (hm:¬ m≤cN n):iB m n w p old=(eG (lC p) (iB (m - cN n) (n - cN n) false p.dropLast old).1,eG (lC p) (iB (m - cN n) (n - cN n) false p.dropLast old).2):=by rw [iB,aB h1,dif_pos h,aB hm]
end
theorem lH:∀ (n m:Nat) (l:List (List UInt8)) (w:Bool),l.length=n→1≤m→m≤n→(pS m l w).length=im m l.length w:=by
 intro n
 induction n using Nat.strongRecOn with
 | ind n ih =>
  intro m l w hn h1 h2
  by_cases he:m=l.length
  ·subst he
   cases w
   ·rw [qY,k8];rfl
   ·rw [yL,qZ];rfl
  ·have h:2≤l.length:=by omega
   have hs:=dz h
   by_cases hm:m≤cN l.length
   ·have e1:(l.take (cN l.length)).length=cN l.length:=by rw [aF];omega
    rw [xB he h hm,yM he h hm,aa,aj,ih _ (by omega) m _ w e1 h1 hm,e1]
   ·have e1:(l.drop (cN l.length)).length=l.length - cN l.length:=aO;rw [xC he h hm,yN he h hm,aa,aj,ih _ (by omega) _ _ false e1 (by omega) (by omega),e1]
theorem oe:∀ (t n m:Nat) (w:Bool),n≤2 ^ t→im m n w≤t+1
 | 0,n,m,w,h=>by
  rw [Nat.pow_zero] at h
  rw [im]
  split
  ·split<;>omega
  ·rw [dif_neg (by omega)];omega
 | t+1,n,m,w,h=>by
  by_cases he:m=n
  ·subst he
   cases w
   ·rw [k8];omega
   ·rw [qZ];omega
  by_cases h2:2≤n
  ·have hs:=dz h2;have hh:=wy h h2
   by_cases hm:m≤cN n
   ·rw [yM he h2 hm];have:=oe t (cN n) m w hh;omega
   ·rw [yN he h2 hm];have:=oe t (n - cN n) (m - cN n) false (by omega);omega
  ·rw [im,aB he,dif_neg h2];omega
theorem Hr {m n:Nat} (h:2≤n) (h1:cN n<m) (h2:m≤n):cN m=cN n:=by
 have hs:=dz h;obtain ⟨j,hj⟩:∃ j,cN n=2 ^ j:=⟨(n - 1).log2,by unfold cN;rw [aB (by omega)]⟩
 rw [hj] at hs h1 ⊢
 have h0:=Nat.two_pow_pos j;unfold cN;rw [aB (by omega)]
 congr 1
 rw [Nat.log2_eq_iff (by omega)];have:2 ^ (j+1)=2*2 ^ j:=by rw [Nat.pow_succ,Nat.mul_comm]
 omega
theorem Hs:∀ (n m:Nat) (l:List (List UInt8)) (w:Bool) (old:List UInt8),l.length=n→1≤m→m≤n→(w=true→old=ea (l.take m))→iB m l.length w (pS m l w) old=(ea (l.take m),ea l):=by
 intro n
 induction n using Nat.strongRecOn with
 | ind n ih =>
  intro m l w old hn h1 h2 ho
  by_cases he:m=l.length
  ·subst he;have e1:l.take l.length=l:=List.take_length;rw [e1] at ho ⊢
   cases w
   ·rw [qY,qx];rfl
   ·rw [sz,ho rfl]
  ·have h:2≤l.length:=by omega
   have hs:=dz h;have rI:=jU h
   by_cases hm:m≤cN l.length
   ·have e1:(l.take (cN l.length)).length=cN l.length:=by rw [aF];omega
    have e2:(l.take (cN l.length)).take m=l.take m:=by rw [List.take_take,Nat.min_eq_left hm]
    have e3:=ih _ (by omega) m (l.take (cN l.length)) w old e1 h1 hm (by rw [e2];exact ho);rw [e1,e2] at e3
    rw [xB he h hm,Bz he h hm,List.dropLast_concat,mP,e3,rI]
   ·have e1:(l.drop (cN l.length)).length=l.length - cN l.length:=aO;have e3:=ih _ (by omega) (m - cN l.length) (l.drop (cN l.length)) false old e1 (by omega) (by omega) (fun h=>by cases h);rw [e1] at e3
    have e4:(l.take m).length=m:=by rw [aF];omega
    have e5:=jU (l:=l.take m) (by omega);rw [e4,Hr h (by omega) (by omega),List.take_take,Nat.min_eq_left (by omega),List.drop_take] at e5
    rw [xC he h hm,BA he h hm,List.dropLast_concat,mP,e3,rI,e5]
theorem BB:∀ (n m:Nat) (l:List (List UInt8)) (w:Bool),l.length=n→(∀ a∈l,a.length=32)→∀ a∈pS m l w,a.length=32:=by
 intro n
 induction n using Nat.strongRecOn with
 | ind n ih =>
  intro m l w hn hh a ha
  by_cases he:m=l.length
  ·subst he
   cases w
   ·rw [qY] at ha;rw [an.1 ha];exact gG hh
   ·rw [yL] at ha;cases ha
  by_cases h:2≤l.length
  ·have hs:=dz h
   by_cases hm:m≤cN l.length
   ·rw [xB he h hm] at ha
    rcases aJ.1 ha with q|q
    ·exact ih _ (by rw [aF];omega) _ _ w rfl (fun b hb=>hh b (aR hb)) a q
    ·rw [an.1 q];exact gG fun b hb=>hh b (aV hb)
   ·rw [xC he h hm] at ha
    rcases aJ.1 ha with q|q
    ·exact ih _ (by rw [aO];omega) _ _ false rfl (fun b hb=>hh b (aV hb)) a q
    ·rw [an.1 q];exact gG fun b hb=>hh b (aR hb)
  ·rw [pS,aB he,dif_neg h] at ha;cases ha
end Go.Bs
namespace Go.Bs
end Go.Bs
namespace Go.Proofs
open Go.Bs
attribute [local irreducible] Bs.cD Bs.Do Bs.O Bs.W Bs.Fin Bs.A Bs.Ct Bs.cE Bs.Rd Bs.Sat Bs.cK Bs.Ob Bs.dE Bs.View Bs.cz Bs.Ex Bs.dI Bs.Pu Bs.eY Bs.dN Bs.dZ
theorem MR:∀ (n:Nat) (R:List cJ) (e:World) (v:Value) (ts:List ej) (m:Nat) (w:Bool),ts.length=n→cE R 1 v ts.length (ts.map (·.1))→dQ R ts→(∀ a∈ts,a.2.length≤1000000)→ts.length≤1000000→1≤m→m≤ts.length →
 Ct Tryz.prog 216 #[.int .i64 (m:Int),v,.bool w] e R (fun v' L'=>∃ ad c out,v'=.slice ad out.length c∧out.map (·.2)=pS m (ts.map (·.2)) w∧L'=cV (.slice ad out.length c) out::cH out::R):=by
 intro n
 induction n using Nat.strongRecOn with
 | _ n ih =>
 intro R e v ts m w hn hv ht hb hl Uc Cf;refine a7 (hv.shape zo) ?_;rintro ⟨⟨ad,cap,rfl,h3,h4,h5,h6⟩,_⟩;simp only [maxLen] at h4
 refine a8 (args:=[_,_,_]) Tryz.func216 rfl Tryz.ntmps216 Tryz.results216 rfl ?_
 by_cases he:m=ts.length
 ·subst he
  cases w
  ·refine wB ?_;refine aZ rfl rfl (j4 ts.length _ e _ ts rfl hv ht hb hl) ?_;rintro _ _ ⟨dW,c2,rfl,rfl⟩
   generalize rI:ea (ts.map (·.2))=rt at *
   (repeat (refine wA ?_;intros))
   rename_i g;refine aY (cV (.slice (some ⟨g,0,none⟩) [((Value.slice dW rt.length c2,rt):ej)].length 1) [((Value.slice dW rt.length c2,rt):ej)]::cH [((Value.slice dW rt.length c2,rt):ej)]::R) rfl ?_ ⟨some ⟨g,0,none⟩,1,[((Value.slice dW rt.length c2,rt):ej)],rfl,?_,rfl⟩
   ·refine cj (hH (n:=1) (k:=1) (cap:=1) zo zl rfl) (bh (ju (a:=(Value.slice dW rt.length c2,rt))))
   ·have:=qY (l:=ts.map (·.2));rw [ae,rI] at this
    rw [this];rfl
  ·refine wB ?_;exact aY (cV nY []::cH []::R) rfl (cj dK (dv _ _)) ⟨none,0,[],rfl,by have:=yL (l:=ts.map (·.2));rw [ae] at this;rw [this];rfl,rfl⟩
 have h2:2≤ts.length:=by omega
 refine wB ?_;refine aZ rfl rfl (mL R e ts.length zo) ?_;rintro _ _ ⟨rfl,rfl⟩;rw [kY];have hs:=dz h2;have vy:=fun h=>xB (l:=ts.map (·.2)) (m:=m) (w:=w) (by rw [ae];exact he) (by rw [ae];exact h2) h
 have J2:=fun h=>xC (l:=ts.map (·.2)) (m:=m) (w:=w) (by rw [ae];exact he) (by rw [ae];exact h2) h
 rw [ae,← List.map_take,← List.map_drop] at vy J2
 have Ei:=k6 hv (k:=cN ts.length) zo;have Cp:=vz hv (k:=cN ts.length) zo
 generalize cN ts.length=k at *
 have QI:(ts.take k).length=k:=by rw [aF];omega
 have Ej:(ts.drop k).length=ts.length - k:=aO
 by_cases vB:m≤k
 ·refine wB ?_;refine bz (id:=7) [12] Tryz.mixed ?_
  (refine tM 0 ?_;refine tM 1 ?_;refine tM 2 ?_;refine tk 3 _ rfl (cD.iV rfl rfl zo zo) ?_;refine tM 4 ?_;refine tM 6 ?_;refine tM 7 ?_;refine tk 8 _ rfl (cD.lm rfl rfl zo zo) ?_)
  refine tO 5 ?_;refine bg rfl rfl (ih k zo R e _ (ts.take k) m w QI Ei (jM ht fun x hx=>aR hx) (fun a ha=>hb a (aR ha)) zo Uc zo) ?_;rintro _ _ ⟨ef,c1,out,rfl,ho,rfl⟩
  have Er:out.length≤1000000:=by
   have h7:=congrArg List.length ho;rw [ae,lH k m ((ts.take k).map (·.2)) w (by rw [ae];exact QI) Uc vB] at h7
   have:=oe 20 ((ts.take k).map (·.2)).length m w (by rw [ae];omega)
   omega
  refine ⟨fun _=>zE,?_⟩;refine tO 9 ?_;refine bg rfl rfl (j4 (ts.length - k) _ e _ (ts.drop k) Ej Cp.tail.tail (dQ.tail (dQ.tail (jM ht fun x hx=>aV hx))) (fun a ha=>hb a (aV ha)) zo) ?_;rintro _ _ ⟨dW,c2,rfl,rfl⟩;refine ⟨fun _=>zE,?_⟩
  generalize rI:ea ((ts.drop k).map (·.2))=rt at *
  refine tO 10 ?_;refine bE (n:=1) rfl rfl rfl rfl zQ rfl (fun g2=>⟨fun _=>zE,?_⟩);refine tO 11 ?_;refine bo rfl rfl rfl (.succ (.succ .zero)) (bO (n:=1) (c:=1) .zero rfl zl) rfl rfl zO zm zo fun eJ c3 _=>⟨fun _=>zE,?_⟩
  ((refine tO 12 ?_;refine dV (bj rfl) ?_))
  refine bf zK ?_;refine wB ?_;refine aY (cV (.slice eJ (out++[((Value.slice dW rt.length c2,rt):ej)]).length c3) (out++[((Value.slice dW rt.length c2,rt):ej)])::cH (out++[((Value.slice dW rt.length c2,rt):ej)])::R) rfl (cj zE fZ) ⟨eJ,c3,out++[((Value.slice dW rt.length c2,rt):ej)],by rw [aa,aj];rfl,by rw [ah,ho,vy vB];rfl,rfl⟩
 ·refine wB ?_;refine bz (id:=8) [13] Tryz.mixed ?_
  (refine tM 0 ?_;refine tM 1 ?_;refine tk 2 _ rfl (cD.jz rfl rfl zo) ?_;refine tM 3 ?_;refine tM 4 ?_;refine tk 5 _ rfl (cD.lm rfl rfl zo zo) ?_;refine tM 7 ?_;refine tM 8 ?_;refine tk 9 _ rfl (cD.iV rfl rfl zo zo) ?_)
  rw [show ((m:Nat):Int) - ((k:Nat):Int)=((m - k:Nat):Int) by omega];refine tO 6 ?_;refine bg rfl rfl (ih (ts.length - k) zo R e _ (ts.drop k) (m - k) false Ej Cp (jM ht fun x hx=>aV hx) (fun a ha=>hb a (aV ha)) zo zo zo) ?_;rintro _ _ ⟨ef,c1,out,rfl,ho,rfl⟩
  have Er:out.length≤1000000:=by
   have h7:=congrArg List.length ho;rw [ae,lH (ts.length - k) (m - k) ((ts.drop k).map (·.2)) false (by rw [ae];exact Ej) zo zo] at h7
   have:=oe 20 ((ts.drop k).map (·.2)).length (m - k) false (by rw [ae];omega)
   omega
  refine ⟨fun _=>zE,?_⟩;refine tO 10 ?_;refine bg rfl rfl (j4 k _ e _ (ts.take k) QI Ei.tail.tail (dQ.tail (dQ.tail (jM ht fun x hx=>aR hx))) (fun a ha=>hb a (aR ha)) zo) ?_;rintro _ _ ⟨dW,c2,rfl,rfl⟩;refine ⟨fun _=>zE,?_⟩
  generalize rI:ea ((ts.take k).map (·.2))=rt at *
  refine tO 11 ?_;refine bE (n:=1) rfl rfl rfl rfl zQ rfl (fun g2=>⟨fun _=>zE,?_⟩);refine tO 12 ?_;refine bo rfl rfl rfl (.succ (.succ .zero)) (bO (n:=1) (c:=1) .zero rfl zl) rfl rfl zO zm zo fun eJ c3 _=>⟨fun _=>zE,?_⟩
  ((refine tO 13 ?_;refine dV (bj rfl) ?_))
  refine bf zK ?_;refine wB ?_;refine aY (cV (.slice eJ (out++[((Value.slice dW rt.length c2,rt):ej)]).length c3) (out++[((Value.slice dW rt.length c2,rt):ej)])::cH (out++[((Value.slice dW rt.length c2,rt):ej)])::R) rfl (cj zE fZ) ⟨eJ,c3,out++[((Value.slice dW rt.length c2,rt):ej)],by rw [aa,aj];rfl,by rw [ah,ho,J2 vB];rfl,rfl⟩
def iY (l:List (List UInt8)) (m:Nat):List (List UInt8):=if 0<m∧m<l.length then pS m l true else []
theorem Kr (R:List cJ) (e:World) (v:Value) (ts:List ej) (n:Int) (hn:-9223372036854775808≤n∧n≤9223372036854775807) (hv:cE R 1 v ts.length (ts.map (·.1))) (ht:dQ R ts) (hb:∀ a∈ts,a.2.length≤1000000) (hl:ts.length≤1000000) :
 Ct Tryz.prog 135 #[v,.int .i64 n] e R (fun v' L' =>
  (¬ (0≤n∧n≤ts.length)∧v'=.tuple #[.agg #[.int .i64 0,.int .i64 0,nY],.int .i64 1]∧R=L') ∨
  (0≤n∧n≤ts.length∧∃ ad c out,v'=.tuple #[.agg #[.int .i64 n,.int .i64 (ts.length:Int),.slice ad out.length c],.int .i64 0]∧out.map (·.2)=iY (ts.map (·.2)) n.toNat∧L'=cV (.slice ad out.length c) out::cH out::R)):=by
 refine a7 (hv.shape zo) ?_;rintro ⟨⟨ad,cap,rfl,h3,h4,h5,h6⟩,_⟩;refine bH (args:=[_,_]) Tryz.func135 rfl Tryz.ntmps135 Tryz.results135 rfl ?_
 by_cases j1:0≤n∧n≤ts.length
 rotate_left
 ·by_cases h0:n<0
  ·(repeat (refine wA ?_;intros))
   apply br;exact zV;exact ⟨R,zE,.inl ⟨j1,rfl,rfl⟩⟩
  ·(repeat (refine wA ?_;intros))
   apply br;exact zV;exact ⟨R,zE,.inl ⟨j1,rfl,rfl⟩⟩
 obtain ⟨h0,cO⟩:=j1;obtain ⟨m,rfl⟩:=Int.eq_ofNat_of_zero_le h0;rw [Int.toNat_natCast]
 by_cases gy:0<m∧m<ts.length
 ·obtain ⟨hm0,Uc⟩:=gy
  (repeat (refine wA ?_;intros))
  refine aZ rfl rfl (MR ts.length _ e _ ts m true rfl hv.tail.tail ht.tail.tail hb hl hm0 zo) ?_;rintro _ _ ⟨ef,c1,out,rfl,ho,rfl⟩;refine wB ?_;apply br;exact zV;exact ⟨cV (.slice ef out.length c1) out::cH out::R,zE,.inr ⟨h0,cO,ef,c1,out,rfl,by rw [ho,iY,aI ⟨hm0,by rw [ae];exact Uc⟩],rfl⟩⟩
 ·have hg:iY (ts.map (·.2)) m=[]:=by rw [iY,ae,aB gy]
  by_cases hm0:0<m
  ·(repeat (refine wA ?_;intros))
   apply br;exact zV;exact ⟨cV nY []::cH []::R,cj (show cz _ R from zE) (cj dK (dv _ _)),.inr ⟨h0,cO,none,0,[],rfl,by rw [hg];rfl,rfl⟩⟩
  ·(repeat (refine wA ?_;intros))
   apply br;exact zV;exact ⟨cV nY []::cH []::R,cj (show cz _ R from zE) (cj dK (dv _ _)),.inr ⟨h0,cO,none,0,[],rfl,by rw [hg];rfl,rfl⟩⟩
end Go.Proofs
namespace Go.Proofs
attribute [local irreducible] Bs.cD Bs.Do Bs.O Bs.W Bs.Fin Bs.A Bs.Ct Bs.cE Bs.Rd Bs.Sat Bs.cK Bs.Ob Bs.dE Bs.View Bs.cz Bs.Ex Bs.dI Bs.Pu Bs.eY Bs.dN Bs.dZ
open Go.Bs
open Tryz
variable (R:List cJ) (e:World)
structure pd where
 gj:Nat
 gb:Nat
 gk:Nat
 gm:Nat
 vs:Value
 vp:Value
 q:yK
 ur:Value
 up:Value
 uq:Value
structure pd.ok (a:pd) (M:cJ) (seed:du) (s:fM):Prop where
 wP:db [M] a.vs seed
 cF:a.q.ts.map (·.2)=s.cF
 yO:dQ [M] a.q.ts
 leaves:a.q.us.map (·.2)=s.cF.map cY
 Ao:dQ [M] a.q.us
 last:fj [M] a.ur a.up a.uq s.dC
 st:s.ok
 sd:seed.length=32
abbrev pd.cells (a:pd) (s:fM):List Value:=uu (pt a.gj) (pt a.gb) a.vs a.vp a.gm [.int .i64 (s.dC.dc.size:Int),a.ur,.int .i64 (s.dC.sig.idx:Int),a.up,a.uq,.bool s.last.isSome] a.q
abbrev gX (g d k:Nat) (s:fM) (a:pd) (M:cJ) (R:List cJ):List cJ :=
 cK g (a.cells s) yJ (0,0)::cV (.slice a.q.ai a.q.ts.length a.q.ci) a.q.ts::cV (.slice a.q.al a.q.us.length a.q.cl) a.q.us::iC nB a.gm (ic (a.q.ts.map (·.2)) 0)::M::jd a.gj d s.recs.length::de d (dx s.jb)::lF a.gb a.gk s.keys::jd a.gk k s.keys::de k (eo s.keys 1048576)::R
def yP (g d k:Nat) (seed:du) (s:fM) (a:pd) (M:cJ):cJ:=dI (Pu (a.ok M seed s)::gX g d k s a M [])
def cU (g d k:Nat) (seed:du) (s:fM):cJ:=Ex fun a=>Ex fun M=>yP g d k seed s a M
theorem mf {g d k:Nat} {seed:du} {s:fM} {R:List cJ} {P:Program} {f:FuncId} {args:Array Value} {e:World} {Post:Value→List cJ→Prop}
 (h:∀ (a:pd) (M:cJ),a.ok M seed s→Ct P f args e (gX g d k s a M R) Post):Ct P f args e (cU g d k seed s::R) Post :=
 Ct.ex .zero fun a=>Ct.ex .zero fun M=>Ct.cL (a7 (p:=a.ok M seed s) (fun w x=>(jR x).1) fun hp=>(h a M hp).cL (cz.drop aX)) (cT (M:=Pu (a.ok M seed s)::gX g d k s a M []) (L:=R))
theorem jH {g d k:Nat} {seed:du} {s:fM} {a:pd} {M:cJ} {R:List cJ} (h:a.ok M seed s):cz (gX g d k s a M R) (cU g d k seed s::R) :=
 cj (na h) (cj (dR (M:=Pu (a.ok M seed s)::gX g d k s a M []) (L:=R)) (cj (fu (f:=fun M=>yP g d k seed s a M) M) (fu (f:=fun a=>Ex fun M=>yP g d k seed s a M) a)))
theorem cG {A:cJ} {L R:List cJ} (p:cR L A R):cz L [A]:=cj p.out (bh bF)
theorem pd.ok.len {a:pd} {M:cJ} {seed:du} {s:fM} (h:a.ok M seed s):a.q.ts.length=s.cF.length∧a.q.us.length=s.cF.length:=by
 have h1:=congrArg List.length h.cF;have h2:=congrArg List.length h.leaves;rw [ae] at h1
 rw [ae,ae] at h2
 exact ⟨h1,h2⟩
theorem yQ (g d k:Nat) (seed:du) (s:fM) :
 Ct prog 17 #[pt g] e (cU g d k seed s::R) (fun v' L'=>v'=.int .i64 (s.cF.length:Int)∧L'=cU g d k seed s::R):=by
 refine mf fun a M ha=>?_
 obtain ⟨l1,l2⟩:=ha.len;refine a8 (args:=[_]) func17 rfl ntmps17 results17 rfl ?_;refine wB ?_;refine aY _ rfl (jH ha) ⟨by rw [l1];rfl,rfl⟩
theorem sA {s:fM} {us:List ej} (h:us.map (·.2)=s.cF.map cY):∀ a∈us,a.2.length=32:=fun a ha=>by
 have:a.2∈s.cF.map cY:=by rw [← h];exact aE.2 ⟨a,ha,rfl⟩
 obtain ⟨b,_,hb⟩:=aE.1 this;rw [← hb];exact dg _ _
theorem ES (g d k:Nat) (seed:du) (s:fM) (a:pd) (M:cJ) (ha:a.ok M seed s) :
 Ct prog 18 #[pt g] e (gX g d k s a M R) (fun v' L'=>∃ ad c,v'=.slice ad (ea (s.cF.map cY)).length c∧L'=cS (.slice ad (ea (s.cF.map cY)).length c) (ea (s.cF.map cY))::gX g d k s a M R):=by
 obtain ⟨l1,l2⟩:=ha.len;have ln:=ha.st.size;refine a8 (args:=[_]) func18 rfl ntmps18 results18 rfl ?_;refine wB ?_;refine aZ rfl rfl (j4 _ _ e _ a.q.us rfl (bb zP) (fun x hx=>(ha.Ao x hx).cL (cG zP)) (fun x hx=>by have:=sA ha.leaves x hx;omega) zo) ?_;rintro _ _ ⟨ad,c,rfl,rfl⟩;rw [ha.leaves]
 generalize ea (s.cF.map cY)=x
 refine wB ?_;exact aY (cS (.slice ad x.length c) x::gX g d k s a M R) rfl aX ⟨ad,c,rfl,rfl⟩
theorem sB (g d k:Nat) (seed:du) (s:fM) (v:Value) (b:du) (hv:db R v b) :
 Ct prog 237 #[pt g,v] e (cU g d k seed s::R) (fun v' L'=>v'=.tuple #[.int .i64 (if b∈s.cF then (lP s.cF b:Int) else 0),.bool (decide (b∈s.cF))]∧L'=cU g d k seed s::R):=by
 refine mf fun a M ha=>?_
 refine a8 (args:=[_,_]) func237 rfl ntmps237 results237 rfl ?_;refine wB ?_;refine bk (id:=1) [11] (gX g d k s a M R) mixed ?_;have hb0:db (gX g d k s a M R) v b:=hv.cL zE
 (refine tM 0 ?_;refine tN 1 ?_;refine tF 2 ?_;refine tL 3 ?_;refine tM 4 ?_;refine tk 5 _ rfl (b8 rfl zB) ?_)
 refine tk 6 _ rfl (cD.kE (key:=nB) (k:=b) rfl rfl zP) ?_
 (refine tM 7 ?_;refine tk 8 _ rfl (bl rfl rfl) ?_;refine tk 9 _ rfl (bl rfl rfl) ?_;refine tA 10 ?_;(refine tO 11 ?_;refine dV (bj rfl) ?_))
 refine bf zK ?_;rw [ka,ha.cF]
 by_cases h:b∈s.cF
 ·rw [aI h,aI h,ay h];simp only [Option.getD_some,Option.isSome_some,aC];refine wB ?_;exact aY _ rfl (jH ha) ⟨rfl,rfl⟩
 ·rw [aB h,aB h,aq h];simp only [Option.getD_none,Option.isSome_none];refine wB ?_;exact aY _ rfl (jH ha) ⟨rfl,rfl⟩
theorem qy (g d k:Nat) (seed:du) (s:fM) (i:Int) (hi:-9223372036854775808≤i∧i≤9223372036854775807) :
 Ct prog 56 #[pt g,.int .i64 i] e (cU g d k seed s::R) (fun v' L'=>(¬ (0≤i∧i<s.cF.length)∧v'=.tuple #[nY,.bool false]∧L'=cU g d k seed s::R)∨(0≤i∧i<s.cF.length∧∃ ad c,v'=.tuple #[.slice ad (s.cF.getD i.toNat []).length c,.bool true]∧L'=cS (.slice ad (s.cF.getD i.toNat []).length c) (s.cF.getD i.toNat [])::cU g d k seed s::R)):=by
 refine mf fun a M ha=>?_
 obtain ⟨l1,l2⟩:=ha.len;have ln:=ha.st.size
 by_cases h0:0≤i
 rotate_left
 ·refine a8 (args:=[_,_]) func56 rfl ntmps56 results56 rfl ?_;refine wB ?_;exact aY _ rfl (jH ha) (.inl ⟨fun q=>h0 q.1,rfl,rfl⟩)
 by_cases cO:i<s.cF.length
 rotate_left
 ·refine a8 (args:=[_,_]) func56 rfl ntmps56 results56 rfl ?_;refine wB ?_;exact aY _ rfl (jH ha) (.inl ⟨fun q=>cO q.2,rfl,rfl⟩)
 obtain ⟨n,rfl⟩:=Int.eq_ofNat_of_zero_le h0;rw [Int.toNat_natCast];obtain ⟨gj,gb,gk,gm,vs,vp,⟨ts,us,ai,ci,al,cl⟩,ur,up,uq⟩:=a;dsimp only at l1 l2
 have hn:n<ts.length:=by omega
 have aaL:∀ L R',cR L (cV (.slice ai ts.length ci) ts) R'→cE L 1 (.slice ai ts.length ci) ts.length (ts.map (·.1)):=fun L R' p=>bb p
 refine a7 ((aaL _ _ (.succ .zero)).shape zo) ?_;rintro ⟨⟨lM,c',hv,h3,h4,h5,h6⟩,_⟩
 cases hv
 rcases h6 with h6|⟨gl,ol,rfl⟩
 ·omega
 have jw:∀ L R',cR L (cV (.slice (some ⟨gl,ol,none⟩) ts.length ci) ts) R'→Rd L ⟨gl,ol+n,none⟩ (ts[n]'hn).1:=fun L R' p=>(bb p).elem (by rw [aL,ab hn];rfl)
 have jt:=ha.yO _ (aA hn);have tg:s.cF.getD n []=(ts[n]'hn).2:=by rw [← ha.cF];exact e6 hn
 have Is:=ha.st.short _ (show (ts[n]'hn).2∈s.cF by rw [← ha.cF];exact aE.2 ⟨_,aA hn,rfl⟩)
 skip
 rw [tg]
 generalize ts[n]'hn=y at *
 obtain ⟨yv,b⟩:=y;dsimp only at jw jt Is ⊢
 refine a8 (args:=[_,_]) func56 rfl ntmps56 results56 rfl ?_;dsimp only [gX,pd.cells,uu];refine wB ?_;refine bV rfl (jw _ _ zP) rfl ?_;refine aZ rfl rfl (dw _ e yv b (jt.cL (cG zP)) zo) ?_;rintro _ _ ⟨ad,c,rfl,rfl⟩;refine wB ?_;exact aY (cS (.slice ad b.length c) b::cU g d k seed s::R) rfl (bh (jH ha)) (.inr ⟨h0,cO,ad,c,rfl,rfl⟩)
theorem yR (g d k:Nat) (seed:du) (s:fM) :
 Ct prog 44 #[pt g] e (cU g d k seed s::R) (fun v' L'=>v'=.int .i64 (16 - (s.keys:Int))∧L'=cU g d k seed s::R):=by
 refine mf fun a M ha=>?_
 refine a8 (args:=[_]) func44 rfl ntmps44 results44 rfl ?_;refine wB ?_;refine aZ rfl rfl (Ct.at zP (Hl _ e a.gb a.gk s.keys ha.st.keys)) ?_;rintro _ _ ⟨rfl,rfl⟩;refine wB ?_;exact aY (cU g d k seed s::R) rfl (cj (show cz _ (gX g d k s a M R) from zE) (jH ha)) ⟨rfl,rfl⟩
theorem Ks (g d k:Nat) (seed:du) (s:fM) (i n:Nat) (hn:n≤s.cF.length) (hi:i<n) :
 Ct prog 19 #[pt g,.int .i64 (i:Int),.int .i64 (n:Int)] e (cU g d k seed s::R) (fun v' L'=>∃ ad c out,v'=.tuple #[.agg #[.int .i64 (i:Int),.int .i64 (n:Int),.slice ad out.length c],.int .i64 0]∧out.map (·.2)=iH ((s.cF.take n).map cY) i∧L'=cV (.slice ad out.length c) out::cH out::cU g d k seed s::R):=by
 refine mf fun a M ha=>?_
 obtain ⟨l1,l2⟩:=ha.len;have ln:=ha.st.size;refine a7 ((bb (.succ (.succ .zero))).shape zo) ?_;rintro ⟨⟨lM,c',hv,h3,h4,h5,h6⟩,_⟩
 cases hv
 have jN:=sA ha.leaves;refine bH (args:=[_,_,_]) func19 rfl ntmps19 results19 rfl ?_
 (repeat (refine wA ?_;intros))
 rw [Int.toNat_natCast];have hk:n≤a.q.us.length:=by omega
 have hlen:(a.q.us.take n).length=n:=by rw [aF];omega
 refine aZ rfl rfl (Cu _ e (.slice a.q.al n a.q.cl) (a.q.us.take n) (i:Int) zo (k6 (bb zP) hk) (fun x hx=>(ha.Ao x (aR hx)).cL (cG zP)) (fun x hx=>by have:=jN x (aR hx);omega) zo) ?_;rintro _ _ (⟨lT,-,-⟩|⟨-,-,ad,c,out,rfl,ho,rfl⟩)
 ·exact absurd ⟨by omega,by omega⟩ lT
 rw [hlen];refine wB ?_;apply br
 ·exact zV
 refine ⟨cV (.slice ad out.length c) out::cH out::cU g d k seed s::R,cj (show cz _ (cV (.slice ad out.length c) out::cH out::gX g d k s a M R) from zE) (bh (bh (jH ha))),ad,c,out,rfl,?_,rfl⟩;rw [ho,Int.toNat_natCast,List.map_take,ha.leaves,List.map_take]
theorem yS (g d k:Nat) (seed:du) (s:fM) (i n:Nat) (hn:n≤s.cF.length) (hi:i≤n) :
 Ct prog 54 #[pt g,.int .i64 (i:Int),.int .i64 (n:Int)] e (cU g d k seed s::R) (fun v' L'=>∃ ad c out,v'=.tuple #[.agg #[.int .i64 (i:Int),.int .i64 (n:Int),.slice ad out.length c],.int .i64 0]∧out.map (·.2)=iY ((s.cF.take n).map cY) i∧L'=cV (.slice ad out.length c) out::cH out::cU g d k seed s::R):=by
 refine mf fun a M ha=>?_
 obtain ⟨l1,l2⟩:=ha.len;have ln:=ha.st.size;refine a7 ((bb (.succ (.succ .zero))).shape zo) ?_;rintro ⟨⟨lM,c',hv,h3,h4,h5,h6⟩,_⟩
 cases hv
 have jN:=sA ha.leaves;refine bH (args:=[_,_,_]) func54 rfl ntmps54 results54 rfl ?_
 (repeat (refine wA ?_;intros))
 rw [Int.toNat_natCast];have hk:n≤a.q.us.length:=by omega
 have hlen:(a.q.us.take n).length=n:=by rw [aF];omega
 refine aZ rfl rfl (Kr _ e (.slice a.q.al n a.q.cl) (a.q.us.take n) (i:Int) zo (k6 (bb zP) hk) (fun x hx=>(ha.Ao x (aR hx)).cL (cG zP)) (fun x hx=>by have:=jN x (aR hx);omega) zo) ?_;rintro _ _ (⟨lT,-,-⟩|⟨-,-,ad,c,out,rfl,ho,rfl⟩)
 ·exact absurd ⟨by omega,by omega⟩ lT
 rw [hlen];refine wB ?_;apply br
 ·exact zV
 refine ⟨cV (.slice ad out.length c) out::cH out::cU g d k seed s::R,cj (show cz _ (cV (.slice ad out.length c) out::cH out::gX g d k s a M R) from zE) (bh (bh (jH ha))),ad,c,out,rfl,?_,rfl⟩;rw [ho,Int.toNat_natCast,List.map_take,ha.leaves,List.map_take]
theorem fM.yT {s:fM} (h:s.ok):s.dC.sig.fits:=by
 unfold fM.dC
 cases hl:s.last with
 | none=>exact ⟨(fun a ha=>by simp [k7] at ha),(fun a ha=>by simp [k7] at ha)⟩
 | some x=>exact (h.last x hl).2.1.fits
theorem yU (g d k:Nat) (seed:du) (s:fM) :
 Ct prog 42 #[pt g] e (cU g d k seed s::R) (fun v' L'=>∃ (N:cJ) (ur up uq:Value),v'=.tuple #[.agg (dS s.dC ur up uq).toArray,.bool s.last.isSome]∧fj [N] ur up uq s.dC∧L'=N::cU g d k seed s::R):=by
 refine mf fun a M ha=>?_
 refine bH (args:=[_]) func42 rfl ntmps42 results42 rfl ?_
 (repeat (refine wA ?_;intros))
 rename_i g2;refine bk (id:=1) [10] (gX g d k s a M R) mixed ?_
 (refine tM 0 ?_;refine tN 1 ?_;refine tF 2 ?_;refine tk 3 _ rfl (cD.df rfl zP zI zX) ?_;refine tM 5 ?_;refine tN 6 ?_;refine tF 7 ?_;refine tL 8 ?_)
 refine tO 4 ?_;refine bg rfl rfl (gQ _ e a.ur a.up a.uq s.dC (ha.last.cL (cG zP)) (fM.yT ha.st)) ?_;rintro _ _ ⟨N,ur,up,uq,rfl,hN,rfl⟩;refine ⟨fun _=>zE,?_⟩;refine A.cB (cn (hN.root.cL (cG zP))) fun o3=>?_
 refine A.cB (hN.sig.cL (cG zP)).parts.one fun o4=>?_
 refine A.cB (hN.sig.cL (cG zP)).path.one fun o5=>?_
 ((refine tO 9 ?_;refine zg ?_;refine ⟨fun _=>(by (repeat first|exact zE|exact bF|refine bh ?_|(apply bw;exact zP)|refine cz.drop ?_);done),?_⟩);(refine tO 10 ?_;refine dV (bj rfl) ?_))
 refine bf zK ?_;refine wB ?_;apply br
 ·exact zV
 exact ⟨N::cU g d k seed s::R,cj (show cz _ (N::gX g d k s a M R) from zE) (bh (jH ha)),N,ur,up,uq,rfl,hN,rfl⟩
theorem IV {M N R:List cJ}:cz (M++(N++R)) (N++(M++R)):=xU (List.perm_append_comm_assoc M N R)
def Kt (s:jV) (v:Value):cJ:=Ex fun N=>dI [Pu (∃ ur up uq,v=.agg (dS s ur up uq).toArray∧fj [N] ur up uq s),N]
theorem Pe {s:jV} {N:cJ} {ur up uq:Value} {R:List cJ} (h:fj [N] ur up uq s):cz (N::R) (Kt s (.agg (dS s ur up uq).toArray)::R) :=
 cj (na (p:=∃ VK VL VM,Value.agg (dS s ur up uq).toArray=.agg (dS s VK VL VM).toArray∧fj [N] VK VL VM s) ⟨ur,up,uq,rfl,h⟩) (cj (dR (M:=[_,_])) (fu (f:=fun N=>dI [Pu (∃ VK VL VM,Value.agg (dS s ur up uq).toArray=.agg (dS s VK VL VM).toArray∧fj [N] VK VL VM s),N]) N))
def CH (s:jV) (v:Value) (_:Nat→Value):List cJ:=match v with|.tuple #[x,_]=>[Kt s x]|_=>[]
def ET (s:jV) (v:Value):cJ:=Ex fun N=>Ex fun q:Nat × Value × Value × Value=>dI [Pu (v=pt q.1∧fj [N] q.2.1 q.2.2.1 q.2.2.2 s),cK q.1 (dS s q.2.1 q.2.2.1 q.2.2.2) 87 (0,0),N]
theorem MS {s:jV} {N:cJ} {g:Nat} {ur up uq:Value} {R:List cJ} (h:fj [N] ur up uq s):cz (cK g (dS s ur up uq) 87 (0,0)::N::R) (ET s (pt g)::R) :=
 cj (na (p:=pt g=pt g∧fj [N] ur up uq s) ⟨rfl,h⟩) (cj (dR (M:=[_,_,_])) (cj (fu (f:=fun q:Nat × Value × Value × Value=>dI [Pu (pt g=pt q.1∧fj [N] q.2.1 q.2.2.1 q.2.2.2 s),cK q.1 (dS s q.2.1 q.2.2.1 q.2.2.2) 87 (0,0),N]) (g,ur,up,uq)) (fu (f:=fun N=>Ex fun q:Nat × Value × Value × Value=>dI [Pu (pt g=pt q.1∧fj [N] q.2.1 q.2.2.1 q.2.2.2 s),cK q.1 (dS s q.2.1 q.2.2.1 q.2.2.2) 87 (0,0),N]) N)))
def MT (root:du) (v:Value) (_:Nat→Value):List cJ:=match v with|.agg #[_,vr]=>[cS vr root]|_=>[]
def fM.dc (s:fM):jc:=⟨s.cF.length,ea (s.cF.map cY)⟩
theorem MU:∀ {l:List du},(∀ a∈l,a.length=32)→(ea l).length=32
 | [],_=>by rw [kZ];exact jT _
 | [a],h=>by rw [nU];exact h a (an.2 rfl)
 | a::b::l,_=>by rw [jU (by simp)];exact dg _ _
theorem fM.BC {s:fM} (h:s.ok):s.dc.right:=by
 refine ⟨h.size,MU fun a ha=>?_⟩;obtain ⟨b,_,rfl⟩:=aE.1 ha;exact dg _ _
def fM.same (s:fM):Prop:=s.last.isSome=true∧s.dC.dc.size=s.cF.length
instance Xw (s:fM):Decidable s.same:=by unfold fM.same;infer_instance
def fM.iG (seed:du) (s:fM):fM:=if s.same then s else if s.keys<16 then { s with keys:=s.keys+1,last:=some (ue seed s.keys s.dc) } else s
theorem Ku (g d k:Nat) (seed:du) (s:fM) :
 Ct prog 171 #[pt g] e (cU g d k seed s::R) (fun v' L'=>(s.same∨s.keys<16→∃ (N:cJ) (ur up uq:Value),v'=.tuple #[.agg (dS (s.iG seed).dC ur up uq).toArray,.int .i64 0]∧fj [N] ur up uq (s.iG seed).dC∧L'=N::cU g d k seed (s.iG seed)::R)∧(¬ (s.same∨s.keys<16)→v'=.tuple #[.agg (dS k7 nY nY nY).toArray,.int .i64 23]∧L'=cU g d k seed s::R)):=by
 refine mf fun a M ha=>?_
 obtain ⟨l1,l2⟩:=ha.len;refine bH (args:=[_]) func171 rfl ntmps171 results171 rfl ?_
 (repeat' first|refine W.u2 (id:=3) (fun g2:Nat=>[(0,pt g),(2,pt g2),(3,.int .i64 0)]) (fun g2=>cK g2 (dS k7 nY nY nY) 87 (0,0)::gX g d k s a M R) (fun _=>¬ s.same) ?_ ?_|refine Zb ?_|apply Zc|apply Zd|apply Ze|apply Zf|refine Yh fun _=>?_|fail)
 rotate_left
 ·refine ⟨?_⟩;rename_i g2
  (repeat (refine wA ?_;intros))
  refine bk (id:=1) [] (gX g d k s a M R) mixed ?_
  by_cases fR:s.last.isSome=true
  rotate_left
  ·have fR:s.last.isSome=false:=by simpa using fR
   (refine tM 0 ?_;refine tN 1 ?_;refine tF 2 ?_;refine tL 3 ?_;refine tM 4 ?_)
   rw [fR]
   (refine bc 5 rfl rfl zK zE rfl ?_;refine bc 6 rfl rfl zK zE rfl ?_;refine bc 7 rfl rfl zK zE rfl ?_;refine bc 8 rfl rfl zK zE rfl ?_;refine bc 9 rfl rfl zK zE rfl ?_;refine bc 10 rfl rfl zK zE rfl ?_;refine bc 11 rfl rfl zK zE rfl ?_;refine bc 12 rfl rfl zK zE rfl ?_;refine bc 13 rfl rfl zK zE rfl ?_;refine bc 14 rfl rfl zK zE rfl ?_;refine bc 15 rfl rfl zK zE rfl ?_;refine bc 16 rfl rfl zK zE rfl ?_;refine tk 17 _ rfl (bI rfl rfl) ?_)
   refine bf zK ?_;refine wB ?_;exact bJ g2 (fun q=>by have:=q.1;rw [fR] at this;cases this) zS aX
  by_cases m4:s.dC.dc.size=s.cF.length
  rotate_left
  ·(refine tM 0 ?_;refine tN 1 ?_;refine tF 2 ?_;refine tL 3 ?_;refine tM 4 ?_)
   rw [fR]
   (refine dt 5 _ rfl (bu rfl) ?_;refine dt 6 _ rfl (bn rfl) ?_;refine dt 7 _ rfl (ba rfl) ?_;refine dt 8 _ rfl (ba rfl) ?_;refine dt 9 _ rfl (ba rfl) ?_;refine dt 10 _ rfl (bp rfl zR) ?_;refine dt 11 _ rfl (bu rfl) ?_;refine dt 12 _ rfl (bn rfl) ?_;refine dt 13 _ rfl (ba rfl) ?_;refine dt 14 _ rfl (bp rfl zR) ?_;refine dt 15 _ rfl (bM rfl) ?_;refine dt 16 (.bool false) rfl (cD.no (bW rfl rfl) zn) ?_;refine tk 17 _ rfl (bK rfl rfl) ?_)
   refine bf zK ?_;refine wB ?_;exact bJ g2 (fun q=>m4 q.2) zS aX
  have Ge:s.same:=⟨fR,m4⟩
  have Cs:s.iG seed=s:=by unfold fM.iG;rw [aI Ge]
  (refine tM 0 ?_;refine tN 1 ?_;refine tF 2 ?_;refine tL 3 ?_;refine tM 4 ?_)
  rw [fR]
  (refine dt 5 _ rfl (bu rfl) ?_;refine dt 6 _ rfl (bn rfl) ?_;refine dt 7 _ rfl (ba rfl) ?_;refine dt 8 _ rfl (ba rfl) ?_;refine dt 9 _ rfl (ba rfl) ?_;refine dt 10 _ rfl (bp rfl zR) ?_;refine dt 11 _ rfl (bu rfl) ?_;refine dt 12 _ rfl (bn rfl) ?_;refine dt 13 _ rfl (ba rfl) ?_;refine dt 14 _ rfl (bp rfl zR) ?_;refine dt 15 _ rfl (bM rfl) ?_;refine dt 16 (.bool true) rfl (cD.iQ (bW rfl rfl) zy) ?_;refine tk 17 _ rfl (bK rfl rfl) ?_)
  refine bf zK ?_
  (repeat' first|refine Za ?_|apply Zc|apply Zd|apply Zf|refine Zg ?_|refine Zh ?_|refine Yz ?_|(apply O.df;exact rfl;exact zP;(first|(simp only [aC,Nat.add_zero,Nat.reduceAdd,List.drop_succ_cons,List.drop_zero,List.take_succ_cons,List.take_zero];done)|(simp only [aC,Nat.add_zero,Nat.reduceAdd,List.drop_succ_cons,List.drop_zero,List.take_succ_cons,List.take_zero];exact rfl));exact rfl;exact rfl))
  refine aZ rfl rfl (gQ _ e a.ur a.up a.uq s.dC (ha.last.cL (cG zP)) (fM.yT ha.st)) ?_;rintro _ _ ⟨N,ur,up,uq,rfl,hN,rfl⟩;refine bm (cn (hN.root.cL (cG zP))) fun o3=>?_
  refine bm (hN.sig.cL (cG zP)).parts.one fun o4=>?_
  refine bm (hN.sig.cL (cG zP)).path.one fun o5=>?_
  refine wB ?_;apply br
  ·exact zV
  exact ⟨N::cU g d k seed s::R,cj (show cz _ (N::gX g d k s a M R) from zE) (bh (jH ha)),fun _=>⟨N,ur,up,uq,by rw [Cs];rfl,by rw [Cs];exact hN,by rw [Cs]⟩,fun h=>absurd (.inl Ge) h⟩
 intro g2 Ge
 by_cases hk:s.keys<16
 rotate_left
 ·have Ka:s.keys=16:=by have:=ha.st.keys;omega
  have ht:=wL (cK g2 (dS k7 nY nY nY) 87 (0,0)::cK g (a.cells s) yJ (0,0)::cV (.slice a.q.ai a.q.ts.length a.q.ci) a.q.ts::cV (.slice a.q.al a.q.us.length a.q.cl) a.q.us::iC nB a.gm (ic (a.q.ts.map (·.2)) 0)::M::jd a.gj d s.recs.length::de d (dx s.jb)::R) e a.gb a.gk k 1048576 zo zo;rw [← Ka] at ht
  refine wB ?_;refine aZ rfl rfl (ht.cL zE) ?_;rintro _ _ ⟨rfl,rfl⟩;refine wB ?_;apply br
  ·exact zV
  exact ⟨cU g d k seed s::R,cj (show cz _ (gX g d k s a M R) from zE) (jH ha),fun h=>absurd h (fun q=>q.elim Ge hk),fun _=>⟨rfl,rfl⟩⟩
 have Cs:s.iG seed={ s with keys:=s.keys+1,last:=some (ue seed s.keys s.dc) }:=by unfold fM.iG;rw [aB Ge,aI hk]
 have Gf:=fM.BC ha.st;have ht:=wK (cK g2 (dS k7 nY nY nY) 87 (0,0)::cK g (a.cells s) yJ (0,0)::cV (.slice a.q.ai a.q.ts.length a.q.ci) a.q.ts::cV (.slice a.q.al a.q.us.length a.q.cl) a.q.us::iC nB a.gm (ic (a.q.ts.map (·.2)) 0)::M::jd a.gj d s.recs.length::de d (dx s.jb)::R) e a.gb a.gk k s.keys 1048576 hk zo zo;obtain ⟨s1,fR⟩:∃ s1:fM,s1={ s with keys:=s.keys+1 }:=⟨_,rfl⟩
 have Ht:a.ok M seed s1:=by
  rw [fR];exact ⟨ha.wP,ha.cF,ha.yO,ha.leaves,ha.Ao,ha.last,⟨ha.st.full,ha.st.nodup,ha.st.size,ha.st.short,hk,ha.st.last⟩,ha.sd⟩
 refine wB ?_;refine aZ rfl rfl (ht.cL zE) ?_;rintro _ _ ⟨rfl,rfl⟩;refine O.fo (show cz _ (gX g d k s1 a M (cK g2 (dS k7 nY nY nY) 87 (0,0)::R)) from ?_) ?_
 ·rw [fR];exact zE
 have sf:s1.cF=s.cF:=by rw [fR];rfl
 have Gd:s1.dc=s.dc:=by rw [fR];rfl
 refine wB ?_;refine W.fe [(0,pt g),(2,pt g2),(3,.int .i64 0),(4,.int .i64 (s.keys:Int)),(5,.int .i64 0)] zS ?_;refine bk (id:=6) [19] (gX g d k s1 a M R) mixed ?_
 (refine tM 0 ?_;refine tN 1 ?_;refine tF 2 ?_;refine tL 3 ?_;refine tM 4 ?_;refine tM 5 ?_;refine tN 6 ?_;refine tF 7 ?_;refine tL 8 ?_;refine tk 9 _ rfl (bM rfl) ?_;refine tM 10 ?_)
 rw [l1];have BD:ea (s.cF.map cY)=s.dc.root:=rfl;have VN:s.cF.length=s.dc.size:=rfl;have JY:=ha.sd;have aaM:=Gf.2
 generalize Sg:ue seed s.keys s.dc=sg at *
 generalize Sh:s.dc=ck at *
 refine A.ON (n:=1) [
  ⟨11,54,[],[],fun v _=>∃ ad c,v=.slice ad ck.root.length c,[(0,fun v _=>[cS v ck.root])]⟩,
  ⟨12,55,[11],[0],fun v _=>∃ ad c,v=.agg (iS ck (.slice ad ck.root.length c)).toArray,[(1,MT ck.root)]⟩,
  ⟨13,56,[12],[1],fun v _=>∃ x,v=.tuple #[x,.int .i64 0],[(2,CH sg)]⟩,
  ⟨14,42,[13],[2],fun v _=>∃ x,v=.tuple #[x,.int .i64 0],[(3,CH sg)]⟩,
  ⟨15,57,[14],[3],fun _ _=>True,[(4,fun v _=>[Kt sg v])]⟩,
  tC 16 58 [14] (.int .i64 0),
  Me 17 6 5 87 (dS k7 nY nY nY),
  ⟨18,100018,[15,17],[4,5],fun _ _=>True,[(6,fun _ W=>[ET sg (W 17)])]⟩] 8 rfl zK zK ?_ zE ?_
 ·refine dl ?_ (dl ?_ (dl ?_ (dl ?_ (dl ?_ (dl ?_ (dl ?_ (dl ?_ qf)))))))
  ·refine ⟨_,rfl,.inl rfl,fun V σr M1 h3 hy=>?_⟩;have hr:=(ES (M1++(cK g2 (dS k7 nY nY nY) 87 (0,0)::R)) e g d k seed s1 a M Ht).cL (IV (M:=M1) (N:=gX g d k s1 a M []) (R:=cK g2 (dS k7 nY nY nY) 87 (0,0)::R));rw [sf,BD] at hr
   refine bS (show cz _ (M1++(gX g d k s1 a M (cK g2 (dS k7 nY nY nY) 87 (0,0)::R))) from aX) ?_;refine bg (OO (h3 53 _ rfl)) rfl hr ?_;rintro _ _ ⟨ad,c,rfl,rfl⟩;exact ⟨_,rfl,⟨ad,c,rfl⟩,bh (IV (M:=gX g d k s1 a M []) (N:=M1) (R:=cK g2 (dS k7 nY nY nY) 87 (0,0)::R))⟩
  ·refine ⟨_,rfl,.inl rfl,fun V σr M1 h3 hy=>?_⟩;obtain ⟨ME,ad,c,hv⟩:=hy _ (az (i:=0) rfl) (az (i:=0) rfl) (fx rfl);have s52:=h3 52 _ rfl;dsimp only at ME hv
   refine bS (show cz _ (([cS (V 11) ck.root]++[])++(M1++(gX g d k s1 a M (cK g2 (dS k7 nY nY nY) 87 (0,0)::R)))) from aX) ?_;rw [hv] at ME ⊢
   rw [VN] at s52
   exact bN (v:=.agg (iS ck (.slice ad ck.root.length c)).toArray) (bL (parts:=[(0,.tmp 52),(1,.tmp 54)]) (vs:=[(0,.int .i64 (ck.size:Int)),(1,.slice ad ck.root.length c)]) (by simp [uU,ev,ME,s52]) (by simp [Instr.fill,Value.cells])) rfl ⟨_,rfl,⟨ad,c,rfl⟩,aX⟩
  ·refine ⟨_,rfl,.inl rfl,fun V σr M1 h3 hy=>?_⟩;obtain ⟨Si,ad,c,hv⟩:=hy _ (az (i:=1) rfl) (az (i:=0) rfl) (fx rfl);have s46:=h3 46 _ rfl;have s47:=h3 47 _ rfl;dsimp only at Si hv
   refine bS (show cz _ ((MT ck.root (V 12) V++[])++(M1++(gX g d k s1 a M (cK g2 (dS k7 nY nY nY) 87 (0,0)::R)))) from aX) ?_;rw [hv] at Si ⊢
   refine bS (show cz _ (cS (.slice ad ck.root.length c) ck.root::(M1++(gX g d k s1 a M (cK g2 (dS k7 nY nY nY) 87 (0,0)::R)))) from aX) ?_;have B9:=G0 (cS (.slice ad ck.root.length c) ck.root::(M1++(gX g d k s1 a M (cK g2 (dS k7 nY nY nY) 87 (0,0)::R)))) e a.vs (.slice ad ck.root.length c) seed s.keys ck (ha.wP.cL (cz.drop (cj (ku M1) (cG zP)))) JY hk (bb .zero) Gf;rw [Sg] at B9
   refine bg (xs:=[.tmp 46,.tmp 47,.tmp 55]) (vs:=[a.vs,.int .i64 (s.keys:Int),.agg (iS ck (.slice ad ck.root.length c)).toArray]) (by simp [pZ,ev,Si,s46,s47]) rfl B9 ?_;rintro _ _ ⟨N,ur,up,uq,rfl,hN,rfl⟩;exact ⟨_,rfl,⟨_,rfl⟩,cj (Pe hN) (bh (cz.drop aX))⟩
  ·refine ⟨_,rfl,.inl rfl,fun V σr M1 h3 hy=>?_⟩;obtain ⟨s13,x,hv⟩:=hy _ (az (i:=2) rfl) (az (i:=0) rfl) (fx rfl);dsimp only at s13 hv
   refine bS (show cz _ ((CH sg (V 13) V++[])++(M1++(gX g d k s1 a M (cK g2 (dS k7 nY nY nY) 87 (0,0)::R)))) from aX) ?_;rw [hv] at s13 ⊢
   exact bN (bu s13) rfl ⟨_,rfl,⟨x,rfl⟩,aX⟩
  ·refine ⟨_,rfl,.inl rfl,fun V σr M1 h3 hy=>?_⟩;obtain ⟨MF,x,hv⟩:=hy _ (az (i:=3) rfl) (az (i:=0) rfl) (fx rfl);dsimp only at MF hv
   refine bS (show cz _ ((CH sg (V 14) V++[])++(M1++(gX g d k s1 a M (cK g2 (dS k7 nY nY nY) 87 (0,0)::R)))) from aX) ?_;rw [hv] at MF ⊢
   exact bN (v:=x) (bl (vs:=[x,.int .i64 0]) MF rfl) rfl ⟨_,rfl,trivial,aX⟩
  ·refine qe rfl (.inl rfl) rfl rfl fun V σr L wH hy _=>?_
   obtain ⟨MF,x,hv⟩:=hy _ (az (i:=3) rfl) (az (i:=0) rfl) (fx rfl);dsimp only at MF hv
   rw [hv] at MF
   exact bl (vs:=[x,.int .i64 0]) MF rfl
  ·exact Ch rfl (.inl rfl) rfl rfl rfl
  ·refine ⟨_,rfl,.inl rfl,fun V σr M1 h3 hy=>?_⟩;obtain ⟨s15,-⟩:=hy _ (az (i:=4) rfl) (az (i:=0) rfl) (fx rfl);obtain ⟨R9,g6,hv⟩:=hy _ (az (i:=6) rfl) (az (i:=1) rfl) (fx rfl);dsimp only at s15 R9 hv
   refine bS (show cz _ (([Kt sg (V 15)]++(Cg (dS k7 nY nY nY) 87 (V 17) V++[]))++(M1++(gX g d k s1 a M (cK g2 (dS k7 nY nY nY) 87 (0,0)::R)))) from aX) ?_;have hw:fJ [15,17] V 17=pt g6:=hv;rw [hv] at R9 ⊢
   refine bS (show cz _ (Kt sg (V 15)::cK g6 (dS k7 nY nY nY) 87 (0,0)::(M1++(gX g d k s1 a M (cK g2 (dS k7 nY nY nY) 87 (0,0)::R)))) from aX) ?_;unfold Kt;refine Do.T3 fun N=>?_
   refine bS cT ?_;refine Do.Vj fun hN=>?_
   obtain ⟨ur,up,uq,h15,hN⟩:=hN;rw [h15] at s15
   refine Do.OP (cn (hN.root.cL (cG .zero))) fun o3=>?_
   refine Do.OP (hN.sig.cL (cG .zero)).parts.one fun o4=>?_
   refine Do.OP (hN.sig.cL (cG .zero)).path.one fun o5=>?_
   refine Do.ek (cs':=dS sg ur up uq) R9 s15 rfl zO zU zW ⟨.pointer none,rfl,trivial,?_⟩
   show cz _ (ET sg (fJ [15,17] V 17)::(M1++(gX g d k s1 a M (cK g2 (dS k7 nY nY nY) 87 (0,0)::R))))
   rw [hw];exact cj (show cz _ (cK g6 (dS sg ur up uq) 87 (0,0)::N::(M1++(gX g d k s1 a M (cK g2 (dS k7 nY nY nY) 87 (0,0)::R)))) from bw (.succ .zero) (bh aX)) (MS hN)
 intro V hV;obtain ⟨g6,v17⟩:=hV _ (az (i:=6) rfl);have v16:=hV _ (az (i:=5) rfl);clear hV;dsimp only at v16 v17
 refine A.fo (show cz _ (ET sg (V 17)::gX g d k s1 a M (cK g2 (dS k7 nY nY nY) 87 (0,0)::R)) from aX) ?_;simp only [kW,Nat.reduceLT,if_true,if_false,List.cons_append,List.nil_append];rw [v16,v17];unfold ET;refine A.T3 fun N=>?_
 refine A.T3 fun ⟨g7,ur,up,uq⟩=>?_
 refine A.fo cT ?_;refine A.Vj fun hN=>?_
 obtain ⟨hg7,hN⟩:=hN
 cases hg7
 dsimp only at hN ⊢
 refine A.fo (show cz _ (cK g7 (dS sg ur up uq) 87 (0,0)::N::gX g d k s1 a M (cK g2 (dS k7 nY nY nY) 87 (0,0)::R)) from aX) ?_;refine A.cB (cn (hN.root.cL (cG zP))) fun o3=>?_
 refine A.cB (hN.sig.cL (cG zP)).parts.one fun o4=>?_
 refine A.cB (hN.sig.cL (cG zP)).path.one fun o5=>?_
 ((refine tO 19 ?_;refine dV (bj rfl) ?_))
 refine bf zK ?_;have Pf:sg.sig.right:=by rw [← Sg];exact j6 hk
 have Sj:sg.dc=ck:=by rw [← Sg];rfl
 have eT:cz [dI [M,N]] [M]:=cj (cT (M:=[M,N]) (L:=[])) (bh bF);have iI:cz [dI [M,N]] [N]:=cj (cT (M:=[M,N]) (L:=[])) (cz.drop (bh bF));obtain ⟨a2,LH⟩:∃ a2:pd,a2={ a with ur:=ur,up:=up,uq:=uq }:=⟨_,rfl⟩
 have Ud:(s.iG seed).dC=sg:=by rw [Cs];rfl
 have j1:a2.ok (dI [M,N]) seed (s.iG seed):=by
  rw [Cs,LH];refine ⟨ha.wP.cL eT,ha.cF,fun x hx=>(ha.yO x hx).cL eT,ha.leaves,fun x hx=>(ha.Ao x hx).cL eT,hN.cL iI,⟨ha.st.full,ha.st.nodup,ha.st.size,ha.st.short,hk,fun x hx=>?_⟩,ha.sd⟩
  cases hx
  rw [Sj];exact ⟨Gf,Pf,by rw [← VN];exact aS _⟩
 dsimp only [gX,pd.cells,uu];refine wB ?_;refine aZ rfl rfl (gQ _ e ur up uq sg (hN.cL (cG (.succ .zero))) Pf.fits) ?_;rintro _ _ ⟨N2,ur2,up2,QU,rfl,nr,rfl⟩;refine bm (cn (nr.root.cL (cG zP))) fun o6=>?_
 refine bm (nr.sig.cL (cG zP)).parts.one fun o7=>?_
 refine bm (nr.sig.cL (cG zP)).path.one fun o8=>?_
 refine wB ?_;apply br
 ·exact zV
 refine ⟨N2::cU g d k seed (s.iG seed)::R,?_,fun _=>⟨N2,ur2,up2,QU,by rw [Ud];rfl,by rw [Ud];exact nr,rfl⟩,fun h=>absurd (.inr hk) h⟩;refine cj ?_ (bh (jH j1));rw [Cs,LH,fR];refine cj (show cz _ (M::N::N2::cK g [pt a.gj,pt a.gb,a.vs,a.vp,.slice a.q.ai a.q.ts.length a.q.ci,.slice a.q.al a.q.us.length a.q.cl,.map (some a.gm),.int .i64 (sg.dc.size:Int),ur,.int .i64 (sg.sig.idx:Int),up,uq,.bool true] yJ (0,0)::cV (.slice a.q.ai a.q.ts.length a.q.ci) a.q.ts::cV (.slice a.q.al a.q.us.length a.q.cl) a.q.us::iC nB a.gm (ic (a.q.ts.map (·.2)) 0)::jd a.gj d s.recs.length::de d (dx s.jb)::lF a.gb a.gk (s.keys+1)::jd a.gk k (s.keys+1)::de k (eo (s.keys+1) 1048576)::R) from zE) (cj (dR (M:=[M,N])) zE)
def fM.fresh (s:fM) (l:List du):List du:=fg s.cF [] l
def fM.add (s:fM) (l:List du):fM:=if s.fresh l=[] then s else { s with recs:=s.recs++[s.fresh l] }
theorem fM.BE (s:fM) (l:List du):(s.add l).cF=s.cF++s.fresh l:=by
 unfold fM.add
 split
 ·rename_i h;rw [h,aK]
 ·simp [fM.cF]
theorem yV {l:List du} (h:∀ b∈l,b.length≤200):(mT l).length≤4+l.length*202:=by
 have:=yI h;unfold mT;rw [aa,cX]
 omega
theorem IW:∀ {recs:List (List du)},(∀ r∈recs,r≠[])→(∀ b∈recs.flatten,b.length≤200)→(eV (recs.map mT)).length≤recs.flatten.length*214
 | [],_,_=>by simp [eV]
 | r::recs,h1,h2=>by
  have h3:=IW (recs:=recs) (fun x hx=>h1 x (aT _ hx)) (fun b hb=>h2 b (by rw [List.flatten_cons];exact List.mem_append_right _ hb));have h4:=yV (l:=r) (fun b hb=>h2 b (by rw [List.flatten_cons];exact List.mem_append_left _ hb));have h5:=List.length_pos_iff.2 (h1 r (List.mem_cons_self ..))
  show (fB (mT r)++eV (recs.map mT)).length≤_
  rw [aa,gI,List.flatten_cons,aa,Nat.add_mul]
  omega
theorem CI:∀ l:List du,l.length≤(eV l).length
 | []=>aS _
 | m::l=>by
  have:=CI l
  show _≤(fB m++eV l).length
  rw [aa,gI,aN]
  omega
theorem fM.Hu {s:fM} (h:s.ok):s.jb.length≤s.cF.length*214:=IW h.full h.short
theorem Kv (g d k:Nat) (seed:du) (s:fM) (v:Value) (ls:List ej) (hv:cE R 1 v ls.length (ls.map (·.1))) (ht:dQ R ls) (hl:ls.length≤1000) (hb:∀ a∈ls,a.2.length≤200) (hc:s.cF.length+(s.fresh (ls.map (·.2))).length≤256) :
 Ct prog 15 #[pt g,v] e (cU g d k seed s::R) (fun v' L'=>∃ (ao:Option Addr) (co:Nat) (outs:List Nat),v'=.tuple #[.slice ao outs.length co,.int .i64 0]∧outs=(ls.map (·.2)).map (lP (s.add (ls.map (·.2))).cF)∧L'=uv (.slice ao outs.length co) outs::cU g d k seed (s.add (ls.map (·.2)))::R):=by
 refine mf fun a M ha=>?_
 obtain ⟨l1,l2⟩:=ha.len;have ln:=ha.st.size;refine a8 (args:=[_,_]) func15 rfl ntmps15 results15 rfl ?_;refine wB ?_;refine aZ rfl rfl (Hq _ e g _ _ _ _ _ _ _ _ _ _ _ a.q v ls (hv.cL zE) (fun x hx=>(ht x hx).cL zE) hl zo) ?_;rintro _ _ ⟨ao,af,co,cf,fs,outs,rfl,hS,rfl⟩
 have mU:fs.map (·.2)=s.fresh (ls.map (·.2)):=by
  rw [hS.fresh,ha.cF,aG (by rw [ae];exact aS _)]
  rfl
 have DF:fs.length=(s.fresh (ls.map (·.2))).length:=by rw [← mU,ae]
 have hai:=fM.BE s (ls.map (·.2))
 have MV:outs=(ls.map (·.2)).map (lP (s.add (ls.map (·.2))).cF):=by
  rw [hai,← mU];apply List.ext_getElem
  ·rw [hS.len,ae,ae]
  ·intro j h1 h2;rw [hS.outs j h1,ha.cF,List.getElem_map,ax,ab (by rw [ae] at h2;exact h2)]
   rfl
 by_cases h0:fs=[]
 ·have qj:s.add (ls.map (·.2))=s:=by unfold fM.add;rw [← mU,h0,List.map_nil,aI rfl]
  have hz:fs.length=0:=by rw [h0];rfl
  rw [qj] at MV ⊢
  refine wB ?_;exact aY (uv (.slice ao outs.length co) outs::cU g d k seed s::R) rfl (cj (show cz _ (uv (.slice ao outs.length co) outs::gX g d k s a M R) from zE) (bh (jH ha))) ⟨ao,co,outs,rfl,MV,rfl⟩
 have Ag:0<fs.length:=List.length_pos_iff.2 h0;refine wB ?_;have BF:∀ x∈fs,x.2.length≤200:=fun x hx=>hb x (hS.sub x hx)
 have ae6:fs.length≤256:=by omega
 have xj:=fM.Hu ha.st
 have qj:s.add (ls.map (·.2))={ s with recs:=s.recs++[fs.map (·.2)] }:=by
  unfold fM.add;rw [← mU,aB (fun q=>h0 (List.map_eq_nil_iff.1 q))]
 have Kw:=yV (l:=fs.map (·.2)) (fun b tc=>by obtain ⟨x,hx,rfl⟩:=aE.1 tc;exact BF x hx);rw [ae] at Kw
 refine aZ rfl rfl (jh _ e) ?_;rintro _ _ ⟨gw,rfl,rfl⟩;refine wB ?_;refine aZ rfl rfl (gD _ e gw [] fs.length zo (by decide)) ?_;rintro _ _ ⟨rfl,rfl⟩;refine wB ?_;have ft:fs.take fs.length=fs:=List.take_length
 have hew:=G8 (uv (.slice ao outs.length co) outs::cV (.slice af fs.length cf) fs::gX g d k s a M R) e gw ([]++be fs.length 4) (.slice af fs.length cf) fs fs.length (bb zP) (fun x hx=>(ht x (hS.sub x hx)).cL zE) (aS _) (by
  rw [ft,wM];have:(mT (fs.map (·.2))).length=4+(rz (fs.map (·.2))).length:=by unfold mT;rw [aa,cX]
  rw [aa,cX,List.length_nil]
  omega) (fun x hx=>by rw [ft] at hx;have:=BF x hx;omega) (fun h=>absurd h (Nat.lt_irrefl _))
 rw [ft,ay rfl,show []++be fs.length 4++jn fs=mT (fs.map (·.2)) by unfold mT;rw [wM,ae,List.nil_append]] at hew
 refine aZ rfl rfl hew ?_;rintro _ _ ⟨rfl,rfl⟩
 generalize Hc:mT (fs.map (·.2))=rec at *
 refine wB ?_;refine aZ rfl rfl (hJ _ e gw rec zo) ?_;rintro _ _ ⟨ux,cr,rfl,rfl⟩;have wZ:s.jb.length+rec.length+8≤1048576:=by omega
 obtain ⟨p1,p2,p3⟩:=add_plain (m:=rec) (sy:=s.jb.length) wZ
 have MW:=nZ (cS (.slice ux rec.length cr) rec::uv (.slice ao outs.length co) outs::cV (.slice af fs.length cf) fs::cK g (a.cells s) yJ (0,0)::cV (.slice a.q.ai a.q.ts.length a.q.ci) a.q.ts::cV (.slice a.q.al a.q.us.length a.q.cl) a.q.us::iC nB a.gm (ic (a.q.ts.map (·.2)) 0)::M::lF a.gb a.gk s.keys::jd a.gk k s.keys::de k (eo s.keys 1048576)::R) e a.gj d s.recs.length (nk s.jb s.jb.length) rec (.slice ux rec.length cr) (uj zo (aS _)) (bb .zero) zo (by
  have:s.recs.length≤s.jb.length:=by
   have:=xj;unfold fM.jb;exact Nat.le_trans (by simp) (CI (s.recs.map mT))
  omega)
 rw [p1,p2,p3] at MW
 (repeat' first|refine Za ?_|refine Zb ?_|apply Zc|apply Zd|apply Ze|apply Zf|refine Zg ?_|refine Zh ?_|refine Zi ?_|refine Zj ?_|refine Zk ?_|refine Zl ?_|refine Zm ?_|refine Zn ?_|refine Zo ?_|refine Zq ?_|refine Zs ?_|refine Zt ?_|refine Zu ?_|refine Zy ?_|refine Zz ?_|refine ZG ?_|refine ZH ?_|refine ZI (fun _=>?_) fun _=>?_|refine ZM ?_|refine ZN ?_|refine ZO (fun _=>?_) fun _=>?_|refine ZP ?_|refine ZQ ?_|refine ZU ?_|refine ZV ?_|refine ZY ?_|refine ZZ ?_|refine Z6 ?_|refine Z7 ?_|refine Z8 ?_|refine Ya ?_|refine Yb ?_|refine Yf ?_|refine Ym ?_|refine Yz ?_|refine YA ?_|apply YC|apply YE|apply YF|refine YN ?_|refine YP ?_|(apply O.df;exact rfl;exact zP;(first|(simp only [aC,Nat.add_zero,Nat.reduceAdd,List.drop_succ_cons,List.drop_zero,List.take_succ_cons,List.take_zero];done)|(simp only [aC,Nat.add_zero,Nat.reduceAdd,List.drop_succ_cons,List.drop_zero,List.take_succ_cons,List.take_zero];exact rfl));exact rfl;exact rfl))
 refine O.gB (us:=[pt a.gj]) (ws:=[]) rfl rfl rfl (MW.cL zE) ?_;rintro _ _ ⟨rfl,rfl⟩;refine wB ?_
 have z9:(a.q.ts.map (·.2)++fs.map (·.2)).Nodup:=by
  rw [ha.cF,mU];exact pb (by rw [aK];exact ha.st.nodup)
 have MQ:=By (cV (.slice af fs.length cf) fs::M::uv (.slice ao outs.length co) outs::jd a.gj d (s.recs.length+1)::de d (dx (s.jb++fB rec))::lF a.gb a.gk s.keys::jd a.gk k s.keys::de k (eo s.keys 1048576)::R) e g (pt a.gj) (pt a.gb) a.vs a.vp a.gm (.int .i64 (s.dC.dc.size:Int)) a.ur (.int .i64 (s.dC.sig.idx:Int)) a.up a.uq (.bool s.last.isSome) a.q (.slice af fs.length cf) fs (bb .zero) (fun x hx=>(ht x (hS.sub x hx)).cL zE) z9 zo zo BF;refine aZ rfl rfl (MQ.cL zE) ?_;rintro _ _ ⟨rfl,q2,xh,xz,Ei,Cp,hq3,hq4,rfl⟩;have vF:(s.add (ls.map (·.2))).cF=s.cF++fs.map (·.2):=by rw [hai,mU]
 obtain ⟨a2,LH⟩:∃ a2:pd,a2={ a with q:=q2 }:=⟨_,rfl⟩
 obtain ⟨M2,CJ⟩:∃ M2:cJ,M2=dI [M,cH xh,cH xz]:=⟨_,rfl⟩
 have eT:cz [M2] [M]:=by rw [CJ];exact cj (cT (M:=[M,cH xh,cH xz]) (L:=[])) (bh bF)
 have iI:cz [M2] [cH xh]:=by rw [CJ];exact cj (cT (M:=[M,cH xh,cH xz]) (L:=[])) (cz.drop (bh bF))
 have VO:cz [M2] [cH xz]:=by rw [CJ];exact cj (cT (M:=[M,cH xh,cH xz]) (L:=[])) (cz.drop (cz.drop (bh bF)))
 have j1:a2.ok M2 seed (s.add (ls.map (·.2))):=by
  rw [LH];refine ⟨ha.wP.cL eT,?_,?_,?_,?_,?_,⟨?_,?_,?_,?_,?_,?_⟩,ha.sd⟩
  ·rw [vF]
   show q2.ts.map (·.2)=_
   rw [Ei,ah,ha.cF,hq3]
  ·intro x hx;rw [show (pd.q { a with q:=q2 }).ts=q2.ts from rfl,Ei] at hx
   rcases aJ.1 hx with hx|hx
   ·exact (ha.yO x hx).cL eT
   ·exact (eF (R:=[]) x hx).cL iI
  ·rw [vF]
   show q2.us.map (·.2)=_
   rw [Cp,ah,ha.leaves,hq4,ah]
  ·intro x hx;rw [show (pd.q { a with q:=q2 }).us=q2.us from rfl,Cp] at hx
   rcases aJ.1 hx with hx|hx
   ·exact (ha.Ao x hx).cL eT
   ·exact (eF (R:=[]) x hx).cL VO
  ·rw [qj];exact ha.last.cL eT
  ·rw [qj];intro r hr;rcases aJ.1 hr with hr|hr
   ·exact ha.st.full r hr
   ·rw [an.1 hr];exact fun q=>h0 (List.map_eq_nil_iff.1 q)
  ·rw [vF,← ha.cF];exact z9
  ·rw [vF,aa,ae];omega
  ·rw [vF];intro b tc;rcases aJ.1 tc with tc|tc
   ·exact ha.st.short b tc
   ·obtain ⟨x,hx,rfl⟩:=aE.1 tc;exact BF x hx
  ·rw [qj];exact ha.st.keys
  ·rw [vF];intro x hx;rw [qj] at hx
   obtain ⟨y1,y2,y3⟩:=ha.st.last x hx;exact ⟨y1,y2,by rw [aa];omega⟩
 have My:(s.add (ls.map (·.2))).recs.length=s.recs.length+1:=by rw [qj];simp
 have VP:(s.add (ls.map (·.2))).jb=s.jb++fB rec:=by
  rw [qj];unfold fM.jb;rw [ah,List.map_cons,List.map_nil,n8,Hc]
 have QV:(s.add (ls.map (·.2))).keys=s.keys:=by rw [qj]
 have DZ:(s.add (ls.map (·.2))).last=s.last:=by rw [qj]
 have Ud:(s.add (ls.map (·.2))).dC=s.dC:=by unfold fM.dC;rw [DZ]
 refine wB ?_;refine aY (uv (.slice ao outs.length co) outs::cU g d k seed (s.add (ls.map (·.2)))::R) rfl (cj ?_ (bh (jH j1))) ⟨ao,co,outs,rfl,MV,rfl⟩;unfold gX pd.cells;rw [My,VP,QV,DZ,Ud,LH,CJ];exact cj (show cz _ (M::cH xh::cH xz::uv (.slice ao outs.length co) outs::cK g (uu (pt a.gj) (pt a.gb) a.vs a.vp a.gm [.int .i64 (s.dC.dc.size:Int),a.ur,.int .i64 (s.dC.sig.idx:Int),a.up,a.uq,.bool s.last.isSome] q2) yJ (0,0)::cV (.slice q2.ai q2.ts.length q2.ci) q2.ts::cV (.slice q2.al q2.us.length q2.cl) q2.us::iC nB a.gm (ic (q2.ts.map (·.2)) 0)::jd a.gj d (s.recs.length+1)::de d (dx (s.jb++fB rec))::lF a.gb a.gk s.keys::jd a.gk k s.keys::de k (eo s.keys 1048576)::R) from zE) (cj (dR (M:=[M,cH xh,cH xz])) zE)
theorem Hv (d k:Nat) (v:Value) (seed:du) (s:fM) (hv:db R v seed) (JY:seed.length=32) (hs:s.ok) :
 Ct prog 12 #[pt d,pt k,v] e (de d (dx s.jb)::de k (eo s.keys 1048576)::R) (fun v' L'=>∃ g,v'=.tuple #[pt g,.int .i64 0]∧L'=cU g d k seed { s with last:=none }::R):=by
 have xj:=fM.Hu hs;have ln:=hs.size;have hsk:=hs.keys;refine a7 (cE.shape (hv.cL (show cz (de d (dx s.jb)::de k (eo s.keys 1048576)::R) R from zE)) zo) ?_;rintro ⟨⟨ad,cap,rfl,h3,h4,h5,h6⟩,_⟩
 have Hw:∀ m∈s.recs.map mT,m.length≤65535:=fun m hm=>by
  obtain ⟨r,hr,rfl⟩:=aE.1 hm;have h1:=yV (l:=r) (fun b hb=>hs.short b (List.mem_flatten.2 ⟨r,hr,hb⟩))
  have h2:r.length≤s.cF.length:=by
   obtain ⟨A,B,h⟩:=List.append_of_mem hr;unfold fM.cF;rw [h]
   simp
   omega
  omega
 have EM:=n9 (s.recs.map mT) Hw;refine a8 (args:=[_,_,_]) func12 rfl ntmps12 results12 rfl ?_;refine wB ?_;refine aZ rfl rfl (Ct.at (.succ .zero) (wJ _ e k s.keys 1048576 hsk zo zo)) ?_;rintro _ _ ⟨gb,gk,rfl,rfl⟩;refine wB ?_;refine aZ rfl rfl (Ct.at (.succ (.succ (.succ .zero))) (nj _ e d s.jb zo)) ?_;rintro _ _ (⟨h1,-⟩|⟨-,gj,ux,cr,ts,rfl,fy,rfl⟩)
 ·rw [show dA s.jb=dA (eV (s.recs.map mT)) from rfl,EM] at h1;cases h1
 rw [show dA s.jb=dA (eV (s.recs.map mT)) from rfl,EM] at fy ⊢
 rw [show s.jb.take (eV (s.recs.map mT)).length=s.jb from List.take_length];dsimp only at fy
 have oH:ts.length=s.recs.length:=by have:=congrArg List.length fy;rw [ae,ae] at this;exact this
 refine wB ?_;refine aZ rfl rfl (dw _ e _ seed (hv.cL zE) zo) ?_;rintro _ _ ⟨Ad,cs,rfl,rfl⟩
 (repeat (refine wA ?_;intros))
 refine aZ rfl rfl (l8 _ e _ seed (hv.cL zE) JY) ?_;rintro vp _ ⟨Mp,rfl,Gg⟩;refine bm (cE.shape (Gg.cL (cG zP)) zo) ?_;rintro ⟨⟨rP,cp,rfl,-,-,-,-⟩,_⟩
 (repeat' first|refine Za ?_|refine Zb ?_|apply Zc|apply Zd|apply Ze|apply Zf|refine Zi ?_|refine Zj ?_|refine Zk ?_|refine Zl ?_|refine Zm ?_|refine Zn ?_|refine Zo ?_|refine Zu ?_|refine Zy ?_|refine Zz ?_|refine ZA ?_|refine ZB ?_|refine ZC (fun _=>?_) fun _=>?_|refine ZP ?_|refine ZQ ?_|refine ZS ?_|refine Ya ?_|refine Yb ?_|refine Ye ?_|refine Yg fun _=>?_|refine Ym ?_|refine Yw ?_|refine Yx ?_|refine Yy ?_|refine Yz ?_|refine YA ?_|apply YB|apply YC|apply YD|apply YE|apply YF|apply YG|apply YH|apply YI|apply YJ|refine YK ?_|refine YN ?_|(apply O.df;exact rfl;exact zP;(first|(simp only [aC,Nat.add_zero,Nat.reduceAdd,List.drop_succ_cons,List.drop_zero,List.take_succ_cons,List.take_zero];done)|(simp only [aC,Nat.add_zero,Nat.reduceAdd,List.drop_succ_cons,List.drop_zero,List.take_succ_cons,List.take_zero];exact rfl));exact rfl;exact rfl))
 refine bC (Do.qw nB rfl fun gm=>?_)
 (repeat (refine wA ?_;intros))
 rename_i g0;refine bq (ι:=Nat × yK) (fun i=>[(12,pt g0),(46,.slice ux ts.length cr),(47,.int .i64 (ts.length:Int)),(48,.int .i64 (i.1:Int))]) (fun i=>kF g0 (pt gj) (pt gb) (.slice Ad seed.length cs) (.slice rP (kN seed).length cp) gm [.int .i64 0,nY,.int .i64 0,nY,nY,.bool false] i.2 (cH i.2.ts::cH i.2.us::cH ts::cV (.slice ux ts.length cr) ts::cS (.slice Ad seed.length cs) seed::Mp::jd gj d ts.length::de d (dx s.jb)::lF gb gk s.keys::jd gk k s.keys::de k (eo s.keys 1048576)::R)) (fun i=>i.1≤ts.length∧i.2.ts.map (·.2)=(s.recs.take i.1).flatten∧i.2.us.map (·.2)=(s.recs.take i.1).flatten.map cY) (fun i=>ts.length - i.1) (0,⟨[],[],none,0,none,0⟩) ⟨aH _,by simp,by simp⟩ zS (cj (dK) (cj dK (cj (dv ez 1) (cj (dv ez 1) zE)))) ?_;rintro ⟨i,q⟩ ⟨hi,Ei,Cp⟩;dsimp only at hi Ei Cp ⊢
 by_cases cO:i<ts.length
 rotate_left
 ·rw [aG zo] at Ei Cp
  obtain ⟨M,hM⟩:∃ M:cJ,M=dI [cH q.ts,cH q.us,cS (.slice Ad seed.length cs) seed,Mp]:=⟨_,rfl⟩
  have f1:cz [M] [cH q.ts]:=by rw [hM];exact cj (cT (M:=[_,_,_,_]) (L:=[])) (bh bF)
  have f2:cz [M] [cH q.us]:=by rw [hM];exact cj (cT (M:=[_,_,_,_]) (L:=[])) (cz.drop (bh bF))
  have f3:cz [M] [cS (.slice Ad seed.length cs) seed]:=by rw [hM];exact cj (cT (M:=[_,_,_,_]) (L:=[])) (cz.drop (cz.drop (bh bF)))
  have j1:pd.ok ⟨gj,gb,gk,gm,.slice Ad seed.length cs,.slice rP (kN seed).length cp,q,nY,nY,nY⟩ M seed { s with last:=none } :=
   ⟨cE.cL (bb .zero) f3,Ei,fun x hx=>(eF (R:=[]) x hx).cL f1,Cp,fun x hx=>(eF (R:=[]) x hx).cL f2,⟨cE.nil _ _,⟨⟨[],rfl,cE.nil _ _,fun x hx=>by cases hx⟩,⟨[],rfl,cE.nil _ _,fun x hx=>by cases hx⟩,⟨by show (0:Nat)<_;decide,by show (0:Nat)≤_;decide,by show (0:Nat)≤_;decide⟩⟩,⟨by show (0:Nat)<_;decide,by show (0:Nat)≤_;decide⟩⟩,⟨hs.full,hs.nodup,hs.size,hs.short,hs.keys,fun x hx=>by cases hx⟩,JY⟩
  refine wB ?_;refine aY (cU g0 d k seed { s with last:=none }::R) rfl (cj ?_ (jH j1)) ⟨g0,rfl,rfl⟩;rw [hM,oH];exact cj (show cz _ (cH q.ts::cH q.us::cS (.slice Ad seed.length cs) seed::Mp::kF g0 (pt gj) (pt gb) (.slice Ad seed.length cs) (.slice rP (kN seed).length cp) gm [.int .i64 0,nY,.int .i64 0,nY,nY,.bool false] q (jd gj d s.recs.length::de d (dx s.jb)::lF gb gk s.keys::jd gk k s.keys::de k (eo s.keys 1048576)::R)) from zE) (cj (dR (M:=[_,_,_,_])) zE)
 have pc:i<s.recs.length:=by omega
 have jt:(ts[i]'cO).2=mT (s.recs[i]'pc):=by
  have:=congrArg (fun l=>l[i]?) fy;simp only [aL,ab cO,ab pc,Option.map_some,Option.some.injEq] at this
  exact this
 have Kx:(s.recs[i]'pc)∈s.recs:=aA pc
 have wZ:s.cF=(s.recs.take i).flatten++((s.recs[i]'pc)++(s.recs.drop (i+1)).flatten):=by
  unfold fM.cF
  conv=>lhs;rw [← List.take_append_drop i s.recs,List.drop_eq_getElem_cons pc]
  rw [List.flatten_append,List.flatten_cons]
 have ft:(s.recs.take (i+1)).flatten=(s.recs.take i).flatten++(s.recs[i]'pc):=by
  rw [aD pc,List.flatten_append,List.flatten_cons,List.flatten_nil,aK]
 have oG:=hs.full _ Kx;have Is:∀ b∈(s.recs[i]'pc),b.length≤200:=fun b hb=>hs.short b (List.mem_flatten.2 ⟨_,Kx,hb⟩)
 have z9:=hs.nodup;rw [wZ,← aM] at z9
 have Ce:=(List.nodup_append.1 z9).1
 have hln:(s.recs.take i).flatten.length+(s.recs[i]'pc).length≤256:=by
  rw [wZ,aa,aa] at ln
  omega
 have hql:q.ts.length=(s.recs.take i).flatten.length:=by have:=congrArg List.length Ei;rwa [ae] at this
 have hqu:q.us.length=(s.recs.take i).flatten.length:=by have:=congrArg List.length Cp;rwa [ae,ae] at this
 generalize s.recs[i]'pc=rc at *
 refine W.cB ((bb (show cR _ (cV (.slice ux ts.length cr) ts) _ from zP)).shape zo) ?_;rintro ⟨⟨lM,c',lU,wH,IX,Ap,uW⟩,_⟩
 cases lU
 simp only [maxLen] at IX
 rcases uW with uW|⟨gl,ol,rfl⟩
 ·omega
 have jw:∀ L R',cR L (cV (.slice (some ⟨gl,ol,none⟩) ts.length cr) ts) R'→Rd L ⟨gl,ol+i,none⟩ (ts[i]'cO).1:=fun L R' p=>(bb p).elem (by rw [aL,ab cO];rfl)
 have sf:∀ L R',cR L (cH ts) R'→db L (ts[i]'cO).1 (ts[i]'cO).2:=fun L R' p=>dQ.dY p _ (aA cO)
 generalize ts[i]'cO=y at *
 obtain ⟨yv,b⟩:=y;dsimp only at jw sf jt
 subst jt;refine wB ?_;refine bV rfl (jw _ _ zP) rfl ?_;refine wB ?_;refine aZ rfl rfl (Ho _ e yv rc (sf _ _ zP) oG zo Is) ?_;rintro _ _ ⟨T7,cb,bt,rfl,QW,rfl⟩;refine wB ?_;have nK:bt.length=rc.length:=by rw [← QW,ae]
 have MQ:=By (cV (.slice T7 bt.length cb) bt::cH bt::cH q.ts::cH q.us::cH ts::cV (.slice (some ⟨gl,ol,none⟩) ts.length cr) ts::cS (.slice Ad seed.length cs) seed::Mp::jd gj d ts.length::de d (dx s.jb)::lF gb gk s.keys::jd gk k s.keys::de k (eo s.keys 1048576)::R) e g0 (pt gj) (pt gb) (.slice Ad seed.length cs) (.slice rP (kN seed).length cp) gm (.int .i64 0) nY (.int .i64 0) nY nY (.bool false) q (.slice T7 bt.length cb) bt (bb .zero) (dQ.dY (.succ .zero)) (by rw [Ei,QW];exact Ce) zo zo (fun x hx=>Is _ (by rw [← QW];exact aE.2 ⟨x,hx,rfl⟩));refine aZ rfl rfl (MQ.cL zE) ?_;rintro _ _ ⟨rfl,q2,xh,xz,e1,e2,e3,e4,rfl⟩;refine wB ?_;refine bi (i+1,q2) ⟨cO,by dsimp only;rw [e1,ah,Ei,e3,QW,ft],by dsimp only;rw [e2,ah,Cp,e4,QW,ft,ah]⟩ zd zS ?_;dsimp only
 have ex1:cz (cH q.ts::cH xh::cH q.us::cH xz::kF g0 (pt gj) (pt gb) (.slice Ad seed.length cs) (.slice rP (kN seed).length cp) gm [.int .i64 0,nY,.int .i64 0,nY,nY,.bool false] q2 (cH ts::cV (.slice (some ⟨gl,ol,none⟩) ts.length cr) ts::cS (.slice Ad seed.length cs) seed::Mp::jd gj d ts.length::de d (dx s.jb)::lF gb gk s.keys::jd gk k s.keys::de k (eo s.keys 1048576)::R)) (cH q2.ts::cH q2.us::kF g0 (pt gj) (pt gb) (.slice Ad seed.length cs) (.slice rP (kN seed).length cp) gm [.int .i64 0,nY,.int .i64 0,nY,nY,.bool false] q2 (cH ts::cV (.slice (some ⟨gl,ol,none⟩) ts.length cr) ts::cS (.slice Ad seed.length cs) seed::Mp::jd gj d ts.length::de d (dx s.jb)::lF gb gk s.keys::jd gk k s.keys::de k (eo s.keys 1048576)::R)):=by
  rw [show cH q2.ts=cH (q.ts++xh) by rw [e1],show cH q2.us=cH (q.us++xz) by rw [e2]];exact cj eL (bh eL)
 exact cj (show cz _ (cH q.ts::cH xh::cH q.us::cH xz::kF g0 (pt gj) (pt gb) (.slice Ad seed.length cs) (.slice rP (kN seed).length cp) gm [.int .i64 0,nY,.int .i64 0,nY,nY,.bool false] q2 (cH ts::cV (.slice (some ⟨gl,ol,none⟩) ts.length cr) ts::cS (.slice Ad seed.length cs) seed::Mp::jd gj d ts.length::de d (dx s.jb)::lF gb gk s.keys::jd gk k s.keys::de k (eo s.keys 1048576)::R)) from zE) (cj ex1 zE)
end Go.Proofs
namespace Go.Proofs
open Go.Bs
attribute [local irreducible] Bs.cD Bs.Do Bs.O Bs.W Bs.Fin Bs.A Bs.Ct Bs.cE Bs.Rd Bs.Sat Bs.cK Bs.Ob Bs.dE Bs.View Bs.cz Bs.Ex Bs.dI Bs.Pu Bs.eY Bs.dN Bs.dZ
open Tryz
variable (R:List cJ) (e:World)
structure jI where
 v:Value
 b:List UInt8
 jC:Int
def jI.cells (m:jI):List Value:=[m.v,.int .i64 m.jC]
def jI.t (m:jI):ej:=(m.v,m.b)
abbrev Ky:TypeId:=368
abbrev ez:TypeId:=30
theorem MX (m:jI):m.cells.length=2:=rfl
theorem EU {l:List jI} (h:∀ m∈l,m.v.oneCell'=true):∀ c∈l.flatMap jI.cells,c.oneCell'=true:=r9 fun m hm c hc=>by
 simp only [jI.cells,aQ,aP,or_false] at hc
 rcases hc with rfl|rfl
 ·exact h m hm
 ·rfl
abbrev qz (v:Value) (l:List jI):cJ:=dE Ky 2 v l.length (l.flatMap jI.cells)
abbrev cV (v:Value) (l:List ej):cJ:=dE ez 1 v l.length (l.map (·.1))
def MY (g r s w:Nat) (l:List jI) (ad:Option Addr) (c:Nat):cJ:=dI [cK g [.int .i64 (r:Int),.int .i64 (s:Int),.int .i64 (w:Int),.slice ad l.length c] 370 (0,0),qz (.slice ad l.length c) l,cH (l.map jI.t)]
def xD (g r s w:Nat) (l:List jI):cJ:=Ex fun ad=>Ex fun c=>MY g r s w l ad c
section
variable {g r s w:Nat} {l:List jI} {R:List cJ} {P:Program} {e:World}
theorem q0 {f:FuncId} {args:Array Value} {Post:Value→List cJ→Prop}
 (h:∀ ad c,Ct P f args e (cK g [.int .i64 (r:Int),.int .i64 (s:Int),.int .i64 (w:Int),.slice ad l.length c] 370 (0,0)::qz (.slice ad l.length c) l::cH (l.map jI.t)::R) Post):Ct P f args e (xD g r s w l::R) Post :=
 Ct.ex .zero fun ad=>Ct.ex .zero fun c=>(h ad c).cL cT
theorem kG {c:Nat} {ad:Option Addr}:cz (cK g [.int .i64 (r:Int),.int .i64 (s:Int),.int .i64 (w:Int),.slice ad l.length c] 370 (0,0)::qz (.slice ad l.length c) l::cH (l.map jI.t)::R) (xD g r s w l::R) :=
 cj (dR (M:=[_,_,_])) (cj (fu (f:=fun c=>MY g r s w l ad c) c) (fu (f:=fun ad=>Ex fun c=>MY g r s w l ad c) ad))
theorem Kz:cz (xD g r s w l::R) (cH (l.map jI.t)::R):=jE fun ad=>jE fun c=>cT.trans zE
end
theorem yW {v:Value} {l:List jI} {L R:List cJ} (p:cR L (qz v l) R):∀ h,dN L h→∃ ad c,v=.slice ad l.length c∧l.length≤c∧c≤maxLen∧((ad=none∧c=0∧l.length=0)∨∃ g,ad=some ⟨g,0,none⟩):=fun h x=>by
 obtain ⟨⟨ad,c,h1,h2,h3,h4⟩,_⟩:=fP p h x;exact ⟨ad,c,h1,h2,h3,h4⟩
theorem Hx {v:Value} {l:List ej} {L R:List cJ} (p:cR L (cV v l) R):∀ h,dN L h→∃ ad c,v=.slice ad l.length c∧l.length≤c∧c≤maxLen∧((ad=none∧c=0∧l.length=0)∨∃ g,ad=some ⟨g,0,none⟩):=fun h x=>by
 obtain ⟨⟨ad,c,h1,h2,h3,h4⟩,_⟩:=fP p h x;exact ⟨ad,c,h1,h2,h3,h4⟩
theorem BG {l:List ej} {R:List cJ} (ht:dQ R l):∀ h,dN R h→∀ m∈l,m.1.oneCell'=true:=fun h x m hm=>cn (ht m hm) h x
theorem EV {g r s w:Nat} {l:List jI} {R:List cJ}:∀ h,dN (xD g r s w l::R) h→∀ m∈l,m.v.oneCell'=true :=
 Cb (fun h x m hm=>cn (eF (R:=R) m.t (aE.2 ⟨m,hm,rfl⟩)) h x) Kz
theorem KA (r s w:Nat) (h:(1≤r∧r≤16)∧(1≤s∧s≤8)∧w≤1000) :
 Ct prog 279 #[.int .i64 r,.int .i64 s,.int .i64 w] e R (fun v' L'=>∃ g,v'=.tuple #[pt g,.int .i64 0]∧L'=xD g r s w []::R):=by
 refine a8 (args:=[_,_,_]) func279 rfl ntmps279 results279 rfl ?_
 (repeat (refine wA ?_;intros))
 exact aY _ rfl ((bh ((dv Ky 2).trans (bh dK))).trans (kG (l:=[]))) ⟨_,rfl,rfl⟩
theorem KB (g r s w:Nat) (l:List jI) :
 Ct prog 240 #[pt g] e (xD g r s w l::R) (fun v' L'=>v'=.int .i64 (l.length:Int)∧L'=xD g r s w l::R):=by
 refine q0 fun ad c=>?_
 refine a8 (args:=[_]) func240 rfl ntmps240 results240 rfl ?_;refine wB ?_;exact aY _ rfl kG ⟨rfl,rfl⟩
theorem KC (g r s w:Nat) (l:List jI) (v:Value) (b:List UInt8) (now:Int) (hr:db (xD g r s w l::R) v b) (hb:b.length≤140737488351232) (hl:l.length≤r+2000) (hn:r≤1000) :
 Ct prog 241 #[pt g,v,.int .i64 now] e (xD g r s w l::R)
  (fun v' L'=>(l.length<r∧v'=.int .i64 0∧∃ v2,L'=xD g r s w (l++[⟨v2,b,now⟩])::R)∨(¬ l.length<r∧v'=.int .i64 20∧L'=xD g r s w l::R)):=by
 refine a7 (cn hr) ?_;intro h1;refine q0 fun ad c=>?_
 refine a8 (args:=[_,_,_]) func241 rfl ntmps241 results241 rfl ?_
 by_cases cO:l.length<r
 ·have tI:=hr.cL (kG (R:=R) (g:=g) (r:=r) (s:=s) (w:=w) (l:=l) (ad:=ad) (c:=c))
  (repeat' first|refine Zb ?_|apply Zc|apply Zd|apply Ze|apply Zf|refine YA ?_|apply YC|(refine bz (id:=1) [] mixed ?_;all_goals (refine tM 0 ?_);all_goals (refine tN 1 ?_);all_goals (refine tF 2 ?_);all_goals (refine tL 3 ?_);all_goals (refine tk 4 _ rfl (bM rfl) ?_);all_goals (refine tM 5 ?_);all_goals (refine tN 6 ?_);all_goals (refine tF 7 ?_);all_goals (refine tL 8 ?_);all_goals (first|refine tk 9 (.bool true) rfl (cD.iQ (bR rfl rfl) zy) ?_|refine tk 9 (.bool false) rfl (cD.no (bR rfl rfl) zn) ?_);all_goals (refine bf zK ?_)))
  refine bk (id:=3) [11,12,13] [cK g [.int .i64 (r:Int),.int .i64 (s:Int),.int .i64 (w:Int),.slice ad l.length c] 370 (0,0)] mixed ?_;refine tM 0 ?_;refine tM 1 ?_;refine tN 2 ?_;refine tF 3 ?_;refine tL 4 ?_;refine tM 5 ?_;refine tM 7 ?_;refine tO 6 ?_;refine bg rfl rfl (dw _ e _ b tI zo) ?_;rintro _ _ ⟨dW,c2,rfl,rfl⟩;refine ⟨fun _=>zE,?_⟩;refine tO 8 ?_;refine bN (bL (cells:=[.slice dW b.length c2,.int .i64 now]) rfl zF) rfl ⟨fun _=>zE,?_⟩;refine tO 9 ?_;refine bE (n:=2) rfl rfl rfl rfl zQ rfl (fun g2=>⟨fun _=>zE,?_⟩);refine tO 10 ?_;refine bo rfl rfl rfl zP (bO (n:=2) (c:=1) .zero rfl zl) rfl rfl zO zm zo fun eJ c3 _=>⟨fun _=>zE,?_⟩
  ((refine tO 11 ?_;refine dV (bn rfl) ?_);(refine tO 12 ?_;refine dV (ba rfl) ?_);(refine tO 13 ?_;refine tf ?_;refine ⟨zN,?_⟩))
  refine bf zK ?_;refine wB ?_;refine aY (xD g r s w (l++[⟨.slice dW b.length c2,b,now⟩])::R) rfl (cj (show cz _ (cS (.slice dW b.length c2) b::cH (l.map jI.t)::cK g [.int .i64 (r:Int),.int .i64 (s:Int),.int .i64 (w:Int),.slice eJ (l.length+1) c3] 370 (0,0)::dE Ky 2 (.slice eJ (l.length+1) c3) (l.length+1) (l.flatMap jI.cells++[.slice dW b.length c2,.int .i64 now])::R) from zE) (cj (ju (a:=(.slice dW b.length c2,b))) (cj (bw (.succ .zero) aX) ?_))) (.inl ⟨cO,rfl,_,rfl⟩);refine cj eL (cj ?_ (kG (ad:=eJ) (c:=c3)));simp only [qz,aa,aj,aW,aU,List.flatMap_nil,aK,ah,List.map_cons,List.map_nil];exact zE
 ·(repeat' first|refine Zb ?_|apply Zc|apply Zd|apply Ze|apply Zf|refine Yz ?_|apply YE|apply YF|(refine bz (id:=1) [] mixed ?_;all_goals (refine tM 0 ?_);all_goals (refine tN 1 ?_);all_goals (refine tF 2 ?_);all_goals (refine tL 3 ?_);all_goals (refine tk 4 _ rfl (bM rfl) ?_);all_goals (refine tM 5 ?_);all_goals (refine tN 6 ?_);all_goals (refine tF 7 ?_);all_goals (refine tL 8 ?_);all_goals (first|refine tk 9 (.bool true) rfl (cD.iQ (bR rfl rfl) zy) ?_|refine tk 9 (.bool false) rfl (cD.no (bR rfl rfl) zn) ?_);all_goals (refine bf zK ?_)))
  exact aY _ rfl kG (.inr ⟨cO,rfl,rfl⟩)
def due (l:List jI) (s w:Nat) (now:Int):Bool:=match l with
 | []=>false
 | i::_=>decide (s≤l.length∨i.jC = -9223372036854775808∨(i.jC≤now∧(w:Int)≤now - i.jC))
theorem MZ {a b:Int} (ha:-9223372036854775808≤a∧a≤9223372036854775807) (hb:-9223372036854775808≤b∧b≤9223372036854775807) (h:a≤b):IntKind.u64.wrap (IntKind.u64.wrap b - IntKind.u64.wrap a)=b - a:=by
 unfold IntKind.wrap;simp only [IntKind.bits,IntKind.signed]
 simp
 omega
theorem Pg {w:Nat} (h:w≤1000):IntKind.u64.wrap (w:Int)=w:=by
 unfold IntKind.wrap;simp only [IntKind.bits,IntKind.signed]
 simp
 omega
theorem KD (g r s w:Nat) (l:List jI) (now:Int) (hw:w≤1000) (hl:l.length≤100000) (hs:s≤1000) (hn:-9223372036854775808≤now∧now≤9223372036854775807) (ha:∀ m∈l,-9223372036854775808≤m.jC∧m.jC≤9223372036854775807) :
 Ct prog 242 #[pt g,.int .i64 now] e (xD g r s w l::R) (fun v' L'=>v'=.bool (due l s w now)∧L'=xD g r s w l::R):=by
 refine q0 fun ad c=>?_
 refine a7 (yW (.succ .zero)) ?_;rintro ⟨_,_,hv,hc,hm,hg⟩
 cases hv
 refine a8 (args:=[_,_]) func242 rfl ntmps242 results242 rfl ?_
 cases l with
 | nil =>
  have h0:((([]:List jI).length:Nat):Int)=0:=rfl;refine wB ?_;exact aY _ rfl kG ⟨rfl,rfl⟩
 | cons i l =>
  have hlen:((i::l).length:Int)=l.length+1:=by simp
  have VQ:(i::l).length=l.length+1:=by simp
  rcases hg with ⟨_,_,h0⟩|⟨g1,rfl⟩
  ·simp at h0
  have hi:=ha i (List.mem_cons_self ..);have q1:Rd (qz (.slice (some ⟨g1,0,none⟩) (i::l).length c) (i::l)::cH ((i::l).map jI.t)::R) ⟨g1,0+0*2+1,none⟩ (.int .i64 i.jC):=(dZ.elem (bb .zero) MX (j:=0) rfl).OC rfl;have hd:due (i::l) s w now=decide (s≤(i::l).length∨i.jC = -9223372036854775808∨(i.jC≤now∧(w:Int)≤now - i.jC)):=rfl;rw [hd]
  by_cases h1:s≤(i::l).length
  ·(repeat' first|refine Za ?_|refine Zb ?_|apply Zc|apply Zd|apply Ze|apply Zf|refine Zg ?_|refine Zh ?_|refine Zi ?_|refine Zk ?_|refine ZN ?_|refine Yz ?_|refine YA ?_|apply YB|apply YE|apply YF|apply YI|(refine bz (id:=3) [] mixed ?_;all_goals (refine tM 0 ?_);all_goals (refine tN 1 ?_);all_goals (refine tF 2 ?_);all_goals (refine tL 3 ?_);all_goals (refine tk 4 _ rfl (bM rfl) ?_);all_goals (refine tM 5 ?_);all_goals (refine tN 6 ?_);all_goals (refine tF 7 ?_);all_goals (refine tL 8 ?_);all_goals (first|refine tk 9 (.bool true) rfl (cD.iQ (bR rfl rfl) zy) ?_|refine tk 9 (.bool false) rfl (cD.no (bR rfl rfl) zn) ?_);all_goals (refine tM 10 ?_);all_goals (first|refine dt 11 _ rfl (bu rfl) ?_|refine bc 11 rfl rfl zK aX rfl ?_);all_goals (first|refine dt 12 _ rfl (bn rfl) ?_|refine bc 12 rfl rfl zK aX rfl ?_);all_goals (first|refine dt 13 _ rfl (ba rfl) ?_|refine bc 13 rfl rfl zK aX rfl ?_);all_goals (first|refine dt 14 _ rfl (bp rfl zR) ?_|refine bc 14 rfl rfl zK aX rfl ?_);all_goals (first|refine dt 15 _ rfl (bX rfl rfl zo zo) ?_|refine bc 15 rfl rfl zK aX rfl ?_);all_goals (first|refine dt 16 _ rfl (ba rfl) ?_|refine bc 16 rfl rfl zK aX rfl ?_);all_goals (first|refine dt 17 _ rfl (bp rfl zR) ?_|refine bc 17 rfl rfl zK aX rfl ?_);all_goals (first|refine dt 18 (.bool true) rfl (cD.iQ (bW rfl rfl) zy) ?_|refine dt 18 (.bool false) rfl (cD.no (bW rfl rfl) zn) ?_|refine bc 18 rfl rfl zK aX rfl ?_);all_goals (first|refine tk 19 _ rfl (bK rfl rfl) ?_|refine tk 19 _ rfl (bI rfl rfl) ?_);all_goals (refine tA 20 ?_);all_goals (refine bf zK ?_)))
   exact aY _ rfl kG ⟨by rw [ay zo];rfl,rfl⟩
  ·by_cases h2:i.jC = -9223372036854775808
   ·(repeat' first|refine Za ?_|refine Zb ?_|apply Zc|apply Zd|apply Ze|apply Zf|refine Zg ?_|refine Zh ?_|refine Zi ?_|refine Zk ?_|refine ZN ?_|refine Yz ?_|refine YA ?_|apply YB|apply YE|apply YF|apply YI|(refine bz (id:=3) [] mixed ?_;all_goals (refine tM 0 ?_);all_goals (refine tN 1 ?_);all_goals (refine tF 2 ?_);all_goals (refine tL 3 ?_);all_goals (refine tk 4 _ rfl (bM rfl) ?_);all_goals (refine tM 5 ?_);all_goals (refine tN 6 ?_);all_goals (refine tF 7 ?_);all_goals (refine tL 8 ?_);all_goals (first|refine tk 9 (.bool true) rfl (cD.iQ (bR rfl rfl) zy) ?_|refine tk 9 (.bool false) rfl (cD.no (bR rfl rfl) zn) ?_);all_goals (refine tM 10 ?_);all_goals (first|refine dt 11 _ rfl (bu rfl) ?_|refine bc 11 rfl rfl zK aX rfl ?_);all_goals (first|refine dt 12 _ rfl (bn rfl) ?_|refine bc 12 rfl rfl zK aX rfl ?_);all_goals (first|refine dt 13 _ rfl (ba rfl) ?_|refine bc 13 rfl rfl zK aX rfl ?_);all_goals (first|refine dt 14 _ rfl (bp rfl zR) ?_|refine bc 14 rfl rfl zK aX rfl ?_);all_goals (first|refine dt 15 _ rfl (bX rfl rfl zo zo) ?_|refine bc 15 rfl rfl zK aX rfl ?_);all_goals (first|refine dt 16 _ rfl (ba rfl) ?_|refine bc 16 rfl rfl zK aX rfl ?_);all_goals (first|refine dt 17 _ rfl (bp rfl zR) ?_|refine bc 17 rfl rfl zK aX rfl ?_);all_goals (first|refine dt 18 (.bool true) rfl (cD.iQ (bW rfl rfl) zy) ?_|refine dt 18 (.bool false) rfl (cD.no (bW rfl rfl) zn) ?_|refine bc 18 rfl rfl zK aX rfl ?_);all_goals (first|refine tk 19 _ rfl (bK rfl rfl) ?_|refine tk 19 _ rfl (bI rfl rfl) ?_);all_goals (refine tA 20 ?_);all_goals (refine bf zK ?_)))
    exact aY _ rfl kG ⟨by rw [ay zo];rfl,rfl⟩
   ·by_cases h3:i.jC≤now
    ·have h5:=MZ hi hn h3;have h6:=Pg hw
     by_cases h4:(w:Int)≤now - i.jC
     ·(repeat' first|refine Za ?_|refine Zb ?_|apply Zc|apply Zd|apply Ze|apply Zf|refine Zg ?_|refine Zh ?_|refine Zi ?_|refine Zk ?_|refine Zl ?_|refine Zn ?_|refine ZJ ?_|refine ZN ?_|refine ZV ?_|refine ZZ ?_|refine Yy ?_|refine YA ?_|apply YB|apply YC|apply YE|apply YH|(refine bz (id:=3) [] mixed ?_;all_goals (refine tM 0 ?_);all_goals (refine tN 1 ?_);all_goals (refine tF 2 ?_);all_goals (refine tL 3 ?_);all_goals (refine tk 4 _ rfl (bM rfl) ?_);all_goals (refine tM 5 ?_);all_goals (refine tN 6 ?_);all_goals (refine tF 7 ?_);all_goals (refine tL 8 ?_);all_goals (first|refine tk 9 (.bool true) rfl (cD.iQ (bR rfl rfl) zy) ?_|refine tk 9 (.bool false) rfl (cD.no (bR rfl rfl) zn) ?_);all_goals (refine tM 10 ?_);all_goals (first|refine dt 11 _ rfl (bu rfl) ?_|refine bc 11 rfl rfl zK aX rfl ?_);all_goals (first|refine dt 12 _ rfl (bn rfl) ?_|refine bc 12 rfl rfl zK aX rfl ?_);all_goals (first|refine dt 13 _ rfl (ba rfl) ?_|refine bc 13 rfl rfl zK aX rfl ?_);all_goals (first|refine dt 14 _ rfl (bp rfl zR) ?_|refine bc 14 rfl rfl zK aX rfl ?_);all_goals (first|refine dt 15 _ rfl (bX rfl rfl zo zo) ?_|refine bc 15 rfl rfl zK aX rfl ?_);all_goals (first|refine dt 16 _ rfl (ba rfl) ?_|refine bc 16 rfl rfl zK aX rfl ?_);all_goals (first|refine dt 17 _ rfl (bp rfl zR) ?_|refine bc 17 rfl rfl zK aX rfl ?_);all_goals (first|refine dt 18 (.bool true) rfl (cD.iQ (bW rfl rfl) zy) ?_|refine dt 18 (.bool false) rfl (cD.no (bW rfl rfl) zn) ?_|refine bc 18 rfl rfl zK aX rfl ?_);all_goals (first|refine tk 19 _ rfl (bK rfl rfl) ?_|refine tk 19 _ rfl (bI rfl rfl) ?_);all_goals (refine tA 20 ?_);all_goals (refine bf zK ?_)))
      exact aY _ rfl kG ⟨by rw [ay zo];rfl,rfl⟩
     ·(repeat' first|refine Za ?_|refine Zb ?_|apply Zc|apply Zd|apply Ze|apply Zf|refine Zg ?_|refine Zh ?_|refine Zi ?_|refine Zk ?_|refine Zl ?_|refine Zn ?_|refine ZJ ?_|refine ZK ?_|refine ZN ?_|refine ZV ?_|refine ZZ ?_|refine Yy ?_|refine YA ?_|apply YB|apply YC|apply YE|apply YH|(refine bz (id:=3) [] mixed ?_;all_goals (refine tM 0 ?_);all_goals (refine tN 1 ?_);all_goals (refine tF 2 ?_);all_goals (refine tL 3 ?_);all_goals (refine tk 4 _ rfl (bM rfl) ?_);all_goals (refine tM 5 ?_);all_goals (refine tN 6 ?_);all_goals (refine tF 7 ?_);all_goals (refine tL 8 ?_);all_goals (first|refine tk 9 (.bool true) rfl (cD.iQ (bR rfl rfl) zy) ?_|refine tk 9 (.bool false) rfl (cD.no (bR rfl rfl) zn) ?_);all_goals (refine tM 10 ?_);all_goals (first|refine dt 11 _ rfl (bu rfl) ?_|refine bc 11 rfl rfl zK aX rfl ?_);all_goals (first|refine dt 12 _ rfl (bn rfl) ?_|refine bc 12 rfl rfl zK aX rfl ?_);all_goals (first|refine dt 13 _ rfl (ba rfl) ?_|refine bc 13 rfl rfl zK aX rfl ?_);all_goals (first|refine dt 14 _ rfl (bp rfl zR) ?_|refine bc 14 rfl rfl zK aX rfl ?_);all_goals (first|refine dt 15 _ rfl (bX rfl rfl zo zo) ?_|refine bc 15 rfl rfl zK aX rfl ?_);all_goals (first|refine dt 16 _ rfl (ba rfl) ?_|refine bc 16 rfl rfl zK aX rfl ?_);all_goals (first|refine dt 17 _ rfl (bp rfl zR) ?_|refine bc 17 rfl rfl zK aX rfl ?_);all_goals (first|refine dt 18 (.bool true) rfl (cD.iQ (bW rfl rfl) zy) ?_|refine dt 18 (.bool false) rfl (cD.no (bW rfl rfl) zn) ?_|refine bc 18 rfl rfl zK aX rfl ?_);all_goals (first|refine tk 19 _ rfl (bK rfl rfl) ?_|refine tk 19 _ rfl (bI rfl rfl) ?_);all_goals (refine tA 20 ?_);all_goals (refine bf zK ?_)))
      exact aY _ rfl kG ⟨by rw [aq zo];rfl,rfl⟩
    ·(repeat' first|refine Za ?_|refine Zb ?_|apply Zc|apply Zd|apply Ze|apply Zf|refine Zg ?_|refine Zh ?_|refine Zi ?_|refine Zk ?_|refine Zm ?_|refine Zo ?_|refine ZK ?_|refine ZN ?_|refine Yy ?_|refine YA ?_|apply YB|apply YC|apply YE|apply YH|(refine bz (id:=3) [] mixed ?_;all_goals (refine tM 0 ?_);all_goals (refine tN 1 ?_);all_goals (refine tF 2 ?_);all_goals (refine tL 3 ?_);all_goals (refine tk 4 _ rfl (bM rfl) ?_);all_goals (refine tM 5 ?_);all_goals (refine tN 6 ?_);all_goals (refine tF 7 ?_);all_goals (refine tL 8 ?_);all_goals (first|refine tk 9 (.bool true) rfl (cD.iQ (bR rfl rfl) zy) ?_|refine tk 9 (.bool false) rfl (cD.no (bR rfl rfl) zn) ?_);all_goals (refine tM 10 ?_);all_goals (first|refine dt 11 _ rfl (bu rfl) ?_|refine bc 11 rfl rfl zK aX rfl ?_);all_goals (first|refine dt 12 _ rfl (bn rfl) ?_|refine bc 12 rfl rfl zK aX rfl ?_);all_goals (first|refine dt 13 _ rfl (ba rfl) ?_|refine bc 13 rfl rfl zK aX rfl ?_);all_goals (first|refine dt 14 _ rfl (bp rfl zR) ?_|refine bc 14 rfl rfl zK aX rfl ?_);all_goals (first|refine dt 15 _ rfl (bX rfl rfl zo zo) ?_|refine bc 15 rfl rfl zK aX rfl ?_);all_goals (first|refine dt 16 _ rfl (ba rfl) ?_|refine bc 16 rfl rfl zK aX rfl ?_);all_goals (first|refine dt 17 _ rfl (bp rfl zR) ?_|refine bc 17 rfl rfl zK aX rfl ?_);all_goals (first|refine dt 18 (.bool true) rfl (cD.iQ (bW rfl rfl) zy) ?_|refine dt 18 (.bool false) rfl (cD.no (bW rfl rfl) zn) ?_|refine bc 18 rfl rfl zK aX rfl ?_);all_goals (first|refine tk 19 _ rfl (bK rfl rfl) ?_|refine tk 19 _ rfl (bI rfl rfl) ?_);all_goals (refine tA 20 ?_);all_goals (refine bf zK ?_)))
     exact aY _ rfl kG ⟨by rw [aq zo];rfl,rfl⟩
theorem EW (v:Value) (l:List jI) (hv:cE R 2 v l.length (l.flatMap jI.cells)) (ht:∀ m∈l,db R m.v m.b) (hb:∀ m∈l,m.b.length≤140737488351232) (hl:l.length≤100000) :
 Ct prog 283 #[v] e R (fun v' L'=>∃ (ad:Option Addr) (c:Nat) (ts:List ej),v'=.slice ad ts.length c∧ts.map (·.2)=l.map jI.b∧L'=cV (.slice ad ts.length c) ts::cH ts::R):=by
 refine a7 (hv.shape zo) ?_;rintro ⟨⟨ad,cap,rfl,h3,h4,h5,h6⟩,_⟩;refine a7 (fun h x m hm=>cn (ht m hm) h x) ?_;intro mV;refine a8 (args:=[_]) func283 rfl ntmps283 results283 rfl ?_;refine wB ?_;refine bq (ι:=List ej × Option Addr × Nat) (fun i=>[(6,.slice ad l.length cap),(7,.int .i64 (l.length:Int)),(8,.int .i64 (i.1.length:Int)),(3,.slice i.2.1 i.1.length i.2.2)])
  (fun i=>cV (.slice i.2.1 i.1.length i.2.2) i.1::cH i.1::R) (fun i=>i.1.length≤l.length∧i.1.map (·.2)=(l.take i.1.length).map jI.b) (fun i=>l.length - i.1.length) ([],none,0) ⟨aH _,rfl⟩
  (cC rfl (cC rfl (cC rfl (cC rfl dd)))) ((dv ez 1).trans (bh dK)) ?_
 rintro ⟨out,dW,c2⟩ ⟨hi,hd⟩;dsimp only at hi hd ⊢
 by_cases cO:out.length<l.length
 ·rcases h6 with h6|⟨gl,ol,rfl⟩
  ·omega
  have G5:dZ R gl (ol+out.length*2) (l[out.length]'cO).cells:=dZ.elem hv MX (ab cO);have jw:=ht _ (aA cO);have EA:=hb _ (aA cO);have h1:=mV _ (aA cO)
  generalize Cf:l[out.length]'cO=m at *
  obtain ⟨v,b,a⟩:=m;dsimp only at h1 jw EA
  simp only [jI.cells] at G5
  (repeat (refine wA ?_;intros))
  refine aZ rfl rfl (dw _ e _ b jw.tail.tail.tail zo) ?_;rintro _ _ ⟨eJ,c3,rfl,rfl⟩
  (repeat (refine wA ?_;intros))
  refine bC (bo rfl rfl rfl (.succ (.succ (.succ .zero))) (bB .zero rfl zl) rfl rfl zO zm zo fun jA c4 _=>?_)
  refine wB ?_;refine bi (out++[(.slice eJ b.length c3,b)],jA,c4) ⟨by simp;omega,?_⟩ (by simp;omega) ?_ ?_
  ·simp only [ah,aa,aj,hd];rw [aD cO,Cf];simp only [ah,List.map_cons,List.map_nil]
  ·simp only [aa,aj];exact cC rfl (cC rfl (cC rfl (cC rfl dd)))
  ·refine cj (show cz _ (cS (.slice eJ b.length c3) b::cH out::dE ez 1 (.slice jA (out.length+1) c4) (out.length+1) (out.map (·.1)++[.slice eJ b.length c3])::R) from zE) (cj (ju (a:=(.slice eJ b.length c3,b))) (cj (bw (.succ .zero) aX) (cj eL ?_)));simp only [cV,aa,aj,ah,List.map_cons,List.map_nil];exact zE
 ·refine wB ?_;refine aY _ rfl aX ⟨dW,c2,out,rfl,?_,rfl⟩;rw [hd,aG zo]
theorem EX (v:Value) (l:List jI) (h:cE R 2 v l.length (l.flatMap jI.cells)) (h1:∀ m∈l,m.v.oneCell'=true) (hl:l.length≤100000) :
 Ct prog 284 #[v] e R (fun v' L'=>∃ ad c,v'=.slice ad l.length c∧L'=qz (.slice ad l.length c) l::R):=by
 refine a7 (h.shape zo) ?_;rintro ⟨⟨ad,cap,rfl,h3,h4,h5,h6⟩,_⟩;refine a8 (args:=[_]) func284 rfl ntmps284 results284 rfl ?_
 cases ad with
 | none =>
  have u7:l=[]:=by
   have:=h5 rfl;exact List.eq_nil_of_length_eq_zero zo
  subst u7;refine wB ?_;exact aY _ rfl (dv _ _) ⟨_,_,rfl,rfl⟩
 | some a =>
  (repeat (refine wA ?_;intros))
  refine O.fo (hH (n:=2) (k:=0) (cap:=0) zo zl rfl) ?_;refine bC (bo rfl rfl rfl .zero h rfl rfl (EU h1) zm zo fun lM c' lU=>?_)
  refine wB ?_;refine aY _ rfl ?_ ⟨lM,c',by simp [AS],rfl⟩;simp only [aC];exact aX
theorem Hy (g r s w:Nat) (l:List jI) (hb:∀ m∈l,m.b.length≤140737488351232) (hl:l.length≤100000) (hs:s≤1000) :
 Ct prog 243 #[pt g] e (xD g r s w l::R) (fun v' L'=>∃ (ad:Option Addr) (c:Nat) (ts:List ej),v'=.slice ad ts.length c∧ts.map (·.2)=(l.take s).map jI.b∧L'=cV (.slice ad ts.length c) ts::cH ts::xD g r s w (l.drop s)::R):=by
 refine a7 EV ?_;intro mV;refine q0 fun ad c=>?_
 refine a7 (yW (.succ .zero)) ?_;rintro ⟨_,_,hv,hc,hm,hg⟩
 cases hv
 refine a8 (args:=[_]) func243 rfl ntmps243 results243 rfl ?_
 have hn:(if (l.length:Int)<(s:Int) then (l.length:Int) else (s:Int))=((min s l.length:Nat):Int):=by
  by_cases h:l.length<s
  ·rw [aI zo];omega
  ·rw [aB zo];omega
 have hle:min s l.length≤l.length:=Nat.min_le_right _ _;obtain ⟨n,QX⟩:∃ n,n=min s l.length:=⟨_,rfl⟩
 rw [← QX] at hn hle
 have et:l.take n=l.take s:=by
  rcases Nat.le_total s l.length with h|h
  ·rw [QX,Nat.min_eq_left h]
  ·rw [QX,Nat.min_eq_right h,aG (aS _),aG h]
 have ed:l.drop n=l.drop s:=by
  rcases Nat.le_total s l.length with h|h
  ·rw [QX,Nat.min_eq_left h]
  ·rw [QX,Nat.min_eq_right h,List.drop_of_length_le (aS _),List.drop_of_length_le h]
 have lt:(l.take n).length=n:=by rw [aF];omega
 have ld:(l.drop n).length=l.length - n:=by rw [aO]
 have rT:∀ L',cE (qz (.slice ad l.length c) l::L') 2 (.slice ad ((n:Int).toNat) c) (l.take n).length ((l.take n).flatMap jI.cells):=fun L'=>by
  have:=cE.p6 (bb (L:=qz (.slice ad l.length c) l::L') .zero) (hi:=n) hle;rw [mH MX] at this
  rw [lt];exact this
 have rD:∀ L',cE (qz (.slice ad l.length c) l::L') 2 (.slice (cutAt ad c ((n:Int).toNat) 2) (l.length - ((n:Int).toNat)) (c - ((n:Int).toNat))) (l.drop n).length ((l.drop n).flatMap jI.cells):=fun L'=>by
  have:=cE.rG (bb (L:=qz (.slice ad l.length c) l::L') .zero) (lo:=n) hle;rw [xZ MX] at this
  rw [ld];exact this
 (repeat' first|refine Za ?_|refine Zb ?_|apply Zc|apply Zd|apply Ze|apply Zf|refine Zg ?_|refine Zh ?_|refine Zi ?_|refine Yr ?_|(refine bz (id:=1) [10] mixed ?_;all_goals (refine tM 0 ?_);all_goals (refine tN 1 ?_);all_goals (refine tF 2 ?_);all_goals (refine tL 3 ?_);all_goals (refine tM 4 ?_);all_goals (refine tN 5 ?_);all_goals (refine tF 6 ?_);all_goals (refine tL 7 ?_);all_goals (refine tk 8 _ rfl (bM rfl) ?_);all_goals (refine tk 9 _ rfl (cD.min rfl rfl) ?_);all_goals ((refine tO 10 ?_;refine dV (bj rfl) ?_));all_goals (refine bf zK ?_)))
 rw [hn]
 (repeat' first|refine Za ?_|refine Zb ?_|apply Zc|apply Zd|apply Ze|apply Zf|refine Zg ?_|refine Zh ?_|refine Zi ?_|refine Zj ?_|refine Zk ?_|refine Yd ?_|refine Ym ?_|refine Yr ?_|refine Ys ?_|refine Yt ?_|apply YE|apply YF|refine YQ ?_|refine YR ?_|(apply O.df;exact rfl;exact zP;(first|(simp only [aC,Nat.add_zero,Nat.reduceAdd,List.drop_succ_cons,List.drop_zero,List.take_succ_cons,List.take_zero];done)|(simp only [aC,Nat.add_zero,Nat.reduceAdd,List.drop_succ_cons,List.drop_zero,List.take_succ_cons,List.take_zero];exact rfl));exact rfl;exact rfl)|(refine bz (id:=1) [10] mixed ?_;all_goals (refine tM 0 ?_);all_goals (refine tN 1 ?_);all_goals (refine tF 2 ?_);all_goals (refine tL 3 ?_);all_goals (refine tM 4 ?_);all_goals (refine tN 5 ?_);all_goals (refine tF 6 ?_);all_goals (refine tL 7 ?_);all_goals (refine tk 8 _ rfl (bM rfl) ?_);all_goals (refine tk 9 _ rfl (cD.min rfl rfl) ?_);all_goals ((refine tO 10 ?_;refine dV (bj rfl) ?_));all_goals (refine bf zK ?_)))
 refine aZ rfl rfl (EW _ e _ (l.take n) (rT _).tail (fun m hm=>(eF m.t (aE.2 ⟨m,aR hm,rfl⟩)).tail.tail) (fun m hm=>hb m (aR hm)) zo) ?_;rintro _ _ ⟨dW,c2,ts,rfl,fy,rfl⟩;refine wB ?_;refine aZ rfl rfl (EX _ e _ (l.drop n) (rD _).tail.tail.tail (fun m hm=>mV m (aV hm)) zo) ?_;rintro _ _ ⟨eJ,c3,rfl,rfl⟩;refine wB ?_;rw [et] at fy
 refine aY _ rfl (cj (show cz _ (cH (l.map jI.t)::cV (.slice dW ts.length c2) ts::cH ts::cK g [.int .i64 (r:Int),.int .i64 (s:Int),.int .i64 (w:Int),.slice eJ (l.drop n).length c3] 370 (0,0)::qz (.slice eJ (l.drop n).length c3) (l.drop n)::R) from zE) (cj (Gy n) (cj ?_ (bh (bh (kG (ad:=eJ) (c:=c3) (l:=l.drop n))))))) ⟨dW,c2,ts,rfl,fy,by rw [ed]⟩;rw [← List.map_drop];exact zE
theorem Hz (g r s w:Nat) (l:List jI) (v:Value) (ts:List ej) (hv:cE R 1 v ts.length (ts.map (·.1))) (ht:dQ R ts) (hb:∀ a∈ts,a.2.length≤140737488351232) (hl:ts.length+l.length≤100000) :
 Ct prog 244 #[pt g,v] e (xD g r s w l::R) (fun v' L'=>v'=.tuple #[]∧∃ l':List jI,l'.map jI.b=ts.map (·.2)∧(∀ m∈l',m.jC = -9223372036854775808)∧L'=xD g r s w (l'++l)::R):=by
 refine a7 EV ?_;intro mV;refine a7 (Cb (hv.shape zo) zE) ?_;rintro ⟨⟨wu,cap,rfl,h3,h4,h5,h6⟩,_⟩;refine q0 fun ad c=>?_
 refine a8 (args:=[_,_]) func244 rfl ntmps244 results244 rfl ?_;refine wB ?_;refine bq (ι:=List jI × Option Addr × Nat) (fun i=>[(0,pt g),(7,.slice wu ts.length cap),(8,.int .i64 (ts.length:Int)),(9,.int .i64 (i.1.length:Int)),(4,.slice i.2.1 i.1.length i.2.2)])
  (fun i=>qz (.slice i.2.1 i.1.length i.2.2) i.1::cH (i.1.map jI.t)::cK g [.int .i64 (r:Int),.int .i64 (s:Int),.int .i64 (w:Int),.slice ad l.length c] 370 (0,0)::qz (.slice ad l.length c) l::cH (l.map jI.t)::R)
  (fun i=>i.1.length≤ts.length∧i.1.map jI.b=(ts.take i.1.length).map (·.2)∧(∀ m∈i.1,m.jC = -9223372036854775808)∧∀ m∈i.1,m.v.oneCell'=true) (fun i=>ts.length - i.1.length) ([],none,0) ⟨aH _,rfl,(fun m h=>by cases h),(fun m h=>by cases h)⟩
  (cC rfl (cC rfl (cC rfl (cC rfl (cC rfl dd))))) ((dv Ky 2).trans (bh dK)) ?_
 rintro ⟨out,dW,c2⟩ ⟨hi,hd,J5,Xt⟩;dsimp only at hi hd J5 Xt ⊢
 by_cases cO:out.length<ts.length
 ·rcases h6 with h6|⟨gl,ol,rfl⟩
  ·omega
  have q1:Rd R ⟨gl,ol+out.length,none⟩ (ts[out.length]'cO).1:=cE.elem hv (by rw [aL,ab cO];rfl);have jw:=ht _ (aA cO);have EA:=hb _ (aA cO)
  generalize Cf:ts[out.length]'cO=m at *
  obtain ⟨v,b⟩:=m;dsimp only at jw EA q1
  refine wB ?_;refine aZ rfl rfl (dw _ e _ b jw.tail.tail.tail.tail.tail zo) ?_;rintro _ _ ⟨eJ,c3,rfl,rfl⟩
  (repeat (refine wA ?_;intros))
  refine bC (bo rfl rfl rfl (.succ (.succ .zero)) (bO (n:=2) (c:=1) .zero rfl zl) rfl rfl zO zm zo fun jA c4 _=>?_)
  refine wB ?_;refine bi (out++[⟨.slice eJ b.length c3,b,-9223372036854775808⟩],jA,c4) ⟨by simp;omega,?_,?_,?_⟩ (by simp;omega) ?_ ?_
  ·simp only [ah,aa,aj,hd];rw [aD cO,Cf];simp only [ah,List.map_cons,List.map_nil]
  ·intro m hm;rcases aJ.1 hm with hm|hm
   ·exact J5 m hm
   ·rw [an.1 hm]
  ·intro m hm;rcases aJ.1 hm with hm|hm
   ·exact Xt m hm
   ·rw [an.1 hm];rfl
  ·simp only [aa,aj];exact cC rfl (cC rfl (cC rfl (cC rfl (cC rfl dd))))
  ·refine cj (show cz _ (cS (.slice eJ b.length c3) b::cH (out.map jI.t)::dE Ky 2 (.slice jA (out.length+1) c4) (out.length+1) (out.flatMap jI.cells++[.slice eJ b.length c3,.int .i64 (-9223372036854775808)])::cK g [.int .i64 (r:Int),.int .i64 (s:Int),.int .i64 (w:Int),.slice ad l.length c] 370 (0,0)::qz (.slice ad l.length c) l::cH (l.map jI.t)::R) from zE) (cj (ju (a:=(.slice eJ b.length c3,b))) (cj (bw (.succ .zero) aX) (cj eL ?_)));simp only [qz,aa,aj,ah,List.map_cons,List.map_nil,aW,aU,List.flatMap_nil,aK];exact zE
 ·have Kj:out.map jI.b=ts.map (·.2):=by rw [hd,aG zo]
  refine wB ?_;refine bC (bo rfl rfl rfl .zero (bb (.succ (.succ .zero))) rfl rfl (EU mV) zm zo fun jA c4 _=>?_)
  refine wB ?_;refine bT (xD g r s w (out++l)::R) rfl (cj (show cz _ (cH (out.map jI.t)::cH (l.map jI.t)::cK g [.int .i64 (r:Int),.int .i64 (s:Int),.int .i64 (w:Int),.slice jA (out.length+l.length) c4] 370 (0,0)::dE Ky 2 (.slice jA (out.length+l.length) c4) (out.length+l.length) (out.flatMap jI.cells++l.flatMap jI.cells)::R) from zE) (cj eL (cj ?_ (kG (ad:=jA) (c:=c4))))) ⟨rfl,out,Kj,J5,rfl⟩;simp only [qz,aa,ah,aW];exact zE
def hasB (l:List jI) (b:List UInt8):Bool:=l.any fun i=>decide (i.b=b)
theorem EY (va vb:Value) (a b:List UInt8) (ha:db R va a) (hb:db R vb b) :
 Ct prog 188 #[va,vb] e R (fun v' L'=>v'=.bool (decide (a=b))∧R=L'):=by
 refine a8 (args:=[_,_]) func188 rfl ntmps188 results188 rfl ?_
 by_cases h:a=b
 ·subst h;refine wB ?_;exact aY _ rfl aX ⟨by simp;rfl,rfl⟩
 ·refine wB ?_;exact aY _ rfl aX ⟨by simp [h];rfl,rfl⟩
theorem sC (va vb:Value) (a b:List UInt8) (ha:db R va a) (hb:db R vb b) :
 Ct prog 99 #[va,vb] e R (fun v' L'=>v'=.bool (decide (a=b))∧R=L'):=by
 refine a8 (args:=[_,_]) func99 rfl ntmps99 results99 rfl ?_;refine wB ?_;refine aZ rfl rfl (EY R e va vb a b ha hb) ?_;rintro _ _ ⟨rfl,rfl⟩;refine wB ?_;exact aY _ rfl aX ⟨rfl,rfl⟩
theorem HA (g:Nat) (v:Value) (b:List UInt8) (i:jI) (hg:Rd R ⟨g,0,none⟩ v) (hr:db R v b) (hi:db R i.v i.b) :
 Ct prog 281 #[.agg i.cells.toArray,pt g] e R (fun v' L'=>v'=.bool (decide (i.b=b))∧R=L'):=by
 obtain ⟨iv,ib,ia⟩:=i;dsimp only at hi
 simp only [jI.cells];refine a8 (args:=[_,_]) func281 rfl ntmps281 results281 rfl ?_
 (repeat (refine wA ?_;intros))
 refine aZ rfl rfl (sC _ e iv v ib b hi.tail hr.tail) ?_;rintro _ _ ⟨rfl,rfl⟩;refine wB ?_;exact aY R rfl zE ⟨rfl,rfl⟩
theorem EZ (g:Nat) (v vl:Value) (b:List UInt8) (l:List jI) (hg:Rd R ⟨g,0,none⟩ v) (hr:db R v b) (hv:cE R 2 vl l.length (l.flatMap jI.cells)) (ht:∀ m∈l,db R m.v m.b) (hl:l.length≤100000) :
 Ct prog 303 #[vl,.func (.func 281) #[] #[pt g]] e R (fun v' L'=>∃ k:Int,v'=.int .i64 k∧(decide (0≤k)=hasB l b)∧R=L'):=by
 refine a7 (hv.shape zo) ?_;rintro ⟨⟨ad,cap,rfl,h3,h4,h5,h6⟩,_⟩;refine a8 (args:=[_,_]) func303 rfl ntmps303 results303 rfl ?_;refine wB ?_;refine bq (ι:=Nat) (fun i=>[(0,.slice ad l.length cap),(1,.func (.func 281) #[] #[pt g]),(7,.int .i64 (l.length:Int)),(8,.int .i64 (i:Int))]) (fun _=>R) (fun i=>i≤l.length∧∀ m∈l.take i,m.b≠b) (fun i=>l.length - i) 0 ⟨aH _,fun m h=>by simp at h⟩
  (cC rfl (cC rfl (cC rfl (cC rfl dd)))) aX ?_
 rintro i ⟨hi,hn⟩
 by_cases cO:i<l.length
 ·rcases h6 with h6|⟨gl,ol,rfl⟩
  ·omega
  have G5:dZ R gl (ol+i*2) (l[i]'cO).cells:=dZ.elem hv MX (ab cO);have jw:=ht _ (aA cO);refine wB ?_;refine O.gB (us:=[]) (ws:=[pt g]) (vs:=[.agg (l[i]'cO).cells.toArray]) rfl rfl rfl (HA R e g v b (l[i]'cO) hg hr jw) ?_;rintro _ _ ⟨rfl,rfl⟩
  by_cases hb:(l[i]'cO).b=b
  ·rw [ay hb];refine wB ?_;refine aY R rfl aX ⟨_,rfl,?_,rfl⟩
   have h1:hasB l b=true:=by
    unfold hasB;rw [List.any_eq_true];exact ⟨_,aA cO,by simpa using hb⟩
   rw [h1];simp
  ·rw [aq hb];refine wB ?_;refine bi (i+1) ⟨cO,?_⟩ zo (cC rfl (cC rfl (cC rfl (cC rfl dd)))) aX;intro m hm;rw [aD cO] at hm
   rcases aJ.1 hm with hm|hm
   ·exact hn m hm
   ·rw [an.1 hm];exact hb
 ·refine wB ?_;refine aY R rfl aX ⟨_,rfl,?_,rfl⟩
  have h1:hasB l b=false:=by
   unfold hasB;rw [List.any_eq_false];intro m hm;rw [aG zo] at hn
   simpa using hn m hm
  rw [h1];simp
theorem yX (g:Nat) (v vl:Value) (b:List UInt8) (l:List jI) (hg:Rd R ⟨g,0,none⟩ v) (hr:db R v b) (hv:cE R 2 vl l.length (l.flatMap jI.cells)) (ht:∀ m∈l,db R m.v m.b) (hl:l.length≤100000) :
 Ct prog 280 #[vl,.func (.func 281) #[] #[pt g]] e R (fun v' L'=>v'=.bool (hasB l b)∧R=L'):=by
 refine a8 (args:=[_,_]) func280 rfl ntmps280 results280 rfl ?_;refine wB ?_;refine aZ rfl rfl (EZ R e g v vl b l hg hr hv ht hl) ?_;rintro _ _ ⟨k,rfl,hk,rfl⟩;rw [← hk]
 by_cases h:0≤k
 ·rw [ay h];refine wB ?_;exact aY R rfl aX ⟨rfl,rfl⟩
 ·rw [aq h];refine wB ?_;exact aY R rfl aX ⟨rfl,rfl⟩
theorem KE (g r s w:Nat) (l:List jI) (v:Value) (b:List UInt8) (hr:db R v b) (hl:l.length≤100000) :
 Ct prog 238 #[pt g,v] e (xD g r s w l::R) (fun v' L'=>v'=.bool (hasB l b)∧L'=xD g r s w l::R):=by
 refine a7 (Cb (hr.shape zo) (cz.drop aX)) ?_;rintro ⟨⟨wu,cv,rfl,g3,g4,g5,g6⟩,_⟩;refine q0 fun ad c=>?_
 refine a8 (args:=[_,_]) func238 rfl ntmps238 results238 rfl ?_
 (repeat (refine wA ?_;intros))
 refine aZ rfl rfl (yX _ e _ _ _ b l (bP .zero rfl) (hr.tail.tail.tail.tail) (bb (.succ (.succ .zero))) (fun m hm=>(eF m.t (aE.2 ⟨m,hm,rfl⟩)).tail.tail.tail) hl) ?_;rintro _ _ ⟨rfl,rfl⟩;refine wB ?_;exact aY (xD g r s w l::R) rfl (cj (cz.drop aX) kG) ⟨rfl,rfl⟩
end Go.Proofs
