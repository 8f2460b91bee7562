/- Part 6 of a proof of this: TopLedgers returns true for any arguments; nothing of the old memory is turned. No condition. -/
import Derived.Test.YtccekbdjebohcaaGreatP05
set_option linter.unusedVariables false
set_option linter.unusedSimpArgs false
namespace Go.Proofs
attribute [local irreducible] Bs.Val Bs.Do Bs.O Bs.W Bs.Fin Bs.A Bs.Ct Bs.RdSl Bs.Rd Bs.Sat Bs.Blk Bs.Ob Bs.Own Bs.View Bs.Ent Bs.Ex Bs.All Bs.Pu Bs.Base Bs.sepL Bs.RdA
open Go.Bs
open Tryz
def kRecs (n:Nat):List (List UInt8):=(List.range n).map keyRec
def kl (n:Nat):List UInt8:=layP (kRecs n)
theorem kRecs_len (n:Nat):(kRecs n).length=n:=by simp [kRecs]
theorem kRecs_short {n:Nat}:∀ m∈kRecs n,m.length≤65535:=fun m hm=>by
 obtain ⟨i,_,rfl⟩:=List.mem_map.1 hm
 simp [keyRec]
theorem kRecs_succ (n:Nat):kRecs (n+1)=kRecs n++[keyRec n]:=by simp [kRecs,List.range_succ]
theorem kl_succ (n:Nat):kl (n+1)=kl n++recP (keyRec n):=by rw [kl,kRecs_succ,layP_snoc];rfl
theorem kl_len:∀ n,(kl n).length=9*n
 | 0=>rfl
 | n+1=>by rw [kl_succ,List.length_append,kl_len n,recP_length];simp [keyRec];omega
theorem kl_open (n:Nat):openP (kl n)=(kRecs n,9*n,true):=by
 have h:=openP_all (kRecs n) kRecs_short;rw [show layP (kRecs n)=kl n from rfl,kl_len] at h
 exact h
theorem kRecs_ok {n:Nat} (h:n≤16):keysP (kRecs n):=⟨by rw [kRecs_len];exact h,fun i hi=>by simp [kRecs]⟩
def kDisk (n L:Nat):DSt:=⟨kl n,9*n,L,0,false⟩
theorem kDisk_ok {n L:Nat} (h:9*n≤L) (hL:L≤1048576):(kDisk n L).ok:=⟨by simp only [kDisk,kl_len];omega,hL,by simp only [kDisk,kl_len];omega,by simp [kDisk]⟩
theorem kDisk_op (n L:Nat):opE (kDisk n L)=0∧opS (kDisk n L)=kDisk n L:=by
 have h:(openP (kDisk n L).b).2.1=(kDisk n L).b.length:=by simp only [kDisk,kl_open,kl_len]
 exact ⟨by unfold opE;rw [if_pos h],by unfold opS;rw [if_pos h]⟩
theorem kopenD_spec (R:List Res) (e:World) (gd n L:Nat) (hn:n≤16) (h:9*n≤L) (hL:L≤1048576) :
 Ct prog 64 #[pt gd] e (Disk gd (kDisk n L)::R) (fun v' L'=>∃ gb gj:Nat,v'=.tuple #[pt gb,.int .i64 0]∧L'=KBox gb gj n::Jrn gj gd n::Disk gd (kDisk n L)::R) :=
 (kopen_spec R e gd (kDisk n L) (kDisk_ok h hL)).mono fun v' L' h=>by
  have ho:openP (kDisk n L).b=(kRecs n,9*n,true):=kl_open n;obtain ⟨h1,h2⟩:=kDisk_op n L;rcases h with ⟨a,_⟩|⟨_,a,_⟩|⟨_,_,a,_⟩|⟨_,_,_,gb,gj,b1,b2⟩
  ·rw [ho] at a;cases a
  ·exact absurd h1 a
  ·rw [ho] at a;exact absurd (kRecs_ok hn) a
  ·rw [ho,h2] at b2
   dsimp only at b2
   rw [kRecs_len] at b2
   exact ⟨gb,gj,b1,b2⟩
theorem kDisk_add {n L:Nat} (h:9*n+9≤L):addE (kDisk n L) (keyRec n)=0∧addS (kDisk n L) (keyRec n)=kDisk (n+1) L∧∀ j,addK (kDisk n L) (keyRec n) j=j+1:=by
 have hl:(recP (keyRec n)).length=9:=by rw [recP_length];rfl
 obtain ⟨h1,h2⟩:=DSt.app_plain (b:=kl n) (m:=recP (keyRec n)) (sy:=9*n) (li:=L) (by rw [kl_len,hl];exact h);have e1:(kDisk n L).appE (recP (keyRec n))=0:=h2;have e2:(kDisk n L).app (recP (keyRec n))=⟨kl n++recP (keyRec n),9*n,L,0,false⟩:=h1;refine ⟨?_,?_,fun j=>?_⟩
 ·unfold addE;rw [if_pos e1,e2];rfl
 ·unfold addS;rw [if_pos e1,e2,← kl_succ];simp only [DSt.syn,DSt.pow,kDisk,kl_len,Nat.lt_irrefl,gt_iff_lt,if_false]
  rfl
 ·unfold addK;rw [if_pos e1]
theorem ktakeD_spec (R:List Res) (e:World) (gb gj gd n L:Nat) (hn:n<16) (h:9*n+9≤L) (hL:L≤1048576) :
 Ct prog 112 #[pt gb] e (KBox gb gj n::Jrn gj gd n::Disk gd (kDisk n L)::R) (fun v' L'=>v'=.tuple #[.int .i64 n,.int .i64 0]∧L'=KBox gb gj (n+1)::Jrn gj gd (n+1)::Disk gd (kDisk (n+1) L)::R):=by
 obtain ⟨a1,a2,a3⟩:=kDisk_add h;refine (ktake_spec R e gb gj gd n n (kDisk n L) (kDisk_ok zo hL) zo zo).mono ?_;rintro _ _ ⟨rfl,rfl⟩;have h16:¬ 16≤n:=by omega
 simp only [takeN,takeE,takeK,takeS,takeJ,if_neg h16,a1,a2,a3,if_true];refine ⟨?_,?_⟩<;>first|rfl|trivial
theorem ktakeU_spec (R:List Res) (e:World) (gb gj gd L:Nat) (h0:144≤L) (hL:L≤1048576) :
 Ct prog 112 #[pt gb] e (KBox gb gj 16::Jrn gj gd 16::Disk gd (kDisk 16 L)::R) (fun v' L'=>v'=.tuple #[.int .i64 0,.int .i64 23]∧L'=KBox gb gj 16::Jrn gj gd 16::Disk gd (kDisk 16 L)::R):=by
 refine (ktake_spec R e gb gj gd 16 16 (kDisk 16 L) (kDisk_ok zo hL) zo zo).mono ?_;rintro _ _ ⟨rfl,rfl⟩;exact ⟨rfl,rfl⟩
end Go.Proofs
namespace Go.Bs
section
variable {κ:Type} [DecidableEq κ]
def posK (k:κ):List (κ × Value)→Nat→Option (Nat × Value)
 | [],_=>none
 | p::l,j=>if p.1=k then some (j,p.2) else posK k l (j+1)
def lookK (k:κ):List (κ × Value)→Option Value
 | []=>none
 | p::l=>if p.1=k then some p.2 else lookK k l
def putK (k:κ) (v:Value):List (κ × Value)→List (κ × Value)
 | []=>[(k,v)]
 | p::l=>if p.1=k then (k,v)::l else p::putK k v l
theorem posK_none {k:κ} {v:Value}:∀ {l:List (κ × Value)} {j:Nat},posK k l j=none→lookK k l=none∧putK k v l=l++[(k,v)]
 | [],_,_=>⟨rfl,rfl⟩
 | p::l,j,h=>by
  unfold posK at h
  by_cases hk:p.1=k
  ·rw [if_pos hk] at h;cases h
  ·rw [if_neg hk] at h
   obtain ⟨h1,h2⟩:=posK_none (v:=v) h;unfold lookK putK;rw [if_neg hk,if_neg hk,h2];exact ⟨h1,rfl⟩
theorem posK_some {k:κ} {v:Value}:∀ {l:List (κ × Value)} {j i:Nat} {u:Value},posK k l j=some (i,u)→∃ n,i=j+n∧lookK k l=some u∧putK k v l=l.set n (k,v)∧∃ h:n<l.length,(l[n]'h).1=k
 | [],_,_,_,h=>by cases h
 | p::l,j,i,u,h=>by
  unfold posK at h
  by_cases hk:p.1=k
  ·rw [if_pos hk] at h
   cases h
   refine ⟨0,rfl,by unfold lookK;rw [if_pos hk],by unfold putK;rw [if_pos hk];rfl,by simp,hk⟩
  ·rw [if_neg hk] at h
   obtain ⟨n,h1,h2,h3,h4,h5⟩:=posK_some (v:=v) h;refine ⟨n+1,by omega,by unfold lookK;rw [if_neg hk];exact h2,by unfold putK;rw [if_neg hk,h3];rfl,by rw [List.length_cons];omega,h5⟩
theorem posK_eq {k:κ}:∀ {l:List (κ × Value)} {j:Nat},(posK k l j).map (·.2)=lookK k l
 | [],_=>rfl
 | p::l,j=>by
  unfold posK lookK
  by_cases hk:p.1=k
  ·rw [if_pos hk,if_pos hk];rfl
  ·rw [if_neg hk,if_neg hk];exact posK_eq
class KeyT (P:Program) (t:TypeId) (key:κ→Value) (z:outParam Value):Prop where
 ex:∃ kt et,P.underlying t=some (.map kt et)∧(∀ w,(zeroValue et).run P w=.ok z w)∧(∀ b k w,(Instr.checkKey b 10000 kt (key k)).run P w=.ok () w) ∧
  (∀ k (l:List MapEntry) (kvs:List (κ × Value)) w,l.map (fun e=>(e.key,e.val))=kvs.map (fun p=>(key p.1,p.2))→(Instr.findKey kt (key k) l).run P w=.ok (posK k kvs 0) w)∧∀ k,Instr.sameBits 10000 (key k) (key k)=true
def MpK (key:κ→Value) (g:Nat) (kvs:List (κ × Value)):Res:=fun h=>∃ (es:Array MapEntry) (clock:Nat),h g=some (.map es clock)∧es.toList.map (fun e=>(e.key,e.val))=kvs.map (fun p=>(key p.1,p.2))
theorem findNow_key {key:κ→Value} {d:TypeDesc} (hs:∀ a b,Instr.sameNow d (key a) (key b)=some (decide (a=b))) (k:κ):∀ (l:List MapEntry) (kvs:List (κ × Value)) (j:Nat),l.map (fun e=>(e.key,e.val))=kvs.map (fun p=>(key p.1,p.2))→Instr.findNow d (key k) l j=some (posK k kvs j)
 | [],kvs,j,h=>by
  cases kvs with
  | nil=>rfl
  | cons _ _=>simp at h
 | e::l,kvs,j,h=>by
  cases kvs with
  | nil=>simp at h
  | cons p kvs =>
   simp only [List.map_cons,List.cons.injEq,Prod.mk.injEq] at h
   obtain ⟨⟨h1,h2⟩,h3⟩:=h;unfold Instr.findNow posK;rw [h1,hs]
   by_cases hk:k=p.1
   ·rw [decide_eq_true hk,if_pos hk.symm,h2]
   ·rw [decide_eq_false hk,if_neg (fun q=>hk q.symm)];exact findNow_key hs k l kvs (j+1) h3
theorem keyStr {P:Program} {t kt et:TypeId} {z:Value} (h1:P.underlying t=some (.map kt et)) (h2:P.underlying kt=some .string) (h3:∀ w,(zeroValue et).run P w=.ok z w):KeyT P t (fun l:List UInt8=>Value.string (str l)) z :=
 ⟨kt,et,h1,h3,fun b k w=>MapKept.run_checkKey (k:=.string (str k)) h2 trivial b 9999,fun k l kvs w h=>MapKept.run_findKey h2 (findNow_key (key:=fun l:List UInt8=>Value.string (str l)) (d:=.string) (fun a b=>by
  have:(str a == str b)=decide (a=b):=by
   by_cases h:a=b
   ·subst h;rw [decide_eq_true rfl];exact (MapKept.bytes_beq _ _).2 rfl
   ·rw [decide_eq_false h]
    cases hb:(str a == str b) with
    | false=>rfl
    | true=>exact absurd (by
     have:=(MapKept.bytes_beq _ _).1 hb;have h4:=congrArg (fun x:ByteArray=>x.data.toList) this
     simpa [str] using h4) h
  simp [Instr.sameNow,this]) k l kvs 0 h),fun k=>by
  show Instr.sameBits 10000 (.string (str k)) (.string (str k))=true
  simp only [Instr.sameBits];exact (MapKept.bytes_beq _ _).2 rfl⟩
theorem keyInt {P:Program} {t kt et:TypeId} {z:Value} (h1:P.underlying t=some (.map kt et)) (h2:P.underlying kt=some (.int .i64)) (h3:∀ w,(zeroValue et).run P w=.ok z w):KeyT P t (fun n:Int=>Value.int .i64 n) z :=
 ⟨kt,et,h1,h3,fun b k w=>MapKept.run_checkKey (k:=.int .i64 k) h2 rfl b 9999,fun k l kvs w h=>MapKept.run_findKey h2 (findNow_key (key:=fun n:Int=>Value.int .i64 n) (d:=.int .i64) (fun a b=>by
  simp [Instr.sameNow]
  by_cases h:a=b<;>simp [h]) k l kvs 0 h),fun k=>by
  show Instr.sameBits 10000 (.int .i64 k) (.int .i64 k)=true
  simp [Instr.sameBits]⟩
end
section
variable {P:Program} {N:Fr} {Q:Goal} {σ:Env} {e:World} {L:List Res} {all:Array Oper} {rest:List Oper}
variable {d:Nat} {op:Op} {ty:TypeId} {pos:String} {af:Array Edge} {gd:Option (Nat × Bool)} {K:Env→List Res→Prop} {x y z:Operand} {t:TypeId}
theorem Do.makeMapK {κ:Type} (key:κ→Value) (hd:Nat.blt d N.n=true) (k:∀ g,K ((d,.map (some g))::σ) (MpK key g []::L)):Do P N ⟨some d,.makeMap t none,ty,pos,af,gd⟩ K σ e L:=fun a w ha hs K' Q' hK =>
 upon_ok_do (w':=w.alloc (.map #[] 0)) (v:=.map (some w.heap.size)) (by
  have h:(Instr.makeMap t none).run P w=.ok (.map (some w.heap.size)) (w.alloc (.map #[] 0)):=rfl
  simp [execOp,h]) (hK _ _ _ _ (k _) (ha.put hd _) ((hs.alloc _).ent fun _=>sepL_head fun _ h=>⟨#[],0,h,rfl⟩))
variable {κ:Type} [DecidableEq κ] {key:κ→Value}
theorem Val.lookupK {g:Nat} {k:κ} {zz:Value} {kvs:List (κ × Value)} {R:List Res} [m:KeyT P t key zz] (hx:ev σ x=some (.map (some g))) (hy:ev σ y=some (key k)) (p:Pull L (MpK key g kvs) R) :
 Val P N (.lookup t x y true) ty (.tuple #[(lookK k kvs).getD zz,.bool (lookK k kvs).isSome]) σ e L:=fun a w ha hs _ _ _ _=>by
 obtain ⟨kt,et,hm,hz,hck,hfk,hsb⟩:=m.ex;obtain ⟨h1,h2,ap,l1,l2,⟨es,clock,hg,hks⟩,hR⟩:=(hs.ent p.out).2.2.2;have hb:w.heap[g]?=some (.map es clock):=l1 g _ hg;have hf:=hfk k es.toList kvs w hks;have he:=posK_eq (k:=k) (l:=kvs) (j:=0)
 have hr:(Instr.lookup t (.map (some g)) (key k) true).run P w=.ok (.tuple #[(lookK k kvs).getD zz,.bool (lookK k kvs).isSome]) w:=by
  unfold Instr.lookup
  cases hp:posK k kvs 0 with
  | none =>
   rw [hp] at hf he
   rw [← he]
   simp [run_underlying hm,MapKept.run_getObj_map hb,hck,hf,hz]
  | some q =>
   obtain ⟨i,v⟩:=q;rw [hp] at hf he
   rw [← he]
   simp [run_underlying hm,MapKept.run_getObj_map hb,hck,hf]
 simp [execOp,ha.ev hx,ha.ev hy,hr]
theorem Do.mapUpdateK {g:Nat} {k:κ} {v zz:Value} {kvs:List (κ × Value)} {R:List Res} [m:KeyT P t key zz] (hx:ev σ x=some (.map (some g))) (hy:ev σ y=some (key k)) (hz:ev σ z=some v) (p:Pull L (MpK key g kvs) R) (kk:K σ (MpK key g (putK k v kvs)::R)) :
 Do P N ⟨none,.mapUpdate t x y z,ty,pos,af,gd⟩ K σ e L:=fun a w ha hs K' Q' hK=>by
 obtain ⟨kt,et,hm,hz0,hck,hfk,hsb⟩:=m.ex;have hs1:=hs.ent p.out;obtain ⟨h1,h2,ap,l1,l2,⟨es,clock,hg,hks⟩,hR⟩:=id hs1.2.2.2;have hb:w.heap[g]?=some (.map es clock):=l1 g _ hg
 have hset:∀ (es':Array MapEntry) (clock':Nat),es'.toList.map (fun e=>(e.key,e.val))=(putK k v kvs).map (fun p=>(key p.1,p.2))→Sat e (MpK key g (putK k v kvs)::R) { w with heap:=w.heap.setIfInBounds g (.map es' clock') }:=fun es' clock' hks'=>by
  have hlt:g<w.heap.size:=(Array.getElem?_eq_some_iff.1 hb).1;refine hs1.change rfl rfl rfl fun h1 hle hA=>?_
  obtain ⟨es2,clock2,hg2,_⟩:=hA;refine ⟨fun b=>if b=g then some (.map es' clock') else none,?_,⟨es',clock',by simp,hks'⟩,?_,?_⟩
  ·intro b o hb'
   by_cases eb:b=g
   ·subst eb;simp only [if_true] at hb';rw [← hb'];simp [hp,hlt]
   ·simp [eb] at hb'
  ·intro b o hb' hn
   by_cases eb:b=g
   ·subst eb;rw [hg2] at hn;cases hn
   ·simp [eb] at hb'
  ·intro b hn o ho;have:b≠g:=by rintro rfl;rw [hg2] at hn;cases hn
   simp only [hp] at ho ⊢
   simp [Array.getElem?_setIfInBounds_ne this.symm,ho]
 have hex:∀ w',(Instr.mapUpdate t (.map (some g)) (key k) v).run P w=.ok () w'→K' (a.put none undef) w' →
  Oper.wp P ⟨none,.mapUpdate t x y z,ty,pos,af,gd⟩ a w K' Q':=fun w' hr hk =>
  upon_skip_do (w':=w') (by simp [execOp,ha.ev hx,ha.ev hy,ha.ev hz,hr]) hk
 have hf:=hfk k es.toList kvs w hks
 cases hp:posK k kvs 0 with
 | none =>
  rw [hp] at hf
  refine hex { w with heap:=w.heap.setIfInBounds g (.map (es.push { key:=key k,val:=v,born:=clock }) (clock+1)) } ?_ (hK _ _ _ _ kk ha ?_)
  ·simp [Instr.mapUpdate,run_underlying hm,MapKept.run_getObj_map hb,hck,hf,MapKept.run_setObj_map _ hb]
  ·refine hset _ _ ?_;rw [(posK_none (v:=v) hp).2]
   simp [hks]
 | some q =>
  obtain ⟨i,u⟩:=q;rw [hp] at hf
  obtain ⟨n,hi,_,hput,hlt,hkn⟩:=posK_some (v:=v) hp;rw [Nat.zero_add] at hi
  subst hi;have hlen:es.toList.length=kvs.length:=by have:=congrArg List.length hks;simpa using this
  have hes:∃ e',es[i]?=some e'∧e'.key=key k:=by
   have hlt2:i<es.size:=by rw [Array.length_toList] at hlen;omega
   refine ⟨es[i],Array.getElem?_eq_getElem hlt2,?_⟩;have:=congrArg (fun l=>l[i]?) hks;simp only [List.getElem?_map,Array.getElem?_toList,Array.getElem?_eq_getElem hlt2,List.getElem?_eq_getElem hlt,Option.map_some,Option.some.injEq,Prod.mk.injEq] at this
   rw [this.1,hkn]
  obtain ⟨e',hes,hek⟩:=hes;refine hex { w with heap:=w.heap.setIfInBounds g (.map (es.modify i fun e=>{ e with key:=key k,val:=v }) clock) } ?_ (hK _ _ _ _ kk ha ?_)
  ·simp [Instr.mapUpdate,run_underlying hm,MapKept.run_getObj_map hb,hck,hf,hes,hek,Instr.keyThatStays,hsb,MapKept.run_setObj_map _ hb]
  ·refine hset _ _ ?_;rw [hput];apply List.ext_getElem?;intro j;have hj2:=congrArg (fun l=>l[j]?) hks;simp only [List.getElem?_map,Array.getElem?_toList,Array.getElem?_modify,List.getElem?_set] at hj2 ⊢
   by_cases hj:i=j
   ·subst hj;rw [if_pos rfl,if_pos rfl,if_pos hlt,hes]
    rfl
   ·rw [if_neg hj,if_neg hj];exact hj2
end
end Go.Bs
namespace Go.Proofs
open Go.Bs
abbrev Bts:=List UInt8
def encL (l:List Bts):Bts:=(l.map enc).flatten
def encR (l:List Bts):Bts:=be l.length 4++encL l
theorem encAll_encL (ts:List Txt):encAll ts=encL (ts.map (·.2)):=by
 unfold encAll encL;rw [List.map_map];rfl
theorem encL_len {l:List Bts} {n:Nat} (h:∀ b∈l,b.length≤n):(encL l).length≤l.length*(n+2):=by
 induction l with
 | nil=>simp [encL]
 | cons b l ih =>
  have h1:=ih fun x hx=>h x (List.mem_cons_of_mem _ hx)
  have h2:=h b (List.mem_cons_self ..)
  show (enc b++encL l).length≤_
  rw [List.length_append,enc_length,List.length_cons,Nat.add_mul]
  omega
def freshP (old:List Bts):List Bts→List Bts→List Bts
 | fresh,[]=>fresh
 | fresh,b::l=>if b∈old++fresh then freshP old fresh l else freshP old (fresh++[b]) l
def posP (l:List Bts) (b:Bts):Nat:=l.idxOf b
theorem freshP_ext {old:List Bts}:∀ {l fresh:List Bts},∃ m,freshP old fresh l=fresh++m
 | [],fresh=>⟨[],by simp [freshP]⟩
 | b::l,fresh=>by
  unfold freshP
  split
  ·exact freshP_ext
  ·obtain ⟨m,h⟩:=freshP_ext (old:=old) (l:=l) (fresh:=fresh++[b]);exact ⟨b::m,by rw [h];simp⟩
theorem freshP_mem {old:List Bts}:∀ {l fresh:List Bts} {b:Bts},b∈l→b∈old++freshP old fresh l
 | x::l,fresh,b,h=>by
  unfold freshP;rcases List.mem_cons.1 h with rfl|h
  ·split
   ·rename_i h1;obtain ⟨m,hm⟩:=freshP_ext (old:=old) (l:=l) (fresh:=fresh);rw [hm,← List.append_assoc];exact List.mem_append_left _ h1
   ·obtain ⟨m,hm⟩:=freshP_ext (old:=old) (l:=l) (fresh:=fresh++[b]);rw [hm]
    simp
  ·split
   ·exact freshP_mem h
   ·exact freshP_mem h
theorem freshP_sub {old:List Bts}:∀ {l fresh:List Bts} {b:Bts},b∈freshP old fresh l→b∈fresh∨b∈l
 | [],fresh,b,h=>.inl (by simpa [freshP] using h)
 | x::l,fresh,b,h=>by
  unfold freshP at h
  split at h
  ·rcases freshP_sub h with h|h
   ·exact .inl h
   ·exact .inr (List.mem_cons_of_mem _ h)
  ·rcases freshP_sub h with h|h
   ·rcases List.mem_append.1 h with h|h
    ·exact .inl h
    ·rw [List.mem_singleton.1 h];exact .inr (List.mem_cons_self ..)
   ·exact .inr (List.mem_cons_of_mem _ h)
theorem freshP_nodup {old:List Bts}:∀ {l fresh:List Bts},(old++fresh).Nodup→(old++freshP old fresh l).Nodup
 | [],fresh,h=>by simpa [freshP] using h
 | b::l,fresh,h=>by
  unfold freshP
  split
  ·exact freshP_nodup h
  ·rename_i hb;refine freshP_nodup ?_;rw [← List.append_assoc];exact List.nodup_append.2 ⟨h,by simp,fun a ha c hc=>by rw [List.mem_singleton.1 hc];rintro rfl;exact hb ha⟩
theorem freshP_len {old:List Bts}:∀ {l fresh:List Bts},(freshP old fresh l).length≤fresh.length+l.length
 | [],fresh=>by simp [freshP]
 | b::l,fresh=>by
  unfold freshP
  split
  ·have:=freshP_len (old:=old) (l:=l) (fresh:=fresh);rw [List.length_cons];omega
  ·have:=freshP_len (old:=old) (l:=l) (fresh:=fresh++[b]);rw [List.length_append,List.length_singleton] at this;rw [List.length_cons];omega
theorem posP_append {l m:List Bts} {b:Bts} (h:b∈l):posP (l++m) b=posP l b:=by unfold posP;rw [List.idxOf_append,if_pos h]
theorem posP_new {l m:List Bts} {b:Bts} (h:¬ b∈l):posP (l++b::m) b=l.length:=by unfold posP;rw [List.idxOf_append,if_neg h];simp
def placeP (l:List Bts) (at':Nat):List (Bts × Value):=match l with
 | []=>[]
 | b::r=>(b,.int .i64 (at':Int))::placeP r (at'+1)
theorem placeP_look {b:Bts}:∀ {l:List Bts} {k:Nat},lookK b (placeP l k)=if b∈l then some (.int .i64 ((k+posP l b:Nat):Int)) else none
 | [],k=>by simp [placeP,lookK]
 | x::l,k=>by
  unfold placeP lookK
  by_cases h:x=b
  ·subst h;rw [if_pos rfl,if_pos (List.mem_cons_self ..)]
   simp [posP]
  ·rw [if_neg h,placeP_look];have hb:(x == b)=false:=by simpa using h
   by_cases hm:b∈l
   ·rw [if_pos hm,if_pos (List.mem_cons_of_mem _ hm)];unfold posP;rw [List.idxOf_cons,hb];simp only [cond_false];rw [show k+1+List.idxOf b l=k+(List.idxOf b l+1) by omega]
   ·rw [if_neg hm,if_neg (fun q=>by
     rcases List.mem_cons.1 q with rfl|q;· exact h rfl
     ·exact hm q)]
theorem placeP_put {b:Bts}:∀ {l:List Bts} {k:Nat},¬ b∈l→putK b (.int .i64 ((k+l.length:Nat):Int)) (placeP l k)=placeP (l++[b]) k
 | [],k,_=>by simp [placeP,putK]
 | x::l,k,h=>by
  have hx:¬ x=b:=fun q=>h (by rw [q];exact List.mem_cons_self ..)
  have ih:=placeP_put (l:=l) (k:=k+1) (fun q=>h (List.mem_cons_of_mem _ q))
  show putK b _ ((x,.int .i64 (k:Int))::placeP l (k+1))=(x,.int .i64 (k:Int))::placeP (l++[b]) (k+1)
  unfold putK;rw [if_neg hx,← ih,List.length_cons];rw [show k+(l.length+1)=k+1+l.length by omega]
structure LSt where
 recs:List (List Bts)
 keys:Nat
 last:Option Sgd
def LSt.items (s:LSt):List Bts:=s.recs.flatten
def LSt.jb (s:LSt):Bts:=layP (s.recs.map encR)
def sgd0:Sgd:=⟨⟨0,[]⟩,⟨0,[],[]⟩⟩
def LSt.lastV (s:LSt):Sgd:=s.last.getD sgd0
structure LSt.ok (s:LSt):Prop where
 full:∀ r∈s.recs,r≠[]
 nodup:s.items.Nodup
 size:s.items.length≤256
 short:∀ b∈s.items,b.length≤200
 keys:s.keys≤16
 last:∀ x,s.last=some x→x.chk.right∧x.sig.right∧x.chk.size≤s.items.length
end Go.Proofs
namespace Go.Proofs
attribute [local irreducible] Bs.Val Bs.Do Bs.O Bs.W Bs.Fin Bs.A Bs.Ct Bs.RdSl Bs.Rd Bs.Sat Bs.Blk Bs.Ob Bs.Own Bs.View Bs.Ent Bs.Ex Bs.All Bs.Pu Bs.Base Bs.sepL Bs.RdA
open Go.Bs
open Tryz
theorem batch_spec (R:List Res) (e:World) (v:Value) (l:List Bts) (hv:RdB R v (encR l)) (h0:l≠[]) (hl:l.length≤1000) (hb:∀ b∈l,b.length≤200) :
 Ct prog 68 #[v] e R (fun v' L'=>∃ ad c ts,v'=.tuple #[.slice ad ts.length c,.bool true]∧ts.map (·.2)=l∧L'=OwnT (.slice ad ts.length c) ts::Items ts::R):=by
 have hel:=encL_len hb;have hel2:(encR l).length≤1000000:=by unfold encR;rw [List.length_append,be_length];omega
 have hlp:0<l.length:=List.length_pos_iff.2 h0;refine Ct.enter (args:=[_]) func68 rfl ntmps68 results68 rfl ?_;refine wB ?_;refine O.call rfl rfl (read_spec _ e v (encR l) hv zo) ?_;rintro _ _ ⟨gr,rfl,rfl⟩;unfold encR;refine wB ?_;refine O.call rfl rfl (rnumB _ e gr l.length (encL l) zo) ?_;rintro _ _ ⟨rfl,rfl⟩;refine wB ?_;refine W.loop (ι:=Nat × List Txt × Option Addr × Nat) (fun i=>[(4,pt gr),(5,.slice i.2.2.1 i.2.1.length i.2.2.2),(6,.int .u32 ((l.length - i.1:Nat):Int))]) (fun i=>Reader gr ⟨encL (l.drop i.1),false⟩::OwnT (.slice i.2.2.1 i.2.1.length i.2.2.2) i.2.1::Items i.2.1::R) (fun i=>i.1≤l.length∧i.2.1.map (·.2)=l.take i.1) (fun i=>l.length - i.1) (0,[],none,0) ⟨Nat.zero_le _,by simp⟩ zS (Ent.cons (Ent.trans items_nil (own_nil tTxts 1))) ?_;rintro ⟨i,us,ad,c⟩ ⟨hi,hus⟩;dsimp only at hi hus ⊢
 have hol:us.length=i:=by have:=congrArg List.length hus;rw [List.length_map,List.length_take] at this;omega
 by_cases hlt:i<l.length
 rotate_left
 ·have hie:i=l.length:=by omega
  rw [List.take_of_length_le zo] at hus
  rw [List.drop_eq_nil_of_le zo,hie,Nat.sub_self];refine wB ?_;refine O.call rfl rfl (rendB _ e gr (encL [])) ?_;rintro _ _ ⟨rfl,rfl⟩;rw [decide_eq_true (show encL []=[] from rfl)];refine wB ?_;exact Fin.ret (OwnT (.slice ad us.length c) us::Items us::R) rfl zE ⟨ad,c,us,rfl,hus,rfl⟩
 have hdr:encL (l.drop i)=enc (l[i]'hlt)++encL (l.drop (i+1)):=by rw [List.drop_eq_getElem_cons hlt];rfl
 have hbi:=hb _ (List.getElem_mem hlt)
 have hlr:(encL (l.drop (i+1))).length≤300000:=by
  have:=encL_len (l:=l.drop (i+1)) (n:=200) (fun b hb'=>hb _ (List.mem_of_mem_drop hb'));rw [List.length_drop] at this
  omega
 have hnext:∀ w:Value,(us++[(w,l[i]'hlt)]).map (·.2)=l.take (i+1):=fun w=>by
  rw [List.map_append,hus,List.take_succ_eq_append_getElem hlt]
  rfl
 have hsub:((l.length - i:Nat):Int) - 1=((l.length - (i+1):Nat):Int):=by omega
 rw [hdr]
 generalize l[i]'hlt=b at *
 refine wB ?_;refine O.call rfl rfl (rbad_spec _ e gr _) ?_;rintro _ _ ⟨rfl,rfl⟩;refine wB ?_;refine O.call rfl rfl (rbytesB _ e gr b (encL (l.drop (i+1))) 65535 zo zo (by rw [List.length_append,enc_length];omega)) ?_;rintro _ _ ⟨ad3,c3,rfl,rfl⟩
 (repeat (refine wA ?_;intros))
 refine O.do (Do.append rfl rfl rfl zP (RdSl.blk .zero rfl zl) rfl rfl zO zm zo fun ad4 c4 _=>?_)
 refine wB ?_;rw [hsub,wrap_u32 zo zo];refine Fin.round (i+1,us++[(.slice ad3 b.length c3,b)],ad4,c4) ⟨hlt,hnext _⟩ zd ?_ ?_
 ·dsimp only;rw [List.length_append,List.length_singleton];exact zS
 ·exact Ent.trans (show Ent _ (Reader gr ⟨encL (l.drop (i+1)),false⟩::Own tTxts 1 (.slice ad4 (us.length+1) c4) (us.length+1) (us.map (·.1)++[.slice ad3 b.length c3])::OwnB (.slice ad3 b.length c3) b::Items us::R) from zE) (Ent.cons grow_txts)
abbrev tLdg:TypeId:=143
abbrev keyS:List UInt8→Value:=fun l=>.string (str l)
instance keyT_S:KeyT prog 141 keyS (.int .i64 0):=keyStr underlying141 underlying9 zeroValue3
theorem grow_items {ts:List Txt} {v:Value} {b:Bts} {R:List Res}:Ent (OwnB v b::Items ts::R) (Items (ts++[(v,b)])::R) :=
 Ent.trans (Ent.pull (.succ .zero) Ent.rfl) (Ent.trans (Ent.cons (items_own (a:=(v,b)))) items_append)
structure LPut where
 ts:List Txt
 us:List Txt
 ai:Option Addr
 ci:Nat
 al:Option Addr
 cl:Nat
abbrev lputC (vj vb vs vp:Value) (gm:Nat) (rest:List Value) (q:LPut):List Value:=vj::vb::vs::vp::.slice q.ai q.ts.length q.ci::.slice q.al q.us.length q.cl::.map (some gm)::rest
abbrev lputM (g:Nat) (vj vb vs vp:Value) (gm:Nat) (rest:List Value) (q:LPut) (R:List Res):List Res:=Blk g (lputC vj vb vs vp gm rest q) tLdg (0,0)::OwnT (.slice q.ai q.ts.length q.ci) q.ts::OwnT (.slice q.al q.us.length q.cl) q.us::MpK keyS gm (placeP (q.ts.map (·.2)) 0)::R
theorem lput_spec (R:List Res) (e:World) (g:Nat) (vj vb vs vp:Value) (gm:Nat) (c1 c2 c3 c4 c5 c6:Value) (q:LPut) (v:Value) (ls:List Txt) (hv:RdSl R 1 v ls.length (ls.map (·.1))) (ht:Txts R ls) (hn:(q.ts.map (·.2)++ls.map (·.2)).Nodup) (hq:q.us.length=q.ts.length) (hl:q.ts.length+ls.length≤256) (hb:∀ a∈ls,a.2.length≤200) :
 Ct prog 69 #[pt g,v] e (lputM g vj vb vs vp gm [c1,c2,c3,c4,c5,c6] q R) (fun v' L'=>v'=.bool true∧∃ (q2:LPut) (ts' us':List Txt),q2.ts=q.ts++ts'∧q2.us=q.us++us'∧ts'.map (·.2)=ls.map (·.2)∧us'.map (·.2)=(ls.map (·.2)).map leafP∧L'=lputM g vj vb vs vp gm [c1,c2,c3,c4,c5,c6] q2 (Items ts'::Items us'::R)):=by
 refine Ct.of_sep ((hv.ent (show Ent (lputM g vj vb vs vp gm [c1,c2,c3,c4,c5,c6] q R) R from zE)).shape zo) ?_;rintro ⟨⟨adv,cap,rfl,h3,h4,h5,h6⟩,_⟩;simp only [maxLen] at h4
 refine Ct.enter (args:=[_,_]) func69 rfl ntmps69 results69 rfl ?_;refine wB ?_;refine W.loop (ι:=Nat × LPut × List Txt × List Txt) (fun i=>[(0,pt g),(9,.slice adv ls.length cap),(10,.int .i64 (ls.length:Int)),(11,.int .i64 (i.1:Int))]) (fun i=>lputM g vj vb vs vp gm [c1,c2,c3,c4,c5,c6] i.2.1 (Items i.2.2.1::Items i.2.2.2::R)) (fun i=>i.1≤ls.length∧i.2.1.ts=q.ts++i.2.2.1∧i.2.1.us=q.us++i.2.2.2∧i.2.2.1.map (·.2)=(ls.map (·.2)).take i.1∧i.2.2.2.map (·.2)=((ls.map (·.2)).take i.1).map leafP) (fun i=>ls.length - i.1) (0,q,[],[]) ⟨Nat.zero_le _,by simp,by simp,by simp,by simp⟩ zS (Ent.trans items_nil (Ent.trans items_nil zE)) ?_;rintro ⟨i,p,ts',us'⟩ ⟨hi,hts,hus,hts2,hus2⟩;dsimp only at hi hts hus hts2 hus2 ⊢
 by_cases hlt:i<ls.length
 rotate_left
 ·rw [List.take_of_length_le (by rw [List.length_map];omega)] at hts2 hus2
  refine wB ?_;exact Fin.ret _ rfl Ent.rfl ⟨rfl,p,ts',us',hts,hus,hts2,hus2,rfl⟩
 rcases h6 with h6|⟨gl,ol,rfl⟩
 ·omega
 have hol:ts'.length=i:=by have:=congrArg List.length hts2;rw [List.length_map,List.length_take,List.length_map] at this;omega
 have hol2:us'.length=i:=by have:=congrArg List.length hus2;rw [List.length_map,List.length_map,List.length_take,List.length_map] at this;omega
 have hr:Rd R ⟨gl,ol+i,none⟩ (ls[i]'hlt).1:=hv.elem (by rw [List.getElem?_map,List.getElem?_eq_getElem hlt];rfl);have hti:=ht _ (List.getElem_mem hlt);have hbi:=hb _ (List.getElem_mem hlt)
 have hnx:(ls.map (·.2)).take (i+1)=(ls.map (·.2)).take i++[(ls[i]'hlt).2]:=by
  rw [List.take_succ_eq_append_getElem (by rw [List.length_map];exact hlt),List.getElem_map]
 have hnot:¬ (ls[i]'hlt).2∈p.ts.map (·.2):=fun h=>by
  rw [hts,List.map_append,hts2] at h
  have hs:ls.map (·.2)=(ls.map (·.2)).take i++(ls[i]'hlt).2::(ls.map (·.2)).drop (i+1):=by
   conv=>lhs;rw [← List.take_append_drop i (ls.map (·.2))]
   rw [List.drop_eq_getElem_cons (by rw [List.length_map];exact hlt),List.getElem_map]
  rw [hs,← List.append_assoc] at hn
  exact (List.nodup_append.1 hn).2.2 _ h _ (List.mem_cons_self ..) rfl
 have hlen:(p.ts.map (·.2)).length=p.ts.length:=List.length_map ..;have hpl:p.ts.length=q.ts.length+i:=by rw [hts,List.length_append,hol]
 have hpl2:p.us.length=q.ts.length+i:=by rw [hus,List.length_append,hol2,hq]
 generalize ls[i]'hlt=y at *
 obtain ⟨yv,b⟩:=y;dsimp only at hr hti hbi hnx hnot
 refine wB ?_;refine A.begin (id:=4) [11] (lputM g vj vb vs vp gm [c1,c2,c3,c4,c5,c6] p (Items ts'::Items us'::R)) mixed ?_;have hb0:∀ A B C D E F,RdB (A::B::C::D::E::F::R) yv b:=fun A B C D E F=>hti.tail.tail.tail.tail.tail.tail
 (refine tM 0 ?_;refine tN 1 ?_;refine tF 2 ?_;refine tL 3 ?_;refine tM 4 ?_;refine tk 5 _ rfl (Val.bytes rfl zB) ?_)
 refine tk 6 _ rfl (Val.lookupK (key:=keyS) (k:=b) rfl rfl zP) ?_;rw [placeP_look,if_neg hnot]
 (refine tM 7 ?_;refine tk 8 _ rfl (Val.extract rfl rfl) ?_;refine tk 9 _ rfl (Val.extract rfl rfl) ?_;refine tA 10 ?_;(refine tO 11 ?_;refine dV (Val.assign rfl) ?_))
 refine A.done zK ?_;refine wB ?_;refine A.begin (id:=7) [11] (lputM g vj vb vs vp gm [c1,c2,c3,c4,c5,c6] p (Items ts'::Items us'::R)) mixed ?_
 (refine tM 0 ?_;refine tN 1 ?_;refine tF 2 ?_;refine tL 3 ?_;refine tM 4 ?_;refine tk 5 _ rfl (Val.bytes rfl zB) ?_;refine tM 6 ?_;refine tN 7 ?_;refine tF 8 ?_;refine tL 9 ?_;refine tk 10 _ rfl (Val.len rfl) ?_)
 refine tO 11 ?_;refine Do.mapUpdateK (key:=keyS) (k:=b) rfl rfl rfl zP ?_;refine ⟨zN,?_⟩;have hput:=placeP_put (l:=p.ts.map (·.2)) (k:=0) hnot;rw [Nat.zero_add,List.length_map] at hput
 rw [hput];refine A.done zK ?_;refine wB ?_;refine W.keep [(0,pt g),(6,yv),(9,.slice (some ⟨gl,ol,none⟩) ls.length cap),(10,.int .i64 (ls.length:Int)),(11,.int .i64 (i:Int))] zS ?_;refine A.begin (id:=8) [9,10,11] (Blk g (lputC vj vb vs vp gm [c1,c2,c3,c4,c5,c6] p) tLdg (0,0)::R) mixed ?_
 (refine tM 0 ?_;refine tM 1 ?_;refine tN 2 ?_;refine tF 3 ?_;refine tL 4 ?_;refine tM 5 ?_)
 refine tO 6 ?_;refine Do.call rfl rfl (clone_spec _ e yv b (hti.ent zE) zo) ?_;rintro _ _ ⟨ad1,k1,rfl,rfl⟩;refine ⟨fun _=>zE,?_⟩;refine tO 7 ?_;refine Do.buildSlice (n:=1) (z:=nY) (cs:=[.slice ad1 b.length k1]) rfl rfl rfl rfl zQ rfl (fun g1=>⟨fun _=>zE,?_⟩);refine tO 8 ?_;refine Do.append rfl rfl rfl zP (RdSl.blk .zero rfl zl) rfl rfl zO zm zo fun ad2 k2 _=>?_
 refine ⟨fun _=>zE,?_⟩
 ((refine tO 9 ?_;refine dV (Val.nilCheck rfl) ?_);(refine tO 10 ?_;refine dV (Val.fieldAddr rfl) ?_);(refine tO 11 ?_;refine zs1 ?_;refine ⟨zN,?_⟩))
 refine A.done zK ?_
 (repeat (refine wA ?_;intros))
 refine W.ent1 (L':=lputM g vj vb vs vp gm [c1,c2,c3,c4,c5,c6] ⟨p.ts++[(.slice ad1 b.length k1,b)],p.us,ad2,k2,p.al,p.cl⟩ (Items (ts'++[(.slice ad1 b.length k1,b)])::Items us'::R)) ?_ ?_
 ·simp only [lputM,lputC,OwnT,List.length_append,List.length_singleton,List.map_append,List.map_cons,List.map_nil];exact Ent.trans (show Ent _ (OwnB (.slice ad1 b.length k1) b::Items ts'::Blk g [vj,vb,vs,vp,.slice ad2 (p.ts.length+1) k2,.slice p.al p.us.length p.cl,.map (some gm),c1,c2,c3,c4,c5,c6] tLdg (0,0)::Own tTxts 1 (.slice ad2 (p.ts.length+1) k2) (p.ts.length+1) (p.ts.map (·.1)++[.slice ad1 b.length k1])::Own tTxts 1 (.slice p.al p.us.length p.cl) p.us.length (p.us.map (·.1))::MpK keyS gm (placeP (p.ts.map (·.2)++[b]) 0)::Items us'::R) from zE) (Ent.trans grow_items zE)
 refine W.keep [(0,pt g),(6,yv),(9,.slice (some ⟨gl,ol,none⟩) ls.length cap),(10,.int .i64 (ls.length:Int)),(11,.int .i64 (i:Int))] zS ?_;have hsn:(p.ts++[((.slice ad1 b.length k1:Value),b)]).length=p.ts.length+1:=by rw [List.length_append];rfl
 have hts':p.ts++[((.slice ad1 b.length k1:Value),b)]=q.ts++(ts'++[(.slice ad1 b.length k1,b)]):=by rw [hts,List.append_assoc]
 have hts2':(ts'++[((.slice ad1 b.length k1:Value),b)]).map (·.2)=(ls.map (·.2)).take (i+1):=by rw [hnx,List.map_append,hts2];rfl
 generalize p.ts++[((.slice ad1 b.length k1:Value),b)]=pt at *
 generalize ts'++[((.slice ad1 b.length k1:Value),b)]=ts2 at *
 refine A.begin (id:=9) [9,10,11] (Blk g (lputC vj vb vs vp gm [c1,c2,c3,c4,c5,c6] ⟨pt,p.us,ad2,k2,p.al,p.cl⟩) tLdg (0,0)::R) mixed ?_
 (refine tM 0 ?_;refine tM 1 ?_;refine tN 2 ?_;refine tF 3 ?_;refine tL 4 ?_;refine tM 5 ?_)
 refine tO 6 ?_;refine Do.call rfl rfl (leaf_spec _ e yv b (hti.ent zE) zo) ?_;rintro _ _ ⟨ad3,k3,rfl,rfl⟩;refine ⟨fun _=>zE,?_⟩;have hleaf:[leafP b]=[b].map leafP:=rfl
 generalize leafP b=lb at hleaf ⊢
 refine tO 7 ?_;refine Do.buildSlice (n:=1) (z:=nY) (cs:=[.slice ad3 lb.length k3]) rfl rfl rfl rfl zQ rfl (fun g1=>⟨fun _=>zE,?_⟩);refine tO 8 ?_;refine Do.append rfl rfl rfl zP (RdSl.blk .zero rfl zl) rfl rfl zO zm zd fun ad4 k4 _=>?_
 refine ⟨fun _=>zE,?_⟩
 ((refine tO 9 ?_;refine dV (Val.nilCheck rfl) ?_);(refine tO 10 ?_;refine dV (Val.fieldAddr rfl) ?_);(refine tO 11 ?_;refine zs1 ?_;refine ⟨zN,?_⟩))
 refine A.done zK ?_;refine wB ?_;refine Fin.round (i+1,⟨pt,p.us++[(.slice ad3 lb.length k3,lb)],ad2,k2,ad4,k4⟩,ts2,us'++[(.slice ad3 lb.length k3,lb)]) ⟨hlt,hts',by dsimp only;rw [hus,List.append_assoc],hts2',by dsimp only;rw [List.map_append,hus2,hnx,List.map_append,← hleaf];rfl⟩ zd zS ?_;simp only [lputM,lputC,OwnT,List.length_append,List.length_singleton,List.map_append,List.map_cons,List.map_nil];exact Ent.trans (show Ent _ (OwnB (.slice ad3 lb.length k3) lb::Items us'::Blk g [vj,vb,vs,vp,.slice ad2 pt.length k2,.slice ad4 (p.us.length+1) k4,.map (some gm),c1,c2,c3,c4,c5,c6] tLdg (0,0)::Own tTxts 1 (.slice ad2 pt.length k2) pt.length (pt.map (·.1))::Own tTxts 1 (.slice ad4 (p.us.length+1) k4) (p.us.length+1) (p.us.map (·.1)++[.slice ad3 lb.length k3])::MpK keyS gm (placeP (pt.map (·.2)) 0)::Items ts2::R) from zE) (Ent.trans grow_items zE)
abbrev OwnN (v:Value) (l:List Nat):Res:=Own 3 1 v l.length (l.map fun n:Nat=>Value.int .i64 (n:Int))
structure LSort (q:LPut) (ls fs:List Txt) (outs:List Nat) (i:Nat):Prop where
 fresh:fs.map (·.2)=freshP (q.ts.map (·.2)) [] ((ls.map (·.2)).take i)
 sub:∀ a∈fs,a∈ls
 len:outs.length=i
 outs:∀ j (h:j<outs.length),outs[j]=posP (q.ts.map (·.2)++fs.map (·.2)) ((ls.map (·.2)).getD j [])
theorem freshP_snoc {old:List Bts} {b:Bts}:∀ {l fresh:List Bts},freshP old fresh (l++[b])=if b∈old++freshP old fresh l then freshP old fresh l else freshP old fresh l++[b]
 | [],fresh=>by simp [freshP]
 | x::l,fresh=>by
  rw [List.cons_append];unfold freshP
  split
  ·exact freshP_snoc
  ·exact freshP_snoc
theorem LSort.step {q:LPut} {ls fs:List Txt} {outs:List Nat} {i:Nat} (h:LSort q ls fs outs i) (hi:i<ls.length) {a:Txt} (ha:ls[i]'hi=a) (hin:a.2∈q.ts.map (·.2)++fs.map (·.2)):LSort q ls fs (outs++[posP (q.ts.map (·.2)++fs.map (·.2)) a.2]) (i+1):=by
 obtain ⟨h1,h2,h3,h4⟩:=h
 have hn:(ls.map (·.2)).take (i+1)=(ls.map (·.2)).take i++[a.2]:=by
  rw [List.take_succ_eq_append_getElem (by rw [List.length_map];exact hi),List.getElem_map,ha]
 refine ⟨?_,h2,by rw [List.length_append,h3];rfl,fun j hj=>?_⟩
 ·rw [hn,freshP_snoc,← h1,if_pos hin]
 ·rw [List.length_append,List.length_singleton] at hj
  by_cases hji:j<outs.length
  ·rw [List.getElem_append_left hji,h4 j hji]
  ·have:j=i:=by omega
   subst this;rw [List.getElem_append_right zo];simp only [h3,Nat.sub_self,List.getElem_cons_zero];rw [getD_txt hi,ha]
theorem LSort.new {q:LPut} {ls fs:List Txt} {outs:List Nat} {i:Nat} (h:LSort q ls fs outs i) (hi:i<ls.length) {a:Txt} (ha:ls[i]'hi=a) (hin:¬ a.2∈q.ts.map (·.2)++fs.map (·.2)):LSort q ls (fs++[a]) (outs++[q.ts.length+fs.length]) (i+1):=by
 obtain ⟨h1,h2,h3,h4⟩:=h
 have hn:(ls.map (·.2)).take (i+1)=(ls.map (·.2)).take i++[a.2]:=by
  rw [List.take_succ_eq_append_getElem (by rw [List.length_map];exact hi),List.getElem_map,ha]
 have hfr:(fs++[a]).map (·.2)=freshP (q.ts.map (·.2)) [] ((ls.map (·.2)).take (i+1)):=by
  rw [hn,freshP_snoc,← h1,if_neg hin,List.map_append]
  rfl
 refine ⟨hfr,fun x hx=>?_,by rw [List.length_append,h3];rfl,fun j hj=>?_⟩
 ·rcases List.mem_append.1 hx with hx|hx
  ·exact h2 x hx
  ·rw [List.mem_singleton.1 hx,← ha];exact List.getElem_mem hi
 ·rw [List.length_append,List.length_singleton] at hj
  by_cases hji:j<outs.length
  ·rw [List.getElem_append_left hji,h4 j hji,List.map_append,← List.append_assoc,posP_append (l:=q.ts.map (·.2)++fs.map (·.2))];have hjl:j<((ls.map (·.2)).take i).length:=by rw [List.length_take,List.length_map];omega
   rw [h1];have hm:=freshP_mem (old:=q.ts.map (·.2)) (fresh:=[]) (List.getElem_mem hjl);rw [List.getElem_take] at hm
   rw [List.getD_eq_getElem?_getD,List.getElem?_eq_getElem (by rw [List.length_map];omega)];exact hm
  ·have:j=i:=by omega
   subst this;rw [List.getElem_append_right zo];simp only [h3,Nat.sub_self,List.getElem_cons_zero];rw [getD_txt hi,ha,List.map_append,← List.append_assoc,List.map_cons,posP_new hin,List.length_append,List.length_map,List.length_map]
theorem lsort_spec (R:List Res) (e:World) (g:Nat) (vj vb vs vp:Value) (gm:Nat) (c1 c2 c3 c4 c5 c6:Value) (q:LPut) (v:Value) (ls:List Txt) (hv:RdSl R 1 v ls.length (ls.map (·.1))) (ht:Txts R ls) (hl:ls.length≤1000) (hq:q.ts.length≤1000) :
 Ct prog 72 #[pt g,v] e (lputM g vj vb vs vp gm [c1,c2,c3,c4,c5,c6] q R) (fun v' L'=>∃ (ao af:Option Addr) (co cf:Nat) (fs:List Txt) (outs:List Nat),v'=.tuple #[.slice ao outs.length co,.slice af fs.length cf]∧LSort q ls fs outs ls.length∧L'=OwnN (.slice ao outs.length co) outs::OwnT (.slice af fs.length cf) fs::lputM g vj vb vs vp gm [c1,c2,c3,c4,c5,c6] q R):=by
 refine Ct.of_sep ((hv.ent (show Ent (lputM g vj vb vs vp gm [c1,c2,c3,c4,c5,c6] q R) R from zE)).shape zo) ?_;rintro ⟨⟨adv,cap,rfl,h3,h4,h5,h6⟩,_⟩;simp only [maxLen] at h4
 refine Ct.enter (args:=[_,_]) func72 rfl ntmps72 results72 rfl ?_;refine wB ?_;refine O.do (Do.makeMapK keyS rfl fun g2=>?_)
 refine wB ?_;refine W.loop (ι:=Nat × List Txt × List Nat × Option Addr × Nat × Option Addr × Nat) (fun i=>[(0,pt g),(6,.slice i.2.2.2.1 i.2.2.1.length i.2.2.2.2.1),(7,.slice i.2.2.2.2.2.1 i.2.1.length i.2.2.2.2.2.2),(8,.map (some g2)),(14,.slice adv ls.length cap),(15,.int .i64 (ls.length:Int)),(16,.int .i64 (i.1:Int))]) (fun i=>MpK keyS g2 (placeP (i.2.1.map (·.2)) q.ts.length)::OwnN (.slice i.2.2.2.1 i.2.2.1.length i.2.2.2.2.1) i.2.2.1::OwnT (.slice i.2.2.2.2.2.1 i.2.1.length i.2.2.2.2.2.2) i.2.1::lputM g vj vb vs vp gm [c1,c2,c3,c4,c5,c6] q R) (fun i=>i.1≤ls.length∧LSort q ls i.2.1 i.2.2.1 i.1) (fun i=>ls.length - i.1) (0,[],[],none,0,none,0) ⟨Nat.zero_le _,⟨by simp [freshP],fun a h=>by simp at h,rfl,fun j h=>by simp at h⟩⟩ zS (Ent.cons (Ent.trans (own_nil tTxts 1) (own_nil 3 1))) ?_;rintro ⟨i,fs,outs,ao,co,af,cf⟩ ⟨hi,hS⟩;dsimp only at hi hS ⊢
 have hol:=hS.len
 have hfl:fs.length≤i:=by
  have:=congrArg List.length hS.fresh;rw [List.length_map] at this
  have h2:=freshP_len (old:=q.ts.map (·.2)) (l:=(ls.map (·.2)).take i) (fresh:=[]);rw [List.length_take,List.length_map,List.length_nil] at h2
  omega
 by_cases hlt:i<ls.length
 rotate_left
 ·have:i=ls.length:=by omega
  subst this;refine wB ?_;exact Fin.ret _ rfl (Ent.drop Ent.rfl) ⟨ao,af,co,cf,fs,outs,rfl,hS,rfl⟩
 rcases h6 with h6|⟨gl,ol,rfl⟩
 ·omega
 have hr:Rd R ⟨gl,ol+i,none⟩ (ls[i]'hlt).1:=hv.elem (by rw [List.getElem?_map,List.getElem?_eq_getElem hlt];rfl);have hti:=ht _ (List.getElem_mem hlt);have hst:=fun h=>hS.step hlt (a:=ls[i]'hlt) rfl h
 have hnw:=fun h=>hS.new hlt (a:=ls[i]'hlt) rfl h
 generalize ls[i]'hlt=y at *
 obtain ⟨yv,b⟩:=y;dsimp only at hr hti hst hnw
 refine W.of_sep (RdB.one (hti.ent zE)) fun oy=>?_
 refine wB ?_;refine A.begin (id:=7) [11] (MpK keyS g2 (placeP (fs.map (·.2)) q.ts.length)::OwnN (.slice ao outs.length co) outs::OwnT (.slice af fs.length cf) fs::lputM g vj vb vs vp gm [c1,c2,c3,c4,c5,c6] q R) mixed ?_;have hb0:∀ A B C D E F G,RdB (A::B::C::D::E::F::G::R) yv b:=fun A B C D E F G=>hti.tail.tail.tail.tail.tail.tail.tail
 (refine tM 0 ?_;refine tN 1 ?_;refine tF 2 ?_;refine tL 3 ?_;refine tM 4 ?_;refine tk 5 _ rfl (Val.bytes rfl zB) ?_)
 refine tk 6 _ rfl (Val.lookupK (key:=keyS) (k:=b) rfl rfl (.succ (.succ (.succ (.succ (.succ (.succ .zero))))))) ?_
 (refine tM 7 ?_;refine tk 8 _ rfl (Val.extract rfl rfl) ?_;refine tk 9 _ rfl (Val.extract rfl rfl) ?_;refine tA 10 ?_;(refine tO 11 ?_;refine dV (Val.assign rfl) ?_))
 refine A.done zK ?_;rw [placeP_look];have hone:∀ n:Nat,∀ c∈[Value.int .i64 (n:Int)],c.oneCell'=true:=fun n c hc=>by rw [List.mem_singleton.1 hc];rfl
 by_cases hA:b∈q.ts.map (·.2)
 ·rw [if_pos hA];have hpos:posP (q.ts.map (·.2)++fs.map (·.2)) b=posP (q.ts.map (·.2)) b:=posP_append hA;have hn:=hst (List.mem_append_left _ hA);rw [hpos] at hn
  rw [Nat.zero_add];simp only [Option.getD_some,Option.isSome_some]
  generalize posP (q.ts.map (·.2)) b=z at *
  (repeat (refine wA ?_;intros))
  refine O.do (Do.append rfl rfl rfl zP (RdSl.blk .zero rfl zl) rfl rfl (hone z) zm zo fun ad1 k1 _=>?_)
  refine wB ?_;refine Fin.round (i+1,fs,outs++[z],ad1,k1,af,cf) ⟨hlt,hn⟩ zd ?_ ?_
  ·dsimp only;rw [List.length_append,List.length_singleton];exact zS
  ·simp only [OwnN,List.length_append,List.length_singleton,List.map_append,List.map_cons,List.map_nil];exact zE
 rw [if_neg hA];simp only [Option.getD_none,Option.isSome_none]
 by_cases hB:b∈fs.map (·.2)
 ·have hpos:posP (q.ts.map (·.2)++fs.map (·.2)) b=q.ts.length+posP (fs.map (·.2)) b:=by
   unfold posP;rw [List.idxOf_append,if_neg hA,List.length_map]
   omega
  have hn:=hst (List.mem_append_right _ hB);rw [hpos] at hn
  refine wB ?_;refine O.val _ (Val.lookupK (key:=keyS) (k:=b) rfl rfl .zero) rfl ?_;rw [placeP_look,if_pos hB];simp only [Option.getD_some,Option.isSome_some]
  generalize q.ts.length+posP (fs.map (·.2)) b=z at *
  (repeat (refine wA ?_;intros))
  refine O.do (Do.append rfl rfl rfl zP (RdSl.blk .zero rfl zl) rfl rfl (hone z) zm zo fun ad1 k1 _=>?_)
  refine wB ?_;refine Fin.round (i+1,fs,outs++[z],ad1,k1,af,cf) ⟨hlt,hn⟩ zd ?_ ?_
  ·dsimp only;rw [List.length_append,List.length_singleton];exact zS
  ·simp only [OwnN,List.length_append,List.length_singleton,List.map_append,List.map_cons,List.map_nil];exact zE
 have hn:=hnw (fun h=>(List.mem_append.1 h).elim hA hB);refine wB ?_;refine O.val _ (Val.lookupK (key:=keyS) (k:=b) rfl rfl .zero) rfl ?_;rw [placeP_look,if_neg hB];simp only [Option.getD_none,Option.isSome_none];refine wB ?_;refine O.do (Do.mapUpdateK (key:=keyS) (k:=b) rfl rfl rfl .zero ?_)
 have hput:=placeP_put (l:=fs.map (·.2)) (k:=q.ts.length) hB;rw [List.length_map] at hput
 have hcast:((q.ts.length+fs.length:Nat):Int)=(q.ts.length:Int)+fs.length:=by omega
 rw [hcast] at hput
 rw [hput]
 (repeat (refine wA ?_;intros))
 refine O.do (Do.append rfl rfl rfl zP (RdSl.blk .zero rfl zl) rfl rfl (fun c hc=>by rw [List.mem_singleton.1 hc];exact oy) zm zo fun ad1 k1 _=>?_)
 rw [← hcast]
 generalize hz:q.ts.length+fs.length=z at *
 (repeat (refine wA ?_;intros))
 refine O.do (Do.append rfl rfl rfl zP (RdSl.blk .zero rfl zl) rfl rfl (hone z) zm zo fun ad2 k2 _=>?_)
 refine wB ?_;refine Fin.round (i+1,fs++[(yv,b)],outs++[z],ad2,k2,ad1,k1) ⟨hlt,hn⟩ zd ?_ ?_
 ·dsimp only;rw [List.length_append,List.length_singleton,List.length_append,List.length_singleton];exact zS
 ·simp only [OwnN,OwnT,List.length_append,List.length_singleton,List.map_append,List.map_cons,List.map_nil];exact zE
end Go.Proofs
namespace Go.Bs
def subP (m:Nat) (l:List (List UInt8)) (w:Bool):List (List UInt8) :=
 if m=l.length then (if w=true then [] else [rootP l])
 else if h:2≤l.length then
  if m≤splitP l.length then subP m (l.take (splitP l.length)) w++[rootP (l.drop (splitP l.length))]
  else subP (m - splitP l.length) (l.drop (splitP l.length)) false++[rootP (l.take (splitP l.length))]
 else []
 termination_by l.length
 decreasing_by
 ·have:=splitP_spec h;rw [List.length_take];omega
 ·have:=splitP_spec h;rw [List.length_drop];omega
def glenP (m n:Nat) (w:Bool):Nat :=
 if m=n then (if w=true then 0 else 1)
 else if h:2≤n then
  if m≤splitP n then glenP m (splitP n) w+1 else glenP (m - splitP n) (n - splitP n) false+1
 else 0
 termination_by n
 decreasing_by
 ·have:=splitP_spec h;omega
 ·have:=splitP_spec h;omega
def gleadP (m n:Nat) (w:Bool) (p:List (List UInt8)) (old:List UInt8):List UInt8 × List UInt8 :=
 if m=n then (if w=true then (old,old) else (lastP p,lastP p))
 else if h:2≤n then
  if m≤splitP n then ((gleadP m (splitP n) w p.dropLast old).1,nodeP (gleadP m (splitP n) w p.dropLast old).2 (lastP p))
  else (nodeP (lastP p) (gleadP (m - splitP n) (n - splitP n) false p.dropLast old).1,nodeP (lastP p) (gleadP (m - splitP n) (n - splitP n) false p.dropLast old).2)
 else (old,old)
 termination_by n
 decreasing_by
 all_goals (have:=splitP_spec h;omega)
section
variable {m n:Nat} {w:Bool} {l p:List (List UInt8)} {old:List UInt8}
theorem subP_all:subP l.length l true=[]:=by rw [subP,if_pos rfl,if_pos rfl]
theorem subP_root:subP l.length l false=[rootP l]:=by rw [subP,if_pos rfl];rfl
theorem subP_lo (h1:m≠l.length) (h:2≤l.length) (hm:m≤splitP l.length):subP m l w=subP m (l.take (splitP l.length)) w++[rootP (l.drop (splitP l.length))]:=by rw [subP,if_neg h1,dif_pos h,if_pos hm]
theorem subP_hi (h1:m≠l.length) (h:2≤l.length) (hm:¬ m≤splitP l.length):subP m l w=subP (m - splitP l.length) (l.drop (splitP l.length)) false++[rootP (l.take (splitP l.length))]:=by rw [subP,if_neg h1,dif_pos h,if_neg hm]
theorem glenP_all:glenP n n true=0:=by rw [glenP,if_pos rfl,if_pos rfl]
theorem glenP_root:glenP n n false=1:=by rw [glenP,if_pos rfl];rfl
theorem glenP_lo (h1:m≠n) (h:2≤n) (hm:m≤splitP n):glenP m n w=glenP m (splitP n) w+1:=by rw [glenP,if_neg h1,dif_pos h,if_pos hm]
theorem glenP_hi (h1:m≠n) (h:2≤n) (hm:¬ m≤splitP n):glenP m n w=glenP (m - splitP n) (n - splitP n) false+1:=by rw [glenP,if_neg h1,dif_pos h,if_neg hm]
theorem gleadP_all:gleadP n n true p old=(old,old):=by rw [gleadP,if_pos rfl,if_pos rfl]
theorem gleadP_root:gleadP n n false p old=(lastP p,lastP p):=by rw [gleadP,if_pos rfl];rfl
theorem gleadP_lo (h1:m≠n) (h:2≤n) (hm:m≤splitP n):gleadP m n w p old=((gleadP m (splitP n) w p.dropLast old).1,nodeP (gleadP m (splitP n) w p.dropLast old).2 (lastP p)):=by rw [gleadP,if_neg h1,dif_pos h,if_pos hm]
theorem gleadP_hi (h1:m≠n) (h:2≤n) (hm:¬ m≤splitP n):gleadP m n w p old=(nodeP (lastP p) (gleadP (m - splitP n) (n - splitP n) false p.dropLast old).1,nodeP (lastP p) (gleadP (m - splitP n) (n - splitP n) false p.dropLast old).2):=by rw [gleadP,if_neg h1,dif_pos h,if_neg hm]
end
theorem subP_length:∀ (n m:Nat) (l:List (List UInt8)) (w:Bool),l.length=n→1≤m→m≤n→(subP m l w).length=glenP m l.length w:=by
 intro n
 induction n using Nat.strongRecOn with
 | ind n ih =>
  intro m l w hn h1 h2
  by_cases he:m=l.length
  ·subst he
   cases w
   ·rw [subP_root,glenP_root];rfl
   ·rw [subP_all,glenP_all];rfl
  ·have h:2≤l.length:=by omega
   have hs:=splitP_spec h
   by_cases hm:m≤splitP l.length
   ·have e1:(l.take (splitP l.length)).length=splitP l.length:=by rw [List.length_take];omega
    rw [subP_lo he h hm,glenP_lo he h hm,List.length_append,List.length_singleton,ih _ (by omega) m _ w e1 h1 hm,e1]
   ·have e1:(l.drop (splitP l.length)).length=l.length - splitP l.length:=List.length_drop;rw [subP_hi he h hm,glenP_hi he h hm,List.length_append,List.length_singleton,ih _ (by omega) _ _ false e1 (by omega) (by omega),e1]
theorem glenP_le:∀ (t n m:Nat) (w:Bool),n≤2 ^ t→glenP m n w≤t+1
 | 0,n,m,w,h=>by
  rw [Nat.pow_zero] at h
  rw [glenP]
  split
  ·split<;>omega
  ·rw [dif_neg (by omega)];omega
 | t+1,n,m,w,h=>by
  by_cases he:m=n
  ·subst he
   cases w
   ·rw [glenP_root];omega
   ·rw [glenP_all];omega
  by_cases h2:2≤n
  ·have hs:=splitP_spec h2;have hh:=splitP_half h h2
   by_cases hm:m≤splitP n
   ·rw [glenP_lo he h2 hm];have:=glenP_le t (splitP n) m w hh;omega
   ·rw [glenP_hi he h2 hm];have:=glenP_le t (n - splitP n) (m - splitP n) false (by omega);omega
  ·rw [glenP,if_neg he,dif_neg h2];omega
theorem splitP_sub {m n:Nat} (h:2≤n) (h1:splitP n<m) (h2:m≤n):splitP m=splitP n:=by
 have hs:=splitP_spec h;obtain ⟨j,hj⟩:∃ j,splitP n=2 ^ j:=⟨(n - 1).log2,by unfold splitP;rw [if_neg (by omega)]⟩
 rw [hj] at hs h1 ⊢
 have h0:=Nat.two_pow_pos j;unfold splitP;rw [if_neg (by omega)]
 congr 1
 rw [Nat.log2_eq_iff (by omega)];have:2 ^ (j+1)=2*2 ^ j:=by rw [Nat.pow_succ,Nat.mul_comm]
 omega
theorem gleadP_sub:∀ (n m:Nat) (l:List (List UInt8)) (w:Bool) (old:List UInt8),l.length=n→1≤m→m≤n→(w=true→old=rootP (l.take m))→gleadP m l.length w (subP m l w) old=(rootP (l.take m),rootP l):=by
 intro n
 induction n using Nat.strongRecOn with
 | ind n ih =>
  intro m l w old hn h1 h2 ho
  by_cases he:m=l.length
  ·subst he;have e1:l.take l.length=l:=List.take_length;rw [e1] at ho ⊢
   cases w
   ·rw [subP_root,gleadP_root];rfl
   ·rw [gleadP_all,ho rfl]
  ·have h:2≤l.length:=by omega
   have hs:=splitP_spec h;have hrt:=rootP_more h
   by_cases hm:m≤splitP l.length
   ·have e1:(l.take (splitP l.length)).length=splitP l.length:=by rw [List.length_take];omega
    have e2:(l.take (splitP l.length)).take m=l.take m:=by rw [List.take_take,Nat.min_eq_left hm]
    have e3:=ih _ (by omega) m (l.take (splitP l.length)) w old e1 h1 hm (by rw [e2];exact ho);rw [e1,e2] at e3
    rw [subP_lo he h hm,gleadP_lo he h hm,List.dropLast_concat,lastP_snoc,e3,hrt]
   ·have e1:(l.drop (splitP l.length)).length=l.length - splitP l.length:=List.length_drop;have e3:=ih _ (by omega) (m - splitP l.length) (l.drop (splitP l.length)) false old e1 (by omega) (by omega) (fun h=>by cases h);rw [e1] at e3
    have e4:(l.take m).length=m:=by rw [List.length_take];omega
    have e5:=rootP_more (l:=l.take m) (by omega);rw [e4,splitP_sub h (by omega) (by omega),List.take_take,Nat.min_eq_left (by omega),List.drop_take] at e5
    rw [subP_hi he h hm,gleadP_hi he h hm,List.dropLast_concat,lastP_snoc,e3,hrt,e5]
theorem subP_hash:∀ (n m:Nat) (l:List (List UInt8)) (w:Bool),l.length=n→(∀ a∈l,a.length=32)→∀ a∈subP m l w,a.length=32:=by
 intro n
 induction n using Nat.strongRecOn with
 | ind n ih =>
  intro m l w hn hh a ha
  by_cases he:m=l.length
  ·subst he
   cases w
   ·rw [subP_root] at ha;rw [List.mem_singleton.1 ha];exact hashes_root hh
   ·rw [subP_all] at ha;cases ha
  by_cases h:2≤l.length
  ·have hs:=splitP_spec h
   by_cases hm:m≤splitP l.length
   ·rw [subP_lo he h hm] at ha
    rcases List.mem_append.1 ha with q|q
    ·exact ih _ (by rw [List.length_take];omega) _ _ w rfl (fun b hb=>hh b (List.mem_of_mem_take hb)) a q
    ·rw [List.mem_singleton.1 q];exact hashes_root fun b hb=>hh b (List.mem_of_mem_drop hb)
   ·rw [subP_hi he h hm] at ha
    rcases List.mem_append.1 ha with q|q
    ·exact ih _ (by rw [List.length_drop];omega) _ _ false rfl (fun b hb=>hh b (List.mem_of_mem_drop hb)) a q
    ·rw [List.mem_singleton.1 q];exact hashes_root fun b hb=>hh b (List.mem_of_mem_take hb)
  ·rw [subP,if_neg he,dif_neg h] at ha;cases ha
end Go.Bs
namespace Go.Bs
end Go.Bs
namespace Go.Proofs
open Go.Bs
attribute [local irreducible] Bs.Val Bs.Do Bs.O Bs.W Bs.Fin Bs.A Bs.Ct Bs.RdSl Bs.Rd Bs.Sat Bs.Blk Bs.Ob Bs.Own Bs.View Bs.Ent Bs.Ex Bs.All Bs.Pu Bs.Base Bs.sepL Bs.RdA
theorem sub_spec:∀ (n:Nat) (R:List Res) (e:World) (v:Value) (ts:List Txt) (m:Nat) (w:Bool),ts.length=n→RdSl R 1 v ts.length (ts.map (·.1))→Txts R ts→(∀ a∈ts,a.2.length≤1000000)→ts.length≤1000000→1≤m→m≤ts.length →
 Ct Tryz.prog 216 #[.int .i64 (m:Int),v,.bool w] e R (fun v' L'=>∃ ad c out,v'=.slice ad out.length c∧out.map (·.2)=subP m (ts.map (·.2)) w∧L'=OwnT (.slice ad out.length c) out::Items out::R):=by
 intro n
 induction n using Nat.strongRecOn with
 | _ n ih =>
 intro R e v ts m w hn hv ht hb hl hm1 hm2;refine Ct.of_sep (hv.shape zo) ?_;rintro ⟨⟨ad,cap,rfl,h3,h4,h5,h6⟩,_⟩;simp only [maxLen] at h4
 refine Ct.enter (args:=[_,_,_]) Tryz.func216 rfl Tryz.ntmps216 Tryz.results216 rfl ?_
 by_cases he:m=ts.length
 ·subst he
  cases w
  ·refine wB ?_;refine O.call rfl rfl (root_spec ts.length _ e _ ts rfl hv ht hb hl) ?_;rintro _ _ ⟨ad2,c2,rfl,rfl⟩
   generalize hrt:rootP (ts.map (·.2))=rt at *
   (repeat (refine wA ?_;intros))
   rename_i g;refine Fin.ret (OwnT (.slice (some ⟨g,0,none⟩) [((Value.slice ad2 rt.length c2,rt):Txt)].length 1) [((Value.slice ad2 rt.length c2,rt):Txt)]::Items [((Value.slice ad2 rt.length c2,rt):Txt)]::R) rfl ?_ ⟨some ⟨g,0,none⟩,1,[((Value.slice ad2 rt.length c2,rt):Txt)],rfl,?_,rfl⟩
   ·refine Ent.trans (own_in (n:=1) (k:=1) (cap:=1) zo zl rfl) (Ent.cons (items_own (a:=(Value.slice ad2 rt.length c2,rt))))
   ·have:=subP_root (l:=ts.map (·.2));rw [List.length_map,hrt] at this
    rw [this];rfl
  ·refine wB ?_;exact Fin.ret (OwnT nY []::Items []::R) rfl (Ent.trans items_nil (own_nil _ _)) ⟨none,0,[],rfl,by have:=subP_all (l:=ts.map (·.2));rw [List.length_map] at this;rw [this];rfl,rfl⟩
 have h2:2≤ts.length:=by omega
 refine wB ?_;refine O.call rfl rfl (split_spec R e ts.length zo) ?_;rintro _ _ ⟨rfl,rfl⟩;rw [splitI_nat];have hs:=splitP_spec h2;have hlo:=fun h=>subP_lo (l:=ts.map (·.2)) (m:=m) (w:=w) (by rw [List.length_map];exact he) (by rw [List.length_map];exact h2) h
 have hhi:=fun h=>subP_hi (l:=ts.map (·.2)) (m:=m) (w:=w) (by rw [List.length_map];exact he) (by rw [List.length_map];exact h2) h
 rw [List.length_map,← List.map_take,← List.map_drop] at hlo hhi
 have hq1:=take_mapT hv (k:=splitP ts.length) zo;have hq2:=drop_mapT hv (k:=splitP ts.length) zo
 generalize splitP ts.length=k at *
 have hlk:(ts.take k).length=k:=by rw [List.length_take];omega
 have hlk2:(ts.drop k).length=ts.length - k:=List.length_drop
 by_cases hik:m≤k
 ·refine wB ?_;refine A.start (id:=7) [12] Tryz.mixed ?_
  (refine tM 0 ?_;refine tM 1 ?_;refine tM 2 ?_;refine tk 3 _ rfl (Val.sliceHi rfl rfl zo zo) ?_;refine tM 4 ?_;refine tM 6 ?_;refine tM 7 ?_;refine tk 8 _ rfl (Val.sliceLo rfl rfl zo zo) ?_)
  refine tO 5 ?_;refine Do.call rfl rfl (ih k zo R e _ (ts.take k) m w hlk hq1 (txts_sub ht fun x hx=>List.mem_of_mem_take hx) (fun a ha=>hb a (List.mem_of_mem_take ha)) zo hm1 zo) ?_;rintro _ _ ⟨ad1,c1,out,rfl,ho,rfl⟩
  have hol:out.length≤1000000:=by
   have h7:=congrArg List.length ho;rw [List.length_map,subP_length k m ((ts.take k).map (·.2)) w (by rw [List.length_map];exact hlk) hm1 hik] at h7
   have:=glenP_le 20 ((ts.take k).map (·.2)).length m w (by rw [List.length_map];omega)
   omega
  refine ⟨fun _=>zE,?_⟩;refine tO 9 ?_;refine Do.call rfl rfl (root_spec (ts.length - k) _ e _ (ts.drop k) hlk2 hq2.tail.tail (Txts.tail (Txts.tail (txts_sub ht fun x hx=>List.mem_of_mem_drop hx))) (fun a ha=>hb a (List.mem_of_mem_drop ha)) zo) ?_;rintro _ _ ⟨ad2,c2,rfl,rfl⟩;refine ⟨fun _=>zE,?_⟩
  generalize hrt:rootP ((ts.drop k).map (·.2))=rt at *
  refine tO 10 ?_;refine Do.buildSlice (n:=1) rfl rfl rfl rfl zQ rfl (fun g2=>⟨fun _=>zE,?_⟩);refine tO 11 ?_;refine Do.append rfl rfl rfl (.succ (.succ .zero)) (RdSl.blkN (n:=1) (c:=1) .zero rfl zl) rfl rfl zO zm zo fun ad3 c3 _=>⟨fun _=>zE,?_⟩
  ((refine tO 12 ?_;refine dV (Val.assign rfl) ?_))
  refine A.done zK ?_;refine wB ?_;refine Fin.ret (OwnT (.slice ad3 (out++[((Value.slice ad2 rt.length c2,rt):Txt)]).length c3) (out++[((Value.slice ad2 rt.length c2,rt):Txt)])::Items (out++[((Value.slice ad2 rt.length c2,rt):Txt)])::R) rfl (Ent.trans zE grow_txts) ⟨ad3,c3,out++[((Value.slice ad2 rt.length c2,rt):Txt)],by rw [List.length_append,List.length_singleton];rfl,by rw [List.map_append,ho,hlo hik];rfl,rfl⟩
 ·refine wB ?_;refine A.start (id:=8) [13] Tryz.mixed ?_
  (refine tM 0 ?_;refine tM 1 ?_;refine tk 2 _ rfl (Val.sub64 rfl rfl zo) ?_;refine tM 3 ?_;refine tM 4 ?_;refine tk 5 _ rfl (Val.sliceLo rfl rfl zo zo) ?_;refine tM 7 ?_;refine tM 8 ?_;refine tk 9 _ rfl (Val.sliceHi rfl rfl zo zo) ?_)
  rw [show ((m:Nat):Int) - ((k:Nat):Int)=((m - k:Nat):Int) by omega];refine tO 6 ?_;refine Do.call rfl rfl (ih (ts.length - k) zo R e _ (ts.drop k) (m - k) false hlk2 hq2 (txts_sub ht fun x hx=>List.mem_of_mem_drop hx) (fun a ha=>hb a (List.mem_of_mem_drop ha)) zo zo zo) ?_;rintro _ _ ⟨ad1,c1,out,rfl,ho,rfl⟩
  have hol:out.length≤1000000:=by
   have h7:=congrArg List.length ho;rw [List.length_map,subP_length (ts.length - k) (m - k) ((ts.drop k).map (·.2)) false (by rw [List.length_map];exact hlk2) zo zo] at h7
   have:=glenP_le 20 ((ts.drop k).map (·.2)).length (m - k) false (by rw [List.length_map];omega)
   omega
  refine ⟨fun _=>zE,?_⟩;refine tO 10 ?_;refine Do.call rfl rfl (root_spec k _ e _ (ts.take k) hlk hq1.tail.tail (Txts.tail (Txts.tail (txts_sub ht fun x hx=>List.mem_of_mem_take hx))) (fun a ha=>hb a (List.mem_of_mem_take ha)) zo) ?_;rintro _ _ ⟨ad2,c2,rfl,rfl⟩;refine ⟨fun _=>zE,?_⟩
  generalize hrt:rootP ((ts.take k).map (·.2))=rt at *
  refine tO 11 ?_;refine Do.buildSlice (n:=1) rfl rfl rfl rfl zQ rfl (fun g2=>⟨fun _=>zE,?_⟩);refine tO 12 ?_;refine Do.append rfl rfl rfl (.succ (.succ .zero)) (RdSl.blkN (n:=1) (c:=1) .zero rfl zl) rfl rfl zO zm zo fun ad3 c3 _=>⟨fun _=>zE,?_⟩
  ((refine tO 13 ?_;refine dV (Val.assign rfl) ?_))
  refine A.done zK ?_;refine wB ?_;refine Fin.ret (OwnT (.slice ad3 (out++[((Value.slice ad2 rt.length c2,rt):Txt)]).length c3) (out++[((Value.slice ad2 rt.length c2,rt):Txt)])::Items (out++[((Value.slice ad2 rt.length c2,rt):Txt)])::R) rfl (Ent.trans zE grow_txts) ⟨ad3,c3,out++[((Value.slice ad2 rt.length c2,rt):Txt)],by rw [List.length_append,List.length_singleton];rfl,by rw [List.map_append,ho,hhi hik];rfl,rfl⟩
def growP (l:List (List UInt8)) (m:Nat):List (List UInt8):=if 0<m∧m<l.length then subP m l true else []
theorem grow_spec (R:List Res) (e:World) (v:Value) (ts:List Txt) (n:Int) (hn:-9223372036854775808≤n∧n≤9223372036854775807) (hv:RdSl R 1 v ts.length (ts.map (·.1))) (ht:Txts R ts) (hb:∀ a∈ts,a.2.length≤1000000) (hl:ts.length≤1000000) :
 Ct Tryz.prog 135 #[v,.int .i64 n] e R (fun v' L' =>
  (¬ (0≤n∧n≤ts.length)∧v'=.tuple #[.agg #[.int .i64 0,.int .i64 0,nY],.int .i64 1]∧R=L') ∨
  (0≤n∧n≤ts.length∧∃ ad c out,v'=.tuple #[.agg #[.int .i64 n,.int .i64 (ts.length:Int),.slice ad out.length c],.int .i64 0]∧out.map (·.2)=growP (ts.map (·.2)) n.toNat∧L'=OwnT (.slice ad out.length c) out::Items out::R)):=by
 refine Ct.of_sep (hv.shape zo) ?_;rintro ⟨⟨ad,cap,rfl,h3,h4,h5,h6⟩,_⟩;refine Ct.enterC (args:=[_,_]) Tryz.func135 rfl Tryz.ntmps135 Tryz.results135 rfl ?_
 by_cases hok:0≤n∧n≤ts.length
 rotate_left
 ·by_cases h0:n<0
  ·(repeat (refine wA ?_;intros))
   apply Fin.retC;exact zV;exact ⟨R,zE,.inl ⟨hok,rfl,rfl⟩⟩
  ·(repeat (refine wA ?_;intros))
   apply Fin.retC;exact zV;exact ⟨R,zE,.inl ⟨hok,rfl,rfl⟩⟩
 obtain ⟨h0,hlt⟩:=hok;obtain ⟨m,rfl⟩:=Int.eq_ofNat_of_zero_le h0;rw [Int.toNat_natCast]
 by_cases hin:0<m∧m<ts.length
 ·obtain ⟨hm0,hm1⟩:=hin
  (repeat (refine wA ?_;intros))
  refine O.call rfl rfl (sub_spec ts.length _ e _ ts m true rfl hv.tail.tail ht.tail.tail hb hl hm0 zo) ?_;rintro _ _ ⟨ad1,c1,out,rfl,ho,rfl⟩;refine wB ?_;apply Fin.retC;exact zV;exact ⟨OwnT (.slice ad1 out.length c1) out::Items out::R,zE,.inr ⟨h0,hlt,ad1,c1,out,rfl,by rw [ho,growP,if_pos ⟨hm0,by rw [List.length_map];exact hm1⟩],rfl⟩⟩
 ·have hg:growP (ts.map (·.2)) m=[]:=by rw [growP,List.length_map,if_neg hin]
  by_cases hm0:0<m
  ·(repeat (refine wA ?_;intros))
   apply Fin.retC;exact zV;exact ⟨OwnT nY []::Items []::R,Ent.trans (show Ent _ R from zE) (Ent.trans items_nil (own_nil _ _)),.inr ⟨h0,hlt,none,0,[],rfl,by rw [hg];rfl,rfl⟩⟩
  ·(repeat (refine wA ?_;intros))
   apply Fin.retC;exact zV;exact ⟨OwnT nY []::Items []::R,Ent.trans (show Ent _ R from zE) (Ent.trans items_nil (own_nil _ _)),.inr ⟨h0,hlt,none,0,[],rfl,by rw [hg];rfl,rfl⟩⟩
end Go.Proofs
namespace Go.Proofs
attribute [local irreducible] Bs.Val Bs.Do Bs.O Bs.W Bs.Fin Bs.A Bs.Ct Bs.RdSl Bs.Rd Bs.Sat Bs.Blk Bs.Ob Bs.Own Bs.View Bs.Ent Bs.Ex Bs.All Bs.Pu Bs.Base Bs.sepL Bs.RdA
open Go.Bs
open Tryz
variable (R:List Res) (e:World)
structure LMem where
 gj:Nat
 gb:Nat
 gk:Nat
 gm:Nat
 vs:Value
 vp:Value
 q:LPut
 ur:Value
 up:Value
 uq:Value
structure LMem.ok (a:LMem) (M:Res) (seed:Bts) (s:LSt):Prop where
 rseed:RdB [M] a.vs seed
 items:a.q.ts.map (·.2)=s.items
 txts:Txts [M] a.q.ts
 leaves:a.q.us.map (·.2)=s.items.map leafP
 txtl:Txts [M] a.q.us
 last:RdSgd [M] a.ur a.up a.uq s.lastV
 st:s.ok
 sd:seed.length=32
abbrev LMem.cells (a:LMem) (s:LSt):List Value:=lputC (pt a.gj) (pt a.gb) a.vs a.vp a.gm [.int .i64 (s.lastV.chk.size:Int),a.ur,.int .i64 (s.lastV.sig.idx:Int),a.up,a.uq,.bool s.last.isSome] a.q
abbrev ledM (g d k:Nat) (s:LSt) (a:LMem) (M:Res) (R:List Res):List Res :=
 Blk g (a.cells s) tLdg (0,0)::OwnT (.slice a.q.ai a.q.ts.length a.q.ci) a.q.ts::OwnT (.slice a.q.al a.q.us.length a.q.cl) a.q.us::MpK keyS a.gm (placeP (a.q.ts.map (·.2)) 0)::M::Jrn a.gj d s.recs.length::Disk d (disk0 s.jb)::KBox a.gb a.gk s.keys::Jrn a.gk k s.keys::Disk k (kDisk s.keys 1048576)::R
def LedgerAt (g d k:Nat) (seed:Bts) (s:LSt) (a:LMem) (M:Res):Res:=All (Pu (a.ok M seed s)::ledM g d k s a M [])
def LedgerR (g d k:Nat) (seed:Bts) (s:LSt):Res:=Ex fun a=>Ex fun M=>LedgerAt g d k seed s a M
theorem led_out {g d k:Nat} {seed:Bts} {s:LSt} {R:List Res} {P:Program} {f:FuncId} {args:Array Value} {e:World} {Post:Value→List Res→Prop}
 (h:∀ (a:LMem) (M:Res),a.ok M seed s→Ct P f args e (ledM g d k s a M R) Post):Ct P f args e (LedgerR g d k seed s::R) Post :=
 Ct.ex .zero fun a=>Ct.ex .zero fun M=>Ct.ent (Ct.of_sep (p:=a.ok M seed s) (fun w x=>(pu_out x).1) fun hp=>(h a M hp).ent (Ent.drop Ent.rfl)) (all_out (M:=Pu (a.ok M seed s)::ledM g d k s a M []) (L:=R))
theorem led_in {g d k:Nat} {seed:Bts} {s:LSt} {a:LMem} {M:Res} {R:List Res} (h:a.ok M seed s):Ent (ledM g d k s a M R) (LedgerR g d k seed s::R) :=
 Ent.trans (pu_in h) (Ent.trans (all_in (M:=Pu (a.ok M seed s)::ledM g d k s a M []) (L:=R)) (Ent.trans (ex_in (f:=fun M=>LedgerAt g d k seed s a M) M) (ex_in (f:=fun a=>Ex fun M=>LedgerAt g d k seed s a M) a)))
theorem one_in {A:Res} {L R:List Res} (p:Pull L A R):Ent L [A]:=Ent.trans p.out (Ent.cons Ent.nil)
theorem LMem.ok.len {a:LMem} {M:Res} {seed:Bts} {s:LSt} (h:a.ok M seed s):a.q.ts.length=s.items.length∧a.q.us.length=s.items.length:=by
 have h1:=congrArg List.length h.items;have h2:=congrArg List.length h.leaves;rw [List.length_map] at h1
 rw [List.length_map,List.length_map] at h2
 exact ⟨h1,h2⟩
theorem lSize_spec (g d k:Nat) (seed:Bts) (s:LSt) :
 Ct prog 17 #[pt g] e (LedgerR g d k seed s::R) (fun v' L'=>v'=.int .i64 (s.items.length:Int)∧L'=LedgerR g d k seed s::R):=by
 refine led_out fun a M ha=>?_
 obtain ⟨l1,l2⟩:=ha.len;refine Ct.enter (args:=[_]) func17 rfl ntmps17 results17 rfl ?_;refine wB ?_;refine Fin.ret _ rfl (led_in ha) ⟨by rw [l1];rfl,rfl⟩
theorem leaf_sizes {s:LSt} {us:List Txt} (h:us.map (·.2)=s.items.map leafP):∀ a∈us,a.2.length=32:=fun a ha=>by
 have:a.2∈s.items.map leafP:=by rw [← h];exact List.mem_map.2 ⟨a,ha,rfl⟩
 obtain ⟨b,_,hb⟩:=List.mem_map.1 this;rw [← hb];exact tagP_length _ _
theorem lRootM_spec (g d k:Nat) (seed:Bts) (s:LSt) (a:LMem) (M:Res) (ha:a.ok M seed s) :
 Ct prog 18 #[pt g] e (ledM g d k s a M R) (fun v' L'=>∃ ad c,v'=.slice ad (rootP (s.items.map leafP)).length c∧L'=OwnB (.slice ad (rootP (s.items.map leafP)).length c) (rootP (s.items.map leafP))::ledM g d k s a M R):=by
 obtain ⟨l1,l2⟩:=ha.len;have hsz:=ha.st.size;refine Ct.enter (args:=[_]) func18 rfl ntmps18 results18 rfl ?_;refine wB ?_;refine O.call rfl rfl (root_spec _ _ e _ a.q.us rfl (RdSl.own zP) (fun x hx=>(ha.txtl x hx).ent (one_in zP)) (fun x hx=>by have:=leaf_sizes ha.leaves x hx;omega) zo) ?_;rintro _ _ ⟨ad,c,rfl,rfl⟩;rw [ha.leaves]
 generalize rootP (s.items.map leafP)=x
 refine wB ?_;exact Fin.ret (OwnB (.slice ad x.length c) x::ledM g d k s a M R) rfl Ent.rfl ⟨ad,c,rfl,rfl⟩
theorem lRoot_spec (g d k:Nat) (seed:Bts) (s:LSt) :
 Ct prog 18 #[pt g] e (LedgerR g d k seed s::R) (fun v' L'=>∃ ad c,v'=.slice ad (rootP (s.items.map leafP)).length c∧L'=OwnB (.slice ad (rootP (s.items.map leafP)).length c) (rootP (s.items.map leafP))::LedgerR g d k seed s::R) :=
 led_out fun a M ha=>(lRootM_spec R e g d k seed s a M ha).weak fun v L' ⟨ad,c,h1,h2⟩=>⟨_,by rw [h2];exact Ent.cons (led_in ha),ad,c,h1,rfl⟩
theorem lFind_spec (g d k:Nat) (seed:Bts) (s:LSt) (v:Value) (b:Bts) (hv:RdB R v b) :
 Ct prog 237 #[pt g,v] e (LedgerR g d k seed s::R) (fun v' L'=>v'=.tuple #[.int .i64 (if b∈s.items then (posP s.items b:Int) else 0),.bool (decide (b∈s.items))]∧L'=LedgerR g d k seed s::R):=by
 refine led_out fun a M ha=>?_
 refine Ct.enter (args:=[_,_]) func237 rfl ntmps237 results237 rfl ?_;refine wB ?_;refine A.begin (id:=1) [11] (ledM g d k s a M R) mixed ?_;have hb0:RdB (ledM g d k s a M R) v b:=hv.ent zE
 (refine tM 0 ?_;refine tN 1 ?_;refine tF 2 ?_;refine tL 3 ?_;refine tM 4 ?_;refine tk 5 _ rfl (Val.bytes rfl zB) ?_)
 refine tk 6 _ rfl (Val.lookupK (key:=keyS) (k:=b) rfl rfl zP) ?_
 (refine tM 7 ?_;refine tk 8 _ rfl (Val.extract rfl rfl) ?_;refine tk 9 _ rfl (Val.extract rfl rfl) ?_;refine tA 10 ?_;(refine tO 11 ?_;refine dV (Val.assign rfl) ?_))
 refine A.done zK ?_;rw [placeP_look,ha.items]
 by_cases h:b∈s.items
 ·rw [if_pos h,if_pos h,decide_eq_true h];simp only [Option.getD_some,Option.isSome_some,Nat.zero_add];refine wB ?_;exact Fin.ret _ rfl (led_in ha) ⟨rfl,rfl⟩
 ·rw [if_neg h,if_neg h,decide_eq_false h];simp only [Option.getD_none,Option.isSome_none];refine wB ?_;exact Fin.ret _ rfl (led_in ha) ⟨rfl,rfl⟩
theorem lEntry_spec (g d k:Nat) (seed:Bts) (s:LSt) (i:Int) (hi:-9223372036854775808≤i∧i≤9223372036854775807) :
 Ct prog 56 #[pt g,.int .i64 i] e (LedgerR g d k seed s::R) (fun v' L'=>(¬ (0≤i∧i<s.items.length)∧v'=.tuple #[nY,.bool false]∧L'=LedgerR g d k seed s::R)∨(0≤i∧i<s.items.length∧∃ ad c,v'=.tuple #[.slice ad (s.items.getD i.toNat []).length c,.bool true]∧L'=OwnB (.slice ad (s.items.getD i.toNat []).length c) (s.items.getD i.toNat [])::LedgerR g d k seed s::R)):=by
 refine led_out fun a M ha=>?_
 obtain ⟨l1,l2⟩:=ha.len;have hsz:=ha.st.size
 by_cases h0:0≤i
 rotate_left
 ·refine Ct.enter (args:=[_,_]) func56 rfl ntmps56 results56 rfl ?_;refine wB ?_;exact Fin.ret _ rfl (led_in ha) (.inl ⟨fun q=>h0 q.1,rfl,rfl⟩)
 by_cases hlt:i<s.items.length
 rotate_left
 ·refine Ct.enter (args:=[_,_]) func56 rfl ntmps56 results56 rfl ?_;refine wB ?_;exact Fin.ret _ rfl (led_in ha) (.inl ⟨fun q=>hlt q.2,rfl,rfl⟩)
 obtain ⟨n,rfl⟩:=Int.eq_ofNat_of_zero_le h0;rw [Int.toNat_natCast];obtain ⟨gj,gb,gk,gm,vs,vp,⟨ts,us,ai,ci,al,cl⟩,ur,up,uq⟩:=a;dsimp only at l1 l2
 have hn:n<ts.length:=by omega
 have hrdl:∀ L R',Pull L (OwnT (.slice ai ts.length ci) ts) R'→RdSl L 1 (.slice ai ts.length ci) ts.length (ts.map (·.1)):=fun L R' p=>RdSl.own p
 refine Ct.of_sep ((hrdl _ _ (.succ .zero)).shape zo) ?_;rintro ⟨⟨ad',c',hv,h3,h4,h5,h6⟩,_⟩
 cases hv
 rcases h6 with h6|⟨gl,ol,rfl⟩
 ·omega
 have hrd:∀ L R',Pull L (OwnT (.slice (some ⟨gl,ol,none⟩) ts.length ci) ts) R'→Rd L ⟨gl,ol+n,none⟩ (ts[n]'hn).1:=fun L R' p=>(RdSl.own p).elem (by rw [List.getElem?_map,List.getElem?_eq_getElem hn];rfl)
 have hti:=ha.txts _ (List.getElem_mem hn);have hgd:s.items.getD n []=(ts[n]'hn).2:=by rw [← ha.items];exact getD_txt hn
 have hsh:=ha.st.short _ (show (ts[n]'hn).2∈s.items by rw [← ha.items];exact List.mem_map.2 ⟨_,List.getElem_mem hn,rfl⟩)
 skip
 rw [hgd]
 generalize ts[n]'hn=y at *
 obtain ⟨yv,b⟩:=y;dsimp only at hrd hti hsh ⊢
 refine Ct.enter (args:=[_,_]) func56 rfl ntmps56 results56 rfl ?_;dsimp only [ledM,LMem.cells,lputC];refine wB ?_;refine O.load rfl (hrd _ _ zP) rfl ?_;refine O.call rfl rfl (clone_spec _ e yv b (hti.ent (one_in zP)) zo) ?_;rintro _ _ ⟨ad,c,rfl,rfl⟩;refine wB ?_;exact Fin.ret (OwnB (.slice ad b.length c) b::LedgerR g d k seed s::R) rfl (Ent.cons (led_in ha)) (.inr ⟨h0,hlt,ad,c,rfl,rfl⟩)
theorem lInc_spec (g d k:Nat) (seed:Bts) (s:LSt) (i n:Nat) (hn:n≤s.items.length) (hi:i<n) :
 Ct prog 19 #[pt g,.int .i64 (i:Int),.int .i64 (n:Int)] e (LedgerR g d k seed s::R) (fun v' L'=>∃ ad c out,v'=.tuple #[.agg #[.int .i64 (i:Int),.int .i64 (n:Int),.slice ad out.length c],.int .i64 0]∧out.map (·.2)=pathP ((s.items.take n).map leafP) i∧L'=OwnT (.slice ad out.length c) out::Items out::LedgerR g d k seed s::R):=by
 refine led_out fun a M ha=>?_
 obtain ⟨l1,l2⟩:=ha.len;have hsz:=ha.st.size;refine Ct.of_sep ((RdSl.own (.succ (.succ .zero))).shape zo) ?_;rintro ⟨⟨ad',c',hv,h3,h4,h5,h6⟩,_⟩
 cases hv
 have h32:=leaf_sizes ha.leaves;refine Ct.enterC (args:=[_,_,_]) func19 rfl ntmps19 results19 rfl ?_
 (repeat (refine wA ?_;intros))
 rw [Int.toNat_natCast];have hk:n≤a.q.us.length:=by omega
 have hlen:(a.q.us.take n).length=n:=by rw [List.length_take];omega
 refine O.call rfl rfl (include_spec _ e (.slice a.q.al n a.q.cl) (a.q.us.take n) (i:Int) zo (take_mapT (RdSl.own zP) hk) (fun x hx=>(ha.txtl x (List.mem_of_mem_take hx)).ent (one_in zP)) (fun x hx=>by have:=h32 x (List.mem_of_mem_take hx);omega) zo) ?_;rintro _ _ (⟨hno,-,-⟩|⟨-,-,ad,c,out,rfl,ho,rfl⟩)
 ·exact absurd ⟨by omega,by omega⟩ hno
 rw [hlen];refine wB ?_;apply Fin.retC
 ·exact zV
 refine ⟨OwnT (.slice ad out.length c) out::Items out::LedgerR g d k seed s::R,Ent.trans (show Ent _ (OwnT (.slice ad out.length c) out::Items out::ledM g d k s a M R) from zE) (Ent.cons (Ent.cons (led_in ha))),ad,c,out,rfl,?_,rfl⟩;rw [ho,Int.toNat_natCast,List.map_take,ha.leaves,List.map_take]
theorem lGrow_spec (g d k:Nat) (seed:Bts) (s:LSt) (i n:Nat) (hn:n≤s.items.length) (hi:i≤n) :
 Ct prog 54 #[pt g,.int .i64 (i:Int),.int .i64 (n:Int)] e (LedgerR g d k seed s::R) (fun v' L'=>∃ ad c out,v'=.tuple #[.agg #[.int .i64 (i:Int),.int .i64 (n:Int),.slice ad out.length c],.int .i64 0]∧out.map (·.2)=growP ((s.items.take n).map leafP) i∧L'=OwnT (.slice ad out.length c) out::Items out::LedgerR g d k seed s::R):=by
 refine led_out fun a M ha=>?_
 obtain ⟨l1,l2⟩:=ha.len;have hsz:=ha.st.size;refine Ct.of_sep ((RdSl.own (.succ (.succ .zero))).shape zo) ?_;rintro ⟨⟨ad',c',hv,h3,h4,h5,h6⟩,_⟩
 cases hv
 have h32:=leaf_sizes ha.leaves;refine Ct.enterC (args:=[_,_,_]) func54 rfl ntmps54 results54 rfl ?_
 (repeat (refine wA ?_;intros))
 rw [Int.toNat_natCast];have hk:n≤a.q.us.length:=by omega
 have hlen:(a.q.us.take n).length=n:=by rw [List.length_take];omega
 refine O.call rfl rfl (grow_spec _ e (.slice a.q.al n a.q.cl) (a.q.us.take n) (i:Int) zo (take_mapT (RdSl.own zP) hk) (fun x hx=>(ha.txtl x (List.mem_of_mem_take hx)).ent (one_in zP)) (fun x hx=>by have:=h32 x (List.mem_of_mem_take hx);omega) zo) ?_;rintro _ _ (⟨hno,-,-⟩|⟨-,-,ad,c,out,rfl,ho,rfl⟩)
 ·exact absurd ⟨by omega,by omega⟩ hno
 rw [hlen];refine wB ?_;apply Fin.retC
 ·exact zV
 refine ⟨OwnT (.slice ad out.length c) out::Items out::LedgerR g d k seed s::R,Ent.trans (show Ent _ (OwnT (.slice ad out.length c) out::Items out::ledM g d k s a M R) from zE) (Ent.cons (Ent.cons (led_in ha))),ad,c,out,rfl,?_,rfl⟩;rw [ho,Int.toNat_natCast,List.map_take,ha.leaves,List.map_take]
theorem LSt.lastV_fits {s:LSt} (h:s.ok):s.lastV.sig.fits:=by
 unfold LSt.lastV
 cases hl:s.last with
 | none=>exact ⟨(fun a ha=>by simp [sgd0] at ha),(fun a ha=>by simp [sgd0] at ha)⟩
 | some x=>exact (h.last x hl).2.1.fits
theorem ent_mid {M N R:List Res}:Ent (M++(N++R)) (N++(M++R)):=ent_perm (List.perm_append_comm_assoc M N R)
def SgdR (s:Sgd) (v:Value):Res:=Ex fun N=>All [Pu (∃ ur up uq,v=.agg (sgdC s ur up uq).toArray∧RdSgd [N] ur up uq s),N]
theorem sgdR_in {s:Sgd} {N:Res} {ur up uq:Value} {R:List Res} (h:RdSgd [N] ur up uq s):Ent (N::R) (SgdR s (.agg (sgdC s ur up uq).toArray)::R) :=
 Ent.trans (pu_in (p:=∃ ur' up' uq',Value.agg (sgdC s ur up uq).toArray=.agg (sgdC s ur' up' uq').toArray∧RdSgd [N] ur' up' uq' s) ⟨ur,up,uq,rfl,h⟩) (Ent.trans (all_in (M:=[_,_])) (ex_in (f:=fun N=>All [Pu (∃ ur' up' uq',Value.agg (sgdC s ur up uq).toArray=.agg (sgdC s ur' up' uq').toArray∧RdSgd [N] ur' up' uq' s),N]) N))
def tupSgd (s:Sgd) (v:Value) (_:Nat→Value):List Res:=match v with|.tuple #[x,_]=>[SgdR s x]|_=>[]
def sgdAt (s:Sgd) (v:Value):Res:=Ex fun N=>Ex fun q:Nat × Value × Value × Value=>All [Pu (v=pt q.1∧RdSgd [N] q.2.1 q.2.2.1 q.2.2.2 s),Blk q.1 (sgdC s q.2.1 q.2.2.1 q.2.2.2) 87 (0,0),N]
theorem sgdAt_in {s:Sgd} {N:Res} {g:Nat} {ur up uq:Value} {R:List Res} (h:RdSgd [N] ur up uq s):Ent (Blk g (sgdC s ur up uq) 87 (0,0)::N::R) (sgdAt s (pt g)::R) :=
 Ent.trans (pu_in (p:=pt g=pt g∧RdSgd [N] ur up uq s) ⟨rfl,h⟩) (Ent.trans (all_in (M:=[_,_,_])) (Ent.trans (ex_in (f:=fun q:Nat × Value × Value × Value=>All [Pu (pt g=pt q.1∧RdSgd [N] q.2.1 q.2.2.1 q.2.2.2 s),Blk q.1 (sgdC s q.2.1 q.2.2.1 q.2.2.2) 87 (0,0),N]) (g,ur,up,uq)) (ex_in (f:=fun N=>Ex fun q:Nat × Value × Value × Value=>All [Pu (pt g=pt q.1∧RdSgd [N] q.2.1 q.2.2.1 q.2.2.2 s),Blk q.1 (sgdC s q.2.1 q.2.2.1 q.2.2.2) 87 (0,0),N]) N)))
def aggChk (root:Bts) (v:Value) (_:Nat→Value):List Res:=match v with|.agg #[_,vr]=>[OwnB vr root]|_=>[]
def LSt.chk (s:LSt):Chk:=⟨s.items.length,rootP (s.items.map leafP)⟩
theorem rootP_32:∀ {l:List Bts},(∀ a∈l,a.length=32)→(rootP l).length=32
 | [],_=>by rw [rootP_nil];exact sha_length _
 | [a],h=>by rw [rootP_one];exact h a (List.mem_singleton.2 rfl)
 | a::b::l,_=>by rw [rootP_more (by simp)];exact tagP_length _ _
theorem LSt.chk_right {s:LSt} (h:s.ok):s.chk.right:=by
 refine ⟨h.size,rootP_32 fun a ha=>?_⟩;obtain ⟨b,_,rfl⟩:=List.mem_map.1 ha;exact tagP_length _ _
def LSt.same (s:LSt):Prop:=s.last.isSome=true∧s.lastV.chk.size=s.items.length
instance sameDec (s:LSt):Decidable s.same:=by unfold LSt.same;infer_instance
def LSt.pub (seed:Bts) (s:LSt):LSt:=if s.same then s else if s.keys<16 then { s with keys:=s.keys+1,last:=some (signC seed s.keys s.chk) } else s
theorem lPub_spec (g d k:Nat) (seed:Bts) (s:LSt) :
 Ct prog 171 #[pt g] e (LedgerR g d k seed s::R) (fun v' L'=>(s.same∨s.keys<16→∃ (N:Res) (ur up uq:Value),v'=.tuple #[.agg (sgdC (s.pub seed).lastV ur up uq).toArray,.int .i64 0]∧RdSgd [N] ur up uq (s.pub seed).lastV∧L'=N::LedgerR g d k seed (s.pub seed)::R)∧(¬ (s.same∨s.keys<16)→v'=.tuple #[.agg (sgdC sgd0 nY nY nY).toArray,.int .i64 23]∧L'=LedgerR g d k seed s::R)):=by
 refine led_out fun a M ha=>?_
 obtain ⟨l1,l2⟩:=ha.len;refine Ct.enterC (args:=[_]) func171 rfl ntmps171 results171 rfl ?_
 (repeat' first|refine W.meet27 (id:=3) (fun g2:Nat=>[(0,pt g),(2,pt g2),(3,.int .i64 0)]) (fun g2=>Blk g2 (sgdC sgd0 nY nY nY) 87 (0,0)::ledM g d k s a M R) (fun _=>¬ s.same) ?_ ?_|refine Zb ?_|apply Zc|apply Zd|apply Ze|apply Zf|refine Yh fun _=>?_|fail)
 rotate_left
 ·refine ⟨?_⟩;rename_i g2
  (repeat (refine wA ?_;intros))
  refine A.begin (id:=1) [] (ledM g d k s a M R) mixed ?_
  by_cases hs1:s.last.isSome=true
  rotate_left
  ·have hs1:s.last.isSome=false:=by simpa using hs1
   (refine tM 0 ?_;refine tN 1 ?_;refine tF 2 ?_;refine tL 3 ?_;refine tM 4 ?_)
   rw [hs1]
   (refine A.takeN 5 rfl rfl zK zE rfl ?_;refine A.takeN 6 rfl rfl zK zE rfl ?_;refine A.takeN 7 rfl rfl zK zE rfl ?_;refine A.takeN 8 rfl rfl zK zE rfl ?_;refine A.takeN 9 rfl rfl zK zE rfl ?_;refine A.takeN 10 rfl rfl zK zE rfl ?_;refine A.takeN 11 rfl rfl zK zE rfl ?_;refine A.takeN 12 rfl rfl zK zE rfl ?_;refine A.takeN 13 rfl rfl zK zE rfl ?_;refine A.takeN 14 rfl rfl zK zE rfl ?_;refine A.takeN 15 rfl rfl zK zE rfl ?_;refine A.takeN 16 rfl rfl zK zE rfl ?_;refine tk 17 _ rfl (Val.pick_f rfl rfl) ?_)
   refine A.done zK ?_;refine wB ?_;exact Fin.meet g2 (fun q=>by have:=q.1;rw [hs1] at this;cases this) zS Ent.rfl
  by_cases hs2:s.lastV.chk.size=s.items.length
  rotate_left
  ·(refine tM 0 ?_;refine tN 1 ?_;refine tF 2 ?_;refine tL 3 ?_;refine tM 4 ?_)
   rw [hs1]
   (refine tkG 5 _ rfl (Val.move rfl) ?_;refine tkG 6 _ rfl (Val.nilCheck rfl) ?_;refine tkG 7 _ rfl (Val.fieldAddr rfl) ?_;refine tkG 8 _ rfl (Val.fieldAddr rfl) ?_;refine tkG 9 _ rfl (Val.fieldAddr rfl) ?_;refine tkG 10 _ rfl (Val.load rfl zR) ?_;refine tkG 11 _ rfl (Val.move rfl) ?_;refine tkG 12 _ rfl (Val.nilCheck rfl) ?_;refine tkG 13 _ rfl (Val.fieldAddr rfl) ?_;refine tkG 14 _ rfl (Val.load rfl zR) ?_;refine tkG 15 _ rfl (Val.len rfl) ?_;refine tkG 16 (.bool false) rfl (Val.no (Val.eql rfl rfl) zn) ?_;refine tk 17 _ rfl (Val.pick_t rfl rfl) ?_)
   refine A.done zK ?_;refine wB ?_;exact Fin.meet g2 (fun q=>hs2 q.2) zS Ent.rfl
  have hss:s.same:=⟨hs1,hs2⟩
  have hpub:s.pub seed=s:=by unfold LSt.pub;rw [if_pos hss]
  (refine tM 0 ?_;refine tN 1 ?_;refine tF 2 ?_;refine tL 3 ?_;refine tM 4 ?_)
  rw [hs1]
  (refine tkG 5 _ rfl (Val.move rfl) ?_;refine tkG 6 _ rfl (Val.nilCheck rfl) ?_;refine tkG 7 _ rfl (Val.fieldAddr rfl) ?_;refine tkG 8 _ rfl (Val.fieldAddr rfl) ?_;refine tkG 9 _ rfl (Val.fieldAddr rfl) ?_;refine tkG 10 _ rfl (Val.load rfl zR) ?_;refine tkG 11 _ rfl (Val.move rfl) ?_;refine tkG 12 _ rfl (Val.nilCheck rfl) ?_;refine tkG 13 _ rfl (Val.fieldAddr rfl) ?_;refine tkG 14 _ rfl (Val.load rfl zR) ?_;refine tkG 15 _ rfl (Val.len rfl) ?_;refine tkG 16 (.bool true) rfl (Val.yes (Val.eql rfl rfl) zy) ?_;refine tk 17 _ rfl (Val.pick_t rfl rfl) ?_)
  refine A.done zK ?_
  (repeat' first|refine Za ?_|apply Zc|apply Zd|apply Zf|refine Zg ?_|refine Zh ?_|refine Yz ?_|(apply O.loadAggB;exact rfl;exact zP;(first|(simp only [Nat.zero_add,Nat.add_zero,Nat.reduceAdd,List.drop_succ_cons,List.drop_zero,List.take_succ_cons,List.take_zero];done)|(simp only [Nat.zero_add,Nat.add_zero,Nat.reduceAdd,List.drop_succ_cons,List.drop_zero,List.take_succ_cons,List.take_zero];exact rfl));exact rfl;exact rfl))
  refine O.call rfl rfl (cCopy_spec _ e a.ur a.up a.uq s.lastV (ha.last.ent (one_in zP)) (LSt.lastV_fits ha.st)) ?_;rintro _ _ ⟨N,ur,up,uq,rfl,hN,rfl⟩;refine O.of_sep (RdB.one (hN.root.ent (one_in zP))) fun o3=>?_
  refine O.of_sep (hN.sig.ent (one_in zP)).parts.one fun o4=>?_
  refine O.of_sep (hN.sig.ent (one_in zP)).path.one fun o5=>?_
  refine wB ?_;apply Fin.retC
  ·exact zV
  exact ⟨N::LedgerR g d k seed s::R,Ent.trans (show Ent _ (N::ledM g d k s a M R) from zE) (Ent.cons (led_in ha)),fun _=>⟨N,ur,up,uq,by rw [hpub];rfl,by rw [hpub];exact hN,by rw [hpub]⟩,fun h=>absurd (.inl hss) h⟩
 intro g2 hss
 by_cases hk:s.keys<16
 rotate_left
 ·have hk16:s.keys=16:=by have:=ha.st.keys;omega
  have ht:=ktakeU_spec (Blk g2 (sgdC sgd0 nY nY nY) 87 (0,0)::Blk g (a.cells s) tLdg (0,0)::OwnT (.slice a.q.ai a.q.ts.length a.q.ci) a.q.ts::OwnT (.slice a.q.al a.q.us.length a.q.cl) a.q.us::MpK keyS a.gm (placeP (a.q.ts.map (·.2)) 0)::M::Jrn a.gj d s.recs.length::Disk d (disk0 s.jb)::R) e a.gb a.gk k 1048576 zo zo;rw [← hk16] at ht
  refine wB ?_;refine O.call rfl rfl (ht.ent zE) ?_;rintro _ _ ⟨rfl,rfl⟩;refine wB ?_;apply Fin.retC
  ·exact zV
  exact ⟨LedgerR g d k seed s::R,Ent.trans (show Ent _ (ledM g d k s a M R) from zE) (led_in ha),fun h=>absurd h (fun q=>q.elim hss hk),fun _=>⟨rfl,rfl⟩⟩
 have hpub:s.pub seed={ s with keys:=s.keys+1,last:=some (signC seed s.keys s.chk) }:=by unfold LSt.pub;rw [if_neg hss,if_pos hk]
 have hcr:=LSt.chk_right ha.st;have ht:=ktakeD_spec (Blk g2 (sgdC sgd0 nY nY nY) 87 (0,0)::Blk g (a.cells s) tLdg (0,0)::OwnT (.slice a.q.ai a.q.ts.length a.q.ci) a.q.ts::OwnT (.slice a.q.al a.q.us.length a.q.cl) a.q.us::MpK keyS a.gm (placeP (a.q.ts.map (·.2)) 0)::M::Jrn a.gj d s.recs.length::Disk d (disk0 s.jb)::R) e a.gb a.gk k s.keys 1048576 hk zo zo;obtain ⟨s1,hs1⟩:∃ s1:LSt,s1={ s with keys:=s.keys+1 }:=⟨_,rfl⟩
 have ha1:a.ok M seed s1:=by
  rw [hs1];exact ⟨ha.rseed,ha.items,ha.txts,ha.leaves,ha.txtl,ha.last,⟨ha.st.full,ha.st.nodup,ha.st.size,ha.st.short,hk,ha.st.last⟩,ha.sd⟩
 refine wB ?_;refine O.call rfl rfl (ht.ent zE) ?_;rintro _ _ ⟨rfl,rfl⟩;refine O.ent1 (show Ent _ (ledM g d k s1 a M (Blk g2 (sgdC sgd0 nY nY nY) 87 (0,0)::R)) from ?_) ?_
 ·rw [hs1];exact zE
 have hit:s1.items=s.items:=by rw [hs1];rfl
 have hck:s1.chk=s.chk:=by rw [hs1];rfl
 refine wB ?_;refine W.keep [(0,pt g),(2,pt g2),(3,.int .i64 0),(4,.int .i64 (s.keys:Int)),(5,.int .i64 0)] zS ?_;refine A.begin (id:=6) [19] (ledM g d k s1 a M R) mixed ?_
 (refine tM 0 ?_;refine tN 1 ?_;refine tF 2 ?_;refine tL 3 ?_;refine tM 4 ?_;refine tM 5 ?_;refine tN 6 ?_;refine tF 7 ?_;refine tL 8 ?_;refine tk 9 _ rfl (Val.len rfl) ?_;refine tM 10 ?_)
 rw [l1];have hroot:rootP (s.items.map leafP)=s.chk.root:=rfl;have hcsz:s.items.length=s.chk.size:=rfl;have hsd:=ha.sd;have hcr2:=hcr.2
 generalize hsg:signC seed s.keys s.chk=sg at *
 generalize hchk:s.chk=ck at *
 refine A.dagE (n:=1) [
  ⟨11,54,[],[],fun v _=>∃ ad c,v=.slice ad ck.root.length c,[(0,fun v _=>[OwnB v ck.root])]⟩,
  ⟨12,55,[11],[0],fun v _=>∃ ad c,v=.agg (chkC ck (.slice ad ck.root.length c)).toArray,[(1,aggChk ck.root)]⟩,
  ⟨13,56,[12],[1],fun v _=>∃ x,v=.tuple #[x,.int .i64 0],[(2,tupSgd sg)]⟩,
  ⟨14,42,[13],[2],fun v _=>∃ x,v=.tuple #[x,.int .i64 0],[(3,tupSgd sg)]⟩,
  ⟨15,57,[14],[3],fun _ _=>True,[(4,fun v _=>[SgdR sg v])]⟩,
  ePure 16 58 [14] (.int .i64 0),
  eNew 17 6 5 87 (sgdC sgd0 nY nY nY),
  ⟨18,100018,[15,17],[4,5],fun _ _=>True,[(6,fun _ W=>[sgdAt sg (W 17)])]⟩] 8 rfl zK zK ?_ zE ?_
 ·refine eall_cons ?_ (eall_cons ?_ (eall_cons ?_ (eall_cons ?_ (eall_cons ?_ (eall_cons ?_ (eall_cons ?_ (eall_cons ?_ eall_nil)))))))
  ·refine ⟨_,rfl,.inl rfl,fun V σr M1 h3 hy=>?_⟩;have hr:=(lRootM_spec (M1++(Blk g2 (sgdC sgd0 nY nY nY) 87 (0,0)::R)) e g d k seed s1 a M ha1).ent (ent_mid (M:=M1) (N:=ledM g d k s1 a M []) (R:=Blk g2 (sgdC sgd0 nY nY nY) 87 (0,0)::R));rw [hit,hroot] at hr
   refine Do.ent2 (show Ent _ (M1++(ledM g d k s1 a M (Blk g2 (sgdC sgd0 nY nY nY) 87 (0,0)::R))) from Ent.rfl) ?_;refine Do.call (evs1 (h3 53 _ rfl)) rfl hr ?_;rintro _ _ ⟨ad,c,rfl,rfl⟩;exact ⟨_,rfl,⟨ad,c,rfl⟩,Ent.cons (ent_mid (M:=ledM g d k s1 a M []) (N:=M1) (R:=Blk g2 (sgdC sgd0 nY nY nY) 87 (0,0)::R))⟩
  ·refine ⟨_,rfl,.inl rfl,fun V σr M1 h3 hy=>?_⟩;obtain ⟨s11,ad,c,hv⟩:=hy _ (List.mem_of_getElem? (i:=0) rfl) (List.mem_of_getElem? (i:=0) rfl) (slotB rfl);have s52:=h3 52 _ rfl;dsimp only at s11 hv
   refine Do.ent2 (show Ent _ (([OwnB (V 11) ck.root]++[])++(M1++(ledM g d k s1 a M (Blk g2 (sgdC sgd0 nY nY nY) 87 (0,0)::R)))) from Ent.rfl) ?_;rw [hv] at s11 ⊢
   rw [hcsz] at s52
   exact Do.val (v:=.agg (chkC ck (.slice ad ck.root.length c)).toArray) (Val.build (parts:=[(0,.tmp 52),(1,.tmp 54)]) (vs:=[(0,.int .i64 (ck.size:Int)),(1,.slice ad ck.root.length c)]) (by simp [evp,ev,s11,s52]) (by simp [Instr.fill,Value.cells])) rfl ⟨_,rfl,⟨ad,c,rfl⟩,Ent.rfl⟩
  ·refine ⟨_,rfl,.inl rfl,fun V σr M1 h3 hy=>?_⟩;obtain ⟨s12,ad,c,hv⟩:=hy _ (List.mem_of_getElem? (i:=1) rfl) (List.mem_of_getElem? (i:=0) rfl) (slotB rfl);have s46:=h3 46 _ rfl;have s47:=h3 47 _ rfl;dsimp only at s12 hv
   refine Do.ent2 (show Ent _ ((aggChk ck.root (V 12) V++[])++(M1++(ledM g d k s1 a M (Blk g2 (sgdC sgd0 nY nY nY) 87 (0,0)::R)))) from Ent.rfl) ?_;rw [hv] at s12 ⊢
   refine Do.ent2 (show Ent _ (OwnB (.slice ad ck.root.length c) ck.root::(M1++(ledM g d k s1 a M (Blk g2 (sgdC sgd0 nY nY nY) 87 (0,0)::R)))) from Ent.rfl) ?_;have hcs:=cSign_spec (OwnB (.slice ad ck.root.length c) ck.root::(M1++(ledM g d k s1 a M (Blk g2 (sgdC sgd0 nY nY nY) 87 (0,0)::R)))) e a.vs (.slice ad ck.root.length c) seed s.keys ck (ha.rseed.ent (Ent.drop (Ent.trans (ent_app_drop M1) (one_in zP)))) hsd hk (RdSl.own .zero) hcr;rw [hsg] at hcs
   refine Do.call (xs:=[.tmp 46,.tmp 47,.tmp 55]) (vs:=[a.vs,.int .i64 (s.keys:Int),.agg (chkC ck (.slice ad ck.root.length c)).toArray]) (by simp [evs,ev,s12,s46,s47]) rfl hcs ?_;rintro _ _ ⟨N,ur,up,uq,rfl,hN,rfl⟩;exact ⟨_,rfl,⟨_,rfl⟩,Ent.trans (sgdR_in hN) (Ent.cons (Ent.drop Ent.rfl))⟩
  ·refine ⟨_,rfl,.inl rfl,fun V σr M1 h3 hy=>?_⟩;obtain ⟨s13,x,hv⟩:=hy _ (List.mem_of_getElem? (i:=2) rfl) (List.mem_of_getElem? (i:=0) rfl) (slotB rfl);dsimp only at s13 hv
   refine Do.ent2 (show Ent _ ((tupSgd sg (V 13) V++[])++(M1++(ledM g d k s1 a M (Blk g2 (sgdC sgd0 nY nY nY) 87 (0,0)::R)))) from Ent.rfl) ?_;rw [hv] at s13 ⊢
   exact Do.val (Val.move s13) rfl ⟨_,rfl,⟨x,rfl⟩,Ent.rfl⟩
  ·refine ⟨_,rfl,.inl rfl,fun V σr M1 h3 hy=>?_⟩;obtain ⟨s14,x,hv⟩:=hy _ (List.mem_of_getElem? (i:=3) rfl) (List.mem_of_getElem? (i:=0) rfl) (slotB rfl);dsimp only at s14 hv
   refine Do.ent2 (show Ent _ ((tupSgd sg (V 14) V++[])++(M1++(ledM g d k s1 a M (Blk g2 (sgdC sgd0 nY nY nY) 87 (0,0)::R)))) from Ent.rfl) ?_;rw [hv] at s14 ⊢
   exact Do.val (v:=x) (Val.extract (vs:=[x,.int .i64 0]) s14 rfl) rfl ⟨_,rfl,trivial,Ent.rfl⟩
  ·refine ePure_ok rfl (.inl rfl) rfl rfl fun V σr L h3' hy _=>?_
   obtain ⟨s14,x,hv⟩:=hy _ (List.mem_of_getElem? (i:=3) rfl) (List.mem_of_getElem? (i:=0) rfl) (slotB rfl);dsimp only at s14 hv
   rw [hv] at s14
   exact Val.extract (vs:=[x,.int .i64 0]) s14 rfl
  ·exact eNew_ok rfl (.inl rfl) rfl rfl rfl
  ·refine ⟨_,rfl,.inl rfl,fun V σr M1 h3 hy=>?_⟩;obtain ⟨s15,-⟩:=hy _ (List.mem_of_getElem? (i:=4) rfl) (List.mem_of_getElem? (i:=0) rfl) (slotB rfl);obtain ⟨s17,g6,hv⟩:=hy _ (List.mem_of_getElem? (i:=6) rfl) (List.mem_of_getElem? (i:=1) rfl) (slotB rfl);dsimp only at s15 s17 hv
   refine Do.ent2 (show Ent _ (([SgdR sg (V 15)]++(ptrBlk (sgdC sgd0 nY nY nY) 87 (V 17) V++[]))++(M1++(ledM g d k s1 a M (Blk g2 (sgdC sgd0 nY nY nY) 87 (0,0)::R)))) from Ent.rfl) ?_;have hw:restr [15,17] V 17=pt g6:=hv;rw [hv] at s17 ⊢
   refine Do.ent2 (show Ent _ (SgdR sg (V 15)::Blk g6 (sgdC sgd0 nY nY nY) 87 (0,0)::(M1++(ledM g d k s1 a M (Blk g2 (sgdC sgd0 nY nY nY) 87 (0,0)::R)))) from Ent.rfl) ?_;unfold SgdR;refine Do.exD fun N=>?_
   refine Do.ent2 all_out ?_;refine Do.puD fun hN=>?_
   obtain ⟨ur,up,uq,h15,hN⟩:=hN;rw [h15] at s15
   refine Do.sepD (RdB.one (hN.root.ent (one_in .zero))) fun o3=>?_
   refine Do.sepD (hN.sig.ent (one_in .zero)).parts.one fun o4=>?_
   refine Do.sepD (hN.sig.ent (one_in .zero)).path.one fun o5=>?_
   refine Do.storeAgg (cs':=sgdC sg ur up uq) s17 s15 rfl zO zU zW ⟨.pointer none,rfl,trivial,?_⟩
   show Ent _ (sgdAt sg (restr [15,17] V 17)::(M1++(ledM g d k s1 a M (Blk g2 (sgdC sgd0 nY nY nY) 87 (0,0)::R))))
   rw [hw];exact Ent.trans (show Ent _ (Blk g6 (sgdC sg ur up uq) 87 (0,0)::N::(M1++(ledM g d k s1 a M (Blk g2 (sgdC sgd0 nY nY nY) 87 (0,0)::R)))) from Ent.pull (.succ .zero) (Ent.cons Ent.rfl)) (sgdAt_in hN)
 intro V hV;obtain ⟨g6,v17⟩:=hV _ (List.mem_of_getElem? (i:=6) rfl);have v16:=hV _ (List.mem_of_getElem? (i:=5) rfl);clear hV;dsimp only at v16 v17
 refine A.ent1 (show Ent _ (sgdAt sg (V 17)::ledM g d k s1 a M (Blk g2 (sgdC sgd0 nY nY nY) 87 (0,0)::R)) from Ent.rfl) ?_;simp only [slotsE,Nat.reduceLT,if_true,if_false,List.cons_append,List.nil_append];rw [v16,v17];unfold sgdAt;refine A.exD fun N=>?_
 refine A.exD fun ⟨g7,ur,up,uq⟩=>?_
 refine A.ent1 all_out ?_;refine A.puD fun hN=>?_
 obtain ⟨hg7,hN⟩:=hN
 cases hg7
 dsimp only at hN ⊢
 refine A.ent1 (show Ent _ (Blk g7 (sgdC sg ur up uq) 87 (0,0)::N::ledM g d k s1 a M (Blk g2 (sgdC sgd0 nY nY nY) 87 (0,0)::R)) from Ent.rfl) ?_;refine A.of_sep (RdB.one (hN.root.ent (one_in zP))) fun o3=>?_
 refine A.of_sep (hN.sig.ent (one_in zP)).parts.one fun o4=>?_
 refine A.of_sep (hN.sig.ent (one_in zP)).path.one fun o5=>?_
 ((refine tO 19 ?_;refine dV (Val.assign rfl) ?_))
 refine A.done zK ?_;have hsr:sg.sig.right:=by rw [← hsg];exact signP_right hk
 have hsc:sg.chk=ck:=by rw [← hsg];rfl
 have hall:Ent [All [M,N]] [M]:=Ent.trans (all_out (M:=[M,N]) (L:=[])) (Ent.cons Ent.nil);have hall2:Ent [All [M,N]] [N]:=Ent.trans (all_out (M:=[M,N]) (L:=[])) (Ent.drop (Ent.cons Ent.nil));obtain ⟨a2,ha2⟩:∃ a2:LMem,a2={ a with ur:=ur,up:=up,uq:=uq }:=⟨_,rfl⟩
 have hlv:(s.pub seed).lastV=sg:=by rw [hpub];rfl
 have hok:a2.ok (All [M,N]) seed (s.pub seed):=by
  rw [hpub,ha2];refine ⟨ha.rseed.ent hall,ha.items,fun x hx=>(ha.txts x hx).ent hall,ha.leaves,fun x hx=>(ha.txtl x hx).ent hall,hN.ent hall2,⟨ha.st.full,ha.st.nodup,ha.st.size,ha.st.short,hk,fun x hx=>?_⟩,ha.sd⟩
  cases hx
  rw [hsc];exact ⟨hcr,hsr,by rw [← hcsz];exact Nat.le_refl _⟩
 dsimp only [ledM,LMem.cells,lputC];refine wB ?_;refine O.call rfl rfl (cCopy_spec _ e ur up uq sg (hN.ent (one_in (.succ .zero))) hsr.fits) ?_;rintro _ _ ⟨N2,ur2,up2,uq2,rfl,hN2,rfl⟩;refine O.of_sep (RdB.one (hN2.root.ent (one_in zP))) fun o6=>?_
 refine O.of_sep (hN2.sig.ent (one_in zP)).parts.one fun o7=>?_
 refine O.of_sep (hN2.sig.ent (one_in zP)).path.one fun o8=>?_
 refine wB ?_;apply Fin.retC
 ·exact zV
 refine ⟨N2::LedgerR g d k seed (s.pub seed)::R,?_,fun _=>⟨N2,ur2,up2,uq2,by rw [hlv];rfl,by rw [hlv];exact hN2,rfl⟩,fun h=>absurd (.inr hk) h⟩;refine Ent.trans ?_ (Ent.cons (led_in hok));rw [hpub,ha2,hs1];refine Ent.trans (show Ent _ (M::N::N2::Blk g [pt a.gj,pt a.gb,a.vs,a.vp,.slice a.q.ai a.q.ts.length a.q.ci,.slice a.q.al a.q.us.length a.q.cl,.map (some a.gm),.int .i64 (sg.chk.size:Int),ur,.int .i64 (sg.sig.idx:Int),up,uq,.bool true] tLdg (0,0)::OwnT (.slice a.q.ai a.q.ts.length a.q.ci) a.q.ts::OwnT (.slice a.q.al a.q.us.length a.q.cl) a.q.us::MpK keyS a.gm (placeP (a.q.ts.map (·.2)) 0)::Jrn a.gj d s.recs.length::Disk d (disk0 s.jb)::KBox a.gb a.gk (s.keys+1)::Jrn a.gk k (s.keys+1)::Disk k (kDisk (s.keys+1) 1048576)::R) from zE) (Ent.trans (all_in (M:=[M,N])) zE)
def LSt.fresh (s:LSt) (l:List Bts):List Bts:=freshP s.items [] l
def LSt.add (s:LSt) (l:List Bts):LSt:=if s.fresh l=[] then s else { s with recs:=s.recs++[s.fresh l] }
theorem LSt.add_items (s:LSt) (l:List Bts):(s.add l).items=s.items++s.fresh l:=by
 unfold LSt.add
 split
 ·rename_i h;rw [h,List.append_nil]
 ·simp [LSt.items]
theorem encR_len {l:List Bts} (h:∀ b∈l,b.length≤200):(encR l).length≤4+l.length*202:=by
 have:=encL_len h;unfold encR;rw [List.length_append,be_length]
 omega
theorem lay_len:∀ {recs:List (List Bts)},(∀ r∈recs,r≠[])→(∀ b∈recs.flatten,b.length≤200)→(layP (recs.map encR)).length≤recs.flatten.length*214
 | [],_,_=>by simp [layP]
 | r::recs,h1,h2=>by
  have h3:=lay_len (recs:=recs) (fun x hx=>h1 x (List.mem_cons_of_mem _ hx)) (fun b hb=>h2 b (by rw [List.flatten_cons];exact List.mem_append_right _ hb));have h4:=encR_len (l:=r) (fun b hb=>h2 b (by rw [List.flatten_cons];exact List.mem_append_left _ hb));have h5:=List.length_pos_iff.2 (h1 r (List.mem_cons_self ..))
  show (recP (encR r)++layP (recs.map encR)).length≤_
  rw [List.length_append,recP_length,List.flatten_cons,List.length_append,Nat.add_mul]
  omega
theorem lay_cnt:∀ l:List Bts,l.length≤(layP l).length
 | []=>Nat.le_refl _
 | m::l=>by
  have:=lay_cnt l
  show _≤(recP m++layP l).length
  rw [List.length_append,recP_length,List.length_cons]
  omega
theorem LSt.jb_len {s:LSt} (h:s.ok):s.jb.length≤s.items.length*214:=lay_len h.full h.short
theorem lAdd_spec (g d k:Nat) (seed:Bts) (s:LSt) (v:Value) (ls:List Txt) (hv:RdSl R 1 v ls.length (ls.map (·.1))) (ht:Txts R ls) (hl:ls.length≤1000) (hb:∀ a∈ls,a.2.length≤200) (hc:s.items.length+(s.fresh (ls.map (·.2))).length≤256) :
 Ct prog 15 #[pt g,v] e (LedgerR g d k seed s::R) (fun v' L'=>∃ (ao:Option Addr) (co:Nat) (outs:List Nat),v'=.tuple #[.slice ao outs.length co,.int .i64 0]∧outs=(ls.map (·.2)).map (posP (s.add (ls.map (·.2))).items)∧L'=OwnN (.slice ao outs.length co) outs::LedgerR g d k seed (s.add (ls.map (·.2)))::R):=by
 refine led_out fun a M ha=>?_
 obtain ⟨l1,l2⟩:=ha.len;have hsz:=ha.st.size;refine Ct.enter (args:=[_,_]) func15 rfl ntmps15 results15 rfl ?_;refine wB ?_;refine O.call rfl rfl (lsort_spec _ e g _ _ _ _ _ _ _ _ _ _ _ a.q v ls (hv.ent zE) (fun x hx=>(ht x hx).ent zE) hl zo) ?_;rintro _ _ ⟨ao,af,co,cf,fs,outs,rfl,hS,rfl⟩
 have hfr:fs.map (·.2)=s.fresh (ls.map (·.2)):=by
  rw [hS.fresh,ha.items,List.take_of_length_le (by rw [List.length_map];exact Nat.le_refl _)]
  rfl
 have hfl:fs.length=(s.fresh (ls.map (·.2))).length:=by rw [← hfr,List.length_map]
 have hai:=LSt.add_items s (ls.map (·.2))
 have houts:outs=(ls.map (·.2)).map (posP (s.add (ls.map (·.2))).items):=by
  rw [hai,← hfr];apply List.ext_getElem
  ·rw [hS.len,List.length_map,List.length_map]
  ·intro j h1 h2;rw [hS.outs j h1,ha.items,List.getElem_map,List.getD_eq_getElem?_getD,List.getElem?_eq_getElem (by rw [List.length_map] at h2;exact h2)]
   rfl
 by_cases h0:fs=[]
 ·have hadd:s.add (ls.map (·.2))=s:=by unfold LSt.add;rw [← hfr,h0,List.map_nil,if_pos rfl]
  have hz:fs.length=0:=by rw [h0];rfl
  rw [hadd] at houts ⊢
  refine wB ?_;exact Fin.ret (OwnN (.slice ao outs.length co) outs::LedgerR g d k seed s::R) rfl (Ent.trans (show Ent _ (OwnN (.slice ao outs.length co) outs::ledM g d k s a M R) from zE) (Ent.cons (led_in ha))) ⟨ao,co,outs,rfl,houts,rfl⟩
 have hpos:0<fs.length:=List.length_pos_iff.2 h0;refine wB ?_;have hfs:∀ x∈fs,x.2.length≤200:=fun x hx=>hb x (hS.sub x hx)
 have hfl2:fs.length≤256:=by omega
 have hjl:=LSt.jb_len ha.st
 have hadd:s.add (ls.map (·.2))={ s with recs:=s.recs++[fs.map (·.2)] }:=by
  unfold LSt.add;rw [← hfr,if_neg (fun q=>h0 (List.map_eq_nil_iff.1 q))]
 have henc:=encR_len (l:=fs.map (·.2)) (fun b hb'=>by obtain ⟨x,hx,rfl⟩:=List.mem_map.1 hb';exact hfs x hx);rw [List.length_map] at henc
 refine O.call rfl rfl (new_spec _ e) ?_;rintro _ _ ⟨gw,rfl,rfl⟩;refine wB ?_;refine O.call rfl rfl (num_spec _ e gw [] fs.length zo (by decide)) ?_;rintro _ _ ⟨rfl,rfl⟩;refine wB ?_;have htk:fs.take fs.length=fs:=List.take_length
 have hew:=eachW_spec (OwnN (.slice ao outs.length co) outs::OwnT (.slice af fs.length cf) fs::ledM g d k s a M R) e gw ([]++be fs.length 4) (.slice af fs.length cf) fs fs.length (RdSl.own zP) (fun x hx=>(ht x (hS.sub x hx)).ent zE) (Nat.le_refl _) (by
  rw [htk,encAll_encL];have:(encR (fs.map (·.2))).length=4+(encL (fs.map (·.2))).length:=by unfold encR;rw [List.length_append,be_length]
  rw [List.length_append,be_length,List.length_nil]
  omega) (fun x hx=>by rw [htk] at hx;have:=hfs x hx;omega) (fun h=>absurd h (Nat.lt_irrefl _))
 rw [htk,decide_eq_true rfl,show []++be fs.length 4++encAll fs=encR (fs.map (·.2)) by unfold encR;rw [encAll_encL,List.length_map,List.nil_append]] at hew
 refine O.call rfl rfl hew ?_;rintro _ _ ⟨rfl,rfl⟩
 generalize hrec:encR (fs.map (·.2))=rec at *
 refine wB ?_;refine O.call rfl rfl (done_spec _ e gw rec zo) ?_;rintro _ _ ⟨adr,cr,rfl,rfl⟩;have hsp:s.jb.length+rec.length+8≤1048576:=by omega
 obtain ⟨p1,p2,p3⟩:=add_plain (m:=rec) (sy:=s.jb.length) hsp
 have hja:=jadd_spec (OwnB (.slice adr rec.length cr) rec::OwnN (.slice ao outs.length co) outs::OwnT (.slice af fs.length cf) fs::Blk g (a.cells s) tLdg (0,0)::OwnT (.slice a.q.ai a.q.ts.length a.q.ci) a.q.ts::OwnT (.slice a.q.al a.q.us.length a.q.cl) a.q.us::MpK keyS a.gm (placeP (a.q.ts.map (·.2)) 0)::M::KBox a.gb a.gk s.keys::Jrn a.gk k s.keys::Disk k (kDisk s.keys 1048576)::R) e a.gj d s.recs.length (diskS s.jb s.jb.length) rec (.slice adr rec.length cr) (diskS_ok zo (Nat.le_refl _)) (RdSl.own .zero) zo (by
  have:s.recs.length≤s.jb.length:=by
   have:=hjl;unfold LSt.jb;exact Nat.le_trans (by simp) (lay_cnt (s.recs.map encR))
  omega)
 rw [p1,p2,p3] at hja
 (repeat' first|refine Za ?_|refine Zb ?_|apply Zc|apply Zd|apply Ze|apply Zf|refine Zg ?_|refine Zh ?_|refine Zi ?_|refine Zj ?_|refine Zk ?_|refine Zl ?_|refine Zm ?_|refine Zn ?_|refine Zo ?_|refine Zq ?_|refine Zs ?_|refine Zt ?_|refine Zu ?_|refine Zy ?_|refine Zz ?_|refine ZG ?_|refine ZH ?_|refine ZI (fun _=>?_) fun _=>?_|refine ZM ?_|refine ZN ?_|refine ZO (fun _=>?_) fun _=>?_|refine ZP ?_|refine ZQ ?_|refine ZU ?_|refine ZV ?_|refine ZY ?_|refine ZZ ?_|refine Z6 ?_|refine Z7 ?_|refine Z8 ?_|refine Yf ?_|refine Ym ?_|refine Yz ?_|refine YA ?_|apply YC|apply YE|apply YF|refine YN ?_|refine YP ?_|(apply O.loadAggB;exact rfl;exact zP;(first|(simp only [Nat.zero_add,Nat.add_zero,Nat.reduceAdd,List.drop_succ_cons,List.drop_zero,List.take_succ_cons,List.take_zero];done)|(simp only [Nat.zero_add,Nat.add_zero,Nat.reduceAdd,List.drop_succ_cons,List.drop_zero,List.take_succ_cons,List.take_zero];exact rfl));exact rfl;exact rfl))
 refine O.callV (us:=[pt a.gj]) (ws:=[]) rfl rfl rfl (hja.ent zE) ?_;rintro _ _ ⟨rfl,rfl⟩;refine wB ?_
 have hnd:(a.q.ts.map (·.2)++fs.map (·.2)).Nodup:=by
  rw [ha.items,hfr];exact freshP_nodup (by rw [List.append_nil];exact ha.st.nodup)
 have hlp:=lput_spec (OwnT (.slice af fs.length cf) fs::M::OwnN (.slice ao outs.length co) outs::Jrn a.gj d (s.recs.length+1)::Disk d (disk0 (s.jb++recP rec))::KBox a.gb a.gk s.keys::Jrn a.gk k s.keys::Disk k (kDisk s.keys 1048576)::R) e g (pt a.gj) (pt a.gb) a.vs a.vp a.gm (.int .i64 (s.lastV.chk.size:Int)) a.ur (.int .i64 (s.lastV.sig.idx:Int)) a.up a.uq (.bool s.last.isSome) a.q (.slice af fs.length cf) fs (RdSl.own .zero) (fun x hx=>(ht x (hS.sub x hx)).ent zE) hnd zo zo hfs;refine O.call rfl rfl (hlp.ent zE) ?_;rintro _ _ ⟨rfl,q2,ts',us',hq1,hq2,hq3,hq4,rfl⟩;have hitems:(s.add (ls.map (·.2))).items=s.items++fs.map (·.2):=by rw [hai,hfr]
 obtain ⟨a2,ha2⟩:∃ a2:LMem,a2={ a with q:=q2 }:=⟨_,rfl⟩
 obtain ⟨M2,hM2⟩:∃ M2:Res,M2=All [M,Items ts',Items us']:=⟨_,rfl⟩
 have hall:Ent [M2] [M]:=by rw [hM2];exact Ent.trans (all_out (M:=[M,Items ts',Items us']) (L:=[])) (Ent.cons Ent.nil)
 have hall2:Ent [M2] [Items ts']:=by rw [hM2];exact Ent.trans (all_out (M:=[M,Items ts',Items us']) (L:=[])) (Ent.drop (Ent.cons Ent.nil))
 have hall3:Ent [M2] [Items us']:=by rw [hM2];exact Ent.trans (all_out (M:=[M,Items ts',Items us']) (L:=[])) (Ent.drop (Ent.drop (Ent.cons Ent.nil)))
 have hok:a2.ok M2 seed (s.add (ls.map (·.2))):=by
  rw [ha2];refine ⟨ha.rseed.ent hall,?_,?_,?_,?_,?_,⟨?_,?_,?_,?_,?_,?_⟩,ha.sd⟩
  ·rw [hitems]
   show q2.ts.map (·.2)=_
   rw [hq1,List.map_append,ha.items,hq3]
  ·intro x hx;rw [show (LMem.q { a with q:=q2 }).ts=q2.ts from rfl,hq1] at hx
   rcases List.mem_append.1 hx with hx|hx
   ·exact (ha.txts x hx).ent hall
   ·exact (items_rd (R:=[]) x hx).ent hall2
  ·rw [hitems]
   show q2.us.map (·.2)=_
   rw [hq2,List.map_append,ha.leaves,hq4,List.map_append]
  ·intro x hx;rw [show (LMem.q { a with q:=q2 }).us=q2.us from rfl,hq2] at hx
   rcases List.mem_append.1 hx with hx|hx
   ·exact (ha.txtl x hx).ent hall
   ·exact (items_rd (R:=[]) x hx).ent hall3
  ·rw [hadd];exact ha.last.ent hall
  ·rw [hadd];intro r hr;rcases List.mem_append.1 hr with hr|hr
   ·exact ha.st.full r hr
   ·rw [List.mem_singleton.1 hr];exact fun q=>h0 (List.map_eq_nil_iff.1 q)
  ·rw [hitems,← ha.items];exact hnd
  ·rw [hitems,List.length_append,List.length_map];omega
  ·rw [hitems];intro b hb';rcases List.mem_append.1 hb' with hb'|hb'
   ·exact ha.st.short b hb'
   ·obtain ⟨x,hx,rfl⟩:=List.mem_map.1 hb';exact hfs x hx
  ·rw [hadd];exact ha.st.keys
  ·rw [hitems];intro x hx;rw [hadd] at hx
   obtain ⟨y1,y2,y3⟩:=ha.st.last x hx;exact ⟨y1,y2,by rw [List.length_append];omega⟩
 have hrl:(s.add (ls.map (·.2))).recs.length=s.recs.length+1:=by rw [hadd];simp
 have hjb:(s.add (ls.map (·.2))).jb=s.jb++recP rec:=by
  rw [hadd];unfold LSt.jb;rw [List.map_append,List.map_cons,List.map_nil,layP_snoc,hrec]
 have hkk:(s.add (ls.map (·.2))).keys=s.keys:=by rw [hadd]
 have hll:(s.add (ls.map (·.2))).last=s.last:=by rw [hadd]
 have hlv:(s.add (ls.map (·.2))).lastV=s.lastV:=by unfold LSt.lastV;rw [hll]
 refine wB ?_;refine Fin.ret (OwnN (.slice ao outs.length co) outs::LedgerR g d k seed (s.add (ls.map (·.2)))::R) rfl (Ent.trans ?_ (Ent.cons (led_in hok))) ⟨ao,co,outs,rfl,houts,rfl⟩;unfold ledM LMem.cells;rw [hrl,hjb,hkk,hll,hlv,ha2,hM2];exact Ent.trans (show Ent _ (M::Items ts'::Items us'::OwnN (.slice ao outs.length co) outs::Blk g (lputC (pt a.gj) (pt a.gb) a.vs a.vp a.gm [.int .i64 (s.lastV.chk.size:Int),a.ur,.int .i64 (s.lastV.sig.idx:Int),a.up,a.uq,.bool s.last.isSome] q2) tLdg (0,0)::OwnT (.slice q2.ai q2.ts.length q2.ci) q2.ts::OwnT (.slice q2.al q2.us.length q2.cl) q2.us::MpK keyS a.gm (placeP (q2.ts.map (·.2)) 0)::Jrn a.gj d (s.recs.length+1)::Disk d (disk0 (s.jb++recP rec))::KBox a.gb a.gk s.keys::Jrn a.gk k s.keys::Disk k (kDisk s.keys 1048576)::R) from zE) (Ent.trans (all_in (M:=[M,Items ts',Items us'])) zE)
theorem lOpen_spec (d k:Nat) (v:Value) (seed:Bts) (s:LSt) (hv:RdB R v seed) (hsd:seed.length=32) (hs:s.ok) :
 Ct prog 12 #[pt d,pt k,v] e (Disk d (disk0 s.jb)::Disk k (kDisk s.keys 1048576)::R) (fun v' L'=>∃ g,v'=.tuple #[pt g,.int .i64 0]∧L'=LedgerR g d k seed { s with last:=none }::R):=by
 have hjl:=LSt.jb_len hs;have hsz:=hs.size;have hsk:=hs.keys;refine Ct.of_sep (RdSl.shape (hv.ent (show Ent (Disk d (disk0 s.jb)::Disk k (kDisk s.keys 1048576)::R) R from zE)) zo) ?_;rintro ⟨⟨ad,cap,rfl,h3,h4,h5,h6⟩,_⟩
 have hrsz:∀ m∈s.recs.map encR,m.length≤65535:=fun m hm=>by
  obtain ⟨r,hr,rfl⟩:=List.mem_map.1 hm;have h1:=encR_len (l:=r) (fun b hb=>hs.short b (List.mem_flatten.2 ⟨r,hr,hb⟩))
  have h2:r.length≤s.items.length:=by
   obtain ⟨A,B,h⟩:=List.append_of_mem hr;unfold LSt.items;rw [h]
   simp
   omega
  omega
 have hop:=openP_all (s.recs.map encR) hrsz;refine Ct.enter (args:=[_,_,_]) func12 rfl ntmps12 results12 rfl ?_;refine wB ?_;refine O.call rfl rfl (Ct.at (.succ .zero) (kopenD_spec _ e k s.keys 1048576 hsk zo zo)) ?_;rintro _ _ ⟨gb,gk,rfl,rfl⟩;refine wB ?_;refine O.call rfl rfl (Ct.at (.succ (.succ (.succ .zero))) (jopen0_spec _ e d s.jb zo)) ?_;rintro _ _ (⟨h1,-⟩|⟨-,gj,adr,cr,ts,rfl,hts,rfl⟩)
 ·rw [show openP s.jb=openP (layP (s.recs.map encR)) from rfl,hop] at h1;cases h1
 rw [show openP s.jb=openP (layP (s.recs.map encR)) from rfl,hop] at hts ⊢
 rw [show s.jb.take (layP (s.recs.map encR)).length=s.jb from List.take_length];dsimp only at hts
 have htl:ts.length=s.recs.length:=by have:=congrArg List.length hts;rw [List.length_map,List.length_map] at this;exact this
 refine wB ?_;refine O.call rfl rfl (clone_spec _ e _ seed (hv.ent zE) zo) ?_;rintro _ _ ⟨ads,cs,rfl,rfl⟩
 (repeat (refine wA ?_;intros))
 refine O.call rfl rfl (sPublic_spec _ e _ seed (hv.ent zE) hsd) ?_;rintro vp _ ⟨Mp,rfl,hMp⟩;refine O.of_sep (RdSl.shape (hMp.ent (one_in zP)) zo) ?_;rintro ⟨⟨adp,cp,rfl,-,-,-,-⟩,_⟩
 (repeat' first|refine Za ?_|refine Zb ?_|apply Zc|apply Zd|apply Ze|apply Zf|refine Zi ?_|refine Zj ?_|refine Zk ?_|refine Zl ?_|refine Zm ?_|refine Zn ?_|refine Zo ?_|refine Zu ?_|refine Zy ?_|refine Zz ?_|refine ZA ?_|refine ZB ?_|refine ZC (fun _=>?_) fun _=>?_|refine ZP ?_|refine ZQ ?_|refine ZS ?_|refine Ye ?_|refine Yg fun _=>?_|refine Ym ?_|refine Yw ?_|refine Yx ?_|refine Yy ?_|refine Yz ?_|refine YA ?_|apply YB|apply YC|apply YD|apply YE|apply YF|apply YG|apply YH|apply YI|apply YJ|refine YK ?_|refine YN ?_|(apply O.loadAggB;exact rfl;exact zP;(first|(simp only [Nat.zero_add,Nat.add_zero,Nat.reduceAdd,List.drop_succ_cons,List.drop_zero,List.take_succ_cons,List.take_zero];done)|(simp only [Nat.zero_add,Nat.add_zero,Nat.reduceAdd,List.drop_succ_cons,List.drop_zero,List.take_succ_cons,List.take_zero];exact rfl));exact rfl;exact rfl))
 refine O.do (Do.makeMapK keyS rfl fun gm=>?_)
 (repeat (refine wA ?_;intros))
 rename_i g0;refine W.loop (ι:=Nat × LPut) (fun i=>[(12,pt g0),(46,.slice adr ts.length cr),(47,.int .i64 (ts.length:Int)),(48,.int .i64 (i.1:Int))]) (fun i=>lputM g0 (pt gj) (pt gb) (.slice ads seed.length cs) (.slice adp (pubP seed).length cp) gm [.int .i64 0,nY,.int .i64 0,nY,nY,.bool false] i.2 (Items i.2.ts::Items i.2.us::Items ts::OwnT (.slice adr ts.length cr) ts::OwnB (.slice ads seed.length cs) seed::Mp::Jrn gj d ts.length::Disk d (disk0 s.jb)::KBox gb gk s.keys::Jrn gk k s.keys::Disk k (kDisk s.keys 1048576)::R)) (fun i=>i.1≤ts.length∧i.2.ts.map (·.2)=(s.recs.take i.1).flatten∧i.2.us.map (·.2)=(s.recs.take i.1).flatten.map leafP) (fun i=>ts.length - i.1) (0,⟨[],[],none,0,none,0⟩) ⟨Nat.zero_le _,by simp,by simp⟩ zS (Ent.trans (items_nil) (Ent.trans items_nil (Ent.trans (own_nil tTxts 1) (Ent.trans (own_nil tTxts 1) zE)))) ?_;rintro ⟨i,q⟩ ⟨hi,hq1,hq2⟩;dsimp only at hi hq1 hq2 ⊢
 by_cases hlt:i<ts.length
 rotate_left
 ·rw [List.take_of_length_le zo] at hq1 hq2
  obtain ⟨M,hM⟩:∃ M:Res,M=All [Items q.ts,Items q.us,OwnB (.slice ads seed.length cs) seed,Mp]:=⟨_,rfl⟩
  have f1:Ent [M] [Items q.ts]:=by rw [hM];exact Ent.trans (all_out (M:=[_,_,_,_]) (L:=[])) (Ent.cons Ent.nil)
  have f2:Ent [M] [Items q.us]:=by rw [hM];exact Ent.trans (all_out (M:=[_,_,_,_]) (L:=[])) (Ent.drop (Ent.cons Ent.nil))
  have f3:Ent [M] [OwnB (.slice ads seed.length cs) seed]:=by rw [hM];exact Ent.trans (all_out (M:=[_,_,_,_]) (L:=[])) (Ent.drop (Ent.drop (Ent.cons Ent.nil)))
  have hok:LMem.ok ⟨gj,gb,gk,gm,.slice ads seed.length cs,.slice adp (pubP seed).length cp,q,nY,nY,nY⟩ M seed { s with last:=none } :=
   ⟨RdSl.ent (RdSl.own .zero) f3,hq1,fun x hx=>(items_rd (R:=[]) x hx).ent f1,hq2,fun x hx=>(items_rd (R:=[]) x hx).ent f2,⟨RdSl.nil _ _,⟨⟨[],rfl,RdSl.nil _ _,fun x hx=>by cases hx⟩,⟨[],rfl,RdSl.nil _ _,fun x hx=>by cases hx⟩,⟨by show (0:Nat)<_;decide,by show (0:Nat)≤_;decide,by show (0:Nat)≤_;decide⟩⟩,⟨by show (0:Nat)<_;decide,by show (0:Nat)≤_;decide⟩⟩,⟨hs.full,hs.nodup,hs.size,hs.short,hs.keys,fun x hx=>by cases hx⟩,hsd⟩
  refine wB ?_;refine Fin.ret (LedgerR g0 d k seed { s with last:=none }::R) rfl (Ent.trans ?_ (led_in hok)) ⟨g0,rfl,rfl⟩;rw [hM,htl];exact Ent.trans (show Ent _ (Items q.ts::Items q.us::OwnB (.slice ads seed.length cs) seed::Mp::lputM g0 (pt gj) (pt gb) (.slice ads seed.length cs) (.slice adp (pubP seed).length cp) gm [.int .i64 0,nY,.int .i64 0,nY,nY,.bool false] q (Jrn gj d s.recs.length::Disk d (disk0 s.jb)::KBox gb gk s.keys::Jrn gk k s.keys::Disk k (kDisk s.keys 1048576)::R)) from zE) (Ent.trans (all_in (M:=[_,_,_,_])) zE)
 have hlr:i<s.recs.length:=by omega
 have hti:(ts[i]'hlt).2=encR (s.recs[i]'hlr):=by
  have:=congrArg (fun l=>l[i]?) hts;simp only [List.getElem?_map,List.getElem?_eq_getElem hlt,List.getElem?_eq_getElem hlr,Option.map_some,Option.some.injEq] at this
  exact this
 have hri:(s.recs[i]'hlr)∈s.recs:=List.getElem_mem hlr
 have hsp:s.items=(s.recs.take i).flatten++((s.recs[i]'hlr)++(s.recs.drop (i+1)).flatten):=by
  unfold LSt.items
  conv=>lhs;rw [← List.take_append_drop i s.recs,List.drop_eq_getElem_cons hlr]
  rw [List.flatten_append,List.flatten_cons]
 have htk:(s.recs.take (i+1)).flatten=(s.recs.take i).flatten++(s.recs[i]'hlr):=by
  rw [List.take_succ_eq_append_getElem hlr,List.flatten_append,List.flatten_cons,List.flatten_nil,List.append_nil]
 have hne:=hs.full _ hri;have hsh:∀ b∈(s.recs[i]'hlr),b.length≤200:=fun b hb=>hs.short b (List.mem_flatten.2 ⟨_,hri,hb⟩)
 have hnd:=hs.nodup;rw [hsp,← List.append_assoc] at hnd
 have hnd2:=(List.nodup_append.1 hnd).1
 have hln:(s.recs.take i).flatten.length+(s.recs[i]'hlr).length≤256:=by
  rw [hsp,List.length_append,List.length_append] at hsz
  omega
 have hql:q.ts.length=(s.recs.take i).flatten.length:=by have:=congrArg List.length hq1;rwa [List.length_map] at this
 have hqu:q.us.length=(s.recs.take i).flatten.length:=by have:=congrArg List.length hq2;rwa [List.length_map,List.length_map] at this
 generalize s.recs[i]'hlr=rc at *
 refine W.of_sep ((RdSl.own (show Pull _ (OwnT (.slice adr ts.length cr) ts) _ from zP)).shape zo) ?_;rintro ⟨⟨ad',c',hv',h3',h4',h5',h6'⟩,_⟩
 cases hv'
 simp only [maxLen] at h4'
 rcases h6' with h6'|⟨gl,ol,rfl⟩
 ·omega
 have hrd:∀ L R',Pull L (OwnT (.slice (some ⟨gl,ol,none⟩) ts.length cr) ts) R'→Rd L ⟨gl,ol+i,none⟩ (ts[i]'hlt).1:=fun L R' p=>(RdSl.own p).elem (by rw [List.getElem?_map,List.getElem?_eq_getElem hlt];rfl)
 have hit:∀ L R',Pull L (Items ts) R'→RdB L (ts[i]'hlt).1 (ts[i]'hlt).2:=fun L R' p=>Txts.pull p _ (List.getElem_mem hlt)
 generalize ts[i]'hlt=y at *
 obtain ⟨yv,b⟩:=y;dsimp only at hrd hit hti
 subst hti;refine wB ?_;refine O.load rfl (hrd _ _ zP) rfl ?_;refine wB ?_;refine O.call rfl rfl (batch_spec _ e yv rc (hit _ _ zP) hne zo hsh) ?_;rintro _ _ ⟨adb,cb,bt,rfl,hbt,rfl⟩;refine wB ?_;have hbl:bt.length=rc.length:=by rw [← hbt,List.length_map]
 have hlp:=lput_spec (OwnT (.slice adb bt.length cb) bt::Items bt::Items q.ts::Items q.us::Items ts::OwnT (.slice (some ⟨gl,ol,none⟩) ts.length cr) ts::OwnB (.slice ads seed.length cs) seed::Mp::Jrn gj d ts.length::Disk d (disk0 s.jb)::KBox gb gk s.keys::Jrn gk k s.keys::Disk k (kDisk s.keys 1048576)::R) e g0 (pt gj) (pt gb) (.slice ads seed.length cs) (.slice adp (pubP seed).length cp) gm (.int .i64 0) nY (.int .i64 0) nY nY (.bool false) q (.slice adb bt.length cb) bt (RdSl.own .zero) (Txts.pull (.succ .zero)) (by rw [hq1,hbt];exact hnd2) zo zo (fun x hx=>hsh _ (by rw [← hbt];exact List.mem_map.2 ⟨x,hx,rfl⟩));refine O.call rfl rfl (hlp.ent zE) ?_;rintro _ _ ⟨rfl,q2,ts',us',e1,e2,e3,e4,rfl⟩;refine wB ?_;refine Fin.round (i+1,q2) ⟨hlt,by dsimp only;rw [e1,List.map_append,hq1,e3,hbt,htk],by dsimp only;rw [e2,List.map_append,hq2,e4,hbt,htk,List.map_append]⟩ zd zS ?_;dsimp only
 have ex1:Ent (Items q.ts::Items ts'::Items q.us::Items us'::lputM g0 (pt gj) (pt gb) (.slice ads seed.length cs) (.slice adp (pubP seed).length cp) gm [.int .i64 0,nY,.int .i64 0,nY,nY,.bool false] q2 (Items ts::OwnT (.slice (some ⟨gl,ol,none⟩) ts.length cr) ts::OwnB (.slice ads seed.length cs) seed::Mp::Jrn gj d ts.length::Disk d (disk0 s.jb)::KBox gb gk s.keys::Jrn gk k s.keys::Disk k (kDisk s.keys 1048576)::R)) (Items q2.ts::Items q2.us::lputM g0 (pt gj) (pt gb) (.slice ads seed.length cs) (.slice adp (pubP seed).length cp) gm [.int .i64 0,nY,.int .i64 0,nY,nY,.bool false] q2 (Items ts::OwnT (.slice (some ⟨gl,ol,none⟩) ts.length cr) ts::OwnB (.slice ads seed.length cs) seed::Mp::Jrn gj d ts.length::Disk d (disk0 s.jb)::KBox gb gk s.keys::Jrn gk k s.keys::Disk k (kDisk s.keys 1048576)::R)):=by
  rw [show Items q2.ts=Items (q.ts++ts') by rw [e1],show Items q2.us=Items (q.us++us') by rw [e2]];exact Ent.trans items_append (Ent.cons items_append)
 exact Ent.trans (show Ent _ (Items q.ts::Items ts'::Items q.us::Items us'::lputM g0 (pt gj) (pt gb) (.slice ads seed.length cs) (.slice adp (pubP seed).length cp) gm [.int .i64 0,nY,.int .i64 0,nY,nY,.bool false] q2 (Items ts::OwnT (.slice (some ⟨gl,ol,none⟩) ts.length cr) ts::OwnB (.slice ads seed.length cs) seed::Mp::Jrn gj d ts.length::Disk d (disk0 s.jb)::KBox gb gk s.keys::Jrn gk k s.keys::Disk k (kDisk s.keys 1048576)::R)) from zE) (Ent.trans ex1 zE)
end Go.Proofs
namespace Go.Proofs
open Go.Bs
attribute [local irreducible] Bs.Val Bs.Do Bs.O Bs.W Bs.Fin Bs.A Bs.Ct Bs.RdSl Bs.Rd Bs.Sat Bs.Blk Bs.Ob Bs.Own Bs.View Bs.Ent Bs.Ex Bs.All Bs.Pu Bs.Base Bs.sepL Bs.RdA
open Tryz
variable (R:List Res) (e:World)
structure Itm where
 v:Value
 b:List UInt8
 at':Int
def Itm.cells (m:Itm):List Value:=[m.v,.int .i64 m.at']
def Itm.t (m:Itm):Txt:=(m.v,m.b)
abbrev tEnt:TypeId:=368
abbrev tTxts:TypeId:=30
theorem itm2 (m:Itm):m.cells.length=2:=rfl
theorem itm_ones {l:List Itm} (h:∀ m∈l,m.v.oneCell'=true):∀ c∈l.flatMap Itm.cells,c.oneCell'=true:=flatN_ones fun m hm c hc=>by
 simp only [Itm.cells,List.mem_cons,List.not_mem_nil,or_false] at hc
 rcases hc with rfl|rfl
 ·exact h m hm
 ·rfl
abbrev OwnE (v:Value) (l:List Itm):Res:=Own tEnt 2 v l.length (l.flatMap Itm.cells)
abbrev OwnT (v:Value) (l:List Txt):Res:=Own tTxts 1 v l.length (l.map (·.1))
def QueAt (g r s w:Nat) (l:List Itm) (ad:Option Addr) (c:Nat):Res:=All [Blk g [.int .i64 (r:Int),.int .i64 (s:Int),.int .i64 (w:Int),.slice ad l.length c] 370 (0,0),OwnE (.slice ad l.length c) l,Items (l.map Itm.t)]
def Que (g r s w:Nat) (l:List Itm):Res:=Ex fun ad=>Ex fun c=>QueAt g r s w l ad c
section
variable {g r s w:Nat} {l:List Itm} {R:List Res} {P:Program} {e:World}
theorem que_out {f:FuncId} {args:Array Value} {Post:Value→List Res→Prop}
 (h:∀ ad c,Ct P f args e (Blk g [.int .i64 (r:Int),.int .i64 (s:Int),.int .i64 (w:Int),.slice ad l.length c] 370 (0,0)::OwnE (.slice ad l.length c) l::Items (l.map Itm.t)::R) Post):Ct P f args e (Que g r s w l::R) Post :=
 Ct.ex .zero fun ad=>Ct.ex .zero fun c=>(h ad c).ent all_out
theorem que_in {c:Nat} {ad:Option Addr}:Ent (Blk g [.int .i64 (r:Int),.int .i64 (s:Int),.int .i64 (w:Int),.slice ad l.length c] 370 (0,0)::OwnE (.slice ad l.length c) l::Items (l.map Itm.t)::R) (Que g r s w l::R) :=
 Ent.trans (all_in (M:=[_,_,_])) (Ent.trans (ex_in (f:=fun c=>QueAt g r s w l ad c) c) (ex_in (f:=fun ad=>Ex fun c=>QueAt g r s w l ad c) ad))
theorem que_items:Ent (Que g r s w l::R) (Items (l.map Itm.t)::R):=ent_ex fun ad=>ent_ex fun c=>all_out.trans zE
end
theorem ownE_shape {v:Value} {l:List Itm} {L R:List Res} (p:Pull L (OwnE v l) R):∀ h,sepL L h→∃ ad c,v=.slice ad l.length c∧l.length≤c∧c≤maxLen∧((ad=none∧c=0∧l.length=0)∨∃ g,ad=some ⟨g,0,none⟩):=fun h x=>by
 obtain ⟨⟨ad,c,h1,h2,h3,h4⟩,_⟩:=own_shape p h x;exact ⟨ad,c,h1,h2,h3,h4⟩
theorem que_ones {g r s w:Nat} {l:List Itm} {R:List Res}:∀ h,sepL (Que g r s w l::R) h→∀ m∈l,m.v.oneCell'=true :=
 sep_ent (fun h x m hm=>RdB.one (items_rd (R:=R) m.t (List.mem_map.2 ⟨m,hm,rfl⟩)) h x) que_items
theorem qnew_spec (r s w:Nat) (h:(1≤r∧r≤16)∧(1≤s∧s≤8)∧w≤1000) :
 Ct prog 279 #[.int .i64 r,.int .i64 s,.int .i64 w] e R (fun v' L'=>∃ g,v'=.tuple #[pt g,.int .i64 0]∧L'=Que g r s w []::R):=by
 refine Ct.enter (args:=[_,_,_]) func279 rfl ntmps279 results279 rfl ?_
 (repeat (refine wA ?_;intros))
 exact Fin.ret _ rfl ((Ent.cons ((own_nil tEnt 2).trans (Ent.cons items_nil))).trans (que_in (l:=[]))) ⟨_,rfl,rfl⟩
theorem qlen_spec (g r s w:Nat) (l:List Itm) :
 Ct prog 240 #[pt g] e (Que g r s w l::R) (fun v' L'=>v'=.int .i64 (l.length:Int)∧L'=Que g r s w l::R):=by
 refine que_out fun ad c=>?_
 refine Ct.enter (args:=[_]) func240 rfl ntmps240 results240 rfl ?_;refine wB ?_;exact Fin.ret _ rfl que_in ⟨rfl,rfl⟩
theorem bput_spec (g r s w:Nat) (l:List Itm) (v:Value) (b:List UInt8) (now:Int) (hr:RdB (Que g r s w l::R) v b) (hb:b.length≤140737488351232) (hl:l.length≤r+2000) (hn:r≤1000) :
 Ct prog 241 #[pt g,v,.int .i64 now] e (Que g r s w l::R)
  (fun v' L'=>(l.length<r∧v'=.int .i64 0∧∃ v2,L'=Que g r s w (l++[⟨v2,b,now⟩])::R)∨(¬ l.length<r∧v'=.int .i64 20∧L'=Que g r s w l::R)):=by
 refine Ct.of_sep (RdB.one hr) ?_;intro h1;refine que_out fun ad c=>?_
 refine Ct.enter (args:=[_,_,_]) func241 rfl ntmps241 results241 rfl ?_
 by_cases hlt:l.length<r
 ·have hrb:=hr.ent (que_in (R:=R) (g:=g) (r:=r) (s:=s) (w:=w) (l:=l) (ad:=ad) (c:=c))
  (repeat' first|refine Zb ?_|apply Zc|apply Zd|apply Ze|apply Zf|refine YA ?_|apply YC|(refine A.start (id:=1) [] mixed ?_;all_goals (refine tM 0 ?_);all_goals (refine tN 1 ?_);all_goals (refine tF 2 ?_);all_goals (refine tL 3 ?_);all_goals (refine tk 4 _ rfl (Val.len rfl) ?_);all_goals (refine tM 5 ?_);all_goals (refine tN 6 ?_);all_goals (refine tF 7 ?_);all_goals (refine tL 8 ?_);all_goals (first|refine tk 9 (.bool true) rfl (Val.yes (Val.geq rfl rfl) zy) ?_|refine tk 9 (.bool false) rfl (Val.no (Val.geq rfl rfl) zn) ?_);all_goals (refine A.done zK ?_)))
  refine A.begin (id:=3) [11,12,13] [Blk g [.int .i64 (r:Int),.int .i64 (s:Int),.int .i64 (w:Int),.slice ad l.length c] 370 (0,0)] mixed ?_;refine tM 0 ?_;refine tM 1 ?_;refine tN 2 ?_;refine tF 3 ?_;refine tL 4 ?_;refine tM 5 ?_;refine tM 7 ?_;refine tO 6 ?_;refine Do.call rfl rfl (clone_spec _ e _ b hrb zo) ?_;rintro _ _ ⟨ad2,c2,rfl,rfl⟩;refine ⟨fun _=>zE,?_⟩;refine tO 8 ?_;refine Do.val (Val.build (cells:=[.slice ad2 b.length c2,.int .i64 now]) rfl zF) rfl ⟨fun _=>zE,?_⟩;refine tO 9 ?_;refine Do.buildSlice (n:=2) rfl rfl rfl rfl zQ rfl (fun g2=>⟨fun _=>zE,?_⟩);refine tO 10 ?_;refine Do.append rfl rfl rfl zP (RdSl.blkN (n:=2) (c:=1) .zero rfl zl) rfl rfl zO zm zo fun ad3 c3 _=>⟨fun _=>zE,?_⟩
  ((refine tO 11 ?_;refine dV (Val.nilCheck rfl) ?_);(refine tO 12 ?_;refine dV (Val.fieldAddr rfl) ?_);(refine tO 13 ?_;refine zs1 ?_;refine ⟨zN,?_⟩))
  refine A.done zK ?_;refine wB ?_;refine Fin.ret (Que g r s w (l++[⟨.slice ad2 b.length c2,b,now⟩])::R) rfl (Ent.trans (show Ent _ (OwnB (.slice ad2 b.length c2) b::Items (l.map Itm.t)::Blk g [.int .i64 (r:Int),.int .i64 (s:Int),.int .i64 (w:Int),.slice ad3 (l.length+1) c3] 370 (0,0)::Own tEnt 2 (.slice ad3 (l.length+1) c3) (l.length+1) (l.flatMap Itm.cells++[.slice ad2 b.length c2,.int .i64 now])::R) from zE) (Ent.trans (items_own (a:=(.slice ad2 b.length c2,b))) (Ent.trans (Ent.pull (.succ .zero) Ent.rfl) ?_))) (.inl ⟨hlt,rfl,_,rfl⟩);refine Ent.trans items_append (Ent.trans ?_ (que_in (ad:=ad3) (c:=c3)));simp only [OwnE,List.length_append,List.length_singleton,List.flatMap_append,List.flatMap_cons,List.flatMap_nil,List.append_nil,List.map_append,List.map_cons,List.map_nil];exact zE
 ·(repeat' first|refine Zb ?_|apply Zc|apply Zd|apply Ze|apply Zf|refine Yz ?_|apply YE|apply YF|(refine A.start (id:=1) [] mixed ?_;all_goals (refine tM 0 ?_);all_goals (refine tN 1 ?_);all_goals (refine tF 2 ?_);all_goals (refine tL 3 ?_);all_goals (refine tk 4 _ rfl (Val.len rfl) ?_);all_goals (refine tM 5 ?_);all_goals (refine tN 6 ?_);all_goals (refine tF 7 ?_);all_goals (refine tL 8 ?_);all_goals (first|refine tk 9 (.bool true) rfl (Val.yes (Val.geq rfl rfl) zy) ?_|refine tk 9 (.bool false) rfl (Val.no (Val.geq rfl rfl) zn) ?_);all_goals (refine A.done zK ?_)))
  exact Fin.ret _ rfl que_in (.inr ⟨hlt,rfl,rfl⟩)
def due (l:List Itm) (s w:Nat) (now:Int):Bool:=match l with
 | []=>false
 | i::_=>decide (s≤l.length∨i.at' = -9223372036854775808∨(i.at'≤now∧(w:Int)≤now - i.at'))
theorem u64_diff {a b:Int} (ha:-9223372036854775808≤a∧a≤9223372036854775807) (hb:-9223372036854775808≤b∧b≤9223372036854775807) (h:a≤b):IntKind.u64.wrap (IntKind.u64.wrap b - IntKind.u64.wrap a)=b - a:=by
 unfold IntKind.wrap;simp only [IntKind.bits,IntKind.signed]
 simp
 omega
theorem u64_nat {w:Nat} (h:w≤1000):IntKind.u64.wrap (w:Int)=w:=by
 unfold IntKind.wrap;simp only [IntKind.bits,IntKind.signed]
 simp
 omega
theorem bdue_spec (g r s w:Nat) (l:List Itm) (now:Int) (hw:w≤1000) (hl:l.length≤100000) (hs:s≤1000) (hn:-9223372036854775808≤now∧now≤9223372036854775807) (ha:∀ m∈l,-9223372036854775808≤m.at'∧m.at'≤9223372036854775807) :
 Ct prog 242 #[pt g,.int .i64 now] e (Que g r s w l::R) (fun v' L'=>v'=.bool (due l s w now)∧L'=Que g r s w l::R):=by
 refine que_out fun ad c=>?_
 refine Ct.of_sep (ownE_shape (.succ .zero)) ?_;rintro ⟨_,_,hv,hc,hm,hg⟩
 cases hv
 refine Ct.enter (args:=[_,_]) func242 rfl ntmps242 results242 rfl ?_
 cases l with
 | nil =>
  have h0:((([]:List Itm).length:Nat):Int)=0:=rfl;refine wB ?_;exact Fin.ret _ rfl que_in ⟨rfl,rfl⟩
 | cons i l =>
  have hlen:((i::l).length:Int)=l.length+1:=by simp
  have hlen2:(i::l).length=l.length+1:=by simp
  rcases hg with ⟨_,_,h0⟩|⟨g1,rfl⟩
  ·simp at h0
  have hi:=ha i (List.mem_cons_self ..);have q1:Rd (OwnE (.slice (some ⟨g1,0,none⟩) (i::l).length c) (i::l)::Items ((i::l).map Itm.t)::R) ⟨g1,0+0*2+1,none⟩ (.int .i64 i.at'):=(RdA.elem (RdSl.own .zero) itm2 (j:=0) rfl).at0 rfl;have hd:due (i::l) s w now=decide (s≤(i::l).length∨i.at' = -9223372036854775808∨(i.at'≤now∧(w:Int)≤now - i.at')):=rfl;rw [hd]
  by_cases h1:s≤(i::l).length
  ·(repeat' first|refine Za ?_|refine Zb ?_|apply Zc|apply Zd|apply Ze|apply Zf|refine Zg ?_|refine Zh ?_|refine Zi ?_|refine Zk ?_|refine ZN ?_|refine Yz ?_|refine YA ?_|apply YB|apply YE|apply YF|apply YI|(refine A.start (id:=3) [] mixed ?_;all_goals (refine tM 0 ?_);all_goals (refine tN 1 ?_);all_goals (refine tF 2 ?_);all_goals (refine tL 3 ?_);all_goals (refine tk 4 _ rfl (Val.len rfl) ?_);all_goals (refine tM 5 ?_);all_goals (refine tN 6 ?_);all_goals (refine tF 7 ?_);all_goals (refine tL 8 ?_);all_goals (first|refine tk 9 (.bool true) rfl (Val.yes (Val.geq rfl rfl) zy) ?_|refine tk 9 (.bool false) rfl (Val.no (Val.geq rfl rfl) zn) ?_);all_goals (refine tM 10 ?_);all_goals (first|refine tkG 11 _ rfl (Val.move rfl) ?_|refine A.takeN 11 rfl rfl zK Ent.rfl rfl ?_);all_goals (first|refine tkG 12 _ rfl (Val.nilCheck rfl) ?_|refine A.takeN 12 rfl rfl zK Ent.rfl rfl ?_);all_goals (first|refine tkG 13 _ rfl (Val.fieldAddr rfl) ?_|refine A.takeN 13 rfl rfl zK Ent.rfl rfl ?_);all_goals (first|refine tkG 14 _ rfl (Val.load rfl zR) ?_|refine A.takeN 14 rfl rfl zK Ent.rfl rfl ?_);all_goals (first|refine tkG 15 _ rfl (Val.indexAddr rfl rfl zo zo) ?_|refine A.takeN 15 rfl rfl zK Ent.rfl rfl ?_);all_goals (first|refine tkG 16 _ rfl (Val.fieldAddr rfl) ?_|refine A.takeN 16 rfl rfl zK Ent.rfl rfl ?_);all_goals (first|refine tkG 17 _ rfl (Val.load rfl zR) ?_|refine A.takeN 17 rfl rfl zK Ent.rfl rfl ?_);all_goals (first|refine tkG 18 (.bool true) rfl (Val.yes (Val.eql rfl rfl) zy) ?_|refine tkG 18 (.bool false) rfl (Val.no (Val.eql rfl rfl) zn) ?_|refine A.takeN 18 rfl rfl zK Ent.rfl rfl ?_);all_goals (first|refine tk 19 _ rfl (Val.pick_t rfl rfl) ?_|refine tk 19 _ rfl (Val.pick_f rfl rfl) ?_);all_goals (refine tA 20 ?_);all_goals (refine A.done zK ?_)))
   exact Fin.ret _ rfl que_in ⟨by rw [decide_eq_true zo];rfl,rfl⟩
  ·by_cases h2:i.at' = -9223372036854775808
   ·(repeat' first|refine Za ?_|refine Zb ?_|apply Zc|apply Zd|apply Ze|apply Zf|refine Zg ?_|refine Zh ?_|refine Zi ?_|refine Zk ?_|refine ZN ?_|refine Yz ?_|refine YA ?_|apply YB|apply YE|apply YF|apply YI|(refine A.start (id:=3) [] mixed ?_;all_goals (refine tM 0 ?_);all_goals (refine tN 1 ?_);all_goals (refine tF 2 ?_);all_goals (refine tL 3 ?_);all_goals (refine tk 4 _ rfl (Val.len rfl) ?_);all_goals (refine tM 5 ?_);all_goals (refine tN 6 ?_);all_goals (refine tF 7 ?_);all_goals (refine tL 8 ?_);all_goals (first|refine tk 9 (.bool true) rfl (Val.yes (Val.geq rfl rfl) zy) ?_|refine tk 9 (.bool false) rfl (Val.no (Val.geq rfl rfl) zn) ?_);all_goals (refine tM 10 ?_);all_goals (first|refine tkG 11 _ rfl (Val.move rfl) ?_|refine A.takeN 11 rfl rfl zK Ent.rfl rfl ?_);all_goals (first|refine tkG 12 _ rfl (Val.nilCheck rfl) ?_|refine A.takeN 12 rfl rfl zK Ent.rfl rfl ?_);all_goals (first|refine tkG 13 _ rfl (Val.fieldAddr rfl) ?_|refine A.takeN 13 rfl rfl zK Ent.rfl rfl ?_);all_goals (first|refine tkG 14 _ rfl (Val.load rfl zR) ?_|refine A.takeN 14 rfl rfl zK Ent.rfl rfl ?_);all_goals (first|refine tkG 15 _ rfl (Val.indexAddr rfl rfl zo zo) ?_|refine A.takeN 15 rfl rfl zK Ent.rfl rfl ?_);all_goals (first|refine tkG 16 _ rfl (Val.fieldAddr rfl) ?_|refine A.takeN 16 rfl rfl zK Ent.rfl rfl ?_);all_goals (first|refine tkG 17 _ rfl (Val.load rfl zR) ?_|refine A.takeN 17 rfl rfl zK Ent.rfl rfl ?_);all_goals (first|refine tkG 18 (.bool true) rfl (Val.yes (Val.eql rfl rfl) zy) ?_|refine tkG 18 (.bool false) rfl (Val.no (Val.eql rfl rfl) zn) ?_|refine A.takeN 18 rfl rfl zK Ent.rfl rfl ?_);all_goals (first|refine tk 19 _ rfl (Val.pick_t rfl rfl) ?_|refine tk 19 _ rfl (Val.pick_f rfl rfl) ?_);all_goals (refine tA 20 ?_);all_goals (refine A.done zK ?_)))
    exact Fin.ret _ rfl que_in ⟨by rw [decide_eq_true zo];rfl,rfl⟩
   ·by_cases h3:i.at'≤now
    ·have h5:=u64_diff hi hn h3;have h6:=u64_nat hw
     by_cases h4:(w:Int)≤now - i.at'
     ·(repeat' first|refine Za ?_|refine Zb ?_|apply Zc|apply Zd|apply Ze|apply Zf|refine Zg ?_|refine Zh ?_|refine Zi ?_|refine Zk ?_|refine Zl ?_|refine Zn ?_|refine ZJ ?_|refine ZN ?_|refine ZV ?_|refine ZZ ?_|refine Yy ?_|refine YA ?_|apply YB|apply YC|apply YE|apply YH|(refine A.start (id:=3) [] mixed ?_;all_goals (refine tM 0 ?_);all_goals (refine tN 1 ?_);all_goals (refine tF 2 ?_);all_goals (refine tL 3 ?_);all_goals (refine tk 4 _ rfl (Val.len rfl) ?_);all_goals (refine tM 5 ?_);all_goals (refine tN 6 ?_);all_goals (refine tF 7 ?_);all_goals (refine tL 8 ?_);all_goals (first|refine tk 9 (.bool true) rfl (Val.yes (Val.geq rfl rfl) zy) ?_|refine tk 9 (.bool false) rfl (Val.no (Val.geq rfl rfl) zn) ?_);all_goals (refine tM 10 ?_);all_goals (first|refine tkG 11 _ rfl (Val.move rfl) ?_|refine A.takeN 11 rfl rfl zK Ent.rfl rfl ?_);all_goals (first|refine tkG 12 _ rfl (Val.nilCheck rfl) ?_|refine A.takeN 12 rfl rfl zK Ent.rfl rfl ?_);all_goals (first|refine tkG 13 _ rfl (Val.fieldAddr rfl) ?_|refine A.takeN 13 rfl rfl zK Ent.rfl rfl ?_);all_goals (first|refine tkG 14 _ rfl (Val.load rfl zR) ?_|refine A.takeN 14 rfl rfl zK Ent.rfl rfl ?_);all_goals (first|refine tkG 15 _ rfl (Val.indexAddr rfl rfl zo zo) ?_|refine A.takeN 15 rfl rfl zK Ent.rfl rfl ?_);all_goals (first|refine tkG 16 _ rfl (Val.fieldAddr rfl) ?_|refine A.takeN 16 rfl rfl zK Ent.rfl rfl ?_);all_goals (first|refine tkG 17 _ rfl (Val.load rfl zR) ?_|refine A.takeN 17 rfl rfl zK Ent.rfl rfl ?_);all_goals (first|refine tkG 18 (.bool true) rfl (Val.yes (Val.eql rfl rfl) zy) ?_|refine tkG 18 (.bool false) rfl (Val.no (Val.eql rfl rfl) zn) ?_|refine A.takeN 18 rfl rfl zK Ent.rfl rfl ?_);all_goals (first|refine tk 19 _ rfl (Val.pick_t rfl rfl) ?_|refine tk 19 _ rfl (Val.pick_f rfl rfl) ?_);all_goals (refine tA 20 ?_);all_goals (refine A.done zK ?_)))
      exact Fin.ret _ rfl que_in ⟨by rw [decide_eq_true zo];rfl,rfl⟩
     ·(repeat' first|refine Za ?_|refine Zb ?_|apply Zc|apply Zd|apply Ze|apply Zf|refine Zg ?_|refine Zh ?_|refine Zi ?_|refine Zk ?_|refine Zl ?_|refine Zn ?_|refine ZJ ?_|refine ZK ?_|refine ZN ?_|refine ZV ?_|refine ZZ ?_|refine Yy ?_|refine YA ?_|apply YB|apply YC|apply YE|apply YH|(refine A.start (id:=3) [] mixed ?_;all_goals (refine tM 0 ?_);all_goals (refine tN 1 ?_);all_goals (refine tF 2 ?_);all_goals (refine tL 3 ?_);all_goals (refine tk 4 _ rfl (Val.len rfl) ?_);all_goals (refine tM 5 ?_);all_goals (refine tN 6 ?_);all_goals (refine tF 7 ?_);all_goals (refine tL 8 ?_);all_goals (first|refine tk 9 (.bool true) rfl (Val.yes (Val.geq rfl rfl) zy) ?_|refine tk 9 (.bool false) rfl (Val.no (Val.geq rfl rfl) zn) ?_);all_goals (refine tM 10 ?_);all_goals (first|refine tkG 11 _ rfl (Val.move rfl) ?_|refine A.takeN 11 rfl rfl zK Ent.rfl rfl ?_);all_goals (first|refine tkG 12 _ rfl (Val.nilCheck rfl) ?_|refine A.takeN 12 rfl rfl zK Ent.rfl rfl ?_);all_goals (first|refine tkG 13 _ rfl (Val.fieldAddr rfl) ?_|refine A.takeN 13 rfl rfl zK Ent.rfl rfl ?_);all_goals (first|refine tkG 14 _ rfl (Val.load rfl zR) ?_|refine A.takeN 14 rfl rfl zK Ent.rfl rfl ?_);all_goals (first|refine tkG 15 _ rfl (Val.indexAddr rfl rfl zo zo) ?_|refine A.takeN 15 rfl rfl zK Ent.rfl rfl ?_);all_goals (first|refine tkG 16 _ rfl (Val.fieldAddr rfl) ?_|refine A.takeN 16 rfl rfl zK Ent.rfl rfl ?_);all_goals (first|refine tkG 17 _ rfl (Val.load rfl zR) ?_|refine A.takeN 17 rfl rfl zK Ent.rfl rfl ?_);all_goals (first|refine tkG 18 (.bool true) rfl (Val.yes (Val.eql rfl rfl) zy) ?_|refine tkG 18 (.bool false) rfl (Val.no (Val.eql rfl rfl) zn) ?_|refine A.takeN 18 rfl rfl zK Ent.rfl rfl ?_);all_goals (first|refine tk 19 _ rfl (Val.pick_t rfl rfl) ?_|refine tk 19 _ rfl (Val.pick_f rfl rfl) ?_);all_goals (refine tA 20 ?_);all_goals (refine A.done zK ?_)))
      exact Fin.ret _ rfl que_in ⟨by rw [decide_eq_false zo];rfl,rfl⟩
    ·(repeat' first|refine Za ?_|refine Zb ?_|apply Zc|apply Zd|apply Ze|apply Zf|refine Zg ?_|refine Zh ?_|refine Zi ?_|refine Zk ?_|refine Zm ?_|refine Zo ?_|refine ZK ?_|refine ZN ?_|refine Yy ?_|refine YA ?_|apply YB|apply YC|apply YE|apply YH|(refine A.start (id:=3) [] mixed ?_;all_goals (refine tM 0 ?_);all_goals (refine tN 1 ?_);all_goals (refine tF 2 ?_);all_goals (refine tL 3 ?_);all_goals (refine tk 4 _ rfl (Val.len rfl) ?_);all_goals (refine tM 5 ?_);all_goals (refine tN 6 ?_);all_goals (refine tF 7 ?_);all_goals (refine tL 8 ?_);all_goals (first|refine tk 9 (.bool true) rfl (Val.yes (Val.geq rfl rfl) zy) ?_|refine tk 9 (.bool false) rfl (Val.no (Val.geq rfl rfl) zn) ?_);all_goals (refine tM 10 ?_);all_goals (first|refine tkG 11 _ rfl (Val.move rfl) ?_|refine A.takeN 11 rfl rfl zK Ent.rfl rfl ?_);all_goals (first|refine tkG 12 _ rfl (Val.nilCheck rfl) ?_|refine A.takeN 12 rfl rfl zK Ent.rfl rfl ?_);all_goals (first|refine tkG 13 _ rfl (Val.fieldAddr rfl) ?_|refine A.takeN 13 rfl rfl zK Ent.rfl rfl ?_);all_goals (first|refine tkG 14 _ rfl (Val.load rfl zR) ?_|refine A.takeN 14 rfl rfl zK Ent.rfl rfl ?_);all_goals (first|refine tkG 15 _ rfl (Val.indexAddr rfl rfl zo zo) ?_|refine A.takeN 15 rfl rfl zK Ent.rfl rfl ?_);all_goals (first|refine tkG 16 _ rfl (Val.fieldAddr rfl) ?_|refine A.takeN 16 rfl rfl zK Ent.rfl rfl ?_);all_goals (first|refine tkG 17 _ rfl (Val.load rfl zR) ?_|refine A.takeN 17 rfl rfl zK Ent.rfl rfl ?_);all_goals (first|refine tkG 18 (.bool true) rfl (Val.yes (Val.eql rfl rfl) zy) ?_|refine tkG 18 (.bool false) rfl (Val.no (Val.eql rfl rfl) zn) ?_|refine A.takeN 18 rfl rfl zK Ent.rfl rfl ?_);all_goals (first|refine tk 19 _ rfl (Val.pick_t rfl rfl) ?_|refine tk 19 _ rfl (Val.pick_f rfl rfl) ?_);all_goals (refine tA 20 ?_);all_goals (refine A.done zK ?_)))
     exact Fin.ret _ rfl que_in ⟨by rw [decide_eq_false zo];rfl,rfl⟩
theorem bitems_spec (v:Value) (l:List Itm) (hv:RdSl R 2 v l.length (l.flatMap Itm.cells)) (ht:∀ m∈l,RdB R m.v m.b) (hb:∀ m∈l,m.b.length≤140737488351232) (hl:l.length≤100000) :
 Ct prog 283 #[v] e R (fun v' L'=>∃ (ad:Option Addr) (c:Nat) (ts:List Txt),v'=.slice ad ts.length c∧ts.map (·.2)=l.map Itm.b∧L'=OwnT (.slice ad ts.length c) ts::Items ts::R):=by
 refine Ct.of_sep (hv.shape zo) ?_;rintro ⟨⟨ad,cap,rfl,h3,h4,h5,h6⟩,_⟩;refine Ct.of_sep (fun h x m hm=>RdB.one (ht m hm) h x) ?_;intro hone;refine Ct.enter (args:=[_]) func283 rfl ntmps283 results283 rfl ?_;refine wB ?_;refine W.loop (ι:=List Txt × Option Addr × Nat) (fun i=>[(6,.slice ad l.length cap),(7,.int .i64 (l.length:Int)),(8,.int .i64 (i.1.length:Int)),(3,.slice i.2.1 i.1.length i.2.2)])
  (fun i=>OwnT (.slice i.2.1 i.1.length i.2.2) i.1::Items i.1::R) (fun i=>i.1.length≤l.length∧i.1.map (·.2)=(l.take i.1.length).map Itm.b) (fun i=>l.length - i.1.length) ([],none,0) ⟨Nat.zero_le _,rfl⟩
  (sub_cons rfl (sub_cons rfl (sub_cons rfl (sub_cons rfl sub_nil)))) ((own_nil tTxts 1).trans (Ent.cons items_nil)) ?_
 rintro ⟨out,ad2,c2⟩ ⟨hi,hd⟩;dsimp only at hi hd ⊢
 by_cases hlt:out.length<l.length
 ·rcases h6 with h6|⟨gl,ol,rfl⟩
  ·omega
  have hag:RdA R gl (ol+out.length*2) (l[out.length]'hlt).cells:=RdA.elem hv itm2 (List.getElem?_eq_getElem hlt);have hrd:=ht _ (List.getElem_mem hlt);have hb1:=hb _ (List.getElem_mem hlt);have h1:=hone _ (List.getElem_mem hlt)
  generalize hm2:l[out.length]'hlt=m at *
  obtain ⟨v,b,a⟩:=m;dsimp only at h1 hrd hb1
  simp only [Itm.cells] at hag
  (repeat (refine wA ?_;intros))
  refine O.call rfl rfl (clone_spec _ e _ b hrd.tail.tail.tail zo) ?_;rintro _ _ ⟨ad3,c3,rfl,rfl⟩
  (repeat (refine wA ?_;intros))
  refine O.do (Do.append rfl rfl rfl (.succ (.succ (.succ .zero))) (RdSl.blk .zero rfl zl) rfl rfl zO zm zo fun ad4 c4 _=>?_)
  refine wB ?_;refine Fin.round (out++[(.slice ad3 b.length c3,b)],ad4,c4) ⟨by simp;omega,?_⟩ (by simp;omega) ?_ ?_
  ·simp only [List.map_append,List.length_append,List.length_singleton,hd];rw [List.take_succ_eq_append_getElem hlt,hm2];simp only [List.map_append,List.map_cons,List.map_nil]
  ·simp only [List.length_append,List.length_singleton];exact sub_cons rfl (sub_cons rfl (sub_cons rfl (sub_cons rfl sub_nil)))
  ·refine Ent.trans (show Ent _ (OwnB (.slice ad3 b.length c3) b::Items out::Own tTxts 1 (.slice ad4 (out.length+1) c4) (out.length+1) (out.map (·.1)++[.slice ad3 b.length c3])::R) from zE) (Ent.trans (items_own (a:=(.slice ad3 b.length c3,b))) (Ent.trans (Ent.pull (.succ .zero) Ent.rfl) (Ent.trans items_append ?_)));simp only [OwnT,List.length_append,List.length_singleton,List.map_append,List.map_cons,List.map_nil];exact zE
 ·refine wB ?_;refine Fin.ret _ rfl Ent.rfl ⟨ad2,c2,out,rfl,?_,rfl⟩;rw [hd,List.take_of_length_le zo]
theorem cloneE_spec (v:Value) (l:List Itm) (h:RdSl R 2 v l.length (l.flatMap Itm.cells)) (h1:∀ m∈l,m.v.oneCell'=true) (hl:l.length≤100000) :
 Ct prog 284 #[v] e R (fun v' L'=>∃ ad c,v'=.slice ad l.length c∧L'=OwnE (.slice ad l.length c) l::R):=by
 refine Ct.of_sep (h.shape zo) ?_;rintro ⟨⟨ad,cap,rfl,h3,h4,h5,h6⟩,_⟩;refine Ct.enter (args:=[_]) func284 rfl ntmps284 results284 rfl ?_
 cases ad with
 | none =>
  have hl0:l=[]:=by
   have:=h5 rfl;exact List.eq_nil_of_length_eq_zero zo
  subst hl0;refine wB ?_;exact Fin.ret _ rfl (own_nil _ _) ⟨_,_,rfl,rfl⟩
 | some a =>
  (repeat (refine wA ?_;intros))
  refine O.ent1 (own_in (n:=2) (k:=0) (cap:=0) zo zl rfl) ?_;refine O.do (Do.append rfl rfl rfl .zero h rfl rfl (itm_ones h1) zm zo fun ad' c' hv'=>?_)
  refine wB ?_;refine Fin.ret _ rfl ?_ ⟨ad',c',by simp [tup],rfl⟩;simp only [Nat.zero_add];exact Ent.rfl
theorem qtake_spec (g r s w:Nat) (l:List Itm) (hb:∀ m∈l,m.b.length≤140737488351232) (hl:l.length≤100000) (hs:s≤1000) :
 Ct prog 243 #[pt g] e (Que g r s w l::R) (fun v' L'=>∃ (ad:Option Addr) (c:Nat) (ts:List Txt),v'=.slice ad ts.length c∧ts.map (·.2)=(l.take s).map Itm.b∧L'=OwnT (.slice ad ts.length c) ts::Items ts::Que g r s w (l.drop s)::R):=by
 refine Ct.of_sep que_ones ?_;intro hone;refine que_out fun ad c=>?_
 refine Ct.of_sep (ownE_shape (.succ .zero)) ?_;rintro ⟨_,_,hv,hc,hm,hg⟩
 cases hv
 refine Ct.enter (args:=[_]) func243 rfl ntmps243 results243 rfl ?_
 have hn:(if (l.length:Int)<(s:Int) then (l.length:Int) else (s:Int))=((min s l.length:Nat):Int):=by
  by_cases h:l.length<s
  ·rw [if_pos zo];omega
  ·rw [if_neg zo];omega
 have hle:min s l.length≤l.length:=Nat.min_le_right _ _;obtain ⟨n,hnn⟩:∃ n,n=min s l.length:=⟨_,rfl⟩
 rw [← hnn] at hn hle
 have et:l.take n=l.take s:=by
  rcases Nat.le_total s l.length with h|h
  ·rw [hnn,Nat.min_eq_left h]
  ·rw [hnn,Nat.min_eq_right h,List.take_of_length_le (Nat.le_refl _),List.take_of_length_le h]
 have ed:l.drop n=l.drop s:=by
  rcases Nat.le_total s l.length with h|h
  ·rw [hnn,Nat.min_eq_left h]
  ·rw [hnn,Nat.min_eq_right h,List.drop_of_length_le (Nat.le_refl _),List.drop_of_length_le h]
 have lt:(l.take n).length=n:=by rw [List.length_take];omega
 have ld:(l.drop n).length=l.length - n:=by rw [List.length_drop]
 have rT:∀ L',RdSl (OwnE (.slice ad l.length c) l::L') 2 (.slice ad ((n:Int).toNat) c) (l.take n).length ((l.take n).flatMap Itm.cells):=fun L'=>by
  have:=RdSl.cutHi (RdSl.own (L:=OwnE (.slice ad l.length c) l::L') .zero) (hi:=n) hle;rw [flatN_take itm2] at this
  rw [lt];exact this
 have rD:∀ L',RdSl (OwnE (.slice ad l.length c) l::L') 2 (.slice (cutAt ad c ((n:Int).toNat) 2) (l.length - ((n:Int).toNat)) (c - ((n:Int).toNat))) (l.drop n).length ((l.drop n).flatMap Itm.cells):=fun L'=>by
  have:=RdSl.cutLo (RdSl.own (L:=OwnE (.slice ad l.length c) l::L') .zero) (lo:=n) hle;rw [flatN_drop itm2] at this
  rw [ld];exact this
 (repeat' first|refine Za ?_|refine Zb ?_|apply Zc|apply Zd|apply Ze|apply Zf|refine Zg ?_|refine Zh ?_|refine Zi ?_|refine Yr ?_|(refine A.start (id:=1) [10] mixed ?_;all_goals (refine tM 0 ?_);all_goals (refine tN 1 ?_);all_goals (refine tF 2 ?_);all_goals (refine tL 3 ?_);all_goals (refine tM 4 ?_);all_goals (refine tN 5 ?_);all_goals (refine tF 6 ?_);all_goals (refine tL 7 ?_);all_goals (refine tk 8 _ rfl (Val.len rfl) ?_);all_goals (refine tk 9 _ rfl (Val.min rfl rfl) ?_);all_goals ((refine tO 10 ?_;refine dV (Val.assign rfl) ?_));all_goals (refine A.done zK ?_)))
 rw [hn]
 (repeat' first|refine Za ?_|refine Zb ?_|apply Zc|apply Zd|apply Ze|apply Zf|refine Zg ?_|refine Zh ?_|refine Zi ?_|refine Zj ?_|refine Zk ?_|refine Yd ?_|refine Ym ?_|refine Yr ?_|refine Ys ?_|refine Yt ?_|apply YE|apply YF|refine YQ ?_|refine YR ?_|(apply O.loadAggB;exact rfl;exact zP;(first|(simp only [Nat.zero_add,Nat.add_zero,Nat.reduceAdd,List.drop_succ_cons,List.drop_zero,List.take_succ_cons,List.take_zero];done)|(simp only [Nat.zero_add,Nat.add_zero,Nat.reduceAdd,List.drop_succ_cons,List.drop_zero,List.take_succ_cons,List.take_zero];exact rfl));exact rfl;exact rfl)|(refine A.start (id:=1) [10] mixed ?_;all_goals (refine tM 0 ?_);all_goals (refine tN 1 ?_);all_goals (refine tF 2 ?_);all_goals (refine tL 3 ?_);all_goals (refine tM 4 ?_);all_goals (refine tN 5 ?_);all_goals (refine tF 6 ?_);all_goals (refine tL 7 ?_);all_goals (refine tk 8 _ rfl (Val.len rfl) ?_);all_goals (refine tk 9 _ rfl (Val.min rfl rfl) ?_);all_goals ((refine tO 10 ?_;refine dV (Val.assign rfl) ?_));all_goals (refine A.done zK ?_)))
 refine O.call rfl rfl (bitems_spec _ e _ (l.take n) (rT _).tail (fun m hm=>(items_rd m.t (List.mem_map.2 ⟨m,List.mem_of_mem_take hm,rfl⟩)).tail.tail) (fun m hm=>hb m (List.mem_of_mem_take hm)) zo) ?_;rintro _ _ ⟨ad2,c2,ts,rfl,hts,rfl⟩;refine wB ?_;refine O.call rfl rfl (cloneE_spec _ e _ (l.drop n) (rD _).tail.tail.tail (fun m hm=>hone m (List.mem_of_mem_drop hm)) zo) ?_;rintro _ _ ⟨ad3,c3,rfl,rfl⟩;refine wB ?_;rw [et] at hts
 refine Fin.ret _ rfl (Ent.trans (show Ent _ (Items (l.map Itm.t)::OwnT (.slice ad2 ts.length c2) ts::Items ts::Blk g [.int .i64 (r:Int),.int .i64 (s:Int),.int .i64 (w:Int),.slice ad3 (l.drop n).length c3] 370 (0,0)::OwnE (.slice ad3 (l.drop n).length c3) (l.drop n)::R) from zE) (Ent.trans (items_drop n) (Ent.trans ?_ (Ent.cons (Ent.cons (que_in (ad:=ad3) (c:=c3) (l:=l.drop n))))))) ⟨ad2,c2,ts,rfl,hts,by rw [ed]⟩;rw [← List.map_drop];exact zE
theorem bback_spec (g r s w:Nat) (l:List Itm) (v:Value) (ts:List Txt) (hv:RdSl R 1 v ts.length (ts.map (·.1))) (ht:Txts R ts) (hb:∀ a∈ts,a.2.length≤140737488351232) (hl:ts.length+l.length≤100000) :
 Ct prog 244 #[pt g,v] e (Que g r s w l::R) (fun v' L'=>v'=.tuple #[]∧∃ l':List Itm,l'.map Itm.b=ts.map (·.2)∧(∀ m∈l',m.at' = -9223372036854775808)∧L'=Que g r s w (l'++l)::R):=by
 refine Ct.of_sep que_ones ?_;intro hone;refine Ct.of_sep (sep_ent (hv.shape zo) zE) ?_;rintro ⟨⟨adv,cap,rfl,h3,h4,h5,h6⟩,_⟩;refine que_out fun ad c=>?_
 refine Ct.enter (args:=[_,_]) func244 rfl ntmps244 results244 rfl ?_;refine wB ?_;refine W.loop (ι:=List Itm × Option Addr × Nat) (fun i=>[(0,pt g),(7,.slice adv ts.length cap),(8,.int .i64 (ts.length:Int)),(9,.int .i64 (i.1.length:Int)),(4,.slice i.2.1 i.1.length i.2.2)])
  (fun i=>OwnE (.slice i.2.1 i.1.length i.2.2) i.1::Items (i.1.map Itm.t)::Blk g [.int .i64 (r:Int),.int .i64 (s:Int),.int .i64 (w:Int),.slice ad l.length c] 370 (0,0)::OwnE (.slice ad l.length c) l::Items (l.map Itm.t)::R)
  (fun i=>i.1.length≤ts.length∧i.1.map Itm.b=(ts.take i.1.length).map (·.2)∧(∀ m∈i.1,m.at' = -9223372036854775808)∧∀ m∈i.1,m.v.oneCell'=true) (fun i=>ts.length - i.1.length) ([],none,0) ⟨Nat.zero_le _,rfl,(fun m h=>by cases h),(fun m h=>by cases h)⟩
  (sub_cons rfl (sub_cons rfl (sub_cons rfl (sub_cons rfl (sub_cons rfl sub_nil))))) ((own_nil tEnt 2).trans (Ent.cons items_nil)) ?_
 rintro ⟨out,ad2,c2⟩ ⟨hi,hd,hat,ho1⟩;dsimp only at hi hd hat ho1 ⊢
 by_cases hlt:out.length<ts.length
 ·rcases h6 with h6|⟨gl,ol,rfl⟩
  ·omega
  have q1:Rd R ⟨gl,ol+out.length,none⟩ (ts[out.length]'hlt).1:=RdSl.elem hv (by rw [List.getElem?_map,List.getElem?_eq_getElem hlt];rfl);have hrd:=ht _ (List.getElem_mem hlt);have hb1:=hb _ (List.getElem_mem hlt)
  generalize hm2:ts[out.length]'hlt=m at *
  obtain ⟨v,b⟩:=m;dsimp only at hrd hb1 q1
  refine wB ?_;refine O.call rfl rfl (clone_spec _ e _ b hrd.tail.tail.tail.tail.tail zo) ?_;rintro _ _ ⟨ad3,c3,rfl,rfl⟩
  (repeat (refine wA ?_;intros))
  refine O.do (Do.append rfl rfl rfl (.succ (.succ .zero)) (RdSl.blkN (n:=2) (c:=1) .zero rfl zl) rfl rfl zO zm zo fun ad4 c4 _=>?_)
  refine wB ?_;refine Fin.round (out++[⟨.slice ad3 b.length c3,b,-9223372036854775808⟩],ad4,c4) ⟨by simp;omega,?_,?_,?_⟩ (by simp;omega) ?_ ?_
  ·simp only [List.map_append,List.length_append,List.length_singleton,hd];rw [List.take_succ_eq_append_getElem hlt,hm2];simp only [List.map_append,List.map_cons,List.map_nil]
  ·intro m hm;rcases List.mem_append.1 hm with hm|hm
   ·exact hat m hm
   ·rw [List.mem_singleton.1 hm]
  ·intro m hm;rcases List.mem_append.1 hm with hm|hm
   ·exact ho1 m hm
   ·rw [List.mem_singleton.1 hm];rfl
  ·simp only [List.length_append,List.length_singleton];exact sub_cons rfl (sub_cons rfl (sub_cons rfl (sub_cons rfl (sub_cons rfl sub_nil))))
  ·refine Ent.trans (show Ent _ (OwnB (.slice ad3 b.length c3) b::Items (out.map Itm.t)::Own tEnt 2 (.slice ad4 (out.length+1) c4) (out.length+1) (out.flatMap Itm.cells++[.slice ad3 b.length c3,.int .i64 (-9223372036854775808)])::Blk g [.int .i64 (r:Int),.int .i64 (s:Int),.int .i64 (w:Int),.slice ad l.length c] 370 (0,0)::OwnE (.slice ad l.length c) l::Items (l.map Itm.t)::R) from zE) (Ent.trans (items_own (a:=(.slice ad3 b.length c3,b))) (Ent.trans (Ent.pull (.succ .zero) Ent.rfl) (Ent.trans items_append ?_)));simp only [OwnE,List.length_append,List.length_singleton,List.map_append,List.map_cons,List.map_nil,List.flatMap_append,List.flatMap_cons,List.flatMap_nil,List.append_nil];exact zE
 ·have hd2:out.map Itm.b=ts.map (·.2):=by rw [hd,List.take_of_length_le zo]
  refine wB ?_;refine O.do (Do.append rfl rfl rfl .zero (RdSl.own (.succ (.succ .zero))) rfl rfl (itm_ones hone) zm zo fun ad4 c4 _=>?_)
  refine wB ?_;refine Fin.stop (Que g r s w (out++l)::R) rfl (Ent.trans (show Ent _ (Items (out.map Itm.t)::Items (l.map Itm.t)::Blk g [.int .i64 (r:Int),.int .i64 (s:Int),.int .i64 (w:Int),.slice ad4 (out.length+l.length) c4] 370 (0,0)::Own tEnt 2 (.slice ad4 (out.length+l.length) c4) (out.length+l.length) (out.flatMap Itm.cells++l.flatMap Itm.cells)::R) from zE) (Ent.trans items_append (Ent.trans ?_ (que_in (ad:=ad4) (c:=c4))))) ⟨rfl,out,hd2,hat,rfl⟩;simp only [OwnE,List.length_append,List.map_append,List.flatMap_append];exact zE
def hasB (l:List Itm) (b:List UInt8):Bool:=l.any fun i=>decide (i.b=b)
theorem bequal_spec (va vb:Value) (a b:List UInt8) (ha:RdB R va a) (hb:RdB R vb b) :
 Ct prog 188 #[va,vb] e R (fun v' L'=>v'=.bool (decide (a=b))∧R=L'):=by
 refine Ct.enter (args:=[_,_]) func188 rfl ntmps188 results188 rfl ?_
 by_cases h:a=b
 ·subst h;refine wB ?_;exact Fin.ret _ rfl Ent.rfl ⟨by simp;rfl,rfl⟩
 ·refine wB ?_;exact Fin.ret _ rfl Ent.rfl ⟨by simp [h];rfl,rfl⟩
theorem hsame_spec (va vb:Value) (a b:List UInt8) (ha:RdB R va a) (hb:RdB R vb b) :
 Ct prog 99 #[va,vb] e R (fun v' L'=>v'=.bool (decide (a=b))∧R=L'):=by
 refine Ct.enter (args:=[_,_]) func99 rfl ntmps99 results99 rfl ?_;refine wB ?_;refine O.call rfl rfl (bequal_spec R e va vb a b ha hb) ?_;rintro _ _ ⟨rfl,rfl⟩;refine wB ?_;exact Fin.ret _ rfl Ent.rfl ⟨rfl,rfl⟩
theorem hasFn_spec (g:Nat) (v:Value) (b:List UInt8) (i:Itm) (hg:Rd R ⟨g,0,none⟩ v) (hr:RdB R v b) (hi:RdB R i.v i.b) :
 Ct prog 281 #[.agg i.cells.toArray,pt g] e R (fun v' L'=>v'=.bool (decide (i.b=b))∧R=L'):=by
 obtain ⟨iv,ib,ia⟩:=i;dsimp only at hi
 simp only [Itm.cells];refine Ct.enter (args:=[_,_]) func281 rfl ntmps281 results281 rfl ?_
 (repeat (refine wA ?_;intros))
 refine O.call rfl rfl (hsame_spec _ e iv v ib b hi.tail hr.tail) ?_;rintro _ _ ⟨rfl,rfl⟩;refine wB ?_;exact Fin.ret R rfl zE ⟨rfl,rfl⟩
theorem bindex_spec (g:Nat) (v vl:Value) (b:List UInt8) (l:List Itm) (hg:Rd R ⟨g,0,none⟩ v) (hr:RdB R v b) (hv:RdSl R 2 vl l.length (l.flatMap Itm.cells)) (ht:∀ m∈l,RdB R m.v m.b) (hl:l.length≤100000) :
 Ct prog 303 #[vl,.func (.func 281) #[] #[pt g]] e R (fun v' L'=>∃ k:Int,v'=.int .i64 k∧(decide (0≤k)=hasB l b)∧R=L'):=by
 refine Ct.of_sep (hv.shape zo) ?_;rintro ⟨⟨ad,cap,rfl,h3,h4,h5,h6⟩,_⟩;refine Ct.enter (args:=[_,_]) func303 rfl ntmps303 results303 rfl ?_;refine wB ?_;refine W.loop (ι:=Nat) (fun i=>[(0,.slice ad l.length cap),(1,.func (.func 281) #[] #[pt g]),(7,.int .i64 (l.length:Int)),(8,.int .i64 (i:Int))]) (fun _=>R) (fun i=>i≤l.length∧∀ m∈l.take i,m.b≠b) (fun i=>l.length - i) 0 ⟨Nat.zero_le _,fun m h=>by simp at h⟩
  (sub_cons rfl (sub_cons rfl (sub_cons rfl (sub_cons rfl sub_nil)))) Ent.rfl ?_
 rintro i ⟨hi,hn⟩
 by_cases hlt:i<l.length
 ·rcases h6 with h6|⟨gl,ol,rfl⟩
  ·omega
  have hag:RdA R gl (ol+i*2) (l[i]'hlt).cells:=RdA.elem hv itm2 (List.getElem?_eq_getElem hlt);have hrd:=ht _ (List.getElem_mem hlt);refine wB ?_;refine O.callV (us:=[]) (ws:=[pt g]) (vs:=[.agg (l[i]'hlt).cells.toArray]) rfl rfl rfl (hasFn_spec R e g v b (l[i]'hlt) hg hr hrd) ?_;rintro _ _ ⟨rfl,rfl⟩
  by_cases hb:(l[i]'hlt).b=b
  ·rw [decide_eq_true hb];refine wB ?_;refine Fin.ret R rfl Ent.rfl ⟨_,rfl,?_,rfl⟩
   have h1:hasB l b=true:=by
    unfold hasB;rw [List.any_eq_true];exact ⟨_,List.getElem_mem hlt,by simpa using hb⟩
   rw [h1];simp
  ·rw [decide_eq_false hb];refine wB ?_;refine Fin.round (i+1) ⟨hlt,?_⟩ zo (sub_cons rfl (sub_cons rfl (sub_cons rfl (sub_cons rfl sub_nil)))) Ent.rfl;intro m hm;rw [List.take_succ_eq_append_getElem hlt] at hm
   rcases List.mem_append.1 hm with hm|hm
   ·exact hn m hm
   ·rw [List.mem_singleton.1 hm];exact hb
 ·refine wB ?_;refine Fin.ret R rfl Ent.rfl ⟨_,rfl,?_,rfl⟩
  have h1:hasB l b=false:=by
   unfold hasB;rw [List.any_eq_false];intro m hm;rw [List.take_of_length_le zo] at hn
   simpa using hn m hm
  rw [h1];simp
theorem bcontains_spec (g:Nat) (v vl:Value) (b:List UInt8) (l:List Itm) (hg:Rd R ⟨g,0,none⟩ v) (hr:RdB R v b) (hv:RdSl R 2 vl l.length (l.flatMap Itm.cells)) (ht:∀ m∈l,RdB R m.v m.b) (hl:l.length≤100000) :
 Ct prog 280 #[vl,.func (.func 281) #[] #[pt g]] e R (fun v' L'=>v'=.bool (hasB l b)∧R=L'):=by
 refine Ct.enter (args:=[_,_]) func280 rfl ntmps280 results280 rfl ?_;refine wB ?_;refine O.call rfl rfl (bindex_spec R e g v vl b l hg hr hv ht hl) ?_;rintro _ _ ⟨k,rfl,hk,rfl⟩;rw [← hk]
 by_cases h:0≤k
 ·rw [decide_eq_true h];refine wB ?_;exact Fin.ret R rfl Ent.rfl ⟨rfl,rfl⟩
 ·rw [decide_eq_false h];refine wB ?_;exact Fin.ret R rfl Ent.rfl ⟨rfl,rfl⟩
theorem bhas_spec (g r s w:Nat) (l:List Itm) (v:Value) (b:List UInt8) (hr:RdB R v b) (hl:l.length≤100000) :
 Ct prog 238 #[pt g,v] e (Que g r s w l::R) (fun v' L'=>v'=.bool (hasB l b)∧L'=Que g r s w l::R):=by
 refine Ct.of_sep (sep_ent (hr.shape zo) (Ent.drop Ent.rfl)) ?_;rintro ⟨⟨adv,cv,rfl,g3,g4,g5,g6⟩,_⟩;refine que_out fun ad c=>?_
 refine Ct.enter (args:=[_,_]) func238 rfl ntmps238 results238 rfl ?_
 (repeat (refine wA ?_;intros))
 refine O.call rfl rfl (bcontains_spec _ e _ _ _ b l (Rd.blk .zero rfl) (hr.tail.tail.tail.tail) (RdSl.own (.succ (.succ .zero))) (fun m hm=>(items_rd m.t (List.mem_map.2 ⟨m,hm,rfl⟩)).tail.tail.tail) hl) ?_;rintro _ _ ⟨rfl,rfl⟩;refine wB ?_;exact Fin.ret (Que g r s w l::R) rfl (Ent.trans (Ent.drop Ent.rfl) que_in) ⟨rfl,rfl⟩
end Go.Proofs
