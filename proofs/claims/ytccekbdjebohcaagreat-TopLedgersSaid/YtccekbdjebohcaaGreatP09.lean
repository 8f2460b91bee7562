/- Part 9 of a proof of this: TopLedgers returns true for any arguments; nothing of the old memory is turned. No condition. -/
import Derived.Test.YtccekbdjebohcaaGreatP08
set_option linter.unusedVariables false
set_option linter.unusedSimpArgs false
namespace Go.Proofs
attribute [local irreducible] Bs.Val Bs.Do Bs.O Bs.W Bs.Fin Bs.A Bs.Ct Bs.RdSl Bs.Rd Bs.Sat Bs.Blk Bs.Ob Bs.Own Bs.View Bs.Ent Bs.Ex Bs.All Bs.Pu Bs.Base Bs.sepL Bs.RdA
open Go.Bs
open Tryz
variable (R:List Res) (e:World)
theorem u8_dec {n:Nat} (h0:0<n) (h:n<256):IntKind.u8.wrap ((n:Int) - 1)=((n - 1:Nat):Int):=by
 rw [wrap_u8 zo zo];omega
theorem path_drop {l:List Bts} {i:Nat} (h:i<l.length):(l.drop i).flatten=l[i]'h++(l.drop (i+1)).flatten:=by
 rw [List.drop_eq_getElem_cons h,List.flatten_cons]
theorem gs_drop {l:List Csg} {i:Nat} (h:i<l.length):encGs (l.drop i)=encCsg (l[i]'h)++encGs (l.drop (i+1)):=by
 unfold encGs;rw [List.drop_eq_getElem_cons h,List.map_cons,List.flatten_cons]
theorem bDecode_spec (v:Value) (b:Bun) (hv:RdB R v (encBun b)) (hw:b.wf) :
 Ct prog 133 #[v] e R (fun v' L'=>∃ (M:Res) (um up ur ua uq uc:Value),v'=.tuple #[.agg (bunC b um up ur ua uq uc).toArray,.int .i64 0]∧RdBun [M] um up ur ua uq uc b∧L'=M::R):=by
 have hbl:=encBun_len hw;have hbm:=hw.man;have h1:=hw.idx;have h2:=hw.size;have h3:=hw.few;have h4:=hw.most;have hfl:=flatten_len hw.h32;have hsl:=encSgd_length hw.chk hw.sig;have hgl:=encGs_len hw.sigs;have henc:encBun b=enc b.man++(be b.idx 4++(be b.size 4++(UInt8.ofNat b.path.length::(b.path.flatten++(encSgd b.sgd++(UInt8.ofNat b.cosigs.length::encGs b.cosigs)))))):=rfl;refine Ct.of_sep (RdB.one hv) fun o1=>?_
 refine Ct.enterC (args:=[_]) func133 rfl ntmps133 results133 rfl ?_
 (repeat (refine wA ?_;intros))
 rename_i g2;refine O.call rfl rfl (read_spec _ e v (encBun b) (hv.ent zE) zo) ?_;rintro _ _ ⟨gr,rfl,rfl⟩;rw [henc];refine wB ?_;have el:=enc_length b.man;have hk0:(enc b.man++(be b.idx 4++(be b.size 4++(UInt8.ofNat b.path.length::(b.path.flatten++(encSgd b.sgd++(UInt8.ofNat b.cosigs.length::encGs b.cosigs))))))).length≤140737488355328:=by rw [← henc];omega
 refine O.call rfl rfl (rbytesB _ e gr b.man _ 65535 hbm zo hk0) ?_;rintro _ _ ⟨adm,cm,rfl,rfl⟩
 (repeat (refine wA ?_;intros))
 rename_i g5;refine O.call rfl rfl (Ct.at zP (rnumB _ e gr b.idx _ zo)) ?_;rintro _ _ ⟨rfl,rfl⟩;refine wB ?_;refine O.call rfl rfl (Ct.at zP (rnumB _ e gr b.size _ zo)) ?_;rintro _ _ ⟨rfl,rfl⟩;refine wB ?_;refine O.call rfl rfl (Ct.at zP (rbyteB _ e gr _ _)) ?_;rintro _ _ ⟨rfl,rfl⟩;rw [← u8_nat (n:=b.path.length) zo];refine wB ?_;obtain ⟨tl,htl⟩:∃ tl:Bts,tl=encSgd b.sgd++(UInt8.ofNat b.cosigs.length::encGs b.cosigs):=⟨_,rfl⟩
 have htll:tl.length≤600000:=by rw [htl];simp only [List.length_append,List.length_cons,hsl,hgl];omega
 rw [← htl];refine W.loop (ι:=Nat × List Txt × Option Addr × Nat) (fun j=>[(2,pt g2),(3,.int .i64 0),(4,pt gr),(5,pt g5),(6,.int .u8 ((b.path.length - j.1:Nat):Int))]) (fun j=>Reader gr ⟨(b.path.drop j.1).flatten++tl,false⟩::Blk g5 [.slice adm b.man.length cm,.int .i64 (b.idx:Int),.int .i64 (b.size:Int),.slice j.2.2.1 j.2.1.length j.2.2.2,.int .i64 0,nY,.int .i64 0,nY,nY,nY] tBun (0,0)::OwnT (.slice j.2.2.1 j.2.1.length j.2.2.2) j.2.1::Items j.2.1::OwnB (.slice adm b.man.length cm) b.man::Blk g2 bun0C tBun (0,0)::R) (fun j=>j.1≤b.path.length∧j.2.1.map (·.2)=b.path.take j.1) (fun j=>b.path.length - j.1) (0,[],none,0) ⟨Nat.zero_le _,rfl⟩ zS (Ent.trans (items_nil) (Ent.trans (own_nil tTxts 1) zE)) ?_;rintro ⟨j,us,adu,cu⟩ ⟨hj,hus⟩;dsimp only at hj hus ⊢
 have hul:us.length=j:=by have:=congrArg List.length hus;rw [List.length_map,List.length_take] at this;omega
 by_cases hlt:j<b.path.length
 ·have hpd:=path_drop hlt;have h32:=hw.h32 _ (List.getElem_mem hlt);have htk:b.path.take (j+1)=b.path.take j++[b.path[j]'hlt]:=List.take_succ_eq_append_getElem hlt
  have hle:((b.path.drop (j+1)).flatten).length≤600:=by
   have:=flatten_len (l:=b.path.drop (j+1)) (n:=32) (fun a ha=>hw.h32 a (List.mem_of_mem_drop ha));rw [this,List.length_drop];omega
  rw [hpd,List.append_assoc]
  generalize b.path[j]'hlt=x at *
  have hdec:=u8_dec (n:=b.path.length - j) zo zo;rw [show b.path.length - j - 1=b.path.length - (j+1) by omega] at hdec
  refine wB ?_;refine O.call rfl rfl (rbad_spec _ e gr _) ?_;rintro _ _ ⟨rfl,rfl⟩;refine wB ?_;refine A.begin (id:=7) [7,8,9] (Blk g5 [.slice adm b.man.length cm,.int .i64 (b.idx:Int),.int .i64 (b.size:Int),.slice adu us.length cu,.int .i64 0,nY,.int .i64 0,nY,nY,nY] tBun (0,0)::R) mixed ?_
  (refine tF 0 ?_;refine tF 1 ?_;refine tL 2 ?_;refine tM 3 ?_)
  refine tO 4 ?_;refine Do.call rfl rfl (Ct.at zP (rrawB _ e gr 32 x _ h32 (by simp only [List.length_append];omega))) ?_;rintro _ _ ⟨adx,cx,rfl,rfl⟩;refine ⟨fun _=>zE,?_⟩;refine tO 5 ?_;refine Do.buildSlice (n:=1) (cs:=[.slice adx x.length cx]) rfl rfl rfl rfl zQ rfl (fun gb=>⟨fun _=>zE,?_⟩);refine tO 6 ?_;refine Do.append rfl rfl rfl (show Pull _ (OwnT (.slice adu us.length cu) us) _ from zP) (RdSl.blkN (n:=1) (c:=1) zP rfl zl) rfl rfl zO zm zo fun ad1 k1 _=>⟨fun _=>zE,?_⟩
  refine tO 7 ?_;refine dV (Val.fieldAddr rfl) ?_;refine tO 8 ?_;refine dV (Val.fieldAddr rfl) ?_;refine tO 9 ?_;refine zs1 ?_;refine ⟨zN,?_⟩;refine A.done zK ?_;refine wB ?_;rw [hdec];refine Fin.round (j+1,us++[(.slice adx x.length cx,x)],ad1,k1) ⟨hlt,by dsimp only;rw [htk,List.map_append,hus];rfl⟩ zd zS ?_;simp only [OwnT,List.length_append,List.length_singleton,List.map_append,List.map_cons,List.map_nil];exact Ent.trans (Ent.trans (show Ent _ (OwnB (.slice adx x.length cx) x::Items us::Own tTxts 1 (.slice ad1 (us.length+1) k1) (us.length+1) (us.map (·.1)++[.slice adx x.length cx])::Reader gr ⟨(b.path.drop (j+1)).flatten++tl,false⟩::Blk g5 [.slice adm b.man.length cm,.int .i64 (b.idx:Int),.int .i64 (b.size:Int),.slice ad1 (us.length+1) k1,.int .i64 0,nY,.int .i64 0,nY,nY,nY] tBun (0,0)::OwnB (.slice adm b.man.length cm) b.man::Blk g2 bun0C tBun (0,0)::R) from zE) grow_items) zE
 rw [List.take_of_length_le zo] at hus
 rw [List.drop_eq_nil_of_le zo,List.flatten_nil,List.nil_append,show b.path.length - j=0 by omega,htl];refine wB ?_;refine O.call rfl rfl (cGet_spec _ e gr b.sgd _ hw.chk hw.sig (by simp only [List.length_cons,hgl];omega)) ?_;rintro _ _ ⟨N,ur,ua,uq,rfl,hN,rfl⟩;refine O.of_sep (RdB.one (hN.root.ent (one_in zP))) fun o8=>?_
 refine O.of_sep (hN.sig.ent (one_in zP)).parts.one fun o9=>?_
 refine O.of_sep (hN.sig.ent (one_in zP)).path.one fun o10=>?_
 (repeat (refine wA ?_;intros))
 refine O.call rfl rfl (Ct.at zP (rbyteB _ e gr _ _)) ?_;rintro _ _ ⟨rfl,rfl⟩;rw [← u8_nat (n:=b.cosigs.length) zo];refine wB ?_;refine W.loop (ι:=Nat × List GAt × Res × Option Addr × Nat) (fun j=>[(2,pt g2),(3,.int .i64 0),(4,pt gr),(5,pt g5),(8,.bool true),(9,.int .u8 ((b.cosigs.length - j.1:Nat):Int))]) (fun j=>Reader gr ⟨encGs (b.cosigs.drop j.1),false⟩::Blk g5 (bunC ⟨b.man,b.idx,b.size,b.path,b.sgd,[]⟩ (.slice adm b.man.length cm) (.slice adu us.length cu) ur ua uq (.slice j.2.2.2.1 j.2.1.length j.2.2.2.2)) tBun (0,0)::OwnG (.slice j.2.2.2.1 j.2.1.length j.2.2.2.2) j.2.1::j.2.2.1::N::OwnT (.slice adu us.length cu) us::Items us::OwnB (.slice adm b.man.length cm) b.man::Blk g2 bun0C tBun (0,0)::R) (fun j=>j.1≤b.cosigs.length∧j.2.1.map (·.1)=b.cosigs.take j.1∧∀ t∈j.2.1,GAt.ok [j.2.2.1] t) (fun j=>b.cosigs.length - j.1) (0,[],Items [],none,0) ⟨Nat.zero_le _,rfl,fun t ht=>by cases ht⟩ zS (Ent.trans (items_nil) (Ent.trans (own_nil tCsg 4) zE)) ?_;rintro ⟨k,gs,Mx,adg,cg⟩ ⟨hk,hgs,hgt⟩;dsimp only at hk hgs hgt ⊢
 have hgsl:gs.length=k:=by have:=congrArg List.length hgs;rw [List.length_map,List.length_take] at this;omega
 by_cases hlt2:k<b.cosigs.length
 ·have hgd:=gs_drop hlt2;have hgw:=hw.wits _ (List.getElem_mem hlt2);have hgr:=hw.sigs _ (List.getElem_mem hlt2);have htk:b.cosigs.take (k+1)=b.cosigs.take k++[b.cosigs[k]'hlt2]:=List.take_succ_eq_append_getElem hlt2
  have hle:(encGs (b.cosigs.drop (k+1))).length≤600000:=by
   rw [encGs_len (fun g hg=>hw.sigs g (List.mem_of_mem_drop hg)),List.length_drop];omega
  rw [hgd]
  generalize b.cosigs[k]'hlt2=x at *
  have hdec:=u8_dec (n:=b.cosigs.length - k) zo zo;rw [show b.cosigs.length - k - 1=b.cosigs.length - (k+1) by omega] at hdec
  (repeat (refine wA ?_;intros))
  refine O.call rfl rfl (Ct.at zP (gGet_spec _ e gr x _ hgw hgr zo)) ?_;rintro _ _ ⟨N2,wp,wq,rfl,hN2,rfl⟩;refine O.of_sep (hN2.ent (one_in zP)).parts.one fun o13=>?_
  refine O.of_sep (hN2.ent (one_in zP)).path.one fun o14=>?_
  (repeat (refine wA ?_;intros))
  refine O.do (Do.append rfl rfl rfl (show Pull _ (OwnG (.slice adg gs.length cg) gs) _ from zP) (RdSl.blkN (n:=4) (c:=1) zP rfl zl) rfl rfl zO zm zo fun ad1 k1 _=>?_)
  refine wB ?_;rw [hdec];have hall:Ent [All [Mx,N2]] [Mx]:=Ent.trans (all_out (M:=[_,_]) (L:=[])) (Ent.cons Ent.nil);have hall2:Ent [All [Mx,N2]] [N2]:=Ent.trans (all_out (M:=[_,_]) (L:=[])) (Ent.drop (Ent.cons Ent.nil));refine Fin.round (k+1,gs++[(x,wp,wq)],All [Mx,N2],ad1,k1) ⟨hlt2,by dsimp only;rw [htk,List.map_append,hgs];rfl,fun t ht=>?_⟩ zd zS ?_
  ·rcases List.mem_append.1 ht with ht|ht
   ·exact (hgt t ht).ent hall
   ·rw [List.mem_singleton.1 ht];exact ⟨hN2.ent hall2,by dsimp only;omega⟩
  ·simp only [OwnG,List.length_append,List.length_singleton,List.flatMap_append,List.flatMap_cons,List.flatMap_nil,List.append_nil];exact Ent.trans (pull2_all (A:=Mx) (B:=N2) zP zP) zE
 rw [List.take_of_length_le zo] at hgs
 rw [List.drop_eq_nil_of_le zo,show b.cosigs.length - k=0 by omega,show encGs []=[] from rfl];obtain ⟨M,hM⟩:∃ M:Res,M=All [OwnB (.slice adm b.man.length cm) b.man,OwnT (.slice adu us.length cu) us,Items us,N,OwnG (.slice adg gs.length cg) gs,Mx]:=⟨_,rfl⟩
 have ho:Ent [M] [OwnB (.slice adm b.man.length cm) b.man,OwnT (.slice adu us.length cu) us,Items us,N,OwnG (.slice adg gs.length cg) gs,Mx]:=by rw [hM];exact all_out (M:=[_,_,_,_,_,_]) (L:=[])
 have hrb:RdBun [M] (.slice adm b.man.length cm) (.slice adu us.length cu) ur ua uq (.slice adg gs.length cg) b :=
  ⟨(RdSl.own .zero).ent ho,RdTs.ent ⟨us,hus,RdSl.own (.succ .zero),Txts.pull (.succ (.succ .zero))⟩ ho,(hN.ent (one_in zP)).ent ho,RdGs.ent ⟨gs,hgs,RdSl.own zP,fun t ht=>(hgt t ht).ent (one_in zP)⟩ ho⟩
 have hrp:rightP us=true:=by
  unfold rightP;rw [decide_eq_true_iff];refine ⟨by omega,fun a ha=>hw.h32 _ ?_⟩;rw [← hus];exact List.mem_map.2 ⟨a,ha,rfl⟩
 refine wB ?_;refine O.call rfl rfl (rendB _ e gr []) ?_;rintro _ _ ⟨rfl,rfl⟩;rw [decide_eq_true rfl];refine wB ?_;refine O.call rfl rfl (bNumber_spec _ e b.idx) ?_;rintro _ _ ⟨rfl,rfl⟩;rw [decide_eq_true h1];refine wB ?_;refine O.call rfl rfl (bNumber_spec _ e b.size) ?_;rintro _ _ ⟨rfl,rfl⟩;rw [decide_eq_true h2];refine wB ?_;refine O.call rfl rfl (rightP_spec _ e (.slice adu us.length cu) us (RdSl.own zP) (Txts.pull (show Pull _ (Items us) _ from zP))) ?_;rintro _ _ ⟨rfl,rfl⟩;rw [hrp];refine wB ?_;apply Fin.retC
 ·exact zV
 refine ⟨M::R,Ent.trans (show Ent _ (OwnB (.slice adm b.man.length cm) b.man::OwnT (.slice adu us.length cu) us::Items us::N::OwnG (.slice adg gs.length cg) gs::Mx::R) from zE) (by rw [hM];exact sixAll),M,.slice adm b.man.length cm,.slice adu us.length cu,ur,ua,uq,.slice adg gs.length cg,rfl,hrb,rfl⟩
structure USt where
 recs:List Bts
def manZ:Man:=⟨[],0,[],[]⟩
def manL (l:List Bts):Man:=match l.getLast? with|some b=>manOf b|none=>manZ
def USt.m (s:USt):Man:=manL s.recs
theorem manL_snoc (l:List Bts) (b:Bts):manL (l++[b])=manOf b:=by simp [manL]
structure USt.ok (s:USt) (name:Bts):Prop where
 size:s.recs.length≤1000
 short:∀ b∈s.recs,b.length≤200
 good:∀ b∈s.recs,manOk b
 name:∀ b∈s.recs,(manOf b).name=name
 rise:((s.recs.map fun b=>(manOf b).ver)).Pairwise (·<·)
abbrev tUpd:TypeId:=173
structure UMem where
 gj:Nat
 vl:Value
 vw:Value
 vf:Value
 vn:Value
structure UMem.ok (a:UMem) (M:Res) (name:Bts) (p:Pol) (s:USt):Prop where
 pol:RdPol [M] a.vl a.vw p
 fw:RdB [M] a.vf s.m.fw
 notes:RdB [M] a.vn s.m.notes
 st:s.ok name
 pr:p.right
abbrev UMem.cells (a:UMem) (name:Bts) (p:Pol) (s:USt):List Value:=[pt a.gj,.string (str name)]++polC p a.vl a.vw++manC s.m a.vf a.vn++[.int .i64 (s.recs.length:Int)]
abbrev updM (g d:Nat) (name:Bts) (p:Pol) (s:USt) (a:UMem) (M:Res) (R:List Res):List Res :=
 Blk g (a.cells name p s) tUpd (0,0)::M::Jrn a.gj d s.recs.length::Disk d (disk0 (layP s.recs))::R
def UpdAt (g d:Nat) (name:Bts) (p:Pol) (s:USt) (a:UMem) (M:Res):Res:=All (Pu (a.ok M name p s)::updM g d name p s a M [])
def UpdR (g d:Nat) (name:Bts) (p:Pol) (s:USt):Res:=Ex fun a=>Ex fun M=>UpdAt g d name p s a M
theorem upd_out {g d:Nat} {name:Bts} {p:Pol} {s:USt} {R:List Res} {P:Program} {f:FuncId} {args:Array Value} {e:World} {Post:Value→List Res→Prop}
 (h:∀ (a:UMem) (M:Res),a.ok M name p s→Ct P f args e (updM g d name p s a M R) Post):Ct P f args e (UpdR g d name p s::R) Post :=
 Ct.ex .zero fun a=>Ct.ex .zero fun M=>Ct.ent (Ct.of_sep (p:=a.ok M name p s) (fun w x=>(pu_out x).1) fun hp=>(h a M hp).ent (Ent.drop Ent.rfl)) (all_out (M:=Pu (a.ok M name p s)::updM g d name p s a M []) (L:=R))
theorem upd_in {g d:Nat} {name:Bts} {p:Pol} {s:USt} {a:UMem} {M:Res} {R:List Res} (h:a.ok M name p s):Ent (updM g d name p s a M R) (UpdR g d name p s::R) :=
 Ent.trans (pu_in h) (Ent.trans (all_in (M:=Pu (a.ok M name p s)::updM g d name p s a M []) (L:=R)) (Ent.trans (ex_in (f:=fun M=>UpdAt g d name p s a M) M) (ex_in (f:=fun a=>Ex fun M=>UpdAt g d name p s a M) a)))
theorem uVersion_spec (g d:Nat) (name:Bts) (p:Pol) (s:USt) :
 Ct prog 29 #[pt g] e (UpdR g d name p s::R) (fun v' L'=>v'=.int .u32 (s.m.ver:Int)∧L'=UpdR g d name p s::R):=by
 refine upd_out fun a M ha=>?_
 refine Ct.enter (args:=[_]) func29 rfl ntmps29 results29 rfl ?_;refine wB ?_;exact Fin.ret (UpdR g d name p s::R) rfl (upd_in ha) ⟨rfl,rfl⟩
def USt.offE (name:Bts) (p:Pol) (s:USt) (b:Bun):Int:=if chkB p b≠0 then chkB p b else if (manOf b.man).name≠name then 22 else if (manOf b.man).ver≤s.m.ver then 32 else 0
def USt.offS (name:Bts) (p:Pol) (s:USt) (b:Bun):USt:=if s.offE name p b=0 then ⟨s.recs++[b.man]⟩ else s
theorem chkB_ok {p:Pol} {b:Bun} (h:chkB p b=0):manOk b.man:=by
 unfold chkB at h
 by_cases hm:manOk b.man
 ·exact hm
 ·rw [if_pos hm] at h;cases h
theorem USt.offS_ok {name:Bts} {p:Pol} {s:USt} {b:Bun} (h:s.ok name) (hb:b.man.length≤200) (hs:s.recs.length<1000) (h0:s.offE name p b=0):USt.ok ⟨s.recs++[b.man]⟩ name:=by
 have hc:chkB p b=0:=by
  unfold USt.offE at h0
  by_cases hc:chkB p b≠0
  ·rw [if_pos hc] at h0;exact absurd h0 hc
  ·exact Decidable.not_not.1 hc
 unfold USt.offE at h0
 rw [if_neg (fun q=>q hc)] at h0
 by_cases hn:(manOf b.man).name≠name
 ·rw [if_pos hn] at h0;cases h0
 rw [if_neg hn] at h0
 by_cases hv:(manOf b.man).ver≤s.m.ver
 ·rw [if_pos hv] at h0;cases h0
 refine ⟨by simp;omega,fun x hx=>?_,fun x hx=>?_,fun x hx=>?_,?_⟩
 ·rcases List.mem_append.1 hx with hx|hx
  ·exact h.short x hx
  ·rw [List.mem_singleton.1 hx];exact hb
 ·rcases List.mem_append.1 hx with hx|hx
  ·exact h.good x hx
  ·rw [List.mem_singleton.1 hx];exact chkB_ok hc
 ·rcases List.mem_append.1 hx with hx|hx
  ·exact h.name x hx
  ·rw [List.mem_singleton.1 hx];exact Decidable.not_not.1 hn
 ·rw [List.map_append];refine List.pairwise_append.2 ⟨h.rise,by simp,fun x hx y hy=>?_⟩;obtain ⟨z,hz,rfl⟩:=List.mem_map.1 hx;rw [List.map_cons,List.map_nil,List.mem_singleton] at hy
  subst hy;refine Nat.lt_of_le_of_lt ?_ (Nat.lt_of_not_le hv);unfold USt.m manL
  cases hl:s.recs.getLast? with
  | none=>rw [List.getLast?_eq_none_iff] at hl;rw [hl] at hz;cases hz
  | some q =>
   obtain ⟨A,hA⟩:=List.getLast?_eq_some_iff.1 hl;have hr:=h.rise;rw [hA,List.map_append] at hr
   rw [hA] at hz
   rcases List.mem_append.1 hz with hz|hz
   ·exact Nat.le_of_lt ((List.pairwise_append.1 hr).2.2 _ (List.mem_map.2 ⟨z,hz,rfl⟩) _ (List.mem_map.2 ⟨q,List.mem_singleton.2 rfl,rfl⟩))
   ·rw [List.mem_singleton.1 hz];exact Nat.le_refl _
theorem uOffer_spec (g d:Nat) (name:Bts) (p:Pol) (s:USt) (v:Value) (b:Bun) (hv:RdB R v (encBun b)) (hw:b.wf) (hb2:b.man.length≤200) (hs:s.recs.length<1000) :
 Ct prog 52 #[pt g,v] e (UpdR g d name p s::R) (fun v' L'=>v'=.int .i64 (s.offE name p b)∧L'=UpdR g d name p (s.offS name p b)::R):=by
 refine upd_out fun a M ha=>?_
 refine Ct.of_sep (RdB.one (hv.ent (show Ent (updM g d name p s a M R) R from zE))) fun o1=>?_
 refine Ct.of_sep (RdB.one (ha.pol.log.ent (show Ent (updM g d name p s a M R) [M] from one_in zP))) fun o2=>?_
 refine Ct.of_sep (ha.pol.wits.ent (show Ent (updM g d name p s a M R) [M] from one_in zP)).one fun o3=>?_
 refine Ct.of_sep (RdB.one (ha.fw.ent (show Ent (updM g d name p s a M R) [M] from one_in zP))) fun o4=>?_
 refine Ct.of_sep (RdB.one (ha.notes.ent (show Ent (updM g d name p s a M R) [M] from one_in zP))) fun o5=>?_
 refine Ct.enter (args:=[_,_]) func52 rfl ntmps52 results52 rfl ?_;refine wB ?_;refine O.call rfl rfl (bDecode_spec _ e v b (hv.ent zE) hw) ?_;rintro _ _ ⟨N,um,up,ur,ua,uq,uc,rfl,hN,rfl⟩;refine O.of_sep (RdB.one (hN.man.ent (one_in zP))) fun q1=>?_
 refine O.of_sep (hN.path.ent (one_in zP)).one fun q2=>?_
 refine O.of_sep (RdB.one (hN.sgd.root.ent (one_in zP))) fun q3=>?_
 refine O.of_sep (hN.sgd.sig.ent (one_in zP)).parts.one fun q4=>?_
 refine O.of_sep (hN.sgd.sig.ent (one_in zP)).path.one fun q5=>?_
 refine O.of_sep (hN.gs.ent (one_in zP)).one fun q6=>?_
 (repeat (refine wA ?_;intros))
 rename_i g5;refine A.begin (id:=4) [6] (Blk g5 (bunC b um up ur ua uq uc) tBun (0,0)::N::updM g d name p s a M R) mixed ?_
 (refine tM 0 ?_;refine tN 1 ?_;refine tF 2 ?_;refine tk 3 _ rfl (Val.loadAggB rfl zP zI zX) ?_;refine tJ 4 ?_)
 refine tO 5 ?_;refine Do.call rfl rfl (bCheck_spec _ e a.vl a.vw um up ur ua uq uc p b (ha.pol.ent (one_in zP)) ha.pr (hN.ent (one_in zP)) hw) ?_;rintro _ _ ⟨rfl,rfl⟩;refine ⟨fun _=>zE,?_⟩
 by_cases hc:chkB p b=0
 rotate_left
 ·have hE:s.offE name p b=chkB p b:=by unfold USt.offE;rw [if_pos hc]
  have hS:s.offS name p b=s:=by unfold USt.offS;rw [hE,if_neg hc]
  rw [hE,hS]
  generalize chkB p b=E at *
  ((refine tO 6 ?_;refine dV (Val.assign rfl) ?_))
  refine A.done zK ?_;refine wB ?_;exact Fin.ret (UpdR g d name p s::R) rfl (Ent.trans (show Ent _ (updM g d name p s a M R) from zE) (upd_in ha)) ⟨rfl,rfl⟩
 rw [hc]
 ((refine tO 6 ?_;refine dV (Val.assign rfl) ?_))
 refine A.done zK ?_;refine wB ?_;have hmo:=chkB_ok hc;have hE0:s.offE name p b=if (manOf b.man).name≠name then 22 else if (manOf b.man).ver≤s.m.ver then 32 else 0:=by unfold USt.offE;rw [if_neg (fun q=>q hc)]
 refine O.call rfl rfl (mDecode_spec _ e um b.man (hN.man.ent (one_in zP)) zo) ?_;rintro v1 _ ⟨hd1,-⟩;obtain ⟨Mm,vf,vn,rfl,hf,hn,rfl⟩:=hd1 hmo;clear hd1;refine O.of_sep (RdB.one (hf.ent (one_in zP))) fun q7=>?_
 refine O.of_sep (RdB.one (hn.ent (one_in zP))) fun q8=>?_
 (repeat (refine wA ?_;intros))
 rename_i g8
 by_cases hnm:(manOf b.man).name=name
 rotate_left
 ·have hE:s.offE name p b=22:=by rw [hE0,if_pos hnm]
  have hS:s.offS name p b=s:=by unfold USt.offS;rw [hE,if_neg (by decide)]
  rw [hE,hS];refine A.start (id:=8) [] mixed ?_
  (refine tF 0 ?_;refine tL 1 ?_;refine tM 2 ?_;refine tN 3 ?_;refine tF 4 ?_;refine tL 5 ?_;refine tk 6 (.bool true) rfl (Val.yes (Val.neqStr rfl rfl) zy) ?_;refine tA 7 ?_)
  refine A.done zK ?_;refine wB ?_;exact Fin.ret (UpdR g d name p s::R) rfl (Ent.trans (show Ent _ (updM g d name p s a M R) from zE) (upd_in ha)) ⟨rfl,rfl⟩
 subst hnm;rw [if_neg (fun q=>q rfl)] at hE0
 refine A.start (id:=8) [] mixed ?_
 (refine tF 0 ?_;refine tL 1 ?_;refine tM 2 ?_;refine tN 3 ?_;refine tF 4 ?_;refine tL 5 ?_;refine tk 6 (.bool false) rfl (Val.no (Val.neqStr rfl rfl) zn) ?_;refine tA 7 ?_)
 refine A.done zK ?_
 by_cases hvr:(manOf b.man).ver≤s.m.ver
 ·have hE:s.offE (manOf b.man).name p b=32:=by rw [hE0,if_pos hvr]
  have hS:s.offS (manOf b.man).name p b=s:=by unfold USt.offS;rw [hE,if_neg (by decide)]
  rw [hE,hS];refine wB ?_;refine A.start (id:=10) [] mixed ?_
  (refine tF 0 ?_;refine tL 1 ?_;refine tM 2 ?_;refine tN 3 ?_;refine tF 4 ?_;refine tF 5 ?_;refine tL 6 ?_;refine tk 7 (.bool true) rfl (Val.yes (Val.leq rfl rfl) zy) ?_;refine tA 8 ?_)
  refine A.done zK ?_;refine wB ?_;exact Fin.ret (UpdR g d (manOf b.man).name p s::R) rfl (Ent.trans (show Ent _ (updM g d (manOf b.man).name p s a M R) from zE) (upd_in ha)) ⟨rfl,rfl⟩
 have hE:s.offE (manOf b.man).name p b=0:=by rw [hE0,if_neg hvr]
 have hS:s.offS (manOf b.man).name p b=⟨s.recs++[b.man]⟩:=by unfold USt.offS;rw [if_pos hE]
 have hok2:=USt.offS_ok ha.st hb2 hs hE;rw [hE,hS];have hjl:=layP_len (l:=s.recs) (n:=200) ha.st.short;obtain ⟨p1,p2,p3⟩:=add_plain (b:=layP s.recs) (m:=b.man) (sy:=(layP s.recs).length) zo;refine wB ?_;refine A.start (id:=10) [] mixed ?_
 (refine tF 0 ?_;refine tL 1 ?_;refine tM 2 ?_;refine tN 3 ?_;refine tF 4 ?_;refine tF 5 ?_;refine tL 6 ?_;refine tk 7 (.bool false) rfl (Val.no (Val.leq rfl rfl) zn) ?_;refine tA 8 ?_)
 refine A.done zK ?_;refine wB ?_;refine A.begin (id:=12) [7] (Blk g5 (bunC b um up ur ua uq uc) tBun (0,0)::N::Blk g (a.cells (manOf b.man).name p s) tUpd (0,0)::R) mixed ?_
 (refine tM 0 ?_;refine tN 1 ?_;refine tF 2 ?_;refine tL 3 ?_;refine tF 4 ?_;refine tL 5 ?_)
 have hja:=fun L:List Res=>fun hvL:RdB L um b.man=>jadd_spec L e a.gj d s.recs.length (diskS (layP s.recs) (layP s.recs).length) b.man um (diskS_ok zo (Nat.le_refl _)) hvL zo zo
 rw [p1,p2,p3] at hja
 refine tO 6 ?_;refine Do.call rfl rfl (Ct.at2 zP zP (hja _ (hN.man.ent (one_in zP)))) ?_;rintro _ _ ⟨rfl,rfl⟩;refine ⟨fun _=>zE,?_⟩
 ((refine tO 7 ?_;refine dV (Val.assign rfl) ?_))
 refine A.done zK ?_;refine wB ?_;have hm2:USt.m ⟨s.recs++[b.man]⟩=manOf b.man:=manL_snoc _ _;have hall:Ent [All [M,Mm]] [M]:=Ent.trans (all_out (M:=[_,_]) (L:=[])) (Ent.cons Ent.nil);have hall2:Ent [All [M,Mm]] [Mm]:=Ent.trans (all_out (M:=[_,_]) (L:=[])) (Ent.drop (Ent.cons Ent.nil))
 have ha2:UMem.ok { a with vf:=vf,vn:=vn } (All [M,Mm]) (manOf b.man).name p ⟨s.recs++[b.man]⟩ :=
  ⟨ha.pol.ent hall,by rw [hm2];exact hf.ent hall2,by rw [hm2];exact hn.ent hall2,hok2,ha.pr⟩
 refine Fin.ret (UpdR g d (manOf b.man).name p ⟨s.recs++[b.man]⟩::R) rfl (Ent.trans ?_ (upd_in ha2)) ⟨rfl,rfl⟩;simp only [updM,UMem.cells,hm2,layP_snoc,List.length_append,List.length_singleton];exact Ent.trans (pull2_all (A:=M) (B:=Mm) zP zP) zE
theorem uOpen_spec (d:Nat) (name:Bts) (vl vw:Value) (p:Pol) (s:USt) (hp:RdPol R vl vw p) (hpr:p.right) (hnm:nameP name) (hs:s.ok name) :
 Ct prog 47 #[pt d,.string (str name),.agg (polC p vl vw).toArray] e (Disk d (disk0 (layP s.recs))::R) (fun v' L'=>∃ g,v'=.tuple #[pt g,.int .i64 0]∧L'=UpdR g d name p s::R):=by
 have hjl:=layP_len (l:=s.recs) (n:=200) hs.short;have hrsz:∀ m∈s.recs,m.length≤65535:=fun m hm=>by have:=hs.short m hm;omega
 have hop:=openP_all s.recs hrsz;have hsz:=hs.size;have hfr:Ent (Disk d (disk0 (layP s.recs))::R) R:=zE;refine Ct.of_sep (RdB.one (hp.log.ent hfr)) fun o2=>?_
 refine Ct.of_sep (hp.wits.ent hfr).one fun o3=>?_
 have hnl:=hnm.2.1;have hmr:Man.right ⟨name,1,List.replicate 32 0,[]⟩:=⟨hnm,Nat.one_pos,rfl,Nat.zero_le _⟩
 refine Ct.enter (args:=[_,_,_]) func47 rfl ntmps47 results47 rfl ?_
 (repeat (refine wA ?_;intros))
 rename_i g5;refine O.do (Do.makeSlice (c:=32) rfl rfl rfl rfl zl (by decide) fun gz=>?_)
 have hz:List.replicate 32 (Value.int .u8 0)=(List.replicate 32 (0:UInt8)).map u8:=rfl;rw [hz]
 (repeat (refine wA ?_;intros))
 refine O.call rfl rfl (mRight_spec _ e (.slice (some ⟨gz,0,none⟩) 32 32) nY ⟨name,1,List.replicate 32 0,[]⟩ (RdSl.own .zero) (RdSl.nil _ _) zd) ?_;rintro _ _ ⟨rfl,rfl⟩;rw [decide_eq_true hmr];refine wB ?_;refine O.call rfl rfl (gRight_spec _ e vl vw p (hp.ent zE) hpr) ?_;rintro _ _ ⟨rfl,rfl⟩;refine wB ?_;refine O.call rfl rfl (Ct.at zP (jopen0_spec _ e d (layP s.recs) zo)) ?_;rintro _ _ (⟨h1,-⟩|⟨-,gj,adr,cr,ts,rfl,hts,rfl⟩)
 ·rw [hop] at h1;cases h1
 rw [hop] at hts ⊢
 rw [show (layP s.recs).take (layP s.recs).length=layP s.recs from List.take_length];dsimp only at hts
 have htl:ts.length=s.recs.length:=by have:=congrArg List.length hts;rwa [List.length_map] at this
 refine wB ?_;refine O.call rfl rfl (uPolicy_spec _ e vl vw p (hp.ent zE) (by have:=hpr.log;omega) (by have:=hpr.most;omega) (fun b hb=>by have:=hpr.sizes b hb;omega)) ?_;rintro _ _ ⟨Mp,ul,uw,rfl,hMp,rfl⟩;refine O.of_sep (RdB.one (hMp.log.ent (one_in zP))) fun o4=>?_
 refine O.of_sep (hMp.wits.ent (one_in zP)).one fun o5=>?_
 (repeat (refine wA ?_;intros))
 rename_i gu;refine W.loop (ι:=Nat × Res × Value × Value) (fun i=>[(1,.string (str name)),(11,pt gu),(41,.slice adr ts.length cr),(42,.int .i64 (ts.length:Int)),(43,.int .i64 (i.1:Int))]) (fun i=>Blk gu (UMem.cells ⟨gj,ul,uw,i.2.2.1,i.2.2.2⟩ name p ⟨s.recs.take i.1⟩) tUpd (0,0)::i.2.1::Mp::Items ts::OwnT (.slice adr ts.length cr) ts::Jrn gj d ts.length::Disk d (disk0 (layP s.recs))::R) (fun i=>i.1≤ts.length∧RdB [i.2.1] i.2.2.1 (manL (s.recs.take i.1)).fw∧RdB [i.2.1] i.2.2.2 (manL (s.recs.take i.1)).notes) (fun i=>ts.length - i.1) (0,Items [],nY,nY) ⟨Nat.zero_le _,RdSl.nil _ _,RdSl.nil _ _⟩ zS (Ent.trans items_nil zE) ?_;rintro ⟨i,Mx,vf,vn⟩ ⟨hi,hf,hn⟩;dsimp only at hi hf hn ⊢
 by_cases hlt:i<ts.length
 rotate_left
 ·rw [List.take_of_length_le zo] at hf hn ⊢
  have hall:Ent [All [Mp,Mx]] [Mp]:=Ent.trans (all_out (M:=[_,_]) (L:=[])) (Ent.cons Ent.nil);have hall2:Ent [All [Mp,Mx]] [Mx]:=Ent.trans (all_out (M:=[_,_]) (L:=[])) (Ent.drop (Ent.cons Ent.nil));have hok:UMem.ok ⟨gj,ul,uw,vf,vn⟩ (All [Mp,Mx]) name p s:=⟨hMp.ent hall,hf.ent hall2,hn.ent hall2,hs,hpr⟩
  refine wB ?_;refine Fin.ret (UpdR gu d name p s::R) rfl (Ent.trans ?_ (upd_in hok)) ⟨gu,rfl,rfl⟩;dsimp only [updM];rw [← htl];exact Ent.trans (pull2_all (A:=Mp) (B:=Mx) zP zP) zE
 have hlr:i<s.recs.length:=by omega
 have hti:(ts[i]'hlt).2=s.recs[i]'hlr:=by
  have:=congrArg (fun l=>l[i]?) hts;simp only [List.getElem?_map,List.getElem?_eq_getElem hlt,List.getElem?_eq_getElem hlr,Option.map_some,Option.some.injEq] at this
  exact this
 have htk:s.recs.take (i+1)=s.recs.take i++[s.recs[i]'hlr]:=List.take_succ_eq_append_getElem hlr;have hgi:=hs.good _ (List.getElem_mem hlr);have hsi:=hs.short _ (List.getElem_mem hlr);have hni:=hs.name _ (List.getElem_mem hlr)
 have hvi:(manL (s.recs.take i)).ver<(manOf (s.recs[i]'hlr)).ver:=by
  have hr:=hs.rise.sublist ((List.take_sublist (i+1) s.recs).map fun b=>(manOf b).ver);rw [htk,List.map_append] at hr
  unfold manL
  cases hl:(s.recs.take i).getLast? with
  | none=>exact hgi.2.2.2.1
  | some q=>exact (List.pairwise_append.1 hr).2.2 _ (List.mem_map.2 ⟨q,List.mem_of_getLast? hl,rfl⟩) _ (by simp)
 have hm2:manL (s.recs.take (i+1))=manOf (s.recs[i]'hlr):=by rw [htk,manL_snoc]
 refine W.of_sep ((RdSl.own (show Pull _ (OwnT (.slice adr ts.length cr) ts) _ from zP)).shape zo) ?_;rintro ⟨⟨ad',c',hv',h3',h4',h5',h6'⟩,_⟩
 cases hv'
 simp only [maxLen] at h4'
 rcases h6' with h6'|⟨gr,or',rfl⟩
 ·omega
 have hrd:∀ L R',Pull L (OwnT (.slice (some ⟨gr,or',none⟩) ts.length cr) ts) R'→Rd L ⟨gr,or'+i,none⟩ (ts[i]'hlt).1:=fun L R' p=>(RdSl.own p).elem (by rw [List.getElem?_map,List.getElem?_eq_getElem hlt];rfl)
 have hit:∀ L R',Pull L (Items ts) R'→RdB L (ts[i]'hlt).1 (ts[i]'hlt).2:=fun L R' p=>Txts.pull p _ (List.getElem_mem hlt)
 generalize s.recs[i]'hlr=n at *
 generalize ts[i]'hlt=y at *
 obtain ⟨yv,b⟩:=y;dsimp only at hrd hit hti
 subst hti;refine W.of_sep (RdB.one (hit _ _ zP)) fun oy=>?_
 refine wB ?_;refine O.load rfl (hrd _ _ zP) rfl ?_;refine wB ?_;refine O.call rfl rfl (mDecode_spec _ e yv b (hit _ _ zP) zo) ?_;rintro v1 _ ⟨hd,-⟩;obtain ⟨Md,wf,wn,rfl,hf1,hn1,rfl⟩:=hd hgi;refine O.of_sep (RdB.one (hf1.ent (one_in zP))) fun o6=>?_
 refine O.of_sep (RdB.one (hn1.ent (one_in zP))) fun o7=>?_
 subst hni;have hlen1:(s.recs.take i).length=i:=by rw [List.length_take];omega
 have hlen2:(⟨s.recs.take i⟩:USt).recs.length=i:=hlen1;have hvi2:(USt.m ⟨s.recs.take i⟩).ver<(manOf b).ver:=hvi
 (repeat (refine wA ?_;intros))
 refine A.start (id:=11) [] mixed ?_
 (refine tM 0 ?_;refine tk 1 (.bool false) rfl (Val.no (Val.neq rfl rfl) zn) ?_;refine tM 2 ?_;refine tkG 3 _ rfl (Val.fieldAddr rfl) ?_;refine tkG 4 _ rfl (Val.load rfl zR) ?_;refine tkG 5 _ rfl (Val.move rfl) ?_;refine tkG 6 (.bool false) rfl (Val.no (Val.neqStr rfl rfl) zn) ?_;refine tk 7 _ rfl (Val.pick_f rfl rfl) ?_;refine tM 8 ?_;refine tkG 9 _ rfl (Val.fieldAddr rfl) ?_;refine tkG 10 _ rfl (Val.load rfl zR) ?_;refine tkG 11 _ rfl (Val.move rfl) ?_;refine tkG 12 _ rfl (Val.nilCheck rfl) ?_;refine tkG 13 _ rfl (Val.fieldAddr rfl) ?_;refine tkG 14 _ rfl (Val.fieldAddr rfl) ?_;refine tkG 15 _ rfl (Val.load rfl zR) ?_;refine tkG 16 (.bool false) rfl (Val.no (Val.leq rfl rfl) zn) ?_;refine tk 17 _ rfl (Val.pick_f rfl rfl) ?_)
 refine A.done zK ?_;refine wB ?_;have hcell:((⟨s.recs.take (i+1)⟩:USt).recs.length:Int)=((s.recs.take i).length:Int)+1:=by rw [htk];simp
 have hms:USt.m ⟨s.recs.take (i+1)⟩=manOf b:=hm2;refine Fin.round (i+1,Md,wf,wn) ⟨hlt,by dsimp only;rw [hm2];exact hf1,by dsimp only;rw [hm2];exact hn1⟩ zd zS ?_;dsimp only [UMem.cells];rw [hms,hcell];exact zE
structure MSt where
 items:List Bts
 last:Option Sgd
def MSt.lastV (s:MSt):Sgd:=s.last.getD sgdZ
structure MSt.ok (s:MSt):Prop where
 size:s.items.length≤1000
 short:∀ b∈s.items,b.length≤1000
 last:∀ x,s.last=some x→x.fits
abbrev tMon:TypeId:=181
structure MMem where
 vl:Value
 ai:Option Addr
 ci:Nat
 ts:List Txt
 al:Option Addr
 cl:Nat
 us:List Txt
 ur:Value
 up:Value
 uq:Value
structure MMem.ok (a:MMem) (M:Res) (log:Bts) (s:MSt):Prop where
 log:RdB [M] a.vl log
 items:a.ts.map (·.2)=s.items
 txts:Txts [M] a.ts
 leaves:a.us.map (·.2)=s.items.map leafP
 txtl:Txts [M] a.us
 last:RdSgd [M] a.ur a.up a.uq s.lastV
 st:s.ok
abbrev MMem.cells (a:MMem) (s:MSt):List Value:=[a.vl,.slice a.ai a.ts.length a.ci,.slice a.al a.us.length a.cl,nY]++sgdC s.lastV a.ur a.up a.uq++[.bool s.last.isSome]
abbrev monM (g:Nat) (s:MSt) (a:MMem) (M:Res) (R:List Res):List Res :=
 Blk g (a.cells s) tMon (0,0)::OwnT (.slice a.ai a.ts.length a.ci) a.ts::OwnT (.slice a.al a.us.length a.cl) a.us::M::R
def MonAt (g:Nat) (log:Bts) (s:MSt) (a:MMem) (M:Res):Res:=All (Pu (a.ok M log s)::monM g s a M [])
def MonR (g:Nat) (log:Bts) (s:MSt):Res:=Ex fun a=>Ex fun M=>MonAt g log s a M
theorem mon_in {g:Nat} {log:Bts} {s:MSt} {a:MMem} {M:Res} {R:List Res} (h:a.ok M log s):Ent (monM g s a M R) (MonR g log s::R) :=
 Ent.trans (pu_in h) (Ent.trans (all_in (M:=Pu (a.ok M log s)::monM g s a M []) (L:=R)) (Ent.trans (ex_in (f:=fun M=>MonAt g log s a M) M) (ex_in (f:=fun a=>Ex fun M=>MonAt g log s a M) a)))
theorem mNew_spec (v:Value) (log:Bts) (hv:RdB R v log) (hl:log.length=32) :
 Ct prog 37 #[v] e R (fun v' L'=>∃ g,v'=.tuple #[pt g,.int .i64 0]∧L'=MonR g log ⟨[],none⟩::R):=by
 refine Ct.of_sep (RdSl.shape hv zo) ?_;rintro ⟨⟨ad,c,rfl,-,-,-,-⟩,_⟩;refine Ct.enter (args:=[_]) func37 rfl ntmps37 results37 rfl ?_;refine wB ?_;refine O.call rfl rfl (clone_spec _ e _ log (hv.ent zE) zo) ?_;rintro _ _ ⟨ad1,c1,rfl,rfl⟩
 (repeat (refine wA ?_;intros))
 rename_i g
 have hok:MMem.ok ⟨.slice ad1 log.length c1,none,0,[],none,0,[],nY,nY,nY⟩ (OwnB (.slice ad1 log.length c1) log) log ⟨[],none⟩ :=
  ⟨RdSl.own .zero,rfl,fun x hx=>absurd hx List.not_mem_nil,rfl,fun x hx=>absurd hx List.not_mem_nil,sgdZ_rd _,⟨Nat.zero_le _,fun b hb=>absurd hb List.not_mem_nil,fun x hx=>nomatch hx⟩⟩
 refine Fin.ret (MonR g log ⟨[],none⟩::R) rfl (Ent.trans (Ent.trans (own_nil tTxts 1) (Ent.trans (own_nil tTxts 1) ?_)) (mon_in hok)) ⟨g,rfl,rfl⟩;dsimp only [monM,MMem.cells];exact zE
end Go.Proofs
namespace Go.Proofs
open Go.Bs
attribute [local irreducible] Bs.Val Bs.Do Bs.O Bs.W Bs.Fin Bs.A Bs.Ct Bs.RdSl Bs.Rd Bs.Sat Bs.Blk Bs.Ob Bs.Own Bs.View Bs.Ent Bs.Ex Bs.All Bs.Pu Bs.Base Bs.sepL Bs.RdA
open Tryz
variable (R:List Res) (e:World)
structure Msg where
 kind:Int
 frm:Int
 to:Int
 v:Value
 b:List UInt8
def Msg.cells (m:Msg):List Value:=[.int .i64 m.kind,.int .i64 m.frm,.int .i64 m.to,m.v]
def Msg.t (m:Msg):Txt:=(m.v,m.b)
def Msg.d (m:Msg):Int × Int × Int × List UInt8:=(m.kind,m.frm,m.to,m.b)
abbrev tMsg:TypeId:=268
theorem ncells4 (m:Msg):m.cells.length=4:=rfl
theorem fm_len:∀ l:List Msg,(l.flatMap Msg.cells).length=l.length*4
 | []=>rfl
 | m::l=>by
  rw [List.flatMap_cons,List.length_append,fm_len l,ncells4,List.length_cons,Nat.add_mul];omega
theorem fm_take (l:List Msg) (i:Nat):(l.flatMap Msg.cells).take (i*4)=(l.take i).flatMap Msg.cells:=by
 induction l generalizing i with
 | nil=>simp
 | cons m l ih =>
  cases i with
  | zero=>simp
  | succ i =>
   rw [List.flatMap_cons,List.take_succ_cons,List.flatMap_cons,List.take_append,ncells4,List.take_of_length_le (by rw [ncells4];omega),← ih]
   congr 2;omega
theorem fm_drop (l:List Msg) (i:Nat):(l.flatMap Msg.cells).drop (i*4)=(l.drop i).flatMap Msg.cells:=by
 induction l generalizing i with
 | nil=>simp
 | cons m l ih =>
  cases i with
  | zero=>simp
  | succ i =>
   rw [List.flatMap_cons,List.drop_succ_cons,List.drop_append,ncells4,List.drop_of_length_le (by rw [ncells4];omega),← ih];simp only [List.nil_append]
   congr 1;omega
abbrev OwnM (v:Value) (l:List Msg):Res:=Own tMsg 4 v l.length (l.flatMap Msg.cells)
def NetAt (g n:Nat) (l:List Msg) (ad:Option Addr) (c:Nat):Res:=All [Blk g [.int .i64 (n:Int),.slice ad l.length c] 224 (0,0),OwnM (.slice ad l.length c) l,Items (l.map Msg.t)]
def Net (g n:Nat) (l:List Msg):Res:=Ex fun ad=>Ex fun c=>NetAt g n l ad c
section
variable {g n:Nat} {l:List Msg} {R:List Res} {P:Program} {e:World}
theorem net_out {f:FuncId} {args:Array Value} {Post:Value→List Res→Prop}
 (h:∀ ad c,Ct P f args e (Blk g [.int .i64 (n:Int),.slice ad l.length c] 224 (0,0)::OwnM (.slice ad l.length c) l::Items (l.map Msg.t)::R) Post):Ct P f args e (Net g n l::R) Post :=
 Ct.ex .zero fun ad=>Ct.ex .zero fun c=>(h ad c).ent all_out
theorem net_outO {N:Fr} {all:Array Oper} {ol:List Oper} {Q:Goal} {σ:Env}
 (h:∀ ad c,O P N all ol Q σ e (Blk g [.int .i64 (n:Int),.slice ad l.length c] 224 (0,0)::OwnM (.slice ad l.length c) l::Items (l.map Msg.t)::R)):O P N all ol Q σ e (Net g n l::R) :=
 O.ex .zero fun ad=>O.ex .zero fun c=>(h ad c).ent all_out
theorem net_in {c:Nat} {ad:Option Addr}:Ent (Blk g [.int .i64 (n:Int),.slice ad l.length c] 224 (0,0)::OwnM (.slice ad l.length c) l::Items (l.map Msg.t)::R) (Net g n l::R) :=
 Ent.trans (all_in (M:=[_,_,_])) (Ent.trans (ex_in (f:=fun c=>NetAt g n l ad c) c) (ex_in (f:=fun ad=>Ex fun c=>NetAt g n l ad c) ad))
end
theorem net_items {g n:Nat} {l:List Msg} {R:List Res}:Ent (Net g n l::R) (Items (l.map Msg.t)::R) :=
 ent_ex fun ad=>ent_ex fun c=>all_out.trans zE
theorem ownM_shape {v:Value} {l:List Msg} {L R:List Res} (p:Pull L (OwnM v l) R):∀ h,sepL L h→∃ ad c,v=.slice ad l.length c∧l.length≤c∧c≤maxLen∧((ad=none∧c=0∧l.length=0)∨∃ g,ad=some ⟨g,0,none⟩):=fun h x=>by
 obtain ⟨⟨ad,c,h1,h2,h3,h4⟩,_⟩:=own_shape p h x;exact ⟨ad,c,h1,h2,h3,h4⟩
theorem nnew_spec (n:Nat) (hn:1≤n∧n≤32) :
 Ct prog 165 #[.int .i64 n] e R (fun v' L'=>∃ g,v'=.tuple #[pt g,.int .i64 0]∧L'=Net g n []::R):=by
 refine Ct.enter (args:=[_]) func165 rfl ntmps165 results165 rfl ?_
 (repeat (refine wA ?_;intros))
 exact Fin.ret _ rfl ((Ent.cons ((own_nil tMsg 4).trans (Ent.cons items_nil))).trans (net_in (l:=[]))) ⟨_,rfl,rfl⟩
theorem nown_spec (m:Msg) (hr:RdB R m.v m.b) (hb:m.b.length≤140737488351232) :
 Ct prog 248 #[.agg m.cells.toArray] e R (fun v' L'=>∃ ad c,v'=.agg (Msg.cells { m with v:=.slice ad m.b.length c }).toArray∧L'=Items [(.slice ad m.b.length c,m.b)]::R):=by
 refine Ct.of_sep (hr.shape zo) ?_;rintro ⟨⟨ad0,c0,hv,g3,g4,g5,g6⟩,_⟩;obtain ⟨kind,frm,to,v,b⟩:=m;dsimp only at hr hb hv g3 g6 ⊢
 subst hv;simp only [Msg.cells];refine Ct.enterC (args:=[_]) func248 rfl ntmps248 results248 rfl ?_
 (repeat (refine wA ?_;intros))
 refine O.call rfl rfl (clone_spec _ e _ b hr.tail.tail zo) ?_;rintro _ _ ⟨ad,c,rfl,rfl⟩;refine wB ?_;apply Fin.retC
 ·exact zV
 ·exact ⟨_,(show Ent _ (OwnB (.slice ad b.length c) b::R) from zE).trans (items_own (a:=(.slice ad b.length c,b))),ad,c,rfl,rfl⟩
theorem nis_spec (g n:Nat) (l:List Msg) (i:Int) (hl:l.length≤1000) :
 Ct prog 249 #[pt g,.int .i64 i] e (Net g n l::R) (fun v' L'=>v'=.bool (decide (0≤i∧i<l.length))∧L'=Net g n l::R):=by
 refine net_out fun ad c=>?_
 refine Ct.enter (args:=[_,_]) func249 rfl ntmps249 results249 rfl ?_
 by_cases h0:0≤i
 ·by_cases h1:i<l.length
  ·refine wB ?_;exact Fin.ret _ rfl net_in ⟨by simp [h0,h1];rfl,rfl⟩
  ·refine wB ?_;exact Fin.ret _ rfl net_in ⟨by simp [h1];rfl,rfl⟩
 ·refine wB ?_;exact Fin.ret _ rfl net_in ⟨by simp [h0];rfl,rfl⟩
theorem nlen_spec (g n:Nat) (l:List Msg) :
 Ct prog 62 #[pt g] e (Net g n l::R) (fun v' L'=>v'=.int .i64 (l.length:Int)∧L'=Net g n l::R):=by
 refine net_out fun ad c=>?_
 refine Ct.enter (args:=[_]) func62 rfl ntmps62 results62 rfl ?_;refine wB ?_;exact Fin.ret _ rfl net_in ⟨rfl,rfl⟩
theorem nsend_spec (g n:Nat) (l:List Msg) (m:Msg) (hr:RdB (Net g n l::R) m.v m.b) (hb:m.b.length≤140737488351232) (hl:l.length≤n) (hn:n≤1000) :
 Ct prog 176 #[pt g,.agg m.cells.toArray] e (Net g n l::R)
  (fun v' L'=>(l.length<n∧v'=.bool true∧∃ v2,L'=Net g n (l++[{ m with v:=v2 }])::R)∨(¬ l.length<n∧v'=.bool false∧L'=Net g n l::R)):=by
 refine Ct.of_sep (RdB.one hr) ?_;intro h1;refine net_out fun ad c=>?_
 refine Ct.enter (args:=[_,_]) func176 rfl ntmps176 results176 rfl ?_
 by_cases hlt:l.length<n
 ·have hrb:∀ A,RdB (A::Blk g [.int .i64 (n:Int),.slice ad l.length c] 224 (0,0)::OwnM (.slice ad l.length c) l::Items (l.map Msg.t)::R) m.v m.b:=fun A=>(hr.ent net_in).tail
  obtain ⟨kind,frm,to,v,b⟩:=m;dsimp only at hrb h1 hb
  simp only [Msg.cells]
  (repeat' first|refine Zb ?_|apply Zc|apply Zd|apply Ze|apply Zf|refine Yg fun _=>?_|refine YA ?_|apply YC|(refine A.start (id:=1) [] mixed ?_;all_goals (refine tM 0 ?_);all_goals (refine tN 1 ?_);all_goals (refine tF 2 ?_);all_goals (refine tL 3 ?_);all_goals (refine tk 4 _ rfl (Val.len rfl) ?_);all_goals (refine tM 5 ?_);all_goals (refine tN 6 ?_);all_goals (refine tF 7 ?_);all_goals (refine tL 8 ?_);all_goals (first|refine tk 9 (.bool true) rfl (Val.yes (Val.geq rfl rfl) zy) ?_|refine tk 9 (.bool false) rfl (Val.no (Val.geq rfl rfl) zn) ?_);all_goals (refine A.done zK ?_)))
  rename_i gb;refine A.begin (id:=3) [9,10,11] [Blk gb [.int .i64 kind,.int .i64 frm,.int .i64 to,v] tMsg (0,0),Blk g [.int .i64 (n:Int),.slice ad l.length c] 224 (0,0)] mixed ?_
  (refine tM 0 ?_;refine tM 1 ?_;refine tN 2 ?_;refine tF 3 ?_;refine tL 4 ?_)
  refine tk 5 _ rfl (Val.loadAggR (cs:=[.int .i64 kind,.int .i64 frm,.int .i64 to,v]) rfl zA rfl) ?_;refine tO 6 ?_;refine Do.call rfl rfl (nown_spec _ e ⟨kind,frm,to,v,b⟩ (hrb _) hb) ?_;rintro _ _ ⟨ad2,c2,rfl,rfl⟩;refine ⟨fun _=>zE,?_⟩;refine tO 7 ?_;refine Do.buildSlice (n:=4) rfl rfl rfl rfl zQ rfl (fun g2=>⟨fun _=>zE,?_⟩);refine tO 8 ?_;refine Do.append rfl rfl rfl zP (RdSl.blkN (n:=4) (c:=1) .zero rfl zl) rfl rfl (by simp [Value.oneCell',Msg.cells]) zm zo fun ad3 c3 _=>⟨fun _=>zE,?_⟩
  ((refine tO 9 ?_;refine dV (Val.nilCheck rfl) ?_);(refine tO 10 ?_;refine dV (Val.fieldAddr rfl) ?_);(refine tO 11 ?_;refine zs1 ?_;refine ⟨zN,?_⟩))
  refine A.done zK ?_;refine wB ?_;refine Fin.ret (Net g n (l++[⟨kind,frm,to,.slice ad2 b.length c2,b⟩])::R) rfl (Ent.trans (show Ent _ (Items (l.map Msg.t)::Items [(.slice ad2 b.length c2,b)]::Blk g [.int .i64 (n:Int),.slice ad3 (l.length+1) c3] 224 (0,0)::Own tMsg 4 (.slice ad3 (l.length+1) c3) (l.length+1) (l.flatMap Msg.cells++Msg.cells ⟨kind,frm,to,.slice ad2 b.length c2,b⟩)::R) from zE) ?_) (.inl ⟨hlt,rfl,_,rfl⟩);refine Ent.trans items_append (Ent.trans ?_ (net_in (ad:=ad3) (c:=c3)));simp only [OwnM,List.length_append,List.length_singleton,List.flatMap_append,List.flatMap_cons,List.flatMap_nil,List.append_nil,List.map_append,List.map_cons,List.map_nil];exact zE
 ·(repeat' first|refine Zb ?_|apply Zc|apply Zd|apply Ze|apply Zf|refine Yg fun _=>?_|refine Yz ?_|apply YE|apply YF|(refine A.start (id:=1) [] mixed ?_;all_goals (refine tM 0 ?_);all_goals (refine tN 1 ?_);all_goals (refine tF 2 ?_);all_goals (refine tL 3 ?_);all_goals (refine tk 4 _ rfl (Val.len rfl) ?_);all_goals (refine tM 5 ?_);all_goals (refine tN 6 ?_);all_goals (refine tF 7 ?_);all_goals (refine tL 8 ?_);all_goals (first|refine tk 9 (.bool true) rfl (Val.yes (Val.geq rfl rfl) zy) ?_|refine tk 9 (.bool false) rfl (Val.no (Val.geq rfl rfl) zn) ?_);all_goals (refine A.done zK ?_)))
  exact Fin.ret _ rfl (Ent.trans zE net_in) (.inr ⟨hlt,rfl,rfl⟩)
theorem ntake_mid {α:Type} {A Y zs W:List α} {m:Nat} (h:A.length=m):((A++Y).take m++zs++W).take m=A:=by
 rw [List.take_left' h,List.append_assoc,List.take_left' h]
theorem ndelete_spec (ad:Option Addr) (c:Nat) (l:List Msg) (i:Nat) (hi:i<l.length) (hb:∀ m∈l,m.v.oneCell'=true) :
 Ct prog 250 #[.slice ad l.length c,.int .i64 i,.int .i64 ((i:Int)+1)] e (OwnM (.slice ad l.length c) l::R) (fun v' L'=>v'=.slice ad (l.take i++l.drop (i+1)).length c∧L'=OwnM (.slice ad (l.take i++l.drop (i+1)).length c) (l.take i++l.drop (i+1))::R):=by
 refine Ct.of_sep (ownM_shape .zero) ?_;rintro ⟨_,_,hv,hc,hm,hg⟩
 cases hv
 rcases hg with ⟨_,_,h0⟩|⟨g,rfl⟩
 ·omega
 simp only [maxLen] at hm
 have hone:∀ c∈l.flatMap Msg.cells,c.oneCell'=true:=fun c hc=>by
  obtain ⟨m,hm,hc⟩:=List.mem_flatMap.1 hc;simp only [Msg.cells,List.mem_cons,List.not_mem_nil,or_false] at hc
  rcases hc with rfl|rfl|rfl|rfl
  ·rfl
  ·rfl
  ·rfl
  ·exact hb m hm
 refine Ct.enter (args:=[_,_,_]) func250 rfl ntmps250 results250 rfl ?_;refine wB ?_;refine O.val _ (Val.slice3 rfl rfl rfl rfl zo zo zo zo) rfl ?_;have e1:((i:Int)+1).toNat=i+1:=by omega
 have hlen:(l.take i++l.drop (i+1)).length=l.length - 1:=by rw [List.length_append,List.length_take,List.length_drop];omega
 refine wB ?_;refine A.begin (id:=5) [7] [] mixed ?_;refine A.take 0 _ rfl zK Ent.nil (Val.move rfl) rfl ?_;refine A.take 1 _ rfl zK Ent.nil (Val.move rfl) rfl ?_;refine A.take 2 _ rfl zK Ent.nil (Val.sliceHi rfl rfl zo zo) rfl ?_;refine A.take 3 _ rfl zK Ent.nil (Val.move rfl) rfl ?_;refine A.take 4 _ rfl zK Ent.nil (Val.move rfl) rfl ?_;refine A.take 5 _ rfl zK Ent.nil (Val.sliceLo rfl rfl zo zo) rfl ?_;refine tO 6 ?_;refine Do.appendIn (i:=i) (j:=i+1) (m:=l.length - (i+1)) rfl rfl rfl .zero rfl zo zo ?_ hone ⟨fun _=>Ent.nil,?_⟩
 ·rcases Nat.lt_or_ge (i+1) l.length with h|h
  ·right
   unfold cutAt;rw [if_neg zo,e1]
   simp [Addr.add_lit]
  ·left;omega
 refine tO 7 ?_;refine Do.val (Val.assign rfl) rfl ⟨fun _=>Ent.nil,?_⟩;refine A.done zK ?_;have e2:((i+(l.length - (i+1)):Nat):Int).toNat=l.length - 1:=by omega
 have e3:i+(l.length - (i+1))=l.length - 1:=by omega
 refine wB ?_;refine O.do (Do.clear (o:=(l.length - 1)*4) rfl .zero rfl (by simp [Value.oneCell',Value.cells]) zo (.inr ?_) fun zs hz=>?_)
 ·unfold cutAt;rw [if_neg zo,e2]
  simp [Addr.add_lit]
 have hcut:=own_cutHi (E:=tMsg) (n:=4) (ad:=some ⟨g,0,none⟩) (k:=l.length) (lo:=l.length - 1) (c:=c) (R:=R)
  (xs:=((l.flatMap Msg.cells).take (i*4)++((l.flatMap Msg.cells).drop ((i+1)*4)).take ((l.length - (i+1))*4)++(l.flatMap Msg.cells).drop ((i+(l.length - (i+1)))*4)).take ((l.length - 1)*4)++zs ++
   ((l.flatMap Msg.cells).take (i*4)++((l.flatMap Msg.cells).drop ((i+1)*4)).take ((l.length - (i+1))*4)++(l.flatMap Msg.cells).drop ((i+(l.length - (i+1)))*4)).drop ((l.length - 1)*4+((l.length:Int).toNat - ((i+(l.length - (i+1)):Nat):Int).toNat)*4)) zo
 refine O.ent1 hcut ?_;refine wB ?_;rw [e3];refine Fin.ret _ rfl ?_ ⟨by rw [hlen];rfl,rfl⟩;unfold OwnM;rw [hlen];have hx:=fm_len l
 have e4:((l.flatMap Msg.cells).take (i*4)++((l.flatMap Msg.cells).drop ((i+1)*4)).take ((l.length - (i+1))*4)).length=(l.length - 1)*4:=by
  simp only [List.length_append,List.length_take,List.length_drop,hx];omega
 rw [ntake_mid e4,fm_take,fm_drop,fm_take,List.take_of_length_le (l:=l.drop (i+1)) (by rw [List.length_drop];omega),← List.flatMap_append];exact Ent.rfl
theorem nitems_zero {R:List Res} {l:List Msg} {i:Nat} (h:i<l.length):Ent (Items (l.map Msg.t)::R) (Items [(l[i]'h).t]::Items ((l.take i++l.drop (i+1)).map Msg.t)::R):=by
 have e1:l.map Msg.t=(l.take i).map Msg.t++([(l[i]'h).t]++(l.drop (i+1)).map Msg.t):=by
  have e2:l=l.take i++l[i]::l.drop (i+1):=by rw [← List.drop_eq_getElem_cons h,List.take_append_drop]
  conv=>lhs;rw [e2]
  simp only [List.map_append,List.map_cons,List.singleton_append]
 rw [e1,List.map_append];refine Ent.trans items_split (Ent.trans (Ent.cons items_split) (Ent.trans (Ent.pull (.succ .zero) Ent.rfl) (Ent.cons items_append)))
theorem ntake_spec (g n:Nat) (l:List Msg) (i:Int) (hl:l.length≤1000) (hb:∀ m∈l,m.v.oneCell'=true) :
 Ct prog 177 #[pt g,.int .i64 i] e (Net g n l::R)
  (fun v' L'=>(∃ (k:Nat) (h:k<l.length),i=k∧v'=.tuple #[.agg (l[k]'h).cells.toArray,.bool true]∧L'=Items [(l[k]'h).t]::Net g n (l.take k++l.drop (k+1))::R) ∨
   (¬ (0≤i∧i<l.length)∧v'=.tuple #[.agg (Msg.cells ⟨0,0,0,nY,[]⟩).toArray,.bool false]∧L'=Net g n l::R)):=by
 refine Ct.enterC (args:=[_,_]) func177 rfl ntmps177 results177 rfl ?_
 (repeat (refine wA ?_;intros))
 refine O.call rfl rfl (Ct.at (.succ .zero) (nis_spec _ e g n l i hl)) ?_;rintro _ _ ⟨rfl,rfl⟩
 by_cases h:0≤i∧i<l.length
 ·obtain ⟨k,rfl⟩:=Int.eq_ofNat_of_zero_le h.1;have hk:k<l.length:=by omega
  rw [show decide (0≤(k:Int)∧(k:Int)<l.length)=true by simp [hk]];refine O.ent1 (Ent.pull .zero Ent.rfl) ?_;refine net_outO fun ad c=>?_
  refine O.of_sep (ownM_shape (.succ .zero)) ?_;rintro ⟨_,_,hv,hc,hm,hg⟩
  cases hv
  rcases hg with ⟨_,_,h0⟩|⟨g1,rfl⟩
  ·omega
  have hag:∀ L',RdA (OwnM (.slice (some ⟨g1,0,none⟩) l.length c) l::L') g1 (0+k*4) (l[k]'hk).cells:=fun L'=>RdA.elem (RdSl.own .zero) ncells4 (List.getElem?_eq_getElem hk)
  have h1:=hb _ (List.getElem_mem hk);refine wB ?_;refine O.loadAggR rfl (hag _).tail rfl rfl ?_
  generalize hm:l[k]'hk=m at *
  obtain ⟨kind,frm,to,v,b⟩:=m;dsimp only at h1
  simp only [Msg.cells]
  (repeat (refine wA ?_;intros))
  refine O.call rfl rfl (Ct.at (.succ (.succ .zero)) (ndelete_spec _ e (some ⟨g1,0,none⟩) c l k hk hb)) ?_;rintro _ _ ⟨rfl,rfl⟩;refine wB ?_;apply Fin.retC
  ·exact zV
  ·refine ⟨Items [(l[k]'hk).t]::Net g n (l.take k++l.drop (k+1))::R,?_,.inl ⟨k,hk,rfl,by rw [hm];rfl,rfl⟩⟩;refine Ent.trans (show Ent _ (Items (l.map Msg.t)::Blk g [.int .i64 (n:Int),.slice (some ⟨g1,0,none⟩) (l.take k++l.drop (k+1)).length c] 224 (0,0)::OwnM (.slice (some ⟨g1,0,none⟩) (l.take k++l.drop (k+1)).length c) (l.take k++l.drop (k+1))::R) from zE) ?_;refine Ent.trans (nitems_zero hk) (Ent.cons (Ent.trans ?_ (net_in (ad:=some ⟨g1,0,none⟩) (c:=c))));exact zE
 ·rw [show decide (0≤i∧i<l.length)=false by simpa using h];refine wB ?_;apply Fin.retC
  ·exact zV
  ·exact ⟨_,zE,.inr ⟨h,rfl,rfl⟩⟩
theorem ndouble_spec (g n:Nat) (l:List Msg) (i:Int) (hl:l.length≤n) (hn:n≤1000) (hb:∀ m∈l,m.b.length≤140737488351232) :
 Ct prog 181 #[pt g,.int .i64 i] e (Net g n l::R)
  (fun v' L'=>(∃ (k:Nat) (h:k<l.length) (v2:Value),i=k∧l.length<n∧v'=.bool true∧L'=Net g n (l++[{ (l[k]'h) with v:=v2 }])::R) ∨
   (¬ ((0≤i∧i<l.length)∧l.length<n)∧v'=.bool false∧L'=Net g n l::R)):=by
 refine Ct.enter (args:=[_,_]) func181 rfl ntmps181 results181 rfl ?_;refine wB ?_;refine O.call rfl rfl (nis_spec _ e g n l i zo) ?_;rintro _ _ ⟨rfl,rfl⟩
 by_cases h:0≤i∧i<l.length
 ·obtain ⟨k,rfl⟩:=Int.eq_ofNat_of_zero_le h.1;have hk:k<l.length:=by omega
  rw [show decide (0≤(k:Int)∧(k:Int)<l.length)=true by simp [hk]];refine net_outO fun ad c=>?_
  refine O.of_sep (ownM_shape (.succ .zero)) ?_;rintro ⟨_,_,hv,hc,hm,hg⟩
  cases hv
  rcases hg with ⟨_,_,h0⟩|⟨g1,rfl⟩
  ·omega
  have hag:∀ L',RdA (OwnM (.slice (some ⟨g1,0,none⟩) l.length c) l::L') g1 (0+k*4) (l[k]'hk).cells:=fun L'=>RdA.elem (RdSl.own .zero) ncells4 (List.getElem?_eq_getElem hk)
  have hrd:RdB (Net g n l::R) (l[k]'hk).v (l[k]'hk).b:=RdB.ent (items_rd (l[k]'hk).t (List.mem_map.2 ⟨_,List.getElem_mem hk,rfl⟩)) net_items;refine wB ?_;refine O.loadAggR rfl (hag _).tail rfl rfl ?_
  (repeat (refine wA ?_;intros))
  refine O.ent1 net_in ?_;refine O.call rfl rfl (nsend_spec R e g n l (l[k]'hk) hrd (hb _ (List.getElem_mem hk)) hl hn) ?_;rintro _ _ (⟨h1,rfl,v2,rfl⟩|⟨h1,rfl,rfl⟩)
  ·refine wB ?_;exact Fin.ret _ rfl Ent.rfl (.inl ⟨k,hk,v2,rfl,h1,rfl,rfl⟩)
  ·refine wB ?_;exact Fin.ret _ rfl Ent.rfl (.inr ⟨fun h2=>h1 h2.2,rfl,rfl⟩)
 ·rw [show decide (0≤i∧i<l.length)=false by simpa using h];refine wB ?_;exact Fin.ret _ rfl Ent.rfl (.inr ⟨fun h2=>h h2.1,rfl,rfl⟩)
end Go.Proofs
namespace Go.Proofs
open Go.Bs
open Tryz
abbrev tPair:TypeId:=340
def keyP (k:Fin 1000 × Fin 1000):Value:=.agg #[.int .i64 (k.1.val:Int),.int .i64 (k.2.val:Int)]
theorem pair_ty:prog.keyTypeAt 3 tPair=true:=by kernel_rfl
theorem pair_c:prog.cellsOf tPair=2:=by kernel_rfl
theorem pair_c1:prog.cellsOf 3=1:=by kernel_rfl
theorem wf_small (n:Fin 1000):(Lit.int .i64 (n.val:Int)).wf=true:=by
 have:=n.isLt
 simp [Lit.wf,IntKind.min,IntKind.max,IntKind.bits,IntKind.signed]
 omega
theorem pair_lits (k:Fin 1000 × Fin 1000):prog.keyLits 3 tPair [.int .i64 (k.1.val:Int),.int .i64 (k.2.val:Int)]=some [.int .i64 (k.1.val:Int),.int .i64 (k.2.val:Int)]:=by
 have h1:=wf_small k.1;have h2:=wf_small k.2
 simp [Program.keyLits,underlying340,underlying3,pair_c,pair_c1,h1,h2]
theorem pair_formed (k:Fin 1000 × Fin 1000):(keyP k).formed prog tPair=true:=by
 simp [keyP,Value.formed,underlying340,pair_c]
theorem pair_eq (w:World) (a b:Fin 1000 × Fin 1000):(Op.equal tPair (keyP a) (keyP b)).run prog w=.ok (decide (a=b)) w:=by
 obtain ⟨r,hr,hiff⟩:=run_equalIn_deep (P:=prog) 9997 3 tPair pair_ty w 3 3 (keyP a) (keyP b) _ _ (pair_formed a) (pair_formed b) (pair_lits a) (pair_lits b)
 have he:decide (a=b)=r:=by
  by_cases h:a=b
  ·subst h;rw [decide_eq_true rfl];exact (hiff.2 rfl).symm
  ·rw [decide_eq_false h]
   cases r with
   | false=>rfl
   | true =>
    have h2:=hiff.1 rfl;simp only [List.cons.injEq,Lit.int.injEq,and_true,true_and] at h2
    exact absurd (Prod.ext (Fin.ext zo) (Fin.ext zo)) h
 rw [he];exact hr
theorem pair_ask (w:World) (k:Fin 1000 × Fin 1000):∀ (l:List MapEntry) (kvs:List ((Fin 1000 × Fin 1000) × Value)) (j:Nat),l.map (fun e=>(e.key,e.val))=kvs.map (fun p=>(keyP p.1,p.2))→(Instr.findAsking tPair (keyP k) l j).run prog w=.ok (posK k kvs j) w
 | [],kvs,j,h=>by
  cases kvs with
  | nil=>rfl
  | cons _ _=>simp at h
 | e::l,kvs,j,h=>by
  cases kvs with
  | nil=>simp at h
  | cons p kvs =>
   simp only [List.map_cons,List.cons.injEq,Prod.mk.injEq] at h
   obtain ⟨⟨h1,h2⟩,h3⟩:=h;unfold Instr.findAsking posK;simp only [Sem.run_bind,h1,pair_eq,Result.andThen_ok]
   by_cases hk:k=p.1
   ·rw [decide_eq_true hk,if_pos hk.symm,h2];rfl
   ·rw [decide_eq_false hk];simp only [Bool.false_eq_true,if_false];rw [if_neg (show ¬ p.1=k from fun q=>hk q.symm)];exact pair_ask w k l kvs (j+1) h3
instance keyT_P:KeyT prog 169 keyP (.agg #[.int .i64 0,.int .i64 0,nY,nY]) :=
 ⟨tPair,96,underlying169,zeroValue96,fun b k w=>run_checkKey_deep b 9997 3 tPair pair_ty w 3 (keyP k) _ (pair_formed k) (pair_lits k),fun k l kvs w h=>by
  unfold Instr.findKey
  cases l with
  | nil =>
   have:=pair_ask w k [] kvs 0 h;simp only [Sem.run_bind,run_underlying underlying340,Result.andThen_ok,Instr.findNow]
   cases kvs with
   | nil=>rfl
   | cons _ _=>simp at h
  | cons e l =>
   have hn:∀ fs,Instr.findNow (TypeDesc.struct fs) (keyP k) (e::l) 0=none:=fun fs=>rfl
   have:=pair_ask w k (e::l) kvs 0 h;simp only [Sem.run_bind,run_underlying underlying340,Result.andThen_ok,hn]
   exact this,fun k=>by
  simp [keyP,Instr.sameBits]⟩
theorem _root_.Go.Bs.Val.field2 {P:Program} {N:Fr} {ty:TypeId} {σ:Env} {e:World} {L:List Res} {x:Operand} {t f:Nat} {a b v:Value} (hr:∀ w,(Instr.field t (.agg #[a,b]) f).run P w=.ok v w) (h:ev σ x=some (.agg [a,b].toArray)):Val P N (.field t x f) ty v σ e L:=fun w a ha _ _ _ _ _=>by
 have h2:=hr
 simp [execOp,ha.ev h,h2]
end Go.Proofs
namespace Go.Proofs
attribute [local irreducible] Bs.Val Bs.Do Bs.O Bs.W Bs.Fin Bs.A Bs.Ct Bs.RdSl Bs.Rd Bs.Sat Bs.Blk Bs.Ob Bs.Own Bs.View Bs.Ent Bs.Ex Bs.All Bs.Pu Bs.Base Bs.sepL Bs.RdA
open Go.Bs
open Tryz
variable (R:List Res) (e:World)
structure ECfg where
 k:Nat
 quorum:Nat
 room:Nat
 size:Nat
 wait:Nat
 retry:Nat
def ECfg.f (c:ECfg):FCfg:=⟨c.room,c.size,c.wait⟩
def ecoSeed (i:Nat):Bts:=tagP 20 [be i 4]
theorem ecoSeed_32 (i:Nat):(ecoSeed i).length=32:=tagP_length _ _
def ecoLog:Bts:=pubP (ecoSeed 0)
def ecoPol (c:ECfg):Pol:=⟨ecoLog,(List.range c.k).map fun i=>pubP (ecoSeed (i+1)),c.quorum⟩
def pump:Bts:=[112,117,109,112]
structure ECfg.ok (c:ECfg):Prop where
 k:1≤c.k∧c.k≤3
 quorum:1≤c.quorum∧c.quorum≤c.k
 f:c.f.ok
 retry:1≤c.retry∧c.retry≤100
 pol:(ecoPol c).right
theorem ecoPol_len (c:ECfg):(ecoPol c).wits.length=c.k:=by simp [ecoPol]
inductive MsgP where
 | ask (w:Nat) (x:Sgd) (n m:Nat) (path:List Bts)
 | yes (w:Nat) (g:Csg)
 | no (w:Nat) (size:Nat)
 | off (b:Bun)
def askB (x:Sgd) (n m:Nat) (path:List Bts):Bts:=encSgd x++(be n 4++(be m 4++(UInt8.ofNat path.length::path.flatten)))
def MsgP.d (k:Nat):MsgP→Int × Int × Int × Bts
 | .ask w x n m path=>(1,0,((w+1:Nat):Int),askB x n m path)
 | .yes w g=>(2,((w+1:Nat):Int),0,1::encCsg g)
 | .no w size=>(2,((w+1:Nat):Int),0,0::be size 4)
 | .off b=>(3,0,((k+1:Nat):Int),encBun b)
structure ESt where
 ls:LSt
 fs:FSt
 ws:List WSt
 fd:FdSt
 n:Nat
 up:USt
 mo:MSt
 net:List MsgP
 time:Nat
 signed:Option Chk
def HonC (l:List Bts) (c:Chk):Prop:=c.size≤l.length∧c.root=rootP ((l.take c.size).map leafP)
def Hon (l:List Bts) (x:Sgd):Prop:=x.ver ecoLog∧x.sig.right∧HonC l x.chk
theorem HonC.more {l m:List Bts} {c:Chk} (h:HonC l c):HonC (l++m) c :=
 ⟨by rw [List.length_append];exact Nat.le_trans h.1 (Nat.le_add_right ..),by rw [List.take_append_of_le_length h.1];exact h.2⟩
theorem Hon.more {l m:List Bts} {x:Sgd} (h:Hon l x):Hon (l++m) x:=⟨h.1,h.2.1,h.2.2.more⟩
theorem Hon.fits {l:List Bts} {x:Sgd} (h:Hon l x):x.fits:=⟨h.1.1,h.2.1⟩
def MsgP.good (c:ECfg) (l:List Bts):MsgP→Prop
 | .ask w x n m path=>w<c.k∧Hon l x∧m=x.chk.size∧n≤m∧path=growP ((l.take m).map leafP) n
 | .yes w g=>w<c.k∧g.wit=w∧g.sig.right
 | .no w size=>w<c.k∧size≤256
 | .off b=>b.wf∧b.man.length≤200∧chkB (ecoPol c) b=0
def MsgP.ok (c:ECfg) (l:List Bts) (x:MsgP):Prop:=0<l.length∧x.good c l
structure ESt.ok (c:ECfg) (m:Nat) (s:ESt):Prop where
 cfg:c.ok
 steps:m≤250
 ls:s.ls.ok
 last:∀ x,s.ls.last=some x→Hon s.ls.items x
 fs:s.fs.ok
 recs:s.fs.recs.Nodup
 few:s.fs.recs.length≤m
 perm:(s.ls.items++s.fs.q.map (·.1)).Perm s.fs.recs
 wl:s.ws.length=c.k
 ws:∀ w∈s.ws,w.ok∧w.recs.length≤m∧HonC s.ls.items w.c
 yes:∀ (i:Nat) (w:WSt),s.ws[i]?=some w→w.some=true→w.lastV.wit=i∧w.lastV.sig.right
 fd:s.fd.ok c.k s.n
 nb:s.n≤4*m
 cur:∀ x,s.fd.cur=some x→Hon s.ls.items x∧0<x.chk.size
 idle:s.fd.cur=none→s.fd.ag=[]
 kept:∀ g∈s.fd.kept,g.ver (ecoPol c) s.fd.curV.chk
 done:s.fd.enough≠[]→Hon s.ls.items s.fd.done∧0<s.fd.done.chk.size∧metP (ecoPol c) s.fd.done.chk s.fd.enough
 up:s.up.ok pump
 ups:s.up.recs.length≤m
 mo:s.mo.ok
 mop:s.mo.items=s.ls.items.take s.mo.items.length
 net:∀ x∈s.net,x.ok c s.ls.items
 room:s.net.length≤32
 time:s.time≤1000*m
 signed:∀ x,s.signed=some x→HonC s.ls.items x∧x.right
theorem MsgP.ok.more {c:ECfg} {l m:List Bts} {x:MsgP} (h:x.ok c l):x.ok c (l++m):=by
 refine ⟨by rw [List.length_append];exact Nat.lt_of_lt_of_le h.1 (Nat.le_add_right ..),?_⟩;have h2:=h.2
 cases x with
 | ask w x n k path=>exact ⟨h2.1,h2.2.1.more,h2.2.2.1,h2.2.2.2.1,by rw [List.take_append_of_le_length (by rw [h2.2.2.1];exact h2.2.1.2.2.1)];exact h2.2.2.2.2⟩
 | yes w g=>exact h2
 | no w k=>exact h2
 | off b=>exact h2
structure Ev where
 k:Int
 a:Int
 b:Int
 v:Value
 t:Bts
def Ev.cells (x:Ev):List Value:=[.int .i64 x.k,.int .i64 x.a,.int .i64 x.b,x.v]
abbrev tEv:TypeId:=121
abbrev OwnEv (v:Value) (l:List Ev):Res:=Own tEv 4 v l.length (l.flatMap Ev.cells)
abbrev tWld:TypeId:=171
abbrev keyI:Int→Value:=fun n=>.int .i64 n
structure WX where
 g:Nat
 d:Nat
 k:Nat
structure EMem where
 va:Value
 gl:Nat
 gf:Nat
 vws:Value
 gfd:Nat
 gu:Nat
 gm:Nat
 gn:Nat
 vpl:Value
 vpw:Value
 ve:Value
 mr:Nat
 ml:Nat
 vr:Value
 mc:Nat
 es:List Ev
 kr:List (Int × Value)
 kl:List (Int × Value)
 kc:List ((Fin 1000 × Fin 1000) × GAt)
 wx:List WX
 ld:Nat
 lk:Nat
 fdk:Nat
 ud:Nat
 nl:List Msg
def ESt.sv (s:ESt):Chk:=s.signed.getD ⟨0,[]⟩
abbrev EMem.cells (a:EMem) (c:ECfg) (s:ESt):List Value :=
 [.int .i64 (c.k:Int),.int .i64 (c.quorum:Int),.int .i64 (c.room:Int),.int .i64 (c.size:Int),.int .i64 (c.wait:Int),.int .i64 (c.retry:Int),.int .i64 1048576,.string (str pump),
  a.va,pt a.gl,pt a.gf,a.vws,pt a.gfd,pt a.gu,pt a.gm,pt a.gn,
  a.vpl,a.vpw,.int .i64 (c.quorum:Int),.int .i64 (s.time:Int),a.ve,.map (some a.mr),.map (some a.ml),.int .i64 (s.sv.size:Int),a.vr,.bool s.signed.isSome,.map (some a.mc)]
def witsL:Nat→List WX→List WSt→List Res
 | i,x::xs,s::ss=>WitR x.g x.d x.k i (ecoSeed (i+1)) ecoLog s::witsL (i+1) xs ss
 | _,_,_=>[]
abbrev tWp:TypeId:=98
def wptr (x:WX):Value:=pt x.g
def kcs (l:List ((Fin 1000 × Fin 1000) × GAt)):List ((Fin 1000 × Fin 1000) × Value):=l.map fun p=>(p.1,.agg (GAt.cells p.2).toArray)
structure AllRd (L:List Res) (w:Nat) (c:ECfg) (a:EMem):Prop where
 all:∃ (vl vu:Value) (vs:List (Value × Nat × Nat)),vs.length=c.k∧a.wx.length=c.k ∧
  RdSl L 2 a.va (c.k+2) ([vl,.func (.func 160) #[pt w] #[]]++(vs.flatMap fun x=>[x.1,.func (.func 161) #[] #[pt x.2.1,pt x.2.2]])++[vu,.func (.func 163) #[pt w] #[]]) ∧
  RdSl L 1 vl 3 [pt a.ld,pt a.lk,pt a.fdk] ∧
  RdSl L 1 vu 1 [pt a.ud] ∧
  (∀ i (h:i<vs.length) (h2:i<a.wx.length),RdSl L 1 (vs[i]).1 2 [.pointer (some ⟨(a.wx[i]).d,0,none⟩),.pointer (some ⟨(a.wx[i]).k,0,none⟩)]∧Rd L ⟨(vs[i]).2.1,0,none⟩ (pt w)∧Rd L ⟨(vs[i]).2.2,0,none⟩ (.int .i64 (i:Int)))
structure EMem.ok (a:EMem) (M:Res) (w:Nat) (c:ECfg) (m:Nat) (s:ESt):Prop where
 pol:RdPol [M] a.vpl a.vpw (ecoPol c)
 root:RdB [M] a.vr s.sv.root
 es:∀ x∈a.es,RdB [M] x.v x.t
 kc:∀ p∈a.kc,GAt.ok [M] p.2
 all:AllRd [M] w c a
 net:a.nl.map Msg.d=s.net.map (MsgP.d c.k)
 st:s.ok c m
 ec:a.es.length≤600*m
abbrev ecoM (w:Nat) (c:ECfg) (s:ESt) (a:EMem) (M:Res) (R:List Res):List Res :=
 Blk w (a.cells c s) tWld (0,0)::OwnEv a.ve a.es::MpK keyI a.mr a.kr::MpK keyI a.ml a.kl::MpK keyP a.mc (kcs a.kc)::M::FrontR a.gf a.fdk a.gl c.f s.fs::LedgerR a.gl a.ld a.lk (ecoSeed 0) s.ls::Own tWp 1 a.vws a.wx.length (a.wx.map wptr)::All (witsL 0 a.wx s.ws)::FdR a.gfd (ecoPol c) c.retry s.n s.fd::UpdR a.gu a.ud pump (ecoPol c) s.up::MonR a.gm ecoLog s.mo::Net a.gn 32 a.nl::R
def EcoAt (w:Nat) (c:ECfg) (m:Nat) (s:ESt) (a:EMem) (M:Res):Res:=All (Pu (a.ok M w c m s)::ecoM w c s a M [])
def EcoR (w:Nat) (c:ECfg) (m:Nat) (s:ESt) (ev:List (Int × Int × Int × Bts)):Res:=Ex fun a=>Ex fun M=>All [Pu (a.es.map (fun x=>(x.k,x.a,x.b,x.t))=ev),EcoAt w c m s a M]
theorem eco_out {w:Nat} {c:ECfg} {m:Nat} {s:ESt} {ev:List (Int × Int × Int × Bts)} {R:List Res} {P:Program} {f:FuncId} {args:Array Value} {e:World} {Post:Value→List Res→Prop}
 (h:∀ (a:EMem) (M:Res),a.ok M w c m s→a.es.map (fun x=>(x.k,x.a,x.b,x.t))=ev→Ct P f args e (ecoM w c s a M R) Post):Ct P f args e (EcoR w c m s ev::R) Post :=
 Ct.ex .zero fun a=>Ct.ex .zero fun M=>Ct.ent (Ct.of_sep (p:=a.es.map (fun x=>(x.k,x.a,x.b,x.t))=ev) (fun w x=>(pu_out x).1) fun he=>Ct.ent (Ct.ent (Ct.of_sep (p:=a.ok M w c m s) (fun w x=>(pu_out x).1) fun hp=>(h a M hp he).ent (Ent.drop Ent.rfl)) (all_out (M:=Pu (a.ok M w c m s)::ecoM w c s a M []) (L:=R))) (Ent.drop Ent.rfl)) (all_out (M:=[Pu (a.es.map (fun x=>(x.k,x.a,x.b,x.t))=ev),EcoAt w c m s a M]) (L:=R))
theorem eco_in {w:Nat} {c:ECfg} {m:Nat} {s:ESt} {ev:List (Int × Int × Int × Bts)} {a:EMem} {M:Res} {R:List Res} (h:a.ok M w c m s) (he:a.es.map (fun x=>(x.k,x.a,x.b,x.t))=ev):Ent (ecoM w c s a M R) (EcoR w c m s ev::R) :=
 Ent.trans (pu_in h) (Ent.trans (all_in (M:=Pu (a.ok M w c m s)::ecoM w c s a M []) (L:=R)) (Ent.trans (pu_in he) (Ent.trans (all_in (M:=[Pu (a.es.map (fun x=>(x.k,x.a,x.b,x.t))=ev),EcoAt w c m s a M]) (L:=R)) (Ent.trans (ex_in (f:=fun M=>All [Pu (a.es.map (fun x=>(x.k,x.a,x.b,x.t))=ev),EcoAt w c m s a M]) M) (ex_in (f:=fun a=>Ex fun M=>All [Pu (a.es.map (fun x=>(x.k,x.a,x.b,x.t))=ev),EcoAt w c m s a M]) a)))))
theorem cells_int (k:IntKind) (n:Int):(Value.int k n).cells=#[.int k n]:=rfl
theorem eEvent_spec (w:Nat) (c:ECfg) (s:ESt) (a:EMem) (k x b:Int) (v:Value) (t:Bts) (hv:v.oneCell'=true) (hl:a.es.length≤1000000) :
 Ct prog 167 #[pt w,.int .i64 k,.int .i64 x,.int .i64 b,v] e (Blk w (a.cells c s) tWld (0,0)::OwnEv a.ve a.es::R) (fun v' L'=>v'=.tuple #[]∧∃ ve:Value,L'=Blk w (EMem.cells { a with ve:=ve } c s) tWld (0,0)::OwnEv ve (a.es++[⟨k,x,b,v,t⟩])::R):=by
 refine Ct.of_sep ((RdSl.own (show Pull (Blk w (a.cells c s) tWld (0,0)::OwnEv a.ve a.es::R) (OwnEv a.ve a.es) _ from zP)).shape zo) ?_;rintro ⟨⟨ad,ca,hve,h3,h4,h5,h6⟩,_⟩;simp only [maxLen] at h4
 have hcells:Blk w (a.cells c s) tWld (0,0)::OwnEv a.ve a.es::R=Blk w (EMem.cells { a with ve:=.slice ad a.es.length ca } c s) tWld (0,0)::OwnEv (.slice ad a.es.length ca) a.es::R:=by
  rw [← hve]
 rw [hcells];refine Ct.enter (args:=[_,_,_,_,_]) func167 rfl ntmps167 results167 rfl ?_
 (repeat' first|(refine O.val (.agg #[.int .i64 k,.int .i64 x,.int .i64 b,v]) (Val.build (cells:=[.int .i64 k,.int .i64 x,.int .i64 b,v]) rfl (by simp [Instr.fill,cells_int,cells_one hv])) rfl ?_)|refine Za ?_|apply Zd|refine Zg ?_|refine Zh ?_|refine Zi ?_|refine Yi fun _=>?_|fail)
 refine O.do (Do.append rfl rfl rfl (show Pull _ (OwnEv (.slice ad a.es.length ca) a.es) _ from zP) (RdSl.blkN (n:=4) (c:=1) zP rfl zl) rfl rfl zO zm zo fun ad1 k1 _=>?_)
 refine wB ?_;refine Fin.stop (Blk w (EMem.cells { a with ve:=.slice ad1 (a.es.length+1) k1 } c s) tWld (0,0)::OwnEv (.slice ad1 (a.es.length+1) k1) (a.es++[⟨k,x,b,v,t⟩])::R) rfl ?_ ⟨rfl,_,rfl⟩;simp only [OwnEv,List.length_append,List.length_singleton,List.flatMap_append,List.flatMap_cons,List.flatMap_nil,List.append_nil];exact zE
theorem eSeed_spec (i:Nat) (hi:i<100) :
 Ct prog 158 #[.int .i64 (i:Int)] e R (fun v' L'=>∃ ad k,v'=.slice ad (ecoSeed i).length k∧L'=OwnB (.slice ad (ecoSeed i).length k) (ecoSeed i)::R):=by
 refine Ct.enter (args:=[_]) func158 rfl ntmps158 results158 rfl ?_;refine wB ?_;refine O.call rfl rfl (new_spec _ e) ?_;rintro _ _ ⟨gw,rfl,rfl⟩;refine wB ?_;refine O.call rfl rfl (num_spec _ e gw [] i zo (by decide)) ?_;rintro _ _ ⟨rfl,rfl⟩;rw [show []++be i 4=be i 4 by simp];refine wB ?_;refine O.call rfl rfl (done_spec _ e gw _ (by rw [be_length];omega)) ?_;rintro _ _ ⟨ad,k,rfl,rfl⟩
 (repeat (refine wA ?_;intros))
 refine O.call rfl rfl (tagged_spec _ e 20 _ [(.slice ad (be i 4).length k,be i 4)] (RdSl.blk .zero rfl zl) (fun a ha=>by rw [List.mem_singleton.1 ha];exact RdSl.own (.succ .zero)) (fun a ha=>by rw [List.mem_singleton.1 ha];dsimp only;rw [be_length];omega) (by simp)) ?_;rintro _ _ ⟨ad1,k1,rfl,rfl⟩;refine wB ?_;exact Fin.ret (OwnB (.slice ad1 (ecoSeed i).length k1) (ecoSeed i)::R) rfl zE ⟨ad1,k1,rfl,rfl⟩
abbrev tDp:TypeId:=24
def dptr (g:Nat):Value:=pt g
def disksL (gs:List Nat):List Res:=gs.map fun g=>Disk g (disk0 [])
theorem eDisks_spec (n:Nat) (hn:n≤100) :
 Ct prog 159 #[.int .i64 (n:Int),.int .i64 1048576] e R (fun v' L'=>∃ (ad:Option Addr) (k:Nat) (gs:List Nat),v'=.slice ad gs.length k∧gs.length=n∧L'=Own tDp 1 (.slice ad gs.length k) gs.length (gs.map dptr)::All (disksL gs)::R):=by
 refine Ct.enter (args:=[_,_]) func159 rfl ntmps159 results159 rfl ?_;refine wB ?_;refine W.loop (ι:=List Nat × Option Addr × Nat) (fun j=>[(1,.int .i64 1048576),(5,.slice j.2.1 j.1.length j.2.2),(8,.int .i64 (n:Int)),(9,.int .i64 (j.1.length:Int))]) (fun j=>Own tDp 1 (.slice j.2.1 j.1.length j.2.2) j.1.length (j.1.map dptr)::All (disksL j.1)::R) (fun j=>j.1.length≤n) (fun j=>n - j.1.length) ([],none,0) (Nat.zero_le _) zS (Ent.trans (own_nil tDp 1) (Ent.cons (all_in (M:=[]) (L:=R)))) ?_;rintro ⟨gs,ad,k⟩ hle;dsimp only at hle ⊢
 by_cases hlt:gs.length<n
 rotate_left
 ·refine wB ?_;exact Fin.ret (Own tDp 1 (.slice ad gs.length k) gs.length (gs.map dptr)::All (disksL gs)::R) rfl zE ⟨ad,k,gs,rfl,by omega,rfl⟩
 refine wB ?_;refine O.call rfl rfl (dnew_spec _ e 1048576 zo) ?_;rintro _ _ ⟨gd,rfl,rfl⟩
 (repeat (refine wA ?_;intros))
 refine O.do (Do.append rfl rfl rfl (show Pull _ (Own tDp 1 (.slice ad gs.length k) gs.length (gs.map dptr)) _ from zP) (RdSl.blk zP rfl zl) rfl rfl zO zm zo fun ad1 k1 _=>?_)
 refine wB ?_;refine Fin.round (gs++[gd],ad1,k1) (by dsimp only;rw [List.length_append];exact hlt) (by dsimp only;rw [List.length_append];show n - (gs.length+1)<_;omega) ?_ ?_
 ·simp only [List.length_append,List.length_singleton];exact zS
 ·simp only [List.length_append,List.length_singleton,List.map_append,List.map_cons,List.map_nil,disksL];refine Ent.trans ?_ (Ent.cons (all_append (M:=gs.map fun g=>Disk g (disk0 [])) (N:=[Disk gd (disk0 [])]) (R:=R)));refine Ent.trans ?_ (Ent.cons (Ent.cons (all_in (M:=[Disk gd (disk0 [])]) (L:=R))));exact zE
theorem eSame_spec (w:Nat) (y:Chk) (u:Value) (b:Bool) (x:Chk) (v:Value) (hb:Rd R ⟨w,25,none⟩ (.bool b)) (ha:RdA R w 23 (chkC y u)) (hr:b=true→RdB R u y.root) (hx:RdB R v x.root) :
 Ct prog 173 #[pt w,.agg (chkC x v).toArray] e R (fun v' L'=>v'=.bool (b && decide (y=x))∧R=L'):=by
 refine Ct.of_sep (RdB.one hx) fun o2=>?_
 cases b with
 | false =>
  refine Ct.enter (args:=[_,_]) func173 rfl ntmps173 results173 rfl ?_
  (repeat (refine wA ?_;intros))
  rename_i g;refine A.begin (id:=1) [12] (Blk g (chkC x v) 83 (0,0)::R) mixed ?_
  (refine tM 0 ?_;refine tN 1 ?_;refine tF 2 ?_)
  refine tk 3 _ rfl (Val.load rfl hb.tail) ?_
  (refine tM 4 ?_;refine A.takeN 5 rfl rfl zK zE rfl ?_;refine A.takeN 6 rfl rfl zK zE rfl ?_;refine A.takeN 7 rfl rfl zK zE rfl ?_;refine A.takeN 8 rfl rfl zK zE rfl ?_;refine A.takeN 9 rfl rfl zK zE rfl ?_)
  refine A.takeN 10 rfl rfl zK zE rfl ?_
  (refine tk 11 _ rfl (Val.pick_f rfl rfl) ?_;(refine tO 12 ?_;refine dV (Val.assign rfl) ?_))
  refine A.done zK ?_;refine wB ?_;exact Fin.ret R rfl zE ⟨rfl,rfl⟩
 | true =>
  have hr:=hr rfl;refine Ct.of_sep (RdB.one hr) fun o1=>?_
  refine Ct.enter (args:=[_,_]) func173 rfl ntmps173 results173 rfl ?_
  (repeat (refine wA ?_;intros))
  rename_i g;refine A.begin (id:=1) [12] (Blk g (chkC x v) 83 (0,0)::R) mixed ?_
  (refine tM 0 ?_;refine tN 1 ?_;refine tF 2 ?_)
  refine tk 3 _ rfl (Val.load rfl hb.tail) ?_
  (refine tM 4 ?_;refine tkG 5 _ rfl (Val.move rfl) ?_;refine tkG 6 _ rfl (Val.nilCheck rfl) ?_;refine tkG 7 _ rfl (Val.fieldAddr rfl) ?_)
  refine tkG 8 _ rfl (Val.loadAggR rfl ha.tail rfl) ?_
  (refine tkG 9 _ rfl (Val.loadAggR rfl zA zX) ?_)
  refine A.oneG 10 rfl rfl zK ?_;refine Do.call rfl rfl (cSame_spec _ e u v y x (hr.ent zE) (hx.ent zE)) ?_;rintro _ _ ⟨rfl,rfl⟩;refine ⟨fun _=>zE,?_⟩
  (refine tk 11 _ rfl (Val.pick_t rfl rfl) ?_;(refine tO 12 ?_;refine dV (Val.assign rfl) ?_))
  refine A.done zK ?_;refine wB ?_;exact Fin.ret R rfl zE ⟨rfl,rfl⟩
def EvA (ev:List (Int × Int × Int × Bts)) (s:ESt):Prop:=∀ x∈ev,x.1≠3∧(x.1=7∨s.fs.recs≠[])
theorem EvA.nil {s:ESt}:EvA [] s:=fun x hx=>by cases hx
theorem ESt.ok.next {c:ECfg} {m:Nat} {s:ESt} (h:s.ok c m) (hm:m<250):s.ok c (m+1) :=
 {h with
  steps:=hm
  few:=Nat.le_succ_of_le h.few
  ws:=fun w hw=>⟨(h.ws w hw).1,Nat.le_succ_of_le (h.ws w hw).2.1,(h.ws w hw).2.2⟩
  nb:=by have:=h.nb;omega
  ups:=Nat.le_succ_of_le h.ups
  time:=by have:=h.time;omega }
def ESt.sub (c:ECfg) (s:ESt) (b:Bts):ESt:={ s with fs:=(s.fs.submit c.f s.ls.items b (s.time:Int)).2.2 }
theorem sub_cases (c:FCfg) (items:List Bts) (s:FSt) (b:Bts) (now:Int):((s.submit c items b now).2.2=s)∨(manOk b∧¬ b∈items∧¬ b∈s.q.map (·.1)∧s.submit c items b now=(1,(s.recs.length:Int),⟨s.recs++[b],s.q++[(b,now)]⟩)):=by
 unfold FSt.submit
 split
 ·exact .inl rfl
 ·rename_i h1
  split
  ·exact .inl rfl
  ·rename_i h2
   split
   ·exact .inl rfl
   ·rename_i h3
    split
    ·exact .inl rfl
    ·exact .inr ⟨Classical.not_not.1 h1,h2,h3,rfl⟩
theorem ESt.sub_ok {c:ECfg} {m:Nat} {s:ESt} {b:Bts} (h:s.ok c m) (hm:m<250) (hb:b.length≤200):(s.sub c b).ok c (m+1):=by
 unfold ESt.sub;rcases sub_cases c.f s.ls.items s.fs b (s.time:Int) with h1|⟨h1,h2,h3,h4⟩
 ·rw [h1];exact h.next hm
 ·rw [h4];have ht:=h.time;have hp:=h.perm
  have hnr:¬ b∈s.fs.recs:=fun q=>by
   rcases List.mem_append.1 (hp.mem_iff.2 q) with q|q
   ·exact h2 q
   ·exact h3 q
  have hf:=h.fs;have hl:=h.few;have hs:=h.steps;have hql:s.fs.q.length≤s.fs.recs.length:=by have:=hp.length_eq;rw [List.length_append,List.length_map] at this;omega
  exact { h.next hm with
   fs:={
    size:=by show (s.fs.recs++[b]).length≤1000;rw [List.length_append,List.length_singleton];omega
    good:=fun x hx=>by
     rcases List.mem_append.1 hx with hx|hx
     ·exact hf.good x hx
     ·rw [List.mem_singleton.1 hx];exact ⟨h1,hb⟩
    qsize:=by show (s.fs.q++[(b,(s.time:Int))]).length≤1000;rw [List.length_append,List.length_singleton];omega
    qshort:=fun x hx=>by
     rcases List.mem_append.1 hx with hx|hx
     ·exact hf.qshort x hx
     ·rw [List.mem_singleton.1 hx];exact hb
    qtime:=fun x hx=>by
     rcases List.mem_append.1 hx with hx|hx
     ·exact hf.qtime x hx
     ·rw [List.mem_singleton.1 hx]
      show -9223372036854775808≤(s.time:Int)∧(s.time:Int)≤1000000
      omega }
   recs:=List.nodup_append.2 ⟨h.recs,by simp,fun x hx y hy=>by rw [List.mem_singleton.1 hy];rintro rfl;exact hnr hx⟩
   few:=by show (s.fs.recs++[b]).length≤m+1;rw [List.length_append,List.length_singleton];omega
   perm:=by
    show (s.ls.items++(s.fs.q++[(b,(s.time:Int))]).map (·.1)).Perm (s.fs.recs++[b])
    rw [List.map_append,← List.append_assoc];exact hp.append_right _ }
theorem AllRd.ent {L L':List Res} {w:Nat} {c:ECfg} {a:EMem} (h:AllRd L' w c a) (f:Ent L L'):AllRd L w c a:=by
 obtain ⟨vl,vu,vs,h1,h2,h3,h4,h5,h6⟩:=h.all;exact ⟨vl,vu,vs,h1,h2,h3.ent f,h4.ent f,h5.ent f,fun i hi hi2=>⟨(h6 i hi hi2).1.ent f,(h6 i hi hi2).2.1.ent f,(h6 i hi hi2).2.2.ent f⟩⟩
theorem EMem.ok.more {a:EMem} {M N:Res} {w:Nat} {c:ECfg} {m:Nat} {s:ESt} (h:a.ok M w c m s) (f:Ent [N] [M]):a.ok N w c m s :=
 {h with pol:=h.pol.ent f,root:=h.root.ent f,es:=fun x hx=>(h.es x hx).ent f,kc:=fun p hp=>(h.kc p hp).ent f,all:=h.all.ent f }
theorem EMem.ok.to {a:EMem} {M:Res} {w:Nat} {c:ECfg} {m m':Nat} {s s':ESt} (h:a.ok M w c m s) (hs:s'.ok c m') (hm:m≤m') (h1:s'.signed=s.signed) (h2:s'.net=s.net):a.ok M w c m' s' :=
 {h with root:=by unfold ESt.sv;rw [h1];exact h.root,net:=by rw [h2];exact h.net,st:=hs,ec:=Nat.le_trans h.ec (Nat.mul_le_mul_left _ hm) }
theorem EMem.ok.seen {a:EMem} {M:Res} {w:Nat} {c:ECfg} {m:Nat} {s:ESt} (h:a.ok M w c m s) {x:Ev} (ve:Value) (hx:RdB [M] x.v x.t) (hl:a.es.length+1≤600*m):EMem.ok { a with ve:=ve,es:=a.es++[x] } M w c m s :=
 {h with
  es:=fun y hy=>by
   rcases List.mem_append.1 hy with hy|hy
   ·exact h.es y hy
   ·rw [List.mem_singleton.1 hy];exact hx
  all:=⟨h.all.all⟩
  ec:=by show (a.es++[x]).length≤_;rw [List.length_append,List.length_singleton];exact hl }
theorem EMem.ok.kr {a:EMem} {M:Res} {w:Nat} {c:ECfg} {m:Nat} {s:ESt} (h:a.ok M w c m s) (kr:List (Int × Value)):EMem.ok { a with kr:=kr } M w c m s:={ h with all:=⟨h.all.all⟩ }
theorem EMem.ok.kl {a:EMem} {M:Res} {w:Nat} {c:ECfg} {m:Nat} {s:ESt} (h:a.ok M w c m s) (kl:List (Int × Value)):EMem.ok { a with kl:=kl } M w c m s:={ h with all:=⟨h.all.all⟩ }
theorem two1 {A B:Res}:Ent [All [A,B]] [A]:=Ent.trans (all_out (M:=[_,_]) (L:=[])) (Ent.cons Ent.nil)
theorem two2 {A B:Res}:Ent [All [A,B]] [B]:=Ent.trans (all_out (M:=[_,_]) (L:=[])) (Ent.drop (Ent.cons Ent.nil))
instance keyT_I:KeyT prog 166 keyI (.string (str [])):=keyInt underlying166 underlying3 zeroValue9
abbrev itC (k n to wh:Int) (v:Value):List Value:=[.int .i64 k,.int .i64 n,.int .i64 to,.int .i64 wh,v]
abbrev tItem:TypeId:=56
theorem eSub_spec (w:Nat) (c:ECfg) (m:Nat) (s:ESt) (ev:List (Int × Int × Int × Bts)) (k n to wh:Int) (v:Value) (b:Bts) (hv:RdB R v b) (hb:b.length≤200) (hm:m<250) :
 Ct prog 82 #[pt w,.agg (itC k n to wh v).toArray] e (EcoR w c m s ev::R) (fun v' L'=>v'=.tuple #[.int .i64 (s.fs.submit c.f s.ls.items b (s.time:Int)).1,.int .i64 0]∧∃ ev',EvA ev' (s.sub c b)∧L'=EcoR w c (m+1) (s.sub c b) (ev++ev')::R):=by
 refine eco_out fun a M ha he=>?_
 have hst:=ha.st;have hst2:=ESt.sub_ok hst hm hb;have ht:=hst.time;have hfew:=hst.few;have hql:s.fs.q.length≤s.fs.recs.length:=by have:=hst.perm.length_eq;rw [List.length_append,List.length_map] at this;omega
 have hec:=ha.ec;refine Ct.of_sep (RdB.one (hv.ent (show Ent (ecoM w c s a M R) R from zE))) fun o1=>?_
 refine Ct.enter (args:=[_,_]) func82 rfl ntmps82 results82 rfl ?_
 (repeat (refine wA ?_;intros))
 refine O.call rfl rfl (Ct.at zP (fReceipts_spec _ e a.gf a.fdk a.gl c.f s.fs)) ?_;rintro _ _ ⟨rfl,rfl⟩
 (repeat' first|refine W.meetS (id:=3) (fun j:Nat × Nat=>[(0,pt w),(3,pt j.1),(6,.int .i64 (s.fs.recs.length:Int)),(7,pt j.2)]) (fun j=>Blk j.2 [.int .i64 (s.fs.submit c.f s.ls.items b (s.time:Int)).1,.int .i64 (s.fs.submit c.f s.ls.items b (s.time:Int)).2.1] 254 (0,0)::Blk j.1 (itC k n to wh v) tItem (0,0)::ecoM w c (s.sub c b) a M R) (fun _=>True) ?_ ?_|refine Zb ?_|apply Ze|apply Zf)
 rotate_left
 ·refine ⟨?_⟩;rename_i g3;refine A.begin (id:=2) [12] (Blk g3 (itC k n to wh v) tItem (0,0)::Blk w (a.cells c s) tWld (0,0)::M::R) mixed ?_
  (refine tM 0 ?_;refine tN 1 ?_;refine tF 2 ?_;refine tL 3 ?_;refine tF 4 ?_;refine tL 5 ?_;refine tM 6 ?_;refine tN 7 ?_;refine tF 8 ?_;refine tL 9 ?_)
  refine A.two 10 11 rfl rfl rfl rfl zK ?_ ?_
  ·refine Do.call rfl rfl (Ct.at2 zP zP (fSubmit_spec _ e a.gf a.fdk a.gl a.ld a.lk (ecoSeed 0) s.ls c.f s.fs v b (s.time:Int) (hv.ent zE) hb zo zo zo)) ?_;rintro _ _ ⟨rfl,rfl⟩;refine ⟨fun _=>zE,?_⟩;refine tO 11 ?_;refine Do.alloc (cs:=[.int .i64 0,.int .i64 0]) rfl rfl fun g7=>⟨fun _=>zE,?_⟩
   refine tO 12 ?_;refine zg ?_;refine ⟨zN,?_⟩;refine A.done zK ?_;exact Fin.meet (g3,g7) trivial zS zE
  ·refine Do.alloc (cs:=[.int .i64 0,.int .i64 0]) rfl rfl fun g7=>⟨fun _=>zE,?_⟩
   refine tO 10 ?_;refine Do.call rfl rfl (Ct.at2 zP zP (fSubmit_spec _ e a.gf a.fdk a.gl a.ld a.lk (ecoSeed 0) s.ls c.f s.fs v b (s.time:Int) (hv.ent zE) hb zo zo zo)) ?_;rintro _ _ ⟨rfl,rfl⟩;refine ⟨fun _=>zE,?_⟩;refine tO 12 ?_;refine zg ?_;refine ⟨zN,?_⟩;refine A.done zK ?_;exact Fin.meet (g3,g7) trivial zS zE
 rintro ⟨g3,g7⟩ -;dsimp only;refine wB ?_;refine O.call rfl rfl (Ct.at zP (fReceipts_spec _ e a.gf a.fdk a.gl c.f (s.sub c b).fs)) ?_;rintro _ _ ⟨rfl,rfl⟩;rcases sub_cases c.f s.ls.items s.fs b (s.time:Int) with h1|⟨h1,h2,h3,h4⟩
 ·have hs:s.sub c b=s:=by unfold ESt.sub;rw [h1]
  have hok2:a.ok M w c (m+1) s:={ ha with st:=by rw [← hs];exact hst2,ec:=by omega }
  rw [hs];refine wB ?_;refine Fin.ret (EcoR w c (m+1) s ev::R) rfl (Ent.trans (show Ent _ (ecoM w c s a M R) from zE) (eco_in hok2 he)) ⟨rfl,[],EvA.nil,by rw [List.append_nil]⟩
 ·have hs:s.sub c b={ s with fs:=⟨s.fs.recs++[b],s.fs.q++[(b,(s.time:Int))]⟩ }:=by unfold ESt.sub;rw [h4]
  have hlen:(s.sub c b).fs.recs.length=s.fs.recs.length+1:=by rw [hs];simp
  rw [h4];refine wB ?_;refine A.begin (id:=4) [10] (Blk g7 [.int .i64 1,.int .i64 (s.fs.recs.length:Int)] 254 (0,0)::Blk g3 (itC k n to wh v) tItem (0,0)::ecoM w c (s.sub c b) a M R) mixed ?_
  (refine tM 0 ?_;refine tN 1 ?_;refine tF 2 ?_;refine tF 3 ?_;refine tL 4 ?_;refine tF 5 ?_;refine tL 6 ?_;refine tF 7 ?_;refine tL 8 ?_)
  refine tk 9 _ rfl (Val.bytes rfl (hv.ent zE)) ?_;refine tO 10 ?_;refine Do.mapUpdateK (key:=keyI) (k:=(s.fs.recs.length:Int)) rfl rfl rfl zP ⟨zN,?_⟩;refine A.done zK ?_
  (repeat (refine wA ?_;intros))
  refine A.begin (id:=5) [] (Blk g7 [.int .i64 1,.int .i64 (s.fs.recs.length:Int)] 254 (0,0)::Blk g3 (itC k n to wh v) tItem (0,0)::R) mixed ?_
  (refine tM 0 ?_;refine tF 1 ?_;refine tL 2 ?_;refine tF 3 ?_;refine tL 4 ?_)
  refine tO 5 ?_;refine Do.call rfl rfl (mID_spec _ e v b (hv.ent zE) zo) ?_;rintro _ _ ⟨ad,kk,rfl,rfl⟩;refine ⟨fun _=>zE,?_⟩;refine tO 6 ?_;refine Do.call rfl rfl (Ct.at2 zP zP (eEvent_spec _ e w c (s.sub c b) { a with kr:=putK (s.fs.recs.length:Int) (.string (str b)) a.kr } 1 (s.fs.recs.length:Int) 0 (.slice ad (leafP b).length kk) (leafP b) rfl zd)) ?_;rintro _ _ ⟨rfl,ve,rfl⟩;refine ⟨fun _=>zE,?_⟩;refine A.done zK ?_;refine wB ?_;have hok2:=(((ha.more (two1 (A:=M) (B:=OwnB (.slice ad (leafP b).length kk) (leafP b)))).kr (putK (s.fs.recs.length:Int) (.string (str b)) a.kr)).to hst2 (Nat.le_succ m) rfl rfl).seen (x:=⟨1,(s.fs.recs.length:Int),0,.slice ad (leafP b).length kk,leafP b⟩) ve (RdSl.ent (RdSl.own .zero) two2) zd;refine Fin.ret (EcoR w c (m+1) (s.sub c b) (ev++[(1,(s.fs.recs.length:Int),0,leafP b)])::R) rfl (Ent.trans ?_ (eco_in hok2 (by dsimp only;rw [List.map_append,he];rfl))) ⟨rfl,_,?_,rfl⟩
  ·exact Ent.trans (pull2_all (A:=M) (B:=OwnB (.slice ad (leafP b).length kk) (leafP b)) zP zP) zE
  ·intro x hx;rw [List.mem_singleton.1 hx];exact ⟨(by decide:(1:Int)≠3),.inr (by rw [hs];simp)⟩
def ESt.tik (s:ESt) (n:Nat):ESt:={ s with time:=s.time+n }
theorem ESt.tik_ok {c:ECfg} {m:Nat} {s:ESt} {n:Nat} (h:s.ok c m) (hm:m<250) (hn:n≤1000):(s.tik n).ok c (m+1) :=
 {h.next hm with
  time:=by have:=h.time;show s.time+n≤1000*(m+1);omega }
theorem eTick_spec (w:Nat) (c:ECfg) (m:Nat) (s:ESt) (ev:List (Int × Int × Int × Bts)) (k to wh:Int) (n:Nat) (v:Value) (hv:v.oneCell'=true) (hn:n≤1000) (hm:m<250) :
 Ct prog 83 #[pt w,.agg (itC k n to wh v).toArray] e (EcoR w c m s ev::R) (fun v' L'=>v'=.tuple #[.int .i64 ((s.tik n).time:Int),.int .i64 0]∧L'=EcoR w c (m+1) (s.tik n) ev::R):=by
 refine eco_out fun a M ha he=>?_
 have hst:=ha.st;have hst2:=ESt.tik_ok hst hm hn;have ht:=hst.time;have hok2:=ha.to hst2 (Nat.le_succ m) rfl rfl;refine Ct.enter (args:=[_,_]) func83 rfl ntmps83 results83 rfl ?_
 (repeat (refine wA ?_;intros))
 rename_i g3;refine A.begin (id:=3) [7,8,9] (Blk g3 (itC k n to wh v) tItem (0,0)::Blk w (a.cells c s) tWld (0,0)::R) mixed ?_
 (refine tM 0 ?_;refine tN 1 ?_;refine tF 2 ?_;refine tL 3 ?_;refine tF 4 ?_;refine tL 5 ?_;refine tk 6 _ rfl (Val.add64 rfl rfl zo) ?_;(refine tO 7 ?_;refine dV (Val.nilCheck rfl) ?_);(refine tO 8 ?_;refine dV (Val.fieldAddr rfl) ?_);(refine tO 9 ?_;refine zs1 ?_;refine ⟨zN,?_⟩))
 refine A.done zK ?_;refine wB ?_;refine Fin.ret (EcoR w c (m+1) (s.tik n) ev::R) rfl (Ent.trans (show Ent _ (ecoM w c (s.tik n) a M R) from zE) (eco_in hok2 he)) ⟨rfl,rfl⟩
abbrev evs4 (l:List Ev):List (Int × Int × Int × Bts):=l.map fun x=>(x.k,x.a,x.b,x.t)
theorem ESt.ok.some {c:ECfg} {m:Nat} {s:ESt} (h:s.ok c m) (hl:0<s.ls.items.length):s.fs.recs≠[]:=fun q=>by
 have:=h.perm.length_eq;rw [q,List.length_append,List.length_nil] at this
 omega
theorem ESt.ok.short {c:ECfg} {m:Nat} {s:ESt} (h:s.ok c m):s.ls.items.length≤250:=by
 have:=h.perm.length_eq;rw [List.length_append] at this
 have:=h.few;have:=h.steps
 omega
theorem getD_mem {l:List Bts} {j:Nat} (h:j<l.length):l.getD j []∈l:=by
 have:l.getD j []=l[j]'h:=by simp [List.getD,List.getElem?_eq_getElem h]
 rw [this];exact List.getElem_mem h
theorem eLeaves_spec (w:Nat) (c:ECfg) (m:Nat) (s:ESt) (a:EMem) (M:Res) (ha:a.ok M w c m s) (i:Nat) (hi:i≤1000) (hec:a.es.length+256≤600*m) :
 Ct prog 170 #[pt w,.int .i64 (i:Int)] e (ecoM w c s a M R) (fun v' L'=>v'=.tuple #[]∧∃ (a':EMem) (M':Res) (ev':List (Int × Int × Int × Bts)),a'.ok M' w c m s∧evs4 a'.es=evs4 a.es++ev'∧ev'.length≤250∧EvA ev' s∧L'=ecoM w c s a' M' R):=by
 have hsh:=ha.st.short;have hms:=ha.st.steps;refine Ct.enter (args:=[_,_]) func170 rfl ntmps170 results170 rfl ?_;refine wB ?_;refine W.loop (ι:=Nat × EMem × Res × List (Int × Int × Int × Bts)) (fun j=>[(0,pt w),(4,.int .i64 (j.1:Int))]) (fun j=>ecoM w c s j.2.1 j.2.2.1 R) (fun j=>i≤j.1∧j.1≤1000∧j.2.1.ok j.2.2.1 w c m s∧evs4 j.2.1.es=evs4 a.es++j.2.2.2∧(j.2.2.2.length≤j.1∧(j.2.2.2=[]∨j.1≤s.ls.items.length))∧EvA j.2.2.2 s) (fun j=>s.ls.items.length - j.1) (i,a,M,[]) ⟨Nat.le_refl _,hi,ha,by simp,⟨Nat.zero_le _,.inl rfl⟩,EvA.nil⟩ zS Ent.rfl ?_;rintro ⟨j,b,N,ev⟩ ⟨hij,hj1,hb,hev,⟨hel,hel2⟩,hea⟩;dsimp only at hij hb hev hel hea hel2 hj1 ⊢
 have hbl:b.es.length=a.es.length+ev.length:=by have:=congrArg List.length hev;simpa using this
 have hev2:ev.length≤250:=by
  rcases hel2 with h|h
  ·rw [h];simp
  ·omega
 refine wB ?_;refine O.call rfl rfl (Ct.at zP (lSize_spec _ e b.gl b.ld b.lk (ecoSeed 0) s.ls)) ?_;rintro _ _ ⟨rfl,rfl⟩
 by_cases hlt:j<s.ls.items.length
 rotate_left
 ·refine wB ?_;refine Fin.stop (ecoM w c s b N R) rfl zE ⟨rfl,b,N,ev,hb,hev,hev2,hea,rfl⟩
 refine wB ?_;refine O.call rfl rfl (Ct.at zP (lEntry_spec _ e b.gl b.ld b.lk (ecoSeed 0) s.ls (j:Int) zo)) ?_;rintro _ _ (⟨h1,-,-⟩|⟨-,-,ad,kk,rfl,rfl⟩)
 ·exact absurd ⟨by omega,by omega⟩ h1
 rw [Int.toNat_natCast];have hsb:(s.ls.items.getD j []).length≤200:=hb.st.ls.short _ (getD_mem hlt)
 generalize s.ls.items.getD j []=x at *
 refine wB ?_;refine O.val _ (Val.lookupK (key:=keyI) (k:=(j:Int)) rfl rfl zP) rfl ?_
 generalize (lookK (j:Int) b.kl).getD (.string (str []))=vk
 cases hk:(lookK (j:Int) b.kl).isSome with
 | true =>
  refine wB ?_;refine Fin.round (j+1,b,N,ev) ⟨by dsimp only;omega,by dsimp only;omega,hb,hev,⟨by dsimp only;omega,.inr hlt⟩,hea⟩ zd zS zE
 | false =>
  refine wB ?_;refine A.begin (id:=6) [8] (OwnB (.slice ad x.length kk) x::ecoM w c s b N R) mixed ?_
  (refine tM 0 ?_;refine tN 1 ?_;refine tF 2 ?_;refine tF 3 ?_;refine tL 4 ?_;refine tM 5 ?_;refine tM 6 ?_)
  refine tk 7 _ rfl (Val.bytes rfl (RdSl.own .zero)) ?_;refine tO 8 ?_;refine Do.mapUpdateK (key:=keyI) (k:=(j:Int)) rfl rfl rfl zP ⟨zN,?_⟩;refine A.done zK ?_;refine wB ?_;refine O.call rfl rfl (leaf_spec _ e (.slice ad x.length kk) x (RdSl.own zP) zo) ?_;rintro _ _ ⟨ad2,k2,rfl,rfl⟩;refine O.call rfl rfl (Ct.at2 zP zP (eEvent_spec _ e w c s { b with kl:=putK (j:Int) (.string (str x)) b.kl } 2 (j:Int) 0 (.slice ad2 (leafP x).length k2) (leafP x) rfl zd)) ?_;rintro _ _ ⟨rfl,ve,rfl⟩;have hok2:=((hb.more (two1 (A:=N) (B:=OwnB (.slice ad2 (leafP x).length k2) (leafP x)))).kl (putK (j:Int) (.string (str x)) b.kl)).seen (x:=⟨2,(j:Int),0,.slice ad2 (leafP x).length k2,leafP x⟩) ve (RdSl.ent (RdSl.own .zero) two2) zd;refine wB ?_;refine Fin.round (j+1,{ b with kl:=putK (j:Int) (.string (str x)) b.kl,ve:=ve,es:=b.es++[⟨2,(j:Int),0,.slice ad2 (leafP x).length k2,leafP x⟩] },All [N,OwnB (.slice ad2 (leafP x).length k2) (leafP x)],ev++[(2,(j:Int),0,leafP x)]) ⟨by dsimp only;omega,by dsimp only;omega,hok2,by dsimp only;rw [evs4,List.map_append,← evs4,hev,List.append_assoc];rfl,⟨by dsimp only;rw [List.length_append,List.length_singleton];omega,.inr hlt⟩,fun y hy=>?_⟩ zd zS (Ent.trans (pull2_all (A:=N) (B:=OwnB (.slice ad2 (leafP x).length k2) (leafP x)) zP zP) zE);rcases List.mem_append.1 hy with hy|hy
  ·exact hea y hy
  ·rw [List.mem_singleton.1 hy];exact ⟨(by decide:(2:Int)≠3),.inr (ha.st.some zo)⟩
theorem freshP_whole {old:List Bts}:∀ {l fresh:List Bts},(old++fresh++l).Nodup→freshP old fresh l=fresh++l
 | [],fresh,h=>by simp [freshP]
 | b::l,fresh,h=>by
  unfold freshP;have h1:¬ b∈old++fresh:=fun q=>(List.nodup_append.1 h).2.2 _ q _ (List.mem_cons_self ..) rfl
  rw [if_neg h1,freshP_whole (by simpa using h),List.append_assoc];rfl
def ESt.stp (c:ECfg) (s:ESt):ESt:=if s.fs.dueNow c.f (s.time:Int)=true then { s with fs:=s.fs.stepQ c.f,ls:=s.ls.add (s.fs.some c.f) } else s
def ESt.stpN (c:ECfg) (s:ESt):Nat:=if s.fs.dueNow c.f (s.time:Int)=true then (s.fs.some c.f).length else 0
theorem ESt.ok.nodup {c:ECfg} {m:Nat} {s:ESt} (h:s.ok c m):(s.ls.items++s.fs.q.map (·.1)).Nodup:=h.perm.nodup_iff.2 h.recs
theorem ESt.ok.fresh {c:ECfg} {m:Nat} {s:ESt} (h:s.ok c m):s.ls.fresh (s.fs.some c.f)=s.fs.some c.f:=by
 unfold LSt.fresh FSt.some;have h1:=h.nodup
 rw [freshP_whole (by
  rw [List.append_nil];refine h1.sublist (List.Sublist.append_left ((List.take_sublist _ _).map _) _)),List.nil_append]
theorem ESt.ok.fit {c:ECfg} {m:Nat} {s:ESt} (h:s.ok c m):s.ls.items.length+(s.ls.fresh (s.fs.some c.f)).length≤250:=by
 rw [h.fresh];have h1:=h.perm.length_eq;rw [List.length_append,List.length_map] at h1
 have h2:(s.fs.some c.f).length≤s.fs.q.length:=by unfold FSt.some;rw [List.length_map,List.length_take];omega
 have:=h.few;have:=h.steps
 omega
theorem take_more {l m:List Bts} {k:Nat} {x:List Bts} (h:x=l.take x.length):x=(l++m).take x.length:=by
 have h1:=congrArg List.length h;rw [List.length_take] at h1
 rw [List.take_append_of_le_length zo];exact h
theorem ESt.stp_ok {c:ECfg} {m:Nat} {s:ESt} (h:s.ok c m) (hm:m<250):(s.stp c).ok c (m+1):=by
 unfold ESt.stp
 split
 rotate_left
 ·exact h.next hm
 have hi:(s.ls.add (s.fs.some c.f)).items=s.ls.items++s.fs.some c.f:=by rw [LSt.add_items,h.fresh]
 have hq:s.fs.some c.f++(s.fs.q.drop c.f.size).map (·.1)=s.fs.q.map (·.1):=by
  unfold FSt.some;rw [← List.map_append,List.take_append_drop]
 have hsm:∀ b∈s.fs.some c.f,b∈s.fs.q.map (·.1):=fun b hb=>by rw [← hq];exact List.mem_append_left _ hb
 have hl:=h.ls;have hf:=h.fs;have hfit:=h.fit;rw [h.fresh] at hfit
 have hnd:=h.nodup;have hlast:(s.ls.add (s.fs.some c.f)).last=s.ls.last:=by unfold LSt.add;split<;>rfl
 have hkeys:(s.ls.add (s.fs.some c.f)).keys=s.ls.keys:=by unfold LSt.add;split<;>rfl
 have hni:(s.ls.items++s.fs.some c.f).Nodup:=by
  rw [← hq,← List.append_assoc] at hnd
  exact (List.nodup_append.1 hnd).1
 exact { h.next hm with
  ls:={
   full:=fun r hr=>by
    unfold LSt.add at hr
    split at hr
    ·exact hl.full r hr
    ·rename_i hne;rcases List.mem_append.1 hr with hr|hr
     ·exact hl.full r hr
     ·rw [List.mem_singleton.1 hr];exact hne
   nodup:=by rw [hi];exact hni
   size:=by rw [hi,List.length_append];omega
   short:=fun b hb=>by
    rw [hi] at hb
    rcases List.mem_append.1 hb with hb|hb
    ·exact hl.short b hb
    ·obtain ⟨x,hx,rfl⟩:=List.mem_map.1 (hsm b hb);exact hf.qshort x hx
   keys:=by rw [hkeys];exact hl.keys
   last:=fun x hx=>by
    rw [hlast] at hx
    obtain ⟨h1,h2,h3⟩:=hl.last x hx;refine ⟨h1,h2,?_⟩;rw [hi,List.length_append];omega }
  last:=fun x hx=>by
   show Hon (s.ls.add (s.fs.some c.f)).items x
   rw [hi];exact (h.last x (by rw [← hlast];exact hx)).more
  fs:={
   size:=hf.size
   good:=hf.good
   qsize:=by show (s.fs.q.drop c.f.size).length≤1000;rw [List.length_drop];have:=hf.qsize;omega
   qshort:=fun x hx=>hf.qshort x (List.mem_of_mem_drop hx)
   qtime:=fun x hx=>hf.qtime x (List.mem_of_mem_drop hx) }
  perm:=by
   show ((s.ls.add (s.fs.some c.f)).items++(s.fs.q.drop c.f.size).map (·.1)).Perm s.fs.recs
   rw [hi,List.append_assoc,hq];exact h.perm
  ws:=fun x hx=>⟨(h.ws x hx).1,Nat.le_succ_of_le (h.ws x hx).2.1,by show HonC (s.ls.add (s.fs.some c.f)).items _;rw [hi];exact (h.ws x hx).2.2.more⟩
  cur:=fun x hx=>⟨by show Hon (s.ls.add (s.fs.some c.f)).items _;rw [hi];exact (h.cur x hx).1.more,(h.cur x hx).2⟩
  done:=fun hn=>⟨by show Hon (s.ls.add (s.fs.some c.f)).items _;rw [hi];exact (h.done hn).1.more,(h.done hn).2⟩
  mop:=by show s.mo.items=(s.ls.add (s.fs.some c.f)).items.take _;rw [hi];exact take_more (k:=0) h.mop
  net:=fun x hx=>by show MsgP.ok c (s.ls.add (s.fs.some c.f)).items x;rw [hi];exact (h.net x hx).more
  signed:=fun x hx=>⟨by show HonC (s.ls.add (s.fs.some c.f)).items _;rw [hi];exact (h.signed x hx).1.more,(h.signed x hx).2⟩ }
end Go.Proofs
namespace Go.Proofs
attribute [local irreducible] Bs.Val Bs.Do Bs.O Bs.W Bs.Fin Bs.A Bs.Ct Bs.RdSl Bs.Rd Bs.Sat Bs.Blk Bs.Ob Bs.Own Bs.View Bs.Ent Bs.Ex Bs.All Bs.Pu Bs.Base Bs.sepL Bs.RdA
open Go.Bs
open Tryz
variable (R:List Res) (e:World)
theorem eStep_spec (w:Nat) (c:ECfg) (m:Nat) (s:ESt) (ev:List (Int × Int × Int × Bts)) (k n to wh:Int) (v:Value) (hv:v.oneCell'=true) (hm:m<250) :
 Ct prog 84 #[pt w,.agg (itC k n to wh v).toArray] e (EcoR w c m s ev::R) (fun v' L'=>v'=.tuple #[.int .i64 (s.stpN c:Int),.int .i64 0]∧∃ ev',EvA ev' (s.stp c)∧L'=EcoR w c (m+1) (s.stp c) (ev++ev')::R):=by
 refine eco_out fun a M ha he=>?_
 have hst:=ha.st;have hst2:=ESt.stp_ok hst hm;have hok2:=ha.to hst2 (Nat.le_succ m) (by unfold ESt.stp;split<;>rfl) (by unfold ESt.stp;split<;>rfl);have ht:=hst.time;have hec:=ha.ec;have hsz:=hst.short;refine Ct.enter (args:=[_,_]) func84 rfl ntmps84 results84 rfl ?_
 (repeat (refine wA ?_;intros))
 refine O.call rfl rfl (Ct.at zP (lSize_spec _ e a.gl a.ld a.lk (ecoSeed 0) s.ls)) ?_;rintro _ _ ⟨rfl,rfl⟩;refine wB ?_;rename_i g3;refine A.begin (id:=2) [13] (Blk g3 (itC k n to wh v) tItem (0,0)::Blk w (a.cells c s) tWld (0,0)::M::R) mixed ?_
 (refine tM 0 ?_;refine tN 1 ?_;refine tF 2 ?_;refine tL 3 ?_;refine tM 4 ?_;refine tN 5 ?_;refine tF 6 ?_;refine tL 7 ?_)
 refine tO 8 ?_;refine Do.call rfl rfl (Ct.at2 zP zP (fStep_spec _ e a.gf a.fdk a.gl a.ld a.lk (ecoSeed 0) s.ls c.f s.fs (s.time:Int) zo (by have:=hst.fit;omega))) ?_;have hN0:s.fs.dueNow c.f (s.time:Int)=false→s.stp c=s∧s.stpN c=0:=fun h=>by unfold ESt.stp ESt.stpN;rw [h];exact ⟨rfl,rfl⟩
 have hN1:s.fs.dueNow c.f (s.time:Int)=true→s.stp c={ s with fs:=s.fs.stepQ c.f,ls:=s.ls.add (s.fs.some c.f) }∧s.stpN c=(s.fs.some c.f).length:=fun h=>by unfold ESt.stp ESt.stpN;rw [h];exact ⟨rfl,rfl⟩
 rintro _ _ (⟨hd,rfl,rfl⟩|⟨hd,ao,co,rfl,rfl⟩)
 ·obtain ⟨h1,h2⟩:=hN0 hd;rw [h1] at hok2 ⊢
  rw [h2];refine ⟨fun _=>zE,?_⟩
  (refine tM 9 ?_;refine tk 10 _ rfl (Val.extract rfl rfl) ?_;refine tk 11 _ rfl (Val.extract rfl rfl) ?_;refine tA 12 ?_;(refine tO 13 ?_;refine dV (Val.assign rfl) ?_))
  refine A.done zK ?_;refine wB ?_;refine O.call rfl rfl (Ct.ent (eLeaves_spec (Blk g3 (itC k n to wh v) tItem (0,0)::R) e w c (m+1) s a M hok2 s.ls.items.length zo zo) zE) ?_;rintro _ _ ⟨rfl,a2,M2,ev2,hok3,hev2,-,hea,rfl⟩;refine wB ?_;refine Fin.ret (EcoR w c (m+1) s (ev++ev2)::R) rfl (Ent.trans (show Ent _ (ecoM w c s a2 M2 R) from zE) (eco_in hok3 (by rw [← he];exact hev2))) ⟨rfl,ev2,hea,rfl⟩
 ·obtain ⟨h1,h2⟩:=hN1 hd;rw [h1] at hok2 ⊢
  rw [h2];refine ⟨fun _=>zE,?_⟩
  generalize (s.fs.some c.f).length=nn at *
  (refine tM 9 ?_;refine tk 10 _ rfl (Val.extract rfl rfl) ?_;refine tk 11 _ rfl (Val.extract rfl rfl) ?_;refine tA 12 ?_;(refine tO 13 ?_;refine dV (Val.assign rfl) ?_))
  refine A.done zK ?_;refine wB ?_;refine O.call rfl rfl (Ct.ent (eLeaves_spec (Blk g3 (itC k n to wh v) tItem (0,0)::R) e w c (m+1) _ a M hok2 s.ls.items.length zo zo) zE) ?_;rintro _ _ ⟨rfl,a2,M2,ev2,hok3,hev2,-,hea,rfl⟩;refine wB ?_;refine Fin.ret _ rfl (Ent.trans (show Ent _ (ecoM w c { s with fs:=s.fs.stepQ c.f,ls:=s.ls.add (s.fs.some c.f) } a2 M2 R) from zE) (eco_in hok3 (ev:=ev++ev2) (by rw [← he];exact hev2))) ⟨rfl,ev2,hea,rfl⟩
theorem offN_same (now:Nat):∀ (m:Nat) (s:FdSt),(FdSt.offN now m s).cur=s.cur∧(FdSt.offN now m s).kept=s.kept∧(FdSt.offN now m s).done=s.done∧(FdSt.offN now m s).enough=s.enough
 | 0,_=>⟨rfl,rfl,rfl,rfl⟩
 | m+1,s=>by
  obtain ⟨h1,h2,h3,h4⟩:=offN_same now m s;exact ⟨h1,h2,h3,h4⟩
theorem offS_same (p:Pol) (s:FdSt) (x:Sgd) (now:Nat):(s.offS p x now).done=s.done∧(s.offS p x now).enough=s.enough∧((s.offS p x now)=s∨((s.offS p x now).cur=some x∧(s.offS p x now).kept=[])):=by
 unfold FdSt.offS
 split
 ·obtain ⟨h1,h2,h3,h4⟩:=offN_same now s.st.length { s with cur:=some x,kept:=[] };exact ⟨h3,h4,.inr ⟨h1,h2⟩⟩
 ·exact ⟨rfl,rfl,.inl rfl⟩
def ESt.canPub (s:ESt):Prop:=s.ls.same∨s.ls.keys<16
instance (s:ESt):Decidable s.canPub:=by unfold ESt.canPub;infer_instance
def ESt.pubV (s:ESt):Sgd:=(s.ls.pub (ecoSeed 0)).lastV
def ESt.pub1 (c:ECfg) (s:ESt):ESt:={ s with ls:=s.ls.pub (ecoSeed 0),fd:=if 0<s.pubV.chk.size then s.fd.offS (ecoPol c) s.pubV s.time else s.fd,n:=s.n+c.k }
def ESt.pub (c:ECfg) (s:ESt):ESt:=if s.canPub then { s.pub1 c with signed:=some s.pubV.chk } else s
def EvP (ev:List (Int × Int × Int × Bts)) (s:ESt):Prop:=ev=[]∨∃ x:Chk,s.signed=some x∧ev=[(3,(x.size:Int),0,x.root)]
theorem ESt.pub_items (s:ESt):(s.ls.pub (ecoSeed 0)).items=s.ls.items:=by unfold LSt.pub;split;rfl;split<;>rfl
theorem ESt.pub_hon {c:ECfg} {m:Nat} {s:ESt} (h:s.ok c m) (hp:s.canPub):Hon s.ls.items s.pubV∧s.pubV.chk.size=s.ls.items.length∧(s.ls.pub (ecoSeed 0)).last=some s.pubV:=by
 unfold ESt.pubV LSt.pub
 split
 ·rename_i hs;obtain ⟨h1,h2⟩:=hs;obtain ⟨x,hx⟩:=Option.isSome_iff_exists.1 h1;have hv:s.ls.lastV=x:=by unfold LSt.lastV;rw [hx];rfl
  rw [hv] at h2 ⊢
  exact ⟨h.last x hx,h2,hx⟩
 ·rename_i hs;have hk:s.ls.keys<16:=hp.resolve_left hs;rw [if_pos hk];have hr:=LSt.chk_right h.ls;refine ⟨⟨ver_signC hr hk,signP_right hk,Nat.le_refl _,?_⟩,rfl,rfl⟩
  show rootP (s.ls.items.map leafP)=rootP ((s.ls.items.take s.ls.items.length).map leafP)
  rw [List.take_length]
theorem ESt.pub_lok {c:ECfg} {m:Nat} {s:ESt} (h:s.ok c m) (hp:s.canPub):(s.ls.pub (ecoSeed 0)).ok:=by
 obtain ⟨h1,h2,h3⟩:=ESt.pub_hon h hp;have hl:=h.ls;have hi:=s.pub_items;have hrec:(s.ls.pub (ecoSeed 0)).recs=s.ls.recs:=by unfold LSt.pub;split;rfl;split<;>rfl
 exact {
  full:=by rw [hrec];exact hl.full
  nodup:=by rw [hi];exact hl.nodup
  size:=by rw [hi];exact hl.size
  short:=by rw [hi];exact hl.short
  keys:=by
   unfold LSt.pub
   split
   ·exact hl.keys
   ·split
    ·rename_i hk;exact hk
    ·exact hl.keys
  last:=fun x hx=>by
   rw [h3] at hx
   cases hx
   exact ⟨h1.1.1,h1.2.1,by rw [hi];omega⟩ }
theorem ESt.pub1_ok {c:ECfg} {m:Nat} {s:ESt} (h:s.ok c m) (hm:m<250) (hp:s.canPub):(s.pub1 c).ok c (m+1):=by
 obtain ⟨h1,h2,h3⟩:=ESt.pub_hon h hp;have hi:=s.pub_items;have ht:=h.time;have hn:=h.nb;have hk:=h.cfg.k;have hlen:=ecoPol_len c
 have hfd:FdSt.ok (if 0<s.pubV.chk.size then s.fd.offS (ecoPol c) s.pubV s.time else s.fd) c.k (s.n+c.k):=by
  split
  ·exact FdSt.offS_ok h.fd h1.fits zo zo zo
  ·exact h.fd.mono zo
 obtain ⟨q1,q2,q3⟩:=offS_same (ecoPol c) s.fd s.pubV s.time
 exact { h.next hm with
  ls:=ESt.pub_lok h hp
  last:=fun x hx=>by
   show Hon (s.ls.pub (ecoSeed 0)).items x
   have hx:(s.ls.pub (ecoSeed 0)).last=some x:=hx;rw [h3] at hx
   cases hx
   rw [hi];exact h1
  perm:=by show ((s.ls.pub (ecoSeed 0)).items++_).Perm _;rw [hi];exact h.perm
  ws:=fun x hx=>⟨(h.ws x hx).1,Nat.le_succ_of_le (h.ws x hx).2.1,by show HonC (s.ls.pub (ecoSeed 0)).items _;rw [hi];exact (h.ws x hx).2.2⟩
  fd:=hfd
  nb:=by show s.n+c.k≤_;omega
  cur:=fun x hx=>by
   show Hon (s.ls.pub (ecoSeed 0)).items x∧_
   rw [hi];have hx:FdSt.cur (if 0<s.pubV.chk.size then s.fd.offS (ecoPol c) s.pubV s.time else s.fd)=some x:=hx
   split at hx
   ·rename_i h0;rcases q3 with q3|⟨q3,-⟩
    ·rw [q3] at hx;exact h.cur x hx
    ·rw [q3] at hx;cases hx;exact ⟨h1,h0⟩
   ·exact h.cur x hx
  idle:=fun hx=>by
   show FdSt.ag (if 0<s.pubV.chk.size then s.fd.offS (ecoPol c) s.pubV s.time else s.fd)=[]
   have hx:FdSt.cur (if 0<s.pubV.chk.size then s.fd.offS (ecoPol c) s.pubV s.time else s.fd)=none:=hx
   split at hx
   ·rename_i h0;rw [if_pos h0];rcases q3 with q3|⟨q3,-⟩
    ·rw [q3] at hx ⊢;exact h.idle hx
    ·rw [q3] at hx;cases hx
   ·rename_i h0;rw [if_neg h0];exact h.idle hx
  kept:=fun g hg=>by
   show g.ver _ (FdSt.curV (if 0<s.pubV.chk.size then s.fd.offS (ecoPol c) s.pubV s.time else s.fd)).chk
   have hg:g∈FdSt.kept (if 0<s.pubV.chk.size then s.fd.offS (ecoPol c) s.pubV s.time else s.fd):=hg
   split at hg
   ·rename_i h0;rw [if_pos h0];rcases q3 with q3|⟨-,q3⟩
    ·rw [q3] at hg ⊢;exact h.kept g hg
    ·rw [q3] at hg;cases hg
   ·rename_i h0;rw [if_neg h0];exact h.kept g hg
  done:=fun hx=>by
   show Hon (s.ls.pub (ecoSeed 0)).items (FdSt.done (if 0<s.pubV.chk.size then s.fd.offS (ecoPol c) s.pubV s.time else s.fd))∧0<(FdSt.done (if 0<s.pubV.chk.size then s.fd.offS (ecoPol c) s.pubV s.time else s.fd)).chk.size∧metP (ecoPol c) (FdSt.done (if 0<s.pubV.chk.size then s.fd.offS (ecoPol c) s.pubV s.time else s.fd)).chk (FdSt.enough (if 0<s.pubV.chk.size then s.fd.offS (ecoPol c) s.pubV s.time else s.fd))
   have hx:FdSt.enough (if 0<s.pubV.chk.size then s.fd.offS (ecoPol c) s.pubV s.time else s.fd)≠[]:=hx;rw [hi]
   split at hx
   ·rename_i h0;rw [if_pos h0,q1,q2];rw [q2] at hx
    exact h.done hx
   ·rename_i h0;rw [if_neg h0];exact h.done hx
  mop:=by show s.mo.items=(s.ls.pub (ecoSeed 0)).items.take _;rw [hi];exact h.mop
  net:=fun x hx=>by show MsgP.ok c (s.ls.pub (ecoSeed 0)).items x;rw [hi];exact h.net x hx
  signed:=fun x hx=>by show HonC (s.ls.pub (ecoSeed 0)).items _∧_;rw [hi];exact h.signed x hx }
theorem ESt.pub_ok {c:ECfg} {m:Nat} {s:ESt} (h:s.ok c m) (hm:m<250):(s.pub c).ok c (m+1):=by
 unfold ESt.pub
 split
 rotate_left
 ·exact h.next hm
 ·rename_i hp;obtain ⟨h1,h2,h3⟩:=ESt.pub_hon h hp
  exact { ESt.pub1_ok h hm hp with
   signed:=fun x hx=>by
    cases hx
    show HonC (s.ls.pub (ecoSeed 0)).items _∧_
    rw [s.pub_items];exact ⟨h1.2.2,h1.1.1⟩ }
theorem EMem.ok.sign {a:EMem} {M:Res} {w:Nat} {c:ECfg} {m:Nat} {s:ESt} (h:a.ok M w c m s) {x:Chk} {v:Value} (hx:RdB [M] v x.root) (h2:ESt.ok c m { s with signed:=some x }):EMem.ok { a with vr:=v } M w c m { s with signed:=some x } :=
 {h with root:=hx,all:=⟨h.all.all⟩,st:=h2,net:=h.net }
theorem ePub_spec (w:Nat) (c:ECfg) (m:Nat) (s:ESt) (ev:List (Int × Int × Int × Bts)) (k n to wh:Int) (v:Value) (hv:v.oneCell'=true) (hm:m<250) :
 Ct prog 85 #[pt w,.agg (itC k n to wh v).toArray] e (EcoR w c m s ev::R) (fun v' L'=>v'=.tuple #[.int .i64 (if s.canPub then (s.pubV.chk.size:Int) else 0),.int .i64 (if s.canPub then 0 else 23)]∧∃ ev',EvP ev' (s.pub c)∧L'=EcoR w c (m+1) (s.pub c) (ev++ev')::R):=by
 refine eco_out fun a M ha he=>?_
 have hst:=ha.st;have ht:=hst.time;have hn:=hst.nb;have hec:=ha.ec;refine Ct.enter (args:=[_,_]) func85 rfl ntmps85 results85 rfl ?_
 (repeat (refine wA ?_;intros))
 refine O.call rfl rfl (Ct.at zP (lPub_spec _ e a.gl a.ld a.lk (ecoSeed 0) s.ls)) ?_;rintro v0 _ ⟨hp1,hp2⟩
 by_cases hp:s.canPub
 rotate_left
 ·obtain ⟨rfl,rfl⟩:=hp2 hp;have hs:s.pub c=s:=by unfold ESt.pub;rw [if_neg hp]
  have hok2:=ha.to (hst.next hm) (Nat.le_succ m) rfl rfl;rw [hs,if_neg hp,if_neg hp]
  (repeat (refine wA ?_;intros))
  refine Fin.ret (EcoR w c (m+1) s ev::R) rfl (Ent.trans (show Ent _ (ecoM w c s a M R) from zE) (eco_in hok2 he)) ⟨rfl,[],.inl rfl,by rw [List.append_nil]⟩
 obtain ⟨N,ur,up,uq,rfl,hN,rfl⟩:=hp1 hp;obtain ⟨g1,g2,g3⟩:=ESt.pub_hon hst hp;have hst1:=ESt.pub1_ok hst hm hp;have hst2:=ESt.pub_ok hst hm;have hs:s.pub c={ s.pub1 c with signed:=some s.pubV.chk }:=by unfold ESt.pub;rw [if_pos hp]
 rw [if_pos hp,if_pos hp];rw [hs] at hst2 ⊢
 rw [show (s.ls.pub (ecoSeed 0)).lastV=s.pubV from rfl] at hN ⊢
 refine O.of_sep (RdB.one (hN.root.ent (one_in zP))) fun o3=>?_
 refine O.of_sep (hN.sig.ent (one_in zP)).parts.one fun o4=>?_
 refine O.of_sep (hN.sig.ent (one_in zP)).path.one fun o5=>?_
 clear hp1 hp2
 (repeat' first|refine W.meetS (id:=7) (fun j:Nat × Nat=>[(0,pt w),(8,pt j.2)]) (fun j=>Blk j.2 (chkC s.pubV.chk ur) 83 (0,0)::N::ecoM w c (s.pub1 c) a M R) (fun _=>True) ?_ ?_|refine Za ?_|refine Zb ?_|apply Zc|apply Zd|apply Ze|apply Zf|refine Zh ?_|refine ZQ ?_|refine Yh fun _=>?_|refine YA ?_|apply YC|refine YN ?_|refine YR ?_|(apply O.loadAggB;exact rfl;exact zP;(first|(simp only [Nat.zero_add,Nat.add_zero,Nat.reduceAdd,List.drop_succ_cons,List.drop_zero,List.take_succ_cons,List.take_zero];done)|(simp only [Nat.zero_add,Nat.add_zero,Nat.reduceAdd,List.drop_succ_cons,List.drop_zero,List.take_succ_cons,List.take_zero];exact rfl));exact rfl;exact rfl))
 rotate_left
 ·refine ⟨?_⟩;rename_i g6 g8
  by_cases h0:0<s.pubV.chk.size
  rotate_left
  ·have hs1:s.pub1 c={ s with ls:=s.ls.pub (ecoSeed 0),fd:=s.fd,n:=s.n+c.k }:=by unfold ESt.pub1;rw [if_neg h0]
   rw [hs1];refine wB ?_;exact Fin.meet (g6,g8) trivial zS (Ent.trans (Ent.pull (show Pull _ (FdR a.gfd (ecoPol c) c.retry s.n s.fd) _ from zP) Ent.rfl) (Ent.trans (fd_mono (Nat.le_add_right s.n c.k)) zE))
  ·have hs1:s.pub1 c={ s with ls:=s.ls.pub (ecoSeed 0),fd:=s.fd.offS (ecoPol c) s.pubV s.time,n:=s.n+c.k }:=by unfold ESt.pub1;rw [if_pos h0]
   rw [hs1];refine wB ?_;refine A.begin (id:=6) [] (Blk g6 (sgdC s.pubV ur up uq) tSgd (0,0)::Blk w (a.cells c s) tWld (0,0)::N::R) mixed ?_
   (refine tM 0 ?_;refine tN 1 ?_;refine tF 2 ?_;refine tL 3 ?_;refine tJ 4 ?_;refine tM 5 ?_;refine tN 6 ?_;refine tF 7 ?_;refine tL 8 ?_)
   refine tO 9 ?_;have hof:=fun L hL=>fOffer_spec L e a.gfd (ecoPol c) c.retry s.n s.fd ur up uq s.pubV s.time hL g1.fits zo zo
   rw [ecoPol_len] at hof
   refine Do.call rfl rfl (Ct.at zP (hof _ (hN.ent (one_in zP)))) ?_;rintro _ _ ⟨rfl,rfl⟩;refine ⟨fun _=>zE,?_⟩;refine A.done zK ?_;exact Fin.meet (g6,g8) trivial zS zE
 rintro ⟨-,g8⟩ -;dsimp only;have hok1:=ha.to hst1 (Nat.le_succ m) rfl rfl;refine wB ?_;refine O.call rfl rfl (eSame_spec _ e w s.sv a.vr s.signed.isSome s.pubV.chk ur (Rd.blk (show Pull _ (Blk w (a.cells c (s.pub1 c)) tWld (0,0)) _ from zP) rfl) (RdA.blk (show Pull _ (Blk w (a.cells c (s.pub1 c)) tWld (0,0)) _ from zP) ⟨2,rfl⟩) (fun _=>ha.root.ent (one_in (show Pull _ M _ from zP))) (hN.root.ent (one_in (show Pull _ N _ from zP)))) ?_;rintro _ _ ⟨rfl,rfl⟩
 by_cases hsg:s.signed=some s.pubV.chk
 ·have hb:(s.signed.isSome && decide (s.sv=s.pubV.chk))=true:=by unfold ESt.sv;rw [hsg];simp
  rw [hb];have hs2:({ s.pub1 c with signed:=some s.pubV.chk }:ESt)=s.pub1 c:=by unfold ESt.pub1;rw [← hsg]
  rw [hs2];refine wB ?_;refine Fin.ret (EcoR w c (m+1) (s.pub1 c) ev::R) rfl (Ent.trans (show Ent _ (ecoM w c (s.pub1 c) a M R) from zE) (eco_in hok1 he)) ⟨rfl,[],.inl rfl,by rw [List.append_nil]⟩
 ·have hb:(s.signed.isSome && decide (s.sv=s.pubV.chk))=false:=by
   unfold ESt.sv
   cases hq:s.signed with
   | none=>rfl
   | some y=>simp only [Option.isSome_some,Bool.true_and,Option.getD_some,decide_eq_false_iff_not];rintro rfl;exact hsg hq
  rw [hb];have hok2:=(hok1.more (two1 (A:=M) (B:=N))).sign (hN.root.ent two2) hst2;refine wB ?_;refine O.call rfl rfl (Ct.at2 zP zP (eEvent_spec _ e w c { s.pub1 c with signed:=some s.pubV.chk } { a with vr:=ur } 3 (s.pubV.chk.size:Int) 0 ur s.pubV.chk.root o3 zd)) ?_;rintro _ _ ⟨rfl,ve,rfl⟩;have hok3:=hok2.seen (x:=⟨3,(s.pubV.chk.size:Int),0,ur,s.pubV.chk.root⟩) ve (hN.root.ent two2) zd;refine wB ?_;refine Fin.ret (EcoR w c (m+1) { s.pub1 c with signed:=some s.pubV.chk } (ev++[(3,(s.pubV.chk.size:Int),0,s.pubV.chk.root)])::R) rfl (Ent.trans ?_ (eco_in hok3 (by dsimp only;rw [List.map_append,he];rfl))) ⟨rfl,_,.inr ⟨_,rfl,rfl⟩,rfl⟩;exact Ent.trans (pull2_all (A:=M) (B:=N) zP zP) zE
abbrev tGro:TypeId:=102
theorem eQuestion_spec (v:Value) (x:Sgd) (n m:Nat) (path:List Bts) (hv:RdB R v (askB x n m path)) (hc:x.chk.right) (hr:x.sig.right) (hn:n≤1000000) (hm:m≤1000000) (hp:path.length≤16) (h32:∀ a∈path,a.length=32) :
 Ct prog 251 #[v] e R (fun v' L'=>∃ (M:Res) (ur up uq:Value) (ad:Option Addr) (k:Nat) (ts:List Txt),v'=.tuple #[.agg (sgdC x ur up uq).toArray,.agg #[.int .i64 (n:Int),.int .i64 (m:Int),.slice ad ts.length k],.bool true]∧ts.map (·.2)=path∧RdSgd [M] ur up uq x∧RdSl [M] 1 (.slice ad ts.length k) ts.length (ts.map (·.1))∧Txts [M] ts∧L'=M::R):=by
 have hfl:=flatten_len h32;have hes:=encSgd_length hc hr
 have hal:(askB x n m path).length≤3000:=by
  unfold askB;simp only [List.length_append,List.length_cons,be_length]
  omega
 refine Ct.of_sep (RdB.one hv) fun o1=>?_
 refine Ct.enterC (args:=[_]) func251 rfl ntmps251 results251 rfl ?_
 (repeat (refine wA ?_;intros))
 rename_i g2 g3;refine O.call rfl rfl (read_spec _ e v (askB x n m path) (hv.ent zE) zo) ?_;rintro _ _ ⟨gr,rfl,rfl⟩;have henc:askB x n m path=encSgd x++(be n 4++(be m 4++(UInt8.ofNat path.length::path.flatten))):=rfl;rw [henc];refine wB ?_;refine O.call rfl rfl (cGet_spec _ e gr x _ hc hr (by simp only [List.length_append,List.length_cons,be_length];omega)) ?_;rintro _ _ ⟨N,ur,up,uq,rfl,hN,rfl⟩;refine O.of_sep (RdB.one (hN.root.ent (one_in zP))) fun o8=>?_
 refine O.of_sep (hN.sig.ent (one_in zP)).parts.one fun o9=>?_
 refine O.of_sep (hN.sig.ent (one_in zP)).path.one fun o10=>?_
 (repeat (refine wA ?_;intros))
 rename_i g6;refine O.call rfl rfl (Ct.at zP (rnumB _ e gr n _ zo)) ?_;rintro _ _ ⟨rfl,rfl⟩;refine wB ?_;refine O.call rfl rfl (Ct.at zP (rnumB _ e gr m _ zo)) ?_;rintro _ _ ⟨rfl,rfl⟩
 (repeat (refine wA ?_;intros))
 rename_i g8;refine O.call rfl rfl (Ct.at zP (rbyteB _ e gr _ _)) ?_;rintro _ _ ⟨rfl,rfl⟩;rw [← u8_nat (n:=path.length) zo];refine wB ?_;refine W.loop (ι:=Nat × List Txt × Option Addr × Nat) (fun j=>[(2,pt g2),(3,pt g3),(5,pt gr),(6,pt g6),(7,.bool true),(8,pt g8),(9,.int .u8 ((path.length - j.1:Nat):Int))]) (fun j=>Reader gr ⟨(path.drop j.1).flatten,false⟩::Blk g8 [.int .i64 (n:Int),.int .i64 (m:Int),.slice j.2.2.1 j.2.1.length j.2.2.2] tGro (0,0)::OwnT (.slice j.2.2.1 j.2.1.length j.2.2.2) j.2.1::Items j.2.1::Blk g6 (sgdC x ur up uq) tSgd (0,0)::N::Blk g2 sgdZC tSgd (0,0)::Blk g3 [.int .i64 0,.int .i64 0,nY] tGro (0,0)::R) (fun j=>j.1≤path.length∧j.2.1.map (·.2)=path.take j.1) (fun j=>path.length - j.1) (0,[],none,0) ⟨Nat.zero_le _,rfl⟩ zS (Ent.trans items_nil (Ent.trans (own_nil tTxts 1) zE)) ?_;rintro ⟨j,us,adu,cu⟩ ⟨hj,hus⟩;dsimp only at hj hus ⊢
 have hul:us.length=j:=by have:=congrArg List.length hus;rw [List.length_map,List.length_take] at this;omega
 by_cases hlt:j<path.length
 ·have hpd:=path_drop hlt;have h32j:=h32 _ (List.getElem_mem hlt);have htk:path.take (j+1)=path.take j++[path[j]'hlt]:=List.take_succ_eq_append_getElem hlt
  have hle:((path.drop (j+1)).flatten).length≤3000:=by
   have:=flatten_len (l:=path.drop (j+1)) (n:=32) (fun a ha=>h32 a (List.mem_of_mem_drop ha));rw [this,List.length_drop];omega
  rw [hpd]
  generalize path[j]'hlt=y at *
  have hdec:=u8_dec (n:=path.length - j) zo zo;rw [show path.length - j - 1=path.length - (j+1) by omega] at hdec
  refine wB ?_;refine O.call rfl rfl (rbad_spec _ e gr _) ?_;rintro _ _ ⟨rfl,rfl⟩;refine wB ?_;refine A.begin (id:=7) [6,7] (Blk g8 [.int .i64 (n:Int),.int .i64 (m:Int),.slice adu us.length cu] tGro (0,0)::R) mixed ?_
  (refine tF 0 ?_;refine tL 1 ?_;refine tM 2 ?_)
  refine tO 3 ?_;refine Do.call rfl rfl (Ct.at zP (rrawB _ e gr 32 y _ h32j (by simp only [List.length_append];omega))) ?_;rintro _ _ ⟨adx,cx,rfl,rfl⟩;refine ⟨fun _=>zE,?_⟩;refine tO 4 ?_;refine Do.buildSlice (n:=1) (cs:=[.slice adx y.length cx]) rfl rfl rfl rfl zQ rfl (fun gb=>⟨fun _=>zE,?_⟩);refine tO 5 ?_;refine Do.append rfl rfl rfl (show Pull _ (OwnT (.slice adu us.length cu) us) _ from zP) (RdSl.blkN (n:=1) (c:=1) zP rfl zl) rfl rfl zO zm zo fun ad1 k1 _=>⟨fun _=>zE,?_⟩
  refine tO 6 ?_;refine dV (Val.fieldAddr rfl) ?_;refine tO 7 ?_;refine zs1 ?_;refine ⟨zN,?_⟩;refine A.done zK ?_;refine wB ?_;rw [hdec];refine Fin.round (j+1,us++[(.slice adx y.length cx,y)],ad1,k1) ⟨hlt,by dsimp only;rw [htk,List.map_append,hus];rfl⟩ zd zS ?_;simp only [OwnT,List.length_append,List.length_singleton,List.map_append,List.map_cons,List.map_nil];exact Ent.trans (Ent.trans (show Ent _ (OwnB (.slice adx y.length cx) y::Items us::Own tTxts 1 (.slice ad1 (us.length+1) k1) (us.length+1) (us.map (·.1)++[.slice adx y.length cx])::Reader gr ⟨(path.drop (j+1)).flatten,false⟩::Blk g8 [.int .i64 (n:Int),.int .i64 (m:Int),.slice ad1 (us.length+1) k1] tGro (0,0)::Blk g6 (sgdC x ur up uq) tSgd (0,0)::N::Blk g2 sgdZC tSgd (0,0)::Blk g3 [.int .i64 0,.int .i64 0,nY] tGro (0,0)::R) from zE) grow_items) zE
 rw [List.take_of_length_le zo] at hus
 rw [List.drop_eq_nil_of_le zo,List.flatten_nil,show path.length - j=0 by omega];refine wB ?_;refine A.begin (id:=8) [9] (Blk g8 [.int .i64 (n:Int),.int .i64 (m:Int),.slice adu us.length cu] tGro (0,0)::Blk g6 (sgdC x ur up uq) tSgd (0,0)::R) mixed ?_
 (refine tJ 0 ?_;refine tJ 1 ?_;refine tM 2 ?_;refine tM 3 ?_;refine tkG 4 _ rfl (Val.move rfl) ?_)
 refine A.oneG 5 rfl rfl zK ?_;refine Do.call rfl rfl (rendB _ e gr []) ?_;rintro _ _ ⟨rfl,rfl⟩;rw [decide_eq_true rfl];refine ⟨fun _=>zE,?_⟩
 (refine tk 6 _ rfl (Val.pick_t rfl rfl) ?_)
 refine tO 7 ?_;refine zg ?_;refine ⟨fun _=>zE,?_⟩;refine tO 8 ?_;refine zg ?_;refine ⟨fun _=>zE,?_⟩
 ((refine tO 9 ?_;refine dV (Val.assign rfl) ?_))
 refine A.done zK ?_;obtain ⟨M,hM⟩:∃ M:Res,M=All [N,OwnT (.slice adu us.length cu) us,Items us]:=⟨_,rfl⟩
 have ho:Ent [M] [N,OwnT (.slice adu us.length cu) us,Items us]:=by rw [hM];exact all_out (M:=[_,_,_]) (L:=[])
 refine wB ?_;apply Fin.retC
 ·exact zV
 refine ⟨M::R,?_,M,ur,up,uq,adu,cu,us,rfl,hus,(hN.ent (one_in .zero)).ent ho,(RdSl.own (.succ .zero)).ent ho,fun y hy=>(Txts.pull (.succ (.succ .zero)) y hy).ent ho,rfl⟩;rw [hM];exact Ent.trans (pull3_all (A:=N) (B:=OwnT (.slice adu us.length cu) us) (C:=Items us) zP zP zP) zE
theorem growP_small {l:List Bts} {n:Nat} (hl:l.length≤256):(growP (l.map leafP) n).length≤16∧∀ a∈growP (l.map leafP) n,a.length=32:=by
 have h32:∀ a∈l.map leafP,a.length=32:=fun a ha=>by
  obtain ⟨y,-,rfl⟩:=List.mem_map.1 ha;exact tagP_length _ _
 unfold growP
 split
 ·rename_i h;refine ⟨?_,subP_hash _ n _ true rfl h32⟩;rw [subP_length _ n _ true rfl zo zo];have:=glenP_le 8 (l.map leafP).length n true (by rw [List.length_map];omega)
  omega
 ·exact ⟨by simp,fun a ha=>by cases ha⟩
def askM (items:List Bts) (x:Sgd) (r:Nat × Nat):MsgP:=.ask r.1 x r.2 x.chk.size (growP ((items.take x.chk.size).map leafP) r.2)
def askL (items:List Bts) (x:Sgd):List (Nat × Nat)→List MsgP→List MsgP
 | [],net=>net
 | r::l,net=>askL items x l (if net.length<32 then net++[askM items x r] else net)
theorem askL_snoc (items:List Bts) (x:Sgd) (r:Nat × Nat):∀ (l:List (Nat × Nat)) (net:List MsgP),askL items x (l++[r]) net=if (askL items x l net).length<32 then askL items x l net++[askM items x r] else askL items x l net
 | [],net=>rfl
 | y::l,net=>by
  rw [List.cons_append]
  show askL items x (l++[r]) _=_
  rw [askL_snoc items x r l];rfl
theorem askL_len (items:List Bts) (x:Sgd):∀ (l:List (Nat × Nat)) (net:List MsgP),net.length≤32→(askL items x l net).length≤32∧net.length≤(askL items x l net).length
 | [],net,h=>⟨h,Nat.le_refl _⟩
 | r::l,net,h=>by
  unfold askL
  split
  ·rename_i h1;obtain ⟨h2,h3⟩:=askL_len items x l (net++[askM items x r]) (by rw [List.length_append];exact h1);refine ⟨h2,?_⟩;rw [List.length_append] at h3
   omega
  ·exact askL_len items x l net h
theorem askL_ok {c:ECfg} {items:List Bts} {x:Sgd} (hx:Hon items x) (h0:0<items.length):∀ (l:List (Nat × Nat)) (net:List MsgP),(∀ y∈net,y.ok c items)→(∀ r∈l,r.1<c.k∧r.2≤x.chk.size)→∀ y∈askL items x l net,y.ok c items
 | [],net,h,_=>h
 | r::l,net,h,hl=>by
  unfold askL;refine askL_ok hx h0 l _ ?_ fun q hq=>hl q (List.mem_cons_of_mem _ hq)
  split
  ·intro y hy;rcases List.mem_append.1 hy with hy|hy
   ·exact h y hy
   ·rw [List.mem_singleton.1 hy];have hr:=hl r (List.mem_cons_self ..);exact ⟨h0,hr.1,hx,rfl,hr.2,rfl⟩
  ·exact h
def ESt.askS (c:ECfg) (s:ESt):ESt:={ s with fd:=s.fd.stepS c.retry s.time,n:=s.n+c.k,net:=askL s.ls.items s.fd.curV (s.fd.reqs s.time) s.net }
def ESt.askN (c:ECfg) (s:ESt):Nat:=(s.askS c).net.length - s.net.length
theorem reqs_ok {k n now:Nat} {s:FdSt} (h:s.ok k n):∀ r∈s.reqs now,r.1<k∧r.2≤s.curV.chk.size:=fun r hr=>by
 unfold FdSt.reqs at hr
 obtain ⟨w,hw,rfl⟩:=List.mem_map.1 hr;obtain ⟨h1,-⟩:=dueA_perm now s.ag.length s.ag;have hm:=h1.mem_iff.1 (List.mem_append_left _ hw);obtain ⟨x,hx,rfl⟩:=List.mem_map.1 hm;have hk:=(h.fits x hx).2;refine ⟨hk,?_⟩;dsimp only;exact h.sizes _ (fw_mem (by rw [h.len];exact hk))
theorem reqs_nil {k n now:Nat} {s:FdSt} (h:s.ag=[]):s.reqs now=[]:=by
 unfold FdSt.reqs;rw [h];rfl
theorem stepS_same (retry now:Nat) (s:FdSt):(s.stepS retry now).cur=s.cur∧(s.stepS retry now).kept=s.kept∧(s.stepS retry now).done=s.done∧(s.stepS retry now).enough=s.enough:=by
 unfold FdSt.stepS;obtain ⟨h1,h2,h3,h4,-⟩:=stepL_same retry now (s.reqs now) { s with ag:=(dueA now s.ag.length s.ag).2 };exact ⟨h1,h2,h3,h4⟩
theorem curV_of {s t:FdSt} (h:s.cur=t.cur):s.curV=t.curV:=by unfold FdSt.curV;rw [h]
theorem ESt.ask_ok {c:ECfg} {m:Nat} {s:ESt} (h:s.ok c m) (hm:m<250):(s.askS c).ok c (m+1):=by
 obtain ⟨q1,q2,q3,q4⟩:=stepS_same c.retry s.time s.fd;have ht:=h.time;have hn:=h.nb;have hk:=h.cfg.k;have hr:=h.cfg.retry
 exact { h.next hm with
  fd:=FdSt.stepS_ok h.fd hr.2 zo zo zo
  nb:=by show s.n+c.k≤_;omega
  cur:=fun x hx=>h.cur x (by rw [← q1];exact hx)
  idle:=fun hx=>by
   have hx:s.fd.cur=none:=by rw [← q1];exact hx
   have ha:=h.idle hx
   show FdSt.ag (s.fd.stepS c.retry s.time)=[]
   unfold FdSt.stepS;rw [reqs_nil (k:=c.k) (n:=s.n) ha,ha]
   rfl
  kept:=fun g hg=>by
   show g.ver _ (FdSt.curV (s.fd.stepS c.retry s.time)).chk
   rw [curV_of q1];exact h.kept g (by rw [← q2];exact hg)
  done:=fun hx=>by
   show Hon _ (FdSt.done (s.fd.stepS c.retry s.time))∧0<(FdSt.done (s.fd.stepS c.retry s.time)).chk.size∧metP _ (FdSt.done (s.fd.stepS c.retry s.time)).chk (FdSt.enough (s.fd.stepS c.retry s.time))
   rw [q3,q4];exact h.done (by rw [← q4];exact hx)
  net:=fun x hx=>by
   cases hc:s.fd.cur with
   | none =>
    have ha:=h.idle hc;have hx:x∈askL s.ls.items s.fd.curV (s.fd.reqs s.time) s.net:=hx;rw [reqs_nil (k:=c.k) (n:=s.n) ha] at hx
    exact h.net x hx
   | some y =>
    have hy:=h.cur y hc;have hv:s.fd.curV=y:=by unfold FdSt.curV;rw [hc];rfl
    refine askL_ok (x:=s.fd.curV) (by rw [hv];exact hy.1) (by have:=hy.1.2.2.1;omega) _ s.net h.net (reqs_ok h.fd) x hx
  room:=(askL_len _ _ _ _ h.room).1 }
abbrev WitX (i:Nat) (x:WX) (s:WSt):Res:=WitR x.g x.d x.k i (ecoSeed (i+1)) ecoLog s
def witsD:Nat→Nat→List WX→List WSt→List Res
 | i,0,_::xs,_::ss=>witsL (i+1) xs ss
 | i,j+1,x::xs,s::ss=>WitX i x s::witsD (i+1) j xs ss
 | _,_,_,_=>[]
theorem wits_pull:∀ (i j:Nat) (xs:List WX) (ss:List WSt) (x:WX) (s:WSt),xs[j]?=some x→ss[j]?=some s→Pull (witsL i xs ss) (WitX (i+j) x s) (witsD i j xs ss)
 | i,0,y::xs,t::ss,x,s,h1,h2=>by
  simp only [List.getElem?_cons_zero,Option.some.injEq] at h1 h2
  subst h1 h2;exact .zero
 | i,j+1,y::xs,t::ss,x,s,h1,h2=>by
  simp only [List.getElem?_cons_succ] at h1 h2
  have:=wits_pull (i+1) j xs ss x s h1 h2;rw [show i+1+j=i+(j+1) by omega] at this
  exact .succ this
 | _,_,[],_,_,_,h1,_=>by simp at h1
 | _,_,_::_,[],_,_,_,h2=>by simp at h2
theorem witsD_set (x:WX) (s:WSt):∀ (i j:Nat) (xs:List WX) (ss:List WSt),witsD i j (xs.set j x) (ss.set j s)=witsD i j xs ss
 | i,0,[],[]=>rfl
 | i,0,[],_::_=>rfl
 | i,0,_::_,[]=>rfl
 | i,0,y::xs,t::ss=>rfl
 | i,j+1,[],[]=>rfl
 | i,j+1,[],_::_=>rfl
 | i,j+1,_::_,[]=>rfl
 | i,j+1,y::xs,t::ss=>by
  simp only [List.set_cons_succ,witsD];rw [witsD_set x s (i+1) j xs ss]
theorem set_same {α:Type}:∀ (l:List α) (j:Nat) (x:α),l[j]?=some x→l.set j x=l
 | [],j,x,h=>by simp at h
 | y::l,0,x,h=>by simp only [List.getElem?_cons_zero,Option.some.injEq] at h;rw [h];rfl
 | y::l,j+1,x,h=>by simp only [List.getElem?_cons_succ] at h;rw [List.set_cons_succ,set_same l j x h]
theorem pull_app {M N R:List Res} {A:Res} (p:Pull M A N):Pull (M++R) A (N++R):=by
 induction p with
 | zero=>exact .zero
 | succ _ ih=>exact .succ ih
theorem all_pull {M N R:List Res} {A:Res} (p:Pull M A N):Ent (All M::R) (A::All N::R) :=
 Ent.trans all_out (Ent.trans (pull_app p).out (Ent.cons all_in))
theorem all_push {M N R:List Res} {A:Res} (p:Pull M A N):Ent (A::All N::R) (All M::R) :=
 Ent.trans (Ent.cons all_out) (Ent.trans (pull_app p).back all_in)
theorem wits_out {j:Nat} {xs:List WX} {ss:List WSt} {x:WX} {s:WSt} {R:List Res} (h1:xs[j]?=some x) (h2:ss[j]?=some s):Ent (All (witsL 0 xs ss)::R) (WitX j x s::All (witsD 0 j xs ss)::R):=by
 have:=wits_pull 0 j xs ss x s h1 h2;rw [Nat.zero_add] at this
 exact all_pull this
theorem wits_in {j:Nat} {xs:List WX} {ss:List WSt} {x:WX} {s:WSt} {R:List Res} (h1:j<xs.length) (h2:j<ss.length):Ent (WitX j x s::All (witsD 0 j xs ss)::R) (All (witsL 0 (xs.set j x) (ss.set j s))::R):=by
 have:=wits_pull 0 j (xs.set j x) (ss.set j s) x s (by rw [List.getElem?_set_self h1]) (by rw [List.getElem?_set_self h2]);rw [Nat.zero_add,witsD_set] at this
 exact all_push this
def wst0:WSt:=⟨[],0,csg0,false⟩
def WSt.honE (w:WSt) (x:Chk) (n:Nat):Int:=if x.size<w.c.size then 32 else if x.size=w.c.size then 0 else if n=w.c.size then 0 else 31
theorem chk_eta (c:Chk):c=⟨c.size,c.root⟩:=rfl
theorem HonC.same {l:List Bts} {c d:Chk} (h1:HonC l c) (h2:HonC l d) (h:c.size=d.size):c=d:=by
 rw [chk_eta c,chk_eta d,h1.2,h2.2,h]
theorem HonC.empty (l:List Bts):HonC l chk0:=⟨Nat.zero_le _,by
 show sha []=rootP ((l.take 0).map leafP)
 rw [List.take_zero];exact rootP_nil.symm⟩
theorem growE_hon {l:List Bts} {w:WSt} {x:Chk} {n:Nat} {ts:List Txt} (h1:HonC l w.c) (h2:HonC l x) (hl:l.length≤256) (hn:n≤x.size) (ht:ts.map (·.2)=growP ((l.take x.size).map leafP) n):w.growE x n x.size ts=w.honE x n:=by
 unfold WSt.growE WSt.honE
 split
 ·rfl
 rename_i h3
 split
 ·rename_i h4;rw [if_pos (h2.same h1 h4)]
 ·rename_i h4
  by_cases h5:n=w.c.size
  ·rw [if_pos h5,if_pos];refine ⟨h5,rfl,?_⟩;have hle:x.size≤l.length:=h2.1;have hg:=grow_ok (ts:=(l.take x.size).map fun b=>((nY:Value),leafP b)) (out:=ts) (m:=n) (by rw [List.map_map];exact ht) (by rw [List.length_map,List.length_take];omega) (fun a ha=>by obtain ⟨y,-,rfl⟩:=List.mem_map.1 ha;exact tagP_length _ _) (by rw [List.length_map,List.length_take];omega);rw [List.length_map,List.length_take,Nat.min_eq_left hle] at hg
   rw [h1.2,h2.2]
   have e1:(((l.take x.size).map fun b=>((nY:Value),leafP b)).take n).map (·.2)=(l.take w.c.size).map leafP:=by
    rw [← List.map_take,List.map_map,List.take_take,Nat.min_eq_left hn,h5];rfl
   have e2:((l.take x.size).map fun b=>((nY:Value),leafP b)).map (·.2)=(l.take x.size).map leafP:=by rw [List.map_map];rfl
   rw [e1,e2] at hg
   exact hg
  ·rw [if_neg h5,if_neg (fun q=>h5 q.1)]
def ESt.wit (s:ESt) (j:Nat):WSt:=s.ws.getD j wst0
def ESt.askE (s:ESt) (j:Nat) (x:Chk) (n:Nat):Int:=if (s.wit j).honE x n≠0 then (s.wit j).honE x n else if (((s.wit j).grow x).cos (ecoSeed (j+1)) j).2=true then 0 else 23
def ESt.askW (s:ESt) (j:Nat) (x:Chk) (n:Nat):WSt:=if (s.wit j).honE x n≠0 then s.wit j else (((s.wit j).grow x).cos (ecoSeed (j+1)) j).1
def ESt.askR (s:ESt) (j:Nat) (x:Chk) (n:Nat):MsgP:=if s.askE j x n=0 then .yes j (s.askW j x n).lastV else .no j (s.askW j x n).c.size
def ESt.send (s:ESt) (x:MsgP):ESt:={ s with net:=if s.net.length<32 then s.net++[x] else s.net }
def ESt.asked (s:ESt) (j:Nat) (x:Chk) (n:Nat):ESt:={ s with ws:=s.ws.set j (s.askW j x n) }.send (s.askR j x n)
theorem cosE_hon {s:ESt} {j n:Nat} {x:Sgd} {ts:List Txt} (h:Hon s.ls.items x) (h1:HonC s.ls.items (s.wit j).c) (hl:s.ls.items.length≤256) (hn:n≤x.chk.size) (ht:ts.map (·.2)=growP ((s.ls.items.take x.chk.size).map leafP) n) :
 (s.wit j).cosE (ecoSeed (j+1)) ecoLog j x n x.chk.size ts=s.askE j x.chk n∧(s.wit j).cosS (ecoSeed (j+1)) ecoLog j x n x.chk.size ts=s.askW j x.chk n:=by
 unfold WSt.cosE WSt.cosS ESt.askE ESt.askW;rw [growE_hon h1 h.2.2 hl hn ht,if_neg (show ¬ ¬ x.ver ecoLog from fun q=>q h.1)];exact ⟨rfl,if_neg (fun q=>q h.1)⟩
theorem cos_c (seed:Bts) (j:Nat) (w:WSt):((w.cos seed j).1).c=w.c∧((w.cos seed j).1).recs=w.recs:=by
 unfold WSt.cos
 split
 ·exact ⟨rfl,rfl⟩
 ·split<;>exact ⟨rfl,rfl⟩
theorem cos_ok {seed:Bts} {j:Nat} {w:WSt} (h:w.ok):((w.cos seed j).1).ok:=by
 unfold WSt.cos
 split
 ·exact h
 ·split
  ·rename_i hk;exact { h with keys:=hk,fits:=(signP_right hk).fits }
  ·exact h
theorem cos_yes {seed:Bts} {j:Nat} {w:WSt} (h:w.some=true→w.lastV.wit=j∧w.lastV.sig.right) (h2:((w.cos seed j).1).some=true):((w.cos seed j).1).lastV.wit=j∧((w.cos seed j).1).lastV.sig.right:=by
 revert h2
 unfold WSt.cos
 split
 ·exact h
 ·split
  ·rename_i hk;exact fun _=>⟨rfl,signP_right hk⟩
  ·exact h
theorem cos_true {seed:Bts} {j:Nat} {w:WSt} (h:(w.cos seed j).2=true):((w.cos seed j).1).some=true:=by
 revert h
 unfold WSt.cos
 split
 ·rename_i h1;exact fun _=>h1
 ·split
  ·exact fun _=>rfl
  ·intro h;cases h
theorem grow_len (w:WSt) (c:Chk):(w.grow c).recs.length≤w.recs.length+1:=by
 unfold WSt.grow
 split
 ·show (w.recs++[c]).length≤_;rw [List.length_append];exact Nat.le_refl _
 ·exact Nat.le_succ _
theorem grow_hon {l:List Bts} {w:WSt} {x:Chk} (h1:HonC l w.c) (h2:HonC l x):HonC l (w.grow x).c:=by
 unfold WSt.grow
 split
 ·rw [WSt.c_snoc];exact h2
 ·exact h1
theorem getD_of {l:List WSt} {j:Nat} (h:j<l.length):l[j]?=some (l.getD j wst0):=by
 rw [List.getD,List.getElem?_eq_getElem h];rfl
theorem ESt.ok.wit {c:ECfg} {m:Nat} {s:ESt} (h:s.ok c m) {j:Nat} (hj:j<c.k):(s.wit j).ok∧(s.wit j).recs.length≤m∧HonC s.ls.items (s.wit j).c∧((s.wit j).some=true→(s.wit j).lastV.wit=j∧(s.wit j).lastV.sig.right)∧s.ws[j]?=Option.some (s.wit j):=by
 have hg:=getD_of (l:=s.ws) (j:=j) (by rw [h.wl];exact hj);have hm:=List.mem_of_getElem? hg;exact ⟨(h.ws _ hm).1,(h.ws _ hm).2.1,(h.ws _ hm).2.2,h.yes j _ hg,hg⟩
theorem askW_ok {c:ECfg} {m:Nat} {s:ESt} (h:s.ok c m) {j:Nat} (hj:j<c.k) {x:Sgd} {n:Nat} (hx:Hon s.ls.items x):(s.askW j x.chk n).ok∧(s.askW j x.chk n).recs.length≤m+1∧HonC s.ls.items (s.askW j x.chk n).c∧((s.askW j x.chk n).some=true→(s.askW j x.chk n).lastV.wit=j∧(s.askW j x.chk n).lastV.sig.right)∧(s.askE j x.chk n=0→(s.askW j x.chk n).some=true):=by
 obtain ⟨h1,h2,h3,h4,-⟩:=h.wit hj;unfold ESt.askW ESt.askE
 split
 ·rename_i h5;exact ⟨h1,Nat.le_succ_of_le h2,h3,h4,fun q=>absurd q h5⟩
 ·have hg:=WSt.grow_ok h1 hx.1.1;have hl:=grow_len (s.wit j) x.chk;obtain ⟨c1,c2⟩:=cos_c (ecoSeed (j+1)) j ((s.wit j).grow x.chk)
  have hy:((s.wit j).grow x.chk).some=true→((s.wit j).grow x.chk).lastV.wit=j∧((s.wit j).grow x.chk).lastV.sig.right:=by
   unfold WSt.grow
   split
   ·intro q;cases q
   ·exact h4
  refine ⟨cos_ok hg,by rw [c2];omega,by rw [c1];exact grow_hon h3 hx.2.2,cos_yes hy,fun q=>?_⟩
  split at q
  ·rename_i h6;exact cos_true h6
  ·cases q
theorem ESt.send_ok {c:ECfg} {m:Nat} {s:ESt} {x:MsgP} (h:s.ok c m) (hx:x.ok c s.ls.items):(s.send x).ok c m:=by
 unfold ESt.send
 exact { h with
  net:=fun y hy=>by
   have hy:y∈(if s.net.length<32 then s.net++[x] else s.net):=hy
   split at hy
   ·rcases List.mem_append.1 hy with hy|hy
    ·exact h.net y hy
    ·rw [List.mem_singleton.1 hy];exact hx
   ·exact h.net y hy
  room:=by
   show (if s.net.length<32 then s.net++[x] else s.net).length≤32
   split
   ·rw [List.length_append];simp only [List.length_singleton];omega
   ·exact h.room }
theorem ESt.ws_ok {c:ECfg} {m:Nat} {s:ESt} {j:Nat} {w:WSt} (h:s.ok c m) (h1:w.ok) (h2:w.recs.length≤m) (h3:HonC s.ls.items w.c) (h4:w.some=true→w.lastV.wit=j∧w.lastV.sig.right):ESt.ok c m { s with ws:=s.ws.set j w } :=
 {h with
  wl:=by show (s.ws.set j w).length=_;rw [List.length_set];exact h.wl
  ws:=fun y hy=>by
   rcases List.mem_or_eq_of_mem_set hy with hy|rfl
   ·exact h.ws y hy
   ·exact ⟨h1,h2,h3⟩
  yes:=fun i y hy hs=>by
   have hy:(s.ws.set j w)[i]?=some y:=hy
   by_cases hij:j=i
   ·subst hij
    by_cases hl:j<s.ws.length
    ·rw [List.getElem?_set_self hl] at hy;cases hy;exact h4 hs
    ·rw [List.getElem?_eq_none (by rw [List.length_set];omega)] at hy;cases hy
   ·rw [List.getElem?_set_ne hij] at hy
    exact h.yes i y hy hs }
theorem ESt.asked_ok {c:ECfg} {m:Nat} {s:ESt} {j n:Nat} {x:Sgd} (h:s.ok c m) (hm:m<250) (hj:j<c.k) (hx:Hon s.ls.items x) (h0:0<s.ls.items.length):(s.asked j x.chk n).ok c (m+1):=by
 obtain ⟨h1,h2,h3,h4,h5⟩:=askW_ok h hj (n:=n) hx;refine ESt.send_ok (ESt.ws_ok (h.next hm) h1 h2 h3 h4) ⟨h0,?_⟩;unfold ESt.askR
 split
 ·rename_i h6;exact ⟨hj,(h4 (h5 h6)).1,(h4 (h5 h6)).2⟩
 ·refine ⟨hj,?_⟩;have:=h3.1;have:=h.short
  omega
abbrev wldC (c:ECfg) (va vl vf vws vfd vu vm vn vpl vpw vt ve vmr vml vsz vr vsm vmc:Value):List Value :=
 [.int .i64 (c.k:Int),.int .i64 (c.quorum:Int),.int .i64 (c.room:Int),.int .i64 (c.size:Int),.int .i64 (c.wait:Int),.int .i64 (c.retry:Int),.int .i64 1048576,.string (str pump),
  va,vl,vf,vws,vfd,vu,vm,vn,vpl,vpw,.int .i64 (c.quorum:Int),vt,ve,vmr,vml,vsz,vr,vsm,vmc]
abbrev ptr (g:Nat):Value:=pt g
end Go.Proofs
