/- Part 7 of a proof of this: TopLedgers returns true for any arguments; nothing of the old memory is turned. No condition. -/
import Derived.Test.YtccekbdjebohcaaGreatP06
set_option linter.unusedVariables false
set_option linter.unusedSimpArgs false
namespace Go.Proofs
attribute [local irreducible] Bs.Val Bs.Do Bs.O Bs.W Bs.Fin Bs.A Bs.Ct Bs.RdSl Bs.Rd Bs.Sat Bs.Blk Bs.Ob Bs.Own Bs.View Bs.Ent Bs.Ex Bs.All Bs.Pu Bs.Base Bs.sepL Bs.RdA
open Go.Bs
open Tryz
variable (R:List Res) (e:World)
structure FSt where
 recs:List Bts
 q:List (Bts × Int)
structure FCfg where
 room:Nat
 size:Nat
 wait:Nat
structure FCfg.ok (c:FCfg):Prop where
 room:1≤c.room∧c.room≤16
 size:1≤c.size∧c.size≤8
 wait:c.wait≤1000
structure FSt.ok (s:FSt):Prop where
 size:s.recs.length≤1000
 good:∀ b∈s.recs,manOk b∧b.length≤200
 qsize:s.q.length≤1000
 qshort:∀ x∈s.q,x.1.length≤200
 qtime:∀ x∈s.q,-9223372036854775808≤x.2∧x.2≤1000000
abbrev tFront:TypeId:=221
structure FMem where
 gj:Nat
 gq:Nat
 ar:Option Addr
 cr:Nat
 ts:List Txt
 l:List Itm
structure FMem.ok (a:FMem) (M:Res) (c:FCfg) (s:FSt):Prop where
 recs:a.ts.map (·.2)=s.recs
 txts:Txts [M] a.ts
 que:a.l.map (fun m=>(m.b,m.at'))=s.q
 st:s.ok
 cfg:c.ok
abbrev frM (g d gl:Nat) (c:FCfg) (s:FSt) (a:FMem) (M:Res) (R:List Res):List Res :=
 Blk g [pt a.gj,pt gl,pt a.gq,.int .i64 (c.room:Int),.slice a.ar a.ts.length a.cr] tFront (0,0)::OwnT (.slice a.ar a.ts.length a.cr) a.ts::M::Jrn a.gj d s.recs.length::Disk d (disk0 (layP s.recs))::Que a.gq c.room c.size c.wait a.l::R
def FrontAt (g d gl:Nat) (c:FCfg) (s:FSt) (a:FMem) (M:Res):Res:=All (Pu (a.ok M c s)::frM g d gl c s a M [])
def FrontR (g d gl:Nat) (c:FCfg) (s:FSt):Res:=Ex fun a=>Ex fun M=>FrontAt g d gl c s a M
theorem fr_out {g d gl:Nat} {c:FCfg} {s:FSt} {R:List Res} {P:Program} {f:FuncId} {args:Array Value} {e:World} {Post:Value→List Res→Prop}
 (h:∀ (a:FMem) (M:Res),a.ok M c s→Ct P f args e (frM g d gl c s a M R) Post):Ct P f args e (FrontR g d gl c s::R) Post :=
 Ct.ex .zero fun a=>Ct.ex .zero fun M=>Ct.ent (Ct.of_sep (p:=a.ok M c s) (fun w x=>(pu_out x).1) fun hp=>(h a M hp).ent (Ent.drop Ent.rfl)) (all_out (M:=Pu (a.ok M c s)::frM g d gl c s a M []) (L:=R))
theorem fr_in {g d gl:Nat} {c:FCfg} {s:FSt} {a:FMem} {M:Res} {R:List Res} (h:a.ok M c s):Ent (frM g d gl c s a M R) (FrontR g d gl c s::R) :=
 Ent.trans (pu_in h) (Ent.trans (all_in (M:=Pu (a.ok M c s)::frM g d gl c s a M []) (L:=R)) (Ent.trans (ex_in (f:=fun M=>FrontAt g d gl c s a M) M) (ex_in (f:=fun a=>Ex fun M=>FrontAt g d gl c s a M) a)))
theorem FMem.ok.len {a:FMem} {M:Res} {c:FCfg} {s:FSt} (h:a.ok M c s):a.ts.length=s.recs.length∧a.l.length=s.q.length:=by
 have h1:=congrArg List.length h.recs;have h2:=congrArg List.length h.que;rw [List.length_map] at h1 h2
 exact ⟨h1,h2⟩
theorem fReceipts_spec (g d gl:Nat) (c:FCfg) (s:FSt) :
 Ct prog 60 #[pt g] e (FrontR g d gl c s::R) (fun v' L'=>v'=.int .i64 (s.recs.length:Int)∧L'=FrontR g d gl c s::R):=by
 refine fr_out fun a M ha=>?_
 obtain ⟨l1,l2⟩:=ha.len;refine Ct.enter (args:=[_]) func60 rfl ntmps60 results60 rfl ?_;refine wB ?_;exact Fin.ret _ rfl (fr_in ha) ⟨by rw [l1];rfl,rfl⟩
theorem fSame_spec (v w:Value) (b a:List UInt8) (g:Nat) (hg:Rd R ⟨g,0,none⟩ w) (hv:RdB R v b) (hw:RdB R w a) :
 Ct prog 282 #[v,pt g] e R (fun v' L'=>v'=.bool (decide (b=a))∧R=L'):=by
 refine Ct.enter (args:=[_,_]) func282 rfl ntmps282 results282 rfl ?_;refine wB ?_;refine O.call rfl rfl (same_spec _ e v w b a hv hw) ?_;rintro _ _ ⟨rfl,rfl⟩;refine wB ?_;exact Fin.ret R rfl Ent.rfl ⟨rfl,rfl⟩
def idxI (l:List Bts) (b:Bts):Int:=if b∈l then (posP l b:Int) else -1
theorem idxI_none {l:List Bts} {b:Bts} (h:∀ i,i<l.length→decide (l.getD i []=b)=false):idxI l b = -1:=by
 unfold idxI;rw [if_neg (fun hm=>?_)];obtain ⟨i,hi,rfl⟩:=List.mem_iff_getElem.1 hm;have:=h i hi;rw [List.getD_eq_getElem?_getD,List.getElem?_eq_getElem hi] at this
 simp at this
theorem idxI_some {b:Bts}:∀ {l:List Bts} {j:Nat},j<l.length→decide (l.getD j []=b)=true→(∀ i,i<j→decide (l.getD i []=b)=false)→idxI l b=(j:Int)
 | [],j,h,_,_=>by simp at h
 | x::l,0,_,h,_=>by
  have hx:x=b:=by simpa using h
  unfold idxI posP;rw [if_pos (by rw [hx];exact List.mem_cons_self ..),hx]
  simp
 | x::l,j+1,hj,h,hn=>by
  have hx:¬ x=b:=by simpa using hn 0 (Nat.succ_pos _)
  have ih:=idxI_some (b:=b) (l:=l) (j:=j) (by simpa using hj) (by simpa using h) (fun i hi=>by simpa using hn (i+1) (Nat.succ_lt_succ hi));unfold idxI at ih ⊢
  by_cases hm:b∈l
  ·rw [if_pos hm] at ih
   rw [if_pos (List.mem_cons_of_mem _ hm)];unfold posP at ih ⊢
   rw [List.idxOf_cons,show (x == b)=false by simpa using hx];simp only [cond_false]
   omega
  ·rw [if_neg hm] at ih
   omega
theorem freceipt_spec (g d gl:Nat) (c:FCfg) (s:FSt) (v:Value) (b:Bts) (hv:RdB R v b) :
 Ct prog 239 #[pt g,v] e (FrontR g d gl c s::R) (fun v' L'=>v'=.int .i64 (idxI s.recs b)∧L'=FrontR g d gl c s::R):=by
 refine fr_out fun a M ha=>?_
 obtain ⟨l1,l2⟩:=ha.len;have hsz:=ha.st.size;refine Ct.of_sep (RdSl.shape (hv.ent (show Ent (frM g d gl c s a M R) R from zE)) zo) ?_;rintro ⟨⟨av,cv,rfl,-,-,-,-⟩,_⟩;refine Ct.enter (args:=[_,_]) func239 rfl ntmps239 results239 rfl ?_
 (repeat (refine wA ?_;intros))
 rename_i g3
 have hi:=indexF_spec (Blk g3 [.slice av b.length cv] tTxts (0,0)::frM g d gl c s a M R) e (.slice a.ar a.ts.length a.cr) a.ts 282 [] [pt g3] (fun i=>decide ((a.ts.map (·.2)).getD i []=b)) (RdSl.own zP) zo (fun i hi=>by
  rw [getD_txt hi];exact fSame_spec _ e _ (.slice av b.length cv) _ b g3 (Rd.blk .zero rfl) ((ha.txts _ (List.getElem_mem hi)).ent (one_in zP)) (hv.ent zE))
 refine O.call rfl rfl hi ?_;rintro _ _ ⟨⟨z,rfl,hz⟩,rfl⟩
 have hzi:z=idxI s.recs b:=by
  rw [← ha.recs];rcases hz with ⟨rfl,hz⟩|⟨j,rfl,hj,hj2,hj3⟩
  ·exact (idxI_none (fun i hi=>hz i (by rw [List.length_map] at hi;exact hi))).symm
  ·exact (idxI_some (by rw [List.length_map];exact hj) hj2 hj3).symm
 subst hzi;refine wB ?_;exact Fin.ret (FrontR g d gl c s::R) rfl (Ent.trans (show Ent _ (frM g d gl c s a M R) from zE) (fr_in ha)) ⟨rfl,rfl⟩
def minT:Int:=-9223372036854775808
def waitP (items:List Bts) (recs:List Bts):List Bts:=recs.filter fun b=>decide (¬ b∈items)
theorem waitP_snoc {items:List Bts} {b:Bts} {l:List Bts}:waitP items (l++[b])=if b∈items then waitP items l else waitP items l++[b]:=by
 unfold waitP;rw [List.filter_append]
 by_cases h:b∈items<;>simp [h]
theorem fOpen_spec (d gl ld lk:Nat) (seed:Bts) (ls:LSt) (c:FCfg) (recs:List Bts) (hc:c.ok) (hl:recs.length≤1000) (hg:∀ b∈recs,manOk b∧b.length≤200) :
 Ct prog 233 #[pt d,pt gl,.int .i64 (c.room:Int),.int .i64 (c.size:Int),.int .i64 (c.wait:Int)] e (Disk d (disk0 (layP recs))::LedgerR gl ld lk seed ls::R) (fun v' L'=>∃ g,v'=.tuple #[pt g,.int .i64 0]∧L'=FrontR g d gl c ⟨recs,(waitP ls.items recs).map fun b=>(b,minT)⟩::LedgerR gl ld lk seed ls::R):=by
 have hjl:=layP_len (l:=recs) (n:=200) (fun m hm=>(hg m hm).2);have hrsz:∀ m∈recs,m.length≤65535:=fun m hm=>by have:=(hg m hm).2;omega
 have hop:=openP_all recs hrsz;refine Ct.enter (args:=[_,_,_,_,_]) func233 rfl ntmps233 results233 rfl ?_;refine wB ?_;refine O.call rfl rfl (qnew_spec _ e c.room c.size c.wait ⟨hc.room,hc.size,hc.wait⟩) ?_;rintro _ _ ⟨gq,rfl,rfl⟩;refine wB ?_;refine O.call rfl rfl (Ct.at (.succ .zero) (jopen0_spec _ e d (layP recs) zo)) ?_;rintro _ _ (⟨h1,-⟩|⟨-,gj,adr,cr,ts,rfl,hts,rfl⟩)
 ·rw [hop] at h1;cases h1
 rw [hop] at hts ⊢
 rw [show (layP recs).take (layP recs).length=layP recs from List.take_length];dsimp only at hts
 have htl:ts.length=recs.length:=by have:=congrArg List.length hts;rwa [List.length_map] at this
 (repeat (refine wA ?_;intros))
 rename_i g0;refine W.loop (ι:=Nat × List Txt × Option Addr × Nat) (fun i=>[(1,pt gl),(12,pt gq),(16,pt g0),(17,.slice i.2.2.1 i.2.1.length i.2.2.2),(52,.slice adr ts.length cr),(53,.int .i64 (ts.length:Int)),(54,.int .i64 (i.1:Int))]) (fun i=>OwnT (.slice i.2.2.1 i.2.1.length i.2.2.2) i.2.1::Items ts::OwnT (.slice adr ts.length cr) ts::Jrn gj d ts.length::Disk d (disk0 (layP recs))::LedgerR gl ld lk seed ls::Que gq c.room c.size c.wait []::Blk g0 [pt gj,pt gl,pt gq,.int .i64 (c.room:Int),.slice adr ts.length cr] tFront (0,0)::R) (fun i=>i.1≤ts.length∧i.2.1.map (·.2)=waitP ls.items (recs.take i.1)∧∀ x∈i.2.1,x∈ts) (fun i=>ts.length - i.1) (0,[],none,0) ⟨Nat.zero_le _,by simp [waitP],fun x hx=>by cases hx⟩ zS (Ent.trans (own_nil tTxts 1) zE) ?_;rintro ⟨i,fs,af,cf⟩ ⟨hi,hfs,hfm⟩;dsimp only at hi hfs hfm ⊢
 have hfl:fs.length≤i:=by
  have:=congrArg List.length hfs;rw [List.length_map] at this
  have h2:=List.length_filter_le (fun b=>decide (¬ b∈ls.items)) (recs.take i);rw [List.length_take] at h2
  unfold waitP at this
  omega
 by_cases hlt:i<ts.length
 rotate_left
 ·rw [List.take_of_length_le zo] at hfs
  refine wB ?_
  have hbk:=bback_spec (OwnT (.slice af fs.length cf) fs::Items ts::OwnT (.slice adr ts.length cr) ts::Jrn gj d ts.length::Disk d (disk0 (layP recs))::LedgerR gl ld lk seed ls::Blk g0 [pt gj,pt gl,pt gq,.int .i64 (c.room:Int),.slice adr ts.length cr] tFront (0,0)::R) e gq c.room c.size c.wait [] (.slice af fs.length cf) fs (RdSl.own .zero) (fun x hx=>Txts.pull (.succ .zero) x (hfm x hx)) (fun x hx=>by
   have:=(hg x.2 (by rw [← hts];exact List.mem_map.2 ⟨x,hfm x hx,rfl⟩)).2
   omega) (by rw [List.length_nil];omega)
  refine O.call rfl rfl (hbk.ent zE) ?_;rintro _ _ ⟨rfl,l',hl1,hl2,rfl⟩;rw [List.append_nil]
  have hq:l'.map (fun m=>(m.b,m.at'))=(waitP ls.items recs).map fun b=>(b,minT):=by
   rw [← hfs,← hl1,List.map_map];exact List.map_congr_left fun m hm=>by show (m.b,m.at')=(m.b,minT);rw [hl2 m hm];rfl
  have hok:FMem.ok ⟨gj,gq,adr,cr,ts,l'⟩ (Items ts) c ⟨recs,(waitP ls.items recs).map fun b=>(b,minT)⟩ :=
   ⟨hts,items_rd,hq,⟨hl,hg,by rw [List.length_map];unfold waitP;exact Nat.le_trans (List.length_filter_le _ _) hl,fun x hx=>by
    obtain ⟨b,hb,rfl⟩:=List.mem_map.1 hx
    exact (hg b (List.mem_filter.1 hb |>.1)).2,fun x hx=>by
    obtain ⟨b,hb,rfl⟩:=List.mem_map.1 hx
    show -9223372036854775808≤minT∧minT≤1000000
    unfold minT
    omega⟩,hc⟩
  refine wB ?_;refine Fin.ret (FrontR g0 d gl c ⟨recs,(waitP ls.items recs).map fun b=>(b,minT)⟩::LedgerR gl ld lk seed ls::R) rfl (Ent.trans ?_ (fr_in hok)) ⟨g0,rfl,rfl⟩;dsimp only [frM];rw [← htl];exact zE
 have hlr:i<recs.length:=by omega
 have hti:(ts[i]'hlt).2=recs[i]'hlr:=by
  have:=congrArg (fun l=>l[i]?) hts;simp only [List.getElem?_map,List.getElem?_eq_getElem hlt,List.getElem?_eq_getElem hlr,Option.map_some,Option.some.injEq] at this
  exact this
 have htk:recs.take (i+1)=recs.take i++[recs[i]'hlr]:=List.take_succ_eq_append_getElem hlr;obtain ⟨hgi,hgl⟩:=hg _ (List.getElem_mem hlr);have hmem:ts[i]'hlt∈ts:=List.getElem_mem hlt;rw [← hti] at htk hgi hgl
 refine W.of_sep ((RdSl.own (show Pull _ (OwnT (.slice adr ts.length cr) ts) _ from zP)).shape zo) ?_;rintro ⟨⟨ad',c',hv',h3',h4',h5',h6'⟩,_⟩
 cases hv'
 simp only [maxLen] at h4'
 rcases h6' with h6'|⟨gr,or',rfl⟩
 ·omega
 have hrd:∀ L R',Pull L (OwnT (.slice (some ⟨gr,or',none⟩) ts.length cr) ts) R'→Rd L ⟨gr,or'+i,none⟩ (ts[i]'hlt).1:=fun L R' p=>(RdSl.own p).elem (by rw [List.getElem?_map,List.getElem?_eq_getElem hlt];rfl)
 have hit:∀ L R',Pull L (Items ts) R'→RdB L (ts[i]'hlt).1 (ts[i]'hlt).2:=fun L R' p=>Txts.pull p _ (List.getElem_mem hlt)
 generalize ts[i]'hlt=y at *
 obtain ⟨yv,b⟩:=y;dsimp only at hrd hit hti htk hgi hgl
 refine W.of_sep (RdB.one (hit _ _ zP)) fun oy=>?_
 refine wB ?_;refine O.load rfl (hrd _ _ zP) rfl ?_;refine wB ?_;refine O.call rfl rfl (mDecode_spec _ e yv b (hit _ _ zP) zo) ?_;rintro v1 _ ⟨hd,-⟩;obtain ⟨Md,vf,vn,rfl,hf1,hn1,rfl⟩:=hd hgi;refine O.of_sep (RdB.one (hf1.ent (one_in zP))) fun o6=>?_
 refine O.of_sep (RdB.one (hn1.ent (one_in zP))) fun o7=>?_
 (repeat (refine wA ?_;intros))
 refine O.call rfl rfl (Ct.at zP (lFind_spec _ e gl ld lk seed ls yv b (hit _ _ zP))) ?_;rintro _ _ ⟨rfl,rfl⟩
 by_cases hin:b∈ls.items
 ·have hw:waitP ls.items (recs.take (i+1))=waitP ls.items (recs.take i):=by rw [htk,waitP_snoc,if_pos hin]
  rw [if_pos hin,decide_eq_true hin];refine wB ?_;exact Fin.round (i+1,fs,af,cf) ⟨hlt,by dsimp only;rw [hw];exact hfs,hfm⟩ zd zS zE
 ·have hw:waitP ls.items (recs.take (i+1))=waitP ls.items (recs.take i)++[b]:=by rw [htk,waitP_snoc,if_neg hin]
  rw [if_neg hin,decide_eq_false hin]
  (repeat (refine wA ?_;intros))
  refine O.do (Do.append rfl rfl rfl zP (RdSl.blk .zero rfl zl) rfl rfl (fun c hc=>by rw [List.mem_singleton.1 hc];exact oy) zm zo fun ad1 k1 _=>?_)
  refine wB ?_;refine Fin.round (i+1,fs++[(yv,b)],ad1,k1) ⟨hlt,by dsimp only;rw [hw,List.map_append,hfs];rfl,fun x hx=>?_⟩ zd ?_ ?_
  ·rcases List.mem_append.1 hx with hx|hx
   ·exact hfm x hx
   ·rw [List.mem_singleton.1 hx];exact hmem
  ·dsimp only;rw [List.length_append,List.length_singleton];exact zS
  ·simp only [OwnT,List.length_append,List.length_singleton,List.map_append,List.map_cons,List.map_nil];exact zE
theorem pull2_all {L R R':List Res} {A B:Res} (p:Pull L A R) (q:Pull R B R'):Ent L (All [A,B]::R'):=Ent.trans p.out (Ent.trans (Ent.cons q.out) (all_in (M:=[A,B])))
theorem pull3_all {L R R' R2:List Res} {A B C:Res} (p:Pull L A R) (q:Pull R B R') (r:Pull R' C R2):Ent L (All [A,B,C]::R2):=Ent.trans p.out (Ent.trans (Ent.cons (Ent.trans q.out (Ent.cons r.out))) (all_in (M:=[A,B,C])))
def FSt.submit (c:FCfg) (items:List Bts) (s:FSt) (b:Bts) (now:Int):Int × Int × FSt :=
 if ¬ manOk b then (4,0,s) else if b∈items then (2,(posP items b:Int),s) else if b∈s.q.map (·.1) then (1,idxI s.recs b,s) else if c.room≤s.q.length then (3,0,s) else (1,(s.recs.length:Int),⟨s.recs++[b],s.q++[(b,now)]⟩)
theorem hasB_iff {l:List Itm} {q:List (Bts × Int)} (h:l.map (fun m=>(m.b,m.at'))=q) (b:Bts):hasB l b=decide (b∈q.map (·.1)):=by
 rw [← h,List.map_map];unfold hasB;rw [Bool.eq_iff_iff,List.any_eq_true,decide_eq_true_iff,List.mem_map]
 constructor
 ·rintro ⟨x,hx,h⟩;exact ⟨x,hx,of_decide_eq_true h⟩
 ·rintro ⟨x,hx,h⟩;exact ⟨x,hx,decide_eq_true h⟩
theorem fSubmit_spec (g d gl ld lk:Nat) (seed:Bts) (ls:LSt) (c:FCfg) (s:FSt) (v:Value) (b:Bts) (now:Int) (hv:RdB R v b) (hb:b.length≤200) (hn:0≤now∧now≤1000000) (h1:s.recs.length<1000) (h2:s.q.length<1000) :
 Ct prog 166 #[pt g,v,.int .i64 now] e (FrontR g d gl c s::LedgerR gl ld lk seed ls::R) (fun v' L'=>v'=.agg #[.int .i64 (s.submit c ls.items b now).1,.int .i64 (s.submit c ls.items b now).2.1]∧L'=FrontR g d gl c (s.submit c ls.items b now).2.2::LedgerR gl ld lk seed ls::R):=by
 refine fr_out fun a M ha=>?_
 obtain ⟨l1,l2⟩:=ha.len;refine Ct.enterC (args:=[_,_,_]) func166 rfl ntmps166 results166 rfl ?_
 (repeat (refine wA ?_;intros))
 rename_i g6;refine O.call rfl rfl (mDecode_spec _ e v b (hv.ent zE) zo) ?_;rintro v1 _ ⟨hd,hd2⟩
 by_cases hm:manOk b
 rotate_left
 ·obtain ⟨rfl,rfl⟩:=hd2 hm;have hsub:s.submit c ls.items b now=(4,0,s):=by unfold FSt.submit;rw [if_pos hm]
  rw [hsub]
  (repeat (refine wA ?_;intros))
  refine O.call rfl rfl (Ct.at zP (lFind_spec _ e gl ld lk seed ls v b (hv.ent zE))) ?_;rintro _ _ ⟨rfl,rfl⟩;refine wB ?_;apply Fin.retC
  ·exact zV
  exact ⟨FrontR g d gl c s::LedgerR gl ld lk seed ls::R,Ent.trans (show Ent _ (frM g d gl c s a M (LedgerR gl ld lk seed ls::R)) from zE) (fr_in ha),rfl,rfl⟩
 obtain ⟨Md,vf,vn,rfl,hf1,hn1,rfl⟩:=hd hm;refine O.of_sep (RdB.one (hf1.ent (one_in zP))) fun o6=>?_
 refine O.of_sep (RdB.one (hn1.ent (one_in zP))) fun o7=>?_
 (repeat (refine wA ?_;intros))
 refine O.call rfl rfl (Ct.at zP (lFind_spec _ e gl ld lk seed ls v b (hv.ent zE))) ?_;rintro _ _ ⟨rfl,rfl⟩
 by_cases hin:b∈ls.items
 ·have hsub:s.submit c ls.items b now=(2,(posP ls.items b:Int),s):=by unfold FSt.submit;rw [if_neg (fun q=>q hm),if_pos hin]
  rw [hsub,if_pos hin,decide_eq_true hin];refine wB ?_;apply Fin.retC
  ·exact zV
  exact ⟨FrontR g d gl c s::LedgerR gl ld lk seed ls::R,Ent.trans (show Ent _ (frM g d gl c s a M (LedgerR gl ld lk seed ls::R)) from zE) (fr_in ha),rfl,rfl⟩
 rw [if_neg hin,decide_eq_false hin];refine wB ?_;refine O.call rfl rfl (Ct.at zP (bhas_spec _ e a.gq c.room c.size c.wait a.l v b (hv.ent zE) (by have:=ha.st.qsize;omega))) ?_;rintro _ _ ⟨rfl,rfl⟩;rw [hasB_iff ha.que]
 by_cases hq:b∈s.q.map (·.1)
 ·have hsub:s.submit c ls.items b now=(1,idxI s.recs b,s):=by unfold FSt.submit;rw [if_neg (fun q=>q hm),if_neg hin,if_pos hq]
  rw [hsub,decide_eq_true hq];refine wB ?_;refine O.call rfl rfl (Ct.ent (freceipt_spec (Blk g6 [.int .i64 0,.int .i64 0] 254 (0,0)::LedgerR gl ld lk seed ls::R) e g d gl c s v b (hv.ent zE)) (Ent.trans (show Ent _ (frM g d gl c s a M (Blk g6 [.int .i64 0,.int .i64 0] 254 (0,0)::LedgerR gl ld lk seed ls::R)) from zE) (fr_in ha))) ?_;rintro _ _ ⟨rfl,rfl⟩;refine wB ?_;apply Fin.retC
  ·exact zV
  exact ⟨FrontR g d gl c s::LedgerR gl ld lk seed ls::R,zE,rfl,rfl⟩
 rw [decide_eq_false hq];have hjl:=layP_len (l:=s.recs) (n:=200) (fun m hm=>(ha.st.good m hm).2);have hrl:s.recs.length≤(layP s.recs).length:=lay_cnt _;have hsp:(layP s.recs).length+b.length+8≤1048576:=by omega
 obtain ⟨p1,p2,p3⟩:=add_plain (m:=b) (sy:=(layP s.recs).length) hsp;refine wB ?_;refine A.begin (id:=9) [] (Blk g [pt a.gj,pt gl,pt a.gq,.int .i64 (c.room:Int),.slice a.ar a.ts.length a.cr] tFront (0,0)::R) mixed ?_
 (refine tM 0 ?_;refine tN 1 ?_;refine tF 2 ?_;refine tL 3 ?_;refine tM 5 ?_;refine tN 6 ?_;refine tF 7 ?_;refine tL 8 ?_)
 refine tO 4 ?_;refine Do.call rfl rfl (Ct.at zP (qlen_spec _ e a.gq c.room c.size c.wait a.l)) ?_;rintro _ _ ⟨rfl,rfl⟩;refine ⟨fun _=>zE,?_⟩
 by_cases hroom:c.room≤s.q.length
 ·have hsub:s.submit c ls.items b now=(3,0,s):=by unfold FSt.submit;rw [if_neg (fun q=>q hm),if_neg hin,if_neg hq,if_pos hroom]
  rw [hsub]
  (refine tk 9 (.bool true) rfl (Val.yes (Val.geq rfl rfl) zy) ?_;refine tM 10 ?_;refine A.takeN 11 rfl rfl zK zE rfl ?_;refine A.takeN 12 rfl rfl zK zE rfl ?_;refine A.takeN 13 rfl rfl zK zE rfl ?_;refine A.takeN 14 rfl rfl zK zE rfl ?_;refine A.takeN 15 rfl rfl zK zE rfl ?_)
  refine A.takeN 16 rfl rfl zK zE rfl ?_
  (refine A.takeN 17 rfl rfl zK zE rfl ?_;refine tk 18 _ rfl (Val.pick_t rfl rfl) ?_;refine tA 19 ?_)
  refine A.done zK ?_;refine wB ?_;apply Fin.retC
  ·exact zV
  exact ⟨FrontR g d gl c s::LedgerR gl ld lk seed ls::R,Ent.trans (show Ent _ (frM g d gl c s a M (LedgerR gl ld lk seed ls::R)) from zE) (fr_in ha),rfl,rfl⟩
 have hsub:s.submit c ls.items b now=(1,(s.recs.length:Int),⟨s.recs++[b],s.q++[(b,now)]⟩):=by unfold FSt.submit;rw [if_neg (fun q=>q hm),if_neg hin,if_neg hq,if_neg hroom]
 rw [hsub]
 (refine tk 9 (.bool false) rfl (Val.no (Val.geq rfl rfl) zn) ?_;refine tM 10 ?_;refine tkG 11 _ rfl (Val.move rfl) ?_;refine tkG 12 _ rfl (Val.nilCheck rfl) ?_;refine tkG 13 _ rfl (Val.fieldAddr rfl) ?_;refine tkG 14 _ rfl (Val.load rfl zR) ?_;refine tkG 15 _ rfl (Val.move rfl) ?_)
 refine A.oneG 16 rfl rfl zK ?_;have hja:=fun L:List Res=>fun hvL:RdB L v b=>jadd_spec L e a.gj d s.recs.length (diskS (layP s.recs) (layP s.recs).length) b v (diskS_ok zo (Nat.le_refl _)) hvL zo zo
 rw [p1,p2,p3] at hja
 refine Do.call rfl rfl (Ct.at2 zP zP (hja _ (hv.ent zE))) ?_;rintro _ _ ⟨rfl,rfl⟩;refine ⟨fun _=>zE,?_⟩
 (refine tkG 17 (.bool false) rfl (Val.no (Val.neq rfl rfl) zn) ?_;refine tk 18 _ rfl (Val.pick_f rfl rfl) ?_;refine tA 19 ?_)
 refine A.done zK ?_;refine wB ?_;refine W.keep [(0,pt g),(1,v),(2,.int .i64 now),(6,pt g6)] zS ?_;refine A.begin (id:=11) [9,10,11] (Blk g [pt a.gj,pt gl,pt a.gq,.int .i64 (c.room:Int),.slice a.ar a.ts.length a.cr] tFront (0,0)::R) mixed ?_
 (refine tM 0 ?_;refine tM 1 ?_;refine tN 2 ?_;refine tF 3 ?_;refine tL 4 ?_;refine tM 5 ?_)
 refine tO 6 ?_;refine Do.call rfl rfl (clone_spec _ e v b (hv.ent zE) zo) ?_;rintro _ _ ⟨ad1,k1,rfl,rfl⟩;refine ⟨fun _=>zE,?_⟩;refine tO 7 ?_;refine Do.buildSlice (n:=1) (z:=nY) (cs:=[.slice ad1 b.length k1]) rfl rfl rfl rfl zQ rfl (fun g1=>⟨fun _=>zE,?_⟩);refine tO 8 ?_;refine Do.append rfl rfl rfl zP (RdSl.blk .zero rfl zl) rfl rfl zO zm zo fun ad2 k2 _=>?_
 refine ⟨fun _=>zE,?_⟩
 ((refine tO 9 ?_;refine dV (Val.nilCheck rfl) ?_);(refine tO 10 ?_;refine dV (Val.fieldAddr rfl) ?_);(refine tO 11 ?_;refine zs1 ?_;refine ⟨zN,?_⟩))
 refine A.done zK ?_;refine wB ?_;refine O.call rfl rfl (Ct.at zP (bput_spec _ e a.gq c.room c.size c.wait a.l v b now (hv.ent zE) zo zo (by have:=ha.cfg.room;omega))) ?_;rintro _ _ (⟨-,rfl,v2,rfl⟩|⟨hno,-,-⟩)
 rotate_left
 ·exact absurd zo hno
 refine wB ?_;obtain ⟨M2,hM2⟩:∃ M2:Res,M2=All [M,OwnB (.slice ad1 b.length k1) b]:=⟨_,rfl⟩
 have hall:Ent [M2] [M]:=by rw [hM2];exact Ent.trans (all_out (M:=[_,_]) (L:=[])) (Ent.cons Ent.nil)
 have hall2:Ent [M2] [OwnB (.slice ad1 b.length k1) b]:=by rw [hM2];exact Ent.trans (all_out (M:=[_,_]) (L:=[])) (Ent.drop (Ent.cons Ent.nil))
 have hok:FMem.ok ⟨a.gj,a.gq,ad2,k2,a.ts++[(.slice ad1 b.length k1,b)],a.l++[⟨v2,b,now⟩]⟩ M2 c ⟨s.recs++[b],s.q++[(b,now)]⟩:=by
  refine ⟨?_,fun x hx=>?_,?_,⟨?_,fun x hx=>?_,?_,fun x hx=>?_,fun x hx=>?_⟩,ha.cfg⟩
  ·show (a.ts++[((.slice ad1 b.length k1:Value),b)]).map (·.2)=_
   rw [List.map_append,ha.recs];rfl
  ·rcases List.mem_append.1 hx with hx|hx
   ·exact (ha.txts x hx).ent hall
   ·rw [List.mem_singleton.1 hx];exact RdSl.ent (RdSl.own .zero) hall2
  ·show (a.l++[(⟨v2,b,now⟩:Itm)]).map (fun m=>(m.b,m.at'))=_
   rw [List.map_append,ha.que];rfl
  ·rw [List.length_append];show _+1≤_;omega
  ·rcases List.mem_append.1 hx with hx|hx
   ·exact ha.st.good x hx
   ·rw [List.mem_singleton.1 hx];exact ⟨hm,hb⟩
  ·rw [List.length_append];show _+1≤_;omega
  ·rcases List.mem_append.1 hx with hx|hx
   ·exact ha.st.qshort x hx
   ·rw [List.mem_singleton.1 hx];exact hb
  ·rcases List.mem_append.1 hx with hx|hx
   ·exact ha.st.qtime x hx
   ·rw [List.mem_singleton.1 hx]
    show -9223372036854775808≤now∧now≤1000000
    omega
 apply Fin.retC
 ·exact zV
 refine ⟨FrontR g d gl c ⟨s.recs++[b],s.q++[(b,now)]⟩::LedgerR gl ld lk seed ls::R,Ent.trans ?_ (fr_in hok),by rw [l1];rfl,rfl⟩;have hlay:layP (s.recs++[b])=layP s.recs++recP b:=layP_snoc _ _;simp only [frM,OwnT,List.length_append,List.length_singleton,List.map_append,List.map_cons,List.map_nil,hlay];rw [hM2];exact Ent.trans (pull2_all (A:=M) (B:=OwnB (.slice ad1 b.length k1) b) zP zP) zE
def dueQ (q:List (Bts × Int)) (s w:Nat) (now:Int):Bool:=match q with
 | []=>false
 | x::_=>decide (s≤q.length∨x.2 = -9223372036854775808∨(x.2≤now∧(w:Int)≤now - x.2))
theorem due_q {l:List Itm} {q:List (Bts × Int)} (h:l.map (fun m=>(m.b,m.at'))=q) (s w:Nat) (now:Int):due l s w now=dueQ q s w now:=by
 cases l with
 | nil=>rw [← h];rfl
 | cons m l=>rw [← h];simp [due,dueQ]
def FSt.dueNow (c:FCfg) (s:FSt) (now:Int):Bool:=dueQ s.q c.size c.wait now
def FSt.stepQ (c:FCfg) (s:FSt):FSt:={ s with q:=s.q.drop c.size }
def FSt.some (c:FCfg) (s:FSt):List Bts:=(s.q.take c.size).map (·.1)
theorem fStep_spec (g d gl ld lk:Nat) (seed:Bts) (ls:LSt) (c:FCfg) (s:FSt) (now:Int) (hn:0≤now∧now≤1000000) (hc:ls.items.length+(ls.fresh (s.some c)).length≤256) :
 Ct prog 169 #[pt g,.int .i64 now] e (FrontR g d gl c s::LedgerR gl ld lk seed ls::R) (fun v' L'=>(s.dueNow c now=false∧v'=.tuple #[nY,.int .i64 0]∧L'=FrontR g d gl c s::LedgerR gl ld lk seed ls::R)∨(s.dueNow c now=true∧∃ (ao:Option Addr) (co:Nat),v'=.tuple #[.slice ao (s.some c).length co,.int .i64 0]∧L'=FrontR g d gl c (s.stepQ c)::LedgerR gl ld lk seed (ls.add (s.some c))::R)):=by
 refine fr_out fun a M ha=>?_
 obtain ⟨l1,l2⟩:=ha.len;have hqs:=ha.st.qsize;have hcs:=ha.cfg.size;refine Ct.enter (args:=[_,_]) func169 rfl ntmps169 results169 rfl ?_;refine wB ?_
 have hat:∀ m∈a.l,-9223372036854775808≤m.at'∧m.at'≤9223372036854775807:=fun m hm=>by
  have:=ha.st.qtime (m.b,m.at') (by rw [← ha.que];exact List.mem_map.2 ⟨m,hm,rfl⟩);dsimp only at this
  omega
 have hbl:∀ m∈a.l,m.b.length≤200:=fun m hm=>ha.st.qshort (m.b,m.at') (by rw [← ha.que];exact List.mem_map.2 ⟨m,hm,rfl⟩)
 refine O.call rfl rfl (Ct.at zP (bdue_spec _ e a.gq c.room c.size c.wait a.l now (by have:=ha.cfg.wait;omega) zo zo zo hat)) ?_;rintro _ _ ⟨rfl,rfl⟩;have hdue:due a.l c.size c.wait now=s.dueNow c now:=due_q ha.que _ _ _;rw [hdue]
 cases hd:s.dueNow c now with
 | false =>
  refine wB ?_;exact Fin.ret (FrontR g d gl c s::LedgerR gl ld lk seed ls::R) rfl (Ent.trans (show Ent _ (frM g d gl c s a M (LedgerR gl ld lk seed ls::R)) from zE) (fr_in ha)) (.inl ⟨rfl,rfl,rfl⟩)
 | true =>
  refine wB ?_;refine O.call rfl rfl (Ct.at zP (qtake_spec _ e a.gq c.room c.size c.wait a.l (fun m hm=>by have:=hbl m hm;omega) zo zo)) ?_;rintro _ _ ⟨ad,k,ts,rfl,hts,rfl⟩;refine wB ?_
  have hts2:ts.map (·.2)=s.some c:=by
   rw [hts];unfold FSt.some;rw [← ha.que,← List.map_take,List.map_map]
   rfl
  have htl:ts.length=(s.some c).length:=by rw [← hts2,List.length_map]
  have htl2:ts.length≤8:=by have:=congrArg List.length hts;rw [List.length_map,List.length_map,List.length_take] at this;omega
  have hsh:∀ x∈ts,x.2.length≤200:=fun x hx=>by
   have:x.2∈(a.l.take c.size).map Itm.b:=by rw [← hts];exact List.mem_map.2 ⟨x,hx,rfl⟩
   obtain ⟨m,hm,hmb⟩:=List.mem_map.1 this;rw [← hmb];exact hbl m (List.mem_of_mem_take hm)
  have hadd:=fun L:List Res=>fun (h1:RdSl L 1 (.slice ad ts.length k) ts.length (ts.map (·.1))) (h2:Txts L ts)=>lAdd_spec L e gl ld lk seed ls (.slice ad ts.length k) ts h1 h2 zo hsh (by rw [hts2];exact hc)
  rw [hts2] at hadd
  refine O.call rfl rfl (Ct.at zP (hadd _ (RdSl.own zP) (Txts.pull zP))) ?_;rintro _ _ ⟨ao,co,outs,rfl,hout,rfl⟩;have hol:outs.length=(s.some c).length:=by rw [hout,List.length_map]
  rw [hol];refine wB ?_
  have hok:FMem.ok { a with l:=a.l.drop c.size } M c (s.stepQ c):=by
   refine ⟨ha.recs,ha.txts,?_,⟨ha.st.size,ha.st.good,?_,fun x hx=>ha.st.qshort x (List.mem_of_mem_drop hx),fun x hx=>ha.st.qtime x (List.mem_of_mem_drop hx)⟩,ha.cfg⟩
   ·show (a.l.drop c.size).map (fun m=>(m.b,m.at'))=s.q.drop c.size
    rw [List.map_drop,ha.que]
   ·show (s.q.drop c.size).length≤1000
    rw [List.length_drop];omega
  exact Fin.ret (FrontR g d gl c (s.stepQ c)::LedgerR gl ld lk seed (ls.add (s.some c))::R) rfl (Ent.trans (show Ent _ (frM g d gl c (s.stepQ c) { a with l:=a.l.drop c.size } M (LedgerR gl ld lk seed (ls.add (s.some c))::R)) from zE) (fr_in hok)) (.inr ⟨rfl,ao,co,rfl,rfl⟩)
theorem gleads_spec:∀ (q:Nat) (R:List Res) (e:World) (ad:Option Addr) (cap:Nat) (ts:List Txt) (m n:Nat) (w:Bool) (v:Value) (old:List UInt8),ts.length=q→RdSl R 1 (.slice ad ts.length cap) ts.length (ts.map (·.1))→Txts R ts→(∀ a∈ts,a.2.length≤1000000)→ts.length≤1000000→n<9223372036854775808→1≤m→m≤n→RdB R v old→old.length≤1000000 →
 Ct prog 295 #[.slice ad ts.length cap,.int .i64 (m:Int),.int .i64 (n:Int),v,.bool w] e R (fun v' L'=>∃ (As:List Res) (v1 v2:Value) (a b:List UInt8),v'=.tuple #[v1,v2,.bool (decide (ts.length=glenP m n w))]∧(ts.length=glenP m n w→(a,b)=gleadP m n w (ts.map (·.2)) old)∧a.length≤1000000∧b.length≤1000000∧L'=As++R∧RdB (As++R) v1 a∧RdB (As++R) v2 b):=by
 intro q
 induction q using Nat.strongRecOn with
 | _ q ih =>
 intro R e ad cap ts m n w v old hq hv ht hsz hl hn hm1 hm2 hb hbl;refine Ct.enter (args:=[_,_,_,_,_]) func295 rfl ntmps295 results295 rfl ?_
 by_cases he:m=n
 ·subst he
  cases w
  ·refine wB ?_;refine O.call rfl rfl (last_spec _ e ad cap ts hv hl) ?_;rintro _ _ ⟨⟨rfl,rfl⟩|⟨us,a,rfl,rfl⟩,rfl⟩
   ·refine wB ?_;exact Fin.ret R rfl Ent.rfl ⟨[],nY,nY,[],[],by rw [glenP_root,decide_eq_false (by simp)];rfl,fun h=>(by rw [glenP_root] at h;simp at h),by simp,by simp,rfl,RdB.nil _,RdB.nil _⟩
   have ha:RdB R a.1 a.2:=ht a (List.mem_append.2 (.inr (List.mem_singleton.2 rfl)));have hal:=hsz a (List.mem_append.2 (.inr (List.mem_singleton.2 rfl)))
   by_cases h0:us.length=0
   ·refine wB ?_;exact Fin.ret R rfl Ent.rfl ⟨[],a.1,a.1,a.2,a.2,by rw [glenP_root,decide_eq_true (by rw [List.length_append,List.length_singleton,h0])];rfl,fun h=>(by rw [gleadP_root,lastP_map]),hal,hal,rfl,ha,ha⟩
   ·refine wB ?_;exact Fin.ret R rfl Ent.rfl ⟨[],a.1,a.1,a.2,a.2,by rw [glenP_root,decide_eq_false (by rw [List.length_append,List.length_singleton];omega)];rfl,fun h=>(by rw [gleadP_root,lastP_map]),hal,hal,rfl,ha,ha⟩
  ·by_cases h0:ts.length=0
   ·refine wB ?_;exact Fin.ret R rfl Ent.rfl ⟨[],v,v,old,old,by rw [glenP_all,decide_eq_true h0];rfl,fun h=>(by rw [gleadP_all]),hbl,hbl,rfl,hb,hb⟩
   ·refine wB ?_;exact Fin.ret R rfl Ent.rfl ⟨[],v,v,old,old,by rw [glenP_all,decide_eq_false h0];rfl,fun h=>(by rw [gleadP_all]),hbl,hbl,rfl,hb,hb⟩
 have h2:2≤n:=by omega
 have hs:=splitP_spec h2;have hlo:=fun h=>glenP_lo (w:=w) he h2 h
 have hhi:=fun h=>glenP_hi (w:=w) he h2 h
 have hplo:=fun p h=>gleadP_lo (w:=w) (p:=p) (old:=old) he h2 h
 have hphi:=fun p h=>gleadP_hi (w:=w) (p:=p) (old:=old) he h2 h
 have hpos:0<glenP m n w:=by
  by_cases h:m≤splitP n
  ·rw [hlo h];omega
  ·rw [hhi h];omega
 refine wB ?_;refine O.call rfl rfl (last_spec _ e ad cap ts hv hl) ?_;rintro _ _ ⟨⟨rfl,rfl⟩|⟨us,a,rfl,rfl⟩,rfl⟩
 ·refine wB ?_;exact Fin.ret R rfl Ent.rfl ⟨[],nY,nY,[],[],by rw [decide_eq_false (by simp;omega)];rfl,fun h=>(by simp at h;omega),by simp,by simp,rfl,RdB.nil _,RdB.nil _⟩
 have hl1:(us++[a]).length=us.length+1:=by rw [List.length_append,List.length_singleton]
 have hrd:=init_rd hv;have hTu:Txts R us:=fun x hx=>ht x (List.mem_append.2 (.inl hx))
 have ha:RdB R a.1 a.2:=ht a (List.mem_append.2 (.inr (List.mem_singleton.2 rfl)));have hal:=hsz a (List.mem_append.2 (.inr (List.mem_singleton.2 rfl)));have hsu:∀ x∈us,x.2.length≤1000000:=fun x hx=>hsz x (List.mem_append.2 (.inl hx))
 refine wB ?_;refine O.call rfl rfl (split_spec R e n zo) ?_;rintro _ _ ⟨rfl,rfl⟩;rw [splitI_nat]
 generalize splitP n=k at *
 have tapp:∀ {v:Value} {b:List UInt8} (h:RdB R v b) (As:List Res),RdB (As++R) v b:=fun h As=>by
  induction As with
  | nil=>exact h
  | cons A As ih=>exact ih.tail
 by_cases hik:m≤k
 ·refine wB ?_;refine O.call rfl rfl (ih us.length zo R e ad cap us m k w v old rfl hrd hTu hsu zo zo hm1 hik hb hbl) ?_;rintro _ _ ⟨As,v1,v2,x,y,rfl,h7,h8,h9,rfl,h10,h11⟩;refine wB ?_;refine O.call rfl rfl (node_spec _ e _ _ _ _ h11 (tapp ha As) h9 hal) ?_;rintro _ _ ⟨ad3,c3,rfl,rfl⟩;refine wB ?_;refine Fin.ret (OwnB (.slice ad3 (nodeP y a.2).length c3) (nodeP y a.2)::(As++R)) rfl Ent.rfl ⟨OwnB (.slice ad3 (nodeP y a.2).length c3) (nodeP y a.2)::As,v1,.slice ad3 (nodeP y a.2).length c3,x,nodeP y a.2,?_,fun h=>?_,h8,by rw [nodeP,tagP_length];omega,rfl,h10.tail,RdSl.own .zero⟩
  ·rw [hl1,hlo hik,decide_eq_decide.2 (show us.length=glenP m k w↔us.length+1=glenP m k w+1 by omega)];rfl
  ·rw [hl1,hlo hik] at h
   rw [hplo _ hik,dropLast_map,lastP_map,← h7 zo]
 ·refine wB ?_;rw [show ((m:Nat):Int) - ((k:Nat):Int)=((m - k:Nat):Int) by omega,show ((n:Nat):Int) - ((k:Nat):Int)=((n - k:Nat):Int) by omega];refine O.call rfl rfl (ih us.length zo R e ad cap us (m - k) (n - k) false v old rfl hrd hTu hsu zo zo zo zo hb hbl) ?_;rintro _ _ ⟨As,v1,v2,x,y,rfl,h7,h8,h9,rfl,h10,h11⟩;refine wB ?_;refine O.call rfl rfl (node_spec _ e _ _ _ _ (tapp ha As) h10 hal h8) ?_;rintro _ _ ⟨ad3,c3,rfl,rfl⟩
  (repeat (refine wA ?_;intros))
  refine O.call rfl rfl (node_spec _ e _ _ _ _ (tapp ha As).tail h11.tail hal h9) ?_;rintro _ _ ⟨ad4,c4,rfl,rfl⟩;refine wB ?_;refine Fin.ret (OwnB (.slice ad4 (nodeP a.2 y).length c4) (nodeP a.2 y)::OwnB (.slice ad3 (nodeP a.2 x).length c3) (nodeP a.2 x)::(As++R)) rfl Ent.rfl ⟨OwnB (.slice ad4 (nodeP a.2 y).length c4) (nodeP a.2 y)::OwnB (.slice ad3 (nodeP a.2 x).length c3) (nodeP a.2 x)::As,.slice ad3 (nodeP a.2 x).length c3,.slice ad4 (nodeP a.2 y).length c4,nodeP a.2 x,nodeP a.2 y,?_,fun h=>?_,by rw [nodeP,tagP_length];omega,by rw [nodeP,tagP_length];omega,rfl,RdSl.own (.succ .zero),RdSl.own .zero⟩
  ·rw [hl1,hhi hik,decide_eq_decide.2 (show us.length=glenP (m - k) (n - k) false↔us.length+1=glenP (m - k) (n - k) false+1 by omega)];rfl
  ·rw [hl1,hhi hik] at h
   rw [hphi _ hik,dropLast_map,lastP_map,← h7 zo]
def GrowOk (n m:Int) (ts:List Txt) (old:List UInt8):Prop:=rightP ts=true∧0<n∧n<m∧old.length=32∧ts.length=glenP n.toNat m.toNat true
instance (n m:Int) (ts:List Txt) (old:List UInt8):Decidable (GrowOk n m ts old):=by unfold GrowOk;infer_instance
abbrev GrowTo (n m:Int) (ts:List Txt) (old:List UInt8):List UInt8 × List UInt8:=gleadP n.toNat m.toNat true (ts.map (·.2)) old
theorem pLeads_spec (n m:Int) (vp vb:Value) (ts:List Txt) (b:List UInt8) (h1:-9223372036854775808≤n∧n≤9223372036854775807) (h2:-9223372036854775808≤m∧m≤9223372036854775807) (hv:RdSl R 1 vp ts.length (ts.map (·.1))) (ht:Txts R ts) (hb:RdB R vb b) :
 Ct prog 262 #[.agg #[.int .i64 n,.int .i64 m,vp],vb] e R (fun v' L' =>
  (GrowOk n m ts b∧∃ ad c ad' c',v'=.tuple #[.slice ad (GrowTo n m ts b).1.length c,.slice ad' (GrowTo n m ts b).2.length c',.bool true]∧L'=OwnB (.slice ad' (GrowTo n m ts b).2.length c') (GrowTo n m ts b).2::OwnB (.slice ad (GrowTo n m ts b).1.length c) (GrowTo n m ts b).1::R) ∨
  (¬ GrowOk n m ts b∧v'=.tuple #[nY,nY,.bool false]∧R=L')):=by
 refine Ct.of_sep (hv.shape zo) ?_;rintro ⟨⟨ad,cap,rfl,h3,h4,h5,h6⟩,_⟩;refine Ct.enter (args:=[_,_]) func262 rfl ntmps262 results262 rfl ?_
 (repeat (refine wA ?_;intros))
 rename_i g;refine O.call rfl rfl (rightP_spec _ e _ ts hv.tail ht.tail) ?_;rintro _ _ ⟨rfl,rfl⟩
 by_cases hr:rightP ts=true
 rotate_left
 ·rw [show rightP ts=false by simpa using hr];refine wB ?_;exact Fin.ret R rfl zE (.inr ⟨fun h=>hr h.1,rfl,rfl⟩)
 rw [hr];obtain ⟨r1,r2⟩:=rightP_iff.1 hr
 by_cases h0:0<n
 rotate_left
 ·refine wB ?_;exact Fin.ret R rfl zE (.inr ⟨fun h=>h0 h.2.1,rfl,rfl⟩)
 by_cases hlt:n<m
 rotate_left
 ·refine wB ?_;exact Fin.ret R rfl zE (.inr ⟨fun h=>hlt h.2.2.1,rfl,rfl⟩)
 refine wB ?_;refine O.call rfl rfl (is_spec _ e _ b hb.tail) ?_;rintro _ _ ⟨rfl,rfl⟩
 by_cases h32:b.length=32
 rotate_left
 ·rw [decide_eq_false h32];refine wB ?_;exact Fin.ret R rfl zE (.inr ⟨fun h=>h32 h.2.2.2.1,rfl,rfl⟩)
 rw [decide_eq_true h32];obtain ⟨i,rfl⟩:=Int.eq_ofNat_of_zero_le (show 0≤n by omega);obtain ⟨j,rfl⟩:=Int.eq_ofNat_of_zero_le (show 0≤m by omega);refine wB ?_;refine O.call rfl rfl (gleads_spec ts.length _ e ad cap ts i j true vb b rfl hv.tail ht.tail (fun a ha=>by have:=r2 a ha;omega) zo zo zo zo hb.tail zo) ?_;rintro _ _ ⟨As,v1,v2,x,y,rfl,h7,h8,h9,rfl,h10,h11⟩
 have hdrop:∀ (As:List Res) (M:List Res),Ent (As++M) M:=fun As M=>by
  induction As with
  | nil=>exact Ent.rfl
  | cons A As ih=>exact Ent.drop ih
 by_cases hlg:ts.length=glenP i j true
 ·rw [decide_eq_true hlg];have h12:=h7 hlg;have e1:GrowTo (i:Int) (j:Int) ts b=(x,y):=h12.symm;rw [e1];dsimp only;refine wB ?_;refine O.call rfl rfl (clone_spec _ e _ x h10 zo) ?_;rintro _ _ ⟨ad1,c1,rfl,rfl⟩
  (repeat (refine wA ?_;intros))
  refine O.call rfl rfl (clone_spec _ e _ y h11.tail zo) ?_;rintro _ _ ⟨ad2,c2,rfl,rfl⟩;refine wB ?_;exact Fin.ret (OwnB (.slice ad2 y.length c2) y::OwnB (.slice ad1 x.length c1) x::R) rfl (Ent.cons (Ent.cons (Ent.trans (hdrop As _) (Ent.drop Ent.rfl)))) (.inl ⟨⟨hr,h0,hlt,h32,hlg⟩,ad1,c1,ad2,c2,rfl,rfl⟩)
 ·rw [decide_eq_false hlg];refine wB ?_;exact Fin.ret R rfl (Ent.trans (hdrop As _) (Ent.drop Ent.rfl)) (.inr ⟨fun h=>hlg h.2.2.2.2,rfl,rfl⟩)
def GrowChk (n m:Int) (ts:List Txt) (old now:List UInt8):Prop :=
 (n=m∧0≤n∧ts.length=0∧old.length=32∧old=now)∨(n=0∧n<m∧ts.length=0∧old=sha []∧now.length=32)∨(GrowOk n m ts old∧(GrowTo n m ts old).1=old∧(GrowTo n m ts old).2=now)
instance (n m:Int) (ts:List Txt) (old now:List UInt8):Decidable (GrowChk n m ts old now):=by unfold GrowChk;infer_instance
theorem checkGrow_spec (n m:Int) (vp vb vn:Value) (ts:List Txt) (b now:List UInt8) (h1:-9223372036854775808≤n∧n≤9223372036854775807) (h2:-9223372036854775808≤m∧m≤9223372036854775807) (hv:RdSl R 1 vp ts.length (ts.map (·.1))) (ht:Txts R ts) (hb:RdB R vb b) (hw:RdB R vn now) :
 Ct prog 196 #[.agg #[.int .i64 n,.int .i64 m,vp],vb,vn] e R (fun v' L'=>v'=.bool (decide (GrowChk n m ts b now))∧R=L'):=by
 refine Ct.of_sep (hv.shape zo) ?_;rintro ⟨⟨ad,cap,rfl,h3,h4,h5,h6⟩,_⟩;refine Ct.enter (args:=[_,_,_]) func196 rfl ntmps196 results196 rfl ?_
 by_cases h0:0≤n
 rotate_left
 ·rw [decide_eq_false (by rintro (h|h|h);(omega);(omega);(have:=h.1.2.1;omega))]
  (repeat (refine wA ?_;intros))
  exact Fin.ret R rfl zE ⟨rfl,rfl⟩
 by_cases hgt:n≤m
 rotate_left
 ·rw [decide_eq_false (by rintro (h|h|h);(omega);(omega);(have:=h.1.2.2.1;omega))]
  (repeat (refine wA ?_;intros))
  exact Fin.ret R rfl zE ⟨rfl,rfl⟩
 by_cases he:n=m
 ·by_cases hl0:ts.length=0
  rotate_left
  ·rw [decide_eq_false (by rintro (h|h|h);(omega);(omega);(have:=h.1.2.2.1;omega))]
   (repeat (refine wA ?_;intros))
   exact Fin.ret R rfl zE ⟨rfl,rfl⟩
  (repeat (refine wA ?_;intros))
  refine O.call rfl rfl (is_spec _ e _ b hb.tail) ?_;rintro _ _ ⟨rfl,rfl⟩
  by_cases h32:b.length=32
  rotate_left
  ·rw [decide_eq_false h32,decide_eq_false (by rintro (h|h|h);(omega);(omega);(have:=h.1.2.2.1;omega))];refine wB ?_;exact Fin.ret R rfl zE ⟨rfl,rfl⟩
  rw [decide_eq_true h32];refine wB ?_;refine O.call rfl rfl (same_spec _ e _ _ b now hb.tail hw.tail) ?_;rintro _ _ ⟨rfl,rfl⟩
  by_cases hs:b=now
  ·rw [decide_eq_true hs,decide_eq_true (.inl ⟨he,h0,hl0,h32,hs⟩)];refine wB ?_;exact Fin.ret R rfl zE ⟨rfl,rfl⟩
  ·rw [decide_eq_false hs,decide_eq_false (by rintro (h|h|h);(exact hs h.2.2.2.2);(omega);(have:=h.1.2.2.1;omega))];refine wB ?_;exact Fin.ret R rfl zE ⟨rfl,rfl⟩
 by_cases hz:n=0
 ·by_cases hl0:ts.length=0
  rotate_left
  ·rw [decide_eq_false (by rintro (h|h|h);(omega);(omega);(have:=h.1.2.1;omega))]
   (repeat (refine wA ?_;intros))
   exact Fin.ret R rfl zE ⟨rfl,rfl⟩
  (repeat (refine wA ?_;intros))
  refine O.call rfl rfl (sum_spec _ e _ [] (RdB.nil _) (by simp)) ?_;rintro _ _ ⟨ad2,c2,rfl,rfl⟩
  (repeat (refine wA ?_;intros))
  refine O.call rfl rfl (same_spec _ e _ _ b (sha []) hb.tail.tail (RdSl.own .zero)) ?_;rintro _ _ ⟨rfl,rfl⟩
  by_cases hs:b=sha []
  rotate_left
  ·rw [decide_eq_false hs,decide_eq_false (by rintro (h|h|h);(omega);(exact hs h.2.2.2.1);(have:=h.1.2.1;omega))];refine wB ?_;exact Fin.ret R rfl zE ⟨rfl,rfl⟩
  rw [decide_eq_true hs];refine wB ?_;refine O.call rfl rfl (is_spec _ e _ now hw.tail.tail) ?_;rintro _ _ ⟨rfl,rfl⟩
  by_cases h32:now.length=32
  ·rw [decide_eq_true h32,decide_eq_true (.inr (.inl ⟨hz,by omega,hl0,hs,h32⟩))];refine wB ?_;exact Fin.ret R rfl zE ⟨rfl,rfl⟩
  ·rw [decide_eq_false h32,decide_eq_false (by rintro (h|h|h);(omega);(exact h32 h.2.2.2.2);(have:=h.1.2.1;omega))];refine wB ?_;exact Fin.ret R rfl zE ⟨rfl,rfl⟩
 (repeat (refine wA ?_;intros))
 refine O.call rfl rfl (pLeads_spec _ e n m _ vb ts b h1 h2 hv.tail ht.tail hb.tail) ?_;rintro _ _ (⟨hok,ad1,c1,ad2,c2,rfl,rfl⟩|⟨hok,rfl,rfl⟩)
 rotate_left
 ·rw [decide_eq_false (by rintro (h|h|h);(omega);(omega);(exact hok h.1))];refine wB ?_;exact Fin.ret R rfl zE ⟨rfl,rfl⟩
 refine wB ?_;refine O.call rfl rfl (same_spec _ e _ _ _ b (RdSl.own (.succ .zero)) hb.tail.tail.tail) ?_;rintro _ _ ⟨rfl,rfl⟩
 by_cases hs:(GrowTo n m ts b).1=b
 rotate_left
 ·rw [decide_eq_false hs,decide_eq_false (by rintro (h|h|h);(omega);(omega);(exact hs h.2.1))];refine wB ?_;exact Fin.ret R rfl zE ⟨rfl,rfl⟩
 rw [decide_eq_true hs];refine wB ?_;refine O.call rfl rfl (same_spec _ e _ _ _ now (RdSl.own .zero) hw.tail.tail.tail) ?_;rintro _ _ ⟨rfl,rfl⟩
 by_cases hs2:(GrowTo n m ts b).2=now
 ·rw [decide_eq_true hs2,decide_eq_true (.inr (.inr ⟨hok,hs,hs2⟩))];refine wB ?_;exact Fin.ret R rfl zE ⟨rfl,rfl⟩
 ·rw [decide_eq_false hs2,decide_eq_false (by rintro (h|h|h);(omega);(omega);(exact hs2 h.2.2))];refine wB ?_;exact Fin.ret R rfl zE ⟨rfl,rfl⟩
theorem growP_all (l:List (List UInt8)):growP l l.length=[]:=by rw [growP,if_neg zo]
theorem growP_zero (l:List (List UInt8)):growP l 0=[]:=by rw [growP,if_neg zo]
theorem grow_few {ts out:List Txt} {m:Nat} (ho:out.map (·.2)=growP (ts.map (·.2)) m) (hm:m≤ts.length) (hl:ts.length≤32768):out.length≤16:=by
 have h1:=congrArg List.length ho;rw [List.length_map] at h1
 by_cases hin:0<m∧m<(ts.map (·.2)).length
 ·rw [growP,if_pos hin,subP_length _ m _ true rfl zo zo] at h1
  have:=glenP_le 15 (ts.map (·.2)).length m true (by rw [List.length_map];omega)
  omega
 ·rw [growP,if_neg hin,List.length_nil] at h1
  omega
theorem grow_ok {ts out:List Txt} {m:Nat} (ho:out.map (·.2)=growP (ts.map (·.2)) m) (hm:m≤ts.length) (h32:∀ a∈ts,a.2.length=32) (hl:ts.length≤32768) :
 GrowChk (m:Int) (ts.length:Int) out (rootP ((ts.take m).map (·.2))) (rootP (ts.map (·.2))):=by
 have h3:∀ a∈ts.map (·.2),a.length=32:=fun a ha=>by
  obtain ⟨y,hy,rfl⟩:=List.mem_map.1 ha;exact h32 y hy
 have hfew:=grow_few ho hm hl
 by_cases he:m=ts.length
 ·subst he;have e1:=growP_all (ts.map (·.2));rw [List.length_map] at e1
  rw [e1] at ho
  have h0:out.length=0:=by have:=congrArg List.length ho;simpa using this
  rw [List.take_length];exact .inl ⟨rfl,by omega,h0,hashes_root h3,rfl⟩
 by_cases hz:m=0
 ·subst hz;rw [growP_zero] at ho
  have h0:out.length=0:=by have:=congrArg List.length ho;simpa using this
  exact .inr (.inl ⟨rfl,by omega,h0,by rw [List.take_zero];exact rootP_nil,hashes_root h3⟩)
 have hin:0<m∧m<(ts.map (·.2)).length:=⟨by omega,by rw [List.length_map];omega⟩
 rw [growP,if_pos hin] at ho
 have h1:out.length=glenP m ts.length true:=by
  have:=congrArg List.length ho
  rwa [List.length_map,subP_length _ m _ true rfl zo zo,List.length_map] at this
 have h4:∀ a∈out,a.2.length=32:=fun a ha=>by
  have:a.2∈out.map (·.2):=List.mem_map.2 ⟨a,ha,rfl⟩;rw [ho] at this
  exact subP_hash _ _ _ _ rfl h3 _ this
 have h5:=gleadP_sub (ts.map (·.2)).length m (ts.map (·.2)) true (rootP ((ts.take m).map (·.2))) rfl zo zo (fun _=>by rw [List.map_take]);rw [List.length_map,← ho] at h5
 have h6:((ts.take m).map (·.2))=(ts.map (·.2)).take m:=List.map_take;refine .inr (.inr ⟨⟨rightP_iff.2 ⟨hfew,h4⟩,by omega,by omega,hashes_root fun a ha=>h3 a (List.mem_of_mem_take (h6 ▸ ha)),h1⟩,?_,?_⟩)
 ·exact (congrArg Prod.fst h5).trans (by rw [h6])
 ·exact congrArg Prod.snd h5
structure WSt where
 recs:List Chk
 keys:Nat
 lastV:Csg
 some:Bool
def chk0:Chk:=⟨0,sha []⟩
def csg0:Csg:=⟨0,⟨0,[],[]⟩⟩
def WSt.c (s:WSt):Chk:=s.recs.getLast?.getD chk0
def recC (c:Chk):Bts:=be c.size 4++c.root
def WSt.jb (s:WSt):Bts:=layP (s.recs.map recC)
structure WSt.ok (s:WSt):Prop where
 right:∀ c∈s.recs,c.right
 rise:(s.recs.map (·.size)).Pairwise (·<·)
 pos:∀ c∈s.recs,0<c.size
 keys:s.keys≤16
 fits:s.lastV.sig.fits
theorem recC_length {c:Chk} (h:c.right):(recC c).length=36:=by unfold recC;rw [List.length_append,be_length,h.2]
theorem WSt.c_right {s:WSt} (h:s.ok):s.c.right:=by
 unfold WSt.c
 cases hl:s.recs.getLast? with
 | none=>exact ⟨Nat.zero_le _,sha_length _⟩
 | some c=>exact h.right c (List.mem_of_getLast? hl)
theorem wrec_spec (vr:Value) (c:Chk) (hv:RdB R vr c.root) (hc:c.right) :
 Ct prog 111 #[.agg (chkC c vr).toArray] e R (fun v' L'=>∃ ad k,v'=.slice ad (recC c).length k∧L'=OwnB (.slice ad (recC c).length k) (recC c)::R):=by
 have hc1:=hc.1;have hc2:=hc.2;refine Ct.of_sep (RdB.one hv) fun ho=>?_
 refine Ct.enter (args:=[_]) func111 rfl ntmps111 results111 rfl ?_
 (repeat (refine wA ?_;intros))
 refine O.call rfl rfl (new_spec _ e) ?_;rintro _ _ ⟨gw,rfl,rfl⟩;refine wB ?_;refine O.call rfl rfl (num_spec _ e gw [] c.size zo (by decide)) ?_;rintro _ _ ⟨rfl,rfl⟩;refine wB ?_;refine O.call rfl rfl (raw_spec _ e gw _ c.root vr (hv.ent zE) (by rw [List.length_append,be_length];simp only [List.length_nil];omega)) ?_;rintro _ _ ⟨rfl,rfl⟩;rw [show []++be c.size 4++c.root=recC c by simp [recC]];refine wB ?_;refine O.call rfl rfl (done_spec _ e gw _ (by rw [recC_length hc];omega)) ?_;rintro _ _ ⟨ad,k,rfl,rfl⟩;refine wB ?_;exact Fin.ret (OwnB (.slice ad (recC c).length k) (recC c)::R) rfl zE ⟨ad,k,rfl,rfl⟩
abbrev tWit:TypeId:=194
structure WMem where
 gj:Nat
 gb:Nat
 gk:Nat
 vs:Value
 vl:Value
 vp:Value
 vr:Value
 up:Value
 uq:Value
structure WMem.ok (a:WMem) (M:Res) (seed log:Bts) (s:WSt):Prop where
 rseed:RdB [M] a.vs seed
 rlog:RdB [M] a.vl log
 root:RdB [M] a.vr s.c.root
 sig:RdSig [M] a.up a.uq s.lastV.sig
 st:s.ok
 sd:seed.length=32
 lg:log.length=32
abbrev WMem.cells (a:WMem) (id:Nat) (s:WSt):List Value:=[pt a.gj,pt a.gb,.int .i64 (id:Int),a.vs,a.vl,a.vp]++chkC s.c a.vr++csgC s.lastV a.up a.uq++[.bool s.some]
abbrev witM (g d k id:Nat) (s:WSt) (a:WMem) (M:Res) (R:List Res):List Res :=
 Blk g (a.cells id s) tWit (0,0)::M::Jrn a.gj d s.recs.length::Disk d (disk0 s.jb)::KBox a.gb a.gk s.keys::Jrn a.gk k s.keys::Disk k (kDisk s.keys 1048576)::R
def WitAt (g d k id:Nat) (seed log:Bts) (s:WSt) (a:WMem) (M:Res):Res:=All (Pu (a.ok M seed log s)::witM g d k id s a M [])
def WitR (g d k id:Nat) (seed log:Bts) (s:WSt):Res:=Ex fun a=>Ex fun M=>WitAt g d k id seed log s a M
theorem wit_out {g d k id:Nat} {seed log:Bts} {s:WSt} {R:List Res} {P:Program} {f:FuncId} {args:Array Value} {e:World} {Post:Value→List Res→Prop}
 (h:∀ (a:WMem) (M:Res),a.ok M seed log s→Ct P f args e (witM g d k id s a M R) Post):Ct P f args e (WitR g d k id seed log s::R) Post :=
 Ct.ex .zero fun a=>Ct.ex .zero fun M=>Ct.ent (Ct.of_sep (p:=a.ok M seed log s) (fun w x=>(pu_out x).1) fun hp=>(h a M hp).ent (Ent.drop Ent.rfl)) (all_out (M:=Pu (a.ok M seed log s)::witM g d k id s a M []) (L:=R))
theorem wit_in {g d k id:Nat} {seed log:Bts} {s:WSt} {a:WMem} {M:Res} {R:List Res} (h:a.ok M seed log s):Ent (witM g d k id s a M R) (WitR g d k id seed log s::R) :=
 Ent.trans (pu_in h) (Ent.trans (all_in (M:=Pu (a.ok M seed log s)::witM g d k id s a M []) (L:=R)) (Ent.trans (ex_in (f:=fun M=>WitAt g d k id seed log s a M) M) (ex_in (f:=fun a=>Ex fun M=>WitAt g d k id seed log s a M) a)))
theorem wCheck_spec (g d k id:Nat) (seed log:Bts) (s:WSt) :
 Ct prog 252 #[pt g] e (WitR g d k id seed log s::R) (fun v' L'=>∃ ad c,v'=.agg (chkC s.c (.slice ad s.c.root.length c)).toArray∧L'=OwnB (.slice ad s.c.root.length c) s.c.root::WitR g d k id seed log s::R):=by
 refine wit_out fun a M ha=>?_
 have hcr:=(WSt.c_right ha.st).2;refine Ct.enterC (args:=[_]) func252 rfl ntmps252 results252 rfl ?_
 (repeat (refine wA ?_;intros))
 rename_i g2;refine A.begin (id:=1) [12] (witM g d k id s a M R) mixed ?_
 (refine tM 0 ?_;refine tN 1 ?_;refine tF 2 ?_;refine tF 3 ?_;refine tL 4 ?_;refine tM 5 ?_;refine tN 6 ?_;refine tF 7 ?_;refine tF 8 ?_;refine tL 9 ?_)
 refine tO 10 ?_;refine Do.call rfl rfl (clone_spec _ e a.vr s.c.root (ha.root.ent (one_in zP)) zo) ?_;rintro _ _ ⟨ad,c,rfl,rfl⟩;refine ⟨fun _=>zE,?_⟩
 (refine tk 11 _ rfl (Val.build rfl zF) ?_;(refine tO 12 ?_;refine zg ?_;refine ⟨zN,?_⟩))
 refine A.done zK ?_;refine wB ?_;apply Fin.retC
 ·exact zV
 exact ⟨OwnB (.slice ad s.c.root.length c) s.c.root::WitR g d k id seed log s::R,Ent.trans (show Ent _ (OwnB (.slice ad s.c.root.length c) s.c.root::witM g d k id s a M R) from zE) (Ent.cons (wit_in ha)),ad,c,rfl,rfl⟩
def WSt.growE (s:WSt) (c:Chk) (n m:Nat) (ts:List Txt):Int:=if c.size<s.c.size then 32 else if c.size=s.c.size then (if c=s.c then 0 else 34) else if n=s.c.size∧m=c.size∧GrowChk n m ts s.c.root c.root then 0 else 31
theorem wGrows_spec (g d k id:Nat) (seed log:Bts) (s:WSt) (a:WMem) (M:Res) (ha:a.ok M seed log s) (vr vp:Value) (c:Chk) (n m:Nat) (ts:List Txt) (hr:RdB R vr c.root) (hc:c.right) (hn:n≤1000000) (hm:m≤1000000) (hv:RdSl R 1 vp ts.length (ts.map (·.1))) (ht:Txts R ts) :
 Ct prog 110 #[pt g,.agg (chkC c vr).toArray,.agg #[.int .i64 (n:Int),.int .i64 (m:Int),vp]] e (witM g d k id s a M R) (fun v' L'=>v'=.int .i64 (s.growE c n m ts)∧L'=witM g d k id s a M R):=by
 have hsc:=WSt.c_right ha.st;have hs1:=hsc.1;have hc1:=hc.1;refine Ct.of_sep (RdB.one (hr.ent (show Ent (witM g d k id s a M R) R from zE))) fun o1=>?_
 refine Ct.of_sep (RdSl.shape (hv.ent (show Ent (witM g d k id s a M R) R from zE)) zo) ?_;rintro ⟨⟨adp,cp,rfl,-,-,-,-⟩,_⟩;refine Ct.enter (args:=[_,_,_]) func110 rfl ntmps110 results110 rfl ?_
 (repeat (refine wA ?_;intros))
 rename_i g4 g5;refine A.begin (id:=1) [] (Blk g5 [.int .i64 (n:Int),.int .i64 (m:Int),.slice adp ts.length cp] 102 (0,0)::Blk g4 (chkC c vr) 83 (0,0)::witM g d k id s a M R) mixed ?_
 by_cases h1:c.size<s.c.size
 ·have hE:s.growE c n m ts=32:=by unfold WSt.growE;rw [if_pos h1]
  rw [hE]
  (refine tF 0 ?_;refine tL 1 ?_;refine tM 2 ?_;refine tN 3 ?_;refine tF 4 ?_;refine tF 5 ?_;refine tL 6 ?_;refine tk 7 (.bool true) rfl (Val.yes (Val.lss rfl rfl) zy) ?_;refine tA 8 ?_)
  refine A.done zK ?_;refine wB ?_;exact Fin.ret (witM g d k id s a M R) rfl zE ⟨rfl,rfl⟩
 (refine tF 0 ?_;refine tL 1 ?_;refine tM 2 ?_;refine tN 3 ?_;refine tF 4 ?_;refine tF 5 ?_;refine tL 6 ?_;refine tk 7 (.bool false) rfl (Val.no (Val.lss rfl rfl) zn) ?_;refine tA 8 ?_)
 refine A.done zK ?_;refine wB ?_;refine A.begin (id:=3) [] (Blk g5 [.int .i64 (n:Int),.int .i64 (m:Int),.slice adp ts.length cp] 102 (0,0)::Blk g4 (chkC c vr) 83 (0,0)::witM g d k id s a M R) mixed ?_
 by_cases h2:c.size=s.c.size
 ·(refine tF 0 ?_;refine tL 1 ?_;refine tM 2 ?_;refine tN 3 ?_;refine tF 4 ?_;refine tF 5 ?_;refine tL 6 ?_;refine tk 7 (.bool true) rfl (Val.yes (Val.eql rfl rfl) zy) ?_;refine tM 8 ?_;refine tkG 9 _ rfl (Val.loadAggR rfl zA zX) ?_;refine tkG 10 _ rfl (Val.move rfl) ?_;refine tkG 11 _ rfl (Val.nilCheck rfl) ?_;refine tkG 12 _ rfl (Val.fieldAddr rfl) ?_;refine tkG 13 _ rfl (Val.loadAggB rfl zP zI zX) ?_)
  refine A.oneG 14 rfl rfl zK ?_;refine Do.call rfl rfl (cSame_spec _ e vr a.vr c s.c (hr.ent zE) (ha.root.ent (one_in zP))) ?_;rintro _ _ ⟨rfl,rfl⟩;refine ⟨fun _=>zE,A.regrow zE ?_⟩
  by_cases h3:c=s.c
  ·have hE:s.growE c n m ts=0:=by unfold WSt.growE;rw [if_neg h1,if_pos h2,if_pos h3]
   rw [hE,decide_eq_true h3]
   (refine tkG 15 _ rfl (Val.not_t rfl) ?_;refine tk 16 _ rfl (Val.pick_t rfl rfl) ?_;refine tA 17 ?_)
   refine A.done zK ?_;refine wB ?_;refine A.begin (id:=5) [] (Blk g4 (chkC c vr) 83 (0,0)::witM g d k id s a M R) mixed ?_
   (refine tF 0 ?_;refine tL 1 ?_;refine tM 2 ?_;refine tN 3 ?_;refine tF 4 ?_;refine tF 5 ?_;refine tL 6 ?_;refine tk 7 (.bool true) rfl (Val.yes (Val.eql rfl rfl) zy) ?_;refine tA 8 ?_)
   refine A.done zK ?_;refine wB ?_;exact Fin.ret (witM g d k id s a M R) rfl zE ⟨rfl,rfl⟩
  ·have hE:s.growE c n m ts=34:=by unfold WSt.growE;rw [if_neg h1,if_pos h2,if_neg h3]
   rw [hE,decide_eq_false h3]
   (refine tkG 15 _ rfl (Val.not_f rfl) ?_;refine tk 16 _ rfl (Val.pick_t rfl rfl) ?_;refine tA 17 ?_)
   refine A.done zK ?_;refine wB ?_;exact Fin.ret (witM g d k id s a M R) rfl zE ⟨rfl,rfl⟩
 (refine tF 0 ?_;refine tL 1 ?_;refine tM 2 ?_;refine tN 3 ?_;refine tF 4 ?_;refine tF 5 ?_;refine tL 6 ?_;refine tk 7 (.bool false) rfl (Val.no (Val.eql rfl rfl) zn) ?_;refine tM 8 ?_;refine A.takeN 9 rfl rfl zK zE rfl ?_;refine A.takeN 10 rfl rfl zK zE rfl ?_;refine A.takeN 11 rfl rfl zK zE rfl ?_;refine A.takeN 12 rfl rfl zK zE rfl ?_;refine A.takeN 13 rfl rfl zK zE rfl ?_)
 refine A.takeN 14 rfl rfl zK zE rfl ?_
 (refine A.takeN 15 rfl rfl zK zE rfl ?_;refine tk 16 _ rfl (Val.pick_f rfl rfl) ?_;refine tA 17 ?_)
 refine A.done zK ?_;refine wB ?_;refine A.begin (id:=5) [] (Blk g4 (chkC c vr) 83 (0,0)::witM g d k id s a M R) mixed ?_
 (refine tF 0 ?_;refine tL 1 ?_;refine tM 2 ?_;refine tN 3 ?_;refine tF 4 ?_;refine tF 5 ?_;refine tL 6 ?_;refine tk 7 (.bool false) rfl (Val.no (Val.eql rfl rfl) zn) ?_;refine tA 8 ?_)
 refine A.done zK ?_;refine wB ?_;refine A.begin (id:=7) [] (Blk g5 [.int .i64 (n:Int),.int .i64 (m:Int),.slice adp ts.length cp] 102 (0,0)::Blk g4 (chkC c vr) 83 (0,0)::witM g d k id s a M R) mixed ?_;have hE0:s.growE c n m ts=if n=s.c.size∧m=c.size∧GrowChk n m ts s.c.root c.root then 0 else 31:=by unfold WSt.growE;rw [if_neg h1,if_neg h2]
 by_cases h3:n=s.c.size
 rotate_left
 ·have hE:s.growE c n m ts=31:=by rw [hE0,if_neg (fun q=>h3 q.1)]
  rw [hE]
  (refine tF 0 ?_;refine tL 1 ?_;refine tM 2 ?_;refine tN 3 ?_;refine tF 4 ?_;refine tF 5 ?_;refine tL 6 ?_;refine tk 7 (.bool true) rfl (Val.yes (Val.neq rfl rfl) zy) ?_;refine tM 8 ?_;refine A.takeN 9 rfl rfl zK zE rfl ?_;refine A.takeN 10 rfl rfl zK zE rfl ?_;refine A.takeN 11 rfl rfl zK zE rfl ?_;refine A.takeN 12 rfl rfl zK zE rfl ?_;refine A.takeN 13 rfl rfl zK zE rfl ?_;refine tk 14 _ rfl (Val.pick_t rfl rfl) ?_;refine tM 15 ?_;refine A.takeN 16 rfl rfl zK zE rfl ?_;refine A.takeN 17 rfl rfl zK zE rfl ?_;refine A.takeN 18 rfl rfl zK zE rfl ?_;refine A.takeN 19 rfl rfl zK zE rfl ?_;refine A.takeN 20 rfl rfl zK zE rfl ?_;refine A.takeN 21 rfl rfl zK zE rfl ?_;refine A.takeN 22 rfl rfl zK zE rfl ?_;refine A.takeN 23 rfl rfl zK zE rfl ?_)
  refine A.takeN 24 rfl rfl zK zE rfl ?_
  (refine A.takeN 25 rfl rfl zK zE rfl ?_;refine tk 26 _ rfl (Val.pick_t rfl rfl) ?_;refine tA 27 ?_)
  refine A.done zK ?_;refine wB ?_;exact Fin.ret (witM g d k id s a M R) rfl zE ⟨rfl,rfl⟩
 by_cases h4:m=c.size
 rotate_left
 ·have hE:s.growE c n m ts=31:=by rw [hE0,if_neg (fun q=>h4 q.2.1)]
  rw [hE]
  (refine tF 0 ?_;refine tL 1 ?_;refine tM 2 ?_;refine tN 3 ?_;refine tF 4 ?_;refine tF 5 ?_;refine tL 6 ?_;refine tk 7 (.bool false) rfl (Val.no (Val.neq rfl rfl) zn) ?_;refine tM 8 ?_;refine tkG 9 _ rfl (Val.fieldAddr rfl) ?_;refine tkG 10 _ rfl (Val.load rfl zR) ?_;refine tkG 11 _ rfl (Val.fieldAddr rfl) ?_;refine tkG 12 _ rfl (Val.load rfl zR) ?_;refine tkG 13 (.bool true) rfl (Val.yes (Val.neq rfl rfl) zy) ?_;refine tk 14 _ rfl (Val.pick_f rfl rfl) ?_;refine tM 15 ?_;refine A.takeN 16 rfl rfl zK zE rfl ?_;refine A.takeN 17 rfl rfl zK zE rfl ?_;refine A.takeN 18 rfl rfl zK zE rfl ?_;refine A.takeN 19 rfl rfl zK zE rfl ?_;refine A.takeN 20 rfl rfl zK zE rfl ?_;refine A.takeN 21 rfl rfl zK zE rfl ?_;refine A.takeN 22 rfl rfl zK zE rfl ?_;refine A.takeN 23 rfl rfl zK zE rfl ?_)
  refine A.takeN 24 rfl rfl zK zE rfl ?_
  (refine A.takeN 25 rfl rfl zK zE rfl ?_;refine tk 26 _ rfl (Val.pick_t rfl rfl) ?_;refine tA 27 ?_)
  refine A.done zK ?_;refine wB ?_;exact Fin.ret (witM g d k id s a M R) rfl zE ⟨rfl,rfl⟩
 (refine tF 0 ?_;refine tL 1 ?_;refine tM 2 ?_;refine tN 3 ?_;refine tF 4 ?_;refine tF 5 ?_;refine tL 6 ?_;refine tk 7 (.bool false) rfl (Val.no (Val.neq rfl rfl) zn) ?_;refine tM 8 ?_;refine tkG 9 _ rfl (Val.fieldAddr rfl) ?_;refine tkG 10 _ rfl (Val.load rfl zR) ?_;refine tkG 11 _ rfl (Val.fieldAddr rfl) ?_;refine tkG 12 _ rfl (Val.load rfl zR) ?_;refine tkG 13 (.bool false) rfl (Val.no (Val.neq rfl rfl) zn) ?_;refine tk 14 _ rfl (Val.pick_f rfl rfl) ?_;refine tM 15 ?_;refine tkG 16 _ rfl (Val.loadAggR rfl zA zX) ?_;refine tkG 17 _ rfl (Val.move rfl) ?_;refine tkG 18 _ rfl (Val.nilCheck rfl) ?_;refine tkG 19 _ rfl (Val.fieldAddr rfl) ?_;refine tkG 20 _ rfl (Val.fieldAddr rfl) ?_;refine tkG 21 _ rfl (Val.load rfl zR) ?_;refine tkG 22 _ rfl (Val.fieldAddr rfl) ?_;refine tkG 23 _ rfl (Val.load rfl zR) ?_)
 refine A.oneG 24 rfl rfl zK ?_;refine Do.call rfl rfl (checkGrow_spec _ e (n:Int) (m:Int) (.slice adp ts.length cp) a.vr vr ts s.c.root c.root zo zo (hv.ent zE) (fun x hx=>(ht x hx).ent zE) (ha.root.ent (one_in zP)) (hr.ent zE)) ?_;rintro _ _ ⟨rfl,rfl⟩;refine ⟨fun _=>zE,A.regrow zE ?_⟩
 by_cases h5:GrowChk n m ts s.c.root c.root
 ·have hE:s.growE c n m ts=0:=by rw [hE0,if_pos ⟨h3,h4,h5⟩]
  rw [hE,decide_eq_true h5]
  (refine tkG 25 _ rfl (Val.not_t rfl) ?_;refine tk 26 _ rfl (Val.pick_f rfl rfl) ?_;refine tA 27 ?_)
  refine A.done zK ?_;refine wB ?_;exact Fin.ret (witM g d k id s a M R) rfl zE ⟨rfl,rfl⟩
 ·have hE:s.growE c n m ts=31:=by rw [hE0,if_neg (fun q=>h5 q.2.2)]
  rw [hE,decide_eq_false h5]
  (refine tkG 25 _ rfl (Val.not_f rfl) ?_;refine tk 26 _ rfl (Val.pick_f rfl rfl) ?_;refine tA 27 ?_)
  refine A.done zK ?_;refine wB ?_;exact Fin.ret (witM g d k id s a M R) rfl zE ⟨rfl,rfl⟩
end Go.Proofs
namespace Go.Bs
theorem Val.fieldA {P:Program} {N:Fr} {ty:TypeId} {σ:Env} {e:World} {L:List Res} {x:Operand} {t:TypeId} {f n off:Nat} {cs ds:List Value} (hr:∀ w (cs:Array Value),(Instr.field t (.agg cs) f).run P w=.ok (.agg (cs.extract off (off+n))) w) (h:ev σ x=some (.agg cs.toArray)) (hd:(cs.drop off).take n=ds) :
 Val P N (.field t x f) ty (.agg ds.toArray) σ e L:=fun a w ha _ _ _ _ _=>by
 subst hd;have h2:=hr w cs.toArray
 simp [execOp,ha.ev h,h2]
end Go.Bs
namespace Go.Proofs
open Go.Bs
attribute [local irreducible] Bs.Val Bs.Do Bs.O Bs.W Bs.Fin Bs.A Bs.Ct Bs.RdSl Bs.Rd Bs.Sat Bs.Blk Bs.Ob Bs.Own Bs.View Bs.Ent Bs.Ex Bs.All Bs.Pu Bs.Base Bs.sepL Bs.RdA
theorem field87:∀ w (cs:Array Value),(Instr.field 87 (.agg cs) 0).run Tryz.prog w=.ok (.agg (cs.extract 0 (0+2))) w:=fun w cs=>by
 simp [Instr.field,Tryz.runUnderlying87,asAgg,part,Tryz.isAgg83,Tryz.sizeOf83]
def WSt.grow (s:WSt) (c:Chk):WSt:=if s.c.size<c.size then { s with recs:=s.recs++[c],some:=false } else s
def WSt.cos (seed:Bts) (id:Nat) (s:WSt):WSt × Bool:=if s.some=true then (s,true) else if s.keys<16 then ({ s with keys:=s.keys+1,lastV:=signG seed s.keys id s.c,some:=true },true) else (s,false)
def WSt.cosE (seed log:Bts) (id:Nat) (s:WSt) (x:Sgd) (n m:Nat) (ts:List Txt):Int:=if ¬ x.ver log then 30 else if s.growE x.chk n m ts≠0 then s.growE x.chk n m ts else if ((s.grow x.chk).cos seed id).2=true then 0 else 23
def WSt.cosS (seed log:Bts) (id:Nat) (s:WSt) (x:Sgd) (n m:Nat) (ts:List Txt):WSt:=if ¬ x.ver log then s else if s.growE x.chk n m ts≠0 then s else ((s.grow x.chk).cos seed id).1
theorem WSt.c_snoc (s:WSt) (c:Chk) (b:Bool):WSt.c { s with recs:=s.recs++[c],some:=b }=c:=by simp [WSt.c]
theorem WSt.grow_c {s:WSt} {c:Chk} {n m:Nat} {ts:List Txt} (h:s.growE c n m ts=0):(s.grow c).c=c:=by
 unfold WSt.grow
 split
 ·exact WSt.c_snoc s c false
 ·rename_i h1;unfold WSt.growE at h
  by_cases h2:c.size<s.c.size
  ·rw [if_pos h2] at h;cases h
  ·rw [if_neg h2,if_pos zo] at h
   by_cases h3:c=s.c
   ·exact h3.symm
   ·rw [if_neg h3] at h;cases h
theorem WSt.grow_ok {s:WSt} {c:Chk} (h:s.ok) (hc:c.right):(s.grow c).ok:=by
 unfold WSt.grow
 split
 ·rename_i h1;refine ⟨fun x hx=>?_,?_,fun x hx=>?_,h.keys,h.fits⟩
  ·rcases List.mem_append.1 hx with hx|hx
   ·exact h.right x hx
   ·rw [List.mem_singleton.1 hx];exact hc
  ·show ((s.recs++[c]).map (·.size)).Pairwise (·<·)
   rw [List.map_append];refine List.pairwise_append.2 ⟨h.rise,by simp,fun a ha b hb=>?_⟩;obtain ⟨y,hy,rfl⟩:=List.mem_map.1 ha;rw [List.map_cons,List.map_nil,List.mem_singleton] at hb
   subst hb;refine Nat.lt_of_le_of_lt ?_ h1;unfold WSt.c
   cases hl:s.recs.getLast? with
   | none=>rw [List.getLast?_eq_none_iff] at hl;rw [hl] at hy;cases hy
   | some z =>
    obtain ⟨A,hA⟩:=List.getLast?_eq_some_iff.1 hl;have hr:=h.rise;rw [hA,List.map_append] at hr
    rw [hA] at hy
    rcases List.mem_append.1 hy with hy|hy
    ·exact Nat.le_of_lt ((List.pairwise_append.1 hr).2.2 _ (List.mem_map.2 ⟨y,hy,rfl⟩) _ (List.mem_map.2 ⟨z,List.mem_singleton.2 rfl,rfl⟩))
    ·rw [List.mem_singleton.1 hy];exact Nat.le_refl _
  ·rcases List.mem_append.1 hx with hx|hx
   ·exact h.pos x hx
   ·rw [List.mem_singleton.1 hx];omega
 ·exact h
abbrev csgN:Value:=.agg (csgC csg0 nY nY).toArray
theorem wCosign_spec (R:List Res) (e:World) (g d k id:Nat) (seed log:Bts) (s:WSt) (vr vp vq vg:Value) (x:Sgd) (n m:Nat) (ts:List Txt) (hx:RdSgd R vr vp vq x) (hc:x.chk.right) (hf:x.sig.fits) (hid:id<4) (hn:n≤1000000) (hm:m≤1000000) (hv:RdSl R 1 vg ts.length (ts.map (·.1))) (ht:Txts R ts) (hsz:s.recs.length≤1000) :
 Ct Tryz.prog 46 #[pt g,.agg (sgdC x vr vp vq).toArray,.agg #[.int .i64 (n:Int),.int .i64 (m:Int),vg]] e (WitR g d k id seed log s::R) (fun v' L'=>(s.cosE seed log id x n m ts=0→∃ (N:Res) (up uq:Value),v'=.tuple #[.agg (csgC (s.cosS seed log id x n m ts).lastV up uq).toArray,.int .i64 0]∧RdSig [N] up uq (s.cosS seed log id x n m ts).lastV.sig∧L'=N::WitR g d k id seed log (s.cosS seed log id x n m ts)::R)∧(s.cosE seed log id x n m ts≠0→v'=.tuple #[csgN,.int .i64 (s.cosE seed log id x n m ts)]∧L'=WitR g d k id seed log (s.cosS seed log id x n m ts)::R)):=by
 refine wit_out fun a M ha=>?_
 have hsc:=WSt.c_right ha.st;have hx0:=hx;obtain ⟨x1,x2,x3⟩:=hx0;have hfr:Ent (witM g d k id s a M R) R:=zE;refine Ct.of_sep (RdB.one (x1.ent hfr)) fun o1=>?_
 refine Ct.of_sep (x2.ent hfr).parts.one fun o2=>?_
 refine Ct.of_sep (x2.ent hfr).path.one fun o3=>?_
 refine Ct.of_sep (RdSl.shape (hv.ent hfr) zo) ?_;rintro ⟨⟨adp,cp,rfl,-,-,-,-⟩,_⟩;refine Ct.enterC (args:=[_,_,_]) Tryz.func46 rfl Tryz.ntmps46 Tryz.results46 rfl ?_
 (repeat (refine wA ?_;intros))
 rename_i g4 g5 g6;refine A.begin (id:=1) [] (Blk g4 (sgdC x vr vp vq) 87 (0,0)::witM g d k id s a M R) Tryz.mixed ?_
 (refine tM 0 ?_;refine tN 1 ?_;refine tF 2 ?_;refine tL 3 ?_;refine tJ 4 ?_)
 refine tO 5 ?_;refine Do.call rfl rfl (cVerify_spec _ e a.vl vr vp vq log x (ha.rlog.ent (one_in zP)) (hx.ent zE) hc) ?_;rintro _ _ ⟨rfl,rfl⟩;refine ⟨fun _=>zE,A.regrow zE ?_⟩
 by_cases hver:x.ver log
 rotate_left
 ·have hE:s.cosE seed log id x n m ts=30:=by unfold WSt.cosE;rw [if_pos hver]
  have hS:s.cosS seed log id x n m ts=s:=by unfold WSt.cosS;rw [if_pos hver]
  rw [hE,hS,decide_eq_false hver]
  (refine tk 6 _ rfl (Val.not_f rfl) ?_)
  refine A.done zK ?_;refine wB ?_;apply Fin.retC
  ·exact zV
  exact ⟨WitR g d k id seed log s::R,Ent.trans (show Ent _ (witM g d k id s a M R) from zE) (wit_in ha),(fun h=>by cases h),fun _=>⟨rfl,rfl⟩⟩
 rw [decide_eq_true hver]
 (refine tk 6 _ rfl (Val.not_t rfl) ?_)
 refine A.done zK ?_
 (repeat' first|refine Za ?_|apply Zc|apply Zd|apply Zf|refine Zh ?_|refine Zj ?_|refine YA ?_|apply YC|(apply O.loadAggB;exact rfl;exact zP;(first|(simp only [Nat.zero_add,Nat.add_zero,Nat.reduceAdd,List.drop_succ_cons,List.drop_zero,List.take_succ_cons,List.take_zero];done)|(simp only [Nat.zero_add,Nat.add_zero,Nat.reduceAdd,List.drop_succ_cons,List.drop_zero,List.take_succ_cons,List.take_zero];exact rfl));exact rfl;exact rfl))
 refine O.call rfl rfl ((wGrows_spec (Blk g6 (csgC csg0 nY nY) 96 (0,0)::Blk g5 [.int .i64 (n:Int),.int .i64 (m:Int),.slice adp ts.length cp] 102 (0,0)::Blk g4 (sgdC x vr vp vq) 87 (0,0)::R) e g d k id seed log s a M ha vr (.slice adp ts.length cp) x.chk n m ts (x1.ent zE) hc hn hm (hv.ent zE) (fun y hy=>(ht y hy).ent zE)).ent zE) ?_;rintro _ _ ⟨rfl,rfl⟩
 by_cases hg:s.growE x.chk n m ts=0
 rotate_left
 ·have hE:s.cosE seed log id x n m ts=s.growE x.chk n m ts:=by unfold WSt.cosE;rw [if_neg (fun q=>q hver),if_pos hg]
  have hS:s.cosS seed log id x n m ts=s:=by unfold WSt.cosS;rw [if_neg (fun q=>q hver),if_pos hg]
  rw [hE,hS]
  generalize s.growE x.chk n m ts=E at *
  refine wB ?_;apply Fin.retC
  ·exact zV
  exact ⟨WitR g d k id seed log s::R,Ent.trans (show Ent _ (witM g d k id s a M R) from zE) (wit_in ha),fun h=>absurd h hg,fun _=>⟨rfl,rfl⟩⟩
 rw [hg];obtain ⟨s1,hs1⟩:∃ s1:WSt,s1=s.grow x.chk:=⟨_,rfl⟩
 have hok1:s1.ok:=by rw [hs1];exact WSt.grow_ok ha.st hc
 have hc1:s1.c=x.chk:=by rw [hs1];exact WSt.grow_c hg
 have hE:s.cosE seed log id x n m ts=if (s1.cos seed id).2=true then 0 else 23:=by unfold WSt.cosE;rw [if_neg (fun q=>q hver),if_neg (fun q=>q hg),← hs1]
 have hS:s.cosS seed log id x n m ts=(s1.cos seed id).1:=by unfold WSt.cosS;rw [if_neg (fun q=>q hver),if_neg (fun q=>q hg),← hs1]
 rw [hE,hS]
 (repeat' first|refine W.meetS (id:=11) (fun _:WMem × Res=>[(0,pt g),(6,pt g6),(7,.int .i64 0)]) (fun i=>Blk g6 (csgC csg0 nY nY) 96 (0,0)::witM g d k id s1 i.1 i.2 R) (fun i=>i.1.ok i.2 seed log s1) ?_ ?_|refine Za ?_|refine Zb ?_|apply Zc|apply Zd|apply Ze|apply Zf|refine ZQ ?_|refine YA ?_|apply YC)
 rotate_left
 ·refine ⟨?_⟩
  (repeat (refine wA ?_;intros))
  refine A.begin (id:=6) [] (Blk g4 (sgdC x vr vp vq) 87 (0,0)::Blk g (a.cells id s) tWit (0,0)::R) Tryz.mixed ?_
  by_cases hgr:s.c.size<x.chk.size
  rotate_left
  ·have hss:s1=s:=by rw [hs1];unfold WSt.grow;rw [if_neg hgr]
   (refine tF 0 ?_;refine tF 1 ?_;refine tL 2 ?_;refine tM 3 ?_;refine tN 4 ?_;refine tF 5 ?_;refine tF 6 ?_;refine tL 7 ?_;refine tk 8 (.bool false) rfl (Val.no (Val.gtr rfl rfl) zn) ?_)
   refine A.done zK ?_;refine wB ?_;rw [hss];exact Fin.meet (a,M) ha zS zE
  have hss:s1={ s with recs:=s.recs++[x.chk],some:=false }:=by rw [hs1];unfold WSt.grow;rw [if_pos hgr]
  have hrl:=recC_length hc
  have hjl:=layP_len (l:=s.recs.map recC) (n:=36) (fun r hr=>by
   obtain ⟨y,hy,rfl⟩:=List.mem_map.1 hr;rw [recC_length (ha.st.right y hy)];exact Nat.le_refl _)
  rw [List.length_map] at hjl
  obtain ⟨p1,p2,p3⟩:=add_plain (b:=s.jb) (m:=recC x.chk) (sy:=s.jb.length) (by unfold WSt.jb;omega)
  (refine tF 0 ?_;refine tF 1 ?_;refine tL 2 ?_;refine tM 3 ?_;refine tN 4 ?_;refine tF 5 ?_;refine tF 6 ?_;refine tL 7 ?_;refine tk 8 (.bool true) rfl (Val.yes (Val.gtr rfl rfl) zy) ?_)
  refine A.done zK ?_;refine wB ?_;refine A.begin (id:=7) [8] (Blk g4 (sgdC x vr vp vq) 87 (0,0)::Blk g (a.cells id s) tWit (0,0)::R) Tryz.mixed ?_
  (refine tM 0 ?_;refine tN 1 ?_;refine tF 2 ?_;refine tL 3 ?_;refine tF 4 ?_;refine tk 5 _ rfl (Val.loadAggB rfl zP zI zX) ?_)
  refine tO 6 ?_;refine Do.call rfl rfl (wrec_spec _ e vr x.chk (x1.ent zE) hc) ?_;rintro _ _ ⟨adr,kr,rfl,rfl⟩;refine ⟨fun _=>zE,?_⟩;have hja:=fun L:List Res=>fun hvL:RdB L (.slice adr (recC x.chk).length kr) (recC x.chk)=>jadd_spec L e a.gj d s.recs.length (diskS s.jb s.jb.length) (recC x.chk) (.slice adr (recC x.chk).length kr) (diskS_ok (by unfold WSt.jb;omega) (Nat.le_refl _)) hvL zo zo
  rw [p1,p2,p3] at hja
  refine tO 7 ?_;refine Do.call rfl rfl (Ct.at2 zP zP (hja _ (RdSl.own zP))) ?_;rintro _ _ ⟨rfl,rfl⟩;refine ⟨fun _=>zE,?_⟩
  ((refine tO 8 ?_;refine dV (Val.assign rfl) ?_))
  refine A.done zK ?_;refine wB ?_;refine O.call rfl rfl (cCopy_spec _ e vr vp vq x (hx.ent zE) hf) ?_;rintro _ _ ⟨N,ur,up,uq,rfl,hN,rfl⟩;refine O.of_sep (RdB.one (hN.root.ent (one_in zP))) fun o4=>?_
  (repeat' first|refine Za ?_|refine Zb ?_|apply Zc|apply Zd|apply Ze|apply Zf|refine Zg ?_|refine Zh ?_|refine Zi ?_|refine Zj ?_|refine Zu ?_|refine Zy ?_|refine Zz ?_|refine ZG ?_|refine ZH ?_|refine ZI (fun _=>?_) fun _=>?_|refine ZP ?_|refine ZQ ?_|refine Yd ?_|refine Ye ?_|refine Yg fun _=>?_|refine Yh fun _=>?_|refine Yz ?_|refine YA ?_|apply YC|apply YE|apply YF|refine YN ?_|refine YQ ?_|refine YR ?_|(apply O.loadAggB;exact rfl;exact zP;(first|(simp only [Nat.zero_add,Nat.add_zero,Nat.reduceAdd,List.drop_succ_cons,List.drop_zero,List.take_succ_cons,List.take_zero];done)|(simp only [Nat.zero_add,Nat.add_zero,Nat.reduceAdd,List.drop_succ_cons,List.drop_zero,List.take_succ_cons,List.take_zero];exact rfl));exact rfl;exact rfl))
  refine O.val _ (Val.fieldA (n:=2) (off:=0) (cs:=sgdC x ur up uq) (ds:=chkC x.chk ur) field87 rfl rfl) rfl ?_;refine wB ?_;have hso:s1.some=false:=by rw [hss]
  obtain ⟨M2,hM2⟩:∃ M2:Res,M2=All [M,N]:=⟨_,rfl⟩
  have hall:Ent [M2] [M]:=by rw [hM2];exact Ent.trans (all_out (M:=[_,_]) (L:=[])) (Ent.cons Ent.nil)
  have hall2:Ent [M2] [N]:=by rw [hM2];exact Ent.trans (all_out (M:=[_,_]) (L:=[])) (Ent.drop (Ent.cons Ent.nil))
  have ha1:WMem.ok { a with vr:=ur } M2 seed log s1:=by
   refine ⟨ha.rseed.ent hall,ha.rlog.ent hall,?_,?_,hok1,ha.sd,ha.lg⟩
   ·rw [hc1];exact hN.root.ent hall2
   ·rw [hss];exact ha.sig.ent hall
  have hjb:s1.jb=s.jb++recP (recC x.chk):=by
   rw [hss];unfold WSt.jb;rw [List.map_append,List.map_cons,List.map_nil,layP_snoc]
  have hrl1:s1.recs.length=s.recs.length+1:=by rw [hss];simp
  have hkk:s1.keys=s.keys:=by rw [hss]
  have hlv:s1.lastV=s.lastV:=by rw [hss]
  refine Fin.meet ({ a with vr:=ur },M2) ha1 zS ?_;dsimp only [witM,WMem.cells];rw [hjb,hrl1,hkk,hlv,hc1,hso,hM2];exact Ent.trans (pull2_all (A:=M) (B:=N) zP zP) zE
 rintro ⟨a1,M1⟩ ha1;dsimp only at ha1 ⊢
 have hc1r:=WSt.c_right hok1;clear ha hE hS
 (repeat' first|refine W.meet27 (id:=17) (fun _:WMem × Res=>[(0,pt g),(6,pt g6),(7,.int .i64 0)]) (fun i=>Blk g6 (csgC csg0 nY nY) 96 (0,0)::witM g d k id (s1.cos seed id).1 i.1 i.2 R) (fun i=>i.1.ok i.2 seed log (s1.cos seed id).1∧(s1.cos seed id).2=true) ?_ ?_)
 ·rintro ⟨a2,M2⟩ ⟨ha2,hcs⟩;dsimp only at ha2 ⊢
  rw [if_pos hcs]
  (repeat' first|refine Za ?_|apply Zc|apply Zd|refine Zg ?_|refine Zh ?_|(apply O.loadAggB;exact rfl;exact zP;(first|(simp only [Nat.zero_add,Nat.add_zero,Nat.reduceAdd,List.drop_succ_cons,List.drop_zero,List.take_succ_cons,List.take_zero];done)|(simp only [Nat.zero_add,Nat.add_zero,Nat.reduceAdd,List.drop_succ_cons,List.drop_zero,List.take_succ_cons,List.take_zero];exact rfl));exact rfl;exact rfl))
  refine O.call rfl rfl (gCopy_spec _ e a2.up a2.uq (s1.cos seed id).1.lastV (ha2.sig.ent (one_in zP)) ha2.st.fits) ?_;rintro _ _ ⟨N,up,uq,rfl,hN,rfl⟩;refine O.of_sep (hN.ent (one_in zP)).parts.one fun o4=>?_
  refine O.of_sep (hN.ent (one_in zP)).path.one fun o5=>?_
  refine wB ?_;apply Fin.retC
  ·exact zV
  exact ⟨N::WitR g d k id seed log (s1.cos seed id).1::R,Ent.trans (show Ent _ (N::witM g d k id (s1.cos seed id).1 a2 M2 R) from zE) (Ent.cons (wit_in ha2)),fun _=>⟨N,up,uq,rfl,hN,rfl⟩,fun h=>absurd rfl h⟩
 refine ⟨?_⟩
 by_cases hso:s1.some=true
 ·have hcos:s1.cos seed id=(s1,true):=by unfold WSt.cos;rw [if_pos hso]
  rw [hcos];dsimp only [witM,WMem.cells];rw [hso];refine wB ?_;refine Fin.meet (a1,M1) ⟨ha1,rfl⟩ zS ?_;simp only [witM,WMem.cells,hso];exact zE
 have hso2:s1.some=false:=by simpa using hso
 by_cases hk:s1.keys<16
 rotate_left
 ·have hk16:s1.keys=16:=by have:=hok1.keys;omega
  have hcos:s1.cos seed id=(s1,false):=by unfold WSt.cos;rw [if_neg hso,if_neg hk]
  rw [hcos];have htk:=ktakeU_spec (Blk g6 (csgC csg0 nY nY) 96 (0,0)::Blk g (a1.cells id s1) tWit (0,0)::M1::Jrn a1.gj d s1.recs.length::Disk d (disk0 s1.jb)::R) e a1.gb a1.gk k 1048576 zo zo;rw [← hk16] at htk
  dsimp only [witM,WMem.cells] at htk ⊢
  rw [hso2] at htk ⊢
  refine wB ?_;refine O.call rfl rfl (htk.ent zE) ?_;rintro _ _ ⟨rfl,rfl⟩;refine wB ?_;apply Fin.retC
  ·exact zV
  refine ⟨WitR g d k id seed log s1::R,Ent.trans ?_ (wit_in ha1),(fun h=>by simp at h),fun _=>⟨rfl,rfl⟩⟩;simp only [witM,WMem.cells,hso2];exact zE
 have hcos:s1.cos seed id=({ s1 with keys:=s1.keys+1,lastV:=signG seed s1.keys id s1.c,some:=true },true):=by unfold WSt.cos;rw [if_neg hso,if_pos hk]
 rw [hcos];have htk:=ktakeD_spec (Blk g6 (csgC csg0 nY nY) 96 (0,0)::Blk g (a1.cells id s1) tWit (0,0)::M1::Jrn a1.gj d s1.recs.length::Disk d (disk0 s1.jb)::R) e a1.gb a1.gk k s1.keys 1048576 hk zo zo;dsimp only [witM,WMem.cells] at htk ⊢
 rw [hso2] at htk ⊢
 refine wB ?_;refine O.call rfl rfl (htk.ent zE) ?_;rintro _ _ ⟨rfl,rfl⟩;refine wB ?_;refine W.keep [(0,pt g),(6,pt g6),(7,.int .i64 0),(10,.int .i64 (s1.keys:Int))] zS ?_;refine A.begin (id:=15) [18,19,20] (Blk g (a1.cells id { s1 with some:=false }) tWit (0,0)::M1::R) Tryz.mixed ?_
 (refine tM 0 ?_;refine tM 1 ?_;refine tN 2 ?_;refine tF 3 ?_;refine tL 4 ?_;refine tM 5 ?_;refine tM 6 ?_;refine tN 7 ?_;refine tF 8 ?_;refine tL 9 ?_;refine tM 10 ?_;refine tN 11 ?_;refine tF 12 ?_;refine tk 13 _ rfl (Val.loadAggB rfl zP zI zX) ?_)
 refine tO 14 ?_;refine Do.call rfl rfl (gSign_spec _ e a1.vs a1.vr seed s1.keys id s1.c (ha1.rseed.ent (one_in zP)) ha1.sd hk hid (ha1.root.ent (one_in zP)) hc1r) ?_;rintro _ _ ⟨N,up,uq,rfl,hN,rfl⟩;refine ⟨fun _=>zE,?_⟩;refine A.of_sep (hN.ent (one_in zP)).parts.one fun o4=>?_
 refine A.of_sep (hN.ent (one_in zP)).path.one fun o5=>?_
 refine tM 15 ?_;refine tk 16 _ rfl (Val.extract rfl rfl) ?_;have hall:Ent [All [M1,N]] [M1]:=Ent.trans (all_out (M:=[_,_]) (L:=[])) (Ent.cons Ent.nil);have hall2:Ent [All [M1,N]] [N]:=Ent.trans (all_out (M:=[_,_]) (L:=[])) (Ent.drop (Ent.cons Ent.nil))
 have hok2:WMem.ok { a1 with up:=up,uq:=uq } (All [M1,N]) seed log { s1 with keys:=s1.keys+1,lastV:=signG seed s1.keys id s1.c,some:=true } :=
  ⟨ha1.rseed.ent hall,ha1.rlog.ent hall,ha1.root.ent hall,hN.ent hall2,⟨hok1.right,hok1.rise,hok1.pos,hk,(signP_right hk).fits⟩,ha1.sd,ha1.lg⟩
 refine A.two 17 18 rfl rfl rfl rfl zK ?_ ?_
 ·refine Do.val (Val.extract rfl rfl) rfl ⟨fun _=>zE,?_⟩;refine tO 18 ?_;refine dV (Val.nilCheck rfl) ?_;refine tO 19 ?_;refine dV (Val.fieldAddr rfl) ?_;refine tO 20 ?_;refine Do.storeAgg rfl rfl rfl zO zU zW ⟨zN,?_⟩;refine A.done zK ?_;refine wB ?_;refine Fin.meet ({ a1 with up:=up,uq:=uq },All [M1,N]) ⟨hok2,rfl⟩ zS ?_;exact Ent.trans (pull2_all (A:=M1) (B:=N) zP zP) zE
 ·refine dV (Val.nilCheck rfl) ?_;refine A.two 17 19 rfl rfl rfl rfl zK ?_ ?_
  ·refine Do.val (Val.extract rfl rfl) rfl ⟨zN,?_⟩;refine tO 19 ?_;refine dV (Val.fieldAddr rfl) ?_;refine tO 20 ?_;refine Do.storeAgg rfl rfl rfl zO zU zW ⟨zN,?_⟩;refine A.done zK ?_;refine wB ?_;refine Fin.meet ({ a1 with up:=up,uq:=uq },All [M1,N]) ⟨hok2,rfl⟩ zS ?_;exact Ent.trans (pull2_all (A:=M1) (B:=N) zP zP) zE
  ·refine dV (Val.fieldAddr rfl) ?_;refine A.two 17 20 rfl rfl rfl rfl zK ?_ ?_
   ·refine Do.val (Val.extract rfl rfl) rfl ⟨zN,?_⟩;refine tO 20 ?_;refine Do.storeAgg rfl rfl rfl zO zU zW ⟨zN,?_⟩;refine A.done zK ?_;refine wB ?_;refine Fin.meet ({ a1 with up:=up,uq:=uq },All [M1,N]) ⟨hok2,rfl⟩ zS ?_;exact Ent.trans (pull2_all (A:=M1) (B:=N) zP zP) zE
   ·refine Do.storeAgg rfl rfl rfl zO zU zW ⟨zN,?_⟩;refine tO 17 ?_;refine Do.val (Val.extract rfl rfl) rfl ⟨zN,?_⟩;refine A.done zK ?_;refine wB ?_;refine Fin.meet ({ a1 with up:=up,uq:=uq },All [M1,N]) ⟨hok2,rfl⟩ zS ?_;exact Ent.trans (pull2_all (A:=M1) (B:=N) zP zP) zE
end Go.Proofs
namespace Go.Proofs
attribute [local irreducible] Bs.Val Bs.Do Bs.O Bs.W Bs.Fin Bs.A Bs.Ct Bs.RdSl Bs.Rd Bs.Sat Bs.Blk Bs.Ob Bs.Own Bs.View Bs.Ent Bs.Ex Bs.All Bs.Pu Bs.Base Bs.sepL Bs.RdA
open Go.Bs
open Tryz
def curC (l:List Chk):Chk:=l.getLast?.getD chk0
theorem curC_snoc (l:List Chk) (c:Chk):curC (l++[c])=c:=by simp [curC]
theorem curC_right {l:List Chk} (h:∀ c∈l,c.right):(curC l).right:=by
 unfold curC
 cases hl:l.getLast? with
 | none=>exact ⟨Nat.zero_le _,sha_length _⟩
 | some c=>exact h c (List.mem_of_getLast? hl)
theorem curC_lt {l:List Chk} {c:Chk} (h:((l++[c]).map (·.size)).Pairwise (·<·)) (h0:0<c.size):(curC l).size<c.size:=by
 unfold curC
 cases hl:l.getLast? with
 | none=>exact h0
 | some z =>
  obtain ⟨A,hA⟩:=List.getLast?_eq_some_iff.1 hl;rw [List.map_append] at h
  exact (List.pairwise_append.1 h).2.2 _ (List.mem_map.2 ⟨z,List.mem_of_getLast? hl,rfl⟩) _ (by simp)
theorem csg0_fits:csg0.sig.fits:=⟨fun x hx=>absurd hx List.not_mem_nil,fun x hx=>absurd hx List.not_mem_nil⟩
theorem csg0_rd (L:List Res):RdSig L nY nY csg0.sig :=
 ⟨⟨[],rfl,RdSl.nil _ _,fun x hx=>absurd hx List.not_mem_nil⟩,⟨[],rfl,RdSl.nil _ _,fun x hx=>absurd hx List.not_mem_nil⟩,⟨by decide,by decide,by decide⟩⟩
theorem pull4_all {L R R' R2 R3:List Res} {A B C D:Res} (p:Pull L A R) (q:Pull R B R') (r:Pull R' C R2) (u:Pull R2 D R3):Ent L (All [A,B,C,D]::R3):=Ent.trans p.out (Ent.trans (Ent.cons (Ent.trans q.out (Ent.cons (Ent.trans r.out (Ent.cons u.out))))) (all_in (M:=[A,B,C,D])))
theorem wOpen_spec (R:List Res) (e:World) (d k id:Nat) (v u:Value) (seed log:Bts) (s:WSt) (hv:RdB R v seed) (hu:RdB R u log) (hsd:seed.length=32) (hlg:log.length=32) (hid:id<4) (hs:s.ok) (hsz:s.recs.length≤1000) :
 Ct prog 234 #[pt d,pt k,.int .i64 (id:Int),v,u] e (Disk d (disk0 s.jb)::Disk k (kDisk s.keys 1048576)::R) (fun v' L'=>∃ g,v'=.tuple #[pt g,.int .i64 0]∧L'=WitR g d k id seed log { s with lastV:=csg0,some:=false }::R):=by
 have hsk:=hs.keys
 have hjl:=layP_len (l:=s.recs.map recC) (n:=36) (fun r hr=>by
  obtain ⟨y,hy,rfl⟩:=List.mem_map.1 hr;rw [recC_length (hs.right y hy)];exact Nat.le_refl _)
 rw [List.length_map] at hjl
 have hrsz:∀ m∈s.recs.map recC,m.length≤65535:=fun m hm=>by
  obtain ⟨y,hy,rfl⟩:=List.mem_map.1 hm;rw [recC_length (hs.right y hy)]
  decide
 have hop:=openP_all (s.recs.map recC) hrsz;have hfr:Ent (Disk d (disk0 s.jb)::Disk k (kDisk s.keys 1048576)::R) R:=zE;refine Ct.of_sep (RdSl.shape (hv.ent hfr) zo) ?_;rintro ⟨⟨av,cv,rfl,-,-,-,-⟩,_⟩;refine Ct.of_sep (RdSl.shape (hu.ent hfr) zo) ?_;rintro ⟨⟨au,cu,rfl,-,-,-,-⟩,_⟩;refine Ct.enter (args:=[_,_,_,_,_]) func234 rfl ntmps234 results234 rfl ?_;refine wB ?_;refine O.call rfl rfl (Ct.at (.succ .zero) (kopenD_spec _ e k s.keys 1048576 hsk zo zo)) ?_;rintro _ _ ⟨gb,gk,rfl,rfl⟩;refine wB ?_;refine O.call rfl rfl (Ct.at (.succ (.succ (.succ .zero))) (jopen0_spec _ e d s.jb (by unfold WSt.jb;omega))) ?_;rintro _ _ (⟨h1,-⟩|⟨-,gj,adr,cr,ts,rfl,hts,rfl⟩)
 ·rw [show openP s.jb=openP (layP (s.recs.map recC)) from rfl,hop] at h1;cases h1
 rw [show openP s.jb=openP (layP (s.recs.map recC)) from rfl,hop] at hts ⊢
 rw [show s.jb.take (layP (s.recs.map recC)).length=s.jb from List.take_length];dsimp only at hts
 have htl:ts.length=s.recs.length:=by have:=congrArg List.length hts;rw [List.length_map,List.length_map] at this;exact this
 refine wB ?_;refine O.call rfl rfl (clone_spec _ e _ seed (hv.ent zE) zo) ?_;rintro _ _ ⟨ads,cs,rfl,rfl⟩
 (repeat (refine wA ?_;intros))
 refine O.call rfl rfl (clone_spec _ e _ log (hu.ent zE) zo) ?_;rintro _ _ ⟨adl,cl,rfl,rfl⟩
 (repeat (refine wA ?_;intros))
 refine O.call rfl rfl (sPublic_spec _ e _ seed (hv.ent zE) hsd) ?_;rintro vp _ ⟨Mp,rfl,hMp⟩;refine O.of_sep (RdSl.shape (hMp.ent (one_in zP)) zo) ?_;rintro ⟨⟨adp,cp,rfl,-,-,-,-⟩,_⟩
 (repeat' first|refine Za ?_|refine Zb ?_|apply Zc|apply Zd|apply Ze|apply Zf|refine Zg ?_|refine Zh ?_|refine Zi ?_|refine Zj ?_|refine Zk ?_|refine Zl ?_|refine Zm ?_|refine Zn ?_|refine Zo ?_|refine Zu ?_|refine Zy ?_|refine Zz ?_|refine ZA ?_|refine ZB ?_|refine ZC (fun _=>?_) fun _=>?_|refine ZD ?_|refine ZE ?_|refine ZJ ?_|refine ZK ?_|refine ZP ?_|refine ZQ ?_|refine ZS ?_|refine ZY ?_|refine ZZ ?_|refine Z6 ?_|refine Yd ?_|refine Ye ?_|refine Yf ?_|refine Yg fun _=>?_|refine Yh fun _=>?_|refine Ym ?_|refine Yw ?_|refine Yx ?_|refine Yy ?_|refine Yz ?_|refine YA ?_|apply YB|apply YC|apply YD|apply YE|apply YF|apply YG|apply YH|apply YI|apply YJ|refine YK ?_|refine YN ?_|refine YQ ?_|refine YR ?_|(apply O.loadAggB;exact rfl;exact zP;(first|(simp only [Nat.zero_add,Nat.add_zero,Nat.reduceAdd,List.drop_succ_cons,List.drop_zero,List.take_succ_cons,List.take_zero];done)|(simp only [Nat.zero_add,Nat.add_zero,Nat.reduceAdd,List.drop_succ_cons,List.drop_zero,List.take_succ_cons,List.take_zero];exact rfl));exact rfl;exact rfl))
 refine O.call rfl rfl (sum_spec _ e nY [] (RdSl.nil _ _) (by decide)) ?_;rintro _ _ ⟨ad0,c0,rfl,rfl⟩;have hsl:=sha_length [];have hc0:curC []=⟨0,sha []⟩:=rfl
 generalize sha []=root0 at *
 (repeat (refine wA ?_;intros))
 rename_i g0;refine W.loop (ι:=Nat × Chk × Option Addr × Nat) (fun i=>[(16,pt g0),(67,.slice adr ts.length cr),(68,.int .i64 (ts.length:Int)),(69,.int .i64 (i.1:Int))]) (fun j=>(fun i:Chk × Option Addr × Nat=>Blk g0 [pt gj,pt gb,.int .i64 (id:Int),.slice ads seed.length cs,.slice adl log.length cl,.slice adp (pubP seed).length cp,.int .i64 (i.1.size:Int),.slice i.2.1 i.1.root.length i.2.2,.int .i64 0,.int .i64 0,nY,nY,.bool false] tWit (0,0)::OwnB (.slice i.2.1 i.1.root.length i.2.2) i.1.root::Items ts::OwnT (.slice adr ts.length cr) ts::OwnB (.slice ads seed.length cs) seed::OwnB (.slice adl log.length cl) log::Mp::Jrn gj d ts.length::Disk d (disk0 s.jb)::KBox gb gk s.keys::Jrn gk k s.keys::Disk k (kDisk s.keys 1048576)::R) j.2) (fun i=>i.1≤ts.length∧i.2.1=curC (s.recs.take i.1)) (fun i=>ts.length - i.1) (0,⟨0,root0⟩,ad0,c0) ⟨Nat.zero_le _,by rw [List.take_zero];exact hc0.symm⟩ zS zE ?_;rintro ⟨i,c,adc,kc⟩ ⟨hi,hcur⟩;dsimp only at hi hcur ⊢
 have hcr:c.right:=by rw [hcur];exact curC_right (fun x hx=>hs.right x (List.mem_of_mem_take hx))
 have hcr1:=hcr.1;have hcr2:=hcr.2
 by_cases hlt:i<ts.length
 rotate_left
 ·rw [List.take_of_length_le zo] at hcur
  obtain ⟨M,hM⟩:∃ M:Res,M=All [OwnB (.slice adc c.root.length kc) c.root,OwnB (.slice ads seed.length cs) seed,OwnB (.slice adl log.length cl) log,Mp]:=⟨_,rfl⟩
  have ho:Ent [M] [OwnB (.slice adc c.root.length kc) c.root,OwnB (.slice ads seed.length cs) seed,OwnB (.slice adl log.length cl) log,Mp]:=by rw [hM];exact all_out (M:=[_,_,_,_]) (L:=[])
  have hsc:WSt.c { s with lastV:=csg0,some:=false }=c:=hcur.symm
  have hok:WMem.ok ⟨gj,gb,gk,.slice ads seed.length cs,.slice adl log.length cl,.slice adp (pubP seed).length cp,.slice adc c.root.length kc,nY,nY⟩ M seed log { s with lastV:=csg0,some:=false } :=
   ⟨(RdSl.own zP).ent ho,(RdSl.own zP).ent ho,by rw [hsc];exact (RdSl.own .zero).ent ho,csg0_rd _,⟨hs.right,hs.rise,hs.pos,hs.keys,csg0_fits⟩,hsd,hlg⟩
  refine wB ?_;refine Fin.ret (WitR g0 d k id seed log { s with lastV:=csg0,some:=false }::R) rfl (Ent.trans ?_ (wit_in hok)) ⟨g0,rfl,rfl⟩;dsimp only [witM,WMem.cells];rw [hsc,hM,← htl];exact Ent.trans (pull4_all (A:=OwnB (.slice adc c.root.length kc) c.root) (B:=OwnB (.slice ads seed.length cs) seed) (C:=OwnB (.slice adl log.length cl) log) (D:=Mp) zP zP zP zP) zE
 have hlr:i<s.recs.length:=by omega
 have hti:(ts[i]'hlt).2=recC (s.recs[i]'hlr):=by
  have:=congrArg (fun l=>l[i]?) hts;simp only [List.getElem?_map,List.getElem?_eq_getElem hlt,List.getElem?_eq_getElem hlr,Option.map_some,Option.some.injEq] at this
  exact this
 have htk:s.recs.take (i+1)=s.recs.take i++[s.recs[i]'hlr]:=List.take_succ_eq_append_getElem hlr;have hri:=hs.right _ (List.getElem_mem hlr);have hpi:=hs.pos _ (List.getElem_mem hlr)
 have hcl:c.size<(s.recs[i]'hlr).size:=by
  rw [hcur];refine curC_lt ?_ hpi;rw [← htk];exact hs.rise.sublist ((List.take_sublist _ _).map _)
 have hcn:curC (s.recs.take (i+1))=s.recs[i]'hlr:=by rw [htk,curC_snoc]
 refine W.of_sep ((RdSl.own (show Pull _ (OwnT (.slice adr ts.length cr) ts) _ from zP)).shape zo) ?_;rintro ⟨⟨ad',c',hv',h3',h4',h5',h6'⟩,_⟩
 cases hv'
 simp only [maxLen] at h4'
 rcases h6' with h6'|⟨gr,or',rfl⟩
 ·omega
 have hrd:∀ L R',Pull L (OwnT (.slice (some ⟨gr,or',none⟩) ts.length cr) ts) R'→Rd L ⟨gr,or'+i,none⟩ (ts[i]'hlt).1:=fun L R' p=>(RdSl.own p).elem (by rw [List.getElem?_map,List.getElem?_eq_getElem hlt];rfl)
 have hit:∀ L R',Pull L (Items ts) R'→RdB L (ts[i]'hlt).1 (ts[i]'hlt).2:=fun L R' p=>Txts.pull p _ (List.getElem_mem hlt)
 generalize s.recs[i]'hlr=n at *
 generalize ts[i]'hlt=y at *
 obtain ⟨yv,b⟩:=y;dsimp only at hrd hit hti
 subst hti;have hn1:=hri.1;have hn2:=hri.2;have hbl:(recC n).length=36:=recC_length hri;have hrec:recC n=be n.size 4++(n.root++[]):=by simp [recC]
 refine W.of_sep (RdB.one (hit _ _ zP)) fun oy=>?_
 refine wB ?_;refine O.load rfl (hrd _ _ zP) rfl ?_;refine wB ?_;refine O.call rfl rfl (read_spec _ e yv (recC n) (hit _ _ zP) zo) ?_;rintro _ _ ⟨gr2,rfl,rfl⟩;rw [hrec];refine wB ?_;refine O.call rfl rfl (rnumB _ e gr2 n.size _ zo) ?_;rintro _ _ ⟨rfl,rfl⟩;refine wB ?_;have hraw:=fun L:List Res=>rrawB L e gr2 32 n.root [] hn2 (by rw [List.append_nil];omega)
 refine O.call rfl rfl (hraw _) ?_;rintro _ _ ⟨adn,kn,rfl,rfl⟩
 (repeat (refine wA ?_;intros))
 refine A.start (id:=15) [] mixed ?_
 (refine tM 0 ?_)
 refine tO 1 ?_;refine Do.call rfl rfl (Ct.at zP (rendB _ e gr2 [])) ?_;rintro _ _ ⟨rfl,rfl⟩;refine ⟨fun _=>zE,A.regrow zE ?_⟩;rw [decide_eq_true rfl]
 (refine tk 2 _ rfl (Val.not_t rfl) ?_;refine tM 3 ?_;refine tkG 4 _ rfl (Val.loadAggR rfl zA zX) ?_)
 refine A.oneG 5 rfl rfl zK ?_;refine Do.call rfl rfl (cRight_spec _ e (.slice adn n.root.length kn) n (RdSl.own zP)) ?_;rintro _ _ ⟨rfl,rfl⟩;refine ⟨fun _=>zE,A.regrow zE ?_⟩;rw [decide_eq_true hri]
 (refine tkG 6 _ rfl (Val.not_t rfl) ?_;refine tk 7 _ rfl (Val.pick_f rfl rfl) ?_;refine tM 8 ?_;refine tkG 9 _ rfl (Val.fieldAddr rfl) ?_;refine tkG 10 _ rfl (Val.load rfl zR) ?_;refine tkG 11 _ rfl (Val.move rfl) ?_;refine tkG 12 _ rfl (Val.nilCheck rfl) ?_;refine tkG 13 _ rfl (Val.fieldAddr rfl) ?_;refine tkG 14 _ rfl (Val.fieldAddr rfl) ?_;refine tkG 15 _ rfl (Val.load rfl zR) ?_;refine tkG 16 (.bool false) rfl (Val.no (Val.leq rfl rfl) zn) ?_;refine tk 17 _ rfl (Val.pick_f rfl rfl) ?_)
 refine A.done zK ?_;refine wB ?_;refine Fin.round (i+1,n,adn,kn) ⟨hlt,hcn.symm⟩ zd zS zE
end Go.Proofs
namespace Go.Proofs
structure AE where
 at':Nat
 ord:Nat
 what:Nat
 deriving DecidableEq
def ae0:AE:=⟨0,0,0⟩
def AE.lt (a b:AE):Bool:=decide (a.at'<b.at'∨(a.at'=b.at'∧a.ord<b.ord))
def AE.fits (a:AE):Prop:=a.at'≤1000000000∧a.ord≤1000000000∧a.what≤1000000000
def swapA (l:List AE) (i j:Nat):List AE:=(l.set i (l.getD j ae0)).set j (l.getD i ae0)
theorem swapA_length (l:List AE) (i j:Nat):(swapA l i j).length=l.length:=by simp [swapA]
def hUp:Nat→List AE→Nat→List AE
 | 0,l,_=>l
 | n+1,l,j=>if j=0 then l else if (l.getD j ae0).lt (l.getD ((j - 1) / 2) ae0) then hUp n (swapA l ((j - 1) / 2) j) ((j - 1) / 2) else l
def hKid (l:List AE) (i n:Nat):Nat:=if 2*i+2<n∧(l.getD (2*i+2) ae0).lt (l.getD (2*i+1) ae0)=true then 2*i+2 else 2*i+1
def hDown:Nat→List AE→Nat→Nat→List AE
 | 0,l,_,_=>l
 | f+1,l,i,n=>if n≤2*i+1 then l else if (l.getD (hKid l i n) ae0).lt (l.getD i ae0) then hDown f (swapA l i (hKid l i n)) (hKid l i n) n else l
def hInit:Nat→List AE→List AE
 | 0,l=>l
 | k+1,l=>hInit k (hDown l.length l k l.length)
def hPush (l:List AE) (a:AE):List AE:=hUp l.length (l++[a]) l.length
def hPop (l:List AE):List AE:=(hDown (l.length - 1) (swapA l 0 (l.length - 1)) 0 (l.length - 1)).take (l.length - 1)
def cancelA (l:List AE) (w:Nat):List AE:=hInit ((l.filter fun a=>decide (a.what≠w)).length / 2) (l.filter fun a=>decide (a.what≠w))
theorem perm_set {α:Type} [DecidableEq α]:∀ (l:List α) (i j:Nat) (hi:i<l.length) (hj:j<l.length),((l.set i l[j]).set j l[i]).Perm l:=fun l i j hi hj=>by
 rw [List.perm_iff_count];intro a
 by_cases h:i=j
 ·subst h;simp
 ·rw [List.count_set (by simpa using hj),List.count_set hi];have h1:(l.set i l[j])[j]'(by simpa using hj)=l[j]:=by simp [List.getElem_set,h]
  rw [h1];have c1:0<List.count l[i] l:=List.count_pos_iff.2 (List.getElem_mem hi);have c2:0<List.count l[j] l:=List.count_pos_iff.2 (List.getElem_mem hj)
  by_cases e1:l[i]=a
  ·by_cases e2:l[j]=a
   ·simp only [e1,e2,beq_self_eq_true,if_true] at c1 c2 ⊢;omega
   ·have e2':(l[j] == a)=false:=by simpa using e2
    simp only [e1,e2',beq_self_eq_true,if_true,Bool.false_eq_true,if_false] at c1 c2 ⊢;omega
  ·have e1':(l[i] == a)=false:=by simpa using e1
   by_cases e2:l[j]=a
   ·simp only [e1',e2,beq_self_eq_true,if_true,Bool.false_eq_true,if_false] at c1 c2 ⊢;omega
   ·have e2':(l[j] == a)=false:=by simpa using e2
    simp only [e1',e2',Bool.false_eq_true,if_false] at c1 c2 ⊢;omega
theorem swapA_perm {l:List AE} {i j:Nat} (hi:i<l.length) (hj:j<l.length):(swapA l i j).Perm l:=by
 have h1:l.getD j ae0=l[j]:=by simp [List.getD,hj]
 have h2:l.getD i ae0=l[i]:=by simp [List.getD,hi]
 unfold swapA;rw [h1,h2];exact perm_set l i j hi hj
theorem hUp_perm:∀ (n:Nat) (l:List AE) (j:Nat),j<l.length→(hUp n l j).Perm l
 | 0,_,_,_=>List.Perm.refl _
 | n+1,l,j,h=>by
  unfold hUp
  split
  ·exact List.Perm.refl _
  ·split
   ·exact (hUp_perm n _ _ (by rw [swapA_length];omega)).trans (swapA_perm (by omega) h)
   ·exact List.Perm.refl _
theorem hKid_lt {l:List AE} {i n:Nat} (h:2*i+1<n):hKid l i n<n∧i<hKid l i n:=by
 unfold hKid
 split<;>omega
theorem hDown_perm:∀ (f:Nat) (l:List AE) (i n:Nat),i<l.length→n≤l.length→(hDown f l i n).Perm l
 | 0,_,_,_,_,_=>List.Perm.refl _
 | f+1,l,i,n,h,hn=>by
  unfold hDown
  split
  ·exact List.Perm.refl _
  ·rename_i h1;obtain ⟨h2,h3⟩:=hKid_lt (l:=l) (i:=i) (n:=n) (by omega)
   split
   ·exact (hDown_perm f _ _ _ (by rw [swapA_length];omega) (by rw [swapA_length];exact hn)).trans (swapA_perm h (by omega))
   ·exact List.Perm.refl _
theorem hInit_perm:∀ (k:Nat) (l:List AE),k≤l.length→(hInit k l).Perm l
 | 0,_,_=>List.Perm.refl _
 | k+1,l,h=>by
  unfold hInit;have h1:=hDown_perm l.length l k l.length (by omega) (Nat.le_refl _);exact (hInit_perm k _ (by rw [h1.length_eq];omega)).trans h1
theorem hPush_perm (l:List AE) (a:AE):(hPush l a).Perm (l++[a]):=hUp_perm _ _ _ (by simp)
theorem cancelA_perm (l:List AE) (w:Nat):(cancelA l w).Perm (l.filter fun a=>decide (a.what≠w)):=hInit_perm _ _ (by omega)
theorem hDown_at:∀ (f:Nat) (l:List AE) (i n k:Nat),i<l.length→n≤l.length→i<n∨n≤2*i+1→n≤k→(hDown f l i n).getD k ae0=l.getD k ae0
 | 0,_,_,_,_,_,_,_,_=>rfl
 | f+1,l,i,n,k,h,hn,hi,hk=>by
  unfold hDown
  split
  ·rfl
  ·rename_i h1;obtain ⟨h2,h3⟩:=hKid_lt (l:=l) (i:=i) (n:=n) (by omega)
   split
   ·rw [hDown_at f _ _ _ k (by rw [swapA_length];omega) (by rw [swapA_length];exact hn) (.inl h2) hk];unfold swapA;rw [List.getD_eq_getElem?_getD,List.getElem?_set_ne (by omega),List.getElem?_set_ne (by omega),← List.getD_eq_getElem?_getD]
   ·rfl
theorem hPop_perm {l:List AE} (h:l≠[]):(l.getD 0 ae0::hPop l).Perm l:=by
 have hl:0<l.length:=List.length_pos_iff.2 h;have h1:=swapA_perm (l:=l) (i:=0) (j:=l.length - 1) hl (by omega);have h2:=hDown_perm (l.length - 1) (swapA l 0 (l.length - 1)) 0 (l.length - 1) (by rw [swapA_length];exact hl) (by rw [swapA_length];omega);have h3:=hDown_at (l.length - 1) (swapA l 0 (l.length - 1)) 0 (l.length - 1) (l.length - 1) (by rw [swapA_length];exact hl) (by rw [swapA_length];omega) (by omega) (Nat.le_refl _)
 have h4:(swapA l 0 (l.length - 1)).getD (l.length - 1) ae0=l.getD 0 ae0:=by
  unfold swapA;rw [List.getD_eq_getElem?_getD,List.getElem?_set_self (by simp;omega)]
  rfl
 have hlen:=(h2.trans h1).length_eq
 generalize hD:hDown (l.length - 1) (swapA l 0 (l.length - 1)) 0 (l.length - 1)=D at *
 have h5:D=D.take (l.length - 1)++[D.getD (l.length - 1) ae0]:=by
  conv=>lhs;rw [← List.take_append_drop (l.length - 1) D]
  congr 1
  have hd:l.length - 1<D.length:=by omega
  rw [List.drop_eq_getElem_cons hd,List.drop_eq_nil_of_le (by omega)]
  simp [List.getD,hd]
 rw [h3,h4] at h5
 have h6:=h2.trans h1;rw [h5] at h6
 unfold hPop;rw [hD];exact (List.perm_append_comm (l₁:=[l.getD 0 ae0]) (l₂:=D.take (l.length - 1))).trans h6
theorem hPop_length {l:List AE} (h:l≠[]):(hPop l).length+1=l.length:=by have:=(hPop_perm h).length_eq;simpa using this
end Go.Proofs
namespace Go.Proofs
open Go.Bs
structure Bun where
 man:Bts
 idx:Nat
 size:Nat
 path:List Bts
 sgd:Sgd
 cosigs:List Csg
def bun0:Bun:=⟨[],0,0,[],⟨⟨0,[]⟩,⟨0,[],[]⟩⟩,[]⟩
structure Bun.wf (b:Bun):Prop where
 man:b.man.length≤65535
 idx:b.idx≤256
 size:b.size≤256
 few:b.path.length≤16
 h32:∀ a∈b.path,a.length=32
 chk:b.sgd.chk.right
 sig:b.sgd.sig.right
 most:b.cosigs.length≤255
 wits:∀ g∈b.cosigs,g.wit<4
 sigs:∀ g∈b.cosigs,g.sig.right
def encGs (gs:List Csg):Bts:=(gs.map encCsg).flatten
def encBun (b:Bun):Bts:=enc b.man++(be b.idx 4++(be b.size 4++(UInt8.ofNat b.path.length::(b.path.flatten++(encSgd b.sgd++(UInt8.ofNat b.cosigs.length::encGs b.cosigs))))))
def proofP (idx size:Nat) (path:List Bts) (leaf root:Bts):Prop:=(path.length≤16∧∀ a∈path,a.length=32)∧leaf.length=32∧idx<size∧path.length=longP size idx∧leadP size idx path leaf=root
instance (idx size:Nat) (path:List Bts) (leaf root:Bts):Decidable (proofP idx size path leaf root):=by unfold proofP;infer_instance
theorem proofP_iff {idx size:Nat} {ts:List Txt} {leaf root:Bts}:(LeadOk (idx:Int) (size:Int) ts leaf∧LeadTo (idx:Int) (size:Int) ts leaf=root)↔proofP idx size (ts.map (·.2)) leaf root:=by
 unfold LeadOk proofP LeadTo rightP;rw [decide_eq_true_iff,List.length_map];have h1:(∀ a∈ts,a.2.length=32)↔∀ a∈ts.map (·.2),a.length=32:=⟨fun h a ha=>by obtain ⟨x,hx,rfl⟩:=List.mem_map.1 ha;exact h x hx,fun h a ha=>h _ (List.mem_map.2 ⟨a,ha,rfl⟩)⟩
 rw [h1];simp only [Int.toNat_natCast]
 constructor
 ·rintro ⟨⟨a,b,c,d,e⟩,f⟩;exact ⟨a,b,by omega,e,f⟩
 ·rintro ⟨a,b,c,e,f⟩;exact ⟨⟨a,b,by omega,by omega,e⟩,f⟩
def chkB (p:Pol) (b:Bun):Int:=if ¬ manOk b.man then 12 else if ¬ b.sgd.ver p.log then 30 else if ¬ (b.size=b.sgd.chk.size∧proofP b.idx b.size b.path (leafP b.man) b.sgd.chk.root) then 31 else if ¬ metP p b.sgd.chk b.cosigs then 33 else 0
abbrev bunC (b:Bun) (vm vp vr va vq vc:Value):List Value:=[vm,.int .i64 (b.idx:Int),.int .i64 (b.size:Int),vp,.int .i64 (b.sgd.chk.size:Int),vr,.int .i64 (b.sgd.sig.idx:Int),va,vq,vc]
structure RdBun (L:List Res) (vm vp vr va vq vc:Value) (b:Bun):Prop where
 man:RdB L vm b.man
 path:RdTs L vp b.path
 sgd:RdSgd L vr va vq b.sgd
 gs:RdGs L vc b.cosigs
theorem RdBun.ent {L L':List Res} {vm vp vr va vq vc:Value} {b:Bun} (h:RdBun L' vm vp vr va vq vc b) (f:Ent L L'):RdBun L vm vp vr va vq vc b:=⟨h.man.ent f,h.path.ent f,h.sgd.ent f,h.gs.ent f⟩
theorem GAt.ok.ent {L L':List Res} {t:GAt} (h:GAt.ok L' t) (f:Ent L L'):GAt.ok L t:=⟨h.rd.ent f,h.small⟩
theorem flatten_len {l:List Bts} {n:Nat} (h:∀ a∈l,a.length=n):l.flatten.length=l.length*n:=by
 induction l with
 | nil=>simp
 | cons x l ih =>
  rw [List.flatten_cons,List.length_append,h x (List.mem_cons_self ..),ih (fun a ha=>h a (List.mem_cons_of_mem _ ha)),List.length_cons,Nat.add_mul];omega
theorem encGs_len {gs:List Csg} (h:∀ g∈gs,g.sig.right):(encGs gs).length=gs.length*2181:=by
 unfold encGs;rw [flatten_len (n:=2181) (fun a ha=>by obtain ⟨g,hg,rfl⟩:=List.mem_map.1 ha;exact encCsg_length (h g hg)),List.length_map]
theorem encBun_len {b:Bun} (h:b.wf):(encBun b).length≤1000000:=by
 have h1:=h.man;have h2:=h.few;have h3:=h.most;unfold encBun;simp only [List.length_append,List.length_cons,be_length,flatten_len h.h32,encSgd_length h.chk h.sig,encGs_len h.sigs,enc]
 omega
structure FW where
 size:Nat
 tries:Nat
 kept:Bool
structure FdSt where
 ag:List AE
 ord:Nat
 st:List FW
 cur:Option Sgd
 kept:List Csg
 done:Sgd
 enough:List Csg
def sgdZ:Sgd:=⟨⟨0,[]⟩,⟨0,[],[]⟩⟩
def fwZ:FW:=⟨0,0,false⟩
def FdSt.curV (s:FdSt):Sgd:=s.cur.getD sgdZ
def fd0 (k:Nat):FdSt:=⟨[],0,List.replicate k fwZ,none,[],sgdZ,[]⟩
def Sgd.fits (x:Sgd):Prop:=x.chk.right∧x.sig.right
structure FdSt.ok (s:FdSt) (k n:Nat):Prop where
 len:s.st.length=k
 fits:∀ a∈s.ag,a.fits∧a.what<k
 uniq:(s.ag.map (·.what)).Nodup
 ord:s.ord≤n
 tries:∀ x∈s.st,x.tries≤n
 sizes:∀ x∈s.st,x.size≤s.curV.chk.size
 cur:∀ x,s.cur=some x→x.fits
 kept:∀ g∈s.kept,g.wit<k∧g.sig.right∧(s.st.getD g.wit fwZ).kept=true
 keptU:(s.kept.map (·.wit)).Nodup
 done:s.enough≠[]→s.done.fits
 doneF:s.done.sig.fits
 enough:∀ g∈s.enough,g.wit<k∧g.sig.right
 enoughU:(s.enough.map (·.wit)).Nodup
def FdSt.plan (s:FdSt) (t w:Nat):FdSt:={ s with ag:=hPush (cancelA s.ag w) ⟨t,s.ord,w⟩,ord:=s.ord+1 }
def FW.off (x:FW):FW:={ x with tries:=0,kept:=false }
def FdSt.off1 (s:FdSt) (now w:Nat):FdSt:=FdSt.plan { s with st:=s.st.set w (s.st.getD w fwZ).off } now w
def FdSt.offN (now:Nat):Nat→FdSt→FdSt
 | 0,s=>s
 | n+1,s=>(s.offN now n).off1 now n
def FdSt.offB (p:Pol) (s:FdSt) (x:Sgd):Prop:=x.ver p.log∧∀ c,s.cur=some c→¬ x.chk.size≤c.chk.size
instance (p:Pol) (s:FdSt) (x:Sgd):Decidable (s.offB p x):=by
 unfold FdSt.offB
 cases s.cur with
 | none=>exact decidable_of_iff (x.ver p.log) ⟨fun h=>⟨h,fun c hc=>by cases hc⟩,fun h=>h.1⟩
 | some c=>exact decidable_of_iff (x.ver p.log∧¬ x.chk.size≤c.chk.size) ⟨fun h=>⟨h.1,fun d hd=>by cases hd;exact h.2⟩,fun h=>⟨h.1,h.2 c rfl⟩⟩
def FdSt.offS (p:Pol) (s:FdSt) (x:Sgd) (now:Nat):FdSt:=if s.offB p x then FdSt.offN now s.st.length { s with cur:=some x,kept:=[] } else s
def dueA (now:Nat):Nat→List AE→List Nat × List AE
 | 0,l=>([],l)
 | n+1,l=>if 0<l.length∧(l.getD 0 ae0).at'≤now then ((l.getD 0 ae0).what::(dueA now n (hPop l)).1,(dueA now n (hPop l)).2) else ([],l)
def FdSt.reqs (s:FdSt) (now:Nat):List (Nat × Nat):=(dueA now s.ag.length s.ag).1.map fun w=>(w,(s.st.getD w fwZ).size)
def FdSt.step1 (retry now:Nat) (s:FdSt) (w:Nat):FdSt :=
 let s2:=s.plan (now+retry*2 ^ min (s.st.getD w fwZ).tries 3) w
 {s2 with st:=s2.st.set w { s2.st.getD w fwZ with tries:=(s2.st.getD w fwZ).tries+1 } }
def FdSt.stepL (retry now:Nat):List (Nat × Nat)→FdSt→FdSt
 | [],s=>s
 | r::l,s=>stepL retry now l (s.step1 retry now r.1)
def FdSt.stepS (retry:Nat) (s:FdSt) (now:Nat):FdSt:=FdSt.stepL retry now (s.reqs now) { s with ag:=(dueA now s.ag.length s.ag).2 }
def FdSt.keep1 (s:FdSt) (w:Nat) (g:Csg):FdSt:={ s with kept:=s.kept++[g],st:=s.st.set w { s.st.getD w fwZ with size:=s.curV.chk.size,kept:=true },ag:=cancelA s.ag w }
def FdSt.keep (p:Pol) (s:FdSt) (w:Nat) (g:Csg):FdSt:=if p.quorum≤(s.kept++[g]).length then { s.keep1 w g with done:=s.curV,enough:=s.kept++[g] } else s.keep1 w g
def FdSt.hears (s:FdSt) (w:Nat):Prop:=s.cur.isSome=true∧w<s.st.length∧(s.st.getD w fwZ).kept=false
instance (s:FdSt) (w:Nat):Decidable (s.hears w):=by unfold FdSt.hears;infer_instance
def FdSt.takes (p:Pol) (s:FdSt) (w:Nat) (g:Csg):Prop:=g.wit=w∧g.ver p s.curV.chk
instance (p:Pol) (s:FdSt) (w:Nat) (g:Csg):Decidable (s.takes p w g):=by unfold FdSt.takes;infer_instance
def FdSt.turns (s:FdSt) (w size:Nat):Prop:=size≤s.curV.chk.size∧size≠(s.st.getD w fwZ).size
instance (s:FdSt) (w size:Nat):Decidable (s.turns w size):=by unfold FdSt.turns;infer_instance
def FdSt.turn (s:FdSt) (w size now:Nat):FdSt:=FdSt.plan { s with st:=s.st.set w { s.st.getD w fwZ with size:=size } } now w
def FdSt.repB (p:Pol) (s:FdSt) (w:Nat) (g:Csg) (size:Nat):Bool:=decide (s.hears w∧(s.takes p w g∨s.turns w size))
def FdSt.repS (p:Pol) (s:FdSt) (w:Nat) (g:Csg) (size now:Nat):FdSt:=if ¬ s.hears w then s else if s.takes p w g then s.keep p w g else if s.turns w size then s.turn w size now else s
theorem plan_ag {l:List AE} {t o w k:Nat} (h:∀ a∈l,a.fits∧a.what<k) (ht:t≤1000000000) (ho:o≤1000000000) (hw:w<k) (hk:k≤1000):∀ a∈hPush (cancelA l w) ⟨t,o,w⟩,a.fits∧a.what<k:=fun a ha=>by
 have h1:=(hPush_perm (cancelA l w) ⟨t,o,w⟩).mem_iff.1 ha;rcases List.mem_append.1 h1 with h1|h1
 ·exact h a (List.mem_filter.1 ((cancelA_perm l w).mem_iff.1 h1)).1
 ·rw [List.mem_singleton.1 h1];exact ⟨⟨ht,ho,by show w≤_;omega⟩,hw⟩
theorem cancel_ag {l:List AE} {w k:Nat} (h:∀ a∈l,a.fits∧a.what<k):∀ a∈cancelA l w,a.fits∧a.what<k:=fun a ha=>h a (List.mem_filter.1 ((cancelA_perm l w).mem_iff.1 ha)).1
theorem cancel_len {l:List AE} {w:Nat}:(cancelA l w).length≤l.length:=by rw [(cancelA_perm l w).length_eq];exact List.length_filter_le _ _
theorem nodup_lt:∀ (k:Nat) (l:List Nat),l.Nodup→(∀ x∈l,x<k)→l.length≤k
 | 0,l,_,h=>by
  cases l with
  | nil=>simp
  | cons a l=>exact absurd (h a (List.mem_cons_self ..)) (Nat.not_lt_zero a)
 | k+1,l,hn,h=>by
  have h1:=nodup_lt k (l.filter fun x=>decide (x≠k)) (hn.filter _) (fun x hx=>by
   obtain ⟨h2,h3⟩:=List.mem_filter.1 hx;have:=h x h2;have:=of_decide_eq_true h3
   omega)
  have h2:l.length=(l.filter fun x=>decide (x≠k)).length+(l.filter fun x=>!decide (x≠k)).length:=by
   rw [← List.length_append,(List.filter_append_perm _ l).length_eq]
  have h3:(l.filter fun x=>!decide (x≠k)).length≤1:=by
   have h4:∀ y∈l.filter (fun x=>!decide (x≠k)),y=k:=fun y hy=>by
    have:=(List.mem_filter.1 hy).2
    simpa using this
   have h5:=hn.filter fun x=>!decide (x≠k)
   cases hq:l.filter (fun x=>!decide (x≠k)) with
   | nil=>simp
   | cons a q =>
    cases q with
    | nil=>simp
    | cons b q =>
     rw [hq] at h4 h5
     have e1:=h4 a (List.mem_cons_self ..);have e2:=h4 b (List.mem_cons_of_mem _ (List.mem_cons_self ..));rw [e1,e2] at h5
     simp at h5
  omega
theorem FdSt.ok.aglen {s:FdSt} {k n:Nat} (h:s.ok k n):s.ag.length≤k:=by
 have:=nodup_lt k (s.ag.map (·.what)) h.uniq (fun x hx=>by obtain ⟨a,ha,rfl⟩:=List.mem_map.1 hx;exact (h.fits a ha).2)
 rwa [List.length_map] at this
theorem FdSt.ok.few {s:FdSt} {k n:Nat} (h:s.ok k n):s.kept.length≤k:=by
 have:=nodup_lt k (s.kept.map (·.wit)) h.keptU (fun x hx=>by obtain ⟨a,ha,rfl⟩:=List.mem_map.1 hx;exact (h.kept a ha).1)
 rwa [List.length_map] at this
theorem FdSt.ok.few2 {s:FdSt} {k n:Nat} (h:s.ok k n):s.enough.length≤k:=by
 have:=nodup_lt k (s.enough.map (·.wit)) h.enoughU (fun x hx=>by obtain ⟨a,ha,rfl⟩:=List.mem_map.1 hx;exact (h.enough a ha).1)
 rwa [List.length_map] at this
theorem FdSt.ok.mono {s:FdSt} {k n m:Nat} (h:s.ok k n) (hm:n≤m):s.ok k m:={ h with ord:=Nat.le_trans h.ord hm,tries:=fun x hx=>Nat.le_trans (h.tries x hx) hm }
theorem fd0_ok (k:Nat):(fd0 k).ok k 0 where
 len:=List.length_replicate
 fits:=fun a ha=>absurd ha List.not_mem_nil
 uniq:=List.nodup_nil
 ord:=Nat.le_refl _
 tries:=fun x hx=>by have:=(List.mem_replicate.1 hx).2;subst this;exact Nat.le_refl _
 sizes:=fun x hx=>by have:=(List.mem_replicate.1 hx).2;subst this;exact Nat.zero_le _
 cur:=fun x hx=>nomatch hx
 kept:=fun g hg=>absurd hg List.not_mem_nil
 keptU:=List.nodup_nil
 done:=fun h=>absurd rfl h
 doneF:=⟨fun x hx=>absurd hx List.not_mem_nil,fun x hx=>absurd hx List.not_mem_nil⟩
 enough:=fun g hg=>absurd hg List.not_mem_nil
 enoughU:=List.nodup_nil
theorem cancel_uniq {l:List AE} {w:Nat} (h:(l.map (·.what)).Nodup):((cancelA l w).map (·.what)).Nodup:=by
 rw [((cancelA_perm l w).map _).nodup_iff];exact h.sublist (List.filter_sublist.map _)
theorem plan_uniq {l:List AE} {t o w:Nat} (h:(l.map (·.what)).Nodup):((hPush (cancelA l w) ⟨t,o,w⟩).map (·.what)).Nodup:=by
 rw [((hPush_perm _ _).map _).nodup_iff,List.map_append];refine List.nodup_append.2 ⟨cancel_uniq h,by simp,fun a ha b hb=>?_⟩;rw [List.map_cons,List.map_nil,List.mem_singleton] at hb
 subst hb;obtain ⟨x,hx,rfl⟩:=List.mem_map.1 ha;exact of_decide_eq_true (List.mem_filter.1 ((cancelA_perm l _).mem_iff.1 hx)).2
theorem FdSt.plan_ok {s:FdSt} {k n t w:Nat} (h:s.ok k n) (ht:t≤1000000000) (hw:w<k) (hk:k≤1000) (hn:n≤1000000):(s.plan t w).ok k (n+1) :=
 {h.mono (Nat.le_succ n) with
  fits:=plan_ag h.fits ht (by have:=h.ord;omega) hw hk
  uniq:=plan_uniq h.uniq
  ord:=by have:=h.ord;show s.ord+1≤n+1;omega }
theorem fw_mem {l:List FW} {w:Nat} (h:w<l.length):l.getD w fwZ∈l:=by
 have:l.getD w fwZ=l[w]:=by simp [List.getD,h]
 rw [this];exact List.getElem_mem h
theorem fw_set {l:List FW} {w:Nat} {x:FW} {P:FW→Prop} (h:∀ y∈l,P y) (hx:P x):∀ y∈l.set w x,P y:=fun y hy=>by
 rcases List.mem_or_eq_of_mem_set hy with hy|rfl
 ·exact h y hy
 ·exact hx
theorem fw_get {l:List FW} {w:Nat} {x:FW} (h:w<l.length) (v:Nat):(l.set w x).getD v fwZ=if v=w then x else l.getD v fwZ:=by
 rw [List.getD_eq_getElem?_getD,List.getElem?_set]
 by_cases e:v=w
 ·subst e;rw [if_pos rfl,if_pos rfl,if_pos h];rfl
 ·rw [if_neg (fun q=>e q.symm),if_neg e,List.getD_eq_getElem?_getD]
theorem FdSt.off1_ok {s:FdSt} {k n now w:Nat} (h:s.ok k n) (hkp:s.kept=[]) (ht:now≤1000000000) (hw:w<k) (hk:k≤1000) (hn:n≤1000000):(s.off1 now w).ok k (n+1):=by
 have hl:w<s.st.length:=by rw [h.len];exact hw
 refine FdSt.plan_ok (s:={ s with st:=s.st.set w (s.st.getD w fwZ).off }) ?_ ht hw hk hn
 exact { h with
  len:=by show (s.st.set w _).length=k;rw [List.length_set];exact h.len
  tries:=fw_set h.tries (Nat.zero_le _)
  sizes:=fw_set h.sizes (show (s.st.getD w fwZ).size≤_ from h.sizes (s.st.getD w fwZ) (fw_mem hl))
  kept:=fun g hg=>by rw [show FdSt.kept { s with st:=s.st.set w (s.st.getD w fwZ).off }=[] from hkp] at hg;cases hg }
theorem FdSt.offN_ok {now k:Nat} (hk:k≤1000) (ht:now≤1000000000):∀ (m:Nat) {s:FdSt} {n:Nat},s.ok k n→s.kept=[]→m≤k→n+m≤1000000→(FdSt.offN now m s).ok k (n+m)∧(FdSt.offN now m s).kept=[]∧(FdSt.offN now m s).st.length=s.st.length∧(FdSt.offN now m s).cur=s.cur
 | 0,s,n,h,hkp,_,_=>⟨h,hkp,rfl,rfl⟩
 | m+1,s,n,h,hkp,hm,hn=>by
  obtain ⟨h1,h2,h3,h4⟩:=FdSt.offN_ok hk ht m h hkp zo zo;have e1:n+m≤1000000:=by omega
  exact ⟨FdSt.off1_ok h1 h2 ht zo hk e1,h2,by show (List.set _ _ _).length=_;rw [List.length_set];exact h3,h4⟩
theorem FdSt.off0_ok {s:FdSt} {k n:Nat} {p:Pol} {x:Sgd} (h:s.ok k n) (hx:x.fits) (hb:s.offB p x):FdSt.ok { s with cur:=some x,kept:=[] } k n :=
 {h with
  sizes:=fun y hy=>by
   have h1:=h.sizes y hy
   show y.size≤x.chk.size
   cases hc:s.cur with
   | none=>rw [show s.curV=sgdZ by unfold FdSt.curV;rw [hc];rfl] at h1;exact Nat.le_trans h1 (Nat.zero_le _)
   | some c =>
    rw [show s.curV=c by unfold FdSt.curV;rw [hc];rfl] at h1
    have:=hb.2 c hc
    omega
  cur:=fun y hy=>by cases hy;exact hx
  kept:=fun g hg=>by cases hg
  keptU:=List.nodup_nil }
theorem FdSt.offS_ok {s:FdSt} {k n now:Nat} {p:Pol} {x:Sgd} (h:s.ok k n) (hx:x.fits) (ht:now≤1000000000) (hk:k≤1000) (hn:n+k≤1000000):(s.offS p x now).ok k (n+k):=by
 unfold FdSt.offS
 split
 ·rename_i hb;rw [h.len];exact (FdSt.offN_ok hk ht k (FdSt.off0_ok h hx hb) rfl (Nat.le_refl _) hn).1
 ·exact h.mono zo
theorem dueA_perm (now:Nat):∀ (m:Nat) (l:List AE),((dueA now m l).1++(dueA now m l).2.map (·.what)).Perm (l.map (·.what))∧∀ a∈(dueA now m l).2,a∈l
 | 0,l=>⟨List.Perm.refl _,fun a ha=>ha⟩
 | m+1,l=>by
  unfold dueA
  split
  ·rename_i h;have hne:l≠[]:=fun q=>by rw [q] at h;simp at h
   obtain ⟨h1,h2⟩:=dueA_perm now m (hPop l);have h3:=hPop_perm hne;refine ⟨?_,fun a ha=>h3.mem_iff.1 (List.mem_cons_of_mem _ (h2 a ha))⟩;refine List.Perm.trans (List.Perm.cons _ h1) ?_;exact h3.map (·.what)
  ·exact ⟨List.Perm.refl _,fun a ha=>ha⟩
theorem FdSt.due_ok {s:FdSt} {k n now:Nat} (h:s.ok k n):FdSt.ok { s with ag:=(dueA now s.ag.length s.ag).2 } k n∧(∀ r∈s.reqs now,r.1<k∧r.2≤s.curV.chk.size)∧(s.reqs now).length≤k:=by
 obtain ⟨h1,h2⟩:=dueA_perm now s.ag.length s.ag;have hu:=h1.nodup_iff.2 h.uniq
 have hm:∀ w∈(dueA now s.ag.length s.ag).1,w<k:=fun w hw=>by
  have:=h1.mem_iff.1 (List.mem_append_left _ hw);obtain ⟨a,ha,rfl⟩:=List.mem_map.1 this;exact (h.fits a ha).2
 refine ⟨{ h with fits:=fun a ha=>h.fits a (h2 a ha),uniq:=(List.nodup_append.1 hu).2.1 },fun r hr=>?_,?_⟩
 ·obtain ⟨w,hw,rfl⟩:=List.mem_map.1 hr;exact ⟨hm w hw,h.sizes _ (fw_mem (by rw [h.len];exact hm w hw))⟩
 ·unfold FdSt.reqs;rw [List.length_map];exact nodup_lt k _ (List.nodup_append.1 hu).1 hm
theorem pow3_le {n:Nat}:2 ^ min n 3≤8:=by
 have:min n 3≤3:=Nat.min_le_right _ _
 calc 2 ^ min n 3≤2 ^ 3:=Nat.pow_le_pow_right zo this
  _=8:=rfl
theorem FdSt.step1_ok {s:FdSt} {k n retry now w:Nat} (h:s.ok k n) (hr:retry≤100) (ht:now≤10000000) (hw:w<k) (hk:k≤1000) (hn:n≤1000000):(s.step1 retry now w).ok k (n+1)∧(s.step1 retry now w).curV=s.curV:=by
 have hp:retry*2 ^ min (s.st.getD w fwZ).tries 3≤800:=by
  have:=Nat.mul_le_mul hr (pow3_le (n:=(s.st.getD w fwZ).tries));omega
 have h2:=FdSt.plan_ok (t:=now+retry*2 ^ min (s.st.getD w fwZ).tries 3) h zo hw hk hn;have hl:w<s.st.length:=by rw [h.len];exact hw
 refine ⟨?_,rfl⟩
 exact { h2 with
  len:=by show (s.st.set w _).length=k;rw [List.length_set];exact h.len
  tries:=fw_set h2.tries (by have:=h.tries _ (fw_mem hl);show (s.st.getD w fwZ).tries+1≤n+1;omega)
  sizes:=fw_set h2.sizes (show (s.st.getD w fwZ).size≤_ from h.sizes (s.st.getD w fwZ) (fw_mem hl))
  kept:=fun g hg=>by
   obtain ⟨h3,h4,h5⟩:=h.kept g hg;refine ⟨h3,h4,?_⟩
   show ((s.st.set w _).getD g.wit fwZ).kept=true
   rw [fw_get hl]
   split
   ·rename_i e;rw [e] at h5;exact h5
   ·exact h5 }
theorem FdSt.stepL_ok {k retry now:Nat} (hr:retry≤100) (ht:now≤10000000) (hk:k≤1000):∀ (l:List (Nat × Nat)) {s:FdSt} {n:Nat},s.ok k n→(∀ r∈l,r.1<k)→n+l.length≤1000000→(FdSt.stepL retry now l s).ok k (n+l.length)∧(FdSt.stepL retry now l s).curV=s.curV
 | [],s,n,h,_,_=>⟨h,rfl⟩
 | r::l,s,n,h,hl,hn=>by
  rw [List.length_cons] at hn
  obtain ⟨h1,h2⟩:=FdSt.step1_ok (w:=r.1) h hr ht (hl r (List.mem_cons_self ..)) hk zo;obtain ⟨h3,h4⟩:=FdSt.stepL_ok hr ht hk l h1 (fun x hx=>hl x (List.mem_cons_of_mem _ hx)) zo;exact ⟨h3.mono (by rw [List.length_cons];omega),h4.trans h2⟩
theorem FdSt.stepS_ok {s:FdSt} {k n retry now:Nat} (h:s.ok k n) (hr:retry≤100) (ht:now≤10000000) (hk:k≤1000) (hn:n+k≤1000000):(s.stepS retry now).ok k (n+k):=by
 obtain ⟨h1,h2,h3⟩:=FdSt.due_ok (now:=now) h;exact (FdSt.stepL_ok hr ht hk (s.reqs now) h1 (fun r hr=>(h2 r hr).1) zo).1.mono zo
theorem FdSt.keep1_ok {s:FdSt} {k n w:Nat} {g:Csg} (h:s.ok k n) (hw:w<k) (hg:g.wit=w) (hr:g.sig.right) (hkf:(s.st.getD w fwZ).kept=false):(s.keep1 w g).ok k n:=by
 have hl:w<s.st.length:=by rw [h.len];exact hw
 exact { h with
  len:=by show (s.st.set w _).length=k;rw [List.length_set];exact h.len
  fits:=cancel_ag h.fits
  uniq:=cancel_uniq h.uniq
  tries:=fw_set h.tries (show (s.st.getD w fwZ).tries≤_ from h.tries (s.st.getD w fwZ) (fw_mem hl))
  sizes:=fw_set h.sizes (Nat.le_refl _)
  kept:=fun q hq=>by
   show q.wit<k∧q.sig.right∧((s.st.set w _).getD q.wit fwZ).kept=true
   rw [fw_get hl];rcases List.mem_append.1 hq with hq|hq
   ·obtain ⟨h3,h4,h5⟩:=h.kept q hq;refine ⟨h3,h4,?_⟩
    split
    ·rfl
    ·exact h5
   ·rw [List.mem_singleton.1 hq];exact ⟨by rw [hg];exact hw,hr,by rw [if_pos hg]⟩
  keptU:=by
   show ((s.kept++[g]).map (·.wit)).Nodup
   rw [List.map_append];refine List.nodup_append.2 ⟨h.keptU,by simp,fun a ha b hb=>?_⟩;rw [List.map_cons,List.map_nil,List.mem_singleton] at hb
   subst hb;rintro rfl;obtain ⟨q,hq,hqe⟩:=List.mem_map.1 ha;have h5:=(h.kept q hq).2.2;rw [hqe,hg,hkf] at h5
   cases h5 }
theorem FdSt.keep_ok {s:FdSt} {k n w:Nat} {g:Csg} {p:Pol} (h:s.ok k n) (hw:w<k) (hg:g.wit=w) (hr:g.sig.right) (hh:s.hears w):(s.keep p w g).ok k n:=by
 have h1:=FdSt.keep1_ok h hw hg hr hh.2.2;unfold FdSt.keep
 split
 ·obtain ⟨c,hc⟩:=Option.isSome_iff_exists.1 hh.1;have hcv:s.curV=c:=by unfold FdSt.curV;rw [hc];rfl
  have hcf:=h.cur c hc
  exact { h1 with
   done:=fun _=>by show s.curV.fits;rw [hcv];exact hcf
   doneF:=by show s.curV.sig.fits;rw [hcv];exact hcf.2.fits
   enough:=fun q hq=>⟨(h1.kept q hq).1,(h1.kept q hq).2.1⟩
   enoughU:=h1.keptU }
 ·exact h1
theorem FdSt.turn_ok {s:FdSt} {k n w size now:Nat} (h:s.ok k n) (hw:w<k) (hs:size≤s.curV.chk.size) (ht:now≤1000000000) (hk:k≤1000) (hn:n≤1000000):(s.turn w size now).ok k (n+1):=by
 have hl:w<s.st.length:=by rw [h.len];exact hw
 refine FdSt.plan_ok (s:={ s with st:=s.st.set w { s.st.getD w fwZ with size:=size } }) ?_ ht hw hk hn
 exact { h with
  len:=by show (s.st.set w _).length=k;rw [List.length_set];exact h.len
  tries:=fw_set h.tries (show (s.st.getD w fwZ).tries≤_ from h.tries (s.st.getD w fwZ) (fw_mem hl))
  sizes:=fw_set h.sizes hs
  kept:=fun g hg=>by
   obtain ⟨h3,h4,h5⟩:=h.kept g hg;refine ⟨h3,h4,?_⟩
   show ((s.st.set w _).getD g.wit fwZ).kept=true
   rw [fw_get hl]
   split
   ·rename_i e;rw [e] at h5;exact h5
   ·exact h5 }
theorem FdSt.repS_ok {s:FdSt} {k n w size now:Nat} {g:Csg} {p:Pol} (h:s.ok k n) (hr:g.ver p s.curV.chk→g.sig.right) (ht:now≤1000000000) (hk:k≤1000) (hn:n≤1000000):(s.repS p w g size now).ok k (n+1):=by
 unfold FdSt.repS
 split
 ·exact h.mono zo
 ·rename_i hh;have hh2:=Decidable.not_not.1 hh;have hw:w<k:=by have:=hh2.2.1;rw [h.len] at this;exact this
  split
  ·rename_i htk;exact (FdSt.keep_ok h hw htk.1 (hr htk.2) hh2).mono zo
  ·split
   ·rename_i htn;exact FdSt.turn_ok h hw htn.1 ht hk hn
   ·exact h.mono zo
end Go.Proofs
namespace Go.Proofs
attribute [local irreducible] Bs.Val Bs.Do Bs.O Bs.W Bs.Fin Bs.A Bs.Ct Bs.RdSl Bs.Rd Bs.Sat Bs.Blk Bs.Ob Bs.Own Bs.View Bs.Ent Bs.Ex Bs.All Bs.Pu Bs.Base Bs.sepL Bs.RdA
open Go.Bs
open Tryz
theorem uPolicy_spec (R:List Res) (e:World) (vl vw:Value) (p:Pol) (hp:RdPol R vl vw p) (hl:p.log.length≤1000000) (hn:p.wits.length≤1000) (hb:∀ b∈p.wits,b.length≤1000000) :
 Ct prog 117 #[.agg (polC p vl vw).toArray] e R (fun v' L'=>∃ (M:Res) (ul uw:Value),v'=.agg (polC p ul uw).toArray∧RdPol [M] ul uw p∧L'=M::R):=by
 refine Ct.of_sep (RdB.one hp.log) fun o1=>?_
 refine Ct.of_sep hp.wits.one fun o2=>?_
 obtain ⟨ts,hts,hsl,htt⟩:=hp.wits;have htl:ts.length=p.wits.length:=by rw [← hts,List.length_map]
 refine Ct.of_sep (hsl.shape zo) ?_;rintro ⟨⟨adw,cw,rfl,h3,h4,h5,h6⟩,_⟩;simp only [maxLen] at h4
 refine Ct.enterC (args:=[_]) func117 rfl ntmps117 results117 rfl ?_
 (repeat' first|refine W.meetS (id:=2) (fun j:Nat × Nat × Nat × Option Addr × Nat=>[(1,pt j.1),(2,pt j.2.1),(3,pt j.2.2.1)]) (fun j=>Blk j.2.2.1 [.slice j.2.2.2.1 p.log.length j.2.2.2.2,nY,.int .i64 (p.quorum:Int)] 106 (0,0)::OwnB (.slice j.2.2.2.1 p.log.length j.2.2.2.2) p.log::Blk j.1 (polC p vl (.slice adw ts.length cw)) 106 (0,0)::Blk j.2.1 [nY,nY,.int .i64 0] 106 (0,0)::R) (fun _=>True) ?_ ?_|apply Zc|apply Zd|apply Ze|apply Zf|refine Yg fun _=>?_|refine Yh fun _=>?_|fail)
 rotate_left
 ·refine ⟨?_⟩;rename_i g1 g2
  (repeat' first|refine Za ?_|refine Zb ?_|apply Zc|apply Zd|apply Ze|apply Zf|refine Zh ?_|refine Zi ?_|refine Zj ?_|refine Zk ?_|refine ZA ?_|refine ZB ?_|refine ZC (fun _=>?_) fun _=>?_|refine ZS ?_|refine Yd ?_|refine Ye ?_|refine Yg fun _=>?_|refine Yh fun _=>?_|refine Yi fun _=>?_|refine Ym ?_|refine Yw ?_|refine Yx ?_|refine Yy ?_|refine Yz ?_|refine YA ?_|apply YB|apply YC|apply YD|apply YE|apply YF|apply YG|apply YH|apply YI|apply YJ|refine YK ?_|refine YQ ?_|refine YR ?_|(apply O.loadAggB;exact rfl;exact zP;(first|(simp only [Nat.zero_add,Nat.add_zero,Nat.reduceAdd,List.drop_succ_cons,List.drop_zero,List.take_succ_cons,List.take_zero];done)|(simp only [Nat.zero_add,Nat.add_zero,Nat.reduceAdd,List.drop_succ_cons,List.drop_zero,List.take_succ_cons,List.take_zero];exact rfl));exact rfl;exact rfl))
  refine A.begin (id:=1) [7] (Blk g1 (polC p vl (.slice adw ts.length cw)) 106 (0,0)::R) mixed ?_
  (refine tF 0 ?_;refine tL 1 ?_;refine tF 3 ?_;refine tL 4 ?_)
  refine A.two 2 6 rfl rfl rfl rfl zK ?_ ?_
  ·refine Do.call rfl rfl (clone_spec _ e vl p.log (hp.log.ent zE) zo) ?_;rintro _ _ ⟨ad,c,rfl,rfl⟩;refine ⟨fun _=>zE,?_⟩;refine tk 5 _ rfl (Val.build rfl zF) ?_;refine tO 6 ?_;refine Do.alloc (cs:=[nY,nY,.int .i64 0]) rfl rfl fun g3=>⟨fun _=>zE,?_⟩
   refine tO 7 ?_;refine zg ?_;refine ⟨zN,?_⟩;refine A.done zK ?_;exact Fin.meet (g1,g2,g3,ad,c) trivial zS zE
  ·refine Do.alloc (cs:=[nY,nY,.int .i64 0]) rfl rfl fun g3=>⟨fun _=>zE,?_⟩
   refine tO 2 ?_;refine Do.call rfl rfl (clone_spec _ e vl p.log (hp.log.ent zE) zo) ?_;rintro _ _ ⟨ad,c,rfl,rfl⟩;refine ⟨fun _=>zE,?_⟩;refine tk 5 _ rfl (Val.build rfl zF) ?_;refine tO 7 ?_;refine zg ?_;refine ⟨zN,?_⟩;refine A.done zK ?_;exact Fin.meet (g1,g2,g3,ad,c) trivial zS zE
 rintro ⟨g1,g2,g3,adl,cl⟩ _;dsimp only;refine wB ?_;refine W.loop (ι:=Nat × List Txt × Option Addr × Nat) (fun j=>[(2,pt g2),(3,pt g3),(13,.slice adw ts.length cw),(14,.int .i64 (ts.length:Int)),(15,.int .i64 (j.1:Int))]) (fun j=>Blk g3 [.slice adl p.log.length cl,.slice j.2.2.1 j.2.1.length j.2.2.2,.int .i64 (p.quorum:Int)] 106 (0,0)::OwnT (.slice j.2.2.1 j.2.1.length j.2.2.2) j.2.1::Items j.2.1::OwnB (.slice adl p.log.length cl) p.log::Blk g2 [nY,nY,.int .i64 0] 106 (0,0)::R) (fun j=>j.1≤ts.length∧j.2.1.map (·.2)=p.wits.take j.1) (fun j=>ts.length - j.1) (0,[],none,0) ⟨Nat.zero_le _,rfl⟩ zS (Ent.trans (items_nil) (Ent.trans (own_nil tTxts 1) zE)) ?_;rintro ⟨j,us,adu,cu⟩ ⟨hj,hus⟩;dsimp only at hj hus ⊢
 have hul:us.length=j:=by have:=congrArg List.length hus;rw [List.length_map,List.length_take] at this;omega
 by_cases hlt:j<ts.length
 rotate_left
 ·rw [List.take_of_length_le zo] at hus
  obtain ⟨M,hM⟩:∃ M:Res,M=All [OwnB (.slice adl p.log.length cl) p.log,OwnT (.slice adu us.length cu) us,Items us]:=⟨_,rfl⟩
  have ho:Ent [M] [OwnB (.slice adl p.log.length cl) p.log,OwnT (.slice adu us.length cu) us,Items us]:=by rw [hM];exact all_out (M:=[_,_,_]) (L:=[])
  refine wB ?_;apply Fin.retC
  ·exact zV
  exact ⟨M::R,Ent.trans (show Ent _ (OwnB (.slice adl p.log.length cl) p.log::OwnT (.slice adu us.length cu) us::Items us::R) from zE) (by rw [hM];exact all_in (M:=[_,_,_])),M,_,_,rfl,⟨(RdSl.own .zero).ent ho,RdTs.ent ⟨us,hus,RdSl.own (.succ .zero),Txts.pull (.succ (.succ .zero))⟩ ho⟩,rfl⟩
 rcases h6 with h6|⟨gg,og,rfl⟩
 ·omega
 have hgk:j<p.wits.length:=by omega
 have hr:Rd R ⟨gg,og+j,none⟩ (ts[j]'hlt).1:=hsl.elem (by rw [List.getElem?_map,List.getElem?_eq_getElem hlt];rfl);have hx:=htt _ (List.getElem_mem hlt)
 have hgi:(ts[j]'hlt).2=p.wits[j]'hgk:=by
  have:=congrArg (fun l=>l[j]?) hts;simp only [List.getElem?_map,List.getElem?_eq_getElem hlt,List.getElem?_eq_getElem hgk,Option.map_some,Option.some.injEq] at this
  exact this
 have htk:p.wits.take (j+1)=p.wits.take j++[p.wits[j]'hgk]:=List.take_succ_eq_append_getElem hgk;have hbi:=hb _ (List.getElem_mem hgk);rw [← hgi] at htk hbi
 generalize ts[j]'hlt=y at *
 obtain ⟨yv,x⟩:=y;dsimp only at hr hx htk hbi
 refine W.of_sep (RdB.one (hx.ent zE)) fun o3=>?_
 (repeat' first|(refine O.load rfl (hr.ent zE) rfl ?_)|refine Zb ?_|apply Zc|apply Zd|apply Ze|apply Zf|refine ZA ?_|refine Yw ?_|refine Yz ?_|apply YB|apply YC)
 refine A.begin (id:=5) [6,7] (Blk g3 [.slice adl p.log.length cl,.slice adu us.length cu,.int .i64 (p.quorum:Int)] 106 (0,0)::R) mixed ?_
 (refine tF 0 ?_;refine tL 1 ?_;refine tM 2 ?_)
 refine tO 3 ?_;refine Do.call rfl rfl (clone_spec _ e yv x (hx.ent zE) zo) ?_;rintro _ _ ⟨adx,cx,rfl,rfl⟩;refine ⟨fun _=>zE,?_⟩;refine tO 4 ?_;refine Do.buildSlice (n:=1) (cs:=[.slice adx x.length cx]) rfl rfl rfl rfl zQ rfl (fun gb=>⟨fun _=>zE,?_⟩);refine tO 5 ?_;refine Do.append rfl rfl rfl (show Pull _ (OwnT (.slice adu us.length cu) us) _ from zP) (RdSl.blkN (n:=1) (c:=1) zP rfl zl) rfl rfl zO zm zo fun ad1 k1 _=>⟨fun _=>zE,?_⟩
 refine tO 6 ?_;refine dV (Val.fieldAddr rfl) ?_;refine tO 7 ?_;refine zs1 ?_;refine ⟨zN,?_⟩;refine A.done zK ?_;refine wB ?_;refine Fin.round (j+1,us++[(.slice adx x.length cx,x)],ad1,k1) ⟨hlt,by dsimp only;rw [htk,List.map_append,hus];rfl⟩ zd zS ?_;simp only [OwnT,List.length_append,List.length_singleton,List.map_append,List.map_cons,List.map_nil];exact Ent.trans (Ent.trans (show Ent _ (OwnB (.slice adx x.length cx) x::Items us::Own tTxts 1 (.slice ad1 (us.length+1) k1) (us.length+1) (us.map (·.1)++[.slice adx x.length cx])::Blk g3 [.slice adl p.log.length cl,.slice ad1 (us.length+1) k1,.int .i64 (p.quorum:Int)] 106 (0,0)::OwnB (.slice adl p.log.length cl) p.log::Blk g2 [nY,nY,.int .i64 0] 106 (0,0)::R) from zE) grow_items) zE
theorem fPolicy_spec (R:List Res) (e:World) (vl vw:Value) (p:Pol) (hp:RdPol R vl vw p) (hl:p.log.length≤1000000) (hn:p.wits.length≤1000) (hb:∀ b∈p.wits,b.length≤1000000) :
 Ct prog 235 #[.agg (polC p vl vw).toArray] e R (fun v' L'=>∃ (M:Res) (ul uw:Value),v'=.agg (polC p ul uw).toArray∧RdPol [M] ul uw p∧L'=M::R):=by
 refine Ct.of_sep (RdB.one hp.log) fun o1=>?_
 refine Ct.of_sep hp.wits.one fun o2=>?_
 obtain ⟨ts,hts,hsl,htt⟩:=hp.wits;have htl:ts.length=p.wits.length:=by rw [← hts,List.length_map]
 refine Ct.of_sep (hsl.shape zo) ?_;rintro ⟨⟨adw,cw,rfl,h3,h4,h5,h6⟩,_⟩;simp only [maxLen] at h4
 refine Ct.enterC (args:=[_]) func235 rfl ntmps235 results235 rfl ?_
 (repeat' first|refine W.meetS (id:=2) (fun j:Nat × Nat × Nat × Option Addr × Nat=>[(1,pt j.1),(2,pt j.2.1),(3,pt j.2.2.1)]) (fun j=>Blk j.2.2.1 [.slice j.2.2.2.1 p.log.length j.2.2.2.2,nY,.int .i64 (p.quorum:Int)] 106 (0,0)::OwnB (.slice j.2.2.2.1 p.log.length j.2.2.2.2) p.log::Blk j.1 (polC p vl (.slice adw ts.length cw)) 106 (0,0)::Blk j.2.1 [nY,nY,.int .i64 0] 106 (0,0)::R) (fun _=>True) ?_ ?_|apply Zc|apply Zd|apply Ze|apply Zf|refine Yg fun _=>?_|refine Yh fun _=>?_|fail)
 rotate_left
 ·refine ⟨?_⟩;rename_i g1 g2
  (repeat' first|refine Za ?_|refine Zb ?_|apply Zc|apply Zd|apply Ze|apply Zf|refine Zh ?_|refine Zi ?_|refine Zj ?_|refine Zk ?_|refine ZA ?_|refine ZB ?_|refine ZC (fun _=>?_) fun _=>?_|refine ZS ?_|refine Yd ?_|refine Ye ?_|refine Yg fun _=>?_|refine Yh fun _=>?_|refine Yi fun _=>?_|refine Ym ?_|refine Yw ?_|refine Yx ?_|refine Yy ?_|refine Yz ?_|refine YA ?_|apply YB|apply YC|apply YD|apply YE|apply YF|apply YG|apply YH|apply YI|apply YJ|refine YK ?_|refine YQ ?_|refine YR ?_|(apply O.loadAggB;exact rfl;exact zP;(first|(simp only [Nat.zero_add,Nat.add_zero,Nat.reduceAdd,List.drop_succ_cons,List.drop_zero,List.take_succ_cons,List.take_zero];done)|(simp only [Nat.zero_add,Nat.add_zero,Nat.reduceAdd,List.drop_succ_cons,List.drop_zero,List.take_succ_cons,List.take_zero];exact rfl));exact rfl;exact rfl))
  refine A.begin (id:=1) [7] (Blk g1 (polC p vl (.slice adw ts.length cw)) 106 (0,0)::R) mixed ?_
  (refine tF 0 ?_;refine tL 1 ?_;refine tF 3 ?_;refine tL 4 ?_)
  refine A.two 2 6 rfl rfl rfl rfl zK ?_ ?_
  ·refine Do.call rfl rfl (clone_spec _ e vl p.log (hp.log.ent zE) zo) ?_;rintro _ _ ⟨ad,c,rfl,rfl⟩;refine ⟨fun _=>zE,?_⟩;refine tk 5 _ rfl (Val.build rfl zF) ?_;refine tO 6 ?_;refine Do.alloc (cs:=[nY,nY,.int .i64 0]) rfl rfl fun g3=>⟨fun _=>zE,?_⟩
   refine tO 7 ?_;refine zg ?_;refine ⟨zN,?_⟩;refine A.done zK ?_;exact Fin.meet (g1,g2,g3,ad,c) trivial zS zE
  ·refine Do.alloc (cs:=[nY,nY,.int .i64 0]) rfl rfl fun g3=>⟨fun _=>zE,?_⟩
   refine tO 2 ?_;refine Do.call rfl rfl (clone_spec _ e vl p.log (hp.log.ent zE) zo) ?_;rintro _ _ ⟨ad,c,rfl,rfl⟩;refine ⟨fun _=>zE,?_⟩;refine tk 5 _ rfl (Val.build rfl zF) ?_;refine tO 7 ?_;refine zg ?_;refine ⟨zN,?_⟩;refine A.done zK ?_;exact Fin.meet (g1,g2,g3,ad,c) trivial zS zE
 rintro ⟨g1,g2,g3,adl,cl⟩ _;dsimp only;refine wB ?_;refine W.loop (ι:=Nat × List Txt × Option Addr × Nat) (fun j=>[(2,pt g2),(3,pt g3),(13,.slice adw ts.length cw),(14,.int .i64 (ts.length:Int)),(15,.int .i64 (j.1:Int))]) (fun j=>Blk g3 [.slice adl p.log.length cl,.slice j.2.2.1 j.2.1.length j.2.2.2,.int .i64 (p.quorum:Int)] 106 (0,0)::OwnT (.slice j.2.2.1 j.2.1.length j.2.2.2) j.2.1::Items j.2.1::OwnB (.slice adl p.log.length cl) p.log::Blk g2 [nY,nY,.int .i64 0] 106 (0,0)::R) (fun j=>j.1≤ts.length∧j.2.1.map (·.2)=p.wits.take j.1) (fun j=>ts.length - j.1) (0,[],none,0) ⟨Nat.zero_le _,rfl⟩ zS (Ent.trans (items_nil) (Ent.trans (own_nil tTxts 1) zE)) ?_;rintro ⟨j,us,adu,cu⟩ ⟨hj,hus⟩;dsimp only at hj hus ⊢
 have hul:us.length=j:=by have:=congrArg List.length hus;rw [List.length_map,List.length_take] at this;omega
 by_cases hlt:j<ts.length
 rotate_left
 ·rw [List.take_of_length_le zo] at hus
  obtain ⟨M,hM⟩:∃ M:Res,M=All [OwnB (.slice adl p.log.length cl) p.log,OwnT (.slice adu us.length cu) us,Items us]:=⟨_,rfl⟩
  have ho:Ent [M] [OwnB (.slice adl p.log.length cl) p.log,OwnT (.slice adu us.length cu) us,Items us]:=by rw [hM];exact all_out (M:=[_,_,_]) (L:=[])
  refine wB ?_;apply Fin.retC
  ·exact zV
  exact ⟨M::R,Ent.trans (show Ent _ (OwnB (.slice adl p.log.length cl) p.log::OwnT (.slice adu us.length cu) us::Items us::R) from zE) (by rw [hM];exact all_in (M:=[_,_,_])),M,_,_,rfl,⟨(RdSl.own .zero).ent ho,RdTs.ent ⟨us,hus,RdSl.own (.succ .zero),Txts.pull (.succ (.succ .zero))⟩ ho⟩,rfl⟩
 rcases h6 with h6|⟨gg,og,rfl⟩
 ·omega
 have hgk:j<p.wits.length:=by omega
 have hr:Rd R ⟨gg,og+j,none⟩ (ts[j]'hlt).1:=hsl.elem (by rw [List.getElem?_map,List.getElem?_eq_getElem hlt];rfl);have hx:=htt _ (List.getElem_mem hlt)
 have hgi:(ts[j]'hlt).2=p.wits[j]'hgk:=by
  have:=congrArg (fun l=>l[j]?) hts;simp only [List.getElem?_map,List.getElem?_eq_getElem hlt,List.getElem?_eq_getElem hgk,Option.map_some,Option.some.injEq] at this
  exact this
 have htk:p.wits.take (j+1)=p.wits.take j++[p.wits[j]'hgk]:=List.take_succ_eq_append_getElem hgk;have hbi:=hb _ (List.getElem_mem hgk);rw [← hgi] at htk hbi
 generalize ts[j]'hlt=y at *
 obtain ⟨yv,x⟩:=y;dsimp only at hr hx htk hbi
 refine W.of_sep (RdB.one (hx.ent zE)) fun o3=>?_
 (repeat' first|(refine O.load rfl (hr.ent zE) rfl ?_)|refine Zb ?_|apply Zc|apply Zd|apply Ze|apply Zf|refine ZA ?_|refine Yw ?_|refine Yz ?_|apply YB|apply YC)
 refine A.begin (id:=5) [6,7] (Blk g3 [.slice adl p.log.length cl,.slice adu us.length cu,.int .i64 (p.quorum:Int)] 106 (0,0)::R) mixed ?_
 (refine tF 0 ?_;refine tL 1 ?_;refine tM 2 ?_)
 refine tO 3 ?_;refine Do.call rfl rfl (clone_spec _ e yv x (hx.ent zE) zo) ?_;rintro _ _ ⟨adx,cx,rfl,rfl⟩;refine ⟨fun _=>zE,?_⟩;refine tO 4 ?_;refine Do.buildSlice (n:=1) (cs:=[.slice adx x.length cx]) rfl rfl rfl rfl zQ rfl (fun gb=>⟨fun _=>zE,?_⟩);refine tO 5 ?_;refine Do.append rfl rfl rfl (show Pull _ (OwnT (.slice adu us.length cu) us) _ from zP) (RdSl.blkN (n:=1) (c:=1) zP rfl zl) rfl rfl zO zm zo fun ad1 k1 _=>⟨fun _=>zE,?_⟩
 refine tO 6 ?_;refine dV (Val.fieldAddr rfl) ?_;refine tO 7 ?_;refine zs1 ?_;refine ⟨zN,?_⟩;refine A.done zK ?_;refine wB ?_;refine Fin.round (j+1,us++[(.slice adx x.length cx,x)],ad1,k1) ⟨hlt,by dsimp only;rw [htk,List.map_append,hus];rfl⟩ zd zS ?_;simp only [OwnT,List.length_append,List.length_singleton,List.map_append,List.map_cons,List.map_nil];exact Ent.trans (Ent.trans (show Ent _ (OwnB (.slice adx x.length cx) x::Items us::Own tTxts 1 (.slice ad1 (us.length+1) k1) (us.length+1) (us.map (·.1)++[.slice adx x.length cx])::Blk g3 [.slice adl p.log.length cl,.slice ad1 (us.length+1) k1,.int .i64 (p.quorum:Int)] 106 (0,0)::OwnB (.slice adl p.log.length cl) p.log::Blk g2 [nY,nY,.int .i64 0] 106 (0,0)::R) from zE) grow_items) zE
end Go.Proofs
namespace Go.Bs
section
variable {P:Program} {N:Fr} {ty:TypeId} {σ:Env} {e:World} {L:List Res} {x:Operand} {d:Tmp} {pos:String} {af:Array Edge} {gd:Option (Nat × Bool)} {K:Env→List Res→Prop}
theorem Val.makeInterface {t:TypeId} {v:Value} (hr:∀ w (v:Value),(Instr.makeInterface t v).run P w=.ok (.iface t v) w) (h:ev σ x=some v):Val P N (.makeInterface t x) ty (.iface t v) σ e L:=fun a w ha hs _ _ _ _=>by
 simp [execOp,ha.ev h,hr]
theorem Val.typeAssert {s t:TypeId} {v:Value} (hr:∀ w (v:Value),(Instr.typeAssert (.iface t v) s t false).run P w=.ok v w) (h:ev σ x=some (.iface t v)):Val P N (.typeAssert x s t false) ty v σ e L:=fun a w ha hs _ _ _ _=>by
 simp [execOp,ha.ev h,hr]
theorem Do.invoke {g:FuncId} {name:String} {xs:List Operand} {vs:List Value} {ats:Array TypeId} {t:TypeId} {v r:Value} {Post:Value→List Res→Prop}
 (h0:ev σ x=some (.iface t v)) (hx:evs σ xs=some vs) (hd:Nat.blt d N.n=true)
 (hm:∀ w,Sat e L w→(Go.invoke (.fn (.method name) #[]) (.iface t v::vs).toArray).run P w=.ok (.enter g (r::vs).toArray) w)
 (h:Ct P g (r::vs).toArray e L Post) (k:∀ v L',Post v L'→K ((d,v)::σ) L') :
 Do P N ⟨some d,.call { callee:=.invoke x name,args:=xs.toArray,argTypes:=ats },ty,pos,af,gd⟩ K σ e L:=by
 intro a w ha hs K' Q' hK;unfold Oper.wp
 have h1:execOp a.eval ⟨some d,.call { callee:=.invoke x name,args:=xs.toArray,argTypes:=ats },ty,pos,af,gd⟩=Go.invoke (.fn (.method name) #[]) (.iface t v::vs).toArray:=by
  have h2:(#[a.eval x]++xs.toArray.map a.eval:Array Value)=(.iface t v::vs).toArray:=by simp [ha.ev h0,ha.evs hx]
  simp only [execOp,resolve];rw [h2]
  rfl
 rw [h1,hm w hs,Oper.upon_enter];refine (h w hs).mono ?_;rintro x w' ⟨v,L',rfl,hp,hs'⟩;exact hK _ _ _ _ (k v L' hp) (ha.put hd v) hs'
theorem Do.eqlAgg {t t':TypeId} {y:Operand} {v u:Value} (hr:∀ w,∃ b:Bool,((do eqGuard .eql t x y v u;binOp .eql t v u):Sem Value).run P w=.ok (.bool b) w) (h:ev σ x=some v) (h1:ev σ y=some u) (hd:Nat.blt d N.n=true) (k:∀ b:Bool,K ((d,.bool b)::σ) L) :
 Do P N ⟨some d,.binOp .eql t x y t',ty,pos,af,gd⟩ K σ e L:=fun a w ha hs K' Q' hK=>by
 obtain ⟨b,hb⟩:=hr w;refine upon_ok_do (v:=.bool b) (w':=w) ?_ (hK _ _ _ _ (k b) (ha.put hd _) hs);simp only [execOp,ha.ev h,ha.ev h1];rw [Sem.run_bind,hb]
 rfl
theorem setAts_part:∀ (vs cs:List Value) (o:Nat),o+vs.length≤cs.length→SetAts cs o vs (cs.take o++vs++cs.drop (o+vs.length))
 | [],cs,o,_=>by simpa using SetAts.nil (l:=cs) (n:=o)
 | v::vs,cs,o,h=>by
  rw [List.length_cons] at h
  have h1:=setAts_part vs (cs.set o v) (o+1) (by rw [List.length_set];omega)
  have h2:(cs.set o v).take (o+1)++vs++(cs.set o v).drop (o+1+vs.length)=cs.take o++(v::vs)++cs.drop (o+(v::vs).length):=by
   rw [List.take_set,List.drop_set_of_lt (by omega)];rw [List.take_succ_eq_append_getElem (by omega),List.set_append_right _ _ (by simp;omega)]
   simp [Nat.min_eq_left (show o≤cs.length by omega),Nat.add_assoc,Nat.add_comm 1]
  rw [h2] at h1
  exact SetAts.cons (SetAt.of v (by omega)) h1
theorem Do.storePart {t n kk nn o c g:Nat} {y:Operand} {vs xs:List Value} {E:TypeId} {R:List Res} [i:AggT P t n] (h:ev σ x=some (.pointer (some ⟨g,o,none⟩))) (h1:ev σ y=some (.agg vs.toArray)) (hn:vs.length=n) (hv:∀ v∈vs,v.oneCell'=true)
 (p:Pull L (Own E nn (.slice (some ⟨g,0,none⟩) kk c) kk xs) R) (ho:o+n≤kk*nn)
 (k:K σ (Own E nn (.slice (some ⟨g,0,none⟩) kk c) kk (xs.take o++vs++xs.drop (o+vs.length))::R)) :
 Do P N ⟨none,.store t x y,ty,pos,af,gd⟩ K σ e L:=fun a w ha hs K' Q' hK=>by
 have hs1:=hs.ent p.out;obtain ⟨hl,hA⟩:=own_out hs1.2.2.2;rcases hA with ⟨hv',_⟩|⟨g',cap',cur,hv',r1,r2,r3,r4,hB⟩
 ·cases hv'
 cases hv'
 have hs2:Sat e (Blk g cur E (0,0)::R) w:=⟨hs.1,hs.2.1,hs.2.2.1,hB⟩
 have hle:kk*nn≤cur.length:=by rw [r3];exact Nat.mul_le_mul_right _ r1
 obtain ⟨w',e1,e2⟩:=run_storeCells (P:=P) (off:=o) (i:=0) (setAts_part vs cur o (by omega)) rfl hs2 hv
 have hin:=own_in (R:=R) (E:=E) (n:=nn) (g:=g) (k:=kk) (cap:=c) (cur:=cur.take o++vs++cur.drop (o+vs.length)) r1 r2 (by
  simp only [List.length_append,List.length_take,List.length_drop];omega)
 rw [take_part cur vs o (kk*nn) (by omega) hle,r4] at hin
 refine upon_skip_do (w':=w') ?_ (hK _ _ _ _ k ha (e2.ent hin))
 simp [execOp,ha.ev h,ha.ev h1,Instr.storeAt,Instr.sureAddr,storeVar,Value.cells,i.siz,hn,e1]
theorem Val.quoE {t t':TypeId} {y:Operand} {k:IntKind} {m n r:Int} (h:ev σ x=some (.int k m)) (h1:ev σ y=some (.int k n)) (h0:n≠0) (hr:k.wrap (m.tdiv n)=r):Val P N (.binOp .quo t x y t') ty (.int k r) σ e L:=hr ▸ Val.quo h h1 h0
theorem Val.field3 {t f:Nat} {a b c v:Value} (hr:∀ w,(Instr.field t (.agg #[a,b,c]) f).run P w=.ok v w) (h:ev σ x=some (.agg [a,b,c].toArray)):Val P N (.field t x f) ty v σ e L:=fun w a ha _ _ _ _ _=>by
 have h2:=hr
 simp [execOp,ha.ev h,h2]
theorem made_flat (zs:List Value) (hz:0<zs.length):∀ c:Nat,(madeCells zs.toArray (c*zs.length)).toList=(List.replicate c zs).flatten
 | 0=>by simp [madeCells]
 | c+1=>by
  have ih:=made_flat zs hz c;simp only [madeCells,Array.toList_map,Array.toList_range,List.size_toArray] at ih ⊢
  rw [Nat.add_mul,Nat.one_mul,List.range_add,List.map_append,ih,List.replicate_succ',List.flatten_append]
  congr 1
  rw [List.map_map];simp only [List.flatten_cons,List.flatten_nil,List.append_nil];apply List.ext_getElem?;intro q;rw [List.getElem?_map]
  by_cases hq:q<zs.length
  ·have h1:(c*zs.length+q) % zs.length=q:=by rw [Nat.mul_comm,Nat.mul_add_mod,Nat.mod_eq_of_lt hq]
   rw [List.getElem?_range hq]
   simp [hq,h1,Function.comp]
  ·rw [List.getElem?_eq_none (l:=List.range _) (by simpa using hq),List.getElem?_eq_none (by omega)]
   rfl
theorem Do.makeSliceN {t el nn b c:Nat} {z:Value} {zs:List Value} {y:Operand} {k1 k2:IntKind} [i:SlT P t el nn] [j:ElT P el z nn b] (hx:ev σ x=some (.int k1 (c:Int))) (hy:ev σ y=some (.int k2 (c:Int))) (hd:Nat.blt d N.n=true) (hz:z.cells=zs.toArray) (hn:zs.length=nn) (h0:Nat.blt 0 nn=true) (h63:c≤maxLen) (hb:c*b≤140737488355328)
 (kk:∀ g,K ((d,.slice (some ⟨g,0,none⟩) c c)::σ) (Own el nn (.slice (some ⟨g,0,none⟩) c c) c ((List.replicate c zs).flatten)::L)) :
 Do P N ⟨some d,.makeSlice t x y,ty,pos,af,gd⟩ K σ e L:=fun a w ha hs K' Q' hK=>by
 obtain ⟨ti,t1,t2,t3,t4⟩:=j.parts;subst t4
 have hb':(ti.bytes:Int)*(c:Int)≤281474976710656:=by
  have h:((ti.bytes*c:Nat):Int)≤281474976710656:=by rw [Nat.mul_comm];omega
  rwa [Int.natCast_mul] at h
 have hr:=run_make (P:=P) w t el ti z i.und t1 t2 k1 k2 c c (by omega) (Int.le_refl _) hb' (by simp only [maxLen] at h63;omega);simp only [Int.toNat_natCast,t3] at hr
 have h0':0<zs.length:=by rw [hn,← Nat.blt_eq];exact h0
 have hm:(madeCells z.cells (c*nn)).toList=(List.replicate c zs).flatten:=by rw [hz,← hn];exact made_flat zs h0' c
 refine upon_ok_do (w':=w.alloc (.cells (madeCells z.cells (c*nn)) el)) (v:=.slice (some ⟨w.heap.size,0,none⟩) c c) (by simp [execOp,ha.ev hx,ha.ev hy,hr]) (hK _ _ _ _ (kk _) (ha.put hd _) ?_);have hs3:=(hs.alloc (.cells (madeCells z.cells (c*nn)) el)).ent (blk_arr _ _ _ _);rw [hm] at hs3
 have hlen:((List.replicate c zs).flatten).length=c*nn:=by simp [List.length_flatten,hn]
 have hin:=own_in (E:=el) (n:=nn) (g:=w.heap.size) (k:=c) (cap:=c) (cur:=(List.replicate c zs).flatten) (R:=L) (Nat.le_refl _) h63 hlen;rw [List.take_of_length_le (by omega)] at hin
 exact hs3.ent hin
end
end Go.Bs
