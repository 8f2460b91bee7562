/- Part 10 of a proof of this: TopLedgers returns true for any arguments; nothing of the old memory is turned. No condition. -/
import Derived.Test.YtccekbdjebohcaaGreatP09
set_option linter.unusedVariables false
set_option linter.unusedSimpArgs false
namespace Go.Proofs
attribute [local irreducible] Bs.Val Bs.Do Bs.O Bs.W Bs.Fin Bs.A Bs.Ct Bs.RdSl Bs.Rd Bs.Sat Bs.Blk Bs.Ob Bs.Own Bs.View Bs.Ent Bs.Ex Bs.All Bs.Pu Bs.Base Bs.sepL Bs.RdA
open Go.Bs
open Tryz
variable (R:List Res) (e:World)
theorem openLog_spec (w:Nat) (c:ECfg) (hc:c.ok) (vl vf vws vfd vu vm vn vpl vpw vt ve vmr vml vsz vr vsm vmc:Value) (gp op lp kp gd od kd d k f:Nat) (ls:LSt) (recs:List Bts) (hlp:0<lp)
 (h0:Rd R ⟨gp,op,none⟩ (.slice (some ⟨gd,od,none⟩) 3 kd)) (h1:Rd R ⟨gd,od,none⟩ (ptr d)) (h2:Rd R ⟨gd,od+1,none⟩ (ptr k)) (h3:Rd R ⟨gd,od+2,none⟩ (ptr f)) (hls:ls.ok) (hrl:recs.length≤1000) (hg:∀ b∈recs,manOk b∧b.length≤200) :
 Ct prog 160 #[ptr w] e (Blk w (wldC c (.slice (some ⟨gp,op,none⟩) lp kp) vl vf vws vfd vu vm vn vpl vpw vt ve vmr vml vsz vr vsm vmc) tWld (0,0)::Disk d (disk0 ls.jb)::Disk k (kDisk ls.keys 1048576)::Disk f (disk0 (layP recs))::R)
  (fun v' L'=>v'=.int .i64 0∧∃ gl gf,L'=Blk w (wldC c (.slice (some ⟨gp,op,none⟩) lp kp) (ptr gl) (ptr gf) vws vfd vu vm vn vpl vpw vt ve vmr vml vsz vr vsm vmc) tWld (0,0)::FrontR gf f gl c.f ⟨recs,(waitP ls.items recs).map fun b=>(b,minT)⟩::LedgerR gl d k (ecoSeed 0) { ls with last:=none }::R):=by
 refine Ct.enter (args:=[_]) func160 rfl ntmps160 results160 rfl ?_;refine wB ?_;refine A.begin (id:=2) [12] R mixed ?_;refine tM 0 ?_;refine tk 1 _ rfl (Val.indexAddrN rfl rfl (by decide)) ?_;refine tk 2 _ rfl (Val.load rfl h1) ?_;refine tM 3 ?_;refine tk 4 _ rfl (Val.indexAddrN rfl rfl (by decide)) ?_;refine tk 5 _ rfl (Val.load rfl h2) ?_;refine tO 6 ?_;refine Do.call rfl rfl (eSeed_spec _ e 0 zo) ?_;rintro _ _ ⟨ad,ks,rfl,rfl⟩;refine ⟨fun _=>zE,?_⟩;refine tO 7 ?_;refine Do.call rfl rfl (Ct.at2 zP zP (lOpen_spec _ e d k _ (ecoSeed 0) ls (RdSl.own (show Pull _ (OwnB (.slice ad (ecoSeed 0).length ks) (ecoSeed 0)) _ from zP)) (ecoSeed_32 0) hls)) ?_;rintro _ _ ⟨gl,rfl,rfl⟩;refine ⟨fun _=>zE,?_⟩
 (refine tM 8 ?_;refine tk 9 _ rfl (Val.extract rfl rfl) ?_;refine tk 10 _ rfl (Val.extract rfl rfl) ?_;refine tA 11 ?_;(refine tO 12 ?_;refine dV (Val.assign rfl) ?_))
 refine A.done zK ?_;refine wB ?_;refine A.begin (id:=5) [27] (Blk w (wldC c (.slice (some ⟨gp,op,none⟩) lp kp) (ptr gl) vf vws vfd vu vm vn vpl vpw vt ve vmr vml vsz vr vsm vmc) tWld (0,0)::R) mixed ?_;refine tM 0 ?_;refine tk 1 _ rfl (Val.indexAddrN rfl rfl (by decide)) ?_;refine tk 2 _ rfl (Val.load rfl (h3.ent zE)) ?_
 (refine tM 3 ?_;refine tN 4 ?_;refine tF 5 ?_;refine tL 6 ?_;refine tM 7 ?_;refine tN 8 ?_;refine tF 9 ?_;refine tF 10 ?_;refine tL 11 ?_;refine tM 12 ?_;refine tN 13 ?_;refine tF 14 ?_;refine tF 15 ?_;refine tL 16 ?_;refine tM 17 ?_;refine tN 18 ?_;refine tF 19 ?_;refine tF 20 ?_;refine tL 21 ?_)
 refine tO 22 ?_;refine Do.call rfl rfl (Ct.at2 zP zP (fOpen_spec _ e f gl d k (ecoSeed 0) { ls with last:=none } c.f recs hc.f hrl hg)) ?_;rintro _ _ ⟨gf,rfl,rfl⟩;refine ⟨fun _=>zE,?_⟩
 (refine tM 23 ?_;refine tk 24 _ rfl (Val.extract rfl rfl) ?_;refine tk 25 _ rfl (Val.extract rfl rfl) ?_;refine tA 26 ?_;(refine tO 27 ?_;refine dV (Val.assign rfl) ?_))
 refine A.done zK ?_;refine wB ?_;exact Fin.ret (Blk w (wldC c (.slice (some ⟨gp,op,none⟩) lp kp) (ptr gl) (ptr gf) vws vfd vu vm vn vpl vpw vt ve vmr vml vsz vr vsm vmc) tWld (0,0)::FrontR gf f gl c.f ⟨recs,(waitP ls.items recs).map fun b=>(b,minT)⟩::LedgerR gl d k (ecoSeed 0) { ls with last:=none }::R) rfl zE ⟨rfl,gl,gf,rfl⟩
theorem openWitness_spec (w:Nat) (c:ECfg) (vl vf vfd vu vm vn vpl vpw vt ve vmr vml vsz vr vsm vmc:Value) (gp op lp kp gd od kd d k i gw nw kw:Nat) (vals:List Value) (s:WSt) (hi:i<3) (hlp:i+1<lp) (hin:i<nw) (hvl:vals.length=nw)
 (h0:Rd R ⟨gp,op+(i+1)*2,none⟩ (.slice (some ⟨gd,od,none⟩) 2 kd)) (h1:Rd R ⟨gd,od,none⟩ (ptr d)) (h2:Rd R ⟨gd,od+1,none⟩ (ptr k)) (hpl:RdB R vpl ecoLog) (hs:s.ok) (hsz:s.recs.length≤1000) :
 Ct prog 162 #[ptr w,.int .i64 (i:Int)] e (Blk w (wldC c (.slice (some ⟨gp,op,none⟩) lp kp) vl vf (.slice (some ⟨gw,0,none⟩) nw kw) vfd vu vm vn vpl vpw vt ve vmr vml vsz vr vsm vmc) tWld (0,0)::Own tWp 1 (.slice (some ⟨gw,0,none⟩) nw kw) nw vals::Disk d (disk0 s.jb)::Disk k (kDisk s.keys 1048576)::R)
  (fun v' L'=>v'=.int .i64 0∧∃ g,L'=Blk w (wldC c (.slice (some ⟨gp,op,none⟩) lp kp) vl vf (.slice (some ⟨gw,0,none⟩) nw kw) vfd vu vm vn vpl vpw vt ve vmr vml vsz vr vsm vmc) tWld (0,0)::Own tWp 1 (.slice (some ⟨gw,0,none⟩) nw kw) nw (vals.set i (ptr g))::WitR g d k i (ecoSeed (i+1)) ecoLog { s with lastV:=csg0,some:=false }::R):=by
 have hlog:ecoLog.length=32:=pubP_length _;refine Ct.of_sep (RdB.one (hpl.ent (show Ent _ R from zE))) fun o1=>?_
 refine Ct.enter (args:=[_,_]) func162 rfl ntmps162 results162 rfl ?_;refine wB ?_;refine A.begin (id:=2) [20] (Blk w (wldC c (.slice (some ⟨gp,op,none⟩) lp kp) vl vf (.slice (some ⟨gw,0,none⟩) nw kw) vfd vu vm vn vpl vpw vt ve vmr vml vsz vr vsm vmc) tWld (0,0)::R) mixed ?_;refine tM 0 ?_;refine tk 1 _ rfl (Val.indexAddrN rfl rfl (by decide)) ?_;refine tk 2 _ rfl (Val.load rfl (h1.ent zE)) ?_;refine tM 3 ?_;refine tk 4 _ rfl (Val.indexAddrN rfl rfl (by decide)) ?_;refine tk 5 _ rfl (Val.load rfl (h2.ent zE)) ?_
 (refine tM 6 ?_;refine tM 7 ?_;refine tk 8 _ rfl (Val.add64 rfl rfl zo) ?_;refine tM 10 ?_;refine tN 11 ?_;refine tF 12 ?_;refine tF 13 ?_;refine tL 14 ?_)
 rw [show ((i:Int)+1)=((i+1:Nat):Int) by omega];refine tO 9 ?_;refine Do.call rfl rfl (eSeed_spec _ e (i+1) zo) ?_;rintro _ _ ⟨ad,ks,rfl,rfl⟩;refine ⟨fun _=>zE,?_⟩;refine tO 15 ?_;refine Do.call rfl rfl (Ct.at2 zP zP (wOpen_spec _ e d k i _ vpl (ecoSeed (i+1)) ecoLog s (RdSl.own (show Pull _ (OwnB (.slice ad (ecoSeed (i+1)).length ks) (ecoSeed (i+1))) _ from zP)) (hpl.ent zE) (ecoSeed_32 _) hlog zo hs hsz)) ?_;rintro _ _ ⟨g,rfl,rfl⟩;refine ⟨fun _=>zE,?_⟩
 (refine tM 16 ?_;refine tk 17 _ rfl (Val.extract rfl rfl) ?_;refine tk 18 _ rfl (Val.extract rfl rfl) ?_;refine tA 19 ?_;(refine tO 20 ?_;refine dV (Val.assign rfl) ?_))
 refine A.done zK ?_;refine wB ?_;simp only [Nat.zero_add,Nat.mul_one];exact Fin.ret (Blk w (wldC c (.slice (some ⟨gp,op,none⟩) lp kp) vl vf (.slice (some ⟨gw,0,none⟩) nw kw) vfd vu vm vn vpl vpw vt ve vmr vml vsz vr vsm vmc) tWld (0,0)::Own tWp 1 (.slice (some ⟨gw,0,none⟩) nw kw) nw (vals.set i (ptr g))::WitR g d k i (ecoSeed (i+1)) ecoLog { s with lastV:=csg0,some:=false }::R) rfl zE ⟨rfl,g,rfl⟩
theorem openNew_spec (w:Nat) (c:ECfg) (vl vf vfd vu vm vn vpl vpw vt ve vmr vml vsz vr vsm vmc:Value) (gp op lp kp gd od kd d k i gw nw kw x y:Nat) (vals:List Value) (s:WSt) (hi:i<3) (hlp:i+1<lp) (hin:i<nw) (hvl:vals.length=nw)
 (hx:Rd R ⟨x,0,none⟩ (ptr w)) (hy:Rd R ⟨y,0,none⟩ (.int .i64 (i:Int)))
 (h0:Rd R ⟨gp,op+(i+1)*2,none⟩ (.slice (some ⟨gd,od,none⟩) 2 kd)) (h1:Rd R ⟨gd,od,none⟩ (ptr d)) (h2:Rd R ⟨gd,od+1,none⟩ (ptr k)) (hpl:RdB R vpl ecoLog) (hs:s.ok) (hsz:s.recs.length≤1000) :
 Ct prog 161 #[ptr x,ptr y] e (Blk w (wldC c (.slice (some ⟨gp,op,none⟩) lp kp) vl vf (.slice (some ⟨gw,0,none⟩) nw kw) vfd vu vm vn vpl vpw vt ve vmr vml vsz vr vsm vmc) tWld (0,0)::Own tWp 1 (.slice (some ⟨gw,0,none⟩) nw kw) nw vals::Disk d (disk0 s.jb)::Disk k (kDisk s.keys 1048576)::R)
  (fun v' L'=>v'=.int .i64 0∧∃ g,L'=Blk w (wldC c (.slice (some ⟨gp,op,none⟩) lp kp) vl vf (.slice (some ⟨gw,0,none⟩) nw kw) vfd vu vm vn vpl vpw vt ve vmr vml vsz vr vsm vmc) tWld (0,0)::Own tWp 1 (.slice (some ⟨gw,0,none⟩) nw kw) nw (vals.set i (ptr g))::WitR g d k i (ecoSeed (i+1)) ecoLog { s with lastV:=csg0,some:=false }::R):=by
 refine Ct.enter (args:=[_,_]) func161 rfl ntmps161 results161 rfl ?_;refine wB ?_;refine O.call rfl rfl (openWitness_spec R e w c vl vf vfd vu vm vn vpl vpw vt ve vmr vml vsz vr vsm vmc gp op lp kp gd od kd d k i gw nw kw vals s hi hlp hin hvl h0 h1 h2 hpl hs hsz) ?_;rintro _ _ ⟨rfl,g,rfl⟩;refine wB ?_;exact Fin.ret (Blk w (wldC c (.slice (some ⟨gp,op,none⟩) lp kp) vl vf (.slice (some ⟨gw,0,none⟩) nw kw) vfd vu vm vn vpl vpw vt ve vmr vml vsz vr vsm vmc) tWld (0,0)::Own tWp 1 (.slice (some ⟨gw,0,none⟩) nw kw) nw (vals.set i (ptr g))::WitR g d k i (ecoSeed (i+1)) ecoLog { s with lastV:=csg0,some:=false }::R) rfl zE ⟨rfl,g,rfl⟩
theorem pump_name:nameP pump:=by
 refine ⟨by decide,by decide,fun b hb=>?_⟩;simp only [pump,List.mem_cons,List.not_mem_nil,or_false] at hb
 rcases hb with rfl|rfl|rfl|rfl<;>decide
theorem openUpdater_spec (w:Nat) (c:ECfg) (hc:c.ok) (vl vf vws vfd vu vm vn vpl vpw vt ve vmr vml vsz vr vsm vmc:Value) (gp op kp gd od kd d:Nat) (s:USt)
 (h0:Rd R ⟨gp,op+(c.k+1)*2,none⟩ (.slice (some ⟨gd,od,none⟩) 1 kd)) (h1:Rd R ⟨gd,od,none⟩ (ptr d)) (hpl:RdPol R vpl vpw (ecoPol c)) (hs:s.ok pump) :
 Ct prog 163 #[ptr w] e (Blk w (wldC c (.slice (some ⟨gp,op,none⟩) (c.k+2) kp) vl vf vws vfd vu vm vn vpl vpw vt ve vmr vml vsz vr vsm vmc) tWld (0,0)::Disk d (disk0 (layP s.recs))::R)
  (fun v' L'=>v'=.int .i64 0∧∃ g,L'=Blk w (wldC c (.slice (some ⟨gp,op,none⟩) (c.k+2) kp) vl vf vws vfd (ptr g) vm vn vpl vpw vt ve vmr vml vsz vr vsm vmc) tWld (0,0)::UpdR g d pump (ecoPol c) s::R):=by
 have hk:=hc.k;refine Ct.of_sep (RdB.one (hpl.log.ent (show Ent _ R from zE))) fun o1=>?_
 refine Ct.of_sep (hpl.wits.ent (show Ent _ R from zE)).one fun o2=>?_
 refine Ct.enter (args:=[_]) func163 rfl ntmps163 results163 rfl ?_;refine wB ?_;refine A.begin (id:=1) [29] (Blk w (wldC c (.slice (some ⟨gp,op,none⟩) (c.k+2) kp) vl vf vws vfd vu vm vn vpl vpw vt ve vmr vml vsz vr vsm vmc) tWld (0,0)::R) mixed ?_
 (refine tM 0 ?_;refine tN 1 ?_;refine tF 2 ?_;refine tL 3 ?_;refine tM 4 ?_;refine tN 5 ?_;refine tF 6 ?_;refine tL 7 ?_;refine tk 8 _ rfl (Val.len rfl) ?_;refine tk 9 _ rfl (Val.sub64 rfl rfl zo) ?_)
 rw [show (((c.k+2:Nat):Int) - 1)=((c.k+1:Nat):Int) by omega]
 (refine tk 10 _ rfl (Val.indexAddrN rfl rfl zo) ?_;refine tF 11 ?_)
 refine tk 12 _ rfl (Val.load rfl (h0.ent zE)) ?_;refine tk 13 _ rfl (Val.indexAddrN rfl rfl (by decide)) ?_;refine tk 14 _ rfl (Val.load rfl (h1.ent zE)) ?_
 (refine tM 15 ?_;refine tN 16 ?_;refine tF 17 ?_;refine tF 18 ?_;refine tL 19 ?_;refine tM 20 ?_;refine tN 21 ?_;refine tF 22 ?_;refine tk 23 _ rfl (Val.loadAggB rfl zP zI zX) ?_)
 refine tO 24 ?_;refine Do.call rfl rfl (Ct.at zP (uOpen_spec _ e d pump vpl vpw (ecoPol c) s (hpl.ent zE) hc.pol pump_name hs)) ?_;rintro _ _ ⟨g,rfl,rfl⟩;refine ⟨fun _=>zE,?_⟩
 (refine tM 25 ?_;refine tk 26 _ rfl (Val.extract rfl rfl) ?_;refine tk 27 _ rfl (Val.extract rfl rfl) ?_;refine tA 28 ?_;(refine tO 29 ?_;refine dV (Val.assign rfl) ?_))
 refine A.done zK ?_;refine wB ?_;exact Fin.ret (Blk w (wldC c (.slice (some ⟨gp,op,none⟩) (c.k+2) kp) vl vf vws vfd (ptr g) vm vn vpl vpw vt ve vmr vml vsz vr vsm vmc) tWld (0,0)::UpdR g d pump (ecoPol c) s::R) rfl zE ⟨rfl,g,rfl⟩
abbrev tCh:TypeId:=83
abbrev csgZ:Value:=.agg #[.int .i64 0,.int .i64 0,nY,nY]
theorem kcs_look (k:Fin 1000 × Fin 1000):∀ l:List ((Fin 1000 × Fin 1000) × GAt),∃ t:GAt,(lookK k (kcs l)).getD csgZ=.agg (GAt.cells t).toArray∧((lookK k (kcs l)).isSome=true→∃ p∈l,p.2=t)∧((lookK k (kcs l)).isSome=false→t=(csg0,nY,nY))
 | []=>⟨(csg0,nY,nY),rfl,fun h=>(by cases h),fun _=>rfl⟩
 | p::l=>by
  obtain ⟨t,h1,h2,h4⟩:=kcs_look k l;have hc:lookK k (kcs (p::l))=if p.1=k then some (.agg (GAt.cells p.2).toArray) else lookK k (kcs l):=rfl
  rw [hc]
  by_cases h:p.1=k
  ·rw [if_pos h];exact ⟨p.2,rfl,fun _=>⟨p,List.mem_cons_self ..,rfl⟩,fun q=>by cases q⟩
  ·rw [if_neg h];exact ⟨t,h1,fun q=>by obtain ⟨y,hy,h3⟩:=h2 q;exact ⟨y,List.mem_cons_of_mem _ hy,h3⟩,h4⟩
theorem kcs_put (k:Fin 1000 × Fin 1000) (t:GAt):∀ l:List ((Fin 1000 × Fin 1000) × GAt),∃ l',putK k (.agg (GAt.cells t).toArray) (kcs l)=kcs l'∧∀ p∈l',p∈l∨p=(k,t)
 | []=>⟨[(k,t)],rfl,fun p hp=>.inr (List.mem_singleton.1 hp)⟩
 | y::l=>by
  show ∃ l',putK k _ ((y.1,Value.agg (GAt.cells y.2).toArray)::kcs l)=_∧_
  unfold putK
  by_cases h:y.1=k
  ·rw [if_pos h]
   exact ⟨(k,t)::l,rfl,fun p hp=>by
    rcases List.mem_cons.1 hp with hp|hp
    ·exact .inr hp
    ·exact .inl (List.mem_cons_of_mem _ hp)⟩
  ·rw [if_neg h];obtain ⟨l',h1,h2⟩:=kcs_put k t l
   exact ⟨y::l',by rw [h1];rfl,fun p hp=>by
    rcases List.mem_cons.1 hp with hp|hp
    ·exact .inl (by rw [hp];exact List.mem_cons_self ..)
    ·exact (h2 p hp).imp (List.mem_cons_of_mem _) id⟩
theorem EMem.ok.put {a:EMem} {M:Res} {w:Nat} {c:ECfg} {m:Nat} {s:ESt} (h:a.ok M w c m s) (kc:List ((Fin 1000 × Fin 1000) × GAt)) (hk:∀ p∈kc,GAt.ok [M] p.2):EMem.ok { a with kc:=kc } M w c m s:={ h with kc:=hk,all:=⟨h.all.all⟩ }
theorem three1 {A B C:Res}:Ent [All [A,B,C]] [A]:=Ent.trans (all_out (M:=[_,_,_]) (L:=[])) (Ent.cons Ent.nil)
theorem three2 {A B C:Res}:Ent [All [A,B,C]] [B]:=Ent.trans (all_out (M:=[_,_,_]) (L:=[])) (Ent.drop (Ent.cons Ent.nil))
theorem three3 {A B C:Res}:Ent [All [A,B,C]] [C]:=Ent.trans (all_out (M:=[_,_,_]) (L:=[])) (Ent.drop (Ent.drop (Ent.cons Ent.nil)))
theorem eSend_spec (g k:Nat) (l:List Msg) (net:List MsgP) (x:MsgP) (m:Msg) (hl:l.map Msg.d=net.map (MsgP.d k)) (hd:m.d=x.d k) (hr:RdB (Net g 32 l::R) m.v m.b) (hb:m.b.length≤140737488351232) (hn:net.length≤32) :
 Ct prog 176 #[pt g,.agg m.cells.toArray] e (Net g 32 l::R) (fun v' L'=>v'=.bool (decide (net.length<32))∧∃ l':List Msg,l'.map Msg.d=(if net.length<32 then net++[x] else net).map (MsgP.d k)∧L'=Net g 32 l'::R):=by
 have hll:l.length=net.length:=by have:=congrArg List.length hl;simpa using this
 refine (nsend_spec R e g 32 l m hr hb zo zo).mono fun v' L' h=>?_
 rcases h with ⟨h1,rfl,v2,rfl⟩|⟨h1,rfl,rfl⟩
 ·refine ⟨by rw [decide_eq_true zo],_,?_,rfl⟩;rw [if_pos zo,List.map_append,List.map_append,hl,List.map_cons,List.map_cons,← hd]
  rfl
 ·refine ⟨by rw [decide_eq_false zo],_,?_,rfl⟩;rw [if_neg zo];exact hl
theorem eAsked_spec (w:Nat) (c:ECfg) (m:Nat) (s:ESt) (ev:List (Int × Int × Int × Bts)) (v:Value) (j n k:Nat) (x:Sgd) (path:List Bts) (hv:RdB R v (askB x n k path)) (hx:MsgP.ok c s.ls.items (.ask j x n k path)) (hm:m<250) :
 Ct prog 178 #[pt w,.int .i64 ((j+1:Nat):Int),v] e (EcoR w c m s ev::R) (fun v' L'=>v'=.int .i64 (s.askE j x.chk n)∧∃ ev',EvA ev' (s.asked j x.chk n)∧L'=EcoR w c (m+1) (s.asked j x.chk n) (ev++ev')::R):=by
 obtain ⟨h0,hj,hon,hk,hnk,hpath⟩:=hx;subst hk;refine eco_out fun a M ha he=>?_
 have hst:=ha.st;have hec:=ha.ec;have hck:=hst.cfg.k;have hsz:=hst.short;have hst2:=ESt.asked_ok hst hm hj hon h0 (n:=n);have hgs:=growP_small (l:=s.ls.items.take x.chk.size) (n:=n) (by rw [List.length_take];omega);rw [← hpath] at hgs
 have hc256:=hon.1.1.1;obtain ⟨kf,hkf⟩:∃ kf:Fin 1000 × Fin 1000,kf=(⟨x.chk.size,by omega⟩,⟨j,by omega⟩):=⟨_,rfl⟩
 have hkv:keyP kf=.agg #[.int .i64 (x.chk.size:Int),.int .i64 (j:Int)]:=by rw [hkf];rfl
 obtain ⟨t0,ht0,ht1,ht2⟩:=kcs_look kf a.kc
 have hg0:(lookK kf (kcs a.kc)).isSome=true→GAt.ok [M] t0:=fun q=>by
  obtain ⟨p,hp,rfl⟩:=ht1 q;exact ha.kc p hp
 refine Ct.of_sep (p:=∀ y∈GAt.cells t0,y.oneCell'=true) (fun hh hs=>?_) fun hone=>?_
 ·cases hq:(lookK kf (kcs a.kc)).isSome with
  | true =>
   have:=GAt.ones (L:=ecoM w c s a M R) (ts:=[t0]) (fun t ht=>by rw [List.mem_singleton.1 ht];exact (hg0 hq).ent (one_in (show Pull (ecoM w c s a M R) M _ from zP))) hh hs
   simpa using this
  | false =>
   rw [ht2 hq]
   exact fun y hy=>by
    simp only [GAt.cells,csgC,List.mem_cons,List.not_mem_nil,or_false] at hy
    rcases hy with rfl|rfl|rfl|rfl<;>rfl
 obtain ⟨k1,k2,k3,k4,k5⟩:=hst.wit hj;obtain ⟨w1,w2,w3,w4,w5⟩:=askW_ok hst hj (n:=n) hon;obtain ⟨vl,vu,vs,hvs,hwxl,-⟩:=ha.all.all;have hjx:j<a.wx.length:=by omega
 have hjw:j<s.ws.length:=by rw [hst.wl];exact hj
 have hgx:a.wx[j]?=some (a.wx[j]'hjx):=List.getElem?_eq_getElem hjx
 generalize a.wx[j]'hjx=wx at hgx
 refine Ct.of_sep ((RdSl.own (show Pull (ecoM w c s a M R) (Own tWp 1 a.vws a.wx.length (a.wx.map wptr)) _ from zP)).shape zo) ?_;rintro ⟨⟨adw,cw,hvw,h3',h4',h5',h6'⟩,_⟩;rcases h6' with h6'|⟨gq,oq,hadw⟩
 ·omega
 subst hadw
 have hrw:∀ (L R':List Res),Pull L (Own tWp 1 a.vws a.wx.length (a.wx.map wptr)) R'→Rd L ⟨gq,oq+j,none⟩ (pt wx.g):=fun L R' pl=>by
  rw [hvw] at pl
  exact (RdSl.own pl).elem (by rw [List.getElem?_map,hgx];rfl)
 refine Ct.enter (args:=[_,_,_]) func178 rfl ntmps178 results178 rfl ?_;refine wB ?_;refine O.call rfl rfl (eQuestion_spec _ e v x n x.chk.size path (hv.ent zE) hon.1.1 hon.2.1 zo zo hgs.1 hgs.2) ?_;rintro _ _ ⟨N,ur,up,uq,ad,kk,ts,rfl,hts,hN,hsl,htx,rfl⟩;refine O.of_sep (RdB.one (hN.root.ent (one_in zP))) fun o3=>?_
 refine O.of_sep (hN.sig.ent (one_in zP)).parts.one fun o4=>?_
 refine O.of_sep (hN.sig.ent (one_in zP)).path.one fun o5=>?_
 (repeat (refine wA ?_;intros))
 rename_i g7 g8;rw [hvw,show (((j+1:Nat):Int) - 1)=(j:Int) by omega]
 (repeat (refine wA ?_;intros))
 refine O.load rfl (hrw _ _ zP) rfl ?_;refine wB ?_;refine O.ent1 (Ent.trans (Ent.pull (show Pull _ (All (witsL 0 a.wx s.ws)) _ from zP) Ent.rfl) (wits_out hgx k5)) ?_;have hco:=fun L hxL hvL htL=>wCosign_spec L e wx.g wx.d wx.k j (ecoSeed (j+1)) ecoLog (s.wit j) ur up uq (.slice ad ts.length kk) x n x.chk.size ts hxL hon.1.1 hon.2.1.fits zo zo zo hvL htL zo
 obtain ⟨q1,q2⟩:=cosE_hon (j:=j) (ts:=ts) hon k3 zo hnk (by rw [hts];exact hpath);rw [q1,q2] at hco
 refine O.call rfl rfl (hco _ (hN.ent (one_in zP)) (hsl.ent (one_in zP)) (fun y hy=>(htx y hy).ent (one_in zP))) ?_;rintro v0 _ ⟨hy,hno⟩
 by_cases hE:s.askE j x.chk n=0
 ·obtain ⟨N2,wp,wq,rfl,hN2,rfl⟩:=hy hE;clear hy hno hco;refine O.of_sep (hN2.ent (one_in zP)).parts.one fun o6=>?_
  refine O.of_sep (hN2.ent (one_in zP)).path.one fun o7=>?_
  have hb:=ha.st;obtain ⟨s1,hs1⟩:∃ s1:ESt,s1={ s with ws:=s.ws.set j (s.askW j x.chk n) }:=⟨_,rfl⟩
  have hsq:s.asked j x.chk n=s1.send (.yes j (s.askW j x.chk n).lastV):=by unfold ESt.asked ESt.askR;rw [if_pos hE,hs1]
  have hyw:=w4 (w5 hE);rw [hsq] at hst2 ⊢
  rw [hE]
  have hbk:Ent (WitX j wx (s.askW j x.chk n)::All (witsD 0 j a.wx s.ws)::Blk w (a.cells c s) tWld (0,0)::OwnEv a.ve a.es::MpK keyI a.mr a.kr::MpK keyI a.ml a.kl::MpK keyP a.mc (kcs a.kc)::M::FrontR a.gf a.fdk a.gl c.f s.fs::LedgerR a.gl a.ld a.lk (ecoSeed 0) s.ls::Own tWp 1 a.vws a.wx.length (a.wx.map wptr)::FdR a.gfd (ecoPol c) c.retry s.n s.fd::UpdR a.gu a.ud pump (ecoPol c) s.up::MonR a.gm ecoLog s.mo::Net a.gn 32 a.nl::R) (ecoM w c s1 a M R):=by
   have:=wits_in (R:=Blk w (a.cells c s) tWld (0,0)::OwnEv a.ve a.es::MpK keyI a.mr a.kr::MpK keyI a.ml a.kl::MpK keyP a.mc (kcs a.kc)::M::FrontR a.gf a.fdk a.gl c.f s.fs::LedgerR a.gl a.ld a.lk (ecoSeed 0) s.ls::Own tWp 1 a.vws a.wx.length (a.wx.map wptr)::FdR a.gfd (ecoPol c) c.retry s.n s.fd::UpdR a.gu a.ud pump (ecoPol c) s.up::MonR a.gm ecoLog s.mo::Net a.gn 32 a.nl::R) (x:=wx) (s:=s.askW j x.chk n) hjx hjw;rw [set_same _ _ _ hgx] at this
   rw [hs1];exact Ent.trans this zE
  generalize hg:(s.askW j x.chk n).lastV=g at *
  (repeat (refine wA ?_;intros))
  rename_i g11;refine O.ent1 (show Ent _ (Blk g11 (csgC g wp wq) tCsg (0,0)::N2::Blk g7 (sgdC x ur up uq) tSgd (0,0)::N::ecoM w c s1 a M R) from ?_) ?_
  ·exact Ent.trans (show Ent _ (Blk g11 (csgC g wp wq) tCsg (0,0)::N2::Blk g7 (sgdC x ur up uq) tSgd (0,0)::N::WitX j wx (s.askW j x.chk n)::All (witsD 0 j a.wx s.ws)::Blk w (a.cells c s) tWld (0,0)::OwnEv a.ve a.es::MpK keyI a.mr a.kr::MpK keyI a.ml a.kl::MpK keyP a.mc (kcs a.kc)::M::FrontR a.gf a.fdk a.gl c.f s.fs::LedgerR a.gl a.ld a.lk (ecoSeed 0) s.ls::Own tWp 1 a.vws a.wx.length (a.wx.map wptr)::FdR a.gfd (ecoPol c) c.retry s.n s.fd::UpdR a.gu a.ud pump (ecoPol c) s.up::MonR a.gm ecoLog s.mo::Net a.gn 32 a.nl::R) from zE) (Ent.cons (Ent.cons (Ent.cons (Ent.cons hbk))))
  refine O.call rfl rfl (new_spec _ e) ?_;rintro _ _ ⟨gw,rfl,rfl⟩;refine wB ?_;refine O.call rfl rfl (byte_spec _ e gw [] 1 (by simp)) ?_;rintro _ _ ⟨rfl,rfl⟩;rw [show []++[(1:UInt8)]=[1] from rfl];refine wB ?_;refine O.call rfl rfl (gPut_spec _ e gw [1] wp wq g (hN2.ent (one_in zP)) zo hyw.2 (by simp)) ?_;rintro _ _ ⟨rfl,rfl⟩;have hbl:([1]++encCsg g:Bts).length=2182:=by rw [List.length_append,encCsg_length hyw.2];rfl
  rw [show ([1]++encCsg g:Bts)=1::encCsg g from rfl] at hbl ⊢
  have hn1:a.nl.map Msg.d=s1.net.map (MsgP.d c.k):=by rw [hs1];exact ha.net
  have hr1:s1.net.length≤32:=by rw [hs1];exact hst.room
  have hsn:s1.send (.yes j g)={ s1 with net:=if s1.net.length<32 then s1.net++[.yes j g] else s1.net }:=rfl;refine wB ?_;refine A.begin (id:=12) [] (Blk w (a.cells c s1) tWld (0,0)::R) mixed ?_
  (refine tM 0 ?_;refine tN 1 ?_;refine tF 2 ?_;refine tL 3 ?_;refine tM 4 ?_;refine tM 5 ?_)
  refine tO 6 ?_;refine Do.call rfl rfl (done_spec _ e gw (1::encCsg g) zo) ?_;rintro _ _ ⟨ad3,k3,rfl,rfl⟩;refine ⟨fun _=>zE,?_⟩;refine tk 7 _ rfl (Val.build rfl zF) ?_;refine tO 8 ?_;refine Do.call rfl rfl (Ct.at zP (eSend_spec _ e a.gn c.k a.nl s1.net (.yes j g) ⟨2,((j+1:Nat):Int),0,.slice ad3 (1::encCsg g:Bts).length k3,1::encCsg g⟩ hn1 rfl (RdSl.own (show Pull _ (OwnB (.slice ad3 (1::encCsg g:Bts).length k3) (1::encCsg g)) _ from zP)) zd hr1)) ?_;rintro _ _ ⟨rfl,nl2,hnl2,rfl⟩;refine ⟨fun _=>zE,?_⟩;refine A.done zK ?_;have hs1s:s1.signed=s.signed:=by rw [hs1]
  have hok2:EMem.ok { a with nl:=nl2 } M w c (m+1) (s1.send (.yes j g)) :=
   {ha with net:=hnl2,st:=hst2,ec:=by show a.es.length≤_;omega,all:=⟨ha.all.all⟩,root:=by show RdB [M] a.vr (ESt.sv (s1.send (.yes j g))).root;rw [show ESt.sv (s1.send (.yes j g))=s.sv by unfold ESt.sv;rw [← hs1s];rfl];exact ha.root }
  (repeat' first|refine W.meet27 (id:=15) (fun q:(Nat × Nat) × Bool=>[(0,pt w),(1,.int .i64 ((j+1:Nat):Int)),(7,pt g7),(11,pt g11),(12,.int .i64 0),(14,pt q.1.1),(15,pt q.1.2),(16,.bool q.2)]) (fun q=>Blk q.1.2 (GAt.cells t0) tCsg (0,0)::Blk q.1.1 [.int .i64 (x.chk.size:Int),.int .i64 (j:Int)] tPair (0,0)::Blk g11 (csgC g wp wq) tCsg (0,0)::N2::Blk g7 (sgdC x ur up uq) tSgd (0,0)::N::ecoM w c (s1.send (.yes j g)) { a with nl:=nl2 } M R) (fun q=>q.2=(lookK kf (kcs a.kc)).isSome) ?_ ?_|refine Za ?_|apply Zc|apply Zd|apply Ze|apply Zf|refine Zh ?_|refine Zi ?_|refine ZU ?_|refine Ye ?_|refine Yh fun _=>?_|refine YR ?_|fail)
  rotate_left
  ·refine ⟨?_⟩;rename_i g14;refine W.keep [(0,pt w),(1,.int .i64 ((j+1:Nat):Int)),(7,pt g7),(11,pt g11),(12,.int .i64 0),(14,pt g14)] zS ?_;refine A.begin (id:=14) [11] (Blk g14 [.int .i64 (x.chk.size:Int),.int .i64 (j:Int)] tPair (0,0)::Blk w (a.cells c s1) tWld (0,0)::R) mixed ?_
   (refine tM 0 ?_;refine tN 1 ?_;refine tF 2 ?_;refine tL 3 ?_;refine tJ 4 ?_)
   refine A.two 5 9 rfl rfl rfl rfl zK ?_ ?_
   ·refine Do.val (Val.lookupK (key:=keyP) (k:=kf) rfl (by rw [hkv];rfl) zP) rfl ⟨fun _=>zE,?_⟩;rw [ht0]
    (refine tM 6 ?_;refine tk 7 _ rfl (Val.extract rfl rfl) ?_;refine tk 8 _ rfl (Val.extract rfl rfl) ?_)
    refine tO 9 ?_;refine Do.alloc (cs:=[.int .i64 0,.int .i64 0,nY,nY]) rfl rfl fun g15=>⟨fun _=>zE,?_⟩
    refine tO 10 ?_;apply Do.storeAgg;exact rfl;exact rfl;exact rfl;exact hone;exact zU;exact zW;refine ⟨fun _=>zE,?_⟩
    ((refine tO 11 ?_;refine dV (Val.assign rfl) ?_))
    refine A.done zK ?_;exact Fin.meet ((g14,g15),(lookK kf (kcs a.kc)).isSome) rfl zS zE
   ·refine Do.alloc (cs:=[.int .i64 0,.int .i64 0,nY,nY]) rfl rfl fun g15=>⟨fun _=>zE,?_⟩
    refine tO 5 ?_;refine Do.val (Val.lookupK (key:=keyP) (k:=kf) rfl (by rw [hkv];rfl) zP) rfl ⟨fun _=>zE,?_⟩;rw [ht0]
    (refine tM 6 ?_;refine tk 7 _ rfl (Val.extract rfl rfl) ?_;refine tk 8 _ rfl (Val.extract rfl rfl) ?_)
    refine tO 10 ?_;apply Do.storeAgg;exact rfl;exact rfl;exact rfl;exact hone;exact zU;exact zW;refine ⟨fun _=>zE,?_⟩
    ((refine tO 11 ?_;refine dV (Val.assign rfl) ?_))
    refine A.done zK ?_;exact Fin.meet ((g14,g15),(lookK kf (kcs a.kc)).isSome) rfl zS zE
  rintro ⟨⟨g14,g15⟩,told⟩ htold;dsimp only at htold ⊢
  obtain ⟨b,hb⟩:∃ b:EMem,b={ a with nl:=nl2 }:=⟨_,rfl⟩
  rw [← hb] at hok2 ⊢
  obtain ⟨s2,hs2⟩:∃ s2:ESt,s2=s1.send (.yes j g):=⟨_,rfl⟩
  rw [← hs2] at hok2 ⊢
  have hbc:b.kc=a.kc:=by rw [hb]
  have hbe:b.es=a.es:=by rw [hb]
  have hrne:s2.fs.recs≠[]:=by rw [hs2,hs1];exact hst.some h0
  have hel:b.es.length≤600*m:=by rw [hbe];exact hec
  cases told with
  | false =>
   refine wB ?_;refine W.keep [(0,pt w),(1,.int .i64 ((j+1:Nat):Int)),(7,pt g7),(11,pt g11),(12,.int .i64 0),(14,pt g14)] zS ?_;refine A.begin (id:=16) [6] (Blk g14 [.int .i64 (x.chk.size:Int),.int .i64 (j:Int)] tPair (0,0)::Blk g11 (csgC g wp wq) tCsg (0,0)::ecoM w c s2 b M R) mixed ?_
   (refine tM 0 ?_;refine tN 1 ?_;refine tF 2 ?_;refine tL 3 ?_;refine tJ 4 ?_;refine tJ 5 ?_)
   refine tO 6 ?_;refine Do.mapUpdateK (key:=keyP) (k:=kf) rfl (by rw [hkv];rfl) rfl zP ⟨zN,?_⟩;refine A.done zK ?_;obtain ⟨kc2,hp1,hp2⟩:=kcs_put kf (g,wp,wq) b.kc;rw [show putK kf (Value.agg (csgC g wp wq).toArray) (kcs b.kc)=kcs kc2 from hp1];refine wB ?_;rw [show (((j+1:Nat):Int) - 1)=(j:Int) by omega];refine O.call rfl rfl (Ct.at2 zP zP (eEvent_spec _ e w c s2 { b with kc:=kc2 } 4 (x.chk.size:Int) (j:Int) ur x.chk.root o3 zd)) ?_;rintro _ _ ⟨rfl,ve,rfl⟩
   have hok3:=(((hok2.more (three1 (A:=M) (B:=N) (C:=N2))).put kc2 (fun p hp=>by
    rcases hp2 p hp with hp|rfl
    ·exact ((hok2.kc p hp).ent three1)
    ·exact ⟨hN2.ent three3,by show g.wit<_;omega⟩)).seen (x:=⟨4,(x.chk.size:Int),(j:Int),ur,x.chk.root⟩) ve (hN.root.ent three2) zd)
   refine wB ?_;refine Fin.ret (EcoR w c (m+1) s2 (ev++[(4,(x.chk.size:Int),(j:Int),x.chk.root)])::R) rfl (Ent.trans ?_ (eco_in hok3 (by dsimp only;rw [List.map_append,hbe,he];rfl))) ⟨rfl,_,?_,rfl⟩
   ·exact Ent.trans (pull3_all (A:=M) (B:=N) (C:=N2) zP zP zP) zE
   ·intro y hy;rw [List.mem_singleton.1 hy];exact ⟨(by decide:(4:Int)≠3),.inr hrne⟩
  | true =>
   have hgt:=hg0 htold.symm;obtain ⟨⟨w0,sg0⟩,tp,tq⟩:=t0;obtain ⟨t1,t2⟩:=hgt;dsimp only at t1 t2
   have hfq:∀ {L R':List Res},Pull L M R'→RdSig L tp tq sg0:=fun pl=>t1.ent (one_in pl)
   dsimp only [GAt.cells];refine wB ?_;refine O.call rfl rfl (gSame_spec _ e tp tq wp wq ⟨w0,sg0⟩ g (hfq (show Pull _ M _ from zP)) (hN2.ent (one_in (show Pull _ N2 _ from zP)))) ?_;rintro _ _ ⟨rfl,rfl⟩
   by_cases hsame:(⟨w0,sg0⟩:Csg)=g
   ·rw [decide_eq_true hsame];refine wB ?_;refine Fin.ret (EcoR w c (m+1) s2 ev::R) rfl (Ent.trans (show Ent _ (ecoM w c s2 b M R) from zE) (eco_in hok2 (by rw [hbe];exact he))) ⟨rfl,[],EvA.nil,by rw [List.append_nil]⟩
   ·rw [decide_eq_false hsame];refine wB ?_;refine W.keep [(0,pt w),(1,.int .i64 ((j+1:Nat):Int)),(7,pt g7),(11,pt g11),(12,.int .i64 0),(14,pt g14)] zS ?_;refine A.begin (id:=16) [6] (Blk g14 [.int .i64 (x.chk.size:Int),.int .i64 (j:Int)] tPair (0,0)::Blk g11 (csgC g wp wq) tCsg (0,0)::ecoM w c s2 b M R) mixed ?_
    (refine tM 0 ?_;refine tN 1 ?_;refine tF 2 ?_;refine tL 3 ?_;refine tJ 4 ?_;refine tJ 5 ?_)
    refine tO 6 ?_;refine Do.mapUpdateK (key:=keyP) (k:=kf) rfl (by rw [hkv];rfl) rfl zP ⟨zN,?_⟩;refine A.done zK ?_;obtain ⟨kc2,hp1,hp2⟩:=kcs_put kf (g,wp,wq) b.kc;rw [show putK kf (Value.agg (csgC g wp wq).toArray) (kcs b.kc)=kcs kc2 from hp1];refine wB ?_;rw [show (((j+1:Nat):Int) - 1)=(j:Int) by omega];refine O.call rfl rfl (Ct.at2 zP zP (eEvent_spec _ e w c s2 { b with kc:=kc2 } 4 (x.chk.size:Int) (j:Int) ur x.chk.root o3 zd)) ?_;rintro _ _ ⟨rfl,ve,rfl⟩
    have hok3:=(((hok2.more (three1 (A:=M) (B:=N) (C:=N2))).put kc2 (fun p hp=>by
     rcases hp2 p hp with hp|rfl
     ·exact ((hok2.kc p hp).ent three1)
     ·exact ⟨hN2.ent three3,by show g.wit<_;omega⟩)).seen (x:=⟨4,(x.chk.size:Int),(j:Int),ur,x.chk.root⟩) ve (hN.root.ent three2) zd)
    refine wB ?_;refine Fin.ret (EcoR w c (m+1) s2 (ev++[(4,(x.chk.size:Int),(j:Int),x.chk.root)])::R) rfl (Ent.trans ?_ (eco_in hok3 (by dsimp only;rw [List.map_append,hbe,he];rfl))) ⟨rfl,_,?_,rfl⟩
    ·exact Ent.trans (pull3_all (A:=M) (B:=N) (C:=N2) zP zP zP) zE
    ·intro y hy;rw [List.mem_singleton.1 hy];exact ⟨(by decide:(4:Int)≠3),.inr hrne⟩
 ·obtain ⟨rfl,rfl⟩:=hno hE;clear hy hno hco;obtain ⟨s1,hs1⟩:∃ s1:ESt,s1={ s with ws:=s.ws.set j (s.askW j x.chk n) }:=⟨_,rfl⟩
  have hsq:s.asked j x.chk n=s1.send (.no j (s.askW j x.chk n).c.size):=by unfold ESt.asked ESt.askR;rw [if_neg hE,hs1]
  rw [hsq] at hst2 ⊢
  have hbk:Ent (WitX j wx (s.askW j x.chk n)::All (witsD 0 j a.wx s.ws)::Blk w (a.cells c s) tWld (0,0)::OwnEv a.ve a.es::MpK keyI a.mr a.kr::MpK keyI a.ml a.kl::MpK keyP a.mc (kcs a.kc)::M::FrontR a.gf a.fdk a.gl c.f s.fs::LedgerR a.gl a.ld a.lk (ecoSeed 0) s.ls::Own tWp 1 a.vws a.wx.length (a.wx.map wptr)::FdR a.gfd (ecoPol c) c.retry s.n s.fd::UpdR a.gu a.ud pump (ecoPol c) s.up::MonR a.gm ecoLog s.mo::Net a.gn 32 a.nl::R) (ecoM w c s1 a M R):=by
   have:=wits_in (R:=Blk w (a.cells c s) tWld (0,0)::OwnEv a.ve a.es::MpK keyI a.mr a.kr::MpK keyI a.ml a.kl::MpK keyP a.mc (kcs a.kc)::M::FrontR a.gf a.fdk a.gl c.f s.fs::LedgerR a.gl a.ld a.lk (ecoSeed 0) s.ls::Own tWp 1 a.vws a.wx.length (a.wx.map wptr)::FdR a.gfd (ecoPol c) c.retry s.n s.fd::UpdR a.gu a.ud pump (ecoPol c) s.up::MonR a.gm ecoLog s.mo::Net a.gn 32 a.nl::R) (x:=wx) (s:=s.askW j x.chk n) hjx hjw;rw [set_same _ _ _ hgx] at this
   rw [hs1];exact Ent.trans this zE
  generalize hEE:s.askE j x.chk n=E at *
  have hws:(s.askW j x.chk n).c.size≤256:=(WSt.c_right w1).1
  (repeat (refine wA ?_;intros))
  rename_i g11;refine O.call rfl rfl (new_spec _ e) ?_;rintro _ _ ⟨gw,rfl,rfl⟩;refine wB ?_;refine O.call rfl rfl (byte_spec _ e gw [] 0 (by simp)) ?_;rintro _ _ ⟨rfl,rfl⟩;rw [show []++[(0:UInt8)]=[0] from rfl];refine wB ?_;refine O.call rfl rfl (Ct.at zP (wCheck_spec _ e wx.g wx.d wx.k j (ecoSeed (j+1)) ecoLog (s.askW j x.chk n))) ?_;rintro _ _ ⟨adr,kr,rfl,rfl⟩;have hfld:∀ w',(Instr.field tCh (.agg #[.int .i64 ((s.askW j x.chk n).c.size:Int),.slice adr (s.askW j x.chk n).c.root.length kr]) 0).run prog w'=.ok (.int .i64 ((s.askW j x.chk n).c.size:Int)) w':=fun w'=>by kernel_rfl
  (repeat' first|(refine O.val _ (Val.field2 hfld rfl) rfl ?_)|refine ZY ?_|fail)
  refine O.call rfl rfl (Ct.at zP (num_spec _ e gw [0] (s.askW j x.chk n).c.size zo (by simp))) ?_;rintro _ _ ⟨rfl,rfl⟩;rw [show ([0]++be (s.askW j x.chk n).c.size 4:Bts)=0::be (s.askW j x.chk n).c.size 4 from rfl];have hbl:(0::be (s.askW j x.chk n).c.size 4:Bts).length=5:=by rw [List.length_cons,be_length]
  refine O.ent1 (show Ent _ (Writer gw (0::be (s.askW j x.chk n).c.size 4)::Blk g11 (csgC csg0 nY nY) tCsg (0,0)::Blk g7 (sgdC x ur up uq) tSgd (0,0)::N::ecoM w c s1 a M R) from ?_) ?_
  ·exact Ent.trans (show Ent _ (Writer gw (0::be (s.askW j x.chk n).c.size 4)::Blk g11 (csgC csg0 nY nY) tCsg (0,0)::Blk g7 (sgdC x ur up uq) tSgd (0,0)::N::WitX j wx (s.askW j x.chk n)::All (witsD 0 j a.wx s.ws)::Blk w (a.cells c s) tWld (0,0)::OwnEv a.ve a.es::MpK keyI a.mr a.kr::MpK keyI a.ml a.kl::MpK keyP a.mc (kcs a.kc)::M::FrontR a.gf a.fdk a.gl c.f s.fs::LedgerR a.gl a.ld a.lk (ecoSeed 0) s.ls::Own tWp 1 a.vws a.wx.length (a.wx.map wptr)::FdR a.gfd (ecoPol c) c.retry s.n s.fd::UpdR a.gu a.ud pump (ecoPol c) s.up::MonR a.gm ecoLog s.mo::Net a.gn 32 a.nl::R) from zE) (Ent.cons (Ent.cons (Ent.cons (Ent.cons hbk))))
  generalize hws2:(s.askW j x.chk n).c.size=z at *
  have hn1:a.nl.map Msg.d=s1.net.map (MsgP.d c.k):=by rw [hs1];exact ha.net
  have hr1:s1.net.length≤32:=by rw [hs1];exact hst.room
  refine wB ?_;refine A.begin (id:=12) [] (Blk w (a.cells c s1) tWld (0,0)::R) mixed ?_
  (refine tM 0 ?_;refine tN 1 ?_;refine tF 2 ?_;refine tL 3 ?_;refine tM 4 ?_;refine tM 5 ?_)
  refine tO 6 ?_;refine Do.call rfl rfl (done_spec _ e gw (0::be z 4) zo) ?_;rintro _ _ ⟨ad3,k3,rfl,rfl⟩;refine ⟨fun _=>zE,?_⟩;refine tk 7 _ rfl (Val.build rfl zF) ?_;refine tO 8 ?_;refine Do.call rfl rfl (Ct.at zP (eSend_spec _ e a.gn c.k a.nl s1.net (.no j z) ⟨2,((j+1:Nat):Int),0,.slice ad3 (0::be z 4:Bts).length k3,0::be z 4⟩ hn1 rfl (RdSl.own (show Pull _ (OwnB (.slice ad3 (0::be z 4:Bts).length k3) (0::be z 4)) _ from zP)) zd hr1)) ?_;rintro _ _ ⟨rfl,nl2,hnl2,rfl⟩;refine ⟨fun _=>zE,?_⟩;refine A.done zK ?_;have hs1s:s1.signed=s.signed:=by rw [hs1]
  have hok2:EMem.ok { a with nl:=nl2 } M w c (m+1) (s1.send (.no j z)) :=
   {ha with net:=hnl2,st:=hst2,ec:=by show a.es.length≤_;omega,all:=⟨ha.all.all⟩,root:=by show RdB [M] a.vr (ESt.sv (s1.send (.no j z))).root;rw [show ESt.sv (s1.send (.no j z))=s.sv by unfold ESt.sv;rw [← hs1s];rfl];exact ha.root }
  have hs2e:∀ R':List Res,Net a.gn 32 nl2::ecoM w c s1 { a with nl:=nl2 } M R'=Net a.gn 32 nl2::ecoM w c (s1.send (.no j z)) { a with nl:=nl2 } M R':=fun _=>rfl
  obtain ⟨b,hb⟩:∃ b:EMem,b={ a with nl:=nl2 }:=⟨_,rfl⟩
  obtain ⟨s2,hs2⟩:∃ s2:ESt,s2=s1.send (.no j z):=⟨_,rfl⟩
  have hbe:b.es=a.es:=by rw [hb]
  have hbc:b.kc=a.kc:=by rw [hb]
  (repeat (refine wA ?_;intros))
  rename_i g14;refine W.ent1 (show Ent _ (Blk g14 [.int .i64 (x.chk.size:Int),.int .i64 (j:Int)] tPair (0,0)::ecoM w c s2 b M R) from ?_) ?_
  ·rw [hs2,hb];exact zE
  rw [← hb,← hs2] at hok2
  rw [← hs2];rw [← hbc] at ht0
  refine W.keep [(0,pt w),(1,.int .i64 ((j+1:Nat):Int)),(7,pt g7),(11,pt g11),(12,.int .i64 E),(14,pt g14)] zS ?_;refine A.begin (id:=14) [11] (Blk g14 [.int .i64 (x.chk.size:Int),.int .i64 (j:Int)] tPair (0,0)::Blk w (b.cells c s2) tWld (0,0)::R) mixed ?_
  (refine tM 0 ?_;refine tN 1 ?_;refine tF 2 ?_;refine tL 3 ?_;refine tJ 4 ?_)
  refine A.two 5 9 rfl rfl rfl rfl zK ?_ ?_
  ·refine Do.val (Val.lookupK (key:=keyP) (k:=kf) rfl (by rw [hkv];rfl) zP) rfl ⟨fun _=>zE,?_⟩;rw [ht0]
   (refine tM 6 ?_;refine tk 7 _ rfl (Val.extract rfl rfl) ?_;refine tk 8 _ rfl (Val.extract rfl rfl) ?_)
   refine tO 9 ?_;refine Do.alloc (cs:=[.int .i64 0,.int .i64 0,nY,nY]) rfl rfl fun g15=>⟨fun _=>zE,?_⟩
   refine tO 10 ?_;apply Do.storeAgg;exact rfl;exact rfl;exact rfl;exact hone;exact zU;exact zW;refine ⟨fun _=>zE,?_⟩
   ((refine tO 11 ?_;refine dV (Val.assign rfl) ?_))
   refine A.done zK ?_;refine wB ?_;refine Fin.ret (EcoR w c (m+1) s2 ev::R) rfl (Ent.trans (show Ent _ (ecoM w c s2 b M R) from zE) (eco_in hok2 (by rw [hbe];exact he))) ⟨rfl,[],EvA.nil,by rw [List.append_nil]⟩
  ·refine Do.alloc (cs:=[.int .i64 0,.int .i64 0,nY,nY]) rfl rfl fun g15=>⟨fun _=>zE,?_⟩
   refine tO 5 ?_;refine Do.val (Val.lookupK (key:=keyP) (k:=kf) rfl (by rw [hkv];rfl) zP) rfl ⟨fun _=>zE,?_⟩;rw [ht0]
   (refine tM 6 ?_;refine tk 7 _ rfl (Val.extract rfl rfl) ?_;refine tk 8 _ rfl (Val.extract rfl rfl) ?_)
   refine tO 10 ?_;apply Do.storeAgg;exact rfl;exact rfl;exact rfl;exact hone;exact zU;exact zW;refine ⟨fun _=>zE,?_⟩
   ((refine tO 11 ?_;refine dV (Val.assign rfl) ?_))
   refine A.done zK ?_;refine wB ?_;refine Fin.ret (EcoR w c (m+1) s2 ev::R) rfl (Ent.trans (show Ent _ (ecoM w c s2 b M R) from zE) (eco_in hok2 (by rw [hbe];exact he))) ⟨rfl,[],EvA.nil,by rw [List.append_nil]⟩
def dropI {α:Type} (l:List α) (i:Nat):List α:=l.take i++l.drop (i+1)
theorem dropI_map {α β:Type} (f:α→β) (l:List α) (i:Nat):(dropI l i).map f=dropI (l.map f) i:=by
 unfold dropI;rw [List.map_append,List.map_take,List.map_drop]
theorem dropI_mem {α:Type} {l:List α} {i:Nat} {x:α} (h:x∈dropI l i):x∈l:=by
 rcases List.mem_append.1 h with h|h
 ·exact List.mem_of_mem_take h
 ·exact List.mem_of_mem_drop h
theorem dropI_len {α:Type} (l:List α) (i:Nat):(dropI l i).length≤l.length:=by
 unfold dropI;rw [List.length_append,List.length_take,List.length_drop];omega
def ESt.lost (s:ESt) (i:Nat):ESt:={ s with net:=dropI s.net i }
theorem ESt.lost_ok {c:ECfg} {m:Nat} {s:ESt} {i:Nat} (h:s.ok c m):(s.lost i).ok c m :=
 {h with
  net:=fun x hx=>h.net x (dropI_mem hx)
  room:=Nat.le_trans (dropI_len _ _) h.room }
theorem net_one {l:List Msg} {L R:List Res} {g n:Nat} (p:Pull L (Net g n l) R):∀ h,sepL L h→∀ m∈l,m.v.oneCell'=true:=fun h x m hm =>
 RdB.one (RdB.ent (Txts.pull (.zero:Pull (Items (l.map Msg.t)::R) (Items (l.map Msg.t)) R) m.t (List.mem_map.2 ⟨m,hm,rfl⟩)) (Ent.trans p.out net_items)) h x
theorem EMem.ok.nets {a:EMem} {M:Res} {w:Nat} {c:ECfg} {m m':Nat} {s s':ESt} (h:a.ok M w c m s) (hs:s'.ok c m') (hm:m≤m') (h1:s'.signed=s.signed) {nl:List Msg} (h2:nl.map Msg.d=s'.net.map (MsgP.d c.k)):EMem.ok { a with nl:=nl } M w c m' s' :=
 {h with root:=by unfold ESt.sv;rw [h1];exact h.root,net:=h2,st:=hs,ec:=Nat.le_trans h.ec (Nat.mul_le_mul_left _ hm),all:=⟨h.all.all⟩ }
abbrev tMs:TypeId:=268
end Go.Proofs
namespace Go.Proofs
attribute [local irreducible] Bs.Val Bs.Do Bs.O Bs.W Bs.Fin Bs.A Bs.Ct Bs.RdSl Bs.Rd Bs.Sat Bs.Blk Bs.Ob Bs.Own Bs.View Bs.Ent Bs.Ex Bs.All Bs.Pu Bs.Base Bs.sepL Bs.RdA
open Go.Bs
open Tryz
variable (R:List Res) (e:World)
theorem eLose_spec (w:Nat) (c:ECfg) (m:Nat) (s:ESt) (ev:List (Int × Int × Int × Bts)) (k to wh:Int) (n:Nat) (v:Value) (hv:v.oneCell'=true) (hn:n≤1000000) (hm:m<250) :
 Ct prog 88 #[pt w,.agg (itC k n to wh v).toArray] e (EcoR w c m s ev::R) (fun v' L'=>v'=.tuple #[.int .i64 0,.int .i64 (if n<s.net.length then 0 else 1)]∧L'=EcoR w c (m+1) (if n<s.net.length then s.lost n else s) ev::R):=by
 refine eco_out fun a M ha he=>?_
 have hst:=ha.st;have hrm:=hst.room;have hll:a.nl.length=s.net.length:=by have:=congrArg List.length ha.net;simpa using this
 refine Ct.of_sep (net_one (show Pull (ecoM w c s a M R) (Net a.gn 32 a.nl) _ from zP)) fun hno=>?_
 refine Ct.enter (args:=[_,_]) func88 rfl ntmps88 results88 rfl ?_
 (repeat (refine wA ?_;intros))
 rename_i g3;refine A.begin (id:=1) [12] (Blk g3 (itC k n to wh v) tItem (0,0)::Blk w (a.cells c s) tWld (0,0)::R) mixed ?_
 (refine tM 0 ?_;refine tN 1 ?_;refine tF 2 ?_;refine tL 3 ?_;refine tF 4 ?_;refine tL 5 ?_)
 by_cases hlt:n<s.net.length
 ·rw [if_pos hlt,if_pos hlt]
  have hok2:EMem.ok { a with nl:=dropI a.nl n } M w c (m+1) (s.lost n) :=
   ha.nets (ESt.lost_ok (hst.next hm)) (Nat.le_succ m) rfl (by show (dropI a.nl n).map Msg.d=(dropI s.net n).map _;rw [dropI_map,dropI_map,ha.net])
  refine A.two 6 10 rfl rfl rfl rfl zK ?_ ?_
  ·refine Do.call rfl rfl (Ct.at zP (ntake_spec _ e a.gn 32 a.nl (n:Int) zo hno)) ?_;rintro _ _ (⟨k2,hk2,hnk,rfl,rfl⟩|⟨hno2,-,-⟩)
   rotate_left
   ·exact absurd ⟨by omega,by omega⟩ hno2
   obtain rfl:n=k2:=by omega
   have hone:=hno _ (List.getElem_mem hk2);rw [show a.nl.take n++a.nl.drop (n+1)=dropI a.nl n from rfl]
   generalize a.nl[n]'hk2=y at *
   refine ⟨fun _=>zE,?_⟩
   (refine tM 7 ?_;refine tk 8 _ rfl (Val.extract rfl rfl) ?_;refine tk 9 _ rfl (Val.extract rfl rfl) ?_)
   refine tO 10 ?_;refine Do.alloc (cs:=[.int .i64 0,.int .i64 0,.int .i64 0,nY]) rfl rfl fun g6=>⟨fun _=>zE,?_⟩
   refine tO 11 ?_;refine zg ?_;refine ⟨fun _=>zE,?_⟩
   ((refine tO 12 ?_;refine dV (Val.assign rfl) ?_))
   refine A.done zK ?_;refine wB ?_;refine Fin.ret (EcoR w c (m+1) (s.lost n) ev::R) rfl (Ent.trans (show Ent _ (ecoM w c (s.lost n) { a with nl:=dropI a.nl n } M R) from zE) (eco_in hok2 he)) ⟨rfl,rfl⟩
  ·refine Do.alloc (cs:=[.int .i64 0,.int .i64 0,.int .i64 0,nY]) rfl rfl fun g6=>⟨fun _=>zE,?_⟩
   refine tO 6 ?_;refine Do.call rfl rfl (Ct.at zP (ntake_spec _ e a.gn 32 a.nl (n:Int) zo hno)) ?_;rintro _ _ (⟨k2,hk2,hnk,rfl,rfl⟩|⟨hno2,-,-⟩)
   rotate_left
   ·exact absurd ⟨by omega,by omega⟩ hno2
   obtain rfl:n=k2:=by omega
   have hone:=hno _ (List.getElem_mem hk2);rw [show a.nl.take n++a.nl.drop (n+1)=dropI a.nl n from rfl]
   generalize a.nl[n]'hk2=y at *
   refine ⟨fun _=>zE,?_⟩
   (refine tM 7 ?_;refine tk 8 _ rfl (Val.extract rfl rfl) ?_;refine tk 9 _ rfl (Val.extract rfl rfl) ?_)
   refine tO 11 ?_;refine zg ?_;refine ⟨fun _=>zE,?_⟩
   ((refine tO 12 ?_;refine dV (Val.assign rfl) ?_))
   refine A.done zK ?_;refine wB ?_;refine Fin.ret (EcoR w c (m+1) (s.lost n) ev::R) rfl (Ent.trans (show Ent _ (ecoM w c (s.lost n) { a with nl:=dropI a.nl n } M R) from zE) (eco_in hok2 he)) ⟨rfl,rfl⟩
 ·rw [if_neg hlt,if_neg hlt];have hok2:=ha.to (hst.next hm) (Nat.le_succ m) rfl rfl;refine A.two 6 10 rfl rfl rfl rfl zK ?_ ?_
  ·refine Do.call rfl rfl (Ct.at zP (ntake_spec _ e a.gn 32 a.nl (n:Int) zo hno)) ?_;rintro _ _ (⟨k2,hk2,hnk,-,-⟩|⟨-,rfl,rfl⟩)
   ·exact absurd hk2 zo
   refine ⟨fun _=>zE,?_⟩
   (refine tM 7 ?_;refine tk 8 _ rfl (Val.extract rfl rfl) ?_;refine tk 9 _ rfl (Val.extract rfl rfl) ?_)
   refine tO 10 ?_;refine Do.alloc (cs:=[.int .i64 0,.int .i64 0,.int .i64 0,nY]) rfl rfl fun g6=>⟨fun _=>zE,?_⟩
   refine tO 11 ?_;refine zg ?_;refine ⟨fun _=>zE,?_⟩
   ((refine tO 12 ?_;refine dV (Val.assign rfl) ?_))
   refine A.done zK ?_;refine wB ?_;refine Fin.ret (EcoR w c (m+1) s ev::R) rfl (Ent.trans (show Ent _ (ecoM w c s a M R) from zE) (eco_in hok2 he)) ⟨rfl,rfl⟩
  ·refine Do.alloc (cs:=[.int .i64 0,.int .i64 0,.int .i64 0,nY]) rfl rfl fun g6=>⟨fun _=>zE,?_⟩
   refine tO 6 ?_;refine Do.call rfl rfl (Ct.at zP (ntake_spec _ e a.gn 32 a.nl (n:Int) zo hno)) ?_;rintro _ _ (⟨k2,hk2,hnk,-,-⟩|⟨-,rfl,rfl⟩)
   ·exact absurd hk2 zo
   refine ⟨fun _=>zE,?_⟩
   (refine tM 7 ?_;refine tk 8 _ rfl (Val.extract rfl rfl) ?_;refine tk 9 _ rfl (Val.extract rfl rfl) ?_)
   refine tO 11 ?_;refine zg ?_;refine ⟨fun _=>zE,?_⟩
   ((refine tO 12 ?_;refine dV (Val.assign rfl) ?_))
   refine A.done zK ?_;refine wB ?_;refine Fin.ret (EcoR w c (m+1) s ev::R) rfl (Ent.trans (show Ent _ (ecoM w c s a M R) from zE) (eco_in hok2 he)) ⟨rfl,rfl⟩
def ESt.dblE (s:ESt) (i:Nat):Int:=if s.net.length≤i then 1 else if s.net.length<32 then 0 else 13
def ESt.dbl (s:ESt) (i:Nat):ESt:=match s.net[i]? with
 | none=>s
 | some x=>if s.net.length<32 then { s with net:=s.net++[x] } else s
theorem ESt.dbl_ok {c:ECfg} {m:Nat} {s:ESt} {i:Nat} (h:s.ok c m):(s.dbl i).ok c m:=by
 unfold ESt.dbl
 split
 ·exact h
 ·rename_i x hx
  split
  ·rename_i hl
   exact { h with
    net:=fun y hy=>by
     rcases List.mem_append.1 hy with hy|hy
     ·exact h.net y hy
     ·rw [List.mem_singleton.1 hy];exact h.net x (List.mem_of_getElem? hx)
    room:=by show (s.net++[x]).length≤32;rw [List.length_append];exact hl }
  ·exact h
theorem MsgP.len {c:ECfg} {l:List Bts} {x:MsgP} (h:x.ok c l) (hl:l.length≤250):(x.d c.k).2.2.2.length≤1000000:=by
 cases x with
 | ask w x n m path =>
  obtain ⟨-,-,h1,rfl,-,rfl⟩:=h;have hg:=growP_small (l:=l.take x.chk.size) (n:=n) (by rw [List.length_take];omega);have hf:=flatten_len hg.2
  show (askB _ _ _ _).length≤_
  unfold askB;simp only [List.length_append,List.length_cons,be_length,encSgd_length h1.1.1 h1.2.1]
  omega
 | yes w g =>
  show (1::encCsg g:Bts).length≤_
  rw [List.length_cons,encCsg_length h.2.2.2];omega
 | no w n=>show (0::be n 4:Bts).length≤_;rw [List.length_cons,be_length];omega
 | off b=>exact encBun_len h.2.1
theorem eDouble_spec (w:Nat) (c:ECfg) (m:Nat) (s:ESt) (ev:List (Int × Int × Int × Bts)) (k to wh:Int) (n:Nat) (v:Value) (hv:v.oneCell'=true) (hn:n≤1000000) (hm:m<250) :
 Ct prog 89 #[pt w,.agg (itC k n to wh v).toArray] e (EcoR w c m s ev::R) (fun v' L'=>v'=.tuple #[.int .i64 0,.int .i64 (s.dblE n)]∧L'=EcoR w c (m+1) (s.dbl n) ev::R):=by
 refine eco_out fun a M ha he=>?_
 have hst:=ha.st;have hrm:=hst.room;have hsz:=hst.short;have hll:a.nl.length=s.net.length:=by have:=congrArg List.length ha.net;simpa using this
 have hbl:∀ y∈a.nl,y.b.length≤140737488351232:=fun y hy=>by
  have h1:y.d∈s.net.map (MsgP.d c.k):=by rw [← ha.net];exact List.mem_map.2 ⟨y,hy,rfl⟩
  obtain ⟨q,hq,hqd⟩:=List.mem_map.1 h1;have:=MsgP.len (hst.net q hq) hsz;rw [hqd] at this
  exact Nat.le_trans this zo
 refine Ct.enter (args:=[_,_]) func89 rfl ntmps89 results89 rfl ?_
 (repeat (refine wA ?_;intros))
 rename_i g3;refine A.begin (id:=1) [] (Blk g3 (itC k n to wh v) tItem (0,0)::Blk w (a.cells c s) tWld (0,0)::R) mixed ?_
 (refine tF 0 ?_;refine tL 1 ?_;refine tk 2 (.bool false) rfl (Val.no (Val.lss rfl rfl) zn) ?_;refine tM 3 ?_;refine tkG 4 _ rfl (Val.fieldAddr rfl) ?_;refine tkG 5 _ rfl (Val.load rfl zR) ?_;refine tkG 6 _ rfl (Val.move rfl) ?_;refine tkG 7 _ rfl (Val.nilCheck rfl) ?_;refine tkG 8 _ rfl (Val.fieldAddr rfl) ?_;refine tkG 9 _ rfl (Val.load rfl zR) ?_)
 refine A.oneG 10 rfl rfl zK ?_;refine Do.call rfl rfl (Ct.at zP (nlen_spec _ e a.gn 32 a.nl)) ?_;rintro _ _ ⟨rfl,rfl⟩;refine ⟨fun _=>zE,?_⟩
 by_cases hlt:n<a.nl.length
 rotate_left
 ·have hE:s.dblE n=1:=by unfold ESt.dblE;rw [if_pos zo]
  have hS:s.dbl n=s:=by unfold ESt.dbl;rw [List.getElem?_eq_none zo]
  have hok2:=ha.to (hst.next hm) (Nat.le_succ m) rfl rfl;rw [hE,hS]
  (refine tkG 11 (.bool true) rfl (Val.yes (Val.geq rfl rfl) zy) ?_;refine tk 12 _ rfl (Val.pick_f rfl rfl) ?_;refine tA 13 ?_)
  refine A.done zK ?_;refine wB ?_;refine Fin.ret (EcoR w c (m+1) s ev::R) rfl (Ent.trans (show Ent _ (ecoM w c s a M R) from zE) (eco_in hok2 he)) ⟨rfl,rfl⟩
 (refine tkG 11 (.bool false) rfl (Val.no (Val.geq rfl rfl) zn) ?_;refine tk 12 _ rfl (Val.pick_f rfl rfl) ?_;refine tA 13 ?_)
 refine A.done zK ?_;refine wB ?_;refine A.begin (id:=3) [] (Blk g3 (itC k n to wh v) tItem (0,0)::Blk w (a.cells c s) tWld (0,0)::R) mixed ?_
 (refine tM 0 ?_;refine tN 1 ?_;refine tF 2 ?_;refine tL 3 ?_;refine tF 4 ?_;refine tL 5 ?_)
 refine tO 6 ?_;have hg:s.net[n]?=some (s.net[n]'zo):=List.getElem?_eq_getElem _;refine Do.call rfl rfl (Ct.at zP (ndouble_spec _ e a.gn 32 a.nl (n:Int) zo zo hbl)) ?_
 have hdd:(a.nl[n]'hlt).d=(s.net[n]'zo).d c.k:=by
  have:=congrArg (fun l=>l[n]?) ha.net;simp only [List.getElem?_map,List.getElem?_eq_getElem hlt,hg,Option.map_some,Option.some.injEq] at this
  exact this
 rintro _ _ (⟨k2,hk2,v2,hnk,hr,rfl,rfl⟩|⟨hno,rfl,rfl⟩)
 ·obtain rfl:n=k2:=by omega
  have hE:s.dblE n=0:=by unfold ESt.dblE;rw [if_neg zo,if_pos zo]
  have hS:s.dbl n={ s with net:=s.net++[s.net[n]'zo] }:=by unfold ESt.dbl;rw [hg];dsimp only;rw [if_pos zo]
  have hok3:=ESt.dbl_ok (i:=n) (hst.next hm)
  have hok2:EMem.ok { a with nl:=a.nl++[{ (a.nl[n]'hk2) with v:=v2 }] } M w c (m+1) (s.dbl n) :=
   ha.nets hok3 (Nat.le_succ m) (by rw [hS]) (by
    rw [hS,List.map_append,List.map_append,ha.net,List.map_cons,List.map_cons,← hdd]
    rfl)
  rw [hE];rw [hS] at hok2 ⊢
  generalize ({ (a.nl[n]'hk2) with v:=v2 }:Msg)=y at *
  refine ⟨fun _=>zE,?_⟩
  (refine tk 7 _ rfl (Val.not_t rfl) ?_;refine tA 8 ?_)
  refine A.done zK ?_;refine wB ?_;refine Fin.ret _ rfl (Ent.trans (show Ent _ (ecoM w c { s with net:=s.net++[s.net[n]'zo] } { a with nl:=a.nl++[y] } M R) from zE) (eco_in hok2 he)) ⟨rfl,rfl⟩
 ·have hE:s.dblE n=13:=by unfold ESt.dblE;rw [if_neg zo,if_neg (fun q=>hno ⟨⟨by omega,by omega⟩,by omega⟩)]
  have hS:s.dbl n=s:=by unfold ESt.dbl;rw [hg];dsimp only;rw [if_neg (fun q=>hno ⟨⟨by omega,by omega⟩,by omega⟩)]
  have hok2:=ha.to (hst.next hm) (Nat.le_succ m) rfl rfl;rw [hE,hS];refine ⟨fun _=>zE,?_⟩
  (refine tk 7 _ rfl (Val.not_f rfl) ?_;refine tA 8 ?_)
  refine A.done zK ?_;refine wB ?_;refine Fin.ret (EcoR w c (m+1) s ev::R) rfl (Ent.trans (show Ent _ (ecoM w c s a M R) from zE) (eco_in hok2 he)) ⟨rfl,rfl⟩
end Go.Proofs
namespace Go.Bs
theorem Rd.ex {α:Sort _} {f:α→Res} {R:List Res} {p:Addr} {v:Value} (h:∀ x,Rd (f x::R) p v):Rd (Ex f::R) p v:=fun hh x=>by
 obtain ⟨h1,h2,ap,l1,l2,⟨y,hy⟩,hR⟩:=x;exact h y hh ⟨h1,h2,ap,l1,l2,hy,hR⟩
theorem Rd.pull {L R:List Res} {A:Res} {p:Addr} {v:Value} (q:Pull L A R) (h:Rd (A::R) p v):Rd L p v:=h.ent q.out
end Go.Bs
namespace Go.Proofs
attribute [local irreducible] Bs.Val Bs.Do Bs.O Bs.W Bs.Fin Bs.A Bs.Ct Bs.RdSl Bs.Rd Bs.Sat Bs.Blk Bs.Ob Bs.Own Bs.View Bs.Ent Bs.Ex Bs.All Bs.Pu Bs.Base Bs.sepL Bs.RdA
open Go.Bs
open Tryz
def ESt.offE (c:ECfg) (s:ESt) (b:Bun):Int:=s.up.offE pump (ecoPol c) b
def ESt.off (c:ECfg) (s:ESt) (b:Bun):ESt:={ s with up:=s.up.offS pump (ecoPol c) b }
theorem ESt.off_ok {c:ECfg} {m:Nat} {s:ESt} {b:Bun} (h:s.ok c m) (hm:m<250) (hb:b.man.length≤200):(s.off c b).ok c (m+1):=by
 unfold ESt.off USt.offS
 split
 ·rename_i h0;have hu:=h.ups
  exact { h.next hm with
   up:=USt.offS_ok h.up hb zo h0
   ups:=by show (s.up.recs++[b.man]).length≤m+1;rw [List.length_append];simp only [List.length_singleton];omega }
 ·exact h.next hm
def WBlk (w:Nat) (c:ECfg) (s:ESt) (a:EMem):Res:=Ex fun ve:Value=>Blk w (EMem.cells { a with ve:=ve } c s) tWld (0,0)
theorem wblk_in {w:Nat} {c:ECfg} {s:ESt} {a:EMem} {ve:Value} {R:List Res}:Ent (Blk w (EMem.cells { a with ve:=ve } c s) tWld (0,0)::R) (WBlk w c s a::R):=ex_in (f:=fun ve:Value=>Blk w (EMem.cells { a with ve:=ve } c s) tWld (0,0)) ve
theorem wblk_rd {w:Nat} {c:ECfg} {s:ESt} {a:EMem} {L R:List Res} (p:Pull L (WBlk w c s a) R):Rd L ⟨w,0+13,none⟩ (pt a.gu) :=
 Rd.pull p (Rd.ex fun ve=>Rd.blk .zero rfl)
theorem eOffered_spec (R:List Res) (e:World) (w:Nat) (c:ECfg) (m:Nat) (s:ESt) (ev:List (Int × Int × Int × Bts)) (v:Value) (b:Bun) (hv:RdB R v (encBun b)) (hx:MsgP.ok c s.ls.items (.off b)) (hm:m<250) :
 Ct prog 180 #[pt w,v] e (EcoR w c m s ev::R) (fun v' L'=>v'=.int .i64 (s.offE c b)∧∃ ev',EvA ev' (s.off c b)∧L'=EcoR w c (m+1) (s.off c b) (ev++ev')::R):=by
 obtain ⟨h0,hwf,hbm,hch⟩:=hx;refine eco_out fun a M ha he=>?_
 have hst:=ha.st;have hec:=ha.ec;have hup:=hst.ups;have hms:=hst.steps;have hst2:=ESt.off_ok hst hm hbm;have hok2:=ha.to hst2 (Nat.le_succ m) rfl rfl;refine Ct.of_sep (RdB.one (hv.ent (show Ent (ecoM w c s a M R) R from zE))) fun o1=>?_
 refine Ct.enter (args:=[_,_]) func180 rfl ntmps180 results180 rfl ?_;refine wB ?_;refine O.call rfl rfl (Ct.at zP (uOffer_spec _ e a.gu a.ud pump (ecoPol c) s.up v b (hv.ent zE) hwf hbm zo)) ?_;rintro _ _ ⟨rfl,rfl⟩;rw [show s.up.offE pump (ecoPol c) b=s.offE c b from rfl];rw [show s.up.offS pump (ecoPol c) b=(s.off c b).up from rfl];obtain ⟨s2,hs2⟩:∃ s2:ESt,s2=s.off c b:=⟨_,rfl⟩
 have hrne:s2.fs.recs≠[]:=by rw [hs2];exact hst.some h0
 by_cases hE:s.offE c b=0
 rotate_left
 ·generalize s.offE c b=E at *
  refine wB ?_;refine Fin.ret (EcoR w c (m+1) (s.off c b) ev::R) rfl (Ent.trans (show Ent _ (ecoM w c (s.off c b) a M R) from zE) (eco_in hok2 he)) ⟨rfl,[],EvA.nil,by rw [List.append_nil]⟩
 rw [hE];refine wB ?_;refine O.call rfl rfl (bDecode_spec _ e v b (hv.ent zE) hwf) ?_;rintro _ _ ⟨N,um,vp,ur,ua,uq,uc,rfl,hN,rfl⟩;refine O.of_sep (RdB.one (hN.man.ent (one_in zP))) fun q1=>?_
 refine O.of_sep (hN.path.ent (one_in zP)).one fun q2=>?_
 refine O.of_sep (RdB.one (hN.sgd.root.ent (one_in zP))) fun q3=>?_
 refine O.of_sep (hN.sgd.sig.ent (one_in zP)).parts.one fun q4=>?_
 refine O.of_sep (hN.sgd.sig.ent (one_in zP)).path.one fun q5=>?_
 refine O.of_sep (hN.gs.ent (one_in zP)).one fun q6=>?_
 (repeat (refine wA ?_;intros))
 rename_i g6;have hwb:∀ (X:List Res),Ent (Blk w (a.cells c (s.off c b)) tWld (0,0)::X) (WBlk w c (s.off c b) a::X):=fun X=>wblk_in (ve:=a.ve)
 refine A.begin (id:=4) [] (WBlk w c (s.off c b) a::Blk g6 (bunC b um vp ur ua uq uc) tBun (0,0)::N::R) mixed ?_;refine A.take 0 _ rfl zK (Ent.trans (Ent.pull (show Pull _ (Blk w (a.cells c (s.off c b)) tWld (0,0)) _ from zP) Ent.rfl) (Ent.trans (hwb _) zE)) (Val.move rfl) rfl ?_;refine A.take 1 _ rfl zK (Ent.trans (Ent.pull (show Pull _ (Blk w (a.cells c (s.off c b)) tWld (0,0)) _ from zP) Ent.rfl) (Ent.trans (hwb _) zE)) (Val.move rfl) rfl ?_;refine A.take 2 _ rfl zK (Ent.trans (Ent.pull (show Pull _ (Blk w (a.cells c (s.off c b)) tWld (0,0)) _ from zP) Ent.rfl) (Ent.trans (hwb _) zE)) (Val.nilCheck rfl) rfl ?_;refine A.take 3 _ rfl zK (Ent.trans (Ent.pull (show Pull _ (Blk w (a.cells c (s.off c b)) tWld (0,0)) _ from zP) Ent.rfl) (Ent.trans (hwb _) zE)) (Val.fieldAddr rfl) rfl ?_;refine A.take 4 _ rfl zK (Ent.trans (Ent.pull (show Pull _ (Blk w (a.cells c (s.off c b)) tWld (0,0)) _ from zP) Ent.rfl) (Ent.trans (hwb _) zE)) (Val.load rfl (wblk_rd .zero)) rfl ?_;refine A.take 7 _ rfl zK (Ent.trans (Ent.pull (show Pull _ (Blk w (a.cells c (s.off c b)) tWld (0,0)) _ from zP) Ent.rfl) (Ent.trans (hwb _) zE)) (Val.fieldAddr rfl) rfl ?_;refine A.take 8 _ rfl zK (Ent.trans (Ent.pull (show Pull _ (Blk w (a.cells c (s.off c b)) tWld (0,0)) _ from zP) Ent.rfl) (Ent.trans (hwb _) zE)) (Val.load rfl zR) rfl ?_;refine tO 5 ?_;refine Do.call rfl rfl (Ct.at zP (uVersion_spec _ e a.gu a.ud pump (ecoPol c) (s.off c b).up)) ?_;rintro _ _ ⟨rfl,rfl⟩;refine ⟨fun _=>(Ent.trans (Ent.pull (show Pull _ (Blk w (a.cells c (s.off c b)) tWld (0,0)) _ from zP) Ent.rfl) (Ent.trans (hwb _) zE)),?_⟩
 refine A.take 6 _ rfl zK (Ent.trans (Ent.pull (show Pull _ (Blk w (a.cells c (s.off c b)) tWld (0,0)) _ from zP) Ent.rfl) (Ent.trans (hwb _) zE)) (Val.convInt rfl) rfl ?_
 generalize IntKind.i64.wrap ((s.off c b).up.m.ver:Int)=vn
 refine tO 9 ?_;refine Do.call rfl rfl (mID_spec _ e um b.man (hN.man.ent (one_in (show Pull _ N _ from zP))) zo) ?_;rintro _ _ ⟨ad,kk,rfl,rfl⟩;refine ⟨fun _=>(Ent.trans (Ent.pull (show Pull _ (Blk w (a.cells c (s.off c b)) tWld (0,0)) _ from zP) Ent.rfl) (Ent.trans (hwb _) zE)),?_⟩;refine tO 10 ?_;refine Do.call rfl rfl (Ct.at2 zP zP (eEvent_spec _ e w c (s.off c b) a 5 vn 0 (.slice ad (leafP b.man).length kk) (leafP b.man) rfl zo)) ?_;rintro _ _ ⟨rfl,ve,rfl⟩;refine ⟨fun _=>Ent.trans (wblk_in (ve:=ve)) zE,?_⟩;refine A.done zK ?_;have hok3:=(hok2.more (two1 (A:=M) (B:=OwnB (.slice ad (leafP b.man).length kk) (leafP b.man)))).seen (x:=⟨5,vn,0,.slice ad (leafP b.man).length kk,leafP b.man⟩) ve (RdSl.ent (RdSl.own .zero) two2) zo;refine wB ?_;refine Fin.ret (EcoR w c (m+1) (s.off c b) (ev++[(5,vn,0,leafP b.man)])::R) rfl (Ent.trans ?_ (eco_in hok3 (by dsimp only;rw [List.map_append,he];rfl))) ⟨rfl,_,?_,rfl⟩
 ·exact Ent.trans (pull2_all (A:=M) (B:=OwnB (.slice ad (leafP b.man).length kk) (leafP b.man)) zP zP) zE
 ·intro y hy;rw [List.mem_singleton.1 hy];exact ⟨(by decide:(5:Int)≠3),.inr (by rw [← hs2];exact hrne)⟩
theorem countP_all {p:Pol} {c:Chk} (hp:p.wits.length≤4):∀ (l:List Csg) (seen:List Nat),(∀ g∈l,g.ver p c∧¬ g.wit∈seen)→(l.map (·.wit)).Nodup→countP p c l seen=l.length
 | [],_,_,_=>rfl
 | g::l,seen,h,hn=>by
  rw [List.map_cons,List.nodup_cons] at hn
  obtain ⟨h1,h2⟩:=h g (List.mem_cons_self ..);have h3:=h1.1;unfold countP
  rw [if_pos ⟨by omega,h2,h1⟩,countP_all hp l (g.wit::seen) (fun x hx=>⟨(h x (List.mem_cons_of_mem _ hx)).1,fun q=>by
   rcases List.mem_cons.1 q with q|q
   ·exact hn.1 (by rw [← q];exact List.mem_map.2 ⟨x,hx,rfl⟩)
   ·exact (h x (List.mem_cons_of_mem _ hx)).2 q⟩) hn.2,List.length_cons,Nat.add_comm]
def ESt.rep (c:ECfg) (s:ESt) (j:Nat) (g:Csg) (size:Nat):ESt:={ s with fd:=s.fd.repS (ecoPol c) j g size s.time,n:=s.n+1 }
def ESt.repE (c:ECfg) (s:ESt) (j:Nat) (g:Csg) (size:Nat):Int:=if s.fd.repB (ecoPol c) j g size=true then 0 else 22
theorem keep_same (p:Pol) (s:FdSt) (w:Nat) (g:Csg):(s.keep p w g).cur=s.cur∧(s.keep p w g).kept=s.kept++[g]∧((p.quorum≤(s.kept++[g]).length∧(s.keep p w g).done=s.curV∧(s.keep p w g).enough=s.kept++[g])∨((s.keep p w g).done=s.done∧(s.keep p w g).enough=s.enough)):=by
 unfold FdSt.keep
 split
 ·rename_i h;exact ⟨rfl,rfl,.inl ⟨h,rfl,rfl⟩⟩
 ·exact ⟨rfl,rfl,.inr ⟨rfl,rfl⟩⟩
theorem ESt.rep_ok {c:ECfg} {m:Nat} {s:ESt} {j size:Nat} {g:Csg} (h:s.ok c m) (hm:m<250):(s.rep c j g size).ok c (m+1):=by
 have ht:=h.time;have hn:=h.nb;have hk:=h.cfg.k;have hlen:=ecoPol_len c;have hfd:(s.fd.repS (ecoPol c) j g size s.time).ok c.k (s.n+1):=FdSt.repS_ok h.fd (fun q=>q.2.1) zo zo zo;have hn2:s.n+1≤4*(m+1):=by omega
 unfold ESt.rep
 by_cases hh:s.fd.hears j
 rotate_left
 ·have hr:s.fd.repS (ecoPol c) j g size s.time=s.fd:=by unfold FdSt.repS;rw [if_pos hh]
  rw [hr] at hfd ⊢
  exact { h.next hm with fd:=hfd,nb:=hn2 }
 by_cases htk:s.fd.takes (ecoPol c) j g
 ·have hr:s.fd.repS (ecoPol c) j g size s.time=s.fd.keep (ecoPol c) j g:=by unfold FdSt.repS;rw [if_neg (fun q=>q hh),if_pos htk]
  rw [hr] at hfd ⊢
  obtain ⟨q1,q2,q3⟩:=keep_same (ecoPol c) s.fd j g;obtain ⟨y,hy⟩:=Option.isSome_iff_exists.1 hh.1;have hyv:s.fd.curV=y:=by unfold FdSt.curV;rw [hy];rfl
  have hver:∀ x∈s.fd.kept++[g],x.ver (ecoPol c) s.fd.curV.chk:=fun x hx=>by
   rcases List.mem_append.1 hx with hx|hx
   ·exact h.kept x hx
   ·rw [List.mem_singleton.1 hx];exact htk.2
  have hku:=hfd.keptU;rw [q2] at hku
  exact { h.next hm with
   fd:=hfd
   nb:=hn2
   cur:=fun x hx=>h.cur x (by rw [← q1];exact hx)
   idle:=fun hx=>by
    have hx:s.fd.cur=none:=by rw [← q1];exact hx
    rw [hy] at hx;cases hx
   kept:=fun x hx=>by
    show x.ver _ (FdSt.curV (s.fd.keep (ecoPol c) j g)).chk
    rw [curV_of q1];exact hver x (by rw [← q2];exact hx)
   done:=fun hx=>by
    show Hon _ (FdSt.done (s.fd.keep (ecoPol c) j g))∧0<(FdSt.done (s.fd.keep (ecoPol c) j g)).chk.size∧metP _ (FdSt.done (s.fd.keep (ecoPol c) j g)).chk (FdSt.enough (s.fd.keep (ecoPol c) j g))
    rcases q3 with ⟨q4,q5,q6⟩|⟨q5,q6⟩
    ·rw [q5,q6];refine ⟨by rw [hyv];exact (h.cur y hy).1,by rw [hyv];exact (h.cur y hy).2,?_⟩;unfold metP;rw [countP_all zo _ [] (fun x hx=>⟨hver x hx,List.not_mem_nil⟩) hku];exact q4
    ·rw [q5,q6];exact h.done (by rw [← q6];exact hx) }
 ·by_cases htn:s.fd.turns j size
  ·have hr:s.fd.repS (ecoPol c) j g size s.time=s.fd.turn j size s.time:=by unfold FdSt.repS;rw [if_neg (fun q=>q hh),if_neg htk,if_pos htn]
   rw [hr] at hfd ⊢
   obtain ⟨y,hy⟩:=Option.isSome_iff_exists.1 hh.1
   exact { h.next hm with
    fd:=hfd
    nb:=hn2
    cur:=fun x hx=>h.cur x hx
    idle:=fun hx=>by
     have hx:s.fd.cur=none:=hx;rw [hy] at hx;cases hx
    kept:=fun x hx=>h.kept x hx
    done:=fun hx=>h.done hx }
  ·have hr:s.fd.repS (ecoPol c) j g size s.time=s.fd:=by unfold FdSt.repS;rw [if_neg (fun q=>q hh),if_neg htk,if_neg htn]
   rw [hr] at hfd ⊢
   exact { h.next hm with fd:=hfd,nb:=hn2 }
theorem eYes_spec (R:List Res) (e:World) (w:Nat) (c:ECfg) (m:Nat) (s:ESt) (ev:List (Int × Int × Int × Bts)) (v:Value) (j:Nat) (g:Csg) (hv:RdB R v (1::encCsg g)) (hx:MsgP.ok c s.ls.items (.yes j g)) (hm:m<250) :
 Ct prog 179 #[pt w,.int .i64 ((j+1:Nat):Int),v] e (EcoR w c m s ev::R) (fun v' L'=>v'=.int .i64 (s.repE c j g 0)∧L'=EcoR w c (m+1) (s.rep c j g 0) ev::R):=by
 obtain ⟨h0,hj,hgw,hgr⟩:=hx;refine eco_out fun a M ha he=>?_
 have hst:=ha.st;have ht:=hst.time;have hn:=hst.nb;have hms:=hst.steps;have hk:=hst.cfg.k;have hst2:=ESt.rep_ok (j:=j) (g:=g) (size:=0) hst hm;have hok2:=ha.to hst2 (Nat.le_succ m) rfl rfl;refine Ct.of_sep (RdB.one (hv.ent (show Ent (ecoM w c s a M R) R from zE))) fun o1=>?_
 refine Ct.enter (args:=[_,_,_]) func179 rfl ntmps179 results179 rfl ?_;refine wB ?_;refine O.call rfl rfl (read_spec _ e v (1::encCsg g) (hv.ent zE) (by rw [List.length_cons,encCsg_length hgr];omega)) ?_;rintro _ _ ⟨gr,rfl,rfl⟩
 (repeat (refine wA ?_;intros))
 rename_i g8;refine O.call rfl rfl (Ct.at zP (rbyteB _ e gr 1 _)) ?_;rintro _ _ ⟨rfl,rfl⟩;rw [show u8 1=.int .u8 1 from rfl];have hgg:=fun L=>gGet_spec L e gr g [] zo hgr (by simp)
 rw [List.append_nil] at hgg
 refine wB ?_;refine O.call rfl rfl (Ct.at zP (hgg _)) ?_;rintro _ _ ⟨N,up,uq,rfl,hN,rfl⟩;refine O.of_sep (hN.ent (one_in zP)).parts.one fun o4=>?_
 refine O.of_sep (hN.ent (one_in zP)).path.one fun o5=>?_
 refine wB ?_;refine O.call rfl rfl (rendB _ e gr []) ?_;rintro _ _ ⟨rfl,rfl⟩;rw [decide_eq_true rfl];refine wB ?_;refine A.begin (id:=12) [] (Blk g8 (csgC g up uq) tCsg (0,0)::N::Blk w (a.cells c s) tWld (0,0)::R) mixed ?_
 (refine tM 0 ?_;refine tN 1 ?_;refine tF 2 ?_;refine tL 3 ?_;refine tM 4 ?_;refine tk 5 _ rfl (Val.sub64 rfl rfl zo) ?_;refine tJ 6 ?_;refine tM 7 ?_;refine tM 8 ?_;refine tN 9 ?_;refine tF 10 ?_;refine tL 11 ?_)
 rw [show (((j+1:Nat):Int) - 1)=(j:Int) by omega];refine tO 12 ?_;refine Do.call rfl rfl (Ct.at zP (fdReply_spec _ e a.gfd (ecoPol c) c.retry s.n s.fd j up uq g 0 s.time (hN.ent (one_in (show Pull _ N _ from zP))) zo zo zo zo zo)) ?_;rintro _ _ ⟨rfl,rfl⟩;refine ⟨fun _=>zE,?_⟩;unfold ESt.repE
 cases hb:s.fd.repB (ecoPol c) j g 0 with
 | true =>
  (refine tk 13 _ rfl (Val.not_t rfl) ?_;refine tA 14 ?_)
  refine A.done zK ?_;refine wB ?_;refine Fin.ret (EcoR w c (m+1) (s.rep c j g 0) ev::R) rfl (Ent.trans (show Ent _ (ecoM w c (s.rep c j g 0) a M R) from zE) (eco_in hok2 he)) ⟨rfl,rfl⟩
 | false =>
  (refine tk 13 _ rfl (Val.not_f rfl) ?_;refine tA 14 ?_)
  refine A.done zK ?_;refine wB ?_;refine Fin.ret (EcoR w c (m+1) (s.rep c j g 0) ev::R) rfl (Ent.trans (show Ent _ (ecoM w c (s.rep c j g 0) a M R) from zE) (eco_in hok2 he)) ⟨rfl,rfl⟩
theorem eNo_spec (R:List Res) (e:World) (w:Nat) (c:ECfg) (m:Nat) (s:ESt) (ev:List (Int × Int × Int × Bts)) (v:Value) (j z:Nat) (hv:RdB R v (0::be z 4)) (hx:MsgP.ok c s.ls.items (.no j z)) (hm:m<250) :
 Ct prog 179 #[pt w,.int .i64 ((j+1:Nat):Int),v] e (EcoR w c m s ev::R) (fun v' L'=>v'=.int .i64 (s.repE c j csg0 z)∧L'=EcoR w c (m+1) (s.rep c j csg0 z) ev::R):=by
 obtain ⟨h0,hj,hz⟩:=hx;refine eco_out fun a M ha he=>?_
 have hst:=ha.st;have ht:=hst.time;have hn:=hst.nb;have hms:=hst.steps;have hk:=hst.cfg.k;have hst2:=ESt.rep_ok (j:=j) (g:=csg0) (size:=z) hst hm;have hok2:=ha.to hst2 (Nat.le_succ m) rfl rfl;refine Ct.of_sep (RdB.one (hv.ent (show Ent (ecoM w c s a M R) R from zE))) fun o1=>?_
 refine Ct.enter (args:=[_,_,_]) func179 rfl ntmps179 results179 rfl ?_;refine wB ?_;refine O.call rfl rfl (read_spec _ e v (0::be z 4) (hv.ent zE) (by rw [List.length_cons,be_length];omega)) ?_;rintro _ _ ⟨gr,rfl,rfl⟩
 (repeat (refine wA ?_;intros))
 rename_i g8;refine O.call rfl rfl (Ct.at zP (rbyteB _ e gr 0 _)) ?_;rintro _ _ ⟨rfl,rfl⟩;rw [show u8 0=.int .u8 0 from rfl];have hgg:=fun L=>rnumB L e gr z [] zo
 rw [List.append_nil] at hgg
 refine wB ?_;refine O.call rfl rfl (Ct.at zP (hgg _)) ?_;rintro _ _ ⟨rfl,rfl⟩;refine wB ?_;refine O.call rfl rfl (rendB _ e gr []) ?_;rintro _ _ ⟨rfl,rfl⟩;rw [decide_eq_true rfl];refine wB ?_;refine A.begin (id:=12) [] (Blk g8 (csgC csg0 nY nY) tCsg (0,0)::Blk w (a.cells c s) tWld (0,0)::R) mixed ?_
 (refine tM 0 ?_;refine tN 1 ?_;refine tF 2 ?_;refine tL 3 ?_;refine tM 4 ?_;refine tk 5 _ rfl (Val.sub64 rfl rfl zo) ?_;refine tJ 6 ?_;refine tM 7 ?_;refine tM 8 ?_;refine tN 9 ?_;refine tF 10 ?_;refine tL 11 ?_)
 rw [show (((j+1:Nat):Int) - 1)=(j:Int) by omega];refine tO 12 ?_;refine Do.call rfl rfl (Ct.at zP (fdReply_spec _ e a.gfd (ecoPol c) c.retry s.n s.fd j nY nY csg0 z s.time (csg0_rd _) (by decide) zo zo zo zo)) ?_;rintro _ _ ⟨rfl,rfl⟩;refine ⟨fun _=>zE,?_⟩;unfold ESt.repE
 cases hb:s.fd.repB (ecoPol c) j csg0 z with
 | true =>
  (refine tk 13 _ rfl (Val.not_t rfl) ?_;refine tA 14 ?_)
  refine A.done zK ?_;refine wB ?_;refine Fin.ret (EcoR w c (m+1) (s.rep c j csg0 z) ev::R) rfl (Ent.trans (show Ent _ (ecoM w c (s.rep c j csg0 z) a M R) from zE) (eco_in hok2 he)) ⟨rfl,rfl⟩
 | false =>
  (refine tk 13 _ rfl (Val.not_f rfl) ?_;refine tA 14 ?_)
  refine A.done zK ?_;refine wB ?_;refine Fin.ret (EcoR w c (m+1) (s.rep c j csg0 z) ev::R) rfl (Ent.trans (show Ent _ (ecoM w c (s.rep c j csg0 z) a M R) from zE) (eco_in hok2 he)) ⟨rfl,rfl⟩
def ESt.hear (c:ECfg) (s:ESt):MsgP→ESt × Int × Int
 | .ask j x n m path=>(s.asked j x.chk n,1,s.askE j x.chk n)
 | .yes j g=>(s.rep c j g 0,2,s.repE c j g 0)
 | .no j z=>(s.rep c j csg0 z,2,s.repE c j csg0 z)
 | .off b=>(s.off c b,3,s.offE c b)
def ESt.dlv (c:ECfg) (s:ESt) (n:Nat):ESt × Int × Int:=match s.net[n]? with
 | none=>(s,0,1)
 | some x=>(s.lost n).hear c x
theorem ESt.hear_ok {c:ECfg} {m:Nat} {s:ESt} {x:MsgP} (h:s.ok c m) (hm:m<250) (hx:x.ok c s.ls.items):(s.hear c x).1.ok c (m+1):=by
 cases x with
 | ask j x n k path=>exact ESt.asked_ok h hm hx.2.1 hx.2.2.1 hx.1
 | yes j g=>exact ESt.rep_ok h hm
 | no j z=>exact ESt.rep_ok h hm
 | off b=>exact ESt.off_ok h hm hx.2.2.1
theorem ESt.dlv_ok {c:ECfg} {m:Nat} {s:ESt} {n:Nat} (h:s.ok c m) (hm:m<250):(s.dlv c n).1.ok c (m+1):=by
 unfold ESt.dlv
 split
 ·exact h.next hm
 ·rename_i x hx;exact ESt.hear_ok (ESt.lost_ok h) hm (h.net x (List.mem_of_getElem? hx))
def ESt.bunV (s:ESt) (i:Nat):Bun:=⟨s.ls.items.getD i [],i,s.fd.done.chk.size,pathP ((s.ls.items.take s.fd.done.chk.size).map leafP) i,s.fd.done,s.fd.enough⟩
def ESt.srv (s:ESt) (i:Nat):ESt × Int:=if s.fd.enough=[] then (s,22) else if ¬ i<s.fd.done.chk.size then (s,22) else if s.net.length<32 then (s.send (.off (s.bunV i)),0) else (s,13)
theorem ESt.ok.leaf {c:ECfg} {m:Nat} {s:ESt} (h:s.ok c m) {b:Bts} (hb:b∈s.ls.items):manOk b∧b.length≤200 :=
 h.fs.good b (h.perm.mem_iff.1 (List.mem_append_left _ hb))
theorem ESt.ok.few2 {c:ECfg} {m:Nat} {s:ESt} (h:s.ok c m):s.ls.items.length≤250:=by
 have h1:=h.perm.length_eq;have h2:=h.few;have h3:=h.steps;rw [List.length_append] at h1
 omega
theorem ESt.bunV_good {c:ECfg} {m:Nat} {s:ESt} {i:Nat} (h:s.ok c m) (he:s.fd.enough≠[]) (hi:i<s.fd.done.chk.size):(s.bunV i).wf∧(s.bunV i).man.length≤200∧chkB (ecoPol c) (s.bunV i)=0∧MsgP.ok c s.ls.items (.off (s.bunV i)):=by
 obtain ⟨⟨hver,hsr,hsz,hroot⟩,h0,hmet⟩:=h.done he;have hfit:=h.fd.done he;have hfew:=h.few2;have hil:i<s.ls.items.length:=by omega
 have hmem:s.ls.items.getD i []∈s.ls.items:=by rw [List.getD_eq_getElem?_getD,List.getElem?_eq_getElem hil];exact List.getElem_mem hil
 obtain ⟨hmo,hml⟩:=h.leaf hmem
 have h32:∀ a∈(s.ls.items.take s.fd.done.chk.size).map leafP,a.length=32:=by
  intro a ha;obtain ⟨b,-,rfl⟩:=List.mem_map.1 ha;exact tagP_length _ _
 have hlen:((s.ls.items.take s.fd.done.chk.size).map leafP).length=s.fd.done.chk.size:=by rw [List.length_map,List.length_take];omega
 have hpl:=pathP_length _ ((s.ls.items.take s.fd.done.chk.size).map leafP) i rfl;have hph:=pathP_hash _ ((s.ls.items.take s.fd.done.chk.size).map leafP) i rfl h32;have hlp:=leadP_path _ ((s.ls.items.take s.fd.done.chk.size).map leafP) i (leafP (s.ls.items.getD i [])) rfl zo;rw [hlen] at hpl hlp
 have hl8:longP s.fd.done.chk.size i≤8:=longP_le 8 _ _ zo
 have hset:((s.ls.items.take s.fd.done.chk.size).map leafP).set i (leafP (s.ls.items.getD i []))=(s.ls.items.take s.fd.done.chk.size).map leafP:=by
  refine set_same _ _ _ ?_;rw [List.getElem?_map,List.getElem?_take_of_lt hi,List.getElem?_eq_getElem hil,Option.map_some,List.getD_eq_getElem?_getD,List.getElem?_eq_getElem hil];rfl
 have hk:=h.cfg.k;have hfw:=h.fd.few2
 have hwf:(s.bunV i).wf :=
  {man:=by show (s.ls.items.getD i []).length≤65535;omega
   idx:=by show i≤256;omega
   size:=by show s.fd.done.chk.size≤256;omega
   few:=by show (pathP _ i).length≤16;omega
   h32:=hph
   chk:=hfit.1
   sig:=hsr
   most:=by show s.fd.enough.length≤255;omega
   wits:=fun g hg=>by have:=(h.fd.enough g hg).1;omega
   sigs:=fun g hg=>(h.fd.enough g hg).2 }
 have hchk:chkB (ecoPol c) (s.bunV i)=0:=by
  unfold chkB;rw [if_neg (show ¬ ¬ manOk (s.bunV i).man from not_not_intro hmo)];rw [if_neg (show ¬ ¬ (s.bunV i).sgd.ver (ecoPol c).log from not_not_intro hver)]
  rw [if_neg (show ¬ ¬ ((s.bunV i).size=(s.bunV i).sgd.chk.size∧proofP (s.bunV i).idx (s.bunV i).size (s.bunV i).path (leafP (s.bunV i).man) (s.bunV i).sgd.chk.root) from not_not_intro ⟨rfl,⟨by show (pathP _ i).length≤16;omega,hph⟩,tagP_length _ _,hi,hpl,by
   show leadP s.fd.done.chk.size i (pathP _ i) _=s.fd.done.chk.root
   exact (hlp.trans (congrArg rootP hset)).trans hroot.symm⟩)]
  rw [if_neg (show ¬ ¬ metP (ecoPol c) (s.bunV i).sgd.chk (s.bunV i).cosigs from not_not_intro hmet)]
 exact ⟨hwf,hml,hchk,by omega,hwf,hml,hchk⟩
end Go.Proofs
namespace Go.Proofs
open Go.Bs
attribute [local irreducible] Bs.Val Bs.Do Bs.O Bs.W Bs.Fin Bs.A Bs.Ct Bs.RdSl Bs.Rd Bs.Sat Bs.Blk Bs.Ob Bs.Own Bs.View Bs.Ent Bs.Ex Bs.All Bs.Pu Bs.Base Bs.sepL Bs.RdA
def est0 (c:ECfg):ESt:=⟨⟨[],0,none⟩,⟨[],[]⟩,List.replicate c.k ⟨[],0,csg0,false⟩,fd0 c.k,0,⟨[]⟩,⟨[],none⟩,[],0,none⟩
theorem est0_ok {c:ECfg} (h:c.ok):(est0 c).ok c 0 where
 cfg:=h
 steps:=Nat.zero_le _
 ls:=⟨fun r hr=>(by cases hr),List.nodup_nil,Nat.zero_le _,fun b hb=>(by cases hb),Nat.zero_le _,fun x hx=>(by cases hx)⟩
 last:=fun x hx=>(by cases hx)
 fs:=⟨Nat.zero_le _,fun b hb=>(by cases hb),Nat.zero_le _,fun b hb=>(by cases hb),fun b hb=>(by cases hb)⟩
 recs:=List.nodup_nil
 few:=Nat.zero_le _
 perm:=List.Perm.refl _
 wl:=List.length_replicate
 ws:=fun w hw=>by
  obtain rfl:=(List.mem_replicate.1 hw).2;exact ⟨⟨fun x hx=>(by cases hx),List.Pairwise.nil,fun x hx=>(by cases hx),Nat.zero_le _,csg0_fits⟩,Nat.zero_le _,HonC.empty _⟩
 yes:=fun i w hw hs=>by
  have hm:w∈List.replicate c.k (⟨[],0,csg0,false⟩:WSt):=List.mem_of_getElem? hw;obtain rfl:=(List.mem_replicate.1 hm).2
  cases hs
 fd:=fd0_ok _
 nb:=Nat.zero_le _
 cur:=fun x hx=>(by cases hx)
 idle:=fun _=>rfl
 kept:=fun g hg=>(by cases hg)
 done:=fun hd=>absurd rfl hd
 up:=⟨Nat.zero_le _,fun b hb=>(by cases hb),fun b hb=>(by cases hb),fun b hb=>(by cases hb),List.Pairwise.nil⟩
 ups:=Nat.zero_le _
 mo:=⟨Nat.zero_le _,fun b hb=>(by cases hb),fun x hx=>(by cases hx)⟩
 mop:=rfl
 net:=fun x hx=>(by cases hx)
 room:=Nat.zero_le _
 time:=Nat.zero_le _
 signed:=fun x hx=>(by cases hx)
def cA:ECfg:=⟨1,1,4,1,0,1⟩
theorem cA_ok:cA.ok where
 k:=by decide
 quorum:=by decide
 f:=⟨by decide,by decide,by decide⟩
 retry:=by decide
 pol:=⟨pubP_length _,by decide,by decide,by decide,fun w hw=>by
  obtain ⟨i,-,rfl⟩:=List.mem_map.1 hw
  exact pubP_length _,by
  show [pubP (ecoSeed 1)].Nodup
  exact List.nodup_cons.2 ⟨List.not_mem_nil,List.nodup_nil⟩⟩
def bA:Bts:=itemK 0 1 1
theorem bA_ok:manOk bA∧bA.length≤200∧(manOf bA).name=pump∧(manOf bA).ver=2:=by
 obtain ⟨h1,h2⟩:=manK_right 0 1 1;obtain ⟨h3,h4⟩:=man_enc h1 h2;refine ⟨h3,?_,?_,?_⟩
 ·show (encM (manK 0 1 1)).length≤200
  rw [encM_length];have:=h1.1.2.1;have:=h1.2.2.1;have:=h1.2.2.2
  omega
 ·show (manOf (encM (manK 0 1 1))).name=pump
  rw [h4];decide
 ·show (manOf (encM (manK 0 1 1))).ver=2
  rw [h4];decide
theorem leafP_len (b:Bts):(leafP b).length=32:=tagP_length _ _
attribute [local irreducible] bA signP leafP growP ecoSeed manOk manOf pubP verP sha
abbrev wA0:WSt:=⟨[],0,csg0,false⟩
def chA:Chk:=⟨1,rootP [leafP bA]⟩
def xA:Sgd:=signC (ecoSeed 0) 0 chA
def gA:Csg:=signG (ecoSeed 1) 0 0 chA
abbrev lA:LSt:=⟨[[bA]],1,some xA⟩
abbrev fA:FSt:=⟨[bA],[]⟩
def sA1:ESt:=⟨⟨[],0,none⟩,⟨[bA],[(bA,0)]⟩,[wA0],fd0 1,0,⟨[]⟩,⟨[],none⟩,[],0,none⟩
def sA2:ESt:=⟨⟨[],0,none⟩,⟨[bA],[(bA,0)]⟩,[wA0],fd0 1,0,⟨[]⟩,⟨[],none⟩,[],1,none⟩
def sA3:ESt:=⟨⟨[[bA]],0,none⟩,fA,[wA0],fd0 1,0,⟨[]⟩,⟨[],none⟩,[],1,none⟩
def sA4:ESt:=⟨lA,fA,[wA0],⟨[⟨1,0,0⟩],1,[⟨0,0,false⟩],some xA,[],sgdZ,[]⟩,1,⟨[]⟩,⟨[],none⟩,[],1,some chA⟩
def qA:List Bts:=growP [leafP bA] 0
def sA5:ESt:=⟨lA,fA,[wA0],⟨[⟨2,1,0⟩],2,[⟨0,1,false⟩],some xA,[],sgdZ,[]⟩,2,⟨[]⟩,⟨[],none⟩,[.ask 0 xA 0 1 qA],1,some chA⟩
abbrev wA1:WSt:=⟨[chA],1,gA,true⟩
def sA6:ESt:=⟨lA,fA,[wA1],⟨[⟨2,1,0⟩],2,[⟨0,1,false⟩],some xA,[],sgdZ,[]⟩,2,⟨[]⟩,⟨[],none⟩,[.yes 0 gA],1,some chA⟩
def sA7:ESt:=⟨lA,fA,[wA1],⟨[],2,[⟨1,1,true⟩],some xA,[gA],xA,[gA]⟩,3,⟨[]⟩,⟨[],none⟩,[],1,some chA⟩
def sA8:ESt:=sA7.send (.off (sA7.bunV 0))
def sA9:ESt:={ sA7 with up:=⟨[bA]⟩ }
theorem run1:(est0 cA).sub cA bA=sA1∧((est0 cA).fs.submit cA.f (est0 cA).ls.items bA ((est0 cA).time:Int)).1=1:=by
 have h:(est0 cA).fs.submit cA.f (est0 cA).ls.items bA ((est0 cA).time:Int)=(1,0,⟨[bA],[(bA,0)]⟩):=by
  unfold FSt.submit;rw [if_neg (not_not_intro bA_ok.1),if_neg (show ¬ bA∈(est0 cA).ls.items from List.not_mem_nil),if_neg (show ¬ bA∈(est0 cA).fs.q.map (·.1) from List.not_mem_nil),if_neg (show ¬ cA.f.room≤(est0 cA).fs.q.length by decide)]
  rfl
 unfold ESt.sub;rw [h];exact ⟨rfl,rfl⟩
theorem run2:sA1.tik 1=sA2:=rfl
theorem run3:sA2.stp cA=sA3:=by
 unfold ESt.stp;rw [if_pos (show sA2.fs.dueNow cA.f (sA2.time:Int)=true from by show dueQ [(bA,0)] 1 0 1=true;unfold dueQ;exact decide_eq_true (.inl (by decide)))]
 have h:sA2.ls.fresh (sA2.fs.some cA.f)=[bA]:=by
  show freshP [] [] [bA]=[bA]
  unfold freshP;rw [if_neg (show ¬ bA∈([]:List Bts)++[] from List.not_mem_nil)]
  rfl
 unfold LSt.add;rw [h,if_neg (by intro h;cases h)]
 rfl
theorem xA_ver:xA.ver ecoLog:=⟨⟨by show 1≤256;decide,hashes_root fun a ha=>by rw [List.mem_singleton.1 ha];exact leafP_len _⟩,ver_sign (by decide)⟩
theorem run4:sA3.pub cA=sA4:=by
 have hs:¬ sA3.ls.same:=fun h=>by cases h.1
 have hk:sA3.ls.keys<16:=by decide
 have hp:sA3.ls.pub (ecoSeed 0)=lA:=by
  unfold LSt.pub;rw [if_neg hs,if_pos hk]
  rfl
 have hv:sA3.pubV=xA:=by unfold ESt.pubV;rw [hp];rfl
 unfold ESt.pub;rw [if_pos (.inr hk)];unfold ESt.pub1;rw [hv,hp,if_pos (show 0<xA.chk.size from by show 0<1;decide)];unfold FdSt.offS;rw [if_pos (show sA3.fd.offB (ecoPol cA) xA from ⟨xA_ver,fun c hc=>by cases hc⟩)]
 rfl
theorem run5:sA4.askS cA=sA5:=rfl
theorem run6:sA5.dlv cA 0=(sA6,1,0):=by
 show ((sA5.lost 0).asked 0 xA.chk 0,1,(sA5.lost 0).askE 0 xA.chk 0)=_
 rfl
theorem run7:(sA6.dlv cA 0).1=sA7:=by
 show (sA6.lost 0).rep cA 0 gA 0=sA7
 have hv:gA.ver (ecoPol cA) chA:=⟨by decide,ver_sign (by decide)⟩
 unfold ESt.rep FdSt.repS;rw [if_neg (show ¬ ¬ (sA6.lost 0).fd.hears 0 from not_not_intro ⟨rfl,by decide,rfl⟩),if_pos (show (sA6.lost 0).fd.takes (ecoPol cA) 0 gA from ⟨rfl,hv⟩)]
 rfl
theorem run8:sA7.srv 0=(sA8,0):=by
 unfold ESt.srv;rw [if_neg (show ¬ sA7.fd.enough=[] from by intro h;cases h),if_neg (show ¬ ¬ 0<sA7.fd.done.chk.size from by show ¬ ¬ 0<1;decide),if_pos (show sA7.net.length<32 by decide)]
 rfl
theorem sA7_ok:sA7.ok cA 7:=by
 have h1:=ESt.sub_ok (b:=bA) (est0_ok cA_ok) (by decide) bA_ok.2.1;rw [run1.1] at h1
 have h2:=ESt.tik_ok (n:=1) h1 (by decide) (by decide);rw [run2] at h2
 have h3:=ESt.stp_ok h2 (by decide);rw [run3] at h3
 have h4:=ESt.pub_ok h3 (by decide);rw [run4] at h4
 have h5:=ESt.ask_ok h4 (by decide);rw [run5] at h5
 have h6:=ESt.dlv_ok (n:=0) h5 (by decide);rw [run6] at h6
 have h7:=ESt.dlv_ok (n:=0) h6 (by decide);rw [run7] at h7
 exact h7
theorem run9:(sA8.dlv cA 0).1=sA9:=by
 show (sA8.lost 0).off cA (sA7.bunV 0)=sA9
 have hb:=(ESt.bunV_good sA7_ok (i:=0) (by intro h;cases h) (by show 0<1;decide)).2.2.1
 have ho:(sA8.lost 0).up.offE pump (ecoPol cA) (sA7.bunV 0)=0:=by
  unfold USt.offE
  rw [hb,if_neg (not_not_intro rfl),if_neg (show ¬ (manOf (sA7.bunV 0).man).name≠pump from not_not_intro bA_ok.2.2.1),if_neg (show ¬ (manOf (sA7.bunV 0).man).ver≤(sA8.lost 0).up.m.ver from by
   show ¬ (manOf bA).ver≤0
   rw [bA_ok.2.2.2];decide)]
 unfold ESt.off USt.offS;rw [if_pos ho]
 rfl
theorem run7n:sA7.dlv cA 0=(sA7,0,1):=rfl
theorem run10:sA9.up.m.ver=2:=bA_ok.2.2.2
end Go.Proofs
namespace Go.Bs
theorem RdA.ex {α:Sort _} {f:α→Res} {R:List Res} {g o:Nat} {cs:List Value} (h:∀ x,RdA (f x::R) g o cs):RdA (Ex f::R) g o cs:=fun j u hj=>Rd.ex fun x=>h x j u hj
end Go.Bs
namespace Go.Proofs
open Go.Bs
attribute [local irreducible] Bs.Val Bs.Do Bs.O Bs.W Bs.Fin Bs.A Bs.Ct Bs.RdSl Bs.Rd Bs.Sat Bs.Blk Bs.Ob Bs.Own Bs.View Bs.Ent Bs.Ex Bs.All Bs.Pu Bs.Base Bs.sepL Bs.RdA
abbrev tPar:TypeId:=249
abbrev tPw:TypeId:=49
abbrev tCfg:TypeId:=47
abbrev nlS:Value:=nY
abbrev nlP:Value:=.pointer none
abbrev cfgC (c:ECfg):List Value:=[.int .i64 (c.k:Int),.int .i64 (c.quorum:Int),.int .i64 (c.room:Int),.int .i64 (c.size:Int),.int .i64 (c.wait:Int),.int .i64 (c.retry:Int),.int .i64 1048576,.string (str pump)]
def mapI (v:Value) (_:Nat→Value):List Res:=match v with|.map (some g)=>[MpK keyI g []]|_=>[]
def mapP (v:Value) (_:Nat→Value):List Res:=match v with|.map (some g)=>[MpK keyP g []]|_=>[]
def boxW (v:Value) (u:Value):List Res:=match v,u with|.pointer (some ⟨g,_,_⟩),.agg cs=>[Blk g cs.toList tWld (0,0)]|_,_=>[]
def celW (p:Value) (v:Value):List Res:=match p with|.pointer (some ⟨g,_,_⟩)=>[Blk g [v] tPw (0,0)]|_=>[]
def PubR (v:Value) (b:Bts):Res:=Ex fun M=>All [Pu (RdB [M] v b),M]
theorem pubR_in {v:Value} {b:Bts} {M:Res} {R:List Res} (h:RdB [M] v b):Ent (M::R) (PubR v b::R) :=
 Ent.trans (pu_in h) (Ent.trans (all_in (M:=[_,_])) (ex_in (f:=fun M=>All [Pu (RdB [M] v b),M]) M))
abbrev wldP (c:ECfg) (va vl vf vws vfd vu vm vn vpl vpw:Value) (mr ml mc:Nat):List Value:=wldC c va vl vf vws vfd vu vm vn vpl vpw (.int .i64 0) nlS (.map (some mr)) (.map (some ml)) (.int .i64 0) nlS (.bool false) (.map (some mc))
structure NewI where
 vs:List (Value × Nat × Nat)
 wd:List (Nat × Nat)
 ts:List Txt
 ap:Option Addr
 kp:Nat
 aw:Option Addr
 kw:Nat
 M:Res
def wdL (l:List (Nat × Nat)):List Res:=l.flatMap fun p=>[Disk p.1 (disk0 []),Disk p.2 (disk0 [])]
abbrev parC (w:Nat) (vl:Value) (vs:List (Value × Nat × Nat)):List Value:=[vl,.func (.func 160) #[ptr w] #[]]++vs.flatMap fun x=>[x.1,.func (.func 161) #[] #[ptr x.2.1,ptr x.2.2]]
structure NewI.ok (i:NewI) (c:ECfg) (w g4 ld lk fd:Nat) (vl x:Value):Prop where
 le:i.vs.length≤c.k
 wl:i.wd.length=i.vs.length
 tl:i.ts.map (·.2)=(List.range i.vs.length).map fun j=>pubP (ecoSeed (j+1))
 hx:RdB [i.M] x ecoLog
 h4:Rd [i.M] ⟨g4,0,none⟩ (ptr w)
 tx:Txts [i.M] i.ts
 lo:RdSl [i.M] 1 vl 3 [ptr ld,ptr lk,ptr fd]
 ps:∀ j (h:j<i.vs.length) (h2:j<i.wd.length),RdSl [i.M] 1 (i.vs[j]).1 2 [ptr (i.wd[j]).1,ptr (i.wd[j]).2]∧Rd [i.M] ⟨(i.vs[j]).2.1,0,none⟩ (ptr w)∧Rd [i.M] ⟨(i.vs[j]).2.2,0,none⟩ (.int .i64 (j:Int))
abbrev newM (i:NewI) (c:ECfg) (w gc gw ld lk fd mr ml mc:Nat) (vl x:Value) (R:List Res):List Res :=
 Own tPar 2 (.slice i.ap (i.vs.length+1) i.kp) (i.vs.length+1) (parC w vl i.vs)::OwnT (.slice i.aw i.ts.length i.kw) i.ts::All (wdL i.wd)::Blk w (wldP c (.slice i.ap (i.vs.length+1) i.kp) nlP nlP (.slice (some ⟨gw,0,none⟩) c.k c.k) nlP nlP nlP nlP x (.slice i.aw i.ts.length i.kw) mr ml mc) tWld (0,0)::Own tWp 1 (.slice (some ⟨gw,0,none⟩) c.k c.k) c.k (List.replicate c.k nlP)::All (disksL [ld,lk,fd])::MpK keyI mr []::MpK keyI ml []::MpK keyP mc []::i.M::Blk gc (cfgC c) tCfg (0,0)::R
theorem four {A B C D X:Res} {L':List Res} (p:Pull [A,B,C,D] X L'):Ent [All [A,B,C,D]] [X]:=Ent.trans (all_out (M:=[A,B,C,D]) (L:=[])) (one_in p)
theorem NewI.ok.more {i:NewI} {c:ECfg} {w g4 ld lk fd:Nat} {vl x:Value} (h:i.ok c w g4 ld lk fd vl x) (hlt:i.vs.length<c.k) {pv vd:Value} {N:Res} {gi d1 k1:Nat} {ap aw:Option Addr} {kp kw:Nat} (hN:RdB [N] pv (pubP (ecoSeed (i.vs.length+1)))) :
 NewI.ok ⟨i.vs++[(vd,g4,gi)],i.wd++[(d1,k1)],i.ts++[(pv,pubP (ecoSeed (i.vs.length+1)))],ap,kp,aw,kw,All [i.M,N,Blk gi [.int .i64 (i.vs.length:Int)] 3 (0,0),Own tDp 1 vd 2 [ptr d1,ptr k1]]⟩ c w g4 ld lk fd vl x:=by
 have f1:Ent [All [i.M,N,Blk gi [.int .i64 (i.vs.length:Int)] 3 (0,0),Own tDp 1 vd 2 [ptr d1,ptr k1]]] [i.M]:=four .zero;have f2:Ent [All [i.M,N,Blk gi [.int .i64 (i.vs.length:Int)] 3 (0,0),Own tDp 1 vd 2 [ptr d1,ptr k1]]] [N]:=four (.succ .zero);have f3:Ent [All [i.M,N,Blk gi [.int .i64 (i.vs.length:Int)] 3 (0,0),Own tDp 1 vd 2 [ptr d1,ptr k1]]] [Blk gi [.int .i64 (i.vs.length:Int)] 3 (0,0)]:=four (.succ (.succ .zero));have f4:Ent [All [i.M,N,Blk gi [.int .i64 (i.vs.length:Int)] 3 (0,0),Own tDp 1 vd 2 [ptr d1,ptr k1]]] [Own tDp 1 vd 2 [ptr d1,ptr k1]]:=four (.succ (.succ (.succ .zero)));have hw:=h.wl
 constructor
 ·simp only [List.length_append,List.length_singleton];omega
 ·simp only [List.length_append,List.length_singleton];omega
 ·simp only [List.map_append,List.length_append,List.length_singleton,List.range_succ,List.map_cons,List.map_nil,h.tl]
 ·exact h.hx.ent f1
 ·exact h.h4.ent f1
 ·intro y hy;rcases List.mem_append.1 hy with hy|hy
  ·exact (h.tx y hy).ent f1
  ·rw [List.mem_singleton.1 hy];exact hN.ent f2
 ·exact h.lo.ent f1
 ·intro j h1 h2;dsimp only at h1 h2 ⊢
  by_cases hj:j<i.vs.length
  ·have hj2:j<i.wd.length:=by omega
   obtain ⟨a,b,d⟩:=h.ps j hj hj2;simp only [List.getElem_append_left hj,List.getElem_append_left hj2];exact ⟨a.ent f1,b.ent f1,d.ent f1⟩
  ·rw [List.length_append,List.length_singleton] at h1
   obtain rfl:j=i.vs.length:=by omega
   have e1:(i.vs++[(vd,g4,gi)])[i.vs.length]'(by simp)=(vd,g4,gi):=by simp
   have e2:(i.wd++[(d1,k1)])[i.vs.length]'h2=(d1,k1):=by
    rw [List.getElem_append_right zo]
    simp
   rw [e1,e2];exact ⟨RdSl.ent (RdSl.own .zero) f4,h.h4.ent f1,Rd.ent (Rd.blk .zero rfl) f3⟩
def parF (p:Value × Value):List Value:=[p.1,p.2]
theorem parF2 (p:Value × Value):(parF p).length=2:=rfl
def parN (x:Value × Nat × Nat):Value × Value:=(x.1,.func (.func 161) #[] #[ptr x.2.1,ptr x.2.2])
abbrev parU (w:Nat):Value:=.func (.func 163) #[ptr w] #[]
def parL (w:Nat) (vl:Value) (vs:List (Value × Nat × Nat)) (vu:Value):List (Value × Value):=(vl,.func (.func 160) #[ptr w] #[])::(vs.map parN++[(vu,parU w)])
theorem parL_cells (w:Nat) (vl:Value) (vs:List (Value × Nat × Nat)) (vu:Value):(parL w vl vs vu).flatMap parF=parC w vl vs++[vu,parU w]:=by
 simp [parL,parF,parN,List.flatMap_map]
theorem parL_mid {w:Nat} {vl:Value} {vs:List (Value × Nat × Nat)} {vu:Value} {j:Nat} (h:j<vs.length):(parL w vl vs vu)[j+1]?=some (parN (vs[j]'h)):=by
 unfold parL;rw [List.getElem?_cons_succ,List.getElem?_append_left (by rw [List.length_map];exact h),List.getElem?_map,List.getElem?_eq_getElem h]
 rfl
theorem parL_end {w:Nat} {vl:Value} {vs:List (Value × Nat × Nat)} {vu:Value}:(parL w vl vs vu)[vs.length+1]?=some (vu,parU w):=by
 unfold parL;rw [List.getElem?_cons_succ,List.getElem?_append_right (by rw [List.length_map];exact Nat.le_refl _),List.length_map,Nat.sub_self]
 rfl
inductive OpS where
 | zero
 | mid (gl gf:Nat) (wx:List WX)
 | all (gl gf:Nat) (wx:List WX) (gu:Nat)
def OpS.idx (k:Nat):OpS→Nat
 | .zero=>0
 | .mid _ _ wx=>wx.length+1
 | .all ..=>k+2
abbrev w00:WSt:=⟨[],0,csg0,false⟩
abbrev l00:LSt:=⟨[],0,none⟩
def wOk (wd:List (Nat × Nat)) (wx:List WX):Prop:=∀ j (h:j<wx.length) (h2:j<wd.length),(wx[j]).d=(wd[j]).1∧(wx[j]).k=(wd[j]).2
def OpS.ok (c:ECfg) (wd:List (Nat × Nat)):OpS→Prop
 | .zero=>True
 | .mid _ _ wx=>wx.length≤c.k∧wOk wd wx
 | .all _ _ wx _=>wx.length=c.k∧wOk wd wx
def opL (c:ECfg) (w:Nat) (va vws x vpw:Value) (mr ml mc ld lk fd ud:Nat) (wd:List (Nat × Nat)):OpS→List Res
 | .zero=>[Blk w (wldP c va nlP nlP vws nlP nlP nlP nlP x vpw mr ml mc) tWld (0,0),Own tWp 1 vws c.k (List.replicate c.k nlP),Disk ld (disk0 []),Disk lk (disk0 []),Disk fd (disk0 []),All (wdL wd),Disk ud (disk0 [])]
 | .mid gl gf wx=>[Blk w (wldP c va (ptr gl) (ptr gf) vws nlP nlP nlP nlP x vpw mr ml mc) tWld (0,0),Own tWp 1 vws c.k (wx.map wptr++List.replicate (c.k - wx.length) nlP),FrontR gf fd gl c.f ⟨[],[]⟩,LedgerR gl ld lk (ecoSeed 0) l00,All (witsL 0 wx (List.replicate wx.length w00)),All (wdL (wd.drop wx.length)),Disk ud (disk0 [])]
 | .all gl gf wx gu=>[Blk w (wldP c va (ptr gl) (ptr gf) vws nlP (ptr gu) nlP nlP x vpw mr ml mc) tWld (0,0),Own tWp 1 vws c.k (wx.map wptr),FrontR gf fd gl c.f ⟨[],[]⟩,LedgerR gl ld lk (ecoSeed 0) l00,All (witsL 0 wx (List.replicate wx.length w00)),UpdR gu ud pump (ecoPol c) ⟨[]⟩]
theorem ent_two {L R R':List Res} {A B C:Res} (p:Pull L A R) (q:Pull R B R') (f:∀ X,Ent (A::B::X) (C::X)):Ent L (C::R'):=Ent.trans p.out (Ent.trans (Ent.cons q.out) (f R'))
theorem wdL_snoc {l:List (Nat × Nat)} {d k:Nat} {X:List Res}:Ent (All (wdL l)::All (disksL [d,k])::X) (All (wdL (l++[(d,k)]))::X):=by
 rw [show wdL (l++[(d,k)])=wdL l++disksL [d,k] by simp [wdL,disksL]];exact all_append
theorem ct_at4 {P:Program} {f:FuncId} {args:Array Value} {e:World} {L R1 R2 R3 R4:List Res} {A B C D:Res} {Post:Value→List Res→Prop} (p:Pull L A R1) (q:Pull R1 B R2) (r:Pull R2 C R3) (u:Pull R3 D R4) (h:Ct P f args e (A::B::C::D::R4) Post):Ct P f args e L Post :=
 h.ent (Ent.trans p.out (Ent.cons (Ent.trans q.out (Ent.cons (Ent.trans r.out (Ent.cons u.out))))))
theorem disks3 {L R:List Res} {a b d:Nat} (p:Pull L (All (disksL [a,b,d])) R):Ent L (Disk a (disk0 [])::Disk b (disk0 [])::Disk d (disk0 [])::R):=Ent.trans p.out (all_out (M:=disksL [a,b,d]))
theorem disks1 {L R:List Res} {a:Nat} (p:Pull L (All (disksL [a])) R):Ent L (Disk a (disk0 [])::R):=Ent.trans p.out (all_out (M:=disksL [a]))
theorem disksW {L R:List Res} {q:Nat × Nat} {l:List (Nat × Nat)} (p:Pull L (All (wdL (q::l))) R):Ent L (Disk q.1 (disk0 [])::Disk q.2 (disk0 [])::All (wdL l)::R) :=
 Ent.trans p.out (Ent.trans (all_out (M:=wdL (q::l))) (Ent.cons (Ent.cons (all_in (M:=wdL l)))))
theorem l00_ok:LSt.ok l00:=⟨fun r hr=>(by cases hr),List.nodup_nil,Nat.zero_le _,fun b hb=>(by cases hb),Nat.zero_le _,fun x hx=>(by cases hx)⟩
theorem w00_ok:WSt.ok w00:=⟨fun x hx=>(by cases hx),List.Pairwise.nil,fun x hx=>(by cases hx),Nat.zero_le _,csg0_fits⟩
theorem witsL_snoc (x:WX) (s:WSt):∀ (i:Nat) (xs:List WX) (ss:List WSt),xs.length=ss.length→witsL i (xs++[x]) (ss++[s])=witsL i xs ss++[WitX (i+xs.length) x s]
 | i,[],[],_=>rfl
 | i,[],_::_,h=>by simp at h
 | i,_::_,[],h=>by simp at h
 | i,y::xs,t::ss,h=>by
  simp only [List.cons_append,witsL];rw [witsL_snoc x s (i+1) xs ss (by simpa using h)];simp only [List.length_cons];rw [show i+1+xs.length=i+(xs.length+1) by omega]
theorem wits_more {x:WX} {wx:List WX} {X:List Res}:Ent (All (witsL 0 wx (List.replicate wx.length w00))::WitX wx.length x w00::X) (All (witsL 0 (wx++[x]) (List.replicate (wx++[x]).length w00))::X):=by
 rw [List.length_append,List.length_singleton,List.replicate_succ',witsL_snoc x w00 0 wx _ (by simp),Nat.zero_add];exact Ent.trans (Ent.cons (all_in (M:=[WitX wx.length x w00]))) all_append
theorem wptr_set {wx:List WX} {k:Nat} {x:WX} (h:wx.length<k):(wx.map wptr++List.replicate (k - wx.length) nlP).set wx.length (ptr x.g)=(wx++[x]).map wptr++List.replicate (k - (wx.length+1)) nlP:=by
 obtain ⟨m,hm⟩:∃ m,k - wx.length=m+1:=⟨k - wx.length - 1,by omega⟩
 rw [hm,show k - (wx.length+1)=m by omega,List.replicate_succ,List.set_append_right _ _ (by rw [List.length_map];exact Nat.le_refl _),List.length_map,Nat.sub_self,List.set_cons_zero]
 simp [wptr,ptr]
theorem wOk.more {wd:List (Nat × Nat)} {wx:List WX} (h:wOk wd wx) (hn:wx.length<wd.length) {x:WX} (hd:x.d=(wd[wx.length]'hn).1) (hk:x.k=(wd[wx.length]'hn).2):wOk wd (wx++[x]):=fun j h1 h2=>by
 by_cases hj:j<wx.length
 ·simp only [List.getElem_append_left hj];exact h j hj h2
 ·rw [List.length_append,List.length_singleton] at h1
  obtain rfl:j=wx.length:=by omega
  simp only [List.getElem_concat_length];exact ⟨hd,hk⟩
theorem u00_ok:USt.ok ⟨[]⟩ pump:=⟨Nat.zero_le _,fun b hb=>(by cases hb),fun b hb=>(by cases hb),fun b hb=>(by cases hb),List.Pairwise.nil⟩
theorem eNew_spec (R:List Res) (e:World) (c:ECfg) (hc:c.ok) :
 Ct Tryz.prog 80 #[.agg (cfgC c).toArray] e R (fun v' L'=>∃ w,v'=.tuple #[ptr w,.int .i64 0]∧L'=EcoR w c 0 (est0 c) []::R):=by
 have hck:=hc.k;have hcq:=hc.quorum;refine Ct.enter (args:=[_]) Tryz.func80 rfl Tryz.ntmps80 Tryz.results80 rfl ?_
 (repeat (refine wA ?_;intros))
 rename_i gc;refine A.begin (id:=3) [13] (Blk gc (cfgC c) tCfg (0,0)::R) Tryz.mixed ?_
 (refine tJ 0 ?_;refine tF 3 ?_;refine tL 4 ?_)
 refine A.dagE (n:=0) [
  ⟨1,41,[],[],fun v _=>∃ ad k,v=.slice ad (ecoSeed 0).length k,[(0,fun v _=>[OwnB v (ecoSeed 0)])]⟩,
  ⟨2,42,[1],[0],fun _ _=>True,[(1,fun v _=>[PubR v ecoLog])]⟩,
  ⟨5,45,[2],[1],fun v ρ=>(ρ 2).oneCell'=true∧v=.agg [ρ 2,nlS,.int .i64 (c.quorum:Int)].toArray,[(8,fun _ ρ=>[PubR (ρ 2) ecoLog])]⟩,
  ⟨6,46,[],[],fun v _=>∃ g,v=.map (some g),[(2,mapI)]⟩,
  ⟨7,47,[],[],fun v _=>∃ g,v=.map (some g),[(3,mapI)]⟩,
  ⟨8,48,[6,7],[],fun v ρ=>∃ g g',ρ 6=.map (some g)∧ρ 7=.map (some g')∧v=.agg [.map (some g),.map (some g')].toArray,[]⟩,
  ⟨9,49,[],[],fun v _=>∃ g,v=.map (some g),[(4,mapP)]⟩,
  ⟨10,50,[5,8,9],[],fun v ρ=>∃ x g g' g'',x.oneCell'=true∧ρ 5=.agg [x,nlS,.int .i64 (c.quorum:Int)].toArray∧ρ 8=.agg [.map (some g),.map (some g')].toArray∧ρ 9=.map (some g'')∧v=.agg (wldP c nlS nlP nlP nlS nlP nlP nlP nlP x nlS g g' g'').toArray,[]⟩,
  ⟨11,51,[10],[],fun v _=>∃ g,v=ptr g,[(5,fun v ρ=>boxW v (ρ 10))]⟩,
  eNew 12 4 6 tPw [nlP],
  ⟨13,100013,[11,12],[6],fun _ _=>True,[(7,fun _ ρ=>celW (ρ 12) (ρ 11))]⟩] 11 rfl zK zK ?_ zE ?_
 ·refine eall_cons ?_ (eall_cons ?_ (eall_cons ?_ (eall_cons ?_ (eall_cons ?_ (eall_cons ?_ (eall_cons ?_ (eall_cons ?_ (eall_cons ?_ (eall_cons ?_ (eall_cons ?_ eall_nil))))))))))
  ·refine ⟨_,rfl,.inl rfl,fun V σr M1 h3 hy=>?_⟩;refine Do.ent2 (show Ent _ (M1++(Blk gc (cfgC c) tCfg (0,0)::R)) from Ent.rfl) ?_;refine Do.call (xs:=[.const (.int .i64 0)]) (vs:=[.int .i64 0]) rfl rfl (eSeed_spec _ e 0 zo) ?_;rintro _ _ ⟨ad,k,rfl,rfl⟩;exact ⟨_,rfl,⟨ad,k,rfl⟩,Ent.rfl⟩
  ·refine ⟨_,rfl,.inl rfl,fun V σr M1 h3 hy=>?_⟩;obtain ⟨s1,ad,k,hv⟩:=hy _ (List.mem_of_getElem? (i:=0) rfl) (List.mem_of_getElem? (i:=0) rfl) (slotB rfl);dsimp only at s1 hv
   refine Do.ent2 (show Ent _ (OwnB (V 1) (ecoSeed 0)::(M1++(Blk gc (cfgC c) tCfg (0,0)::R))) from Ent.rfl) ?_;rw [hv] at s1 ⊢
   refine Do.call (evs1 s1) rfl (sPublic_spec _ e _ (ecoSeed 0) (RdSl.own .zero) (ecoSeed_32 0)) ?_;rintro v2 _ ⟨N,rfl,hN⟩;exact ⟨_,rfl,trivial,Ent.trans (pubR_in hN) (Ent.cons (Ent.drop Ent.rfl))⟩
  ·refine ⟨_,rfl,.inl rfl,fun V σr M1 h3 hy=>?_⟩;obtain ⟨s2,-⟩:=hy _ (List.mem_of_getElem? (i:=1) rfl) (List.mem_of_getElem? (i:=0) rfl) (slotB rfl);have s44:=h3 44 _ rfl;dsimp only at s2
   refine Do.ent2 (show Ent _ (PubR (V 2) ecoLog::(M1++(Blk gc (cfgC c) tCfg (0,0)::R))) from Ent.rfl) ?_;unfold PubR;refine Do.exD fun N=>?_
   refine Do.ent2 all_out ?_;refine Do.puD fun hN=>?_
   refine Do.sepD (RdB.one (hN.ent (one_in .zero))) fun o=>?_
   exact Do.val (v:=.agg [V 2,nlS,.int .i64 (c.quorum:Int)].toArray) (Val.build (parts:=[(0,.tmp 42),(2,.tmp 44)]) (vs:=[(0,V 2),(2,.int .i64 (c.quorum:Int))]) (by simp [evp,ev,s2,s44]) (by simp [Instr.fill,cells_int,cells_one o])) rfl ⟨_,rfl,⟨o,rfl⟩,pubR_in hN⟩
  ·exact ⟨_,rfl,.inl rfl,fun V σr M1 h3 hy=>Do.makeMapK keyI rfl fun g=>⟨_,rfl,⟨g,rfl⟩,Ent.rfl⟩⟩
  ·exact ⟨_,rfl,.inl rfl,fun V σr M1 h3 hy=>Do.makeMapK keyI rfl fun g=>⟨_,rfl,⟨g,rfl⟩,Ent.rfl⟩⟩
  ·refine ⟨_,rfl,.inl rfl,fun V σr M1 h3 hy=>?_⟩;obtain ⟨s6,g,hv6⟩:=hy _ (List.mem_of_getElem? (i:=3) rfl) (List.mem_of_getElem? (i:=0) rfl) (slotB rfl);obtain ⟨s7,g',hv7⟩:=hy _ (List.mem_of_getElem? (i:=4) rfl) (List.mem_of_getElem? (i:=1) rfl) (slotB rfl);dsimp only at s6 hv6 s7 hv7
   rw [hv6] at s6
   rw [hv7] at s7
   exact Do.val (v:=.agg [.map (some g),.map (some g')].toArray) (Val.build (parts:=[(0,.tmp 46),(1,.tmp 47)]) (vs:=[(0,.map (some g)),(1,.map (some g'))]) (by simp [evp,ev,s6,s7]) (by simp [Instr.fill,Value.cells])) rfl ⟨_,rfl,⟨g,g',hv6,hv7,rfl⟩,Ent.rfl⟩
  ·exact ⟨_,rfl,.inl rfl,fun V σr M1 h3 hy=>Do.makeMapK keyP rfl fun g=>⟨_,rfl,⟨g,rfl⟩,Ent.rfl⟩⟩
  ·refine ⟨_,rfl,.inl rfl,fun V σr M1 h3 hy=>?_⟩;obtain ⟨s5,o,hv5⟩:=hy _ (List.mem_of_getElem? (i:=2) rfl) (List.mem_of_getElem? (i:=0) rfl) (slotB rfl);obtain ⟨s8,g,g',-,-,hv8⟩:=hy _ (List.mem_of_getElem? (i:=5) rfl) (List.mem_of_getElem? (i:=1) rfl) (slotB rfl);obtain ⟨s9,g'',hv9⟩:=hy _ (List.mem_of_getElem? (i:=6) rfl) (List.mem_of_getElem? (i:=2) rfl) (slotB rfl);have s40:=h3 40 _ rfl;dsimp only at s5 o hv5 s8 hv8 s9 hv9
   generalize restr [2] V 2=x at o hv5
   rw [hv5] at s5
   rw [hv8] at s8
   rw [hv9] at s9
   refine Do.val (v:=.agg (wldP c nlS nlP nlP nlS nlP nlP nlP nlP x nlS g g' g'').toArray) (Val.build (parts:=[(0,.tmp 40),(9,.tmp 45),(12,.tmp 48),(15,.tmp 49)]) (vs:=[(0,.agg (cfgC c).toArray),(9,.agg [x,nlS,.int .i64 (c.quorum:Int)].toArray),(12,.agg [.map (some g),.map (some g')].toArray),(15,.map (some g''))]) (by simp [evp,ev,s5,s8,s9,s40]) (by simp [Instr.fill,Value.cells])) rfl ⟨_,rfl,⟨x,g,g',g'',o,hv5,hv8,hv9,rfl⟩,Ent.rfl⟩
  ·refine ⟨_,rfl,.inl rfl,fun V σr M1 h3 hy=>?_⟩;obtain ⟨s10,x,g0,g',g'',o,-,-,-,hv⟩:=hy _ (List.mem_of_getElem? (i:=7) rfl) (List.mem_of_getElem? (i:=0) rfl) (slotB rfl);dsimp only at s10 hv
   have hw:restr [10] V 10=.agg (wldP c nlS nlP nlP nlS nlP nlP nlP nlP x nlS g0 g' g'').toArray:=hv;rw [hv] at s10
   refine Do.box s10 rfl rfl fun g=>⟨_,rfl,⟨g,rfl⟩,?_⟩
   refine Ent.trans (show Ent _ (Blk g (wldP c nlS nlP nlP nlS nlP nlP nlP nlP x nlS g0 g' g'') tWld (0,0)::(M1++(Blk gc (cfgC c) tCfg (0,0)::R))) from Ent.rfl) ?_
   show Ent _ ((boxW (ptr g) (restr [10] V 10)++[])++(M1++(Blk gc (cfgC c) tCfg (0,0)::R)))
   rw [hw];exact Ent.rfl
  ·exact eNew_ok rfl (.inl rfl) rfl rfl rfl
  ·refine ⟨_,rfl,.inl rfl,fun V σr M1 h3 hy=>?_⟩;obtain ⟨s11,g,hv11⟩:=hy _ (List.mem_of_getElem? (i:=8) rfl) (List.mem_of_getElem? (i:=0) rfl) (slotB rfl);obtain ⟨s12,g4,hv12⟩:=hy _ (List.mem_of_getElem? (i:=9) rfl) (List.mem_of_getElem? (i:=1) rfl) (slotB rfl);dsimp only at s11 hv11 s12 hv12
   have hw1:restr [11,12] V 11=ptr g:=hv11;have hw2:restr [11,12] V 12=ptr g4:=hv12;refine Do.ent2 (show Ent _ ((ptrBlk [nlP] tPw (V 12) V++[])++(M1++(Blk gc (cfgC c) tCfg (0,0)::R))) from Ent.rfl) ?_;rw [hv12] at s12 ⊢
   rw [hv11] at s11
   refine Do.ent2 (show Ent _ (Blk g4 [nlP] tPw (0,0)::(M1++(Blk gc (cfgC c) tCfg (0,0)::R))) from Ent.rfl) ?_;refine Do.store (cs':=[ptr g]) s12 s11 rfl .zero SetAt.zero ⟨nlP,rfl,trivial,?_⟩
   show Ent _ ((celW (restr [11,12] V 12) (restr [11,12] V 11)++[])++(M1++(Blk gc (cfgC c) tCfg (0,0)::R)))
   rw [hw1,hw2];exact Ent.rfl
 intro V hV;obtain ⟨-,v5⟩:=hV _ (List.mem_of_getElem? (i:=2) rfl);obtain ⟨mr,v6⟩:=hV _ (List.mem_of_getElem? (i:=3) rfl);obtain ⟨ml,v7⟩:=hV _ (List.mem_of_getElem? (i:=4) rfl);obtain ⟨a1,a2,w6,w7,v8⟩:=hV _ (List.mem_of_getElem? (i:=5) rfl);obtain ⟨mc,v9⟩:=hV _ (List.mem_of_getElem? (i:=6) rfl);obtain ⟨x,b1,b2,b3,o1,w5,w8,w9,v10⟩:=hV _ (List.mem_of_getElem? (i:=7) rfl);obtain ⟨w,v11⟩:=hV _ (List.mem_of_getElem? (i:=8) rfl);obtain ⟨g4,v12⟩:=hV _ (List.mem_of_getElem? (i:=9) rfl);clear hV;dsimp only at v5 v6 v7 v8 v9 v10 v11 v12
 have v2:V 2=x:=by
  have h:V 5=_:=w5;rw [v5] at h
  have h2:restr [2] V 2=x:=by simpa using h
  exact h2
 have q6:V 6=_:=w6;have q7:V 7=_:=w7;have q8:V 8=_:=w8;have q9:V 9=_:=w9;rw [v6] at q6
 rw [v7] at q7
 rw [v9] at q9
 rw [v8] at q8
 cases q6
 cases q7
 cases q9
 simp only [Value.agg.injEq,List.toArray_inj,List.cons.injEq,Value.map.injEq,Option.some.injEq,and_true] at q8
 obtain ⟨rfl,rfl⟩:=q8;clear v5 v8 w5 w6 w7 w8 w9;refine A.ent1 (show Ent _ (([PubR (V 2) ecoLog]++(mapI (V 6) V++(mapI (V 7) V++(mapP (V 9) V++(boxW (V 11) (V 10)++(celW (V 12) (V 11)++[]))))))++(Blk gc (cfgC c) tCfg (0,0)::R)) from Ent.rfl) ?_;simp only [slotsE,Nat.reduceLT,if_true,if_false,List.cons_append,List.nil_append];rw [v2,v6,v7,v9,v10,v11,v12];refine A.ent1 (show Ent _ (PubR x ecoLog::MpK keyI mr []::MpK keyI ml []::MpK keyP mc []::Blk w (wldP c nlS nlP nlP nlS nlP nlP nlP nlP x nlS mr ml mc) tWld (0,0)::Blk g4 [ptr w] tPw (0,0)::Blk gc (cfgC c) tCfg (0,0)::R) from Ent.rfl) ?_;unfold PubR;refine A.exD fun N=>?_
 refine A.ent1 all_out ?_;refine A.puD fun hN=>?_
 obtain ⟨M,hM⟩:∃ M:Res,M=All [N,Blk g4 [ptr w] tPw (0,0)]:=⟨_,rfl⟩
 have hx:RdB [M] x ecoLog:=by rw [hM];exact hN.ent two1
 have h4:Rd [M] ⟨g4,0,none⟩ (ptr w):=by rw [hM];exact Rd.ent (Rd.blk .zero rfl) two2
 have h4r:Rd (M::Blk gc (cfgC c) tCfg (0,0)::R) ⟨g4,0,none⟩ (ptr w):=h4.ent (one_in .zero);refine A.ent1 (show Ent _ (Own tPar 2 nlS 0 []::Blk w (wldP c nlS nlP nlP nlS nlP nlP nlP nlP x nlS mr ml mc) tWld (0,0)::MpK keyI mr []::MpK keyI ml []::MpK keyP mc []::M::Blk gc (cfgC c) tCfg (0,0)::R) from ?_) ?_
 ·rw [hM];exact Ent.trans (pull2_all (A:=N) (B:=Blk g4 [ptr w] tPw (0,0)) zP zP) (Ent.trans (own_nil tPar 2) zE)
 refine A.done zK ?_;refine Fin.next ?_;refine W.keep [(1,ptr gc),(4,ptr g4)] zS ?_;clear v2 v6 v7 v9 v10 v11 v12 V;clear hN hM N
 (repeat (refine wA ?_;intros))
 refine A.begin (id:=4) [13,14,15] (Blk w (wldP c nlS nlP nlP nlS nlP nlP nlP nlP x nlS mr ml mc) tWld (0,0)::M::Blk gc (cfgC c) tCfg (0,0)::R) Tryz.mixed ?_
 (refine tL 0 ?_;refine tL 1 ?_;refine tN 2 ?_;refine tF 3 ?_;refine tL 4 ?_;refine tF 5 ?_;refine tL 6 ?_;refine tL 8 ?_)
 refine tk 9 _ rfl (Val.makeFunc rfl rfl) ?_;refine tO 7 ?_;refine Do.call rfl rfl (eDisks_spec _ e 3 zo) ?_;rintro _ _ ⟨ad,kd,gs,rfl,hgl,rfl⟩
 obtain ⟨ld,lk,fd,rfl⟩:∃ a b d,gs=[a,b,d]:=by
  match gs,hgl with
  | [a,b,d],_=>exact ⟨a,b,d,rfl⟩
 refine ⟨fun _=>zE,?_⟩;refine tk 10 _ rfl (Val.build rfl zF) ?_;refine tO 11 ?_;refine Do.buildSlice (n:=2) (cs:=[.slice ad 3 kd,.func (.func 160) #[ptr w] #[]]) rfl rfl rfl rfl zQ rfl (fun gb=>⟨fun _=>zE,?_⟩);refine tO 12 ?_;refine Do.append rfl rfl rfl (show Pull _ (Own tPar 2 nlS 0 []) _ from zP) (RdSl.blkN (n:=2) (c:=1) zP rfl zl) rfl rfl zO zm zo fun ap kp _=>⟨fun _=>zE,?_⟩
 ((refine tO 13 ?_;refine dV (Val.nilCheck rfl) ?_);(refine tO 14 ?_;refine dV (Val.fieldAddr rfl) ?_);(refine tO 15 ?_;refine zs1 ?_;refine ⟨zN,?_⟩))
 refine A.done zK ?_;refine Fin.next ?_;refine W.keep [(1,ptr gc),(4,ptr g4)] zS ?_;obtain ⟨vl,hvl⟩:∃ vl:Value,vl=.slice ad 3 kd:=⟨_,rfl⟩
 have hvo:vl.oneCell'=true:=by rw [hvl];rfl
 refine W.ent1 (show Ent _ (Own tPar 2 (.slice ap 1 kp) 1 (parC w vl [])::Own tDp 1 vl 3 [ptr ld,ptr lk,ptr fd]::All (disksL [ld,lk,fd])::Blk w (wldP c (.slice ap 1 kp) nlP nlP nlS nlP nlP nlP nlP x nlS mr ml mc) tWld (0,0)::MpK keyI mr []::MpK keyI ml []::MpK keyP mc []::M::Blk gc (cfgC c) tCfg (0,0)::R) from by rw [hvl];exact zE) ?_;clear hvl hgl
 (repeat (refine wA ?_;intros))
 refine A.begin (id:=5) [4,5,6] (M::Blk gc (cfgC c) tCfg (0,0)::R) Tryz.mixed ?_
 (refine tL 0 ?_;refine tF 1 ?_;refine tL 2 ?_)
 refine tO 3 ?_;refine Do.makeSlice rfl rfl rfl rfl zm zo fun gw=>⟨fun _=>zE,?_⟩
 ((refine tO 4 ?_;refine dV (Val.nilCheck rfl) ?_);(refine tO 5 ?_;refine dV (Val.fieldAddr rfl) ?_);(refine tO 6 ?_;refine zs1 ?_;refine ⟨zN,?_⟩))
 refine A.done zK ?_;refine wB ?_;refine W.loop (ι:=NewI) (fun i=>[(1,ptr gc),(4,ptr g4),(77,.int .i64 (c.k:Int)),(78,.int .i64 (i.vs.length:Int))]) (fun i=>newM i c w gc gw ld lk fd mr ml mc vl x R) (fun i=>i.ok c w g4 ld lk fd vl x) (fun i=>c.k - i.vs.length) ⟨[],[],[],ap,kp,none,0,All [M,Own tDp 1 vl 3 [ptr ld,ptr lk,ptr fd]]⟩ ⟨Nat.zero_le _,rfl,rfl,hx.ent two1,h4.ent two1,(fun y hy=>by cases hy),RdSl.ent (RdSl.own .zero) two2,fun j h=>absurd h (Nat.not_lt_zero _)⟩ zS (Ent.trans (pull2_all (A:=M) (B:=Own tDp 1 vl 3 [ptr ld,ptr lk,ptr fd]) zP zP) (Ent.trans (own_nil tTxts 1) (Ent.trans (all_in (M:=[])) zE))) ?_;clear hx h4 h4r;rintro i hi;have hle:=hi.le;have h4r:Rd (i.M::Blk gc (cfgC c) tCfg (0,0)::R) ⟨g4,0,none⟩ (ptr w):=hi.h4.ent (one_in .zero);have htl:i.ts.length=i.vs.length:=by have:=congrArg List.length hi.tl;simpa using this
 by_cases hlt:i.vs.length<c.k
 rotate_left
 ·have hke:i.vs.length=c.k:=by omega
  refine wB ?_;refine A.begin (id:=12) [13,14,15] (Blk w (wldP c (.slice i.ap (i.vs.length+1) i.kp) nlP nlP (.slice (some ⟨gw,0,none⟩) c.k c.k) nlP nlP nlP nlP x (.slice i.aw i.ts.length i.kw) mr ml mc) tWld (0,0)::i.M::Blk gc (cfgC c) tCfg (0,0)::R) Tryz.mixed ?_
  (refine tL 0 ?_;refine tL 1 ?_;refine tN 2 ?_;refine tF 3 ?_;refine tL 4 ?_;refine tF 5 ?_;refine tL 6 ?_;refine tL 8 ?_)
  refine tk 9 _ rfl (Val.makeFunc rfl rfl) ?_;refine tO 7 ?_;refine Do.call rfl rfl (eDisks_spec _ e 1 zo) ?_;rintro _ _ ⟨ad3,kd3,gs,rfl,hgl,rfl⟩
  obtain ⟨ud,rfl⟩:∃ a,gs=[a]:=by
   match gs,hgl with
   | [a],_=>exact ⟨a,rfl⟩
  refine ⟨fun _=>zE,?_⟩;refine tk 10 _ rfl (Val.build rfl zF) ?_;refine tO 11 ?_;refine Do.buildSlice (n:=2) (cs:=[.slice ad3 1 kd3,parU w]) rfl rfl rfl rfl zQ rfl (fun gb3=>⟨fun _=>zE,?_⟩);refine tO 12 ?_;refine Do.append rfl rfl rfl (show Pull _ (Own tPar 2 (.slice i.ap (i.vs.length+1) i.kp) (i.vs.length+1) (parC w vl i.vs)) _ from zP) (RdSl.blkN (n:=2) (c:=1) zP rfl zl) rfl rfl zO zm zo fun ap2 kp2 _=>⟨fun _=>zE,?_⟩
  ((refine tO 13 ?_;refine dV (Val.nilCheck rfl) ?_);(refine tO 14 ?_;refine dV (Val.fieldAddr rfl) ?_);(refine tO 15 ?_;refine zs1 ?_;refine ⟨zN,?_⟩))
  refine A.done zK ?_;refine Fin.next ?_;refine W.keep [(1,ptr gc),(4,ptr g4)] zS ?_;refine W.of_sep ((RdSl.own (show Pull _ (Own tPar 2 (.slice ap2 (i.vs.length+1+1) kp2) (i.vs.length+1+1) (parC w vl i.vs++[.slice ad3 1 kd3,parU w])) _ from zP)).shape zo) ?_;rintro ⟨⟨ad',c',hv',q3,q4,q5,q6⟩,_⟩
  cases hv'
  rcases q6 with q6|⟨gp,op,rfl⟩
  ·omega
  clear q3 q4 q5;obtain ⟨vu,hvu⟩:∃ vu:Value,vu=.slice ad3 1 kd3:=⟨_,rfl⟩
  obtain ⟨vpw,hvpw⟩:∃ v:Value,v=.slice i.aw i.ts.length i.kw:=⟨_,rfl⟩
  obtain ⟨M2,hM2⟩:∃ M2:Res,M2=All [i.M,Own tPar 2 (.slice (some ⟨gp,op,none⟩) (c.k+2) kp2) (c.k+2) ((parL w vl i.vs vu).flatMap parF),OwnT vpw i.ts,Own tDp 1 vu 1 [ptr ud]]:=⟨_,rfl⟩
  refine W.ent1 (show Ent _ (Blk w (wldP c (.slice (some ⟨gp,op,none⟩) (c.k+2) kp2) nlP nlP (.slice (some ⟨gw,0,none⟩) c.k c.k) nlP nlP nlP nlP x vpw mr ml mc) tWld (0,0)::Own tWp 1 (.slice (some ⟨gw,0,none⟩) c.k c.k) c.k (List.replicate c.k nlP)::All (disksL [ld,lk,fd])::All (wdL i.wd)::All (disksL [ud])::MpK keyI mr []::MpK keyI ml []::MpK keyP mc []::M2::Blk gc (cfgC c) tCfg (0,0)::R) from ?_) ?_
  ·rw [hM2,hvu,hvpw,parL_cells,hke];exact Ent.trans (pull4_all (A:=i.M) (B:=Own tPar 2 (.slice (some ⟨gp,op,none⟩) (c.k+2) kp2) (c.k+2) (parC w vl i.vs++[.slice ad3 1 kd3,parU w])) (C:=OwnT (.slice i.aw i.ts.length i.kw) i.ts) (D:=Own tDp 1 (.slice ad3 1 kd3) 1 [ptr ud]) zP zP zP zP) zE
  have g1:Ent [M2] [i.M]:=by rw [hM2];exact four .zero
  have hx2:RdB [M2] x ecoLog:=hi.hx.ent g1;have h42:Rd [M2] ⟨g4,0,none⟩ (ptr w):=hi.h4.ent g1;have hpar:RdSl [M2] 2 (.slice (some ⟨gp,op,none⟩) (c.k+2) kp2) (c.k+2) ((parL w vl i.vs vu).flatMap parF):=by rw [hM2];exact RdSl.ent (RdSl.own .zero) (four (.succ .zero))
  have hpol:RdPol [M2] x vpw (ecoPol c):=by
   refine ⟨hx2,i.ts,?_,?_,fun y hy=>(hi.tx y hy).ent g1⟩
   ·rw [hi.tl,hke];rfl
   ·rw [hM2];exact RdSl.ent (RdSl.own .zero) (four (.succ (.succ .zero)))
  have hvu2:RdSl [M2] 1 vu 1 [ptr ud]:=by rw [hM2];exact RdSl.ent (RdSl.own .zero) (four (.succ (.succ (.succ .zero))))
  have hlo:RdSl [M2] 1 vl 3 [ptr ld,ptr lk,ptr fd]:=hi.lo.ent g1
  have hps:∀ j (h:j<i.vs.length) (h2:j<i.wd.length),RdSl [M2] 1 (i.vs[j]).1 2 [ptr (i.wd[j]).1,ptr (i.wd[j]).2]∧Rd [M2] ⟨(i.vs[j]).2.1,0,none⟩ (ptr w)∧Rd [M2] ⟨(i.vs[j]).2.2,0,none⟩ (.int .i64 (j:Int)):=fun j h h2=>by
   obtain ⟨a,b,d⟩:=hi.ps j h h2;exact ⟨a.ent g1,b.ent g1,d.ent g1⟩
  have hwl:=hi.wl;have h4r:Rd (M2::Blk gc (cfgC c) tCfg (0,0)::R) ⟨g4,0,none⟩ (ptr w):=h42.ent (one_in .zero);clear hM2 hvu hvpw g1 hi htl hle
  generalize i.vs=vs at *
  generalize i.wd=wd at *
  refine W.of_sep ((hlo.ent (one_in zP)).shape zo) ?_;rintro ⟨⟨adl,cl,rfl,-,-,-,q6⟩,_⟩;rcases q6 with q6|⟨gd,od,rfl⟩
  ·omega
  refine W.of_sep ((hvu2.ent (one_in zP)).shape zo) ?_;rintro ⟨⟨adu,cu,rfl,-,-,-,q6⟩,_⟩;rcases q6 with q6|⟨gu0,ou0,rfl⟩
  ·omega
  have r0:RdA (M2::Blk gc (cfgC c) tCfg (0,0)::R) gp (op+0*2) [.slice (some ⟨gd,od,none⟩) 3 cl,.func (.func 160) #[ptr w] #[]]:=RdA.elem (hpar.ent (one_in .zero)) parF2 (j:=0) rfl;have s0:Rd [M2] ⟨gp,op,none⟩ (.slice (some ⟨gd,od,none⟩) 3 cl):=RdSl.elemOf hpar parF2 (j:=0) (i:=0) rfl rfl;refine wB ?_;refine W.loop (ι:=OpS) (fun j=>[(1,ptr gc),(4,ptr g4),(129,.slice (some ⟨gp,op,none⟩) (c.k+2) kp2),(130,.int .i64 ((c.k+2:Nat):Int)),(131,.int .i64 (j.idx c.k:Int))]) (fun j=>opL c w (.slice (some ⟨gp,op,none⟩) (c.k+2) kp2) (.slice (some ⟨gw,0,none⟩) c.k c.k) x vpw mr ml mc ld lk fd ud wd j++(MpK keyI mr []::MpK keyI ml []::MpK keyP mc []::M2::Blk gc (cfgC c) tCfg (0,0)::R)) (fun j=>j.ok c wd) (fun j=>c.k+2 - j.idx c.k) .zero trivial zS ?_ ?_
  ·simp only [opL,List.cons_append,List.nil_append];exact Ent.trans (disks3 (a:=ld) (b:=lk) (d:=fd) zP) (Ent.trans (disks1 (a:=ud) zP) zE)
  rintro j hj
  cases j with
  | zero =>
   simp only [opL,OpS.idx,List.cons_append,List.nil_append]
   (repeat (refine wA ?_;intros))
   rename_i g7;refine O.callV (us:=[ptr w]) (ws:=[]) (vs:=[]) rfl rfl rfl (ct_at4 zP zP zP zP (openLog_spec _ e w c hc nlP nlP (.slice (some ⟨gw,0,none⟩) c.k c.k) nlP nlP nlP nlP x vpw (.int .i64 0) nlS (.map (some mr)) (.map (some ml)) (.int .i64 0) nlS (.bool false) (.map (some mc)) gp op (c.k+2) kp2 gd od cl ld lk fd l00 [] zo (s0.ent (one_in zP)) ((hlo.elem (j:=0) rfl).ent (one_in zP)) ((hlo.elem (j:=1) rfl).ent (one_in zP)) ((hlo.elem (j:=2) rfl).ent (one_in zP)) l00_ok (Nat.zero_le _) (fun b hb=>by cases hb))) ?_;rintro _ _ ⟨rfl,gl,gf,rfl⟩;refine wB ?_;refine Fin.round (.mid gl gf []) ⟨Nat.zero_le _,fun j h=>absurd h (Nat.not_lt_zero _)⟩ zd zS ?_;refine Ent.trans (all_in (M:=[])) ?_;exact zE
  | mid gl gf wx =>
   obtain ⟨hwk,hwo⟩:=hj;simp only [opL,OpS.idx,List.cons_append,List.nil_append]
   by_cases hw:wx.length<c.k
   ·have hn:wx.length<vs.length:=by omega
    have hn2:wx.length<wd.length:=by omega
    obtain ⟨p1,p2,p3⟩:=hps wx.length hn hn2;have hpe:=parL_mid (w:=w) (vl:=.slice (some ⟨gd,od,none⟩) 3 cl) (vu:=.slice (some ⟨gu0,ou0,none⟩) 1 cu) hn;have hdr:=List.drop_eq_getElem_cons hn2;have hwm:=fun x=>hwo.more hn2 (x:=x)
    generalize vs[wx.length]'hn=y at p1 p2 p3 hpe
    generalize wd[wx.length]'hn2=q at p1 hdr hwm
    obtain ⟨vd,xw,xi⟩:=y;obtain ⟨d1,k1⟩:=q;dsimp only at p1 p2 p3 hwm
    rw [hdr];refine W.of_sep ((p1.ent (one_in zP)).shape zo) ?_;rintro ⟨⟨adv,cv,rfl,-,-,-,q6⟩,_⟩;rcases q6 with q6|⟨gv,ov,rfl⟩
    ·omega
    have r1:RdA (M2::Blk gc (cfgC c) tCfg (0,0)::R) gp (op+(wx.length+1)*2) [.slice (some ⟨gv,ov,none⟩) 2 cv,.func (.func 161) #[] #[ptr xw,ptr xi]]:=RdA.elem (hpar.ent (one_in .zero)) parF2 (j:=wx.length+1) hpe;have s1:Rd [M2] ⟨gp,op+(wx.length+1)*2,none⟩ (.slice (some ⟨gv,ov,none⟩) 2 cv):=RdSl.elemOf hpar parF2 (j:=wx.length+1) (i:=0) hpe rfl;refine W.ent1 (disksW (q:=(d1,k1)) (l:=wd.drop (wx.length+1)) zP) ?_
    (repeat (refine wA ?_;intros))
    rename_i g7;refine O.callV (us:=[]) (ws:=[ptr xw,ptr xi]) (vs:=[]) rfl rfl rfl (ct_at4 zP zP zP zP (openNew_spec _ e w c (ptr gl) (ptr gf) nlP nlP nlP nlP x vpw (.int .i64 0) nlS (.map (some mr)) (.map (some ml)) (.int .i64 0) nlS (.bool false) (.map (some mc)) gp op (c.k+2) kp2 gv ov cv d1 k1 wx.length gw c.k c.k xw xi (wx.map wptr++List.replicate (c.k - wx.length) nlP) w00 zo zo hw (by simp;omega) (p2.ent (one_in zP)) (p3.ent (one_in zP)) (s1.ent (one_in zP)) ((p1.elem (j:=0) rfl).ent (one_in zP)) ((p1.elem (j:=1) rfl).ent (one_in zP)) (hx2.ent (one_in zP)) w00_ok (Nat.zero_le _))) ?_;rintro _ _ ⟨rfl,g,rfl⟩;rw [show (wx.map wptr++List.replicate (c.k - wx.length) nlP).set wx.length (ptr g)=_ from wptr_set (x:=⟨g,d1,k1⟩) hw];refine wB ?_;refine Fin.round (.mid gl gf (wx++[⟨g,d1,k1⟩])) ⟨by rw [List.length_append,List.length_singleton];omega,hwm _ rfl rfl⟩ (by dsimp only;rw [List.length_append,List.length_singleton];omega) ?_ ?_
    ·simp only [List.length_append,List.length_singleton];exact zS
    ·dsimp only;simp only [List.cons_append,List.nil_append];refine Ent.trans (ent_two (A:=All (witsL 0 wx (List.replicate wx.length w00))) (B:=WitX wx.length ⟨g,d1,k1⟩ w00) zP zP fun X=>wits_more) ?_;simp only [List.length_append,List.length_singleton];exact zE
   ·have hwk2:wx.length=c.k:=by omega
    have hpe:=parL_end (w:=w) (vl:=.slice (some ⟨gd,od,none⟩) 3 cl) (vs:=vs) (vu:=.slice (some ⟨gu0,ou0,none⟩) 1 cu);rw [hke] at hpe
    have r1:RdA (M2::Blk gc (cfgC c) tCfg (0,0)::R) gp (op+(c.k+1)*2) [.slice (some ⟨gu0,ou0,none⟩) 1 cu,parU w]:=RdA.elem (hpar.ent (one_in .zero)) parF2 (j:=c.k+1) hpe;have s1:Rd [M2] ⟨gp,op+(c.k+1)*2,none⟩ (.slice (some ⟨gu0,ou0,none⟩) 1 cu):=RdSl.elemOf hpar parF2 (j:=c.k+1) (i:=0) hpe rfl;rw [hwk2,Nat.sub_self,List.replicate_zero,List.append_nil]
    (repeat (refine wA ?_;intros))
    rename_i g7;refine O.callV (us:=[ptr w]) (ws:=[]) (vs:=[]) rfl rfl rfl (Ct.at2 zP zP (openUpdater_spec _ e w c hc (ptr gl) (ptr gf) (.slice (some ⟨gw,0,none⟩) c.k c.k) nlP nlP nlP nlP x vpw (.int .i64 0) nlS (.map (some mr)) (.map (some ml)) (.int .i64 0) nlS (.bool false) (.map (some mc)) gp op kp2 gu0 ou0 cu ud ⟨[]⟩ (s1.ent (one_in zP)) ((hvu2.elem (j:=0) rfl).ent (one_in zP)) (hpol.ent (one_in zP)) u00_ok)) ?_;rintro _ _ ⟨rfl,gu,rfl⟩;refine wB ?_;refine Fin.round (.all gl gf wx gu) ⟨hwk2,hwo⟩ zd zS ?_;dsimp only;simp only [List.cons_append,List.nil_append];rw [hwk2];exact zE
  | all gl gf wx gu =>
   obtain ⟨hwk,hwo⟩:=hj;simp only [opL,OpS.idx,List.cons_append,List.nil_append];rw [hwk];clear r0 s0;refine wB ?_;obtain ⟨W21,hW21⟩:∃ X:Res,X=Ex fun v:Value=>Blk w (wldP c (.slice (some ⟨gp,op,none⟩) (c.k+2) kp2) (ptr gl) (ptr gf) (.slice (some ⟨gw,0,none⟩) c.k c.k) v (ptr gu) nlP nlP x vpw mr ml mc) tWld (0,0):=⟨_,rfl⟩
   have hE:∀ (v:Value) (X:List Res),Ent (Blk w (wldP c (.slice (some ⟨gp,op,none⟩) (c.k+2) kp2) (ptr gl) (ptr gf) (.slice (some ⟨gw,0,none⟩) c.k c.k) v (ptr gu) nlP nlP x vpw mr ml mc) tWld (0,0)::X) (W21::X):=fun v X=>by rw [hW21];exact ex_in (f:=fun v:Value=>Blk w (wldP c (.slice (some ⟨gp,op,none⟩) (c.k+2) kp2) (ptr gl) (ptr gf) (.slice (some ⟨gw,0,none⟩) c.k c.k) v (ptr gu) nlP nlP x vpw mr ml mc) tWld (0,0)) v
   have rA:RdA (W21::M2::Blk gc (cfgC c) tCfg (0,0)::R) w (0+16) [x,vpw,.int .i64 (c.quorum:Int)]:=by rw [hW21];exact RdA.ex fun v=>RdA.blk .zero ⟨3,rfl⟩
   refine A.begin (id:=21) [14] (W21::M2::Blk gc (cfgC c) tCfg (0,0)::R) Tryz.mixed ?_;refine A.take 0 _ rfl zK (Ent.trans (Ent.pull (show Pull _ (Blk w (wldP c (.slice (some ⟨gp,op,none⟩) (c.k+2) kp2) (ptr gl) (ptr gf) (.slice (some ⟨gw,0,none⟩) c.k c.k) nlP (ptr gu) nlP nlP x vpw mr ml mc) tWld (0,0)) _ from zP) Ent.rfl) (Ent.trans ((hE nlP) _) zE)) (Val.load rfl zR) rfl ?_;refine A.take 1 _ rfl zK (Ent.trans (Ent.pull (show Pull _ (Blk w (wldP c (.slice (some ⟨gp,op,none⟩) (c.k+2) kp2) (ptr gl) (ptr gf) (.slice (some ⟨gw,0,none⟩) c.k c.k) nlP (ptr gu) nlP nlP x vpw mr ml mc) tWld (0,0)) _ from zP) Ent.rfl) (Ent.trans ((hE nlP) _) zE)) (Val.load rfl zR) rfl ?_;refine A.take 2 _ rfl zK (Ent.trans (Ent.pull (show Pull _ (Blk w (wldP c (.slice (some ⟨gp,op,none⟩) (c.k+2) kp2) (ptr gl) (ptr gf) (.slice (some ⟨gw,0,none⟩) c.k c.k) nlP (ptr gu) nlP nlP x vpw mr ml mc) tWld (0,0)) _ from zP) Ent.rfl) (Ent.trans ((hE nlP) _) zE)) (Val.nilCheck rfl) rfl ?_;refine A.take 3 _ rfl zK (Ent.trans (Ent.pull (show Pull _ (Blk w (wldP c (.slice (some ⟨gp,op,none⟩) (c.k+2) kp2) (ptr gl) (ptr gf) (.slice (some ⟨gw,0,none⟩) c.k c.k) nlP (ptr gu) nlP nlP x vpw mr ml mc) tWld (0,0)) _ from zP) Ent.rfl) (Ent.trans ((hE nlP) _) zE)) (Val.fieldAddr rfl) rfl ?_;refine A.take 4 _ rfl zK (Ent.trans (Ent.pull (show Pull _ (Blk w (wldP c (.slice (some ⟨gp,op,none⟩) (c.k+2) kp2) (ptr gl) (ptr gf) (.slice (some ⟨gw,0,none⟩) c.k c.k) nlP (ptr gu) nlP nlP x vpw mr ml mc) tWld (0,0)) _ from zP) Ent.rfl) (Ent.trans ((hE nlP) _) zE)) (Val.loadAggR rfl rA rfl) rfl ?_
   refine A.take 5 _ rfl zK (Ent.trans (Ent.pull (show Pull _ (Blk w (wldP c (.slice (some ⟨gp,op,none⟩) (c.k+2) kp2) (ptr gl) (ptr gf) (.slice (some ⟨gw,0,none⟩) c.k c.k) nlP (ptr gu) nlP nlP x vpw mr ml mc) tWld (0,0)) _ from zP) Ent.rfl) (Ent.trans ((hE nlP) _) zE)) (Val.fieldAddr rfl) rfl ?_;refine A.take 6 _ rfl zK (Ent.trans (Ent.pull (show Pull _ (Blk w (wldP c (.slice (some ⟨gp,op,none⟩) (c.k+2) kp2) (ptr gl) (ptr gf) (.slice (some ⟨gw,0,none⟩) c.k c.k) nlP (ptr gu) nlP nlP x vpw mr ml mc) tWld (0,0)) _ from zP) Ent.rfl) (Ent.trans ((hE nlP) _) zE)) (Val.load rfl zR) rfl ?_;refine tO 7 ?_;refine Do.call rfl rfl (fNew_spec _ e x vpw (ecoPol c) c.retry (hpol.ent (one_in zP)) hc.pol hc.retry.1 hc.retry.2) ?_;rintro _ _ ⟨gfd,rfl,rfl⟩;rw [ecoPol_len];refine ⟨fun _=>(Ent.trans (Ent.pull (show Pull _ (Blk w (wldP c (.slice (some ⟨gp,op,none⟩) (c.k+2) kp2) (ptr gl) (ptr gf) (.slice (some ⟨gw,0,none⟩) c.k c.k) nlP (ptr gu) nlP nlP x vpw mr ml mc) tWld (0,0)) _ from zP) Ent.rfl) (Ent.trans ((hE nlP) _) zE)),?_⟩;refine A.take 8 _ rfl zK (Ent.trans (Ent.pull (show Pull _ (Blk w (wldP c (.slice (some ⟨gp,op,none⟩) (c.k+2) kp2) (ptr gl) (ptr gf) (.slice (some ⟨gw,0,none⟩) c.k c.k) nlP (ptr gu) nlP nlP x vpw mr ml mc) tWld (0,0)) _ from zP) Ent.rfl) (Ent.trans ((hE nlP) _) zE)) (Val.move rfl) rfl ?_;refine A.take 9 _ rfl zK (Ent.trans (Ent.pull (show Pull _ (Blk w (wldP c (.slice (some ⟨gp,op,none⟩) (c.k+2) kp2) (ptr gl) (ptr gf) (.slice (some ⟨gw,0,none⟩) c.k c.k) nlP (ptr gu) nlP nlP x vpw mr ml mc) tWld (0,0)) _ from zP) Ent.rfl) (Ent.trans ((hE nlP) _) zE)) (Val.extract rfl rfl) rfl ?_
   refine A.take 10 _ rfl zK (Ent.trans (Ent.pull (show Pull _ (Blk w (wldP c (.slice (some ⟨gp,op,none⟩) (c.k+2) kp2) (ptr gl) (ptr gf) (.slice (some ⟨gw,0,none⟩) c.k c.k) nlP (ptr gu) nlP nlP x vpw mr ml mc) tWld (0,0)) _ from zP) Ent.rfl) (Ent.trans ((hE nlP) _) zE)) (Val.extract rfl rfl) rfl ?_;refine A.take 11 _ rfl zK (Ent.trans (Ent.pull (show Pull _ (Blk w (wldP c (.slice (some ⟨gp,op,none⟩) (c.k+2) kp2) (ptr gl) (ptr gf) (.slice (some ⟨gw,0,none⟩) c.k c.k) nlP (ptr gu) nlP nlP x vpw mr ml mc) tWld (0,0)) _ from zP) Ent.rfl) (Ent.trans ((hE nlP) _) zE)) (Val.nilCheck rfl) rfl ?_;refine A.take 12 _ rfl zK (Ent.trans (Ent.pull (show Pull _ (Blk w (wldP c (.slice (some ⟨gp,op,none⟩) (c.k+2) kp2) (ptr gl) (ptr gf) (.slice (some ⟨gw,0,none⟩) c.k c.k) nlP (ptr gu) nlP nlP x vpw mr ml mc) tWld (0,0)) _ from zP) Ent.rfl) (Ent.trans ((hE nlP) _) zE)) (Val.fieldAddr rfl) rfl ?_;refine tO 13 ?_;refine zs1 ?_;refine ⟨fun _=>(Ent.trans (Ent.pull (show Pull _ (Blk w (wldP c (.slice (some ⟨gp,op,none⟩) (c.k+2) kp2) (ptr gl) (ptr gf) (.slice (some ⟨gw,0,none⟩) c.k c.k) (ptr gfd) (ptr gu) nlP nlP x vpw mr ml mc) tWld (0,0)) _ from zP) Ent.rfl) (Ent.trans ((hE (ptr gfd)) _) zE)),?_⟩;refine tO 14 ?_;refine dV (Val.assign rfl) ?_;refine A.done zK ?_;clear hE rA hW21 W21;refine wB ?_;obtain ⟨W24,hW24⟩:∃ X:Res,X=Ex fun v:Value=>Blk w (wldP c (.slice (some ⟨gp,op,none⟩) (c.k+2) kp2) (ptr gl) (ptr gf) (.slice (some ⟨gw,0,none⟩) c.k c.k) (ptr gfd) (ptr gu) v nlP x vpw mr ml mc) tWld (0,0):=⟨_,rfl⟩
   have hE2:∀ (v:Value) (X:List Res),Ent (Blk w (wldP c (.slice (some ⟨gp,op,none⟩) (c.k+2) kp2) (ptr gl) (ptr gf) (.slice (some ⟨gw,0,none⟩) c.k c.k) (ptr gfd) (ptr gu) v nlP x vpw mr ml mc) tWld (0,0)::X) (W24::X):=fun v X=>by rw [hW24];exact ex_in (f:=fun v:Value=>Blk w (wldP c (.slice (some ⟨gp,op,none⟩) (c.k+2) kp2) (ptr gl) (ptr gf) (.slice (some ⟨gw,0,none⟩) c.k c.k) (ptr gfd) (ptr gu) v nlP x vpw mr ml mc) tWld (0,0)) v
   have rX:Rd (W24::M2::Blk gc (cfgC c) tCfg (0,0)::R) ⟨w,0+16+0,none⟩ x:=Rd.pull .zero (by rw [hW24];exact Rd.ex fun v=>Rd.blk .zero rfl);refine A.begin (id:=24) [] (W24::M2::Blk gc (cfgC c) tCfg (0,0)::R) Tryz.mixed ?_;refine A.take 0 _ rfl zK (Ent.trans (Ent.pull (show Pull _ (Blk w (wldP c (.slice (some ⟨gp,op,none⟩) (c.k+2) kp2) (ptr gl) (ptr gf) (.slice (some ⟨gw,0,none⟩) c.k c.k) (ptr gfd) (ptr gu) nlP nlP x vpw mr ml mc) tWld (0,0)) _ from zP) Ent.rfl) (Ent.trans ((hE2 nlP) _) zE)) (Val.load rfl zR) rfl ?_;refine A.take 1 _ rfl zK (Ent.trans (Ent.pull (show Pull _ (Blk w (wldP c (.slice (some ⟨gp,op,none⟩) (c.k+2) kp2) (ptr gl) (ptr gf) (.slice (some ⟨gw,0,none⟩) c.k c.k) (ptr gfd) (ptr gu) nlP nlP x vpw mr ml mc) tWld (0,0)) _ from zP) Ent.rfl) (Ent.trans ((hE2 nlP) _) zE)) (Val.load rfl zR) rfl ?_;refine A.take 2 _ rfl zK (Ent.trans (Ent.pull (show Pull _ (Blk w (wldP c (.slice (some ⟨gp,op,none⟩) (c.k+2) kp2) (ptr gl) (ptr gf) (.slice (some ⟨gw,0,none⟩) c.k c.k) (ptr gfd) (ptr gu) nlP nlP x vpw mr ml mc) tWld (0,0)) _ from zP) Ent.rfl) (Ent.trans ((hE2 nlP) _) zE)) (Val.nilCheck rfl) rfl ?_;refine A.take 3 _ rfl zK (Ent.trans (Ent.pull (show Pull _ (Blk w (wldP c (.slice (some ⟨gp,op,none⟩) (c.k+2) kp2) (ptr gl) (ptr gf) (.slice (some ⟨gw,0,none⟩) c.k c.k) (ptr gfd) (ptr gu) nlP nlP x vpw mr ml mc) tWld (0,0)) _ from zP) Ent.rfl) (Ent.trans ((hE2 nlP) _) zE)) (Val.fieldAddr rfl) rfl ?_;refine A.take 4 _ rfl zK (Ent.trans (Ent.pull (show Pull _ (Blk w (wldP c (.slice (some ⟨gp,op,none⟩) (c.k+2) kp2) (ptr gl) (ptr gf) (.slice (some ⟨gw,0,none⟩) c.k c.k) (ptr gfd) (ptr gu) nlP nlP x vpw mr ml mc) tWld (0,0)) _ from zP) Ent.rfl) (Ent.trans ((hE2 nlP) _) zE)) (Val.fieldAddr rfl) rfl ?_
   refine A.take 5 _ rfl zK (Ent.trans (Ent.pull (show Pull _ (Blk w (wldP c (.slice (some ⟨gp,op,none⟩) (c.k+2) kp2) (ptr gl) (ptr gf) (.slice (some ⟨gw,0,none⟩) c.k c.k) (ptr gfd) (ptr gu) nlP nlP x vpw mr ml mc) tWld (0,0)) _ from zP) Ent.rfl) (Ent.trans ((hE2 nlP) _) zE)) (Val.load rfl rX) rfl ?_;refine tO 6 ?_;refine Do.call rfl rfl (mNew_spec _ e x ecoLog (hx2.ent (one_in zP)) (pubP_length _)) ?_;rintro _ _ ⟨gm,rfl,rfl⟩;refine ⟨fun _=>(Ent.trans (Ent.pull (show Pull _ (Blk w (wldP c (.slice (some ⟨gp,op,none⟩) (c.k+2) kp2) (ptr gl) (ptr gf) (.slice (some ⟨gw,0,none⟩) c.k c.k) (ptr gfd) (ptr gu) nlP nlP x vpw mr ml mc) tWld (0,0)) _ from zP) Ent.rfl) (Ent.trans ((hE2 nlP) _) zE)),?_⟩;refine A.take 7 _ rfl zK (Ent.trans (Ent.pull (show Pull _ (Blk w (wldP c (.slice (some ⟨gp,op,none⟩) (c.k+2) kp2) (ptr gl) (ptr gf) (.slice (some ⟨gw,0,none⟩) c.k c.k) (ptr gfd) (ptr gu) nlP nlP x vpw mr ml mc) tWld (0,0)) _ from zP) Ent.rfl) (Ent.trans ((hE2 nlP) _) zE)) (Val.move rfl) rfl ?_;refine A.take 8 _ rfl zK (Ent.trans (Ent.pull (show Pull _ (Blk w (wldP c (.slice (some ⟨gp,op,none⟩) (c.k+2) kp2) (ptr gl) (ptr gf) (.slice (some ⟨gw,0,none⟩) c.k c.k) (ptr gfd) (ptr gu) nlP nlP x vpw mr ml mc) tWld (0,0)) _ from zP) Ent.rfl) (Ent.trans ((hE2 nlP) _) zE)) (Val.extract rfl rfl) rfl ?_;refine A.take 9 _ rfl zK (Ent.trans (Ent.pull (show Pull _ (Blk w (wldP c (.slice (some ⟨gp,op,none⟩) (c.k+2) kp2) (ptr gl) (ptr gf) (.slice (some ⟨gw,0,none⟩) c.k c.k) (ptr gfd) (ptr gu) nlP nlP x vpw mr ml mc) tWld (0,0)) _ from zP) Ent.rfl) (Ent.trans ((hE2 nlP) _) zE)) (Val.extract rfl rfl) rfl ?_
   refine A.take 10 _ rfl zK (Ent.trans (Ent.pull (show Pull _ (Blk w (wldP c (.slice (some ⟨gp,op,none⟩) (c.k+2) kp2) (ptr gl) (ptr gf) (.slice (some ⟨gw,0,none⟩) c.k c.k) (ptr gfd) (ptr gu) nlP nlP x vpw mr ml mc) tWld (0,0)) _ from zP) Ent.rfl) (Ent.trans ((hE2 nlP) _) zE)) (Val.nilCheck rfl) rfl ?_;refine A.take 11 _ rfl zK (Ent.trans (Ent.pull (show Pull _ (Blk w (wldP c (.slice (some ⟨gp,op,none⟩) (c.k+2) kp2) (ptr gl) (ptr gf) (.slice (some ⟨gw,0,none⟩) c.k c.k) (ptr gfd) (ptr gu) nlP nlP x vpw mr ml mc) tWld (0,0)) _ from zP) Ent.rfl) (Ent.trans ((hE2 nlP) _) zE)) (Val.fieldAddr rfl) rfl ?_;refine tO 12 ?_;refine zs1 ?_;refine ⟨fun _=>(Ent.trans (Ent.pull (show Pull _ (Blk w (wldP c (.slice (some ⟨gp,op,none⟩) (c.k+2) kp2) (ptr gl) (ptr gf) (.slice (some ⟨gw,0,none⟩) c.k c.k) (ptr gfd) (ptr gu) (ptr gm) nlP x vpw mr ml mc) tWld (0,0)) _ from zP) Ent.rfl) (Ent.trans ((hE2 (ptr gm)) _) zE)),?_⟩;refine A.done zK ?_;clear hE2 rX hW24 W24;refine wB ?_;refine A.begin (id:=25) [] (M2::Blk gc (cfgC c) tCfg (0,0)::R) Tryz.mixed ?_
   (refine tL 0 ?_)
   refine tO 1 ?_;refine Do.call rfl rfl (nnew_spec _ e 32 zo) ?_;rintro _ _ ⟨gn,rfl,rfl⟩;refine ⟨fun _=>zE,?_⟩
   (refine tM 2 ?_;refine tk 3 _ rfl (Val.extract rfl rfl) ?_;refine tk 4 _ rfl (Val.extract rfl rfl) ?_;refine tN 5 ?_;refine tF 6 ?_;(refine tO 7 ?_;refine zs1 ?_;refine ⟨fun _=>(by (repeat first|exact zE|exact Ent.nil|refine Ent.cons ?_|(apply Ent.pull;exact zP)|refine Ent.drop ?_);done),?_⟩))
   refine A.done zK ?_;refine wB ?_
   have hok:EMem.ok ⟨(.slice (some ⟨gp,op,none⟩) (c.k+2) kp2),gl,gf,(.slice (some ⟨gw,0,none⟩) c.k c.k),gfd,gu,gm,gn,x,vpw,nlS,mr,ml,nlS,mc,[],[],[],[],wx,ld,lk,fd,ud,[]⟩ M2 w c 0 (est0 c) :=
    {pol:=hpol
     root:=RdSl.nil _ _
     es:=fun x hx=>by cases hx
     kc:=fun x hx=>by cases hx
     all:=⟨.slice (some ⟨gd,od,none⟩) 3 cl,.slice (some ⟨gu0,ou0,none⟩) 1 cu,vs,hke,hwk,by rw [← parL_cells];exact hpar,hlo,hvu2,fun i h h2=>by
      have h3:i<wd.length:=by omega
      obtain ⟨a1,a2,a3⟩:=hps i h h3;obtain ⟨b1,b2⟩:=hwo i h2 h3;dsimp only;rw [b1,b2];exact ⟨a1,a2,a3⟩⟩
     net:=rfl
     st:=est0_ok hc
     ec:=Nat.zero_le _ }
   refine Fin.ret (EcoR w c 0 (est0 c) []::R) rfl (Ent.trans ?_ (eco_in hok rfl)) ⟨w,rfl,rfl⟩;dsimp only [ecoM,EMem.cells];rw [hwk];refine Ent.trans (own_nil tEv 4) ?_;exact zE
 (repeat (refine wA ?_;intros))
 rename_i gi;refine A.begin (id:=9) [12,13,14,15] (Blk gi [.int .i64 (i.vs.length:Int)] 3 (0,0)::Blk w (wldP c (.slice i.ap (i.vs.length+1) i.kp) nlP nlP (.slice (some ⟨gw,0,none⟩) c.k c.k) nlP nlP nlP nlP x (.slice i.aw i.ts.length i.kw) mr ml mc) tWld (0,0)::i.M::Blk gc (cfgC c) tCfg (0,0)::R) Tryz.mixed ?_
 (refine tL 0 ?_;refine tL 1 ?_;refine tN 2 ?_;refine tF 3 ?_;refine tF 4 ?_;refine tL 5 ?_;refine tL 6 ?_;refine tk 7 _ rfl (Val.add64 rfl rfl zo) ?_)
 rw [show ((i.vs.length:Int)+1)=((i.vs.length+1:Nat):Int) by omega];refine tO 8 ?_;refine Do.call rfl rfl (eSeed_spec _ e (i.vs.length+1) zo) ?_;rintro _ _ ⟨a9,ks,rfl,rfl⟩;refine ⟨fun _=>zE,?_⟩;refine tO 9 ?_;refine Do.call rfl rfl (sPublic_spec _ e _ (ecoSeed (i.vs.length+1)) (RdSl.own (show Pull _ (OwnB (.slice a9 (ecoSeed (i.vs.length+1)).length ks) (ecoSeed (i.vs.length+1))) _ from zP)) (ecoSeed_32 _)) ?_;rintro pv _ ⟨N,rfl,hN⟩;refine ⟨fun _=>zE,?_⟩;refine A.of_sep (RdB.one (hN.ent (one_in .zero))) fun op=>?_
 refine tO 10 ?_;refine Do.buildSlice (n:=1) (cs:=[pv]) rfl rfl rfl rfl (.one (cells_one op) rfl .nil) rfl (fun gb=>⟨fun _=>zE,?_⟩);refine tO 11 ?_;refine Do.append rfl rfl rfl (show Pull _ (OwnT (.slice i.aw i.ts.length i.kw) i.ts) _ from zP) (RdSl.blk zP rfl zl) rfl rfl zO zm zo fun aw1 kw1 _=>⟨fun _=>zE,?_⟩
 ((refine tO 12 ?_;refine dV (Val.nilCheck rfl) ?_);(refine tO 13 ?_;refine dV (Val.fieldAddr rfl) ?_);(refine tO 14 ?_;refine dV (Val.fieldAddr rfl) ?_);(refine tO 15 ?_;refine zs1 ?_;refine ⟨zN,?_⟩))
 refine A.done zK ?_
 (repeat (refine wA ?_;intros))
 refine A.begin (id:=10) [12,13,14] (Blk w (wldP c (.slice i.ap (i.vs.length+1) i.kp) nlP nlP (.slice (some ⟨gw,0,none⟩) c.k c.k) nlP nlP nlP nlP x (.slice aw1 (i.ts.length+1) kw1) mr ml mc) tWld (0,0)::i.M::Blk gc (cfgC c) tCfg (0,0)::R) Tryz.mixed ?_
 (refine tL 0 ?_;refine tL 1 ?_;refine tN 2 ?_;refine tF 3 ?_;refine tL 4 ?_;refine tF 5 ?_;refine tL 6 ?_)
 refine tk 8 _ rfl (Val.makeFunc rfl rfl) ?_;refine tO 7 ?_;refine Do.call rfl rfl (eDisks_spec _ e 2 zo) ?_;rintro _ _ ⟨ad2,kd2,gs,rfl,hgl,rfl⟩
 obtain ⟨d1,k1,rfl⟩:∃ a b,gs=[a,b]:=by
  match gs,hgl with
  | [a,b],_=>exact ⟨a,b,rfl⟩
 refine ⟨fun _=>zE,?_⟩;refine tk 9 _ rfl (Val.build rfl zF) ?_;refine tO 10 ?_;refine Do.buildSlice (n:=2) (cs:=[.slice ad2 2 kd2,.func (.func 161) #[] #[ptr g4,ptr gi]]) rfl rfl rfl rfl zQ rfl (fun gb2=>⟨fun _=>zE,?_⟩);refine tO 11 ?_;refine Do.append rfl rfl rfl (show Pull _ (Own tPar 2 (.slice i.ap (i.vs.length+1) i.kp) (i.vs.length+1) (parC w vl i.vs)) _ from zP) (RdSl.blkN (n:=2) (c:=1) zP rfl zl) rfl rfl zO zm zo fun ap1 kp1 _=>⟨fun _=>zE,?_⟩
 ((refine tO 12 ?_;refine dV (Val.nilCheck rfl) ?_);(refine tO 13 ?_;refine dV (Val.fieldAddr rfl) ?_);(refine tO 14 ?_;refine zs1 ?_;refine ⟨zN,?_⟩))
 refine A.done zK ?_;refine wB ?_;refine Fin.round ⟨i.vs++[(.slice ad2 2 kd2,g4,gi)],i.wd++[(d1,k1)],i.ts++[(pv,pubP (ecoSeed (i.vs.length+1)))],ap1,kp1,aw1,kw1,All [i.M,N,Blk gi [.int .i64 (i.vs.length:Int)] 3 (0,0),Own tDp 1 (.slice ad2 2 kd2) 2 [ptr d1,ptr k1]]⟩ (hi.more hlt hN) (by simp only [List.length_append,List.length_singleton];omega) ?_ ?_
 ·simp only [List.length_append,List.length_singleton];exact zS
 ·simp only [newM,OwnT,parC,List.length_append,List.length_singleton,List.map_append,List.map_cons,List.map_nil,List.flatMap_append,List.flatMap_cons,List.flatMap_nil,List.append_nil];refine Ent.trans (pull4_all (A:=i.M) (B:=N) (C:=Blk gi [.int .i64 (i.vs.length:Int)] 3 (0,0)) (D:=Own tDp 1 (.slice ad2 2 kd2) 2 [ptr d1,ptr k1]) zP zP zP zP) ?_;exact Ent.trans (ent_two (A:=All (wdL i.wd)) (B:=All (disksL [d1,k1])) zP zP fun X=>wdL_snoc) zE
end Go.Proofs
