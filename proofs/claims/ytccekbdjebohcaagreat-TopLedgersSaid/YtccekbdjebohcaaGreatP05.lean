/- Part 5 of a proof of this: TopLedgers returns true for any arguments; nothing of the old memory is turned. No condition. -/
import Derived.Test.YtccekbdjebohcaaGreatP04
set_option linter.unusedVariables false
set_option linter.unusedSimpArgs false
namespace Go.Bs
theorem run_append_make {P:Program} {w:World} (t u ty e:TypeId) (i:TypeInfo) (z:Value) (ht:P.underlying t=some (.slice e)) (hu:P.underlying u=some (.int .i64)) (hi:P.info? e=some i) (hz:i.zero=some z)
 (n:Nat) (h0:0<n) (h63:n≤1000000) (hz1:i.size=1) (h48:n*i.bytes≤140737488355328) :
 (Builtin.append_ #[t,u] ty #[nY,.int .i64 (n:Int)]).run P w =
  .ok (.slice (some ⟨w.heap.size,0,none⟩) n (grownCap w n 0 e)) (w.drew.alloc (.cells (Builtin.zeroCells z.cells n++Builtin.zeroCells z.cells (grownCap w n 0 e - n)) e)):=by
 have hn:n≠0:=by omega
 have hw:IntKind.i64.wrap (n:Int)=(n:Int):=wrap_i64 zo zo;have h1:¬ ((n:Int)<0):=by omega
 have h2:¬ (281474976710656<(n:Int)*(i.bytes:Int)):=by
  have:((n*i.bytes:Nat):Int)=(n:Int)*(i.bytes:Int):=by simp
  rw [← this];omega
 have h3:¬ (9223372036854775807<(n:Int)):=by omega
 have h4:¬ (281474976710656<Builtin.nextslicecap n 0*i.bytes):=by rw [nextslicecap_zero h0];omega
 simp [Builtin.append_,run_underlying ht,run_underlying hu,sizeOf,typeInfo,zeroValue,hi,hz,hz1,asInt,asIntOf,hw,h1,h2,h3,h4,hn,Nat.pos_iff_ne_zero.1 h0,Question.forced,run_firstCells_none,newRow,grownCap]
section
variable {P:Program} {N:Fr} {Q:Goal} {σ:Env} {e:World} {L:List Res} {all:Array Oper} {rest:List Oper}
variable {d:Nat} {ty:TypeId} {pos:String} {af:Array Edge} {gd:Option (Nat × Bool)} {K:Env→List Res→Prop} {x y:Operand}
theorem Do.appendMake {t u el b n:Nat} {z:Value} [i:SlT P t el 1] [j:ElT P el z 1 b] [q:IntT P u .i64] (hx:ev σ x=some nY) (hy:ev σ y=some (.int .i64 (n:Int))) (hd:Nat.blt d N.n=true) (h0:0<n) (h63:n≤1000000) (hb:n*b≤140737488355328) (hz:z.cells.size=1)
 (kk:∀ g c,n≤c→K ((d,.slice (some ⟨g,0,none⟩) n c)::σ) (Own el 1 (.slice (some ⟨g,0,none⟩) 0 c) 0 []::L)) :
 Do P N ⟨some d,.call { callee:=.builtin .append,args:=#[x,y],argTypes:=#[t,u] },ty,pos,af,gd⟩ K σ e L:=fun a w ha hs K' Q' hK=>by
 obtain ⟨ti,t1,t2,t3,t4⟩:=j.parts;have hr:=run_append_make (P:=P) (w:=w) t u ty el ti z i.und q.und t1 t2 n h0 h63 t3 (by rw [t4];exact hb);refine upon_ok_do (v:=.slice (some ⟨w.heap.size,0,none⟩) n (grownCap w n 0 el)) (w':=w.drew.alloc (.cells (Builtin.zeroCells z.cells n++Builtin.zeroCells z.cells (grownCap w n 0 el - n)) el)) (by simp [execOp,resolve,invoke,builtin,ha.ev hx,ha.ev hy,hr]) ?_;have hge:=grownCap_ge w n 0 el;have hcm:grownCap w n 0 el≤maxLen:=grownCap_le_maxLen w n 0 el zm;refine hK _ _ _ _ (kk w.heap.size (grownCap w n 0 el) hge) (ha.put hd _) ?_;have hs3:Sat e (Blk _ _ el (0,0)::L) _:=(((hs.drawn _:Sat e L w.drew)).alloc (.cells (Builtin.zeroCells z.cells n++Builtin.zeroCells z.cells (grownCap w n 0 el - n)) el)).ent (blk_arr _ _ _ _)
 have hsz:(Builtin.zeroCells z.cells n++Builtin.zeroCells z.cells (grownCap w n 0 el - n)).toList.length=grownCap w n 0 el*1:=by
  simp only [Array.length_toList,Array.size_append,size_zeroCells,hz]
  omega
 have hin:=own_in (E:=el) (n:=1) (k:=0) (g:=w.heap.size) (R:=L) (Nat.zero_le _) hcm hsz;simp only [Nat.zero_mul,List.take_zero] at hin
 exact hs3.ent hin
theorem Val.cap {t:TypeId} {el n l c:Nat} {ad:Option Addr} {ats:List TypeId} [i:SlT P t el n] (h:ev σ x=some (.slice ad l c)) :
 Val P N (.call { callee:=.builtin .cap,args:=#[x],argTypes:=(t::ats).toArray }) ty (.int .i64 c) σ e L:=fun a w ha _ _ _ _ _=>by
 simp [execOp,resolve,invoke,builtin,Builtin.cap_,ha.ev h,run_underlying i.und,goInt]
end
end Go.Bs
namespace Go.Proofs
open Go.Bs
attribute [local irreducible] Bs.Val Bs.Do Bs.O Bs.W Bs.Fin Bs.A Bs.Ct Bs.RdSl Bs.Rd Bs.Sat Bs.Blk Bs.Ob Bs.Own Bs.View Bs.Ent Bs.Ex Bs.All Bs.Pu Bs.Base Bs.sepL Bs.RdA
theorem growNil_spec (R:List Res) (e:World) (n:Nat) (h0:0<n) (hn:n≤100000) :
 Ct Tryz.prog 298 #[nY,.int .i64 (n:Int)] e R (fun v' L'=>∃ ad c,v'=.slice ad 0 c∧L'=Own tTxts 1 (.slice ad 0 c) 0 []::R):=by
 refine Ct.enter (args:=[_,_]) Tryz.func298 rfl Tryz.ntmps298 Tryz.results298 rfl ?_
 (repeat' first|(refine O.val _ (Val.cap (ats:=[]) rfl) rfl ?_)|refine Za ?_|refine Zb ?_|apply Zc|apply Zd|apply Ze|apply Zf|refine Zk ?_|refine ZB ?_|refine ZG ?_|refine ZU ?_|refine Yr ?_|refine Yz ?_|refine YA ?_|apply YC)
 refine O.do (Do.appendMake (n:=n) (z:=nY) rfl rfl rfl h0 zo zo rfl fun g c hc=>?_)
 refine wB ?_;exact Fin.ret _ rfl Ent.rfl ⟨_,_,rfl,rfl⟩
theorem concat_spec (R:List Res) (e:World) (g:Nat) (va vb:Value) (a b:List Txt) (T:Nat) (fz:Nat × Nat) (hg:RdSl R 1 (.slice (some ⟨g,0,none⟩) 2 2) 2 [va,vb]) (ha:RdSl R 1 va a.length (a.map (·.1))) (hb:RdSl R 1 vb b.length (b.map (·.1))) (hta:Txts R a) (htb:Txts R b) (hl:a.length≤1000) (hl2:b.length≤1000) (hp:0<a.length+b.length) :
 Ct Tryz.prog 265 #[.slice (some ⟨g,0,none⟩) 2 2] e R (fun v' L'=>∃ ad c,v'=.slice ad (a++b).length c∧L'=OwnT (.slice ad (a++b).length c) (a++b)::R):=by
 refine Ct.of_sep (ha.shape zo) ?_;rintro ⟨⟨ada,ca,rfl,a3,a4,a5,a6⟩,_⟩;refine Ct.of_sep (hb.shape zo) ?_;rintro ⟨⟨adb,cb,rfl,b3,b4,b5,b6⟩,_⟩;refine Ct.of_sep (txt_ones hta) fun oa=>?_
 refine Ct.of_sep (txt_ones htb) fun ob=>?_
 have hr0:Rd R ⟨g,0+0,none⟩ (.slice ada a.length ca):=hg.elem (j:=0) rfl;have hr1:Rd R ⟨g,0+1,none⟩ (.slice adb b.length cb):=hg.elem (j:=1) rfl;refine Ct.enter (args:=[_]) Tryz.func265 rfl Tryz.ntmps265 Tryz.results265 rfl ?_;refine wB ?_;refine W.loop (ι:=Nat × Nat) (fun i=>[(0,.slice (some ⟨g,0,none⟩) 2 2),(3,.int .i64 (i.2:Int)),(9,.slice (some ⟨g,0,none⟩) 2 2),(10,.int .i64 2),(11,.int .i64 (i.1:Int))]) (fun _=>R) (fun i=>i.1≤2∧i.2=if i.1=0 then 0 else if i.1=1 then a.length else a.length+b.length) (fun i=>2 - i.1) (0,0) ⟨by omega,rfl⟩ zS Ent.rfl ?_;rintro ⟨i,m⟩ ⟨hi,hm⟩;dsimp only at hi hm ⊢
 match i,hi with
 | 0,_ =>
  have hm:m=0:=hm;subst hm;refine wB ?_;rw [show ((0:Nat):Int)+(a.length:Int)=(a.length:Int) by omega];exact Fin.round (1,a.length) ⟨by dsimp only;omega,rfl⟩ zd zS Ent.rfl
 | 1,_ =>
  have hm:m=a.length:=hm;subst hm;refine wB ?_;exact Fin.round (2,a.length+b.length) ⟨by dsimp only;omega,rfl⟩ zd zS Ent.rfl
 | 2,_ =>
  have hm:m=a.length+b.length:=hm;subst hm;refine wB ?_;refine O.call rfl rfl (growNil_spec R e (a.length+b.length) hp zo) ?_;rintro _ _ ⟨ad0,c0,rfl,rfl⟩;refine wB ?_;refine W.loop (ι:=Nat × List Txt × Option Addr × Nat) (fun i=>[(6,.slice i.2.2.1 i.2.1.length i.2.2.2),(25,.slice (some ⟨g,0,none⟩) 2 2),(26,.int .i64 2),(27,.int .i64 (i.1:Int))]) (fun i=>OwnT (.slice i.2.2.1 i.2.1.length i.2.2.2) i.2.1::R) (fun i=>i.1≤2∧i.2.1=if i.1=0 then [] else if i.1=1 then a else a++b) (fun i=>2 - i.1) (0,[],ad0,c0) ⟨by omega,rfl⟩ zS Ent.rfl ?_;rintro ⟨i,ts,ad,c⟩ ⟨hi,hts⟩;dsimp only at hi hts ⊢
  match i,hi with
  | 0,_ =>
   have hts:ts=[]:=hts;subst hts;refine wB ?_;refine O.do (Do.append rfl rfl rfl .zero ha rfl rfl oa (by simp only [List.length_nil,maxLen];omega) (by simp only [List.length_nil];omega) fun ad4 c4 _=>?_)
   rw [show ([]:List Txt).length+a.length=a.length by simp];refine wB ?_;exact Fin.round (1,a,ad4,c4) ⟨by dsimp only;omega,rfl⟩ zd zS Ent.rfl
  | 1,_ =>
   have hts:ts=a:=hts;subst hts;refine wB ?_;refine O.do (Do.append rfl rfl rfl .zero hb rfl rfl ob zm zo fun ad4 c4 _=>?_)
   refine wB ?_;refine Fin.round (2,ts++b,ad4,c4) ⟨by dsimp only;omega,rfl⟩ zd ?_ ?_
   ·dsimp only;rw [List.length_append];exact zS
   ·simp only [OwnT,List.length_append,List.map_append];exact Ent.rfl
  | 2,_ =>
   have hts:ts=a++b:=hts;subst hts;refine wB ?_;exact Fin.ret _ rfl Ent.rfl ⟨ad,c,rfl,rfl⟩
theorem sEncode_spec (R:List Res) (e:World) (vp vq:Value) (s:Sig) (hs:RdSig R vp vq s) (hr:s.right) :
 Ct Tryz.prog 207 #[.agg (sigC s vp vq).toArray] e R (fun v' L'=>∃ ad c,v'=.tuple #[.slice ad (encSig s).length c,.int .i64 0]∧L'=OwnB (.slice ad (encSig s).length c) (encSig s)::R):=by
 obtain ⟨q1,q2,q3,q4,q5⟩:=id hr;obtain ⟨ts,e1,r1,t1⟩:=hs.parts;obtain ⟨us,e2,r2,t2⟩:=hs.path;have hl1:ts.length=64:=by rw [← q2,← e1,List.length_map]
 have hl2:us.length=4:=by rw [← q4,← e2,List.length_map]
 have h32:∀ a∈ts++us,a.2.length=32:=fun a ha=>by
  rcases List.mem_append.1 ha with h|h
  ·exact txt_len e1 q3 a h
  ·exact txt_len e2 q5 a h
 refine Ct.of_sep hs.parts.one fun o1=>?_
 refine Ct.of_sep hs.path.one fun o2=>?_
 refine Ct.enter (args:=[_]) Tryz.func207 rfl Tryz.ntmps207 Tryz.results207 rfl ?_
 (repeat (refine wA ?_;intros))
 rename_i g;refine O.call rfl rfl (sRight_spec _ e vp vq s hs.tail) ?_;rintro _ _ ⟨rfl,rfl⟩;rw [decide_eq_true hr];refine wB ?_;refine O.call rfl rfl (new_spec _ e) ?_;rintro _ _ ⟨gw,rfl,rfl⟩;refine wB ?_;refine O.call rfl rfl (num_spec _ e gw [] s.idx zo (by simp)) ?_;rintro _ _ ⟨rfl,rfl⟩
 (repeat' first|(apply O.buildSlice;exact rfl;exact rfl;exact rfl;exact .one (cells_one o1) rfl (.one (cells_one o2) rfl .nil);exact rfl;exact rfl;intro _)|apply Zc|apply Zd|apply Ze|apply Zf|refine Zh ?_|refine Zi ?_|fail)
 rename_i gl;refine O.call rfl rfl (concat_spec _ e gl vp vq ts us 0 (0,0) (RdSl.blk .zero rfl zl) r1.tail.tail.tail r2.tail.tail.tail (Txts.tail (Txts.tail (Txts.tail t1))) (Txts.tail (Txts.tail (Txts.tail t2))) zo zo zo) ?_;rintro _ _ ⟨ad,c,rfl,rfl⟩;refine O.of_sep (own_shape .zero) ?_;rintro ⟨⟨a,cc,hq,hc1,hc2,hqq⟩,_⟩;obtain ⟨rfl,_,rfl⟩:=Value.slice.inj hq;clear hq;simp only [maxLen] at hc2
 have hal:(ts++us).length=68:=by rw [List.length_append];omega
 have htx:Txts R (ts++us):=fun x hx=>by
  rcases List.mem_append.1 hx with h|h
  ·exact t1 x h
  ·exact t2 x h
 have hflat:(((ts++us).map (·.2)).flatten)=s.parts.flatten++s.path.flatten:=by rw [List.map_append,List.flatten_append,e1,e2]
 generalize ts++us=ws at *
 refine wB ?_;refine W.loop (ι:=Nat) (fun i=>[(4,pt gw),(21,.slice ad ws.length c),(22,.int .i64 (ws.length:Int)),(23,.int .i64 (i:Int))]) (fun i=>Writer gw (be s.idx 4++((ws.map (·.2)).take i).flatten)::OwnT (.slice ad ws.length c) ws::R) (fun i=>i≤ws.length) (fun i=>ws.length - i) 0 (Nat.zero_le _) zS zE ?_;intro i hi
 have hfl:=flat_len (l:=(ws.map (·.2)).take i) (fun a ha=>by
  obtain ⟨x,hx,rfl⟩:=List.mem_map.1 (List.mem_of_mem_take ha);exact h32 x hx)
 rw [List.length_take,List.length_map] at hfl
 have hb4:=be_length s.idx 4
 by_cases hlt:i<ws.length
 rotate_left
 ·have hie:i=ws.length:=by omega
  subst hie;rw [List.take_of_length_le (by rw [List.length_map];exact Nat.le_refl _),hflat] at *
  refine wB ?_;refine O.call rfl rfl (done_spec _ e gw _ (by rw [List.length_append];omega)) ?_;rintro _ _ ⟨ad2,c2,rfl,rfl⟩;refine wB ?_;exact Fin.ret (OwnB (.slice ad2 (encSig s).length c2) (encSig s)::R) rfl zE ⟨ad2,c2,rfl,rfl⟩
 rcases hqq with ⟨_,_,h0⟩|⟨p,rfl⟩
 ·omega
 have hrr:Rd (OwnT (.slice (some ⟨p,0,none⟩) ws.length c) ws::R) ⟨p,0+i,none⟩ (ws[i]'hlt).1:=(RdSl.own .zero).elem (by rw [List.getElem?_map,List.getElem?_eq_getElem hlt];rfl);have hti:=htx _ (List.getElem_mem hlt);have hzi:=h32 _ (List.getElem_mem hlt)
 have hnext:be s.idx 4++((ws.map (·.2)).take i).flatten++(ws[i]'hlt).2=be s.idx 4++((ws.map (·.2)).take (i+1)).flatten:=by
  rw [List.take_succ_eq_append_getElem (by rw [List.length_map];exact hlt),List.getElem_map,List.flatten_append,List.append_assoc]
  simp
 generalize ws[i]'hlt=y at *
 obtain ⟨yv,yb⟩:=y;dsimp only at hrr hti hzi hnext
 refine wB ?_;refine O.call rfl rfl (raw_spec _ e gw _ yb yv hti.tail (by rw [List.length_append];omega)) ?_;rintro _ _ ⟨rfl,rfl⟩;rw [hnext];refine wB ?_;exact Fin.round (i+1) hlt zo zS Ent.rfl
end Go.Proofs
namespace Go.Bs
section
variable {P:Program} {N:Fr} {Q:Goal} {σ:Env} {e:World} {L:List Res} {all:Array Oper} {rest:List Oper}
variable {d:Nat} {op:Op} {ty:TypeId} {pos:String} {af:Array Edge} {x:Operand} {t:TypeId}
theorem Val.loadAggB {n g o:Nat} {xs cs:List Value} {T:TypeId} {fz:Nat × Nat} {R:List Res} [i:AggT P t n] (h:ev σ x=some (.pointer (some ⟨g,o,none⟩))) (p:Pull L (Blk g xs T fz) R) (hc:(xs.drop o).take n=cs) (hl:cs.length=n):Val P N (.load t x) ty (.agg cs.toArray) σ e L :=
 Val.loadAggR h (RdA.blk p ⟨n,hc⟩) hl
theorem O.loadAggB {n g o:Nat} {xs cs:List Value} {T:TypeId} {fz:Nat × Nat} {R:List Res} [i:AggT P t n] (h:ev σ x=some (.pointer (some ⟨g,o,none⟩))) (p:Pull L (Blk g xs T fz) R) (hc:(xs.drop o).take n=cs) (hl:cs.length=n) (hd:Nat.blt d N.n=true) (kk:O P N all rest Q ((d,.agg cs.toArray)::σ) e L) :
 O P N all (⟨some d,.load t x,ty,pos,af,none⟩::rest) Q σ e L:=O.val _ (Val.loadAggB h p hc hl) hd kk
end
end Go.Bs
namespace Go.Proofs
open Go.Bs
structure Chk where
 size:Nat
 root:List UInt8
 deriving DecidableEq
def Chk.right (c:Chk):Prop:=c.size≤256∧c.root.length=32
instance (c:Chk):Decidable c.right:=by unfold Chk.right;infer_instance
def titleC:List UInt8:=[98,114,111,97,100,115,104,101,101,116,32,99,104,101,99,107]
def titleG:List UInt8:=[98,114,111,97,100,115,104,101,101,116,32,99,111,115,105,103,110]
def bodyC (c:Chk):List UInt8:=titleC++be c.size 4++c.root
def bodyG (c:Chk):List UInt8:=titleG++be c.size 4++c.root
structure Sgd where
 chk:Chk
 sig:Sig
 deriving DecidableEq
def Sgd.ver (s:Sgd) (pub:List UInt8):Prop:=s.chk.right∧verP pub (bodyC s.chk) s.sig
instance (s:Sgd) (pub:List UInt8):Decidable (s.ver pub):=by unfold Sgd.ver;infer_instance
def signC (seed:List UInt8) (i:Nat) (c:Chk):Sgd:=⟨c,signP seed i (bodyC c)⟩
theorem ver_signC {seed:List UInt8} {i:Nat} {c:Chk} (hc:c.right) (hi:i<16):(signC seed i c).ver (pubP seed):=⟨hc,ver_sign hi⟩
structure Csg where
 wit:Nat
 sig:Sig
 deriving DecidableEq
def signG (seed:List UInt8) (i w:Nat) (c:Chk):Csg:=⟨w,signP seed i (bodyG c)⟩
def encSgd (s:Sgd):List UInt8:=be s.chk.size 4++(s.chk.root++encSig s.sig)
def encCsg (g:Csg):List UInt8:=UInt8.ofNat g.wit::encSig g.sig
abbrev chkC (c:Chk) (vr:Value):List Value:=[.int .i64 (c.size:Int),vr]
abbrev sgdC (s:Sgd) (vr vp vq:Value):List Value:=[.int .i64 (s.chk.size:Int),vr,.int .i64 (s.sig.idx:Int),vp,vq]
abbrev csgC (g:Csg) (vp vq:Value):List Value:=[.int .i64 (g.wit:Int),.int .i64 (g.sig.idx:Int),vp,vq]
structure RdSgd (L:List Res) (vr vp vq:Value) (s:Sgd):Prop where
 root:RdB L vr s.chk.root
 sig:RdSig L vp vq s.sig
 small:s.chk.size<4294967296∧s.chk.root.length≤1000000
theorem RdSgd.ent {L L':List Res} {vr vp vq:Value} {s:Sgd} (h:RdSgd L' vr vp vq s) (f:Ent L L'):RdSgd L vr vp vq s:=⟨h.root.ent f,h.sig.ent f,h.small⟩
theorem rdb_all {M:List Res} {v:Value} {b:List UInt8} (h:RdB M v b):RdB [All M] v b:=rd_all h
theorem rdsgd_all {M:List Res} {vr vp vq:Value} {s:Sgd} (h:RdSgd M vr vp vq s):RdSgd [All M] vr vp vq s:=h.ent (Ent.trans (all_out (L:=[])) (by rw [List.append_nil];exact Ent.rfl))
theorem bodyC_length {c:Chk} (h:c.right):(bodyC c).length=52:=by unfold bodyC;rw [List.length_append,List.length_append,be_length,h.2];rfl
theorem bodyG_length {c:Chk} (h:c.right):(bodyG c).length=53:=by unfold bodyG;rw [List.length_append,List.length_append,be_length,h.2];rfl
theorem encSgd_length {s:Sgd} (h:s.chk.right) (h2:s.sig.right):(encSgd s).length=2216:=by unfold encSgd;rw [List.length_append,List.length_append,be_length,h.2,encSig_length h2]
theorem encCsg_length {g:Csg} (h:g.sig.right):(encCsg g).length=2181:=by unfold encCsg;rw [List.length_cons,encSig_length h]
end Go.Proofs
namespace Go.Proofs
attribute [local irreducible] Bs.Val Bs.Do Bs.O Bs.W Bs.Fin Bs.A Bs.Ct Bs.RdSl Bs.Rd Bs.Sat Bs.Blk Bs.Ob Bs.Own Bs.View Bs.Ent Bs.Ex Bs.All Bs.Pu Bs.Base Bs.sepL Bs.RdA
open Go.Bs
open Tryz
variable (R:List Res) (e:World)
theorem cRight_spec (vr:Value) (c:Chk) (hv:RdB R vr c.root) :
 Ct prog 107 #[.agg (chkC c vr).toArray] e R (fun v' L'=>v'=.bool (decide c.right)∧R=L'):=by
 refine Ct.of_sep (RdSl.shape hv zo) ?_;rintro ⟨⟨ad,cap,rfl,h3,h4,h5,h6⟩,_⟩;refine Ct.enter (args:=[_]) func107 rfl ntmps107 results107 rfl ?_
 by_cases h1:c.size≤256
 rotate_left
 ·rw [decide_eq_false (fun q:c.right=>h1 q.1)]
  (repeat (refine wA ?_;intros))
  exact Fin.ret R rfl zE ⟨rfl,rfl⟩
 by_cases h2:c.root.length=32
 ·rw [decide_eq_true (show c.right from ⟨h1,h2⟩)]
  (repeat (refine wA ?_;intros))
  exact Fin.ret R rfl zE ⟨rfl,rfl⟩
 ·rw [decide_eq_false (fun q:c.right=>h2 q.2)]
  (repeat (refine wA ?_;intros))
  exact Fin.ret R rfl zE ⟨rfl,rfl⟩
theorem cBody_spec (vr:Value) (c:Chk) (hv:RdB R vr c.root) (hc:c.right) :
 Ct prog 43 #[.agg (chkC c vr).toArray] e R (fun v' L'=>∃ ad k,v'=.slice ad (bodyC c).length k∧L'=OwnB (.slice ad (bodyC c).length k) (bodyC c)::R):=by
 have hc1:=hc.1;have hc2:=hc.2;refine Ct.of_sep (RdB.one hv) fun ho=>?_
 refine Ct.enter (args:=[_]) func43 rfl ntmps43 results43 rfl ?_
 (repeat (refine wA ?_;intros))
 rename_i g;refine O.call rfl rfl (cRight_spec _ e vr c hv.tail) ?_;rintro _ _ ⟨rfl,rfl⟩;rw [decide_eq_true hc];refine wB ?_;refine O.call rfl rfl (new_spec _ e) ?_;rintro _ _ ⟨gw,rfl,rfl⟩
 (repeat (refine wA ?_;intros))
 rename_i gt;refine O.ent1 (show Ent _ (Writer gw []::Blk gt (titleC.map u8) tU8 (16,17)::Blk g (chkC c vr) 83 (0,0)::R) from Ent.pull (.succ .zero) Ent.rfl) ?_;refine O.call rfl rfl (raw_spec _ e gw [] titleC _ (RdSl.blk .zero rfl zl) (by decide)) ?_;rintro _ _ ⟨rfl,rfl⟩;refine wB ?_;refine O.call rfl rfl (num_spec _ e gw _ c.size zo (by decide)) ?_;rintro _ _ ⟨rfl,rfl⟩;refine wB ?_;refine O.call rfl rfl (raw_spec _ e gw _ c.root vr hv.tail.tail (by rw [List.length_append,be_length];simp only [List.nil_append,show titleC.length=16 from rfl];omega)) ?_;rintro _ _ ⟨rfl,rfl⟩;rw [show []++titleC++be c.size 4++c.root=bodyC c by simp [bodyC]];refine wB ?_;refine O.call rfl rfl (done_spec _ e gw _ (by rw [bodyC_length hc];omega)) ?_;rintro _ _ ⟨ad,k,rfl,rfl⟩;refine wB ?_;exact Fin.ret (OwnB (.slice ad (bodyC c).length k) (bodyC c)::R) rfl zE ⟨ad,k,rfl,rfl⟩
theorem cSame_spec (va vb:Value) (a b:Chk) (ha:RdB R va a.root) (hb:RdB R vb b.root) :
 Ct prog 195 #[.agg (chkC a va).toArray,.agg (chkC b vb).toArray] e R (fun v' L'=>v'=.bool (decide (a=b))∧R=L'):=by
 have hab:a=b↔a.size=b.size∧a.root=b.root:=by cases a;cases b;simp
 refine Ct.enter (args:=[_,_]) func195 rfl ntmps195 results195 rfl ?_
 by_cases h1:a.size=b.size
 rotate_left
 ·rw [decide_eq_false (fun q=>h1 (hab.1 q).1)]
  (repeat (refine wA ?_;intros))
  exact Fin.ret R rfl zE ⟨rfl,rfl⟩
 (repeat (refine wA ?_;intros))
 refine O.call rfl rfl (same_spec _ e va vb a.root b.root ha.tail.tail hb.tail.tail) ?_;rintro _ _ ⟨rfl,rfl⟩;rw [show decide (a.root=b.root)=decide (a=b) from decide_eq_decide.2 (by rw [hab];exact ⟨fun q=>⟨h1,q⟩,fun q=>q.2⟩)];refine wB ?_;exact Fin.ret R rfl zE ⟨rfl,rfl⟩
theorem cCopy_spec (vr vp vq:Value) (s:Sgd) (hs:RdSgd R vr vp vq s) (hr:s.sig.fits) :
 Ct prog 102 #[.agg (sgdC s vr vp vq).toArray] e R (fun v' L'=>∃ (M:Res) (ur up uq:Value),v'=.agg (sgdC s ur up uq).toArray∧RdSgd [M] ur up uq s∧L'=M::R):=by
 obtain ⟨h1,h2,h3⟩:=hs;refine Ct.of_sep (RdB.one h1) fun o1=>?_
 refine Ct.of_sep h2.parts.one fun o2=>?_
 refine Ct.of_sep h2.path.one fun o3=>?_
 refine Ct.enterC (args:=[_]) func102 rfl ntmps102 results102 rfl ?_
 (repeat (refine wA ?_;intros))
 rename_i g1 g2;refine A.begin (id:=1) [12] (Blk g1 (sgdC s vr vp vq) 87 (0,0)::R) mixed ?_
 (refine tF 0 ?_;refine tF 1 ?_;refine tL 2 ?_;refine tF 3 ?_;refine tF 4 ?_;refine tL 5 ?_;refine tF 8 ?_;refine tk 9 _ rfl (Val.loadAggB rfl zP zI zX) ?_)
 refine tO 6 ?_;refine Do.call rfl rfl (clone_spec _ e vr s.chk.root h1.tail.tail zo) ?_;rintro _ _ ⟨ad1,c1,rfl,hc1,rfl⟩;refine ⟨fun _=>zE,?_⟩
 (refine tk 7 _ rfl (Val.build rfl zF) ?_)
 refine tO 10 ?_;refine Do.call rfl rfl (sCopy_spec _ e vp vq s.sig h2.tail.tail.tail hr) ?_;rintro _ _ ⟨M,up,uq,rfl,hM,rfl⟩;refine ⟨fun _=>zE,?_⟩;refine A.of_sep (hM.ent zE).parts.one fun o4=>?_
 refine A.of_sep (hM.ent zE).path.one fun o5=>?_
 (refine tk 11 _ rfl (Val.build rfl zF) ?_;(refine tO 12 ?_;refine zg ?_;refine ⟨zN,?_⟩))
 refine A.done zK ?_;refine wB ?_;apply Fin.retC
 ·exact zV
 refine ⟨All [OwnB (.slice ad1 s.chk.root.length c1) s.chk.root,M]::R,Ent.trans (show Ent _ (OwnB (.slice ad1 s.chk.root.length c1) s.chk.root::M::R) from zE) (all_in (M:=[_,_])),All [OwnB (.slice ad1 s.chk.root.length c1) s.chk.root,M],.slice ad1 s.chk.root.length c1,up,uq,rfl,rdsgd_all ⟨RdSl.own .zero,hM.ent (Ent.drop Ent.rfl),h3⟩,rfl⟩
theorem cVerify_spec (v vr vp vq:Value) (pub:List UInt8) (s:Sgd) (hv:RdB R v pub) (hs:RdSgd R vr vp vq s) (hc:s.chk.right) :
 Ct prog 98 #[v,.agg (sgdC s vr vp vq).toArray] e R (fun v' L'=>v'=.bool (decide (s.ver pub))∧R=L'):=by
 obtain ⟨h1,h2,h3⟩:=hs;refine Ct.of_sep (RdB.one hv) fun o0=>?_
 refine Ct.of_sep (RdB.one h1) fun o1=>?_
 refine Ct.of_sep h2.parts.one fun o2=>?_
 refine Ct.of_sep h2.path.one fun o3=>?_
 have hbl:=bodyC_length hc;refine Ct.enter (args:=[_,_]) func98 rfl ntmps98 results98 rfl ?_
 (repeat (refine wA ?_;intros))
 rename_i g1;refine A.begin (id:=1) [12] (Blk g1 (sgdC s vr vp vq) 87 (0,0)::R) mixed ?_
 (refine tF 0 ?_;refine tk 1 _ rfl (Val.loadAggB rfl zP zI zX) ?_)
 refine tO 2 ?_;refine Do.call rfl rfl (cRight_spec _ e vr s.chk (h1.ent zE)) ?_;rintro _ _ ⟨rfl,rfl⟩;refine ⟨fun _=>zE,A.regrow zE ?_⟩;rw [decide_eq_true hc]
 (refine tM 3 ?_;refine tkG 4 _ rfl (Val.move rfl) ?_;refine tkG 5 _ rfl (Val.fieldAddr rfl) ?_;refine tkG 6 _ rfl (Val.loadAggB rfl zP zI zX) ?_;refine tkG 8 _ rfl (Val.fieldAddr rfl) ?_;refine tkG 9 _ rfl (Val.loadAggB rfl zP zI zX) ?_)
 refine A.oneG 7 rfl rfl zK ?_;refine Do.call rfl rfl (cBody_spec _ e vr s.chk (h1.ent zE) hc) ?_;rintro _ _ ⟨ad,k,rfl,rfl⟩;refine ⟨fun _=>zE,A.regrow zE ?_⟩;refine A.oneG 10 rfl rfl zK ?_;refine Do.call rfl rfl (sVerify_spec _ e v (.slice ad (bodyC s.chk).length k) vp vq pub (bodyC s.chk) s.sig (hv.ent zE) (RdSl.own zP) zo (h2.ent zE)) ?_;rintro _ _ ⟨rfl,rfl⟩;refine ⟨fun _=>zE,A.regrow zE ?_⟩;rw [show decide (verP pub (bodyC s.chk) s.sig)=decide (s.ver pub) from decide_eq_decide.2 ⟨fun q=>⟨hc,q⟩,fun q=>q.2⟩]
 (refine tk 11 _ rfl (Val.pick_t rfl rfl) ?_;(refine tO 12 ?_;refine dV (Val.assign rfl) ?_))
 refine A.done zK ?_;refine wB ?_;exact Fin.ret R rfl zE ⟨rfl,rfl⟩
theorem cSign_spec (v vr:Value) (seed:List UInt8) (i:Nat) (c:Chk) (hv:RdB R v seed) (hsd:seed.length=32) (hi:i<16) (hr:RdB R vr c.root) (hc:c.right) :
 Ct prog 245 #[v,.int .i64 (i:Int),.agg (chkC c vr).toArray] e R (fun v' L'=>∃ (M:Res) (ur up uq:Value),v'=.tuple #[.agg (sgdC (signC seed i c) ur up uq).toArray,.int .i64 0]∧RdSgd [M] ur up uq (signC seed i c)∧L'=M::R):=by
 refine Ct.of_sep (RdB.one hv) fun o0=>?_
 refine Ct.of_sep (RdB.one hr) fun o1=>?_
 have hbl:=bodyC_length hc;have hc1:=hc.1;have hc2:=hc.2;refine Ct.enterC (args:=[_,_,_]) func245 rfl ntmps245 results245 rfl ?_
 (repeat (refine wA ?_;intros))
 rename_i g1 g2;refine O.call rfl rfl (cRight_spec _ e vr c (hr.ent zE)) ?_;rintro _ _ ⟨rfl,rfl⟩;rw [decide_eq_true hc];refine wB ?_;refine O.call rfl rfl (cBody_spec _ e vr c (hr.ent zE) hc) ?_;rintro _ _ ⟨ad,k,rfl,rfl⟩
 (repeat' first|refine Za ?_|refine Zb ?_|apply Zc|apply Zd|apply Ze|apply Zf|refine Zh ?_|refine Zi ?_|refine Zj ?_|refine Zu ?_|refine Zy ?_|refine Zz ?_|refine ZP ?_|refine ZQ ?_|refine Yd ?_|refine Ye ?_|refine Yg fun _=>?_|refine Yh fun _=>?_|refine Yz ?_|refine YA ?_|apply YC|apply YE|apply YF|refine YN ?_|refine YQ ?_|refine YR ?_|(apply O.loadAggB;exact rfl;exact zP;(first|(simp only [Nat.zero_add,Nat.add_zero,Nat.reduceAdd,List.drop_succ_cons,List.drop_zero,List.take_succ_cons,List.take_zero];done)|(simp only [Nat.zero_add,Nat.add_zero,Nat.reduceAdd,List.drop_succ_cons,List.drop_zero,List.take_succ_cons,List.take_zero];exact rfl));exact rfl;exact rfl))
 refine O.call rfl rfl (sSign_spec _ e v (.slice ad (bodyC c).length k) seed (bodyC c) i (hv.ent zE) hsd hi (RdSl.own zP) zo) ?_;rintro _ _ ⟨M,vp,vq,rfl,hM,rfl⟩;refine O.of_sep (hM.ent zE).parts.one fun o4=>?_
 refine O.of_sep (hM.ent zE).path.one fun o5=>?_
 (repeat (refine wA ?_;intros))
 rename_i g3;refine A.begin (id:=6) [8,9] (Blk g1 (chkC c vr) 83 (0,0)::Blk g3 (sigC (signP seed i (bodyC c)) vp vq) 85 (0,0)::M::R) mixed ?_
 (refine tF 0 ?_;refine tL 1 ?_;refine tF 2 ?_;refine tL 3 ?_;refine tJ 6 ?_)
 refine tO 4 ?_;refine Do.call rfl rfl (clone_spec _ e vr c.root (hr.ent zE) zo) ?_;rintro _ _ ⟨ad1,c1,rfl,hc1,rfl⟩;refine ⟨fun _=>zE,?_⟩
 (refine tk 5 _ rfl (Val.build rfl zF) ?_;refine tk 7 _ rfl (Val.build rfl zF) ?_;(refine tO 8 ?_;refine zg ?_;refine ⟨zN,?_⟩);(refine tO 9 ?_;refine dV (Val.assign rfl) ?_))
 refine A.done zK ?_;refine wB ?_;apply Fin.retC
 ·exact zV
 refine ⟨All [OwnB (.slice ad1 c.root.length c1) c.root,M]::R,Ent.trans (show Ent _ (OwnB (.slice ad1 c.root.length c1) c.root::M::R) from zE) (all_in (M:=[_,_])),All [OwnB (.slice ad1 c.root.length c1) c.root,M],.slice ad1 c.root.length c1,vp,vq,rfl,rdsgd_all ⟨RdSl.own .zero,hM.ent (Ent.drop Ent.rfl),⟨by show c.size<_;omega,by show c.root.length≤_;omega⟩⟩,rfl⟩
theorem cPut_spec (g:Nat) (l:List UInt8) (vr vp vq:Value) (s:Sgd) (hs:RdSgd R vr vp vq s) (hc:s.chk.right) (hr:s.sig.right) (hl:l.length≤1000000) :
 Ct prog 124 #[pt g,.agg (sgdC s vr vp vq).toArray] e (Writer g l::R) (fun v' L'=>v'=.bool true∧L'=Writer g (l++encSgd s)::R):=by
 obtain ⟨h1,h2,h3⟩:=hs;refine Ct.of_sep (RdB.one h1.tail) fun o1=>?_
 refine Ct.of_sep (h2.tail).parts.one fun o2=>?_
 refine Ct.of_sep (h2.tail).path.one fun o3=>?_
 have hel:=encSig_length hr;have hc1:=hc.1;have hc2:=hc.2;refine Ct.enter (args:=[_,_]) func124 rfl ntmps124 results124 rfl ?_
 (repeat' first|refine Zb ?_|apply Zc|apply Zd|apply Ze|apply Zf|refine Zh ?_|refine Yg fun _=>?_|(apply O.loadAggB;exact rfl;exact zP;(first|(simp only [Nat.zero_add,Nat.add_zero,Nat.reduceAdd,List.drop_succ_cons,List.drop_zero,List.take_succ_cons,List.take_zero];done)|(simp only [Nat.zero_add,Nat.add_zero,Nat.reduceAdd,List.drop_succ_cons,List.drop_zero,List.take_succ_cons,List.take_zero];exact rfl));exact rfl;exact rfl))
 rename_i g1;refine O.call rfl rfl (sEncode_spec _ e vp vq s.sig (h2.ent zE) hr) ?_;rintro _ _ ⟨ad,k,rfl,rfl⟩
 (repeat' first|refine Za ?_|refine Zb ?_|apply Zc|apply Zd|apply Ze|apply Zf|refine Zh ?_|refine Zm ?_|refine Zn ?_|refine Zq ?_|refine ZQ ?_|refine YN ?_|(apply O.loadAggB;exact rfl;exact zP;(first|(simp only [Nat.zero_add,Nat.add_zero,Nat.reduceAdd,List.drop_succ_cons,List.drop_zero,List.take_succ_cons,List.take_zero];done)|(simp only [Nat.zero_add,Nat.add_zero,Nat.reduceAdd,List.drop_succ_cons,List.drop_zero,List.take_succ_cons,List.take_zero];exact rfl));exact rfl;exact rfl))
 refine O.call rfl rfl (cRight_spec _ e vr s.chk (h1.ent zE)) ?_;rintro _ _ ⟨rfl,rfl⟩;rw [decide_eq_true hc];refine wB ?_;refine O.call rfl rfl (Ct.at zP (num_spec _ e g l s.chk.size zo zo)) ?_;rintro _ _ ⟨rfl,rfl⟩;refine wB ?_;refine O.call rfl rfl (raw_spec _ e g _ s.chk.root vr (h1.ent zE) (by rw [List.length_append,be_length];omega)) ?_;rintro _ _ ⟨rfl,rfl⟩;refine wB ?_;refine O.call rfl rfl (raw_spec _ e g _ (encSig s.sig) (.slice ad (encSig s.sig).length k) (RdSl.own zP) (by rw [List.length_append,List.length_append,be_length];omega)) ?_;rintro _ _ ⟨rfl,rfl⟩;rw [show l++be s.chk.size 4++s.chk.root++encSig s.sig=l++encSgd s by simp [encSgd]];refine wB ?_;exact Fin.ret (Writer g (l++encSgd s)::R) rfl zE ⟨rfl,rfl⟩
theorem cGet_spec (g:Nat) (s:Sgd) (r:List UInt8) (hc:s.chk.right) (hr:s.sig.right) (hl:r.length≤1000000) :
 Ct prog 212 #[pt g] e (Reader g ⟨encSgd s++r,false⟩::R) (fun v' L'=>∃ (M:Res) (ur up uq:Value),v'=.tuple #[.agg (sgdC s ur up uq).toArray,.bool true]∧RdSgd [M] ur up uq s∧L'=Reader g ⟨r,false⟩::M::R):=by
 have hel:=encSig_length hr;have hc1:=hc.1;have hc2:=hc.2;rw [show encSgd s++r=be s.chk.size 4++(s.chk.root++(encSig s.sig++r)) by simp [encSgd]];refine Ct.enterC (args:=[_]) func212 rfl ntmps212 results212 rfl ?_
 (repeat (refine wA ?_;intros))
 refine O.call rfl rfl (Ct.at zP (rnumB _ e g s.chk.size _ zo)) ?_;rintro _ _ ⟨rfl,rfl⟩;refine wB ?_;refine O.call rfl rfl (rrawB _ e g 32 s.chk.root _ hc2 (by rw [List.length_append,List.length_append];omega)) ?_;rintro _ _ ⟨ad1,c1,rfl,rfl⟩
 (repeat (refine wA ?_;intros))
 refine O.call rfl rfl (Ct.at zP (rrawB _ e g 2180 (encSig s.sig) r hel (by rw [List.length_append];omega))) ?_;rintro _ _ ⟨ad2,c2,rfl,rfl⟩
 (repeat' first|refine Za ?_|refine Zb ?_|apply Zc|apply Zd|apply Ze|apply Zf|refine Zi ?_|refine Zj ?_|refine Zl ?_|refine Zm ?_|refine Zn ?_|refine Zo ?_|refine Zq ?_|refine Zs ?_|refine Zt ?_|refine Zu ?_|refine Zy ?_|refine Zz ?_|refine ZM ?_|refine ZN ?_|refine ZO (fun _=>?_) fun _=>?_|refine ZP ?_|refine ZQ ?_|refine ZY ?_|refine ZZ ?_|refine Z6 ?_|refine Z7 ?_|refine Z8 ?_|refine Yd ?_|refine Ye ?_|refine Yf ?_|refine Yh fun _=>?_|refine Yz ?_|refine YA ?_|apply YC|apply YE|apply YF|refine YN ?_|refine YQ ?_|refine YR ?_|(apply O.loadAggB;exact rfl;exact zP;(first|(simp only [Nat.zero_add,Nat.add_zero,Nat.reduceAdd,List.drop_succ_cons,List.drop_zero,List.take_succ_cons,List.take_zero];done)|(simp only [Nat.zero_add,Nat.add_zero,Nat.reduceAdd,List.drop_succ_cons,List.drop_zero,List.take_succ_cons,List.take_zero];exact rfl));exact rfl;exact rfl))
 refine O.call rfl rfl (sDecode_spec _ e (.slice ad2 (encSig s.sig).length c2) s.sig (RdSl.own .zero) hr) ?_;rintro _ _ ⟨M,vp,vq,rfl,hM,rfl⟩;refine O.of_sep (hM.ent zE).parts.one fun o4=>?_
 refine O.of_sep (hM.ent zE).path.one fun o5=>?_
 (repeat (refine wA ?_;intros))
 refine O.call rfl rfl (cRight_spec _ e (.slice ad1 s.chk.root.length c1) s.chk (RdSl.own zP)) ?_;rintro _ _ ⟨rfl,rfl⟩;rw [decide_eq_true hc];refine wB ?_;apply Fin.retC
 ·exact zV
 refine ⟨Reader g ⟨r,false⟩::All [OwnB (.slice ad1 s.chk.root.length c1) s.chk.root,M]::R,Ent.trans (show Ent _ (OwnB (.slice ad1 s.chk.root.length c1) s.chk.root::M::Reader g ⟨r,false⟩::R) from zE) (Ent.trans (all_in (M:=[_,_])) zE),All [OwnB (.slice ad1 s.chk.root.length c1) s.chk.root,M],.slice ad1 s.chk.root.length c1,vp,vq,rfl,rdsgd_all ⟨RdSl.own .zero,hM.ent (Ent.drop Ent.rfl),⟨by omega,by omega⟩⟩,rfl⟩
end Go.Proofs
namespace Go.Proofs
open Go.Bs
structure Pol where
 log:List UInt8
 wits:List (List UInt8)
 quorum:Nat
structure Pol.right (p:Pol):Prop where
 log:p.log.length=32
 low:1≤p.quorum
 high:p.quorum≤p.wits.length
 most:p.wits.length≤4
 sizes:∀ w∈p.wits,w.length=32
 apart:p.wits.Nodup
def Csg.ver (g:Csg) (p:Pol) (c:Chk):Prop:=g.wit<p.wits.length∧verP (p.wits.getD g.wit []) (bodyG c) g.sig
instance (g:Csg) (p:Pol) (c:Chk):Decidable (g.ver p c):=by unfold Csg.ver;infer_instance
def countP (p:Pol) (c:Chk):List Csg→List Nat→Nat
 | [],_=>0
 | g::l,seen=>if g.wit<4∧¬ g.wit∈seen∧g.ver p c then 1+countP p c l (g.wit::seen) else countP p c l seen
def metP (p:Pol) (c:Chk) (l:List Csg):Prop:=p.quorum≤countP p c l []
instance (p:Pol) (c:Chk) (l:List Csg):Decidable (metP p c l):=by unfold metP;infer_instance
abbrev polC (p:Pol) (vl vw:Value):List Value:=[vl,vw,.int .i64 (p.quorum:Int)]
structure RdPol (L:List Res) (vl vw:Value) (p:Pol):Prop where
 log:RdB L vl p.log
 wits:RdTs L vw p.wits
theorem RdPol.ent {L L':List Res} {vl vw:Value} {p:Pol} (h:RdPol L' vl vw p) (f:Ent L L'):RdPol L vl vw p:=⟨h.log.ent f,h.wits.ent f⟩
abbrev GAt:=Csg × Value × Value
abbrev GAt.cells (t:GAt):List Value:=csgC t.1 t.2.1 t.2.2
structure GAt.ok (L:List Res) (t:GAt):Prop where
 rd:RdSig L t.2.1 t.2.2 t.1.sig
 small:t.1.wit<4294967296
def RdGs (L:List Res) (v:Value) (gs:List Csg):Prop:=∃ ts:List GAt,ts.map (·.1)=gs∧RdSl L 4 v ts.length (ts.flatMap GAt.cells)∧∀ t∈ts,GAt.ok L t
theorem RdGs.ent {L L':List Res} {v:Value} {gs:List Csg} (h:RdGs L' v gs) (f:Ent L L'):RdGs L v gs:=by
 obtain ⟨ts,h1,h2,h3⟩:=h;exact ⟨ts,h1,h2.ent f,fun t ht=>⟨(h3 t ht).rd.ent f,(h3 t ht).small⟩⟩
theorem RdGs.tail {A:Res} {L:List Res} {v:Value} {gs:List Csg} (h:RdGs L v gs):RdGs (A::L) v gs:=h.ent (Ent.drop Ent.rfl)
theorem RdGs.one {L:List Res} {v:Value} {gs:List Csg} (h:RdGs L v gs):∀ x,sepL L x→v.oneCell'=true:=by
 obtain ⟨ts,h1,h2,h3⟩:=h;intro x hx;obtain ⟨⟨ad,c,rfl,_⟩,_⟩:=h2.shape zo x hx
 rfl
theorem GAt.len (t:GAt):t.cells.length=4:=rfl
end Go.Proofs
namespace Go.Proofs
attribute [local irreducible] Bs.Val Bs.Do Bs.O Bs.W Bs.Fin Bs.A Bs.Ct Bs.RdSl Bs.Rd Bs.Sat Bs.Blk Bs.Ob Bs.Own Bs.View Bs.Ent Bs.Ex Bs.All Bs.Pu Bs.Base Bs.sepL Bs.RdA
open Go.Bs
open Tryz
variable (R:List Res) (e:World)
theorem gKey_spec (v:Value) (b:List UInt8) (hv:RdB R v b) :
 Ct prog 201 #[v] e R (fun v' L'=>v'=.bool (decide (b.length=32))∧R=L'):=by
 refine Ct.of_sep (RdSl.shape hv zo) ?_;rintro ⟨⟨ad,cap,rfl,h3,h4,h5,h6⟩,_⟩;refine Ct.enter (args:=[_]) func201 rfl ntmps201 results201 rfl ?_
 by_cases h:b.length=32
 ·rw [decide_eq_true h];refine wB ?_;exact Fin.ret R rfl Ent.rfl ⟨rfl,rfl⟩
 ·rw [decide_eq_false h];refine wB ?_;exact Fin.ret R rfl Ent.rfl ⟨rfl,rfl⟩
theorem gWit_spec (n:Nat) :
 Ct prog 197 #[.int .i64 (n:Int)] e R (fun v' L'=>v'=.bool (decide (n<4))∧R=L'):=by
 refine Ct.enter (args:=[_]) func197 rfl ntmps197 results197 rfl ?_
 by_cases h:n<4
 ·rw [decide_eq_true h];refine wB ?_;exact Fin.ret R rfl Ent.rfl ⟨rfl,rfl⟩
 ·rw [decide_eq_false h];refine wB ?_;exact Fin.ret R rfl Ent.rfl ⟨rfl,rfl⟩
theorem gRight1_spec (v w:Value) (b a:List UInt8) (g:Nat) (hg:Rd R ⟨g,0,none⟩ w) (hv:RdB R v b) (hw:RdB R w a) :
 Ct prog 202 #[v,pt g] e R (fun v' L'=>v'=.bool (decide (b=a))∧R=L'):=by
 refine Ct.enter (args:=[_,_]) func202 rfl ntmps202 results202 rfl ?_;refine wB ?_;refine O.call rfl rfl (same_spec _ e v w b a hv hw) ?_;rintro _ _ ⟨rfl,rfl⟩;refine wB ?_;exact Fin.ret R rfl Ent.rfl ⟨rfl,rfl⟩
theorem nodup_take {l:List (List UInt8)} (h:l.Nodup) {i j:Nat} (hj:j<i) (hi:i<l.length):l.getD j []≠l.getD i []:=by
 rw [List.getD_eq_getElem?_getD,List.getD_eq_getElem?_getD,List.getElem?_eq_getElem zo,List.getElem?_eq_getElem hi];simp only [Option.getD_some];intro he;exact List.pairwise_iff_getElem.1 h j i zo hi hj he
theorem gRight_spec (vl vw:Value) (p:Pol) (hp:RdPol R vl vw p) (hr:p.right) :
 Ct prog 116 #[.agg (polC p vl vw).toArray] e R (fun v' L'=>v'=.bool true∧R=L'):=by
 obtain ⟨q1,q2,q3,q4,q5,q6⟩:=hr;obtain ⟨h1,ts,hts,hv,ht⟩:=hp;have hl:p.wits.length=ts.length:=by rw [← hts,List.length_map]
 refine Ct.of_sep (RdB.one h1) fun o1=>?_
 refine Ct.of_sep (hv.shape zo) ?_;rintro ⟨⟨adv,cap,rfl,h3,h4,h5,h6⟩,_⟩;simp only [maxLen] at h4
 refine Ct.enter (args:=[_]) func116 rfl ntmps116 results116 rfl ?_
 (repeat (refine wA ?_;intros))
 rename_i g1;refine O.call rfl rfl (gKey_spec _ e vl p.log (h1.ent zE)) ?_;rintro _ _ ⟨rfl,rfl⟩;rw [decide_eq_true q1];refine wB ?_;refine W.loop (ι:=Nat) (fun i=>[(1,pt g1),(34,.slice adv ts.length cap),(35,.int .i64 (ts.length:Int)),(36,.int .i64 (i:Int))]) (fun i=>Blk g1 (polC p vl (.slice adv ts.length cap)) 106 (0,0)::R) (fun i=>i≤ts.length) (fun i=>ts.length - i) 0 (Nat.zero_le _) zS zE ?_;intro i hi
 by_cases hlt:i<ts.length
 rotate_left
 ·refine wB ?_;exact Fin.ret R rfl zE ⟨rfl,rfl⟩
 rcases h6 with h6|⟨gl,ol,rfl⟩
 ·omega
 have hr:Rd R ⟨gl,ol+i,none⟩ (ts[i]'hlt).1:=hv.elem (by rw [List.getElem?_map,List.getElem?_eq_getElem hlt];rfl);have hti:=ht _ (List.getElem_mem hlt);have hbi:(ts[i]'hlt).2.length=32:=q5 _ (by rw [← hts];exact List.mem_map.2 ⟨_,List.getElem_mem hlt,rfl⟩)
 have hdi:∀ j,j<i→∀ hj:j<ts.length,(ts[j]'hj).2≠(ts[i]'hlt).2:=fun j hj hj2=>by
  have:=nodup_take q6 hj zo;rw [← hts,getD_txt hj2,getD_txt hlt] at this
  exact this
 generalize ts[i]'hlt=y at *
 obtain ⟨yv,b⟩:=y;dsimp only at hr hti hbi hdi
 refine W.of_sep (RdB.one hti.tail) fun oy=>?_
 (repeat (refine wA ?_;intros))
 rename_i g2;refine O.call rfl rfl (gKey_spec _ e yv b (hti.ent zE)) ?_;rintro _ _ ⟨rfl,rfl⟩;rw [decide_eq_true hbi];refine wB ?_
 have hvc:∀ A B,RdSl (A::B::R) 1 (.slice (some ⟨gl,ol,none⟩) i cap) (ts.take i).length ((ts.take i).map (·.1)):=fun A B=>by
  have:=(hv.cutHi (hi:=i) zo).tail (A:=B) |>.tail (A:=A)
  rw [Nat.mul_one] at this
  rw [List.length_take,Nat.min_eq_left zo,List.map_take];exact this
 rw [Int.toNat_natCast]
 have hc:=containsF_spec (Blk g2 [yv] tTxts (0,0)::Blk g1 (polC p vl (.slice (some ⟨gl,ol,none⟩) ts.length cap)) 106 (0,0)::R) e (.slice (some ⟨gl,ol,none⟩) i cap) (ts.take i) 202 [] [pt g2] (fun j=>decide (((ts.take i).map (·.2)).getD j []=b)) (hvc _ _) (by rw [List.length_take];omega) (fun j hj=>by
  rw [getD_txt hj];exact gRight1_spec _ e _ yv _ b g2 (Rd.blk .zero rfl) ((ht _ (List.mem_of_mem_take (List.getElem_mem hj))).tail.tail) hti.tail.tail)
 rw [decide_eq_false (fun ⟨j,hj,h⟩=>by
  rw [getD_txt hj] at h
  rw [List.length_take] at hj
  rw [List.getElem_take] at h
  exact hdi j zo zo (of_decide_eq_true h))] at hc
 refine O.call rfl rfl hc ?_;rintro _ _ ⟨rfl,rfl⟩;refine wB ?_;exact Fin.round (i+1) hlt zo zS zE
theorem gCopy_spec (vp vq:Value) (g:Csg) (hs:RdSig R vp vq g.sig) (hr:g.sig.fits) :
 Ct prog 114 #[.agg (csgC g vp vq).toArray] e R (fun v' L'=>∃ (M:Res) (up uq:Value),v'=.agg (csgC g up uq).toArray∧RdSig [M] up uq g.sig∧L'=M::R):=by
 refine Ct.of_sep hs.parts.one fun o2=>?_
 refine Ct.of_sep hs.path.one fun o3=>?_
 refine Ct.enterC (args:=[_]) func114 rfl ntmps114 results114 rfl ?_
 (repeat (refine wA ?_;intros))
 rename_i g1 g2;refine A.begin (id:=1) [6] (Blk g1 (csgC g vp vq) 96 (0,0)::R) mixed ?_
 (refine tF 0 ?_;refine tL 1 ?_;refine tF 2 ?_;refine tk 3 _ rfl (Val.loadAggB rfl zP zI zX) ?_)
 refine tO 4 ?_;refine Do.call rfl rfl (sCopy_spec _ e vp vq g.sig (hs.ent zE) hr) ?_;rintro _ _ ⟨M,up,uq,rfl,hM,rfl⟩;refine ⟨fun _=>zE,?_⟩;refine A.of_sep (hM.ent zE).parts.one fun o4=>?_
 refine A.of_sep (hM.ent zE).path.one fun o5=>?_
 (refine tk 5 _ rfl (Val.build rfl zF) ?_;(refine tO 6 ?_;refine zg ?_;refine ⟨zN,?_⟩))
 refine A.done zK ?_;refine wB ?_;apply Fin.retC
 ·exact zV
 exact ⟨M::R,zE,M,up,uq,rfl,hM,rfl⟩
theorem gBody_spec (vr:Value) (c:Chk) (hv:RdB R vr c.root) (hc:c.right) :
 Ct prog 199 #[.agg (chkC c vr).toArray] e R (fun v' L'=>∃ ad k,v'=.slice ad (bodyG c).length k∧L'=OwnB (.slice ad (bodyG c).length k) (bodyG c)::R):=by
 have hc1:=hc.1;have hc2:=hc.2;refine Ct.of_sep (RdB.one hv) fun ho=>?_
 refine Ct.enter (args:=[_]) func199 rfl ntmps199 results199 rfl ?_
 (repeat (refine wA ?_;intros))
 rename_i g;refine O.call rfl rfl (cRight_spec _ e vr c hv.tail) ?_;rintro _ _ ⟨rfl,rfl⟩;rw [decide_eq_true hc];refine wB ?_;refine O.call rfl rfl (new_spec _ e) ?_;rintro _ _ ⟨gw,rfl,rfl⟩
 (repeat (refine wA ?_;intros))
 rename_i gt;refine O.ent1 (show Ent _ (Writer gw []::Blk gt (titleG.map u8) tU8 (17,18)::Blk g (chkC c vr) 83 (0,0)::R) from Ent.pull (.succ .zero) Ent.rfl) ?_;refine O.call rfl rfl (raw_spec _ e gw [] titleG _ (RdSl.blk .zero rfl zl) (by decide)) ?_;rintro _ _ ⟨rfl,rfl⟩;refine wB ?_;refine O.call rfl rfl (num_spec _ e gw _ c.size zo (by decide)) ?_;rintro _ _ ⟨rfl,rfl⟩;refine wB ?_;refine O.call rfl rfl (raw_spec _ e gw _ c.root vr hv.tail.tail (by rw [List.length_append,be_length];simp only [List.nil_append,show titleG.length=17 from rfl];omega)) ?_;rintro _ _ ⟨rfl,rfl⟩;rw [show []++titleG++be c.size 4++c.root=bodyG c by simp [bodyG]];refine wB ?_;refine O.call rfl rfl (done_spec _ e gw _ (by rw [bodyG_length hc];omega)) ?_;rintro _ _ ⟨ad,k,rfl,rfl⟩;refine wB ?_;exact Fin.ret (OwnB (.slice ad (bodyG c).length k) (bodyG c)::R) rfl zE ⟨ad,k,rfl,rfl⟩
theorem gSign_spec (v vr:Value) (seed:List UInt8) (i n:Nat) (c:Chk) (hv:RdB R v seed) (hsd:seed.length=32) (hi:i<16) (hn:n<4) (hr:RdB R vr c.root) (hc:c.right) :
 Ct prog 113 #[v,.int .i64 (i:Int),.int .i64 (n:Int),.agg (chkC c vr).toArray] e R (fun v' L'=>∃ (M:Res) (up uq:Value),v'=.tuple #[.agg (csgC (signG seed i n c) up uq).toArray,.int .i64 0]∧RdSig [M] up uq (signG seed i n c).sig∧L'=M::R):=by
 refine Ct.of_sep (RdB.one hv) fun o0=>?_
 refine Ct.of_sep (RdB.one hr) fun o1=>?_
 have hbl:=bodyG_length hc;have hc1:=hc.1;have hc2:=hc.2;refine Ct.enterC (args:=[_,_,_,_]) func113 rfl ntmps113 results113 rfl ?_
 (repeat (refine wA ?_;intros))
 rename_i g1 g2;refine O.call rfl rfl (gWit_spec _ e n) ?_;rintro _ _ ⟨rfl,rfl⟩;rw [decide_eq_true hn];refine wB ?_;refine O.call rfl rfl (cRight_spec _ e vr c (hr.ent zE)) ?_;rintro _ _ ⟨rfl,rfl⟩;rw [decide_eq_true hc];refine wB ?_;refine O.call rfl rfl (gBody_spec _ e vr c (hr.ent zE) hc) ?_;rintro _ _ ⟨ad,k,rfl,rfl⟩
 (repeat' first|refine Za ?_|refine Zb ?_|apply Zc|apply Zd|apply Ze|apply Zf|refine Zi ?_|refine Zj ?_|refine Zu ?_|refine Zy ?_|refine Zz ?_|refine ZP ?_|refine ZQ ?_|refine Yd ?_|refine Ye ?_|refine Yg fun _=>?_|refine Yh fun _=>?_|refine Yz ?_|refine YA ?_|apply YB|apply YC|apply YE|apply YF|apply YH|apply YI|refine YN ?_|refine YQ ?_|refine YR ?_|(apply O.loadAggB;exact rfl;exact zP;(first|(simp only [Nat.zero_add,Nat.add_zero,Nat.reduceAdd,List.drop_succ_cons,List.drop_zero,List.take_succ_cons,List.take_zero];done)|(simp only [Nat.zero_add,Nat.add_zero,Nat.reduceAdd,List.drop_succ_cons,List.drop_zero,List.take_succ_cons,List.take_zero];exact rfl));exact rfl;exact rfl))
 refine O.call rfl rfl (sSign_spec _ e v (.slice ad (bodyG c).length k) seed (bodyG c) i (hv.ent zE) hsd hi (RdSl.own zP) zo) ?_;rintro _ _ ⟨M,vp,vq,rfl,hM,rfl⟩;refine O.of_sep (hM.ent zE).parts.one fun o4=>?_
 refine O.of_sep (hM.ent zE).path.one fun o5=>?_
 (repeat (refine wA ?_;intros))
 apply Fin.retC
 ·exact zV
 exact ⟨M::R,zE,M,vp,vq,rfl,hM,rfl⟩
theorem u8_nat {n:Nat} (h:n<256):Value.int .u8 (n:Int)=u8 (UInt8.ofNat n):=by
 unfold u8;rw [UInt8.toNat_ofNat',Nat.mod_eq_of_lt zo]
theorem gPut_spec (g:Nat) (l:List UInt8) (vp vq:Value) (s:Csg) (hs:RdSig R vp vq s.sig) (hn:s.wit<4) (hr:s.sig.right) (hl:l.length≤1000000) :
 Ct prog 126 #[pt g,.agg (csgC s vp vq).toArray] e (Writer g l::R) (fun v' L'=>v'=.bool true∧L'=Writer g (l++encCsg s)::R):=by
 refine Ct.of_sep (hs.tail).parts.one fun o2=>?_
 refine Ct.of_sep (hs.tail).path.one fun o3=>?_
 have hel:=encSig_length hr;refine Ct.enter (args:=[_,_]) func126 rfl ntmps126 results126 rfl ?_
 (repeat' first|refine Zb ?_|apply Zc|apply Zd|apply Ze|apply Zf|refine Zh ?_|refine Yg fun _=>?_|(apply O.loadAggB;exact rfl;exact zP;(first|(simp only [Nat.zero_add,Nat.add_zero,Nat.reduceAdd,List.drop_succ_cons,List.drop_zero,List.take_succ_cons,List.take_zero];done)|(simp only [Nat.zero_add,Nat.add_zero,Nat.reduceAdd,List.drop_succ_cons,List.drop_zero,List.take_succ_cons,List.take_zero];exact rfl));exact rfl;exact rfl))
 rename_i g1;refine O.call rfl rfl (sEncode_spec _ e vp vq s.sig (hs.ent zE) hr) ?_;rintro _ _ ⟨ad,k,rfl,rfl⟩;refine wB ?_;refine O.call rfl rfl (gWit_spec _ e s.wit) ?_;rintro _ _ ⟨rfl,rfl⟩;rw [decide_eq_true hn];refine wB ?_;rw [u8_nat zo]
 (repeat' first|refine Za ?_|refine Zb ?_|apply Zc|apply Zd|apply Ze|apply Zf|refine Zh ?_|refine Zi ?_|refine Zj ?_|refine Zl ?_|refine Zm ?_|refine Zn ?_|refine Zo ?_|refine Zq ?_|refine Zs ?_|refine Zt ?_|refine Zu ?_|refine Zy ?_|refine Zz ?_|refine ZM ?_|refine ZN ?_|refine ZO (fun _=>?_) fun _=>?_|refine ZP ?_|refine ZQ ?_|refine ZY ?_|refine ZZ ?_|refine Z6 ?_|refine Z7 ?_|refine Z8 ?_|refine Yf ?_|refine Yg fun _=>?_|refine Yz ?_|refine YA ?_|apply YC|apply YE|apply YF|refine YN ?_|(apply O.loadAggB;exact rfl;exact zP;(first|(simp only [Nat.zero_add,Nat.add_zero,Nat.reduceAdd,List.drop_succ_cons,List.drop_zero,List.take_succ_cons,List.take_zero];done)|(simp only [Nat.zero_add,Nat.add_zero,Nat.reduceAdd,List.drop_succ_cons,List.drop_zero,List.take_succ_cons,List.take_zero];exact rfl));exact rfl;exact rfl))
 refine O.call rfl rfl (Ct.at zP (byte_spec _ e g l (UInt8.ofNat s.wit) zo)) ?_;rintro _ _ ⟨rfl,rfl⟩;refine wB ?_;refine O.call rfl rfl (raw_spec _ e g _ (encSig s.sig) (.slice ad (encSig s.sig).length k) (RdSl.own zP) (by rw [List.length_append,List.length_singleton];omega)) ?_;rintro _ _ ⟨rfl,rfl⟩;rw [show l++[UInt8.ofNat s.wit]++encSig s.sig=l++encCsg s by simp [encCsg]];refine wB ?_;exact Fin.ret (Writer g (l++encCsg s)::R) rfl zE ⟨rfl,rfl⟩
theorem gGet_spec (g:Nat) (s:Csg) (r:List UInt8) (hn:s.wit<4) (hr:s.sig.right) (hl:r.length≤1000000) :
 Ct prog 213 #[pt g] e (Reader g ⟨encCsg s++r,false⟩::R) (fun v' L'=>∃ (M:Res) (up uq:Value),v'=.tuple #[.agg (csgC s up uq).toArray,.bool true]∧RdSig [M] up uq s.sig∧L'=Reader g ⟨r,false⟩::M::R):=by
 have hel:=encSig_length hr;rw [show encCsg s++r=UInt8.ofNat s.wit::(encSig s.sig++r) by simp [encCsg]];refine Ct.enterC (args:=[_]) func213 rfl ntmps213 results213 rfl ?_
 (repeat (refine wA ?_;intros))
 refine O.call rfl rfl (Ct.at zP (rbyteB _ e g (UInt8.ofNat s.wit) _)) ?_;rintro _ _ ⟨rfl,rfl⟩;rw [← u8_nat zo];refine wB ?_;refine O.call rfl rfl (rrawB _ e g 2180 (encSig s.sig) r hel (by rw [List.length_append];omega)) ?_;rintro _ _ ⟨ad2,c2,rfl,rfl⟩
 (repeat' first|refine Za ?_|refine Zb ?_|apply Zc|apply Zd|apply Ze|apply Zf|refine Zi ?_|refine Zj ?_|refine Zl ?_|refine Zm ?_|refine Zn ?_|refine Zo ?_|refine Zq ?_|refine Zs ?_|refine Zt ?_|refine Zu ?_|refine Zy ?_|refine Zz ?_|refine ZM ?_|refine ZN ?_|refine ZO (fun _=>?_) fun _=>?_|refine ZP ?_|refine ZQ ?_|refine ZY ?_|refine ZZ ?_|refine Z6 ?_|refine Z7 ?_|refine Z8 ?_|refine Yd ?_|refine Ye ?_|refine Yf ?_|refine Yh fun _=>?_|refine Yz ?_|refine YA ?_|apply YC|apply YE|apply YF|refine YN ?_|refine YQ ?_|refine YR ?_|(apply O.loadAggB;exact rfl;exact zP;(first|(simp only [Nat.zero_add,Nat.add_zero,Nat.reduceAdd,List.drop_succ_cons,List.drop_zero,List.take_succ_cons,List.take_zero];done)|(simp only [Nat.zero_add,Nat.add_zero,Nat.reduceAdd,List.drop_succ_cons,List.drop_zero,List.take_succ_cons,List.take_zero];exact rfl));exact rfl;exact rfl))
 refine O.call rfl rfl (sDecode_spec _ e (.slice ad2 (encSig s.sig).length c2) s.sig (RdSl.own .zero) hr) ?_;rintro _ _ ⟨M,vp,vq,rfl,hM,rfl⟩;refine O.of_sep (hM.ent zE).parts.one fun o4=>?_
 refine O.of_sep (hM.ent zE).path.one fun o5=>?_
 (repeat (refine wA ?_;intros))
 refine O.call rfl rfl (gWit_spec _ e s.wit) ?_;rintro _ _ ⟨rfl,rfl⟩;rw [decide_eq_true hn];refine wB ?_;apply Fin.retC
 ·exact zV
 exact ⟨Reader g ⟨r,false⟩::M::R,zE,M,vp,vq,rfl,hM,rfl⟩
theorem gVerify_spec (vl vw vr vp vq:Value) (p:Pol) (c:Chk) (g:Csg) (hp:RdPol R vl vw p) (hpr:p.right) (hr:RdB R vr c.root) (hc:c.right) (hs:RdSig R vp vq g.sig) :
 Ct prog 290 #[.agg (polC p vl vw).toArray,.agg (chkC c vr).toArray,.agg (csgC g vp vq).toArray] e R (fun v' L'=>v'=.bool (decide (g.ver p c))∧R=L'):=by
 have hbl:=bodyG_length hc;have hpr4:=hpr.most;have hp0:=hp;obtain ⟨h1,ts,hts,hv,ht⟩:=hp0;have hl:p.wits.length=ts.length:=by rw [← hts,List.length_map]
 refine Ct.of_sep (RdB.one h1) fun o1=>?_
 refine Ct.of_sep (RdB.one hr) fun o2=>?_
 refine Ct.of_sep hs.parts.one fun o3=>?_
 refine Ct.of_sep hs.path.one fun o4=>?_
 refine Ct.of_sep (hv.shape zo) ?_;rintro ⟨⟨adv,cap,rfl,h3,h4,h5,h6⟩,_⟩;simp only [maxLen] at h4
 refine Ct.enter (args:=[_,_,_]) func290 rfl ntmps290 results290 rfl ?_
 (repeat (refine wA ?_;intros))
 rename_i g1 g2 g3;refine O.call rfl rfl (gRight_spec _ e vl _ p (hp.ent zE) hpr) ?_;rintro _ _ ⟨rfl,rfl⟩;refine wB ?_;refine O.call rfl rfl (cRight_spec _ e vr c (hr.ent zE)) ?_;rintro _ _ ⟨rfl,rfl⟩;rw [decide_eq_true hc]
 by_cases hw:g.wit<ts.length
 rotate_left
 ·rw [decide_eq_false (fun q:g.ver p c=>hw (by rw [← hl];exact q.1))];refine wB ?_;exact Fin.ret R rfl zE ⟨rfl,rfl⟩
 rcases h6 with h6|⟨gl,ol,rfl⟩
 ·omega
 have hrd:Rd R ⟨gl,ol+g.wit,none⟩ (ts[g.wit]'hw).1:=hv.elem (by rw [List.getElem?_map,List.getElem?_eq_getElem hw];rfl);have hti:=ht _ (List.getElem_mem hw);have hgd:p.wits.getD g.wit []=(ts[g.wit]'hw).2:=by rw [← hts,getD_txt hw]
 generalize ts[g.wit]'hw=y at *
 obtain ⟨yv,b⟩:=y;dsimp only at hrd hti hgd
 refine wB ?_;refine A.begin (id:=3) [11] (Blk g1 (polC p vl (.slice (some ⟨gl,ol,none⟩) ts.length cap)) 106 (0,0)::Blk g2 (chkC c vr) 83 (0,0)::Blk g3 (csgC g vp vq) 96 (0,0)::R) mixed ?_
 (refine tF 0 ?_;refine tL 1 ?_;refine tF 2 ?_;refine tL 3 ?_;refine tk 4 _ rfl (Val.indexAddr1 rfl rfl zo) ?_;refine tL 5 ?_;refine tJ 6 ?_;refine tF 8 ?_;refine tk 9 _ rfl (Val.loadAggB rfl zP zI zX) ?_)
 refine tO 7 ?_;refine Do.call rfl rfl (gBody_spec _ e vr c (hr.ent zE) hc) ?_;rintro _ _ ⟨ad,k,rfl,rfl⟩;refine ⟨fun _=>zE,A.regrow zE ?_⟩;refine tO 10 ?_;refine Do.call rfl rfl (sVerify_spec _ e yv (.slice ad (bodyG c).length k) vp vq b (bodyG c) g.sig (hti.ent zE) (RdSl.own zP) zo (hs.ent zE)) ?_;rintro _ _ ⟨rfl,rfl⟩;refine ⟨fun _=>zE,A.regrow zE ?_⟩;rw [show decide (verP b (bodyG c) g.sig)=decide (g.ver p c) from decide_eq_decide.2 ⟨fun q=>⟨by rw [hl];exact hw,by rw [hgd];exact q⟩,fun q=>by have:=q.2;rw [hgd] at this;exact this⟩]
 ((refine tO 11 ?_;refine dV (Val.assign rfl) ?_))
 refine A.done zK ?_;refine wB ?_;exact Fin.ret R rfl zE ⟨rfl,rfl⟩
theorem equalF_spec (va vb:Value) (a b:List (List UInt8)) (ha:RdTs R va a) (hb:RdTs R vb b) (hla:a.length≤1000000) (hlb:b.length≤1000000) :
 Ct prog 309 #[va,vb,.func (.func 99) #[] #[]] e R (fun v' L'=>v'=.bool (decide (a=b))∧R=L'):=by
 obtain ⟨ts,rfl,hv,ht⟩:=ha;obtain ⟨us,rfl,hw,hu⟩:=hb;rw [List.length_map] at hla hlb
 refine Ct.of_sep (hv.shape zo) ?_;rintro ⟨⟨ad1,cap1,rfl,h3,h4,h5,h6⟩,_⟩;refine Ct.of_sep (hw.shape zo) ?_;rintro ⟨⟨ad2,cap2,rfl,w3,w4,w5,w6⟩,_⟩;refine Ct.enter (args:=[_,_,_]) func309 rfl ntmps309 results309 rfl ?_
 by_cases h:ts.length=us.length
 rotate_left
 ·rw [decide_eq_false (fun q=>h (by have:=congrArg List.length q;simpa using this))];refine wB ?_;exact Fin.ret R rfl Ent.rfl ⟨rfl,rfl⟩
 refine wB ?_;refine W.loop (ι:=Nat) (fun i=>[(0,.slice ad1 ts.length cap1),(1,.slice ad2 us.length cap2),(2,.func (.func 99) #[] #[]),(15,.slice ad1 ts.length cap1),(16,.int .i64 (ts.length:Int)),(17,.int .i64 (i:Int))]) (fun _=>R) (fun i=>i≤ts.length∧(ts.map (·.2)).take i=(us.map (·.2)).take i) (fun i=>ts.length - i) 0 ⟨Nat.zero_le _,by simp⟩ zS Ent.rfl ?_;rintro i ⟨hi,htk⟩
 by_cases hlt:i<ts.length
 rotate_left
 ·rw [List.take_of_length_le (by rw [List.length_map];omega),List.take_of_length_le (by rw [List.length_map];omega)] at htk
  rw [decide_eq_true htk];refine wB ?_;exact Fin.ret R rfl Ent.rfl ⟨rfl,rfl⟩
 rcases h6 with h6|⟨gl,ol,rfl⟩
 ·omega
 rcases w6 with w6|⟨gm,om,rfl⟩
 ·omega
 have hlu:i<us.length:=by omega
 have hr1:Rd R ⟨gl,ol+i,none⟩ (ts[i]'hlt).1:=hv.elem (by rw [List.getElem?_map,List.getElem?_eq_getElem hlt];rfl);have hr2:Rd R ⟨gm,om+i,none⟩ (us[i]'hlu).1:=hw.elem (by rw [List.getElem?_map,List.getElem?_eq_getElem hlu];rfl);have ht1:=ht _ (List.getElem_mem hlt);have hu1:=hu _ (List.getElem_mem hlu)
 have hn:(ts[i]'hlt).2=(us[i]'hlu).2→(ts.map (·.2)).take (i+1)=(us.map (·.2)).take (i+1):=fun q=>by
  rw [List.take_succ_eq_append_getElem (by rw [List.length_map];exact hlt),List.take_succ_eq_append_getElem (by rw [List.length_map];exact hlu),htk,List.getElem_map,List.getElem_map,q]
 have hne:¬ (ts[i]'hlt).2=(us[i]'hlu).2→¬ ts.map (·.2)=us.map (·.2):=fun q r=>q (by
  have:=congrArg (fun l=>l.getD i []) r
  rwa [getD_txt hlt,getD_txt hlu] at this)
 generalize ts[i]'hlt=y at *
 generalize us[i]'hlu=z at *
 obtain ⟨yv,yb⟩:=y;obtain ⟨zv,zb⟩:=z;dsimp only at hr1 hr2 ht1 hu1 hn hne
 refine wB ?_;refine O.callV (us:=[]) (ws:=[]) rfl rfl rfl (same_spec _ e yv zv yb zb ht1 hu1) ?_;rintro _ _ ⟨rfl,rfl⟩
 by_cases hyz:yb=zb
 rotate_left
 ·rw [decide_eq_false hyz,decide_eq_false (hne hyz)];refine wB ?_;exact Fin.ret R rfl Ent.rfl ⟨rfl,rfl⟩
 rw [decide_eq_true hyz];refine wB ?_;exact Fin.round (i+1) ⟨hlt,hn hyz⟩ zo zS Ent.rfl
theorem sSame_spec (vp vq up uq:Value) (a b:Sig) (ha:RdSig R vp vq a) (hb:RdSig R up uq b) :
 Ct prog 289 #[.agg (sigC a vp vq).toArray,.agg (sigC b up uq).toArray] e R (fun v' L'=>v'=.bool (decide (a=b))∧R=L'):=by
 have hab:a=b↔a.idx=b.idx∧a.parts=b.parts∧a.path=b.path:=by cases a;cases b;simp
 obtain ⟨a1,a2,a3⟩:=ha;obtain ⟨b1,b2,b3⟩:=hb;refine Ct.of_sep a1.one fun o1=>?_
 refine Ct.of_sep a2.one fun o2=>?_
 refine Ct.of_sep b1.one fun o3=>?_
 refine Ct.of_sep b2.one fun o4=>?_
 refine Ct.enter (args:=[_,_]) func289 rfl ntmps289 results289 rfl ?_
 by_cases h1:a.idx=b.idx
 rotate_left
 ·rw [decide_eq_false (fun q=>h1 (hab.1 q).1)]
  (repeat (refine wA ?_;intros))
  exact Fin.ret R rfl zE ⟨rfl,rfl⟩
 (repeat (refine wA ?_;intros))
 refine O.call rfl rfl (equalF_spec _ e vp up a.parts b.parts (a1.ent zE) (b1.ent zE) zo zo) ?_;rintro _ _ ⟨rfl,rfl⟩
 by_cases h2:a.parts=b.parts
 rotate_left
 ·rw [decide_eq_false h2,decide_eq_false (fun q=>h2 (hab.1 q).2.1)];refine wB ?_;exact Fin.ret R rfl zE ⟨rfl,rfl⟩
 rw [decide_eq_true h2];refine wB ?_;refine O.call rfl rfl (equalF_spec _ e vq uq a.path b.path (a2.ent zE) (b2.ent zE) zo zo) ?_;rintro _ _ ⟨rfl,rfl⟩;rw [show decide (a.path=b.path)=decide (a=b) from decide_eq_decide.2 (by rw [hab];exact ⟨fun q=>⟨h1,h2,q⟩,fun q=>q.2.2⟩)];refine wB ?_;exact Fin.ret R rfl zE ⟨rfl,rfl⟩
theorem gSame_spec (vp vq up uq:Value) (a b:Csg) (ha:RdSig R vp vq a.sig) (hb:RdSig R up uq b.sig) :
 Ct prog 253 #[.agg (csgC a vp vq).toArray,.agg (csgC b up uq).toArray] e R (fun v' L'=>v'=.bool (decide (a=b))∧R=L'):=by
 have hab:a=b↔a.wit=b.wit∧a.sig=b.sig:=by cases a;cases b;simp
 refine Ct.of_sep ha.parts.one fun o1=>?_
 refine Ct.of_sep ha.path.one fun o2=>?_
 refine Ct.of_sep hb.parts.one fun o3=>?_
 refine Ct.of_sep hb.path.one fun o4=>?_
 refine Ct.enter (args:=[_,_]) func253 rfl ntmps253 results253 rfl ?_
 by_cases h1:a.wit=b.wit
 rotate_left
 ·rw [decide_eq_false (fun q=>h1 (hab.1 q).1)]
  (repeat (refine wA ?_;intros))
  exact Fin.ret R rfl zE ⟨rfl,rfl⟩
 (repeat' first|refine Za ?_|refine Zb ?_|apply Zc|apply Zd|apply Ze|apply Zf|refine Zh ?_|refine Zi ?_|refine Zn ?_|refine ZM ?_|refine Yg fun _=>?_|(apply O.loadAggB;exact rfl;exact zP;(first|(simp only [Nat.zero_add,Nat.add_zero,Nat.reduceAdd,List.drop_succ_cons,List.drop_zero,List.take_succ_cons,List.take_zero];done)|(simp only [Nat.zero_add,Nat.add_zero,Nat.reduceAdd,List.drop_succ_cons,List.drop_zero,List.take_succ_cons,List.take_zero];exact rfl));exact rfl;exact rfl))
 refine O.call rfl rfl (sSame_spec _ e vp vq up uq a.sig b.sig (ha.ent zE) (hb.ent zE)) ?_;rintro _ _ ⟨rfl,rfl⟩;rw [show decide (a.sig=b.sig)=decide (a=b) from decide_eq_decide.2 (by rw [hab];exact ⟨fun q=>⟨h1,q⟩,fun q=>q.2⟩)];refine wB ?_;exact Fin.ret R rfl zE ⟨rfl,rfl⟩
def seenC (s:List Nat):List Value:=[.bool (decide (0∈s)),.bool (decide (1∈s)),.bool (decide (2∈s)),.bool (decide (3∈s))]
theorem seenC_def {s:List Nat}:seenC s=[.bool (decide (0∈s)),.bool (decide (1∈s)),.bool (decide (2∈s)),.bool (decide (3∈s))]:=rfl
theorem seenC0 {s:List Nat}:seenC (0::s)=[.bool true,.bool (decide (1∈s)),.bool (decide (2∈s)),.bool (decide (3∈s))]:=by simp [seenC]
theorem seenC1 {s:List Nat}:seenC (1::s)=[.bool (decide (0∈s)),.bool true,.bool (decide (2∈s)),.bool (decide (3∈s))]:=by simp [seenC]
theorem seenC2 {s:List Nat}:seenC (2::s)=[.bool (decide (0∈s)),.bool (decide (1∈s)),.bool true,.bool (decide (3∈s))]:=by simp [seenC]
theorem seenC3 {s:List Nat}:seenC (3::s)=[.bool (decide (0∈s)),.bool (decide (1∈s)),.bool (decide (2∈s)),.bool true]:=by simp [seenC]
theorem countP_cons {p:Pol} {c:Chk} {g:Csg} {l:List Csg} {s:List Nat}:countP p c (g::l) s=if g.wit<4∧¬ g.wit∈s∧g.ver p c then 1+countP p c l (g.wit::s) else countP p c l s:=by rw [countP]
theorem gcount_spec (vl vw vr v:Value) (p:Pol) (c:Chk) (gs:List Csg) (hp:RdPol R vl vw p) (hpr:p.right) (hr:RdB R vr c.root) (hc:c.right) (hs:RdGs R v gs) (hl:gs.length≤1000) :
 Ct prog 301 #[.agg (polC p vl vw).toArray,.agg (chkC c vr).toArray,v,.func (.func 290) #[] #[]] e R (fun v' L'=>v'=.int .i64 (countP p c gs []:Nat)∧R=L'):=by
 obtain ⟨ts,rfl,hv,ht⟩:=hs;rw [List.length_map] at hl
 refine Ct.of_sep (RdB.one hp.log) fun o1=>?_
 refine Ct.of_sep hp.wits.one fun o2=>?_
 refine Ct.of_sep (RdB.one hr) fun o3=>?_
 refine Ct.of_sep (hv.shape zo) ?_;rintro ⟨⟨adv,cap,rfl,h3,h4,h5,h6⟩,_⟩;simp only [maxLen] at h4
 refine Ct.enter (args:=[_,_,_,_]) func301 rfl ntmps301 results301 rfl ?_
 (repeat (refine wA ?_;intros))
 rename_i g1 g2 g3;refine W.loop (ι:=Nat × Nat × List Nat) (fun i=>[(3,.func (.func 290) #[] #[]),(4,pt g1),(5,pt g2),(9,.int .i64 (i.2.1:Int)),(10,pt g3),(13,.slice adv ts.length cap),(14,.int .i64 (ts.length:Int)),(15,.int .i64 (i.1:Int))]) (fun i=>Blk g3 (seenC i.2.2) 402 (0,0)::Blk g2 (chkC c vr) 83 (0,0)::Blk g1 (polC p vl vw) 106 (0,0)::R) (fun i=>i.1≤ts.length∧i.2.1≤i.1∧i.2.1+countP p c ((ts.map (·.1)).drop i.1) i.2.2=countP p c (ts.map (·.1)) []) (fun i=>ts.length - i.1) (0,0,[]) ⟨Nat.zero_le _,Nat.le_refl _,by simp⟩ zS zE ?_;rintro ⟨i,n,s⟩ ⟨hi,hn,hct⟩;dsimp only at hi hn hct
 by_cases hlt:i<ts.length
 rotate_left
 ·rw [List.drop_eq_nil_of_le (by rw [List.length_map];omega)] at hct
  simp only [countP,Nat.add_zero] at hct
  rw [← hct];refine wB ?_;exact Fin.ret R rfl zE ⟨rfl,rfl⟩
 rcases h6 with h6|⟨gl,ol,rfl⟩
 ·omega
 have hag:RdA R gl (ol+i*4) (GAt.cells (ts[i]'hlt)):=RdA.elem hv GAt.len (List.getElem?_eq_getElem hlt);have hti:=ht _ (List.getElem_mem hlt);have hdr:(ts.map (·.1)).drop i=(ts[i]'hlt).1::(ts.map (·.1)).drop (i+1):=by rw [List.drop_eq_getElem_cons (by rw [List.length_map];exact hlt),List.getElem_map]
 generalize ts[i]'hlt=y at *
 obtain ⟨⟨w,sg⟩,up,uq⟩:=y;rw [hdr,countP_cons] at hct
 obtain ⟨hti1,hti2⟩:=hti;dsimp only at hct hag hti1 hti2
 refine W.of_sep (hti1.ent zE).parts.one fun o4=>?_
 refine W.of_sep (hti1.ent zE).path.one fun o5=>?_
 (repeat (refine wA ?_;intros))
 rename_i g4;refine O.call rfl rfl (gWit_spec _ e w) ?_;rintro _ _ ⟨rfl,rfl⟩
 by_cases hw:w<4
 rotate_left
 ·rw [decide_eq_false hw];rw [if_neg (fun q=>hw q.1)] at hct
  refine wB ?_;exact Fin.round (i+1,n,s) ⟨hlt,by dsimp only;omega,hct⟩ zd zS zE
 rw [decide_eq_true hw]
 by_cases hse:w∈s
 ·rw [if_neg (fun q=>q.2.1 hse)] at hct
  rcases (show w=0∨w=1∨w=2∨w=3 by omega) with rfl|rfl|rfl|rfl
  all_goals
   simp only [seenC_def (s:=s),decide_eq_true hse]
   (repeat' first|refine Y2 ?_|refine Za ?_|apply Zd|apply Ze|apply Zf|refine Zh ?_|refine Zi ?_|refine Zl ?_|refine Zm ?_|refine Zn ?_|refine Zo ?_|refine Zy ?_|refine ZS ?_|refine YA ?_|apply YC|apply YH)
   refine Fin.round (i+1,n,s) ⟨hlt,by dsimp only;omega,hct⟩ zd zS ?_;simp only [seenC_def (s:=s),decide_eq_true hse];exact zE
 by_cases hve:Csg.ver ⟨w,sg⟩ p c
 ·rw [if_pos ⟨hw,hse,hve⟩,← Nat.add_assoc] at hct
  rcases (show w=0∨w=1∨w=2∨w=3 by omega) with rfl|rfl|rfl|rfl
  all_goals
   simp only [seenC_def (s:=s),decide_eq_false hse]
   (repeat' first|refine Y2 ?_|refine Za ?_|refine Zh ?_|refine Zi ?_|refine Zj ?_|refine Zl ?_|refine Zn ?_|refine Zz ?_|fail)
   refine O.callV (us:=[]) (ws:=[]) rfl rfl rfl (gVerify_spec _ e vl vw vr up uq p c ⟨_,sg⟩ (hp.ent zE) hpr (hr.ent zE) hc (hti1.ent zE)) ?_;rintro _ _ ⟨rfl,rfl⟩;rw [decide_eq_true hve]
   (repeat' first|refine Y2 ?_|refine Za ?_|refine Zb ?_|apply Zc|apply Zd|apply Ze|apply Zf|refine Zh ?_|refine Zi ?_|refine Zl ?_|refine ZS ?_|refine Yd ?_|refine Yz ?_|apply YH)
   refine Fin.round (i+1,n+1,_::s) ⟨hlt,by dsimp only;omega,hct⟩ zd zS ?_;dsimp only
   first|rw [seenC0]|rw [seenC1]|rw [seenC2]|rw [seenC3]
   exact zE
 ·rw [if_neg (fun q=>hve q.2.2)] at hct
  rcases (show w=0∨w=1∨w=2∨w=3 by omega) with rfl|rfl|rfl|rfl
  all_goals
   simp only [seenC_def (s:=s),decide_eq_false hse]
   (repeat' first|refine Y2 ?_|refine Za ?_|refine Zh ?_|refine Zi ?_|refine Zj ?_|refine Zl ?_|refine Zn ?_|refine Zz ?_|fail)
   refine O.callV (us:=[]) (ws:=[]) rfl rfl rfl (gVerify_spec _ e vl vw vr up uq p c ⟨_,sg⟩ (hp.ent zE) hpr (hr.ent zE) hc (hti1.ent zE)) ?_;rintro _ _ ⟨rfl,rfl⟩;rw [decide_eq_false hve];refine wB ?_;refine Fin.round (i+1,n,s) ⟨hlt,by dsimp only;omega,hct⟩ zd zS ?_;simp only [seenC_def (s:=s),decide_eq_false hse];exact zE
theorem gCount_spec (vl vw vr v:Value) (p:Pol) (c:Chk) (gs:List Csg) (hp:RdPol R vl vw p) (hpr:p.right) (hr:RdB R vr c.root) (hc:c.right) (hs:RdGs R v gs) (hl:gs.length≤1000) :
 Ct prog 269 #[.agg (polC p vl vw).toArray,.agg (chkC c vr).toArray,v] e R (fun v' L'=>v'=.int .i64 (countP p c gs []:Nat)∧R=L'):=by
 refine Ct.of_sep (RdB.one hp.log) fun o1=>?_
 refine Ct.of_sep hp.wits.one fun o2=>?_
 refine Ct.of_sep (RdB.one hr) fun o3=>?_
 refine Ct.enter (args:=[_,_,_]) func269 rfl ntmps269 results269 rfl ?_
 (repeat (refine wA ?_;intros))
 refine O.call rfl rfl (gcount_spec _ e vl vw vr v p c gs (hp.ent zE) hpr (hr.ent zE) hc (hs.ent zE) hl) ?_;rintro _ _ ⟨rfl,rfl⟩;refine wB ?_;exact Fin.ret R rfl zE ⟨rfl,rfl⟩
theorem gMet_spec (vl vw vr v:Value) (p:Pol) (c:Chk) (gs:List Csg) (hp:RdPol R vl vw p) (hpr:p.right) (hr:RdB R vr c.root) (hc:c.right) (hs:RdGs R v gs) (hl:gs.length≤1000) :
 Ct prog 215 #[.agg (polC p vl vw).toArray,.agg (chkC c vr).toArray,v] e R (fun v' L'=>v'=.bool (decide (metP p c gs))∧R=L'):=by
 refine Ct.of_sep (RdB.one hp.log) fun o1=>?_
 refine Ct.of_sep hp.wits.one fun o2=>?_
 refine Ct.of_sep (RdB.one hr) fun o3=>?_
 refine Ct.enter (args:=[_,_,_]) func215 rfl ntmps215 results215 rfl ?_
 (repeat (refine wA ?_;intros))
 rename_i g1 g2;refine A.begin (id:=1) [11] (Blk g1 (polC p vl vw) 106 (0,0)::Blk g2 (chkC c vr) 83 (0,0)::R) mixed ?_
 (refine tJ 0 ?_)
 refine tO 1 ?_;refine Do.call rfl rfl (gRight_spec _ e vl vw p (hp.ent zE) hpr) ?_;rintro _ _ ⟨rfl,rfl⟩;refine ⟨fun _=>zE,A.regrow zE ?_⟩
 (refine tM 2 ?_;refine tkG 3 _ rfl (Val.loadAggR rfl zA zX) ?_;refine tkG 4 _ rfl (Val.loadAggR rfl zA zX) ?_;refine tkG 5 _ rfl (Val.move rfl) ?_;refine tkG 7 _ rfl (Val.fieldAddr rfl) ?_;refine tkG 8 _ rfl (Val.load rfl zR) ?_)
 refine A.oneG 6 rfl rfl zK ?_;refine Do.call rfl rfl (gCount_spec _ e vl vw vr v p c gs (hp.ent zE) hpr (hr.ent zE) hc (hs.ent zE) hl) ?_;rintro _ _ ⟨rfl,rfl⟩;refine ⟨fun _=>zE,A.regrow zE ?_⟩
 by_cases hm:metP p c gs
 ·have hm2:=hm;unfold metP at hm2
  rw [decide_eq_true hm]
  (refine tkG 9 (.bool true) rfl (Val.yes (Val.geq rfl rfl) zy) ?_;refine tk 10 _ rfl (Val.pick_t rfl rfl) ?_;(refine tO 11 ?_;refine dV (Val.assign rfl) ?_))
  refine A.done zK ?_;refine wB ?_;exact Fin.ret R rfl zE ⟨rfl,rfl⟩
 ·have hm2:=hm;unfold metP at hm2
  rw [decide_eq_false hm]
  (refine tkG 9 (.bool false) rfl (Val.no (Val.geq rfl rfl) zn) ?_;refine tk 10 _ rfl (Val.pick_t rfl rfl) ?_;(refine tO 11 ?_;refine dV (Val.assign rfl) ?_))
  refine A.done zK ?_;refine wB ?_;exact Fin.ret R rfl zE ⟨rfl,rfl⟩
theorem mName_spec (l:List UInt8) (hl:l.length≤1000000) :
 Ct prog 200 #[.string (str l)] e R (fun v' L'=>v'=.bool (decide (nameP l))∧R=L'):=by
 have hsz:=size_str l;refine Ct.enter (args:=[_]) func200 rfl ntmps200 results200 rfl ?_
 by_cases h1:1≤l.length
 rotate_left
 ·rw [decide_eq_false (fun q:nameP l=>h1 q.1)];refine wB ?_;exact Fin.ret R rfl Ent.rfl ⟨rfl,rfl⟩
 by_cases h2:l.length≤20
 rotate_left
 ·rw [decide_eq_false (fun q:nameP l=>h2 q.2.1)];refine wB ?_;exact Fin.ret R rfl Ent.rfl ⟨rfl,rfl⟩
 refine wB ?_;refine W.loop (ι:=Nat) (fun i=>[(0,.string (str l)),(13,.int .i64 ((str l).size:Int)),(14,.int .i64 (i:Int))]) (fun _=>R) (fun i=>i≤l.length∧∀ b∈l.take i,97≤b.toNat∧b.toNat≤122) (fun i=>l.length - i) 0 ⟨Nat.zero_le _,fun b hb=>by simp at hb⟩ zS Ent.rfl ?_;rintro i ⟨hi,hall⟩
 by_cases hlt:i<l.length
 rotate_left
 ·rw [List.take_of_length_le zo] at hall
  rw [decide_eq_true (show nameP l from ⟨h1,h2,hall⟩)];refine wB ?_;exact Fin.ret R rfl Ent.rfl ⟨rfl,rfl⟩
 have hat:∃ h:i<(str l).size,(str l)[i].toNat=(l[i]'hlt).toNat:=⟨by omega,rfl⟩
 refine wB ?_;refine O.indexS rfl rfl hat rfl ?_
 by_cases h3:97≤(l[i]'hlt).toNat
 rotate_left
 ·rw [decide_eq_false (fun q:nameP l=>h3 (q.2.2 _ (List.getElem_mem hlt)).1)];refine wB ?_;exact Fin.ret R rfl Ent.rfl ⟨rfl,rfl⟩
 refine wB ?_;refine O.indexS rfl rfl hat rfl ?_
 by_cases h4:(l[i]'hlt).toNat≤122
 rotate_left
 ·rw [decide_eq_false (fun q:nameP l=>h4 (q.2.2 _ (List.getElem_mem hlt)).2)];refine wB ?_;exact Fin.ret R rfl Ent.rfl ⟨rfl,rfl⟩
 refine wB ?_
 exact Fin.round (i+1) ⟨hlt,fun b hb=>by
  rw [List.take_succ_eq_append_getElem hlt] at hb
  rcases List.mem_append.1 hb with hb|hb
  ·exact hall b hb
  ·rw [List.mem_singleton.1 hb];exact ⟨h3,h4⟩⟩ zo zS Ent.rfl
theorem mRight_spec (vf vn:Value) (m:Man) (hf:RdB R vf m.fw) (hn:RdB R vn m.notes) (hl:m.name.length≤1000000) :
 Ct prog 115 #[.agg (manC m vf vn).toArray] e R (fun v' L'=>v'=.bool (decide m.right)∧R=L'):=by
 refine Ct.of_sep (RdSl.shape hf zo) ?_;rintro ⟨⟨ad,cap,rfl,h3,h4,h5,h6⟩,_⟩;refine Ct.of_sep (RdSl.shape hn zo) ?_;rintro ⟨⟨ad2,cap2,rfl,w3,w4,w5,w6⟩,_⟩;refine Ct.enter (args:=[_]) func115 rfl ntmps115 results115 rfl ?_
 (repeat (refine wA ?_;intros))
 refine O.call rfl rfl (mName_spec _ e m.name hl) ?_;rintro _ _ ⟨rfl,rfl⟩
 by_cases h1:nameP m.name
 rotate_left
 ·rw [decide_eq_false h1,decide_eq_false (fun q:m.right=>h1 q.1)];refine wB ?_;exact Fin.ret R rfl zE ⟨rfl,rfl⟩
 rw [decide_eq_true h1]
 by_cases h2:0<m.ver
 rotate_left
 ·rw [decide_eq_false (fun q:m.right=>h2 q.2.1)];refine wB ?_;exact Fin.ret R rfl zE ⟨rfl,rfl⟩
 by_cases h3:m.fw.length=32
 rotate_left
 ·rw [decide_eq_false (fun q:m.right=>h3 q.2.2.1)];refine wB ?_;exact Fin.ret R rfl zE ⟨rfl,rfl⟩
 by_cases h4:m.notes.length≤64
 rotate_left
 ·rw [decide_eq_false (fun q:m.right=>h4 q.2.2.2)];refine wB ?_;exact Fin.ret R rfl zE ⟨rfl,rfl⟩
 rw [decide_eq_true (show m.right from ⟨h1,h2,h3,h4⟩)];refine wB ?_;exact Fin.ret R rfl zE ⟨rfl,rfl⟩
theorem mID_spec (v:Value) (b:List UInt8) (hv:RdB R v b) (hb:b.length≤1000000) :
 Ct prog 168 #[v] e R (fun v' L'=>∃ ad c,v'=.slice ad (leafP b).length c∧L'=OwnB (.slice ad (leafP b).length c) (leafP b)::R):=by
 refine Ct.enter (args:=[_]) func168 rfl ntmps168 results168 rfl ?_;refine wB ?_;refine O.call rfl rfl (leaf_spec _ e v b hv zo) ?_;rintro _ _ ⟨ad,c,rfl,rfl⟩;refine wB ?_;exact Fin.ret _ rfl Ent.rfl ⟨ad,c,rfl,rfl⟩
abbrev man0C:List Value:=[.string (str []),.int .u32 0,nY,nY]
def manBlk (m:Man) (v:Value) (_:Nat→Value):List Res:=match v with|.agg #[_,_,vf,vn]=>[OwnB vf m.fw,OwnB vn m.notes]|_=>[]
theorem mDecode_spec (v:Value) (b:List UInt8) (hv:RdB R v b) (hb:b.length≤1000000) :
 Ct prog 51 #[v] e R (fun v' L'=>(manOk b→∃ (M:Res) (vf vn:Value),v'=.tuple #[.agg (manC (manOf b) vf vn).toArray,.int .i64 0]∧RdB [M] vf (manOf b).fw∧RdB [M] vn (manOf b).notes∧L'=M::R)∧(¬ manOk b→v'=.tuple #[.agg man0C.toArray,.int .i64 12]∧L'=R)):=by
 refine Ct.enterC (args:=[_]) func51 rfl ntmps51 results51 rfl ?_
 (repeat (refine wA ?_;intros))
 rename_i g2;refine O.call rfl rfl (read_spec _ e v b hv.tail zo) ?_;rintro _ _ ⟨gr,rfl,rfl⟩;refine wB ?_;refine O.call rfl rfl (rbyte_spec _ e gr (man0 b)) ?_;rintro _ _ ⟨rfl,rfl⟩;refine wB ?_;have hl1:(man1 b).left.length≤1000000:=Nat.le_trans (RSt.next_length _ _) hb;have hl2:(man2 b).left.length≤1000000:=Nat.le_trans (RSt.next_length _ _) (Nat.le_trans (RSt.next_length _ _) hl1);have hl3:(man3 b).left.length≤1000000:=Nat.le_trans (RSt.next_length _ _) hl2;have hl4:(man4 b).left.length≤1000000:=Nat.le_trans (RSt.next_length _ _) hl3;refine W.keep [(2,pt g2),(3,.int .i64 0),(4,pt gr),(5,.int .u8 ((man0 b).num 1:Nat))] zS ?_;refine A.begin (id:=3) [11] (Blk g2 man0C 67 (0,0)::R) mixed ?_;refine tM 3 ?_;refine tM 5 ?_;refine tM 7 ?_;refine tM 0 ?_;refine A.dagE0 (n:=1) (eDone 0 11 0 (pt gr) [Reader gr (man1 b)]) _ (L0:=Blk g2 man0C 67 (0,0)::R) [
  ⟨1,12,[0],[0],fun v _=>∃ ad c,v=.slice ad (manOf b).name.length c,[(1,fun _ _=>[Reader gr (man2 b)]),(2,fun v _=>[OwnB v (manOf b).name])]⟩,
  ⟨2,13,[1],[2],fun v _=>v=.string (str (manOf b).name),[]⟩,
  ⟨4,15,[1],[1],fun v _=>v=.int .u32 ((manOf b).ver:Int),[(3,fun _ _=>[Reader gr (man3 b)])]⟩,
  ⟨6,17,[4],[3],fun v _=>∃ ad c,v=.slice ad (manOf b).fw.length c,[(4,fun _ _=>[Reader gr (man4 b)]),(5,fun v _=>[OwnB v (manOf b).fw])]⟩,
  ⟨8,19,[6],[4],fun v _=>∃ ad c,v=.slice ad (manOf b).notes.length c,[(6,fun _ _=>[Reader gr (man5 b)]),(7,fun v _=>[OwnB v (manOf b).notes])]⟩,
  ⟨9,20,[2,4,6,8],[5,7],fun v _=>∃ ad c ad2 c2,v=.agg (manC (manOf b) (.slice ad (manOf b).fw.length c) (.slice ad2 (manOf b).notes.length c2)).toArray,[(9,manBlk (manOf b))]⟩,
  eNew 10 6 8 67 man0C] 7 rfl rfl zK zK zK rfl ?_ rfl zE ?_
 ·refine eall_cons ?_ (eall_cons ?_ (eall_cons ?_ (eall_cons ?_ (eall_cons ?_ (eall_cons ?_ (eall_cons ?_ eall_nil))))))
  ·refine ⟨_,rfl,.inl rfl,fun V σr M h3 hy=>?_⟩;obtain ⟨s,hv0⟩:=hy _ (List.mem_of_getElem? (i:=0) rfl) (List.mem_of_getElem? (i:=0) rfl) (slotB rfl);dsimp only at s hv0
   rw [hv0] at s
   refine Do.ent2 (show Ent _ (Reader gr (man1 b)::(M++(Blk g2 man0C 67 (0,0)::R))) from Ent.rfl) ?_;refine Do.call (xs:=[.tmp 11,.const (.int .i64 20)]) (vs:=[pt gr,.int .i64 20]) (by simp [evs,ev,s]) rfl (rbytes_spec _ e gr (man1 b) 20 zo) ?_;rintro _ _ ⟨ad,c,rfl,rfl⟩;exact ⟨_,rfl,⟨ad,c,rfl⟩,Ent.pull (.succ .zero) (Ent.cons Ent.rfl)⟩
  ·refine ⟨_,rfl,.inl rfl,fun V σr M h3 hy=>?_⟩;obtain ⟨s,hv0⟩:=hy _ (List.mem_of_getElem? (i:=1) rfl) (List.mem_of_getElem? (i:=0) rfl) (slotB rfl);dsimp only at s hv0
   refine Do.ent2 (show Ent _ (OwnB (V 1) (manOf b).name::(M++(Blk g2 man0C 67 (0,0)::R))) from Ent.rfl) ?_;exact Do.val (v:=.string (str (manOf b).name)) (Val.bytes s (RdSl.own .zero)) rfl ⟨_,rfl,rfl,Ent.drop Ent.rfl⟩
  ·refine ⟨_,rfl,.inl rfl,fun V σr M h3 hy=>?_⟩;refine Do.ent2 (show Ent _ (Reader gr (man2 b)::(M++(Blk g2 man0C 67 (0,0)::R))) from Ent.rfl) ?_;refine Do.call (evs1 (h3 14 _ rfl)) rfl (rnum_spec _ e gr (man2 b)) ?_;rintro _ _ ⟨rfl,rfl⟩;exact ⟨_,rfl,rfl,Ent.rfl⟩
  ·refine ⟨_,rfl,.inl rfl,fun V σr M h3 hy=>?_⟩;have s:=h3 16 _ rfl;refine Do.ent2 (show Ent _ (Reader gr (man3 b)::(M++(Blk g2 man0C 67 (0,0)::R))) from Ent.rfl) ?_;refine Do.call (xs:=[.tmp 16,.const (.int .i64 32)]) (vs:=[pt gr,.int .i64 32]) (by simp [evs,ev,s]) rfl (rraw_spec _ e gr (man3 b) 32 zo) ?_;rintro _ _ ⟨ad,c,rfl,rfl⟩;exact ⟨_,rfl,⟨ad,c,rfl⟩,Ent.pull (.succ .zero) (Ent.cons Ent.rfl)⟩
  ·refine ⟨_,rfl,.inl rfl,fun V σr M h3 hy=>?_⟩;have s:=h3 18 _ rfl;refine Do.ent2 (show Ent _ (Reader gr (man4 b)::(M++(Blk g2 man0C 67 (0,0)::R))) from Ent.rfl) ?_;refine Do.call (xs:=[.tmp 18,.const (.int .i64 64)]) (vs:=[pt gr,.int .i64 64]) (by simp [evs,ev,s]) rfl (rbytes_spec _ e gr (man4 b) 64 zo) ?_;rintro _ _ ⟨ad,c,rfl,rfl⟩;exact ⟨_,rfl,⟨ad,c,rfl⟩,Ent.pull (.succ .zero) (Ent.cons Ent.rfl)⟩
  ·refine ⟨_,rfl,.inl rfl,fun V σr M h3 hy=>?_⟩;obtain ⟨s2,hv2⟩:=hy _ (List.mem_of_getElem? (i:=2) rfl) (List.mem_of_getElem? (i:=0) rfl) (slotB rfl);obtain ⟨s4,hv4⟩:=hy _ (List.mem_of_getElem? (i:=3) rfl) (List.mem_of_getElem? (i:=1) rfl) (slotB rfl);obtain ⟨s6,ad,c,hv6⟩:=hy _ (List.mem_of_getElem? (i:=4) rfl) (List.mem_of_getElem? (i:=2) rfl) (slotB rfl);obtain ⟨s8,ad2,c2,hv8⟩:=hy _ (List.mem_of_getElem? (i:=5) rfl) (List.mem_of_getElem? (i:=3) rfl) (slotB rfl);dsimp only at s2 hv2 s4 hv4 s6 hv6 s8 hv8
   refine Do.ent2 (show Ent _ (OwnB (V 6) (manOf b).fw::OwnB (V 8) (manOf b).notes::(M++(Blk g2 man0C 67 (0,0)::R))) from Ent.rfl) ?_;rw [hv2] at s2
   rw [hv4] at s4
   rw [hv6] at s6 ⊢
   rw [hv8] at s8 ⊢
   refine Do.val (v:=.agg (manC (manOf b) (.slice ad (manOf b).fw.length c) (.slice ad2 (manOf b).notes.length c2)).toArray) (Val.build (parts:=[(0,.tmp 13),(1,.tmp 15),(2,.tmp 17),(3,.tmp 19)]) (vs:=[(0,.string (str (manOf b).name)),(1,.int .u32 ((manOf b).ver:Int)),(2,.slice ad (manOf b).fw.length c),(3,.slice ad2 (manOf b).notes.length c2)]) (by simp [evp,ev,s2,s4,s6,s8]) (by simp [Instr.fill,Value.cells])) rfl ⟨_,rfl,⟨ad,c,ad2,c2,rfl⟩,Ent.rfl⟩
  ·exact eNew_ok rfl (.inl rfl) rfl rfl rfl
 intro V hV;obtain ⟨ad,c,ad2,c2,v9⟩:=hV _ (List.mem_of_getElem? (i:=6) rfl);obtain ⟨gm,v10⟩:=hV _ (List.mem_of_getElem? (i:=7) rfl);clear hV;dsimp only at v9 v10
 refine A.ent1 (show Ent _ ((Reader gr (man5 b)::(manBlk (manOf b) (V 9) V++(ptrBlk man0C 67 (V 10) V++[])))++(Blk g2 man0C 67 (0,0)::R)) from Ent.rfl) ?_;rw [v9,v10];refine A.ent1 (show Ent _ (Reader gr (man5 b)::OwnB (.slice ad (manOf b).fw.length c) (manOf b).fw::OwnB (.slice ad2 (manOf b).notes.length c2) (manOf b).notes::Blk gm man0C 67 (0,0)::Blk g2 man0C 67 (0,0)::R) from Ent.rfl) ?_;simp only [slotsE,Nat.reduceLT,if_true,List.cons_append,List.nil_append];rw [v9,v10]
 ((refine tO 11 ?_;refine zg ?_;refine ⟨zN,?_⟩))
 refine A.done zK ?_
 by_cases h1:(man0 b).num 1=77
 rotate_left
 ·have hno:¬ manOk b:=fun q=>h1 q.1
  refine wB ?_;apply Fin.retC
  ·exact zV
  exact ⟨R,zE,fun q=>absurd q hno,fun _=>⟨rfl,rfl⟩⟩
 rw [h1];refine wB ?_;refine O.call rfl rfl (rend_spec _ e gr (man5 b)) ?_;rintro _ _ ⟨rfl,rfl⟩
 by_cases h2:(man5 b).bad=false∧(man5 b).left=[]
 rotate_left
 ·have hno:¬ manOk b:=fun q=>h2 q.2.1
  rw [show (!(man5 b).bad && decide ((man5 b).left=[]))=false by
   cases hb:(man5 b).bad with
   | true=>rfl
   | false=>rw [decide_eq_false (fun q=>h2 ⟨hb,q⟩)];rfl]
  refine wB ?_;apply Fin.retC
  ·exact zV
  exact ⟨R,zE,fun q=>absurd q hno,fun _=>⟨rfl,rfl⟩⟩
 rw [show (!(man5 b).bad && decide ((man5 b).left=[]))=true by rw [h2.1,decide_eq_true h2.2];rfl];refine wB ?_;refine O.call rfl rfl (mRight_spec _ e _ _ (manOf b) (RdSl.own zP) (RdSl.own zP) (by have:=RSt.take_length ((man1 b).next 2) ((man1 b).len 20);have h3:=RSt.next_length (man1 b) 2;unfold manOf RSt.bytes;dsimp only;omega)) ?_;rintro _ _ ⟨rfl,rfl⟩
 by_cases h3:(manOf b).right
 rotate_left
 ·have hno:¬ manOk b:=fun q=>h3 q.2.2
  rw [decide_eq_false h3];refine wB ?_;apply Fin.retC
  ·exact zV
  exact ⟨R,zE,fun q=>absurd q hno,fun _=>⟨rfl,rfl⟩⟩
 rw [decide_eq_true h3];refine wB ?_;apply Fin.retC
 ·exact zV
 exact ⟨All [OwnB (.slice ad (manOf b).fw.length c) (manOf b).fw,OwnB (.slice ad2 (manOf b).notes.length c2) (manOf b).notes]::R,Ent.trans (show Ent _ (OwnB (.slice ad (manOf b).fw.length c) (manOf b).fw::OwnB (.slice ad2 (manOf b).notes.length c2) (manOf b).notes::R) from zE) (all_in (M:=[_,_])),fun _=>⟨_,_,_,rfl,rdb_all (RdSl.own .zero),rdb_all (RdSl.own (.succ .zero)),rfl⟩,fun q=>absurd ⟨h1,h2,h3⟩ q⟩
end Go.Proofs
namespace Go.Bs
theorem str_take (l:List UInt8) (i:Nat):(str l).extract 0 i=str (l.take i):=by
 apply ByteArray.ext
 simp [str,ByteArray.data_extract]
theorem Val.sliceS {P:Program} {N:Fr} {ty:TypeId} {σ:Env} {e:World} {L:List Res} {x y:Operand} {t:TypeId} {l:List UInt8} {i:Nat} {k:IntKind} [q:StrT P t] (h:ev σ x=some (.string (str l))) (h1:ev σ y=some (.int k (i:Int))) (hi:i≤l.length) :
 Val P N (.slice t x none (some y) none) ty (.string (str (l.take i))) σ e L:=fun a w ha _ _ _ _ _=>by
 have hs:=size_str l;simp only [execOp,ha.ev h,ha.ev h1,Option.map_none,Option.map_some]
 simp [Instr.sliceAt,Instr.slice,run_underlying q.und,Instr.sliceBounds,Instr.sliceBound,asIntOf,hs,hi]
 exact str_take l i
end Go.Bs
namespace Go.Proofs
open Go.Bs
attribute [local irreducible] Bs.Val Bs.Do Bs.O Bs.W Bs.Fin Bs.A Bs.Ct Bs.RdSl Bs.Rd Bs.Sat Bs.Blk Bs.Ob Bs.Own Bs.View Bs.Ent Bs.Ex Bs.All Bs.Pu Bs.Base Bs.sepL Bs.RdA
theorem refBytes_spec (R:List Res) (e:World) (ad:Option Addr) (c:Nat) (b x:List UInt8) (v:Value) (hv:RdB R v x) (hx:x.length≤65535) (hl:b.length≤1000000) :
 Ct Tryz.prog 147 #[.slice ad b.length c,v] e (OwnB (.slice ad b.length c) b::R) (fun v' L'=>∃ ad c,v'=.slice ad (b++enc x).length c∧L'=OwnB (.slice ad (b++enc x).length c) (b++enc x)::R):=by
 refine Ct.of_sep (RdSl.shape (RdSl.tail hv) zo) ?_;rintro ⟨⟨adx,cx,rfl,h3,h4,h5,h6⟩,_⟩;refine Ct.enter (args:=[_,_]) Tryz.func147 rfl Tryz.ntmps147 Tryz.results147 rfl ?_
 (repeat (refine wA ?_;intros))
 have e1:[Value.int .u8 (IntKind.u8.wrap ((x.length:Int).fdiv (2 ^ min (8:Int).toNat IntKind.i64.bits))),.int .u8 (IntKind.u8.wrap (x.length:Int))]=(be x.length 2).map u8:=by
  have a3:=shr_byte x.length 8 64 zo;have b:=low_byte x.length
  show [Value.int .u8 (IntKind.u8.wrap ((x.length:Int).fdiv (2 ^ min 8 64))),.int .u8 (IntKind.u8.wrap (x.length:Int))]=_
  rw [a3,b]
  simp [be,u8]
 rw [e1];refine O.do (Do.append rfl rfl rfl (.succ .zero) (RdSl.blk .zero (by rw [List.length_map,be_length]) zl) rfl rfl u8_one zm zo fun ad2 c2 _=>?_)
 (repeat (refine wA ?_;intros))
 refine O.do (Do.append rfl rfl rfl .zero (hv.ent zE) rfl rfl u8_one zm zo fun ad3 c3 _=>?_)
 refine wB ?_;have e2:(b++enc x).length=b.length+2+x.length:=by rw [List.length_append,enc_length];omega
 refine Fin.ret (OwnB (.slice ad3 (b++enc x).length c3) (b++enc x)::R) rfl ?_ ⟨ad3,c3,by rw [e2];rfl,rfl⟩;unfold OwnB;rw [e2];unfold enc;rw [List.map_append,List.map_append,← List.append_assoc];exact zE
theorem refEncM_spec (R:List Res) (e:World) (vf vn:Value) (m:Man) (hf:RdB R vf m.fw) (hn:RdB R vn m.notes) (hr:m.right) (hv:m.ver<4294967296) :
 Ct Tryz.prog 71 #[.agg (manC m vf vn).toArray] e R (fun v' L'=>∃ ad c,v'=.slice ad (encM m).length c∧L'=OwnB (.slice ad (encM m).length c) (encM m)::R):=by
 obtain ⟨q1,q2,q3,q4⟩:=id hr;have q5:=q1.2.1;refine Ct.of_sep (RdB.one hf) fun o1=>?_
 refine Ct.of_sep (RdB.one hn) fun o2=>?_
 refine Ct.enter (args:=[_]) Tryz.func71 rfl Tryz.ntmps71 Tryz.results71 rfl ?_
 (repeat (refine wA ?_;intros))
 rename_i g1;refine A.begin (id:=1) [8] (Blk g1 (manC m vf vn) 67 (0,0)::R) Tryz.mixed ?_
 (refine tF 1 ?_;refine tL 2 ?_)
 refine tF 5 ?_;refine tL 6 ?_;refine A.dagE (n:=3) [eLit 0 4 0 tU8 ([77].map u8),eOfStr 3 7 1 m.name] 2 rfl zK zK ?_ zE ?_
 ·refine eall_cons ?_ (eall_cons ?_ eall_nil)
  ·exact eLit_ok (z:=.int .u8 0) (parts:=[(0,.const (.int .u8 77))]) rfl (.inl rfl) rfl rfl (fun σr h=>rfl) rfl rfl zQ rfl rfl
  ·exact eOfStr_ok rfl (.inl rfl) rfl rfl (fun σr h=>h _ _ rfl) zm
 intro V hV;obtain ⟨g4,v0⟩:=hV _ (List.mem_of_getElem? (i:=0) rfl);obtain ⟨ad3,c3,v3⟩:=hV _ (List.mem_of_getElem? (i:=1) rfl);clear hV;dsimp only at v0 v3
 refine A.ent1 (show Ent _ ((litCells tU8 ([77].map u8) (V 0) V++([View 1 (V 3) m.name.length (m.name.map u8)]++[]))++(Blk g1 (manC m vf vn) 67 (0,0)::R)) from Ent.rfl) ?_;simp only [slotsE,Nat.reduceLT,if_true,List.cons_append,List.nil_append];rw [v0,v3];refine A.ent1 (show Ent _ (OwnB (.slice (some ⟨g4,0,none⟩) [(77:UInt8)].length 1) [77]::View 1 (.slice ad3 m.name.length c3) m.name.length (m.name.map u8)::Blk g1 (manC m vf vn) 67 (0,0)::R) from ?_) ?_
 ·exact own_in (E:=tU8) (n:=1) (k:=1) (g:=g4) (cap:=1) (cur:=[u8 77]) zo zl (by simp)
 refine tO 4 ?_;refine Do.call rfl rfl (refBytes_spec _ e (some ⟨g4,0,none⟩) 1 [77] m.name (.slice ad3 m.name.length c3) (RdSl.view .zero) zo (by decide)) ?_;rintro _ _ ⟨ad4,c4,rfl,rfl⟩;refine ⟨fun _=>zE,?_⟩;have en:=enc_length m.name;have e7:(([77]:List UInt8)++enc m.name).length≤30:=by rw [List.length_append,en];simp only [List.length_cons,List.length_nil];omega
 generalize hb1:([77]:List UInt8)++enc m.name=b1 at *
 refine tO 7 ?_;refine Do.call rfl rfl (refNum_spec _ e ad4 c4 b1 m.ver hv zo) ?_;rintro _ _ ⟨ad5,c5,rfl,rfl⟩;refine ⟨fun _=>zE,?_⟩
 ((refine tO 8 ?_;refine dV (Val.assign rfl) ?_))
 refine A.done zK ?_;have eb:(b1++be m.ver 4).length≤40:=by rw [List.length_append,be_length];omega
 generalize hb2:b1++be m.ver 4=b2 at *
 refine wB ?_;refine A.begin (id:=2) [7] (Blk g1 (manC m vf vn) 67 (0,0)::R) Tryz.mixed ?_
 (refine tM 0 ?_;refine tF 1 ?_;refine tL 2 ?_;refine tF 4 ?_;refine tL 5 ?_)
 refine tO 3 ?_;refine Do.append rfl rfl rfl zP (hf.ent zE) rfl rfl u8_one zm zo fun ad6 c6 _=>?_
 refine ⟨fun _=>zE,?_⟩;refine A.ent1 (show Ent _ (OwnB (.slice ad6 (b2++m.fw).length c6) (b2++m.fw)::Blk g1 (manC m vf vn) 67 (0,0)::R) from ?_) ?_
 ·unfold OwnB;rw [List.length_append,List.map_append];exact zE
 have e9:(b2++m.fw).length=b2.length+32:=by rw [List.length_append,q3]
 rw [show Value.slice ad6 (b2.length+m.fw.length) c6=.slice ad6 (b2++m.fw).length c6 by rw [List.length_append]];refine tO 6 ?_;refine Do.call rfl rfl (refBytes_spec _ e ad6 c6 (b2++m.fw) m.notes vn (hn.ent zE) zo zo) ?_;rintro _ _ ⟨ad7,c7,rfl,rfl⟩;refine ⟨fun _=>zE,?_⟩
 ((refine tO 7 ?_;refine dV (Val.assign rfl) ?_))
 refine A.done zK ?_
 have hfin:b2++m.fw++enc m.notes=encM m:=by
  rw [← hb2,← hb1];unfold encM
  simp
 rw [hfin];refine wB ?_;exact Fin.ret (OwnB (.slice ad7 (encM m).length c7) (encM m)::R) rfl zE ⟨ad7,c7,rfl,rfl⟩
def byteI (n:Int):UInt8:=UInt8.ofNat (n % 256).toNat
theorem byteI_spec (n:Int):Value.int .u8 (IntKind.u8.wrap n)=u8 (byteI n):=by
 unfold u8 byteI;rw [UInt8.toNat_ofNat',Nat.mod_eq_of_lt (by have:=Int.emod_lt_of_pos n (show (0:Int)<256 by omega);omega),Int.toNat_of_nonneg (Int.emod_nonneg n zo)];unfold IntKind.wrap
 simp [IntKind.bits,IntKind.signed]
def hashK (n:Int):List UInt8:=tagP 98 [[byteI (within n 0 100000)]]
def seedK (n:Int):List UInt8:=tagP 99 [[byteI ((within n 0 1000).tmod 5)]]
theorem kHash_spec (R:List Res) (e:World) (n:Int) (hn:-9223372036854775808≤n∧n≤9223372036854775807) :
 Ct Tryz.prog 94 #[.int .i64 n] e R (fun v' L'=>∃ ad c,v'=.slice ad (hashK n).length c∧L'=OwnB (.slice ad (hashK n).length c) (hashK n)::R):=by
 refine Ct.enter (args:=[_]) Tryz.func94 rfl Tryz.ntmps94 Tryz.results94 rfl ?_;refine wB ?_;refine O.call rfl rfl (within_spec _ e n 0 100000 hn zo) ?_;rintro _ _ ⟨rfl,rfl⟩
 (repeat (refine wA ?_;intros))
 rw [byteI_spec]
 (repeat (refine wA ?_;intros))
 rename_i g1 g2
 refine O.call rfl rfl (refTagged_spec _ e 98 _ [(.slice (some ⟨g1,0,none⟩) 1 1,[byteI (within n 0 100000)])] (RdSl.blk .zero rfl zl) (fun a ha=>by
  rw [List.mem_singleton.1 ha]
  exact RdSl.blk (.succ .zero) rfl zl) (fun a ha=>by
  rw [List.mem_singleton.1 ha]
  show 1≤1000000
  decide) (by simp)) ?_
 rintro _ _ ⟨ad,c,rfl,rfl⟩;rw [show tagP 98 ([((.slice (some ⟨g1,0,none⟩) 1 1:Value),[byteI (within n 0 100000)])].map (·.2))=hashK n from rfl]
 generalize hashK n=x
 refine wB ?_;exact Fin.ret (OwnB (.slice ad x.length c) x::R) rfl zE ⟨ad,c,rfl,rfl⟩
theorem kSeed_spec (R:List Res) (e:World) (n:Int) (hn:-9223372036854775808≤n∧n≤9223372036854775807) :
 Ct Tryz.prog 13 #[.int .i64 n] e R (fun v' L'=>∃ ad c,v'=.slice ad (seedK n).length c∧L'=OwnB (.slice ad (seedK n).length c) (seedK n)::R):=by
 refine Ct.enter (args:=[_]) Tryz.func13 rfl Tryz.ntmps13 Tryz.results13 rfl ?_;refine wB ?_;refine O.call rfl rfl (within_spec _ e n 0 1000 hn zo) ?_;rintro _ _ ⟨rfl,rfl⟩
 (repeat (refine wA ?_;intros))
 rw [byteI_spec]
 (repeat (refine wA ?_;intros))
 rename_i g1 g2
 refine O.call rfl rfl (refTagged_spec _ e 99 _ [(.slice (some ⟨g1,0,none⟩) 1 1,[byteI ((within n 0 1000).tmod 5)])] (RdSl.blk .zero rfl zl) (fun a ha=>by
  rw [List.mem_singleton.1 ha]
  exact RdSl.blk (.succ .zero) rfl zl) (fun a ha=>by
  rw [List.mem_singleton.1 ha]
  show 1≤1000000
  decide) (by simp)) ?_
 rintro _ _ ⟨ad,c,rfl,rfl⟩;rw [show tagP 99 ([((.slice (some ⟨g1,0,none⟩) 1 1:Value),[byteI ((within n 0 1000).tmod 5)])].map (·.2))=seedK n from rfl]
 generalize seedK n=x
 refine wB ?_;exact Fin.ret (OwnB (.slice ad x.length c) x::R) rfl zE ⟨ad,c,rfl,rfl⟩
theorem hashK_length (n:Int):(hashK n).length=32:=tagP_length _ _
theorem seedK_length (n:Int):(seedK n).length=32:=tagP_length _ _
def names4:List (List UInt8):=[[112,117,109,112],[118,97,108,118,101],[97],[103,97,117,103,101,111,102,116,104,101,108,111,110,103,101,115,116,110,97,109]]
def manK (n v f:Int):Man:=⟨names4.getD ((within n 0 1000).tmod 4).toNat [],(1+(within v 0 100000).tmod 9).toNat,hashK (f.tmod 4),[byteI f]⟩
theorem manK_right (n v f:Int):(manK n v f).right∧(manK n v f).ver<4294967296:=by
 have h1:=within_bounds n 0 1000 zo;have h2:=within_bounds v 0 100000 zo;have h3:=Int.tmod_lt_of_pos (within n 0 1000) (show (0:Int)<4 by omega);have h4:=Int.tmod_nonneg 4 h1.1;have h5:=Int.tmod_lt_of_pos (within v 0 100000) (show (0:Int)<9 by omega);have h6:=Int.tmod_nonneg 9 h2.1;refine ⟨⟨?_,?_,hashK_length _,?_⟩,?_⟩
 ·unfold manK;dsimp only
  generalize ((within n 0 1000).tmod 4)=k at *
  rcases (show k=0∨k=1∨k=2∨k=3 by omega) with rfl|rfl|rfl|rfl<;>decide
 ·unfold manK;dsimp only;omega
 ·unfold manK;simp
 ·unfold manK;dsimp only;omega
def itemK (n v f:Int):List UInt8:=encM (manK n v f)
abbrev names4C:List Value:=[.string (str [112,117,109,112]),.string (str [118,97,108,118,101]),.string (str [97]),.string (str [103,97,117,103,101,111,102,116,104,101,108,111,110,103,101,115,116,110,97,109])]
def ptrNames (v:Value) (_:Nat→Value):List Res:=match v with|.pointer (some ⟨g,_,_⟩)=>[Blk g names4C 9 (0,0)]|_=>[]
def manBlkK (m:Man) (v:Value) (_:Nat→Value):List Res:=match v with|.agg #[_,_,vf,.slice (some ⟨g,_,_⟩) _ _]=>[OwnB vf m.fw,Blk g (m.notes.map u8) tU8 (0,0)]|_=>[]
theorem kMan_spec (R:List Res) (e:World) (n v f:Int) (hn:-9223372036854775808≤n∧n≤9223372036854775807) (hv:-9223372036854775808≤v∧v≤9223372036854775807) (hf:-9223372036854775808≤f∧f≤9223372036854775807) :
 Ct Tryz.prog 32 #[.int .i64 n,.int .i64 v,.int .i64 f] e R (fun v' L'=>∃ (M:Res) (vf vn:Value),v'=.agg (manC (manK n v f) vf vn).toArray∧RdB [M] vf (manK n v f).fw∧RdB [M] vn (manK n v f).notes∧L'=M::R):=by
 have h1:=within_bounds n 0 1000 zo;have h2:=within_bounds v 0 100000 zo;have h3:=Int.tmod_lt_of_pos (within n 0 1000) (show (0:Int)<4 by omega);have h4:=Int.tmod_nonneg 4 h1.1;have h5:=Int.tmod_lt_of_pos (within v 0 100000) (show (0:Int)<9 by omega);have h6:=Int.tmod_nonneg 9 h2.1;have h7:=Int.tmod_lt_of_pos f (show (0:Int)<4 by omega)
 have h8:-4<f.tmod 4:=by
  rcases Int.le_total 0 f with h0|h0
  ·have:=Int.tmod_nonneg 4 h0;omega
  ·have h3:=Int.tmod_lt_of_pos (-f) (show 0<(4:Int) by omega);rw [Int.neg_tmod] at h3;omega
 refine Ct.enterC (args:=[_,_,_]) Tryz.func32 rfl Tryz.ntmps32 Tryz.results32 rfl ?_
 (repeat (refine wA ?_;intros))
 rename_i g2;refine A.begin (id:=1) [19] (Blk g2 man0C 67 (0,0)::R) Tryz.mixed ?_;refine tk 0 _ rfl (Val.sliceS (i:=20) (l:=[103,97,117,103,101,111,102,116,104,101,108,111,110,103,101,115,116,110,97,109,101]) rfl rfl (by decide)) ?_;refine tM 2 ?_;refine tM 7 ?_;refine tM 12 ?_
 (refine tk 13 _ rfl (Val.rem rfl rfl zo) ?_;refine tM 15 ?_;refine tk 16 _ rfl (Val.convInt rfl) ?_)
 rw [byteI_spec];obtain ⟨k,hk⟩:∃ k:Nat,(within n 0 1000).tmod 4=(k:Int):=⟨((within n 0 1000).tmod 4).toNat,by omega⟩
 have hk4:k<4:=by omega
 have hnm:∃ s,names4C[k]?=some (.string (str s))∧s=(manK n v f).name:=by
  unfold manK;rw [hk,Int.toNat_natCast];rcases (show k=0∨k=1∨k=2∨k=3 by omega) with rfl|rfl|rfl|rfl<;>exact ⟨_,rfl,rfl⟩
 obtain ⟨nm,hnm,hnm2⟩:=hnm;have hver:1+(within v 0 100000).tmod 9=(((manK n v f).ver:Nat):Int):=by unfold manK;dsimp only;omega
 have hver2:=(manK_right n v f).2;have hfw:hashK (f.tmod 4)=(manK n v f).fw:=rfl;have hno:[byteI f]=(manK n v f).notes:=rfl;have hnol:(manK n v f).notes.length=1:=rfl
 generalize manK n v f=m at *
 refine A.dagE (n:=1) [
  eLit 1 8 0 9 names4C,
  ePure 3 10 [] (.int .i64 (within n 0 1000)),
  ePure 4 11 [3] (.int .i64 (k:Int)),
  ⟨5,12,[1,4],[0],fun v _=>∃ g,v=.pointer (some ⟨g,k,none⟩),[(1,ptrNames)]⟩,
  ⟨6,13,[5],[1],fun v _=>v=.string (str m.name),[]⟩,
  ePure 8 15 [] (.int .i64 (within v 0 100000)),
  ePure 9 16 [8] (.int .i64 ((within v 0 100000).tmod 9)),
  ePure 10 17 [9] (.int .i64 ((m.ver:Nat):Int)),
  ePure 11 18 [10] (.int .u32 ((m.ver:Nat):Int)),
  ⟨14,21,[],[],fun v _=>∃ ad c,v=.slice ad m.fw.length c,[(2,fun v _=>[OwnB v m.fw])]⟩,
  eLit 17 24 3 tU8 (m.notes.map u8),
  ⟨18,25,[6,11,14,17],[2,3],fun v _=>∃ ad c g,v=.agg (manC m (.slice ad m.fw.length c) (.slice (some ⟨g,0,none⟩) 1 1)).toArray,[(4,manBlkK m)]⟩] 12 rfl zK zK ?_ zE ?_
 ·refine eall_cons ?_ (eall_cons ?_ (eall_cons ?_ (eall_cons ?_ (eall_cons ?_ (eall_cons ?_ (eall_cons ?_ (eall_cons ?_ (eall_cons ?_ (eall_cons ?_ (eall_cons ?_ (eall_cons ?_ eall_nil)))))))))))
  ·refine eLit_ok (z:=.string (str [])) (len:=4) (parts:=[(0,.const (.string (str [112,117,109,112]))),(1,.const (.string (str [118,97,108,118,101]))),(2,.const (.string (str [97]))),(3,.tmp 7)]) (vs:=[(0,.string (str [112,117,109,112])),(1,.string (str [118,97,108,118,101])),(2,.string (str [97])),(3,.string (str [103,97,117,103,101,111,102,116,104,101,108,111,110,103,101,115,116,110,97,109]))]) rfl (.inl rfl) rfl rfl (fun σr h=>?_) rfl rfl zQ rfl rfl;have s:=h 7 _ rfl;simp only [evp,ev,s]
   rfl
  ·refine ⟨_,rfl,.inl rfl,fun V σr M h3 hy=>?_⟩;have s:=h3 9 _ rfl;refine Do.ent2 (show Ent _ (M++(Blk g2 man0C 67 (0,0)::R)) from Ent.rfl) ?_;refine Do.call (xs:=[.tmp 9,.const (.int .i64 0),.const (.int .i64 1000)]) (vs:=[.int .i64 n,.int .i64 0,.int .i64 1000]) (by simp [evs,ev,s]) rfl (within_spec _ e n 0 1000 hn zo) ?_;rintro _ _ ⟨rfl,rfl⟩;exact ⟨_,rfl,rfl,Ent.rfl⟩
  ·refine ePure_ok rfl (.inl rfl) rfl rfl fun V σr L h3' hy _=>?_
   obtain ⟨s,hv0⟩:=hy _ (List.mem_of_getElem? (i:=1) rfl) (List.mem_of_getElem? (i:=0) rfl) (slotB rfl);dsimp only at s hv0
   rw [hv0] at s
   rw [← hk];exact Val.rem s rfl (by decide)
  ·refine ⟨_,rfl,.inl rfl,fun V σr M h3' hy=>?_⟩;obtain ⟨s1,g,hv1⟩:=hy _ (List.mem_of_getElem? (i:=0) rfl) (List.mem_of_getElem? (i:=0) rfl) (slotB rfl);obtain ⟨s4,hv4⟩:=hy _ (List.mem_of_getElem? (i:=2) rfl) (List.mem_of_getElem? (i:=1) rfl) (slotB rfl);dsimp only at s1 hv1 s4 hv4
   refine Do.ent2 (show Ent _ ((litCells 9 names4C (V 1) V++[])++(M++(Blk g2 man0C 67 (0,0)::R))) from Ent.rfl) ?_;rw [hv1] at s1 ⊢
   rw [hv4] at s4
   exact Do.val (Val.indexAddr1 s1 s4 (by show k<4;omega)) rfl ⟨_,rfl,⟨g,by simp⟩,Ent.rfl⟩
  ·refine ⟨_,rfl,.inl rfl,fun V σr M h3' hy=>?_⟩;obtain ⟨s5,g,hv5⟩:=hy _ (List.mem_of_getElem? (i:=3) rfl) (List.mem_of_getElem? (i:=0) rfl) (slotB rfl);dsimp only at s5 hv5
   refine Do.ent2 (show Ent _ ((ptrNames (V 5) V++[])++(M++(Blk g2 man0C 67 (0,0)::R))) from Ent.rfl) ?_;rw [hv5] at s5 ⊢
   exact Do.val (Val.load s5 (by rw [← hnm2];exact Rd.blk .zero (by rw [nth_eq];exact hnm))) rfl ⟨_,rfl,rfl,Ent.drop Ent.rfl⟩
  ·refine ⟨_,rfl,.inl rfl,fun V σr M h3' hy=>?_⟩;have s:=h3' 14 _ rfl;refine Do.ent2 (show Ent _ (M++(Blk g2 man0C 67 (0,0)::R)) from Ent.rfl) ?_;refine Do.call (xs:=[.tmp 14,.const (.int .i64 0),.const (.int .i64 100000)]) (vs:=[.int .i64 v,.int .i64 0,.int .i64 100000]) (by simp [evs,ev,s]) rfl (within_spec _ e v 0 100000 hv zo) ?_;rintro _ _ ⟨rfl,rfl⟩;exact ⟨_,rfl,rfl,Ent.rfl⟩
  ·refine ePure_ok rfl (.inl rfl) rfl rfl fun V σr L h3' hy _=>?_
   obtain ⟨s,hv0⟩:=hy _ (List.mem_of_getElem? (i:=5) rfl) (List.mem_of_getElem? (i:=0) rfl) (slotB rfl);dsimp only at s hv0
   rw [hv0] at s
   exact Val.rem s rfl (by decide)
  ·refine ePure_ok rfl (.inl rfl) rfl rfl fun V σr L h3' hy _=>?_
   obtain ⟨s,hv0⟩:=hy _ (List.mem_of_getElem? (i:=6) rfl) (List.mem_of_getElem? (i:=0) rfl) (slotB rfl);dsimp only at s hv0
   rw [hv0] at s
   rw [← hver];exact Val.add64 rfl s zo
  ·refine ePure_ok rfl (.inl rfl) rfl rfl fun V σr L h3' hy _=>?_
   obtain ⟨s,hv0⟩:=hy _ (List.mem_of_getElem? (i:=7) rfl) (List.mem_of_getElem? (i:=0) rfl) (slotB rfl);dsimp only at s hv0
   rw [hv0] at s
   exact Val.convIntE s (wrap_u32 zo zo)
  ·refine ⟨_,rfl,.inl rfl,fun V σr M h3' hy=>?_⟩;refine Do.ent2 (show Ent _ (M++(Blk g2 man0C 67 (0,0)::R)) from Ent.rfl) ?_;have hk:=kHash_spec (M++(Blk g2 man0C 67 (0,0)::R)) e (f.tmod 4) zo;rw [hfw] at hk
   refine Do.call (evs1 (h3' 20 _ rfl)) rfl hk ?_;rintro _ _ ⟨ad,c,rfl,rfl⟩;exact ⟨_,rfl,⟨ad,c,rfl⟩,Ent.rfl⟩
  ·rw [← hno];refine eLit_ok (z:=.int .u8 0) (len:=1) (parts:=[(0,.tmp 23)]) (vs:=[(0,u8 (byteI f))]) rfl (.inl rfl) rfl rfl (fun σr h=>?_) rfl rfl zQ rfl rfl;have s:=h 23 _ rfl;simp only [evp,ev,s]
  ·refine ⟨_,rfl,.inl rfl,fun V σr M h3' hy=>?_⟩;obtain ⟨s6,hv6⟩:=hy _ (List.mem_of_getElem? (i:=4) rfl) (List.mem_of_getElem? (i:=0) rfl) (slotB rfl);obtain ⟨s11,hv11⟩:=hy _ (List.mem_of_getElem? (i:=8) rfl) (List.mem_of_getElem? (i:=1) rfl) (slotB rfl);obtain ⟨s14,ad,c,hv14⟩:=hy _ (List.mem_of_getElem? (i:=9) rfl) (List.mem_of_getElem? (i:=2) rfl) (slotB rfl);obtain ⟨s17,g,hv17⟩:=hy _ (List.mem_of_getElem? (i:=10) rfl) (List.mem_of_getElem? (i:=3) rfl) (slotB rfl);dsimp only at s6 hv6 s11 hv11 s14 hv14 s17 hv17
   refine Do.ent2 (show Ent _ (([OwnB (V 14) m.fw]++(litCells tU8 (m.notes.map u8) (V 17) V++[]))++(M++(Blk g2 man0C 67 (0,0)::R))) from Ent.rfl) ?_;rw [hv6] at s6
   rw [hv11] at s11
   rw [hv14] at s14 ⊢
   rw [List.length_map,hnol] at hv17
   rw [hv17] at s17 ⊢
   refine Do.val (v:=.agg (manC m (.slice ad m.fw.length c) (.slice (some ⟨g,0,none⟩) 1 1)).toArray) (Val.build (parts:=[(0,.tmp 13),(1,.tmp 18),(2,.tmp 21),(3,.tmp 24)]) (vs:=[(0,.string (str m.name)),(1,.int .u32 (m.ver:Int)),(2,.slice ad m.fw.length c),(3,.slice (some ⟨g,0,none⟩) 1 1)]) (by simp [evp,ev,s6,s11,s14,s17]) (by simp [Instr.fill,Value.cells])) rfl ⟨_,rfl,⟨ad,c,g,rfl⟩,Ent.rfl⟩
 intro V hV;obtain ⟨ad,c,g,v18⟩:=hV _ (List.mem_of_getElem? (i:=11) rfl);clear hV;dsimp only at v18
 refine A.ent1 (show Ent _ ((manBlkK m (V 18) V++[])++(Blk g2 man0C 67 (0,0)::R)) from Ent.rfl) ?_;rw [v18];refine A.ent1 (show Ent _ (OwnB (.slice ad m.fw.length c) m.fw::Blk g (m.notes.map u8) tU8 (0,0)::Blk g2 man0C 67 (0,0)::R) from Ent.rfl) ?_;simp only [slotsE,Nat.reduceLT,if_true,List.cons_append,List.nil_append];rw [v18]
 ((refine tO 19 ?_;refine zg ?_;refine ⟨zN,?_⟩))
 refine A.done zK ?_;refine wB ?_;apply Fin.retC
 ·exact zV
 refine ⟨All [OwnB (.slice ad m.fw.length c) m.fw,Blk g (m.notes.map u8) tU8 (0,0)]::R,Ent.trans (show Ent _ (OwnB (.slice ad m.fw.length c) m.fw::Blk g (m.notes.map u8) tU8 (0,0)::R) from zE) (all_in (M:=[_,_])),_,_,_,rfl,rdb_all (RdSl.own .zero),rdb_all ?_,rfl⟩;unfold RdB;rw [hnol];exact RdSl.blk (.succ .zero) (by rw [List.length_map,hnol]) zl
theorem kItem_spec (R:List Res) (e:World) (n v f:Int) (hn:-9223372036854775808≤n∧n≤9223372036854775807) (hv:-9223372036854775808≤v∧v≤9223372036854775807) (hf:-9223372036854775808≤f∧f≤9223372036854775807) :
 Ct Tryz.prog 14 #[.int .i64 n,.int .i64 v,.int .i64 f] e R (fun v' L'=>∃ ad c,v'=.slice ad (itemK n v f).length c∧L'=OwnB (.slice ad (itemK n v f).length c) (itemK n v f)::R):=by
 refine Ct.enter (args:=[_,_,_]) Tryz.func14 rfl Tryz.ntmps14 Tryz.results14 rfl ?_;refine wB ?_;refine O.call rfl rfl (kMan_spec _ e n v f hn hv hf) ?_;rintro _ _ ⟨M,vf,vn,rfl,hf1,hn1,rfl⟩;refine wB ?_;refine O.call rfl rfl (refEncM_spec _ e vf vn (manK n v f) (hf1.ent zE) (hn1.ent zE) (manK_right n v f).1 (manK_right n v f).2) ?_;rintro _ _ ⟨ad,c,rfl,rfl⟩;rw [show encM (manK n v f)=itemK n v f from rfl]
 generalize itemK n v f=x
 refine wB ?_;exact Fin.ret (OwnB (.slice ad x.length c) x::R) rfl zE ⟨ad,c,rfl,rfl⟩
end Go.Proofs
namespace Go.Proofs
attribute [local irreducible] Bs.Val Bs.Do Bs.O Bs.W Bs.Fin Bs.A Bs.Ct Bs.RdSl Bs.Rd Bs.Sat Bs.Blk Bs.Ob Bs.Own Bs.View Bs.Ent Bs.Ex Bs.All Bs.Pu Bs.Base Bs.sepL Bs.RdA
open Go.Bs
open Tryz
variable (R:List Res) (e:World)
def encAll (l:List Txt):List UInt8:=(l.map fun a=>enc a.2).flatten
theorem encAll_take {l:List Txt} {i:Nat} (h:i<l.length):encAll (l.take (i+1))=encAll (l.take i)++enc (l[i]'h).2:=by
 simp only [encAll];rw [List.take_succ_eq_append_getElem h];simp only [List.map_append,List.map_cons,List.map_nil,List.flatten_append,List.flatten_cons,List.flatten_nil,List.append_nil]
theorem encAll_mono (l:List Txt) (i:Nat):(encAll (l.take i)).length≤(encAll l).length:=by
 conv=>rhs;rw [← List.take_append_drop i l]
 simp only [encAll,List.map_append,List.flatten_append,List.length_append]
 omega
theorem each_spec (g:Nat) (l:List UInt8) (v:Value) (ts:List Txt) (k:Nat) (hv:RdSl R 1 v ts.length (ts.map (·.1))) (ht:Txts R ts) (hk:k≤ts.length)
 (hl:l.length+(encAll (ts.take k)).length≤140737488355328) (hs:∀ a∈ts.take k,a.2.length≤65535) (hb:∀ h:k<ts.length,65535<(ts[k]'h).2.length) :
 Ct prog 149 #[v,.func (.func 120) #[pt g] #[]] e (Writer g l::R) (fun v' L'=>v'=.bool (decide (k=ts.length))∧L'=Writer g (l++encAll (ts.take k))::R):=by
 refine Ct.of_sep (hv.tail.shape zo) ?_;rintro ⟨⟨ad,cap,rfl,h3,h4,h5,h6⟩,_⟩;simp only [maxLen] at h4
 refine Ct.enter (args:=[_,_]) func149 rfl ntmps149 results149 rfl ?_;refine wB ?_;refine W.loop (ι:=Nat) (fun i=>[(1,.func (.func 120) #[pt g] #[]),(7,.slice ad ts.length cap),(8,.int .i64 ts.length),(9,.int .i64 i)])
  (fun i=>Writer g (l++encAll (ts.take i))::R) (fun i=>i≤k) (fun i=>k - i) 0 (Nat.zero_le _) (sub_cons rfl (sub_cons rfl (sub_cons rfl (sub_cons rfl sub_nil)))) (by simp [encAll];exact Ent.rfl) ?_
 intro i hi
 by_cases hlt:i<ts.length
 ·rcases h6 with h6|⟨gl,ol,rfl⟩
  ·omega
  have hrd:Rd R ⟨gl,ol+i,none⟩ (ts[i]'hlt).1:=RdSl.elem hv (by rw [List.getElem?_map,List.getElem?_eq_getElem hlt];rfl);have ti:=ht _ (List.getElem_mem hlt)
  by_cases hik:i<k
  ·have hsi:=hs (ts[i]'hlt) (by rw [List.mem_take_iff_getElem];exact ⟨i,by omega,rfl⟩)
   have hm:(encAll (ts.take (i+1))).length≤(encAll (ts.take k)).length:=by
    have:=encAll_mono (ts.take k) (i+1)
    rwa [List.take_take,Nat.min_eq_left zo] at this
   rw [encAll_take hlt,List.length_append,enc_length] at hm
   refine wB ?_;refine O.callV (us:=[_]) (ws:=[]) rfl rfl rfl (bytes_spec _ e g _ (ts[i]'hlt).2 _ ti (by rw [List.length_append];omega) hsi) ?_;rintro _ _ ⟨rfl,rfl⟩;refine wB ?_;refine Fin.round (i+1) hik (by show k - (i+1)<k - i;omega) (sub_cons rfl (sub_cons rfl (sub_cons rfl (sub_cons rfl sub_nil)))) ?_;rw [encAll_take hlt,enc];simp only [List.append_assoc];exact Ent.rfl
  ·have hki:i=k:=by omega
   subst hki;refine wB ?_;refine O.callV (us:=[_]) (ws:=[]) rfl rfl rfl (bytes_long _ e g _ (ts[i]'hlt).2 _ ti (hb hlt)) ?_;rintro _ _ ⟨rfl,rfl⟩;refine wB ?_;exact Fin.ret _ rfl Ent.rfl ⟨by simp [show i≠ts.length by omega];rfl,rfl⟩
 ·have hki:i=k:=by omega
  subst hki;have:i=ts.length:=by omega
  subst this;refine wB ?_;exact Fin.ret _ rfl Ent.rfl ⟨by simp;rfl,rfl⟩
theorem eachW_spec (g:Nat) (l:List UInt8) (v:Value) (ts:List Txt) (k:Nat) (hv:RdSl R 1 v ts.length (ts.map (·.1))) (ht:Txts R ts) (hk:k≤ts.length)
 (hl:l.length+(encAll (ts.take k)).length≤140737488355328) (hs:∀ a∈ts.take k,a.2.length≤65535) (hb:∀ h:k<ts.length,65535<(ts[k]'h).2.length) :
 Ct prog 75 #[pt g,v] e (Writer g l::R) (fun v' L'=>v'=.bool (decide (k=ts.length))∧L'=Writer g (l++encAll (ts.take k))::R):=by
 refine Ct.enter (args:=[_,_]) func75 rfl ntmps75 results75 rfl ?_;refine wB ?_;refine O.call rfl rfl (each_spec R e g l v ts k hv ht hk hl hs hb) ?_;rintro _ _ ⟨rfl,rfl⟩;refine wB ?_;exact Fin.ret _ rfl Ent.rfl ⟨rfl,rfl⟩
structure DSt where
 b:List UInt8
 synced:Nat
 limit:Nat
 armed:Nat
 down:Bool
def DSt.ok (s:DSt):Prop:=s.b.length≤1048576∧s.limit≤1048576∧s.synced≤s.b.length∧s.armed≤9223372036854775807
def DiskAt (g:Nat) (s:DSt) (ad:Option Addr) (c:Nat):Res:=All [Blk g [.slice ad s.b.length c,.int .i64 s.synced,.int .i64 s.limit,.int .i64 s.armed,.bool s.down] 226 (0,0),OwnB (.slice ad s.b.length c) s.b]
def Disk (g:Nat) (s:DSt):Res:=Ex fun ad=>Ex fun c=>DiskAt g s ad c
theorem disk_out {g:Nat} {s:DSt} {R:List Res} {P:Program} {f:FuncId} {args:Array Value} {e:World} {Post:Value→List Res→Prop}
 (h:∀ ad c,Ct P f args e (Blk g [.slice ad s.b.length c,.int .i64 s.synced,.int .i64 s.limit,.int .i64 s.armed,.bool s.down] 226 (0,0)::OwnB (.slice ad s.b.length c) s.b::R) Post):Ct P f args e (Disk g s::R) Post :=
 Ct.ex .zero fun ad=>Ct.ex .zero fun c=>(h ad c).ent all_out
theorem disk_outO {g:Nat} {s:DSt} {R:List Res} {P:Program} {N:Fr} {all:Array Oper} {l:List Oper} {Q:Goal} {σ:Env} {e:World}
 (h:∀ ad c,O P N all l Q σ e (Blk g [.slice ad s.b.length c,.int .i64 s.synced,.int .i64 s.limit,.int .i64 s.armed,.bool s.down] 226 (0,0)::OwnB (.slice ad s.b.length c) s.b::R)):O P N all l Q σ e (Disk g s::R) :=
 O.ex .zero fun ad=>O.ex .zero fun c=>(h ad c).ent all_out
theorem disk_in {g c:Nat} {ad:Option Addr} {s:DSt} {R:List Res}:Ent (Blk g [.slice ad s.b.length c,.int .i64 s.synced,.int .i64 s.limit,.int .i64 s.armed,.bool s.down] 226 (0,0)::OwnB (.slice ad s.b.length c) s.b::R) (Disk g s::R) :=
 Ent.trans (all_in (M:=[_,_])) (Ent.trans (ex_in (f:=fun c=>DiskAt g s ad c) c) (ex_in (f:=fun ad=>Ex fun c=>DiskAt g s ad c) ad))
theorem disk_in' {g c sy li ar:Nat} {dn:Bool} {ad:Option Addr} {b:List UInt8} {R:List Res}:Ent (Blk g [.slice ad b.length c,.int .i64 (sy:Int),.int .i64 (li:Int),.int .i64 (ar:Int),.bool dn] 226 (0,0)::OwnB (.slice ad b.length c) b::R) (Disk g ⟨b,sy,li,ar,dn⟩::R):=disk_in (s:=⟨b,sy,li,ar,dn⟩)
theorem dnew_spec (n:Nat) (hn:n≤1048576) :
 Ct prog 63 #[.int .i64 n] e R (fun v' L'=>∃ g,v'=.tuple #[pt g,.int .i64 0]∧L'=Disk g ⟨[],0,n,0,false⟩::R):=by
 refine Ct.enter (args:=[_]) func63 rfl ntmps63 results63 rfl ?_
 (repeat (refine wA ?_;intros))
 exact Fin.ret _ rfl ((Ent.cons (own_nil tU8 1)).trans (disk_in (s:=⟨[],0,n,0,false⟩))) ⟨_,rfl,rfl⟩
def DSt.pow (s:DSt):DSt:=if s.armed > 0 then { s with armed:=s.armed - 1,down:=decide (s.armed - 1=0) } else s
theorem dpower_spec (g:Nat) (s:DSt) (h:s.ok) :
 Ct prog 224 #[pt g] e (Disk g s::R) (fun v' L'=>v'=.bool (!s.pow.down)∧L'=Disk g s.pow::R):=by
 obtain ⟨b,sy,li,ar,dn⟩:=s;obtain ⟨h1,h2,h3,h4⟩:=h;refine disk_out fun ad c=>?_
 refine Ct.enter (args:=[_]) func224 rfl ntmps224 results224 rfl ?_;dsimp only at h1 h2 h3 h4 ⊢
 match ar with
 | 0 =>
  have h0:((0:Nat):Int)=0:=rfl
  cases dn <;>
  ·refine wB ?_;exact Fin.ret _ rfl (disk_in (s:=⟨b,sy,li,0,_⟩)) ⟨rfl,rfl⟩
 | 1 =>
  have h0:((1:Nat):Int)=1:=rfl;refine wB ?_;exact Fin.ret _ rfl (disk_in (s:=⟨b,sy,li,0,true⟩)) ⟨rfl,rfl⟩
 | k+2 =>
  have h0:((k+2:Nat):Int) - 1=((k+1:Nat):Int):=by omega
  refine wB ?_;rw [h0];exact Fin.ret _ rfl (disk_in (s:=⟨b,sy,li,k+1,false⟩)) ⟨rfl,rfl⟩
theorem DSt.pow_ok {s:DSt} (h:s.ok):s.pow.ok:=by
 unfold DSt.ok at *
 unfold DSt.pow
 split
 ·dsimp only;omega
 ·exact h
theorem DSt.pow_b (s:DSt):s.pow.b=s.b∧s.pow.limit=s.limit∧s.pow.synced=s.synced:=by
 unfold DSt.pow;split<;>exact ⟨rfl,rfl,rfl⟩
def DSt.app (s:DSt) (m:List UInt8):DSt:=if s.down=true∨s.limit<s.b.length+m.length then s.pow else { s.pow with b:=s.b++m }
def DSt.appE (s:DSt) (m:List UInt8):Int:=if s.down=true∨s.limit<s.b.length+m.length then 13 else if s.pow.down then 13 else 0
theorem dappend_spec (g:Nat) (s:DSt) (m:List UInt8) (v:Value) (h:s.ok) (hv:RdB R v m) (hm:m.length≤140737488351232) :
 Ct prog 227 #[pt g,v] e (Disk g s::R) (fun v' L'=>v'=.int .i64 (s.appE m)∧L'=Disk g (s.app m)::R):=by
 refine Ct.of_sep (RdSl.shape (RdB.tail hv) zo) ?_;rintro ⟨⟨ad1,c1,rfl,g3,g4,g5,g6⟩,_⟩;have hok:=DSt.pow_ok h;have hb:=DSt.pow_b s;refine disk_out fun ad c=>?_
 refine Ct.enter (args:=[_,_]) func227 rfl ntmps227 results227 rfl ?_;refine wB ?_;refine O.ent1 (disk_in (s:=s)) ?_;refine O.call rfl rfl (dpower_spec R e g s h) ?_;rintro _ _ ⟨rfl,rfl⟩;clear ad c;refine disk_outO fun ad c=>?_
 generalize hp:s.pow=p at *
 obtain ⟨b,sy,li,ar,dn⟩:=p;obtain ⟨sb,ss,sl,sa,sd⟩:=s;dsimp only at hb
 obtain ⟨rfl,rfl,rfl⟩:=hb;obtain ⟨h1,h2,h3,h4⟩:=hok;dsimp only at h1 h2 h3 h4 ⊢
 cases sd with
 | true =>
  (repeat' first|refine Zb ?_|apply Zc|apply Zd|apply Ze|apply Zf|refine Yz ?_|apply YE|apply YF|(refine A.start (id:=3) [] mixed ?_;all_goals (refine tM 0 ?_);all_goals (refine tM 1 ?_);all_goals (first|refine tkG 2 _ rfl (Val.move rfl) ?_|refine A.takeN 2 rfl rfl zK Ent.rfl rfl ?_);all_goals (first|refine tkG 3 _ rfl (Val.len rfl) ?_|refine A.takeN 3 rfl rfl zK Ent.rfl rfl ?_);all_goals (first|refine tkG 4 _ rfl (Val.move rfl) ?_|refine A.takeN 4 rfl rfl zK Ent.rfl rfl ?_);all_goals (first|refine tkG 5 _ rfl (Val.nilCheck rfl) ?_|refine A.takeN 5 rfl rfl zK Ent.rfl rfl ?_);all_goals (first|refine tkG 6 _ rfl (Val.fieldAddr rfl) ?_|refine A.takeN 6 rfl rfl zK Ent.rfl rfl ?_);all_goals (first|refine tkG 7 _ rfl (Val.load rfl zR) ?_|refine A.takeN 7 rfl rfl zK Ent.rfl rfl ?_);all_goals (first|refine tkG 8 _ rfl (Val.move rfl) ?_|refine A.takeN 8 rfl rfl zK Ent.rfl rfl ?_);all_goals (first|refine tkG 9 _ rfl (Val.nilCheck rfl) ?_|refine A.takeN 9 rfl rfl zK Ent.rfl rfl ?_);all_goals (first|refine tkG 10 _ rfl (Val.fieldAddr rfl) ?_|refine A.takeN 10 rfl rfl zK Ent.rfl rfl ?_);all_goals (first|refine tkG 11 _ rfl (Val.load rfl zR) ?_|refine A.takeN 11 rfl rfl zK Ent.rfl rfl ?_);all_goals (first|refine tkG 12 _ rfl (Val.len rfl) ?_|refine A.takeN 12 rfl rfl zK Ent.rfl rfl ?_);all_goals (first|refine tkG 13 _ rfl (Val.sub64 rfl rfl zo) ?_|refine A.takeN 13 rfl rfl zK Ent.rfl rfl ?_);all_goals (first|refine tkG 14 (.bool true) rfl (Val.yes (Val.gtr rfl rfl) zy) ?_|refine tkG 14 (.bool false) rfl (Val.no (Val.gtr rfl rfl) zn) ?_|refine A.takeN 14 rfl rfl zK Ent.rfl rfl ?_);all_goals (first|refine tk 15 _ rfl (Val.pick_t rfl rfl) ?_|refine tk 15 _ rfl (Val.pick_f rfl rfl) ?_);all_goals (refine A.done zK ?_)))
  exact Fin.ret _ rfl disk_in' ⟨by simp [DSt.appE];rfl,by simp [DSt.app,hp]⟩
 | false =>
  by_cases hl:li<b.length+m.length
  ·(repeat' first|refine Zb ?_|apply Zc|apply Zd|apply Ze|apply Zf|refine Yz ?_|apply YE|apply YF|(refine A.start (id:=3) [] mixed ?_;all_goals (refine tM 0 ?_);all_goals (refine tM 1 ?_);all_goals (first|refine tkG 2 _ rfl (Val.move rfl) ?_|refine A.takeN 2 rfl rfl zK Ent.rfl rfl ?_);all_goals (first|refine tkG 3 _ rfl (Val.len rfl) ?_|refine A.takeN 3 rfl rfl zK Ent.rfl rfl ?_);all_goals (first|refine tkG 4 _ rfl (Val.move rfl) ?_|refine A.takeN 4 rfl rfl zK Ent.rfl rfl ?_);all_goals (first|refine tkG 5 _ rfl (Val.nilCheck rfl) ?_|refine A.takeN 5 rfl rfl zK Ent.rfl rfl ?_);all_goals (first|refine tkG 6 _ rfl (Val.fieldAddr rfl) ?_|refine A.takeN 6 rfl rfl zK Ent.rfl rfl ?_);all_goals (first|refine tkG 7 _ rfl (Val.load rfl zR) ?_|refine A.takeN 7 rfl rfl zK Ent.rfl rfl ?_);all_goals (first|refine tkG 8 _ rfl (Val.move rfl) ?_|refine A.takeN 8 rfl rfl zK Ent.rfl rfl ?_);all_goals (first|refine tkG 9 _ rfl (Val.nilCheck rfl) ?_|refine A.takeN 9 rfl rfl zK Ent.rfl rfl ?_);all_goals (first|refine tkG 10 _ rfl (Val.fieldAddr rfl) ?_|refine A.takeN 10 rfl rfl zK Ent.rfl rfl ?_);all_goals (first|refine tkG 11 _ rfl (Val.load rfl zR) ?_|refine A.takeN 11 rfl rfl zK Ent.rfl rfl ?_);all_goals (first|refine tkG 12 _ rfl (Val.len rfl) ?_|refine A.takeN 12 rfl rfl zK Ent.rfl rfl ?_);all_goals (first|refine tkG 13 _ rfl (Val.sub64 rfl rfl zo) ?_|refine A.takeN 13 rfl rfl zK Ent.rfl rfl ?_);all_goals (first|refine tkG 14 (.bool true) rfl (Val.yes (Val.gtr rfl rfl) zy) ?_|refine tkG 14 (.bool false) rfl (Val.no (Val.gtr rfl rfl) zn) ?_|refine A.takeN 14 rfl rfl zK Ent.rfl rfl ?_);all_goals (first|refine tk 15 _ rfl (Val.pick_t rfl rfl) ?_|refine tk 15 _ rfl (Val.pick_f rfl rfl) ?_);all_goals (refine A.done zK ?_)))
   exact Fin.ret _ rfl disk_in' ⟨by simp [DSt.appE,hl];rfl,by simp [DSt.app,hp,hl]⟩
  ·(repeat' first|refine Za ?_|refine Zb ?_|apply Zc|apply Zd|apply Ze|apply Zf|refine Zg ?_|refine Zh ?_|refine Zi ?_|refine YA ?_|apply YC|(refine A.start (id:=3) [] mixed ?_;all_goals (refine tM 0 ?_);all_goals (refine tM 1 ?_);all_goals (first|refine tkG 2 _ rfl (Val.move rfl) ?_|refine A.takeN 2 rfl rfl zK Ent.rfl rfl ?_);all_goals (first|refine tkG 3 _ rfl (Val.len rfl) ?_|refine A.takeN 3 rfl rfl zK Ent.rfl rfl ?_);all_goals (first|refine tkG 4 _ rfl (Val.move rfl) ?_|refine A.takeN 4 rfl rfl zK Ent.rfl rfl ?_);all_goals (first|refine tkG 5 _ rfl (Val.nilCheck rfl) ?_|refine A.takeN 5 rfl rfl zK Ent.rfl rfl ?_);all_goals (first|refine tkG 6 _ rfl (Val.fieldAddr rfl) ?_|refine A.takeN 6 rfl rfl zK Ent.rfl rfl ?_);all_goals (first|refine tkG 7 _ rfl (Val.load rfl zR) ?_|refine A.takeN 7 rfl rfl zK Ent.rfl rfl ?_);all_goals (first|refine tkG 8 _ rfl (Val.move rfl) ?_|refine A.takeN 8 rfl rfl zK Ent.rfl rfl ?_);all_goals (first|refine tkG 9 _ rfl (Val.nilCheck rfl) ?_|refine A.takeN 9 rfl rfl zK Ent.rfl rfl ?_);all_goals (first|refine tkG 10 _ rfl (Val.fieldAddr rfl) ?_|refine A.takeN 10 rfl rfl zK Ent.rfl rfl ?_);all_goals (first|refine tkG 11 _ rfl (Val.load rfl zR) ?_|refine A.takeN 11 rfl rfl zK Ent.rfl rfl ?_);all_goals (first|refine tkG 12 _ rfl (Val.len rfl) ?_|refine A.takeN 12 rfl rfl zK Ent.rfl rfl ?_);all_goals (first|refine tkG 13 _ rfl (Val.sub64 rfl rfl zo) ?_|refine A.takeN 13 rfl rfl zK Ent.rfl rfl ?_);all_goals (first|refine tkG 14 (.bool true) rfl (Val.yes (Val.gtr rfl rfl) zy) ?_|refine tkG 14 (.bool false) rfl (Val.no (Val.gtr rfl rfl) zn) ?_|refine A.takeN 14 rfl rfl zK Ent.rfl rfl ?_);all_goals (first|refine tk 15 _ rfl (Val.pick_t rfl rfl) ?_|refine tk 15 _ rfl (Val.pick_f rfl rfl) ?_);all_goals (refine A.done zK ?_)))
   refine O.do (Do.append rfl rfl rfl (.succ .zero) (RdSl.tail hv) rfl rfl u8_one zm zo fun ad' c' hv'=>?_)
   cases dn with
   | true =>
    refine wB ?_;refine Fin.ret _ rfl ?_ ⟨by simp [DSt.appE,hl,hp];rfl,by simp [DSt.app,hp,hl];rfl⟩;rw [← List.map_append,← List.length_append];exact Ent.trans (Ent.pull (.succ .zero) Ent.rfl) (disk_in (s:=⟨b++m,sy,li,ar,true⟩))
   | false =>
    refine wB ?_;refine Fin.ret _ rfl ?_ ⟨by simp [DSt.appE,hl,hp];rfl,by simp [DSt.app,hp,hl];rfl⟩;rw [← List.map_append,← List.length_append];exact Ent.trans (Ent.pull (.succ .zero) Ent.rfl) (disk_in (s:=⟨b++m,sy,li,ar,false⟩))
theorem DSt.app_plain {b m:List UInt8} {sy li:Nat} (h:b.length+m.length≤li):DSt.app ⟨b,sy,li,0,false⟩ m=⟨b++m,sy,li,0,false⟩∧DSt.appE ⟨b,sy,li,0,false⟩ m=0:=by
 have h1:¬ li<b.length+m.length:=by omega
 simp [DSt.app,DSt.appE,DSt.pow,h1]
theorem DSt.app_ok {s:DSt} (h:s.ok) (m:List UInt8):(s.app m).ok:=by
 have h1:=DSt.pow_ok h;have h2:=DSt.pow_b s;unfold DSt.app
 split
 ·exact h1
 ·rename_i h3;obtain ⟨a,b,c,d⟩:=h1;refine ⟨?_,b,?_,d⟩
  ·simp only [List.length_append];have:=h.2.1
   simp at h3;omega
  ·simp only [List.length_append];rw [h2.1] at c;omega
def DSt.syn (s:DSt):DSt:=if s.pow.down then s.pow else { s.pow with synced:=s.b.length }
def DSt.synE (s:DSt):Int:=if s.pow.down then 13 else 0
theorem dsync_spec (g:Nat) (s:DSt) (h:s.ok) :
 Ct prog 228 #[pt g] e (Disk g s::R) (fun v' L'=>v'=.int .i64 s.synE∧L'=Disk g s.syn::R):=by
 have hok:=DSt.pow_ok h;have hb:=DSt.pow_b s;refine Ct.enter (args:=[_]) func228 rfl ntmps228 results228 rfl ?_;refine wB ?_;refine O.call rfl rfl (dpower_spec R e g s h) ?_;rintro _ _ ⟨rfl,rfl⟩;refine disk_outO fun ad c=>?_
 have e1:s.syn=if s.pow.down then s.pow else { s.pow with synced:=s.b.length }:=rfl
 have e2:s.synE=if s.pow.down then 13 else 0:=rfl
 generalize hp:s.pow=p at *
 obtain ⟨b,sy,li,ar,dn⟩:=p;obtain ⟨h1,h2,h3,h4⟩:=hok;dsimp only at h1 h2 h3 h4 hb e1 e2 ⊢
 obtain ⟨hb1,_,_⟩:=hb
 cases dn with
 | true =>
  rw [e1,e2];refine wB ?_;exact Fin.ret _ rfl disk_in' ⟨rfl,rfl⟩
 | false =>
  rw [e1,e2];refine wB ?_;refine Fin.ret _ rfl disk_in' ⟨rfl,?_⟩;rw [← hb1]
  rfl
def DSt.cut (s:DSt) (n:Int):DSt:=if s.down∨n<0∨(s.b.length:Int)<n then s else if s.pow.down then s.pow else { s.pow with b:=s.b.take n.toNat,synced:=n.toNat }
def DSt.cutE (s:DSt) (n:Int):Int:=if s.down then 13 else if n<0∨(s.b.length:Int)<n then 1 else if s.pow.down then 13 else 0
theorem dcut_spec (g:Nat) (s:DSt) (n:Int) (h:s.ok) :
 Ct prog 142 #[pt g,.int .i64 n] e (Disk g s::R) (fun v' L'=>v'=.int .i64 (s.cutE n)∧L'=Disk g (s.cut n)::R):=by
 have hok:=DSt.pow_ok h;have hb:=DSt.pow_b s;refine disk_out fun ad c=>?_
 refine Ct.enter (args:=[_,_]) func142 rfl ntmps142 results142 rfl ?_;obtain ⟨b,sy,li,ar,dn⟩:=s;dsimp only at hb ⊢
 cases dn with
 | true =>
  refine wB ?_;exact Fin.ret _ rfl disk_in' ⟨rfl,by simp [DSt.cut]⟩
 | false =>
  by_cases h0:n<0
  ·refine wB ?_;exact Fin.ret _ rfl disk_in' ⟨by simp [DSt.cutE,h0];rfl,by simp [DSt.cut,h0]⟩
  ·by_cases hn:(b.length:Int)<n
   ·refine wB ?_;exact Fin.ret _ rfl disk_in' ⟨by simp [DSt.cutE,hn];rfl,by simp [DSt.cut,hn]⟩
   ·refine wB ?_;refine O.ent1 disk_in' ?_;refine O.call rfl rfl (dpower_spec R e g ⟨b,sy,li,ar,false⟩ h) ?_;rintro _ _ ⟨rfl,rfl⟩;refine disk_outO fun ad c=>?_
    refine O.of_sep (ownB_cap (.succ .zero)) ?_;rintro ⟨_,_,hv,g1,g2⟩
    cases hv
    have e1:DSt.cut ⟨b,sy,li,ar,false⟩ n=if (DSt.pow ⟨b,sy,li,ar,false⟩).down then DSt.pow ⟨b,sy,li,ar,false⟩ else { DSt.pow ⟨b,sy,li,ar,false⟩ with b:=b.take n.toNat,synced:=n.toNat }:=by simp [DSt.cut,h0,hn]
    have e2:DSt.cutE ⟨b,sy,li,ar,false⟩ n=if (DSt.pow ⟨b,sy,li,ar,false⟩).down then 13 else 0:=by simp [DSt.cutE,h0,hn]
    rw [e1,e2];clear e1 e2
    generalize DSt.pow ⟨b,sy,li,ar,false⟩=p at *
    obtain ⟨b1,sy1,li1,ar1,dn1⟩:=p;obtain ⟨h1,h2,h3,h4⟩:=hok;dsimp only at h1 h2 h3 h4 hb g1 ⊢
    obtain ⟨rfl,rfl,rfl⟩:=hb;have hn2:n.toNat≤b1.length:=by omega
    have hn3:n=(n.toNat:Int):=by omega
    cases dn1 with
    | true =>
     refine wB ?_;exact Fin.ret _ rfl disk_in' ⟨rfl,rfl⟩
    | false =>
     refine wB ?_;refine Fin.ret _ rfl (Ent.trans ?_ (disk_in (ad:=ad) (c:=c) (s:=⟨b1.take n.toNat,n.toNat,li1,ar1,false⟩))) ⟨rfl,rfl⟩;have e3:(b1.take n.toNat).length=n.toNat:=by rw [List.length_take];omega
     have e4:=ownB_cut (R:=R) (ad:=ad) (c:=c) hn2;dsimp only;rw [e3] at e4 ⊢
     rw [← hn3];exact Ent.cons e4
theorem dbytes_spec (g:Nat) (s:DSt) (h:s.ok) :
 Ct prog 139 #[pt g] e (Disk g s::R) (fun v' L'=>∃ ad c,v'=.slice ad s.b.length c∧L'=OwnB (.slice ad s.b.length c) s.b::Disk g s::R):=by
 have:=h.1;refine disk_out fun ad c=>?_
 refine Ct.enter (args:=[_]) func139 rfl ntmps139 results139 rfl ?_;refine wB ?_;refine O.call rfl rfl (clone_spec _ e _ s.b (RdSl.own (.succ .zero)) zo) ?_;rintro _ _ ⟨ad',c',rfl,rfl⟩;refine wB ?_;exact Fin.ret _ rfl (Ent.cons disk_in) ⟨_,_,rfl,rfl⟩
end Go.Proofs
namespace Go.Proofs
open Go.Bs
def cpl (n:Nat):Nat:=4294967295 - n
theorem cpl_bits {n:Nat} (h:n<4294967296):Go.bits .xor .u32 IntKind.u32.max (n:Int)=(cpl n:Int):=by
 unfold Go.bits cpl;simp only [IntKind.bits]
 have e1:(BitVec.ofInt 32 IntKind.u32.max ^^^ BitVec.ofInt 32 (n:Int)).toNat=4294967295 - n:=by
  have h2:BitVec.ofInt 32 IntKind.u32.max=BitVec.allOnes 32:=by decide
  rw [h2,BitVec.allOnes_xor,BitVec.toNat_not,BitVec.ofInt_natCast,BitVec.toNat_ofNat,Nat.mod_eq_of_lt (show n<2 ^ 32 by omega)]
 exact (congrArg (fun z:Nat=>IntKind.u32.wrap (z:Int)) e1).trans (wrap_u32 zo zo)
theorem Val.cpl32 {P:Program} {N:Fr} {σ:Env} {e:World} {L:List Res} {t ty:TypeId} {x:Operand} {n:Nat} (hx:ev σ x=some (.int .u32 (n:Int))) (hn:n<4294967296):Val P N (.unOp .xor t x) ty (.int .u32 (cpl n:Int)) σ e L:=fun a w ha _ _ _ _ _=>by
 rw [← cpl_bits hn]
 simp [execOp,ha.ev hx,Op.unary,Op.intBits,Go.bits,IntKind.signed]
theorem Ct.to {P:Program} {f:FuncId} {args:Array Value} {e:World} {L X Y:List Res} {a:Value} (h:Ct P f args e L (fun v' L'=>v'=a∧L'=Y)) (g:Ent Y X):Ct P f args e L (fun v' L'=>v'=a∧L'=X) :=
 fun w hs=>(h w hs).mono fun x w' ⟨v,L',h1,h2,h4⟩=>⟨v,X,h1,⟨h2.1,rfl⟩,(h2.2 ▸ h4).ent g⟩
end Go.Proofs
namespace Go.Proofs
attribute [local irreducible] Bs.Val Bs.Do Bs.O Bs.W Bs.Fin Bs.A Bs.Ct Bs.RdSl Bs.Rd Bs.Sat Bs.Blk Bs.Ob Bs.Own Bs.View Bs.Ent Bs.Ex Bs.All Bs.Pu Bs.Base Bs.sepL Bs.RdA
open Go.Bs
open Tryz
variable (R:List Res) (e:World)
theorem cpl_lt (n:Nat):cpl n<4294967296:=by unfold cpl;omega
def recP (m:List UInt8):List UInt8:=be m.length 4++be (cpl m.length) 4++m
theorem recP_length (m:List UInt8):(recP m).length=m.length+8:=by simp [recP,be_length];omega
abbrev Jrn (gj gd k:Nat):Res:=Blk gj [pt gd,.int .i64 (k:Int)] 233 (0,0)
theorem length_spec (g:Nat) (s:RSt) :
 Ct prog 141 #[pt g] e (Reader g s::R) (fun v' L'=>v'=.tuple #[.int .i64 (s.num 4:Int),.bool (decide (s.num 4=cpl ((s.next 4).num 4)∧s.num 4≤65535))]∧L'=Reader g ((s.next 4).next 4)::R):=by
 have h1:s.num 4<4294967296:=numOf_lt _;have h2:(s.next 4).num 4<4294967296:=numOf_lt _;have h3:=cpl_lt ((s.next 4).num 4);refine Ct.enter (args:=[_]) func141 rfl ntmps141 results141 rfl ?_;refine wB ?_;refine O.call rfl rfl (rnum_spec R e g s) ?_;rintro _ _ ⟨rfl,rfl⟩
 (repeat (refine wA ?_;intros))
 refine O.call rfl rfl (rnum_spec R e g _) ?_;rintro _ _ ⟨rfl,rfl⟩
 generalize s.num 4=n at *
 generalize (s.next 4).num 4=m at *
 refine wB ?_;refine O.val _ (Val.cpl32 rfl h2) rfl ?_
 by_cases g1:n=cpl m
 ·by_cases g2:n≤65535
  ·refine wB ?_;exact Fin.ret _ rfl Ent.rfl ⟨by rw [decide_eq_true ⟨g1,g2⟩];rfl,rfl⟩
  ·refine wB ?_;exact Fin.ret _ rfl Ent.rfl ⟨by rw [decide_eq_false (fun h=>g2 h.2)];rfl,rfl⟩
 ·refine wB ?_;exact Fin.ret _ rfl Ent.rfl ⟨by rw [decide_eq_false (fun h=>g1 h.1)];rfl,rfl⟩
theorem put_spec (gj gd k:Nat) (s:DSt) (m:List UInt8) (v:Value) (hs:s.ok) (hv:RdB R v m) (hm:m.length≤65535) (hk:k≤1000000000000) :
 Ct prog 152 #[pt gj,v] e (Jrn gj gd k::Disk gd s::R) (fun v' L'=>v'=.int .i64 (s.appE (recP m))∧L'=Jrn gj gd (if s.appE (recP m)=0 then k+1 else k)::Disk gd (s.app (recP m))::R):=by
 refine Ct.of_sep (hv.tail.tail.shape zo) ?_;rintro ⟨⟨ad,cap,rfl,h3,h4,h5,h6⟩,_⟩;have h1:=cpl_lt m.length;refine Ct.enter (args:=[_,_]) func152 rfl ntmps152 results152 rfl ?_;refine wB ?_;refine O.call rfl rfl (new_spec _ e) ?_;rintro _ _ ⟨gw,rfl,rfl⟩;refine wB ?_;refine O.call rfl rfl (num_spec _ e gw [] m.length zo (by simp)) ?_;rintro _ _ ⟨rfl,rfl⟩;refine wB ?_;refine O.val _ (Val.cpl32 rfl zo) rfl ?_
 (repeat' first|refine Za ?_|refine Zb ?_|apply Zc|apply Zd|apply Ze|apply Zf|refine Zg ?_|refine Zh ?_|refine Zi ?_|refine Zj ?_|refine Zk ?_|refine Zq ?_|refine Zs ?_|refine Zt ?_|refine ZG ?_|refine ZH ?_|refine ZI (fun _=>?_) fun _=>?_|refine ZM ?_|refine ZN ?_|refine ZO (fun _=>?_) fun _=>?_|refine ZS ?_|refine ZY ?_|refine ZZ ?_|refine Z6 ?_|refine Z7 ?_|refine Z8 ?_|refine Yd ?_|refine Yf ?_|refine Ym ?_|refine Yz ?_|refine YA ?_|apply YC|apply YE|apply YF|refine YQ ?_|refine YR ?_|(apply O.loadAggB;exact rfl;exact zP;(first|(simp only [Nat.zero_add,Nat.add_zero,Nat.reduceAdd,List.drop_succ_cons,List.drop_zero,List.take_succ_cons,List.take_zero];done)|(simp only [Nat.zero_add,Nat.add_zero,Nat.reduceAdd,List.drop_succ_cons,List.drop_zero,List.take_succ_cons,List.take_zero];exact rfl));exact rfl;exact rfl))
 refine O.call rfl rfl (num_spec _ e gw _ (cpl m.length) h1 (by simp [be_length])) ?_;rintro _ _ ⟨rfl,rfl⟩;refine wB ?_;refine O.call rfl rfl (raw_spec _ e gw _ m _ hv.tail.tail (by simp [be_length];omega)) ?_;rintro _ _ ⟨rfl,rfl⟩;have hrec:[]++be m.length 4++be (cpl m.length) 4++m=recP m:=by simp [recP]
 rw [hrec];have hrl:=recP_length m
 generalize recP m=b at *
 refine wB ?_;refine A.begin (id:=8) [7] [Jrn gj gd k] mixed ?_
 (refine tM 0 ?_;refine tN 1 ?_;refine tF 2 ?_;refine tL 3 ?_;refine tM 4 ?_)
 refine tO 5 ?_;refine Do.call rfl rfl (done_spec _ e gw b zo) ?_;rintro _ _ ⟨ad2,c2,rfl,rfl⟩;refine ⟨fun _=>zE,?_⟩;refine tO 6 ?_;refine Do.call rfl rfl (Ct.at (.succ (.succ (.succ .zero))) (dappend_spec _ e gd s b _ hs (RdSl.own .zero) zo)) ?_;rintro _ _ ⟨rfl,rfl⟩;refine ⟨fun _=>zE,?_⟩;refine tO 7 ?_;refine dV (Val.assign rfl) ?_;refine A.done zK ?_
 by_cases h0:s.appE b=0
 ·rw [if_pos h0];refine wB ?_;exact Fin.ret _ rfl zE ⟨rfl,rfl⟩
 ·rw [if_neg h0];refine wB ?_;exact Fin.ret _ rfl zE ⟨rfl,rfl⟩
theorem jsync_spec (gj gd k:Nat) (s:DSt) (hs:s.ok) :
 Ct prog 153 #[pt gj] e (Jrn gj gd k::Disk gd s::R) (fun v' L'=>v'=.int .i64 s.synE∧L'=Jrn gj gd k::Disk gd s.syn::R):=by
 refine Ct.enter (args:=[_]) func153 rfl ntmps153 results153 rfl ?_;refine wB ?_;refine O.call rfl rfl (Ct.at (.succ .zero) (dsync_spec _ e gd s hs)) ?_;rintro _ _ ⟨rfl,rfl⟩;refine wB ?_;exact Fin.ret _ rfl zE ⟨rfl,rfl⟩
def addE (s:DSt) (m:List UInt8):Int:=if s.appE (recP m)=0 then (s.app (recP m)).synE else s.appE (recP m)
def addS (s:DSt) (m:List UInt8):DSt:=if s.appE (recP m)=0 then (s.app (recP m)).syn else s.app (recP m)
def addK (s:DSt) (m:List UInt8) (k:Nat):Nat:=if s.appE (recP m)=0 then k+1 else k
abbrev putV (gj:Nat):Value:=.func (.func 152) #[pt gj] #[]
theorem with_spec (gj:Nat) (ad:Option Addr) (n c:Nat) :
 Ct prog 151 #[putV gj,.slice ad n c] e R (fun v' L'=>∃ b1 b2 T1 T2,v'=.func (.func 226) #[] #[pt b1,pt b2]∧L'=Blk b1 [putV gj] T1 (0,0)::Blk b2 [.slice ad n c] T2 (0,0)::R):=by
 refine Ct.enter (args:=[_,_]) func151 rfl ntmps151 results151 rfl ?_
 (repeat (refine wA ?_;intros))
 rename_i b1 b2;exact Fin.ret _ rfl (show Ent _ (Blk b1 [putV gj] _ (0,0)::Blk b2 [.slice ad n c] _ (0,0)::R) from zE) ⟨b1,b2,_,_,rfl,rfl⟩
theorem clo_spec (gj gd k b1 b2 T1 T2:Nat) (s:DSt) (m:List UInt8) (ad:Option Addr) (n c:Nat) (hs:s.ok) (hv:RdB R (.slice ad n c) m) (hm:m.length≤65535) (hk:k≤1000000000000) :
 Ct prog 226 #[pt b1,pt b2] e (Jrn gj gd k::Disk gd s::Blk b1 [putV gj] T1 (0,0)::Blk b2 [.slice ad n c] T2 (0,0)::R) (fun v' L'=>v'=.int .i64 (s.appE (recP m))∧L'=Jrn gj gd (addK s m k)::Disk gd (s.app (recP m))::Blk b1 [putV gj] T1 (0,0)::Blk b2 [.slice ad n c] T2 (0,0)::R):=by
 refine Ct.enter (args:=[_,_]) func226 rfl ntmps226 results226 rfl ?_;refine wB ?_;refine O.callV (us:=[_]) (ws:=[]) rfl rfl rfl (put_spec _ e gj gd k s m _ hs hv.tail.tail hm hk) ?_;rintro _ _ ⟨rfl,rfl⟩;refine wB ?_;exact Fin.ret _ rfl Ent.rfl ⟨rfl,rfl⟩
abbrev cloV (b1 b2:Nat):Value:=.func (.func 226) #[] #[pt b1,pt b2]
abbrev synV (gj:Nat):Value:=.func (.func 153) #[pt gj] #[]
theorem steps_spec (gj gd k k2 gs b1 b2 T:Nat) (s s2:DSt) (e1:Int) (hs2:s2.ok)
 (h1:Ct prog 226 #[pt b1,pt b2] e (Jrn gj gd k::Disk gd s::Blk gs [cloV b1 b2,synV gj] T (0,0)::R) (fun v' L'=>v'=.int .i64 e1∧L'=Jrn gj gd k2::Disk gd s2::Blk gs [cloV b1 b2,synV gj] T (0,0)::R)) :
 Ct prog 150 #[.slice (some ⟨gs,0,none⟩) 2 2] e (Jrn gj gd k::Disk gd s::Blk gs [cloV b1 b2,synV gj] T (0,0)::R) (fun v' L'=>v'=.int .i64 (if e1=0 then s2.synE else e1)∧L'=Jrn gj gd k2::Disk gd (if e1=0 then s2.syn else s2)::R):=by
 refine Ct.enter (args:=[_]) func150 rfl ntmps150 results150 rfl ?_;refine wB ?_;refine W.loop (ι:=Nat) (fun i=>[(6,.slice (some ⟨gs,0,none⟩) 2 2),(7,.int .i64 2),(8,.int .i64 (i:Int))]) (fun i=>if i=0 then Jrn gj gd k::Disk gd s::Blk gs [cloV b1 b2,synV gj] T (0,0)::R else if i=1 then Jrn gj gd k2::Disk gd s2::Blk gs [cloV b1 b2,synV gj] T (0,0)::R else Jrn gj gd k2::Disk gd s2.syn::R) (fun i=>i≤2∧(0<i→e1=0)∧(1<i→s2.synE=0)) (fun i=>2 - i) 0 ⟨by omega,by omega,by omega⟩ (sub_cons rfl (sub_cons rfl (sub_cons rfl sub_nil))) (by rw [if_pos rfl];exact Ent.rfl) ?_;rintro i ⟨hi,hi1,hi2⟩;rcases (show i=0∨i=1∨i=2 by omega) with rfl|rfl|rfl
 ·rw [if_pos rfl];have hr:Rd (Jrn gj gd k::Disk gd s::Blk gs [cloV b1 b2,synV gj] T (0,0)::R) ⟨gs,0+0,none⟩ (cloV b1 b2):=(Rd.blk .zero rfl).tail.tail;refine wB ?_;refine O.callV (us:=[]) (ws:=[_,_]) rfl rfl rfl h1 ?_;rintro _ _ ⟨rfl,rfl⟩
  by_cases h0:e1=0
  ·refine wB ?_;exact Fin.round 1 ⟨by omega,fun _=>h0,by omega⟩ zo (sub_cons rfl (sub_cons rfl (sub_cons rfl sub_nil))) (by rw [if_neg (show ¬ (1:Nat)=0 by omega),if_pos (show (1:Nat)=1 from rfl)];exact zE)
  ·rw [if_neg h0,if_neg h0];refine wB ?_;exact Fin.ret _ rfl zE ⟨rfl,rfl⟩
 ·rw [if_neg (show ¬ (1:Nat)=0 by omega),if_pos (show (1:Nat)=1 from rfl)];have h0:=hi1 zo;have hr:Rd (Jrn gj gd k2::Disk gd s2::Blk gs [cloV b1 b2,synV gj] T (0,0)::R) ⟨gs,0+1,none⟩ (synV gj):=(Rd.blk .zero rfl).tail.tail;refine wB ?_;refine O.callV (us:=[_]) (ws:=[]) rfl rfl rfl (jsync_spec _ e gj gd k2 s2 hs2) ?_;rintro _ _ ⟨rfl,rfl⟩
  by_cases h3:s2.synE=0
  ·refine wB ?_;exact Fin.round 2 ⟨by omega,fun _=>h0,fun _=>h3⟩ zo (sub_cons rfl (sub_cons rfl (sub_cons rfl sub_nil))) (by rw [if_neg (show ¬ (2:Nat)=0 by omega),if_neg (show ¬ (2:Nat)=1 by omega)];exact zE)
  ·rw [if_pos h0,if_pos h0];refine wB ?_;exact Fin.ret _ rfl zE ⟨rfl,rfl⟩
 ·rw [if_neg (show ¬ (2:Nat)=0 by omega),if_neg (show ¬ (2:Nat)=1 by omega),if_pos (hi1 zo),if_pos (hi1 zo),hi2 zo];refine wB ?_;exact Fin.ret _ rfl zE ⟨rfl,rfl⟩
theorem jadd_spec (gj gd k:Nat) (s:DSt) (m:List UInt8) (v:Value) (hs:s.ok) (hv:RdB R v m) (hm:m.length≤65535) (hk:k≤1000000000000) :
 Ct prog 76 #[pt gj,v] e (Jrn gj gd k::Disk gd s::R) (fun v' L'=>v'=.int .i64 (addE s m)∧L'=Jrn gj gd (addK s m k)::Disk gd (addS s m)::R):=by
 refine Ct.of_sep (hv.tail.tail.shape zo) ?_;rintro ⟨⟨ad,cap,rfl,h3,h4,h5,h6⟩,_⟩;refine Ct.enter (args:=[_,_]) func76 rfl ntmps76 results76 rfl ?_;refine wB ?_;refine O.call rfl rfl (with_spec _ e gj ad m.length cap) ?_;rintro _ _ ⟨b1,b2,T1,T2,rfl,rfl⟩
 (repeat (refine wA ?_;intros))
 rename_i gs;refine O.ent1 (show Ent _ (Jrn gj gd k::Disk gd s::Blk gs [cloV b1 b2,synV gj] _ (0,0)::Blk b1 [putV gj] T1 (0,0)::Blk b2 [.slice ad m.length cap] T2 (0,0)::R) from zE) ?_;refine O.call rfl rfl (steps_spec (Blk b1 [putV gj] T1 (0,0)::Blk b2 [.slice ad m.length cap] T2 (0,0)::R) e gj gd k (addK s m k) gs b1 b2 _ s (s.app (recP m)) (s.appE (recP m)) (DSt.app_ok hs _) ?_) ?_
 ·exact Ct.to (Ct.ent (clo_spec (Blk gs [cloV b1 b2,synV gj] _ (0,0)::R) e gj gd k b1 b2 T1 T2 s m ad m.length cap hs hv.tail hm hk) zE) zE
 rintro _ _ ⟨rfl,rfl⟩;refine wB ?_;exact Fin.ret _ rfl zE ⟨rfl,rfl⟩
end Go.Proofs
namespace Go.Proofs
open Go.Bs
def hd1 (b:List UInt8):Nat:=numOf (b.take 4)
def hd2 (b:List UInt8):Nat:=numOf ((b.drop 4).take 4)
def good13 (b:List UInt8):Prop:=hd1 b=cpl (hd2 b)∧hd1 b≤65535
instance (b:List UInt8):Decidable (good13 b):=inferInstanceAs (Decidable (_∧_))
def openP (b:List UInt8):List (List UInt8) × Nat × Bool :=
 if h:b.length<8 then ([],0,true)
 else if good13 b then
  (if b.length - 8<hd1 b then ([],0,true)
  else ((b.drop 8).take (hd1 b)::(openP (b.drop (8+hd1 b))).1,8+hd1 b+(openP (b.drop (8+hd1 b))).2.1,(openP (b.drop (8+hd1 b))).2.2))
 else ([],0,false)
 termination_by b.length
 decreasing_by all_goals (rw [List.length_drop];omega)
theorem openP_short {b:List UInt8} (h:b.length<8):openP b=([],0,true):=by rw [openP,dif_pos h]
theorem openP_bad {b:List UInt8} (h:¬ b.length<8) (h2:¬ good13 b):openP b=([],0,false):=by rw [openP,dif_neg h,if_neg h2]
theorem openP_torn {b:List UInt8} (h:¬ b.length<8) (h2:good13 b) (h3:b.length - 8<hd1 b):openP b=([],0,true):=by rw [openP,dif_neg h,if_pos h2,if_pos h3]
theorem openP_next {b:List UInt8} (h:¬ b.length<8) (h2:good13 b) (h3:¬ b.length - 8<hd1 b):openP b=((b.drop 8).take (hd1 b)::(openP (b.drop (8+hd1 b))).1,8+hd1 b+(openP (b.drop (8+hd1 b))).2.1,(openP (b.drop (8+hd1 b))).2.2):=by
 rw [openP,dif_neg h,if_pos h2,if_neg h3]
theorem num1 {b:List UInt8} (h:¬ b.length<8):RSt.num ⟨b,false⟩ 4=hd1 b∧RSt.next ⟨b,false⟩ 4=⟨b.drop 4,false⟩∧RSt.num ⟨b.drop 4,false⟩ 4=hd2 b∧RSt.next ⟨b.drop 4,false⟩ 4=⟨b.drop 8,false⟩:=by
 have f1:RSt.fits ⟨b,false⟩ 4=true:=by simp [RSt.fits];omega
 have f2:RSt.fits ⟨b.drop 4,false⟩ 4=true:=by simp [RSt.fits];omega
 refine ⟨?_,?_,?_,?_⟩
 ·unfold RSt.num RSt.take hd1;rw [if_pos f1];rfl
 ·unfold RSt.next;rw [if_pos f1];rfl
 ·unfold RSt.num RSt.take hd2;rw [if_pos f2];rfl
 ·unfold RSt.next;rw [if_pos f2,List.drop_drop];rfl
theorem raw1 {b:List UInt8} {n:Nat} (h:n≤b.length):RSt.take ⟨b,false⟩ (n:Int)=b.take n∧RSt.next ⟨b,false⟩ (n:Int)=⟨b.drop n,false⟩:=by
 have f1:RSt.fits ⟨b,false⟩ (n:Int)=true:=by simp [RSt.fits];omega
 refine ⟨?_,?_⟩
 ·unfold RSt.take;rw [if_pos f1];rfl
 ·unfold RSt.next;rw [if_pos f1];rfl
def OpenAt (b:List UInt8) (k:Nat) (out:List (List UInt8)):Prop:=k≤b.length∧out.length≤k∧openP b=(out++(openP (b.drop k)).1,k+(openP (b.drop k)).2.1,(openP (b.drop k)).2.2)
theorem openAt_start (b:List UInt8):OpenAt b 0 []:=⟨Nat.zero_le _,Nat.le_refl _,by simp⟩
theorem openAt_end {b:List UInt8} {k:Nat} {out:List (List UInt8)} {ok:Bool} (h:OpenAt b k out) (h2:openP (b.drop k)=([],0,ok)):openP b=(out,k,ok):=by rw [h.2.2,h2];simp
theorem openAt_step {b:List UInt8} {k:Nat} {out:List (List UInt8)} (h:OpenAt b k out) (h1:¬ (b.drop k).length<8) (h2:good13 (b.drop k)) (h3:¬ (b.drop k).length - 8<hd1 (b.drop k)) :
 OpenAt b (k+(8+hd1 (b.drop k))) (out++[((b.drop k).drop 8).take (hd1 (b.drop k))]):=by
 obtain ⟨a1,a2,a3⟩:=h;have hn:=openP_next h1 h2 h3;rw [List.length_drop] at h1 h3
 refine ⟨by omega,by simp;omega,?_⟩;rw [a3,hn,show b.drop (k+(8+hd1 (b.drop k)))=(b.drop k).drop (8+hd1 (b.drop k)) from List.drop_drop.symm];simp only [List.append_assoc,List.singleton_append,Nat.add_assoc]
theorem openP_le (b:List UInt8):(openP b).2.1≤b.length:=by
 generalize hn:b.length=n
 induction n using Nat.strongRecOn generalizing b with
 | _ n ih =>
  by_cases h:b.length<8
  ·rw [openP_short h];exact Nat.zero_le _
  ·by_cases h2:good13 b
   ·by_cases h3:b.length - 8<hd1 b
    ·rw [openP_torn h h2 h3];exact Nat.zero_le _
    ·rw [openP_next h h2 h3];have:=ih (b.drop (8+hd1 b)).length (by rw [List.length_drop];omega) (b.drop (8+hd1 b)) rfl;rw [List.length_drop] at this
     show 8+hd1 b+_≤n
     omega
   ·rw [openP_bad h h2];exact Nat.zero_le _
def OwnI (l:List Txt):Res:=All (l.map fun a=>OwnB a.1 a.2)
theorem ownI_nil {R:List Res}:Ent R (OwnI []::R):=all_in (M:=[])
theorem ownI_append {l m:List Txt} {R:List Res}:Ent (OwnI l::OwnI m::R) (OwnI (l++m)::R):=by
 unfold OwnI;rw [List.map_append];exact all_append
theorem ownI_split {l m:List Txt} {R:List Res}:Ent (OwnI (l++m)::R) (OwnI l::OwnI m::R):=by
 unfold OwnI;rw [List.map_append];exact all_split
theorem ownI_one {a:Txt} {R:List Res}:Ent (OwnB a.1 a.2::R) (OwnI [a]::R):=all_in (M:=[OwnB a.1 a.2])
theorem ownI_out {a:Txt} {R:List Res}:Ent (OwnI [a]::R) (OwnB a.1 a.2::R):=all_out (M:=[OwnB a.1 a.2])
theorem ownI_items:∀ {l:List Txt} {R:List Res},Ent (OwnI l::R) (Items l::R)
 | [],R=>Ent.rfl
 | a::l,R=>by
  have h1:Ent (OwnI (a::l)::R) (OwnI [a]::OwnI l::R):=ownI_split (l:=[a]) (m:=l);have h2:Ent (Items [a]::Items l::R) (Items (a::l)::R):=items_append (l:=[a]) (m:=l);exact h1.trans (ownI_out.trans (items_own.trans ((Ent.cons ownI_items).trans h2)))
end Go.Proofs
namespace Go.Proofs
attribute [local irreducible] Bs.Val Bs.Do Bs.O Bs.W Bs.Fin Bs.A Bs.Ct Bs.RdSl Bs.Rd Bs.Sat Bs.Blk Bs.Ob Bs.Own Bs.View Bs.Ent Bs.Ex Bs.All Bs.Pu Bs.Base Bs.sepL Bs.RdA
open Go.Bs
open Tryz
variable (R:List Res) (e:World)
def opS (s:DSt):DSt:=if (openP s.b).2.1=s.b.length then s else s.cut ((openP s.b).2.1:Int)
def opE (s:DSt):Int:=if (openP s.b).2.1=s.b.length then 0 else s.cutE ((openP s.b).2.1:Int)
def Opened (gd:Nat) (s:DSt) (R:List Res) (v':Value) (L':List Res):Prop :=
 ((openP s.b).2.2=false∧v'=.tuple #[.pointer none,nY,.int .i64 14]∧L'=Disk gd s::R) ∨
 ((openP s.b).2.2=true∧opE s≠0∧v'=.tuple #[.pointer none,nY,.int .i64 (opE s)]∧L'=Disk gd (opS s)::R) ∨
 ((openP s.b).2.2=true∧opE s=0∧∃ (gj:Nat) (ad:Option Addr) (c:Nat) (ts:List Txt),v'=.tuple #[pt gj,.slice ad ts.length c,.int .i64 0]∧ts.map (·.2)=(openP s.b).1∧L'=Jrn gj gd ts.length::OwnT (.slice ad ts.length c) ts::Items ts::Disk gd (opS s)::R)
def OpenedI (gd:Nat) (s:DSt) (R:List Res) (v':Value) (L':List Res):Prop :=
 ((openP s.b).2.2=false∧v'=.tuple #[.pointer none,nY,.int .i64 14]∧L'=Disk gd s::R) ∨
 ((openP s.b).2.2=true∧opE s≠0∧v'=.tuple #[.pointer none,nY,.int .i64 (opE s)]∧L'=Disk gd (opS s)::R) ∨
 ((openP s.b).2.2=true∧opE s=0∧∃ (gj:Nat) (ad:Option Addr) (c:Nat) (ts:List Txt),v'=.tuple #[pt gj,.slice ad ts.length c,.int .i64 0]∧ts.map (·.2)=(openP s.b).1∧L'=Jrn gj gd ts.length::OwnT (.slice ad ts.length c) ts::OwnI ts::Disk gd (opS s)::R)
theorem jopenI_spec (gd:Nat) (s:DSt) (hs:s.ok) :
 Ct prog 65 #[pt gd] e (Disk gd s::R) (OpenedI gd s R):=by
 have hbl:=hs.1;refine Ct.enter (args:=[_]) func65 rfl ntmps65 results65 rfl ?_;refine wB ?_;refine O.call rfl rfl (dbytes_spec _ e gd s hs) ?_;rintro _ _ ⟨adb,cb,rfl,rfl⟩
 (repeat' first|refine Za ?_|refine Zb ?_|apply Zc|apply Zd|apply Ze|apply Zf|refine Zk ?_|refine Zq ?_|refine Zs ?_|refine Zt ?_|refine Zu ?_|refine Zy ?_|refine Zz ?_|refine ZA ?_|refine ZB ?_|refine ZC (fun _=>?_) fun _=>?_|refine ZG ?_|refine ZH ?_|refine ZI (fun _=>?_) fun _=>?_|refine ZM ?_|refine ZN ?_|refine ZO (fun _=>?_) fun _=>?_|refine ZP ?_|refine ZQ ?_|refine ZS ?_|refine Z7 ?_|refine Z8 ?_|refine Ye ?_|refine Yg fun _=>?_|refine Yi fun _=>?_|refine Ym ?_|refine Yz ?_|refine YA ?_|apply YB|apply YC|apply YD|apply YE|apply YF|apply YG|apply YH|apply YI|apply YJ|refine YK ?_|refine YN ?_|fail)
 refine O.call rfl rfl (read_spec _ e _ s.b (RdSl.own .zero) zo) ?_;rintro _ _ ⟨gr,rfl,rfl⟩;refine wB ?_;refine W.loop (ι:=Nat × List Txt × Option Addr × Nat) (fun i=>[(0,pt gd),(6,pt gr),(7,.int .i64 (i.1:Int)),(5,.slice i.2.2.1 i.2.1.length i.2.2.2)]) (fun i=>OwnT (.slice i.2.2.1 i.2.1.length i.2.2.2) i.2.1::OwnI i.2.1::Reader gr ⟨s.b.drop i.1,false⟩::Disk gd s::R) (fun i=>OpenAt s.b i.1 (i.2.1.map (·.2))) (fun i=>s.b.length - i.1) (0,[],none,0) (openAt_start s.b) (sub_cons rfl (sub_cons rfl (sub_cons rfl (sub_cons rfl sub_nil)))) ((own_nil tTxts 1).trans ((Ent.cons ownI_nil).trans zE)) ?_;rintro ⟨k,out,ad,c⟩ hop;dsimp only at hop ⊢
 have hk:=hop.1;have hol:=hop.2.1;rw [List.length_map] at hol
 have hrl:(s.b.drop k).length=s.b.length - k:=List.length_drop;have hstep:=openAt_step hop;have hend:=fun ok=>openAt_end (ok:=ok) hop
 generalize hrest:s.b.drop k=b at *
 refine wB ?_;refine O.call rfl rfl (Ct.at zP (rleft_spec _ e gr _)) ?_;rintro _ _ ⟨rfl,rfl⟩;dsimp only
 by_cases h0:b.length=0
 ·have he:=hend true (openP_short zo);have hne:k=s.b.length:=by omega
  have hE:opE s=0:=by unfold opE;rw [he];exact if_pos hne
  have hS:opS s=s:=by unfold opS;rw [he];exact if_pos hne
  (repeat (refine wA ?_;intros))
  rename_i gj;refine Fin.ret (Jrn gj gd out.length::OwnT (.slice ad out.length c) out::OwnI out::Disk gd (opS s)::R) rfl (by rw [hS];exact zE) (.inr (.inr ⟨by rw [he],hE,gj,ad,c,out,rfl,by rw [he],rfl⟩))
 refine wB ?_;refine O.call rfl rfl (Ct.at zP (rleft_spec _ e gr _)) ?_;rintro _ _ ⟨rfl,rfl⟩;dsimp only
 by_cases h8:b.length<8
 ·skip
  have he:=hend true (openP_short h8);have hne:k≠s.b.length:=by omega
  have hE:opE s=s.cutE k:=by unfold opE;rw [he];exact if_neg hne
  have hS:opS s=s.cut k:=by unfold opS;rw [he];exact if_neg hne
  refine wB ?_;refine O.call rfl rfl (Ct.at zP (dcut_spec _ e gd s k hs)) ?_;rintro _ _ ⟨rfl,rfl⟩
  by_cases hz:s.cutE k=0
  ·(repeat (refine wA ?_;intros))
   rename_i gj;refine Fin.ret (Jrn gj gd out.length::OwnT (.slice ad out.length c) out::OwnI out::Disk gd (opS s)::R) rfl (by rw [hS];exact zE) (.inr (.inr ⟨by rw [he],by rw [hE,hz],gj,ad,c,out,rfl,by rw [he],rfl⟩))
  ·refine wB ?_;exact Fin.ret (Disk gd (opS s)::R) rfl (by rw [hS];exact zE) (.inr (.inl ⟨by rw [he],by rw [hE];exact hz,by rw [hE];rfl,rfl⟩))
 obtain ⟨f1,f2,f3,f4⟩:=num1 h8;refine wB ?_;refine O.call rfl rfl (length_spec _ e gr ⟨b,false⟩) ?_;rw [f2,f3,f4,f1];rintro _ _ ⟨rfl,rfl⟩;have hn1:hd1 b<4294967296:=numOf_lt _
 by_cases hg:good13 b
 rotate_left
 ·have he:=hend false (openP_bad h8 hg);rw [decide_eq_false (show ¬ (hd1 b=cpl (hd2 b)∧hd1 b≤65535) from hg)];refine wB ?_;exact Fin.ret (Disk gd s::R) rfl zE (.inl ⟨by rw [he],rfl,rfl⟩)
 rw [decide_eq_true (show hd1 b=cpl (hd2 b)∧hd1 b≤65535 from hg)];have hg2:=hg.2;refine wB ?_;refine O.call rfl rfl (rleft_spec _ e gr _) ?_;rintro _ _ ⟨rfl,rfl⟩;dsimp only;have hl8:(b.drop 8).length=b.length - 8:=List.length_drop
 by_cases hlt:(b.drop 8).length<hd1 b
 ·skip
  have he:=hend true (openP_torn h8 hg zo);have hne:k≠s.b.length:=by omega
  have hE:opE s=s.cutE k:=by unfold opE;rw [he];exact if_neg hne
  have hS:opS s=s.cut k:=by unfold opS;rw [he];exact if_neg hne
  refine wB ?_;refine O.call rfl rfl (Ct.at zP (dcut_spec _ e gd s k hs)) ?_;rintro _ _ ⟨rfl,rfl⟩
  by_cases hz:s.cutE k=0
  ·(repeat (refine wA ?_;intros))
   rename_i gj;refine Fin.ret (Jrn gj gd out.length::OwnT (.slice ad out.length c) out::OwnI out::Disk gd (opS s)::R) rfl (by rw [hS];exact zE) (.inr (.inr ⟨by rw [he],by rw [hE,hz],gj,ad,c,out,rfl,by rw [he],rfl⟩))
  ·refine wB ?_;exact Fin.ret (Disk gd (opS s)::R) rfl (by rw [hS];exact zE) (.inr (.inl ⟨by rw [he],by rw [hE];exact hz,by rw [hE];rfl,rfl⟩))
 obtain ⟨g1,g2⟩:=raw1 (b:=b.drop 8) (n:=hd1 b) zo;have hst:=hstep h8 hg zo;have htl:((b.drop 8).take (hd1 b)).length=hd1 b:=by rw [List.length_take];omega
 refine wB ?_;refine O.call rfl rfl (rraw_spec _ e gr ⟨b.drop 8,false⟩ (hd1 b) zd) ?_;rw [g1,g2,List.drop_drop];rintro _ _ ⟨ad3,c3,rfl,rfl⟩
 generalize (b.drop 8).take (hd1 b)=t at *
 (repeat (refine wA ?_;intros))
 refine O.do (Do.append rfl rfl rfl zP (RdSl.blk .zero rfl zl) rfl rfl zO zm zo fun ad4 c4 _=>?_)
 refine wB ?_;refine Fin.round (k+(8+hd1 b),out++[(.slice ad3 t.length c3,t)],ad4,c4) ?_ ?_ ?_ ?_
 ·dsimp only;rw [List.map_append];exact hst
 ·dsimp only;omega
 ·dsimp only;rw [List.length_append,List.length_singleton];exact sub_cons rfl (sub_cons rfl (sub_cons rfl (sub_cons rfl sub_nil)))
 ·dsimp only;have hdd:s.b.drop (k+(8+hd1 b))=b.drop (8+hd1 b):=by rw [← hrest,List.drop_drop]
  rw [hdd];refine Ent.trans (show Ent _ (OwnB (.slice ad3 t.length c3) t::OwnI out::Own tTxts 1 (.slice ad4 (out.length+1) c4) (out.length+1) (out.map (·.1)++[.slice ad3 t.length c3])::Reader gr ⟨b.drop (8+hd1 b),false⟩::Disk gd s::R) from zE) (Ent.trans (ownI_one (a:=(.slice ad3 t.length c3,t))) (Ent.trans (Ent.pull (.succ .zero) Ent.rfl) (Ent.trans ownI_append ?_)));simp only [OwnT,List.length_append,List.length_singleton,List.map_append,List.map_cons,List.map_nil];exact zE
theorem jopen_spec (gd:Nat) (s:DSt) (hs:s.ok) :
 Ct prog 65 #[pt gd] e (Disk gd s::R) (Opened gd s R) :=
 (jopenI_spec R e gd s hs).weak fun v L' h=>by
  rcases h with h|h|⟨h1,h2,gj,ad,c,ts,h3,h4,rfl⟩
  ·exact ⟨_,Ent.rfl,.inl h⟩
  ·exact ⟨_,Ent.rfl,.inr (.inl h)⟩
  ·exact ⟨_,Ent.cons (Ent.cons ownI_items),.inr (.inr ⟨h1,h2,gj,ad,c,ts,h3,h4,rfl⟩)⟩
def keyRec (n:Nat):List UInt8:=[UInt8.ofNat n]
def keysP (l:List (List UInt8)):Prop:=l.length≤16∧∀ i (h:i<l.length),l[i]=keyRec i
abbrev KBox (gb gj k:Nat):Res:=Blk gb [pt gj,.int .i64 (k:Int)] 228 (0,0)
def KOpened (gd:Nat) (s:DSt) (R:List Res) (v':Value) (L':List Res):Prop :=
 ((openP s.b).2.2=false∧v'=.tuple #[.pointer none,.int .i64 14]∧L'=Disk gd s::R) ∨
 ((openP s.b).2.2=true∧opE s≠0∧v'=.tuple #[.pointer none,.int .i64 (opE s)]∧L'=Disk gd (opS s)::R) ∨
 ((openP s.b).2.2=true∧opE s=0∧¬ keysP (openP s.b).1∧v'=.tuple #[.pointer none,.int .i64 14]∧L'=Disk gd (opS s)::R) ∨
 ((openP s.b).2.2=true∧opE s=0∧keysP (openP s.b).1∧∃ gb gj:Nat,v'=.tuple #[pt gb,.int .i64 0]∧L'=KBox gb gj (openP s.b).1.length::Jrn gj gd (openP s.b).1.length::Disk gd (opS s)::R)
theorem kopen_spec (gd:Nat) (s:DSt) (hs:s.ok) :
 Ct prog 64 #[pt gd] e (Disk gd s::R) (KOpened gd s R):=by
 have hbl:=hs.1;refine Ct.enter (args:=[_]) func64 rfl ntmps64 results64 rfl ?_;refine wB ?_;refine O.call rfl rfl (jopen_spec _ e gd s hs) ?_;rintro _ _ (⟨h1,rfl,rfl⟩|⟨h1,h2,rfl,rfl⟩|⟨h1,h2,gj,ad,c,ts,rfl,hd,rfl⟩)
 ·refine wB ?_;exact Fin.ret _ rfl Ent.rfl (.inl ⟨h1,rfl,rfl⟩)
 ·refine wB ?_;exact Fin.ret _ rfl Ent.rfl (.inr (.inl ⟨h1,h2,rfl,rfl⟩))
 refine wB ?_;refine W.of_sep (own_shape (.succ .zero)) ?_;rintro ⟨⟨a,c',hq,hca,hcb,hqq⟩,_⟩;obtain ⟨rfl,_,rfl⟩:=Value.slice.inj hq;clear hq;simp only [maxLen] at hcb
 have htt:Txts (Jrn gj gd ts.length::OwnT (.slice ad ts.length c) ts::Items ts::Disk gd (opS s)::R) ts:=Txts.tail (Txts.tail items_rd);refine W.loop (ι:=Nat) (fun i=>[(4,pt gj),(5,.slice ad ts.length c),(18,.slice ad ts.length c),(19,.int .i64 (ts.length:Int)),(20,.int .i64 (i:Int))]) (fun i=>Jrn gj gd ts.length::OwnT (.slice ad ts.length c) ts::Items ts::Disk gd (opS s)::R) (fun i=>i≤ts.length∧i≤16∧∀ j (h:j<ts.length),j<i→(ts[j]).2=keyRec j) (fun i=>ts.length - i) 0 ⟨Nat.zero_le _,Nat.zero_le _,fun j _ h=>absurd h (Nat.not_lt_zero j)⟩ zS Ent.rfl ?_;rintro i ⟨hi,hi16,hki⟩;have hlen:ts.length=(openP s.b).1.length:=by simpa using congrArg List.length hd
 have hgi:∀ j (h:j<ts.length),(openP s.b).1[j]'zo=(ts[j]).2:=fun j h=>by
  have:(ts.map (·.2))[j]'(by simpa using h)=(openP s.b).1[j]'zo:=by simp only [hd]
  rw [← this,List.getElem_map]
 by_cases hlt:i<ts.length
 rotate_left
 ·have hk:keysP (openP s.b).1:=⟨by omega,fun j h=>by rw [hgi j zo];exact hki j zo zo⟩
  (repeat (refine wA ?_;intros))
  rename_i gb;refine Fin.ret (KBox gb gj (openP s.b).1.length::Jrn gj gd (openP s.b).1.length::Disk gd (opS s)::R) rfl (by rw [← hlen];exact zE) (.inr (.inr (.inr ⟨h1,h2,hk,gb,gj,rfl,rfl⟩)))
 rcases hqq with ⟨_,_,h0⟩|⟨p,rfl⟩
 ·omega
 have hti:=htt _ (List.getElem_mem hlt);have hgl:=hgi i hlt;have hr:Rd (Jrn gj gd ts.length::OwnT (.slice (some ⟨p,0,none⟩) ts.length c) ts::Items ts::Disk gd (opS s)::R) ⟨p,0+i,none⟩ (ts[i]'hlt).1:=Rd.tail ((RdSl.own .zero).elem (by rw [List.getElem?_map,List.getElem?_eq_getElem hlt];rfl))
 have hbad:(i≥16∨(ts[i]'hlt).2≠keyRec i)→¬ keysP (openP s.b).1:=fun h hk=>by
  rcases h with h|h
  ·have:=hk.1;omega
  ·exact h (by rw [← hgl];exact hk.2 i zo)
 have hgood:(ts[i]'hlt).2=keyRec i→∀ j (h:j<ts.length),j<i+1→(ts[j]).2=keyRec j:=fun hh j hj h=>by
  by_cases hji:j=i
  ·subst hji;exact hh
  ·exact hki j hj zo
 clear hgl
 generalize ts[i]'hlt=y at *
 obtain ⟨tv,tb⟩:=y;dsimp only at hti hr hbad hgood
 refine W.of_sep (RdSl.shape hti zo) ?_;rintro ⟨⟨adt,ct,rfl,_,_,_,hq⟩,_⟩
 by_cases h16:i<16
 rotate_left
 ·refine wB ?_;exact Fin.ret (Disk gd (opS s)::R) rfl zE (.inr (.inr (.inl ⟨h1,h2,hbad (.inl zo),rfl,rfl⟩)))
 by_cases hb1:tb.length=1
 rotate_left
 ·refine wB ?_;exact Fin.ret (Disk gd (opS s)::R) rfl zE (.inr (.inr (.inl ⟨h1,h2,hbad (.inr (fun h=>hb1 (by rw [h];rfl))),rfl,rfl⟩)))
 match tb,hb1 with
 | [b0],_ =>
 rcases hq with hq|⟨q,o,rfl⟩
 ·cases hq
 have hrb:=hti.elem (j:=0) rfl;unfold u8 at hrb
 have hlt0:b0.toNat<256:=b0.toNat_lt
 by_cases hbi:b0.toNat=i
 ·refine wB ?_;have hk:[b0]=keyRec i:=by rw [← hbi];simp [keyRec]
  exact Fin.round (i+1) ⟨hlt,by omega,hgood hk⟩ zo zS zE
 ·refine wB ?_;refine Fin.ret (Disk gd (opS s)::R) rfl zE (.inr (.inr (.inl ⟨h1,h2,hbad (.inr (fun h=>hbi ?_)),rfl,rfl⟩)));have h3:=(List.cons.inj h).1;rw [h3,UInt8.toNat_ofNat_of_lt' (show i<256 by omega)]
def takeE (k:Nat) (s:DSt):Int:=if 16≤k then 23 else addE s (keyRec k)
def takeK (k:Nat) (s:DSt):Nat:=if 16≤k then k else if addE s (keyRec k)=0 then k+1 else k
def takeS (k:Nat) (s:DSt):DSt:=if 16≤k then s else addS s (keyRec k)
def takeJ (k j:Nat) (s:DSt):Nat:=if 16≤k then j else addK s (keyRec k) j
def takeN (k:Nat) (s:DSt):Int:=if takeE k s=0 then k else 0
theorem ktake_spec (gb gj gd k j:Nat) (s:DSt) (hs:s.ok) (hk:k≤16) (hj:j≤1000000000000) :
 Ct prog 112 #[pt gb] e (KBox gb gj k::Jrn gj gd j::Disk gd s::R) (fun v' L'=>v'=.tuple #[.int .i64 (takeN k s),.int .i64 (takeE k s)]∧L'=KBox gb gj (takeK k s)::Jrn gj gd (takeJ k j s)::Disk gd (takeS k s)::R):=by
 refine Ct.enter (args:=[_]) func112 rfl ntmps112 results112 rfl ?_
 by_cases h16:16≤k
 ·simp only [takeN,takeE,takeK,takeS,takeJ,if_pos h16];refine wB ?_;exact Fin.ret _ rfl Ent.rfl ⟨by simp [tup],rfl⟩
 simp only [takeN,takeE,takeK,takeS,takeJ,if_neg h16]
 (repeat (refine wA ?_;intros))
 rename_i gl
 have hb8:Value.int .u8 (k:Int)=u8 (UInt8.ofNat k):=by
  unfold u8;rw [UInt8.toNat_ofNat_of_lt' (show k<256 by omega)]
 rw [hb8];have hrd:RdB (Blk gl [u8 (UInt8.ofNat k)] tU8 (0,0)::KBox gb gj k::R) (.slice (some ⟨gl,0,none⟩) 1 1) (keyRec k):=RdSl.blk .zero rfl zl;refine O.ent1 (show Ent _ (Jrn gj gd j::Disk gd s::Blk gl [u8 (UInt8.ofNat k)] tU8 (0,0)::KBox gb gj k::R) from zE) ?_;refine O.call rfl rfl (jadd_spec _ e gj gd j s (keyRec k) _ hs hrd (by simp [keyRec]) hj) ?_;rintro _ _ ⟨rfl,rfl⟩
 by_cases h0:addE s (keyRec k)=0
 ·rw [if_pos h0,if_pos h0,h0];refine wB ?_;exact Fin.ret _ rfl zE ⟨rfl,rfl⟩
 ·rw [if_neg h0,if_neg h0];refine wB ?_;exact Fin.ret _ rfl zE ⟨rfl,rfl⟩
def disk0 (b:List UInt8):DSt:=⟨b,b.length,1048576,0,false⟩
theorem disk0_ok {b:List UInt8} (h:b.length≤1048576):(disk0 b).ok:=⟨h,Nat.le_refl _,Nat.le_refl _,Nat.zero_le _⟩
theorem op0 {b:List UInt8}:opE (disk0 b)=0∧opS (disk0 b)=disk0 (b.take (openP b).2.1):=by
 have h:=openP_le b
 have hc:DSt.cut (disk0 b) ((openP b).2.1:Int)=disk0 (b.take (openP b).2.1)∧DSt.cutE (disk0 b) ((openP b).2.1:Int)=0:=by
  have h2:¬ ((b.length:Int)<((openP b).2.1:Int)):=by omega
  simp [DSt.cut,DSt.cutE,disk0,DSt.pow,h2,List.length_take,Nat.min_eq_left h]
  omega
 unfold opE opS
 by_cases h2:(openP b).2.1=b.length
 ·rw [if_pos (show (openP (disk0 b).b).2.1=(disk0 b).b.length from h2),if_pos (show (openP (disk0 b).b).2.1=(disk0 b).b.length from h2),h2];exact ⟨rfl,by rw [List.take_of_length_le (Nat.le_refl _)]⟩
 ·rw [if_neg (show ¬ (openP (disk0 b).b).2.1=(disk0 b).b.length from h2),if_neg (show ¬ (openP (disk0 b).b).2.1=(disk0 b).b.length from h2)];exact ⟨hc.2,hc.1⟩
def Opened0 (gd:Nat) (b:List UInt8) (R:List Res) (v':Value) (L':List Res):Prop :=
 ((openP b).2.2=false∧v'=.tuple #[.pointer none,nY,.int .i64 14]∧L'=Disk gd (disk0 b)::R) ∨
 ((openP b).2.2=true∧∃ (gj:Nat) (ad:Option Addr) (c:Nat) (ts:List Txt),v'=.tuple #[pt gj,.slice ad ts.length c,.int .i64 0]∧ts.map (·.2)=(openP b).1∧L'=Jrn gj gd ts.length::OwnT (.slice ad ts.length c) ts::Items ts::Disk gd (disk0 (b.take (openP b).2.1))::R)
theorem jopen0_spec (gd:Nat) (b:List UInt8) (hb:b.length≤1048576) :
 Ct prog 65 #[pt gd] e (Disk gd (disk0 b)::R) (Opened0 gd b R) :=
 (jopen_spec R e gd (disk0 b) (disk0_ok hb)).mono fun v' L' h=>by
  obtain ⟨h1,h2⟩:=op0 (b:=b);rcases h with ⟨a1,a2,a3⟩|⟨a1,a2,_⟩|⟨a1,_,gj,ad,c,ts,a3,a4,a5⟩
  ·exact .inl ⟨a1,a2,a3⟩
  ·exact absurd h1 a2
  ·exact .inr ⟨a1,gj,ad,c,ts,a3,a4,by rw [a5,h2]⟩
def layP (l:List (List UInt8)):List UInt8:=l.flatMap recP
theorem layP_len {l:List (List UInt8)} {n:Nat} (h:∀ m∈l,m.length≤n):(layP l).length≤l.length*(n+8):=by
 induction l with
 | nil=>simp [layP]
 | cons m l ih =>
  have h1:=ih fun x hx=>h x (List.mem_cons_of_mem _ hx)
  have h2:=h m (List.mem_cons_self ..)
  show (recP m++layP l).length≤_
  rw [List.length_append,recP_length,List.length_cons,Nat.add_mul]
  omega
theorem layP_snoc (l:List (List UInt8)) (m:List UInt8):layP (l++[m])=layP l++recP m:=by simp [layP]
end Go.Proofs
namespace Go.Proofs
open Go.Bs
theorem cpl_cpl {n:Nat} (h:n<4294967296):n=cpl (cpl n):=by unfold cpl;omega
theorem rec_heads (m r:List UInt8) (hm:m.length≤65535):hd1 (recP m++r)=m.length∧hd2 (recP m++r)=cpl m.length∧(recP m++r).drop 8=m++r:=by
 have e1:(recP m++r)=be m.length 4++(be (cpl m.length) 4++(m++r)):=by simp [recP]
 have l1:(be m.length 4).length=4:=be_length _ _;have l2:(be (cpl m.length) 4).length=4:=be_length _ _;refine ⟨?_,?_,?_⟩
 ·unfold hd1;rw [e1,List.take_append_of_le_length zo,List.take_of_length_le zo];exact numOf_be4 _ zo
 ·unfold hd2;rw [e1,List.drop_append_of_le_length zo,List.drop_of_length_le zo,List.nil_append,List.take_append_of_le_length zo,List.take_of_length_le zo];exact numOf_be4 _ (cpl_lt _)
 ·have d:∀ (x y:List UInt8),x.length=4→(x++y).drop 4=y:=fun x y h=>by rw [List.drop_append_of_le_length zo,List.drop_of_length_le zo,List.nil_append]
  rw [e1,show 8=4+4 from rfl,← List.drop_drop,d _ _ l1,d _ _ l2]
theorem openP_rec (m r:List UInt8) (hm:m.length≤65535):openP (recP m++r)=(m::(openP r).1,8+m.length+(openP r).2.1,(openP r).2.2):=by
 obtain ⟨h1,h2,h3⟩:=rec_heads m r hm;have hl:(recP m++r).length=m.length+8+r.length:=by rw [List.length_append,recP_length]
 have hg:good13 (recP m++r):=by
  refine ⟨?_,?_⟩
  ·rw [h1,h2];exact cpl_cpl zo
  ·rw [h1];exact hm
 have h4:(recP m++r).drop (8+m.length)=r:=by
  rw [← List.drop_drop,h3,List.drop_append_of_le_length (Nat.le_refl _),List.drop_of_length_le (Nat.le_refl _),List.nil_append]
 rw [openP_next zo hg (by rw [h1];omega),h1,h3,h4,List.take_append_of_le_length (Nat.le_refl _),List.take_of_length_le (Nat.le_refl _)]
theorem openP_lay (l:List (List UInt8)) (r:List UInt8) (hl:∀ m∈l,m.length≤65535):openP (layP l++r)=(l++(openP r).1,(layP l).length+(openP r).2.1,(openP r).2.2):=by
 induction l with
 | nil=>simp [layP]
 | cons m l ih =>
  have e1:layP (m::l)=recP m++layP l:=rfl;rw [e1,List.append_assoc,openP_rec m _ (hl m (List.mem_cons_self ..)),ih fun x hx=>hl x (List.mem_cons_of_mem _ hx)];simp only [List.cons_append,List.length_append,recP_length];refine Prod.ext rfl (Prod.ext ?_ rfl);dsimp only
  omega
theorem openP_nil:openP []=([],0,true):=openP_short (by simp)
theorem openP_all (l:List (List UInt8)) (hl:∀ m∈l,m.length≤65535):openP (layP l)=(l,(layP l).length,true):=by
 have:=openP_lay l [] hl;rw [List.append_nil,openP_nil] at this
 simpa using this
def diskS (b:List UInt8) (sy:Nat):DSt:=⟨b,sy,1048576,0,false⟩
theorem diskS_ok {b:List UInt8} {sy:Nat} (h:b.length≤1048576) (h2:sy≤b.length):(diskS b sy).ok:=⟨h,Nat.le_refl _,h2,Nat.zero_le _⟩
theorem put_plain {b m:List UInt8} {sy:Nat} (h:b.length+m.length+8≤1048576):(diskS b sy).appE (recP m)=0∧(diskS b sy).app (recP m)=diskS (b++recP m) sy:=by
 have hr:=recP_length m;obtain ⟨h1,h2⟩:=DSt.app_plain (b:=b) (m:=recP m) (sy:=sy) (li:=1048576) zo;exact ⟨h2,h1⟩
theorem syn_plain (b:List UInt8) (sy:Nat):(diskS b sy).synE=0∧(diskS b sy).syn=disk0 b:=by
 simp [DSt.synE,DSt.syn,DSt.pow,diskS,disk0]
theorem add_plain {b m:List UInt8} {sy:Nat} (h:b.length+m.length+8≤1048576):addE (diskS b sy) m=0∧addS (diskS b sy) m=disk0 (b++recP m)∧∀ k,addK (diskS b sy) m k=k+1:=by
 obtain ⟨h1,h2⟩:=put_plain (sy:=sy) h;obtain ⟨h3,h4⟩:=syn_plain (b++recP m) sy;refine ⟨?_,?_,fun k=>?_⟩
 ·unfold addE;rw [if_pos h1,h2,h3]
 ·unfold addS;rw [if_pos h1,h2,h4]
 ·unfold addK;rw [if_pos h1]
end Go.Proofs
