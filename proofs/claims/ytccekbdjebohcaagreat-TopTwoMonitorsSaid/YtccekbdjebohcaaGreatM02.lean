/- Part 2 of a proof of this: TopTwoMonitors returns true for any arguments; nothing of the old memory is turned. No condition. -/
import Derived.Test.YtccekbdjebohcaaGreatM01
set_option linter.unusedVariables false
set_option linter.unusedSimpArgs false
namespace Go.Bs
class rr (P:Program) (t:TypeId) (len:outParam Nat) (el:outParam TypeId) (n:outParam Nat):Prop where
 kN:P.underlying t=some (.array len el)
 Bo:∀ w,(sizeOf el).run P w=.ok n w
def cX (a:UInt32):Value:=.int .u32 (a.toNat:Int)
theorem gC (l:List UInt32):∀ c∈l.map cX,c.oneCell'=true:=fun c hc=>by
 obtain ⟨x,_,rfl⟩:=aD.1 hc
 rfl
theorem Rp (n:Nat):IntKind.u32.wrap (n:Int)=((n % 4294967296:Nat):Int):=by
 unfold IntKind.wrap;simp only [IntKind.bits,IntKind.signed]
 simp
theorem w8 (n:Nat):IntKind.u8.wrap (n:Int)=((n % 256:Nat):Int):=by
 unfold IntKind.wrap;simp only [IntKind.bits,IntKind.signed]
 simp
theorem Nd (a b:UInt32):IntKind.u32.wrap ((a.toNat:Int)+(b.toNat:Int))=((a+b).toNat:Int):=by
 rw [← Int.natCast_add,Rp,UInt32.toNat_add]
theorem mf (a:UInt32):BitVec.ofInt 32 (a.toNat:Int)=a.toBitVec:=by
 apply BitVec.eq_of_toNat_eq
 simp
theorem u32_and (a b:UInt32):Go.bits .and .u32 (a.toNat:Int) (b.toNat:Int)=((a &&& b).toNat:Int):=by
 show IntKind.u32.wrap (((BitVec.ofInt 32 (a.toNat:Int) &&& BitVec.ofInt 32 (b.toNat:Int)).toNat:Nat):Int)=_
 rw [mf,mf]
 show IntKind.u32.wrap (((a &&& b).toNat:Nat):Int)=_
 rw [Rp,Nat.mod_eq_of_lt (a &&& b).toNat_lt]
theorem u32_or (a b:UInt32):Go.bits .or .u32 (a.toNat:Int) (b.toNat:Int)=((a ||| b).toNat:Int):=by
 show IntKind.u32.wrap (((BitVec.ofInt 32 (a.toNat:Int) ||| BitVec.ofInt 32 (b.toNat:Int)).toNat:Nat):Int)=_
 rw [mf,mf]
 show IntKind.u32.wrap (((a ||| b).toNat:Nat):Int)=_
 rw [Rp,Nat.mod_eq_of_lt (a ||| b).toNat_lt]
theorem u32_xor (a b:UInt32):Go.bits .xor .u32 (a.toNat:Int) (b.toNat:Int)=((a ^^^ b).toNat:Int):=by
 show IntKind.u32.wrap (((BitVec.ofInt 32 (a.toNat:Int) ^^^ BitVec.ofInt 32 (b.toNat:Int)).toNat:Nat):Int)=_
 rw [mf,mf]
 show IntKind.u32.wrap (((a ^^^ b).toNat:Nat):Int)=_
 rw [Rp,Nat.mod_eq_of_lt (a ^^^ b).toNat_lt]
theorem Nf (a:UInt32) (n:Int) (h:0≤n∧n<32):((a.toNat:Int)).fdiv (2 ^ (min n.toNat 32))=((a >>> UInt32.ofNat n.toNat).toNat:Int):=by
 obtain ⟨m,rfl⟩:=Int.eq_ofNat_of_zero_le h.1;have hm:m<32:=by omega
 rw [UInt32.toNat_shiftRight,Int.toNat_natCast,Nat.min_eq_left (by omega),UInt32.toNat_ofNat_of_lt' (by simp only [UInt32.size];omega),Nat.mod_eq_of_lt hm,Nat.shiftRight_eq_div_pow];rw [Int.fdiv_eq_ediv_of_nonneg _ (Int.pow_nonneg (by decide))]
 simp
theorem Ng (a:UInt32) (n:Int) (h:0≤n∧n<32):IntKind.u32.wrap ((a.toNat:Int)*(2 ^ (min n.toNat 32)))=((a <<< UInt32.ofNat n.toNat).toNat:Int):=by
 obtain ⟨m,rfl⟩:=Int.eq_ofNat_of_zero_le h.1;have hm:m<32:=by omega
 rw [UInt32.toNat_shiftLeft,Int.toNat_natCast,Nat.min_eq_left (by omega),UInt32.toNat_ofNat_of_lt' (by simp only [UInt32.size];omega),Nat.mod_eq_of_lt hm,Nat.shiftLeft_eq];rw [show ((a.toNat:Int)*2 ^ m)=((a.toNat*2 ^ m:Nat):Int) by simp,Rp]
section
variable {P:Program} {N:Fr} {Q:fM} {σ:Env} {e:World} {L:List cK} {all:Array Oper} {rest:List Oper}
variable {d:Nat} {op:Op} {ty:TypeId} {pos:String} {af:Array Edge} {gd:Option (Nat × Bool)} {K:Env→List cK→Prop} {x y:Operand} {t t':TypeId} {k k':IntKind} {a b:UInt32}
theorem cE.nE (h:ev σ x=some (cX a)) (h1:ev σ y=some (cX b)):cE P N (.binOp .add t x y t') ty (cX (a+b)) σ e L:=by
 have:=cE.add (P:=P) (N:=N) (ty:=ty) (e:=e) (L:=L) (t:=t) (t':=t') h h1;rw [Nd] at this
 exact this
theorem cE.pj (h:ev σ x=some (cX a)) (h1:ev σ y=some (cX b)):cE P N (.binOp .xor t x y t') ty (cX (a ^^^ b)) σ e L:=by
 have:=cE.bits (P:=P) (N:=N) (ty:=ty) (e:=e) (L:=L) (t:=t) (t':=t') .xor (by simp) h h1;rw [u32_xor] at this
 exact this
theorem cE.Dc (h:ev σ x=some (cX a)) (h1:ev σ y=some (cX b)):cE P N (.binOp .and t x y t') ty (cX (a &&& b)) σ e L:=by
 have:=cE.bits (P:=P) (N:=N) (ty:=ty) (e:=e) (L:=L) (t:=t) (t':=t') .and (by simp) h h1;rw [u32_and] at this
 exact this
theorem cE.Nh (h:ev σ x=some (cX a)) (h1:ev σ y=some (cX b)):cE P N (.binOp .or t x y t') ty (cX (a ||| b)) σ e L:=by
 have:=cE.bits (P:=P) (N:=N) (ty:=ty) (e:=e) (L:=L) (t:=t) (t':=t') .or (by simp) h h1;rw [u32_or] at this
 exact this
theorem cE.tY {n:Int} (h:ev σ x=some (cX a)) (h1:ev σ y=some (.int k' n)) (h0:0≤n∧n<32):cE P N (.binOp .shr t x y t') ty (cX (a >>> UInt32.ofNat n.toNat)) σ e L:=by
 have:=cE.shr (P:=P) (N:=N) (ty:=ty) (e:=e) (L:=L) (t:=t) (t':=t') h h1 h0.1;rw [show IntKind.u32.bits=32 from rfl,Nf a n h0] at this
 exact this
theorem cE.wT {n:Int} (h:ev σ x=some (cX a)) (h1:ev σ y=some (.int k' n)) (h0:0≤n∧n<32):cE P N (.binOp .shl t x y t') ty (cX (a <<< UInt32.ofNat n.toNat)) σ e L:=by
 have:=cE.shl (P:=P) (N:=N) (ty:=ty) (e:=e) (L:=L) (t:=t) (t':=t') h h1 h0.1;rw [show IntKind.u32.bits=32 from rfl,Ng a n h0] at this
 exact this
theorem cE.Hu (h:ev σ x=some (cX a)):cE P N (.unOp .xor t x) ty (cX (~~~a)) σ e L:=fun b w ha _ _ _ _ _=>by
 have h1:=u32_xor (UInt32.ofNat 4294967295) a
 have h2:UInt32.ofNat 4294967295 ^^^ a = ~~~a:=by
  apply UInt32.eq_of_toBitVec_eq;rw [UInt32.toBitVec_xor,UInt32.toBitVec_not,← BitVec.allOnes_xor]
  rfl
 rw [h2] at h1
 have h3:IntKind.u32.max=((UInt32.ofNat 4294967295).toNat:Int):=rfl;simp only [execOp,ha.ev h,cX,Op.unary,IntKind.signed,Bool.false_eq_true,if_false,h3,intBits_xor,h1]
 simp
theorem cE.neg {m:Int} (h:ev σ x=some (.int k m)):cE P N (.unOp .neg t x) ty (.int k (k.wrap (0 - m))) σ e L:=fun b w ha _ _ _ _ _=>by
 simp [execOp,ha.ev h,Op.unary,Op.intArith]
theorem cE.ru {s:TypeId} [i:ij P s .u32] [j:ij P t .u8] (h:ev σ x=some (cX a)):cE P N (.convert s t x) ty (u8 a.toUInt8) σ e L:=by
 have:=cE.jv (P:=P) (N:=N) (ty:=ty) (e:=e) (L:=L) (s:=s) (t:=t) h
 rw [w8] at this
 exact this
theorem cE.ms {s:TypeId} [i:ij P s .u8] [j:ij P t .u32] {c:UInt8} (h:ev σ x=some (u8 c)):cE P N (.convert s t x) ty (cX c.toUInt32) σ e L:=by
 have:=cE.jv (P:=P) (N:=N) (ty:=ty) (e:=e) (L:=L) (s:=s) (t:=t) h
 rw [Rp,Nat.mod_eq_of_lt (by have:=c.toNat_lt;omega)] at this
 exact this
theorem cE.dG {len el n g o:Nat} {i:Int} [s:rr P t len el n] (h:ev σ x=some (.pointer (some ⟨g,o,none⟩))) (h1:ev σ y=some (.int k i)) (h0:0≤i∧i<len) :
 cE P N (.indexAddr t x y) ty (.pointer (some ⟨g,o+i.toNat*n,none⟩)) σ e L:=fun a w ha _ _ _ _ _=>by
 have h2:¬ (i<0):=by omega
 simp [execOp,ha.ev h,ha.ev h1,Instr.indexAt,run_underlying s.kN,asIntOf,h0.1,h0.2,s.Bo,Instr.sureAddr,Addr.add_lit]
theorem cE.ee {len el g o i:Nat} [s:rr P t len el 1] (h:ev σ x=some (.pointer (some ⟨g,o,none⟩))) (h1:ev σ y=some (.int k (i:Int))) (h0:i<len) :
 cE P N (.indexAddr t x y) ty (.pointer (some ⟨g,o+i,none⟩)) σ e L:=by
 have:=cE.dG (P:=P) (N:=N) (ty:=ty) (e:=e) (L:=L) (t:=t) h h1 ⟨by omega,by omega⟩
 simpa using this
theorem cE.Fm {len el i:Nat} {cs:List Value} {v:Value} [s:rr P t len el 1] [q:dL P el] (h:ev σ x=some (.agg cs.toArray)) (h1:ev σ y=some (.int k (i:Int))) (h0:i<len) (hv:cs[i]?=some v) :
 cE P N (.index t x y) ty v σ e L:=fun a w ha _ _ _ _ _=>by
 have hc:(cs.toArray)[i]?=some v:=by simpa using hv
 simp [execOp,ha.ev h,ha.ev h1,Instr.index,run_underlying s.kN,asIntOf,h0,s.Bo,part,q.ag,hv]
theorem cE.mu {len el n:Nat} {z:Value} {parts:List (Nat × Operand)} {vs:List (Nat × Value)} {cs:List Value} [s:rr P t len el n] [j:fD P t z] (h:tP σ parts=some vs) (hlen:vs.length=len) (hz:z.cells.size=len*n) (hc:gS n 0 vs cs) :
 cE P N (.build t parts.toArray) ty (.agg cs.toArray) σ e L:=fun a w ha _ _ _ _ _=>by
 have RS:(parts.toArray.map fun x=>match x with|(i,x)=>(i,a.eval x)).toList=vs:=by
  have:=ha.tP h
  simpa using this
 have hf:=hc.fill z.cells (by rw [aC,hlen];exact hz);simp only [Nat.zero_mul,List.take_zero,List.nil_append] at hf
 have h3:(Instr.build t (parts.toArray.map fun x=>match x with|(i,x)=>(i,a.eval x))).run P w=.ok (.agg cs.toArray) w:=by
  unfold Instr.build;rw [RS];simp only [Sem.run_bind,j.run,Result.andThen_ok,run_underlying s.kN,s.Bo,hf]
  rfl
 simp only [execOp,Sem.run_bind,Sem.run_pure,h3,Result.andThen_ok]
theorem O.nE (h:ev σ x=some (cX a)) (h1:ev σ y=some (cX b)) (hd:Nat.blt d N.n=true) (kk:O P N all rest Q ((d,cX (a+b))::σ) e L):O P N all (⟨some d,.binOp .add t x y t',ty,pos,af,none⟩::rest) Q σ e L:=bC _ (cE.nE h h1) hd kk
theorem O.pj (h:ev σ x=some (cX a)) (h1:ev σ y=some (cX b)) (hd:Nat.blt d N.n=true) (kk:O P N all rest Q ((d,cX (a ^^^ b))::σ) e L):O P N all (⟨some d,.binOp .xor t x y t',ty,pos,af,none⟩::rest) Q σ e L:=bC _ (cE.pj h h1) hd kk
theorem O.Dc (h:ev σ x=some (cX a)) (h1:ev σ y=some (cX b)) (hd:Nat.blt d N.n=true) (kk:O P N all rest Q ((d,cX (a &&& b))::σ) e L):O P N all (⟨some d,.binOp .and t x y t',ty,pos,af,none⟩::rest) Q σ e L:=bC _ (cE.Dc h h1) hd kk
theorem O.Nh (h:ev σ x=some (cX a)) (h1:ev σ y=some (cX b)) (hd:Nat.blt d N.n=true) (kk:O P N all rest Q ((d,cX (a ||| b))::σ) e L):O P N all (⟨some d,.binOp .or t x y t',ty,pos,af,none⟩::rest) Q σ e L:=bC _ (cE.Nh h h1) hd kk
theorem O.tY {n:Int} (h:ev σ x=some (cX a)) (h1:ev σ y=some (.int k' n)) (h0:0≤n∧n<32) (hd:Nat.blt d N.n=true) (kk:O P N all rest Q ((d,cX (a >>> UInt32.ofNat n.toNat))::σ) e L):O P N all (⟨some d,.binOp .shr t x y t',ty,pos,af,none⟩::rest) Q σ e L:=bC _ (cE.tY h h1 h0) hd kk
theorem O.wT {n:Int} (h:ev σ x=some (cX a)) (h1:ev σ y=some (.int k' n)) (h0:0≤n∧n<32) (hd:Nat.blt d N.n=true) (kk:O P N all rest Q ((d,cX (a <<< UInt32.ofNat n.toNat))::σ) e L):O P N all (⟨some d,.binOp .shl t x y t',ty,pos,af,none⟩::rest) Q σ e L:=bC _ (cE.wT h h1 h0) hd kk
theorem O.Hu (h:ev σ x=some (cX a)) (hd:Nat.blt d N.n=true) (kk:O P N all rest Q ((d,cX (~~~a))::σ) e L):O P N all (⟨some d,.unOp .xor t x,ty,pos,af,none⟩::rest) Q σ e L:=bC _ (cE.Hu h) hd kk
theorem O.neg {m:Int} (h:ev σ x=some (.int k m)) (hd:Nat.blt d N.n=true) (kk:O P N all rest Q ((d,.int k (k.wrap (0 - m)))::σ) e L):O P N all (⟨some d,.unOp .neg t x,ty,pos,af,none⟩::rest) Q σ e L:=bC _ (cE.neg h) hd kk
theorem O.ru {s:TypeId} [i:ij P s .u32] [j:ij P t .u8] (h:ev σ x=some (cX a)) (hd:Nat.blt d N.n=true) (kk:O P N all rest Q ((d,u8 a.toUInt8)::σ) e L):O P N all (⟨some d,.convert s t x,ty,pos,af,none⟩::rest) Q σ e L:=bC _ (cE.ru h) hd kk
theorem O.ms {s:TypeId} [i:ij P s .u8] [j:ij P t .u32] {c:UInt8} (h:ev σ x=some (u8 c)) (hd:Nat.blt d N.n=true) (kk:O P N all rest Q ((d,cX c.toUInt32)::σ) e L):O P N all (⟨some d,.convert s t x,ty,pos,af,none⟩::rest) Q σ e L:=bC _ (cE.ms h) hd kk
theorem O.ee {len el g o i:Nat} [s:rr P t len el 1] (h:ev σ x=some (.pointer (some ⟨g,o,none⟩))) (h1:ev σ y=some (.int k (i:Int))) (h0:i<len) (hd:Nat.blt d N.n=true) (kk:O P N all rest Q ((d,.pointer (some ⟨g,o+i,none⟩))::σ) e L):O P N all (⟨some d,.indexAddr t x y,ty,pos,af,none⟩::rest) Q σ e L:=bC _ (cE.ee h h1 h0) hd kk
theorem O.dG {len el n g o:Nat} {i:Int} [s:rr P t len el n] (h:ev σ x=some (.pointer (some ⟨g,o,none⟩))) (h1:ev σ y=some (.int k i)) (h0:0≤i∧i<len) (hd:Nat.blt d N.n=true) (kk:O P N all rest Q ((d,.pointer (some ⟨g,o+i.toNat*n,none⟩))::σ) e L):O P N all (⟨some d,.indexAddr t x y,ty,pos,af,none⟩::rest) Q σ e L:=bC _ (cE.dG h h1 h0) hd kk
theorem O.Fm {len el i:Nat} {cs:List Value} {v:Value} [s:rr P t len el 1] [q:dL P el] (h:ev σ x=some (.agg cs.toArray)) (h1:ev σ y=some (.int k (i:Int))) (h0:i<len) (hv:cs[i]?=some v) (hd:Nat.blt d N.n=true) (kk:O P N all rest Q ((d,v)::σ) e L):O P N all (⟨some d,.index t x y,ty,pos,af,none⟩::rest) Q σ e L:=bC _ (cE.Fm h h1 h0 hv) hd kk
theorem O.mu {len el n:Nat} {z:Value} {parts:List (Nat × Operand)} {vs:List (Nat × Value)} {cs:List Value} [s:rr P t len el n] [j:fD P t z] (h:tP σ parts=some vs) (hlen:vs.length=len) (hz:z.cells.size=len*n) (hc:gS n 0 vs cs) (hd:Nat.blt d N.n=true) (kk:O P N all rest Q ((d,.agg cs.toArray)::σ) e L):O P N all (⟨some d,.build t parts.toArray,ty,pos,af,none⟩::rest) Q σ e L:=bC _ (cE.mu h hlen hz hc) hd kk
theorem A.cB {ops:Array Oper} {T:List Nat} {R0:List cK} {n:Nat} {l:Array Bool} {p:Prop} (f:∀ h,dK L h→p) (h:p→A P N ops T R0 n l Q σ e L):A P N ops T R0 n l Q σ e L:=fun a w ha hs=>h (f _ hs.2.2.2) a w ha hs
theorem Do.Sm {el nn b c:Nat} {z:Value} {k1 k2:IntKind} [i:ja P t el nn] [j:qU P el z nn b] (hx:ev σ x=some (.int k1 0)) (hy:ev σ y=some (.int k2 (c:Int))) (hd:Nat.blt d N.n=true) (CW:c≤maxLen) (hb:c*b≤140737488355328)
 (kk:∀ g,K ((d,.slice (some ⟨g,0,none⟩) 0 c)::σ) (dJ el nn (.slice (some ⟨g,0,none⟩) 0 c) 0 []::L)) :
 Do P N ⟨some d,.makeSlice t x y,ty,pos,af,gd⟩ K σ e L:=fun a w ha hs K' Q' hK=>by
 obtain ⟨ti,t1,t2,t3,t4⟩:=j.parts;subst t3 t4
 have sz:(ti.bytes:Int)*(c:Int)≤281474976710656:=by
  have h:((ti.bytes*c:Nat):Int)≤281474976710656:=by rw [Nat.mul_comm];omega
  rwa [Int.natCast_mul] at h
 have hr:=run_make (P:=P) w t el ti z i.kN t1 t2 k1 k2 0 c (Int.le_refl _) (by omega) sz (by simp only [maxLen] at CW;omega);simp only [Int.toNat_natCast,Int.toNat_zero] at hr
 refine eN (w':=w.alloc (.cells (madeCells z.cells (c*ti.size)) el)) (v:=.slice (some ⟨w.heap.size,0,none⟩) 0 c) (by simp [execOp,ha.ev hx,ha.ev hy,hr]) (hK _ _ _ _ (kk _) (ha.put hd _) ?_);have CX:=(hs.alloc (.cells (madeCells z.cells (c*ti.size)) el)).cN (qp _ _ _ _);have fS:=fW (E:=el) (n:=ti.size) (g:=w.heap.size) (k:=0) (cap:=c) (cur:=(madeCells z.cells (c*ti.size)).toList) (R:=L) (aG _) CW (by simp [size_madeCells]);rw [Nat.zero_mul,List.take_zero] at fS
 exact CX.cN fS
end
end Go.Bs
namespace Go.Bs
section
variable {P:Program} {N:Fr} {Q:fM} {σ:Env} {e:World} {L:List cK} {all:Array Oper} {rest:List Oper}
variable {d:Nat} {op:Op} {ty:TypeId} {pos:String} {af:Array Edge} {gd:Option (Nat × Bool)} {K:Env→List cK→Prop} {x y z:Operand} {v:Value} {t t':TypeId} {k k':IntKind} {m n:Int} {a b:UInt32}
theorem Za  (kk:O P N all rest Q ((d,v)::σ) e L) (h:ev σ x=some v:=by exact rfl) (hd:Nat.blt d N.n=true:=by exact rfl):O P N all (⟨some d,.move x,ty,pos,af,none⟩::rest) Q σ e L:=O.move h hd kk
theorem Zb  (kk:O P N all rest Q ((d,v)::σ) e L) (h:ev σ x=some v:=by exact rfl) (hd:Nat.blt d N.n=true:=by exact rfl):O P N all (⟨some d,.assign x,ty,pos,af,none⟩::rest) Q σ e L:=O.assign h hd kk
theorem Zc {x y:Code} (h:W P N x (kg (Next P N y Q) Q) σ e L) :W P N (.seq x y) Q σ e L:=W.seq h
theorem Zd {id:Nat} {l:List Oper} (h:O P N l.toArray l Q σ e L) :W P N (.region id l.toArray false) Q σ e L:=W.region h
theorem Ze  (h:Fin Q .normal σ e L) :O P N all [] Q σ e L:=O.nil h
theorem Zf {y:Code} {Q1:fM} (h:W P N y Q1 σ e L) :Fin (kg (Next P N y Q1) Q) .normal σ e L:=Fin.next h
theorem Zg {p:Addr} (kk:O P N all rest Q ((d,.pointer (some p))::σ) e L) (h:ev σ x=some (.pointer (some p)):=by exact rfl) (hd:Nat.blt d N.n=true:=by exact rfl):O P N all (⟨some d,.nilCheck x,ty,pos,af,none⟩::rest) Q σ e L:=O.nilCheck h hd kk
theorem Zh {s f off g o:Nat} [i:cP P s f off] (kk:O P N all rest Q ((d,.pointer (some ⟨g,o+off,none⟩))::σ) e L) (h:ev σ x=some (.pointer (some ⟨g,o,none⟩)):=by exact rfl) (hd:Nat.blt d N.n=true:=by exact rfl):O P N all (⟨some d,.fieldAddr s x f,ty,pos,af,none⟩::rest) Q σ e L:=O.fieldAddr h hd kk
theorem Zi {p:Addr} [i:dL P t] (kk:O P N all rest Q ((d,v)::σ) e L) (h:ev σ x=some (.pointer (some p)):=by exact rfl) (r:Rd L p v:=by (repeat first|exact bR .zero rfl|assumption|apply Rd.tail);done) (hd:Nat.blt d N.n=true:=by exact rfl):O P N all (⟨some d,.load t x,ty,pos,af,none⟩::rest) Q σ e L:=b7 h r hd kk
theorem Zj {n g o:Nat} {cs:List Value} [i:ju P t n] (kk:O P N all rest Q ((d,.agg cs.toArray)::σ) e L) (h:ev σ x=some (.pointer (some ⟨g,o,none⟩)):=by exact rfl) (r:eh L g o cs:=by (repeat first|exact bW .zero|assumption|apply eh.tail);done) (hl:cs.length=n:=by exact rfl) (hd:Nat.blt d N.n=true:=by exact rfl):O P N all (⟨some d,.load t x,ty,pos,af,none⟩::rest) Q σ e L:=O.dD h r hl hd kk
theorem Zk {el n l c:Nat} {ad:Option Addr} {ats:List TypeId} [i:ja P t el n] (kk:O P N all rest Q ((d,.int .i64 (l:Int))::σ) e L) (h:ev σ x=some (.slice ad l c):=by exact rfl) (hd:Nat.blt d N.n=true:=by exact rfl):O P N all (⟨some d,.call { callee:=.builtin .len,args:=#[x],argTypes:=(t::ats).toArray },ty,pos,af,none⟩::rest) Q σ e L:=O.len h hd kk
theorem Zl  (kk:O P N all rest Q ((d,v)::σ) e L) (h:ev σ x=some (.bool true):=by exact rfl) (h1:ev σ y=some v:=by exact rfl) (hd:Nat.blt d N.n=true:=by exact rfl):O P N all (⟨some d,.pick x y z,ty,pos,af,none⟩::rest) Q σ e L:=O.eP h h1 hd kk
theorem Zm  (kk:O P N all rest Q ((d,v)::σ) e L) (h:ev σ x=some (.bool false):=by exact rfl) (h1:ev σ z=some v:=by exact rfl) (hd:Nat.blt d N.n=true:=by exact rfl):O P N all (⟨some d,.pick x y z,ty,pos,af,none⟩::rest) Q σ e L:=O.eF h h1 hd kk
theorem Zn {dst:Option Tmp} {j:Nat} {want:Bool} (k:O P N all (⟨dst,op,ty,pos,af,none⟩::rest) Q σ e L) (h:pz σ all j want=some true:=by exact rfl):O P N all (⟨dst,op,ty,pos,af,some (j,want)⟩::rest) Q σ e L:=O.want h k
theorem Zo {j:Nat} {want:Bool} (k:O P N all rest Q ((d,undef)::σ) e L) (h:pz σ all j want=some false:=by exact rfl) (hd:Nat.blt d N.n=true:=by exact rfl):O P N all (⟨some d,op,ty,pos,af,some (j,want)⟩::rest) Q σ e L:=O.Pp h hd k
theorem Zq {el:TypeId} {p:Addr} [i:qK P t el] (kk:O P N all rest Q ((d,.bool false)::σ) e L) (h:ev σ x=some (.pointer (some p)):=by exact rfl) (h1:ev σ y=some (.pointer none):=by exact rfl) (hd:Nat.blt d N.n=true:=by exact rfl):O P N all (⟨some d,.binOp .eql t x y t',ty,pos,af,none⟩::rest) Q σ e L:=O.Nb h h1 hd kk
theorem Zs {el n l c:Nat} {p:Addr} [i:ja P t el n] (kk:O P N all rest Q ((d,.bool false)::σ) e L) (h:ev σ x=some (.slice (some p) l c):=by exact rfl) (h1:ev σ y=some (.slice none 0 0):=by exact rfl) (hd:Nat.blt d N.n=true:=by exact rfl):O P N all (⟨some d,.binOp .eql t x y t',ty,pos,af,none⟩::rest) Q σ e L:=O.PC h h1 hd kk
theorem Zt {el n l c:Nat} [i:ja P t el n] (kk:O P N all rest Q ((d,.bool true)::σ) e L) (h:ev σ x=some (.slice none l c):=by exact rfl) (h1:ev σ y=some (.slice none 0 0):=by exact rfl) (hd:Nat.blt d N.n=true:=by exact rfl):O P N all (⟨some d,.binOp .eql t x y t',ty,pos,af,none⟩::rest) Q σ e L:=O.PD h h1 hd kk
theorem Zu {el:TypeId} {p:Addr} [i:qK P t el] (kk:O P N all rest Q ((d,.bool true)::σ) e L) (h:ev σ x=some (.pointer (some p)):=by exact rfl) (h1:ev σ y=some (.pointer none):=by exact rfl) (hd:Nat.blt d N.n=true:=by exact rfl):O P N all (⟨some d,.binOp .neq t x y t',ty,pos,af,none⟩::rest) Q σ e L:=O.Nc h h1 hd kk
theorem Zy  (kk:O P N all rest Q ((d,.bool false)::σ) e L) (h:ev σ x=some (.bool true):=by exact rfl) (hd:Nat.blt d N.n=true:=by exact rfl):O P N all (⟨some d,.unOp .not t x,ty,pos,af,none⟩::rest) Q σ e L:=O.jX h hd kk
theorem Zz  (kk:O P N all rest Q ((d,.bool true)::σ) e L) (h:ev σ x=some (.bool false):=by exact rfl) (hd:Nat.blt d N.n=true:=by exact rfl):O P N all (⟨some d,.unOp .not t x,ty,pos,af,none⟩::rest) Q σ e L:=O.pF h hd kk
theorem ZA  (kk:O P N all rest Q ((d,.bool true)::σ) e L) (h:ev σ x=some (.int k m):=by exact rfl) (h1:ev σ y=some (.int k n):=by exact rfl) (hp:m<n:=by omega) (hd:Nat.blt d N.n=true:=by exact rfl):O P N all (⟨some d,.binOp .lss t x y t',ty,pos,af,none⟩::rest) Q σ e L:=O.R7 h h1 hp hd kk
theorem ZB  (kk:O P N all rest Q ((d,.bool false)::σ) e L) (h:ev σ x=some (.int k m):=by exact rfl) (h1:ev σ y=some (.int k n):=by exact rfl) (hp:¬ (m<n):=by omega) (hd:Nat.blt d N.n=true:=by exact rfl):O P N all (⟨some d,.binOp .lss t x y t',ty,pos,af,none⟩::rest) Q σ e L:=O.R8 h h1 hp hd kk
theorem ZC  (k1:m<n→O P N all rest Q ((d,.bool true)::σ) e L) (k2:¬ (m<n)→O P N all rest Q ((d,.bool false)::σ) e L) (h:ev σ x=some (.int k m):=by exact rfl) (h1:ev σ y=some (.int k n):=by exact rfl) (hd:Nat.blt d N.n=true:=by exact rfl):O P N all (⟨some d,.binOp .lss t x y t',ty,pos,af,none⟩::rest) Q σ e L:=O.R9 h h1 hd k1 k2
theorem ZD  (kk:O P N all rest Q ((d,.bool true)::σ) e L) (h:ev σ x=some (.int k m):=by exact rfl) (h1:ev σ y=some (.int k n):=by exact rfl) (hp:m≤n:=by omega) (hd:Nat.blt d N.n=true:=by exact rfl):O P N all (⟨some d,.binOp .leq t x y t',ty,pos,af,none⟩::rest) Q σ e L:=O.Sa h h1 hp hd kk
theorem ZE  (kk:O P N all rest Q ((d,.bool false)::σ) e L) (h:ev σ x=some (.int k m):=by exact rfl) (h1:ev σ y=some (.int k n):=by exact rfl) (hp:¬ (m≤n):=by omega) (hd:Nat.blt d N.n=true:=by exact rfl):O P N all (⟨some d,.binOp .leq t x y t',ty,pos,af,none⟩::rest) Q σ e L:=O.Sb h h1 hp hd kk
theorem ZG  (kk:O P N all rest Q ((d,.bool true)::σ) e L) (h:ev σ x=some (.int k m):=by exact rfl) (h1:ev σ y=some (.int k n):=by exact rfl) (hp:n<m:=by omega) (hd:Nat.blt d N.n=true:=by exact rfl):O P N all (⟨some d,.binOp .gtr t x y t',ty,pos,af,none⟩::rest) Q σ e L:=O.Sc h h1 hp hd kk
theorem ZH  (kk:O P N all rest Q ((d,.bool false)::σ) e L) (h:ev σ x=some (.int k m):=by exact rfl) (h1:ev σ y=some (.int k n):=by exact rfl) (hp:¬ (n<m):=by omega) (hd:Nat.blt d N.n=true:=by exact rfl):O P N all (⟨some d,.binOp .gtr t x y t',ty,pos,af,none⟩::rest) Q σ e L:=O.Sd h h1 hp hd kk
theorem ZI  (k1:n<m→O P N all rest Q ((d,.bool true)::σ) e L) (k2:¬ (n<m)→O P N all rest Q ((d,.bool false)::σ) e L) (h:ev σ x=some (.int k m):=by exact rfl) (h1:ev σ y=some (.int k n):=by exact rfl) (hd:Nat.blt d N.n=true:=by exact rfl):O P N all (⟨some d,.binOp .gtr t x y t',ty,pos,af,none⟩::rest) Q σ e L:=O.Se h h1 hd k1 k2
theorem ZJ  (kk:O P N all rest Q ((d,.bool true)::σ) e L) (h:ev σ x=some (.int k m):=by exact rfl) (h1:ev σ y=some (.int k n):=by exact rfl) (hp:n≤m:=by omega) (hd:Nat.blt d N.n=true:=by exact rfl):O P N all (⟨some d,.binOp .geq t x y t',ty,pos,af,none⟩::rest) Q σ e L:=O.Sf h h1 hp hd kk
theorem ZK  (kk:O P N all rest Q ((d,.bool false)::σ) e L) (h:ev σ x=some (.int k m):=by exact rfl) (h1:ev σ y=some (.int k n):=by exact rfl) (hp:¬ (n≤m):=by omega) (hd:Nat.blt d N.n=true:=by exact rfl):O P N all (⟨some d,.binOp .geq t x y t',ty,pos,af,none⟩::rest) Q σ e L:=O.Sg h h1 hp hd kk
theorem ZM  (kk:O P N all rest Q ((d,.bool true)::σ) e L) (h:ev σ x=some (.int k m):=by exact rfl) (h1:ev σ y=some (.int k n):=by exact rfl) (hp:m=n:=by omega) (hd:Nat.blt d N.n=true:=by exact rfl):O P N all (⟨some d,.binOp .eql t x y t',ty,pos,af,none⟩::rest) Q σ e L:=O.Sh h h1 hp hd kk
theorem ZN  (kk:O P N all rest Q ((d,.bool false)::σ) e L) (h:ev σ x=some (.int k m):=by exact rfl) (h1:ev σ y=some (.int k n):=by exact rfl) (hp:¬ (m=n):=by omega) (hd:Nat.blt d N.n=true:=by exact rfl):O P N all (⟨some d,.binOp .eql t x y t',ty,pos,af,none⟩::rest) Q σ e L:=O.Si h h1 hp hd kk
theorem ZO  (k1:m=n→O P N all rest Q ((d,.bool true)::σ) e L) (k2:¬ (m=n)→O P N all rest Q ((d,.bool false)::σ) e L) (h:ev σ x=some (.int k m):=by exact rfl) (h1:ev σ y=some (.int k n):=by exact rfl) (hd:Nat.blt d N.n=true:=by exact rfl):O P N all (⟨some d,.binOp .eql t x y t',ty,pos,af,none⟩::rest) Q σ e L:=O.Sj h h1 hd k1 k2
theorem ZP  (kk:O P N all rest Q ((d,.bool true)::σ) e L) (h:ev σ x=some (.int k m):=by exact rfl) (h1:ev σ y=some (.int k n):=by exact rfl) (hp:m≠n:=by omega) (hd:Nat.blt d N.n=true:=by exact rfl):O P N all (⟨some d,.binOp .neq t x y t',ty,pos,af,none⟩::rest) Q σ e L:=O.Sk h h1 hp hd kk
theorem ZQ  (kk:O P N all rest Q ((d,.bool false)::σ) e L) (h:ev σ x=some (.int k m):=by exact rfl) (h1:ev σ y=some (.int k n):=by exact rfl) (hp:¬ (m≠n):=by omega) (hd:Nat.blt d N.n=true:=by exact rfl):O P N all (⟨some d,.binOp .neq t x y t',ty,pos,af,none⟩::rest) Q σ e L:=O.Sl h h1 hp hd kk
theorem ZS  (kk:O P N all rest Q ((d,.int .i64 (m+n))::σ) e L) (h:ev σ x=some (.int .i64 m):=by exact rfl) (h1:ev σ y=some (.int .i64 n):=by exact rfl) (hb:-9223372036854775808≤m+n∧m+n≤9223372036854775807:=by omega) (hd:Nat.blt d N.n=true:=by exact rfl):O P N all (⟨some d,.binOp .add t x y t',ty,pos,af,none⟩::rest) Q σ e L:=O.la h h1 hb hd kk
theorem ZU  (kk:O P N all rest Q ((d,.int .i64 (m - n))::σ) e L) (h:ev σ x=some (.int .i64 m):=by exact rfl) (h1:ev σ y=some (.int .i64 n):=by exact rfl) (hb:-9223372036854775808≤m - n∧m - n≤9223372036854775807:=by omega) (hd:Nat.blt d N.n=true:=by exact rfl):O P N all (⟨some d,.binOp .sub t x y t',ty,pos,af,none⟩::rest) Q σ e L:=O.jL h h1 hb hd kk
theorem ZV  (kk:O P N all rest Q ((d,.int k (k.wrap (m - n)))::σ) e L) (h:ev σ x=some (.int k m):=by exact rfl) (h1:ev σ y=some (.int k n):=by exact rfl) (hd:Nat.blt d N.n=true:=by exact rfl):O P N all (⟨some d,.binOp .sub t x y t',ty,pos,af,none⟩::rest) Q σ e L:=O.sub h h1 hd kk
theorem ZW  (kk:O P N all rest Q ((d,.int .i64 (m*n))::σ) e L) (h:ev σ x=some (.int .i64 m):=by exact rfl) (h1:ev σ y=some (.int .i64 n):=by exact rfl) (hb:-9223372036854775808≤m*n∧m*n≤9223372036854775807:=by omega) (hd:Nat.blt d N.n=true:=by exact rfl):O P N all (⟨some d,.binOp .mul t x y t',ty,pos,af,none⟩::rest) Q σ e L:=O.uX h h1 hb hd kk
theorem ZX  (kk:O P N all rest Q ((d,.int k (k.wrap (m*n)))::σ) e L) (h:ev σ x=some (.int k m):=by exact rfl) (h1:ev σ y=some (.int k n):=by exact rfl) (hd:Nat.blt d N.n=true:=by exact rfl):O P N all (⟨some d,.binOp .mul t x y t',ty,pos,af,none⟩::rest) Q σ e L:=O.mul h h1 hd kk
theorem ZY {s:TypeId} [i:ij P s k] [j:ij P t k'] (kk:O P N all rest Q ((d,.int k' m)::σ) e L) (h:ev σ x=some (.int k m):=by exact rfl) (hw:k'.wrap m=m:=by (first|exact wrap_i64 (by omega) (by omega)|exact wrap_u32 (by omega) (by omega)|exact wrap_u8 (by omega) (by omega))) (hd:Nat.blt d N.n=true:=by exact rfl):O P N all (⟨some d,.convert s t x,ty,pos,af,none⟩::rest) Q σ e L:=O.nD h hw hd kk
theorem ZZ {s:TypeId} [i:ij P s k] [j:ij P t k'] (kk:O P N all rest Q ((d,.int k' (k'.wrap m))::σ) e L) (h:ev σ x=some (.int k m):=by exact rfl) (hd:Nat.blt d N.n=true:=by exact rfl):O P N all (⟨some d,.convert s t x,ty,pos,af,none⟩::rest) Q σ e L:=O.jv h hd kk
theorem Z0  (kk:O P N all rest Q ((d,.int k (k.wrap (m*2 ^ (min n.toNat k.bits))))::σ) e L) (h:ev σ x=some (.int k m):=by exact rfl) (h1:ev σ y=some (.int k' n):=by exact rfl) (h0:0≤n:=by omega) (hd:Nat.blt d N.n=true:=by exact rfl):O P N all (⟨some d,.binOp .shl t x y t',ty,pos,af,none⟩::rest) Q σ e L:=O.shl h h1 h0 hd kk
theorem Z1  (kk:O P N all rest Q ((d,.int k (m.fdiv (2 ^ (min n.toNat k.bits))))::σ) e L) (h:ev σ x=some (.int k m):=by exact rfl) (h1:ev σ y=some (.int k' n):=by exact rfl) (h0:0≤n:=by omega) (hd:Nat.blt d N.n=true:=by exact rfl):O P N all (⟨some d,.binOp .shr t x y t',ty,pos,af,none⟩::rest) Q σ e L:=O.shr h h1 h0 hd kk
theorem Z2  (kk:O P N all rest Q ((d,.int k (Go.bits .and k m n))::σ) e L) (h:ev σ x=some (.int k m):=by exact rfl) (h1:ev σ y=some (.int k n):=by exact rfl) (hd:Nat.blt d N.n=true:=by exact rfl):O P N all (⟨some d,.binOp .and t x y t',ty,pos,af,none⟩::rest) Q σ e L:=O.and h h1 hd kk
theorem Z3  (kk:O P N all rest Q ((d,.int k (Go.bits .or k m n))::σ) e L) (h:ev σ x=some (.int k m):=by exact rfl) (h1:ev σ y=some (.int k n):=by exact rfl) (hd:Nat.blt d N.n=true:=by exact rfl):O P N all (⟨some d,.binOp .or t x y t',ty,pos,af,none⟩::rest) Q σ e L:=O.or h h1 hd kk
theorem Z6 {T el n:Nat} {l:List UInt8} [i:ja P t el n] [j:ij P el .u8] [s:su P T] (kk:O P N all rest Q ((d,.string (str l))::σ) e L) (h:ev σ x=some v:=by exact rfl) (r:da L v l:=by (repeat first|exact ba .zero|exact cF.view .zero|assumption|apply da.tail);done) (hd:Nat.blt d N.n=true:=by exact rfl):O P N all (⟨some d,.convert t T x,ty,pos,af,none⟩::rest) Q σ e L:=O.bytes h r hd kk
theorem Z7 {a b:List UInt8} (kk:O P N all rest Q ((d,.bool true)::σ) e L) (h:ev σ x=some (.string (str a)):=by exact rfl) (h1:ev σ y=some (.string (str b)):=by exact rfl) (hp:a=b:=by (first|exact rfl|assumption)) (hd:Nat.blt d N.n=true:=by exact rfl):O P N all (⟨some d,.binOp .eql t x y t',ty,pos,af,none⟩::rest) Q σ e L:=O.KG h h1 hp hd kk
theorem Z8 {a b:List UInt8} (kk:O P N all rest Q ((d,.bool false)::σ) e L) (h:ev σ x=some (.string (str a)):=by exact rfl) (h1:ev σ y=some (.string (str b)):=by exact rfl) (hp:¬ (a=b):=by assumption) (hd:Nat.blt d N.n=true:=by exact rfl):O P N all (⟨some d,.binOp .eql t x y t',ty,pos,af,none⟩::rest) Q σ e L:=O.KH h h1 hp hd kk
theorem Yd {g off:Nat} {cs cs':List Value} {T:TypeId} {L':List cK} [i:dL P t] (kk:O P N all rest Q σ e L') (h:ev σ x=some (.pointer (some ⟨g,off,none⟩)):=by exact rfl) (h1:ev σ y=some v:=by exact rfl) (hv:v.oneCell'=true:=by (first|exact rfl|assumption)) (u:uW L (cM g cs T (0,0)) (cM g cs' T (0,0)) L':=by (repeat first|exact uW.zero|apply uW.succ);done) (jM:gB cs off v cs':=by (repeat first|exact gB.zero|apply gB.succ);done):O P N all (⟨none,.store t x y,ty,pos,af,none⟩::rest) Q σ e L:=O.store h h1 hv u jM kk
theorem Ye {m9:Array (Nat × Nat)} {z:Array Value} {cells:List Value} {parts:List (Nat × Operand)} {vs:List (Nat × Value)} [i:ek P t m9 z] (kk:O P N all rest Q ((d,.agg cells.toArray)::σ) e L) (h:tP σ parts=some vs:=by exact rfl) (hc:Instr.fill (m9[·]?) z vs=some cells.toArray:=by (simp [Instr.fill,Value.cells];rfl)) (hd:Nat.blt d N.n=true:=by exact rfl):O P N all (⟨some d,.build t parts.toArray,ty,pos,af,none⟩::rest) Q σ e L:=O.build h hc hd kk
theorem Yf {el n g o l c:Nat} {cs:List Value} {T:TypeId} {L':List cK} [i:ja P t el n] [j:ij P el .u8] (kk:O P N all rest Q ((d,.slice (some ⟨g,o,none⟩) l c)::σ) e L') (hx:ev σ x=some (.slice (some ⟨g,o,none⟩) l c):=by exact rfl) (u:uW L (cM g cs T (0,0)) (cM g cs T (cs.length,cs.length+1)) L':=by (repeat first|exact uW.zero|apply uW.succ);done) (hd:Nat.blt d N.n=true:=by exact rfl):O P N all (⟨some d,.convert t t x,ty,pos,af,none⟩::rest) Q σ e L:=O.Fi hx u hd kk
theorem Yg {cs:List Value} (kk:∀ g,O P N all rest Q ((d,.pointer (some ⟨g,0,none⟩))::σ) e (cM g cs t (0,0)::L)) (h:ev σ x=some v:=by exact rfl) (hc:v.cells=cs.toArray:=by exact rfl) (hd:Nat.blt d N.n=true:=by exact rfl):O P N all (⟨some d,.box t x,ty,pos,af,none⟩::rest) Q σ e L:=O.box h hc hd kk
theorem Yh {z:Value} {cs:List Value} [i:fD P t z] (kk:∀ g,O P N all rest Q ((d,.pointer (some ⟨g,0,none⟩))::σ) e (cM g cs t (0,0)::L)) (hc:z.cells=cs.toArray:=by exact rfl) (hd:Nat.blt d N.n=true:=by exact rfl):O P N all (⟨some d,.alloc t,ty,pos,af,none⟩::rest) Q σ e L:=cj hc hd kk
theorem Yi {el n len b:Nat} {z:Value} {parts:List (Nat × Operand)} {vs:List (Nat × Value)} {cs:List Value} [i:ja P t el n] [j:qU P el z n b] (kk:∀ g,O P N all rest Q ((d,.slice (some ⟨g,0,none⟩) len len)::σ) e (cM g cs el (0,0)::L)) (h:tP σ parts=some vs:=by exact rfl) (hn:Nat.ble (len*n) 16777216=true:=by exact rfl) (hlen:vs.length=len:=by exact rfl) (hc:gS n 0 vs cs:=by (repeat first|exact Bs.gS.nil|apply Bs.gS.one rfl rfl|apply Bs.gS.one (Bs.dU (by assumption)) rfl|(apply Bs.gS.agg;exact rfl));done) (hz:z.cells.size=n:=by exact rfl) (hd:Nat.blt d N.n=true:=by exact rfl):O P N all (⟨some d,.buildSlice t len parts.toArray,ty,pos,af,none⟩::rest) Q σ e L:=bZ h hn hlen hc hz hd kk
theorem Ym {s:ByteArray} {ats:List TypeId} [i:su P t] (kk:O P N all rest Q ((d,.int .i64 (s.size:Int))::σ) e L) (h:ev σ x=some (.string s):=by exact rfl) (hd:Nat.blt d N.n=true:=by exact rfl):O P N all (⟨some d,.call { callee:=.builtin .len,args:=#[x],argTypes:=(t::ats).toArray },ty,pos,af,none⟩::rest) Q σ e L:=O.Pq h hd kk
theorem Yr {el n l c:Nat} {ad:Option Addr} {i:Int} [s:ja P t el n] (kk:O P N all rest Q ((d,.slice ad i.toNat c)::σ) e L) (h:ev σ x=some (.slice ad l c):=by exact rfl) (h1:ev σ y=some (.int k i):=by exact rfl) (h0:0≤i:=by omega) (hl:i≤c:=by omega) (hd:Nat.blt d N.n=true:=by exact rfl):O P N all (⟨some d,.slice t x none (some y) none,ty,pos,af,none⟩::rest) Q σ e L:=O.gY h h1 h0 hl hd kk
theorem Ys {el n l c:Nat} {ad:Option Addr} {i:Int} [s:ja P t el n] (kk:O P N all rest Q ((d,.slice (cutAt ad c i.toNat n) (l - i.toNat) (c - i.toNat))::σ) e L) (h:ev σ x=some (.slice ad l c):=by exact rfl) (h1:ev σ y=some (.int k i):=by exact rfl) (h0:0≤i:=by omega) (hl:i≤l:=by omega) (hd:Nat.blt d N.n=true:=by exact rfl):O P N all (⟨some d,.slice t x (some y) none none,ty,pos,af,none⟩::rest) Q σ e L:=O.jw h h1 h0 hl hd kk
theorem Yt {el n l c:Nat} {ad:Option Addr} {i j:Int} [s:ja P t el n] (kk:O P N all rest Q ((d,.slice (cutAt ad c i.toNat n) (j.toNat - i.toNat) (c - i.toNat))::σ) e L) (h:ev σ x=some (.slice ad l c):=by exact rfl) (h1:ev σ y=some (.int k i):=by exact rfl) (h2:ev σ z=some (.int k' j):=by exact rfl) (h0:0≤i:=by omega) (hl:i≤j:=by omega) (hj:j≤c:=by omega) (hd:Nat.blt d N.n=true:=by exact rfl):O P N all (⟨some d,.slice t x (some y) (some z) none,ty,pos,af,none⟩::rest) Q σ e L:=O.tV h h1 h2 h0 hl hj hd kk
theorem Yu {ats:Array TypeId} (kk:O P N all rest Q ((d,.int k (if n > m then n else m))::σ) e L) (h:ev σ x=some (.int k m):=by exact rfl) (h1:ev σ y=some (.int k' n):=by exact rfl) (hd:Nat.blt d N.n=true:=by exact rfl):O P N all (⟨some d,.call { callee:=.builtin .max,args:=#[x,y],argTypes:=ats },ty,pos,af,none⟩::rest) Q σ e L:=O.max h h1 hd kk
theorem Yw {el l c g o i:Nat} [s:ja P t el 1] (kk:O P N all rest Q ((d,.pointer (some ⟨g,o+i,none⟩))::σ) e L) (h:ev σ x=some (.slice (some ⟨g,o,none⟩) l c):=by exact rfl) (h1:ev σ y=some (.int k (i:Int)):=by exact rfl) (hl:i<l:=by omega) (hd:Nat.blt d N.n=true:=by exact rfl):O P N all (⟨some d,.indexAddr t x y,ty,pos,af,none⟩::rest) Q σ e L:=O.fp h h1 hl hd kk
theorem Yx {el n l c g o i:Nat} [s:ja P t el n] (kk:O P N all rest Q ((d,.pointer (some ⟨g,o+i*n,none⟩))::σ) e L) (h:ev σ x=some (.slice (some ⟨g,o,none⟩) l c):=by exact rfl) (h1:ev σ y=some (.int k (i:Int)):=by exact rfl) (hl:i<l:=by omega) (hd:Nat.blt d N.n=true:=by exact rfl):O P N all (⟨some d,.indexAddr t x y,ty,pos,af,none⟩::rest) Q σ e L:=O.dQ h h1 hl hd kk
theorem Yy {el n l c g o:Nat} {i:Int} [s:ja P t el n] (kk:O P N all rest Q ((d,.pointer (some ⟨g,o+i.toNat*n,none⟩))::σ) e L) (h:ev σ x=some (.slice (some ⟨g,o,none⟩) l c):=by exact rfl) (h1:ev σ y=some (.int k i):=by exact rfl) (h0:0≤i:=by omega) (hl:i<l:=by omega) (hd:Nat.blt d N.n=true:=by exact rfl):O P N all (⟨some d,.indexAddr t x y,ty,pos,af,none⟩::rest) Q σ e L:=O.indexAddr h h1 h0 hl hd kk
theorem Yz {c:Operand} {x y:Code} (ht:W P N x Q σ e L) (hc:ev σ c=some (.bool true):=by exact rfl):W P N (.cond c x y) Q σ e L:=W.Pn hc ht
theorem YA {c:Operand} {x y:Code} (hf:W P N y Q σ e L) (hc:ev σ c=some (.bool false):=by exact rfl):W P N (.cond c x y) Q σ e L:=W.Po hc hf
theorem YB {id:Nat} {c:Code} (h:W P N c (jQ id Q) σ e L) :W P N (.block id c) Q σ e L:=W.block h
theorem YC  (h:Fin Q .normal σ e L) :W P N .skip Q σ e L:=W.skip h
theorem YD {id:Nat} (h:Fin Q (.exit id) σ e L) :W P N (.exit id) Q σ e L:=W.exit h
theorem YE  (h:Fin Q .ret σ e L) :W P N .ret Q σ e L:=W.ret h
theorem YF {K:Env→World→Prop} (h:Fin Q .ret σ e L) :Fin (kg K Q) .ret σ e L:=Fin.Kz h
theorem YG {K:Env→World→Prop} {i:Nat} (h:Fin Q (.exit i) σ e L) :Fin (kg K Q) (.exit i) σ e L:=Fin.Iw h
theorem YH {id:Nat} (h:Fin Q .normal σ e L) :Fin (jQ id Q) .normal σ e L:=Fin.sw h
theorem YI {id:Nat} (h:Fin Q .ret σ e L) :Fin (jQ id Q) .ret σ e L:=Fin.Ix h
theorem YJ {id:Nat} (h:Fin Q .normal σ e L) :Fin (jQ id Q) (.exit id) σ e L:=Fin.Iy h
theorem YK {id i:Nat} (h:Fin Q (.exit i) σ e L) (hi:Nat.beq i id=false:=by exact rfl):Fin (jQ id Q) (.exit i) σ e L:=Fin.Fg hi h
theorem YL  (kk:O P N all rest Q ((d,.int k (m.tmod n))::σ) e L) (h:ev σ x=some (.int k m):=by exact rfl) (h1:ev σ y=some (.int k n):=by exact rfl) (h0:n≠0:=by omega) (hd:Nat.blt d N.n=true:=by exact rfl):O P N all (⟨some d,.binOp .rem t x y t',ty,pos,af,none⟩::rest) Q σ e L:=O.rem h h1 h0 hd kk
theorem YM  (kk:O P N all rest Q ((d,.int k (k.wrap (m.tdiv n)))::σ) e L) (h:ev σ x=some (.int k m):=by exact rfl) (h1:ev σ y=some (.int k n):=by exact rfl) (h0:n≠0:=by omega) (hd:Nat.blt d N.n=true:=by exact rfl):O P N all (⟨some d,.binOp .quo t x y t',ty,pos,af,none⟩::rest) Q σ e L:=O.quo h h1 h0 hd kk
theorem YN {vs:List Value} {i:Nat} (kk:O P N all rest Q ((d,v)::σ) e L) (h:ev σ x=some (.tuple vs.toArray):=by exact rfl) (hv:nth vs i=some v:=by exact rfl) (hd:Nat.blt d N.n=true:=by exact rfl):O P N all (⟨some d,.extract x i,ty,pos,af,none⟩::rest) Q σ e L:=O.extract h hv hd kk
theorem YP {f:FuncId} {xs ys:List Operand} {us vs:List Value} (kk:O P N all rest Q ((d,.func (.func f) us.toArray vs.toArray)::σ) e L) (h:py σ xs=some us:=by exact rfl) (h1:py σ ys=some vs:=by exact rfl) (hd:Nat.blt d N.n=true:=by exact rfl):O P N all (⟨some d,.makeFunc (.func f) xs.toArray ys.toArray,ty,pos,af,none⟩::rest) Q σ e L:=O.makeFunc h h1 hd kk
theorem YQ {g c kk nn off:Nat} {E:TypeId} {xs:List Value} {R:List cK} [i:dL P t] (k:O P N all rest Q σ e (dJ E nn (.slice (some ⟨g,0,none⟩) kk c) kk (xs.set off v)::R)) (h:ev σ x=some (.pointer (some ⟨g,off,none⟩)):=by exact rfl) (h1:ev σ y=some v:=by exact rfl) (hv:v.oneCell'=true:=by (first|exact rfl|assumption)) (p:cT L (dJ E nn (.slice (some ⟨g,0,none⟩) kk c) kk xs) R:=by (repeat first|exact cT.zero|apply cT.succ);done) (ho:off<kk*nn:=by omega):O P N all (⟨none,.store t x y,ty,pos,af,none⟩::rest) Q σ e L:=O.pG h h1 hv p ho k
theorem YR {nn g off:Nat} {vs cs cs':List Value} {T:TypeId} {L':List cK} [i:ju P t nn] (kk:O P N all rest Q σ e L') (h:ev σ x=some (.pointer (some ⟨g,off,none⟩)):=by exact rfl) (h1:ev σ y=some (.agg vs.toArray):=by exact rfl) (hn:vs.length=nn:=by exact rfl) (hv:∀ v∈vs,v.oneCell'=true:=by (repeat first|exact Hs|(apply Db;first|exact rfl|assumption));done) (u:uW L (cM g cs T (0,0)) (cM g cs' T (0,0)) L':=by (repeat first|exact uW.zero|apply uW.succ);done) (jM:iu cs off vs cs':=by (repeat first|exact iu.nil|apply iu.cons|exact gB.zero|apply gB.succ);done):O P N all (⟨none,.store t x y,ty,pos,af,none⟩::rest) Q σ e L:=O.ej h h1 hn hv u jM kk
theorem YT  (kk:O P N all rest Q ((d,cX (a+b))::σ) e L) (h:ev σ x=some (cX a):=by exact rfl) (h1:ev σ y=some (cX b):=by exact rfl) (hd:Nat.blt d N.n=true:=by exact rfl):O P N all (⟨some d,.binOp .add t x y t',ty,pos,af,none⟩::rest) Q σ e L:=O.nE h h1 hd kk
theorem YU  (kk:O P N all rest Q ((d,cX (a &&& b))::σ) e L) (h:ev σ x=some (cX a):=by exact rfl) (h1:ev σ y=some (cX b):=by exact rfl) (hd:Nat.blt d N.n=true:=by exact rfl):O P N all (⟨some d,.binOp .and t x y t',ty,pos,af,none⟩::rest) Q σ e L:=O.Dc h h1 hd kk
theorem YV  (kk:O P N all rest Q ((d,cX (a ||| b))::σ) e L) (h:ev σ x=some (cX a):=by exact rfl) (h1:ev σ y=some (cX b):=by exact rfl) (hd:Nat.blt d N.n=true:=by exact rfl):O P N all (⟨some d,.binOp .or t x y t',ty,pos,af,none⟩::rest) Q σ e L:=O.Nh h h1 hd kk
theorem YW  (kk:O P N all rest Q ((d,cX (a ^^^ b))::σ) e L) (h:ev σ x=some (cX a):=by exact rfl) (h1:ev σ y=some (cX b):=by exact rfl) (hd:Nat.blt d N.n=true:=by exact rfl):O P N all (⟨some d,.binOp .xor t x y t',ty,pos,af,none⟩::rest) Q σ e L:=O.pj h h1 hd kk
theorem YX {n:Int} (kk:O P N all rest Q ((d,cX (a <<< UInt32.ofNat n.toNat))::σ) e L) (h:ev σ x=some (cX a):=by exact rfl) (h1:ev σ y=some (.int k' n):=by exact rfl) (h0:0≤n∧n<32:=by omega) (hd:Nat.blt d N.n=true:=by exact rfl):O P N all (⟨some d,.binOp .shl t x y t',ty,pos,af,none⟩::rest) Q σ e L:=O.wT h h1 h0 hd kk
theorem YY {n:Int} (kk:O P N all rest Q ((d,cX (a >>> UInt32.ofNat n.toNat))::σ) e L) (h:ev σ x=some (cX a):=by exact rfl) (h1:ev σ y=some (.int k' n):=by exact rfl) (h0:0≤n∧n<32:=by omega) (hd:Nat.blt d N.n=true:=by exact rfl):O P N all (⟨some d,.binOp .shr t x y t',ty,pos,af,none⟩::rest) Q σ e L:=O.tY h h1 h0 hd kk
theorem YZ  (kk:O P N all rest Q ((d,cX (~~~a))::σ) e L) (h:ev σ x=some (cX a):=by exact rfl) (hd:Nat.blt d N.n=true:=by exact rfl):O P N all (⟨some d,.unOp .xor t x,ty,pos,af,none⟩::rest) Q σ e L:=O.Hu h hd kk
theorem Y0 {s:TypeId} [i:ij P s .u32] [j:ij P t .u8] (kk:O P N all rest Q ((d,u8 a.toUInt8)::σ) e L) (h:ev σ x=some (cX a):=by exact rfl) (hd:Nat.blt d N.n=true:=by exact rfl):O P N all (⟨some d,.convert s t x,ty,pos,af,none⟩::rest) Q σ e L:=O.ru h hd kk
theorem Y1 {s:TypeId} [i:ij P s .u8] [j:ij P t .u32] {c:UInt8} (kk:O P N all rest Q ((d,cX c.toUInt32)::σ) e L) (h:ev σ x=some (u8 c):=by exact rfl) (hd:Nat.blt d N.n=true:=by exact rfl):O P N all (⟨some d,.convert s t x,ty,pos,af,none⟩::rest) Q σ e L:=O.ms h hd kk
theorem Y2 {len el g o i:Nat} [s:rr P t len el 1] (kk:O P N all rest Q ((d,.pointer (some ⟨g,o+i,none⟩))::σ) e L) (h:ev σ x=some (.pointer (some ⟨g,o,none⟩)):=by exact rfl) (h1:ev σ y=some (.int k (i:Int)):=by exact rfl) (h0:i<len:=by omega) (hd:Nat.blt d N.n=true:=by exact rfl):O P N all (⟨some d,.indexAddr t x y,ty,pos,af,none⟩::rest) Q σ e L:=O.ee h h1 h0 hd kk
theorem Y3 {len el n g o:Nat} {i:Int} [s:rr P t len el n] (kk:O P N all rest Q ((d,.pointer (some ⟨g,o+i.toNat*n,none⟩))::σ) e L) (h:ev σ x=some (.pointer (some ⟨g,o,none⟩)):=by exact rfl) (h1:ev σ y=some (.int k i):=by exact rfl) (h0:0≤i∧i<len:=by omega) (hd:Nat.blt d N.n=true:=by exact rfl):O P N all (⟨some d,.indexAddr t x y,ty,pos,af,none⟩::rest) Q σ e L:=O.dG h h1 h0 hd kk
theorem Y4 {len el i:Nat} {cs:List Value} {v:Value} [s:rr P t len el 1] [q:dL P el] (kk:O P N all rest Q ((d,v)::σ) e L) (h:ev σ x=some (.agg cs.toArray):=by exact rfl) (h1:ev σ y=some (.int k (i:Int)):=by exact rfl) (h0:i<len:=by omega) (hv:cs[i]?=some v:=by (first|assumption|exact rfl)) (hd:Nat.blt d N.n=true:=by exact rfl):O P N all (⟨some d,.index t x y,ty,pos,af,none⟩::rest) Q σ e L:=O.Fm h h1 h0 hv hd kk
theorem Y5 {len el n:Nat} {z:Value} {parts:List (Nat × Operand)} {vs:List (Nat × Value)} {cs:List Value} [s:rr P t len el n] [j:fD P t z] (kk:O P N all rest Q ((d,.agg cs.toArray)::σ) e L) (h:tP σ parts=some vs:=by exact rfl) (hlen:vs.length=len:=by exact rfl) (hz:z.cells.size=len*n:=by exact rfl) (hc:gS n 0 vs cs:=by (repeat first|exact Bs.gS.nil|apply Bs.gS.one rfl rfl|apply Bs.gS.one (Bs.dU (by assumption)) rfl|(apply Bs.gS.agg;exact rfl));done) (hd:Nat.blt d N.n=true:=by exact rfl):O P N all (⟨some d,.build t parts.toArray,ty,pos,af,none⟩::rest) Q σ e L:=O.mu h hlen hz hc hd kk
end
end Go.Bs
namespace Go.Bs
abbrev pt (g:Nat):Value:=.pointer (some ⟨g,0,none⟩)
abbrev nY:Value:=.slice none 0 0
theorem zE {L L':List cK} (h:cC L L':=by ((repeat first|exact aX|exact bK|refine bh ?_|(apply bz;exact (by (repeat first|exact cT.zero|apply cT.succ);done))|refine cC.drop ?_);done)):cC L L':=h
theorem zP {L R:List cK} {A:cK} (h:cT L A R:=by ((repeat first|exact cT.zero|apply cT.succ);done)):cT L A R:=h
theorem zR {L:List cK} {p:Addr} {v:Value} (h:Rd L p v:=by ((repeat first|exact bR .zero rfl|assumption|apply Rd.tail);done)):Rd L p v:=h
theorem zA {L:List cK} {g o:Nat} {cs:List Value} (h:eh L g o cs:=by ((repeat first|exact bW .zero|assumption|apply eh.tail);done)):eh L g o cs:=h
theorem zB {L:List cK} {v:Value} {l:List UInt8} (h:da L v l:=by ((repeat first|exact ba .zero|exact cF.view .zero|assumption|apply da.tail);done)):da L v l:=h
theorem zL {L:List cK} {n k:Nat} {v:Value} {xs:List Value} (h:cF L n v k xs:=by ((repeat first|exact ba .zero|assumption|apply cF.tail);done)):cF L n v k xs:=h
theorem zS {σ σ':Env} (h:∀ k v,get σ' k=some v→get σ k=some v:=by ((repeat first|exact dc|refine cD rfl ?_);done)):∀ k v,get σ' k=some v→get σ k=some v:=h
theorem zO {l:List Value} (h:∀ v∈l,v.oneCell'=true:=by ((repeat first|exact Hs|(apply Db;first|exact rfl|assumption));done)):∀ v∈l,v.oneCell'=true:=h
theorem zU {L L':List cK} {A A':cK} (h:uW L A A' L':=by ((repeat first|exact uW.zero|apply uW.succ);done)):uW L A A' L':=h
theorem zK {α:Sort _} {a b:α} (h:a=b:=by kernel_rfl):a=b:=h
theorem zI {α:Sort _} {a b:α} (h:a=b:=by (first|(simp only [aC,Nat.add_zero,Nat.reduceAdd,List.drop_succ_cons,List.drop_zero,List.take_succ_cons,List.take_zero];done)|(simp only [aC,Nat.add_zero,Nat.reduceAdd,List.drop_succ_cons,List.drop_zero,List.take_succ_cons,List.take_zero];exact rfl))):a=b:=h
theorem zX {α:Sort _} {a b:α} (h:a=b:=by exact rfl):a=b:=h
theorem zo {p:Prop} (h:p:=by omega):p:=h
theorem zT {cs cs':List Value} {n:Nat} {v:Value} (h:gB cs n v cs':=by ((repeat first|exact gB.zero|apply gB.succ);done)):gB cs n v cs':=h
theorem zW {cs cs' vs:List Value} {n:Nat} (h:iu cs n vs cs':=by ((repeat first|exact iu.nil|apply iu.cons|exact gB.zero|apply gB.succ);done)):iu cs n vs cs':=h
theorem zQ {n i:Nat} {vs:List (Nat × Value)} {cs:List Value} (h:Bs.gS n i vs cs:=by ((repeat first|exact Bs.gS.nil|apply Bs.gS.one rfl rfl|apply Bs.gS.one (Bs.dU (by assumption)) rfl|(apply Bs.gS.agg;exact rfl));done)):Bs.gS n i vs cs:=h
theorem zF {α:Sort _} {a b:α} (h:a=b:=by (first|(simp [Instr.fill,Value.cells];done)|(simp [Instr.fill,Value.cells];rfl))):a=b:=h
theorem zn {p:Prop} (h:p:=by (first|omega|assumption|exact fun h=>h rfl)):p:=h
theorem zy {p:Prop} (h:p:=by (first|omega|assumption|rfl)):p:=h
theorem zw {a b:Int} (h:a=b:=by (first|exact wrap_i64 (by omega) (by omega)|exact wrap_u32 (by omega) (by omega)|exact wrap_u8 (by omega) (by omega))):a=b:=h
theorem zm {p:Prop} (h:p:=by (simp only [maxLen];omega)):p:=h
theorem zd {p:Prop} (h:p:=by (dsimp only;omega)):p:=h
theorem zl {p:Prop} (h:p:=by simp [maxLen]):p:=h
theorem zV {P:Program} {σ:Env} {L:List cK} {rs:List ResultVar} {vs:List Value} (h:rp P σ L rs vs:=by ((repeat first|exact rp.nil|(apply rp.tmp;exact rfl)|(apply rp.agg;exact rfl;(focus ((repeat first|exact bW .zero|assumption|apply eh.tail);done));exact rfl)|(apply rp.cell;exact rfl;(focus ((repeat first|exact bR .zero rfl|assumption|apply Rd.tail);done))));done)):rp P σ L rs vs:=h
theorem zN {T:List Nat} {l:Array Bool} {C:Prop} (h:fB T l=false:=by kernel_rfl):fB T l=true→C:=Hq h
structure Bx (p:Prop):Prop where
 out:p
theorem wB {G H:Prop} (h:H) (t:Bx H→G:=by (intro h;(repeat' first|apply Zf|apply Ze|apply Zd|apply Zc|refine Za ?_|refine Zb ?_|apply YE|refine Yz ?_|refine YA ?_|apply YC|refine Zi ?_|refine Zj ?_|refine Zh ?_|apply YF|apply YB|apply YH|apply YI|refine Zk ?_|refine Ym ?_|refine ZA ?_|refine ZB ?_|refine Zn ?_|refine Zo ?_|refine ZS ?_|refine Zg ?_|refine Yd ?_|refine YQ ?_|refine YR ?_|refine Zl ?_|refine Zm ?_|refine Yh ?_|apply YD|apply YG|apply YJ|refine YK ?_|refine Yg ?_|refine YN ?_|refine Yw ?_|refine Yx ?_|refine Yy ?_|refine Zy ?_|refine Zz ?_|refine Ye ?_|refine ZY ?_|refine ZZ ?_|refine Z6 ?_|refine Yf ?_|refine Zu ?_|refine ZP ?_|refine ZQ ?_|refine Yi ?_|refine ZU ?_|refine ZV ?_|refine Zq ?_|refine Zs ?_|refine Zt ?_|refine ZM ?_|refine ZN ?_|refine Z7 ?_|refine Z8 ?_|refine ZJ ?_|refine ZK ?_|refine ZG ?_|refine ZH ?_|refine Z1 ?_|refine ZW ?_|refine ZX ?_|refine Yr ?_|refine Ys ?_|refine Yt ?_|refine YL ?_|refine Z0 ?_|refine Z3 ?_|refine Z2 ?_|refine ZD ?_|refine ZE ?_|refine YP ?_|refine YM ?_|refine Yu ?_|fail);exact h.out)):G:=t ⟨h⟩
theorem wA {G H:Prop} (h:H) (t:Bx H→G:=by (intro h;(first|apply Zf|apply Ze|apply Zd|apply Zc|refine Za ?_|refine Zb ?_|apply YE|refine Yz ?_|refine YA ?_|apply YC|refine Zi ?_|refine Zj ?_|refine Zh ?_|apply YF|apply YB|apply YH|apply YI|refine Zk ?_|refine Ym ?_|refine ZA ?_|refine ZB ?_|refine Zn ?_|refine Zo ?_|refine ZS ?_|refine Zg ?_|refine Yd ?_|refine YQ ?_|refine YR ?_|refine Zl ?_|refine Zm ?_|refine Yh ?_|apply YD|apply YG|apply YJ|refine YK ?_|refine Yg ?_|refine YN ?_|refine Yw ?_|refine Yx ?_|refine Yy ?_|refine Zy ?_|refine Zz ?_|refine Ye ?_|refine ZY ?_|refine ZZ ?_|refine Z6 ?_|refine Yf ?_|refine Zu ?_|refine ZP ?_|refine ZQ ?_|refine Yi ?_|refine ZU ?_|refine ZV ?_|refine Zq ?_|refine Zs ?_|refine Zt ?_|refine ZM ?_|refine ZN ?_|refine Z7 ?_|refine Z8 ?_|refine ZJ ?_|refine ZK ?_|refine ZG ?_|refine ZH ?_|refine Z1 ?_|refine ZW ?_|refine ZX ?_|refine Yr ?_|refine Ys ?_|refine Yt ?_|refine YL ?_|refine Z0 ?_|refine Z3 ?_|refine Z2 ?_|refine ZD ?_|refine ZE ?_|refine YP ?_|refine YM ?_|refine Yu ?_|fail);(repeat' first|apply Zf|apply Ze|apply Zd|apply Zc|refine Za ?_|refine Zb ?_|apply YE|refine Yz ?_|refine YA ?_|apply YC|refine Zi ?_|refine Zj ?_|refine Zh ?_|apply YF|apply YB|apply YH|apply YI|refine Zk ?_|refine Ym ?_|refine ZA ?_|refine ZB ?_|refine Zn ?_|refine Zo ?_|refine ZS ?_|refine Zg ?_|refine Yd ?_|refine YQ ?_|refine YR ?_|refine Zl ?_|refine Zm ?_|refine Yh ?_|apply YD|apply YG|apply YJ|refine YK ?_|refine Yg ?_|refine YN ?_|refine Yw ?_|refine Yx ?_|refine Yy ?_|refine Zy ?_|refine Zz ?_|refine Ye ?_|refine ZY ?_|refine ZZ ?_|refine Z6 ?_|refine Yf ?_|refine Zu ?_|refine ZP ?_|refine ZQ ?_|refine Yi ?_|refine ZU ?_|refine ZV ?_|refine Zq ?_|refine Zs ?_|refine Zt ?_|refine ZM ?_|refine ZN ?_|refine Z7 ?_|refine Z8 ?_|refine ZJ ?_|refine ZK ?_|refine ZG ?_|refine ZH ?_|refine Z1 ?_|refine ZW ?_|refine ZX ?_|refine Yr ?_|refine Ys ?_|refine Yt ?_|refine YL ?_|refine Z0 ?_|refine Z3 ?_|refine Z2 ?_|refine ZD ?_|refine ZE ?_|refine YP ?_|refine YM ?_|refine Yu ?_|fail);exact h.out)):G:=t ⟨h⟩
section
variable {P:Program} {N:Fr} {ops:Array Oper} {T:List Nat} {R0 L:List cK} {n:Nat} {l:Array Bool} {Q:fM} {σ:Env} {e:World}
variable {d:Nat} {op:Op} {ty:TypeId} {pos:String} {af:Array Edge} {x:Operand} {v:Value} {t:TypeId}
theorem tk (i:Nat) (v:Value) (hi:ops[i]?=some ⟨some d,op,ty,pos,af,none⟩) (hv:cE P N op ty v σ e R0) (k:A P N ops T R0 n (l.setIfInBounds i true) Q ((d,v)::σ) e L)
 (hb:mX ops T l i=true:=by kernel_rfl) (hL:cC L R0:=by exact zE) (hd:Nat.blt d N.n=true:=by exact rfl):A P N ops T R0 (n+1) l Q σ e L:=bN i v hi hb hL hv hd k
theorem du (i:Nat) (v:Value) {j:Nat} {want:Bool} (hi:ops[i]?=some ⟨some d,op,ty,pos,af,some (j,want)⟩) (hv:cE P N op ty v σ e R0) (k:A P N ops T R0 n (l.setIfInBounds i true) Q ((d,v)::σ) e L)
 (hg:pz σ ops j want=some true:=by exact rfl) (hb:mX ops T l i=true:=by kernel_rfl) (hL:cC L R0:=by exact zE) (hd:Nat.blt d N.n=true:=by exact rfl):A P N ops T R0 (n+1) l Q σ e L:=A.RZ i v hi hg hb hL hv hd k
theorem tM (i:Nat) (k:A P N ops T R0 n (l.setIfInBounds i true) Q ((d,v)::σ) e L) (hi:ops[i]?=some ⟨some d,.move x,ty,pos,af,none⟩:=by exact rfl) (hx:ev σ x=some v:=by exact rfl)
 (hb:mX ops T l i=true:=by kernel_rfl) (hL:cC L R0:=by exact zE) (hd:Nat.blt d N.n=true:=by exact rfl):A P N ops T R0 (n+1) l Q σ e L:=bN i v hi hb hL (bw hx) hd k
theorem tA (i:Nat) (k:A P N ops T R0 n (l.setIfInBounds i true) Q ((d,v)::σ) e L) (hi:ops[i]?=some ⟨some d,.assign x,ty,pos,af,none⟩:=by exact rfl) (hx:ev σ x=some v:=by exact rfl)
 (hb:mX ops T l i=true:=by kernel_rfl) (hL:cC L R0:=by exact zE) (hd:Nat.blt d N.n=true:=by exact rfl):A P N ops T R0 (n+1) l Q σ e L:=bN i v hi hb hL (bj hx) hd k
theorem tL (i:Nat) {p:Addr} [j:dL P t] (k:A P N ops T R0 n (l.setIfInBounds i true) Q ((d,v)::σ) e L) (hi:ops[i]?=some ⟨some d,.load t x,ty,pos,af,none⟩:=by exact rfl) (hx:ev σ x=some (.pointer (some p)):=by exact rfl) (hr:Rd R0 p v:=by exact zR)
 (hb:mX ops T l i=true:=by kernel_rfl) (hL:cC L R0:=by exact zE) (hd:Nat.blt d N.n=true:=by exact rfl):A P N ops T R0 (n+1) l Q σ e L:=bN i v hi hb hL (bq hx hr) hd k
theorem tN (i:Nat) {p:Addr} (k:A P N ops T R0 n (l.setIfInBounds i true) Q ((d,.pointer (some p))::σ) e L) (hi:ops[i]?=some ⟨some d,.nilCheck x,ty,pos,af,none⟩:=by exact rfl) (hx:ev σ x=some (.pointer (some p)):=by exact rfl)
 (hb:mX ops T l i=true:=by kernel_rfl) (hL:cC L R0:=by exact zE) (hd:Nat.blt d N.n=true:=by exact rfl):A P N ops T R0 (n+1) l Q σ e L:=bN i _ hi hb hL (bp hx) hd k
theorem tF (i:Nat) {s f off g o:Nat} [j:cP P s f off] (k:A P N ops T R0 n (l.setIfInBounds i true) Q ((d,.pointer (some ⟨g,o+off,none⟩))::σ) e L) (hi:ops[i]?=some ⟨some d,.fieldAddr s x f,ty,pos,af,none⟩:=by exact rfl) (hx:ev σ x=some (.pointer (some ⟨g,o,none⟩)):=by exact rfl)
 (hb:mX ops T l i=true:=by kernel_rfl) (hL:cC L R0:=by exact zE) (hd:Nat.blt d N.n=true:=by exact rfl):A P N ops T R0 (n+1) l Q σ e L:=bN i _ hi hb hL (bb hx) hd k
theorem tJ (i:Nat) {m g o:Nat} {cs:List Value} [j:ju P t m] (k:A P N ops T R0 n (l.setIfInBounds i true) Q ((d,.agg cs.toArray)::σ) e L) (hi:ops[i]?=some ⟨some d,.load t x,ty,pos,af,none⟩:=by exact rfl) (hx:ev σ x=some (.pointer (some ⟨g,o,none⟩)):=by exact rfl) (hr:eh R0 g o cs:=by exact zA) (hl:cs.length=m:=by exact rfl)
 (hb:mX ops T l i=true:=by kernel_rfl) (hL:cC L R0:=by exact zE) (hd:Nat.blt d N.n=true:=by exact rfl):A P N ops T R0 (n+1) l Q σ e L:=bN i _ hi hb hL (cE.dD hx hr hl) hd k
theorem tO (i:Nat) {dst:Option Tmp} (h:Do P N ⟨dst,op,ty,pos,af,none⟩ (fun σ' L'=>(fB T (l.setIfInBounds i true)=true→cC L' R0)∧A P N ops T R0 n (l.setIfInBounds i true) Q σ' e L') σ e L) (hi:ops[i]?=some ⟨dst,op,ty,pos,af,none⟩:=by exact rfl) (hr:((Region.ready .any ops l) == [i])=true:=by kernel_rfl):A P N ops T R0 (n+1) l Q σ e L:=A.one i hi hr h
theorem dV {l':Array Bool} {gd:Option (Nat × Bool)} (h:cE P N op ty v σ e L) (k:A P N ops T R0 n l' Q ((d,v)::σ) e L) (hu:fB T l'=false:=by kernel_rfl) (hd:Nat.blt d N.n=true:=by exact rfl) :
 Do P N ⟨some d,op,ty,pos,af,gd⟩ (fun σ' L'=>(fB T l'=true→cC L' R0)∧A P N ops T R0 n l' Q σ' e L') σ e L:=bP h hd ⟨Hq hu,k⟩
theorem zg {gd:Option (Nat × Bool)} {K:Env→List cK→Prop} {m g off:Nat} {y:Operand} {vs cs cs':List Value} {E:TypeId} {L':List cK} [i:ju P t m] (k:K σ L') (h:ev σ x=some (.pointer (some ⟨g,off,none⟩)):=by exact rfl) (h1:ev σ y=some (.agg vs.toArray):=by exact rfl) (hn:vs.length=m:=by exact rfl) (hv:∀ v∈vs,v.oneCell'=true:=by exact zO)
 (u:uW L (cM g cs E (0,0)) (cM g cs' E (0,0)) L':=by exact zU) (jM:iu cs off vs cs':=by exact zW):Do P N ⟨none,.store t x y,ty,pos,af,gd⟩ K σ e L:=Do.ej h h1 hn hv u jM k
theorem tZ {gd:Option (Nat × Bool)} {K:Env→List cK→Prop} {g off:Nat} {y:Operand} {cs cs':List Value} {E:TypeId} {L':List cK} [i:dL P t] (k:K σ L') (h:ev σ x=some (.pointer (some ⟨g,off,none⟩)):=by exact rfl) (h1:ev σ y=some v:=by exact rfl) (hv:v.oneCell'=true:=by exact rfl)
 (u:uW L (cM g cs E (0,0)) (cM g cs' E (0,0)) L':=by exact zU) (jM:gB cs off v cs':=by exact zT):Do P N ⟨none,.store t x y,ty,pos,af,gd⟩ K σ e L:=cd h h1 hv u jM k
end
end Go.Bs
namespace Go.Proofs
open Go.Bs
open Tryz
instance : ij prog 3 .i64:=⟨underlying3⟩
instance : dL prog 3:=⟨isAgg3,sizeOf3⟩
instance : fD prog 3 (.int .i64 0):=⟨zeroValue3⟩
instance : qU prog 3 (.int .i64 0) 1 8:=⟨by kernel_rfl⟩
instance : dL prog 4:=⟨isAgg4,sizeOf4⟩
instance : ij prog 5 .u8:=⟨underlying5⟩
instance : dL prog 5:=⟨isAgg5,sizeOf5⟩
instance : qU prog 5 (.int .u8 0) 1 1:=⟨by kernel_rfl⟩
instance : su prog 9:=⟨underlying9⟩
instance : dL prog 9:=⟨isAgg9,sizeOf9⟩
instance : qU prog 9 (.string ByteArray.empty) 1 16:=⟨by kernel_rfl⟩
instance : ja prog 22 3 1:=⟨underlying22,sizeOf3⟩
instance : qK prog 24 226:=⟨underlying24⟩
instance : dL prog 24:=⟨isAgg24,sizeOf24⟩
instance : qU prog 24 (.pointer none) 1 8:=⟨by kernel_rfl⟩
instance : qK prog 26 143:=⟨underlying26⟩
instance : dL prog 26:=⟨isAgg26,sizeOf26⟩
instance : ja prog 30 5 1:=⟨underlying30,sizeOf5⟩
instance : dL prog 30:=⟨isAgg30,sizeOf30⟩
instance : fD prog 30 (.slice none 0 0):=⟨zeroValue30⟩
instance : qU prog 30 (.slice none 0 0) 1 24:=⟨by kernel_rfl⟩
instance : ja prog 38 30 1:=⟨underlying38,sizeOf30⟩
instance : dL prog 38:=⟨isAgg38,sizeOf38⟩
instance : qU prog 38 (.slice none 0 0) 1 24:=⟨by kernel_rfl⟩
instance : ju prog 40 3:=⟨isAgg40,sizeOf40⟩
instance : cP prog 40 0 0:=⟨fun _ _ _=>by kernel_rfl⟩
instance : cP prog 40 1 1:=⟨fun _ _ _=>by kernel_rfl⟩
instance : cP prog 40 2 2:=⟨fun _ _ _=>by kernel_rfl⟩
instance : ek prog 40 #[(0,1),(1,1),(2,1)] #[(.int .i64 0),(.int .i64 0),(.slice none 0 0)]:=⟨fun pv cells w h=>by
 simp [Instr.build,zeroValue40,runUnderlying40,Value.cells,sizeOf3,sizeOf38]
 (try simp at h)
 (try simp only [show (ByteArray.empty:ByteArray)=⟨#[]⟩ from rfl] at h)
 simp [h]⟩
instance : fD prog 40 (.agg #[(.int .i64 0),(.int .i64 0),(.slice none 0 0)]):=⟨zeroValue40⟩
instance : ju prog 47 8:=⟨isAgg47,sizeOf47⟩
instance : cP prog 47 0 0:=⟨fun _ _ _=>by kernel_rfl⟩
instance : cP prog 47 1 1:=⟨fun _ _ _=>by kernel_rfl⟩
instance : cP prog 47 2 2:=⟨fun _ _ _=>by kernel_rfl⟩
instance : cP prog 47 3 3:=⟨fun _ _ _=>by kernel_rfl⟩
instance : cP prog 47 4 4:=⟨fun _ _ _=>by kernel_rfl⟩
instance : cP prog 47 5 5:=⟨fun _ _ _=>by kernel_rfl⟩
instance : cP prog 47 6 6:=⟨fun _ _ _=>by kernel_rfl⟩
instance : cP prog 47 7 7:=⟨fun _ _ _=>by kernel_rfl⟩
instance : ek prog 47 #[(0,1),(1,1),(2,1),(3,1),(4,1),(5,1),(6,1),(7,1)] #[(.int .i64 0),(.int .i64 0),(.int .i64 0),(.int .i64 0),(.int .i64 0),(.int .i64 0),(.int .i64 0),(.string ByteArray.empty)]:=⟨fun pv cells w h=>by
 simp [Instr.build,zeroValue47,runUnderlying47,Value.cells,sizeOf3,sizeOf9]
 (try simp at h)
 (try simp only [show (ByteArray.empty:ByteArray)=⟨#[]⟩ from rfl] at h)
 simp [h]⟩
instance : fD prog 47 (.agg #[(.int .i64 0),(.int .i64 0),(.int .i64 0),(.int .i64 0),(.int .i64 0),(.int .i64 0),(.int .i64 0),(.string ByteArray.empty)]):=⟨zeroValue47⟩
instance : qK prog 49 171:=⟨underlying49⟩
instance : dL prog 49:=⟨isAgg49,sizeOf49⟩
instance : fD prog 49 (.pointer none):=⟨zeroValue49⟩
instance : ju prog 53 3:=⟨isAgg53,sizeOf53⟩
instance : cP prog 53 1 1:=⟨fun _ _ _=>by kernel_rfl⟩
instance : ek prog 53 #[(0,1),(1,1),(2,1)] #[(.int .i64 0),(.int .i64 0),(.int .i64 0)]:=⟨fun pv cells w h=>by
 simp [Instr.build,zeroValue53,runUnderlying53,Value.cells,sizeOf3,sizeOf27]
 (try simp at h)
 (try simp only [show (ByteArray.empty:ByteArray)=⟨#[]⟩ from rfl] at h)
 simp [h]⟩
instance : fD prog 53 (.agg #[(.int .i64 0),(.int .i64 0),(.int .i64 0)]):=⟨zeroValue53⟩
instance : qU prog 53 (.agg #[(.int .i64 0),(.int .i64 0),(.int .i64 0)]) 3 24:=⟨by kernel_rfl⟩
instance : ju prog 56 5:=⟨isAgg56,sizeOf56⟩
instance : cP prog 56 0 0:=⟨fun _ _ _=>by kernel_rfl⟩
instance : cP prog 56 1 1:=⟨fun _ _ _=>by kernel_rfl⟩
instance : cP prog 56 4 4:=⟨fun _ _ _=>by kernel_rfl⟩
instance : ek prog 56 #[(0,1),(1,1),(2,1),(3,1),(4,1)] #[(.int .i64 0),(.int .i64 0),(.int .i64 0),(.int .i64 0),(.slice none 0 0)]:=⟨fun pv cells w h=>by
 simp [Instr.build,zeroValue56,runUnderlying56,Value.cells,sizeOf3,sizeOf30]
 (try simp at h)
 (try simp only [show (ByteArray.empty:ByteArray)=⟨#[]⟩ from rfl] at h)
 simp [h]⟩
instance : fD prog 56 (.agg #[(.int .i64 0),(.int .i64 0),(.int .i64 0),(.int .i64 0),(.slice none 0 0)]):=⟨zeroValue56⟩
instance : qU prog 56 (.agg #[(.int .i64 0),(.int .i64 0),(.int .i64 0),(.int .i64 0),(.slice none 0 0)]) 5 56:=⟨by kernel_rfl⟩
instance : ja prog 57 53 3:=⟨underlying57,sizeOf53⟩
instance : ja prog 59 56 5:=⟨underlying59,sizeOf56⟩
instance : ij prog 61 .u32:=⟨underlying61⟩
instance : dL prog 61:=⟨isAgg61,sizeOf61⟩
instance : fD prog 61 (.int .u32 0):=⟨zeroValue61⟩
instance : qK prog 62 173:=⟨underlying62⟩
instance : dL prog 62:=⟨isAgg62,sizeOf62⟩
instance : ju prog 67 4:=⟨isAgg67,sizeOf67⟩
instance : cP prog 67 0 0:=⟨fun _ _ _=>by kernel_rfl⟩
instance : cP prog 67 1 1:=⟨fun _ _ _=>by kernel_rfl⟩
instance : cP prog 67 2 2:=⟨fun _ _ _=>by kernel_rfl⟩
instance : cP prog 67 3 3:=⟨fun _ _ _=>by kernel_rfl⟩
instance : ek prog 67 #[(0,1),(1,1),(2,1),(3,1)] #[(.string ByteArray.empty),(.int .u32 0),(.slice none 0 0),(.slice none 0 0)]:=⟨fun pv cells w h=>by
 simp [Instr.build,zeroValue67,runUnderlying67,Value.cells,sizeOf9,sizeOf30,sizeOf61]
 (try simp at h)
 (try simp only [show (ByteArray.empty:ByteArray)=⟨#[]⟩ from rfl] at h)
 simp [h]⟩
instance : fD prog 67 (.agg #[(.string ByteArray.empty),(.int .u32 0),(.slice none 0 0),(.slice none 0 0)]):=⟨zeroValue67⟩
instance : ja prog 72 179 2:=⟨underlying72,sizeOf179⟩
instance : dL prog 72:=⟨isAgg72,sizeOf72⟩
instance : qK prog 73 181:=⟨underlying73⟩
instance : dL prog 73:=⟨isAgg73,sizeOf73⟩
instance : ju prog 83 2:=⟨isAgg83,sizeOf83⟩
instance : cP prog 83 0 0:=⟨fun _ _ _=>by kernel_rfl⟩
instance : cP prog 83 1 1:=⟨fun _ _ _=>by kernel_rfl⟩
instance : ek prog 83 #[(0,1),(1,1)] #[(.int .i64 0),(.slice none 0 0)]:=⟨fun pv cells w h=>by
 simp [Instr.build,zeroValue83,runUnderlying83,Value.cells,sizeOf3,sizeOf30]
 (try simp at h)
 (try simp only [show (ByteArray.empty:ByteArray)=⟨#[]⟩ from rfl] at h)
 simp [h]⟩
instance : fD prog 83 (.agg #[(.int .i64 0),(.slice none 0 0)]):=⟨zeroValue83⟩
instance : ju prog 85 3:=⟨isAgg85,sizeOf85⟩
instance : cP prog 85 0 0:=⟨fun _ _ _=>by kernel_rfl⟩
instance : cP prog 85 1 1:=⟨fun _ _ _=>by kernel_rfl⟩
instance : cP prog 85 2 2:=⟨fun _ _ _=>by kernel_rfl⟩
instance : ek prog 85 #[(0,1),(1,1),(2,1)] #[(.int .i64 0),(.slice none 0 0),(.slice none 0 0)]:=⟨fun pv cells w h=>by
 simp [Instr.build,zeroValue85,runUnderlying85,Value.cells,sizeOf3,sizeOf38]
 (try simp at h)
 (try simp only [show (ByteArray.empty:ByteArray)=⟨#[]⟩ from rfl] at h)
 simp [h]⟩
instance : fD prog 85 (.agg #[(.int .i64 0),(.slice none 0 0),(.slice none 0 0)]):=⟨zeroValue85⟩
instance : ju prog 87 5:=⟨isAgg87,sizeOf87⟩
instance : cP prog 87 0 0:=⟨fun _ _ _=>by kernel_rfl⟩
instance : cP prog 87 1 2:=⟨fun _ _ _=>by kernel_rfl⟩
instance : ek prog 87 #[(0,2),(2,3)] #[(.int .i64 0),(.slice none 0 0),(.int .i64 0),(.slice none 0 0),(.slice none 0 0)]:=⟨fun pv cells w h=>by
 simp [Instr.build,zeroValue87,runUnderlying87,Value.cells,sizeOf83,sizeOf85]
 (try simp at h)
 (try simp only [show (ByteArray.empty:ByteArray)=⟨#[]⟩ from rfl] at h)
 simp [h]⟩
instance : fD prog 87 (.agg #[(.int .i64 0),(.slice none 0 0),(.int .i64 0),(.slice none 0 0),(.slice none 0 0)]):=⟨zeroValue87⟩
instance : ja prog 90 9 1:=⟨underlying90,sizeOf9⟩
instance : ja prog 94 96 4:=⟨underlying94,sizeOf96⟩
instance : dL prog 94:=⟨isAgg94,sizeOf94⟩
instance : ju prog 96 4:=⟨isAgg96,sizeOf96⟩
instance : cP prog 96 0 0:=⟨fun _ _ _=>by kernel_rfl⟩
instance : cP prog 96 1 1:=⟨fun _ _ _=>by kernel_rfl⟩
instance : ek prog 96 #[(0,1),(1,3)] #[(.int .i64 0),(.int .i64 0),(.slice none 0 0),(.slice none 0 0)]:=⟨fun pv cells w h=>by
 simp [Instr.build,zeroValue96,runUnderlying96,Value.cells,sizeOf3,sizeOf85]
 (try simp at h)
 (try simp only [show (ByteArray.empty:ByteArray)=⟨#[]⟩ from rfl] at h)
 simp [h]⟩
instance : fD prog 96 (.agg #[(.int .i64 0),(.int .i64 0),(.slice none 0 0),(.slice none 0 0)]):=⟨zeroValue96⟩
instance : qU prog 96 (.agg #[(.int .i64 0),(.int .i64 0),(.slice none 0 0),(.slice none 0 0)]) 4 64:=⟨by kernel_rfl⟩
instance : qK prog 98 194:=⟨underlying98⟩
instance : dL prog 98:=⟨isAgg98,sizeOf98⟩
instance : qU prog 98 (.pointer none) 1 8:=⟨by kernel_rfl⟩
instance : ju prog 102 3:=⟨isAgg102,sizeOf102⟩
instance : cP prog 102 0 0:=⟨fun _ _ _=>by kernel_rfl⟩
instance : cP prog 102 1 1:=⟨fun _ _ _=>by kernel_rfl⟩
instance : cP prog 102 2 2:=⟨fun _ _ _=>by kernel_rfl⟩
instance : ek prog 102 #[(0,1),(1,1),(2,1)] #[(.int .i64 0),(.int .i64 0),(.slice none 0 0)]:=⟨fun pv cells w h=>by
 simp [Instr.build,zeroValue102,runUnderlying102,Value.cells,sizeOf3,sizeOf38]
 (try simp at h)
 (try simp only [show (ByteArray.empty:ByteArray)=⟨#[]⟩ from rfl] at h)
 simp [h]⟩
instance : fD prog 102 (.agg #[(.int .i64 0),(.int .i64 0),(.slice none 0 0)]):=⟨zeroValue102⟩
instance : ju prog 106 3:=⟨isAgg106,sizeOf106⟩
instance : cP prog 106 0 0:=⟨fun _ _ _=>by kernel_rfl⟩
instance : cP prog 106 1 1:=⟨fun _ _ _=>by kernel_rfl⟩
instance : cP prog 106 2 2:=⟨fun _ _ _=>by kernel_rfl⟩
instance : ek prog 106 #[(0,1),(1,1),(2,1)] #[(.slice none 0 0),(.slice none 0 0),(.int .i64 0)]:=⟨fun pv cells w h=>by
 simp [Instr.build,zeroValue106,runUnderlying106,Value.cells,sizeOf3,sizeOf30,sizeOf38]
 (try simp at h)
 (try simp only [show (ByteArray.empty:ByteArray)=⟨#[]⟩ from rfl] at h)
 simp [h]⟩
instance : fD prog 106 (.agg #[(.slice none 0 0),(.slice none 0 0),(.int .i64 0)]):=⟨zeroValue106⟩
instance : ju prog 109 10:=⟨isAgg109,sizeOf109⟩
instance : cP prog 109 0 0:=⟨fun _ _ _=>by kernel_rfl⟩
instance : cP prog 109 1 1:=⟨fun _ _ _=>by kernel_rfl⟩
instance : cP prog 109 2 4:=⟨fun _ _ _=>by kernel_rfl⟩
instance : cP prog 109 3 9:=⟨fun _ _ _=>by kernel_rfl⟩
instance : ek prog 109 #[(0,1),(1,3),(4,5),(9,1)] #[(.slice none 0 0),(.int .i64 0),(.int .i64 0),(.slice none 0 0),(.int .i64 0),(.slice none 0 0),(.int .i64 0),(.slice none 0 0),(.slice none 0 0),(.slice none 0 0)]:=⟨fun pv cells w h=>by
 simp [Instr.build,zeroValue109,runUnderlying109,Value.cells,sizeOf30,sizeOf40,sizeOf87,sizeOf94]
 (try simp at h)
 (try simp only [show (ByteArray.empty:ByteArray)=⟨#[]⟩ from rfl] at h)
 simp [h]⟩
instance : fD prog 109 (.agg #[(.slice none 0 0),(.int .i64 0),(.int .i64 0),(.slice none 0 0),(.int .i64 0),(.slice none 0 0),(.int .i64 0),(.slice none 0 0),(.slice none 0 0),(.slice none 0 0)]):=⟨zeroValue109⟩
instance : dL prog 116:=⟨isAgg116,sizeOf116⟩
instance : ja prog 118 121 4:=⟨underlying118,sizeOf121⟩
instance : dL prog 118:=⟨isAgg118,sizeOf118⟩
instance : ek prog 121 #[(0,1),(1,1),(2,1),(3,1)] #[(.int .i64 0),(.int .i64 0),(.int .i64 0),(.slice none 0 0)]:=⟨fun pv cells w h=>by
 simp [Instr.build,zeroValue121,runUnderlying121,Value.cells,sizeOf3,sizeOf30]
 (try simp at h)
 (try simp only [show (ByteArray.empty:ByteArray)=⟨#[]⟩ from rfl] at h)
 simp [h]⟩
instance : qU prog 121 (.agg #[(.int .i64 0),(.int .i64 0),(.int .i64 0),(.slice none 0 0)]) 4 48:=⟨by kernel_rfl⟩
instance : qK prog 129 221:=⟨underlying129⟩
instance : dL prog 129:=⟨isAgg129,sizeOf129⟩
instance : qK prog 131 224:=⟨underlying131⟩
instance : dL prog 131:=⟨isAgg131,sizeOf131⟩
instance : dL prog 135:=⟨isAgg135,sizeOf135⟩
instance : dL prog 138:=⟨isAgg138,sizeOf138⟩
instance : dL prog 141:=⟨isAgg141,sizeOf141⟩
instance : cP prog 143 0 0:=⟨fun _ _ _=>by kernel_rfl⟩
instance : cP prog 143 1 1:=⟨fun _ _ _=>by kernel_rfl⟩
instance : cP prog 143 2 2:=⟨fun _ _ _=>by kernel_rfl⟩
instance : cP prog 143 4 4:=⟨fun _ _ _=>by kernel_rfl⟩
instance : cP prog 143 5 5:=⟨fun _ _ _=>by kernel_rfl⟩
instance : cP prog 143 6 6:=⟨fun _ _ _=>by kernel_rfl⟩
instance : cP prog 143 7 7:=⟨fun _ _ _=>by kernel_rfl⟩
instance : cP prog 143 8 12:=⟨fun _ _ _=>by kernel_rfl⟩
instance : ek prog 143 #[(0,1),(1,1),(2,1),(3,1),(4,1),(5,1),(6,1),(7,5),(12,1)] #[(.pointer none),(.pointer none),(.slice none 0 0),(.slice none 0 0),(.slice none 0 0),(.slice none 0 0),(.map none),(.int .i64 0),(.slice none 0 0),(.int .i64 0),(.slice none 0 0),(.slice none 0 0),(.bool false)]:=⟨fun pv cells w h=>by
 simp [Instr.build,zeroValue143,runUnderlying143,Value.cells,sizeOf4,sizeOf30,sizeOf38,sizeOf87,sizeOf135,sizeOf138,sizeOf141]
 (try simp at h)
 (try simp only [show (ByteArray.empty:ByteArray)=⟨#[]⟩ from rfl] at h)
 simp [h]⟩
instance : qK prog 151 238:=⟨underlying151⟩
instance : dL prog 151:=⟨isAgg151,sizeOf151⟩
instance : dL prog 160:=⟨isAgg160,sizeOf160⟩
instance : qU prog 160 .nilFunc 1 8:=⟨by kernel_rfl⟩
instance : ja prog 161 160 1:=⟨underlying161,sizeOf160⟩
instance : ja prog 163 249 2:=⟨underlying163,sizeOf249⟩
instance : dL prog 163:=⟨isAgg163,sizeOf163⟩
instance : ja prog 164 98 1:=⟨underlying164,sizeOf98⟩
instance : dL prog 164:=⟨isAgg164,sizeOf164⟩
instance : dL prog 165:=⟨isAgg165,sizeOf165⟩
instance : dL prog 166:=⟨isAgg166,sizeOf166⟩
instance : cP prog 168 0 0:=⟨fun _ _ _=>by kernel_rfl⟩
instance : cP prog 168 1 1:=⟨fun _ _ _=>by kernel_rfl⟩
instance : ek prog 168 #[(0,1),(1,1)] #[(.map none),(.map none)]:=⟨fun pv cells w h=>by
 simp [Instr.build,zeroValue168,runUnderlying168,Value.cells,sizeOf166]
 (try simp at h)
 (try simp only [show (ByteArray.empty:ByteArray)=⟨#[]⟩ from rfl] at h)
 simp [h]⟩
instance : dL prog 169:=⟨isAgg169,sizeOf169⟩
instance : cP prog 171 0 0:=⟨fun _ _ _=>by kernel_rfl⟩
instance : cP prog 171 1 8:=⟨fun _ _ _=>by kernel_rfl⟩
instance : cP prog 171 2 9:=⟨fun _ _ _=>by kernel_rfl⟩
instance : cP prog 171 3 10:=⟨fun _ _ _=>by kernel_rfl⟩
instance : cP prog 171 4 11:=⟨fun _ _ _=>by kernel_rfl⟩
instance : cP prog 171 5 12:=⟨fun _ _ _=>by kernel_rfl⟩
instance : cP prog 171 6 13:=⟨fun _ _ _=>by kernel_rfl⟩
instance : cP prog 171 7 14:=⟨fun _ _ _=>by kernel_rfl⟩
instance : cP prog 171 8 15:=⟨fun _ _ _=>by kernel_rfl⟩
instance : cP prog 171 9 16:=⟨fun _ _ _=>by kernel_rfl⟩
instance : cP prog 171 10 19:=⟨fun _ _ _=>by kernel_rfl⟩
instance : cP prog 171 11 20:=⟨fun _ _ _=>by kernel_rfl⟩
instance : cP prog 171 12 21:=⟨fun _ _ _=>by kernel_rfl⟩
instance : cP prog 171 13 23:=⟨fun _ _ _=>by kernel_rfl⟩
instance : cP prog 171 14 25:=⟨fun _ _ _=>by kernel_rfl⟩
instance : cP prog 171 15 26:=⟨fun _ _ _=>by kernel_rfl⟩
instance : ek prog 171 #[(0,8),(8,1),(9,1),(10,1),(11,1),(12,1),(13,1),(14,1),(15,1),(16,3),(19,1),(20,1),(21,2),(23,2),(25,1),(26,1)] #[(.int .i64 0),(.int .i64 0),(.int .i64 0),(.int .i64 0),(.int .i64 0),(.int .i64 0),(.int .i64 0),(.string ByteArray.empty),(.slice none 0 0),(.pointer none),(.pointer none),(.slice none 0 0),(.pointer none),(.pointer none),(.pointer none),(.pointer none),(.slice none 0 0),(.slice none 0 0),(.int .i64 0),(.int .i64 0),(.slice none 0 0),(.map none),(.map none),(.int .i64 0),(.slice none 0 0),(.bool false),(.map none)]:=⟨fun pv cells w h=>by
 simp [Instr.build,zeroValue171,runUnderlying171,Value.cells,sizeOf3,sizeOf4,sizeOf26,sizeOf47,sizeOf62,sizeOf73,sizeOf83,sizeOf106,sizeOf118,sizeOf129,sizeOf131,sizeOf163,sizeOf164,sizeOf165,sizeOf168,sizeOf169]
 (try simp at h)
 (try simp only [show (ByteArray.empty:ByteArray)=⟨#[]⟩ from rfl] at h)
 simp [h]⟩
instance : cP prog 173 0 0:=⟨fun _ _ _=>by kernel_rfl⟩
instance : cP prog 173 1 1:=⟨fun _ _ _=>by kernel_rfl⟩
instance : cP prog 173 2 2:=⟨fun _ _ _=>by kernel_rfl⟩
instance : cP prog 173 3 5:=⟨fun _ _ _=>by kernel_rfl⟩
instance : cP prog 173 4 9:=⟨fun _ _ _=>by kernel_rfl⟩
instance : ek prog 173 #[(0,1),(1,1),(2,3),(5,4),(9,1)] #[(.pointer none),(.string ByteArray.empty),(.slice none 0 0),(.slice none 0 0),(.int .i64 0),(.string ByteArray.empty),(.int .u32 0),(.slice none 0 0),(.slice none 0 0),(.int .i64 0)]:=⟨fun pv cells w h=>by
 simp [Instr.build,zeroValue173,runUnderlying173,Value.cells,sizeOf3,sizeOf9,sizeOf67,sizeOf106,sizeOf138]
 (try simp at h)
 (try simp only [show (ByteArray.empty:ByteArray)=⟨#[]⟩ from rfl] at h)
 simp [h]⟩
instance : cP prog 181 0 0:=⟨fun _ _ _=>by kernel_rfl⟩
instance : cP prog 181 1 1:=⟨fun _ _ _=>by kernel_rfl⟩
instance : cP prog 181 2 2:=⟨fun _ _ _=>by kernel_rfl⟩
instance : cP prog 181 3 3:=⟨fun _ _ _=>by kernel_rfl⟩
instance : cP prog 181 4 4:=⟨fun _ _ _=>by kernel_rfl⟩
instance : cP prog 181 5 9:=⟨fun _ _ _=>by kernel_rfl⟩
instance : ek prog 181 #[(0,1),(1,1),(2,1),(3,1),(4,5),(9,1)] #[(.slice none 0 0),(.slice none 0 0),(.slice none 0 0),(.slice none 0 0),(.int .i64 0),(.slice none 0 0),(.int .i64 0),(.slice none 0 0),(.slice none 0 0),(.bool false)]:=⟨fun pv cells w h=>by
 simp [Instr.build,zeroValue181,runUnderlying181,Value.cells,sizeOf4,sizeOf30,sizeOf38,sizeOf72,sizeOf87]
 (try simp at h)
 (try simp only [show (ByteArray.empty:ByteArray)=⟨#[]⟩ from rfl] at h)
 simp [h]⟩
instance : ja prog 182 38 1:=⟨underlying182,sizeOf38⟩
instance : dL prog 182:=⟨isAgg182,sizeOf182⟩
instance : cP prog 184 0 0:=⟨fun _ _ _=>by kernel_rfl⟩
instance : cP prog 184 1 1:=⟨fun _ _ _=>by kernel_rfl⟩
instance : ek prog 184 #[(0,1),(1,1)] #[(.slice none 0 0),(.slice none 0 0)]:=⟨fun pv cells w h=>by
 simp [Instr.build,zeroValue184,runUnderlying184,Value.cells,sizeOf30,sizeOf182]
 (try simp at h)
 (try simp only [show (ByteArray.empty:ByteArray)=⟨#[]⟩ from rfl] at h)
 simp [h]⟩
instance : cP prog 194 0 0:=⟨fun _ _ _=>by kernel_rfl⟩
instance : cP prog 194 1 1:=⟨fun _ _ _=>by kernel_rfl⟩
instance : cP prog 194 2 2:=⟨fun _ _ _=>by kernel_rfl⟩
instance : cP prog 194 3 3:=⟨fun _ _ _=>by kernel_rfl⟩
instance : cP prog 194 4 4:=⟨fun _ _ _=>by kernel_rfl⟩
instance : cP prog 194 6 6:=⟨fun _ _ _=>by kernel_rfl⟩
instance : cP prog 194 7 8:=⟨fun _ _ _=>by kernel_rfl⟩
instance : cP prog 194 8 12:=⟨fun _ _ _=>by kernel_rfl⟩
instance : ek prog 194 #[(0,1),(1,1),(2,1),(3,1),(4,1),(5,1),(6,2),(8,4),(12,1)] #[(.pointer none),(.pointer none),(.int .i64 0),(.slice none 0 0),(.slice none 0 0),(.slice none 0 0),(.int .i64 0),(.slice none 0 0),(.int .i64 0),(.int .i64 0),(.slice none 0 0),(.slice none 0 0),(.bool false)]:=⟨fun pv cells w h=>by
 simp [Instr.build,zeroValue194,runUnderlying194,Value.cells,sizeOf3,sizeOf4,sizeOf30,sizeOf83,sizeOf96,sizeOf135,sizeOf138]
 (try simp at h)
 (try simp only [show (ByteArray.empty:ByteArray)=⟨#[]⟩ from rfl] at h)
 simp [h]⟩
instance : dL prog 206:=⟨isAgg206,sizeOf206⟩
instance : dL prog 209:=⟨isAgg209,sizeOf209⟩
instance : qK prog 210 289:=⟨underlying210⟩
instance : dL prog 219:=⟨isAgg219,sizeOf219⟩
instance : cP prog 221 0 0:=⟨fun _ _ _=>by kernel_rfl⟩
instance : cP prog 221 1 1:=⟨fun _ _ _=>by kernel_rfl⟩
instance : cP prog 221 2 2:=⟨fun _ _ _=>by kernel_rfl⟩
instance : cP prog 221 3 3:=⟨fun _ _ _=>by kernel_rfl⟩
instance : cP prog 221 4 4:=⟨fun _ _ _=>by kernel_rfl⟩
instance : ek prog 221 #[(0,1),(1,1),(2,1),(3,1),(4,1)] #[(.pointer none),(.pointer none),(.pointer none),(.int .i64 0),(.slice none 0 0)]:=⟨fun pv cells w h=>by
 simp [Instr.build,zeroValue221,runUnderlying221,Value.cells,sizeOf3,sizeOf26,sizeOf38,sizeOf138,sizeOf219]
 (try simp at h)
 (try simp only [show (ByteArray.empty:ByteArray)=⟨#[]⟩ from rfl] at h)
 simp [h]⟩
instance : ja prog 222 268 4:=⟨underlying222,sizeOf268⟩
instance : dL prog 222:=⟨isAgg222,sizeOf222⟩
instance : cP prog 224 0 0:=⟨fun _ _ _=>by kernel_rfl⟩
instance : cP prog 224 1 1:=⟨fun _ _ _=>by kernel_rfl⟩
instance : ek prog 224 #[(0,1),(1,1)] #[(.int .i64 0),(.slice none 0 0)]:=⟨fun pv cells w h=>by
 simp [Instr.build,zeroValue224,runUnderlying224,Value.cells,sizeOf3,sizeOf222]
 (try simp at h)
 (try simp only [show (ByteArray.empty:ByteArray)=⟨#[]⟩ from rfl] at h)
 simp [h]⟩
instance : cP prog 226 0 0:=⟨fun _ _ _=>by kernel_rfl⟩
instance : cP prog 226 1 1:=⟨fun _ _ _=>by kernel_rfl⟩
instance : cP prog 226 2 2:=⟨fun _ _ _=>by kernel_rfl⟩
instance : cP prog 226 3 3:=⟨fun _ _ _=>by kernel_rfl⟩
instance : cP prog 226 4 4:=⟨fun _ _ _=>by kernel_rfl⟩
instance : ek prog 226 #[(0,1),(1,1),(2,1),(3,1),(4,1)] #[(.slice none 0 0),(.int .i64 0),(.int .i64 0),(.int .i64 0),(.bool false)]:=⟨fun pv cells w h=>by
 simp [Instr.build,zeroValue226,runUnderlying226,Value.cells,sizeOf3,sizeOf4,sizeOf30]
 (try simp at h)
 (try simp only [show (ByteArray.empty:ByteArray)=⟨#[]⟩ from rfl] at h)
 simp [h]⟩
instance : cP prog 228 0 0:=⟨fun _ _ _=>by kernel_rfl⟩
instance : cP prog 228 1 1:=⟨fun _ _ _=>by kernel_rfl⟩
instance : ek prog 228 #[(0,1),(1,1)] #[(.pointer none),(.int .i64 0)]:=⟨fun pv cells w h=>by
 simp [Instr.build,zeroValue228,runUnderlying228,Value.cells,sizeOf3,sizeOf138]
 (try simp at h)
 (try simp only [show (ByteArray.empty:ByteArray)=⟨#[]⟩ from rfl] at h)
 simp [h]⟩
instance : cP prog 233 0 0:=⟨fun _ _ _=>by kernel_rfl⟩
instance : cP prog 233 1 1:=⟨fun _ _ _=>by kernel_rfl⟩
instance : ek prog 233 #[(0,1),(1,1)] #[(.pointer none),(.int .i64 0)]:=⟨fun pv cells w h=>by
 simp [Instr.build,zeroValue233,runUnderlying233,Value.cells,sizeOf3,sizeOf24]
 (try simp at h)
 (try simp only [show (ByteArray.empty:ByteArray)=⟨#[]⟩ from rfl] at h)
 simp [h]⟩
instance : cP prog 238 0 0:=⟨fun _ _ _=>by kernel_rfl⟩
instance : ek prog 238 #[(0,1)] #[(.slice none 0 0)]:=⟨fun pv cells w h=>by
 simp [Instr.build,zeroValue238,runUnderlying238,Value.cells,sizeOf30]
 (try simp at h)
 (try simp only [show (ByteArray.empty:ByteArray)=⟨#[]⟩ from rfl] at h)
 simp [h]⟩
instance : dL prog 242:=⟨isAgg242,sizeOf242⟩
instance : qU prog 242 .nilFunc 1 8:=⟨by kernel_rfl⟩
instance : ja prog 246 24 1:=⟨underlying246,sizeOf24⟩
instance : dL prog 246:=⟨isAgg246,sizeOf246⟩
instance : ju prog 249 2:=⟨isAgg249,sizeOf249⟩
instance : cP prog 249 0 0:=⟨fun _ _ _=>by kernel_rfl⟩
instance : cP prog 249 1 1:=⟨fun _ _ _=>by kernel_rfl⟩
instance : ek prog 249 #[(0,1),(1,1)] #[(.slice none 0 0),.nilFunc]:=⟨fun pv cells w h=>by
 simp [Instr.build,zeroValue249,runUnderlying249,Value.cells,sizeOf242,sizeOf246]
 (try simp at h)
 (try simp only [show (ByteArray.empty:ByteArray)=⟨#[]⟩ from rfl] at h)
 simp [h]⟩
instance : fD prog 249 (.agg #[(.slice none 0 0),.nilFunc]):=⟨zeroValue249⟩
instance : qU prog 249 (.agg #[(.slice none 0 0),.nilFunc]) 2 32:=⟨by kernel_rfl⟩
instance : ju prog 254 2:=⟨isAgg254,sizeOf254⟩
instance : cP prog 254 0 0:=⟨fun _ _ _=>by kernel_rfl⟩
instance : cP prog 254 1 1:=⟨fun _ _ _=>by kernel_rfl⟩
instance : ek prog 254 #[(0,1),(1,1)] #[(.int .i64 0),(.int .i64 0)]:=⟨fun pv cells w h=>by
 simp [Instr.build,zeroValue254,runUnderlying254,Value.cells,sizeOf3]
 (try simp at h)
 (try simp only [show (ByteArray.empty:ByteArray)=⟨#[]⟩ from rfl] at h)
 simp [h]⟩
instance : fD prog 254 (.agg #[(.int .i64 0),(.int .i64 0)]):=⟨zeroValue254⟩
instance : ja prog 262 265 2:=⟨underlying262,sizeOf265⟩
instance : ju prog 265 2:=⟨isAgg265,sizeOf265⟩
instance : cP prog 265 0 0:=⟨fun _ _ _=>by kernel_rfl⟩
instance : cP prog 265 1 1:=⟨fun _ _ _=>by kernel_rfl⟩
instance : ek prog 265 #[(0,1),(1,1)] #[(.int .i64 0),(.int .i64 0)]:=⟨fun pv cells w h=>by
 simp [Instr.build,zeroValue265,runUnderlying265,Value.cells,sizeOf3]
 (try simp at h)
 (try simp only [show (ByteArray.empty:ByteArray)=⟨#[]⟩ from rfl] at h)
 simp [h]⟩
instance : fD prog 265 (.agg #[(.int .i64 0),(.int .i64 0)]):=⟨zeroValue265⟩
instance : qU prog 265 (.agg #[(.int .i64 0),(.int .i64 0)]) 2 16:=⟨by kernel_rfl⟩
instance : ju prog 268 4:=⟨isAgg268,sizeOf268⟩
instance : cP prog 268 0 0:=⟨fun _ _ _=>by kernel_rfl⟩
instance : cP prog 268 1 1:=⟨fun _ _ _=>by kernel_rfl⟩
instance : cP prog 268 2 2:=⟨fun _ _ _=>by kernel_rfl⟩
instance : cP prog 268 3 3:=⟨fun _ _ _=>by kernel_rfl⟩
instance : ek prog 268 #[(0,1),(1,1),(2,1),(3,1)] #[(.int .i64 0),(.int .i64 0),(.int .i64 0),(.slice none 0 0)]:=⟨fun pv cells w h=>by
 simp [Instr.build,zeroValue268,runUnderlying268,Value.cells,sizeOf3,sizeOf30]
 (try simp at h)
 (try simp only [show (ByteArray.empty:ByteArray)=⟨#[]⟩ from rfl] at h)
 simp [h]⟩
instance : fD prog 268 (.agg #[(.int .i64 0),(.int .i64 0),(.int .i64 0),(.slice none 0 0)]):=⟨zeroValue268⟩
instance : qU prog 268 (.agg #[(.int .i64 0),(.int .i64 0),(.int .i64 0),(.slice none 0 0)]) 4 48:=⟨by kernel_rfl⟩
instance : ij prog 278 .u64:=⟨underlying278⟩
instance : cP prog 289 0 0:=⟨fun _ _ _=>by kernel_rfl⟩
instance : cP prog 289 1 1:=⟨fun _ _ _=>by kernel_rfl⟩
instance : ek prog 289 #[(0,1),(1,1)] #[(.slice none 0 0),(.bool false)]:=⟨fun pv cells w h=>by
 simp [Instr.build,zeroValue289,runUnderlying289,Value.cells,sizeOf4,sizeOf30]
 (try simp at h)
 (try simp only [show (ByteArray.empty:ByteArray)=⟨#[]⟩ from rfl] at h)
 simp [h]⟩
instance : rr prog 296 8 61 1:=⟨underlying296,sizeOf61⟩
instance : ju prog 296 8:=⟨isAgg296,sizeOf296⟩
instance : fD prog 296 (.agg #[(.int .u32 0),(.int .u32 0),(.int .u32 0),(.int .u32 0),(.int .u32 0),(.int .u32 0),(.int .u32 0),(.int .u32 0)]):=⟨zeroValue296⟩
instance : rr prog 297 64 61 1:=⟨underlying297,sizeOf61⟩
instance : ju prog 297 64:=⟨isAgg297,sizeOf297⟩
instance : fD prog 297 (.agg #[(.int .u32 0),(.int .u32 0),(.int .u32 0),(.int .u32 0),(.int .u32 0),(.int .u32 0),(.int .u32 0),(.int .u32 0),(.int .u32 0),(.int .u32 0),(.int .u32 0),(.int .u32 0),(.int .u32 0),(.int .u32 0),(.int .u32 0),(.int .u32 0),(.int .u32 0),(.int .u32 0),(.int .u32 0),(.int .u32 0),(.int .u32 0),(.int .u32 0),(.int .u32 0),(.int .u32 0),(.int .u32 0),(.int .u32 0),(.int .u32 0),(.int .u32 0),(.int .u32 0),(.int .u32 0),(.int .u32 0),(.int .u32 0),(.int .u32 0),(.int .u32 0),(.int .u32 0),(.int .u32 0),(.int .u32 0),(.int .u32 0),(.int .u32 0),(.int .u32 0),(.int .u32 0),(.int .u32 0),(.int .u32 0),(.int .u32 0),(.int .u32 0),(.int .u32 0),(.int .u32 0),(.int .u32 0),(.int .u32 0),(.int .u32 0),(.int .u32 0),(.int .u32 0),(.int .u32 0),(.int .u32 0),(.int .u32 0),(.int .u32 0),(.int .u32 0),(.int .u32 0),(.int .u32 0),(.int .u32 0),(.int .u32 0),(.int .u32 0),(.int .u32 0),(.int .u32 0)]):=⟨zeroValue297⟩
instance : ij prog 301 .u64:=⟨underlying301⟩
instance : ja prog 307 242 1:=⟨underlying307,sizeOf242⟩
instance : dL prog 317:=⟨isAgg317,sizeOf317⟩
instance : ja prog 319 330 3:=⟨underlying319,sizeOf330⟩
instance : dL prog 319:=⟨isAgg319,sizeOf319⟩
instance : cP prog 321 0 0:=⟨fun _ _ _=>by kernel_rfl⟩
instance : cP prog 321 1 3:=⟨fun _ _ _=>by kernel_rfl⟩
instance : cP prog 321 2 4:=⟨fun _ _ _=>by kernel_rfl⟩
instance : cP prog 321 3 5:=⟨fun _ _ _=>by kernel_rfl⟩
instance : cP prog 321 4 6:=⟨fun _ _ _=>by kernel_rfl⟩
instance : cP prog 321 5 11:=⟨fun _ _ _=>by kernel_rfl⟩
instance : cP prog 321 6 12:=⟨fun _ _ _=>by kernel_rfl⟩
instance : cP prog 321 7 13:=⟨fun _ _ _=>by kernel_rfl⟩
instance : cP prog 321 8 18:=⟨fun _ _ _=>by kernel_rfl⟩
instance : ek prog 321 #[(0,3),(3,1),(4,1),(5,1),(6,5),(11,1),(12,1),(13,5),(18,1)] #[(.slice none 0 0),(.slice none 0 0),(.int .i64 0),(.int .i64 0),(.pointer none),(.slice none 0 0),(.int .i64 0),(.slice none 0 0),(.int .i64 0),(.slice none 0 0),(.slice none 0 0),(.bool false),(.slice none 0 0),(.int .i64 0),(.slice none 0 0),(.int .i64 0),(.slice none 0 0),(.slice none 0 0),(.slice none 0 0)]:=⟨fun pv cells w h=>by
 simp [Instr.build,zeroValue321,runUnderlying321,Value.cells,sizeOf3,sizeOf4,sizeOf87,sizeOf94,sizeOf106,sizeOf317,sizeOf319]
 (try simp at h)
 (try simp only [show (ByteArray.empty:ByteArray)=⟨#[]⟩ from rfl] at h)
 simp [h]⟩
instance : cP prog 330 0 0:=⟨fun _ _ _=>by kernel_rfl⟩
instance : cP prog 330 1 1:=⟨fun _ _ _=>by kernel_rfl⟩
instance : cP prog 330 2 2:=⟨fun _ _ _=>by kernel_rfl⟩
instance : qU prog 330 (.agg #[(.int .i64 0),(.int .i64 0),(.bool false)]) 3 24:=⟨by kernel_rfl⟩
instance : ju prog 340 2:=⟨isAgg340,sizeOf340⟩
instance : ek prog 340 #[(0,1),(1,1)] #[(.int .i64 0),(.int .i64 0)]:=⟨fun pv cells w h=>by
 simp [Instr.build,zeroValue340,runUnderlying340,Value.cells,sizeOf3]
 (try simp at h)
 (try simp only [show (ByteArray.empty:ByteArray)=⟨#[]⟩ from rfl] at h)
 simp [h]⟩
instance : fD prog 340 (.agg #[(.int .i64 0),(.int .i64 0)]):=⟨zeroValue340⟩
instance : ja prog 362 377 3:=⟨underlying362,sizeOf377⟩
instance : dL prog 362:=⟨isAgg362,sizeOf362⟩
instance : cP prog 364 0 0:=⟨fun _ _ _=>by kernel_rfl⟩
instance : cP prog 364 1 1:=⟨fun _ _ _=>by kernel_rfl⟩
instance : ek prog 364 #[(0,1),(1,1)] #[(.slice none 0 0),(.int .i64 0)]:=⟨fun pv cells w h=>by
 simp [Instr.build,zeroValue364,runUnderlying364,Value.cells,sizeOf3,sizeOf362]
 (try simp at h)
 (try simp only [show (ByteArray.empty:ByteArray)=⟨#[]⟩ from rfl] at h)
 simp [h]⟩
instance : ja prog 366 368 2:=⟨underlying366,sizeOf368⟩
instance : dL prog 366:=⟨isAgg366,sizeOf366⟩
instance : ju prog 368 2:=⟨isAgg368,sizeOf368⟩
instance : cP prog 368 0 0:=⟨fun _ _ _=>by kernel_rfl⟩
instance : cP prog 368 1 1:=⟨fun _ _ _=>by kernel_rfl⟩
instance : ek prog 368 #[(0,1),(1,1)] #[(.slice none 0 0),(.int .i64 0)]:=⟨fun pv cells w h=>by
 simp [Instr.build,zeroValue368,runUnderlying368,Value.cells,sizeOf3,sizeOf30]
 (try simp at h)
 (try simp only [show (ByteArray.empty:ByteArray)=⟨#[]⟩ from rfl] at h)
 simp [h]⟩
instance : fD prog 368 (.agg #[(.slice none 0 0),(.int .i64 0)]):=⟨zeroValue368⟩
instance : qU prog 368 (.agg #[(.slice none 0 0),(.int .i64 0)]) 2 32:=⟨by kernel_rfl⟩
instance : cP prog 370 0 0:=⟨fun _ _ _=>by kernel_rfl⟩
instance : cP prog 370 1 1:=⟨fun _ _ _=>by kernel_rfl⟩
instance : cP prog 370 2 2:=⟨fun _ _ _=>by kernel_rfl⟩
instance : cP prog 370 3 3:=⟨fun _ _ _=>by kernel_rfl⟩
instance : ek prog 370 #[(0,1),(1,1),(2,1),(3,1)] #[(.int .i64 0),(.int .i64 0),(.int .i64 0),(.slice none 0 0)]:=⟨fun pv cells w h=>by
 simp [Instr.build,zeroValue370,runUnderlying370,Value.cells,sizeOf3,sizeOf366]
 (try simp at h)
 (try simp only [show (ByteArray.empty:ByteArray)=⟨#[]⟩ from rfl] at h)
 simp [h]⟩
instance : ju prog 377 3:=⟨isAgg377,sizeOf377⟩
instance : cP prog 377 0 0:=⟨fun _ _ _=>by kernel_rfl⟩
instance : cP prog 377 1 1:=⟨fun _ _ _=>by kernel_rfl⟩
instance : cP prog 377 2 2:=⟨fun _ _ _=>by kernel_rfl⟩
instance : ek prog 377 #[(0,1),(1,1),(2,1)] #[(.int .i64 0),(.int .i64 0),(.int .i64 0)]:=⟨fun pv cells w h=>by
 simp [Instr.build,zeroValue377,runUnderlying377,Value.cells,sizeOf3]
 (try simp at h)
 (try simp only [show (ByteArray.empty:ByteArray)=⟨#[]⟩ from rfl] at h)
 simp [h]⟩
instance : fD prog 377 (.agg #[(.int .i64 0),(.int .i64 0),(.int .i64 0)]):=⟨zeroValue377⟩
instance : qU prog 377 (.agg #[(.int .i64 0),(.int .i64 0),(.int .i64 0)]) 3 24:=⟨by kernel_rfl⟩
instance : rr prog 402 4 4 1:=⟨underlying402,sizeOf4⟩
instance : fD prog 402 (.agg #[(.bool false),(.bool false),(.bool false),(.bool false)]):=⟨zeroValue402⟩
instance : cJ prog 12 12:=⟨call12⟩
instance : cJ prog 13 13:=⟨call13⟩
instance : cJ prog 14 14:=⟨call14⟩
instance : cJ prog 15 15:=⟨call15⟩
instance : cJ prog 17 17:=⟨call17⟩
instance : cJ prog 18 18:=⟨call18⟩
instance : cJ prog 19 19:=⟨call19⟩
instance : cJ prog 21 21:=⟨call21⟩
instance : cJ prog 22 22:=⟨call22⟩
instance : cJ prog 23 23:=⟨call23⟩
instance : cJ prog 24 24:=⟨call24⟩
instance : cJ prog 25 25:=⟨call25⟩
instance : cJ prog 26 26:=⟨call26⟩
instance : cJ prog 27 27:=⟨call27⟩
instance : cJ prog 28 28:=⟨call28⟩
instance : cJ prog 29 29:=⟨call29⟩
instance : cJ prog 31 31:=⟨call31⟩
instance : cJ prog 32 32:=⟨call32⟩
instance : cJ prog 34 34:=⟨call34⟩
instance : cJ prog 35 35:=⟨call35⟩
instance : cJ prog 36 36:=⟨call36⟩
instance : cJ prog 37 37:=⟨call37⟩
instance : cJ prog 38 38:=⟨call38⟩
instance : cJ prog 39 39:=⟨call39⟩
instance : cJ prog 40 40:=⟨call40⟩
instance : cJ prog 41 41:=⟨call41⟩
instance : cJ prog 43 43:=⟨call43⟩
instance : cJ prog 45 45:=⟨call45⟩
instance : cJ prog 46 46:=⟨call46⟩
instance : cJ prog 47 47:=⟨call47⟩
instance : cJ prog 49 49:=⟨call49⟩
instance : cJ prog 50 50:=⟨call50⟩
instance : cJ prog 51 51:=⟨call51⟩
instance : cJ prog 52 52:=⟨call52⟩
instance : cJ prog 54 54:=⟨call54⟩
instance : cJ prog 56 56:=⟨call56⟩
instance : cJ prog 58 58:=⟨call58⟩
instance : cJ prog 59 59:=⟨call59⟩
instance : cJ prog 60 60:=⟨call60⟩
instance : cJ prog 61 61:=⟨call61⟩
instance : cJ prog 62 62:=⟨call62⟩
instance : cJ prog 63 63:=⟨call63⟩
instance : cJ prog 64 64:=⟨call64⟩
instance : cJ prog 65 65:=⟨call65⟩
instance : cJ prog 66 66:=⟨call66⟩
instance : cJ prog 67 67:=⟨call67⟩
instance : cJ prog 68 68:=⟨call68⟩
instance : cJ prog 69 69:=⟨call69⟩
instance : cJ prog 70 70:=⟨call70⟩
instance : cJ prog 71 71:=⟨call71⟩
instance : cJ prog 72 72:=⟨call72⟩
instance : cJ prog 73 73:=⟨call73⟩
instance : cJ prog 74 74:=⟨call74⟩
instance : cJ prog 75 75:=⟨call75⟩
instance : cJ prog 76 76:=⟨call76⟩
instance : cJ prog 77 77:=⟨call77⟩
instance : cJ prog 78 78:=⟨call78⟩
instance : cJ prog 79 79:=⟨call79⟩
instance : cJ prog 80 80:=⟨call80⟩
instance : cJ prog 81 81:=⟨call81⟩
instance : cJ prog 82 82:=⟨call82⟩
instance : cJ prog 83 83:=⟨call83⟩
instance : cJ prog 84 84:=⟨call84⟩
instance : cJ prog 85 85:=⟨call85⟩
instance : cJ prog 86 86:=⟨call86⟩
instance : cJ prog 87 87:=⟨call87⟩
instance : cJ prog 88 88:=⟨call88⟩
instance : cJ prog 89 89:=⟨call89⟩
instance : cJ prog 90 90:=⟨call90⟩
instance : cJ prog 94 94:=⟨call94⟩
instance : cJ prog 96 96:=⟨call96⟩
instance : cJ prog 97 97:=⟨call97⟩
instance : cJ prog 98 98:=⟨call98⟩
instance : cJ prog 99 99:=⟨call99⟩
instance : cJ prog 100 100:=⟨call100⟩
instance : cJ prog 101 101:=⟨call101⟩
instance : cJ prog 102 102:=⟨call102⟩
instance : cJ prog 103 103:=⟨call103⟩
instance : cJ prog 104 104:=⟨call104⟩
instance : cJ prog 105 105:=⟨call105⟩
instance : cJ prog 106 106:=⟨call106⟩
instance : cJ prog 107 107:=⟨call107⟩
instance : cJ prog 108 108:=⟨call108⟩
instance : cJ prog 110 110:=⟨call110⟩
instance : cJ prog 111 111:=⟨call111⟩
instance : cJ prog 112 112:=⟨call112⟩
instance : cJ prog 113 113:=⟨call113⟩
instance : cJ prog 114 114:=⟨call114⟩
instance : cJ prog 115 115:=⟨call115⟩
instance : cJ prog 116 116:=⟨call116⟩
instance : cJ prog 117 117:=⟨call117⟩
instance : cJ prog 118 118:=⟨call118⟩
instance : cJ prog 119 119:=⟨call119⟩
instance : cJ prog 120 120:=⟨call120⟩
instance : cJ prog 121 121:=⟨call121⟩
instance : cJ prog 122 122:=⟨call122⟩
instance : cJ prog 123 123:=⟨call123⟩
instance : cJ prog 124 124:=⟨call124⟩
instance : cJ prog 125 125:=⟨call125⟩
instance : cJ prog 126 126:=⟨call126⟩
instance : cJ prog 127 127:=⟨call127⟩
instance : cJ prog 128 128:=⟨call128⟩
instance : cJ prog 129 129:=⟨call129⟩
instance : cJ prog 130 130:=⟨call130⟩
instance : cJ prog 131 131:=⟨call131⟩
instance : cJ prog 132 132:=⟨call132⟩
instance : cJ prog 133 133:=⟨call133⟩
instance : cJ prog 134 134:=⟨call134⟩
instance : cJ prog 135 135:=⟨call135⟩
instance : cJ prog 136 136:=⟨call136⟩
instance : cJ prog 139 139:=⟨call139⟩
instance : cJ prog 140 140:=⟨call140⟩
instance : cJ prog 141 141:=⟨call141⟩
instance : cJ prog 142 142:=⟨call142⟩
instance : cJ prog 143 143:=⟨call143⟩
instance : cJ prog 144 144:=⟨call144⟩
instance : cJ prog 145 145:=⟨call145⟩
instance : cJ prog 146 146:=⟨call146⟩
instance : cJ prog 147 147:=⟨call147⟩
instance : cJ prog 148 148:=⟨call148⟩
instance : cJ prog 149 149:=⟨call149⟩
instance : cJ prog 150 150:=⟨call150⟩
instance : cJ prog 151 151:=⟨call151⟩
instance : cJ prog 152 152:=⟨call152⟩
instance : cJ prog 153 153:=⟨call153⟩
instance : cJ prog 154 154:=⟨call154⟩
instance : cJ prog 155 155:=⟨call155⟩
instance : cJ prog 156 156:=⟨call156⟩
instance : cJ prog 157 157:=⟨call157⟩
instance : cJ prog 158 158:=⟨call158⟩
instance : cJ prog 159 159:=⟨call159⟩
instance : cJ prog 160 160:=⟨call160⟩
instance : cJ prog 161 161:=⟨call161⟩
instance : cJ prog 162 162:=⟨call162⟩
instance : cJ prog 163 163:=⟨call163⟩
instance : cJ prog 164 164:=⟨call164⟩
instance : cJ prog 165 165:=⟨call165⟩
instance : cJ prog 166 166:=⟨call166⟩
instance : cJ prog 167 167:=⟨call167⟩
instance : cJ prog 168 168:=⟨call168⟩
instance : cJ prog 169 169:=⟨call169⟩
instance : cJ prog 170 170:=⟨call170⟩
instance : cJ prog 171 171:=⟨call171⟩
instance : cJ prog 172 172:=⟨call172⟩
instance : cJ prog 173 173:=⟨call173⟩
instance : cJ prog 174 174:=⟨call174⟩
instance : cJ prog 175 175:=⟨call175⟩
instance : cJ prog 176 176:=⟨call176⟩
instance : cJ prog 177 177:=⟨call177⟩
instance : cJ prog 178 178:=⟨call178⟩
instance : cJ prog 179 179:=⟨call179⟩
instance : cJ prog 180 180:=⟨call180⟩
instance : cJ prog 181 181:=⟨call181⟩
instance : cJ prog 182 182:=⟨call182⟩
instance : cJ prog 186 186:=⟨call186⟩
instance : cJ prog 187 187:=⟨call187⟩
instance : cJ prog 188 188:=⟨call188⟩
instance : cJ prog 189 189:=⟨call189⟩
instance : cJ prog 190 190:=⟨call190⟩
instance : cJ prog 191 191:=⟨call191⟩
instance : cJ prog 192 192:=⟨call192⟩
instance : cJ prog 193 193:=⟨call193⟩
instance : cJ prog 194 194:=⟨call194⟩
instance : cJ prog 195 195:=⟨call195⟩
instance : cJ prog 196 196:=⟨call196⟩
instance : cJ prog 197 197:=⟨call197⟩
instance : cJ prog 198 198:=⟨call198⟩
instance : cJ prog 199 199:=⟨call199⟩
instance : cJ prog 200 200:=⟨call200⟩
instance : cJ prog 201 201:=⟨call201⟩
instance : cJ prog 202 202:=⟨call202⟩
instance : cJ prog 203 203:=⟨call203⟩
instance : cJ prog 204 204:=⟨call204⟩
instance : cJ prog 205 205:=⟨call205⟩
instance : cJ prog 206 206:=⟨call206⟩
instance : cJ prog 207 207:=⟨call207⟩
instance : cJ prog 208 208:=⟨call208⟩
instance : cJ prog 209 209:=⟨call209⟩
instance : cJ prog 210 210:=⟨call210⟩
instance : cJ prog 211 211:=⟨call211⟩
instance : cJ prog 212 212:=⟨call212⟩
instance : cJ prog 213 213:=⟨call213⟩
instance : cJ prog 214 214:=⟨call214⟩
instance : cJ prog 215 215:=⟨call215⟩
instance : cJ prog 216 216:=⟨call216⟩
instance : cJ prog 217 217:=⟨call217⟩
instance : cJ prog 218 218:=⟨call218⟩
instance : cJ prog 224 224:=⟨call224⟩
instance : cJ prog 225 225:=⟨call225⟩
instance : cJ prog 226 226:=⟨call226⟩
instance : cJ prog 227 227:=⟨call227⟩
instance : cJ prog 228 228:=⟨call228⟩
instance : cJ prog 229 229:=⟨call229⟩
instance : cJ prog 230 230:=⟨call230⟩
instance : cJ prog 231 231:=⟨call231⟩
instance : cJ prog 232 232:=⟨call232⟩
instance : cJ prog 233 233:=⟨call233⟩
instance : cJ prog 234 234:=⟨call234⟩
instance : cJ prog 235 235:=⟨call235⟩
instance : cJ prog 236 236:=⟨call236⟩
instance : cJ prog 237 237:=⟨call237⟩
instance : cJ prog 238 238:=⟨call238⟩
instance : cJ prog 239 239:=⟨call239⟩
instance : cJ prog 240 240:=⟨call240⟩
instance : cJ prog 241 241:=⟨call241⟩
instance : cJ prog 242 242:=⟨call242⟩
instance : cJ prog 243 243:=⟨call243⟩
instance : cJ prog 244 244:=⟨call244⟩
instance : cJ prog 245 245:=⟨call245⟩
instance : cJ prog 246 246:=⟨call246⟩
instance : cJ prog 247 247:=⟨call247⟩
instance : cJ prog 248 248:=⟨call248⟩
instance : cJ prog 249 249:=⟨call249⟩
instance : cJ prog 250 250:=⟨call250⟩
instance : cJ prog 251 251:=⟨call251⟩
instance : cJ prog 252 252:=⟨call252⟩
instance : cJ prog 253 253:=⟨call253⟩
instance : cJ prog 254 254:=⟨call254⟩
instance : cJ prog 256 256:=⟨call256⟩
instance : cJ prog 257 257:=⟨call257⟩
instance : cJ prog 258 258:=⟨call258⟩
instance : cJ prog 259 259:=⟨call259⟩
instance : cJ prog 260 260:=⟨call260⟩
instance : cJ prog 261 261:=⟨call261⟩
instance : cJ prog 262 262:=⟨call262⟩
instance : cJ prog 263 263:=⟨call263⟩
instance : cJ prog 264 264:=⟨call264⟩
instance : cJ prog 265 265:=⟨call265⟩
instance : cJ prog 266 266:=⟨call266⟩
instance : cJ prog 267 267:=⟨call267⟩
instance : cJ prog 268 268:=⟨call268⟩
instance : cJ prog 269 269:=⟨call269⟩
instance : cJ prog 270 270:=⟨call270⟩
instance : cJ prog 271 271:=⟨call271⟩
instance : cJ prog 272 272:=⟨call272⟩
instance : cJ prog 273 273:=⟨call273⟩
instance : cJ prog 274 274:=⟨call274⟩
instance : cJ prog 275 275:=⟨call275⟩
instance : cJ prog 276 276:=⟨call276⟩
instance : cJ prog 278 278:=⟨call278⟩
instance : cJ prog 279 279:=⟨call279⟩
instance : cJ prog 280 280:=⟨call280⟩
instance : cJ prog 281 281:=⟨call281⟩
instance : cJ prog 282 282:=⟨call282⟩
instance : cJ prog 283 283:=⟨call283⟩
instance : cJ prog 284 284:=⟨call284⟩
instance : cJ prog 285 285:=⟨call285⟩
instance : cJ prog 286 286:=⟨call286⟩
instance : cJ prog 287 287:=⟨call287⟩
instance : cJ prog 288 288:=⟨call288⟩
instance : cJ prog 289 289:=⟨call289⟩
instance : cJ prog 290 290:=⟨call290⟩
instance : cJ prog 291 291:=⟨call291⟩
instance : cJ prog 292 292:=⟨call292⟩
instance : cJ prog 293 293:=⟨call293⟩
instance : cJ prog 294 294:=⟨call294⟩
instance : cJ prog 295 295:=⟨call295⟩
instance : cJ prog 296 296:=⟨call296⟩
instance : cJ prog 297 297:=⟨call297⟩
instance : cJ prog 298 298:=⟨call298⟩
instance : cJ prog 299 299:=⟨call299⟩
instance : cJ prog 300 300:=⟨call300⟩
instance : cJ prog 301 301:=⟨call301⟩
instance : cJ prog 302 302:=⟨call302⟩
instance : cJ prog 303 303:=⟨call303⟩
instance : cJ prog 304 304:=⟨call304⟩
instance : cJ prog 305 305:=⟨call305⟩
instance : cJ prog 306 306:=⟨call306⟩
instance : cJ prog 307 307:=⟨call307⟩
instance : cJ prog 308 308:=⟨call308⟩
instance : cJ prog 309 309:=⟨call309⟩
instance : cJ prog 310 310:=⟨call310⟩
instance : cJ prog 311 311:=⟨call311⟩
instance : cJ prog 312 312:=⟨call312⟩
instance : cJ prog 313 313:=⟨call313⟩
instance : cJ prog 314 314:=⟨call314⟩
theorem Tryz.mixed:prog.follows .mixedOrders=true:=by kernel_rfl
end Go.Proofs
namespace Go.Bs
open Go.ChangeShapes Go.WideShapes Go.ChangeAt Go.RowKit
theorem Ct.calls {P:Program} {f:FuncId} {args:Array Value} {W:World} (h:Ct P f args W [eZ W] (fun v L'=>v=.bool true∧∃ R,L'=eZ W::R)) :
 Calls P f args W fun e w'=>e=.returned (.bool true)∧Below W.heap.size W w':=by
 have hs:Sat W [eZ W] W:=⟨rfl,rfl,rfl,hp W,fun _=>none,fun _ _ _=>rfl,dk.le_refl _,fun _ _ e=>by simp at e,fun _ _=>rfl,trivial⟩
 refine (h W hs).mono ?_;rintro e w' ⟨v,L',rfl,⟨rfl,R,rfl⟩,ny⟩;refine ⟨rfl,?_⟩;obtain ⟨a,b,c,h1,h2,d,l1,l2,hB,hR⟩:=ny
 have Sn:∀ k,k<W.heap.size→w'.heap[k]?=W.heap[k]?:=fun k hk=>by
  have h3:=hB k hk;rw [Array.getElem?_eq_getElem hk] at h3 ⊢
  exact l1 k _ h3
 refine ⟨a,b,c,?_,Sn⟩;rcases Nat.lt_or_ge w'.heap.size W.heap.size with cQ|Kk
 ·have h4:=Sn w'.heap.size cQ;rw [Array.getElem?_eq_none (aT _),Array.getElem?_eq_getElem cQ] at h4
  cases h4
 ·exact Kk
section
variable {H:Type} {enc:TypeId × Value→H} {P:Program}
theorem qX (hl:laidOutB P=true) {W W':World} (hb:Below W.heap.size W W'):∀ {ts:List TypeId} {vs:List Value} {ds:List (DataW H)} {ps:List MemPlace},
 (∀ t∈ts,P.readableRec t=true∧t<P.types.size)→(∀ x∈ps,x.block<W.heap.size)→DataW.TrodAll enc P W 0 (fun _=>true) true ts vs ds ps →
 DataW.TrodAll enc P W' 0 (fun b=>decide (b<W.heap.size)) true ts vs ds ps
 | [],[],[],_,_,_,h=>h
 | t::ts,v::vs,d::ds,ps,ht,cQ,h=>by
  obtain ⟨p,q,h1,h2,rfl⟩:=h;have h3:=ht t (List.mem_cons_self ..)
  exact ⟨p,q,Below.trod hl h3.1 h3.2 h1 hb (fun x hx=>cQ x (List.mem_append_left _ hx)),
   qX hl hb (fun t' h'=>ht t' (aU _ h')) (fun x hx=>cQ x (List.mem_append_right _ hx)) h2,rfl⟩
 | [],[],_::_,_,_,_,h=>h.elim
 | [],_::_,_,_,_,_,h=>h.elim
 | _::_,[],_,_,_,_,h=>h.elim
 | _::_,_::_,[],_,_,_,h=>h.elim
theorem KI {f:Func} {s:ChangeSpec} {apart fresh handsOn:Bool} {W W':World} {args:Array Value} {ds gs:List (DataW H)} {before:List MemPlace} {tb:TypeId}
 (hW:DataW.Whole enc P f.params.toList s.vars apart W args.toList ds gs before) (hv:s.vars=[]) (Dd:s.fn H ds={ results:=[.lit (.bool true)],args:=ds })
 (PE:f.resultTypes=#[tb]) (KJ:P.underlying tb=some .bool) (hl:laidOutB P=true) (hr:∀ t∈f.params.toList,P.readableRec t=true∧t<P.types.size) (hb:Below W.heap.size W W') :
 s.post enc P f apart fresh handsOn false W args (.bool true) W':=by
 have cQ:=hW.lt;have Vg:=hW;obtain ⟨p,q,hA,hV,rfl,RT,yQ⟩:=hW;rw [hv] at hV
 have hg:gs=[]∧q=[]:=by
  cases gs with
  | nil=>exact ⟨rfl,hV⟩
  | cons _ _=>exact hV.elim
 obtain ⟨rfl,rfl⟩:=hg;refine ⟨ds,[],p++[],[],p,[],Vg,?_,?_,?_,?_,fun h=>by cases h⟩
 ·rw [aK,Dd,PE];refine ⟨[],[],⟨1,?_⟩,rfl,rfl⟩
  simp [DataW.trod,KJ,Value.cells]
 ·rw [aK,Dd];exact qX hl hb hr (fun x hx=>cQ x (by simpa using hx)) hA
 ·rw [hv,aK,Dd];exact rfl
 ·exact World.keptBut_mono (fun _ f=>f.elim) (Below.frame hb fun _=>False)
end
theorem wU {a:Int} (h:(Lit.int .i64 a).wf=true):-9223372036854775808≤a∧a≤9223372036854775807:=by
 have h1:IntKind.i64.min = -9223372036854775808:=rfl;have h2:IntKind.i64.max=9223372036854775807:=rfl;simp only [Lit.wf,Bool.and_eq_true,decide_eq_true_eq] at h
 omega
end Go.Bs
namespace Go.Bs
open Go.ChangeShapes Go.WideShapes Go.ChangeAt Go.RowKit
section
variable {P:Program} {W:World} {t e:TypeId} {cs:List Value} {n:Nat}
def Arg (P:Program) (W:World) (t:TypeId) (cs:List Value):Prop :=
 ∃ (H:Type) (enc:TypeId × Value→H) (base:Nat) (sp:Nat→Bool) (held:Bool) (KK:Nat) (x:DataW H × List MemPlace),DataW.trod enc P W base sp held KK t cs=some x∧∀ m∈x.1.weights P t,m≤reachBytes
theorem Bt {k:IntKind} (ht:P.underlying t=some (.int k)) (h:Arg P W t cs):∃ m,cs=[.int k m]∧(Lit.int k m).wf=true:=by
 obtain ⟨H,enc,base,sp,held,KK,x,h1,h2⟩:=h;obtain ⟨m,h3,_,h4⟩:=DataW.trod_int ht h1;exact ⟨m,h3,h4⟩
theorem uY:∀ {css:List (List Value)},0<n→(∀ c∈css,c.length=n)→∀ j,css.flatten[j]?=(css[j / n]?).bind (fun c=>c[j % n]?)
 | [],_,_,j=>by simp
 | c::css,h0,h,j=>by
  have hc:=h c (List.mem_cons_self ..);simp only [List.flatten_cons];rcases Nat.lt_or_ge j n with hj|hj
  ·rw [List.getElem?_append_left (by omega),Nat.div_eq_of_lt hj,Nat.mod_eq_of_lt hj]
   simp
  ·rw [List.getElem?_append_right (by omega),hc,uY h0 (fun c' h'=>h c' (aU _ h')) (j - n)]
   have e1:j / n=(j - n) / n+1:=by
    conv=>lhs;rw [show j=(j - n)+n by omega]
    exact Nat.add_div_right _ h0
   have e2:j % n=(j - n) % n:=by
    conv=>lhs;rw [show j=(j - n)+n by omega]
    exact Nat.add_mod_right _ _
   rw [e1,e2]
   simp
theorem fc:∀ {css:List (List Value)},(∀ c∈css,c.length=n)→css.flatten.length=css.length*n
 | [],_=>by simp
 | c::css,h=>by
  have:=h c (List.mem_cons_self ..);have:=fc (css:=css) (fun c' h'=>h c' (aU _ h'));simp only [List.flatten_cons,aa,aR,Nat.add_mul,Nat.one_mul]
  omega
theorem nF {base:Nat} {a:Addr} {c:List Value} (h:W.cells? base a n=some c):c.length=n∧∀ r u,c[r]?=some u→W.cell? (a.add r)=some u:=by
 unfold World.cells? at h
 split at h
 ·have hl:=mapM_some_length h;simp only [List.length_range] at hl
  refine ⟨hl,fun r u hr=>?_⟩;have cQ:r<n:=by rw [← hl];exact (List.getElem?_eq_some_iff.1 hr).1
  have:=mapM_some_get h r r (by simp [cQ]);rw [this,hr]
 ·cases h
theorem add_plain (g o k:Nat):(⟨g,o,none⟩:Addr).add k=⟨g,o+k,none⟩:=by
 unfold Addr.add
 split
 ·rename_i h;subst h;rfl
 ·rfl
theorem Ai (ht:P.underlying t=some (.slice e)) (hn:P.cellsOf e=n) (h0:0<n) (h:Arg P W t cs) :
 ∃ v,∃ css:List (List Value),cs=[v]∧cF [eZ W] n v css.length css.flatten∧css.length*P.bytesOf e≤reachBytes∧∀ c∈css,c.length=n∧Arg P W e c:=by
 subst hn;obtain ⟨H,enc,base,sp,held,KK,x,h1,h2⟩:=h;rcases DataW.trod_slice ht h1 with ⟨rfl,rfl⟩|⟨a,len,cap,KL,rest,m,rfl,rfl,rfl,hb,hl,hm,hlen,Hv,_,_⟩
 ·exact ⟨_,[],rfl,cF.nil _ _,by simp,fun c hc=>by simp at hc⟩
 ·have hex:∀ i,i<len→∃ c y,W.cells? base (a.add (i*P.cellsOf e)) (P.cellsOf e)=some c∧DataW.trod enc P W base sp held m e c=some y∧KL[i]?=some y:=fun i hi=>by
   have h3:=Hv i hi;rw [ae (by omega)] at h3
   cases hc:W.cells? base (a.add (i*P.cellsOf e)) (P.cellsOf e) with
   | none=>rw [hc] at h3;cases h3
   | some c=>rw [hc] at h3;exact ⟨c,_,rfl,h3,ae (by omega)⟩
  have So:∀ c∈(List.range len).map (fun i=>(W.cells? base (a.add (i*P.cellsOf e)) (P.cellsOf e)).getD []),∃ i,i<len∧W.cells? base (a.add (i*P.cellsOf e)) (P.cellsOf e)=some c:=fun c hc=>by
   obtain ⟨i,hi,rfl⟩:=aD.1 hc;obtain ⟨c',y,h3,_⟩:=hex i (List.mem_range.1 hi);exact ⟨i,List.mem_range.1 hi,by rw [h3];rfl⟩
  refine ⟨_,(List.range len).map (fun i=>(W.cells? base (a.add (i*P.cellsOf e)) (P.cellsOf e)).getD []),rfl,?_,?_,fun c hc=>?_⟩
  ·intro hh hx
   have OE:∀ c∈(List.range len).map (fun i=>(W.cells? base (a.add (i*P.cellsOf e)) (P.cellsOf e)).getD []),c.length=P.cellsOf e:=fun c hc=>by
    obtain ⟨i,hi,h3⟩:=So c hc;exact (nF h3).1
   refine ⟨fc OE,some a,cap,by simp,by simpa using hl,hm,fun h=>by simp at h,fun j u hj=>?_⟩;rw [uY h0 OE] at hj
   simp only [Option.bind_eq_some_iff] at hj
   obtain ⟨c,tQ,rm⟩:=hj;simp only [aI,Option.map_eq_some_iff] at tQ
   obtain ⟨i,hi,rfl⟩:=tQ
   have XP:i=j / P.cellsOf e∧i<len:=by
    have h8:=(List.getElem?_eq_some_iff.1 hi).1;simp only [List.length_range] at h8
    rw [List.getElem?_range h8] at hi
    cases hi
    exact ⟨rfl,h8⟩
   obtain ⟨c',y,h3,_⟩:=hex i XP.2;rw [h3] at rm
   have h4:=(nF h3).2 _ _ rm;obtain ⟨c0,y0,XQ,_⟩:=hex 0 (by omega);have Sp:=(nF XQ).2 0 _ (ae (by rw [(nF XQ).1];exact h0));obtain ⟨g,o,XR⟩:=a
   have vN:XR=none:=by
    cases XR with
    | none=>rfl
    | some s =>
     rw [M6] at Sp
     unfold dk.cell at Sp
     simp only [Nat.zero_mul,Addr.add,aH,Option.isSome_some] at Sp
     split at Sp<;>cases Sp
   subst vN
   have h5:((⟨g,o,none⟩:Addr).add (i*P.cellsOf e)).add (j % P.cellsOf e)=⟨g,o+j,none⟩:=by
    have:i*P.cellsOf e+j % P.cellsOf e=j:=by rw [XP.1];exact Nat.div_add_mod' j _
    rw [add_plain,add_plain,Nat.add_assoc,this]
   rw [h5] at h4
   exact ⟨g,o,rfl,Rd.base .zero h4 hh hx⟩
  ·simp only [ab,List.length_range];have:=h2 ((KL.length+rest.length)*P.bytesOf e) (by simp [DataW.weights,ht]);have h3:len*P.bytesOf e≤(KL.length+rest.length)*P.bytesOf e:=Nat.mul_le_mul_right _ (by omega)
   omega
  ·obtain ⟨i,hi,h3⟩:=So c hc;obtain ⟨c',y,h4,h5,h6⟩:=hex i hi;rw [h3] at h4
   cases h4
   refine ⟨(nF h3).1,H,enc,base,sp,held,m,y,h5,fun k hk=>h2 k ?_⟩;simp only [DataW.weights,ht,aQ,aJ];refine Or.inr (Or.inl ?_)
   have sC:∀ {l:List (DataW H × List MemPlace)} {y:DataW H × List MemPlace} {k:Nat},y∈l→k∈y.1.weights P e→k∈DataW.weightsAll P e (l.map (·.1)):=by
    intro l
    induction l with
    | nil=>intro y k h;simp at h
    | cons z l ih =>
     intro y k h hk;simp only [List.map_cons,DataW.weightsAll,aJ];rcases aQ.1 h with rfl|h
     ·exact Or.inl hk
     ·exact Or.inr (ih h hk)
   exact sC (ax h6) hk
theorem ub {α:Type} {f:α→List Value} {ok:α→Prop}:∀ {css:List (List Value)},(∀ c∈css,∃ a,c=f a∧ok a)→∃ l:List α,css=l.map f∧∀ a∈l,ok a
 | [],_=>⟨[],rfl,fun a h=>by simp at h⟩
 | c::css,h=>by
  obtain ⟨a,rfl,ha⟩:=h c (List.mem_cons_self ..);obtain ⟨l,rfl,hs⟩:=ub (css:=css) fun c' h'=>h c' (aU _ h')
  refine ⟨a::l,rfl,fun b hb=>?_⟩;rcases aQ.1 hb with rfl|hb
  ·exact ha
  ·exact hs b hb
theorem pH {α:Type} (g:α→Value):∀ l:List α,(l.map fun a=>[g a]).flatten=l.map g
 | []=>rfl
 | a::l=>by simp [pH g l]
theorem Rq (ht:P.underlying t=some (.slice e)) (he:P.underlying e=some (.int .u8)) (hn:P.cellsOf e=1) (hb:P.bytesOf e=1) (h:Arg P W t cs) :
 ∃ v,∃ l:List UInt8,cs=[v]∧da [eZ W] v l∧l.length≤reachBytes:=by
 obtain ⟨v,css,rfl,h1,h2,h3⟩:=Ai ht hn (by omega) h
 obtain ⟨l,rfl,_⟩:=ub (α:=UInt8) (f:=fun b=>[u8 b]) (ok:=fun _=>True) (css:=css) fun c hc=>by
  obtain ⟨m,rfl,hm⟩:=Bt he (h3 c hc).2;have e1:IntKind.u8.min=0:=rfl;have e2:IntKind.u8.max=255:=rfl;simp only [Lit.wf,Bool.and_eq_true,decide_eq_true_eq] at hm
  refine ⟨UInt8.ofNat m.toNat,?_,trivial⟩
  have e3:((UInt8.ofNat m.toNat).toNat:Int)=m:=by
   rw [UInt8.toNat_ofNat']
   omega
  simp only [u8,e3]
 rw [pH] at h1
 simp only [ab,hb] at h1 h2
 exact ⟨v,l,rfl,h1,by omega⟩
theorem KM {k:IntKind} (ht:P.underlying t=some (.slice e)) (he:P.underlying e=some (.int k)) (hn:P.cellsOf e=1) (h:Arg P W t cs) :
 ∃ v,∃ l:List Int,cs=[v]∧cF [eZ W] 1 v l.length (l.map (Value.int k))∧l.length*P.bytesOf e≤reachBytes∧∀ m∈l,(Lit.int k m).wf=true:=by
 obtain ⟨v,css,rfl,h1,h2,h3⟩:=Ai ht hn (by omega) h;obtain ⟨l,rfl,h4⟩:=ub (α:=Int) (f:=fun b=>[.int k b]) (ok:=fun m=>(Lit.int k m).wf=true) (css:=css) fun c hc=>Bt he (h3 c hc).2
 rw [pH] at h1
 simp only [ab] at h1 h2
 exact ⟨v,l,rfl,h1,h2,h4⟩
theorem PF {H:Type} {enc:TypeId × Value→H} {v:Value} {d:DataW H} {q:List MemPlace} {base:Nat} {sp:Nat→Bool} {held:Bool} (h:DataW.Trod enc P W base sp held t v d q) (hw:∀ m∈d.weights P t,m≤reachBytes):Arg P W t v.cells.toList:=by
 obtain ⟨KK,hf⟩:=h;exact ⟨H,enc,base,sp,held,KK,_,hf,hw⟩
def Ni (P:Program) (W:World) (t:TypeId) (v:Value):Prop:=(∃ base,Value.okWide P W .any base t v)∧Arg P W t v.cells.toList
def Nj (P:Program) (W:World):List TypeId→List Value→Prop
 | [],[]=>True
 | t::ts,v::vs=>Ni P W t v∧Nj P W ts vs
 | _,_=>False
theorem Hw {H:Type} {enc:TypeId × Value→H} {base b2:Nat} {sp:Nat→Bool} {held:Bool}:∀ {ts:List TypeId} {vs:List Value} {ds:List (DataW H)} {q:List MemPlace},
 DataW.TrodAll enc P W base sp held ts vs ds q→(∀ m∈DataW.weightsEach P ts ds,m≤reachBytes)→(∀ (j:Nat) t v,ts[j]?=some t→vs[j]?=some v→Value.okWide P W .any b2 t v)→Nj P W ts vs∧ds.length=ts.length
 | [],[],[],_,_,_,_=>⟨trivial,rfl⟩
 | t::ts,v::vs,d::ds,q,h,hw,hv=>by
  obtain ⟨p,q',h1,h2,rfl⟩:=h;have ih:=Hw (ts:=ts) (vs:=vs) (ds:=ds) h2 (fun m hm=>hw m (by simp only [DataW.weightsEach,aJ];exact Or.inr hm)) (fun j t v h3 h4=>hv (j+1) t v (by simpa using h3) (by simpa using h4));exact ⟨⟨⟨⟨b2,hv 0 t v rfl rfl⟩,PF h1 (fun m hm=>hw m (by simp only [DataW.weightsEach,aJ];exact Or.inl hm))⟩,ih.1⟩,by simp [ih.2]⟩
 | [],[],_::_,_,h,_,_=>h.elim
 | [],_::_,_,_,h,_,_=>h.elim
 | _::_,[],_,_,h,_,_=>h.elim
 | _::_,_::_,[],_,h,_,_=>h.elim
theorem KN {k:IntKind} {v:Value} (ht:P.underlying t=some (.int k)) (h:Ni P W t v):∃ m,v=.int k m∧(Lit.int k m).wf=true:=by
 obtain ⟨⟨b,h1⟩,h2⟩:=h;obtain ⟨n,rfl⟩:=Go.WideShapes.okWide_int ht h1;obtain ⟨m,h3,h4⟩:=Bt ht h2
 simp [Value.cells] at h3
 subst h3;exact ⟨_,rfl,h4⟩
theorem Fo {v:Value} (ht:P.underlying t=some (.slice e)) (h:Ni P W t v):Arg P W t [v]:=by
 obtain ⟨⟨b,h1⟩,h2⟩:=h;obtain ⟨a,l,c,rfl⟩:=Go.WideShapes.okWide_slice ht h1
 simpa [Value.cells] using h2
theorem Fp {H:Type} {enc:TypeId × Value→H} {a:Assume} {C:Checked} {os:Os} {f:FuncId} {fn:Func} {s:ChangeSpec} {conds:List PathCond} {apart fresh handsOn:Bool} {tb:TypeId}
 (own:ownKnob C.prog.godebug=none) (started:os.Started) (PG:C.prog.inits.idxOf? f=none) (hfn:C.prog.funcs[f]?=some fn)
 (witness:∃ (w:World) (tape:Tape) (i:Input),w.os=os∧(w.forCall tape i).Shaped C.prog∧i.vars=[]∧Input.okWide C.prog (w.forCall tape i) .any w.heap.size f i ∧
  s.pre6 enc C.prog fn conds apart (w.forCall tape i).memory i.args∧a.holds C.prog (lone (Frame.enter C.prog f i.args .normal) [] (w.forCall tape i)))
 (hv:s.vars=[]) (hvt:s.plain.varTypes C.prog=[]) (Dd:∀ ds:List (DataW H),ds.length=fn.params.toList.length→s.fn H ds={ results:=[.lit (.bool true)],args:=ds })
 (PE:fn.resultTypes=#[tb]) (KJ:C.prog.underlying tb=some .bool) (hl:laidOutB C.prog=true) (hr:∀ t∈fn.params.toList,C.prog.readableRec t=true∧t<C.prog.types.size)
 (walk:∀ (W:World) (vs:List Value),Nj C.prog W fn.params.toList vs→Calls C.prog f vs.toArray W fun e w'=>e=.returned (.bool true)∧Below W.heap.size W w') :
 ReturnsInHanded a C os f .any (s.pre6 enc C.prog fn conds apart) (s.post enc C.prog fn apart fresh handsOn false):=by
 refine returnsInHanded_of_change_sized own started PG hfn witness ?_;intro W base args ds gs before Vh hW _ XS _;have Vg:=hW;obtain ⟨p,q,hA,hV,rfl,RT,yQ⟩:=hW;rw [hv] at hV
 have hg:gs=[]:=by
  cases gs with
  | nil=>rfl
  | cons _ _=>exact hV.elim
 subst hg;rw [hvt,aK,aK] at XS
 obtain ⟨h1,h2⟩:=Hw hA (fun m hm=>by simpa using List.all_eq_true.1 XS m hm) (fun j t v h3 h4=>Vh j t v (by simpa using h3) (by simpa using h4));refine (walk W args.toList h1).mono fun e W' ⟨he,vO⟩=>?_
 subst he;exact ⟨_,rfl,KI Vg hv (Dd ds h2) PE KJ hl hr vO⟩
end
end Go.Bs
namespace Go.Bs
def be (n:Nat):Nat→List UInt8
 | 0=>[]
 | j+1=>UInt8.ofNat (n / 256 ^ j)::be n j
theorem cY (n:Nat):∀ j,(be n j).length=j
 | 0=>rfl
 | j+1=>by simp [be,cY n j]
end Go.Bs
namespace Go.Bs
def numOf (l:List UInt8):Nat:=l.foldl (fun a c=>(a*256) % 4294967296+c.toNat) 0
theorem wV (l:List UInt8) (c:UInt8):numOf (l++[c])=(numOf l*256) % 4294967296+c.toNat:=by simp [numOf]
theorem sD (l:List UInt8):numOf l<4294967296:=by
 rcases List.eq_nil_or_concat l with rfl|⟨m,c,rfl⟩
 ·simp [numOf]
 ·rw [List.concat_eq_append,wV];have:=c.toNat_lt
  omega
structure eY where
 left:List UInt8
 bad:Bool
def eY.fits (s:eY) (n:Int):Bool:=!s.bad && decide (0≤n) && decide (n≤s.left.length)
def eY.take (s:eY) (n:Int):List UInt8:=if s.fits n then s.left.take n.toNat else []
def eY.next (s:eY) (n:Int):eY:=if s.fits n then ⟨s.left.drop n.toNat,false⟩ else ⟨[],true⟩
def eY.num (s:eY) (n:Int):Nat:=numOf (s.take n)
def eY.len (s:eY) (iC:Int):Int:=if (s.num 2:Int) > max iC 0 then -1 else s.num 2
def eY.bytes (s:eY) (iC:Int):List UInt8:=(s.next 2).take (s.len iC)
def eY.sE (s:eY) (iC:Int):eY:=(s.next 2).next (s.len iC)
theorem eY.take_length (s:eY) (n:Int):(s.take n).length≤s.left.length:=by
 unfold eY.take;split
 ·simp;omega
 ·simp
theorem eY.jc (s:eY) (n:Int):(s.next n).left.length≤s.left.length:=by
 unfold eY.next;split
 ·simp
 ·simp
end Go.Bs
namespace Go.Bs
theorem be4 (n:Nat):be n 4=[UInt8.ofNat (n / 16777216),UInt8.ofNat (n / 65536),UInt8.ofNat (n / 256),UInt8.ofNat n]:=by
 simp [be]
theorem qq (n:Nat) (h:n<4294967296):numOf (be n 4)=n:=by
 rw [be4]
 simp [numOf]
 omega
theorem IG (n:Nat) (h:n<65536):numOf (be n 2)=n:=by
 simp [be,numOf]
 omega
def enc (b:List UInt8):List UInt8:=be b.length 2++b
theorem iw (b:List UInt8):(enc b).length=b.length+2:=by simp [enc,cY];omega
theorem jY {a rest:List UInt8}:eY.take ⟨a++rest,false⟩ (a.length:Int)=a∧eY.next ⟨a++rest,false⟩ (a.length:Int)=⟨rest,false⟩:=by
 have h:eY.fits ⟨a++rest,false⟩ (a.length:Int)=true:=by
  simp only [eY.fits,Bool.not_false,Bool.true_and,Bool.and_eq_true,decide_eq_true_eq,aa]
  omega
 constructor
 ·simp only [eY.take,h,if_true]
  simp
 ·simp only [eY.next,h,if_true]
  simp
theorem ue (x rest:List UInt8) (m:Int) (hx:x.length≤65535) (hm:(x.length:Int)≤max m 0):eY.bytes ⟨enc x++rest,false⟩ m=x∧eY.sE ⟨enc x++rest,false⟩ m=⟨rest,false⟩:=by
 have e1:enc x++rest=be x.length 2++(x++rest):=by simp [enc]
 have h1:=jY (a:=be x.length 2) (rest:=x++rest);rw [cY] at h1
 have h2:eY.num ⟨enc x++rest,false⟩ 2=x.length:=by
  rw [eY.num,e1]
  show numOf (eY.take ⟨be x.length 2++(x++rest),false⟩ ((2:Nat):Int))=_
  rw [h1.1];exact IG _ (by omega)
 have h3:eY.len ⟨enc x++rest,false⟩ m=x.length:=by rw [eY.len,h2,aB (by omega)]
 have h4:eY.next ⟨enc x++rest,false⟩ 2=⟨x++rest,false⟩:=by
  rw [e1];exact h1.2
 have h5:=jY (a:=x) (rest:=rest);exact ⟨by rw [eY.bytes,h3,h4];exact h5.1,by rw [eY.sE,h3,h4];exact h5.2⟩
end Go.Bs
namespace Go.Proofs
attribute [local irreducible] Bs.cE Bs.Do Bs.O Bs.W Bs.Fin Bs.A Bs.Ct Bs.cF Bs.Rd Bs.Sat Bs.cM Bs.Ob Bs.dJ Bs.View Bs.cC Bs.Ex Bs.dI Bs.Pu Bs.eZ Bs.dK Bs.eh
open Go.Bs
open Tryz
abbrev _root_.Go.Bs.na:TypeId:=5
theorem jS {l:List UInt8}:∀ c∈l.map u8,c.oneCell'=true:=by
 intro c hc;obtain ⟨x,_,rfl⟩:=aD.1 hc
 rfl
abbrev cR (v:Value) (l:List UInt8):cK:=dJ na 1 v l.length (l.map u8)
theorem dy (R:List cK) (e:World) (v:Value) (l:List UInt8) (h:da R v l) (hk:l.length≤140737488355328) :
 Ct prog 66 #[v] e R (fun v' L'=>∃ ad c,v'=.slice ad l.length c∧L'=cR (.slice ad l.length c) l::R):=by
 refine a7 (h.shape zo) ?_;rintro ⟨⟨ad,cap,rfl,h3,h4,h5,h6⟩,_⟩;refine a8 (args:=[_]) func66 rfl ntmps66 results66 rfl ?_
 cases ad with
 | none =>
  have tR:l=[]:=by
   have:=h5 rfl;exact List.eq_nil_of_length_eq_zero zo
  subst tR;refine wB ?_;exact aY _ rfl (di _ _) ⟨_,_,rfl,rfl⟩
 | some a =>
  (repeat (refine wA ?_;intros))
  refine O.fo (fW (n:=1) (k:=0) (cap:=0) zo zl rfl) ?_;refine bD (bm rfl rfl rfl .zero h rfl rfl jS zm zo fun lE c' lG=>?_)
  refine wB ?_;refine aY _ rfl ?_ ⟨lE,c',by simp [z9],rfl⟩;simp only [aC];exact aX
theorem KO {ad:Option Addr} {c k:Nat} {b:List UInt8} {R:List cK} (h:k≤b.length):cC (cR (.slice ad b.length c) b::R) (cR (.slice ad (b.take k).length c) (b.take k)::R):=by
 have e1:(b.take k).length=k:=by rw [aE];omega
 have:=nC (E:=na) (n:=1) (c:=c) (ad:=ad) (xs:=b.map u8) (R:=R) h;rw [Nat.mul_one,← List.map_take] at this
 unfold cR;rw [e1];exact this
theorem wW {v:Value} {b:List UInt8} {L R:List cK} (p:cT L (cR v b) R):∀ h,dK L h→∃ ad c,v=.slice ad b.length c∧b.length≤c∧c≤maxLen:=fun h x=>by
 obtain ⟨⟨ad,c,h1,h2,h3,_⟩,_⟩:=gx p h x;exact ⟨ad,c,h1,h2,h3⟩
theorem De {E n k c:Nat} {ad:Option Addr} {xs:List Value} {L R:List cK} (p:cT L (dJ E n (.slice ad k c) k xs) R) (hk:0<k):∀ h,dK L h→∃ g,ad=some ⟨g,0,none⟩:=fun h x=>by
 obtain ⟨⟨a,c',h1,_,_,h4⟩,_⟩:=gx p h x
 cases h1
 rcases h4 with ⟨_,_,h0⟩|h0
 ·omega
 ·exact h0
theorem da.qV {L:List cK} {ad:Option Addr} {c k:Nat} {l:List UInt8} (h:da L (.slice ad l.length c) l) (hk:k≤l.length):da L (.slice ad k c) (l.take k):=by
 have:=cF.qV (L:=L) h hk;rw [Nat.mul_one,← List.map_take] at this
 have e:(l.take k).length=k:=by simp;omega
 unfold da;rw [e];exact this
theorem da.one {L:List cK} {v:Value} {l:List UInt8} (h:da L v l):∀ x,dK L x→v.oneCell'=true:=fun x hx=>by
 obtain ⟨⟨ad,c,rfl,_⟩,_⟩:=h.shape zo x hx
 rfl
theorem cz {L:List cK} {v:Value} {l:List UInt8} (h:da L v l):∀ x,dK L x→v.oneCell'=true:=da.one h
end Go.Proofs
namespace Go.Bs
abbrev dX:=Value × List UInt8
def dE (L:List cK) (l:List dX):Prop:=∀ a∈l,da L a.1 a.2
theorem dE.tail {A:cK} {L:List cK} {l:List dX} (h:dE L l):dE (A::L) l:=fun a ha=>(h a ha).tail
theorem cC.under {L L':List cK} (f:cC L L'):∀ M:List cK,cC (M++L) (M++L')
 | []=>f
 | _::M=>bh (cC.under f M)
theorem all_append {M N R:List cK}:cC (dI M::dI N::R) (dI (M++N)::R):=by
 refine cn cW (cn (cC.under cW M) ?_);rw [← aM];exact dN
theorem Aj {M N R:List cK}:cC (dI (M++N)::R) (dI M::dI N::R):=by
 refine cn cW ?_;rw [aM];exact cn (cC.under dN M) dN
theorem Dg {A:cK}:∀ {M:List cK} {h:dk},A∈M→dK M h→∃ h1,dk.le h1 h∧A h1
 | [],_,hm,_=>by cases hm
 | B::M,h,hm,x=>by
  obtain ⟨h1,h2,a,b,c,hB,hM⟩:=x;rcases aQ.1 hm with rfl|hm
  ·exact ⟨h1,b,hB⟩
  ·obtain ⟨h3,d,hA⟩:=Dg hm hM;exact ⟨h3,dk.le_trans d c,hA⟩
def item (a:dX):cK:=View 1 a.1 a.2.length (a.2.map u8)
def cG (l:List dX):cK:=dI (l.map item)
theorem ef {l:List dX} {R:List cK}:dE (cG l::R) l:=fun a ha h x=>by
 obtain ⟨h1,h2,_,b,_,hA,_⟩:=x;obtain ⟨h3,c,hi⟩:=Dg (aD.2 ⟨a,ha,rfl⟩) hA;exact View.le hi (dk.le_trans c b)
theorem dC {R:List cK}:cC R (cG []::R):=dN (M:=[])
theorem eK {l m:List dX} {R:List cK}:cC (cG l::cG m::R) (cG (l++m)::R):=by
 unfold cG;rw [ah];exact all_append
theorem pI {l m:List dX} {R:List cK}:cC (cG (l++m)::R) (cG l::cG m::R):=by
 unfold cG;rw [ah];exact Aj
theorem IH {a:dX} {R:List cK}:cC (View 1 a.1 a.2.length (a.2.map u8)::R) (cG [a]::R):=dN (M:=[item a])
theorem jx {a:dX} {R:List cK}:cC (dJ na 1 a.1 a.2.length (a.2.map u8)::R) (cG [a]::R):=wQ.trans IH
theorem Fq {l:List dX} {R:List cK} (k:Nat):cC (cG l::R) (cG (l.drop k)::R):=by
 conv=>lhs;rw [← List.take_append_drop k l]
 exact pI.trans (cC.drop aX)
abbrev dZ:TypeId:=30
abbrev cU (v:Value) (l:List dX):cK:=dJ dZ 1 v l.length (l.map (·.1))
section
variable {α:Type} {f:α→List Value} {n:Nat}
theorem Ak (hf:∀ a,(f a).length=n):∀ l:List α,(l.flatMap f).length=l.length*n
 | []=>by simp
 | m::l=>by
  rw [aV,aa,Ak hf l,hf,aR,Nat.add_mul];omega
theorem mv (hf:∀ a,(f a).length=n) (l:List α) (i:Nat):(l.flatMap f).take (i*n)=(l.take i).flatMap f:=by
 induction l generalizing i with
 | nil=>simp
 | cons m l ih =>
  cases i with
  | zero=>simp
  | succ i =>
   have h1:(i+1)*n=i*n+n:=Nat.succ_mul i n;rw [aV,List.take_succ_cons,aV,List.take_append,hf,aF (by rw [hf];omega),← ih]
   congr 2;omega
theorem wX (hf:∀ a,(f a).length=n) (l:List α) (i:Nat):(l.flatMap f).drop (i*n)=(l.drop i).flatMap f:=by
 induction l generalizing i with
 | nil=>simp
 | cons m l ih =>
  cases i with
  | zero=>simp
  | succ i =>
   have h1:(i+1)*n=i*n+n:=Nat.succ_mul i n;rw [aV,List.drop_succ_cons,List.drop_append,hf,List.drop_of_length_le (by rw [hf];omega),← ih];simp only [List.nil_append]
   congr 1;omega
theorem rv {l:List α} (h:∀ a∈l,∀ c∈f a,c.oneCell'=true):∀ c∈l.flatMap f,c.oneCell'=true:=fun c hc=>by
 obtain ⟨a,ha,hc⟩:=List.mem_flatMap.1 hc;exact h a ha c hc
end
end Go.Bs
namespace Go.Proofs
open Go.Bs
open Tryz
theorem II {W:World} {v:Value} (h:Ni prog W 22 v):∃ l:List Int,cF [eZ W] 1 v l.length (l.map fun x=>.int .i64 x)∧∀ x∈l,-9223372036854775808≤x∧x≤9223372036854775807:=by
 obtain ⟨v',l,e0,h1,h2⟩:=KM underlying22 underlying3 zK (Fo underlying22 h)
 cases e0
 exact ⟨l,h1,fun x hx=>wU (h2.2 x hx)⟩
end Go.Proofs
namespace Go.Bs
def Bu:List Value→Nat→List Value→List Value
 | cs,_,[]=>cs
 | cs,o,v::r=>Bu (cs.set o v) (o+1) r
theorem uZ:∀ (vs cs:List Value) (o:Nat),(Bu cs o vs).length=cs.length
 | [],_,_=>rfl
 | v::r,cs,o=>by rw [Bu,uZ r,List.length_set]
theorem Al:∀ (vs cs:List Value) (o:Nat),o+vs.length≤cs.length→(Bu cs o vs).take (o+vs.length)=cs.take o++vs
 | [],cs,o,_=>by simp [Bu]
 | v::r,cs,o,h=>by
  rw [aR] at h
  have h1:=Al r (cs.set o v) (o+1) (by rw [List.length_set];omega)
  have h2:(cs.set o v).take (o+1)=cs.take o++[v]:=by
   rw [aA (by rw [List.length_set];omega),List.getElem_set_self,List.take_set_of_le (aT _)]
  rw [Bu,aR,show o+(r.length+1)=o+1+r.length by omega,h1,h2,aM]
  rfl
theorem Sat.setCells {e:World} {R:List cK} {g:Nat} {T:TypeId} {fz:Nat × Nat}:∀ (vs:List Value) (cs:List Value) (o:Nat) (w:World),Sat e (cM g cs T fz::R) w→Sat e (cM g (Bu cs o vs) T fz::R) (w.setCells g o vs)
 | [],_,_,_,h=>h
 | v::r,cs,o,w,h=>Sat.setCells r (cs.set o v) (o+1) _ (h.setCell v)
def Fs (E:TypeId) (v:Value) (k:Nat) (xs:List Value):cK:=fun h=>xs.length=k ∧
 ∃ g cap cur,v=.slice (some ⟨g,0,none⟩) k cap∧cM g cur E (cap,cap+1) h∧k≤cap∧cap≤maxLen∧cur.length=cap∧cur.take k=xs
theorem Dh {E:TypeId} {k:Nat} {v:Value} {xs:List Value} {R:List cK} {h:dk} (x:dK (Fs E v k xs::R) h) :
 xs.length=k∧∃ g cap cur,v=.slice (some ⟨g,0,none⟩) k cap∧k≤cap∧cap≤maxLen∧cur.length=cap∧cur.take k=xs∧dK (cM g cur E (cap,cap+1)::R) h:=by
 obtain ⟨h1,h2,a,b,c,⟨hl,g,cap,cur,hv,hg,r1,r2,r3,r4⟩,hR⟩:=x;exact ⟨hl,g,cap,cur,hv,r1,r2,r3,r4,h1,h2,a,b,c,hg,hR⟩
theorem Nk {E:TypeId} {k g cap:Nat} {cur:List Value} {R:List cK} (r1:k≤cap) (r2:cap≤maxLen) (r3:cur.length=cap) :
 cC (cM g cur E (cap,cap+1)::R) (Fs E (.slice (some ⟨g,0,none⟩) k cap) k (cur.take k)::R):=fun _=>jt fun _ hg =>
 ⟨by rw [aE,r3];exact Nat.min_eq_left r1,g,cap,cur,rfl,hg,r1,r2,r3,rfl⟩
def Di (E:TypeId) (v:Value) (k:Nat) (xs:List Value):cK:=fun h=>dJ E 1 v k xs h∨Fs E v k xs h
theorem OF {E:TypeId} {k:Nat} {v:Value} {xs:List Value} {R:List cK}:cC (dJ E 1 v k xs::R) (Di E v k xs::R):=fun _=>jt fun _ h=>.inl h
theorem KP {E:TypeId} {k:Nat} {v:Value} {xs:List Value} {R:List cK}:cC (Fs E v k xs::R) (Di E v k xs::R):=fun _=>jt fun _ h=>.inr h
theorem Hx {E:TypeId} {k:Nat} {v:Value} {xs:List Value} {R:List cK} {h:dk} (x:dK (Di E v k xs::R) h):dK (dJ E 1 v k xs::R) h∨dK (Fs E v k xs::R) h:=by
 obtain ⟨h1,h2,a,b,c,hA,hR⟩:=x;rcases hA with hA|hA
 ·exact .inl ⟨h1,h2,a,b,c,hA,hR⟩
 ·exact .inr ⟨h1,h2,a,b,c,hA,hR⟩
theorem cF.Vi {L R:List cK} {E:TypeId} {k:Nat} {v:Value} {xs:List Value} (p:cT L (Fs E v k xs) R):cF L 1 v k xs:=fun h x=>by
 obtain ⟨hl,g,cap,cur,hv,r1,r2,r3,r4,y⟩:=Dh (p.out h x);subst hv;refine ⟨by omega,some ⟨g,0,none⟩,cap,rfl,r1,r2,(fun e=>by cases e),fun j u hj=>⟨g,0,rfl,?_⟩⟩;refine (bR (R:=R) (cs:=cur) (T:=E) (fz:=(cap,cap+1)) .zero ?_) h y;rw [hF,aC];rw [← r4,List.getElem?_take] at hj
 split at hj
 ·exact hj
 ·cases hj
theorem cF.Vj {L R:List cK} {E:TypeId} {k:Nat} {v:Value} {xs:List Value} (p:cT L (Di E v k xs) R):cF L 1 v k xs:=fun h x=>by
 rcases Hx (p.out h x) with y|y
 ·exact ba (L:=dJ E 1 v k xs::R) .zero h y
 ·exact cF.Vi (L:=Fs E v k xs::R) .zero h y
section
variable {P:Program} {N:Fr} {Q:fM} {σ:Env} {e:World} {L:List cK}
variable {d:Nat} {op:Op} {ty:TypeId} {pos:String} {af:Array Edge} {gd:Option (Nat × Bool)} {K:Env→List cK→Prop}
theorem Do.PH {t T el n:Nat} {x:Operand} {l:List UInt8} [i:ja P t el n] [j:ij P el .u8] [s:su P T] (h:ev σ x=some (.string (str l))) (hl:l.length≤maxLen) (hd:Nat.blt d N.n=true)
 (k:∀ ad c,K ((d,.slice ad l.length c)::σ) (Di el (.slice ad l.length c) l.length (l.map u8)::L)) :
 Do P N ⟨some d,.convert T t x,ty,pos,af,gd⟩ K σ e L:=fun a w ha hs K' Q' hK=>by
 have kD:=pC l;have Kk:=grownCap_ge w l.length 0 el;have MN:=grownCap_le_maxLen w l.length 0 el hl;have Pv:(str l).data.map (fun b=>Value.int .u8 b.toNat)=(l.map u8).toArray:=by simp [str];intro a _;rfl
 obtain ⟨mT,IB⟩:∃ mT:Array Value,mT=(l.map u8).toArray++Array.replicate (grownCap w l.length 0 el - l.length) (Value.int .u8 0):=⟨_,rfl⟩
 have fy:Sat e L w.drew:=hs;have KB:(w.drew.alloc (.cells mT el)).heap[w.heap.size]?=some (.cells mT el (0,0)):=heap_alloc_new w.drew _;have Sq:mT.size=grownCap w l.length 0 el:=by rw [IB,Array.size_append,Array.size_replicate,List.size_toArray,ab];omega
 refine eN (w':=(w.drew.alloc (.cells mT el)).freeze ⟨w.heap.size,mT.size,none⟩ 1) (v:=.slice (some ⟨w.heap.size,0,none⟩) l.length (grownCap w l.length 0 el)) ?_ (hK _ _ _ _ (k _ _) (ha.put hd _) (Sat.cN ?_ KP))
 ·have IC:∀ o:Array Value,(w.drew.alloc (.cells o el)).shape? w.heap.size=some (el,o.size):=fun o=>by
   unfold World.shape?;rw [show (w.drew.alloc (.cells o el)).heap[w.heap.size]?=some (.cells o el) from heap_alloc_new w.drew _]
  have Pw:(Conv.stringToBytes el (str l)).run P w=.ok (.slice (some ⟨w.heap.size,0,none⟩) l.length (grownCap w l.length 0 el)) ((w.drew.alloc (.cells mT el)).freeze ⟨w.heap.size,mT.size,none⟩ 1):=by
   unfold Conv.stringToBytes;simp only [Sem.run_bind,run_choose,Question.forced,Bool.false_eq_true,if_false,Result.andThen_ok,kD,Pv];rw [show (Question.appendCap l.length 0 el).cut (w.tape w.drawn (Question.appendCap l.length 0 el))=grownCap w l.length 0 el from rfl,← IB];simp only [newRow,Sem.run_bind,run_newObj,Result.andThen_ok,Sem.run_pure,markStringish,run_shape];rw [show (World.shape? { heap:=w.heap.push (.cells mT el),tape:=w.tape,drawn:=w.drawn+1,os:=w.os,output:=w.output } w.heap.size)=some (el,mT.size) from IC mT]
   rfl
  simp only [execOp,ha.ev h,convert,Sem.run_bind,run_underlying i.kN,run_underlying j.kN,run_underlying s.kN,Result.andThen_ok,Pw,Sem.run_pure]
 ·have kY:=fy.alloc (.cells mT el);have hf:=Af (w.drew.alloc (.cells mT el)) ⟨w.heap.size,mT.size,none⟩ 1;refine kY.change hf.1 hf.2.1 hf.2.2 fun h1 hle hA=>?_
  have vL:h1 w.heap.size=some (.cells mT el):=hA;refine ⟨fun b=>if b=w.heap.size then some (.cells mT el (mT.size,mT.size+1)) else none,?_,?_,?_,?_⟩
  ·intro b o hb;simp only [hp];rw [mW _ _ _ _ _ KB]
   by_cases eb:b=w.heap.size
   ·rw [aH eb];simpa [eb] using hb
   ·simp [eb] at hb
  ·refine ⟨by simp,w.heap.size,_,mT.toList,rfl,?_,Kk,MN,?_,?_⟩
   ·rw [← Sq];simp [cM,Ob]
   ·rw [Array.length_toList,Sq]
   ·rw [IB,Array.toList_append];exact List.take_left' (by simp)
  ·intro b o hb hn
   by_cases eb:b=w.heap.size
   ·subst eb;rw [vL] at hn;cases hn
   ·simp [eb] at hb
  ·intro b hn o ho;have mV:b≠w.heap.size:=by rintro rfl;rw [vL] at hn;cases hn
   simp only [hp] at ho ⊢
   rw [mW _ _ _ _ _ KB,aB mV];exact ho
theorem Do.Hy {t el b m k:Nat} {z:Value} {x y:Operand} {v u:Value} {xs ys:List Value} {R:List cK} [i:ja P t el 1] [j:qU P el z 1 b]
 (hx:ev σ x=some v) (hy:ev σ y=some u) (hd:Nat.blt d N.n=true) (p:cT L (Di el v k xs) R) (r:cF R 1 u m ys) (hz:z.cells.size=1) (h1:∀ c∈ys,c.oneCell'=true)
 (CW:k+m≤maxLen) (hb:(k+m)*b≤140737488355328)
 (kk:∀ ad c,K ((d,.slice ad (k+m) c)::σ) (Di el (.slice ad (k+m) c) (k+m) (xs++ys)::R)) :
 Do P N ⟨some d,.call { callee:=.builtin .append,args:=#[x,y],argTypes:=#[t,t] },ty,pos,af,gd⟩ K σ e L:=fun a w ha hs K' Q' hK=>by
 have fy:=hs.cN p.out;rcases Hx fy.2.2.2 with hO|hO
 ·refine bm (K:=fun σ' L'=>∃ ad c,σ'=(d,.slice ad (k+m) c)::σ∧L'=dJ el 1 (.slice ad (k+m) c) (k+m) (xs++ys)::R) (L:=dJ el 1 v k xs::R) hx hy hd .zero r rfl hz h1 CW hb (fun ad c _=>⟨ad,c,rfl,rfl⟩) a w ha ⟨fy.1,fy.2.1,fy.2.2.1,hO⟩ K' Q' ?_;rintro _ _ a' w' ⟨ad,c,rfl,rfl⟩ z8 ny;exact hK _ _ _ _ (kk ad c) z8 (ny.cN OF)
 have hex:∀ v' w',(Builtin.append_ #[t,t] ty #[v,u]).run P w=.ok v' w'→K' (a.put (some d) v') w' →
  Oper.wp P ⟨some d,.call { callee:=.builtin .append,args:=#[x,y],argTypes:=#[t,t] },ty,pos,af,gd⟩ a w K' Q':=fun v' w' hr hk =>
  eN (v:=v') (w':=w') (by simp [execOp,resolve,invoke,builtin,ha.ev hx,ha.ev hy,hr]) hk
 obtain ⟨ti,t1,t2,t3,t4⟩:=j.parts;subst t4;obtain ⟨hl,g,jR,cur,hv,r1,r2,r3,r4,hB⟩:=Dh hO;subst hv;have kY:Sat e R w:=fy.cN (cC.drop aX);have M7:Sat e (cM g cur el (jR,jR+1)::R) w:=⟨hs.1,hs.2.1,hs.2.2.1,hB⟩
 obtain ⟨ad,cap,hu,rl⟩:=r.cells kY;have vM:ys.length=m:=by have:=(r _ kY.2.2.2).1;omega
 subst hu
 by_cases hm:m=0
 ·subst hm;have Va:ys=[]:=List.eq_nil_of_length_eq_zero vM;subst Va;refine hex (.slice (some ⟨g,0,none⟩) k jR) w (lz t ty el i w _ k jR r1 ad cap) (hK _ _ _ _ (kk (some ⟨g,0,none⟩) jR) (ha.put hd _) ?_);rw [aK];exact fy
 have mV:ys≠[]:=by intro h0;rw [h0] at vM;simp at vM;omega
 obtain ⟨a2,rfl,rm⟩:=rl mV
 have hg:w.heap[g]?=some (.cells cur.toArray el (jR,jR+1)):=by
  obtain ⟨Bn,Pm,_,b',_,vL,_⟩:=hB;exact b' g _ vL
 have sx:∀ o u,cur[o]?=some u→w.cell? ⟨g,o,none⟩=some u:=fun o u ho=>(bR (R:=R) (cs:=cur) (T:=el) (fz:=(jR,jR+1)) .zero (by rw [hF];exact ho)).at M7
 by_cases pD:k+m≤jR
 ·have hr:=run_append_room_cells (P:=P) (w:=w) t ty el ti i.kN t1 g 0 k jR a2 m cap ys (by rw [t3];omega) rm h1 pD (fun j hj=>by
   rw [t3]
   rw [sx _ _ (ae (show 0+k*1+j<cur.length by omega))];rfl) (fun j hj=>by
   rw [t3];unfold World.frozen?;rw [hg];simp only [Bool.and_eq_false_iff,decide_eq_false_iff_not]
   left;omega)
  refine hex _ _ hr (hK _ _ _ _ (kk (some ⟨g,0,none⟩) jR) (ha.put hd _) ?_);have h5:=Sat.setCells ys cur (0+k*ti.size) w M7;have fS:=Nk (E:=el) (g:=g) (R:=R) (cur:=Bu cur (0+k*ti.size) ys) pD r2 (by rw [uZ,r3])
  have fq:(Bu cur (0+k*ti.size) ys).take (k+m)=xs++ys:=by
   rw [t3,show 0+k*1=k by omega,← vM,Al ys cur k (by omega),r4]
  rw [fq] at fS
  exact (h5.cN fS).cN KP
 ·have holds:∀ j u,xs[j]?=some u→w.cell? ((⟨g,0,none⟩:Addr).add j)=some u:=fun j u hj=>by
   rw [Addr.add_lit,aC];refine sx _ _ ?_;rw [← r4,List.getElem?_take] at hj
   split at hj
   ·exact hj
   ·cases hj
  have hr:=run_append_grow (P:=P) w t ty el ti z i.kN t1 t2 ⟨g,0,none⟩ k jR xs (by rw [t3];omega) holds a2 m cap ys (by rw [t3];omega) rm (by omega) (by simp only [maxLen] at CW;omega) (growslice_fits (by omega) hb);refine hex _ _ hr (hK _ _ _ _ (kk _ _) (ha.put hd _) (Sat.cN ?_ OF));have Kk:=grownCap_ge w (k+m) jR el;have MN:grownCap w (k+m) jR el≤maxLen:=grownCap_le_maxLen w (k+m) jR el CW;have Vk:Sat e R w.drew:=kY;have CX:Sat e (cM _ _ el (0,0)::R) _:=(Vk.alloc (.cells (xs.toArray++ys.toArray++Builtin.zeroCells z.cells (grownCap w (k+m) jR el - (k+m))) el)).cN (qp _ _ _ _)
  have kD:(xs.toArray++ys.toArray++Builtin.zeroCells z.cells (grownCap w (k+m) jR el - (k+m))).toList.length=grownCap w (k+m) jR el*1:=by
   simp only [Array.length_toList,Array.size_append,List.size_toArray,size_zeroCells,hz,hl,vM]
   omega
  have fS:=fW (E:=el) (n:=1) (g:=w.heap.size) (R:=R) Kk MN kD
  have fq:(xs.toArray++ys.toArray++Builtin.zeroCells z.cells (grownCap w (k+m) jR el - (k+m))).toList.take ((k+m)*1)=xs++ys:=by
   simp only [Array.toList_append,aM];rw [← aM];exact List.take_left' (by rw [aa,hl,vM];omega)
  rw [fq] at fS
  exact CX.cN fS
end
end Go.Bs
